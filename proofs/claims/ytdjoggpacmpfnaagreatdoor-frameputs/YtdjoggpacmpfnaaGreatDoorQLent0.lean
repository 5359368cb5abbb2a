/- Texts of this proof. -/
import Derived.Test.YtdjoggpacmpfnaaGreatDoorQFrame7
import Derived.Test.YtdjoggpacmpfnaaGreatDoorQSpCall
open Go Go.Sp Go.Proofs.Tryz
set_option maxRecDepth 100000
set_option maxHeartbeats 1000000
attribute [local irreducible] obj Own ak
namespace Go.Proofs.YtdjoggpacmpfnaaGreatDoor
theorem YM {r:Fr} {b:Nat} {c0 c1 c2 c3 bR cD cB c9 bk bc bB bG bD cj bE bF bn cx cN cO eM cn bJ dm dw dG bI cq fl y:Value}:aj prog 146 #[.pointer (some ⟨b,0,none⟩)] r [obj b 129 [c0,c1,c2,c3,bR,cD,cB,c9,bk,bc,bB,bG,bD,cj,bE,bF,bn,cx,cN,cO,eM,cn,bJ,dm,dw,dG,bI,cq,fl,y]] (aF fun v aa=>v=.tuple #[]∧aa=[obj b 129 [c0,c1,.int .i64 0,c3,bR,cD,cB,c9,bk,bc,bB,bG,bD,cj,bE,bF,bn,cx,cN,cO,eM,cn,bJ,dm,dw,dG,bI,cq,fl,y]]):=by
 refine aj.o func146 fun g hg R hR=>?_;refine U 6 ?_;refine O.nil<|S.cH (b:=b) (cs' :=[c0,c1,.int .i64 0,c3,bR,cD,cB,c9,bk,bc,bB,bG,bD,cj,bE,bF,bn,cx,cN,cO,eM,cn,bJ,dm,dw,dG,bI,cq,fl,y]) an rfl ?_;refine S.gl results146 fun w hw=>ax.end_ hR hw ?_;exact pk ⟨rfl,rfl⟩
theorem YL {r:Fr} {b:Nat} {c0 c1 c2 c3 bR cD cB c9 bk bc bB bG bD cj bE bF bn cx cN cO eM cn bJ dm dw dG bI cq fl y:Value}:aj prog 149 #[.pointer (some ⟨b,0,none⟩)] r [obj b 129 [c0,c1,c2,c3,bR,cD,cB,c9,bk,bc,bB,bG,bD,cj,bE,bF,bn,cx,cN,cO,eM,cn,bJ,dm,dw,dG,bI,cq,fl,y]] (aF fun v aa=>v=.tuple #[]∧aa=[obj b 129 [c0,c1,c2,c3,bR,.int .i64 0,.int .i64 0,.int .i64 0,.slice none 0 0,.slice none 0 0,.slice none 0 0,bG,bD,cj,bE,bF,bn,cx,cN,cO,eM,cn,bJ,dm,dw,dG,bI,cq,fl,y]]):=by
 refine aj.o func149 fun g hg R hR=>?_;refine U 3 ?_;refine O.op (.p rfl) (.build (cs:=[_,_,_,_,_]) underlying27 rfl rfl rfl rfl rfl)<|U 8 ?_;refine O.nil<|S.cH (b:=b) (cs' :=[c0,c1,c2,c3,bR,.int .i64 0,.int .i64 0,.int .i64 0,.slice none 0 0,.slice none 0 0,.slice none 0 0,bG,bD,cj,bE,bF,bn,cx,cN,cO,eM,cn,bJ,dm,dw,dG,bI,cq,fl,y]) an rfl ?_;refine S.gl results149 fun w hw=>ax.end_ hR hw ?_;exact pk ⟨rfl,rfl⟩
theorem YF {r:Fr} {b:Nat} {c0 c1 c2 c3 bR cD cB c9 bk bc bB bG bD cj bE bF bn cx cN cO eM cn bJ dm dw dG bI cq fl y:Value}:aj prog 152 #[.pointer (some ⟨b,0,none⟩)] r [obj b 129 [c0,c1,c2,c3,bR,cD,cB,c9,bk,bc,bB,bG,bD,cj,bE,bF,bn,cx,cN,cO,eM,cn,bJ,dm,dw,dG,bI,cq,fl,y]] (aF fun v aa=>v=.tuple #[]∧aa=[obj b 129 [c0,c1,c2,c3,.string ⟨#[]⟩,cD,cB,c9,bk,bc,bB,bG,bD,cj,bE,bF,bn,cx,cN,cO,eM,cn,bJ,dm,dw,dG,bI,cq,fl,y]]):=by
 refine aj.o func152 fun g hg R hR=>?_;refine U 6 ?_;refine O.nil<|S.cH (b:=b) (cs' :=[c0,c1,c2,c3,.string ⟨#[]⟩,cD,cB,c9,bk,bc,bB,bG,bD,cj,bE,bF,bn,cx,cN,cO,eM,cn,bJ,dm,dw,dG,bI,cq,fl,y]) an rfl ?_;refine S.gl results152 fun w hw=>ax.end_ hR hw ?_;exact pk ⟨rfl,rfl⟩
theorem YK {r:Fr} {b:Nat} {c0 c1 c2 c3 bR cD cB c9 bk bc bB bG bD cj bE bF bn cx cN cO eM cn bJ dm dw dG bI cq fl y:Value}:aj prog 155 #[.pointer (some ⟨b,0,none⟩)] r [obj b 129 [c0,c1,c2,c3,bR,cD,cB,c9,bk,bc,bB,bG,bD,cj,bE,bF,bn,cx,cN,cO,eM,cn,bJ,dm,dw,dG,bI,cq,fl,y]] (aF fun v aa=>v=.tuple #[]∧aa=[obj b 129 [c0,c1,c2,c3,.string ⟨#[]⟩,cD,cB,c9,bk,bc,bB,bG,bD,.int .u8 0,.slice none 0 0,.slice none 0 0,.slice none 0 0,cx,cN,cO,eM,cn,bJ,dm,dw,dG,bI,cq,fl,y]]):=by
 refine aj.o func155 fun g hg R hR=>?_;refine U 3 ?_;refine O.op (.p rfl) (.build (cs:=[_,_,_,_]) underlying35 rfl rfl rfl rfl rfl)<|U 8 ?_;refine O.nil<|S.cH (b:=b) (cs' :=[c0,c1,c2,c3,.string ⟨#[]⟩,cD,cB,c9,bk,bc,bB,bG,bD,.int .u8 0,.slice none 0 0,.slice none 0 0,.slice none 0 0,cx,cN,cO,eM,cn,bJ,dm,dw,dG,bI,cq,fl,y]) an rfl ?_;refine S.gl results155 fun w hw=>ax.end_ hR hw ?_;exact pk ⟨rfl,rfl⟩
theorem YN {r:Fr} {b:Nat} {c0 c1 c2 c3 bR cD cB c9 bk bc bB bG bD cj bE bF bn cx cN cO eM cn bJ dm dw dG bI cq fl y:Value}:aj prog 158 #[.pointer (some ⟨b,0,none⟩)] r [obj b 129 [c0,c1,c2,c3,bR,cD,cB,c9,bk,bc,bB,bG,bD,cj,bE,bF,bn,cx,cN,cO,eM,cn,bJ,dm,dw,dG,bI,cq,fl,y]] (aF fun v aa=>v=.tuple #[]∧aa=[obj b 129 [c0,c1,c2,c3,bR,cD,cB,c9,bk,bc,bB,bG,bD,cj,bE,bF,bn,.slice none 0 0,cN,cO,eM,cn,bJ,dm,dw,dG,bI,cq,fl,y]]):=by
 refine aj.o func158 fun g hg R hR=>?_;refine U 6 ?_;refine O.nil<|S.cH (b:=b) (cs' :=[c0,c1,c2,c3,bR,cD,cB,c9,bk,bc,bB,bG,bD,cj,bE,bF,bn,.slice none 0 0,cN,cO,eM,cn,bJ,dm,dw,dG,bI,cq,fl,y]) an rfl ?_;refine S.gl results158 fun w hw=>ax.end_ hR hw ?_;exact pk ⟨rfl,rfl⟩
theorem YE {r:Fr} {b:Nat} {c0 c1 c2 c3 bR cD cB c9 bk bc bB bG bD cj bE bF bn cx cN cO eM cn bJ dm dw dG bI cq fl y:Value}:aj prog 161 #[.pointer (some ⟨b,0,none⟩)] r [obj b 129 [c0,c1,c2,c3,bR,cD,cB,c9,bk,bc,bB,bG,bD,cj,bE,bF,bn,cx,cN,cO,eM,cn,bJ,dm,dw,dG,bI,cq,fl,y]] (aF fun v aa=>v=.tuple #[]∧aa=[obj b 129 [c0,c1,c2,c3,bR,cD,cB,c9,bk,bc,bB,bG,bD,cj,bE,bF,bn,cx,cN,cO,eM,cn,bJ,dm,dw,dG,bI,cq,.int .i64 0,y]]):=by
 refine aj.o func161 fun g hg R hR=>?_;refine U 6 ?_;refine O.nil<|S.cH (b:=b) (cs' :=[c0,c1,c2,c3,bR,cD,cB,c9,bk,bc,bB,bG,bD,cj,bE,bF,bn,cx,cN,cO,eM,cn,bJ,dm,dw,dG,bI,cq,.int .i64 0,y]) an rfl ?_;refine S.gl results161 fun w hw=>ax.end_ hR hw ?_;exact pk ⟨rfl,rfl⟩
theorem YI {r:Fr} {b:Nat} {c0 c1 c2 c3 bR cD cB c9 bk bc bB bG bD cj bE bF bn cx cN cO eM cn bJ dm dw dG bI cq fl y:Value}:aj prog 164 #[.pointer (some ⟨b,0,none⟩)] r [obj b 129 [c0,c1,c2,c3,bR,cD,cB,c9,bk,bc,bB,bG,bD,cj,bE,bF,bn,cx,cN,cO,eM,cn,bJ,dm,dw,dG,bI,cq,fl,y]] (aF fun v aa=>v=.tuple #[]∧aa=[obj b 129 [c0,c1,c2,.string ⟨#[]⟩,bR,cD,cB,c9,bk,bc,bB,bG,bD,cj,bE,bF,bn,cx,cN,cO,eM,cn,bJ,dm,dw,dG,bI,cq,fl,y]]):=by
 refine aj.o func164 fun g hg R hR=>?_;refine U 6 ?_;refine O.nil<|S.cH (b:=b) (cs' :=[c0,c1,c2,.string ⟨#[]⟩,bR,cD,cB,c9,bk,bc,bB,bG,bD,cj,bE,bF,bn,cx,cN,cO,eM,cn,bJ,dm,dw,dG,bI,cq,fl,y]) an rfl ?_;refine S.gl results164 fun w hw=>ax.end_ hR hw ?_;exact pk ⟨rfl,rfl⟩
theorem YJ {r:Fr} {b:Nat} {c0 c1 c2 c3 bR cD cB c9 bk bc bB bG bD cj bE bF bn cx cN cO eM cn bJ dm dw dG bI cq fl y:Value}:aj prog 167 #[.pointer (some ⟨b,0,none⟩)] r [obj b 129 [c0,c1,c2,c3,bR,cD,cB,c9,bk,bc,bB,bG,bD,cj,bE,bF,bn,cx,cN,cO,eM,cn,bJ,dm,dw,dG,bI,cq,fl,y]] (aF fun v aa=>v=.tuple #[]∧aa=[obj b 129 [c0,c1,c2,.string ⟨#[]⟩,bR,.int .i64 0,.int .i64 0,.int .i64 0,.slice none 0 0,.slice none 0 0,bB,.slice none 0 0,.slice none 0 0,cj,bE,bF,bn,.slice none 0 0,cN,cO,eM,cn,bJ,dm,dw,dG,bI,cq,fl,y]]):=by
 refine aj.o func167 fun g hg R hR=>?_;refine U 5 ?_;refine O.op (.p rfl) (.build (cs:=[_,_,_,_,_]) underlying27 rfl rfl rfl rfl rfl)<|O.op (.p rfl) (.build (cs:=[_,_]) underlying31 rfl rfl rfl rfl rfl)<|U 16 ?_;refine O.nil<|S.cH (b:=b) (cs' :=[c0,c1,c2,.string ⟨#[]⟩,bR,.int .i64 0,.int .i64 0,.int .i64 0,.slice none 0 0,.slice none 0 0,bB,.slice none 0 0,.slice none 0 0,cj,bE,bF,bn,.slice none 0 0,cN,cO,eM,cn,bJ,dm,dw,dG,bI,cq,fl,y]) an rfl ?_;refine S.gl results167 fun w hw=>ax.end_ hR hw ?_;exact pk ⟨rfl,rfl⟩
theorem YG {r:Fr} {b:Nat} {c0 c1 c2 c3 bR cD cB c9 bk bc bB bG bD cj bE bF bn cx cN cO eM cn bJ dm dw dG bI cq fl y:Value}:aj prog 170 #[.pointer (some ⟨b,0,none⟩)] r [obj b 129 [c0,c1,c2,c3,bR,cD,cB,c9,bk,bc,bB,bG,bD,cj,bE,bF,bn,cx,cN,cO,eM,cn,bJ,dm,dw,dG,bI,cq,fl,y]] (aF fun v aa=>v=.tuple #[]∧aa=[obj b 129 [c0,c1,c2,c3,bR,cD,cB,c9,bk,bc,bB,bG,bD,cj,bE,bF,bn,cx,.int .i64 0,.int .i64 0,.int .i64 0,.slice none 0 0,.slice none 0 0,.int .i64 0,.int .i64 0,.int .i64 0,.slice none 0 0,.slice none 0 0,fl,y]]):=by
 refine aj.o func170 fun g hg R hR=>?_;refine U 2 ?_;refine O.op (.p rfl) (.build (cs:=[_,_,_,_,_,_,_,_,_,_]) underlying38 rfl rfl rfl rfl rfl)<|U 4 ?_;refine O.nil<|S.cH (b:=b) (cs' :=[c0,c1,c2,c3,bR,cD,cB,c9,bk,bc,bB,bG,bD,cj,bE,bF,bn,cx,.int .i64 0,.int .i64 0,.int .i64 0,.slice none 0 0,.slice none 0 0,.int .i64 0,.int .i64 0,.int .i64 0,.slice none 0 0,.slice none 0 0,fl,y]) an rfl ?_;refine S.gl results170 fun w hw=>ax.end_ hR hw ?_;exact pk ⟨rfl,rfl⟩
theorem adb {g:bp} {oR bY:Nat} {x:Value} {kX :TypeId} {w:World} {R:Ending→World→Prop} {aa:List az} (hw:ax w g (obj bY kX [x]::aa)) (hR:∀ w,ax w g (obj bY kX [x]::aa)→R (.returned x) w) :
  CallsD prog 229 #[.pointer (some ⟨oR,0,none⟩),.pointer (some ⟨bY,0,none⟩)] .returning w (y4 g bY R):=by
 refine (n9 (R:=fun e w=>(∃ v,e=.returned v)∧ax w g (obj bY kX [x]::aa)) [.pointer (some ⟨oR,0,none⟩),.pointer (some ⟨bY,0,none⟩)] rfl func229 rfl rfl rfl rfl hw ?_).mono ?_
 rotate_left
 ·rintro e u' w' ⟨rfl,⟨v,rfl⟩,h⟩
  exact ⟨⟨v,rfl⟩,rfl,kX,x,aa,h,hR w' h⟩
 refine S.seq<|S.region rfl<|O.q 1 rfl<|O.op (.p rfl) (.wG underlying20 rfl)<|O.nil<|S.pK rfl<|S.skip<|S.gl results229 fun w hw=>?_;exact ⟨⟨_,rfl⟩,hw⟩
theorem ada {g:bp} {oR bY b:Nat} {v x:Value} {made bad:Bool} {kX EL:TypeId} {w:World} {R:Ending→World→Prop} {aa:List az} (hw:ax w g (obj bY kX [x]::obj oR EL [.pointer (some ⟨b,0,none⟩)]::obj b 196 [v,.bool made,.bool bad]::aa))
  (hR:∀ w,ax w g (obj bY kX [.int .u8 0]::obj b 196 [v,.bool made,.bool true]::aa)→R (.returned (.int .u8 0)) w) :
  CallsD prog 229 #[.pointer (some ⟨oR,0,none⟩),.pointer (some ⟨bY,0,none⟩)] (.panicking missing) w (y4 g bY R):=by
 refine (n9 (R:=fun e w=>(∃ v,e=.returned v)∧ax w g (obj bY kX [.int .u8 0]::obj b 196 [v,.bool made,.bool true]::aa)) [.pointer (some ⟨oR,0,none⟩),.pointer (some ⟨bY,0,none⟩)] rfl func229 rfl rfl rfl rfl hw ?_).mono ?_
 rotate_left
 ·rintro e u' w' ⟨rfl,⟨v,rfl⟩,h⟩
  exact ⟨⟨v,rfl⟩,rfl,kX,_,_,h,hR w' h⟩
 refine U 3 ?_;refine O.op (.p rfl) (.wH underlying20 rfl)<|U 6 ?_;refine O.op (.p rfl) (.vE underlying284 rfl)<|U 3 ?_;refine O.aD (.p rfl) (.alloc (cs:=[]) zeroValue284 rfl) ?_;rintro _ _ ⟨b3,rfl,rfl⟩;refine U 24 ?_;refine O.nil<|S.gl results229 fun w hw=>?_;exact ⟨⟨_,rfl⟩,hw.jr aC⟩
theorem ac_ {r:Fr} {b f:Nat} {v:Value} {made bad:Bool} {first cap:Array Value} {K:Value→Value→List az→Prop} {X:Value→Prop} (hc:ed prog f=true) (oW:∀ u v' ζ,K u v' ζ→u.oneCell' =true)
  (con:made=true→bad=false→aj prog f (first++#[]++cap) r [obj b 196 [v,.bool true,.bool false]] (dg (fun u aa=>∃ v' ζ,K u v' ζ∧aa=obj b 196 [v',.bool true,.bool false]::ζ) (fun ch aa=>ch=missing∧∃ v',X v' ∧aa=[obj b 196 [v',.bool true,.bool false]]))) :
  aj prog 140 #[.pointer (some ⟨b,0,none⟩),.func (.func f) first cap] r [obj b 196 [v,.bool made,.bool bad]] (aF fun u aa =>
   ((made && !bad)=false∧u=.int .u8 0∧aa=[obj b 196 [v,.bool made,.bool bad]])∨(made=true∧bad=false∧∃ v' ζ,K u v' ζ∧aa=obj b 196 [v',.bool true,.bool false]::ζ) ∨
   (made=true∧bad=false∧∃ v',X v' ∧u=.int .u8 0∧aa=[obj b 196 [v',.bool true,.bool true]])):=by
 refine aj.of (n:=12) [.pointer (some ⟨b,0,none⟩),.func (.func f) first cap] rfl func140 rfl rfl rfl fun g hg R hR=>?_;refine S.seq<|S.region rfl<|O.aD (.p rfl) (.box (cs:=[_]) rfl rfl) ?_;rintro _ _ ⟨b2,rfl,rfl⟩;refine O.aD (.p rfl) (.alloc (cs:=[.int .u8 0]) zeroValue5 rfl) ?_;rintro _ _ ⟨b4,rfl,rfl⟩;refine U 5 ?_;refine O.ug (.p rfl) rfl af rfl rfl an Jn ?_;refine O.op (.p rfl) ((by first|exact .pY rfl|exact .not rfl))<|U 1 ?_;refine S.cd rfl (fun h7=>?_) fun h7=>?_
 ·refine U 4 ?_
  refine O.nil<|S.O6 results140 vM rfl an fun w hw=>ax.end_ hR hw ?_;exact pk (.inl ⟨by revert h7;cases made<;>cases bad<;>simp,rfl,rfl⟩)
 ·obtain ⟨rfl,rfl⟩:made=true∧bad=false:=by revert h7;cases made<;>cases bad<;>simp
  refine U 4 ?_;refine O.defer rfl rfl rfl rfl<|U 4 ?_;refine O.Lm (.p rfl) rfl hc rfl rfl an ((con rfl rfl).sub hg) (fun a ch au w hF hX hW=>by (obtain ⟨rfl,v',Gk,rfl⟩:=hX;exact De results140 vM hF rfl aH af (ada (hW.jr aC) fun w hw=>ax.end_ hR hw ⟨_,.inr (.inr ⟨rfl,rfl,v',Gk,rfl,rfl⟩),aC⟩))) ?_;rintro v11 _ ⟨v',ζ,hK,rfl⟩;have hone:=oW _ _ _ hK;refine O.perm (List.Perm.cons _ List.perm_append_comm) ?_;simp only [List.cons_append,List.nil_append];refine U 1 ?_;refine O.nil<|S.r6 fun a w hf hd hw=>?_;exact De results140 vM hf rfl aH af (adb hw fun w hw=>ax.end_ hR hw ⟨_,.inr (.inl ⟨rfl,rfl,v',ζ,hK,rfl⟩),aC⟩)
theorem adl {g:bp} {oR bY:Nat} {x:Value} {kX :TypeId} {w:World} {R:Ending→World→Prop} {aa:List az} (hw:ax w g (obj bY kX [x]::aa)) (hR:∀ w,ax w g (obj bY kX [x]::aa)→R (.returned x) w) :
  CallsD prog 231 #[.pointer (some ⟨oR,0,none⟩),.pointer (some ⟨bY,0,none⟩)] .returning w (y4 g bY R):=by
 refine (n9 (R:=fun e w=>(∃ v,e=.returned v)∧ax w g (obj bY kX [x]::aa)) [.pointer (some ⟨oR,0,none⟩),.pointer (some ⟨bY,0,none⟩)] rfl func231 rfl rfl rfl rfl hw ?_).mono ?_
 rotate_left
 ·rintro e u' w' ⟨rfl,⟨v,rfl⟩,h⟩
  exact ⟨⟨v,rfl⟩,rfl,kX,x,aa,h,hR w' h⟩
 refine S.seq<|S.region rfl<|O.q 1 rfl<|O.op (.p rfl) (.wG underlying20 rfl)<|O.nil<|S.pK rfl<|S.skip<|S.gl results231 fun w hw=>?_;exact ⟨⟨_,rfl⟩,hw⟩
theorem adk {g:bp} {oR bY b:Nat} {v x:Value} {made bad:Bool} {kX EL:TypeId} {w:World} {R:Ending→World→Prop} {aa:List az} (hw:ax w g (obj bY kX [x]::obj oR EL [.pointer (some ⟨b,0,none⟩)]::obj b 196 [v,.bool made,.bool bad]::aa))
  (hR:∀ w,ax w g (obj bY kX [.int .i64 0]::obj b 196 [v,.bool made,.bool true]::aa)→R (.returned (.int .i64 0)) w) :
  CallsD prog 231 #[.pointer (some ⟨oR,0,none⟩),.pointer (some ⟨bY,0,none⟩)] (.panicking missing) w (y4 g bY R):=by
 refine (n9 (R:=fun e w=>(∃ v,e=.returned v)∧ax w g (obj bY kX [.int .i64 0]::obj b 196 [v,.bool made,.bool true]::aa)) [.pointer (some ⟨oR,0,none⟩),.pointer (some ⟨bY,0,none⟩)] rfl func231 rfl rfl rfl rfl hw ?_).mono ?_
 rotate_left
 ·rintro e u' w' ⟨rfl,⟨v,rfl⟩,h⟩
  exact ⟨⟨v,rfl⟩,rfl,kX,_,_,h,hR w' h⟩
 refine U 3 ?_;refine O.op (.p rfl) (.wH underlying20 rfl)<|U 6 ?_;refine O.op (.p rfl) (.vE underlying284 rfl)<|U 3 ?_;refine O.aD (.p rfl) (.alloc (cs:=[]) zeroValue284 rfl) ?_;rintro _ _ ⟨b3,rfl,rfl⟩;refine U 24 ?_;refine O.nil<|S.gl results231 fun w hw=>?_;exact ⟨⟨_,rfl⟩,hw.jr aC⟩
theorem adj {r:Fr} {b f:Nat} {v:Value} {made bad:Bool} {first cap:Array Value} {K:Value→Value→List az→Prop} {X:Value→Prop} (hc:ed prog f=true) (oW:∀ u v' ζ,K u v' ζ→u.oneCell' =true)
  (con:made=true→bad=false→aj prog f (first++#[]++cap) r [obj b 196 [v,.bool true,.bool false]] (dg (fun u aa=>∃ v' ζ,K u v' ζ∧aa=obj b 196 [v',.bool true,.bool false]::ζ) (fun ch aa=>ch=missing∧∃ v',X v' ∧aa=[obj b 196 [v',.bool true,.bool false]]))) :
  aj prog 142 #[.pointer (some ⟨b,0,none⟩),.func (.func f) first cap] r [obj b 196 [v,.bool made,.bool bad]] (aF fun u aa =>
   ((made && !bad)=false∧u=.int .i64 0∧aa=[obj b 196 [v,.bool made,.bool bad]])∨(made=true∧bad=false∧∃ v' ζ,K u v' ζ∧aa=obj b 196 [v',.bool true,.bool false]::ζ) ∨
   (made=true∧bad=false∧∃ v',X v' ∧u=.int .i64 0∧aa=[obj b 196 [v',.bool true,.bool true]])):=by
 refine aj.of (n:=12) [.pointer (some ⟨b,0,none⟩),.func (.func f) first cap] rfl func142 rfl rfl rfl fun g hg R hR=>?_;refine S.seq<|S.region rfl<|O.aD (.p rfl) (.box (cs:=[_]) rfl rfl) ?_;rintro _ _ ⟨b2,rfl,rfl⟩;refine O.aD (.p rfl) (.alloc (cs:=[.int .i64 0]) zeroValue3 rfl) ?_;rintro _ _ ⟨b4,rfl,rfl⟩;refine U 5 ?_;refine O.ug (.p rfl) rfl af rfl rfl an Jn ?_;refine O.op (.p rfl) ((by first|exact .pY rfl|exact .not rfl))<|U 1 ?_;refine S.cd rfl (fun h7=>?_) fun h7=>?_
 ·refine U 4 ?_
  refine O.nil<|S.O6 results142 CC rfl an fun w hw=>ax.end_ hR hw ?_;exact pk (.inl ⟨by revert h7;cases made<;>cases bad<;>simp,rfl,rfl⟩)
 ·obtain ⟨rfl,rfl⟩:made=true∧bad=false:=by revert h7;cases made<;>cases bad<;>simp
  refine U 4 ?_;refine O.defer rfl rfl rfl rfl<|U 4 ?_;refine O.Lm (.p rfl) rfl hc rfl rfl an ((con rfl rfl).sub hg) (fun a ch au w hF hX hW=>by (obtain ⟨rfl,v',Gk,rfl⟩:=hX;exact De results142 CC hF rfl aH af (adk (hW.jr aC) fun w hw=>ax.end_ hR hw ⟨_,.inr (.inr ⟨rfl,rfl,v',Gk,rfl,rfl⟩),aC⟩))) ?_;rintro v11 _ ⟨v',ζ,hK,rfl⟩;have hone:=oW _ _ _ hK;refine O.perm (List.Perm.cons _ List.perm_append_comm) ?_;simp only [List.cons_append,List.nil_append];refine U 1 ?_;refine O.nil<|S.r6 fun a w hf hd hw=>?_;exact De results142 CC hf rfl aH af (adl hw fun w hw=>ax.end_ hR hw ⟨_,.inr (.inl ⟨rfl,rfl,v',ζ,hK,rfl⟩),aC⟩)
def KH (r:Fr) (rest:List UInt8) (u v' :Value) (ζ:List az):Prop:=8≤rest.length∧u=.int .i64 (gp rest)∧av ag.u8 r v' (rest.drop 8)∧ζ=[]
theorem Zk {r:Fr} {b:Nat} {v:Value} {rest:List UInt8} (ha:av ag.u8 r v rest) :
  aj prog 143 (#[.pointer (some ⟨b,0,none⟩)]++#[]++#[]) r [obj b 196 [v,.bool true,.bool false]]
   (dg (fun u aa=>∃ v' ζ,KH r rest u v' ζ∧aa=obj b 196 [v',.bool true,.bool false]::ζ) (fun ch aa=>ch=missing∧∃ v',(rest.length<8∧v' =v)∧aa=[obj b 196 [v',.bool true,.bool false]])) :=
 (Zl (T:=196) (cs:=[.bool true,.bool false]) ha).mono fun e aa h=>by
  cases e with
  |returned u=>obtain ⟨h1,v',h2,h3,h4⟩:=h;exact ⟨v',[],⟨h1,h2,h3,rfl⟩,h4⟩
  |panicked ch=>obtain ⟨h1,h2,h3⟩:=h;exact ⟨h2,v,⟨h1,rfl⟩,h3⟩
  |outgrown=>exact h.elim
theorem aaJ {r:Fr} {b:Nat} {v:Value} {rest:List UInt8} {made bad:Bool} (ha:av ag.u8 r v rest) :
  aj prog 70 #[.pointer (some ⟨b,0,none⟩)] r [obj b 196 [v,.bool made,.bool bad]]
   (aF fun u aa=>∃ v',u=.int .i64 (kR (made && !bad) rest).1∧av ag.u8 r v' (kR (made && !bad) rest).2.1∧aa=[obj b 196 [v',.bool made,.bool (bad ||(kR (made && !bad) rest).2.2)]]):=by
 refine aj.o func70 fun g hg R hR=>?_;refine U 8 ?_;refine O.op (.p rfl) (.FG underlying126 rfl rfl)<|U 10 ?_;refine O.rK (.p rfl) rfl af rfl rfl an ((adj af (K:=KH r rest) (fun _ _ _ h=>by obtain ⟨_,rfl,_⟩:=h;rfl) fun _ _=>Zk ha).sub hg) ?_;rintro v10 _ h10;refine O.q 1 rfl<|O.nil<|S.ret results70 rfl fun w hw=>hR _ _ w ?_ hw
 rcases h10 with ⟨h1,rfl,rfl⟩|⟨rfl,rfl,v',ζ,⟨h1,rfl,h2,rfl⟩,rfl⟩|⟨rfl,rfl,v',⟨h1,rfl⟩,rfl,rfl⟩
 ·exact ⟨v,by simp [kR,h1],by simpa [kR,h1] using ha,by simp [kR,h1]⟩
 ·exact ⟨v',by simp [kR,h1],by simpa [kR,h1] using h2,by simp [kR,h1]⟩
 ·have h1:¬ 8≤rest.length:=by omega
  exact ⟨_,by simp [kR,h1],by simpa [kR,h1] using ha,by simp [kR,h1]⟩
def KG (r:Fr) (rest:List UInt8) (u v' :Value) (ζ:List az):Prop:=∃ x xs,rest=x::xs∧u=aT x∧av ag.u8 r v' xs∧ζ=[]
theorem Zs {r:Fr} {b:Nat} {v:Value} {rest:List UInt8} (ha:av ag.u8 r v rest) :
  aj prog 141 (#[.pointer (some ⟨b,0,none⟩)]++#[]++#[]) r [obj b 196 [v,.bool true,.bool false]]
   (dg (fun u aa=>∃ v' ζ,KG r rest u v' ζ∧aa=obj b 196 [v',.bool true,.bool false]::ζ) (fun ch aa=>ch=missing∧∃ v',(rest=[]∧v' =v)∧aa=[obj b 196 [v',.bool true,.bool false]])) :=
 (Zt (T:=196) (cs:=[.bool true,.bool false]) ha).mono fun e aa h=>by
  cases e with
  |returned u=>obtain ⟨x,xs,v',h1,h2,h3,h4⟩:=h;exact ⟨v',[],⟨x,xs,h1,h2,h3,rfl⟩,h4⟩
  |panicked ch=>obtain ⟨h1,h2,h3⟩:=h;exact ⟨h2,v,⟨h1,rfl⟩,h3⟩
  |outgrown=>exact h.elim
theorem aaH {r:Fr} {b:Nat} {v:Value} {rest:List UInt8} {made bad:Bool} (ha:av ag.u8 r v rest) :
  aj prog 69 #[.pointer (some ⟨b,0,none⟩)] r [obj b 196 [v,.bool made,.bool bad]]
   (aF fun u aa=>∃ v',u=aT (oy (made && !bad) rest).1∧av ag.u8 r v' (oy (made && !bad) rest).2.1∧aa=[obj b 196 [v',.bool made,.bool (bad ||(oy (made && !bad) rest).2.2)]]):=by
 refine aj.o func69 fun g hg R hR=>?_;refine U 8 ?_;refine O.op (.p rfl) (.FG underlying126 rfl rfl)<|U 10 ?_;refine O.rK (.p rfl) rfl af rfl rfl an ((ac_ af (K:=KG r rest) (fun _ _ _ h=>by obtain ⟨_,_,_,rfl,_⟩:=h;rfl) fun _ _=>Zs ha).sub hg) ?_;rintro v10 _ h10;refine O.q 1 rfl<|O.nil<|S.ret results69 rfl fun w hw=>hR _ _ w ?_ hw
 rcases h10 with ⟨h1,rfl,rfl⟩|⟨rfl,rfl,v',ζ,⟨x,xs,rfl,rfl,h2,rfl⟩,rfl⟩|⟨rfl,rfl,v',⟨rfl,rfl⟩,rfl,rfl⟩
 ·exact ⟨v,by simp [oy,h1,aT],by simpa [oy,h1] using ha,by simp [oy,h1]⟩
 ·exact ⟨v',by simp [oy],by simpa [oy] using h2,by simp [oy]⟩
 ·exact ⟨_,by simp [oy,aT],by simpa [oy] using ha,by simp [oy]⟩
theorem abl {r:Fr} {va:Value} {xs:List UInt8} (ha:av ag.u8 r va xs) (hl:xs.length≤140737488355328):aj prog 68 #[va] r [] (aF fun v aa=>∃ b,v=.pointer (some ⟨b,0,none⟩)∧aa=[l7 196 b ⟨true,xs⟩]) :=
 (adO ha hl).post fun e au h w g hw=>by
  cases e with
  |returned u =>
   obtain ⟨b,a,c,rfl,rfl⟩:=h;exact ⟨_,⟨b,rfl,rfl⟩,hw.imp fun _ x=>abm x⟩
  |panicked _=>exact h.elim
  |outgrown=>exact h.elim
theorem OY {r:Fr} {b:Nat} {s:RS}:aj prog 70 #[.pointer (some ⟨b,0,none⟩)] r [l7 196 b s] (aF fun u aa=>u=.int .i64 s.num.1∧aa=[l7 196 b s.num.2]) :=
 (aj.rd (Q:=fun u s' ζ=>u=.int .i64 s.num.1∧s' =s.num.2∧ζ=[]) fun m v made bad h1 h2=>(aaJ h2).mono (aF.imp fun u aa h=>by
  obtain ⟨v',rfl,h3,rfl⟩:=h;simp only [h1] at h3 ⊢;exact ⟨v',_,s.num.2,_,⟨rfl,rfl,rfl⟩,Mg h1,h3,rfl⟩)).mono (aF.imp fun u aa h=>by obtain ⟨s',ζ,⟨rfl,rfl,rfl⟩,rfl⟩:=h;exact ⟨rfl,rfl⟩)
theorem abk {r:Fr} {b:Nat} {s:RS}:aj prog 69 #[.pointer (some ⟨b,0,none⟩)] r [l7 196 b s] (aF fun u aa=>u=aT s.byte.1∧aa=[l7 196 b s.byte.2]) :=
 (aj.rd (Q:=fun u s' ζ=>u=aT s.byte.1∧s' =s.byte.2∧ζ=[]) fun m v made bad h1 h2=>(aaH h2).mono (aF.imp fun u aa h=>by
  obtain ⟨v',rfl,h3,rfl⟩:=h;simp only [h1] at h3 ⊢;exact ⟨v',_,s.byte.2,_,⟨rfl,rfl,rfl⟩,Mg h1,h3,rfl⟩)).mono (aF.imp fun u aa h=>by obtain ⟨s',ζ,⟨rfl,rfl,rfl⟩,rfl⟩:=h;exact ⟨rfl,rfl⟩)
theorem OX {r:Fr} {b:Nat} {s:RS}:aj prog 72 #[.pointer (some ⟨b,0,none⟩)] r [l7 196 b s] (aF fun u aa=>u=.bool s.done∧aa=[l7 196 b s]) :=
 (aj.rd (Q:=fun u s' ζ=>u=.bool s.done∧s' =s∧ζ=[]) fun m v made bad h1 h2=>(aaI h2).mono (aF.imp fun u aa h=>by
  obtain ⟨rfl,rfl⟩:=h;rw [h1];exact ⟨v,bad,s,[],⟨congrArg _ (by rw [Bool.eq_iff_iff,decide_eq_true_iff,RS.FB]),rfl,rfl⟩,h1,h2,rfl⟩)).mono (aF.imp fun u aa h=>by obtain ⟨s',ζ,⟨rfl,rfl,rfl⟩,rfl⟩:=h;exact ⟨rfl,rfl⟩)
theorem Lc {r:Fr} {va gr:Value} {xs ys:List UInt8} (ha:av ag.u8 r va xs) (hb:av ag.u8 r gr ys) :
  aj prog 34 #[va,gr] r [] (aF fun v aa=>v=.bool (decide (xs=ys))∧aa=[]):=by
 refine aj.o func34 fun g hg R hR=>?_;have ha:=ha.mono hg;have hb:=hb.mono hg;refine U 7 ?_;refine O.op (.p rfl) (.toStr underlying22 underlying5 underlying9 rfl bq) ?_;refine O.q 1 rfl<|O.op (.p rfl) (.toStr underlying22 underlying5 underlying9 rfl bq) ?_;refine O.op (.p rfl) (.e4 rfl rfl)<|O.q 1 rfl<|O.nil<|S.ret results34 rfl fun w hw=>hR _ _ w ?_ hw;exact ⟨by simp,rfl⟩
theorem Se {x y:dB} (h:(x.1,x.2.1)=(y.1,y.2.1)):x=y:=by
 obtain ⟨a,b,⟨⟩⟩:=x;obtain ⟨c,d,⟨⟩⟩:=y
 simp_all
theorem ab' {r:Fr} {va gr:Value} {xs ys:List dB} (ha:av cU r va xs) (hb:av cU r gr ys) :
  aj prog 212 #[va,gr] r [] (aF fun v aa=>v=.bool (decide (xs=ys))∧aa=[]):=by
 have har:=ha;have fw:=hb;refine aj.o func212 fun g hg R hR=>?_;have ha:=ha.mono hg;have hb:=hb.mono hg;have hbd:=ha.bound;obtain ⟨a1,c1,rfl⟩:=ha.shape;obtain ⟨a2,c2,rfl⟩:=hb.shape
 by_cases e0:xs.length=ys.length
 ·
  refine U 12 ?_;refine O.aB 10 rfl (by exact aA ai)<|U 9 ?_;refine S.ev (ι:=Nat) (fun i=>i≤xs.length∧xs.take i=ys.take i) (fun i=>[(5,.int .i64 (i:Int))]) [(0,_),(1,_)] (fun i=>[]) (fun i=>xs.length - i) (0) aH aO aO rfl fun i hx ih=>?_;have aW:=bS (g:=g);obtain ⟨hx1,b8⟩:=hx;refine U 8 ?_;refine S.cd rfl (fun eH=>?_) fun eH=>?_
  ·have hi:i<xs.length:=by omega
   have hi2:i<ys.length:=by omega
   by_cases e:xs[i]=ys[i]
   ·
    refine S.skip<|S.seq<|S.block<|S.seq<|S.aY (L:=.range 9) F.mixed af<|ah.q 2 rfl<|ah.ew har hg (h:=fun e5 me gx iZ=>?_);have ee:=ag.rel.mono iZ hg;obtain ⟨rfl,Vf,Vi⟩:=cU.open ee;refine .quiet (.p rfl) rfl (fun _=>.aJ isAgg115 af rfl gx) ?_;refine ah.q 2 rfl<|ah.ew fw hg (h:=fun fp nt jH lf=>?_);have fK:=ag.rel.mono lf hg;obtain ⟨rfl,GM,GO⟩:=cU.open fK;refine .quiet (.p rfl) rfl (fun _=>.aJ isAgg115 af rfl jH) ?_;refine .quiet (.p rfl) rfl (fun _=>.Ob underlying115 underlying3 rfl rfl rfl rfl aq aq af af rfl rfl)<|ah.aB 25 rfl (by exact aA (not_not_intro (by rw [e]))) ?_;refine U 9 ?_;exact S.cF (ih (i+1) (by exact ⟨by omega,yR hi hi2 b8 e⟩) ai)
   ·
    refine S.skip<|S.seq<|S.block<|S.seq<|S.aY (L:=.range 9) F.mixed af<|ah.q 2 rfl<|ah.ew har hg (h:=fun e5 me gx iZ=>?_);have ee:=ag.rel.mono iZ hg;obtain ⟨rfl,Vf,Vi⟩:=cU.open ee;refine .quiet (.p rfl) rfl (fun _=>.aJ isAgg115 af rfl gx) ?_;refine ah.q 2 rfl<|ah.ew fw hg (h:=fun fp nt jH lf=>?_);have fK:=ag.rel.mono lf hg;obtain ⟨rfl,GM,GO⟩:=cU.open fK;refine .quiet (.p rfl) rfl (fun _=>.aJ isAgg115 af rfl jH) ?_;refine .quiet (.p rfl) rfl (fun _=>.Ob underlying115 underlying3 rfl rfl rfl rfl aq aq af af rfl rfl)<|ah.sT 25 rfl (by exact zdt (fun q=>e (Se q))) ?_;refine U 6 ?_;exact S.rt results212 rfl hR ⟨congrArg _ (aA (AV hi hi2 e)).symm,rfl⟩
  ·have hi:i=xs.length:=by omega
   clear ih;subst hi;rw [List.take_length,e0,List.take_length] at b8;refine U 5 ?_;exact S.rt results212 rfl hR ⟨by simp [b8],rfl⟩
 ·
  refine U 12 ?_;refine O.sT 10 rfl (by exact zdt ai)<|U 6 ?_;exact S.rt results212 rfl hR ⟨congrArg _ (aA (fun h=>e0 (by rw [h]))).symm,rfl⟩
theorem wV {x y:aV} (h0:x.1=y.1) (h1:x.2.1=y.2.1) (h2:x.2.2.1=y.2.2.1) (h3:x.2.2.2.1=y.2.2.2.1) (h4:x.2.2.2.2.1=y.2.2.2.2.1) (h5:x.2.2.2.2.2.1=y.2.2.2.2.2.1) (h6:x.2.2.2.2.2.2.1=y.2.2.2.2.2.2.1):x=y:=by
 obtain ⟨a0,a1,a2,a3,a4,a5,a6,⟨⟩⟩:=x;obtain ⟨b0,b1,b2,b3,b4,iL,kG,⟨⟩⟩:=y
 simp_all
theorem DW {r:Fr} {cs ds:List Value} {x y:aV} (hx:bu.rel r cs x) (hy:bu.rel r ds y) :
  aj prog 113 #[.agg cs.toArray,.agg ds.toArray] r [] (aF fun v aa=>v=.bool (decide (x=y))∧aa=[]):=by
 obtain ⟨dM,je,iF,dN,jf,iG,rfl,vn,m3,w9,pq,yT,yU⟩:=bu.sh hx;obtain ⟨oF,vo,vp,oG,vq,vr,rfl,l6,fM,m4,gM,oH,oI⟩:=bu.sh hy;refine aj.o func113 fun g hg R hR=>?_;have pq:=pq.mono hg;have yT:=yT.mono hg;have yU:=yU.mono hg;have gM:=gM.mono hg;have oH:=oH.mono hg;have oI:=oI.mono hg;refine S.seq<|S.region rfl<|O.aD (.p rfl) (.box (cs:=[_,_,_,_,_,_,_]) rfl rfl) ?_;rintro _ _ ⟨b2,rfl,rfl⟩;refine O.aD (.p rfl) (.box (cs:=[_,_,_,_,_,_,_]) rfl rfl) ?_;rintro _ _ ⟨b3,rfl,rfl⟩;refine U 8 ?_;refine O.op (.p rfl) (.e4 rfl rfl)<|O.q 1 rfl ?_
 refine O.cs 10 rfl (fun h10=>?_) fun h10=>?_
 ·refine U 7 ?_
  refine O.cs 17 rfl (fun j3=>?_) fun j3=>?_
  ·refine U 7 ?_
   refine O.cs 24 rfl (fun gJ=>?_) fun gJ=>?_
   ·refine U 4 ?_
    refine O.v0 (.g rfl rfl) rfl af rfl rfl (ab' bq bq)<|U 2 ?_
    refine O.cs 31 rfl (fun oU=>?_) fun oU=>?_
    ·refine U 4 ?_
     refine O.op (.g rfl rfl) (.LF underlying4 rfl rfl)<|O.q 2 rfl ?_
     refine O.cs 38 rfl (fun zZ=>?_) fun zZ=>?_
     ·refine U 4 ?_
      refine O.v0 (.g rfl rfl) rfl af rfl rfl (oQ bq bq)<|U 2 ?_
      refine O.cs 45 rfl (fun F_=>?_) fun F_=>?_
      ·refine U 4 ?_
       refine O.v0 (.g rfl rfl) rfl af rfl rfl (oQ bq bq) ?_;refine O.q 2 rfl<|O.nil<|S.ret results113 rfl fun w hw=>ax.end_ hR hw ?_
       first|exact ⟨_,⟨congrArg _ (aA (fun e=>by subst e;exact absurd rfl ay)).symm,rfl⟩,aC⟩|exact ⟨_,⟨congrArg _ (decide_eq_decide.2 ⟨fun e=>wV (eO ay) ay ay ay ay ay e,fun e=>by rw [e]⟩),rfl⟩,aC⟩
      ·refine O.q 7 rfl<|O.nil<|S.ret results113 rfl fun w hw=>ax.end_ hR hw ?_
       first|exact ⟨_,⟨congrArg _ (aA (fun e=>by subst e;exact absurd rfl ay)).symm,rfl⟩,aC⟩|exact ⟨_,⟨congrArg _ (decide_eq_decide.2 ⟨fun e=>wV (eO ay) ay ay ay ay ay e,fun e=>by rw [e]⟩),rfl⟩,aC⟩
     ·refine O.q 14 rfl<|O.nil<|S.ret results113 rfl fun w hw=>ax.end_ hR hw ?_
      first|exact ⟨_,⟨congrArg _ (aA (fun e=>by subst e;exact absurd rfl ay)).symm,rfl⟩,aC⟩|exact ⟨_,⟨congrArg _ (decide_eq_decide.2 ⟨fun e=>wV (eO ay) ay ay ay ay ay e,fun e=>by rw [e]⟩),rfl⟩,aC⟩
    ·refine O.q 21 rfl<|O.nil<|S.ret results113 rfl fun w hw=>ax.end_ hR hw ?_
     first|exact ⟨_,⟨congrArg _ (aA (fun e=>by subst e;exact absurd rfl ay)).symm,rfl⟩,aC⟩|exact ⟨_,⟨congrArg _ (decide_eq_decide.2 ⟨fun e=>wV (eO ay) ay ay ay ay ay e,fun e=>by rw [e]⟩),rfl⟩,aC⟩
   ·refine O.q 28 rfl<|O.nil<|S.ret results113 rfl fun w hw=>ax.end_ hR hw ?_
    first|exact ⟨_,⟨congrArg _ (aA (fun e=>by subst e;exact absurd rfl ay)).symm,rfl⟩,aC⟩|exact ⟨_,⟨congrArg _ (decide_eq_decide.2 ⟨fun e=>wV (eO ay) ay ay ay ay ay e,fun e=>by rw [e]⟩),rfl⟩,aC⟩
  ·refine O.q 35 rfl<|O.nil<|S.ret results113 rfl fun w hw=>ax.end_ hR hw ?_
   first|exact ⟨_,⟨congrArg _ (aA (fun e=>by subst e;exact absurd rfl ay)).symm,rfl⟩,aC⟩|exact ⟨_,⟨congrArg _ (decide_eq_decide.2 ⟨fun e=>wV (eO ay) ay ay ay ay ay e,fun e=>by rw [e]⟩),rfl⟩,aC⟩
 ·refine O.q 42 rfl<|O.nil<|S.ret results113 rfl fun w hw=>ax.end_ hR hw ?_
  first|exact ⟨_,⟨congrArg _ (aA (fun e=>by subst e;exact absurd rfl ay)).symm,rfl⟩,aC⟩|exact ⟨_,⟨congrArg _ (decide_eq_decide.2 ⟨fun e=>wV (eO ay) ay ay ay ay ay e,fun e=>by rw [e]⟩),rfl⟩,aC⟩
theorem PF {r:Fr} {va gr:Value} {xs ys:List aV} (ha:av bu r va xs) (hb:av bu r gr ys) :
  aj prog 49 #[va,gr] r [] (aF fun v aa=>v=.bool (decide (xs=ys))∧aa=[]):=by
 have har:=ha;have fw:=hb;refine aj.o func49 fun g hg R hR=>?_;have ha:=ha.mono hg;have hb:=hb.mono hg;have hbd:=ha.bound;obtain ⟨a1,c1,rfl⟩:=ha.shape;obtain ⟨a2,c2,rfl⟩:=hb.shape
 by_cases e0:xs.length=ys.length
 ·
  refine U 12 ?_;refine O.aB 10 rfl (by exact aA ai)<|U 9 ?_;refine S.ev (ι:=Nat) (fun i=>i≤xs.length∧xs.take i=ys.take i) (fun i=>[(5,.int .i64 (i:Int))]) [(0,_),(1,_)] (fun i=>[]) (fun i=>xs.length - i) (0) aH aO aO rfl fun i hx ih=>?_;have aW:=bS (g:=g);obtain ⟨hx1,b8⟩:=hx;refine U 8 ?_;refine S.cd rfl (fun eH=>?_) fun eH=>?_
  ·have hi:i<xs.length:=by omega
   have hi2:i<ys.length:=by omega
   by_cases e:xs[i]=ys[i]
   ·
    refine S.skip<|S.seq<|S.block<|S.seq<|S.aY (L:=.range 10) F.mixed af<|ah.q 2 rfl<|ah.ew har hg (h:=fun e5 me gx iZ=>?_);have ee:=ag.rel.mono iZ hg;obtain ⟨DB,DC,DD,DE,DF,DG,rfl,rT,CZ,C0,CM,CO,CQ⟩:=bu.sh ee;refine .quiet (.p rfl) rfl (fun _=>.aJ isAgg118 af rfl gx) ?_;refine ah.q 2 rfl<|ah.ew fw hg (h:=fun fp nt jH lf=>?_);have fK:=ag.rel.mono lf hg;obtain ⟨Jq,Js,Ju,Jw,Jy,JA,rfl,v7,G6,G9,Gr,Gv,Gz⟩:=bu.sh fK;refine .quiet (.p rfl) rfl (fun _=>.aJ isAgg118 af rfl jH) ?_;refine ah.v0 (.p rfl) af rfl af rfl rfl ((DW ee fK)) ?_;refine ah.sT 25 rfl (by exact zdt e)<|U 10 ?_;exact S.cF (ih (i+1) (by exact ⟨by omega,yR hi hi2 b8 e⟩) ai)
   ·
    refine S.skip<|S.seq<|S.block<|S.seq<|S.aY (L:=.range 10) F.mixed af<|ah.q 2 rfl<|ah.ew har hg (h:=fun e5 me gx iZ=>?_);have ee:=ag.rel.mono iZ hg;obtain ⟨DB,DC,DD,DE,DF,DG,rfl,rT,CZ,C0,CM,CO,CQ⟩:=bu.sh ee;refine .quiet (.p rfl) rfl (fun _=>.aJ isAgg118 af rfl gx) ?_;refine ah.q 2 rfl<|ah.ew fw hg (h:=fun fp nt jH lf=>?_);have fK:=ag.rel.mono lf hg;obtain ⟨Jq,Js,Ju,Jw,Jy,JA,rfl,v7,G6,G9,Gr,Gv,Gz⟩:=bu.sh fK;refine .quiet (.p rfl) rfl (fun _=>.aJ isAgg118 af rfl jH) ?_;refine ah.v0 (.p rfl) af rfl af rfl rfl ((DW ee fK)) ?_;refine ah.aB 25 rfl (by exact aA e)<|U 7 ?_;exact S.rt results49 rfl hR ⟨congrArg _ (aA (AV hi hi2 e)).symm,rfl⟩
  ·have hi:i=xs.length:=by omega
   clear ih;subst hi;rw [List.take_length,e0,List.take_length] at b8;refine U 5 ?_;exact S.rt results49 rfl hR ⟨by simp [b8],rfl⟩
 ·
  refine U 12 ?_;refine O.sT 10 rfl (by exact zdt ai)<|U 6 ?_;exact S.rt results49 rfl hR ⟨congrArg _ (aA (fun h=>e0 (by rw [h]))).symm,rfl⟩
theorem PB {x y:eL} (h0:x.1=y.1) (h1:x.2.1=y.2.1):x=y:=by
 obtain ⟨a0,a1,⟨⟩⟩:=x;obtain ⟨b0,b1,⟨⟩⟩:=y
 simp_all
theorem DU {r:Fr} {cs ds:List Value} {x y:eL} (hx:dJ.rel r cs x) (hy:dJ.rel r ds y) :
  aj prog 190 #[.agg cs.toArray,.agg ds.toArray] r [] (aF fun v aa=>v=.bool (decide (x=y))∧aa=[]):=by
 obtain ⟨w7,w8,rfl,vn,m3⟩:=dJ.sh hx;obtain ⟨xd,xe,rfl,l6,fM⟩:=dJ.sh hy;refine aj.o func190 fun g hg R hR=>?_;have m3:=m3.mono hg;have fM:=fM.mono hg;refine S.seq<|S.region rfl<|O.aD (.p rfl) (.box (cs:=[_,_]) rfl rfl) ?_;rintro _ _ ⟨b2,rfl,rfl⟩;refine O.aD (.p rfl) (.box (cs:=[_,_]) rfl rfl) ?_;rintro _ _ ⟨b3,rfl,rfl⟩;refine U 8 ?_;refine O.op (.p rfl) (.e4 rfl rfl)<|O.q 1 rfl ?_
 refine O.cs 10 rfl (fun h10=>?_) fun h10=>?_
 ·refine U 4 ?_
  refine O.v0 (.g rfl rfl) rfl af rfl rfl (PF bq bq) ?_;refine O.q 2 rfl<|O.nil<|S.ret results190 rfl fun w hw=>ax.end_ hR hw ?_
  first|exact ⟨_,⟨congrArg _ (aA (fun e=>by subst e;exact absurd rfl ay)).symm,rfl⟩,aC⟩|exact ⟨_,⟨congrArg _ (decide_eq_decide.2 ⟨fun e=>PB (eO ay) e,fun e=>by rw [e]⟩),rfl⟩,aC⟩
 ·refine O.q 7 rfl<|O.nil<|S.ret results190 rfl fun w hw=>ax.end_ hR hw ?_
  first|exact ⟨_,⟨congrArg _ (aA (fun e=>by subst e;exact absurd rfl ay)).symm,rfl⟩,aC⟩|exact ⟨_,⟨congrArg _ (decide_eq_decide.2 ⟨fun e=>PB (eO ay) e,fun e=>by rw [e]⟩),rfl⟩,aC⟩
theorem acd {r:Fr} {va gr:Value} {xs ys:List eL} (ha:av dJ r va xs) (hb:av dJ r gr ys) :
  aj prog 112 #[va,gr] r [] (aF fun v aa=>v=.bool (decide (xs=ys))∧aa=[]):=by
 have har:=ha;have fw:=hb;refine aj.o func112 fun g hg R hR=>?_;have ha:=ha.mono hg;have hb:=hb.mono hg;have hbd:=ha.bound;obtain ⟨a1,c1,rfl⟩:=ha.shape;obtain ⟨a2,c2,rfl⟩:=hb.shape
 by_cases e0:xs.length=ys.length
 ·
  refine U 12 ?_;refine O.aB 10 rfl (by exact aA ai)<|U 9 ?_;refine S.ev (ι:=Nat) (fun i=>i≤xs.length∧xs.take i=ys.take i) (fun i=>[(5,.int .i64 (i:Int))]) [(0,_),(1,_)] (fun i=>[]) (fun i=>xs.length - i) (0) aH aO aO rfl fun i hx ih=>?_;have aW:=bS (g:=g);obtain ⟨hx1,b8⟩:=hx;refine U 8 ?_;refine S.cd rfl (fun eH=>?_) fun eH=>?_
  ·have hi:i<xs.length:=by omega
   have hi2:i<ys.length:=by omega
   by_cases e:xs[i]=ys[i]
   ·
    refine S.skip<|S.seq<|S.block<|S.seq<|S.aY (L:=.range 10) F.mixed af<|ah.q 2 rfl<|ah.ew har hg (h:=fun e5 me gx iZ=>?_);have ee:=ag.rel.mono iZ hg;obtain ⟨NA,NG,rfl,rT,z8⟩:=dJ.sh ee;refine .quiet (.p rfl) rfl (fun _=>.aJ isAgg120 af rfl gx) ?_;refine ah.q 2 rfl<|ah.ew fw hg (h:=fun fp nt jH lf=>?_);have fK:=ag.rel.mono lf hg;obtain ⟨Yh,Yi,rfl,v7,Gm⟩:=dJ.sh fK;refine .quiet (.p rfl) rfl (fun _=>.aJ isAgg120 af rfl jH) ?_;refine ah.v0 (.p rfl) af rfl af rfl rfl ((DU ee fK)) ?_;refine ah.sT 25 rfl (by exact zdt e)<|U 10 ?_;exact S.cF (ih (i+1) (by exact ⟨by omega,yR hi hi2 b8 e⟩) ai)
   ·
    refine S.skip<|S.seq<|S.block<|S.seq<|S.aY (L:=.range 10) F.mixed af<|ah.q 2 rfl<|ah.ew har hg (h:=fun e5 me gx iZ=>?_);have ee:=ag.rel.mono iZ hg;obtain ⟨NA,NG,rfl,rT,z8⟩:=dJ.sh ee;refine .quiet (.p rfl) rfl (fun _=>.aJ isAgg120 af rfl gx) ?_;refine ah.q 2 rfl<|ah.ew fw hg (h:=fun fp nt jH lf=>?_);have fK:=ag.rel.mono lf hg;obtain ⟨Yh,Yi,rfl,v7,Gm⟩:=dJ.sh fK;refine .quiet (.p rfl) rfl (fun _=>.aJ isAgg120 af rfl jH) ?_;refine ah.v0 (.p rfl) af rfl af rfl rfl ((DU ee fK)) ?_;refine ah.aB 25 rfl (by exact aA e)<|U 7 ?_;exact S.rt results112 rfl hR ⟨congrArg _ (aA (AV hi hi2 e)).symm,rfl⟩
  ·have hi:i=xs.length:=by omega
   clear ih;subst hi;rw [List.take_length,e0,List.take_length] at b8;refine U 5 ?_;exact S.rt results112 rfl hR ⟨by simp [b8],rfl⟩
 ·
  refine U 12 ?_;refine O.sT 10 rfl (by exact zdt ai)<|U 6 ?_;exact S.rt results112 rfl hR ⟨congrArg _ (aA (fun h=>e0 (by rw [h]))).symm,rfl⟩
theorem Bf {x y:dD} (h0:x.1=y.1) (h1:x.2.1=y.2.1) (h2:x.2.2.1=y.2.2.1) (h3:x.2.2.2.1=y.2.2.2.1) (h4:x.2.2.2.2.1=y.2.2.2.2.1):x=y:=by
 obtain ⟨a0,a1,a2,a3,a4,⟨⟩⟩:=x;obtain ⟨b0,b1,b2,b3,b4,⟨⟩⟩:=y
 simp_all
theorem DX {r:Fr} {cs ds:List Value} {x y:dD} (hx:bx.rel r cs x) (hy:bx.rel r ds y) :
  aj prog 46 #[.agg cs.toArray,.agg ds.toArray] r [] (aF fun v aa=>v=.bool (decide (x=y))∧aa=[]):=by
 obtain ⟨dM,jz,dN,jA,rfl,vn,m3,w9,pq,w_⟩:=bx.sh hx;obtain ⟨oF,Ko,oG,Kr,rfl,l6,fM,m4,gM,m5⟩:=bx.sh hy;refine aj.o func46 fun g hg R hR=>?_;have pq:=pq.mono hg;have w_:=w_.mono hg;have gM:=gM.mono hg;have m5:=m5.mono hg;refine S.seq<|S.region rfl<|O.aD (.p rfl) (.box (cs:=[_,_,_,_,_]) rfl rfl) ?_;rintro _ _ ⟨b2,rfl,rfl⟩;refine O.aD (.p rfl) (.box (cs:=[_,_,_,_,_]) rfl rfl) ?_;rintro _ _ ⟨b3,rfl,rfl⟩;refine U 10 ?_
 refine O.cs 10 rfl (fun h10=>?_) fun h10=>?_
 ·refine U 7 ?_
  refine O.cs 17 rfl (fun j3=>?_) fun j3=>?_
  ·refine U 7 ?_
   refine O.cs 24 rfl (fun gJ=>?_) fun gJ=>?_
   ·refine U 4 ?_
    refine O.v0 (.g rfl rfl) rfl af rfl rfl (oQ bq bq)<|U 2 ?_
    refine O.cs 31 rfl (fun oU=>?_) fun oU=>?_
    ·refine U 4 ?_
     refine O.v0 (.g rfl rfl) rfl af rfl rfl (oQ bq bq) ?_;refine O.q 2 rfl<|O.nil<|S.ret results46 rfl fun w hw=>ax.end_ hR hw ?_
     first|exact ⟨_,⟨congrArg _ (aA (fun e=>by subst e;exact absurd rfl ay)).symm,rfl⟩,aC⟩|exact ⟨_,⟨congrArg _ (decide_eq_decide.2 ⟨fun e=>Bf ay ay ay ay e,fun e=>by rw [e]⟩),rfl⟩,aC⟩
    ·refine O.q 7 rfl<|O.nil<|S.ret results46 rfl fun w hw=>ax.end_ hR hw ?_
     first|exact ⟨_,⟨congrArg _ (aA (fun e=>by subst e;exact absurd rfl ay)).symm,rfl⟩,aC⟩|exact ⟨_,⟨congrArg _ (decide_eq_decide.2 ⟨fun e=>Bf ay ay ay ay e,fun e=>by rw [e]⟩),rfl⟩,aC⟩
   ·refine O.q 14 rfl<|O.nil<|S.ret results46 rfl fun w hw=>ax.end_ hR hw ?_
    first|exact ⟨_,⟨congrArg _ (aA (fun e=>by subst e;exact absurd rfl ay)).symm,rfl⟩,aC⟩|exact ⟨_,⟨congrArg _ (decide_eq_decide.2 ⟨fun e=>Bf ay ay ay ay e,fun e=>by rw [e]⟩),rfl⟩,aC⟩
  ·refine O.q 21 rfl<|O.nil<|S.ret results46 rfl fun w hw=>ax.end_ hR hw ?_
   first|exact ⟨_,⟨congrArg _ (aA (fun e=>by subst e;exact absurd rfl ay)).symm,rfl⟩,aC⟩|exact ⟨_,⟨congrArg _ (decide_eq_decide.2 ⟨fun e=>Bf ay ay ay ay e,fun e=>by rw [e]⟩),rfl⟩,aC⟩
 ·refine O.q 28 rfl<|O.nil<|S.ret results46 rfl fun w hw=>ax.end_ hR hw ?_
  first|exact ⟨_,⟨congrArg _ (aA (fun e=>by subst e;exact absurd rfl ay)).symm,rfl⟩,aC⟩|exact ⟨_,⟨congrArg _ (decide_eq_decide.2 ⟨fun e=>Bf ay ay ay ay e,fun e=>by rw [e]⟩),rfl⟩,aC⟩
theorem Pz {x y:gh} (h0:x.1=y.1) (h1:x.2.1=y.2.1):x=y:=by
 obtain ⟨a0,a1,⟨⟩⟩:=x;obtain ⟨b0,b1,⟨⟩⟩:=y
 simp_all
theorem Py {r:Fr} {cs ds:List Value} {x y:gh} (hx:eK.rel r cs x) (hy:eK.rel r ds y) :
  aj prog 50 #[.agg cs.toArray,.agg ds.toArray] r [] (aF fun v aa=>v=.bool (decide (x=y))∧aa=[]):=by
 obtain ⟨dM,jz,sF,sG,dN,jA,sH,sI,rfl,vn,m3,w9,pq,w_,yT,yU,Kf,xa,xb⟩:=eK.sh hx;obtain ⟨oF,Ko,Kp,Kq,oG,Kr,Ks,Kt,rfl,l6,fM,m4,gM,m5,oH,oI,xq,nT,nU⟩:=eK.sh hy;refine aj.o func50 fun g hg R hR=>?_;have pq:=pq.mono hg;have w_:=w_.mono hg;have xa:=xa.mono hg;have xb:=xb.mono hg;have gM:=gM.mono hg;have m5:=m5.mono hg;have nT:=nT.mono hg;have nU:=nU.mono hg;refine S.seq<|S.region rfl<|O.aD (.p rfl) (.box (cs:=[_,_,_,_,_,_,_,_,_,_]) rfl rfl) ?_;rintro _ _ ⟨b2,rfl,rfl⟩;refine O.aD (.p rfl) (.box (cs:=[_,_,_,_,_,_,_,_,_,_]) rfl rfl) ?_;rintro _ _ ⟨b3,rfl,rfl⟩;refine U 8 ?_;refine O.v0 (.p rfl) rfl af rfl rfl ((DX (x:=x.1) (y:=y.1) (bx.mk vn m3 w9 pq w_) (bx.mk l6 fM m4 gM m5))) ?_;refine U 1 ?_
 refine O.cs 10 rfl (fun h10=>?_) fun h10=>?_
 ·refine U 4 ?_
  refine O.v0 (.g rfl rfl) rfl af rfl rfl ((DX (x:=x.2.1) (y:=y.2.1) (bx.mk yT yU Kf xa xb) (bx.mk oH oI xq nT nU))) ?_;refine O.q 2 rfl<|O.nil<|S.ret results50 rfl fun w hw=>ax.end_ hR hw ?_
  first|exact ⟨_,⟨congrArg _ (aA (fun e=>by subst e;exact absurd rfl ay)).symm,rfl⟩,aC⟩|exact ⟨_,⟨congrArg _ (decide_eq_decide.2 ⟨fun e=>Pz ay e,fun e=>by rw [e]⟩),rfl⟩,aC⟩
 ·refine O.q 7 rfl<|O.nil<|S.ret results50 rfl fun w hw=>ax.end_ hR hw ?_
  first|exact ⟨_,⟨congrArg _ (aA (fun e=>by subst e;exact absurd rfl ay)).symm,rfl⟩,aC⟩|exact ⟨_,⟨congrArg _ (decide_eq_decide.2 ⟨fun e=>Pz ay e,fun e=>by rw [e]⟩),rfl⟩,aC⟩
theorem mY {x y:UInt8} (h:(x.toNat:Int)=(y.toNat:Int)):x=y:=UInt8.toNat_inj.1 ai
noncomputable instance:DecidableEq aP:=Classical.typeDecidableEq _
theorem ace {r:Fr} {va gr:Value} {xs ys:List (List UInt8)} (ha:av (ag.slice ag.u8) r va xs) (hb:av (ag.slice ag.u8) r gr ys) :
  aj prog 110 #[va,gr] r [] (aF fun v aa=>v=.bool (decide (xs=ys))∧aa=[]):=by
 have har:=ha;have fw:=hb;refine aj.o func110 fun g hg R hR=>?_;have ha:=ha.mono hg;have hb:=hb.mono hg;have hbd:=ha.bound;obtain ⟨a1,c1,rfl⟩:=ha.shape;obtain ⟨a2,c2,rfl⟩:=hb.shape
 by_cases e0:xs.length=ys.length
 ·
  refine U 12 ?_;refine O.aB 10 rfl (by exact aA ai)<|U 9 ?_;refine S.ev (ι:=Nat) (fun i=>i≤xs.length∧xs.take i=ys.take i) (fun i=>[(5,.int .i64 (i:Int))]) [(0,_),(1,_)] (fun i=>[]) (fun i=>xs.length - i) (0) aH aO aO rfl fun i hx ih=>?_;have aW:=bS (g:=g);obtain ⟨hx1,b8⟩:=hx;refine U 8 ?_;refine S.cd rfl (fun eH=>?_) fun eH=>?_
  ·have hi:i<xs.length:=by omega
   have hi2:i<ys.length:=by omega
   by_cases e:xs[i]=ys[i]
   ·
    refine S.skip<|S.seq<|S.block<|S.seq<|S.aY (L:=.range 10) F.mixed af<|ah.q 2 rfl<|ah.c7 (.p rfl) underlying28 mX rfl rfl rfl bq (h:=fun e5 me gx ee=>?_);obtain ⟨Qb,rfl,vQ⟩:=ee;obtain ⟨eF,cO,rfl⟩:=vQ.shape;refine U 1 ?_;refine ah.q 2 rfl<|ah.c7 (.p rfl) underlying28 mX rfl rfl rfl bq (h:=fun fp nt jH fK=>?_);obtain ⟨Qc,rfl,pO⟩:=fK;obtain ⟨gk,dm,rfl⟩:=pO.shape;refine U 1 ?_;refine ah.v0 (.p rfl) af rfl af rfl rfl ((oQ vQ pO)) ?_;refine ah.sT 25 rfl (by exact zdt e)<|U 10 ?_;exact S.cF (ih (i+1) (by exact ⟨by omega,yR hi hi2 b8 e⟩) ai)
   ·
    refine S.skip<|S.seq<|S.block<|S.seq<|S.aY (L:=.range 10) F.mixed af<|ah.q 2 rfl<|ah.c7 (.p rfl) underlying28 mX rfl rfl rfl bq (h:=fun e5 me gx ee=>?_);obtain ⟨Qb,rfl,vQ⟩:=ee;obtain ⟨eF,cO,rfl⟩:=vQ.shape;refine U 1 ?_;refine ah.q 2 rfl<|ah.c7 (.p rfl) underlying28 mX rfl rfl rfl bq (h:=fun fp nt jH fK=>?_);obtain ⟨Qc,rfl,pO⟩:=fK;obtain ⟨gk,dm,rfl⟩:=pO.shape;refine U 1 ?_;refine ah.v0 (.p rfl) af rfl af rfl rfl ((oQ vQ pO)) ?_;refine ah.aB 25 rfl (by exact aA e)<|U 7 ?_;exact S.rt results110 rfl hR ⟨congrArg _ (aA (AV hi hi2 e)).symm,rfl⟩
  ·have hi:i=xs.length:=by omega
   clear ih;subst hi;rw [List.take_length,e0,List.take_length] at b8;refine U 5 ?_;exact S.rt results110 rfl hR ⟨by simp [b8],rfl⟩
 ·
  refine U 12 ?_;refine O.sT 10 rfl (by exact zdt ai)<|U 6 ?_;exact S.rt results110 rfl hR ⟨congrArg _ (aA (fun h=>e0 (by rw [h]))).symm,rfl⟩
theorem PG {x y:gv} (h0:x.1=y.1) (h1:x.2.1=y.2.1):x=y:=by
 obtain ⟨a0,a1,⟨⟩⟩:=x;obtain ⟨b0,b1,⟨⟩⟩:=y
 simp_all
theorem DY {r:Fr} {cs ds:List Value} {x y:gv} (hx:dZ.rel r cs x) (hy:dZ.rel r ds y) :
  aj prog 195 #[.agg cs.toArray,.agg ds.toArray] r [] (aF fun v aa=>v=.bool (decide (x=y))∧aa=[]):=by
 obtain ⟨w7,w8,rfl,vn,m3⟩:=dZ.sh hx;obtain ⟨xd,xe,rfl,l6,fM⟩:=dZ.sh hy;refine aj.o func195 fun g hg R hR=>?_;have m3:=m3.mono hg;have fM:=fM.mono hg;refine S.seq<|S.region rfl<|O.aD (.p rfl) (.box (cs:=[_,_]) rfl rfl) ?_;rintro _ _ ⟨b2,rfl,rfl⟩;refine O.aD (.p rfl) (.box (cs:=[_,_]) rfl rfl) ?_;rintro _ _ ⟨b3,rfl,rfl⟩;refine U 8 ?_;refine O.op (.p rfl) (.e4 rfl rfl)<|O.q 1 rfl ?_
 refine O.cs 10 rfl (fun h10=>?_) fun h10=>?_
 ·refine U 4 ?_
  refine O.v0 (.g rfl rfl) rfl af rfl rfl (oQ bq bq) ?_;refine O.q 2 rfl<|O.nil<|S.ret results195 rfl fun w hw=>ax.end_ hR hw ?_
  first|exact ⟨_,⟨congrArg _ (aA (fun e=>by subst e;exact absurd rfl ay)).symm,rfl⟩,aC⟩|exact ⟨_,⟨congrArg _ (decide_eq_decide.2 ⟨fun e=>PG (x:=x) (y:=y) (eO ay) e,fun e=>by rw [e]⟩),rfl⟩,aC⟩
 ·refine O.q 7 rfl<|O.nil<|S.ret results195 rfl fun w hw=>ax.end_ hR hw ?_
  first|exact ⟨_,⟨congrArg _ (aA (fun e=>by subst e;exact absurd rfl ay)).symm,rfl⟩,aC⟩|exact ⟨_,⟨congrArg _ (decide_eq_decide.2 ⟨fun e=>PG (x:=x) (y:=y) (eO ay) e,fun e=>by rw [e]⟩),rfl⟩,aC⟩
theorem acf {r:Fr} {va gr:Value} {xs ys:List gv} (ha:av dZ r va xs) (hb:av dZ r gr ys) :
  aj prog 111 #[va,gr] r [] (aF fun v aa=>v=.bool (decide (xs=ys))∧aa=[]):=by
 have har:=ha;have fw:=hb;refine aj.o func111 fun g hg R hR=>?_;have ha:=ha.mono hg;have hb:=hb.mono hg;have hbd:=ha.bound;obtain ⟨a1,c1,rfl⟩:=ha.shape;obtain ⟨a2,c2,rfl⟩:=hb.shape
 by_cases e0:xs.length=ys.length
 ·
  refine U 12 ?_;refine O.aB 10 rfl (by exact aA ai)<|U 9 ?_;refine S.ev (ι:=Nat) (fun i=>i≤xs.length∧xs.take i=ys.take i) (fun i=>[(5,.int .i64 (i:Int))]) [(0,_),(1,_)] (fun i=>[]) (fun i=>xs.length - i) (0) aH aO aO rfl fun i hx ih=>?_;have aW:=bS (g:=g);obtain ⟨hx1,b8⟩:=hx;refine U 8 ?_;refine S.cd rfl (fun eH=>?_) fun eH=>?_
  ·have hi:i<xs.length:=by omega
   have hi2:i<ys.length:=by omega
   by_cases e:xs[i]=ys[i]
   ·
    refine S.skip<|S.seq<|S.block<|S.seq<|S.aY (L:=.range 10) F.mixed af<|ah.q 2 rfl<|ah.ew har hg (h:=fun e5 me gx iZ=>?_);have ee:=ag.rel.mono iZ hg;obtain ⟨Px,PI,rfl,rT,z8⟩:=dZ.sh ee;refine .quiet (.p rfl) rfl (fun _=>.aJ isAgg122 af rfl gx) ?_;refine ah.q 2 rfl<|ah.ew fw hg (h:=fun fp nt jH lf=>?_);have fK:=ag.rel.mono lf hg;obtain ⟨ab9,acm,rfl,v7,Gm⟩:=dZ.sh fK;refine .quiet (.p rfl) rfl (fun _=>.aJ isAgg122 af rfl jH) ?_;refine ah.v0 (.p rfl) af rfl af rfl rfl ((DY ee fK)) ?_;refine ah.sT 25 rfl (by exact zdt e)<|U 10 ?_;exact S.cF (ih (i+1) (by exact ⟨by omega,yR hi hi2 b8 e⟩) ai)
   ·
    refine S.skip<|S.seq<|S.block<|S.seq<|S.aY (L:=.range 10) F.mixed af<|ah.q 2 rfl<|ah.ew har hg (h:=fun e5 me gx iZ=>?_);have ee:=ag.rel.mono iZ hg;obtain ⟨Px,PI,rfl,rT,z8⟩:=dZ.sh ee;refine .quiet (.p rfl) rfl (fun _=>.aJ isAgg122 af rfl gx) ?_;refine ah.q 2 rfl<|ah.ew fw hg (h:=fun fp nt jH lf=>?_);have fK:=ag.rel.mono lf hg;obtain ⟨ab9,acm,rfl,v7,Gm⟩:=dZ.sh fK;refine .quiet (.p rfl) rfl (fun _=>.aJ isAgg122 af rfl jH) ?_;refine ah.v0 (.p rfl) af rfl af rfl rfl ((DY ee fK)) ?_;refine ah.aB 25 rfl (by exact aA e)<|U 7 ?_;exact S.rt results111 rfl hR ⟨congrArg _ (aA (AV hi hi2 e)).symm,rfl⟩
  ·have hi:i=xs.length:=by omega
   clear ih;subst hi;rw [List.take_length,e0,List.take_length] at b8;refine U 5 ?_;exact S.rt results111 rfl hR ⟨by simp [b8],rfl⟩
 ·
  refine U 12 ?_;refine O.sT 10 rfl (by exact zdt ai)<|U 6 ?_;exact S.rt results111 rfl hR ⟨congrArg _ (aA (fun h=>e0 (by rw [h]))).symm,rfl⟩
theorem DV {x y:eY} (h0:x.1=y.1) (h1:x.2.1=y.2.1) (h2:x.2.2.1=y.2.2.1) (h3:x.2.2.2.1=y.2.2.2.1):x=y:=by
 obtain ⟨a0,a1,a2,a3,⟨⟩⟩:=x;obtain ⟨b0,b1,b2,b3,⟨⟩⟩:=y
 simp_all
theorem PC {r:Fr} {cs ds:List Value} {x y:eY} (hx:fj.rel r cs x) (hy:fj.rel r ds y) :
  aj prog 48 #[.agg cs.toArray,.agg ds.toArray] r [] (aF fun v aa=>v=.bool (decide (x=y))∧aa=[]):=by
 obtain ⟨w7,ad1,dM,w8,aec,dN,rfl,m3,w9,pq⟩:=fj.sh hx;obtain ⟨xd,aew,oF,xe,aeJ,oG,rfl,fM,m4,gM⟩:=fj.sh hy;refine aj.o func48 fun g hg R hR=>?_;have m3:=m3.mono hg;have w9:=w9.mono hg;have pq:=pq.mono hg;have fM:=fM.mono hg;have m4:=m4.mono hg;have gM:=gM.mono hg;refine S.seq<|S.region rfl<|O.aD (.p rfl) (.box (cs:=[_,_,_,_]) rfl rfl) ?_;rintro _ _ ⟨b2,rfl,rfl⟩;refine O.aD (.p rfl) (.box (cs:=[_,_,_,_]) rfl rfl) ?_;rintro _ _ ⟨b3,rfl,rfl⟩;refine U 10 ?_
 refine O.cs 10 rfl (fun h10=>?_) fun h10=>?_
 ·refine U 4 ?_
  refine O.v0 (.g rfl rfl) rfl af rfl rfl (oQ bq bq)<|U 2 ?_
  refine O.cs 17 rfl (fun j3=>?_) fun j3=>?_
  ·refine U 4 ?_
   refine O.v0 (.g rfl rfl) rfl af rfl rfl (oQ bq bq)<|U 2 ?_
   refine O.cs 24 rfl (fun gJ=>?_) fun gJ=>?_
   ·refine U 4 ?_
    refine O.v0 (.g rfl rfl) rfl af rfl rfl (acd bq bq) ?_;refine O.q 2 rfl<|O.nil<|S.ret results48 rfl fun w hw=>ax.end_ hR hw ?_
    first|exact ⟨_,⟨congrArg _ (aA (fun e=>by subst e;exact absurd rfl ay)).symm,rfl⟩,aC⟩|exact ⟨_,⟨congrArg _ (decide_eq_decide.2 ⟨fun e=>DV (x:=x) (y:=y) (mY ay) ay ay e,fun e=>by rw [e]⟩),rfl⟩,aC⟩
   ·refine O.q 7 rfl<|O.nil<|S.ret results48 rfl fun w hw=>ax.end_ hR hw ?_
    first|exact ⟨_,⟨congrArg _ (aA (fun e=>by subst e;exact absurd rfl ay)).symm,rfl⟩,aC⟩|exact ⟨_,⟨congrArg _ (decide_eq_decide.2 ⟨fun e=>DV (x:=x) (y:=y) (mY ay) ay ay e,fun e=>by rw [e]⟩),rfl⟩,aC⟩
  ·refine O.q 14 rfl<|O.nil<|S.ret results48 rfl fun w hw=>ax.end_ hR hw ?_
   first|exact ⟨_,⟨congrArg _ (aA (fun e=>by subst e;exact absurd rfl ay)).symm,rfl⟩,aC⟩|exact ⟨_,⟨congrArg _ (decide_eq_decide.2 ⟨fun e=>DV (x:=x) (y:=y) (mY ay) ay ay e,fun e=>by rw [e]⟩),rfl⟩,aC⟩
 ·refine O.q 21 rfl<|O.nil<|S.ret results48 rfl fun w hw=>ax.end_ hR hw ?_
  first|exact ⟨_,⟨congrArg _ (aA (fun e=>by subst e;exact absurd rfl ay)).symm,rfl⟩,aC⟩|exact ⟨_,⟨congrArg _ (decide_eq_decide.2 ⟨fun e=>DV (x:=x) (y:=y) (mY ay) ay ay e,fun e=>by rw [e]⟩),rfl⟩,aC⟩
theorem PE {x y:fT} (h0:x.1=y.1) (h1:x.2.1=y.2.1):x=y:=by
 obtain ⟨a0,a1,⟨⟩⟩:=x;obtain ⟨b0,b1,⟨⟩⟩:=y
 simp_all
theorem PD {r:Fr} {cs ds:List Value} {x y:fT} (hx:fB.rel r cs x) (hy:fB.rel r ds y) :
  aj prog 47 #[.agg cs.toArray,.agg ds.toArray] r [] (aF fun v aa=>v=.bool (decide (x=y))∧aa=[]):=by
 obtain ⟨adT,w7,ad6,w8,rfl,vn,m3⟩:=fB.sh hx;obtain ⟨aeo,xd,aeB,xe,rfl,l6,fM⟩:=fB.sh hy;refine aj.o func47 fun g hg R hR=>?_;have vn:=vn.mono hg;have m3:=m3.mono hg;have l6:=l6.mono hg;have fM:=fM.mono hg;refine S.seq<|S.region rfl<|O.aD (.p rfl) (.box (cs:=[_,_]) rfl rfl) ?_;rintro _ _ ⟨b2,rfl,rfl⟩;refine O.aD (.p rfl) (.box (cs:=[_,_]) rfl rfl) ?_;rintro _ _ ⟨b3,rfl,rfl⟩;refine U 8 ?_;refine O.v0 (.p rfl) rfl af rfl rfl (ace bq bq) ?_;refine U 1 ?_
 refine O.cs 10 rfl (fun h10=>?_) fun h10=>?_
 ·refine U 4 ?_
  refine O.v0 (.g rfl rfl) rfl af rfl rfl (acf bq bq) ?_;refine O.q 2 rfl<|O.nil<|S.ret results47 rfl fun w hw=>ax.end_ hR hw ?_
  first|exact ⟨_,⟨congrArg _ (aA (fun e=>by subst e;exact absurd rfl ay)).symm,rfl⟩,aC⟩|exact ⟨_,⟨congrArg _ (decide_eq_decide.2 ⟨fun e=>PE (x:=x) (y:=y) ay e,fun e=>by rw [e]⟩),rfl⟩,aC⟩
 ·refine O.q 7 rfl<|O.nil<|S.ret results47 rfl fun w hw=>ax.end_ hR hw ?_
  first|exact ⟨_,⟨congrArg _ (aA (fun e=>by subst e;exact absurd rfl ay)).symm,rfl⟩,aC⟩|exact ⟨_,⟨congrArg _ (decide_eq_decide.2 ⟨fun e=>PE (x:=x) (y:=y) ay e,fun e=>by rw [e]⟩),rfl⟩,aC⟩
theorem p_ {x y:aP} (h0:x.1=y.1) (h1:x.2.1=y.2.1) (h2:x.2.2.1=y.2.2.1) (h3:x.2.2.2.1=y.2.2.2.1) (h4:x.2.2.2.2.1=y.2.2.2.2.1) (h5:x.2.2.2.2.2.1=y.2.2.2.2.2.1) (h6:x.2.2.2.2.2.2.1=y.2.2.2.2.2.2.1) (h7:x.2.2.2.2.2.2.2.1=y.2.2.2.2.2.2.2.1) (h8:x.2.2.2.2.2.2.2.2.1=y.2.2.2.2.2.2.2.2.1) (h9:x.2.2.2.2.2.2.2.2.2.1=y.2.2.2.2.2.2.2.2.2.1) (h10:x.2.2.2.2.2.2.2.2.2.2.1=y.2.2.2.2.2.2.2.2.2.2.1) (h11:x.2.2.2.2.2.2.2.2.2.2.2.1=y.2.2.2.2.2.2.2.2.2.2.2.1):x=y:=by
 obtain ⟨a0,a1,a2,a3,a4,a5,a6,a7,a8,a9,c6,cQ,⟨⟩⟩:=x;obtain ⟨b0,b1,b2,b3,b4,iL,kG,gF,kf,nj,rF,pH,⟨⟩⟩:=y
 simp_all
theorem PA {r:Fr} {cs ds:List Value} {x y:aP} (hx:ck.rel r cs x) (hy:ck.rel r ds y) :
  aj prog 18 #[.agg cs.toArray,.agg ds.toArray] r [] (aF fun v aa=>v=.bool (decide (x=y))∧aa=[]):=by
 obtain ⟨sF,sG,adU,adV,adW,adX,adY,adZ,ad0,ad2,ad3,ad4,ad5,sH,sI,ad7,ad8,ad9,ad_,ad',aea,aeb,aed,aee,aef,aeg,rfl,m3,w9,pq,w_,yT,yU,Kf,xa,xb,Qp,J7,J8,J9,J_,J',Qq,aeh,aei,aej,Ka,Kb,aek,ael,aem,Kc,Ke,aiH⟩:=ck.sh hx;obtain ⟨Kp,Kq,aep,aeq,aer,aes,aet,aeu,aev,aex,aey,aez,aeA,Ks,Kt,aeC,aeD,aeE,aeF,aeG,aeH,aeI,aeK,aeL,aeM,aeN,rfl,fM,m4,gM,m5,oH,oI,xq,nT,nU,yV,xf,xg,xh,xj,xk,yW,Ku,Kv,Kw,xl,xm,Kx,Ky,Kz,xo,xp,aeP⟩:=ck.sh hy;refine aj.o func18 fun g hg R hR=>?_;have xa:=xa.mono hg;have xb:=xb.mono hg;have Qp:=Qp.mono hg;have J7:=J7.mono hg;have J8:=J8.mono hg;have J9:=J9.mono hg;have J_:=J_.mono hg;have J':=J'.mono hg;have Qq:=Qq.mono hg;have Ka:=Ka.mono hg;have Kb:=Kb.mono hg;have Kc:=Kc.mono hg;have Ke:=Ke.mono hg;have nT:=nT.mono hg;have nU:=nU.mono hg;have yV:=yV.mono hg;have xf:=xf.mono hg;have xg:=xg.mono hg;have xh:=xh.mono hg;have xj:=xj.mono hg;have xk:=xk.mono hg;have yW:=yW.mono hg;have xl:=xl.mono hg;have xm:=xm.mono hg;have xo:=xo.mono hg;have xp:=xp.mono hg
 refine S.seq<|S.region rfl<|O.aD (.p rfl) (.box (cs:=[_,_,_,_,_,_,_,_,_,_,_,_,_,_,_,_,_,_,_,_,_,_,_,_,_,_,_,_,_]) rfl rfl) ?_;rintro _ _ ⟨b2,rfl,rfl⟩;refine O.aD (.p rfl) (.box (cs:=[_,_,_,_,_,_,_,_,_,_,_,_,_,_,_,_,_,_,_,_,_,_,_,_,_,_,_,_,_]) rfl rfl) ?_;rintro _ _ ⟨b3,rfl,rfl⟩;refine U 10 ?_
 refine O.cs 10 rfl (fun h10=>?_) fun h10=>?_
 ·refine U 7 ?_
  refine O.cs 17 rfl (fun j3=>?_) fun j3=>?_
  ·refine U 7 ?_
   refine O.cs 24 rfl (fun gJ=>?_) fun gJ=>?_
   ·refine U 4 ?_
    refine O.op (.g rfl rfl) (.e4 rfl rfl)<|O.q 2 rfl ?_
    refine O.cs 31 rfl (fun oU=>?_) fun oU=>?_
    ·refine U 4 ?_
     refine O.op (.g rfl rfl) (.e4 rfl rfl)<|O.q 2 rfl ?_
     refine O.cs 38 rfl (fun zZ=>?_) fun zZ=>?_
     ·refine U 4 ?_
      refine O.v0 (.g rfl rfl) rfl af rfl rfl ((DX (x:=x.2.2.2.2.2.1) (y:=y.2.2.2.2.2.1) (bx.mk yT yU Kf xa xb) (bx.mk oH oI xq nT nU)))<|U 2 ?_
      refine O.cs 45 rfl (fun F_=>?_) fun F_=>?_
      ·refine U 4 ?_
       refine O.v0 (.g rfl rfl) rfl af rfl rfl ((PD (x:=x.2.2.2.2.2.2.2.1) (y:=y.2.2.2.2.2.2.2.1) (fB.mk J7 J8) (fB.mk xf xg)))<|U 2 ?_
       refine O.cs 52 rfl (fun T9=>?_) fun T9=>?_
       ·refine U 4 ?_
        refine O.v0 (.g rfl rfl) rfl af rfl rfl ((PC (x:=x.2.2.2.2.2.2.2.2.1) (y:=y.2.2.2.2.2.2.2.2.1) (fj.mk J9 J_ J') (fj.mk xh xj xk)))<|U 2 ?_
        refine O.cs 59 rfl (fun oV=>?_) fun oV=>?_
        ·refine U 4 ?_
         refine O.v0 (.g rfl rfl) rfl af rfl rfl (PF bq bq)<|U 2 ?_
         refine O.cs 66 rfl (fun T'=>?_) fun T'=>?_
         ·refine U 4 ?_
          refine O.v0 (.g rfl rfl) rfl af rfl rfl ((Py (x:=x.2.2.2.2.2.2.2.2.2.2.1) (y:=y.2.2.2.2.2.2.2.2.2.2.1) (eK.mk aeh aei aej Ka Kb aek ael aem Kc Ke) (eK.mk Ku Kv Kw xl xm Kx Ky Kz xo xp)))<|U 2 ?_
          refine O.cs 73 rfl (fun Gc=>?_) fun Gc=>?_
          ·refine U 7 ?_
           refine O.cs 80 rfl (fun z3=>?_) fun z3=>?_
           ·refine U 4 ?_
            refine O.v0 (.g rfl rfl) rfl af rfl rfl (oQ bq bq) ?_;refine O.q 2 rfl<|O.nil<|S.ret results18 rfl fun w hw=>ax.end_ hR hw ?_
            first|exact ⟨_,⟨congrArg _ (aA (fun e=>by subst e;exact absurd rfl ay)).symm,rfl⟩,aC⟩|exact ⟨_,⟨congrArg _ (decide_eq_decide.2 ⟨fun e=>p_ (x:=x) (y:=y) (mY ay) ay ay (eO ay) (eO ay) ay e ay ay ay ay ay,fun e=>by rw [e]⟩),rfl⟩,aC⟩
           ·refine O.q 7 rfl<|O.nil<|S.ret results18 rfl fun w hw=>ax.end_ hR hw ?_
            first|exact ⟨_,⟨congrArg _ (aA (fun e=>by subst e;exact absurd rfl ay)).symm,rfl⟩,aC⟩|exact ⟨_,⟨congrArg _ (decide_eq_decide.2 ⟨fun e=>p_ (x:=x) (y:=y) (mY ay) ay ay (eO ay) (eO ay) ay e ay ay ay ay ay,fun e=>by rw [e]⟩),rfl⟩,aC⟩
          ·refine O.q 14 rfl<|O.nil<|S.ret results18 rfl fun w hw=>ax.end_ hR hw ?_
           first|exact ⟨_,⟨congrArg _ (aA (fun e=>by subst e;exact absurd rfl ay)).symm,rfl⟩,aC⟩|exact ⟨_,⟨congrArg _ (decide_eq_decide.2 ⟨fun e=>p_ (x:=x) (y:=y) (mY ay) ay ay (eO ay) (eO ay) ay e ay ay ay ay ay,fun e=>by rw [e]⟩),rfl⟩,aC⟩
         ·refine O.q 21 rfl<|O.nil<|S.ret results18 rfl fun w hw=>ax.end_ hR hw ?_
          first|exact ⟨_,⟨congrArg _ (aA (fun e=>by subst e;exact absurd rfl ay)).symm,rfl⟩,aC⟩|exact ⟨_,⟨congrArg _ (decide_eq_decide.2 ⟨fun e=>p_ (x:=x) (y:=y) (mY ay) ay ay (eO ay) (eO ay) ay e ay ay ay ay ay,fun e=>by rw [e]⟩),rfl⟩,aC⟩
        ·refine O.q 28 rfl<|O.nil<|S.ret results18 rfl fun w hw=>ax.end_ hR hw ?_
         first|exact ⟨_,⟨congrArg _ (aA (fun e=>by subst e;exact absurd rfl ay)).symm,rfl⟩,aC⟩|exact ⟨_,⟨congrArg _ (decide_eq_decide.2 ⟨fun e=>p_ (x:=x) (y:=y) (mY ay) ay ay (eO ay) (eO ay) ay e ay ay ay ay ay,fun e=>by rw [e]⟩),rfl⟩,aC⟩
       ·refine O.q 35 rfl<|O.nil<|S.ret results18 rfl fun w hw=>ax.end_ hR hw ?_
        first|exact ⟨_,⟨congrArg _ (aA (fun e=>by subst e;exact absurd rfl ay)).symm,rfl⟩,aC⟩|exact ⟨_,⟨congrArg _ (decide_eq_decide.2 ⟨fun e=>p_ (x:=x) (y:=y) (mY ay) ay ay (eO ay) (eO ay) ay e ay ay ay ay ay,fun e=>by rw [e]⟩),rfl⟩,aC⟩
      ·refine O.q 42 rfl<|O.nil<|S.ret results18 rfl fun w hw=>ax.end_ hR hw ?_
       first|exact ⟨_,⟨congrArg _ (aA (fun e=>by subst e;exact absurd rfl ay)).symm,rfl⟩,aC⟩|exact ⟨_,⟨congrArg _ (decide_eq_decide.2 ⟨fun e=>p_ (x:=x) (y:=y) (mY ay) ay ay (eO ay) (eO ay) ay e ay ay ay ay ay,fun e=>by rw [e]⟩),rfl⟩,aC⟩
     ·refine O.q 49 rfl<|O.nil<|S.ret results18 rfl fun w hw=>ax.end_ hR hw ?_
      first|exact ⟨_,⟨congrArg _ (aA (fun e=>by subst e;exact absurd rfl ay)).symm,rfl⟩,aC⟩|exact ⟨_,⟨congrArg _ (decide_eq_decide.2 ⟨fun e=>p_ (x:=x) (y:=y) (mY ay) ay ay (eO ay) (eO ay) ay e ay ay ay ay ay,fun e=>by rw [e]⟩),rfl⟩,aC⟩
    ·refine O.q 56 rfl<|O.nil<|S.ret results18 rfl fun w hw=>ax.end_ hR hw ?_
     first|exact ⟨_,⟨congrArg _ (aA (fun e=>by subst e;exact absurd rfl ay)).symm,rfl⟩,aC⟩|exact ⟨_,⟨congrArg _ (decide_eq_decide.2 ⟨fun e=>p_ (x:=x) (y:=y) (mY ay) ay ay (eO ay) (eO ay) ay e ay ay ay ay ay,fun e=>by rw [e]⟩),rfl⟩,aC⟩
   ·refine O.q 63 rfl<|O.nil<|S.ret results18 rfl fun w hw=>ax.end_ hR hw ?_
    first|exact ⟨_,⟨congrArg _ (aA (fun e=>by subst e;exact absurd rfl ay)).symm,rfl⟩,aC⟩|exact ⟨_,⟨congrArg _ (decide_eq_decide.2 ⟨fun e=>p_ (x:=x) (y:=y) (mY ay) ay ay (eO ay) (eO ay) ay e ay ay ay ay ay,fun e=>by rw [e]⟩),rfl⟩,aC⟩
  ·refine O.q 70 rfl<|O.nil<|S.ret results18 rfl fun w hw=>ax.end_ hR hw ?_
   first|exact ⟨_,⟨congrArg _ (aA (fun e=>by subst e;exact absurd rfl ay)).symm,rfl⟩,aC⟩|exact ⟨_,⟨congrArg _ (decide_eq_decide.2 ⟨fun e=>p_ (x:=x) (y:=y) (mY ay) ay ay (eO ay) (eO ay) ay e ay ay ay ay ay,fun e=>by rw [e]⟩),rfl⟩,aC⟩
 ·refine O.q 77 rfl<|O.nil<|S.ret results18 rfl fun w hw=>ax.end_ hR hw ?_
  first|exact ⟨_,⟨congrArg _ (aA (fun e=>by subst e;exact absurd rfl ay)).symm,rfl⟩,aC⟩|exact ⟨_,⟨congrArg _ (decide_eq_decide.2 ⟨fun e=>p_ (x:=x) (y:=y) (mY ay) ay ay (eO ay) (eO ay) ay e ay ay ay ay ay,fun e=>by rw [e]⟩),rfl⟩,aC⟩
theorem IM {r:Fr} (k i:Int) (hk:iW k) (hi:iW i):aj prog 66 #[.int .i64 k,.int .i64 i] r [] (aF fun v aa=>v=.int .i64 (o8 k i)∧aa=[]):=by
 refine aj.o func66 fun g hg R hR=>?_;obtain ⟨uQ,hk2⟩:=hk;obtain ⟨hi1,hi2⟩:=hi;refine U 8 ?_;refine O.op (.p rfl) (.mul rfl rfl (IntWalk.i64_in _ ai))<|U 4 ?_;refine S.ret results66 rfl fun w hw=>hR _ _ w ?_ hw;exact ⟨rfl,rfl⟩
theorem tO {r:Fr} (k i:Int) (hk:iW k) (hi:iW i):aj prog 28 #[.int .i64 k,.int .i64 i] r [] (aF fun v aa=>v=aT (c_ k i)∧aa=[]):=by
 refine aj.o func28 fun g hg R hR=>?_;refine U 8 ?_;refine O.v0 (.p rfl) rfl af rfl rfl ((IM _ _ hk hi)) ?_;refine O.op (.p rfl) (.iY underlying3 underlying123 rfl)<|O.op (.p rfl) (.N_ rfl rfl)<|O.op (.p rfl) (.shr rfl rfl ai)<|O.op (.p rfl) (.iY underlying123 underlying5 rfl)<|O.q 1 rfl<|O.nil<|S.ret results28 rfl fun w hw=>hR _ _ w ?_ hw;exact ⟨w6 _,rfl⟩
theorem IL {r:Fr} (k i:Int):aj prog 186 #[.int .i64 k,.int .i64 i] r [] (aF fun v aa=>v=.string (str (gR k i))∧aa=[]):=by
 refine aj.o func186 fun g hg R hR=>?_;refine S.seq<|S.region rfl<|O.q 1 rfl<|O.nil<|S.seq<|S.region rfl<|O.q 1 rfl<|O.op (.p rfl) (.iY underlying3 underlying5 rfl)<|O.q 1 rfl<|O.op (.p rfl) (.shr rfl rfl ai)<|O.op (.p rfl) (.iY underlying3 underlying5 rfl)<|O.q 1 rfl<|O.op (.p rfl) (.shr rfl rfl ai)<|O.op (.p rfl) (.iY underlying3 underlying5 rfl)<|O.q 1 rfl ?_;refine O.op (.p rfl) (.iY underlying3 underlying5 rfl)<|O.q 1 rfl<|O.op (.p rfl) (.shr rfl rfl ai)<|O.op (.p rfl) (.iY underlying3 underlying5 rfl)<|O.q 1 rfl<|O.op (.p rfl) (.shr rfl rfl ai)<|O.op (.p rfl) (.iY underlying3 underlying5 rfl)<|O.aD (.p rfl) (.bw (T:=ag.u8) (ys:=gR k i) underlying22 cP aq rfl rfl ⟨rfl,congrArg (fun v=>[v]) (w6 _),congrArg (fun v=>[v]) (w6 _),congrArg (fun v=>[v]) (w6 _),rfl,congrArg (fun v=>[v]) (w6 _),congrArg (fun v=>[v]) (w6 _),congrArg (fun v=>[v]) (w6 _),trivial⟩ aq) ?_;rintro _ _ ⟨dW,cn,rfl,rfl⟩;refine O.gH an fun g hs hm z9=>?_;replace hg:=bf hg hs;replace hR:=a_ hR hm;clear hs hm;refine O.op (.p rfl) (.toStr underlying22 underlying5 underlying9 rfl bq)<|U 2 ?_;exact S.rt results186 rfl hR ⟨rfl,rfl⟩
theorem NX {r:Fr} (k i:Int):aj prog 187 #[.int .i64 k,.int .i64 i] r [] (aF fun v aa=>∃ a c,v=.slice a 8 c∧aa=[fun m=>av ag.u8 m v (gR k i)]):=by
 refine aj.o func187 fun g hg R hR=>?_;refine U 8 ?_;refine O.v0 (.p rfl) rfl af rfl rfl (IL _ _) ?_;refine O.aD (.p rfl) (.acL (xs:=gR k i) underlying9 underlying22 underlying5 rfl aH) ?_;rintro _ _ ⟨a8,bk,rfl,rfl⟩;refine O.q 1 rfl<|O.nil<|S.ret results187 rfl fun w hw=>hR _ _ w ?_ hw;exact ⟨a8,bk,rfl,rfl⟩
theorem sO {r:Fr} {va:Value} {xs:List UInt8} (ha:av ag.u8 r va xs) (hl:xs.length≤100000000000000) :
  aj prog 9 #[va] r [] (aF fun v aa=>∃ a c,v=.slice a xs.length c∧aa=[vz 5 v xs]):=by
 refine aj.o func9 fun g hg R hR=>?_;have ha:=ha.mono hg;obtain ⟨a1,c1,rfl⟩:=ha.shape;refine U 9 ?_;refine O.aD (.p rfl) (.wF (T:=ag.u8) (c:=xs.length+12) underlying22 cP rfl rfl rfl rfl ai ai) ?_;rintro _ _ ⟨a8,bk,rfl,rfl⟩;refine U 6 ?_;refine O.aD (.p rfl) (.mb (T:=ag.u8) ox underlying22 cP aq rfl rfl an bq bl bl) ?_;rintro _ _ ⟨cQ,bG,rfl,rfl⟩;refine U 8 ?_;simp only [D_,Nat.zero_add,List.nil_append];refine S.conv (C:=ak ag.u8 5 (.slice cQ (xs.length+0) bG) (xs++nK 0)) bA.here (fun m x=>⟨m,Fr.bH _,by simpa [nK,iS] using x⟩) ?_;refine S.wE (ι:=Nat) (dy:=Option Addr) (gN:=Nat) (fun i a c=>i≤12) (fun i a c=>[(4,.int .i64 (i:Int)),(3,.slice a (xs.length+i) c)]) [(0,_)] (fun i a c=>[ak ag.u8 5 (.slice a (xs.length+i) c) (xs++nK i)]) (fun i a c=>12 - i) (0) (cQ) (bG) aH aO aO rfl fun i a c hx ih=>?_;have aW:=bS (g:=g);refine U 6 ?_;refine S.cd rfl (fun mh=>?_) fun mh=>?_
 ·refine U 6 ?_
  refine O.v0 (.p rfl) rfl af rfl rfl (tO _ _ e6 e6) ?_;refine O.aD (.p rfl) (.bw (T:=ag.u8) (ys:=[_]) underlying22 cP aq rfl rfl ⟨rfl,trivial⟩ aq) ?_;rintro _ _ ⟨eF,cO,rfl,rfl⟩;refine O.aD (.p rfl) (.fH (T:=ag.u8) underlying22 cP aq rfl rfl an an bl bl) ?_;rintro _ _ ⟨qo,eM,rfl,rfl⟩;refine U 8 ?_;simp only [cI,Y4];rw [kV,Y5];exact S.cF (ih (i+1) (qo) (eM) ai ai)
 ·have hi:i=12:=by omega
  subst hi;refine S.nu bA.here (fun _ x=>ak.room x) fun hroom=>?_;refine U 6 ?_;refine O.qa (q:=xs.length) ag.u8 (.p rfl) underlying22 fG rfl rfl rfl ai ?_;refine O.q 1 rfl<|O.nil<|S.conv (C:=vz 5 (.slice a xs.length c) xs) bA.here (fun m x=>⟨m,Fr.bH _,a,c,hroom.2,rfl,x⟩) ?_;refine S.ret results9 rfl fun w hw=>hR _ _ w ?_ hw;exact ⟨a,c,rfl,rfl⟩
theorem Nt {α:Type} {zs ys:List α} {i:Nat} (hl:zs.length=ys.length) (hx:∀ (j:Nat) (hj:j<zs.length),j<i→zs[j]=ys[j]) (he:∀ (hi:i<zs.length),zs[i]=ys[i]):∀ (j:Nat) (hj:j<zs.length),j<i+1→zs[j]=ys[j]:=by
 intro j hj h
 by_cases hji:j<i
 ·exact hx j hj hji
 ·have:j=i:=by omega
  subst this;exact he hj
theorem X8 (xs zs:List UInt8) (hz:zs.length=xs.length+12) (h:∀ (i:Nat) (hi:i<zs.length),zs[i]=(xs++nK 12)[i]'cw):zs=xs++nK 12 :=
 List.ext_getElem cw fun i h1 h2=>h i h1
theorem KI {r:Fr} {a:Option Addr} {c:Nat} {jO:Value} {xs zs:List UInt8} (hz:av ag.u8 r (.slice a (xs.length+12) c) zs) (hl:av ag.u8 r jO xs) (hb:xs.length≤100000000000000) :
  aj prog 12 #[.slice a xs.length c,jO] r [] (aF fun v aa=>v=.bool (decide (zs=xs++nK 12))∧aa=[]):=by
 refine aj.o func12 fun g hg R hR=>?_;have hz:=hz.mono hg;have hl:=hl.mono hg;obtain ⟨hzl,mS⟩:=hz.room;rw [hzl] at hz mS;obtain ⟨a1,c1,rfl⟩:=hl.shape;refine U 13 ?_;refine S.cd rfl (fun h11=>?_) fun h11=>?_
 ·exact absurd rfl ay
 ·refine U 7 ?_
  refine O.qa (q:=zs.length) ag.u8 (.p rfl) underlying22 fG rfl rfl ai ai<|U 8 ?_;refine S.ev (ι:=Nat) (fun i=>i≤zs.length∧∀ (j:Nat) (hj:j<zs.length),j<i→zs[j]=(xs++nK 12)[j]'cw) (fun i=>[(6,.int .i64 (i:Int))]) [(1,_),(5,_)] (fun i=>[]) (fun i=>zs.length - i) (0) (by exact ⟨by simp,fun j hj h=>absurd h ai⟩) aO aO rfl fun i hx ih=>?_;have aW:=bS (g:=g);obtain ⟨hx1,hx⟩:=hx;refine U 8 ?_;refine S.cd rfl (fun gI=>?_) fun gI=>?_
  ·have hi:i<zs.length:=by omega
   refine U 4 ?_;refine S.aY (L:=.range 35) F.mixed af ?_;refine U 5 ?_
   refine ah.cs 27 rfl (fun hG=>?_) fun hG=>?_
   ·have hi2:i<xs.length:=by omega
    have jl:(xs++nK 12)[i]'cw=xs[i]:=xu hi2;refine ah.q 2 rfl<|ah.c7 (.g rfl rfl) underlying22 fG rfl rfl rfl bq (h:=fun tW s4 jI j5=>?_)
    cases j5
    refine U 1 ?_;refine ah.q 2 rfl<|ah.c7 (.g rfl rfl) underlying22 fG rfl rfl rfl bq (h:=fun A2 zJ tu ot=>?_)
    cases ot
    refine U 2 ?_;refine .quiet (.g rfl rfl) rfl (fun _=>(by first|exact .pY rfl|exact .not rfl)) ?_;refine U 2 ?_
    refine ah.cs 39 rfl (fun z0=>?_) fun z0=>?_
    ·refine U 24 ?_
     refine S.ret results12 rfl fun w hw=>hR _ _ w ?_ hw;refine ⟨?_,rfl⟩;have hne:¬ zs=xs++nK 12:=by
      intro e
      have h1:zs[i]=xs[i]:=by rw [← jl];exact getElem_congr_coll e
      have:=P_ h1
      omega
     simp [hne]
    ·refine U 4 ?_
     refine ah.aB 43 rfl cw<|U 23 ?_;exact S.cF (ih (i+1) (by exact ⟨by omega,Nt cw hx fun _=>by rw [jl];exact D5 ai⟩) ai)
   ·have hi2:xs.length≤i:=by omega
    have jl:(xs++nK 12)[i]'cw=c_ 1 ((i:Int) - (xs.length:Int)):=by
     rw [List.getElem_append_right hi2];simp [nK,iS];congr 1;omega
    refine U 16 ?_;refine ah.sT 43 rfl cw ?_;refine ah.q 3 rfl<|ah.c7 (.g rfl rfl) underlying22 fG rfl rfl rfl bq (h:=fun wP vI lI nG=>?_)
    cases nG
    refine U 5 ?_;refine ah.v0 (.g rfl rfl) af rfl af rfl rfl (tO _ _ e6 e6)<|U 1 ?_;refine .quiet (.g rfl rfl) rfl (fun _=>(by first|exact .pY rfl|exact .not rfl)) ?_;refine U 3 ?_;refine S.cd rfl (fun T_=>?_) fun T_=>?_
    ·refine U 4 ?_
     refine S.ret results12 rfl fun w hw=>hR _ _ w ?_ hw;refine ⟨?_,rfl⟩;have hne:¬ zs=xs++nK 12:=by
      intro e
      have h1:zs[i]=c_ 1 ((i:Int) - (xs.length:Int)):=by rw [← jl];exact getElem_congr_coll e
      have:=P_ h1
      omega
     simp [hne]
    ·refine U 7 ?_
     exact S.cF (ih (i+1) (by exact ⟨by omega,Nt cw hx fun _=>by rw [jl];exact D5 ai⟩) ai)
  ·have hi:i=zs.length:=by omega
   refine U 5 ?_;refine S.ret results12 rfl fun w hw=>hR _ _ w ?_ hw;exact ⟨by rw [X8 xs zs hzl.symm (fun j hj=>hx j hj ai)];simp,rfl⟩
def N2 (n:Nat):List UInt8:=(List.range n).map fun (i:Nat)=>c_ 2 (i:Int)
@[simp] theorem ahF (n:Nat):(N2 n).length=n:=by simp [N2]
def q5 (n:Nat):List (List UInt8):=(List.range n).map fun (i:Nat)=>gR 1 (i:Int)
@[simp] theorem abG (n:Nat):(q5 n).length=n:=by simp [q5]
theorem abH (n:Nat):q5 n++[gR 1 (n:Int)]=q5 (n+1):=by simp [q5,List.range_succ]
def y3 (v:Value) (xs:List UInt8):az:=fun m=>av ag.u8 m v xs
theorem QF {r:Fr} {va:Value} {xss:List (List UInt8)} (ha:av (ag.slice ag.u8) r va xss) (hq:∀ x∈xss,x.length≤100000000000000) (hl:xss.length≤1000000000000) :
  aj prog 114 #[va] r [] (aF fun v aa=>∃ a c vs us,vs.length=xss.length∧us.length=12∧xss.length+12≤c∧v=.slice a xss.length c∧aa=[ak ag.val 22 (.slice a (xss.length+12) c) (vs++us),aZ (vz 5) vs xss,aZ y3 us (q5 12)]):=by
 refine aj.o func114 fun g hg R hR=>?_;have ha:=ha.mono hg;obtain ⟨a1,c1,rfl⟩:=ha.shape;refine U 9 ?_;refine O.aD (.p rfl) (.wF (T:=ag.val) (c:=xss.length+12) underlying28 dH rfl rfl rfl rfl ai ai) ?_;rintro _ _ ⟨c6,bB,rfl,rfl⟩;refine U 8 ?_;refine S.uG (vz 5) ?_;refine S.r0 (ι:=Nat) (dy:=Option Addr) (gN:=Nat) (aL:=List Value) (fun i a c vs=>i≤xss.length∧vs.length=i) (fun i a c vs=>[(4,.int .i64 (i:Int)),(3,.slice a i c)]) [(0,_)] (fun i a c vs=>[aZ (vz 5) vs (xss.take i),ak ag.val 22 (.slice a i c) vs]) (fun i a c vs=>xss.length - i) (0) (c6) (bB) ([]) sK aO aO rfl fun i a c vs hx ih=>?_;have aW:=bS (g:=g);obtain ⟨hx1,hvs⟩:=hx;refine U 8 ?_;refine S.cd rfl (fun eH=>?_) fun eH=>?_
 ·have hi:i<xss.length:=by omega
  have hrow:=hq xss[i] (List.getElem_mem hi);refine U 7 ?_;refine O.c7 (.p rfl) underlying28 mX rfl rfl rfl bq (h:=fun e5 me gx ee=>?_);obtain ⟨Qb,rfl,vQ⟩:=ee;obtain ⟨eF,cO,rfl⟩:=vQ.shape;refine U 1 ?_;refine O.aN (.p rfl) rfl af rfl rfl (sO bq bl) ?_;rintro _ _ ⟨dW,cn,rfl,rfl⟩;refine U 5 ?_;refine O.aD (.p rfl) (.bw (T:=ag.val) (ys:=[_]) underlying28 dH aq rfl rfl ⟨⟨rfl,rfl⟩,trivial⟩ aq) ?_;rintro _ _ ⟨gO,dw,rfl,rfl⟩;refine O.aD (.p rfl) (.fH (T:=ag.val) underlying28 dH aq rfl rfl an an bl bl) ?_;rintro _ _ ⟨iJ,dG,rfl,rfl⟩;refine O.each an an ?_;refine U 8 ?_;rw [← j9 hi,hvs];exact S.pw (ih (i+1) (iJ) (dG) ((vs++[.slice dW xss[i].length cn])) vu ai)
 ·have hi:i=xss.length:=by omega
  subst hi;rw [List.take_length];refine U 7 ?_;refine S.conv (B:=ak ag.val 22 (.slice a xss.length c) vs) (C:=ak ag.val 22 (.slice a xss.length c) (vs++[])) an (fun m x=>⟨m,Fr.bH _,by rw [List.append_nil];exact x⟩) ?_;refine S.uG y3 ?_;refine S.r0 (ι:=Nat) (dy:=Option Addr) (gN:=Nat) (aL:=List Value) (fun i a c us=>i≤12∧us.length=i) (fun i a c us=>[(6,.int .i64 (i:Int)),(3,.slice a (xss.length+i) c)]) [(0,_)] (fun i a c us=>[aZ y3 us (q5 i),ak ag.val 22 (.slice a (xss.length+i) c) (vs++us),aZ (vz 5) vs xss]) (fun i a c us=>12 - i) (0) (a) (c) ([]) sK aO aO rfl fun i a c us hx ih=>?_;have hm2:=bS (g:=g);obtain ⟨hx1,gP⟩:=hx;refine U 6 ?_;refine S.cd rfl (fun hG=>?_) fun hG=>?_
  ·refine U 6 ?_
   refine O.aN (.p rfl) rfl af rfl rfl ((NX _ _)) ?_;rintro _ _ ⟨ke,kj,rfl,rfl⟩;refine O.aD (.p rfl) (.bw (T:=ag.val) (ys:=[_]) underlying28 dH aq rfl rfl ⟨⟨rfl,rfl⟩,trivial⟩ aq) ?_;rintro _ _ ⟨mE,mG,rfl,rfl⟩;refine O.aD (.p rfl) (.fH (T:=ag.val) underlying28 dH aq rfl rfl an an bl bl) ?_;rintro _ _ ⟨ni,nq,rfl,rfl⟩;refine O.each (A:=y3) an an<|U 8 ?_;rw [abH,kV];simp only [cI,hvs,gP];exact S.pw (ih (i+1) (ni) (nq) ((us++[.slice ke 8 kj])) vu ai)
  ·have hi:i=12:=by omega
   subst hi;refine S.nu an (fun _ x=>ak.room (T:=ag.val) (e:=22) (xs:=vs++us) (a:=a) (c:=c) (m:=xss.length+12) x) fun hroom=>?_;refine U 6 ?_;refine O.qa (q:=xss.length) ag.val (.p rfl) underlying28 mX rfl rfl rfl ai ?_;refine U 2 ?_;exact S.rt results114 rfl hR ⟨a,c,vs,us,hvs,gP,hroom.2,rfl,rfl⟩
abbrev aX:f_:=⟨5,3,22,115,118,120,122,35,31,27,38,41,255⟩
theorem NR {r:Fr} (k i:Int) (hk:iW k) (hi:iW i):aj prog 188 #[.int .i64 k,.int .i64 i] r [] (aF fun v aa=>v=.agg #[.int .i64 0,.int .i64 (o8 k i)]∧aa=[]):=by
 refine aj.o func188 fun g hg R hR=>?_;refine S.seq<|S.region rfl<|O.aD (.p rfl) (.alloc (cs:=[.int .i64 0,.int .i64 0]) zeroValue115 rfl) ?_;rintro _ _ ⟨b4,rfl,rfl⟩;refine U 5 ?_;refine O.v0 (.p rfl) rfl af rfl rfl ((IM _ _ hk hi)) ?_;refine O.op (.p rfl) (.build (cs:=[_,_]) underlying115 rfl rfl rfl rfl rfl)<|U 1 ?_;refine O.nil<|S.mW results188 isAgg115 af rfl an fun w hw=>ax.end_ hR hw ?_;exact pk ⟨rfl,rfl⟩
theorem YX {h:Fr} {k i:Int} (hk:iW k) (hi:iW i):cU.rel h [.int .i64 0,.int .i64 (o8 k i)] (lN k i):=cU.mk (by constructor<;>decide) (N1 hk hi)
theorem Yr {r:Fr} {va:Value} {xs:List dB} (ha:av cU r va xs) (hl:xs.length≤100000000000) :
  aj prog 215 #[va] r [] (aF fun v aa=>∃ a c,v=.slice a xs.length c∧aa=[jg cU 115 (lN 1) v xs]):=by
 refine aj.o func215 fun g hg R hR=>?_;have ha:=ha.mono hg;obtain ⟨a1,c1,rfl⟩:=ha.shape;refine U 9 ?_;refine O.aD (.p rfl) (.wF (T:=cU) (c:=xs.length+12) underlying116 uH rfl rfl rfl rfl ai ai) ?_;rintro _ _ ⟨a8,bk,rfl,rfl⟩;refine U 6 ?_;refine O.aD (.p rfl) (.mb (T:=cU) aae underlying116 uH aq rfl rfl an bq bl bl) ?_;rintro _ _ ⟨cQ,bG,rfl,rfl⟩;refine U 8 ?_;simp only [D_,Nat.zero_add,List.nil_append];refine S.conv (C:=ak cU 115 (.slice cQ (xs.length+0) bG) (xs++iS (lN 1) 0)) bA.here (fun m x=>⟨m,Fr.bH _,by simpa [iS] using x⟩) ?_;refine S.wE (ι:=Nat) (dy:=Option Addr) (gN:=Nat) (fun i a c=>i≤12) (fun i a c=>[(4,.int .i64 (i:Int)),(3,.slice a (xs.length+i) c)]) [(0,_)] (fun i a c=>[ak cU 115 (.slice a (xs.length+i) c) (xs++iS (lN 1) i)]) (fun i a c=>12 - i) (0) (cQ) (bG) aH aO aO rfl fun i a c hx ih=>?_;have aW:=bS (g:=g);refine U 6 ?_;refine S.cd rfl (fun mh=>?_) fun mh=>?_
 ·refine U 6 ?_
  refine O.v0 (.p rfl) rfl af rfl rfl (NR _ _ e6 e6) ?_;refine O.aD (.p rfl) (.bw (T:=cU) (ys:=[lN 1 (i:Int)]) underlying116 uH aq rfl rfl ⟨YX e6 e6,trivial⟩ aq) ?_;rintro _ _ ⟨eF,cO,rfl,rfl⟩;refine O.aD (.p rfl) (.fH (T:=cU) underlying116 uH aq rfl rfl an an bl bl) ?_;rintro _ _ ⟨qo,eM,rfl,rfl⟩;refine U 8 ?_;simp only [cI,tP];rw [kV,AN];exact S.pw (ih (i+1) (qo) (eM) ai ai)
 ·have hi:i=12:=by omega
  subst hi;refine S.nu bA.here (fun _ x=>ak.room x) fun hroom=>?_;refine U 6 ?_;refine O.qa (q:=xs.length) cU (.p rfl) underlying116 j8 rfl rfl rfl ai ?_;refine O.q 1 rfl<|O.nil<|S.conv (C:=jg cU 115 (lN 1) (.slice a xs.length c) xs) bA.here (fun m x=>⟨m,Fr.bH _,a,c,hroom.2,rfl,x⟩) ?_;refine S.ret results215 rfl fun w hw=>hR _ _ w ?_ hw;exact ⟨a,c,rfl,rfl⟩
theorem XY {r:Fr} {va jO:Value} {xs:List dB} (hz:kF cU (lN 1) r va xs) (hl:av cU r jO xs) (hb:xs.length≤100000000000) :
  aj prog 228 #[va,jO] r [] (aF fun v aa=>v=.bool true∧aa=[]):=by
 obtain ⟨a,c,wj,rfl,hz⟩:=hz;refine aj.o func228 fun g hg R hR=>?_;have hz:=hz.mono hg;have hl:=hl.mono hg;obtain ⟨a1,c1,rfl⟩:=hl.shape;refine U 13 ?_;refine S.cd rfl (fun h11=>?_) fun h11=>?_
 ·exact absurd rfl ay
 ·refine U 7 ?_
  refine O.qa (q:=xs.length+12) cU (.p rfl) underlying116 j8 rfl rfl rfl ai<|U 8 ?_;refine S.ev (ι:=Nat) (fun i=>i≤xs.length+12) (fun i=>[(6,.int .i64 (i:Int))]) [(1,_),(5,_)] (fun i=>[]) (fun i=>xs.length+12 - i) (0) aH aO aO rfl fun i hx ih=>?_;have aW:=bS (g:=g);refine U 8 ?_;refine S.cd rfl (fun gI=>?_) fun gI=>?_
  ·have hi:i<xs.length+12:=by omega
   have hlz:i<(xs++iS (lN 1) 12).length:=by simp;omega
   refine U 4 ?_;refine S.aY (L:=.range 35) F.mixed af ?_;refine U 5 ?_
   refine ah.cs 27 rfl (fun hG=>?_) fun hG=>?_
   ·have hi2:i<xs.length:=by omega
    have jl:(xs++iS (lN 1) 12)[i]=xs[i]:=xu hi2;refine ah.q 2 rfl<|ah.dI (hz) (h:=fun tW s4 jI j5=>?_);obtain ⟨rfl,_,_⟩:=cU.open j5;rw [jl] at jI;refine .quiet (.g rfl rfl) rfl (fun _=>.aJ isAgg115 af rfl jI) ?_;refine ah.q 2 rfl<|ah.dI (hl) (h:=fun A2 zJ tu ot=>?_);obtain ⟨rfl,_,_⟩:=cU.open ot;refine .quiet (.g rfl rfl) rfl (fun _=>.aJ isAgg115 af rfl tu) ?_;refine .quiet (.g rfl rfl) rfl (fun _=>.LG underlying115 underlying3 rfl rfl rfl rfl aq aq af af rfl rfl)<|ah.sT 36 rfl aH ?_;refine U 7 ?_;refine ah.aB 43 rfl cw ?_;refine U 23 ?_;exact S.cF (ih (i+1) ai ai)
   ·have hi2:xs.length≤i:=by omega
    have jl:(xs++iS (lN 1) 12)[i]=lN 1 ((i:Int) - (xs.length:Int)):=by
     rw [List.getElem_append_right hi2,Dj];congr 1;omega
    refine U 16 ?_;refine ah.sT 43 rfl cw ?_;refine ah.q 3 rfl<|ah.dI (hz) (h:=fun wP vI lI nG=>?_);obtain ⟨rfl,_,_⟩:=cU.open nG;rw [jl] at lI;refine .quiet (.g rfl rfl) rfl (fun _=>.aJ isAgg115 af rfl lI) ?_;refine U 4 ?_;refine ah.v0 (.g rfl rfl) af rfl af rfl rfl (NR _ _ e6 e6) ?_;refine .quiet (.g rfl rfl) rfl (fun _=>.LG underlying115 underlying3 rfl rfl rfl rfl aq aq af af rfl rfl)<|ah.sT 54 rfl (by simp [lN]) ?_;refine U 12 ?_;exact S.cF (ih (i+1) ai ai)
  ·refine U 5 ?_
   exact S.rt results228 rfl hR ⟨rfl,rfl⟩
theorem uW {r:Fr} {va jO:Value} {xs:List UInt8} (hz:kF ag.u8 (c_ 1) r va xs) (hl:av ag.u8 r jO xs) (hb:xs.length≤1000000000000) :
  aj prog 12 #[va,jO] r [] (aF fun v aa=>v=.bool true∧aa=[]):=by
 obtain ⟨a,c,wj,rfl,hz⟩:=hz;exact (KI hz hl ai).post fun e aa h w g hw=>by
  cases e with
  |returned v =>
   obtain ⟨rfl,rfl⟩:=h;exact ⟨_,⟨by simp,rfl⟩,hw⟩
  |panicked _=>exact h.elim
  |outgrown=>exact h.elim
end Go.Proofs.YtdjoggpacmpfnaaGreatDoor
