/- Texts of this proof. -/
import Derived.Test.YtdjoggpacmpfnaaGreatDoorQFrame7
import Derived.Test.YtdjoggpacmpfnaaGreatDoorQSpCall
open Go Go.Sp Go.Proofs.Tryz
set_option maxRecDepth 100000
set_option maxHeartbeats 1000000
attribute [local irreducible] obj Own OwnP
namespace Go.Proofs.YtdjoggpacmpfnaaGreatDoor
theorem lessPull_c {r:Fr} {b:Nat} {c0 c1 c2 c3 c4 c5 c6 c7 c8 c9 c10 c11 c12 c13 c14 c15 c16 c17 c18 c19 c20 c21 c22 c23 c24 c25 c26 c27 c28 y:Value}:Con prog 146 #[.pointer (some ⟨b,0,none⟩)] r [obj b 129 [c0,c1,c2,c3,c4,c5,c6,c7,c8,c9,c10,c11,c12,c13,c14,c15,c16,c17,c18,c19,c20,c21,c22,c23,c24,c25,c26,c27,c28,y]] (Ret fun v η=>v=.tuple #[]∧η=[obj b 129 [c0,c1,.int .i64 0,c3,c4,c5,c6,c7,c8,c9,c10,c11,c12,c13,c14,c15,c16,c17,c18,c19,c20,c21,c22,c23,c24,c25,c26,c27,c28,y]]):=by
 refine Con.o func146 fun g hg R hR=>?_;refine zz 6 ?_;refine O.nil<|S.objIs (b:=b) (cs' :=[c0,c1,.int .i64 0,c3,c4,c5,c6,c7,c8,c9,c10,c11,c12,c13,c14,c15,c16,c17,c18,c19,c20,c21,c22,c23,c24,c25,c26,c27,c28,y]) zD rfl ?_;refine S.end0 results146 fun w hw=>Holds.end_ hR hw ?_;exact pk ⟨rfl,rfl⟩
theorem lessOffer_c {r:Fr} {b:Nat} {c0 c1 c2 c3 c4 c5 c6 c7 c8 c9 c10 c11 c12 c13 c14 c15 c16 c17 c18 c19 c20 c21 c22 c23 c24 c25 c26 c27 c28 y:Value}:Con prog 149 #[.pointer (some ⟨b,0,none⟩)] r [obj b 129 [c0,c1,c2,c3,c4,c5,c6,c7,c8,c9,c10,c11,c12,c13,c14,c15,c16,c17,c18,c19,c20,c21,c22,c23,c24,c25,c26,c27,c28,y]] (Ret fun v η=>v=.tuple #[]∧η=[obj b 129 [c0,c1,c2,c3,c4,.int .i64 0,.int .i64 0,.int .i64 0,.slice none 0 0,.slice none 0 0,.slice none 0 0,c11,c12,c13,c14,c15,c16,c17,c18,c19,c20,c21,c22,c23,c24,c25,c26,c27,c28,y]]):=by
 refine Con.o func149 fun g hg R hR=>?_;refine zz 3 ?_;refine O.op (.p rfl) (.build (cs:=[_,_,_,_,_]) underlying27 rfl rfl rfl rfl rfl)<|zz 8 ?_;refine O.nil<|S.objIs (b:=b) (cs' :=[c0,c1,c2,c3,c4,.int .i64 0,.int .i64 0,.int .i64 0,.slice none 0 0,.slice none 0 0,.slice none 0 0,c11,c12,c13,c14,c15,c16,c17,c18,c19,c20,c21,c22,c23,c24,c25,c26,c27,c28,y]) zD rfl ?_;refine S.end0 results149 fun w hw=>Holds.end_ hR hw ?_;exact pk ⟨rfl,rfl⟩
theorem lessAsk_c {r:Fr} {b:Nat} {c0 c1 c2 c3 c4 c5 c6 c7 c8 c9 c10 c11 c12 c13 c14 c15 c16 c17 c18 c19 c20 c21 c22 c23 c24 c25 c26 c27 c28 y:Value}:Con prog 152 #[.pointer (some ⟨b,0,none⟩)] r [obj b 129 [c0,c1,c2,c3,c4,c5,c6,c7,c8,c9,c10,c11,c12,c13,c14,c15,c16,c17,c18,c19,c20,c21,c22,c23,c24,c25,c26,c27,c28,y]] (Ret fun v η=>v=.tuple #[]∧η=[obj b 129 [c0,c1,c2,c3,.string ⟨#[]⟩,c5,c6,c7,c8,c9,c10,c11,c12,c13,c14,c15,c16,c17,c18,c19,c20,c21,c22,c23,c24,c25,c26,c27,c28,y]]):=by
 refine Con.o func152 fun g hg R hR=>?_;refine zz 6 ?_;refine O.nil<|S.objIs (b:=b) (cs' :=[c0,c1,c2,c3,.string ⟨#[]⟩,c5,c6,c7,c8,c9,c10,c11,c12,c13,c14,c15,c16,c17,c18,c19,c20,c21,c22,c23,c24,c25,c26,c27,c28,y]) zD rfl ?_;refine S.end0 results152 fun w hw=>Holds.end_ hR hw ?_;exact pk ⟨rfl,rfl⟩
theorem lessNode_c {r:Fr} {b:Nat} {c0 c1 c2 c3 c4 c5 c6 c7 c8 c9 c10 c11 c12 c13 c14 c15 c16 c17 c18 c19 c20 c21 c22 c23 c24 c25 c26 c27 c28 y:Value}:Con prog 155 #[.pointer (some ⟨b,0,none⟩)] r [obj b 129 [c0,c1,c2,c3,c4,c5,c6,c7,c8,c9,c10,c11,c12,c13,c14,c15,c16,c17,c18,c19,c20,c21,c22,c23,c24,c25,c26,c27,c28,y]] (Ret fun v η=>v=.tuple #[]∧η=[obj b 129 [c0,c1,c2,c3,.string ⟨#[]⟩,c5,c6,c7,c8,c9,c10,c11,c12,.int .u8 0,.slice none 0 0,.slice none 0 0,.slice none 0 0,c17,c18,c19,c20,c21,c22,c23,c24,c25,c26,c27,c28,y]]):=by
 refine Con.o func155 fun g hg R hR=>?_;refine zz 3 ?_;refine O.op (.p rfl) (.build (cs:=[_,_,_,_]) underlying35 rfl rfl rfl rfl rfl)<|zz 8 ?_;refine O.nil<|S.objIs (b:=b) (cs' :=[c0,c1,c2,c3,.string ⟨#[]⟩,c5,c6,c7,c8,c9,c10,c11,c12,.int .u8 0,.slice none 0 0,.slice none 0 0,.slice none 0 0,c17,c18,c19,c20,c21,c22,c23,c24,c25,c26,c27,c28,y]) zD rfl ?_;refine S.end0 results155 fun w hw=>Holds.end_ hR hw ?_;exact pk ⟨rfl,rfl⟩
theorem lessPut_c {r:Fr} {b:Nat} {c0 c1 c2 c3 c4 c5 c6 c7 c8 c9 c10 c11 c12 c13 c14 c15 c16 c17 c18 c19 c20 c21 c22 c23 c24 c25 c26 c27 c28 y:Value}:Con prog 158 #[.pointer (some ⟨b,0,none⟩)] r [obj b 129 [c0,c1,c2,c3,c4,c5,c6,c7,c8,c9,c10,c11,c12,c13,c14,c15,c16,c17,c18,c19,c20,c21,c22,c23,c24,c25,c26,c27,c28,y]] (Ret fun v η=>v=.tuple #[]∧η=[obj b 129 [c0,c1,c2,c3,c4,c5,c6,c7,c8,c9,c10,c11,c12,c13,c14,c15,c16,.slice none 0 0,c18,c19,c20,c21,c22,c23,c24,c25,c26,c27,c28,y]]):=by
 refine Con.o func158 fun g hg R hR=>?_;refine zz 6 ?_;refine O.nil<|S.objIs (b:=b) (cs' :=[c0,c1,c2,c3,c4,c5,c6,c7,c8,c9,c10,c11,c12,c13,c14,c15,c16,.slice none 0 0,c18,c19,c20,c21,c22,c23,c24,c25,c26,c27,c28,y]) zD rfl ?_;refine S.end0 results158 fun w hw=>Holds.end_ hR hw ?_;exact pk ⟨rfl,rfl⟩
theorem lessAck_c {r:Fr} {b:Nat} {c0 c1 c2 c3 c4 c5 c6 c7 c8 c9 c10 c11 c12 c13 c14 c15 c16 c17 c18 c19 c20 c21 c22 c23 c24 c25 c26 c27 c28 y:Value}:Con prog 161 #[.pointer (some ⟨b,0,none⟩)] r [obj b 129 [c0,c1,c2,c3,c4,c5,c6,c7,c8,c9,c10,c11,c12,c13,c14,c15,c16,c17,c18,c19,c20,c21,c22,c23,c24,c25,c26,c27,c28,y]] (Ret fun v η=>v=.tuple #[]∧η=[obj b 129 [c0,c1,c2,c3,c4,c5,c6,c7,c8,c9,c10,c11,c12,c13,c14,c15,c16,c17,c18,c19,c20,c21,c22,c23,c24,c25,c26,c27,.int .i64 0,y]]):=by
 refine Con.o func161 fun g hg R hR=>?_;refine zz 6 ?_;refine O.nil<|S.objIs (b:=b) (cs' :=[c0,c1,c2,c3,c4,c5,c6,c7,c8,c9,c10,c11,c12,c13,c14,c15,c16,c17,c18,c19,c20,c21,c22,c23,c24,c25,c26,c27,.int .i64 0,y]) zD rfl ?_;refine S.end0 results161 fun w hw=>Holds.end_ hR hw ?_;exact pk ⟨rfl,rfl⟩
theorem lessGet_c {r:Fr} {b:Nat} {c0 c1 c2 c3 c4 c5 c6 c7 c8 c9 c10 c11 c12 c13 c14 c15 c16 c17 c18 c19 c20 c21 c22 c23 c24 c25 c26 c27 c28 y:Value}:Con prog 164 #[.pointer (some ⟨b,0,none⟩)] r [obj b 129 [c0,c1,c2,c3,c4,c5,c6,c7,c8,c9,c10,c11,c12,c13,c14,c15,c16,c17,c18,c19,c20,c21,c22,c23,c24,c25,c26,c27,c28,y]] (Ret fun v η=>v=.tuple #[]∧η=[obj b 129 [c0,c1,c2,.string ⟨#[]⟩,c4,c5,c6,c7,c8,c9,c10,c11,c12,c13,c14,c15,c16,c17,c18,c19,c20,c21,c22,c23,c24,c25,c26,c27,c28,y]]):=by
 refine Con.o func164 fun g hg R hR=>?_;refine zz 6 ?_;refine O.nil<|S.objIs (b:=b) (cs' :=[c0,c1,c2,.string ⟨#[]⟩,c4,c5,c6,c7,c8,c9,c10,c11,c12,c13,c14,c15,c16,c17,c18,c19,c20,c21,c22,c23,c24,c25,c26,c27,c28,y]) zD rfl ?_;refine S.end0 results164 fun w hw=>Holds.end_ hR hw ?_;exact pk ⟨rfl,rfl⟩
theorem lessGot_c {r:Fr} {b:Nat} {c0 c1 c2 c3 c4 c5 c6 c7 c8 c9 c10 c11 c12 c13 c14 c15 c16 c17 c18 c19 c20 c21 c22 c23 c24 c25 c26 c27 c28 y:Value}:Con prog 167 #[.pointer (some ⟨b,0,none⟩)] r [obj b 129 [c0,c1,c2,c3,c4,c5,c6,c7,c8,c9,c10,c11,c12,c13,c14,c15,c16,c17,c18,c19,c20,c21,c22,c23,c24,c25,c26,c27,c28,y]] (Ret fun v η=>v=.tuple #[]∧η=[obj b 129 [c0,c1,c2,.string ⟨#[]⟩,c4,.int .i64 0,.int .i64 0,.int .i64 0,.slice none 0 0,.slice none 0 0,c10,.slice none 0 0,.slice none 0 0,c13,c14,c15,c16,.slice none 0 0,c18,c19,c20,c21,c22,c23,c24,c25,c26,c27,c28,y]]):=by
 refine Con.o func167 fun g hg R hR=>?_;refine zz 5 ?_;refine O.op (.p rfl) (.build (cs:=[_,_,_,_,_]) underlying27 rfl rfl rfl rfl rfl)<|O.op (.p rfl) (.build (cs:=[_,_]) underlying31 rfl rfl rfl rfl rfl)<|zz 16 ?_;refine O.nil<|S.objIs (b:=b) (cs' :=[c0,c1,c2,.string ⟨#[]⟩,c4,.int .i64 0,.int .i64 0,.int .i64 0,.slice none 0 0,.slice none 0 0,c10,.slice none 0 0,.slice none 0 0,c13,c14,c15,c16,.slice none 0 0,c18,c19,c20,c21,c22,c23,c24,c25,c26,c27,c28,y]) zD rfl ?_;refine S.end0 results167 fun w hw=>Holds.end_ hR hw ?_;exact pk ⟨rfl,rfl⟩
theorem lessEvidence_c {r:Fr} {b:Nat} {c0 c1 c2 c3 c4 c5 c6 c7 c8 c9 c10 c11 c12 c13 c14 c15 c16 c17 c18 c19 c20 c21 c22 c23 c24 c25 c26 c27 c28 y:Value}:Con prog 170 #[.pointer (some ⟨b,0,none⟩)] r [obj b 129 [c0,c1,c2,c3,c4,c5,c6,c7,c8,c9,c10,c11,c12,c13,c14,c15,c16,c17,c18,c19,c20,c21,c22,c23,c24,c25,c26,c27,c28,y]] (Ret fun v η=>v=.tuple #[]∧η=[obj b 129 [c0,c1,c2,c3,c4,c5,c6,c7,c8,c9,c10,c11,c12,c13,c14,c15,c16,c17,.int .i64 0,.int .i64 0,.int .i64 0,.slice none 0 0,.slice none 0 0,.int .i64 0,.int .i64 0,.int .i64 0,.slice none 0 0,.slice none 0 0,c28,y]]):=by
 refine Con.o func170 fun g hg R hR=>?_;refine zz 2 ?_;refine O.op (.p rfl) (.build (cs:=[_,_,_,_,_,_,_,_,_,_]) underlying38 rfl rfl rfl rfl rfl)<|zz 4 ?_;refine O.nil<|S.objIs (b:=b) (cs' :=[c0,c1,c2,c3,c4,c5,c6,c7,c8,c9,c10,c11,c12,c13,c14,c15,c16,c17,.int .i64 0,.int .i64 0,.int .i64 0,.slice none 0 0,.slice none 0 0,.int .i64 0,.int .i64 0,.int .i64 0,.slice none 0 0,.slice none 0 0,c28,y]) zD rfl ?_;refine S.end0 results170 fun w hw=>Holds.end_ hR hw ?_;exact pk ⟨rfl,rfl⟩
theorem triedB_ret {g:Gr} {bt bx:Nat} {x:Value} {T' :TypeId} {w:World} {R:Ending→World→Prop} {η:List SProp} (hw:Holds w g (obj bx T' [x]::η)) (hR:∀ w,Holds w g (obj bx T' [x]::η)→R (.returned x) w) :
  CallsD prog 229 #[.pointer (some ⟨bt,0,none⟩),.pointer (some ⟨bx,0,none⟩)] .returning w (DPost g bx R):=by
 refine (callsD_rec (R:=fun e w=>(∃ v,e=.returned v)∧Holds w g (obj bx T' [x]::η)) [.pointer (some ⟨bt,0,none⟩),.pointer (some ⟨bx,0,none⟩)] rfl func229 rfl rfl rfl rfl hw ?_).mono ?_
 rotate_left
 ·rintro e u' w' ⟨rfl,⟨v,rfl⟩,h⟩
  exact ⟨⟨v,rfl⟩,rfl,T',x,η,h,hR w' h⟩
 refine S.seq<|S.region rfl<|O.q 1 rfl<|O.op (.p rfl) (.neqIN underlying20 rfl)<|O.nil<|S.condF rfl<|S.skip<|S.end0 results229 fun w hw=>?_;exact ⟨⟨_,rfl⟩,hw⟩
theorem triedB_pan {g:Gr} {bt bx b:Nat} {v x:Value} {made bad:Bool} {T' Tt:TypeId} {w:World} {R:Ending→World→Prop} {η:List SProp} (hw:Holds w g (obj bx T' [x]::obj bt Tt [.pointer (some ⟨b,0,none⟩)]::obj b 196 [v,.bool made,.bool bad]::η))
  (hR:∀ w,Holds w g (obj bx T' [.int .u8 0]::obj b 196 [v,.bool made,.bool true]::η)→R (.returned (.int .u8 0)) w) :
  CallsD prog 229 #[.pointer (some ⟨bt,0,none⟩),.pointer (some ⟨bx,0,none⟩)] (.panicking missing) w (DPost g bx R):=by
 refine (callsD_rec (R:=fun e w=>(∃ v,e=.returned v)∧Holds w g (obj bx T' [.int .u8 0]::obj b 196 [v,.bool made,.bool true]::η)) [.pointer (some ⟨bt,0,none⟩),.pointer (some ⟨bx,0,none⟩)] rfl func229 rfl rfl rfl rfl hw ?_).mono ?_
 rotate_left
 ·rintro e u' w' ⟨rfl,⟨v,rfl⟩,h⟩
  exact ⟨⟨v,rfl⟩,rfl,T',_,_,h,hR w' h⟩
 refine zz 3 ?_;refine O.op (.p rfl) (.neqIV underlying20 rfl)<|zz 6 ?_;refine O.op (.p rfl) (.assertYes underlying284 rfl)<|zz 3 ?_;refine O.opE (.p rfl) (.alloc (cs:=[]) zeroValue284 rfl) ?_;rintro _ _ ⟨b3,rfl,rfl⟩;refine zz 24 ?_;refine O.nil<|S.end0 results229 fun w hw=>?_;exact ⟨⟨_,rfl⟩,hw.picks zN⟩
theorem triedB_c {r:Fr} {b f:Nat} {v:Value} {made bad:Bool} {first cap:Array Value} {K:Value→Value→List SProp→Prop} {X:Value→Prop} (hc:callable prog f=true) (hK1:∀ u v' ζ,K u v' ζ→u.oneCell' =true)
  (con:made=true→bad=false→Con prog f (first++#[]++cap) r [obj b 196 [v,.bool true,.bool false]] (RetP (fun u η=>∃ v' ζ,K u v' ζ∧η=obj b 196 [v',.bool true,.bool false]::ζ) (fun ch η=>ch=missing∧∃ v',X v' ∧η=[obj b 196 [v',.bool true,.bool false]]))) :
  Con prog 140 #[.pointer (some ⟨b,0,none⟩),.func (.func f) first cap] r [obj b 196 [v,.bool made,.bool bad]] (Ret fun u η =>
   ((made && !bad)=false∧u=.int .u8 0∧η=[obj b 196 [v,.bool made,.bool bad]])∨(made=true∧bad=false∧∃ v' ζ,K u v' ζ∧η=obj b 196 [v',.bool true,.bool false]::ζ) ∨
   (made=true∧bad=false∧∃ v',X v' ∧u=.int .u8 0∧η=[obj b 196 [v',.bool true,.bool true]])):=by
 refine Con.of (n:=12) [.pointer (some ⟨b,0,none⟩),.func (.func f) first cap] rfl func140 rfl rfl rfl fun g hg R hR=>?_;refine S.seq<|S.region rfl<|O.opE (.p rfl) (.box (cs:=[_]) rfl rfl) ?_;rintro _ _ ⟨b2,rfl,rfl⟩;refine O.opE (.p rfl) (.alloc (cs:=[.int .u8 0]) zeroValue5 rfl) ?_;rintro _ _ ⟨b4,rfl,rfl⟩;refine zz 5 ?_;refine O.vS (.p rfl) rfl zB rfl rfl zD rGood_c ?_;refine O.op (.p rfl) ((by first|exact .notD rfl|exact .not rfl))<|zz 1 ?_;refine S.cd rfl (fun h7=>?_) fun h7=>?_
 ·refine zz 4 ?_
  refine O.nil<|S.retCell results140 flat5 rfl zD fun w hw=>Holds.end_ hR hw ?_;exact pk (.inl ⟨by revert h7;cases made<;>cases bad<;>simp,rfl,rfl⟩)
 ·obtain ⟨rfl,rfl⟩:made=true∧bad=false:=by revert h7;cases made<;>cases bad<;>simp
  refine zz 4 ?_;refine O.defer rfl rfl rfl rfl<|zz 4 ?_;refine O.callPSD (.p rfl) rfl hc rfl rfl zD ((con rfl rfl).sub hg) (fun a ch η' w hF hX hW=>by (obtain ⟨rfl,v',hX',rfl⟩:=hX;exact leavesCell results140 flat5 hF rfl zG zB (triedB_pan (hW.picks zN) fun w hw=>Holds.end_ hR hw ⟨_,.inr (.inr ⟨rfl,rfl,v',hX',rfl,rfl⟩),zN⟩))) ?_;rintro v11 _ ⟨v',ζ,hK,rfl⟩;have hone:=hK1 _ _ _ hK;refine O.perm (List.Perm.cons _ List.perm_append_comm) ?_;simp only [List.cons_append,List.nil_append];refine zz 1 ?_;refine O.nil<|S.retL fun a w hf hd hw=>?_;exact leavesCell results140 flat5 hf rfl zG zB (triedB_ret hw fun w hw=>Holds.end_ hR hw ⟨_,.inr (.inl ⟨rfl,rfl,v',ζ,hK,rfl⟩),zN⟩)
theorem triedI_ret {g:Gr} {bt bx:Nat} {x:Value} {T' :TypeId} {w:World} {R:Ending→World→Prop} {η:List SProp} (hw:Holds w g (obj bx T' [x]::η)) (hR:∀ w,Holds w g (obj bx T' [x]::η)→R (.returned x) w) :
  CallsD prog 231 #[.pointer (some ⟨bt,0,none⟩),.pointer (some ⟨bx,0,none⟩)] .returning w (DPost g bx R):=by
 refine (callsD_rec (R:=fun e w=>(∃ v,e=.returned v)∧Holds w g (obj bx T' [x]::η)) [.pointer (some ⟨bt,0,none⟩),.pointer (some ⟨bx,0,none⟩)] rfl func231 rfl rfl rfl rfl hw ?_).mono ?_
 rotate_left
 ·rintro e u' w' ⟨rfl,⟨v,rfl⟩,h⟩
  exact ⟨⟨v,rfl⟩,rfl,T',x,η,h,hR w' h⟩
 refine S.seq<|S.region rfl<|O.q 1 rfl<|O.op (.p rfl) (.neqIN underlying20 rfl)<|O.nil<|S.condF rfl<|S.skip<|S.end0 results231 fun w hw=>?_;exact ⟨⟨_,rfl⟩,hw⟩
theorem triedI_pan {g:Gr} {bt bx b:Nat} {v x:Value} {made bad:Bool} {T' Tt:TypeId} {w:World} {R:Ending→World→Prop} {η:List SProp} (hw:Holds w g (obj bx T' [x]::obj bt Tt [.pointer (some ⟨b,0,none⟩)]::obj b 196 [v,.bool made,.bool bad]::η))
  (hR:∀ w,Holds w g (obj bx T' [.int .i64 0]::obj b 196 [v,.bool made,.bool true]::η)→R (.returned (.int .i64 0)) w) :
  CallsD prog 231 #[.pointer (some ⟨bt,0,none⟩),.pointer (some ⟨bx,0,none⟩)] (.panicking missing) w (DPost g bx R):=by
 refine (callsD_rec (R:=fun e w=>(∃ v,e=.returned v)∧Holds w g (obj bx T' [.int .i64 0]::obj b 196 [v,.bool made,.bool true]::η)) [.pointer (some ⟨bt,0,none⟩),.pointer (some ⟨bx,0,none⟩)] rfl func231 rfl rfl rfl rfl hw ?_).mono ?_
 rotate_left
 ·rintro e u' w' ⟨rfl,⟨v,rfl⟩,h⟩
  exact ⟨⟨v,rfl⟩,rfl,T',_,_,h,hR w' h⟩
 refine zz 3 ?_;refine O.op (.p rfl) (.neqIV underlying20 rfl)<|zz 6 ?_;refine O.op (.p rfl) (.assertYes underlying284 rfl)<|zz 3 ?_;refine O.opE (.p rfl) (.alloc (cs:=[]) zeroValue284 rfl) ?_;rintro _ _ ⟨b3,rfl,rfl⟩;refine zz 24 ?_;refine O.nil<|S.end0 results231 fun w hw=>?_;exact ⟨⟨_,rfl⟩,hw.picks zN⟩
theorem triedI_c {r:Fr} {b f:Nat} {v:Value} {made bad:Bool} {first cap:Array Value} {K:Value→Value→List SProp→Prop} {X:Value→Prop} (hc:callable prog f=true) (hK1:∀ u v' ζ,K u v' ζ→u.oneCell' =true)
  (con:made=true→bad=false→Con prog f (first++#[]++cap) r [obj b 196 [v,.bool true,.bool false]] (RetP (fun u η=>∃ v' ζ,K u v' ζ∧η=obj b 196 [v',.bool true,.bool false]::ζ) (fun ch η=>ch=missing∧∃ v',X v' ∧η=[obj b 196 [v',.bool true,.bool false]]))) :
  Con prog 142 #[.pointer (some ⟨b,0,none⟩),.func (.func f) first cap] r [obj b 196 [v,.bool made,.bool bad]] (Ret fun u η =>
   ((made && !bad)=false∧u=.int .i64 0∧η=[obj b 196 [v,.bool made,.bool bad]])∨(made=true∧bad=false∧∃ v' ζ,K u v' ζ∧η=obj b 196 [v',.bool true,.bool false]::ζ) ∨
   (made=true∧bad=false∧∃ v',X v' ∧u=.int .i64 0∧η=[obj b 196 [v',.bool true,.bool true]])):=by
 refine Con.of (n:=12) [.pointer (some ⟨b,0,none⟩),.func (.func f) first cap] rfl func142 rfl rfl rfl fun g hg R hR=>?_;refine S.seq<|S.region rfl<|O.opE (.p rfl) (.box (cs:=[_]) rfl rfl) ?_;rintro _ _ ⟨b2,rfl,rfl⟩;refine O.opE (.p rfl) (.alloc (cs:=[.int .i64 0]) zeroValue3 rfl) ?_;rintro _ _ ⟨b4,rfl,rfl⟩;refine zz 5 ?_;refine O.vS (.p rfl) rfl zB rfl rfl zD rGood_c ?_;refine O.op (.p rfl) ((by first|exact .notD rfl|exact .not rfl))<|zz 1 ?_;refine S.cd rfl (fun h7=>?_) fun h7=>?_
 ·refine zz 4 ?_
  refine O.nil<|S.retCell results142 flat3 rfl zD fun w hw=>Holds.end_ hR hw ?_;exact pk (.inl ⟨by revert h7;cases made<;>cases bad<;>simp,rfl,rfl⟩)
 ·obtain ⟨rfl,rfl⟩:made=true∧bad=false:=by revert h7;cases made<;>cases bad<;>simp
  refine zz 4 ?_;refine O.defer rfl rfl rfl rfl<|zz 4 ?_;refine O.callPSD (.p rfl) rfl hc rfl rfl zD ((con rfl rfl).sub hg) (fun a ch η' w hF hX hW=>by (obtain ⟨rfl,v',hX',rfl⟩:=hX;exact leavesCell results142 flat3 hF rfl zG zB (triedI_pan (hW.picks zN) fun w hw=>Holds.end_ hR hw ⟨_,.inr (.inr ⟨rfl,rfl,v',hX',rfl,rfl⟩),zN⟩))) ?_;rintro v11 _ ⟨v',ζ,hK,rfl⟩;have hone:=hK1 _ _ _ hK;refine O.perm (List.Perm.cons _ List.perm_append_comm) ?_;simp only [List.cons_append,List.nil_append];refine zz 1 ?_;refine O.nil<|S.retL fun a w hf hd hw=>?_;exact leavesCell results142 flat3 hf rfl zG zB (triedI_ret hw fun w hw=>Holds.end_ hR hw ⟨_,.inr (.inl ⟨rfl,rfl,v',ζ,hK,rfl⟩),zN⟩)
def KNum (r:Fr) (rest:List UInt8) (u v' :Value) (ζ:List SProp):Prop:=8≤rest.length∧u=.int .i64 (ofBe rest)∧Arr Rp.u8 r v' (rest.drop 8)∧ζ=[]
theorem numberR {r:Fr} {b:Nat} {v:Value} {rest:List UInt8} (ha:Arr Rp.u8 r v rest) :
  Con prog 143 (#[.pointer (some ⟨b,0,none⟩)]++#[]++#[]) r [obj b 196 [v,.bool true,.bool false]]
   (RetP (fun u η=>∃ v' ζ,KNum r rest u v' ζ∧η=obj b 196 [v',.bool true,.bool false]::ζ) (fun ch η=>ch=missing∧∃ v',(rest.length<8∧v' =v)∧η=[obj b 196 [v',.bool true,.bool false]])) :=
 (number_c (T:=196) (cs:=[.bool true,.bool false]) ha).mono fun e η h=>by
  cases e with
  |returned u=>obtain ⟨h1,v',h2,h3,h4⟩:=h;exact ⟨v',[],⟨h1,h2,h3,rfl⟩,h4⟩
  |panicked ch=>obtain ⟨h1,h2,h3⟩:=h;exact ⟨h2,v,⟨h1,rfl⟩,h3⟩
  |outgrown=>exact h.elim
theorem rNumber_c {r:Fr} {b:Nat} {v:Value} {rest:List UInt8} {made bad:Bool} (ha:Arr Rp.u8 r v rest) :
  Con prog 70 #[.pointer (some ⟨b,0,none⟩)] r [obj b 196 [v,.bool made,.bool bad]]
   (Ret fun u η=>∃ v',u=.int .i64 (rNum (made && !bad) rest).1∧Arr Rp.u8 r v' (rNum (made && !bad) rest).2.1∧η=[obj b 196 [v',.bool made,.bool (bad ||(rNum (made && !bad) rest).2.2)]]):=by
 refine Con.o func70 fun g hg R hR=>?_;refine zz 8 ?_;refine O.op (.p rfl) (.eqlP underlying126 rfl rfl)<|zz 8 ?_;refine O.op (.p rfl) (.fieldAddr fld196x0 rfl)<|zz 1 ?_;refine O.callS (.p rfl) rfl zB rfl rfl zD ((triedI_c zB (K:=KNum r rest) (fun _ _ _ h=>by obtain ⟨_,rfl,_⟩:=h;rfl) fun _ _=>numberR ha).sub hg) ?_;rintro v10 _ h10;refine O.q 1 rfl<|O.nil<|S.ret results70 rfl fun w hw=>hR _ _ w ?_ hw
 rcases h10 with ⟨h1,rfl,rfl⟩|⟨rfl,rfl,v',ζ,⟨h1,rfl,h2,rfl⟩,rfl⟩|⟨rfl,rfl,v',⟨h1,rfl⟩,rfl,rfl⟩
 ·exact ⟨v,by simp [rNum,h1],by simpa [rNum,h1] using ha,by simp [rNum,h1]⟩
 ·exact ⟨v',by simp [rNum,h1],by simpa [rNum,h1] using h2,by simp [rNum,h1]⟩
 ·have h1:¬ 8≤rest.length:=by omega
  exact ⟨_,by simp [rNum,h1],by simpa [rNum,h1] using ha,by simp [rNum,h1]⟩
def KByte (r:Fr) (rest:List UInt8) (u v' :Value) (ζ:List SProp):Prop:=∃ x xs,rest=x::xs∧u=byteV x∧Arr Rp.u8 r v' xs∧ζ=[]
theorem oneR {r:Fr} {b:Nat} {v:Value} {rest:List UInt8} (ha:Arr Rp.u8 r v rest) :
  Con prog 141 (#[.pointer (some ⟨b,0,none⟩)]++#[]++#[]) r [obj b 196 [v,.bool true,.bool false]]
   (RetP (fun u η=>∃ v' ζ,KByte r rest u v' ζ∧η=obj b 196 [v',.bool true,.bool false]::ζ) (fun ch η=>ch=missing∧∃ v',(rest=[]∧v' =v)∧η=[obj b 196 [v',.bool true,.bool false]])) :=
 (one_c (T:=196) (cs:=[.bool true,.bool false]) ha).mono fun e η h=>by
  cases e with
  |returned u=>obtain ⟨x,xs,v',h1,h2,h3,h4⟩:=h;exact ⟨v',[],⟨x,xs,h1,h2,h3,rfl⟩,h4⟩
  |panicked ch=>obtain ⟨h1,h2,h3⟩:=h;exact ⟨h2,v,⟨h1,rfl⟩,h3⟩
  |outgrown=>exact h.elim
theorem rByte_c {r:Fr} {b:Nat} {v:Value} {rest:List UInt8} {made bad:Bool} (ha:Arr Rp.u8 r v rest) :
  Con prog 69 #[.pointer (some ⟨b,0,none⟩)] r [obj b 196 [v,.bool made,.bool bad]]
   (Ret fun u η=>∃ v',u=byteV (rByte (made && !bad) rest).1∧Arr Rp.u8 r v' (rByte (made && !bad) rest).2.1∧η=[obj b 196 [v',.bool made,.bool (bad ||(rByte (made && !bad) rest).2.2)]]):=by
 refine Con.o func69 fun g hg R hR=>?_;refine zz 8 ?_;refine O.op (.p rfl) (.eqlP underlying126 rfl rfl)<|zz 8 ?_;refine O.op (.p rfl) (.fieldAddr fld196x0 rfl)<|zz 1 ?_;refine O.callS (.p rfl) rfl zB rfl rfl zD ((triedB_c zB (K:=KByte r rest) (fun _ _ _ h=>by obtain ⟨_,_,_,rfl,_⟩:=h;rfl) fun _ _=>oneR ha).sub hg) ?_;rintro v10 _ h10;refine O.q 1 rfl<|O.nil<|S.ret results69 rfl fun w hw=>hR _ _ w ?_ hw
 rcases h10 with ⟨h1,rfl,rfl⟩|⟨rfl,rfl,v',ζ,⟨x,xs,rfl,rfl,h2,rfl⟩,rfl⟩|⟨rfl,rfl,v',⟨rfl,rfl⟩,rfl,rfl⟩
 ·exact ⟨v,by simp [rByte,h1,byteV],by simpa [rByte,h1] using ha,by simp [rByte,h1]⟩
 ·exact ⟨v',by simp [rByte],by simpa [rByte] using h2,by simp [rByte]⟩
 ·exact ⟨_,by simp [rByte,byteV],by simpa [rByte] using ha,by simp [rByte]⟩
theorem rdNew_c {r:Fr} {va:Value} {xs:List UInt8} (ha:Arr Rp.u8 r va xs) (hl:xs.length≤140737488355328):Con prog 68 #[va] r [] (Ret fun v η=>∃ b,v=.pointer (some ⟨b,0,none⟩)∧η=[RdP 196 b ⟨true,xs⟩]) :=
 (wNewReader_c ha hl).post fun e η' h w g hw=>by
  cases e with
  |returned u =>
   obtain ⟨b,a,c,rfl,rfl⟩:=h;exact ⟨_,⟨b,rfl,rfl⟩,hw.imp fun _ x=>rd_sat x⟩
  |panicked _=>exact h.elim
  |outgrown=>exact h.elim
theorem rdNumber_c {r:Fr} {b:Nat} {s:RS}:Con prog 70 #[.pointer (some ⟨b,0,none⟩)] r [RdP 196 b s] (Ret fun u η=>u=.int .i64 s.num.1∧η=[RdP 196 b s.num.2]) :=
 (Con.rd (Q:=fun u s' ζ=>u=.int .i64 s.num.1∧s' =s.num.2∧ζ=[]) fun m v made bad h1 h2=>(rNumber_c h2).mono (Ret.imp fun u η h=>by
  obtain ⟨v',rfl,h3,rfl⟩:=h;simp only [h1] at h3 ⊢;exact ⟨v',_,s.num.2,_,⟨rfl,rfl,rfl⟩,good_or h1,h3,rfl⟩)).mono (Ret.imp fun u η h=>by obtain ⟨s',ζ,⟨rfl,rfl,rfl⟩,rfl⟩:=h;exact ⟨rfl,rfl⟩)
theorem rdByte_c {r:Fr} {b:Nat} {s:RS}:Con prog 69 #[.pointer (some ⟨b,0,none⟩)] r [RdP 196 b s] (Ret fun u η=>u=byteV s.byte.1∧η=[RdP 196 b s.byte.2]) :=
 (Con.rd (Q:=fun u s' ζ=>u=byteV s.byte.1∧s' =s.byte.2∧ζ=[]) fun m v made bad h1 h2=>(rByte_c h2).mono (Ret.imp fun u η h=>by
  obtain ⟨v',rfl,h3,rfl⟩:=h;simp only [h1] at h3 ⊢;exact ⟨v',_,s.byte.2,_,⟨rfl,rfl,rfl⟩,good_or h1,h3,rfl⟩)).mono (Ret.imp fun u η h=>by obtain ⟨s',ζ,⟨rfl,rfl,rfl⟩,rfl⟩:=h;exact ⟨rfl,rfl⟩)
theorem rdDone_c {r:Fr} {b:Nat} {s:RS}:Con prog 72 #[.pointer (some ⟨b,0,none⟩)] r [RdP 196 b s] (Ret fun u η=>u=.bool s.done∧η=[RdP 196 b s]) :=
 (Con.rd (Q:=fun u s' ζ=>u=.bool s.done∧s' =s∧ζ=[]) fun m v made bad h1 h2=>(rDone_c h2).mono (Ret.imp fun u η h=>by
  obtain ⟨rfl,rfl⟩:=h;rw [h1];exact ⟨v,bad,s,[],⟨congrArg _ (by rw [Bool.eq_iff_iff,decide_eq_true_iff,RS.done_iff]),rfl,rfl⟩,h1,h2,rfl⟩)).mono (Ret.imp fun u η h=>by obtain ⟨s',ζ,⟨rfl,rfl,rfl⟩,rfl⟩:=h;exact ⟨rfl,rfl⟩)
theorem bequal_c {r:Fr} {va vb:Value} {xs ys:List UInt8} (ha:Arr Rp.u8 r va xs) (hb:Arr Rp.u8 r vb ys) :
  Con prog 34 #[va,vb] r [] (Ret fun v η=>v=.bool (decide (xs=ys))∧η=[]):=by
 refine Con.o func34 fun g hg R hR=>?_;have ha:=ha.mono hg;have hb:=hb.mono hg;refine zz 7 ?_;refine O.op (.p rfl) (.toStr underlying22 underlying5 underlying9 rfl zA) ?_;refine O.q 1 rfl<|O.op (.p rfl) (.toStr underlying22 underlying5 underlying9 rfl zA) ?_;refine O.op (.p rfl) (.eqlS rfl rfl)<|O.q 1 rfl<|O.nil<|S.ret results34 rfl fun w hw=>hR _ _ w ?_ hw;exact ⟨by simp,rfl⟩
theorem dot_eq {x y:DotT} (h:(x.1,x.2.1)=(y.1,y.2.1)):x=y:=by
 obtain ⟨a,b,⟨⟩⟩:=x;obtain ⟨c,d,⟨⟩⟩:=y
 simp_all
theorem sameDots_c {r:Fr} {va vb:Value} {xs ys:List DotT} (ha:Arr DotRp r va xs) (hb:Arr DotRp r vb ys) :
  Con prog 212 #[va,vb] r [] (Ret fun v η=>v=.bool (decide (xs=ys))∧η=[]):=by
 have har:=ha;have hbr:=hb;refine Con.o func212 fun g hg R hR=>?_;have ha:=ha.mono hg;have hb:=hb.mono hg;have hbd:=ha.bound;obtain ⟨a1,c1,rfl⟩:=ha.shape;obtain ⟨a2,c2,rfl⟩:=hb.shape
 by_cases e0:xs.length=ys.length
 ·
  refine zz 12 ?_;refine O.sF 10 rfl (by exact zdf zC)<|zz 9 ?_;refine S.loopK (ι:=Nat) (fun i=>i≤xs.length∧xs.take i=ys.take i) (fun i=>[(5,.int .i64 (i:Int))]) [(0,_),(1,_)] (fun i=>[]) (fun i=>xs.length - i) (0) zG zq zq rfl fun i hx ih=>?_;have hm1:=meltRefl (g:=g);obtain ⟨hx1,hx2⟩:=hx;refine zz 8 ?_;refine S.cd rfl (fun h14=>?_) fun h14=>?_
  ·have hi:i<xs.length:=by omega
   have hi2:i<ys.length:=by omega
   by_cases e:xs[i]=ys[i]
   ·
    refine S.skip<|S.seq<|S.block<|S.seq<|S.regionD (L:=.range 9) F.mixed zB<|OD.q 2 rfl<|OD.iy har hg (h:=fun p19 cs19 hp19 hrr19=>?_);have hr19:=Rp.rel.mono hrr19 hg;obtain ⟨rfl,hi19,hj19⟩:=DotRp.open hr19;refine .quiet (.p rfl) rfl (fun _=>.loadAgg isAgg115 zB rfl hp19) ?_;refine OD.q 2 rfl<|OD.iy hbr hg (h:=fun p23 cs23 hp23 hrr23=>?_);have hr23:=Rp.rel.mono hrr23 hg;obtain ⟨rfl,hi23,hj23⟩:=DotRp.open hr23;refine .quiet (.p rfl) rfl (fun _=>.loadAgg isAgg115 zB rfl hp23) ?_;refine .quiet (.p rfl) rfl (fun _=>.neqDot underlying115 underlying3 rfl rfl rfl rfl zE zE zB zB rfl rfl)<|OD.sF 25 rfl (by exact zdf (not_not_intro (by rw [e]))) ?_;refine zz 9 ?_;exact S.wk (ih (i+1) (by exact ⟨by omega,take_same hi hi2 hx2 e⟩) zC)
   ·
    refine S.skip<|S.seq<|S.block<|S.seq<|S.regionD (L:=.range 9) F.mixed zB<|OD.q 2 rfl<|OD.iy har hg (h:=fun p19 cs19 hp19 hrr19=>?_);have hr19:=Rp.rel.mono hrr19 hg;obtain ⟨rfl,hi19,hj19⟩:=DotRp.open hr19;refine .quiet (.p rfl) rfl (fun _=>.loadAgg isAgg115 zB rfl hp19) ?_;refine OD.q 2 rfl<|OD.iy hbr hg (h:=fun p23 cs23 hp23 hrr23=>?_);have hr23:=Rp.rel.mono hrr23 hg;obtain ⟨rfl,hi23,hj23⟩:=DotRp.open hr23;refine .quiet (.p rfl) rfl (fun _=>.loadAgg isAgg115 zB rfl hp23) ?_;refine .quiet (.p rfl) rfl (fun _=>.neqDot underlying115 underlying3 rfl rfl rfl rfl zE zE zB zB rfl rfl)<|OD.sT 25 rfl (by exact zdt (fun q=>e (dot_eq q))) ?_;refine zz 6 ?_;exact S.rt results212 rfl hR ⟨congrArg _ (zdf (not_same hi hi2 e)).symm,rfl⟩
  ·have hi:i=xs.length:=by omega
   clear ih;subst hi;rw [List.take_length,e0,List.take_length] at hx2;refine zz 5 ?_;exact S.rt results212 rfl hR ⟨by simp [hx2],rfl⟩
 ·
  refine zz 12 ?_;refine O.sT 10 rfl (by exact zdt zC)<|zz 6 ?_;exact S.rt results212 rfl hR ⟨congrArg _ (zdf (fun h=>e0 (by rw [h]))).symm,rfl⟩
theorem sameRecord_eq {x y:RecT} (h0:x.1=y.1) (h1:x.2.1=y.2.1) (h2:x.2.2.1=y.2.2.1) (h3:x.2.2.2.1=y.2.2.2.1) (h4:x.2.2.2.2.1=y.2.2.2.2.1) (h5:x.2.2.2.2.2.1=y.2.2.2.2.2.1) (h6:x.2.2.2.2.2.2.1=y.2.2.2.2.2.2.1):x=y:=by
 obtain ⟨a0,a1,a2,a3,a4,a5,a6,⟨⟩⟩:=x;obtain ⟨b0,b1,b2,b3,b4,b5,b6,⟨⟩⟩:=y
 simp_all
theorem sameRecord_c {r:Fr} {cs ds:List Value} {x y:RecT} (hx:RecRp.rel r cs x) (hy:RecRp.rel r ds y) :
  Con prog 113 #[.agg cs.toArray,.agg ds.toArray] r [] (Ret fun v η=>v=.bool (decide (x=y))∧η=[]):=by
 obtain ⟨xa3,xa5,xa6,xc3,xc5,xc6,rfl,xk0,xk1,xk2,xk3,xk5,xk6⟩:=RecRp.sh hx;obtain ⟨ya3,ya5,ya6,yc3,yc5,yc6,rfl,yk0,yk1,yk2,yk3,yk5,yk6⟩:=RecRp.sh hy;refine Con.o func113 fun g hg R hR=>?_;have xk3:=xk3.mono hg;have xk5:=xk5.mono hg;have xk6:=xk6.mono hg;have yk3:=yk3.mono hg;have yk5:=yk5.mono hg;have yk6:=yk6.mono hg;refine S.seq<|S.region rfl<|O.opE (.p rfl) (.box (cs:=[_,_,_,_,_,_,_]) rfl rfl) ?_;rintro _ _ ⟨b2,rfl,rfl⟩;refine O.opE (.p rfl) (.box (cs:=[_,_,_,_,_,_,_]) rfl rfl) ?_;rintro _ _ ⟨b3,rfl,rfl⟩;refine zz 8 ?_;refine O.op (.p rfl) (.eqlS rfl rfl)<|O.q 1 rfl ?_
 refine O.cs 10 rfl (fun h10=>?_) fun h10=>?_
 ·refine zz 7 ?_
  refine O.cs 17 rfl (fun h17=>?_) fun h17=>?_
  ·refine zz 7 ?_
   refine O.cs 24 rfl (fun h24=>?_) fun h24=>?_
   ·refine zz 4 ?_
    refine O.v0 (.g rfl rfl) rfl zB rfl rfl (sameDots_c zA zA)<|zz 2 ?_
    refine O.cs 31 rfl (fun h31=>?_) fun h31=>?_
    ·refine zz 4 ?_
     refine O.op (.g rfl rfl) (.eqlB underlying4 rfl rfl)<|O.q 2 rfl ?_
     refine O.cs 38 rfl (fun h38=>?_) fun h38=>?_
     ·refine zz 4 ?_
      refine O.v0 (.g rfl rfl) rfl zB rfl rfl (SameBytes_c zA zA)<|zz 2 ?_
      refine O.cs 45 rfl (fun h45=>?_) fun h45=>?_
      ·refine zz 4 ?_
       refine O.v0 (.g rfl rfl) rfl zB rfl rfl (SameBytes_c zA zA) ?_;refine O.q 2 rfl<|O.nil<|S.ret results113 rfl fun w hw=>Holds.end_ hR hw ?_
       first|exact ⟨_,⟨congrArg _ (zdf (fun e=>by subst e;exact absurd rfl zF)).symm,rfl⟩,zN⟩|exact ⟨_,⟨congrArg _ (decide_eq_decide.2 ⟨fun e=>sameRecord_eq (str_eqL zF) zF zF zF zF zF e,fun e=>by rw [e]⟩),rfl⟩,zN⟩
      ·refine O.q 7 rfl<|O.nil<|S.ret results113 rfl fun w hw=>Holds.end_ hR hw ?_
       first|exact ⟨_,⟨congrArg _ (zdf (fun e=>by subst e;exact absurd rfl zF)).symm,rfl⟩,zN⟩|exact ⟨_,⟨congrArg _ (decide_eq_decide.2 ⟨fun e=>sameRecord_eq (str_eqL zF) zF zF zF zF zF e,fun e=>by rw [e]⟩),rfl⟩,zN⟩
     ·refine O.q 14 rfl<|O.nil<|S.ret results113 rfl fun w hw=>Holds.end_ hR hw ?_
      first|exact ⟨_,⟨congrArg _ (zdf (fun e=>by subst e;exact absurd rfl zF)).symm,rfl⟩,zN⟩|exact ⟨_,⟨congrArg _ (decide_eq_decide.2 ⟨fun e=>sameRecord_eq (str_eqL zF) zF zF zF zF zF e,fun e=>by rw [e]⟩),rfl⟩,zN⟩
    ·refine O.q 21 rfl<|O.nil<|S.ret results113 rfl fun w hw=>Holds.end_ hR hw ?_
     first|exact ⟨_,⟨congrArg _ (zdf (fun e=>by subst e;exact absurd rfl zF)).symm,rfl⟩,zN⟩|exact ⟨_,⟨congrArg _ (decide_eq_decide.2 ⟨fun e=>sameRecord_eq (str_eqL zF) zF zF zF zF zF e,fun e=>by rw [e]⟩),rfl⟩,zN⟩
   ·refine O.q 28 rfl<|O.nil<|S.ret results113 rfl fun w hw=>Holds.end_ hR hw ?_
    first|exact ⟨_,⟨congrArg _ (zdf (fun e=>by subst e;exact absurd rfl zF)).symm,rfl⟩,zN⟩|exact ⟨_,⟨congrArg _ (decide_eq_decide.2 ⟨fun e=>sameRecord_eq (str_eqL zF) zF zF zF zF zF e,fun e=>by rw [e]⟩),rfl⟩,zN⟩
  ·refine O.q 35 rfl<|O.nil<|S.ret results113 rfl fun w hw=>Holds.end_ hR hw ?_
   first|exact ⟨_,⟨congrArg _ (zdf (fun e=>by subst e;exact absurd rfl zF)).symm,rfl⟩,zN⟩|exact ⟨_,⟨congrArg _ (decide_eq_decide.2 ⟨fun e=>sameRecord_eq (str_eqL zF) zF zF zF zF zF e,fun e=>by rw [e]⟩),rfl⟩,zN⟩
 ·refine O.q 42 rfl<|O.nil<|S.ret results113 rfl fun w hw=>Holds.end_ hR hw ?_
  first|exact ⟨_,⟨congrArg _ (zdf (fun e=>by subst e;exact absurd rfl zF)).symm,rfl⟩,zN⟩|exact ⟨_,⟨congrArg _ (decide_eq_decide.2 ⟨fun e=>sameRecord_eq (str_eqL zF) zF zF zF zF zF e,fun e=>by rw [e]⟩),rfl⟩,zN⟩
theorem sameRecords_c {r:Fr} {va vb:Value} {xs ys:List RecT} (ha:Arr RecRp r va xs) (hb:Arr RecRp r vb ys) :
  Con prog 49 #[va,vb] r [] (Ret fun v η=>v=.bool (decide (xs=ys))∧η=[]):=by
 have har:=ha;have hbr:=hb;refine Con.o func49 fun g hg R hR=>?_;have ha:=ha.mono hg;have hb:=hb.mono hg;have hbd:=ha.bound;obtain ⟨a1,c1,rfl⟩:=ha.shape;obtain ⟨a2,c2,rfl⟩:=hb.shape
 by_cases e0:xs.length=ys.length
 ·
  refine zz 12 ?_;refine O.sF 10 rfl (by exact zdf zC)<|zz 9 ?_;refine S.loopK (ι:=Nat) (fun i=>i≤xs.length∧xs.take i=ys.take i) (fun i=>[(5,.int .i64 (i:Int))]) [(0,_),(1,_)] (fun i=>[]) (fun i=>xs.length - i) (0) zG zq zq rfl fun i hx ih=>?_;have hm1:=meltRefl (g:=g);obtain ⟨hx1,hx2⟩:=hx;refine zz 8 ?_;refine S.cd rfl (fun h14=>?_) fun h14=>?_
  ·have hi:i<xs.length:=by omega
   have hi2:i<ys.length:=by omega
   by_cases e:xs[i]=ys[i]
   ·
    refine S.skip<|S.seq<|S.block<|S.seq<|S.regionD (L:=.range 10) F.mixed zB<|OD.q 2 rfl<|OD.iy har hg (h:=fun p19 cs19 hp19 hrr19=>?_);have hr19:=Rp.rel.mono hrr19 hg;obtain ⟨ra3_19,ra5_19,ra6_19,rc3_19,rc5_19,rc6_19,rfl,ho0_19,ho1_19,ho2_19,ha3_19,ha5_19,ha6_19⟩:=RecRp.sh hr19;refine .quiet (.p rfl) rfl (fun _=>.loadAgg isAgg118 zB rfl hp19) ?_;refine OD.q 2 rfl<|OD.iy hbr hg (h:=fun p23 cs23 hp23 hrr23=>?_);have hr23:=Rp.rel.mono hrr23 hg;obtain ⟨ra3_23,ra5_23,ra6_23,rc3_23,rc5_23,rc6_23,rfl,ho0_23,ho1_23,ho2_23,ha3_23,ha5_23,ha6_23⟩:=RecRp.sh hr23;refine .quiet (.p rfl) rfl (fun _=>.loadAgg isAgg118 zB rfl hp23) ?_;refine OD.v0 (.p rfl) zB rfl zB rfl rfl ((sameRecord_c hr19 hr23)) ?_;refine OD.sT 25 rfl (by exact zdt e)<|zz 10 ?_;exact S.wk (ih (i+1) (by exact ⟨by omega,take_same hi hi2 hx2 e⟩) zC)
   ·
    refine S.skip<|S.seq<|S.block<|S.seq<|S.regionD (L:=.range 10) F.mixed zB<|OD.q 2 rfl<|OD.iy har hg (h:=fun p19 cs19 hp19 hrr19=>?_);have hr19:=Rp.rel.mono hrr19 hg;obtain ⟨ra3_19,ra5_19,ra6_19,rc3_19,rc5_19,rc6_19,rfl,ho0_19,ho1_19,ho2_19,ha3_19,ha5_19,ha6_19⟩:=RecRp.sh hr19;refine .quiet (.p rfl) rfl (fun _=>.loadAgg isAgg118 zB rfl hp19) ?_;refine OD.q 2 rfl<|OD.iy hbr hg (h:=fun p23 cs23 hp23 hrr23=>?_);have hr23:=Rp.rel.mono hrr23 hg;obtain ⟨ra3_23,ra5_23,ra6_23,rc3_23,rc5_23,rc6_23,rfl,ho0_23,ho1_23,ho2_23,ha3_23,ha5_23,ha6_23⟩:=RecRp.sh hr23;refine .quiet (.p rfl) rfl (fun _=>.loadAgg isAgg118 zB rfl hp23) ?_;refine OD.v0 (.p rfl) zB rfl zB rfl rfl ((sameRecord_c hr19 hr23)) ?_;refine OD.sF 25 rfl (by exact zdf e)<|zz 7 ?_;exact S.rt results49 rfl hR ⟨congrArg _ (zdf (not_same hi hi2 e)).symm,rfl⟩
  ·have hi:i=xs.length:=by omega
   clear ih;subst hi;rw [List.take_length,e0,List.take_length] at hx2;refine zz 5 ?_;exact S.rt results49 rfl hR ⟨by simp [hx2],rfl⟩
 ·
  refine zz 12 ?_;refine O.sT 10 rfl (by exact zdt zC)<|zz 6 ?_;exact S.rt results49 rfl hR ⟨congrArg _ (zdf (fun h=>e0 (by rw [h]))).symm,rfl⟩
theorem sameLeaf_eq {x y:LeafT} (h0:x.1=y.1) (h1:x.2.1=y.2.1):x=y:=by
 obtain ⟨a0,a1,⟨⟩⟩:=x;obtain ⟨b0,b1,⟨⟩⟩:=y
 simp_all
theorem sameLeaf_c {r:Fr} {cs ds:List Value} {x y:LeafT} (hx:LeafRp.rel r cs x) (hy:LeafRp.rel r ds y) :
  Con prog 190 #[.agg cs.toArray,.agg ds.toArray] r [] (Ret fun v η=>v=.bool (decide (x=y))∧η=[]):=by
 obtain ⟨xa1,xc1,rfl,xk0,xk1⟩:=LeafRp.sh hx;obtain ⟨ya1,yc1,rfl,yk0,yk1⟩:=LeafRp.sh hy;refine Con.o func190 fun g hg R hR=>?_;have xk1:=xk1.mono hg;have yk1:=yk1.mono hg;refine S.seq<|S.region rfl<|O.opE (.p rfl) (.box (cs:=[_,_]) rfl rfl) ?_;rintro _ _ ⟨b2,rfl,rfl⟩;refine O.opE (.p rfl) (.box (cs:=[_,_]) rfl rfl) ?_;rintro _ _ ⟨b3,rfl,rfl⟩;refine zz 8 ?_;refine O.op (.p rfl) (.eqlS rfl rfl)<|O.q 1 rfl ?_
 refine O.cs 10 rfl (fun h10=>?_) fun h10=>?_
 ·refine zz 4 ?_
  refine O.v0 (.g rfl rfl) rfl zB rfl rfl (sameRecords_c zA zA) ?_;refine O.q 2 rfl<|O.nil<|S.ret results190 rfl fun w hw=>Holds.end_ hR hw ?_
  first|exact ⟨_,⟨congrArg _ (zdf (fun e=>by subst e;exact absurd rfl zF)).symm,rfl⟩,zN⟩|exact ⟨_,⟨congrArg _ (decide_eq_decide.2 ⟨fun e=>sameLeaf_eq (str_eqL zF) e,fun e=>by rw [e]⟩),rfl⟩,zN⟩
 ·refine O.q 7 rfl<|O.nil<|S.ret results190 rfl fun w hw=>Holds.end_ hR hw ?_
  first|exact ⟨_,⟨congrArg _ (zdf (fun e=>by subst e;exact absurd rfl zF)).symm,rfl⟩,zN⟩|exact ⟨_,⟨congrArg _ (decide_eq_decide.2 ⟨fun e=>sameLeaf_eq (str_eqL zF) e,fun e=>by rw [e]⟩),rfl⟩,zN⟩
theorem sameLeaves_c {r:Fr} {va vb:Value} {xs ys:List LeafT} (ha:Arr LeafRp r va xs) (hb:Arr LeafRp r vb ys) :
  Con prog 112 #[va,vb] r [] (Ret fun v η=>v=.bool (decide (xs=ys))∧η=[]):=by
 have har:=ha;have hbr:=hb;refine Con.o func112 fun g hg R hR=>?_;have ha:=ha.mono hg;have hb:=hb.mono hg;have hbd:=ha.bound;obtain ⟨a1,c1,rfl⟩:=ha.shape;obtain ⟨a2,c2,rfl⟩:=hb.shape
 by_cases e0:xs.length=ys.length
 ·
  refine zz 12 ?_;refine O.sF 10 rfl (by exact zdf zC)<|zz 9 ?_;refine S.loopK (ι:=Nat) (fun i=>i≤xs.length∧xs.take i=ys.take i) (fun i=>[(5,.int .i64 (i:Int))]) [(0,_),(1,_)] (fun i=>[]) (fun i=>xs.length - i) (0) zG zq zq rfl fun i hx ih=>?_;have hm1:=meltRefl (g:=g);obtain ⟨hx1,hx2⟩:=hx;refine zz 8 ?_;refine S.cd rfl (fun h14=>?_) fun h14=>?_
  ·have hi:i<xs.length:=by omega
   have hi2:i<ys.length:=by omega
   by_cases e:xs[i]=ys[i]
   ·
    refine S.skip<|S.seq<|S.block<|S.seq<|S.regionD (L:=.range 10) F.mixed zB<|OD.q 2 rfl<|OD.iy har hg (h:=fun p19 cs19 hp19 hrr19=>?_);have hr19:=Rp.rel.mono hrr19 hg;obtain ⟨la1_19,lc1_19,rfl,ho0_19,ha1_19⟩:=LeafRp.sh hr19;refine .quiet (.p rfl) rfl (fun _=>.loadAgg isAgg120 zB rfl hp19) ?_;refine OD.q 2 rfl<|OD.iy hbr hg (h:=fun p23 cs23 hp23 hrr23=>?_);have hr23:=Rp.rel.mono hrr23 hg;obtain ⟨la1_23,lc1_23,rfl,ho0_23,ha1_23⟩:=LeafRp.sh hr23;refine .quiet (.p rfl) rfl (fun _=>.loadAgg isAgg120 zB rfl hp23) ?_;refine OD.v0 (.p rfl) zB rfl zB rfl rfl ((sameLeaf_c hr19 hr23)) ?_;refine OD.sT 25 rfl (by exact zdt e)<|zz 10 ?_;exact S.wk (ih (i+1) (by exact ⟨by omega,take_same hi hi2 hx2 e⟩) zC)
   ·
    refine S.skip<|S.seq<|S.block<|S.seq<|S.regionD (L:=.range 10) F.mixed zB<|OD.q 2 rfl<|OD.iy har hg (h:=fun p19 cs19 hp19 hrr19=>?_);have hr19:=Rp.rel.mono hrr19 hg;obtain ⟨la1_19,lc1_19,rfl,ho0_19,ha1_19⟩:=LeafRp.sh hr19;refine .quiet (.p rfl) rfl (fun _=>.loadAgg isAgg120 zB rfl hp19) ?_;refine OD.q 2 rfl<|OD.iy hbr hg (h:=fun p23 cs23 hp23 hrr23=>?_);have hr23:=Rp.rel.mono hrr23 hg;obtain ⟨la1_23,lc1_23,rfl,ho0_23,ha1_23⟩:=LeafRp.sh hr23;refine .quiet (.p rfl) rfl (fun _=>.loadAgg isAgg120 zB rfl hp23) ?_;refine OD.v0 (.p rfl) zB rfl zB rfl rfl ((sameLeaf_c hr19 hr23)) ?_;refine OD.sF 25 rfl (by exact zdf e)<|zz 7 ?_;exact S.rt results112 rfl hR ⟨congrArg _ (zdf (not_same hi hi2 e)).symm,rfl⟩
  ·have hi:i=xs.length:=by omega
   clear ih;subst hi;rw [List.take_length,e0,List.take_length] at hx2;refine zz 5 ?_;exact S.rt results112 rfl hR ⟨by simp [hx2],rfl⟩
 ·
  refine zz 12 ?_;refine O.sT 10 rfl (by exact zdt zC)<|zz 6 ?_;exact S.rt results112 rfl hR ⟨congrArg _ (zdf (fun h=>e0 (by rw [h]))).symm,rfl⟩
theorem sameRoot_eq {x y:RootT} (h0:x.1=y.1) (h1:x.2.1=y.2.1) (h2:x.2.2.1=y.2.2.1) (h3:x.2.2.2.1=y.2.2.2.1) (h4:x.2.2.2.2.1=y.2.2.2.2.1):x=y:=by
 obtain ⟨a0,a1,a2,a3,a4,⟨⟩⟩:=x;obtain ⟨b0,b1,b2,b3,b4,⟨⟩⟩:=y
 simp_all
theorem sameRoot_c {r:Fr} {cs ds:List Value} {x y:RootT} (hx:RootRp.rel r cs x) (hy:RootRp.rel r ds y) :
  Con prog 46 #[.agg cs.toArray,.agg ds.toArray] r [] (Ret fun v η=>v=.bool (decide (x=y))∧η=[]):=by
 obtain ⟨xa3,xa4,xc3,xc4,rfl,xk0,xk1,xk2,xk3,xk4⟩:=RootRp.sh hx;obtain ⟨ya3,ya4,yc3,yc4,rfl,yk0,yk1,yk2,yk3,yk4⟩:=RootRp.sh hy;refine Con.o func46 fun g hg R hR=>?_;have xk3:=xk3.mono hg;have xk4:=xk4.mono hg;have yk3:=yk3.mono hg;have yk4:=yk4.mono hg;refine S.seq<|S.region rfl<|O.opE (.p rfl) (.box (cs:=[_,_,_,_,_]) rfl rfl) ?_;rintro _ _ ⟨b2,rfl,rfl⟩;refine O.opE (.p rfl) (.box (cs:=[_,_,_,_,_]) rfl rfl) ?_;rintro _ _ ⟨b3,rfl,rfl⟩;refine zz 10 ?_
 refine O.cs 10 rfl (fun h10=>?_) fun h10=>?_
 ·refine zz 7 ?_
  refine O.cs 17 rfl (fun h17=>?_) fun h17=>?_
  ·refine zz 7 ?_
   refine O.cs 24 rfl (fun h24=>?_) fun h24=>?_
   ·refine zz 4 ?_
    refine O.v0 (.g rfl rfl) rfl zB rfl rfl (SameBytes_c zA zA)<|zz 2 ?_
    refine O.cs 31 rfl (fun h31=>?_) fun h31=>?_
    ·refine zz 4 ?_
     refine O.v0 (.g rfl rfl) rfl zB rfl rfl (SameBytes_c zA zA) ?_;refine O.q 2 rfl<|O.nil<|S.ret results46 rfl fun w hw=>Holds.end_ hR hw ?_
     first|exact ⟨_,⟨congrArg _ (zdf (fun e=>by subst e;exact absurd rfl zF)).symm,rfl⟩,zN⟩|exact ⟨_,⟨congrArg _ (decide_eq_decide.2 ⟨fun e=>sameRoot_eq zF zF zF zF e,fun e=>by rw [e]⟩),rfl⟩,zN⟩
    ·refine O.q 7 rfl<|O.nil<|S.ret results46 rfl fun w hw=>Holds.end_ hR hw ?_
     first|exact ⟨_,⟨congrArg _ (zdf (fun e=>by subst e;exact absurd rfl zF)).symm,rfl⟩,zN⟩|exact ⟨_,⟨congrArg _ (decide_eq_decide.2 ⟨fun e=>sameRoot_eq zF zF zF zF e,fun e=>by rw [e]⟩),rfl⟩,zN⟩
   ·refine O.q 14 rfl<|O.nil<|S.ret results46 rfl fun w hw=>Holds.end_ hR hw ?_
    first|exact ⟨_,⟨congrArg _ (zdf (fun e=>by subst e;exact absurd rfl zF)).symm,rfl⟩,zN⟩|exact ⟨_,⟨congrArg _ (decide_eq_decide.2 ⟨fun e=>sameRoot_eq zF zF zF zF e,fun e=>by rw [e]⟩),rfl⟩,zN⟩
  ·refine O.q 21 rfl<|O.nil<|S.ret results46 rfl fun w hw=>Holds.end_ hR hw ?_
   first|exact ⟨_,⟨congrArg _ (zdf (fun e=>by subst e;exact absurd rfl zF)).symm,rfl⟩,zN⟩|exact ⟨_,⟨congrArg _ (decide_eq_decide.2 ⟨fun e=>sameRoot_eq zF zF zF zF e,fun e=>by rw [e]⟩),rfl⟩,zN⟩
 ·refine O.q 28 rfl<|O.nil<|S.ret results46 rfl fun w hw=>Holds.end_ hR hw ?_
  first|exact ⟨_,⟨congrArg _ (zdf (fun e=>by subst e;exact absurd rfl zF)).symm,rfl⟩,zN⟩|exact ⟨_,⟨congrArg _ (decide_eq_decide.2 ⟨fun e=>sameRoot_eq zF zF zF zF e,fun e=>by rw [e]⟩),rfl⟩,zN⟩
theorem sameEvidence_eq {x y:EvdT} (h0:x.1=y.1) (h1:x.2.1=y.2.1):x=y:=by
 obtain ⟨a0,a1,⟨⟩⟩:=x;obtain ⟨b0,b1,⟨⟩⟩:=y
 simp_all
theorem sameEvidence_c {r:Fr} {cs ds:List Value} {x y:EvdT} (hx:EvdRp.rel r cs x) (hy:EvdRp.rel r ds y) :
  Con prog 50 #[.agg cs.toArray,.agg ds.toArray] r [] (Ret fun v η=>v=.bool (decide (x=y))∧η=[]):=by
 obtain ⟨xa3,xa4,xa8,xa9,xc3,xc4,xc8,xc9,rfl,xk0,xk1,xk2,xk3,xk4,xk5,xk6,xk7,xk8,xk9⟩:=EvdRp.sh hx;obtain ⟨ya3,ya4,ya8,ya9,yc3,yc4,yc8,yc9,rfl,yk0,yk1,yk2,yk3,yk4,yk5,yk6,yk7,yk8,yk9⟩:=EvdRp.sh hy;refine Con.o func50 fun g hg R hR=>?_;have xk3:=xk3.mono hg;have xk4:=xk4.mono hg;have xk8:=xk8.mono hg;have xk9:=xk9.mono hg;have yk3:=yk3.mono hg;have yk4:=yk4.mono hg;have yk8:=yk8.mono hg;have yk9:=yk9.mono hg;refine S.seq<|S.region rfl<|O.opE (.p rfl) (.box (cs:=[_,_,_,_,_,_,_,_,_,_]) rfl rfl) ?_;rintro _ _ ⟨b2,rfl,rfl⟩;refine O.opE (.p rfl) (.box (cs:=[_,_,_,_,_,_,_,_,_,_]) rfl rfl) ?_;rintro _ _ ⟨b3,rfl,rfl⟩;refine zz 8 ?_;refine O.v0 (.p rfl) rfl zB rfl rfl ((sameRoot_c (x:=x.1) (y:=y.1) (RootRp.mk xk0 xk1 xk2 xk3 xk4) (RootRp.mk yk0 yk1 yk2 yk3 yk4))) ?_;refine zz 1 ?_
 refine O.cs 10 rfl (fun h10=>?_) fun h10=>?_
 ·refine zz 4 ?_
  refine O.v0 (.g rfl rfl) rfl zB rfl rfl ((sameRoot_c (x:=x.2.1) (y:=y.2.1) (RootRp.mk xk5 xk6 xk7 xk8 xk9) (RootRp.mk yk5 yk6 yk7 yk8 yk9))) ?_;refine O.q 2 rfl<|O.nil<|S.ret results50 rfl fun w hw=>Holds.end_ hR hw ?_
  first|exact ⟨_,⟨congrArg _ (zdf (fun e=>by subst e;exact absurd rfl zF)).symm,rfl⟩,zN⟩|exact ⟨_,⟨congrArg _ (decide_eq_decide.2 ⟨fun e=>sameEvidence_eq zF e,fun e=>by rw [e]⟩),rfl⟩,zN⟩
 ·refine O.q 7 rfl<|O.nil<|S.ret results50 rfl fun w hw=>Holds.end_ hR hw ?_
  first|exact ⟨_,⟨congrArg _ (zdf (fun e=>by subst e;exact absurd rfl zF)).symm,rfl⟩,zN⟩|exact ⟨_,⟨congrArg _ (decide_eq_decide.2 ⟨fun e=>sameEvidence_eq zF e,fun e=>by rw [e]⟩),rfl⟩,zN⟩
theorem u8_eqL {x y:UInt8} (h:(x.toNat:Int)=(y.toNat:Int)):x=y:=UInt8.toNat_inj.1 zC
noncomputable instance:DecidableEq FrmT:=Classical.typeDecidableEq _
theorem sameRows_c {r:Fr} {va vb:Value} {xs ys:List (List UInt8)} (ha:Arr (Rp.slice Rp.u8) r va xs) (hb:Arr (Rp.slice Rp.u8) r vb ys) :
  Con prog 110 #[va,vb] r [] (Ret fun v η=>v=.bool (decide (xs=ys))∧η=[]):=by
 have har:=ha;have hbr:=hb;refine Con.o func110 fun g hg R hR=>?_;have ha:=ha.mono hg;have hb:=hb.mono hg;have hbd:=ha.bound;obtain ⟨a1,c1,rfl⟩:=ha.shape;obtain ⟨a2,c2,rfl⟩:=hb.shape
 by_cases e0:xs.length=ys.length
 ·
  refine zz 12 ?_;refine O.sF 10 rfl (by exact zdf zC)<|zz 9 ?_;refine S.loopK (ι:=Nat) (fun i=>i≤xs.length∧xs.take i=ys.take i) (fun i=>[(5,.int .i64 (i:Int))]) [(0,_),(1,_)] (fun i=>[]) (fun i=>xs.length - i) (0) zG zq zq rfl fun i hx ih=>?_;have hm1:=meltRefl (g:=g);obtain ⟨hx1,hx2⟩:=hx;refine zz 8 ?_;refine S.cd rfl (fun h14=>?_) fun h14=>?_
  ·have hi:i<xs.length:=by omega
   have hi2:i<ys.length:=by omega
   by_cases e:xs[i]=ys[i]
   ·
    refine S.skip<|S.seq<|S.block<|S.seq<|S.regionD (L:=.range 10) F.mixed zB<|OD.q 2 rfl<|OD.ia (.p rfl) underlying28 size22 rfl rfl rfl zA (h:=fun p19 cs19 hp19 hr19=>?_);obtain ⟨v19,rfl,ha19⟩:=hr19;obtain ⟨a19,c19,rfl⟩:=ha19.shape;refine zz 1 ?_;refine OD.q 2 rfl<|OD.ia (.p rfl) underlying28 size22 rfl rfl rfl zA (h:=fun p23 cs23 hp23 hr23=>?_);obtain ⟨v23,rfl,ha23⟩:=hr23;obtain ⟨a23,c23,rfl⟩:=ha23.shape;refine zz 1 ?_;refine OD.v0 (.p rfl) zB rfl zB rfl rfl ((SameBytes_c ha19 ha23)) ?_;refine OD.sT 25 rfl (by exact zdt e)<|zz 10 ?_;exact S.wk (ih (i+1) (by exact ⟨by omega,take_same hi hi2 hx2 e⟩) zC)
   ·
    refine S.skip<|S.seq<|S.block<|S.seq<|S.regionD (L:=.range 10) F.mixed zB<|OD.q 2 rfl<|OD.ia (.p rfl) underlying28 size22 rfl rfl rfl zA (h:=fun p19 cs19 hp19 hr19=>?_);obtain ⟨v19,rfl,ha19⟩:=hr19;obtain ⟨a19,c19,rfl⟩:=ha19.shape;refine zz 1 ?_;refine OD.q 2 rfl<|OD.ia (.p rfl) underlying28 size22 rfl rfl rfl zA (h:=fun p23 cs23 hp23 hr23=>?_);obtain ⟨v23,rfl,ha23⟩:=hr23;obtain ⟨a23,c23,rfl⟩:=ha23.shape;refine zz 1 ?_;refine OD.v0 (.p rfl) zB rfl zB rfl rfl ((SameBytes_c ha19 ha23)) ?_;refine OD.sF 25 rfl (by exact zdf e)<|zz 7 ?_;exact S.rt results110 rfl hR ⟨congrArg _ (zdf (not_same hi hi2 e)).symm,rfl⟩
  ·have hi:i=xs.length:=by omega
   clear ih;subst hi;rw [List.take_length,e0,List.take_length] at hx2;refine zz 5 ?_;exact S.rt results110 rfl hR ⟨by simp [hx2],rfl⟩
 ·
  refine zz 12 ?_;refine O.sT 10 rfl (by exact zdt zC)<|zz 6 ?_;exact S.rt results110 rfl hR ⟨congrArg _ (zdf (fun h=>e0 (by rw [h]))).symm,rfl⟩
theorem sameStub_eq {x y:StubT} (h0:x.1=y.1) (h1:x.2.1=y.2.1):x=y:=by
 obtain ⟨a0,a1,⟨⟩⟩:=x;obtain ⟨b0,b1,⟨⟩⟩:=y
 simp_all
theorem sameStub_c {r:Fr} {cs ds:List Value} {x y:StubT} (hx:StubRp.rel r cs x) (hy:StubRp.rel r ds y) :
  Con prog 195 #[.agg cs.toArray,.agg ds.toArray] r [] (Ret fun v η=>v=.bool (decide (x=y))∧η=[]):=by
 obtain ⟨xa1,xc1,rfl,xk0,xk1⟩:=StubRp.sh hx;obtain ⟨ya1,yc1,rfl,yk0,yk1⟩:=StubRp.sh hy;refine Con.o func195 fun g hg R hR=>?_;have xk1:=xk1.mono hg;have yk1:=yk1.mono hg;refine S.seq<|S.region rfl<|O.opE (.p rfl) (.box (cs:=[_,_]) rfl rfl) ?_;rintro _ _ ⟨b2,rfl,rfl⟩;refine O.opE (.p rfl) (.box (cs:=[_,_]) rfl rfl) ?_;rintro _ _ ⟨b3,rfl,rfl⟩;refine zz 8 ?_;refine O.op (.p rfl) (.eqlS rfl rfl)<|O.q 1 rfl ?_
 refine O.cs 10 rfl (fun h10=>?_) fun h10=>?_
 ·refine zz 4 ?_
  refine O.v0 (.g rfl rfl) rfl zB rfl rfl (SameBytes_c zA zA) ?_;refine O.q 2 rfl<|O.nil<|S.ret results195 rfl fun w hw=>Holds.end_ hR hw ?_
  first|exact ⟨_,⟨congrArg _ (zdf (fun e=>by subst e;exact absurd rfl zF)).symm,rfl⟩,zN⟩|exact ⟨_,⟨congrArg _ (decide_eq_decide.2 ⟨fun e=>sameStub_eq (x:=x) (y:=y) (str_eqL zF) e,fun e=>by rw [e]⟩),rfl⟩,zN⟩
 ·refine O.q 7 rfl<|O.nil<|S.ret results195 rfl fun w hw=>Holds.end_ hR hw ?_
  first|exact ⟨_,⟨congrArg _ (zdf (fun e=>by subst e;exact absurd rfl zF)).symm,rfl⟩,zN⟩|exact ⟨_,⟨congrArg _ (decide_eq_decide.2 ⟨fun e=>sameStub_eq (x:=x) (y:=y) (str_eqL zF) e,fun e=>by rw [e]⟩),rfl⟩,zN⟩
theorem sameStubs_c {r:Fr} {va vb:Value} {xs ys:List StubT} (ha:Arr StubRp r va xs) (hb:Arr StubRp r vb ys) :
  Con prog 111 #[va,vb] r [] (Ret fun v η=>v=.bool (decide (xs=ys))∧η=[]):=by
 have har:=ha;have hbr:=hb;refine Con.o func111 fun g hg R hR=>?_;have ha:=ha.mono hg;have hb:=hb.mono hg;have hbd:=ha.bound;obtain ⟨a1,c1,rfl⟩:=ha.shape;obtain ⟨a2,c2,rfl⟩:=hb.shape
 by_cases e0:xs.length=ys.length
 ·
  refine zz 12 ?_;refine O.sF 10 rfl (by exact zdf zC)<|zz 9 ?_;refine S.loopK (ι:=Nat) (fun i=>i≤xs.length∧xs.take i=ys.take i) (fun i=>[(5,.int .i64 (i:Int))]) [(0,_),(1,_)] (fun i=>[]) (fun i=>xs.length - i) (0) zG zq zq rfl fun i hx ih=>?_;have hm1:=meltRefl (g:=g);obtain ⟨hx1,hx2⟩:=hx;refine zz 8 ?_;refine S.cd rfl (fun h14=>?_) fun h14=>?_
  ·have hi:i<xs.length:=by omega
   have hi2:i<ys.length:=by omega
   by_cases e:xs[i]=ys[i]
   ·
    refine S.skip<|S.seq<|S.block<|S.seq<|S.regionD (L:=.range 10) F.mixed zB<|OD.q 2 rfl<|OD.iy har hg (h:=fun p19 cs19 hp19 hrr19=>?_);have hr19:=Rp.rel.mono hrr19 hg;obtain ⟨sa1_19,sc1_19,rfl,ho0_19,ha1_19⟩:=StubRp.sh hr19;refine .quiet (.p rfl) rfl (fun _=>.loadAgg isAgg122 zB rfl hp19) ?_;refine OD.q 2 rfl<|OD.iy hbr hg (h:=fun p23 cs23 hp23 hrr23=>?_);have hr23:=Rp.rel.mono hrr23 hg;obtain ⟨sa1_23,sc1_23,rfl,ho0_23,ha1_23⟩:=StubRp.sh hr23;refine .quiet (.p rfl) rfl (fun _=>.loadAgg isAgg122 zB rfl hp23) ?_;refine OD.v0 (.p rfl) zB rfl zB rfl rfl ((sameStub_c hr19 hr23)) ?_;refine OD.sT 25 rfl (by exact zdt e)<|zz 10 ?_;exact S.wk (ih (i+1) (by exact ⟨by omega,take_same hi hi2 hx2 e⟩) zC)
   ·
    refine S.skip<|S.seq<|S.block<|S.seq<|S.regionD (L:=.range 10) F.mixed zB<|OD.q 2 rfl<|OD.iy har hg (h:=fun p19 cs19 hp19 hrr19=>?_);have hr19:=Rp.rel.mono hrr19 hg;obtain ⟨sa1_19,sc1_19,rfl,ho0_19,ha1_19⟩:=StubRp.sh hr19;refine .quiet (.p rfl) rfl (fun _=>.loadAgg isAgg122 zB rfl hp19) ?_;refine OD.q 2 rfl<|OD.iy hbr hg (h:=fun p23 cs23 hp23 hrr23=>?_);have hr23:=Rp.rel.mono hrr23 hg;obtain ⟨sa1_23,sc1_23,rfl,ho0_23,ha1_23⟩:=StubRp.sh hr23;refine .quiet (.p rfl) rfl (fun _=>.loadAgg isAgg122 zB rfl hp23) ?_;refine OD.v0 (.p rfl) zB rfl zB rfl rfl ((sameStub_c hr19 hr23)) ?_;refine OD.sF 25 rfl (by exact zdf e)<|zz 7 ?_;exact S.rt results111 rfl hR ⟨congrArg _ (zdf (not_same hi hi2 e)).symm,rfl⟩
  ·have hi:i=xs.length:=by omega
   clear ih;subst hi;rw [List.take_length,e0,List.take_length] at hx2;refine zz 5 ?_;exact S.rt results111 rfl hR ⟨by simp [hx2],rfl⟩
 ·
  refine zz 12 ?_;refine O.sT 10 rfl (by exact zdt zC)<|zz 6 ?_;exact S.rt results111 rfl hR ⟨congrArg _ (zdf (fun h=>e0 (by rw [h]))).symm,rfl⟩
theorem sameNode_eq {x y:NodeT} (h0:x.1=y.1) (h1:x.2.1=y.2.1) (h2:x.2.2.1=y.2.2.1) (h3:x.2.2.2.1=y.2.2.2.1):x=y:=by
 obtain ⟨a0,a1,a2,a3,⟨⟩⟩:=x;obtain ⟨b0,b1,b2,b3,⟨⟩⟩:=y
 simp_all
theorem sameNode_c {r:Fr} {cs ds:List Value} {x y:NodeT} (hx:NodeRp.rel r cs x) (hy:NodeRp.rel r ds y) :
  Con prog 48 #[.agg cs.toArray,.agg ds.toArray] r [] (Ret fun v η=>v=.bool (decide (x=y))∧η=[]):=by
 obtain ⟨xa1,xa2,xa3,xc1,xc2,xc3,rfl,xk1,xk2,xk3⟩:=NodeRp.sh hx;obtain ⟨ya1,ya2,ya3,yc1,yc2,yc3,rfl,yk1,yk2,yk3⟩:=NodeRp.sh hy;refine Con.o func48 fun g hg R hR=>?_;have xk1:=xk1.mono hg;have xk2:=xk2.mono hg;have xk3:=xk3.mono hg;have yk1:=yk1.mono hg;have yk2:=yk2.mono hg;have yk3:=yk3.mono hg;refine S.seq<|S.region rfl<|O.opE (.p rfl) (.box (cs:=[_,_,_,_]) rfl rfl) ?_;rintro _ _ ⟨b2,rfl,rfl⟩;refine O.opE (.p rfl) (.box (cs:=[_,_,_,_]) rfl rfl) ?_;rintro _ _ ⟨b3,rfl,rfl⟩;refine zz 10 ?_
 refine O.cs 10 rfl (fun h10=>?_) fun h10=>?_
 ·refine zz 4 ?_
  refine O.v0 (.g rfl rfl) rfl zB rfl rfl (SameBytes_c zA zA)<|zz 2 ?_
  refine O.cs 17 rfl (fun h17=>?_) fun h17=>?_
  ·refine zz 4 ?_
   refine O.v0 (.g rfl rfl) rfl zB rfl rfl (SameBytes_c zA zA)<|zz 2 ?_
   refine O.cs 24 rfl (fun h24=>?_) fun h24=>?_
   ·refine zz 4 ?_
    refine O.v0 (.g rfl rfl) rfl zB rfl rfl (sameLeaves_c zA zA) ?_;refine O.q 2 rfl<|O.nil<|S.ret results48 rfl fun w hw=>Holds.end_ hR hw ?_
    first|exact ⟨_,⟨congrArg _ (zdf (fun e=>by subst e;exact absurd rfl zF)).symm,rfl⟩,zN⟩|exact ⟨_,⟨congrArg _ (decide_eq_decide.2 ⟨fun e=>sameNode_eq (x:=x) (y:=y) (u8_eqL zF) zF zF e,fun e=>by rw [e]⟩),rfl⟩,zN⟩
   ·refine O.q 7 rfl<|O.nil<|S.ret results48 rfl fun w hw=>Holds.end_ hR hw ?_
    first|exact ⟨_,⟨congrArg _ (zdf (fun e=>by subst e;exact absurd rfl zF)).symm,rfl⟩,zN⟩|exact ⟨_,⟨congrArg _ (decide_eq_decide.2 ⟨fun e=>sameNode_eq (x:=x) (y:=y) (u8_eqL zF) zF zF e,fun e=>by rw [e]⟩),rfl⟩,zN⟩
  ·refine O.q 14 rfl<|O.nil<|S.ret results48 rfl fun w hw=>Holds.end_ hR hw ?_
   first|exact ⟨_,⟨congrArg _ (zdf (fun e=>by subst e;exact absurd rfl zF)).symm,rfl⟩,zN⟩|exact ⟨_,⟨congrArg _ (decide_eq_decide.2 ⟨fun e=>sameNode_eq (x:=x) (y:=y) (u8_eqL zF) zF zF e,fun e=>by rw [e]⟩),rfl⟩,zN⟩
 ·refine O.q 21 rfl<|O.nil<|S.ret results48 rfl fun w hw=>Holds.end_ hR hw ?_
  first|exact ⟨_,⟨congrArg _ (zdf (fun e=>by subst e;exact absurd rfl zF)).symm,rfl⟩,zN⟩|exact ⟨_,⟨congrArg _ (decide_eq_decide.2 ⟨fun e=>sameNode_eq (x:=x) (y:=y) (u8_eqL zF) zF zF e,fun e=>by rw [e]⟩),rfl⟩,zN⟩
theorem sameProof_eq {x y:PrfT} (h0:x.1=y.1) (h1:x.2.1=y.2.1):x=y:=by
 obtain ⟨a0,a1,⟨⟩⟩:=x;obtain ⟨b0,b1,⟨⟩⟩:=y
 simp_all
theorem sameProof_c {r:Fr} {cs ds:List Value} {x y:PrfT} (hx:PrfRp.rel r cs x) (hy:PrfRp.rel r ds y) :
  Con prog 47 #[.agg cs.toArray,.agg ds.toArray] r [] (Ret fun v η=>v=.bool (decide (x=y))∧η=[]):=by
 obtain ⟨xa0,xa1,xc0,xc1,rfl,xk0,xk1⟩:=PrfRp.sh hx;obtain ⟨ya0,ya1,yc0,yc1,rfl,yk0,yk1⟩:=PrfRp.sh hy;refine Con.o func47 fun g hg R hR=>?_;have xk0:=xk0.mono hg;have xk1:=xk1.mono hg;have yk0:=yk0.mono hg;have yk1:=yk1.mono hg;refine S.seq<|S.region rfl<|O.opE (.p rfl) (.box (cs:=[_,_]) rfl rfl) ?_;rintro _ _ ⟨b2,rfl,rfl⟩;refine O.opE (.p rfl) (.box (cs:=[_,_]) rfl rfl) ?_;rintro _ _ ⟨b3,rfl,rfl⟩;refine zz 8 ?_;refine O.v0 (.p rfl) rfl zB rfl rfl (sameRows_c zA zA) ?_;refine zz 1 ?_
 refine O.cs 10 rfl (fun h10=>?_) fun h10=>?_
 ·refine zz 4 ?_
  refine O.v0 (.g rfl rfl) rfl zB rfl rfl (sameStubs_c zA zA) ?_;refine O.q 2 rfl<|O.nil<|S.ret results47 rfl fun w hw=>Holds.end_ hR hw ?_
  first|exact ⟨_,⟨congrArg _ (zdf (fun e=>by subst e;exact absurd rfl zF)).symm,rfl⟩,zN⟩|exact ⟨_,⟨congrArg _ (decide_eq_decide.2 ⟨fun e=>sameProof_eq (x:=x) (y:=y) zF e,fun e=>by rw [e]⟩),rfl⟩,zN⟩
 ·refine O.q 7 rfl<|O.nil<|S.ret results47 rfl fun w hw=>Holds.end_ hR hw ?_
  first|exact ⟨_,⟨congrArg _ (zdf (fun e=>by subst e;exact absurd rfl zF)).symm,rfl⟩,zN⟩|exact ⟨_,⟨congrArg _ (decide_eq_decide.2 ⟨fun e=>sameProof_eq (x:=x) (y:=y) zF e,fun e=>by rw [e]⟩),rfl⟩,zN⟩
theorem sameFrame_eq {x y:FrmT} (h0:x.1=y.1) (h1:x.2.1=y.2.1) (h2:x.2.2.1=y.2.2.1) (h3:x.2.2.2.1=y.2.2.2.1) (h4:x.2.2.2.2.1=y.2.2.2.2.1) (h5:x.2.2.2.2.2.1=y.2.2.2.2.2.1) (h6:x.2.2.2.2.2.2.1=y.2.2.2.2.2.2.1) (h7:x.2.2.2.2.2.2.2.1=y.2.2.2.2.2.2.2.1) (h8:x.2.2.2.2.2.2.2.2.1=y.2.2.2.2.2.2.2.2.1) (h9:x.2.2.2.2.2.2.2.2.2.1=y.2.2.2.2.2.2.2.2.2.1) (h10:x.2.2.2.2.2.2.2.2.2.2.1=y.2.2.2.2.2.2.2.2.2.2.1) (h11:x.2.2.2.2.2.2.2.2.2.2.2.1=y.2.2.2.2.2.2.2.2.2.2.2.1):x=y:=by
 obtain ⟨a0,a1,a2,a3,a4,a5,a6,a7,a8,a9,a10,a11,⟨⟩⟩:=x;obtain ⟨b0,b1,b2,b3,b4,b5,b6,b7,b8,b9,b10,b11,⟨⟩⟩:=y
 simp_all
theorem sameFrame_c {r:Fr} {cs ds:List Value} {x y:FrmT} (hx:FrmRp.rel r cs x) (hy:FrmRp.rel r ds y) :
  Con prog 18 #[.agg cs.toArray,.agg ds.toArray] r [] (Ret fun v η=>v=.bool (decide (x=y))∧η=[]):=by
 obtain ⟨xa8,xa9,xa10,xa11,xa12,xa14,xa15,xa16,xa17,xa21,xa22,xa26,xa27,xc8,xc9,xc10,xc11,xc12,xc14,xc15,xc16,xc17,xc21,xc22,xc26,xc27,rfl,xk1,xk2,xk3,xk4,xk5,xk6,xk7,xk8,xk9,xk10,xk11,xk12,xk14,xk15,xk16,xk17,xk18,xk19,xk20,xk21,xk22,xk23,xk24,xk25,xk26,xk27,xk28⟩:=FrmRp.sh hx;obtain ⟨ya8,ya9,ya10,ya11,ya12,ya14,ya15,ya16,ya17,ya21,ya22,ya26,ya27,yc8,yc9,yc10,yc11,yc12,yc14,yc15,yc16,yc17,yc21,yc22,yc26,yc27,rfl,yk1,yk2,yk3,yk4,yk5,yk6,yk7,yk8,yk9,yk10,yk11,yk12,yk14,yk15,yk16,yk17,yk18,yk19,yk20,yk21,yk22,yk23,yk24,yk25,yk26,yk27,yk28⟩:=FrmRp.sh hy;refine Con.o func18 fun g hg R hR=>?_;have xk8:=xk8.mono hg;have xk9:=xk9.mono hg;have xk10:=xk10.mono hg;have xk11:=xk11.mono hg;have xk12:=xk12.mono hg;have xk14:=xk14.mono hg;have xk15:=xk15.mono hg;have xk16:=xk16.mono hg;have xk17:=xk17.mono hg;have xk21:=xk21.mono hg;have xk22:=xk22.mono hg;have xk26:=xk26.mono hg;have xk27:=xk27.mono hg;have yk8:=yk8.mono hg;have yk9:=yk9.mono hg;have yk10:=yk10.mono hg;have yk11:=yk11.mono hg;have yk12:=yk12.mono hg;have yk14:=yk14.mono hg;have yk15:=yk15.mono hg;have yk16:=yk16.mono hg;have yk17:=yk17.mono hg;have yk21:=yk21.mono hg;have yk22:=yk22.mono hg;have yk26:=yk26.mono hg;have yk27:=yk27.mono hg
 refine S.seq<|S.region rfl<|O.opE (.p rfl) (.box (cs:=[_,_,_,_,_,_,_,_,_,_,_,_,_,_,_,_,_,_,_,_,_,_,_,_,_,_,_,_,_]) rfl rfl) ?_;rintro _ _ ⟨b2,rfl,rfl⟩;refine O.opE (.p rfl) (.box (cs:=[_,_,_,_,_,_,_,_,_,_,_,_,_,_,_,_,_,_,_,_,_,_,_,_,_,_,_,_,_]) rfl rfl) ?_;rintro _ _ ⟨b3,rfl,rfl⟩;refine zz 10 ?_
 refine O.cs 10 rfl (fun h10=>?_) fun h10=>?_
 ·refine zz 7 ?_
  refine O.cs 17 rfl (fun h17=>?_) fun h17=>?_
  ·refine zz 7 ?_
   refine O.cs 24 rfl (fun h24=>?_) fun h24=>?_
   ·refine zz 4 ?_
    refine O.op (.g rfl rfl) (.eqlS rfl rfl)<|O.q 2 rfl ?_
    refine O.cs 31 rfl (fun h31=>?_) fun h31=>?_
    ·refine zz 4 ?_
     refine O.op (.g rfl rfl) (.eqlS rfl rfl)<|O.q 2 rfl ?_
     refine O.cs 38 rfl (fun h38=>?_) fun h38=>?_
     ·refine zz 4 ?_
      refine O.v0 (.g rfl rfl) rfl zB rfl rfl ((sameRoot_c (x:=x.2.2.2.2.2.1) (y:=y.2.2.2.2.2.1) (RootRp.mk xk5 xk6 xk7 xk8 xk9) (RootRp.mk yk5 yk6 yk7 yk8 yk9)))<|zz 2 ?_
      refine O.cs 45 rfl (fun h45=>?_) fun h45=>?_
      ·refine zz 4 ?_
       refine O.v0 (.g rfl rfl) rfl zB rfl rfl ((sameProof_c (x:=x.2.2.2.2.2.2.2.1) (y:=y.2.2.2.2.2.2.2.1) (PrfRp.mk xk11 xk12) (PrfRp.mk yk11 yk12)))<|zz 2 ?_
       refine O.cs 52 rfl (fun h52=>?_) fun h52=>?_
       ·refine zz 4 ?_
        refine O.v0 (.g rfl rfl) rfl zB rfl rfl ((sameNode_c (x:=x.2.2.2.2.2.2.2.2.1) (y:=y.2.2.2.2.2.2.2.2.1) (NodeRp.mk xk14 xk15 xk16) (NodeRp.mk yk14 yk15 yk16)))<|zz 2 ?_
        refine O.cs 59 rfl (fun h59=>?_) fun h59=>?_
        ·refine zz 4 ?_
         refine O.v0 (.g rfl rfl) rfl zB rfl rfl (sameRecords_c zA zA)<|zz 2 ?_
         refine O.cs 66 rfl (fun h66=>?_) fun h66=>?_
         ·refine zz 4 ?_
          refine O.v0 (.g rfl rfl) rfl zB rfl rfl ((sameEvidence_c (x:=x.2.2.2.2.2.2.2.2.2.2.1) (y:=y.2.2.2.2.2.2.2.2.2.2.1) (EvdRp.mk xk18 xk19 xk20 xk21 xk22 xk23 xk24 xk25 xk26 xk27) (EvdRp.mk yk18 yk19 yk20 yk21 yk22 yk23 yk24 yk25 yk26 yk27)))<|zz 2 ?_
          refine O.cs 73 rfl (fun h73=>?_) fun h73=>?_
          ·refine zz 7 ?_
           refine O.cs 80 rfl (fun h80=>?_) fun h80=>?_
           ·refine zz 4 ?_
            refine O.v0 (.g rfl rfl) rfl zB rfl rfl (SameBytes_c zA zA) ?_;refine O.q 2 rfl<|O.nil<|S.ret results18 rfl fun w hw=>Holds.end_ hR hw ?_
            first|exact ⟨_,⟨congrArg _ (zdf (fun e=>by subst e;exact absurd rfl zF)).symm,rfl⟩,zN⟩|exact ⟨_,⟨congrArg _ (decide_eq_decide.2 ⟨fun e=>sameFrame_eq (x:=x) (y:=y) (u8_eqL zF) zF zF (str_eqL zF) (str_eqL zF) zF e zF zF zF zF zF,fun e=>by rw [e]⟩),rfl⟩,zN⟩
           ·refine O.q 7 rfl<|O.nil<|S.ret results18 rfl fun w hw=>Holds.end_ hR hw ?_
            first|exact ⟨_,⟨congrArg _ (zdf (fun e=>by subst e;exact absurd rfl zF)).symm,rfl⟩,zN⟩|exact ⟨_,⟨congrArg _ (decide_eq_decide.2 ⟨fun e=>sameFrame_eq (x:=x) (y:=y) (u8_eqL zF) zF zF (str_eqL zF) (str_eqL zF) zF e zF zF zF zF zF,fun e=>by rw [e]⟩),rfl⟩,zN⟩
          ·refine O.q 14 rfl<|O.nil<|S.ret results18 rfl fun w hw=>Holds.end_ hR hw ?_
           first|exact ⟨_,⟨congrArg _ (zdf (fun e=>by subst e;exact absurd rfl zF)).symm,rfl⟩,zN⟩|exact ⟨_,⟨congrArg _ (decide_eq_decide.2 ⟨fun e=>sameFrame_eq (x:=x) (y:=y) (u8_eqL zF) zF zF (str_eqL zF) (str_eqL zF) zF e zF zF zF zF zF,fun e=>by rw [e]⟩),rfl⟩,zN⟩
         ·refine O.q 21 rfl<|O.nil<|S.ret results18 rfl fun w hw=>Holds.end_ hR hw ?_
          first|exact ⟨_,⟨congrArg _ (zdf (fun e=>by subst e;exact absurd rfl zF)).symm,rfl⟩,zN⟩|exact ⟨_,⟨congrArg _ (decide_eq_decide.2 ⟨fun e=>sameFrame_eq (x:=x) (y:=y) (u8_eqL zF) zF zF (str_eqL zF) (str_eqL zF) zF e zF zF zF zF zF,fun e=>by rw [e]⟩),rfl⟩,zN⟩
        ·refine O.q 28 rfl<|O.nil<|S.ret results18 rfl fun w hw=>Holds.end_ hR hw ?_
         first|exact ⟨_,⟨congrArg _ (zdf (fun e=>by subst e;exact absurd rfl zF)).symm,rfl⟩,zN⟩|exact ⟨_,⟨congrArg _ (decide_eq_decide.2 ⟨fun e=>sameFrame_eq (x:=x) (y:=y) (u8_eqL zF) zF zF (str_eqL zF) (str_eqL zF) zF e zF zF zF zF zF,fun e=>by rw [e]⟩),rfl⟩,zN⟩
       ·refine O.q 35 rfl<|O.nil<|S.ret results18 rfl fun w hw=>Holds.end_ hR hw ?_
        first|exact ⟨_,⟨congrArg _ (zdf (fun e=>by subst e;exact absurd rfl zF)).symm,rfl⟩,zN⟩|exact ⟨_,⟨congrArg _ (decide_eq_decide.2 ⟨fun e=>sameFrame_eq (x:=x) (y:=y) (u8_eqL zF) zF zF (str_eqL zF) (str_eqL zF) zF e zF zF zF zF zF,fun e=>by rw [e]⟩),rfl⟩,zN⟩
      ·refine O.q 42 rfl<|O.nil<|S.ret results18 rfl fun w hw=>Holds.end_ hR hw ?_
       first|exact ⟨_,⟨congrArg _ (zdf (fun e=>by subst e;exact absurd rfl zF)).symm,rfl⟩,zN⟩|exact ⟨_,⟨congrArg _ (decide_eq_decide.2 ⟨fun e=>sameFrame_eq (x:=x) (y:=y) (u8_eqL zF) zF zF (str_eqL zF) (str_eqL zF) zF e zF zF zF zF zF,fun e=>by rw [e]⟩),rfl⟩,zN⟩
     ·refine O.q 49 rfl<|O.nil<|S.ret results18 rfl fun w hw=>Holds.end_ hR hw ?_
      first|exact ⟨_,⟨congrArg _ (zdf (fun e=>by subst e;exact absurd rfl zF)).symm,rfl⟩,zN⟩|exact ⟨_,⟨congrArg _ (decide_eq_decide.2 ⟨fun e=>sameFrame_eq (x:=x) (y:=y) (u8_eqL zF) zF zF (str_eqL zF) (str_eqL zF) zF e zF zF zF zF zF,fun e=>by rw [e]⟩),rfl⟩,zN⟩
    ·refine O.q 56 rfl<|O.nil<|S.ret results18 rfl fun w hw=>Holds.end_ hR hw ?_
     first|exact ⟨_,⟨congrArg _ (zdf (fun e=>by subst e;exact absurd rfl zF)).symm,rfl⟩,zN⟩|exact ⟨_,⟨congrArg _ (decide_eq_decide.2 ⟨fun e=>sameFrame_eq (x:=x) (y:=y) (u8_eqL zF) zF zF (str_eqL zF) (str_eqL zF) zF e zF zF zF zF zF,fun e=>by rw [e]⟩),rfl⟩,zN⟩
   ·refine O.q 63 rfl<|O.nil<|S.ret results18 rfl fun w hw=>Holds.end_ hR hw ?_
    first|exact ⟨_,⟨congrArg _ (zdf (fun e=>by subst e;exact absurd rfl zF)).symm,rfl⟩,zN⟩|exact ⟨_,⟨congrArg _ (decide_eq_decide.2 ⟨fun e=>sameFrame_eq (x:=x) (y:=y) (u8_eqL zF) zF zF (str_eqL zF) (str_eqL zF) zF e zF zF zF zF zF,fun e=>by rw [e]⟩),rfl⟩,zN⟩
  ·refine O.q 70 rfl<|O.nil<|S.ret results18 rfl fun w hw=>Holds.end_ hR hw ?_
   first|exact ⟨_,⟨congrArg _ (zdf (fun e=>by subst e;exact absurd rfl zF)).symm,rfl⟩,zN⟩|exact ⟨_,⟨congrArg _ (decide_eq_decide.2 ⟨fun e=>sameFrame_eq (x:=x) (y:=y) (u8_eqL zF) zF zF (str_eqL zF) (str_eqL zF) zF e zF zF zF zF zF,fun e=>by rw [e]⟩),rfl⟩,zN⟩
 ·refine O.q 77 rfl<|O.nil<|S.ret results18 rfl fun w hw=>Holds.end_ hR hw ?_
  first|exact ⟨_,⟨congrArg _ (zdf (fun e=>by subst e;exact absurd rfl zF)).symm,rfl⟩,zN⟩|exact ⟨_,⟨congrArg _ (decide_eq_decide.2 ⟨fun e=>sameFrame_eq (x:=x) (y:=y) (u8_eqL zF) zF zF (str_eqL zF) (str_eqL zF) zF e zF zF zF zF zF,fun e=>by rw [e]⟩),rfl⟩,zN⟩
def marks2 (n:Nat):List UInt8:=(List.range n).map fun (i:Nat)=>markB 2 (i:Int)
@[simp] theorem marks2_length (n:Nat):(marks2 n).length=n:=by simp [marks2]
def rowMarks (n:Nat):List (List UInt8):=(List.range n).map fun (i:Nat)=>markT 1 (i:Int)
@[simp] theorem rowMarks_length (n:Nat):(rowMarks n).length=n:=by simp [rowMarks]
def ArrW_q (v:Value) (xs:List UInt8):SProp:=fun m=>Arr Rp.u8 m v xs
abbrev tys:Tys:=⟨5,3,22,115,118,120,122,35,31,27,38,41,255⟩
theorem getPull_c {r:Fr} {b rd:Nat} {y0 y1 y2 y3 y4 y5 y6 y7 y8 y9 y10 y11 y12 y13 y14 y15 y16 y17 y18 y19 y20 y21 y22 y23 y24 y25 y26 y27 y28:Value} {s:RS}:Con prog 145 #[.pointer (some ⟨b,0,none⟩)] r [obj b 129 [y0,y1,y2,y3,y4,y5,y6,y7,y8,y9,y10,y11,y12,y13,y14,y15,y16,y17,y18,y19,y20,y21,y22,y23,y24,y25,y26,y27,y28,.pointer (some ⟨rd,0,none⟩)],RdP 196 rd s]
  (Ret fun v η=>v=.tuple #[]∧η=[obj b 129 [y0,y1,.int .i64 s.num.1,y3,y4,y5,y6,y7,y8,y9,y10,y11,y12,y13,y14,y15,y16,y17,y18,y19,y20,y21,y22,y23,y24,y25,y26,y27,y28,.pointer (some ⟨rd,0,none⟩)],RdP 196 rd s.num.2]):=by
 refine Con.o func145 fun g hg R hR=>?_;refine zz 6 ?_;refine O.vS (.p rfl) rfl zB rfl rfl zD rdNumber_c<|zz 4 ?_;refine O.nil<|S.objIs (b:=b) (cs' :=[y0,y1,.int .i64 s.num.1,y3,y4,y5,y6,y7,y8,y9,y10,y11,y12,y13,y14,y15,y16,y17,y18,y19,y20,y21,y22,y23,y24,y25,y26,y27,y28,.pointer (some ⟨rd,0,none⟩)]) zD rfl ?_;refine S.end0 results145 fun w hw=>Holds.end_ hR hw ?_;exact pk ⟨rfl,rfl⟩
end Go.Proofs.YtdjoggpacmpfnaaGreatDoor
