/- Texts of this proof. -/
import Derived.Test.YtdjoggpacmpfnaaGreatDoorQFrame7
import Derived.Test.YtdjoggpacmpfnaaGreatDoorQSpCall
open Go Go.Sp Go.Proofs.Tryz
set_option maxRecDepth 100000
set_option maxHeartbeats 1000000
attribute [local irreducible] obj Own OwnP
namespace Go.Proofs.YtdjoggpacmpfnaaGreatDoor
theorem lessPull_c {r:Fr} {b:Nat} {c0 c1 c2 c3 c4 c5 c6 c7 c8 c9 c10 c11 c12 c13 c14 c15 c16 c17 c18 c19 c20 c21 c22 c23 c24 c25 c26 c27 c28 y:Value}:Con prog 146 #[.pointer (some ⟨b,0,none⟩)] r [obj b 129 [c0,c1,c2,c3,c4,c5,c6,c7,c8,c9,c10,c11,c12,c13,c14,c15,c16,c17,c18,c19,c20,c21,c22,c23,c24,c25,c26,c27,c28,y]] (Ret fun v η=>v=.tuple #[]∧η=[obj b 129 [c0,c1,.int .i64 0,c3,c4,c5,c6,c7,c8,c9,c10,c11,c12,c13,c14,c15,c16,c17,c18,c19,c20,c21,c22,c23,c24,c25,c26,c27,c28,y]]):=by
 refine Con.o func146 fun g hg R hR=>?_;refine zz 6 ?_;refine O.nil<|S.objIs (b:=b) (cs' :=[c0,c1,.int .i64 0,c3,c4,c5,c6,c7,c8,c9,c10,c11,c12,c13,c14,c15,c16,c17,c18,c19,c20,c21,c22,c23,c24,c25,c26,c27,c28,y]) zC rfl ?_;refine S.end0 results146 fun w hw=>Holds.end_ hR hw ?_;exact pk ⟨rfl,rfl⟩
theorem lessOffer_c {r:Fr} {b:Nat} {c0 c1 c2 c3 c4 c5 c6 c7 c8 c9 c10 c11 c12 c13 c14 c15 c16 c17 c18 c19 c20 c21 c22 c23 c24 c25 c26 c27 c28 y:Value}:Con prog 149 #[.pointer (some ⟨b,0,none⟩)] r [obj b 129 [c0,c1,c2,c3,c4,c5,c6,c7,c8,c9,c10,c11,c12,c13,c14,c15,c16,c17,c18,c19,c20,c21,c22,c23,c24,c25,c26,c27,c28,y]] (Ret fun v η=>v=.tuple #[]∧η=[obj b 129 [c0,c1,c2,c3,c4,.int .i64 0,.int .i64 0,.int .i64 0,.slice none 0 0,.slice none 0 0,.slice none 0 0,c11,c12,c13,c14,c15,c16,c17,c18,c19,c20,c21,c22,c23,c24,c25,c26,c27,c28,y]]):=by
 refine Con.o func149 fun g hg R hR=>?_;refine zz 3 ?_;refine O.op (.p rfl) (.build (cs:=[_,_,_,_,_]) underlying27 rfl rfl rfl rfl rfl)<|zz 8 ?_;refine O.nil<|S.objIs (b:=b) (cs' :=[c0,c1,c2,c3,c4,.int .i64 0,.int .i64 0,.int .i64 0,.slice none 0 0,.slice none 0 0,.slice none 0 0,c11,c12,c13,c14,c15,c16,c17,c18,c19,c20,c21,c22,c23,c24,c25,c26,c27,c28,y]) zC rfl ?_;refine S.end0 results149 fun w hw=>Holds.end_ hR hw ?_;exact pk ⟨rfl,rfl⟩
theorem lessAsk_c {r:Fr} {b:Nat} {c0 c1 c2 c3 c4 c5 c6 c7 c8 c9 c10 c11 c12 c13 c14 c15 c16 c17 c18 c19 c20 c21 c22 c23 c24 c25 c26 c27 c28 y:Value}:Con prog 152 #[.pointer (some ⟨b,0,none⟩)] r [obj b 129 [c0,c1,c2,c3,c4,c5,c6,c7,c8,c9,c10,c11,c12,c13,c14,c15,c16,c17,c18,c19,c20,c21,c22,c23,c24,c25,c26,c27,c28,y]] (Ret fun v η=>v=.tuple #[]∧η=[obj b 129 [c0,c1,c2,c3,.string ⟨#[]⟩,c5,c6,c7,c8,c9,c10,c11,c12,c13,c14,c15,c16,c17,c18,c19,c20,c21,c22,c23,c24,c25,c26,c27,c28,y]]):=by
 refine Con.o func152 fun g hg R hR=>?_;refine zz 6 ?_;refine O.nil<|S.objIs (b:=b) (cs' :=[c0,c1,c2,c3,.string ⟨#[]⟩,c5,c6,c7,c8,c9,c10,c11,c12,c13,c14,c15,c16,c17,c18,c19,c20,c21,c22,c23,c24,c25,c26,c27,c28,y]) zC rfl ?_;refine S.end0 results152 fun w hw=>Holds.end_ hR hw ?_;exact pk ⟨rfl,rfl⟩
theorem lessNode_c {r:Fr} {b:Nat} {c0 c1 c2 c3 c4 c5 c6 c7 c8 c9 c10 c11 c12 c13 c14 c15 c16 c17 c18 c19 c20 c21 c22 c23 c24 c25 c26 c27 c28 y:Value}:Con prog 155 #[.pointer (some ⟨b,0,none⟩)] r [obj b 129 [c0,c1,c2,c3,c4,c5,c6,c7,c8,c9,c10,c11,c12,c13,c14,c15,c16,c17,c18,c19,c20,c21,c22,c23,c24,c25,c26,c27,c28,y]] (Ret fun v η=>v=.tuple #[]∧η=[obj b 129 [c0,c1,c2,c3,.string ⟨#[]⟩,c5,c6,c7,c8,c9,c10,c11,c12,.int .u8 0,.slice none 0 0,.slice none 0 0,.slice none 0 0,c17,c18,c19,c20,c21,c22,c23,c24,c25,c26,c27,c28,y]]):=by
 refine Con.o func155 fun g hg R hR=>?_;refine zz 3 ?_;refine O.op (.p rfl) (.build (cs:=[_,_,_,_]) underlying35 rfl rfl rfl rfl rfl)<|zz 8 ?_;refine O.nil<|S.objIs (b:=b) (cs' :=[c0,c1,c2,c3,.string ⟨#[]⟩,c5,c6,c7,c8,c9,c10,c11,c12,.int .u8 0,.slice none 0 0,.slice none 0 0,.slice none 0 0,c17,c18,c19,c20,c21,c22,c23,c24,c25,c26,c27,c28,y]) zC rfl ?_;refine S.end0 results155 fun w hw=>Holds.end_ hR hw ?_;exact pk ⟨rfl,rfl⟩
theorem lessPut_c {r:Fr} {b:Nat} {c0 c1 c2 c3 c4 c5 c6 c7 c8 c9 c10 c11 c12 c13 c14 c15 c16 c17 c18 c19 c20 c21 c22 c23 c24 c25 c26 c27 c28 y:Value}:Con prog 158 #[.pointer (some ⟨b,0,none⟩)] r [obj b 129 [c0,c1,c2,c3,c4,c5,c6,c7,c8,c9,c10,c11,c12,c13,c14,c15,c16,c17,c18,c19,c20,c21,c22,c23,c24,c25,c26,c27,c28,y]] (Ret fun v η=>v=.tuple #[]∧η=[obj b 129 [c0,c1,c2,c3,c4,c5,c6,c7,c8,c9,c10,c11,c12,c13,c14,c15,c16,.slice none 0 0,c18,c19,c20,c21,c22,c23,c24,c25,c26,c27,c28,y]]):=by
 refine Con.o func158 fun g hg R hR=>?_;refine zz 6 ?_;refine O.nil<|S.objIs (b:=b) (cs' :=[c0,c1,c2,c3,c4,c5,c6,c7,c8,c9,c10,c11,c12,c13,c14,c15,c16,.slice none 0 0,c18,c19,c20,c21,c22,c23,c24,c25,c26,c27,c28,y]) zC rfl ?_;refine S.end0 results158 fun w hw=>Holds.end_ hR hw ?_;exact pk ⟨rfl,rfl⟩
theorem lessAck_c {r:Fr} {b:Nat} {c0 c1 c2 c3 c4 c5 c6 c7 c8 c9 c10 c11 c12 c13 c14 c15 c16 c17 c18 c19 c20 c21 c22 c23 c24 c25 c26 c27 c28 y:Value}:Con prog 161 #[.pointer (some ⟨b,0,none⟩)] r [obj b 129 [c0,c1,c2,c3,c4,c5,c6,c7,c8,c9,c10,c11,c12,c13,c14,c15,c16,c17,c18,c19,c20,c21,c22,c23,c24,c25,c26,c27,c28,y]] (Ret fun v η=>v=.tuple #[]∧η=[obj b 129 [c0,c1,c2,c3,c4,c5,c6,c7,c8,c9,c10,c11,c12,c13,c14,c15,c16,c17,c18,c19,c20,c21,c22,c23,c24,c25,c26,c27,.int .i64 0,y]]):=by
 refine Con.o func161 fun g hg R hR=>?_;refine zz 6 ?_;refine O.nil<|S.objIs (b:=b) (cs' :=[c0,c1,c2,c3,c4,c5,c6,c7,c8,c9,c10,c11,c12,c13,c14,c15,c16,c17,c18,c19,c20,c21,c22,c23,c24,c25,c26,c27,.int .i64 0,y]) zC rfl ?_;refine S.end0 results161 fun w hw=>Holds.end_ hR hw ?_;exact pk ⟨rfl,rfl⟩
theorem lessGet_c {r:Fr} {b:Nat} {c0 c1 c2 c3 c4 c5 c6 c7 c8 c9 c10 c11 c12 c13 c14 c15 c16 c17 c18 c19 c20 c21 c22 c23 c24 c25 c26 c27 c28 y:Value}:Con prog 164 #[.pointer (some ⟨b,0,none⟩)] r [obj b 129 [c0,c1,c2,c3,c4,c5,c6,c7,c8,c9,c10,c11,c12,c13,c14,c15,c16,c17,c18,c19,c20,c21,c22,c23,c24,c25,c26,c27,c28,y]] (Ret fun v η=>v=.tuple #[]∧η=[obj b 129 [c0,c1,c2,.string ⟨#[]⟩,c4,c5,c6,c7,c8,c9,c10,c11,c12,c13,c14,c15,c16,c17,c18,c19,c20,c21,c22,c23,c24,c25,c26,c27,c28,y]]):=by
 refine Con.o func164 fun g hg R hR=>?_;refine zz 6 ?_;refine O.nil<|S.objIs (b:=b) (cs' :=[c0,c1,c2,.string ⟨#[]⟩,c4,c5,c6,c7,c8,c9,c10,c11,c12,c13,c14,c15,c16,c17,c18,c19,c20,c21,c22,c23,c24,c25,c26,c27,c28,y]) zC rfl ?_;refine S.end0 results164 fun w hw=>Holds.end_ hR hw ?_;exact pk ⟨rfl,rfl⟩
theorem lessGot_c {r:Fr} {b:Nat} {c0 c1 c2 c3 c4 c5 c6 c7 c8 c9 c10 c11 c12 c13 c14 c15 c16 c17 c18 c19 c20 c21 c22 c23 c24 c25 c26 c27 c28 y:Value}:Con prog 167 #[.pointer (some ⟨b,0,none⟩)] r [obj b 129 [c0,c1,c2,c3,c4,c5,c6,c7,c8,c9,c10,c11,c12,c13,c14,c15,c16,c17,c18,c19,c20,c21,c22,c23,c24,c25,c26,c27,c28,y]] (Ret fun v η=>v=.tuple #[]∧η=[obj b 129 [c0,c1,c2,.string ⟨#[]⟩,c4,.int .i64 0,.int .i64 0,.int .i64 0,.slice none 0 0,.slice none 0 0,c10,.slice none 0 0,.slice none 0 0,c13,c14,c15,c16,.slice none 0 0,c18,c19,c20,c21,c22,c23,c24,c25,c26,c27,c28,y]]):=by
 refine Con.o func167 fun g hg R hR=>?_;refine zz 5 ?_;refine O.op (.p rfl) (.build (cs:=[_,_,_,_,_]) underlying27 rfl rfl rfl rfl rfl)<|O.op (.p rfl) (.build (cs:=[_,_]) underlying31 rfl rfl rfl rfl rfl)<|zz 16 ?_;refine O.nil<|S.objIs (b:=b) (cs' :=[c0,c1,c2,.string ⟨#[]⟩,c4,.int .i64 0,.int .i64 0,.int .i64 0,.slice none 0 0,.slice none 0 0,c10,.slice none 0 0,.slice none 0 0,c13,c14,c15,c16,.slice none 0 0,c18,c19,c20,c21,c22,c23,c24,c25,c26,c27,c28,y]) zC rfl ?_;refine S.end0 results167 fun w hw=>Holds.end_ hR hw ?_;exact pk ⟨rfl,rfl⟩
theorem lessEvidence_c {r:Fr} {b:Nat} {c0 c1 c2 c3 c4 c5 c6 c7 c8 c9 c10 c11 c12 c13 c14 c15 c16 c17 c18 c19 c20 c21 c22 c23 c24 c25 c26 c27 c28 y:Value}:Con prog 170 #[.pointer (some ⟨b,0,none⟩)] r [obj b 129 [c0,c1,c2,c3,c4,c5,c6,c7,c8,c9,c10,c11,c12,c13,c14,c15,c16,c17,c18,c19,c20,c21,c22,c23,c24,c25,c26,c27,c28,y]] (Ret fun v η=>v=.tuple #[]∧η=[obj b 129 [c0,c1,c2,c3,c4,c5,c6,c7,c8,c9,c10,c11,c12,c13,c14,c15,c16,c17,.int .i64 0,.int .i64 0,.int .i64 0,.slice none 0 0,.slice none 0 0,.int .i64 0,.int .i64 0,.int .i64 0,.slice none 0 0,.slice none 0 0,c28,y]]):=by
 refine Con.o func170 fun g hg R hR=>?_;refine zz 2 ?_;refine O.op (.p rfl) (.build (cs:=[_,_,_,_,_,_,_,_,_,_]) underlying38 rfl rfl rfl rfl rfl)<|zz 4 ?_;refine O.nil<|S.objIs (b:=b) (cs' :=[c0,c1,c2,c3,c4,c5,c6,c7,c8,c9,c10,c11,c12,c13,c14,c15,c16,c17,.int .i64 0,.int .i64 0,.int .i64 0,.slice none 0 0,.slice none 0 0,.int .i64 0,.int .i64 0,.int .i64 0,.slice none 0 0,.slice none 0 0,c28,y]) zC rfl ?_;refine S.end0 results170 fun w hw=>Holds.end_ hR hw ?_;exact pk ⟨rfl,rfl⟩
theorem triedB_ret {g:Gr} {bt bx:Nat} {x:Value} {T' :TypeId} {w:World} {R:Ending→World→Prop} {η:List SProp} (hw:Holds w g (obj bx T' [x]::η)) (hR:∀ w,Holds w g (obj bx T' [x]::η)→R (.returned x) w) :
  CallsD prog 229 #[.pointer (some ⟨bt,0,none⟩),.pointer (some ⟨bx,0,none⟩)] .returning w (DPost g bx R):=by
 refine (callsD_rec (R:=fun e w=>(∃ v,e=.returned v)∧Holds w g (obj bx T' [x]::η)) [.pointer (some ⟨bt,0,none⟩),.pointer (some ⟨bx,0,none⟩)] rfl func229 rfl rfl rfl rfl hw ?_).mono ?_
 rotate_left
 ·rintro e u' w' ⟨rfl,⟨v,rfl⟩,h⟩
  exact ⟨⟨v,rfl⟩,rfl,T',x,η,h,hR w' h⟩
 refine S.seq<|S.region rfl<|O.q 1 rfl<|O.op (.p rfl) (.neqIN underlying20 rfl)<|O.nil<|S.condF rfl<|S.skip<|S.end0 results229 fun w hw=>?_;exact ⟨⟨_,rfl⟩,hw⟩
theorem triedB_pan {g:Gr} {bt bx b:Nat} {v x:Value} {made bad:Bool} {T' Tt:TypeId} {w:World} {R:Ending→World→Prop} {η:List SProp} (hw:Holds w g (obj bx T' [x]::obj bt Tt [.pointer (some ⟨b,0,none⟩)]::obj b 196 [v,.bool made,.bool bad]::η))
  (hR:∀ w,Holds w g (obj bx T' [.int .u8 0]::obj b 196 [v,.bool made,.bool true]::η)→R (.returned (.int .u8 0)) w) :
  CallsD prog 229 #[.pointer (some ⟨bt,0,none⟩),.pointer (some ⟨bx,0,none⟩)] (.panicking missing) w (DPost g bx R):=by
 refine (callsD_rec (R:=fun e w=>(∃ v,e=.returned v)∧Holds w g (obj bx T' [.int .u8 0]::obj b 196 [v,.bool made,.bool true]::η)) [.pointer (some ⟨bt,0,none⟩),.pointer (some ⟨bx,0,none⟩)] rfl func229 rfl rfl rfl rfl hw ?_).mono ?_
 rotate_left
 ·rintro e u' w' ⟨rfl,⟨v,rfl⟩,h⟩
  exact ⟨⟨v,rfl⟩,rfl,T',_,_,h,hR w' h⟩
 refine zz 3 ?_;refine O.op (.p rfl) (.neqIV underlying20 rfl)<|zz 6 ?_;refine O.op (.p rfl) (.assertYes underlying284 rfl)<|zz 3 ?_;refine O.opE (.p rfl) (.alloc (cs:=[]) zeroValue284 rfl) ?_;rintro _ _ ⟨b3,rfl,rfl⟩;refine zz 24 ?_;refine O.nil<|S.end0 results229 fun w hw=>?_;exact ⟨⟨_,rfl⟩,hw.picks zM⟩
theorem triedB_c {r:Fr} {b f:Nat} {v:Value} {made bad:Bool} {first cap:Array Value} {K:Value→Value→List SProp→Prop} {X:Value→Prop} (hc:callable prog f=true) (hK1:∀ u v' ζ,K u v' ζ→u.oneCell' =true)
  (con:made=true→bad=false→Con prog f (first++#[]++cap) r [obj b 196 [v,.bool true,.bool false]] (RetP (fun u η=>∃ v' ζ,K u v' ζ∧η=obj b 196 [v',.bool true,.bool false]::ζ) (fun ch η=>ch=missing∧∃ v',X v' ∧η=[obj b 196 [v',.bool true,.bool false]]))) :
  Con prog 140 #[.pointer (some ⟨b,0,none⟩),.func (.func f) first cap] r [obj b 196 [v,.bool made,.bool bad]] (Ret fun u η =>
   ((made && !bad)=false∧u=.int .u8 0∧η=[obj b 196 [v,.bool made,.bool bad]])∨(made=true∧bad=false∧∃ v' ζ,K u v' ζ∧η=obj b 196 [v',.bool true,.bool false]::ζ) ∨
   (made=true∧bad=false∧∃ v',X v' ∧u=.int .u8 0∧η=[obj b 196 [v',.bool true,.bool true]])):=by
 refine Con.of (n:=12) [.pointer (some ⟨b,0,none⟩),.func (.func f) first cap] rfl func140 rfl rfl rfl fun g hg R hR=>?_;refine S.seq<|S.region rfl<|O.opE (.p rfl) (.box (cs:=[_]) rfl rfl) ?_;rintro _ _ ⟨b2,rfl,rfl⟩;refine O.opE (.p rfl) (.alloc (cs:=[.int .u8 0]) zeroValue5 rfl) ?_;rintro _ _ ⟨b4,rfl,rfl⟩;refine zz 5 ?_;refine O.vS (.p rfl) rfl zB rfl rfl zC rGood_c ?_;refine O.op (.p rfl) ((by first|exact .notD rfl|exact .not rfl))<|zz 1 ?_;refine S.cd rfl (fun h7=>?_) fun h7=>?_
 ·refine zz 4 ?_
  refine O.nil<|S.retCell results140 flat5 rfl zC fun w hw=>Holds.end_ hR hw ?_;exact pk (.inl ⟨by revert h7;cases made<;>cases bad<;>simp,rfl,rfl⟩)
 ·obtain ⟨rfl,rfl⟩:made=true∧bad=false:=by revert h7;cases made<;>cases bad<;>simp
  refine zz 4 ?_;refine O.defer rfl rfl rfl rfl<|zz 4 ?_;refine O.callPSD (.p rfl) rfl hc rfl rfl zC ((con rfl rfl).sub hg) (fun a ch η' w hF hX hW=>by (obtain ⟨rfl,v',hX',rfl⟩:=hX;exact leavesCell results140 flat5 hF rfl zG zB (triedB_pan (hW.picks zM) fun w hw=>Holds.end_ hR hw ⟨_,.inr (.inr ⟨rfl,rfl,v',hX',rfl,rfl⟩),zM⟩))) ?_;rintro v11 _ ⟨v',ζ,hK,rfl⟩;have hone:=hK1 _ _ _ hK;refine O.perm (List.Perm.cons _ List.perm_append_comm) ?_;simp only [List.cons_append,List.nil_append];refine zz 1 ?_;refine O.nil<|S.retL fun a w hf hd hw=>?_;exact leavesCell results140 flat5 hf rfl zG zB (triedB_ret hw fun w hw=>Holds.end_ hR hw ⟨_,.inr (.inl ⟨rfl,rfl,v',ζ,hK,rfl⟩),zM⟩)
theorem triedI_ret {g:Gr} {bt bx:Nat} {x:Value} {T' :TypeId} {w:World} {R:Ending→World→Prop} {η:List SProp} (hw:Holds w g (obj bx T' [x]::η)) (hR:∀ w,Holds w g (obj bx T' [x]::η)→R (.returned x) w) :
  CallsD prog 231 #[.pointer (some ⟨bt,0,none⟩),.pointer (some ⟨bx,0,none⟩)] .returning w (DPost g bx R):=by
 refine (callsD_rec (R:=fun e w=>(∃ v,e=.returned v)∧Holds w g (obj bx T' [x]::η)) [.pointer (some ⟨bt,0,none⟩),.pointer (some ⟨bx,0,none⟩)] rfl func231 rfl rfl rfl rfl hw ?_).mono ?_
 rotate_left
 ·rintro e u' w' ⟨rfl,⟨v,rfl⟩,h⟩
  exact ⟨⟨v,rfl⟩,rfl,T',x,η,h,hR w' h⟩
 refine S.seq<|S.region rfl<|O.q 1 rfl<|O.op (.p rfl) (.neqIN underlying20 rfl)<|O.nil<|S.condF rfl<|S.skip<|S.end0 results231 fun w hw=>?_;exact ⟨⟨_,rfl⟩,hw⟩
theorem triedI_pan {g:Gr} {bt bx b:Nat} {v x:Value} {made bad:Bool} {T' Tt:TypeId} {w:World} {R:Ending→World→Prop} {η:List SProp} (hw:Holds w g (obj bx T' [x]::obj bt Tt [.pointer (some ⟨b,0,none⟩)]::obj b 196 [v,.bool made,.bool bad]::η))
  (hR:∀ w,Holds w g (obj bx T' [.int .i64 0]::obj b 196 [v,.bool made,.bool true]::η)→R (.returned (.int .i64 0)) w) :
  CallsD prog 231 #[.pointer (some ⟨bt,0,none⟩),.pointer (some ⟨bx,0,none⟩)] (.panicking missing) w (DPost g bx R):=by
 refine (callsD_rec (R:=fun e w=>(∃ v,e=.returned v)∧Holds w g (obj bx T' [.int .i64 0]::obj b 196 [v,.bool made,.bool true]::η)) [.pointer (some ⟨bt,0,none⟩),.pointer (some ⟨bx,0,none⟩)] rfl func231 rfl rfl rfl rfl hw ?_).mono ?_
 rotate_left
 ·rintro e u' w' ⟨rfl,⟨v,rfl⟩,h⟩
  exact ⟨⟨v,rfl⟩,rfl,T',_,_,h,hR w' h⟩
 refine zz 3 ?_;refine O.op (.p rfl) (.neqIV underlying20 rfl)<|zz 6 ?_;refine O.op (.p rfl) (.assertYes underlying284 rfl)<|zz 3 ?_;refine O.opE (.p rfl) (.alloc (cs:=[]) zeroValue284 rfl) ?_;rintro _ _ ⟨b3,rfl,rfl⟩;refine zz 24 ?_;refine O.nil<|S.end0 results231 fun w hw=>?_;exact ⟨⟨_,rfl⟩,hw.picks zM⟩
theorem triedI_c {r:Fr} {b f:Nat} {v:Value} {made bad:Bool} {first cap:Array Value} {K:Value→Value→List SProp→Prop} {X:Value→Prop} (hc:callable prog f=true) (hK1:∀ u v' ζ,K u v' ζ→u.oneCell' =true)
  (con:made=true→bad=false→Con prog f (first++#[]++cap) r [obj b 196 [v,.bool true,.bool false]] (RetP (fun u η=>∃ v' ζ,K u v' ζ∧η=obj b 196 [v',.bool true,.bool false]::ζ) (fun ch η=>ch=missing∧∃ v',X v' ∧η=[obj b 196 [v',.bool true,.bool false]]))) :
  Con prog 142 #[.pointer (some ⟨b,0,none⟩),.func (.func f) first cap] r [obj b 196 [v,.bool made,.bool bad]] (Ret fun u η =>
   ((made && !bad)=false∧u=.int .i64 0∧η=[obj b 196 [v,.bool made,.bool bad]])∨(made=true∧bad=false∧∃ v' ζ,K u v' ζ∧η=obj b 196 [v',.bool true,.bool false]::ζ) ∨
   (made=true∧bad=false∧∃ v',X v' ∧u=.int .i64 0∧η=[obj b 196 [v',.bool true,.bool true]])):=by
 refine Con.of (n:=12) [.pointer (some ⟨b,0,none⟩),.func (.func f) first cap] rfl func142 rfl rfl rfl fun g hg R hR=>?_;refine S.seq<|S.region rfl<|O.opE (.p rfl) (.box (cs:=[_]) rfl rfl) ?_;rintro _ _ ⟨b2,rfl,rfl⟩;refine O.opE (.p rfl) (.alloc (cs:=[.int .i64 0]) zeroValue3 rfl) ?_;rintro _ _ ⟨b4,rfl,rfl⟩;refine zz 5 ?_;refine O.vS (.p rfl) rfl zB rfl rfl zC rGood_c ?_;refine O.op (.p rfl) ((by first|exact .notD rfl|exact .not rfl))<|zz 1 ?_;refine S.cd rfl (fun h7=>?_) fun h7=>?_
 ·refine zz 4 ?_
  refine O.nil<|S.retCell results142 flat3 rfl zC fun w hw=>Holds.end_ hR hw ?_;exact pk (.inl ⟨by revert h7;cases made<;>cases bad<;>simp,rfl,rfl⟩)
 ·obtain ⟨rfl,rfl⟩:made=true∧bad=false:=by revert h7;cases made<;>cases bad<;>simp
  refine zz 4 ?_;refine O.defer rfl rfl rfl rfl<|zz 4 ?_;refine O.callPSD (.p rfl) rfl hc rfl rfl zC ((con rfl rfl).sub hg) (fun a ch η' w hF hX hW=>by (obtain ⟨rfl,v',hX',rfl⟩:=hX;exact leavesCell results142 flat3 hF rfl zG zB (triedI_pan (hW.picks zM) fun w hw=>Holds.end_ hR hw ⟨_,.inr (.inr ⟨rfl,rfl,v',hX',rfl,rfl⟩),zM⟩))) ?_;rintro v11 _ ⟨v',ζ,hK,rfl⟩;have hone:=hK1 _ _ _ hK;refine O.perm (List.Perm.cons _ List.perm_append_comm) ?_;simp only [List.cons_append,List.nil_append];refine zz 1 ?_;refine O.nil<|S.retL fun a w hf hd hw=>?_;exact leavesCell results142 flat3 hf rfl zG zB (triedI_ret hw fun w hw=>Holds.end_ hR hw ⟨_,.inr (.inl ⟨rfl,rfl,v',ζ,hK,rfl⟩),zM⟩)
theorem triedS_ret {g:Gr} {bt bx:Nat} {x:Value} {T' :TypeId} {w:World} {R:Ending→World→Prop} {η:List SProp} (hw:Holds w g (obj bx T' [x]::η)) (hR:∀ w,Holds w g (obj bx T' [x]::η)→R (.returned x) w) :
  CallsD prog 330 #[.pointer (some ⟨bt,0,none⟩),.pointer (some ⟨bx,0,none⟩)] .returning w (DPost g bx R):=by
 refine (callsD_rec (R:=fun e w=>(∃ v,e=.returned v)∧Holds w g (obj bx T' [x]::η)) [.pointer (some ⟨bt,0,none⟩),.pointer (some ⟨bx,0,none⟩)] rfl func330 rfl rfl rfl rfl hw ?_).mono ?_
 rotate_left
 ·rintro e u' w' ⟨rfl,⟨v,rfl⟩,h⟩
  exact ⟨⟨v,rfl⟩,rfl,T',x,η,h,hR w' h⟩
 refine S.seq<|S.region rfl<|O.q 1 rfl<|O.op (.p rfl) (.neqIN underlying20 rfl)<|O.nil<|S.condF rfl<|S.skip<|S.end0 results330 fun w hw=>?_;exact ⟨⟨_,rfl⟩,hw⟩
theorem triedS_pan {g:Gr} {bt bx b:Nat} {v x:Value} {made bad:Bool} {T' Tt:TypeId} {w:World} {R:Ending→World→Prop} {η:List SProp} (hw:Holds w g (obj bx T' [x]::obj bt Tt [.pointer (some ⟨b,0,none⟩)]::obj b 196 [v,.bool made,.bool bad]::η))
  (hR:∀ w,Holds w g (obj bx T' [.slice none 0 0]::obj b 196 [v,.bool made,.bool true]::η)→R (.returned (.slice none 0 0)) w) :
  CallsD prog 330 #[.pointer (some ⟨bt,0,none⟩),.pointer (some ⟨bx,0,none⟩)] (.panicking missing) w (DPost g bx R):=by
 refine (callsD_rec (R:=fun e w=>(∃ v,e=.returned v)∧Holds w g (obj bx T' [.slice none 0 0]::obj b 196 [v,.bool made,.bool true]::η)) [.pointer (some ⟨bt,0,none⟩),.pointer (some ⟨bx,0,none⟩)] rfl func330 rfl rfl rfl rfl hw ?_).mono ?_
 rotate_left
 ·rintro e u' w' ⟨rfl,⟨v,rfl⟩,h⟩
  exact ⟨⟨v,rfl⟩,rfl,T',_,_,h,hR w' h⟩
 refine zz 3 ?_;refine O.op (.p rfl) (.neqIV underlying20 rfl)<|zz 6 ?_;refine O.op (.p rfl) (.assertYes underlying284 rfl)<|zz 3 ?_;refine O.opE (.p rfl) (.alloc (cs:=[]) zeroValue284 rfl) ?_;rintro _ _ ⟨b3,rfl,rfl⟩;refine zz 24 ?_;refine O.nil<|S.end0 results330 fun w hw=>?_;exact ⟨⟨_,rfl⟩,hw.picks zM⟩
theorem triedS_c {r:Fr} {b f:Nat} {v:Value} {made bad:Bool} {first cap:Array Value} {K:Value→Value→List SProp→Prop} {X:Value→Prop} (hc:callable prog f=true) (hK1:∀ u v' ζ,K u v' ζ→u.oneCell' =true)
  (con:made=true→bad=false→Con prog f (first++#[]++cap) r [obj b 196 [v,.bool true,.bool false]] (RetP (fun u η=>∃ v' ζ,K u v' ζ∧η=obj b 196 [v',.bool true,.bool false]::ζ) (fun ch η=>ch=missing∧∃ v',X v' ∧η=[obj b 196 [v',.bool true,.bool false]]))) :
  Con prog 303 #[.pointer (some ⟨b,0,none⟩),.func (.func f) first cap] r [obj b 196 [v,.bool made,.bool bad]] (Ret fun u η =>
   ((made && !bad)=false∧u=.slice none 0 0∧η=[obj b 196 [v,.bool made,.bool bad]])∨(made=true∧bad=false∧∃ v' ζ,K u v' ζ∧η=obj b 196 [v',.bool true,.bool false]::ζ) ∨
   (made=true∧bad=false∧∃ v',X v' ∧u=.slice none 0 0∧η=[obj b 196 [v',.bool true,.bool true]])):=by
 refine Con.of (n:=12) [.pointer (some ⟨b,0,none⟩),.func (.func f) first cap] rfl func303 rfl rfl rfl fun g hg R hR=>?_;refine S.seq<|S.region rfl<|O.opE (.p rfl) (.box (cs:=[_]) rfl rfl) ?_;rintro _ _ ⟨b2,rfl,rfl⟩;refine O.opE (.p rfl) (.alloc (cs:=[.slice none 0 0]) zeroValue22 rfl) ?_;rintro _ _ ⟨b4,rfl,rfl⟩;refine zz 5 ?_;refine O.vS (.p rfl) rfl zB rfl rfl zC rGood_c ?_;refine O.op (.p rfl) ((by first|exact .notD rfl|exact .not rfl))<|zz 1 ?_;refine S.cd rfl (fun h7=>?_) fun h7=>?_
 ·refine zz 4 ?_
  refine O.nil<|S.retCell results303 flat22 rfl zC fun w hw=>Holds.end_ hR hw ?_;exact pk (.inl ⟨by revert h7;cases made<;>cases bad<;>simp,rfl,rfl⟩)
 ·obtain ⟨rfl,rfl⟩:made=true∧bad=false:=by revert h7;cases made<;>cases bad<;>simp
  refine zz 4 ?_;refine O.defer rfl rfl rfl rfl<|zz 4 ?_;refine O.callPSD (.p rfl) rfl hc rfl rfl zC ((con rfl rfl).sub hg) (fun a ch η' w hF hX hW=>by (obtain ⟨rfl,v',hX',rfl⟩:=hX;exact leavesCell results303 flat22 hF rfl zG zB (triedS_pan (hW.picks zM) fun w hw=>Holds.end_ hR hw ⟨_,.inr (.inr ⟨rfl,rfl,v',hX',rfl,rfl⟩),zM⟩))) ?_;rintro v11 _ ⟨v',ζ,hK,rfl⟩;have hone:=hK1 _ _ _ hK;refine O.perm (List.Perm.cons _ List.perm_append_comm) ?_;simp only [List.cons_append,List.nil_append];refine zz 1 ?_;refine O.nil<|S.retL fun a w hf hd hw=>?_;exact leavesCell results303 flat22 hf rfl zG zB (triedS_ret hw fun w hw=>Holds.end_ hR hw ⟨_,.inr (.inl ⟨rfl,rfl,v',ζ,hK,rfl⟩),zM⟩)
theorem count_c {r:Fr} {b T:Nat} {v:Value} {cs:List Value} {rest:List UInt8} (most:Int) (ha:Arr Rp.u8 r v rest) :
  Con prog 284 #[.pointer (some ⟨b,0,none⟩),.int .i64 most] r [obj b T (v::cs)]
   (RetP (fun u η=>8≤rest.length∧(0≤ofBe rest∧ofBe rest≤most)∧∃ v',u=.int .i64 (ofBe rest)∧Arr Rp.u8 r v' (rest.drop 8)∧η=[obj b T (v' ::cs)])
    (fun ch η=>ch=missing∧∃ v',(rest.length<8∧v' =v∨8≤rest.length∧¬(0≤ofBe rest∧ofBe rest≤most)∧Arr Rp.u8 r v' (rest.drop 8))∧η=[obj b T (v' ::cs)])):=by
 refine Con.o func284 fun g hg R hR=>?_;refine zz 7 ?_;refine O.callPS (.p rfl) rfl zB rfl rfl zC ((number_c ha).sub hg) (fun ch η' w hX hW=>by (obtain ⟨hb,rfl,rfl⟩:=hX;exact hR _ _ w ⟨rfl,v,.inl ⟨hb,rfl⟩,rfl⟩ hW)) ?_;rintro v7 _ ⟨hl7,v7,rfl,ha7,rfl⟩;refine zz 7 ?_
 refine O.cs 10 rfl (fun h10=>?_) fun h10=>?_
 ·refine zz 4 ?_
  refine O.callP0 (.p rfl) rfl zB rfl rfl (must_c _) (fun ch η' w hX hW=>by (obtain ⟨hb,rfl,rfl⟩:=hX;exact hR _ _ w ⟨rfl,v7,.inr ⟨hl7,by simp at hb;omega,ha7⟩,rfl⟩ hW)) ?_;rintro _ _ ⟨hb15,rfl,rfl⟩;refine zz 6 ?_;refine S.ret results284 rfl fun w hw=>hR _ _ w ?_ hw;exact ⟨hl7,by simp at hb15;omega,v7,rfl,ha7,rfl⟩
 ·refine O.q 4 rfl<|O.callP0 (.p rfl) rfl zB rfl rfl (must_c _) (fun ch η' w hX hW=>by (obtain ⟨hb,rfl,rfl⟩:=hX;exact hR _ _ w ⟨rfl,v7,.inr ⟨hl7,by omega,ha7⟩,rfl⟩ hW)) ?_
  rintro _ _ ⟨hb15,rfl,rfl⟩;exact absurd hb15 zG
def KNum (r:Fr) (rest:List UInt8) (u v' :Value) (ζ:List SProp):Prop:=8≤rest.length∧u=.int .i64 (ofBe rest)∧Arr Rp.u8 r v' (rest.drop 8)∧ζ=[]
theorem numberR {r:Fr} {b:Nat} {v:Value} {rest:List UInt8} (ha:Arr Rp.u8 r v rest) :
  Con prog 143 (#[.pointer (some ⟨b,0,none⟩)]++#[]++#[]) r [obj b 196 [v,.bool true,.bool false]]
   (RetP (fun u η=>∃ v' ζ,KNum r rest u v' ζ∧η=obj b 196 [v',.bool true,.bool false]::ζ) (fun ch η=>ch=missing∧∃ v',(rest.length<8∧v' =v)∧η=[obj b 196 [v',.bool true,.bool false]])) :=
 (number_c (T:=196) (cs:=[.bool true,.bool false]) ha).mono fun e η h=>by
  cases e with
  |returned u=>obtain ⟨h1,v',h2,h3,h4⟩:=h;exact ⟨v',[],⟨h1,h2,h3,rfl⟩,h4⟩
  |panicked ch=>obtain ⟨h1,h2,h3⟩:=h;exact ⟨h2,v,⟨h1,rfl⟩,h3⟩
  |outgrown=>exact h.elim
theorem rNumber_c {r:Fr} {b:Nat} {v:Value} {rest:List UInt8} {made bad:Bool} (ha:Arr Rp.u8 r v rest) :
  Con prog 70 #[.pointer (some ⟨b,0,none⟩)] r [obj b 196 [v,.bool made,.bool bad]]
   (Ret fun u η=>∃ v',u=.int .i64 (rNum (made && !bad) rest).1∧Arr Rp.u8 r v' (rNum (made && !bad) rest).2.1∧η=[obj b 196 [v',.bool made,.bool (bad ||(rNum (made && !bad) rest).2.2)]]):=by
 refine Con.o func70 fun g hg R hR=>?_;refine zz 8 ?_;refine O.op (.p rfl) (.eqlP underlying126 rfl rfl)<|zz 8 ?_;refine O.op (.p rfl) (.fieldAddr fld196x0 rfl)<|zz 1 ?_;refine O.callS (.p rfl) rfl zB rfl rfl zC ((triedI_c zB (K:=KNum r rest) (fun _ _ _ h=>by obtain ⟨_,rfl,_⟩:=h;rfl) fun _ _=>numberR ha).sub hg) ?_;rintro v10 _ h10;refine O.q 1 rfl<|O.nil<|S.ret results70 rfl fun w hw=>hR _ _ w ?_ hw
 rcases h10 with ⟨h1,rfl,rfl⟩|⟨rfl,rfl,v',ζ,⟨h1,rfl,h2,rfl⟩,rfl⟩|⟨rfl,rfl,v',⟨h1,rfl⟩,rfl,rfl⟩
 ·exact ⟨v,by simp [rNum,h1],by simpa [rNum,h1] using ha,by simp [rNum,h1]⟩
 ·exact ⟨v',by simp [rNum,h1],by simpa [rNum,h1] using h2,by simp [rNum,h1]⟩
 ·have h1:¬ 8≤rest.length:=by omega
  exact ⟨_,by simp [rNum,h1],by simpa [rNum,h1] using ha,by simp [rNum,h1]⟩
def KByte (r:Fr) (rest:List UInt8) (u v' :Value) (ζ:List SProp):Prop:=∃ x xs,rest=x::xs∧u=byteV x∧Arr Rp.u8 r v' xs∧ζ=[]
theorem oneR {r:Fr} {b:Nat} {v:Value} {rest:List UInt8} (ha:Arr Rp.u8 r v rest) :
  Con prog 141 (#[.pointer (some ⟨b,0,none⟩)]++#[]++#[]) r [obj b 196 [v,.bool true,.bool false]]
   (RetP (fun u η=>∃ v' ζ,KByte r rest u v' ζ∧η=obj b 196 [v',.bool true,.bool false]::ζ) (fun ch η=>ch=missing∧∃ v',(rest=[]∧v' =v)∧η=[obj b 196 [v',.bool true,.bool false]])) :=
 (one_c (T:=196) (cs:=[.bool true,.bool false]) ha).mono fun e η h=>by
  cases e with
  |returned u=>obtain ⟨x,xs,v',h1,h2,h3,h4⟩:=h;exact ⟨v',[],⟨x,xs,h1,h2,h3,rfl⟩,h4⟩
  |panicked ch=>obtain ⟨h1,h2,h3⟩:=h;exact ⟨h2,v,⟨h1,rfl⟩,h3⟩
  |outgrown=>exact h.elim
theorem rByte_c {r:Fr} {b:Nat} {v:Value} {rest:List UInt8} {made bad:Bool} (ha:Arr Rp.u8 r v rest) :
  Con prog 69 #[.pointer (some ⟨b,0,none⟩)] r [obj b 196 [v,.bool made,.bool bad]]
   (Ret fun u η=>∃ v',u=byteV (rByte (made && !bad) rest).1∧Arr Rp.u8 r v' (rByte (made && !bad) rest).2.1∧η=[obj b 196 [v',.bool made,.bool (bad ||(rByte (made && !bad) rest).2.2)]]):=by
 refine Con.o func69 fun g hg R hR=>?_;refine zz 8 ?_;refine O.op (.p rfl) (.eqlP underlying126 rfl rfl)<|zz 8 ?_;refine O.op (.p rfl) (.fieldAddr fld196x0 rfl)<|zz 1 ?_;refine O.callS (.p rfl) rfl zB rfl rfl zC ((triedB_c zB (K:=KByte r rest) (fun _ _ _ h=>by obtain ⟨_,_,_,rfl,_⟩:=h;rfl) fun _ _=>oneR ha).sub hg) ?_;rintro v10 _ h10;refine O.q 1 rfl<|O.nil<|S.ret results69 rfl fun w hw=>hR _ _ w ?_ hw
 rcases h10 with ⟨h1,rfl,rfl⟩|⟨rfl,rfl,v',ζ,⟨x,xs,rfl,rfl,h2,rfl⟩,rfl⟩|⟨rfl,rfl,v',⟨rfl,rfl⟩,rfl,rfl⟩
 ·exact ⟨v,by simp [rByte,h1,byteV],by simpa [rByte,h1] using ha,by simp [rByte,h1]⟩
 ·exact ⟨v',by simp [rByte],by simpa [rByte] using h2,by simp [rByte]⟩
 ·exact ⟨_,by simp [rByte,byteV],by simpa [rByte] using ha,by simp [rByte]⟩
def KCount (r:Fr) (most:Int) (rest:List UInt8) (u v' :Value) (ζ:List SProp):Prop:=8≤rest.length∧(0≤ofBe rest∧ofBe rest≤most)∧u=.int .i64 (ofBe rest)∧Arr Rp.u8 r v' (rest.drop 8)∧ζ=[]
def XCount (r:Fr) (most:Int) (v:Value) (rest:List UInt8) (v' :Value):Prop:=rest.length<8∧v' =v∨8≤rest.length∧¬(0≤ofBe rest∧ofBe rest≤most)∧Arr Rp.u8 r v' (rest.drop 8)
theorem count1_c {r0 r:Fr} {b bt bm:Nat} {v:Value} {rest:List UInt8} {most:Int} (hs:r0.sub r) (ha:Arr Rp.u8 r0 v rest) (ht:At r ⟨bt,0,none⟩ [.pointer (some ⟨b,0,none⟩)]) (hm:At r ⟨bm,0,none⟩ [.int .i64 most]) :
  Con prog 283 (#[]++#[]++#[.pointer (some ⟨bt,0,none⟩),.pointer (some ⟨bm,0,none⟩)]) r [obj b 196 [v,.bool true,.bool false]]
   (RetP (fun u η=>∃ v' ζ,KCount r0 most rest u v' ζ∧η=obj b 196 [v',.bool true,.bool false]::ζ) (fun ch η=>ch=missing∧∃ v',XCount r0 most v rest v' ∧η=[obj b 196 [v',.bool true,.bool false]])):=by
 refine Con.of (n:=8) [.pointer (some ⟨bt,0,none⟩),.pointer (some ⟨bm,0,none⟩)] rfl func283 rfl rfl rfl fun g hg R hR=>?_;have ht:=ht.mono hg;have hm:=hm.mono hg;refine zz 5 ?_;refine S.regionD (L:=.range 6) F.mixed zB ?_;refine zz 4 ?_;refine OD.callPS (.p rfl) zB rfl zB rfl rfl zC ((count_c most ha).sub (zfs hs hg)) (fun ch η' w hX hW=>by (obtain ⟨rfl,v',hx,rfl⟩:=hX;exact hR _ _ w ⟨rfl,v',hx,rfl⟩ hW)) ?_;rintro v7 _ ⟨hl7,hm7,v7,rfl,ha7,rfl⟩;refine OD.q 1 rfl<|ODx.nil<|S.ret results283 rfl fun w hw=>hR _ _ w ?_ hw;exact ⟨v7,[],⟨hl7,hm7,rfl,ha7,rfl⟩,rfl⟩
theorem rCount_c {r:Fr} {b:Nat} {v:Value} {rest:List UInt8} {made bad:Bool} (most:Int) (ha:Arr Rp.u8 r v rest) :
  Con prog 241 #[.pointer (some ⟨b,0,none⟩),.int .i64 most] r [obj b 196 [v,.bool made,.bool bad]]
   (Ret fun u η=>∃ v',u=.int .i64 (rCount most (made && !bad) rest).1∧Arr Rp.u8 r v' (rCount most (made && !bad) rest).2.1∧η=[obj b 196 [v',.bool made,.bool (bad ||(rCount most (made && !bad) rest).2.2)]]):=by
 refine Con.o func241 fun g hg R hR=>?_;refine S.seq<|S.region rfl<|O.opE (.p rfl) (.box (cs:=[_]) rfl rfl) ?_;rintro _ _ ⟨b2,rfl,rfl⟩;refine O.opE (.p rfl) (.box (cs:=[_]) rfl rfl) ?_;rintro _ _ ⟨b3,rfl,rfl⟩;refine zz 6 ?_;refine O.freeze fun m1 hm1 hd1=>?_;refine O.freeze fun m2 hm2 hd2=>?_;have hg2:r.sub ((g.add m1).add m2).h:=zfs hg (zfs (Fr.sub_add_left _ _) (Fr.sub_add_left _ _));refine O.callS (.p rfl) rfl zB rfl rfl zC (triedI_c zB (K:=KCount r most rest) (X:=XCount r most v rest) (fun _ _ _ h=>by obtain ⟨_,_,rfl,_⟩:=h;rfl) fun _ _=>count1_c hg2 ha (obj_atR hm2 hd2) (obj_atR hm1 hd1).left) ?_;rintro v7 _ h7;refine O.q 1 rfl<|O.nil<|S.thaw (A:=fun _=>True) trivial hd2 (S.drop (S.thaw (A:=fun _=>True) trivial hd1 (S.drop ?_)));refine S.ret results241 rfl fun w hw=>hR _ _ w ?_ hw
 rcases h7 with ⟨h1,rfl,rfl⟩|⟨rfl,rfl,v',ζ,⟨h1,h3,rfl,h2,rfl⟩,rfl⟩|⟨rfl,rfl,v',h1,rfl,rfl⟩
 ·exact ⟨v,by simp [rCount,h1],by simpa [rCount,h1] using ha,by simp [rCount,h1]⟩
 ·exact ⟨v',by simp [rCount,h1,h3],by simpa [rCount,h1,h3] using h2,by simp [rCount,h1,h3]⟩
 ·rcases h1 with ⟨h1,rfl⟩|⟨h1,h3,h4⟩
  ·have h1:¬ 8≤rest.length:=by omega
   exact ⟨_,by simp [rCount,h1],by simpa [rCount,h1] using ha,by simp [rCount,h1]⟩
  ·exact ⟨v',by simp [rCount,h1,h3],by simpa [rCount,h1,h3] using h4,by simp [rCount,h1,h3]⟩
def KBytes (r:Fr) (e:TypeId) (most:Int) (rest:List UInt8) (u v' :Value) (ζ:List SProp):Prop :=
 8≤rest.length∧(0≤ofBe rest∧ofBe rest≤most)∧(ofBe rest).toNat≤(rest.drop 8).length∧Arr Rp.u8 r v' ((rest.drop 8).drop (ofBe rest).toNat) ∧
 ∃ a c,u=.slice a ((rest.drop 8).take (ofBe rest).toNat).length c∧ζ=[OwnP Rp.u8 e u ((rest.drop 8).take (ofBe rest).toNat)]
def XBytes (r:Fr) (most:Int) (v:Value) (rest:List UInt8) (v' :Value):Prop:=XCount r most v rest v' ∨8≤rest.length∧(0≤ofBe rest∧ofBe rest≤most)∧¬(ofBe rest).toNat≤(rest.drop 8).length∧Arr Rp.u8 r v' (rest.drop 8)
theorem bytes1_c {r0 r:Fr} {b bt bm:Nat} {v:Value} {rest:List UInt8} {most:Int} (hs:r0.sub r) (ha:Arr Rp.u8 r0 v rest) (hl:rest.length≤140737488355328) (ht:At r ⟨bt,0,none⟩ [.pointer (some ⟨b,0,none⟩)]) (hm:At r ⟨bm,0,none⟩ [.int .i64 most]) :
  Con prog 304 (#[]++#[]++#[.pointer (some ⟨bt,0,none⟩),.pointer (some ⟨bm,0,none⟩)]) r [obj b 196 [v,.bool true,.bool false]]
   (RetP (fun u η=>∃ v' ζ,KBytes r0 5 most rest u v' ζ∧η=obj b 196 [v',.bool true,.bool false]::ζ) (fun ch η=>ch=missing∧∃ v',XBytes r0 most v rest v' ∧η=[obj b 196 [v',.bool true,.bool false]])):=by
 refine Con.of (n:=13) [.pointer (some ⟨bt,0,none⟩),.pointer (some ⟨bm,0,none⟩)] rfl func304 rfl rfl rfl fun g hg R hR=>?_;have ht:=ht.mono hg;have hm:=hm.mono hg;refine zz 5 ?_;refine S.regionD (L:=.range 11) F.mixed zB ?_;refine zz 7 ?_;refine OD.callPS (.p rfl) zB rfl zB rfl rfl zC ((count_c most ha).sub (zfs hs hg)) (fun ch η' w hX hW=>by (obtain ⟨rfl,v',hx,rfl⟩:=hX;exact hR _ _ w ⟨rfl,v',.inl hx,rfl⟩ hW)) ?_;rintro v10 _ ⟨hl10,hm10,v10,rfl,ha10,rfl⟩;refine OD.callPS (.p rfl) zB rfl zB rfl rfl zC ((take_c _ ha10).sub (zfs hs hg)) (fun ch η' w hX hW=>by (obtain ⟨hb,rfl,rfl⟩:=hX;exact hR _ _ w ⟨rfl,v10,.inr ⟨hl10,hm10,by omega,ha10⟩,rfl⟩ hW)) ?_;rintro v11 _ ⟨hb11,a11,c11,v11,rfl,ha11,ha11',rfl⟩;refine OD.call0 (.p rfl) zB rfl zB rfl rfl ((cloneB_c (ha11.mono (zfs hs hg)) zL)) ?_;rintro _ _ ⟨a12,c12,rfl,rfl⟩;refine zz 2 ?_;exact S.rt results304 rfl hR ⟨v11,_,⟨hl10,hm10,by omega,ha11',a12,c12,rfl,rfl⟩,rfl⟩
theorem rBytes_c {r:Fr} {b:Nat} {v:Value} {rest:List UInt8} {made bad:Bool} (most:Int) (ha:Arr Rp.u8 r v rest) (hl:rest.length≤140737488355328) :
  Con prog 275 #[.pointer (some ⟨b,0,none⟩),.int .i64 most] r [obj b 196 [v,.bool made,.bool bad]]
   (Ret fun u η=>∃ a c v',u=.slice a (rBytes most (made && !bad) rest).1.length c∧Arr Rp.u8 r v' (rBytes most (made && !bad) rest).2.1 ∧
    η=[obj b 196 [v',.bool made,.bool (bad ||(rBytes most (made && !bad) rest).2.2)],OwnP Rp.u8 5 u (rBytes most (made && !bad) rest).1]):=by
 refine Con.o func275 fun g hg R hR=>?_;refine S.seq<|S.region rfl<|O.opE (.p rfl) (.box (cs:=[_]) rfl rfl) ?_;rintro _ _ ⟨b2,rfl,rfl⟩;refine O.opE (.p rfl) (.box (cs:=[_]) rfl rfl) ?_;rintro _ _ ⟨b3,rfl,rfl⟩;refine zz 6 ?_;refine O.freeze fun m1 hm1 hd1=>?_;refine O.freeze fun m2 hm2 hd2=>?_;have hg2:r.sub ((g.add m1).add m2).h:=zfs hg (zfs (Fr.sub_add_left _ _) (Fr.sub_add_left _ _));refine O.callS (.p rfl) rfl zB rfl rfl zC (triedS_c zB (K:=KBytes r 5 most rest) (X:=XBytes r most v rest) (fun _ _ _ h=>by obtain ⟨_,_,_,_,_,_,rfl,_⟩:=h;rfl) fun _ _=>bytes1_c hg2 ha hl (obj_atR hm2 hd2) (obj_atR hm1 hd1).left) ?_;rintro v7 _ h7;refine O.q 1 rfl<|O.nil<|S.thaw (A:=fun _=>True) trivial hd2 (S.drop (S.thaw (A:=fun _=>True) trivial hd1 (S.drop ?_)));refine S.addNil (T:=Rp.u8) (e:=5) ?_;refine S.ret results275 rfl fun w hw=>Holds.end_ hR hw ?_
 rcases h7 with ⟨h1,rfl,rfl⟩|⟨rfl,rfl,v',ζ,⟨h1,h3,h4,h5,a,c,rfl,rfl⟩,rfl⟩|⟨rfl,rfl,v',h1,rfl,rfl⟩
 ·have e:rBytes most (made && !bad) rest=([],rest,false):=by simp [rBytes,h1]
  rw [e];simp only [Bool.or_false];exact pk ⟨none,0,v,rfl,ha,rfl⟩
 ·have e:rBytes most (true && !false) rest=((rest.drop 8).take (ofBe rest).toNat,(rest.drop 8).drop (ofBe rest).toNat,false):=by
   simp only [rBytes,h1,h3,h4];rfl
  rw [e];simp only [Bool.or_false];exact pk ⟨a,c,v',rfl,h5,rfl⟩
 ·obtain ⟨rest',e,hr'⟩:∃ rest',rBytes most (true && !false) rest=([],rest',true)∧Arr Rp.u8 r v' rest' :=by
   rcases h1 with (⟨h1,rfl⟩|⟨h1,h3,h4⟩)|⟨h1,h3,h4,h5⟩
   ·have h1:¬ 8≤rest.length:=by omega
    exact ⟨_,by simp only [rBytes,h1];rfl,ha⟩
   ·exact ⟨_,by simp only [rBytes,h1,h3];rfl,h4⟩
   ·exact ⟨_,by simp only [rBytes,h1,h3,h4];rfl,h5⟩
  rw [e];simp only [Bool.false_or];exact pk ⟨none,0,v',rfl,hr',rfl⟩
theorem rdNew_c {r:Fr} {va:Value} {xs:List UInt8} (ha:Arr Rp.u8 r va xs) (hl:xs.length≤140737488355328):Con prog 68 #[va] r [] (Ret fun v η=>∃ b,v=.pointer (some ⟨b,0,none⟩)∧η=[RdP 196 b ⟨true,xs⟩]) :=
 (wNewReader_c ha hl).post fun e η' h w g hw=>by
  cases e with
  |returned u =>
   obtain ⟨b,a,c,rfl,rfl⟩:=h;exact ⟨_,⟨b,rfl,rfl⟩,hw.imp fun _ x=>rd_sat x⟩
  |panicked _=>exact h.elim
  |outgrown=>exact h.elim
theorem rdNumber_c {r:Fr} {b:Nat} {s:RS}:Con prog 70 #[.pointer (some ⟨b,0,none⟩)] r [RdP 196 b s] (Ret fun u η=>u=.int .i64 s.num.1∧η=[RdP 196 b s.num.2]) :=
 (Con.rd (Q:=fun u s' ζ=>u=.int .i64 s.num.1∧s' =s.num.2∧ζ=[]) fun m v made bad h1 h2=>(rNumber_c h2).mono (Ret.imp fun u η h=>by
  obtain ⟨v',rfl,h3,rfl⟩:=h;simp only [h1] at h3 ⊢;exact ⟨v',_,s.num.2,_,⟨rfl,rfl,rfl⟩,good_or h1,h3,rfl⟩)).mono (Ret.imp fun u η h=>by obtain ⟨s',ζ,⟨rfl,rfl,rfl⟩,rfl⟩:=h;exact ⟨rfl,rfl⟩)
theorem rdByte_c {r:Fr} {b:Nat} {s:RS}:Con prog 69 #[.pointer (some ⟨b,0,none⟩)] r [RdP 196 b s] (Ret fun u η=>u=byteV s.byte.1∧η=[RdP 196 b s.byte.2]) :=
 (Con.rd (Q:=fun u s' ζ=>u=byteV s.byte.1∧s' =s.byte.2∧ζ=[]) fun m v made bad h1 h2=>(rByte_c h2).mono (Ret.imp fun u η h=>by
  obtain ⟨v',rfl,h3,rfl⟩:=h;simp only [h1] at h3 ⊢;exact ⟨v',_,s.byte.2,_,⟨rfl,rfl,rfl⟩,good_or h1,h3,rfl⟩)).mono (Ret.imp fun u η h=>by obtain ⟨s',ζ,⟨rfl,rfl,rfl⟩,rfl⟩:=h;exact ⟨rfl,rfl⟩)
theorem rdCount_c {r:Fr} {b:Nat} {s:RS} (most:Int):Con prog 241 #[.pointer (some ⟨b,0,none⟩),.int .i64 most] r [RdP 196 b s] (Ret fun u η=>u=.int .i64 (s.count most).1∧η=[RdP 196 b (s.count most).2]) :=
 (Con.rd (Q:=fun u s' ζ=>u=.int .i64 (s.count most).1∧s' =(s.count most).2∧ζ=[]) fun m v made bad h1 h2=>(rCount_c most h2).mono (Ret.imp fun u η h=>by
  obtain ⟨v',rfl,h3,rfl⟩:=h;simp only [h1] at h3 ⊢;exact ⟨v',_,(s.count most).2,_,⟨rfl,rfl,rfl⟩,good_or h1,h3,rfl⟩)).mono (Ret.imp fun u η h=>by obtain ⟨s',ζ,⟨rfl,rfl,rfl⟩,rfl⟩:=h;exact ⟨rfl,rfl⟩)
theorem rdBytes_c {r:Fr} {b:Nat} {s:RS} (most:Int) (hl:s.rest.length≤140737488355328):Con prog 275 #[.pointer (some ⟨b,0,none⟩),.int .i64 most] r [RdP 196 b s] (Ret fun u η=>∃ a c,u=.slice a (s.bytes most).1.length c∧η=[RdP 196 b (s.bytes most).2,OwnP Rp.u8 5 (.slice a (s.bytes most).1.length c) (s.bytes most).1]) :=
 (Con.rd (Q:=fun u s' ζ=>∃ a c,u=.slice a (s.bytes most).1.length c∧s' =(s.bytes most).2∧ζ=[OwnP Rp.u8 5 (.slice a (s.bytes most).1.length c) (s.bytes most).1]) fun m v made bad h1 h2=>(rBytes_c most h2 hl).mono (Ret.imp fun u η h=>by
  obtain ⟨a,c,v',rfl,h3,rfl⟩:=h;simp only [h1] at h3 ⊢;exact ⟨v',_,(s.bytes most).2,_,⟨a,c,rfl,rfl,rfl⟩,good_or h1,h3,rfl⟩)).mono (Ret.imp fun u η h=>by obtain ⟨s',ζ,⟨a,c,rfl,rfl,rfl⟩,rfl⟩:=h;exact ⟨a,c,rfl,rfl⟩)
theorem rdGood_c {r:Fr} {b:Nat} {s:RS}:Con prog 171 #[.pointer (some ⟨b,0,none⟩)] r [RdP 196 b s] (Ret fun u η=>u=.bool s.good∧η=[RdP 196 b s]) :=
 (Con.rd (Q:=fun u s' ζ=>u=.bool s.good∧s' =s∧ζ=[]) fun m v made bad h1 h2=>rGood_c.mono (Ret.imp fun u η h=>by
  obtain ⟨rfl,rfl⟩:=h;rw [h1];exact ⟨v,bad,s,[],⟨rfl,rfl,rfl⟩,h1,h2,rfl⟩)).mono (Ret.imp fun u η h=>by obtain ⟨s',ζ,⟨rfl,rfl,rfl⟩,rfl⟩:=h;exact ⟨rfl,rfl⟩)
theorem rdDone_c {r:Fr} {b:Nat} {s:RS}:Con prog 72 #[.pointer (some ⟨b,0,none⟩)] r [RdP 196 b s] (Ret fun u η=>u=.bool s.done∧η=[RdP 196 b s]) :=
 (Con.rd (Q:=fun u s' ζ=>u=.bool s.done∧s' =s∧ζ=[]) fun m v made bad h1 h2=>(rDone_c h2).mono (Ret.imp fun u η h=>by
  obtain ⟨rfl,rfl⟩:=h;rw [h1];exact ⟨v,bad,s,[],⟨congrArg _ (by rw [Bool.eq_iff_iff,decide_eq_true_iff,RS.done_iff]),rfl,rfl⟩,h1,h2,rfl⟩)).mono (Ret.imp fun u η h=>by obtain ⟨s',ζ,⟨rfl,rfl,rfl⟩,rfl⟩:=h;exact ⟨rfl,rfl⟩)
theorem bclone_c {r:Fr} {va:Value} {xs:List UInt8} (ha:Arr Rp.u8 r va xs) (hl:xs.length≤140737488355328) :
  Con prog 301 #[va] r [] (Ret fun v η=>∃ a c,v=.slice a xs.length c∧η=[OwnP Rp.u8 5 v xs]):=by
 refine Con.o func301 fun g hg R hR=>?_;have ha:=ha.mono hg;obtain ⟨a1,c1,rfl⟩:=ha.shape
 cases a1 with
 |none =>
  refine zz 8 ?_;refine O.op (.p rfl) (.eqlNil underlying22 rfl rfl)<|zz 6 ?_;obtain ⟨rfl,_,rfl⟩:=Arr.nil_of zE ha;refine S.addNil (T:=Rp.u8) (e:=5) ?_;refine S.ret results301 rfl fun w hw=>hR _ _ w ?_ hw;exact ⟨none,0,rfl,rfl⟩
 |some a1 =>
  refine zz 8 ?_;refine O.op (.p rfl) (.eqlNil underlying22 rfl rfl)<|zz 5 ?_;refine O.opE (.p rfl) (.litP (T:=Rp.u8) (ys:=[]) underlying22 elem5 zE rfl rfl trivial zE) ?_;rintro _ _ ⟨a5,c5,rfl,rfl⟩;refine O.q 1 rfl<|O.opE (.p rfl) (.appendP (T:=Rp.u8) pure_u8 underlying22 elem5 zE rfl rfl zC zA zH zH) ?_;rintro _ _ ⟨a7,c7,rfl,rfl⟩;refine O.q 1 rfl<|O.nil<|S.ret results301 rfl fun w hw=>hR _ _ w ?_ hw;exact ⟨a7,c7,by simp,by simp⟩
theorem bequal_c {r:Fr} {va vb:Value} {xs ys:List UInt8} (ha:Arr Rp.u8 r va xs) (hb:Arr Rp.u8 r vb ys) :
  Con prog 34 #[va,vb] r [] (Ret fun v η=>v=.bool (decide (xs=ys))∧η=[]):=by
 refine Con.o func34 fun g hg R hR=>?_;have ha:=ha.mono hg;have hb:=hb.mono hg;refine zz 7 ?_;refine O.op (.p rfl) (.toStr underlying22 underlying5 underlying9 rfl zA) ?_;refine O.q 1 rfl<|O.op (.p rfl) (.toStr underlying22 underlying5 underlying9 rfl zA) ?_;refine O.op (.p rfl) (.eqlS rfl rfl)<|O.q 1 rfl<|O.nil<|S.ret results34 rfl fun w hw=>hR _ _ w ?_ hw;exact ⟨by simp,rfl⟩
abbrev recV (x:RecT) (v3 v5 v6:Value):List Value:=[.string (str x.1),.int .i64 x.2.1,.int .i64 x.2.2.1,v3,.bool x.2.2.2.2.1,v5,v6]
abbrev recWs (x:RecT) (v3 v5 v6:Value):List SProp:=[OwnP DotRp 115 v3 x.2.2.2.1,OwnP Rp.u8 5 v5 x.2.2.2.2.2.1,OwnP Rp.u8 5 v6 x.2.2.2.2.2.2.1]
abbrev rec0:List Value:=[.string (str []),.int .i64 0,.int .i64 0,.slice none 0 0,.bool false,.slice none 0 0,.slice none 0 0]
theorem rGet_c {r:Fr} {va:Value} {b:List UInt8} (ha:Arr Rp.u8 r va b) (hl:b.length≤1000000000) :
  Con prog 244 #[va] r [] (Ret fun v η=>(∃ x a3 c3 a5 c5 a6 c6,recGet b=some x∧v=.tuple #[.agg (recV x (.slice a3 x.2.2.2.1.length c3) (.slice a5 x.2.2.2.2.2.1.length c5) (.slice a6 x.2.2.2.2.2.2.1.length c6)).toArray,.int .i64 0]∧η=recWs x (.slice a3 x.2.2.2.1.length c3) (.slice a5 x.2.2.2.2.2.1.length c5) (.slice a6 x.2.2.2.2.2.2.1.length c6))∨(recGet b=none∧v=.tuple #[.agg rec0.toArray,.int .i64 4]∧η=[])):=by
 refine Con.o func244 fun g hg R hR=>?_;have ha:=ha.mono hg;have hbd:=ha.bound;obtain ⟨a1,c1,rfl⟩:=ha.shape;refine S.seq<|S.region rfl<|O.opE (.p rfl) (.alloc (cs:=[.string ⟨#[]⟩,.int .i64 0,.int .i64 0,.slice none 0 0,.bool false,.slice none 0 0,.slice none 0 0]) zeroValue118 rfl) ?_;rintro _ _ ⟨b2,rfl,rfl⟩;refine zz 6 ?_;refine O.op (.p rfl) (.sub rfl rfl (IntWalk.i64_in _ zD))<|zz 8 ?_;refine S.cd rfl (fun h13=>?_) fun h13=>?_
 ·refine zz 2 ?_
  refine O.op (.p rfl) (.build (cs:=[_,_,_,_,_,_,_]) underlying118 rfl rfl rfl rfl rfl)<|zz 1 ?_;refine O.q 1 rfl<|O.nil<|S.retCellT results244 rfl rfl zC (LoadsAs.agg isAgg118 zB) fun w hw=>Holds.end_ hR hw ?_;exact pk (.inr ⟨recGet_short zD,rfl,rfl⟩)
 ·have h64:64≤b.length:=by omega
  have htl:(b.take (b.length - 64)).length≤1000000000:=by rw [zlt];omega
  refine zz 5 ?_;refine O.sliceTo (b:=b.length - 64) (.p rfl) underlying22 size5 rfl rfl zF zH zH (fun u17 ha17=>?_);obtain ⟨a17,c17,rfl⟩:=ha17.shape;refine O.call0 (.p rfl) rfl zB rfl rfl (rdNew_c zA zH) ?_;rintro _ _ ⟨b18,rfl,rfl⟩;refine zz 5 ?_;refine O.vS (.p rfl) rfl zB rfl rfl zC rdByte_c<|zz 2 ?_;generalize hk:(RS.mk true (b.take (b.length - 64))).byte=k;have lk:k.2.rest.length≤1000000000:=by rw [← hk];exact Nat.le_trans (RS.byte_len _) htl
  have ly:=RS.bytes_out 64 k.2;refine S.regionJ (L:=[0,3,5,1,2,4,6,7,8,9]) (fun (p:Nat)=>[(6,.pointer (some ⟨p,0,none⟩))]) [(0,_),(2,_),(4,_),(5,_)] (fun (p:Nat)=>[RdP 196 b18 (k.2.bytes 64).2.num.2.num.2,obj p 118 [.string (str (k.2.bytes 64).1),.int .i64 (k.2.bytes 64).2.num.1,.int .i64 (k.2.bytes 64).2.num.2.num.1,.slice none 0 0,.bool false,.slice none 0 0,.slice none 0 0],obj b2 118 rec0]) zq F.mixed zB (fun kk key=>?_) (fun p=>?_)
  ·refine OD.q 3 rfl<|OD.callS (.p rfl) zB rfl zB rfl rfl zC (rdBytes_c _ zH) ?_
   rintro _ _ ⟨a22,c22,rfl,rfl⟩;refine OD.alt2 2 4 [4,6,7,8,9] [2,6,7,8,9] zB rfl rfl ?_ ?_
   ·refine ODt.toStrO (.p rfl) zB underlying22 underlying5 underlying9 rfl zC ?_
    refine OD.callS (.p rfl) zB rfl zB rfl rfl zC rdNumber_c ?_;rintro _ _ ⟨rfl,rfl⟩;refine OD.callS (.p rfl) zB rfl zB rfl rfl zC rdNumber_c ?_;rintro _ _ ⟨rfl,rfl⟩;refine .quiet (.p rfl) rfl (fun _=>.build (cs:=[_,_,_,_,_,_,_]) underlying118 rfl rfl rfl rfl rfl)<|.lazy rfl zB rfl fun b6=>?_;refine OD.storeObj rfl zB zB rfl rfl rfl rfl zC zO ?_;refine ODx.nil<|S.pk ?_ (S.weaken (Sub.app zq zq) (key b6))
    try dsimp only
    repeat (first|exact zpa|exact zpn|(apply zpc;focus (repeat (first|exact zh|apply zt)))|apply zps)
   ·refine ODt.callS (.p rfl) zB rfl zB rfl rfl zC rdNumber_c ?_
    rintro _ _ ⟨rfl,rfl⟩;refine OD.alt2 2 6 [6,7,8,9] [2,7,8,9] zB rfl rfl ?_ ?_
    ·refine ODt.toStrO (.p rfl) zB underlying22 underlying5 underlying9 rfl zC ?_
     refine OD.callS (.p rfl) zB rfl zB rfl rfl zC rdNumber_c ?_;rintro _ _ ⟨rfl,rfl⟩;refine .quiet (.p rfl) rfl (fun _=>.build (cs:=[_,_,_,_,_,_,_]) underlying118 rfl rfl rfl rfl rfl)<|.lazy rfl zB rfl fun b6=>?_;refine OD.storeObj rfl zB zB rfl rfl rfl rfl zC zO ?_;refine ODx.nil<|S.pk ?_ (S.weaken (Sub.app zq zq) (key b6))
     try dsimp only
     repeat (first|exact zpa|exact zpn|(apply zpc;focus (repeat (first|exact zh|apply zt)))|apply zps)
    ·refine ODt.callS (.p rfl) zB rfl zB rfl rfl zC rdNumber_c ?_
     rintro _ _ ⟨rfl,rfl⟩;refine OD.toStrO (.p rfl) zB underlying22 underlying5 underlying9 rfl zC ?_;refine .quiet (.p rfl) rfl (fun _=>.build (cs:=[_,_,_,_,_,_,_]) underlying118 rfl rfl rfl rfl rfl)<|.lazy rfl zB rfl fun b6=>?_;refine OD.storeObj rfl zB zB rfl rfl rfl rfl zC zO ?_;refine ODx.nil<|S.pk ?_ (S.weaken (Sub.app zq zq) (key b6))
     try dsimp only
     repeat (first|exact zpa|exact zpn|(apply zpc;focus (repeat (first|exact zh|apply zt)))|apply zps)
  generalize hy:k.2.bytes 64=y at ly ⊢;have ly2:y.2.rest.length≤1000000000:=by rw [← hy];exact Nat.le_trans (RS.bytes_len _ _) lk
  generalize hc:y.2.num=c;have lc:c.2.rest.length≤1000000000:=by rw [← hc];exact Nat.le_trans (RS.num_len _) ly2
  have ic:InI64 c.1:=by rw [← hc];exact RS.num_in _
  generalize hq:c.2.num=q;have lq:q.2.rest.length≤1000000000:=by rw [← hq];exact Nat.le_trans (RS.num_len _) lc
  have iq:InI64 q.1:=by rw [← hq];exact RS.num_in _
  refine zz 4 ?_;refine O.vS (.p rfl) rfl zB rfl rfl zC (rdCount_c _)<|zz 3 ?_;generalize hn:q.2.count 8=n;have ln:n.2.rest.length≤1000000000:=by rw [← hn];exact Nat.le_trans (RS.count_len _ _) lq
  obtain ⟨n0,n8⟩:0≤n.1∧n.1≤8:=by rw [← hn];exact RS.count_bd _ _ zE
  refine S.addNil (T:=DotRp) (e:=115) ?_;refine S.loopK2 (ι:=Nat) (κ:=Option Addr × Nat) (fun i a=>i≤n.1.toNat) (fun i a=>[(31,.int .i64 (i:Int))]) [(0,_),(2,_),(4,_),(5,_),(6,_),(30,_)] (fun i a=>[OwnP DotRp 115 (.slice a.1 i a.2) (dotsP i n.2).1,RdP 196 b18 (dotsP i n.2).2,obj p 118 [.string (str y.1),.int .i64 c.1,.int .i64 q.1,.slice a.1 i a.2,.bool false,.slice none 0 0,.slice none 0 0],obj b2 118 rec0]) (fun i a=>n.1.toNat - i) (0) ((none,0)) zG zq zq rfl fun i a hx ih=>?_;have hm1:=meltRefl (g:=g);refine zz 5 ?_;refine S.cd rfl (fun h32=>?_) fun h32=>?_
  ·have hi:i<n.1.toNat:=by omega
   have hg_o:=hg;have hR_o:=hR
   try have ha_o:=ha
   try have ha17_o:=ha17
   refine S.frzH (B:=obj p 118 [.string (str y.1),.int .i64 c.1,.int .i64 q.1,.slice a.1 i a.2,.bool false,.slice none 0 0,.slice none 0 0]) zC fun go hso ⟨mo,hmo,hsmo⟩ hbo=>?_;replace hg:=zfs hg hso;replace hR:=backR hR hbo
   try replace ha:=ha.mono hso
   try replace ha17:=ha17.mono hso
   have hat:=(obj_at hmo).mono hsmo;refine zz 3 ?_;refine S.regionD (L:=[0,1,2,4,3,5,6,7,8,9,10]) F.mixed zB ?_;refine zz 2 ?_;refine OD.q 2 rfl<|OD.callS (.p rfl) zB rfl zB rfl rfl zC rdNumber_c ?_;rintro _ _ ⟨rfl,rfl⟩;refine OD.callS (.p rfl) zB rfl zB rfl rfl zC rdNumber_c ?_;rintro _ _ ⟨rfl,rfl⟩;refine .quiet (.p rfl) rfl (fun _=>.build (cs:=[_,_]) underlying115 rfl rfl rfl rfl rfl)<|OD.litP (T:=DotRp) (ys:=[_]) (.p rfl) zB underlying116 elem115 zE rfl rfl ⟨(DotRp.mk (RS.num_in _) (RS.num_in _)),trivial⟩ zE (fun a40 c40=>?_);refine OD.appendO (.p rfl) zB (T:=DotRp) underlying116 elem115 zE rfl rfl zC zC zH zH (fun a41 c41=>?_);refine zz 1 ?_;refine OD.last1 rfl zB (fun _ hw=>hbo hw) flat116 rfl rfl zP zC zR ?_;replace hg:=hg_o;replace hR:=hR_o
   try replace ha:=ha_o
   try replace ha17:=ha17_o
   clear hg_o hR_o;refine zz 5 ?_;simp only [dotsP_length,List.length_singleton];exact S.pw (ih (i+1) ((a41,c41)) zD zD)
  ·clear ih
   have hi:i=n.1.toNat:=by omega
   subst hi;generalize hd:dotsP n.1.toNat n.2=d;have ld:d.2.rest.length≤1000000000:=by rw [← hd];exact Nat.le_trans (dotsP_len _ _) ln
   have ldn:d.1.length=n.1.toNat:=by rw [← hd];exact dotsP_length _ _
   have id:∀ z∈d.1,dot64 z:=by rw [← hd];exact dotsP_in _ _
   rw [← ldn];refine zz 4 ?_;refine O.vS (.p rfl) rfl zB rfl rfl zC rdByte_c ?_;refine zz 1 ?_;refine O.slot 46 (v' :=.bool (decide (d.2.byte.1≠0))) rfl (by simp [← UInt8.toNat_inj]) ?_;refine zz 4 ?_;generalize hg2:d.2.byte=g2;have lg2:g2.2.rest.length≤1000000000:=by rw [← hg2];exact Nat.le_trans (RS.byte_len _) ld
   refine S.regionD (L:=[0,2,3,4,1,6,5,7,8,9]) F.mixed zB ?_;refine OD.q 3 rfl<|OD.sliceFrom (a:=b.length - 64) (.p rfl) underlying22 size5 rfl rfl zF zH zH (fun u52 ha52=>?_);obtain ⟨a52,c52,rfl⟩:=ha52.shape;refine OD.callS (.p rfl) zB rfl zB rfl rfl zC (rdBytes_c _ zH) ?_;rintro _ _ ⟨a49,c49,rfl,rfl⟩;refine .quiet (.p rfl) rfl (fun _=>.fieldObj fld118x5 rfl)<|OD.call0 (.p rfl) zB rfl zB rfl rfl (cloneB_c zA zH) ?_;rintro _ _ ⟨a53,c53,rfl,rfl⟩;refine OD.store1 rfl zB flat22 rfl rfl zP zC zO ?_;refine .quiet (.p rfl) rfl (fun _=>.fieldObj fld118x6 rfl)<|OD.store1 rfl zB flat22 rfl rfl zP zC zO ?_;refine zz 2 ?_;generalize hv:g2.2.bytes 1024=v;have hX:recIn b=(y.1,c.1,q.1,d.1,decide (g2.1≠0),v.1,b.drop (b.length - 64),()):=by subst hv hg2 hd hn hq hc hy hk;rfl
   have hS:(recHd b).s=v.2:=by subst hv hg2 hd hn hq hc hy hk;rfl
   have hyes:=recGet_yes (b:=b);have hno:=recGet_no (b:=b);rw [hX] at hyes hno;rw [hS] at hno;have hrel:∀ {m:Fr} (v3 v5 v6:Value),Arr DotRp m v3 d.1→Arr Rp.u8 m v5 v.1→Arr Rp.u8 m v6 (b.drop (b.length - 64))→RecRp.rel m [.string (str y.1),.int .i64 c.1,.int .i64 q.1,v3,.bool (decide (g2.1≠0)),v5,v6] (y.1,c.1,q.1,d.1,decide (g2.1≠0),v.1,b.drop (b.length - 64),()):=fun v3 v5 v6 h3 h5 h6=>RecRp.mk zD ic iq h3 h5 h6;clear hX hS;generalize hXX:((y.1,c.1,q.1,d.1,decide (g2.1≠0),v.1,b.drop (b.length - 64),()):RecT)=X at hyes hno hrel;refine zz 2 ?_;refine O.callB (.p rfl) rfl zB rfl rfl (bs:=[OwnP DotRp 115 (.slice a.1 d.1.length a.2) d.1,OwnP Rp.u8 5 (.slice a49 v.1.length c49) v.1,OwnP Rp.u8 5 (.slice a53 (b.drop (b.length - 64)).length c53) (b.drop (b.length - 64))]) zI (fun m hm hd' =>rPut_c (x:=X) (hrel _ _ _ (hm.arr.right hd') (hm.tail.arr.right hd') (hm.tail.tail.arr.right hd'))) ?_;rintro _ _ ⟨a58,c58,rfl,rfl⟩;refine O.q 5 rfl<|O.nil (S.seq (S.seq ?_))
   cases e1:v.2.done with
   |false =>
    refine zz 2 ?_;refine O.vS (.p rfl) rfl zB rfl rfl zC rdDone_c ?_;refine O.sF 62 rfl (by exact e1)<|zz 15 ?_;refine O.op (.p rfl) (.build (cs:=[_,_,_,_,_,_,_]) underlying118 rfl rfl rfl rfl rfl)<|zz 1 ?_;refine O.q 1 rfl<|O.nil<|S.retCellT results244 rfl rfl zC (LoadsAs.agg isAgg118 zB) fun w hw=>Holds.end_ hR hw ?_;exact pk (.inr ⟨hno fun q=>by rw [e1] at q;exact absurd q.1 zE,rfl,rfl⟩)
   |true =>
    cases e2:recOk X with
    |false =>
     refine zz 2 ?_;refine O.vS (.p rfl) rfl zB rfl rfl zC rdDone_c ?_;refine O.sT 62 rfl (by exact e1)<|zz 4 ?_;refine O.sT 66 rfl (by simp [recErr,e2])<|zz 11 ?_;refine O.op (.p rfl) (.build (cs:=[_,_,_,_,_,_,_]) underlying118 rfl rfl rfl rfl rfl)<|zz 1 ?_;refine O.q 1 rfl<|O.nil<|S.retCellT results244 rfl rfl zC (LoadsAs.agg isAgg118 zB) fun w hw=>Holds.end_ hR hw ?_;exact pk (.inr ⟨hno fun q=>by rw [e2] at q;exact absurd q.2.1 zE,rfl,rfl⟩)
    |true =>
     by_cases e3:recB X=b
     ·
      refine zz 2 ?_;refine O.vS (.p rfl) rfl zB rfl rfl zC rdDone_c ?_;refine O.sT 62 rfl (by exact e1)<|zz 4 ?_;refine O.sF 66 rfl (by simp [recErr,e2]) ?_;refine O.q 4 rfl<|O.callB (.g rfl rfl) rfl zB rfl rfl (bs:=[OwnP Rp.u8 5 (.slice a58 (recOut X).length c58) (recOut X)]) zI (fun m hm hd' =>bequal_c (hm.arr.right hd') ha.left) ?_;rintro _ _ ⟨rfl,rfl⟩;refine O.sT 71 rfl (by exact zdt (by rw [recOut,if_pos e2];exact e3))<|zz 9 ?_;refine O.q 1 rfl<|O.nil<|S.retCellT results244 rfl rfl zC (LoadsAs.agg isAgg118 zB) fun w hw=>Holds.end_ hR hw ?_;have hy' :=hyes e2 e3;subst hXX;exact pk (.inl ⟨_,a.1,a.2,a49,c49,a53,c53,hy',rfl,rfl⟩)
     ·
      refine zz 2 ?_;refine O.vS (.p rfl) rfl zB rfl rfl zC rdDone_c ?_;refine O.sT 62 rfl (by exact e1)<|zz 4 ?_;refine O.sF 66 rfl (by simp [recErr,e2]) ?_;refine O.q 4 rfl<|O.callB (.g rfl rfl) rfl zB rfl rfl (bs:=[OwnP Rp.u8 5 (.slice a58 (recOut X).length c58) (recOut X)]) zI (fun m hm hd' =>bequal_c (hm.arr.right hd') ha.left) ?_;rintro _ _ ⟨rfl,rfl⟩;refine O.sF 71 rfl (by exact zdf (by rw [recOut,if_pos e2];exact e3))<|zz 6 ?_;refine O.op (.p rfl) (.build (cs:=[_,_,_,_,_,_,_]) underlying118 rfl rfl rfl rfl rfl)<|zz 1 ?_;refine O.q 1 rfl<|O.nil<|S.retCellT results244 rfl rfl zC (LoadsAs.agg isAgg118 zB) fun w hw=>Holds.end_ hR hw ?_;exact pk (.inr ⟨hno fun q=>e3 q.2.2,rfl,rfl⟩)
theorem rGetY_c {r:Fr} {va:Value} {b:List UInt8} {x:RecT} (e:recGet b=some x) (ha:Arr Rp.u8 r va b) (hl:b.length≤1000000000) :
  Con prog 244 #[va] r [] (Ret fun v η=>∃ a3 c3 a5 c5 a6 c6,v=.tuple #[.agg (recV x (.slice a3 x.2.2.2.1.length c3) (.slice a5 x.2.2.2.2.2.1.length c5) (.slice a6 x.2.2.2.2.2.2.1.length c6)).toArray,.int .i64 0]∧η=recWs x (.slice a3 x.2.2.2.1.length c3) (.slice a5 x.2.2.2.2.2.1.length c5) (.slice a6 x.2.2.2.2.2.2.1.length c6)) :=
 (rGet_c ha hl).mono (Ret.imp fun v η h=>by
  rcases h with ⟨y,a3,c3,a5,c5,a6,c6,h1,h2,h3⟩|⟨h1,_⟩
  ·rw [e] at h1;obtain rfl:=Option.some.inj h1;exact ⟨a3,c3,a5,c5,a6,c6,h2,h3⟩
  ·rw [e] at h1;cases h1)
theorem rGetN_c {r:Fr} {va:Value} {b:List UInt8} (e:recGet b=none) (ha:Arr Rp.u8 r va b) (hl:b.length≤1000000000) :
  Con prog 244 #[va] r [] (Ret fun v η=>v=.tuple #[.agg rec0.toArray,.int .i64 4]∧η=[]) :=
 (rGet_c ha hl).mono (Ret.imp fun v η h=>by
  rcases h with ⟨y,a3,c3,a5,c5,a6,c6,h1,_⟩|⟨_,h2,h3⟩
  ·rw [e] at h1;cases h1
  ·exact ⟨h2,h3⟩)
theorem triedRR_ret {g:Gr} {be bx:Nat} {xs:List Value} {z:Int} {T1 T2:TypeId} {w:World} {R:Ending→World→Prop} {η:List SProp} (hxl:xs.length=5) (hw:Holds w g (obj bx T1 xs::obj be T2 [.int .i64 z]::η)) (hR:∀ w,Holds w g (obj bx T1 xs::obj be T2 [.int .i64 z]::η)→R (.returned (.tuple #[.agg xs.toArray,.int .i64 z])) w) :
  CallsD prog 329 #[.pointer (some ⟨be,0,none⟩),.pointer (some ⟨bx,0,none⟩)] .returning w (DPost2 prog g bx be 27 39 R):=by
 refine (callsD_rec (R:=fun e w=>(∃ v,e=.returned v)∧Holds w g (obj bx T1 xs::obj be T2 [.int .i64 z]::η)) [.pointer (some ⟨be,0,none⟩),.pointer (some ⟨bx,0,none⟩)] rfl func329 rfl rfl rfl rfl hw ?_).mono ?_
 rotate_left
 ·rintro e u' w' ⟨rfl,⟨v,rfl⟩,h⟩
  exact ⟨⟨v,rfl⟩,rfl,T1,T2,_,_,_,_,η,h,LoadsAs.agg isAgg27 (by rw [hxl];kernel_rfl),LoadsAs.flat flat39,hR w' h⟩
 refine S.seq<|S.region rfl<|O.q 1 rfl<|O.op (.p rfl) (.neqIN underlying20 rfl)<|O.nil<|S.condF rfl<|S.skip<|S.end0 results329 fun w hw=>?_;exact ⟨⟨_,rfl⟩,hw⟩
theorem triedRR_pan {g:Gr} {be bx:Nat} {xs:List Value} {z z' :Int} {T1 T2:TypeId} {w:World} {R:Ending→World→Prop} {η:List SProp} (hxl:xs.length=5) (hw:Holds w g (obj bx T1 xs::obj be T2 [.int .i64 z']::η))
  (hR:∀ w,Holds w g (obj bx T1 [.int .i64 0,.int .i64 0,.int .i64 0,.slice none 0 0,.slice none 0 0]::obj be T2 [.int .i64 z]::η)→R (.returned (.tuple #[.agg ([.int .i64 0,.int .i64 0,.int .i64 0,.slice none 0 0,.slice none 0 0]:List Value).toArray,.int .i64 z])) w) :
  CallsD prog 329 #[.pointer (some ⟨be,0,none⟩),.pointer (some ⟨bx,0,none⟩)] (.panicking (errP 39 z)) w (DPost2 prog g bx be 27 39 R):=by
 refine (callsD_rec (R:=fun e w=>(∃ v,e=.returned v)∧Holds w g (obj bx T1 [.int .i64 0,.int .i64 0,.int .i64 0,.slice none 0 0,.slice none 0 0]::obj be T2 [.int .i64 z]::η)) [.pointer (some ⟨be,0,none⟩),.pointer (some ⟨bx,0,none⟩)] rfl func329 rfl rfl rfl rfl hw ?_).mono ?_
 rotate_left
 ·rintro e u' w' ⟨rfl,⟨v,rfl⟩,h⟩
  exact ⟨⟨v,rfl⟩,rfl,T1,T2,_,_,_,_,η,h,LoadsAs.agg isAgg27 zB,LoadsAs.flat flat39,hR w' h⟩
 refine zz 3 ?_;refine O.op (.p rfl) (.neqIV underlying20 rfl)<|zz 10 ?_;refine O.op (.p rfl) (.assertYes underlying39 rfl)<|zz 15 ?_;refine O.opE (.p rfl) (.alloc (cs:=[.int .i64 0,.int .i64 0,.int .i64 0,.slice none 0 0,.slice none 0 0]) zeroValue27 rfl) ?_;rintro _ _ ⟨b4,rfl,rfl⟩;refine zz 3 ?_;refine O.opU rfl (.storeObj (news:=[.int .i64 0,.int .i64 0,.int .i64 0,.slice none 0 0,.slice none 0 0]) zB rfl rfl rfl rfl zC (by rw [hxl];decide)) ?_;refine O.nil<|S.objIs (b:=bx) (cs' :=[.int .i64 0,.int .i64 0,.int .i64 0,.slice none 0 0,.slice none 0 0]) zC (by simp [hxl]) ?_;refine S.end0 results329 fun w hw=>?_;exact ⟨⟨_,rfl⟩,hw.picks zM⟩
theorem triedRR_c {r:Fr} {f:Nat} {first cap:Array Value} {K:Value→List SProp→Prop} {X:Int→Prop} (hc:callable prog f=true) (hf1:(Value.func (.func f) first cap).oneCell' =true) (hK1:∀ u ζ,K u ζ→∃ xs:List Value,u=.agg xs.toArray∧xs.length=5∧xs.all (·.oneCell')=true)
  (con:Con prog f (first++#[]++cap) r [] (RetP K (fun ch η=>∃ z,ch=errP 39 z∧X z∧η=[]))) :
  Con prog 299 #[.func (.func f) first cap] r [] (Ret fun v η=>(∃ u,K u η∧v=.tuple #[u,.int .i64 0])∨(∃ z,X z∧η=[]∧v=.tuple #[.agg ([.int .i64 0,.int .i64 0,.int .i64 0,.slice none 0 0,.slice none 0 0]:List Value).toArray,.int .i64 z])):=by
 refine Con.of (n:=7) [.func (.func f) first cap] rfl func299 rfl rfl rfl fun g hg R hR=>?_;refine S.seq<|S.region rfl<|O.opE (.p rfl) (.alloc (cs:=[.int .i64 0,.int .i64 0,.int .i64 0,.slice none 0 0,.slice none 0 0]) zeroValue27 rfl) ?_;rintro _ _ ⟨b2,rfl,rfl⟩;refine O.opE (.p rfl) (.alloc (cs:=[.int .i64 0]) zeroValue39 rfl) ?_;rintro _ _ ⟨b3,rfl,rfl⟩;refine zz 4 ?_;refine O.defer rfl rfl rfl rfl<|zz 4 ?_;refine O.callP0D (.p rfl) rfl hc rfl rfl (con.sub hg) (fun a ch η' w hF hX hW=>by (obtain ⟨z,rfl,hx,rfl⟩:=hX;exact leavesCell2 results299 hF rfl rfl zG zB (triedRR_pan rfl (hW.picks zM) fun w hw=>Holds.end_ hR hw ⟨_,.inr ⟨z,hx,rfl,rfl⟩,zM⟩))) ?_;rintro v6 _ hk6;obtain ⟨xs,rfl,hxl,hone⟩:=hK1 _ _ hk6;refine O.perm (List.perm_append_comm) ?_;simp only [List.cons_append,List.nil_append];refine O.opU rfl (.storeObj (news:=xs) (by rw [hxl];kernel_rfl) rfl rfl zS hone zC (by rw [hxl];decide))<|zz 1 ?_;refine O.nil<|S.objIs (b:=b2) (cs' :=xs) zC (by simp [hxl]) ?_;refine S.retL fun a w hf hd hw=>?_;exact leavesCell2 results299 hf rfl rfl zG zB (triedRR_ret hxl (hw.picks zM) fun w hw=>Holds.end_ hR hw ⟨_,.inl ⟨_,hk6,rfl⟩,zM⟩)
theorem triedSS_ret {g:Gr} {be bx:Nat} {x:Value} {z:Int} {T1 T2:TypeId} {w:World} {R:Ending→World→Prop} {η:List SProp} (hw:Holds w g (obj bx T1 [x]::obj be T2 [.int .i64 z]::η)) (hR:∀ w,Holds w g (obj bx T1 [x]::obj be T2 [.int .i64 z]::η)→R (.returned (.tuple #[x,.int .i64 z])) w) :
  CallsD prog 344 #[.pointer (some ⟨be,0,none⟩),.pointer (some ⟨bx,0,none⟩)] .returning w (DPost2 prog g bx be 36 39 R):=by
 refine (callsD_rec (R:=fun e w=>(∃ v,e=.returned v)∧Holds w g (obj bx T1 [x]::obj be T2 [.int .i64 z]::η)) [.pointer (some ⟨be,0,none⟩),.pointer (some ⟨bx,0,none⟩)] rfl func344 rfl rfl rfl rfl hw ?_).mono ?_
 rotate_left
 ·rintro e u' w' ⟨rfl,⟨v,rfl⟩,h⟩
  exact ⟨⟨v,rfl⟩,rfl,T1,T2,_,_,_,_,η,h,LoadsAs.flat flat36,LoadsAs.flat flat39,hR w' h⟩
 refine S.seq<|S.region rfl<|O.q 1 rfl<|O.op (.p rfl) (.neqIN underlying20 rfl)<|O.nil<|S.condF rfl<|S.skip<|S.end0 results344 fun w hw=>?_;exact ⟨⟨_,rfl⟩,hw⟩
theorem triedSS_pan {g:Gr} {be bx:Nat} {x:Value} {z z' :Int} {T1 T2:TypeId} {w:World} {R:Ending→World→Prop} {η:List SProp} (hw:Holds w g (obj bx T1 [x]::obj be T2 [.int .i64 z']::η))
  (hR:∀ w,Holds w g (obj bx T1 [.slice none 0 0]::obj be T2 [.int .i64 z]::η)→R (.returned (.tuple #[.slice none 0 0,.int .i64 z])) w) :
  CallsD prog 344 #[.pointer (some ⟨be,0,none⟩),.pointer (some ⟨bx,0,none⟩)] (.panicking (errP 39 z)) w (DPost2 prog g bx be 36 39 R):=by
 refine (callsD_rec (R:=fun e w=>(∃ v,e=.returned v)∧Holds w g (obj bx T1 [.slice none 0 0]::obj be T2 [.int .i64 z]::η)) [.pointer (some ⟨be,0,none⟩),.pointer (some ⟨bx,0,none⟩)] rfl func344 rfl rfl rfl rfl hw ?_).mono ?_
 rotate_left
 ·rintro e u' w' ⟨rfl,⟨v,rfl⟩,h⟩
  exact ⟨⟨v,rfl⟩,rfl,T1,T2,_,_,_,_,η,h,LoadsAs.flat flat36,LoadsAs.flat flat39,hR w' h⟩
 refine zz 3 ?_;refine O.op (.p rfl) (.neqIV underlying20 rfl)<|zz 10 ?_;refine O.op (.p rfl) (.assertYes underlying39 rfl)<|zz 20 ?_;refine O.nil<|S.end0 results344 fun w hw=>?_;exact ⟨⟨_,rfl⟩,hw.picks zM⟩
theorem triedSS_c {r:Fr} {f:Nat} {first cap:Array Value} {K:Value→List SProp→Prop} {X:Int→Prop} (hc:callable prog f=true) (hf1:(Value.func (.func f) first cap).oneCell' =true) (hK1:∀ u ζ,K u ζ→u.oneCell' =true)
  (con:Con prog f (first++#[]++cap) r [] (RetP K (fun ch η=>∃ z,ch=errP 39 z∧X z∧η=[]))) :
  Con prog 322 #[.func (.func f) first cap] r [] (Ret fun v η=>(∃ u,K u η∧v=.tuple #[u,.int .i64 0])∨(∃ z,X z∧η=[]∧v=.tuple #[.slice none 0 0,.int .i64 z])):=by
 refine Con.of (n:=7) [.func (.func f) first cap] rfl func322 rfl rfl rfl fun g hg R hR=>?_;refine S.seq<|S.region rfl<|O.opE (.p rfl) (.alloc (cs:=[.slice none 0 0]) zeroValue36 rfl) ?_;rintro _ _ ⟨b2,rfl,rfl⟩;refine O.opE (.p rfl) (.alloc (cs:=[.int .i64 0]) zeroValue39 rfl) ?_;rintro _ _ ⟨b3,rfl,rfl⟩;refine zz 4 ?_;refine O.defer rfl rfl rfl rfl<|zz 4 ?_;refine O.callP0D (.p rfl) rfl hc rfl rfl (con.sub hg) (fun a ch η' w hF hX hW=>by (obtain ⟨z,rfl,hx,rfl⟩:=hX;exact leavesCell2 results322 hF rfl rfl zG zB (triedSS_pan (hW.picks zM) fun w hw=>Holds.end_ hR hw ⟨_,.inr ⟨z,hx,rfl,rfl⟩,zM⟩))) ?_;rintro v6 _ hk6;have hone:=hK1 _ _ hk6;refine O.perm (List.perm_append_comm) ?_;simp only [List.cons_append,List.nil_append];refine zz 2 ?_;refine O.nil<|S.retL fun a w hf hd hw=>?_;exact leavesCell2 results322 hf rfl rfl zG zB (triedSS_ret (hw.picks zM) fun w hw=>Holds.end_ hR hw ⟨_,.inl ⟨_,hk6,rfl⟩,zM⟩)
abbrev rootV (x:RootT) (v3 v4:Value):List Value:=[.int .i64 x.1,.int .i64 x.2.1,.int .i64 x.2.2.1,v3,v4]
abbrev rootWs (x:RootT) (v3 v4:Value):List SProp:=[OwnP Rp.u8 5 v3 x.2.2.2.1,OwnP Rp.u8 5 v4 x.2.2.2.2.1]
abbrev root0:List Value:=[.int .i64 0,.int .i64 0,.int .i64 0,.slice none 0 0,.slice none 0 0]
def RootK (b:List UInt8) (v:Value) (η:List SProp):Prop:=∃ x a3 c3 a4 c4,rootGet b=some x∧v=.agg (rootV x (.slice a3 x.2.2.2.1.length c3) (.slice a4 x.2.2.2.2.1.length c4)).toArray∧η=rootWs x (.slice a3 x.2.2.2.1.length c3) (.slice a4 x.2.2.2.2.1.length c4)
theorem tget1_c {r:Fr} {p:Nat} {va:Value} {b:List UInt8} (hp:At r ⟨p,0,none⟩ [va]) (ha:Arr Rp.u8 r va b) (hl:b.length≤1000000000) :
  Con prog 300 (#[]++#[]++#[.pointer (some ⟨p,0,none⟩)]) r [] (RetP (fun v η=>RootK b v η) (fun ch η=>∃ z,ch=errP 39 z∧(rootGet b=none∧z=4)∧η=[])):=by
 refine Con.of (n:=38) [.pointer (some ⟨p,0,none⟩)] rfl func300 rfl rfl rfl fun g hg R hR=>?_;have hp:=hp.mono hg;have ha:=ha.mono hg;have hbd:=ha.bound;obtain ⟨a1,c1,rfl⟩:=ha.shape
 by_cases h1:b.length=153
 ·by_cases h2:b[0]'zD=2
  ·have h2' :b.head?=some 2:=by rw [List.head?_eq_getElem?,List.getElem?_eq_getElem zD,h2]
   have htl:((b.take 25).drop 1).length=24:=by simp;omega
   have hQ:(b.drop 1).take 24=(b.take 25).drop 1:=by rw [List.drop_take]
   refine S.seq<|S.region rfl<|O.opE (.p rfl) (.alloc (cs:=[.int .i64 0,.int .i64 0,.int .i64 0,.slice none 0 0,.slice none 0 0]) zeroValue27 rfl) ?_;rintro _ _ ⟨b1,rfl,rfl⟩;refine zz 6 ?_;refine O.sT 6 rfl (by simp [h1])<|zz 2 ?_;refine O.ia (.g rfl rfl) underlying22 size5 rfl rfl (show _=((0:Nat):Int) from rfl) zA (h:=fun p9 cs9 hp9 hr9=>?_)
   cases hr9
   refine zz 2 ?_;refine O.sT 11 rfl (by simp [h2]) ?_;refine O.q 1 rfl<|O.callP0 (.p rfl) rfl zB rfl rfl (tmust_c _ _) (fun ch η' w hX hW=>by (exact absurd hX.1 zG)) ?_;rintro _ _ ⟨hb13,rfl,rfl⟩;refine zz 4 ?_;refine O.sliceMid (a:=1) (b:=25) (.p rfl) underlying22 size5 rfl rfl rfl zF zH zH zH zH (fun u15 ha15=>?_);obtain ⟨a15,c15,rfl⟩:=ha15.shape;refine O.call0 (.p rfl) rfl zB rfl rfl (rdNew_c zA zH) ?_;rintro _ _ ⟨b16,rfl,rfl⟩;refine zz 3 ?_;generalize hs:RS.mk true ((b.take 25).drop 1)=s;have i0:=RS.num_in s;refine zz 2 ?_;refine O.vS (.p rfl) rfl zB rfl rfl zC rdNumber_c ?_;refine O.op (.p rfl) (.build (cs:=[_,_,_,_,_]) underlying27 rfl rfl rfl rfl rfl)<|O.opE (.p rfl) (.alloc (cs:=[.int .i64 0,.int .i64 0,.int .i64 0,.slice none 0 0,.slice none 0 0]) zeroValue27 rfl) ?_;rintro _ _ ⟨b3,rfl,rfl⟩;refine zz 3 ?_;generalize hn:s.num=n at i0 ⊢;have i1:=RS.num_in n.2;refine zz 2 ?_;refine O.vS (.p rfl) rfl zB rfl rfl zC rdNumber_c ?_;refine O.q 1 rfl<|O.vS (.p rfl) rfl zB rfl rfl zC rdNumber_c<|zz 6 ?_;generalize hq:n.2.num=q at i1 ⊢;have i2:=RS.num_in q.2;generalize hw:q.2.num=w at i2 ⊢;refine S.regionD (L:=[0,1,3,4,2,6,5,7,8,9]) F.mixed zB ?_;refine zz 1 ?_;refine OD.sliceMid (a:=25) (b:=89) (.p rfl) underlying22 size5 rfl rfl rfl zF zH zH zH zH (fun u27 ha27=>?_);obtain ⟨a27,c27,rfl⟩:=ha27.shape;refine zz 1 ?_
   refine OD.sliceFrom (a:=89) (.p rfl) underlying22 size5 rfl rfl zF zH zH (fun u30 ha30=>?_);obtain ⟨a30,c30,rfl⟩:=ha30.shape;refine OD.call0 (.p rfl) zB rfl zB rfl rfl (bclone_c zA zH) ?_;rintro _ _ ⟨a28,c28,rfl,rfl⟩;refine .quiet (.p rfl) rfl (fun _=>.fieldObj fld27x3 rfl)<|OD.call0 (.p rfl) zB rfl zB rfl rfl (bclone_c zA zH) ?_;rintro _ _ ⟨a31,c31,rfl,rfl⟩;refine OD.store1 rfl zB flat22 rfl rfl zP zC zO ?_;refine .quiet (.p rfl) rfl (fun _=>.fieldObj fld27x4 rfl)<|OD.store1 rfl zB flat22 rfl rfl zP zC zO ?_;refine zz 2 ?_;have hX:rootQ b=(n.1,q.1,w.1,(b.take 89).drop 25,b.drop 89,()):=by
    unfold rootQ;rw [hQ,hs,List.drop_take]
    simp only
    rw [hn,hq,hw]
   have hrel:∀ {m:Fr} (v3 v4:Value),Arr Rp.u8 m v3 ((b.take 89).drop 25)→Arr Rp.u8 m v4 (b.drop 89)→RootRp.rel m [.int .i64 n.1,.int .i64 q.1,.int .i64 w.1,v3,v4] (n.1,q.1,w.1,(b.take 89).drop 25,b.drop 89,()):=fun v3 v4 h3 h4=>RootRp.mk i0 i1 i2 h3 h4
   cases e:rootOk (rootQ b) with
   |true =>
    have hyes:rootGet b=some (rootQ b):=by unfold rootGet;rw [if_pos ⟨h1,h2',e⟩]
    rw [hX] at hyes e;refine zz 2 ?_;refine O.callB (.p rfl) rfl zB rfl rfl (bs:=[OwnP Rp.u8 5 (.slice a28 ((b.take 89).drop 25).length c28) ((b.take 89).drop 25),OwnP Rp.u8 5 (.slice a31 (b.drop 89).length c31) (b.drop 89)]) zI (fun m hm hd=>tRight_c (hrel _ _ (hm.arr.right hd) (hm.tail.arr.right hd))) ?_;rintro _ _ ⟨rfl,rfl⟩;refine O.sT 35 rfl (by exact e) ?_;refine O.callP0 (.p rfl) rfl zB rfl rfl (tmust_c _ _) (fun ch η' w hX hW=>by (exact absurd hX.1 zG)) ?_;rintro _ _ ⟨hb36,rfl,rfl⟩;refine zz 5 ?_;refine O.nil<|S.retCellAgg results300 isAgg27 zB rfl zC fun w hw=>Holds.end_ hR hw ?_;exact pk ⟨_,a28,c28,a31,c31,hyes,rfl,rfl⟩
   |false =>
    have hno:rootGet b=none:=by unfold rootGet;rw [if_neg (fun q=>by rw [e] at q;exact absurd q.2.2 zE)]
    rw [hX] at e;refine zz 2 ?_;refine O.callB (.p rfl) rfl zB rfl rfl (bs:=[OwnP Rp.u8 5 (.slice a28 ((b.take 89).drop 25).length c28) ((b.take 89).drop 25),OwnP Rp.u8 5 (.slice a31 (b.drop 89).length c31) (b.drop 89)]) zI (fun m hm hd=>tRight_c (hrel _ _ (hm.arr.right hd) (hm.tail.arr.right hd))) ?_;rintro _ _ ⟨rfl,rfl⟩;refine O.sF 35 rfl (by exact e) ?_;refine O.callP0 (.p rfl) rfl zB rfl rfl (tmust_c _ _) (fun ch η' w hX hW=>by (obtain ⟨_,rfl,rfl⟩:=hX;exact hR _ _ w ⟨4,rfl,⟨hno,rfl⟩,rfl⟩ hW.drop_all)) ?_;rintro _ _ ⟨hb36,rfl,rfl⟩;exact absurd hb36 zG
  ·
   refine S.seq<|S.region rfl<|O.opE (.p rfl) (.alloc (cs:=[.int .i64 0,.int .i64 0,.int .i64 0,.slice none 0 0,.slice none 0 0]) zeroValue27 rfl) ?_;rintro _ _ ⟨b1,rfl,rfl⟩;refine zz 6 ?_;refine O.sT 6 rfl (by simp [h1])<|zz 2 ?_;refine O.ia (.g rfl rfl) underlying22 size5 rfl rfl (show _=((0:Nat):Int) from rfl) zA (h:=fun p9 cs9 hp9 hr9=>?_)
   cases hr9
   refine zz 2 ?_;refine O.sF 11 rfl (by simp;intro q;exact h2 (UInt8.toNat.inj (by have:(2:UInt8).toNat=2:=rfl;omega))) ?_;refine O.q 1 rfl<|O.callP0 (.p rfl) rfl zB rfl rfl (tmust_c _ _) (fun ch η' w hX hW=>by (obtain ⟨_,rfl,rfl⟩:=hX;exact hR _ _ w ⟨4,rfl,⟨by unfold rootGet;rw [if_neg (fun q=>h2 (by have q:=q.2.1;rw [List.head?_eq_getElem?,List.getElem?_eq_getElem zD] at q;exact Option.some.inj q))],rfl⟩,rfl⟩ hW.drop_all)) ?_;rintro _ _ ⟨hb13,rfl,rfl⟩;exact absurd hb13 zG
 ·
  refine S.seq<|S.region rfl<|O.opE (.p rfl) (.alloc (cs:=[.int .i64 0,.int .i64 0,.int .i64 0,.slice none 0 0,.slice none 0 0]) zeroValue27 rfl) ?_;rintro _ _ ⟨b1,rfl,rfl⟩;refine zz 6 ?_;refine O.sF 6 rfl zL ?_;refine O.q 6 rfl<|O.callP0 (.p rfl) rfl zB rfl rfl (tmust_c _ _) (fun ch η' w hX hW=>by (obtain ⟨_,rfl,rfl⟩:=hX;exact hR _ _ w ⟨4,rfl,⟨rootGet_len h1,rfl⟩,rfl⟩ hW.drop_all)) ?_;rintro _ _ ⟨hb13,rfl,rfl⟩;exact absurd hb13 zG
def root_t (b:List UInt8) (v:Value) (η:List SProp):Prop:=(∃ u,RootK b u η∧v=.tuple #[u,.int .i64 0])∨(rootGet b=none∧v=.tuple #[.agg root0.toArray,.int .i64 4]∧η=[])
theorem tTriedG_c {r:Fr} {first cap:Array Value} {b:List UInt8} (con:Con prog 300 (first++#[]++cap) r [] (RetP (fun v η=>RootK b v η) (fun ch η=>∃ z,ch=errP 39 z∧(rootGet b=none∧z=4)∧η=[]))) (h1:(Value.func (.func 300) first cap).oneCell' =true:=by rfl) :
  Con prog 299 #[.func (.func 300) first cap] r [] (Ret fun v η=>root_t b v η) :=
 (triedRR_c zB h1 (fun _ _ h=>by obtain ⟨x,a3,c3,a4,c4,_,rfl,_⟩:=h;exact ⟨_,rfl,rfl,rfl⟩) con).mono (Ret.imp fun v η h=>by
  rcases h with ⟨u,h2,h3⟩|⟨z,⟨h2,rfl⟩,h3,h4⟩
  ·exact .inl ⟨u,h2,h3⟩
  ·exact .inr ⟨h2,h4,h3⟩)
theorem root_tY {b:List UInt8} {x:RootT} {v:Value} {η:List SProp} (e:rootGet b=some x) (h:root_t b v η):∃ a3 c3 a4 c4,v=.tuple #[.agg (rootV x (.slice a3 x.2.2.2.1.length c3) (.slice a4 x.2.2.2.2.1.length c4)).toArray,.int .i64 0]∧η=rootWs x (.slice a3 x.2.2.2.1.length c3) (.slice a4 x.2.2.2.2.1.length c4):=by
 rcases h with ⟨_,⟨y,a3,c3,a4,c4,h1,rfl,rfl⟩,rfl⟩|⟨h1,_⟩
 ·rw [e] at h1;obtain rfl:=Option.some.inj h1;exact ⟨a3,c3,a4,c4,rfl,rfl⟩
 ·rw [e] at h1;cases h1
theorem root_tN {b:List UInt8} {v:Value} {η:List SProp} (e:rootGet b=none) (h:root_t b v η):v=.tuple #[.agg root0.toArray,.int .i64 4]∧η=[]:=by
 rcases h with ⟨_,⟨y,a3,c3,a4,c4,h1,_⟩,_⟩|⟨_,h1,h2⟩
 ·rw [e] at h1;cases h1
 ·exact ⟨h1,h2⟩
theorem tGet_c {r:Fr} {va:Value} {b:List UInt8} (ha:Arr Rp.u8 r va b) (hl:b.length≤1000000000):Con prog 274 #[va] r [] (Ret fun v η=>root_t b v η):=by
 refine Con.o func274 fun g hg R hR=>?_;have ha:=ha.mono hg;obtain ⟨a1,c1,rfl⟩:=ha.shape
 cases e:rootGet b with
 |some x =>
  refine S.seq<|S.region rfl<|O.opE (.p rfl) (.box (cs:=[_]) rfl rfl) ?_;rintro _ _ ⟨b1,rfl,rfl⟩;refine O.frzO zC fun g hs hm hb1=>?_;replace hg:=zfs hg hs;replace hR:=melted hR hm
  try replace ha:=ha.mono hs
  clear hs hm;refine O.opE (.p rfl) (.alloc (cs:=[.int .i64 0,.int .i64 0,.int .i64 0,.slice none 0 0,.slice none 0 0]) zeroValue27 rfl) ?_;rintro _ _ ⟨b2,rfl,rfl⟩;refine zz 5 ?_;refine O.call0 (.p rfl) rfl zB rfl rfl (((tTriedG_c (tget1_c hb1 ha hl)).mono (Ret.imp fun _ _ h=>root_tY e h))) ?_;rintro _ _ ⟨a3,c3,a4,c4,rfl,rfl⟩;refine zz 3 ?_;refine O.q 1 rfl<|O.nil<|S.retCellT results274 rfl rfl zC (LoadsAs.agg isAgg27 zB) fun w hw=>Holds.end_ hR hw ?_;exact pk (.inl ⟨_,⟨x,a3,c3,a4,c4,e,rfl,rfl⟩,rfl⟩)
 |none =>
  refine S.seq<|S.region rfl<|O.opE (.p rfl) (.box (cs:=[_]) rfl rfl) ?_;rintro _ _ ⟨b1,rfl,rfl⟩;refine O.frzO zC fun g hs hm hb1=>?_;replace hg:=zfs hg hs;replace hR:=melted hR hm
  try replace ha:=ha.mono hs
  clear hs hm;refine O.opE (.p rfl) (.alloc (cs:=[.int .i64 0,.int .i64 0,.int .i64 0,.slice none 0 0,.slice none 0 0]) zeroValue27 rfl) ?_;rintro _ _ ⟨b2,rfl,rfl⟩;refine zz 5 ?_;refine O.v0 (.p rfl) rfl zB rfl rfl (((tTriedG_c (tget1_c hb1 ha hl)).mono (Ret.imp fun _ _ h=>root_tN e h))) ?_;refine zz 3 ?_;refine O.q 1 rfl<|O.nil<|S.retCellT results274 rfl rfl zC (LoadsAs.agg isAgg27 zB) fun w hw=>Holds.end_ hR hw ?_;exact pk (.inr ⟨e,rfl,rfl⟩)
theorem tGetY_c {r:Fr} {va:Value} {b:List UInt8} {x:RootT} (e:rootGet b=some x) (ha:Arr Rp.u8 r va b) (hl:b.length≤1000000000):Con prog 274 #[va] r [] (Ret fun v η=>∃ a3 c3 a4 c4,v=.tuple #[.agg (rootV x (.slice a3 x.2.2.2.1.length c3) (.slice a4 x.2.2.2.2.1.length c4)).toArray,.int .i64 0]∧η=rootWs x (.slice a3 x.2.2.2.1.length c3) (.slice a4 x.2.2.2.2.1.length c4)):=(tGet_c ha hl).mono (Ret.imp fun _ _ h=>root_tY e h)
theorem tGetN_c {r:Fr} {va:Value} {b:List UInt8} (e:rootGet b=none) (ha:Arr Rp.u8 r va b) (hl:b.length≤1000000000):Con prog 274 #[va] r [] (Ret fun v η=>v=.tuple #[.agg root0.toArray,.int .i64 4]∧η=[]):=(tGet_c ha hl).mono (Ret.imp fun _ _ h=>root_tN e h)
end Go.Proofs.YtdjoggpacmpfnaaGreatDoor
