/- Texts of this proof. -/
import Derived.Test.YtojafegjlahajaaGreatDoorQEvid1
open Go Go.Sp Go.Proofs.Tryz
set_option maxRecDepth 100000
set_option maxHeartbeats 1000000
attribute [local irreducible] obj Own OwnP
namespace Go.Proofs.YtojafegjlahajaaGreatDoor
theorem triedB_ret {g:Gr} {bt bx:Nat} {x:Value} {T' :TypeId} {w:World} {R:Ending→World→Prop} {η:List SProp} (hw:Holds w g (obj bx T' [x]::η)) (hR:∀ w,Holds w g (obj bx T' [x]::η)→R (.returned x) w) :
  CallsD prog 389 #[.pointer (some ⟨bt,0,none⟩),.pointer (some ⟨bx,0,none⟩)] .returning w (DPost g bx R):=by
 refine (callsD_rec (R:=fun e w=>(∃ v,e=.returned v)∧Holds w g (obj bx T' [x]::η)) [.pointer (some ⟨bt,0,none⟩),.pointer (some ⟨bx,0,none⟩)] rfl func389 rfl rfl rfl rfl hw ?_).mono ?_
 rotate_left
 ·rintro e u' w' ⟨rfl,⟨v,rfl⟩,h⟩
  exact ⟨⟨v,rfl⟩,rfl,T',x,η,h,hR w' h⟩
 refine S.seq<|S.region rfl<|O.q 1 rfl<|O.op (.p rfl) (.neqIN underlying20 rfl)<|O.nil<|S.condF rfl<|S.skip<|S.end0 results389 fun w hw=>?_;exact ⟨⟨_,rfl⟩,hw⟩
theorem triedB_pan {g:Gr} {bt bx b:Nat} {v x:Value} {made bad:Bool} {T' Tt:TypeId} {w:World} {R:Ending→World→Prop} {η:List SProp} (hw:Holds w g (obj bx T' [x]::obj bt Tt [.pointer (some ⟨b,0,none⟩)]::obj b 441 [v,.bool made,.bool bad]::η))
  (hR:∀ w,Holds w g (obj bx T' [.int .u8 0]::obj b 441 [v,.bool made,.bool true]::η)→R (.returned (.int .u8 0)) w) :
  CallsD prog 389 #[.pointer (some ⟨bt,0,none⟩),.pointer (some ⟨bx,0,none⟩)] (.panicking missing) w (DPost g bx R):=by
 refine (callsD_rec (R:=fun e w=>(∃ v,e=.returned v)∧Holds w g (obj bx T' [.int .u8 0]::obj b 441 [v,.bool made,.bool true]::η)) [.pointer (some ⟨bt,0,none⟩),.pointer (some ⟨bx,0,none⟩)] rfl func389 rfl rfl rfl rfl hw ?_).mono ?_
 rotate_left
 ·rintro e u' w' ⟨rfl,⟨v,rfl⟩,h⟩
  exact ⟨⟨v,rfl⟩,rfl,T',_,_,h,hR w' h⟩
 refine zz 3 ?_;refine O.op (.p rfl) (.neqIV underlying20 rfl)<|zz 6 ?_;refine O.op (.p rfl) (.assertYes underlying459 rfl)<|zz 3 ?_;refine O.opE (.p rfl) (.alloc (cs:=[]) zeroValue459 rfl) ?_;rintro _ _ ⟨b3,rfl,rfl⟩;refine zz 24 ?_;refine O.nil<|S.end0 results389 fun w hw=>?_;exact ⟨⟨_,rfl⟩,hw.picks zN⟩
theorem triedB_c {r:Fr} {b f:Nat} {v:Value} {made bad:Bool} {first cap:Array Value} {K:Value→Value→List SProp→Prop} {X:Value→Prop} (hc:callable prog f=true) (hK1:∀ u v' ζ,K u v' ζ→u.oneCell' =true)
  (con:made=true→bad=false→Con prog f (first++#[]++cap) r [obj b 441 [v,.bool true,.bool false]] (RetP (fun u η=>∃ v' ζ,K u v' ζ∧η=obj b 441 [v',.bool true,.bool false]::ζ) (fun ch η=>ch=missing∧∃ v',X v' ∧η=[obj b 441 [v',.bool true,.bool false]]))) :
  Con prog 368 #[.pointer (some ⟨b,0,none⟩),.func (.func f) first cap] r [obj b 441 [v,.bool made,.bool bad]] (Ret fun u η =>
   ((made && !bad)=false∧u=.int .u8 0∧η=[obj b 441 [v,.bool made,.bool bad]])∨(made=true∧bad=false∧∃ v' ζ,K u v' ζ∧η=obj b 441 [v',.bool true,.bool false]::ζ) ∨
   (made=true∧bad=false∧∃ v',X v' ∧u=.int .u8 0∧η=[obj b 441 [v',.bool true,.bool true]])):=by
 refine Con.of (n:=12) [.pointer (some ⟨b,0,none⟩),.func (.func f) first cap] rfl func368 rfl rfl rfl fun g hg R hR=>?_;refine S.seq<|S.region rfl<|O.opE (.p rfl) (.box (cs:=[_]) rfl rfl) ?_;rintro _ _ ⟨b2,rfl,rfl⟩;refine O.opE (.p rfl) (.alloc (cs:=[.int .u8 0]) zeroValue5 rfl) ?_;rintro _ _ ⟨b4,rfl,rfl⟩;refine zz 5 ?_;refine O.vS (.p rfl) rfl zD rfl rfl zC rGood_c ?_;refine O.op (.p rfl) ((by first|exact .notD rfl|exact .not rfl))<|zz 1 ?_;refine S.cd rfl (fun h7=>?_) fun h7=>?_
 ·refine zz 4 ?_
  refine O.nil<|S.retCell results368 flat5 rfl zC fun w hw=>Holds.end_ hR hw ?_;exact pk (.inl ⟨by revert h7;cases made<;>cases bad<;>simp,rfl,rfl⟩)
 ·obtain ⟨rfl,rfl⟩:made=true∧bad=false:=by revert h7;cases made<;>cases bad<;>simp
  refine zz 4 ?_;refine O.defer rfl rfl rfl rfl<|zz 4 ?_;refine O.callPSD (.p rfl) rfl hc rfl rfl zC ((con rfl rfl).sub hg) (fun a ch η' w hF hX hW=>by (obtain ⟨rfl,v',hX',rfl⟩:=hX;exact leavesCell results368 flat5 hF rfl zH zD (triedB_pan (hW.picks zN) fun w hw=>Holds.end_ hR hw ⟨_,.inr (.inr ⟨rfl,rfl,v',hX',rfl,rfl⟩),zN⟩))) ?_;rintro v11 _ ⟨v',ζ,hK,rfl⟩;have hone:=hK1 _ _ _ hK;refine O.perm (List.Perm.cons _ List.perm_append_comm) ?_;simp only [List.cons_append,List.nil_append];refine zz 1 ?_;refine O.nil<|S.retL fun a w hf hd hw=>?_;exact leavesCell results368 flat5 hf rfl zH zD (triedB_ret hw fun w hw=>Holds.end_ hR hw ⟨_,.inr (.inl ⟨rfl,rfl,v',ζ,hK,rfl⟩),zN⟩)
theorem triedI_ret {g:Gr} {bt bx:Nat} {x:Value} {T' :TypeId} {w:World} {R:Ending→World→Prop} {η:List SProp} (hw:Holds w g (obj bx T' [x]::η)) (hR:∀ w,Holds w g (obj bx T' [x]::η)→R (.returned x) w) :
  CallsD prog 392 #[.pointer (some ⟨bt,0,none⟩),.pointer (some ⟨bx,0,none⟩)] .returning w (DPost g bx R):=by
 refine (callsD_rec (R:=fun e w=>(∃ v,e=.returned v)∧Holds w g (obj bx T' [x]::η)) [.pointer (some ⟨bt,0,none⟩),.pointer (some ⟨bx,0,none⟩)] rfl func392 rfl rfl rfl rfl hw ?_).mono ?_
 rotate_left
 ·rintro e u' w' ⟨rfl,⟨v,rfl⟩,h⟩
  exact ⟨⟨v,rfl⟩,rfl,T',x,η,h,hR w' h⟩
 refine S.seq<|S.region rfl<|O.q 1 rfl<|O.op (.p rfl) (.neqIN underlying20 rfl)<|O.nil<|S.condF rfl<|S.skip<|S.end0 results392 fun w hw=>?_;exact ⟨⟨_,rfl⟩,hw⟩
theorem triedI_pan {g:Gr} {bt bx b:Nat} {v x:Value} {made bad:Bool} {T' Tt:TypeId} {w:World} {R:Ending→World→Prop} {η:List SProp} (hw:Holds w g (obj bx T' [x]::obj bt Tt [.pointer (some ⟨b,0,none⟩)]::obj b 441 [v,.bool made,.bool bad]::η))
  (hR:∀ w,Holds w g (obj bx T' [.int .i64 0]::obj b 441 [v,.bool made,.bool true]::η)→R (.returned (.int .i64 0)) w) :
  CallsD prog 392 #[.pointer (some ⟨bt,0,none⟩),.pointer (some ⟨bx,0,none⟩)] (.panicking missing) w (DPost g bx R):=by
 refine (callsD_rec (R:=fun e w=>(∃ v,e=.returned v)∧Holds w g (obj bx T' [.int .i64 0]::obj b 441 [v,.bool made,.bool true]::η)) [.pointer (some ⟨bt,0,none⟩),.pointer (some ⟨bx,0,none⟩)] rfl func392 rfl rfl rfl rfl hw ?_).mono ?_
 rotate_left
 ·rintro e u' w' ⟨rfl,⟨v,rfl⟩,h⟩
  exact ⟨⟨v,rfl⟩,rfl,T',_,_,h,hR w' h⟩
 refine zz 3 ?_;refine O.op (.p rfl) (.neqIV underlying20 rfl)<|zz 6 ?_;refine O.op (.p rfl) (.assertYes underlying459 rfl)<|zz 3 ?_;refine O.opE (.p rfl) (.alloc (cs:=[]) zeroValue459 rfl) ?_;rintro _ _ ⟨b3,rfl,rfl⟩;refine zz 24 ?_;refine O.nil<|S.end0 results392 fun w hw=>?_;exact ⟨⟨_,rfl⟩,hw.picks zN⟩
theorem triedI_c {r:Fr} {b f:Nat} {v:Value} {made bad:Bool} {first cap:Array Value} {K:Value→Value→List SProp→Prop} {X:Value→Prop} (hc:callable prog f=true) (hK1:∀ u v' ζ,K u v' ζ→u.oneCell' =true)
  (con:made=true→bad=false→Con prog f (first++#[]++cap) r [obj b 441 [v,.bool true,.bool false]] (RetP (fun u η=>∃ v' ζ,K u v' ζ∧η=obj b 441 [v',.bool true,.bool false]::ζ) (fun ch η=>ch=missing∧∃ v',X v' ∧η=[obj b 441 [v',.bool true,.bool false]]))) :
  Con prog 374 #[.pointer (some ⟨b,0,none⟩),.func (.func f) first cap] r [obj b 441 [v,.bool made,.bool bad]] (Ret fun u η =>
   ((made && !bad)=false∧u=.int .i64 0∧η=[obj b 441 [v,.bool made,.bool bad]])∨(made=true∧bad=false∧∃ v' ζ,K u v' ζ∧η=obj b 441 [v',.bool true,.bool false]::ζ) ∨
   (made=true∧bad=false∧∃ v',X v' ∧u=.int .i64 0∧η=[obj b 441 [v',.bool true,.bool true]])):=by
 refine Con.of (n:=12) [.pointer (some ⟨b,0,none⟩),.func (.func f) first cap] rfl func374 rfl rfl rfl fun g hg R hR=>?_;refine S.seq<|S.region rfl<|O.opE (.p rfl) (.box (cs:=[_]) rfl rfl) ?_;rintro _ _ ⟨b2,rfl,rfl⟩;refine O.opE (.p rfl) (.alloc (cs:=[.int .i64 0]) zeroValue3 rfl) ?_;rintro _ _ ⟨b4,rfl,rfl⟩;refine zz 5 ?_;refine O.vS (.p rfl) rfl zD rfl rfl zC rGood_c ?_;refine O.op (.p rfl) ((by first|exact .notD rfl|exact .not rfl))<|zz 1 ?_;refine S.cd rfl (fun h7=>?_) fun h7=>?_
 ·refine zz 4 ?_
  refine O.nil<|S.retCell results374 flat3 rfl zC fun w hw=>Holds.end_ hR hw ?_;exact pk (.inl ⟨by revert h7;cases made<;>cases bad<;>simp,rfl,rfl⟩)
 ·obtain ⟨rfl,rfl⟩:made=true∧bad=false:=by revert h7;cases made<;>cases bad<;>simp
  refine zz 4 ?_;refine O.defer rfl rfl rfl rfl<|zz 4 ?_;refine O.callPSD (.p rfl) rfl hc rfl rfl zC ((con rfl rfl).sub hg) (fun a ch η' w hF hX hW=>by (obtain ⟨rfl,v',hX',rfl⟩:=hX;exact leavesCell results374 flat3 hF rfl zH zD (triedI_pan (hW.picks zN) fun w hw=>Holds.end_ hR hw ⟨_,.inr (.inr ⟨rfl,rfl,v',hX',rfl,rfl⟩),zN⟩))) ?_;rintro v11 _ ⟨v',ζ,hK,rfl⟩;have hone:=hK1 _ _ _ hK;refine O.perm (List.Perm.cons _ List.perm_append_comm) ?_;simp only [List.cons_append,List.nil_append];refine zz 1 ?_;refine O.nil<|S.retL fun a w hf hd hw=>?_;exact leavesCell results374 flat3 hf rfl zH zD (triedI_ret hw fun w hw=>Holds.end_ hR hw ⟨_,.inr (.inl ⟨rfl,rfl,v',ζ,hK,rfl⟩),zN⟩)
theorem triedS_ret {g:Gr} {bt bx:Nat} {x:Value} {T' :TypeId} {w:World} {R:Ending→World→Prop} {η:List SProp} (hw:Holds w g (obj bx T' [x]::η)) (hR:∀ w,Holds w g (obj bx T' [x]::η)→R (.returned x) w) :
  CallsD prog 390 #[.pointer (some ⟨bt,0,none⟩),.pointer (some ⟨bx,0,none⟩)] .returning w (DPost g bx R):=by
 refine (callsD_rec (R:=fun e w=>(∃ v,e=.returned v)∧Holds w g (obj bx T' [x]::η)) [.pointer (some ⟨bt,0,none⟩),.pointer (some ⟨bx,0,none⟩)] rfl func390 rfl rfl rfl rfl hw ?_).mono ?_
 rotate_left
 ·rintro e u' w' ⟨rfl,⟨v,rfl⟩,h⟩
  exact ⟨⟨v,rfl⟩,rfl,T',x,η,h,hR w' h⟩
 refine S.seq<|S.region rfl<|O.q 1 rfl<|O.op (.p rfl) (.neqIN underlying20 rfl)<|O.nil<|S.condF rfl<|S.skip<|S.end0 results390 fun w hw=>?_;exact ⟨⟨_,rfl⟩,hw⟩
theorem triedS_pan {g:Gr} {bt bx b:Nat} {v x:Value} {made bad:Bool} {T' Tt:TypeId} {w:World} {R:Ending→World→Prop} {η:List SProp} (hw:Holds w g (obj bx T' [x]::obj bt Tt [.pointer (some ⟨b,0,none⟩)]::obj b 441 [v,.bool made,.bool bad]::η))
  (hR:∀ w,Holds w g (obj bx T' [.slice none 0 0]::obj b 441 [v,.bool made,.bool true]::η)→R (.returned (.slice none 0 0)) w) :
  CallsD prog 390 #[.pointer (some ⟨bt,0,none⟩),.pointer (some ⟨bx,0,none⟩)] (.panicking missing) w (DPost g bx R):=by
 refine (callsD_rec (R:=fun e w=>(∃ v,e=.returned v)∧Holds w g (obj bx T' [.slice none 0 0]::obj b 441 [v,.bool made,.bool true]::η)) [.pointer (some ⟨bt,0,none⟩),.pointer (some ⟨bx,0,none⟩)] rfl func390 rfl rfl rfl rfl hw ?_).mono ?_
 rotate_left
 ·rintro e u' w' ⟨rfl,⟨v,rfl⟩,h⟩
  exact ⟨⟨v,rfl⟩,rfl,T',_,_,h,hR w' h⟩
 refine zz 3 ?_;refine O.op (.p rfl) (.neqIV underlying20 rfl)<|zz 6 ?_;refine O.op (.p rfl) (.assertYes underlying459 rfl)<|zz 3 ?_;refine O.opE (.p rfl) (.alloc (cs:=[]) zeroValue459 rfl) ?_;rintro _ _ ⟨b3,rfl,rfl⟩;refine zz 24 ?_;refine O.nil<|S.end0 results390 fun w hw=>?_;exact ⟨⟨_,rfl⟩,hw.picks zN⟩
theorem triedS_c {r:Fr} {b f:Nat} {v:Value} {made bad:Bool} {first cap:Array Value} {K:Value→Value→List SProp→Prop} {X:Value→Prop} (hc:callable prog f=true) (hK1:∀ u v' ζ,K u v' ζ→u.oneCell' =true)
  (con:made=true→bad=false→Con prog f (first++#[]++cap) r [obj b 441 [v,.bool true,.bool false]] (RetP (fun u η=>∃ v' ζ,K u v' ζ∧η=obj b 441 [v',.bool true,.bool false]::ζ) (fun ch η=>ch=missing∧∃ v',X v' ∧η=[obj b 441 [v',.bool true,.bool false]]))) :
  Con prog 370 #[.pointer (some ⟨b,0,none⟩),.func (.func f) first cap] r [obj b 441 [v,.bool made,.bool bad]] (Ret fun u η =>
   ((made && !bad)=false∧u=.slice none 0 0∧η=[obj b 441 [v,.bool made,.bool bad]])∨(made=true∧bad=false∧∃ v' ζ,K u v' ζ∧η=obj b 441 [v',.bool true,.bool false]::ζ) ∨
   (made=true∧bad=false∧∃ v',X v' ∧u=.slice none 0 0∧η=[obj b 441 [v',.bool true,.bool true]])):=by
 refine Con.of (n:=12) [.pointer (some ⟨b,0,none⟩),.func (.func f) first cap] rfl func370 rfl rfl rfl fun g hg R hR=>?_;refine S.seq<|S.region rfl<|O.opE (.p rfl) (.box (cs:=[_]) rfl rfl) ?_;rintro _ _ ⟨b2,rfl,rfl⟩;refine O.opE (.p rfl) (.alloc (cs:=[.slice none 0 0]) zeroValue24 rfl) ?_;rintro _ _ ⟨b4,rfl,rfl⟩;refine zz 5 ?_;refine O.vS (.p rfl) rfl zD rfl rfl zC rGood_c ?_;refine O.op (.p rfl) ((by first|exact .notD rfl|exact .not rfl))<|zz 1 ?_;refine S.cd rfl (fun h7=>?_) fun h7=>?_
 ·refine zz 4 ?_
  refine O.nil<|S.retCell results370 flat24 rfl zC fun w hw=>Holds.end_ hR hw ?_;exact pk (.inl ⟨by revert h7;cases made<;>cases bad<;>simp,rfl,rfl⟩)
 ·obtain ⟨rfl,rfl⟩:made=true∧bad=false:=by revert h7;cases made<;>cases bad<;>simp
  refine zz 4 ?_;refine O.defer rfl rfl rfl rfl<|zz 4 ?_;refine O.callPSD (.p rfl) rfl hc rfl rfl zC ((con rfl rfl).sub hg) (fun a ch η' w hF hX hW=>by (obtain ⟨rfl,v',hX',rfl⟩:=hX;exact leavesCell results370 flat24 hF rfl zH zD (triedS_pan (hW.picks zN) fun w hw=>Holds.end_ hR hw ⟨_,.inr (.inr ⟨rfl,rfl,v',hX',rfl,rfl⟩),zN⟩))) ?_;rintro v11 _ ⟨v',ζ,hK,rfl⟩;have hone:=hK1 _ _ _ hK;refine O.perm (List.Perm.cons _ List.perm_append_comm) ?_;simp only [List.cons_append,List.nil_append];refine zz 1 ?_;refine O.nil<|S.retL fun a w hf hd hw=>?_;exact leavesCell results370 flat24 hf rfl zH zD (triedS_ret hw fun w hw=>Holds.end_ hR hw ⟨_,.inr (.inl ⟨rfl,rfl,v',ζ,hK,rfl⟩),zN⟩)
theorem count_c {r:Fr} {b T:Nat} {v:Value} {cs:List Value} {rest:List UInt8} (most:Int) (ha:Arr Rp.u8 r v rest) :
  Con prog 373 #[.pointer (some ⟨b,0,none⟩),.int .i64 most] r [obj b T (v::cs)]
   (RetP (fun u η=>8≤rest.length∧(0≤ofBe rest∧ofBe rest≤most)∧∃ v',u=.int .i64 (ofBe rest)∧Arr Rp.u8 r v' (rest.drop 8)∧η=[obj b T (v' ::cs)])
    (fun ch η=>ch=missing∧∃ v',(rest.length<8∧v' =v∨8≤rest.length∧¬(0≤ofBe rest∧ofBe rest≤most)∧Arr Rp.u8 r v' (rest.drop 8))∧η=[obj b T (v' ::cs)])):=by
 refine Con.o func373 fun g hg R hR=>?_;refine zz 7 ?_;refine O.callPS (.p rfl) rfl zD rfl rfl zC ((number_c ha).sub hg) (fun ch η' w hX hW=>by (obtain ⟨hb,rfl,rfl⟩:=hX;exact hR _ _ w ⟨rfl,v,.inl ⟨hb,rfl⟩,rfl⟩ hW)) ?_;rintro v7 _ ⟨hl7,v7,rfl,ha7,rfl⟩;refine zz 7 ?_
 refine O.cs 10 rfl (fun h10=>?_) fun h10=>?_
 ·refine zz 4 ?_
  refine O.callP0 (.p rfl) rfl zD rfl rfl (must_c _) (fun ch η' w hX hW=>by (obtain ⟨hb,rfl,rfl⟩:=hX;exact hR _ _ w ⟨rfl,v7,.inr ⟨hl7,by simp at hb;omega,ha7⟩,rfl⟩ hW)) ?_;rintro _ _ ⟨hb15,rfl,rfl⟩;refine zz 6 ?_;refine S.ret results373 rfl fun w hw=>hR _ _ w ?_ hw;exact ⟨hl7,by simp at hb15;omega,v7,rfl,ha7,rfl⟩
 ·refine O.q 4 rfl<|O.callP0 (.p rfl) rfl zD rfl rfl (must_c _) (fun ch η' w hX hW=>by (obtain ⟨hb,rfl,rfl⟩:=hX;exact hR _ _ w ⟨rfl,v7,.inr ⟨hl7,by omega,ha7⟩,rfl⟩ hW)) ?_
  rintro _ _ ⟨hb15,rfl,rfl⟩;exact absurd hb15 zH
def KNum (r:Fr) (rest:List UInt8) (u v' :Value) (ζ:List SProp):Prop:=8≤rest.length∧u=.int .i64 (ofBe rest)∧Arr Rp.u8 r v' (rest.drop 8)∧ζ=[]
theorem numberR {r:Fr} {b:Nat} {v:Value} {rest:List UInt8} (ha:Arr Rp.u8 r v rest) :
  Con prog 375 (#[.pointer (some ⟨b,0,none⟩)]++#[]++#[]) r [obj b 441 [v,.bool true,.bool false]]
   (RetP (fun u η=>∃ v' ζ,KNum r rest u v' ζ∧η=obj b 441 [v',.bool true,.bool false]::ζ) (fun ch η=>ch=missing∧∃ v',(rest.length<8∧v' =v)∧η=[obj b 441 [v',.bool true,.bool false]])) :=
 (number_c (T:=441) (cs:=[.bool true,.bool false]) ha).mono fun e η h=>by
  cases e with
  |returned u=>obtain ⟨h1,v',h2,h3,h4⟩:=h;exact ⟨v',[],⟨h1,h2,h3,rfl⟩,h4⟩
  |panicked ch=>obtain ⟨h1,h2,h3⟩:=h;exact ⟨h2,v,⟨h1,rfl⟩,h3⟩
  |outgrown=>exact h.elim
theorem rNumber_c {r:Fr} {b:Nat} {v:Value} {rest:List UInt8} {made bad:Bool} (ha:Arr Rp.u8 r v rest) :
  Con prog 346 #[.pointer (some ⟨b,0,none⟩)] r [obj b 441 [v,.bool made,.bool bad]]
   (Ret fun u η=>∃ v',u=.int .i64 (rNum (made && !bad) rest).1∧Arr Rp.u8 r v' (rNum (made && !bad) rest).2.1∧η=[obj b 441 [v',.bool made,.bool (bad ||(rNum (made && !bad) rest).2.2)]]):=by
 refine Con.o func346 fun g hg R hR=>?_;refine zz 8 ?_;refine O.op (.p rfl) (.eqlP underlying423 rfl rfl)<|zz 10 ?_;refine O.callS (.p rfl) rfl zD rfl rfl zC ((triedI_c zD (K:=KNum r rest) (fun _ _ _ h=>by obtain ⟨_,rfl,_⟩:=h;rfl) fun _ _=>numberR ha).sub hg) ?_;rintro v10 _ h10;refine O.q 1 rfl<|O.nil<|S.ret results346 rfl fun w hw=>hR _ _ w ?_ hw
 rcases h10 with ⟨h1,rfl,rfl⟩|⟨rfl,rfl,v',ζ,⟨h1,rfl,h2,rfl⟩,rfl⟩|⟨rfl,rfl,v',⟨h1,rfl⟩,rfl,rfl⟩
 ·exact ⟨v,by simp [rNum,h1],by simpa [rNum,h1] using ha,by simp [rNum,h1]⟩
 ·exact ⟨v',by simp [rNum,h1],by simpa [rNum,h1] using h2,by simp [rNum,h1]⟩
 ·have h1:¬ 8≤rest.length:=by omega
  exact ⟨_,by simp [rNum,h1],by simpa [rNum,h1] using ha,by simp [rNum,h1]⟩
def KByte (r:Fr) (rest:List UInt8) (u v' :Value) (ζ:List SProp):Prop:=∃ x xs,rest=x::xs∧u=byteV x∧Arr Rp.u8 r v' xs∧ζ=[]
theorem oneR {r:Fr} {b:Nat} {v:Value} {rest:List UInt8} (ha:Arr Rp.u8 r v rest) :
  Con prog 369 (#[.pointer (some ⟨b,0,none⟩)]++#[]++#[]) r [obj b 441 [v,.bool true,.bool false]]
   (RetP (fun u η=>∃ v' ζ,KByte r rest u v' ζ∧η=obj b 441 [v',.bool true,.bool false]::ζ) (fun ch η=>ch=missing∧∃ v',(rest=[]∧v' =v)∧η=[obj b 441 [v',.bool true,.bool false]])) :=
 (one_c (T:=441) (cs:=[.bool true,.bool false]) ha).mono fun e η h=>by
  cases e with
  |returned u=>obtain ⟨x,xs,v',h1,h2,h3,h4⟩:=h;exact ⟨v',[],⟨x,xs,h1,h2,h3,rfl⟩,h4⟩
  |panicked ch=>obtain ⟨h1,h2,h3⟩:=h;exact ⟨h2,v,⟨h1,rfl⟩,h3⟩
  |outgrown=>exact h.elim
theorem rByte_c {r:Fr} {b:Nat} {v:Value} {rest:List UInt8} {made bad:Bool} (ha:Arr Rp.u8 r v rest) :
  Con prog 344 #[.pointer (some ⟨b,0,none⟩)] r [obj b 441 [v,.bool made,.bool bad]]
   (Ret fun u η=>∃ v',u=byteV (rByte (made && !bad) rest).1∧Arr Rp.u8 r v' (rByte (made && !bad) rest).2.1∧η=[obj b 441 [v',.bool made,.bool (bad ||(rByte (made && !bad) rest).2.2)]]):=by
 refine Con.o func344 fun g hg R hR=>?_;refine zz 8 ?_;refine O.op (.p rfl) (.eqlP underlying423 rfl rfl)<|zz 10 ?_;refine O.callS (.p rfl) rfl zD rfl rfl zC ((triedB_c zD (K:=KByte r rest) (fun _ _ _ h=>by obtain ⟨_,_,_,rfl,_⟩:=h;rfl) fun _ _=>oneR ha).sub hg) ?_;rintro v10 _ h10;refine O.q 1 rfl<|O.nil<|S.ret results344 rfl fun w hw=>hR _ _ w ?_ hw
 rcases h10 with ⟨h1,rfl,rfl⟩|⟨rfl,rfl,v',ζ,⟨x,xs,rfl,rfl,h2,rfl⟩,rfl⟩|⟨rfl,rfl,v',⟨rfl,rfl⟩,rfl,rfl⟩
 ·exact ⟨v,by simp [rByte,h1,byteV],by simpa [rByte,h1] using ha,by simp [rByte,h1]⟩
 ·exact ⟨v',by simp [rByte],by simpa [rByte] using h2,by simp [rByte]⟩
 ·exact ⟨_,by simp [rByte,byteV],by simpa [rByte] using ha,by simp [rByte]⟩
def KCount (r:Fr) (most:Int) (rest:List UInt8) (u v' :Value) (ζ:List SProp):Prop:=8≤rest.length∧(0≤ofBe rest∧ofBe rest≤most)∧u=.int .i64 (ofBe rest)∧Arr Rp.u8 r v' (rest.drop 8)∧ζ=[]
def XCount (r:Fr) (most:Int) (v:Value) (rest:List UInt8) (v' :Value):Prop:=rest.length<8∧v' =v∨8≤rest.length∧¬(0≤ofBe rest∧ofBe rest≤most)∧Arr Rp.u8 r v' (rest.drop 8)
theorem count1_c {r0 r:Fr} {b bt bm:Nat} {v:Value} {rest:List UInt8} {most:Int} (hs:r0.sub r) (ha:Arr Rp.u8 r0 v rest) (ht:At r ⟨bt,0,none⟩ [.pointer (some ⟨b,0,none⟩)]) (hm:At r ⟨bm,0,none⟩ [.int .i64 most]) :
  Con prog 376 (#[]++#[]++#[.pointer (some ⟨bt,0,none⟩),.pointer (some ⟨bm,0,none⟩)]) r [obj b 441 [v,.bool true,.bool false]]
   (RetP (fun u η=>∃ v' ζ,KCount r0 most rest u v' ζ∧η=obj b 441 [v',.bool true,.bool false]::ζ) (fun ch η=>ch=missing∧∃ v',XCount r0 most v rest v' ∧η=[obj b 441 [v',.bool true,.bool false]])):=by
 refine Con.of (n:=8) [.pointer (some ⟨bt,0,none⟩),.pointer (some ⟨bm,0,none⟩)] rfl func376 rfl rfl rfl fun g hg R hR=>?_;have ht:=ht.mono hg;have hm:=hm.mono hg;refine zz 5 ?_;refine S.regionD (L:=.range 6) F.mixed zD ?_;refine zz 4 ?_;refine OD.callPS (.p rfl) zD rfl zD rfl rfl zC ((count_c most ha).sub (zfs hs hg)) (fun ch η' w hX hW=>by (obtain ⟨rfl,v',hx,rfl⟩:=hX;exact hR _ _ w ⟨rfl,v',hx,rfl⟩ hW)) ?_;rintro v7 _ ⟨hl7,hm7,v7,rfl,ha7,rfl⟩;refine OD.q 1 rfl<|ODx.nil<|S.ret results376 rfl fun w hw=>hR _ _ w ?_ hw;exact ⟨v7,[],⟨hl7,hm7,rfl,ha7,rfl⟩,rfl⟩
theorem rCount_c {r:Fr} {b:Nat} {v:Value} {rest:List UInt8} {made bad:Bool} (most:Int) (ha:Arr Rp.u8 r v rest) :
  Con prog 347 #[.pointer (some ⟨b,0,none⟩),.int .i64 most] r [obj b 441 [v,.bool made,.bool bad]]
   (Ret fun u η=>∃ v',u=.int .i64 (rCount most (made && !bad) rest).1∧Arr Rp.u8 r v' (rCount most (made && !bad) rest).2.1∧η=[obj b 441 [v',.bool made,.bool (bad ||(rCount most (made && !bad) rest).2.2)]]):=by
 refine Con.o func347 fun g hg R hR=>?_;refine S.seq<|S.region rfl<|O.opE (.p rfl) (.box (cs:=[_]) rfl rfl) ?_;rintro _ _ ⟨b2,rfl,rfl⟩;refine O.opE (.p rfl) (.box (cs:=[_]) rfl rfl) ?_;rintro _ _ ⟨b3,rfl,rfl⟩;refine zz 6 ?_;refine O.freeze fun m1 hm1 hd1=>?_;refine O.freeze fun m2 hm2 hd2=>?_;have hg2:r.sub ((g.add m1).add m2).h:=zfs hg (zfs (Fr.sub_add_left _ _) (Fr.sub_add_left _ _));refine O.callS (.p rfl) rfl zD rfl rfl zC (triedI_c zD (K:=KCount r most rest) (X:=XCount r most v rest) (fun _ _ _ h=>by obtain ⟨_,_,rfl,_⟩:=h;rfl) fun _ _=>count1_c hg2 ha (obj_atR hm2 hd2) (obj_atR hm1 hd1).left) ?_;rintro v7 _ h7;refine O.q 1 rfl<|O.nil<|S.thaw (A:=fun _=>True) trivial hd2 (S.drop (S.thaw (A:=fun _=>True) trivial hd1 (S.drop ?_)));refine S.ret results347 rfl fun w hw=>hR _ _ w ?_ hw
 rcases h7 with ⟨h1,rfl,rfl⟩|⟨rfl,rfl,v',ζ,⟨h1,h3,rfl,h2,rfl⟩,rfl⟩|⟨rfl,rfl,v',h1,rfl,rfl⟩
 ·exact ⟨v,by simp [rCount,h1],by simpa [rCount,h1] using ha,by simp [rCount,h1]⟩
 ·exact ⟨v',by simp [rCount,h1,h3],by simpa [rCount,h1,h3] using h2,by simp [rCount,h1,h3]⟩
 ·rcases h1 with ⟨h1,rfl⟩|⟨h1,h3,h4⟩
  ·have h1:¬ 8≤rest.length:=by omega
   exact ⟨_,by simp [rCount,h1],by simpa [rCount,h1] using ha,by simp [rCount,h1]⟩
  ·exact ⟨v',by simp [rCount,h1,h3],by simpa [rCount,h1,h3] using h4,by simp [rCount,h1,h3]⟩
def KBytes (r:Fr) (e:TypeId) (most:Int) (rest:List UInt8) (u v' :Value) (ζ:List SProp):Prop :=
 8≤rest.length∧(0≤ofBe rest∧ofBe rest≤most)∧(ofBe rest).toNat≤(rest.drop 8).length∧Arr Rp.u8 r v' ((rest.drop 8).drop (ofBe rest).toNat) ∧
 ∃ a c,u=.slice a ((rest.drop 8).take (ofBe rest).toNat).length c∧ζ=[OwnP Rp.u8 e u ((rest.drop 8).take (ofBe rest).toNat)]
def XBytes (r:Fr) (most:Int) (v:Value) (rest:List UInt8) (v' :Value):Prop:=XCount r most v rest v' ∨8≤rest.length∧(0≤ofBe rest∧ofBe rest≤most)∧¬(ofBe rest).toNat≤(rest.drop 8).length∧Arr Rp.u8 r v' (rest.drop 8)
theorem bytes1_c {r0 r:Fr} {b bt bm:Nat} {v:Value} {rest:List UInt8} {most:Int} (hs:r0.sub r) (ha:Arr Rp.u8 r0 v rest) (hl:rest.length≤140737488355328) (ht:At r ⟨bt,0,none⟩ [.pointer (some ⟨b,0,none⟩)]) (hm:At r ⟨bm,0,none⟩ [.int .i64 most]) :
  Con prog 371 (#[]++#[]++#[.pointer (some ⟨bt,0,none⟩),.pointer (some ⟨bm,0,none⟩)]) r [obj b 441 [v,.bool true,.bool false]]
   (RetP (fun u η=>∃ v' ζ,KBytes r0 5 most rest u v' ζ∧η=obj b 441 [v',.bool true,.bool false]::ζ) (fun ch η=>ch=missing∧∃ v',XBytes r0 most v rest v' ∧η=[obj b 441 [v',.bool true,.bool false]])):=by
 refine Con.of (n:=13) [.pointer (some ⟨bt,0,none⟩),.pointer (some ⟨bm,0,none⟩)] rfl func371 rfl rfl rfl fun g hg R hR=>?_;have ht:=ht.mono hg;have hm:=hm.mono hg;refine zz 5 ?_;refine S.regionD (L:=.range 11) F.mixed zD ?_;refine zz 7 ?_;refine OD.callPS (.p rfl) zD rfl zD rfl rfl zC ((count_c most ha).sub (zfs hs hg)) (fun ch η' w hX hW=>by (obtain ⟨rfl,v',hx,rfl⟩:=hX;exact hR _ _ w ⟨rfl,v',.inl hx,rfl⟩ hW)) ?_;rintro v10 _ ⟨hl10,hm10,v10,rfl,ha10,rfl⟩;refine OD.callPS (.p rfl) zD rfl zD rfl rfl zC ((take_c _ ha10).sub (zfs hs hg)) (fun ch η' w hX hW=>by (obtain ⟨hb,rfl,rfl⟩:=hX;exact hR _ _ w ⟨rfl,v10,.inr ⟨hl10,hm10,by omega,ha10⟩,rfl⟩ hW)) ?_;rintro v11 _ ⟨hb11,a11,c11,v11,rfl,ha11,ha11',rfl⟩;refine OD.call0 (.p rfl) zD rfl zD rfl rfl ((cloneB_c (ha11.mono (zfs hs hg)) zK)) ?_;rintro _ _ ⟨a12,c12,rfl,rfl⟩;refine zz 2 ?_;exact S.rt results371 rfl hR ⟨v11,_,⟨hl10,hm10,by omega,ha11',a12,c12,rfl,rfl⟩,rfl⟩
theorem rBytes_c {r:Fr} {b:Nat} {v:Value} {rest:List UInt8} {made bad:Bool} (most:Int) (ha:Arr Rp.u8 r v rest) (hl:rest.length≤140737488355328) :
  Con prog 345 #[.pointer (some ⟨b,0,none⟩),.int .i64 most] r [obj b 441 [v,.bool made,.bool bad]]
   (Ret fun u η=>∃ a c v',u=.slice a (rBytes most (made && !bad) rest).1.length c∧Arr Rp.u8 r v' (rBytes most (made && !bad) rest).2.1 ∧
    η=[obj b 441 [v',.bool made,.bool (bad ||(rBytes most (made && !bad) rest).2.2)],OwnP Rp.u8 5 u (rBytes most (made && !bad) rest).1]):=by
 refine Con.o func345 fun g hg R hR=>?_;refine S.seq<|S.region rfl<|O.opE (.p rfl) (.box (cs:=[_]) rfl rfl) ?_;rintro _ _ ⟨b2,rfl,rfl⟩;refine O.opE (.p rfl) (.box (cs:=[_]) rfl rfl) ?_;rintro _ _ ⟨b3,rfl,rfl⟩;refine zz 6 ?_;refine O.freeze fun m1 hm1 hd1=>?_;refine O.freeze fun m2 hm2 hd2=>?_;have hg2:r.sub ((g.add m1).add m2).h:=zfs hg (zfs (Fr.sub_add_left _ _) (Fr.sub_add_left _ _));refine O.callS (.p rfl) rfl zD rfl rfl zC (triedS_c zD (K:=KBytes r 5 most rest) (X:=XBytes r most v rest) (fun _ _ _ h=>by obtain ⟨_,_,_,_,_,_,rfl,_⟩:=h;rfl) fun _ _=>bytes1_c hg2 ha hl (obj_atR hm2 hd2) (obj_atR hm1 hd1).left) ?_;rintro v7 _ h7;refine O.q 1 rfl<|O.nil<|S.thaw (A:=fun _=>True) trivial hd2 (S.drop (S.thaw (A:=fun _=>True) trivial hd1 (S.drop ?_)));refine S.addNil (T:=Rp.u8) (e:=5) ?_;refine S.ret results345 rfl fun w hw=>Holds.end_ hR hw ?_
 rcases h7 with ⟨h1,rfl,rfl⟩|⟨rfl,rfl,v',ζ,⟨h1,h3,h4,h5,a,c,rfl,rfl⟩,rfl⟩|⟨rfl,rfl,v',h1,rfl,rfl⟩
 ·have e:rBytes most (made && !bad) rest=([],rest,false):=by simp [rBytes,h1]
  rw [e];simp only [Bool.or_false];exact pk ⟨none,0,v,rfl,ha,rfl⟩
 ·have e:rBytes most (true && !false) rest=((rest.drop 8).take (ofBe rest).toNat,(rest.drop 8).drop (ofBe rest).toNat,false):=by
   simp only [rBytes,h1,h3,h4];rfl
  rw [e];simp only [Bool.or_false];exact pk ⟨a,c,v',rfl,h5,rfl⟩
 ·obtain ⟨rest',e,hr'⟩:∃ rest',rBytes most (true && !false) rest=([],rest',true)∧Arr Rp.u8 r v' rest' :=by
   rcases h1 with (⟨h1,rfl⟩|⟨h1,h3,h4⟩)|⟨h1,h3,h4,h5⟩
   ·have h1:¬ 8≤rest.length:=by omega
    exact ⟨_,by simp only [rBytes,h1];rfl,ha⟩
   ·exact ⟨_,by simp only [rBytes,h1,h3];rfl,h4⟩
   ·exact ⟨_,by simp only [rBytes,h1,h3,h4];rfl,h5⟩
  rw [e];simp only [Bool.false_or];exact pk ⟨none,0,v',rfl,hr',rfl⟩
end Go.Proofs.YtojafegjlahajaaGreatDoor
