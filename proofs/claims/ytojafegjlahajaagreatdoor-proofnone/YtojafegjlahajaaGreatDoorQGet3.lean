/- Texts of this proof. -/
import Derived.Test.YtojafegjlahajaaGreatDoorQWire2
open Go Go.Sp Go.Proofs.Tryz
set_option maxRecDepth 100000
set_option maxHeartbeats 1000000
attribute [local irreducible] obj Own OwnP
namespace Go.Proofs.YtojafegjlahajaaGreatDoor
theorem count_c {r:Fr} {b T:Nat} {v:Value} {cs:List Value} {rest:List UInt8} (most:Int) (ha:Arr Rp.u8 r v rest) :
  Con prog 373 #[.pointer (some ⟨b,0,none⟩),.int .i64 most] r [obj b T (v::cs)]
   (RetP (fun u η=>8≤rest.length∧(0≤ofBe rest∧ofBe rest≤most)∧∃ v',u=.int .i64 (ofBe rest)∧Arr Rp.u8 r v' (rest.drop 8)∧η=[obj b T (v' ::cs)])
    (fun ch η=>ch=missing∧∃ v',(rest.length<8∧v' =v∨8≤rest.length∧¬(0≤ofBe rest∧ofBe rest≤most)∧Arr Rp.u8 r v' (rest.drop 8))∧η=[obj b T (v' ::cs)])):=by
 refine Con.of (n:=17) _ rfl func373 rfl rfl rfl fun g hg R hR=>?_;refine S.seq<|S.region rfl<|O.q 1 rfl<|O.nil<|S.seq<|S.region rfl<|O.q 1 rfl<|O.callPS (.p rfl) rfl zD rfl rfl zB ((number_c ha).sub hg) (fun ch η' w hX hW=>by (obtain ⟨hb,rfl,rfl⟩:=hX;exact hR _ _ w ⟨rfl,v,.inl ⟨hb,rfl⟩,rfl⟩ hW)) ?_;rintro v7 _ ⟨hl7,v7,rfl,ha7,rfl⟩
 try simp only [zx1,zx2,zx3]
 refine O.q 1 rfl<|O.nil<|S.seq<|S.region rfl<|O.q 1 rfl<|O.op (.p rfl) (.geq rfl rfl)<|O.q 1 rfl ?_
 first|refine O.caseD 10 rfl (fun h10=>?_) (fun h10=>?_)|refine O.caseB 10 rfl (fun h10=>?_) (fun h10=>?_)
 ·refine O.q 2 rfl<|O.op (.g rfl rfl) (.leq rfl rfl)<|O.q 1 rfl<|O.callP0 (.p rfl) rfl zD rfl rfl (must_c _) (fun ch η' w hX hW=>by (obtain ⟨hb,rfl,rfl⟩:=hX;exact hR _ _ w ⟨rfl,v7,.inr ⟨hl7,by simp at hb;omega,ha7⟩,rfl⟩ hW)) ?_
  rintro _ _ ⟨hb15,rfl,rfl⟩
  try simp only [zx1,zx2,zx3]
  refine O.nil<|S.seq<|S.region rfl<|O.q 2 rfl<|O.nil<|S.ret results373 rfl fun w hw=>hR _ _ w ?_ hw;exact ⟨hl7,by simp at hb15;omega,v7,rfl,ha7,rfl⟩
 ·refine O.q 4 rfl<|O.callP0 (.p rfl) rfl zD rfl rfl (must_c _) (fun ch η' w hX hW=>by (obtain ⟨hb,rfl,rfl⟩:=hX;exact hR _ _ w ⟨rfl,v7,.inr ⟨hl7,by omega,ha7⟩,rfl⟩ hW)) ?_
  rintro _ _ ⟨hb15,rfl,rfl⟩
  try simp only [zx1,zx2,zx3]
  exact absurd hb15 zL
def KNum (r:Fr) (rest:List UInt8) (u v' :Value) (ζ:List SProp):Prop:=8≤rest.length∧u=.int .i64 (ofBe rest)∧Arr Rp.u8 r v' (rest.drop 8)∧ζ=[]
theorem numberR {r:Fr} {b:Nat} {v:Value} {rest:List UInt8} (ha:Arr Rp.u8 r v rest) :
  Con prog 375 (#[.pointer (some ⟨b,0,none⟩)]++#[]++#[]) r [obj b 441 [v,.bool true,.bool false]]
   (RetP (fun u η=>∃ v' ζ,KNum r rest u v' ζ∧η=obj b 441 [v',.bool true,.bool false]::ζ) (fun ch η=>ch=missing∧∃ v',(rest.length<8∧v' =v)∧η=[obj b 441 [v',.bool true,.bool false]])) :=
 (number_c (T:=441) (cs:=[.bool true,.bool false]) ha).mono fun e η h=>by
  cases e with
  |returned u=>obtain ⟨h1,v',h2,h3,h4⟩:=h;exact ⟨v',[],⟨h1,h2,h3,rfl⟩,h4⟩
  |panicked ch=>obtain ⟨h1,h2,h3⟩:=h;exact ⟨h2,v,⟨h1,rfl⟩,h3⟩
  |outgrown=>exact h.elim
theorem rNumber_c {r:Fr} {b:Nat} {v:Value} {rest:List UInt8} {made bad:Bool} (ha:Arr Rp.u8 r v rest) :
  Con prog 346 #[.pointer (some ⟨b,0,none⟩)] r [obj b 441 [v,.bool made,.bool bad]]
   (Ret fun u η=>∃ v',u=.int .i64 (rNum (made && !bad) rest).1∧Arr Rp.u8 r v' (rNum (made && !bad) rest).2.1∧η=[obj b 441 [v',.bool made,.bool (bad ||(rNum (made && !bad) rest).2.2)]]):=by
 refine Con.of (n:=11) _ rfl func346 rfl rfl rfl fun g hg R hR=>?_;refine S.seq<|S.region rfl<|O.q 1 rfl<|O.nil<|S.seq<|S.seq<|S.region rfl<|O.q 1 rfl<|O.op (.p rfl) (.eqlP underlying423 rfl rfl)<|O.nil<|S.condF rfl<|S.skip<|S.seq<|S.region rfl<|O.q 2 rfl<|O.op (.p rfl) (.nilCheck rfl)<|O.op (.p rfl) (.fieldAddr fld441x0 rfl)<|O.op (.p rfl) (.mkFunc rfl rfl)<|O.callS (.p rfl) rfl zD rfl rfl zB ((triedI_c zD (K:=KNum r rest) (fun _ _ _ h=>by obtain ⟨_,rfl,_⟩:=h;rfl) fun _ _=>numberR ha).sub hg) ?_;rintro v10 _ h10
 try simp only [zx1,zx2,zx3]
 refine O.q 1 rfl<|O.nil<|S.ret results346 rfl fun w hw=>hR _ _ w ?_ hw
 rcases h10 with ⟨h1,rfl,rfl⟩|⟨rfl,rfl,v',ζ,⟨h1,rfl,h2,rfl⟩,rfl⟩|⟨rfl,rfl,v',⟨h1,rfl⟩,rfl,rfl⟩
 ·exact ⟨v,by simp [rNum,h1],by simpa [rNum,h1] using ha,by simp [rNum,h1]⟩
 ·exact ⟨v',by simp [rNum,h1],by simpa [rNum,h1] using h2,by simp [rNum,h1]⟩
 ·have h1:¬ 8≤rest.length:=by omega
  exact ⟨_,by simp [rNum,h1],by simpa [rNum,h1] using ha,by simp [rNum,h1]⟩
def KByte (r:Fr) (rest:List UInt8) (u v' :Value) (ζ:List SProp):Prop:=∃ x xs,rest=x::xs∧u=byteV x∧Arr Rp.u8 r v' xs∧ζ=[]
theorem oneR {r:Fr} {b:Nat} {v:Value} {rest:List UInt8} (ha:Arr Rp.u8 r v rest) :
  Con prog 369 (#[.pointer (some ⟨b,0,none⟩)]++#[]++#[]) r [obj b 441 [v,.bool true,.bool false]]
   (RetP (fun u η=>∃ v' ζ,KByte r rest u v' ζ∧η=obj b 441 [v',.bool true,.bool false]::ζ) (fun ch η=>ch=missing∧∃ v',(rest=[]∧v' =v)∧η=[obj b 441 [v',.bool true,.bool false]])) :=
 (one_c (T:=441) (cs:=[.bool true,.bool false]) ha).mono fun e η h=>by
  cases e with
  |returned u=>obtain ⟨x,xs,v',h1,h2,h3,h4⟩:=h;exact ⟨v',[],⟨x,xs,h1,h2,h3,rfl⟩,h4⟩
  |panicked ch=>obtain ⟨h1,h2,h3⟩:=h;exact ⟨h2,v,⟨h1,rfl⟩,h3⟩
  |outgrown=>exact h.elim
theorem rByte_c {r:Fr} {b:Nat} {v:Value} {rest:List UInt8} {made bad:Bool} (ha:Arr Rp.u8 r v rest) :
  Con prog 344 #[.pointer (some ⟨b,0,none⟩)] r [obj b 441 [v,.bool made,.bool bad]]
   (Ret fun u η=>∃ v',u=byteV (rByte (made && !bad) rest).1∧Arr Rp.u8 r v' (rByte (made && !bad) rest).2.1∧η=[obj b 441 [v',.bool made,.bool (bad ||(rByte (made && !bad) rest).2.2)]]):=by
 refine Con.of (n:=11) _ rfl func344 rfl rfl rfl fun g hg R hR=>?_;refine S.seq<|S.region rfl<|O.q 1 rfl<|O.nil<|S.seq<|S.seq<|S.region rfl<|O.q 1 rfl<|O.op (.p rfl) (.eqlP underlying423 rfl rfl)<|O.nil<|S.condF rfl<|S.skip<|S.seq<|S.region rfl<|O.q 2 rfl<|O.op (.p rfl) (.nilCheck rfl)<|O.op (.p rfl) (.fieldAddr fld441x0 rfl)<|O.op (.p rfl) (.mkFunc rfl rfl)<|O.callS (.p rfl) rfl zD rfl rfl zB ((triedB_c zD (K:=KByte r rest) (fun _ _ _ h=>by obtain ⟨_,_,_,rfl,_⟩:=h;rfl) fun _ _=>oneR ha).sub hg) ?_;rintro v10 _ h10
 try simp only [zx1,zx2,zx3]
 refine O.q 1 rfl<|O.nil<|S.ret results344 rfl fun w hw=>hR _ _ w ?_ hw
 rcases h10 with ⟨h1,rfl,rfl⟩|⟨rfl,rfl,v',ζ,⟨x,xs,rfl,rfl,h2,rfl⟩,rfl⟩|⟨rfl,rfl,v',⟨rfl,rfl⟩,rfl,rfl⟩
 ·exact ⟨v,by simp [rByte,h1,byteV],by simpa [rByte,h1] using ha,by simp [rByte,h1]⟩
 ·exact ⟨v',by simp [rByte],by simpa [rByte] using h2,by simp [rByte]⟩
 ·exact ⟨_,by simp [rByte,byteV],by simpa [rByte] using ha,by simp [rByte]⟩
def KCount (r:Fr) (most:Int) (rest:List UInt8) (u v' :Value) (ζ:List SProp):Prop:=8≤rest.length∧(0≤ofBe rest∧ofBe rest≤most)∧u=.int .i64 (ofBe rest)∧Arr Rp.u8 r v' (rest.drop 8)∧ζ=[]
def XCount (r:Fr) (most:Int) (v:Value) (rest:List UInt8) (v' :Value):Prop:=rest.length<8∧v' =v∨8≤rest.length∧¬(0≤ofBe rest∧ofBe rest≤most)∧Arr Rp.u8 r v' (rest.drop 8)
theorem count1_c {r0 r:Fr} {b bt bm:Nat} {v:Value} {rest:List UInt8} {most:Int} (hs:r0.sub r) (ha:Arr Rp.u8 r0 v rest) (ht:At r ⟨bt,0,none⟩ [.pointer (some ⟨b,0,none⟩)]) (hm:At r ⟨bm,0,none⟩ [.int .i64 most]) :
  Con prog 376 (#[]++#[]++#[.pointer (some ⟨bt,0,none⟩),.pointer (some ⟨bm,0,none⟩)]) r [obj b 441 [v,.bool true,.bool false]]
   (RetP (fun u η=>∃ v' ζ,KCount r0 most rest u v' ζ∧η=obj b 441 [v',.bool true,.bool false]::ζ) (fun ch η=>ch=missing∧∃ v',XCount r0 most v rest v' ∧η=[obj b 441 [v',.bool true,.bool false]])):=by
 refine Con.of (n:=8) [.pointer (some ⟨bt,0,none⟩),.pointer (some ⟨bm,0,none⟩)] rfl func376 rfl rfl rfl fun g hg R hR=>?_;have ht:=ht.mono hg;have hm:=hm.mono hg;refine S.seq<|S.region rfl<|O.q 1 rfl<|O.nil<|S.seq<|S.regionD (L:=[0,1,2,3,4,5]) mixedF zD<|.quiet (.p rfl) rfl (fun _=>.loadAt flat423 rfl ht rfl) ?_;refine .quiet (.p rfl) rfl (fun _=>.nilCheck rfl)<|.quiet (.p rfl) rfl (fun _=>.fieldAddr fld441x0 rfl)<|.quiet (.p rfl) rfl (fun _=>.loadAt flat3 rfl hm rfl) ?_;refine OD.callPS (.p rfl) zD rfl zD rfl rfl zB ((count_c most ha).sub (Fr.sub_trans hs hg)) (fun ch η' w hX hW=>by (obtain ⟨rfl,v',hx,rfl⟩:=hX;exact hR _ _ w ⟨rfl,v',hx,rfl⟩ hW)) ?_;rintro v7 _ ⟨hl7,hm7,v7,rfl,ha7,rfl⟩
 try simp only [zx1,zx2,zx3]
 refine OD.q 1 rfl<|ODx.nil<|S.ret results376 rfl fun w hw=>hR _ _ w ?_ hw;exact ⟨v7,[],⟨hl7,hm7,rfl,ha7,rfl⟩,rfl⟩
theorem rCount_c {r:Fr} {b:Nat} {v:Value} {rest:List UInt8} {made bad:Bool} (most:Int) (ha:Arr Rp.u8 r v rest) :
  Con prog 347 #[.pointer (some ⟨b,0,none⟩),.int .i64 most] r [obj b 441 [v,.bool made,.bool bad]]
   (Ret fun u η=>∃ v',u=.int .i64 (rCount most (made && !bad) rest).1∧Arr Rp.u8 r v' (rCount most (made && !bad) rest).2.1∧η=[obj b 441 [v',.bool made,.bool (bad ||(rCount most (made && !bad) rest).2.2)]]):=by
 refine Con.of (n:=8) _ rfl func347 rfl rfl rfl fun g hg R hR=>?_;refine S.seq<|S.region rfl<|O.opE (.p rfl) (.box (cs:=[_]) rfl rfl) ?_;rintro _ _ ⟨b2,rfl,rfl⟩;refine O.opE (.p rfl) (.box (cs:=[_]) rfl rfl) ?_;rintro _ _ ⟨b3,rfl,rfl⟩;refine O.q 1 rfl<|O.nil<|S.seq<|S.region rfl<|O.op (.p rfl) (.lo flat423) ?_;refine O.op (.p rfl) (.mkFunc rfl rfl)<|O.freeze fun m1 hm1 hd1=>?_;refine O.freeze fun m2 hm2 hd2=>?_;have hg2:r.sub ((g.add m1).add m2).h:=Fr.sub_trans hg (Fr.sub_trans (Fr.sub_add_left _ _) (Fr.sub_add_left _ _));refine O.callS (.p rfl) rfl zD rfl rfl zB (triedI_c zD (K:=KCount r most rest) (X:=XCount r most v rest) (fun _ _ _ h=>by obtain ⟨_,_,rfl,_⟩:=h;rfl) fun _ _=>count1_c hg2 ha (obj_atR hm2 hd2) (obj_atR hm1 hd1).left) ?_;rintro v7 _ h7
 try simp only [zx1,zx2,zx3]
 refine O.q 1 rfl<|O.nil<|S.thaw (A:=fun _=>True) trivial hd2 (S.drop (S.thaw (A:=fun _=>True) trivial hd1 (S.drop ?_)));refine S.ret results347 rfl fun w hw=>hR _ _ w ?_ hw
 rcases h7 with ⟨h1,rfl,rfl⟩|⟨rfl,rfl,v',ζ,⟨h1,h3,rfl,h2,rfl⟩,rfl⟩|⟨rfl,rfl,v',h1,rfl,rfl⟩
 ·exact ⟨v,by simp [rCount,h1],by simpa [rCount,h1] using ha,by simp [rCount,h1]⟩
 ·exact ⟨v',by simp [rCount,h1,h3],by simpa [rCount,h1,h3] using h2,by simp [rCount,h1,h3]⟩
 ·rcases h1 with ⟨h1,rfl⟩|⟨h1,h3,h4⟩
  ·have h1:¬ 8≤rest.length:=by omega
   exact ⟨_,by simp [rCount,h1],by simpa [rCount,h1] using ha,by simp [rCount,h1]⟩
  ·exact ⟨v',by simp [rCount,h1,h3],by simpa [rCount,h1,h3] using h4,by simp [rCount,h1,h3]⟩
def KBytes (r:Fr) (e:TypeId) (most:Int) (rest:List UInt8) (u v' :Value) (ζ:List SProp):Prop :=
 8≤rest.length∧(0≤ofBe rest∧ofBe rest≤most)∧(ofBe rest).toNat≤(rest.drop 8).length∧Arr Rp.u8 r v' ((rest.drop 8).drop (ofBe rest).toNat) ∧
 ∃ a c,u=.slice a ((rest.drop 8).take (ofBe rest).toNat).length c∧ζ=[OwnP Rp.u8 e u ((rest.drop 8).take (ofBe rest).toNat)]
def XBytes (r:Fr) (most:Int) (v:Value) (rest:List UInt8) (v' :Value):Prop:=XCount r most v rest v' ∨8≤rest.length∧(0≤ofBe rest∧ofBe rest≤most)∧¬(ofBe rest).toNat≤(rest.drop 8).length∧Arr Rp.u8 r v' (rest.drop 8)
theorem bytes1_c {r0 r:Fr} {b bt bm:Nat} {v:Value} {rest:List UInt8} {most:Int} (hs:r0.sub r) (ha:Arr Rp.u8 r0 v rest) (hl:rest.length≤140737488355328) (ht:At r ⟨bt,0,none⟩ [.pointer (some ⟨b,0,none⟩)]) (hm:At r ⟨bm,0,none⟩ [.int .i64 most]) :
  Con prog 371 (#[]++#[]++#[.pointer (some ⟨bt,0,none⟩),.pointer (some ⟨bm,0,none⟩)]) r [obj b 441 [v,.bool true,.bool false]]
   (RetP (fun u η=>∃ v' ζ,KBytes r0 5 most rest u v' ζ∧η=obj b 441 [v',.bool true,.bool false]::ζ) (fun ch η=>ch=missing∧∃ v',XBytes r0 most v rest v' ∧η=[obj b 441 [v',.bool true,.bool false]])):=by
 refine Con.of (n:=13) [.pointer (some ⟨bt,0,none⟩),.pointer (some ⟨bm,0,none⟩)] rfl func371 rfl rfl rfl fun g hg R hR=>?_;have ht:=ht.mono hg;have hm:=hm.mono hg;refine S.seq<|S.region rfl<|O.q 1 rfl<|O.nil<|S.seq<|S.regionD (L:=[0,1,2,3,4,5,6,7,8,9,10]) mixedF zD<|.quiet (.p rfl) rfl (fun _=>.loadAt flat423 rfl ht rfl) ?_;refine .quiet (.p rfl) rfl (fun _=>.nilCheck rfl)<|.quiet (.p rfl) rfl (fun _=>.fieldAddr fld441x0 rfl)<|.quiet (.p rfl) rfl (fun _=>.loadAt flat423 rfl ht rfl) ?_;refine .quiet (.p rfl) rfl (fun _=>.nilCheck rfl)<|.quiet (.p rfl) rfl (fun _=>.fieldAddr fld441x0 rfl)<|.quiet (.p rfl) rfl (fun _=>.loadAt flat3 rfl hm rfl) ?_;refine OD.callPS (.p rfl) zD rfl zD rfl rfl zB ((count_c most ha).sub (Fr.sub_trans hs hg)) (fun ch η' w hX hW=>by (obtain ⟨rfl,v',hx,rfl⟩:=hX;exact hR _ _ w ⟨rfl,v',.inl hx,rfl⟩ hW)) ?_;rintro v10 _ ⟨hl10,hm10,v10,rfl,ha10,rfl⟩
 try simp only [zx1,zx2,zx3]
 refine OD.callPS (.p rfl) zD rfl zD rfl rfl zB ((take_c _ ha10).sub (Fr.sub_trans hs hg)) (fun ch η' w hX hW=>by (obtain ⟨hb,rfl,rfl⟩:=hX;exact hR _ _ w ⟨rfl,v10,.inr ⟨hl10,hm10,by omega,ha10⟩,rfl⟩ hW)) ?_;rintro v11 _ ⟨hb11,a11,c11,v11,rfl,ha11,ha11',rfl⟩
 try simp only [zx1,zx2,zx3]
 refine OD.call0 (.p rfl) zD rfl zD rfl rfl ((cloneB_c (ha11.mono (Fr.sub_trans hs hg)) zK)) ?_;rintro _ _ ⟨a12,c12,rfl,rfl⟩
 try simp only [zx1,zx2,zx3]
 refine OD.q 1 rfl<|ODx.nil ?_;exact S.rt results371 rfl hR ⟨v11,_,⟨hl10,hm10,by omega,ha11',a12,c12,rfl,rfl⟩,rfl⟩
theorem rBytes_c {r:Fr} {b:Nat} {v:Value} {rest:List UInt8} {made bad:Bool} (most:Int) (ha:Arr Rp.u8 r v rest) (hl:rest.length≤140737488355328) :
  Con prog 345 #[.pointer (some ⟨b,0,none⟩),.int .i64 most] r [obj b 441 [v,.bool made,.bool bad]]
   (Ret fun u η=>∃ a c v',u=.slice a (rBytes most (made && !bad) rest).1.length c∧Arr Rp.u8 r v' (rBytes most (made && !bad) rest).2.1 ∧
    η=[obj b 441 [v',.bool made,.bool (bad ||(rBytes most (made && !bad) rest).2.2)],OwnP Rp.u8 5 u (rBytes most (made && !bad) rest).1]):=by
 refine Con.of (n:=8) _ rfl func345 rfl rfl rfl fun g hg R hR=>?_;refine S.seq<|S.region rfl<|O.opE (.p rfl) (.box (cs:=[_]) rfl rfl) ?_;rintro _ _ ⟨b2,rfl,rfl⟩;refine O.opE (.p rfl) (.box (cs:=[_]) rfl rfl) ?_;rintro _ _ ⟨b3,rfl,rfl⟩;refine O.q 1 rfl<|O.nil<|S.seq<|S.region rfl<|O.op (.p rfl) (.lo flat423) ?_;refine O.op (.p rfl) (.mkFunc rfl rfl)<|O.freeze fun m1 hm1 hd1=>?_;refine O.freeze fun m2 hm2 hd2=>?_;have hg2:r.sub ((g.add m1).add m2).h:=Fr.sub_trans hg (Fr.sub_trans (Fr.sub_add_left _ _) (Fr.sub_add_left _ _));refine O.callS (.p rfl) rfl zD rfl rfl zB (triedS_c zD (K:=KBytes r 5 most rest) (X:=XBytes r most v rest) (fun _ _ _ h=>by obtain ⟨_,_,_,_,_,_,rfl,_⟩:=h;rfl) fun _ _=>bytes1_c hg2 ha hl (obj_atR hm2 hd2) (obj_atR hm1 hd1).left) ?_;rintro v7 _ h7
 try simp only [zx1,zx2,zx3]
 refine O.q 1 rfl<|O.nil<|S.thaw (A:=fun _=>True) trivial hd2 (S.drop (S.thaw (A:=fun _=>True) trivial hd1 (S.drop ?_)));refine S.addNil (T:=Rp.u8) (e:=5) ?_;refine S.ret results345 rfl fun w hw=>Holds.end_ hR hw ?_
 rcases h7 with ⟨h1,rfl,rfl⟩|⟨rfl,rfl,v',ζ,⟨h1,h3,h4,h5,a,c,rfl,rfl⟩,rfl⟩|⟨rfl,rfl,v',h1,rfl,rfl⟩
 ·have e:rBytes most (made && !bad) rest=([],rest,false):=by simp [rBytes,h1]
  rw [e];simp only [Bool.or_false];exact pk ⟨none,0,v,rfl,ha,rfl⟩
 ·have e:rBytes most (true && !false) rest=((rest.drop 8).take (ofBe rest).toNat,(rest.drop 8).drop (ofBe rest).toNat,false):=by
   simp only [rBytes,h1,h3,h4];rfl
  rw [e];simp only [Bool.or_false];exact pk ⟨a,c,v',rfl,h5,rfl⟩
 ·obtain ⟨rest',e,hr'⟩:∃ rest',rBytes most (true && !false) rest=([],rest',true)∧Arr Rp.u8 r v' rest' :=by
   rcases h1 with (⟨h1,rfl⟩|⟨h1,h3,h4⟩)|⟨h1,h3,h4,h5⟩
   ·have h1:¬ 8≤rest.length:=by omega
    exact ⟨_,by simp only [rBytes,h1];rfl,ha⟩
   ·exact ⟨_,by simp only [rBytes,h1,h3];rfl,h4⟩
   ·exact ⟨_,by simp only [rBytes,h1,h3,h4];rfl,h5⟩
  rw [e];simp only [Bool.false_or];exact pk ⟨none,0,v',rfl,hr',rfl⟩
theorem rdNew_c {r:Fr} {va:Value} {xs:List UInt8} (ha:Arr Rp.u8 r va xs) (hl:xs.length≤140737488355328):Con prog 343 #[va] r [] (Ret fun v η=>∃ b,v=.pointer (some ⟨b,0,none⟩)∧η=[RdP 441 b ⟨true,xs⟩]) :=
 (wNewReader_c ha hl).post fun e η' h w g hw=>by
  cases e with
  |returned u =>
   obtain ⟨b,a,c,rfl,rfl⟩:=h;exact ⟨_,⟨b,rfl,rfl⟩,hw.imp fun _ x=>rd_sat x⟩
  |panicked _=>exact h.elim
  |outgrown=>exact h.elim
theorem rdNumber_c {r:Fr} {b:Nat} {s:RS}:Con prog 346 #[.pointer (some ⟨b,0,none⟩)] r [RdP 441 b s] (Ret fun u η=>u=.int .i64 s.num.1∧η=[RdP 441 b s.num.2]) :=
 (Con.rd (Q:=fun u s' ζ=>u=.int .i64 s.num.1∧s' =s.num.2∧ζ=[]) fun m v made bad h1 h2=>(rNumber_c h2).mono (Ret.imp fun u η h=>by
  obtain ⟨v',rfl,h3,rfl⟩:=h;simp only [h1] at h3 ⊢;exact ⟨v',_,s.num.2,_,⟨rfl,rfl,rfl⟩,good_or h1,h3,rfl⟩)).mono (Ret.imp fun u η h=>by obtain ⟨s',ζ,⟨rfl,rfl,rfl⟩,rfl⟩:=h;exact ⟨rfl,rfl⟩)
theorem rdByte_c {r:Fr} {b:Nat} {s:RS}:Con prog 344 #[.pointer (some ⟨b,0,none⟩)] r [RdP 441 b s] (Ret fun u η=>u=byteV s.byte.1∧η=[RdP 441 b s.byte.2]) :=
 (Con.rd (Q:=fun u s' ζ=>u=byteV s.byte.1∧s' =s.byte.2∧ζ=[]) fun m v made bad h1 h2=>(rByte_c h2).mono (Ret.imp fun u η h=>by
  obtain ⟨v',rfl,h3,rfl⟩:=h;simp only [h1] at h3 ⊢;exact ⟨v',_,s.byte.2,_,⟨rfl,rfl,rfl⟩,good_or h1,h3,rfl⟩)).mono (Ret.imp fun u η h=>by obtain ⟨s',ζ,⟨rfl,rfl,rfl⟩,rfl⟩:=h;exact ⟨rfl,rfl⟩)
theorem rdCount_c {r:Fr} {b:Nat} {s:RS} (most:Int):Con prog 347 #[.pointer (some ⟨b,0,none⟩),.int .i64 most] r [RdP 441 b s] (Ret fun u η=>u=.int .i64 (s.count most).1∧η=[RdP 441 b (s.count most).2]) :=
 (Con.rd (Q:=fun u s' ζ=>u=.int .i64 (s.count most).1∧s' =(s.count most).2∧ζ=[]) fun m v made bad h1 h2=>(rCount_c most h2).mono (Ret.imp fun u η h=>by
  obtain ⟨v',rfl,h3,rfl⟩:=h;simp only [h1] at h3 ⊢;exact ⟨v',_,(s.count most).2,_,⟨rfl,rfl,rfl⟩,good_or h1,h3,rfl⟩)).mono (Ret.imp fun u η h=>by obtain ⟨s',ζ,⟨rfl,rfl,rfl⟩,rfl⟩:=h;exact ⟨rfl,rfl⟩)
theorem rdBytes_c {r:Fr} {b:Nat} {s:RS} (most:Int) (hl:s.rest.length≤140737488355328):Con prog 345 #[.pointer (some ⟨b,0,none⟩),.int .i64 most] r [RdP 441 b s] (Ret fun u η=>∃ a c,u=.slice a (s.bytes most).1.length c∧η=[RdP 441 b (s.bytes most).2,OwnP Rp.u8 5 (.slice a (s.bytes most).1.length c) (s.bytes most).1]) :=
 (Con.rd (Q:=fun u s' ζ=>∃ a c,u=.slice a (s.bytes most).1.length c∧s' =(s.bytes most).2∧ζ=[OwnP Rp.u8 5 (.slice a (s.bytes most).1.length c) (s.bytes most).1]) fun m v made bad h1 h2=>(rBytes_c most h2 hl).mono (Ret.imp fun u η h=>by
  obtain ⟨a,c,v',rfl,h3,rfl⟩:=h;simp only [h1] at h3 ⊢;exact ⟨v',_,(s.bytes most).2,_,⟨a,c,rfl,rfl,rfl⟩,good_or h1,h3,rfl⟩)).mono (Ret.imp fun u η h=>by obtain ⟨s',ζ,⟨a,c,rfl,rfl,rfl⟩,rfl⟩:=h;exact ⟨a,c,rfl,rfl⟩)
theorem rdDone_c {r:Fr} {b:Nat} {s:RS}:Con prog 348 #[.pointer (some ⟨b,0,none⟩)] r [RdP 441 b s] (Ret fun u η=>u=.bool s.done∧η=[RdP 441 b s]) :=
 (Con.rd (Q:=fun u s' ζ=>u=.bool s.done∧s' =s∧ζ=[]) fun m v made bad h1 h2=>(rDone_c h2).mono (Ret.imp fun u η h=>by
  obtain ⟨rfl,rfl⟩:=h;rw [h1];exact ⟨v,bad,s,[],⟨congrArg _ (by rw [Bool.eq_iff_iff,decide_eq_true_iff,RS.done_iff]),rfl,rfl⟩,h1,h2,rfl⟩)).mono (Ret.imp fun u η h=>by obtain ⟨s',ζ,⟨rfl,rfl,rfl⟩,rfl⟩:=h;exact ⟨rfl,rfl⟩)
theorem bequal_c {r:Fr} {va vb:Value} {xs ys:List UInt8} (ha:Arr Rp.u8 r va xs) (hb:Arr Rp.u8 r vb ys) :
  Con prog 122 #[va,vb] r [] (Ret fun v η=>v=.bool (decide (xs=ys))∧η=[]):=by
 refine Con.of (n:=10) _ rfl func122 rfl rfl rfl fun g hg R hR=>?_;have ha:=ha.mono hg;have hb:=hb.mono hg;refine S.seq<|S.region rfl<|O.q 1 rfl<|O.nil<|S.seq<|S.region rfl<|O.q 1 rfl<|O.op (.p rfl) (.toStr underlying24 underlying5 underlying9 rfl (by first|assumption|exact Arr.mono hg zE|exact Arr.left zE|exact Arr.left (Arr.mono hg zE))) ?_;refine O.q 1 rfl<|O.op (.p rfl) (.toStr underlying24 underlying5 underlying9 rfl (by first|assumption|exact Arr.mono hg zE|exact Arr.left zE|exact Arr.left (Arr.mono hg zE))) ?_;refine O.op (.p rfl) (.eqlS rfl rfl)<|O.q 1 rfl<|O.nil<|S.ret results122 rfl fun w hw=>hR _ _ w ?_ hw;exact ⟨by simp,rfl⟩
theorem triedSS_ret {g:Gr} {be bx:Nat} {x:Value} {z:Int} {T1 T2:TypeId} {w:World} {R:Ending→World→Prop} {η:List SProp} (hw:Holds w g (obj bx T1 [x]::obj be T2 [.int .i64 z]::η)) (hR:∀ w,Holds w g (obj bx T1 [x]::obj be T2 [.int .i64 z]::η)→R (.returned (.tuple #[x,.int .i64 z])) w) :
  CallsD prog 305 #[.pointer (some ⟨be,0,none⟩),.pointer (some ⟨bx,0,none⟩)] .returning w (DPost2 prog g bx be 22 44 R):=by
 refine (callsD_rec (R:=fun e w=>(∃ v,e=.returned v)∧Holds w g (obj bx T1 [x]::obj be T2 [.int .i64 z]::η)) [.pointer (some ⟨be,0,none⟩),.pointer (some ⟨bx,0,none⟩)] rfl func305 rfl rfl rfl rfl hw ?_).mono ?_
 rotate_left
 ·rintro e u' w' ⟨rfl,⟨v,rfl⟩,h⟩
  exact ⟨⟨v,rfl⟩,rfl,T1,T2,_,_,_,_,η,h,LoadsAs.flat flat22,LoadsAs.flat flat44,hR w' h⟩
 refine S.seq<|S.region rfl<|O.q 1 rfl<|O.op (.p rfl) (.neqIN underlying20 rfl)<|O.nil<|S.condF rfl<|S.skip<|S.end0 results305 fun w hw=>?_;exact ⟨⟨_,rfl⟩,hw⟩
theorem triedSS_pan {g:Gr} {be bx:Nat} {x:Value} {z z' :Int} {T1 T2:TypeId} {w:World} {R:Ending→World→Prop} {η:List SProp} (hw:Holds w g (obj bx T1 [x]::obj be T2 [.int .i64 z']::η))
  (hR:∀ w,Holds w g (obj bx T1 [.slice none 0 0]::obj be T2 [.int .i64 z]::η)→R (.returned (.tuple #[.slice none 0 0,.int .i64 z])) w) :
  CallsD prog 305 #[.pointer (some ⟨be,0,none⟩),.pointer (some ⟨bx,0,none⟩)] (.panicking (errP 44 z)) w (DPost2 prog g bx be 22 44 R):=by
 refine (callsD_rec (R:=fun e w=>(∃ v,e=.returned v)∧Holds w g (obj bx T1 [.slice none 0 0]::obj be T2 [.int .i64 z]::η)) [.pointer (some ⟨be,0,none⟩),.pointer (some ⟨bx,0,none⟩)] rfl func305 rfl rfl rfl rfl hw ?_).mono ?_
 rotate_left
 ·rintro e u' w' ⟨rfl,⟨v,rfl⟩,h⟩
  exact ⟨⟨v,rfl⟩,rfl,T1,T2,_,_,_,_,η,h,LoadsAs.flat flat22,LoadsAs.flat flat44,hR w' h⟩
 refine S.seq<|S.region rfl<|O.q 1 rfl<|O.op (.p rfl) (.neqIV underlying20 rfl)<|O.nil<|S.condT rfl<|S.seq<|S.region rfl<|O.q 1 rfl<|O.nil<|S.seq<|S.seq<|S.region rfl<|O.q 1 rfl<|O.op (.p rfl) (.assertYes underlying44 rfl)<|O.q 3 rfl<|O.opU rfl (.store1 flat44 rfl rfl zN zB zH) ?_;refine O.q 1 rfl<|O.nil<|S.seq<|S.region rfl<|O.q 1 rfl<|O.op (.p rfl) (.not rfl)<|O.nil<|S.condF rfl<|S.skip<|S.seq<|S.region rfl<|O.q 1 rfl<|O.nil<|S.region rfl<|O.q 1 rfl<|O.opU rfl (.store1 flat22 rfl rfl zN zB zH) ?_;refine O.nil<|S.end0 results305 fun w hw=>?_;exact ⟨⟨_,rfl⟩,hw.picks zQ⟩
theorem triedSS_c {r:Fr} {f:Nat} {first cap:Array Value} {K:Value→List SProp→Prop} {X:Int→Prop} (hc:callable prog f=true) (hf1:(Value.func (.func f) first cap).oneCell' =true) (hK1:∀ u ζ,K u ζ→u.oneCell' =true)
  (con:Con prog f (first++#[]++cap) r [] (RetP K (fun ch η=>∃ z,ch=errP 44 z∧X z∧η=[]))) :
  Con prog 239 #[.func (.func f) first cap] r [] (Ret fun v η=>(∃ u,K u η∧v=.tuple #[u,.int .i64 0])∨(∃ z,X z∧η=[]∧v=.tuple #[.slice none 0 0,.int .i64 z])):=by
 refine Con.of (n:=7) [.func (.func f) first cap] rfl func239 rfl rfl rfl fun g hg R hR=>?_;refine S.seq<|S.region rfl<|O.opE (.p rfl) (.alloc (cs:=[.slice none 0 0]) zeroValue22 rfl) ?_;rintro _ _ ⟨b2,rfl,rfl⟩;refine O.opE (.p rfl) (.alloc (cs:=[.int .i64 0]) zeroValue44 rfl) ?_;rintro _ _ ⟨b3,rfl,rfl⟩;refine O.nil<|S.seq<|S.region rfl<|O.op (.p rfl) (.mkFunc rfl rfl)<|O.defer rfl rfl rfl rfl ?_;refine O.nil<|S.seq<|S.region rfl<|O.q 1 rfl<|O.callP0D (.p rfl) rfl hc rfl rfl (con.sub hg) (fun a ch η' w hF hX hW=>by (obtain ⟨z,rfl,hx,rfl⟩:=hX;exact leavesCell2 results239 hF rfl rfl zL zD (triedSS_pan (hW.picks zQ) fun w hw=>Holds.end_ hR hw ⟨_,.inr ⟨z,hx,rfl,rfl⟩,by repeat (first|exact zpa|exact zpn|(apply zpc;focus (repeat (first|exact zh|apply zt)))|apply zps)⟩))) ?_;rintro v6 _ hk6
 try simp only [zx1,zx2,zx3]
 have hone:=hK1 _ _ hk6;refine O.perm (List.perm_append_comm) ?_;simp only [List.cons_append,List.nil_append];refine O.opU rfl (.store1 flat22 rfl rfl zN zB zH) ?_;refine O.opU rfl (.store1 flat44 rfl rfl zN zB zH) ?_;refine O.nil<|S.retL fun a w hf hd hw=>?_;exact leavesCell2 results239 hf rfl rfl zL zD (triedSS_ret (hw.picks zQ) fun w hw=>Holds.end_ hR hw ⟨_,.inl ⟨_,hk6,rfl⟩,by repeat (first|exact zpa|exact zpn|(apply zpc;focus (repeat (first|exact zh|apply zt)))|apply zps)⟩)
abbrev recV (x:RecT) (v3 v5 v6:Value):List Value:=[.string (str x.1),.int .i64 x.2.1,.int .i64 x.2.2.1,v3,.bool x.2.2.2.2.1,v5,v6]
abbrev recWs (x:RecT) (v3 v5 v6:Value):List SProp:=[OwnP DotRp 191 v3 x.2.2.2.1,OwnP Rp.u8 5 v5 x.2.2.2.2.2.1,OwnP Rp.u8 5 v6 x.2.2.2.2.2.2.1]
abbrev rec0:List Value:=[.string (str []),.int .i64 0,.int .i64 0,.slice none 0 0,.bool false,.slice none 0 0,.slice none 0 0]
theorem rGet_c {r:Fr} {va:Value} {b:List UInt8} (ha:Arr Rp.u8 r va b) (hl:b.length≤1000000000) :
  Con prog 311 #[va] r [] (Ret fun v η=>(∃ x a3 c3 a5 c5 a6 c6,recGet b=some x∧v=.tuple #[.agg (recV x (.slice a3 x.2.2.2.1.length c3) (.slice a5 x.2.2.2.2.2.1.length c5) (.slice a6 x.2.2.2.2.2.2.1.length c6)).toArray,.int .i64 0]∧η=recWs x (.slice a3 x.2.2.2.1.length c3) (.slice a5 x.2.2.2.2.2.1.length c5) (.slice a6 x.2.2.2.2.2.2.1.length c6))∨(recGet b=none∧v=.tuple #[.agg rec0.toArray,.int .i64 4]∧η=[])):=by
 refine Con.of (n:=76) _ rfl func311 rfl rfl rfl fun g hg R hR=>?_;have ha:=ha.mono hg;have hbd:=ha.bound;obtain ⟨a1,c1,rfl⟩:=ha.shape;refine S.seq<|S.region rfl<|O.opE (.p rfl) (.alloc (cs:=[.string ⟨#[]⟩,.int .i64 0,.int .i64 0,.slice none 0 0,.bool false,.slice none 0 0,.slice none 0 0]) zeroValue102 rfl) ?_;rintro _ _ ⟨b2,rfl,rfl⟩;refine O.q 1 rfl<|O.nil<|S.seq<|S.region rfl<|O.q 1 rfl<|O.op (.p rfl) (.len rfl underlying24 rfl)<|O.op (.p rfl) (.sub rfl rfl (IntWalk.i64_in _ zC))<|O.q 1 rfl<|O.nil<|S.seq<|S.seq<|S.region rfl<|O.q 1 rfl<|O.op (.p rfl) (.lss rfl rfl)<|O.nil ?_
 first|refine S.condD rfl (fun h13=>?_) (fun h13=>?_)|refine S.condB rfl (fun h13=>?_) (fun h13=>?_)
 ·refine S.seq<|S.region rfl<|O.op (.p rfl) (.build (cs:=[_,_,_,_,_,_,_]) underlying102 rfl rfl rfl rfl rfl)<|O.opU rfl (.storeObj zD rfl rfl rfl rfl zB zH) ?_
  refine O.q 1 rfl<|O.nil<|S.retCellT results311 rfl rfl zB (LoadsAs.agg isAgg102 zD) fun w hw=>Holds.end_ hR hw ?_;exact pk (.inr ⟨recGet_short zC,rfl,rfl⟩)
 ·have h64:64≤b.length:=by omega
  have htl:(b.take (b.length - 64)).length≤1000000000:=by rw [List.length_take];omega
  refine S.skip<|S.seq<|S.region rfl<|O.q 2 rfl<|O.sliceTo (b:=b.length - 64) (.p rfl) underlying24 size5 rfl rfl zE zI zI (fun u17 ha17=>?_);obtain ⟨a17,c17,rfl⟩:=ha17.shape;refine O.call0 (.p rfl) rfl zD rfl rfl (rdNew_c (by first|assumption|exact Arr.mono hg zE|exact Arr.left zE|exact Arr.left (Arr.mono hg zE)) zI) ?_;rintro _ _ ⟨b18,rfl,rfl⟩
  try simp only [zx1,zx2,zx3]
  refine O.q 1 rfl<|O.nil<|S.seq<|S.region rfl<|O.q 1 rfl<|O.callS (.p rfl) rfl zD rfl rfl zB rdByte_c ?_;rintro _ _ ⟨rfl,rfl⟩
  try simp only [zx1,zx2,zx3]
  refine O.nil (S.seq ?_);generalize hk:(RS.mk true (b.take (b.length - 64))).byte=k;have lk:k.2.rest.length≤1000000000:=by rw [← hk];exact Nat.le_trans (RS.byte_len _) htl
  have ly:=RS.bytes_out 64 k.2;refine S.regionJ (L:=[0,3,5,1,2,4,6,7,8,9]) (fun (p:Nat)=>[(6,.pointer (some ⟨p,0,none⟩))]) [(0,_),(2,_),(4,_),(5,_)] (fun (p:Nat)=>[RdP 441 b18 (k.2.bytes 64).2.num.2.num.2,obj p 102 [.string (str (k.2.bytes 64).1),.int .i64 (k.2.bytes 64).2.num.1,.int .i64 (k.2.bytes 64).2.num.2.num.1,.slice none 0 0,.bool false,.slice none 0 0,.slice none 0 0],obj b2 102 rec0]) (.cons rfl (.cons rfl (.cons rfl (.cons rfl (.nil))))) mixedF zD (fun kk key=>?_) (fun p=>?_)
  ·refine OD.q 3 rfl<|OD.callS (.p rfl) zD rfl zD rfl rfl zB (rdBytes_c _ zI) ?_
   rintro _ _ ⟨a22,c22,rfl,rfl⟩
   try simp only [zx1,zx2,zx3]
   refine OD.alt2 2 4 [4,6,7,8,9] [2,6,7,8,9] zD rfl rfl ?_ ?_
   ·refine ODt.toStrO (.p rfl) zD underlying24 underlying5 underlying9 rfl zB ?_
    refine OD.callS (.p rfl) zD rfl zD rfl rfl zB rdNumber_c ?_;rintro _ _ ⟨rfl,rfl⟩
    try simp only [zx1,zx2,zx3]
    refine OD.callS (.p rfl) zD rfl zD rfl rfl zB rdNumber_c ?_;rintro _ _ ⟨rfl,rfl⟩
    try simp only [zx1,zx2,zx3]
    refine .quiet (.p rfl) rfl (fun _=>.build (cs:=[_,_,_,_,_,_,_]) underlying102 rfl rfl rfl rfl rfl)<|.lazy rfl zD rfl fun b6=>?_;refine OD.storeObj rfl zD zD rfl rfl rfl rfl zB zH ?_;refine ODx.nil<|S.pk ?_ (S.weaken (Sub.app (.cons rfl (.nil)) (.cons rfl (.cons rfl (.cons rfl (.cons rfl (.nil)))))) (key b6))
    try dsimp only
    repeat (first|exact zpa|exact zpn|(apply zpc;focus (repeat (first|exact zh|apply zt)))|apply zps)
   ·refine ODt.callS (.p rfl) zD rfl zD rfl rfl zB rdNumber_c ?_
    rintro _ _ ⟨rfl,rfl⟩
    try simp only [zx1,zx2,zx3]
    refine OD.alt2 2 6 [6,7,8,9] [2,7,8,9] zD rfl rfl ?_ ?_
    ·refine ODt.toStrO (.p rfl) zD underlying24 underlying5 underlying9 rfl zB ?_
     refine OD.callS (.p rfl) zD rfl zD rfl rfl zB rdNumber_c ?_;rintro _ _ ⟨rfl,rfl⟩
     try simp only [zx1,zx2,zx3]
     refine .quiet (.p rfl) rfl (fun _=>.build (cs:=[_,_,_,_,_,_,_]) underlying102 rfl rfl rfl rfl rfl)<|.lazy rfl zD rfl fun b6=>?_;refine OD.storeObj rfl zD zD rfl rfl rfl rfl zB zH ?_;refine ODx.nil<|S.pk ?_ (S.weaken (Sub.app (.cons rfl (.nil)) (.cons rfl (.cons rfl (.cons rfl (.cons rfl (.nil)))))) (key b6))
     try dsimp only
     repeat (first|exact zpa|exact zpn|(apply zpc;focus (repeat (first|exact zh|apply zt)))|apply zps)
    ·refine ODt.callS (.p rfl) zD rfl zD rfl rfl zB rdNumber_c ?_
     rintro _ _ ⟨rfl,rfl⟩
     try simp only [zx1,zx2,zx3]
     refine OD.toStrO (.p rfl) zD underlying24 underlying5 underlying9 rfl zB ?_;refine .quiet (.p rfl) rfl (fun _=>.build (cs:=[_,_,_,_,_,_,_]) underlying102 rfl rfl rfl rfl rfl)<|.lazy rfl zD rfl fun b6=>?_;refine OD.storeObj rfl zD zD rfl rfl rfl rfl zB zH ?_;refine ODx.nil<|S.pk ?_ (S.weaken (Sub.app (.cons rfl (.nil)) (.cons rfl (.cons rfl (.cons rfl (.cons rfl (.nil)))))) (key b6))
     try dsimp only
     repeat (first|exact zpa|exact zpn|(apply zpc;focus (repeat (first|exact zh|apply zt)))|apply zps)
  generalize hy:k.2.bytes 64=y at ly ⊢;have ly2:y.2.rest.length≤1000000000:=by rw [← hy];exact Nat.le_trans (RS.bytes_len _ _) lk
  generalize hc:y.2.num=c;have lc:c.2.rest.length≤1000000000:=by rw [← hc];exact Nat.le_trans (RS.num_len _) ly2
  have ic:InI64 c.1:=by rw [← hc];exact RS.num_in _
  generalize hq:c.2.num=q;have lq:q.2.rest.length≤1000000000:=by rw [← hq];exact Nat.le_trans (RS.num_len _) lc
  have iq:InI64 q.1:=by rw [← hq];exact RS.num_in _
  refine S.seq<|S.seq<|S.region rfl<|O.q 1 rfl<|O.callS (.p rfl) rfl zD rfl rfl zB (rdCount_c _) ?_;rintro _ _ ⟨rfl,rfl⟩
  try simp only [zx1,zx2,zx3]
  refine O.q 1 rfl<|O.nil (S.block ?_);generalize hn:q.2.count 8=n;have ln:n.2.rest.length≤1000000000:=by rw [← hn];exact Nat.le_trans (RS.count_len _ _) lq
  obtain ⟨n0,n8⟩:0≤n.1∧n.1≤8:=by rw [← hn];exact RS.count_bd _ _ zF
  refine S.addNil (T:=DotRp) (e:=191) ?_;refine S.loopK2 (ι:=Nat) (κ:=Option Addr × Nat) (fun i a=>i≤n.1.toNat) (fun i a=>[(31,.int .i64 (i:Int))]) [(0,_),(2,_),(4,_),(5,_),(6,_),(30,_)] (fun i a=>[OwnP DotRp 191 (.slice a.1 i a.2) (dotsP i n.2).1,RdP 441 b18 (dotsP i n.2).2,obj p 102 [.string (str y.1),.int .i64 c.1,.int .i64 q.1,.slice a.1 i a.2,.bool false,.slice none 0 0,.slice none 0 0],obj b2 102 rec0]) (fun i a=>n.1.toNat - i) (0) ((none,0)) zL (.cons rfl (.nil)) (.cons rfl (.cons rfl (.cons rfl (.cons rfl (.cons rfl (.cons rfl (.nil))))))) rfl fun i a hx ih=>?_;have hm1:=meltRefl (g:=g);refine S.seq<|S.region rfl<|O.op (.p rfl) (.lss rfl rfl)<|O.nil (S.seq ?_)
  first|refine S.condD rfl (fun h32=>?_) (fun h32=>?_)|refine S.condB rfl (fun h32=>?_) (fun h32=>?_)
  ·have hi:i<n.1.toNat:=by omega
   have hg_o:=hg;have hR_o:=hR
   try have ha_o:=ha
   try have ha17_o:=ha17
   refine S.frzH (B:=obj p 102 [.string (str y.1),.int .i64 c.1,.int .i64 q.1,.slice a.1 i a.2,.bool false,.slice none 0 0,.slice none 0 0]) zB fun go hso ⟨mo,hmo,hsmo⟩ hbo=>?_;replace hg:=Fr.sub_trans hg hso;replace hR:=backR hR hbo
   try replace ha:=ha.mono hso
   try replace ha17:=ha17.mono hso
   have hat:=(obj_at hmo).mono hsmo;refine S.skip<|S.seq<|S.block<|S.regionD (L:=[0,1,2,4,3,5,6,7,8,9,10]) mixedF zD<|.quiet (.p rfl) rfl (fun _=>.fieldAddr fld102x3 rfl)<|.quiet (.p rfl) rfl (fun _=>.loadAt flat100 rfl (hat.drop 3) rfl) ?_;refine OD.q 2 rfl<|OD.callS (.p rfl) zD rfl zD rfl rfl zB rdNumber_c ?_;rintro _ _ ⟨rfl,rfl⟩
   try simp only [zx1,zx2,zx3]
   refine OD.callS (.p rfl) zD rfl zD rfl rfl zB rdNumber_c ?_;rintro _ _ ⟨rfl,rfl⟩
   try simp only [zx1,zx2,zx3]
   refine .quiet (.p rfl) rfl (fun _=>.build (cs:=[_,_]) underlying191 rfl rfl rfl rfl rfl)<|OD.litP (T:=DotRp) (ys:=[_]) (.p rfl) zD underlying100 elem191 zF rfl rfl ⟨(DotRp.mk (RS.num_in _) (RS.num_in _)),trivial⟩ zF (fun a40 c40=>?_);refine OD.appendO (.p rfl) zD (T:=DotRp) underlying100 elem191 zF rfl rfl zB zB zI zI (fun a41 c41=>?_);refine .quiet (.p rfl) rfl (fun _=>.fieldAddr fld102x3 rfl)<|OD.last1 rfl zD (fun _ hw=>hbo hw) flat100 rfl rfl zN zB zW ?_;replace hg:=hg_o;replace hR:=hR_o
   try replace ha:=ha_o
   try replace ha17:=ha17_o
   clear hg_o hR_o;refine S.inBlock<|S.region rfl<|O.op (.p rfl) (.add rfl rfl (IntWalk.i64_in _ zC))<|O.q 1 rfl<|O.nil ?_;simp only [dotsP_length,List.length_singleton];exact S.pw (ih (i+1) ((a41,c41)) zC zC)
  ·clear ih
   have hi:i=n.1.toNat:=by omega
   subst hi;generalize hd:dotsP n.1.toNat n.2=d;have ld:d.2.rest.length≤1000000000:=by rw [← hd];exact Nat.le_trans (dotsP_len _ _) ln
   have ldn:d.1.length=n.1.toNat:=by rw [← hd];exact dotsP_length _ _
   have id:∀ z∈d.1,dot64 z:=by rw [← hd];exact dotsP_in _ _
   rw [← ldn];refine S.exit rfl<|S.seq<|S.region rfl<|O.q 1 rfl<|O.callS (.p rfl) rfl zD rfl rfl zB rdByte_c ?_;rintro _ _ ⟨rfl,rfl⟩
   try simp only [zx1,zx2,zx3]
   refine O.op (.p rfl) (.neq rfl rfl)<|O.slot 46 (v' :=.bool (decide (d.2.byte.1≠0))) rfl (by simp [← UInt8.toNat_inj]) ?_;refine O.op (.p rfl) (.fieldObj fld102x4 rfl)<|O.opU rfl (.store1 flat4 rfl rfl zN zB zH) ?_;refine O.nil (S.seq ?_);generalize hg2:d.2.byte=g2;have lg2:g2.2.rest.length≤1000000000:=by rw [← hg2];exact Nat.le_trans (RS.byte_len _) ld
   refine S.regionD (L:=[0,2,3,4,1,6,5,7,8,9]) mixedF zD ?_;refine OD.q 3 rfl<|OD.sliceFrom (a:=b.length - 64) (.p rfl) underlying24 size5 rfl rfl zE zI zI (fun u52 ha52=>?_);obtain ⟨a52,c52,rfl⟩:=ha52.shape;refine OD.callS (.p rfl) zD rfl zD rfl rfl zB (rdBytes_c _ zI) ?_;rintro _ _ ⟨a49,c49,rfl,rfl⟩
   try simp only [zx1,zx2,zx3]
   refine .quiet (.p rfl) rfl (fun _=>.fieldObj fld102x5 rfl)<|OD.call0 (.p rfl) zD rfl zD rfl rfl (cloneB_c (by first|assumption|exact Arr.mono hg zE|exact Arr.left zE|exact Arr.left (Arr.mono hg zE)) zI) ?_;rintro _ _ ⟨a53,c53,rfl,rfl⟩
   try simp only [zx1,zx2,zx3]
   refine OD.store1 rfl zD flat24 rfl rfl zN zB zH ?_;refine .quiet (.p rfl) rfl (fun _=>.fieldObj fld102x6 rfl)<|OD.store1 rfl zD flat24 rfl rfl zN zB zH ?_;refine ODx.nil (S.seq ?_);generalize hv:g2.2.bytes 1024=v;have hX:recIn b=(y.1,c.1,q.1,d.1,decide (g2.1≠0),v.1,b.drop (b.length - 64),()):=by subst hv hg2 hd hn hq hc hy hk;rfl
   have hS:(recHd b).s=v.2:=by subst hv hg2 hd hn hq hc hy hk;rfl
   have hyes:=recGet_yes (b:=b);have hno:=recGet_no (b:=b);rw [hX] at hyes hno;rw [hS] at hno;have hrel:∀ {m:Fr} (v3 v5 v6:Value),Arr DotRp m v3 d.1→Arr Rp.u8 m v5 v.1→Arr Rp.u8 m v6 (b.drop (b.length - 64))→RecRp.rel m [.string (str y.1),.int .i64 c.1,.int .i64 q.1,v3,.bool (decide (g2.1≠0)),v5,v6] (y.1,c.1,q.1,d.1,decide (g2.1≠0),v.1,b.drop (b.length - 64),()):=fun v3 v5 v6 h3 h5 h6=>RecRp.mk zC ic iq h3 h5 h6;clear hX hS;generalize hXX:((y.1,c.1,q.1,d.1,decide (g2.1≠0),v.1,b.drop (b.length - 64),()):RecT)=X at hyes hno hrel;refine S.region rfl<|O.op (.p rfl) (.loA (news:=[_,_,_,_,_,_,_]) isAgg102) ?_;refine O.callB (.p rfl) rfl zD rfl rfl (bs:=[OwnP DotRp 191 (.slice a.1 d.1.length a.2) d.1,OwnP Rp.u8 5 (.slice a49 v.1.length c49) v.1,OwnP Rp.u8 5 (.slice a53 (b.drop (b.length - 64)).length c53) (b.drop (b.length - 64))]) zJ (fun m hm hd' =>rPut_c (x:=X) (hrel _ _ _ (hm.arr.right hd') (hm.tail.arr.right hd') (hm.tail.tail.arr.right hd'))) ?_;rintro _ _ ⟨a58,c58,rfl,rfl⟩
   try simp only [zx1,zx2,zx3]
   refine O.q 5 rfl<|O.nil (S.seq (S.seq ?_))
   cases e1:v.2.done with
   |false =>
    refine S.region rfl<|O.q 1 rfl<|O.callS (.p rfl) rfl zD rfl rfl zB rdDone_c ?_;rintro _ _ ⟨rfl,rfl⟩
    try simp only [zx1,zx2,zx3]
    refine O.sF 62 rfl (by exact e1) ?_;refine O.op (.p rfl) (.not rfl)<|O.q 10 rfl<|O.nil<|S.condT rfl<|S.seq<|S.region rfl<|O.op (.p rfl) (.build (cs:=[_,_,_,_,_,_,_]) underlying102 rfl rfl rfl rfl rfl)<|O.opU rfl (.storeObj zD rfl rfl rfl rfl zB zH) ?_;refine O.q 1 rfl<|O.nil<|S.retCellT results311 rfl rfl zB (LoadsAs.agg isAgg102 zD) fun w hw=>Holds.end_ hR hw ?_;exact pk (.inr ⟨hno fun q=>by rw [e1] at q;exact absurd q.1 zF,rfl,rfl⟩)
   |true =>
    cases e2:recOk X with
    |false =>
     refine S.region rfl<|O.q 1 rfl<|O.callS (.p rfl) rfl zD rfl rfl zB rdDone_c ?_;rintro _ _ ⟨rfl,rfl⟩
     try simp only [zx1,zx2,zx3]
     refine O.sT 62 rfl (by exact e1) ?_;refine O.op (.p rfl) (.not rfl)<|O.q 2 rfl<|O.op (.g rfl rfl) (.neq rfl rfl)<|O.sT 66 rfl (by simp [recErr,e2]) ?_;refine O.q 7 rfl<|O.nil<|S.condT rfl<|S.seq<|S.region rfl<|O.op (.p rfl) (.build (cs:=[_,_,_,_,_,_,_]) underlying102 rfl rfl rfl rfl rfl)<|O.opU rfl (.storeObj zD rfl rfl rfl rfl zB zH) ?_;refine O.q 1 rfl<|O.nil<|S.retCellT results311 rfl rfl zB (LoadsAs.agg isAgg102 zD) fun w hw=>Holds.end_ hR hw ?_;exact pk (.inr ⟨hno fun q=>by rw [e2] at q;exact absurd q.2.1 zF,rfl,rfl⟩)
    |true =>
     by_cases e3:recB X=b
     ·
      refine S.region rfl<|O.q 1 rfl<|O.callS (.p rfl) rfl zD rfl rfl zB rdDone_c ?_;rintro _ _ ⟨rfl,rfl⟩
      try simp only [zx1,zx2,zx3]
      refine O.sT 62 rfl (by exact e1) ?_;refine O.op (.p rfl) (.not rfl)<|O.q 2 rfl<|O.op (.g rfl rfl) (.neq rfl rfl)<|O.sF 66 rfl (by simp [recErr,e2]) ?_;refine O.q 4 rfl<|O.callB (.g rfl rfl) rfl zD rfl rfl (bs:=[OwnP Rp.u8 5 (.slice a58 (recOut X).length c58) (recOut X)]) zJ (fun m hm hd' =>bequal_c (hm.arr.right hd') ha.left) ?_;rintro _ _ ⟨rfl,rfl⟩
      try simp only [zx1,zx2,zx3]
      refine O.sT 71 rfl (by exact decide_eq_true (by rw [recOut,if_pos e2];exact e3)) ?_;refine O.op (.g rfl rfl) (.not rfl)<|O.q 1 rfl<|O.nil<|S.condF rfl<|S.skip<|S.seq<|S.region rfl<|O.op (.p rfl) (.loA (news:=[_,_,_,_,_,_,_]) isAgg102) ?_;refine O.opU rfl (.storeObj zD rfl rfl rfl rfl zB zH) ?_;refine O.q 1 rfl<|O.nil<|S.retCellT results311 rfl rfl zB (LoadsAs.agg isAgg102 zD) fun w hw=>Holds.end_ hR hw ?_;have hy' :=hyes e2 e3;subst hXX;exact pk (.inl ⟨_,a.1,a.2,a49,c49,a53,c53,hy',rfl,rfl⟩)
     ·
      refine S.region rfl<|O.q 1 rfl<|O.callS (.p rfl) rfl zD rfl rfl zB rdDone_c ?_;rintro _ _ ⟨rfl,rfl⟩
      try simp only [zx1,zx2,zx3]
      refine O.sT 62 rfl (by exact e1) ?_;refine O.op (.p rfl) (.not rfl)<|O.q 2 rfl<|O.op (.g rfl rfl) (.neq rfl rfl)<|O.sF 66 rfl (by simp [recErr,e2]) ?_;refine O.q 4 rfl<|O.callB (.g rfl rfl) rfl zD rfl rfl (bs:=[OwnP Rp.u8 5 (.slice a58 (recOut X).length c58) (recOut X)]) zJ (fun m hm hd' =>bequal_c (hm.arr.right hd') ha.left) ?_;rintro _ _ ⟨rfl,rfl⟩
      try simp only [zx1,zx2,zx3]
      refine O.sF 71 rfl (by exact decide_eq_false (by rw [recOut,if_pos e2];exact e3)) ?_;refine O.op (.g rfl rfl) (.not rfl)<|O.q 1 rfl<|O.nil<|S.condT rfl<|S.seq<|S.region rfl<|O.op (.p rfl) (.build (cs:=[_,_,_,_,_,_,_]) underlying102 rfl rfl rfl rfl rfl)<|O.opU rfl (.storeObj zD rfl rfl rfl rfl zB zH) ?_;refine O.q 1 rfl<|O.nil<|S.retCellT results311 rfl rfl zB (LoadsAs.agg isAgg102 zD) fun w hw=>Holds.end_ hR hw ?_;exact pk (.inr ⟨hno fun q=>e3 q.2.2,rfl,rfl⟩)
theorem rGetY_c {r:Fr} {va:Value} {b:List UInt8} {x:RecT} (e:recGet b=some x) (ha:Arr Rp.u8 r va b) (hl:b.length≤1000000000) :
  Con prog 311 #[va] r [] (Ret fun v η=>∃ a3 c3 a5 c5 a6 c6,v=.tuple #[.agg (recV x (.slice a3 x.2.2.2.1.length c3) (.slice a5 x.2.2.2.2.2.1.length c5) (.slice a6 x.2.2.2.2.2.2.1.length c6)).toArray,.int .i64 0]∧η=recWs x (.slice a3 x.2.2.2.1.length c3) (.slice a5 x.2.2.2.2.2.1.length c5) (.slice a6 x.2.2.2.2.2.2.1.length c6)) :=
 (rGet_c ha hl).mono (Ret.imp fun v η h=>by
  rcases h with ⟨y,a3,c3,a5,c5,a6,c6,h1,h2,h3⟩|⟨h1,_⟩
  ·rw [e] at h1;obtain rfl:=Option.some.inj h1;exact ⟨a3,c3,a5,c5,a6,c6,h2,h3⟩
  ·rw [e] at h1;cases h1)
end Go.Proofs.YtojafegjlahajaaGreatDoor
