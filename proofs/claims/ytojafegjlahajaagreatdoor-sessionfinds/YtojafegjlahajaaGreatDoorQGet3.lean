/- Texts of this proof. -/
import Derived.Test.YtojafegjlahajaaGreatDoorQWire2
open Go Go.Sp Go.Proofs.Tryz
set_option maxRecDepth 100000
set_option maxHeartbeats 1000000
attribute [local irreducible] obj Own av
namespace Go.Proofs.YtojafegjlahajaaGreatDoor
theorem HK {r:Fr} {b T:Nat} {v:Value} {cs:List Value} {rest:List UInt8} (most:Int) (ha:aj ag.u8 r v rest) :
  ay prog 373 #[.pointer (some ⟨b,0,none⟩),.int .i64 most] r [obj b T (v::cs)]
   (eN (fun u U=>8≤rest.length∧(0≤eX rest∧eX rest≤most)∧∃ v',u=.int .i64 (eX rest)∧aj ag.u8 r v' (rest.drop 8)∧U=[obj b T (v' ::cs)])
    (fun ch U=>ch=missing∧∃ v',(rest.length<8∧v' =v∨8≤rest.length∧¬(0≤eX rest∧eX rest≤most)∧aj ag.u8 r v' (rest.drop 8))∧U=[obj b T (v' ::cs)])):=by
 refine ay.of (n:=17) _ rfl func373 rfl rfl rfl fun g hg R hR=>?_;refine S.seq<|S.region rfl<|O.q 1 rfl<|O.nil<|S.seq<|S.region rfl<|O.q 1 rfl<|O.qz (.p rfl) rfl aa rfl rfl ai ((Kt ha).sub hg) (fun ch ax w hX hW=>by (obtain ⟨hb,rfl,rfl⟩:=hX;exact hR _ _ w ⟨rfl,v,.inl ⟨hb,rfl⟩,rfl⟩ hW)) ?_;rintro mB _ ⟨xx,mB,rfl,vt,rfl⟩
 try simp only [an,aq,au]
 refine O.q 1 rfl<|O.nil<|S.seq<|S.region rfl<|O.q 1 rfl<|O.op (.p rfl) (.geq rfl rfl)<|O.q 1 rfl ?_
 first|refine O.dK 10 rfl (fun h10=>?_) (fun h10=>?_)|refine O.dA 10 rfl (fun h10=>?_) (fun h10=>?_)
 ·refine O.q 2 rfl<|O.op (.g rfl rfl) (.leq rfl rfl)<|O.q 1 rfl<|O.kQ (.p rfl) rfl aa rfl rfl (AE _) (fun ch ax w hX hW=>by (obtain ⟨hb,rfl,rfl⟩:=hX;exact hR _ _ w ⟨rfl,mB,.inr ⟨xx,by simp at hb;omega,vt⟩,rfl⟩ hW)) ?_
  rintro _ _ ⟨DH,rfl,rfl⟩
  try simp only [an,aq,au]
  refine O.nil<|S.seq<|S.region rfl<|O.q 2 rfl<|O.nil<|S.ret results373 rfl fun w hw=>hR _ _ w ?_ hw;exact ⟨xx,by simp at DH;omega,mB,rfl,vt,rfl⟩
 ·refine O.q 4 rfl<|O.kQ (.p rfl) rfl aa rfl rfl (AE _) (fun ch ax w hX hW=>by (obtain ⟨hb,rfl,rfl⟩:=hX;exact hR _ _ w ⟨rfl,mB,.inr ⟨xx,by omega,vt⟩,rfl⟩ hW)) ?_
  rintro _ _ ⟨DH,rfl,rfl⟩
  try simp only [an,aq,au]
  exact absurd DH bL
def GB (r:Fr) (rest:List UInt8) (u v' :Value) (ζ:List az):Prop:=8≤rest.length∧u=.int .i64 (eX rest)∧aj ag.u8 r v' (rest.drop 8)∧ζ=[]
theorem Ub {r:Fr} {b:Nat} {v:Value} {rest:List UInt8} (ha:aj ag.u8 r v rest) :
  ay prog 375 (#[.pointer (some ⟨b,0,none⟩)]++#[]++#[]) r [obj b 441 [v,.bool true,.bool false]]
   (eN (fun u U=>∃ v' ζ,GB r rest u v' ζ∧U=obj b 441 [v',.bool true,.bool false]::ζ) (fun ch U=>ch=missing∧∃ v',(rest.length<8∧v' =v)∧U=[obj b 441 [v',.bool true,.bool false]])) :=
 (Kt (T:=441) (cs:=[.bool true,.bool false]) ha).mono fun e U h=>by
  cases e with
  |returned u=>obtain ⟨h1,v',h2,h3,h4⟩:=h;exact ⟨v',[],⟨h1,h2,h3,rfl⟩,h4⟩
  |panicked ch=>obtain ⟨h1,h2,h3⟩:=h;exact ⟨h2,v,⟨h1,rfl⟩,h3⟩
  |outgrown=>exact h.elim
theorem Vf {r:Fr} {b:Nat} {v:Value} {rest:List UInt8} {made bad:Bool} (ha:aj ag.u8 r v rest) :
  ay prog 346 #[.pointer (some ⟨b,0,none⟩)] r [obj b 441 [v,.bool made,.bool bad]]
   (aL fun u U=>∃ v',u=.int .i64 (lI (made && !bad) rest).1∧aj ag.u8 r v' (lI (made && !bad) rest).2.1∧U=[obj b 441 [v',.bool made,.bool (bad ||(lI (made && !bad) rest).2.2)]]):=by
 refine ay.of (n:=11) _ rfl func346 rfl rfl rfl fun g hg R hR=>?_;refine S.seq<|S.region rfl<|O.q 1 rfl<|O.nil<|S.seq<|S.seq<|S.region rfl<|O.q 1 rfl<|O.op (.p rfl) (.rM underlying423 rfl rfl)<|O.nil<|S.aQ rfl<|S.skip<|S.seq<|S.region rfl<|O.q 2 rfl<|O.op (.p rfl) (.nilCheck rfl)<|O.op (.p rfl) (.fieldAddr vi rfl)<|O.op (.p rfl) (.jb rfl rfl)<|O.bM (.p rfl) rfl aa rfl rfl ai ((LU aa (K:=GB r rest) (fun _ _ _ h=>by obtain ⟨_,rfl,_⟩:=h;rfl) fun _ _=>Ub ha).sub hg) ?_;rintro v10 _ h10
 try simp only [an,aq,au]
 refine O.q 1 rfl<|O.nil<|S.ret results346 rfl fun w hw=>hR _ _ w ?_ hw
 rcases h10 with ⟨h1,rfl,rfl⟩|⟨rfl,rfl,v',ζ,⟨h1,rfl,h2,rfl⟩,rfl⟩|⟨rfl,rfl,v',⟨h1,rfl⟩,rfl,rfl⟩
 ·exact ⟨v,by simp [lI,h1],by simpa [lI,h1] using ha,by simp [lI,h1]⟩
 ·exact ⟨v',by simp [lI,h1],by simpa [lI,h1] using h2,by simp [lI,h1]⟩
 ·have h1:¬ 8≤rest.length:=by omega
  exact ⟨_,by simp [lI,h1],by simpa [lI,h1] using ha,by simp [lI,h1]⟩
def Gy (r:Fr) (rest:List UInt8) (u v' :Value) (ζ:List az):Prop:=∃ x xs,rest=x::xs∧u=bK x∧aj ag.u8 r v' xs∧ζ=[]
theorem Uh {r:Fr} {b:Nat} {v:Value} {rest:List UInt8} (ha:aj ag.u8 r v rest) :
  ay prog 369 (#[.pointer (some ⟨b,0,none⟩)]++#[]++#[]) r [obj b 441 [v,.bool true,.bool false]]
   (eN (fun u U=>∃ v' ζ,Gy r rest u v' ζ∧U=obj b 441 [v',.bool true,.bool false]::ζ) (fun ch U=>ch=missing∧∃ v',(rest=[]∧v' =v)∧U=[obj b 441 [v',.bool true,.bool false]])) :=
 (Ui (T:=441) (cs:=[.bool true,.bool false]) ha).mono fun e U h=>by
  cases e with
  |returned u=>obtain ⟨x,xs,v',h1,h2,h3,h4⟩:=h;exact ⟨v',[],⟨x,xs,h1,h2,h3,rfl⟩,h4⟩
  |panicked ch=>obtain ⟨h1,h2,h3⟩:=h;exact ⟨h2,v,⟨h1,rfl⟩,h3⟩
  |outgrown=>exact h.elim
theorem U' {r:Fr} {b:Nat} {v:Value} {rest:List UInt8} {made bad:Bool} (ha:aj ag.u8 r v rest) :
  ay prog 344 #[.pointer (some ⟨b,0,none⟩)] r [obj b 441 [v,.bool made,.bool bad]]
   (aL fun u U=>∃ v',u=bK (mU (made && !bad) rest).1∧aj ag.u8 r v' (mU (made && !bad) rest).2.1∧U=[obj b 441 [v',.bool made,.bool (bad ||(mU (made && !bad) rest).2.2)]]):=by
 refine ay.of (n:=11) _ rfl func344 rfl rfl rfl fun g hg R hR=>?_;refine S.seq<|S.region rfl<|O.q 1 rfl<|O.nil<|S.seq<|S.seq<|S.region rfl<|O.q 1 rfl<|O.op (.p rfl) (.rM underlying423 rfl rfl)<|O.nil<|S.aQ rfl<|S.skip<|S.seq<|S.region rfl<|O.q 2 rfl<|O.op (.p rfl) (.nilCheck rfl)<|O.op (.p rfl) (.fieldAddr vi rfl)<|O.op (.p rfl) (.jb rfl rfl)<|O.bM (.p rfl) rfl aa rfl rfl ai ((XC aa (K:=Gy r rest) (fun _ _ _ h=>by obtain ⟨_,_,_,rfl,_⟩:=h;rfl) fun _ _=>Uh ha).sub hg) ?_;rintro v10 _ h10
 try simp only [an,aq,au]
 refine O.q 1 rfl<|O.nil<|S.ret results344 rfl fun w hw=>hR _ _ w ?_ hw
 rcases h10 with ⟨h1,rfl,rfl⟩|⟨rfl,rfl,v',ζ,⟨x,xs,rfl,rfl,h2,rfl⟩,rfl⟩|⟨rfl,rfl,v',⟨rfl,rfl⟩,rfl,rfl⟩
 ·exact ⟨v,by simp [mU,h1,bK],by simpa [mU,h1] using ha,by simp [mU,h1]⟩
 ·exact ⟨v',by simp [mU],by simpa [mU] using h2,by simp [mU]⟩
 ·exact ⟨_,by simp [mU,bK],by simpa [mU] using ha,by simp [mU]⟩
def GA (r:Fr) (most:Int) (rest:List UInt8) (u v' :Value) (ζ:List az):Prop:=8≤rest.length∧(0≤eX rest∧eX rest≤most)∧u=.int .i64 (eX rest)∧aj ag.u8 r v' (rest.drop 8)∧ζ=[]
def BW (r:Fr) (most:Int) (v:Value) (rest:List UInt8) (v' :Value):Prop:=rest.length<8∧v' =v∨8≤rest.length∧¬(0≤eX rest∧eX rest≤most)∧aj ag.u8 r v' (rest.drop 8)
theorem NJ {jA r:Fr} {b bI bm:Nat} {v:Value} {rest:List UInt8} {most:Int} (hs:jA.sub r) (ha:aj ag.u8 jA v rest) (ht:At r ⟨bI,0,none⟩ [.pointer (some ⟨b,0,none⟩)]) (hm:At r ⟨bm,0,none⟩ [.int .i64 most]) :
  ay prog 376 (#[]++#[]++#[.pointer (some ⟨bI,0,none⟩),.pointer (some ⟨bm,0,none⟩)]) r [obj b 441 [v,.bool true,.bool false]]
   (eN (fun u U=>∃ v' ζ,GA jA most rest u v' ζ∧U=obj b 441 [v',.bool true,.bool false]::ζ) (fun ch U=>ch=missing∧∃ v',BW jA most v rest v' ∧U=[obj b 441 [v',.bool true,.bool false]])):=by
 refine ay.of (n:=8) [.pointer (some ⟨bI,0,none⟩),.pointer (some ⟨bm,0,none⟩)] rfl func376 rfl rfl rfl fun g hg R hR=>?_;have ht:=ht.mono hg;have hm:=hm.mono hg;refine S.seq<|S.region rfl<|O.q 1 rfl<|O.nil<|S.seq<|S.bC (L:=[0,1,2,3,4,5]) bz aa<|.quiet (.p rfl) rfl (fun _=>.loadAt o7 rfl ht rfl) ?_;refine .quiet (.p rfl) rfl (fun _=>.nilCheck rfl)<|.quiet (.p rfl) rfl (fun _=>.fieldAddr vi rfl)<|.quiet (.p rfl) rfl (fun _=>.loadAt cz rfl hm rfl) ?_;refine af.qz (.p rfl) aa rfl aa rfl rfl ai ((HK most ha).sub (Fr.aI hs hg)) (fun ch ax w hX hW=>by (obtain ⟨rfl,v',hx,rfl⟩:=hX;exact hR _ _ w ⟨rfl,v',hx,rfl⟩ hW)) ?_;rintro mB _ ⟨xx,Qb,mB,rfl,vt,rfl⟩
 try simp only [an,aq,au]
 refine af.q 1 rfl<|aJ.nil<|S.ret results376 rfl fun w hw=>hR _ _ w ?_ hw;exact ⟨mB,[],⟨xx,Qb,rfl,vt,rfl⟩,rfl⟩
theorem Vb {r:Fr} {b:Nat} {v:Value} {rest:List UInt8} {made bad:Bool} (most:Int) (ha:aj ag.u8 r v rest) :
  ay prog 347 #[.pointer (some ⟨b,0,none⟩),.int .i64 most] r [obj b 441 [v,.bool made,.bool bad]]
   (aL fun u U=>∃ v',u=.int .i64 (kg most (made && !bad) rest).1∧aj ag.u8 r v' (kg most (made && !bad) rest).2.1∧U=[obj b 441 [v',.bool made,.bool (bad ||(kg most (made && !bad) rest).2.2)]]):=by
 refine ay.of (n:=8) _ rfl func347 rfl rfl rfl fun g hg R hR=>?_;refine S.seq<|S.region rfl<|O.aN (.p rfl) (.box (cs:=[_]) rfl rfl) ?_;rintro _ _ ⟨b2,rfl,rfl⟩;refine O.aN (.p rfl) (.box (cs:=[_]) rfl rfl) ?_;rintro _ _ ⟨b3,rfl,rfl⟩;refine O.q 1 rfl<|O.nil<|S.seq<|S.region rfl<|O.op (.p rfl) (.lo o7) ?_;refine O.op (.p rfl) (.jb rfl rfl)<|O.freeze fun m1 bh xg=>?_;refine O.freeze fun m2 hm2 hd2=>?_;have hg2:r.sub ((g.add m1).add m2).h:=Fr.aI hg (Fr.aI (Fr.dh _ _) (Fr.dh _ _));refine O.bM (.p rfl) rfl aa rfl rfl ai (LU aa (K:=GA r most rest) (X:=BW r most v rest) (fun _ _ _ h=>by obtain ⟨_,_,rfl,_⟩:=h;rfl) fun _ _=>NJ hg2 ha (AI hm2 hd2) (AI bh xg).left) ?_;rintro mB _ h7
 try simp only [an,aq,au]
 refine O.q 1 rfl<|O.nil<|S.oH (A:=fun _=>True) trivial hd2 (S.drop (S.oH (A:=fun _=>True) trivial xg (S.drop ?_)));refine S.ret results347 rfl fun w hw=>hR _ _ w ?_ hw
 rcases h7 with ⟨h1,rfl,rfl⟩|⟨rfl,rfl,v',ζ,⟨h1,h3,rfl,h2,rfl⟩,rfl⟩|⟨rfl,rfl,v',h1,rfl,rfl⟩
 ·exact ⟨v,by simp [kg,h1],by simpa [kg,h1] using ha,by simp [kg,h1]⟩
 ·exact ⟨v',by simp [kg,h1,h3],by simpa [kg,h1,h3] using h2,by simp [kg,h1,h3]⟩
 ·rcases h1 with ⟨h1,rfl⟩|⟨h1,h3,h4⟩
  ·have h1:¬ 8≤rest.length:=by omega
   exact ⟨_,by simp [kg,h1],by simpa [kg,h1] using ha,by simp [kg,h1]⟩
  ·exact ⟨v',by simp [kg,h1,h3],by simpa [kg,h1,h3] using h4,by simp [kg,h1,h3]⟩
def Gz (r:Fr) (e:TypeId) (most:Int) (rest:List UInt8) (u v' :Value) (ζ:List az):Prop :=
 8≤rest.length∧(0≤eX rest∧eX rest≤most)∧(eX rest).toNat≤(rest.drop 8).length∧aj ag.u8 r v' ((rest.drop 8).drop (eX rest).toNat) ∧
 ∃ a c,u=.slice a ((rest.drop 8).take (eX rest).toNat).length c∧ζ=[av ag.u8 e u ((rest.drop 8).take (eX rest).toNat)]
def GQ (r:Fr) (most:Int) (v:Value) (rest:List UInt8) (v' :Value):Prop:=BW r most v rest v' ∨8≤rest.length∧(0≤eX rest∧eX rest≤most)∧¬(eX rest).toNat≤(rest.drop 8).length∧aj ag.u8 r v' (rest.drop 8)
theorem M5 {jA r:Fr} {b bI bm:Nat} {v:Value} {rest:List UInt8} {most:Int} (hs:jA.sub r) (ha:aj ag.u8 jA v rest) (hl:rest.length≤140737488355328) (ht:At r ⟨bI,0,none⟩ [.pointer (some ⟨b,0,none⟩)]) (hm:At r ⟨bm,0,none⟩ [.int .i64 most]) :
  ay prog 371 (#[]++#[]++#[.pointer (some ⟨bI,0,none⟩),.pointer (some ⟨bm,0,none⟩)]) r [obj b 441 [v,.bool true,.bool false]]
   (eN (fun u U=>∃ v' ζ,Gz jA 5 most rest u v' ζ∧U=obj b 441 [v',.bool true,.bool false]::ζ) (fun ch U=>ch=missing∧∃ v',GQ jA most v rest v' ∧U=[obj b 441 [v',.bool true,.bool false]])):=by
 refine ay.of (n:=13) [.pointer (some ⟨bI,0,none⟩),.pointer (some ⟨bm,0,none⟩)] rfl func371 rfl rfl rfl fun g hg R hR=>?_;have ht:=ht.mono hg;have hm:=hm.mono hg;refine S.seq<|S.region rfl<|O.q 1 rfl<|O.nil<|S.seq<|S.bC (L:=[0,1,2,3,4,5,6,7,8,9,10]) bz aa<|.quiet (.p rfl) rfl (fun _=>.loadAt o7 rfl ht rfl) ?_;refine .quiet (.p rfl) rfl (fun _=>.nilCheck rfl)<|.quiet (.p rfl) rfl (fun _=>.fieldAddr vi rfl)<|.quiet (.p rfl) rfl (fun _=>.loadAt o7 rfl ht rfl) ?_;refine .quiet (.p rfl) rfl (fun _=>.nilCheck rfl)<|.quiet (.p rfl) rfl (fun _=>.fieldAddr vi rfl)<|.quiet (.p rfl) rfl (fun _=>.loadAt cz rfl hm rfl) ?_;refine af.qz (.p rfl) aa rfl aa rfl rfl ai ((HK most ha).sub (Fr.aI hs hg)) (fun ch ax w hX hW=>by (obtain ⟨rfl,v',hx,rfl⟩:=hX;exact hR _ _ w ⟨rfl,v',.inl hx,rfl⟩ hW)) ?_;rintro v10 _ ⟨I5,I8,v10,rfl,Iz,rfl⟩
 try simp only [an,aq,au]
 refine af.qz (.p rfl) aa rfl aa rfl rfl ai ((F9 _ Iz).sub (Fr.aI hs hg)) (fun ch ax w hX hW=>by (obtain ⟨hb,rfl,rfl⟩:=hX;exact hR _ _ w ⟨rfl,v10,.inr ⟨I5,I8,by omega,Iz⟩,rfl⟩ hW)) ?_;rintro v11 _ ⟨ZA,k8,n_,v11,rfl,Dv,O1,rfl⟩
 try simp only [an,aq,au]
 refine af.aC (.p rfl) aa rfl aa rfl rfl ((eG (Dv.mono (Fr.aI hs hg)) b9)) ?_;rintro _ _ ⟨a12,jI,rfl,rfl⟩
 try simp only [an,aq,au]
 refine af.q 1 rfl<|aJ.nil ?_;exact S.rt results371 rfl hR ⟨v11,_,⟨I5,I8,by omega,O1,a12,jI,rfl,rfl⟩,rfl⟩
theorem Va {r:Fr} {b:Nat} {v:Value} {rest:List UInt8} {made bad:Bool} (most:Int) (ha:aj ag.u8 r v rest) (hl:rest.length≤140737488355328) :
  ay prog 345 #[.pointer (some ⟨b,0,none⟩),.int .i64 most] r [obj b 441 [v,.bool made,.bool bad]]
   (aL fun u U=>∃ a c v',u=.slice a (lH most (made && !bad) rest).1.length c∧aj ag.u8 r v' (lH most (made && !bad) rest).2.1 ∧
    U=[obj b 441 [v',.bool made,.bool (bad ||(lH most (made && !bad) rest).2.2)],av ag.u8 5 u (lH most (made && !bad) rest).1]):=by
 refine ay.of (n:=8) _ rfl func345 rfl rfl rfl fun g hg R hR=>?_;refine S.seq<|S.region rfl<|O.aN (.p rfl) (.box (cs:=[_]) rfl rfl) ?_;rintro _ _ ⟨b2,rfl,rfl⟩;refine O.aN (.p rfl) (.box (cs:=[_]) rfl rfl) ?_;rintro _ _ ⟨b3,rfl,rfl⟩;refine O.q 1 rfl<|O.nil<|S.seq<|S.region rfl<|O.op (.p rfl) (.lo o7) ?_;refine O.op (.p rfl) (.jb rfl rfl)<|O.freeze fun m1 bh xg=>?_;refine O.freeze fun m2 hm2 hd2=>?_;have hg2:r.sub ((g.add m1).add m2).h:=Fr.aI hg (Fr.aI (Fr.dh _ _) (Fr.dh _ _));refine O.bM (.p rfl) rfl aa rfl rfl ai (XQ aa (K:=Gz r 5 most rest) (X:=GQ r most v rest) (fun _ _ _ h=>by obtain ⟨_,_,_,_,_,_,rfl,_⟩:=h;rfl) fun _ _=>M5 hg2 ha hl (AI hm2 hd2) (AI bh xg).left) ?_;rintro mB _ h7
 try simp only [an,aq,au]
 refine O.q 1 rfl<|O.nil<|S.oH (A:=fun _=>True) trivial hd2 (S.drop (S.oH (A:=fun _=>True) trivial xg (S.drop ?_)));refine S.gd (T:=ag.u8) (e:=5) ?_;refine S.ret results345 rfl fun w hw=>Holds.end_ hR hw ?_
 rcases h7 with ⟨h1,rfl,rfl⟩|⟨rfl,rfl,v',ζ,⟨h1,h3,h4,h5,a,c,rfl,rfl⟩,rfl⟩|⟨rfl,rfl,v',h1,rfl,rfl⟩
 ·have e:lH most (made && !bad) rest=([],rest,false):=by simp [lH,h1]
  rw [e];simp only [Bool.or_false];exact pk ⟨none,0,v,rfl,ha,rfl⟩
 ·have e:lH most (true && !false) rest=((rest.drop 8).take (eX rest).toNat,(rest.drop 8).drop (eX rest).toNat,false):=by
   simp only [lH,h1,h3,h4];rfl
  rw [e];simp only [Bool.or_false];exact pk ⟨a,c,v',rfl,h5,rfl⟩
 ·obtain ⟨rest',e,hr'⟩:∃ rest',lH most (true && !false) rest=([],rest',true)∧aj ag.u8 r v' rest' :=by
   rcases h1 with (⟨h1,rfl⟩|⟨h1,h3,h4⟩)|⟨h1,h3,h4,h5⟩
   ·have h1:¬ 8≤rest.length:=by omega
    exact ⟨_,by simp only [lH,h1];rfl,ha⟩
   ·exact ⟨_,by simp only [lH,h1,h3];rfl,h4⟩
   ·exact ⟨_,by simp only [lH,h1,h3,h4];rfl,h5⟩
  rw [e];simp only [Bool.false_or];exact pk ⟨none,0,v',rfl,hr',rfl⟩
theorem VI {r:Fr} {va:Value} {xs:List UInt8} (ha:aj ag.u8 r va xs) (hl:xs.length≤140737488355328):ay prog 343 #[va] r [] (aL fun v U=>∃ b,v=.pointer (some ⟨b,0,none⟩)∧U=[jW 441 b ⟨true,xs⟩]) :=
 (Ye ha hl).post fun e ax h w g hw=>by
  cases e with
  |returned u =>
   obtain ⟨b,a,c,rfl,rfl⟩:=h;exact ⟨_,⟨b,rfl,rfl⟩,hw.imp fun _ x=>VJ x⟩
  |panicked _=>exact h.elim
  |outgrown=>exact h.elim
theorem uu {r:Fr} {b:Nat} {s:RS}:ay prog 346 #[.pointer (some ⟨b,0,none⟩)] r [jW 441 b s] (aL fun u U=>u=.int .i64 s.num.1∧U=[jW 441 b s.num.2]) :=
 (ay.rd (Q:=fun u s' ζ=>u=.int .i64 s.num.1∧s' =s.num.2∧ζ=[]) fun m v made bad h1 h2=>(Vf h2).mono (aL.imp fun u U h=>by
  obtain ⟨v',rfl,h3,rfl⟩:=h;simp only [h1] at h3 ⊢;exact ⟨v',_,s.num.2,_,⟨rfl,rfl,rfl⟩,zK h1,h3,rfl⟩)).mono (aL.imp fun u U h=>by obtain ⟨s',ζ,⟨rfl,rfl,rfl⟩,rfl⟩:=h;exact ⟨rfl,rfl⟩)
theorem KV {r:Fr} {b:Nat} {s:RS}:ay prog 344 #[.pointer (some ⟨b,0,none⟩)] r [jW 441 b s] (aL fun u U=>u=bK s.byte.1∧U=[jW 441 b s.byte.2]) :=
 (ay.rd (Q:=fun u s' ζ=>u=bK s.byte.1∧s' =s.byte.2∧ζ=[]) fun m v made bad h1 h2=>(U' h2).mono (aL.imp fun u U h=>by
  obtain ⟨v',rfl,h3,rfl⟩:=h;simp only [h1] at h3 ⊢;exact ⟨v',_,s.byte.2,_,⟨rfl,rfl,rfl⟩,zK h1,h3,rfl⟩)).mono (aL.imp fun u U h=>by obtain ⟨s',ζ,⟨rfl,rfl,rfl⟩,rfl⟩:=h;exact ⟨rfl,rfl⟩)
theorem VH {r:Fr} {b:Nat} {s:RS} (most:Int):ay prog 347 #[.pointer (some ⟨b,0,none⟩),.int .i64 most] r [jW 441 b s] (aL fun u U=>u=.int .i64 (s.count most).1∧U=[jW 441 b (s.count most).2]) :=
 (ay.rd (Q:=fun u s' ζ=>u=.int .i64 (s.count most).1∧s' =(s.count most).2∧ζ=[]) fun m v made bad h1 h2=>(Vb most h2).mono (aL.imp fun u U h=>by
  obtain ⟨v',rfl,h3,rfl⟩:=h;simp only [h1] at h3 ⊢;exact ⟨v',_,(s.count most).2,_,⟨rfl,rfl,rfl⟩,zK h1,h3,rfl⟩)).mono (aL.imp fun u U h=>by obtain ⟨s',ζ,⟨rfl,rfl,rfl⟩,rfl⟩:=h;exact ⟨rfl,rfl⟩)
theorem KW {r:Fr} {b:Nat} {s:RS} (most:Int) (hl:s.rest.length≤140737488355328):ay prog 345 #[.pointer (some ⟨b,0,none⟩),.int .i64 most] r [jW 441 b s] (aL fun u U=>∃ a c,u=.slice a (s.bytes most).1.length c∧U=[jW 441 b (s.bytes most).2,av ag.u8 5 (.slice a (s.bytes most).1.length c) (s.bytes most).1]) :=
 (ay.rd (Q:=fun u s' ζ=>∃ a c,u=.slice a (s.bytes most).1.length c∧s' =(s.bytes most).2∧ζ=[av ag.u8 5 (.slice a (s.bytes most).1.length c) (s.bytes most).1]) fun m v made bad h1 h2=>(Va most h2 hl).mono (aL.imp fun u U h=>by
  obtain ⟨a,c,v',rfl,h3,rfl⟩:=h;simp only [h1] at h3 ⊢;exact ⟨v',_,(s.bytes most).2,_,⟨a,c,rfl,rfl,rfl⟩,zK h1,h3,rfl⟩)).mono (aL.imp fun u U h=>by obtain ⟨s',ζ,⟨a,c,rfl,rfl,rfl⟩,rfl⟩:=h;exact ⟨a,c,rfl,rfl⟩)
theorem AZ {r:Fr} {b:Nat} {s:RS}:ay prog 348 #[.pointer (some ⟨b,0,none⟩)] r [jW 441 b s] (aL fun u U=>u=.bool s.done∧U=[jW 441 b s]) :=
 (ay.rd (Q:=fun u s' ζ=>u=.bool s.done∧s' =s∧ζ=[]) fun m v made bad h1 h2=>(Vc h2).mono (aL.imp fun u U h=>by
  obtain ⟨rfl,rfl⟩:=h;rw [h1];exact ⟨v,bad,s,[],⟨congrArg _ (by rw [Bool.eq_iff_iff,decide_eq_true_iff,RS.N2]),rfl,rfl⟩,h1,h2,rfl⟩)).mono (aL.imp fun u U h=>by obtain ⟨s',ζ,⟨rfl,rfl,rfl⟩,rfl⟩:=h;exact ⟨rfl,rfl⟩)
theorem oR {r:Fr} {va je:Value} {xs ys:List UInt8} (ha:aj ag.u8 r va xs) (hb:aj ag.u8 r je ys) :
  ay prog 122 #[va,je] r [] (aL fun v U=>v=.bool (decide (xs=ys))∧U=[]):=by
 refine ay.of (n:=10) _ rfl func122 rfl rfl rfl fun g hg R hR=>?_;have ha:=ha.mono hg;have hb:=hb.mono hg;refine S.seq<|S.region rfl<|O.q 1 rfl<|O.nil<|S.seq<|S.region rfl<|O.q 1 rfl<|O.op (.p rfl) (.toStr underlying24 underlying5 underlying9 rfl (by first|assumption|exact aj.mono hg zE|exact aj.left zE|exact aj.left (aj.mono hg zE))) ?_;refine O.q 1 rfl<|O.op (.p rfl) (.toStr underlying24 underlying5 underlying9 rfl (by first|assumption|exact aj.mono hg zE|exact aj.left zE|exact aj.left (aj.mono hg zE))) ?_;refine O.op (.p rfl) (.kU rfl rfl)<|O.q 1 rfl<|O.nil<|S.ret results122 rfl fun w hw=>hR _ _ w ?_ hw;exact ⟨by simp,rfl⟩
theorem XP {g:bn} {be bZ:Nat} {x:Value} {z:Int} {eF eZ:TypeId} {w:World} {R:Ending→World→Prop} {U:List az} (hw:Holds w g (obj bZ eF [x]::obj be eZ [.int .i64 z]::U)) (hR:∀ w,Holds w g (obj bZ eF [x]::obj be eZ [.int .i64 z]::U)→R (.returned (.tuple #[x,.int .i64 z])) w) :
  CallsD prog 305 #[.pointer (some ⟨be,0,none⟩),.pointer (some ⟨bZ,0,none⟩)] .returning w (sV prog g bZ be 22 44 R):=by
 refine (oc (R:=fun e w=>(∃ v,e=.returned v)∧Holds w g (obj bZ eF [x]::obj be eZ [.int .i64 z]::U)) [.pointer (some ⟨be,0,none⟩),.pointer (some ⟨bZ,0,none⟩)] rfl func305 rfl rfl rfl rfl hw ?_).mono ?_
 rotate_left
 ·rintro e u' w' ⟨rfl,⟨v,rfl⟩,h⟩
  exact ⟨⟨v,rfl⟩,rfl,eF,eZ,_,_,_,_,U,h,fP.flat dO,fP.flat oe,hR w' h⟩
 refine S.seq<|S.region rfl<|O.q 1 rfl<|O.op (.p rfl) (.vL underlying20 rfl)<|O.nil<|S.aQ rfl<|S.skip<|S.ez results305 fun w hw=>?_;exact ⟨⟨_,rfl⟩,hw⟩
theorem XO {g:bn} {be bZ:Nat} {x:Value} {z z' :Int} {eF eZ:TypeId} {w:World} {R:Ending→World→Prop} {U:List az} (hw:Holds w g (obj bZ eF [x]::obj be eZ [.int .i64 z']::U))
  (hR:∀ w,Holds w g (obj bZ eF [.slice none 0 0]::obj be eZ [.int .i64 z]::U)→R (.returned (.tuple #[.slice none 0 0,.int .i64 z])) w) :
  CallsD prog 305 #[.pointer (some ⟨be,0,none⟩),.pointer (some ⟨bZ,0,none⟩)] (.panicking (o4 44 z)) w (sV prog g bZ be 22 44 R):=by
 refine (oc (R:=fun e w=>(∃ v,e=.returned v)∧Holds w g (obj bZ eF [.slice none 0 0]::obj be eZ [.int .i64 z]::U)) [.pointer (some ⟨be,0,none⟩),.pointer (some ⟨bZ,0,none⟩)] rfl func305 rfl rfl rfl rfl hw ?_).mono ?_
 rotate_left
 ·rintro e u' w' ⟨rfl,⟨v,rfl⟩,h⟩
  exact ⟨⟨v,rfl⟩,rfl,eF,eZ,_,_,_,_,U,h,fP.flat dO,fP.flat oe,hR w' h⟩
 refine S.seq<|S.region rfl<|O.q 1 rfl<|O.op (.p rfl) (.vM underlying20 rfl)<|O.nil<|S.bx rfl<|S.seq<|S.region rfl<|O.q 1 rfl<|O.nil<|S.seq<|S.seq<|S.region rfl<|O.q 1 rfl<|O.op (.p rfl) (.u0 underlying44 rfl)<|O.q 3 rfl<|O.bB rfl (.bp oe rfl rfl bt ai aX) ?_;refine O.q 1 rfl<|O.nil<|S.seq<|S.region rfl<|O.q 1 rfl<|O.op (.p rfl) (.not rfl)<|O.nil<|S.aQ rfl<|S.skip<|S.seq<|S.region rfl<|O.q 1 rfl<|O.nil<|S.region rfl<|O.q 1 rfl<|O.bB rfl (.bp dO rfl rfl bt ai aX) ?_;refine O.nil<|S.ez results305 fun w hw=>?_;exact ⟨⟨_,rfl⟩,hw.jP jf⟩
theorem XN {r:Fr} {f:Nat} {first cap:Array Value} {K:Value→List az→Prop} {X:Int→Prop} (hc:dG prog f=true) (p7:(Value.func (.func f) first cap).oneCell' =true) (o9:∀ u ζ,K u ζ→u.oneCell' =true)
  (con:ay prog f (first++#[]++cap) r [] (eN K (fun ch U=>∃ z,ch=o4 44 z∧X z∧U=[]))) :
  ay prog 239 #[.func (.func f) first cap] r [] (aL fun v U=>(∃ u,K u U∧v=.tuple #[u,.int .i64 0])∨(∃ z,X z∧U=[]∧v=.tuple #[.slice none 0 0,.int .i64 z])):=by
 refine ay.of (n:=7) [.func (.func f) first cap] rfl func239 rfl rfl rfl fun g hg R hR=>?_;refine S.seq<|S.region rfl<|O.aN (.p rfl) (.alloc (cs:=[.slice none 0 0]) zeroValue22 rfl) ?_;rintro _ _ ⟨b2,rfl,rfl⟩;refine O.aN (.p rfl) (.alloc (cs:=[.int .i64 0]) zeroValue44 rfl) ?_;rintro _ _ ⟨b3,rfl,rfl⟩;refine O.nil<|S.seq<|S.region rfl<|O.op (.p rfl) (.jb rfl rfl)<|O.defer rfl rfl rfl rfl ?_;refine O.nil<|S.seq<|S.region rfl<|O.q 1 rfl<|O.Cm (.p rfl) rfl hc rfl rfl (con.sub hg) (fun a ch ax w hF hX hW=>by (obtain ⟨z,rfl,hx,rfl⟩:=hX;exact vI results239 hF rfl rfl bL aa (XO (hW.jP jf) fun w hw=>Holds.end_ hR hw ⟨_,.inr ⟨z,hx,rfl,rfl⟩,by repeat (first|exact aS|exact aU|(apply aT;focus (repeat (first|exact aR|apply zt)))|apply aV)⟩))) ?_;rintro v6 _ rW
 try simp only [an,aq,au]
 have hone:=o9 _ _ rW;refine O.perm (List.perm_append_comm) ?_;simp only [List.cons_append,List.nil_append];refine O.bB rfl (.bp dO rfl rfl bt ai aX) ?_;refine O.bB rfl (.bp oe rfl rfl bt ai aX) ?_;refine O.nil<|S.q_ fun a w hf hd hw=>?_;exact vI results239 hf rfl rfl bL aa (XP (hw.jP jf) fun w hw=>Holds.end_ hR hw ⟨_,.inl ⟨_,rW,rfl⟩,by repeat (first|exact aS|exact aU|(apply aT;focus (repeat (first|exact aR|apply zt)))|apply aV)⟩)
abbrev uw (x:aP) (v3 v5 v6:Value):List Value:=[.string (str x.1),.int .i64 x.2.1,.int .i64 x.2.2.1,v3,.bool x.2.2.2.2.1,v5,v6]
abbrev yp (x:aP) (v3 v5 v6:Value):List az:=[av c_ 191 v3 x.2.2.2.1,av ag.u8 5 v5 x.2.2.2.2.2.1,av ag.u8 5 v6 x.2.2.2.2.2.2.1]
abbrev FJ:List Value:=[.string (str []),.int .i64 0,.int .i64 0,.slice none 0 0,.bool false,.slice none 0 0,.slice none 0 0]
theorem Ve {r:Fr} {va:Value} {b:List UInt8} (ha:aj ag.u8 r va b) (hl:b.length≤1000000000) :
  ay prog 311 #[va] r [] (aL fun v U=>(∃ x a3 c3 a5 dS a6 dH,mv b=some x∧v=.tuple #[.agg (uw x (.slice a3 x.2.2.2.1.length c3) (.slice a5 x.2.2.2.2.2.1.length dS) (.slice a6 x.2.2.2.2.2.2.1.length dH)).toArray,.int .i64 0]∧U=yp x (.slice a3 x.2.2.2.1.length c3) (.slice a5 x.2.2.2.2.2.1.length dS) (.slice a6 x.2.2.2.2.2.2.1.length dH))∨(mv b=none∧v=.tuple #[.agg FJ.toArray,.int .i64 4]∧U=[])):=by
 refine ay.of (n:=76) _ rfl func311 rfl rfl rfl fun g hg R hR=>?_;have ha:=ha.mono hg;have hbd:=ha.bound;obtain ⟨a1,c1,rfl⟩:=ha.shape;refine S.seq<|S.region rfl<|O.aN (.p rfl) (.alloc (cs:=[.string ⟨#[]⟩,.int .i64 0,.int .i64 0,.slice none 0 0,.bool false,.slice none 0 0,.slice none 0 0]) zeroValue102 rfl) ?_;rintro _ _ ⟨b2,rfl,rfl⟩;refine O.q 1 rfl<|O.nil<|S.seq<|S.region rfl<|O.q 1 rfl<|O.op (.p rfl) (.len rfl underlying24 rfl)<|O.op (.p rfl) (.sub rfl rfl (IntWalk.i64_in _ ah))<|O.q 1 rfl<|O.nil<|S.seq<|S.seq<|S.region rfl<|O.q 1 rfl<|O.op (.p rfl) (.lss rfl rfl)<|O.nil ?_
 first|refine S.cm rfl (fun iU=>?_) (fun iU=>?_)|refine S.b_ rfl (fun iU=>?_) (fun iU=>?_)
 ·refine S.seq<|S.region rfl<|O.op (.p rfl) (.build (cs:=[_,_,_,_,_,_,_]) underlying102 rfl rfl rfl rfl rfl)<|O.bB rfl (.c9 aa rfl rfl rfl rfl ai aX) ?_
  refine O.q 1 rfl<|O.nil<|S.sC results311 rfl rfl ai (fP.agg isAgg102 aa) fun w hw=>Holds.end_ hR hw ?_;exact pk (.inr ⟨VN ah,rfl,rfl⟩)
 ·have gl:64≤b.length:=by omega
  have jx:(b.take (b.length - 64)).length≤1000000000:=by rw [List.length_take];omega
  refine S.skip<|S.seq<|S.region rfl<|O.q 2 rfl<|O.sliceTo (b:=b.length - 64) (.p rfl) underlying24 fO rfl rfl zE bD bD (fun abp lY=>?_);obtain ⟨a17,qw,rfl⟩:=lY.shape;refine O.aC (.p rfl) rfl aa rfl rfl (VI (by first|assumption|exact aj.mono hg zE|exact aj.left zE|exact aj.left (aj.mono hg zE)) bD) ?_;rintro _ _ ⟨G4,rfl,rfl⟩
  try simp only [an,aq,au]
  refine O.q 1 rfl<|O.nil<|S.seq<|S.region rfl<|O.q 1 rfl<|O.bM (.p rfl) rfl aa rfl rfl ai KV ?_;rintro _ _ ⟨rfl,rfl⟩
  try simp only [an,aq,au]
  refine O.nil (S.seq ?_);generalize hk:(RS.mk true (b.take (b.length - 64))).byte=k;have lk:k.2.rest.length≤1000000000:=by rw [← hk];exact Nat.le_trans (RS.Hl _) jx
  have ly:=RS.M7 64 k.2;refine S.FN (L:=[0,3,5,1,2,4,6,7,8,9]) (fun (p:Nat)=>[(6,.pointer (some ⟨p,0,none⟩))]) [(0,_),(2,_),(4,_),(5,_)] (fun (p:Nat)=>[jW 441 G4 (k.2.bytes 64).2.num.2.num.2,obj p 102 [.string (str (k.2.bytes 64).1),.int .i64 (k.2.bytes 64).2.num.1,.int .i64 (k.2.bytes 64).2.num.2.num.1,.slice none 0 0,.bool false,.slice none 0 0,.slice none 0 0],obj b2 102 FJ]) (.cons rfl (.cons rfl (.cons rfl (.cons rfl (.nil))))) bz aa (fun kk key=>?_) (fun p=>?_)
  ·refine af.q 3 rfl<|af.bM (.p rfl) aa rfl aa rfl rfl ai (KW _ bD) ?_
   rintro _ _ ⟨a22,ee,rfl,rfl⟩
   try simp only [an,aq,au]
   refine af.e4 2 4 [4,6,7,8,9] [2,6,7,8,9] aa rfl rfl ?_ ?_
   ·refine bT.toStrO (.p rfl) aa underlying24 underlying5 underlying9 rfl ai ?_
    refine af.bM (.p rfl) aa rfl aa rfl rfl ai uu ?_;rintro _ _ ⟨rfl,rfl⟩
    try simp only [an,aq,au]
    refine af.bM (.p rfl) aa rfl aa rfl rfl ai uu ?_;rintro _ _ ⟨rfl,rfl⟩
    try simp only [an,aq,au]
    refine .quiet (.p rfl) rfl (fun _=>.build (cs:=[_,_,_,_,_,_,_]) underlying102 rfl rfl rfl rfl rfl)<|.lazy rfl aa rfl fun fU=>?_;refine af.c9 rfl aa aa rfl rfl rfl rfl ai aX ?_;refine aJ.nil<|S.pk ?_ (S.weaken (Sub.app (.cons rfl (.nil)) (.cons rfl (.cons rfl (.cons rfl (.cons rfl (.nil)))))) (key fU))
    try dsimp only
    repeat (first|exact aS|exact aU|(apply aT;focus (repeat (first|exact aR|apply zt)))|apply aV)
   ·refine bT.bM (.p rfl) aa rfl aa rfl rfl ai uu ?_
    rintro _ _ ⟨rfl,rfl⟩
    try simp only [an,aq,au]
    refine af.e4 2 6 [6,7,8,9] [2,7,8,9] aa rfl rfl ?_ ?_
    ·refine bT.toStrO (.p rfl) aa underlying24 underlying5 underlying9 rfl ai ?_
     refine af.bM (.p rfl) aa rfl aa rfl rfl ai uu ?_;rintro _ _ ⟨rfl,rfl⟩
     try simp only [an,aq,au]
     refine .quiet (.p rfl) rfl (fun _=>.build (cs:=[_,_,_,_,_,_,_]) underlying102 rfl rfl rfl rfl rfl)<|.lazy rfl aa rfl fun fU=>?_;refine af.c9 rfl aa aa rfl rfl rfl rfl ai aX ?_;refine aJ.nil<|S.pk ?_ (S.weaken (Sub.app (.cons rfl (.nil)) (.cons rfl (.cons rfl (.cons rfl (.cons rfl (.nil)))))) (key fU))
     try dsimp only
     repeat (first|exact aS|exact aU|(apply aT;focus (repeat (first|exact aR|apply zt)))|apply aV)
    ·refine bT.bM (.p rfl) aa rfl aa rfl rfl ai uu ?_
     rintro _ _ ⟨rfl,rfl⟩
     try simp only [an,aq,au]
     refine af.toStrO (.p rfl) aa underlying24 underlying5 underlying9 rfl ai ?_;refine .quiet (.p rfl) rfl (fun _=>.build (cs:=[_,_,_,_,_,_,_]) underlying102 rfl rfl rfl rfl rfl)<|.lazy rfl aa rfl fun fU=>?_;refine af.c9 rfl aa aa rfl rfl rfl rfl ai aX ?_;refine aJ.nil<|S.pk ?_ (S.weaken (Sub.app (.cons rfl (.nil)) (.cons rfl (.cons rfl (.cons rfl (.cons rfl (.nil)))))) (key fU))
     try dsimp only
     repeat (first|exact aS|exact aU|(apply aT;focus (repeat (first|exact aR|apply zt)))|apply aV)
  generalize hy:k.2.bytes 64=y at ly ⊢;have TJ:y.2.rest.length≤1000000000:=by rw [← hy];exact Nat.le_trans (RS.M6 _ _) lk
  generalize hc:y.2.num=c;have lc:c.2.rest.length≤1000000000:=by rw [← hc];exact Nat.le_trans (RS.AH _) TJ
  have RX:cK c.1:=by rw [← hc];exact RS.vO _
  generalize hq:c.2.num=q;have TE:q.2.rest.length≤1000000000:=by rw [← hq];exact Nat.le_trans (RS.AH _) lc
  have Si:cK q.1:=by rw [← hq];exact RS.vO _
  refine S.seq<|S.seq<|S.region rfl<|O.q 1 rfl<|O.bM (.p rfl) rfl aa rfl rfl ai (VH _) ?_;rintro _ _ ⟨rfl,rfl⟩
  try simp only [an,aq,au]
  refine O.q 1 rfl<|O.nil (S.block ?_);generalize hn:q.2.count 8=n;have ln:n.2.rest.length≤1000000000:=by rw [← hn];exact Nat.le_trans (RS.NM _ _) TE
  obtain ⟨n0,n8⟩:0≤n.1∧n.1≤8:=by rw [← hn];exact RS.NK _ _ aB
  refine S.gd (T:=c_) (e:=191) ?_;refine S.jO (ι:=Nat) (dJ:=Option Addr × Nat) (fun i a=>i≤n.1.toNat) (fun i a=>[(31,.int .i64 (i:Int))]) [(0,_),(2,_),(4,_),(5,_),(6,_),(30,_)] (fun i a=>[av c_ 191 (.slice a.1 i a.2) (kD i n.2).1,jW 441 G4 (kD i n.2).2,obj p 102 [.string (str y.1),.int .i64 c.1,.int .i64 q.1,.slice a.1 i a.2,.bool false,.slice none 0 0,.slice none 0 0],obj b2 102 FJ]) (fun i a=>n.1.toNat - i) (0) ((none,0)) bL (.cons rfl (.nil)) (.cons rfl (.cons rfl (.cons rfl (.cons rfl (.cons rfl (.cons rfl (.nil))))))) rfl fun i a hx ih=>?_;have bh:=cH (g:=g);refine S.seq<|S.region rfl<|O.op (.p rfl) (.lss rfl rfl)<|O.nil (S.seq ?_)
  first|refine S.cm rfl (fun oh=>?_) (fun oh=>?_)|refine S.b_ rfl (fun oh=>?_) (fun oh=>?_)
  ·have hi:i<n.1.toNat:=by omega
   have fq:=hg;have fp:=hR
   try have nK:=ha
   try have O3:=lY
   refine S.iw (B:=obj p 102 [.string (str y.1),.int .i64 c.1,.int .i64 q.1,.slice a.1 i a.2,.bool false,.slice none 0 0,.slice none 0 0]) ai fun go cN ⟨qd,hmo,jw⟩ eV=>?_;replace hg:=Fr.aI hg cN;replace hR:=ig hR eV
   try replace ha:=ha.mono cN
   try replace lY:=lY.mono cN
   have dg:=(ga hmo).mono jw;refine S.skip<|S.seq<|S.block<|S.bC (L:=[0,1,2,4,3,5,6,7,8,9,10]) bz aa<|.quiet (.p rfl) rfl (fun _=>.fieldAddr fF rfl)<|.quiet (.p rfl) rfl (fun _=>.loadAt eU rfl (dg.drop 3) rfl) ?_;refine af.q 2 rfl<|af.bM (.p rfl) aa rfl aa rfl rfl ai uu ?_;rintro _ _ ⟨rfl,rfl⟩
   try simp only [an,aq,au]
   refine af.bM (.p rfl) aa rfl aa rfl rfl ai uu ?_;rintro _ _ ⟨rfl,rfl⟩
   try simp only [an,aq,au]
   refine .quiet (.p rfl) rfl (fun _=>.build (cs:=[_,_]) underlying191 rfl rfl rfl rfl rfl)<|af.cA (T:=c_) (ys:=[_]) (.p rfl) aa underlying100 rL aB rfl rfl ⟨(c_.mk (RS.vO _) (RS.vO _)),trivial⟩ aB (fun a40 u5=>?_);refine af.gN (.p rfl) aa (T:=c_) underlying100 rL aB rfl rfl ai ai bD bD (fun a41 wI=>?_);refine .quiet (.p rfl) rfl (fun _=>.fieldAddr fF rfl)<|af.xZ rfl aa (fun _ hw=>eV hw) eU rfl rfl bt ai yP ?_;replace hg:=fq;replace hR:=fp
   try replace ha:=nK
   try replace lY:=O3
   clear fq fp;refine S.inBlock<|S.region rfl<|O.op (.p rfl) (.add rfl rfl (IntWalk.i64_in _ ah))<|O.q 1 rfl<|O.nil ?_;simp only [HQ,List.length_singleton];exact S.pw (ih (i+1) ((a41,wI)) ah ah)
  ·clear ih
   have hi:i=n.1.toNat:=by omega
   subst hi;generalize hd:kD n.1.toNat n.2=d;have ld:d.2.rest.length≤1000000000:=by rw [← hd];exact Nat.le_trans (N_ _ _) ln
   have Tm:d.1.length=n.1.toNat:=by rw [← hd];exact HQ _ _
   have id:∀ z∈d.1,wQ z:=by rw [← hd];exact N9 _ _
   rw [← Tm];refine S.exit rfl<|S.seq<|S.region rfl<|O.q 1 rfl<|O.bM (.p rfl) rfl aa rfl rfl ai KV ?_;rintro _ _ ⟨rfl,rfl⟩
   try simp only [an,aq,au]
   refine O.op (.p rfl) (.neq rfl rfl)<|O.slot 46 (v' :=.bool (decide (d.2.byte.1≠0))) rfl (by simp [← UInt8.toNat_inj]) ?_;refine O.op (.p rfl) (.aH vh rfl)<|O.bB rfl (.bp iv rfl rfl bt ai aX) ?_;refine O.nil (S.seq ?_);generalize hg2:d.2.byte=g2;have aaI:g2.2.rest.length≤1000000000:=by rw [← hg2];exact Nat.le_trans (RS.Hl _) ld
   refine S.bC (L:=[0,2,3,4,1,6,5,7,8,9]) bz aa ?_;refine af.q 3 rfl<|af.sliceFrom (a:=b.length - 64) (.p rfl) underlying24 fO rfl rfl zE bD bD (fun abv qM=>?_);obtain ⟨ku,kz,rfl⟩:=qM.shape;refine af.bM (.p rfl) aa rfl aa rfl rfl ai (KW _ bD) ?_;rintro _ _ ⟨a49,u6,rfl,rfl⟩
   try simp only [an,aq,au]
   refine .quiet (.p rfl) rfl (fun _=>.aH gj rfl)<|af.aC (.p rfl) aa rfl aa rfl rfl (eG (by first|assumption|exact aj.mono hg zE|exact aj.left zE|exact aj.left (aj.mono hg zE)) bD) ?_;rintro _ _ ⟨a53,u7,rfl,rfl⟩
   try simp only [an,aq,au]
   refine af.bp rfl aa bl rfl rfl bt ai aX ?_;refine .quiet (.p rfl) rfl (fun _=>.aH iS rfl)<|af.bp rfl aa bl rfl rfl bt ai aX ?_;refine aJ.nil (S.seq ?_);generalize hv:g2.2.bytes 1024=v;have hX:sB b=(y.1,c.1,q.1,d.1,decide (g2.1≠0),v.1,b.drop (b.length - 64),()):=by subst hv hg2 hd hn hq hc hy hk;rfl
   have hS:(uv b).s=v.2:=by subst hv hg2 hd hn hq hc hy hk;rfl
   have ow:=VP (b:=b);have hno:=VL (b:=b);rw [hX] at ow hno;rw [hS] at hno;have Jj:∀ {m:Fr} (v3 v5 v6:Value),aj c_ m v3 d.1→aj ag.u8 m v5 v.1→aj ag.u8 m v6 (b.drop (b.length - 64))→cv.rel m [.string (str y.1),.int .i64 c.1,.int .i64 q.1,v3,.bool (decide (g2.1≠0)),v5,v6] (y.1,c.1,q.1,d.1,decide (g2.1≠0),v.1,b.drop (b.length - 64),()):=fun v3 v5 v6 h3 h5 h6=>cv.mk ah RX Si h3 h5 h6;clear hX hS;generalize O0:((y.1,c.1,q.1,d.1,decide (g2.1≠0),v.1,b.drop (b.length - 64),()):aP)=X at ow hno Jj;refine S.region rfl<|O.op (.p rfl) (.gZ (news:=[_,_,_,_,_,_,_]) isAgg102) ?_;refine O.c4 (.p rfl) rfl aa rfl rfl (bs:=[av c_ 191 (.slice a.1 d.1.length a.2) d.1,av ag.u8 5 (.slice a49 v.1.length u6) v.1,av ag.u8 5 (.slice a53 (b.drop (b.length - 64)).length u7) (b.drop (b.length - 64))]) aW (fun m hm l5 =>KS (x:=X) (Jj _ _ _ (hm.arr.right l5) (hm.tail.arr.right l5) (hm.tail.tail.arr.right l5))) ?_;rintro _ _ ⟨a58,wL,rfl,rfl⟩
   try simp only [an,aq,au]
   refine O.q 5 rfl<|O.nil (S.seq (S.seq ?_))
   cases e1:v.2.done with
   |false =>
    refine S.region rfl<|O.q 1 rfl<|O.bM (.p rfl) rfl aa rfl rfl ai AZ ?_;rintro _ _ ⟨rfl,rfl⟩
    try simp only [an,aq,au]
    refine O.aM 62 rfl (by exact e1) ?_;refine O.op (.p rfl) (.not rfl)<|O.q 10 rfl<|O.nil<|S.bx rfl<|S.seq<|S.region rfl<|O.op (.p rfl) (.build (cs:=[_,_,_,_,_,_,_]) underlying102 rfl rfl rfl rfl rfl)<|O.bB rfl (.c9 aa rfl rfl rfl rfl ai aX) ?_;refine O.q 1 rfl<|O.nil<|S.sC results311 rfl rfl ai (fP.agg isAgg102 aa) fun w hw=>Holds.end_ hR hw ?_;exact pk (.inr ⟨hno fun q=>by rw [e1] at q;exact absurd q.1 aB,rfl,rfl⟩)
   |true =>
    cases e2:ej X with
    |false =>
     refine S.region rfl<|O.q 1 rfl<|O.bM (.p rfl) rfl aa rfl rfl ai AZ ?_;rintro _ _ ⟨rfl,rfl⟩
     try simp only [an,aq,au]
     refine O.sT 62 rfl (by exact e1) ?_;refine O.op (.p rfl) (.not rfl)<|O.q 2 rfl<|O.op (.g rfl rfl) (.neq rfl rfl)<|O.sT 66 rfl (by simp [oE,e2]) ?_;refine O.q 7 rfl<|O.nil<|S.bx rfl<|S.seq<|S.region rfl<|O.op (.p rfl) (.build (cs:=[_,_,_,_,_,_,_]) underlying102 rfl rfl rfl rfl rfl)<|O.bB rfl (.c9 aa rfl rfl rfl rfl ai aX) ?_;refine O.q 1 rfl<|O.nil<|S.sC results311 rfl rfl ai (fP.agg isAgg102 aa) fun w hw=>Holds.end_ hR hw ?_;exact pk (.inr ⟨hno fun q=>by rw [e2] at q;exact absurd q.2.1 aB,rfl,rfl⟩)
    |true =>
     by_cases ck:cn X=b
     ·
      refine S.region rfl<|O.q 1 rfl<|O.bM (.p rfl) rfl aa rfl rfl ai AZ ?_;rintro _ _ ⟨rfl,rfl⟩
      try simp only [an,aq,au]
      refine O.sT 62 rfl (by exact e1) ?_;refine O.op (.p rfl) (.not rfl)<|O.q 2 rfl<|O.op (.g rfl rfl) (.neq rfl rfl)<|O.aM 66 rfl (by simp [oE,e2]) ?_;refine O.q 4 rfl<|O.c4 (.g rfl rfl) rfl aa rfl rfl (bs:=[av ag.u8 5 (.slice a58 (mw X).length wL) (mw X)]) aW (fun m hm l5 =>oR (hm.arr.right l5) ha.left) ?_;rintro _ _ ⟨rfl,rfl⟩
      try simp only [an,aq,au]
      refine O.sT 71 rfl (by exact decide_eq_true (by rw [mw,if_pos e2];exact ck)) ?_;refine O.op (.g rfl rfl) (.not rfl)<|O.q 1 rfl<|O.nil<|S.aQ rfl<|S.skip<|S.seq<|S.region rfl<|O.op (.p rfl) (.gZ (news:=[_,_,_,_,_,_,_]) isAgg102) ?_;refine O.bB rfl (.c9 aa rfl rfl rfl rfl ai aX) ?_;refine O.q 1 rfl<|O.nil<|S.sC results311 rfl rfl ai (fP.agg isAgg102 aa) fun w hw=>Holds.end_ hR hw ?_;have hy' :=ow e2 ck;subst O0;exact pk (.inl ⟨_,a.1,a.2,a49,u6,a53,u7,hy',rfl,rfl⟩)
     ·
      refine S.region rfl<|O.q 1 rfl<|O.bM (.p rfl) rfl aa rfl rfl ai AZ ?_;rintro _ _ ⟨rfl,rfl⟩
      try simp only [an,aq,au]
      refine O.sT 62 rfl (by exact e1) ?_;refine O.op (.p rfl) (.not rfl)<|O.q 2 rfl<|O.op (.g rfl rfl) (.neq rfl rfl)<|O.aM 66 rfl (by simp [oE,e2]) ?_;refine O.q 4 rfl<|O.c4 (.g rfl rfl) rfl aa rfl rfl (bs:=[av ag.u8 5 (.slice a58 (mw X).length wL) (mw X)]) aW (fun m hm l5 =>oR (hm.arr.right l5) ha.left) ?_;rintro _ _ ⟨rfl,rfl⟩
      try simp only [an,aq,au]
      refine O.aM 71 rfl (by exact decide_eq_false (by rw [mw,if_pos e2];exact ck)) ?_;refine O.op (.g rfl rfl) (.not rfl)<|O.q 1 rfl<|O.nil<|S.bx rfl<|S.seq<|S.region rfl<|O.op (.p rfl) (.build (cs:=[_,_,_,_,_,_,_]) underlying102 rfl rfl rfl rfl rfl)<|O.bB rfl (.c9 aa rfl rfl rfl rfl ai aX) ?_;refine O.q 1 rfl<|O.nil<|S.sC results311 rfl rfl ai (fP.agg isAgg102 aa) fun w hw=>Holds.end_ hR hw ?_;exact pk (.inr ⟨hno fun q=>ck q.2.2,rfl,rfl⟩)
theorem Vd {r:Fr} {va:Value} {b:List UInt8} {x:aP} (e:mv b=some x) (ha:aj ag.u8 r va b) (hl:b.length≤1000000000) :
  ay prog 311 #[va] r [] (aL fun v U=>∃ a3 c3 a5 dS a6 dH,v=.tuple #[.agg (uw x (.slice a3 x.2.2.2.1.length c3) (.slice a5 x.2.2.2.2.2.1.length dS) (.slice a6 x.2.2.2.2.2.2.1.length dH)).toArray,.int .i64 0]∧U=yp x (.slice a3 x.2.2.2.1.length c3) (.slice a5 x.2.2.2.2.2.1.length dS) (.slice a6 x.2.2.2.2.2.2.1.length dH)) :=
 (Ve ha hl).mono (aL.imp fun v U h=>by
  rcases h with ⟨y,a3,c3,a5,dS,a6,dH,h1,h2,h3⟩|⟨h1,_⟩
  ·rw [e] at h1;obtain rfl:=Option.some.inj h1;exact ⟨a3,c3,a5,dS,a6,dH,h2,h3⟩
  ·rw [e] at h1;cases h1)
end Go.Proofs.YtojafegjlahajaaGreatDoor
