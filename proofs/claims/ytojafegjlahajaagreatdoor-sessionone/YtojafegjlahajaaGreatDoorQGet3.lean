/- Texts of this proof. -/
import Derived.Test.YtojafegjlahajaaGreatDoorQWire2
open Go Go.Sp Go.Proofs.Tryz
set_option maxRecDepth 100000
set_option maxHeartbeats 1000000
attribute [local irreducible] obj Own av
namespace Go.Proofs.YtojafegjlahajaaGreatDoor
theorem GD {r:Fr} {b T:Nat} {v:Value} {cs:List Value} {rest:List UInt8} (most:Int) (ha:aj ag.u8 r v rest) :
  ay prog 373 #[.pointer (some ⟨b,0,none⟩),.int .i64 most] r [obj b T (v::cs)]
   (ey (fun u U=>8≤rest.length∧(0≤eP rest∧eP rest≤most)∧∃ v',u=.int .i64 (eP rest)∧aj ag.u8 r v' (rest.drop 8)∧U=[obj b T (v' ::cs)])
    (fun ch U=>ch=missing∧∃ v',(rest.length<8∧v' =v∨8≤rest.length∧¬(0≤eP rest∧eP rest≤most)∧aj ag.u8 r v' (rest.drop 8))∧U=[obj b T (v' ::cs)])):=by
 refine ay.of (n:=17) _ rfl func373 rfl rfl rfl fun g hg R hR=>?_;refine S.seq<|S.region rfl<|O.q 1 rfl<|O.nil<|S.seq<|S.region rfl<|O.q 1 rfl<|O.qd (.p rfl) rfl aa rfl rfl ai ((Jl ha).sub hg) (fun ch ax w hX hW=>by (obtain ⟨hb,rfl,rfl⟩:=hX;exact hR _ _ w ⟨rfl,v,.inl ⟨hb,rfl⟩,rfl⟩ hW)) ?_;rintro l9 _ ⟨wS,l9,rfl,uP,rfl⟩
 try simp only [an,aq,au]
 refine O.q 1 rfl<|O.nil<|S.seq<|S.region rfl<|O.q 1 rfl<|O.op (.p rfl) (.geq rfl rfl)<|O.q 1 rfl ?_
 first|refine O.dV 10 rfl (fun h10=>?_) (fun h10=>?_)|refine O.dF 10 rfl (fun h10=>?_) (fun h10=>?_)
 ·refine O.q 2 rfl<|O.op (.g rfl rfl) (.leq rfl rfl)<|O.q 1 rfl<|O.kH (.p rfl) rfl aa rfl rfl (zQ _) (fun ch ax w hX hW=>by (obtain ⟨hb,rfl,rfl⟩:=hX;exact hR _ _ w ⟨rfl,l9,.inr ⟨wS,by simp at hb;omega,uP⟩,rfl⟩ hW)) ?_
  rintro _ _ ⟨CR,rfl,rfl⟩
  try simp only [an,aq,au]
  refine O.nil<|S.seq<|S.region rfl<|O.q 2 rfl<|O.nil<|S.ret results373 rfl fun w hw=>hR _ _ w ?_ hw;exact ⟨wS,by simp at CR;omega,l9,rfl,uP,rfl⟩
 ·refine O.q 4 rfl<|O.kH (.p rfl) rfl aa rfl rfl (zQ _) (fun ch ax w hX hW=>by (obtain ⟨hb,rfl,rfl⟩:=hX;exact hR _ _ w ⟨rfl,l9,.inr ⟨wS,by omega,uP⟩,rfl⟩ hW)) ?_
  rintro _ _ ⟨CR,rfl,rfl⟩
  try simp only [an,aq,au]
  exact absurd CR bq
def Ft (r:Fr) (rest:List UInt8) (u v' :Value) (ζ:List az):Prop:=8≤rest.length∧u=.int .i64 (eP rest)∧aj ag.u8 r v' (rest.drop 8)∧ζ=[]
theorem Sa {r:Fr} {b:Nat} {v:Value} {rest:List UInt8} (ha:aj ag.u8 r v rest) :
  ay prog 375 (#[.pointer (some ⟨b,0,none⟩)]++#[]++#[]) r [obj b 441 [v,.bool true,.bool false]]
   (ey (fun u U=>∃ v' ζ,Ft r rest u v' ζ∧U=obj b 441 [v',.bool true,.bool false]::ζ) (fun ch U=>ch=missing∧∃ v',(rest.length<8∧v' =v)∧U=[obj b 441 [v',.bool true,.bool false]])) :=
 (Jl (T:=441) (cs:=[.bool true,.bool false]) ha).mono fun e U h=>by
  cases e with
  |returned u=>obtain ⟨h1,v',h2,h3,h4⟩:=h;exact ⟨v',[],⟨h1,h2,h3,rfl⟩,h4⟩
  |panicked ch=>obtain ⟨h1,h2,h3⟩:=h;exact ⟨h2,v,⟨h1,rfl⟩,h3⟩
  |outgrown=>exact h.elim
theorem Tc {r:Fr} {b:Nat} {v:Value} {rest:List UInt8} {made bad:Bool} (ha:aj ag.u8 r v rest) :
  ay prog 346 #[.pointer (some ⟨b,0,none⟩)] r [obj b 441 [v,.bool made,.bool bad]]
   (aM fun u U=>∃ v',u=.int .i64 (k9 (made && !bad) rest).1∧aj ag.u8 r v' (k9 (made && !bad) rest).2.1∧U=[obj b 441 [v',.bool made,.bool (bad ||(k9 (made && !bad) rest).2.2)]]):=by
 refine ay.of (n:=11) _ rfl func346 rfl rfl rfl fun g hg R hR=>?_;refine S.seq<|S.region rfl<|O.q 1 rfl<|O.nil<|S.seq<|S.seq<|S.region rfl<|O.q 1 rfl<|O.op (.p rfl) (.rq underlying423 rfl rfl)<|O.nil<|S.aP rfl<|S.skip<|S.seq<|S.region rfl<|O.q 2 rfl<|O.op (.p rfl) (.nilCheck rfl)<|O.op (.p rfl) (.fieldAddr uE rfl)<|O.op (.p rfl) (.iS rfl rfl)<|O.bD (.p rfl) rfl aa rfl rfl ai ((KH aa (K:=Ft r rest) (fun _ _ _ h=>by obtain ⟨_,rfl,_⟩:=h;rfl) fun _ _=>Sa ha).sub hg) ?_;rintro v10 _ h10
 try simp only [an,aq,au]
 refine O.q 1 rfl<|O.nil<|S.ret results346 rfl fun w hw=>hR _ _ w ?_ hw
 rcases h10 with ⟨h1,rfl,rfl⟩|⟨rfl,rfl,v',ζ,⟨h1,rfl,h2,rfl⟩,rfl⟩|⟨rfl,rfl,v',⟨h1,rfl⟩,rfl,rfl⟩
 ·exact ⟨v,by simp [k9,h1],by simpa [k9,h1] using ha,by simp [k9,h1]⟩
 ·exact ⟨v',by simp [k9,h1],by simpa [k9,h1] using h2,by simp [k9,h1]⟩
 ·have h1:¬ 8≤rest.length:=by omega
  exact ⟨_,by simp [k9,h1],by simpa [k9,h1] using ha,by simp [k9,h1]⟩
def Fp (r:Fr) (rest:List UInt8) (u v' :Value) (ζ:List az):Prop:=∃ x xs,rest=x::xs∧u=bH x∧aj ag.u8 r v' xs∧ζ=[]
theorem Sf {r:Fr} {b:Nat} {v:Value} {rest:List UInt8} (ha:aj ag.u8 r v rest) :
  ay prog 369 (#[.pointer (some ⟨b,0,none⟩)]++#[]++#[]) r [obj b 441 [v,.bool true,.bool false]]
   (ey (fun u U=>∃ v' ζ,Fp r rest u v' ζ∧U=obj b 441 [v',.bool true,.bool false]::ζ) (fun ch U=>ch=missing∧∃ v',(rest=[]∧v' =v)∧U=[obj b 441 [v',.bool true,.bool false]])) :=
 (Sg (T:=441) (cs:=[.bool true,.bool false]) ha).mono fun e U h=>by
  cases e with
  |returned u=>obtain ⟨x,xs,v',h1,h2,h3,h4⟩:=h;exact ⟨v',[],⟨x,xs,h1,h2,h3,rfl⟩,h4⟩
  |panicked ch=>obtain ⟨h1,h2,h3⟩:=h;exact ⟨h2,v,⟨h1,rfl⟩,h3⟩
  |outgrown=>exact h.elim
theorem S7 {r:Fr} {b:Nat} {v:Value} {rest:List UInt8} {made bad:Bool} (ha:aj ag.u8 r v rest) :
  ay prog 344 #[.pointer (some ⟨b,0,none⟩)] r [obj b 441 [v,.bool made,.bool bad]]
   (aM fun u U=>∃ v',u=bH (mH (made && !bad) rest).1∧aj ag.u8 r v' (mH (made && !bad) rest).2.1∧U=[obj b 441 [v',.bool made,.bool (bad ||(mH (made && !bad) rest).2.2)]]):=by
 refine ay.of (n:=11) _ rfl func344 rfl rfl rfl fun g hg R hR=>?_;refine S.seq<|S.region rfl<|O.q 1 rfl<|O.nil<|S.seq<|S.seq<|S.region rfl<|O.q 1 rfl<|O.op (.p rfl) (.rq underlying423 rfl rfl)<|O.nil<|S.aP rfl<|S.skip<|S.seq<|S.region rfl<|O.q 2 rfl<|O.op (.p rfl) (.nilCheck rfl)<|O.op (.p rfl) (.fieldAddr uE rfl)<|O.op (.p rfl) (.iS rfl rfl)<|O.bD (.p rfl) rfl aa rfl rfl ai ((Va aa (K:=Fp r rest) (fun _ _ _ h=>by obtain ⟨_,_,_,rfl,_⟩:=h;rfl) fun _ _=>Sf ha).sub hg) ?_;rintro v10 _ h10
 try simp only [an,aq,au]
 refine O.q 1 rfl<|O.nil<|S.ret results344 rfl fun w hw=>hR _ _ w ?_ hw
 rcases h10 with ⟨h1,rfl,rfl⟩|⟨rfl,rfl,v',ζ,⟨x,xs,rfl,rfl,h2,rfl⟩,rfl⟩|⟨rfl,rfl,v',⟨rfl,rfl⟩,rfl,rfl⟩
 ·exact ⟨v,by simp [mH,h1,bH],by simpa [mH,h1] using ha,by simp [mH,h1]⟩
 ·exact ⟨v',by simp [mH],by simpa [mH] using h2,by simp [mH]⟩
 ·exact ⟨_,by simp [mH,bH],by simpa [mH] using ha,by simp [mH]⟩
def Fs (r:Fr) (most:Int) (rest:List UInt8) (u v' :Value) (ζ:List az):Prop:=8≤rest.length∧(0≤eP rest∧eP rest≤most)∧u=.int .i64 (eP rest)∧aj ag.u8 r v' (rest.drop 8)∧ζ=[]
def Ba (r:Fr) (most:Int) (v:Value) (rest:List UInt8) (v' :Value):Prop:=rest.length<8∧v' =v∨8≤rest.length∧¬(0≤eP rest∧eP rest≤most)∧aj ag.u8 r v' (rest.drop 8)
theorem Mr {jr r:Fr} {b bz bm:Nat} {v:Value} {rest:List UInt8} {most:Int} (hs:jr.sub r) (ha:aj ag.u8 jr v rest) (ht:At r ⟨bz,0,none⟩ [.pointer (some ⟨b,0,none⟩)]) (hm:At r ⟨bm,0,none⟩ [.int .i64 most]) :
  ay prog 376 (#[]++#[]++#[.pointer (some ⟨bz,0,none⟩),.pointer (some ⟨bm,0,none⟩)]) r [obj b 441 [v,.bool true,.bool false]]
   (ey (fun u U=>∃ v' ζ,Fs jr most rest u v' ζ∧U=obj b 441 [v',.bool true,.bool false]::ζ) (fun ch U=>ch=missing∧∃ v',Ba jr most v rest v' ∧U=[obj b 441 [v',.bool true,.bool false]])):=by
 refine ay.of (n:=8) [.pointer (some ⟨bz,0,none⟩),.pointer (some ⟨bm,0,none⟩)] rfl func376 rfl rfl rfl fun g hg R hR=>?_;have ht:=ht.mono hg;have hm:=hm.mono hg;refine S.seq<|S.region rfl<|O.q 1 rfl<|O.nil<|S.seq<|S.bB (L:=[0,1,2,3,4,5]) bx aa<|.quiet (.p rfl) rfl (fun _=>.loadAt oG rfl ht rfl) ?_;refine .quiet (.p rfl) rfl (fun _=>.nilCheck rfl)<|.quiet (.p rfl) rfl (fun _=>.fieldAddr uE rfl)<|.quiet (.p rfl) rfl (fun _=>.loadAt cv rfl hm rfl) ?_;refine af.qd (.p rfl) aa rfl aa rfl rfl ai ((GD most ha).sub (Fr.aI hs hg)) (fun ch ax w hX hW=>by (obtain ⟨rfl,v',hx,rfl⟩:=hX;exact hR _ _ w ⟨rfl,v',hx,rfl⟩ hW)) ?_;rintro l9 _ ⟨wS,Ot,l9,rfl,uP,rfl⟩
 try simp only [an,aq,au]
 refine af.q 1 rfl<|aK.nil<|S.ret results376 rfl fun w hw=>hR _ _ w ?_ hw;exact ⟨l9,[],⟨wS,Ot,rfl,uP,rfl⟩,rfl⟩
theorem S9 {r:Fr} {b:Nat} {v:Value} {rest:List UInt8} {made bad:Bool} (most:Int) (ha:aj ag.u8 r v rest) :
  ay prog 347 #[.pointer (some ⟨b,0,none⟩),.int .i64 most] r [obj b 441 [v,.bool made,.bool bad]]
   (aM fun u U=>∃ v',u=.int .i64 (j6 most (made && !bad) rest).1∧aj ag.u8 r v' (j6 most (made && !bad) rest).2.1∧U=[obj b 441 [v',.bool made,.bool (bad ||(j6 most (made && !bad) rest).2.2)]]):=by
 refine ay.of (n:=8) _ rfl func347 rfl rfl rfl fun g hg R hR=>?_;refine S.seq<|S.region rfl<|O.aO (.p rfl) (.box (cs:=[_]) rfl rfl) ?_;rintro _ _ ⟨b2,rfl,rfl⟩;refine O.aO (.p rfl) (.box (cs:=[_]) rfl rfl) ?_;rintro _ _ ⟨b3,rfl,rfl⟩;refine O.q 1 rfl<|O.nil<|S.seq<|S.region rfl<|O.op (.p rfl) (.lo oG) ?_;refine O.op (.p rfl) (.iS rfl rfl)<|O.freeze fun m1 bl wI=>?_;refine O.freeze fun m2 hm2 hd2=>?_;have hg2:r.sub ((g.add m1).add m2).h:=Fr.aI hg (Fr.aI (Fr.cw _ _) (Fr.cw _ _));refine O.bD (.p rfl) rfl aa rfl rfl ai (KH aa (K:=Fs r most rest) (X:=Ba r most v rest) (fun _ _ _ h=>by obtain ⟨_,_,rfl,_⟩:=h;rfl) fun _ _=>Mr hg2 ha (zU hm2 hd2) (zU bl wI).left) ?_;rintro l9 _ h7
 try simp only [an,aq,au]
 refine O.q 1 rfl<|O.nil<|S.oo (A:=fun _=>True) trivial hd2 (S.drop (S.oo (A:=fun _=>True) trivial wI (S.drop ?_)));refine S.ret results347 rfl fun w hw=>hR _ _ w ?_ hw
 rcases h7 with ⟨h1,rfl,rfl⟩|⟨rfl,rfl,v',ζ,⟨h1,h3,rfl,h2,rfl⟩,rfl⟩|⟨rfl,rfl,v',h1,rfl,rfl⟩
 ·exact ⟨v,by simp [j6,h1],by simpa [j6,h1] using ha,by simp [j6,h1]⟩
 ·exact ⟨v',by simp [j6,h1,h3],by simpa [j6,h1,h3] using h2,by simp [j6,h1,h3]⟩
 ·rcases h1 with ⟨h1,rfl⟩|⟨h1,h3,h4⟩
  ·have h1:¬ 8≤rest.length:=by omega
   exact ⟨_,by simp [j6,h1],by simpa [j6,h1] using ha,by simp [j6,h1]⟩
  ·exact ⟨v',by simp [j6,h1,h3],by simpa [j6,h1,h3] using h4,by simp [j6,h1,h3]⟩
def Fq (r:Fr) (e:TypeId) (most:Int) (rest:List UInt8) (u v' :Value) (ζ:List az):Prop :=
 8≤rest.length∧(0≤eP rest∧eP rest≤most)∧(eP rest).toNat≤(rest.drop 8).length∧aj ag.u8 r v' ((rest.drop 8).drop (eP rest).toNat) ∧
 ∃ a c,u=.slice a ((rest.drop 8).take (eP rest).toNat).length c∧ζ=[av ag.u8 e u ((rest.drop 8).take (eP rest).toNat)]
def FG (r:Fr) (most:Int) (v:Value) (rest:List UInt8) (v' :Value):Prop:=Ba r most v rest v' ∨8≤rest.length∧(0≤eP rest∧eP rest≤most)∧¬(eP rest).toNat≤(rest.drop 8).length∧aj ag.u8 r v' (rest.drop 8)
theorem LO {jr r:Fr} {b bz bm:Nat} {v:Value} {rest:List UInt8} {most:Int} (hs:jr.sub r) (ha:aj ag.u8 jr v rest) (hl:rest.length≤140737488355328) (ht:At r ⟨bz,0,none⟩ [.pointer (some ⟨b,0,none⟩)]) (hm:At r ⟨bm,0,none⟩ [.int .i64 most]) :
  ay prog 371 (#[]++#[]++#[.pointer (some ⟨bz,0,none⟩),.pointer (some ⟨bm,0,none⟩)]) r [obj b 441 [v,.bool true,.bool false]]
   (ey (fun u U=>∃ v' ζ,Fq jr 5 most rest u v' ζ∧U=obj b 441 [v',.bool true,.bool false]::ζ) (fun ch U=>ch=missing∧∃ v',FG jr most v rest v' ∧U=[obj b 441 [v',.bool true,.bool false]])):=by
 refine ay.of (n:=13) [.pointer (some ⟨bz,0,none⟩),.pointer (some ⟨bm,0,none⟩)] rfl func371 rfl rfl rfl fun g hg R hR=>?_;have ht:=ht.mono hg;have hm:=hm.mono hg;refine S.seq<|S.region rfl<|O.q 1 rfl<|O.nil<|S.seq<|S.bB (L:=[0,1,2,3,4,5,6,7,8,9,10]) bx aa<|.quiet (.p rfl) rfl (fun _=>.loadAt oG rfl ht rfl) ?_;refine .quiet (.p rfl) rfl (fun _=>.nilCheck rfl)<|.quiet (.p rfl) rfl (fun _=>.fieldAddr uE rfl)<|.quiet (.p rfl) rfl (fun _=>.loadAt oG rfl ht rfl) ?_;refine .quiet (.p rfl) rfl (fun _=>.nilCheck rfl)<|.quiet (.p rfl) rfl (fun _=>.fieldAddr uE rfl)<|.quiet (.p rfl) rfl (fun _=>.loadAt cv rfl hm rfl) ?_;refine af.qd (.p rfl) aa rfl aa rfl rfl ai ((GD most ha).sub (Fr.aI hs hg)) (fun ch ax w hX hW=>by (obtain ⟨rfl,v',hx,rfl⟩:=hX;exact hR _ _ w ⟨rfl,v',.inl hx,rfl⟩ hW)) ?_;rintro v10 _ ⟨HN,HQ,v10,rfl,Hj,rfl⟩
 try simp only [an,aq,au]
 refine af.qd (.p rfl) aa rfl aa rfl rfl ai ((E0 _ Hj).sub (Fr.aI hs hg)) (fun ch ax w hX hW=>by (obtain ⟨hb,rfl,rfl⟩:=hX;exact hR _ _ w ⟨rfl,v10,.inr ⟨HN,HQ,by omega,Hj⟩,rfl⟩ hW)) ?_;rintro v11 _ ⟨W2,kS,nL,v11,rfl,CG,Nz,rfl⟩
 try simp only [an,aq,au]
 refine af.aC (.p rfl) aa rfl aa rfl rfl ((er (CG.mono (Fr.aI hs hg)) bX)) ?_;rintro _ _ ⟨a12,jy,rfl,rfl⟩
 try simp only [an,aq,au]
 refine af.q 1 rfl<|aK.nil ?_;exact S.rt results371 rfl hR ⟨v11,_,⟨HN,HQ,by omega,Nz,a12,jy,rfl,rfl⟩,rfl⟩
theorem S8 {r:Fr} {b:Nat} {v:Value} {rest:List UInt8} {made bad:Bool} (most:Int) (ha:aj ag.u8 r v rest) (hl:rest.length≤140737488355328) :
  ay prog 345 #[.pointer (some ⟨b,0,none⟩),.int .i64 most] r [obj b 441 [v,.bool made,.bool bad]]
   (aM fun u U=>∃ a c v',u=.slice a (k8 most (made && !bad) rest).1.length c∧aj ag.u8 r v' (k8 most (made && !bad) rest).2.1 ∧
    U=[obj b 441 [v',.bool made,.bool (bad ||(k8 most (made && !bad) rest).2.2)],av ag.u8 5 u (k8 most (made && !bad) rest).1]):=by
 refine ay.of (n:=8) _ rfl func345 rfl rfl rfl fun g hg R hR=>?_;refine S.seq<|S.region rfl<|O.aO (.p rfl) (.box (cs:=[_]) rfl rfl) ?_;rintro _ _ ⟨b2,rfl,rfl⟩;refine O.aO (.p rfl) (.box (cs:=[_]) rfl rfl) ?_;rintro _ _ ⟨b3,rfl,rfl⟩;refine O.q 1 rfl<|O.nil<|S.seq<|S.region rfl<|O.op (.p rfl) (.lo oG) ?_;refine O.op (.p rfl) (.iS rfl rfl)<|O.freeze fun m1 bl wI=>?_;refine O.freeze fun m2 hm2 hd2=>?_;have hg2:r.sub ((g.add m1).add m2).h:=Fr.aI hg (Fr.aI (Fr.cw _ _) (Fr.cw _ _));refine O.bD (.p rfl) rfl aa rfl rfl ai (Vo aa (K:=Fq r 5 most rest) (X:=FG r most v rest) (fun _ _ _ h=>by obtain ⟨_,_,_,_,_,_,rfl,_⟩:=h;rfl) fun _ _=>LO hg2 ha hl (zU hm2 hd2) (zU bl wI).left) ?_;rintro l9 _ h7
 try simp only [an,aq,au]
 refine O.q 1 rfl<|O.nil<|S.oo (A:=fun _=>True) trivial hd2 (S.drop (S.oo (A:=fun _=>True) trivial wI (S.drop ?_)));refine S.gd (T:=ag.u8) (e:=5) ?_;refine S.ret results345 rfl fun w hw=>Holds.end_ hR hw ?_
 rcases h7 with ⟨h1,rfl,rfl⟩|⟨rfl,rfl,v',ζ,⟨h1,h3,h4,h5,a,c,rfl,rfl⟩,rfl⟩|⟨rfl,rfl,v',h1,rfl,rfl⟩
 ·have e:k8 most (made && !bad) rest=([],rest,false):=by simp [k8,h1]
  rw [e];simp only [Bool.or_false];exact pk ⟨none,0,v,rfl,ha,rfl⟩
 ·have e:k8 most (true && !false) rest=((rest.drop 8).take (eP rest).toNat,(rest.drop 8).drop (eP rest).toNat,false):=by
   simp only [k8,h1,h3,h4];rfl
  rw [e];simp only [Bool.or_false];exact pk ⟨a,c,v',rfl,h5,rfl⟩
 ·obtain ⟨rest',e,hr'⟩:∃ rest',k8 most (true && !false) rest=([],rest',true)∧aj ag.u8 r v' rest' :=by
   rcases h1 with (⟨h1,rfl⟩|⟨h1,h3,h4⟩)|⟨h1,h3,h4,h5⟩
   ·have h1:¬ 8≤rest.length:=by omega
    exact ⟨_,by simp only [k8,h1];rfl,ha⟩
   ·exact ⟨_,by simp only [k8,h1,h3];rfl,h4⟩
   ·exact ⟨_,by simp only [k8,h1,h3,h4];rfl,h5⟩
  rw [e];simp only [Bool.false_or];exact pk ⟨none,0,v',rfl,hr',rfl⟩
theorem Tn {r:Fr} {va:Value} {xs:List UInt8} (ha:aj ag.u8 r va xs) (hl:xs.length≤140737488355328):ay prog 343 #[va] r [] (aM fun v U=>∃ b,v=.pointer (some ⟨b,0,none⟩)∧U=[jQ 441 b ⟨true,xs⟩]) :=
 (VL ha hl).post fun e ax h w g hw=>by
  cases e with
  |returned u =>
   obtain ⟨b,a,c,rfl,rfl⟩:=h;exact ⟨_,⟨b,rfl,rfl⟩,hw.imp fun _ x=>To x⟩
  |panicked _=>exact h.elim
  |outgrown=>exact h.elim
theorem tK {r:Fr} {b:Nat} {s:RS}:ay prog 346 #[.pointer (some ⟨b,0,none⟩)] r [jQ 441 b s] (aM fun u U=>u=.int .i64 s.num.1∧U=[jQ 441 b s.num.2]) :=
 (ay.rd (Q:=fun u s' ζ=>u=.int .i64 s.num.1∧s' =s.num.2∧ζ=[]) fun m v made bad h1 h2=>(Tc h2).mono (aM.imp fun u U h=>by
  obtain ⟨v',rfl,h3,rfl⟩:=h;simp only [h1] at h3 ⊢;exact ⟨v',_,s.num.2,_,⟨rfl,rfl,rfl⟩,y5 h1,h3,rfl⟩)).mono (aM.imp fun u U h=>by obtain ⟨s',ζ,⟨rfl,rfl,rfl⟩,rfl⟩:=h;exact ⟨rfl,rfl⟩)
theorem JK {r:Fr} {b:Nat} {s:RS}:ay prog 344 #[.pointer (some ⟨b,0,none⟩)] r [jQ 441 b s] (aM fun u U=>u=bH s.byte.1∧U=[jQ 441 b s.byte.2]) :=
 (ay.rd (Q:=fun u s' ζ=>u=bH s.byte.1∧s' =s.byte.2∧ζ=[]) fun m v made bad h1 h2=>(S7 h2).mono (aM.imp fun u U h=>by
  obtain ⟨v',rfl,h3,rfl⟩:=h;simp only [h1] at h3 ⊢;exact ⟨v',_,s.byte.2,_,⟨rfl,rfl,rfl⟩,y5 h1,h3,rfl⟩)).mono (aM.imp fun u U h=>by obtain ⟨s',ζ,⟨rfl,rfl,rfl⟩,rfl⟩:=h;exact ⟨rfl,rfl⟩)
theorem Tm {r:Fr} {b:Nat} {s:RS} (most:Int):ay prog 347 #[.pointer (some ⟨b,0,none⟩),.int .i64 most] r [jQ 441 b s] (aM fun u U=>u=.int .i64 (s.count most).1∧U=[jQ 441 b (s.count most).2]) :=
 (ay.rd (Q:=fun u s' ζ=>u=.int .i64 (s.count most).1∧s' =(s.count most).2∧ζ=[]) fun m v made bad h1 h2=>(S9 most h2).mono (aM.imp fun u U h=>by
  obtain ⟨v',rfl,h3,rfl⟩:=h;simp only [h1] at h3 ⊢;exact ⟨v',_,(s.count most).2,_,⟨rfl,rfl,rfl⟩,y5 h1,h3,rfl⟩)).mono (aM.imp fun u U h=>by obtain ⟨s',ζ,⟨rfl,rfl,rfl⟩,rfl⟩:=h;exact ⟨rfl,rfl⟩)
theorem JL {r:Fr} {b:Nat} {s:RS} (most:Int) (hl:s.rest.length≤140737488355328):ay prog 345 #[.pointer (some ⟨b,0,none⟩),.int .i64 most] r [jQ 441 b s] (aM fun u U=>∃ a c,u=.slice a (s.bytes most).1.length c∧U=[jQ 441 b (s.bytes most).2,av ag.u8 5 (.slice a (s.bytes most).1.length c) (s.bytes most).1]) :=
 (ay.rd (Q:=fun u s' ζ=>∃ a c,u=.slice a (s.bytes most).1.length c∧s' =(s.bytes most).2∧ζ=[av ag.u8 5 (.slice a (s.bytes most).1.length c) (s.bytes most).1]) fun m v made bad h1 h2=>(S8 most h2 hl).mono (aM.imp fun u U h=>by
  obtain ⟨a,c,v',rfl,h3,rfl⟩:=h;simp only [h1] at h3 ⊢;exact ⟨v',_,(s.bytes most).2,_,⟨a,c,rfl,rfl,rfl⟩,y5 h1,h3,rfl⟩)).mono (aM.imp fun u U h=>by obtain ⟨s',ζ,⟨a,c,rfl,rfl,rfl⟩,rfl⟩:=h;exact ⟨a,c,rfl,rfl⟩)
theorem Ai {r:Fr} {b:Nat} {s:RS}:ay prog 348 #[.pointer (some ⟨b,0,none⟩)] r [jQ 441 b s] (aM fun u U=>u=.bool s.done∧U=[jQ 441 b s]) :=
 (ay.rd (Q:=fun u s' ζ=>u=.bool s.done∧s' =s∧ζ=[]) fun m v made bad h1 h2=>(S_ h2).mono (aM.imp fun u U h=>by
  obtain ⟨rfl,rfl⟩:=h;rw [h1];exact ⟨v,bad,s,[],⟨congrArg _ (by rw [Bool.eq_iff_iff,decide_eq_true_iff,RS.MG]),rfl,rfl⟩,h1,h2,rfl⟩)).mono (aM.imp fun u U h=>by obtain ⟨s',ζ,⟨rfl,rfl,rfl⟩,rfl⟩:=h;exact ⟨rfl,rfl⟩)
theorem nK {r:Fr} {va kQ:Value} {xs ys:List UInt8} (ha:aj ag.u8 r va xs) (hb:aj ag.u8 r kQ ys) :
  ay prog 122 #[va,kQ] r [] (aM fun v U=>v=.bool (decide (xs=ys))∧U=[]):=by
 refine ay.of (n:=10) _ rfl func122 rfl rfl rfl fun g hg R hR=>?_;have ha:=ha.mono hg;have hb:=hb.mono hg;refine S.seq<|S.region rfl<|O.q 1 rfl<|O.nil<|S.seq<|S.region rfl<|O.q 1 rfl<|O.op (.p rfl) (.toStr underlying24 underlying5 underlying9 rfl (by first|assumption|exact aj.mono hg aB|exact aj.left aB|exact aj.left (aj.mono hg aB))) ?_;refine O.q 1 rfl<|O.op (.p rfl) (.toStr underlying24 underlying5 underlying9 rfl (by first|assumption|exact aj.mono hg aB|exact aj.left aB|exact aj.left (aj.mono hg aB))) ?_;refine O.op (.p rfl) (.lE rfl rfl)<|O.q 1 rfl<|O.nil<|S.ret results122 rfl fun w hw=>hR _ _ w ?_ hw;exact ⟨by simp,rfl⟩
theorem Vn {g:bh} {be bU:Nat} {x:Value} {z:Int} {en eU:TypeId} {w:World} {R:Ending→World→Prop} {U:List az} (hw:Holds w g (obj bU en [x]::obj be eU [.int .i64 z]::U)) (hR:∀ w,Holds w g (obj bU en [x]::obj be eU [.int .i64 z]::U)→R (.returned (.tuple #[x,.int .i64 z])) w) :
  CallsD prog 305 #[.pointer (some ⟨be,0,none⟩),.pointer (some ⟨bU,0,none⟩)] .returning w (sx prog g bU be 22 44 R):=by
 refine (nO (R:=fun e w=>(∃ v,e=.returned v)∧Holds w g (obj bU en [x]::obj be eU [.int .i64 z]::U)) [.pointer (some ⟨be,0,none⟩),.pointer (some ⟨bU,0,none⟩)] rfl func305 rfl rfl rfl rfl hw ?_).mono ?_
 rotate_left
 ·rintro e u' w' ⟨rfl,⟨v,rfl⟩,h⟩
  exact ⟨⟨v,rfl⟩,rfl,en,eU,_,_,_,_,U,h,fM.flat eN,fM.flat nR,hR w' h⟩
 refine S.seq<|S.region rfl<|O.q 1 rfl<|O.op (.p rfl) (.u9 underlying20 rfl)<|O.nil<|S.aP rfl<|S.skip<|S.ej results305 fun w hw=>?_;exact ⟨⟨_,rfl⟩,hw⟩
theorem Vm {g:bh} {be bU:Nat} {x:Value} {z z' :Int} {en eU:TypeId} {w:World} {R:Ending→World→Prop} {U:List az} (hw:Holds w g (obj bU en [x]::obj be eU [.int .i64 z']::U))
  (hR:∀ w,Holds w g (obj bU en [.slice none 0 0]::obj be eU [.int .i64 z]::U)→R (.returned (.tuple #[.slice none 0 0,.int .i64 z])) w) :
  CallsD prog 305 #[.pointer (some ⟨be,0,none⟩),.pointer (some ⟨bU,0,none⟩)] (.panicking (oE 44 z)) w (sx prog g bU be 22 44 R):=by
 refine (nO (R:=fun e w=>(∃ v,e=.returned v)∧Holds w g (obj bU en [.slice none 0 0]::obj be eU [.int .i64 z]::U)) [.pointer (some ⟨be,0,none⟩),.pointer (some ⟨bU,0,none⟩)] rfl func305 rfl rfl rfl rfl hw ?_).mono ?_
 rotate_left
 ·rintro e u' w' ⟨rfl,⟨v,rfl⟩,h⟩
  exact ⟨⟨v,rfl⟩,rfl,en,eU,_,_,_,_,U,h,fM.flat eN,fM.flat nR,hR w' h⟩
 refine S.seq<|S.region rfl<|O.q 1 rfl<|O.op (.p rfl) (.u_ underlying20 rfl)<|O.nil<|S.bC rfl<|S.seq<|S.region rfl<|O.q 1 rfl<|O.nil<|S.seq<|S.seq<|S.region rfl<|O.q 1 rfl<|O.op (.p rfl) (.uv underlying44 rfl)<|O.q 3 rfl<|O.bw rfl (.bk nR rfl rfl bn ai aT) ?_;refine O.q 1 rfl<|O.nil<|S.seq<|S.region rfl<|O.q 1 rfl<|O.op (.p rfl) (.not rfl)<|O.nil<|S.aP rfl<|S.skip<|S.seq<|S.region rfl<|O.q 1 rfl<|O.nil<|S.region rfl<|O.q 1 rfl<|O.bw rfl (.bk eN rfl rfl bn ai aT) ?_;refine O.nil<|S.ej results305 fun w hw=>?_;exact ⟨⟨_,rfl⟩,hw.jH jM⟩
theorem Vl {r:Fr} {f:Nat} {first cap:Array Value} {K:Value→List az→Prop} {X:Int→Prop} (hc:dr prog f=true) (pL:(Value.func (.func f) first cap).oneCell' =true) (oK:∀ u ζ,K u ζ→u.oneCell' =true)
  (con:ay prog f (first++#[]++cap) r [] (ey K (fun ch U=>∃ z,ch=oE 44 z∧X z∧U=[]))) :
  ay prog 239 #[.func (.func f) first cap] r [] (aM fun v U=>(∃ u,K u U∧v=.tuple #[u,.int .i64 0])∨(∃ z,X z∧U=[]∧v=.tuple #[.slice none 0 0,.int .i64 z])):=by
 refine ay.of (n:=7) [.func (.func f) first cap] rfl func239 rfl rfl rfl fun g hg R hR=>?_;refine S.seq<|S.region rfl<|O.aO (.p rfl) (.alloc (cs:=[.slice none 0 0]) zeroValue22 rfl) ?_;rintro _ _ ⟨b2,rfl,rfl⟩;refine O.aO (.p rfl) (.alloc (cs:=[.int .i64 0]) zeroValue44 rfl) ?_;rintro _ _ ⟨b3,rfl,rfl⟩;refine O.nil<|S.seq<|S.region rfl<|O.op (.p rfl) (.iS rfl rfl)<|O.defer rfl rfl rfl rfl ?_;refine O.nil<|S.seq<|S.region rfl<|O.q 1 rfl<|O.BD (.p rfl) rfl hc rfl rfl (con.sub hg) (fun a ch ax w hF hX hW=>by (obtain ⟨z,rfl,hx,rfl⟩:=hX;exact u5 results239 hF rfl rfl bq aa (Vm (hW.jH jM) fun w hw=>Holds.end_ hR hw ⟨_,.inr ⟨z,hx,rfl,rfl⟩,by repeat (first|exact aW|exact aY|(apply aX;focus (repeat (first|exact aU|apply zt)))|apply aZ)⟩))) ?_;rintro v6 _ rH
 try simp only [an,aq,au]
 have hone:=oK _ _ rH;refine O.perm (List.perm_append_comm) ?_;simp only [List.cons_append,List.nil_append];refine O.bw rfl (.bk eN rfl rfl bn ai aT) ?_;refine O.bw rfl (.bk nR rfl rfl bn ai aT) ?_;refine O.nil<|S.qM fun a w hf hd hw=>?_;exact u5 results239 hf rfl rfl bq aa (Vn (hw.jH jM) fun w hw=>Holds.end_ hR hw ⟨_,.inl ⟨_,rH,rfl⟩,by repeat (first|exact aW|exact aY|(apply aX;focus (repeat (first|exact aU|apply zt)))|apply aZ)⟩)
abbrev tM (x:aQ) (v3 v5 v6:Value):List Value:=[.string (str x.1),.int .i64 x.2.1,.int .i64 x.2.2.1,v3,.bool x.2.2.2.2.1,v5,v6]
abbrev xR (x:aQ) (v3 v5 v6:Value):List az:=[av dm 191 v3 x.2.2.2.1,av ag.u8 5 v5 x.2.2.2.2.2.1,av ag.u8 5 v6 x.2.2.2.2.2.2.1]
abbrev EB:List Value:=[.string (str []),.int .i64 0,.int .i64 0,.slice none 0 0,.bool false,.slice none 0 0,.slice none 0 0]
theorem Tb {r:Fr} {va:Value} {b:List UInt8} (ha:aj ag.u8 r va b) (hl:b.length≤1000000000) :
  ay prog 311 #[va] r [] (aM fun v U=>(∃ x a3 c3 a5 dM a6 dD,l6 b=some x∧v=.tuple #[.agg (tM x (.slice a3 x.2.2.2.1.length c3) (.slice a5 x.2.2.2.2.2.1.length dM) (.slice a6 x.2.2.2.2.2.2.1.length dD)).toArray,.int .i64 0]∧U=xR x (.slice a3 x.2.2.2.1.length c3) (.slice a5 x.2.2.2.2.2.1.length dM) (.slice a6 x.2.2.2.2.2.2.1.length dD))∨(l6 b=none∧v=.tuple #[.agg EB.toArray,.int .i64 4]∧U=[])):=by
 refine ay.of (n:=76) _ rfl func311 rfl rfl rfl fun g hg R hR=>?_;have ha:=ha.mono hg;have hbd:=ha.bound;obtain ⟨a1,c1,rfl⟩:=ha.shape;refine S.seq<|S.region rfl<|O.aO (.p rfl) (.alloc (cs:=[.string ⟨#[]⟩,.int .i64 0,.int .i64 0,.slice none 0 0,.bool false,.slice none 0 0,.slice none 0 0]) zeroValue102 rfl) ?_;rintro _ _ ⟨b2,rfl,rfl⟩;refine O.q 1 rfl<|O.nil<|S.seq<|S.region rfl<|O.q 1 rfl<|O.op (.p rfl) (.len rfl underlying24 rfl)<|O.op (.p rfl) (.sub rfl rfl (IntWalk.i64_in _ ah))<|O.q 1 rfl<|O.nil<|S.seq<|S.seq<|S.region rfl<|O.q 1 rfl<|O.op (.p rfl) (.lss rfl rfl)<|O.nil ?_
 first|refine S.ct rfl (fun iJ=>?_) (fun iJ=>?_)|refine S.cm rfl (fun iJ=>?_) (fun iJ=>?_)
 ·refine S.seq<|S.region rfl<|O.op (.p rfl) (.build (cs:=[_,_,_,_,_,_,_]) underlying102 rfl rfl rfl rfl rfl)<|O.bw rfl (.cZ aa rfl rfl rfl rfl ai aT) ?_
  refine O.q 1 rfl<|O.nil<|S.r5 results311 rfl rfl ai (fM.agg isAgg102 aa) fun w hw=>Holds.end_ hR hw ?_;exact pk (.inr ⟨Ts ah,rfl,rfl⟩)
 ·have ig:64≤b.length:=by omega
  have jl:(b.take (b.length - 64)).length≤1000000000:=by rw [List.length_take];omega
  refine S.skip<|S.seq<|S.region rfl<|O.q 2 rfl<|O.sliceTo (b:=b.length - 64) (.p rfl) underlying24 fL rfl rfl aB bL bL (fun YK lH=>?_);obtain ⟨a17,qa,rfl⟩:=lH.shape;refine O.aC (.p rfl) rfl aa rfl rfl (Tn (by first|assumption|exact aj.mono hg aB|exact aj.left aB|exact aj.left (aj.mono hg aB)) bL) ?_;rintro _ _ ⟨FZ,rfl,rfl⟩
  try simp only [an,aq,au]
  refine O.q 1 rfl<|O.nil<|S.seq<|S.region rfl<|O.q 1 rfl<|O.bD (.p rfl) rfl aa rfl rfl ai JK ?_;rintro _ _ ⟨rfl,rfl⟩
  try simp only [an,aq,au]
  refine O.nil (S.seq ?_);generalize hk:(RS.mk true (b.take (b.length - 64))).byte=k;have lk:k.2.rest.length≤1000000000:=by rw [← hk];exact Nat.le_trans (RS.Gb _) jl
  have ly:=RS.LQ 64 k.2;refine S.EF (L:=[0,3,5,1,2,4,6,7,8,9]) (fun (p:Nat)=>[(6,.pointer (some ⟨p,0,none⟩))]) [(0,_),(2,_),(4,_),(5,_)] (fun (p:Nat)=>[jQ 441 FZ (k.2.bytes 64).2.num.2.num.2,obj p 102 [.string (str (k.2.bytes 64).1),.int .i64 (k.2.bytes 64).2.num.1,.int .i64 (k.2.bytes 64).2.num.2.num.1,.slice none 0 0,.bool false,.slice none 0 0,.slice none 0 0],obj b2 102 EB]) (.cons rfl (.cons rfl (.cons rfl (.cons rfl (.nil))))) bx aa (fun kk key=>?_) (fun p=>?_)
  ·refine af.q 3 rfl<|af.bD (.p rfl) aa rfl aa rfl rfl ai (JL _ bL) ?_
   rintro _ _ ⟨a22,dZ,rfl,rfl⟩
   try simp only [an,aq,au]
   refine af.eW 2 4 [4,6,7,8,9] [2,6,7,8,9] aa rfl rfl ?_ ?_
   ·refine bO.toStrO (.p rfl) aa underlying24 underlying5 underlying9 rfl ai ?_
    refine af.bD (.p rfl) aa rfl aa rfl rfl ai tK ?_;rintro _ _ ⟨rfl,rfl⟩
    try simp only [an,aq,au]
    refine af.bD (.p rfl) aa rfl aa rfl rfl ai tK ?_;rintro _ _ ⟨rfl,rfl⟩
    try simp only [an,aq,au]
    refine .quiet (.p rfl) rfl (fun _=>.build (cs:=[_,_,_,_,_,_,_]) underlying102 rfl rfl rfl rfl rfl)<|.lazy rfl aa rfl fun gh=>?_;refine af.cZ rfl aa aa rfl rfl rfl rfl ai aT ?_;refine aK.nil<|S.pk ?_ (S.weaken (Sub.app (.cons rfl (.nil)) (.cons rfl (.cons rfl (.cons rfl (.cons rfl (.nil)))))) (key gh))
    try dsimp only
    repeat (first|exact aW|exact aY|(apply aX;focus (repeat (first|exact aU|apply zt)))|apply aZ)
   ·refine bO.bD (.p rfl) aa rfl aa rfl rfl ai tK ?_
    rintro _ _ ⟨rfl,rfl⟩
    try simp only [an,aq,au]
    refine af.eW 2 6 [6,7,8,9] [2,7,8,9] aa rfl rfl ?_ ?_
    ·refine bO.toStrO (.p rfl) aa underlying24 underlying5 underlying9 rfl ai ?_
     refine af.bD (.p rfl) aa rfl aa rfl rfl ai tK ?_;rintro _ _ ⟨rfl,rfl⟩
     try simp only [an,aq,au]
     refine .quiet (.p rfl) rfl (fun _=>.build (cs:=[_,_,_,_,_,_,_]) underlying102 rfl rfl rfl rfl rfl)<|.lazy rfl aa rfl fun gh=>?_;refine af.cZ rfl aa aa rfl rfl rfl rfl ai aT ?_;refine aK.nil<|S.pk ?_ (S.weaken (Sub.app (.cons rfl (.nil)) (.cons rfl (.cons rfl (.cons rfl (.cons rfl (.nil)))))) (key gh))
     try dsimp only
     repeat (first|exact aW|exact aY|(apply aX;focus (repeat (first|exact aU|apply zt)))|apply aZ)
    ·refine bO.bD (.p rfl) aa rfl aa rfl rfl ai tK ?_
     rintro _ _ ⟨rfl,rfl⟩
     try simp only [an,aq,au]
     refine af.toStrO (.p rfl) aa underlying24 underlying5 underlying9 rfl ai ?_;refine .quiet (.p rfl) rfl (fun _=>.build (cs:=[_,_,_,_,_,_,_]) underlying102 rfl rfl rfl rfl rfl)<|.lazy rfl aa rfl fun gh=>?_;refine af.cZ rfl aa aa rfl rfl rfl rfl ai aT ?_;refine aK.nil<|S.pk ?_ (S.weaken (Sub.app (.cons rfl (.nil)) (.cons rfl (.cons rfl (.cons rfl (.cons rfl (.nil)))))) (key gh))
     try dsimp only
     repeat (first|exact aW|exact aY|(apply aX;focus (repeat (first|exact aU|apply zt)))|apply aZ)
  generalize hy:k.2.bytes 64=y at ly ⊢;have RJ:y.2.rest.length≤1000000000:=by rw [← hy];exact Nat.le_trans (RS.LP _ _) lk
  generalize hc:y.2.num=c;have lc:c.2.rest.length≤1000000000:=by rw [← hc];exact Nat.le_trans (RS.zT _) RJ
  have P3:cE c.1:=by rw [← hc];exact RS.ve _
  generalize hq:c.2.num=q;have RE:q.2.rest.length≤1000000000:=by rw [← hq];exact Nat.le_trans (RS.zT _) lc
  have Qo:cE q.1:=by rw [← hq];exact RS.ve _
  refine S.seq<|S.seq<|S.region rfl<|O.q 1 rfl<|O.bD (.p rfl) rfl aa rfl rfl ai (Tm _) ?_;rintro _ _ ⟨rfl,rfl⟩
  try simp only [an,aq,au]
  refine O.q 1 rfl<|O.nil (S.block ?_);generalize hn:q.2.count 8=n;have ln:n.2.rest.length≤1000000000:=by rw [← hn];exact Nat.le_trans (RS.Mu _ _) RE
  obtain ⟨n0,n8⟩:0≤n.1∧n.1≤8:=by rw [← hn];exact RS.Ms _ _ zE
  refine S.gd (T:=dm) (e:=191) ?_;refine S.jG (ι:=Nat) (dB:=Option Addr × Nat) (fun i a=>i≤n.1.toNat) (fun i a=>[(31,.int .i64 (i:Int))]) [(0,_),(2,_),(4,_),(5,_),(6,_),(30,_)] (fun i a=>[av dm 191 (.slice a.1 i a.2) (kn i n.2).1,jQ 441 FZ (kn i n.2).2,obj p 102 [.string (str y.1),.int .i64 c.1,.int .i64 q.1,.slice a.1 i a.2,.bool false,.slice none 0 0,.slice none 0 0],obj b2 102 EB]) (fun i a=>n.1.toNat - i) (0) ((none,0)) bq (.cons rfl (.nil)) (.cons rfl (.cons rfl (.cons rfl (.cons rfl (.cons rfl (.cons rfl (.nil))))))) rfl fun i a hx ih=>?_;have bl:=cW (g:=g);refine S.seq<|S.region rfl<|O.op (.p rfl) (.lss rfl rfl)<|O.nil (S.seq ?_)
  first|refine S.ct rfl (fun sS=>?_) (fun sS=>?_)|refine S.cm rfl (fun sS=>?_) (fun sS=>?_)
  ·have hi:i<n.1.toNat:=by omega
   have fS:=hg;have fR:=hR
   try have nr:=ha
   try have NB:=lH
   refine S.iH (B:=obj p 102 [.string (str y.1),.int .i64 c.1,.int .i64 q.1,.slice a.1 i a.2,.bool false,.slice none 0 0,.slice none 0 0]) ai fun go cR ⟨qI,hmo,jZ⟩ fC=>?_;replace hg:=Fr.aI hg cR;replace hR:=iB hR fC
   try replace ha:=ha.mono cR
   try replace lH:=lH.mono cR
   have dg:=(fK hmo).mono jZ;refine S.skip<|S.seq<|S.block<|S.bB (L:=[0,1,2,4,3,5,6,7,8,9,10]) bx aa<|.quiet (.p rfl) rfl (fun _=>.fieldAddr fQ rfl)<|.quiet (.p rfl) rfl (fun _=>.loadAt e5 rfl (dg.drop 3) rfl) ?_;refine af.q 2 rfl<|af.bD (.p rfl) aa rfl aa rfl rfl ai tK ?_;rintro _ _ ⟨rfl,rfl⟩
   try simp only [an,aq,au]
   refine af.bD (.p rfl) aa rfl aa rfl rfl ai tK ?_;rintro _ _ ⟨rfl,rfl⟩
   try simp only [an,aq,au]
   refine .quiet (.p rfl) rfl (fun _=>.build (cs:=[_,_]) underlying191 rfl rfl rfl rfl rfl)<|af.cn (T:=dm) (ys:=[_]) (.p rfl) aa underlying100 rp zE rfl rfl ⟨(dm.mk (RS.ve _) (RS.ve _)),trivial⟩ zE (fun a40 uy=>?_);refine af.gJ (.p rfl) aa (T:=dm) underlying100 rp zE rfl rfl ai ai bL bL (fun a41 sF=>?_);refine .quiet (.p rfl) rfl (fun _=>.fieldAddr fQ rfl)<|af.xu rfl aa (fun _ hw=>fC hw) e5 rfl rfl bn ai yb ?_;replace hg:=fS;replace hR:=fR
   try replace ha:=nr
   try replace lH:=NB
   clear fS fR;refine S.inBlock<|S.region rfl<|O.op (.p rfl) (.add rfl rfl (IntWalk.i64_in _ ah))<|O.q 1 rfl<|O.nil ?_;simp only [GJ,List.length_singleton];exact S.pw (ih (i+1) ((a41,sF)) ah ah)
  ·clear ih
   have hi:i=n.1.toNat:=by omega
   subst hi;generalize hd:kn n.1.toNat n.2=d;have ld:d.2.rest.length≤1000000000:=by rw [← hd];exact Nat.le_trans (MN _ _) ln
   have Rm:d.1.length=n.1.toNat:=by rw [← hd];exact GJ _ _
   have id:∀ z∈d.1,wg z:=by rw [← hd];exact MM _ _
   rw [← Rm];refine S.exit rfl<|S.seq<|S.region rfl<|O.q 1 rfl<|O.bD (.p rfl) rfl aa rfl rfl ai JK ?_;rintro _ _ ⟨rfl,rfl⟩
   try simp only [an,aq,au]
   refine O.op (.p rfl) (.neq rfl rfl)<|O.slot 46 (v' :=.bool (decide (d.2.byte.1≠0))) rfl (by simp [← UInt8.toNat_inj]) ?_;refine O.op (.p rfl) (.aF yV rfl)<|O.bw rfl (.bk ic rfl rfl bn ai aT) ?_;refine O.nil (S.seq ?_);generalize hg2:d.2.byte=g2;have X8:g2.2.rest.length≤1000000000:=by rw [← hg2];exact Nat.le_trans (RS.Gb _) ld
   refine S.bB (L:=[0,2,3,4,1,6,5,7,8,9]) bx aa ?_;refine af.q 3 rfl<|af.sliceFrom (a:=b.length - 64) (.p rfl) underlying24 fL rfl rfl aB bL bL (fun YP qq=>?_);obtain ⟨kg,ki,rfl⟩:=qq.shape;refine af.bD (.p rfl) aa rfl aa rfl rfl ai (JL _ bL) ?_;rintro _ _ ⟨a49,uz,rfl,rfl⟩
   try simp only [an,aq,au]
   refine .quiet (.p rfl) rfl (fun _=>.aF gD rfl)<|af.aC (.p rfl) aa rfl aa rfl rfl (er (by first|assumption|exact aj.mono hg aB|exact aj.left aB|exact aj.left (aj.mono hg aB)) bL) ?_;rintro _ _ ⟨a53,uA,rfl,rfl⟩
   try simp only [an,aq,au]
   refine af.bk rfl aa bg rfl rfl bn ai aT ?_;refine .quiet (.p rfl) rfl (fun _=>.aF jg rfl)<|af.bk rfl aa bg rfl rfl bn ai aT ?_;refine aK.nil (S.seq ?_);generalize hv:g2.2.bytes 1024=v;have hX:r4 b=(y.1,c.1,q.1,d.1,decide (g2.1≠0),v.1,b.drop (b.length - 64),()):=by subst hv hg2 hd hn hq hc hy hk;rfl
   have hS:(tL b).s=v.2:=by subst hv hg2 hd hn hq hc hy hk;rfl
   have n4:=Tu (b:=b);have hno:=Tq (b:=b);rw [hX] at n4 hno;rw [hS] at hno;have H8:∀ {m:Fr} (v3 v5 v6:Value),aj dm m v3 d.1→aj ag.u8 m v5 v.1→aj ag.u8 m v6 (b.drop (b.length - 64))→dc.rel m [.string (str y.1),.int .i64 c.1,.int .i64 q.1,v3,.bool (decide (g2.1≠0)),v5,v6] (y.1,c.1,q.1,d.1,decide (g2.1≠0),v.1,b.drop (b.length - 64),()):=fun v3 v5 v6 h3 h5 h6=>dc.mk ah P3 Qo h3 h5 h6;clear hX hS;generalize Ny:((y.1,c.1,q.1,d.1,decide (g2.1≠0),v.1,b.drop (b.length - 64),()):aQ)=X at n4 hno H8;refine S.region rfl<|O.op (.p rfl) (.gU (news:=[_,_,_,_,_,_,_]) isAgg102) ?_;refine O.cU (.p rfl) rfl aa rfl rfl (bs:=[av dm 191 (.slice a.1 d.1.length a.2) d.1,av ag.u8 5 (.slice a49 v.1.length uz) v.1,av ag.u8 5 (.slice a53 (b.drop (b.length - 64)).length uA) (b.drop (b.length - 64))]) aV (fun m hm lJ =>JH (x:=X) (H8 _ _ _ (hm.arr.right lJ) (hm.tail.arr.right lJ) (hm.tail.tail.arr.right lJ))) ?_;rintro _ _ ⟨a58,vY,rfl,rfl⟩
   try simp only [an,aq,au]
   refine O.q 5 rfl<|O.nil (S.seq (S.seq ?_))
   cases e1:v.2.done with
   |false =>
    refine S.region rfl<|O.q 1 rfl<|O.bD (.p rfl) rfl aa rfl rfl ai Ai ?_;rintro _ _ ⟨rfl,rfl⟩
    try simp only [an,aq,au]
    refine O.aL 62 rfl (by exact e1) ?_;refine O.op (.p rfl) (.not rfl)<|O.q 10 rfl<|O.nil<|S.bC rfl<|S.seq<|S.region rfl<|O.op (.p rfl) (.build (cs:=[_,_,_,_,_,_,_]) underlying102 rfl rfl rfl rfl rfl)<|O.bw rfl (.cZ aa rfl rfl rfl rfl ai aT) ?_;refine O.q 1 rfl<|O.nil<|S.r5 results311 rfl rfl ai (fM.agg isAgg102 aa) fun w hw=>Holds.end_ hR hw ?_;exact pk (.inr ⟨hno fun q=>by rw [e1] at q;exact absurd q.1 zE,rfl,rfl⟩)
   |true =>
    cases e2:ea X with
    |false =>
     refine S.region rfl<|O.q 1 rfl<|O.bD (.p rfl) rfl aa rfl rfl ai Ai ?_;rintro _ _ ⟨rfl,rfl⟩
     try simp only [an,aq,au]
     refine O.sT 62 rfl (by exact e1) ?_;refine O.op (.p rfl) (.not rfl)<|O.q 2 rfl<|O.op (.g rfl rfl) (.neq rfl rfl)<|O.sT 66 rfl (by simp [og,e2]) ?_;refine O.q 7 rfl<|O.nil<|S.bC rfl<|S.seq<|S.region rfl<|O.op (.p rfl) (.build (cs:=[_,_,_,_,_,_,_]) underlying102 rfl rfl rfl rfl rfl)<|O.bw rfl (.cZ aa rfl rfl rfl rfl ai aT) ?_;refine O.q 1 rfl<|O.nil<|S.r5 results311 rfl rfl ai (fM.agg isAgg102 aa) fun w hw=>Holds.end_ hR hw ?_;exact pk (.inr ⟨hno fun q=>by rw [e2] at q;exact absurd q.2.1 zE,rfl,rfl⟩)
    |true =>
     by_cases b6:b7 X=b
     ·
      refine S.region rfl<|O.q 1 rfl<|O.bD (.p rfl) rfl aa rfl rfl ai Ai ?_;rintro _ _ ⟨rfl,rfl⟩
      try simp only [an,aq,au]
      refine O.sT 62 rfl (by exact e1) ?_;refine O.op (.p rfl) (.not rfl)<|O.q 2 rfl<|O.op (.g rfl rfl) (.neq rfl rfl)<|O.aL 66 rfl (by simp [og,e2]) ?_;refine O.q 4 rfl<|O.cU (.g rfl rfl) rfl aa rfl rfl (bs:=[av ag.u8 5 (.slice a58 (l7 X).length vY) (l7 X)]) aV (fun m hm lJ =>nK (hm.arr.right lJ) ha.left) ?_;rintro _ _ ⟨rfl,rfl⟩
      try simp only [an,aq,au]
      refine O.sT 71 rfl (by exact decide_eq_true (by rw [l7,if_pos e2];exact b6)) ?_;refine O.op (.g rfl rfl) (.not rfl)<|O.q 1 rfl<|O.nil<|S.aP rfl<|S.skip<|S.seq<|S.region rfl<|O.op (.p rfl) (.gU (news:=[_,_,_,_,_,_,_]) isAgg102) ?_;refine O.bw rfl (.cZ aa rfl rfl rfl rfl ai aT) ?_;refine O.q 1 rfl<|O.nil<|S.r5 results311 rfl rfl ai (fM.agg isAgg102 aa) fun w hw=>Holds.end_ hR hw ?_;have hy' :=n4 e2 b6;subst Ny;exact pk (.inl ⟨_,a.1,a.2,a49,uz,a53,uA,hy',rfl,rfl⟩)
     ·
      refine S.region rfl<|O.q 1 rfl<|O.bD (.p rfl) rfl aa rfl rfl ai Ai ?_;rintro _ _ ⟨rfl,rfl⟩
      try simp only [an,aq,au]
      refine O.sT 62 rfl (by exact e1) ?_;refine O.op (.p rfl) (.not rfl)<|O.q 2 rfl<|O.op (.g rfl rfl) (.neq rfl rfl)<|O.aL 66 rfl (by simp [og,e2]) ?_;refine O.q 4 rfl<|O.cU (.g rfl rfl) rfl aa rfl rfl (bs:=[av ag.u8 5 (.slice a58 (l7 X).length vY) (l7 X)]) aV (fun m hm lJ =>nK (hm.arr.right lJ) ha.left) ?_;rintro _ _ ⟨rfl,rfl⟩
      try simp only [an,aq,au]
      refine O.aL 71 rfl (by exact decide_eq_false (by rw [l7,if_pos e2];exact b6)) ?_;refine O.op (.g rfl rfl) (.not rfl)<|O.q 1 rfl<|O.nil<|S.bC rfl<|S.seq<|S.region rfl<|O.op (.p rfl) (.build (cs:=[_,_,_,_,_,_,_]) underlying102 rfl rfl rfl rfl rfl)<|O.bw rfl (.cZ aa rfl rfl rfl rfl ai aT) ?_;refine O.q 1 rfl<|O.nil<|S.r5 results311 rfl rfl ai (fM.agg isAgg102 aa) fun w hw=>Holds.end_ hR hw ?_;exact pk (.inr ⟨hno fun q=>b6 q.2.2,rfl,rfl⟩)
theorem Ta {r:Fr} {va:Value} {b:List UInt8} {x:aQ} (e:l6 b=some x) (ha:aj ag.u8 r va b) (hl:b.length≤1000000000) :
  ay prog 311 #[va] r [] (aM fun v U=>∃ a3 c3 a5 dM a6 dD,v=.tuple #[.agg (tM x (.slice a3 x.2.2.2.1.length c3) (.slice a5 x.2.2.2.2.2.1.length dM) (.slice a6 x.2.2.2.2.2.2.1.length dD)).toArray,.int .i64 0]∧U=xR x (.slice a3 x.2.2.2.1.length c3) (.slice a5 x.2.2.2.2.2.1.length dM) (.slice a6 x.2.2.2.2.2.2.1.length dD)) :=
 (Tb ha hl).mono (aM.imp fun v U h=>by
  rcases h with ⟨y,a3,c3,a5,dM,a6,dD,h1,h2,h3⟩|⟨h1,_⟩
  ·rw [e] at h1;obtain rfl:=Option.some.inj h1;exact ⟨a3,c3,a5,dM,a6,dD,h2,h3⟩
  ·rw [e] at h1;cases h1)
end Go.Proofs.YtojafegjlahajaaGreatDoor
