/- Texts of this proof. -/
import Derived.Test.YtojafegjlahajaaGreatDoorQWire2
open Go Go.Sp Go.Proofs.Tryz
set_option maxRecDepth 100000
set_option maxHeartbeats 1000000
attribute [local irreducible] obj Own av
namespace Go.Proofs.YtojafegjlahajaaGreatDoor
theorem Hl {r:Fr} {b T:Nat} {v:Value} {cs:List Value} {rest:List UInt8} (most:Int) (ha:aj ag.u8 r v rest) :
  ay prog 373 #[.pointer (some ⟨b,0,none⟩),.int .i64 most] r [obj b T (v::cs)]
   (eL (fun u U=>8≤rest.length∧(0≤eV rest∧eV rest≤most)∧∃ v',u=.int .i64 (eV rest)∧aj ag.u8 r v' (rest.drop 8)∧U=[obj b T (v' ::cs)])
    (fun ch U=>ch=missing∧∃ v',(rest.length<8∧v' =v∨8≤rest.length∧¬(0≤eV rest∧eV rest≤most)∧aj ag.u8 r v' (rest.drop 8))∧U=[obj b T (v' ::cs)])):=by
 refine ay.of (n:=17) _ rfl func373 rfl rfl rfl fun g hg R hR=>?_;refine S.seq<|S.region rfl<|O.q 1 rfl<|O.nil<|S.seq<|S.region rfl<|O.q 1 rfl<|O.qA (.p rfl) rfl aa rfl rfl ai ((J3 ha).sub hg) (fun ch ax w hX hW=>by (obtain ⟨hb,rfl,rfl⟩:=hX;exact hR _ _ w ⟨rfl,v,.inl ⟨hb,rfl⟩,rfl⟩ hW)) ?_;rintro mC _ ⟨xz,mC,rfl,vq,rfl⟩
 try simp only [an,aq,au]
 refine O.q 1 rfl<|O.nil<|S.seq<|S.region rfl<|O.q 1 rfl<|O.op (.p rfl) (.geq rfl rfl)<|O.q 1 rfl ?_
 first|refine O.dx 10 rfl (fun h10=>?_) (fun h10=>?_)|refine O.c_ 10 rfl (fun h10=>?_) (fun h10=>?_)
 ·refine O.q 2 rfl<|O.op (.g rfl rfl) (.leq rfl rfl)<|O.q 1 rfl<|O.kS (.p rfl) rfl aa rfl rfl (Aq _) (fun ch ax w hX hW=>by (obtain ⟨hb,rfl,rfl⟩:=hX;exact hR _ _ w ⟨rfl,mC,.inr ⟨xz,by simp at hb;omega,vq⟩,rfl⟩ hW)) ?_
  rintro _ _ ⟨Dq,rfl,rfl⟩
  try simp only [an,aq,au]
  refine O.nil<|S.seq<|S.region rfl<|O.q 2 rfl<|O.nil<|S.ret results373 rfl fun w hw=>hR _ _ w ?_ hw;exact ⟨xz,by simp at Dq;omega,mC,rfl,vq,rfl⟩
 ·refine O.q 4 rfl<|O.kS (.p rfl) rfl aa rfl rfl (Aq _) (fun ch ax w hX hW=>by (obtain ⟨hb,rfl,rfl⟩:=hX;exact hR _ _ w ⟨rfl,mC,.inr ⟨xz,by omega,vq⟩,rfl⟩ hW)) ?_
  rintro _ _ ⟨Dq,rfl,rfl⟩
  try simp only [an,aq,au]
  exact absurd Dq bI
def Ge (r:Fr) (rest:List UInt8) (u v' :Value) (ζ:List az):Prop:=8≤rest.length∧u=.int .i64 (eV rest)∧aj ag.u8 r v' (rest.drop 8)∧ζ=[]
theorem TE {r:Fr} {b:Nat} {v:Value} {rest:List UInt8} (ha:aj ag.u8 r v rest) :
  ay prog 375 (#[.pointer (some ⟨b,0,none⟩)]++#[]++#[]) r [obj b 441 [v,.bool true,.bool false]]
   (eL (fun u U=>∃ v' ζ,Ge r rest u v' ζ∧U=obj b 441 [v',.bool true,.bool false]::ζ) (fun ch U=>ch=missing∧∃ v',(rest.length<8∧v' =v)∧U=[obj b 441 [v',.bool true,.bool false]])) :=
 (J3 (T:=441) (cs:=[.bool true,.bool false]) ha).mono fun e U h=>by
  cases e with
  |returned u=>obtain ⟨h1,v',h2,h3,h4⟩:=h;exact ⟨v',[],⟨h1,h2,h3,rfl⟩,h4⟩
  |panicked ch=>obtain ⟨h1,h2,h3⟩:=h;exact ⟨h2,v,⟨h1,rfl⟩,h3⟩
  |outgrown=>exact h.elim
theorem UB {r:Fr} {b:Nat} {v:Value} {rest:List UInt8} {made bad:Bool} (ha:aj ag.u8 r v rest) :
  ay prog 346 #[.pointer (some ⟨b,0,none⟩)] r [obj b 441 [v,.bool made,.bool bad]]
   (aL fun u U=>∃ v',u=.int .i64 (lJ (made && !bad) rest).1∧aj ag.u8 r v' (lJ (made && !bad) rest).2.1∧U=[obj b 441 [v',.bool made,.bool (bad ||(lJ (made && !bad) rest).2.2)]]):=by
 refine ay.of (n:=11) _ rfl func346 rfl rfl rfl fun g hg R hR=>?_;refine S.seq<|S.region rfl<|O.q 1 rfl<|O.nil<|S.seq<|S.seq<|S.region rfl<|O.q 1 rfl<|O.op (.p rfl) (.rK underlying423 rfl rfl)<|O.nil<|S.aQ rfl<|S.skip<|S.seq<|S.region rfl<|O.q 2 rfl<|O.op (.p rfl) (.nilCheck rfl)<|O.op (.p rfl) (.fieldAddr vg rfl)<|O.op (.p rfl) (.jc rfl rfl)<|O.bM (.p rfl) rfl aa rfl rfl ai ((Lo aa (K:=Ge r rest) (fun _ _ _ h=>by obtain ⟨_,rfl,_⟩:=h;rfl) fun _ _=>TE ha).sub hg) ?_;rintro v10 _ h10
 try simp only [an,aq,au]
 refine O.q 1 rfl<|O.nil<|S.ret results346 rfl fun w hw=>hR _ _ w ?_ hw
 rcases h10 with ⟨h1,rfl,rfl⟩|⟨rfl,rfl,v',ζ,⟨h1,rfl,h2,rfl⟩,rfl⟩|⟨rfl,rfl,v',⟨h1,rfl⟩,rfl,rfl⟩
 ·exact ⟨v,by simp [lJ,h1],by simpa [lJ,h1] using ha,by simp [lJ,h1]⟩
 ·exact ⟨v',by simp [lJ,h1],by simpa [lJ,h1] using h2,by simp [lJ,h1]⟩
 ·have h1:¬ 8≤rest.length:=by omega
  exact ⟨_,by simp [lJ,h1],by simpa [lJ,h1] using ha,by simp [lJ,h1]⟩
def Gb (r:Fr) (rest:List UInt8) (u v' :Value) (ζ:List az):Prop:=∃ x xs,rest=x::xs∧u=bD x∧aj ag.u8 r v' xs∧ζ=[]
theorem TK {r:Fr} {b:Nat} {v:Value} {rest:List UInt8} (ha:aj ag.u8 r v rest) :
  ay prog 369 (#[.pointer (some ⟨b,0,none⟩)]++#[]++#[]) r [obj b 441 [v,.bool true,.bool false]]
   (eL (fun u U=>∃ v' ζ,Gb r rest u v' ζ∧U=obj b 441 [v',.bool true,.bool false]::ζ) (fun ch U=>ch=missing∧∃ v',(rest=[]∧v' =v)∧U=[obj b 441 [v',.bool true,.bool false]])) :=
 (TL (T:=441) (cs:=[.bool true,.bool false]) ha).mono fun e U h=>by
  cases e with
  |returned u=>obtain ⟨x,xs,v',h1,h2,h3,h4⟩:=h;exact ⟨v',[],⟨x,xs,h1,h2,h3,rfl⟩,h4⟩
  |panicked ch=>obtain ⟨h1,h2,h3⟩:=h;exact ⟨h2,v,⟨h1,rfl⟩,h3⟩
  |outgrown=>exact h.elim
theorem Uv {r:Fr} {b:Nat} {v:Value} {rest:List UInt8} {made bad:Bool} (ha:aj ag.u8 r v rest) :
  ay prog 344 #[.pointer (some ⟨b,0,none⟩)] r [obj b 441 [v,.bool made,.bool bad]]
   (aL fun u U=>∃ v',u=bD (mU (made && !bad) rest).1∧aj ag.u8 r v' (mU (made && !bad) rest).2.1∧U=[obj b 441 [v',.bool made,.bool (bad ||(mU (made && !bad) rest).2.2)]]):=by
 refine ay.of (n:=11) _ rfl func344 rfl rfl rfl fun g hg R hR=>?_;refine S.seq<|S.region rfl<|O.q 1 rfl<|O.nil<|S.seq<|S.seq<|S.region rfl<|O.q 1 rfl<|O.op (.p rfl) (.rK underlying423 rfl rfl)<|O.nil<|S.aQ rfl<|S.skip<|S.seq<|S.region rfl<|O.q 2 rfl<|O.op (.p rfl) (.nilCheck rfl)<|O.op (.p rfl) (.fieldAddr vg rfl)<|O.op (.p rfl) (.jc rfl rfl)<|O.bM (.p rfl) rfl aa rfl rfl ai ((WZ aa (K:=Gb r rest) (fun _ _ _ h=>by obtain ⟨_,_,_,rfl,_⟩:=h;rfl) fun _ _=>TK ha).sub hg) ?_;rintro v10 _ h10
 try simp only [an,aq,au]
 refine O.q 1 rfl<|O.nil<|S.ret results344 rfl fun w hw=>hR _ _ w ?_ hw
 rcases h10 with ⟨h1,rfl,rfl⟩|⟨rfl,rfl,v',ζ,⟨x,xs,rfl,rfl,h2,rfl⟩,rfl⟩|⟨rfl,rfl,v',⟨rfl,rfl⟩,rfl,rfl⟩
 ·exact ⟨v,by simp [mU,h1,bD],by simpa [mU,h1] using ha,by simp [mU,h1]⟩
 ·exact ⟨v',by simp [mU],by simpa [mU] using h2,by simp [mU]⟩
 ·exact ⟨_,by simp [mU,bD],by simpa [mU] using ha,by simp [mU]⟩
def Gd (r:Fr) (most:Int) (rest:List UInt8) (u v' :Value) (ζ:List az):Prop:=8≤rest.length∧(0≤eV rest∧eV rest≤most)∧u=.int .i64 (eV rest)∧aj ag.u8 r v' (rest.drop 8)∧ζ=[]
def BI (r:Fr) (most:Int) (v:Value) (rest:List UInt8) (v' :Value):Prop:=rest.length<8∧v' =v∨8≤rest.length∧¬(0≤eV rest∧eV rest≤most)∧aj ag.u8 r v' (rest.drop 8)
theorem Nl {jH r:Fr} {b bH bm:Nat} {v:Value} {rest:List UInt8} {most:Int} (hs:jH.sub r) (ha:aj ag.u8 jH v rest) (ht:At r ⟨bH,0,none⟩ [.pointer (some ⟨b,0,none⟩)]) (hm:At r ⟨bm,0,none⟩ [.int .i64 most]) :
  ay prog 376 (#[]++#[]++#[.pointer (some ⟨bH,0,none⟩),.pointer (some ⟨bm,0,none⟩)]) r [obj b 441 [v,.bool true,.bool false]]
   (eL (fun u U=>∃ v' ζ,Gd jH most rest u v' ζ∧U=obj b 441 [v',.bool true,.bool false]::ζ) (fun ch U=>ch=missing∧∃ v',BI jH most v rest v' ∧U=[obj b 441 [v',.bool true,.bool false]])):=by
 refine ay.of (n:=8) [.pointer (some ⟨bH,0,none⟩),.pointer (some ⟨bm,0,none⟩)] rfl func376 rfl rfl rfl fun g hg R hR=>?_;have ht:=ht.mono hg;have hm:=hm.mono hg;refine S.seq<|S.region rfl<|O.q 1 rfl<|O.nil<|S.seq<|S.bB (L:=[0,1,2,3,4,5]) bA aa<|.quiet (.p rfl) rfl (fun _=>.loadAt o9 rfl ht rfl) ?_;refine .quiet (.p rfl) rfl (fun _=>.nilCheck rfl)<|.quiet (.p rfl) rfl (fun _=>.fieldAddr vg rfl)<|.quiet (.p rfl) rfl (fun _=>.loadAt cv rfl hm rfl) ?_;refine af.qA (.p rfl) aa rfl aa rfl rfl ai ((Hl most ha).sub (Fr.aH hs hg)) (fun ch ax w hX hW=>by (obtain ⟨rfl,v',hx,rfl⟩:=hX;exact hR _ _ w ⟨rfl,v',hx,rfl⟩ hW)) ?_;rintro mC _ ⟨xz,PI,mC,rfl,vq,rfl⟩
 try simp only [an,aq,au]
 refine af.q 1 rfl<|aI.nil<|S.ret results376 rfl fun w hw=>hR _ _ w ?_ hw;exact ⟨mC,[],⟨xz,PI,rfl,vq,rfl⟩,rfl⟩
theorem Ux {r:Fr} {b:Nat} {v:Value} {rest:List UInt8} {made bad:Bool} (most:Int) (ha:aj ag.u8 r v rest) :
  ay prog 347 #[.pointer (some ⟨b,0,none⟩),.int .i64 most] r [obj b 441 [v,.bool made,.bool bad]]
   (aL fun u U=>∃ v',u=.int .i64 (kp most (made && !bad) rest).1∧aj ag.u8 r v' (kp most (made && !bad) rest).2.1∧U=[obj b 441 [v',.bool made,.bool (bad ||(kp most (made && !bad) rest).2.2)]]):=by
 refine ay.of (n:=8) _ rfl func347 rfl rfl rfl fun g hg R hR=>?_;refine S.seq<|S.region rfl<|O.aM (.p rfl) (.box (cs:=[_]) rfl rfl) ?_;rintro _ _ ⟨b2,rfl,rfl⟩;refine O.aM (.p rfl) (.box (cs:=[_]) rfl rfl) ?_;rintro _ _ ⟨b3,rfl,rfl⟩;refine O.q 1 rfl<|O.nil<|S.seq<|S.region rfl<|O.op (.p rfl) (.lo o9) ?_;refine O.op (.p rfl) (.jc rfl rfl)<|O.freeze fun m1 aX xh=>?_;refine O.freeze fun m2 hm2 hd2=>?_;have hg2:r.sub ((g.add m1).add m2).h:=Fr.aH hg (Fr.aH (Fr.de _ _) (Fr.de _ _));refine O.bM (.p rfl) rfl aa rfl rfl ai (Lo aa (K:=Gd r most rest) (X:=BI r most v rest) (fun _ _ _ h=>by obtain ⟨_,_,rfl,_⟩:=h;rfl) fun _ _=>Nl hg2 ha (Ax hm2 hd2) (Ax aX xh).left) ?_;rintro mC _ h7
 try simp only [an,aq,au]
 refine O.q 1 rfl<|O.nil<|S.oH (A:=fun _=>True) trivial hd2 (S.drop (S.oH (A:=fun _=>True) trivial xh (S.drop ?_)));refine S.ret results347 rfl fun w hw=>hR _ _ w ?_ hw
 rcases h7 with ⟨h1,rfl,rfl⟩|⟨rfl,rfl,v',ζ,⟨h1,h3,rfl,h2,rfl⟩,rfl⟩|⟨rfl,rfl,v',h1,rfl,rfl⟩
 ·exact ⟨v,by simp [kp,h1],by simpa [kp,h1] using ha,by simp [kp,h1]⟩
 ·exact ⟨v',by simp [kp,h1,h3],by simpa [kp,h1,h3] using h2,by simp [kp,h1,h3]⟩
 ·rcases h1 with ⟨h1,rfl⟩|⟨h1,h3,h4⟩
  ·have h1:¬ 8≤rest.length:=by omega
   exact ⟨_,by simp [kp,h1],by simpa [kp,h1] using ha,by simp [kp,h1]⟩
  ·exact ⟨v',by simp [kp,h1,h3],by simpa [kp,h1,h3] using h4,by simp [kp,h1,h3]⟩
def Gc (r:Fr) (e:TypeId) (most:Int) (rest:List UInt8) (u v' :Value) (ζ:List az):Prop :=
 8≤rest.length∧(0≤eV rest∧eV rest≤most)∧(eV rest).toNat≤(rest.drop 8).length∧aj ag.u8 r v' ((rest.drop 8).drop (eV rest).toNat) ∧
 ∃ a c,u=.slice a ((rest.drop 8).take (eV rest).toNat).length c∧ζ=[av ag.u8 e u ((rest.drop 8).take (eV rest).toNat)]
def Gr (r:Fr) (most:Int) (v:Value) (rest:List UInt8) (v' :Value):Prop:=BI r most v rest v' ∨8≤rest.length∧(0≤eV rest∧eV rest≤most)∧¬(eV rest).toNat≤(rest.drop 8).length∧aj ag.u8 r v' (rest.drop 8)
theorem MF {jH r:Fr} {b bH bm:Nat} {v:Value} {rest:List UInt8} {most:Int} (hs:jH.sub r) (ha:aj ag.u8 jH v rest) (hl:rest.length≤140737488355328) (ht:At r ⟨bH,0,none⟩ [.pointer (some ⟨b,0,none⟩)]) (hm:At r ⟨bm,0,none⟩ [.int .i64 most]) :
  ay prog 371 (#[]++#[]++#[.pointer (some ⟨bH,0,none⟩),.pointer (some ⟨bm,0,none⟩)]) r [obj b 441 [v,.bool true,.bool false]]
   (eL (fun u U=>∃ v' ζ,Gc jH 5 most rest u v' ζ∧U=obj b 441 [v',.bool true,.bool false]::ζ) (fun ch U=>ch=missing∧∃ v',Gr jH most v rest v' ∧U=[obj b 441 [v',.bool true,.bool false]])):=by
 refine ay.of (n:=13) [.pointer (some ⟨bH,0,none⟩),.pointer (some ⟨bm,0,none⟩)] rfl func371 rfl rfl rfl fun g hg R hR=>?_;have ht:=ht.mono hg;have hm:=hm.mono hg;refine S.seq<|S.region rfl<|O.q 1 rfl<|O.nil<|S.seq<|S.bB (L:=[0,1,2,3,4,5,6,7,8,9,10]) bA aa<|.quiet (.p rfl) rfl (fun _=>.loadAt o9 rfl ht rfl) ?_;refine .quiet (.p rfl) rfl (fun _=>.nilCheck rfl)<|.quiet (.p rfl) rfl (fun _=>.fieldAddr vg rfl)<|.quiet (.p rfl) rfl (fun _=>.loadAt o9 rfl ht rfl) ?_;refine .quiet (.p rfl) rfl (fun _=>.nilCheck rfl)<|.quiet (.p rfl) rfl (fun _=>.fieldAddr vg rfl)<|.quiet (.p rfl) rfl (fun _=>.loadAt cv rfl hm rfl) ?_;refine af.qA (.p rfl) aa rfl aa rfl rfl ai ((Hl most ha).sub (Fr.aH hs hg)) (fun ch ax w hX hW=>by (obtain ⟨rfl,v',hx,rfl⟩:=hX;exact hR _ _ w ⟨rfl,v',.inl hx,rfl⟩ hW)) ?_;rintro v10 _ ⟨IA,ID,v10,rfl,H7,rfl⟩
 try simp only [an,aq,au]
 refine af.qA (.p rfl) aa rfl aa rfl rfl ai ((FM _ H7).sub (Fr.aH hs hg)) (fun ch ax w hX hW=>by (obtain ⟨hb,rfl,rfl⟩:=hX;exact hR _ _ w ⟨rfl,v10,.inr ⟨IA,ID,by omega,H7⟩,rfl⟩ hW)) ?_;rintro v11 _ ⟨YP,k9,nZ,v11,rfl,De,Oy,rfl⟩
 try simp only [an,aq,au]
 refine af.aB (.p rfl) aa rfl aa rfl rfl ((eE (De.mono (Fr.aH hs hg)) b5)) ?_;rintro _ _ ⟨a12,jO,rfl,rfl⟩
 try simp only [an,aq,au]
 refine af.q 1 rfl<|aI.nil ?_;exact S.rt results371 rfl hR ⟨v11,_,⟨IA,ID,by omega,Oy,a12,jO,rfl,rfl⟩,rfl⟩
theorem Uw {r:Fr} {b:Nat} {v:Value} {rest:List UInt8} {made bad:Bool} (most:Int) (ha:aj ag.u8 r v rest) (hl:rest.length≤140737488355328) :
  ay prog 345 #[.pointer (some ⟨b,0,none⟩),.int .i64 most] r [obj b 441 [v,.bool made,.bool bad]]
   (aL fun u U=>∃ a c v',u=.slice a (lI most (made && !bad) rest).1.length c∧aj ag.u8 r v' (lI most (made && !bad) rest).2.1 ∧
    U=[obj b 441 [v',.bool made,.bool (bad ||(lI most (made && !bad) rest).2.2)],av ag.u8 5 u (lI most (made && !bad) rest).1]):=by
 refine ay.of (n:=8) _ rfl func345 rfl rfl rfl fun g hg R hR=>?_;refine S.seq<|S.region rfl<|O.aM (.p rfl) (.box (cs:=[_]) rfl rfl) ?_;rintro _ _ ⟨b2,rfl,rfl⟩;refine O.aM (.p rfl) (.box (cs:=[_]) rfl rfl) ?_;rintro _ _ ⟨b3,rfl,rfl⟩;refine O.q 1 rfl<|O.nil<|S.seq<|S.region rfl<|O.op (.p rfl) (.lo o9) ?_;refine O.op (.p rfl) (.jc rfl rfl)<|O.freeze fun m1 aX xh=>?_;refine O.freeze fun m2 hm2 hd2=>?_;have hg2:r.sub ((g.add m1).add m2).h:=Fr.aH hg (Fr.aH (Fr.de _ _) (Fr.de _ _));refine O.bM (.p rfl) rfl aa rfl rfl ai (Xc aa (K:=Gc r 5 most rest) (X:=Gr r most v rest) (fun _ _ _ h=>by obtain ⟨_,_,_,_,_,_,rfl,_⟩:=h;rfl) fun _ _=>MF hg2 ha hl (Ax hm2 hd2) (Ax aX xh).left) ?_;rintro mC _ h7
 try simp only [an,aq,au]
 refine O.q 1 rfl<|O.nil<|S.oH (A:=fun _=>True) trivial hd2 (S.drop (S.oH (A:=fun _=>True) trivial xh (S.drop ?_)));refine S.gh (T:=ag.u8) (e:=5) ?_;refine S.ret results345 rfl fun w hw=>Holds.end_ hR hw ?_
 rcases h7 with ⟨h1,rfl,rfl⟩|⟨rfl,rfl,v',ζ,⟨h1,h3,h4,h5,a,c,rfl,rfl⟩,rfl⟩|⟨rfl,rfl,v',h1,rfl,rfl⟩
 ·have e:lI most (made && !bad) rest=([],rest,false):=by simp [lI,h1]
  rw [e];simp only [Bool.or_false];exact pk ⟨none,0,v,rfl,ha,rfl⟩
 ·have e:lI most (true && !false) rest=((rest.drop 8).take (eV rest).toNat,(rest.drop 8).drop (eV rest).toNat,false):=by
   simp only [lI,h1,h3,h4];rfl
  rw [e];simp only [Bool.or_false];exact pk ⟨a,c,v',rfl,h5,rfl⟩
 ·obtain ⟨rest',e,hr'⟩:∃ rest',lI most (true && !false) rest=([],rest',true)∧aj ag.u8 r v' rest' :=by
   rcases h1 with (⟨h1,rfl⟩|⟨h1,h3,h4⟩)|⟨h1,h3,h4,h5⟩
   ·have h1:¬ 8≤rest.length:=by omega
    exact ⟨_,by simp only [lI,h1];rfl,ha⟩
   ·exact ⟨_,by simp only [lI,h1,h3];rfl,h4⟩
   ·exact ⟨_,by simp only [lI,h1,h3,h4];rfl,h5⟩
  rw [e];simp only [Bool.false_or];exact pk ⟨none,0,v',rfl,hr',rfl⟩
theorem U5 {r:Fr} {va:Value} {xs:List UInt8} (ha:aj ag.u8 r va xs) (hl:xs.length≤140737488355328):ay prog 343 #[va] r [] (aL fun v U=>∃ b,v=.pointer (some ⟨b,0,none⟩)∧U=[j4 441 b ⟨true,xs⟩]) :=
 (Xx ha hl).post fun e ax h w g hw=>by
  cases e with
  |returned u =>
   obtain ⟨b,a,c,rfl,rfl⟩:=h;exact ⟨_,⟨b,rfl,rfl⟩,hw.imp fun _ x=>U6 x⟩
  |panicked _=>exact h.elim
  |outgrown=>exact h.elim
theorem ue {r:Fr} {b:Nat} {s:RS}:ay prog 346 #[.pointer (some ⟨b,0,none⟩)] r [j4 441 b s] (aL fun u U=>u=.int .i64 s.num.1∧U=[j4 441 b s.num.2]) :=
 (ay.rd (Q:=fun u s' ζ=>u=.int .i64 s.num.1∧s' =s.num.2∧ζ=[]) fun m v made bad h1 h2=>(UB h2).mono (aL.imp fun u U h=>by
  obtain ⟨v',rfl,h3,rfl⟩:=h;simp only [h1] at h3 ⊢;exact ⟨v',_,s.num.2,_,⟨rfl,rfl,rfl⟩,zB h1,h3,rfl⟩)).mono (aL.imp fun u U h=>by obtain ⟨s',ζ,⟨rfl,rfl,rfl⟩,rfl⟩:=h;exact ⟨rfl,rfl⟩)
theorem Kp {r:Fr} {b:Nat} {s:RS}:ay prog 344 #[.pointer (some ⟨b,0,none⟩)] r [j4 441 b s] (aL fun u U=>u=bD s.byte.1∧U=[j4 441 b s.byte.2]) :=
 (ay.rd (Q:=fun u s' ζ=>u=bD s.byte.1∧s' =s.byte.2∧ζ=[]) fun m v made bad h1 h2=>(Uv h2).mono (aL.imp fun u U h=>by
  obtain ⟨v',rfl,h3,rfl⟩:=h;simp only [h1] at h3 ⊢;exact ⟨v',_,s.byte.2,_,⟨rfl,rfl,rfl⟩,zB h1,h3,rfl⟩)).mono (aL.imp fun u U h=>by obtain ⟨s',ζ,⟨rfl,rfl,rfl⟩,rfl⟩:=h;exact ⟨rfl,rfl⟩)
theorem U4 {r:Fr} {b:Nat} {s:RS} (most:Int):ay prog 347 #[.pointer (some ⟨b,0,none⟩),.int .i64 most] r [j4 441 b s] (aL fun u U=>u=.int .i64 (s.count most).1∧U=[j4 441 b (s.count most).2]) :=
 (ay.rd (Q:=fun u s' ζ=>u=.int .i64 (s.count most).1∧s' =(s.count most).2∧ζ=[]) fun m v made bad h1 h2=>(Ux most h2).mono (aL.imp fun u U h=>by
  obtain ⟨v',rfl,h3,rfl⟩:=h;simp only [h1] at h3 ⊢;exact ⟨v',_,(s.count most).2,_,⟨rfl,rfl,rfl⟩,zB h1,h3,rfl⟩)).mono (aL.imp fun u U h=>by obtain ⟨s',ζ,⟨rfl,rfl,rfl⟩,rfl⟩:=h;exact ⟨rfl,rfl⟩)
theorem Kq {r:Fr} {b:Nat} {s:RS} (most:Int) (hl:s.rest.length≤140737488355328):ay prog 345 #[.pointer (some ⟨b,0,none⟩),.int .i64 most] r [j4 441 b s] (aL fun u U=>∃ a c,u=.slice a (s.bytes most).1.length c∧U=[j4 441 b (s.bytes most).2,av ag.u8 5 (.slice a (s.bytes most).1.length c) (s.bytes most).1]) :=
 (ay.rd (Q:=fun u s' ζ=>∃ a c,u=.slice a (s.bytes most).1.length c∧s' =(s.bytes most).2∧ζ=[av ag.u8 5 (.slice a (s.bytes most).1.length c) (s.bytes most).1]) fun m v made bad h1 h2=>(Uw most h2 hl).mono (aL.imp fun u U h=>by
  obtain ⟨a,c,v',rfl,h3,rfl⟩:=h;simp only [h1] at h3 ⊢;exact ⟨v',_,(s.bytes most).2,_,⟨a,c,rfl,rfl,rfl⟩,zB h1,h3,rfl⟩)).mono (aL.imp fun u U h=>by obtain ⟨s',ζ,⟨a,c,rfl,rfl,rfl⟩,rfl⟩:=h;exact ⟨a,c,rfl,rfl⟩)
theorem AP {r:Fr} {b:Nat} {s:RS}:ay prog 348 #[.pointer (some ⟨b,0,none⟩)] r [j4 441 b s] (aL fun u U=>u=.bool s.done∧U=[j4 441 b s]) :=
 (ay.rd (Q:=fun u s' ζ=>u=.bool s.done∧s' =s∧ζ=[]) fun m v made bad h1 h2=>(Uy h2).mono (aL.imp fun u U h=>by
  obtain ⟨rfl,rfl⟩:=h;rw [h1];exact ⟨v,bad,s,[],⟨congrArg _ (by rw [Bool.eq_iff_iff,decide_eq_true_iff,RS.NB]),rfl,rfl⟩,h1,h2,rfl⟩)).mono (aL.imp fun u U h=>by obtain ⟨s',ζ,⟨rfl,rfl,rfl⟩,rfl⟩:=h;exact ⟨rfl,rfl⟩)
theorem oS {r:Fr} {va je:Value} {xs ys:List UInt8} (ha:aj ag.u8 r va xs) (hb:aj ag.u8 r je ys) :
  ay prog 122 #[va,je] r [] (aL fun v U=>v=.bool (decide (xs=ys))∧U=[]):=by
 refine ay.of (n:=10) _ rfl func122 rfl rfl rfl fun g hg R hR=>?_;have ha:=ha.mono hg;have hb:=hb.mono hg;refine S.seq<|S.region rfl<|O.q 1 rfl<|O.nil<|S.seq<|S.region rfl<|O.q 1 rfl<|O.op (.p rfl) (.toStr underlying24 underlying5 underlying9 rfl (by first|assumption|exact aj.mono hg zE|exact aj.left zE|exact aj.left (aj.mono hg zE))) ?_;refine O.q 1 rfl<|O.op (.p rfl) (.toStr underlying24 underlying5 underlying9 rfl (by first|assumption|exact aj.mono hg zE|exact aj.left zE|exact aj.left (aj.mono hg zE))) ?_;refine O.op (.p rfl) (.kV rfl rfl)<|O.q 1 rfl<|O.nil<|S.ret results122 rfl fun w hw=>hR _ _ w ?_ hw;exact ⟨by simp,rfl⟩
theorem Xb {g:bk} {be bT:Nat} {x:Value} {z:Int} {eD eW:TypeId} {w:World} {R:Ending→World→Prop} {U:List az} (hw:Holds w g (obj bT eD [x]::obj be eW [.int .i64 z]::U)) (hR:∀ w,Holds w g (obj bT eD [x]::obj be eW [.int .i64 z]::U)→R (.returned (.tuple #[x,.int .i64 z])) w) :
  CallsD prog 305 #[.pointer (some ⟨be,0,none⟩),.pointer (some ⟨bT,0,none⟩)] .returning w (sQ prog g bT be 22 44 R):=by
 refine (oa (R:=fun e w=>(∃ v,e=.returned v)∧Holds w g (obj bT eD [x]::obj be eW [.int .i64 z]::U)) [.pointer (some ⟨be,0,none⟩),.pointer (some ⟨bT,0,none⟩)] rfl func305 rfl rfl rfl rfl hw ?_).mono ?_
 rotate_left
 ·rintro e u' w' ⟨rfl,⟨v,rfl⟩,h⟩
  exact ⟨⟨v,rfl⟩,rfl,eD,eW,_,_,_,_,U,h,fS.flat ew,fS.flat oc,hR w' h⟩
 refine S.seq<|S.region rfl<|O.q 1 rfl<|O.op (.p rfl) (.vK underlying20 rfl)<|O.nil<|S.aQ rfl<|S.skip<|S.ev results305 fun w hw=>?_;exact ⟨⟨_,rfl⟩,hw⟩
theorem Xa {g:bk} {be bT:Nat} {x:Value} {z z' :Int} {eD eW:TypeId} {w:World} {R:Ending→World→Prop} {U:List az} (hw:Holds w g (obj bT eD [x]::obj be eW [.int .i64 z']::U))
  (hR:∀ w,Holds w g (obj bT eD [.slice none 0 0]::obj be eW [.int .i64 z]::U)→R (.returned (.tuple #[.slice none 0 0,.int .i64 z])) w) :
  CallsD prog 305 #[.pointer (some ⟨be,0,none⟩),.pointer (some ⟨bT,0,none⟩)] (.panicking (o6 44 z)) w (sQ prog g bT be 22 44 R):=by
 refine (oa (R:=fun e w=>(∃ v,e=.returned v)∧Holds w g (obj bT eD [.slice none 0 0]::obj be eW [.int .i64 z]::U)) [.pointer (some ⟨be,0,none⟩),.pointer (some ⟨bT,0,none⟩)] rfl func305 rfl rfl rfl rfl hw ?_).mono ?_
 rotate_left
 ·rintro e u' w' ⟨rfl,⟨v,rfl⟩,h⟩
  exact ⟨⟨v,rfl⟩,rfl,eD,eW,_,_,_,_,U,h,fS.flat ew,fS.flat oc,hR w' h⟩
 refine S.seq<|S.region rfl<|O.q 1 rfl<|O.op (.p rfl) (.vL underlying20 rfl)<|O.nil<|S.bx rfl<|S.seq<|S.region rfl<|O.q 1 rfl<|O.nil<|S.seq<|S.seq<|S.region rfl<|O.q 1 rfl<|O.op (.p rfl) (.uV underlying44 rfl)<|O.q 3 rfl<|O.bu rfl (.bn oc rfl rfl bq ai aW) ?_;refine O.q 1 rfl<|O.nil<|S.seq<|S.region rfl<|O.q 1 rfl<|O.op (.p rfl) (.not rfl)<|O.nil<|S.aQ rfl<|S.skip<|S.seq<|S.region rfl<|O.q 1 rfl<|O.nil<|S.region rfl<|O.q 1 rfl<|O.bu rfl (.bn ew rfl rfl bq ai aW) ?_;refine O.nil<|S.ev results305 fun w hw=>?_;exact ⟨⟨_,rfl⟩,hw.jU jx⟩
theorem W_ {r:Fr} {f:Nat} {first cap:Array Value} {K:Value→List az→Prop} {X:Int→Prop} (hc:dA prog f=true) (p7:(Value.func (.func f) first cap).oneCell' =true) (pe:∀ u ζ,K u ζ→u.oneCell' =true)
  (con:ay prog f (first++#[]++cap) r [] (eL K (fun ch U=>∃ z,ch=o6 44 z∧X z∧U=[]))) :
  ay prog 239 #[.func (.func f) first cap] r [] (aL fun v U=>(∃ u,K u U∧v=.tuple #[u,.int .i64 0])∨(∃ z,X z∧U=[]∧v=.tuple #[.slice none 0 0,.int .i64 z])):=by
 refine ay.of (n:=7) [.func (.func f) first cap] rfl func239 rfl rfl rfl fun g hg R hR=>?_;refine S.seq<|S.region rfl<|O.aM (.p rfl) (.alloc (cs:=[.slice none 0 0]) zeroValue22 rfl) ?_;rintro _ _ ⟨b2,rfl,rfl⟩;refine O.aM (.p rfl) (.alloc (cs:=[.int .i64 0]) zeroValue44 rfl) ?_;rintro _ _ ⟨b3,rfl,rfl⟩;refine O.nil<|S.seq<|S.region rfl<|O.op (.p rfl) (.jc rfl rfl)<|O.defer rfl rfl rfl rfl ?_;refine O.nil<|S.seq<|S.region rfl<|O.q 1 rfl<|O.B4 (.p rfl) rfl hc rfl rfl (con.sub hg) (fun a ch ax w hF hX hW=>by (obtain ⟨z,rfl,hx,rfl⟩:=hX;exact vH results239 hF rfl rfl bI aa (Xa (hW.jU jx) fun w hw=>Holds.end_ hR hw ⟨_,.inr ⟨z,hx,rfl,rfl⟩,by repeat (first|exact aS|exact aU|(apply aT;focus (repeat (first|exact aR|apply zt)))|apply aV)⟩))) ?_;rintro v6 _ rU
 try simp only [an,aq,au]
 have hone:=pe _ _ rU;refine O.perm (List.perm_append_comm) ?_;simp only [List.cons_append,List.nil_append];refine O.bu rfl (.bn ew rfl rfl bq ai aW) ?_;refine O.bu rfl (.bn oc rfl rfl bq ai aW) ?_;refine O.nil<|S.q8 fun a w hf hd hw=>?_;exact vH results239 hf rfl rfl bI aa (Xb (hw.jU jx) fun w hw=>Holds.end_ hR hw ⟨_,.inl ⟨_,rU,rfl⟩,by repeat (first|exact aS|exact aU|(apply aT;focus (repeat (first|exact aR|apply zt)))|apply aV)⟩)
abbrev ug (x:aP) (v3 v5 v6:Value):List Value:=[.string (str x.1),.int .i64 x.2.1,.int .i64 x.2.2.1,v3,.bool x.2.2.2.2.1,v5,v6]
abbrev yo (x:aP) (v3 v5 v6:Value):List az:=[av c5 191 v3 x.2.2.2.1,av ag.u8 5 v5 x.2.2.2.2.2.1,av ag.u8 5 v6 x.2.2.2.2.2.2.1]
abbrev Fo:List Value:=[.string (str []),.int .i64 0,.int .i64 0,.slice none 0 0,.bool false,.slice none 0 0,.slice none 0 0]
theorem UA {r:Fr} {va:Value} {b:List UInt8} (ha:aj ag.u8 r va b) (hl:b.length≤1000000000) :
  ay prog 311 #[va] r [] (aL fun v U=>(∃ x a3 c3 a5 dP a6 dF,mz b=some x∧v=.tuple #[.agg (ug x (.slice a3 x.2.2.2.1.length c3) (.slice a5 x.2.2.2.2.2.1.length dP) (.slice a6 x.2.2.2.2.2.2.1.length dF)).toArray,.int .i64 0]∧U=yo x (.slice a3 x.2.2.2.1.length c3) (.slice a5 x.2.2.2.2.2.1.length dP) (.slice a6 x.2.2.2.2.2.2.1.length dF))∨(mz b=none∧v=.tuple #[.agg Fo.toArray,.int .i64 4]∧U=[])):=by
 refine ay.of (n:=76) _ rfl func311 rfl rfl rfl fun g hg R hR=>?_;have ha:=ha.mono hg;have hbd:=ha.bound;obtain ⟨a1,c1,rfl⟩:=ha.shape;refine S.seq<|S.region rfl<|O.aM (.p rfl) (.alloc (cs:=[.string ⟨#[]⟩,.int .i64 0,.int .i64 0,.slice none 0 0,.bool false,.slice none 0 0,.slice none 0 0]) zeroValue102 rfl) ?_;rintro _ _ ⟨b2,rfl,rfl⟩;refine O.q 1 rfl<|O.nil<|S.seq<|S.region rfl<|O.q 1 rfl<|O.op (.p rfl) (.len rfl underlying24 rfl)<|O.op (.p rfl) (.sub rfl rfl (IntWalk.i64_in _ ah))<|O.q 1 rfl<|O.nil<|S.seq<|S.seq<|S.region rfl<|O.q 1 rfl<|O.op (.p rfl) (.lss rfl rfl)<|O.nil ?_
 first|refine S.cc rfl (fun iW=>?_) (fun iW=>?_)|refine S.b7 rfl (fun iW=>?_) (fun iW=>?_)
 ·refine S.seq<|S.region rfl<|O.op (.p rfl) (.build (cs:=[_,_,_,_,_,_,_]) underlying102 rfl rfl rfl rfl rfl)<|O.bu rfl (.cZ aa rfl rfl rfl rfl ai aW) ?_
  refine O.q 1 rfl<|O.nil<|S.sv results311 rfl rfl ai (fS.agg isAgg102 aa) fun w hw=>Holds.end_ hR hw ?_;exact pk (.inr ⟨U_ ah,rfl,rfl⟩)
 ·have iE:64≤b.length:=by omega
  have jF:(b.take (b.length - 64)).length≤1000000000:=by rw [List.length_take];omega
  refine S.skip<|S.seq<|S.region rfl<|O.q 2 rfl<|O.sliceTo (b:=b.length - 64) (.p rfl) underlying24 fR rfl rfl zE bJ bJ (fun aax l6=>?_);obtain ⟨a17,qx,rfl⟩:=l6.shape;refine O.aB (.p rfl) rfl aa rfl rfl (U5 (by first|assumption|exact aj.mono hg zE|exact aj.left zE|exact aj.left (aj.mono hg zE)) bJ) ?_;rintro _ _ ⟨yW,rfl,rfl⟩
  try simp only [an,aq,au]
  refine O.q 1 rfl<|O.nil<|S.seq<|S.region rfl<|O.q 1 rfl<|O.bM (.p rfl) rfl aa rfl rfl ai Kp ?_;rintro _ _ ⟨rfl,rfl⟩
  try simp only [an,aq,au]
  refine O.nil (S.seq ?_);generalize hk:(RS.mk true (b.take (b.length - 64))).byte=k;have lk:k.2.rest.length≤1000000000:=by rw [← hk];exact Nat.le_trans (RS.GS _) jF
  have ly:=RS.MH 64 k.2;refine S.Ft (L:=[0,3,5,1,2,4,6,7,8,9]) (fun (p:Nat)=>[(6,.pointer (some ⟨p,0,none⟩))]) [(0,_),(2,_),(4,_),(5,_)] (fun (p:Nat)=>[j4 441 yW (k.2.bytes 64).2.num.2.num.2,obj p 102 [.string (str (k.2.bytes 64).1),.int .i64 (k.2.bytes 64).2.num.1,.int .i64 (k.2.bytes 64).2.num.2.num.1,.slice none 0 0,.bool false,.slice none 0 0,.slice none 0 0],obj b2 102 Fo]) (.cons rfl (.cons rfl (.cons rfl (.cons rfl (.nil))))) bA aa (fun kk key=>?_) (fun p=>?_)
  ·refine af.q 3 rfl<|af.bM (.p rfl) aa rfl aa rfl rfl ai (Kq _ bJ) ?_
   rintro _ _ ⟨a22,ec,rfl,rfl⟩
   try simp only [an,aq,au]
   refine af.eY 2 4 [4,6,7,8,9] [2,6,7,8,9] aa rfl rfl ?_ ?_
   ·refine bO.toStrO (.p rfl) aa underlying24 underlying5 underlying9 rfl ai ?_
    refine af.bM (.p rfl) aa rfl aa rfl rfl ai ue ?_;rintro _ _ ⟨rfl,rfl⟩
    try simp only [an,aq,au]
    refine af.bM (.p rfl) aa rfl aa rfl rfl ai ue ?_;rintro _ _ ⟨rfl,rfl⟩
    try simp only [an,aq,au]
    refine .quiet (.p rfl) rfl (fun _=>.build (cs:=[_,_,_,_,_,_,_]) underlying102 rfl rfl rfl rfl rfl)<|.lazy rfl aa rfl fun fW=>?_;refine af.cZ rfl aa aa rfl rfl rfl rfl ai aW ?_;refine aI.nil<|S.pk ?_ (S.weaken (Sub.app (.cons rfl (.nil)) (.cons rfl (.cons rfl (.cons rfl (.cons rfl (.nil)))))) (key fW))
    try dsimp only
    repeat (first|exact aS|exact aU|(apply aT;focus (repeat (first|exact aR|apply zt)))|apply aV)
   ·refine bO.bM (.p rfl) aa rfl aa rfl rfl ai ue ?_
    rintro _ _ ⟨rfl,rfl⟩
    try simp only [an,aq,au]
    refine af.eY 2 6 [6,7,8,9] [2,7,8,9] aa rfl rfl ?_ ?_
    ·refine bO.toStrO (.p rfl) aa underlying24 underlying5 underlying9 rfl ai ?_
     refine af.bM (.p rfl) aa rfl aa rfl rfl ai ue ?_;rintro _ _ ⟨rfl,rfl⟩
     try simp only [an,aq,au]
     refine .quiet (.p rfl) rfl (fun _=>.build (cs:=[_,_,_,_,_,_,_]) underlying102 rfl rfl rfl rfl rfl)<|.lazy rfl aa rfl fun fW=>?_;refine af.cZ rfl aa aa rfl rfl rfl rfl ai aW ?_;refine aI.nil<|S.pk ?_ (S.weaken (Sub.app (.cons rfl (.nil)) (.cons rfl (.cons rfl (.cons rfl (.cons rfl (.nil)))))) (key fW))
     try dsimp only
     repeat (first|exact aS|exact aU|(apply aT;focus (repeat (first|exact aR|apply zt)))|apply aV)
    ·refine bO.bM (.p rfl) aa rfl aa rfl rfl ai ue ?_
     rintro _ _ ⟨rfl,rfl⟩
     try simp only [an,aq,au]
     refine af.toStrO (.p rfl) aa underlying24 underlying5 underlying9 rfl ai ?_;refine .quiet (.p rfl) rfl (fun _=>.build (cs:=[_,_,_,_,_,_,_]) underlying102 rfl rfl rfl rfl rfl)<|.lazy rfl aa rfl fun fW=>?_;refine af.cZ rfl aa aa rfl rfl rfl rfl ai aW ?_;refine aI.nil<|S.pk ?_ (S.weaken (Sub.app (.cons rfl (.nil)) (.cons rfl (.cons rfl (.cons rfl (.cons rfl (.nil)))))) (key fW))
     try dsimp only
     repeat (first|exact aS|exact aU|(apply aT;focus (repeat (first|exact aR|apply zt)))|apply aV)
  generalize hy:k.2.bytes 64=y at ly ⊢;have Td:y.2.rest.length≤1000000000:=by rw [← hy];exact Nat.le_trans (RS.MG _ _) lk
  generalize hc:y.2.num=c;have lc:c.2.rest.length≤1000000000:=by rw [← hc];exact Nat.le_trans (RS.Aw _) Td
  have Rq:cG c.1:=by rw [← hc];exact RS.vN _
  generalize hq:c.2.num=q;have S9:q.2.rest.length≤1000000000:=by rw [← hq];exact Nat.le_trans (RS.Aw _) lc
  have RL:cG q.1:=by rw [← hq];exact RS.vN _
  refine S.seq<|S.seq<|S.region rfl<|O.q 1 rfl<|O.bM (.p rfl) rfl aa rfl rfl ai (U4 _) ?_;rintro _ _ ⟨rfl,rfl⟩
  try simp only [an,aq,au]
  refine O.q 1 rfl<|O.nil (S.block ?_);generalize hn:q.2.count 8=n;have ln:n.2.rest.length≤1000000000:=by rw [← hn];exact Nat.le_trans (RS.Np _ _) S9
  obtain ⟨n0,n8⟩:0≤n.1∧n.1≤8:=by rw [← hn];exact RS.Nn _ _ aC
  refine S.gh (T:=c5) (e:=191) ?_;refine S.jT (ι:=Nat) (dI:=Option Addr × Nat) (fun i a=>i≤n.1.toNat) (fun i a=>[(31,.int .i64 (i:Int))]) [(0,_),(2,_),(4,_),(5,_),(6,_),(30,_)] (fun i a=>[av c5 191 (.slice a.1 i a.2) (kG i n.2).1,j4 441 yW (kG i n.2).2,obj p 102 [.string (str y.1),.int .i64 c.1,.int .i64 q.1,.slice a.1 i a.2,.bool false,.slice none 0 0,.slice none 0 0],obj b2 102 Fo]) (fun i a=>n.1.toNat - i) (0) ((none,0)) bI (.cons rfl (.nil)) (.cons rfl (.cons rfl (.cons rfl (.cons rfl (.cons rfl (.cons rfl (.nil))))))) rfl fun i a hx ih=>?_;have aX:=cL (g:=g);refine S.seq<|S.region rfl<|O.op (.p rfl) (.lss rfl rfl)<|O.nil (S.seq ?_)
  first|refine S.cc rfl (fun tg=>?_) (fun tg=>?_)|refine S.b7 rfl (fun tg=>?_) (fun tg=>?_)
  ·have hi:i<n.1.toNat:=by omega
   have fq:=hg;have fp:=hR
   try have nF:=ha
   try have OA:=l6
   refine S.iD (B:=obj p 102 [.string (str y.1),.int .i64 c.1,.int .i64 q.1,.slice a.1 i a.2,.bool false,.slice none 0 0,.slice none 0 0]) ai fun go cI ⟨qf,hmo,jE⟩ eT=>?_;replace hg:=Fr.aH hg cI;replace hR:=iy hR eT
   try replace ha:=ha.mono cI
   try replace l6:=l6.mono cI
   have dm:=(gf hmo).mono jE;refine S.skip<|S.seq<|S.block<|S.bB (L:=[0,1,2,4,3,5,6,7,8,9,10]) bA aa<|.quiet (.p rfl) rfl (fun _=>.fieldAddr fF rfl)<|.quiet (.p rfl) rfl (fun _=>.loadAt eS rfl (dm.drop 3) rfl) ?_;refine af.q 2 rfl<|af.bM (.p rfl) aa rfl aa rfl rfl ai ue ?_;rintro _ _ ⟨rfl,rfl⟩
   try simp only [an,aq,au]
   refine af.bM (.p rfl) aa rfl aa rfl rfl ai ue ?_;rintro _ _ ⟨rfl,rfl⟩
   try simp only [an,aq,au]
   refine .quiet (.p rfl) rfl (fun _=>.build (cs:=[_,_]) underlying191 rfl rfl rfl rfl rfl)<|af.ct (T:=c5) (ys:=[_]) (.p rfl) aa underlying100 rJ aC rfl rfl ⟨(c5.mk (RS.vN _) (RS.vN _)),trivial⟩ aC (fun a40 u3=>?_);refine af.gT (.p rfl) aa (T:=c5) underlying100 rJ aC rfl rfl ai ai bJ bJ (fun a41 wK=>?_);refine .quiet (.p rfl) rfl (fun _=>.fieldAddr fF rfl)<|af.xX rfl aa (fun _ hw=>eT hw) eS rfl rfl bq ai yJ ?_;replace hg:=fq;replace hR:=fp
   try replace ha:=nF
   try replace l6:=OA
   clear fq fp;refine S.inBlock<|S.region rfl<|O.op (.p rfl) (.add rfl rfl (IntWalk.i64_in _ ah))<|O.q 1 rfl<|O.nil ?_;simp only [Hs,List.length_singleton];exact S.pw (ih (i+1) ((a41,wK)) ah ah)
  ·clear ih
   have hi:i=n.1.toNat:=by omega
   subst hi;generalize hd:kG n.1.toNat n.2=d;have ld:d.2.rest.length≤1000000000:=by rw [← hd];exact Nat.le_trans (NK _ _) ln
   have SO:d.1.length=n.1.toNat:=by rw [← hd];exact Hs _ _
   have id:∀ z∈d.1,wS z:=by rw [← hd];exact NJ _ _
   rw [← SO];refine S.exit rfl<|S.seq<|S.region rfl<|O.q 1 rfl<|O.bM (.p rfl) rfl aa rfl rfl ai Kp ?_;rintro _ _ ⟨rfl,rfl⟩
   try simp only [an,aq,au]
   refine O.op (.p rfl) (.neq rfl rfl)<|O.slot 46 (v' :=.bool (decide (d.2.byte.1≠0))) rfl (by simp [← UInt8.toNat_inj]) ?_;refine O.op (.p rfl) (.aD vf rfl)<|O.bu rfl (.bn ji rfl rfl bq ai aW) ?_;refine O.nil (S.seq ?_);generalize hg2:d.2.byte=g2;have ZU:g2.2.rest.length≤1000000000:=by rw [← hg2];exact Nat.le_trans (RS.GS _) ld
   refine S.bB (L:=[0,2,3,4,1,6,5,7,8,9]) bA aa ?_;refine af.q 3 rfl<|af.sliceFrom (a:=b.length - 64) (.p rfl) underlying24 fR rfl rfl zE bJ bJ (fun aaC qL=>?_);obtain ⟨kD,kE,rfl⟩:=qL.shape;refine af.bM (.p rfl) aa rfl aa rfl rfl ai (Kq _ bJ) ?_;rintro _ _ ⟨a49,u4,rfl,rfl⟩
   try simp only [an,aq,au]
   refine .quiet (.p rfl) rfl (fun _=>.aD gl rfl)<|af.aB (.p rfl) aa rfl aa rfl rfl (eE (by first|assumption|exact aj.mono hg zE|exact aj.left zE|exact aj.left (aj.mono hg zE)) bJ) ?_;rintro _ _ ⟨a53,u5,rfl,rfl⟩
   try simp only [an,aq,au]
   refine af.bn rfl aa bc rfl rfl bq ai aW ?_;refine .quiet (.p rfl) rfl (fun _=>.aD iU rfl)<|af.bn rfl aa bc rfl rfl bq ai aW ?_;refine aI.nil (S.seq ?_);generalize hv:g2.2.bytes 1024=v;have hX:su b=(y.1,c.1,q.1,d.1,decide (g2.1≠0),v.1,b.drop (b.length - 64),()):=by subst hv hg2 hd hn hq hc hy hk;rfl
   have hS:(uf b).s=v.2:=by subst hv hg2 hd hn hq hc hy hk;rfl
   have oo:=Va (b:=b);have hno:=U8 (b:=b);rw [hX] at oo hno;rw [hS] at hno;have IU:∀ {m:Fr} (v3 v5 v6:Value),aj c5 m v3 d.1→aj ag.u8 m v5 v.1→aj ag.u8 m v6 (b.drop (b.length - 64))→cq.rel m [.string (str y.1),.int .i64 c.1,.int .i64 q.1,v3,.bool (decide (g2.1≠0)),v5,v6] (y.1,c.1,q.1,d.1,decide (g2.1≠0),v.1,b.drop (b.length - 64),()):=fun v3 v5 v6 h3 h5 h6=>cq.mk ah Rq RL h3 h5 h6;clear hX hS;generalize Ox:((y.1,c.1,q.1,d.1,decide (g2.1≠0),v.1,b.drop (b.length - 64),()):aP)=X at oo hno IU;refine S.region rfl<|O.op (.p rfl) (.ia (news:=[_,_,_,_,_,_,_]) isAgg102) ?_;refine O.dw (.p rfl) rfl aa rfl rfl (bs:=[av c5 191 (.slice a.1 d.1.length a.2) d.1,av ag.u8 5 (.slice a49 v.1.length u4) v.1,av ag.u8 5 (.slice a53 (b.drop (b.length - 64)).length u5) (b.drop (b.length - 64))]) bf (fun m hm l7 =>Km (x:=X) (IU _ _ _ (hm.arr.right l7) (hm.tail.arr.right l7) (hm.tail.tail.arr.right l7))) ?_;rintro _ _ ⟨a58,wN,rfl,rfl⟩
   try simp only [an,aq,au]
   refine O.q 5 rfl<|O.nil (S.seq (S.seq ?_))
   cases e1:v.2.done with
   |false =>
    refine S.region rfl<|O.q 1 rfl<|O.bM (.p rfl) rfl aa rfl rfl ai AP ?_;rintro _ _ ⟨rfl,rfl⟩
    try simp only [an,aq,au]
    refine O.aN 62 rfl (by exact e1) ?_;refine O.op (.p rfl) (.not rfl)<|O.q 10 rfl<|O.nil<|S.bx rfl<|S.seq<|S.region rfl<|O.op (.p rfl) (.build (cs:=[_,_,_,_,_,_,_]) underlying102 rfl rfl rfl rfl rfl)<|O.bu rfl (.cZ aa rfl rfl rfl rfl ai aW) ?_;refine O.q 1 rfl<|O.nil<|S.sv results311 rfl rfl ai (fS.agg isAgg102 aa) fun w hw=>Holds.end_ hR hw ?_;exact pk (.inr ⟨hno fun q=>by rw [e1] at q;exact absurd q.1 aC,rfl,rfl⟩)
   |true =>
    cases e2:ee X with
    |false =>
     refine S.region rfl<|O.q 1 rfl<|O.bM (.p rfl) rfl aa rfl rfl ai AP ?_;rintro _ _ ⟨rfl,rfl⟩
     try simp only [an,aq,au]
     refine O.sT 62 rfl (by exact e1) ?_;refine O.op (.p rfl) (.not rfl)<|O.q 2 rfl<|O.op (.g rfl rfl) (.neq rfl rfl)<|O.sT 66 rfl (by simp [oC,e2]) ?_;refine O.q 7 rfl<|O.nil<|S.bx rfl<|S.seq<|S.region rfl<|O.op (.p rfl) (.build (cs:=[_,_,_,_,_,_,_]) underlying102 rfl rfl rfl rfl rfl)<|O.bu rfl (.cZ aa rfl rfl rfl rfl ai aW) ?_;refine O.q 1 rfl<|O.nil<|S.sv results311 rfl rfl ai (fS.agg isAgg102 aa) fun w hw=>Holds.end_ hR hw ?_;exact pk (.inr ⟨hno fun q=>by rw [e2] at q;exact absurd q.2.1 aC,rfl,rfl⟩)
    |true =>
     by_cases bY:b9 X=b
     ·
      refine S.region rfl<|O.q 1 rfl<|O.bM (.p rfl) rfl aa rfl rfl ai AP ?_;rintro _ _ ⟨rfl,rfl⟩
      try simp only [an,aq,au]
      refine O.sT 62 rfl (by exact e1) ?_;refine O.op (.p rfl) (.not rfl)<|O.q 2 rfl<|O.op (.g rfl rfl) (.neq rfl rfl)<|O.aN 66 rfl (by simp [oC,e2]) ?_;refine O.q 4 rfl<|O.dw (.g rfl rfl) rfl aa rfl rfl (bs:=[av ag.u8 5 (.slice a58 (mA X).length wN) (mA X)]) bf (fun m hm l7 =>oS (hm.arr.right l7) ha.left) ?_;rintro _ _ ⟨rfl,rfl⟩
      try simp only [an,aq,au]
      refine O.sT 71 rfl (by exact decide_eq_true (by rw [mA,if_pos e2];exact bY)) ?_;refine O.op (.g rfl rfl) (.not rfl)<|O.q 1 rfl<|O.nil<|S.aQ rfl<|S.skip<|S.seq<|S.region rfl<|O.op (.p rfl) (.ia (news:=[_,_,_,_,_,_,_]) isAgg102) ?_;refine O.bu rfl (.cZ aa rfl rfl rfl rfl ai aW) ?_;refine O.q 1 rfl<|O.nil<|S.sv results311 rfl rfl ai (fS.agg isAgg102 aa) fun w hw=>Holds.end_ hR hw ?_;have hy' :=oo e2 bY;subst Ox;exact pk (.inl ⟨_,a.1,a.2,a49,u4,a53,u5,hy',rfl,rfl⟩)
     ·
      refine S.region rfl<|O.q 1 rfl<|O.bM (.p rfl) rfl aa rfl rfl ai AP ?_;rintro _ _ ⟨rfl,rfl⟩
      try simp only [an,aq,au]
      refine O.sT 62 rfl (by exact e1) ?_;refine O.op (.p rfl) (.not rfl)<|O.q 2 rfl<|O.op (.g rfl rfl) (.neq rfl rfl)<|O.aN 66 rfl (by simp [oC,e2]) ?_;refine O.q 4 rfl<|O.dw (.g rfl rfl) rfl aa rfl rfl (bs:=[av ag.u8 5 (.slice a58 (mA X).length wN) (mA X)]) bf (fun m hm l7 =>oS (hm.arr.right l7) ha.left) ?_;rintro _ _ ⟨rfl,rfl⟩
      try simp only [an,aq,au]
      refine O.aN 71 rfl (by exact decide_eq_false (by rw [mA,if_pos e2];exact bY)) ?_;refine O.op (.g rfl rfl) (.not rfl)<|O.q 1 rfl<|O.nil<|S.bx rfl<|S.seq<|S.region rfl<|O.op (.p rfl) (.build (cs:=[_,_,_,_,_,_,_]) underlying102 rfl rfl rfl rfl rfl)<|O.bu rfl (.cZ aa rfl rfl rfl rfl ai aW) ?_;refine O.q 1 rfl<|O.nil<|S.sv results311 rfl rfl ai (fS.agg isAgg102 aa) fun w hw=>Holds.end_ hR hw ?_;exact pk (.inr ⟨hno fun q=>bY q.2.2,rfl,rfl⟩)
theorem Uz {r:Fr} {va:Value} {b:List UInt8} {x:aP} (e:mz b=some x) (ha:aj ag.u8 r va b) (hl:b.length≤1000000000) :
  ay prog 311 #[va] r [] (aL fun v U=>∃ a3 c3 a5 dP a6 dF,v=.tuple #[.agg (ug x (.slice a3 x.2.2.2.1.length c3) (.slice a5 x.2.2.2.2.2.1.length dP) (.slice a6 x.2.2.2.2.2.2.1.length dF)).toArray,.int .i64 0]∧U=yo x (.slice a3 x.2.2.2.1.length c3) (.slice a5 x.2.2.2.2.2.1.length dP) (.slice a6 x.2.2.2.2.2.2.1.length dF)) :=
 (UA ha hl).mono (aL.imp fun v U h=>by
  rcases h with ⟨y,a3,c3,a5,dP,a6,dF,h1,h2,h3⟩|⟨h1,_⟩
  ·rw [e] at h1;obtain rfl:=Option.some.inj h1;exact ⟨a3,c3,a5,dP,a6,dF,h2,h3⟩
  ·rw [e] at h1;cases h1)
end Go.Proofs.YtojafegjlahajaaGreatDoor
