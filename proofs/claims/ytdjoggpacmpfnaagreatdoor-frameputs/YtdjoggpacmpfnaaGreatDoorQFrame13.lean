/- Texts of this proof. -/
import Derived.Test.YtdjoggpacmpfnaaGreatDoorQFrame9
import Derived.Test.YtdjoggpacmpfnaaGreatDoorQSpFrm2
open Go Go.Sp Go.Proofs.Tryz
set_option maxRecDepth 100000
set_option maxHeartbeats 1000000
attribute [local irreducible] obj Own ak
namespace Go.Proofs.YtdjoggpacmpfnaaGreatDoor
def mv (k:UInt8):Nat:=if k=1 then 144 else if k=2 then 147 else if k=3 then 150 else if k=4 then 153 else if k=5 then 156 else if k=6 then 159 else if k=7 then 162 else if k=8 then 165 else if k=9 then 168 else 0
def tJ (k:UInt8):Nat:=if k=1 then 145 else if k=2 then 148 else if k=3 then 151 else if k=4 then 154 else if k=5 then 157 else if k=6 then 160 else if k=7 then 163 else if k=8 then 166 else if k=9 then 169 else 0
def mu (k:UInt8):Nat:=if k=1 then 146 else if k=2 then 149 else if k=3 then 152 else if k=4 then 155 else if k=5 then 158 else if k=6 then 161 else if k=7 then 164 else if k=8 then 167 else if k=9 then 170 else 0
abbrev o5 (p q l:Nat):Value:=.agg #[.func (.func p) #[] #[],.func (.func q) #[] #[],.func (.func l) #[] #[]]
def jW (k:UInt8):Prop:=k=1∨k=2∨k=3∨k=4∨k=5∨k=6∨k=7∨k=8∨k=9
instance (k:UInt8):Decidable (jW k):=by unfold jW;infer_instance
def kindOf (k:UInt8):Option Value:=if k=9 then some (o5 168 169 170) else if k=8 then some (o5 165 166 167) else if k=7 then some (o5 162 163 164) else if k=6 then some (o5 159 160 161) else if k=5 then some (o5 156 157 158) else if k=4 then some (o5 153 154 155) else if k=3 then some (o5 150 151 152) else if k=2 then some (o5 147 148 149) else if k=1 then some (o5 144 145 146) else none
theorem AI {k:UInt8} (h:jW k):kindOf k=some (o5 (mv k) (tJ k) (mu k)):=by rcases h with h|h|h|h|h|h|h|h|h<;>(subst h;rfl)
theorem Da {k:UInt8} (h:¬ jW k):kindOf k=none:=by
 unfold kindOf;unfold jW at h;simp only [not_or] at h;obtain ⟨h1,h2,h3,h4,h5,h6,h7,h8,h9⟩:=h;rw [if_neg h9,if_neg h8,if_neg h7,if_neg h6,if_neg h5,if_neg h4,if_neg h3,if_neg h2,if_neg h1]
theorem Yd {k:UInt8} (h:jW k):ed prog (mv k)=true:=by
 rcases h with h|h|h|h|h|h|h|h|h<;>subst h
 ·exact af
 ·exact af
 ·exact af
 ·exact af
 ·exact af
 ·exact af
 ·exact af
 ·exact af
 ·exact af
theorem X_ {k:UInt8} (h:jW k):ed prog (tJ k)=true:=by
 rcases h with h|h|h|h|h|h|h|h|h<;>subst h
 ·exact af
 ·exact af
 ·exact af
 ·exact af
 ·exact af
 ·exact af
 ·exact af
 ·exact af
 ·exact af
theorem Yc {k:UInt8} (h:jW k):ed prog (mu k)=true:=by
 rcases h with h|h|h|h|h|h|h|h|h<;>subst h
 ·exact af
 ·exact af
 ·exact af
 ·exact af
 ·exact af
 ·exact af
 ·exact af
 ·exact af
 ·exact af
theorem AJ {r:Fr}:aj prog 71 #[] r [] (aF fun v aa=>∃ b c m,v=.map (some b)∧aa=[xz k5 b m c]∧∀ k,fN m k=kindOf k):=by
 refine aj.o func71 fun g hg R hR=>?_;refine U 6 ?_;refine O.aD (.p rfl) (.tN (enc:=k5)) ?_;rintro _ _ ⟨b1,rfl,rfl⟩;refine O.op (.p rfl) (.build (cs:=[_,_,_]) underlying135 rfl rfl rfl rfl rfl)<|O.eg rfl (.gf (key:=1) underlying137 (eI underlying25) rfl rfl rfl an) ?_;refine O.op (.p rfl) (.build (cs:=[_,_,_]) underlying135 rfl rfl rfl rfl rfl)<|O.eg rfl (.gf (key:=2) underlying137 (eI underlying25) rfl rfl rfl an) ?_;refine O.op (.p rfl) (.build (cs:=[_,_,_]) underlying135 rfl rfl rfl rfl rfl)<|O.eg rfl (.gf (key:=3) underlying137 (eI underlying25) rfl rfl rfl an) ?_;refine O.op (.p rfl) (.build (cs:=[_,_,_]) underlying135 rfl rfl rfl rfl rfl)<|O.eg rfl (.gf (key:=4) underlying137 (eI underlying25) rfl rfl rfl an) ?_;refine O.op (.p rfl) (.build (cs:=[_,_,_]) underlying135 rfl rfl rfl rfl rfl)<|O.eg rfl (.gf (key:=5) underlying137 (eI underlying25) rfl rfl rfl an) ?_;refine O.op (.p rfl) (.build (cs:=[_,_,_]) underlying135 rfl rfl rfl rfl rfl)<|O.eg rfl (.gf (key:=6) underlying137 (eI underlying25) rfl rfl rfl an) ?_;refine O.op (.p rfl) (.build (cs:=[_,_,_]) underlying135 rfl rfl rfl rfl rfl)<|O.eg rfl (.gf (key:=7) underlying137 (eI underlying25) rfl rfl rfl an) ?_
 refine O.op (.p rfl) (.build (cs:=[_,_,_]) underlying135 rfl rfl rfl rfl rfl)<|O.eg rfl (.gf (key:=8) underlying137 (eI underlying25) rfl rfl rfl an) ?_;refine O.op (.p rfl) (.build (cs:=[_,_,_]) underlying135 rfl rfl rfl rfl rfl)<|O.eg rfl (.gf (key:=9) underlying137 (eI underlying25) rfl rfl rfl an) ?_;refine O.q 2 rfl<|O.nil<|S.ret results71 rfl fun w hw=>ax.end_ hR hw ?_;refine ⟨_,⟨b1,_,_,rfl,rfl,?_⟩,aC⟩
 intro k
 simp only [TS];rfl
theorem yj {f:aP} (e:f.1=1):Sp.kindOk f↔(0≤f.2.2.1∧f.2.2.1<4):=by
 constructor
 ·intro h
  rcases h with h|h|h|h|h|h|h|h|h
  ·exact h.2
  ·exact absurd (e.symm.trans h.1) aq
  ·exact absurd (e.symm.trans h.1) aq
  ·exact absurd (e.symm.trans h.1) aq
  ·exact absurd (e.symm.trans h.1) aq
  ·exact absurd (e.symm.trans h.1) aq
  ·exact absurd (e.symm.trans h.1) aq
  ·exact absurd (e.symm.trans h.1) aq
  ·exact absurd (e.symm.trans h.1) aq
 ·exact fun h=>.inl ⟨e,h⟩
theorem zT {f:aP} (e:f.1=1):cE f=be f.2.2.1:=by unfold cE;rw [if_pos e]
theorem wA {f:aP} (e:f.1=2):Sp.kindOk f↔(dR f.2.2.2.2.2.1=true∧f.2.2.2.2.2.2.1.length=64):=by
 constructor
 ·intro h
  rcases h with h|h|h|h|h|h|h|h|h
  ·exact absurd (e.symm.trans h.1) aq
  ·exact h.2
  ·exact absurd (e.symm.trans h.1) aq
  ·exact absurd (e.symm.trans h.1) aq
  ·exact absurd (e.symm.trans h.1) aq
  ·exact absurd (e.symm.trans h.1) aq
  ·exact absurd (e.symm.trans h.1) aq
  ·exact absurd (e.symm.trans h.1) aq
  ·exact absurd (e.symm.trans h.1) aq
 ·exact fun h=>.inr (.inl ⟨e,h⟩)
theorem FY {f:aP} (e:f.1=2):cE f=bytesOf (bM f.2.2.2.2.2.1)++bytesOf f.2.2.2.2.2.2.1:=by unfold cE;rw [if_neg (by rw [e];decide),if_pos e]
theorem yl {f:aP} (e:f.1=3):Sp.kindOk f↔lu f.2.2.2.2.1:=by
 constructor
 ·intro h
  rcases h with h|h|h|h|h|h|h|h|h
  ·exact absurd (e.symm.trans h.1) aq
  ·exact absurd (e.symm.trans h.1) aq
  ·exact h.2
  ·exact absurd (e.symm.trans h.1) aq
  ·exact absurd (e.symm.trans h.1) aq
  ·exact absurd (e.symm.trans h.1) aq
  ·exact absurd (e.symm.trans h.1) aq
  ·exact absurd (e.symm.trans h.1) aq
  ·exact absurd (e.symm.trans h.1) aq
 ·exact fun h=>.inr (.inr (.inl ⟨e,h⟩))
theorem FZ {f:aP} (e:f.1=3):cE f=bytesOf f.2.2.2.2.1:=by unfold cE;rw [if_neg (by rw [e];decide),if_neg (by rw [e];decide),if_pos e]
theorem wB {f:aP} (e:f.1=4):Sp.kindOk f↔(lu f.2.2.2.2.1∧gA f.2.2.2.2.2.2.2.2.1):=by
 constructor
 ·intro h
  rcases h with h|h|h|h|h|h|h|h|h
  ·exact absurd (e.symm.trans h.1) aq
  ·exact absurd (e.symm.trans h.1) aq
  ·exact absurd (e.symm.trans h.1) aq
  ·exact h.2
  ·exact absurd (e.symm.trans h.1) aq
  ·exact absurd (e.symm.trans h.1) aq
  ·exact absurd (e.symm.trans h.1) aq
  ·exact absurd (e.symm.trans h.1) aq
  ·exact absurd (e.symm.trans h.1) aq
 ·exact fun h=>.inr (.inr (.inr (.inl ⟨e,h⟩)))
theorem F0 {f:aP} (e:f.1=4):cE f=bytesOf f.2.2.2.2.1++kz f.2.2.2.2.2.2.2.2.1:=by unfold cE;rw [if_neg (by rw [e];decide),if_neg (by rw [e];decide),if_neg (by rw [e];decide),if_pos e]
theorem wC {f:aP} (e:f.1=5):Sp.kindOk f↔(∃ x,f.2.2.2.2.2.2.2.2.2.1=[x]∧fF x=true):=by
 constructor
 ·intro h
  rcases h with h|h|h|h|h|h|h|h|h
  ·exact absurd (e.symm.trans h.1) aq
  ·exact absurd (e.symm.trans h.1) aq
  ·exact absurd (e.symm.trans h.1) aq
  ·exact absurd (e.symm.trans h.1) aq
  ·exact h.2
  ·exact absurd (e.symm.trans h.1) aq
  ·exact absurd (e.symm.trans h.1) aq
  ·exact absurd (e.symm.trans h.1) aq
  ·exact absurd (e.symm.trans h.1) aq
 ·exact fun h=>.inr (.inr (.inr (.inr (.inl ⟨e,h⟩))))
theorem F1 {f:aP} (e:f.1=5):cE f=bytesOf (f.2.2.2.2.2.2.2.2.2.1.map cm).flatten:=by unfold cE;rw [if_neg (by rw [e];decide),if_neg (by rw [e];decide),if_neg (by rw [e];decide),if_neg (by rw [e];decide),if_pos e]
theorem ym {f:aP} (e:f.1=6):Sp.kindOk f↔(0≤f.2.2.2.2.2.2.2.2.2.2.2.1∧f.2.2.2.2.2.2.2.2.2.2.2.1≤255):=by
 constructor
 ·intro h
  rcases h with h|h|h|h|h|h|h|h|h
  ·exact absurd (e.symm.trans h.1) aq
  ·exact absurd (e.symm.trans h.1) aq
  ·exact absurd (e.symm.trans h.1) aq
  ·exact absurd (e.symm.trans h.1) aq
  ·exact absurd (e.symm.trans h.1) aq
  ·exact h.2
  ·exact absurd (e.symm.trans h.1) aq
  ·exact absurd (e.symm.trans h.1) aq
  ·exact absurd (e.symm.trans h.1) aq
 ·exact fun h=>.inr (.inr (.inr (.inr (.inr (.inl ⟨e,h⟩)))))
theorem zU {f:aP} (e:f.1=6):cE f=be f.2.2.2.2.2.2.2.2.2.2.2.1:=by unfold cE;rw [if_neg (by rw [e];decide),if_neg (by rw [e];decide),if_neg (by rw [e];decide),if_neg (by rw [e];decide),if_neg (by rw [e];decide),if_pos e]
theorem AG {f:aP} (e:f.1=7):Sp.kindOk f↔fL f.2.2.2.1:=by
 constructor
 ·intro h
  rcases h with h|h|h|h|h|h|h|h|h
  ·exact absurd (e.symm.trans h.1) aq
  ·exact absurd (e.symm.trans h.1) aq
  ·exact absurd (e.symm.trans h.1) aq
  ·exact absurd (e.symm.trans h.1) aq
  ·exact absurd (e.symm.trans h.1) aq
  ·exact absurd (e.symm.trans h.1) aq
  ·exact h.2
  ·exact absurd (e.symm.trans h.1) aq
  ·exact absurd (e.symm.trans h.1) aq
 ·exact fun h=>.inr (.inr (.inr (.inr (.inr (.inr (.inl ⟨e,h⟩))))))
theorem F2 {f:aP} (e:f.1=7):cE f=bytesOf f.2.2.2.1:=by unfold cE;rw [if_neg (by rw [e];decide),if_neg (by rw [e];decide),if_neg (by rw [e];decide),if_neg (by rw [e];decide),if_neg (by rw [e];decide),if_neg (by rw [e];decide),if_pos e]
theorem qS {f:aP} (e:f.1=8):Sp.kindOk f↔(fL f.2.2.2.1∧dR f.2.2.2.2.2.1=true∧js f.2.2.2.2.2.2.2.1∧ez f.2.2.2.2.2.2.2.2.2.1∧∀ h:0<f.2.2.2.2.2.2.2.2.2.1.length,f.2.2.2.2.2.2.2.2.2.1[0].1=f.2.2.2.1):=by
 constructor
 ·intro h
  rcases h with h|h|h|h|h|h|h|h|h
  ·exact absurd (e.symm.trans h.1) aq
  ·exact absurd (e.symm.trans h.1) aq
  ·exact absurd (e.symm.trans h.1) aq
  ·exact absurd (e.symm.trans h.1) aq
  ·exact absurd (e.symm.trans h.1) aq
  ·exact absurd (e.symm.trans h.1) aq
  ·exact absurd (e.symm.trans h.1) aq
  ·exact h.2
  ·exact absurd (e.symm.trans h.1) aq
 ·exact fun h=>.inr (.inr (.inr (.inr (.inr (.inr (.inr (.inl ⟨e,h⟩)))))))
theorem F3 {f:aP} (e:f.1=8):cE f=bytesOf f.2.2.2.1++(bytesOf (bM f.2.2.2.2.2.1)++(iB f.2.2.2.2.2.2.2.1++bytesOf (dc f.2.2.2.2.2.2.2.2.2.1))):=by unfold cE;rw [if_neg (by rw [e];decide),if_neg (by rw [e];decide),if_neg (by rw [e];decide),if_neg (by rw [e];decide),if_neg (by rw [e];decide),if_neg (by rw [e];decide),if_neg (by rw [e];decide),if_pos e]
theorem yo {f:aP} (e:f.1=9):Sp.kindOk f↔k6 f.2.2.2.2.2.2.2.2.2.2.1=true:=by
 constructor
 ·intro h
  rcases h with h|h|h|h|h|h|h|h|h
  ·exact absurd (e.symm.trans h.1) aq
  ·exact absurd (e.symm.trans h.1) aq
  ·exact absurd (e.symm.trans h.1) aq
  ·exact absurd (e.symm.trans h.1) aq
  ·exact absurd (e.symm.trans h.1) aq
  ·exact absurd (e.symm.trans h.1) aq
  ·exact absurd (e.symm.trans h.1) aq
  ·exact absurd (e.symm.trans h.1) aq
  ·exact h.2
 ·exact fun h=>.inr (.inr (.inr (.inr (.inr (.inr (.inr (.inr (⟨e,h⟩))))))))
theorem F4 {f:aP} (e:f.1=9):cE f=bytesOf (j0 f.2.2.2.2.2.2.2.2.2.2.1):=by unfold cE;rw [if_neg (by rw [e];decide),if_neg (by rw [e];decide),if_neg (by rw [e];decide),if_neg (by rw [e];decide),if_neg (by rw [e];decide),if_neg (by rw [e];decide),if_neg (by rw [e];decide),if_neg (by rw [e];decide),if_pos e]
theorem AH {f:aP} (h:Sp.kindOk f):jW f.1:=by
 rcases h with h|h|h|h|h|h|h|h|h
 ·exact .inl h.1
 ·exact .inr (.inl h.1)
 ·exact .inr (.inr (.inl h.1))
 ·exact .inr (.inr (.inr (.inl h.1)))
 ·exact .inr (.inr (.inr (.inr (.inl h.1))))
 ·exact .inr (.inr (.inr (.inr (.inr (.inl h.1)))))
 ·exact .inr (.inr (.inr (.inr (.inr (.inr (.inl h.1))))))
 ·exact .inr (.inr (.inr (.inr (.inr (.inr (.inr (.inl h.1)))))))
 ·exact .inr (.inr (.inr (.inr (.inr (.inr (.inr (.inr h.1)))))))
theorem Il {r:Fr} {b:Nat} {cs:List Value} {y:Value} {f:aP} (hin:jW f.1) (hf:ck.rel r cs f) (h:cg r ⟨b,0,none⟩ (cs++[y])) (hl:kD f) (aU:cg r ⟨0,0,none⟩ (cz fq)) (hK:cg r ⟨1,0,none⟩ (cz gW)):aj prog (mv f.1) #[.pointer (some ⟨b,0,none⟩)] r []
  (dg (fun v aa=>Sp.kindOk f∧∃ a c,v=.slice a (cE f).length c∧aa=[ak ag.u8 5 (.slice a (cE f).length c) (cE f)]) (fun ch aa=>¬ Sp.kindOk f∧ch=fJ 39 4∧aa=[])):=by
 rcases hin with e|e|e|e|e|e|e|e|e
 ·rw [show mv f.1=144 by rw [e];rfl,zT e]
  exact (aan hf h hl.1).mono (dg.imp (fun v aa ⟨h1,h2⟩=>⟨(yj e).2 h1,h2⟩) (fun c aa ⟨h1,h2⟩=>⟨fun q=>h1 ((yj e).1 q),h2⟩))
 ·rw [show mv f.1=147 by rw [e];rfl,FY e]
  exact (aam hf h hl.1).mono (dg.imp (fun v aa ⟨h1,h2⟩=>⟨(wA e).2 h1,h2⟩) (fun c aa ⟨h1,h2⟩=>⟨fun q=>h1 ((wA e).1 q),h2⟩))
 ·rw [show mv f.1=150 by rw [e];rfl,FZ e]
  exact (aag hf h hl.1).mono (dg.imp (fun v aa ⟨h1,h2⟩=>⟨(yl e).2 h1,h2⟩) (fun c aa ⟨h1,h2⟩=>⟨fun q=>h1 ((yl e).1 q),h2⟩))
 ·rw [show mv f.1=153 by rw [e];rfl,F0 e]
  exact (aal hf h hl.1 hl.2.1 aU hK).mono (dg.imp (fun v aa ⟨h1,h2⟩=>⟨(wB e).2 h1,h2⟩) (fun c aa ⟨h1,h2⟩=>⟨fun q=>h1 ((wB e).1 q),h2⟩))
 ·rw [show mv f.1=156 by rw [e];rfl,F1 e]
  exact (aao hf h hl.1).mono (dg.imp (fun v aa ⟨h1,h2⟩=>⟨(wC e).2 h1,h2⟩) (fun c aa ⟨h1,h2⟩=>⟨fun q=>h1 ((wC e).1 q),h2⟩))
 ·rw [show mv f.1=159 by rw [e];rfl,zU e]
  exact (aaf hf h hl.1).mono (dg.imp (fun v aa ⟨h1,h2⟩=>⟨(ym e).2 h1,h2⟩) (fun c aa ⟨h1,h2⟩=>⟨fun q=>h1 ((ym e).1 q),h2⟩))
 ·rw [show mv f.1=162 by rw [e];rfl,F2 e]
  exact (aaj hf h hl.1).mono (dg.imp (fun v aa ⟨h1,h2⟩=>⟨(AG e).2 h1,h2⟩) (fun c aa ⟨h1,h2⟩=>⟨fun q=>h1 ((AG e).1 q),h2⟩))
 ·rw [show mv f.1=165 by rw [e];rfl,F3 e]
  exact (aak hf h hl.1 hl.2.2.1 hl.2.2.2).mono (dg.imp (fun v aa ⟨h1,h2⟩=>⟨(qS e).2 h1,h2⟩) (fun c aa ⟨h1,h2⟩=>⟨fun q=>h1 ((qS e).1 q),h2⟩))
 ·rw [show mv f.1=168 by rw [e];rfl,F4 e]
  exact (aai hf h hl.1).mono (dg.imp (fun v aa ⟨h1,h2⟩=>⟨(yo e).2 h1,h2⟩) (fun c aa ⟨h1,h2⟩=>⟨fun q=>h1 ((yo e).1 q),h2⟩))
theorem JN {α:Type} {b:α→List UInt8} {C:Nat} {l:List α} (h:∀ x∈l,(b x).length≤C):(bh b l).length≤C*l.length:=r8 b C l h
theorem vO {f:aP} (hk:Sp.kindOk f) (hl:kD f):(cE f).length≤10000000000000:=by
 obtain ⟨_,⟨⟨n1,n2⟩,eC,fy⟩,o9,qW⟩:=hl
 rcases AH hk with e|e|e|e|e|e|e|e|e
 ·rw [zT e,ga];decide
 ·have h:=(wA e).1 hk
  have hr:=lZ h.1;have h2:=h.2;rw [FY e];simp only [cI,fI];omega
 ·have h:=((yl e).1 hk).1
  rw [FZ e];simp only [fI];omega
 ·have h:=(wB e).1 hk
  have h1:=h.1.1;have h3:(bh eB f.2.2.2.2.2.2.2.2.1.2.2.2.1).length≤14080096*f.2.2.2.2.2.2.2.2.1.2.2.2.1.length:=JN fun z hz=>by
   have w1:=(h.2.1.1 z hz).1.2;have w2:=q7 (h.2.1.1 z hz).2.1.1;have w3:=fy z hz;simp only [eB,cI,fI];omega
  rw [F0 e];unfold kz;simp only [cI,fI,ga];omega
 ·obtain ⟨x,hx,hr⟩:=(wC e).1 hk
  have h1:(cm x).length≤1400:=q3 hr;rw [F1 e,hx];simp only [List.map_cons,List.map_nil,nV,List.flatten_nil,List.append_nil,fI];omega
 ·rw [zU e,ga];decide
 ·have h:=((AG e).1 hk).2
  rw [F2 e];simp only [fI];omega
 ·obtain ⟨h1,h2,⟨⟨g1,_⟩,g2,g3,_⟩,h4,_⟩:=(qS e).1 hk
  have hr:=lZ h2;have hs:=q7 h4.1;have h12:=h1.2;have w1:(bh bytesOf f.2.2.2.2.2.2.2.1.1).length≤72*f.2.2.2.2.2.2.2.1.1.length:=JN fun z hz=>by
   have:=g2 z hz;simp only [fI];omega
  have w2:(bh er f.2.2.2.2.2.2.2.1.2.1).length≤144*f.2.2.2.2.2.2.2.1.2.1.length:=JN fun z hz=>by
   have q1:=(g3 z hz).1.2;have bg:=(g3 z hz).2;simp only [er,cI,fI];omega
  rw [F3 e];unfold iB;simp only [cI,fI,ga];omega
 ·have hr:=xX ((yo e).1 hk)
  rw [F4 e];simp only [fI];omega
theorem FX {f:aP} (hk:Sp.kindOk f) (hl:kD f):(di f).length≤20000000000000:=by have:=vO hk hl;rw [CE];omega
theorem w5 {r:Fr} {cs:List Value} {f:aP} (hf:ck.rel r cs f) (hl:kD f) (aU:cg r ⟨0,0,none⟩ (cz fq)) (hK:cg r ⟨1,0,none⟩ (cz gW)):aj prog 35 #[.agg cs.toArray] r []
  (dg (fun v aa=>(Sp.kindOk f∧0≤f.2.1∧f.2.1≤1073741824)∧∃ a c,v=.slice a (di f).length c∧aa=[ak ag.u8 5 (.slice a (di f).length c) (di f)]) (fun ch aa=>¬ (Sp.kindOk f∧0≤f.2.1∧f.2.1≤1073741824)∧ch=fJ 39 4∧aa=[])):=by
 have kr:=hf;obtain ⟨a8,a9,c6,cQ,cR,cS,cT,b_,dV,dW,cY,cX,dX,bk,bc,bB,bG,bD,bE,bF,bn,cx,cn,bJ,bI,cq,rfl,p1,p2,p3,gT,gL,jb,gU,bU,b7,bO,b5,bL,bN,bP,bW,bK,ja,e5,gS,bT,b6,fp,hY,iT,cc,bX,jq⟩:=ck.sh kr;refine aj.o func35 fun g hg R hR=>?_;have aU:=aU.mono hg;have hK:=hK.mono hg;have hf:=hf.mono hg;refine S.seq<|S.region rfl<|O.aD (.p rfl) (.box (cs:=[_,_,_,_,_,_,_,_,_,_,_,_,_,_,_,_,_,_,_,_,_,_,_,_,_,_,_,_,_]) rfl rfl) ?_;rintro _ _ ⟨b1,rfl,rfl⟩;refine U 3 ?_;refine S.cy an fun g hs hm h1=>?_;replace hg:=bf hg hs;replace hR:=a_ hR hm
 try replace aU:=aU.mono hs
 try replace hK:=hK.mono hs
 try replace hf:=hf.mono hs
 clear hs hm
 by_cases hin:jW f.1
 ·have hok:=Yd hin
  refine S.aY (L:=[1,2,0,3,4,5,6,7,8,9]) F.mixed af ?_;refine U 2 ?_;refine ah.aN (.p rfl) af rfl af rfl rfl (AJ) ?_;rintro uf _ ⟨gF,c9,NQ,rfl,rfl,v5⟩;refine ah.vJ (.p rfl) rfl af (fun _=>.o6 underlying137 (eI underlying25) zeroValue135 rfl rfl an) ?_;refine ah.q 2 rfl<|ah.slot 11 (v' :=o5 (mv f.1) (tJ f.1) (mu f.1)) rfl (by simp [v5,AI hin]) ?_;refine ah.q 1 rfl<|ah.sT 12 rfl (by simp [v5,AI hin]) ?_;refine .lazy rfl af rfl fun b3=>?_;refine ah.jM rfl af af rfl rfl rfl rfl an oL<|U 3 ?_;refine S.cH (b:=b3) (cs' :=[.func (.func (mv f.1)) #[] #[],.func (.func (tJ f.1)) #[] #[],.func (.func (mu f.1)) #[] #[]]) an rfl ?_;refine S.cy an fun g hs hm h3=>?_;replace hg:=bf hg hs;replace hR:=a_ hR hm
  try replace aU:=aU.mono hs
  try replace hK:=hK.mono hs
  try replace hf:=hf.mono hs
  try replace h1:=h1.mono hs
  clear hs hm
  by_cases q1:0≤f.2.1
  ·by_cases bg:f.2.1≤1073741824
   ·
    refine U 6 ?_;refine O.sT 17 rfl (by exact zdt q1)<|U 5 ?_;refine O.sT 22 rfl (by exact zdt bg) ?_;refine O.q 1 rfl<|O.cV (.p rfl) rfl af rfl rfl (fD _) (fun ch au w hX hW=>by (exact absurd hX.1 aH)) ?_;rintro _ _ ⟨x6,rfl,rfl⟩;refine U 3 ?_;refine O.op (.p rfl) (.aJ isAgg41 af rfl h1) ?_;refine O.op (.p rfl) (.build (cs:=[_,_,_,_,_,_,_,_,_,_,_,_,_,_,_,_,_,_,_,_,_,_,_,_,_,_,_,_,_,_]) underlying129 rfl rfl rfl rfl rfl)<|O.aD (.p rfl) (.box (cs:=[_,_,_,_,_,_,_,_,_,_,_,_,_,_,_,_,_,_,_,_,_,_,_,_,_,_,_,_,_,_]) rfl rfl) ?_;rintro _ _ ⟨Rb,rfl,rfl⟩;refine U 3 ?_
    refine S.cH (b:=Rb) (cs' :=[aT f.1,.int .i64 f.2.1,.int .i64 f.2.2.1,.string (str f.2.2.2.1),.string (str f.2.2.2.2.1),.int .i64 f.2.2.2.2.2.1.1,.int .i64 f.2.2.2.2.2.1.2.1,.int .i64 f.2.2.2.2.2.1.2.2.1,.slice a8 f.2.2.2.2.2.1.2.2.2.1.length bk,.slice a9 f.2.2.2.2.2.1.2.2.2.2.1.length bc,.slice c6 f.2.2.2.2.2.2.1.length bB,.slice cQ f.2.2.2.2.2.2.2.1.1.length bG,.slice cR f.2.2.2.2.2.2.2.1.2.1.length bD,aT f.2.2.2.2.2.2.2.2.1.1,.slice cS f.2.2.2.2.2.2.2.2.1.2.1.length bE,.slice cT f.2.2.2.2.2.2.2.2.1.2.2.1.length bF,.slice b_ f.2.2.2.2.2.2.2.2.1.2.2.2.1.length bn,.slice dV f.2.2.2.2.2.2.2.2.2.1.length cx,.int .i64 f.2.2.2.2.2.2.2.2.2.2.1.1.1,.int .i64 f.2.2.2.2.2.2.2.2.2.2.1.1.2.1,.int .i64 f.2.2.2.2.2.2.2.2.2.2.1.1.2.2.1,.slice dW f.2.2.2.2.2.2.2.2.2.2.1.1.2.2.2.1.length cn,.slice cY f.2.2.2.2.2.2.2.2.2.2.1.1.2.2.2.2.1.length bJ,.int .i64 f.2.2.2.2.2.2.2.2.2.2.1.2.1.1,.int .i64 f.2.2.2.2.2.2.2.2.2.2.1.2.1.2.1,.int .i64 f.2.2.2.2.2.2.2.2.2.2.1.2.1.2.2.1,.slice cX f.2.2.2.2.2.2.2.2.2.2.1.2.1.2.2.2.1.length bI,.slice dX f.2.2.2.2.2.2.2.2.2.2.1.2.1.2.2.2.2.1.length cq,.int .i64 f.2.2.2.2.2.2.2.2.2.2.2.1]++[.pointer none]) an rfl ?_;refine S.cy an fun g hs hm h5=>?_;replace hg:=bf hg hs;replace hR:=a_ hR hm
    try replace aU:=aU.mono hs
    try replace hK:=hK.mono hs
    try replace hf:=hf.mono hs
    try replace h1:=h1.mono hs
    try replace h3:=h3.mono hs
    clear hs hm;refine S.yJ (L:=[0,1,3,4,6,7,8,2,5,9,10,11,12]) (fun (x:{q:Option Addr × Nat // Sp.kindOk f})=>[(2,.slice x.1.1 (di f).length x.1.2)]) [] (fun (x:{q:Option Addr × Nat // Sp.kindOk f})=>[ak ag.u8 5 (.slice x.1.1 (di f).length x.1.2) (di f)]) (.nil) F.mixed af (fun kk key=>?_) (fun x=>?_)
    ·refine U 6 ?_
     refine ah.q 1 rfl<|ah.kZ 2 5 [5,9,10,11,12] [2,9,10,11,12] af rfl rfl ?_ ?_
     ·refine e3.bw (T:=ag.u8) (ys:=[_]) (.p rfl) af underlying22 cP aq rfl rfl ⟨rfl,trivial⟩ aq (fun kY k3=>?_)
      refine ah.aN (.p rfl) af rfl af rfl rfl ((ir _)) ?_;rintro _ _ ⟨mE,mG,rfl,rfl⟩;refine ah.cV (.p rfl) af rfl hok rfl rfl ((Il hin hf h5 hl aU hK)) (fun ch au w hX hW=>by (obtain ⟨hb,rfl,rfl⟩:=hX;exact hR _ _ w ⟨fun q=>hb q.1,rfl,rfl⟩ hW.fU)) ?_;rintro _ _ ⟨uR,l9,mc,rfl,rfl⟩;have hlen:=vO uR hl;refine ah.bw (.p rfl) af (T:=ag.val) (ys:=[.slice kY 1 k3,.slice mE 8 mG,.slice l9 (cE f).length mc]) underlying28 dH aq rfl rfl ⟨⟨rfl,rfl⟩,⟨rfl,rfl⟩,⟨rfl,rfl⟩,trivial⟩ aq (fun sS sY=>?_);refine ah.dh (.p rfl) af rfl af rfl rfl (bs:=[ak ag.val 22 (.slice sS 3 sY) [.slice kY 1 k3,.slice mE 8 mG,.slice l9 (cE f).length mc],ak ag.u8 5 (.slice kY 1 k3) ([f.1]),ak ag.u8 5 (.slice mE 8 mG) (be f.2.1),ak ag.u8 5 (.slice l9 (cE f).length mc) (cE f)]) ct (fun m hm hd=>mz (xss:=[[f.1],be f.2.1,cE f]) ((hm.arr.right hd).rows ⟨hm.tail.arr.right hd,hm.tail.tail.arr.right hd,hm.tail.tail.tail.arr.right hd,trivial⟩) (by simp only [nV,List.flatten_nil,List.append_nil,cI,ga,List.length_singleton];omega)) ?_;rintro _ _ ⟨uw,uB,rfl,rfl⟩;have qz:[[f.1],be f.2.1,cE f].flatten=di f:=by simp [di]
      refine U 2 ?_;rw [qz];refine S.pk ?_ (S.weaken (Sub.app aO (.nil)) (key ⟨(uw,uB),uR⟩))
      try dsimp only
      repeat (first|exact gX|exact gZ|(apply gY;focus (repeat (first|exact fA|apply zt)))|apply g5)
     ·refine e3.aN (.p rfl) af rfl af rfl rfl ((ir _)) ?_
      rintro _ _ ⟨mE,mG,rfl,rfl⟩;refine ah.kZ 2 9 [9,10,11,12] [2,10,11,12] af rfl rfl ?_ ?_
      ·refine e3.bw (T:=ag.u8) (ys:=[_]) (.p rfl) af underlying22 cP aq rfl rfl ⟨rfl,trivial⟩ aq (fun kY k3=>?_)
       refine ah.cV (.p rfl) af rfl hok rfl rfl ((Il hin hf h5 hl aU hK)) (fun ch au w hX hW=>by (obtain ⟨hb,rfl,rfl⟩:=hX;exact hR _ _ w ⟨fun q=>hb q.1,rfl,rfl⟩ hW.fU)) ?_;rintro _ _ ⟨uR,l9,mc,rfl,rfl⟩;have hlen:=vO uR hl;refine ah.bw (.p rfl) af (T:=ag.val) (ys:=[.slice kY 1 k3,.slice mE 8 mG,.slice l9 (cE f).length mc]) underlying28 dH aq rfl rfl ⟨⟨rfl,rfl⟩,⟨rfl,rfl⟩,⟨rfl,rfl⟩,trivial⟩ aq (fun sS sY=>?_);refine ah.dh (.p rfl) af rfl af rfl rfl (bs:=[ak ag.val 22 (.slice sS 3 sY) [.slice kY 1 k3,.slice mE 8 mG,.slice l9 (cE f).length mc],ak ag.u8 5 (.slice kY 1 k3) ([f.1]),ak ag.u8 5 (.slice mE 8 mG) (be f.2.1),ak ag.u8 5 (.slice l9 (cE f).length mc) (cE f)]) ct (fun m hm hd=>mz (xss:=[[f.1],be f.2.1,cE f]) ((hm.arr.right hd).rows ⟨hm.tail.arr.right hd,hm.tail.tail.arr.right hd,hm.tail.tail.tail.arr.right hd,trivial⟩) (by simp only [nV,List.flatten_nil,List.append_nil,cI,ga,List.length_singleton];omega)) ?_;rintro _ _ ⟨uw,uB,rfl,rfl⟩;have qz:[[f.1],be f.2.1,cE f].flatten=di f:=by simp [di]
       refine U 2 ?_;rw [qz];refine S.pk ?_ (S.weaken (Sub.app aO (.nil)) (key ⟨(uw,uB),uR⟩))
       try dsimp only
       repeat (first|exact gX|exact gZ|(apply gY;focus (repeat (first|exact fA|apply zt)))|apply g5)
      ·refine e3.cV (.p rfl) af rfl hok rfl rfl ((Il hin hf h5 hl aU hK)) (fun ch au w hX hW=>by (obtain ⟨hb,rfl,rfl⟩:=hX;exact hR _ _ w ⟨fun q=>hb q.1,rfl,rfl⟩ hW.fU)) ?_
       rintro _ _ ⟨uR,l9,mc,rfl,rfl⟩;have hlen:=vO uR hl;refine ah.bw (T:=ag.u8) (ys:=[_]) (.p rfl) af underlying22 cP aq rfl rfl ⟨rfl,trivial⟩ aq (fun kY k3=>?_);refine ah.bw (.p rfl) af (T:=ag.val) (ys:=[.slice kY 1 k3,.slice mE 8 mG,.slice l9 (cE f).length mc]) underlying28 dH aq rfl rfl ⟨⟨rfl,rfl⟩,⟨rfl,rfl⟩,⟨rfl,rfl⟩,trivial⟩ aq (fun sS sY=>?_);refine ah.dh (.p rfl) af rfl af rfl rfl (bs:=[ak ag.val 22 (.slice sS 3 sY) [.slice kY 1 k3,.slice mE 8 mG,.slice l9 (cE f).length mc],ak ag.u8 5 (.slice kY 1 k3) ([f.1]),ak ag.u8 5 (.slice mE 8 mG) (be f.2.1),ak ag.u8 5 (.slice l9 (cE f).length mc) (cE f)]) ct (fun m hm hd=>mz (xss:=[[f.1],be f.2.1,cE f]) ((hm.arr.right hd).rows ⟨hm.tail.arr.right hd,hm.tail.tail.arr.right hd,hm.tail.tail.tail.arr.right hd,trivial⟩) (by simp only [nV,List.flatten_nil,List.append_nil,cI,ga,List.length_singleton];omega)) ?_;rintro _ _ ⟨uw,uB,rfl,rfl⟩;have qz:[[f.1],be f.2.1,cE f].flatten=di f:=by simp [di]
       refine U 2 ?_;rw [qz];refine S.pk ?_ (S.weaken (Sub.app aO (.nil)) (key ⟨(uw,uB),uR⟩))
       try dsimp only
       repeat (first|exact gX|exact gZ|(apply gY;focus (repeat (first|exact fA|apply zt)))|apply g5)
    exact S.rt results35 rfl hR ⟨⟨x.2,q1,bg⟩,x.1.1,x.1.2,rfl,rfl⟩
   ·have hn:¬ (Sp.kindOk f∧0≤f.2.1∧f.2.1≤1073741824):=fun w=>bg w.2.2
    refine U 6 ?_;refine O.sT 17 rfl (by exact zdt q1)<|U 5 ?_;refine O.aB 22 rfl (by exact aA bg) ?_;refine O.q 1 rfl<|O.cV (.p rfl) rfl af rfl rfl (fD _) (fun ch au w hX hW=>by (obtain ⟨hb,rfl,rfl⟩:=hX;exact hR _ _ w ⟨hn,rfl,rfl⟩ hW.fU)) ?_;rintro _ _ ⟨x6,rfl,rfl⟩;exact absurd x6 aH
  ·have hn:¬ (Sp.kindOk f∧0≤f.2.1∧f.2.1≤1073741824):=fun w=>q1 w.2.1
   refine U 6 ?_;refine O.aB 17 rfl (by exact aA q1) ?_;refine O.q 6 rfl<|O.cV (.p rfl) rfl af rfl rfl (fD _) (fun ch au w hX hW=>by (obtain ⟨hb,rfl,rfl⟩:=hX;exact hR _ _ w ⟨hn,rfl,rfl⟩ hW.fU)) ?_;rintro _ _ ⟨x6,rfl,rfl⟩;exact absurd x6 aH
 ·have hn:¬ (Sp.kindOk f∧0≤f.2.1∧f.2.1≤1073741824):=fun w=>hin (AH w.1)
  refine S.aY (L:=[1,2,0,3,4,5,6,7,8,9]) F.mixed af ?_;refine U 2 ?_;refine ah.aN (.p rfl) af rfl af rfl rfl (AJ) ?_;rintro uf _ ⟨gF,c9,NQ,rfl,rfl,v5⟩;refine ah.vJ (.p rfl) rfl af (fun _=>.o6 underlying137 (eI underlying25) zeroValue135 rfl rfl an) ?_;refine ah.q 2 rfl<|ah.slot 11 (v' :=.agg #[.nilFunc,.nilFunc,.nilFunc]) rfl (by simp [v5,Da hin]) ?_;refine ah.q 1 rfl<|ah.aB 12 rfl (by simp [v5,Da hin]) ?_;refine .lazy rfl af rfl fun b3=>?_;refine ah.jM rfl af af rfl rfl rfl rfl an oL<|U 15 ?_;refine O.cV (.p rfl) rfl af rfl rfl (fD _) (fun ch au w hX hW=>by (obtain ⟨hb,rfl,rfl⟩:=hX;exact hR _ _ w ⟨hn,rfl,rfl⟩ hW.fU)) ?_;rintro _ _ ⟨x6,rfl,rfl⟩;exact absurd x6 aH
theorem Yb {r:Fr} {b:Nat} {cs:List Value} {y:Value} {f:aP} (hin:jW f.1) (hf:ck.rel r cs f):aj prog (mu f.1) #[.pointer (some ⟨b,0,none⟩)] r [obj b 129 (cs++[y])]
  (aF fun v aa=>v=.tuple #[]∧∃ cs',ck.rel r cs' (gz f)∧aa=[obj b 129 (cs' ++[y])]):=by
 obtain ⟨a8,a9,c6,cQ,cR,cS,cT,b_,dV,dW,cY,cX,dX,bk,bc,bB,bG,bD,bE,bF,bn,cx,cn,bJ,bI,cq,rfl,p1,p2,p3,gT,gL,jb,gU,bU,b7,bO,b5,bL,bN,bP,bW,bK,ja,e5,gS,bT,b6,fp,hY,iT,cc,bX,jq⟩:=ck.sh hf
 rcases hin with e|e|e|e|e|e|e|e|e
 ·rw [show mu f.1=146 by rw [e];rfl,Iu e]
  exact YM.mono (aF.imp fun v aa ⟨h1,h2⟩=>⟨h1,[aT f.1,.int .i64 f.2.1,.int .i64 0,.string (str f.2.2.2.1),.string (str f.2.2.2.2.1),.int .i64 f.2.2.2.2.2.1.1,.int .i64 f.2.2.2.2.2.1.2.1,.int .i64 f.2.2.2.2.2.1.2.2.1,.slice a8 f.2.2.2.2.2.1.2.2.2.1.length bk,.slice a9 f.2.2.2.2.2.1.2.2.2.2.1.length bc,.slice c6 f.2.2.2.2.2.2.1.length bB,.slice cQ f.2.2.2.2.2.2.2.1.1.length bG,.slice cR f.2.2.2.2.2.2.2.1.2.1.length bD,aT f.2.2.2.2.2.2.2.2.1.1,.slice cS f.2.2.2.2.2.2.2.2.1.2.1.length bE,.slice cT f.2.2.2.2.2.2.2.2.1.2.2.1.length bF,.slice b_ f.2.2.2.2.2.2.2.2.1.2.2.2.1.length bn,.slice dV f.2.2.2.2.2.2.2.2.2.1.length cx,.int .i64 f.2.2.2.2.2.2.2.2.2.2.1.1.1,.int .i64 f.2.2.2.2.2.2.2.2.2.2.1.1.2.1,.int .i64 f.2.2.2.2.2.2.2.2.2.2.1.1.2.2.1,.slice dW f.2.2.2.2.2.2.2.2.2.2.1.1.2.2.2.1.length cn,.slice cY f.2.2.2.2.2.2.2.2.2.2.1.1.2.2.2.2.1.length bJ,.int .i64 f.2.2.2.2.2.2.2.2.2.2.1.2.1.1,.int .i64 f.2.2.2.2.2.2.2.2.2.2.1.2.1.2.1,.int .i64 f.2.2.2.2.2.2.2.2.2.2.1.2.1.2.2.1,.slice cX f.2.2.2.2.2.2.2.2.2.2.1.2.1.2.2.2.1.length bI,.slice dX f.2.2.2.2.2.2.2.2.2.2.1.2.1.2.2.2.2.1.length cq,.int .i64 f.2.2.2.2.2.2.2.2.2.2.2.1],ck.lp,h2⟩)
 ·rw [show mu f.1=149 by rw [e];rfl,Iv e]
  exact YL.mono (aF.imp fun v aa ⟨h1,h2⟩=>⟨h1,[aT f.1,.int .i64 f.2.1,.int .i64 f.2.2.1,.string (str f.2.2.2.1),.string (str f.2.2.2.2.1),.int .i64 0,.int .i64 0,.int .i64 0,.slice none 0 0,.slice none 0 0,.slice none 0 0,.slice cQ f.2.2.2.2.2.2.2.1.1.length bG,.slice cR f.2.2.2.2.2.2.2.1.2.1.length bD,aT f.2.2.2.2.2.2.2.2.1.1,.slice cS f.2.2.2.2.2.2.2.2.1.2.1.length bE,.slice cT f.2.2.2.2.2.2.2.2.1.2.2.1.length bF,.slice b_ f.2.2.2.2.2.2.2.2.1.2.2.2.1.length bn,.slice dV f.2.2.2.2.2.2.2.2.2.1.length cx,.int .i64 f.2.2.2.2.2.2.2.2.2.2.1.1.1,.int .i64 f.2.2.2.2.2.2.2.2.2.2.1.1.2.1,.int .i64 f.2.2.2.2.2.2.2.2.2.2.1.1.2.2.1,.slice dW f.2.2.2.2.2.2.2.2.2.2.1.1.2.2.2.1.length cn,.slice cY f.2.2.2.2.2.2.2.2.2.2.1.1.2.2.2.2.1.length bJ,.int .i64 f.2.2.2.2.2.2.2.2.2.2.1.2.1.1,.int .i64 f.2.2.2.2.2.2.2.2.2.2.1.2.1.2.1,.int .i64 f.2.2.2.2.2.2.2.2.2.2.1.2.1.2.2.1,.slice cX f.2.2.2.2.2.2.2.2.2.2.1.2.1.2.2.2.1.length bI,.slice dX f.2.2.2.2.2.2.2.2.2.2.1.2.1.2.2.2.2.1.length cq,.int .i64 f.2.2.2.2.2.2.2.2.2.2.2.1],ck.lp,h2⟩)
 ·rw [show mu f.1=152 by rw [e];rfl,Iw e]
  exact YF.mono (aF.imp fun v aa ⟨h1,h2⟩=>⟨h1,[aT f.1,.int .i64 f.2.1,.int .i64 f.2.2.1,.string (str f.2.2.2.1),.string ⟨#[]⟩,.int .i64 f.2.2.2.2.2.1.1,.int .i64 f.2.2.2.2.2.1.2.1,.int .i64 f.2.2.2.2.2.1.2.2.1,.slice a8 f.2.2.2.2.2.1.2.2.2.1.length bk,.slice a9 f.2.2.2.2.2.1.2.2.2.2.1.length bc,.slice c6 f.2.2.2.2.2.2.1.length bB,.slice cQ f.2.2.2.2.2.2.2.1.1.length bG,.slice cR f.2.2.2.2.2.2.2.1.2.1.length bD,aT f.2.2.2.2.2.2.2.2.1.1,.slice cS f.2.2.2.2.2.2.2.2.1.2.1.length bE,.slice cT f.2.2.2.2.2.2.2.2.1.2.2.1.length bF,.slice b_ f.2.2.2.2.2.2.2.2.1.2.2.2.1.length bn,.slice dV f.2.2.2.2.2.2.2.2.2.1.length cx,.int .i64 f.2.2.2.2.2.2.2.2.2.2.1.1.1,.int .i64 f.2.2.2.2.2.2.2.2.2.2.1.1.2.1,.int .i64 f.2.2.2.2.2.2.2.2.2.2.1.1.2.2.1,.slice dW f.2.2.2.2.2.2.2.2.2.2.1.1.2.2.2.1.length cn,.slice cY f.2.2.2.2.2.2.2.2.2.2.1.1.2.2.2.2.1.length bJ,.int .i64 f.2.2.2.2.2.2.2.2.2.2.1.2.1.1,.int .i64 f.2.2.2.2.2.2.2.2.2.2.1.2.1.2.1,.int .i64 f.2.2.2.2.2.2.2.2.2.2.1.2.1.2.2.1,.slice cX f.2.2.2.2.2.2.2.2.2.2.1.2.1.2.2.2.1.length bI,.slice dX f.2.2.2.2.2.2.2.2.2.2.1.2.1.2.2.2.2.1.length cq,.int .i64 f.2.2.2.2.2.2.2.2.2.2.2.1],ck.lp,h2⟩)
 ·rw [show mu f.1=155 by rw [e];rfl,Ix e]
  exact YK.mono (aF.imp fun v aa ⟨h1,h2⟩=>⟨h1,[aT f.1,.int .i64 f.2.1,.int .i64 f.2.2.1,.string (str f.2.2.2.1),.string ⟨#[]⟩,.int .i64 f.2.2.2.2.2.1.1,.int .i64 f.2.2.2.2.2.1.2.1,.int .i64 f.2.2.2.2.2.1.2.2.1,.slice a8 f.2.2.2.2.2.1.2.2.2.1.length bk,.slice a9 f.2.2.2.2.2.1.2.2.2.2.1.length bc,.slice c6 f.2.2.2.2.2.2.1.length bB,.slice cQ f.2.2.2.2.2.2.2.1.1.length bG,.slice cR f.2.2.2.2.2.2.2.1.2.1.length bD,aT 0,.slice none 0 0,.slice none 0 0,.slice none 0 0,.slice dV f.2.2.2.2.2.2.2.2.2.1.length cx,.int .i64 f.2.2.2.2.2.2.2.2.2.2.1.1.1,.int .i64 f.2.2.2.2.2.2.2.2.2.2.1.1.2.1,.int .i64 f.2.2.2.2.2.2.2.2.2.2.1.1.2.2.1,.slice dW f.2.2.2.2.2.2.2.2.2.2.1.1.2.2.2.1.length cn,.slice cY f.2.2.2.2.2.2.2.2.2.2.1.1.2.2.2.2.1.length bJ,.int .i64 f.2.2.2.2.2.2.2.2.2.2.1.2.1.1,.int .i64 f.2.2.2.2.2.2.2.2.2.2.1.2.1.2.1,.int .i64 f.2.2.2.2.2.2.2.2.2.2.1.2.1.2.2.1,.slice cX f.2.2.2.2.2.2.2.2.2.2.1.2.1.2.2.2.1.length bI,.slice dX f.2.2.2.2.2.2.2.2.2.2.1.2.1.2.2.2.2.1.length cq,.int .i64 f.2.2.2.2.2.2.2.2.2.2.2.1],ck.lp,h2⟩)
 ·rw [show mu f.1=158 by rw [e];rfl,Iy e]
  exact YN.mono (aF.imp fun v aa ⟨h1,h2⟩=>⟨h1,[aT f.1,.int .i64 f.2.1,.int .i64 f.2.2.1,.string (str f.2.2.2.1),.string (str f.2.2.2.2.1),.int .i64 f.2.2.2.2.2.1.1,.int .i64 f.2.2.2.2.2.1.2.1,.int .i64 f.2.2.2.2.2.1.2.2.1,.slice a8 f.2.2.2.2.2.1.2.2.2.1.length bk,.slice a9 f.2.2.2.2.2.1.2.2.2.2.1.length bc,.slice c6 f.2.2.2.2.2.2.1.length bB,.slice cQ f.2.2.2.2.2.2.2.1.1.length bG,.slice cR f.2.2.2.2.2.2.2.1.2.1.length bD,aT f.2.2.2.2.2.2.2.2.1.1,.slice cS f.2.2.2.2.2.2.2.2.1.2.1.length bE,.slice cT f.2.2.2.2.2.2.2.2.1.2.2.1.length bF,.slice b_ f.2.2.2.2.2.2.2.2.1.2.2.2.1.length bn,.slice none 0 0,.int .i64 f.2.2.2.2.2.2.2.2.2.2.1.1.1,.int .i64 f.2.2.2.2.2.2.2.2.2.2.1.1.2.1,.int .i64 f.2.2.2.2.2.2.2.2.2.2.1.1.2.2.1,.slice dW f.2.2.2.2.2.2.2.2.2.2.1.1.2.2.2.1.length cn,.slice cY f.2.2.2.2.2.2.2.2.2.2.1.1.2.2.2.2.1.length bJ,.int .i64 f.2.2.2.2.2.2.2.2.2.2.1.2.1.1,.int .i64 f.2.2.2.2.2.2.2.2.2.2.1.2.1.2.1,.int .i64 f.2.2.2.2.2.2.2.2.2.2.1.2.1.2.2.1,.slice cX f.2.2.2.2.2.2.2.2.2.2.1.2.1.2.2.2.1.length bI,.slice dX f.2.2.2.2.2.2.2.2.2.2.1.2.1.2.2.2.2.1.length cq,.int .i64 f.2.2.2.2.2.2.2.2.2.2.2.1],ck.lp,h2⟩)
 ·rw [show mu f.1=161 by rw [e];rfl,Iz e]
  exact YE.mono (aF.imp fun v aa ⟨h1,h2⟩=>⟨h1,[aT f.1,.int .i64 f.2.1,.int .i64 f.2.2.1,.string (str f.2.2.2.1),.string (str f.2.2.2.2.1),.int .i64 f.2.2.2.2.2.1.1,.int .i64 f.2.2.2.2.2.1.2.1,.int .i64 f.2.2.2.2.2.1.2.2.1,.slice a8 f.2.2.2.2.2.1.2.2.2.1.length bk,.slice a9 f.2.2.2.2.2.1.2.2.2.2.1.length bc,.slice c6 f.2.2.2.2.2.2.1.length bB,.slice cQ f.2.2.2.2.2.2.2.1.1.length bG,.slice cR f.2.2.2.2.2.2.2.1.2.1.length bD,aT f.2.2.2.2.2.2.2.2.1.1,.slice cS f.2.2.2.2.2.2.2.2.1.2.1.length bE,.slice cT f.2.2.2.2.2.2.2.2.1.2.2.1.length bF,.slice b_ f.2.2.2.2.2.2.2.2.1.2.2.2.1.length bn,.slice dV f.2.2.2.2.2.2.2.2.2.1.length cx,.int .i64 f.2.2.2.2.2.2.2.2.2.2.1.1.1,.int .i64 f.2.2.2.2.2.2.2.2.2.2.1.1.2.1,.int .i64 f.2.2.2.2.2.2.2.2.2.2.1.1.2.2.1,.slice dW f.2.2.2.2.2.2.2.2.2.2.1.1.2.2.2.1.length cn,.slice cY f.2.2.2.2.2.2.2.2.2.2.1.1.2.2.2.2.1.length bJ,.int .i64 f.2.2.2.2.2.2.2.2.2.2.1.2.1.1,.int .i64 f.2.2.2.2.2.2.2.2.2.2.1.2.1.2.1,.int .i64 f.2.2.2.2.2.2.2.2.2.2.1.2.1.2.2.1,.slice cX f.2.2.2.2.2.2.2.2.2.2.1.2.1.2.2.2.1.length bI,.slice dX f.2.2.2.2.2.2.2.2.2.2.1.2.1.2.2.2.2.1.length cq,.int .i64 0],ck.lp,h2⟩)
 ·rw [show mu f.1=164 by rw [e];rfl,IA e]
  exact YI.mono (aF.imp fun v aa ⟨h1,h2⟩=>⟨h1,[aT f.1,.int .i64 f.2.1,.int .i64 f.2.2.1,.string ⟨#[]⟩,.string (str f.2.2.2.2.1),.int .i64 f.2.2.2.2.2.1.1,.int .i64 f.2.2.2.2.2.1.2.1,.int .i64 f.2.2.2.2.2.1.2.2.1,.slice a8 f.2.2.2.2.2.1.2.2.2.1.length bk,.slice a9 f.2.2.2.2.2.1.2.2.2.2.1.length bc,.slice c6 f.2.2.2.2.2.2.1.length bB,.slice cQ f.2.2.2.2.2.2.2.1.1.length bG,.slice cR f.2.2.2.2.2.2.2.1.2.1.length bD,aT f.2.2.2.2.2.2.2.2.1.1,.slice cS f.2.2.2.2.2.2.2.2.1.2.1.length bE,.slice cT f.2.2.2.2.2.2.2.2.1.2.2.1.length bF,.slice b_ f.2.2.2.2.2.2.2.2.1.2.2.2.1.length bn,.slice dV f.2.2.2.2.2.2.2.2.2.1.length cx,.int .i64 f.2.2.2.2.2.2.2.2.2.2.1.1.1,.int .i64 f.2.2.2.2.2.2.2.2.2.2.1.1.2.1,.int .i64 f.2.2.2.2.2.2.2.2.2.2.1.1.2.2.1,.slice dW f.2.2.2.2.2.2.2.2.2.2.1.1.2.2.2.1.length cn,.slice cY f.2.2.2.2.2.2.2.2.2.2.1.1.2.2.2.2.1.length bJ,.int .i64 f.2.2.2.2.2.2.2.2.2.2.1.2.1.1,.int .i64 f.2.2.2.2.2.2.2.2.2.2.1.2.1.2.1,.int .i64 f.2.2.2.2.2.2.2.2.2.2.1.2.1.2.2.1,.slice cX f.2.2.2.2.2.2.2.2.2.2.1.2.1.2.2.2.1.length bI,.slice dX f.2.2.2.2.2.2.2.2.2.2.1.2.1.2.2.2.2.1.length cq,.int .i64 f.2.2.2.2.2.2.2.2.2.2.2.1],ck.lp,h2⟩)
 ·rw [show mu f.1=167 by rw [e];rfl,IB e]
  exact YJ.mono (aF.imp fun v aa ⟨h1,h2⟩=>⟨h1,[aT f.1,.int .i64 f.2.1,.int .i64 f.2.2.1,.string ⟨#[]⟩,.string (str f.2.2.2.2.1),.int .i64 0,.int .i64 0,.int .i64 0,.slice none 0 0,.slice none 0 0,.slice c6 f.2.2.2.2.2.2.1.length bB,.slice none 0 0,.slice none 0 0,aT f.2.2.2.2.2.2.2.2.1.1,.slice cS f.2.2.2.2.2.2.2.2.1.2.1.length bE,.slice cT f.2.2.2.2.2.2.2.2.1.2.2.1.length bF,.slice b_ f.2.2.2.2.2.2.2.2.1.2.2.2.1.length bn,.slice none 0 0,.int .i64 f.2.2.2.2.2.2.2.2.2.2.1.1.1,.int .i64 f.2.2.2.2.2.2.2.2.2.2.1.1.2.1,.int .i64 f.2.2.2.2.2.2.2.2.2.2.1.1.2.2.1,.slice dW f.2.2.2.2.2.2.2.2.2.2.1.1.2.2.2.1.length cn,.slice cY f.2.2.2.2.2.2.2.2.2.2.1.1.2.2.2.2.1.length bJ,.int .i64 f.2.2.2.2.2.2.2.2.2.2.1.2.1.1,.int .i64 f.2.2.2.2.2.2.2.2.2.2.1.2.1.2.1,.int .i64 f.2.2.2.2.2.2.2.2.2.2.1.2.1.2.2.1,.slice cX f.2.2.2.2.2.2.2.2.2.2.1.2.1.2.2.2.1.length bI,.slice dX f.2.2.2.2.2.2.2.2.2.2.1.2.1.2.2.2.2.1.length cq,.int .i64 f.2.2.2.2.2.2.2.2.2.2.2.1],ck.lp,h2⟩)
 ·rw [show mu f.1=170 by rw [e];rfl,IC e]
  exact YG.mono (aF.imp fun v aa ⟨h1,h2⟩=>⟨h1,[aT f.1,.int .i64 f.2.1,.int .i64 f.2.2.1,.string (str f.2.2.2.1),.string (str f.2.2.2.2.1),.int .i64 f.2.2.2.2.2.1.1,.int .i64 f.2.2.2.2.2.1.2.1,.int .i64 f.2.2.2.2.2.1.2.2.1,.slice a8 f.2.2.2.2.2.1.2.2.2.1.length bk,.slice a9 f.2.2.2.2.2.1.2.2.2.2.1.length bc,.slice c6 f.2.2.2.2.2.2.1.length bB,.slice cQ f.2.2.2.2.2.2.2.1.1.length bG,.slice cR f.2.2.2.2.2.2.2.1.2.1.length bD,aT f.2.2.2.2.2.2.2.2.1.1,.slice cS f.2.2.2.2.2.2.2.2.1.2.1.length bE,.slice cT f.2.2.2.2.2.2.2.2.1.2.2.1.length bF,.slice b_ f.2.2.2.2.2.2.2.2.1.2.2.2.1.length bn,.slice dV f.2.2.2.2.2.2.2.2.2.1.length cx,.int .i64 0,.int .i64 0,.int .i64 0,.slice none 0 0,.slice none 0 0,.int .i64 0,.int .i64 0,.int .i64 0,.slice none 0 0,.slice none 0 0,.int .i64 f.2.2.2.2.2.2.2.2.2.2.2.1],ck.lp,h2⟩)
theorem abF {x:dD}:x=dL↔x.1=0∧x.2.1=0∧x.2.2.1=0∧x.2.2.2.1.length+x.2.2.2.2.1.length=0:=by
 obtain ⟨a,b,c,d,f,⟨⟩⟩:=x;unfold dL
 constructor
 ·intro h
  simp only [Prod.mk.injEq] at h;obtain ⟨rfl,rfl,rfl,rfl,rfl,_⟩:=h;exact ⟨rfl,rfl,rfl,rfl⟩
 ·rintro ⟨h1,h2,h3,h4⟩
  simp only at h1 h2 h3 h4;have e1:d=[]:=List.length_eq_zero_iff.1 ai;have e2:f=[]:=List.length_eq_zero_iff.1 ai;subst h1 h2 h3 e1 e2;rfl
theorem yy {r:Fr} {va:Value} {xs:List dD} (ha:av bx r va xs) (ho:∀ x∈xs,pz c4 x):aj prog 109 #[va] r [] (aF fun v aa=>v=.bool (decide (∀ x∈xs,x=dL))∧aa=[]):=by
 obtain ⟨a1,c1,rfl⟩:=ha.shape;refine aj.o func109 fun g hg R hR=>?_;have ha:=ha.mono hg;have hbd:=ha.bound;refine U 12 ?_;refine S.ev (ι:=Nat) (fun k=>k≤xs.length∧∀ x∈xs.take k,x=dL) (fun k=>[(7,.int .i64 (k:Int))]) [(5,_),(6,_)] (fun k=>[]) (fun k=>xs.length - k) (0) (by exact ⟨by omega,by simp⟩) aO aO rfl fun k hx ih=>?_;have aW:=bS (g:=g);obtain ⟨hx1,b8⟩:=hx;refine U 5 ?_;refine S.cd rfl (fun h8=>?_) fun h8=>?_
 ·have hk:k<xs.length:=by omega
  have k_:=ho _ (List.getElem_mem hk);have rU:=k_.1;have o3:=k_.2;unfold c4 at rU o3;have hmem:=List.getElem_mem hk;have Vp:xs[k]=dL→∀ x∈xs.take (k+1),x=dL:=fun q x hx=>by
   rw [j9 hk] at hx
   rcases List.mem_append.1 hx with hx|hx
   ·exact b8 x hx
   ·exact (List.mem_singleton.1 hx).trans q
  have hnot:xs[k]≠dL→decide (∀ x∈xs,x=dL)=false:=fun q=>aA fun w=>q (w _ hmem);have eN:=abF (x:=xs[k]);refine U 5 ?_;refine O.dI (ha) (h:=fun b7 afO Ho Wv=>?_);obtain ⟨q6,Bd,d3,d4,rfl,k0,k1,k2,aI,fo⟩:=bx.sh Wv;refine O.op (.p rfl) (.aJ isAgg27 af rfl Ho) ?_;refine O.aD (.p rfl) (.alloc (cs:=[.int .i64 0,.int .i64 0,.int .i64 0,.slice none 0 0,.slice none 0 0]) zeroValue27 rfl) ?_;rintro _ _ ⟨b4,rfl,rfl⟩;refine U 3 ?_;generalize xs[k]=z at *;refine S.cH (b:=b4) (cs' :=[.int .i64 z.1,.int .i64 z.2.1,.int .i64 z.2.2.1,.slice q6 z.2.2.2.1.length d3,.slice Bd z.2.2.2.2.1.length d4]) an rfl ?_;refine S.cy an fun g hs hm h4=>?_;replace hg:=bf hg hs;replace hR:=a_ hR hm
  try replace ha:=ha.mono hs
  try replace Ho:=Ho.mono hs
  replace aW:=eT aW hm;clear hs hm
  by_cases q0:z.1=0
  ·skip
   by_cases q1:z.2.1=0
   ·skip
    by_cases bg:z.2.2.1=0
    ·skip
     by_cases ei:z.2.2.2.1.length+z.2.2.2.2.1.length=0
     ·skip
      refine U 4 ?_;refine O.aB 13 rfl (by exact aA ai)<|U 4 ?_;refine O.aB 17 rfl (by exact aA ai)<|U 5 ?_;refine O.aB 22 rfl (by exact aA ai)<|U 10 ?_;refine O.aB 32 rfl (by exact aA ai)<|U 9 ?_;exact S.jo aW (S.cF (ih (k+1) (by exact ⟨by omega,Vp (eN.2 ⟨q0,q1,bg,ei⟩)⟩) ai))
     ·
      refine U 4 ?_;refine O.aB 13 rfl (by exact aA ai)<|U 4 ?_;refine O.aB 17 rfl (by exact aA ai)<|U 5 ?_;refine O.aB 22 rfl (by exact aA ai)<|U 10 ?_;refine O.sT 32 rfl (by exact zdt ai)<|U 7 ?_;exact S.rt results109 rfl hR ⟨congrArg Value.bool (hnot fun w=>ei (eN.1 w).2.2.2).symm,rfl⟩
    ·
     refine U 4 ?_;refine O.aB 13 rfl (by exact aA ai)<|U 4 ?_;refine O.aB 17 rfl (by exact aA ai)<|U 5 ?_;refine O.sT 22 rfl (by exact zdt ai)<|U 17 ?_;exact S.rt results109 rfl hR ⟨congrArg Value.bool (hnot fun w=>bg (eN.1 w).2.2.1).symm,rfl⟩
   ·
    refine U 4 ?_;refine O.aB 13 rfl (by exact aA ai)<|U 4 ?_;refine O.sT 17 rfl (by exact zdt ai)<|U 22 ?_;exact S.rt results109 rfl hR ⟨congrArg Value.bool (hnot fun w=>q1 (eN.1 w).2.1).symm,rfl⟩
  ·
   refine U 4 ?_;refine O.sT 13 rfl (by exact zdt ai)<|U 26 ?_;exact S.rt results109 rfl hR ⟨congrArg Value.bool (hnot fun w=>q0 (eN.1 w).1).symm,rfl⟩
 ·clear ih
  have hk:k=xs.length:=by omega
  rw [hk,List.take_length] at b8;refine U 5 ?_;exact S.rt results109 rfl hR ⟨congrArg Value.bool (zdt b8).symm,rfl⟩
theorem YH {f:aP} (hin:jW f.1) (hl:jD c4 f):jD c4 (gz f):=by
 obtain ⟨h1,h2,h3,h4,h5,h6,h7,h8,h9,h10,h11,h12,mh,eH,kN⟩:=hl;have eu:0≤c4:=Nat.zero_le _
 rcases hin with e|e|e|e|e|e|e|e|e
 ·rw [Iu e];exact ⟨h1,h2,h3,h4,h5,h6,h7,h8,h9,h10,h11,h12,mh,eH,kN⟩
 ·rw [Iv e];exact ⟨h1,h2,eu,eu,eu,h6,h7,h8,h9,h10,h11,h12,mh,eH,kN⟩
 ·rw [Iw e];exact ⟨h1,eu,h3,h4,h5,h6,h7,h8,h9,h10,h11,h12,mh,eH,kN⟩
 ·rw [Ix e];exact ⟨h1,eu,h3,h4,h5,h6,h7,eu,eu,⟨eu,fun _ h=>by cases h⟩,h11,h12,mh,eH,kN⟩
 ·rw [Iy e];exact ⟨h1,h2,h3,h4,h5,h6,h7,h8,h9,h10,⟨eu,fun _ h=>by cases h⟩,h12,mh,eH,kN⟩
 ·rw [Iz e];exact ⟨h1,h2,h3,h4,h5,h6,h7,h8,h9,h10,h11,h12,mh,eH,kN⟩
 ·rw [IA e];exact ⟨eu,h2,h3,h4,h5,h6,h7,h8,h9,h10,h11,h12,mh,eH,kN⟩
 ·rw [IB e];exact ⟨eu,h2,eu,eu,h5,⟨eu,fun _ h=>by cases h⟩,⟨eu,fun _ h=>by cases h⟩,h8,h9,h10,⟨eu,fun _ h=>by cases h⟩,h12,mh,eH,kN⟩
 ·rw [IC e];exact ⟨h1,h2,h3,h4,h5,h6,h7,h8,h9,h10,h11,eu,eu,eu,eu⟩
theorem EZ {r:Fr} {cs:List Value} {f:aP} (hin:jW f.1) (hf:ck.rel r cs f) (hl:jD c4 f):aj prog 45 #[.agg cs.toArray] r [] (aF fun v aa=>v=.bool (decide (f=ec f))∧aa=[]):=by
 have kr:=hf;have hok:=Yc hin;obtain ⟨a8,a9,c6,cQ,cR,cS,cT,b_,dV,dW,cY,cX,dX,bk,bc,bB,bG,bD,bE,bF,bn,cx,cn,bJ,bI,cq,rfl,p1,p2,p3,gT,gL,jb,gU,bU,b7,bO,b5,bL,bN,bP,bW,bK,ja,e5,gS,bT,b6,fp,hY,iT,cc,bX,jq⟩:=ck.sh kr;refine aj.o func45 fun g hg R hR=>?_;have hf:=hf.mono hg;refine S.seq<|S.region rfl<|O.aD (.p rfl) (.box (cs:=[_,_,_,_,_,_,_,_,_,_,_,_,_,_,_,_,_,_,_,_,_,_,_,_,_,_,_,_,_]) rfl rfl) ?_;rintro _ _ ⟨b1,rfl,rfl⟩;refine U 3 ?_;refine S.cy an fun g hs hm h1=>?_;replace hg:=bf hg hs;replace hR:=a_ hR hm
 try replace hf:=hf.mono hs
 clear hs hm;refine S.region rfl<|O.op (.p rfl) (.aJ isAgg41 af rfl h1) ?_;refine O.op (.p rfl) (.build (cs:=[_,_,_,_,_,_,_,_,_,_,_,_,_,_,_,_,_,_,_,_,_,_,_,_,_,_,_,_,_,_]) underlying129 rfl rfl rfl rfl rfl)<|O.aD (.p rfl) (.box (cs:=[_,_,_,_,_,_,_,_,_,_,_,_,_,_,_,_,_,_,_,_,_,_,_,_,_,_,_,_,_,_]) rfl rfl) ?_;rintro _ _ ⟨kG,rfl,rfl⟩;refine U 3 ?_
 refine S.cH (b:=kG) (cs' :=[aT f.1,.int .i64 f.2.1,.int .i64 f.2.2.1,.string (str f.2.2.2.1),.string (str f.2.2.2.2.1),.int .i64 f.2.2.2.2.2.1.1,.int .i64 f.2.2.2.2.2.1.2.1,.int .i64 f.2.2.2.2.2.1.2.2.1,.slice a8 f.2.2.2.2.2.1.2.2.2.1.length bk,.slice a9 f.2.2.2.2.2.1.2.2.2.2.1.length bc,.slice c6 f.2.2.2.2.2.2.1.length bB,.slice cQ f.2.2.2.2.2.2.2.1.1.length bG,.slice cR f.2.2.2.2.2.2.2.1.2.1.length bD,aT f.2.2.2.2.2.2.2.2.1.1,.slice cS f.2.2.2.2.2.2.2.2.1.2.1.length bE,.slice cT f.2.2.2.2.2.2.2.2.1.2.2.1.length bF,.slice b_ f.2.2.2.2.2.2.2.2.1.2.2.2.1.length bn,.slice dV f.2.2.2.2.2.2.2.2.2.1.length cx,.int .i64 f.2.2.2.2.2.2.2.2.2.2.1.1.1,.int .i64 f.2.2.2.2.2.2.2.2.2.2.1.1.2.1,.int .i64 f.2.2.2.2.2.2.2.2.2.2.1.1.2.2.1,.slice dW f.2.2.2.2.2.2.2.2.2.2.1.1.2.2.2.1.length cn,.slice cY f.2.2.2.2.2.2.2.2.2.2.1.1.2.2.2.2.1.length bJ,.int .i64 f.2.2.2.2.2.2.2.2.2.2.1.2.1.1,.int .i64 f.2.2.2.2.2.2.2.2.2.2.1.2.1.2.1,.int .i64 f.2.2.2.2.2.2.2.2.2.2.1.2.1.2.2.1,.slice cX f.2.2.2.2.2.2.2.2.2.2.1.2.1.2.2.2.1.length bI,.slice dX f.2.2.2.2.2.2.2.2.2.2.1.2.1.2.2.2.2.1.length cq,.int .i64 f.2.2.2.2.2.2.2.2.2.2.2.1]++[.pointer none]) an rfl ?_;refine S.aY (L:=[1,2,5,0,3,4,6]) F.mixed af ?_;refine U 2 ?_;refine ah.q 1 rfl<|ah.aN (.p rfl) af rfl af rfl rfl (AJ) ?_;rintro uf _ ⟨gF,c9,NQ,rfl,rfl,v5⟩
 refine ah.vJ (.p rfl) rfl af (fun _=>.o6 underlying137 (eI underlying25) zeroValue135 rfl rfl an) ?_;refine ah.slot 10 (v' :=o5 (mv f.1) (tJ f.1) (mu f.1)) rfl (by simp [v5,AI hin]) ?_;refine .quiet (.p rfl) rfl (fun _=>.SZ underlying135 rfl af rfl rfl)<|ah.rK (.p rfl) af rfl hok rfl rfl an (Yb hin hf) ?_;rintro adF _ ⟨rfl,cs',hf',rfl⟩;refine U 2 ?_;have hlz:=YH hin hl;have hzl:=aeU hin;generalize gz f=z at hf' hlz hzl;obtain ⟨lF,kI,Co,Cp,Cq,Cr,Cs,Ct,Cu,qv,qw,qx,qy,d8,d9,d10,d11,d12,d14,d15,d16,d17,d21,d22,d26,d27,rfl,s1,s2,q6,Bd,DR,Ps,Pt,Pu,Pv,abU,abV,abW,abX,abY,abZ,ab0,Pg,Ph,Pj,Pk,Pm,Pn,Po,Pp,Pq,Pr,ab1⟩:=ck.sh hf';obtain ⟨xH,xM,Ny,Nz,Ye,Im,Io,Yf,Yg,Ip,Iq,Nu,Nv,Nw,Nx⟩:=hlz;have Im:=Im.1;have Io:=Io.1;have Ip:=Ip.1;have Iq:=Iq.1;have o1:pz c4 z.2.2.2.2.2.1:=⟨Ny,Nz⟩;have o2:pz c4 z.2.2.2.2.2.2.2.2.2.2.1.1:=⟨Nu,Nv⟩;have tR:pz c4 z.2.2.2.2.2.2.2.2.2.2.1.2.1:=⟨Nw,Nx⟩;have yz:∀ x∈[z.2.2.2.2.2.1,z.2.2.2.2.2.2.2.2.2.2.1.1,z.2.2.2.2.2.2.2.2.2.2.1.2.1],pz c4 x:=fun x hx=>by
  rcases List.mem_cons.1 hx with h|hx
  ·rw [h];exact o1
  rcases List.mem_cons.1 hx with h|hx
  ·rw [h];exact o2
  rw [List.mem_singleton.1 hx];exact tR
 have t1:bx.rel g.h [.int .i64 z.2.2.2.2.2.1.1,.int .i64 z.2.2.2.2.2.1.2.1,.int .i64 z.2.2.2.2.2.1.2.2.1,.slice lF z.2.2.2.2.2.1.2.2.2.1.length d8,.slice kI z.2.2.2.2.2.1.2.2.2.2.1.length d9] z.2.2.2.2.2.1:=bx.mk DR Ps Pt Pu Pv;have t2:bx.rel g.h [.int .i64 z.2.2.2.2.2.2.2.2.2.2.1.1.1,.int .i64 z.2.2.2.2.2.2.2.2.2.2.1.1.2.1,.int .i64 z.2.2.2.2.2.2.2.2.2.2.1.1.2.2.1,.slice qv z.2.2.2.2.2.2.2.2.2.2.1.1.2.2.2.1.length d21,.slice qw z.2.2.2.2.2.2.2.2.2.2.1.1.2.2.2.2.1.length d22] z.2.2.2.2.2.2.2.2.2.2.1.1:=bx.mk Pg Ph Pj Pk Pm;have t3:bx.rel g.h [.int .i64 z.2.2.2.2.2.2.2.2.2.2.1.2.1.1,.int .i64 z.2.2.2.2.2.2.2.2.2.2.1.2.1.2.1,.int .i64 z.2.2.2.2.2.2.2.2.2.2.1.2.1.2.2.1,.slice qx z.2.2.2.2.2.2.2.2.2.2.1.2.1.2.2.2.1.length d26,.slice qy z.2.2.2.2.2.2.2.2.2.2.1.2.1.2.2.2.2.1.length d27] z.2.2.2.2.2.2.2.2.2.2.1.2.1:=bx.mk Pn Po Pp Pq Pr;unfold c4 at Ny Nz Ye Im Io Yf Yg Ip Iq Nu Nv Nw Nx;refine S.cy an fun g hs hm h6=>?_;replace hg:=bf hg hs;replace hR:=a_ hR hm
 try replace hf:=hf.mono hs
 try replace h1:=h1.mono hs
 try replace t1:=t1.mono hs
 try replace t2:=t2.mono hs
 try replace t3:=t3.mono hs
 clear hs hm
 by_cases lz:z.2.2.1=0
 ·skip
  by_cases p5:z.2.2.2.1=[]
  ·skip
   by_cases nO:z.2.2.2.2.1=[]
   ·skip
    by_cases u7:∀ x∈[z.2.2.2.2.2.1,z.2.2.2.2.2.2.2.2.2.2.1.1,z.2.2.2.2.2.2.2.2.2.2.1.2.1],x=dL
    ·skip
     by_cases qe:z.2.2.2.2.2.2.1.length+z.2.2.2.2.2.2.2.2.2.1.length+z.2.2.2.2.2.2.2.1.1.length+z.2.2.2.2.2.2.2.1.2.1.length=0
     ·skip
      by_cases yD:z.2.2.2.2.2.2.2.2.1.1=0
      ·skip
       by_cases OJ:z.2.2.2.2.2.2.2.2.1.2.1.length+z.2.2.2.2.2.2.2.2.1.2.2.1.length+z.2.2.2.2.2.2.2.2.1.2.2.2.1.length=0
       ·skip
        by_cases Dz:z.2.2.2.2.2.2.2.2.2.2.2.1=0
        ·skip
         refine S.aY (L:=.range 119) F.mixed af ?_;refine U 6 ?_;refine ah.sT 19 rfl (by exact zdt lz)<|U 6 ?_;refine .quiet (.g rfl rfl) rfl (fun _=>.e4 rfl rfl)<|ah.sT 26 rfl (by rw [p5];simp) ?_;refine U 7 ?_;refine .quiet (.g rfl rfl) rfl (fun _=>.e4 rfl rfl)<|ah.sT 34 rfl (by rw [nO];simp) ?_;refine U 6 ?_;refine .quiet (.g rfl rfl) rfl (fun _=>.aJ (cs:=[_,_,_,_,_]) isAgg27 af rfl ((h6.drop 5).take 5)) ?_;refine U 5 ?_;refine .quiet (.g rfl rfl) rfl (fun _=>.aJ (cs:=[_,_,_,_,_]) isAgg27 af rfl ((h6.drop 18).take 5)) ?_;refine U 5 ?_;refine .quiet (.g rfl rfl) rfl (fun _=>.aJ (cs:=[_,_,_,_,_]) isAgg27 af rfl ((h6.drop 23).take 5)) ?_
         refine ah.bw (T:=(ag.cells 5)) (ys:=[_,_,_]) (.g rfl rfl) af underlying237 uI aq rfl rfl ⟨⟨rfl,rfl,by first|(simp;done)|(intro v hv;simp [Value.cells] at hv;rcases hv with rfl|rfl<;>rfl)|(refine List.forall_mem_cons.2 ⟨rfl,?_⟩;repeat (first|exact (fun _ h=>absurd h List.not_mem_nil)|refine List.forall_mem_cons.2 ⟨rfl,?_⟩))⟩,⟨rfl,rfl,by first|(simp;done)|(intro v hv;simp [Value.cells] at hv;rcases hv with rfl|rfl<;>rfl)|(refine List.forall_mem_cons.2 ⟨rfl,?_⟩;repeat (first|exact (fun _ h=>absurd h List.not_mem_nil)|refine List.forall_mem_cons.2 ⟨rfl,?_⟩))⟩,⟨rfl,rfl,by first|(simp;done)|(intro v hv;simp [Value.cells] at hv;rcases hv with rfl|rfl<;>rfl)|(refine List.forall_mem_cons.2 ⟨rfl,?_⟩;repeat (first|exact (fun _ h=>absurd h List.not_mem_nil)|refine List.forall_mem_cons.2 ⟨rfl,?_⟩))⟩,trivial⟩ aq (fun ix iy=>?_)
         refine ah.dh (.g rfl rfl) af rfl af rfl rfl (bs:=[ak (ag.cells 5) 27 (.slice ix 3 iy) [[.int .i64 z.2.2.2.2.2.1.1,.int .i64 z.2.2.2.2.2.1.2.1,.int .i64 z.2.2.2.2.2.1.2.2.1,.slice lF z.2.2.2.2.2.1.2.2.2.1.length d8,.slice kI z.2.2.2.2.2.1.2.2.2.2.1.length d9],[.int .i64 z.2.2.2.2.2.2.2.2.2.2.1.1.1,.int .i64 z.2.2.2.2.2.2.2.2.2.2.1.1.2.1,.int .i64 z.2.2.2.2.2.2.2.2.2.2.1.1.2.2.1,.slice qv z.2.2.2.2.2.2.2.2.2.2.1.1.2.2.2.1.length d21,.slice qw z.2.2.2.2.2.2.2.2.2.2.1.1.2.2.2.2.1.length d22],[.int .i64 z.2.2.2.2.2.2.2.2.2.2.1.2.1.1,.int .i64 z.2.2.2.2.2.2.2.2.2.2.1.2.1.2.1,.int .i64 z.2.2.2.2.2.2.2.2.2.2.1.2.1.2.2.1,.slice qx z.2.2.2.2.2.2.2.2.2.2.1.2.1.2.2.2.1.length d26,.slice qy z.2.2.2.2.2.2.2.2.2.2.1.2.1.2.2.2.2.1.length d27]]]) ct (fun m hm hd=>yy (xs:=[z.2.2.2.2.2.1,z.2.2.2.2.2.2.2.2.2.2.1.1,z.2.2.2.2.2.2.2.2.2.2.1.2.1]) (av.pZ (hm.arr.right hd) ⟨bx.mono (Fr.fi _ _) t1,bx.mono (Fr.fi _ _) t2,bx.mono (Fr.fi _ _) t3,trivial⟩ rfl) yz) ?_;rintro _ _ ⟨rfl,rfl⟩;refine ah.sT 55 rfl (by exact zdt u7)<|U 32 ?_;refine ah.sT 87 rfl (by exact zdt ai)<|U 9 ?_;refine ah.sT 96 rfl (by rw [yD];rfl)<|U 26 ?_;refine ah.sT 122 rfl (by exact zdt ai)<|U 8 ?_;refine ah.sT 130 rfl (by exact zdt Dz)<|U 3 ?_
         exact S.rt results45 rfl hR ⟨congrArg Value.bool (zdt (hzl.1 ⟨lz,p5,nO,u7,qe,yD,OJ,Dz⟩)).symm,rfl⟩
        ·
         refine S.aY (L:=.range 119) F.mixed af ?_;refine U 6 ?_;refine ah.sT 19 rfl (by exact zdt lz)<|U 6 ?_;refine .quiet (.g rfl rfl) rfl (fun _=>.e4 rfl rfl)<|ah.sT 26 rfl (by rw [p5];simp) ?_;refine U 7 ?_;refine .quiet (.g rfl rfl) rfl (fun _=>.e4 rfl rfl)<|ah.sT 34 rfl (by rw [nO];simp) ?_;refine U 6 ?_;refine .quiet (.g rfl rfl) rfl (fun _=>.aJ (cs:=[_,_,_,_,_]) isAgg27 af rfl ((h6.drop 5).take 5)) ?_;refine U 5 ?_;refine .quiet (.g rfl rfl) rfl (fun _=>.aJ (cs:=[_,_,_,_,_]) isAgg27 af rfl ((h6.drop 18).take 5)) ?_;refine U 5 ?_;refine .quiet (.g rfl rfl) rfl (fun _=>.aJ (cs:=[_,_,_,_,_]) isAgg27 af rfl ((h6.drop 23).take 5)) ?_
         refine ah.bw (T:=(ag.cells 5)) (ys:=[_,_,_]) (.g rfl rfl) af underlying237 uI aq rfl rfl ⟨⟨rfl,rfl,by first|(simp;done)|(intro v hv;simp [Value.cells] at hv;rcases hv with rfl|rfl<;>rfl)|(refine List.forall_mem_cons.2 ⟨rfl,?_⟩;repeat (first|exact (fun _ h=>absurd h List.not_mem_nil)|refine List.forall_mem_cons.2 ⟨rfl,?_⟩))⟩,⟨rfl,rfl,by first|(simp;done)|(intro v hv;simp [Value.cells] at hv;rcases hv with rfl|rfl<;>rfl)|(refine List.forall_mem_cons.2 ⟨rfl,?_⟩;repeat (first|exact (fun _ h=>absurd h List.not_mem_nil)|refine List.forall_mem_cons.2 ⟨rfl,?_⟩))⟩,⟨rfl,rfl,by first|(simp;done)|(intro v hv;simp [Value.cells] at hv;rcases hv with rfl|rfl<;>rfl)|(refine List.forall_mem_cons.2 ⟨rfl,?_⟩;repeat (first|exact (fun _ h=>absurd h List.not_mem_nil)|refine List.forall_mem_cons.2 ⟨rfl,?_⟩))⟩,trivial⟩ aq (fun ix iy=>?_)
         refine ah.dh (.g rfl rfl) af rfl af rfl rfl (bs:=[ak (ag.cells 5) 27 (.slice ix 3 iy) [[.int .i64 z.2.2.2.2.2.1.1,.int .i64 z.2.2.2.2.2.1.2.1,.int .i64 z.2.2.2.2.2.1.2.2.1,.slice lF z.2.2.2.2.2.1.2.2.2.1.length d8,.slice kI z.2.2.2.2.2.1.2.2.2.2.1.length d9],[.int .i64 z.2.2.2.2.2.2.2.2.2.2.1.1.1,.int .i64 z.2.2.2.2.2.2.2.2.2.2.1.1.2.1,.int .i64 z.2.2.2.2.2.2.2.2.2.2.1.1.2.2.1,.slice qv z.2.2.2.2.2.2.2.2.2.2.1.1.2.2.2.1.length d21,.slice qw z.2.2.2.2.2.2.2.2.2.2.1.1.2.2.2.2.1.length d22],[.int .i64 z.2.2.2.2.2.2.2.2.2.2.1.2.1.1,.int .i64 z.2.2.2.2.2.2.2.2.2.2.1.2.1.2.1,.int .i64 z.2.2.2.2.2.2.2.2.2.2.1.2.1.2.2.1,.slice qx z.2.2.2.2.2.2.2.2.2.2.1.2.1.2.2.2.1.length d26,.slice qy z.2.2.2.2.2.2.2.2.2.2.1.2.1.2.2.2.2.1.length d27]]]) ct (fun m hm hd=>yy (xs:=[z.2.2.2.2.2.1,z.2.2.2.2.2.2.2.2.2.2.1.1,z.2.2.2.2.2.2.2.2.2.2.1.2.1]) (av.pZ (hm.arr.right hd) ⟨bx.mono (Fr.fi _ _) t1,bx.mono (Fr.fi _ _) t2,bx.mono (Fr.fi _ _) t3,trivial⟩ rfl) yz) ?_;rintro _ _ ⟨rfl,rfl⟩;refine ah.sT 55 rfl (by exact zdt u7)<|U 32 ?_;refine ah.sT 87 rfl (by exact zdt ai)<|U 9 ?_;refine ah.sT 96 rfl (by rw [yD];rfl)<|U 26 ?_;refine ah.sT 122 rfl (by exact zdt ai)<|U 8 ?_;refine ah.aB 130 rfl (by exact aA Dz)<|U 3 ?_
         exact S.rt results45 rfl hR ⟨congrArg Value.bool (aA fun w=>Dz (hzl.2 w).2.2.2.2.2.2.2).symm,rfl⟩
       ·
        refine S.aY (L:=.range 119) F.mixed af ?_;refine U 6 ?_;refine ah.sT 19 rfl (by exact zdt lz)<|U 6 ?_;refine .quiet (.g rfl rfl) rfl (fun _=>.e4 rfl rfl)<|ah.sT 26 rfl (by rw [p5];simp) ?_;refine U 7 ?_;refine .quiet (.g rfl rfl) rfl (fun _=>.e4 rfl rfl)<|ah.sT 34 rfl (by rw [nO];simp) ?_;refine U 6 ?_;refine .quiet (.g rfl rfl) rfl (fun _=>.aJ (cs:=[_,_,_,_,_]) isAgg27 af rfl ((h6.drop 5).take 5)) ?_;refine U 5 ?_;refine .quiet (.g rfl rfl) rfl (fun _=>.aJ (cs:=[_,_,_,_,_]) isAgg27 af rfl ((h6.drop 18).take 5)) ?_;refine U 5 ?_;refine .quiet (.g rfl rfl) rfl (fun _=>.aJ (cs:=[_,_,_,_,_]) isAgg27 af rfl ((h6.drop 23).take 5)) ?_
        refine ah.bw (T:=(ag.cells 5)) (ys:=[_,_,_]) (.g rfl rfl) af underlying237 uI aq rfl rfl ⟨⟨rfl,rfl,by first|(simp;done)|(intro v hv;simp [Value.cells] at hv;rcases hv with rfl|rfl<;>rfl)|(refine List.forall_mem_cons.2 ⟨rfl,?_⟩;repeat (first|exact (fun _ h=>absurd h List.not_mem_nil)|refine List.forall_mem_cons.2 ⟨rfl,?_⟩))⟩,⟨rfl,rfl,by first|(simp;done)|(intro v hv;simp [Value.cells] at hv;rcases hv with rfl|rfl<;>rfl)|(refine List.forall_mem_cons.2 ⟨rfl,?_⟩;repeat (first|exact (fun _ h=>absurd h List.not_mem_nil)|refine List.forall_mem_cons.2 ⟨rfl,?_⟩))⟩,⟨rfl,rfl,by first|(simp;done)|(intro v hv;simp [Value.cells] at hv;rcases hv with rfl|rfl<;>rfl)|(refine List.forall_mem_cons.2 ⟨rfl,?_⟩;repeat (first|exact (fun _ h=>absurd h List.not_mem_nil)|refine List.forall_mem_cons.2 ⟨rfl,?_⟩))⟩,trivial⟩ aq (fun ix iy=>?_)
        refine ah.dh (.g rfl rfl) af rfl af rfl rfl (bs:=[ak (ag.cells 5) 27 (.slice ix 3 iy) [[.int .i64 z.2.2.2.2.2.1.1,.int .i64 z.2.2.2.2.2.1.2.1,.int .i64 z.2.2.2.2.2.1.2.2.1,.slice lF z.2.2.2.2.2.1.2.2.2.1.length d8,.slice kI z.2.2.2.2.2.1.2.2.2.2.1.length d9],[.int .i64 z.2.2.2.2.2.2.2.2.2.2.1.1.1,.int .i64 z.2.2.2.2.2.2.2.2.2.2.1.1.2.1,.int .i64 z.2.2.2.2.2.2.2.2.2.2.1.1.2.2.1,.slice qv z.2.2.2.2.2.2.2.2.2.2.1.1.2.2.2.1.length d21,.slice qw z.2.2.2.2.2.2.2.2.2.2.1.1.2.2.2.2.1.length d22],[.int .i64 z.2.2.2.2.2.2.2.2.2.2.1.2.1.1,.int .i64 z.2.2.2.2.2.2.2.2.2.2.1.2.1.2.1,.int .i64 z.2.2.2.2.2.2.2.2.2.2.1.2.1.2.2.1,.slice qx z.2.2.2.2.2.2.2.2.2.2.1.2.1.2.2.2.1.length d26,.slice qy z.2.2.2.2.2.2.2.2.2.2.1.2.1.2.2.2.2.1.length d27]]]) ct (fun m hm hd=>yy (xs:=[z.2.2.2.2.2.1,z.2.2.2.2.2.2.2.2.2.2.1.1,z.2.2.2.2.2.2.2.2.2.2.1.2.1]) (av.pZ (hm.arr.right hd) ⟨bx.mono (Fr.fi _ _) t1,bx.mono (Fr.fi _ _) t2,bx.mono (Fr.fi _ _) t3,trivial⟩ rfl) yz) ?_;rintro _ _ ⟨rfl,rfl⟩;refine ah.sT 55 rfl (by exact zdt u7)<|U 32 ?_;refine ah.sT 87 rfl (by exact zdt ai)<|U 9 ?_;refine ah.sT 96 rfl (by rw [yD];rfl)<|U 26 ?_;refine ah.aB 122 rfl (by exact aA ai)<|U 11 ?_;exact S.rt results45 rfl hR ⟨congrArg Value.bool (aA fun w=>OJ (hzl.2 w).2.2.2.2.2.2.1).symm,rfl⟩
      ·
       refine S.aY (L:=.range 119) F.mixed af ?_;refine U 6 ?_;refine ah.sT 19 rfl (by exact zdt lz)<|U 6 ?_;refine .quiet (.g rfl rfl) rfl (fun _=>.e4 rfl rfl)<|ah.sT 26 rfl (by rw [p5];simp) ?_;refine U 7 ?_;refine .quiet (.g rfl rfl) rfl (fun _=>.e4 rfl rfl)<|ah.sT 34 rfl (by rw [nO];simp) ?_;refine U 6 ?_;refine .quiet (.g rfl rfl) rfl (fun _=>.aJ (cs:=[_,_,_,_,_]) isAgg27 af rfl ((h6.drop 5).take 5)) ?_;refine U 5 ?_;refine .quiet (.g rfl rfl) rfl (fun _=>.aJ (cs:=[_,_,_,_,_]) isAgg27 af rfl ((h6.drop 18).take 5)) ?_;refine U 5 ?_;refine .quiet (.g rfl rfl) rfl (fun _=>.aJ (cs:=[_,_,_,_,_]) isAgg27 af rfl ((h6.drop 23).take 5)) ?_
       refine ah.bw (T:=(ag.cells 5)) (ys:=[_,_,_]) (.g rfl rfl) af underlying237 uI aq rfl rfl ⟨⟨rfl,rfl,by first|(simp;done)|(intro v hv;simp [Value.cells] at hv;rcases hv with rfl|rfl<;>rfl)|(refine List.forall_mem_cons.2 ⟨rfl,?_⟩;repeat (first|exact (fun _ h=>absurd h List.not_mem_nil)|refine List.forall_mem_cons.2 ⟨rfl,?_⟩))⟩,⟨rfl,rfl,by first|(simp;done)|(intro v hv;simp [Value.cells] at hv;rcases hv with rfl|rfl<;>rfl)|(refine List.forall_mem_cons.2 ⟨rfl,?_⟩;repeat (first|exact (fun _ h=>absurd h List.not_mem_nil)|refine List.forall_mem_cons.2 ⟨rfl,?_⟩))⟩,⟨rfl,rfl,by first|(simp;done)|(intro v hv;simp [Value.cells] at hv;rcases hv with rfl|rfl<;>rfl)|(refine List.forall_mem_cons.2 ⟨rfl,?_⟩;repeat (first|exact (fun _ h=>absurd h List.not_mem_nil)|refine List.forall_mem_cons.2 ⟨rfl,?_⟩))⟩,trivial⟩ aq (fun ix iy=>?_)
       refine ah.dh (.g rfl rfl) af rfl af rfl rfl (bs:=[ak (ag.cells 5) 27 (.slice ix 3 iy) [[.int .i64 z.2.2.2.2.2.1.1,.int .i64 z.2.2.2.2.2.1.2.1,.int .i64 z.2.2.2.2.2.1.2.2.1,.slice lF z.2.2.2.2.2.1.2.2.2.1.length d8,.slice kI z.2.2.2.2.2.1.2.2.2.2.1.length d9],[.int .i64 z.2.2.2.2.2.2.2.2.2.2.1.1.1,.int .i64 z.2.2.2.2.2.2.2.2.2.2.1.1.2.1,.int .i64 z.2.2.2.2.2.2.2.2.2.2.1.1.2.2.1,.slice qv z.2.2.2.2.2.2.2.2.2.2.1.1.2.2.2.1.length d21,.slice qw z.2.2.2.2.2.2.2.2.2.2.1.1.2.2.2.2.1.length d22],[.int .i64 z.2.2.2.2.2.2.2.2.2.2.1.2.1.1,.int .i64 z.2.2.2.2.2.2.2.2.2.2.1.2.1.2.1,.int .i64 z.2.2.2.2.2.2.2.2.2.2.1.2.1.2.2.1,.slice qx z.2.2.2.2.2.2.2.2.2.2.1.2.1.2.2.2.1.length d26,.slice qy z.2.2.2.2.2.2.2.2.2.2.1.2.1.2.2.2.2.1.length d27]]]) ct (fun m hm hd=>yy (xs:=[z.2.2.2.2.2.1,z.2.2.2.2.2.2.2.2.2.2.1.1,z.2.2.2.2.2.2.2.2.2.2.1.2.1]) (av.pZ (hm.arr.right hd) ⟨bx.mono (Fr.fi _ _) t1,bx.mono (Fr.fi _ _) t2,bx.mono (Fr.fi _ _) t3,trivial⟩ rfl) yz) ?_;rintro _ _ ⟨rfl,rfl⟩;refine ah.sT 55 rfl (by exact zdt u7)<|U 32 ?_;refine ah.sT 87 rfl (by exact zdt ai)<|U 9 ?_;refine ah.aB 96 rfl (by exact aA (fun w=>yD (fk (b:=0).1 w))) ?_;refine U 37 ?_;exact S.rt results45 rfl hR ⟨congrArg Value.bool (aA fun w=>yD (hzl.2 w).2.2.2.2.2.1).symm,rfl⟩
     ·
      refine S.aY (L:=.range 119) F.mixed af ?_;refine U 6 ?_;refine ah.sT 19 rfl (by exact zdt lz)<|U 6 ?_;refine .quiet (.g rfl rfl) rfl (fun _=>.e4 rfl rfl)<|ah.sT 26 rfl (by rw [p5];simp) ?_;refine U 7 ?_;refine .quiet (.g rfl rfl) rfl (fun _=>.e4 rfl rfl)<|ah.sT 34 rfl (by rw [nO];simp) ?_;refine U 6 ?_;refine .quiet (.g rfl rfl) rfl (fun _=>.aJ (cs:=[_,_,_,_,_]) isAgg27 af rfl ((h6.drop 5).take 5)) ?_;refine U 5 ?_;refine .quiet (.g rfl rfl) rfl (fun _=>.aJ (cs:=[_,_,_,_,_]) isAgg27 af rfl ((h6.drop 18).take 5)) ?_;refine U 5 ?_;refine .quiet (.g rfl rfl) rfl (fun _=>.aJ (cs:=[_,_,_,_,_]) isAgg27 af rfl ((h6.drop 23).take 5)) ?_
      refine ah.bw (T:=(ag.cells 5)) (ys:=[_,_,_]) (.g rfl rfl) af underlying237 uI aq rfl rfl ⟨⟨rfl,rfl,by first|(simp;done)|(intro v hv;simp [Value.cells] at hv;rcases hv with rfl|rfl<;>rfl)|(refine List.forall_mem_cons.2 ⟨rfl,?_⟩;repeat (first|exact (fun _ h=>absurd h List.not_mem_nil)|refine List.forall_mem_cons.2 ⟨rfl,?_⟩))⟩,⟨rfl,rfl,by first|(simp;done)|(intro v hv;simp [Value.cells] at hv;rcases hv with rfl|rfl<;>rfl)|(refine List.forall_mem_cons.2 ⟨rfl,?_⟩;repeat (first|exact (fun _ h=>absurd h List.not_mem_nil)|refine List.forall_mem_cons.2 ⟨rfl,?_⟩))⟩,⟨rfl,rfl,by first|(simp;done)|(intro v hv;simp [Value.cells] at hv;rcases hv with rfl|rfl<;>rfl)|(refine List.forall_mem_cons.2 ⟨rfl,?_⟩;repeat (first|exact (fun _ h=>absurd h List.not_mem_nil)|refine List.forall_mem_cons.2 ⟨rfl,?_⟩))⟩,trivial⟩ aq (fun ix iy=>?_)
      refine ah.dh (.g rfl rfl) af rfl af rfl rfl (bs:=[ak (ag.cells 5) 27 (.slice ix 3 iy) [[.int .i64 z.2.2.2.2.2.1.1,.int .i64 z.2.2.2.2.2.1.2.1,.int .i64 z.2.2.2.2.2.1.2.2.1,.slice lF z.2.2.2.2.2.1.2.2.2.1.length d8,.slice kI z.2.2.2.2.2.1.2.2.2.2.1.length d9],[.int .i64 z.2.2.2.2.2.2.2.2.2.2.1.1.1,.int .i64 z.2.2.2.2.2.2.2.2.2.2.1.1.2.1,.int .i64 z.2.2.2.2.2.2.2.2.2.2.1.1.2.2.1,.slice qv z.2.2.2.2.2.2.2.2.2.2.1.1.2.2.2.1.length d21,.slice qw z.2.2.2.2.2.2.2.2.2.2.1.1.2.2.2.2.1.length d22],[.int .i64 z.2.2.2.2.2.2.2.2.2.2.1.2.1.1,.int .i64 z.2.2.2.2.2.2.2.2.2.2.1.2.1.2.1,.int .i64 z.2.2.2.2.2.2.2.2.2.2.1.2.1.2.2.1,.slice qx z.2.2.2.2.2.2.2.2.2.2.1.2.1.2.2.2.1.length d26,.slice qy z.2.2.2.2.2.2.2.2.2.2.1.2.1.2.2.2.2.1.length d27]]]) ct (fun m hm hd=>yy (xs:=[z.2.2.2.2.2.1,z.2.2.2.2.2.2.2.2.2.2.1.1,z.2.2.2.2.2.2.2.2.2.2.1.2.1]) (av.pZ (hm.arr.right hd) ⟨bx.mono (Fr.fi _ _) t1,bx.mono (Fr.fi _ _) t2,bx.mono (Fr.fi _ _) t3,trivial⟩ rfl) yz) ?_;rintro _ _ ⟨rfl,rfl⟩;refine ah.sT 55 rfl (by exact zdt u7)<|U 32 ?_;refine ah.aB 87 rfl (by exact aA ai)<|U 46 ?_;exact S.rt results45 rfl hR ⟨congrArg Value.bool (aA fun w=>qe (hzl.2 w).2.2.2.2.1).symm,rfl⟩
    ·
     refine S.aY (L:=.range 119) F.mixed af ?_;refine U 6 ?_;refine ah.sT 19 rfl (by exact zdt lz)<|U 6 ?_;refine .quiet (.g rfl rfl) rfl (fun _=>.e4 rfl rfl)<|ah.sT 26 rfl (by rw [p5];simp) ?_;refine U 7 ?_;refine .quiet (.g rfl rfl) rfl (fun _=>.e4 rfl rfl)<|ah.sT 34 rfl (by rw [nO];simp) ?_;refine U 6 ?_;refine .quiet (.g rfl rfl) rfl (fun _=>.aJ (cs:=[_,_,_,_,_]) isAgg27 af rfl ((h6.drop 5).take 5)) ?_;refine U 5 ?_;refine .quiet (.g rfl rfl) rfl (fun _=>.aJ (cs:=[_,_,_,_,_]) isAgg27 af rfl ((h6.drop 18).take 5)) ?_;refine U 5 ?_;refine .quiet (.g rfl rfl) rfl (fun _=>.aJ (cs:=[_,_,_,_,_]) isAgg27 af rfl ((h6.drop 23).take 5)) ?_
     refine ah.bw (T:=(ag.cells 5)) (ys:=[_,_,_]) (.g rfl rfl) af underlying237 uI aq rfl rfl ⟨⟨rfl,rfl,by first|(simp;done)|(intro v hv;simp [Value.cells] at hv;rcases hv with rfl|rfl<;>rfl)|(refine List.forall_mem_cons.2 ⟨rfl,?_⟩;repeat (first|exact (fun _ h=>absurd h List.not_mem_nil)|refine List.forall_mem_cons.2 ⟨rfl,?_⟩))⟩,⟨rfl,rfl,by first|(simp;done)|(intro v hv;simp [Value.cells] at hv;rcases hv with rfl|rfl<;>rfl)|(refine List.forall_mem_cons.2 ⟨rfl,?_⟩;repeat (first|exact (fun _ h=>absurd h List.not_mem_nil)|refine List.forall_mem_cons.2 ⟨rfl,?_⟩))⟩,⟨rfl,rfl,by first|(simp;done)|(intro v hv;simp [Value.cells] at hv;rcases hv with rfl|rfl<;>rfl)|(refine List.forall_mem_cons.2 ⟨rfl,?_⟩;repeat (first|exact (fun _ h=>absurd h List.not_mem_nil)|refine List.forall_mem_cons.2 ⟨rfl,?_⟩))⟩,trivial⟩ aq (fun ix iy=>?_)
     refine ah.dh (.g rfl rfl) af rfl af rfl rfl (bs:=[ak (ag.cells 5) 27 (.slice ix 3 iy) [[.int .i64 z.2.2.2.2.2.1.1,.int .i64 z.2.2.2.2.2.1.2.1,.int .i64 z.2.2.2.2.2.1.2.2.1,.slice lF z.2.2.2.2.2.1.2.2.2.1.length d8,.slice kI z.2.2.2.2.2.1.2.2.2.2.1.length d9],[.int .i64 z.2.2.2.2.2.2.2.2.2.2.1.1.1,.int .i64 z.2.2.2.2.2.2.2.2.2.2.1.1.2.1,.int .i64 z.2.2.2.2.2.2.2.2.2.2.1.1.2.2.1,.slice qv z.2.2.2.2.2.2.2.2.2.2.1.1.2.2.2.1.length d21,.slice qw z.2.2.2.2.2.2.2.2.2.2.1.1.2.2.2.2.1.length d22],[.int .i64 z.2.2.2.2.2.2.2.2.2.2.1.2.1.1,.int .i64 z.2.2.2.2.2.2.2.2.2.2.1.2.1.2.1,.int .i64 z.2.2.2.2.2.2.2.2.2.2.1.2.1.2.2.1,.slice qx z.2.2.2.2.2.2.2.2.2.2.1.2.1.2.2.2.1.length d26,.slice qy z.2.2.2.2.2.2.2.2.2.2.1.2.1.2.2.2.2.1.length d27]]]) ct (fun m hm hd=>yy (xs:=[z.2.2.2.2.2.1,z.2.2.2.2.2.2.2.2.2.2.1.1,z.2.2.2.2.2.2.2.2.2.2.1.2.1]) (av.pZ (hm.arr.right hd) ⟨bx.mono (Fr.fi _ _) t1,bx.mono (Fr.fi _ _) t2,bx.mono (Fr.fi _ _) t3,trivial⟩ rfl) yz) ?_;rintro _ _ ⟨rfl,rfl⟩;refine ah.aB 55 rfl (by exact aA u7)<|U 78 ?_;exact S.rt results45 rfl hR ⟨congrArg Value.bool (aA fun w=>u7 (hzl.2 w).2.2.2.1).symm,rfl⟩
   ·
    refine S.aY (L:=.range 119) F.mixed af ?_;refine U 6 ?_;refine ah.sT 19 rfl (by exact zdt lz)<|U 6 ?_;refine .quiet (.g rfl rfl) rfl (fun _=>.e4 rfl rfl)<|ah.sT 26 rfl (by rw [p5];simp) ?_;refine U 7 ?_;refine .quiet (.g rfl rfl) rfl (fun _=>.e4 rfl rfl)<|ah.aB 34 rfl (by exact aA (fun q=>nO (eO q))) ?_;refine U 99 ?_;exact S.rt results45 rfl hR ⟨congrArg Value.bool (aA fun w=>nO (hzl.2 w).2.2.1).symm,rfl⟩
  ·
   refine S.aY (L:=.range 119) F.mixed af ?_;refine U 6 ?_;refine ah.sT 19 rfl (by exact zdt lz)<|U 6 ?_;refine .quiet (.g rfl rfl) rfl (fun _=>.e4 rfl rfl)<|ah.aB 26 rfl (by exact aA (fun q=>p5 (eO q))) ?_;refine U 107 ?_;exact S.rt results45 rfl hR ⟨congrArg Value.bool (aA fun w=>p5 (hzl.2 w).2.1).symm,rfl⟩
 ·
  refine S.aY (L:=.range 119) F.mixed af ?_;refine U 6 ?_;refine ah.aB 19 rfl (by exact aA lz)<|U 114 ?_;exact S.rt results45 rfl hR ⟨congrArg Value.bool (aA fun w=>lz (hzl.2 w).1).symm,rfl⟩
theorem adg {g:bp} {be bY:Nat} {x:Value} {z:Int} {dP d_:TypeId} {w:World} {R:Ending→World→Prop} {aa:List az} (hw:ax w g (obj bY dP [x]::obj be d_ [.int .i64 z]::aa)) (hR:∀ w,ax w g (obj bY dP [x]::obj be d_ [.int .i64 z]::aa)→R (.returned (.tuple #[x,.int .i64 z])) w) :
  CallsD prog 108 #[.pointer (some ⟨be,0,none⟩),.pointer (some ⟨bY,0,none⟩)] .returning w (qj prog g bY be 22 39 R):=by
 refine (n9 (R:=fun e w=>(∃ v,e=.returned v)∧ax w g (obj bY dP [x]::obj be d_ [.int .i64 z]::aa)) [.pointer (some ⟨be,0,none⟩),.pointer (some ⟨bY,0,none⟩)] rfl func108 rfl rfl rfl rfl hw ?_).mono ?_
 rotate_left
 ·rintro e u' w' ⟨rfl,⟨v,rfl⟩,h⟩
  exact ⟨⟨v,rfl⟩,rfl,dP,d_,_,_,_,_,aa,h,gi.flat k7,gi.flat qA,hR w' h⟩
 refine S.seq<|S.region rfl<|O.q 1 rfl<|O.op (.p rfl) (.wG underlying20 rfl)<|O.nil<|S.pK rfl<|S.skip<|S.gl results108 fun w hw=>?_;exact ⟨⟨_,rfl⟩,hw⟩
theorem adf {g:bp} {be bY:Nat} {x:Value} {z z' :Int} {dP d_:TypeId} {w:World} {R:Ending→World→Prop} {aa:List az} (hw:ax w g (obj bY dP [x]::obj be d_ [.int .i64 z']::aa))
  (hR:∀ w,ax w g (obj bY dP [.slice none 0 0]::obj be d_ [.int .i64 z]::aa)→R (.returned (.tuple #[.slice none 0 0,.int .i64 z])) w) :
  CallsD prog 108 #[.pointer (some ⟨be,0,none⟩),.pointer (some ⟨bY,0,none⟩)] (.panicking (fJ 39 z)) w (qj prog g bY be 22 39 R):=by
 refine (n9 (R:=fun e w=>(∃ v,e=.returned v)∧ax w g (obj bY dP [.slice none 0 0]::obj be d_ [.int .i64 z]::aa)) [.pointer (some ⟨be,0,none⟩),.pointer (some ⟨bY,0,none⟩)] rfl func108 rfl rfl rfl rfl hw ?_).mono ?_
 rotate_left
 ·rintro e u' w' ⟨rfl,⟨v,rfl⟩,h⟩
  exact ⟨⟨v,rfl⟩,rfl,dP,d_,_,_,_,_,aa,h,gi.flat k7,gi.flat qA,hR w' h⟩
 refine U 3 ?_;refine O.op (.p rfl) (.wH underlying20 rfl)<|U 10 ?_;refine O.op (.p rfl) (.vE underlying39 rfl)<|U 20 ?_;refine O.nil<|S.gl results108 fun w hw=>?_;exact ⟨⟨_,rfl⟩,hw.jr aC⟩
theorem ade {r:Fr} {f:Nat} {first cap:Array Value} {K:Value→List az→Prop} {X:Int→Prop} (hc:ed prog f=true) (vW:(Value.func (.func f) first cap).oneCell' =true) (oW:∀ u ζ,K u ζ→u.oneCell' =true)
  (con:aj prog f (first++#[]++cap) r [] (dg K (fun ch aa=>∃ z,ch=fJ 39 z∧X z∧aa=[]))) :
  aj prog 43 #[.func (.func f) first cap] r [] (aF fun v aa=>(∃ u,K u aa∧v=.tuple #[u,.int .i64 0])∨(∃ z,X z∧aa=[]∧v=.tuple #[.slice none 0 0,.int .i64 z])):=by
 refine aj.of (n:=7) [.func (.func f) first cap] rfl func43 rfl rfl rfl fun g hg R hR=>?_;refine S.seq<|S.region rfl<|O.aD (.p rfl) (.alloc (cs:=[.slice none 0 0]) zeroValue22 rfl) ?_;rintro _ _ ⟨b2,rfl,rfl⟩;refine O.aD (.p rfl) (.alloc (cs:=[.int .i64 0]) zeroValue39 rfl) ?_;rintro _ _ ⟨b3,rfl,rfl⟩;refine U 4 ?_;refine O.defer rfl rfl rfl rfl<|U 4 ?_;refine O.zE (.p rfl) rfl hc rfl rfl (con.sub hg) (fun a ch au w hF hX hW=>by (obtain ⟨z,rfl,hx,rfl⟩:=hX;exact rZ results43 hF rfl rfl aH af (adf (hW.jr aC) fun w hw=>ax.end_ hR hw ⟨_,.inr ⟨z,hx,rfl,rfl⟩,aC⟩))) ?_;rintro v6 _ om;have hone:=oW _ _ om;refine O.perm (List.perm_append_comm) ?_;simp only [List.cons_append,List.nil_append];refine U 2 ?_;refine O.nil<|S.r6 fun a w hf hd hw=>?_;exact rZ results43 hf rfl rfl aH af (adg (hw.jr aC) fun w hw=>ax.end_ hR hw ⟨_,.inl ⟨_,om,rfl⟩,aC⟩)
theorem To {r:Fr} {p:Nat} {cs:List Value} {f:aP} (hp:cg r ⟨p,0,none⟩ cs) (hf:ck.rel r cs f) (hl:kD f) (aU:cg r ⟨0,0,none⟩ (cz fq)) (hK:cg r ⟨1,0,none⟩ (cz gW)) :
  aj prog 44 (#[]++#[]++#[.pointer (some ⟨p,0,none⟩)]) r [] (dg (fun v aa=>(g_ f∧(di f).length≤262144)∧∃ a c,v=.slice a (di f).length c∧aa=[ak ag.u8 5 (.slice a (di f).length c) (di f)]) (fun ch aa=>∃ z,ch=fJ 39 z∧(¬ (g_ f∧(di f).length≤262144)∧z=jj f)∧aa=[])):=by
 have kr:=hf;obtain ⟨a8,a9,c6,cQ,cR,cS,cT,b_,dV,dW,cY,cX,dX,bk,bc,bB,bG,bD,bE,bF,bn,cx,cn,bJ,bI,cq,rfl,p1,p2,p3,gT,gL,jb,gU,bU,b7,bO,b5,bL,bN,bP,bW,bK,ja,e5,gS,bT,b6,fp,hY,iT,cc,bX,jq⟩:=ck.sh kr;refine aj.of (n:=13) [.pointer (some ⟨p,0,none⟩)] rfl func44 rfl rfl rfl fun g hg R hR=>?_;have hp:=hp.mono hg;have hf:=hf.mono hg;have aU:=aU.mono hg;have hK:=hK.mono hg;have MB:¬ g_ f→jj f=4:=fun q=>by unfold jj;rw [if_neg q]
 by_cases q1:Sp.kindOk f∧0≤f.2.1∧f.2.1≤1073741824
 ·have hin:=AH q1.1
  have pP:=FX q1.1 hl
  by_cases bg:f=ec f
  ·by_cases ei:(di f).length≤262144
   ·
    refine U 6 ?_;refine O.op (.p rfl) (.aJ isAgg41 af rfl hp) ?_;refine O.cV (.p rfl) rfl af rfl rfl ((w5 hf hl aU hK)) (fun ch au w hX hW=>by (exact absurd q1 hX.1)) ?_;rintro _ _ ⟨x7,a4,bR,rfl,rfl⟩;refine U 4 ?_;refine O.op (.p rfl) (.aJ isAgg41 af rfl hp) ?_;refine O.v0 (.p rfl) rfl af rfl rfl ((EZ hin hf hl.1)) ?_;refine O.sT 6 rfl (by exact zdt bg) ?_;refine O.cV (.p rfl) rfl af rfl rfl (fD _) (fun ch au w hX hW=>by (exact absurd hX.1 aH)) ?_;rintro _ _ ⟨tf,rfl,rfl⟩;refine U 6 ?_;refine O.sT 10 rfl (by exact zdt ai) ?_;refine O.cV (.p rfl) rfl af rfl rfl (zS _ _) (fun ch au w hX hW=>by (exact absurd hX.1 aH)) ?_;rintro _ _ ⟨rR,rfl,rfl⟩;refine U 6 ?_;exact S.rt results44 rfl hR ⟨⟨⟨q1,bg⟩,ei⟩,a4,bR,rfl,rfl⟩
   ·have hn:¬ (g_ f∧(di f).length≤262144):=fun w=>ei w.2
    have hz:jj f=3:=by unfold jj;rw [if_pos ⟨q1,bg⟩,if_neg ei]
    refine U 6 ?_;refine O.op (.p rfl) (.aJ isAgg41 af rfl hp) ?_;refine O.cV (.p rfl) rfl af rfl rfl ((w5 hf hl aU hK)) (fun ch au w hX hW=>by (exact absurd q1 hX.1)) ?_;rintro _ _ ⟨x7,a4,bR,rfl,rfl⟩;refine U 4 ?_;refine O.op (.p rfl) (.aJ isAgg41 af rfl hp) ?_;refine O.v0 (.p rfl) rfl af rfl rfl ((EZ hin hf hl.1)) ?_;refine O.sT 6 rfl (by exact zdt bg) ?_;refine O.cV (.p rfl) rfl af rfl rfl (fD _) (fun ch au w hX hW=>by (exact absurd hX.1 aH)) ?_;rintro _ _ ⟨tf,rfl,rfl⟩;refine U 6 ?_;refine O.aB 10 rfl (by exact aA ai) ?_;refine O.cV (.p rfl) rfl af rfl rfl (zS _ _) (fun ch au w hX hW=>by (obtain ⟨hb,rfl,rfl⟩:=hX;exact hR _ _ w ⟨3,rfl,⟨hn,hz.symm⟩,rfl⟩ hW.fU)) ?_;rintro _ _ ⟨rR,rfl,rfl⟩;exact absurd rR aH
  ·have hn:¬ (g_ f∧(di f).length≤262144):=fun w=>bg w.1.2
   have hz:=MB fun w=>bg w.2;refine U 6 ?_;refine O.op (.p rfl) (.aJ isAgg41 af rfl hp) ?_;refine O.cV (.p rfl) rfl af rfl rfl ((w5 hf hl aU hK)) (fun ch au w hX hW=>by (exact absurd q1 hX.1)) ?_;rintro _ _ ⟨x7,a4,bR,rfl,rfl⟩;refine U 4 ?_;refine O.op (.p rfl) (.aJ isAgg41 af rfl hp) ?_;refine O.v0 (.p rfl) rfl af rfl rfl ((EZ hin hf hl.1)) ?_;refine O.aB 6 rfl (by exact aA bg) ?_;refine O.cV (.p rfl) rfl af rfl rfl (fD _) (fun ch au w hX hW=>by (obtain ⟨hb,rfl,rfl⟩:=hX;exact hR _ _ w ⟨4,rfl,⟨hn,hz.symm⟩,rfl⟩ hW.fU)) ?_;rintro _ _ ⟨tf,rfl,rfl⟩;exact absurd tf aH
 ·have hn:¬ (g_ f∧(di f).length≤262144):=fun w=>q1 w.1.1
  have hz:=MB fun w=>q1 w.1;refine U 6 ?_;refine O.op (.p rfl) (.aJ isAgg41 af rfl hp) ?_;refine O.cV (.p rfl) rfl af rfl rfl ((w5 hf hl aU hK)) (fun ch au w hX hW=>by (obtain ⟨hb,rfl,rfl⟩:=hX;exact hR _ _ w ⟨4,rfl,⟨hn,hz.symm⟩,rfl⟩ hW.fU)) ?_;rintro _ _ ⟨x7,a4,bR,rfl,rfl⟩;exact absurd x7 q1
theorem Tp {r:Fr} {p:Nat} {cs:List Value} {f:aP} (hp:cg r ⟨p,0,none⟩ cs) (hf:ck.rel r cs f) (hl:kD f) (aU:cg r ⟨0,0,none⟩ (cz fq)) (hK:cg r ⟨1,0,none⟩ (cz gW)) :
  aj prog 43 #[.func (.func 44) #[] #[.pointer (some ⟨p,0,none⟩)]] r [] (aF fun v aa=>∃ a c,v=.tuple #[.slice a (e9 f).length c,.int .i64 (jj f)]∧aa=[ak ag.u8 5 (.slice a (e9 f).length c) (e9 f)]) :=
 aj.post (ade (K:=fun v aa=>(g_ f∧(di f).length≤262144)∧∃ a c,v=.slice a (di f).length c∧aa=[ak ag.u8 5 (.slice a (di f).length c) (di f)]) (X:=fun z=>¬ (g_ f∧(di f).length≤262144)∧z=jj f) af rfl (fun u ζ h=>by obtain ⟨_,a,c,rfl,_⟩:=h;rfl) (To hp hf hl aU hK)) fun e au h w g hw=>by
  cases e with
  |returned v =>
   rcases h with ⟨y,⟨⟨h1,h2⟩,a,c,rfl,rfl⟩,rfl⟩|⟨z,⟨h1,rfl⟩,rfl,rfl⟩
   ·have e1:e9 f=di f:=by unfold e9;rw [if_pos ⟨h1,h2⟩]
    have e2:jj f=0:=by unfold jj;rw [if_pos h1,if_pos h2]
    exact ⟨_,⟨a,c,by rw [e1,e2],rfl⟩,by rw [e1];exact hw⟩
   ·have e1:e9 f=[]:=by unfold e9;rw [if_neg h1]
    exact ⟨_,⟨none,0,by rw [e1];rfl,rfl⟩,by rw [e1];exact hw.imp fun _=>q9⟩
  |panicked _=>exact h.elim
  |outgrown=>exact h.elim
theorem xZ {r:Fr} {cs:List Value} {f:aP} (hf:ck.rel r cs f) (hl:kD f) (aU:cg r ⟨0,0,none⟩ (cz fq)) (hK:cg r ⟨1,0,none⟩ (cz gW)):aj prog 15 #[.agg cs.toArray] r []
  (aF fun v aa=>∃ a c,v=.tuple #[.slice a (e9 f).length c,.int .i64 (jj f)]∧aa=[ak ag.u8 5 (.slice a (e9 f).length c) (e9 f)]):=by
 have kr:=hf;obtain ⟨a8,a9,c6,cQ,cR,cS,cT,b_,dV,dW,cY,cX,dX,bk,bc,bB,bG,bD,bE,bF,bn,cx,cn,bJ,bI,cq,rfl,p1,p2,p3,gT,gL,jb,gU,bU,b7,bO,b5,bL,bN,bP,bW,bK,ja,e5,gS,bT,b6,fp,hY,iT,cc,bX,jq⟩:=ck.sh kr;refine aj.o func15 fun g hg R hR=>?_;have hf:=hf.mono hg;have aU:=aU.mono hg;have hK:=hK.mono hg;refine S.seq<|S.region rfl<|O.aD (.p rfl) (.box (cs:=[_,_,_,_,_,_,_,_,_,_,_,_,_,_,_,_,_,_,_,_,_,_,_,_,_,_,_,_,_]) rfl rfl) ?_;rintro _ _ ⟨b1,rfl,rfl⟩;refine O.cy an fun g hs hm cK=>?_;replace hg:=bf hg hs;replace hR:=a_ hR hm
 try replace hf:=hf.mono hs
 try replace aU:=aU.mono hs
 try replace hK:=hK.mono hs
 clear hs hm;refine U 6 ?_;refine O.aN (.p rfl) rfl af rfl rfl ((Tp cK hf hl aU hK)) ?_;rintro _ _ ⟨a5,cD,rfl,rfl⟩;refine O.q 4 rfl<|O.nil<|S.kA results15 rfl rfl fun w hw=>ax.end_ hR hw ?_;exact pk ⟨a5,cD,rfl,rfl⟩
theorem SU {r:Fr} {cs:List Value} {f:aP} (hf:ck.rel r cs f) (hl:kD f) (aU:cg r ⟨0,0,none⟩ (cz fq)) (hK:cg r ⟨1,0,none⟩ (cz gW)):aj prog 21 #[.agg cs.toArray] r [] (aF fun v aa=>v=.bool (decide (jj f=0))∧aa=[]):=by
 have kr:=hf;obtain ⟨a8,a9,c6,cQ,cR,cS,cT,b_,dV,dW,cY,cX,dX,bk,bc,bB,bG,bD,bE,bF,bn,cx,cn,bJ,bI,cq,rfl,p1,p2,p3,gT,gL,jb,gU,bU,b7,bO,b5,bL,bN,bP,bW,bK,ja,e5,gS,bT,b6,fp,hY,iT,cc,bX,jq⟩:=ck.sh kr;refine aj.o func21 fun g hg R hR=>?_;have hf:=hf.mono hg;have aU:=aU.mono hg;have hK:=hK.mono hg;refine S.seq<|S.region rfl<|O.aD (.p rfl) (.box (cs:=[_,_,_,_,_,_,_,_,_,_,_,_,_,_,_,_,_,_,_,_,_,_,_,_,_,_,_,_,_]) rfl rfl) ?_;rintro _ _ ⟨b1,rfl,rfl⟩;refine U 3 ?_;refine S.cy an fun g hs hm cK=>?_;replace hg:=bf hg hs;replace hR:=a_ hR hm
 try replace hf:=hf.mono hs
 try replace aU:=aU.mono hs
 try replace hK:=hK.mono hs
 clear hs hm;refine S.region rfl<|O.op (.p rfl) (.aJ isAgg41 af rfl cK) ?_;refine O.aN (.p rfl) rfl af rfl rfl ((xZ hf hl aU hK)) ?_;rintro _ _ ⟨a7,c9,rfl,rfl⟩;refine U 12 ?_;exact S.rt results21 rfl hR ⟨rfl,rfl⟩
end Go.Proofs.YtdjoggpacmpfnaaGreatDoor
