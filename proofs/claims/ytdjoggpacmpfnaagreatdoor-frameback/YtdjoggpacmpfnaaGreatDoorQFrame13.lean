/- Texts of this proof. -/
import Derived.Test.YtdjoggpacmpfnaaGreatDoorQFrame10
import Derived.Test.YtdjoggpacmpfnaaGreatDoorQSpFrm2
open Go Go.Sp Go.Proofs.Tryz
set_option maxRecDepth 100000
set_option maxHeartbeats 1000000
attribute [local irreducible] obj Own OwnP
namespace Go.Proofs.YtdjoggpacmpfnaaGreatDoor
def kputF (k:UInt8):Nat:=if k=1 then 144 else if k=2 then 147 else if k=3 then 150 else if k=4 then 153 else if k=5 then 156 else if k=6 then 159 else if k=7 then 162 else if k=8 then 165 else if k=9 then 168 else 0
def kgetF (k:UInt8):Nat:=if k=1 then 145 else if k=2 then 148 else if k=3 then 151 else if k=4 then 154 else if k=5 then 157 else if k=6 then 160 else if k=7 then 163 else if k=8 then 166 else if k=9 then 169 else 0
def klessF (k:UInt8):Nat:=if k=1 then 146 else if k=2 then 149 else if k=3 then 152 else if k=4 then 155 else if k=5 then 158 else if k=6 then 161 else if k=7 then 164 else if k=8 then 167 else if k=9 then 170 else 0
abbrev kindV (p q l:Nat):Value:=.agg #[.func (.func p) #[] #[],.func (.func q) #[] #[],.func (.func l) #[] #[]]
def InK (k:UInt8):Prop:=k=1∨k=2∨k=3∨k=4∨k=5∨k=6∨k=7∨k=8∨k=9
instance (k:UInt8):Decidable (InK k):=by unfold InK;infer_instance
def kindOf (k:UInt8):Option Value:=if k=9 then some (kindV 168 169 170) else if k=8 then some (kindV 165 166 167) else if k=7 then some (kindV 162 163 164) else if k=6 then some (kindV 159 160 161) else if k=5 then some (kindV 156 157 158) else if k=4 then some (kindV 153 154 155) else if k=3 then some (kindV 150 151 152) else if k=2 then some (kindV 147 148 149) else if k=1 then some (kindV 144 145 146) else none
theorem kind_in {k:UInt8} (h:InK k):kindOf k=some (kindV (kputF k) (kgetF k) (klessF k)):=by rcases h with h|h|h|h|h|h|h|h|h<;>(subst h;rfl)
theorem kind_out {k:UInt8} (h:¬ InK k):kindOf k=none:=by
 unfold kindOf;unfold InK at h;simp only [not_or] at h;obtain ⟨h1,h2,h3,h4,h5,h6,h7,h8,h9⟩:=h;rw [if_neg h9,if_neg h8,if_neg h7,if_neg h6,if_neg h5,if_neg h4,if_neg h3,if_neg h2,if_neg h1]
theorem kput_ok {k:UInt8} (h:InK k):callable prog (kputF k)=true:=by
 rcases h with h|h|h|h|h|h|h|h|h<;>subst h
 ·exact zB
 ·exact zB
 ·exact zB
 ·exact zB
 ·exact zB
 ·exact zB
 ·exact zB
 ·exact zB
 ·exact zB
theorem kget_ok {k:UInt8} (h:InK k):callable prog (kgetF k)=true:=by
 rcases h with h|h|h|h|h|h|h|h|h<;>subst h
 ·exact zB
 ·exact zB
 ·exact zB
 ·exact zB
 ·exact zB
 ·exact zB
 ·exact zB
 ·exact zB
 ·exact zB
theorem kless_ok {k:UInt8} (h:InK k):callable prog (klessF k)=true:=by
 rcases h with h|h|h|h|h|h|h|h|h<;>subst h
 ·exact zB
 ·exact zB
 ·exact zB
 ·exact zB
 ·exact zB
 ·exact zB
 ·exact zB
 ·exact zB
 ·exact zB
theorem kinds_c {r:Fr}:Con prog 71 #[] r [] (Ret fun v η=>∃ b c m,v=.map (some b)∧η=[MapK encB b m c]∧∀ k,getK m k=kindOf k):=by
 refine Con.o func71 fun g hg R hR=>?_;refine zz 6 ?_;refine O.opE (.p rfl) (.makeMapK' (enc:=encB)) ?_;rintro _ _ ⟨b1,rfl,rfl⟩;refine O.op (.p rfl) (.build (cs:=[_,_,_]) underlying135 rfl rfl rfl rfl rfl)<|O.opU rfl (.insertK (key:=1) underlying137 (keyOkB underlying25) rfl rfl rfl zC) ?_;refine O.op (.p rfl) (.build (cs:=[_,_,_]) underlying135 rfl rfl rfl rfl rfl)<|O.opU rfl (.insertK (key:=2) underlying137 (keyOkB underlying25) rfl rfl rfl zC) ?_;refine O.op (.p rfl) (.build (cs:=[_,_,_]) underlying135 rfl rfl rfl rfl rfl)<|O.opU rfl (.insertK (key:=3) underlying137 (keyOkB underlying25) rfl rfl rfl zC) ?_;refine O.op (.p rfl) (.build (cs:=[_,_,_]) underlying135 rfl rfl rfl rfl rfl)<|O.opU rfl (.insertK (key:=4) underlying137 (keyOkB underlying25) rfl rfl rfl zC) ?_;refine O.op (.p rfl) (.build (cs:=[_,_,_]) underlying135 rfl rfl rfl rfl rfl)<|O.opU rfl (.insertK (key:=5) underlying137 (keyOkB underlying25) rfl rfl rfl zC) ?_;refine O.op (.p rfl) (.build (cs:=[_,_,_]) underlying135 rfl rfl rfl rfl rfl)<|O.opU rfl (.insertK (key:=6) underlying137 (keyOkB underlying25) rfl rfl rfl zC) ?_;refine O.op (.p rfl) (.build (cs:=[_,_,_]) underlying135 rfl rfl rfl rfl rfl)<|O.opU rfl (.insertK (key:=7) underlying137 (keyOkB underlying25) rfl rfl rfl zC) ?_
 refine O.op (.p rfl) (.build (cs:=[_,_,_]) underlying135 rfl rfl rfl rfl rfl)<|O.opU rfl (.insertK (key:=8) underlying137 (keyOkB underlying25) rfl rfl rfl zC) ?_;refine O.op (.p rfl) (.build (cs:=[_,_,_]) underlying135 rfl rfl rfl rfl rfl)<|O.opU rfl (.insertK (key:=9) underlying137 (keyOkB underlying25) rfl rfl rfl zC) ?_;refine O.q 2 rfl<|O.nil<|S.ret results71 rfl fun w hw=>Holds.end_ hR hw ?_;refine ⟨_,⟨b1,_,_,rfl,rfl,?_⟩,zM⟩
 intro k
 simp only [getK_put];rfl
theorem kindOk_1 {f:FrmT} (e:f.1=1):Sp.kindOk f↔(0≤f.2.2.1∧f.2.2.1<4):=by
 constructor
 ·intro h
  rcases h with h|h|h|h|h|h|h|h|h
  ·exact h.2
  ·exact absurd (e.symm.trans h.1) zE
  ·exact absurd (e.symm.trans h.1) zE
  ·exact absurd (e.symm.trans h.1) zE
  ·exact absurd (e.symm.trans h.1) zE
  ·exact absurd (e.symm.trans h.1) zE
  ·exact absurd (e.symm.trans h.1) zE
  ·exact absurd (e.symm.trans h.1) zE
  ·exact absurd (e.symm.trans h.1) zE
 ·exact fun h=>.inl ⟨e,h⟩
theorem frmP_1 {f:FrmT} (e:f.1=1):frmP f=be f.2.2.1:=by unfold frmP;rw [if_pos e]
theorem kindOk_2 {f:FrmT} (e:f.1=2):Sp.kindOk f↔(rootOk f.2.2.2.2.2.1=true∧f.2.2.2.2.2.2.1.length=64):=by
 constructor
 ·intro h
  rcases h with h|h|h|h|h|h|h|h|h
  ·exact absurd (e.symm.trans h.1) zE
  ·exact h.2
  ·exact absurd (e.symm.trans h.1) zE
  ·exact absurd (e.symm.trans h.1) zE
  ·exact absurd (e.symm.trans h.1) zE
  ·exact absurd (e.symm.trans h.1) zE
  ·exact absurd (e.symm.trans h.1) zE
  ·exact absurd (e.symm.trans h.1) zE
  ·exact absurd (e.symm.trans h.1) zE
 ·exact fun h=>.inr (.inl ⟨e,h⟩)
theorem frmP_2 {f:FrmT} (e:f.1=2):frmP f=bytesOf (rootB f.2.2.2.2.2.1)++bytesOf f.2.2.2.2.2.2.1:=by unfold frmP;rw [if_neg (by rw [e];decide),if_pos e]
theorem kindOk_3 {f:FrmT} (e:f.1=3):Sp.kindOk f↔pathOk f.2.2.2.2.1:=by
 constructor
 ·intro h
  rcases h with h|h|h|h|h|h|h|h|h
  ·exact absurd (e.symm.trans h.1) zE
  ·exact absurd (e.symm.trans h.1) zE
  ·exact h.2
  ·exact absurd (e.symm.trans h.1) zE
  ·exact absurd (e.symm.trans h.1) zE
  ·exact absurd (e.symm.trans h.1) zE
  ·exact absurd (e.symm.trans h.1) zE
  ·exact absurd (e.symm.trans h.1) zE
  ·exact absurd (e.symm.trans h.1) zE
 ·exact fun h=>.inr (.inr (.inl ⟨e,h⟩))
theorem frmP_3 {f:FrmT} (e:f.1=3):frmP f=bytesOf f.2.2.2.2.1:=by unfold frmP;rw [if_neg (by rw [e];decide),if_neg (by rw [e];decide),if_pos e]
theorem kindOk_4 {f:FrmT} (e:f.1=4):Sp.kindOk f↔(pathOk f.2.2.2.2.1∧nodeOk f.2.2.2.2.2.2.2.2.1):=by
 constructor
 ·intro h
  rcases h with h|h|h|h|h|h|h|h|h
  ·exact absurd (e.symm.trans h.1) zE
  ·exact absurd (e.symm.trans h.1) zE
  ·exact absurd (e.symm.trans h.1) zE
  ·exact h.2
  ·exact absurd (e.symm.trans h.1) zE
  ·exact absurd (e.symm.trans h.1) zE
  ·exact absurd (e.symm.trans h.1) zE
  ·exact absurd (e.symm.trans h.1) zE
  ·exact absurd (e.symm.trans h.1) zE
 ·exact fun h=>.inr (.inr (.inr (.inl ⟨e,h⟩)))
theorem frmP_4 {f:FrmT} (e:f.1=4):frmP f=bytesOf f.2.2.2.2.1++nodeB f.2.2.2.2.2.2.2.2.1:=by unfold frmP;rw [if_neg (by rw [e];decide),if_neg (by rw [e];decide),if_neg (by rw [e];decide),if_pos e]
theorem kindOk_5 {f:FrmT} (e:f.1=5):Sp.kindOk f↔(∃ x,f.2.2.2.2.2.2.2.2.2.1=[x]∧recOk x=true):=by
 constructor
 ·intro h
  rcases h with h|h|h|h|h|h|h|h|h
  ·exact absurd (e.symm.trans h.1) zE
  ·exact absurd (e.symm.trans h.1) zE
  ·exact absurd (e.symm.trans h.1) zE
  ·exact absurd (e.symm.trans h.1) zE
  ·exact h.2
  ·exact absurd (e.symm.trans h.1) zE
  ·exact absurd (e.symm.trans h.1) zE
  ·exact absurd (e.symm.trans h.1) zE
  ·exact absurd (e.symm.trans h.1) zE
 ·exact fun h=>.inr (.inr (.inr (.inr (.inl ⟨e,h⟩))))
theorem frmP_5 {f:FrmT} (e:f.1=5):frmP f=bytesOf (f.2.2.2.2.2.2.2.2.2.1.map recB).flatten:=by unfold frmP;rw [if_neg (by rw [e];decide),if_neg (by rw [e];decide),if_neg (by rw [e];decide),if_neg (by rw [e];decide),if_pos e]
theorem kindOk_6 {f:FrmT} (e:f.1=6):Sp.kindOk f↔(0≤f.2.2.2.2.2.2.2.2.2.2.2.1∧f.2.2.2.2.2.2.2.2.2.2.2.1≤255):=by
 constructor
 ·intro h
  rcases h with h|h|h|h|h|h|h|h|h
  ·exact absurd (e.symm.trans h.1) zE
  ·exact absurd (e.symm.trans h.1) zE
  ·exact absurd (e.symm.trans h.1) zE
  ·exact absurd (e.symm.trans h.1) zE
  ·exact absurd (e.symm.trans h.1) zE
  ·exact h.2
  ·exact absurd (e.symm.trans h.1) zE
  ·exact absurd (e.symm.trans h.1) zE
  ·exact absurd (e.symm.trans h.1) zE
 ·exact fun h=>.inr (.inr (.inr (.inr (.inr (.inl ⟨e,h⟩)))))
theorem frmP_6 {f:FrmT} (e:f.1=6):frmP f=be f.2.2.2.2.2.2.2.2.2.2.2.1:=by unfold frmP;rw [if_neg (by rw [e];decide),if_neg (by rw [e];decide),if_neg (by rw [e];decide),if_neg (by rw [e];decide),if_neg (by rw [e];decide),if_pos e]
theorem kindOk_7 {f:FrmT} (e:f.1=7):Sp.kindOk f↔keyOk f.2.2.2.1:=by
 constructor
 ·intro h
  rcases h with h|h|h|h|h|h|h|h|h
  ·exact absurd (e.symm.trans h.1) zE
  ·exact absurd (e.symm.trans h.1) zE
  ·exact absurd (e.symm.trans h.1) zE
  ·exact absurd (e.symm.trans h.1) zE
  ·exact absurd (e.symm.trans h.1) zE
  ·exact absurd (e.symm.trans h.1) zE
  ·exact h.2
  ·exact absurd (e.symm.trans h.1) zE
  ·exact absurd (e.symm.trans h.1) zE
 ·exact fun h=>.inr (.inr (.inr (.inr (.inr (.inr (.inl ⟨e,h⟩))))))
theorem frmP_7 {f:FrmT} (e:f.1=7):frmP f=bytesOf f.2.2.2.1:=by unfold frmP;rw [if_neg (by rw [e];decide),if_neg (by rw [e];decide),if_neg (by rw [e];decide),if_neg (by rw [e];decide),if_neg (by rw [e];decide),if_neg (by rw [e];decide),if_pos e]
theorem kindOk_8 {f:FrmT} (e:f.1=8):Sp.kindOk f↔(keyOk f.2.2.2.1∧rootOk f.2.2.2.2.2.1=true∧prfOk f.2.2.2.2.2.2.2.1∧SRight f.2.2.2.2.2.2.2.2.2.1∧∀ h:0<f.2.2.2.2.2.2.2.2.2.1.length,f.2.2.2.2.2.2.2.2.2.1[0].1=f.2.2.2.1):=by
 constructor
 ·intro h
  rcases h with h|h|h|h|h|h|h|h|h
  ·exact absurd (e.symm.trans h.1) zE
  ·exact absurd (e.symm.trans h.1) zE
  ·exact absurd (e.symm.trans h.1) zE
  ·exact absurd (e.symm.trans h.1) zE
  ·exact absurd (e.symm.trans h.1) zE
  ·exact absurd (e.symm.trans h.1) zE
  ·exact absurd (e.symm.trans h.1) zE
  ·exact h.2
  ·exact absurd (e.symm.trans h.1) zE
 ·exact fun h=>.inr (.inr (.inr (.inr (.inr (.inr (.inr (.inl ⟨e,h⟩)))))))
theorem frmP_8 {f:FrmT} (e:f.1=8):frmP f=bytesOf f.2.2.2.1++(bytesOf (rootB f.2.2.2.2.2.1)++(prfB f.2.2.2.2.2.2.2.1++bytesOf (sB f.2.2.2.2.2.2.2.2.2.1))):=by unfold frmP;rw [if_neg (by rw [e];decide),if_neg (by rw [e];decide),if_neg (by rw [e];decide),if_neg (by rw [e];decide),if_neg (by rw [e];decide),if_neg (by rw [e];decide),if_neg (by rw [e];decide),if_pos e]
theorem kindOk_9 {f:FrmT} (e:f.1=9):Sp.kindOk f↔evdOk f.2.2.2.2.2.2.2.2.2.2.1=true:=by
 constructor
 ·intro h
  rcases h with h|h|h|h|h|h|h|h|h
  ·exact absurd (e.symm.trans h.1) zE
  ·exact absurd (e.symm.trans h.1) zE
  ·exact absurd (e.symm.trans h.1) zE
  ·exact absurd (e.symm.trans h.1) zE
  ·exact absurd (e.symm.trans h.1) zE
  ·exact absurd (e.symm.trans h.1) zE
  ·exact absurd (e.symm.trans h.1) zE
  ·exact absurd (e.symm.trans h.1) zE
  ·exact h.2
 ·exact fun h=>.inr (.inr (.inr (.inr (.inr (.inr (.inr (.inr (⟨e,h⟩))))))))
theorem frmP_9 {f:FrmT} (e:f.1=9):frmP f=bytesOf (evdB f.2.2.2.2.2.2.2.2.2.2.1):=by unfold frmP;rw [if_neg (by rw [e];decide),if_neg (by rw [e];decide),if_neg (by rw [e];decide),if_neg (by rw [e];decide),if_neg (by rw [e];decide),if_neg (by rw [e];decide),if_neg (by rw [e];decide),if_neg (by rw [e];decide),if_pos e]
theorem kindOk_in {f:FrmT} (h:Sp.kindOk f):InK f.1:=by
 rcases h with h|h|h|h|h|h|h|h|h
 ·exact .inl h.1
 ·exact .inr (.inl h.1)
 ·exact .inr (.inr (.inl h.1))
 ·exact .inr (.inr (.inr (.inl h.1)))
 ·exact .inr (.inr (.inr (.inr (.inl h.1))))
 ·exact .inr (.inr (.inr (.inr (.inr (.inl h.1)))))
 ·exact .inr (.inr (.inr (.inr (.inr (.inr (.inl h.1))))))
 ·exact .inr (.inr (.inr (.inr (.inr (.inr (.inr (.inl h.1)))))))
 ·exact .inr (.inr (.inr (.inr (.inr (.inr (.inr (.inr h.1)))))))
theorem kput_c {r:Fr} {b:Nat} {cs:List Value} {y:Value} {f:FrmT} (hin:InK f.1) (hf:FrmRp.rel r cs f) (h:At r ⟨b,0,none⟩ (cs++[y])) (hl:FrmSz f) (hH:At r ⟨0,0,none⟩ (w64s shaH)) (hK:At r ⟨1,0,none⟩ (w64s shaK)):Con prog (kputF f.1) #[.pointer (some ⟨b,0,none⟩)] r []
  (RetP (fun v η=>Sp.kindOk f∧∃ a c,v=.slice a (frmP f).length c∧η=[OwnP Rp.u8 5 (.slice a (frmP f).length c) (frmP f)]) (fun ch η=>¬ Sp.kindOk f∧ch=errP 39 4∧η=[])):=by
 rcases hin with e|e|e|e|e|e|e|e|e
 ·rw [show kputF f.1=144 by rw [e];rfl,frmP_1 e]
  exact (putPull_c hf h hl.1).mono (RetP.imp (fun v η ⟨h1,h2⟩=>⟨(kindOk_1 e).2 h1,h2⟩) (fun c η ⟨h1,h2⟩=>⟨fun q=>h1 ((kindOk_1 e).1 q),h2⟩))
 ·rw [show kputF f.1=147 by rw [e];rfl,frmP_2 e]
  exact (putOffer_c hf h hl.1).mono (RetP.imp (fun v η ⟨h1,h2⟩=>⟨(kindOk_2 e).2 h1,h2⟩) (fun c η ⟨h1,h2⟩=>⟨fun q=>h1 ((kindOk_2 e).1 q),h2⟩))
 ·rw [show kputF f.1=150 by rw [e];rfl,frmP_3 e]
  exact (putAsk_c hf h hl.1).mono (RetP.imp (fun v η ⟨h1,h2⟩=>⟨(kindOk_3 e).2 h1,h2⟩) (fun c η ⟨h1,h2⟩=>⟨fun q=>h1 ((kindOk_3 e).1 q),h2⟩))
 ·rw [show kputF f.1=153 by rw [e];rfl,frmP_4 e]
  exact (putNode_c hf h hl.1 hl.2.1 hH hK).mono (RetP.imp (fun v η ⟨h1,h2⟩=>⟨(kindOk_4 e).2 h1,h2⟩) (fun c η ⟨h1,h2⟩=>⟨fun q=>h1 ((kindOk_4 e).1 q),h2⟩))
 ·rw [show kputF f.1=156 by rw [e];rfl,frmP_5 e]
  exact (putPut_c hf h hl.1).mono (RetP.imp (fun v η ⟨h1,h2⟩=>⟨(kindOk_5 e).2 h1,h2⟩) (fun c η ⟨h1,h2⟩=>⟨fun q=>h1 ((kindOk_5 e).1 q),h2⟩))
 ·rw [show kputF f.1=159 by rw [e];rfl,frmP_6 e]
  exact (putAck_c hf h hl.1).mono (RetP.imp (fun v η ⟨h1,h2⟩=>⟨(kindOk_6 e).2 h1,h2⟩) (fun c η ⟨h1,h2⟩=>⟨fun q=>h1 ((kindOk_6 e).1 q),h2⟩))
 ·rw [show kputF f.1=162 by rw [e];rfl,frmP_7 e]
  exact (putGet_c hf h hl.1).mono (RetP.imp (fun v η ⟨h1,h2⟩=>⟨(kindOk_7 e).2 h1,h2⟩) (fun c η ⟨h1,h2⟩=>⟨fun q=>h1 ((kindOk_7 e).1 q),h2⟩))
 ·rw [show kputF f.1=165 by rw [e];rfl,frmP_8 e]
  exact (putGot_c hf h hl.1 hl.2.2.1 hl.2.2.2).mono (RetP.imp (fun v η ⟨h1,h2⟩=>⟨(kindOk_8 e).2 h1,h2⟩) (fun c η ⟨h1,h2⟩=>⟨fun q=>h1 ((kindOk_8 e).1 q),h2⟩))
 ·rw [show kputF f.1=168 by rw [e];rfl,frmP_9 e]
  exact (putEvidence_c hf h hl.1).mono (RetP.imp (fun v η ⟨h1,h2⟩=>⟨(kindOk_9 e).2 h1,h2⟩) (fun c η ⟨h1,h2⟩=>⟨fun q=>h1 ((kindOk_9 e).1 q),h2⟩))
theorem rowsB_leq {α:Type} {b:α→List UInt8} {C:Nat} {l:List α} (h:∀ x∈l,(b x).length≤C):(rowsB b l).length≤C*l.length:=rowsB_le b C l h
theorem frmP_le {f:FrmT} (hk:Sp.kindOk f) (hl:FrmSz f):(frmP f).length≤10000000000000:=by
 obtain ⟨_,⟨⟨n1,n2⟩,n3,n4⟩,n5,n6⟩:=hl
 rcases kindOk_in hk with e|e|e|e|e|e|e|e|e
 ·rw [frmP_1 e,be_length];decide
 ·have h:=(kindOk_2 e).1 hk
  have hr:=rootB_length h.1;have h2:=h.2;rw [frmP_2 e];simp only [zla,bytesOf_length];omega
 ·have h:=((kindOk_3 e).1 hk).1
  rw [frmP_3 e];simp only [bytesOf_length];omega
 ·have h:=(kindOk_4 e).1 hk
  have h1:=h.1.1;have h3:(rowsB leafB f.2.2.2.2.2.2.2.2.1.2.2.2.1).length≤14080096*f.2.2.2.2.2.2.2.2.1.2.2.2.1.length:=rowsB_leq fun z hz=>by
   have w1:=(h.2.1.1 z hz).1.2;have w2:=sB_le (h.2.1.1 z hz).2.1.1;have w3:=n4 z hz;simp only [leafB,zla,bytesOf_length];omega
  rw [frmP_4 e];unfold nodeB;simp only [zla,bytesOf_length,be_length];omega
 ·obtain ⟨x,hx,hr⟩:=(kindOk_5 e).1 hk
  have h1:(recB x).length≤1400:=recB_le hr;rw [frmP_5 e,hx];simp only [List.map_cons,List.map_nil,zfc,List.flatten_nil,List.append_nil,bytesOf_length];omega
 ·rw [frmP_6 e,be_length];decide
 ·have h:=((kindOk_7 e).1 hk).2
  rw [frmP_7 e];simp only [bytesOf_length];omega
 ·obtain ⟨h1,h2,⟨⟨g1,_⟩,g2,g3,_⟩,h4,_⟩:=(kindOk_8 e).1 hk
  have hr:=rootB_length h2;have hs:=sB_le h4.1;have h12:=h1.2;have w1:(rowsB bytesOf f.2.2.2.2.2.2.2.1.1).length≤72*f.2.2.2.2.2.2.2.1.1.length:=rowsB_leq fun z hz=>by
   have:=g2 z hz;simp only [bytesOf_length];omega
  have w2:(rowsB stubB f.2.2.2.2.2.2.2.1.2.1).length≤144*f.2.2.2.2.2.2.2.1.2.1.length:=rowsB_leq fun z hz=>by
   have q1:=(g3 z hz).1.2;have q2:=(g3 z hz).2;simp only [stubB,zla,bytesOf_length];omega
  rw [frmP_8 e];unfold prfB;simp only [zla,bytesOf_length,be_length];omega
 ·have hr:=evdB_length ((kindOk_9 e).1 hk)
  rw [frmP_9 e];simp only [bytesOf_length];omega
theorem frmB_le {f:FrmT} (hk:Sp.kindOk f) (hl:FrmSz f):(frmB f).length≤20000000000000:=by have:=frmP_le hk hl;rw [frmB_length];omega
theorem whole_c {r:Fr} {cs:List Value} {f:FrmT} (hf:FrmRp.rel r cs f) (hl:FrmSz f) (hH:At r ⟨0,0,none⟩ (w64s shaH)) (hK:At r ⟨1,0,none⟩ (w64s shaK)):Con prog 35 #[.agg cs.toArray] r []
  (RetP (fun v η=>(Sp.kindOk f∧0≤f.2.1∧f.2.1≤1073741824)∧∃ a c,v=.slice a (frmB f).length c∧η=[OwnP Rp.u8 5 (.slice a (frmB f).length c) (frmB f)]) (fun ch η=>¬ (Sp.kindOk f∧0≤f.2.1∧f.2.1≤1073741824)∧ch=errP 39 4∧η=[])):=by
 have hf0:=hf;obtain ⟨a8,a9,a10,a11,a12,a14,a15,a16,a17,a21,a22,a26,a27,c8,c9,c10,c11,c12,c14,c15,c16,c17,c21,c22,c26,c27,rfl,p1,p2,p3,p4,p5,p6,p7,p8,p9,p10,p11,p12,p14,p15,p16,p17,p18,p19,p20,p21,p22,p23,p24,p25,p26,p27,p28⟩:=FrmRp.sh hf0;refine Con.o func35 fun g hg R hR=>?_;have hH:=hH.mono hg;have hK:=hK.mono hg;have hf:=hf.mono hg;refine S.seq<|S.region rfl<|O.opE (.p rfl) (.box (cs:=[_,_,_,_,_,_,_,_,_,_,_,_,_,_,_,_,_,_,_,_,_,_,_,_,_,_,_,_,_]) rfl rfl) ?_;rintro _ _ ⟨b1,rfl,rfl⟩;refine zz 3 ?_;refine S.frzO zC fun g hs hm h1=>?_;replace hg:=zfs hg hs;replace hR:=melted hR hm
 try replace hH:=hH.mono hs
 try replace hK:=hK.mono hs
 try replace hf:=hf.mono hs
 clear hs hm
 by_cases hin:InK f.1
 ·have hok:=kput_ok hin
  refine S.regionD (L:=[1,2,0,3,4,5,6,7,8,9]) F.mixed zB ?_;refine zz 2 ?_;refine OD.call0 (.p rfl) zB rfl zB rfl rfl (kinds_c) ?_;rintro v7 _ ⟨b7,c7,m7,rfl,rfl,hm7⟩;refine OD.doesL (.p rfl) rfl zB (fun _=>.lookupK underlying137 (keyOkB underlying25) zeroValue135 rfl rfl zC) ?_;refine OD.q 2 rfl<|OD.slot 11 (v' :=kindV (kputF f.1) (kgetF f.1) (klessF f.1)) rfl (by simp [hm7,kind_in hin]) ?_;refine OD.q 1 rfl<|OD.sT 12 rfl (by simp [hm7,kind_in hin]) ?_;refine .lazy rfl zB rfl fun b3=>?_;refine OD.storeObj rfl zB zB rfl rfl rfl rfl zC zO<|zz 3 ?_;refine S.objIs (b:=b3) (cs' :=[.func (.func (kputF f.1)) #[] #[],.func (.func (kgetF f.1)) #[] #[],.func (.func (klessF f.1)) #[] #[]]) zC rfl ?_;refine S.frzO zC fun g hs hm h3=>?_;replace hg:=zfs hg hs;replace hR:=melted hR hm
  try replace hH:=hH.mono hs
  try replace hK:=hK.mono hs
  try replace hf:=hf.mono hs
  try replace h1:=h1.mono hs
  clear hs hm
  by_cases q1:0≤f.2.1
  ·by_cases q2:f.2.1≤1073741824
   ·
    refine zz 3 ?_;refine O.op (.g rfl rfl) (.fieldAddr fld41x1 rfl)<|zz 2 ?_;refine O.sT 17 rfl (by exact zdt q1)<|zz 2 ?_;refine O.op (.g rfl rfl) (.fieldAddr fld41x1 rfl)<|zz 2 ?_;refine O.sT 22 rfl (by exact zdt q2) ?_;refine O.q 1 rfl<|O.callP0 (.p rfl) rfl zB rfl rfl (fright_c _) (fun ch η' w hX hW=>by (exact absurd hX.1 zG)) ?_;rintro _ _ ⟨hb24,rfl,rfl⟩;refine zz 3 ?_;refine O.op (.p rfl) (.loadAgg isAgg41 zB rfl h1) ?_;refine O.op (.p rfl) (.build (cs:=[_,_,_,_,_,_,_,_,_,_,_,_,_,_,_,_,_,_,_,_,_,_,_,_,_,_,_,_,_,_]) underlying129 rfl rfl rfl rfl rfl)<|O.opE (.p rfl) (.box (cs:=[_,_,_,_,_,_,_,_,_,_,_,_,_,_,_,_,_,_,_,_,_,_,_,_,_,_,_,_,_,_]) rfl rfl) ?_;rintro _ _ ⟨b27,rfl,rfl⟩;refine zz 3 ?_
    refine S.objIs (b:=b27) (cs' :=[byteV f.1,.int .i64 f.2.1,.int .i64 f.2.2.1,.string (str f.2.2.2.1),.string (str f.2.2.2.2.1),.int .i64 f.2.2.2.2.2.1.1,.int .i64 f.2.2.2.2.2.1.2.1,.int .i64 f.2.2.2.2.2.1.2.2.1,.slice a8 f.2.2.2.2.2.1.2.2.2.1.length c8,.slice a9 f.2.2.2.2.2.1.2.2.2.2.1.length c9,.slice a10 f.2.2.2.2.2.2.1.length c10,.slice a11 f.2.2.2.2.2.2.2.1.1.length c11,.slice a12 f.2.2.2.2.2.2.2.1.2.1.length c12,byteV f.2.2.2.2.2.2.2.2.1.1,.slice a14 f.2.2.2.2.2.2.2.2.1.2.1.length c14,.slice a15 f.2.2.2.2.2.2.2.2.1.2.2.1.length c15,.slice a16 f.2.2.2.2.2.2.2.2.1.2.2.2.1.length c16,.slice a17 f.2.2.2.2.2.2.2.2.2.1.length c17,.int .i64 f.2.2.2.2.2.2.2.2.2.2.1.1.1,.int .i64 f.2.2.2.2.2.2.2.2.2.2.1.1.2.1,.int .i64 f.2.2.2.2.2.2.2.2.2.2.1.1.2.2.1,.slice a21 f.2.2.2.2.2.2.2.2.2.2.1.1.2.2.2.1.length c21,.slice a22 f.2.2.2.2.2.2.2.2.2.2.1.1.2.2.2.2.1.length c22,.int .i64 f.2.2.2.2.2.2.2.2.2.2.1.2.1.1,.int .i64 f.2.2.2.2.2.2.2.2.2.2.1.2.1.2.1,.int .i64 f.2.2.2.2.2.2.2.2.2.2.1.2.1.2.2.1,.slice a26 f.2.2.2.2.2.2.2.2.2.2.1.2.1.2.2.2.1.length c26,.slice a27 f.2.2.2.2.2.2.2.2.2.2.1.2.1.2.2.2.2.1.length c27,.int .i64 f.2.2.2.2.2.2.2.2.2.2.2.1]++[.pointer none]) zC rfl ?_;refine S.frzO zC fun g hs hm h5=>?_;replace hg:=zfs hg hs;replace hR:=melted hR hm
    try replace hH:=hH.mono hs
    try replace hK:=hK.mono hs
    try replace hf:=hf.mono hs
    try replace h1:=h1.mono hs
    try replace h3:=h3.mono hs
    clear hs hm;refine S.regionJ (L:=[0,1,3,4,6,7,8,2,5,9,10,11,12]) (fun (x:{q:Option Addr × Nat // Sp.kindOk f})=>[(2,.slice x.1.1 (frmB f).length x.1.2)]) [] (fun (x:{q:Option Addr × Nat // Sp.kindOk f})=>[OwnP Rp.u8 5 (.slice x.1.1 (frmB f).length x.1.2) (frmB f)]) (.nil) F.mixed zB (fun kk key=>?_) (fun x=>?_)
    ·refine zz 6 ?_
     refine OD.q 1 rfl<|OD.alt2 2 5 [5,9,10,11,12] [2,9,10,11,12] zB rfl rfl ?_ ?_
     ·refine ODt.litP (T:=Rp.u8) (ys:=[_]) (.p rfl) zB underlying22 elem5 zE rfl rfl ⟨rfl,trivial⟩ zE (fun a30 c30=>?_)
      refine OD.call0 (.p rfl) zB rfl zB rfl rfl ((wNumber_c _)) ?_;rintro _ _ ⟨a33,c33,rfl,rfl⟩;refine OD.callP0 (.p rfl) zB rfl hok rfl rfl ((kput_c hin hf h5 hl hH hK)) (fun ch η' w hX hW=>by (obtain ⟨hb,rfl,rfl⟩:=hX;exact hR _ _ w ⟨fun q=>hb q.1,rfl,rfl⟩ hW.drop_all)) ?_;rintro _ _ ⟨hkind,a37,c37,rfl,rfl⟩;have hlen:=frmP_le hkind hl;refine OD.litP (.p rfl) zB (T:=Rp.val) (ys:=[.slice a30 1 c30,.slice a33 8 c33,.slice a37 (frmP f).length c37]) underlying28 elem22 zE rfl rfl ⟨⟨rfl,rfl⟩,⟨rfl,rfl⟩,⟨rfl,rfl⟩,trivial⟩ zE (fun a38 c38=>?_);refine OD.callB (.p rfl) zB rfl zB rfl rfl (bs:=[OwnP Rp.val 22 (.slice a38 3 c38) [.slice a30 1 c30,.slice a33 8 c33,.slice a37 (frmP f).length c37],OwnP Rp.u8 5 (.slice a30 1 c30) ([f.1]),OwnP Rp.u8 5 (.slice a33 8 c33) (be f.2.1),OwnP Rp.u8 5 (.slice a37 (frmP f).length c37) (frmP f)]) zI (fun m hm hd=>wJoin_c (xss:=[[f.1],be f.2.1,frmP f]) ((hm.arr.right hd).rows ⟨hm.tail.arr.right hd,hm.tail.tail.arr.right hd,hm.tail.tail.tail.arr.right hd,trivial⟩) (by simp only [zfc,List.flatten_nil,List.append_nil,zla,be_length,List.length_singleton];omega)) ?_;rintro _ _ ⟨a39,c39,rfl,rfl⟩;have efin:[[f.1],be f.2.1,frmP f].flatten=frmB f:=by simp [frmB]
      refine zz 2 ?_;rw [efin];refine S.pk ?_ (S.weaken (Sub.app zq (.nil)) (key ⟨(a39,c39),hkind⟩))
      try dsimp only
      repeat (first|exact zpa|exact zpn|(apply zpc;focus (repeat (first|exact zh|apply zt)))|apply zps)
     ·refine ODt.call0 (.p rfl) zB rfl zB rfl rfl ((wNumber_c _)) ?_
      rintro _ _ ⟨a33,c33,rfl,rfl⟩;refine OD.alt2 2 9 [9,10,11,12] [2,10,11,12] zB rfl rfl ?_ ?_
      ·refine ODt.litP (T:=Rp.u8) (ys:=[_]) (.p rfl) zB underlying22 elem5 zE rfl rfl ⟨rfl,trivial⟩ zE (fun a30 c30=>?_)
       refine OD.callP0 (.p rfl) zB rfl hok rfl rfl ((kput_c hin hf h5 hl hH hK)) (fun ch η' w hX hW=>by (obtain ⟨hb,rfl,rfl⟩:=hX;exact hR _ _ w ⟨fun q=>hb q.1,rfl,rfl⟩ hW.drop_all)) ?_;rintro _ _ ⟨hkind,a37,c37,rfl,rfl⟩;have hlen:=frmP_le hkind hl;refine OD.litP (.p rfl) zB (T:=Rp.val) (ys:=[.slice a30 1 c30,.slice a33 8 c33,.slice a37 (frmP f).length c37]) underlying28 elem22 zE rfl rfl ⟨⟨rfl,rfl⟩,⟨rfl,rfl⟩,⟨rfl,rfl⟩,trivial⟩ zE (fun a38 c38=>?_);refine OD.callB (.p rfl) zB rfl zB rfl rfl (bs:=[OwnP Rp.val 22 (.slice a38 3 c38) [.slice a30 1 c30,.slice a33 8 c33,.slice a37 (frmP f).length c37],OwnP Rp.u8 5 (.slice a30 1 c30) ([f.1]),OwnP Rp.u8 5 (.slice a33 8 c33) (be f.2.1),OwnP Rp.u8 5 (.slice a37 (frmP f).length c37) (frmP f)]) zI (fun m hm hd=>wJoin_c (xss:=[[f.1],be f.2.1,frmP f]) ((hm.arr.right hd).rows ⟨hm.tail.arr.right hd,hm.tail.tail.arr.right hd,hm.tail.tail.tail.arr.right hd,trivial⟩) (by simp only [zfc,List.flatten_nil,List.append_nil,zla,be_length,List.length_singleton];omega)) ?_;rintro _ _ ⟨a39,c39,rfl,rfl⟩;have efin:[[f.1],be f.2.1,frmP f].flatten=frmB f:=by simp [frmB]
       refine zz 2 ?_;rw [efin];refine S.pk ?_ (S.weaken (Sub.app zq (.nil)) (key ⟨(a39,c39),hkind⟩))
       try dsimp only
       repeat (first|exact zpa|exact zpn|(apply zpc;focus (repeat (first|exact zh|apply zt)))|apply zps)
      ·refine ODt.callP0 (.p rfl) zB rfl hok rfl rfl ((kput_c hin hf h5 hl hH hK)) (fun ch η' w hX hW=>by (obtain ⟨hb,rfl,rfl⟩:=hX;exact hR _ _ w ⟨fun q=>hb q.1,rfl,rfl⟩ hW.drop_all)) ?_
       rintro _ _ ⟨hkind,a37,c37,rfl,rfl⟩;have hlen:=frmP_le hkind hl;refine OD.litP (T:=Rp.u8) (ys:=[_]) (.p rfl) zB underlying22 elem5 zE rfl rfl ⟨rfl,trivial⟩ zE (fun a30 c30=>?_);refine OD.litP (.p rfl) zB (T:=Rp.val) (ys:=[.slice a30 1 c30,.slice a33 8 c33,.slice a37 (frmP f).length c37]) underlying28 elem22 zE rfl rfl ⟨⟨rfl,rfl⟩,⟨rfl,rfl⟩,⟨rfl,rfl⟩,trivial⟩ zE (fun a38 c38=>?_);refine OD.callB (.p rfl) zB rfl zB rfl rfl (bs:=[OwnP Rp.val 22 (.slice a38 3 c38) [.slice a30 1 c30,.slice a33 8 c33,.slice a37 (frmP f).length c37],OwnP Rp.u8 5 (.slice a30 1 c30) ([f.1]),OwnP Rp.u8 5 (.slice a33 8 c33) (be f.2.1),OwnP Rp.u8 5 (.slice a37 (frmP f).length c37) (frmP f)]) zI (fun m hm hd=>wJoin_c (xss:=[[f.1],be f.2.1,frmP f]) ((hm.arr.right hd).rows ⟨hm.tail.arr.right hd,hm.tail.tail.arr.right hd,hm.tail.tail.tail.arr.right hd,trivial⟩) (by simp only [zfc,List.flatten_nil,List.append_nil,zla,be_length,List.length_singleton];omega)) ?_;rintro _ _ ⟨a39,c39,rfl,rfl⟩;have efin:[[f.1],be f.2.1,frmP f].flatten=frmB f:=by simp [frmB]
       refine zz 2 ?_;rw [efin];refine S.pk ?_ (S.weaken (Sub.app zq (.nil)) (key ⟨(a39,c39),hkind⟩))
       try dsimp only
       repeat (first|exact zpa|exact zpn|(apply zpc;focus (repeat (first|exact zh|apply zt)))|apply zps)
    exact S.rt results35 rfl hR ⟨⟨x.2,q1,q2⟩,x.1.1,x.1.2,rfl,rfl⟩
   ·have hn:¬ (Sp.kindOk f∧0≤f.2.1∧f.2.1≤1073741824):=fun w=>q2 w.2.2
    refine zz 3 ?_;refine O.op (.g rfl rfl) (.fieldAddr fld41x1 rfl)<|zz 2 ?_;refine O.sT 17 rfl (by exact zdt q1)<|zz 2 ?_;refine O.op (.g rfl rfl) (.fieldAddr fld41x1 rfl)<|zz 2 ?_;refine O.sF 22 rfl (by exact zdf q2) ?_;refine O.q 1 rfl<|O.callP0 (.p rfl) rfl zB rfl rfl (fright_c _) (fun ch η' w hX hW=>by (obtain ⟨hb,rfl,rfl⟩:=hX;exact hR _ _ w ⟨hn,rfl,rfl⟩ hW.drop_all)) ?_;rintro _ _ ⟨hb24,rfl,rfl⟩;exact absurd hb24 zG
  ·have hn:¬ (Sp.kindOk f∧0≤f.2.1∧f.2.1≤1073741824):=fun w=>q1 w.2.1
   refine zz 3 ?_;refine O.op (.g rfl rfl) (.fieldAddr fld41x1 rfl)<|zz 2 ?_;refine O.sF 17 rfl (by exact zdf q1) ?_;refine O.q 6 rfl<|O.callP0 (.p rfl) rfl zB rfl rfl (fright_c _) (fun ch η' w hX hW=>by (obtain ⟨hb,rfl,rfl⟩:=hX;exact hR _ _ w ⟨hn,rfl,rfl⟩ hW.drop_all)) ?_;rintro _ _ ⟨hb24,rfl,rfl⟩;exact absurd hb24 zG
 ·have hn:¬ (Sp.kindOk f∧0≤f.2.1∧f.2.1≤1073741824):=fun w=>hin (kindOk_in w.1)
  refine S.regionD (L:=[1,2,0,3,4,5,6,7,8,9]) F.mixed zB ?_;refine zz 2 ?_;refine OD.call0 (.p rfl) zB rfl zB rfl rfl (kinds_c) ?_;rintro v7 _ ⟨b7,c7,m7,rfl,rfl,hm7⟩;refine OD.doesL (.p rfl) rfl zB (fun _=>.lookupK underlying137 (keyOkB underlying25) zeroValue135 rfl rfl zC) ?_;refine OD.q 2 rfl<|OD.slot 11 (v' :=.agg #[.nilFunc,.nilFunc,.nilFunc]) rfl (by simp [hm7,kind_out hin]) ?_;refine OD.q 1 rfl<|OD.sF 12 rfl (by simp [hm7,kind_out hin]) ?_;refine .lazy rfl zB rfl fun b3=>?_;refine OD.storeObj rfl zB zB rfl rfl rfl rfl zC zO<|zz 15 ?_;refine O.callP0 (.p rfl) rfl zB rfl rfl (fright_c _) (fun ch η' w hX hW=>by (obtain ⟨hb,rfl,rfl⟩:=hX;exact hR _ _ w ⟨hn,rfl,rfl⟩ hW.drop_all)) ?_;rintro _ _ ⟨hb24,rfl,rfl⟩;exact absurd hb24 zG
theorem kless_c {r:Fr} {b:Nat} {cs:List Value} {y:Value} {f:FrmT} (hin:InK f.1) (hf:FrmRp.rel r cs f):Con prog (klessF f.1) #[.pointer (some ⟨b,0,none⟩)] r [obj b 129 (cs++[y])]
  (Ret fun v η=>v=.tuple #[]∧∃ cs',FrmRp.rel r cs' (lessF f)∧η=[obj b 129 (cs' ++[y])]):=by
 obtain ⟨a8,a9,a10,a11,a12,a14,a15,a16,a17,a21,a22,a26,a27,c8,c9,c10,c11,c12,c14,c15,c16,c17,c21,c22,c26,c27,rfl,p1,p2,p3,p4,p5,p6,p7,p8,p9,p10,p11,p12,p14,p15,p16,p17,p18,p19,p20,p21,p22,p23,p24,p25,p26,p27,p28⟩:=FrmRp.sh hf
 rcases hin with e|e|e|e|e|e|e|e|e
 ·rw [show klessF f.1=146 by rw [e];rfl,lessF_1 e]
  exact lessPull_c.mono (Ret.imp fun v η ⟨h1,h2⟩=>⟨h1,[byteV f.1,.int .i64 f.2.1,.int .i64 0,.string (str f.2.2.2.1),.string (str f.2.2.2.2.1),.int .i64 f.2.2.2.2.2.1.1,.int .i64 f.2.2.2.2.2.1.2.1,.int .i64 f.2.2.2.2.2.1.2.2.1,.slice a8 f.2.2.2.2.2.1.2.2.2.1.length c8,.slice a9 f.2.2.2.2.2.1.2.2.2.2.1.length c9,.slice a10 f.2.2.2.2.2.2.1.length c10,.slice a11 f.2.2.2.2.2.2.2.1.1.length c11,.slice a12 f.2.2.2.2.2.2.2.1.2.1.length c12,byteV f.2.2.2.2.2.2.2.2.1.1,.slice a14 f.2.2.2.2.2.2.2.2.1.2.1.length c14,.slice a15 f.2.2.2.2.2.2.2.2.1.2.2.1.length c15,.slice a16 f.2.2.2.2.2.2.2.2.1.2.2.2.1.length c16,.slice a17 f.2.2.2.2.2.2.2.2.2.1.length c17,.int .i64 f.2.2.2.2.2.2.2.2.2.2.1.1.1,.int .i64 f.2.2.2.2.2.2.2.2.2.2.1.1.2.1,.int .i64 f.2.2.2.2.2.2.2.2.2.2.1.1.2.2.1,.slice a21 f.2.2.2.2.2.2.2.2.2.2.1.1.2.2.2.1.length c21,.slice a22 f.2.2.2.2.2.2.2.2.2.2.1.1.2.2.2.2.1.length c22,.int .i64 f.2.2.2.2.2.2.2.2.2.2.1.2.1.1,.int .i64 f.2.2.2.2.2.2.2.2.2.2.1.2.1.2.1,.int .i64 f.2.2.2.2.2.2.2.2.2.2.1.2.1.2.2.1,.slice a26 f.2.2.2.2.2.2.2.2.2.2.1.2.1.2.2.2.1.length c26,.slice a27 f.2.2.2.2.2.2.2.2.2.2.1.2.1.2.2.2.2.1.length c27,.int .i64 f.2.2.2.2.2.2.2.2.2.2.2.1],FrmRp.mkA,h2⟩)
 ·rw [show klessF f.1=149 by rw [e];rfl,lessF_2 e]
  exact lessOffer_c.mono (Ret.imp fun v η ⟨h1,h2⟩=>⟨h1,[byteV f.1,.int .i64 f.2.1,.int .i64 f.2.2.1,.string (str f.2.2.2.1),.string (str f.2.2.2.2.1),.int .i64 0,.int .i64 0,.int .i64 0,.slice none 0 0,.slice none 0 0,.slice none 0 0,.slice a11 f.2.2.2.2.2.2.2.1.1.length c11,.slice a12 f.2.2.2.2.2.2.2.1.2.1.length c12,byteV f.2.2.2.2.2.2.2.2.1.1,.slice a14 f.2.2.2.2.2.2.2.2.1.2.1.length c14,.slice a15 f.2.2.2.2.2.2.2.2.1.2.2.1.length c15,.slice a16 f.2.2.2.2.2.2.2.2.1.2.2.2.1.length c16,.slice a17 f.2.2.2.2.2.2.2.2.2.1.length c17,.int .i64 f.2.2.2.2.2.2.2.2.2.2.1.1.1,.int .i64 f.2.2.2.2.2.2.2.2.2.2.1.1.2.1,.int .i64 f.2.2.2.2.2.2.2.2.2.2.1.1.2.2.1,.slice a21 f.2.2.2.2.2.2.2.2.2.2.1.1.2.2.2.1.length c21,.slice a22 f.2.2.2.2.2.2.2.2.2.2.1.1.2.2.2.2.1.length c22,.int .i64 f.2.2.2.2.2.2.2.2.2.2.1.2.1.1,.int .i64 f.2.2.2.2.2.2.2.2.2.2.1.2.1.2.1,.int .i64 f.2.2.2.2.2.2.2.2.2.2.1.2.1.2.2.1,.slice a26 f.2.2.2.2.2.2.2.2.2.2.1.2.1.2.2.2.1.length c26,.slice a27 f.2.2.2.2.2.2.2.2.2.2.1.2.1.2.2.2.2.1.length c27,.int .i64 f.2.2.2.2.2.2.2.2.2.2.2.1],FrmRp.mkA,h2⟩)
 ·rw [show klessF f.1=152 by rw [e];rfl,lessF_3 e]
  exact lessAsk_c.mono (Ret.imp fun v η ⟨h1,h2⟩=>⟨h1,[byteV f.1,.int .i64 f.2.1,.int .i64 f.2.2.1,.string (str f.2.2.2.1),.string ⟨#[]⟩,.int .i64 f.2.2.2.2.2.1.1,.int .i64 f.2.2.2.2.2.1.2.1,.int .i64 f.2.2.2.2.2.1.2.2.1,.slice a8 f.2.2.2.2.2.1.2.2.2.1.length c8,.slice a9 f.2.2.2.2.2.1.2.2.2.2.1.length c9,.slice a10 f.2.2.2.2.2.2.1.length c10,.slice a11 f.2.2.2.2.2.2.2.1.1.length c11,.slice a12 f.2.2.2.2.2.2.2.1.2.1.length c12,byteV f.2.2.2.2.2.2.2.2.1.1,.slice a14 f.2.2.2.2.2.2.2.2.1.2.1.length c14,.slice a15 f.2.2.2.2.2.2.2.2.1.2.2.1.length c15,.slice a16 f.2.2.2.2.2.2.2.2.1.2.2.2.1.length c16,.slice a17 f.2.2.2.2.2.2.2.2.2.1.length c17,.int .i64 f.2.2.2.2.2.2.2.2.2.2.1.1.1,.int .i64 f.2.2.2.2.2.2.2.2.2.2.1.1.2.1,.int .i64 f.2.2.2.2.2.2.2.2.2.2.1.1.2.2.1,.slice a21 f.2.2.2.2.2.2.2.2.2.2.1.1.2.2.2.1.length c21,.slice a22 f.2.2.2.2.2.2.2.2.2.2.1.1.2.2.2.2.1.length c22,.int .i64 f.2.2.2.2.2.2.2.2.2.2.1.2.1.1,.int .i64 f.2.2.2.2.2.2.2.2.2.2.1.2.1.2.1,.int .i64 f.2.2.2.2.2.2.2.2.2.2.1.2.1.2.2.1,.slice a26 f.2.2.2.2.2.2.2.2.2.2.1.2.1.2.2.2.1.length c26,.slice a27 f.2.2.2.2.2.2.2.2.2.2.1.2.1.2.2.2.2.1.length c27,.int .i64 f.2.2.2.2.2.2.2.2.2.2.2.1],FrmRp.mkA,h2⟩)
 ·rw [show klessF f.1=155 by rw [e];rfl,lessF_4 e]
  exact lessNode_c.mono (Ret.imp fun v η ⟨h1,h2⟩=>⟨h1,[byteV f.1,.int .i64 f.2.1,.int .i64 f.2.2.1,.string (str f.2.2.2.1),.string ⟨#[]⟩,.int .i64 f.2.2.2.2.2.1.1,.int .i64 f.2.2.2.2.2.1.2.1,.int .i64 f.2.2.2.2.2.1.2.2.1,.slice a8 f.2.2.2.2.2.1.2.2.2.1.length c8,.slice a9 f.2.2.2.2.2.1.2.2.2.2.1.length c9,.slice a10 f.2.2.2.2.2.2.1.length c10,.slice a11 f.2.2.2.2.2.2.2.1.1.length c11,.slice a12 f.2.2.2.2.2.2.2.1.2.1.length c12,byteV 0,.slice none 0 0,.slice none 0 0,.slice none 0 0,.slice a17 f.2.2.2.2.2.2.2.2.2.1.length c17,.int .i64 f.2.2.2.2.2.2.2.2.2.2.1.1.1,.int .i64 f.2.2.2.2.2.2.2.2.2.2.1.1.2.1,.int .i64 f.2.2.2.2.2.2.2.2.2.2.1.1.2.2.1,.slice a21 f.2.2.2.2.2.2.2.2.2.2.1.1.2.2.2.1.length c21,.slice a22 f.2.2.2.2.2.2.2.2.2.2.1.1.2.2.2.2.1.length c22,.int .i64 f.2.2.2.2.2.2.2.2.2.2.1.2.1.1,.int .i64 f.2.2.2.2.2.2.2.2.2.2.1.2.1.2.1,.int .i64 f.2.2.2.2.2.2.2.2.2.2.1.2.1.2.2.1,.slice a26 f.2.2.2.2.2.2.2.2.2.2.1.2.1.2.2.2.1.length c26,.slice a27 f.2.2.2.2.2.2.2.2.2.2.1.2.1.2.2.2.2.1.length c27,.int .i64 f.2.2.2.2.2.2.2.2.2.2.2.1],FrmRp.mkA,h2⟩)
 ·rw [show klessF f.1=158 by rw [e];rfl,lessF_5 e]
  exact lessPut_c.mono (Ret.imp fun v η ⟨h1,h2⟩=>⟨h1,[byteV f.1,.int .i64 f.2.1,.int .i64 f.2.2.1,.string (str f.2.2.2.1),.string (str f.2.2.2.2.1),.int .i64 f.2.2.2.2.2.1.1,.int .i64 f.2.2.2.2.2.1.2.1,.int .i64 f.2.2.2.2.2.1.2.2.1,.slice a8 f.2.2.2.2.2.1.2.2.2.1.length c8,.slice a9 f.2.2.2.2.2.1.2.2.2.2.1.length c9,.slice a10 f.2.2.2.2.2.2.1.length c10,.slice a11 f.2.2.2.2.2.2.2.1.1.length c11,.slice a12 f.2.2.2.2.2.2.2.1.2.1.length c12,byteV f.2.2.2.2.2.2.2.2.1.1,.slice a14 f.2.2.2.2.2.2.2.2.1.2.1.length c14,.slice a15 f.2.2.2.2.2.2.2.2.1.2.2.1.length c15,.slice a16 f.2.2.2.2.2.2.2.2.1.2.2.2.1.length c16,.slice none 0 0,.int .i64 f.2.2.2.2.2.2.2.2.2.2.1.1.1,.int .i64 f.2.2.2.2.2.2.2.2.2.2.1.1.2.1,.int .i64 f.2.2.2.2.2.2.2.2.2.2.1.1.2.2.1,.slice a21 f.2.2.2.2.2.2.2.2.2.2.1.1.2.2.2.1.length c21,.slice a22 f.2.2.2.2.2.2.2.2.2.2.1.1.2.2.2.2.1.length c22,.int .i64 f.2.2.2.2.2.2.2.2.2.2.1.2.1.1,.int .i64 f.2.2.2.2.2.2.2.2.2.2.1.2.1.2.1,.int .i64 f.2.2.2.2.2.2.2.2.2.2.1.2.1.2.2.1,.slice a26 f.2.2.2.2.2.2.2.2.2.2.1.2.1.2.2.2.1.length c26,.slice a27 f.2.2.2.2.2.2.2.2.2.2.1.2.1.2.2.2.2.1.length c27,.int .i64 f.2.2.2.2.2.2.2.2.2.2.2.1],FrmRp.mkA,h2⟩)
 ·rw [show klessF f.1=161 by rw [e];rfl,lessF_6 e]
  exact lessAck_c.mono (Ret.imp fun v η ⟨h1,h2⟩=>⟨h1,[byteV f.1,.int .i64 f.2.1,.int .i64 f.2.2.1,.string (str f.2.2.2.1),.string (str f.2.2.2.2.1),.int .i64 f.2.2.2.2.2.1.1,.int .i64 f.2.2.2.2.2.1.2.1,.int .i64 f.2.2.2.2.2.1.2.2.1,.slice a8 f.2.2.2.2.2.1.2.2.2.1.length c8,.slice a9 f.2.2.2.2.2.1.2.2.2.2.1.length c9,.slice a10 f.2.2.2.2.2.2.1.length c10,.slice a11 f.2.2.2.2.2.2.2.1.1.length c11,.slice a12 f.2.2.2.2.2.2.2.1.2.1.length c12,byteV f.2.2.2.2.2.2.2.2.1.1,.slice a14 f.2.2.2.2.2.2.2.2.1.2.1.length c14,.slice a15 f.2.2.2.2.2.2.2.2.1.2.2.1.length c15,.slice a16 f.2.2.2.2.2.2.2.2.1.2.2.2.1.length c16,.slice a17 f.2.2.2.2.2.2.2.2.2.1.length c17,.int .i64 f.2.2.2.2.2.2.2.2.2.2.1.1.1,.int .i64 f.2.2.2.2.2.2.2.2.2.2.1.1.2.1,.int .i64 f.2.2.2.2.2.2.2.2.2.2.1.1.2.2.1,.slice a21 f.2.2.2.2.2.2.2.2.2.2.1.1.2.2.2.1.length c21,.slice a22 f.2.2.2.2.2.2.2.2.2.2.1.1.2.2.2.2.1.length c22,.int .i64 f.2.2.2.2.2.2.2.2.2.2.1.2.1.1,.int .i64 f.2.2.2.2.2.2.2.2.2.2.1.2.1.2.1,.int .i64 f.2.2.2.2.2.2.2.2.2.2.1.2.1.2.2.1,.slice a26 f.2.2.2.2.2.2.2.2.2.2.1.2.1.2.2.2.1.length c26,.slice a27 f.2.2.2.2.2.2.2.2.2.2.1.2.1.2.2.2.2.1.length c27,.int .i64 0],FrmRp.mkA,h2⟩)
 ·rw [show klessF f.1=164 by rw [e];rfl,lessF_7 e]
  exact lessGet_c.mono (Ret.imp fun v η ⟨h1,h2⟩=>⟨h1,[byteV f.1,.int .i64 f.2.1,.int .i64 f.2.2.1,.string ⟨#[]⟩,.string (str f.2.2.2.2.1),.int .i64 f.2.2.2.2.2.1.1,.int .i64 f.2.2.2.2.2.1.2.1,.int .i64 f.2.2.2.2.2.1.2.2.1,.slice a8 f.2.2.2.2.2.1.2.2.2.1.length c8,.slice a9 f.2.2.2.2.2.1.2.2.2.2.1.length c9,.slice a10 f.2.2.2.2.2.2.1.length c10,.slice a11 f.2.2.2.2.2.2.2.1.1.length c11,.slice a12 f.2.2.2.2.2.2.2.1.2.1.length c12,byteV f.2.2.2.2.2.2.2.2.1.1,.slice a14 f.2.2.2.2.2.2.2.2.1.2.1.length c14,.slice a15 f.2.2.2.2.2.2.2.2.1.2.2.1.length c15,.slice a16 f.2.2.2.2.2.2.2.2.1.2.2.2.1.length c16,.slice a17 f.2.2.2.2.2.2.2.2.2.1.length c17,.int .i64 f.2.2.2.2.2.2.2.2.2.2.1.1.1,.int .i64 f.2.2.2.2.2.2.2.2.2.2.1.1.2.1,.int .i64 f.2.2.2.2.2.2.2.2.2.2.1.1.2.2.1,.slice a21 f.2.2.2.2.2.2.2.2.2.2.1.1.2.2.2.1.length c21,.slice a22 f.2.2.2.2.2.2.2.2.2.2.1.1.2.2.2.2.1.length c22,.int .i64 f.2.2.2.2.2.2.2.2.2.2.1.2.1.1,.int .i64 f.2.2.2.2.2.2.2.2.2.2.1.2.1.2.1,.int .i64 f.2.2.2.2.2.2.2.2.2.2.1.2.1.2.2.1,.slice a26 f.2.2.2.2.2.2.2.2.2.2.1.2.1.2.2.2.1.length c26,.slice a27 f.2.2.2.2.2.2.2.2.2.2.1.2.1.2.2.2.2.1.length c27,.int .i64 f.2.2.2.2.2.2.2.2.2.2.2.1],FrmRp.mkA,h2⟩)
 ·rw [show klessF f.1=167 by rw [e];rfl,lessF_8 e]
  exact lessGot_c.mono (Ret.imp fun v η ⟨h1,h2⟩=>⟨h1,[byteV f.1,.int .i64 f.2.1,.int .i64 f.2.2.1,.string ⟨#[]⟩,.string (str f.2.2.2.2.1),.int .i64 0,.int .i64 0,.int .i64 0,.slice none 0 0,.slice none 0 0,.slice a10 f.2.2.2.2.2.2.1.length c10,.slice none 0 0,.slice none 0 0,byteV f.2.2.2.2.2.2.2.2.1.1,.slice a14 f.2.2.2.2.2.2.2.2.1.2.1.length c14,.slice a15 f.2.2.2.2.2.2.2.2.1.2.2.1.length c15,.slice a16 f.2.2.2.2.2.2.2.2.1.2.2.2.1.length c16,.slice none 0 0,.int .i64 f.2.2.2.2.2.2.2.2.2.2.1.1.1,.int .i64 f.2.2.2.2.2.2.2.2.2.2.1.1.2.1,.int .i64 f.2.2.2.2.2.2.2.2.2.2.1.1.2.2.1,.slice a21 f.2.2.2.2.2.2.2.2.2.2.1.1.2.2.2.1.length c21,.slice a22 f.2.2.2.2.2.2.2.2.2.2.1.1.2.2.2.2.1.length c22,.int .i64 f.2.2.2.2.2.2.2.2.2.2.1.2.1.1,.int .i64 f.2.2.2.2.2.2.2.2.2.2.1.2.1.2.1,.int .i64 f.2.2.2.2.2.2.2.2.2.2.1.2.1.2.2.1,.slice a26 f.2.2.2.2.2.2.2.2.2.2.1.2.1.2.2.2.1.length c26,.slice a27 f.2.2.2.2.2.2.2.2.2.2.1.2.1.2.2.2.2.1.length c27,.int .i64 f.2.2.2.2.2.2.2.2.2.2.2.1],FrmRp.mkA,h2⟩)
 ·rw [show klessF f.1=170 by rw [e];rfl,lessF_9 e]
  exact lessEvidence_c.mono (Ret.imp fun v η ⟨h1,h2⟩=>⟨h1,[byteV f.1,.int .i64 f.2.1,.int .i64 f.2.2.1,.string (str f.2.2.2.1),.string (str f.2.2.2.2.1),.int .i64 f.2.2.2.2.2.1.1,.int .i64 f.2.2.2.2.2.1.2.1,.int .i64 f.2.2.2.2.2.1.2.2.1,.slice a8 f.2.2.2.2.2.1.2.2.2.1.length c8,.slice a9 f.2.2.2.2.2.1.2.2.2.2.1.length c9,.slice a10 f.2.2.2.2.2.2.1.length c10,.slice a11 f.2.2.2.2.2.2.2.1.1.length c11,.slice a12 f.2.2.2.2.2.2.2.1.2.1.length c12,byteV f.2.2.2.2.2.2.2.2.1.1,.slice a14 f.2.2.2.2.2.2.2.2.1.2.1.length c14,.slice a15 f.2.2.2.2.2.2.2.2.1.2.2.1.length c15,.slice a16 f.2.2.2.2.2.2.2.2.1.2.2.2.1.length c16,.slice a17 f.2.2.2.2.2.2.2.2.2.1.length c17,.int .i64 0,.int .i64 0,.int .i64 0,.slice none 0 0,.slice none 0 0,.int .i64 0,.int .i64 0,.int .i64 0,.slice none 0 0,.slice none 0 0,.int .i64 f.2.2.2.2.2.2.2.2.2.2.2.1],FrmRp.mkA,h2⟩)
theorem rootZ_iff {x:RootT}:x=rootZ↔x.1=0∧x.2.1=0∧x.2.2.1=0∧x.2.2.2.1.length+x.2.2.2.2.1.length=0:=by
 obtain ⟨a,b,c,d,f,⟨⟩⟩:=x;unfold rootZ
 constructor
 ·intro h
  simp only [Prod.mk.injEq] at h;obtain ⟨rfl,rfl,rfl,rfl,rfl,_⟩:=h;exact ⟨rfl,rfl,rfl,rfl⟩
 ·rintro ⟨h1,h2,h3,h4⟩
  simp only at h1 h2 h3 h4;have e1:d=[]:=List.length_eq_zero_iff.1 zD;have e2:f=[]:=List.length_eq_zero_iff.1 zD;subst h1 h2 h3 e1 e2;rfl
theorem none_c {r:Fr} {va:Value} {xs:List RootT} (ha:Arr RootRp r va xs) (ho:∀ x∈xs,RootOk big x):Con prog 109 #[va] r [] (Ret fun v η=>v=.bool (decide (∀ x∈xs,x=rootZ))∧η=[]):=by
 obtain ⟨a1,c1,rfl⟩:=ha.shape;refine Con.o func109 fun g hg R hR=>?_;have ha:=ha.mono hg;have hbd:=ha.bound;refine zz 12 ?_;refine S.loopK (ι:=Nat) (fun k=>k≤xs.length∧∀ x∈xs.take k,x=rootZ) (fun k=>[(7,.int .i64 (k:Int))]) [(5,_),(6,_)] (fun k=>[]) (fun k=>xs.length - k) (0) (by exact ⟨by omega,by simp⟩) zq zq rfl fun k hx ih=>?_;have hm1:=meltRefl (g:=g);obtain ⟨hx1,hx2⟩:=hx;refine zz 5 ?_;refine S.cd rfl (fun h8=>?_) fun h8=>?_
 ·have hk:k<xs.length:=by omega
  have hol:=ho _ (List.getElem_mem hk);have ho1:=hol.1;have ho2:=hol.2;unfold big at ho1 ho2;have hmem:=List.getElem_mem hk;have hmore:xs[k]=rootZ→∀ x∈xs.take (k+1),x=rootZ:=fun q x hx=>by
   rw [ztg hk] at hx
   rcases List.mem_append.1 hx with hx|hx
   ·exact hx2 x hx
   ·exact (List.mem_singleton.1 hx).trans q
  have hnot:xs[k]≠rootZ→decide (∀ x∈xs,x=rootZ)=false:=fun q=>zdf fun w=>q (w _ hmem);have hzi:=rootZ_iff (x:=xs[k]);refine zz 5 ?_;refine O.iz (ha) (h:=fun p9 cs9 hp9 hr9=>?_);obtain ⟨s3,s4,d3,d4,rfl,k0,k1,k2,k3,k4⟩:=RootRp.sh hr9;refine O.op (.p rfl) (.loadAgg isAgg27 zB rfl hp9) ?_;refine O.opE (.p rfl) (.alloc (cs:=[.int .i64 0,.int .i64 0,.int .i64 0,.slice none 0 0,.slice none 0 0]) zeroValue27 rfl) ?_;rintro _ _ ⟨b4,rfl,rfl⟩;refine zz 3 ?_;generalize xs[k]=z at *;refine S.objIs (b:=b4) (cs' :=[.int .i64 z.1,.int .i64 z.2.1,.int .i64 z.2.2.1,.slice s3 z.2.2.2.1.length d3,.slice s4 z.2.2.2.2.1.length d4]) zC rfl ?_;refine S.frzO zC fun g hs hm h4=>?_;replace hg:=zfs hg hs;replace hR:=melted hR hm
  try replace ha:=ha.mono hs
  try replace hp9:=hp9.mono hs
  replace hm1:=meltTrans hm1 hm;clear hs hm
  by_cases q0:z.1=0
  ·skip
   by_cases q1:z.2.1=0
   ·skip
    by_cases q2:z.2.2.1=0
    ·skip
     by_cases q3:z.2.2.2.1.length+z.2.2.2.2.1.length=0
     ·skip
      refine zz 1 ?_;refine O.op (.p rfl) (.fieldAddr fld27x0 rfl)<|zz 2 ?_;refine O.sF 13 rfl (by exact zdf zD)<|zz 1 ?_;refine O.op (.g rfl rfl) (.fieldAddr fld27x1 rfl)<|zz 2 ?_;refine O.sF 17 rfl (by exact zdf zD)<|zz 2 ?_;refine O.op (.g rfl rfl) (.fieldAddr fld27x2 rfl)<|zz 2 ?_;refine O.sF 22 rfl (by exact zdf zD)<|zz 2 ?_;refine O.op (.g rfl rfl) (.fieldAddr fld27x3 rfl)<|zz 2 ?_;refine O.op (.g rfl rfl) (.fieldAddr fld27x4 rfl)<|zz 4 ?_;refine O.sF 32 rfl (by exact zdf zD)<|zz 9 ?_;exact S.melt hm1 (S.wk (ih (k+1) (by exact ⟨by omega,hmore (hzi.2 ⟨q0,q1,q2,q3⟩)⟩) zD))
     ·
      refine zz 1 ?_;refine O.op (.p rfl) (.fieldAddr fld27x0 rfl)<|zz 2 ?_;refine O.sF 13 rfl (by exact zdf zD)<|zz 1 ?_;refine O.op (.g rfl rfl) (.fieldAddr fld27x1 rfl)<|zz 2 ?_;refine O.sF 17 rfl (by exact zdf zD)<|zz 2 ?_;refine O.op (.g rfl rfl) (.fieldAddr fld27x2 rfl)<|zz 2 ?_;refine O.sF 22 rfl (by exact zdf zD)<|zz 2 ?_;refine O.op (.g rfl rfl) (.fieldAddr fld27x3 rfl)<|zz 2 ?_;refine O.op (.g rfl rfl) (.fieldAddr fld27x4 rfl)<|zz 4 ?_;refine O.sT 32 rfl (by exact zdt zD)<|zz 7 ?_;exact S.rt results109 rfl hR ⟨congrArg Value.bool (hnot fun w=>q3 (hzi.1 w).2.2.2).symm,rfl⟩
    ·
     refine zz 1 ?_;refine O.op (.p rfl) (.fieldAddr fld27x0 rfl)<|zz 2 ?_;refine O.sF 13 rfl (by exact zdf zD)<|zz 1 ?_;refine O.op (.g rfl rfl) (.fieldAddr fld27x1 rfl)<|zz 2 ?_;refine O.sF 17 rfl (by exact zdf zD)<|zz 2 ?_;refine O.op (.g rfl rfl) (.fieldAddr fld27x2 rfl)<|zz 2 ?_;refine O.sT 22 rfl (by exact zdt zD)<|zz 17 ?_;exact S.rt results109 rfl hR ⟨congrArg Value.bool (hnot fun w=>q2 (hzi.1 w).2.2.1).symm,rfl⟩
   ·
    refine zz 1 ?_;refine O.op (.p rfl) (.fieldAddr fld27x0 rfl)<|zz 2 ?_;refine O.sF 13 rfl (by exact zdf zD)<|zz 1 ?_;refine O.op (.g rfl rfl) (.fieldAddr fld27x1 rfl)<|zz 2 ?_;refine O.sT 17 rfl (by exact zdt zD)<|zz 22 ?_;exact S.rt results109 rfl hR ⟨congrArg Value.bool (hnot fun w=>q1 (hzi.1 w).2.1).symm,rfl⟩
  ·
   refine zz 1 ?_;refine O.op (.p rfl) (.fieldAddr fld27x0 rfl)<|zz 2 ?_;refine O.sT 13 rfl (by exact zdt zD)<|zz 26 ?_;exact S.rt results109 rfl hR ⟨congrArg Value.bool (hnot fun w=>q0 (hzi.1 w).1).symm,rfl⟩
 ·clear ih
  have hk:k=xs.length:=by omega
  rw [hk,List.take_length] at hx2;refine zz 5 ?_;exact S.rt results109 rfl hR ⟨congrArg Value.bool (zdt hx2).symm,rfl⟩
theorem lessF_size {f:FrmT} (hin:InK f.1) (hl:FrmOk big f):FrmOk big (lessF f):=by
 obtain ⟨h1,h2,h3,h4,h5,h6,h7,h8,h9,h10,h11,h12,h13,h14,h15⟩:=hl;have z0:0≤big:=Nat.zero_le _
 rcases hin with e|e|e|e|e|e|e|e|e
 ·rw [lessF_1 e];exact ⟨h1,h2,h3,h4,h5,h6,h7,h8,h9,h10,h11,h12,h13,h14,h15⟩
 ·rw [lessF_2 e];exact ⟨h1,h2,z0,z0,z0,h6,h7,h8,h9,h10,h11,h12,h13,h14,h15⟩
 ·rw [lessF_3 e];exact ⟨h1,z0,h3,h4,h5,h6,h7,h8,h9,h10,h11,h12,h13,h14,h15⟩
 ·rw [lessF_4 e];exact ⟨h1,z0,h3,h4,h5,h6,h7,z0,z0,⟨z0,fun _ h=>by cases h⟩,h11,h12,h13,h14,h15⟩
 ·rw [lessF_5 e];exact ⟨h1,h2,h3,h4,h5,h6,h7,h8,h9,h10,⟨z0,fun _ h=>by cases h⟩,h12,h13,h14,h15⟩
 ·rw [lessF_6 e];exact ⟨h1,h2,h3,h4,h5,h6,h7,h8,h9,h10,h11,h12,h13,h14,h15⟩
 ·rw [lessF_7 e];exact ⟨z0,h2,h3,h4,h5,h6,h7,h8,h9,h10,h11,h12,h13,h14,h15⟩
 ·rw [lessF_8 e];exact ⟨z0,h2,z0,z0,h5,⟨z0,fun _ h=>by cases h⟩,⟨z0,fun _ h=>by cases h⟩,h8,h9,h10,⟨z0,fun _ h=>by cases h⟩,h12,h13,h14,h15⟩
 ·rw [lessF_9 e];exact ⟨h1,h2,h3,h4,h5,h6,h7,h8,h9,h10,h11,z0,z0,z0,z0⟩
theorem alone_c {r:Fr} {cs:List Value} {f:FrmT} (hin:InK f.1) (hf:FrmRp.rel r cs f) (hl:FrmOk big f):Con prog 45 #[.agg cs.toArray] r [] (Ret fun v η=>v=.bool (decide (f=bareF f))∧η=[]):=by
 have hf0:=hf;have hok:=kless_ok hin;obtain ⟨a8,a9,a10,a11,a12,a14,a15,a16,a17,a21,a22,a26,a27,c8,c9,c10,c11,c12,c14,c15,c16,c17,c21,c22,c26,c27,rfl,p1,p2,p3,p4,p5,p6,p7,p8,p9,p10,p11,p12,p14,p15,p16,p17,p18,p19,p20,p21,p22,p23,p24,p25,p26,p27,p28⟩:=FrmRp.sh hf0;refine Con.o func45 fun g hg R hR=>?_;have hf:=hf.mono hg;refine S.seq<|S.region rfl<|O.opE (.p rfl) (.box (cs:=[_,_,_,_,_,_,_,_,_,_,_,_,_,_,_,_,_,_,_,_,_,_,_,_,_,_,_,_,_]) rfl rfl) ?_;rintro _ _ ⟨b1,rfl,rfl⟩;refine zz 3 ?_;refine S.frzO zC fun g hs hm h1=>?_;replace hg:=zfs hg hs;replace hR:=melted hR hm
 try replace hf:=hf.mono hs
 clear hs hm;refine S.region rfl<|O.op (.p rfl) (.loadAgg isAgg41 zB rfl h1) ?_;refine O.op (.p rfl) (.build (cs:=[_,_,_,_,_,_,_,_,_,_,_,_,_,_,_,_,_,_,_,_,_,_,_,_,_,_,_,_,_,_]) underlying129 rfl rfl rfl rfl rfl)<|O.opE (.p rfl) (.box (cs:=[_,_,_,_,_,_,_,_,_,_,_,_,_,_,_,_,_,_,_,_,_,_,_,_,_,_,_,_,_,_]) rfl rfl) ?_;rintro _ _ ⟨b6,rfl,rfl⟩;refine zz 3 ?_
 refine S.objIs (b:=b6) (cs' :=[byteV f.1,.int .i64 f.2.1,.int .i64 f.2.2.1,.string (str f.2.2.2.1),.string (str f.2.2.2.2.1),.int .i64 f.2.2.2.2.2.1.1,.int .i64 f.2.2.2.2.2.1.2.1,.int .i64 f.2.2.2.2.2.1.2.2.1,.slice a8 f.2.2.2.2.2.1.2.2.2.1.length c8,.slice a9 f.2.2.2.2.2.1.2.2.2.2.1.length c9,.slice a10 f.2.2.2.2.2.2.1.length c10,.slice a11 f.2.2.2.2.2.2.2.1.1.length c11,.slice a12 f.2.2.2.2.2.2.2.1.2.1.length c12,byteV f.2.2.2.2.2.2.2.2.1.1,.slice a14 f.2.2.2.2.2.2.2.2.1.2.1.length c14,.slice a15 f.2.2.2.2.2.2.2.2.1.2.2.1.length c15,.slice a16 f.2.2.2.2.2.2.2.2.1.2.2.2.1.length c16,.slice a17 f.2.2.2.2.2.2.2.2.2.1.length c17,.int .i64 f.2.2.2.2.2.2.2.2.2.2.1.1.1,.int .i64 f.2.2.2.2.2.2.2.2.2.2.1.1.2.1,.int .i64 f.2.2.2.2.2.2.2.2.2.2.1.1.2.2.1,.slice a21 f.2.2.2.2.2.2.2.2.2.2.1.1.2.2.2.1.length c21,.slice a22 f.2.2.2.2.2.2.2.2.2.2.1.1.2.2.2.2.1.length c22,.int .i64 f.2.2.2.2.2.2.2.2.2.2.1.2.1.1,.int .i64 f.2.2.2.2.2.2.2.2.2.2.1.2.1.2.1,.int .i64 f.2.2.2.2.2.2.2.2.2.2.1.2.1.2.2.1,.slice a26 f.2.2.2.2.2.2.2.2.2.2.1.2.1.2.2.2.1.length c26,.slice a27 f.2.2.2.2.2.2.2.2.2.2.1.2.1.2.2.2.2.1.length c27,.int .i64 f.2.2.2.2.2.2.2.2.2.2.2.1]++[.pointer none]) zC rfl ?_;refine S.regionD (L:=[1,2,5,0,3,4,6]) F.mixed zB ?_;refine zz 2 ?_;refine OD.q 1 rfl<|OD.call0 (.p rfl) zB rfl zB rfl rfl (kinds_c) ?_;rintro v7 _ ⟨b7,c7,m7,rfl,rfl,hm7⟩
 refine OD.doesL (.p rfl) rfl zB (fun _=>.lookupK underlying137 (keyOkB underlying25) zeroValue135 rfl rfl zC) ?_;refine OD.slot 10 (v' :=kindV (kputF f.1) (kgetF f.1) (klessF f.1)) rfl (by simp [hm7,kind_in hin]) ?_;refine .quiet (.p rfl) rfl (fun _=>.fieldV underlying135 rfl zB rfl rfl)<|OD.callS (.p rfl) zB rfl hok rfl rfl zC (kless_c hin hf) ?_;rintro v13 _ ⟨rfl,cs',hf',rfl⟩;refine zz 2 ?_;have hlz:=lessF_size hin hl;have hzl:=zero_less hin;generalize lessF f=z at hf' hlz hzl;obtain ⟨e8,e9,e10,e11,e12,e14,e15,e16,e17,e21,e22,e26,e27,d8,d9,d10,d11,d12,d14,d15,d16,d17,d21,d22,d26,d27,rfl,s1,s2,s3,s4,s5,s6,s7,s8,s9,s10,s11,s12,s14,s15,s16,s17,s18,s19,s20,s21,s22,s23,s24,s25,s26,s27,s28⟩:=FrmRp.sh hf';obtain ⟨b1',b2',l8,l9,l10,l11,l12,l14,l15,l16,l17,l21,l22,l26,l27⟩:=hlz;have l11:=l11.1;have l12:=l12.1;have l16:=l16.1;have l17:=l17.1;have o1:RootOk big z.2.2.2.2.2.1:=⟨l8,l9⟩;have o2:RootOk big z.2.2.2.2.2.2.2.2.2.2.1.1:=⟨l21,l22⟩;have o3:RootOk big z.2.2.2.2.2.2.2.2.2.2.1.2.1:=⟨l26,l27⟩;have oall:∀ x∈[z.2.2.2.2.2.1,z.2.2.2.2.2.2.2.2.2.2.1.1,z.2.2.2.2.2.2.2.2.2.2.1.2.1],RootOk big x:=fun x hx=>by
  rcases List.mem_cons.1 hx with h|hx
  ·rw [h];exact o1
  rcases List.mem_cons.1 hx with h|hx
  ·rw [h];exact o2
  rw [List.mem_singleton.1 hx];exact o3
 have t1:RootRp.rel g.h [.int .i64 z.2.2.2.2.2.1.1,.int .i64 z.2.2.2.2.2.1.2.1,.int .i64 z.2.2.2.2.2.1.2.2.1,.slice e8 z.2.2.2.2.2.1.2.2.2.1.length d8,.slice e9 z.2.2.2.2.2.1.2.2.2.2.1.length d9] z.2.2.2.2.2.1:=RootRp.mk s5 s6 s7 s8 s9;have t2:RootRp.rel g.h [.int .i64 z.2.2.2.2.2.2.2.2.2.2.1.1.1,.int .i64 z.2.2.2.2.2.2.2.2.2.2.1.1.2.1,.int .i64 z.2.2.2.2.2.2.2.2.2.2.1.1.2.2.1,.slice e21 z.2.2.2.2.2.2.2.2.2.2.1.1.2.2.2.1.length d21,.slice e22 z.2.2.2.2.2.2.2.2.2.2.1.1.2.2.2.2.1.length d22] z.2.2.2.2.2.2.2.2.2.2.1.1:=RootRp.mk s18 s19 s20 s21 s22;have t3:RootRp.rel g.h [.int .i64 z.2.2.2.2.2.2.2.2.2.2.1.2.1.1,.int .i64 z.2.2.2.2.2.2.2.2.2.2.1.2.1.2.1,.int .i64 z.2.2.2.2.2.2.2.2.2.2.1.2.1.2.2.1,.slice e26 z.2.2.2.2.2.2.2.2.2.2.1.2.1.2.2.2.1.length d26,.slice e27 z.2.2.2.2.2.2.2.2.2.2.1.2.1.2.2.2.2.1.length d27] z.2.2.2.2.2.2.2.2.2.2.1.2.1:=RootRp.mk s23 s24 s25 s26 s27;unfold big at l8 l9 l10 l11 l12 l14 l15 l16 l17 l21 l22 l26 l27;refine S.frzO zC fun g hs hm h6=>?_;replace hg:=zfs hg hs;replace hR:=melted hR hm
 try replace hf:=hf.mono hs
 try replace h1:=h1.mono hs
 try replace t1:=t1.mono hs
 try replace t2:=t2.mono hs
 try replace t3:=t3.mono hs
 clear hs hm
 by_cases qa:z.2.2.1=0
 ·skip
  by_cases qb:z.2.2.2.1=[]
  ·skip
   by_cases qc:z.2.2.2.2.1=[]
   ·skip
    by_cases qd:∀ x∈[z.2.2.2.2.2.1,z.2.2.2.2.2.2.2.2.2.2.1.1,z.2.2.2.2.2.2.2.2.2.2.1.2.1],x=rootZ
    ·skip
     by_cases qe:z.2.2.2.2.2.2.1.length+z.2.2.2.2.2.2.2.2.2.1.length+z.2.2.2.2.2.2.2.1.1.length+z.2.2.2.2.2.2.2.1.2.1.length=0
     ·skip
      by_cases qf:z.2.2.2.2.2.2.2.2.1.1=0
      ·skip
       by_cases qg:z.2.2.2.2.2.2.2.2.1.2.1.length+z.2.2.2.2.2.2.2.2.1.2.2.1.length+z.2.2.2.2.2.2.2.2.1.2.2.2.1.length=0
       ·skip
        by_cases qh:z.2.2.2.2.2.2.2.2.2.2.2.1=0
        ·skip
         refine S.regionD (L:=.range 119) F.mixed zB ?_;refine zz 6 ?_;refine OD.sT 19 rfl (by exact zdt qa)<|zz 6 ?_;refine .quiet (.g rfl rfl) rfl (fun _=>.eqlS rfl rfl)<|OD.sT 26 rfl (by rw [qb];simp) ?_;refine zz 7 ?_;refine .quiet (.g rfl rfl) rfl (fun _=>.eqlS rfl rfl)<|OD.sT 34 rfl (by rw [qc];simp) ?_;refine zz 6 ?_;refine .quiet (.g rfl rfl) rfl (fun _=>.loadAgg (cs:=[_,_,_,_,_]) isAgg27 zB rfl ((h6.drop 5).take 5)) ?_;refine zz 5 ?_;refine .quiet (.g rfl rfl) rfl (fun _=>.loadAgg (cs:=[_,_,_,_,_]) isAgg27 zB rfl ((h6.drop 18).take 5)) ?_;refine zz 5 ?_;refine .quiet (.g rfl rfl) rfl (fun _=>.loadAgg (cs:=[_,_,_,_,_]) isAgg27 zB rfl ((h6.drop 23).take 5)) ?_
         refine OD.litP (T:=(Rp.cells 5)) (ys:=[_,_,_]) (.g rfl rfl) zB underlying237 elem27 zE rfl rfl ⟨⟨rfl,rfl,by first|(simp;done)|(intro v hv;simp [Value.cells] at hv;rcases hv with rfl|rfl<;>rfl)|(refine List.forall_mem_cons.2 ⟨rfl,?_⟩;repeat (first|exact (fun _ h=>absurd h List.not_mem_nil)|refine List.forall_mem_cons.2 ⟨rfl,?_⟩))⟩,⟨rfl,rfl,by first|(simp;done)|(intro v hv;simp [Value.cells] at hv;rcases hv with rfl|rfl<;>rfl)|(refine List.forall_mem_cons.2 ⟨rfl,?_⟩;repeat (first|exact (fun _ h=>absurd h List.not_mem_nil)|refine List.forall_mem_cons.2 ⟨rfl,?_⟩))⟩,⟨rfl,rfl,by first|(simp;done)|(intro v hv;simp [Value.cells] at hv;rcases hv with rfl|rfl<;>rfl)|(refine List.forall_mem_cons.2 ⟨rfl,?_⟩;repeat (first|exact (fun _ h=>absurd h List.not_mem_nil)|refine List.forall_mem_cons.2 ⟨rfl,?_⟩))⟩,trivial⟩ zE (fun a54 c54=>?_)
         refine OD.callB (.g rfl rfl) zB rfl zB rfl rfl (bs:=[OwnP (Rp.cells 5) 27 (.slice a54 3 c54) [[.int .i64 z.2.2.2.2.2.1.1,.int .i64 z.2.2.2.2.2.1.2.1,.int .i64 z.2.2.2.2.2.1.2.2.1,.slice e8 z.2.2.2.2.2.1.2.2.2.1.length d8,.slice e9 z.2.2.2.2.2.1.2.2.2.2.1.length d9],[.int .i64 z.2.2.2.2.2.2.2.2.2.2.1.1.1,.int .i64 z.2.2.2.2.2.2.2.2.2.2.1.1.2.1,.int .i64 z.2.2.2.2.2.2.2.2.2.2.1.1.2.2.1,.slice e21 z.2.2.2.2.2.2.2.2.2.2.1.1.2.2.2.1.length d21,.slice e22 z.2.2.2.2.2.2.2.2.2.2.1.1.2.2.2.2.1.length d22],[.int .i64 z.2.2.2.2.2.2.2.2.2.2.1.2.1.1,.int .i64 z.2.2.2.2.2.2.2.2.2.2.1.2.1.2.1,.int .i64 z.2.2.2.2.2.2.2.2.2.2.1.2.1.2.2.1,.slice e26 z.2.2.2.2.2.2.2.2.2.2.1.2.1.2.2.2.1.length d26,.slice e27 z.2.2.2.2.2.2.2.2.2.2.1.2.1.2.2.2.2.1.length d27]]]) zI (fun m hm hd=>none_c (xs:=[z.2.2.2.2.2.1,z.2.2.2.2.2.2.2.2.2.2.1.1,z.2.2.2.2.2.2.2.2.2.2.1.2.1]) (Arr.ofCells (hm.arr.right hd) ⟨RootRp.mono (Fr.sub_add_left _ _) t1,RootRp.mono (Fr.sub_add_left _ _) t2,RootRp.mono (Fr.sub_add_left _ _) t3,trivial⟩ rfl) oall) ?_;rintro _ _ ⟨rfl,rfl⟩;refine OD.sT 55 rfl (by exact zdt qd)<|zz 32 ?_;refine OD.sT 87 rfl (by exact zdt zD)<|zz 9 ?_;refine OD.sT 96 rfl (by rw [qf];rfl)<|zz 26 ?_;refine OD.sT 122 rfl (by exact zdt zD)<|zz 8 ?_;refine OD.sT 130 rfl (by exact zdt qh)<|zz 3 ?_
         exact S.rt results45 rfl hR ⟨congrArg Value.bool (zdt (hzl.1 ⟨qa,qb,qc,qd,qe,qf,qg,qh⟩)).symm,rfl⟩
        ·
         refine S.regionD (L:=.range 119) F.mixed zB ?_;refine zz 6 ?_;refine OD.sT 19 rfl (by exact zdt qa)<|zz 6 ?_;refine .quiet (.g rfl rfl) rfl (fun _=>.eqlS rfl rfl)<|OD.sT 26 rfl (by rw [qb];simp) ?_;refine zz 7 ?_;refine .quiet (.g rfl rfl) rfl (fun _=>.eqlS rfl rfl)<|OD.sT 34 rfl (by rw [qc];simp) ?_;refine zz 6 ?_;refine .quiet (.g rfl rfl) rfl (fun _=>.loadAgg (cs:=[_,_,_,_,_]) isAgg27 zB rfl ((h6.drop 5).take 5)) ?_;refine zz 5 ?_;refine .quiet (.g rfl rfl) rfl (fun _=>.loadAgg (cs:=[_,_,_,_,_]) isAgg27 zB rfl ((h6.drop 18).take 5)) ?_;refine zz 5 ?_;refine .quiet (.g rfl rfl) rfl (fun _=>.loadAgg (cs:=[_,_,_,_,_]) isAgg27 zB rfl ((h6.drop 23).take 5)) ?_
         refine OD.litP (T:=(Rp.cells 5)) (ys:=[_,_,_]) (.g rfl rfl) zB underlying237 elem27 zE rfl rfl ⟨⟨rfl,rfl,by first|(simp;done)|(intro v hv;simp [Value.cells] at hv;rcases hv with rfl|rfl<;>rfl)|(refine List.forall_mem_cons.2 ⟨rfl,?_⟩;repeat (first|exact (fun _ h=>absurd h List.not_mem_nil)|refine List.forall_mem_cons.2 ⟨rfl,?_⟩))⟩,⟨rfl,rfl,by first|(simp;done)|(intro v hv;simp [Value.cells] at hv;rcases hv with rfl|rfl<;>rfl)|(refine List.forall_mem_cons.2 ⟨rfl,?_⟩;repeat (first|exact (fun _ h=>absurd h List.not_mem_nil)|refine List.forall_mem_cons.2 ⟨rfl,?_⟩))⟩,⟨rfl,rfl,by first|(simp;done)|(intro v hv;simp [Value.cells] at hv;rcases hv with rfl|rfl<;>rfl)|(refine List.forall_mem_cons.2 ⟨rfl,?_⟩;repeat (first|exact (fun _ h=>absurd h List.not_mem_nil)|refine List.forall_mem_cons.2 ⟨rfl,?_⟩))⟩,trivial⟩ zE (fun a54 c54=>?_)
         refine OD.callB (.g rfl rfl) zB rfl zB rfl rfl (bs:=[OwnP (Rp.cells 5) 27 (.slice a54 3 c54) [[.int .i64 z.2.2.2.2.2.1.1,.int .i64 z.2.2.2.2.2.1.2.1,.int .i64 z.2.2.2.2.2.1.2.2.1,.slice e8 z.2.2.2.2.2.1.2.2.2.1.length d8,.slice e9 z.2.2.2.2.2.1.2.2.2.2.1.length d9],[.int .i64 z.2.2.2.2.2.2.2.2.2.2.1.1.1,.int .i64 z.2.2.2.2.2.2.2.2.2.2.1.1.2.1,.int .i64 z.2.2.2.2.2.2.2.2.2.2.1.1.2.2.1,.slice e21 z.2.2.2.2.2.2.2.2.2.2.1.1.2.2.2.1.length d21,.slice e22 z.2.2.2.2.2.2.2.2.2.2.1.1.2.2.2.2.1.length d22],[.int .i64 z.2.2.2.2.2.2.2.2.2.2.1.2.1.1,.int .i64 z.2.2.2.2.2.2.2.2.2.2.1.2.1.2.1,.int .i64 z.2.2.2.2.2.2.2.2.2.2.1.2.1.2.2.1,.slice e26 z.2.2.2.2.2.2.2.2.2.2.1.2.1.2.2.2.1.length d26,.slice e27 z.2.2.2.2.2.2.2.2.2.2.1.2.1.2.2.2.2.1.length d27]]]) zI (fun m hm hd=>none_c (xs:=[z.2.2.2.2.2.1,z.2.2.2.2.2.2.2.2.2.2.1.1,z.2.2.2.2.2.2.2.2.2.2.1.2.1]) (Arr.ofCells (hm.arr.right hd) ⟨RootRp.mono (Fr.sub_add_left _ _) t1,RootRp.mono (Fr.sub_add_left _ _) t2,RootRp.mono (Fr.sub_add_left _ _) t3,trivial⟩ rfl) oall) ?_;rintro _ _ ⟨rfl,rfl⟩;refine OD.sT 55 rfl (by exact zdt qd)<|zz 32 ?_;refine OD.sT 87 rfl (by exact zdt zD)<|zz 9 ?_;refine OD.sT 96 rfl (by rw [qf];rfl)<|zz 26 ?_;refine OD.sT 122 rfl (by exact zdt zD)<|zz 8 ?_;refine OD.sF 130 rfl (by exact zdf qh)<|zz 3 ?_
         exact S.rt results45 rfl hR ⟨congrArg Value.bool (zdf fun w=>qh (hzl.2 w).2.2.2.2.2.2.2).symm,rfl⟩
       ·
        refine S.regionD (L:=.range 119) F.mixed zB ?_;refine zz 6 ?_;refine OD.sT 19 rfl (by exact zdt qa)<|zz 6 ?_;refine .quiet (.g rfl rfl) rfl (fun _=>.eqlS rfl rfl)<|OD.sT 26 rfl (by rw [qb];simp) ?_;refine zz 7 ?_;refine .quiet (.g rfl rfl) rfl (fun _=>.eqlS rfl rfl)<|OD.sT 34 rfl (by rw [qc];simp) ?_;refine zz 6 ?_;refine .quiet (.g rfl rfl) rfl (fun _=>.loadAgg (cs:=[_,_,_,_,_]) isAgg27 zB rfl ((h6.drop 5).take 5)) ?_;refine zz 5 ?_;refine .quiet (.g rfl rfl) rfl (fun _=>.loadAgg (cs:=[_,_,_,_,_]) isAgg27 zB rfl ((h6.drop 18).take 5)) ?_;refine zz 5 ?_;refine .quiet (.g rfl rfl) rfl (fun _=>.loadAgg (cs:=[_,_,_,_,_]) isAgg27 zB rfl ((h6.drop 23).take 5)) ?_
        refine OD.litP (T:=(Rp.cells 5)) (ys:=[_,_,_]) (.g rfl rfl) zB underlying237 elem27 zE rfl rfl ⟨⟨rfl,rfl,by first|(simp;done)|(intro v hv;simp [Value.cells] at hv;rcases hv with rfl|rfl<;>rfl)|(refine List.forall_mem_cons.2 ⟨rfl,?_⟩;repeat (first|exact (fun _ h=>absurd h List.not_mem_nil)|refine List.forall_mem_cons.2 ⟨rfl,?_⟩))⟩,⟨rfl,rfl,by first|(simp;done)|(intro v hv;simp [Value.cells] at hv;rcases hv with rfl|rfl<;>rfl)|(refine List.forall_mem_cons.2 ⟨rfl,?_⟩;repeat (first|exact (fun _ h=>absurd h List.not_mem_nil)|refine List.forall_mem_cons.2 ⟨rfl,?_⟩))⟩,⟨rfl,rfl,by first|(simp;done)|(intro v hv;simp [Value.cells] at hv;rcases hv with rfl|rfl<;>rfl)|(refine List.forall_mem_cons.2 ⟨rfl,?_⟩;repeat (first|exact (fun _ h=>absurd h List.not_mem_nil)|refine List.forall_mem_cons.2 ⟨rfl,?_⟩))⟩,trivial⟩ zE (fun a54 c54=>?_)
        refine OD.callB (.g rfl rfl) zB rfl zB rfl rfl (bs:=[OwnP (Rp.cells 5) 27 (.slice a54 3 c54) [[.int .i64 z.2.2.2.2.2.1.1,.int .i64 z.2.2.2.2.2.1.2.1,.int .i64 z.2.2.2.2.2.1.2.2.1,.slice e8 z.2.2.2.2.2.1.2.2.2.1.length d8,.slice e9 z.2.2.2.2.2.1.2.2.2.2.1.length d9],[.int .i64 z.2.2.2.2.2.2.2.2.2.2.1.1.1,.int .i64 z.2.2.2.2.2.2.2.2.2.2.1.1.2.1,.int .i64 z.2.2.2.2.2.2.2.2.2.2.1.1.2.2.1,.slice e21 z.2.2.2.2.2.2.2.2.2.2.1.1.2.2.2.1.length d21,.slice e22 z.2.2.2.2.2.2.2.2.2.2.1.1.2.2.2.2.1.length d22],[.int .i64 z.2.2.2.2.2.2.2.2.2.2.1.2.1.1,.int .i64 z.2.2.2.2.2.2.2.2.2.2.1.2.1.2.1,.int .i64 z.2.2.2.2.2.2.2.2.2.2.1.2.1.2.2.1,.slice e26 z.2.2.2.2.2.2.2.2.2.2.1.2.1.2.2.2.1.length d26,.slice e27 z.2.2.2.2.2.2.2.2.2.2.1.2.1.2.2.2.2.1.length d27]]]) zI (fun m hm hd=>none_c (xs:=[z.2.2.2.2.2.1,z.2.2.2.2.2.2.2.2.2.2.1.1,z.2.2.2.2.2.2.2.2.2.2.1.2.1]) (Arr.ofCells (hm.arr.right hd) ⟨RootRp.mono (Fr.sub_add_left _ _) t1,RootRp.mono (Fr.sub_add_left _ _) t2,RootRp.mono (Fr.sub_add_left _ _) t3,trivial⟩ rfl) oall) ?_;rintro _ _ ⟨rfl,rfl⟩;refine OD.sT 55 rfl (by exact zdt qd)<|zz 32 ?_;refine OD.sT 87 rfl (by exact zdt zD)<|zz 9 ?_;refine OD.sT 96 rfl (by rw [qf];rfl)<|zz 26 ?_;refine OD.sF 122 rfl (by exact zdf zD)<|zz 11 ?_;exact S.rt results45 rfl hR ⟨congrArg Value.bool (zdf fun w=>qg (hzl.2 w).2.2.2.2.2.2.1).symm,rfl⟩
      ·
       refine S.regionD (L:=.range 119) F.mixed zB ?_;refine zz 6 ?_;refine OD.sT 19 rfl (by exact zdt qa)<|zz 6 ?_;refine .quiet (.g rfl rfl) rfl (fun _=>.eqlS rfl rfl)<|OD.sT 26 rfl (by rw [qb];simp) ?_;refine zz 7 ?_;refine .quiet (.g rfl rfl) rfl (fun _=>.eqlS rfl rfl)<|OD.sT 34 rfl (by rw [qc];simp) ?_;refine zz 6 ?_;refine .quiet (.g rfl rfl) rfl (fun _=>.loadAgg (cs:=[_,_,_,_,_]) isAgg27 zB rfl ((h6.drop 5).take 5)) ?_;refine zz 5 ?_;refine .quiet (.g rfl rfl) rfl (fun _=>.loadAgg (cs:=[_,_,_,_,_]) isAgg27 zB rfl ((h6.drop 18).take 5)) ?_;refine zz 5 ?_;refine .quiet (.g rfl rfl) rfl (fun _=>.loadAgg (cs:=[_,_,_,_,_]) isAgg27 zB rfl ((h6.drop 23).take 5)) ?_
       refine OD.litP (T:=(Rp.cells 5)) (ys:=[_,_,_]) (.g rfl rfl) zB underlying237 elem27 zE rfl rfl ⟨⟨rfl,rfl,by first|(simp;done)|(intro v hv;simp [Value.cells] at hv;rcases hv with rfl|rfl<;>rfl)|(refine List.forall_mem_cons.2 ⟨rfl,?_⟩;repeat (first|exact (fun _ h=>absurd h List.not_mem_nil)|refine List.forall_mem_cons.2 ⟨rfl,?_⟩))⟩,⟨rfl,rfl,by first|(simp;done)|(intro v hv;simp [Value.cells] at hv;rcases hv with rfl|rfl<;>rfl)|(refine List.forall_mem_cons.2 ⟨rfl,?_⟩;repeat (first|exact (fun _ h=>absurd h List.not_mem_nil)|refine List.forall_mem_cons.2 ⟨rfl,?_⟩))⟩,⟨rfl,rfl,by first|(simp;done)|(intro v hv;simp [Value.cells] at hv;rcases hv with rfl|rfl<;>rfl)|(refine List.forall_mem_cons.2 ⟨rfl,?_⟩;repeat (first|exact (fun _ h=>absurd h List.not_mem_nil)|refine List.forall_mem_cons.2 ⟨rfl,?_⟩))⟩,trivial⟩ zE (fun a54 c54=>?_)
       refine OD.callB (.g rfl rfl) zB rfl zB rfl rfl (bs:=[OwnP (Rp.cells 5) 27 (.slice a54 3 c54) [[.int .i64 z.2.2.2.2.2.1.1,.int .i64 z.2.2.2.2.2.1.2.1,.int .i64 z.2.2.2.2.2.1.2.2.1,.slice e8 z.2.2.2.2.2.1.2.2.2.1.length d8,.slice e9 z.2.2.2.2.2.1.2.2.2.2.1.length d9],[.int .i64 z.2.2.2.2.2.2.2.2.2.2.1.1.1,.int .i64 z.2.2.2.2.2.2.2.2.2.2.1.1.2.1,.int .i64 z.2.2.2.2.2.2.2.2.2.2.1.1.2.2.1,.slice e21 z.2.2.2.2.2.2.2.2.2.2.1.1.2.2.2.1.length d21,.slice e22 z.2.2.2.2.2.2.2.2.2.2.1.1.2.2.2.2.1.length d22],[.int .i64 z.2.2.2.2.2.2.2.2.2.2.1.2.1.1,.int .i64 z.2.2.2.2.2.2.2.2.2.2.1.2.1.2.1,.int .i64 z.2.2.2.2.2.2.2.2.2.2.1.2.1.2.2.1,.slice e26 z.2.2.2.2.2.2.2.2.2.2.1.2.1.2.2.2.1.length d26,.slice e27 z.2.2.2.2.2.2.2.2.2.2.1.2.1.2.2.2.2.1.length d27]]]) zI (fun m hm hd=>none_c (xs:=[z.2.2.2.2.2.1,z.2.2.2.2.2.2.2.2.2.2.1.1,z.2.2.2.2.2.2.2.2.2.2.1.2.1]) (Arr.ofCells (hm.arr.right hd) ⟨RootRp.mono (Fr.sub_add_left _ _) t1,RootRp.mono (Fr.sub_add_left _ _) t2,RootRp.mono (Fr.sub_add_left _ _) t3,trivial⟩ rfl) oall) ?_;rintro _ _ ⟨rfl,rfl⟩;refine OD.sT 55 rfl (by exact zdt qd)<|zz 32 ?_;refine OD.sT 87 rfl (by exact zdt zD)<|zz 9 ?_;refine OD.sF 96 rfl (by exact zdf (fun w=>qf (byte_eq (b:=0).1 w))) ?_;refine zz 37 ?_;exact S.rt results45 rfl hR ⟨congrArg Value.bool (zdf fun w=>qf (hzl.2 w).2.2.2.2.2.1).symm,rfl⟩
     ·
      refine S.regionD (L:=.range 119) F.mixed zB ?_;refine zz 6 ?_;refine OD.sT 19 rfl (by exact zdt qa)<|zz 6 ?_;refine .quiet (.g rfl rfl) rfl (fun _=>.eqlS rfl rfl)<|OD.sT 26 rfl (by rw [qb];simp) ?_;refine zz 7 ?_;refine .quiet (.g rfl rfl) rfl (fun _=>.eqlS rfl rfl)<|OD.sT 34 rfl (by rw [qc];simp) ?_;refine zz 6 ?_;refine .quiet (.g rfl rfl) rfl (fun _=>.loadAgg (cs:=[_,_,_,_,_]) isAgg27 zB rfl ((h6.drop 5).take 5)) ?_;refine zz 5 ?_;refine .quiet (.g rfl rfl) rfl (fun _=>.loadAgg (cs:=[_,_,_,_,_]) isAgg27 zB rfl ((h6.drop 18).take 5)) ?_;refine zz 5 ?_;refine .quiet (.g rfl rfl) rfl (fun _=>.loadAgg (cs:=[_,_,_,_,_]) isAgg27 zB rfl ((h6.drop 23).take 5)) ?_
      refine OD.litP (T:=(Rp.cells 5)) (ys:=[_,_,_]) (.g rfl rfl) zB underlying237 elem27 zE rfl rfl ⟨⟨rfl,rfl,by first|(simp;done)|(intro v hv;simp [Value.cells] at hv;rcases hv with rfl|rfl<;>rfl)|(refine List.forall_mem_cons.2 ⟨rfl,?_⟩;repeat (first|exact (fun _ h=>absurd h List.not_mem_nil)|refine List.forall_mem_cons.2 ⟨rfl,?_⟩))⟩,⟨rfl,rfl,by first|(simp;done)|(intro v hv;simp [Value.cells] at hv;rcases hv with rfl|rfl<;>rfl)|(refine List.forall_mem_cons.2 ⟨rfl,?_⟩;repeat (first|exact (fun _ h=>absurd h List.not_mem_nil)|refine List.forall_mem_cons.2 ⟨rfl,?_⟩))⟩,⟨rfl,rfl,by first|(simp;done)|(intro v hv;simp [Value.cells] at hv;rcases hv with rfl|rfl<;>rfl)|(refine List.forall_mem_cons.2 ⟨rfl,?_⟩;repeat (first|exact (fun _ h=>absurd h List.not_mem_nil)|refine List.forall_mem_cons.2 ⟨rfl,?_⟩))⟩,trivial⟩ zE (fun a54 c54=>?_)
      refine OD.callB (.g rfl rfl) zB rfl zB rfl rfl (bs:=[OwnP (Rp.cells 5) 27 (.slice a54 3 c54) [[.int .i64 z.2.2.2.2.2.1.1,.int .i64 z.2.2.2.2.2.1.2.1,.int .i64 z.2.2.2.2.2.1.2.2.1,.slice e8 z.2.2.2.2.2.1.2.2.2.1.length d8,.slice e9 z.2.2.2.2.2.1.2.2.2.2.1.length d9],[.int .i64 z.2.2.2.2.2.2.2.2.2.2.1.1.1,.int .i64 z.2.2.2.2.2.2.2.2.2.2.1.1.2.1,.int .i64 z.2.2.2.2.2.2.2.2.2.2.1.1.2.2.1,.slice e21 z.2.2.2.2.2.2.2.2.2.2.1.1.2.2.2.1.length d21,.slice e22 z.2.2.2.2.2.2.2.2.2.2.1.1.2.2.2.2.1.length d22],[.int .i64 z.2.2.2.2.2.2.2.2.2.2.1.2.1.1,.int .i64 z.2.2.2.2.2.2.2.2.2.2.1.2.1.2.1,.int .i64 z.2.2.2.2.2.2.2.2.2.2.1.2.1.2.2.1,.slice e26 z.2.2.2.2.2.2.2.2.2.2.1.2.1.2.2.2.1.length d26,.slice e27 z.2.2.2.2.2.2.2.2.2.2.1.2.1.2.2.2.2.1.length d27]]]) zI (fun m hm hd=>none_c (xs:=[z.2.2.2.2.2.1,z.2.2.2.2.2.2.2.2.2.2.1.1,z.2.2.2.2.2.2.2.2.2.2.1.2.1]) (Arr.ofCells (hm.arr.right hd) ⟨RootRp.mono (Fr.sub_add_left _ _) t1,RootRp.mono (Fr.sub_add_left _ _) t2,RootRp.mono (Fr.sub_add_left _ _) t3,trivial⟩ rfl) oall) ?_;rintro _ _ ⟨rfl,rfl⟩;refine OD.sT 55 rfl (by exact zdt qd)<|zz 32 ?_;refine OD.sF 87 rfl (by exact zdf zD)<|zz 46 ?_;exact S.rt results45 rfl hR ⟨congrArg Value.bool (zdf fun w=>qe (hzl.2 w).2.2.2.2.1).symm,rfl⟩
    ·
     refine S.regionD (L:=.range 119) F.mixed zB ?_;refine zz 6 ?_;refine OD.sT 19 rfl (by exact zdt qa)<|zz 6 ?_;refine .quiet (.g rfl rfl) rfl (fun _=>.eqlS rfl rfl)<|OD.sT 26 rfl (by rw [qb];simp) ?_;refine zz 7 ?_;refine .quiet (.g rfl rfl) rfl (fun _=>.eqlS rfl rfl)<|OD.sT 34 rfl (by rw [qc];simp) ?_;refine zz 6 ?_;refine .quiet (.g rfl rfl) rfl (fun _=>.loadAgg (cs:=[_,_,_,_,_]) isAgg27 zB rfl ((h6.drop 5).take 5)) ?_;refine zz 5 ?_;refine .quiet (.g rfl rfl) rfl (fun _=>.loadAgg (cs:=[_,_,_,_,_]) isAgg27 zB rfl ((h6.drop 18).take 5)) ?_;refine zz 5 ?_;refine .quiet (.g rfl rfl) rfl (fun _=>.loadAgg (cs:=[_,_,_,_,_]) isAgg27 zB rfl ((h6.drop 23).take 5)) ?_
     refine OD.litP (T:=(Rp.cells 5)) (ys:=[_,_,_]) (.g rfl rfl) zB underlying237 elem27 zE rfl rfl ⟨⟨rfl,rfl,by first|(simp;done)|(intro v hv;simp [Value.cells] at hv;rcases hv with rfl|rfl<;>rfl)|(refine List.forall_mem_cons.2 ⟨rfl,?_⟩;repeat (first|exact (fun _ h=>absurd h List.not_mem_nil)|refine List.forall_mem_cons.2 ⟨rfl,?_⟩))⟩,⟨rfl,rfl,by first|(simp;done)|(intro v hv;simp [Value.cells] at hv;rcases hv with rfl|rfl<;>rfl)|(refine List.forall_mem_cons.2 ⟨rfl,?_⟩;repeat (first|exact (fun _ h=>absurd h List.not_mem_nil)|refine List.forall_mem_cons.2 ⟨rfl,?_⟩))⟩,⟨rfl,rfl,by first|(simp;done)|(intro v hv;simp [Value.cells] at hv;rcases hv with rfl|rfl<;>rfl)|(refine List.forall_mem_cons.2 ⟨rfl,?_⟩;repeat (first|exact (fun _ h=>absurd h List.not_mem_nil)|refine List.forall_mem_cons.2 ⟨rfl,?_⟩))⟩,trivial⟩ zE (fun a54 c54=>?_)
     refine OD.callB (.g rfl rfl) zB rfl zB rfl rfl (bs:=[OwnP (Rp.cells 5) 27 (.slice a54 3 c54) [[.int .i64 z.2.2.2.2.2.1.1,.int .i64 z.2.2.2.2.2.1.2.1,.int .i64 z.2.2.2.2.2.1.2.2.1,.slice e8 z.2.2.2.2.2.1.2.2.2.1.length d8,.slice e9 z.2.2.2.2.2.1.2.2.2.2.1.length d9],[.int .i64 z.2.2.2.2.2.2.2.2.2.2.1.1.1,.int .i64 z.2.2.2.2.2.2.2.2.2.2.1.1.2.1,.int .i64 z.2.2.2.2.2.2.2.2.2.2.1.1.2.2.1,.slice e21 z.2.2.2.2.2.2.2.2.2.2.1.1.2.2.2.1.length d21,.slice e22 z.2.2.2.2.2.2.2.2.2.2.1.1.2.2.2.2.1.length d22],[.int .i64 z.2.2.2.2.2.2.2.2.2.2.1.2.1.1,.int .i64 z.2.2.2.2.2.2.2.2.2.2.1.2.1.2.1,.int .i64 z.2.2.2.2.2.2.2.2.2.2.1.2.1.2.2.1,.slice e26 z.2.2.2.2.2.2.2.2.2.2.1.2.1.2.2.2.1.length d26,.slice e27 z.2.2.2.2.2.2.2.2.2.2.1.2.1.2.2.2.2.1.length d27]]]) zI (fun m hm hd=>none_c (xs:=[z.2.2.2.2.2.1,z.2.2.2.2.2.2.2.2.2.2.1.1,z.2.2.2.2.2.2.2.2.2.2.1.2.1]) (Arr.ofCells (hm.arr.right hd) ⟨RootRp.mono (Fr.sub_add_left _ _) t1,RootRp.mono (Fr.sub_add_left _ _) t2,RootRp.mono (Fr.sub_add_left _ _) t3,trivial⟩ rfl) oall) ?_;rintro _ _ ⟨rfl,rfl⟩;refine OD.sF 55 rfl (by exact zdf qd)<|zz 78 ?_;exact S.rt results45 rfl hR ⟨congrArg Value.bool (zdf fun w=>qd (hzl.2 w).2.2.2.1).symm,rfl⟩
   ·
    refine S.regionD (L:=.range 119) F.mixed zB ?_;refine zz 6 ?_;refine OD.sT 19 rfl (by exact zdt qa)<|zz 6 ?_;refine .quiet (.g rfl rfl) rfl (fun _=>.eqlS rfl rfl)<|OD.sT 26 rfl (by rw [qb];simp) ?_;refine zz 7 ?_;refine .quiet (.g rfl rfl) rfl (fun _=>.eqlS rfl rfl)<|OD.sF 34 rfl (by exact zdf (fun q=>qc (str_eqL q))) ?_;refine zz 99 ?_;exact S.rt results45 rfl hR ⟨congrArg Value.bool (zdf fun w=>qc (hzl.2 w).2.2.1).symm,rfl⟩
  ·
   refine S.regionD (L:=.range 119) F.mixed zB ?_;refine zz 6 ?_;refine OD.sT 19 rfl (by exact zdt qa)<|zz 6 ?_;refine .quiet (.g rfl rfl) rfl (fun _=>.eqlS rfl rfl)<|OD.sF 26 rfl (by exact zdf (fun q=>qb (str_eqL q))) ?_;refine zz 107 ?_;exact S.rt results45 rfl hR ⟨congrArg Value.bool (zdf fun w=>qb (hzl.2 w).2.1).symm,rfl⟩
 ·
  refine S.regionD (L:=.range 119) F.mixed zB ?_;refine zz 6 ?_;refine OD.sF 19 rfl (by exact zdf qa)<|zz 114 ?_;exact S.rt results45 rfl hR ⟨congrArg Value.bool (zdf fun w=>qa (hzl.2 w).1).symm,rfl⟩
theorem triedFB_ret {g:Gr} {be bx:Nat} {x:Value} {z:Int} {T1 T2:TypeId} {w:World} {R:Ending→World→Prop} {η:List SProp} (hw:Holds w g (obj bx T1 [x]::obj be T2 [.int .i64 z]::η)) (hR:∀ w,Holds w g (obj bx T1 [x]::obj be T2 [.int .i64 z]::η)→R (.returned (.tuple #[x,.int .i64 z])) w) :
  CallsD prog 108 #[.pointer (some ⟨be,0,none⟩),.pointer (some ⟨bx,0,none⟩)] .returning w (DPost2 prog g bx be 22 39 R):=by
 refine (callsD_rec (R:=fun e w=>(∃ v,e=.returned v)∧Holds w g (obj bx T1 [x]::obj be T2 [.int .i64 z]::η)) [.pointer (some ⟨be,0,none⟩),.pointer (some ⟨bx,0,none⟩)] rfl func108 rfl rfl rfl rfl hw ?_).mono ?_
 rotate_left
 ·rintro e u' w' ⟨rfl,⟨v,rfl⟩,h⟩
  exact ⟨⟨v,rfl⟩,rfl,T1,T2,_,_,_,_,η,h,LoadsAs.flat flat22,LoadsAs.flat flat39,hR w' h⟩
 refine S.seq<|S.region rfl<|O.q 1 rfl<|O.op (.p rfl) (.neqIN underlying20 rfl)<|O.nil<|S.condF rfl<|S.skip<|S.end0 results108 fun w hw=>?_;exact ⟨⟨_,rfl⟩,hw⟩
theorem triedFB_pan {g:Gr} {be bx:Nat} {x:Value} {z z' :Int} {T1 T2:TypeId} {w:World} {R:Ending→World→Prop} {η:List SProp} (hw:Holds w g (obj bx T1 [x]::obj be T2 [.int .i64 z']::η))
  (hR:∀ w,Holds w g (obj bx T1 [.slice none 0 0]::obj be T2 [.int .i64 z]::η)→R (.returned (.tuple #[.slice none 0 0,.int .i64 z])) w) :
  CallsD prog 108 #[.pointer (some ⟨be,0,none⟩),.pointer (some ⟨bx,0,none⟩)] (.panicking (errP 39 z)) w (DPost2 prog g bx be 22 39 R):=by
 refine (callsD_rec (R:=fun e w=>(∃ v,e=.returned v)∧Holds w g (obj bx T1 [.slice none 0 0]::obj be T2 [.int .i64 z]::η)) [.pointer (some ⟨be,0,none⟩),.pointer (some ⟨bx,0,none⟩)] rfl func108 rfl rfl rfl rfl hw ?_).mono ?_
 rotate_left
 ·rintro e u' w' ⟨rfl,⟨v,rfl⟩,h⟩
  exact ⟨⟨v,rfl⟩,rfl,T1,T2,_,_,_,_,η,h,LoadsAs.flat flat22,LoadsAs.flat flat39,hR w' h⟩
 refine zz 3 ?_;refine O.op (.p rfl) (.neqIV underlying20 rfl)<|zz 10 ?_;refine O.op (.p rfl) (.assertYes underlying39 rfl)<|zz 20 ?_;refine O.nil<|S.end0 results108 fun w hw=>?_;exact ⟨⟨_,rfl⟩,hw.picks zM⟩
theorem triedFB_c {r:Fr} {f:Nat} {first cap:Array Value} {K:Value→List SProp→Prop} {X:Int→Prop} (hc:callable prog f=true) (hf1:(Value.func (.func f) first cap).oneCell' =true) (hK1:∀ u ζ,K u ζ→u.oneCell' =true)
  (con:Con prog f (first++#[]++cap) r [] (RetP K (fun ch η=>∃ z,ch=errP 39 z∧X z∧η=[]))) :
  Con prog 43 #[.func (.func f) first cap] r [] (Ret fun v η=>(∃ u,K u η∧v=.tuple #[u,.int .i64 0])∨(∃ z,X z∧η=[]∧v=.tuple #[.slice none 0 0,.int .i64 z])):=by
 refine Con.of (n:=7) [.func (.func f) first cap] rfl func43 rfl rfl rfl fun g hg R hR=>?_;refine S.seq<|S.region rfl<|O.opE (.p rfl) (.alloc (cs:=[.slice none 0 0]) zeroValue22 rfl) ?_;rintro _ _ ⟨b2,rfl,rfl⟩;refine O.opE (.p rfl) (.alloc (cs:=[.int .i64 0]) zeroValue39 rfl) ?_;rintro _ _ ⟨b3,rfl,rfl⟩;refine zz 4 ?_;refine O.defer rfl rfl rfl rfl<|zz 4 ?_;refine O.callP0D (.p rfl) rfl hc rfl rfl (con.sub hg) (fun a ch η' w hF hX hW=>by (obtain ⟨z,rfl,hx,rfl⟩:=hX;exact leavesCell2 results43 hF rfl rfl zG zB (triedFB_pan (hW.picks zM) fun w hw=>Holds.end_ hR hw ⟨_,.inr ⟨z,hx,rfl,rfl⟩,zM⟩))) ?_;rintro v6 _ hk6;have hone:=hK1 _ _ hk6;refine O.perm (List.perm_append_comm) ?_;simp only [List.cons_append,List.nil_append];refine zz 2 ?_;refine O.nil<|S.retL fun a w hf hd hw=>?_;exact leavesCell2 results43 hf rfl rfl zG zB (triedFB_ret (hw.picks zM) fun w hw=>Holds.end_ hR hw ⟨_,.inl ⟨_,hk6,rfl⟩,zM⟩)
theorem fput1_c {r:Fr} {p:Nat} {cs:List Value} {f:FrmT} (hp:At r ⟨p,0,none⟩ cs) (hf:FrmRp.rel r cs f) (hl:FrmSz f) (hH:At r ⟨0,0,none⟩ (w64s shaH)) (hK:At r ⟨1,0,none⟩ (w64s shaK)) :
  Con prog 44 (#[]++#[]++#[.pointer (some ⟨p,0,none⟩)]) r [] (RetP (fun v η=>(frmOk f∧(frmB f).length≤262144)∧∃ a c,v=.slice a (frmB f).length c∧η=[OwnP Rp.u8 5 (.slice a (frmB f).length c) (frmB f)]) (fun ch η=>∃ z,ch=errP 39 z∧(¬ (frmOk f∧(frmB f).length≤262144)∧z=frmErr f)∧η=[])):=by
 have hf0:=hf;obtain ⟨a8,a9,a10,a11,a12,a14,a15,a16,a17,a21,a22,a26,a27,c8,c9,c10,c11,c12,c14,c15,c16,c17,c21,c22,c26,c27,rfl,p1,p2,p3,p4,p5,p6,p7,p8,p9,p10,p11,p12,p14,p15,p16,p17,p18,p19,p20,p21,p22,p23,p24,p25,p26,p27,p28⟩:=FrmRp.sh hf0;refine Con.of (n:=13) [.pointer (some ⟨p,0,none⟩)] rfl func44 rfl rfl rfl fun g hg R hR=>?_;have hp:=hp.mono hg;have hf:=hf.mono hg;have hH:=hH.mono hg;have hK:=hK.mono hg;have he4:¬ frmOk f→frmErr f=4:=fun q=>by unfold frmErr;rw [if_neg q]
 by_cases q1:Sp.kindOk f∧0≤f.2.1∧f.2.1≤1073741824
 ·have hin:=kindOk_in q1.1
  have hbl:=frmB_le q1.1 hl
  by_cases q2:f=bareF f
  ·by_cases q3:(frmB f).length≤262144
   ·
    refine zz 6 ?_;refine O.op (.p rfl) (.loadAgg isAgg41 zB rfl hp) ?_;refine O.callP0 (.p rfl) rfl zB rfl rfl ((whole_c hf hl hH hK)) (fun ch η' w hX hW=>by (exact absurd q1 hX.1)) ?_;rintro _ _ ⟨hb4,a4,c4,rfl,rfl⟩;refine zz 4 ?_;refine O.op (.p rfl) (.loadAgg isAgg41 zB rfl hp) ?_;refine O.v0 (.p rfl) rfl zB rfl rfl ((alone_c hin hf hl.1)) ?_;refine O.sT 6 rfl (by exact zdt q2) ?_;refine O.callP0 (.p rfl) rfl zB rfl rfl (fright_c _) (fun ch η' w hX hW=>by (exact absurd hX.1 zG)) ?_;rintro _ _ ⟨hb7,rfl,rfl⟩;refine zz 6 ?_;refine O.sT 10 rfl (by exact zdt zD) ?_;refine O.callP0 (.p rfl) rfl zB rfl rfl (fmust_c _ _) (fun ch η' w hX hW=>by (exact absurd hX.1 zG)) ?_;rintro _ _ ⟨hb11,rfl,rfl⟩;refine zz 6 ?_;exact S.rt results44 rfl hR ⟨⟨⟨q1,q2⟩,q3⟩,a4,c4,rfl,rfl⟩
   ·have hn:¬ (frmOk f∧(frmB f).length≤262144):=fun w=>q3 w.2
    have hz:frmErr f=3:=by unfold frmErr;rw [if_pos ⟨q1,q2⟩,if_neg q3]
    refine zz 6 ?_;refine O.op (.p rfl) (.loadAgg isAgg41 zB rfl hp) ?_;refine O.callP0 (.p rfl) rfl zB rfl rfl ((whole_c hf hl hH hK)) (fun ch η' w hX hW=>by (exact absurd q1 hX.1)) ?_;rintro _ _ ⟨hb4,a4,c4,rfl,rfl⟩;refine zz 4 ?_;refine O.op (.p rfl) (.loadAgg isAgg41 zB rfl hp) ?_;refine O.v0 (.p rfl) rfl zB rfl rfl ((alone_c hin hf hl.1)) ?_;refine O.sT 6 rfl (by exact zdt q2) ?_;refine O.callP0 (.p rfl) rfl zB rfl rfl (fright_c _) (fun ch η' w hX hW=>by (exact absurd hX.1 zG)) ?_;rintro _ _ ⟨hb7,rfl,rfl⟩;refine zz 6 ?_;refine O.sF 10 rfl (by exact zdf zD) ?_;refine O.callP0 (.p rfl) rfl zB rfl rfl (fmust_c _ _) (fun ch η' w hX hW=>by (obtain ⟨hb,rfl,rfl⟩:=hX;exact hR _ _ w ⟨3,rfl,⟨hn,hz.symm⟩,rfl⟩ hW.drop_all)) ?_;rintro _ _ ⟨hb11,rfl,rfl⟩;exact absurd hb11 zG
  ·have hn:¬ (frmOk f∧(frmB f).length≤262144):=fun w=>q2 w.1.2
   have hz:=he4 fun w=>q2 w.2;refine zz 6 ?_;refine O.op (.p rfl) (.loadAgg isAgg41 zB rfl hp) ?_;refine O.callP0 (.p rfl) rfl zB rfl rfl ((whole_c hf hl hH hK)) (fun ch η' w hX hW=>by (exact absurd q1 hX.1)) ?_;rintro _ _ ⟨hb4,a4,c4,rfl,rfl⟩;refine zz 4 ?_;refine O.op (.p rfl) (.loadAgg isAgg41 zB rfl hp) ?_;refine O.v0 (.p rfl) rfl zB rfl rfl ((alone_c hin hf hl.1)) ?_;refine O.sF 6 rfl (by exact zdf q2) ?_;refine O.callP0 (.p rfl) rfl zB rfl rfl (fright_c _) (fun ch η' w hX hW=>by (obtain ⟨hb,rfl,rfl⟩:=hX;exact hR _ _ w ⟨4,rfl,⟨hn,hz.symm⟩,rfl⟩ hW.drop_all)) ?_;rintro _ _ ⟨hb7,rfl,rfl⟩;exact absurd hb7 zG
 ·have hn:¬ (frmOk f∧(frmB f).length≤262144):=fun w=>q1 w.1.1
  have hz:=he4 fun w=>q1 w.1;refine zz 6 ?_;refine O.op (.p rfl) (.loadAgg isAgg41 zB rfl hp) ?_;refine O.callP0 (.p rfl) rfl zB rfl rfl ((whole_c hf hl hH hK)) (fun ch η' w hX hW=>by (obtain ⟨hb,rfl,rfl⟩:=hX;exact hR _ _ w ⟨4,rfl,⟨hn,hz.symm⟩,rfl⟩ hW.drop_all)) ?_;rintro _ _ ⟨hb4,a4,c4,rfl,rfl⟩;exact absurd hb4 q1
theorem fputT_c {r:Fr} {p:Nat} {cs:List Value} {f:FrmT} (hp:At r ⟨p,0,none⟩ cs) (hf:FrmRp.rel r cs f) (hl:FrmSz f) (hH:At r ⟨0,0,none⟩ (w64s shaH)) (hK:At r ⟨1,0,none⟩ (w64s shaK)) :
  Con prog 43 #[.func (.func 44) #[] #[.pointer (some ⟨p,0,none⟩)]] r [] (Ret fun v η=>∃ a c,v=.tuple #[.slice a (frmOut f).length c,.int .i64 (frmErr f)]∧η=[OwnP Rp.u8 5 (.slice a (frmOut f).length c) (frmOut f)]) :=
 Con.post (triedFB_c (K:=fun v η=>(frmOk f∧(frmB f).length≤262144)∧∃ a c,v=.slice a (frmB f).length c∧η=[OwnP Rp.u8 5 (.slice a (frmB f).length c) (frmB f)]) (X:=fun z=>¬ (frmOk f∧(frmB f).length≤262144)∧z=frmErr f) zB rfl (fun u ζ h=>by obtain ⟨_,a,c,rfl,_⟩:=h;rfl) (fput1_c hp hf hl hH hK)) fun e η' h w g hw=>by
  cases e with
  |returned v =>
   rcases h with ⟨y,⟨⟨h1,h2⟩,a,c,rfl,rfl⟩,rfl⟩|⟨z,⟨h1,rfl⟩,rfl,rfl⟩
   ·have e1:frmOut f=frmB f:=by unfold frmOut;rw [if_pos ⟨h1,h2⟩]
    have e2:frmErr f=0:=by unfold frmErr;rw [if_pos h1,if_pos h2]
    exact ⟨_,⟨a,c,by rw [e1,e2],rfl⟩,by rw [e1];exact hw⟩
   ·have e1:frmOut f=[]:=by unfold frmOut;rw [if_neg h1]
    exact ⟨_,⟨none,0,by rw [e1];rfl,rfl⟩,by rw [e1];exact hw.imp fun _=>sat_ownNil⟩
  |panicked _=>exact h.elim
  |outgrown=>exact h.elim
theorem fPut_c {r:Fr} {cs:List Value} {f:FrmT} (hf:FrmRp.rel r cs f) (hl:FrmSz f) (hH:At r ⟨0,0,none⟩ (w64s shaH)) (hK:At r ⟨1,0,none⟩ (w64s shaK)):Con prog 15 #[.agg cs.toArray] r []
  (Ret fun v η=>∃ a c,v=.tuple #[.slice a (frmOut f).length c,.int .i64 (frmErr f)]∧η=[OwnP Rp.u8 5 (.slice a (frmOut f).length c) (frmOut f)]):=by
 have hf0:=hf;obtain ⟨a8,a9,a10,a11,a12,a14,a15,a16,a17,a21,a22,a26,a27,c8,c9,c10,c11,c12,c14,c15,c16,c17,c21,c22,c26,c27,rfl,p1,p2,p3,p4,p5,p6,p7,p8,p9,p10,p11,p12,p14,p15,p16,p17,p18,p19,p20,p21,p22,p23,p24,p25,p26,p27,p28⟩:=FrmRp.sh hf0;refine Con.o func15 fun g hg R hR=>?_;have hf:=hf.mono hg;have hH:=hH.mono hg;have hK:=hK.mono hg;refine S.seq<|S.region rfl<|O.opE (.p rfl) (.box (cs:=[_,_,_,_,_,_,_,_,_,_,_,_,_,_,_,_,_,_,_,_,_,_,_,_,_,_,_,_,_]) rfl rfl) ?_;rintro _ _ ⟨b1,rfl,rfl⟩;refine O.frzO zC fun g hs hm hb1=>?_;replace hg:=zfs hg hs;replace hR:=melted hR hm
 try replace hf:=hf.mono hs
 try replace hH:=hH.mono hs
 try replace hK:=hK.mono hs
 clear hs hm;refine zz 6 ?_;refine O.call0 (.p rfl) rfl zB rfl rfl ((fputT_c hb1 hf hl hH hK)) ?_;rintro _ _ ⟨a5,c5,rfl,rfl⟩;refine O.q 4 rfl<|O.nil<|S.ret2 results15 rfl rfl fun w hw=>Holds.end_ hR hw ?_;exact pk ⟨a5,c5,rfl,rfl⟩
theorem fRight_c {r:Fr} {cs:List Value} {f:FrmT} (hf:FrmRp.rel r cs f) (hl:FrmSz f) (hH:At r ⟨0,0,none⟩ (w64s shaH)) (hK:At r ⟨1,0,none⟩ (w64s shaK)):Con prog 21 #[.agg cs.toArray] r [] (Ret fun v η=>v=.bool (decide (frmErr f=0))∧η=[]):=by
 have hf0:=hf;obtain ⟨a8,a9,a10,a11,a12,a14,a15,a16,a17,a21,a22,a26,a27,c8,c9,c10,c11,c12,c14,c15,c16,c17,c21,c22,c26,c27,rfl,p1,p2,p3,p4,p5,p6,p7,p8,p9,p10,p11,p12,p14,p15,p16,p17,p18,p19,p20,p21,p22,p23,p24,p25,p26,p27,p28⟩:=FrmRp.sh hf0;refine Con.o func21 fun g hg R hR=>?_;have hf:=hf.mono hg;have hH:=hH.mono hg;have hK:=hK.mono hg;refine S.seq<|S.region rfl<|O.opE (.p rfl) (.box (cs:=[_,_,_,_,_,_,_,_,_,_,_,_,_,_,_,_,_,_,_,_,_,_,_,_,_,_,_,_,_]) rfl rfl) ?_;rintro _ _ ⟨b1,rfl,rfl⟩;refine zz 3 ?_;refine S.frzO zC fun g hs hm hb1=>?_;replace hg:=zfs hg hs;replace hR:=melted hR hm
 try replace hf:=hf.mono hs
 try replace hH:=hH.mono hs
 try replace hK:=hK.mono hs
 clear hs hm;refine S.region rfl<|O.op (.p rfl) (.loadAgg isAgg41 zB rfl hb1) ?_;refine O.call0 (.p rfl) rfl zB rfl rfl ((fPut_c hf hl hH hK)) ?_;rintro _ _ ⟨a7,c7,rfl,rfl⟩;refine zz 12 ?_;exact S.rt results21 rfl hR ⟨rfl,rfl⟩
end Go.Proofs.YtdjoggpacmpfnaaGreatDoor
