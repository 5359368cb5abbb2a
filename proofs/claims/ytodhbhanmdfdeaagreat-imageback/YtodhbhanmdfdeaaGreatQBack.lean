/- Texts of this proof, one behind the other. -/
import Derived.Test.YtodhbhanmdfdeaaGreatQFc
import Derived.Test.YtodhbhanmdfdeaaGreatQKit1
import Derived.Test.YtodhbhanmdfdeaaGreatQSpLent
import Derived.Test.YtodhbhanmdfdeaaGreatQSpOwn3
import Derived.Test.YtodhbhanmdfdeaaGreatQSpAuto
import Derived.Test.YtodhbhanmdfdeaaGreatQLent1
import Derived.Test.YtodhbhanmdfdeaaGreatQWire2
import Derived.Test.YtodhbhanmdfdeaaGreatQSpGet
import Derived.Test.YtodhbhanmdfdeaaGreatQGet9
section
/- Texts of this proof, one behind the other. -/
section
/- Texts of this proof. -/
open Go Go.Sp
set_option maxRecDepth 100000
attribute [local irreducible] obj Own OwnP
namespace Go.Proofs.YtodhbhanmdfdeaaGreat
theorem CopyBytes_c {r : Fr} {va : Value} {xs : List UInt8} (ha : Arr Rp.u8 r va xs) (hl : xs.length ≤ 140737488355328) :
  Con Tryz.prog 32 #[va] r [] (Ret fun v η => ∃ a c, v = .slice a xs.length c ∧ η = [OwnP Rp.u8 5 v xs]) := by
 refine Con.of (n := 7) _ rfl Tryz.func32 rfl rfl rfl fun g hg R hR => ?_
 obtain ⟨a1, c1, rfl⟩ := ha.shape
 refine S.addNil (T := Rp.u8) (e := 5) ?_
 refine S.seq <| S.region rfl <| O.q 1 rfl <| O.nil <| S.seq <| S.region rfl <| O.q 1 rfl <| O.nil <| S.seq <| S.region rfl <| O.q 2 rfl <| O.opE (.p rfl) (.appendP (T := Rp.u8) pure_u8 Tryz.underlying31 F.elem5 (by decide) rfl rfl (by repeat (first | exact zh | apply zt)) (by first | assumption | exact Arr.mono hg (by assumption) | exact Arr.left (by assumption) | exact Arr.left (Arr.mono hg (by assumption))) (by first | omega | (simp; done) | (simp; omega) | decide) (by first | omega | (simp; done) | (simp; omega) | decide)) ?_
 rintro _ _ ⟨a6, c6, rfl, rfl⟩
 refine O.q 1 rfl <| O.nil <| S.ret Tryz.results32 rfl fun w hw => hR _ _ w ?_ hw
 exact ⟨a6, c6, by simp, rfl⟩
def pick (x n : Int) : Int := if n < 1 then 0 else if x.tmod n < 0 then x.tmod n + n else x.tmod n
theorem Pick_c {r : Fr} (x n : Int) (hn : InI64 n) : Con Tryz.prog 34 #[.int .i64 x, .int .i64 n] r [] (Ret fun v η => v = .int .i64 (pick x n) ∧ η = []) := by
 refine Con.of (n := 16) _ rfl Tryz.func34 rfl rfl rfl fun g hg R hR => ?_
 unfold InI64 at hn
 refine S.seq <| S.region rfl <| O.q 1 rfl <| O.nil <| S.seq <| S.seq <| S.region rfl <| O.q 1 rfl <| O.op (.p rfl) (.lss rfl rfl) <| O.nil ?_
 first | refine S.condD rfl (fun h6 => ?_) (fun h6 => ?_) | refine S.condB rfl (fun h6 => ?_) (fun h6 => ?_)
 ·refine S.seq <| S.region rfl <| O.q 1 rfl <| O.nil <| S.ret Tryz.results34 rfl fun w hw => hR _ _ w ?_ hw
  exact ⟨by simp [pick, h6], rfl⟩
 ·have b1 := Int.tmod_lt_of_pos x (show 0 < n by omega)
  have b2 := Int.lt_tmod_of_pos x (show 0 < n by omega)
  refine S.skip <| S.seq <| S.region rfl <| O.q 2 rfl <| O.op (.p rfl) (.rem rfl rfl (by omega)) <| O.q 1 rfl <| O.nil <| S.seq <| S.seq <| S.region rfl <| O.q 1 rfl <| O.op (.p rfl) (.lss rfl rfl) <| O.nil ?_
  first | refine S.condD rfl (fun h11 => ?_) (fun h11 => ?_) | refine S.condB rfl (fun h11 => ?_) (fun h11 => ?_)
  ·refine S.region rfl <| O.q 2 rfl <| O.op (.p rfl) (.add rfl rfl (IntWalk.i64_in _ (by omega))) <| O.q 1 rfl <| O.nil <| S.seq <| S.region rfl <| O.q 2 rfl <| O.nil <| S.ret Tryz.results34 rfl fun w hw => hR _ _ w ?_ hw
   exact ⟨by simp [pick, h6, h11], rfl⟩
  ·refine S.skip <| S.seq <| S.region rfl <| O.q 2 rfl <| O.nil <| S.ret Tryz.results34 rfl fun w hw => hR _ _ w ?_ hw
   exact ⟨by simp [pick, h6, h11], rfl⟩
end Go.Proofs.YtodhbhanmdfdeaaGreat
end
section
/- Texts of this proof, one behind the other. -/
section
/- Texts of this proof. -/
open Go Go.Sp
set_option maxRecDepth 100000
attribute [local irreducible] obj Own OwnP
namespace Go.Proofs.YtodhbhanmdfdeaaGreat
def markL (k n : Nat) : List UInt8 := (List.range n).map fun (i : Nat) => markB (k : Int) (i : Int)
@[simp] theorem markL_length (k n : Nat) : (markL k n).length = n := by simp [markL]
def markX (k n i : Nat) : List UInt8 := (List.range i).map fun (q : Nat) => markB (k : Int) ((n : Int) + (q : Int))
@[simp] theorem markX_length (k n i : Nat) : (markX k n i).length = i := by simp [markX]
def markM (j n i : Nat) : List UInt8 := (List.range i).map fun (q : Nat) => markB ((j : Int) + (n : Int)) (q : Int)
@[simp] theorem markM_length (j n i : Nat) : (markM j n i).length = i := by simp [markM]
end Go.Proofs.YtodhbhanmdfdeaaGreat
end
section
/- Texts of this proof. -/
open Go Go.Sp
set_option maxRecDepth 100000
attribute [local irreducible] obj Own OwnP
namespace Go.Proofs.YtodhbhanmdfdeaaGreat
theorem imgOut_le {n : Nat} {h : HeldT} (hn : n ≤ 3000) (hc : HeldC n h) : (imgOut h).length ≤ 10000000 := by
 cases e : imgW h with
 | none => simp [imgOut, e]
 | some ob =>
  have e1 : imgOut h = heldB h := by rw [← imgW_out e]; simp [imgOut, e]
  obtain ⟨p0, p1, p2⟩ := imgW_all (h := h) (by rw [e]; rfl)
  obtain ⟨⟨⟨m0, m0'⟩, _⟩, ⟨m1, _⟩, ⟨m2, _⟩, m3⟩ := hc
  have q0 := leafRows_le p0
  have q1 := rowsB_le (fun x => bytesOf (rootB x)) 161 h.2.1 fun x hx => by have := rootB_length (p1 x hx); simp; omega
  have q2 := rowsB_le (fun x => bytesOf (evdB x)) 330 h.2.2.1 fun x hx => by have := evdB_length (p2 x hx); simp; omega
  have q3 := rowsB_le be 8 h.2.2.2.1 fun x _ => by simp
  rw [e1]
  simp only [heldB, List.length_append, be_length]
  omega
end Go.Proofs.YtodhbhanmdfdeaaGreat
end
end
end
section
/- Texts of this proof. -/
open Go Go.Sp
set_option maxRecDepth 100000
attribute [local irreducible] obj Own OwnP
namespace Go.Proofs.YtodhbhanmdfdeaaGreat
noncomputable def hOut (b : List UInt8) : HeldT := (hGet b).getD ([], [], [], [], ())
noncomputable def hErr (b : List UInt8) : Int := if (hGet b).isSome then 0 else 4
theorem hGetU_c {r : Fr} {va : Value} {b : List UInt8} (ha : Arr Rp.u8 r va b) (hl : b.length ≤ 1000000000) (hB : GetB b) :
  Con Tryz.prog 25 #[va] r [] (Ret fun v η => ∃ a0 c0 a1 c1 a2 c2 a3 c3, v = .tuple #[.agg (heldV (.slice a0 (hOut b).1.length c0) (.slice a1 (hOut b).2.1.length c1) (.slice a2 (hOut b).2.2.1.length c2) (.slice a3 (hOut b).2.2.2.1.length c3)).toArray, .int .i64 (hErr b)] ∧ η = heldWs (hOut b) (.slice a0 (hOut b).1.length c0) (.slice a1 (hOut b).2.1.length c1) (.slice a2 (hOut b).2.2.1.length c2) (.slice a3 (hOut b).2.2.2.1.length c3)) :=
 (hGet_c ha hl hB).post fun e η h w g hw => by
  cases e with
  | returned v =>
   cases e : hGet b with
   | some x =>
    obtain ⟨a0, c0, a1, c1, a2, c2, a3, c3, rfl, rfl⟩ := held_tY e h
    have e1 : hOut b = x := by simp [hOut, e]
    have e2 : hErr b = 0 := by simp [hErr, e]
    exact ⟨_, ⟨a0, c0, a1, c1, a2, c2, a3, c3, by rw [e1, e2], rfl⟩, by rw [e1]; exact hw⟩
   | none =>
    obtain ⟨rfl, rfl⟩ := held_tN e h
    have e1 : hOut b = ([], [], [], [], ()) := by simp [hOut, e]
    have e2 : hErr b = 4 := by simp [hErr, e]
    exact ⟨_, ⟨none, 0, none, 0, none, 0, none, 0, by rw [e1, e2]; rfl, rfl⟩, by rw [e1]; exact hw.imp fun m x => sat_listNil (sat_listNil (sat_listNil ⟨Fr.emp, m, Fr.emp_disj _, Fr.emp_sub _, Fr.sub_refl _, ownP_nil _, x⟩))⟩
  | panicked _ => exact h.elim
  | outgrown => exact h.elim
theorem pick_nat (x : Int) {n : Nat} (hn : 0 < n) : ∃ k : Nat, pick x n = (k : Int) ∧ k < n := by
 have b1 := Int.tmod_lt_of_pos x (show 0 < (n : Int) by omega)
 have b2 := Int.lt_tmod_of_pos x (show 0 < (n : Int) by omega)
 have b3 : 0 ≤ pick x n ∧ pick x n < n := by
  unfold pick
  split
  ·omega
  ·split <;> omega
 exact ⟨(pick x n).toNat, by omega, by omega⟩
theorem imageBack_c {r : Fr} {cs : List Value} {h : HeldT} {vb : Value} {b : List UInt8} {cut : Int} (hr : HeldRp.rel r cs h) (ho : HeldOk big h) (hb : Arr Rp.u8 r vb b) :
  Con Tryz.prog 6 #[.agg cs.toArray, vb, .int .i64 cut] r [] (Ret fun v η => v = .bool true ∧ η = []) := by
 obtain ⟨xa0, xa1, xa2, xa3, xc0, xc1, xc2, xc3, rfl, k0, k1, k2, k3⟩ := HeldRp.sh hr
 have hbd := hb.bound
 obtain ⟨ax, cx, rfl⟩ := hb.shape
 refine Con.of (n := 124) _ rfl Tryz.func6 rfl rfl rfl fun g hg R hR => ?_
 have hr := hr.mono hg
 have hb := hb.mono hg
 refine S.seq <| S.region rfl <| O.opE (.p rfl) (.box (cs := [_, _, _, _]) rfl rfl) ?_
 rintro _ _ ⟨b3, rfl, rfl⟩
 refine O.q 1 rfl <| O.nil <| S.seq <| S.seq <| S.frzO (by repeat (first | exact zh | apply zt)) fun g hs hm hb3 => ?_
 replace hg := Fr.sub_trans hg hs
 replace hR := melted hR hm
 try replace hr := hr.mono hs
 try replace hb := hb.mono hs
 clear hs hm
 refine S.region rfl <| O.call0 (.p rfl) rfl F.ok15 rfl rfl (awake_c) ?_
 rintro v19 _ ⟨rfl, rfl⟩
 try simp only [zx1, zx2, zx3]
 refine O.sT 19 rfl (by first | decide | simp) ?_
 refine O.op (.p rfl) (.not rfl) <| O.nil <| S.condF rfl <| S.skip <| S.seq <| S.seq <| S.region rfl <| O.op (.p rfl) (.loadAgg Tryz.isAgg27 (by kernel_rfl) rfl hb3) ?_
 refine O.call0 (.p rfl) rfl F.ok14 rfl rfl ((heldOf_c hr ho ⟨by decide, by decide⟩)) ?_
 rintro v22 _ ⟨n, rfl, hn, rfl⟩
 try simp only [zx1, zx2, zx3]
 refine O.op (.p rfl) (.gtr rfl rfl) <| O.q 1 rfl ?_
 first | refine O.caseD 24 rfl (fun h24 => ?_) (fun h24 => ?_) | refine O.caseB 24 rfl (fun h24 => ?_) (fun h24 => ?_)
 ·refine O.q 4 rfl <| O.nil <| S.condT rfl <| S.seq <| S.region rfl <| O.q 1 rfl <| O.nil ?_
  exact S.rt Tryz.results6 rfl hR ⟨rfl, rfl⟩
 ·have hc := hn (by omega)
  have hB := (hc.mono (by omega : n ≤ 3000)).b
  have hol := imgOut_le (by omega) hc
  refine O.q 1 rfl <| O.op (.g rfl rfl) (.len rfl Tryz.underlying31 rfl) <| O.op (.g rfl rfl) (.gtr rfl rfl) <| O.q 1 rfl <| O.nil ?_
  first | refine S.condD rfl (fun h28 => ?_) (fun h28 => ?_) | refine S.condB rfl (fun h28 => ?_) (fun h28 => ?_)
  ·refine S.seq <| S.region rfl <| O.q 1 rfl <| O.nil ?_
   exact S.rt Tryz.results6 rfl hR ⟨rfl, rfl⟩
  ·have hsm : b.length ≤ 24000 := by omega
   refine S.skip <| S.seq <| S.region rfl <| O.q 1 rfl <| O.call0 (.p rfl) rfl F.ok25 rfl rfl ((hGetU_c hb (by omega) (getB_small hsm))) ?_
   rintro v31 _ ⟨a0, c0, a1, c1, a2, c2, a3, c3, rfl, rfl⟩
   try simp only [zx1, zx2, zx3]
   refine O.q 3 rfl <| O.opE (.p rfl) (.alloc (cs := [.slice none 0 0, .slice none 0 0, .slice none 0 0, .slice none 0 0]) Tryz.zeroValue27 rfl) ?_
   rintro _ _ ⟨b7, rfl, rfl⟩
   refine O.opU rfl (.storeObj (by kernel_rfl) rfl rfl rfl rfl (by repeat (first | exact zh | apply zt)) (by first | (simp; done) | (simp [Value.cells]; done))) ?_
   refine O.q 1 rfl <| O.nil <| S.seq <| S.seq <| S.objIs (b := b7) (cs' := [.slice a0 (hOut b).1.length c0, .slice a1 (hOut b).2.1.length c1, .slice a2 (hOut b).2.2.1.length c2, .slice a3 (hOut b).2.2.2.1.length c3]) (by repeat (first | exact zh | apply zt)) rfl ?_
   refine S.frzG (T := LeafRp) rfl (by repeat (first | exact zh | apply zt)) fun g hs hm z0 => ?_
   replace hg := Fr.sub_trans hg hs
   replace hR := melted hR hm
   try replace hr := hr.mono hs
   try replace hb := hb.mono hs
   try replace hb3 := hb3.mono hs
   clear hs hm
   refine S.frzG (T := RootRp) rfl (by repeat (first | exact zh | apply zt)) fun g hs hm z1 => ?_
   replace hg := Fr.sub_trans hg hs
   replace hR := melted hR hm
   try replace hr := hr.mono hs
   try replace hb := hb.mono hs
   try replace hb3 := hb3.mono hs
   try replace z0 := z0.mono hs
   clear hs hm
   refine S.frzG (T := EvdRp) rfl (by repeat (first | exact zh | apply zt)) fun g hs hm z2 => ?_
   replace hg := Fr.sub_trans hg hs
   replace hR := melted hR hm
   try replace hr := hr.mono hs
   try replace hb := hb.mono hs
   try replace hb3 := hb3.mono hs
   try replace z0 := z0.mono hs
   try replace z1 := z1.mono hs
   clear hs hm
   refine S.frzA (by repeat (first | exact zh | apply zt)) fun g hs hm z3 => ?_
   replace hg := Fr.sub_trans hg hs
   replace hR := melted hR hm
   try replace hr := hr.mono hs
   try replace hb := hb.mono hs
   try replace hb3 := hb3.mono hs
   try replace z0 := z0.mono hs
   try replace z1 := z1.mono hs
   try replace z2 := z2.mono hs
   clear hs hm
   have hz : HeldRp.rel _ _ (hOut b) := HeldRp.mk z0 z1 z2 z3
   refine S.frzO (by repeat (first | exact zh | apply zt)) fun g hs hm h7 => ?_
   replace hg := Fr.sub_trans hg hs
   replace hR := melted hR hm
   try replace hr := hr.mono hs
   try replace hb := hb.mono hs
   try replace hb3 := hb3.mono hs
   try replace z0 := z0.mono hs
   try replace z1 := z1.mono hs
   try replace z2 := z2.mono hs
   try replace z3 := z3.mono hs
   try replace hz := hz.mono hs
   clear hs hm
   refine S.cut2 (fun (u : Unit) => True) (fun (u : Unit) => []) [(1, _), (2, _), (3, _)] (fun (u : Unit) => []) (.cons rfl (.cons rfl (.cons rfl (.nil)))) (fun key => ?_) (fun u hx => ?_)
   ·have hm1 := meltRefl (g := g)
    cases e : hGet b with
    | some x =>
     have e1 : hOut b = x := by simp [hOut, e]
     have e2 : hErr b = 0 := by simp [hErr, e]
     have ex := (hGet_iff (by omega)).1 e
     rw [← e1] at ex
     have e3 : imgOut (hOut b) = b := by simp [imgOut, ex]
     have e4 : imgErr (hOut b) = 0 := by simp [imgErr, ex]
     have hBx : HeldB (hOut b) := heldB_B (by rw [← imgW_out ex]; exact hsm)
     rw [e2]
     refine S.region rfl <| O.q 1 rfl <| O.op (.p rfl) (.eql rfl rfl) <| O.sT 35 rfl (by decide) ?_
     refine O.nil <| S.condT rfl <| S.seq <| S.region rfl <| O.op (.p rfl) (.loadAgg Tryz.isAgg27 (by kernel_rfl) rfl h7) ?_
     refine O.call0 (.p rfl) rfl F.ok17 rfl rfl ((iPut_c hz hBx)) ?_
     rintro v38 _ ⟨a38, c38, rfl, rfl⟩
     try simp only [zx1, zx2, zx3]
     rw [e3, e4]
     refine O.frzA (by repeat (first | exact zh | apply zt)) fun g hs hm ha38 => ?_
     replace hg := Fr.sub_trans hg hs
     replace hR := melted hR hm
     try replace hr := hr.mono hs
     try replace hb := hb.mono hs
     try replace hb3 := hb3.mono hs
     try replace z0 := z0.mono hs
     try replace z1 := z1.mono hs
     try replace z2 := z2.mono hs
     try replace z3 := z3.mono hs
     try replace hz := hz.mono hs
     try replace h7 := h7.mono hs
     replace hm1 := meltTrans hm1 hm
     clear hs hm
     refine O.q 5 rfl <| O.nil <| S.seq <| S.region rfl <| O.q 1 rfl <| O.op (.p rfl) (.neq rfl rfl) <| O.sF 42 rfl (by decide) ?_
     refine O.q 1 rfl <| O.op (.g rfl rfl) (.loadAgg Tryz.isAgg27 (by kernel_rfl) rfl h7) ?_
     refine O.call0 (.g rfl rfl) rfl F.ok20 rfl rfl ((iRight_c hz hBx)) ?_
     rintro v45 _ ⟨rfl, rfl⟩
     try simp only [zx1, zx2, zx3]
     refine O.sT 45 rfl (by (rw [ex]; rfl)) ?_
     refine O.op (.g rfl rfl) (.not rfl) <| O.q 4 rfl <| O.call0 (.g rfl rfl) rfl F.ok19 rfl rfl (SameBytes_c (by first | assumption | exact Arr.mono hg (by assumption) | exact Arr.left (by assumption) | exact Arr.left (Arr.mono hg (by assumption))) (by first | assumption | exact Arr.mono hg (by assumption) | exact Arr.left (by assumption) | exact Arr.left (Arr.mono hg (by assumption)))) ?_
     rintro v51 _ ⟨rfl, rfl⟩
     try simp only [zx1, zx2, zx3]
     refine O.sT 51 rfl (by simp) ?_
     refine O.op (.g rfl rfl) (.not rfl) <| O.q 1 rfl <| O.nil <| S.condF rfl <| S.skip <| S.pk ?_ (S.melt hm1 (S.weaken ?_ (key (()) (by trivial))))
     ·repeat (first | exact zpa | exact zpn | (apply zpc; focus (repeat (first | exact zh | apply zt))) | apply zps)
     repeat (first | exact Sub.nil | refine Sub.cons rfl ?_)
    | none =>
     have e1 : hOut b = ([], [], [], [], ()) := by simp [hOut, e]
     have e2 : hErr b = 4 := by simp [hErr, e]
     rw [e2]
     refine S.region rfl <| O.q 1 rfl <| O.op (.p rfl) (.eql rfl rfl) <| O.sF 35 rfl (by decide) ?_
     refine O.nil <| S.condF rfl <| S.seq <| S.region rfl <| O.q 1 rfl <| O.op (.p rfl) (.neq rfl rfl) <| O.sF 55 rfl (by decide) ?_
     refine O.q 1 rfl <| O.op (.g rfl rfl) (.loadAgg Tryz.isAgg27 (by kernel_rfl) rfl h7) ?_
     refine O.op (.g rfl rfl) (.build (cs := [_, _, _, _]) Tryz.underlying27 rfl rfl rfl rfl rfl) <| O.call0 (.g rfl rfl) rfl F.ok33 rfl rfl ((sameHeld_c hz (HeldRp.mk Arr.nil Arr.nil Arr.nil Arr.nil))) ?_
     rintro v59 _ ⟨rfl, rfl⟩
     try simp only [zx1, zx2, zx3]
     refine O.sT 59 rfl (by (rw [e1]; simp)) ?_
     refine O.op (.g rfl rfl) (.not rfl) <| O.q 1 rfl <| O.nil <| S.condF rfl <| S.skip <| S.pk ?_ (S.weaken ?_ (key (()) (by trivial)))
     ·repeat (first | exact zpa | exact zpn | (apply zpc; focus (repeat (first | exact zh | apply zt))) | apply zps)
     repeat (first | exact Sub.nil | refine Sub.cons rfl ?_)
   ·
    cases ew : imgW h with
    | none =>
     have e5 : imgOut h = [] := by simp [imgOut, ew]
     have e6 : imgErr h = 4 := by simp [imgErr, ew]
     refine S.seq <| S.region rfl <| O.op (.p rfl) (.loadAgg Tryz.isAgg27 (by kernel_rfl) rfl hb3) ?_
     refine O.call0 (.p rfl) rfl F.ok17 rfl rfl ((iPut_c hr hB)) ?_
     rintro v64 _ ⟨a64, c64, rfl, rfl⟩
     try simp only [zx1, zx2, zx3]
     rw [e5, e6]
     refine O.q 5 rfl <| O.nil <| S.seq <| S.seq <| S.region rfl <| O.q 1 rfl <| O.op (.p rfl) (.eql rfl rfl) <| O.sF 68 rfl (by decide) ?_
     refine O.op (.p rfl) (.loadAgg Tryz.isAgg27 (by kernel_rfl) rfl hb3) ?_
     refine O.call0 (.p rfl) rfl F.ok20 rfl rfl ((iRight_c hr hB)) ?_
     rintro v70 _ ⟨rfl, rfl⟩
     try simp only [zx1, zx2, zx3]
     refine O.sF 70 rfl (by (rw [ew]; rfl)) ?_
     refine O.op (.p rfl) (.neqB Tryz.underlying4 rfl rfl) <| O.sF 71 rfl (by decide) ?_
     refine O.nil <| S.condF rfl <| S.skip <| S.seq <| S.seq <| S.region rfl <| O.q 1 rfl <| O.op (.p rfl) (.neq rfl rfl) <| O.sT 73 rfl (by decide) ?_
     refine O.nil <| S.condT rfl <| S.seq <| S.region rfl <| O.q 1 rfl <| O.op (.p rfl) (.eql rfl rfl) <| O.sT 75 rfl (by decide) ?_
     refine O.q 2 rfl <| O.op (.g rfl rfl) (.len rfl Tryz.underlying31 rfl) <| O.op (.g rfl rfl) (.eql rfl rfl) <| O.sT 79 rfl (by decide) ?_
     refine O.q 2 rfl <| O.nil ?_
     exact S.rt Tryz.results6 rfl hR ⟨rfl, rfl⟩
    | some p =>
     have e5 : imgOut h = p := by simp [imgOut, ew]
     have e6 : imgErr h = 0 := by simp [imgErr, ew]
     rw [e5] at hol
     have hp32 : 0 < p.length := by rw [imgW_out ew, heldB]; simp; omega
     have hpl : p.length ≤ 1000000000 := by omega
     have g1 := hGet_self ew hpl
     have o1 : hOut p = h := by simp [hOut, g1]
     have r1 : hErr p = 0 := by simp [hErr, g1]
     have hGp : GetB p := by have := getB_app (t := []) ew hpl hB; rwa [List.append_nil] at this
     obtain ⟨k, hk1, hk2⟩ := pick_nat cut hp32
     have r2 : hErr (p.take k) = 4 := by simp [hErr, hGet_cut ew hpl hk2]
     have hlt : (p.take k).length ≤ 1000000000 := by rw [List.length_take]; omega
     have hla : (p ++ b).length ≤ 1000000000 := by rw [List.length_append]; omega
     have r3 : b.length ≠ 0 → hErr (p ++ b) = 4 := fun q => by simp [hErr, hGet_more ew hla (fun w => q (by rw [w]; rfl))]
     refine S.seq <| S.region rfl <| O.op (.p rfl) (.loadAgg Tryz.isAgg27 (by kernel_rfl) rfl hb3) ?_
     refine O.call0 (.p rfl) rfl F.ok17 rfl rfl ((iPut_c hr hB)) ?_
     rintro v64 _ ⟨a64, c64, rfl, rfl⟩
     try simp only [zx1, zx2, zx3]
     rw [e5, e6]
     refine O.frzA (by repeat (first | exact zh | apply zt)) fun g hs hm ha64 => ?_
     replace hg := Fr.sub_trans hg hs
     replace hR := melted hR hm
     try replace hr := hr.mono hs
     try replace hb := hb.mono hs
     try replace hb3 := hb3.mono hs
     try replace z0 := z0.mono hs
     try replace z1 := z1.mono hs
     try replace z2 := z2.mono hs
     try replace z3 := z3.mono hs
     try replace hz := hz.mono hs
     try replace h7 := h7.mono hs
     clear hs hm
     refine O.q 5 rfl <| O.nil <| S.seq <| S.seq <| S.region rfl <| O.q 1 rfl <| O.op (.p rfl) (.eql rfl rfl) <| O.sT 68 rfl (by decide) ?_
     refine O.op (.p rfl) (.loadAgg Tryz.isAgg27 (by kernel_rfl) rfl hb3) ?_
     refine O.call0 (.p rfl) rfl F.ok20 rfl rfl ((iRight_c hr hB)) ?_
     rintro v70 _ ⟨rfl, rfl⟩
     try simp only [zx1, zx2, zx3]
     refine O.sT 70 rfl (by (rw [ew]; rfl)) ?_
     refine O.op (.p rfl) (.neqB Tryz.underlying4 rfl rfl) <| O.sF 71 rfl (by decide) ?_
     refine O.nil <| S.condF rfl <| S.skip <| S.seq <| S.seq <| S.region rfl <| O.q 1 rfl <| O.op (.p rfl) (.neq rfl rfl) <| O.sF 73 rfl (by decide) ?_
     refine O.nil <| S.condF rfl <| S.skip <| S.seq <| S.region rfl <| O.q 1 rfl <| O.call0 (.p rfl) rfl F.ok25 rfl rfl ((hGetU_c ha64 hpl hGp)) ?_
     rintro v83 _ ⟨a0, c0, a1, c1, a2, c2, a3, c3, rfl, rfl⟩
     try simp only [zx1, zx2, zx3]
     rw [o1, r1]
     refine O.q 3 rfl <| O.opE (.p rfl) (.alloc (cs := [.slice none 0 0, .slice none 0 0, .slice none 0 0, .slice none 0 0]) Tryz.zeroValue27 rfl) ?_
     rintro _ _ ⟨b13, rfl, rfl⟩
     refine O.opU rfl (.storeObj (by kernel_rfl) rfl rfl rfl rfl (by repeat (first | exact zh | apply zt)) (by first | (simp; done) | (simp [Value.cells]; done))) ?_
     refine O.q 1 rfl <| O.nil <| S.seq <| S.objIs (b := b13) (cs' := [.slice a0 h.1.length c0, .slice a1 h.2.1.length c1, .slice a2 h.2.2.1.length c2, .slice a3 h.2.2.2.1.length c3]) (by repeat (first | exact zh | apply zt)) rfl ?_
     refine S.frzG (T := LeafRp) rfl (by repeat (first | exact zh | apply zt)) fun g hs hm y0 => ?_
     replace hg := Fr.sub_trans hg hs
     replace hR := melted hR hm
     try replace hr := hr.mono hs
     try replace hb := hb.mono hs
     try replace hb3 := hb3.mono hs
     try replace z0 := z0.mono hs
     try replace z1 := z1.mono hs
     try replace z2 := z2.mono hs
     try replace z3 := z3.mono hs
     try replace hz := hz.mono hs
     try replace h7 := h7.mono hs
     try replace ha64 := ha64.mono hs
     clear hs hm
     refine S.frzG (T := RootRp) rfl (by repeat (first | exact zh | apply zt)) fun g hs hm y1 => ?_
     replace hg := Fr.sub_trans hg hs
     replace hR := melted hR hm
     try replace hr := hr.mono hs
     try replace hb := hb.mono hs
     try replace hb3 := hb3.mono hs
     try replace z0 := z0.mono hs
     try replace z1 := z1.mono hs
     try replace z2 := z2.mono hs
     try replace z3 := z3.mono hs
     try replace hz := hz.mono hs
     try replace h7 := h7.mono hs
     try replace ha64 := ha64.mono hs
     try replace y0 := y0.mono hs
     clear hs hm
     refine S.frzG (T := EvdRp) rfl (by repeat (first | exact zh | apply zt)) fun g hs hm y2 => ?_
     replace hg := Fr.sub_trans hg hs
     replace hR := melted hR hm
     try replace hr := hr.mono hs
     try replace hb := hb.mono hs
     try replace hb3 := hb3.mono hs
     try replace z0 := z0.mono hs
     try replace z1 := z1.mono hs
     try replace z2 := z2.mono hs
     try replace z3 := z3.mono hs
     try replace hz := hz.mono hs
     try replace h7 := h7.mono hs
     try replace ha64 := ha64.mono hs
     try replace y0 := y0.mono hs
     try replace y1 := y1.mono hs
     clear hs hm
     refine S.frzA (by repeat (first | exact zh | apply zt)) fun g hs hm y3 => ?_
     replace hg := Fr.sub_trans hg hs
     replace hR := melted hR hm
     try replace hr := hr.mono hs
     try replace hb := hb.mono hs
     try replace hb3 := hb3.mono hs
     try replace z0 := z0.mono hs
     try replace z1 := z1.mono hs
     try replace z2 := z2.mono hs
     try replace z3 := z3.mono hs
     try replace hz := hz.mono hs
     try replace h7 := h7.mono hs
     try replace ha64 := ha64.mono hs
     try replace y0 := y0.mono hs
     try replace y1 := y1.mono hs
     try replace y2 := y2.mono hs
     clear hs hm
     have hy : HeldRp.rel _ _ h := HeldRp.mk y0 y1 y2 y3
     refine S.frzO (by repeat (first | exact zh | apply zt)) fun g hs hm h13 => ?_
     replace hg := Fr.sub_trans hg hs
     replace hR := melted hR hm
     try replace hr := hr.mono hs
     try replace hb := hb.mono hs
     try replace hb3 := hb3.mono hs
     try replace z0 := z0.mono hs
     try replace z1 := z1.mono hs
     try replace z2 := z2.mono hs
     try replace z3 := z3.mono hs
     try replace hz := hz.mono hs
     try replace h7 := h7.mono hs
     try replace ha64 := ha64.mono hs
     try replace y0 := y0.mono hs
     try replace y1 := y1.mono hs
     try replace y2 := y2.mono hs
     try replace y3 := y3.mono hs
     try replace hy := hy.mono hs
     clear hs hm
     refine S.region rfl <| O.q 3 rfl <| O.op (.p rfl) (.len rfl Tryz.underlying31 rfl) <| O.call0 (.p rfl) rfl F.ok34 rfl rfl (Pick_c _ _ (by first | assumption | (constructor <;> omega))) ?_
     rintro v91 _ ⟨rfl, rfl⟩
     try simp only [zx1, zx2, zx3]
     refine O.slot 91 (v' := .int .i64 (k : Int)) rfl (by (rw [hk1])) ?_
     refine O.sliceTo (b := k) (.p rfl) Tryz.underlying31 F.size5 rfl rfl (by assumption) (by first | omega | (simp; done) | (simp; omega) | decide) (by first | omega | (simp; done) | (simp; omega) | decide) (fun u92 ha92 => ?_)
     obtain ⟨a92, c92, rfl⟩ := ha92.shape
     refine O.call0 (.p rfl) rfl F.ok25 rfl rfl ((hGetU_c (b := p.take k) (by first | assumption | exact Arr.mono hg (by assumption) | exact Arr.left (by assumption) | exact Arr.left (Arr.mono hg (by assumption))) hlt (getB_take ew hpl hB k))) ?_
     rintro v93 _ ⟨a0, c0, a1, c1, a2, c2, a3, c3, rfl, rfl⟩
     try simp only [zx1, zx2, zx3]
     rw [r2]
     refine O.q 3 rfl <| O.opE (.p rfl) (.alloc (cs := [.slice none 0 0, .slice none 0 0, .slice none 0 0, .slice none 0 0]) Tryz.zeroValue27 rfl) ?_
     rintro _ _ ⟨b15, rfl, rfl⟩
     refine O.opU rfl (.storeObj (by kernel_rfl) rfl rfl rfl rfl (by repeat (first | exact zh | apply zt)) (by first | (simp; done) | (simp [Value.cells]; done))) ?_
     refine O.q 1 rfl <| O.nil <| S.seq <| S.region rfl <| O.q 1 rfl <| O.call0 (.p rfl) rfl F.ok32 rfl rfl (CopyBytes_c (by first | assumption | exact Arr.mono hg (by assumption) | exact Arr.left (by assumption) | exact Arr.left (Arr.mono hg (by assumption))) (by first | omega | (simp; done) | (simp; omega) | decide)) ?_
     rintro v98 _ ⟨a98, c98, rfl, rfl⟩
     try simp only [zx1, zx2, zx3]
     refine O.q 1 rfl <| O.opE (.p rfl) (.appendP (T := Rp.u8) pure_u8 Tryz.underlying31 F.elem5 (by decide) rfl rfl (by repeat (first | exact zh | apply zt)) (by first | assumption | exact Arr.mono hg (by assumption) | exact Arr.left (by assumption) | exact Arr.left (Arr.mono hg (by assumption))) (by first | omega | (simp; done) | (simp; omega) | decide) (by first | omega | (simp; done) | (simp; omega) | decide)) ?_
     rintro _ _ ⟨a100, c100, rfl, rfl⟩
     refine O.frzA (by repeat (first | exact zh | apply zt)) fun g hs hm ha100 => ?_
     replace hg := Fr.sub_trans hg hs
     replace hR := melted hR hm
     try replace hr := hr.mono hs
     try replace hb := hb.mono hs
     try replace hb3 := hb3.mono hs
     try replace z0 := z0.mono hs
     try replace z1 := z1.mono hs
     try replace z2 := z2.mono hs
     try replace z3 := z3.mono hs
     try replace hz := hz.mono hs
     try replace h7 := h7.mono hs
     try replace ha64 := ha64.mono hs
     try replace y0 := y0.mono hs
     try replace y1 := y1.mono hs
     try replace y2 := y2.mono hs
     try replace y3 := y3.mono hs
     try replace hy := hy.mono hs
     try replace h13 := h13.mono hs
     try replace ha92 := ha92.mono hs
     clear hs hm
     refine O.call0 (.p rfl) rfl F.ok25 rfl rfl ((hGetU_c (b := p ++ b) ha100 hla (getB_app ew hpl hB))) ?_
     rintro v101 _ ⟨a0, c0, a1, c1, a2, c2, a3, c3, rfl, rfl⟩
     try simp only [zx1, zx2, zx3]
     refine O.q 3 rfl <| O.opE (.p rfl) (.alloc (cs := [.slice none 0 0, .slice none 0 0, .slice none 0 0, .slice none 0 0]) Tryz.zeroValue27 rfl) ?_
     rintro _ _ ⟨b17, rfl, rfl⟩
     refine O.opU rfl (.storeObj (by kernel_rfl) rfl rfl rfl rfl (by repeat (first | exact zh | apply zt)) (by first | (simp; done) | (simp [Value.cells]; done))) ?_
     refine O.q 1 rfl <| O.nil (S.seq ?_)
     by_cases h0 : b.length = 0
     ·
      refine S.region rfl <| O.q 1 rfl <| O.op (.p rfl) (.eql rfl rfl) <| O.sT 105 rfl (by decide) ?_
      refine O.q 1 rfl <| O.op (.g rfl rfl) (.loadAgg Tryz.isAgg27 (by kernel_rfl) rfl h13) ?_
      refine O.op (.g rfl rfl) (.loadAgg Tryz.isAgg27 (by kernel_rfl) rfl hb3) ?_
      refine O.call0 (.g rfl rfl) rfl F.ok33 rfl rfl ((sameHeld_c hy hr)) ?_
      rintro v109 _ ⟨rfl, rfl⟩
      try simp only [zx1, zx2, zx3]
      refine O.sT 109 rfl (by simp) ?_
      refine O.q 3 rfl <| O.op (.g rfl rfl) (.eql rfl rfl) <| O.sT 113 rfl (by decide) ?_
      refine O.q 3 rfl <| O.op (.g rfl rfl) (.len rfl Tryz.underlying31 rfl) <| O.op (.g rfl rfl) (.eql rfl rfl) <| O.sT 118 rfl (by simp [h0]) ?_
      refine O.q 6 rfl <| O.nil ?_
      exact S.rt Tryz.results6 rfl hR ⟨rfl, rfl⟩
     ·rw [r3 h0]
      refine S.region rfl <| O.q 1 rfl <| O.op (.p rfl) (.eql rfl rfl) <| O.sT 105 rfl (by decide) ?_
      refine O.q 1 rfl <| O.op (.g rfl rfl) (.loadAgg Tryz.isAgg27 (by kernel_rfl) rfl h13) ?_
      refine O.op (.g rfl rfl) (.loadAgg Tryz.isAgg27 (by kernel_rfl) rfl hb3) ?_
      refine O.call0 (.g rfl rfl) rfl F.ok33 rfl rfl ((sameHeld_c hy hr)) ?_
      rintro v109 _ ⟨rfl, rfl⟩
      try simp only [zx1, zx2, zx3]
      refine O.sT 109 rfl (by simp) ?_
      refine O.q 3 rfl <| O.op (.g rfl rfl) (.eql rfl rfl) <| O.sT 113 rfl (by decide) ?_
      refine O.q 3 rfl <| O.op (.g rfl rfl) (.len rfl Tryz.underlying31 rfl) <| O.op (.g rfl rfl) (.eql rfl rfl) <| O.sF 118 rfl (by simp [h0]) ?_
      refine O.q 2 rfl <| O.op (.g rfl rfl) (.eql rfl rfl) <| O.sT 121 rfl (by decide) ?_
      refine O.q 3 rfl <| O.nil ?_
      exact S.rt Tryz.results6 rfl hR ⟨rfl, rfl⟩
end Go.Proofs.YtodhbhanmdfdeaaGreat
end
