import Derived.Test.YtkkcpckgnfcncaaGreatDoorKit2
open Go Go.Sp
set_option maxRecDepth 100000
attribute [local irreducible] obj Own OwnP
namespace Go.Proofs.YtkkcpckgnfcncaaGreatDoor

theorem Sat.w1 {A : SProp} {B : Fr → Prop} {m : Fr} (hs : ∀ {h k : Fr}, h.sub k → B h → B k) (hA : ∀ h, A h → B h) : Sat [A] m → B m := fun ⟨_, _, _, s, _, x, _⟩ => hs s (hA _ x)
/-- the second one is lent, and let go -/
theorem SameBytes_w {r : Fr} {va vb : Value} {xs ys : List UInt8} (ha : Arr Rp.u8 r va xs) :
    Con Go.Proofs.Tryz.prog 14 #[va, vb] r [fun m => Arr Rp.u8 m vb ys] (Ret fun v η => v = .bool (decide (xs = ys)) ∧ η = []) :=
  Con.lentD (η := []) (bs := [_]) fun _ hm hd => SameBytes_c ha.left ((Sat.w1 Arr.mono (fun _ x => x) hm).right hd)

theorem lent_at {h : Fr} {vs us : List Value} {xss : List (List UInt8)} (hv : All2 (LentA h) vs xss) (i : Nat) (hi : i < xss.length) (hi2 : i < (vs ++ us).length) : LentA h (vs ++ us)[i] xss[i] := by
  have hl := hv.length
  rw [List.getElem_append_left (by omega)]
  exact hv.get i (by omega) hi
theorem mark_at {h : Fr} {vs us : List Value} {n : Nat} (hv : vs.length = n) (hu : All2 (Arr Rp.u8 h) us (rowMarks 12)) (i : Nat) (hi : n ≤ i) (hi2 : i < (vs ++ us).length) : Arr Rp.u8 h (vs ++ us)[i] (markT 1 ((i : Int) - (n : Int))) := by
  have hl := hu.length
  rw [List.getElem_append_right (by omega)]
  have := hu.get (i - vs.length) (by simp at hi2; omega) (by simp at hi2 hl ⊢; omega)
  simpa [rowMarks, hv, Int.natCast_sub hi] using this
end Go.Proofs.YtkkcpckgnfcncaaGreatDoor
