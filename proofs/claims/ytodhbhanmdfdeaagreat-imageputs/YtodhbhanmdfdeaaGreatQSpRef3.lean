/- Texts of this proof. -/
import Derived.Test.YtodhbhanmdfdeaaGreatQSpRef2
namespace Go.Sp
def leafB (f : LeafT) : List UInt8 := bytesOf f.1 ++ bytesOf (sB f.2.1)
def rowsB {α : Type} (b : α → List UInt8) (l : List α) : List UInt8 := (l.map b).flatten
theorem rowsB_snoc {α : Type} (b : α → List UInt8) (l : List α) (i : Nat) (h : i < l.length) : rowsB b (l.take (i + 1)) = rowsB b (l.take i) ++ b l[i] := by
 unfold rowsB
 rw [List.take_succ_eq_append_getElem h, List.map_append, List.flatten_append]; simp
theorem rowsB_le {α : Type} (b : α → List UInt8) (M : Nat) (l : List α) (h : ∀ x ∈ l, (b x).length ≤ M) : (rowsB b l).length ≤ M * l.length := by
 induction l with
 | nil => simp [rowsB]
 | cons a l ih =>
  have h1 := h a (List.mem_cons_self ..)
  have h2 := ih fun x hx => h x (List.mem_cons_of_mem _ hx)
  simp only [rowsB, List.map_cons, List.flatten_cons, List.length_append, List.length_cons] at h2 ⊢
  rw [Nat.mul_add, Nat.mul_one]; omega
def heldB (h : HeldT) : List UInt8 := be h.1.length ++ rowsB leafB h.1 ++ be h.2.1.length ++ rowsB (fun x => bytesOf (rootB x)) h.2.1 ++ be h.2.2.1.length ++ rowsB (fun x => bytesOf (evdB x)) h.2.2.1 ++ be h.2.2.2.1.length ++ rowsB be h.2.2.2.1
theorem fold_out {α : Type} {f : WSt → α → Option WSt} {b : α → List UInt8} (hf : ∀ s x t, f s x = some t → t.out = s.out ++ b x) : ∀ {l : List α} {s t : WSt}, l.foldlM f s = some t → t.out = s.out ++ rowsB b l
 | [], s, t, h => by obtain rfl := Option.some.inj h; simp [rowsB]
 | a :: l, s, t, h => by
  rw [List.foldlM_cons] at h
  cases e : f s a with
  | none => rw [e] at h; cases h
  | some u =>
   rw [e] at h
   have h1 := fold_out hf (s := u) (t := t) h
   rw [h1, hf s a u e]
   simp [rowsB]
theorem row_out {α : Type} {f : WSt → α → Option WSt} {b : α → List UInt8} (hf : ∀ s x t, f s x = some t → t.out = s.out ++ b x) {l : List α} {s t : WSt} (h : rowSteps f s l = some t) : t.out = s.out ++ be l.length ++ rowsB b l := fold_out hf h
theorem imgW_out {h : HeldT} {out : List UInt8} (e : imgW h = some out) : out = heldB h := by
 unfold imgW at e
 obtain ⟨s1, e1, e⟩ := Option.bind_eq_some_iff.1 e
 obtain ⟨s2, e2, e⟩ := Option.bind_eq_some_iff.1 e
 obtain ⟨s3, e3, e⟩ := Option.bind_eq_some_iff.1 e
 obtain ⟨s4, e4, rfl⟩ := Option.map_eq_some_iff.1 e
 have o1 := row_out (b := leafB) (fun s x t q => by unfold leafStep at q; split at q <;> first | (obtain rfl := Option.some.inj q; rfl) | cases q) e1
 have o2 := row_out (b := fun x => bytesOf (rootB x)) (fun s x t q => by unfold rootStep at q; split at q <;> first | (obtain rfl := Option.some.inj q; rfl) | cases q) e2
 have o3 := row_out (b := fun x => bytesOf (evdB x)) (fun s x t q => by unfold evdStep at q; split at q <;> first | (obtain rfl := Option.some.inj q; rfl) | cases q) e3
 have o4 := row_out (b := be) (fun s x t q => by unfold shutStep at q; split at q <;> first | (obtain rfl := Option.some.inj q; rfl) | cases q) e4
 rw [o4, o3, o2, o1]
 simp [heldB, WSt.zero]
theorem foldO_all {α σ : Type} {f : σ → α → Option σ} {p : α → Prop} (hf : ∀ s x, (f s x).isSome = true → p x) : ∀ {l : List α} {s : σ}, (l.foldlM f s).isSome = true → ∀ x ∈ l, p x
 | [], _, _ => by simp
 | a :: l, s, h => by
  rw [List.foldlM_cons] at h
  cases e : f s a with
  | none => rw [e] at h; cases h
  | some u =>
   rw [e] at h
   intro x hx
   rcases List.mem_cons.1 hx with rfl | hx
   ·exact hf s _ (by rw [e]; rfl)
   ·exact foldO_all hf (s := u) h x hx
theorem imgW_all {h : HeldT} (e : (imgW h).isSome = true) : (∀ f ∈ h.1, f.1.length ≤ 64 ∧ SRight f.2.1) ∧ (∀ x ∈ h.2.1, rootOk x = true) ∧ (∀ x ∈ h.2.2.1, evdOk x = true) := by
 rw [imgW_isSome] at e
 simp only [Bool.and_eq_true] at e
 obtain ⟨e1, e2, e3, _⟩ := e
 refine ⟨foldO_all (f := fL) (fun s x q => ?_) e1, foldO_all (f := fR) (fun s x q => ?_) e2, foldO_all (f := fE) (fun s x q => ?_) e3⟩
 ·unfold fL at q; split at q
  ·rename_i c; exact ⟨c.2.1, c.2.2.2⟩
  ·cases q
 ·unfold fR at q; split at q
  ·rename_i c; exact c.2
  ·cases q
 ·unfold fE at q; split at q
  ·rename_i c; exact c.1
  ·cases q
theorem Lp.rd.mono {α : Type} {L : Lp α} {h k : Fr} {cs : List Value} {a : α} (r : L.rd h cs a) (s : h.sub k) : L.rd k cs a := L.mono s r
theorem leafRows_le {l : List LeafT} (h : ∀ f ∈ l, f.1.length ≤ 64 ∧ SRight f.2.1) : (rowsB leafB l).length ≤ 100 * l.length + 1408 * recsIn l := by
 induction l with
 | nil => simp [rowsB]
 | cons a l ih =>
  have h1 := h a (List.mem_cons_self ..)
  have h2 := ih fun x hx => h x (List.mem_cons_of_mem _ hx)
  have h3 := sB_le h1.2.1
  simp only [rowsB, recsIn, List.map_cons, List.flatten_cons, List.length_append, List.length_cons, List.sum_cons] at h2 ⊢
  simp only [leafB, List.length_append, bytesOf_length]
  omega
end Go.Sp
