/- Texts of this proof, one behind the other. -/
import Derived.Test.YtodhbhanmdfdeaaSpTypes
section
/- Vectors, in plain. -/
namespace Go.Sp
/-- is a dot right, a row of them a vector? -/
def dotOk (d : DotT) : Bool := decide (1 ≤ d.1 ∧ d.1 ≤ 8 ∧ 1 ≤ d.2.1 ∧ d.2.1 ≤ 1073741824)
theorem dotOk_iff {d : DotT} : dotOk d = true ↔ 1 ≤ d.1 ∧ d.1 ≤ 8 ∧ 1 ≤ d.2.1 ∧ d.2.1 ≤ 1073741824 := decide_eq_true_iff
theorem dotOk_no {d : DotT} : dotOk d = false ↔ ¬ (1 ≤ d.1 ∧ d.1 ≤ 8 ∧ 1 ≤ d.2.1 ∧ d.2.1 ≤ 1073741824) := decide_eq_false_iff_not
def Rises (v : List DotT) : Prop := v.Pairwise fun a b => a.1 < b.1
instance (v : List DotT) : Decidable (Rises v) := inferInstanceAs (Decidable (v.Pairwise fun a b => a.1 < b.1))
def vecOk (v : List DotT) : Bool := v.all dotOk && decide (Rises v)
theorem vecOk_iff {v : List DotT} : vecOk v = true ↔ (∀ d ∈ v, dotOk d = true) ∧ Rises v := by
  unfold vecOk
  rw [Bool.and_eq_true, List.all_eq_true, decide_eq_true_iff]
theorem vecOk_step {v : List DotT} {i : Nat} (h : i < v.length) (o : vecOk (v.take i) = true) : vecOk (v.take (i + 1)) = true ↔ dotOk v[i] = true ∧ (∀ h0 : 0 < i, v[i - 1].1 < v[i].1) := by
  rw [vecOk_iff] at o ⊢
  rw [List.take_succ_eq_append_getElem h]
  constructor
  · rintro ⟨h1, h2⟩
    refine ⟨h1 _ (List.mem_append_right _ (List.mem_singleton.2 rfl)), fun h0 => ?_⟩
    have h3 := (List.pairwise_append.1 h2).2.2
    exact h3 v[i - 1] (List.mem_iff_getElem.2 ⟨i - 1, by simp; omega, by simp⟩) v[i] (List.mem_singleton.2 rfl)
  · rintro ⟨h1, h2⟩
    refine ⟨fun d hd => ?_, List.pairwise_append.2 ⟨o.2, List.pairwise_singleton .., fun a ha b hb => ?_⟩⟩
    · rcases List.mem_append.1 hd with hd | hd
      · exact o.1 d hd
      · rw [List.mem_singleton.1 hd]; exact h1
    · rw [List.mem_singleton.1 hb]
      obtain ⟨j, hj, rfl⟩ := List.mem_iff_getElem.1 ha
      rw [List.length_take] at hj
      rw [List.getElem_take]
      have h3 := h2 (by omega)
      by_cases hji : j = i - 1
      · subst hji; exact h3
      · have h5 := List.pairwise_iff_getElem.1 o.2 j (i - 1) (by simp; omega) (by simp; omega) (by omega)
        rw [List.getElem_take, List.getElem_take] at h5
        exact Int.lt_trans h5 h3
theorem vecOk_take {v : List DotT} (i : Nat) (o : vecOk v = true) : vecOk (v.take i) = true := by
  rw [vecOk_iff] at o ⊢
  exact ⟨fun d hd => o.1 d (List.mem_of_mem_take hd), o.2.sublist (List.take_sublist ..)⟩
theorem vecOk_none {v : List DotT} {i : Nat} (h : vecOk (v.take i) = false) : vecOk v = false := by
  cases e : vecOk v with
  | false => rfl
  | true => rw [vecOk_take i e] at h; cases h
/-- has a vector a dot? -/
def hasM (v : List DotT) (d : DotT) : Bool := v.any fun x => decide (x.1 = d.1 ∧ d.2.1 ≤ x.2.1)
def hasR (v : List DotT) (d : DotT) : Bool := vecOk v && dotOk d && hasM v d
theorem hasM_at {v : List DotT} {d : DotT} (o : Rises v) {k : Nat} (h : k < v.length) (hk : v[k].1 = d.1) : hasM v d = decide (d.2.1 ≤ v[k].2.1) := by
  unfold hasM
  by_cases e : d.2.1 ≤ v[k].2.1
  · rw [decide_eq_true e, List.any_eq_true]
    exact ⟨v[k], List.getElem_mem h, decide_eq_true ⟨hk, e⟩⟩
  · rw [decide_eq_false e, List.any_eq_false]
    intro x hx
    obtain ⟨j, hj, rfl⟩ := List.mem_iff_getElem.1 hx
    rw [decide_eq_true_iff]
    rintro ⟨h1, h2⟩
    rcases Nat.lt_trichotomy j k with h3 | h3 | h3
    · have := List.pairwise_iff_getElem.1 o j k hj h h3; omega
    · subst h3; exact e h2
    · have := List.pairwise_iff_getElem.1 o k j h hj h3; omega
theorem hasM_no {v : List DotT} {d : DotT} (h : ∀ i (hi : i < v.length), v[i].1 ≠ d.1) : hasM v d = false := by
  unfold hasM
  rw [List.any_eq_false]
  intro x hx
  obtain ⟨j, hj, rfl⟩ := List.mem_iff_getElem.1 hx
  rw [decide_eq_true_iff]
  exact fun q => h j hj q.1
theorem rises_len {v : List DotT} (h : vecOk v = true) : v.length ≤ 8 := by
  obtain ⟨h1, h2⟩ := vecOk_iff.1 h
  have key : ∀ i (hi : i < v.length), (i : Int) + 1 ≤ v[i].1 := by
    intro i
    induction i with
    | zero => intro hi; have := dotOk_iff.1 (h1 _ (List.getElem_mem hi)); omega
    | succ i ih =>
      intro hi
      have a := ih (by omega)
      have b := List.pairwise_iff_getElem.1 h2 i (i + 1) (by omega) hi (by omega)
      omega
  rcases Nat.lt_or_ge 8 v.length with q | q
  · have a := key (v.length - 1) (by omega)
    have b := dotOk_iff.1 (h1 _ (List.getElem_mem (show v.length - 1 < v.length by omega)))
    omega
  · exact q
end Go.Sp
end
section
/- Records, in plain. -/
namespace Go.Sp
abbrev rDot (x : RecT) : DotT := (x.2.1, x.2.2.1, ())
def shaped (x : RecT) : Bool := decide (1 ≤ x.1.length) && (decide (x.1.length ≤ 64) && (dotOk (rDot x) && (vecOk x.2.2.2.1 && (!hasR x.2.2.2.1 (rDot x) && (decide (x.2.2.2.2.2.1.length ≤ 1024) && (!x.2.2.2.2.1 || decide (x.2.2.2.2.2.1.length = 0)))))))
theorem shaped_iff {x : RecT} : shaped x = true ↔ 1 ≤ x.1.length ∧ x.1.length ≤ 64 ∧ dotOk (rDot x) = true ∧ vecOk x.2.2.2.1 = true ∧ hasR x.2.2.2.1 (rDot x) = false ∧ x.2.2.2.2.2.1.length ≤ 1024 ∧ (x.2.2.2.2.1 = true → x.2.2.2.2.2.1.length = 0) := by
  unfold shaped
  simp only [Bool.and_eq_true, decide_eq_true_eq, Bool.not_eq_true', Bool.or_eq_true]
  refine ⟨fun ⟨a, b, c, d, e, f, g⟩ => ⟨a, b, c, d, e, f, fun h => ?_⟩, fun ⟨a, b, c, d, e, f, g⟩ => ⟨a, b, c, d, e, f, ?_⟩⟩
  · rcases g with g | g
    · rw [h] at g; cases g
    · exact g
  · cases h : x.2.2.2.2.1
    · exact .inl rfl
    · exact .inr (g h)
def recOk (x : RecT) : Bool := shaped x && decide (x.2.2.2.2.2.2.1.length = 64)
theorem recOk_iff {x : RecT} : recOk x = true ↔ shaped x = true ∧ x.2.2.2.2.2.2.1.length = 64 := by unfold recOk; rw [Bool.and_eq_true, decide_eq_true_iff]
def dotsB (l : List DotT) : List UInt8 := (l.map fun d => be d.1 ++ be d.2.1).flatten
@[simp] theorem dotsB_nil : dotsB [] = [] := rfl
theorem dotsB_snoc (l : List DotT) (d : DotT) : dotsB (l ++ [d]) = dotsB l ++ (be d.1 ++ be d.2.1) := by simp [dotsB]
@[simp] theorem dotsB_cons (d : DotT) (l : List DotT) : dotsB (d :: l) = be d.1 ++ (be d.2.1 ++ dotsB l) := by simp [dotsB]
theorem dotsB_length (l : List DotT) : (dotsB l).length = 16 * l.length := by
  induction l with
  | nil => rfl
  | cons d l ih => rw [dotsB_cons]; simp [ih]; omega
def goneB (b : Bool) : UInt8 := if b then 1 else 0
def recText (x : RecT) : List UInt8 := [1] ++ (bytesOf x.1 ++ (be x.2.1 ++ (be x.2.2.1 ++ (be x.2.2.2.1.length ++ (dotsB x.2.2.2.1 ++ ([goneB x.2.2.2.2.1] ++ bytesOf x.2.2.2.2.2.1))))))
def recB (x : RecT) : List UInt8 := recText x ++ x.2.2.2.2.2.2.1
theorem recText_length (x : RecT) : (recText x).length = 42 + x.1.length + 16 * x.2.2.2.1.length + x.2.2.2.2.2.1.length := by simp [recText, dotsB_length]; omega
theorem recText_le {x : RecT} (h : shaped x = true) : (recText x).length ≤ 1300 := by
  obtain ⟨_, h1, _, h2, _, h3, _⟩ := shaped_iff.1 h
  have := rises_len h2
  rw [recText_length]; omega
theorem recB_le {x : RecT} (h : recOk x = true) : (recB x).length ≤ 1400 := by
  obtain ⟨h1, h2⟩ := recOk_iff.1 h
  have := recText_le h1
  simp [recB]; omega
def over (a b : RecT) : Bool := decide (a.1 = b.1) && (shaped a && (shaped b && hasR a.2.2.2.1 (rDot b)))
end Go.Sp
end
