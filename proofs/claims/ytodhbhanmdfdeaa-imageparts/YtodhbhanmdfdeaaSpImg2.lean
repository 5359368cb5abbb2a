import Derived.Test.YtodhbhanmdfdeaaSpImg
/- Plain: what is held can be written iff each of its four rows can; less of it can, too. -/
namespace Go.Sp
noncomputable def fL (k : List UInt8) (f : LeafT) : Option (List UInt8) := if k < f.1 ∧ f.1.length ≤ 64 ∧ (∃ h : 0 < f.2.1.length, f.2.1[0].1 = f.1) ∧ SRight f.2.1 then some f.1 else none
def fR (s : Int × Int) (x : RootT) : Option (Int × Int) := if (s.1 = 0 ∨ x.1 = s.1 ∧ s.2 < x.2.1) ∧ rootOk x = true then some (x.1, x.2.1) else none
def fE (s : List (List UInt8)) (e : EvdT) : Option (List (List UInt8)) := if evdOk e = true ∧ evdB e ∉ s ∧ s.length < 32 then some (s ++ [evdB e]) else none
def fS (s : Int) (n : Int) : Option Int := if s < n ∧ n ≤ 7 then some n else none
theorem fold_map {α σ : Type} (f : WSt → α → Option WSt) (p : WSt → σ) (g : σ → α → Option σ) (hfg : ∀ s x, (f s x).map p = g (p s) x) : ∀ (l : List α) (s : WSt), (l.foldlM f s).map p = l.foldlM g (p s)
  | [], s => rfl
  | a :: l, s => by
    have := hfg s a
    rw [List.foldlM_cons, List.foldlM_cons, ← this]
    cases e : f s a with
    | none => rfl
    | some t => exact fold_map f p g hfg l t
theorem fold_keep {α τ : Type} (f : WSt → α → Option WSt) (q : WSt → τ) (hq : ∀ s x t, f s x = some t → q t = q s) : ∀ (l : List α) (s t : WSt), l.foldlM f s = some t → q t = q s
  | [], s, t, h => by obtain rfl := Option.some.inj h; rfl
  | a :: l, s, t, h => by
    rw [List.foldlM_cons] at h
    cases e : f s a with
    | none => rw [e] at h; cases h
    | some u => rw [e] at h; exact (fold_keep f q hq l u t h).trans (hq s a u e)
theorem row_some {α σ : Type} {f : WSt → α → Option WSt} (p : WSt → σ) (g : σ → α → Option σ) (hfg : ∀ s x, (f s x).map p = g (p s) x) (ho : ∀ s o, p { s with out := o } = p s) {l : List α} {s : WSt} {s0 : σ} (hp : p s = s0) : (rowSteps f s l).isSome = (l.foldlM g s0).isSome := by
  subst hp
  have h := fold_map f p g hfg l { s with out := s.out ++ be l.length }
  rw [ho] at h
  rw [← h, Option.isSome_map]; rfl
theorem row_keep {α τ : Type} {f : WSt → α → Option WSt} (q : WSt → τ) (hq : ∀ s x t, f s x = some t → q t = q s) (ho : ∀ s o, q { s with out := o } = q s) {l : List α} {s t : WSt} (h : rowSteps f s l = some t) : q t = q s :=
  (fold_keep f q hq l _ t h).trans (ho _ _)
theorem bind_isSome' {α β : Type} {o : Option α} {k : α → Option β} {b c : Bool} (h1 : o.isSome = b) (h2 : ∀ s, o = some s → (k s).isSome = c) : (o.bind k).isSome = (b && c) := by
  subst h1
  cases e : o with
  | none => rfl
  | some s => exact h2 s e
theorem imgW_isSome (h : HeldT) : (imgW h).isSome = ((h.1.foldlM fL []).isSome && ((h.2.1.foldlM fR (0, 0)).isSome && ((h.2.2.1.foldlM fE []).isSome && (h.2.2.2.1.foldlM fS 0).isSome))) := by
  unfold imgW
  refine bind_isSome' (row_some (·.key) fL (fun s x => by unfold leafStep fL; split <;> rfl) (fun _ _ => rfl) rfl) fun s1 e1 => ?_
  have k1 : (s1.rep, s1.shard, s1.seen, s1.last) = (0, 0, [], 0) := row_keep (fun s => (s.rep, s.shard, s.seen, s.last)) (fun s x t h => by
      unfold leafStep at h; split at h
      · obtain rfl := Option.some.inj h; rfl
      · cases h) (fun _ _ => rfl) e1
  simp only [Prod.mk.injEq] at k1
  obtain ⟨k11, k12, k13, k14⟩ := k1
  refine bind_isSome' (row_some (fun s => (s.rep, s.shard)) fR (fun s x => by unfold rootStep fR; split <;> rfl) (fun _ _ => rfl) (Prod.ext k11 k12)) fun s2 e2 => ?_
  have k2 : (s2.seen, s2.last) = (s1.seen, s1.last) := row_keep (fun s => (s.seen, s.last)) (fun s x t h => by
        unfold rootStep at h; split at h
        · obtain rfl := Option.some.inj h; rfl
        · cases h) (fun _ _ => rfl) e2
  simp only [Prod.mk.injEq] at k2
  obtain ⟨k21, k22⟩ := k2
  refine bind_isSome' (row_some (·.seen) fE (fun s x => by unfold evdStep fE; split <;> rfl) (fun _ _ => rfl) (k21.trans k13)) fun s3 e3 => ?_
  have k3 : s3.last = s2.last := row_keep (·.last) (fun s x t h => by
          unfold evdStep at h; split at h
          · obtain rfl := Option.some.inj h; rfl
          · cases h) (fun _ _ => rfl) e3
  rw [Option.isSome_map]
  exact row_some (·.last) fS (fun s x => by unfold shutStep fS; split <;> rfl) (fun _ _ => rfl) (k3.trans (k22.trans k14))
def heldParts (h : HeldT) : List HeldT := [(h.1, [], [], [], ()), ([], h.2.1, [], [], ()), ([], [], h.2.2.1, [], ()), ([], [], [], h.2.2.2.1, ())]
theorem imgW_parts (h : HeldT) : (heldParts h).all (fun x => (imgW x).isSome) = (imgW h).isSome := by
  simp only [heldParts, List.all_cons, List.all_nil, imgW_isSome, List.foldlM_nil]
  generalize (h.1.foldlM fL []).isSome = a
  generalize (h.2.1.foldlM fR (0, 0)).isSome = b
  generalize (h.2.2.1.foldlM fE []).isSome = c
  generalize (h.2.2.2.1.foldlM fS 0).isSome = d
  cases a <;> cases b <;> cases c <;> cases d <;> rfl
def heldLess (h : HeldT) : HeldT := (h.1.take (h.1.length - 1), h.2.1.drop 1, h.2.2.1, h.2.2.2.1, ())
theorem imgW_less (h : HeldT) (hs : (imgW h).isSome = true) : (imgW (heldLess h)).isSome = true := by
  rw [imgW_isSome] at hs ⊢
  simp only [Bool.and_eq_true] at hs ⊢
  obtain ⟨h1, h2, h3⟩ := hs
  refine ⟨?_, ?_, h3⟩
  · show ((h.1.take (h.1.length - 1)).foldlM fL []).isSome = true
    cases e : (h.1.take (h.1.length - 1)).foldlM fL [] with
    | some _ => rfl
    | none =>
      conv at h1 => lhs; rw [← List.take_append_drop (h.1.length - 1) h.1, List.foldlM_append, e]
      cases h1
  · show ((h.2.1.drop 1).foldlM fR (0, 0)).isSome = true
    cases e : h.2.1 with
    | nil => rfl
    | cons x l =>
      rw [e] at h2
      cases l with
      | nil => rfl
      | cons y l =>
        simp only [List.drop_succ_cons, List.drop_zero, List.foldlM_cons] at h2 ⊢
        cases ex : fR (0, 0) x with
        | none => rw [ex] at h2; cases h2
        | some t =>
          rw [ex] at h2
          replace h2 : ((fR t y).bind fun s => l.foldlM fR s).isSome = true := h2
          show ((fR (0, 0) y).bind fun s => l.foldlM fR s).isSome = true
          by_cases c : rootOk y = true
          · rw [show fR (0, 0) y = some (y.1, y.2.1) from if_pos ⟨.inl rfl, c⟩]
            unfold fR at h2
            split at h2
            · exact h2
            · cases h2
          · unfold fR at h2
            rw [if_neg fun q => c q.2] at h2
            cases h2
theorem heldParts_b {h : HeldT} (x : HeldB h) : ∀ y ∈ heldParts h, HeldB y := fun y hy => by
  obtain ⟨⟨a, b⟩, c, d, e⟩ := x
  simp only [heldParts, List.mem_cons, List.not_mem_nil, or_false] at hy
  rcases hy with rfl | rfl | rfl | rfl
  · exact ⟨⟨a, b⟩, Nat.zero_le _, Nat.zero_le _, Nat.zero_le _⟩
  · exact ⟨⟨Nat.zero_le _, fun _ h => by cases h⟩, c, Nat.zero_le _, Nat.zero_le _⟩
  · exact ⟨⟨Nat.zero_le _, fun _ h => by cases h⟩, Nat.zero_le _, d, Nat.zero_le _⟩
  · exact ⟨⟨Nat.zero_le _, fun _ h => by cases h⟩, Nat.zero_le _, Nat.zero_le _, e⟩
theorem heldLess_b {h : HeldT} (x : HeldB h) : HeldB (heldLess h) := by
  obtain ⟨⟨a, b⟩, c, d, e⟩ := x
  refine ⟨⟨?_, fun y hy => b y (List.mem_of_mem_take hy)⟩, ?_, d, e⟩
  · show (h.1.take (h.1.length - 1)).length ≤ 3000
    rw [List.length_take]; omega
  · show (h.2.1.drop 1).length ≤ 3000
    rw [List.length_drop]; omega
end Go.Sp
