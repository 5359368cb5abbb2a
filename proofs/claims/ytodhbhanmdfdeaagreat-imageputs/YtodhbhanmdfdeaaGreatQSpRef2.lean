/- Texts of this proof, one behind the other. -/
import Derived.Test.YtodhbhanmdfdeaaGreatQSpImg
import Derived.Test.YtodhbhanmdfdeaaGreatQSpRef
section
/- Texts of this proof. -/
namespace Go.Sp
noncomputable def fL (k : List UInt8) (f : LeafT) : Option (List UInt8) := if k < f.1 ∧ f.1.length ≤ 64 ∧ (∃ h : 0 < f.2.1.length, f.2.1[0].1 = f.1) ∧ SRight f.2.1 then some f.1 else none
def fR (s : Int × Int) (x : RootT) : Option (Int × Int) := if (s.1 = 0 ∨ x.1 = s.1 ∧ s.2 < x.2.1) ∧ rootOk x = true then some (x.1, x.2.1) else none
def fE (s : List (List UInt8)) (e : EvdT) : Option (List (List UInt8)) := if evdOk e = true ∧ evdB e ∉ s ∧ s.length < 32 then some (s ++ [evdB e]) else none
def fS (s : Int) (n : Int) : Option Int := if s < n ∧ n ≤ 7 then some n else none
theorem fold_map {α σ : Type} (f : WSt → α → Option WSt) (p : WSt → σ) (g : σ → α → Option σ) (hfg : ∀ s x, (f s x).map p = g (p s) x) : ∀ (l : List α) (s : WSt), (l.foldlM f s).map p = l.foldlM g (p s)
 | [], s => rfl
 | a :: l, s => by
  have := hfg s a
  rw [List.foldlM_cons, List.foldlM_cons, ← this]
  cases e : f s a with
  | none => rfl
  | some t => exact fold_map f p g hfg l t
theorem fold_keep {α τ : Type} (f : WSt → α → Option WSt) (q : WSt → τ) (hq : ∀ s x t, f s x = some t → q t = q s) : ∀ (l : List α) (s t : WSt), l.foldlM f s = some t → q t = q s
 | [], s, t, h => by obtain rfl := Option.some.inj h; rfl
 | a :: l, s, t, h => by
  rw [List.foldlM_cons] at h
  cases e : f s a with
  | none => rw [e] at h; cases h
  | some u => rw [e] at h; exact (fold_keep f q hq l u t h).trans (hq s a u e)
theorem row_some {α σ : Type} {f : WSt → α → Option WSt} (p : WSt → σ) (g : σ → α → Option σ) (hfg : ∀ s x, (f s x).map p = g (p s) x) (ho : ∀ s o, p { s with out := o } = p s) {l : List α} {s : WSt} {s0 : σ} (hp : p s = s0) : (rowSteps f s l).isSome = (l.foldlM g s0).isSome := by
 subst hp
 have h := fold_map f p g hfg l { s with out := s.out ++ be l.length }
 rw [ho] at h
 rw [← h, Option.isSome_map]; rfl
theorem row_keep {α τ : Type} {f : WSt → α → Option WSt} (q : WSt → τ) (hq : ∀ s x t, f s x = some t → q t = q s) (ho : ∀ s o, q { s with out := o } = q s) {l : List α} {s t : WSt} (h : rowSteps f s l = some t) : q t = q s :=
 (fold_keep f q hq l _ t h).trans (ho _ _)
theorem bind_isSome' {α β : Type} {o : Option α} {k : α → Option β} {b c : Bool} (h1 : o.isSome = b) (h2 : ∀ s, o = some s → (k s).isSome = c) : (o.bind k).isSome = (b && c) := by
 subst h1
 cases e : o with
 | none => rfl
 | some s => exact h2 s e
theorem imgW_isSome (h : HeldT) : (imgW h).isSome = ((h.1.foldlM fL []).isSome && ((h.2.1.foldlM fR (0, 0)).isSome && ((h.2.2.1.foldlM fE []).isSome && (h.2.2.2.1.foldlM fS 0).isSome))) := by
 unfold imgW
 refine bind_isSome' (row_some (·.key) fL (fun s x => by unfold leafStep fL; split <;> rfl) (fun _ _ => rfl) rfl) fun s1 e1 => ?_
 have k1 : (s1.rep, s1.shard, s1.seen, s1.last) = (0, 0, [], 0) := row_keep (fun s => (s.rep, s.shard, s.seen, s.last)) (fun s x t h => by
   unfold leafStep at h; split at h
   ·obtain rfl := Option.some.inj h; rfl
   ·cases h) (fun _ _ => rfl) e1
 simp only [Prod.mk.injEq] at k1
 obtain ⟨k11, k12, k13, k14⟩ := k1
 refine bind_isSome' (row_some (fun s => (s.rep, s.shard)) fR (fun s x => by unfold rootStep fR; split <;> rfl) (fun _ _ => rfl) (Prod.ext k11 k12)) fun s2 e2 => ?_
 have k2 : (s2.seen, s2.last) = (s1.seen, s1.last) := row_keep (fun s => (s.seen, s.last)) (fun s x t h => by
    unfold rootStep at h; split at h
    ·obtain rfl := Option.some.inj h; rfl
    ·cases h) (fun _ _ => rfl) e2
 simp only [Prod.mk.injEq] at k2
 obtain ⟨k21, k22⟩ := k2
 refine bind_isSome' (row_some (·.seen) fE (fun s x => by unfold evdStep fE; split <;> rfl) (fun _ _ => rfl) (k21.trans k13)) fun s3 e3 => ?_
 have k3 : s3.last = s2.last := row_keep (·.last) (fun s x t h => by
     unfold evdStep at h; split at h
     ·obtain rfl := Option.some.inj h; rfl
     ·cases h) (fun _ _ => rfl) e3
 rw [Option.isSome_map]
 exact row_some (·.last) fS (fun s x => by unfold shutStep fS; split <;> rfl) (fun _ _ => rfl) (k3.trans (k22.trans k14))
end Go.Sp
end
section
/- Texts of this proof. -/
namespace Go.Sp
theorem Does.geqS {P : Program} {σ : List (Nat × Value)} {g : Gr} {η : List SProp} {t u : TypeId} {x y : Operand} {a b : ByteArray} (hx : ev σ x = some (.string a)) (hy : ev σ y = some (.string b)) :
  Does P (.binOp .geq t x y u) σ g η (.bool !(Op.bytesLess a.toList b.toList)) η :=
 .run fun o ρ w ho hk => by simp [execOp, ho, hk x _ hx, hk y _ hy, eqGuard, Go.binOp, Op.stringOp]
theorem geqS_eq (x y : List UInt8) : (!Op.bytesLess (str x).toList (str y).toList) = decide (¬ x < y) := by rw [lssS_eq, decide_not]
theorem foldO_next {α σ : Type} (f : σ → α → Option σ) {s s' t : σ} {l : List α} {i : Nat} (hi : i < l.length) (h : (l.take i).foldlM f s = some s') (h2 : f s' l[i] = some t) : (l.take (i + 1)).foldlM f s = some t := by
 rw [List.take_succ_eq_append_getElem hi, List.foldlM_append, h]
 simp [h2]
theorem foldO_none {α σ : Type} (f : σ → α → Option σ) {s s' : σ} {l : List α} {i : Nat} (hi : i < l.length) (h : (l.take i).foldlM f s = some s') (h2 : f s' l[i] = none) : (l.foldlM f s).isSome = false := by
 have : (l.take (i + 1)).foldlM f s = none := by
  rw [List.take_succ_eq_append_getElem hi, List.foldlM_append, h]
  simp [h2]
 conv => lhs; rw [← List.take_append_drop (i + 1) l, List.foldlM_append, this]
 rfl
theorem foldO_some {α σ : Type} (f : σ → α → Option σ) {s s' : σ} {l : List α} (h : l.foldlM f s = some s') : (l.foldlM f s).isSome = true := by rw [h]; rfl
def lastBy {α σ : Type} (p : α → σ) (z : σ) (l : List α) (i : Nat) : σ := if h : 0 < i ∧ i - 1 < l.length then p (l[i - 1]'h.2) else z
theorem lastBy_zero {α σ : Type} (p : α → σ) (z : σ) (l : List α) : lastBy p z l 0 = z := rfl
theorem lastBy_pos {α σ : Type} (p : α → σ) (z : σ) (l : List α) {i : Nat} (h : 0 < i) (h2 : i - 1 < l.length) : lastBy p z l i = p l[i - 1] := dif_pos ⟨h, h2⟩
theorem lastBy_succ {α σ : Type} (p : α → σ) (z : σ) (l : List α) {i : Nat} (h : i < l.length) : lastBy p z l (i + 1) = p l[i] := dif_pos ⟨Nat.succ_pos _, h⟩
theorem nil_lt {x : List UInt8} : [] < x ↔ 1 ≤ x.length := by
 cases x with
 | nil => simp
 | cons a x => simp
theorem lt_pos {x y : List UInt8} (h : x < y) : 1 ≤ y.length := by
 cases y with
 | nil => simp at h
 | cons b y => simp
def EvRow (l : List EvdT) : Prop := (∀ i (h : i < l.length), evdOk l[i] = true ∧ ∀ k (hk : k < i), l[k] ≠ l[i]) ∧ l.length ≤ 32
theorem fE_some : ∀ (l : List EvdT) (s t : List (List UInt8)), l.foldlM fE s = some t → s.length ≤ 32 → t = s ++ l.map evdB ∧ (∀ e ∈ l, evdOk e = true) ∧ (s.Nodup → (s ++ l.map evdB).Nodup) ∧ t.length ≤ 32
 | [], s, t, h, hs => by
  obtain rfl := Option.some.inj h
  exact ⟨by simp, by simp, by simp, hs⟩
 | a :: l, s, t, h, hs => by
  rw [List.foldlM_cons] at h
  by_cases c : evdOk a = true ∧ evdB a ∉ s ∧ s.length < 32
  ·rw [show fE s a = some (s ++ [evdB a]) from if_pos c] at h
   obtain ⟨h1, h2, h3, h4⟩ := fE_some l _ t h (by simp; omega)
   refine ⟨by rw [h1]; simp, ?_, fun hn => ?_, h4⟩
   ·intro e he
    rcases List.mem_cons.1 he with rfl | he
    ·exact c.1
    ·exact h2 e he
   ·have : (s ++ [evdB a]).Nodup := by
     rw [List.nodup_append]
     exact ⟨hn, by simp, fun x hx y hy e => by rw [List.mem_singleton.1 hy] at e; exact c.2.1 (e ▸ hx)⟩
    have := h3 this
    rwa [List.append_assoc, List.singleton_append] at this
  ·rw [show fE s a = none from if_neg c] at h; cases h
theorem fE_of : ∀ (l : List EvdT) (s : List (List UInt8)), (∀ e ∈ l, evdOk e = true) → (s ++ l.map evdB).Nodup → s.length + l.length ≤ 32 → l.foldlM fE s = some (s ++ l.map evdB)
 | [], s, _, _, _ => by simp
 | a :: l, s, h1, h2, h3 => by
  rw [List.foldlM_cons]
  have hn : evdB a ∉ s := fun q => by
   rw [List.map_cons, List.nodup_append] at h2
   exact h2.2.2 _ q _ (List.mem_cons_self ..) rfl
  have hl : s.length < 32 := by simp at h3; omega
  rw [show fE s a = some (s ++ [evdB a]) from if_pos ⟨h1 a (List.mem_cons_self ..), hn, hl⟩]
  have := fE_of l (s ++ [evdB a]) (fun e he => h1 e (List.mem_cons_of_mem _ he)) (by rw [List.append_assoc, List.singleton_append]; exact h2) (by simp at h3 ⊢; omega)
  rw [List.append_assoc, List.singleton_append] at this
  exact this
theorem be_inj2 {m n : Int} (hm : InI64 m) (hn : InI64 n) (h : be m = be n) : m = n := by rw [← s64_be m hm, ← s64_be n hn, h]
theorem rootB_inj {x y : RootT} (hx : rootOk x = true) (hy : rootOk y = true) (h : rootB x = rootB y) : x = y := by
 obtain ⟨sx, gx⟩ := rootOk_iff.1 hx
 obtain ⟨sy, gy⟩ := rootOk_iff.1 hy
 have bx := rootShape_iff.1 sx
 have by' := rootShape_iff.1 sy
 unfold rootB at h
 obtain ⟨h1, h2⟩ := List.append_inj h (by rw [rootText_length sx, rootText_length sy])
 unfold rootText at h1
 obtain ⟨_, h3⟩ := List.append_inj h1 rfl
 obtain ⟨h4, h5⟩ := List.append_inj h3 (by simp)
 obtain ⟨h6, h7⟩ := List.append_inj h4 (by simp)
 obtain ⟨h8, h9⟩ := List.append_inj h7 (by simp)
 have in64 : ∀ z : Int, 0 ≤ z ∧ z ≤ 1073741824 → InI64 z := fun z hz => by constructor <;> omega
 have e1 := be_inj2 (in64 _ (by omega)) (in64 _ (by omega)) h6
 have e2 := be_inj2 (in64 _ (by omega)) (in64 _ (by omega)) h8
 have e3 := be_inj2 (in64 _ (by omega)) (in64 _ (by omega)) h9
 obtain ⟨x0, x1, x2, x3, x4, ⟨⟩⟩ := x
 obtain ⟨y0, y1, y2, y3, y4, ⟨⟩⟩ := y
 simp only at e1 e2 e3 h5 h2
 rw [e1, e2, e3, h5, h2]
theorem bytesOf_inj {x y : List UInt8} (h : bytesOf x = bytesOf y) : x = y := by
 unfold bytesOf at h
 exact (List.append_inj h (by simp)).2
theorem evdB_inj {x y : EvdT} (hx : evdOk x = true) (hy : evdOk y = true) (h : evdB x = evdB y) : x = y := by
 have ox := evdOk_iff.1 hx
 have oy := evdOk_iff.1 hy
 unfold evdB at h
 have l1 := rootB_length ox.1
 have l2 := rootB_length oy.1
 have l3 := rootB_length ox.2.1
 have l4 := rootB_length oy.2.1
 obtain ⟨h1, h2⟩ := List.append_inj h (by simp [l1, l2])
 have e1 := rootB_inj ox.1 oy.1 (bytesOf_inj h1)
 have e2 := rootB_inj ox.2.1 oy.2.1 (bytesOf_inj h2)
 obtain ⟨x0, x1, ⟨⟩⟩ := x
 obtain ⟨y0, y1, ⟨⟩⟩ := y
 simp only at e1 e2
 rw [e1, e2]
theorem evRow_iff {l : List EvdT} : (l.foldlM fE []).isSome = true ↔ EvRow l := by
 constructor
 ·intro h
  obtain ⟨t, ht⟩ := Option.isSome_iff_exists.1 h
  obtain ⟨h1, h2, h3, h4⟩ := fE_some l [] t ht (by simp)
  have hn := h3 (by simp)
  rw [List.nil_append] at hn h1
  refine ⟨fun i hi => ⟨h2 _ (List.getElem_mem hi), fun k hk e => ?_⟩, by rw [h1] at h4; simpa using h4⟩
  have := List.pairwise_iff_getElem.1 hn k i (by simp; omega) (by simpa using hi) hk
  simp [e] at this
 ·rintro ⟨h1, h2⟩
  have hok : ∀ e ∈ l, evdOk e = true := fun e he => by obtain ⟨i, hi, rfl⟩ := List.mem_iff_getElem.1 he; exact (h1 i hi).1
  rw [fE_of l [] hok ?_ (by simpa using h2)]
  ·rfl
  ·rw [List.nil_append]
   refine List.pairwise_iff_getElem.2 fun i j hi hj hij e => ?_
   simp only [List.length_map] at hi hj
   simp only [List.getElem_map] at e
   exact (h1 j hj).2 i hij (evdB_inj (h1 i hi).1 (h1 j hj).1 e)
end Go.Sp
end
