/-
  An argument that reads, opened: it stands on the ground of its world.
-/
import Derived.Test.YtodhbhanmdfdeaaSpOwn2
import Derived.ChangeArms
import Derived.DataReads
import GoSem.ClaimJoined
namespace Go.Sp
open Go.ChangeShapes

theorem fr_cell (w : World) (a : Addr) : Fr.cell w.fr a = w.cell? a := by
  unfold Fr.cell World.cell? World.fr
  cases w.heap[a.block]? with
  | none => rfl
  | some o => cases o <;> rfl

/-- nothing -/
def Rp.unit : Rp Unit := { k := 0, rel := fun _ cs _ => cs = [], len := fun h => by rw [h]; rfl, mono := fun _ h => h, one := fun h c hc => by subst h; simp at hc }
/-- one behind the other -/
def Rp.prod {α β : Type} (T : Rp α) (U : Rp β) : Rp (α × β) :=
  { k := T.k + U.k, rel := fun h cs x => ∃ c1 c2, cs = c1 ++ c2 ∧ T.rel h c1 x.1 ∧ U.rel h c2 x.2, len := fun ⟨c1, c2, h, a, b⟩ => by rw [h, List.length_append, T.len a, U.len b]
    mono := fun s ⟨c1, c2, h, a, b⟩ => ⟨c1, c2, h, T.mono s a, U.mono s b⟩
    one := fun ⟨c1, c2, h, a, b⟩ c hc => by
      subst h
      rcases List.mem_append.1 hc with x | x
      · exact T.one a c x
      · exact U.one b c x }

/-- nothing in it weighs more than a machine reaches -/
def light {H : Type} (P : Program) (t : TypeId) (d : DataW H) : Prop := ∀ n ∈ d.weights P t, n ≤ reachBytes
theorem light_all {H : Type} {P : Program} {e : TypeId} : ∀ {ds : List (DataW H)} (_ : ∀ n ∈ DataW.weightsAll P e ds, n ≤ reachBytes) (i : Nat) (hi : i < ds.length), light P e ds[i]
  | d :: ds, h, 0, _ => fun n hn => h n (by simp [DataW.weightsAll]; exact .inl hn)
  | d :: ds, h, i + 1, hi => light_all (ds := ds) (fun n hn => h n (by simp [DataW.weightsAll]; exact .inr hn)) i (by simpa using hi)
theorem light_each {H : Type} {P : Program} : ∀ {ts : List TypeId} {ds : List (DataW H)} (_ : ∀ n ∈ DataW.weightsEach P ts ds, n ≤ reachBytes) (i : Nat) (ht : i < ts.length) (hi : i < ds.length), light P ts[i] ds[i]
  | t :: ts, d :: ds, h, 0, _, _ => fun n hn => h n (by simp [DataW.weightsEach]; exact .inl hn)
  | t :: ts, d :: ds, h, i + 1, ht, hi => light_each (ts := ts) (ds := ds) (fun n hn => h n (by simp [DataW.weightsEach]; exact .inr hn)) i (by simpa using ht) (by simpa using hi)
/-- what is trod as of this type stands so -/
def Opens (P : Program) (t : TypeId) {α : Type} (T : Rp α) (Q : α → Prop) : Prop :=
  ∀ (H : Type) (enc : TypeId × Value → H) (w : World) (base : Nat) (spare : Nat → Bool) (held : Bool) (fuel : Nat) (cs : List Value) (x : DataW H × List MemPlace),
    DataW.trod enc P w base spare held fuel t cs = some x → light P t x.1 → ∃ a, T.rel w.fr cs a ∧ Q a
/-- a list that a machine reaches -/
def Within {α : Type} (Q : α → Prop) (xs : List α) : Prop := xs.length ≤ 140737488351232 ∧ ∀ x ∈ xs, Q x
def Anyv {α : Type} (_ : α) : Prop := True

theorem Opens.u8 {P : Program} {t : TypeId} (ht : P.underlying t = some (.int .u8)) : Opens P t Rp.u8 Anyv := fun _ _ _ _ _ _ _ _ _ h _ => by
  obtain ⟨n, rfl, _, hw⟩ := DataW.trod_int ht h
  have : 0 ≤ n ∧ n ≤ 255 := by simpa [Lit.wf, IntKind.min, IntKind.max, IntKind.wrap, IntKind.bits, IntKind.signed] using hw
  refine ⟨UInt8.ofNat n.toNat, ?_, trivial⟩
  show _ = _
  have e : ((UInt8.ofNat n.toNat).toNat : Int) = n := by
    have : (UInt8.ofNat n.toNat).toNat = n.toNat % 256 := by simp
    omega
  rw [byteV, e]
theorem Opens.i64 {P : Program} {t : TypeId} (ht : P.underlying t = some (.int .i64)) : Opens P t Rp.i64 InI64 := fun _ _ _ _ _ _ _ _ _ h _ => by
  obtain ⟨n, rfl, _, hw⟩ := DataW.trod_int ht h
  have : InI64 n := by unfold InI64; simpa [Lit.wf, IntKind.min, IntKind.max, IntKind.wrap, IntKind.bits, IntKind.signed] using hw
  exact ⟨n, ⟨rfl, this⟩, this⟩
theorem Opens.bool {P : Program} {t : TypeId} (ht : P.underlying t = some .bool) : Opens P t Rp.bool Anyv := fun _ _ _ _ _ _ _ _ _ h _ => by
  obtain ⟨n, rfl, _⟩ := DataW.trod_bool ht h
  exact ⟨n, rfl, trivial⟩
theorem str_data (s : ByteArray) : str s.data.toList = s := by cases s; rfl
theorem Opens.str {P : Program} {t : TypeId} (ht : P.underlying t = some .string) : Opens P t Rp.str (fun s => s.length ≤ 140737488351232) := fun _ _ _ _ _ _ _ _ _ h hl => by
  obtain ⟨s, rfl, rfl, hs⟩ := DataW.trod_string ht h
  exact ⟨s.data.toList, ⟨by rw [str_data], by unfold maxLen at hs; rw [Array.length_toList]; exact Nat.le_trans hs (by decide)⟩, hl _ (by simp [DataW.weights])⟩
theorem choose_list {α : Type} {p : Nat → α → Prop} : ∀ {n : Nat} (_ : ∀ i, i < n → ∃ x, p i x), ∃ l : List α, l.length = n ∧ ∀ i (hi : i < l.length), p i l[i]
  | 0, _ => ⟨[], rfl, fun i hi => absurd hi (by simp)⟩
  | n + 1, h => by
    obtain ⟨l, h1, h2⟩ := choose_list (n := n) (fun i hi => h i (by omega))
    obtain ⟨x, hx⟩ := h n (by omega)
    refine ⟨l ++ [x], by simp [h1], fun i hi => ?_⟩
    by_cases hi' : i < l.length
    · rw [List.getElem_append_left hi']; exact h2 i hi'
    · have : i = n := by simp at hi; omega
      subst this
      rw [List.getElem_append_right (by omega)]; simpa using hx
theorem All2.of_get {α β : Type} {R : β → α → Prop} : ∀ {bs : List β} {as : List α}, bs.length = as.length → (∀ i (hb : i < bs.length) (ha : i < as.length), R bs[i] as[i]) → All2 R bs as
  | [], [], _, _ => trivial
  | _ :: _, [], h, _ => by simp at h
  | [], _ :: _, h, _ => by simp at h
  | b :: bs, a :: as, h, hr => ⟨hr 0 (by simp) (by simp), All2.of_get (by simpa using h) fun i hb ha => hr (i + 1) (by simp; omega) (by simp; omega)⟩
theorem flat_len_k {α : Type} {k : Nat} : ∀ {css : List (List α)}, (∀ c ∈ css, c.length = k) → css.flatten.length = css.length * k
  | [], _ => by simp
  | c :: css, h => by
    rw [List.flatten_cons, List.length_append, flat_len_k (fun d hd => h d (by simp [hd])), h c (by simp)]; simp [Nat.succ_mul]; omega
theorem flat_get_k {α : Type} {k : Nat} (hk : 0 < k) : ∀ {css : List (List α)} (_ : ∀ c ∈ css, c.length = k) (j : Nat), css.flatten[j]? = (css[j / k]?).bind fun c => c[j % k]?
  | [], _, j => by simp
  | c :: css, h, j => by
    have hc := h c (by simp)
    by_cases hj : j < k
    · rw [List.flatten_cons, List.getElem?_append_left (by omega), Nat.div_eq_of_lt hj, Nat.mod_eq_of_lt hj]; simp
    · have hj' : k ≤ j := by omega
      rw [List.flatten_cons, List.getElem?_append_right (by omega), hc, flat_get_k hk (fun d hd => h d (by simp [hd]))]
      have e1 : j / k = (j - k) / k + 1 := by rw [Nat.div_eq_sub_div hk hj']
      have e2 : j % k = (j - k) % k := by rw [Nat.mod_eq_sub_mod hj']
      rw [e1, e2]; simp
theorem Opens.slice {P : Program} {t e : TypeId} {α : Type} {T : Rp α} {Q : α → Prop} (ho : Opens P e T Q) (ht : P.underlying t = some (.slice e)) (hc : P.cellsOf e = T.k) (hy : 0 < P.bytesOf e) (hk : 0 < T.k) : Opens P t (Rp.slice T) (Within Q) := fun H enc w base spare held fuel cs x h hlt => by
  rcases DataW.trod_slice ht h with ⟨rfl, _⟩ | ⟨a, len, cap, elems, rest, n, _, rfl, rfl, hb, hl, hm, hlen, hel, _, _⟩
  · exact ⟨[], ⟨_, rfl, Arr.nil⟩, by simp, by simp⟩
  have hw : len * P.bytesOf e ≤ reachBytes ∧ ∀ n ∈ DataW.weightsAll P e (elems.map (·.1)), n ≤ reachBytes := by
    unfold light at hlt
    simp only [DataW.weights, ht, List.length_map, List.mem_cons, List.mem_append] at hlt
    exact ⟨Nat.le_trans (Nat.mul_le_mul_right _ (by omega)) (hlt _ (.inl rfl)), fun n hn => hlt n (.inr (.inl hn))⟩
  have hlen2 : len ≤ 140737488351232 := by
    have := Nat.le_trans (Nat.le_mul_of_pos_right len hy) hw.1
    unfold reachBytes at this; omega
  have each : ∀ i, i < len → ∃ y : List Value × α, y.1.length = T.k ∧ (T.rel w.fr y.1 y.2 ∧ Q y.2) ∧ ∀ q, q < T.k → w.cell? ((a.add (i * T.k)).add q) = y.1[q]? := by
    intro i hi
    have h1 := hel i hi
    rw [List.getElem?_eq_getElem (by omega), hc, Option.bind_eq_some_iff] at h1
    obtain ⟨ds, h2, h3⟩ := h1
    obtain ⟨b, hb⟩ := ho _ enc w base spare held n ds _ h3 (by have h9 := light_all hw.2 i (by simp; omega); rw [List.getElem_map] at h9; exact h9)
    obtain ⟨_, h4, h5⟩ := World.cells?_some h2
    exact ⟨(ds, b), h4, hb, h5⟩
  obtain ⟨l, h1, h2⟩ := choose_list each
  have hQ : Within Q (l.map (·.2)) := by
    refine ⟨by simp; omega, fun y hy => ?_⟩
    obtain ⟨z, hz, rfl⟩ := List.mem_map.1 hy
    obtain ⟨i, hi, rfl⟩ := List.mem_iff_getElem.1 hz
    exact (h2 i hi).2.1.2
  refine ⟨l.map (·.2), ⟨_, rfl, l.map (·.1), ?_, some a, cap, ?_, ?_, ⟨?_, fun h => by cases h⟩, ?_, ?_⟩, hQ⟩
  · refine All2.of_get (by simp) fun i hb ha => ?_
    simp only [List.getElem_map]
    exact (h2 i (by simpa using hb)).2.1.1
  · simp [h1]
  · simp [h1]; omega
  · simpa [maxLen] using hm
  · rw [flat_len_k (k := T.k)]
    · simp
    · intro c hc
      obtain ⟨y, hy, rfl⟩ := List.mem_map.1 hc
      obtain ⟨i, hi, rfl⟩ := List.mem_iff_getElem.1 hy
      exact (h2 i hi).1
  · intro j hj
    refine ⟨a, rfl, ?_⟩
    have hall : ∀ c ∈ l.map (·.1), c.length = T.k := by
      intro c hc
      obtain ⟨y, hy, rfl⟩ := List.mem_map.1 hc
      obtain ⟨i, hi, rfl⟩ := List.mem_iff_getElem.1 hy
      exact (h2 i hi).1
    rw [fr_cell, ← List.getElem?_eq_getElem hj, flat_get_k hk hall]
    have hj2 : j < l.length * T.k := by rw [flat_len_k hall] at hj; simpa using hj
    have hi : j / T.k < l.length := by rw [Nat.div_lt_iff_lt_mul hk]; exact hj2
    have hq : j % T.k < T.k := Nat.mod_lt _ hk
    have := (h2 _ hi).2.2 _ hq
    rw [Addr.add_add, show j / T.k * T.k + j % T.k = j from by rw [Nat.mul_comm]; exact Nat.div_add_mod j T.k] at this
    rw [this]
    simp [List.getElem?_eq_getElem hi]
theorem Opens.arr {P : Program} {t : TypeId} {α : Type} {T : Rp α} {Q : List α → Prop} (ho : Opens P t (Rp.slice T) Q) {H : Type} {enc : TypeId × Value → H} {w : World} {base : Nat} {spare : Nat → Bool} {held : Bool} {fuel : Nat} {v : Value} {x : DataW H × List MemPlace}
    (h : DataW.trod enc P w base spare held fuel t [v] = some x) (hl : light P t x.1) : ∃ a, Arr T w.fr v a ∧ Q a := by
  obtain ⟨a, ⟨u, h1, h2⟩, hq⟩ := ho _ enc w base spare held fuel _ x h hl
  cases h1
  exact ⟨a, h2, hq⟩

/-- fields that lie one behind the other from 'off' on -/
def OpensF (P : Program) (fs : List Field) (off : Nat) {α : Type} (T : Rp α) (Q : α → Prop) : Prop :=
  ∀ (H : Type) (enc : TypeId × Value → H) (w : World) (base : Nat) (spare : Nat → Bool) (held : Bool) (fuel : Nat) (cs : List Value),
    (∀ f ∈ fs, ∃ x, DataW.trod enc P w base spare held fuel f.type ((cs.drop f.offset).take (P.cellsOf f.type)) = some x ∧ light P f.type x.1) → cs.length = off + T.k → ∃ a, T.rel w.fr (cs.drop off) a ∧ Q a
theorem OpensF.nil {P : Program} {off : Nat} : OpensF P [] off Rp.unit Anyv := fun _ _ _ _ _ _ _ cs _ h => ⟨(), by show cs.drop off = []; rw [List.drop_eq_nil_of_le]; simp [Rp.unit] at h; omega, trivial⟩
theorem OpensF.cons {P : Program} {f : Field} {fs : List Field} {off : Nat} {α β : Type} {T : Rp α} {U : Rp β} {Q : α → Prop} {R : β → Prop} (ho : f.offset = off) (hc : P.cellsOf f.type = T.k) (h1 : Opens P f.type T Q) (h2 : OpensF P fs (off + T.k) U R) : OpensF P (f :: fs) off (Rp.prod T U) (fun x => Q x.1 ∧ R x.2) :=
  fun H enc w base spare held fuel cs h hl => by
    obtain ⟨x, hx, hx'⟩ := h f (by simp)
    rw [ho, hc] at hx
    obtain ⟨a, ha, qa⟩ := h1 _ _ _ _ _ _ _ _ _ hx hx'
    obtain ⟨b, hb, qb⟩ := h2 _ enc w base spare held fuel cs (fun g hg => h g (by simp [hg])) (by rw [hl]; simp [Rp.prod]; omega)
    exact ⟨(a, b), ⟨_, _, (by rw [← List.drop_drop, List.take_append_drop] : cs.drop off = (cs.drop off).take T.k ++ cs.drop (off + T.k)), ha, hb⟩, qa, qb⟩
theorem Opens.struct {P : Program} {t : TypeId} {fs : List Field} {α : Type} {T : Rp α} {Q : α → Prop} (ho : OpensF P fs 0 T Q) (ht : P.underlying t = some (.struct fs.toArray)) (hc : P.cellsOf t = T.k) : Opens P t T Q := fun H enc w base spare held fuel cs x h hlt => by
  obtain ⟨xs, n, _, rfl, hl, hn, hf⟩ := DataW.trod_struct ht h
  unfold light at hlt
  simp only [DataW.weights, ht] at hlt
  have := ho _ enc w base spare held n cs (fun f hf' => by
    obtain ⟨i, hi, rfl⟩ := List.mem_iff_getElem.1 hf'
    have := hf i fs[i] (by simp [hi])
    have hi2 : i < xs.length := by simp at hn; omega
    rw [List.getElem?_eq_getElem hi2] at this
    refine ⟨_, by simpa using this, ?_⟩
    have := light_each hlt i (by simpa using hi) (by simpa using hi2)
    simpa using this) (by rw [hl, hc]; simp)
  simpa using this
end Go.Sp
