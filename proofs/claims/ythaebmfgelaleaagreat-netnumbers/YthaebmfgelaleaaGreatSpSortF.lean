/- Texts of this proof, one behind the other. -/
import Derived.Test.YthaebmfgelaleaaGreatSpLast
import Derived.Shelf.SortM.Plain
import Derived.Shelf.SortM.SortNone
import Derived.Shelf.SlSortCmp.NoneTotal
section
/- slices.Sort of texts, over the library's own contract. -/
namespace Go.Sp
open Go.Proofs
variable {P : Program} {g : Gr} {η ζ : List SProp}
/-- texts, rising -/
def sortT (l : List (List UInt8)) : List (List UInt8) := l.mergeSort fun x y => decide (x ≤ y)
theorem sortT_perm (l : List (List UInt8)) : (sortT l).Perm l := List.mergeSort_perm _ _
@[simp] theorem sortT_length (l : List (List UInt8)) : (sortT l).length = l.length := (sortT_perm l).length_eq
theorem Holds.grow {w : World} (h : Holds w g η) (os : Array Obj) : Holds (Sort.grow w os) g η := by
  obtain ⟨l⟩ := os
  induction l generalizing w with
  | nil => simpa using h
  | cons o l ih =>
    have h1 : Holds (w.alloc o) g η := (h.alloc o).imp fun _ x => Sat.tail x
    have h2 := ih h1
    have e : Sort.grow (w.alloc o) ⟨l⟩ = Sort.grow w ⟨o :: l⟩ := by rw [Sort.alloc_eq_grow, Sort.grow_grow]; congr 1; apply Array.ext'; simp
    rwa [e] at h2
theorem flat_str {css : List (List Value)} {l : List (List UInt8)} (h : All2 (Rp.str.rel Fr.emp) css l) : css.flatten = l.map encStr := by
  induction css generalizing l with
  | nil => cases l with
    | nil => rfl
    | cons _ _ => exact h.elim
  | cons c css ih => cases l with
    | nil => exact h.elim
    | cons x l => rw [List.flatten_cons, ih h.2, h.1.1]; rfl
theorem flat_ones (l : List (List UInt8)) : (l.map fun x => [encStr x]).flatten = l.map encStr := by induction l with
  | nil => rfl
  | cons x l ih => rw [List.map_cons, List.flatten_cons, ih]; rfl
theorem str_flat {l : List (List UInt8)} (h : ∀ x ∈ l, x.length ≤ 9223372036854775807) : All2 (Rp.str.rel Fr.emp) (l.map fun x => [encStr x]) l := by
  induction l with
  | nil => trivial
  | cons x l ih => exact ⟨⟨rfl, h x (by simp)⟩, ih fun y hy => h y (by simp [hy])⟩
theorem str_bounds {css : List (List Value)} {l : List (List UInt8)} (h : All2 (Rp.str.rel Fr.emp) css l) : ∀ x ∈ l, x.length ≤ 9223372036854775807 := by
  induction css generalizing l with
  | nil => cases l with
    | nil => simp
    | cons _ _ => exact h.elim
  | cons c css ih => cases l with
    | nil => exact h.elim
    | cons y l =>
      intro x hx
      rcases List.mem_cons.1 hx with rfl | hx
      · exact h.1.2
      · exact ih h.2 x hx
/-- slices.Sort of texts of one's own -/
theorem sort_con {f : FuncId} {e : TypeId} {r : Fr} {a : Option Addr} {c : Nat} {l : List (List UInt8)}
    (hk : ∀ (blk off cap : Nat) (ss : List (List UInt8)) (w : World), Sort.Holds encStr w blk off ss.toArray → blk < w.heap.size → ss.length < 4611686018427387904 →
      Calls P f #[.slice (some ⟨blk, off, none⟩) ss.length cap] w fun e w' => e = .returned (.tuple #[]) ∧ ∃ n os, w' = Sort.grow (Sort.putRow encStr (Sort.ahead w n) blk off (ss.mergeSort fun x y => decide (x ≤ y)).toArray) os)
    (hz : ∀ (p : Option Addr) (cap : Nat) (w : World), Calls P f #[.slice p 0 cap] w fun e w' => e = .returned (.tuple #[]) ∧ w' = w) (hl : l.length < 4611686018427387904) :
    Con P f #[.slice a l.length c] r [OwnP Rp.str e (.slice a l.length c) l] (Ret fun v η => v = .tuple #[] ∧ η = [OwnP Rp.str e (.slice a l.length c) (sortT l)]) := by
  intro g hg w hw
  by_cases h0 : l.length = 0
  · have : l = [] := List.length_eq_zero_iff.1 h0
    subst this
    exact (hz a c w).mono fun e' w' ⟨h1, h2⟩ => by subst h1 h2; exact ⟨_, ⟨rfl, rfl⟩, by simpa [sortT] using hw⟩
  · obtain ⟨b, cap, cur, css, hv, h1, h2, h3, h4, ha, fz, hfz, hb⟩ := hw.ownP_block (by omega)
    injection hv with e1 e2 e3
    subst e1 e3
    have hfl := flat_str ha
    have hbd := str_bounds ha
    have hk1 : Rp.str.k = 1 := rfl
    rw [hk1, Nat.mul_one] at h3 h4
    rw [hfl] at h4
    have hbl := hb.block
    have hget : ∀ j (hj : j < l.length), cur[j]? = some (encStr l[j]) := fun j hj => by
      have h5 : (cur.toList.take l.length)[j]? = (l.map encStr)[j]? := by rw [h4]
      rw [List.getElem?_take, if_pos hj, List.getElem?_map, List.getElem?_eq_getElem hj] at h5
      simpa using h5
    have hlt : b < w.heap.size := (Array.getElem?_eq_some_iff.1 hbl).1
    have hH : Sort.Holds encStr w b 0 l.toArray := fun j hj => by
      have hj' : j < l.length := by simpa using hj
      refine ⟨?_, ?_⟩
      · simp only [World.cell?, hbl, Nat.zero_add]
        rw [hget j hj', getElem!_pos _ j hj]; simp
      · have := hfz j (by rw [← h3, hk1]; omega)
        simp only [World.frozen?, hbl, Nat.zero_add]
        simpa using this
    refine (hk b 0 c l w hH hlt hl).mono fun e' w' ⟨he, n, os, hw'⟩ => ?_
    subst he hw'
    have hsl : (sortT l).length = l.length := sortT_length l
    refine ⟨_, ⟨rfl, rfl⟩, Holds.grow ?_ os⟩
    have hmod : (Sort.putRow encStr (Sort.ahead w n) b 0 (sortT l).toArray).heap[b]? = some (.cells (Sort.putCells encStr 0 (sortT l).toArray cur) e fz) := by
      simp [Sort.putRow, Sort.mapBlock, Sort.ahead, Array.getElem?_modify, hbl, Sort.onCells]
    have hh := hb.setBlock (w' := Sort.putRow encStr (Sort.ahead w n) b 0 (sortT l).toArray) hmod (fun i hi => by
      have : b ≠ i := fun q => hi q.symm
      simp [Sort.putRow, Sort.mapBlock, Sort.ahead, Array.getElem?_modify, this]) rfl rfl rfl (Nat.le_add_right _ _)
    refine hh.imp fun m x => Sat.cons_imp (fun m' y => ?_) (fun _ z => z) x
    refine ⟨(sortT l).map fun x => [encStr x], str_flat fun x hx => hbd x ((sortT_perm l).mem_iff.1 hx), ?_, .inr ⟨b, c, Sort.putCells encStr 0 (sortT l).toArray cur, by rw [hsl], ⟨fz, y, hfz⟩, by rw [hsl]; exact h1, h2, ?_, ?_⟩⟩
    · have : ((sortT l).map fun x => [encStr x]).flatten = (sortT l).map encStr := flat_ones _
      rw [this, hk1]; simp
    · rw [hk1]; simp [Sort.putCells, h3]
    · have : ((sortT l).map fun x => [encStr x]).flatten = (sortT l).map encStr := flat_ones _
      rw [this, hk1, Nat.mul_one]
      apply List.ext_getElem?
      intro j
      rw [List.getElem?_take, hsl]
      by_cases hj : j < l.length
      · have hjs : j < (sortT l).length := by omega
        have hjc : j < cur.size := by omega
        rw [if_pos hj]
        simp [Sort.putCells, hjc, hj]
      · rw [if_neg hj, List.getElem?_eq_none (by simp; omega)]
end Go.Sp
end
section
/- slices.SortFunc of things of k cells of one's own, over the library's own contract. -/
namespace Go.Sp
open Go.Proofs
variable {P : Program} {g : Gr} {η ζ : List SProp}
theorem Holds.grown {w w' : World} (h : Holds w' w.gr []) : ∃ q os, w' = Sort.grow (w.drewN q) os := by
  have hb := h.below
  obtain ⟨a, b, ⟨c, d⟩, _⟩ := h
  obtain ⟨_, _, _, hsz, hpre⟩ := hb
  obtain ⟨heap', tape', drawn', os', out'⟩ := w'
  obtain ⟨heap, tape, drawn, os, out⟩ := w
  simp only [World.gr] at a b c d
  subst a b c
  refine ⟨drawn' - drawn, heap'.extract heap.size heap'.size, ?_⟩
  have e1 : drawn + (drawn' - drawn) = drawn' := by have d' : drawn ≤ drawn' := d; omega
  have e2 : heap ++ heap'.extract heap.size heap'.size = heap' := by
    apply Array.ext_getElem?
    intro i
    rw [Array.getElem?_append]
    split
    · rename_i hi; exact (hpre i hi).symm
    · rename_i hi
      rw [Array.getElem?_extract]
      split
      · congr 1; omega
      · rename_i h2; rw [Array.getElem?_eq_none (by omega)]
  simp only [Sort.grow, World.drewN, e1, e2]
/-- rising, by a way of telling -/
def sortF {α : Type} (cf : α → α → Int) (l : List α) : List α := l.mergeSort fun x y => !(ltOf cf) y x
theorem sortF_perm {α : Type} (cf : α → α → Int) (l : List α) : (sortF cf l).Perm l := List.mergeSort_perm _ _
@[simp] theorem sortF_length {α : Type} (cf : α → α → Int) (l : List α) : (sortF cf l).length = l.length := (sortF_perm cf l).length_eq
section
variable {α : Type} [Inhabited α] {enc : α → List Value} {k : Nat}
theorem flat_get (hk : ∀ x, (enc x).length = k) (h0 : 0 < k) : ∀ (l : List α) (t : Nat), t < l.length * k → (l.map enc).flatten[t]! = (enc l[t / k]!)[t % k]!
  | [], t, h => by simp at h
  | x :: l, t, h => by
    rw [List.map_cons, List.flatten_cons]
    have hx := hk x
    by_cases ht : t < k
    · rw [Nat.div_eq_of_lt ht, Nat.mod_eq_of_lt ht]
      rw [List.getElem!_eq_getElem?_getD, List.getElem?_append_left (by omega), List.getElem!_eq_getElem?_getD]
      rfl
    · have h1 : t / k = (t - k) / k + 1 := by rw [← Nat.add_div_right _ h0]; congr 1; omega
      have h2 : t % k = (t - k) % k := by
        have : t = (t - k) + k := by omega
        rw [this, Nat.add_mod_right]; congr 1; omega
      have h3 : (x :: l)[t / k]! = l[(t - k) / k]! := by rw [h1]; rfl
      rw [h2, h3, ← flat_get hk h0 l (t - k) (by rw [List.length_cons, Nat.add_mul, Nat.one_mul] at h; omega)]
      rw [List.getElem!_eq_getElem?_getD, List.getElem?_append_right (by omega), hx, List.getElem!_eq_getElem?_getD]
omit [Inhabited α] in
theorem flat_len (hk : ∀ x, (enc x).length = k) : ∀ (l : List α), (l.map enc).flatten.length = l.length * k
  | [] => by simp
  | x :: l => by rw [List.map_cons, List.flatten_cons, List.length_append, flat_len hk l, hk, List.length_cons, Nat.add_mul, Nat.one_mul, Nat.add_comm]
theorem flatK_list (hk : ∀ x, (enc x).length = k) (h0 : 0 < k) (l : List α) : (Sort.flatK enc k l.toArray).toList = (l.map enc).flatten := by
  apply List.ext_getElem
  · rw [flat_len hk]; simp
  · intro t h1 h2
    have ht : t < l.length * k := by simpa using h1
    have h3 := flat_get hk h0 l t ht
    have h4 := Sort.get_flatK enc k l.toArray t (by simpa using ht)
    have e1 : (Sort.flatK enc k l.toArray).toList[t] = (Sort.flatK enc k l.toArray)[t]! := by rw [getElem!_pos _ t (by simpa using ht)]; simp
    have e2 : (l.map enc).flatten[t] = (l.map enc).flatten[t]! := by rw [getElem!_pos _ t h2]
    rw [e1, e2, h3, h4]
    simp
omit [Inhabited α] in
theorem cells_all2 (hk : ∀ x, (enc x).length = k) (h1 : ∀ x, ∀ v ∈ enc x, v.oneCell' = true) : ∀ l : List α, All2 ((Rp.cells k).rel Fr.emp) (l.map enc) (l.map enc)
  | [] => trivial
  | x :: l => ⟨⟨rfl, hk x, h1 x⟩, cells_all2 hk h1 l⟩
theorem all2_cells' : ∀ {css ds : List (List Value)}, All2 ((Rp.cells k).rel Fr.emp) css ds → css = ds
  | [], [], _ => rfl
  | [], _ :: _, h => h.elim
  | _ :: _, [], h => h.elim
  | _ :: _, _ :: _, h => by rw [h.1.1, all2_cells' h.2]
/-- slices.SortFunc of things of one's own -/
theorem sortF_con {f f2 : FuncId} {e : TypeId} {r : Fr} {a : Option Addr} {c : Nat} {l : List α} (hk : ∀ x, (enc x).length = k) (h0 : 0 < k) (h1 : ∀ x, ∀ v ∈ enc x, v.oneCell' = true) (cf : α → α → Int)
    (hC : ∀ x y, Con P f2 #[.agg (enc x).toArray, .agg (enc y).toArray] Fr.emp [] (Ret fun v η => v = .int .i64 (cf x y) ∧ η = []))
    (hs : ∀ (blk off cap : Nat) (d : Array α) (w : World), CmpLays P f2 #[] enc k cf blk off d.size w → Sort.HoldsK enc k w blk off d → blk < w.heap.size → d.size < 4611686018427387904 →
      Calls P f #[.slice (some ⟨blk, off, none⟩) d.size cap, .func (.func f2) #[] #[]] w fun e w' => e = .returned (.tuple #[]) ∧ ∃ n os, w' = sortWorldK enc k w blk off n (sortF cf d.toList).toArray os)
    (hz : ∀ (p : Option Addr) (cap : Nat) (fv : Value) (w : World), Calls P f #[.slice p 0 cap, fv] w fun e w' => e = .returned (.tuple #[]) ∧ w' = w) (hl : l.length < 4611686018427387904) :
    Con P f #[.slice a l.length c, .func (.func f2) #[] #[]] r [OwnP (Rp.cells k) e (.slice a l.length c) (l.map enc)] (Ret fun v η => v = .tuple #[] ∧ η = [OwnP (Rp.cells k) e (.slice a l.length c) ((sortF cf l).map enc)]) := by
  intro g hg w hw
  by_cases hl0 : l.length = 0
  · have : l = [] := List.length_eq_zero_iff.1 hl0
    subst this
    exact (hz a c _ w).mono fun e' w' ⟨h1, h2⟩ => by subst h1 h2; exact ⟨_, ⟨rfl, rfl⟩, by simpa [sortF] using hw⟩
  · obtain ⟨b, cap, cur, css, hv, hb1, hb2, hb3, hb4, ha, fz, hfz, hb⟩ := hw.ownP_block (by simp; omega)
    have hcs := all2_cells' ha
    subst hcs
    injection hv with e1 e2 e3
    subst e1 e3
    have hkk : (Rp.cells k).k = k := rfl
    rw [List.length_map, hkk] at hb4
    rw [hkk] at hb3
    have hbl := hb.block
    have hflat := flatK_list hk h0 l
    have hfs : (Sort.flatK enc k l.toArray).size = l.length * k := by simp
    have hle : l.length * k ≤ cur.size := by
      rw [hb3]; rw [List.length_map] at hb1; exact Nat.mul_le_mul_right k hb1
    have hget : ∀ j (hj : j < l.length * k), cur[j]? = some (Sort.flatK enc k l.toArray)[j]! := fun j hj => by
      have h5 : (cur.toList.take (l.length * k))[j]? = (Sort.flatK enc k l.toArray).toList[j]? := by rw [hb4, hflat]
      rw [List.getElem?_take, if_pos hj] at h5
      rw [getElem!_pos _ j (by rw [hfs]; exact hj)]
      simpa [hj] using h5
    have hlt : b < w.heap.size := (Array.getElem?_eq_some_iff.1 hbl).1
    have hH : Sort.HoldsK enc k w b 0 l.toArray := fun j hj => by
      have hj' : j < l.length * k := by rw [hfs] at hj; exact hj
      refine ⟨?_, ?_⟩
      · simp only [World.cell?, hbl, Nat.zero_add]
        simpa using hget j hj'
      · have := hfz j (by rw [hkk, ← hb3]; omega)
        simp only [World.frozen?, hbl, Nat.zero_add]
        simpa using this
    have hcmp : CmpLays P f2 #[] enc k cf b 0 l.toArray.size w := fun m os dk _ x y => by
      have := hC x y (sortWorldK enc k w b 0 m dk os).gr (Fr.emp_sub _) _ (Holds.of_world _)
      simp only [Array.append_empty]
      exact this.mono fun e' w' ⟨η', hp, hh⟩ => by
        cases e' with
        | returned v => obtain ⟨rfl, rfl⟩ := hp; exact ⟨rfl, hh.grown⟩
        | panicked _ => exact hp.elim
        | outgrown => exact hp.elim
    refine (hs b 0 c l.toArray w hcmp hH hlt (by simpa using hl)).mono fun e' w' ⟨he, n, os, hw'⟩ => ?_
    subst he hw'
    have hsl : (sortF cf l).length = l.length := sortF_length cf l
    refine ⟨_, ⟨rfl, rfl⟩, Holds.grow ?_ os⟩
    have hflat2 := flatK_list hk h0 (sortF cf l)
    have hfs2 : (Sort.flatK enc k (sortF cf l).toArray).size = l.length * k := by simp [hsl]
    generalize hF : Sort.flatK enc k (sortF cf l).toArray = F at hflat2 hfs2
    have hpr : Sort.putRowK enc k (Sort.ahead w n) b 0 (sortF cf l.toArray.toList).toArray = Sort.putRow id (Sort.ahead w n) b 0 F := by rw [← hF]; rfl
    rw [hpr]
    have hmod : (Sort.putRow id (Sort.ahead w n) b 0 F).heap[b]? = some (.cells (Sort.putCells id 0 F cur) e fz) := by
      simp [Sort.putRow, Sort.mapBlock, Sort.ahead, Array.getElem?_modify, hbl, Sort.onCells]
    have hh := hb.setBlock (w' := Sort.putRow id (Sort.ahead w n) b 0 F) hmod (fun i hi => by
      have : b ≠ i := fun q => hi q.symm
      simp [Sort.putRow, Sort.mapBlock, Sort.ahead, Array.getElem?_modify, this]) rfl rfl rfl (Nat.le_add_right _ _)
    refine hh.imp fun m x => Sat.cons_imp (fun m' y => ?_) (fun _ z => z) x
    refine ⟨(sortF cf l).map enc, cells_all2 hk h1 _, ?_, .inr ⟨b, c, Sort.putCells id 0 F cur, by rw [List.length_map, hsl], ⟨fz, y, hfz⟩, by rw [List.length_map, hsl]; simpa using hb1, hb2, ?_, ?_⟩⟩
    · rw [flat_len hk, List.length_map, hkk]
    · rw [hkk]; simp [Sort.putCells, hb3]
    · rw [List.length_map, hkk, hsl]
      apply List.ext_getElem?
      intro j
      rw [List.getElem?_take, ← hflat2]
      by_cases hj : j < l.length * k
      · have hjc : j < cur.size := by omega
        rw [if_pos hj]
        simp [Sort.putCells, hjc, hfs2, hj]
      · rw [if_neg hj, List.getElem?_eq_none (by simp [hfs2]; omega)]
end
end Go.Sp
end
