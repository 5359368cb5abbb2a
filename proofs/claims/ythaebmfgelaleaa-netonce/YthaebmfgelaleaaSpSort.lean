import Derived.Test.YthaebmfgelaleaaSpLoop
import Derived.Shelf.SortM.Plain
import Derived.Shelf.SortM.SortNone
/- slices.Sort of texts, over the library's own contract. -/
namespace Go.Sp
open Go.Proofs
variable {P : Program} {g : Gr} {η ζ : List SProp}
/-- texts, rising -/
def sortT (l : List (List UInt8)) : List (List UInt8) := l.mergeSort fun x y => decide (x ≤ y)
theorem sortT_perm (l : List (List UInt8)) : (sortT l).Perm l := List.mergeSort_perm _ _
@[simp] theorem sortT_length (l : List (List UInt8)) : (sortT l).length = l.length := (sortT_perm l).length_eq
theorem Holds.grow {w : World} (h : Holds w g η) (os : Array Obj) : Holds (Sort.grow w os) g η := by
  obtain ⟨l⟩ := os
  induction l generalizing w with
  | nil => simpa using h
  | cons o l ih =>
    have h1 : Holds (w.alloc o) g η := (h.alloc o).imp fun _ x => Sat.tail x
    have h2 := ih h1
    have e : Sort.grow (w.alloc o) ⟨l⟩ = Sort.grow w ⟨o :: l⟩ := by rw [Sort.alloc_eq_grow, Sort.grow_grow]; congr 1; apply Array.ext'; simp
    rwa [e] at h2
theorem flat_str {css : List (List Value)} {l : List (List UInt8)} (h : All2 (Rp.str.rel Fr.emp) css l) : css.flatten = l.map encStr := by
  induction css generalizing l with
  | nil => cases l with
    | nil => rfl
    | cons _ _ => exact h.elim
  | cons c css ih => cases l with
    | nil => exact h.elim
    | cons x l => rw [List.flatten_cons, ih h.2, h.1.1]; rfl
theorem flat_ones (l : List (List UInt8)) : (l.map fun x => [encStr x]).flatten = l.map encStr := by induction l with
  | nil => rfl
  | cons x l ih => rw [List.map_cons, List.flatten_cons, ih]; rfl
theorem str_flat {l : List (List UInt8)} (h : ∀ x ∈ l, x.length ≤ 9223372036854775807) : All2 (Rp.str.rel Fr.emp) (l.map fun x => [encStr x]) l := by
  induction l with
  | nil => trivial
  | cons x l ih => exact ⟨⟨rfl, h x (by simp)⟩, ih fun y hy => h y (by simp [hy])⟩
theorem str_bounds {css : List (List Value)} {l : List (List UInt8)} (h : All2 (Rp.str.rel Fr.emp) css l) : ∀ x ∈ l, x.length ≤ 9223372036854775807 := by
  induction css generalizing l with
  | nil => cases l with
    | nil => simp
    | cons _ _ => exact h.elim
  | cons c css ih => cases l with
    | nil => exact h.elim
    | cons y l =>
      intro x hx
      rcases List.mem_cons.1 hx with rfl | hx
      · exact h.1.2
      · exact ih h.2 x hx
/-- slices.Sort of texts of one's own -/
theorem sort_con {f : FuncId} {e : TypeId} {r : Fr} {a : Option Addr} {c : Nat} {l : List (List UInt8)}
    (hk : ∀ (blk off cap : Nat) (ss : List (List UInt8)) (w : World), Sort.Holds encStr w blk off ss.toArray → blk < w.heap.size → ss.length < 4611686018427387904 →
      Calls P f #[.slice (some ⟨blk, off, none⟩) ss.length cap] w fun e w' => e = .returned (.tuple #[]) ∧ ∃ n os, w' = Sort.grow (Sort.putRow encStr (Sort.ahead w n) blk off (ss.mergeSort fun x y => decide (x ≤ y)).toArray) os)
    (hz : ∀ (p : Option Addr) (cap : Nat) (w : World), Calls P f #[.slice p 0 cap] w fun e w' => e = .returned (.tuple #[]) ∧ w' = w) (hl : l.length < 4611686018427387904) :
    Con P f #[.slice a l.length c] r [OwnP Rp.str e (.slice a l.length c) l] (Ret fun v η => v = .tuple #[] ∧ η = [OwnP Rp.str e (.slice a l.length c) (sortT l)]) := by
  intro g hg w hw
  by_cases h0 : l.length = 0
  · have : l = [] := List.length_eq_zero_iff.1 h0
    subst this
    exact (hz a c w).mono fun e' w' ⟨h1, h2⟩ => by subst h1 h2; exact ⟨_, ⟨rfl, rfl⟩, by simpa [sortT] using hw⟩
  · obtain ⟨b, cap, cur, css, hv, h1, h2, h3, h4, ha, fz, hfz, hb⟩ := hw.ownP_block (by omega)
    injection hv with e1 e2 e3
    subst e1 e3
    have hfl := flat_str ha
    have hbd := str_bounds ha
    have hk1 : Rp.str.k = 1 := rfl
    rw [hk1, Nat.mul_one] at h3 h4
    rw [hfl] at h4
    have hbl := hb.block
    have hget : ∀ j (hj : j < l.length), cur[j]? = some (encStr l[j]) := fun j hj => by
      have h5 : (cur.toList.take l.length)[j]? = (l.map encStr)[j]? := by rw [h4]
      rw [List.getElem?_take, if_pos hj, List.getElem?_map, List.getElem?_eq_getElem hj] at h5
      simpa using h5
    have hlt : b < w.heap.size := (Array.getElem?_eq_some_iff.1 hbl).1
    have hH : Sort.Holds encStr w b 0 l.toArray := fun j hj => by
      have hj' : j < l.length := by simpa using hj
      refine ⟨?_, ?_⟩
      · simp only [World.cell?, hbl, Nat.zero_add]
        rw [hget j hj', getElem!_pos _ j hj]; simp
      · have := hfz j (by rw [← h3, hk1]; omega)
        simp only [World.frozen?, hbl, Nat.zero_add]
        simpa using this
    refine (hk b 0 c l w hH hlt hl).mono fun e' w' ⟨he, n, os, hw'⟩ => ?_
    subst he hw'
    have hsl : (sortT l).length = l.length := sortT_length l
    refine ⟨_, ⟨rfl, rfl⟩, Holds.grow ?_ os⟩
    have hmod : (Sort.putRow encStr (Sort.ahead w n) b 0 (sortT l).toArray).heap[b]? = some (.cells (Sort.putCells encStr 0 (sortT l).toArray cur) e fz) := by
      simp [Sort.putRow, Sort.mapBlock, Sort.ahead, Array.getElem?_modify, hbl, Sort.onCells]
    have hh := hb.setBlock (w' := Sort.putRow encStr (Sort.ahead w n) b 0 (sortT l).toArray) hmod (fun i hi => by
      have : b ≠ i := fun q => hi q.symm
      simp [Sort.putRow, Sort.mapBlock, Sort.ahead, Array.getElem?_modify, this]) rfl rfl rfl (Nat.le_add_right _ _)
    refine hh.imp fun m x => Sat.cons_imp (fun m' y => ?_) (fun _ z => z) x
    refine ⟨(sortT l).map fun x => [encStr x], str_flat fun x hx => hbd x ((sortT_perm l).mem_iff.1 hx), ?_, .inr ⟨b, c, Sort.putCells encStr 0 (sortT l).toArray cur, by rw [hsl], ⟨fz, y, hfz⟩, by rw [hsl]; exact h1, h2, ?_, ?_⟩⟩
    · have : ((sortT l).map fun x => [encStr x]).flatten = (sortT l).map encStr := flat_ones _
      rw [this, hk1]; simp
    · rw [hk1]; simp [Sort.putCells, h3]
    · have : ((sortT l).map fun x => [encStr x]).flatten = (sortT l).map encStr := flat_ones _
      rw [this, hk1, Nat.mul_one]
      apply List.ext_getElem?
      intro j
      rw [List.getElem?_take, hsl]
      by_cases hj : j < l.length
      · have hjs : j < (sortT l).length := by omega
        have hjc : j < cur.size := by omega
        rw [if_pos hj]
        simp [Sort.putCells, hjc, hj]
      · rw [if_neg hj, List.getElem?_eq_none (by simp; omega)]
end Go.Sp
