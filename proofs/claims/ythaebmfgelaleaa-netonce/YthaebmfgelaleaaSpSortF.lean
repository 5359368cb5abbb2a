import Derived.Test.YthaebmfgelaleaaSpSort
import Derived.Shelf.SlSortCmp.NoneTotal
/- slices.SortFunc of things of k cells of one's own, over the library's own contract. -/
namespace Go.Sp
open Go.Proofs
variable {P : Program} {g : Gr} {η ζ : List SProp}
theorem Holds.grown {w w' : World} (h : Holds w' w.gr []) : ∃ q os, w' = Sort.grow (w.drewN q) os := by
  have hb := h.below
  obtain ⟨a, b, ⟨c, d⟩, _⟩ := h
  obtain ⟨_, _, _, hsz, hpre⟩ := hb
  obtain ⟨heap', tape', drawn', os', out'⟩ := w'
  obtain ⟨heap, tape, drawn, os, out⟩ := w
  simp only [World.gr] at a b c d
  subst a b c
  refine ⟨drawn' - drawn, heap'.extract heap.size heap'.size, ?_⟩
  have e1 : drawn + (drawn' - drawn) = drawn' := by have d' : drawn ≤ drawn' := d; omega
  have e2 : heap ++ heap'.extract heap.size heap'.size = heap' := by
    apply Array.ext_getElem?
    intro i
    rw [Array.getElem?_append]
    split
    · rename_i hi; exact (hpre i hi).symm
    · rename_i hi
      rw [Array.getElem?_extract]
      split
      · congr 1; omega
      · rename_i h2; rw [Array.getElem?_eq_none (by omega)]
  simp only [Sort.grow, World.drewN, e1, e2]
/-- rising, by a way of telling -/
def sortF {α : Type} (cf : α → α → Int) (l : List α) : List α := l.mergeSort fun x y => !(ltOf cf) y x
theorem sortF_perm {α : Type} (cf : α → α → Int) (l : List α) : (sortF cf l).Perm l := List.mergeSort_perm _ _
@[simp] theorem sortF_length {α : Type} (cf : α → α → Int) (l : List α) : (sortF cf l).length = l.length := (sortF_perm cf l).length_eq
section
variable {α : Type} [Inhabited α] {enc : α → List Value} {k : Nat}
theorem flat_get (hk : ∀ x, (enc x).length = k) (h0 : 0 < k) : ∀ (l : List α) (t : Nat), t < l.length * k → (l.map enc).flatten[t]! = (enc l[t / k]!)[t % k]!
  | [], t, h => by simp at h
  | x :: l, t, h => by
    rw [List.map_cons, List.flatten_cons]
    have hx := hk x
    by_cases ht : t < k
    · rw [Nat.div_eq_of_lt ht, Nat.mod_eq_of_lt ht]
      rw [List.getElem!_eq_getElem?_getD, List.getElem?_append_left (by omega), List.getElem!_eq_getElem?_getD]
      rfl
    · have h1 : t / k = (t - k) / k + 1 := by rw [← Nat.add_div_right _ h0]; congr 1; omega
      have h2 : t % k = (t - k) % k := by
        have : t = (t - k) + k := by omega
        rw [this, Nat.add_mod_right]; congr 1; omega
      have h3 : (x :: l)[t / k]! = l[(t - k) / k]! := by rw [h1]; rfl
      rw [h2, h3, ← flat_get hk h0 l (t - k) (by rw [List.length_cons, Nat.add_mul, Nat.one_mul] at h; omega)]
      rw [List.getElem!_eq_getElem?_getD, List.getElem?_append_right (by omega), hx, List.getElem!_eq_getElem?_getD]
omit [Inhabited α] in
theorem flat_len (hk : ∀ x, (enc x).length = k) : ∀ (l : List α), (l.map enc).flatten.length = l.length * k
  | [] => by simp
  | x :: l => by rw [List.map_cons, List.flatten_cons, List.length_append, flat_len hk l, hk, List.length_cons, Nat.add_mul, Nat.one_mul, Nat.add_comm]
theorem flatK_list (hk : ∀ x, (enc x).length = k) (h0 : 0 < k) (l : List α) : (Sort.flatK enc k l.toArray).toList = (l.map enc).flatten := by
  apply List.ext_getElem
  · rw [flat_len hk]; simp
  · intro t h1 h2
    have ht : t < l.length * k := by simpa using h1
    have h3 := flat_get hk h0 l t ht
    have h4 := Sort.get_flatK enc k l.toArray t (by simpa using ht)
    have e1 : (Sort.flatK enc k l.toArray).toList[t] = (Sort.flatK enc k l.toArray)[t]! := by rw [getElem!_pos _ t (by simpa using ht)]; simp
    have e2 : (l.map enc).flatten[t] = (l.map enc).flatten[t]! := by rw [getElem!_pos _ t h2]
    rw [e1, e2, h3, h4]
    simp
omit [Inhabited α] in
theorem cells_all2 (hk : ∀ x, (enc x).length = k) (h1 : ∀ x, ∀ v ∈ enc x, v.oneCell' = true) : ∀ l : List α, All2 ((Rp.cells k).rel Fr.emp) (l.map enc) (l.map enc)
  | [] => trivial
  | x :: l => ⟨⟨rfl, hk x, h1 x⟩, cells_all2 hk h1 l⟩
theorem all2_cells' : ∀ {css ds : List (List Value)}, All2 ((Rp.cells k).rel Fr.emp) css ds → css = ds
  | [], [], _ => rfl
  | [], _ :: _, h => h.elim
  | _ :: _, [], h => h.elim
  | _ :: _, _ :: _, h => by rw [h.1.1, all2_cells' h.2]
/-- slices.SortFunc of things of one's own -/
theorem sortF_con {f f2 : FuncId} {e : TypeId} {r : Fr} {a : Option Addr} {c : Nat} {l : List α} (hk : ∀ x, (enc x).length = k) (h0 : 0 < k) (h1 : ∀ x, ∀ v ∈ enc x, v.oneCell' = true) (cf : α → α → Int)
    (hC : ∀ x y, Con P f2 #[.agg (enc x).toArray, .agg (enc y).toArray] Fr.emp [] (Ret fun v η => v = .int .i64 (cf x y) ∧ η = []))
    (hs : ∀ (blk off cap : Nat) (d : Array α) (w : World), CmpLays P f2 #[] enc k cf blk off d.size w → Sort.HoldsK enc k w blk off d → blk < w.heap.size → d.size < 4611686018427387904 →
      Calls P f #[.slice (some ⟨blk, off, none⟩) d.size cap, .func (.func f2) #[] #[]] w fun e w' => e = .returned (.tuple #[]) ∧ ∃ n os, w' = sortWorldK enc k w blk off n (sortF cf d.toList).toArray os)
    (hz : ∀ (p : Option Addr) (cap : Nat) (fv : Value) (w : World), Calls P f #[.slice p 0 cap, fv] w fun e w' => e = .returned (.tuple #[]) ∧ w' = w) (hl : l.length < 4611686018427387904) :
    Con P f #[.slice a l.length c, .func (.func f2) #[] #[]] r [OwnP (Rp.cells k) e (.slice a l.length c) (l.map enc)] (Ret fun v η => v = .tuple #[] ∧ η = [OwnP (Rp.cells k) e (.slice a l.length c) ((sortF cf l).map enc)]) := by
  intro g hg w hw
  by_cases hl0 : l.length = 0
  · have : l = [] := List.length_eq_zero_iff.1 hl0
    subst this
    exact (hz a c _ w).mono fun e' w' ⟨h1, h2⟩ => by subst h1 h2; exact ⟨_, ⟨rfl, rfl⟩, by simpa [sortF] using hw⟩
  · obtain ⟨b, cap, cur, css, hv, hb1, hb2, hb3, hb4, ha, fz, hfz, hb⟩ := hw.ownP_block (by simp; omega)
    have hcs := all2_cells' ha
    subst hcs
    injection hv with e1 e2 e3
    subst e1 e3
    have hkk : (Rp.cells k).k = k := rfl
    rw [List.length_map, hkk] at hb4
    rw [hkk] at hb3
    have hbl := hb.block
    have hflat := flatK_list hk h0 l
    have hfs : (Sort.flatK enc k l.toArray).size = l.length * k := by simp
    have hle : l.length * k ≤ cur.size := by
      rw [hb3]; rw [List.length_map] at hb1; exact Nat.mul_le_mul_right k hb1
    have hget : ∀ j (hj : j < l.length * k), cur[j]? = some (Sort.flatK enc k l.toArray)[j]! := fun j hj => by
      have h5 : (cur.toList.take (l.length * k))[j]? = (Sort.flatK enc k l.toArray).toList[j]? := by rw [hb4, hflat]
      rw [List.getElem?_take, if_pos hj] at h5
      rw [getElem!_pos _ j (by rw [hfs]; exact hj)]
      simpa [hj] using h5
    have hlt : b < w.heap.size := (Array.getElem?_eq_some_iff.1 hbl).1
    have hH : Sort.HoldsK enc k w b 0 l.toArray := fun j hj => by
      have hj' : j < l.length * k := by rw [hfs] at hj; exact hj
      refine ⟨?_, ?_⟩
      · simp only [World.cell?, hbl, Nat.zero_add]
        simpa using hget j hj'
      · have := hfz j (by rw [hkk, ← hb3]; omega)
        simp only [World.frozen?, hbl, Nat.zero_add]
        simpa using this
    have hcmp : CmpLays P f2 #[] enc k cf b 0 l.toArray.size w := fun m os dk _ x y => by
      have := hC x y (sortWorldK enc k w b 0 m dk os).gr (Fr.emp_sub _) _ (Holds.of_world _)
      simp only [Array.append_empty]
      exact this.mono fun e' w' ⟨η', hp, hh⟩ => by
        cases e' with
        | returned v => obtain ⟨rfl, rfl⟩ := hp; exact ⟨rfl, hh.grown⟩
        | panicked _ => exact hp.elim
        | outgrown => exact hp.elim
    refine (hs b 0 c l.toArray w hcmp hH hlt (by simpa using hl)).mono fun e' w' ⟨he, n, os, hw'⟩ => ?_
    subst he hw'
    have hsl : (sortF cf l).length = l.length := sortF_length cf l
    refine ⟨_, ⟨rfl, rfl⟩, Holds.grow ?_ os⟩
    have hflat2 := flatK_list hk h0 (sortF cf l)
    have hfs2 : (Sort.flatK enc k (sortF cf l).toArray).size = l.length * k := by simp [hsl]
    generalize hF : Sort.flatK enc k (sortF cf l).toArray = F at hflat2 hfs2
    have hpr : Sort.putRowK enc k (Sort.ahead w n) b 0 (sortF cf l.toArray.toList).toArray = Sort.putRow id (Sort.ahead w n) b 0 F := by rw [← hF]; rfl
    rw [hpr]
    have hmod : (Sort.putRow id (Sort.ahead w n) b 0 F).heap[b]? = some (.cells (Sort.putCells id 0 F cur) e fz) := by
      simp [Sort.putRow, Sort.mapBlock, Sort.ahead, Array.getElem?_modify, hbl, Sort.onCells]
    have hh := hb.setBlock (w' := Sort.putRow id (Sort.ahead w n) b 0 F) hmod (fun i hi => by
      have : b ≠ i := fun q => hi q.symm
      simp [Sort.putRow, Sort.mapBlock, Sort.ahead, Array.getElem?_modify, this]) rfl rfl rfl (Nat.le_add_right _ _)
    refine hh.imp fun m x => Sat.cons_imp (fun m' y => ?_) (fun _ z => z) x
    refine ⟨(sortF cf l).map enc, cells_all2 hk h1 _, ?_, .inr ⟨b, c, Sort.putCells id 0 F cur, by rw [List.length_map, hsl], ⟨fz, y, hfz⟩, by rw [List.length_map, hsl]; simpa using hb1, hb2, ?_, ?_⟩⟩
    · rw [flat_len hk, List.length_map, hkk]
    · rw [hkk]; simp [Sort.putCells, hb3]
    · rw [List.length_map, hkk, hsl]
      apply List.ext_getElem?
      intro j
      rw [List.getElem?_take, ← hflat2]
      by_cases hj : j < l.length * k
      · have hjc : j < cur.size := by omega
        rw [if_pos hj]
        simp [Sort.putCells, hjc, hfs2, hj]
      · rw [if_neg hj, List.getElem?_eq_none (by simp [hfs2]; omega)]
end
end Go.Sp
