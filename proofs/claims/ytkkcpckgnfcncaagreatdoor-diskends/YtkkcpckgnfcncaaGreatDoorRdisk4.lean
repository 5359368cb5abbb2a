import Derived.Test.YtkkcpckgnfcncaaGreatDoorRdisk3
open Go Go.Sp
set_option maxRecDepth 100000
attribute [local irreducible] obj Own OwnP
namespace Go.Proofs.YtkkcpckgnfcncaaGreatDoor
theorem FactRdisk4.elem9 : elemIs Go.Proofs.Tryz.prog 9 1 16 [.string ⟨#[]⟩] := elemIs.mk (by kernel_rfl) rfl
theorem FactRdisk4.flat36 : Go.Sp.flat1 Go.Proofs.Tryz.prog 36 = true := by kernel_rfl
theorem FactRdisk4.flat9 : Go.Sp.flat1 Go.Proofs.Tryz.prog 9 = true := by kernel_rfl
theorem FactRdisk4.fld102x0 : fieldOff Go.Proofs.Tryz.prog 102 0 = some 0 := by kernel_rfl
theorem FactRdisk4.size9 : (Go.Proofs.Tryz.prog.info? 9).map (·.size) = some 1 := by kernel_rfl

def neN (l : List (List UInt8)) : List (List UInt8) := l.filter fun x => x != []
theorem neN_mem {l : List (List UInt8)} {x : List UInt8} : x ∈ neN l ↔ x ∈ l ∧ x ≠ [] := by unfold neN; rw [List.mem_filter]; simp
theorem less_eq : ∀ x y : List UInt8, Op.bytesLess x y = decide (x < y)
  | x, [] => by cases x <;> simp [Op.bytesLess]
  | [], _ :: _ => by simp [Op.bytesLess]
  | a :: x, b :: y => by
    rw [Op.bytesLess, less_eq x y]
    rw [Bool.eq_iff_iff]
    simp [List.cons_lt_cons_iff]
theorem lt_of_lt_le {x y z : List UInt8} (h : x < y) (h2 : y ≤ z) : x < z := by
  by_cases e : y = z
  · rw [← e]; exact h
  · refine List.lt_trans h (Classical.byContradiction fun q => e (List.le_antisymm h2 (List.not_lt.1 q)))
theorem lt_of_le_ne {x y : List UInt8} (h : x ≤ y) (h2 : x ≠ y) : x < y := Classical.byContradiction fun q => h2 (List.le_antisymm h (List.not_lt.1 q))
theorem gtrS_eq (x y : List UInt8) : (!(Op.bytesLess (str x).toList (str y).toList || (str x).toList == (str y).toList)) = decide (y < x) := by
  rw [str_toList, str_toList, less_eq]
  by_cases h : y < x
  · have h1 : ¬ x < y := fun q => List.lt_irrefl _ (List.lt_trans h q)
    have h2 : (x == y) = false := by simpa using fun q => by subst q; exact List.lt_irrefl _ h
    simp [h, h1, h2]
  · by_cases h3 : x < y
    · simp [h, h3]
    · have : x = y := List.le_antisymm (List.not_lt.1 h) (List.not_lt.1 h3)
      subst this; simp [h]
theorem lssS_eq (x y : List UInt8) : Op.bytesLess (str x).toList (str y).toList = decide (x < y) := by rw [str_toList, str_toList, less_eq]
theorem nil_lt {x : List UInt8} (h : x ≠ []) : [] < x := by cases x with | nil => exact absurd rfl h | cons a l => exact List.nil_lt_cons a l
theorem lt_ne {x y : List UInt8} (h : x < y) : y ≠ [] := by rintro rfl; exact List.not_lt_nil x h
/-- the least one above, of those met -/
def minA (last : List UInt8) (next x : List UInt8) : List UInt8 := if last < x ∧ (next = [] ∨ x < next) then x else next
def minOf (last : List UInt8) (l : List (List UInt8)) : List UInt8 := l.foldl (minA last) []
theorem minOf_snoc (last : List UInt8) (l : List (List UInt8)) (x : List UInt8) : minOf last (l ++ [x]) = minA last (minOf last l) x := by simp [minOf]
theorem minOf_spec (last : List UInt8) (l : List (List UInt8)) : (minOf last l = [] ∧ ∀ x ∈ l, ¬ last < x) ∨ (minOf last l ∈ l ∧ last < minOf last l ∧ ∀ x ∈ l, last < x → minOf last l ≤ x) := by
  have h : ∀ l : List (List UInt8), (minOf last l.reverse = [] ∧ ∀ x ∈ l.reverse, ¬ last < x) ∨ (minOf last l.reverse ∈ l.reverse ∧ last < minOf last l.reverse ∧ ∀ x ∈ l.reverse, last < x → minOf last l.reverse ≤ x) := fun l => by
    induction l with
    | nil => exact .inl ⟨rfl, by simp⟩
    | cons y l ih =>
      rw [List.reverse_cons, minOf_snoc]
      unfold minA
      rcases ih with ⟨h1, h2⟩ | ⟨h1, h2, h3⟩
      · by_cases hy : last < y
        · rw [if_pos ⟨hy, .inl h1⟩]
          refine .inr ⟨by simp, hy, fun x hx hl => ?_⟩
          rcases List.mem_append.1 hx with q | q
          · exact absurd hl (h2 x q)
          · rw [List.mem_singleton.1 q]; exact List.le_refl _
        · rw [if_neg fun q => hy q.1]
          refine .inl ⟨h1, fun x hx => ?_⟩
          rcases List.mem_append.1 hx with q | q
          · exact h2 x q
          · rw [List.mem_singleton.1 q]; exact hy
      · have hne := lt_ne h2
        by_cases hy : last < y ∧ (minOf last l.reverse = [] ∨ y < minOf last l.reverse)
        · rw [if_pos hy]
          have hlt : y < minOf last l.reverse := hy.2.resolve_left hne
          refine .inr ⟨by simp, hy.1, fun x hx hl => ?_⟩
          rcases List.mem_append.1 hx with q | q
          · exact List.le_of_lt (lt_of_lt_le hlt (h3 x q hl))
          · rw [List.mem_singleton.1 q]; exact List.le_refl _
        · rw [if_neg hy]
          refine .inr ⟨List.mem_append_left _ h1, h2, fun x hx hl => ?_⟩
          rcases List.mem_append.1 hx with q | q
          · exact h3 x q hl
          · rw [List.mem_singleton.1 q] at hl ⊢
            exact List.not_lt.1 fun q2 => hy ⟨hl, .inr q2⟩
  have := h l.reverse
  rwa [List.reverse_reverse] at this
/-- the names, rising -/
def rList (names : List (List UInt8)) : List (List UInt8) := sortT (neN names)
def lastOf (S : List (List UInt8)) (k : Nat) : List UInt8 := if k = 0 then [] else S[k - 1]?.getD []
theorem rList_mem {names : List (List UInt8)} {x : List UInt8} : x ∈ rList names ↔ x ∈ names ∧ x ≠ [] := by unfold rList; rw [(sortT_perm _).mem_iff]; exact neN_mem
theorem rList_lt {names : List (List UInt8)} (hnd : (neN names).Nodup) : (rList names).Pairwise (fun x y => x < y) := by
  have h1 := sortT_rises (neN names)
  have h2 : (rList names).Nodup := ((sortT_perm _).nodup_iff).2 hnd
  exact (List.Pairwise.and h1 h2).imp fun ⟨p, q⟩ => lt_of_le_ne p q
theorem minOf_list {names : List (List UInt8)} (hnd : (neN names).Nodup) {k : Nat} (hk : k ≤ (rList names).length) : minOf (lastOf (rList names) k) names = (rList names)[k]?.getD [] := by
  have hlt := rList_lt hnd
  have hl : ∀ x ∈ names, lastOf (rList names) k < x → ∃ j, ∃ h : j < (rList names).length, k ≤ j ∧ x = (rList names)[j] := fun x hx hlx => by
    obtain ⟨j, hj, e⟩ := List.getElem_of_mem (rList_mem.2 ⟨hx, lt_ne hlx⟩)
    refine ⟨j, hj, Nat.le_of_not_lt fun hjk => ?_, e.symm⟩
    unfold lastOf at hlx
    rw [if_neg (by omega), List.getElem?_eq_getElem (show k - 1 < (rList names).length by omega), Option.getD_some, ← e] at hlx
    by_cases hq : j = k - 1
    · subst hq; exact List.lt_irrefl _ hlx
    · exact List.lt_irrefl _ (List.lt_trans hlx (List.pairwise_iff_getElem.1 hlt j (k - 1) hj (by omega) (by omega)))
  have hab : ∀ h : k < (rList names).length, lastOf (rList names) k < (rList names)[k] := fun h => by
    unfold lastOf
    split
    · exact nil_lt (rList_mem.1 (List.getElem_mem h)).2
    · rw [List.getElem?_eq_getElem (show k - 1 < (rList names).length by omega), Option.getD_some]
      exact List.pairwise_iff_getElem.1 hlt (k - 1) k (by omega) h (by omega)
  by_cases h : k < (rList names).length
  · rw [List.getElem?_eq_getElem h, Option.getD_some]
    have hm := (rList_mem.1 (List.getElem_mem h)).1
    rcases minOf_spec (lastOf (rList names) k) names with ⟨_, h2⟩ | ⟨h1, h2, h3⟩
    · exact absurd (hab h) (h2 _ hm)
    · refine List.le_antisymm (h3 _ hm (hab h)) ?_
      obtain ⟨j, hj, hkj, e⟩ := hl _ h1 h2
      rw [e]
      by_cases hq : k = j
      · subst hq; exact List.le_refl _
      · exact List.le_of_lt (List.pairwise_iff_getElem.1 hlt k j h hj (by omega))
  · rw [List.getElem?_eq_none (by omega)]
    rcases minOf_spec (lastOf (rList names) k) names with ⟨h1, _⟩ | ⟨h1, h2, _⟩
    · exact h1
    · obtain ⟨j, hj, hkj, _⟩ := hl _ h1 h2
      omega
theorem rList_len (names : List (List UInt8)) : (rList names).length ≤ names.length := by unfold rList; rw [sortT_length]; exact List.length_filter_le ..
theorem lastOf_succ {S : List (List UInt8)} {k : Nat} (h : k < S.length) : lastOf S (k + 1) = S[k] := by unfold lastOf; rw [if_neg (by omega), Nat.add_sub_cancel, List.getElem?_eq_getElem h]; rfl
theorem refList_c {r : Fr} {d : Nat} {an : Option Addr} {cn : Nat} {vc vr : Value} {names : List (List UInt8)} (ho : At r ⟨d, 0, none⟩ [.slice an names.length cn, vc, vr]) (hn : Arr Rp.str r (.slice an names.length cn) names) (hnd : (neN names).Nodup) (hq : ∀ x ∈ names, x.length ≤ 9223372036854775807) (hnl : names.length ≤ 1000000000) :
    Con Go.Proofs.Tryz.prog 95 #[.pointer (some ⟨d, 0, none⟩)] r [] (Ret fun v η => ∃ a c, v = .slice a (rList names).length c ∧ η = [OwnP Rp.str 9 (.slice a (rList names).length c) (rList names)]) := by
  refine Con.of (n := 55) [.pointer (some ⟨d, 0, none⟩)] rfl Go.Proofs.Tryz.func95 rfl rfl rfl fun g hg R hR => ?_
  replace ho : At g.h ⟨d, 0, none⟩ [.slice an names.length cn, vc, vr] := At.mono hg ho
  have hn := hn.mono hg
  have hrl := rList_len names
  refine S.addNil (T := Rp.str) (e := 9) ?_
  refine S.seq (S.region rfl ?_)
  refine O.op (.p rfl) (.as rfl) ?_
  refine O.nil ?_
  refine S.seq (S.region rfl ?_)
  refine O.op (.p rfl) (.as rfl) ?_
  refine O.nil ?_
  refine S.seq (S.region rfl ?_)
  refine O.op (.p rfl) (.as rfl) ?_
  refine O.nil ?_
  refine S.block ?_
  refine S.loopK2 (ι := Nat) (κ := Option Addr × Nat) (fun k q => k ≤ (rList names).length) (fun k q => [(3, .slice q.1 k q.2), (4, .string (str (lastOf (rList names) k)))]) [(0, _)] (fun k q => [OwnP Rp.str 9 (.slice q.1 k q.2) ((rList names).take k)]) (fun k q => (rList names).length - k) (0) ((none, 0)) (by exact Nat.zero_le _) (.cons rfl (.cons rfl (.nil))) (.cons rfl (.nil)) rfl fun k q hx ih => ?_
  have hm1 := meltRefl (g := g)
  have hmin := minOf_list hnd hx
  have htl : ((rList names).take k).length = k := by rw [List.length_take]; omega
  generalize hlast : lastOf (rList names) k = last at *
  refine S.block (S.seq (S.region rfl ?_))
  refine O.op (.p rfl) (.as rfl) ?_
  refine O.nil ?_
  refine S.seq (S.seq (S.region rfl ?_))
  refine O.op (.p rfl) (.as rfl) ?_
  refine O.nil ?_
  refine S.block ?_
  refine S.loopK (ι := Nat) (fun i => i ≤ names.length) (fun i => [(6, .int .i64 (i : Int)), (5, .string (str (minOf last (names.take i))))]) [(0, _), (3, _), (4, _)] (fun i => [OwnP Rp.str 9 (.slice q.1 k q.2) ((rList names).take k)]) (fun i => names.length - i) (0) (by exact Nat.zero_le _) (.cons rfl (.cons rfl (.nil))) (.cons rfl (.cons rfl (.cons rfl (.nil)))) rfl fun i hx ih => ?_
  have hm2 := meltRefl (g := g)
  refine S.seq (S.seq (S.region rfl ?_))
  refine O.op (.p rfl) (.mv rfl) ?_
  refine O.op (.p rfl) (.mv rfl) ?_
  refine O.op (.p rfl) (.nilCheck rfl) ?_
  refine O.op (.p rfl) (.fieldAddr FactRdisk4.fld102x0 rfl) ?_
  refine O.op (.p rfl) (.loadAt FactRdisk4.flat36 rfl ho rfl) ?_
  refine O.op (.p rfl) (.len rfl Go.Proofs.Tryz.underlying36 rfl) ?_
  refine O.op (.p rfl) (.lss rfl rfl) ?_
  refine O.nil ?_
  first | refine S.condD rfl (fun h13 => ?_) (fun h13 => ?_) | refine S.condB rfl (fun h13 => ?_) (fun h13 => ?_)
  · have hi : i < names.length := by omega
    have ht : names.take (i + 1) = names.take i ++ [names[i]] := List.take_succ_eq_append_getElem hi
    have e1 := minOf_snoc last (names.take i) names[i]
    rw [← ht] at e1
    unfold minA at e1
    generalize hmi : minOf last (names.take i) = next at *
    by_cases c1 : last < names[i]
    · by_cases c2 : next = []
      ·
        rw [if_pos ⟨c1, .inl c2⟩] at e1
        refine S.skip (S.seq (S.block (S.seq (S.region rfl ?_))))
        refine O.op (.p rfl) (.mv rfl) ?_
        refine O.op (.p rfl) (.nilCheck rfl) ?_
        refine O.op (.p rfl) (.fieldAddr FactRdisk4.fld102x0 rfl) ?_
        refine O.op (.p rfl) (.loadAt FactRdisk4.flat36 rfl ho rfl) ?_
        refine O.op (.p rfl) (.mv rfl) ?_
        refine O.idx' (.p rfl) Go.Proofs.Tryz.underlying36 FactRdisk4.size9 rfl rfl rfl (hn) (by decide) (by first | omega | (simp; done) | (simp; omega) | decide) (fun p21 cs21 hp21 hr21 => ?_)
        obtain ⟨rfl, _⟩ := hr21
        refine O.op (.p rfl) (.loadAt FactRdisk4.flat9 rfl hp21 rfl) ?_
        refine O.op (.p rfl) (.mv rfl) ?_
        refine O.op (.p rfl) (.gtrS rfl rfl) ?_
        refine O.slot 24 (v' := .bool true) rfl (congrArg Value.bool (by rw [gtrS_eq]; exact decide_eq_true c1)) ?_
        refine O.op (.p rfl) (.mv rfl) ?_
        refine O.op (.g rfl rfl) (.mv rfl) ?_
        refine O.op (.g rfl rfl) (.eqlS rfl rfl) ?_
        refine O.slot 27 (v' := .bool true) rfl (congrArg Value.bool (by simp [c2])) ?_
        refine O.op (.g rfl rfl) (.mv rfl) ?_
        refine O.opN rfl rfl rfl ?_
        refine O.opN rfl rfl rfl ?_
        refine O.opN rfl rfl rfl ?_
        refine O.opN rfl rfl rfl ?_
        refine O.opN rfl rfl rfl ?_
        refine O.opN rfl rfl rfl ?_
        refine O.opN rfl rfl rfl ?_
        refine O.opN rfl rfl rfl ?_
        refine O.opN rfl rfl rfl ?_
        refine O.op (.g rfl rfl) (.pickT rfl rfl) ?_
        refine O.op (.p rfl) (.pickT rfl rfl) ?_
        refine O.nil ?_
        refine S.condT rfl ?_
        refine S.region rfl ?_
        refine O.op (.p rfl) (.mv rfl) ?_
        refine O.op (.p rfl) (.nilCheck rfl) ?_
        refine O.op (.p rfl) (.fieldAddr FactRdisk4.fld102x0 rfl) ?_
        refine O.op (.p rfl) (.loadAt FactRdisk4.flat36 rfl ho rfl) ?_
        refine O.op (.p rfl) (.mv rfl) ?_
        refine O.idx' (.p rfl) Go.Proofs.Tryz.underlying36 FactRdisk4.size9 rfl rfl rfl (hn) (by decide) (by first | omega | (simp; done) | (simp; omega) | decide) (fun p45 cs45 hp45 hr45 => ?_)
        obtain ⟨rfl, _⟩ := hr45
        refine O.op (.p rfl) (.loadAt FactRdisk4.flat9 rfl hp45 rfl) ?_
        refine O.op (.p rfl) (.as rfl) ?_
        refine O.nil ?_
        refine S.inBlock (S.region rfl ?_)
        refine O.op (.p rfl) (.mv rfl) ?_
        refine O.op (.p rfl) (.add rfl rfl (IntWalk.i64_in _ (by omega))) ?_
        refine O.op (.p rfl) (.as rfl) ?_
        refine O.nil ?_
        rw [← e1]
        refine S.pk ?_ (S.weaken ?_ (ih (i + 1) (by exact hi) (by omega)))
        · repeat (first | exact Picks.all | exact Picks.nil | (apply Picks.cons; focus (repeat (first | exact Sel.here | apply Sel.there))) | apply Picks.skip)
        repeat (first | exact Sub.nil | refine Sub.cons rfl ?_)
      · by_cases c3 : names[i] < next
        ·
          rw [if_pos ⟨c1, .inr c3⟩] at e1
          refine S.skip (S.seq (S.block (S.seq (S.region rfl ?_))))
          refine O.op (.p rfl) (.mv rfl) ?_
          refine O.op (.p rfl) (.nilCheck rfl) ?_
          refine O.op (.p rfl) (.fieldAddr FactRdisk4.fld102x0 rfl) ?_
          refine O.op (.p rfl) (.loadAt FactRdisk4.flat36 rfl ho rfl) ?_
          refine O.op (.p rfl) (.mv rfl) ?_
          refine O.idx' (.p rfl) Go.Proofs.Tryz.underlying36 FactRdisk4.size9 rfl rfl rfl (hn) (by decide) (by first | omega | (simp; done) | (simp; omega) | decide) (fun p21 cs21 hp21 hr21 => ?_)
          obtain ⟨rfl, _⟩ := hr21
          refine O.op (.p rfl) (.loadAt FactRdisk4.flat9 rfl hp21 rfl) ?_
          refine O.op (.p rfl) (.mv rfl) ?_
          refine O.op (.p rfl) (.gtrS rfl rfl) ?_
          refine O.slot 24 (v' := .bool true) rfl (congrArg Value.bool (by rw [gtrS_eq]; exact decide_eq_true c1)) ?_
          refine O.op (.p rfl) (.mv rfl) ?_
          refine O.op (.g rfl rfl) (.mv rfl) ?_
          refine O.op (.g rfl rfl) (.eqlS rfl rfl) ?_
          refine O.slot 27 (v' := .bool false) rfl (congrArg Value.bool (by simp [c2])) ?_
          refine O.op (.g rfl rfl) (.mv rfl) ?_
          refine O.op (.g rfl rfl) (.mv rfl) ?_
          refine O.op (.g rfl rfl) (.nilCheck rfl) ?_
          refine O.op (.g rfl rfl) (.fieldAddr FactRdisk4.fld102x0 rfl) ?_
          refine O.op (.g rfl rfl) (.loadAt FactRdisk4.flat36 rfl ho rfl) ?_
          refine O.op (.g rfl rfl) (.mv rfl) ?_
          refine O.idx' (.g rfl rfl) Go.Proofs.Tryz.underlying36 FactRdisk4.size9 rfl rfl rfl (hn) (by decide) (by first | omega | (simp; done) | (simp; omega) | decide) (fun p34 cs34 hp34 hr34 => ?_)
          obtain ⟨rfl, _⟩ := hr34
          refine O.op (.g rfl rfl) (.loadAt FactRdisk4.flat9 rfl hp34 rfl) ?_
          refine O.op (.g rfl rfl) (.mv rfl) ?_
          refine O.op (.g rfl rfl) (.lssS rfl rfl) ?_
          refine O.slot 37 (v' := .bool true) rfl (congrArg Value.bool (by rw [lssS_eq]; exact decide_eq_true c3)) ?_
          refine O.op (.g rfl rfl) (.pickF rfl rfl) ?_
          refine O.op (.p rfl) (.pickT rfl rfl) ?_
          refine O.nil ?_
          refine S.condT rfl ?_
          refine S.region rfl ?_
          refine O.op (.p rfl) (.mv rfl) ?_
          refine O.op (.p rfl) (.nilCheck rfl) ?_
          refine O.op (.p rfl) (.fieldAddr FactRdisk4.fld102x0 rfl) ?_
          refine O.op (.p rfl) (.loadAt FactRdisk4.flat36 rfl ho rfl) ?_
          refine O.op (.p rfl) (.mv rfl) ?_
          refine O.idx' (.p rfl) Go.Proofs.Tryz.underlying36 FactRdisk4.size9 rfl rfl rfl (hn) (by decide) (by first | omega | (simp; done) | (simp; omega) | decide) (fun p45 cs45 hp45 hr45 => ?_)
          obtain ⟨rfl, _⟩ := hr45
          refine O.op (.p rfl) (.loadAt FactRdisk4.flat9 rfl hp45 rfl) ?_
          refine O.op (.p rfl) (.as rfl) ?_
          refine O.nil ?_
          refine S.inBlock (S.region rfl ?_)
          refine O.op (.p rfl) (.mv rfl) ?_
          refine O.op (.p rfl) (.add rfl rfl (IntWalk.i64_in _ (by omega))) ?_
          refine O.op (.p rfl) (.as rfl) ?_
          refine O.nil ?_
          rw [← e1]
          refine S.pk ?_ (S.weaken ?_ (ih (i + 1) (by exact hi) (by omega)))
          · repeat (first | exact Picks.all | exact Picks.nil | (apply Picks.cons; focus (repeat (first | exact Sel.here | apply Sel.there))) | apply Picks.skip)
          repeat (first | exact Sub.nil | refine Sub.cons rfl ?_)
        ·
          rw [if_neg fun h => h.2.elim c2 c3] at e1
          refine S.skip (S.seq (S.block (S.seq (S.region rfl ?_))))
          refine O.op (.p rfl) (.mv rfl) ?_
          refine O.op (.p rfl) (.nilCheck rfl) ?_
          refine O.op (.p rfl) (.fieldAddr FactRdisk4.fld102x0 rfl) ?_
          refine O.op (.p rfl) (.loadAt FactRdisk4.flat36 rfl ho rfl) ?_
          refine O.op (.p rfl) (.mv rfl) ?_
          refine O.idx' (.p rfl) Go.Proofs.Tryz.underlying36 FactRdisk4.size9 rfl rfl rfl (hn) (by decide) (by first | omega | (simp; done) | (simp; omega) | decide) (fun p21 cs21 hp21 hr21 => ?_)
          obtain ⟨rfl, _⟩ := hr21
          refine O.op (.p rfl) (.loadAt FactRdisk4.flat9 rfl hp21 rfl) ?_
          refine O.op (.p rfl) (.mv rfl) ?_
          refine O.op (.p rfl) (.gtrS rfl rfl) ?_
          refine O.slot 24 (v' := .bool true) rfl (congrArg Value.bool (by rw [gtrS_eq]; exact decide_eq_true c1)) ?_
          refine O.op (.p rfl) (.mv rfl) ?_
          refine O.op (.g rfl rfl) (.mv rfl) ?_
          refine O.op (.g rfl rfl) (.eqlS rfl rfl) ?_
          refine O.slot 27 (v' := .bool false) rfl (congrArg Value.bool (by simp [c2])) ?_
          refine O.op (.g rfl rfl) (.mv rfl) ?_
          refine O.op (.g rfl rfl) (.mv rfl) ?_
          refine O.op (.g rfl rfl) (.nilCheck rfl) ?_
          refine O.op (.g rfl rfl) (.fieldAddr FactRdisk4.fld102x0 rfl) ?_
          refine O.op (.g rfl rfl) (.loadAt FactRdisk4.flat36 rfl ho rfl) ?_
          refine O.op (.g rfl rfl) (.mv rfl) ?_
          refine O.idx' (.g rfl rfl) Go.Proofs.Tryz.underlying36 FactRdisk4.size9 rfl rfl rfl (hn) (by decide) (by first | omega | (simp; done) | (simp; omega) | decide) (fun p34 cs34 hp34 hr34 => ?_)
          obtain ⟨rfl, _⟩ := hr34
          refine O.op (.g rfl rfl) (.loadAt FactRdisk4.flat9 rfl hp34 rfl) ?_
          refine O.op (.g rfl rfl) (.mv rfl) ?_
          refine O.op (.g rfl rfl) (.lssS rfl rfl) ?_
          refine O.slot 37 (v' := .bool false) rfl (congrArg Value.bool (by rw [lssS_eq]; exact decide_eq_false c3)) ?_
          refine O.op (.g rfl rfl) (.pickF rfl rfl) ?_
          refine O.op (.p rfl) (.pickT rfl rfl) ?_
          refine O.nil ?_
          refine S.condF rfl ?_
          refine S.skip (S.inBlock (S.region rfl ?_))
          refine O.op (.p rfl) (.mv rfl) ?_
          refine O.op (.p rfl) (.add rfl rfl (IntWalk.i64_in _ (by omega))) ?_
          refine O.op (.p rfl) (.as rfl) ?_
          refine O.nil ?_
          rw [← e1]
          refine S.pk ?_ (S.weaken ?_ (ih (i + 1) (by exact hi) (by omega)))
          · repeat (first | exact Picks.all | exact Picks.nil | (apply Picks.cons; focus (repeat (first | exact Sel.here | apply Sel.there))) | apply Picks.skip)
          repeat (first | exact Sub.nil | refine Sub.cons rfl ?_)
    ·
      rw [if_neg fun h => c1 h.1] at e1
      refine S.skip (S.seq (S.block (S.seq (S.region rfl ?_))))
      refine O.op (.p rfl) (.mv rfl) ?_
      refine O.op (.p rfl) (.nilCheck rfl) ?_
      refine O.op (.p rfl) (.fieldAddr FactRdisk4.fld102x0 rfl) ?_
      refine O.op (.p rfl) (.loadAt FactRdisk4.flat36 rfl ho rfl) ?_
      refine O.op (.p rfl) (.mv rfl) ?_
      refine O.idx' (.p rfl) Go.Proofs.Tryz.underlying36 FactRdisk4.size9 rfl rfl rfl (hn) (by decide) (by first | omega | (simp; done) | (simp; omega) | decide) (fun p21 cs21 hp21 hr21 => ?_)
      obtain ⟨rfl, _⟩ := hr21
      refine O.op (.p rfl) (.loadAt FactRdisk4.flat9 rfl hp21 rfl) ?_
      refine O.op (.p rfl) (.mv rfl) ?_
      refine O.op (.p rfl) (.gtrS rfl rfl) ?_
      refine O.slot 24 (v' := .bool false) rfl (congrArg Value.bool (by rw [gtrS_eq]; exact decide_eq_false c1)) ?_
      refine O.op (.p rfl) (.mv rfl) ?_
      refine O.opN rfl rfl rfl ?_
      refine O.opN rfl rfl rfl ?_
      refine O.opN rfl rfl rfl ?_
      refine O.opN rfl rfl rfl ?_
      refine O.opN rfl rfl rfl ?_
      refine O.opN rfl rfl rfl ?_
      refine O.opN rfl rfl rfl ?_
      refine O.opN rfl rfl rfl ?_
      refine O.opN rfl rfl rfl ?_
      refine O.opN rfl rfl rfl ?_
      refine O.opN rfl rfl rfl ?_
      refine O.opN rfl rfl rfl ?_
      refine O.opN rfl rfl rfl ?_
      refine O.op (.p rfl) (.pickF rfl rfl) ?_
      refine O.nil ?_
      refine S.condF rfl ?_
      refine S.skip (S.inBlock (S.region rfl ?_))
      refine O.op (.p rfl) (.mv rfl) ?_
      refine O.op (.p rfl) (.add rfl rfl (IntWalk.i64_in _ (by omega))) ?_
      refine O.op (.p rfl) (.as rfl) ?_
      refine O.nil ?_
      rw [← e1]
      refine S.pk ?_ (S.weaken ?_ (ih (i + 1) (by exact hi) (by omega)))
      · repeat (first | exact Picks.all | exact Picks.nil | (apply Picks.cons; focus (repeat (first | exact Sel.here | apply Sel.there))) | apply Picks.skip)
      repeat (first | exact Sub.nil | refine Sub.cons rfl ?_)
  · clear ih
    have hi : i = names.length := by omega
    subst hi
    rw [List.take_length, hmin]
    by_cases hk : k < (rList names).length
    ·
      rw [List.getElem?_eq_getElem hk, Option.getD_some]
      have hne := (rList_mem.1 (List.getElem_mem hk)).2
      have hlq := hq _ (rList_mem.1 (List.getElem_mem hk)).1
      have ht : (rList names).take (k + 1) = (rList names).take k ++ [(rList names)[k]] := List.take_succ_eq_append_getElem hk
      rw [← lastOf_succ hk] at hne hlq ⊢
      rw [← lastOf_succ hk] at ht
      refine S.exit rfl ?_
      refine S.seq (S.seq (S.region rfl ?_))
      refine O.op (.p rfl) (.mv rfl) ?_
      refine O.op (.p rfl) (.eqlS rfl rfl) ?_
      refine O.slot 48 (v' := .bool false) rfl (congrArg Value.bool (by simp [hne])) ?_
      refine O.nil ?_
      refine S.condF rfl ?_
      refine S.skip (S.seq (S.region rfl ?_))
      refine O.op (.p rfl) (.mv rfl) ?_
      refine O.op (.p rfl) (.mv rfl) ?_
      refine O.opE (.p rfl) (.litP (T := Rp.str) (ys := [_]) Go.Proofs.Tryz.underlying36 FactRdisk4.elem9 (by decide) rfl rfl ⟨⟨rfl, by first | omega | (simp; done) | (simp; omega) | decide⟩, trivial⟩ (by decide)) ?_
      rintro _ _ ⟨a52, c52, rfl, rfl⟩
      refine O.opE (.p rfl) (.appendO (T := Rp.str) Go.Proofs.Tryz.underlying36 FactRdisk4.elem9 (by decide) rfl rfl (by repeat (first | exact Sel.here | apply Sel.there)) (by repeat (first | exact Sel.here | apply Sel.there)) (by first | omega | (simp; done) | (simp; omega) | decide) (by first | omega | (simp; done) | (simp; omega) | decide)) ?_
      rintro _ _ ⟨a53, c53, rfl, rfl⟩
      refine O.op (.p rfl) (.as rfl) ?_
      refine O.nil ?_
      refine S.region rfl ?_
      refine O.op (.p rfl) (.mv rfl) ?_
      refine O.op (.p rfl) (.as rfl) ?_
      refine O.nil ?_
      refine S.inBlock ?_
      refine S.ownIs (T := Rp.str) (v' := .slice a53 (k + 1) c53) (xs' := (rList names).take (k + 1)) (by repeat (first | exact Sel.here | apply Sel.there)) (by rw [htl]; rfl) ht.symm ?_
      refine S.slot 3 (v' := .slice a53 (k + 1) c53) rfl (by rw [htl]; rfl) ?_
      refine S.pk ?_ (S.weaken ?_ (ih (k + 1) ((a53, c53)) (by exact hk) (by omega)))
      · repeat (first | exact Picks.all | exact Picks.nil | (apply Picks.cons; focus (repeat (first | exact Sel.here | apply Sel.there))) | apply Picks.skip)
      repeat (first | exact Sub.nil | refine Sub.cons rfl ?_)
    ·
      have hk2 : k = (rList names).length := by omega
      subst hk2
      rw [List.getElem?_eq_none (Nat.le_refl _), List.take_length]
      refine S.exit rfl ?_
      refine S.seq (S.seq (S.region rfl ?_))
      refine O.op (.p rfl) (.mv rfl) ?_
      refine O.op (.p rfl) (.eqlS rfl rfl) ?_
      refine O.slot 48 (v' := .bool true) rfl (congrArg Value.bool (by simp)) ?_
      refine O.nil ?_
      refine S.condT rfl ?_
      refine S.seq (S.region rfl ?_)
      refine O.op (.p rfl) (.mv rfl) ?_
      refine O.op (.p rfl) (.as rfl) ?_
      refine O.nil ?_
      refine S.ret Go.Proofs.Tryz.results95 rfl fun w hw => Holds.end_ hR hw ?_
      exact ⟨_, ⟨q.1, q.2, rfl, rfl⟩, by repeat (first | exact Picks.all | exact Picks.nil | (apply Picks.cons; focus (repeat (first | exact Sel.here | apply Sel.there))) | apply Picks.skip)⟩

end Go.Proofs.YtkkcpckgnfcncaaGreatDoor
