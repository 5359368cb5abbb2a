/-
  An append that keeps what it was put to: the old slice and the new one, over one block or over two.
-/
import Derived.Test.YthaebmfgelaleaaSpOwn3
namespace Go.Sp
section
variable {P : Program} {σ : List (Nat × Value)} {g : Gr} {η ζ θ : List SProp}
/-- append onto a slice of one's own, of what reads elsewhere; the old slice stays, over the same block or beside -/
theorem DoesE.append2 {t e k by_ : Nat} {z : List Value} {x y : Operand} {v u : Value} {m q : Nat} {cs news : List Value} (ht : P.underlying t = some (.slice e)) (he : elemIs P e k by_ z) (hk : 0 < k)
    (hx : ev σ x = some v) (hy : ev σ y = some u) (hs : Sel η (Own v k e m cs) ζ) (hu : Sl g.h u k q news) (h1 : ∀ c ∈ news, c.oneCell' = true) (hb : (m + q) * by_ ≤ 140737488355328) (h63 : m + q ≤ 9223372036854775807) :
    DoesE P (.call ⟨.builtin .append, #[x, y], #[t, t]⟩) σ g η fun v' η' => (η' = Own v' k e (m + q) (cs ++ news) :: ζ ∧ ∃ a cap, v = .slice a m cap ∧ v' = .slice a (m + q) cap ∧ m + q ≤ cap) ∨ η' = Own v' k e (m + q) (cs ++ news) :: Own v k e m cs :: ζ :=
  fun o ρ w ho hkn hw => by
    obtain ⟨i, zv, hi, hz, hsz, hby, hzc, hzl⟩ := he
    subst hsz hby hzc
    have hzs : zv.cells.size = i.size := by simpa using hzl
    obtain ⟨a, cap, rfl, c1, c2, c3, c4⟩ := hu
    have hw1 := hw.sel hs
    cases a with
    | none =>
      have hq : news = [] := by
        cases news with
        | nil => rfl
        | cons c r => obtain ⟨p, hp, _⟩ := c4 0 (by simp); cases hp
      subst hq
      have hq0 : q = 0 := by
        have : q * i.size = 0 := by rw [← c3]; rfl
        rcases Nat.mul_eq_zero.1 this with h | h <;> omega
      subst hq0
      have hv : ∃ a cap, v = .slice a m cap ∧ m ≤ cap := by
        obtain ⟨_, _, _, _, _, _, _, _, _, _, _, _, hA, _⟩ := hw1
        rcases hA with ⟨_, ⟨rfl, rfl⟩ | ⟨b, cap, cur, rfl, _, h1, _⟩⟩
        · exact ⟨none, 0, rfl, Nat.le_refl _⟩
        · exact ⟨_, cap, rfl, h1⟩
      obtain ⟨a, cp, rfl, hle⟩ := hv
      refine ⟨.slice a m cp, w, _, .inl ⟨rfl, a, cp, rfl, rfl, hle⟩, run_append_args ho ?_, by simpa using hw1⟩
      rw [hkn x _ hx, hkn y _ hy]
      cases a <;> simp [Builtin.append_, run_underlying ht, sizeOf, typeInfo, hi, Builtin.lenOf, Builtin.firstCells, storeCells, hle]
    | some a =>
      have hnews : ∀ j u, news[j]? = some u → w.cell? (a.add j) = some u := fun j u hj => by
        obtain ⟨hjl, rfl⟩ := List.getElem?_eq_some_iff.1 hj
        obtain ⟨p, hp, hc⟩ := c4 j hjl
        cases hp
        exact Fr.cell_mono hw.ground hc
      have hnx := hkn x _ hx
      have hny := hkn y _ hy
      have fresh : ∀ (old : Nat), old < m + q → cs.length = m * i.size → Holds (w.drew.alloc (.cells (cs.toArray ++ news.toArray ++ Builtin.zeroCells zv.cells (grownCap w (m + q) old e - (m + q))) e)) g
          (Own (.slice (some ⟨w.heap.size, 0, none⟩) (m + q) (grownCap w (m + q) old e)) i.size e (m + q) (cs ++ news) :: Own v i.size e m cs :: ζ) := by
        intro old ho hcl
        have hge := grownCap_ge w (m + q) old e
        have hcm := grownCap_le_maxLen w (m + q) old e (by simpa [maxLen] using h63)
        have hlen : (cs ++ news).length = (m + q) * i.size := by rw [List.length_append, hcl, c3, Nat.add_mul]
        refine ((hw1.drewN _ (Nat.le_add_right _ _)).alloc _).own hge (by simpa [maxLen] using hcm) ?_ ?_
        · simp only [Array.size_append, List.size_toArray, size_zeroCells, hzs, hcl, c3, ← Nat.add_mul]
          congr 1
          omega
        · simp only [Array.toList_append, List.append_assoc]
          rw [← List.append_assoc, ← hlen]
          exact List.take_left
      obtain ⟨hA, hA'⟩ : cs.length = m * i.size ∧ ((v = .slice none 0 0 ∧ m = 0) ∨ ∃ b cap cur, v = .slice (some ⟨b, 0, none⟩) m cap ∧ m ≤ cap ∧ cap ≤ 9223372036854775807 ∧ cur.size = cap * i.size ∧ cur.toList.take (m * i.size) = cs ∧
          ∃ fz, Thawed fz (cap * i.size) ∧ Holds w g (blk b (.cells cur e fz) :: ζ)) := by
        obtain ⟨p1, p2, p3, K, hd, s1, s2, k1, k2, kd, t1, t2, ⟨hl, hA⟩, hr⟩ := hw1
        refine ⟨hl, hA.imp id ?_⟩
        rintro ⟨b, cap, cur, rfl, ⟨fz, hbk, hz⟩, h1, h2, h3, h4⟩
        exact ⟨b, cap, cur, rfl, h1, h2, h3, h4, fz, hz, p1, p2, p3, K, hd, s1, s2, k1, k2, kd, t1, t2, hbk, hr⟩
      rcases hA' with ⟨rfl, rfl⟩ | ⟨b, cp, cur, rfl, h1', h2', h3', h4', fz, hfz, hwb⟩
      · have hcs : cs = [] := List.eq_nil_of_length_eq_zero (by simpa using hA)
        subst hcs
        by_cases hq : q = 0
        · subst hq
          have hn : news = [] := List.eq_nil_of_length_eq_zero (by simpa using c3)
          subst hn
          refine ⟨.slice none 0 0, w, _, .inl ⟨rfl, none, 0, rfl, rfl, Nat.le_refl _⟩, run_append_args ho ?_, by simpa using hw1⟩
          rw [hnx, hny]
          simp [Builtin.append_, run_underlying ht, sizeOf, typeInfo, hi, Builtin.lenOf, Builtin.firstCells, loadCells, loadCellsFrom]
        · have hr := run_append_nil (P := P) w t o.type e i zv ht hi hz a q cap news c3 hnews (by omega) (by omega) (by have hb := hb; simp only [Nat.zero_add] at hb; omega)
          have hf := fresh 0 (by omega) (by simp)
          simp only [Nat.zero_add, List.nil_append, Array.empty_append] at hf ⊢
          exact ⟨_, _, _, .inr rfl, run_append_args ho (by rw [hnx, hny]; exact hr), hf⟩
      · by_cases hroom : m + q ≤ cp
        · have hfit : m * i.size + news.length ≤ cur.size := by rw [c3, h3', ← Nat.add_mul]; exact Nat.mul_le_mul_right _ hroom
          have hr := run_append_roomZ (P := P) w t o.type e i ht hi b m cp cur hwb.block (by rw [h3']; exact hfz) a q cap news c3 hnews h1 hroom hfit
          refine ⟨_, _, _, .inl ⟨rfl, _, _, rfl, rfl, hroom⟩, run_append_args ho (by rw [hnx, hny]; exact hr), hwb.setRow.ownF hfz hroom h2' ?_ ?_⟩
          · simp only [List.size_toArray, List.length_append, List.length_take, List.length_drop, Array.length_toList]
            omega
          · have hlen : (cs ++ news).length = (m + q) * i.size := by rw [List.length_append, hA, c3, Nat.add_mul]
            rw [h4', ← hlen]
            exact List.take_left
        · have holds : ∀ j u, cs[j]? = some u → w.cell? ((⟨b, 0, none⟩ : Addr).add j) = some u := fun j u hj => by
            have hb0 := hwb.block
            rw [add_lit, Nat.zero_add]
            have hjl := (List.getElem?_eq_some_iff.1 hj).1
            rw [← h4', List.getElem?_take_of_lt (by omega)] at hj
            simpa [World.cell?, hb0] using hj
          have hr := run_append_grow (P := P) w t o.type e i zv ht hi hz ⟨b, 0, none⟩ m cp cs hA holds a q cap news c3 hnews (by omega) (by omega) (growslice_fits (by omega) hb)
          exact ⟨_, _, _, .inr rfl, run_append_args ho (by rw [hnx, hny]; exact hr), fresh cp (by omega) hA⟩

/-- a slice, and one that begins as it does: over one block, or over two -/
def Two {α : Type} (T : Rp α) (e : TypeId) (v : Value) (xs : List α) (u : Value) (ys : List α) : SProp := fun h =>
  (∃ a c, v = .slice a xs.length c ∧ u = .slice a (xs.length + ys.length) c ∧ OwnP T e u (xs ++ ys) h) ∨ Sat [OwnP T e u (xs ++ ys), OwnP T e v xs] h
theorem Two.start {α : Type} {T : Rp α} {e : TypeId} {v : Value} {xs : List α} {h : Fr} (x : OwnP T e v xs h) : Two T e v xs v [] h := by
  obtain ⟨a, c, hv⟩ := x.shape
  exact .inl ⟨a, c, hv, by simpa using hv, by simpa using x⟩
theorem OwnP.take {α : Type} {T : Rp α} {e : TypeId} {a : Option Addr} {n m c : Nat} {xs ys : List α} {h : Fr} (hn : n = xs.length) (x : OwnP T e (.slice a m c) (xs ++ ys) h) : OwnP T e (.slice a n c) xs h := by
  subst hn
  obtain ⟨css, h1, h2, h3⟩ := x
  have hl : css.length = xs.length + ys.length := by rw [h1.length]; simp
  have ht := h1.take xs.length
  rw [List.take_left'] at ht
  · refine ⟨css.take xs.length, ht, ?_, ?_⟩
    · rw [← h1.flat_take, List.length_take, h2, List.length_append]; exact Nat.min_eq_left (Nat.mul_le_mul_right _ (by omega))
    · rcases h3 with ⟨h4, h5⟩ | ⟨b, cap, cur, h4, h5, h6, h7, h8, h9⟩
      · cases h4
        simp at h5
        exact .inl ⟨by rw [h5.1]; rfl, by rw [h5.1]; rfl⟩
      · cases h4
        refine .inr ⟨b, c, cur, rfl, h5, ?_, h7, h8, ?_⟩
        · rw [List.length_append] at h6; omega
        · rw [← h1.flat_take, ← h9, List.take_take, List.length_append, Nat.min_eq_left (Nat.mul_le_mul_right _ (by omega))]
  · rfl
theorem Two.own {α : Type} {T : Rp α} {e : TypeId} {v u : Value} {xs ys : List α} {h : Fr} (x : Two T e v xs u ys h) : ∃ h' : Fr, h'.sub h ∧ OwnP T e v xs h' := by
  rcases x with ⟨a, c, rfl, rfl, x⟩ | ⟨_, _, _, _, s2, _, _, _, _, t1, _, y, _⟩
  · exact ⟨h, Fr.sub_refl _, x.take rfl⟩
  · exact ⟨_, Fr.sub_trans t1 s2, y⟩
theorem Two.arr {α : Type} {T : Rp α} {e : TypeId} {v u : Value} {xs ys : List α} {h : Fr} (x : Two T e v xs u ys h) : Arr T h v xs ∧ Arr T h u (xs ++ ys) := by
  rcases x with ⟨a, c, rfl, rfl, x⟩ | ⟨_, _, _, s1, s2, x, _, _, _, t1, _, y, _⟩
  · exact ⟨(x.take rfl).arr, x.arr⟩
  · exact ⟨y.arr.mono (Fr.sub_trans t1 s2), x.arr.mono s1⟩
theorem Two.shape {α : Type} {T : Rp α} {e : TypeId} {v u : Value} {xs ys : List α} {h : Fr} (x : Two T e v xs u ys h) : ∃ a c, u = .slice a (xs.length + ys.length) c := by
  obtain ⟨a, c, h⟩ := x.arr.2.shape
  exact ⟨a, c, by simpa using h⟩
/-- onto the longer one -/
theorem DoesE.appendTwo {α : Type} {T : Rp α} {t e by_ : Nat} {z : List Value} {x y : Operand} {v u q : Value} {xs ys zs : List α} (hT : T.Pure) (ht : P.underlying t = some (.slice e)) (he : elemIs P e T.k by_ z) (hk : 0 < T.k) (hx : ev σ x = some u) (hy : ev σ y = some q)
    (hs : Sel η (Two T e v xs u ys) ζ) (hu : Arr T g.h q zs) (hb : (xs.length + ys.length + zs.length) * by_ ≤ 140737488355328) (h63 : xs.length + ys.length + zs.length ≤ 9223372036854775807) :
    DoesE P (.call ⟨.builtin .append, #[x, y], #[t, t]⟩) σ g η fun v' η' => ∃ a c, v' = .slice a (xs.length + ys.length + zs.length) c ∧ η' = Two T e v xs v' (ys ++ zs) :: ζ := by
  intro o ρ w h1 h2 h3
  have hw := h3.sel hs
  obtain ⟨p1, p2, p3, K, hd, s1, s2, k1, k2, kd, t1, t2, htwo, hr⟩ := hw
  obtain ⟨dss, hda, hsl⟩ := hu
  have fin : ∀ {w' : World} {v' : Value}, Holds w' g (Two T e v xs v' (ys ++ zs) :: ζ) → ∃ a c, v' = .slice a (xs.length + ys.length + zs.length) c := by
    intro w' v' hh
    obtain ⟨_, _, _, _, _, _, _, _, _, _, _, _, hA, _⟩ := hh
    obtain ⟨a, c, h⟩ := hA.shape
    exact ⟨a, c, by rw [h]; simp [Nat.add_assoc]⟩
  rcases htwo with ⟨a, c, rfl, rfl, ⟨css, ha, hown⟩⟩ | ⟨m1, m2, md, r1, r2, ⟨css, ha, hown⟩, m3, m4, md', r3, r4, hv, _⟩
  · have hw' : Holds w g (Own (.slice a (xs.length + ys.length) c) T.k e (xs ++ ys).length css.flatten :: ζ) := ⟨p1, p2, p3, K, hd, s1, s2, k1, k2, kd, t1, t2, hown, hr⟩
    obtain ⟨v', w', η', hη, hrun, hh⟩ := DoesE.append2 (g := g) ht he hk hx hy .here hsl (All2.one hda) (by rw [List.length_append]; exact hb) (by rw [List.length_append]; exact h63) o ρ w h1 h2 hw'
    rcases hη with ⟨rfl, a', cap, hv, rfl, hcap⟩ | rfl
    · have hh' : Holds w' g (Two T e (.slice a xs.length c) xs (.slice a' ((xs ++ ys).length + zs.length) cap) (ys ++ zs) :: ζ) := hh.imp fun _ => Sat.cons_imp (fun m q => .inl ⟨a, c, rfl, by injection hv with h8 h9 h10; subst h8 h10; simp [Nat.add_assoc], by
        rw [← List.append_assoc]; exact OwnP.of (css := css ++ dss) (ha.append (hda.imp fun _ _ q => hT _ _ _ q)) (by simp [Nat.add_assoc]) (by simp) rfl m q⟩) fun _ q => q
      exact ⟨_, w', _, ⟨a', cap, by simp, rfl⟩, hrun, hh'⟩
    · have hh' : Holds w' g (Two T e (.slice a xs.length c) xs v' (ys ++ zs) :: ζ) := by
        refine hh.imp fun m hm => ?_
        obtain ⟨n1, n2, nd, u1, u2, q1, n3, n4, nd', u3, u4, q2, q3⟩ := hm
        refine ⟨n1.add n3, n4, Fr.disj_add (Fr.disj_sub nd (Fr.sub_refl _) u4) nd', Fr.add_sub u1 (Fr.sub_trans u3 u2), Fr.sub_trans u4 u2, .inr ?_, q3⟩
        refine ⟨n1, n3, Fr.disj_sub nd (Fr.sub_refl _) u3, Fr.sub_add_left _ _, Fr.sub_add_right (Fr.disj_sub nd (Fr.sub_refl _) u3), ?_, n3, Fr.emp, Fr.disj_symm (Fr.emp_disj _), Fr.sub_refl _, Fr.emp_sub _, ?_, trivial⟩
        · rw [← List.append_assoc]; exact OwnP.of (css := css ++ dss) (ha.append (hda.imp fun _ _ q => hT _ _ _ q)) (by simp [Nat.add_assoc]) (by simp) rfl _ q1
        · exact OwnP.take rfl (ys := ys) (m := xs.length + ys.length) ⟨css, ha, q2⟩
      obtain ⟨a', c', hv'⟩ := fin hh'
      exact ⟨v', w', _, ⟨a', c', hv', rfl⟩, hrun, hh'⟩
  · have hw' : Holds w g (Own u T.k e (xs ++ ys).length css.flatten :: OwnP T e v xs :: ζ) :=
      ⟨p1, p2, p3, K, hd, s1, s2, m1, m3.add k2, Fr.disj_add_right (Fr.disj_sub md (Fr.sub_refl _) r3) (Fr.disj_sub kd r1 (Fr.sub_refl _)), Fr.sub_trans r1 t1, Fr.add_sub (Fr.sub_trans r3 (Fr.sub_trans r2 t1)) t2, hown,
        m3, k2, Fr.disj_sub kd (Fr.sub_trans r3 r2) (Fr.sub_refl _), Fr.sub_add_left _ _, Fr.sub_add_right (Fr.disj_sub kd (Fr.sub_trans r3 r2) (Fr.sub_refl _)), hv, hr⟩
    obtain ⟨v', w', η', hη, hrun, hh⟩ := DoesE.append (g := g) ht he hk hx hy .here hsl (All2.one hda) (by rw [List.length_append]; exact hb) (by rw [List.length_append]; exact h63) o ρ w h1 h2 hw'
    subst hη
    have hh' : Holds w' g (Two T e v xs v' (ys ++ zs) :: ζ) := by
      refine hh.imp fun m hm => ?_
      obtain ⟨n1, n2, nd, u1, u2, q1, n3, n4, nd', u3, u4, q2, q3⟩ := hm
      refine ⟨n1.add n3, n4, Fr.disj_add (Fr.disj_sub nd (Fr.sub_refl _) u4) nd', Fr.add_sub u1 (Fr.sub_trans u3 u2), Fr.sub_trans u4 u2, .inr ?_, q3⟩
      refine ⟨n1, n3, Fr.disj_sub nd (Fr.sub_refl _) u3, Fr.sub_add_left _ _, Fr.sub_add_right (Fr.disj_sub nd (Fr.sub_refl _) u3), ?_, n3, Fr.emp, Fr.disj_symm (Fr.emp_disj _), Fr.sub_refl _, Fr.emp_sub _, q2, trivial⟩
      rw [← List.append_assoc]; exact OwnP.of (css := css ++ dss) (ha.append (hda.imp fun _ _ q => hT _ _ _ q)) (by simp [Nat.add_assoc]) (by simp) rfl _ q1
    obtain ⟨a', c', hv'⟩ := fin hh'
    exact ⟨v', w', _, ⟨a', c', hv', rfl⟩, hrun, hh'⟩
end
end Go.Sp
