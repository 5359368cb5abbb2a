/- Texts of this proof, one behind the other. -/
import Derived.Test.YtodhbhanmdfdeaaSpOwn3
section
/-
  An append that keeps what it was put to: the old slice and the new one, over one block or over two.
-/
namespace Go.Sp
section
variable {P : Program} {σ : List (Nat × Value)} {g : Gr} {η ζ θ : List SProp}
/-- append onto a slice of one's own, of what reads elsewhere; the old slice stays, over the same block or beside -/
theorem DoesE.append2 {t e k by_ : Nat} {z : List Value} {x y : Operand} {v u : Value} {m q : Nat} {cs news : List Value} (ht : P.underlying t = some (.slice e)) (he : elemIs P e k by_ z) (hk : 0 < k)
    (hx : ev σ x = some v) (hy : ev σ y = some u) (hs : Sel η (Own v k e m cs) ζ) (hu : Sl g.h u k q news) (h1 : ∀ c ∈ news, c.oneCell' = true) (hb : (m + q) * by_ ≤ 140737488355328) (h63 : m + q ≤ 9223372036854775807) :
    DoesE P (.call ⟨.builtin .append, #[x, y], #[t, t]⟩) σ g η fun v' η' => (η' = Own v' k e (m + q) (cs ++ news) :: ζ ∧ ∃ a cap, v = .slice a m cap ∧ v' = .slice a (m + q) cap ∧ m + q ≤ cap) ∨ η' = Own v' k e (m + q) (cs ++ news) :: Own v k e m cs :: ζ :=
  fun o ρ w ho hkn hw => by
    obtain ⟨i, zv, hi, hz, hsz, hby, hzc, hzl⟩ := he
    subst hsz hby hzc
    have hzs : zv.cells.size = i.size := by simpa using hzl
    obtain ⟨a, cap, rfl, c1, c2, c3, c4⟩ := hu
    have hw1 := hw.sel hs
    cases a with
    | none =>
      have hq : news = [] := by
        cases news with
        | nil => rfl
        | cons c r => obtain ⟨p, hp, _⟩ := c4 0 (by simp); cases hp
      subst hq
      have hq0 : q = 0 := by
        have : q * i.size = 0 := by rw [← c3]; rfl
        rcases Nat.mul_eq_zero.1 this with h | h <;> omega
      subst hq0
      have hv : ∃ a cap, v = .slice a m cap ∧ m ≤ cap := by
        obtain ⟨_, _, _, _, _, _, _, _, _, _, _, _, hA, _⟩ := hw1
        rcases hA with ⟨_, ⟨rfl, rfl⟩ | ⟨b, cap, cur, rfl, _, h1, _⟩⟩
        · exact ⟨none, 0, rfl, Nat.le_refl _⟩
        · exact ⟨_, cap, rfl, h1⟩
      obtain ⟨a, cp, rfl, hle⟩ := hv
      refine ⟨.slice a m cp, w, _, .inl ⟨rfl, a, cp, rfl, rfl, hle⟩, run_append_args ho ?_, by simpa using hw1⟩
      rw [hkn x _ hx, hkn y _ hy]
      cases a <;> simp [Builtin.append_, run_underlying ht, sizeOf, typeInfo, hi, Builtin.lenOf, Builtin.firstCells, storeCells, hle]
    | some a =>
      have hnews : ∀ j u, news[j]? = some u → w.cell? (a.add j) = some u := fun j u hj => by
        obtain ⟨hjl, rfl⟩ := List.getElem?_eq_some_iff.1 hj
        obtain ⟨p, hp, hc⟩ := c4 j hjl
        cases hp
        exact Fr.cell_mono hw.ground hc
      have hnx := hkn x _ hx
      have hny := hkn y _ hy
      have fresh : ∀ (old : Nat), old < m + q → cs.length = m * i.size → Holds (w.drew.alloc (.cells (cs.toArray ++ news.toArray ++ Builtin.zeroCells zv.cells (grownCap w (m + q) old e - (m + q))) e)) g
          (Own (.slice (some ⟨w.heap.size, 0, none⟩) (m + q) (grownCap w (m + q) old e)) i.size e (m + q) (cs ++ news) :: Own v i.size e m cs :: ζ) := by
        intro old ho hcl
        have hge := grownCap_ge w (m + q) old e
        have hcm := grownCap_le_maxLen w (m + q) old e (by simpa [maxLen] using h63)
        have hlen : (cs ++ news).length = (m + q) * i.size := by rw [List.length_append, hcl, c3, Nat.add_mul]
        refine ((hw1.drewN _ (Nat.le_add_right _ _)).alloc _).own hge (by simpa [maxLen] using hcm) ?_ ?_
        · simp only [Array.size_append, List.size_toArray, size_zeroCells, hzs, hcl, c3, ← Nat.add_mul]
          congr 1
          omega
        · simp only [Array.toList_append, List.append_assoc]
          rw [← List.append_assoc, ← hlen]
          exact List.take_left
      obtain ⟨hA, hA'⟩ : cs.length = m * i.size ∧ ((v = .slice none 0 0 ∧ m = 0) ∨ ∃ b cap cur, v = .slice (some ⟨b, 0, none⟩) m cap ∧ m ≤ cap ∧ cap ≤ 9223372036854775807 ∧ cur.size = cap * i.size ∧ cur.toList.take (m * i.size) = cs ∧
          ∃ fz, Thawed fz (cap * i.size) ∧ Holds w g (blk b (.cells cur e fz) :: ζ)) := by
        obtain ⟨p1, p2, p3, K, hd, s1, s2, k1, k2, kd, t1, t2, ⟨hl, hA⟩, hr⟩ := hw1
        refine ⟨hl, hA.imp id ?_⟩
        rintro ⟨b, cap, cur, rfl, ⟨fz, hbk, hz⟩, h1, h2, h3, h4⟩
        exact ⟨b, cap, cur, rfl, h1, h2, h3, h4, fz, hz, p1, p2, p3, K, hd, s1, s2, k1, k2, kd, t1, t2, hbk, hr⟩
      rcases hA' with ⟨rfl, rfl⟩ | ⟨b, cp, cur, rfl, h1', h2', h3', h4', fz, hfz, hwb⟩
      · have hcs : cs = [] := List.eq_nil_of_length_eq_zero (by simpa using hA)
        subst hcs
        by_cases hq : q = 0
        · subst hq
          have hn : news = [] := List.eq_nil_of_length_eq_zero (by simpa using c3)
          subst hn
          refine ⟨.slice none 0 0, w, _, .inl ⟨rfl, none, 0, rfl, rfl, Nat.le_refl _⟩, run_append_args ho ?_, by simpa using hw1⟩
          rw [hnx, hny]
          simp [Builtin.append_, run_underlying ht, sizeOf, typeInfo, hi, Builtin.lenOf, Builtin.firstCells, loadCells, loadCellsFrom]
        · have hr := run_append_nil (P := P) w t o.type e i zv ht hi hz a q cap news c3 hnews (by omega) (by omega) (by have hb := hb; simp only [Nat.zero_add] at hb; omega)
          have hf := fresh 0 (by omega) (by simp)
          simp only [Nat.zero_add, List.nil_append, Array.empty_append] at hf ⊢
          exact ⟨_, _, _, .inr rfl, run_append_args ho (by rw [hnx, hny]; exact hr), hf⟩
      · by_cases hroom : m + q ≤ cp
        · have hfit : m * i.size + news.length ≤ cur.size := by rw [c3, h3', ← Nat.add_mul]; exact Nat.mul_le_mul_right _ hroom
          have hr := run_append_roomZ (P := P) w t o.type e i ht hi b m cp cur hwb.block (by rw [h3']; exact hfz) a q cap news c3 hnews h1 hroom hfit
          refine ⟨_, _, _, .inl ⟨rfl, _, _, rfl, rfl, hroom⟩, run_append_args ho (by rw [hnx, hny]; exact hr), hwb.setRow.ownF hfz hroom h2' ?_ ?_⟩
          · simp only [List.size_toArray, List.length_append, List.length_take, List.length_drop, Array.length_toList]
            omega
          · have hlen : (cs ++ news).length = (m + q) * i.size := by rw [List.length_append, hA, c3, Nat.add_mul]
            rw [h4', ← hlen]
            exact List.take_left
        · have holds : ∀ j u, cs[j]? = some u → w.cell? ((⟨b, 0, none⟩ : Addr).add j) = some u := fun j u hj => by
            have hb0 := hwb.block
            rw [add_lit, Nat.zero_add]
            have hjl := (List.getElem?_eq_some_iff.1 hj).1
            rw [← h4', List.getElem?_take_of_lt (by omega)] at hj
            simpa [World.cell?, hb0] using hj
          have hr := run_append_grow (P := P) w t o.type e i zv ht hi hz ⟨b, 0, none⟩ m cp cs hA holds a q cap news c3 hnews (by omega) (by omega) (growslice_fits (by omega) hb)
          exact ⟨_, _, _, .inr rfl, run_append_args ho (by rw [hnx, hny]; exact hr), fresh cp (by omega) hA⟩

/-- a slice, and one that begins as it does: over one block, or over two -/
def Two {α : Type} (T : Rp α) (e : TypeId) (v : Value) (xs : List α) (u : Value) (ys : List α) : SProp := fun h =>
  (∃ a c, v = .slice a xs.length c ∧ u = .slice a (xs.length + ys.length) c ∧ OwnP T e u (xs ++ ys) h) ∨ Sat [OwnP T e u (xs ++ ys), OwnP T e v xs] h
theorem Two.start {α : Type} {T : Rp α} {e : TypeId} {v : Value} {xs : List α} {h : Fr} (x : OwnP T e v xs h) : Two T e v xs v [] h := by
  obtain ⟨a, c, hv⟩ := x.shape
  exact .inl ⟨a, c, hv, by simpa using hv, by simpa using x⟩
theorem OwnP.take {α : Type} {T : Rp α} {e : TypeId} {a : Option Addr} {n m c : Nat} {xs ys : List α} {h : Fr} (hn : n = xs.length) (x : OwnP T e (.slice a m c) (xs ++ ys) h) : OwnP T e (.slice a n c) xs h := by
  subst hn
  obtain ⟨css, h1, h2, h3⟩ := x
  have hl : css.length = xs.length + ys.length := by rw [h1.length]; simp
  have ht := h1.take xs.length
  rw [List.take_left'] at ht
  · refine ⟨css.take xs.length, ht, ?_, ?_⟩
    · rw [← h1.flat_take, List.length_take, h2, List.length_append]; exact Nat.min_eq_left (Nat.mul_le_mul_right _ (by omega))
    · rcases h3 with ⟨h4, h5⟩ | ⟨b, cap, cur, h4, h5, h6, h7, h8, h9⟩
      · cases h4
        simp at h5
        exact .inl ⟨by rw [h5.1]; rfl, by rw [h5.1]; rfl⟩
      · cases h4
        refine .inr ⟨b, c, cur, rfl, h5, ?_, h7, h8, ?_⟩
        · rw [List.length_append] at h6; omega
        · rw [← h1.flat_take, ← h9, List.take_take, List.length_append, Nat.min_eq_left (Nat.mul_le_mul_right _ (by omega))]
  · rfl
theorem Two.own {α : Type} {T : Rp α} {e : TypeId} {v u : Value} {xs ys : List α} {h : Fr} (x : Two T e v xs u ys h) : ∃ h' : Fr, h'.sub h ∧ OwnP T e v xs h' := by
  rcases x with ⟨a, c, rfl, rfl, x⟩ | ⟨_, _, _, _, s2, _, _, _, _, t1, _, y, _⟩
  · exact ⟨h, Fr.sub_refl _, x.take rfl⟩
  · exact ⟨_, Fr.sub_trans t1 s2, y⟩
theorem Two.arr {α : Type} {T : Rp α} {e : TypeId} {v u : Value} {xs ys : List α} {h : Fr} (x : Two T e v xs u ys h) : Arr T h v xs ∧ Arr T h u (xs ++ ys) := by
  rcases x with ⟨a, c, rfl, rfl, x⟩ | ⟨_, _, _, s1, s2, x, _, _, _, t1, _, y, _⟩
  · exact ⟨(x.take rfl).arr, x.arr⟩
  · exact ⟨y.arr.mono (Fr.sub_trans t1 s2), x.arr.mono s1⟩
theorem Two.shape {α : Type} {T : Rp α} {e : TypeId} {v u : Value} {xs ys : List α} {h : Fr} (x : Two T e v xs u ys h) : ∃ a c, u = .slice a (xs.length + ys.length) c := by
  obtain ⟨a, c, h⟩ := x.arr.2.shape
  exact ⟨a, c, by simpa using h⟩
/-- onto the longer one -/
theorem DoesE.appendTwo {α : Type} {T : Rp α} {t e by_ : Nat} {z : List Value} {x y : Operand} {v u q : Value} {xs ys zs : List α} (hT : T.Pure) (ht : P.underlying t = some (.slice e)) (he : elemIs P e T.k by_ z) (hk : 0 < T.k) (hx : ev σ x = some u) (hy : ev σ y = some q)
    (hs : Sel η (Two T e v xs u ys) ζ) (hu : Arr T g.h q zs) (hb : (xs.length + ys.length + zs.length) * by_ ≤ 140737488355328) (h63 : xs.length + ys.length + zs.length ≤ 9223372036854775807) :
    DoesE P (.call ⟨.builtin .append, #[x, y], #[t, t]⟩) σ g η fun v' η' => ∃ a c, v' = .slice a (xs.length + ys.length + zs.length) c ∧ η' = Two T e v xs v' (ys ++ zs) :: ζ := by
  intro o ρ w h1 h2 h3
  have hw := h3.sel hs
  obtain ⟨p1, p2, p3, K, hd, s1, s2, k1, k2, kd, t1, t2, htwo, hr⟩ := hw
  obtain ⟨dss, hda, hsl⟩ := hu
  have fin : ∀ {w' : World} {v' : Value}, Holds w' g (Two T e v xs v' (ys ++ zs) :: ζ) → ∃ a c, v' = .slice a (xs.length + ys.length + zs.length) c := by
    intro w' v' hh
    obtain ⟨_, _, _, _, _, _, _, _, _, _, _, _, hA, _⟩ := hh
    obtain ⟨a, c, h⟩ := hA.shape
    exact ⟨a, c, by rw [h]; simp [Nat.add_assoc]⟩
  rcases htwo with ⟨a, c, rfl, rfl, ⟨css, ha, hown⟩⟩ | ⟨m1, m2, md, r1, r2, ⟨css, ha, hown⟩, m3, m4, md', r3, r4, hv, _⟩
  · have hw' : Holds w g (Own (.slice a (xs.length + ys.length) c) T.k e (xs ++ ys).length css.flatten :: ζ) := ⟨p1, p2, p3, K, hd, s1, s2, k1, k2, kd, t1, t2, hown, hr⟩
    obtain ⟨v', w', η', hη, hrun, hh⟩ := DoesE.append2 (g := g) ht he hk hx hy .here hsl (All2.one hda) (by rw [List.length_append]; exact hb) (by rw [List.length_append]; exact h63) o ρ w h1 h2 hw'
    rcases hη with ⟨rfl, a', cap, hv, rfl, hcap⟩ | rfl
    · have hh' : Holds w' g (Two T e (.slice a xs.length c) xs (.slice a' ((xs ++ ys).length + zs.length) cap) (ys ++ zs) :: ζ) := hh.imp fun _ => Sat.cons_imp (fun m q => .inl ⟨a, c, rfl, by injection hv with h8 h9 h10; subst h8 h10; simp [Nat.add_assoc], by
        rw [← List.append_assoc]; exact OwnP.of (css := css ++ dss) (ha.append (hda.imp fun _ _ q => hT _ _ _ q)) (by simp [Nat.add_assoc]) (by simp) rfl m q⟩) fun _ q => q
      exact ⟨_, w', _, ⟨a', cap, by simp, rfl⟩, hrun, hh'⟩
    · have hh' : Holds w' g (Two T e (.slice a xs.length c) xs v' (ys ++ zs) :: ζ) := by
        refine hh.imp fun m hm => ?_
        obtain ⟨n1, n2, nd, u1, u2, q1, n3, n4, nd', u3, u4, q2, q3⟩ := hm
        refine ⟨n1.add n3, n4, Fr.disj_add (Fr.disj_sub nd (Fr.sub_refl _) u4) nd', Fr.add_sub u1 (Fr.sub_trans u3 u2), Fr.sub_trans u4 u2, .inr ?_, q3⟩
        refine ⟨n1, n3, Fr.disj_sub nd (Fr.sub_refl _) u3, Fr.sub_add_left _ _, Fr.sub_add_right (Fr.disj_sub nd (Fr.sub_refl _) u3), ?_, n3, Fr.emp, Fr.disj_symm (Fr.emp_disj _), Fr.sub_refl _, Fr.emp_sub _, ?_, trivial⟩
        · rw [← List.append_assoc]; exact OwnP.of (css := css ++ dss) (ha.append (hda.imp fun _ _ q => hT _ _ _ q)) (by simp [Nat.add_assoc]) (by simp) rfl _ q1
        · exact OwnP.take rfl (ys := ys) (m := xs.length + ys.length) ⟨css, ha, q2⟩
      obtain ⟨a', c', hv'⟩ := fin hh'
      exact ⟨v', w', _, ⟨a', c', hv', rfl⟩, hrun, hh'⟩
  · have hw' : Holds w g (Own u T.k e (xs ++ ys).length css.flatten :: OwnP T e v xs :: ζ) :=
      ⟨p1, p2, p3, K, hd, s1, s2, m1, m3.add k2, Fr.disj_add_right (Fr.disj_sub md (Fr.sub_refl _) r3) (Fr.disj_sub kd r1 (Fr.sub_refl _)), Fr.sub_trans r1 t1, Fr.add_sub (Fr.sub_trans r3 (Fr.sub_trans r2 t1)) t2, hown,
        m3, k2, Fr.disj_sub kd (Fr.sub_trans r3 r2) (Fr.sub_refl _), Fr.sub_add_left _ _, Fr.sub_add_right (Fr.disj_sub kd (Fr.sub_trans r3 r2) (Fr.sub_refl _)), hv, hr⟩
    obtain ⟨v', w', η', hη, hrun, hh⟩ := DoesE.append (g := g) ht he hk hx hy .here hsl (All2.one hda) (by rw [List.length_append]; exact hb) (by rw [List.length_append]; exact h63) o ρ w h1 h2 hw'
    subst hη
    have hh' : Holds w' g (Two T e v xs v' (ys ++ zs) :: ζ) := by
      refine hh.imp fun m hm => ?_
      obtain ⟨n1, n2, nd, u1, u2, q1, n3, n4, nd', u3, u4, q2, q3⟩ := hm
      refine ⟨n1.add n3, n4, Fr.disj_add (Fr.disj_sub nd (Fr.sub_refl _) u4) nd', Fr.add_sub u1 (Fr.sub_trans u3 u2), Fr.sub_trans u4 u2, .inr ?_, q3⟩
      refine ⟨n1, n3, Fr.disj_sub nd (Fr.sub_refl _) u3, Fr.sub_add_left _ _, Fr.sub_add_right (Fr.disj_sub nd (Fr.sub_refl _) u3), ?_, n3, Fr.emp, Fr.disj_symm (Fr.emp_disj _), Fr.sub_refl _, Fr.emp_sub _, q2, trivial⟩
      rw [← List.append_assoc]; exact OwnP.of (css := css ++ dss) (ha.append (hda.imp fun _ _ q => hT _ _ _ q)) (by simp [Nat.add_assoc]) (by simp) rfl _ q1
    obtain ⟨a', c', hv'⟩ := fin hh'
    exact ⟨v', w', _, ⟨a', c', hv', rfl⟩, hrun, hh'⟩
end
end Go.Sp
end
section
namespace Go.Sp
theorem EachP.len {β α : Type} {A : β → α → SProp} : ∀ {bs : List β} {as : List α} {h : Fr}, EachP A bs as h → bs.length = as.length
  | [], [], _, _ => rfl
  | [], _ :: _, _, h => h.elim
  | _ :: _, [], _, h => h.elim
  | _ :: _, _ :: _, _, h => by
    have h' : Sat [_, EachP _ _ _] _ := h
    obtain ⟨_, _, _, _, _, _, _, _, _, _, _, q, _⟩ := h'
    simp [EachP.len q]
/-- one of them -/
theorem EachP.at {β α : Type} {A : β → α → SProp} : ∀ {bs : List β} {as : List α} (k : Nat) (hb : k < bs.length) (ha : k < as.length) {h : Fr}, EachP A bs as h → Sat [A bs[k] as[k], EachP A (bs.eraseIdx k) (as.eraseIdx k)] h
  | _ :: _, _ :: _, 0, _, _, _, h => h
  | b :: bs, a :: as, k + 1, hb, ha, m, h => by
    have h' : Sat [A b a, EachP A bs as] m := h
    obtain ⟨k1, k2, kd, t1, t2, p, k3, k4, kd', u1, u2, q, _⟩ := h'
    obtain ⟨n1, n2, nd, v1, v2, x, n3, n4, nd', w1, w2, y, _⟩ := EachP.at k (by simpa using hb) (by simpa using ha) q
    refine ⟨n1, k1.add n2, ?_, Fr.sub_trans v1 (Fr.sub_trans u1 t2), Fr.add_sub t1 (Fr.sub_trans v2 (Fr.sub_trans u1 t2)), x, k1.add n2, Fr.emp, Fr.disj_symm (Fr.emp_disj _), Fr.sub_refl _, Fr.emp_sub _, ?_, trivial⟩
    · exact Fr.disj_add_right (Fr.disj_symm (Fr.disj_sub kd (Fr.sub_refl _) (Fr.sub_trans v1 u1))) nd
    · show Sat [A b a, EachP A (bs.eraseIdx k) (as.eraseIdx k)] _
      have d : k1.disj n2 := Fr.disj_sub kd (Fr.sub_refl _) (Fr.sub_trans v2 u1)
      exact ⟨k1, n2, d, Fr.sub_add_left _ _, Fr.sub_add_right d, p, n3, Fr.emp, Fr.disj_symm (Fr.emp_disj _), w1, Fr.emp_sub _, y, trivial⟩
theorem EachP.put {β α : Type} {A : β → α → SProp} {a' : α} : ∀ {bs : List β} {as : List α} (k : Nat) (hb : k < bs.length) (_ : k < as.length) {h : Fr}, Sat [A bs[k] a', EachP A (bs.eraseIdx k) (as.eraseIdx k)] h → EachP A bs (as.set k a') h
  | _ :: _, _ :: _, 0, _, _, _, h => h
  | b :: bs, a :: as, k + 1, hb, ha, m, h => by
    obtain ⟨n1, n2, nd, v1, v2, x, n3, n4, nd', w1, w2, y, _⟩ := h
    have y' : Sat [A b a, EachP A (bs.eraseIdx k) (as.eraseIdx k)] n3 := y
    obtain ⟨k1, k2, kd, t1, t2, p, k3, k4, kd', u1, u2, q, _⟩ := y'
    show Sat [A b a, EachP A bs (as.set k a')] m
    have d1 : k1.disj n1 := Fr.disj_symm (Fr.disj_sub nd (Fr.sub_refl _) (Fr.sub_trans t1 w1))
    have d2 : n1.disj k3 := Fr.disj_sub nd (Fr.sub_refl _) (Fr.sub_trans u1 (Fr.sub_trans t2 w1))
    refine ⟨k1, n1.add k3, Fr.disj_add_right d1 (Fr.disj_sub kd (Fr.sub_refl _) u1), Fr.sub_trans t1 (Fr.sub_trans w1 v2), Fr.add_sub v1 (Fr.sub_trans u1 (Fr.sub_trans t2 (Fr.sub_trans w1 v2))), p, n1.add k3, Fr.emp, Fr.disj_symm (Fr.emp_disj _), Fr.sub_refl _, Fr.emp_sub _, ?_, trivial⟩
    exact EachP.put k (by simpa using hb) (by simpa using ha) ⟨n1, k3, d2, Fr.sub_add_left _ _, Fr.sub_add_right d2, x, k3, Fr.emp, Fr.disj_symm (Fr.emp_disj _), Fr.sub_refl _, Fr.emp_sub _, q, trivial⟩
theorem Sat.two_append {A B : SProp} {θ : List SProp} {m h1 h2 : Fr} (x : Sat [A, B] h1) (y : Sat θ h2) (d : h1.disj h2) (s1 : h1.sub m) (s2 : h2.sub m) : Sat (A :: B :: θ) m :=
  Sat.mono (Fr.add_sub s1 s2) (Sat.append (η := [A, B]) (ζ := θ) d x y)
theorem Sat.join2 {A B C : SProp} {θ : List SProp} (hs : ∀ m, Sat [A, B] m → C m) : ∀ {m : Fr}, Sat (A :: B :: θ) m → Sat (C :: θ) m := by
  rintro m ⟨h1, h2, d, s1, s2, x, k1, k2, kd, t1, t2, y, z⟩
  refine ⟨h1.add k1, k2, Fr.disj_add (Fr.disj_sub d (Fr.sub_refl _) t2) kd, Fr.add_sub s1 (Fr.sub_trans t1 s2), Fr.sub_trans t2 s2, hs _ ?_, z⟩
  have d2 : h1.disj k1 := Fr.disj_sub d (Fr.sub_refl _) t1
  exact ⟨h1, k1, d2, Fr.sub_add_left _ _, Fr.sub_add_right d2, x, k1, Fr.emp, Fr.disj_symm (Fr.emp_disj _), Fr.sub_refl _, Fr.emp_sub _, y, trivial⟩
theorem Sat.part2 {A B C : SProp} {θ : List SProp} (hs : ∀ m, C m → Sat [A, B] m) : ∀ {m : Fr}, Sat (C :: θ) m → Sat (A :: B :: θ) m := by
  rintro m ⟨h1, h2, d, s1, s2, x, y⟩
  exact Sat.two_append (hs _ x) y d s1 s2
section
variable {ro : Option Nat} {P : Program} {fn : Func} {n : Nat} {R : Ending → World → Prop} {k : List Item} {σ : List (Nat × Value)} {D : List Deferred} {g : Gr} {η ζ θ : List SProp} {ops : Array Oper} {L : List Nat} {β α : Type} {A : β → α → SProp} {todo : List Item}
theorem S.eachAt {bs : List β} {as : List α} (j : Nat) (hb : j < bs.length) (ha : j < as.length) (s : Sel η (EachP A bs as) ζ) (h : S ro P fn n R todo σ D g (A bs[j] as[j] :: EachP A (bs.eraseIdx j) (as.eraseIdx j) :: ζ)) : S ro P fn n R todo σ D g η :=
  S.sel s (S.imp' (η := EachP A bs as :: ζ) (fun _ => Sat.part2 fun _ x => EachP.at j hb ha x) h)
theorem S.eachPut {bs : List β} {as : List α} {a' : α} (j : Nat) (hb : j < bs.length) (ha : j < as.length) (s1 : Sel η (A bs[j] a') ζ) (s2 : Sel ζ (EachP A (bs.eraseIdx j) (as.eraseIdx j)) θ) (h : S ro P fn n R todo σ D g (EachP A bs (as.set j a') :: θ)) : S ro P fn n R todo σ D g η :=
  S.sel s1 (S.imp' (η := A bs[j] a' :: ζ) (fun _ x => Sat.join2 (fun _ y => EachP.put j hb ha y) (Sat.cons_imp (fun _ y => y) (fun _ y => Sat.perm s2.perm y) x)) h)
theorem S.eachPop {b : β} {a : α} {bs : List β} {as : List α} (s : Sel η (EachP A (b :: bs) (a :: as)) ζ) (h : S ro P fn n R todo σ D g (A b a :: EachP A bs as :: ζ)) : S ro P fn n R todo σ D g η :=
  S.sel s (S.imp' (η := EachP A (b :: bs) (a :: as) :: ζ) (fun _ => Sat.part2 fun _ x => x) h)
theorem S.conv {B C : SProp} (s : Sel η B ζ) (hc : ∀ m, B m → ∃ h : Fr, h.sub m ∧ C h) (h : S ro P fn n R todo σ D g (C :: ζ)) : S ro P fn n R todo σ D g η :=
  S.sel s (S.imp' (η := B :: ζ) (ζ := C :: ζ) (fun _ ⟨_, h2, d, s1, s2, x, y⟩ => let ⟨h3, u, z⟩ := hc _ x; ⟨h3, h2, Fr.disj_sub d u (Fr.sub_refl _), Fr.sub_trans u s1, s2, z, y⟩) h)
theorem O.conv {B C : SProp} (s : Sel η B ζ) (hc : ∀ m, B m → ∃ h : Fr, h.sub m ∧ C h) (h : O ro P fn n R ops L k σ D g (C :: ζ)) : O ro P fn n R ops L k σ D g η :=
  O.sel s (O.imp (η := B :: ζ) (η' := C :: ζ) (fun _ ⟨_, h2, d, s1, s2, x, y⟩ => let ⟨h3, u, z⟩ := hc _ x; ⟨h3, h2, Fr.disj_sub d u (Fr.sub_refl _), Fr.sub_trans u s1, s2, z, y⟩) h)
theorem S.twoStart {T : Rp α} {e : TypeId} {v : Value} {xs : List α} (s : Sel η (OwnP T e v xs) ζ) (h : S ro P fn n R todo σ D g (Two T e v xs v [] :: ζ)) : S ro P fn n R todo σ D g η := S.conv s (fun m x => ⟨m, Fr.sub_refl _, Two.start x⟩) h
theorem O.twoStart {T : Rp α} {e : TypeId} {v : Value} {xs : List α} (s : Sel η (OwnP T e v xs) ζ) (h : O ro P fn n R ops L k σ D g (Two T e v xs v [] :: ζ)) : O ro P fn n R ops L k σ D g η := O.conv s (fun m x => ⟨m, Fr.sub_refl _, Two.start x⟩) h
theorem S.twoOwn {T : Rp α} {e : TypeId} {v u : Value} {xs ys : List α} (s : Sel η (Two T e v xs u ys) ζ) (h : S ro P fn n R todo σ D g (OwnP T e v xs :: ζ)) : S ro P fn n R todo σ D g η := S.conv s (fun _ x => x.own) h
theorem O.twoOwn {T : Rp α} {e : TypeId} {v u : Value} {xs ys : List α} (s : Sel η (Two T e v xs u ys) ζ) (h : O ro P fn n R ops L k σ D g (OwnP T e v xs :: ζ)) : O ro P fn n R ops L k σ D g η := O.conv s (fun _ x => x.own) h
/-- what holds of a word, without the word -/
theorem S.factS {B : SProp} {p : Prop} (s : Sel η B ζ) (hs : ∀ m, B m → p) (h : p → S ro P fn n R todo σ D g η) : S ro P fn n R todo σ D g η :=
  fun a w hf hd hw => by
    obtain ⟨_, _, _, _, _, _, _, _, _, _, _, _, hB, _⟩ := hw.sel s
    exact h (hs _ hB) a w hf hd hw
theorem O.factS {B : SProp} {p : Prop} (s : Sel η B ζ) (hs : ∀ m, B m → p) (h : p → O ro P fn n R ops L k σ D g η) : O ro P fn n R ops L k σ D g η :=
  fun a w hf hd hw => by
    obtain ⟨_, _, _, _, _, _, _, _, _, _, _, _, hB, _⟩ := hw.sel s
    exact h (hs _ hB) a w hf hd hw
/-- ground for a while: it comes back by S.thaw -/
theorem S.freezeS {B : SProp} (s : Sel η B ζ) (h : ∀ m : Fr, B m → g.h.disj m → S ro P fn n R todo σ D (g.add m) ζ) : S ro P fn n R todo σ D g η := S.sel s (S.freeze h)
end
end Go.Sp
end
