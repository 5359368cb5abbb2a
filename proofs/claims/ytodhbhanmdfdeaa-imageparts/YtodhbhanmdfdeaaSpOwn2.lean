import Derived.Test.YtodhbhanmdfdeaaSpOwn
namespace Go.Sp
section
variable {ro : Option Nat} {P : Program} {σ σ' : List (Nat × Value)} {g : Gr} {η η' ζ θ : List SProp} {t e : TypeId} {x y : Operand}

/-- a piece of nothing -/
theorem Does.sliceNil {k : Nat} {kh : IntKind} {m : Nat} (ht : P.underlying t = some (.slice e)) (he : (P.info? e).map (·.size) = some k) (hx : ev σ x = some (.slice none 0 0)) (hy : ev σ y = some (.int kh (m : Int))) (hm : m = 0) :
    Does P (.slice t x none (some y) none) σ g η (.slice none 0 0) η := by
  subst hm
  exact .run fun o ρ w ho hk => by simp [execOp, ho, hk x _ hx, hk y _ hy, Instr.sliceAt, run_underlying ht, Instr.slice, Instr.sliceBounds, Instr.sliceBound, asIntOf, run_sizeOf he]
/-- append of zeros onto nothing -/
theorem DoesE.appendZ0 {α : Type} {T : Rp α} {by_ : Nat} {z : List Value} {a : α} {m : Nat} {t2 : TypeId} {ki kj : IntKind} (ht : P.underlying t = some (.slice e)) (ht2 : P.underlying t2 = some (.int ki)) (he : elemIs P e T.k by_ z) (hk : 0 < T.k) (hz : T.rel Fr.emp z a)
    (hx : ev σ x = some (.slice none 0 0)) {zi : Int} (hy : ev σ y = some (.int kj zi)) (hzi : zi = (m : Int)) (hb : m * by_ ≤ 140737488355328) (h63 : m ≤ 9223372036854775807) (h0 : 0 < m) :
    DoesE P (.call ⟨.builtin .append, #[x, y], #[t, t2]⟩) σ g η fun v' η' => ∃ a' c, v' = .slice a' m c ∧ η' = OwnP T e v' (List.replicate m a) :: η := by
  subst hzi
  intro o ρ w ho hkn hw
  obtain ⟨i, zv, hi, hzz, hsz, hby, hzc, hzl⟩ := he
  subst hby hzc
  have hzs : zv.cells.size = T.k := by simpa using hzl
  have wl : IntKind.i64.wrap (m : Int) = m := by rw [IntKind.wrap_i64]; omega
  have n1 : ¬ ((m : Int) < 0) := by omega
  have n2 : ¬ (281474976710656 < (m : Int) * (i.bytes : Int)) := by
    have : ((m * i.bytes : Nat) : Int) ≤ 140737488355328 := by omega
    rw [Int.natCast_mul] at this; omega
  have n3 : m ≠ 0 := by omega
  have n4 : ¬ (9223372036854775807 < (m : Int)) := by omega
  have n5 : ¬ (281474976710656 < Builtin.nextslicecap m 0 * i.bytes) := by rw [nextslicecap_zero h0]; omega
  have n6 : m * i.size ≠ 0 := by rw [hsz]; exact Nat.ne_of_gt (Nat.mul_pos h0 hk)
  have hge := grownCap_ge w m 0 e
  have hcm := grownCap_le_maxLen w m 0 e (by simpa [maxLen] using h63)
  have hrun : (Builtin.append_ #[t, t2] o.type #[.slice none 0 0, .int kj (m : Int)]).run P w = .ok (.slice (some ⟨w.heap.size, 0, none⟩) m (grownCap w m 0 e)) (w.drew.alloc (.cells (Builtin.zeroCells zv.cells m ++ Builtin.zeroCells zv.cells (grownCap w m 0 e - m)) e)) := by
    simp [Builtin.append_, run_underlying ht, run_underlying ht2, sizeOf, typeInfo, zeroValue, hi, hzz, asInt, asIntOf, wl, n1, n2, n3, n4, n5, n6, Question.forced, Builtin.firstCells, newRow, grownCap]
  obtain ⟨css, q1, q2⟩ := reps_flat hz m
  have hzr : ∀ q, (Builtin.zeroCells zv.cells q).toList = reps zv.cells.toList q := fun q => by
    have := madeCells_reps zv.cells q (by omega)
    rw [← this]; rfl
  refine ⟨_, _, _, ⟨_, _, rfl, rfl⟩, run_append_args ho (by rw [hkn x _ hx, hkn y _ hy]; exact hrun), ?_⟩
  refine (((hw.drewN _ (Nat.le_add_right _ _)).alloc _).own (k := T.k) (m := m) (cap := grownCap w m 0 e) (cs := css.flatten) hge (by simpa [maxLen] using hcm) ?_ ?_).imp fun _ => Sat.cons_imp (OwnP.of q1 (by simp) rfl rfl) fun _ q => q
  · simp only [Array.size_append, size_zeroCells, hzs, ← Nat.add_mul]
    congr 1; omega
  · rw [Array.toList_append, hzr, q2, List.take_append]
    rw [List.take_of_length_le (by rw [length_reps]; simp [hzs]), length_reps]
    simp [hzs]
/-- a beginning of a slice of one's own -/
theorem DoesE.cutOwn {α : Type} {T : Rp α} {v : Value} {xs : List α} {m : Nat} {kh : IntKind} {zi : Int} (ht : P.underlying t = some (.slice e)) (he : (P.info? e).map (·.size) = some T.k) (hx : ev σ x = some v) (hy : ev σ y = some (.int kh zi)) (hzi : zi = (m : Int))
    (hs : Sel η (OwnP T e v xs) ζ) (hm : m ≤ xs.length) : DoesE P (.slice t x none (some y) none) σ g η fun v' η' => ∃ a c, v' = .slice a m c ∧ η' = OwnP T e v' (xs.take m) :: ζ := by
  subst hzi
  intro o ρ w ho hk hw
  obtain ⟨p1, p2, p3, K, hdd, s1, s2, k1, k2, kd, t1, t2, ⟨css, ha, hl, hA⟩, hr⟩ := hw.sel hs
  have hml : m * T.k ≤ xs.length * T.k := Nat.mul_le_mul_right _ hm
  have hmin : min m xs.length = m := Nat.min_eq_left hm
  rcases hA with ⟨rfl, h0⟩ | ⟨b, cap, cur, rfl, hb, h1, h2, h3, h4⟩
  · have hm0 : m = 0 := by omega
    subst hm0
    refine ⟨.slice none 0 0, w, _, ⟨none, 0, rfl, rfl⟩, ?_, p1, p2, p3, K, hdd, s1, s2, k1, k2, kd, t1, t2, ⟨[], trivial, by simp, .inl ⟨rfl, by simp⟩⟩, hr⟩
    simp [execOp, ho, hk x _ hx, hk y _ hy, Instr.sliceAt, run_underlying ht, Instr.slice, Instr.sliceBounds, Instr.sliceBound, asIntOf, run_sizeOf he]
  · have hmc : m ≤ cap := by omega
    refine ⟨.slice (some ⟨b, 0, none⟩) m cap, w, _, ⟨_, _, rfl, rfl⟩, ?_, p1, p2, p3, K, hdd, s1, s2, k1, k2, kd, t1, t2, ⟨css.take m, ha.take m, ?_, .inr ⟨b, cap, cur, ?_, hb, ?_, h2, h3, ?_⟩⟩, hr⟩
    · have e1 : (⟨b, 0, none⟩ : Addr).add 0 = ⟨b, 0, none⟩ := rfl
      simp [execOp, ho, hk x _ hx, hk y _ hy, Instr.sliceAt, run_underlying ht, Instr.slice, Instr.sliceBounds, Instr.sliceBound, asIntOf, run_sizeOf he, hmc, e1]
    · rw [← ha.flat_take, List.length_take, hl, List.length_take, hmin]; exact Nat.min_eq_left hml
    · rw [List.length_take, hmin]
    · rw [List.length_take, hmin]; exact hmc
    · rw [List.length_take, hmin, ← ha.flat_take, ← h4, List.take_take, Nat.min_eq_left hml]
end
theorem Sat.tail' {A : SProp} {η : List SProp} {m : Fr} : Sat (A :: η) m → Sat η m := fun ⟨_, _, _, _, s, _, y⟩ => Sat.mono s y
theorem obj_at {b : Nat} {T : TypeId} {cs : List Value} {m : Fr} (h : obj b T cs m) : At m ⟨b, 0, none⟩ cs := fun j hj => by
  rw [add_lit]
  have : m b = some (.cells cs.toArray T (0, 0)) := h
  simp [Fr.cell, this, hj]
theorem obj_atR {b : Nat} {T : TypeId} {cs : List Value} {h m : Fr} (x : obj b T cs m) (hd : h.disj m) : At (h.add m) ⟨b, 0, none⟩ cs := (obj_at x).mono (Fr.sub_add_right hd)
theorem At.left {h m : Fr} {p : Addr} {cs : List Value} (x : At h p cs) : At (h.add m) p cs := x.mono (Fr.sub_add_left _ _)
/-- what is frozen is let go -/
theorem Holds.melt {w : World} {g : Gr} {η : List SProp} {k : Fr} (h : Holds w (g.add k) η) (hd : g.h.disj k) : Holds w g η := (h.thaw (A := fun _ => True) trivial hd).drop
/-- some of the words, in the order asked -/
inductive Picks : List SProp → List SProp → Prop
  | all {η : List SProp} : Picks η η
  | nil {η : List SProp} : Picks η []
  | cons {η ζ bs : List SProp} {A : SProp} (h : Sel η A ζ) (h2 : Picks ζ bs) : Picks η (A :: bs)
  | skip {η bs : List SProp} {A : SProp} (h : Picks η bs) : Picks (A :: η) bs
theorem Sat.picks {η bs : List SProp} (p : Picks η bs) : ∀ {h : Fr}, Sat η h → Sat bs h := by
  induction p with
  | all => exact fun x => x
  | nil => exact fun _ => trivial
  | cons s p ih => exact fun x => Sat.cons_imp (fun _ y => y) (fun _ => ih) (Sat.perm s.perm x)
  | skip p ih => exact fun x => ih x.tail'
theorem Holds.picks {w : World} {g : Gr} {η bs : List SProp} (h : Holds w g η) (p : Picks η bs) : Holds w g bs := h.imp fun _ => Sat.picks p
theorem Holds.end_ {w : World} {g : Gr} {η : List SProp} {Post : Ending → List SProp → Prop} {R : Ending → World → Prop} {e : Ending} (hR : ∀ e η' w', Post e η' → Holds w' g η' → R e w') (hw : Holds w g η) (h : ∃ η', Post e η' ∧ Picks η η') : R e w :=
  let ⟨_, p, q⟩ := h; hR _ _ w p (hw.picks q)
theorem Holds.fst {w : World} {g : Gr} {A : SProp} {η : List SProp} (h : Holds w g (A :: η)) : Holds w g [A] := h.imp fun _ => Sat.cons_imp (fun _ x => x) fun _ _ => trivial
theorem Holds.fst2 {w : World} {g : Gr} {A B : SProp} {η : List SProp} (h : Holds w g (A :: B :: η)) : Holds w g [A, B] := h.imp fun _ => Sat.cons_imp (fun _ x => x) fun _ => Sat.cons_imp (fun _ x => x) fun _ _ => trivial
theorem Sat.arr {α : Type} {T : Rp α} {e : TypeId} {v : Value} {xs : List α} {η : List SProp} {m : Fr} : Sat (OwnP T e v xs :: η) m → Arr T m v xs
  | ⟨_, _, _, s, _, x, _⟩ => (OwnP.arr x).mono s
theorem Sat.tail {A : SProp} {η : List SProp} {m : Fr} : Sat (A :: η) m → Sat η m
  | ⟨_, _, _, _, s, _, y⟩ => y.mono s
theorem Arr.left {α : Type} {T : Rp α} {v : Value} {xs : List α} {h m : Fr} (x : Arr T h v xs) : Arr T (h.add m) v xs := x.mono (Fr.sub_add_left _ _)
theorem Arr.right {α : Type} {T : Rp α} {v : Value} {xs : List α} {h m : Fr} (x : Arr T m v xs) (hd : h.disj m) : Arr T (h.add m) v xs := x.mono (Fr.sub_add_right hd)

/-! what is owned becomes ground; what is ground is let go at the end -/
theorem melted {g g' : Gr} {Post : Ending → List SProp → Prop} {R : Ending → World → Prop} (hR : ∀ e η' w', Post e η' → Holds w' g η' → R e w') (hm : ∀ w ζ, Holds w g' ζ → Holds w g ζ) :
    ∀ e η' w', Post e η' → Holds w' g' η' → R e w' := fun e η' w' p h => hR e η' w' p (hm w' η' h)
theorem meltTrans {g g' g'' : Gr} (h1 : ∀ w ζ, Holds w g' ζ → Holds w g ζ) (h2 : ∀ w ζ, Holds w g'' ζ → Holds w g' ζ) : ∀ w ζ, Holds w g'' ζ → Holds w g ζ := fun w ζ h => h1 w ζ (h2 w ζ h)
theorem meltRefl {g : Gr} : ∀ w ζ, Holds w g ζ → Holds w g ζ := fun _ _ h => h
section
variable {ro : Option Nat} {P : Program} {fn : Func} {n : Nat} {R : Ending → World → Prop} {k : List Item} {σ : List (Nat × Value)} {D : List Deferred} {g : Gr} {η ζ : List SProp} {ops : Array Oper} {L : List Nat}
theorem S.melt {g' : Gr} {todo : List Item} (hm : ∀ w ζ, Holds w g' ζ → Holds w g ζ) (h : S ro P fn n R todo σ D g η) : S ro P fn n R todo σ D g' η := fun a w hf hd hw => h a w hf hd (hm _ _ hw)
theorem S.pk {todo : List Item} (p : Picks η ζ) (h : S ro P fn n R todo σ D g ζ) : S ro P fn n R todo σ D g η := fun a w hf hd hw => h a w hf hd (hw.picks p)
theorem S.frz {todo : List Item} {A : SProp} (s : Sel η A ζ) (h : ∀ g' : Gr, g.h.sub g'.h → (∀ w ζ, Holds w g' ζ → Holds w g ζ) → (∃ m : Fr, A m ∧ m.sub g'.h) → S ro P fn n R todo σ D g' ζ) : S ro P fn n R todo σ D g η :=
  S.sel s (S.freeze fun m hm hd => h (g.add m) (Fr.sub_add_left _ _) (fun _ _ x => x.melt hd) ⟨m, hm, Fr.sub_add_right hd⟩)
theorem O.frz {A : SProp} (s : Sel η A ζ) (h : ∀ g' : Gr, g.h.sub g'.h → (∀ w ζ, Holds w g' ζ → Holds w g ζ) → (∃ m : Fr, A m ∧ m.sub g'.h) → O ro P fn n R ops L k σ D g' ζ) : O ro P fn n R ops L k σ D g η :=
  O.sel s (O.freeze fun m hm hd => h (g.add m) (Fr.sub_add_left _ _) (fun _ _ x => x.melt hd) ⟨m, hm, Fr.sub_add_right hd⟩)
theorem S.frzA {todo : List Item} {α : Type} {T : Rp α} {e : TypeId} {v : Value} {xs : List α} (s : Sel η (OwnP T e v xs) ζ) (h : ∀ g' : Gr, g.h.sub g'.h → (∀ w ζ, Holds w g' ζ → Holds w g ζ) → Arr T g'.h v xs → S ro P fn n R todo σ D g' ζ) : S ro P fn n R todo σ D g η :=
  S.frz s fun g' h1 h2 ⟨_, h3, h4⟩ => h g' h1 h2 (h3.arr.mono h4)
theorem O.frzA {α : Type} {T : Rp α} {e : TypeId} {v : Value} {xs : List α} (s : Sel η (OwnP T e v xs) ζ) (h : ∀ g' : Gr, g.h.sub g'.h → (∀ w ζ, Holds w g' ζ → Holds w g ζ) → Arr T g'.h v xs → O ro P fn n R ops L k σ D g' ζ) : O ro P fn n R ops L k σ D g η :=
  O.frz s fun g' h1 h2 ⟨_, h3, h4⟩ => h g' h1 h2 (h3.arr.mono h4)
theorem O.frzW {α : Type} {T : Rp α} {v : Value} {xs : List α} (s : Sel η (fun m => Arr T m v xs) ζ) (h : ∀ g' : Gr, g.h.sub g'.h → (∀ w ζ, Holds w g' ζ → Holds w g ζ) → Arr T g'.h v xs → O ro P fn n R ops L k σ D g' ζ) : O ro P fn n R ops L k σ D g η :=
  O.frz s fun g' h1 h2 ⟨_, h3, h4⟩ => h g' h1 h2 (h3.mono h4)
theorem S.frzO {todo : List Item} {b : Nat} {T : TypeId} {cs : List Value} (s : Sel η (obj b T cs) ζ) (h : ∀ g' : Gr, g.h.sub g'.h → (∀ w ζ, Holds w g' ζ → Holds w g ζ) → At g'.h ⟨b, 0, none⟩ cs → S ro P fn n R todo σ D g' ζ) : S ro P fn n R todo σ D g η :=
  S.frz s fun g' h1 h2 ⟨_, h3, h4⟩ => h g' h1 h2 ((obj_at h3).mono h4)
theorem O.frzO {b : Nat} {T : TypeId} {cs : List Value} (s : Sel η (obj b T cs) ζ) (h : ∀ g' : Gr, g.h.sub g'.h → (∀ w ζ, Holds w g' ζ → Holds w g ζ) → At g'.h ⟨b, 0, none⟩ cs → O ro P fn n R ops L k σ D g' ζ) : O ro P fn n R ops L k σ D g η :=
  O.frz s fun g' h1 h2 ⟨_, h3, h4⟩ => h g' h1 h2 ((obj_at h3).mono h4)
end
end Go.Sp
