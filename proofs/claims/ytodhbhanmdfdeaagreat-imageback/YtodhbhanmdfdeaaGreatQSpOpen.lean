/- Texts of this proof, one behind the other. -/
import Derived.Test.YtodhbhanmdfdeaaGreatQSpOwn
import Derived.ChangeArms
import Derived.DataReads
import GoSem.ClaimJoined
section
/- Texts of this proof. -/
namespace Go.Sp
section
variable {ro : Option Nat} {P : Program} {σ σ' : List (Nat × Value)} {g : Gr} {η η' ζ θ : List SProp} {t e : TypeId} {x y : Operand}
theorem Does.sliceNil {k : Nat} {kh : IntKind} {m : Nat} (ht : P.underlying t = some (.slice e)) (he : (P.info? e).map (·.size) = some k) (hx : ev σ x = some (.slice none 0 0)) (hy : ev σ y = some (.int kh (m : Int))) (hm : m = 0) :
  Does P (.slice t x none (some y) none) σ g η (.slice none 0 0) η := by
 subst hm
 exact .run fun o ρ w ho hk => by simp [execOp, ho, hk x _ hx, hk y _ hy, Instr.sliceAt, run_underlying ht, Instr.slice, Instr.sliceBounds, Instr.sliceBound, asIntOf, run_sizeOf he]
theorem DoesE.appendZ0 {α : Type} {T : Rp α} {by_ : Nat} {z : List Value} {a : α} {m : Nat} {t2 : TypeId} {ki kj : IntKind} (ht : P.underlying t = some (.slice e)) (ht2 : P.underlying t2 = some (.int ki)) (he : elemIs P e T.k by_ z) (hk : 0 < T.k) (hz : T.rel Fr.emp z a)
  (hx : ev σ x = some (.slice none 0 0)) {zi : Int} (hy : ev σ y = some (.int kj zi)) (hzi : zi = (m : Int)) (hb : m * by_ ≤ 140737488355328) (h63 : m ≤ 9223372036854775807) (h0 : 0 < m) :
  DoesE P (.call ⟨.builtin .append, #[x, y], #[t, t2]⟩) σ g η fun v' η' => ∃ a' c, v' = .slice a' m c ∧ η' = OwnP T e v' (List.replicate m a) :: η := by
 subst hzi
 intro o ρ w ho hkn hw
 obtain ⟨i, zv, hi, hzz, hsz, hby, hzc, hzl⟩ := he
 subst hby hzc
 have hzs : zv.cells.size = T.k := by simpa using hzl
 have wl : IntKind.i64.wrap (m : Int) = m := by rw [IntKind.wrap_i64]; omega
 have n1 : ¬ ((m : Int) < 0) := by omega
 have n2 : ¬ (281474976710656 < (m : Int) * (i.bytes : Int)) := by
  have : ((m * i.bytes : Nat) : Int) ≤ 140737488355328 := by omega
  rw [Int.natCast_mul] at this; omega
 have n3 : m ≠ 0 := by omega
 have n4 : ¬ (9223372036854775807 < (m : Int)) := by omega
 have n5 : ¬ (281474976710656 < Builtin.nextslicecap m 0 * i.bytes) := by rw [nextslicecap_zero h0]; omega
 have n6 : m * i.size ≠ 0 := by rw [hsz]; exact Nat.ne_of_gt (Nat.mul_pos h0 hk)
 have hge := grownCap_ge w m 0 e
 have hcm := grownCap_le_maxLen w m 0 e (by simpa [maxLen] using h63)
 have hrun : (Builtin.append_ #[t, t2] o.type #[.slice none 0 0, .int kj (m : Int)]).run P w = .ok (.slice (some ⟨w.heap.size, 0, none⟩) m (grownCap w m 0 e)) (w.drew.alloc (.cells (Builtin.zeroCells zv.cells m ++ Builtin.zeroCells zv.cells (grownCap w m 0 e - m)) e)) := by
  simp [Builtin.append_, run_underlying ht, run_underlying ht2, sizeOf, typeInfo, zeroValue, hi, hzz, asInt, asIntOf, wl, n1, n2, n3, n4, n5, n6, Question.forced, Builtin.firstCells, newRow, grownCap]
 obtain ⟨css, q1, q2⟩ := reps_flat hz m
 have hzr : ∀ q, (Builtin.zeroCells zv.cells q).toList = reps zv.cells.toList q := fun q => by
  have := madeCells_reps zv.cells q (by omega)
  rw [← this]; rfl
 refine ⟨_, _, _, ⟨_, _, rfl, rfl⟩, run_append_args ho (by rw [hkn x _ hx, hkn y _ hy]; exact hrun), ?_⟩
 refine (((hw.drewN _ (Nat.le_add_right _ _)).alloc _).own (k := T.k) (m := m) (cap := grownCap w m 0 e) (cs := css.flatten) hge (by simpa [maxLen] using hcm) ?_ ?_).imp fun _ => Sat.cons_imp (OwnP.of q1 (by simp) rfl rfl) fun _ q => q
 ·simp only [Array.size_append, size_zeroCells, hzs, ← Nat.add_mul]
  congr 1; omega
 ·rw [Array.toList_append, hzr, q2, List.take_append]
  rw [List.take_of_length_le (by rw [length_reps]; simp [hzs]), length_reps]
  simp [hzs]
theorem DoesE.cutOwn {α : Type} {T : Rp α} {v : Value} {xs : List α} {m : Nat} {kh : IntKind} {zi : Int} (ht : P.underlying t = some (.slice e)) (he : (P.info? e).map (·.size) = some T.k) (hx : ev σ x = some v) (hy : ev σ y = some (.int kh zi)) (hzi : zi = (m : Int))
  (hs : Sel η (OwnP T e v xs) ζ) (hm : m ≤ xs.length) : DoesE P (.slice t x none (some y) none) σ g η fun v' η' => ∃ a c, v' = .slice a m c ∧ η' = OwnP T e v' (xs.take m) :: ζ := by
 subst hzi
 intro o ρ w ho hk hw
 obtain ⟨p1, p2, p3, K, hdd, s1, s2, k1, k2, kd, t1, t2, ⟨css, ha, hl, hA⟩, hr⟩ := hw.sel hs
 have hml : m * T.k ≤ xs.length * T.k := Nat.mul_le_mul_right _ hm
 have hmin : min m xs.length = m := Nat.min_eq_left hm
 rcases hA with ⟨rfl, h0⟩ | ⟨b, cap, cur, rfl, hb, h1, h2, h3, h4⟩
 ·have hm0 : m = 0 := by omega
  subst hm0
  refine ⟨.slice none 0 0, w, _, ⟨none, 0, rfl, rfl⟩, ?_, p1, p2, p3, K, hdd, s1, s2, k1, k2, kd, t1, t2, ⟨[], trivial, by simp, .inl ⟨rfl, by simp⟩⟩, hr⟩
  simp [execOp, ho, hk x _ hx, hk y _ hy, Instr.sliceAt, run_underlying ht, Instr.slice, Instr.sliceBounds, Instr.sliceBound, asIntOf, run_sizeOf he]
 ·have hmc : m ≤ cap := by omega
  refine ⟨.slice (some ⟨b, 0, none⟩) m cap, w, _, ⟨_, _, rfl, rfl⟩, ?_, p1, p2, p3, K, hdd, s1, s2, k1, k2, kd, t1, t2, ⟨css.take m, ha.take m, ?_, .inr ⟨b, cap, cur, ?_, hb, ?_, h2, h3, ?_⟩⟩, hr⟩
  ·have e1 : (⟨b, 0, none⟩ : Addr).add 0 = ⟨b, 0, none⟩ := rfl
   simp [execOp, ho, hk x _ hx, hk y _ hy, Instr.sliceAt, run_underlying ht, Instr.slice, Instr.sliceBounds, Instr.sliceBound, asIntOf, run_sizeOf he, hmc, e1]
  ·rw [← ha.flat_take, List.length_take, hl, List.length_take, hmin]; exact Nat.min_eq_left hml
  ·rw [List.length_take, hmin]
  ·rw [List.length_take, hmin]; exact hmc
  ·rw [List.length_take, hmin, ← ha.flat_take, ← h4, List.take_take, Nat.min_eq_left hml]
end
theorem Sat.tail' {A : SProp} {η : List SProp} {m : Fr} : Sat (A :: η) m → Sat η m := fun ⟨_, _, _, _, s, _, y⟩ => Sat.mono s y
theorem obj_at {b : Nat} {T : TypeId} {cs : List Value} {m : Fr} (h : obj b T cs m) : At m ⟨b, 0, none⟩ cs := fun j hj => by
 rw [add_lit]
 have : m b = some (.cells cs.toArray T (0, 0)) := h
 simp [Fr.cell, this, hj]
theorem obj_atR {b : Nat} {T : TypeId} {cs : List Value} {h m : Fr} (x : obj b T cs m) (hd : h.disj m) : At (h.add m) ⟨b, 0, none⟩ cs := (obj_at x).mono (Fr.sub_add_right hd)
theorem At.left {h m : Fr} {p : Addr} {cs : List Value} (x : At h p cs) : At (h.add m) p cs := x.mono (Fr.sub_add_left _ _)
theorem Holds.melt {w : World} {g : Gr} {η : List SProp} {k : Fr} (h : Holds w (g.add k) η) (hd : g.h.disj k) : Holds w g η := (h.thaw (A := fun _ => True) trivial hd).drop
inductive Picks : List SProp → List SProp → Prop
 | all {η : List SProp} : Picks η η
 | nil {η : List SProp} : Picks η []
 | cons {η ζ bs : List SProp} {A : SProp} (h : Sel η A ζ) (h2 : Picks ζ bs) : Picks η (A :: bs)
 | skip {η bs : List SProp} {A : SProp} (h : Picks η bs) : Picks (A :: η) bs
theorem Sat.picks {η bs : List SProp} (p : Picks η bs) : ∀ {h : Fr}, Sat η h → Sat bs h := by
 induction p with
 | all => exact fun x => x
 | nil => exact fun _ => trivial
 | cons s p ih => exact fun x => Sat.cons_imp (fun _ y => y) (fun _ => ih) (Sat.perm s.perm x)
 | skip p ih => exact fun x => ih x.tail'
theorem Holds.picks {w : World} {g : Gr} {η bs : List SProp} (h : Holds w g η) (p : Picks η bs) : Holds w g bs := h.imp fun _ => Sat.picks p
theorem Holds.end_ {w : World} {g : Gr} {η : List SProp} {Post : Ending → List SProp → Prop} {R : Ending → World → Prop} {e : Ending} (hR : ∀ e η' w', Post e η' → Holds w' g η' → R e w') (hw : Holds w g η) (h : ∃ η', Post e η' ∧ Picks η η') : R e w :=
 let ⟨_, p, q⟩ := h; hR _ _ w p (hw.picks q)
theorem Holds.fst {w : World} {g : Gr} {A : SProp} {η : List SProp} (h : Holds w g (A :: η)) : Holds w g [A] := h.imp fun _ => Sat.cons_imp (fun _ x => x) fun _ _ => trivial
theorem Holds.fst2 {w : World} {g : Gr} {A B : SProp} {η : List SProp} (h : Holds w g (A :: B :: η)) : Holds w g [A, B] := h.imp fun _ => Sat.cons_imp (fun _ x => x) fun _ => Sat.cons_imp (fun _ x => x) fun _ _ => trivial
theorem Sat.arr {α : Type} {T : Rp α} {e : TypeId} {v : Value} {xs : List α} {η : List SProp} {m : Fr} : Sat (OwnP T e v xs :: η) m → Arr T m v xs
 | ⟨_, _, _, s, _, x, _⟩ => (OwnP.arr x).mono s
theorem Sat.tail {A : SProp} {η : List SProp} {m : Fr} : Sat (A :: η) m → Sat η m
 | ⟨_, _, _, _, s, _, y⟩ => y.mono s
theorem Arr.left {α : Type} {T : Rp α} {v : Value} {xs : List α} {h m : Fr} (x : Arr T h v xs) : Arr T (h.add m) v xs := x.mono (Fr.sub_add_left _ _)
theorem Arr.right {α : Type} {T : Rp α} {v : Value} {xs : List α} {h m : Fr} (x : Arr T m v xs) (hd : h.disj m) : Arr T (h.add m) v xs := x.mono (Fr.sub_add_right hd)
theorem melted {g g' : Gr} {Post : Ending → List SProp → Prop} {R : Ending → World → Prop} (hR : ∀ e η' w', Post e η' → Holds w' g η' → R e w') (hm : ∀ w ζ, Holds w g' ζ → Holds w g ζ) :
  ∀ e η' w', Post e η' → Holds w' g' η' → R e w' := fun e η' w' p h => hR e η' w' p (hm w' η' h)
theorem meltTrans {g g' g'' : Gr} (h1 : ∀ w ζ, Holds w g' ζ → Holds w g ζ) (h2 : ∀ w ζ, Holds w g'' ζ → Holds w g' ζ) : ∀ w ζ, Holds w g'' ζ → Holds w g ζ := fun w ζ h => h1 w ζ (h2 w ζ h)
theorem meltRefl {g : Gr} : ∀ w ζ, Holds w g ζ → Holds w g ζ := fun _ _ h => h
section
variable {ro : Option Nat} {P : Program} {fn : Func} {n : Nat} {R : Ending → World → Prop} {k : List Item} {σ : List (Nat × Value)} {D : List Deferred} {g : Gr} {η ζ : List SProp} {ops : Array Oper} {L : List Nat}
theorem S.melt {g' : Gr} {todo : List Item} (hm : ∀ w ζ, Holds w g' ζ → Holds w g ζ) (h : S ro P fn n R todo σ D g η) : S ro P fn n R todo σ D g' η := fun a w hf hd hw => h a w hf hd (hm _ _ hw)
theorem S.pk {todo : List Item} (p : Picks η ζ) (h : S ro P fn n R todo σ D g ζ) : S ro P fn n R todo σ D g η := fun a w hf hd hw => h a w hf hd (hw.picks p)
theorem S.frz {todo : List Item} {A : SProp} (s : Sel η A ζ) (h : ∀ g' : Gr, g.h.sub g'.h → (∀ w ζ, Holds w g' ζ → Holds w g ζ) → (∃ m : Fr, A m ∧ m.sub g'.h) → S ro P fn n R todo σ D g' ζ) : S ro P fn n R todo σ D g η :=
 S.sel s (S.freeze fun m hm hd => h (g.add m) (Fr.sub_add_left _ _) (fun _ _ x => x.melt hd) ⟨m, hm, Fr.sub_add_right hd⟩)
theorem O.frz {A : SProp} (s : Sel η A ζ) (h : ∀ g' : Gr, g.h.sub g'.h → (∀ w ζ, Holds w g' ζ → Holds w g ζ) → (∃ m : Fr, A m ∧ m.sub g'.h) → O ro P fn n R ops L k σ D g' ζ) : O ro P fn n R ops L k σ D g η :=
 O.sel s (O.freeze fun m hm hd => h (g.add m) (Fr.sub_add_left _ _) (fun _ _ x => x.melt hd) ⟨m, hm, Fr.sub_add_right hd⟩)
theorem S.frzA {todo : List Item} {α : Type} {T : Rp α} {e : TypeId} {v : Value} {xs : List α} (s : Sel η (OwnP T e v xs) ζ) (h : ∀ g' : Gr, g.h.sub g'.h → (∀ w ζ, Holds w g' ζ → Holds w g ζ) → Arr T g'.h v xs → S ro P fn n R todo σ D g' ζ) : S ro P fn n R todo σ D g η :=
 S.frz s fun g' h1 h2 ⟨_, h3, h4⟩ => h g' h1 h2 (h3.arr.mono h4)
theorem O.frzA {α : Type} {T : Rp α} {e : TypeId} {v : Value} {xs : List α} (s : Sel η (OwnP T e v xs) ζ) (h : ∀ g' : Gr, g.h.sub g'.h → (∀ w ζ, Holds w g' ζ → Holds w g ζ) → Arr T g'.h v xs → O ro P fn n R ops L k σ D g' ζ) : O ro P fn n R ops L k σ D g η :=
 O.frz s fun g' h1 h2 ⟨_, h3, h4⟩ => h g' h1 h2 (h3.arr.mono h4)
theorem O.frzW {α : Type} {T : Rp α} {v : Value} {xs : List α} (s : Sel η (fun m => Arr T m v xs) ζ) (h : ∀ g' : Gr, g.h.sub g'.h → (∀ w ζ, Holds w g' ζ → Holds w g ζ) → Arr T g'.h v xs → O ro P fn n R ops L k σ D g' ζ) : O ro P fn n R ops L k σ D g η :=
 O.frz s fun g' h1 h2 ⟨_, h3, h4⟩ => h g' h1 h2 (h3.mono h4)
theorem S.frzO {todo : List Item} {b : Nat} {T : TypeId} {cs : List Value} (s : Sel η (obj b T cs) ζ) (h : ∀ g' : Gr, g.h.sub g'.h → (∀ w ζ, Holds w g' ζ → Holds w g ζ) → At g'.h ⟨b, 0, none⟩ cs → S ro P fn n R todo σ D g' ζ) : S ro P fn n R todo σ D g η :=
 S.frz s fun g' h1 h2 ⟨_, h3, h4⟩ => h g' h1 h2 ((obj_at h3).mono h4)
theorem O.frzO {b : Nat} {T : TypeId} {cs : List Value} (s : Sel η (obj b T cs) ζ) (h : ∀ g' : Gr, g.h.sub g'.h → (∀ w ζ, Holds w g' ζ → Holds w g ζ) → At g'.h ⟨b, 0, none⟩ cs → O ro P fn n R ops L k σ D g' ζ) : O ro P fn n R ops L k σ D g η :=
 O.frz s fun g' h1 h2 ⟨_, h3, h4⟩ => h g' h1 h2 ((obj_at h3).mono h4)
end
theorem zpa {η : List SProp} : Picks η η := .all
theorem zpn {η : List SProp} : Picks η [] := .nil
theorem zpc {η ζ θ : List SProp} {A : SProp} (h : Sel η A ζ) (k : Picks ζ θ) : Picks η (A :: θ) := .cons h k
theorem zps {A : SProp} {η θ : List SProp} (k : Picks η θ) : Picks (A :: η) θ := .skip k
end Go.Sp
end
section
/- Texts of this proof. -/
namespace Go.Sp
open Go.ChangeShapes
theorem fr_cell (w : World) (a : Addr) : Fr.cell w.fr a = w.cell? a := by
 unfold Fr.cell World.cell? World.fr
 cases w.heap[a.block]? with
 | none => rfl
 | some o => cases o <;> rfl
def Rp.unit : Rp Unit := { k := 0, rel := fun _ cs _ => cs = [], len := fun h => by rw [h]; rfl, mono := fun _ h => h, one := fun h c hc => by subst h; simp at hc }
def Rp.prod {α β : Type} (T : Rp α) (U : Rp β) : Rp (α × β) :=
 {k := T.k + U.k, rel := fun h cs x => ∃ c1 c2, cs = c1 ++ c2 ∧ T.rel h c1 x.1 ∧ U.rel h c2 x.2, len := fun ⟨c1, c2, h, a, b⟩ => by rw [h, List.length_append, T.len a, U.len b]
  mono := fun s ⟨c1, c2, h, a, b⟩ => ⟨c1, c2, h, T.mono s a, U.mono s b⟩
  one := fun ⟨c1, c2, h, a, b⟩ c hc => by
   subst h
   rcases List.mem_append.1 hc with x | x
   ·exact T.one a c x
   ·exact U.one b c x }
def light {H : Type} (P : Program) (t : TypeId) (d : DataW H) : Prop := ∀ n ∈ d.weights P t, n ≤ reachBytes
theorem light_all {H : Type} {P : Program} {e : TypeId} : ∀ {ds : List (DataW H)} (_ : ∀ n ∈ DataW.weightsAll P e ds, n ≤ reachBytes) (i : Nat) (hi : i < ds.length), light P e ds[i]
 | d :: ds, h, 0, _ => fun n hn => h n (by simp [DataW.weightsAll]; exact .inl hn)
 | d :: ds, h, i + 1, hi => light_all (ds := ds) (fun n hn => h n (by simp [DataW.weightsAll]; exact .inr hn)) i (by simpa using hi)
theorem light_each {H : Type} {P : Program} : ∀ {ts : List TypeId} {ds : List (DataW H)} (_ : ∀ n ∈ DataW.weightsEach P ts ds, n ≤ reachBytes) (i : Nat) (ht : i < ts.length) (hi : i < ds.length), light P ts[i] ds[i]
 | t :: ts, d :: ds, h, 0, _, _ => fun n hn => h n (by simp [DataW.weightsEach]; exact .inl hn)
 | t :: ts, d :: ds, h, i + 1, ht, hi => light_each (ts := ts) (ds := ds) (fun n hn => h n (by simp [DataW.weightsEach]; exact .inr hn)) i (by simpa using ht) (by simpa using hi)
def Opens (P : Program) (t : TypeId) {α : Type} (T : Rp α) (Q : α → Prop) : Prop :=
 ∀ (H : Type) (enc : TypeId × Value → H) (w : World) (base : Nat) (spare : Nat → Bool) (held : Bool) (fuel : Nat) (cs : List Value) (x : DataW H × List MemPlace),
  DataW.trod enc P w base spare held fuel t cs = some x → light P t x.1 → ∃ a, T.rel w.fr cs a ∧ Q a
def Within {α : Type} (Q : α → Prop) (xs : List α) : Prop := xs.length ≤ 140737488351232 ∧ ∀ x ∈ xs, Q x
def Anyv {α : Type} (_ : α) : Prop := True
theorem Opens.u8 {P : Program} {t : TypeId} (ht : P.underlying t = some (.int .u8)) : Opens P t Rp.u8 Anyv := fun _ _ _ _ _ _ _ _ _ h _ => by
 obtain ⟨n, rfl, _, hw⟩ := DataW.trod_int ht h
 have : 0 ≤ n ∧ n ≤ 255 := by simpa [Lit.wf, IntKind.min, IntKind.max, IntKind.wrap, IntKind.bits, IntKind.signed] using hw
 refine ⟨UInt8.ofNat n.toNat, ?_, trivial⟩
 show _ = _
 have e : ((UInt8.ofNat n.toNat).toNat : Int) = n := by
  have : (UInt8.ofNat n.toNat).toNat = n.toNat % 256 := by simp
  omega
 rw [byteV, e]
theorem Opens.i64 {P : Program} {t : TypeId} (ht : P.underlying t = some (.int .i64)) : Opens P t Rp.i64 InI64 := fun _ _ _ _ _ _ _ _ _ h _ => by
 obtain ⟨n, rfl, _, hw⟩ := DataW.trod_int ht h
 have : InI64 n := by unfold InI64; simpa [Lit.wf, IntKind.min, IntKind.max, IntKind.wrap, IntKind.bits, IntKind.signed] using hw
 exact ⟨n, ⟨rfl, this⟩, this⟩
theorem Opens.bool {P : Program} {t : TypeId} (ht : P.underlying t = some .bool) : Opens P t Rp.bool Anyv := fun _ _ _ _ _ _ _ _ _ h _ => by
 obtain ⟨n, rfl, _⟩ := DataW.trod_bool ht h
 exact ⟨n, rfl, trivial⟩
theorem str_data (s : ByteArray) : str s.data.toList = s := by cases s; rfl
theorem Opens.str {P : Program} {t : TypeId} (ht : P.underlying t = some .string) : Opens P t Rp.str (fun s => s.length ≤ 140737488351232) := fun _ _ _ _ _ _ _ _ _ h hl => by
 obtain ⟨s, rfl, rfl, hs⟩ := DataW.trod_string ht h
 exact ⟨s.data.toList, ⟨by rw [str_data], by unfold maxLen at hs; rw [Array.length_toList]; exact Nat.le_trans hs (by decide)⟩, hl _ (by simp [DataW.weights])⟩
theorem choose_list {α : Type} {p : Nat → α → Prop} : ∀ {n : Nat} (_ : ∀ i, i < n → ∃ x, p i x), ∃ l : List α, l.length = n ∧ ∀ i (hi : i < l.length), p i l[i]
 | 0, _ => ⟨[], rfl, fun i hi => absurd hi (by simp)⟩
 | n + 1, h => by
  obtain ⟨l, h1, h2⟩ := choose_list (n := n) (fun i hi => h i (by omega))
  obtain ⟨x, hx⟩ := h n (by omega)
  refine ⟨l ++ [x], by simp [h1], fun i hi => ?_⟩
  by_cases hi' : i < l.length
  ·rw [List.getElem_append_left hi']; exact h2 i hi'
  ·have : i = n := by simp at hi; omega
   subst this
   rw [List.getElem_append_right (by omega)]; simpa using hx
theorem All2.of_get {α β : Type} {R : β → α → Prop} : ∀ {bs : List β} {as : List α}, bs.length = as.length → (∀ i (hb : i < bs.length) (ha : i < as.length), R bs[i] as[i]) → All2 R bs as
 | [], [], _, _ => trivial
 | _ :: _, [], h, _ => by simp at h
 | [], _ :: _, h, _ => by simp at h
 | b :: bs, a :: as, h, hr => ⟨hr 0 (by simp) (by simp), All2.of_get (by simpa using h) fun i hb ha => hr (i + 1) (by simp; omega) (by simp; omega)⟩
theorem flat_len_k {α : Type} {k : Nat} : ∀ {css : List (List α)}, (∀ c ∈ css, c.length = k) → css.flatten.length = css.length * k
 | [], _ => by simp
 | c :: css, h => by
  rw [List.flatten_cons, List.length_append, flat_len_k (fun d hd => h d (by simp [hd])), h c (by simp)]; simp [Nat.succ_mul]; omega
theorem flat_get_k {α : Type} {k : Nat} (hk : 0 < k) : ∀ {css : List (List α)} (_ : ∀ c ∈ css, c.length = k) (j : Nat), css.flatten[j]? = (css[j / k]?).bind fun c => c[j % k]?
 | [], _, j => by simp
 | c :: css, h, j => by
  have hc := h c (by simp)
  by_cases hj : j < k
  ·rw [List.flatten_cons, List.getElem?_append_left (by omega), Nat.div_eq_of_lt hj, Nat.mod_eq_of_lt hj]; simp
  ·have hj' : k ≤ j := by omega
   rw [List.flatten_cons, List.getElem?_append_right (by omega), hc, flat_get_k hk (fun d hd => h d (by simp [hd]))]
   have e1 : j / k = (j - k) / k + 1 := by rw [Nat.div_eq_sub_div hk hj']
   have e2 : j % k = (j - k) % k := by rw [Nat.mod_eq_sub_mod hj']
   rw [e1, e2]; simp
theorem Opens.slice {P : Program} {t e : TypeId} {α : Type} {T : Rp α} {Q : α → Prop} (ho : Opens P e T Q) (ht : P.underlying t = some (.slice e)) (hc : P.cellsOf e = T.k) (hy : 0 < P.bytesOf e) (hk : 0 < T.k) : Opens P t (Rp.slice T) (Within Q) := fun H enc w base spare held fuel cs x h hlt => by
 rcases DataW.trod_slice ht h with ⟨rfl, _⟩ | ⟨a, len, cap, elems, rest, n, _, rfl, rfl, hb, hl, hm, hlen, hel, _, _⟩
 ·exact ⟨[], ⟨_, rfl, Arr.nil⟩, by simp, by simp⟩
 have hw : len * P.bytesOf e ≤ reachBytes ∧ ∀ n ∈ DataW.weightsAll P e (elems.map (·.1)), n ≤ reachBytes := by
  unfold light at hlt
  simp only [DataW.weights, ht, List.length_map, List.mem_cons, List.mem_append] at hlt
  exact ⟨Nat.le_trans (Nat.mul_le_mul_right _ (by omega)) (hlt _ (.inl rfl)), fun n hn => hlt n (.inr (.inl hn))⟩
 have hlen2 : len ≤ 140737488351232 := by
  have := Nat.le_trans (Nat.le_mul_of_pos_right len hy) hw.1
  unfold reachBytes at this; omega
 have each : ∀ i, i < len → ∃ y : List Value × α, y.1.length = T.k ∧ (T.rel w.fr y.1 y.2 ∧ Q y.2) ∧ ∀ q, q < T.k → w.cell? ((a.add (i * T.k)).add q) = y.1[q]? := by
  intro i hi
  have h1 := hel i hi
  rw [List.getElem?_eq_getElem (by omega), hc, Option.bind_eq_some_iff] at h1
  obtain ⟨ds, h2, h3⟩ := h1
  obtain ⟨b, hb⟩ := ho _ enc w base spare held n ds _ h3 (by have h9 := light_all hw.2 i (by simp; omega); rw [List.getElem_map] at h9; exact h9)
  obtain ⟨_, h4, h5⟩ := World.cells?_some h2
  exact ⟨(ds, b), h4, hb, h5⟩
 obtain ⟨l, h1, h2⟩ := choose_list each
 have hQ : Within Q (l.map (·.2)) := by
  refine ⟨by simp; omega, fun y hy => ?_⟩
  obtain ⟨z, hz, rfl⟩ := List.mem_map.1 hy
  obtain ⟨i, hi, rfl⟩ := List.mem_iff_getElem.1 hz
  exact (h2 i hi).2.1.2
 refine ⟨l.map (·.2), ⟨_, rfl, l.map (·.1), ?_, some a, cap, ?_, ?_, ⟨?_, fun h => by cases h⟩, ?_, ?_⟩, hQ⟩
 ·refine All2.of_get (by simp) fun i hb ha => ?_
  simp only [List.getElem_map]
  exact (h2 i (by simpa using hb)).2.1.1
 ·simp [h1]
 ·simp [h1]; omega
 ·simpa [maxLen] using hm
 ·rw [flat_len_k (k := T.k)]
  ·simp
  ·intro c hc
   obtain ⟨y, hy, rfl⟩ := List.mem_map.1 hc
   obtain ⟨i, hi, rfl⟩ := List.mem_iff_getElem.1 hy
   exact (h2 i hi).1
 ·intro j hj
  refine ⟨a, rfl, ?_⟩
  have hall : ∀ c ∈ l.map (·.1), c.length = T.k := by
   intro c hc
   obtain ⟨y, hy, rfl⟩ := List.mem_map.1 hc
   obtain ⟨i, hi, rfl⟩ := List.mem_iff_getElem.1 hy
   exact (h2 i hi).1
  rw [fr_cell, ← List.getElem?_eq_getElem hj, flat_get_k hk hall]
  have hj2 : j < l.length * T.k := by rw [flat_len_k hall] at hj; simpa using hj
  have hi : j / T.k < l.length := by rw [Nat.div_lt_iff_lt_mul hk]; exact hj2
  have hq : j % T.k < T.k := Nat.mod_lt _ hk
  have := (h2 _ hi).2.2 _ hq
  rw [Addr.add_add, show j / T.k * T.k + j % T.k = j from by rw [Nat.mul_comm]; exact Nat.div_add_mod j T.k] at this
  rw [this]
  simp [List.getElem?_eq_getElem hi]
theorem Opens.arr {P : Program} {t : TypeId} {α : Type} {T : Rp α} {Q : List α → Prop} (ho : Opens P t (Rp.slice T) Q) {H : Type} {enc : TypeId × Value → H} {w : World} {base : Nat} {spare : Nat → Bool} {held : Bool} {fuel : Nat} {v : Value} {x : DataW H × List MemPlace}
  (h : DataW.trod enc P w base spare held fuel t [v] = some x) (hl : light P t x.1) : ∃ a, Arr T w.fr v a ∧ Q a := by
 obtain ⟨a, ⟨u, h1, h2⟩, hq⟩ := ho _ enc w base spare held fuel _ x h hl
 cases h1
 exact ⟨a, h2, hq⟩
def OpensF (P : Program) (fs : List Field) (off : Nat) {α : Type} (T : Rp α) (Q : α → Prop) : Prop :=
 ∀ (H : Type) (enc : TypeId × Value → H) (w : World) (base : Nat) (spare : Nat → Bool) (held : Bool) (fuel : Nat) (cs : List Value),
  (∀ f ∈ fs, ∃ x, DataW.trod enc P w base spare held fuel f.type ((cs.drop f.offset).take (P.cellsOf f.type)) = some x ∧ light P f.type x.1) → cs.length = off + T.k → ∃ a, T.rel w.fr (cs.drop off) a ∧ Q a
theorem OpensF.nil {P : Program} {off : Nat} : OpensF P [] off Rp.unit Anyv := fun _ _ _ _ _ _ _ cs _ h => ⟨(), by show cs.drop off = []; rw [List.drop_eq_nil_of_le]; simp [Rp.unit] at h; omega, trivial⟩
theorem OpensF.cons {P : Program} {f : Field} {fs : List Field} {off : Nat} {α β : Type} {T : Rp α} {U : Rp β} {Q : α → Prop} {R : β → Prop} (ho : f.offset = off) (hc : P.cellsOf f.type = T.k) (h1 : Opens P f.type T Q) (h2 : OpensF P fs (off + T.k) U R) : OpensF P (f :: fs) off (Rp.prod T U) (fun x => Q x.1 ∧ R x.2) :=
 fun H enc w base spare held fuel cs h hl => by
  obtain ⟨x, hx, hx'⟩ := h f (by simp)
  rw [ho, hc] at hx
  obtain ⟨a, ha, qa⟩ := h1 _ _ _ _ _ _ _ _ _ hx hx'
  obtain ⟨b, hb, qb⟩ := h2 _ enc w base spare held fuel cs (fun g hg => h g (by simp [hg])) (by rw [hl]; simp [Rp.prod]; omega)
  exact ⟨(a, b), ⟨_, _, (by rw [← List.drop_drop, List.take_append_drop] : cs.drop off = (cs.drop off).take T.k ++ cs.drop (off + T.k)), ha, hb⟩, qa, qb⟩
theorem Opens.struct {P : Program} {t : TypeId} {fs : List Field} {α : Type} {T : Rp α} {Q : α → Prop} (ho : OpensF P fs 0 T Q) (ht : P.underlying t = some (.struct fs.toArray)) (hc : P.cellsOf t = T.k) : Opens P t T Q := fun H enc w base spare held fuel cs x h hlt => by
 obtain ⟨xs, n, _, rfl, hl, hn, hf⟩ := DataW.trod_struct ht h
 unfold light at hlt
 simp only [DataW.weights, ht] at hlt
 have := ho _ enc w base spare held n cs (fun f hf' => by
  obtain ⟨i, hi, rfl⟩ := List.mem_iff_getElem.1 hf'
  have := hf i fs[i] (by simp [hi])
  have hi2 : i < xs.length := by simp at hn; omega
  rw [List.getElem?_eq_getElem hi2] at this
  refine ⟨_, by simpa using this, ?_⟩
  have := light_each hlt i (by simpa using hi) (by simpa using hi2)
  simpa using this) (by rw [hl, hc]; simp)
 simpa using this
end Go.Sp
end
