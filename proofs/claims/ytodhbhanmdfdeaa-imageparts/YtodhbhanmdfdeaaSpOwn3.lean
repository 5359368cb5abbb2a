/- Texts of this proof, one behind the other. -/
import Derived.Test.YtodhbhanmdfdeaaSpDefer
import Derived.Test.YtodhbhanmdfdeaaSpOwn2
section
namespace Go.Sp
/-! conversions between slices and strings -/
theorem blk_sl {h : Fr} {k m b cap : Nat} {T : TypeId} {fz : Nat × Nat} {cur : Array Value} {cs : List Value} (hb : h b = some (.cells cur T fz)) (h1 : m ≤ cap) (h2 : cap ≤ 9223372036854775807) (h3 : cur.size = cap * k) (h4 : cur.toList.take (m * k) = cs) :
    Sl h (.slice (some ⟨b, 0, none⟩) m cap) k m cs := by
  have hl : cs.length = m * k := by
    rw [← h4, List.length_take, Array.length_toList, h3, Nat.min_eq_left (Nat.mul_le_mul_right _ h1)]
  refine ⟨some ⟨b, 0, none⟩, cap, rfl, h1, ⟨h2, fun h => by cases h⟩, hl, fun j hj => ⟨_, rfl, ?_⟩⟩
  rw [add_lit]
  subst h4
  have hj' : j < cur.size := by simp at hj; omega
  simp [Fr.cell, hb, hj']
section
variable {P : Program} {σ : List (Nat × Value)} {g : Gr} {η ζ : List SProp} {t e : TypeId} {x : Operand}
/-- bytes that a string's bytes were turned to: they stay readable -/
theorem DoesE.toBytes {v : Value} {xs : List UInt8} (ht : P.underlying t = some (.slice e)) (he : P.underlying e = some (.int .u8)) (hx : ev σ x = some v) (hs : Sel η (OwnP Rp.u8 e v xs) ζ) (hne : 0 < xs.length) :
    DoesE P (.convert t t x) σ g η fun u η' => u = v ∧ η' = (fun m => Arr Rp.u8 m v xs) :: ζ :=
  fun o ρ w ho hk hw => by
    obtain ⟨b, cap, cur, css, rfl, h1, h2, h3, h4, ha, fz, _, hh⟩ := (hw.sel hs).ownP_block hne
    have hb := hh.block
    let w' := w.freeze ⟨b, cur.size, none⟩ 1
    have hw' : Holds w' g (blk b (.cells cur e (if fz.1 == fz.2 then (cur.size, cur.size + 1) else (min fz.1 cur.size, max fz.2 (cur.size + 1)))) :: ζ) := by
      refine hh.setBlock (w' := w') ?_ ?_ rfl rfl rfl
      · simp [w', World.freeze, Array.getElem?_modify, hb]
      · intro i hi
        have : b ≠ i := fun h => hi h.symm
        simp [w', World.freeze, Array.getElem?_modify, this]
    refine ⟨_, w', _, ⟨rfl, rfl⟩, ?_, hw'.imp fun _ => Sat.cons_imp (fun m x => ⟨css, ha.imp fun _ _ => Rp.u8.mono (Fr.emp_sub m), blk_sl x h1 h2 h3 h4⟩) fun _ y => y⟩
    have hsh : w.shape? b = some (e, cur.size) := by simp [World.shape?, hb]
    simp [execOp, ho, hk x _ hx, convert, run_underlying ht, run_underlying he, markStringish, shape, freeze, Sem.run, hsh, w']
theorem run_byteLoop (P : Program) (w : World) (f : Value → ByteArray → Sem (ForInStep ByteArray)) (hf : ∀ (b : UInt8) s, f (byteV b) s = .pure (.yield (s.push b))) : ∀ (xs : List UInt8) (s : ByteArray),
    (forIn (xs.map byteV) s f : Sem ByteArray).run P w = .ok (⟨s.data ++ xs.toArray⟩) w
  | [], s => by simp [forIn]
  | b :: xs, s => by
    have := run_byteLoop P w f hf xs (s.push b)
    rw [List.map_cons, List.forIn_cons, hf]
    simp only [Sem.run_bind, Sem.run, Result.andThen_ok]
    rw [this]; simp
theorem Does.toStr {v : Value} {xs : List UInt8} (ht : P.underlying t = some (.slice e)) (he : P.underlying e = some (.int .u8)) {t2 : TypeId} (ht2 : P.underlying t2 = some .string) (hx : ev σ x = some v) (hs : Arr Rp.u8 g.h v xs) :
    Does P (.convert t t2 x) σ g η (.string (str xs)) η :=
  fun o ρ w ho hk hw => by
    refine ⟨w, ?_, hw⟩
    obtain ⟨css, ha, a, cap, rfl, h1, h2, h3, h4⟩ := hs
    cases a with
    | none =>
      obtain ⟨rfl, _⟩ := Arr.nil_of (T := Rp.u8) (xs := xs) (by decide) ⟨css, ha, none, cap, rfl, h1, h2, h3, h4⟩
      simp [execOp, ho, hk x _ hx, convert, run_underlying ht, run_underlying he, run_underlying ht2, Conv.bytesToString]
      rfl
    | some a =>
      have hcs : css.flatten = xs.map byteV := by
        clear h1 h2 h3 h4 hx
        induction css generalizing xs with
        | nil => cases xs with
          | nil => rfl
          | cons _ _ => exact ha.elim
        | cons c css ih => cases xs with
          | nil => exact ha.elim
          | cons b xs => rw [List.flatten_cons, ih ha.2, show c = [byteV b] from ha.1]; rfl
      have hr := run_loadCells_list (P := P) w a css.flatten fun j v hj => by
        obtain ⟨hj', rfl⟩ := List.getElem?_eq_some_iff.1 hj
        obtain ⟨p, hp, hc⟩ := h4 j hj'
        cases hp
        exact Fr.cell_mono hw.ground hc
      have hlen : css.flatten.length = xs.length := by rw [hcs]; simp
      rw [hlen] at hr
      simp [execOp, ho, hk x _ hx, convert, run_underlying ht, run_underlying he, run_underlying ht2, Conv.bytesToString, hr]
      rw [hcs, run_byteLoop P w _ (fun b s => by simp [byteV]; rfl)]
      have e0 : (⟨ByteArray.empty.data ++ xs.toArray⟩ : ByteArray) = str xs := by
        show (⟨#[] ++ xs.toArray⟩ : ByteArray) = _
        simp [str]
      rw [e0]; rfl
end
end Go.Sp
end
section
namespace Go.Sp
/-- words on each of these, each of a part of its own -/
def EachP {β α : Type} (A : β → α → SProp) : List β → List α → SProp
  | [], [] => fun _ => True
  | b :: bs, a :: as => fun h => Sat [A b a, EachP A bs as] h
  | _, _ => fun _ => False
theorem Sat.two {A B : SProp} {m : Fr} : Sat [A, B] m ↔ ∃ h1 h2 : Fr, h1.disj h2 ∧ h1.sub m ∧ h2.sub m ∧ A h1 ∧ (∃ h3 : Fr, h3.sub h2 ∧ B h3) := by
  constructor
  · rintro ⟨h1, h2, d, s1, s2, x, k1, k2, _, t1, _, y, _⟩
    exact ⟨h1, h2, d, s1, s2, x, k1, t1, y⟩
  · rintro ⟨h1, h2, d, s1, s2, x, h3, t, y⟩
    exact ⟨h1, h2, d, s1, s2, x, h3, Fr.emp, Fr.disj_symm (Fr.emp_disj _), t, Fr.emp_sub _, y, trivial⟩
theorem EachP.snoc {β α : Type} {A : β → α → SProp} {b : β} {a : α} : ∀ {bs : List β} {as : List α} {m : Fr}, Sat [EachP A bs as, A b a] m → ∃ h : Fr, h.sub m ∧ EachP A (bs ++ [b]) (as ++ [a]) h
  | [], [], m, h => ⟨m, Fr.sub_refl _, by
    have h2 : Sat [A b a] m := h.tail'
    exact Sat.append (η := [A b a]) (ζ := [EachP A [] []]) (Fr.disj_symm (Fr.emp_disj _)) h2 ⟨Fr.emp, Fr.emp, Fr.emp_disj _, Fr.emp_sub _, Fr.emp_sub _, trivial, trivial⟩ |> Sat.mono (Fr.add_sub (Fr.sub_refl _) (Fr.emp_sub _))⟩
  | [], _ :: _, _, h => by obtain ⟨_, _, _, _, _, x, _⟩ := h; exact x.elim
  | _ :: _, [], _, h => by obtain ⟨_, _, _, _, _, x, _⟩ := h; exact x.elim
  | b' :: bs, a' :: as, m, h => by
    obtain ⟨h1, h2, d, s1, s2, x, y⟩ := h
    have x' : Sat [A b' a', EachP A bs as] h1 := x
    obtain ⟨k1, k2, kd, t1, t2, p, q⟩ := x'
    have hq : Sat [EachP A bs as, A b a] (k2.add h2) := Sat.append (η := [EachP A bs as]) (ζ := [A b a]) (Fr.disj_sub d t2 (Fr.sub_refl _)) q y
    obtain ⟨h3, u, z⟩ := EachP.snoc hq
    refine ⟨m, Fr.sub_refl _, ?_⟩
    show Sat [A b' a', EachP A (bs ++ [b]) (as ++ [a])] m
    refine ⟨k1, k2.add h2, Fr.disj_add_right kd (Fr.disj_sub d t1 (Fr.sub_refl _)), Fr.sub_trans t1 s1, Fr.add_sub (Fr.sub_trans t2 s1) s2, p, h3, Fr.emp, Fr.disj_symm (Fr.emp_disj _), u, Fr.emp_sub _, z, trivial⟩
theorem EachP.all2 {β α : Type} {A : β → α → SProp} {R : β → α → Prop} {k : Fr} (hA : ∀ b a m, A b a m → m.sub k → R b a) : ∀ {bs : List β} {as : List α} {m : Fr}, EachP A bs as m → m.sub k → All2 R bs as
  | [], [], _, _, _ => trivial
  | [], _ :: _, _, h, _ => h.elim
  | _ :: _, [], _, h, _ => h.elim
  | b :: bs, a :: as, m, h, s => by
    have h' : Sat [A b a, EachP A bs as] m := h
    obtain ⟨k1, k2, _, t1, t2, p, k3, _, _, u, _, q, _⟩ := h'
    exact ⟨hA b a k1 p (Fr.sub_trans t1 s), EachP.all2 hA q (Fr.sub_trans u (Fr.sub_trans t2 s))⟩
/-- slices, each with its cells -/
abbrev RowsP {α : Type} (T : Rp α) (e : TypeId) (vs : List Value) (xss : List (List α)) : SProp := EachP (OwnP T e) vs xss
section
variable {ro : Option Nat} {P : Program} {fn : Func} {n : Nat} {R : Ending → World → Prop} {k : List Item} {σ : List (Nat × Value)} {D : List Deferred} {g : Gr} {η ζ θ : List SProp} {ops : Array Oper} {L : List Nat}
theorem Sat.each {β α : Type} {A : β → α → SProp} {b : β} {a : α} {bs : List β} {as : List α} {m : Fr} (h : Sat (EachP A bs as :: A b a :: θ) m) : Sat (EachP A (bs ++ [b]) (as ++ [a]) :: θ) m := by
  obtain ⟨h1, h2, d, s1, s2, x, k1, k2, kd, t1, t2, y, z⟩ := h
  obtain ⟨h3, u, w⟩ := EachP.snoc (Sat.append (η := [EachP A bs as]) (ζ := [A b a]) (Fr.disj_sub d (Fr.sub_refl _) t1) ⟨h1, Fr.emp, Fr.disj_symm (Fr.emp_disj _), Fr.sub_refl _, Fr.emp_sub _, x, trivial⟩ ⟨k1, Fr.emp, Fr.disj_symm (Fr.emp_disj _), Fr.sub_refl _, Fr.emp_sub _, y, trivial⟩)
  exact ⟨h3, k2, Fr.disj_sub (Fr.disj_add (Fr.disj_sub d (Fr.sub_refl _) t2) kd) u (Fr.sub_refl _), Fr.sub_trans u (Fr.add_sub s1 (Fr.sub_trans t1 s2)), Fr.sub_trans t2 s2, w, z⟩
theorem O.each {β α : Type} {A : β → α → SProp} {b : β} {a : α} {bs : List β} {as : List α} (s1 : Sel η (EachP A bs as) ζ) (s2 : Sel ζ (A b a) θ) (h : O ro P fn n R ops L k σ D g (EachP A (bs ++ [b]) (as ++ [a]) :: θ)) : O ro P fn n R ops L k σ D g η :=
  O.sel s1 (O.imp (η := EachP A bs as :: ζ) (fun _ x => Sat.each (Sat.cons_imp (fun _ y => y) (fun _ y => Sat.perm s2.perm y) x)) h)
theorem S.imp' {todo : List Item} (hs : ∀ m, Sat η m → Sat ζ m) (h : S ro P fn n R todo σ D g ζ) : S ro P fn n R todo σ D g η := fun a w hf hd hw => h a w hf hd (hw.imp hs)
theorem S.each {todo : List Item} {β α : Type} {A : β → α → SProp} {b : β} {a : α} {bs : List β} {as : List α} (s1 : Sel η (EachP A bs as) ζ) (s2 : Sel ζ (A b a) θ) (h : S ro P fn n R todo σ D g (EachP A (bs ++ [b]) (as ++ [a]) :: θ)) : S ro P fn n R todo σ D g η :=
  S.sel s1 (S.imp' (η := EachP A bs as :: ζ) (fun _ x => Sat.each (Sat.cons_imp (fun _ y => y) (fun _ y => Sat.perm s2.perm y) x)) h)
theorem sat_each0 {β α : Type} {A : β → α → SProp} {m : Fr} (h : Sat η m) : Sat (EachP A [] [] :: η) m := ⟨Fr.emp, m, Fr.emp_disj _, Fr.emp_sub _, Fr.sub_refl _, trivial, h⟩
theorem S.each0 {todo : List Item} {β α : Type} (A : β → α → SProp) (h : S ro P fn n R todo σ D g (EachP A [] [] :: η)) : S ro P fn n R todo σ D g η := S.imp' (fun _ => sat_each0) h
theorem O.each0 {β α : Type} (A : β → α → SProp) (h : O ro P fn n R ops L k σ D g (EachP A [] [] :: η)) : O ro P fn n R ops L k σ D g η := O.imp (fun _ => sat_each0) h
theorem Sat.rows {α : Type} {T : Rp α} {e e' : TypeId} {v : Value} {vs : List Value} {xss : List (List α)} {m : Fr} (h : Sat [OwnP Rp.val e v vs, RowsP T e' vs xss] m) : Arr (Rp.slice T) m v xss := by
  obtain ⟨h1, h2, _, s1, s2, x, h3, _, _, t, _, y, _⟩ := h
  exact (x.arr.mono s1).rows (EachP.all2 (fun b a m' z s => z.arr.mono s) y (Fr.sub_trans t s2))
theorem sat_rows {α : Type} {T : Rp α} {e e' : TypeId} {v : Value} {vs : List Value} {xss : List (List α)} (s1 : Sel η (OwnP Rp.val e v vs) ζ) (s2 : Sel ζ (RowsP T e' vs xss) θ) (m : Fr) (h : Sat η m) : Sat ((fun m => Arr (Rp.slice T) m v xss) :: θ) m := by
  obtain ⟨h1, h2, d, t1, t2, x, y⟩ := Sat.perm s1.perm h
  obtain ⟨k1, k2, kd, u1, u2, p, q⟩ := Sat.perm s2.perm y
  refine ⟨h1.add k1, k2, Fr.disj_add (Fr.disj_sub d (Fr.sub_refl _) u2) kd, Fr.add_sub t1 (Fr.sub_trans u1 t2), Fr.sub_trans u2 t2, ?_, q⟩
  exact Sat.rows (Sat.append (η := [OwnP Rp.val e v vs]) (ζ := [RowsP T e' vs xss]) (Fr.disj_sub d (Fr.sub_refl _) u1) ⟨h1, Fr.emp, Fr.disj_symm (Fr.emp_disj _), Fr.sub_refl _, Fr.emp_sub _, x, trivial⟩ ⟨k1, Fr.emp, Fr.disj_symm (Fr.emp_disj _), Fr.sub_refl _, Fr.emp_sub _, p, trivial⟩)
theorem S.retCellAgg {tt b : Nat} {ty T : TypeId} {cs : List Value} (hr : fn.results = #[.cell tt ty]) (hty : ∀ w, (isAgg ty).run P w = .ok true w) (hsz : (P.info? ty).map (·.size) = some cs.length) (hl : look σ tt = some (.pointer (some ⟨b, 0, none⟩))) (hs : Sel η (obj b T cs) ζ)
    (h : ∀ w, Holds w g (obj b T cs :: ζ) → R (.returned (.agg cs.toArray)) w) : S none P fn n R (.code .ret :: k) σ [] g η := by
  refine S.retL fun a w hf hd hw => ?_
  have hw' := hw.sel hs
  refine ⟨.agg cs.toArray, ?_, h w hw'⟩
  have hc0 := run_loadCells_list (P := P) w ⟨b, 0, none⟩ cs fun j v hj => by
    rw [add_lit]; exact hw'.obj_cell (by simpa using hj)
  have hl' := hf.2 tt _ hl
  simp [results, hr, Array.getD_eq_getD_getElem?, hl', asAddr, loadVar, hty, run_sizeOf hsz, hc0]
theorem O.frzR {α : Type} {T : Rp α} {e e' : TypeId} {v : Value} {vs : List Value} {xss : List (List α)} (s1 : Sel η (OwnP Rp.val e v vs) ζ) (s2 : Sel ζ (RowsP T e' vs xss) θ) (h : ∀ g' : Gr, g.h.sub g'.h → (∀ w ζ, Holds w g' ζ → Holds w g ζ) → Arr (Rp.slice T) g'.h v xss → O ro P fn n R ops L k σ D g' θ) : O ro P fn n R ops L k σ D g η :=
  O.imp (sat_rows s1 s2) (O.frzW Sel.here h)
theorem S.frzR {todo : List Item} {α : Type} {T : Rp α} {e e' : TypeId} {v : Value} {vs : List Value} {xss : List (List α)} (s1 : Sel η (OwnP Rp.val e v vs) ζ) (s2 : Sel ζ (RowsP T e' vs xss) θ) (h : ∀ g' : Gr, g.h.sub g'.h → (∀ w ζ, Holds w g' ζ → Holds w g ζ) → Arr (Rp.slice T) g'.h v xss → S ro P fn n R todo σ D g' θ) : S ro P fn n R todo σ D g η :=
  S.imp' (sat_rows s1 s2) (S.frz (A := fun m => Arr (Rp.slice T) m v xss) Sel.here fun g' h1 h2 ⟨_, h3, h4⟩ => h g' h1 h2 (h3.mono h4))
end
section
variable {ro : Option Nat} {P : Program} {σ : List (Nat × Value)} {g : Gr} {η ζ : List SProp} {fn : Func} {n : Nat} {R : Ending → World → Prop} {k : List Item} {D : List Deferred} {ops : Array Oper} {i d : Nat} {l : List Nat}
  {t e : TypeId} {x y z : Operand} {v : Value} {ka kb : IntKind} {za zb : Int} {a b : Nat} {α : Type} {T : Rp α} {xs : List α} {r : Fr}
/-- words that a call takes; they are lent, and let go -/
theorem Con.lentD {f : FuncId} {args : Array Value} {h : Fr} {bs : List SProp} {Post : Ending → List SProp → Prop} (con : ∀ m : Fr, Sat bs m → h.disj m → Con P f args (h.add m) η Post) :
    Con P f args h (η ++ bs) Post := fun g hg w hw => by
  obtain ⟨m, hm, hd, hw'⟩ := Holds.freezeAll (η := η) (ζ := bs) hw
  have hd' : h.disj m := Fr.disj_sub hd hg (Fr.sub_refl _)
  exact (con m hm hd' (g.add m) (Fr.add_sub (Fr.sub_trans hg (Fr.sub_add_left _ _)) (Fr.sub_add_right hd)) w hw').mono fun e w' ⟨η', x, y⟩ => ⟨η', x, y.melt hd⟩
theorem O.callSs {f : FuncId} {xs : Array Operand} {ts : Array TypeId} {vals : List Value} {K' : Value → List SProp → Prop} {first cap : Array Value} (ho : Fires ops i n σ d (.call ⟨.value x, xs, ts⟩)) (hx : ev σ x = some (.func (.func f) first cap)) (hc : callable P f = true)
    (hv : evs σ xs.toList = some vals) {args : Array Value} (hargs : first ++ vals.toArray ++ cap = args) {bs : List SProp} (hb : Sels η bs ζ) (con : Con P f args g.h bs (Ret K'))
    (h : ∀ v η', K' v η' → O ro P fn n R ops l k ((d, v) :: σ) D g (η' ++ ζ)) : O ro P fn n R ops (i :: l) k σ D g η :=
  fun a w hf hd hw => O.call (ζ := ζ) ho hx hc hv hargs con h a w hf hd (hw.perm hb.perm)
theorem ODg.callSs {f : FuncId} {xs : Array Operand} {ts : Array TypeId} {vals : List Value} {K' : Value → List SProp → Prop} {first cap : Array Value} (ho : Fires ops i n σ d (.call ⟨.value x, xs, ts⟩)) {fl : Bool} (hd : hdOk fl ops i l = true) (hx : ev σ x = some (.func (.func f) first cap)) (hc : callable P f = true)
    (hv : evs σ xs.toList = some vals) {args : Array Value} (hargs : first ++ vals.toArray ++ cap = args) {bs : List SProp} (hb : Sels η bs ζ) (con : Con P f args g.h bs (Ret K'))
    (h : ∀ v η', K' v η' → OD P fn n R ops k D g l ((d, v) :: σ) (η' ++ ζ)) : ODx P fn n R ops k D g fl (i :: l) σ η :=
  ODx.perm hb.perm (ODg.call (ζ := ζ) ho hd hx hc hv hargs con h)
theorem OD.callSs {f : FuncId} {xs : Array Operand} {ts : Array TypeId} {vals : List Value} {K' : Value → List SProp → Prop} {first cap : Array Value} (ho : Fires ops i n σ d (.call ⟨.value x, xs, ts⟩)) (hd : descOk ops [i] l = true) (hx : ev σ x = some (.func (.func f) first cap)) (hc : callable P f = true) (hv : evs σ xs.toList = some vals) {args : Array Value} (hargs : first ++ vals.toArray ++ cap = args) {bs : List SProp} (hb : Sels η bs ζ) (con : Con P f args g.h bs (Ret K')) (h : ∀ v η', K' v η' → OD P fn n R ops k D g l ((d, v) :: σ) (η' ++ ζ)) : OD P fn n R ops k D g (i :: l) σ η := ODg.callSs (fl := false) ho (by simpa [hdOk] using hd) hx hc hv hargs hb con h
theorem ODt.callSs {f : FuncId} {xs : Array Operand} {ts : Array TypeId} {vals : List Value} {K' : Value → List SProp → Prop} {first cap : Array Value} (ho : Fires ops i n σ d (.call ⟨.value x, xs, ts⟩)) (_ : true = true) (hx : ev σ x = some (.func (.func f) first cap)) (hc : callable P f = true) (hv : evs σ xs.toList = some vals) {args : Array Value} (hargs : first ++ vals.toArray ++ cap = args) {bs : List SProp} (hb : Sels η bs ζ) (con : Con P f args g.h bs (Ret K')) (h : ∀ v η', K' v η' → OD P fn n R ops k D g l ((d, v) :: σ) (η' ++ ζ)) : ODx P fn n R ops k D g true (i :: l) σ η := ODg.callSs (fl := true) ho rfl hx hc hv hargs hb con h
theorem OD.sliceTo (ho : Fires ops i n σ d (.slice t x none (some y) none)) (ht : P.underlying t = some (.slice e)) (he : (P.info? e).map (·.size) = some T.k) (hx : ev σ x = some v) (hy : ev σ y = some (.int kb zb)) (hs : Arr T r v xs) (hz : zb = (b : Int)) (hb : b ≤ xs.length)
    (h : ∀ u, Arr T r u (xs.take b) → OD P fn n R ops k D g l ((d, u) :: σ) η) : OD P fn n R ops k D g (i :: l) σ η := by
  subst hz
  obtain ⟨u, h1, h2⟩ := slice_does (g := g) (a := 0) (b := b) (kl := .i64) ht he hx (lo := none) (hi := some y) (fun _ h => nomatch h) (fun _ => rfl) (fun _ h => by cases h; exact hy) (fun h => nomatch h) hs (Nat.zero_le _) hb
  exact .quiet ho rfl h1 (h u h2)
theorem OD.sliceFrom (ho : Fires ops i n σ d (.slice t x (some y) none none)) (ht : P.underlying t = some (.slice e)) (he : (P.info? e).map (·.size) = some T.k) (hx : ev σ x = some v) (hy : ev σ y = some (.int ka za)) (hs : Arr T r v xs) (hz : za = (a : Int)) (ha : a ≤ xs.length)
    (h : ∀ u, Arr T r u (xs.drop a) → OD P fn n R ops k D g l ((d, u) :: σ) η) : OD P fn n R ops k D g (i :: l) σ η := by
  subst hz
  obtain ⟨u, h1, h2⟩ := slice_does (g := g) (a := a) (b := xs.length) (kh := .i64) ht he hx (lo := some y) (hi := none) (fun _ h => by cases h; exact hy) (fun h => nomatch h) (fun _ h => nomatch h) (fun _ => rfl) hs ha (Nat.le_refl _)
  exact .quiet ho rfl h1 (h u (by rw [List.take_length] at h2; exact h2))
theorem OD.sliceMid (ho : Fires ops i n σ d (.slice t x (some y) (some z) none)) (ht : P.underlying t = some (.slice e)) (he : (P.info? e).map (·.size) = some T.k) (hx : ev σ x = some v) (hy : ev σ y = some (.int ka za)) (hz : ev σ z = some (.int kb zb)) (hs : Arr T r v xs) (h1 : za = (a : Int)) (h2 : zb = (b : Int)) (hab : a ≤ b) (hb : b ≤ xs.length)
    (h : ∀ u, Arr T r u ((xs.take b).drop a) → OD P fn n R ops k D g l ((d, u) :: σ) η) : OD P fn n R ops k D g (i :: l) σ η := by
  subst h1; subst h2
  obtain ⟨u, h1, h2⟩ := slice_does (g := g) (a := a) (b := b) ht he hx (lo := some y) (hi := some z) (fun _ h => by cases h; exact hy) (fun h => nomatch h) (fun _ h => by cases h; exact hz) (fun h => nomatch h) hs hab hb
  exact .quiet ho rfl h1 (h u h2)
theorem ODg.storeObj {t T : TypeId} {x y : Operand} {b i : Nat} {cs news : List Value} {v : Value} {j : Nat} (ho : opAtU ops j = some (.store t x y)) {fl : Bool} (hd : hdOk fl ops j l = true) (hsz : (P.info? t).map (·.size) = some news.length) (hx : ev σ x = some (.pointer (some ⟨b, i, none⟩))) (hy : ev σ y = some v)
    (hv : v.cells.toList = news) (h1 : news.all (·.oneCell') = true) (hs : Sel η (obj b T cs) ζ) (hl : i + news.length ≤ cs.length)
    (h : OD P fn n R ops k D g l σ (obj b T (cs.take i ++ news ++ cs.drop (i + news.length)) :: ζ)) : ODx P fn n R ops k D g fl (j :: l) σ η :=
  ODx.perm hs.perm (ODg.loudU (η := obj b T cs :: ζ) (η' := obj b T (cs.take i ++ news ++ cs.drop (i + news.length)) :: ζ) ho rfl hd (fun _ => .storeObj hsz hx hy hv h1 Sel.here hl) h)
theorem OD.storeObj {t T : TypeId} {x y : Operand} {b i : Nat} {cs news : List Value} {v : Value} {j : Nat} (ho : opAtU ops j = some (.store t x y)) (hd : descOk ops [j] l = true) (hsz : (P.info? t).map (·.size) = some news.length) (hx : ev σ x = some (.pointer (some ⟨b, i, none⟩))) (hy : ev σ y = some v) (hv : v.cells.toList = news) (h1 : news.all (·.oneCell') = true) (hs : Sel η (obj b T cs) ζ) (hl : i + news.length ≤ cs.length) (h : OD P fn n R ops k D g l σ (obj b T (cs.take i ++ news ++ cs.drop (i + news.length)) :: ζ)) : OD P fn n R ops k D g (j :: l) σ η := ODg.storeObj (fl := false) ho (by simpa [hdOk] using hd) hsz hx hy hv h1 hs hl h
theorem ODt.storeObj {t T : TypeId} {x y : Operand} {b i : Nat} {cs news : List Value} {v : Value} {j : Nat} (ho : opAtU ops j = some (.store t x y)) (_ : true = true) (hsz : (P.info? t).map (·.size) = some news.length) (hx : ev σ x = some (.pointer (some ⟨b, i, none⟩))) (hy : ev σ y = some v) (hv : v.cells.toList = news) (h1 : news.all (·.oneCell') = true) (hs : Sel η (obj b T cs) ζ) (hl : i + news.length ≤ cs.length) (h : OD P fn n R ops k D g l σ (obj b T (cs.take i ++ news ++ cs.drop (i + news.length)) :: ζ)) : ODx P fn n R ops k D g true (j :: l) σ η := ODg.storeObj (fl := true) ho rfl hsz hx hy hv h1 hs hl h
theorem ODg.store1 {t T : TypeId} {x y : Operand} {b i : Nat} {cs : List Value} {v : Value} {j : Nat} (ho : opAtU ops j = some (.store t x y)) {fl : Bool} (hd : hdOk fl ops j l = true) (ht : flat1 P t = true) (hx : ev σ x = some (.pointer (some ⟨b, i, none⟩))) (hy : ev σ y = some v)
    (h1 : v.oneCell' = true) (hs : Sel η (obj b T cs) ζ) (hl : i < cs.length)
    (h : OD P fn n R ops k D g l σ (obj b T (cs.set i v) :: ζ)) : ODx P fn n R ops k D g fl (j :: l) σ η :=
  ODx.perm hs.perm (ODg.loudU (η := obj b T cs :: ζ) (η' := obj b T (cs.set i v) :: ζ) ho rfl hd (fun _ => .store1 ht hx hy h1 Sel.here hl) h)
theorem OD.store1 {t T : TypeId} {x y : Operand} {b i : Nat} {cs : List Value} {v : Value} {j : Nat} (ho : opAtU ops j = some (.store t x y)) (hd : descOk ops [j] l = true) (ht : flat1 P t = true) (hx : ev σ x = some (.pointer (some ⟨b, i, none⟩))) (hy : ev σ y = some v) (h1 : v.oneCell' = true) (hs : Sel η (obj b T cs) ζ) (hl : i < cs.length) (h : OD P fn n R ops k D g l σ (obj b T (cs.set i v) :: ζ)) : OD P fn n R ops k D g (j :: l) σ η := ODg.store1 (fl := false) ho (by simpa [hdOk] using hd) ht hx hy h1 hs hl h
theorem ODt.store1 {t T : TypeId} {x y : Operand} {b i : Nat} {cs : List Value} {v : Value} {j : Nat} (ho : opAtU ops j = some (.store t x y)) (_ : true = true) (ht : flat1 P t = true) (hx : ev σ x = some (.pointer (some ⟨b, i, none⟩))) (hy : ev σ y = some v) (h1 : v.oneCell' = true) (hs : Sel η (obj b T cs) ζ) (hl : i < cs.length) (h : OD P fn n R ops k D g l σ (obj b T (cs.set i v) :: ζ)) : ODx P fn n R ops k D g true (j :: l) σ η := ODg.store1 (fl := true) ho rfl ht hx hy h1 hs hl h
end
end Go.Sp
end
