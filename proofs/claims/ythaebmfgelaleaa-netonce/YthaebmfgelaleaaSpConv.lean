import Derived.Test.YthaebmfgelaleaaSpDefer
namespace Go.Sp
/-! conversions between slices and strings -/
theorem blk_sl {h : Fr} {k m b cap : Nat} {T : TypeId} {fz : Nat × Nat} {cur : Array Value} {cs : List Value} (hb : h b = some (.cells cur T fz)) (h1 : m ≤ cap) (h2 : cap ≤ 9223372036854775807) (h3 : cur.size = cap * k) (h4 : cur.toList.take (m * k) = cs) :
    Sl h (.slice (some ⟨b, 0, none⟩) m cap) k m cs := by
  have hl : cs.length = m * k := by
    rw [← h4, List.length_take, Array.length_toList, h3, Nat.min_eq_left (Nat.mul_le_mul_right _ h1)]
  refine ⟨some ⟨b, 0, none⟩, cap, rfl, h1, ⟨h2, fun h => by cases h⟩, hl, fun j hj => ⟨_, rfl, ?_⟩⟩
  rw [add_lit]
  subst h4
  have hj' : j < cur.size := by simp at hj; omega
  simp [Fr.cell, hb, hj']
section
variable {P : Program} {σ : List (Nat × Value)} {g : Gr} {η ζ : List SProp} {t e : TypeId} {x : Operand}
/-- bytes that a string's bytes were turned to: they stay readable -/
theorem DoesE.toBytes {v : Value} {xs : List UInt8} (ht : P.underlying t = some (.slice e)) (he : P.underlying e = some (.int .u8)) (hx : ev σ x = some v) (hs : Sel η (OwnP Rp.u8 e v xs) ζ) (hne : 0 < xs.length) :
    DoesE P (.convert t t x) σ g η fun u η' => u = v ∧ η' = (fun m => Arr Rp.u8 m v xs) :: ζ :=
  fun o ρ w ho hk hw => by
    obtain ⟨b, cap, cur, css, rfl, h1, h2, h3, h4, ha, fz, _, hh⟩ := (hw.sel hs).ownP_block hne
    have hb := hh.block
    let w' := w.freeze ⟨b, cur.size, none⟩ 1
    have hw' : Holds w' g (blk b (.cells cur e (if fz.1 == fz.2 then (cur.size, cur.size + 1) else (min fz.1 cur.size, max fz.2 (cur.size + 1)))) :: ζ) := by
      refine hh.setBlock (w' := w') ?_ ?_ rfl rfl rfl
      · simp [w', World.freeze, Array.getElem?_modify, hb]
      · intro i hi
        have : b ≠ i := fun h => hi h.symm
        simp [w', World.freeze, Array.getElem?_modify, this]
    refine ⟨_, w', _, ⟨rfl, rfl⟩, ?_, hw'.imp fun _ => Sat.cons_imp (fun m x => ⟨css, ha.imp fun _ _ => Rp.u8.mono (Fr.emp_sub m), blk_sl x h1 h2 h3 h4⟩) fun _ y => y⟩
    have hsh : w.shape? b = some (e, cur.size) := by simp [World.shape?, hb]
    simp [execOp, ho, hk x _ hx, convert, run_underlying ht, run_underlying he, markStringish, shape, freeze, Sem.run, hsh, w']
theorem run_byteLoop (P : Program) (w : World) (f : Value → ByteArray → Sem (ForInStep ByteArray)) (hf : ∀ (b : UInt8) s, f (byteV b) s = .pure (.yield (s.push b))) : ∀ (xs : List UInt8) (s : ByteArray),
    (forIn (xs.map byteV) s f : Sem ByteArray).run P w = .ok (⟨s.data ++ xs.toArray⟩) w
  | [], s => by simp [forIn]
  | b :: xs, s => by
    have := run_byteLoop P w f hf xs (s.push b)
    rw [List.map_cons, List.forIn_cons, hf]
    simp only [Sem.run_bind, Sem.run, Result.andThen_ok]
    rw [this]; simp
theorem Does.toStr {v : Value} {xs : List UInt8} (ht : P.underlying t = some (.slice e)) (he : P.underlying e = some (.int .u8)) {t2 : TypeId} (ht2 : P.underlying t2 = some .string) (hx : ev σ x = some v) (hs : Arr Rp.u8 g.h v xs) :
    Does P (.convert t t2 x) σ g η (.string (str xs)) η :=
  fun o ρ w ho hk hw => by
    refine ⟨w, ?_, hw⟩
    obtain ⟨css, ha, a, cap, rfl, h1, h2, h3, h4⟩ := hs
    cases a with
    | none =>
      obtain ⟨rfl, _⟩ := Arr.nil_of (T := Rp.u8) (xs := xs) (by decide) ⟨css, ha, none, cap, rfl, h1, h2, h3, h4⟩
      simp [execOp, ho, hk x _ hx, convert, run_underlying ht, run_underlying he, run_underlying ht2, Conv.bytesToString]
      rfl
    | some a =>
      have hcs : css.flatten = xs.map byteV := by
        clear h1 h2 h3 h4 hx
        induction css generalizing xs with
        | nil => cases xs with
          | nil => rfl
          | cons _ _ => exact ha.elim
        | cons c css ih => cases xs with
          | nil => exact ha.elim
          | cons b xs => rw [List.flatten_cons, ih ha.2, show c = [byteV b] from ha.1]; rfl
      have hr := run_loadCells_list (P := P) w a css.flatten fun j v hj => by
        obtain ⟨hj', rfl⟩ := List.getElem?_eq_some_iff.1 hj
        obtain ⟨p, hp, hc⟩ := h4 j hj'
        cases hp
        exact Fr.cell_mono hw.ground hc
      have hlen : css.flatten.length = xs.length := by rw [hcs]; simp
      rw [hlen] at hr
      simp [execOp, ho, hk x _ hx, convert, run_underlying ht, run_underlying he, run_underlying ht2, Conv.bytesToString, hr]
      rw [hcs, run_byteLoop P w _ (fun b s => by simp [byteV]; rfl)]
      have e0 : (⟨ByteArray.empty.data ++ xs.toArray⟩ : ByteArray) = str xs := by
        show (⟨#[] ++ xs.toArray⟩ : ByteArray) = _
        simp [str]
      rw [e0]; rfl
end
end Go.Sp
