import Derived.Test.YtodhbhanmdfdeaaSpMap
import Derived.Laws.Externs
/- Strings' bytes, arrays in place, copies of maps, and what else the disk's code asks for. -/
namespace Go.Sp
section
variable {ro : Option Nat} {P : Program} {fn : Func} {n : Nat} {R : Ending → World → Prop} {k : List Item} {σ : List (Nat × Value)} {D : List Deferred} {g : Gr} {η ζ θ : List SProp} {ops : Array Oper} {i d : Nat} {ls : List Nat}
  {t tk te e : TypeId} {x y z : Operand} {b c : Nat} {l : List SEnt} {w : World}
theorem str_get (xs : List UInt8) (j : Nat) : (str xs)[j]? = xs[j]? := by
  by_cases h : j < xs.length
  · rw [List.getElem?_eq_getElem h, getElem?_pos (str xs) j (by rw [str_size]; exact h)]
    rfl
  · rw [List.getElem?_eq_none (by omega), getElem?_neg (str xs) j (by rw [str_size]; exact h)]
theorem Does.indexS {xs : List UInt8} {kd : IntKind} {zi : Int} {j : Nat} (ht : P.underlying t = some .string) (hx : ev σ x = some (.string (str xs))) (hy : ev σ y = some (.int kd zi)) (hz : zi = (j : Int)) (hj : j < xs.length) :
    Does P (.index t x y) σ g η (byteV xs[j]) η := .run fun o ρ w ho hk => by
  subst hz
  have h := str_get xs j
  rw [List.getElem?_eq_getElem hj] at h
  simp [execOp, ho, hk x _ hx, hk y _ hy, Instr.index, asIntOf, run_underlying ht, h]
  rfl
theorem Does.idxArr {kd : IntKind} {zi : Int} {j len bo off : Nat} (ht : P.underlying t = some (.array len e)) (he : (P.info? e).map (·.size) = some 1) (hx : ev σ x = some (.pointer (some ⟨bo, off, none⟩))) (hy : ev σ y = some (.int kd zi)) (hz : zi = (j : Int)) (hj : j < len) :
    Does P (.indexAddr t x y) σ g η (.pointer (some ⟨bo, off + j, none⟩)) η := .run fun o ρ w ho hk => by
  subst hz
  simp [execOp, ho, hk x _ hx, hk y _ hy, Instr.indexAt, Instr.sureAddr, asIntOf, run_underlying ht, hj, run_sizeOf he, Addr.add]
theorem Does.idxArrA {kd : IntKind} {zi : Int} {j len : Nat} {p : Addr} (ht : P.underlying t = some (.array len e)) (he : (P.info? e).map (·.size) = some 1) (hx : ev σ x = some (.pointer (some p))) (hy : ev σ y = some (.int kd zi)) (hz : zi = (j : Int)) (hj : j < len) :
    Does P (.indexAddr t x y) σ g η (.pointer (some (p.add j))) η := .run fun o ρ w ho hk => by
  subst hz
  simp [execOp, ho, hk x _ hx, hk y _ hy, Instr.indexAt, Instr.sureAddr, asIntOf, run_underlying ht, hj, run_sizeOf he]
/-- a set of bytes, as 256 truths -/
def setV (cs : List UInt8) : List Value := (List.range 256).map fun i => .bool (decide (i ∈ cs.map (·.toNat)))
@[simp] theorem setV_length (cs : List UInt8) : (setV cs).length = 256 := by simp [setV]
theorem setV_get (cs : List UInt8) (c : UInt8) : (setV cs)[c.toNat]? = some (.bool (decide (c ∈ cs))) := by
  have hc := c.toNat_lt
  unfold setV
  rw [List.getElem?_map, List.getElem?_range hc]
  simp only [Option.map_some]
  congr 2
  have : (c.toNat ∈ cs.map (·.toNat)) ↔ c ∈ cs := by
    rw [List.mem_map]
    exact ⟨fun ⟨d, h, e⟩ => UInt8.toNat_inj.1 e ▸ h, fun h => ⟨c, h, rfl⟩⟩
  exact decide_eq_decide.2 this
theorem setV_set (cs : List UInt8) (c : UInt8) : (setV cs).set c.toNat (.bool true) = setV (cs ++ [c]) := by
  refine List.ext_getElem (by simp) fun i h1 h2 => ?_
  rw [List.getElem_set]
  simp only [setV, List.getElem_map, List.getElem_range]
  by_cases e : c.toNat = i
  · subst e; simp
  · rw [if_neg e]
    congr 1
    refine decide_eq_decide.2 ?_
    rw [List.map_append, List.mem_append]
    exact ⟨.inl, fun h => h.elim id fun q => absurd (by simpa using q) (fun q : i = c.toNat => e q.symm)⟩
theorem Does.max2 {kd : IntKind} {a b : Int} (hx : ev σ x = some (.int kd a)) (hy : ev σ y = some (.int kd b)) :
    Does P (.call ⟨.builtin .max, #[x, y], #[t, t]⟩) σ g η (.int kd (if a < b then b else a)) η :=
  fun o ρ w ho hk hw => ⟨w, by
    simp [execOp, ho, hk x _ hx, hk y _ hy, resolve, invoke, builtin, Builtin.max_, Builtin.max2], hw⟩
theorem run_equal_mapN {m : Option Nat} (ht : P.underlying t = some (.map tk te)) : (Op.equal t (.map m) (.map none)).run P w = .ok m.isNone w := by
  show (Op.equalIn (9999 + 1) t (.map m) (.map none)).run P w = .ok m.isNone w
  unfold Op.equalIn
  simp only [Sem.run_bind, run_underlying ht, Result.andThen]
  cases m <;> rfl
theorem Does.neqM {m : Option Nat} {u : TypeId} (ht : P.underlying t = some (.map tk te)) (hx : ev σ x = some (.map m)) (hy : ev σ y = some (.map none)) : Does P (.binOp .neq t x y u) σ g η (.bool m.isSome) η :=
  .run fun o ρ w ho hk => by
    simp [execOp, ho, hk x _ hx, hk y _ hy, eqGuard, Go.binOp, run_equal_mapN (w := w) (m := m) ht]
    try cases m <;> rfl
theorem Does.eqlM {m : Option Nat} {u : TypeId} (ht : P.underlying t = some (.map tk te)) (hx : ev σ x = some (.map m)) (hy : ev σ y = some (.map none)) : Does P (.binOp .eql t x y u) σ g η (.bool m.isNone) η :=
  .run fun o ρ w ho hk => by
    simp [execOp, ho, hk x _ hx, hk y _ hy, eqGuard, Go.binOp, run_equal_mapN (w := w) (m := m) ht]
theorem Does.assertIs {ti ta : TypeId} {v : Value} {dd : TypeDesc} (ht : P.underlying ta = some dd) (hx : ev σ x = some (.iface ta v)) (hn : notIface dd = true := by rfl) : Does P (.typeAssert x ti ta false) σ g η v η :=
  .run fun o ρ w ho hk => by
    simp only [execOp, ho, hk x _ hx, Instr.typeAssert, Sem.run_bind, run_underlying ht, Result.andThen_ok]
    cases dd <;> first | (simp; done) | exact Bool.noConfusion hn
theorem Does.strTo {xs : List UInt8} {kb : IntKind} {zb : Int} {b : Nat} (ht : P.underlying t = some .string) (hx : ev σ x = some (.string (str xs))) (hy : ev σ y = some (.int kb zb)) (hz : zb = (b : Int)) (hb : b ≤ xs.length) :
    Does P (.slice t x none (some y) none) σ g η (.string (str (xs.take b))) η := by
  subst hz
  exact str_does (P := P) (σ := σ) (g := g) (kl := .i64) (kh := kb) (a := 0) (b := b) ht hx (lo := none) (hi := some y) (fun _ h => nomatch h) (fun _ => rfl) (fun _ h => by cases h; exact hy) (fun h => nomatch h) (Nat.zero_le _) hb η
theorem O.callAll {f : FuncId} {xs : Array Operand} {ts : Array TypeId} {vals : List Value} {K' : Value → List SProp → Prop} {first cap : Array Value} (ho : Fires ops i n σ d (.call ⟨.value x, xs, ts⟩)) (hx : ev σ x = some (.func (.func f) first cap)) (hc : callable P f = true)
    (hv : evs σ xs.toList = some vals) {args : Array Value} (hargs : first ++ vals.toArray ++ cap = args) (con : Con P f args g.h η (Ret K')) (h : ∀ v η', K' v η' → O ro P fn n R ops ls k ((d, v) :: σ) D g η') : O ro P fn n R ops (i :: ls) k σ D g η :=
  fun a w hf hd hw => O.call (ζ := []) ho hx hc hv hargs con (fun v η' hk => by rw [List.append_nil]; exact h v η' hk) a w hf hd (by rw [List.append_nil]; exact hw)
theorem S.addW {todo : List Item} (A : SProp) (hA : ∀ m, A m) (h : S ro P fn n R todo σ D g (A :: η)) : S ro P fn n R todo σ D g η :=
  S.imp' (η := η) (ζ := A :: η) (fun m x => ⟨Fr.emp, m, Fr.emp_disj _, Fr.emp_sub _, Fr.sub_refl _, hA _, x⟩) h
theorem OD.strBytes {t2 : TypeId} {xs : List UInt8} {l : List Nat} (ho : Fires ops i n σ d (.convert t t2 x)) (hd : descOk ops [i] l = true) (ht : P.underlying t = some .string) (ht2 : P.underlying t2 = some (.slice e)) (he : P.underlying e = some (.int .u8)) (hx : ev σ x = some (.string (str xs))) (hl : xs.length ≤ 9223372036854775807)
    (h : ∀ a c, OD P fn n R ops k D g l ((d, .slice a xs.length c) :: σ) ((fun m => Arr Rp.u8 m (.slice a xs.length c) xs) :: η)) : OD P fn n R ops k D g (i :: l) σ η :=
  .loudE (K := fun u η' => ∃ a c, u = .slice a xs.length c ∧ η' = (fun m => Arr Rp.u8 m u xs) :: η) ho rfl hd
    (fun ζ => (DoesE.strBytes (η := η ++ ζ) ht ht2 he hx hl).imp fun v η' ⟨a, c, h1, h2⟩ => ⟨_, ⟨a, c, h1, rfl⟩, h2⟩) (by rintro v _ ⟨a, c, rfl, rfl⟩; exact h a c)
/-- a copy of a map -/
theorem DoesE.cloneS {f : FuncId} {fn' : Func} {ti : TypeId} {ts : Array TypeId} (hf : P.funcs[f]? = some fn') (hname : (fn'.name == "runtime.NumGoroutine") = false) (hb : fn'.body.isNone = true) (hn : Extern.findNext fn' = none) (he : Extern.find fn' = some Extern.MapsClone.clone)
    (hx : ev σ x = some (.iface ti (.map (some b)))) (hs : Sel η (MapP b l c) ζ) : DoesE P (.call ⟨.value (.func f), #[x], ts⟩) σ g η fun v η' => ∃ b', v = .iface ti (.map (some b')) ∧ η' = MapP b' l c :: η :=
  fun o ρ w ho hkn hw => by
    have hm := (hw.sel hs).block
    refine ⟨_, _, _, ⟨w.heap.size, rfl, rfl⟩, ?_, hw.alloc _⟩
    have h := run_callFunc_extern (P := P) hf hname hb hn he #[.iface ti (.map (some b))] w
    have h2 : (Extern.MapsClone.clone #[.iface ti (.map (some b))]).run P w = .ok (.iface ti (.map (some w.heap.size))) (w.alloc (.map (sEs l) c)) := by
      have e : Extern.MapsClone.clone #[.iface ti (.map (some b))] = (do
          let .map entries clock ← getObj b | stuck "maps.clone: a map expected"
          pure (.iface ti (.map (some (← newObj (.map entries clock)))))) := rfl
      rw [e]
      simp only [Sem.run_bind, MapKept.run_getObj_map hm, Result.andThen, newObj, Sem.run]
      rfl
    have hf0 := hkn (.func f) (.func (.func f) #[] #[]) rfl
    simp [execOp, ho, resolve, hf0, hkn x _ hx, Deferred.ofValue, invoke, h, h2, Result.andThen]
end
end Go.Sp
