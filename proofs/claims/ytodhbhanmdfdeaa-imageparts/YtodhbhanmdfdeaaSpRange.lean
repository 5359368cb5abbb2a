import Derived.Test.YtodhbhanmdfdeaaSpOwn3
import Derived.RangeFuncRecord
/- Ranges over functions: rounds, what yield does, the statement; results of several sorts; marks. -/
namespace Go.Sp

theorem Holds.putObj {w : World} {g : Gr} {η : List SProp} {b : Nat} {o : Obj} (o' : Obj) (h : Holds w g (blk b o :: η)) : Holds (w.putObj b o') g (blk b o' :: η) := by
  have hb := h.block
  have hlt := (Array.getElem?_eq_some_iff.1 hb).1
  exact h.setBlock (World.putObj_heap_same hlt) (fun i hi => World.putObj_heap_other hi) rfl rfl rfl

/-- yield, as a value -/
def yieldV (l : Nat) : Value := .func (.yield l) #[] #[]

/-- what a call of yield does: like a contract -/
def YCon (P : Program) (l : Nat) (args : Array Value) (r : Fr) (η : List SProp) (Post : Ending → List SProp → Prop) : Prop :=
  ∀ g : Gr, r.sub g.h → ∀ w, Holds w g η → ∃ f tmps assign body, (Instr.yield l args).run P w = .ok (.round l f tmps assign body) w ∧
    RoundIn Fence.wide 0 P l f tmps assign body w fun e w' => ∃ η', Post e η' ∧ Holds w' g η'

section ycon
variable {P : Program} {l : Nat} {args : Array Value} {r : Fr} {η : List SProp} {Post : Ending → List SProp → Prop}
theorem YCon.mono {Post' : Ending → List SProp → Prop} (h : YCon P l args r η Post) (hp : ∀ e η', Post e η' → Post' e η') : YCon P l args r η Post' :=
  fun g hr w hw => let ⟨f, t, a, b, h1, h2⟩ := h g hr w hw; ⟨f, t, a, b, h1, h2.mono fun _ _ ⟨η', x, y⟩ => ⟨η', hp _ _ x, y⟩⟩
theorem YCon.sub {r' : Fr} (h : YCon P l args r η Post) (hs : r.sub r') : YCon P l args r' η Post := fun g hr w hw => h g (Fr.sub_trans hs hr) w hw
theorem YCon.frame {ζ : List SProp} (h : YCon P l args r η Post) : YCon P l args r (η ++ ζ) fun e η' => ∃ η₁, Post e η₁ ∧ η' = η₁ ++ ζ :=
  fun g hr w hw => by
    obtain ⟨k, hk, hd, hw'⟩ := hw.freezeAll
    obtain ⟨f, t, a, b, h1, h2⟩ := h (g.add k) (Fr.sub_trans hr (Fr.sub_add_left _ _)) w hw'
    exact ⟨f, t, a, b, h1, h2.mono fun _ _ ⟨η', x, y⟩ => ⟨η' ++ ζ, ⟨η', x, rfl⟩, y.thawAll hk hd⟩⟩
theorem YCon.perm {η' : List SProp} (p : η'.Perm η) (h : YCon P l args r η Post) : YCon P l args r η' Post := fun g hr w hw => h g hr w (hw.perm p)
end ycon

theorem run_callYield {P : Program} {ρ : Operand → Value} {o : Oper} {x : Operand} {xs : Array Operand} {ts : Array TypeId} {l : Nat} (ho : o.op = .call ⟨.value x, xs, ts⟩) (hx : ρ x = yieldV l) (w : World) :
    (execOp ρ o).run P w = (Instr.yield l (xs.map ρ)).run P w := by
  have : (#[] : Array Value) ++ xs.map ρ = xs.map ρ := by simp
  simp [execOp, ho, resolve, hx, Deferred.ofValue, invoke, yieldV]

section
variable {ro : Option Nat} {P : Program} {fn : Func} {n : Nat} {R : Ending → World → Prop} {k : List Item} {σ : List (Nat × Value)} {D : List Deferred} {g : Gr} {η ζ θ : List SProp}
  {ops : Array Oper} {i d l : Nat} {ls : List Nat} {f : FuncId} {x y : Operand} {xs : Array Operand} {ts : Array TypeId} {vals : List Value} {K : Value → List SProp → Prop}

theorem O.yield (ho : Fires ops i n σ d (.call ⟨.value x, xs, ts⟩)) (hx : ev σ x = some (yieldV l)) (hv : evs σ xs.toList = some vals) {args : Array Value} (hargs : vals.toArray = args) (con : YCon P l args g.h η (Ret K))
    (h : ∀ v η', K v η' → O ro P fn n R ops ls k ((d, v) :: σ) D g (η' ++ ζ)) : O ro P fn n R ops (i :: ls) k σ D g (η ++ ζ) := by
  intro a w hf hd hw
  obtain ⟨o, hi, hdst, hop, hg, hb⟩ := ho.spec
  have hm : xs.map a.eval = vals.toArray := by rw [← evs_spec hf.knows hv, ← Array.toList_map]
  obtain ⟨f, tm, as, bd, h1, h2⟩ := (con.frame (ζ := ζ)) g (Fr.sub_refl _) w hw
  have hrun : (execOp a.eval o).run P w = .ok (.round l f tm as bd) w := by
    rw [run_callYield hop (hf.knows x _ hx) w, hm, hargs]; exact h1
  refine O.fire hi (hg a hf) (by rw [hop]; intro c hc; cases hc) hrun ?_
  rw [Oper.uponIn_round]
  refine ⟨fun h => (by cases h), RoundIn.mono h2 fun e w' hh => ?_⟩
  obtain ⟨η', ⟨η₁, hp, rfl⟩, hw'⟩ := hh
  cases e with
  | returned v =>
    show wpOpsIn (Wd ro) 0 P ops _ ls (a.put o.dst v) w'
    rw [hdst]
    exact h v η₁ hp _ _ (hf.put hb) hd hw'
  | panicked _ => exact hp.elim
  | outgrown => exact hp.elim
theorem O.yieldU (ho : opAtU ops i = some (.call ⟨.value x, xs, ts⟩)) (hx : ev σ x = some (yieldV l)) (hv : evs σ xs.toList = some vals) {args : Array Value} (hargs : vals.toArray = args) (con : YCon P l args g.h η (Ret K))
    (h : ∀ v η', K v η' → O ro P fn n R ops ls k σ D g (η' ++ ζ)) : O ro P fn n R ops (i :: ls) k σ D g (η ++ ζ) := by
  intro a w hf hd hw
  obtain ⟨o, hi, hdst, hop, hg⟩ := opAtU_spec ho
  have hm : xs.map a.eval = vals.toArray := by rw [← evs_spec hf.knows hv, ← Array.toList_map]
  obtain ⟨f, tm, as, bd, h1, h2⟩ := (con.frame (ζ := ζ)) g (Fr.sub_refl _) w hw
  have hrun : (execOp a.eval o).run P w = .ok (.round l f tm as bd) w := by
    rw [run_callYield hop (hf.knows x _ hx) w, hm, hargs]; exact h1
  refine O.fire hi (by simp [Region.wanted, hg]) (by rw [hop]; intro c hc; cases hc) hrun ?_
  rw [Oper.uponIn_round]
  refine ⟨fun h => (by cases h), RoundIn.mono h2 fun e w' hh => ?_⟩
  obtain ⟨η', ⟨η₁, hp, rfl⟩, hw'⟩ := hh
  cases e with
  | returned v =>
    show wpOpsIn (Wd ro) 0 P ops _ ls (a.put o.dst v) w'
    rw [hdst]
    exact h v η₁ hp _ _ hf hd hw'
  | panicked _ => exact hp.elim
  | outgrown => exact hp.elim

/-! words packed into one -/
theorem Sat.pack {ws : List SProp} {A : SProp} {ζ : List SProp} (hA : ∀ m, Sat ws m → A m) {m : Fr} (h : Sat (ws ++ ζ) m) : Sat (A :: ζ) m := by
  obtain ⟨h1, h2, d, s1, s2, x, y⟩ := Sat.split h
  exact ⟨h1, h2, d, s1, s2, hA _ x, y⟩
theorem Holds.pack {w : World} {ws : List SProp} {A : SProp} (hA : ∀ m, Sat ws m → A m) (h : Holds w g (ws ++ ζ)) : Holds w g (A :: ζ) := h.imp fun _ => Sat.pack hA
theorem S.pack {todo : List Item} {ws : List SProp} {A : SProp} (hb : Sels η ws ζ) (hA : ∀ m, Sat ws m → A m) (h : S ro P fn n R todo σ D g (A :: ζ)) : S ro P fn n R todo σ D g η :=
  fun a w hf hd hw => h a w hf hd ((hw.perm hb.perm).pack hA)
theorem S.unpack {todo : List Item} {ws : List SProp} {A : SProp} (s : Sel η A ζ) (hA : ∀ m, A m → Sat ws m) (h : S ro P fn n R todo σ D g (ws ++ ζ)) : S ro P fn n R todo σ D g η := S.sel s (S.entail hA h)
theorem YCon.imp {args : Array Value} {r : Fr} {Post : Ending → List SProp → Prop} (hs : ∀ m, Sat η m → Sat ζ m) (h : YCon P l args r ζ Post) : YCon P l args r η Post := fun g hr w hw => h g hr w (hw.imp hs)
theorem YCon.exi {args : Array Value} {r : Fr} {Post : Ending → List SProp → Prop} {α : Type} {A : α → SProp} (h : ∀ x, YCon P l args r (A x :: η) Post) : YCon P l args r ((fun m => ∃ x, A x m) :: η) Post := fun g hr w hw => by
  obtain ⟨p, q, rr, k, d, s1, s2, k1, k2, kd, t1, t2, ⟨x, hx⟩, y⟩ := hw
  exact h x g hr w ⟨p, q, rr, k, d, s1, s2, k1, k2, kd, t1, t2, hx, y⟩
theorem YCon.pure {args : Array Value} {r : Fr} {Post : Ending → List SProp → Prop} {p : Prop} {A : SProp} (hs : ∀ m, A m → p) (h : p → YCon P l args r (A :: η) Post) : YCon P l args r (A :: η) Post := fun g hr w hw => by
  have hw0 := hw
  obtain ⟨_, _, _, _, _, _, _, k1, _, _, _, _, hx, _⟩ := hw0
  exact h (hs _ hx) g hr w hw
theorem O.yieldSs (ho : Fires ops i n σ d (.call ⟨.value x, xs, ts⟩)) (hx : ev σ x = some (yieldV l)) (hv : evs σ xs.toList = some vals) {args : Array Value} (hargs : vals.toArray = args) {bs : List SProp} (hb : Sels η bs ζ) (con : YCon P l args g.h bs (Ret K))
    (h : ∀ v η', K v η' → O ro P fn n R ops ls k ((d, v) :: σ) D g (η' ++ ζ)) : O ro P fn n R ops (i :: ls) k σ D g η :=
  fun a w hf hd hw => O.yield ho hx hv hargs con h a w hf hd (hw.perm hb.perm)

/-! a round -/
theorem S.beginRound {L : Loop} (hs : Sel η (blk l (.loop L)) ζ) (hr : L.state = .ready) (h : S (some l) P fn n R k σ D g (blk l (.loop { L with state := .busy }) :: ζ)) : S (some l) P fn n R (.beginRound :: k) σ D g η := by
  intro a w hf hd hw b cs hb hfn
  have hw1 := hw.sel hs
  obtain ⟨e, a', w', q, r⟩ := h a _ hf hd (hw1.putObj (.loop { L with state := .busy })) b cs hb hfn
  exact ⟨e, a', w', q, .of_steps (.one (fenced_wide P _) (stepR_beginRound hb (run_beginRound hw1.block hr))) r⟩
theorem S.roundEnd {L : Loop} (hs : Sel η (blk l (.loop L)) ζ) (h : ∀ w, Holds w g (blk l (.loop { L with state := .ready, pending := none }) :: ζ) → R (.returned (.bool true)) w) : S (some l) P fn n R [] σ D g η := by
  intro a w hf hd hw
  have hw1 := hw.sel hs
  exact .nil ⟨_, _, run_endRound none hw1.block, h _ (hw1.putObj _)⟩
theorem S.roundRet {L : Loop} (hs : Sel η (blk l (.loop L)) ζ) (h : ∀ w, Holds w g (blk l (.loop { L with state := .done, pending := some .ret }) :: ζ) → R (.returned (.bool false)) w) : S (some l) P fn n R (.code .ret :: k) σ D g η := by
  intro a w hf hd hw
  have hw1 := hw.sel hs
  exact .ret ⟨_, _, run_endRound (some .ret) hw1.block, h _ (hw1.putObj _)⟩
theorem S.roundExit {L : Loop} {id : Nat} (hk : exitTo id k = none) (hs : Sel η (blk l (.loop L)) ζ) (h : ∀ w, Holds w g (blk l (.loop { L with state := .done, pending := some (.exit id) }) :: ζ) → R (.returned (.bool false)) w) :
    S (some l) P fn n R (.code (.exit id) :: k) σ D g η := by
  intro a w hf hd hw
  have hw1 := hw.sel hs
  exact .exitOut hk ⟨_, _, run_endRound (some (.exit id)) hw1.block, h _ (hw1.putObj _)⟩

/-- what yield's parameters are, ahead of what was known -/
def under : List Nat → List Value → List (Nat × Value) → List (Nat × Value)
  | p :: ps, v :: vs, σ => under ps vs ((p, v) :: σ)
  | _, _, σ => σ
theorem fits_params : ∀ (ps : List Nat) (vs : List Value) (tm : Array Value) (σ : List (Nat × Value)), (∀ p ∈ ps, Nat.blt p n = true) → Fits { tmps := tm, defers := [] } n σ →
    Fits { tmps := (ps.zip vs).foldl (fun tmps (x : Nat × Value) => tmps.setIfInBounds x.1 x.2) tm, defers := [] } n (under ps vs σ)
  | [], _, _, _, _, h => h
  | _ :: _, [], _, _, _, h => h
  | p :: ps, v :: vs, tm, σ, hb, h => by
    have := h.put (v := v) (hb p (List.mem_cons_self ..))
    exact fits_params ps vs _ _ (fun q hq => hb q (List.mem_cons_of_mem _ hq)) this

/-- what a round does, from its walk -/
theorem YCon.of {L : Loop} {args : Array Value} {r : Fr} {η : List SProp} {Post : Ending → List SProp → Prop} (vs : List Value) (ps : List Nat) (ha : args = vs.toArray) (hps : L.params = ps.toArray) (hln : vs.length = ps.length)
    (hb : ps.all (fun p => Nat.blt p n) = true) (hfn : ∃ f, P.funcs[L.fn]? = some f) (hfit : Fits { tmps := L.tmps, defers := [] } n σ)
    (h : ∀ g : Gr, r.sub g.h → ∀ R : Ending → World → Prop, (∀ e η' w', Post e η' → Holds w' g η' → R e w') → S (some l) P fn n R [.code L.assign, .beginRound, .code L.body] (under ps vs σ) [] g (blk l (.loop L) :: η)) :
    YCon P l args r (blk l (.loop L) :: η) Post := by
  intro g hr w hw
  subst ha
  refine ⟨_, _, _, _, run_yield hw.block (by simp [hps, hln]), round_of_runs (fn := fn) hfn ?_⟩
  refine h g hr _ (fun e η' w' hp hh => ⟨η', hp, hh⟩) _ w ?_ rfl hw
  have := fits_params ps vs L.tmps σ (fun p hp => List.all_eq_true.1 hb p hp) hfit
  have e : L.params.zip vs.toArray = (ps.zip vs).toArray := by rw [hps]; simp
  rw [e, List.foldl_toArray]
  exact this

/-- the record of a loop that is entered -/
def loopRec (fid : FuncId) (tm : Array Value) (ps : Array Tmp) (assign body : Code) (D0 : Nat) : Loop := { state := .ready, pending := none, fn := fid, tmps := tm, params := ps, assign, body, defers := D0 }

/-- a range over a function: its function's contract over the loop's record; then what follows, by the jump that is left -/
theorem S.rangeFunc {first cap : Array Value} {ps : Array Tmp} {assign body : Code} {J : Option Code → List SProp → Prop} (hx : ev σ x = some (.func (.func f) first cap)) (hc : callable P f = true)
    (con : ∀ (l D0 fid : Nat) (tm : Array Value), (∃ fn', P.funcs[fid]? = some fn') → Fits { tmps := tm, defers := [] } n σ →
      Con P f (first ++ #[yieldV l] ++ cap) g.h (blk l (.loop (loopRec fid tm ps assign body D0)) :: η) (Ret fun _ η' => ∃ L ζ, L.state ≠ .busy ∧ J L.pending ζ ∧ η' = blk l (.loop L) :: ζ))
    (h : ∀ D0 jump ζ, J jump ζ → S none P fn n R ((jump.map Item.code).toList ++ k) σ (⟨.collected D0, #[]⟩ :: D) g (blk D0 (.deferred (some [])) :: ζ)) :
    S none P fn n R (.code (.rangeFunc x ps assign body) :: k) σ D g η := by
  intro a w hf hd hw b cs hb hfn
  have he := run_enterLoop_outer (P := P) (w := w) b.fn a.tmps ps assign body
  rw [← hb] at he
  have hres : (resolve a.eval (rangeCall x (w.heap.size + 1)) 0).run P ((w.alloc (.deferred (some []))).alloc (.loop (loopRec b.fn a.tmps ps assign body w.heap.size))) =
      .ok ⟨.fn (.func f) cap, first ++ #[yieldV (w.heap.size + 1)]⟩ ((w.alloc (.deferred (some []))).alloc (.loop (loopRec b.fn a.tmps ps assign body w.heap.size))) := by
    have hce : ∀ v, a.eval (.const v) = v := fun _ => rfl
    simp [rangeCall, resolve, hf.eval hx, Deferred.ofValue, yieldV, hce]
  have hinv : (invoke (Target.fn (.func f) cap) (first ++ #[yieldV (w.heap.size + 1)])).run P ((w.alloc (.deferred (some []))).alloc (.loop (loopRec b.fn a.tmps ps assign body w.heap.size))) =
      .ok (.enter f (first ++ #[yieldV (w.heap.size + 1)] ++ cap)) ((w.alloc (.deferred (some []))).alloc (.loop (loopRec b.fn a.tmps ps assign body w.heap.size))) := by
    simp only [invoke]; exact run_callFunc hc _ _
  have henter := stepR_rangeFunc (P := P) (b := b) (a := a) (k := k) (cs := cs) (w := w) he hres hinv
  have hw1 := (hw.alloc (.deferred (some []))).alloc (.loop (loopRec b.fn a.tmps ps assign body w.heap.size))
  have hsz : (w.alloc (.deferred (some []))).heap.size = w.heap.size + 1 := by simp
  rw [hsz] at hw1
  have hc1 := (con (w.heap.size + 1) w.heap.size b.fn a.tmps hfn ⟨hf.1, hf.2⟩).frame (ζ := [blk w.heap.size (.deferred (some []))]) g (Fr.sub_refl _) _
    (hw1.perm (List.Perm.cons _ (List.perm_append_comm (l₁ := [_]) (l₂ := η))))
  obtain ⟨e, w₃, fr, hR, hsteps, hfn', hleave⟩ := hc1 (b.atR { a with defers := [⟨.collected w.heap.size, #[]⟩] ++ a.defers } (.inRangeFunc (w.heap.size + 1) :: k) :: cs)
  obtain ⟨η', ⟨η₁, hp, rfl⟩, hw3⟩ := hR
  cases e with
  | panicked _ => exact hp.elim
  | outgrown => exact hp.elim
  | returned v =>
    obtain ⟨L, ζ, hbusy, hJ, rfl⟩ := hp
    have hw4 := hw3.putObj (o := .loop L) (.loop { L with state := .exhausted })
    have hend := run_endLoop (P := P) hw3.block hbusy
    have hw5 : Holds (w₃.putObj (w.heap.size + 1) (.loop { L with state := .exhausted })) g (blk w.heap.size (.deferred (some [])) :: ζ) := (Holds.drop hw4).perm List.perm_append_comm
    have sback : StepsIn (Machine.fenced P Fence.wide) P (lone (b.atR a (.code (.rangeFunc x ps assign body) :: k)) cs w)
        (lone (b.atR { a with defers := [⟨.collected w.heap.size, #[]⟩] ++ a.defers } ((L.pending.map Item.code).toList ++ k)) cs (w₃.putObj (w.heap.size + 1) (.loop { L with state := .exhausted }))) := by
      refine .head (fenced_wide P _) henter (StepsIn.trans (stepsIn_wide.2 hsteps) (.head (fenced_wide P _) ?_ (.one (fenced_wide P _) (stepR_endRangeFunc hend))))
      rw [← finish_atR_inRangeFunc (w.heap.size + 1) v]; exact step_leave_returned hleave
    obtain ⟨e, a', w', q, r⟩ := h w.heap.size L.pending ζ hJ { a with defers := [⟨.collected w.heap.size, #[]⟩] ++ a.defers } _ ⟨hf.1, hf.2⟩ (by simp [hd]) hw5 b cs hb hfn
    exact ⟨e, a', w', q, .of_steps sback r⟩

/-! marks, and results of several sorts -/
/-- marks alone are left; what the words turn to -/
inductive Marks : List Deferred → List SProp → List SProp → Prop
  | nil {η : List SProp} : Marks [] η η
  | cons {D0 : Nat} {D : List Deferred} {η ζ θ : List SProp} (hs : Sel η (blk D0 (.deferred (some []))) θ) (h : Marks D θ ζ) : Marks (⟨.collected D0, #[]⟩ :: D) η ζ
theorem Marks.lv {tmps : Array Value} (m : Marks D η ζ) : ∀ {w : World}, Holds w g η → (∀ w', Holds w' g ζ → Leaves P fn tmps R [] .returning w') → Lv P fn tmps R D .returning w := by
  induction m with
  | nil => exact fun hw h => h _ hw
  | cons hs m ih =>
    intro w hw h
    have hw1 := hw.sel hs
    exact ⟨by simp, .inl ⟨_, _, rfl, run_takeDeferred hw1.block, ih (hw1.putObj _).drop h⟩⟩

/-- one result -/
def resRun (tmps : Array Value) : ResultVar → Sem Value
  | .tmp t => pure (tmps.getD t undef)
  | .cell a t => do loadVar t (← asAddr (tmps.getD a undef))
def RV (P : Program) (n : Nat) (σ : List (Nat × Value)) (g : Gr) (ζ : List SProp) (r : ResultVar) (v : Value) : Prop := ∀ a w, Fits a n σ → Holds w g ζ → (resRun a.tmps r).run P w = .ok v w
theorem RV.tmp {t : Nat} {v : Value} (hl : look σ t = some v) : RV P n σ g ζ (.tmp t) v := fun a w hf hw => by
  have := hf.2 t v hl
  simp [resRun, Array.getD_eq_getD_getElem?, this]
theorem RV.cell {tt b : Nat} {ty T : TypeId} {v : Value} (hty : flat1 P ty = true) (hl : look σ tt = some (.pointer (some ⟨b, 0, none⟩))) (hs : Sel ζ (obj b T [v]) θ) : RV P n σ g ζ (.cell tt ty) v := fun a w hf hw => by
  have hc0 : w.cell? ⟨b, 0, none⟩ = some v := (hw.sel hs).obj_cell (by rfl)
  have hl' := hf.2 tt _ hl
  simp [resRun, Array.getD_eq_getD_getElem?, hl', asAddr, loadVar, run_isAgg_flat (flat1_flat hty), hc0]
theorem RV.agg {tt b : Nat} {ty T : TypeId} {cs : List Value} (hty : ∀ w, (isAgg ty).run P w = .ok true w) (hsz : (P.info? ty).map (·.size) = some cs.length) (hl : look σ tt = some (.pointer (some ⟨b, 0, none⟩))) (hs : Sel ζ (obj b T cs) θ) :
    RV P n σ g ζ (.cell tt ty) (.agg cs.toArray) := fun a w hf hw => by
  have hw' := hw.sel hs
  have hc0 := run_loadCells_list (P := P) w ⟨b, 0, none⟩ cs fun j v hj => by
    rw [add_lit]; exact hw'.obj_cell (by simpa using hj)
  have hl' := hf.2 tt _ hl
  simp [resRun, Array.getD_eq_getD_getElem?, hl', asAddr, loadVar, hty, run_sizeOf hsz, hc0]
theorem results_eq (tmps : Array Value) : results fn tmps = (do
    let vs ← fn.results.mapM (resRun tmps)
    pure (if h : vs.size = 1 then vs[0] else .tuple vs)) := rfl
theorem results1 {a : Act} {w : World} {r : ResultVar} {v : Value} (hr : fn.results = #[r]) (h : RV P n σ g ζ r v) (hf : Fits a n σ) (hw : Holds w g ζ) : (results fn a.tmps).run P w = .ok v w := by
  rw [results_eq]; simp [hr, Sem.run_bind, h a w hf hw, Result.andThen]
theorem results2 {a : Act} {w : World} {r s : ResultVar} {v u : Value} (hr : fn.results = #[r, s]) (h : RV P n σ g ζ r v) (h' : RV P n σ g ζ s u) (hf : Fits a n σ) (hw : Holds w g ζ) : (results fn a.tmps).run P w = .ok (.tuple #[v, u]) w := by
  rw [results_eq]; simp [hr, Sem.run_bind, h a w hf hw, h' a w hf hw, Result.andThen]
theorem results3 {a : Act} {w : World} {r s t : ResultVar} {v u x : Value} (hr : fn.results = #[r, s, t]) (h : RV P n σ g ζ r v) (h' : RV P n σ g ζ s u) (h'' : RV P n σ g ζ t x) (hf : Fits a n σ) (hw : Holds w g ζ) :
    (results fn a.tmps).run P w = .ok (.tuple #[v, u, x]) w := by
  rw [results_eq]; simp [hr, Sem.run_bind, h a w hf hw, h' a w hf hw, h'' a w hf hw, Result.andThen]
theorem results0 {a : Act} {w : World} (hr : fn.results = #[]) : (results fn a.tmps).run P w = .ok (.tuple #[]) w := by
  rw [results_eq]; simp [hr]
/-- the end of a walk: off its end, or by 'ret' -/
def Off (todo : List Item) : Prop := todo = [] ∨ ∃ k, todo = .code .ret :: k
theorem S.off {todo : List Item} (ht : Off todo) (h : ∀ a w, Fits a n σ → a.defers = D → Holds w g η → Lv P fn a.tmps R D .returning w) : S none P fn n R todo σ D g η := by
  rcases ht with rfl | ⟨k, rfl⟩
  · intro a w hf hd hw; refine .nil ?_; show Lv P fn a.tmps R a.defers .returning w; rw [hd]; exact h a w hf hd hw
  · intro a w hf hd hw; refine .ret ?_; show Lv P fn a.tmps R a.defers .returning w; rw [hd]; exact h a w hf hd hw
theorem S.retM0 {todo : List Item} (ht : Off todo) (m : Marks D η ζ) (hr : fn.results = #[]) (h : ∀ w, Holds w g ζ → R (.returned (.tuple #[])) w) : S none P fn n R todo σ D g η :=
  S.off ht fun _ _ _ _ hw => m.lv hw fun w' hw' => ⟨_, results0 hr, h w' hw'⟩
theorem S.retM1 {todo : List Item} {r1 : ResultVar} {v1 : Value} (ht : Off todo) (m : Marks D η ζ) (hr : fn.results = #[r1]) (h1 : RV P n σ g ζ r1 v1) (h : ∀ w, Holds w g ζ → R (.returned v1) w) : S none P fn n R todo σ D g η :=
  S.off ht fun _ _ hf _ hw => m.lv hw fun w' hw' => ⟨_, results1 hr h1 hf hw', h w' hw'⟩
theorem S.retM2 {todo : List Item} {r1 r2 : ResultVar} {v1 v2 : Value} (ht : Off todo) (m : Marks D η ζ) (hr : fn.results = #[r1, r2]) (h1 : RV P n σ g ζ r1 v1) (h2 : RV P n σ g ζ r2 v2) (h : ∀ w, Holds w g ζ → R (.returned (.tuple #[v1, v2])) w) : S none P fn n R todo σ D g η :=
  S.off ht fun _ _ hf _ hw => m.lv hw fun w' hw' => ⟨_, results2 hr h1 h2 hf hw', h w' hw'⟩
theorem S.retM3 {todo : List Item} {r1 r2 r3 : ResultVar} {v1 v2 v3 : Value} (ht : Off todo) (m : Marks D η ζ) (hr : fn.results = #[r1, r2, r3]) (h1 : RV P n σ g ζ r1 v1) (h2 : RV P n σ g ζ r2 v2) (h3 : RV P n σ g ζ r3 v3)
    (h : ∀ w, Holds w g ζ → R (.returned (.tuple #[v1, v2, v3])) w) : S none P fn n R todo σ D g η :=
  S.off ht fun _ _ hf _ hw => m.lv hw fun w' hw' => ⟨_, results3 hr h1 h2 h3 hf hw', h w' hw'⟩
theorem S.objIs {todo : List Item} {b : Nat} {T : TypeId} {cs cs' : List Value} (s : Sel η (obj b T cs) ζ) (e : cs = cs') (h : S ro P fn n R todo σ D g (obj b T cs' :: ζ)) : S ro P fn n R todo σ D g η := S.sel s (e ▸ h)
theorem O.objIs {b : Nat} {T : TypeId} {cs cs' : List Value} (s : Sel η (obj b T cs) ζ) (e : cs = cs') (h : O ro P fn n R ops ls k σ D g (obj b T cs' :: ζ)) : O ro P fn n R ops ls k σ D g η := fun a w hf hd hw => by subst e; exact h a w hf hd (hw.sel s)
/-- one deferred call, then the results -/
def DEnd (fn : Func) (tmps : Array Value) (P : Program) (R : Ending → World → Prop) (w : World) : Prop := ∃ v, (results fn tmps).run P w = .ok v w ∧ R (.returned v) w
theorem leavesD {a : Act} {w : World} {u : FrameMode} {cap args : Array Value} (hu : u ≠ .run) (hc : callable P f = true)
    (hcall : CallsD P f (args ++ cap) u w fun e u' w' => (∃ v, e = .returned v) ∧ settle u' = .returning ∧ DEnd fn a.tmps P R w') : Lv P fn a.tmps R [⟨.fn (.func f) cap, args⟩] u w := by
  refine Lv.of (leaves_cons hu (by simp [invoke, run_callFunc hc]) (hcall.mono ?_))
  rintro e u' w' ⟨⟨v, rfl⟩, hs, hE⟩
  show Leaves P fn a.tmps R [] (settle u') w'
  rw [hs]; exact hE
theorem DEnd.two {a : Act} {w : World} {r s : ResultVar} {v u : Value} (hr : fn.results = #[r, s]) (h : RV P n σ g ζ r v) (h' : RV P n σ g ζ s u) (hf : Fits a n σ) (hw : Holds w g ζ) (hR : R (.returned (.tuple #[v, u])) w) : DEnd fn a.tmps P R w :=
  ⟨_, results2 hr h h' hf hw, hR⟩
end
end Go.Sp
