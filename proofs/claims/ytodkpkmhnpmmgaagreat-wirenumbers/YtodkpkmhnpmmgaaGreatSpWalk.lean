import Derived.Test.YtodkpkmhnpmmgaaGreatSpCore
namespace Go.Sp

/-- from this list of things to do a run comes to an end that Q lets -/
def Runs (P : Program) (todo : List Item) (Q : Exit → Act → World → Prop) (a : Act) (w : World) : Prop :=
  ∀ (b : Frame) (cs : List Frame), ∃ e a' w', Q e a' w' ∧ Arrives P (lone (b.at a todo) cs w) b [] cs e a' w'

section runs
variable {P : Program} {Q : Exit → Act → World → Prop} {a : Act} {w : World} {k : List Item}

theorem Runs.step {todo todo' : List Item} {a' : Act} {w' : World} (hs : ∀ (b : Frame) (cs : List Frame), step P (lone (b.at a todo) cs w) = .next (lone (b.at a' todo') cs w'))
    (h : Runs P todo' Q a' w') : Runs P todo Q a w := fun b cs =>
  let ⟨e, a', w', q, r⟩ := h b cs; ⟨e, a', w', q, .of_steps (.one (hs b cs)) r⟩
theorem Runs.nil (h : Q .normal a w) : Runs P [] Q a w := fun _ _ => ⟨.normal, a, w, h, Steps.refl _ _⟩
theorem Runs.ret (h : Q .ret a w) : Runs P (.code .ret :: k) Q a w := fun _ _ => ⟨.ret, a, w, h, _, .one step_ret⟩

/-- what follows a region -/
def QK (P : Program) (k : List Item) (Q : Exit → Act → World → Prop) : Exit → Act → World → Prop
  | .normal, a, w => Runs P k Q a w
  | .panic ch, a, w => Q (.panic ch) a w
  | .outgrown, a, w => Q .outgrown a w
  | _, _, _ => False

theorem Runs.ops {ops : Array Oper} {l : List Nat} (h : wpOps P ops (QK P k Q) l a w) : Runs P (.inRegion ops l :: k) Q a w := by
  intro b cs
  obtain ⟨e, a', w', hq, harr⟩ := wp_ops l a w h b k cs
  cases e with
  | normal =>
    obtain ⟨e, a'', w'', q, r⟩ := hq b cs
    exact ⟨e, a'', w'', q, .of_steps harr r⟩
  | panic ch => exact ⟨_, a', w', hq, harr⟩
  | outgrown => exact ⟨.outgrown, a', w', hq, harr⟩
  | exit _ => exact hq.elim
  | goto _ => exact hq.elim
  | ret => exact hq.elim

theorem calls_of_runs {f : FuncId} {fn : Func} {c : Code} {args : Array Value} {R : Ending → World → Prop}
    (hf : P.funcs[f]? = some fn) (hb : fn.body = some c)
    (h : Runs P [.code c] (bodyPostD P fn R) { tmps := args ++ Array.replicate (fn.ntmps - args.size) undef, defers := [] } w) : Calls P f args w R := by
  intro cs
  let b : Frame := { (default : Frame) with fn := f, kind := .normal }
  have henter : Frame.enter P f args .normal =
      b.at { tmps := args ++ Array.replicate (fn.ntmps - args.size) undef, defers := [] } [.code c] := by
    simp [Frame.enter, Frame.at, hf, hb, b]
  obtain ⟨e, a', w', hq, harr⟩ := h b cs
  rw [← henter] at harr
  cases e with
  | normal =>
    obtain ⟨e', w'', fr', hR, hs, hfn, hl⟩ := leaves_steps a'.defers .returning w' { b.at a' [] with mode := .returning } cs rfl rfl rfl hf rfl hq
    exact ⟨e', w'', fr', hR, Comes.of_steps (Steps.trans harr (.one step_end)) hs, hfn, hl⟩
  | ret =>
    obtain ⟨todo, hs₀⟩ := harr
    obtain ⟨e', w'', fr', hR, hs, hfn, hl⟩ := leaves_steps a'.defers .returning w' { b.at a' todo with mode := .returning } cs rfl rfl rfl hf rfl hq
    exact ⟨e', w'', fr', hR, Comes.of_steps hs₀ hs, hfn, hl⟩
  | panic chain =>
    obtain ⟨todo, hs₀⟩ := harr
    obtain ⟨e', w'', fr', hR, hs, hfn, hl⟩ := leaves_steps a'.defers (.panicking chain) w' { b.at a' todo with mode := .panicking chain } cs rfl rfl rfl hf rfl hq
    exact ⟨e', w'', fr', hR, Comes.of_steps hs₀ hs, hfn, hl⟩
  | exit id => exact hq.elim
  | goto l => exact hq.elim
  | outgrown => exact ⟨.outgrown, w', b, hq, harr.resolve_left (by simp [b]), rfl, trivial⟩
end runs

/-- what is known of a frame's slots -/
def look : List (Nat × Value) → Nat → Option Value
  | [], _ => none
  | (s, v) :: σ, t => match Nat.beq s t with | true => some v | false => look σ t

def ev (σ : List (Nat × Value)) : Operand → Option Value
  | .tmp t => look σ t
  | .const v => some v
  | .global g => some (.pointer (some ⟨g, 0, none⟩))
  | .func f => some (.func (.func f) #[] #[])

def Sub (σ' σ : List (Nat × Value)) : Prop := ∀ t v, look σ' t = some v → look σ t = some v
theorem Sub.nil {σ : List (Nat × Value)} : Sub [] σ := fun _ _ h => by cases h
theorem Sub.refl {σ : List (Nat × Value)} : Sub σ σ := fun _ _ h => h
theorem Sub.cons {σ σ' : List (Nat × Value)} {t : Nat} {v : Value} (h : look σ t = some v) (hs : Sub σ' σ) : Sub ((t, v) :: σ') σ := fun s u hu => by
  simp only [look] at hu
  split at hu
  · rename_i hb; cases hu; rw [← Nat.eq_of_beq_eq_true hb]; exact h
  · exact hs s u hu

def Fits (a : Act) (n : Nat) (σ : List (Nat × Value)) : Prop := a.tmps.size = n ∧ ∀ t v, look σ t = some v → a.tmps[t]? = some v
theorem Fits.sub {a : Act} {n : Nat} {σ σ' : List (Nat × Value)} (h : Fits a n σ) (hs : Sub σ' σ) : Fits a n σ' := ⟨h.1, fun t v x => h.2 t v (hs t v x)⟩
theorem Fits.eval {a : Act} {n : Nat} {σ : List (Nat × Value)} (h : Fits a n σ) {x : Operand} {v : Value} (hx : ev σ x = some v) : a.eval x = v := by
  cases x with
  | tmp t => have := h.2 t v hx; simp only [Act.eval, Array.getD_eq_getD_getElem?, this, Option.getD_some]
  | const u => simpa [ev, Act.eval] using hx
  | global g => simpa [ev, Act.eval] using hx
  | func f => simpa [ev, Act.eval] using hx
theorem Fits.put {a : Act} {n d : Nat} {σ : List (Nat × Value)} {v : Value} (h : Fits a n σ) (hd : Nat.blt d n = true) : Fits (a.put (some d) v) n ((d, v) :: σ) := by
  have hd' : d < a.tmps.size := by rw [h.1]; exact of_decide_eq_true (by simpa [Nat.blt_eq] using hd)
  refine ⟨by simp [Act.put, h.1], fun t u hu => ?_⟩
  simp only [look] at hu
  split at hu
  · rename_i hb; cases hu; have := Nat.eq_of_beq_eq_true hb; subst this
    simp [Act.put, Array.getElem?_setIfInBounds_self_of_lt hd']
  · rename_i hb
    have hne : d ≠ t := by rintro rfl; simp at hb
    have := h.2 t u hu
    simp only [Act.put, Array.getElem?_setIfInBounds_ne hne, this]

/-- all operands that are known have these values -/
def Knows (σ : List (Nat × Value)) (ρ : Operand → Value) : Prop := ∀ x v, ev σ x = some v → ρ x = v
theorem Fits.knows {a : Act} {n : Nat} {σ : List (Nat × Value)} (h : Fits a n σ) : Knows σ a.eval := fun _ _ hx => h.eval hx

/-- an operation yields v -/
def Does (P : Program) (op : Op) (σ : List (Nat × Value)) (g : Gr) (η : List SProp) (v : Value) (η' : List SProp) : Prop :=
  ∀ (o : Oper) (ρ : Operand → Value) (w : World), o.op = op → Knows σ ρ → Holds w g η → ∃ w', (execOp ρ o).run P w = .ok (.value v) w' ∧ Holds w' g η'
/-- an operation that yields nothing -/
def DoesU (P : Program) (op : Op) (σ : List (Nat × Value)) (g : Gr) (η : List SProp) (η' : List SProp) : Prop :=
  ∀ (o : Oper) (ρ : Operand → Value) (w : World), o.op = op → Knows σ ρ → Holds w g η → ∃ w', (execOp ρ o).run P w = .ok .skip w' ∧ Holds w' g η'

/-- the walk's own judgement -/
def S (P : Program) (fn : Func) (n : Nat) (R : Ending → World → Prop) (todo : List Item) (σ : List (Nat × Value)) (D : List Deferred) (g : Gr) (η : List SProp) : Prop :=
  ∀ a w, Fits a n σ → a.defers = D → Holds w g η → Runs P todo (bodyPostD P fn R) a w
/-- inside a region -/
def O (P : Program) (fn : Func) (n : Nat) (R : Ending → World → Prop) (ops : Array Oper) (l : List Nat) (k : List Item) (σ : List (Nat × Value)) (D : List Deferred) (g : Gr) (η : List SProp) : Prop :=
  ∀ a w, Fits a n σ → a.defers = D → Holds w g η → wpOps P ops (QK P k (bodyPostD P fn R)) l a w

section rules
variable {P : Program} {fn : Func} {n : Nat} {R : Ending → World → Prop} {k : List Item} {σ σ' : List (Nat × Value)} {D : List Deferred} {g : Gr} {η η' : List SProp}

theorem S.weaken {todo : List Item} (hs : Sub σ' σ) (h : S P fn n R todo σ' D g η) : S P fn n R todo σ D g η := fun a w hf hd hw => h a w (hf.sub hs) hd hw
theorem S.perm {todo : List Item} (p : η.Perm η') (h : S P fn n R todo σ D g η') : S P fn n R todo σ D g η := fun a w hf hd hw => h a w hf hd (hw.perm p)
theorem S.sel {todo : List Item} {A : SProp} {ζ : List SProp} (s : Sel η A ζ) (h : S P fn n R todo σ D g (A :: ζ)) : S P fn n R todo σ D g η := S.perm s.perm h
theorem S.drop {todo : List Item} {A : SProp} (h : S P fn n R todo σ D g η) : S P fn n R todo σ D g (A :: η) := fun a w hf hd hw => h a w hf hd hw.drop
theorem S.imp {todo : List Item} (hs : ∀ k, Sat η k → Sat η' k) (h : S P fn n R todo σ D g η') : S P fn n R todo σ D g η := fun a w hf hd hw => h a w hf hd (hw.imp hs)
theorem S.entail {todo : List Item} {A : SProp} {ζ : List SProp} (hs : ∀ k, A k → Sat ζ k) (h : S P fn n R todo σ D g (ζ ++ η)) : S P fn n R todo σ D g (A :: η) :=
  fun a w hf hd hw => h a w hf hd (hw.entail hs)
/-- what a word says of a part for itself -/
theorem S.fact {todo : List Item} {A : SProp} {p : Prop} (hs : ∀ k, A k → p) (h : p → S P fn n R todo σ D g (A :: η)) : S P fn n R todo σ D g (A :: η) :=
  fun a w hf hd hw => by
    have hw0 := hw
    obtain ⟨_, _, _, _, _, _, _, hk⟩ := hw0
    obtain ⟨_, _, _, _, _, x, _⟩ := hk
    exact h (hs _ x) a w hf hd hw
theorem S.exi {todo : List Item} {α : Type} {A : α → SProp} (h : ∀ x, S P fn n R todo σ D g (A x :: η)) : S P fn n R todo σ D g ((fun k => ∃ x, A x k) :: η) :=
  fun a w hf hd hw => by
    obtain ⟨p, q, r, k, d, s1, s2, k1, k2, kd, t1, t2, ⟨x, hx⟩, y⟩ := hw
    exact h x a w hf hd ⟨p, q, r, k, d, s1, s2, k1, k2, kd, t1, t2, hx, y⟩
theorem S.freeze {todo : List Item} {A : SProp} (h : ∀ k : Fr, A k → g.h.disj k → S P fn n R todo σ D (g.add k) η) : S P fn n R todo σ D g (A :: η) :=
  fun a w hf hd hw => by
    obtain ⟨k, hk, hdj, hw'⟩ := hw.freeze
    exact h k hk hdj a w hf hd hw'
theorem S.thaw {todo : List Item} {A : SProp} {k : Fr} (hk : A k) (hdj : g.h.disj k) (h : S P fn n R todo σ D g (A :: η)) : S P fn n R todo σ D (g.add k) η :=
  fun a w hf hd hw => h a w hf hd (hw.thaw hk hdj)

theorem S.seq {x y : Code} (h : S P fn n R (.code x :: .code y :: k) σ D g η) : S P fn n R (.code (.seq x y) :: k) σ D g η :=
  fun a w hf hd hw => .step (fun _ _ => step_seq) (h a w hf hd hw)
theorem S.skip (h : S P fn n R k σ D g η) : S P fn n R (.code .skip :: k) σ D g η := fun a w hf hd hw => .step (fun _ _ => step_skip) (h a w hf hd hw)
theorem S.label {l : Nat} (h : S P fn n R k σ D g η) : S P fn n R (.code (.label l) :: k) σ D g η := fun a w hf hd hw => .step (fun _ _ => step_label) (h a w hf hd hw)
theorem S.inBlock {id : Nat} (h : S P fn n R k σ D g η) : S P fn n R (.inBlock id :: k) σ D g η := fun a w hf hd hw => .step (fun _ _ => step_inBlock) (h a w hf hd hw)
theorem S.block {id : Nat} {c : Code} (h : S P fn n R (.code c :: .inBlock id :: k) σ D g η) : S P fn n R (.code (.block id c) :: k) σ D g η :=
  fun a w hf hd hw => .step (fun _ _ => step_block) (h a w hf hd hw)
theorem S.exit {id : Nat} {k' : List Item} (hk : exitTo id k = some k') (h : S P fn n R k' σ D g η) : S P fn n R (.code (.exit id) :: k) σ D g η :=
  fun a w hf hd hw => .step (fun _ _ => step_exit hk) (h a w hf hd hw)
theorem S.goto {l : Nat} {k' : List Item} (hk : gotoIn l k = some k') (h : S P fn n R k' σ D g η) : S P fn n R (.code (.goto l) :: k) σ D g η :=
  fun a w hf hd hw => .step (fun _ _ => step_goto hk) (h a w hf hd hw)
theorem S.condT {c : Operand} {x y : Code} (hc : ev σ c = some (.bool true)) (h : S P fn n R (.code x :: k) σ D g η) : S P fn n R (.code (.cond c x y) :: k) σ D g η :=
  fun a w hf hd hw => .step (fun _ _ => step_cond (hf.eval hc)) (h a w hf hd hw)
theorem S.condF {c : Operand} {x y : Code} (hc : ev σ c = some (.bool false)) (h : S P fn n R (.code y :: k) σ D g η) : S P fn n R (.code (.cond c x y) :: k) σ D g η :=
  fun a w hf hd hw => .step (fun _ _ => step_cond (hf.eval hc)) (h a w hf hd hw)
theorem S.condB {c : Operand} {x y : Code} {b : Bool} (hc : ev σ c = some (.bool b)) (ht : b = true → S P fn n R (.code x :: k) σ D g η) (hf : b = false → S P fn n R (.code y :: k) σ D g η) :
    S P fn n R (.code (.cond c x y) :: k) σ D g η := by
  cases b
  · exact S.condF hc (hf rfl)
  · exact S.condT hc (ht rfl)
theorem S.condD {c : Operand} {x y : Code} {p : Prop} [Decidable p] (hc : ev σ c = some (.bool (decide p))) (ht : p → S P fn n R (.code x :: k) σ D g η) (hf : ¬p → S P fn n R (.code y :: k) σ D g η) :
    S P fn n R (.code (.cond c x y) :: k) σ D g η :=
  S.condB hc (fun h => ht (of_decide_eq_true h)) (fun h => hf (of_decide_eq_false h))
theorem S.loop {ι : Type} {c : Code} (φ : ι → Prop) (σs : ι → List (Nat × Value)) (ηs : ι → List SProp) (μ : ι → Nat) (x₀ : ι) (h₀ : φ x₀) (hσ : Sub (σs x₀) σ) (hη : η = ηs x₀)
    (round : ∀ x, φ x → (∀ y, φ y → μ y < μ x → S P fn n R (.inLoop c :: k) (σs y) D g (ηs y)) → S P fn n R (.code c :: .inLoop c :: k) (σs x) D g (ηs x)) :
    S P fn n R (.code (.loop c) :: k) σ D g η := by
  have key : ∀ m x, μ x = m → φ x → S P fn n R (.code c :: .inLoop c :: k) (σs x) D g (ηs x) := by
    intro m
    induction m using Nat.strongRecOn with
    | _ m ih =>
      intro x hm hx
      refine round x hx fun y hy hlt a w hf hd hw => .step (fun _ _ => step_inLoop) (ih (μ y) (hm ▸ hlt) y rfl hy a w hf hd hw)
  subst hη
  exact fun a w hf hd hw => .step (fun _ _ => step_loop) (key _ x₀ rfl h₀ a w (hf.sub hσ) hd hw)

theorem S.region {id : Nat} {ops : Array Oper} {l : List Nat} (hl : List.range ops.size = l) (h : O P fn n R ops l k σ D g η) : S P fn n R (.code (.region id ops false) :: k) σ D g η :=
  fun a w hf hd hw => .step (fun _ _ => step_region) (.ops (hl ▸ h a w hf hd hw))

theorem O.nil {ops : Array Oper} (h : S P fn n R k σ D g η) : O P fn n R ops [] k σ D g η := fun a w hf hd hw => h a w hf hd hw
theorem O.weaken {ops : Array Oper} {l : List Nat} (hs : Sub σ' σ) (h : O P fn n R ops l k σ' D g η) : O P fn n R ops l k σ D g η := fun a w hf hd hw => h a w (hf.sub hs) hd hw

/-- the operation at a place, where it writes a slot and has no guard -/
def opAt (ops : Array Oper) (i n : Nat) : Option (Nat × Op) :=
  match ops[i]? with
  | some ⟨some d, op, _, _, _, none⟩ => match Nat.blt d n with | true => some (d, op) | false => none
  | _ => none
/-- where it writes none -/
def opAtU (ops : Array Oper) (i : Nat) : Option Op :=
  match ops[i]? with
  | some ⟨none, op, _, _, _, none⟩ => some op
  | _ => none
/-- where it has a guard: the guard's slot, and what is wanted there -/
def opAtG (ops : Array Oper) (i n : Nat) : Option (Nat × Op × Nat × Bool) :=
  match ops[i]? with
  | some ⟨some d, op, _, _, _, some (j, want)⟩ =>
    match Nat.blt d n, ops[j]? with
    | true, some o => match o.dst with | some t => some (d, op, t, want) | none => none
    | _, _ => none
  | _ => none

theorem opAt_spec {ops : Array Oper} {i n d : Nat} {op : Op} (h : opAt ops i n = some (d, op)) :
    ∃ o, ops[i]? = some o ∧ o.dst = some d ∧ o.op = op ∧ o.guard = none ∧ Nat.blt d n = true := by
  unfold opAt at h
  split at h
  · rename_i d' op' _ _ _ ho
    split at h
    · rename_i hb; cases h; exact ⟨_, ho, rfl, rfl, rfl, hb⟩
    · cases h
  · cases h
theorem opAtU_spec {ops : Array Oper} {i : Nat} {op : Op} (h : opAtU ops i = some op) : ∃ o, ops[i]? = some o ∧ o.dst = none ∧ o.op = op ∧ o.guard = none := by
  unfold opAtU at h
  split at h
  · rename_i op' _ _ _ ho; cases h; exact ⟨_, ho, rfl, rfl, rfl⟩
  · cases h
theorem opAtG_spec {ops : Array Oper} {i n d t : Nat} {op : Op} {want : Bool} (h : opAtG ops i n = some (d, op, t, want)) :
    ∃ o j oj, ops[i]? = some o ∧ o.dst = some d ∧ o.op = op ∧ o.guard = some (j, want) ∧ ops[j]? = some oj ∧ oj.dst = some t ∧ Nat.blt d n = true := by
  unfold opAtG at h
  split at h
  · rename_i d' op' _ _ _ j want' ho
    split at h
    · rename_i oj hb hj
      split at h
      · rename_i t' ht; cases h; exact ⟨_, _, _, ho, rfl, rfl, rfl, hj, ht, hb⟩
      · cases h
    · cases h
  · cases h

theorem yielded_of {ops : Array Oper} {a : Act} {σ : List (Nat × Value)} {n j t : Nat} {oj : Oper} {b : Bool} (hf : Fits a n σ) (hj : ops[j]? = some oj) (ht : oj.dst = some t) (hl : look σ t = some (.bool b)) :
    yielded ops a.tmps j = some b := by
  simp [yielded, hj, ht, hf.2 t _ hl]
/-- the operation at a place is carried out: it has no guard, or a guard that says yes -/
inductive Fires (ops : Array Oper) (i n : Nat) (σ : List (Nat × Value)) : Nat → Op → Prop
  | p {d : Nat} {op : Op} (h : opAt ops i n = some (d, op)) : Fires ops i n σ d op
  | g {d t : Nat} {op : Op} {b : Bool} (h : opAtG ops i n = some (d, op, t, b)) (hl : look σ t = some (.bool b)) : Fires ops i n σ d op
theorem Fires.spec {ops : Array Oper} {i n d : Nat} {σ : List (Nat × Value)} {op : Op} (h : Fires ops i n σ d op) :
    ∃ o, ops[i]? = some o ∧ o.dst = some d ∧ o.op = op ∧ (∀ a, Fits a n σ → Region.wanted o (yielded ops a.tmps) = true) ∧ Nat.blt d n = true := by
  cases h with
  | p h =>
    obtain ⟨o, a, b, c, d, e⟩ := opAt_spec h
    exact ⟨o, a, b, c, fun _ _ => by simp [Region.wanted, d], e⟩
  | g h hl =>
    obtain ⟨o, j, oj, hi, hdst, hop, hg, hj, ht, hb⟩ := opAtG_spec h
    exact ⟨o, hi, hdst, hop, fun a hf => by simp [Region.wanted, hg, yielded_of hf hj ht hl], hb⟩
theorem O.op {ops : Array Oper} {i d : Nat} {l : List Nat} {op : Op} {v : Value} (ho : Fires ops i n σ d op) (hdo : Does P op σ g η v η')
    (h : O P fn n R ops l k ((d, v) :: σ) D g η') : O P fn n R ops (i :: l) k σ D g η := by
  intro a w hf hd hw
  obtain ⟨o, hi, hdst, hop, hg, hb⟩ := ho.spec
  obtain ⟨w', hrun, hw'⟩ := hdo o a.eval w hop hf.knows hw
  simp only [wpOps, hi, hg a hf, if_true]
  refine .inl ?_
  unfold Oper.wp
  rw [hrun, Oper.upon_value, hdst]
  exact h _ _ (hf.put hb) hd hw'
theorem O.opU {ops : Array Oper} {i : Nat} {l : List Nat} {op : Op} (ho : opAtU ops i = some op) (hdo : DoesU P op σ g η η')
    (h : O P fn n R ops l k σ D g η') : O P fn n R ops (i :: l) k σ D g η := by
  intro a w hf hd hw
  obtain ⟨o, hi, hdst, hop, hg⟩ := opAtU_spec ho
  obtain ⟨w', hrun, hw'⟩ := hdo o a.eval w hop hf.knows hw
  simp only [wpOps, hi, Region.wanted, hg, if_true]
  refine .inl ?_
  unfold Oper.wp
  rw [hrun, Oper.upon_skip, hdst]
  exact h _ _ hf hd hw'
/-- no yes to this guard -/
def notB (b : Bool) : Value → Bool | .bool c => c != b | _ => true
/-- a guard that says no -/
theorem O.opN {ops : Array Oper} {i d t : Nat} {l : List Nat} {op : Op} {b : Bool} {v : Value} (ho : opAtG ops i n = some (d, op, t, b)) (hl : look σ t = some v) (hv : notB b v = true)
    (h : O P fn n R ops l k ((d, undef) :: σ) D g η) : O P fn n R ops (i :: l) k σ D g η := by
  intro a w hf hd hw
  obtain ⟨o, j, oj, hi, hdst, hop, hg, hj, ht, hb⟩ := opAtG_spec ho
  have hgw : Region.wanted o (yielded ops a.tmps) = false := by
    have := hf.2 t _ hl
    cases v <;> simp [Region.wanted, hg, yielded, hj, ht, this]
    cases b <;> simp_all [notB]
  simp only [wpOps, hi, hgw, Bool.false_eq_true, if_false]
  rw [hdst]
  exact h _ _ (hf.put hb) hd hw
/-- part on a slot -/
theorem O.caseB {ops : Array Oper} {l : List Nat} {b : Bool} (t : Nat) (hl : look σ t = some (.bool b)) (ht : b = true → O P fn n R ops l k ((t, .bool true) :: σ) D g η)
    (hf : b = false → O P fn n R ops l k ((t, .bool false) :: σ) D g η) : O P fn n R ops l k σ D g η := by
  cases b
  · exact O.weaken (Sub.cons hl Sub.refl) (hf rfl)
  · exact O.weaken (Sub.cons hl Sub.refl) (ht rfl)
theorem O.caseD {ops : Array Oper} {l : List Nat} {p : Prop} [Decidable p] (t : Nat) (hl : look σ t = some (.bool (decide p))) (ht : p → O P fn n R ops l k ((t, .bool true) :: σ) D g η)
    (hf : ¬p → O P fn n R ops l k ((t, .bool false) :: σ) D g η) : O P fn n R ops l k σ D g η :=
  O.caseB t hl (fun h => ht (of_decide_eq_true h)) (fun h => hf (of_decide_eq_false h))

/-- the end: one result in a slot -/
theorem results_one {t : Tmp} {v : Value} {a : Act} {w : World} (hr : fn.results = #[.tmp t]) (hf : Fits a n σ) (hl : look σ t = some v) : (results fn a.tmps).run P w = .ok v w := by
  have := hf.2 t v hl
  simp [results, hr, Array.getD_eq_getD_getElem?, this]
theorem S.ret {t : Tmp} {v : Value} (hr : fn.results = #[.tmp t]) (hl : look σ t = some v) (h : ∀ w, Holds w g η → R (.returned v) w) : S P fn n R (.code .ret :: k) σ [] g η := by
  intro a w hf hd hw
  refine .ret ?_
  simp only [bodyPostD, hd, Leaves]
  exact ⟨v, results_one hr hf hl, h w hw⟩
theorem S.ret0 (hr : fn.results = #[]) (h : ∀ w, Holds w g η → R (.returned (.tuple #[])) w) : S P fn n R (.code .ret :: k) σ [] g η := by
  intro a w hf hd hw
  refine .ret ?_
  simp only [bodyPostD, hd, Leaves]
  exact ⟨.tuple #[], by simp [results, hr], h w hw⟩
theorem S.end0 (hr : fn.results = #[]) (h : ∀ w, Holds w g η → R (.returned (.tuple #[])) w) : S P fn n R [] σ [] g η := by
  intro a w hf hd hw
  refine .nil ?_
  simp only [bodyPostD, hd, Leaves]
  exact ⟨.tuple #[], by simp [results, hr], h w hw⟩
theorem S.ret2 {t s : Tmp} {v u : Value} (hr : fn.results = #[.tmp t, .tmp s]) (hl : look σ t = some v) (hl' : look σ s = some u) (h : ∀ w, Holds w g η → R (.returned (.tuple #[v, u])) w) :
    S P fn n R (.code .ret :: k) σ [] g η := by
  intro a w hf hd hw
  refine .ret ?_
  simp only [bodyPostD, hd, Leaves]
  refine ⟨.tuple #[v, u], ?_, h w hw⟩
  simp [results, hr, Array.getD_eq_getD_getElem?, hf.2 t v hl, hf.2 s u hl']
theorem S.ret3 {t s r : Tmp} {v u x : Value} (hr : fn.results = #[.tmp t, .tmp s, .tmp r]) (hl : look σ t = some v) (hl' : look σ s = some u) (hl'' : look σ r = some x)
    (h : ∀ w, Holds w g η → R (.returned (.tuple #[v, u, x])) w) : S P fn n R (.code .ret :: k) σ [] g η := by
  intro a w hf hd hw
  refine .ret ?_
  simp only [bodyPostD, hd, Leaves]
  refine ⟨.tuple #[v, u, x], ?_, h w hw⟩
  simp [results, hr, Array.getD_eq_getD_getElem?, hf.2 t v hl, hf.2 s u hl', hf.2 r x hl'']
end rules

/-- A CONTRACT: whatever the ground, so long as it holds r; what is owned goes in, what Post tells comes out -/
def Con (P : Program) (f : FuncId) (args : Array Value) (r : Fr) (η : List SProp) (Post : Ending → List SProp → Prop) : Prop :=
  ∀ g : Gr, r.sub g.h → ∀ w, Holds w g η → Calls P f args w fun e w' => ∃ η', Post e η' ∧ Holds w' g η'

/-- it returns -/
def Ret (K : Value → List SProp → Prop) : Ending → List SProp → Prop
  | .returned v, η => K v η
  | _, _ => False
/-- it returns, or throws -/
def RetP (K : Value → List SProp → Prop) (X : List PanicEntry → List SProp → Prop) : Ending → List SProp → Prop
  | .returned v, η => K v η
  | .panicked ch, η => X ch η
  | .outgrown, _ => False

section con
variable {P : Program} {fn : Func} {n : Nat} {f : FuncId} {args : Array Value} {r : Fr} {η : List SProp} {Post : Ending → List SProp → Prop}

/-- the slots that the arguments lie in -/
def slots : List Value → Nat → List (Nat × Value)
  | [], _ => []
  | v :: vs, i => (i, v) :: slots vs (i + 1)
theorem look_slots : ∀ (vs : List Value) (i t : Nat) (v : Value), look (slots vs i) t = some v → i ≤ t ∧ vs[t - i]? = some v
  | [], _, _, _, h => by cases h
  | u :: vs, i, t, v, h => by
    simp only [slots, look] at h
    split at h
    · rename_i hb; cases h; have := Nat.eq_of_beq_eq_true hb; subst this; simp
    · rename_i hb
      have hne : i ≠ t := by rintro rfl; simp at hb
      obtain ⟨h1, h2⟩ := look_slots vs (i + 1) t v h
      have : t - i = (t - (i + 1)) + 1 := by omega
      exact ⟨by omega, by rw [this]; simpa using h2⟩

theorem Con.of {c : Code} (vs : List Value) (ha : args = vs.toArray) (hf : P.funcs[f]? = some fn) (hb : fn.body = some c) (hn : fn.ntmps = n) (hle : Nat.ble vs.length n = true)
    (h : ∀ g : Gr, r.sub g.h → ∀ R : Ending → World → Prop, (∀ e η' w', Post e η' → Holds w' g η' → R e w') → S P fn n R [.code c] (slots vs 0) [] g η) : Con P f args r η Post := by
  intro g hr w hw
  subst ha hn
  refine calls_of_runs hf hb (h g hr _ (fun e η' w' hp hh => ⟨η', hp, hh⟩) _ w ⟨?_, ?_⟩ rfl hw)
  · have : vs.length ≤ fn.ntmps := Nat.le_of_ble_eq_true hle
    simp; omega
  · intro t v hl
    obtain ⟨_, h2⟩ := look_slots vs 0 t v hl
    simp only [Nat.sub_zero] at h2
    have : t < vs.length := by
      rcases Nat.lt_or_ge t vs.length with q | q
      · exact q
      · rw [List.getElem?_eq_none q] at h2; cases h2
    rw [Array.getElem?_append_left (by simpa using this)]
    simpa using h2

theorem Con.mono {Post' : Ending → List SProp → Prop} (h : Con P f args r η Post) (hp : ∀ e η', Post e η' → Post' e η') : Con P f args r η Post' :=
  fun g hr w hw => (h g hr w hw).mono fun _ _ ⟨η', x, y⟩ => ⟨η', hp _ _ x, y⟩
theorem Con.sub {r' : Fr} (h : Con P f args r η Post) (hs : r.sub r') : Con P f args r' η Post := fun g hr w hw => h g (Fr.sub_trans hs hr) w hw
/-- what a call does not own stays -/
theorem Con.frame {ζ : List SProp} (h : Con P f args r η Post) : Con P f args r (η ++ ζ) fun e η' => ∃ η₁, Post e η₁ ∧ η' = η₁ ++ ζ :=
  fun g hr w hw => by
    obtain ⟨k, hk, hd, hw'⟩ := hw.freezeAll
    exact (h (g.add k) (Fr.sub_trans hr (Fr.sub_add_left _ _)) w hw').mono fun _ _ ⟨η', x, y⟩ => ⟨η' ++ ζ, ⟨η', x, rfl⟩, y.thawAll hk hd⟩
end con

/-- a function with a body of its own -/
def callable (P : Program) (f : FuncId) : Bool :=
  match P.funcs[f]? with
  | some fn => fn.name != "runtime.NumGoroutine" && fn.body.isSome
  | none => false
def evs (σ : List (Nat × Value)) : List Operand → Option (List Value)
  | [] => some []
  | x :: xs => match ev σ x, evs σ xs with | some v, some vs => some (v :: vs) | _, _ => none
theorem evs_spec {σ : List (Nat × Value)} {ρ : Operand → Value} (hk : Knows σ ρ) : ∀ {xs : List Operand} {vs : List Value}, evs σ xs = some vs → xs.map ρ = vs
  | [], _, h => by cases h; rfl
  | x :: xs, vs, h => by
    simp only [evs] at h
    split at h
    · rename_i v us hv hus; cases h; simp [hk x v hv, evs_spec hk hus]
    · cases h

theorem run_callFunc {P : Program} {f : FuncId} (hc : callable P f = true) (args : Array Value) (w : World) : (callFunc f args).run P w = .ok (.enter f args) w := by
  unfold callable at hc
  split at hc
  · rename_i fn hf
    simp only [Bool.and_eq_true, bne_iff_ne, ne_eq] at hc
    have h2 : fn.body ≠ none := by intro hb; rw [hb] at hc; simp at hc
    simp [callFunc, hf, hc.1, h2]
  · cases hc
theorem run_call {P : Program} {f : FuncId} {first cap : Array Value} {ρ : Operand → Value} {o : Oper} {x : Operand} {xs : Array Operand} {ts : Array TypeId} (ho : o.op = .call ⟨.value x, xs, ts⟩)
    (hx : ρ x = .func (.func f) first cap) (hc : callable P f = true) (w : World) : (execOp ρ o).run P w = .ok (.enter f (first ++ xs.map ρ ++ cap)) w := by
  simp [execOp, ho, resolve, hx, Deferred.ofValue, invoke, run_callFunc hc]

section calls
variable {P : Program} {fn : Func} {n : Nat} {R : Ending → World → Prop} {k : List Item} {σ : List (Nat × Value)} {D : List Deferred} {g : Gr} {η ζ : List SProp}
  {ops : Array Oper} {i d : Nat} {l : List Nat} {f : FuncId} {x : Operand} {xs : Array Operand} {ts : Array TypeId} {vals : List Value} {K : Value → List SProp → Prop}

/-- a call of a function that returns -/
theorem O.call {first cap : Array Value} (ho : Fires ops i n σ d (.call ⟨.value x, xs, ts⟩)) (hx : ev σ x = some (.func (.func f) first cap)) (hc : callable P f = true)
    (hv : evs σ xs.toList = some vals) {args : Array Value} (hargs : first ++ vals.toArray ++ cap = args) (con : Con P f args g.h η (Ret K))
    (h : ∀ v η', K v η' → O P fn n R ops l k ((d, v) :: σ) D g (η' ++ ζ)) : O P fn n R ops (i :: l) k σ D g (η ++ ζ) := by
  intro a w hf hd hw
  obtain ⟨o, hi, hdst, hop, hg, hb⟩ := ho.spec
  simp only [wpOps, hi, hg a hf, if_true]
  refine .inl ?_
  unfold Oper.wp
  rw [run_call hop (hf.knows x _ hx) hc, Oper.upon_enter]
  have hm : xs.map a.eval = vals.toArray := by
    rw [← evs_spec hf.knows hv, ← Array.toList_map]
  rw [hm, hargs]
  refine (con.frame (ζ := ζ) g (Fr.sub_refl _) w hw).mono fun e w' hh => ?_
  obtain ⟨η', ⟨η₁, hp, rfl⟩, hw'⟩ := hh
  cases e with
  | returned v =>
    show wpOps P ops _ l (a.put o.dst v) w'
    rw [hdst]
    exact h v η₁ hp _ _ (hf.put hb) hd hw'
  | panicked _ => exact hp.elim
  | outgrown => exact hp.elim
/-- of one whose result is left -/
theorem O.callU {first cap : Array Value} (ho : opAtU ops i = some (.call ⟨.value x, xs, ts⟩)) (hx : ev σ x = some (.func (.func f) first cap)) (hc : callable P f = true)
    (hv : evs σ xs.toList = some vals) {args : Array Value} (hargs : first ++ vals.toArray ++ cap = args) (con : Con P f args g.h η (Ret K))
    (h : ∀ v η', K v η' → O P fn n R ops l k σ D g (η' ++ ζ)) : O P fn n R ops (i :: l) k σ D g (η ++ ζ) := by
  intro a w hf hd hw
  obtain ⟨o, hi, hdst, hop, hg⟩ := opAtU_spec ho
  simp only [wpOps, hi, Region.wanted, hg, if_true]
  refine .inl ?_
  unfold Oper.wp
  rw [run_call hop (hf.knows x _ hx) hc, Oper.upon_enter]
  have hm : xs.map a.eval = vals.toArray := by
    rw [← evs_spec hf.knows hv, ← Array.toList_map]
  rw [hm, hargs]
  refine (con.frame (ζ := ζ) g (Fr.sub_refl _) w hw).mono fun e w' hh => ?_
  obtain ⟨η', ⟨η₁, hp, rfl⟩, hw'⟩ := hh
  cases e with
  | returned v =>
    show wpOps P ops _ l (a.put o.dst v) w'
    rw [hdst]
    exact h v η₁ hp _ _ hf hd hw'
  | panicked _ => exact hp.elim
  | outgrown => exact hp.elim
/-- of one that returns, or throws; nothing is deferred here -/
theorem O.callP {first cap : Array Value} {X : List PanicEntry → List SProp → Prop} (ho : Fires ops i n σ d (.call ⟨.value x, xs, ts⟩)) (hx : ev σ x = some (.func (.func f) first cap)) (hc : callable P f = true)
    (hv : evs σ xs.toList = some vals) {args : Array Value} (hargs : first ++ vals.toArray ++ cap = args) (con : Con P f args g.h η (RetP K X))
    (hp : ∀ ch η' w, X ch η' → Holds w g (η' ++ ζ) → R (.panicked ch) w)
    (h : ∀ v η', K v η' → O P fn n R ops l k ((d, v) :: σ) [] g (η' ++ ζ)) : O P fn n R ops (i :: l) k σ [] g (η ++ ζ) := by
  intro a w hf hd hw
  obtain ⟨o, hi, hdst, hop, hg, hb⟩ := ho.spec
  simp only [wpOps, hi, hg a hf, if_true]
  refine .inl ?_
  unfold Oper.wp
  rw [run_call hop (hf.knows x _ hx) hc, Oper.upon_enter]
  have hm : xs.map a.eval = vals.toArray := by
    rw [← evs_spec hf.knows hv, ← Array.toList_map]
  rw [hm, hargs]
  refine (con.frame (ζ := ζ) g (Fr.sub_refl _) w hw).mono fun e w' hh => ?_
  obtain ⟨η', ⟨η₁, hq, rfl⟩, hw'⟩ := hh
  cases e with
  | returned v =>
    show wpOps P ops _ l (a.put o.dst v) w'
    rw [hdst]
    exact h v η₁ hq _ _ (hf.put hb) hd hw'
  | panicked ch =>
    show Leaves P fn a.tmps R a.defers (.panicking ch) w'
    rw [hd]
    exact hp ch η₁ w' hq hw'
  | outgrown => exact hq.elim
end calls
end Go.Sp
