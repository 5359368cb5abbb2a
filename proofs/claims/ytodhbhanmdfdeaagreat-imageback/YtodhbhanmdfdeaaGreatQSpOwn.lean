/- Texts of this proof, one behind the other. -/
import Derived.Test.YtodhbhanmdfdeaaGreatQSpArr
import Derived.WalkSpells
section
/- Texts of this proof. -/
namespace Go.Sp
section
variable {ro : Option Nat} {P : Program} {σ σ' : List (Nat × Value)} {g : Gr} {η η' ζ : List SProp} {fn : Func} {n : Nat} {R : Ending → World → Prop} {k K : List Item} {D : List Deferred} {ops : Array Oper} {i d : Nat} {l : List Nat} {t e : TypeId} {x y : Operand} {todo : List Item}
theorem Does.loadAt {p : Addr} {cs : List Value} {v : Value} (ht : flat1 P t = true) (hx : ev σ x = some (.pointer (some p))) (hp : At g.h p cs) (hv : cs[0]? = some v) : Does P (.load t x) σ g η v η :=
 .load ht hx (by have := hp.at hv; rwa [Addr.add_zero] at this)
theorem DoesE.imp {op : Op} {A B : Value → List SProp → Prop} (h : DoesE P op σ g η A) (hab : ∀ v η', A v η' → B v η') : DoesE P op σ g η B :=
 fun o ρ w h1 h2 h3 => let ⟨v, w', η', a, b, c⟩ := h o ρ w h1 h2 h3; ⟨v, w', η', hab _ _ a, b, c⟩
theorem S.loopK {ι : Type} {c : Code} (φ : ι → Prop) (σs : ι → List (Nat × Value)) (keep : List (Nat × Value)) (ηs : ι → List SProp) (μ : ι → Nat) (x₀ : ι) (h₀ : φ x₀) (hσ : Sub (σs x₀) σ) (hk : Sub keep σ) (hη : η = ηs x₀)
  (round : ∀ x, φ x → (∀ y, φ y → μ y < μ x → S ro P fn n R (.inLoop c :: k) (σs y ++ keep) D g (ηs y)) → S ro P fn n R (.code c :: .inLoop c :: k) (σs x ++ keep) D g (ηs x)) :
  S ro P fn n R (.code (.loop c) :: k) σ D g η := by
 refine S.loop φ (fun x => σs x ++ keep) ηs μ x₀ h₀ ?_ hη round
 intro t v hv
 have : ∀ (l : List (Nat × Value)), look (l ++ keep) t = some v → look l t = some v ∨ look keep t = some v := by
  intro l
  induction l with
  | nil => exact .inr
  | cons p l ih =>
   intro h
   obtain ⟨s, u⟩ := p
   simp only [List.cons_append, look] at h ⊢
   split at h
   ·exact .inl h
   ·exact ih h
 rcases this _ hv with h | h
 ·exact hσ t v h
 ·exact hk t v h
theorem S.loopK2 {ι κ : Type} {c : Code} (φ : ι → κ → Prop) (σs : ι → κ → List (Nat × Value)) (keep : List (Nat × Value)) (ηs : ι → κ → List SProp) (μ : ι → κ → Nat) (x₀ : ι) (y₀ : κ) (h₀ : φ x₀ y₀) (hσ : Sub (σs x₀ y₀) σ) (hk : Sub keep σ) (hη : η = ηs x₀ y₀)
  (round : ∀ x y, φ x y → (∀ x' y', φ x' y' → μ x' y' < μ x y → S ro P fn n R (.inLoop c :: k) (σs x' y' ++ keep) D g (ηs x' y')) → S ro P fn n R (.code c :: .inLoop c :: k) (σs x y ++ keep) D g (ηs x y)) :
  S ro P fn n R (.code (.loop c) :: k) σ D g η :=
 S.loopK (ι := ι × κ) (fun p => φ p.1 p.2) (fun p => σs p.1 p.2) keep (fun p => ηs p.1 p.2) (fun p => μ p.1 p.2) (x₀, y₀) h₀ hσ hk hη fun p hp ih => round p.1 p.2 hp fun x' y' h1 h2 => ih (x', y') h1 h2
theorem S.loopK3 {ι κ υ : Type} {c : Code} (φ : ι → κ → υ → Prop) (σs : ι → κ → υ → List (Nat × Value)) (keep : List (Nat × Value)) (ηs : ι → κ → υ → List SProp) (μ : ι → κ → υ → Nat) (x₀ : ι) (y₀ : κ) (z₀ : υ) (h₀ : φ x₀ y₀ z₀) (hσ : Sub (σs x₀ y₀ z₀) σ) (hk : Sub keep σ) (hη : η = ηs x₀ y₀ z₀)
  (round : ∀ x y z, φ x y z → (∀ x' y' z', φ x' y' z' → μ x' y' z' < μ x y z → S ro P fn n R (.inLoop c :: k) (σs x' y' z' ++ keep) D g (ηs x' y' z')) → S ro P fn n R (.code c :: .inLoop c :: k) (σs x y z ++ keep) D g (ηs x y z)) :
  S ro P fn n R (.code (.loop c) :: k) σ D g η :=
 S.loopK (ι := ι × κ × υ) (fun p => φ p.1 p.2.1 p.2.2) (fun p => σs p.1 p.2.1 p.2.2) keep (fun p => ηs p.1 p.2.1 p.2.2) (fun p => μ p.1 p.2.1 p.2.2) (x₀, y₀, z₀) h₀ hσ hk hη fun p hp ih => round p.1 p.2.1 p.2.2 hp fun x' y' z' h1 h2 => ih (x', y', z') h1 h2
theorem S.loopK4 {ι κ υ τ : Type} {c : Code} (φ : ι → κ → υ → τ → Prop) (σs : ι → κ → υ → τ → List (Nat × Value)) (keep : List (Nat × Value)) (ηs : ι → κ → υ → τ → List SProp) (μ : ι → κ → υ → τ → Nat) (x₀ : ι) (y₀ : κ) (z₀ : υ) (u₀ : τ) (h₀ : φ x₀ y₀ z₀ u₀) (hσ : Sub (σs x₀ y₀ z₀ u₀) σ) (hk : Sub keep σ) (hη : η = ηs x₀ y₀ z₀ u₀)
  (round : ∀ x y z u, φ x y z u → (∀ x' y' z' u', φ x' y' z' u' → μ x' y' z' u' < μ x y z u → S ro P fn n R (.inLoop c :: k) (σs x' y' z' u' ++ keep) D g (ηs x' y' z' u')) → S ro P fn n R (.code c :: .inLoop c :: k) (σs x y z u ++ keep) D g (ηs x y z u)) :
  S ro P fn n R (.code (.loop c) :: k) σ D g η :=
 S.loopK (ι := ι × κ × υ × τ) (fun p => φ p.1 p.2.1 p.2.2.1 p.2.2.2) (fun p => σs p.1 p.2.1 p.2.2.1 p.2.2.2) keep (fun p => ηs p.1 p.2.1 p.2.2.1 p.2.2.2) (fun p => μ p.1 p.2.1 p.2.2.1 p.2.2.2) (x₀, y₀, z₀, u₀) h₀ hσ hk hη
  fun p hp ih => round p.1 p.2.1 p.2.2.1 p.2.2.2 hp fun x' y' z' u' h1 h2 => ih (x', y', z', u') h1 h2
theorem Sub.consE {v v' : Value} {s : Nat} {τ : List (Nat × Value)} (h : look σ s = some v) (e : v = v') (hs : Sub τ σ) : Sub ((s, v') :: τ) σ := by subst e; exact Sub.cons h hs
theorem O.slot {v v' : Value} {L : List Nat} (s : Nat) (hl : look σ s = some v) (e : v = v') (h : O ro P fn n R ops L k ((s, v') :: σ) D g η) : O ro P fn n R ops L k σ D g η := O.weaken (Sub.consE hl e Sub.refl) h
theorem O.call0 {f : FuncId} {xs : Array Operand} {ts : Array TypeId} {vals : List Value} {K' : Value → List SProp → Prop} {first cap : Array Value} (ho : Fires ops i n σ d (.call ⟨.value x, xs, ts⟩)) (hx : ev σ x = some (.func (.func f) first cap)) (hc : callable P f = true)
  (hv : evs σ xs.toList = some vals) {args : Array Value} (hargs : first ++ vals.toArray ++ cap = args) (con : Con P f args g.h [] (Ret K'))
  (h : ∀ v η', K' v η' → O ro P fn n R ops l k ((d, v) :: σ) D g (η' ++ η)) : O ro P fn n R ops (i :: l) k σ D g η := O.call (η := []) (ζ := η) ho hx hc hv hargs con h
theorem ODg.call0 {f : FuncId} {xs : Array Operand} {ts : Array TypeId} {vals : List Value} {K' : Value → List SProp → Prop} {first cap : Array Value} (ho : Fires ops i n σ d (.call ⟨.value x, xs, ts⟩)) {fl : Bool} (hd : hdOk fl ops i l = true) (hx : ev σ x = some (.func (.func f) first cap)) (hc : callable P f = true)
  (hv : evs σ xs.toList = some vals) {args : Array Value} (hargs : first ++ vals.toArray ++ cap = args) (con : Con P f args g.h [] (Ret K'))
  (h : ∀ v η', K' v η' → OD P fn n R ops k D g l ((d, v) :: σ) (η' ++ η)) : ODx P fn n R ops k D g fl (i :: l) σ η := ODg.call (η := []) (ζ := η) ho hd hx hc hv hargs con h
theorem OD.call0 {f : FuncId} {xs : Array Operand} {ts : Array TypeId} {vals : List Value} {K' : Value → List SProp → Prop} {first cap : Array Value} (ho : Fires ops i n σ d (.call ⟨.value x, xs, ts⟩)) (hd : descOk ops [i] l = true) (hx : ev σ x = some (.func (.func f) first cap)) (hc : callable P f = true) (hv : evs σ xs.toList = some vals) {args : Array Value} (hargs : first ++ vals.toArray ++ cap = args) (con : Con P f args g.h [] (Ret K')) (h : ∀ v η', K' v η' → OD P fn n R ops k D g l ((d, v) :: σ) (η' ++ η)) : OD P fn n R ops k D g (i :: l) σ η := ODg.call0 (fl := false) ho (by simpa [hdOk] using hd) hx hc hv hargs con h
theorem ODt.call0 {f : FuncId} {xs : Array Operand} {ts : Array TypeId} {vals : List Value} {K' : Value → List SProp → Prop} {first cap : Array Value} (ho : Fires ops i n σ d (.call ⟨.value x, xs, ts⟩)) (_ : true = true) (hx : ev σ x = some (.func (.func f) first cap)) (hc : callable P f = true) (hv : evs σ xs.toList = some vals) {args : Array Value} (hargs : first ++ vals.toArray ++ cap = args) (con : Con P f args g.h [] (Ret K')) (h : ∀ v η', K' v η' → OD P fn n R ops k D g l ((d, v) :: σ) (η' ++ η)) : ODx P fn n R ops k D g true (i :: l) σ η := ODg.call0 (fl := true) ho rfl hx hc hv hargs con h
inductive Sels : List SProp → List SProp → List SProp → Prop
 | nil {η : List SProp} : Sels η [] η
 | cons {η ζ θ : List SProp} {A : SProp} {bs : List SProp} : Sel η A ζ → Sels ζ bs θ → Sels η (A :: bs) θ
theorem Sels.perm {η bs θ : List SProp} (s : Sels η bs θ) : η.Perm (bs ++ θ) := by
 induction s with
 | nil => exact .refl _
 | cons s _ ih => exact s.perm.trans (.cons _ ih)
theorem Con.lent {f : FuncId} {args : Array Value} {h : Fr} {bs : List SProp} {Post : Ending → List SProp → Prop} (con : ∀ m : Fr, Sat bs m → h.disj m → Con P f args (h.add m) [] Post) :
  Con P f args h bs fun e η' => ∃ η₁, Post e η₁ ∧ η' = η₁ ++ bs := fun g hg w hw => by
 obtain ⟨m, hm, hd, hw'⟩ := Holds.freezeAll (η := []) (ζ := bs) hw
 have hd' : h.disj m := Fr.disj_sub hd hg (Fr.sub_refl _)
 refine (con m hm hd' (g.add m) (Fr.add_sub (Fr.sub_trans hg (Fr.sub_add_left _ _)) (Fr.sub_add_right hd)) w hw').mono fun e w' ⟨η', x, y⟩ => ⟨η' ++ bs, ⟨η', x, rfl⟩, y.thawAll hm hd⟩
theorem O.callB {f : FuncId} {xs : Array Operand} {ts : Array TypeId} {vals : List Value} {K' : Value → List SProp → Prop} {first cap : Array Value} (ho : Fires ops i n σ d (.call ⟨.value x, xs, ts⟩)) (hx : ev σ x = some (.func (.func f) first cap)) (hc : callable P f = true)
  (hv : evs σ xs.toList = some vals) {args : Array Value} (hargs : first ++ vals.toArray ++ cap = args) {bs : List SProp} (hb : Sels η bs ζ) (con : ∀ m : Fr, Sat bs m → g.h.disj m → Con P f args (g.h.add m) [] (Ret K'))
  (h : ∀ v η', K' v η' → O ro P fn n R ops l k ((d, v) :: σ) D g (η' ++ (bs ++ ζ))) : O ro P fn n R ops (i :: l) k σ D g η := by
 have hcon : Con P f args g.h bs (Ret fun v η' => ∃ η₁, K' v η₁ ∧ η' = η₁ ++ bs) := (Con.lent con).mono fun e η' ⟨η₁, a, b⟩ => by
  cases e with
  | returned v => exact ⟨η₁, a, b⟩
  | panicked _ => exact a.elim
  | outgrown => exact a.elim
 have := O.call (ζ := ζ) ho hx hc hv hargs hcon (R := R) (l := l) (k := k) (D := D) (fn := fn) fun v η' ⟨η₁, a, b⟩ => by
  subst b; rw [List.append_assoc]; exact h v η₁ a
 exact fun a w hf hd hw => this a w hf hd (hw.perm hb.perm)
theorem ODx.perm {fl : Bool} {L : List Nat} (p : η.Perm η') (h : ODx P fn n R ops k D g fl L σ η') : ODx P fn n R ops k D g fl L σ η := by
 induction h generalizing η with
 | nil h => exact .nil (S.perm p h)
 | quiet ho hna hdo h ih => exact .quiet ho hna hdo (ih p)
 | no ho hna hl hvb h ih => exact .no ho hna hl hvb (ih p)
 | lazy ho hd hz h ih => exact .lazy ho hd hz fun b => ih b (p.cons _)
 | @callT i d l σ η₁ ζ₁ f x xs ts vals K' X' first cap args ho hx hc hv hargs con hp h ih =>
  have con' : Con P f args g.h η (RetP (fun v η' => ∃ η₂, K' v η₂ ∧ η' = η₂ ++ ζ₁) (fun ch η' => ∃ η₂, X' ch η₂ ∧ η' = η₂ ++ ζ₁)) := fun g' hg w hw => ((con.frame (ζ := ζ₁)) g' hg w (hw.perm p)).mono fun e w' ⟨η', a, b⟩ => ⟨η', by
   cases e with
   | returned v => exact a
   | panicked _ => exact a
   | outgrown => obtain ⟨_, h1, _⟩ := a; exact h1.elim, b⟩
  have := ODx.callT (η := η) (ζ := []) (l := l) ho hx hc hv hargs con' (fun a ch η' w ⟨η₂, h1, h2⟩ hw => hp a ch η₂ w h1 (by subst h2; simpa using hw)) fun v η' ⟨η₂, h1, h2⟩ => ih v η₂ h1 (η := η' ++ []) (by subst h2; simp)
  simpa using this
 | @loudE i d op l σ η₀ K' ho hna hdo h ih =>
  exact .loudE ho hna (K := K') (fun ζ o ρ w h1 h2 h3 => hdo ζ o ρ w h1 h2 (h3.perm (p.append_right _))) fun v η' a => ih v η' a (.refl _)
 | loudU ho hna hdo h ih =>
  exact .loudU ho hna (fun ζ o ρ w h1 h2 h3 => hdo ζ o ρ w h1 h2 (h3.perm (p.append_right _))) (ih (.refl _))
 | lastU ho hna hl hdo h => exact .lastU ho hna hl (fun o ρ w h1 h2 h3 => hdo o ρ w h1 h2 (h3.perm p)) h
 | one hd h ih => exact .one hd (ih p)
 | swap l' hp h ih => exact .swap l' hp (ih p)
 | alt cands hok h ih => exact .alt cands hok fun i hi => ih i hi p
theorem OD.perm {L : List Nat} (p : η.Perm η') (h : OD P fn n R ops k D g L σ η') : OD P fn n R ops k D g L σ η := ODx.perm p h
theorem ODg.callB {f : FuncId} {xs : Array Operand} {ts : Array TypeId} {vals : List Value} {K' : Value → List SProp → Prop} {first cap : Array Value} (ho : Fires ops i n σ d (.call ⟨.value x, xs, ts⟩)) {fl : Bool} (hd : hdOk fl ops i l = true) (hx : ev σ x = some (.func (.func f) first cap)) (hc : callable P f = true)
  (hv : evs σ xs.toList = some vals) {args : Array Value} (hargs : first ++ vals.toArray ++ cap = args) {bs : List SProp} (hb : Sels η bs ζ) (con : ∀ m : Fr, Sat bs m → g.h.disj m → Con P f args (g.h.add m) [] (Ret K'))
  (h : ∀ v η', K' v η' → OD P fn n R ops k D g l ((d, v) :: σ) (η' ++ (bs ++ ζ))) : ODx P fn n R ops k D g fl (i :: l) σ η := by
 have hcon : Con P f args g.h bs (Ret fun v η' => ∃ η₁, K' v η₁ ∧ η' = η₁ ++ bs) := (Con.lent con).mono fun e η' ⟨η₁, a, b⟩ => by
  cases e with
  | returned v => exact ⟨η₁, a, b⟩
  | panicked _ => exact a.elim
  | outgrown => exact a.elim
 exact ODx.perm hb.perm (ODg.call (ζ := ζ) ho hd hx hc hv hargs hcon fun v η' ⟨η₁, a, b⟩ => by
  subst b; rw [List.append_assoc]; exact h v η₁ a)
theorem OD.callB {f : FuncId} {xs : Array Operand} {ts : Array TypeId} {vals : List Value} {K' : Value → List SProp → Prop} {first cap : Array Value} (ho : Fires ops i n σ d (.call ⟨.value x, xs, ts⟩)) (hd : descOk ops [i] l = true) (hx : ev σ x = some (.func (.func f) first cap)) (hc : callable P f = true) (hv : evs σ xs.toList = some vals) {args : Array Value} (hargs : first ++ vals.toArray ++ cap = args) {bs : List SProp} (hb : Sels η bs ζ) (con : ∀ m : Fr, Sat bs m → g.h.disj m → Con P f args (g.h.add m) [] (Ret K')) (h : ∀ v η', K' v η' → OD P fn n R ops k D g l ((d, v) :: σ) (η' ++ (bs ++ ζ))) : OD P fn n R ops k D g (i :: l) σ η := ODg.callB (fl := false) ho (by simpa [hdOk] using hd) hx hc hv hargs hb con h
theorem ODt.callB {f : FuncId} {xs : Array Operand} {ts : Array TypeId} {vals : List Value} {K' : Value → List SProp → Prop} {first cap : Array Value} (ho : Fires ops i n σ d (.call ⟨.value x, xs, ts⟩)) (_ : true = true) (hx : ev σ x = some (.func (.func f) first cap)) (hc : callable P f = true) (hv : evs σ xs.toList = some vals) {args : Array Value} (hargs : first ++ vals.toArray ++ cap = args) {bs : List SProp} (hb : Sels η bs ζ) (con : ∀ m : Fr, Sat bs m → g.h.disj m → Con P f args (g.h.add m) [] (Ret K')) (h : ∀ v η', K' v η' → OD P fn n R ops k D g l ((d, v) :: σ) (η' ++ (bs ++ ζ))) : ODx P fn n R ops k D g true (i :: l) σ η := ODg.callB (fl := true) ho rfl hx hc hv hargs hb con h
theorem O.callS {f : FuncId} {xs : Array Operand} {ts : Array TypeId} {vals : List Value} {K' : Value → List SProp → Prop} {first cap : Array Value} {A : SProp} (ho : Fires ops i n σ d (.call ⟨.value x, xs, ts⟩)) (hx : ev σ x = some (.func (.func f) first cap)) (hc : callable P f = true)
  (hv : evs σ xs.toList = some vals) {args : Array Value} (hargs : first ++ vals.toArray ++ cap = args) (hs : Sel η A ζ) (con : Con P f args g.h [A] (Ret K'))
  (h : ∀ v η', K' v η' → O ro P fn n R ops l k ((d, v) :: σ) D g (η' ++ ζ)) : O ro P fn n R ops (i :: l) k σ D g η :=
 fun a w hf hd hw => O.call (η := [A]) (ζ := ζ) ho hx hc hv hargs con h a w hf hd (hw.sel hs)
theorem ODg.callS {f : FuncId} {xs : Array Operand} {ts : Array TypeId} {vals : List Value} {K' : Value → List SProp → Prop} {first cap : Array Value} {A : SProp} (ho : Fires ops i n σ d (.call ⟨.value x, xs, ts⟩)) {fl : Bool} (hd : hdOk fl ops i l = true) (hx : ev σ x = some (.func (.func f) first cap)) (hc : callable P f = true)
  (hv : evs σ xs.toList = some vals) {args : Array Value} (hargs : first ++ vals.toArray ++ cap = args) (hs : Sel η A ζ) (con : Con P f args g.h [A] (Ret K'))
  (h : ∀ v η', K' v η' → OD P fn n R ops k D g l ((d, v) :: σ) (η' ++ ζ)) : ODx P fn n R ops k D g fl (i :: l) σ η :=
 ODx.perm hs.perm (ODg.call (η := [A]) (ζ := ζ) ho hd hx hc hv hargs con h)
theorem OD.callS {f : FuncId} {xs : Array Operand} {ts : Array TypeId} {vals : List Value} {K' : Value → List SProp → Prop} {first cap : Array Value} {A : SProp} (ho : Fires ops i n σ d (.call ⟨.value x, xs, ts⟩)) (hd : descOk ops [i] l = true) (hx : ev σ x = some (.func (.func f) first cap)) (hc : callable P f = true) (hv : evs σ xs.toList = some vals) {args : Array Value} (hargs : first ++ vals.toArray ++ cap = args) (hs : Sel η A ζ) (con : Con P f args g.h [A] (Ret K')) (h : ∀ v η', K' v η' → OD P fn n R ops k D g l ((d, v) :: σ) (η' ++ ζ)) : OD P fn n R ops k D g (i :: l) σ η := ODg.callS (fl := false) ho (by simpa [hdOk] using hd) hx hc hv hargs hs con h
theorem ODt.callS {f : FuncId} {xs : Array Operand} {ts : Array TypeId} {vals : List Value} {K' : Value → List SProp → Prop} {first cap : Array Value} {A : SProp} (ho : Fires ops i n σ d (.call ⟨.value x, xs, ts⟩)) (_ : true = true) (hx : ev σ x = some (.func (.func f) first cap)) (hc : callable P f = true) (hv : evs σ xs.toList = some vals) {args : Array Value} (hargs : first ++ vals.toArray ++ cap = args) (hs : Sel η A ζ) (con : Con P f args g.h [A] (Ret K')) (h : ∀ v η', K' v η' → OD P fn n R ops k D g l ((d, v) :: σ) (η' ++ ζ)) : ODx P fn n R ops k D g true (i :: l) σ η := ODg.callS (fl := true) ho rfl hx hc hv hargs hs con h
theorem O.perm {L : List Nat} (p : η.Perm ζ) (h : O ro P fn n R ops L k σ D g ζ) : O ro P fn n R ops L k σ D g η := fun a w hf hd hw => h a w hf hd (hw.perm p)
theorem O.sel {L : List Nat} {A : SProp} (s : Sel η A ζ) (h : O ro P fn n R ops L k σ D g (A :: ζ)) : O ro P fn n R ops L k σ D g η := fun a w hf hd hw => h a w hf hd (hw.sel s)
theorem O.imp {L : List Nat} (hs : ∀ m, Sat η m → Sat η' m) (h : O ro P fn n R ops L k σ D g η') : O ro P fn n R ops L k σ D g η := fun a w hf hd hw => h a w hf hd (hw.imp hs)
theorem O.freeze {L : List Nat} {A : SProp} (h : ∀ m : Fr, A m → g.h.disj m → O ro P fn n R ops L k σ D (g.add m) η) : O ro P fn n R ops L k σ D g (A :: η) :=
 fun a w hf hd hw => by
  obtain ⟨m, hm, hdj, hw'⟩ := hw.freeze
  exact h m hm hdj a w hf hd hw'
theorem O.panic {L : List Nat} {v : Value} {tt : TypeId} (ho : opAtU ops i = some (.panic x)) (hx : ev σ x = some (.iface tt v)) (h : ∀ w, Holds w g η → R (.panicked [{ v := .iface tt v, recovered := false }]) w) : O ro P fn n R ops (i :: L) k σ [] g η := by
 intro a w hf hd hw
 obtain ⟨o, hi, hdst, hop, hg⟩ := opAtU_spec ho
 have hrun : (execOp a.eval o).run P w = .halt (.panic (.iface tt v)) w := by
  simp [execOp, hop, hf.eval hx, Instr.panic]
 refine O.fire hi (by simp [Region.wanted, hg]) (by rw [hop]; intro c hc; cases hc) hrun ?_
 rw [Oper.uponIn_panic]
 exact Post.panic hd (h w hw)
theorem run_equal_pointer_nil (ht : P.underlying t = some (.pointer e)) (a : Option Addr) (w : World) : (Op.equal t (.pointer a) (.pointer none)).run P w = .ok a.isNone w := by
 show (Op.equalIn (9999 + 1) t (.pointer a) (.pointer none)).run P w = _
 rw [Op.equalIn]
 cases a <;> simp [run_underlying ht]
theorem Does.eqlP {u : TypeId} {a : Option Addr} (ht : P.underlying t = some (.pointer e)) (hx : ev σ x = some (.pointer a)) (hy : ev σ y = some (.pointer none)) : Does P (.binOp .eql t x y u) σ g η (.bool a.isNone) η :=
 .run fun o ρ w ho hk => by simp [execOp, ho, hk x _ hx, hk y _ hy, eqGuard, Go.binOp, run_equal_pointer_nil ht]
theorem Does.neqP {u : TypeId} {a : Option Addr} (ht : P.underlying t = some (.pointer e)) (hx : ev σ x = some (.pointer a)) (hy : ev σ y = some (.pointer none)) : Does P (.binOp .neq t x y u) σ g η (.bool (!a.isNone)) η :=
 .run fun o ρ w ho hk => by simp [execOp, ho, hk x _ hx, hk y _ hy, eqGuard, Go.binOp, run_equal_pointer_nil ht]
theorem Does.eqlNil {u : TypeId} {a : Option Addr} {m c : Nat} (ht : P.underlying t = some (.slice e)) (hx : ev σ x = some (.slice a m c)) (hy : ev σ y = some (.slice none 0 0)) : Does P (.binOp .eql t x y u) σ g η (.bool a.isNone) η :=
 .run fun o ρ w ho hk => by simp [execOp, ho, hk x _ hx, hk y _ hy, eqGuard, Go.binOp, run_equal_slice_nil w t e a m c ht]
def notIface : TypeDesc → Bool
 | .interface _ => false
 | _ => true
theorem Does.mkIface {v : Value} {dd : TypeDesc} (ht : P.underlying t = some dd) (hx : ev σ x = some v) (hn : notIface dd = true := by rfl) : Does P (.makeInterface t x) σ g η (.iface t v) η :=
 .run fun o ρ w ho hk => by
  simp only [execOp, ho, hk x _ hx, Instr.makeInterface, Sem.run_bind, run_underlying ht, Result.andThen_ok]
  cases dd <;> first | (simp; done) | exact Bool.noConfusion hn
def placesOf (P : Program) : List Field → Option (List (Nat × Nat))
 | [] => some []
 | f :: fs => match (P.info? f.type).map (·.size), placesOf P fs with | some m, some ps => some ((f.offset, m) :: ps) | _, _ => none
theorem run_places : ∀ (fs : List Field) (ps : List (Nat × Nat)), placesOf P fs = some ps → ∀ w, (fs.mapM fun (f : Field) => (do pure (f.offset, ← sizeOf f.type) : Sem (Nat × Nat))).run P w = .ok ps w
 | [], ps, h, w => by cases h; simp
 | f :: fs, ps, h, w => by
  simp only [placesOf] at h
  split at h
  ·rename_i m qs hm hq
   cases h
   have ih := run_places fs qs hq w
   simp only [List.mapM_cons, Sem.run_bind, run_sizeOf hm, Result.andThen_ok, Sem.run_pure, ih]
  ·cases h
def evps (σ : List (Nat × Value)) : List (Nat × Operand) → Option (List (Nat × Value))
 | [] => some []
 | (j, x) :: r => match ev σ x, evps σ r with | some v, some vs => some ((j, v) :: vs) | _, _ => none
theorem evps_spec {ρ : Operand → Value} (hk : Knows σ ρ) : ∀ {xs : List (Nat × Operand)} {vs : List (Nat × Value)}, evps σ xs = some vs → xs.map (fun p => (p.1, ρ p.2)) = vs
 | [], _, h => by cases h; rfl
 | (j, x) :: xs, vs, h => by
  simp only [evps] at h
  split at h
  ·rename_i v us hv hus; cases h; simp [hk x v hv, evps_spec hk hus]
  ·cases h
def setAt : List Value → Nat → List Value → List Value
 | [], _, _ => []
 | c :: z, n + 1, vs => c :: setAt z n vs
 | c :: z, 0, [] => c :: z
 | _ :: z, 0, v :: vs => v :: setAt z 0 vs
theorem setAt_eq : ∀ (z : List Value) (n : Nat) (vs : List Value), n + vs.length ≤ z.length → setAt z n vs = z.take n ++ vs ++ z.drop (n + vs.length)
 | [], n, vs, h => by simp at h; obtain ⟨rfl, rfl⟩ := h; rfl
 | c :: z, n + 1, vs, h => by
  have := setAt_eq z n vs (by simp at h; omega)
  simp only [setAt, this, List.take_succ_cons, List.cons_append]
  rw [show n + 1 + vs.length = (n + vs.length) + 1 from by omega, List.drop_succ_cons]
 | c :: z, 0, [], h => by simp [setAt]
 | c :: z, 0, v :: vs, h => by
  have := setAt_eq z 0 vs (by simp at h; omega)
  simp only [setAt, this]
  simp
def fillL (ps : List (Nat × Nat)) : List Value → List (Nat × List Value) → Option (List Value)
 | z, [] => some z
 | z, (i, c) :: r => match ps[i]? with
  | some (off, m) => match Nat.beq c.length m, Nat.ble (off + m) z.length with
   | true, true => fillL ps (setAt z off c) r
   | _, _ => none
  | none => none
def cellsL : List (Nat × Value) → List (Nat × List Value)
 | [] => []
 | (i, v) :: r => (i, v.cells.toList) :: cellsL r
theorem fill_L {ps : List (Nat × Nat)} : ∀ (vs : List (Nat × Value)) (z cs : List Value), fillL ps z (cellsL vs) = some cs → Instr.fill (ps[·]?) z.toArray vs = some cs.toArray
 | [], z, cs, h => by cases h; rfl
 | (i, v) :: vs, z, cs, h => by
  simp only [cellsL, fillL] at h
  split at h
  ·rename_i off m hp
   split at h
   ·rename_i hb hl
    have hb := Nat.eq_of_beq_eq_true hb
    have hl := Nat.le_of_ble_eq_true hl
    have hs : v.cells.size = m := by simpa using hb
    simp only [Instr.fill, hp]
    have h2 : (decide (v.cells.size ≠ m) || decide (off + v.cells.size > z.toArray.size)) = false := by simp; omega
    have hf : (v.cells.zipIdx.foldl (fun cs (x : Value × Nat) => cs.setIfInBounds (off + x.2) x.1) z.toArray) = (setAt z off v.cells.toList).toArray := by
     rw [← Array.foldl_toList, Array.toList_zipIdx, setAt_eq _ _ _ (by simpa [hs] using hl)]
     refine foldl_set v.cells.toList (z.take off) ((z.drop off).take m) (z.drop (off + v.cells.toList.length)) 0 off z.toArray ?_ ?_ ?_
     ·rw [hb, ← List.drop_drop, List.append_assoc, List.take_append_drop, List.take_append_drop]
     ·simp [hs]; omega
     ·simp; omega
    rw [if_neg (by rw [h2]; exact Bool.false_ne_true)]
    refine (congrArg (fun c => Instr.fill _ c _) hf).trans (fill_L vs _ cs h)
   ·cases h
  ·cases h
theorem Does.build {fs : Array Field} {z : Value} {zs : List Value} {ps : List (Nat × Nat)} {parts : Array (Nat × Operand)} {vs : List (Nat × Value)} {cs : List Value} (ht : P.underlying t = some (.struct fs)) (hz : zeroOf P t = some z) (hzs : z.cells.toList = zs) (hps : placesOf P fs.toList = some ps)
  (hp : evps σ parts.toList = some vs) (hf : fillL ps zs (cellsL vs) = some cs) : Does P (.build t parts) σ g η (.agg cs.toArray) η :=
 .run fun o ρ w ho hk => by
  subst hzs
  have hm : (parts.map fun (p : Nat × Operand) => (p.1, ρ p.2)).toList = vs := by rw [Array.toList_map]; exact evps_spec hk hp
  have hpl : (fs.mapM fun (f : Field) => (do pure (f.offset, ← sizeOf f.type) : Sem (Nat × Nat))).run P w = .ok ps.toArray w := by
   rw [Array.mapM_eq_mapM_toList, Sem.run_map, run_places _ _ hps]; rfl
  have hf' : Instr.fill (fun j => ps.toArray[j]?) z.cells (parts.map fun (p : Nat × Operand) => (p.1, ρ p.2)).toList = some cs.toArray := by
   have := fill_L vs _ _ hf
   rw [hm]
   rw [Array.toArray_toList] at this
   rw [← this]; congr 1; funext j; simp
  have hb : (Instr.build t (parts.map fun (p : Nat × Operand) => (p.1, ρ p.2))).run P w = .ok (.agg cs.toArray) w := by
   simp only [Instr.build, Sem.run_bind, run_zeroOf hz, Result.andThen_ok, run_underlying ht, hpl, hf']
   rfl
  have e1 : (parts.map fun x => match x with | (i, x) => (i, ρ x)) = parts.map fun (p : Nat × Operand) => (p.1, ρ p.2) := rfl
  simp only [execOp, ho, Sem.run_bind]
  rw [e1, hb]; rfl
end
theorem zsn {η : List SProp} : Sels η [] η := .nil
theorem zsc {η ζ θ : List SProp} {A : SProp} {bs : List SProp} (h : Sel η A ζ) (k : Sels ζ bs θ) : Sels η (A :: bs) θ := .cons h k
end Go.Sp
end
section
/- Texts of this proof. -/
namespace Go.Sp
def Rp.Pure {α : Type} (T : Rp α) : Prop := ∀ (h : Fr) (cs : List Value) (a : α), T.rel h cs a → T.rel Fr.emp cs a
theorem pure_u8 : Rp.u8.Pure := fun _ _ _ h => h
def OwnP {α : Type} (T : Rp α) (e : TypeId) (v : Value) (xs : List α) : SProp := fun h => ∃ css : List (List Value), All2 (T.rel Fr.emp) css xs ∧ Own v T.k e xs.length css.flatten h
theorem OwnP.arr {α : Type} {T : Rp α} {e : TypeId} {v : Value} {xs : List α} {h : Fr} : OwnP T e v xs h → Arr T h v xs
 | ⟨css, a, b⟩ => ⟨css, a.imp fun _ _ => T.mono (Fr.emp_sub _), b.sl⟩
theorem OwnP.shape {α : Type} {T : Rp α} {e : TypeId} {v : Value} {xs : List α} {h : Fr} (x : OwnP T e v xs h) : ∃ a c, v = .slice a xs.length c := x.arr.shape
theorem OwnP.of {α : Type} {T : Rp α} {e : TypeId} {v : Value} {xs : List α} {css : List (List Value)} {m : Nat} {cs : List Value} (ha : All2 (T.rel Fr.emp) css xs) (hm : m = xs.length) (hc : cs = css.flatten) {k : Nat} (hk : k = T.k) :
  ∀ h, Own v k e m cs h → OwnP T e v xs h := by subst hm hc hk; exact fun h x => ⟨css, ha, x⟩
theorem all2_map {α : Type} {T : Rp α} {f : α → List Value} (hf : ∀ x, T.rel Fr.emp (f x) x) : ∀ xs : List α, All2 (T.rel Fr.emp) (xs.map f) xs
 | [] => trivial
 | x :: xs => ⟨hf x, all2_map hf xs⟩
theorem All2.one {α : Type} {T : Rp α} {h : Fr} : ∀ {css : List (List Value)} {xs : List α}, All2 (T.rel h) css xs → ∀ c ∈ css.flatten, c.oneCell' = true
 | [], [], _, c, hc => by cases hc
 | _ :: _, _ :: _, ⟨x, y⟩, c, hc => by
  simp only [List.flatten_cons, List.mem_append] at hc
  rcases hc with hc | hc
  ·exact T.one x c hc
  ·exact All2.one y c hc
section
variable {ro : Option Nat} {P : Program} {σ σ' : List (Nat × Value)} {g : Gr} {η η' ζ θ : List SProp} {fn : Func} {n : Nat} {R : Ending → World → Prop} {k K : List Item} {D : List Deferred} {ops : Array Oper} {i d : Nat} {l : List Nat} {t e : TypeId} {x y : Operand} {todo : List Item}
theorem DoesE.borrow {op : Op} {Q : Value → List SProp → Prop} {A : SProp} (h : ∀ m : Fr, A m → g.h.disj m → DoesE P op σ (g.add m) η Q) : DoesE P op σ g (A :: η) fun v η' => ∃ η₁, Q v η₁ ∧ η' = A :: η₁ :=
 fun o ρ w h1 h2 h3 => by
  obtain ⟨m, hm, hd, hw⟩ := h3.freeze
  obtain ⟨v, w', η₁, q, r, hw'⟩ := h m hm hd o ρ w h1 h2 hw
  exact ⟨v, w', _, ⟨η₁, q, rfl⟩, r, hw'.thaw hm hd⟩
theorem DoesE.appendP {α : Type} {T : Rp α} {by_ : Nat} {z : List Value} {v u : Value} {xs ys : List α} (hT : T.Pure) (ht : P.underlying t = some (.slice e)) (he : elemIs P e T.k by_ z) (hk : 0 < T.k) (hx : ev σ x = some v) (hy : ev σ y = some u)
  (hs : Sel η (OwnP T e v xs) ζ) (hu : Arr T g.h u ys) (hb : (xs.length + ys.length) * by_ ≤ 140737488355328) (h63 : xs.length + ys.length ≤ 9223372036854775807) :
  DoesE P (.call ⟨.builtin .append, #[x, y], #[t, t]⟩) σ g η fun v' η' => ∃ a c, v' = .slice a (xs.length + ys.length) c ∧ η' = OwnP T e v' (xs ++ ys) :: ζ := by
 intro o ρ w h1 h2 h3
 have hw := h3.sel hs
 obtain ⟨p1, p2, p3, K, hd, s1, s2, k1, k2, kd, t1, t2, ⟨css, ha, hown⟩, hr⟩ := hw
 have hw' : Holds w g (Own v T.k e xs.length css.flatten :: ζ) := ⟨p1, p2, p3, K, hd, s1, s2, k1, k2, kd, t1, t2, hown, hr⟩
 obtain ⟨dss, hda, hsl⟩ := hu
 obtain ⟨v', w', η', hη, hrun, hh⟩ := DoesE.append (g := g) ht he hk hx hy .here hsl (All2.one hda) hb h63 o ρ w h1 h2 hw'
 subst hη
 have hh' : Holds w' g (OwnP T e v' (xs ++ ys) :: ζ) := hh.imp fun _ => Sat.cons_imp (OwnP.of (css := css ++ dss) (ha.append (hda.imp fun _ _ q => hT _ _ _ q)) (by simp) (by simp) rfl) fun _ q => q
 obtain ⟨a, c, hv⟩ : ∃ a c, v' = .slice a (xs.length + ys.length) c := by
  obtain ⟨_, _, _, _, _, _, _, k1, _, _, _, _, hA, _⟩ := hh'
  obtain ⟨a, c, h⟩ := hA.shape
  exact ⟨a, c, by simpa using h⟩
 exact ⟨v', w', _, ⟨a, c, hv, rfl⟩, hrun, hh'⟩
theorem DoesE.appendL {α : Type} {T : Rp α} {by_ m : Nat} {z cs : List Value} {v u : Value} {xs ys : List α} {dss : List (List Value)} (ht : P.underlying t = some (.slice e)) (he : elemIs P e T.k by_ z) (hk : 0 < T.k) (hx : ev σ x = some v) (hy : ev σ y = some u)
  (hl : Sel η (Own u T.k e m cs) θ) (hs : Sel θ (OwnP T e v xs) ζ) (hm : m = ys.length) (hc : cs = dss.flatten) (hd : All2 (T.rel Fr.emp) dss ys) (hb : (xs.length + ys.length) * by_ ≤ 140737488355328) (h63 : xs.length + ys.length ≤ 9223372036854775807) :
  DoesE P (.call ⟨.builtin .append, #[x, y], #[t, t]⟩) σ g η fun v' η' => ∃ a c, v' = .slice a (xs.length + ys.length) c ∧ η' = OwnP T e v' (xs ++ ys) :: ζ := by
 subst hm hc
 intro o ρ w h1 h2 h3
 obtain ⟨m, hm, hdj, hw⟩ := (h3.sel hl).freeze
 have hw := hw.sel hs
 obtain ⟨p1, p2, p3, K, hdd, s1, s2, k1, k2, kd, t1, t2, ⟨css, ha, hown⟩, hr⟩ := hw
 have hw' : Holds w (g.add m) (Own v T.k e xs.length css.flatten :: ζ) := ⟨p1, p2, p3, K, hdd, s1, s2, k1, k2, kd, t1, t2, hown, hr⟩
 have hsl : Sl (g.add m).h u T.k ys.length dss.flatten := hm.sl.mono (Fr.sub_add_right hdj)
 obtain ⟨v', w', η', hη, hrun, hh⟩ := DoesE.append (g := g.add m) ht he hk hx hy .here hsl (All2.one hd) hb h63 o ρ w h1 h2 hw'
 subst hη
 have hh' : Holds w' (g.add m) (OwnP T e v' (xs ++ ys) :: ζ) := hh.imp fun _ => Sat.cons_imp (OwnP.of (css := css ++ dss) (ha.append hd) (by simp) (by simp) rfl) fun _ q => q
 obtain ⟨a, c, hv⟩ : ∃ a c, v' = .slice a (xs.length + ys.length) c := by
  obtain ⟨_, _, _, _, _, _, _, k1, _, _, _, _, hA, _⟩ := hh'
  obtain ⟨a, c, h⟩ := hA.shape
  exact ⟨a, c, by simpa using h⟩
 exact ⟨v', w', _, ⟨a, c, hv, rfl⟩, hrun, (hh'.thaw hm hdj).drop⟩
def PtrIn (v : Value) (k j : Nat) (p : Addr) : Prop := ∃ b m c, v = .slice (some ⟨b, 0, none⟩) m c ∧ p = ⟨b, j * k, none⟩
theorem Holds.ownP_block {α : Type} {T : Rp α} {w : World} {v : Value} {xs : List α} (h : Holds w g (OwnP T e v xs :: ζ)) (hne : 0 < xs.length) :
  ∃ b cap cur css, v = .slice (some ⟨b, 0, none⟩) xs.length cap ∧ xs.length ≤ cap ∧ cap ≤ 9223372036854775807 ∧ cur.size = cap * T.k ∧ cur.toList.take (xs.length * T.k) = css.flatten ∧ All2 (T.rel Fr.emp) css xs ∧ ∃ fz, Thawed fz (cap * T.k) ∧ Holds w g (blk b (.cells cur e fz) :: ζ) := by
 obtain ⟨p1, p2, p3, K, hdd, s1, s2, k1, k2, kd, t1, t2, ⟨css, ha, hl, hA⟩, hr⟩ := h
 rcases hA with ⟨_, h0⟩ | ⟨b, cap, cur, hv, ⟨fz, hb, hz⟩, h1, h2, h3, h4⟩
 ·omega
 ·exact ⟨b, cap, cur, css, hv, h1, h2, h3, h4, ha, fz, hz, p1, p2, p3, K, hdd, s1, s2, k1, k2, kd, t1, t2, hb, hr⟩
theorem DoesE.idxOwn {α : Type} {T : Rp α} {v : Value} {xs : List α} {j : Nat} {kd : IntKind} (ht : P.underlying t = some (.slice e)) (he : (P.info? e).map (·.size) = some T.k) (hx : ev σ x = some v) {zi : Int} (hy : ev σ y = some (.int kd zi)) (hzi : zi = (j : Int))
  (hs : Sel η (OwnP T e v xs) ζ) (hj : j < xs.length) : DoesE P (.indexAddr t x y) σ g η fun u η' => ∃ p, u = .pointer (some p) ∧ PtrIn v T.k j p ∧ η' = η :=
 fun o ρ w ho hk hw => by
  subst hzi
  obtain ⟨b, cap, cur, css, rfl, _⟩ := (hw.sel hs).ownP_block (by omega)
  refine ⟨.pointer (some ⟨b, j * T.k, none⟩), w, η, ⟨_, rfl, ⟨b, _, _, rfl, rfl⟩, rfl⟩, ?_, hw⟩
  have e1 : (⟨b, 0, none⟩ : Addr).add (j * T.k) = ⟨b, j * T.k, none⟩ := by rw [add_lit]; simp
  simp [execOp, ho, hk x _ hx, hk y _ hy, Instr.indexAt, asIntOf, run_underlying ht, hj, run_sizeOf he, e1]
theorem set_flat {α : Type} {T : Rp α} {h : Fr} {ds : List Value} {a : α} (hd : T.rel h ds a) : ∀ {css : List (List Value)} {xs : List α} (j : Nat), All2 (T.rel h) css xs → j < xs.length →
  All2 (T.rel h) (css.set j ds) (xs.set j a) ∧ (css.set j ds).flatten = css.flatten.take (j * T.k) ++ ds ++ css.flatten.drop (j * T.k + T.k)
 | [], [], _, _, hj => by simp at hj
 | c :: css, x :: xs, 0, ⟨hc, hr⟩, _ => by
  have hcl := T.len hc
  refine ⟨⟨hd, hr⟩, ?_⟩
  simp [hcl]
 | c :: css, x :: xs, j + 1, ⟨hc, hr⟩, hj => by
  have hcl := T.len hc
  obtain ⟨h1, h2⟩ := set_flat hd j hr (by simpa using hj)
  refine ⟨⟨hc, h1⟩, ?_⟩
  have e1 : (c ++ css.flatten).take ((j + 1) * T.k) = c ++ css.flatten.take (j * T.k) := by
   rw [Nat.succ_mul, List.take_append, List.take_of_length_le (l := c) (by omega)]
   congr 2; omega
  have e2 : (c ++ css.flatten).drop ((j + 1) * T.k + T.k) = css.flatten.drop (j * T.k + T.k) := by
   rw [Nat.succ_mul, List.drop_append, List.drop_of_length_le (l := c) (by omega), List.nil_append]
   congr 1; omega
  simp only [List.set_cons_succ, List.flatten_cons, h2]
  rw [e1, e2]
  simp
theorem DoesU.storeOwn {α : Type} {T : Rp α} {v u : Value} {xs : List α} {j : Nat} {p : Addr} {a : α} (hsz : (P.info? t).map (·.size) = some T.k) (hx : ev σ x = some (.pointer (some p))) (hp : PtrIn v T.k j p) (hy : ev σ y = some u)
  (hs : Sel η (OwnP T e v xs) ζ) (hj : j < xs.length) (hu : T.rel Fr.emp u.cells.toList a) : DoesU P (.store t x y) σ g η (OwnP T e v (xs.set j a) :: ζ) :=
 fun o ρ w ho hk hw => by
  obtain ⟨b, cap, cur, css, rfl, h1, h2, h3, h4, ha, fz, hfz, hwb⟩ := (hw.sel hs).ownP_block (by omega)
  obtain ⟨b', m', c', he, rfl⟩ := hp
  cases he
  have hul : u.cells.toList.length = T.k := T.len hu
  have hjm : j * T.k + T.k ≤ xs.length * T.k := by rw [← Nat.succ_mul]; exact Nat.mul_le_mul_right _ hj
  have hmc : xs.length * T.k ≤ cur.size := by rw [h3]; exact Nat.mul_le_mul_right _ h1
  have hst := run_storeCells_z P b (j * T.k) e hfz u.cells.toList 0 cur w hwb.block (by omega) (by omega) (T.one hu)
  simp only [Nat.add_zero, hul] at hst
  obtain ⟨q1, q2⟩ := set_flat hu j ha hj
  refine ⟨w.setRow b (cur.toList.take (j * T.k) ++ u.cells.toList ++ cur.toList.drop (j * T.k + T.k)).toArray, ?_, ?_⟩
  ·have hc : u.cells.size = T.k := by rw [← hul]; simp
   simp only [List.append_assoc] at hst ⊢
   simp [execOp, ho, hk x _ hx, hk y _ hy, Instr.storeAt, Instr.sureAddr, storeVar, run_sizeOf hsz, hc, hst]
  ·refine (hwb.setRow.ownF hfz (k := T.k) (m := xs.length) (cap := cap) (cs := (css.set j u.cells.toList).flatten) h1 h2 ?_ ?_).imp fun _ => Sat.cons_imp (OwnP.of q1 (by simp) rfl rfl) fun _ q => q
   ·simp only [List.size_toArray, List.length_append, List.length_take, List.length_drop, Array.length_toList, hul]
    omega
   ·rw [q2, ← h4]
    have l1 : (cur.toList.take (j * T.k)).length = j * T.k := by simp; omega
    simp only [List.append_assoc]
    rw [List.take_append, l1, List.take_take, Nat.min_eq_right (by omega), List.take_append, hul, List.take_take, Nat.min_eq_left (by omega)]
    rw [List.take_of_length_le (l := u.cells.toList) (by omega)]
    congr 2
    rw [List.drop_take]
    congr 1
    omega
theorem reps_flat {α : Type} {T : Rp α} {z : List Value} {a : α} (hz : T.rel Fr.emp z a) : ∀ m : Nat, ∃ css, All2 (T.rel Fr.emp) css (List.replicate m a) ∧ css.flatten = reps z m
 | 0 => ⟨[], trivial, rfl⟩
 | m + 1 => let ⟨css, h1, h2⟩ := reps_flat hz m; ⟨z :: css, ⟨hz, h1⟩, by simp [reps, h2]⟩
theorem DoesE.makeP {α : Type} {T : Rp α} {by_ : Nat} {z : List Value} (a : α) {m : Nat} {kx ky : IntKind} {zx zy : Int} (ht : P.underlying t = some (.slice e)) (he : elemIs P e T.k by_ z) (hk : 0 < T.k) (hz : T.rel Fr.emp z a)
  (hx : ev σ x = some (.int kx zx)) (hy : ev σ y = some (.int ky zy)) (hzx : zx = (m : Int)) (hzy : zy = (m : Int)) (hb : by_ * m ≤ 281474976710656) (h63 : m ≤ 9223372036854775807) :
  DoesE P (.makeSlice t x y) σ g η fun v η' => ∃ a' c, v = .slice a' m c ∧ η' = OwnP T e v (List.replicate m a) :: η := by
 subst hzx hzy
 intro o ρ w h1 h2 h3
 obtain ⟨v, w', η', hη, hrun, hw⟩ := DoesE.make (g := g) (η := η) ht he hk hx hy hb h63 o ρ w h1 h2 h3
 subst hη
 obtain ⟨css, q1, q2⟩ := reps_flat hz m
 have hh : Holds w' g (OwnP T e v (List.replicate m a) :: η) := hw.imp fun _ => Sat.cons_imp (OwnP.of q1 (by simp) q2.symm rfl) fun _ q => q
 obtain ⟨a', c, hv⟩ : ∃ a' c, v = .slice a' m c := by
  obtain ⟨_, _, _, _, _, _, _, k1, _, _, _, _, hA, _⟩ := hh
  obtain ⟨a', c, h⟩ := hA.shape
  exact ⟨a', c, by simpa using h⟩
 exact ⟨v, w', _, ⟨a', c, hv, rfl⟩, hrun, hh⟩
theorem DoesE.litP {α : Type} {T : Rp α} {by_ len : Nat} {z : List Value} {parts : Array (Nat × Operand)} {vs : List Value} {ys : List α} (ht : P.underlying t = some (.slice e)) (he : elemIs P e T.k by_ z) (hk : 0 < T.k)
  (hp : partsOf σ parts.toList 0 = some vs) (hlen : parts.toList.length = len) (hvs : All2 (T.rel Fr.emp) (vs.map (·.cells.toList)) ys) (h24 : len * T.k ≤ 16777216) :
  DoesE P (.buildSlice t len parts) σ g η fun v η' => ∃ a c, v = .slice a len c ∧ η' = OwnP T e v ys :: η := by
 intro o ρ w h1 h2 h3
 have hl : vs.length = len := by rw [partsOf_length _ _ _ hp, hlen]
 have hyl : ys.length = len := by rw [← hvs.length, List.length_map, hl]
 have hall : vs.all (fun v => Nat.beq v.cells.size T.k) = true := by
  rw [List.all_eq_true]
  intro v hv
  obtain ⟨i, hi, rfl⟩ := List.mem_iff_getElem.1 hv
  have := T.len (hvs.get i (by simpa using hi) (by omega))
  have hs : vs[i].cells.size = T.k := by simpa using this
  rw [hs]; exact Nat.beq_refl _
 obtain ⟨v, w', η', hη, hrun, hw⟩ := DoesE.lit (g := g) (η := η) ht he hk hp hlen hall h24 o ρ w h1 h2 h3
 subst hη
 have hh : Holds w' g (OwnP T e v ys :: η) := hw.imp fun _ => Sat.cons_imp (OwnP.of hvs hyl.symm rfl rfl) fun _ q => q
 obtain ⟨a', c, hv⟩ : ∃ a' c, v = .slice a' len c := by
  obtain ⟨_, _, _, _, _, _, _, k1, _, _, _, _, hA, _⟩ := hh
  obtain ⟨a', c, h⟩ := hA.shape
  exact ⟨a', c, by simpa [hyl] using h⟩
 exact ⟨v, w', _, ⟨a', c, hv, rfl⟩, hrun, hh⟩
theorem DoesE.appendO {α : Type} {T : Rp α} {by_ : Nat} {z : List Value} {v u : Value} {xs ys : List α} (ht : P.underlying t = some (.slice e)) (he : elemIs P e T.k by_ z) (hk : 0 < T.k) (hx : ev σ x = some v) (hy : ev σ y = some u)
  (hl : Sel η (OwnP T e u ys) θ) (hs : Sel θ (OwnP T e v xs) ζ) (hb : (xs.length + ys.length) * by_ ≤ 140737488355328) (h63 : xs.length + ys.length ≤ 9223372036854775807) :
  DoesE P (.call ⟨.builtin .append, #[x, y], #[t, t]⟩) σ g η fun v' η' => ∃ a c, v' = .slice a (xs.length + ys.length) c ∧ η' = OwnP T e v' (xs ++ ys) :: ζ := by
 intro o ρ w h1 h2 h3
 obtain ⟨p1, p2, p3, K, hdd, s1, s2, k1, k2, kd, t1, t2, ⟨css, ha, hown⟩, hr⟩ := h3.sel hl
 have hw' : Holds w g (Own u T.k e ys.length css.flatten :: θ) := ⟨p1, p2, p3, K, hdd, s1, s2, k1, k2, kd, t1, t2, hown, hr⟩
 exact DoesE.appendL (g := g) ht he hk hx hy .here hs rfl rfl ha hb h63 o ρ w h1 h2 hw'
theorem ownP_nil {α : Type} {T : Rp α} : ∀ h, OwnP T e (.slice none 0 0) ([] : List α) h := fun _ => ⟨[], trivial, by simp, .inl ⟨rfl, rfl⟩⟩
theorem S.addNil {α : Type} {T : Rp α} (h : S ro P fn n R todo σ D g (OwnP T e (.slice none 0 0) ([] : List α) :: η)) : S ro P fn n R todo σ D g η :=
 S.imp (η' := OwnP T e (.slice none 0 0) ([] : List α) :: η) (fun m hm => ⟨Fr.emp, m, Fr.emp_disj _, Fr.emp_sub _, Fr.sub_refl _, ownP_nil _, hm⟩) h
end
end Go.Sp
end
