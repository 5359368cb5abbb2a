import Derived.Test.YtodhbhanmdfdeaaSpRange
import Derived.Test.YtodhbhanmdfdeaaSpOpen
import Derived.Test.YtodhbhanmdfdeaaSpKit
/- Things of one's own, however deep: how they read, and what they have. -/
namespace Go.Sp
structure Gp (α : Type) where
  rp : Rp α
  own : List Value → α → SProp
  rel : ∀ {cs : List Value} {a : α} {m : Fr}, own cs a m → rp.rel m cs a
theorem All2.len2 {α β : Type} {R : β → α → Prop} : ∀ {bs : List β} {as : List α}, All2 R bs as → bs.length = as.length
  | [], [], _ => rfl
  | [], _ :: _, h => h.elim
  | _ :: _, [], h => h.elim
  | _ :: _, _ :: _, h => congrArg Nat.succ (All2.len2 h.2)
theorem all2_cells {k : Nat} {h : Fr} : ∀ {cs : List (List Value)} {ds : List (List Value)}, All2 ((Rp.cells k).rel h) cs ds → cs = ds
  | [], [], _ => rfl
  | [], _ :: _, h => h.elim
  | _ :: _, [], h => h.elim
  | _ :: _, _ :: _, h => by rw [h.1.1, all2_cells h.2]
theorem Arr.ofCells {α : Type} {T : Rp α} {k : Nat} {h : Fr} {v : Value} {css : List (List Value)} {xs : List α} (h1 : Arr (Rp.cells k) h v css) (h2 : All2 (T.rel h) css xs) (hk : k = T.k) : Arr T h v xs := by
  obtain ⟨ds, p, q⟩ := h1
  obtain rfl := all2_cells p
  subst hk
  exact ⟨ds, h2, by rw [← h2.len2]; exact q⟩
/-- cells that read so -/
def Cells {α : Type} (T : Rp α) (h : Fr) (css : List (List Value)) (xs : List α) : Prop := All2 (T.rel h) css xs
theorem Cells.mono {α : Type} {T : Rp α} {h h' : Fr} {css : List (List Value)} {xs : List α} (x : Cells T h css xs) (s : h.sub h') : Cells T h' css xs := All2.imp (fun _ _ => T.mono s) x
theorem Cells.len {α : Type} {T : Rp α} {h : Fr} {css : List (List Value)} {xs : List α} (x : Cells T h css xs) : css.length = xs.length := x.len2
theorem Cells.nil {α : Type} {T : Rp α} {h : Fr} : Cells T h [] [] := trivial
theorem Cells.snoc {α : Type} {T : Rp α} {h : Fr} {cs : List Value} {a : α} : ∀ {css : List (List Value)} {xs : List α}, Cells T h css xs → T.rel h cs a → Cells T h (css ++ [cs]) (xs ++ [a])
  | [], [], _, x => ⟨x, trivial⟩
  | [], _ :: _, h, _ => h.elim
  | _ :: _, [], h, _ => h.elim
  | _ :: _, _ :: _, h, x => ⟨h.1, Cells.snoc h.2 x⟩
theorem Cells.arr {α : Type} {T : Rp α} {k : Nat} {h : Fr} {v : Value} {css : List (List Value)} {xs : List α} (x : Cells T h css xs) (hk : k = T.k) (h1 : Arr (Rp.cells k) h v css) : Arr T h v xs := Arr.ofCells h1 x hk
/-- a list of one's own of such -/
def ListP {α : Type} (G : Gp α) (e : TypeId) (v : Value) (xs : List α) : SProp := fun m => ∃ css, Sat [OwnP (Rp.cells G.rp.k) e v css, EachP G.own css xs] m
theorem ListP.arr {α : Type} {G : Gp α} {e : TypeId} {v : Value} {xs : List α} {m : Fr} : ListP G e v xs m → Arr G.rp m v xs := by
  rintro ⟨css, h1, h2, _, s1, s2, ⟨ds, p, q⟩, h3, _, _, t, _, y, _⟩
  have hd := all2_cells p
  have hy := EachP.all2 (R := fun cs a => G.rp.rel m cs a) (k := m) (fun b a m' z s => G.rp.mono s (G.rel z)) y (Fr.sub_trans t s2)
  refine ⟨css, hy, ?_⟩
  rw [← hy.len2]
  subst hd
  exact (q.sl).mono s1
theorem ListP.shape {α : Type} {G : Gp α} {e : TypeId} {v : Value} {xs : List α} {m : Fr} (h : ListP G e v xs m) : ∃ a c, v = .slice a xs.length c := h.arr.shape
/-- elements that have nothing besides -/
def Gp.pure {α : Type} (T : Rp α) : Gp α := { rp := T, own := fun cs a _ => T.rel Fr.emp cs a, rel := fun h => T.mono (Fr.emp_sub _) h }
/-- a list of elements that have nothing -/
def Gp.row {α : Type} (T : Rp α) (e : TypeId) : Gp (List α) := { rp := Rp.slice T, own := fun cs xs m => ∃ v, cs = [v] ∧ OwnP T e v xs m, rel := fun ⟨v, h, x⟩ => ⟨v, h, x.arr⟩ }
def Gp.list {α : Type} (G : Gp α) (e : TypeId) : Gp (List α) := { rp := Rp.slice G.rp, own := fun cs xs m => ∃ v, cs = [v] ∧ ListP G e v xs m, rel := fun ⟨v, h, x⟩ => ⟨v, h, x.arr⟩ }
def Gp.prod {α β : Type} (A : Gp α) (B : Gp β) : Gp (α × β) :=
  { rp := Rp.prod A.rp B.rp, own := fun cs x m => ∃ c d, cs = c ++ d ∧ Sat [A.own c x.1, B.own d x.2] m
    rel := fun ⟨c, d, h, z⟩ => by
      obtain ⟨h1, h2, _, s1, s2, p, q⟩ := Sat.two.1 z
      obtain ⟨h3, t, u⟩ := q
      exact ⟨c, d, h, A.rp.mono s1 (A.rel p), B.rp.mono (Fr.sub_trans t s2) (B.rel u)⟩ }
def Gp.unit : Gp Unit := { rp := Rp.unit, own := fun cs _ _ => cs = [], rel := fun h => h }

theorem Gp.own_prod {α β : Type} {A : Gp α} {B : Gp β} {c d : List Value} {x : α} {y : β} {m : Fr} (h : Sat [A.own c x, B.own d y] m) : (Gp.prod A B).own (c ++ d) (x, y) m := ⟨c, d, rfl, h⟩
theorem Gp.own_pure_prod {α β : Type} {T : Rp α} {B : Gp β} {c d : List Value} {x : α} {y : β} {m : Fr} (h : T.rel Fr.emp c x) (h2 : B.own d y m) : (Gp.prod (Gp.pure T) B).own (c ++ d) (x, y) m :=
  ⟨c, d, rfl, Fr.emp, m, Fr.emp_disj _, Fr.emp_sub _, Fr.sub_refl _, h, m, Fr.emp, Fr.disj_symm (Fr.emp_disj _), Fr.sub_refl _, Fr.emp_sub _, h2, trivial⟩
theorem Gp.own_unit {α : Type} {A : Gp α} {c : List Value} {x : α} {m : Fr} (h : A.own c x m) : (Gp.prod A Gp.unit).own c (x, ()) m :=
  ⟨c, [], (List.append_nil _).symm, m, Fr.emp, Fr.disj_symm (Fr.emp_disj _), Fr.sub_refl _, Fr.emp_sub _, h, Fr.emp, Fr.emp, Fr.emp_disj _, Fr.emp_sub _, Fr.emp_sub _, rfl, trivial⟩

section
variable {ro : Option Nat} {P : Program} {fn : Func} {n : Nat} {R : Ending → World → Prop} {k : List Item} {σ : List (Nat × Value)} {D : List Deferred} {g : Gr} {η ζ θ : List SProp} {ops : Array Oper} {L : List Nat} {todo : List Item}
  {α : Type} {G : Gp α} {e : TypeId} {v : Value} {xs : List α}
theorem sat_listNil {m : Fr} (h : Sat η m) : Sat (ListP G e (.slice none 0 0) [] :: η) m := by
  refine ⟨Fr.emp, m, Fr.emp_disj _, Fr.emp_sub _, Fr.sub_refl _, ⟨[], Fr.emp, Fr.emp, Fr.emp_disj _, Fr.emp_sub _, Fr.emp_sub _, ?_, Fr.emp, Fr.emp, Fr.emp_disj _, Fr.emp_sub _, Fr.emp_sub _, trivial, trivial⟩, h⟩
  exact ownP_nil _
theorem S.listNil (G : Gp α) (e : TypeId) (h : S ro P fn n R todo σ D g (ListP G e (.slice none 0 0) [] :: η)) : S ro P fn n R todo σ D g η := S.imp' (fun _ => sat_listNil) h
theorem O.listNil (G : Gp α) (e : TypeId) (h : O ro P fn n R ops L k σ D g (ListP G e (.slice none 0 0) [] :: η)) : O ro P fn n R ops L k σ D g η := O.imp (fun _ => sat_listNil) h
theorem S.listOpen {k' : Nat} (hk : G.rp.k = k') (s : Sel η (ListP G e v xs) ζ) (h : ∀ css, css.length = xs.length → S ro P fn n R todo σ D g (OwnP (Rp.cells k') e v css :: EachP G.own css xs :: ζ)) : S ro P fn n R todo σ D g η := by
  subst hk
  exact S.sel s (S.exi (A := fun css m => Sat [OwnP (Rp.cells G.rp.k) e v css, EachP G.own css xs] m) fun css =>
    S.entail (fun _ x => x) (S.factS (B := EachP G.own css xs) (.there .here) (p := css.length = xs.length) (fun _ x => x.len) fun hl => h css hl))
theorem O.entail' {A : SProp} (hs : ∀ k, A k → Sat ζ k) (h : O ro P fn n R ops L k σ D g (ζ ++ η)) : O ro P fn n R ops L k σ D g (A :: η) :=
  O.imp (fun _ ⟨_, _, d, s1, s2, x, y⟩ => Sat.mono (Fr.add_sub s1 s2) (Sat.append d (hs _ x) y)) h
theorem O.listOpen {k' : Nat} (hk : G.rp.k = k') (s : Sel η (ListP G e v xs) ζ) (h : ∀ css, css.length = xs.length → O ro P fn n R ops L k σ D g (OwnP (Rp.cells k') e v css :: EachP G.own css xs :: ζ)) : O ro P fn n R ops L k σ D g η := by
  subst hk
  exact O.sel s (O.exi (A := fun css m => Sat [OwnP (Rp.cells G.rp.k) e v css, EachP G.own css xs] m) fun css =>
    O.entail' (fun _ x => x) (O.factS (B := EachP G.own css xs) (.there .here) (p := css.length = xs.length) (fun _ x => x.len) fun hl => h css hl))
theorem sat_list {k' : Nat} (hk : G.rp.k = k') {css : List (List Value)} (s1 : Sel η (OwnP (Rp.cells k') e v css) ζ) (s2 : Sel ζ (EachP G.own css xs) θ) {m : Fr} (h : Sat η m) : Sat (ListP G e v xs :: θ) m := by
  subst hk
  exact Sat.join2 (A := OwnP (Rp.cells G.rp.k) e v css) (B := EachP G.own css xs) (fun _ x => ⟨css, x⟩) (Sat.cons_imp (fun _ y => y) (fun _ y => Sat.perm s2.perm y) (Sat.perm s1.perm h))
theorem S.listShut {k' : Nat} (hk : G.rp.k = k') {css : List (List Value)} (s1 : Sel η (OwnP (Rp.cells k') e v css) ζ) (s2 : Sel ζ (EachP G.own css xs) θ) (h : S ro P fn n R todo σ D g (ListP G e v xs :: θ)) : S ro P fn n R todo σ D g η :=
  S.imp' (fun _ => sat_list hk s1 s2) h
theorem O.listShut {k' : Nat} (hk : G.rp.k = k') {css : List (List Value)} (s1 : Sel η (OwnP (Rp.cells k') e v css) ζ) (s2 : Sel ζ (EachP G.own css xs) θ) (h : O ro P fn n R ops L k σ D g (ListP G e v xs :: θ)) : O ro P fn n R ops L k σ D g η :=
  O.imp (fun _ => sat_list hk s1 s2) h
/-- one more has been put behind -/
theorem S.listPut {k' : Nat} (hk : G.rp.k = k') {css : List (List Value)} {cs : List Value} {a : α} {η₁ η₂ : List SProp} (s1 : Sel η (OwnP (Rp.cells k') e v (css ++ [cs])) ζ) (s2 : Sel ζ (EachP G.own css xs) η₁) (s3 : Sel η₁ (G.own cs a) η₂) (h : S ro P fn n R todo σ D g (ListP G e v (xs ++ [a]) :: η₂)) : S ro P fn n R todo σ D g η :=
  S.sel s1 (S.each (.there s2) (.there s3) (S.listShut hk (.there .here) .here h))
theorem O.listPut {k' : Nat} (hk : G.rp.k = k') {css : List (List Value)} {cs : List Value} {a : α} {η₁ η₂ : List SProp} (s1 : Sel η (OwnP (Rp.cells k') e v (css ++ [cs])) ζ) (s2 : Sel ζ (EachP G.own css xs) η₁) (s3 : Sel η₁ (G.own cs a) η₂) (h : O ro P fn n R ops L k σ D g (ListP G e v (xs ++ [a]) :: η₂)) : O ro P fn n R ops L k σ D g η :=
  O.sel s1 (O.each (.there s2) (.there s3) (O.listShut hk (.there .here) .here h))
theorem S.frzG {T : Rp α} (hT : G.rp = T) (s : Sel η (ListP G e v xs) ζ) (h : ∀ g' : Gr, g.h.sub g'.h → (∀ w ζ, Holds w g' ζ → Holds w g ζ) → Arr T g'.h v xs → S ro P fn n R todo σ D g' ζ) : S ro P fn n R todo σ D g η :=
  S.frz s fun g' h1 h2 ⟨_, h3, h4⟩ => h g' h1 h2 (hT ▸ h3.arr.mono h4)
theorem O.frzG {T : Rp α} (hT : G.rp = T) (s : Sel η (ListP G e v xs) ζ) (h : ∀ g' : Gr, g.h.sub g'.h → (∀ w ζ, Holds w g' ζ → Holds w g ζ) → Arr T g'.h v xs → O ro P fn n R ops L k σ D g' ζ) : O ro P fn n R ops L k σ D g η :=
  O.frz s fun g' h1 h2 ⟨_, h3, h4⟩ => h g' h1 h2 (hT ▸ h3.arr.mono h4)
end
/-- a load whose place in the order counts -/
theorem OD.loadL {P : Program} {fn : Func} {n : Nat} {R : Ending → World → Prop} {k : List Item} {σ : List (Nat × Value)} {D : List Deferred} {g : Gr} {η : List SProp} {ops : Array Oper} {l : List Nat} {i d : Nat} {t : TypeId} {x : Operand} {v : Value}
    (ho : Fires ops i n σ d (.load t x)) (hd : descOk ops [i] l = true) (hdo : ∀ ζ, Does P (.load t x) σ g (η ++ ζ) v (η ++ ζ)) (h : OD P fn n R ops k D g l ((d, v) :: σ) η) : OD P fn n R ops k D g (i :: l) σ η :=
  .loudE (K := fun v' η' => v' = v ∧ η' = η) ho rfl hd (fun ζ o ρ w h1 h2 h3 => let ⟨w', a, b⟩ := hdo ζ o ρ w h1 h2 h3; ⟨v, w', η ++ ζ, ⟨η, ⟨rfl, rfl⟩, rfl⟩, a, b⟩) (by rintro _ _ ⟨rfl, rfl⟩; exact h)
/-- other words behind a call -/
theorem Con.post {P : Program} {f : FuncId} {args : Array Value} {r : Fr} {η : List SProp} {Post Post' : Ending → List SProp → Prop} (h : Con P f args r η Post) (hp : ∀ e η', Post e η' → ∀ w g, Holds w g η' → ∃ η'', Post' e η'' ∧ Holds w g η'') : Con P f args r η Post' :=
  fun g hr w hw => (h g hr w hw).mono fun e w' ⟨η', x, y⟩ => hp e η' x w' g y
theorem Ret.imp {K K' : Value → List SProp → Prop} (h : ∀ v η, K v η → K' v η) : ∀ e η, Ret K e η → Ret K' e η
  | .returned v, η, x => h v η x
  | .panicked _, _, x => x.elim
  | .outgrown, _, x => x.elim
theorem Sat.unpack {ws ζ : List SProp} {A : SProp} (hA : ∀ m, A m → Sat ws m) {m : Fr} (h : Sat (A :: ζ) m) : Sat (ws ++ ζ) m := by
  obtain ⟨_, _, d, s1, s2, x, y⟩ := h
  exact Sat.mono (Fr.add_sub s1 s2) (Sat.append d (hA _ x) y)
theorem Holds.exi {w : World} {g : Gr} {ζ : List SProp} {α : Type} {A : α → SProp} (h : Holds w g ((fun m => ∃ x, A x m) :: ζ)) : ∃ x, Holds w g (A x :: ζ) := by
  obtain ⟨p, q, rr, k, d, s1, s2, k1, k2, kd, t1, t2, ⟨x, hx⟩, y⟩ := h
  exact ⟨x, p, q, rr, k, d, s1, s2, k1, k2, kd, t1, t2, hx, y⟩
/-- a range over a function that goes over a list: the words that a round turns (W), and those of the function's own (θ) -/
theorem S.rangeAll {P : Program} {fn : Func} {n : Nat} {R : Ending → World → Prop} {k : List Item} {σ : List (Nat × Value)} {D : List Deferred} {g : Gr} {η ζ θ θ' : List SProp} {f : FuncId} {x : Operand} {first cap : Array Value} {ps : Array Tmp} {psl : List Nat} {assign body : Code}
    {β χ τ : Type} {vs : β → χ → List Value} {own : β → χ → List SProp} {ys : List β} (W : List β → τ → List SProp) (x0 : τ) (hx : ev σ x = some (.func (.func f) first cap)) (hc : callable P f = true) (hps : ps = psl.toArray) (hln : ∀ y e, (vs y e).length = psl.length) (hb : psl.all (fun p => Nat.blt p n) = true)
    (it : ∀ (l : Nat) (J : List β → SProp), (∀ done y e, done ++ [y] <+: ys → YCon P l (vs y e).toArray g.h (own y e ++ [J done]) (Ret fun u η => u = .bool true ∧ η = [J (done ++ [y])])) →
      Con P f (first ++ #[yieldV l] ++ cap) g.h (θ ++ [J []]) (Ret fun _ η => η = θ' ++ [J ys]))
    (hs : Sels η (θ ++ W [] x0) ζ)
    (round : ∀ (l D0 fid : Nat) (tm : Array Value) (done : List β) (y : β) (e : χ) (t : τ) (_ : done ++ [y] <+: ys) (g' : Gr), g.h.sub g'.h → ∀ R : Ending → World → Prop,
      (∀ t' w, Holds w g' (blk l (.loop (loopRec fid tm ps assign body D0)) :: W (done ++ [y]) t') → R (.returned (.bool true)) w) →
      S (some l) P fn n R [.code assign, .beginRound, .code body] (under psl (vs y e) σ) [] g' (blk l (.loop (loopRec fid tm ps assign body D0)) :: (W done t ++ own y e)))
    (h : ∀ D0 t, S none P fn n R k σ (⟨.collected D0, #[]⟩ :: D) g (blk D0 (.deferred (some [])) :: (W ys t ++ (θ' ++ ζ)))) :
    S none P fn n R (.code (.rangeFunc x ps assign body) :: k) σ D g η := by
  refine S.rangeFunc (J := fun j ζ' => j = none ∧ ∃ t, ζ' = W ys t ++ (θ' ++ ζ)) hx hc (fun l D0 fid tm hfn hfit => ?_) (fun D0 jump ζ' hJ => ?_)
  · let L := loopRec fid tm ps assign body D0
    have hy : ∀ done y e, done ++ [y] <+: ys → YCon P l (vs y e).toArray g.h (own y e ++ [fun m => ∃ t, Sat (blk l (.loop L) :: W done t) m]) (Ret fun u η => u = .bool true ∧ η = [fun m => ∃ t, Sat (blk l (.loop L) :: W (done ++ [y]) t) m]) := by
      intro done y e hpre
      refine YCon.perm (List.perm_append_comm) (YCon.exi (A := fun t m => Sat (blk l (.loop L) :: W done t) m) fun t => ?_)
      refine YCon.imp (ζ := blk l (.loop L) :: (W done t ++ own y e)) (fun _ z => Sat.unpack (fun _ u => u) z) ?_
      refine YCon.of (fn := fn) (n := n) (σ := σ) (vs y e) psl rfl hps (hln y e) hb hfn hfit (fun g' hg' R hR => ?_)
      exact round l D0 fid tm done y e t hpre g' hg' R fun t' w hw => hR _ _ w ⟨rfl, rfl⟩ (Holds.pack (ζ := []) (ws := blk l (.loop L) :: W (done ++ [y]) t') (A := fun m => ∃ t, Sat (blk l (.loop L) :: W (done ++ [y]) t) m) (fun _ z => ⟨t', z⟩) (by simpa using hw))
    have hi := (it l _ hy).frame (ζ := ζ)
    intro g' hg' w hw
    have hw1 : Holds w g' ((θ ++ [fun m => ∃ t, Sat (blk l (.loop L) :: W [] t) m]) ++ ζ) := by
      have hp : (blk l (.loop L) :: η).Perm ((blk l (.loop L) :: W [] x0) ++ (θ ++ ζ)) := by
        refine (List.Perm.cons _ hs.perm).trans ?_
        rw [List.cons_append, List.append_assoc]
        refine List.Perm.cons _ ?_
        rw [← List.append_assoc, ← List.append_assoc]
        exact List.Perm.append_right _ List.perm_append_comm
      have h1 := Holds.pack (A := fun m => ∃ t, Sat (blk l (.loop L) :: W [] t) m) (fun _ z => ⟨x0, z⟩) (hw.perm hp)
      refine h1.perm ?_
      rw [← List.cons_append, List.append_assoc]
      exact (List.perm_append_comm (l₁ := [_]) (l₂ := θ)).append_right ζ |>.trans (by rw [List.append_assoc])
    refine (hi g' hg' w hw1).mono fun e w' hh => ?_
    obtain ⟨η', ⟨η₁, hp, rfl⟩, hw'⟩ := hh
    cases e with
    | panicked _ => exact hp.elim
    | outgrown => exact hp.elim
    | returned v =>
      obtain rfl : η₁ = _ := hp
      have h2 : Holds w' g' ((fun m => ∃ t, Sat (blk l (.loop L) :: W ys t) m) :: (θ' ++ ζ)) := hw'.perm (by
        rw [← List.cons_append]
        exact (List.perm_append_comm (l₁ := θ') (l₂ := [_])).append_right ζ)
      obtain ⟨t, h3⟩ := Holds.exi (A := fun t m => Sat (blk l (.loop L) :: W ys t) m) h2
      exact ⟨_, ⟨L, W ys t ++ (θ' ++ ζ), by simp [L, loopRec], ⟨rfl, t, rfl⟩, rfl⟩, h3.imp fun _ z => Sat.unpack (fun _ u => u) z⟩
  · obtain ⟨rfl, t, rfl⟩ := hJ
    exact h D0 t
end Go.Sp
