import Derived.Test.YtodhbhanmdfdeaaSpMapT
/- A loop's next round, laid open. -/
namespace Go.Sp
variable {ro : Option Nat} {P : Program} {fn : Func} {n : Nat} {R : Ending → World → Prop} {k : List Item} {σ : List (Nat × Value)} {D : List Deferred} {g : Gr} {η : List SProp}
/-- once more around -/
theorem S.reloop {c : Code} (h : S ro P fn n R (.code c :: .inLoop c :: k) σ D g η) : S ro P fn n R (.inLoop c :: k) σ D g η :=
  fun a w hf hd hw => .step (fun _ _ => stepR_inLoop) (h a w hf hd hw)
/-- words that are lent to a call, which has others for itself -/
theorem Con.lentW {f : FuncId} {args : Array Value} {h : Fr} {bs : List SProp} {K : Value → List SProp → Prop} (con : ∀ m : Fr, Sat bs m → h.disj m → Con P f args (h.add m) η (Ret K)) :
    Con P f args h (η ++ bs) (Ret fun v η' => ∃ η₁, K v η₁ ∧ η' = η₁ ++ bs) := fun g hg w hw => by
  obtain ⟨m, hm, hd, hw'⟩ := Holds.freezeAll (η := η) (ζ := bs) hw
  have hd' : h.disj m := Fr.disj_sub hd hg (Fr.sub_refl _)
  refine (con m hm hd' (g.add m) (Fr.add_sub (Fr.sub_trans hg (Fr.sub_add_left _ _)) (Fr.sub_add_right hd)) w hw').mono fun e w' ⟨η', x, y⟩ => ⟨η' ++ bs, ?_, y.thawAll hm hd⟩
  cases e with
  | returned v => exact ⟨η', x, rfl⟩
  | panicked _ => exact x.elim
  | outgrown => exact x.elim
theorem Sat.at1 {h m : Fr} {b : Nat} {T : TypeId} {cs : List Value} (hm : Sat [obj b T cs] m) (hd : h.disj m) : At (h.add m) ⟨b, 0, none⟩ cs :=
  At.mono (Fr.sub_add_right hd) (let ⟨_, _, _, s, _, x, _⟩ := hm; (obj_at x).mono s)
theorem Sat.list1 {α : Type} {G : Gp α} {e : TypeId} {v : Value} {xs : List α} {m : Fr} (hm : Sat [ListP G e v xs] m) : Arr G.rp m v xs :=
  let ⟨_, _, _, s, _, x, _⟩ := hm; (ListP.arr x).mono s
theorem Sat.listH {α : Type} {G : Gp α} {e : TypeId} {v : Value} {xs : List α} {ζ : List SProp} {m : Fr} (hm : Sat (ListP G e v xs :: ζ) m) : Arr G.rp m v xs :=
  let ⟨_, _, _, s, _, x, _⟩ := hm; (ListP.arr x).mono s
/-- cells of what reads so -/
theorem Arr.toCells {α : Type} {T : Rp α} {k : Nat} {h : Fr} {v : Value} {xs : List α} (hk : k = T.k) (x : Arr T h v xs) : ∃ css, Arr (Rp.cells k) h v css ∧ Cells T h css xs := by
  obtain ⟨css, a, b⟩ := x
  subst hk
  refine ⟨css, ⟨css, ?_, by rw [a.len2]; exact b⟩, a⟩
  clear b
  induction css generalizing xs with
  | nil => trivial
  | cons c css ih =>
    cases xs with
    | nil => exact a.elim
    | cons x xs => exact ⟨⟨rfl, T.len a.1, T.one a.1⟩, ih a.2⟩
theorem Cells.append {α : Type} {T : Rp α} {h : Fr} : ∀ {css dss : List (List Value)} {xs ys : List α}, Cells T h css xs → Cells T h dss ys → Cells T h (css ++ dss) (xs ++ ys)
  | [], _, [], _, _, y => y
  | [], _, _ :: _, _, h, _ => h.elim
  | _ :: _, _, [], _, h, _ => h.elim
  | _ :: _, _, _ :: _, _, x, y => ⟨x.1, Cells.append x.2 y⟩
/-- a range over a function that goes over a list, in whatever order -/
theorem S.rangeAny {P : Program} {fn : Func} {n : Nat} {R : Ending → World → Prop} {k : List Item} {σ : List (Nat × Value)} {D : List Deferred} {g : Gr} {η ζ θ θ' : List SProp} {f : FuncId} {x : Operand} {first cap : Array Value} {ps : Array Tmp} {psl : List Nat} {assign body : Code}
    {β χ τ : Type} {vs : β → χ → List Value} {own : β → χ → List SProp} (Ok Fin : List β → Prop) (W : List β → τ → List SProp) (x0 : τ) (hx : ev σ x = some (.func (.func f) first cap)) (hc : callable P f = true) (hps : ps = psl.toArray) (hln : ∀ y e, (vs y e).length = psl.length) (hb : psl.all (fun p => Nat.blt p n) = true)
    (it : ∀ (l : Nat) (J : List β → SProp), (∀ done y e, Ok (done ++ [y]) → YCon P l (vs y e).toArray g.h (own y e ++ [J done]) (Ret fun u η => u = .bool true ∧ η = [J (done ++ [y])])) →
      Con P f (first ++ #[yieldV l] ++ cap) g.h (θ ++ [J []]) (Ret fun _ η => ∃ ys, Fin ys ∧ η = θ' ++ [J ys]))
    (hs : Sels η (θ ++ W [] x0) ζ)
    (round : ∀ (l D0 fid : Nat) (tm : Array Value) (done : List β) (y : β) (e : χ) (t : τ) (_ : Ok (done ++ [y])) (g' : Gr), g.h.sub g'.h → ∀ R : Ending → World → Prop,
      (∀ t' w, Holds w g' (blk l (.loop (loopRec fid tm ps assign body D0)) :: W (done ++ [y]) t') → R (.returned (.bool true)) w) →
      S (some l) P fn n R [.code assign, .beginRound, .code body] (under psl (vs y e) σ) [] g' (blk l (.loop (loopRec fid tm ps assign body D0)) :: (W done t ++ own y e)))
    (h : ∀ D0 t ys, Fin ys → S none P fn n R k σ (⟨.collected D0, #[]⟩ :: D) g (blk D0 (.deferred (some [])) :: (W ys t ++ (θ' ++ ζ)))) :
    S none P fn n R (.code (.rangeFunc x ps assign body) :: k) σ D g η := by
  refine S.rangeFunc (J := fun j ζ' => j = none ∧ ∃ ys t, Fin ys ∧ ζ' = W ys t ++ (θ' ++ ζ)) hx hc (fun l D0 fid tm hfn hfit => ?_) (fun D0 jump ζ' hJ => ?_)
  · let L := loopRec fid tm ps assign body D0
    have hy : ∀ done y e, Ok (done ++ [y]) → YCon P l (vs y e).toArray g.h (own y e ++ [fun m => ∃ t, Sat (blk l (.loop L) :: W done t) m]) (Ret fun u η => u = .bool true ∧ η = [fun m => ∃ t, Sat (blk l (.loop L) :: W (done ++ [y]) t) m]) := by
      intro done y e hpre
      refine YCon.perm (List.perm_append_comm) (YCon.exi (A := fun t m => Sat (blk l (.loop L) :: W done t) m) fun t => ?_)
      refine YCon.imp (ζ := blk l (.loop L) :: (W done t ++ own y e)) (fun _ z => Sat.unpack (fun _ u => u) z) ?_
      refine YCon.of (fn := fn) (n := n) (σ := σ) (vs y e) psl rfl hps (hln y e) hb hfn hfit (fun g' hg' R hR => ?_)
      exact round l D0 fid tm done y e t hpre g' hg' R fun t' w hw => hR _ _ w ⟨rfl, rfl⟩ (Holds.pack (ζ := []) (ws := blk l (.loop L) :: W (done ++ [y]) t') (A := fun m => ∃ t, Sat (blk l (.loop L) :: W (done ++ [y]) t) m) (fun _ z => ⟨t', z⟩) (by simpa using hw))
    have hi := (it l _ hy).frame (ζ := ζ)
    intro g' hg' w hw
    have hw1 : Holds w g' ((θ ++ [fun m => ∃ t, Sat (blk l (.loop L) :: W [] t) m]) ++ ζ) := by
      have hp : (blk l (.loop L) :: η).Perm ((blk l (.loop L) :: W [] x0) ++ (θ ++ ζ)) := by
        refine (List.Perm.cons _ hs.perm).trans ?_
        rw [List.cons_append, List.append_assoc]
        refine List.Perm.cons _ ?_
        rw [← List.append_assoc, ← List.append_assoc]
        exact List.Perm.append_right _ List.perm_append_comm
      have h1 := Holds.pack (A := fun m => ∃ t, Sat (blk l (.loop L) :: W [] t) m) (fun _ z => ⟨x0, z⟩) (hw.perm hp)
      refine h1.perm ?_
      rw [← List.cons_append, List.append_assoc]
      exact (List.perm_append_comm (l₁ := [_]) (l₂ := θ)).append_right ζ |>.trans (by rw [List.append_assoc])
    refine (hi g' hg' w hw1).mono fun e w' hh => ?_
    obtain ⟨η', ⟨η₁, hp, rfl⟩, hw'⟩ := hh
    cases e with
    | panicked _ => exact hp.elim
    | outgrown => exact hp.elim
    | returned v =>
      obtain ⟨ys, hfin, rfl⟩ : ∃ ys, Fin ys ∧ η₁ = _ := hp
      have h2 : Holds w' g' ((fun m => ∃ t, Sat (blk l (.loop L) :: W ys t) m) :: (θ' ++ ζ)) := hw'.perm (by
        rw [← List.cons_append]
        exact (List.perm_append_comm (l₁ := θ') (l₂ := [_])).append_right ζ)
      obtain ⟨t, h3⟩ := Holds.exi (A := fun t m => Sat (blk l (.loop L) :: W ys t) m) h2
      exact ⟨_, ⟨L, W ys t ++ (θ' ++ ζ), by simp [L, loopRec], ⟨rfl, ys, t, hfin, rfl⟩, rfl⟩, h3.imp fun _ z => Sat.unpack (fun _ u => u) z⟩
  · obtain ⟨rfl, ys, t, hfin, rfl⟩ := hJ
    exact h D0 t ys hfin
section
variable {ops : Array Oper} {l : List Nat} {i d : Nat} {T : TypeId} {x : Operand} {v : Value} {cs : List Value}
theorem OD.boxP (ho : Fires ops i n σ d (.box T x)) (hd : descOk ops [i] l = true) (hx : ev σ x = some v) (hc : v.cells.toList = cs) (h : ∀ b, OD P fn n R ops k D g l ((d, .pointer (some ⟨b, 0, none⟩)) :: σ) (obj b T cs :: η)) : OD P fn n R ops k D g (i :: l) σ η :=
  OD.loudE (K := fun v' η' => ∃ b, v' = .pointer (some ⟨b, 0, none⟩) ∧ η' = obj b T cs :: η) ho rfl hd (fun _ => (DoesE.box hx hc).imp fun _ _ ⟨b, h1, h2⟩ => ⟨_, ⟨b, h1, rfl⟩, h2⟩) fun _ _ ⟨b, h1, h2⟩ => by subst h1; subst h2; exact h b
theorem ODt.boxP (ho : Fires ops i n σ d (.box T x)) (_ : true = true) (hx : ev σ x = some v) (hc : v.cells.toList = cs) (h : ∀ b, OD P fn n R ops k D g l ((d, .pointer (some ⟨b, 0, none⟩)) :: σ) (obj b T cs :: η)) : ODx P fn n R ops k D g true (i :: l) σ η :=
  ODt.loudE (K := fun v' η' => ∃ b, v' = .pointer (some ⟨b, 0, none⟩) ∧ η' = obj b T cs :: η) ho rfl rfl (fun _ => (DoesE.box hx hc).imp fun _ _ ⟨b, h1, h2⟩ => ⟨_, ⟨b, h1, rfl⟩, h2⟩) fun _ _ ⟨b, h1, h2⟩ => by subst h1; subst h2; exact h b
end
end Go.Sp
