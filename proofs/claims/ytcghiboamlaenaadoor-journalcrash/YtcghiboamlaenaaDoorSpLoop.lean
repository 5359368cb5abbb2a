import Derived.Test.YtcghiboamlaenaaDoorSpMapT
/- A loop's next round, laid open. -/
namespace Go.Sp
variable {ro : Option Nat} {P : Program} {fn : Func} {n : Nat} {R : Ending → World → Prop} {k : List Item} {σ : List (Nat × Value)} {D : List Deferred} {g : Gr} {η : List SProp}
/-- once more around -/
theorem S.reloop {c : Code} (h : S ro P fn n R (.code c :: .inLoop c :: k) σ D g η) : S ro P fn n R (.inLoop c :: k) σ D g η :=
  fun a w hf hd hw => .step (fun _ _ => stepR_inLoop) (h a w hf hd hw)
/-- words that are lent to a call, which has others for itself -/
theorem Con.lentW {f : FuncId} {args : Array Value} {h : Fr} {bs : List SProp} {K : Value → List SProp → Prop} (con : ∀ m : Fr, Sat bs m → h.disj m → Con P f args (h.add m) η (Ret K)) :
    Con P f args h (η ++ bs) (Ret fun v η' => ∃ η₁, K v η₁ ∧ η' = η₁ ++ bs) := fun g hg w hw => by
  obtain ⟨m, hm, hd, hw'⟩ := Holds.freezeAll (η := η) (ζ := bs) hw
  have hd' : h.disj m := Fr.disj_sub hd hg (Fr.sub_refl _)
  refine (con m hm hd' (g.add m) (Fr.add_sub (Fr.sub_trans hg (Fr.sub_add_left _ _)) (Fr.sub_add_right hd)) w hw').mono fun e w' ⟨η', x, y⟩ => ⟨η' ++ bs, ?_, y.thawAll hm hd⟩
  cases e with
  | returned v => exact ⟨η', x, rfl⟩
  | panicked _ => exact x.elim
  | outgrown => exact x.elim
theorem Sat.at1 {h m : Fr} {b : Nat} {T : TypeId} {cs : List Value} (hm : Sat [obj b T cs] m) (hd : h.disj m) : At (h.add m) ⟨b, 0, none⟩ cs :=
  At.mono (Fr.sub_add_right hd) (let ⟨_, _, _, s, _, x, _⟩ := hm; (obj_at x).mono s)
theorem Sat.list1 {α : Type} {G : Gp α} {e : TypeId} {v : Value} {xs : List α} {m : Fr} (hm : Sat [ListP G e v xs] m) : Arr G.rp m v xs :=
  let ⟨_, _, _, s, _, x, _⟩ := hm; (ListP.arr x).mono s
theorem Sat.listH {α : Type} {G : Gp α} {e : TypeId} {v : Value} {xs : List α} {ζ : List SProp} {m : Fr} (hm : Sat (ListP G e v xs :: ζ) m) : Arr G.rp m v xs :=
  let ⟨_, _, _, s, _, x, _⟩ := hm; (ListP.arr x).mono s
/-- cells of what reads so -/
theorem Arr.toCells {α : Type} {T : Rp α} {k : Nat} {h : Fr} {v : Value} {xs : List α} (hk : k = T.k) (x : Arr T h v xs) : ∃ css, Arr (Rp.cells k) h v css ∧ Cells T h css xs := by
  obtain ⟨css, a, b⟩ := x
  subst hk
  refine ⟨css, ⟨css, ?_, by rw [a.len2]; exact b⟩, a⟩
  clear b
  induction css generalizing xs with
  | nil => trivial
  | cons c css ih =>
    cases xs with
    | nil => exact a.elim
    | cons x xs => exact ⟨⟨rfl, T.len a.1, T.one a.1⟩, ih a.2⟩
theorem Cells.append {α : Type} {T : Rp α} {h : Fr} : ∀ {css dss : List (List Value)} {xs ys : List α}, Cells T h css xs → Cells T h dss ys → Cells T h (css ++ dss) (xs ++ ys)
  | [], _, [], _, _, y => y
  | [], _, _ :: _, _, h, _ => h.elim
  | _ :: _, _, [], _, h, _ => h.elim
  | _ :: _, _, _ :: _, _, x, y => ⟨x.1, Cells.append x.2 y⟩
end Go.Sp
