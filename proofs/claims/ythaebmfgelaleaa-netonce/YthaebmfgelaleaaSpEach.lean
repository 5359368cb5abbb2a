import Derived.Test.YthaebmfgelaleaaSpTwo
namespace Go.Sp
theorem EachP.len {β α : Type} {A : β → α → SProp} : ∀ {bs : List β} {as : List α} {h : Fr}, EachP A bs as h → bs.length = as.length
  | [], [], _, _ => rfl
  | [], _ :: _, _, h => h.elim
  | _ :: _, [], _, h => h.elim
  | _ :: _, _ :: _, _, h => by
    have h' : Sat [_, EachP _ _ _] _ := h
    obtain ⟨_, _, _, _, _, _, _, _, _, _, _, q, _⟩ := h'
    simp [EachP.len q]
/-- one of them -/
theorem EachP.at {β α : Type} {A : β → α → SProp} : ∀ {bs : List β} {as : List α} (k : Nat) (hb : k < bs.length) (ha : k < as.length) {h : Fr}, EachP A bs as h → Sat [A bs[k] as[k], EachP A (bs.eraseIdx k) (as.eraseIdx k)] h
  | _ :: _, _ :: _, 0, _, _, _, h => h
  | b :: bs, a :: as, k + 1, hb, ha, m, h => by
    have h' : Sat [A b a, EachP A bs as] m := h
    obtain ⟨k1, k2, kd, t1, t2, p, k3, k4, kd', u1, u2, q, _⟩ := h'
    obtain ⟨n1, n2, nd, v1, v2, x, n3, n4, nd', w1, w2, y, _⟩ := EachP.at k (by simpa using hb) (by simpa using ha) q
    refine ⟨n1, k1.add n2, ?_, Fr.sub_trans v1 (Fr.sub_trans u1 t2), Fr.add_sub t1 (Fr.sub_trans v2 (Fr.sub_trans u1 t2)), x, k1.add n2, Fr.emp, Fr.disj_symm (Fr.emp_disj _), Fr.sub_refl _, Fr.emp_sub _, ?_, trivial⟩
    · exact Fr.disj_add_right (Fr.disj_symm (Fr.disj_sub kd (Fr.sub_refl _) (Fr.sub_trans v1 u1))) nd
    · show Sat [A b a, EachP A (bs.eraseIdx k) (as.eraseIdx k)] _
      have d : k1.disj n2 := Fr.disj_sub kd (Fr.sub_refl _) (Fr.sub_trans v2 u1)
      exact ⟨k1, n2, d, Fr.sub_add_left _ _, Fr.sub_add_right d, p, n3, Fr.emp, Fr.disj_symm (Fr.emp_disj _), w1, Fr.emp_sub _, y, trivial⟩
theorem EachP.put {β α : Type} {A : β → α → SProp} {a' : α} : ∀ {bs : List β} {as : List α} (k : Nat) (hb : k < bs.length) (_ : k < as.length) {h : Fr}, Sat [A bs[k] a', EachP A (bs.eraseIdx k) (as.eraseIdx k)] h → EachP A bs (as.set k a') h
  | _ :: _, _ :: _, 0, _, _, _, h => h
  | b :: bs, a :: as, k + 1, hb, ha, m, h => by
    obtain ⟨n1, n2, nd, v1, v2, x, n3, n4, nd', w1, w2, y, _⟩ := h
    have y' : Sat [A b a, EachP A (bs.eraseIdx k) (as.eraseIdx k)] n3 := y
    obtain ⟨k1, k2, kd, t1, t2, p, k3, k4, kd', u1, u2, q, _⟩ := y'
    show Sat [A b a, EachP A bs (as.set k a')] m
    have d1 : k1.disj n1 := Fr.disj_symm (Fr.disj_sub nd (Fr.sub_refl _) (Fr.sub_trans t1 w1))
    have d2 : n1.disj k3 := Fr.disj_sub nd (Fr.sub_refl _) (Fr.sub_trans u1 (Fr.sub_trans t2 w1))
    refine ⟨k1, n1.add k3, Fr.disj_add_right d1 (Fr.disj_sub kd (Fr.sub_refl _) u1), Fr.sub_trans t1 (Fr.sub_trans w1 v2), Fr.add_sub v1 (Fr.sub_trans u1 (Fr.sub_trans t2 (Fr.sub_trans w1 v2))), p, n1.add k3, Fr.emp, Fr.disj_symm (Fr.emp_disj _), Fr.sub_refl _, Fr.emp_sub _, ?_, trivial⟩
    exact EachP.put k (by simpa using hb) (by simpa using ha) ⟨n1, k3, d2, Fr.sub_add_left _ _, Fr.sub_add_right d2, x, k3, Fr.emp, Fr.disj_symm (Fr.emp_disj _), Fr.sub_refl _, Fr.emp_sub _, q, trivial⟩
theorem Sat.two_append {A B : SProp} {θ : List SProp} {m h1 h2 : Fr} (x : Sat [A, B] h1) (y : Sat θ h2) (d : h1.disj h2) (s1 : h1.sub m) (s2 : h2.sub m) : Sat (A :: B :: θ) m :=
  Sat.mono (Fr.add_sub s1 s2) (Sat.append (η := [A, B]) (ζ := θ) d x y)
theorem Sat.join2 {A B C : SProp} {θ : List SProp} (hs : ∀ m, Sat [A, B] m → C m) : ∀ {m : Fr}, Sat (A :: B :: θ) m → Sat (C :: θ) m := by
  rintro m ⟨h1, h2, d, s1, s2, x, k1, k2, kd, t1, t2, y, z⟩
  refine ⟨h1.add k1, k2, Fr.disj_add (Fr.disj_sub d (Fr.sub_refl _) t2) kd, Fr.add_sub s1 (Fr.sub_trans t1 s2), Fr.sub_trans t2 s2, hs _ ?_, z⟩
  have d2 : h1.disj k1 := Fr.disj_sub d (Fr.sub_refl _) t1
  exact ⟨h1, k1, d2, Fr.sub_add_left _ _, Fr.sub_add_right d2, x, k1, Fr.emp, Fr.disj_symm (Fr.emp_disj _), Fr.sub_refl _, Fr.emp_sub _, y, trivial⟩
theorem Sat.part2 {A B C : SProp} {θ : List SProp} (hs : ∀ m, C m → Sat [A, B] m) : ∀ {m : Fr}, Sat (C :: θ) m → Sat (A :: B :: θ) m := by
  rintro m ⟨h1, h2, d, s1, s2, x, y⟩
  exact Sat.two_append (hs _ x) y d s1 s2
section
variable {ro : Option Nat} {P : Program} {fn : Func} {n : Nat} {R : Ending → World → Prop} {k : List Item} {σ : List (Nat × Value)} {D : List Deferred} {g : Gr} {η ζ θ : List SProp} {ops : Array Oper} {L : List Nat} {β α : Type} {A : β → α → SProp} {todo : List Item}
theorem S.eachAt {bs : List β} {as : List α} (j : Nat) (hb : j < bs.length) (ha : j < as.length) (s : Sel η (EachP A bs as) ζ) (h : S ro P fn n R todo σ D g (A bs[j] as[j] :: EachP A (bs.eraseIdx j) (as.eraseIdx j) :: ζ)) : S ro P fn n R todo σ D g η :=
  S.sel s (S.imp' (η := EachP A bs as :: ζ) (fun _ => Sat.part2 fun _ x => EachP.at j hb ha x) h)
theorem S.eachPut {bs : List β} {as : List α} {a' : α} (j : Nat) (hb : j < bs.length) (ha : j < as.length) (s1 : Sel η (A bs[j] a') ζ) (s2 : Sel ζ (EachP A (bs.eraseIdx j) (as.eraseIdx j)) θ) (h : S ro P fn n R todo σ D g (EachP A bs (as.set j a') :: θ)) : S ro P fn n R todo σ D g η :=
  S.sel s1 (S.imp' (η := A bs[j] a' :: ζ) (fun _ x => Sat.join2 (fun _ y => EachP.put j hb ha y) (Sat.cons_imp (fun _ y => y) (fun _ y => Sat.perm s2.perm y) x)) h)
theorem S.eachPop {b : β} {a : α} {bs : List β} {as : List α} (s : Sel η (EachP A (b :: bs) (a :: as)) ζ) (h : S ro P fn n R todo σ D g (A b a :: EachP A bs as :: ζ)) : S ro P fn n R todo σ D g η :=
  S.sel s (S.imp' (η := EachP A (b :: bs) (a :: as) :: ζ) (fun _ => Sat.part2 fun _ x => x) h)
theorem S.conv {B C : SProp} (s : Sel η B ζ) (hc : ∀ m, B m → ∃ h : Fr, h.sub m ∧ C h) (h : S ro P fn n R todo σ D g (C :: ζ)) : S ro P fn n R todo σ D g η :=
  S.sel s (S.imp' (η := B :: ζ) (ζ := C :: ζ) (fun _ ⟨_, h2, d, s1, s2, x, y⟩ => let ⟨h3, u, z⟩ := hc _ x; ⟨h3, h2, Fr.disj_sub d u (Fr.sub_refl _), Fr.sub_trans u s1, s2, z, y⟩) h)
theorem O.conv {B C : SProp} (s : Sel η B ζ) (hc : ∀ m, B m → ∃ h : Fr, h.sub m ∧ C h) (h : O ro P fn n R ops L k σ D g (C :: ζ)) : O ro P fn n R ops L k σ D g η :=
  O.sel s (O.imp (η := B :: ζ) (η' := C :: ζ) (fun _ ⟨_, h2, d, s1, s2, x, y⟩ => let ⟨h3, u, z⟩ := hc _ x; ⟨h3, h2, Fr.disj_sub d u (Fr.sub_refl _), Fr.sub_trans u s1, s2, z, y⟩) h)
theorem S.twoStart {T : Rp α} {e : TypeId} {v : Value} {xs : List α} (s : Sel η (OwnP T e v xs) ζ) (h : S ro P fn n R todo σ D g (Two T e v xs v [] :: ζ)) : S ro P fn n R todo σ D g η := S.conv s (fun m x => ⟨m, Fr.sub_refl _, Two.start x⟩) h
theorem O.twoStart {T : Rp α} {e : TypeId} {v : Value} {xs : List α} (s : Sel η (OwnP T e v xs) ζ) (h : O ro P fn n R ops L k σ D g (Two T e v xs v [] :: ζ)) : O ro P fn n R ops L k σ D g η := O.conv s (fun m x => ⟨m, Fr.sub_refl _, Two.start x⟩) h
theorem S.twoOwn {T : Rp α} {e : TypeId} {v u : Value} {xs ys : List α} (s : Sel η (Two T e v xs u ys) ζ) (h : S ro P fn n R todo σ D g (OwnP T e v xs :: ζ)) : S ro P fn n R todo σ D g η := S.conv s (fun _ x => x.own) h
theorem O.twoOwn {T : Rp α} {e : TypeId} {v u : Value} {xs ys : List α} (s : Sel η (Two T e v xs u ys) ζ) (h : O ro P fn n R ops L k σ D g (OwnP T e v xs :: ζ)) : O ro P fn n R ops L k σ D g η := O.conv s (fun _ x => x.own) h
/-- what holds of a word, without the word -/
theorem S.factS {B : SProp} {p : Prop} (s : Sel η B ζ) (hs : ∀ m, B m → p) (h : p → S ro P fn n R todo σ D g η) : S ro P fn n R todo σ D g η :=
  fun a w hf hd hw => by
    obtain ⟨_, _, _, _, _, _, _, _, _, _, _, _, hB, _⟩ := hw.sel s
    exact h (hs _ hB) a w hf hd hw
theorem O.factS {B : SProp} {p : Prop} (s : Sel η B ζ) (hs : ∀ m, B m → p) (h : p → O ro P fn n R ops L k σ D g η) : O ro P fn n R ops L k σ D g η :=
  fun a w hf hd hw => by
    obtain ⟨_, _, _, _, _, _, _, _, _, _, _, _, hB, _⟩ := hw.sel s
    exact h (hs _ hB) a w hf hd hw
/-- ground for a while: it comes back by S.thaw -/
theorem S.freezeS {B : SProp} (s : Sel η B ζ) (h : ∀ m : Fr, B m → g.h.disj m → S ro P fn n R todo σ D (g.add m) ζ) : S ro P fn n R todo σ D g η := S.sel s (S.freeze h)
end
end Go.Sp
