/- Texts of this proof, one behind the other. -/
import Derived.Test.YtkkcpckgnfcncaaGreatDoorSpMapT
import Derived.Shelf.SortM.Plain
import Derived.Shelf.SortM.SortNone
section
/- A loop's next round, laid open. -/
namespace Go.Sp
variable {ro : Option Nat} {P : Program} {fn : Func} {n : Nat} {R : Ending → World → Prop} {k : List Item} {σ : List (Nat × Value)} {D : List Deferred} {g : Gr} {η : List SProp}
/-- once more around -/
theorem S.reloop {c : Code} (h : S ro P fn n R (.code c :: .inLoop c :: k) σ D g η) : S ro P fn n R (.inLoop c :: k) σ D g η :=
  fun a w hf hd hw => .step (fun _ _ => stepR_inLoop) (h a w hf hd hw)
/-- words that are lent to a call, which has others for itself -/
theorem Con.lentW {f : FuncId} {args : Array Value} {h : Fr} {bs : List SProp} {K : Value → List SProp → Prop} (con : ∀ m : Fr, Sat bs m → h.disj m → Con P f args (h.add m) η (Ret K)) :
    Con P f args h (η ++ bs) (Ret fun v η' => ∃ η₁, K v η₁ ∧ η' = η₁ ++ bs) := fun g hg w hw => by
  obtain ⟨m, hm, hd, hw'⟩ := Holds.freezeAll (η := η) (ζ := bs) hw
  have hd' : h.disj m := Fr.disj_sub hd hg (Fr.sub_refl _)
  refine (con m hm hd' (g.add m) (Fr.add_sub (Fr.sub_trans hg (Fr.sub_add_left _ _)) (Fr.sub_add_right hd)) w hw').mono fun e w' ⟨η', x, y⟩ => ⟨η' ++ bs, ?_, y.thawAll hm hd⟩
  cases e with
  | returned v => exact ⟨η', x, rfl⟩
  | panicked _ => exact x.elim
  | outgrown => exact x.elim
theorem Sat.at1 {h m : Fr} {b : Nat} {T : TypeId} {cs : List Value} (hm : Sat [obj b T cs] m) (hd : h.disj m) : At (h.add m) ⟨b, 0, none⟩ cs :=
  At.mono (Fr.sub_add_right hd) (let ⟨_, _, _, s, _, x, _⟩ := hm; (obj_at x).mono s)
theorem Sat.list1 {α : Type} {G : Gp α} {e : TypeId} {v : Value} {xs : List α} {m : Fr} (hm : Sat [ListP G e v xs] m) : Arr G.rp m v xs :=
  let ⟨_, _, _, s, _, x, _⟩ := hm; (ListP.arr x).mono s
theorem Sat.listH {α : Type} {G : Gp α} {e : TypeId} {v : Value} {xs : List α} {ζ : List SProp} {m : Fr} (hm : Sat (ListP G e v xs :: ζ) m) : Arr G.rp m v xs :=
  let ⟨_, _, _, s, _, x, _⟩ := hm; (ListP.arr x).mono s
/-- cells of what reads so -/
theorem Arr.toCells {α : Type} {T : Rp α} {k : Nat} {h : Fr} {v : Value} {xs : List α} (hk : k = T.k) (x : Arr T h v xs) : ∃ css, Arr (Rp.cells k) h v css ∧ Cells T h css xs := by
  obtain ⟨css, a, b⟩ := x
  subst hk
  refine ⟨css, ⟨css, ?_, by rw [a.len2]; exact b⟩, a⟩
  clear b
  induction css generalizing xs with
  | nil => trivial
  | cons c css ih =>
    cases xs with
    | nil => exact a.elim
    | cons x xs => exact ⟨⟨rfl, T.len a.1, T.one a.1⟩, ih a.2⟩
theorem Cells.append {α : Type} {T : Rp α} {h : Fr} : ∀ {css dss : List (List Value)} {xs ys : List α}, Cells T h css xs → Cells T h dss ys → Cells T h (css ++ dss) (xs ++ ys)
  | [], _, [], _, _, y => y
  | [], _, _ :: _, _, h, _ => h.elim
  | _ :: _, _, [], _, h, _ => h.elim
  | _ :: _, _, _ :: _, _, x, y => ⟨x.1, Cells.append x.2 y⟩
/-- a range over a function that goes over a list, in whatever order -/
theorem S.rangeAny {P : Program} {fn : Func} {n : Nat} {R : Ending → World → Prop} {k : List Item} {σ : List (Nat × Value)} {D : List Deferred} {g : Gr} {η ζ θ θ' : List SProp} {f : FuncId} {x : Operand} {first cap : Array Value} {ps : Array Tmp} {psl : List Nat} {assign body : Code}
    {β χ τ : Type} {vs : β → χ → List Value} {own : β → χ → List SProp} (Ok Fin : List β → Prop) (W : List β → τ → List SProp) (x0 : τ) (hx : ev σ x = some (.func (.func f) first cap)) (hc : callable P f = true) (hps : ps = psl.toArray) (hln : ∀ y e, (vs y e).length = psl.length) (hb : psl.all (fun p => Nat.blt p n) = true)
    (it : ∀ (l : Nat) (J : List β → SProp), (∀ done y e, Ok (done ++ [y]) → YCon P l (vs y e).toArray g.h (own y e ++ [J done]) (Ret fun u η => u = .bool true ∧ η = [J (done ++ [y])])) →
      Con P f (first ++ #[yieldV l] ++ cap) g.h (θ ++ [J []]) (Ret fun _ η => ∃ ys, Fin ys ∧ η = θ' ++ [J ys]))
    (hs : Sels η (θ ++ W [] x0) ζ)
    (round : ∀ (l D0 fid : Nat) (tm : Array Value) (done : List β) (y : β) (e : χ) (t : τ) (_ : Ok (done ++ [y])) (g' : Gr), g.h.sub g'.h → ∀ R : Ending → World → Prop,
      (∀ t' w, Holds w g' (blk l (.loop (loopRec fid tm ps assign body D0)) :: W (done ++ [y]) t') → R (.returned (.bool true)) w) →
      S (some l) P fn n R [.code assign, .beginRound, .code body] (under psl (vs y e) σ) [] g' (blk l (.loop (loopRec fid tm ps assign body D0)) :: (W done t ++ own y e)))
    (h : ∀ D0 t ys, Fin ys → S none P fn n R k σ (⟨.collected D0, #[]⟩ :: D) g (blk D0 (.deferred (some [])) :: (W ys t ++ (θ' ++ ζ)))) :
    S none P fn n R (.code (.rangeFunc x ps assign body) :: k) σ D g η := by
  refine S.rangeFunc (J := fun j ζ' => j = none ∧ ∃ ys t, Fin ys ∧ ζ' = W ys t ++ (θ' ++ ζ)) hx hc (fun l D0 fid tm hfn hfit => ?_) (fun D0 jump ζ' hJ => ?_)
  · let L := loopRec fid tm ps assign body D0
    have hy : ∀ done y e, Ok (done ++ [y]) → YCon P l (vs y e).toArray g.h (own y e ++ [fun m => ∃ t, Sat (blk l (.loop L) :: W done t) m]) (Ret fun u η => u = .bool true ∧ η = [fun m => ∃ t, Sat (blk l (.loop L) :: W (done ++ [y]) t) m]) := by
      intro done y e hpre
      refine YCon.perm (List.perm_append_comm) (YCon.exi (A := fun t m => Sat (blk l (.loop L) :: W done t) m) fun t => ?_)
      refine YCon.imp (ζ := blk l (.loop L) :: (W done t ++ own y e)) (fun _ z => Sat.unpack (fun _ u => u) z) ?_
      refine YCon.of (fn := fn) (n := n) (σ := σ) (vs y e) psl rfl hps (hln y e) hb hfn hfit (fun g' hg' R hR => ?_)
      exact round l D0 fid tm done y e t hpre g' hg' R fun t' w hw => hR _ _ w ⟨rfl, rfl⟩ (Holds.pack (ζ := []) (ws := blk l (.loop L) :: W (done ++ [y]) t') (A := fun m => ∃ t, Sat (blk l (.loop L) :: W (done ++ [y]) t) m) (fun _ z => ⟨t', z⟩) (by simpa using hw))
    have hi := (it l _ hy).frame (ζ := ζ)
    intro g' hg' w hw
    have hw1 : Holds w g' ((θ ++ [fun m => ∃ t, Sat (blk l (.loop L) :: W [] t) m]) ++ ζ) := by
      have hp : (blk l (.loop L) :: η).Perm ((blk l (.loop L) :: W [] x0) ++ (θ ++ ζ)) := by
        refine (List.Perm.cons _ hs.perm).trans ?_
        rw [List.cons_append, List.append_assoc]
        refine List.Perm.cons _ ?_
        rw [← List.append_assoc, ← List.append_assoc]
        exact List.Perm.append_right _ List.perm_append_comm
      have h1 := Holds.pack (A := fun m => ∃ t, Sat (blk l (.loop L) :: W [] t) m) (fun _ z => ⟨x0, z⟩) (hw.perm hp)
      refine h1.perm ?_
      rw [← List.cons_append, List.append_assoc]
      exact (List.perm_append_comm (l₁ := [_]) (l₂ := θ)).append_right ζ |>.trans (by rw [List.append_assoc])
    refine (hi g' hg' w hw1).mono fun e w' hh => ?_
    obtain ⟨η', ⟨η₁, hp, rfl⟩, hw'⟩ := hh
    cases e with
    | panicked _ => exact hp.elim
    | outgrown => exact hp.elim
    | returned v =>
      obtain ⟨ys, hfin, rfl⟩ : ∃ ys, Fin ys ∧ η₁ = _ := hp
      have h2 : Holds w' g' ((fun m => ∃ t, Sat (blk l (.loop L) :: W ys t) m) :: (θ' ++ ζ)) := hw'.perm (by
        rw [← List.cons_append]
        exact (List.perm_append_comm (l₁ := θ') (l₂ := [_])).append_right ζ)
      obtain ⟨t, h3⟩ := Holds.exi (A := fun t m => Sat (blk l (.loop L) :: W ys t) m) h2
      exact ⟨_, ⟨L, W ys t ++ (θ' ++ ζ), by simp [L, loopRec], ⟨rfl, ys, t, hfin, rfl⟩, rfl⟩, h3.imp fun _ z => Sat.unpack (fun _ u => u) z⟩
  · obtain ⟨rfl, ys, t, hfin, rfl⟩ := hJ
    exact h D0 t ys hfin
section
variable {ops : Array Oper} {l : List Nat} {i d : Nat} {T : TypeId} {x : Operand} {v : Value} {cs : List Value}
theorem OD.boxP (ho : Fires ops i n σ d (.box T x)) (hd : descOk ops [i] l = true) (hx : ev σ x = some v) (hc : v.cells.toList = cs) (h : ∀ b, OD P fn n R ops k D g l ((d, .pointer (some ⟨b, 0, none⟩)) :: σ) (obj b T cs :: η)) : OD P fn n R ops k D g (i :: l) σ η :=
  OD.loudE (K := fun v' η' => ∃ b, v' = .pointer (some ⟨b, 0, none⟩) ∧ η' = obj b T cs :: η) ho rfl hd (fun _ => (DoesE.box hx hc).imp fun _ _ ⟨b, h1, h2⟩ => ⟨_, ⟨b, h1, rfl⟩, h2⟩) fun _ _ ⟨b, h1, h2⟩ => by subst h1; subst h2; exact h b
theorem ODt.boxP (ho : Fires ops i n σ d (.box T x)) (_ : true = true) (hx : ev σ x = some v) (hc : v.cells.toList = cs) (h : ∀ b, OD P fn n R ops k D g l ((d, .pointer (some ⟨b, 0, none⟩)) :: σ) (obj b T cs :: η)) : ODx P fn n R ops k D g true (i :: l) σ η :=
  ODt.loudE (K := fun v' η' => ∃ b, v' = .pointer (some ⟨b, 0, none⟩) ∧ η' = obj b T cs :: η) ho rfl rfl (fun _ => (DoesE.box hx hc).imp fun _ _ ⟨b, h1, h2⟩ => ⟨_, ⟨b, h1, rfl⟩, h2⟩) fun _ _ ⟨b, h1, h2⟩ => by subst h1; subst h2; exact h b
end
end Go.Sp
end
section
/- slices.Sort of texts, over the library's own contract. -/
namespace Go.Sp
open Go.Proofs
variable {P : Program} {g : Gr} {η ζ : List SProp}
/-- texts, rising -/
def sortT (l : List (List UInt8)) : List (List UInt8) := l.mergeSort fun x y => decide (x ≤ y)
theorem sortT_perm (l : List (List UInt8)) : (sortT l).Perm l := List.mergeSort_perm _ _
@[simp] theorem sortT_length (l : List (List UInt8)) : (sortT l).length = l.length := (sortT_perm l).length_eq
theorem Holds.grow {w : World} (h : Holds w g η) (os : Array Obj) : Holds (Sort.grow w os) g η := by
  obtain ⟨l⟩ := os
  induction l generalizing w with
  | nil => simpa using h
  | cons o l ih =>
    have h1 : Holds (w.alloc o) g η := (h.alloc o).imp fun _ x => Sat.tail x
    have h2 := ih h1
    have e : Sort.grow (w.alloc o) ⟨l⟩ = Sort.grow w ⟨o :: l⟩ := by rw [Sort.alloc_eq_grow, Sort.grow_grow]; congr 1; apply Array.ext'; simp
    rwa [e] at h2
theorem flat_str {css : List (List Value)} {l : List (List UInt8)} (h : All2 (Rp.str.rel Fr.emp) css l) : css.flatten = l.map encStr := by
  induction css generalizing l with
  | nil => cases l with
    | nil => rfl
    | cons _ _ => exact h.elim
  | cons c css ih => cases l with
    | nil => exact h.elim
    | cons x l => rw [List.flatten_cons, ih h.2, h.1.1]; rfl
theorem flat_ones (l : List (List UInt8)) : (l.map fun x => [encStr x]).flatten = l.map encStr := by induction l with
  | nil => rfl
  | cons x l ih => rw [List.map_cons, List.flatten_cons, ih]; rfl
theorem str_flat {l : List (List UInt8)} (h : ∀ x ∈ l, x.length ≤ 9223372036854775807) : All2 (Rp.str.rel Fr.emp) (l.map fun x => [encStr x]) l := by
  induction l with
  | nil => trivial
  | cons x l ih => exact ⟨⟨rfl, h x (by simp)⟩, ih fun y hy => h y (by simp [hy])⟩
theorem str_bounds {css : List (List Value)} {l : List (List UInt8)} (h : All2 (Rp.str.rel Fr.emp) css l) : ∀ x ∈ l, x.length ≤ 9223372036854775807 := by
  induction css generalizing l with
  | nil => cases l with
    | nil => simp
    | cons _ _ => exact h.elim
  | cons c css ih => cases l with
    | nil => exact h.elim
    | cons y l =>
      intro x hx
      rcases List.mem_cons.1 hx with rfl | hx
      · exact h.1.2
      · exact ih h.2 x hx
/-- slices.Sort of texts of one's own -/
theorem sort_con {f : FuncId} {e : TypeId} {r : Fr} {a : Option Addr} {c : Nat} {l : List (List UInt8)}
    (hk : ∀ (blk off cap : Nat) (ss : List (List UInt8)) (w : World), Sort.Holds encStr w blk off ss.toArray → blk < w.heap.size → ss.length < 4611686018427387904 →
      Calls P f #[.slice (some ⟨blk, off, none⟩) ss.length cap] w fun e w' => e = .returned (.tuple #[]) ∧ ∃ n os, w' = Sort.grow (Sort.putRow encStr (Sort.ahead w n) blk off (ss.mergeSort fun x y => decide (x ≤ y)).toArray) os)
    (hz : ∀ (p : Option Addr) (cap : Nat) (w : World), Calls P f #[.slice p 0 cap] w fun e w' => e = .returned (.tuple #[]) ∧ w' = w) (hl : l.length < 4611686018427387904) :
    Con P f #[.slice a l.length c] r [OwnP Rp.str e (.slice a l.length c) l] (Ret fun v η => v = .tuple #[] ∧ η = [OwnP Rp.str e (.slice a l.length c) (sortT l)]) := by
  intro g hg w hw
  by_cases h0 : l.length = 0
  · have : l = [] := List.length_eq_zero_iff.1 h0
    subst this
    exact (hz a c w).mono fun e' w' ⟨h1, h2⟩ => by subst h1 h2; exact ⟨_, ⟨rfl, rfl⟩, by simpa [sortT] using hw⟩
  · obtain ⟨b, cap, cur, css, hv, h1, h2, h3, h4, ha, fz, hfz, hb⟩ := hw.ownP_block (by omega)
    injection hv with e1 e2 e3
    subst e1 e3
    have hfl := flat_str ha
    have hbd := str_bounds ha
    have hk1 : Rp.str.k = 1 := rfl
    rw [hk1, Nat.mul_one] at h3 h4
    rw [hfl] at h4
    have hbl := hb.block
    have hget : ∀ j (hj : j < l.length), cur[j]? = some (encStr l[j]) := fun j hj => by
      have h5 : (cur.toList.take l.length)[j]? = (l.map encStr)[j]? := by rw [h4]
      rw [List.getElem?_take, if_pos hj, List.getElem?_map, List.getElem?_eq_getElem hj] at h5
      simpa using h5
    have hlt : b < w.heap.size := (Array.getElem?_eq_some_iff.1 hbl).1
    have hH : Sort.Holds encStr w b 0 l.toArray := fun j hj => by
      have hj' : j < l.length := by simpa using hj
      refine ⟨?_, ?_⟩
      · simp only [World.cell?, hbl, Nat.zero_add]
        rw [hget j hj', getElem!_pos _ j hj]; simp
      · have := hfz j (by rw [← h3, hk1]; omega)
        simp only [World.frozen?, hbl, Nat.zero_add]
        simpa using this
    refine (hk b 0 c l w hH hlt hl).mono fun e' w' ⟨he, n, os, hw'⟩ => ?_
    subst he hw'
    have hsl : (sortT l).length = l.length := sortT_length l
    refine ⟨_, ⟨rfl, rfl⟩, Holds.grow ?_ os⟩
    have hmod : (Sort.putRow encStr (Sort.ahead w n) b 0 (sortT l).toArray).heap[b]? = some (.cells (Sort.putCells encStr 0 (sortT l).toArray cur) e fz) := by
      simp [Sort.putRow, Sort.mapBlock, Sort.ahead, Array.getElem?_modify, hbl, Sort.onCells]
    have hh := hb.setBlock (w' := Sort.putRow encStr (Sort.ahead w n) b 0 (sortT l).toArray) hmod (fun i hi => by
      have : b ≠ i := fun q => hi q.symm
      simp [Sort.putRow, Sort.mapBlock, Sort.ahead, Array.getElem?_modify, this]) rfl rfl rfl
    refine hh.imp fun m x => Sat.cons_imp (fun m' y => ?_) (fun _ z => z) x
    refine ⟨(sortT l).map fun x => [encStr x], str_flat fun x hx => hbd x ((sortT_perm l).mem_iff.1 hx), ?_, .inr ⟨b, c, Sort.putCells encStr 0 (sortT l).toArray cur, by rw [hsl], ⟨fz, y, hfz⟩, by rw [hsl]; exact h1, h2, ?_, ?_⟩⟩
    · have : ((sortT l).map fun x => [encStr x]).flatten = (sortT l).map encStr := flat_ones _
      rw [this, hk1]; simp
    · rw [hk1]; simp [Sort.putCells, h3]
    · have : ((sortT l).map fun x => [encStr x]).flatten = (sortT l).map encStr := flat_ones _
      rw [this, hk1, Nat.mul_one]
      apply List.ext_getElem?
      intro j
      rw [List.getElem?_take, hsl]
      by_cases hj : j < l.length
      · have hjs : j < (sortT l).length := by omega
        have hjc : j < cur.size := by omega
        rw [if_pos hj]
        simp [Sort.putCells, hjc, hj]
      · rw [if_neg hj, List.getElem?_eq_none (by simp; omega)]
end Go.Sp
end
