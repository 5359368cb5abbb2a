/- Texts of this proof, one behind the other. -/
import Derived.Test.YtcghiboamlaenaaDoorKit2
import Derived.Test.YtcghiboamlaenaaDoorCopyb
section
/- Texts of this proof, one behind the other. -/
section
/- Texts of this proof, one behind the other. -/
section
open Go Go.Sp
set_option maxRecDepth 100000
attribute [local irreducible] obj Own OwnP
namespace Go.Proofs.YtcghiboamlaenaaDoor

theorem Sat.w1 {A : SProp} {B : Fr → Prop} {m : Fr} (hs : ∀ {h k : Fr}, h.sub k → B h → B k) (hA : ∀ h, A h → B h) : Sat [A] m → B m := fun ⟨_, _, _, s, _, x, _⟩ => hs s (hA _ x)
/-- the second one is lent, and let go -/
theorem SameBytes_w {r : Fr} {va vb : Value} {xs ys : List UInt8} (ha : Arr Rp.u8 r va xs) :
    Con Go.Proofs.Tryd.prog 22 #[va, vb] r [fun m => Arr Rp.u8 m vb ys] (Ret fun v η => v = .bool (decide (xs = ys)) ∧ η = []) :=
  Con.lentD (η := []) (bs := [_]) fun _ hm hd => SameBytes_c ha.left ((Sat.w1 Arr.mono (fun _ x => x) hm).right hd)

theorem lent_at {h : Fr} {vs us : List Value} {xss : List (List UInt8)} (hv : All2 (LentA h) vs xss) (i : Nat) (hi : i < xss.length) (hi2 : i < (vs ++ us).length) : LentA h (vs ++ us)[i] xss[i] := by
  have hl := hv.length
  rw [List.getElem_append_left (by omega)]
  exact hv.get i (by omega) hi
theorem mark_at {h : Fr} {vs us : List Value} {n : Nat} (hv : vs.length = n) (hu : All2 (Arr Rp.u8 h) us (rowMarks 12)) (i : Nat) (hi : n ≤ i) (hi2 : i < (vs ++ us).length) : Arr Rp.u8 h (vs ++ us)[i] (markT 1 ((i : Int) - (n : Int))) := by
  have hl := hu.length
  rw [List.getElem_append_right (by omega)]
  have := hu.get (i - vs.length) (by simp at hi2; omega) (by simp at hi2 hl ⊢; omega)
  simpa [rowMarks, hv, Int.natCast_sub hi] using this
end Go.Proofs.YtcghiboamlaenaaDoor
end
section
open Go Go.Sp
set_option maxRecDepth 100000
attribute [local irreducible] obj Own OwnP
namespace Go.Proofs.YtcghiboamlaenaaDoor

end Go.Proofs.YtcghiboamlaenaaDoor
end
end
section
open Go Go.Sp
set_option maxRecDepth 100000
attribute [local irreducible] obj Own OwnP
namespace Go.Proofs.YtcghiboamlaenaaDoor

/-- a list's marks -/
def markL (k n : Nat) : List UInt8 := (List.range n).map fun (i : Nat) => markB (k : Int) (i : Int)
@[simp] theorem markL_length (k n : Nat) : (markL k n).length = n := by simp [markL]
theorem markL_succ (k n : Nat) : markL k n ++ [markB (k : Int) (n : Int)] = markL k (n + 1) := by simp [markL, List.range_succ]
theorem markL_get (k n i : Nat) (h : i < (markL k n).length) : (markL k n)[i] = markB (k : Int) (i : Int) := by simp [markL]
theorem markL_set (k : Nat) (zs : List UInt8) (i : Nat) (h : i < zs.length) : (markL k i ++ zs.drop i).set i (markB (k : Int) (i : Int)) = markL k (i + 1) ++ zs.drop (i + 1) := by
  rw [List.set_append_right _ _ (by simp), markL_length, Nat.sub_self, List.drop_eq_getElem_cons h, List.set_cons_zero, ← markL_succ]; simp
/-- marks from n on -/
def markX (k n i : Nat) : List UInt8 := (List.range i).map fun (q : Nat) => markB (k : Int) ((n : Int) + (q : Int))
@[simp] theorem markX_length (k n i : Nat) : (markX k n i).length = i := by simp [markX]
theorem markX_succ (k n i : Nat) : markX k n i ++ [markB (k : Int) ((n : Int) + (i : Int))] = markX k n (i + 1) := by simp [markX, List.range_succ]
theorem markLX (k n i : Nat) : markL k n ++ markX k n i = markL k (n + i) := by
  induction i with
  | zero => simp [markX]
  | succ i ih => rw [← markX_succ, ← List.append_assoc, ih, ← Nat.add_assoc, ← markL_succ]; simp
/-- the first k lists bear their marks -/
def Marked (xss : List (List UInt8)) (k : Nat) (ws : List (List UInt8)) : Prop := ws.map List.length = xss.map List.length ∧ ∀ (j : Nat) (h : j < ws.length), j < k → ws[j] = markL j ws[j].length
theorem Marked.len {xss ws : List (List UInt8)} {k : Nat} (h : Marked xss k ws) : ws.length = xss.length := by simpa using congrArg List.length h.1
theorem Marked.bd {xss ws : List (List UInt8)} {k b : Nat} (h : Marked xss k ws) (hb : ∀ x ∈ xss, x.length ≤ b) (j : Nat) (hj : j < ws.length) : ws[j].length ≤ b := by
  have h1 : (ws.map List.length)[j]'(by simpa using hj) = (xss.map List.length)[j]'(by simpa [← h.len] using hj) := getElem_congr_coll h.1
  simp only [List.getElem_map] at h1
  rw [h1]; exact hb _ (List.getElem_mem _)
theorem Marked.set {xss ws : List (List UInt8)} {k : Nat} (h : Marked xss k ws) (hk : k < ws.length) : Marked xss (k + 1) (ws.set k (markL k ws[k].length)) := by
  refine ⟨?_, fun j hj hjk => ?_⟩
  · rw [← h.1]
    refine List.ext_getElem (by simp) fun i h1 h2 => ?_
    simp only [List.getElem_map, List.getElem_set]
    split
    · rename_i e; subst e; simp
    · rfl
  · rw [List.getElem_set]
    split
    · rename_i e; subst e; simp
    · exact h.2 j (by simpa using hj) (by omega)
/-- a list, and what it was grown to -/
def TwoE (e : TypeId) (p : Value × Value) (x : List UInt8 × List UInt8) : SProp := Two Rp.u8 e p.1 x.1 p.2 x.2
def pairsX (ws : List (List UInt8)) (k : Nat) : List (List UInt8 × List UInt8) := (List.range k).map fun j => (ws[j]?.getD [], markX j (ws[j]?.getD []).length 64)
theorem pairsX_succ (ws : List (List UInt8)) (k : Nat) (h : k < ws.length) : pairsX ws k ++ [(ws[k], markX k ws[k].length 64)] = pairsX ws (k + 1) := by simp [pairsX, List.range_succ, h]
def markM (j n i : Nat) : List UInt8 := (List.range i).map fun (q : Nat) => markB ((j : Int) + (n : Int)) (q : Int)
@[simp] theorem markM_length (j n i : Nat) : (markM j n i).length = i := by simp [markM]
theorem markM_succ (j n i : Nat) : markM j n i ++ [markB ((j : Int) + (n : Int)) (i : Int)] = markM j n (i + 1) := by simp [markM, List.range_succ]
def pairsM (ws : List (List UInt8)) (n k : Nat) : List (List UInt8 × List UInt8) := (List.range k).map fun j => (ws[j]?.getD [], markM j n 64)
theorem pairsM_succ (ws : List (List UInt8)) (n k : Nat) (h : k < ws.length) : pairsM ws n k ++ [(ws[k], markM k n 64)] = pairsM ws n (k + 1) := by simp [pairsM, List.range_succ, h]
theorem zip_snoc {vs us : List Value} {k : Nat} {v u : Value} (hk : k < vs.length) (hu : us.length = k) (hv : vs[k] = v) : (vs.take k).zip us ++ [(v, u)] = (vs.take (k + 1)).zip (us ++ [u]) := by
  rw [List.take_succ_eq_append_getElem hk, List.zip_append (by simp; omega), hv]; rfl
theorem set_fill {α : Type} {us : List α} {z u : α} {n k : Nat} (hu : us.length = k) (hk : k < n) : (us ++ List.replicate (n - k) z).set k u = (us ++ [u]) ++ List.replicate (n - (k + 1)) z := by
  rw [List.set_append_right _ _ (by omega), hu, Nat.sub_self]
  obtain ⟨m, hm⟩ : ∃ m, n - k = m + 1 := ⟨n - k - 1, by omega⟩
  rw [hm, List.replicate_succ, List.set_cons_zero, show n - (k + 1) = m from by omega]; simp
theorem set_over {α : Type} {us us2 : List α} {u : α} {k : Nat} (hu : us.length = k) (hk : k < us2.length) : (us ++ us2.drop k).set k u = (us ++ [u]) ++ us2.drop (k + 1) := by
  rw [List.set_append_right _ _ (by omega), hu, Nat.sub_self, List.drop_eq_getElem_cons hk, List.set_cons_zero]; simp
theorem two_at {g : Fr} {vs us : List Value} {ws : List (List UInt8)} {n : Nat} {f : Nat → List UInt8} {m : Fr} {e : TypeId} (hm : EachP (TwoE e) (vs.zip us) ((List.range n).map fun j => (ws[j]?.getD [], f j)) m) (hs : m.sub g) (hv : vs.length = n) (hu : us.length = n) (ha : ws.length = n)
    (k : Nat) (h1 : k < vs.length) (h2 : k < us.length) (h3 : k < ws.length) : Arr Rp.u8 g vs[k] ws[k] ∧ Arr Rp.u8 g us[k] (ws[k] ++ f k) := by
  have h := EachP.all2 (R := fun (p : Value × Value) (x : List UInt8 × List UInt8) => Arr Rp.u8 g p.1 x.1 ∧ Arr Rp.u8 g p.2 (x.1 ++ x.2)) (fun b a m' (x : Two _ _ _ _ _ _ m') s => ⟨(Two.arr x).1.mono s, (Two.arr x).2.mono s⟩) hm hs
  have h4 := h.get k (by simp; omega) (by simp; omega)
  simpa [h3] using h4

end Go.Proofs.YtcghiboamlaenaaDoor
end
end
section
/- Texts of this proof, one behind the other. -/
section
open Go Go.Sp
set_option maxRecDepth 100000
attribute [local irreducible] obj Own OwnP
namespace Go.Proofs.YtcghiboamlaenaaDoor

/-- a bag of bytes alone -/
def bagB (u : Value) : List Value := [.slice none 0 0, .slice none 0 0, .slice none 0 0, .slice none 0 0, .slice none 0 0, u, .slice none 0 0, .slice none 0 0, .slice none 0 0, .slice none 0 0, .slice none 0 0, .slice none 0 0, .slice none 0 0, .slice none 0 0, .slice none 0 0, .slice none 0 0, .slice none 0 0, .slice none 0 0, .slice none 0 0, .slice none 0 0, .slice none 0 0, .slice none 0 0, .slice none 0 0, .slice none 0 0]
end Go.Proofs.YtcghiboamlaenaaDoor
end
section
open Go Go.Sp
set_option maxRecDepth 100000
attribute [local irreducible] obj Own OwnP
namespace Go.Proofs.YtcghiboamlaenaaDoor
theorem FactKit8.flat23 : Go.Sp.flat1 Go.Proofs.Tryd.prog 23 = true := by kernel_rfl
theorem FactKit8.fld25x1 : fieldOff Go.Proofs.Tryd.prog 25 1 = some 1 := by kernel_rfl
theorem FactKit8.ok33 : callable Go.Proofs.Tryd.prog 33 = true := by kernel_rfl
theorem FactKit8.ok54 : callable Go.Proofs.Tryd.prog 54 = true := by kernel_rfl
theorem FactKit8.ok56 : callable Go.Proofs.Tryd.prog 56 = true := by kernel_rfl

theorem LentP.own {e : TypeId} {a : Option Addr} {c n : Nat} {xs : List UInt8} {h : Fr} (x : LentP e (.slice a n c) xs h) : OwnP Rp.u8 e (.slice a n c) xs h := by
  obtain ⟨a', c', _, h2, h3⟩ := x
  cases h2
  exact OwnP.take rfl h3
theorem lentEntry_c {r : Fr} {k : UInt8} {va : Value} {xs : List UInt8} (ha : Arr Rp.u8 r va xs) (hl : xs.length ≤ 100000000000000) :
    Con Go.Proofs.Tryd.prog 36 #[.agg #[byteV k, va]] r [] (Ret fun v η => ∃ a c, v = .agg #[byteV k, .slice a xs.length c] ∧ η = [LentP 5 (.slice a xs.length c) xs]) := by
  refine Con.of (n := 8) [.agg #[byteV k, va]] rfl Go.Proofs.Tryd.func36 rfl rfl rfl fun g hg R hR => ?_
  have ha := ha.mono hg
  obtain ⟨a1, c1, rfl⟩ := ha.shape
  refine S.seq (S.region rfl ?_)
  refine O.opE (.p rfl) (.box (cs := [_, _]) rfl rfl) ?_
  rintro _ _ ⟨b1, rfl, rfl⟩
  refine O.opE (.p rfl) (.alloc (cs := [.int .u8 0, .slice none 0 0]) Go.Proofs.Tryd.zeroValue25 rfl) ?_
  rintro _ _ ⟨b2, rfl, rfl⟩
  refine O.nil ?_
  refine S.seq (S.region rfl ?_)
  refine O.op (.p rfl) (.fieldObj FactKit8.fld25x1 rfl) ?_
  refine O.op (.p rfl) (.loadObj FactKit8.flat23 rfl (by repeat (first | exact Sel.here | apply Sel.there)) rfl) ?_
  refine O.call0 (.p rfl) rfl FactKit8.ok54 rfl rfl (LentBytes_c (by first | assumption | exact Arr.mono hg (by assumption) | exact Arr.left (by assumption) | exact Arr.left (Arr.mono hg (by assumption))) (by first | omega | (simp; done) | (simp; omega) | decide)) ?_
  rintro v5 _ ⟨a5, c5, rfl, rfl⟩
  try simp only [List.cons_append, List.nil_append, List.append_nil]
  refine O.op (.p rfl) (.fieldObj FactKit8.fld25x1 rfl) ?_
  refine O.opU rfl (.store1 FactKit8.flat23 rfl rfl (by first | rfl | assumption) (by repeat (first | exact Sel.here | apply Sel.there)) (by first | (simp; done) | (simp [Value.cells]; done))) ?_
  refine O.nil ?_
  refine S.seq (S.region rfl ?_)
  refine O.op (.p rfl) (.loadObjAgg (news := [_, _]) Go.Proofs.Tryd.isAgg25 (by kernel_rfl) rfl (by repeat (first | exact Sel.here | apply Sel.there)) rfl) ?_
  refine O.opU rfl (.storeObj (by kernel_rfl) rfl rfl rfl rfl (by repeat (first | exact Sel.here | apply Sel.there)) (by first | (simp; done) | (simp [Value.cells]; done))) ?_
  refine O.nil ?_
  refine S.retCellAgg Go.Proofs.Tryd.results36 Go.Proofs.Tryd.isAgg25 (by kernel_rfl) rfl (by repeat (first | exact Sel.here | apply Sel.there)) fun w hw => Holds.end_ hR hw ?_
  exact ⟨_, ⟨a5, c5, rfl, rfl⟩, by repeat (first | exact Picks.all | exact Picks.nil | (apply Picks.cons; focus (repeat (first | exact Sel.here | apply Sel.there))) | apply Picks.skip)⟩
theorem keptEntry_c {r : Fr} {k : UInt8} {va vb : Value} {xs : List UInt8} (hz : LentA r va xs) (hl : Arr Rp.u8 r vb xs) (hb : xs.length ≤ 100000000000000) :
    Con Go.Proofs.Tryd.prog 38 #[.agg #[byteV k, va], .agg #[byteV k, vb]] r [] (Ret fun v η => v = .bool true ∧ η = []) := by
  refine Con.of (n := 15) [.agg #[byteV k, va], .agg #[byteV k, vb]] rfl Go.Proofs.Tryd.func38 rfl rfl rfl fun g hg R hR => ?_
  replace hz : LentA g.h va xs := hz.mono hg
  have hl := hl.mono hg
  have hza := hz.arr
  obtain ⟨a1, c1, hr, rfl, hzz⟩ := hz
  obtain ⟨a2, c2, rfl⟩ := hl.shape
  refine S.seq (S.region rfl ?_)
  refine O.opE (.p rfl) (.box (cs := [_, _]) rfl rfl) ?_
  rintro _ _ ⟨b2, rfl, rfl⟩
  refine O.opE (.p rfl) (.box (cs := [_, _]) rfl rfl) ?_
  rintro _ _ ⟨b3, rfl, rfl⟩
  refine O.op (.p rfl) (.as rfl) ?_
  refine O.nil ?_
  refine S.seq (S.region rfl ?_)
  refine O.op (.p rfl) (.loadObjAgg (news := [_, _]) Go.Proofs.Tryd.isAgg25 (by kernel_rfl) rfl (by repeat (first | exact Sel.here | apply Sel.there)) rfl) ?_
  refine O.op (.p rfl) (.loadObjAgg (news := [_, _]) Go.Proofs.Tryd.isAgg25 (by kernel_rfl) rfl (by repeat (first | exact Sel.here | apply Sel.there)) rfl) ?_
  refine O.call0 (.p rfl) rfl FactKit8.ok33 rfl rfl (sameEntry_c hza hl) ?_
  rintro v7 _ ⟨rfl, rfl⟩
  try simp only [List.cons_append, List.nil_append, List.append_nil]
  refine O.slot 7 (v' := .bool true) rfl (congrArg Value.bool (by simp)) ?_
  refine O.op (.p rfl) (.mv rfl) ?_
  refine O.op (.g rfl rfl) (.fieldObj FactKit8.fld25x1 rfl) ?_
  refine O.op (.g rfl rfl) (.loadObj FactKit8.flat23 rfl (by repeat (first | exact Sel.here | apply Sel.there)) rfl) ?_
  refine O.op (.g rfl rfl) (.fieldObj FactKit8.fld25x1 rfl) ?_
  refine O.op (.g rfl rfl) (.loadObj FactKit8.flat23 rfl (by repeat (first | exact Sel.here | apply Sel.there)) rfl) ?_
  refine O.call0 (.g rfl rfl) rfl FactKit8.ok56 rfl rfl (KeptBytes_c hzz hl (by omega)) ?_
  rintro v13 _ ⟨rfl, rfl⟩
  try simp only [List.cons_append, List.nil_append, List.append_nil]
  refine O.slot 13 (v' := .bool true) rfl (congrArg Value.bool (by simp)) ?_
  refine O.op (.p rfl) (.pickT rfl rfl) ?_
  refine O.op (.p rfl) (.as rfl) ?_
  refine O.nil ?_
  refine S.ret Go.Proofs.Tryd.results38 rfl fun w hw => Holds.end_ hR hw ?_
  exact ⟨_, ⟨rfl, rfl⟩, by repeat (first | exact Picks.all | exact Picks.nil | (apply Picks.cons; focus (repeat (first | exact Sel.here | apply Sel.there))) | apply Picks.skip)⟩

end Go.Proofs.YtcghiboamlaenaaDoor
end
end
