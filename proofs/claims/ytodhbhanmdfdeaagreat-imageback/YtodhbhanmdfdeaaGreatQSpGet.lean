/- Texts of this proof, one behind the other. -/
import Derived.Test.YtodhbhanmdfdeaaGreatQSpRoot
import Derived.Test.YtodhbhanmdfdeaaGreatQSpRd
import Derived.Test.YtodhbhanmdfdeaaGreatQSpAuto
import Derived.Test.YtodhbhanmdfdeaaGreatQSpSib
import Derived.Test.YtodhbhanmdfdeaaGreatQSpImg
import Derived.Test.YtodhbhanmdfdeaaGreatQSpTry
section
/- Texts of this proof. -/
namespace Go.Sp
def dotsP : Nat → RS → List DotT × RS
 | 0, s => ([], s)
 | n + 1, s => ((dotsP n s).1 ++ [((dotsP n s).2.num.1, (dotsP n s).2.num.2.num.1, ())], (dotsP n s).2.num.2.num.2)
@[simp] theorem dotsP_length (n : Nat) (s : RS) : (dotsP n s).1.length = n := by induction n <;> simp [dotsP, *]
def dot64 (d : DotT) : Prop := InI64 d.1 ∧ InI64 d.2.1
theorem dotsP_in (n : Nat) (s : RS) : ∀ d ∈ (dotsP n s).1, dot64 d := by
 induction n with
 | zero => intro d hd; simp [dotsP] at hd
 | succ n ih =>
  intro d hd
  simp only [dotsP, List.mem_append, List.mem_singleton] at hd
  rcases hd with hd | rfl
  ·exact ih d hd
  ·exact ⟨RS.num_in _, RS.num_in _⟩
theorem dotsP_len (n : Nat) (s : RS) : (dotsP n s).2.rest.length ≤ s.rest.length := by
 induction n with
 | zero => exact Nat.le_refl _
 | succ n ih => exact Nat.le_trans (RS.num_len _) (Nat.le_trans (RS.num_len _) ih)
theorem dotsP_be : ∀ (l : List DotT) (t : List UInt8), (∀ d ∈ l, dot64 d) → dotsP l.length ⟨true, dotsB l ++ t⟩ = (l, ⟨true, t⟩) := by
 have key : ∀ (k : Nat) (l : List DotT) (t : List UInt8), (∀ d ∈ l, dot64 d) → k ≤ l.length → dotsP k ⟨true, dotsB l ++ t⟩ = (l.take k, ⟨true, dotsB (l.drop k) ++ t⟩) := by
  intro k
  induction k with
  | zero => intro l t _ _; simp [dotsP]
  | succ k ih =>
   intro l t hl hk
   have h1 := ih l t hl (by omega)
   have hd : l.drop k = l[k] :: l.drop (k + 1) := List.drop_eq_getElem_cons hk
   have hq := hl _ (List.getElem_mem (l := l) (n := k) (by omega))
   rw [dotsP, h1]
   simp only
   rw [hd, dotsB_cons, List.append_assoc, RS.num_be hq.1]
   simp only
   rw [List.append_assoc, RS.num_be hq.2, List.take_succ_eq_append_getElem hk]
 intro l t hl
 rw [key l.length l t hl (Nat.le_refl _)]; simp
structure RecQ where
 kind : UInt8
 key : List UInt8
 client : Int
 seq : Int
 dots : List DotT
 gone : UInt8
 value : List UInt8
 s : RS
def recQ (b : List UInt8) : RecQ :=
 let k := (RS.mk true b).byte
 let y := k.2.bytes 64
 let c := y.2.num
 let q := c.2.num
 let n := q.2.count 8
 let d := dotsP n.1.toNat n.2
 let g := d.2.byte
 let v := g.2.bytes 1024
 ⟨k.1, y.1, c.1, q.1, d.1, g.1, v.1, v.2⟩
def RecQ.make (q : RecQ) (g : Bool) (sig : List UInt8) : RecT := (q.key, q.client, q.seq, q.dots, g, q.value, sig, ())
theorem vec64 {l : List DotT} (h : vecOk l = true) : ∀ d ∈ l, dot64 d := fun d hd => by
 have := dotOk_iff.1 ((vecOk_iff.1 h).1 d hd)
 exact ⟨⟨by omega, by omega⟩, ⟨by omega, by omega⟩⟩
theorem recQ_text {x : RecT} (h : shaped x = true) (t : List UInt8) : recQ (recText x ++ t) = ⟨1, x.1, x.2.1, x.2.2.1, x.2.2.2.1, goneB x.2.2.2.2.1, x.2.2.2.2.2.1, ⟨true, t⟩⟩ := by
 obtain ⟨h1, h2, h3, h4, h5, h6, h7⟩ := shaped_iff.1 h
 have hd := dotOk_iff.1 h3
 simp only [rDot] at hd
 have hl := rises_len h4
 have i1 : InI64 x.2.1 := ⟨by omega, by omega⟩
 have i2 : InI64 x.2.2.1 := ⟨by omega, by omega⟩
 have i3 : InI64 (x.2.2.2.1.length : Int) := ⟨by omega, by omega⟩
 have e0 : recText x ++ t = (1 : UInt8) :: (bytesOf x.1 ++ (be x.2.1 ++ (be x.2.2.1 ++ (be x.2.2.2.1.length ++ (dotsB x.2.2.2.1 ++ (goneB x.2.2.2.2.1 :: (bytesOf x.2.2.2.2.2.1 ++ t))))))) := by
  simp [recText]
 unfold recQ
 rw [e0]
 simp only [RS.byte_cons]
 rw [RS.bytes_of (by omega) (by omega)]
 simp only
 rw [RS.num_be i1]
 simp only
 rw [RS.num_be i2]
 simp only
 rw [RS.count_be i3 (by omega) (by omega)]
 simp only [Int.toNat_natCast]
 rw [dotsP_be _ _ (vec64 h4)]
 simp only [RS.byte_cons]
 rw [RS.bytes_of (by omega) (by omega)]
noncomputable def recGet (b : List UInt8) : Option RecT := by
 classical exact if h : ∃ x, recOk x = true ∧ recB x = b then some h.choose else none
theorem recGet_iff' {b : List UInt8} {x : RecT} (h : recGet b = some x) : recOk x = true ∧ recB x = b := by
 unfold recGet at h
 split at h
 ·rename_i c; cases h; exact c.choose_spec
 ·cases h
def recHd (b : List UInt8) : RecQ := recQ (b.take (b.length - 64))
def recIn (b : List UInt8) : RecT := (recHd b).make (decide ((recHd b).gone ≠ 0)) (b.drop (b.length - 64))
theorem goneB_ne (g : Bool) : decide (goneB g ≠ 0) = g := by cases g <;> rfl
theorem recIn_ok {x : RecT} (h : recOk x = true) : recIn (recB x) = x ∧ (recHd (recB x)).s = ⟨true, []⟩ ∧ 64 ≤ (recB x).length := by
 obtain ⟨h1, h2⟩ := recOk_iff.1 h
 have e1 : (recB x).length - 64 = (recText x).length := by unfold recB; rw [List.length_append, h2]; omega
 have e2 : (recB x).take ((recB x).length - 64) = recText x := by rw [e1]; unfold recB; rw [List.take_append_of_le_length (Nat.le_refl _), List.take_length]
 have e3 : (recB x).drop ((recB x).length - 64) = x.2.2.2.2.2.2.1 := by rw [e1]; unfold recB; rw [List.drop_append_of_le_length (Nat.le_refl _), List.drop_length, List.nil_append]
 have e4 := recQ_text h1 []
 rw [List.append_nil] at e4
 refine ⟨?_, ?_, ?_⟩
 ·unfold recIn recHd
  rw [e2, e3, e4]
  simp only [RecQ.make, goneB_ne]
 ·unfold recHd; rw [e2, e4]
 ·unfold recB; rw [List.length_append, h2]; omega
theorem recB_inj {x y : RecT} (hx : recOk x = true) (hy : recOk y = true) (h : recB x = recB y) : x = y := by
 rw [← (recIn_ok hx).1, h, (recIn_ok hy).1]
theorem recGet_some {x : RecT} (h : recOk x = true) : recGet (recB x) = some x := by
 cases e : recGet (recB x) with
 | some y => obtain ⟨h1, h2⟩ := recGet_iff' e; rw [recB_inj h1 h h2]
 | none =>
  unfold recGet at e
  split at e
  ·cases e
  ·rename_i c; exact absurd ⟨x, h, rfl⟩ c
theorem recGet_iff {b : List UInt8} {x : RecT} : recGet b = some x ↔ recOk x = true ∧ recB x = b :=
 ⟨recGet_iff', fun ⟨h1, h2⟩ => by rw [← h2]; exact recGet_some h1⟩
theorem recGet_none {b : List UInt8} (h : ∀ x, recOk x = true → recB x ≠ b) : recGet b = none := by
 cases e : recGet b with
 | none => rfl
 | some x => exact absurd (recGet_iff' e).2 (h x (recGet_iff' e).1)
theorem recGet_short {b : List UInt8} (h : b.length < 64) : recGet b = none :=
 recGet_none fun x hx e => by have := (recIn_ok hx).2.2; rw [e] at this; omega
theorem recGet_yes {b : List UInt8} (h2 : recOk (recIn b) = true) (h3 : recB (recIn b) = b) : recGet b = some (recIn b) := recGet_iff.2 ⟨h2, h3⟩
theorem recGet_no {b : List UInt8} (h : ¬((recHd b).s.done = true ∧ recOk (recIn b) = true ∧ recB (recIn b) = b)) : recGet b = none :=
 recGet_none fun x hx e => h (by subst e; obtain ⟨h1, h2, _⟩ := recIn_ok hx; rw [h1, h2]; exact ⟨rfl, hx, rfl⟩)
def rootQ (b : List UInt8) : RootT :=
 let a := (RS.mk true ((b.drop 1).take 24)).num
 let c := a.2.num
 let q := c.2.num
 (a.1, c.1, q.1, (b.drop 25).take 64, b.drop 89, ())
theorem num_yes {s : RS} (hg : s.good = true) (h : 8 ≤ s.rest.length) : s.num.2.good = true ∧ s.num.2.rest.length = s.rest.length - 8 := by
 obtain ⟨g, r⟩ := s
 simp only at hg h
 subst hg
 simp [RS.num, RS.of, rNum, h]
theorem rootQ_text {b : List UInt8} (hl : b.length = 153) (h0 : b.head? = some 2) : rootB (rootQ b) = b := by
 unfold rootQ
 simp only
 generalize hS : RS.mk true ((b.drop 1).take 24) = s
 have sl : s.rest.length = 24 := by rw [← hS]; simp; omega
 have sg : s.good = true := by rw [← hS]
 obtain ⟨a1, l1⟩ := num_yes sg (by omega)
 obtain ⟨a2, l2⟩ := num_yes a1 (by omega)
 obtain ⟨a3, l3⟩ := num_yes a2 (by omega)
 obtain ⟨_, _, e1⟩ := RS.num_good a1
 obtain ⟨_, _, e2⟩ := RS.num_good a2
 obtain ⟨_, _, e3⟩ := RS.num_good a3
 have e4 : s.num.2.num.2.num.2.rest = [] := List.eq_nil_of_length_eq_zero (by omega)
 rw [e4, List.append_nil] at e3
 rw [e3] at e2
 rw [e2] at e1
 have e5 : (b.drop 1).take 24 = be s.num.1 ++ (be s.num.2.num.1 ++ be s.num.2.num.2.num.1) := by rw [← e1, ← hS]
 have e6 : b = 2 :: b.drop 1 := by
  cases b with
  | nil => cases h0
  | cons c b => simp at h0; subst h0; rfl
 have e7 : b.drop 1 = (b.drop 1).take 24 ++ b.drop 25 := by
  have := (List.take_append_drop 24 (b.drop 1)).symm
  rw [List.drop_drop] at this; exact this
 have e8 : b.drop 25 = (b.drop 25).take 64 ++ b.drop 89 := by
  have := (List.take_append_drop 64 (b.drop 25)).symm
  rw [List.drop_drop] at this; exact this
 show [2] ++ ((be s.num.1 ++ (be s.num.2.num.1 ++ be s.num.2.num.2.num.1)) ++ (b.drop 25).take 64) ++ b.drop 89 = b
 rw [← e5]
 conv => rhs; rw [e6, e7, e8]
 simp
theorem rootQ_ok {x : RootT} (h : rootOk x = true) : rootQ (rootB x) = x ∧ (rootB x).head? = some 2 := by
 obtain ⟨h1, h2⟩ := rootOk_iff.1 h
 obtain ⟨r1, r2, r3, r4, r5, r6, r7⟩ := rootShape_iff.1 h1
 have e0 : rootB x = 2 :: (be x.1 ++ (be x.2.1 ++ (be x.2.2.1 ++ (x.2.2.2.1 ++ x.2.2.2.2.1)))) := by simp [rootB, rootText]
 have e1 : ((rootB x).drop 1).take 24 = be x.1 ++ (be x.2.1 ++ be x.2.2.1) := by
  rw [e0, List.drop_succ_cons, List.drop_zero, ← List.append_assoc, ← List.append_assoc, List.append_assoc (be x.1), List.take_append_of_le_length (by simp), List.take_of_length_le (by simp)]
 have e2 : (rootB x).drop 25 = x.2.2.2.1 ++ x.2.2.2.2.1 := by
  rw [e0, show 25 = 24 + 1 from rfl, List.drop_succ_cons, ← List.append_assoc, ← List.append_assoc, List.append_assoc (be x.1), List.drop_append_of_le_length (by simp), List.drop_of_length_le (by simp), List.nil_append]
 have e3 : (rootB x).drop 89 = x.2.2.2.2.1 := by
  rw [show 89 = 25 + 64 from rfl, ← List.drop_drop, e2, List.drop_append_of_le_length (by omega), List.drop_of_length_le (by omega), List.nil_append]
 refine ⟨?_, by rw [e0]; rfl⟩
 unfold rootQ
 rw [e1, e2, e3]
 simp only
 rw [RS.num_be ⟨by omega, by omega⟩]
 simp only
 rw [RS.num_be ⟨by omega, by omega⟩]
 simp only
 have e4 := RS.num_be (n := x.2.2.1) ⟨by omega, by omega⟩ []
 rw [List.append_nil] at e4
 rw [e4, List.take_append_of_le_length (by omega), List.take_of_length_le (by omega)]
noncomputable def rootGet (b : List UInt8) : Option RootT := if b.length = 153 ∧ b.head? = some 2 ∧ rootOk (rootQ b) = true then some (rootQ b) else none
theorem rootGet_iff {b : List UInt8} {x : RootT} : rootGet b = some x ↔ rootOk x = true ∧ rootB x = b := by
 unfold rootGet
 constructor
 ·intro h
  split at h
  ·rename_i c; cases h; exact ⟨c.2.2, rootQ_text c.1 c.2.1⟩
  ·cases h
 ·rintro ⟨h1, rfl⟩
  obtain ⟨h2, h3⟩ := rootQ_ok h1
  rw [if_pos ⟨rootB_length h1, h3, by rw [h2]; exact h1⟩, h2]
theorem rootGet_some {x : RootT} (h : rootOk x = true) : rootGet (rootB x) = some x := rootGet_iff.2 ⟨h, rfl⟩
theorem rootGet_len {b : List UInt8} (hl : b.length ≠ 153) : rootGet b = none := if_neg fun c => hl c.1
noncomputable def evdGet (b : List UInt8) : Option EvdT :=
 let y := (RS.mk true b).bytes 153
 let z := y.2.bytes 153
 (rootGet y.1).bind fun a => (rootGet z.1).bind fun c => if z.2.done = true ∧ evdOk (a, c, ()) = true then some (a, c, ()) else none
theorem evdGet_iff {b : List UInt8} {x : EvdT} : evdGet b = some x ↔ evdOk x = true ∧ evdB x = b := by
 unfold evdGet
 simp only
 constructor
 ·intro h
  obtain ⟨a, ha, h⟩ := Option.bind_eq_some_iff.1 h
  obtain ⟨c, hc, h⟩ := Option.bind_eq_some_iff.1 h
  split at h
  ·rename_i q
   cases h
   refine ⟨q.2, ?_⟩
   obtain ⟨g1, g2⟩ := RS.done_iff.1 q.1
   obtain ⟨g3, _, e2⟩ := RS.bytes_good g1
   obtain ⟨_, _, e1⟩ := RS.bytes_good g3
   have a2 := (rootGet_iff.1 ha).2
   have c2 := (rootGet_iff.1 hc).2
   rw [← a2] at e1
   rw [← c2, g2, List.append_nil] at e2
   rw [e2] at e1
   exact e1.symm
  ·cases h
 ·rintro ⟨h1, rfl⟩
  obtain ⟨o1, o2, _⟩ := evdOk_iff.1 h1
  have l1 := rootB_length o1
  have l2 := rootB_length o2
  have e1 : (RS.mk true (evdB x)).bytes 153 = (rootB x.1, ⟨true, bytesOf (rootB x.2.1)⟩) := RS.bytes_of (by omega) (by omega) _
  have e2 : (RS.mk true (bytesOf (rootB x.2.1))).bytes 153 = (rootB x.2.1, ⟨true, []⟩) := by
   have := RS.bytes_of (xs := rootB x.2.1) (most := 153) (by omega) (by omega) []
   rwa [List.append_nil] at this
  rw [e1]
  simp only
  rw [e2, rootGet_some o1, rootGet_some o2]
  simp only [Option.bind_some]
  rw [if_pos ⟨rfl, h1⟩]
noncomputable def setP (most : Int) : Nat → RS → Option (List RecT × RS)
 | 0, s => some ([], s)
 | n + 1, s => (setP most n s).bind fun p => (recGet (p.2.bytes most).1).map fun x => (p.1 ++ [x], (p.2.bytes most).2)
theorem setP_sound {most : Int} : ∀ {n : Nat} {s : RS} {p : List RecT × RS}, setP most n s = some p → p.2.good = true → s.good = true ∧ p.1.length = n ∧ s.rest = sRows p.1 ++ p.2.rest
 | 0, s, p, h, hg => by cases h; exact ⟨hg, rfl, rfl⟩
 | n + 1, s, p, h, hg => by
  obtain ⟨q, hq, h⟩ := Option.bind_eq_some_iff.1 h
  obtain ⟨x, hx, rfl⟩ := Option.map_eq_some_iff.1 h
  obtain ⟨g1, _, e1⟩ := RS.bytes_good hg
  obtain ⟨g2, l2, e2⟩ := setP_sound hq g1
  refine ⟨g2, by simp [l2], ?_⟩
  rw [e2, e1, ← (recGet_iff.1 hx).2, sRows_snoc, List.append_assoc]
theorem setP_bad {most : Int} {n : Nat} {s : RS} {p : List RecT × RS} (h : setP most n s = some p) : (∀ x ∈ p.1, recOk x = true) ∧ p.1.length = n := by
 induction n generalizing p with
 | zero => cases h; exact ⟨fun x hx => (by cases hx), rfl⟩
 | succ n ih =>
  obtain ⟨q, hq, h⟩ := Option.bind_eq_some_iff.1 h
  obtain ⟨x, hx, rfl⟩ := Option.map_eq_some_iff.1 h
  obtain ⟨i1, i2⟩ := ih hq
  refine ⟨fun y hy => ?_, by simp [i2]⟩
  rcases List.mem_append.1 hy with hy | hy
  ·exact i1 y hy
  ·rw [List.mem_singleton.1 hy]; exact (recGet_iff.1 hx).1
theorem sRows_cons (x : RecT) (l : List RecT) : sRows (x :: l) = bytesOf (recB x) ++ sRows l := by simp [sRows]
theorem setP_rows {most : Int} (l : List RecT) (t : List UInt8) (hl : ∀ x ∈ l, recOk x = true ∧ ((recB x).length : Int) ≤ most) : setP most l.length ⟨true, sRows l ++ t⟩ = some (l, ⟨true, t⟩) := by
 have key : ∀ k, k ≤ l.length → setP most k ⟨true, sRows l ++ t⟩ = some (l.take k, ⟨true, sRows (l.drop k) ++ t⟩) := by
  intro k
  induction k with
  | zero => intro _; simp [setP]
  | succ k ih =>
   intro hk
   obtain ⟨h1, h2⟩ := hl _ (List.getElem_mem (l := l) (n := k) (by omega))
   have h3 := recB_le h1
   have hd : l.drop k = l[k] :: l.drop (k + 1) := List.drop_eq_getElem_cons hk
   have hb := RS.bytes_of (xs := recB l[k]) (most := most) h2 (by omega) (sRows (l.drop (k + 1)) ++ t)
   have e : sRows (l.drop k) ++ t = bytesOf (recB l[k]) ++ (sRows (l.drop (k + 1)) ++ t) := by rw [hd, sRows_cons, List.append_assoc]
   rw [setP, ih (by omega), Option.bind_some, e]
   simp only
   rw [hb]
   simp only
   rw [recGet_some h1, Option.map_some, List.take_succ_eq_append_getElem (by omega)]
 rw [key _ (Nat.le_refl _)]; simp [sRows]
noncomputable def sGet (b : List UInt8) : Option (List RecT) :=
 let c := (RS.mk true b).count ((b.length / 8 : Nat) : Int)
 (setP b.length c.1.toNat c.2).bind fun p => if p.2.done = true ∧ SRight p.1 then some p.1 else none
theorem sRows_min (l : List RecT) : 8 * l.length ≤ (sRows l).length := by
 induction l with
 | nil => simp [sRows]
 | cons x l ih => simp only [sRows, List.map_cons, List.flatten_cons, List.length_append, bytesOf_length, List.length_cons] at ih ⊢; omega
theorem rec_in_rows {l : List RecT} {x : RecT} (h : x ∈ l) : (recB x).length ≤ (sRows l).length := by
 induction l with
 | nil => cases h
 | cons y l ih =>
  simp only [sRows, List.map_cons, List.flatten_cons, List.length_append, bytesOf_length] at ih ⊢
  rcases List.mem_cons.1 h with rfl | h
  ·omega
  ·have := ih h; omega
theorem sGet_iff {b : List UInt8} (hb : b.length ≤ 9223372036854775807) {l : List RecT} : sGet b = some l ↔ SRight l ∧ sB l = b := by
 unfold sGet
 simp only
 constructor
 ·intro h
  obtain ⟨p, hp, h⟩ := Option.bind_eq_some_iff.1 h
  split at h
  ·rename_i q
   cases h
   refine ⟨q.2, ?_⟩
   obtain ⟨g1, g2⟩ := RS.done_iff.1 q.1
   obtain ⟨g3, l3, e3⟩ := setP_sound hp g1
   obtain ⟨_, b4, _, e4⟩ := RS.count_good g3
   rw [g2, List.append_nil] at e3
   rw [e3] at e4
   have e5 : ((RS.mk true b).count ((b.length / 8 : Nat) : Int)).1 = (p.1.length : Int) := by rw [l3]; omega
   rw [e5] at e4
   exact e4.symm
  ·cases h
 ·rintro ⟨h1, rfl⟩
  have hlen : (sB l).length = 8 + (sRows l).length := by simp [sB]
  have hmin := sRows_min l
  have e1 : (RS.mk true (sB l)).count (((sB l).length / 8 : Nat) : Int) = ((l.length : Int), ⟨true, sRows l⟩) := RS.count_be ⟨by omega, by omega⟩ (by omega) (by omega) _
  rw [e1]
  simp only [Int.toNat_natCast]
  have e2 := setP_rows (most := ((sB l).length : Int)) l [] fun x hx => ⟨oneK_all h1.1 x hx, by have := rec_in_rows hx; omega⟩
  rw [List.append_nil] at e2
  rw [e2]
  simp only [Option.bind_some]
  rw [if_pos ⟨rfl, h1⟩]
end Go.Sp
end
section
/- Texts of this proof, one behind the other. -/
section
/- Texts of this proof, one behind the other. -/
section
/- Texts of this proof, one behind the other. -/
section
/- Texts of this proof. -/
namespace Go.Sp
variable {K : Type} [DecidableEq K] {enc : K → Value}
abbrev KEnt (K : Type) := K × Value × Nat
section
variable {ro : Option Nat} {P : Program} {fn : Func} {n : Nat} {R : Ending → World → Prop} {k : List Item} {σ : List (Nat × Value)} {D : List Deferred} {g : Gr} {η ζ θ : List SProp} {ops : Array Oper} {i d : Nat} {ls : List Nat}
 {t tk te : TypeId} {x y z : Operand} {b c : Nat} {l : List (KEnt K)} {key : K} {w : World}
omit [DecidableEq K] in
omit [DecidableEq K] in
omit [DecidableEq K] in
omit [DecidableEq K] in
omit [DecidableEq K] in
omit [DecidableEq K] in
omit [DecidableEq K] in
omit [DecidableEq K] in
end
def enc2 (a : Int × Int) : Value := .agg #[.int .i64 a.1, .int .i64 a.2]
theorem run_part_int {P : Program} {ti : TypeId} (hi : P.underlying ti = some (.int .i64)) (cs : Array Value) (off : Nat) (v : Value) (hv : cs[off]? = some v) (w : World) : (part ti cs off).run P w = .ok v w := by
 simp [part, isAgg, run_underlying hi, hv]
theorem enc2_at (a : Int × Int) : (#[Value.int .i64 a.1, .int .i64 a.2] : Array Value)[0]? = some (.int .i64 a.1) ∧ (#[Value.int .i64 a.1, .int .i64 a.2] : Array Value)[1]? = some (.int .i64 a.2) := ⟨rfl, rfl⟩
omit [DecidableEq K] in
omit [DecidableEq K] in
section
variable {ro : Option Nat} {P : Program} {fn : Func} {n : Nat} {R : Ending → World → Prop} {k : List Item} {σ : List (Nat × Value)} {D : List Deferred} {g : Gr} {η ζ θ : List SProp} {ops : Array Oper} {i d : Nat} {ls : List Nat}
 {t tk te : TypeId} {x y z : Operand} {b c c' : Nat} {l : List (KEnt K)} {key : K} {w : World} {v zv : Value}
end
end Go.Sp
end
section
/- Texts of this proof. -/
namespace Go.Sp
theorem run_equalDot {P : Program} {t ti : TypeId} {f0 f1 : Field} (ht : P.underlying t = some (.struct #[f0, f1])) (hi : P.underlying ti = some (.int .i64)) (h0 : f0.type = ti) (h1 : f1.type = ti) (o0 : f0.offset = 0) (o1 : f1.offset = 1) (n0 : f0.name ≠ "_") (n1 : f1.name ≠ "_") (hh : P.stoodInHeld t = false)
  (a b : Int × Int) (w : World) : (Op.equal t (enc2 a) (enc2 b)).run P w = .ok (decide (a = b)) w := by
 have hpa0 := fun w => run_part_int hi _ 0 _ (enc2_at a).1 w
 have hpa1 := fun w => run_part_int hi _ 1 _ (enc2_at a).2 w
 have hpb0 := fun w => run_part_int hi _ 0 _ (enc2_at b).1 w
 have hpb1 := fun w => run_part_int hi _ 1 _ (enc2_at b).2 w
 have heq : ∀ (x y : Int) (w : World), (Op.equalIn 9999 ti (.int .i64 x) (.int .i64 y)).run P w = .ok (x == y) w := fun x y w => by
  show (Op.equalIn (9998 + 1) ti (.int .i64 x) (.int .i64 y)).run P w = _
  unfold Op.equalIn
  simp [run_underlying hi]
 show (Op.equalIn (9999 + 1) t (enc2 a) (enc2 b)).run P w = _
 unfold Op.equalIn enc2
 simp only [Sem.run_bind, run_underlying ht, Result.andThen]
 obtain ⟨a1, a2⟩ := a
 obtain ⟨b1, b2⟩ := b
 simp only at hpa0 hpa1 hpb0 hpb1
 by_cases c1 : a1 = b1
 ·by_cases c2 : a2 = b2
  ·subst c1; subst c2
   simp [hh, h0, h1, o0, o1, n0, n1, hpa0, hpa1, heq]
  ·subst c1
   have : (a2 == b2) = false := by simpa using c2
   simp [hh, h0, h1, o0, o1, n0, n1, hpa0, hpa1, hpb0, hpb1, heq, c2]
 ·have : (a1 == b1) = false := by simpa using c1
  simp [hh, h0, h1, o0, o1, n0, n1, hpa0, hpb0, heq, c1]
section
variable {P : Program} {σ : List (Nat × Value)} {g : Gr} {η : List SProp} {t ti u : TypeId} {x y : Operand} {a b c d : Int} {f0 f1 : Field}
theorem Does.neqDot (ht : P.underlying t = some (.struct #[f0, f1])) (hi : P.underlying ti = some (.int .i64)) (h0 : f0.type = ti) (h1 : f1.type = ti) (o0 : f0.offset = 0) (o1 : f1.offset = 1) (n0 : f0.name ≠ "_") (n1 : f1.name ≠ "_") (hh : P.stoodInHeld t = false) (hgd : P.eqGuardType P.depth t = false)
  (hx : ev σ x = some (.agg #[.int .i64 a, .int .i64 b])) (hy : ev σ y = some (.agg #[.int .i64 c, .int .i64 d])) : Does P (.binOp .neq t x y u) σ g η (.bool (decide ((a, b) ≠ (c, d)))) η := .run fun o ρ w ho hk => by
 have h := run_equalDot ht hi h0 h1 o0 o1 n0 n1 hh (a, b) (c, d) w
 simp only [enc2] at h
 simp [execOp, ho, hk x _ hx, hk y _ hy, eqGuard, Go.binOp, h, hgd]
end
theorem take_same {α : Type} {xs ys : List α} {i : Nat} (hi : i < xs.length) (hi2 : i < ys.length) (h : xs.take i = ys.take i) (e : xs[i] = ys[i]) : xs.take (i + 1) = ys.take (i + 1) := by
 rw [List.take_succ_eq_append_getElem hi, List.take_succ_eq_append_getElem hi2, h, e]
theorem not_same {α : Type} {xs ys : List α} {i : Nat} (hi : i < xs.length) (hi2 : i < ys.length) (e : ¬ xs[i] = ys[i]) : ¬ xs = ys := fun h => e (by subst h; rfl)
theorem str_eqL {a b : List UInt8} (h : (str a).toList = (str b).toList) : a = b := by simpa using h
set_option synthInstance.maxSize 2000
set_option synthInstance.maxHeartbeats 400000
instance decDot : DecidableEq DotT := inferInstance
instance decRec : DecidableEq RecT := inferInstance
instance decLeaf : DecidableEq LeafT := inferInstance
instance decStub : DecidableEq StubT := inferInstance
instance decNode : DecidableEq NodeT := inferInstance
instance decPrf : DecidableEq PrfT := inferInstance
instance decRoot : DecidableEq RootT := inferInstance
instance decEvd : DecidableEq EvdT := inferInstance
instance decHeld : DecidableEq HeldT := inferInstance
end Go.Sp
end
end
section
/- Texts of this proof, one behind the other. -/
section
/- Texts of this proof. -/
namespace Go.Sp
noncomputable def fL (k : List UInt8) (f : LeafT) : Option (List UInt8) := if k < f.1 ∧ f.1.length ≤ 64 ∧ (∃ h : 0 < f.2.1.length, f.2.1[0].1 = f.1) ∧ SRight f.2.1 then some f.1 else none
def fR (s : Int × Int) (x : RootT) : Option (Int × Int) := if (s.1 = 0 ∨ x.1 = s.1 ∧ s.2 < x.2.1) ∧ rootOk x = true then some (x.1, x.2.1) else none
def fE (s : List (List UInt8)) (e : EvdT) : Option (List (List UInt8)) := if evdOk e = true ∧ evdB e ∉ s ∧ s.length < 32 then some (s ++ [evdB e]) else none
def fS (s : Int) (n : Int) : Option Int := if s < n ∧ n ≤ 7 then some n else none
theorem fold_map {α σ : Type} (f : WSt → α → Option WSt) (p : WSt → σ) (g : σ → α → Option σ) (hfg : ∀ s x, (f s x).map p = g (p s) x) : ∀ (l : List α) (s : WSt), (l.foldlM f s).map p = l.foldlM g (p s)
 | [], s => rfl
 | a :: l, s => by
  have := hfg s a
  rw [List.foldlM_cons, List.foldlM_cons, ← this]
  cases e : f s a with
  | none => rfl
  | some t => exact fold_map f p g hfg l t
theorem fold_keep {α τ : Type} (f : WSt → α → Option WSt) (q : WSt → τ) (hq : ∀ s x t, f s x = some t → q t = q s) : ∀ (l : List α) (s t : WSt), l.foldlM f s = some t → q t = q s
 | [], s, t, h => by obtain rfl := Option.some.inj h; rfl
 | a :: l, s, t, h => by
  rw [List.foldlM_cons] at h
  cases e : f s a with
  | none => rw [e] at h; cases h
  | some u => rw [e] at h; exact (fold_keep f q hq l u t h).trans (hq s a u e)
theorem row_some {α σ : Type} {f : WSt → α → Option WSt} (p : WSt → σ) (g : σ → α → Option σ) (hfg : ∀ s x, (f s x).map p = g (p s) x) (ho : ∀ s o, p { s with out := o } = p s) {l : List α} {s : WSt} {s0 : σ} (hp : p s = s0) : (rowSteps f s l).isSome = (l.foldlM g s0).isSome := by
 subst hp
 have h := fold_map f p g hfg l { s with out := s.out ++ be l.length }
 rw [ho] at h
 rw [← h, Option.isSome_map]; rfl
theorem row_keep {α τ : Type} {f : WSt → α → Option WSt} (q : WSt → τ) (hq : ∀ s x t, f s x = some t → q t = q s) (ho : ∀ s o, q { s with out := o } = q s) {l : List α} {s t : WSt} (h : rowSteps f s l = some t) : q t = q s :=
 (fold_keep f q hq l _ t h).trans (ho _ _)
theorem bind_isSome' {α β : Type} {o : Option α} {k : α → Option β} {b c : Bool} (h1 : o.isSome = b) (h2 : ∀ s, o = some s → (k s).isSome = c) : (o.bind k).isSome = (b && c) := by
 subst h1
 cases e : o with
 | none => rfl
 | some s => exact h2 s e
theorem imgW_isSome (h : HeldT) : (imgW h).isSome = ((h.1.foldlM fL []).isSome && ((h.2.1.foldlM fR (0, 0)).isSome && ((h.2.2.1.foldlM fE []).isSome && (h.2.2.2.1.foldlM fS 0).isSome))) := by
 unfold imgW
 refine bind_isSome' (row_some (·.key) fL (fun s x => by unfold leafStep fL; split <;> rfl) (fun _ _ => rfl) rfl) fun s1 e1 => ?_
 have k1 : (s1.rep, s1.shard, s1.seen, s1.last) = (0, 0, [], 0) := row_keep (fun s => (s.rep, s.shard, s.seen, s.last)) (fun s x t h => by
   unfold leafStep at h; split at h
   ·obtain rfl := Option.some.inj h; rfl
   ·cases h) (fun _ _ => rfl) e1
 simp only [Prod.mk.injEq] at k1
 obtain ⟨k11, k12, k13, k14⟩ := k1
 refine bind_isSome' (row_some (fun s => (s.rep, s.shard)) fR (fun s x => by unfold rootStep fR; split <;> rfl) (fun _ _ => rfl) (Prod.ext k11 k12)) fun s2 e2 => ?_
 have k2 : (s2.seen, s2.last) = (s1.seen, s1.last) := row_keep (fun s => (s.seen, s.last)) (fun s x t h => by
    unfold rootStep at h; split at h
    ·obtain rfl := Option.some.inj h; rfl
    ·cases h) (fun _ _ => rfl) e2
 simp only [Prod.mk.injEq] at k2
 obtain ⟨k21, k22⟩ := k2
 refine bind_isSome' (row_some (·.seen) fE (fun s x => by unfold evdStep fE; split <;> rfl) (fun _ _ => rfl) (k21.trans k13)) fun s3 e3 => ?_
 have k3 : s3.last = s2.last := row_keep (·.last) (fun s x t h => by
     unfold evdStep at h; split at h
     ·obtain rfl := Option.some.inj h; rfl
     ·cases h) (fun _ _ => rfl) e3
 rw [Option.isSome_map]
 exact row_some (·.last) fS (fun s x => by unfold shutStep fS; split <;> rfl) (fun _ _ => rfl) (k3.trans (k22.trans k14))
end Go.Sp
end
section
/- Texts of this proof. -/
namespace Go.Sp
def leafB (f : LeafT) : List UInt8 := bytesOf f.1 ++ bytesOf (sB f.2.1)
def rowsB {α : Type} (b : α → List UInt8) (l : List α) : List UInt8 := (l.map b).flatten
theorem rowsB_le {α : Type} (b : α → List UInt8) (M : Nat) (l : List α) (h : ∀ x ∈ l, (b x).length ≤ M) : (rowsB b l).length ≤ M * l.length := by
 induction l with
 | nil => simp [rowsB]
 | cons a l ih =>
  have h1 := h a (List.mem_cons_self ..)
  have h2 := ih fun x hx => h x (List.mem_cons_of_mem _ hx)
  simp only [rowsB, List.map_cons, List.flatten_cons, List.length_append, List.length_cons] at h2 ⊢
  rw [Nat.mul_add, Nat.mul_one]; omega
def heldB (h : HeldT) : List UInt8 := be h.1.length ++ rowsB leafB h.1 ++ be h.2.1.length ++ rowsB (fun x => bytesOf (rootB x)) h.2.1 ++ be h.2.2.1.length ++ rowsB (fun x => bytesOf (evdB x)) h.2.2.1 ++ be h.2.2.2.1.length ++ rowsB be h.2.2.2.1
theorem fold_out {α : Type} {f : WSt → α → Option WSt} {b : α → List UInt8} (hf : ∀ s x t, f s x = some t → t.out = s.out ++ b x) : ∀ {l : List α} {s t : WSt}, l.foldlM f s = some t → t.out = s.out ++ rowsB b l
 | [], s, t, h => by obtain rfl := Option.some.inj h; simp [rowsB]
 | a :: l, s, t, h => by
  rw [List.foldlM_cons] at h
  cases e : f s a with
  | none => rw [e] at h; cases h
  | some u =>
   rw [e] at h
   have h1 := fold_out hf (s := u) (t := t) h
   rw [h1, hf s a u e]
   simp [rowsB]
theorem row_out {α : Type} {f : WSt → α → Option WSt} {b : α → List UInt8} (hf : ∀ s x t, f s x = some t → t.out = s.out ++ b x) {l : List α} {s t : WSt} (h : rowSteps f s l = some t) : t.out = s.out ++ be l.length ++ rowsB b l := fold_out hf h
theorem imgW_out {h : HeldT} {out : List UInt8} (e : imgW h = some out) : out = heldB h := by
 unfold imgW at e
 obtain ⟨s1, e1, e⟩ := Option.bind_eq_some_iff.1 e
 obtain ⟨s2, e2, e⟩ := Option.bind_eq_some_iff.1 e
 obtain ⟨s3, e3, e⟩ := Option.bind_eq_some_iff.1 e
 obtain ⟨s4, e4, rfl⟩ := Option.map_eq_some_iff.1 e
 have o1 := row_out (b := leafB) (fun s x t q => by unfold leafStep at q; split at q <;> first | (obtain rfl := Option.some.inj q; rfl) | cases q) e1
 have o2 := row_out (b := fun x => bytesOf (rootB x)) (fun s x t q => by unfold rootStep at q; split at q <;> first | (obtain rfl := Option.some.inj q; rfl) | cases q) e2
 have o3 := row_out (b := fun x => bytesOf (evdB x)) (fun s x t q => by unfold evdStep at q; split at q <;> first | (obtain rfl := Option.some.inj q; rfl) | cases q) e3
 have o4 := row_out (b := be) (fun s x t q => by unfold shutStep at q; split at q <;> first | (obtain rfl := Option.some.inj q; rfl) | cases q) e4
 rw [o4, o3, o2, o1]
 simp [heldB, WSt.zero]
theorem foldO_all {α σ : Type} {f : σ → α → Option σ} {p : α → Prop} (hf : ∀ s x, (f s x).isSome = true → p x) : ∀ {l : List α} {s : σ}, (l.foldlM f s).isSome = true → ∀ x ∈ l, p x
 | [], _, _ => by simp
 | a :: l, s, h => by
  rw [List.foldlM_cons] at h
  cases e : f s a with
  | none => rw [e] at h; cases h
  | some u =>
   rw [e] at h
   intro x hx
   rcases List.mem_cons.1 hx with rfl | hx
   ·exact hf s _ (by rw [e]; rfl)
   ·exact foldO_all hf (s := u) h x hx
theorem imgW_all {h : HeldT} (e : (imgW h).isSome = true) : (∀ f ∈ h.1, f.1.length ≤ 64 ∧ SRight f.2.1) ∧ (∀ x ∈ h.2.1, rootOk x = true) ∧ (∀ x ∈ h.2.2.1, evdOk x = true) := by
 rw [imgW_isSome] at e
 simp only [Bool.and_eq_true] at e
 obtain ⟨e1, e2, e3, _⟩ := e
 refine ⟨foldO_all (f := fL) (fun s x q => ?_) e1, foldO_all (f := fR) (fun s x q => ?_) e2, foldO_all (f := fE) (fun s x q => ?_) e3⟩
 ·unfold fL at q; split at q
  ·rename_i c; exact ⟨c.2.1, c.2.2.2⟩
  ·cases q
 ·unfold fR at q; split at q
  ·rename_i c; exact c.2
  ·cases q
 ·unfold fE at q; split at q
  ·rename_i c; exact c.1
  ·cases q
theorem leafRows_le {l : List LeafT} (h : ∀ f ∈ l, f.1.length ≤ 64 ∧ SRight f.2.1) : (rowsB leafB l).length ≤ 100 * l.length + 1408 * recsIn l := by
 induction l with
 | nil => simp [rowsB]
 | cons a l ih =>
  have h1 := h a (List.mem_cons_self ..)
  have h2 := ih fun x hx => h x (List.mem_cons_of_mem _ hx)
  have h3 := sB_le h1.2.1
  simp only [rowsB, recsIn, List.map_cons, List.flatten_cons, List.length_append, List.length_cons, List.sum_cons] at h2 ⊢
  simp only [leafB, List.length_append, bytesOf_length]
  omega
end Go.Sp
end
end
end
section
/- Texts of this proof, one behind the other. -/
section
/- Texts of this proof. -/
namespace Go.Sp
abbrev top64 : Int := 9223372036854775807
def someP {α : Type} (one : RS → Option (α × RS)) : Nat → RS → Option (List α × RS)
 | 0, s => some ([], s)
 | n + 1, s => (someP one n s).bind fun p => if p.2.good = true then (one p.2).map fun q => (p.1 ++ [q.1], q.2) else none
def rowP {α : Type} (one : RS → Option (α × RS)) (s : RS) : Option (List α × RS) := someP one (s.count 1073741824).1.toNat (s.count 1073741824).2
noncomputable def leafP (s : RS) : Option (LeafT × RS) := (sGet ((s.bytes top64).2.bytes top64).1).map fun l => (((s.bytes top64).1, l, ()), ((s.bytes top64).2.bytes top64).2)
noncomputable def ownP (s : RS) : Option (RootT × RS) := (rootGet (s.bytes top64).1).map fun x => (x, (s.bytes top64).2)
noncomputable def proofP (s : RS) : Option (EvdT × RS) := (evdGet (s.bytes top64).1).map fun x => (x, (s.bytes top64).2)
def numP (s : RS) : Option (Int × RS) := some s.num
noncomputable def heldP (s : RS) : Option (HeldT × RS) :=
 (rowP leafP s).bind fun a => (rowP ownP a.2).bind fun b => (rowP proofP b.2).bind fun c => (rowP numP c.2).map fun d => ((a.1, b.1, c.1, d.1, ()), d.2)
noncomputable def hGet (b : List UInt8) : Option HeldT := (heldP ⟨true, b⟩).bind fun p => if p.2.done = true ∧ imgW p.1 = some b then some p.1 else none
def Reads {α : Type} (one : RS → Option (α × RS)) (enc : α → List UInt8) (x : α) : Prop := ∀ t, one ⟨true, enc x ++ t⟩ = some (x, ⟨true, t⟩)
theorem rowsB_cons {α : Type} (b : α → List UInt8) (x : α) (l : List α) : rowsB b (x :: l) = b x ++ rowsB b l := by simp [rowsB]
theorem someP_rows {α : Type} {one : RS → Option (α × RS)} {enc : α → List UInt8} (l : List α) (t : List UInt8) (h : ∀ x ∈ l, Reads one enc x) : someP one l.length ⟨true, rowsB enc l ++ t⟩ = some (l, ⟨true, t⟩) := by
 have key : ∀ k, k ≤ l.length → someP one k ⟨true, rowsB enc l ++ t⟩ = some (l.take k, ⟨true, rowsB enc (l.drop k) ++ t⟩) := by
  intro k
  induction k with
  | zero => intro _; simp [someP]
  | succ k ih =>
   intro hk
   have hd : l.drop k = l[k] :: l.drop (k + 1) := List.drop_eq_getElem_cons hk
   have h1 := h _ (List.getElem_mem (l := l) (n := k) (by omega)) (rowsB enc (l.drop (k + 1)) ++ t)
   rw [someP, ih (by omega), Option.bind_some, hd, rowsB_cons, List.append_assoc]
   simp only
   rw [if_pos trivial, h1, Option.map_some, List.take_succ_eq_append_getElem (by omega)]
 rw [key _ (Nat.le_refl _)]; simp [rowsB]
theorem rowP_rows {α : Type} {one : RS → Option (α × RS)} {enc : α → List UInt8} (l : List α) (t : List UInt8) (hl : l.length ≤ 1073741824) (h : ∀ x ∈ l, Reads one enc x) : rowP one ⟨true, be l.length ++ (rowsB enc l ++ t)⟩ = some (l, ⟨true, t⟩) := by
 unfold rowP
 rw [RS.count_be ⟨by omega, by omega⟩ (by omega) (by omega)]
 simp only [Int.toNat_natCast]
 exact someP_rows l t h
theorem leafP_reads {x : LeafT} (hk : x.1.length ≤ 64) (hs : SRight x.2.1) (hl : (sB x.2.1).length ≤ 9223372036854775807) : Reads leafP leafB x := fun t => by
 unfold leafP leafB
 rw [List.append_assoc, RS.bytes_of (by unfold top64; omega) (by omega)]
 simp only
 rw [RS.bytes_of (by unfold top64; omega) (by omega)]
 simp only
 rw [(sGet_iff (by omega)).2 ⟨hs, rfl⟩]; rfl
theorem ownP_reads {x : RootT} (h : rootOk x = true) : Reads ownP (fun x => bytesOf (rootB x)) x := fun t => by
 have := rootB_length h
 unfold ownP
 rw [RS.bytes_of (by unfold top64; omega) (by omega)]
 simp only
 rw [rootGet_some h]; rfl
theorem proofP_reads {x : EvdT} (h : evdOk x = true) : Reads proofP (fun x => bytesOf (evdB x)) x := fun t => by
 have := evdB_length h
 unfold proofP
 rw [RS.bytes_of (by unfold top64; omega) (by omega)]
 simp only
 rw [evdGet_iff.2 ⟨h, rfl⟩]; rfl
theorem numP_reads {x : Int} (h : InI64 x) : Reads numP be x := fun t => by
 unfold numP
 rw [RS.num_be h]
theorem imgW_shut {h : HeldT} (e : (imgW h).isSome = true) : ∀ x ∈ h.2.2.2.1, InI64 x := by
 rw [imgW_isSome] at e
 simp only [Bool.and_eq_true] at e
 have key : ∀ (l : List Int) (s : Int), 0 ≤ s → (l.foldlM fS s).isSome = true → ∀ x ∈ l, InI64 x := by
  intro l
  induction l with
  | nil => intro s _ _ x hx; cases hx
  | cons a l ih =>
   intro s hs hf x hx
   rw [List.foldlM_cons] at hf
   unfold fS at hf
   split at hf
   ·rename_i c
    rcases List.mem_cons.1 hx with rfl | hx
    ·exact ⟨by omega, by omega⟩
    ·exact ih a (by omega) hf x hx
   ·cases hf
 exact key _ 0 (by decide) e.2.2.2
theorem leafRow_le {l : List LeafT} {x : LeafT} (h : x ∈ l) : (sB x.2.1).length ≤ (rowsB leafB l).length := by
 induction l with
 | nil => cases h
 | cons y l ih =>
  rw [rowsB_cons, List.length_append]
  rcases List.mem_cons.1 h with rfl | h
  ·simp [leafB]; omega
  ·have := ih h; omega
theorem rowsB_min {α : Type} {b : α → List UInt8} (hb : ∀ x, 1 ≤ (b x).length) (l : List α) : l.length ≤ (rowsB b l).length := by
 induction l with
 | nil => simp
 | cons x l ih => rw [rowsB_cons, List.length_append, List.length_cons]; have := hb x; omega
theorem heldB_lens (h : HeldT) : h.1.length ≤ (heldB h).length ∧ h.2.1.length ≤ (heldB h).length ∧ h.2.2.1.length ≤ (heldB h).length ∧ h.2.2.2.1.length ≤ (heldB h).length ∧ ∀ x ∈ h.1, (sB x.2.1).length ≤ (heldB h).length := by
 have h0 := rowsB_min (b := leafB) (fun x => by simp [leafB]; omega) h.1
 have h1 := rowsB_min (b := fun x => bytesOf (rootB x)) (fun x => by simp; omega) h.2.1
 have h2 := rowsB_min (b := fun x => bytesOf (evdB x)) (fun x => by simp; omega) h.2.2.1
 have h3 := rowsB_min (b := be) (fun x => by simp) h.2.2.2.1
 have hl : (heldB h).length = 32 + (rowsB leafB h.1).length + (rowsB (fun x => bytesOf (rootB x)) h.2.1).length + (rowsB (fun x => bytesOf (evdB x)) h.2.2.1).length + (rowsB be h.2.2.2.1).length := by
  simp only [heldB, List.length_append, be_length]; omega
 exact ⟨by omega, by omega, by omega, by omega, fun x hx => by have := leafRow_le hx; omega⟩
theorem heldB_eq (h : HeldT) (t : List UInt8) : heldB h ++ t = be h.1.length ++ (rowsB leafB h.1 ++ (be h.2.1.length ++ (rowsB (fun x => bytesOf (rootB x)) h.2.1 ++ (be h.2.2.1.length ++ (rowsB (fun x => bytesOf (evdB x)) h.2.2.1 ++ (be h.2.2.2.1.length ++ (rowsB be h.2.2.2.1 ++ t))))))) := by
 unfold heldB; simp only [List.append_assoc]
theorem heldP_tail {h : HeldT} (e : (imgW h).isSome = true) (hb : (heldB h).length ≤ 1000000000) (t : List UInt8) : heldP ⟨true, heldB h ++ t⟩ = some (h, ⟨true, t⟩) := by
 obtain ⟨p0, p1, p2⟩ := imgW_all e
 have p3 := imgW_shut e
 obtain ⟨l0, l1, l2, l3, l4⟩ := heldB_lens h
 unfold heldP
 rw [heldB_eq, rowP_rows (one := leafP) (enc := leafB) h.1 _ (by omega) fun x hx => leafP_reads (p0 x hx).1 (p0 x hx).2 (by have := l4 x hx; omega)]
 simp only [Option.bind_some]
 rw [rowP_rows (one := ownP) (enc := fun x => bytesOf (rootB x)) h.2.1 _ (by omega) fun x hx => ownP_reads (p1 x hx)]
 simp only [Option.bind_some]
 rw [rowP_rows (one := proofP) (enc := fun x => bytesOf (evdB x)) h.2.2.1 _ (by omega) fun x hx => proofP_reads (p2 x hx)]
 simp only [Option.bind_some]
 rw [rowP_rows (one := numP) (enc := be) h.2.2.2.1 _ (by omega) fun x hx => numP_reads (p3 x hx)]
 rfl
theorem heldP_held {h : HeldT} (e : (imgW h).isSome = true) (hb : (heldB h).length ≤ 1000000000) : heldP ⟨true, heldB h⟩ = some (h, ⟨true, []⟩) := by
 have := heldP_tail e hb []
 rwa [List.append_nil] at this
theorem imgW_tail {h h' : HeldT} {b b' : List UInt8} (e : imgW h = some b) (e' : imgW h' = some b') (hb : b'.length ≤ 1000000000) (t : List UInt8) (ht : b' = b ++ t) : t = [] := by
 have e1 := imgW_out e
 have e2 := imgW_out e'
 have l1 : b.length ≤ b'.length := by rw [ht, List.length_append]; omega
 have p1 := heldP_tail (h := h) (by rw [e]; rfl) (by rw [← e1]; omega) t
 have p2 := heldP_held (h := h') (by rw [e']; rfl) (by rw [← e2]; exact hb)
 rw [← e1, ← ht, e2, p2] at p1
 have := (Prod.mk.inj (Option.some.inj p1)).2
 exact (RS.mk.inj this).2.symm
theorem hGet_iff {b : List UInt8} (hb : b.length ≤ 1000000000) {h : HeldT} : hGet b = some h ↔ imgW h = some b := by
 unfold hGet
 constructor
 ·intro e
  obtain ⟨p, hp, e⟩ := Option.bind_eq_some_iff.1 e
  split at e
  ·rename_i c; cases e; exact c.2
  ·cases e
 ·intro e
  have e1 := imgW_out e
  rw [e1] at hb ⊢
  rw [heldP_held (by rw [e]; rfl) hb, Option.bind_some]
  simp only
  rw [if_pos ⟨rfl, by rw [← e1]; exact e⟩]
theorem hGet_self {h : HeldT} {b : List UInt8} (e : imgW h = some b) (hb : b.length ≤ 1000000000) : hGet b = some h := (hGet_iff hb).2 e
theorem hGet_cut {h : HeldT} {b : List UInt8} (e : imgW h = some b) (hb : b.length ≤ 1000000000) {k : Nat} (hk : k < b.length) : hGet (b.take k) = none := by
 cases e2 : hGet (b.take k) with
 | none => rfl
 | some h' =>
  have e3 := (hGet_iff (by rw [List.length_take]; omega)).1 e2
  have := imgW_tail e3 e hb (b.drop k) (List.take_append_drop k b).symm
  have := congrArg List.length this
  rw [List.length_drop] at this; simp at this; omega
theorem hGet_more {h : HeldT} {b t : List UInt8} (e : imgW h = some b) (hb : (b ++ t).length ≤ 1000000000) (ht : t ≠ []) : hGet (b ++ t) = none := by
 cases e2 : hGet (b ++ t) with
 | none => rfl
 | some h' => exact absurd (imgW_tail e ((hGet_iff hb).1 e2) hb t rfl) ht
theorem hGet_of {b : List UInt8} {p : HeldT × RS} (h : heldP ⟨true, b⟩ = some p) (h1 : p.2.done = true) (h2 : imgW p.1 = some b) : hGet b = some p.1 := by
 unfold hGet; rw [h, Option.bind_some, if_pos ⟨h1, h2⟩]
theorem hGet_not {b : List UInt8} {p : HeldT × RS} (h : heldP ⟨true, b⟩ = some p) (h1 : ¬(p.2.done = true ∧ imgW p.1 = some b)) : hGet b = none := by
 unfold hGet; rw [h, Option.bind_some, if_neg h1]
theorem hGet_none {b : List UInt8} (h : heldP ⟨true, b⟩ = none) : hGet b = none := by unfold hGet; rw [h]; rfl
end Go.Sp
end
section
/- Texts of this proof. -/
namespace Go.Sp
section
variable {ro : Option Nat} {P : Program} {fn : Func} {n : Nat} {R : Ending → World → Prop} {k : List Item} {σ : List (Nat × Value)} {D : List Deferred} {g : Gr} {η ζ : List SProp} {ops : Array Oper} {t e e' : TypeId} {x : Operand} {v : Value} {xs : List UInt8}
theorem Does.toE {op : Op} {η' : List SProp} {u : Value} (h : Does P op σ g η u η') : DoesE P op σ g η fun v η'' => v = u ∧ η'' = η' :=
 fun o ρ w h1 h2 h3 => let ⟨w', a, b⟩ := h o ρ w h1 h2 h3; ⟨u, w', η', ⟨rfl, rfl⟩, a, b⟩
theorem DoesE.toStrO {t2 : TypeId} (ht : P.underlying t = some (.slice e)) (he : P.underlying e = some (.int .u8)) (ht2 : P.underlying t2 = some .string) (hx : ev σ x = some v) :
  DoesE P (.convert t t2 x) σ g (OwnP Rp.u8 e' v xs :: η) fun u η' => ∃ η₁, (u = .string (str xs) ∧ η₁ = η) ∧ η' = OwnP Rp.u8 e' v xs :: η₁ :=
 DoesE.borrow fun m hm hd => Does.toE (Does.toStr (g := g.add m) ht he ht2 hx (hm.arr.right hd))
theorem ODg.toStrO {fl : Bool} {i d : Nat} {t2 : TypeId} {l : List Nat} (ho : Fires ops i n σ d (.convert t t2 x)) (hd : hdOk fl ops i l = true) (ht : P.underlying t = some (.slice e)) (he : P.underlying e = some (.int .u8)) (ht2 : P.underlying t2 = some .string) (hx : ev σ x = some v)
  (hs : Sel η (OwnP Rp.u8 e' v xs) ζ) (h : OD P fn n R ops k D g l ((d, .string (str xs)) :: σ) η) : ODx P fn n R ops k D g fl (i :: l) σ η :=
 ODx.perm hs.perm (ODg.loudE (η := OwnP Rp.u8 e' v xs :: ζ) (K := fun u η' => u = .string (str xs) ∧ η' = OwnP Rp.u8 e' v xs :: ζ) ho rfl hd
  (fun θ => (DoesE.toStrO (η := ζ ++ θ) ht he ht2 hx).imp fun _ _ ⟨_, ⟨a, b⟩, c⟩ => ⟨_, ⟨a, rfl⟩, by rw [c, b]; rfl⟩) (by rintro _ _ ⟨rfl, rfl⟩; exact ODx.perm hs.perm.symm h))
theorem OD.toStrO {i d : Nat} {t2 : TypeId} {l : List Nat} (ho : Fires ops i n σ d (.convert t t2 x)) (hd : descOk ops [i] l = true) (ht : P.underlying t = some (.slice e)) (he : P.underlying e = some (.int .u8)) (ht2 : P.underlying t2 = some .string) (hx : ev σ x = some v)
  (hs : Sel η (OwnP Rp.u8 e' v xs) ζ) (h : OD P fn n R ops k D g l ((d, .string (str xs)) :: σ) η) : OD P fn n R ops k D g (i :: l) σ η := ODg.toStrO (fl := false) ho (by simpa [hdOk] using hd) ht he ht2 hx hs h
theorem ODt.toStrO {i d : Nat} {t2 : TypeId} {l : List Nat} (ho : Fires ops i n σ d (.convert t t2 x)) (_ : true = true) (ht : P.underlying t = some (.slice e)) (he : P.underlying e = some (.int .u8)) (ht2 : P.underlying t2 = some .string) (hx : ev σ x = some v)
  (hs : Sel η (OwnP Rp.u8 e' v xs) ζ) (h : OD P fn n R ops k D g l ((d, .string (str xs)) :: σ) η) : ODx P fn n R ops k D g true (i :: l) σ η := ODg.toStrO (fl := true) ho rfl ht he ht2 hx hs h
theorem O.toStrO {i d : Nat} {t2 : TypeId} {l : List Nat} (ho : Fires ops i n σ d (.convert t t2 x)) (ht : P.underlying t = some (.slice e)) (he : P.underlying e = some (.int .u8)) (ht2 : P.underlying t2 = some .string) (hx : ev σ x = some v)
  (hs : Sel η (OwnP Rp.u8 e' v xs) ζ) (h : O ro P fn n R ops l k ((d, .string (str xs)) :: σ) D g η) : O ro P fn n R ops (i :: l) k σ D g η :=
 O.sel hs (O.opE ho (DoesE.toStrO ht he ht2 hx) (by rintro _ _ ⟨_, ⟨rfl, rfl⟩, rfl⟩; exact O.perm hs.perm.symm h))
end
end Go.Sp
end
end
end
