/- Texts of this proof, one behind the other. -/
import Derived.Test.YtodhbhanmdfdeaaGreatFc
import Derived.Test.YtodhbhanmdfdeaaGreatSpChain
import Derived.Lib.ConvBytes
import Derived.Test.YtodhbhanmdfdeaaGreatSpOpen
import Derived.Laws.Strings2
import Derived.Laws.IdiomRangeMap
import Derived.Laws.Externs
section
/- Texts of this proof, one behind the other. -/
section
/- Texts of this proof, one behind the other. -/
section
/- Texts of this proof. -/
namespace Go.Sp
def u64 (n : Int) : Nat := (n % 18446744073709551616).toNat
def beAt (n : Int) (i : Nat) : UInt8 := UInt8.ofNat (u64 n / 256 ^ i)
def be (n : Int) : List UInt8 := [beAt n 7, beAt n 6, beAt n 5, beAt n 4, beAt n 3, beAt n 2, beAt n 1, beAt n 0]
@[simp] theorem be_length (n : Int) : (be n).length = 8 := rfl
theorem u64_lt (n : Int) : u64 n < 18446744073709551616 := by unfold u64; omega
theorem wrap_u64_eq (n : Int) : IntKind.u64.wrap n = (u64 n : Int) := by
 have : IntKind.u64.wrap n = n % 18446744073709551616 := by simp [IntKind.wrap, IntKind.bits, IntKind.signed]
 rw [this]; unfold u64; omega
theorem wrap_u8_eq (n : Int) : IntKind.u8.wrap n = n % 256 := by simp [IntKind.wrap, IntKind.bits, IntKind.signed]
theorem shift_byte (n : Int) (i : Nat) (h : i < 8) (z : Int) (hz : z = 8 * (i : Int)) : IntKind.u8.wrap ((IntKind.u64.wrap n).fdiv (2 ^ min z.toNat IntKind.u64.bits)) = ((beAt n i).toNat : Int) := by
 subst hz
 have e1 : min (8 * (i : Int)).toNat IntKind.u64.bits = 8 * i := by simp [IntKind.bits]; omega
 rw [e1, wrap_u64_eq, wrap_u8_eq]
 have e2 : ((2 : Int) ^ (8 * i)) = ((256 ^ i : Nat) : Int) := by
  rw [Int.pow_mul, Int.natCast_pow]; rfl
 rw [e2]
 have e3 : ((u64 n : Nat) : Int).fdiv ((256 ^ i : Nat) : Int) = ((u64 n / 256 ^ i : Nat) : Int) := by
  rw [Int.fdiv_eq_ediv_of_nonneg _ (Int.natCast_nonneg _)]; rfl
 rw [e3]
 unfold beAt
 have : (UInt8.ofNat (u64 n / 256 ^ i)).toNat = u64 n / 256 ^ i % 256 := by simp
 rw [this]; omega
def beVal (xs : List UInt8) : Nat := xs.foldl (fun n c => n * 256 + c.toNat) 0
def s64 (n : Nat) : Int := if n < 9223372036854775808 then n else n - 18446744073709551616
theorem beVal_be (n : Int) : beVal (be n) = u64 n := by
 have h := u64_lt n
 simp only [beVal, be, List.foldl_cons, List.foldl_nil, beAt, UInt8.toNat_ofNat']
 generalize u64 n = k at h ⊢
 simp only [show (256:Nat)^7 = 72057594037927936 from rfl, show (256:Nat)^6 = 281474976710656 from rfl, show (256:Nat)^5 = 1099511627776 from rfl, show (256:Nat)^4 = 4294967296 from rfl, show (256:Nat)^3 = 16777216 from rfl, show (256:Nat)^2 = 65536 from rfl, show (256:Nat)^1 = 256 from rfl, show (256:Nat)^0 = 1 from rfl]
 omega
theorem s64_be (n : Int) (h : InI64 n) : s64 (beVal (be n)) = n := by
 rw [beVal_be]; unfold s64 u64; unfold InI64 at h; split <;> omega
def bytesOf (xs : List UInt8) : List UInt8 := be xs.length ++ xs
@[simp] theorem bytesOf_length (xs : List UInt8) : (bytesOf xs).length = 8 + xs.length := by simp [bytesOf]
end Go.Sp
end
section
/- Texts of this proof. -/
namespace Go.Sp
section
variable {P : Program} {σ : List (Nat × Value)} {g : Gr} {η ζ θ : List SProp}
theorem DoesE.append2 {t e k by_ : Nat} {z : List Value} {x y : Operand} {v u : Value} {m q : Nat} {cs news : List Value} (ht : P.underlying t = some (.slice e)) (he : elemIs P e k by_ z) (hk : 0 < k)
  (hx : ev σ x = some v) (hy : ev σ y = some u) (hs : Sel η (Own v k e m cs) ζ) (hu : Sl g.h u k q news) (h1 : ∀ c ∈ news, c.oneCell' = true) (hb : (m + q) * by_ ≤ 140737488355328) (h63 : m + q ≤ 9223372036854775807) :
  DoesE P (.call ⟨.builtin .append, #[x, y], #[t, t]⟩) σ g η fun v' η' => (η' = Own v' k e (m + q) (cs ++ news) :: ζ ∧ ∃ a cap, v = .slice a m cap ∧ v' = .slice a (m + q) cap ∧ m + q ≤ cap) ∨ η' = Own v' k e (m + q) (cs ++ news) :: Own v k e m cs :: ζ :=
 fun o ρ w ho hkn hw => by
  obtain ⟨i, zv, hi, hz, hsz, hby, hzc, hzl⟩ := he
  subst hsz hby hzc
  have hzs : zv.cells.size = i.size := by simpa using hzl
  obtain ⟨a, cap, rfl, c1, c2, c3, c4⟩ := hu
  have hw1 := hw.sel hs
  cases a with
  | none =>
   have hq : news = [] := by
    cases news with
    | nil => rfl
    | cons c r => obtain ⟨p, hp, _⟩ := c4 0 (by simp); cases hp
   subst hq
   have hq0 : q = 0 := by
    have : q * i.size = 0 := by rw [← c3]; rfl
    rcases Nat.mul_eq_zero.1 this with h | h <;> omega
   subst hq0
   have hv : ∃ a cap, v = .slice a m cap ∧ m ≤ cap := by
    obtain ⟨_, _, _, _, _, _, _, _, _, _, _, _, hA, _⟩ := hw1
    rcases hA with ⟨_, ⟨rfl, rfl⟩ | ⟨b, cap, cur, rfl, _, h1, _⟩⟩
    ·exact ⟨none, 0, rfl, Nat.le_refl _⟩
    ·exact ⟨_, cap, rfl, h1⟩
   obtain ⟨a, cp, rfl, hle⟩ := hv
   refine ⟨.slice a m cp, w, _, .inl ⟨rfl, a, cp, rfl, rfl, hle⟩, run_append_args ho ?_, by simpa using hw1⟩
   rw [hkn x _ hx, hkn y _ hy]
   cases a <;> simp [Builtin.append_, run_underlying ht, sizeOf, typeInfo, hi, Builtin.lenOf, Builtin.firstCells, storeCells, hle]
  | some a =>
   have hnews : ∀ j u, news[j]? = some u → w.cell? (a.add j) = some u := fun j u hj => by
    obtain ⟨hjl, rfl⟩ := List.getElem?_eq_some_iff.1 hj
    obtain ⟨p, hp, hc⟩ := c4 j hjl
    cases hp
    exact Fr.cell_mono hw.ground hc
   have hnx := hkn x _ hx
   have hny := hkn y _ hy
   have fresh : ∀ (old : Nat), old < m + q → cs.length = m * i.size → Holds (w.drew.alloc (.cells (cs.toArray ++ news.toArray ++ Builtin.zeroCells zv.cells (grownCap w (m + q) old e - (m + q))) e)) g
     (Own (.slice (some ⟨w.heap.size, 0, none⟩) (m + q) (grownCap w (m + q) old e)) i.size e (m + q) (cs ++ news) :: Own v i.size e m cs :: ζ) := by
    intro old ho hcl
    have hge := grownCap_ge w (m + q) old e
    have hcm := grownCap_le_maxLen w (m + q) old e (by simpa [maxLen] using h63)
    have hlen : (cs ++ news).length = (m + q) * i.size := by rw [List.length_append, hcl, c3, Nat.add_mul]
    refine ((hw1.drewN _ (Nat.le_add_right _ _)).alloc _).own hge (by simpa [maxLen] using hcm) ?_ ?_
    ·simp only [Array.size_append, List.size_toArray, size_zeroCells, hzs, hcl, c3, ← Nat.add_mul]
     congr 1
     omega
    ·simp only [Array.toList_append, List.append_assoc]
     rw [← List.append_assoc, ← hlen]
     exact List.take_left
   obtain ⟨hA, hA'⟩ : cs.length = m * i.size ∧ ((v = .slice none 0 0 ∧ m = 0) ∨ ∃ b cap cur, v = .slice (some ⟨b, 0, none⟩) m cap ∧ m ≤ cap ∧ cap ≤ 9223372036854775807 ∧ cur.size = cap * i.size ∧ cur.toList.take (m * i.size) = cs ∧
     ∃ fz, Thawed fz (cap * i.size) ∧ Holds w g (blk b (.cells cur e fz) :: ζ)) := by
    obtain ⟨p1, p2, p3, K, hd, s1, s2, k1, k2, kd, t1, t2, ⟨hl, hA⟩, hr⟩ := hw1
    refine ⟨hl, hA.imp id ?_⟩
    rintro ⟨b, cap, cur, rfl, ⟨fz, hbk, hz⟩, h1, h2, h3, h4⟩
    exact ⟨b, cap, cur, rfl, h1, h2, h3, h4, fz, hz, p1, p2, p3, K, hd, s1, s2, k1, k2, kd, t1, t2, hbk, hr⟩
   rcases hA' with ⟨rfl, rfl⟩ | ⟨b, cp, cur, rfl, h1', h2', h3', h4', fz, hfz, hwb⟩
   ·have hcs : cs = [] := List.eq_nil_of_length_eq_zero (by simpa using hA)
    subst hcs
    by_cases hq : q = 0
    ·subst hq
     have hn : news = [] := List.eq_nil_of_length_eq_zero (by simpa using c3)
     subst hn
     refine ⟨.slice none 0 0, w, _, .inl ⟨rfl, none, 0, rfl, rfl, Nat.le_refl _⟩, run_append_args ho ?_, by simpa using hw1⟩
     rw [hnx, hny]
     simp [Builtin.append_, run_underlying ht, sizeOf, typeInfo, hi, Builtin.lenOf, Builtin.firstCells, loadCells, loadCellsFrom]
    ·have hr := run_append_nil (P := P) w t o.type e i zv ht hi hz a q cap news c3 hnews (by omega) (by omega) (by have hb := hb; simp only [Nat.zero_add] at hb; omega)
     have hf := fresh 0 (by omega) (by simp)
     simp only [Nat.zero_add, List.nil_append, Array.empty_append] at hf ⊢
     exact ⟨_, _, _, .inr rfl, run_append_args ho (by rw [hnx, hny]; exact hr), hf⟩
   ·by_cases hroom : m + q ≤ cp
    ·have hfit : m * i.size + news.length ≤ cur.size := by rw [c3, h3', ← Nat.add_mul]; exact Nat.mul_le_mul_right _ hroom
     have hr := run_append_roomZ (P := P) w t o.type e i ht hi b m cp cur hwb.block (by rw [h3']; exact hfz) a q cap news c3 hnews h1 hroom hfit
     refine ⟨_, _, _, .inl ⟨rfl, _, _, rfl, rfl, hroom⟩, run_append_args ho (by rw [hnx, hny]; exact hr), hwb.setRow.ownF hfz hroom h2' ?_ ?_⟩
     ·simp only [List.size_toArray, List.length_append, List.length_take, List.length_drop, Array.length_toList]
      omega
     ·have hlen : (cs ++ news).length = (m + q) * i.size := by rw [List.length_append, hA, c3, Nat.add_mul]
      rw [h4', ← hlen]
      exact List.take_left
    ·have holds : ∀ j u, cs[j]? = some u → w.cell? ((⟨b, 0, none⟩ : Addr).add j) = some u := fun j u hj => by
      have hb0 := hwb.block
      rw [add_lit, Nat.zero_add]
      have hjl := (List.getElem?_eq_some_iff.1 hj).1
      rw [← h4', List.getElem?_take_of_lt (by omega)] at hj
      simpa [World.cell?, hb0] using hj
     have hr := run_append_grow (P := P) w t o.type e i zv ht hi hz ⟨b, 0, none⟩ m cp cs hA holds a q cap news c3 hnews (by omega) (by omega) (growslice_fits (by omega) hb)
     exact ⟨_, _, _, .inr rfl, run_append_args ho (by rw [hnx, hny]; exact hr), fresh cp (by omega) hA⟩
def Two {α : Type} (T : Rp α) (e : TypeId) (v : Value) (xs : List α) (u : Value) (ys : List α) : SProp := fun h =>
 (∃ a c, v = .slice a xs.length c ∧ u = .slice a (xs.length + ys.length) c ∧ OwnP T e u (xs ++ ys) h) ∨ Sat [OwnP T e u (xs ++ ys), OwnP T e v xs] h
theorem Two.start {α : Type} {T : Rp α} {e : TypeId} {v : Value} {xs : List α} {h : Fr} (x : OwnP T e v xs h) : Two T e v xs v [] h := by
 obtain ⟨a, c, hv⟩ := x.shape
 exact .inl ⟨a, c, hv, by simpa using hv, by simpa using x⟩
theorem OwnP.take {α : Type} {T : Rp α} {e : TypeId} {a : Option Addr} {n m c : Nat} {xs ys : List α} {h : Fr} (hn : n = xs.length) (x : OwnP T e (.slice a m c) (xs ++ ys) h) : OwnP T e (.slice a n c) xs h := by
 subst hn
 obtain ⟨css, h1, h2, h3⟩ := x
 have hl : css.length = xs.length + ys.length := by rw [h1.length]; simp
 have ht := h1.take xs.length
 rw [List.take_left'] at ht
 ·refine ⟨css.take xs.length, ht, ?_, ?_⟩
  ·rw [← h1.flat_take, List.length_take, h2, List.length_append]; exact Nat.min_eq_left (Nat.mul_le_mul_right _ (by omega))
  ·rcases h3 with ⟨h4, h5⟩ | ⟨b, cap, cur, h4, h5, h6, h7, h8, h9⟩
   ·cases h4
    simp at h5
    exact .inl ⟨by rw [h5.1]; rfl, by rw [h5.1]; rfl⟩
   ·cases h4
    refine .inr ⟨b, c, cur, rfl, h5, ?_, h7, h8, ?_⟩
    ·rw [List.length_append] at h6; omega
    ·rw [← h1.flat_take, ← h9, List.take_take, List.length_append, Nat.min_eq_left (Nat.mul_le_mul_right _ (by omega))]
 ·rfl
theorem Two.own {α : Type} {T : Rp α} {e : TypeId} {v u : Value} {xs ys : List α} {h : Fr} (x : Two T e v xs u ys h) : ∃ h' : Fr, h'.sub h ∧ OwnP T e v xs h' := by
 rcases x with ⟨a, c, rfl, rfl, x⟩ | ⟨_, _, _, _, s2, _, _, _, _, t1, _, y, _⟩
 ·exact ⟨h, Fr.sub_refl _, x.take rfl⟩
 ·exact ⟨_, Fr.sub_trans t1 s2, y⟩
theorem Two.arr {α : Type} {T : Rp α} {e : TypeId} {v u : Value} {xs ys : List α} {h : Fr} (x : Two T e v xs u ys h) : Arr T h v xs ∧ Arr T h u (xs ++ ys) := by
 rcases x with ⟨a, c, rfl, rfl, x⟩ | ⟨_, _, _, s1, s2, x, _, _, _, t1, _, y, _⟩
 ·exact ⟨(x.take rfl).arr, x.arr⟩
 ·exact ⟨y.arr.mono (Fr.sub_trans t1 s2), x.arr.mono s1⟩
theorem Two.shape {α : Type} {T : Rp α} {e : TypeId} {v u : Value} {xs ys : List α} {h : Fr} (x : Two T e v xs u ys h) : ∃ a c, u = .slice a (xs.length + ys.length) c := by
 obtain ⟨a, c, h⟩ := x.arr.2.shape
 exact ⟨a, c, by simpa using h⟩
theorem DoesE.appendTwo {α : Type} {T : Rp α} {t e by_ : Nat} {z : List Value} {x y : Operand} {v u q : Value} {xs ys zs : List α} (hT : T.Pure) (ht : P.underlying t = some (.slice e)) (he : elemIs P e T.k by_ z) (hk : 0 < T.k) (hx : ev σ x = some u) (hy : ev σ y = some q)
  (hs : Sel η (Two T e v xs u ys) ζ) (hu : Arr T g.h q zs) (hb : (xs.length + ys.length + zs.length) * by_ ≤ 140737488355328) (h63 : xs.length + ys.length + zs.length ≤ 9223372036854775807) :
  DoesE P (.call ⟨.builtin .append, #[x, y], #[t, t]⟩) σ g η fun v' η' => ∃ a c, v' = .slice a (xs.length + ys.length + zs.length) c ∧ η' = Two T e v xs v' (ys ++ zs) :: ζ := by
 intro o ρ w h1 h2 h3
 have hw := h3.sel hs
 obtain ⟨p1, p2, p3, K, hd, s1, s2, k1, k2, kd, t1, t2, htwo, hr⟩ := hw
 obtain ⟨dss, hda, hsl⟩ := hu
 have fin : ∀ {w' : World} {v' : Value}, Holds w' g (Two T e v xs v' (ys ++ zs) :: ζ) → ∃ a c, v' = .slice a (xs.length + ys.length + zs.length) c := by
  intro w' v' hh
  obtain ⟨_, _, _, _, _, _, _, _, _, _, _, _, hA, _⟩ := hh
  obtain ⟨a, c, h⟩ := hA.shape
  exact ⟨a, c, by rw [h]; simp [Nat.add_assoc]⟩
 rcases htwo with ⟨a, c, rfl, rfl, ⟨css, ha, hown⟩⟩ | ⟨m1, m2, md, r1, r2, ⟨css, ha, hown⟩, m3, m4, md', r3, r4, hv, _⟩
 ·have hw' : Holds w g (Own (.slice a (xs.length + ys.length) c) T.k e (xs ++ ys).length css.flatten :: ζ) := ⟨p1, p2, p3, K, hd, s1, s2, k1, k2, kd, t1, t2, hown, hr⟩
  obtain ⟨v', w', η', hη, hrun, hh⟩ := DoesE.append2 (g := g) ht he hk hx hy .here hsl (All2.one hda) (by rw [List.length_append]; exact hb) (by rw [List.length_append]; exact h63) o ρ w h1 h2 hw'
  rcases hη with ⟨rfl, a', cap, hv, rfl, hcap⟩ | rfl
  ·have hh' : Holds w' g (Two T e (.slice a xs.length c) xs (.slice a' ((xs ++ ys).length + zs.length) cap) (ys ++ zs) :: ζ) := hh.imp fun _ => Sat.cons_imp (fun m q => .inl ⟨a, c, rfl, by injection hv with h8 h9 h10; subst h8 h10; simp [Nat.add_assoc], by
    rw [← List.append_assoc]; exact OwnP.of (css := css ++ dss) (ha.append (hda.imp fun _ _ q => hT _ _ _ q)) (by simp [Nat.add_assoc]) (by simp) rfl m q⟩) fun _ q => q
   exact ⟨_, w', _, ⟨a', cap, by simp, rfl⟩, hrun, hh'⟩
  ·have hh' : Holds w' g (Two T e (.slice a xs.length c) xs v' (ys ++ zs) :: ζ) := by
    refine hh.imp fun m hm => ?_
    obtain ⟨n1, n2, nd, u1, u2, q1, n3, n4, nd', u3, u4, q2, q3⟩ := hm
    refine ⟨n1.add n3, n4, Fr.disj_add (Fr.disj_sub nd (Fr.sub_refl _) u4) nd', Fr.add_sub u1 (Fr.sub_trans u3 u2), Fr.sub_trans u4 u2, .inr ?_, q3⟩
    refine ⟨n1, n3, Fr.disj_sub nd (Fr.sub_refl _) u3, Fr.sub_add_left _ _, Fr.sub_add_right (Fr.disj_sub nd (Fr.sub_refl _) u3), ?_, n3, Fr.emp, Fr.disj_symm (Fr.emp_disj _), Fr.sub_refl _, Fr.emp_sub _, ?_, trivial⟩
    ·rw [← List.append_assoc]; exact OwnP.of (css := css ++ dss) (ha.append (hda.imp fun _ _ q => hT _ _ _ q)) (by simp [Nat.add_assoc]) (by simp) rfl _ q1
    ·exact OwnP.take rfl (ys := ys) (m := xs.length + ys.length) ⟨css, ha, q2⟩
   obtain ⟨a', c', hv'⟩ := fin hh'
   exact ⟨v', w', _, ⟨a', c', hv', rfl⟩, hrun, hh'⟩
 ·have hw' : Holds w g (Own u T.k e (xs ++ ys).length css.flatten :: OwnP T e v xs :: ζ) :=
   ⟨p1, p2, p3, K, hd, s1, s2, m1, m3.add k2, Fr.disj_add_right (Fr.disj_sub md (Fr.sub_refl _) r3) (Fr.disj_sub kd r1 (Fr.sub_refl _)), Fr.sub_trans r1 t1, Fr.add_sub (Fr.sub_trans r3 (Fr.sub_trans r2 t1)) t2, hown,
    m3, k2, Fr.disj_sub kd (Fr.sub_trans r3 r2) (Fr.sub_refl _), Fr.sub_add_left _ _, Fr.sub_add_right (Fr.disj_sub kd (Fr.sub_trans r3 r2) (Fr.sub_refl _)), hv, hr⟩
  obtain ⟨v', w', η', hη, hrun, hh⟩ := DoesE.append (g := g) ht he hk hx hy .here hsl (All2.one hda) (by rw [List.length_append]; exact hb) (by rw [List.length_append]; exact h63) o ρ w h1 h2 hw'
  subst hη
  have hh' : Holds w' g (Two T e v xs v' (ys ++ zs) :: ζ) := by
   refine hh.imp fun m hm => ?_
   obtain ⟨n1, n2, nd, u1, u2, q1, n3, n4, nd', u3, u4, q2, q3⟩ := hm
   refine ⟨n1.add n3, n4, Fr.disj_add (Fr.disj_sub nd (Fr.sub_refl _) u4) nd', Fr.add_sub u1 (Fr.sub_trans u3 u2), Fr.sub_trans u4 u2, .inr ?_, q3⟩
   refine ⟨n1, n3, Fr.disj_sub nd (Fr.sub_refl _) u3, Fr.sub_add_left _ _, Fr.sub_add_right (Fr.disj_sub nd (Fr.sub_refl _) u3), ?_, n3, Fr.emp, Fr.disj_symm (Fr.emp_disj _), Fr.sub_refl _, Fr.emp_sub _, q2, trivial⟩
   rw [← List.append_assoc]; exact OwnP.of (css := css ++ dss) (ha.append (hda.imp fun _ _ q => hT _ _ _ q)) (by simp [Nat.add_assoc]) (by simp) rfl _ q1
  obtain ⟨a', c', hv'⟩ := fin hh'
  exact ⟨v', w', _, ⟨a', c', hv', rfl⟩, hrun, hh'⟩
end
end Go.Sp
end
end
section
/- Texts of this proof, one behind the other. -/
section
/- Texts of this proof. -/
namespace Go.Sp
theorem EachP.len {β α : Type} {A : β → α → SProp} : ∀ {bs : List β} {as : List α} {h : Fr}, EachP A bs as h → bs.length = as.length
 | [], [], _, _ => rfl
 | [], _ :: _, _, h => h.elim
 | _ :: _, [], _, h => h.elim
 | _ :: _, _ :: _, _, h => by
  have h' : Sat [_, EachP _ _ _] _ := h
  obtain ⟨_, _, _, _, _, _, _, _, _, _, _, q, _⟩ := h'
  simp [EachP.len q]
theorem EachP.at {β α : Type} {A : β → α → SProp} : ∀ {bs : List β} {as : List α} (k : Nat) (hb : k < bs.length) (ha : k < as.length) {h : Fr}, EachP A bs as h → Sat [A bs[k] as[k], EachP A (bs.eraseIdx k) (as.eraseIdx k)] h
 | _ :: _, _ :: _, 0, _, _, _, h => h
 | b :: bs, a :: as, k + 1, hb, ha, m, h => by
  have h' : Sat [A b a, EachP A bs as] m := h
  obtain ⟨k1, k2, kd, t1, t2, p, k3, k4, kd', u1, u2, q, _⟩ := h'
  obtain ⟨n1, n2, nd, v1, v2, x, n3, n4, nd', w1, w2, y, _⟩ := EachP.at k (by simpa using hb) (by simpa using ha) q
  refine ⟨n1, k1.add n2, ?_, Fr.sub_trans v1 (Fr.sub_trans u1 t2), Fr.add_sub t1 (Fr.sub_trans v2 (Fr.sub_trans u1 t2)), x, k1.add n2, Fr.emp, Fr.disj_symm (Fr.emp_disj _), Fr.sub_refl _, Fr.emp_sub _, ?_, trivial⟩
  ·exact Fr.disj_add_right (Fr.disj_symm (Fr.disj_sub kd (Fr.sub_refl _) (Fr.sub_trans v1 u1))) nd
  ·show Sat [A b a, EachP A (bs.eraseIdx k) (as.eraseIdx k)] _
   have d : k1.disj n2 := Fr.disj_sub kd (Fr.sub_refl _) (Fr.sub_trans v2 u1)
   exact ⟨k1, n2, d, Fr.sub_add_left _ _, Fr.sub_add_right d, p, n3, Fr.emp, Fr.disj_symm (Fr.emp_disj _), w1, Fr.emp_sub _, y, trivial⟩
theorem EachP.put {β α : Type} {A : β → α → SProp} {a' : α} : ∀ {bs : List β} {as : List α} (k : Nat) (hb : k < bs.length) (_ : k < as.length) {h : Fr}, Sat [A bs[k] a', EachP A (bs.eraseIdx k) (as.eraseIdx k)] h → EachP A bs (as.set k a') h
 | _ :: _, _ :: _, 0, _, _, _, h => h
 | b :: bs, a :: as, k + 1, hb, ha, m, h => by
  obtain ⟨n1, n2, nd, v1, v2, x, n3, n4, nd', w1, w2, y, _⟩ := h
  have y' : Sat [A b a, EachP A (bs.eraseIdx k) (as.eraseIdx k)] n3 := y
  obtain ⟨k1, k2, kd, t1, t2, p, k3, k4, kd', u1, u2, q, _⟩ := y'
  show Sat [A b a, EachP A bs (as.set k a')] m
  have d1 : k1.disj n1 := Fr.disj_symm (Fr.disj_sub nd (Fr.sub_refl _) (Fr.sub_trans t1 w1))
  have d2 : n1.disj k3 := Fr.disj_sub nd (Fr.sub_refl _) (Fr.sub_trans u1 (Fr.sub_trans t2 w1))
  refine ⟨k1, n1.add k3, Fr.disj_add_right d1 (Fr.disj_sub kd (Fr.sub_refl _) u1), Fr.sub_trans t1 (Fr.sub_trans w1 v2), Fr.add_sub v1 (Fr.sub_trans u1 (Fr.sub_trans t2 (Fr.sub_trans w1 v2))), p, n1.add k3, Fr.emp, Fr.disj_symm (Fr.emp_disj _), Fr.sub_refl _, Fr.emp_sub _, ?_, trivial⟩
  exact EachP.put k (by simpa using hb) (by simpa using ha) ⟨n1, k3, d2, Fr.sub_add_left _ _, Fr.sub_add_right d2, x, k3, Fr.emp, Fr.disj_symm (Fr.emp_disj _), Fr.sub_refl _, Fr.emp_sub _, q, trivial⟩
theorem Sat.two_append {A B : SProp} {θ : List SProp} {m h1 h2 : Fr} (x : Sat [A, B] h1) (y : Sat θ h2) (d : h1.disj h2) (s1 : h1.sub m) (s2 : h2.sub m) : Sat (A :: B :: θ) m :=
 Sat.mono (Fr.add_sub s1 s2) (Sat.append (η := [A, B]) (ζ := θ) d x y)
theorem Sat.join2 {A B C : SProp} {θ : List SProp} (hs : ∀ m, Sat [A, B] m → C m) : ∀ {m : Fr}, Sat (A :: B :: θ) m → Sat (C :: θ) m := by
 rintro m ⟨h1, h2, d, s1, s2, x, k1, k2, kd, t1, t2, y, z⟩
 refine ⟨h1.add k1, k2, Fr.disj_add (Fr.disj_sub d (Fr.sub_refl _) t2) kd, Fr.add_sub s1 (Fr.sub_trans t1 s2), Fr.sub_trans t2 s2, hs _ ?_, z⟩
 have d2 : h1.disj k1 := Fr.disj_sub d (Fr.sub_refl _) t1
 exact ⟨h1, k1, d2, Fr.sub_add_left _ _, Fr.sub_add_right d2, x, k1, Fr.emp, Fr.disj_symm (Fr.emp_disj _), Fr.sub_refl _, Fr.emp_sub _, y, trivial⟩
theorem Sat.part2 {A B C : SProp} {θ : List SProp} (hs : ∀ m, C m → Sat [A, B] m) : ∀ {m : Fr}, Sat (C :: θ) m → Sat (A :: B :: θ) m := by
 rintro m ⟨h1, h2, d, s1, s2, x, y⟩
 exact Sat.two_append (hs _ x) y d s1 s2
section
variable {ro : Option Nat} {P : Program} {fn : Func} {n : Nat} {R : Ending → World → Prop} {k : List Item} {σ : List (Nat × Value)} {D : List Deferred} {g : Gr} {η ζ θ : List SProp} {ops : Array Oper} {L : List Nat} {β α : Type} {A : β → α → SProp} {todo : List Item}
theorem S.eachAt {bs : List β} {as : List α} (j : Nat) (hb : j < bs.length) (ha : j < as.length) (s : Sel η (EachP A bs as) ζ) (h : S ro P fn n R todo σ D g (A bs[j] as[j] :: EachP A (bs.eraseIdx j) (as.eraseIdx j) :: ζ)) : S ro P fn n R todo σ D g η :=
 S.sel s (S.imp' (η := EachP A bs as :: ζ) (fun _ => Sat.part2 fun _ x => EachP.at j hb ha x) h)
theorem S.eachPut {bs : List β} {as : List α} {a' : α} (j : Nat) (hb : j < bs.length) (ha : j < as.length) (s1 : Sel η (A bs[j] a') ζ) (s2 : Sel ζ (EachP A (bs.eraseIdx j) (as.eraseIdx j)) θ) (h : S ro P fn n R todo σ D g (EachP A bs (as.set j a') :: θ)) : S ro P fn n R todo σ D g η :=
 S.sel s1 (S.imp' (η := A bs[j] a' :: ζ) (fun _ x => Sat.join2 (fun _ y => EachP.put j hb ha y) (Sat.cons_imp (fun _ y => y) (fun _ y => Sat.perm s2.perm y) x)) h)
theorem S.eachPop {b : β} {a : α} {bs : List β} {as : List α} (s : Sel η (EachP A (b :: bs) (a :: as)) ζ) (h : S ro P fn n R todo σ D g (A b a :: EachP A bs as :: ζ)) : S ro P fn n R todo σ D g η :=
 S.sel s (S.imp' (η := EachP A (b :: bs) (a :: as) :: ζ) (fun _ => Sat.part2 fun _ x => x) h)
theorem S.conv {B C : SProp} (s : Sel η B ζ) (hc : ∀ m, B m → ∃ h : Fr, h.sub m ∧ C h) (h : S ro P fn n R todo σ D g (C :: ζ)) : S ro P fn n R todo σ D g η :=
 S.sel s (S.imp' (η := B :: ζ) (ζ := C :: ζ) (fun _ ⟨_, h2, d, s1, s2, x, y⟩ => let ⟨h3, u, z⟩ := hc _ x; ⟨h3, h2, Fr.disj_sub d u (Fr.sub_refl _), Fr.sub_trans u s1, s2, z, y⟩) h)
theorem S.twoStart {T : Rp α} {e : TypeId} {v : Value} {xs : List α} (s : Sel η (OwnP T e v xs) ζ) (h : S ro P fn n R todo σ D g (Two T e v xs v [] :: ζ)) : S ro P fn n R todo σ D g η := S.conv s (fun m x => ⟨m, Fr.sub_refl _, Two.start x⟩) h
theorem S.factS {B : SProp} {p : Prop} (s : Sel η B ζ) (hs : ∀ m, B m → p) (h : p → S ro P fn n R todo σ D g η) : S ro P fn n R todo σ D g η :=
 fun a w hf hd hw => by
  obtain ⟨_, _, _, _, _, _, _, _, _, _, _, _, hB, _⟩ := hw.sel s
  exact h (hs _ hB) a w hf hd hw
end
end Go.Sp
end
section
/- Texts of this proof. -/
namespace Go.Sp
section
variable {ro : Option Nat} {P : Program} {fn : Func} {n : Nat} {R : Ending → World → Prop} {k : List Item} {σ : List (Nat × Value)} {D : List Deferred} {g : Gr} {η ζ θ : List SProp} {ops : Array Oper} {L l : List Nat} {i d : Nat} {t e : TypeId} {x y z : Operand} {α : Type} {T : Rp α}
theorem S.unroll {c : Code} (h : S ro P fn n R (.code c :: .inLoop c :: k) σ D g η) : S ro P fn n R (.code (.loop c) :: k) σ D g η :=
 S.loop (fun _ : Unit => True) (fun _ => σ) (fun _ => η) (fun _ => 0) () trivial Sub.refl rfl fun _ _ _ => h
theorem Arr.cut {h : Fr} {a : Option Addr} {c m : Nat} {xs ys : List α} (hm : m = xs.length) (x : Arr T h (.slice a (xs.length + ys.length) c) (xs ++ ys)) : Arr T h (.slice a m c) xs := by
 subst hm
 obtain ⟨css, ha, a', cap, hv, h1, h2, h3, h4⟩ := x
 injection hv with e1 e2 e3; subst e1 e3
 have hl : css.length = xs.length + ys.length := by rw [ha.length]; simp
 have ht := ha.take xs.length
 rw [List.take_left' rfl] at ht
 have he : (css.take xs.length).flatten = css.flatten.take (xs.length * T.k) := (ha.flat_take _).symm
 refine ⟨css.take xs.length, ht, a, c, rfl, by rw [List.length_append] at h1; omega, ⟨h2.1, h2.2⟩, ?_, ?_⟩
 ·rw [he, List.length_take, h3, List.length_append]; exact Nat.min_eq_left (Nat.mul_le_mul_right _ (by omega))
 ·intro j hj
  have hj' : j < css.flatten.length := by rw [he, List.length_take] at hj; omega
  obtain ⟨p, hp, hc⟩ := h4 j hj'
  refine ⟨p, hp, ?_⟩
  rw [hc]; simp [he]
theorem Does.sliceTo0 {kb : IntKind} {a : Option Addr} {m c q : Nat} {zb : Int} (ht : P.underlying t = some (.slice e)) (he : (P.info? e).map (·.size) = some T.k) (hx : ev σ x = some (.slice a m c)) (hy : ev σ y = some (.int kb zb)) (hz : zb = (q : Int)) (hq : q ≤ c) :
  Does P (.slice t x none (some y) none) σ g η (.slice a q c) η :=
 fun o ρ w ho hk hw => ⟨w, by
  subst hz
  cases a <;> simp [execOp, ho, hk x _ hx, hk y _ hy, Instr.sliceAt, run_underlying ht, Instr.slice, Instr.sliceBounds, Instr.sliceBound, asIntOf, hq, run_sizeOf he, Addr.add], hw⟩
theorem O.slice0 {kb : IntKind} {a : Option Addr} {m c q : Nat} {zb : Int} (T : Rp α) (ho : Fires ops i n σ d (.slice t x none (some y) none)) (ht : P.underlying t = some (.slice e)) (he : (P.info? e).map (·.size) = some T.k) (hx : ev σ x = some (.slice a m c)) (hy : ev σ y = some (.int kb zb)) (hz : zb = (q : Int)) (hq : q ≤ c)
  (h : O ro P fn n R ops l k ((d, .slice a q c) :: σ) D g η) : O ro P fn n R ops (i :: l) k σ D g η := O.op ho (Does.sliceTo0 (T := T) ht he hx hy hz hq) h
theorem Arr.room {h : Fr} {a : Option Addr} {c m : Nat} {xs : List α} (x : Arr T h (.slice a m c) xs) : m = xs.length ∧ m ≤ c := by
 obtain ⟨_, _, a', cap, hv, h1, _⟩ := x
 cases hv; exact ⟨rfl, h1⟩
theorem OwnP.room {h : Fr} {a : Option Addr} {c m : Nat} {xs : List α} (x : OwnP T e (.slice a m c) xs h) : m = xs.length ∧ m ≤ c := x.arr.room
theorem Sel.app {η ζ θ : List SProp} {A : SProp} (s : Sel η A ζ) : Sel (η ++ θ) A (ζ ++ θ) := by
 induction s with
 | here => exact .here
 | there _ ih => exact .there ih
theorem ODg.litP {fl : Bool} {by_ len : Nat} {z : List Value} {parts : Array (Nat × Operand)} {vs : List Value} {ys : List α} (ho : Fires ops i n σ d (.buildSlice t len parts)) (hd : hdOk fl ops i l = true) (ht : P.underlying t = some (.slice e)) (he : elemIs P e T.k by_ z) (hk : 0 < T.k)
  (hp : partsOf σ parts.toList 0 = some vs) (hlen : parts.toList.length = len) (hvs : All2 (T.rel Fr.emp) (vs.map (·.cells.toList)) ys) (h24 : len * T.k ≤ 16777216)
  (h : ∀ a c, OD P fn n R ops k D g l ((d, .slice a len c) :: σ) (OwnP T e (.slice a len c) ys :: η)) : ODx P fn n R ops k D g fl (i :: l) σ η :=
 ODg.loudE (K := fun v η' => ∃ a c, v = .slice a len c ∧ η' = OwnP T e v ys :: η) ho rfl hd (fun _ => (DoesE.litP ht he hk hp hlen hvs h24).imp fun _ _ ⟨a, c, h1, h2⟩ => ⟨_, ⟨a, c, h1, rfl⟩, h2⟩)
  fun _ _ ⟨a, c, h1, h2⟩ => by subst h1; subst h2; exact h a c
theorem OD.litP {by_ len : Nat} {z : List Value} {parts : Array (Nat × Operand)} {vs : List Value} {ys : List α} (ho : Fires ops i n σ d (.buildSlice t len parts)) (hd : descOk ops [i] l = true) (ht : P.underlying t = some (.slice e)) (he : elemIs P e T.k by_ z) (hk : 0 < T.k) (hp : partsOf σ parts.toList 0 = some vs) (hlen : parts.toList.length = len) (hvs : All2 (T.rel Fr.emp) (vs.map (·.cells.toList)) ys) (h24 : len * T.k ≤ 16777216) (h : ∀ a c, OD P fn n R ops k D g l ((d, .slice a len c) :: σ) (OwnP T e (.slice a len c) ys :: η)) : OD P fn n R ops k D g (i :: l) σ η := ODg.litP (fl := false) ho (by simpa [hdOk] using hd) ht he hk hp hlen hvs h24 h
theorem ODt.litP {by_ len : Nat} {z : List Value} {parts : Array (Nat × Operand)} {vs : List Value} {ys : List α} (ho : Fires ops i n σ d (.buildSlice t len parts)) (_ : true = true) (ht : P.underlying t = some (.slice e)) (he : elemIs P e T.k by_ z) (hk : 0 < T.k) (hp : partsOf σ parts.toList 0 = some vs) (hlen : parts.toList.length = len) (hvs : All2 (T.rel Fr.emp) (vs.map (·.cells.toList)) ys) (h24 : len * T.k ≤ 16777216) (h : ∀ a c, OD P fn n R ops k D g l ((d, .slice a len c) :: σ) (OwnP T e (.slice a len c) ys :: η)) : ODx P fn n R ops k D g true (i :: l) σ η := ODg.litP (fl := true) ho rfl ht he hk hp hlen hvs h24 h
theorem ODg.appendO {fl : Bool} {by_ : Nat} {z : List Value} {v u : Value} {xs ys : List α} (ho : Fires ops i n σ d (.call ⟨.builtin .append, #[x, y], #[t, t]⟩)) (hd : hdOk fl ops i l = true) (ht : P.underlying t = some (.slice e)) (he : elemIs P e T.k by_ z) (hk : 0 < T.k) (hx : ev σ x = some v) (hy : ev σ y = some u)
  (hl : Sel η (OwnP T e u ys) θ) (hs : Sel θ (OwnP T e v xs) ζ) (hb : (xs.length + ys.length) * by_ ≤ 140737488355328) (h63 : xs.length + ys.length ≤ 9223372036854775807)
  (h : ∀ a c, OD P fn n R ops k D g l ((d, .slice a (xs.length + ys.length) c) :: σ) (OwnP T e (.slice a (xs.length + ys.length) c) (xs ++ ys) :: ζ)) : ODx P fn n R ops k D g fl (i :: l) σ η :=
 ODg.loudE (K := fun v' η' => ∃ a c, v' = .slice a (xs.length + ys.length) c ∧ η' = OwnP T e v' (xs ++ ys) :: ζ) ho rfl hd (fun _ => (DoesE.appendO ht he hk hx hy hl.app hs.app hb h63).imp fun _ _ ⟨a, c, h1, h2⟩ => ⟨_, ⟨a, c, h1, rfl⟩, h2⟩)
  fun _ _ ⟨a, c, h1, h2⟩ => by subst h1; subst h2; exact h a c
theorem OD.appendO {by_ : Nat} {z : List Value} {v u : Value} {xs ys : List α} (ho : Fires ops i n σ d (.call ⟨.builtin .append, #[x, y], #[t, t]⟩)) (hd : descOk ops [i] l = true) (ht : P.underlying t = some (.slice e)) (he : elemIs P e T.k by_ z) (hk : 0 < T.k) (hx : ev σ x = some v) (hy : ev σ y = some u) (hl : Sel η (OwnP T e u ys) θ) (hs : Sel θ (OwnP T e v xs) ζ) (hb : (xs.length + ys.length) * by_ ≤ 140737488355328) (h63 : xs.length + ys.length ≤ 9223372036854775807) (h : ∀ a c, OD P fn n R ops k D g l ((d, .slice a (xs.length + ys.length) c) :: σ) (OwnP T e (.slice a (xs.length + ys.length) c) (xs ++ ys) :: ζ)) : OD P fn n R ops k D g (i :: l) σ η := ODg.appendO (fl := false) ho (by simpa [hdOk] using hd) ht he hk hx hy hl hs hb h63 h
theorem ODg.appendP {fl : Bool} {by_ : Nat} {z : List Value} {v u : Value} {xs ys : List α} (ho : Fires ops i n σ d (.call ⟨.builtin .append, #[x, y], #[t, t]⟩)) (hd : hdOk fl ops i l = true) (hT : T.Pure) (ht : P.underlying t = some (.slice e)) (he : elemIs P e T.k by_ z) (hk : 0 < T.k) (hx : ev σ x = some v) (hy : ev σ y = some u)
  (hs : Sel η (OwnP T e v xs) ζ) (hu : Arr T g.h u ys) (hb : (xs.length + ys.length) * by_ ≤ 140737488355328) (h63 : xs.length + ys.length ≤ 9223372036854775807)
  (h : ∀ a c, OD P fn n R ops k D g l ((d, .slice a (xs.length + ys.length) c) :: σ) (OwnP T e (.slice a (xs.length + ys.length) c) (xs ++ ys) :: ζ)) : ODx P fn n R ops k D g fl (i :: l) σ η :=
 ODg.loudE (K := fun v' η' => ∃ a c, v' = .slice a (xs.length + ys.length) c ∧ η' = OwnP T e v' (xs ++ ys) :: ζ) ho rfl hd (fun _ => (DoesE.appendP hT ht he hk hx hy hs.app hu hb h63).imp fun _ _ ⟨a, c, h1, h2⟩ => ⟨_, ⟨a, c, h1, rfl⟩, h2⟩)
  fun _ _ ⟨a, c, h1, h2⟩ => by subst h1; subst h2; exact h a c
theorem OD.appendP {by_ : Nat} {z : List Value} {v u : Value} {xs ys : List α} (ho : Fires ops i n σ d (.call ⟨.builtin .append, #[x, y], #[t, t]⟩)) (hd : descOk ops [i] l = true) (hT : T.Pure) (ht : P.underlying t = some (.slice e)) (he : elemIs P e T.k by_ z) (hk : 0 < T.k) (hx : ev σ x = some v) (hy : ev σ y = some u) (hs : Sel η (OwnP T e v xs) ζ) (hu : Arr T g.h u ys) (hb : (xs.length + ys.length) * by_ ≤ 140737488355328) (h63 : xs.length + ys.length ≤ 9223372036854775807) (h : ∀ a c, OD P fn n R ops k D g l ((d, .slice a (xs.length + ys.length) c) :: σ) (OwnP T e (.slice a (xs.length + ys.length) c) (xs ++ ys) :: ζ)) : OD P fn n R ops k D g (i :: l) σ η := ODg.appendP (fl := false) ho (by simpa [hdOk] using hd) hT ht he hk hx hy hs hu hb h63 h
theorem ODg.idxOwn {v : Value} {xs : List α} {j : Nat} {kd : IntKind} (ho : Fires ops i n σ d (.indexAddr t x y)) {fl : Bool} (hd : hdOk fl ops i l = true) (ht : P.underlying t = some (.slice e)) (he : (P.info? e).map (·.size) = some T.k) (hx : ev σ x = some v) {zi : Int} (hy : ev σ y = some (.int kd zi)) (hzi : zi = (j : Int))
  (hs : Sel η (OwnP T e v xs) ζ) (hj : j < xs.length) (h : ∀ p, PtrIn v T.k j p → OD P fn n R ops k D g l ((d, .pointer (some p)) :: σ) η) : ODx P fn n R ops k D g fl (i :: l) σ η :=
 ODx.perm hs.perm (ODg.loudE (η := OwnP T e v xs :: ζ) (K := fun u η' => ∃ p, u = .pointer (some p) ∧ PtrIn v T.k j p ∧ η' = OwnP T e v xs :: ζ) ho rfl hd
  (fun _ => (DoesE.idxOwn ht he hx hy hzi Sel.here hj).imp fun _ _ ⟨p, a, b, c⟩ => ⟨_, ⟨p, a, b, rfl⟩, c⟩) fun _ _ ⟨p, a, b, c⟩ => by subst a; subst c; exact ODx.perm hs.perm.symm (h p b))
theorem OD.idxOwn {v : Value} {xs : List α} {j : Nat} {kd : IntKind} (ho : Fires ops i n σ d (.indexAddr t x y)) (hd : descOk ops [i] l = true) (ht : P.underlying t = some (.slice e)) (he : (P.info? e).map (·.size) = some T.k) (hx : ev σ x = some v) {zi : Int} (hy : ev σ y = some (.int kd zi)) (hzi : zi = (j : Int)) (hs : Sel η (OwnP T e v xs) ζ) (hj : j < xs.length) (h : ∀ p, PtrIn v T.k j p → OD P fn n R ops k D g l ((d, .pointer (some p)) :: σ) η) : OD P fn n R ops k D g (i :: l) σ η := ODg.idxOwn (fl := false) ho (by simpa [hdOk] using hd) ht he hx hy hzi hs hj h
theorem ODg.storeOwn {v u : Value} {xs : List α} {j q : Nat} {p : Addr} {a : α} (ho : opAtU ops q = some (.store t x y)) {fl : Bool} (hd : hdOk fl ops q l = true) (hsz : (P.info? t).map (·.size) = some T.k) (hx : ev σ x = some (.pointer (some p))) (hp : PtrIn v T.k j p) (hy : ev σ y = some u)
  (hs : Sel η (OwnP T e v xs) ζ) (hj : j < xs.length) (hu : T.rel Fr.emp u.cells.toList a) (h : OD P fn n R ops k D g l σ (OwnP T e v (xs.set j a) :: ζ)) : ODx P fn n R ops k D g fl (q :: l) σ η :=
 ODx.perm hs.perm (ODg.loudU (η := OwnP T e v xs :: ζ) (η' := OwnP T e v (xs.set j a) :: ζ) ho rfl hd (fun _ => .storeOwn hsz hx hp hy Sel.here hj hu) h)
theorem OD.storeOwn {v u : Value} {xs : List α} {j q : Nat} {p : Addr} {a : α} (ho : opAtU ops q = some (.store t x y)) (hd : descOk ops [q] l = true) (hsz : (P.info? t).map (·.size) = some T.k) (hx : ev σ x = some (.pointer (some p))) (hp : PtrIn v T.k j p) (hy : ev σ y = some u) (hs : Sel η (OwnP T e v xs) ζ) (hj : j < xs.length) (hu : T.rel Fr.emp u.cells.toList a) (h : OD P fn n R ops k D g l σ (OwnP T e v (xs.set j a) :: ζ)) : OD P fn n R ops k D g (q :: l) σ η := ODg.storeOwn (fl := false) ho (by simpa [hdOk] using hd) hsz hx hp hy hs hj hu h
theorem S.frzT {todo : List Item} {B : SProp} (s : Sel η B ζ) (h : ∀ g' : Gr, g.h.sub g'.h → (∃ m : Fr, B m ∧ m.sub g'.h) →
   (∀ {todo : List Item} {σ : List (Nat × Value)} {θ : List SProp}, S ro P fn n R todo σ D g (B :: θ) → S ro P fn n R todo σ D g' θ) → S ro P fn n R todo σ D g' ζ) : S ro P fn n R todo σ D g η :=
 S.sel s (S.freeze fun m hm hd => h (g.add m) (Fr.sub_add_left _ _) ⟨m, hm, Fr.sub_add_right hd⟩ fun x => S.thaw hm hd x)
theorem OD.slot {v v' : Value} (q : Nat) (hl : look σ q = some v) (h0 : v = v') (h : OD P fn n R ops k D g L ((q, v') :: σ) η) : OD P fn n R ops k D g L σ η := OD.weaken h (Sub.consE hl h0 Sub.refl)
end
theorem u8_inj {a b : UInt8} (h : (a.toNat : Int) = b.toNat) : a = b := UInt8.toNat_inj.mp (by omega)
theorem u8_toNat {a b : UInt8} (h : a = b) : (a.toNat : Int) = b.toNat := by rw [h]
end Go.Sp
end
end
end
section
/- Texts of this proof, one behind the other. -/
section
/- Texts of this proof, one behind the other. -/
section
/- Texts of this proof, one behind the other. -/
section
/- Texts of this proof. -/
namespace Go.Sp
theorem All2.len2 {α β : Type} {R : β → α → Prop} : ∀ {bs : List β} {as : List α}, All2 R bs as → bs.length = as.length
 | [], [], _ => rfl
 | [], _ :: _, h => h.elim
 | _ :: _, [], h => h.elim
 | _ :: _, _ :: _, h => congrArg Nat.succ (All2.len2 h.2)
theorem all2_cells {k : Nat} {h : Fr} : ∀ {cs : List (List Value)} {ds : List (List Value)}, All2 ((Rp.cells k).rel h) cs ds → cs = ds
 | [], [], _ => rfl
 | [], _ :: _, h => h.elim
 | _ :: _, [], h => h.elim
 | _ :: _, _ :: _, h => by rw [h.1.1, all2_cells h.2]
theorem Arr.ofCells {α : Type} {T : Rp α} {k : Nat} {h : Fr} {v : Value} {css : List (List Value)} {xs : List α} (h1 : Arr (Rp.cells k) h v css) (h2 : All2 (T.rel h) css xs) (hk : k = T.k) : Arr T h v xs := by
 obtain ⟨ds, p, q⟩ := h1
 obtain rfl := all2_cells p
 subst hk
 exact ⟨ds, h2, by rw [← h2.len2]; exact q⟩
section
variable {ro : Option Nat} {P : Program} {fn : Func} {n : Nat} {R : Ending → World → Prop} {k : List Item} {σ : List (Nat × Value)} {D : List Deferred} {g : Gr} {η ζ θ : List SProp} {ops : Array Oper} {L : List Nat} {todo : List Item}
 {α : Type} {G : Gp α} {e : TypeId} {v : Value} {xs : List α}
end
theorem Con.post {P : Program} {f : FuncId} {args : Array Value} {r : Fr} {η : List SProp} {Post Post' : Ending → List SProp → Prop} (h : Con P f args r η Post) (hp : ∀ e η', Post e η' → ∀ w g, Holds w g η' → ∃ η'', Post' e η'' ∧ Holds w g η'') : Con P f args r η Post' :=
 fun g hr w hw => (h g hr w hw).mono fun e w' ⟨η', x, y⟩ => hp e η' x w' g y
end Go.Sp
end
section
/- Texts of this proof. -/
namespace Go.Sp
def RdW {α : Type} (T : Rp α) (cs : List Value) (a : α) : SProp := fun m => T.rel m cs a
section marks
variable {α : Type} (f : Int → Int → α)
def mkL (k n : Nat) : List α := (List.range n).map fun (i : Nat) => f (k : Int) (i : Int)
@[simp] theorem mkL_length (k n : Nat) : (mkL f k n).length = n := by simp [mkL]
def mkX (k n i : Nat) : List α := (List.range i).map fun (q : Nat) => f (k : Int) ((n : Int) + (q : Int))
@[simp] theorem mkX_length (k n i : Nat) : (mkX f k n i).length = i := by simp [mkX]
def mkM (j n i : Nat) : List α := (List.range i).map fun (q : Nat) => f ((j : Int) + (n : Int)) (q : Int)
@[simp] theorem mkM_length (j n i : Nat) : (mkM f j n i).length = i := by simp [mkM]
def mkAll (ns : List Nat) (k : Nat) : List (List α) := (List.range k).map fun j => mkL f j (ns[j]?.getD 0)
@[simp] theorem mkAll_length (ns : List Nat) (k : Nat) : (mkAll f ns k).length = k := by simp [mkAll]
end marks
section
variable {ro : Option Nat} {P : Program} {fn : Func} {n : Nat} {R : Ending → World → Prop} {todo : List Item} {σ : List (Nat × Value)} {D : List Deferred} {g : Gr} {η ζ θ ξ : List SProp} {α : Type} {T : Rp α} {K : Nat} {e : TypeId} {v u : Value} {xs ys : List α}
end
end Go.Sp
end
end
section
/- Texts of this proof, one behind the other. -/
section
/- Texts of this proof, one behind the other. -/
section
/- Texts of this proof. -/
namespace Go.Sp
abbrev SEnt := List UInt8 × Value × Nat
section
variable {ro : Option Nat} {P : Program} {fn : Func} {n : Nat} {R : Ending → World → Prop} {k : List Item} {σ : List (Nat × Value)} {D : List Deferred} {g : Gr} {η ζ θ : List SProp} {ops : Array Oper} {i d : Nat} {ls : List Nat}
 {t tk te : TypeId} {x y z : Operand} {b c : Nat} {l : List SEnt} {key : List UInt8} {w : World}
end
end Go.Sp
end
section
/- Texts of this proof, one behind the other. -/
section
/- Texts of this proof. -/
namespace Go.Sp
section
variable {ro : Option Nat} {P : Program} {fn : Func} {n : Nat} {R : Ending → World → Prop} {k : List Item} {σ : List (Nat × Value)} {D : List Deferred} {g : Gr} {η ζ θ : List SProp} {ops : Array Oper} {i d : Nat} {ls : List Nat}
 {t tk te e : TypeId} {x y z : Operand} {b c : Nat} {l : List SEnt} {w : World}
def setV (cs : List UInt8) : List Value := (List.range 256).map fun i => .bool (decide (i ∈ cs.map (·.toNat)))
@[simp] theorem setV_length (cs : List UInt8) : (setV cs).length = 256 := by simp [setV]
end
end Go.Sp
end
section
/- Texts of this proof. -/
namespace Go.Sp
section
variable {ro : Option Nat} {P : Program} {fn : Func} {n : Nat} {R : Ending → World → Prop} {k : List Item} {σ : List (Nat × Value)} {D : List Deferred} {g : Gr} {η ζ θ : List SProp} {ops : Array Oper} {i d : Nat} {ls : List Nat}
 {t tk te : TypeId} {x y z : Operand} {b c : Nat} {m : SS} {key v : List UInt8} {w : World}
end
end Go.Sp
end
end
end
section
/- Texts of this proof. -/
namespace Go.Sp
variable {ro : Option Nat} {P : Program} {fn : Func} {n : Nat} {R : Ending → World → Prop} {k : List Item} {σ : List (Nat × Value)} {D : List Deferred} {g : Gr} {η : List SProp}
theorem Con.lentW {f : FuncId} {args : Array Value} {h : Fr} {bs : List SProp} {K : Value → List SProp → Prop} (con : ∀ m : Fr, Sat bs m → h.disj m → Con P f args (h.add m) η (Ret K)) :
  Con P f args h (η ++ bs) (Ret fun v η' => ∃ η₁, K v η₁ ∧ η' = η₁ ++ bs) := fun g hg w hw => by
 obtain ⟨m, hm, hd, hw'⟩ := Holds.freezeAll (η := η) (ζ := bs) hw
 have hd' : h.disj m := Fr.disj_sub hd hg (Fr.sub_refl _)
 refine (con m hm hd' (g.add m) (Fr.add_sub (Fr.sub_trans hg (Fr.sub_add_left _ _)) (Fr.sub_add_right hd)) w hw').mono fun e w' ⟨η', x, y⟩ => ⟨η' ++ bs, ?_, y.thawAll hm hd⟩
 cases e with
 | returned v => exact ⟨η', x, rfl⟩
 | panicked _ => exact x.elim
 | outgrown => exact x.elim
section
variable {ops : Array Oper} {l : List Nat} {i d : Nat} {T : TypeId} {x : Operand} {v : Value} {cs : List Value}
end
end Go.Sp
end
end
end
section
/- Texts of this proof, one behind the other. -/
section
/- Texts of this proof. -/
namespace Go.Sp
section
variable {ro : Option Nat} {P : Program} {fn : Func} {n : Nat} {R : Ending → World → Prop} {ops : Array Oper} {k : List Item} {σ : List (Nat × Value)} {D : List Deferred} {g : Gr} {η ζ θ : List SProp} {t e : TypeId} {x y : Operand}
theorem S.frzH {todo : List Item} {B : SProp} (s : Sel η B ζ) (h : ∀ g' : Gr, g.h.sub g'.h → (∃ m : Fr, B m ∧ m.sub g'.h) → (∀ {w : World} {θ : List SProp}, Holds w g' θ → Holds w g (B :: θ)) → S ro P fn n R todo σ D g' ζ) : S ro P fn n R todo σ D g η :=
 S.sel s (S.freeze fun m hm hd => h (g.add m) (Fr.sub_add_left _ _) ⟨m, hm, Fr.sub_add_right hd⟩ fun hw => hw.thaw hm hd)
theorem OD.last1 {g0 : Gr} {T : TypeId} {b i j : Nat} {cs : List Value} {v : Value} (ho : opAtU ops j = some (.store t x y)) (hl : lastOk ops j = true) (hth : ∀ w, Holds w g η → Holds w g0 ζ) (ht : flat1 P t = true) (hx : ev σ x = some (.pointer (some ⟨b, i, none⟩))) (hy : ev σ y = some v)
  (h1 : v.oneCell' = true) (hs : Sel ζ (obj b T cs) θ) (hc : i < cs.length) (h : S none P fn n R k σ D g0 (obj b T (cs.set i v) :: θ)) : OD P fn n R ops k D g [j] σ η :=
 .one rfl (.lastU ho rfl hl (fun o ρ w q1 q2 q3 => let ⟨w', a, b⟩ := DoesU.store1 ht hx hy h1 hs hc o ρ w q1 q2 (hth w q3); ⟨w', .skip, a, .inl rfl, b⟩) h)
theorem S.fold {todo : List Item} {A : SProp} {bs : List SProp} (hA : ∀ m, Sat bs m → A m) (h : S ro P fn n R todo σ D g (A :: ζ)) : S ro P fn n R todo σ D g (bs ++ ζ) :=
 S.imp' (η := bs ++ ζ) (ζ := A :: ζ) (fun m hm => by
  obtain ⟨m1, m2, d, s1, s2, x, y⟩ := Sat.split hm
  exact ⟨m1, m2, d, s1, s2, hA _ x, y⟩) h
theorem S.open {todo : List Item} {α : Type} {A : SProp} {bs : α → List SProp} (s : Sel η A ζ) (hA : ∀ m, A m → ∃ x, Sat (bs x) m) (h : ∀ x, S ro P fn n R todo σ D g (bs x ++ ζ)) : S ro P fn n R todo σ D g η :=
 S.sel s (S.entail (ζ := [fun m => ∃ x, Sat (bs x) m]) (fun m hm => ⟨m, Fr.emp, Fr.disj_symm (Fr.emp_disj _), Fr.sub_refl _, Fr.emp_sub _, hA m hm, trivial⟩) (S.exi fun x => S.entail (fun _ q => q) (h x)))
theorem S.ownIs {todo : List Item} {α : Type} {T : Rp α} {e : TypeId} {v v' : Value} {xs xs' : List α} (s : Sel η (OwnP T e v xs) ζ) (hv : v = v') (hx : xs = xs') (h : S ro P fn n R todo σ D g (OwnP T e v' xs' :: ζ)) : S ro P fn n R todo σ D g η := by
 subst hv hx; exact S.sel s h
theorem look_app (a b : List (Nat × Value)) (t : Nat) : look (a ++ b) t = match look a t with | some v => some v | none => look b t := by
 induction a with
 | nil => rfl
 | cons x a ih =>
  cases hq : x.1.beq t
  ·simp only [List.cons_append, look, hq]; exact ih
  ·simp only [List.cons_append, look, hq]
theorem Sub.app {a b σ : List (Nat × Value)} (ha : Sub a σ) (hb : Sub b σ) : Sub (a ++ b) σ := fun t v h => by
 rw [look_app] at h
 cases hq : look a t with
 | some u => rw [hq] at h; exact ha t v (by rw [hq]; exact h)
 | none => rw [hq] at h; exact hb t v h
theorem S.regionJ {α : Type} {L : List Nat} {id : Nat} (lv : α → List (Nat × Value)) (σ0 : List (Nat × Value)) (η' : α → List SProp) (_ : Sub σ0 σ) (hm : P.follows .mixedOrders = true) (hok : orderOk P n ops L = true)
  (h1 : ∀ kk, (∀ x, S none P fn n R kk (lv x ++ σ0) D g (η' x)) → OD P fn n R ops kk D g L σ η) (h2 : ∀ x, S none P fn n R k (lv x ++ σ0) D g (η' x)) : S none P fn n R (.code (.region id ops true) :: k) σ D g η :=
 S.regionD hm hok (h1 k h2)
theorem S.cut1 {ro : Option Nat} {α : Type} {i0 : Item} {kk : List Item} (φ : α → Prop) (lv : α → List (Nat × Value)) (σ0 : List (Nat × Value)) (η' : α → List SProp) (_ : Sub σ0 σ)
  (h1 : (∀ x, φ x → S ro P fn n R kk (lv x ++ σ0) D g (η' x)) → S ro P fn n R (i0 :: kk) σ D g η) (h2 : ∀ x, φ x → S ro P fn n R kk (lv x ++ σ0) D g (η' x)) : S ro P fn n R (i0 :: kk) σ D g η := h1 h2
theorem S.cut2 {ro : Option Nat} {α : Type} {i0 i1 : Item} {kk : List Item} (φ : α → Prop) (lv : α → List (Nat × Value)) (σ0 : List (Nat × Value)) (η' : α → List SProp) (_ : Sub σ0 σ)
  (h1 : (∀ x, φ x → S ro P fn n R kk (lv x ++ σ0) D g (η' x)) → S ro P fn n R (i0 :: i1 :: kk) σ D g η) (h2 : ∀ x, φ x → S ro P fn n R kk (lv x ++ σ0) D g (η' x)) : S ro P fn n R (i0 :: i1 :: kk) σ D g η := h1 h2
theorem S.cut3 {ro : Option Nat} {α : Type} {i0 i1 i2 : Item} {kk : List Item} (φ : α → Prop) (lv : α → List (Nat × Value)) (σ0 : List (Nat × Value)) (η' : α → List SProp) (_ : Sub σ0 σ)
  (h1 : (∀ x, φ x → S ro P fn n R kk (lv x ++ σ0) D g (η' x)) → S ro P fn n R (i0 :: i1 :: i2 :: kk) σ D g η) (h2 : ∀ x, φ x → S ro P fn n R kk (lv x ++ σ0) D g (η' x)) : S ro P fn n R (i0 :: i1 :: i2 :: kk) σ D g η := h1 h2
theorem DoesE.strBytesO {t2 : TypeId} {xs : List UInt8} (ht : P.underlying t = some .string) (ht2 : P.underlying t2 = some (.slice e)) (he : P.underlying e = some (.int .u8)) (hx : ev σ x = some (.string (str xs))) (hl : xs.length ≤ 9223372036854775807) :
  DoesE P (.convert t t2 x) σ g η fun u η' => ∃ a c, u = .slice a xs.length c ∧ η' = OwnP Rp.u8 e u xs :: η :=
 fun o ρ w ho hk hw => by
  have hr := Lib.run_convert_string_bytes (P := P) w t t2 e (str xs) ht ht2 he
  have ho' : (execOp ρ o).run P w = .ok (.value (.slice (some ⟨w.heap.size, 0, none⟩) (str xs).size (grownCap w (str xs).size 0 e))) (Lib.bytesWorld w e (str xs)) := by
   simp [execOp, ho, hk x _ hx, hr]
  have hge := grownCap_ge w (str xs).size 0 e
  have hcm := grownCap_le_maxLen w (str xs).size 0 e (by simpa [maxLen] using hl)
  rw [str_size] at hge hcm
  have hh : Holds (Lib.bytesWorld w e (str xs)) g (blk w.heap.size (.cells (Lib.bytesCells w e (str xs)) e ((Lib.bytesCells w e (str xs)).size, (Lib.bytesCells w e (str xs)).size + 1)) :: η) := by
   have h1 : Holds (w.drew.alloc (.cells (Lib.bytesCells w e (str xs)) e)) g (blk w.heap.size (.cells (Lib.bytesCells w e (str xs)) e) :: η) := (hw.drewN (w.drawn + 1) (Nat.le_add_right _ _)).alloc _
   refine h1.setBlock (Lib.bytesWorld_at_new w e (str xs)) ?_ rfl rfl rfl
   intro i hi
   have : w.heap.size ≠ i := fun h => hi h.symm
   simp [Lib.bytesWorld, World.freeze, Array.getElem?_modify, this]
  have hsz : (Lib.bytesCells w e (str xs)).size = grownCap w xs.length 0 e := by
   simp only [Lib.bytesCells, Array.size_append, Array.size_map, Array.size_replicate, str_size]
   simp [str]; omega
  have e1 : (xs.map (fun b => [byteV b])).flatten = xs.map byteV := by
   clear hx hl hr ho' hge hcm hh hsz
   induction xs with
   | nil => rfl
   | cons a xs ih => simp [ih]
  refine ⟨_, _, _, ⟨some ⟨w.heap.size, 0, none⟩, grownCap w xs.length 0 e, by rw [str_size], rfl⟩, ho', ?_⟩
  rw [str_size]
  refine (hh.ownF (k := 1) (m := xs.length) (cap := grownCap w xs.length 0 e) (cs := (xs.map (fun b => [byteV b])).flatten) (fun j hj h => by have h1 := h.1; simp only [hsz] at h1; omega) hge (by simpa [maxLen] using hcm) (by rw [hsz]; simp) ?_).imp fun _ =>
   Sat.cons_imp (OwnP.of (T := Rp.u8) (css := xs.map fun b => [byteV b]) (all2_map (fun _ => rfl) xs) rfl rfl rfl) fun _ q => q
  rw [e1]
  simp only [Lib.bytesCells, Nat.mul_one]
  simp [str, byteV]
theorem ODg.strBytesO {fl : Bool} {i d : Nat} {t2 : TypeId} {xs : List UInt8} {l : List Nat} (ho : Fires ops i n σ d (.convert t t2 x)) (hd : hdOk fl ops i l = true) (ht : P.underlying t = some .string) (ht2 : P.underlying t2 = some (.slice e)) (he : P.underlying e = some (.int .u8)) (hx : ev σ x = some (.string (str xs))) (hl : xs.length ≤ 9223372036854775807)
  (h : ∀ a c, OD P fn n R ops k D g l ((d, .slice a xs.length c) :: σ) (OwnP Rp.u8 e (.slice a xs.length c) xs :: η)) : ODx P fn n R ops k D g fl (i :: l) σ η :=
 ODg.loudE (K := fun u η' => ∃ a c, u = .slice a xs.length c ∧ η' = OwnP Rp.u8 e u xs :: η) ho rfl hd
  (fun ζ => (DoesE.strBytesO (η := η ++ ζ) ht ht2 he hx hl).imp fun v η' ⟨a, c, h1, h2⟩ => ⟨_, ⟨a, c, h1, rfl⟩, h2⟩) (by rintro v _ ⟨a, c, rfl, rfl⟩; exact h a c)
theorem OD.strBytesO {i d : Nat} {t2 : TypeId} {xs : List UInt8} {l : List Nat} (ho : Fires ops i n σ d (.convert t t2 x)) (hd : descOk ops [i] l = true) (ht : P.underlying t = some .string) (ht2 : P.underlying t2 = some (.slice e)) (he : P.underlying e = some (.int .u8)) (hx : ev σ x = some (.string (str xs))) (hl : xs.length ≤ 9223372036854775807)
  (h : ∀ a c, OD P fn n R ops k D g l ((d, .slice a xs.length c) :: σ) (OwnP Rp.u8 e (.slice a xs.length c) xs :: η)) : OD P fn n R ops k D g (i :: l) σ η := ODg.strBytesO (fl := false) ho (by simpa [hdOk] using hd) ht ht2 he hx hl h
theorem ODt.strBytesO {i d : Nat} {t2 : TypeId} {xs : List UInt8} {l : List Nat} (ho : Fires ops i n σ d (.convert t t2 x)) (_ : true = true) (ht : P.underlying t = some .string) (ht2 : P.underlying t2 = some (.slice e)) (he : P.underlying e = some (.int .u8)) (hx : ev σ x = some (.string (str xs))) (hl : xs.length ≤ 9223372036854775807)
  (h : ∀ a c, OD P fn n R ops k D g l ((d, .slice a xs.length c) :: σ) (OwnP Rp.u8 e (.slice a xs.length c) xs :: η)) : ODx P fn n R ops k D g true (i :: l) σ η := ODg.strBytesO (fl := true) ho rfl ht ht2 he hx hl h
end
end Go.Sp
end
section
/- Texts of this proof. -/
namespace Go.Sp
def ofBe (xs : List UInt8) : Int := s64 (beVal (xs.take 8))
def rByte (good : Bool) (rest : List UInt8) : UInt8 × List UInt8 × Bool := if good then (match rest with | [] => (0, [], true) | x :: xs => (x, xs, false)) else (0, rest, false)
def rBytes (most : Int) (good : Bool) (rest : List UInt8) : List UInt8 × List UInt8 × Bool :=
 if good then (if 8 ≤ rest.length then (if 0 ≤ ofBe rest ∧ ofBe rest ≤ most then (if (ofBe rest).toNat ≤ (rest.drop 8).length then ((rest.drop 8).take (ofBe rest).toNat, (rest.drop 8).drop (ofBe rest).toNat, false) else ([], rest.drop 8, true)) else ([], rest.drop 8, true)) else ([], rest, true)) else ([], rest, false)
namespace RS
def byte (s : RS) : UInt8 × RS := s.of (rByte s.good s.rest)
def bytes (most : Int) (s : RS) : List UInt8 × RS := s.of (rBytes most s.good s.rest)
def done (s : RS) : Bool := s.good && decide (s.rest.length = 0)
end RS
def byteP : Nat → RS → List UInt8 × RS
 | 0, s => ([], s)
 | n + 1, s => ((byteP n s).1 ++ [(byteP n s).2.byte.1], (byteP n s).2.byte.2)
@[simp] theorem byteP_length (n : Nat) (s : RS) : (byteP n s).1.length = n := by induction n <;> simp [byteP, *]
section
variable {P : Program} {f : FuncId} {args : Array Value} {r : Fr} {T b : Nat} {s : RS} {Q : Value → RS → List SProp → Prop} {w : World} {g : Gr} {η : List SProp}
end
end Go.Sp
end
end
end
