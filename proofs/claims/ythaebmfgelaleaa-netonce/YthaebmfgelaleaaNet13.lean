import Derived.Test.YthaebmfgelaleaaNet12
open Go Go.Sp
set_option maxRecDepth 100000
attribute [local irreducible] obj Own OwnP
namespace Go.Proofs.Ythaebmfgelaleaa
theorem FactNet13.elem5 : elemIs Go.Proofs.Try.prog 5 1 1 [.int .u8 0] := elemIs.mk (by kernel_rfl) rfl
theorem FactNet13.flat22 : Go.Sp.flat1 Go.Proofs.Try.prog 22 = true := by kernel_rfl
theorem FactNet13.flat3 : Go.Sp.flat1 Go.Proofs.Try.prog 3 = true := by kernel_rfl
theorem FactNet13.fld24x0 : fieldOff Go.Proofs.Try.prog 24 0 = some 0 := by kernel_rfl
theorem FactNet13.fld24x1 : fieldOff Go.Proofs.Try.prog 24 1 = some 1 := by kernel_rfl
theorem FactNet13.fld24x2 : fieldOff Go.Proofs.Try.prog 24 2 = some 2 := by kernel_rfl

/-- a byte of a number -/
def kB (z : Int) : UInt8 := UInt8.ofNat (z % 256).toNat
theorem wrapKB (z : Int) : Value.int .u8 (IntKind.u8.wrap z) = byteV (kB z) := by
  rw [byteV, wrap_u8_eq]
  have : ((kB z).toNat : Int) = z % 256 := by simp [kB]; omega
  rw [this]
def sh8 (z : Int) : Int := z.fdiv (2 ^ min (8 : Int).toNat IntKind.i64.bits)
/-- a packet, as a text -/
def pkey (p : Pkt) : List UInt8 := [kB p.1, kB (sh8 p.1), kB p.2.1, kB (sh8 p.2.1)] ++ p.2.2.1
theorem strAdd (xs ys : List UInt8) : str xs ++ str ys = str (xs ++ ys) := by
  apply ByteArray.ext
  simp [str]
theorem key_c {r : Fr} {a b : Int} {va : Value} {xs : List UInt8} (ha : Arr Rp.u8 r va xs) (hl : xs.length ≤ 140737488355328) :
    Con Go.Proofs.Try.prog 15 #[.agg #[.int .i64 a, .int .i64 b, va]] r [] (Ret fun v η => v = .string (str (pkey (a, b, xs, ()))) ∧ η = []) := by
  refine Con.of (n := 23) [.agg #[.int .i64 a, .int .i64 b, va]] rfl Go.Proofs.Try.func15 rfl rfl rfl fun g hg R hR => ?_
  have ha := ha.mono hg
  obtain ⟨a1, c1, rfl⟩ := ha.shape
  refine S.seq (S.region rfl ?_)
  refine O.opE (.p rfl) (.box (cs := [_, _, _]) rfl rfl) ?_
  rintro _ _ ⟨b1, rfl, rfl⟩
  refine O.op (.p rfl) (.as rfl) ?_
  refine O.nil ?_
  refine S.seq (S.region rfl ?_)
  refine O.op (.p rfl) (.fieldObj FactNet13.fld24x0 rfl) ?_
  refine O.op (.p rfl) (.loadObj FactNet13.flat3 rfl (by repeat (first | exact Sel.here | apply Sel.there)) rfl) ?_
  refine O.op (.p rfl) (.cvt Go.Proofs.Try.underlying3 Go.Proofs.Try.underlying5 rfl) ?_
  refine O.op (.p rfl) (.fieldObj FactNet13.fld24x0 rfl) ?_
  refine O.op (.p rfl) (.loadObj FactNet13.flat3 rfl (by repeat (first | exact Sel.here | apply Sel.there)) rfl) ?_
  refine O.op (.p rfl) (.shr rfl rfl (by omega)) ?_
  refine O.op (.p rfl) (.cvt Go.Proofs.Try.underlying3 Go.Proofs.Try.underlying5 rfl) ?_
  refine O.op (.p rfl) (.fieldObj FactNet13.fld24x1 rfl) ?_
  refine O.op (.p rfl) (.loadObj FactNet13.flat3 rfl (by repeat (first | exact Sel.here | apply Sel.there)) rfl) ?_
  refine O.op (.p rfl) (.cvt Go.Proofs.Try.underlying3 Go.Proofs.Try.underlying5 rfl) ?_
  refine O.op (.p rfl) (.fieldObj FactNet13.fld24x1 rfl) ?_
  refine O.op (.p rfl) (.loadObj FactNet13.flat3 rfl (by repeat (first | exact Sel.here | apply Sel.there)) rfl) ?_
  refine O.op (.p rfl) (.shr rfl rfl (by omega)) ?_
  refine O.op (.p rfl) (.cvt Go.Proofs.Try.underlying3 Go.Proofs.Try.underlying5 rfl) ?_
  refine O.opE (.p rfl) (.litP (T := Rp.u8) (ys := [kB a, kB (sh8 a), kB b, kB (sh8 b)]) Go.Proofs.Try.underlying22 FactNet13.elem5 (by decide) rfl rfl ⟨congrArg (fun v => [v]) (wrapKB _), congrArg (fun v => [v]) (wrapKB _), congrArg (fun v => [v]) (wrapKB _), congrArg (fun v => [v]) (wrapKB _), trivial⟩ (by decide)) ?_
  rintro v17 _ ⟨a17, c17, rfl, rfl⟩
  refine O.frzA (by repeat (first | exact Sel.here | apply Sel.there)) fun g hs hm ha17 => ?_
  replace hg := Fr.sub_trans hg hs
  replace hR := melted hR hm
  clear hs hm
  refine O.op (.p rfl) (.toStr Go.Proofs.Try.underlying22 Go.Proofs.Try.underlying5 Go.Proofs.Try.underlying9 rfl (by first | assumption | exact Arr.mono hg (by assumption) | exact Arr.left (by assumption) | exact Arr.left (Arr.mono hg (by assumption)))) ?_
  refine O.op (.p rfl) (.fieldObj FactNet13.fld24x2 rfl) ?_
  refine O.op (.p rfl) (.loadObj FactNet13.flat22 rfl (by repeat (first | exact Sel.here | apply Sel.there)) rfl) ?_
  refine O.op (.p rfl) (.toStr Go.Proofs.Try.underlying22 Go.Proofs.Try.underlying5 Go.Proofs.Try.underlying9 rfl (by first | assumption | exact Arr.mono hg (by assumption) | exact Arr.left (by assumption) | exact Arr.left (Arr.mono hg (by assumption)))) ?_
  refine O.op (.p rfl) (.addS rfl rfl (by rw [str_size, str_size]; simp; omega)) ?_
  refine O.slot 22 (v' := .string (str (pkey (a, b, xs, ())))) rfl (by exact congrArg Value.string (strAdd _ _)) ?_
  refine O.op (.p rfl) (.as rfl) ?_
  refine O.nil ?_
  refine S.ret Go.Proofs.Try.results15 rfl fun w hw => Holds.end_ hR hw ?_
  exact ⟨_, ⟨rfl, rfl⟩, by repeat (first | exact Picks.all | exact Picks.nil | (apply Picks.cons; focus (repeat (first | exact Sel.here | apply Sel.there))) | apply Picks.skip)⟩
/-- how often -/
def cnt (ls : NetM) (κ : List UInt8) : Int := (((allP ls).countP fun p => decide (pkey p = κ) : Nat) : Int)
theorem cnt_perm {ls ls' : NetM} {p : Pkt} (h : (allP ls').Perm (p :: allP ls)) (κ : List UInt8) : cnt ls' κ = cnt ls κ + if pkey p = κ then 1 else 0 := by
  unfold cnt
  rw [h.countP_eq, List.countP_cons]
  split <;> simp_all
/-- how often each one is on its way -/
def TimesK (m : List (KEnt (List UInt8))) (ls : NetM) : Prop := ∀ κ, (getK m κ).getD (.int .i64 0) = .int .i64 (cnt ls κ)
theorem TimesK.nil : TimesK [] [] := fun κ => rfl
theorem TimesK.more {m : List (KEnt (List UInt8))} {ls ls' : NetM} {p : Pkt} (o : TimesK m ls) (h : (allP ls').Perm (p :: allP ls)) (c : Nat) : TimesK (putK m c (pkey p) (.int .i64 (cnt ls (pkey p) + 1))) ls' := fun κ => by
  rw [getK_put, cnt_perm h κ]
  by_cases e : κ = pkey p
  · subst e; rw [if_pos rfl, if_pos rfl]; rfl
  · rw [if_neg e, if_neg fun q => e q.symm, Int.add_zero]; exact o κ
theorem TimesK.less {m : List (KEnt (List UInt8))} {ls ls' : NetM} {p : Pkt} (o : TimesK m ls) (h : (p :: allP ls').Perm (allP ls)) (c : Nat) : TimesK (putK m c (pkey p) (.int .i64 (cnt ls (pkey p) - 1))) ls' := fun κ => by
  have h1 := cnt_perm h.symm κ
  rw [getK_put]
  by_cases e : κ = pkey p
  · subst e; rw [if_pos rfl] at h1 ⊢; exact congrArg (Value.int .i64) (by omega)
  · rw [if_neg fun q => e q.symm, Int.add_zero] at h1; rw [if_neg e, ← h1]; exact o κ
theorem cnt_pos {ls : NetM} {p : Pkt} (h : p ∈ allP ls) : 1 ≤ cnt ls (pkey p) := by
  have : 0 < (allP ls).countP fun q => decide (pkey q = pkey p) := List.countP_pos_iff.2 ⟨p, h, by simp⟩
  unfold cnt
  omega
theorem cnt_le (ls : NetM) (κ : List UInt8) : 0 ≤ cnt ls κ ∧ cnt ls κ ≤ ((allP ls).length : Int) := by
  have : (allP ls).countP (fun q => decide (pkey q = κ)) ≤ (allP ls).length := List.countP_le_length
  unfold cnt
  omega
/-- what holds while a life goes on -/
structure OnceI (l : List DoT) (i : Nat) (ls : NetM) (m : List (KEnt (List UInt8))) : Prop where
  inv : NInv ls
  times : TimesK m ls
  room : (allP ls).length ≤ i + wL (l.take i)
theorem OnceI.nil (l : List DoT) : OnceI l 0 [] [] := ⟨.nil, .nil, by simp [allP]⟩
theorem wL_take (l : List DoT) (i : Nat) : wL (l.take i) ≤ wL l := by
  conv => rhs; rw [← List.take_append_drop i l]
  unfold wL
  rw [List.map_append, List.sum_append]; omega
theorem OnceI.small {l : List DoT} {i : Nat} {ls : NetM} {m : List (KEnt (List UInt8))} (o : OnceI l i ls m) (hi : i ≤ l.length) (hs : SmallD l) : (allP ls).length ≤ 400 ∧ ls.length ≤ 400 := by
  have h1 := o.room
  have h2 := wL_take l i
  have h3 := o.inv.len
  unfold SmallD at hs
  omega
theorem OnceI.step {l : List DoT} {i : Nat} {ls : NetM} {m : List (KEnt (List UInt8))} (o : OnceI l i ls m) (hi : i < l.length) : OnceI l (i + 1) ls m := ⟨o.inv, o.times, by
  have h1 := o.room
  rw [List.take_succ_eq_append_getElem hi, wL_snoc]
  omega⟩
theorem OnceI.len_at {ls : NetM} (k : Int × Int) : (atL ls k).length ≤ (allP ls).length := by
  have h := allP_del k ls
  have := h.length_eq
  rw [List.length_append] at this
  omega

end Go.Proofs.Ythaebmfgelaleaa
