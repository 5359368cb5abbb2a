import Derived.Test.YtodkpkmhnpmmgaaWire5
open Go Go.Sp
set_option maxRecDepth 100000
attribute [local irreducible] obj Own OwnP
namespace Go.Proofs.Ytodkpkmhnpmmgaa
theorem ofBe_be (n : Int) (h : InI64 n) (xs : List UInt8) : ofBe (be n ++ xs) = n := by
  unfold ofBe; rw [List.take_append_of_le_length (by simp), List.take_of_length_le (by simp)]; exact s64_be n h
@[simp] theorem drop8 (n : Int) (xs : List UInt8) : (be n ++ xs).drop 8 = xs := rfl
@[simp] theorem take8 (n : Int) (xs : List UInt8) : (be n ++ xs).take 8 = be n := rfl
theorem eight {xs : List UInt8} (h : 8 ≤ xs.length) : ∃ a b c d e f g i r, xs = a :: b :: c :: d :: e :: f :: g :: i :: r := by
  match xs, h with
  | a :: b :: c :: d :: e :: f :: g :: i :: r, _ => exact ⟨a, b, c, d, e, f, g, i, r, rfl⟩
theorem u64_s64 (n : Nat) (h : n < 18446744073709551616) : u64 (s64 n) = n := by unfold u64 s64; split <;> omega
theorem u8_ofNat (n : Nat) (c : UInt8) (h : n % 256 = c.toNat) : UInt8.ofNat n = c := by
  apply UInt8.toNat_inj.mp; rw [← h]; simp
theorem be_ofBe (xs : List UInt8) (h : 8 ≤ xs.length) : be (ofBe xs) = xs.take 8 := by
  obtain ⟨a, b, c, d, e, f, g, i, r, rfl⟩ := eight h
  have ha := a.toNat_lt; have hb := b.toNat_lt; have hc := c.toNat_lt; have hd := d.toNat_lt
  have he := e.toNat_lt; have hf := f.toNat_lt; have hg := g.toNat_lt; have hi := i.toNat_lt
  have hv : u64 (ofBe (a :: b :: c :: d :: e :: f :: g :: i :: r)) = ((((((a.toNat * 256 + b.toNat) * 256 + c.toNat) * 256 + d.toNat) * 256 + e.toNat) * 256 + f.toNat) * 256 + g.toNat) * 256 + i.toNat := by
    unfold ofBe; rw [u64_s64 _ (Nat.lt_of_lt_of_le (beVal_lt _ 8) (by decide))]; simp [beVal]
  simp only [be, beAt, hv, List.take_succ_cons, List.take_zero]
  simp only [show (256:Nat)^7 = 72057594037927936 from rfl, show (256:Nat)^6 = 281474976710656 from rfl, show (256:Nat)^5 = 1099511627776 from rfl, show (256:Nat)^4 = 4294967296 from rfl, show (256:Nat)^3 = 16777216 from rfl, show (256:Nat)^2 = 65536 from rfl, show (256:Nat)^1 = 256 from rfl, show (256:Nat)^0 = 1 from rfl]
  rw [u8_ofNat _ a (by omega), u8_ofNat _ b (by omega), u8_ofNat _ c (by omega), u8_ofNat _ d (by omega), u8_ofNat _ e (by omega), u8_ofNat _ f (by omega), u8_ofNat _ g (by omega), u8_ofNat _ i (by omega)]
/-- the bytes of rows and of numbers -/
def allOf (rows : List (List UInt8)) (nums : List Int) : List UInt8 := (rows.map bytesOf).flatten ++ (nums.map be).flatten
/-- while it reads: what is there is what is wanted just if what is left is -/
def Left (P : Prop) (good : Bool) (rest tail : List UInt8) : Prop := if good then (P ↔ rest = tail) else ¬ P
theorem be_inj {m n : Int} (hm : InI64 m) (hn : InI64 n) (h : be m = be n) : m = n := by rw [← s64_be m hm, ← s64_be n hn, h]
theorem Left.num {P : Prop} {good f : Bool} {rest rest' tail : List UInt8} {n z : Int} (hn : InI64 n) (h : Left P good rest (be n ++ tail)) (hr : rNum good rest = (z, rest', f)) :
    if z = n then Left P (good && !f) rest' tail else ¬ P := by
  unfold rNum at hr
  cases good with
  | false => simp at hr; obtain ⟨rfl, rfl, rfl⟩ := hr; split <;> simpa [Left] using h
  | true =>
    simp only [Left, if_true] at h hr
    by_cases h8 : 8 ≤ rest.length
    · simp only [h8, if_true, Prod.mk.injEq] at hr; obtain ⟨rfl, rfl, rfl⟩ := hr
      have e := be_ofBe rest h8
      have e2 : rest = rest.take 8 ++ rest.drop 8 := (List.take_append_drop 8 rest).symm
      split
      · rename_i hz; rw [← e, hz] at e2
        simp only [Left, Bool.not_false, Bool.and_true, if_true]; rw [h, ← hz, e]
        constructor
        · intro hh; rw [hh, List.drop_append_of_le_length (by simp; omega)]; simp
        · intro hh; rw [← hh, List.take_append_drop]
      · rename_i hz; rw [h]; intro hh; apply hz; rw [hh, ofBe_be n hn]
    · simp only [h8, if_false, Prod.mk.injEq] at hr; obtain ⟨rfl, rfl, rfl⟩ := hr
      have : ¬ P := by rw [h]; rintro rfl; simp at h8
      split <;> simpa [Left] using this
theorem Left.bytes {P : Prop} {good f : Bool} {rest rest' tail row out : List UInt8} {most : Int} (hn : InI64 row.length) (hm : (row.length : Int) ≤ most) (h : Left P good rest (bytesOf row ++ tail)) (hr : rBytes most good rest = (out, rest', f)) :
    if out = row then Left P (good && !f) rest' tail else ¬ P := by
  unfold rBytes at hr
  cases good with
  | false => simp at hr; obtain ⟨rfl, rfl, rfl⟩ := hr; split <;> simpa [Left] using h
  | true =>
    simp only [Left, if_true, bytesOf, List.append_assoc] at h hr
    have no : ∀ {q : Bool}, q = true → ¬ P → if out = row then Left P (true && !q) rest' tail else ¬ P := by
      rintro _ rfl hp; split <;> simpa [Left] using hp
    by_cases h8 : 8 ≤ rest.length
    · simp only [h8, if_true] at hr
      by_cases hb : 0 ≤ ofBe rest ∧ ofBe rest ≤ most
      · simp only [hb, and_self, if_true] at hr
        by_cases hl : (ofBe rest).toNat ≤ (rest.drop 8).length
        · simp only [hl, if_true, Prod.mk.injEq] at hr; obtain ⟨rfl, rfl, rfl⟩ := hr
          have e := be_ofBe rest h8
          have e2 : rest = rest.take 8 ++ rest.drop 8 := (List.take_append_drop 8 rest).symm
          split
          · rename_i hz
            have hlen : (ofBe rest).toNat = row.length := by rw [← hz, List.length_take]; omega
            have hz' : ofBe rest = row.length := by omega
            simp only [Left, Bool.not_false, Bool.and_true, if_true]; rw [h]
            have e3 : rest.drop 8 = row ++ (rest.drop 8).drop (ofBe rest).toNat := by rw [← hz, List.take_append_drop]
            rw [← e, hz', e3, hz'] at e2
            constructor
            · intro hh; rw [hh, ofBe_be _ hn, drop8]; simp
            · intro hh
              rw [show ((row.length : Int)).toNat = (ofBe rest).toNat from by omega, hh] at e2; exact e2
          · rename_i hz; rw [h]; intro hh; apply hz; rw [hh, ofBe_be _ hn, drop8]; simp
        · simp only [hl, if_false, Prod.mk.injEq] at hr; obtain ⟨rfl, rfl, rfl⟩ := hr
          exact no rfl (by rw [h]; rintro rfl; rw [ofBe_be _ hn] at hl; simp at hl)
      · rw [if_neg hb] at hr; simp only [Prod.mk.injEq] at hr; obtain ⟨rfl, rfl, rfl⟩ := hr
        exact no rfl (by rw [h]; rintro rfl; rw [ofBe_be _ hn] at hb; omega)
    · simp only [h8, if_false, Prod.mk.injEq] at hr; obtain ⟨rfl, rfl, rfl⟩ := hr
      exact no rfl (by rw [h]; rintro rfl; simp at h8)

theorem rBytes_len (most : Int) (good : Bool) (rest : List UInt8) : (rBytes most good rest).2.1.length ≤ rest.length := by
  unfold rBytes; repeat' split
  all_goals simp <;> omega
theorem rNum_len (good : Bool) (rest : List UInt8) : (rNum good rest).2.1.length ≤ rest.length := by
  unfold rNum; repeat' split
  all_goals simp
theorem allOf_row (rows : List (List UInt8)) (nums : List Int) (i : Nat) (h : i < rows.length) : allOf (rows.drop i) nums = bytesOf rows[i] ++ allOf (rows.drop (i + 1)) nums := by
  unfold allOf; rw [List.drop_eq_getElem_cons h]; simp only [List.map_cons, List.flatten_cons, List.append_assoc]
theorem allOf_num (nums : List Int) (i : Nat) (h : i < nums.length) : allOf [] (nums.drop i) = be nums[i] ++ allOf [] (nums.drop (i + 1)) := by
  unfold allOf; rw [List.drop_eq_getElem_cons h]; simp only [List.map_cons, List.flatten_cons, List.append_assoc, List.map_nil, List.flatten_nil, List.nil_append]
theorem Left.no {P : Prop} [Decidable P] (h : ¬ P) : false = decide P := by simp [h]
theorem Left.done {P : Prop} [Decidable P] {bad : Bool} {rest : List UInt8} (h : Left P (!bad) rest []) : decide ((true && !bad) = true ∧ rest = []) = decide P := by
  cases bad <;> simp [Left] at h ⊢ <;> simp [h]

theorem reads_c {r : Fr} {va vr vn : Value} {xs : List UInt8} {rows : List (List UInt8)} {nums : List Int} (ha : Arr Rp.u8 r va xs) (hr : Arr (Rp.slice Rp.u8) r vr rows) (hn : Arr Rp.i64 r vn nums)
    (hl : xs.length ≤ 140737488355328) (hq : ∀ x ∈ rows, x.length ≤ 140737488355328) : Con Go.Proofs.Try.prog 10 #[va, vr, vn] r [] (Ret fun v η => v = .bool (decide (xs = allOf rows nums)) ∧ η = []) := by
  refine Con.of (n := 51) [va, vr, vn] rfl Go.Proofs.Try.func10 rfl rfl rfl fun g hg R hR => ?_
  have ha := ha.mono hg
  have hr := hr.mono hg
  have hn := hn.mono hg
  have hbr := hr.bound
  have hbn := hn.bound
  obtain ⟨a1, c1, rfl⟩ := ha.shape
  obtain ⟨a2, c2, rfl⟩ := hr.shape
  obtain ⟨a3, c3, rfl⟩ := hn.shape
  refine S.seq (S.region rfl ?_)
  refine O.op (.p rfl) (.as rfl) ?_
  refine O.nil ?_
  refine S.seq (S.region rfl ?_)
  refine O.op (.p rfl) (.mv rfl) ?_
  refine O.call0 (.p rfl) rfl Fact.ok19 rfl rfl (wNewReader_c (by first | assumption | exact Arr.mono hg (by assumption) | exact Arr.left (by assumption) | exact Arr.left (Arr.mono hg (by assumption))) (by first | omega | (simp; done) | (simp; omega) | decide)) ?_
  rintro v12 _ ⟨b12, a12, c12, rfl, rfl⟩
  try simp only [List.cons_append, List.nil_append, List.append_nil]
  refine O.frzA (by repeat (first | exact Sel.here | apply Sel.there)) fun g hs hm ha12 => ?_
  replace hg := Fr.sub_trans hg hs
  replace hR := melted hR hm
  try replace ha := ha.mono hs
  try replace hr := hr.mono hs
  try replace hn := hn.mono hs
  clear hs hm
  refine O.op (.p rfl) (.as rfl) ?_
  refine O.nil ?_
  refine S.seq (S.seq (S.region rfl ?_))
  refine O.op (.p rfl) (.as rfl) ?_
  refine O.nil ?_
  refine S.block ?_
  refine S.loopK4 (ι := Nat) (κ := Value) (υ := Bool) (τ := List UInt8) (fun i v bad rest => i ≤ rows.length ∧ Arr Rp.u8 g.h v rest ∧ rest.length ≤ xs.length ∧ Left (xs = allOf rows nums) (!bad) rest (allOf (rows.drop i) nums)) (fun i v bad rest => [(8, .int .i64 (i : Int))]) [(1, _), (2, _), (7, _)] (fun i v bad rest => [obj b12 36 [v, .bool true, .bool bad]]) (fun i v bad rest => rows.length - i) (0) (.slice a12 xs.length c12) (false) (xs) (by exact ⟨by simp, ha12, by simp, by simp [Left]⟩) (.cons rfl (.nil)) (.cons rfl (.cons rfl (.cons rfl (.nil)))) rfl fun i v bad rest hx ih => ?_
  have hm1 := meltRefl (g := g)
  obtain ⟨hx1, hv, hle, hx⟩ := hx
  refine S.seq (S.seq (S.region rfl ?_))
  refine O.op (.p rfl) (.mv rfl) ?_
  refine O.op (.p rfl) (.mv rfl) ?_
  refine O.op (.p rfl) (.len rfl Go.Proofs.Try.underlying22 rfl) ?_
  refine O.op (.p rfl) (.lss rfl rfl) ?_
  refine O.nil ?_
  first | refine S.condD rfl (fun h16 => ?_) (fun h16 => ?_) | refine S.condB rfl (fun h16 => ?_) (fun h16 => ?_)
  · have hi : i < rows.length := by omega
    have hrow := hq rows[i] (List.getElem_mem hi)
    have b1 := Int.tmod_lt_of_pos (i : Int) (show (0 : Int) < 3 by omega)
    have b2 : 0 ≤ (i : Int).tmod 3 := Int.tmod_nonneg _ (by omega)
    obtain ⟨out, rest', f, hE⟩ : ∃ out rest' f, rBytes ((rows[i].length : Int) + (i : Int).tmod 3) (true && !bad) rest = (out, rest', f) := ⟨_, _, _, rfl⟩
    have hle' : rest'.length ≤ rest.length := by have := rBytes_len ((rows[i].length : Int) + (i : Int).tmod 3) (true && !bad) rest; rw [hE] at this; exact this
    rw [allOf_row _ _ _ hi] at hx
    have step := hx.bytes (f := f) (most := (rows[i].length : Int) + (i : Int).tmod 3) (by unfold InI64; omega) (by omega) (by simpa using hE)
    refine S.skip (S.seq (S.block (S.seq (S.region rfl ?_))))
    refine O.op (.p rfl) (.mv rfl) ?_
    refine O.op (.p rfl) (.mv rfl) ?_
    refine O.op (.p rfl) (.mv rfl) ?_
    refine O.idx' (.p rfl) Go.Proofs.Try.underlying22 Fact.size25 rfl rfl rfl (by first | assumption | exact Arr.mono hg (by assumption) | exact Arr.left (by assumption) | exact Arr.left (Arr.mono hg (by assumption))) (by decide) (by first | omega | (simp; done) | (simp; omega) | decide) (fun p22 cs22 hp22 hr22 => ?_)
    obtain ⟨v22, rfl, ha22⟩ := hr22
    obtain ⟨a22, c22, rfl⟩ := ha22.shape
    refine O.op (.p rfl) (.loadAt Fact.flat25 rfl hp22 rfl) ?_
    refine O.op (.p rfl) (.len rfl Go.Proofs.Try.underlying25 rfl) ?_
    refine O.op (.p rfl) (.mv rfl) ?_
    refine O.op (.p rfl) (.rem rfl rfl (by omega)) ?_
    refine O.op (.p rfl) (.add rfl rfl (IntWalk.i64_in _ (by omega))) ?_
    refine O.callS (.p rfl) rfl Fact.ok15 rfl rfl (by repeat (first | exact Sel.here | apply Sel.there)) (rBytes_e _ (by first | assumption | exact Arr.mono hg (by assumption) | exact Arr.left (by assumption) | exact Arr.left (Arr.mono hg (by assumption))) (by omega) hE rfl) ?_
    rintro v28 _ ⟨a28, c28, v28', rfl, ha28', rfl⟩
    try simp only [List.cons_append, List.nil_append, List.append_nil]
    have hk28 := ha28'
    refine O.frzA (by repeat (first | exact Sel.here | apply Sel.there)) fun g hs hm ha28 => ?_
    replace hg := Fr.sub_trans hg hs
    replace hR := melted hR hm
    try replace ha := ha.mono hs
    try replace hr := hr.mono hs
    try replace hn := hn.mono hs
    try replace ha12 := ha12.mono hs
    try replace hp22 := hp22.mono hs
    try replace ha22 := ha22.mono hs
    try replace ha28' := ha28'.mono hs
    replace hm1 := meltTrans hm1 hm
    clear hs hm
    refine O.op (.p rfl) (.as rfl) ?_
    refine O.nil ?_
    refine S.seq (S.region rfl ?_)
    refine O.op (.p rfl) (.mv rfl) ?_
    refine O.op (.p rfl) (.mv rfl) ?_
    refine O.op (.p rfl) (.mv rfl) ?_
    refine O.idx' (.p rfl) Go.Proofs.Try.underlying22 Fact.size25 rfl rfl rfl (by first | assumption | exact Arr.mono hg (by assumption) | exact Arr.left (by assumption) | exact Arr.left (Arr.mono hg (by assumption))) (by decide) (by first | omega | (simp; done) | (simp; omega) | decide) (fun p32 cs32 hp32 hr32 => ?_)
    obtain ⟨v32, rfl, ha32⟩ := hr32
    obtain ⟨a32, c32, rfl⟩ := ha32.shape
    refine O.op (.p rfl) (.loadAt Fact.flat25 rfl hp32 rfl) ?_
    refine O.call0 (.p rfl) rfl Fact.ok21 rfl rfl (SameBytes_c (by first | assumption | exact Arr.mono hg (by assumption) | exact Arr.left (by assumption) | exact Arr.left (Arr.mono hg (by assumption))) (by first | assumption | exact Arr.mono hg (by assumption) | exact Arr.left (by assumption) | exact Arr.left (Arr.mono hg (by assumption)))) ?_
    rintro v34 _ ⟨rfl, rfl⟩
    try simp only [List.cons_append, List.nil_append, List.append_nil]
    refine O.op (.p rfl) ((by first | exact .notD rfl | exact .not rfl)) ?_
    refine O.nil ?_
    first | refine S.condD rfl (fun h35 => ?_) (fun h35 => ?_) | refine S.condB rfl (fun h35 => ?_) (fun h35 => ?_)
    · rw [if_neg (by assumption)] at step
      refine S.seq (S.region rfl ?_)
      refine O.op (.p rfl) (.as rfl) ?_
      refine O.nil ?_
      refine S.ret Go.Proofs.Try.results10 rfl fun w hw => Holds.end_ hR hw ?_
      exact ⟨_, ⟨by rw [Left.no step], rfl⟩, by repeat (first | exact Picks.all | exact Picks.nil | (apply Picks.cons; focus (repeat (first | exact Sel.here | apply Sel.there))) | apply Picks.skip)⟩
    · rw [if_pos (Decidable.not_not.mp (by assumption))] at step
      refine S.skip (S.inBlock (S.region rfl ?_))
      refine O.op (.p rfl) (.mv rfl) ?_
      refine O.op (.p rfl) (.add rfl rfl (IntWalk.i64_in _ (by omega))) ?_
      refine O.op (.p rfl) (.as rfl) ?_
      refine O.nil ?_
      refine S.pk ?_ (S.melt hm1 (S.weaken ?_ (ih (i + 1) (v28') ((or bad f)) (rest') (by exact ⟨by omega, hk28, by omega, by simpa [Bool.not_or] using step⟩) (by omega))))
      · repeat (first | exact Picks.all | exact Picks.nil | (apply Picks.cons; focus (repeat (first | exact Sel.here | apply Sel.there))) | apply Picks.skip)
      repeat (first | exact Sub.nil | refine Sub.cons rfl ?_)
  · have hi : i = rows.length := by omega
    subst hi
    rw [List.drop_length] at hx
    refine S.exit rfl ?_
    refine S.seq (S.seq (S.region rfl ?_))
    refine O.op (.p rfl) (.as rfl) ?_
    refine O.nil ?_
    refine S.block ?_
    refine S.loopK4 (ι := Nat) (κ := Value) (υ := Bool) (τ := List UInt8) (fun i v bad rest => i ≤ nums.length ∧ Arr Rp.u8 g.h v rest ∧ Left (xs = allOf rows nums) (!bad) rest (allOf [] (nums.drop i))) (fun i v bad rest => [(10, .int .i64 (i : Int))]) [(2, _), (7, _)] (fun i v bad rest => [obj b12 36 [v, .bool true, .bool bad]]) (fun i v bad rest => nums.length - i) (0) (v) (bad) (rest) (by exact ⟨by simp, hv, by simpa using hx⟩) (.cons rfl (.nil)) (.cons rfl (.cons rfl (.nil))) rfl fun i v bad rest hx ih => ?_
    have hm2 := meltRefl (g := g)
    obtain ⟨hx1, hv, hx⟩ := hx
    refine S.seq (S.seq (S.region rfl ?_))
    refine O.op (.p rfl) (.mv rfl) ?_
    refine O.op (.p rfl) (.mv rfl) ?_
    refine O.op (.p rfl) (.len rfl Go.Proofs.Try.underlying23 rfl) ?_
    refine O.op (.p rfl) (.lss rfl rfl) ?_
    refine O.nil ?_
    first | refine S.condD rfl (fun h39 => ?_) (fun h39 => ?_) | refine S.condB rfl (fun h39 => ?_) (fun h39 => ?_)
    · have hi : i < nums.length := by omega
      obtain ⟨z, rest', f, hE⟩ : ∃ z rest' f, rNum (true && !bad) rest = (z, rest', f) := ⟨_, _, _, rfl⟩
      rw [allOf_num _ _ hi] at hx
      refine S.skip (S.seq (S.block (S.seq (S.regionD (L := [0, 2, 3, 4, 5, 1, 6]) Fact.mixed (by kernel_rfl) ?_))))
      refine .quiet (.p rfl) rfl (fun _ => .mv rfl) ?_
      refine .quiet (.p rfl) rfl (fun _ => .mv rfl) ?_
      refine .quiet (.p rfl) rfl (fun _ => .mv rfl) ?_
      refine OD.idx' (.p rfl) Go.Proofs.Try.underlying23 Fact.size3 rfl rfl rfl (by first | assumption | exact Arr.mono hg (by assumption) | exact Arr.left (by assumption) | exact Arr.left (Arr.mono hg (by assumption))) (by decide) (by first | omega | (simp; done) | (simp; omega) | decide) (fun p46 cs46 hp46 hr46 => ?_)
      obtain ⟨rfl, hz46⟩ := hr46
      refine .quiet (.p rfl) rfl (fun _ => .loadAt Fact.flat3 rfl hp46 rfl) ?_
      refine OD.callS (.p rfl) (by kernel_rfl) rfl Fact.ok14 rfl rfl (by repeat (first | exact Sel.here | apply Sel.there)) (rNumber_e (by first | assumption | exact Arr.mono hg (by assumption) | exact Arr.left (by assumption) | exact Arr.left (Arr.mono hg (by assumption))) hE rfl) ?_
      rintro v43 _ ⟨v43', rfl, ha43', rfl⟩
      try simp only [List.cons_append, List.nil_append, List.append_nil]
      refine .quiet (.p rfl) rfl (fun _ => .neq rfl rfl) ?_
      refine .nil ?_
      first | refine S.condD rfl (fun h48 => ?_) (fun h48 => ?_) | refine S.condB rfl (fun h48 => ?_) (fun h48 => ?_)
      · have step := hx.num (f := f) hz46 (by simpa using hE)
        rw [if_neg (by assumption)] at step
        refine S.seq (S.region rfl ?_)
        refine O.op (.p rfl) (.as rfl) ?_
        refine O.nil ?_
        refine S.ret Go.Proofs.Try.results10 rfl fun w hw => Holds.end_ hR hw ?_
        exact ⟨_, ⟨by rw [Left.no step], rfl⟩, by repeat (first | exact Picks.all | exact Picks.nil | (apply Picks.cons; focus (repeat (first | exact Sel.here | apply Sel.there))) | apply Picks.skip)⟩
      · have step := hx.num (f := f) hz46 (by simpa using hE)
        rw [if_pos (by omega)] at step
        refine S.skip (S.inBlock (S.region rfl ?_))
        refine O.op (.p rfl) (.mv rfl) ?_
        refine O.op (.p rfl) (.add rfl rfl (IntWalk.i64_in _ (by omega))) ?_
        refine O.op (.p rfl) (.as rfl) ?_
        refine O.nil ?_
        refine S.pk ?_ (S.weaken ?_ (ih (i + 1) (v43') ((or bad f)) (rest') (by exact ⟨by omega, (by first | assumption | exact Arr.mono hg (by assumption) | exact Arr.left (by assumption) | exact Arr.left (Arr.mono hg (by assumption))), by simpa [Bool.not_or] using step⟩) (by omega)))
        · repeat (first | exact Picks.all | exact Picks.nil | (apply Picks.cons; focus (repeat (first | exact Sel.here | apply Sel.there))) | apply Picks.skip)
        repeat (first | exact Sub.nil | refine Sub.cons rfl ?_)
    · have hi : i = nums.length := by omega
      subst hi
      rw [List.drop_length] at hx
      refine S.exit rfl ?_
      refine S.seq (S.region rfl ?_)
      refine O.op (.p rfl) (.mv rfl) ?_
      refine O.callS (.p rfl) rfl Fact.ok18 rfl rfl (by repeat (first | exact Sel.here | apply Sel.there)) (rDone_c (by first | assumption | exact Arr.mono hg (by assumption) | exact Arr.left (by assumption) | exact Arr.left (Arr.mono hg (by assumption)))) ?_
      rintro v50 _ ⟨rfl, rfl⟩
      try simp only [List.cons_append, List.nil_append, List.append_nil]
      refine O.op (.p rfl) (.as rfl) ?_
      refine O.nil ?_
      refine S.ret Go.Proofs.Try.results10 rfl fun w hw => Holds.end_ hR hw ?_
      exact ⟨_, ⟨by rw [Left.done hx], rfl⟩, by repeat (first | exact Picks.all | exact Picks.nil | (apply Picks.cons; focus (repeat (first | exact Sel.here | apply Sel.there))) | apply Picks.skip)⟩

end Go.Proofs.Ytodkpkmhnpmmgaa
