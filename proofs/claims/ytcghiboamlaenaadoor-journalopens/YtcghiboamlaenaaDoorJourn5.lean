import Derived.Test.YtcghiboamlaenaaDoorJourn4
import Derived.Test.YtcghiboamlaenaaDoorCopyb
import Derived.Test.YtcghiboamlaenaaDoorSpZero
open Go Go.Sp
set_option maxRecDepth 100000
attribute [local irreducible] obj Own OwnP
namespace Go.Proofs.YtcghiboamlaenaaDoor
theorem FactJourn5.elem25 : elemIs Go.Proofs.Tryd.prog 25 2 32 [.int .u8 0, .slice none 0 0] := elemIs.mk (by kernel_rfl) rfl
theorem FactJourn5.elem5 : elemIs Go.Proofs.Tryd.prog 5 1 1 [.int .u8 0] := elemIs.mk (by kernel_rfl) rfl
theorem FactJourn5.flat5 : Go.Sp.flat1 Go.Proofs.Tryd.prog 5 = true := by kernel_rfl
theorem FactJourn5.mixed : Go.Proofs.Tryd.prog.follows .mixedOrders = true := by kernel_rfl
theorem FactJourn5.ok15 : callable Go.Proofs.Tryd.prog 15 = true := by kernel_rfl
theorem FactJourn5.ok16 : callable Go.Proofs.Tryd.prog 16 = true := by kernel_rfl
theorem FactJourn5.ok24 : callable Go.Proofs.Tryd.prog 24 = true := by kernel_rfl
theorem FactJourn5.ok26 : callable Go.Proofs.Tryd.prog 26 = true := by kernel_rfl
theorem FactJourn5.ok31 : callable Go.Proofs.Tryd.prog 31 = true := by kernel_rfl
theorem FactJourn5.size5 : (Go.Proofs.Tryd.prog.info? 5).map (·.size) = some 1 := by kernel_rfl

theorem ofBe_be (n : Int) (h : InI64 n) (xs : List UInt8) : ofBe (be n ++ xs) = n := by
  unfold ofBe; rw [List.take_append_of_le_length (by simp), List.take_of_length_le (by simp)]; exact s64_be n h
@[simp] theorem drop8 (n : Int) (xs : List UInt8) : (be n ++ xs).drop 8 = xs := rfl
@[simp] theorem take8 (n : Int) (xs : List UInt8) : (be n ++ xs).take 8 = be n := rfl
theorem putErr_ok {k : UInt8} {xs : List UInt8} (h : putErr k xs = 0) : (1 ≤ (k.toNat : Int) ∧ (k.toNat : Int) ≤ 4) ∧ xs.length ≤ 262144 := by
  unfold putErr at h
  split at h
  · cases h
  · split at h
    · cases h
    · omega
theorem in64_len {n : Nat} (h : n ≤ 262144) : InI64 (1 + (n : Int)) := ⟨by omega, by omega⟩
/-- an entry that is whole is scanned -/
theorem scan_put {k : UInt8} {xs rest : List UInt8} (h : putErr k xs = 0) : scanOne (putBytes k xs ++ rest) = .ok (k, xs) := by
  obtain ⟨_, hl⟩ := putErr_ok h
  have ho : ofBe (putBytes k xs ++ rest) = 1 + (xs.length : Int) := by
    unfold putBytes; rw [List.append_assoc, List.append_assoc, List.append_assoc]; exact ofBe_be _ (in64_len hl) _
  have hlen := putBytes_length k xs
  have e1 : (putBytes k xs ++ rest).getD 8 0 = k := by
    simp [putBytes, List.getD_eq_getElem?_getD]; rfl
  have e2 : ((putBytes k xs ++ rest).take (8 + (ofBe (putBytes k xs ++ rest)).toNat)).drop 9 = xs := by
    rw [ho]
    have : 8 + (1 + (xs.length : Int)).toNat = ((be (1 + (xs.length : Int)) ++ [k]) ++ xs).length := by simp; omega
    have e : putBytes k xs ++ rest = ((be (1 + (xs.length : Int)) ++ [k]) ++ xs) ++ (be (sumN ((be (1 + (xs.length : Int)) ++ [k]) ++ xs)) ++ rest) := by unfold putBytes; rw [List.append_assoc]
    rw [this, e, List.take_left]
    rfl
  have e3 : (putBytes k xs ++ rest).take (16 + (ofBe (putBytes k xs ++ rest)).toNat) = putBytes k xs := by
    rw [ho]
    have : 16 + (1 + (xs.length : Int)).toNat = (putBytes k xs).length := by rw [hlen]; omega
    rw [this, List.take_left]
  have := scan_ok (rest := putBytes k xs ++ rest) (by rw [List.length_append]; omega) (by rw [ho]; omega) (by rw [ho, List.length_append]; omega) (by rw [e1, e2, e3]; exact ⟨h, by simp [putOut, h]⟩)
  rw [this, e1, e2]
/-- one that is cut is none -/
theorem scan_torn {k : UInt8} {xs : List UInt8} (h : putErr k xs = 0) (t : Nat) (ht : t < (putBytes k xs).length) : scanOne ((putBytes k xs).take t) = .error false := by
  obtain ⟨_, hl⟩ := putErr_ok h
  have hlen := putBytes_length k xs
  have hlt : ((putBytes k xs).take t).length = t := by rw [List.length_take]; omega
  by_cases h8 : t < 8
  · exact scan_short (by omega)
  · have ho : ofBe ((putBytes k xs).take t) = 1 + (xs.length : Int) := by
      have : (putBytes k xs).take t = be (1 + (xs.length : Int)) ++ (([k] ++ xs ++ be (sumN ((be (1 + (xs.length : Int)) ++ [k]) ++ xs))).take (t - 8)) := by
        unfold putBytes
        rw [List.append_assoc, List.append_assoc, List.take_append, List.take_of_length_le (by simp; omega)]
        simp
      rw [this]; exact ofBe_be _ (in64_len hl) _
    exact scan_cut (by omega) (by rw [ho]; omega) (by rw [ho, hlt]; omega)
/-- bytes of entries, one behind the other -/
def flatE (es : List Ent) : List UInt8 := (es.map fun e => putBytes e.1 e.2.1).flatten
theorem flatE_cons (e : Ent) (es : List Ent) : flatE (e :: es) = putBytes e.1 e.2.1 ++ flatE es := by simp [flatE]
theorem flatE_snoc (es : List Ent) (e : Ent) : flatE (es ++ [e]) = flatE es ++ putBytes e.1 e.2.1 := by simp [flatE]
theorem scanM_flat : ∀ {es : List Ent}, (∀ e ∈ es, putErr e.1 e.2.1 = 0) → scanM (flatE es) = (es, (flatE es).length, false)
  | [], _ => scanM_nil
  | (k, xs, ()) :: es, h => by
    have ih := scanM_flat (es := es) fun e he => h e (List.mem_cons_of_mem _ he)
    rw [flatE_cons, scanM_ok (scan_put (h _ (List.mem_cons_self ..)))]
    simp [ih]
/-- how many of these are whole in the first t bytes -/
def whole : List Ent → Nat → Nat
  | [], _ => 0
  | e :: es, t => if (putBytes e.1 e.2.1).length ≤ t then whole es (t - (putBytes e.1 e.2.1).length) + 1 else 0
theorem scanM_torn : ∀ {es : List Ent} (t : Nat), t ≤ (flatE es).length → (∀ e ∈ es, putErr e.1 e.2.1 = 0) → scanM ((flatE es).take t) = (es.take (whole es t), (flatE (es.take (whole es t))).length, false)
  | [], t, _, _ => by simp [flatE, whole, scanM_nil]
  | (k, xs, ()) :: es, t, ht, h => by
    rw [flatE_cons] at ht ⊢
    rw [List.length_append] at ht
    unfold whole
    have h0 := h _ (List.mem_cons_self ..)
    split
    · rename_i hle
      have ih := scanM_torn (es := es) (t - (putBytes k xs).length) (by simp only at hle ht; omega) fun e he => h e (List.mem_cons_of_mem _ he)
      rw [List.take_append, List.take_of_length_le hle, scanM_ok (scan_put h0)]
      simp only [List.drop_left, ih, List.take_succ_cons, flatE_cons, List.length_append]
    · rename_i hle
      simp only at hle h0
      rw [List.take_append_of_le_length (by simp only; omega)]
      simp only
      rw [scanM_err (scan_torn h0 t (by omega))]
      simp [flatE]
theorem whole_le : ∀ (es : List Ent) (t : Nat), whole es t ≤ es.length
  | [], _ => Nat.le_refl _
  | e :: es, t => by
    unfold whole; split
    · have := whole_le es (t - (putBytes e.1 e.2.1).length); simp only [List.length_cons]; omega
    · simp
theorem whole_iff : ∀ (es : List Ent) (n t : Nat), n < es.length → ((flatE (es.take (n + 1))).length ≤ t ↔ n < whole es t)
  | [], n, _, h => absurd h (by simp)
  | e :: es, 0, t, _ => by
    simp only [List.take_succ_cons, List.take_zero, flatE_cons, whole]
    have : (flatE []).length = 0 := rfl
    rw [List.length_append, this]
    split <;> omega
  | e :: es, n + 1, t, h => by
    have ih := whole_iff es n (t - (putBytes e.1 e.2.1).length) (by simpa using h)
    rw [List.take_succ_cons, flatE_cons, List.length_append, whole]
    split <;> omega

theorem one_c {r : Fr} (k : UInt8) (s : List UInt8) (hs : s.length ≤ 100000000000000) : Con Go.Proofs.Tryd.prog 31 #[byteV k, .string (str s)] r [] (Ret fun v η => ∃ a c, v = .agg #[byteV k, .slice a s.length c] ∧ η = [fun m => Arr Rp.u8 m (.slice a s.length c) s]) := by
  refine Con.of (n := 9) [byteV k, .string (str s)] rfl Go.Proofs.Tryd.func31 rfl rfl rfl fun g hg R hR => ?_
  refine S.seq (S.region rfl ?_)
  refine O.opE (.p rfl) (.alloc (cs := [.int .u8 0, .slice none 0 0]) Go.Proofs.Tryd.zeroValue25 rfl) ?_
  rintro _ _ ⟨b4, rfl, rfl⟩
  refine O.nil ?_
  refine S.seq (S.region rfl ?_)
  refine O.op (.p rfl) (.mv rfl) ?_
  refine O.op (.p rfl) (.mv rfl) ?_
  refine O.opE (.p rfl) (.strBytes (xs := s) Go.Proofs.Tryd.underlying9 Go.Proofs.Tryd.underlying23 Go.Proofs.Tryd.underlying5 rfl (by omega)) ?_
  rintro v7 _ ⟨a7, c7, rfl, rfl⟩
  refine O.op (.p rfl) (.build (cs := [_, _]) Go.Proofs.Tryd.underlying25 rfl rfl rfl rfl rfl) ?_
  refine O.opU rfl (.storeObj (by kernel_rfl) rfl rfl rfl rfl (by repeat (first | exact Sel.here | apply Sel.there)) (by first | (simp; done) | (simp [Value.cells]; done))) ?_
  refine O.nil ?_
  refine S.retCellAgg Go.Proofs.Tryd.results31 Go.Proofs.Tryd.isAgg25 (by kernel_rfl) rfl (by repeat (first | exact Sel.here | apply Sel.there)) fun w hw => Holds.end_ hR hw ?_
  exact ⟨_, ⟨a7, c7, rfl, rfl⟩, by repeat (first | exact Picks.all | exact Picks.nil | (apply Picks.cons; focus (repeat (first | exact Sel.here | apply Sel.there))) | apply Picks.skip)⟩
theorem awk1 : putBytes 1 [97, 98] = [0, 0, 0, 0, 0, 0, 0, 3, 1, 97, 98, 0, 0, 0, 199, 0, 0, 1, 51] := by decide
theorem awk0 : putOut 1 [97, 98] = [0, 0, 0, 0, 0, 0, 0, 3, 1, 97, 98, 0, 0, 0, 199, 0, 0, 1, 51] := by decide
theorem awk2 : scanM (putBytes 1 [97, 98] ++ (putBytes 1 [97, 98]).take 5) = ([(1, [97, 98], ())], 19, false) := by
  have h : putErr 1 [97, 98] = 0 := by decide
  rw [scanM_ok (scan_put h), List.drop_left, scanM_err (scan_torn h 5 (by decide))]
  rfl
theorem awk3 : scanM [0, 0, 0, 0, 0, 0, 0, 3, 1, 97, 98, 0, 0, 0, 199, 0, 0, 1, 50] = ([], 0, true) := scanM_err (scan_bad (by decide) (by decide) (by decide) (by decide))
theorem awake_c {r : Fr} : Con Go.Proofs.Tryd.prog 11 #[] r [] (Ret fun v η => v = .bool true ∧ η = []) := by
  refine Con.of (n := 70) [] rfl Go.Proofs.Tryd.func11 rfl rfl rfl fun g hg R hR => ?_
  refine S.seq (S.region rfl ?_)
  refine O.op (.p rfl) (.as rfl) ?_
  refine O.nil ?_
  refine S.seq (S.region rfl ?_)
  refine O.call0 (.p rfl) rfl FactJourn5.ok31 rfl rfl (one_c 1 [97, 98] (by decide)) ?_
  rintro v11 _ ⟨a11, c11, rfl, rfl⟩
  try simp only [List.cons_append, List.nil_append, List.append_nil]
  refine O.frzW Sel.here fun g hs hm ha11 => ?_
  replace hg := Fr.sub_trans hg hs
  replace hR := melted hR hm
  clear hs hm
  refine O.call0 (.p rfl) rfl FactJourn5.ok24 rfl rfl (put_c (by first | assumption | exact Arr.mono hg (by assumption) | exact Arr.left (by assumption) | exact Arr.left (Arr.mono hg (by assumption)))) ?_
  rintro v12 _ ⟨a12, c12, rfl, rfl⟩
  try simp only [List.cons_append, List.nil_append, List.append_nil]
  refine O.op (.p rfl) (.mv rfl) ?_
  refine O.op (.p rfl) (.extract rfl rfl) ?_
  refine O.op (.p rfl) (.extract rfl rfl) ?_
  refine O.op (.p rfl) (.as rfl) ?_
  refine O.op (.p rfl) (.as rfl) ?_
  refine O.nil ?_
  refine S.seq (S.seq ?_)
  rw [awk0]
  refine S.frzA (by repeat (first | exact Sel.here | apply Sel.there)) fun g hs hm hb => ?_
  replace hg := Fr.sub_trans hg hs
  replace hR := melted hR hm
  try replace ha11 := ha11.mono hs
  clear hs hm
  refine S.region rfl ?_
  refine O.op (.p rfl) (.mv rfl) ?_
  refine O.op (.p rfl) (.neq rfl rfl) ?_
  refine O.slot 16 (v' := .bool false) rfl (congrArg Value.bool (by decide)) ?_
  refine O.op (.p rfl) (.mv rfl) ?_
  refine O.op (.g rfl rfl) (.mv rfl) ?_
  refine O.op (.g rfl rfl) (.len rfl Go.Proofs.Tryd.underlying23 rfl) ?_
  refine O.op (.g rfl rfl) (.neq rfl rfl) ?_
  refine O.slot 20 (v' := .bool false) rfl (congrArg Value.bool (by decide)) ?_
  refine O.op (.p rfl) (.pickF rfl rfl) ?_
  refine O.nil ?_
  refine S.condF rfl ?_
  refine S.skip (S.seq (S.regionD (L := [0, 2, 3, 1, 4, 5, 6, 7, 8, 9, 10, 11, 12]) FactJourn5.mixed (by kernel_rfl) ?_))
  refine .quiet (.p rfl) rfl (fun _ => .mv rfl) ?_
  refine .quiet (.p rfl) rfl (fun _ => .mv rfl) ?_
  refine OD.sliceTo (b := 5) (.p rfl) Go.Proofs.Tryd.underlying23 FactJourn5.size5 rfl rfl (by assumption) (by first | omega | (simp; done) | (simp; omega) | decide) (by first | omega | (simp; done) | (simp; omega) | decide) (fun u26 ha26 => ?_)
  obtain ⟨a26, c26, rfl⟩ := ha26.shape
  refine OD.call0 (.p rfl) (by kernel_rfl) rfl FactJourn5.ok16 rfl rfl (CopyBytes_c (by first | assumption | exact Arr.mono hg (by assumption) | exact Arr.left (by assumption) | exact Arr.left (Arr.mono hg (by assumption))) (by first | omega | (simp; done) | (simp; omega) | decide)) ?_
  rintro v24 _ ⟨a24, c24, rfl, rfl⟩
  try simp only [List.cons_append, List.nil_append, List.append_nil]
  refine OD.appendP (.p rfl) (by kernel_rfl) (T := Rp.u8) pure_u8 Go.Proofs.Tryd.underlying23 FactJourn5.elem5 (by decide) rfl rfl (by repeat (first | exact Sel.here | apply Sel.there)) (by first | assumption | exact Arr.mono hg (by assumption) | exact Arr.left (by assumption) | exact Arr.left (Arr.mono hg (by assumption))) (by first | omega | (simp; done) | (simp; omega) | decide) (by first | omega | (simp; done) | (simp; omega) | decide) (fun a27 c27 => ?_)
  refine OD.callB (.p rfl) (by kernel_rfl) rfl FactJourn5.ok26 rfl rfl (bs := [OwnP Rp.u8 5 (.slice a27 24 c27) (putBytes 1 [97, 98] ++ (putBytes 1 [97, 98]).take 5)]) (by repeat (first | exact Sels.nil | (apply Sels.cons; focus (repeat (first | exact Sel.here | apply Sel.there))))) (fun m hm hd => scan_c (hm.arr.right hd) (by decide)) ?_
  rintro v28 _ ⟨a28, c28, rfl, rfl⟩
  try simp only [List.cons_append, List.nil_append, List.append_nil]
  refine .quiet (.p rfl) rfl (fun _ => .mv rfl) ?_
  refine .quiet (.p rfl) rfl (fun _ => .extract rfl rfl) ?_
  refine .quiet (.p rfl) rfl (fun _ => .extract rfl rfl) ?_
  refine .quiet (.p rfl) rfl (fun _ => .extract rfl rfl) ?_
  refine .quiet (.p rfl) rfl (fun _ => .as rfl) ?_
  refine .quiet (.p rfl) rfl (fun _ => .as rfl) ?_
  refine .quiet (.p rfl) rfl (fun _ => .as rfl) ?_
  refine .nil ?_
  refine S.seq ?_
  simp only [awk2]
  refine S.frzG (T := EntRp) rfl (by repeat (first | exact Sel.here | apply Sel.there)) fun g hs hm hl1 => ?_
  replace hg := Fr.sub_trans hg hs
  replace hR := melted hR hm
  try replace ha11 := ha11.mono hs
  try replace hb := hb.mono hs
  clear hs hm
  refine S.region rfl ?_
  refine O.op (.p rfl) (.mv rfl) ?_
  refine O.call0 (.p rfl) rfl FactJourn5.ok16 rfl rfl (CopyBytes_c (by first | assumption | exact Arr.mono hg (by assumption) | exact Arr.left (by assumption) | exact Arr.left (Arr.mono hg (by assumption))) (by first | omega | (simp; done) | (simp; omega) | decide)) ?_
  rintro v33 _ ⟨a33, c33, rfl, rfl⟩
  try simp only [List.cons_append, List.nil_append, List.append_nil]
  refine O.op (.p rfl) (.as rfl) ?_
  refine O.nil ?_
  refine S.seq (S.region rfl ?_)
  refine O.op (.p rfl) (.mv rfl) ?_
  refine O.op (.p rfl) (.mv rfl) ?_
  refine O.opE (.p rfl) (.idxOwn (T := Rp.u8) Go.Proofs.Tryd.underlying23 FactJourn5.size5 rfl rfl (show _ = ((18 : Nat) : Int) from rfl) (by repeat (first | exact Sel.here | apply Sel.there)) (by first | omega | (simp; done) | (simp; omega))) ?_
  rintro _ _ ⟨p36, rfl, hp36, rfl⟩
  refine O.op (.p rfl) (.loadOwn FactJourn5.flat5 rfl hp36 rfl (by repeat (first | exact Sel.here | apply Sel.there)) (by first | omega | (simp; done) | (simp; omega)) ((by rintro _ rfl; rfl))) ?_
  refine O.op (.p rfl) (.xor rfl rfl) ?_
  refine O.opE (.p rfl) (.idxOwn (T := Rp.u8) Go.Proofs.Tryd.underlying23 FactJourn5.size5 rfl rfl (show _ = ((18 : Nat) : Int) from rfl) (by repeat (first | exact Sel.here | apply Sel.there)) (by first | omega | (simp; done) | (simp; omega))) ?_
  rintro _ _ ⟨p39, rfl, hp39, rfl⟩
  refine O.opU rfl (.storeOwn FactJourn5.size5 rfl hp39 rfl (by repeat (first | exact Sel.here | apply Sel.there)) (by first | omega | (simp; done) | (simp; omega)) (show _ = _ by rfl : Rp.rel _ _ _ ((50 : UInt8)))) ?_
  refine O.nil ?_
  refine S.seq ?_
  refine S.frzA (by repeat (first | exact Sel.here | apply Sel.there)) fun g hs hm hc => ?_
  replace hg := Fr.sub_trans hg hs
  replace hR := melted hR hm
  try replace ha11 := ha11.mono hs
  try replace hb := hb.mono hs
  try replace hl1 := hl1.mono hs
  clear hs hm
  simp only [List.set_cons_succ, List.set_cons_zero] at hc
  refine S.region rfl ?_
  refine O.op (.p rfl) (.mv rfl) ?_
  refine O.call0 (.p rfl) rfl FactJourn5.ok26 rfl rfl (scan_c hc (by decide)) ?_
  rintro v42 _ ⟨a42, c42, rfl, rfl⟩
  try simp only [List.cons_append, List.nil_append, List.append_nil]
  refine O.op (.p rfl) (.mv rfl) ?_
  refine O.op (.p rfl) (.extract rfl rfl) ?_
  refine O.op (.p rfl) (.extract rfl rfl) ?_
  refine O.op (.p rfl) (.extract rfl rfl) ?_
  refine O.op (.p rfl) (.as rfl) ?_
  refine O.op (.p rfl) (.as rfl) ?_
  refine O.op (.p rfl) (.as rfl) ?_
  refine O.nil ?_
  refine S.seq ?_
  simp only [awk3]
  refine S.region rfl ?_
  refine O.op (.p rfl) (.mv rfl) ?_
  refine O.call0 (.p rfl) rfl FactJourn5.ok31 rfl rfl (one_c 1 [97, 98] (by decide)) ?_
  rintro v47 _ ⟨a47, c47, rfl, rfl⟩
  try simp only [List.cons_append, List.nil_append, List.append_nil]
  refine O.frzW Sel.here fun g hs hm ha47 => ?_
  replace hg := Fr.sub_trans hg hs
  replace hR := melted hR hm
  try replace ha11 := ha11.mono hs
  try replace hb := hb.mono hs
  try replace hl1 := hl1.mono hs
  try replace hc := hc.mono hs
  clear hs hm
  refine O.opE (.p rfl) (.litP (T := (Rp.cells 2)) (ys := [_]) Go.Proofs.Tryd.underlying35 FactJourn5.elem25 (by decide) rfl rfl ⟨⟨rfl, rfl, by first | (simp; done) | (intro v hv; simp [Value.cells] at hv; rcases hv with rfl | rfl <;> rfl)⟩, trivial⟩ (by decide)) ?_
  rintro _ _ ⟨a48, c48, rfl, rfl⟩
  refine O.frzA (by repeat (first | exact Sel.here | apply Sel.there)) fun g hs hm ha48 => ?_
  replace hg := Fr.sub_trans hg hs
  replace hR := melted hR hm
  try replace ha11 := ha11.mono hs
  try replace hb := hb.mono hs
  try replace hl1 := hl1.mono hs
  try replace hc := hc.mono hs
  try replace ha47 := ha47.mono hs
  clear hs hm
  refine O.call0 (.p rfl) rfl FactJourn5.ok15 rfl rfl (sameEntries_c (ys := [(1, [97, 98], ())]) (hl1) (Arr.ofCells ha48 ⟨EntRp.mk ha47, trivial⟩ rfl)) ?_
  rintro v49 _ ⟨rfl, rfl⟩
  try simp only [List.cons_append, List.nil_append, List.append_nil]
  refine O.slot 49 (v' := .bool true) rfl (congrArg Value.bool (by decide)) ?_
  refine O.op (.p rfl) (.mv rfl) ?_
  refine O.op (.g rfl rfl) (.mv rfl) ?_
  refine O.op (.g rfl rfl) (.eql rfl rfl) ?_
  refine O.slot 52 (v' := .bool true) rfl (congrArg Value.bool (by decide)) ?_
  refine O.op (.p rfl) (.pickT rfl rfl) ?_
  refine O.op (.p rfl) (.mv rfl) ?_
  refine O.op (.g rfl rfl) (.mv rfl) ?_
  refine O.op (.g rfl rfl) ((by first | exact .notD rfl | exact .not rfl)) ?_
  refine O.slot 56 (v' := .bool true) rfl (congrArg Value.bool (by rfl)) ?_
  refine O.op (.p rfl) (.pickT rfl rfl) ?_
  refine O.op (.p rfl) (.mv rfl) ?_
  refine O.op (.g rfl rfl) (.mv rfl) ?_
  refine O.op (.g rfl rfl) (.len rfl Go.Proofs.Tryd.underlying35 rfl) ?_
  refine O.op (.g rfl rfl) (.eql rfl rfl) ?_
  refine O.slot 61 (v' := .bool true) rfl (congrArg Value.bool (by decide)) ?_
  refine O.op (.p rfl) (.pickT rfl rfl) ?_
  refine O.op (.p rfl) (.mv rfl) ?_
  refine O.op (.g rfl rfl) (.mv rfl) ?_
  refine O.op (.g rfl rfl) (.eql rfl rfl) ?_
  refine O.slot 65 (v' := .bool true) rfl (congrArg Value.bool (by decide)) ?_
  refine O.op (.p rfl) (.pickT rfl rfl) ?_
  refine O.op (.p rfl) (.mv rfl) ?_
  refine O.op (.g rfl rfl) (.mv rfl) ?_
  refine O.op (.p rfl) (.pickT rfl rfl) ?_
  refine O.op (.p rfl) (.as rfl) ?_
  refine O.nil ?_
  refine S.ret Go.Proofs.Tryd.results11 rfl fun w hw => Holds.end_ hR hw ?_
  exact ⟨_, ⟨rfl, rfl⟩, by repeat (first | exact Picks.all | exact Picks.nil | (apply Picks.cons; focus (repeat (first | exact Sel.here | apply Sel.there))) | apply Picks.skip)⟩

end Go.Proofs.YtcghiboamlaenaaDoor
