import Derived.Test.YtcghiboamlaenaaDoorKit1
import Derived.Test.YtcghiboamlaenaaDoorSpBytes
import Derived.Test.YtcghiboamlaenaaDoorSpConv
open Go Go.Sp
set_option maxRecDepth 100000
attribute [local irreducible] obj Own OwnP
namespace Go.Proofs.YtcghiboamlaenaaDoor
theorem FactWire1.elem5 : elemIs Go.Proofs.Tryd.prog 5 1 1 [.int .u8 0] := elemIs.mk (by kernel_rfl) rfl
theorem FactWire1.flat23 : Go.Sp.flat1 Go.Proofs.Tryd.prog 23 = true := by kernel_rfl
theorem FactWire1.flat4 : Go.Sp.flat1 Go.Proofs.Tryd.prog 4 = true := by kernel_rfl
theorem FactWire1.flat5 : Go.Sp.flat1 Go.Proofs.Tryd.prog 5 = true := by kernel_rfl
theorem FactWire1.fld126x0 : fieldOff Go.Proofs.Tryd.prog 126 0 = some 0 := by kernel_rfl
theorem FactWire1.fld128x1 : fieldOff Go.Proofs.Tryd.prog 128 1 = some 1 := by kernel_rfl
theorem FactWire1.fld128x2 : fieldOff Go.Proofs.Tryd.prog 128 2 = some 2 := by kernel_rfl
theorem FactWire1.ok58 : callable Go.Proofs.Tryd.prog 58 = true := by kernel_rfl
theorem FactWire1.ok70 : callable Go.Proofs.Tryd.prog 70 = true := by kernel_rfl
theorem FactWire1.ok82 : callable Go.Proofs.Tryd.prog 82 = true := by kernel_rfl
theorem FactWire1.ok90 : callable Go.Proofs.Tryd.prog 90 = true := by kernel_rfl
theorem FactWire1.ok95 : callable Go.Proofs.Tryd.prog 95 = true := by kernel_rfl
theorem FactWire1.size23 : (Go.Proofs.Tryd.prog.info? 23).map (·.size) = some 1 := by kernel_rfl
theorem FactWire1.size5 : (Go.Proofs.Tryd.prog.info? 5).map (·.size) = some 1 := by kernel_rfl

theorem set_be (n : Int) (i : Nat) (h : i < 8) : (List.replicate (8 - i) (0 : UInt8) ++ (be n).drop (8 - i)).set (7 - i) (beAt n i) = List.replicate (8 - (i + 1)) 0 ++ (be n).drop (8 - (i + 1)) := by
  match i, h with
  | 0, _ | 1, _ | 2, _ | 3, _ | 4, _ | 5, _ | 6, _ | 7, _ => rfl
theorem wNumber_c {r : Fr} (n : Int) : Con Go.Proofs.Tryd.prog 45 #[.int .i64 n] r [] (Ret fun v η => ∃ a c, v = .slice a 8 c ∧ η = [OwnP Rp.u8 5 v (be n)]) := by
  refine Con.of (n := 23) [.int .i64 n] rfl Go.Proofs.Tryd.func45 rfl rfl rfl fun g hg R hR => ?_
  refine S.seq (S.region rfl ?_)
  refine O.op (.p rfl) (.as rfl) ?_
  refine O.nil ?_
  refine S.seq (S.region rfl ?_)
  refine O.opE (.p rfl) (.makeP (T := Rp.u8) (0 : UInt8) (m := 8) Go.Proofs.Tryd.underlying23 FactWire1.elem5 (by decide) rfl rfl rfl rfl rfl (by decide) (by decide)) ?_
  rintro v5 _ ⟨a, c, rfl, rfl⟩
  refine O.op (.p rfl) (.as rfl) ?_
  refine O.nil ?_
  refine S.seq (S.seq (S.region rfl ?_))
  refine O.op (.p rfl) (.mv rfl) ?_
  refine O.op (.p rfl) (.len rfl Go.Proofs.Tryd.underlying23 rfl) ?_
  refine O.op (.p rfl) (.mv rfl) ?_
  refine O.nil ?_
  refine S.block ?_
  refine S.loopK (ι := Nat) (fun i => i ≤ 8) (fun i => [(8, .int .i64 (i : Int))]) [(0, _), (3, _), (7, _)] (fun i => [OwnP Rp.u8 5 (.slice a 8 c) (List.replicate (8 - i) 0 ++ (be n).drop (8 - i))]) (fun i => 8 - i) (0) (by simp) (.cons rfl (.nil)) (.cons rfl (.cons rfl (.cons rfl (.nil)))) rfl fun i hx ih => ?_
  have hm1 := meltRefl (g := g)
  refine S.seq (S.region rfl ?_)
  refine O.op (.p rfl) (.lss rfl rfl) ?_
  refine O.nil ?_
  refine S.seq ?_
  first | refine S.condD rfl (fun h9 => ?_) (fun h9 => ?_) | refine S.condB rfl (fun h9 => ?_) (fun h9 => ?_)
  · refine S.skip (S.seq (S.block (S.seq (S.region rfl ?_))))
    refine O.op (.p rfl) (.mv rfl) ?_
    refine O.op (.p rfl) (.as rfl) ?_
    refine O.nil ?_
    refine S.region rfl ?_
    refine O.op (.p rfl) (.mv rfl) ?_
    refine O.op (.p rfl) (.mv rfl) ?_
    refine O.op (.p rfl) (.sub rfl rfl (IntWalk.i64_in _ (by omega))) ?_
    refine O.op (.p rfl) (.mv rfl) ?_
    refine O.op (.p rfl) (.cvt Go.Proofs.Tryd.underlying3 Go.Proofs.Tryd.underlying96 rfl) ?_
    refine O.op (.p rfl) (.mv rfl) ?_
    refine O.op (.p rfl) (.mul rfl rfl (IntWalk.i64_in _ (by omega))) ?_
    refine O.op (.p rfl) (.shr rfl rfl (by omega)) ?_
    refine O.op (.p rfl) (.cvt Go.Proofs.Tryd.underlying96 Go.Proofs.Tryd.underlying5 rfl) ?_
    refine O.opE (.p rfl) (.idxOwn (T := Rp.u8) Go.Proofs.Tryd.underlying23 FactWire1.size5 rfl rfl (show _ = (((7 - i) : Nat) : Int) by omega) (by repeat (first | exact Sel.here | apply Sel.there)) (by first | omega | (simp; done) | (simp; omega))) ?_
    rintro _ _ ⟨p20, rfl, hp20, rfl⟩
    refine O.opU rfl (.storeOwn FactWire1.size5 rfl hp20 rfl (by repeat (first | exact Sel.here | apply Sel.there)) (by first | omega | (simp; done) | (simp; omega)) (show _ = _ by simp only [Value.cells, byteV]; rw [shift_byte n i (by omega) _ rfl] : Rp.rel _ _ _ (beAt n i))) ?_
    refine O.nil ?_
    refine S.inBlock (S.region rfl ?_)
    refine O.op (.p rfl) (.add rfl rfl (IntWalk.i64_in _ (by omega))) ?_
    refine O.op (.p rfl) (.mv rfl) ?_
    refine O.nil ?_
    rw [set_be n i (by omega)]
    refine S.weaken ?_ (ih (i + 1) (by omega) (by omega))
    repeat (first | exact Sub.nil | refine Sub.cons rfl ?_)
  · refine S.exit rfl ?_
    refine S.seq (S.region rfl ?_)
    refine O.op (.p rfl) (.mv rfl) ?_
    refine O.op (.p rfl) (.as rfl) ?_
    refine O.nil ?_
    refine S.ret Go.Proofs.Tryd.results45 rfl fun w hw => hR _ _ w ?_ hw
    have : i = 8 := by omega
    subst this
    exact ⟨a, c, rfl, rfl⟩

theorem cloneB_c {r : Fr} {va : Value} {xs : List UInt8} (ha : Arr Rp.u8 r va xs) (hl : xs.length ≤ 140737488355328) :
    Con Go.Proofs.Tryd.prog 82 #[va] r [] (Ret fun v η => ∃ a c, v = .slice a xs.length c ∧ η = [OwnP Rp.u8 5 v xs]) := by
  refine Con.of (n := 8) [va] rfl Go.Proofs.Tryd.func82 rfl rfl rfl fun g hg R hR => ?_
  have ha := ha.mono hg
  obtain ⟨a1, c1, rfl⟩ := ha.shape
  cases a1 with
  | none =>
    refine S.seq (S.region rfl ?_)
    refine O.op (.p rfl) (.as rfl) ?_
    refine O.nil ?_
    refine S.seq (S.seq (S.region rfl ?_))
    refine O.op (.p rfl) (.mv rfl) ?_
    refine O.op (.p rfl) (.eqlNil Go.Proofs.Tryd.underlying23 rfl rfl) ?_
    refine O.nil ?_
    refine S.condT rfl ?_
    refine S.seq (S.region rfl ?_)
    refine O.op (.p rfl) (.as rfl) ?_
    refine O.nil ?_
    obtain ⟨rfl, _, rfl⟩ := Arr.nil_of (by decide) ha
    refine S.addNil (T := Rp.u8) (e := 5) ?_
    refine S.ret Go.Proofs.Tryd.results82 rfl fun w hw => hR _ _ w ?_ hw
    exact ⟨none, 0, rfl, rfl⟩
  | some a1 =>
    refine S.seq (S.region rfl ?_)
    refine O.op (.p rfl) (.as rfl) ?_
    refine O.nil ?_
    refine S.seq (S.seq (S.region rfl ?_))
    refine O.op (.p rfl) (.mv rfl) ?_
    refine O.op (.p rfl) (.eqlNil Go.Proofs.Tryd.underlying23 rfl rfl) ?_
    refine O.nil ?_
    refine S.condF rfl ?_
    refine S.skip (S.seq (S.region rfl ?_))
    refine O.opE (.p rfl) (.litP (T := Rp.u8) (ys := []) Go.Proofs.Tryd.underlying23 FactWire1.elem5 (by decide) rfl rfl trivial (by decide)) ?_
    rintro _ _ ⟨a5, c5, rfl, rfl⟩
    refine O.op (.p rfl) (.mv rfl) ?_
    refine O.opE (.p rfl) (.appendP (T := Rp.u8) pure_u8 Go.Proofs.Tryd.underlying23 FactWire1.elem5 (by decide) rfl rfl (by repeat (first | exact Sel.here | apply Sel.there)) (by first | assumption | exact Arr.mono hg (by assumption) | exact Arr.left (by assumption) | exact Arr.left (Arr.mono hg (by assumption))) (by first | omega | (simp; done) | (simp; omega) | decide) (by first | omega | (simp; done) | (simp; omega) | decide)) ?_
    rintro _ _ ⟨a7, c7, rfl, rfl⟩
    refine O.op (.p rfl) (.as rfl) ?_
    refine O.nil ?_
    refine S.ret Go.Proofs.Tryd.results82 rfl fun w hw => hR _ _ w ?_ hw
    exact ⟨a7, c7, by simp, by simp⟩

theorem growB0_c {r : Fr} (m : Nat) (hm : m ≤ 140737488355328) : Con Go.Proofs.Tryd.prog 70 #[.slice none 0 0, .int .i64 (m : Int)] r [] (Ret fun v η => ∃ a c, v = .slice a 0 c ∧ η = [OwnP Rp.u8 5 v []]) := by
  refine Con.of (n := 27) [.slice none 0 0, .int .i64 (m : Int)] rfl Go.Proofs.Tryd.func70 rfl rfl rfl fun g hg R hR => ?_
  refine S.seq (S.region rfl ?_)
  refine O.op (.p rfl) (.as rfl) ?_
  refine O.nil ?_
  refine S.seq (S.seq (S.region rfl ?_))
  refine O.op (.p rfl) (.mv rfl) ?_
  refine O.op (.p rfl) (.lss rfl rfl) ?_
  refine O.nil ?_
  first | refine S.condD rfl (fun h6 => ?_) (fun h6 => ?_) | refine S.condB rfl (fun h6 => ?_) (fun h6 => ?_)
  · exact absurd h6 (by omega)
  · refine S.skip (S.seq (S.seq (S.region rfl ?_)))
    refine O.op (.p rfl) (.mv rfl) ?_
    refine O.op (.p rfl) (.mv rfl) ?_
    refine O.op (.p rfl) (.cap rfl Go.Proofs.Tryd.underlying23 rfl) ?_
    refine O.op (.p rfl) (.mv rfl) ?_
    refine O.op (.p rfl) (.len rfl Go.Proofs.Tryd.underlying23 rfl) ?_
    refine O.op (.p rfl) (.sub rfl rfl (IntWalk.i64_in _ (by omega))) ?_
    refine O.op (.p rfl) (.sub rfl rfl (IntWalk.i64_in _ (by omega))) ?_
    refine O.op (.p rfl) (.as rfl) ?_
    refine O.nil ?_
    refine S.seq (S.region rfl ?_)
    refine O.op (.p rfl) (.mv rfl) ?_
    refine O.op (.p rfl) (.gtr rfl rfl) ?_
    refine O.nil ?_
    first | refine S.condD rfl (fun h16 => ?_) (fun h16 => ?_) | refine S.condB rfl (fun h16 => ?_) (fun h16 => ?_)
    · refine S.region rfl ?_
      refine O.op (.p rfl) (.mv rfl) ?_
      refine O.op (.p rfl) (.mv rfl) ?_
      refine O.op (.p rfl) (.cap rfl Go.Proofs.Tryd.underlying23 rfl) ?_
      refine O.op (.p rfl) (.sliceNil Go.Proofs.Tryd.underlying23 FactWire1.size5 rfl rfl rfl) ?_
      refine O.op (.p rfl) (.mv rfl) ?_
      refine O.opE (.p rfl) (.appendZ0 (T := Rp.u8) (a := 0) (m := m) Go.Proofs.Tryd.underlying23 Go.Proofs.Tryd.underlying3 FactWire1.elem5 (by decide) rfl rfl rfl (by omega) (by omega) (by omega) (by omega)) ?_
      rintro v22 _ ⟨a22, c22, rfl, rfl⟩
      refine O.op (.p rfl) (.mv rfl) ?_
      refine O.op (.p rfl) (.len rfl Go.Proofs.Tryd.underlying23 rfl) ?_
      refine O.opE (.p rfl) (.cutOwn (T := Rp.u8) (m := 0) Go.Proofs.Tryd.underlying23 FactWire1.size5 rfl rfl rfl (by repeat (first | exact Sel.here | apply Sel.there)) (by omega)) ?_
      rintro v25 _ ⟨a25, c25, rfl, rfl⟩
      refine O.op (.p rfl) (.as rfl) ?_
      refine O.nil ?_
      refine S.seq (S.region rfl ?_)
      refine O.op (.p rfl) (.mv rfl) ?_
      refine O.op (.p rfl) (.as rfl) ?_
      refine O.nil ?_
      refine S.ret Go.Proofs.Tryd.results70 rfl fun w hw => hR _ _ w ?_ hw
      exact ⟨a25, c25, rfl, by simp⟩
    · have hm0 : m = 0 := by omega
      subst hm0
      refine S.addNil (T := Rp.u8) (e := 5) ?_
      refine S.skip (S.seq (S.region rfl ?_))
      refine O.op (.p rfl) (.mv rfl) ?_
      refine O.op (.p rfl) (.as rfl) ?_
      refine O.nil ?_
      refine S.ret Go.Proofs.Tryd.results70 rfl fun w hw => hR _ _ w ?_ hw
      exact ⟨none, 0, rfl, rfl⟩

theorem flat_len (xss : List (List UInt8)) (i : Nat) (h : i < xss.length) : (xss.take (i + 1)).flatten = (xss.take i).flatten ++ xss[i] := by
  rw [List.take_succ_eq_append_getElem h, List.flatten_append, List.flatten_singleton]
theorem flat_le (xss : List (List UInt8)) (i : Nat) : (xss.take i).flatten.length ≤ xss.flatten.length := by
  have : xss.flatten = (xss.take i).flatten ++ (xss.drop i).flatten := by rw [← List.flatten_append, List.take_append_drop]
  rw [this, List.length_append]; omega
theorem concatB_c {r : Fr} {va : Value} {xss : List (List UInt8)} (ha : Arr (Rp.slice Rp.u8) r va xss) (hl : xss.flatten.length ≤ 140737488355328) :
    Con Go.Proofs.Tryd.prog 58 #[va] r [] (Ret fun v η => ∃ a c, v = .slice a xss.flatten.length c ∧ η = [OwnP Rp.u8 5 v xss.flatten]) := by
  refine Con.of (n := 36) [va] rfl Go.Proofs.Tryd.func58 rfl rfl rfl fun g hg R hR => ?_
  have ha := ha.mono hg
  have hbd := ha.bound
  obtain ⟨a1, c1, rfl⟩ := ha.shape
  refine S.seq (S.region rfl ?_)
  refine O.op (.p rfl) (.as rfl) ?_
  refine O.nil ?_
  refine S.seq (S.region rfl ?_)
  refine O.op (.p rfl) (.as rfl) ?_
  refine O.nil ?_
  refine S.seq (S.seq (S.region rfl ?_))
  refine O.op (.p rfl) (.mv rfl) ?_
  refine O.op (.p rfl) (.len rfl Go.Proofs.Tryd.underlying101 rfl) ?_
  refine O.op (.p rfl) (.mv rfl) ?_
  refine O.nil ?_
  refine S.block ?_
  refine S.loopK2 (ι := Nat) (κ := Nat) (fun i s => i ≤ xss.length ∧ s = (xss.take i).flatten.length) (fun i s => [(11, .int .i64 (i : Int)), (3, .int .i64 (s : Int))]) [(0, _), (9, _), (10, _)] (fun i s => []) (fun i s => xss.length - i) (0) (0) (by simp) (.cons rfl (.cons rfl (.nil))) (.cons rfl (.cons rfl (.cons rfl (.nil)))) rfl fun i s hx ih => ?_
  have hm1 := meltRefl (g := g)
  obtain ⟨hx1, hs⟩ := hx
  refine S.seq (S.region rfl ?_)
  refine O.op (.p rfl) (.lss rfl rfl) ?_
  refine O.nil ?_
  refine S.seq ?_
  first | refine S.condD rfl (fun h12 => ?_) (fun h12 => ?_) | refine S.condB rfl (fun h12 => ?_) (fun h12 => ?_)
  · have hi : i < xss.length := by omega
    have h1 := flat_len xss i hi
    have h2 := flat_le xss (i + 1)
    have h3 : (xss.take (i + 1)).flatten.length = (xss.take i).flatten.length + xss[i].length := by rw [h1, List.length_append]
    refine S.skip (S.seq (S.block (S.seq (S.region rfl ?_))))
    refine O.idx' (.p rfl) Go.Proofs.Tryd.underlying101 FactWire1.size23 rfl rfl rfl (by first | assumption | exact Arr.mono hg (by assumption) | exact Arr.left (by assumption) | exact Arr.left (Arr.mono hg (by assumption))) (by decide) (by first | omega | (simp; done) | (simp; omega) | decide) (fun p13 cs13 hp13 hr13 => ?_)
    obtain ⟨v13, rfl, ha13⟩ := hr13
    obtain ⟨a13, c13, rfl⟩ := ha13.shape
    refine O.op (.p rfl) (.loadAt FactWire1.flat23 rfl hp13 rfl) ?_
    refine O.op (.p rfl) (.as rfl) ?_
    refine O.nil ?_
    refine S.seq (S.region rfl ?_)
    refine O.op (.p rfl) (.mv rfl) ?_
    refine O.op (.p rfl) (.mv rfl) ?_
    refine O.op (.p rfl) (.len rfl Go.Proofs.Tryd.underlying23 rfl) ?_
    refine O.op (.p rfl) (.add rfl rfl (IntWalk.i64_in _ (by omega))) ?_
    refine O.op (.p rfl) (.as rfl) ?_
    refine O.nil ?_
    refine S.seq (S.region rfl ?_)
    refine O.op (.p rfl) (.mv rfl) ?_
    refine O.op (.p rfl) (.lss rfl rfl) ?_
    refine O.nil ?_
    first | refine S.condD rfl (fun h20 => ?_) (fun h20 => ?_) | refine S.condB rfl (fun h20 => ?_) (fun h20 => ?_)
    · exact absurd h20 (by omega)
    · refine S.skip (S.inBlock (S.region rfl ?_))
      refine O.op (.p rfl) (.add rfl rfl (IntWalk.i64_in _ (by omega))) ?_
      refine O.op (.p rfl) (.mv rfl) ?_
      refine O.nil ?_
      refine S.weaken ?_ (ih (i + 1) (s + xss[i].length) (by omega) (by omega))
      repeat (first | exact Sub.nil | refine Sub.cons rfl ?_)
  · have hi : i = xss.length := by omega
    subst hi
    rw [List.take_length] at hs
    subst hs
    refine S.exit rfl ?_
    refine S.seq (S.region rfl ?_)
    refine O.op (.p rfl) (.mv rfl) ?_
    refine O.call0 (.p rfl) rfl FactWire1.ok70 rfl rfl (growB0_c xss.flatten.length (by omega)) ?_
    rintro v24 _ ⟨a24, c24, rfl, rfl⟩
    try simp only [List.cons_append, List.nil_append, List.append_nil]
    refine O.op (.p rfl) (.as rfl) ?_
    refine O.nil ?_
    refine S.seq (S.seq (S.region rfl ?_))
    refine O.op (.p rfl) (.mv rfl) ?_
    refine O.op (.p rfl) (.len rfl Go.Proofs.Tryd.underlying101 rfl) ?_
    refine O.op (.p rfl) (.mv rfl) ?_
    refine O.nil ?_
    refine S.block ?_
    refine S.loopK4 (ι := Nat) (κ := Option Addr) (υ := Nat) (τ := Nat) (fun i a6 m6 c6 => i ≤ xss.length ∧ m6 = (xss.take i).flatten.length) (fun i a6 m6 c6 => [(27, .int .i64 (i : Int)), (6, .slice a6 m6 c6)]) [(25, _), (26, _)] (fun i a6 m6 c6 => [OwnP Rp.u8 5 (.slice a6 m6 c6) (xss.take i).flatten]) (fun i a6 m6 c6 => xss.length - i) (0) (a24) (0) (c24) (by simp) (.cons rfl (.cons rfl (.nil))) (.cons rfl (.cons rfl (.nil))) rfl fun i a6 m6 c6 hx ih => ?_
    have hm2 := meltRefl (g := g)
    obtain ⟨hx1, hs⟩ := hx
    refine S.seq (S.region rfl ?_)
    refine O.op (.p rfl) (.lss rfl rfl) ?_
    refine O.nil ?_
    refine S.seq ?_
    first | refine S.condD rfl (fun h28 => ?_) (fun h28 => ?_) | refine S.condB rfl (fun h28 => ?_) (fun h28 => ?_)
    · have hi : i < xss.length := by omega
      have h1 := flat_len xss i hi
      have h2 := flat_le xss (i + 1)
      have h3 : (xss.take (i + 1)).flatten.length = (xss.take i).flatten.length + xss[i].length := by rw [h1, List.length_append]
      refine S.skip (S.seq (S.block (S.seq (S.region rfl ?_))))
      refine O.idx' (.p rfl) Go.Proofs.Tryd.underlying101 FactWire1.size23 rfl rfl rfl (by first | assumption | exact Arr.mono hg (by assumption) | exact Arr.left (by assumption) | exact Arr.left (Arr.mono hg (by assumption))) (by decide) (by first | omega | (simp; done) | (simp; omega) | decide) (fun p29 cs29 hp29 hr29 => ?_)
      obtain ⟨v29, rfl, ha29⟩ := hr29
      obtain ⟨a29, c29, rfl⟩ := ha29.shape
      refine O.op (.p rfl) (.loadAt FactWire1.flat23 rfl hp29 rfl) ?_
      refine O.op (.p rfl) (.as rfl) ?_
      refine O.nil ?_
      refine S.region rfl ?_
      refine O.op (.p rfl) (.mv rfl) ?_
      refine O.op (.p rfl) (.mv rfl) ?_
      refine O.opE (.p rfl) (.appendP (T := Rp.u8) pure_u8 Go.Proofs.Tryd.underlying23 FactWire1.elem5 (by decide) rfl rfl (by repeat (first | exact Sel.here | apply Sel.there)) (by first | assumption | exact Arr.mono hg (by assumption) | exact Arr.left (by assumption) | exact Arr.left (Arr.mono hg (by assumption))) (by first | omega | (simp; done) | (simp; omega) | decide) (by first | omega | (simp; done) | (simp; omega) | decide)) ?_
      rintro _ _ ⟨a33, c33, rfl, rfl⟩
      refine O.op (.p rfl) (.as rfl) ?_
      refine O.nil ?_
      refine S.inBlock (S.region rfl ?_)
      refine O.op (.p rfl) (.add rfl rfl (IntWalk.i64_in _ (by omega))) ?_
      refine O.op (.p rfl) (.mv rfl) ?_
      refine O.nil ?_
      rw [← h1]
      refine S.weaken ?_ (ih (i + 1) (a33) ((xss.take i).flatten.length + xss[i].length) (c33) (by omega) (by omega))
      repeat (first | exact Sub.nil | refine Sub.cons rfl ?_)
    · have hi : i = xss.length := by omega
      subst hi
      rw [List.take_length] at hs
      subst hs
      refine S.exit rfl ?_
      refine S.seq (S.region rfl ?_)
      refine O.op (.p rfl) (.mv rfl) ?_
      refine O.op (.p rfl) (.as rfl) ?_
      refine O.nil ?_
      refine S.ret Go.Proofs.Tryd.results58 rfl fun w hw => hR _ _ w ?_ hw
      exact ⟨a6, c6, rfl, by rw [List.take_length]⟩

theorem wJoin_c {r : Fr} {va : Value} {xss : List (List UInt8)} (ha : Arr (Rp.slice Rp.u8) r va xss) (hl : xss.flatten.length ≤ 140737488355328) :
    Con Go.Proofs.Tryd.prog 46 #[va] r [] (Ret fun v η => ∃ a c, v = .slice a xss.flatten.length c ∧ η = [OwnP Rp.u8 5 v xss.flatten]) := by
  refine Con.of (n := 5) [va] rfl Go.Proofs.Tryd.func46 rfl rfl rfl fun g hg R hR => ?_
  have ha := ha.mono hg
  obtain ⟨a1, c1, rfl⟩ := ha.shape
  refine S.seq (S.region rfl ?_)
  refine O.op (.p rfl) (.as rfl) ?_
  refine O.nil ?_
  refine S.seq (S.region rfl ?_)
  refine O.op (.p rfl) (.mv rfl) ?_
  refine O.call0 (.p rfl) rfl FactWire1.ok58 rfl rfl (concatB_c (by first | assumption | exact Arr.mono hg (by assumption) | exact Arr.left (by assumption) | exact Arr.left (Arr.mono hg (by assumption))) (by first | omega | (simp; done) | (simp; omega) | decide)) ?_
  rintro v4 _ ⟨a4, c4, rfl, rfl⟩
  try simp only [List.cons_append, List.nil_append, List.append_nil]
  refine O.op (.p rfl) (.as rfl) ?_
  refine O.nil ?_
  refine S.ret Go.Proofs.Tryd.results46 rfl fun w hw => hR _ _ w ?_ hw
  exact ⟨a4, c4, rfl, rfl⟩

/-- bytes, and how many they are ahead -/
def bytesOf (xs : List UInt8) : List UInt8 := be xs.length ++ xs
@[simp] theorem bytesOf_length (xs : List UInt8) : (bytesOf xs).length = 8 + xs.length := by simp [bytesOf]
theorem wNewReader_c {r : Fr} {va : Value} {xs : List UInt8} (ha : Arr Rp.u8 r va xs) (hl : xs.length ≤ 140737488355328) :
    Con Go.Proofs.Tryd.prog 73 #[va] r [] (Ret fun v η => ∃ b a c, v = .pointer (some ⟨b, 0, none⟩) ∧ η = [obj b 128 [.slice a xs.length c, .bool true, .bool false], OwnP Rp.u8 5 (.slice a xs.length c) xs]) := by
  refine Con.of (n := 8) [va] rfl Go.Proofs.Tryd.func73 rfl rfl rfl fun g hg R hR => ?_
  have ha := ha.mono hg
  obtain ⟨a1, c1, rfl⟩ := ha.shape
  refine S.seq (S.region rfl ?_)
  refine O.op (.p rfl) (.as rfl) ?_
  refine O.nil ?_
  refine S.seq (S.region rfl ?_)
  refine O.op (.p rfl) (.mv rfl) ?_
  refine O.call0 (.p rfl) rfl FactWire1.ok82 rfl rfl (cloneB_c (by first | assumption | exact Arr.mono hg (by assumption) | exact Arr.left (by assumption) | exact Arr.left (Arr.mono hg (by assumption))) (by first | omega | (simp; done) | (simp; omega) | decide)) ?_
  rintro v4 _ ⟨a4, c4, rfl, rfl⟩
  try simp only [List.cons_append, List.nil_append, List.append_nil]
  refine O.op (.p rfl) (.build (cs := [_]) Go.Proofs.Tryd.underlying126 rfl rfl rfl rfl rfl) ?_
  refine O.op (.p rfl) (.build (cs := [_, _, _]) Go.Proofs.Tryd.underlying128 rfl rfl rfl rfl rfl) ?_
  refine O.opE (.p rfl) (.box (cs := [_, _, _]) rfl rfl) ?_
  rintro _ _ ⟨b7, rfl, rfl⟩
  refine O.op (.p rfl) (.as rfl) ?_
  refine O.nil ?_
  refine S.ret Go.Proofs.Tryd.results73 rfl fun w hw => hR _ _ w ?_ hw.fst2
  exact ⟨b7, a4, c4, rfl, rfl⟩

theorem rGood_c {r : Fr} {b : Nat} {v : Value} {made bad : Bool} : Con Go.Proofs.Tryd.prog 88 #[.pointer (some ⟨b, 0, none⟩)] r [obj b 128 [v, .bool made, .bool bad]] (Ret fun u η => u = .bool (made && !bad) ∧ η = [obj b 128 [v, .bool made, .bool bad]]) := by
  refine Con.of (n := 18) [.pointer (some ⟨b, 0, none⟩)] rfl Go.Proofs.Tryd.func88 rfl rfl rfl fun g hg R hR => ?_
  refine S.seq (S.region rfl ?_)
  refine O.op (.p rfl) (.as rfl) ?_
  refine O.nil ?_
  refine S.seq (S.region rfl ?_)
  refine O.op (.p rfl) (.mv rfl) ?_
  refine O.op (.p rfl) (.neqP Go.Proofs.Tryd.underlying119 rfl rfl) ?_
  refine O.op (.p rfl) (.mv rfl) ?_
  refine O.op (.g rfl rfl) (.mv rfl) ?_
  refine O.op (.g rfl rfl) (.nilCheck rfl) ?_
  refine O.op (.g rfl rfl) (.fieldObj FactWire1.fld128x1 rfl) ?_
  refine O.op (.g rfl rfl) (.loadObj FactWire1.flat4 rfl (by repeat (first | exact Sel.here | apply Sel.there)) rfl) ?_
  refine O.op (.p rfl) (.pickT rfl rfl) ?_
  refine O.op (.p rfl) (.mv rfl) ?_
  first | refine O.caseD 11 rfl (fun h11 => ?_) (fun h11 => ?_) | refine O.caseB 11 rfl (fun h11 => ?_) (fun h11 => ?_)
  · subst h11
    refine O.op (.g rfl rfl) (.mv rfl) ?_
    refine O.op (.g rfl rfl) (.nilCheck rfl) ?_
    refine O.op (.g rfl rfl) (.fieldObj FactWire1.fld128x2 rfl) ?_
    refine O.op (.g rfl rfl) (.loadObj FactWire1.flat4 rfl (by repeat (first | exact Sel.here | apply Sel.there)) rfl) ?_
    refine O.op (.g rfl rfl) ((by first | exact .notD rfl | exact .not rfl)) ?_
    refine O.op (.p rfl) (.pickT rfl rfl) ?_
    refine O.op (.p rfl) (.as rfl) ?_
    refine O.nil ?_
    refine S.ret Go.Proofs.Tryd.results88 rfl fun w hw => hR _ _ w ?_ hw
    exact ⟨rfl, rfl⟩
  · subst h11
    refine O.opN rfl rfl rfl ?_
    refine O.opN rfl rfl rfl ?_
    refine O.opN rfl rfl rfl ?_
    refine O.opN rfl rfl rfl ?_
    refine O.opN rfl rfl rfl ?_
    refine O.op (.p rfl) (.pickF rfl rfl) ?_
    refine O.op (.p rfl) (.as rfl) ?_
    refine O.nil ?_
    refine S.ret Go.Proofs.Tryd.results88 rfl fun w hw => hR _ _ w ?_ hw
    exact ⟨rfl, rfl⟩
/-- what is thrown where something does not stand -/
def missing : List PanicEntry := [{ v := .iface 132 (.agg #[]), recovered := false }]
theorem must_c {r : Fr} (b : Bool) : Con Go.Proofs.Tryd.prog 95 #[.bool b] r [] (RetP (fun v η => b = true ∧ v = .tuple #[] ∧ η = []) (fun ch η => b = false ∧ ch = missing ∧ η = [])) := by
  refine Con.of (n := 6) [.bool b] rfl Go.Proofs.Tryd.func95 rfl rfl rfl fun g hg R hR => ?_
  refine S.seq (S.region rfl ?_)
  refine O.op (.p rfl) (.mv rfl) ?_
  refine O.op (.p rfl) ((by first | exact .notD rfl | exact .not rfl)) ?_
  refine O.nil ?_
  first | refine S.condD rfl (fun h3 => ?_) (fun h3 => ?_) | refine S.condB rfl (fun h3 => ?_) (fun h3 => ?_)
  · refine S.region rfl ?_
    refine O.op (.p rfl) (.build (cs := []) Go.Proofs.Tryd.underlying132 rfl rfl rfl rfl rfl) ?_
    refine O.op (.p rfl) (.mkIface Go.Proofs.Tryd.underlying132 rfl) ?_
    refine O.panic rfl rfl (fun w hw => ?_)
    exact hR _ [] w ⟨by simpa using h3, rfl, rfl⟩ hw
  · refine S.skip ?_
    refine S.end0 Go.Proofs.Tryd.results95 fun w hw => hR _ _ w ?_ hw
    exact ⟨by simpa using h3, rfl, rfl⟩

theorem take_c {r : Fr} {b T : Nat} {v : Value} {cs : List Value} {rest : List UInt8} (n : Int) (ha : Arr Rp.u8 r v rest) :
    Con Go.Proofs.Tryd.prog 90 #[.pointer (some ⟨b, 0, none⟩), .int .i64 n] r [obj b T (v :: cs)]
      (RetP (fun u η => (0 ≤ n ∧ n ≤ rest.length) ∧ ∃ a c v', u = .slice a (rest.take n.toNat).length c ∧ Arr Rp.u8 r (.slice a (rest.take n.toNat).length c) (rest.take n.toNat) ∧ Arr Rp.u8 r v' (rest.drop n.toNat) ∧ η = [obj b T (v' :: cs)]) (fun ch η => ¬(0 ≤ n ∧ n ≤ rest.length) ∧ ch = missing ∧ η = [obj b T (v :: cs)])) := by
  refine Con.of (n := 34) [.pointer (some ⟨b, 0, none⟩), .int .i64 n] rfl Go.Proofs.Tryd.func90 rfl rfl rfl fun g hg R hR => ?_
  have hbd := ha.bound
  obtain ⟨a1, c1, rfl⟩ := ha.shape
  refine S.seq (S.region rfl ?_)
  refine O.op (.p rfl) (.as rfl) ?_
  refine O.nil ?_
  refine S.seq (S.region rfl ?_)
  refine O.op (.p rfl) (.mv rfl) ?_
  refine O.op (.p rfl) (.geq rfl rfl) ?_
  refine O.op (.p rfl) (.mv rfl) ?_
  first | refine O.caseD 8 rfl (fun h8 => ?_) (fun h8 => ?_) | refine O.caseB 8 rfl (fun h8 => ?_) (fun h8 => ?_)
  · refine O.op (.g rfl rfl) (.mv rfl) ?_
    refine O.op (.g rfl rfl) (.mv rfl) ?_
    refine O.op (.g rfl rfl) (.nilCheck rfl) ?_
    refine O.op (.g rfl rfl) (.fieldObj FactWire1.fld126x0 rfl) ?_
    refine O.op (.g rfl rfl) (.loadObj FactWire1.flat23 rfl (by repeat (first | exact Sel.here | apply Sel.there)) rfl) ?_
    refine O.op (.g rfl rfl) (.len rfl Go.Proofs.Tryd.underlying23 rfl) ?_
    refine O.op (.g rfl rfl) (.leq rfl rfl) ?_
    refine O.op (.p rfl) (.pickT rfl rfl) ?_
    refine O.callP0 (.p rfl) rfl FactWire1.ok95 rfl rfl (must_c _) (fun ch η' w hX hW => by (obtain ⟨hb, rfl, rfl⟩ := hX; exact hR _ _ w ⟨by simp at hb; omega, rfl, rfl⟩ hW)) ?_
    rintro v17 _ ⟨hb17, rfl, rfl⟩
    try simp only [List.cons_append, List.nil_append, List.append_nil]
    have hb : 0 ≤ n ∧ n ≤ rest.length := by simp at hb17; omega
    refine O.nil ?_
    refine S.seq (S.region rfl ?_)
    refine O.op (.p rfl) (.mv rfl) ?_
    refine O.op (.p rfl) (.nilCheck rfl) ?_
    refine O.op (.p rfl) (.fieldObj FactWire1.fld126x0 rfl) ?_
    refine O.op (.p rfl) (.loadObj FactWire1.flat23 rfl (by repeat (first | exact Sel.here | apply Sel.there)) rfl) ?_
    refine O.op (.p rfl) (.mv rfl) ?_
    refine O.sliceTo (b := n.toNat) (.p rfl) Go.Proofs.Tryd.underlying23 FactWire1.size5 rfl rfl (by assumption) (by first | omega | (simp; done) | (simp; omega) | decide) (by first | omega | (simp; done) | (simp; omega) | decide) (fun u23 ha23 => ?_)
    obtain ⟨a23, c23, rfl⟩ := ha23.shape
    refine O.op (.p rfl) (.as rfl) ?_
    refine O.nil ?_
    refine S.seq (S.region rfl ?_)
    refine O.op (.p rfl) (.mv rfl) ?_
    refine O.op (.p rfl) (.mv rfl) ?_
    refine O.op (.p rfl) (.nilCheck rfl) ?_
    refine O.op (.p rfl) (.fieldObj FactWire1.fld126x0 rfl) ?_
    refine O.op (.p rfl) (.loadObj FactWire1.flat23 rfl (by repeat (first | exact Sel.here | apply Sel.there)) rfl) ?_
    refine O.op (.p rfl) (.mv rfl) ?_
    refine O.sliceFrom (a := n.toNat) (.p rfl) Go.Proofs.Tryd.underlying23 FactWire1.size5 rfl rfl (by assumption) (by first | omega | (simp; done) | (simp; omega) | decide) (by first | omega | (simp; done) | (simp; omega) | decide) (fun u30 ha30 => ?_)
    obtain ⟨a30, c30, rfl⟩ := ha30.shape
    refine O.op (.p rfl) (.nilCheck rfl) ?_
    refine O.op (.p rfl) (.fieldObj FactWire1.fld126x0 rfl) ?_
    refine O.opU rfl (.store1 FactWire1.flat23 rfl rfl (by first | rfl | assumption) (by repeat (first | exact Sel.here | apply Sel.there)) (by first | (simp; done) | (simp [Value.cells]; done))) ?_
    refine O.nil ?_
    refine S.seq (S.region rfl ?_)
    refine O.op (.p rfl) (.mv rfl) ?_
    refine O.op (.p rfl) (.as rfl) ?_
    refine O.nil ?_
    refine S.ret Go.Proofs.Tryd.results90 rfl fun w hw => hR _ _ w ?_ hw
    exact ⟨hb, _, _, _, rfl, ha23, ha30, rfl⟩
  · refine O.opN rfl rfl rfl ?_
    refine O.opN rfl rfl rfl ?_
    refine O.opN rfl rfl rfl ?_
    refine O.opN rfl rfl rfl ?_
    refine O.opN rfl rfl rfl ?_
    refine O.opN rfl rfl rfl ?_
    refine O.opN rfl rfl rfl ?_
    refine O.op (.p rfl) (.pickF rfl rfl) ?_
    refine O.callP0 (.p rfl) rfl FactWire1.ok95 rfl rfl (must_c _) (fun ch η' w hX hW => by (obtain ⟨hb, rfl, rfl⟩ := hX; exact hR _ _ w ⟨by omega, rfl, rfl⟩ hW)) ?_
    rintro v17 _ ⟨hb17, rfl, rfl⟩
    try simp only [List.cons_append, List.nil_append, List.append_nil]
    exact absurd hb17 (by simp)

theorem one_of {α : Type} {rest : List α} (h : (0 : Int) ≤ 1 ∧ (1 : Int) ≤ rest.length) : ∃ x xs, rest = x :: xs := by
  cases rest with
  | nil => simp at h
  | cons x xs => exact ⟨x, xs, rfl⟩
theorem none_of {α : Type} {rest : List α} (h : ¬((0 : Int) ≤ 1 ∧ (1 : Int) ≤ rest.length)) : rest = [] := by
  cases rest with
  | nil => rfl
  | cons x xs => simp at h; omega
/-- a number that bytes hold -/
def ofBe (xs : List UInt8) : Int := s64 (beVal (xs.take 8))
theorem ofBe_in (xs : List UInt8) : InI64 (ofBe xs) := s64_in _ (Nat.lt_of_lt_of_le (beVal_lt xs 8) (by decide))
theorem number_c {r : Fr} {b T : Nat} {v : Value} {cs : List Value} {rest : List UInt8} (ha : Arr Rp.u8 r v rest) :
    Con Go.Proofs.Tryd.prog 84 #[.pointer (some ⟨b, 0, none⟩)] r [obj b T (v :: cs)]
      (RetP (fun u η => 8 ≤ rest.length ∧ ∃ v', u = .int .i64 (ofBe rest) ∧ Arr Rp.u8 r v' (rest.drop 8) ∧ η = [obj b T (v' :: cs)]) (fun ch η => rest.length < 8 ∧ ch = missing ∧ η = [obj b T (v :: cs)])) := by
  refine Con.of (n := 21) [.pointer (some ⟨b, 0, none⟩)] rfl Go.Proofs.Tryd.func84 rfl rfl rfl fun g hg R hR => ?_
  refine S.seq (S.region rfl ?_)
  refine O.op (.p rfl) (.as rfl) ?_
  refine O.nil ?_
  refine S.seq (S.region rfl ?_)
  refine O.op (.p rfl) (.as rfl) ?_
  refine O.nil ?_
  refine S.seq (S.seq (S.region rfl ?_))
  refine O.op (.p rfl) (.mv rfl) ?_
  refine O.callPS (.p rfl) rfl FactWire1.ok90 rfl rfl (by repeat (first | exact Sel.here | apply Sel.there)) ((take_c 8 ha).sub hg) (fun ch η' w hX hW => by (obtain ⟨hb, rfl, rfl⟩ := hX; exact hR _ _ w ⟨by omega, rfl, rfl⟩ hW)) ?_
  rintro v7 _ ⟨hb7, a7, c7, v7, rfl, ha7, ha7', rfl⟩
  try simp only [List.cons_append, List.nil_append, List.append_nil]
  refine O.op (.p rfl) (.len rfl Go.Proofs.Tryd.underlying23 rfl) ?_
  refine O.op (.p rfl) (.mv rfl) ?_
  refine O.nil ?_
  refine S.block ?_
  have hl8 : (rest.take (Int.toNat 8)).length = 8 := by simp; omega
  refine S.loopK (ι := Nat) (fun i => i ≤ 8) (fun i => [(9, .int .i64 (i : Int)), (3, .int .u64 (beVal (rest.take i) : Nat))]) [(7, _), (8, _)] (fun i => [obj b T (v7 :: cs)]) (fun i => 8 - i) (0) (by simp) (.cons rfl (.cons rfl (.nil))) (.cons rfl (.cons rfl (.nil))) rfl fun i hx ih => ?_
  have hm1 := meltRefl (g := g)
  refine S.seq (S.region rfl ?_)
  refine O.op (.p rfl) (.lss rfl rfl) ?_
  refine O.nil ?_
  refine S.seq ?_
  first | refine S.condD rfl (fun h10 => ?_) (fun h10 => ?_) | refine S.condB rfl (fun h10 => ?_) (fun h10 => ?_)
  · have hi : i < 8 := by omega
    refine S.skip (S.seq (S.block (S.seq (S.region rfl ?_))))
    refine O.idx' (.p rfl) Go.Proofs.Tryd.underlying23 FactWire1.size5 rfl rfl rfl (by first | assumption | exact Arr.mono hg (by assumption) | exact Arr.left (by assumption) | exact Arr.left (Arr.mono hg (by assumption))) (by decide) (by first | omega | (simp; done) | (simp; omega) | decide) (fun p11 cs11 hp11 hr11 => ?_)
    cases hr11
    refine O.op (.p rfl) (.loadAt FactWire1.flat5 rfl hp11 rfl) ?_
    refine O.op (.p rfl) (.as rfl) ?_
    refine O.nil ?_
    refine S.region rfl ?_
    refine O.op (.p rfl) (.mv rfl) ?_
    refine O.op (.p rfl) (.shl rfl rfl (by omega)) ?_
    refine O.op (.p rfl) (.mv rfl) ?_
    refine O.op (.p rfl) (.cvt Go.Proofs.Tryd.underlying5 Go.Proofs.Tryd.underlying96 rfl) ?_
    refine O.op (.p rfl) (.or rfl rfl) ?_
    refine O.op (.p rfl) (.as rfl) ?_
    refine O.nil ?_
    refine S.inBlock (S.region rfl ?_)
    refine O.op (.p rfl) (.add rfl rfl (IntWalk.i64_in _ (by omega))) ?_
    refine O.op (.p rfl) (.mv rfl) ?_
    refine O.nil ?_
    rw [or_byte _ _ (beVal_lt7 rest i hi), show (rest.take (Int.toNat 8))[i] = rest[i] from by simp, ← beVal_take rest i (by omega)]
    refine S.weaken ?_ (ih (i + 1) (by omega) (by omega))
    repeat (first | exact Sub.nil | refine Sub.cons rfl ?_)
  · have hi : i = 8 := by omega
    subst hi
    refine S.exit rfl ?_
    refine S.seq (S.region rfl ?_)
    refine O.op (.p rfl) (.mv rfl) ?_
    refine O.op (.p rfl) (.cvt Go.Proofs.Tryd.underlying96 Go.Proofs.Tryd.underlying3 rfl) ?_
    refine O.op (.p rfl) (.as rfl) ?_
    refine O.nil ?_
    refine S.ret Go.Proofs.Tryd.results84 rfl fun w hw => hR _ _ w ?_ hw
    exact ⟨by omega, v7, by rw [wrap_i64_eq _ (Nat.lt_of_lt_of_le (beVal_lt rest 8) (by decide))]; rfl, ha7', rfl⟩

end Go.Proofs.YtcghiboamlaenaaDoor
