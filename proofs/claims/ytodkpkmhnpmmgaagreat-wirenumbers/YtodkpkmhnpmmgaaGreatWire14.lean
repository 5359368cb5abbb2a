import Derived.Test.YtodkpkmhnpmmgaaGreatWire13
import Derived.Test.YtodkpkmhnpmmgaaGreatSpZero
open Go Go.Sp
set_option maxRecDepth 100000
attribute [local irreducible] obj Own OwnP
namespace Go.Proofs.YtodkpkmhnpmmgaaGreat
theorem FactWire14.elem23 : elemIs Go.Proofs.Tryz.prog 23 1 24 [.slice none 0 0] := elemIs.mk (by kernel_rfl) rfl
theorem FactWire14.elem3 : elemIs Go.Proofs.Tryz.prog 3 1 8 [.int .i64 0] := elemIs.mk (by kernel_rfl) rfl
theorem FactWire14.elem43 : elemIs Go.Proofs.Tryz.prog 43 2 16 [.int .i64 0, .int .i64 0] := elemIs.mk (by kernel_rfl) rfl
theorem FactWire14.elem5 : elemIs Go.Proofs.Tryz.prog 5 1 1 [.int .u8 0] := elemIs.mk (by kernel_rfl) rfl
theorem FactWire14.flat3 : Go.Sp.flat1 Go.Proofs.Tryz.prog 3 = true := by kernel_rfl
theorem FactWire14.mixed : Go.Proofs.Tryz.prog.follows .mixedOrders = true := by kernel_rfl
theorem FactWire14.ok10 : callable Go.Proofs.Tryz.prog 10 = true := by kernel_rfl
theorem FactWire14.ok11 : callable Go.Proofs.Tryz.prog 11 = true := by kernel_rfl
theorem FactWire14.ok18 : callable Go.Proofs.Tryz.prog 18 = true := by kernel_rfl
theorem FactWire14.ok23 : callable Go.Proofs.Tryz.prog 23 = true := by kernel_rfl
theorem FactWire14.ok28 : callable Go.Proofs.Tryz.prog 28 = true := by kernel_rfl
theorem FactWire14.ok3 : callable Go.Proofs.Tryz.prog 3 = true := by kernel_rfl
theorem FactWire14.ok4 : callable Go.Proofs.Tryz.prog 4 = true := by kernel_rfl
theorem FactWire14.ok6 : callable Go.Proofs.Tryz.prog 6 = true := by kernel_rfl
theorem FactWire14.ok8 : callable Go.Proofs.Tryz.prog 8 = true := by kernel_rfl
theorem FactWire14.size3 : (Go.Proofs.Tryz.prog.info? 3).map (·.size) = some 1 := by kernel_rfl
theorem FactWire14.size5 : (Go.Proofs.Tryz.prog.info? 5).map (·.size) = some 1 := by kernel_rfl
@[simp] theorem drop8 (n : Int) (xs : List UInt8) : (be n ++ xs).drop 8 = xs := rfl
@[simp] theorem take8 (n : Int) (xs : List UInt8) : (be n ++ xs).take 8 = be n := rfl
theorem eight {xs : List UInt8} (h : 8 ≤ xs.length) : ∃ a b c d e f g i r, xs = a :: b :: c :: d :: e :: f :: g :: i :: r := by
  match xs, h with
  | a :: b :: c :: d :: e :: f :: g :: i :: r, _ => exact ⟨a, b, c, d, e, f, g, i, r, rfl⟩
theorem u64_s64 (n : Nat) (h : n < 18446744073709551616) : u64 (s64 n) = n := by unfold u64 s64; split <;> omega
theorem u8_ofNat (n : Nat) (c : UInt8) (h : n % 256 = c.toNat) : UInt8.ofNat n = c := by
  apply UInt8.toNat_inj.mp; rw [← h]; simp
theorem be_ofBe (xs : List UInt8) (h : 8 ≤ xs.length) : be (ofBe xs) = xs.take 8 := by
  obtain ⟨a, b, c, d, e, f, g, i, r, rfl⟩ := eight h
  have ha := a.toNat_lt; have hb := b.toNat_lt; have hc := c.toNat_lt; have hd := d.toNat_lt
  have he := e.toNat_lt; have hf := f.toNat_lt; have hg := g.toNat_lt; have hi := i.toNat_lt
  have hv : u64 (ofBe (a :: b :: c :: d :: e :: f :: g :: i :: r)) = ((((((a.toNat * 256 + b.toNat) * 256 + c.toNat) * 256 + d.toNat) * 256 + e.toNat) * 256 + f.toNat) * 256 + g.toNat) * 256 + i.toNat := by
    unfold ofBe; rw [u64_s64 _ (Nat.lt_of_lt_of_le (beVal_lt _ 8) (by decide))]; simp [beVal]
  simp only [be, beAt, hv, List.take_succ_cons, List.take_zero]
  simp only [show (256:Nat)^7 = 72057594037927936 from rfl, show (256:Nat)^6 = 281474976710656 from rfl, show (256:Nat)^5 = 1099511627776 from rfl, show (256:Nat)^4 = 4294967296 from rfl, show (256:Nat)^3 = 16777216 from rfl, show (256:Nat)^2 = 65536 from rfl, show (256:Nat)^1 = 256 from rfl, show (256:Nat)^0 = 1 from rfl]
  rw [u8_ofNat _ a (by omega), u8_ofNat _ b (by omega), u8_ofNat _ c (by omega), u8_ofNat _ d (by omega), u8_ofNat _ e (by omega), u8_ofNat _ f (by omega), u8_ofNat _ g (by omega), u8_ofNat _ i (by omega)]

abbrev AskR : Rp (Int × Int × Unit) := Rp.prod Rp.i64 (Rp.prod Rp.i64 Rp.unit)
theorem ask_rel (x y : Int) (hx : InI64 x) (hy : InI64 y) : AskR.rel Fr.emp [.int .i64 x, .int .i64 y] (x, y, ()) := ⟨[.int .i64 x], [.int .i64 y], rfl, ⟨rfl, hx⟩, [.int .i64 y], [], rfl, ⟨rfl, hy⟩, rfl⟩
theorem in0 : InI64 0 := by unfold InI64; omega
theorem in1 : InI64 1 := by unfold InI64; omega
theorem in2 : InI64 2 := by unfold InI64; omega
theorem in9 : InI64 9 := by unfold InI64; omega
/-- the asks are lent -/
theorem WireReads_o {r : Fr} {vb va : Value} {xs : List UInt8} {asks : List (Int × Int × Unit)} (hb : Arr Rp.u8 r vb xs) :
    Con Go.Proofs.Tryz.prog 4 #[vb, va] r [OwnP AskR 43 va asks] (Ret fun v η => v = .bool true ∧ η = []) :=
  Con.lentD (η := []) (bs := [_]) fun _ hm hd => WireReads_c hb.left (hm.arr.right hd)
/-- the first one is one's own, and let go -/
theorem SameBytes_p {r : Fr} {va vb : Value} {xs ys : List UInt8} (hb : Arr Rp.u8 r vb ys) :
    Con Go.Proofs.Tryz.prog 10 #[va, vb] r [OwnP Rp.u8 5 va xs] (Ret fun v η => v = .bool (decide (xs = ys)) ∧ η = []) :=
  Con.lentD (η := []) (bs := [_]) fun _ hm hd => SameBytes_c (hm.arr.right hd) hb.left
theorem within3 : Within (Within Anyv) [([] : List UInt8), [], [1]] := by
  refine ⟨by simp, fun x hx => ⟨?_, fun _ _ => trivial⟩⟩
  simp only [List.mem_cons, List.not_mem_nil, or_false] at hx
  rcases hx with rfl | rfl | rfl <;> simp
theorem WireNumbers_c {r : Fr} : Con Go.Proofs.Tryz.prog 5 #[] r [] (Ret fun v η => v = .bool true ∧ η = []) := by
  refine Con.of (n := 125) [] rfl Go.Proofs.Tryz.func5 rfl rfl rfl fun g hg R hR => ?_
  refine S.seq (S.region rfl ?_)
  refine O.op (.p rfl) (.as rfl) ?_
  refine O.nil ?_
  refine S.seq (S.region rfl ?_)
  refine O.opE (.p rfl) (.litP (T := Rp.i64) (ys := [-9223372036854775808, -9223372036854775807, -256, -1, 0, 1, 2, 3, 4, 255, 256, 4294967296, 4611686018427387909, 9223372036854775807]) Go.Proofs.Tryz.underlying46 FactWire14.elem3 (by decide) rfl rfl ⟨⟨rfl, by first | assumption | (constructor <;> omega)⟩, ⟨rfl, by first | assumption | (constructor <;> omega)⟩, ⟨rfl, by first | assumption | (constructor <;> omega)⟩, ⟨rfl, by first | assumption | (constructor <;> omega)⟩, ⟨rfl, by first | assumption | (constructor <;> omega)⟩, ⟨rfl, by first | assumption | (constructor <;> omega)⟩, ⟨rfl, by first | assumption | (constructor <;> omega)⟩, ⟨rfl, by first | assumption | (constructor <;> omega)⟩, ⟨rfl, by first | assumption | (constructor <;> omega)⟩, ⟨rfl, by first | assumption | (constructor <;> omega)⟩, ⟨rfl, by first | assumption | (constructor <;> omega)⟩, ⟨rfl, by first | assumption | (constructor <;> omega)⟩, ⟨rfl, by first | assumption | (constructor <;> omega)⟩, ⟨rfl, by first | assumption | (constructor <;> omega)⟩, trivial⟩ (by decide)) ?_
  rintro _ _ ⟨a14, c14, rfl, rfl⟩
  refine O.frzA (by repeat (first | exact Sel.here | apply Sel.there)) fun g hs hm ha14 => ?_
  replace hg := Fr.sub_trans hg hs
  replace hR := melted hR hm
  clear hs hm
  refine O.op (.p rfl) (.as rfl) ?_
  refine O.nil ?_
  refine S.seq (S.seq (S.region rfl ?_))
  refine O.op (.p rfl) (.as rfl) ?_
  refine O.nil ?_
  refine S.block ?_
  obtain ⟨ns, hns, hnl⟩ : ∃ ns : List Int, Arr Rp.i64 g.h (.slice a14 14 c14) ns ∧ ns.length = 14 := ⟨_, ha14, rfl⟩
  clear ha14
  refine S.loopK (ι := Nat) (fun i => i ≤ 14) (fun i => [(2, .int .i64 (i : Int))]) [(1, _)] (fun i => []) (fun i => 14 - i) (0) (by simp) (.cons rfl (.nil)) (.cons rfl (.nil)) rfl fun i hx ih => ?_
  have hm1 := meltRefl (g := g)
  refine S.seq (S.seq (S.region rfl ?_))
  refine O.op (.p rfl) (.mv rfl) ?_
  refine O.op (.p rfl) (.mv rfl) ?_
  refine O.op (.p rfl) (.len rfl Go.Proofs.Tryz.underlying46 rfl) ?_
  refine O.op (.p rfl) (.lss rfl rfl) ?_
  refine O.nil ?_
  first | refine S.condD rfl (fun h18 => ?_) (fun h18 => ?_) | refine S.condB rfl (fun h18 => ?_) (fun h18 => ?_)
  · have hi : i < 14 := by omega
    refine S.skip (S.seq (S.block (S.seq (S.seq (S.region rfl ?_)))))
    refine O.op (.p rfl) (.mv rfl) ?_
    refine O.op (.p rfl) (.mv rfl) ?_
    refine O.idx' (.p rfl) Go.Proofs.Tryz.underlying46 FactWire14.size3 rfl rfl rfl (by first | assumption | exact Arr.mono hg (by assumption) | exact Arr.left (by assumption) | exact Arr.left (Arr.mono hg (by assumption))) (by decide) (by first | omega | (simp; done) | (simp; omega) | decide) (fun p23 cs23 hp23 hr23 => ?_)
    obtain ⟨rfl, hz23⟩ := hr23
    refine O.op (.p rfl) (.loadAt FactWire14.flat3 rfl hp23 rfl) ?_
    refine O.call0 (.p rfl) rfl FactWire14.ok3 rfl rfl ((WirePuts_c _ Arr.nil ⟨by simp, by simp⟩)) ?_
    rintro v25 _ ⟨rfl, rfl⟩
    try simp only [List.cons_append, List.nil_append, List.append_nil]
    refine O.slot 25 (v' := .bool true) rfl (congrArg Value.bool (by first | decide | simp)) ?_
    refine O.op (.p rfl) (.not rfl) ?_
    refine O.nil ?_
    refine S.condF rfl ?_
    refine S.skip (S.seq (S.region rfl ?_))
    refine O.op (.p rfl) (.as rfl) ?_
    refine O.nil ?_
    refine S.block ?_
    refine S.loopK (ι := Nat) (fun j => j ≤ 5) (fun j => [(3, .int .i64 (j : Int))]) [(1, _), (2, _)] (fun j => []) (fun j => 5 - j) (0) (by simp) (.cons rfl (.nil)) (.cons rfl (.cons rfl (.nil))) rfl fun j hx ih => ?_
    have hm2 := meltRefl (g := g)
    refine S.seq (S.seq (S.region rfl ?_))
    refine O.op (.p rfl) (.mv rfl) ?_
    refine O.op (.p rfl) (.lss rfl rfl) ?_
    refine O.nil ?_
    first | refine S.condD rfl (fun h28 => ?_) (fun h28 => ?_) | refine S.condB rfl (fun h28 => ?_) (fun h28 => ?_)
    · have hj : j < 5 := by omega
      refine S.skip (S.seq (S.block (S.seq (S.region rfl ?_))))
      refine O.op (.p rfl) (.mv rfl) ?_
      refine O.op (.p rfl) (.mv rfl) ?_
      refine O.idx' (.p rfl) Go.Proofs.Tryz.underlying46 FactWire14.size3 rfl rfl rfl (by first | assumption | exact Arr.mono hg (by assumption) | exact Arr.left (by assumption) | exact Arr.left (Arr.mono hg (by assumption))) (by decide) (by first | omega | (simp; done) | (simp; omega) | decide) (fun p33 cs33 hp33 hr33 => ?_)
      obtain ⟨rfl, hz33⟩ := hr33
      refine O.op (.p rfl) (.loadAt FactWire14.flat3 rfl hp33 rfl) ?_
      refine O.call0 (.p rfl) rfl FactWire14.ok11 rfl rfl ((refNumber_c _)) ?_
      rintro v35 _ ⟨a35, c35, rfl, rfl⟩
      try simp only [List.cons_append, List.nil_append, List.append_nil]
      refine O.op (.p rfl) (.mv rfl) ?_
      refine O.opE (.p rfl) (.appendZ (T := Rp.u8) (a := 0) (m := j) Go.Proofs.Tryz.underlying23 Go.Proofs.Tryz.underlying3 FactWire14.elem5 (by decide) rfl rfl rfl rfl (by repeat (first | exact Sel.here | apply Sel.there)) (by simp) (by simp; omega) (by simp; omega)) ?_
      rintro v37 _ ⟨a37, c37, rfl, rfl⟩
      refine O.frzA (by repeat (first | exact Sel.here | apply Sel.there)) fun g hs hm ha37 => ?_
      replace hg := Fr.sub_trans hg hs
      replace hR := melted hR hm
      try replace ha14 := ha14.mono hs
      try replace hns := hns.mono hs
      try replace hp23 := hp23.mono hs
      try replace hp33 := hp33.mono hs
      replace hm1 := meltTrans hm1 hm
      replace hm2 := meltTrans hm2 hm
      clear hs hm
      refine O.op (.p rfl) (.as rfl) ?_
      refine O.nil ?_
      refine S.seq (S.region rfl ?_)
      refine O.op (.p rfl) (.as rfl) ?_
      refine O.nil ?_
      refine S.block ?_
      refine S.loopK (ι := Nat) (fun k => k ≤ 14) (fun k => [(5, .int .i64 (k : Int))]) [(1, _), (2, _), (3, _), (4, _)] (fun k => []) (fun k => 14 - k) (0) (by simp) (.cons rfl (.nil)) (.cons rfl (.cons rfl (.cons rfl (.cons rfl (.nil))))) rfl fun k hx ih => ?_
      have hm3 := meltRefl (g := g)
      refine S.seq (S.seq (S.region rfl ?_))
      refine O.op (.p rfl) (.mv rfl) ?_
      refine O.op (.p rfl) (.mv rfl) ?_
      refine O.op (.p rfl) (.len rfl Go.Proofs.Tryz.underlying46 rfl) ?_
      refine O.op (.p rfl) (.lss rfl rfl) ?_
      refine O.nil ?_
      first | refine S.condD rfl (fun h41 => ?_) (fun h41 => ?_) | refine S.condB rfl (fun h41 => ?_) (fun h41 => ?_)
      · have hk : k < 14 := by omega
        refine S.skip (S.seq (S.block (S.seq (S.region rfl ?_))))
        refine O.op (.p rfl) (.as rfl) ?_
        refine O.nil ?_
        refine S.block ?_
        refine S.loopK (ι := Nat) (fun q => q ≤ 4) (fun q => [(6, .int .i64 (q : Int))]) [(1, _), (2, _), (3, _), (4, _), (5, _)] (fun q => []) (fun q => 4 - q) (0) (by simp) (.cons rfl (.nil)) (.cons rfl (.cons rfl (.cons rfl (.cons rfl (.cons rfl (.nil)))))) rfl fun q hx ih => ?_
        have hm4 := meltRefl (g := g)
        refine S.seq (S.seq (S.region rfl ?_))
        refine O.op (.p rfl) (.mv rfl) ?_
        refine O.op (.p rfl) (.lss rfl rfl) ?_
        refine O.nil ?_
        first | refine S.condD rfl (fun h45 => ?_) (fun h45 => ?_) | refine S.condB rfl (fun h45 => ?_) (fun h45 => ?_)
        · have hq : q < 4 := by omega
          have hq' : InI64 (q : Int) := by unfold InI64; omega
          refine S.skip (S.seq (S.block (S.seq (S.regionD (L := [0, 1, 2, 3, 4, 5, 6, 7, 8, 9, 10, 11, 12, 13, 14, 15, 16, 17]) FactWire14.mixed (by kernel_rfl) ?_))))
          refine .quiet (.p rfl) rfl (fun _ => .mv rfl) ?_
          refine .quiet (.p rfl) rfl (fun _ => .mv rfl) ?_
          refine .quiet (.p rfl) rfl (fun _ => .mv rfl) ?_
          refine .quiet (.p rfl) rfl (fun _ => .mv rfl) ?_
          refine OD.idx' (.p rfl) Go.Proofs.Tryz.underlying46 FactWire14.size3 rfl rfl rfl (by first | assumption | exact Arr.mono hg (by assumption) | exact Arr.left (by assumption) | exact Arr.left (Arr.mono hg (by assumption))) (by decide) (by first | omega | (simp; done) | (simp; omega) | decide) (fun p52 cs52 hp52 hr52 => ?_)
          obtain ⟨rfl, hz52⟩ := hr52
          refine .quiet (.p rfl) rfl (fun _ => .loadAt FactWire14.flat3 rfl hp52 rfl) ?_
          refine .quiet (.p rfl) rfl (fun _ => .build (cs := [_, _]) Go.Proofs.Tryz.underlying43 rfl rfl rfl rfl rfl) ?_
          refine .quiet (.p rfl) rfl (fun _ => .mv rfl) ?_
          refine .quiet (.p rfl) rfl (fun _ => .mv rfl) ?_
          refine .quiet (.p rfl) rfl (fun _ => .mv rfl) ?_
          refine OD.idx' (.p rfl) Go.Proofs.Tryz.underlying46 FactWire14.size3 rfl rfl rfl (by first | assumption | exact Arr.mono hg (by assumption) | exact Arr.left (by assumption) | exact Arr.left (Arr.mono hg (by assumption))) (by decide) (by first | omega | (simp; done) | (simp; omega) | decide) (fun p58 cs58 hp58 hr58 => ?_)
          obtain ⟨rfl, hz58⟩ := hr58
          refine .quiet (.p rfl) rfl (fun _ => .loadAt FactWire14.flat3 rfl hp58 rfl) ?_
          refine .quiet (.p rfl) rfl (fun _ => .build (cs := [_, _]) Go.Proofs.Tryz.underlying43 rfl rfl rfl rfl rfl) ?_
          refine .quiet (.p rfl) rfl (fun _ => .build (cs := [_, _]) Go.Proofs.Tryz.underlying43 rfl rfl rfl rfl rfl) ?_
          refine .quiet (.p rfl) rfl (fun _ => .build (cs := [_, _]) Go.Proofs.Tryz.underlying43 rfl rfl rfl rfl rfl) ?_
          refine OD.litP (T := AskR) (ys := [((q : Int), ns[k], ()), ((q : Int), ns[k], ()), (0, 0, ()), (0, 0, ())]) (.p rfl) (by kernel_rfl) Go.Proofs.Tryz.underlying33 FactWire14.elem43 (by decide) rfl rfl ⟨ask_rel _ _ hq' hz52, ask_rel _ _ hq' hz52, ask_rel _ _ in0 in0, ask_rel _ _ in0 in0, trivial⟩ (by decide) (fun a63 c63 => ?_)
          refine OD.callSs (.p rfl) (by kernel_rfl) rfl FactWire14.ok4 rfl rfl (by repeat (first | exact Sels.nil | (apply Sels.cons; focus (repeat (first | exact Sel.here | apply Sel.there))))) (WireReads_o (by first | assumption | exact Arr.mono hg (by assumption) | exact Arr.left (by assumption) | exact Arr.left (Arr.mono hg (by assumption)))) ?_
          rintro v64 _ ⟨rfl, rfl⟩
          try simp only [List.cons_append, List.nil_append, List.append_nil]
          refine OD.slot 64 (v' := .bool true) rfl (congrArg Value.bool (by first | decide | simp)) ?_
          refine .quiet (.p rfl) rfl (fun _ => .not rfl) ?_
          refine .nil ?_
          refine S.condF rfl ?_
          refine S.skip (S.inBlock (S.region rfl ?_))
          refine O.op (.p rfl) (.mv rfl) ?_
          refine O.op (.p rfl) (.add rfl rfl (IntWalk.i64_in _ (by omega))) ?_
          refine O.op (.p rfl) (.as rfl) ?_
          refine O.nil ?_
          refine S.pk ?_ (S.weaken ?_ (ih (q + 1) (by omega) (by omega)))
          · repeat (first | exact Picks.all | exact Picks.nil | (apply Picks.cons; focus (repeat (first | exact Sel.here | apply Sel.there))) | apply Picks.skip)
          repeat (first | exact Sub.nil | refine Sub.cons rfl ?_)
        · clear ih
          refine S.exit rfl ?_
          refine S.inBlock (S.region rfl ?_)
          refine O.op (.p rfl) (.mv rfl) ?_
          refine O.op (.p rfl) (.add rfl rfl (IntWalk.i64_in _ (by omega))) ?_
          refine O.op (.p rfl) (.as rfl) ?_
          refine O.nil ?_
          refine S.weaken ?_ (ih (k + 1) (by omega) (by omega))
          repeat (first | exact Sub.nil | refine Sub.cons rfl ?_)
      · clear ih
        refine S.exit rfl ?_
        refine S.inBlock (S.region rfl ?_)
        refine O.op (.p rfl) (.mv rfl) ?_
        refine O.op (.p rfl) (.add rfl rfl (IntWalk.i64_in _ (by omega))) ?_
        refine O.op (.p rfl) (.as rfl) ?_
        refine O.nil ?_
        refine S.melt hm2 (S.weaken ?_ (ih (j + 1) (by omega) (by omega)))
        repeat (first | exact Sub.nil | refine Sub.cons rfl ?_)
    · clear ih
      refine S.exit rfl ?_
      refine S.inBlock (S.region rfl ?_)
      refine O.op (.p rfl) (.mv rfl) ?_
      refine O.op (.p rfl) (.add rfl rfl (IntWalk.i64_in _ (by omega))) ?_
      refine O.op (.p rfl) (.as rfl) ?_
      refine O.nil ?_
      refine S.weaken ?_ (ih (i + 1) (by omega) (by omega))
      repeat (first | exact Sub.nil | refine Sub.cons rfl ?_)
  · clear ih
    refine S.exit rfl ?_
    refine S.seq (S.seq (S.region rfl ?_))
    refine O.op (.p rfl) (.as rfl) ?_
    refine O.nil ?_
    refine S.block ?_
    refine S.loopK (ι := Nat) (fun n => n ≤ 10) (fun n => [(7, .int .i64 (n : Int))]) [] (fun n => []) (fun n => 10 - n) (0) (by simp) (.cons rfl (.nil)) (.nil) rfl fun n hx ih => ?_
    have hm2 := meltRefl (g := g)
    refine S.seq (S.seq (S.region rfl ?_))
    refine O.op (.p rfl) (.mv rfl) ?_
    refine O.op (.p rfl) (.lss rfl rfl) ?_
    refine O.nil ?_
    first | refine S.condD rfl (fun h67 => ?_) (fun h67 => ?_) | refine S.condB rfl (fun h67 => ?_) (fun h67 => ?_)
    · have hn : n < 10 := by omega
      refine S.skip (S.seq (S.block (S.seq (S.region rfl ?_))))
      refine O.op (.p rfl) (.mv rfl) ?_
      refine O.opE (.p rfl) (.makeP (T := Rp.u8) (0 : UInt8) (m := n) Go.Proofs.Tryz.underlying23 FactWire14.elem5 (by decide) rfl rfl rfl rfl rfl (by omega) (by omega)) ?_
      rintro v71 _ ⟨a71, c71, rfl, rfl⟩
      refine O.frzA (by repeat (first | exact Sel.here | apply Sel.there)) fun g hs hm ha71 => ?_
      replace hg := Fr.sub_trans hg hs
      replace hR := melted hR hm
      try replace ha14 := ha14.mono hs
      try replace hns := hns.mono hs
      replace hm1 := meltTrans hm1 hm
      replace hm2 := meltTrans hm2 hm
      clear hs hm
      refine O.op (.p rfl) (.as rfl) ?_
      refine O.nil ?_
      refine S.seq (S.region rfl ?_)
      refine O.op (.p rfl) (.mv rfl) ?_
      refine O.op (.p rfl) (.build (cs := [_, _]) Go.Proofs.Tryz.underlying43 rfl rfl rfl rfl rfl) ?_
      refine O.op (.p rfl) (.build (cs := [_, _]) Go.Proofs.Tryz.underlying43 rfl rfl rfl rfl rfl) ?_
      refine O.op (.p rfl) (.build (cs := [_, _]) Go.Proofs.Tryz.underlying43 rfl rfl rfl rfl rfl) ?_
      refine O.opE (.p rfl) (.litP (T := AskR) (ys := [(1, 0, ()), (0, 0, ()), (1, 0, ())]) Go.Proofs.Tryz.underlying33 FactWire14.elem43 (by decide) rfl rfl ⟨ask_rel 1 0 in1 in0, ask_rel 0 0 in0 in0, ask_rel 1 0 in1 in0, trivial⟩ (by decide)) ?_
      rintro v76 _ ⟨a76, c76, rfl, rfl⟩
      refine O.callSs (.p rfl) rfl FactWire14.ok4 rfl rfl (by repeat (first | exact Sels.nil | (apply Sels.cons; focus (repeat (first | exact Sel.here | apply Sel.there))))) (WireReads_o (by first | assumption | exact Arr.mono hg (by assumption) | exact Arr.left (by assumption) | exact Arr.left (Arr.mono hg (by assumption)))) ?_
      rintro v77 _ ⟨rfl, rfl⟩
      try simp only [List.cons_append, List.nil_append, List.append_nil]
      refine O.slot 77 (v' := .bool true) rfl (congrArg Value.bool (by first | decide | simp)) ?_
      refine O.op (.p rfl) (.not rfl) ?_
      refine O.op (.p rfl) (.mv rfl) ?_
      refine O.op (.g rfl rfl) (.mv rfl) ?_
      refine O.op (.g rfl rfl) (.build (cs := [_, _]) Go.Proofs.Tryz.underlying43 rfl rfl rfl rfl rfl) ?_
      refine O.op (.g rfl rfl) (.build (cs := [_, _]) Go.Proofs.Tryz.underlying43 rfl rfl rfl rfl rfl) ?_
      refine O.op (.g rfl rfl) (.build (cs := [_, _]) Go.Proofs.Tryz.underlying43 rfl rfl rfl rfl rfl) ?_
      refine O.op (.g rfl rfl) (.build (cs := [_, _]) Go.Proofs.Tryz.underlying43 rfl rfl rfl rfl rfl) ?_
      refine O.op (.g rfl rfl) (.build (cs := [_, _]) Go.Proofs.Tryz.underlying43 rfl rfl rfl rfl rfl) ?_
      refine O.opE (.g rfl rfl) (.litP (T := AskR) (ys := [(0, 0, ()), (2, 9, ()), (0, 0, ()), (0, 0, ()), (0, 0, ())]) Go.Proofs.Tryz.underlying33 FactWire14.elem43 (by decide) rfl rfl ⟨ask_rel 0 0 in0 in0, ask_rel 2 9 in2 in9, ask_rel 0 0 in0 in0, ask_rel 0 0 in0 in0, ask_rel 0 0 in0 in0, trivial⟩ (by decide)) ?_
      rintro v86 _ ⟨a86, c86, rfl, rfl⟩
      refine O.callSs (.g rfl rfl) rfl FactWire14.ok4 rfl rfl (by repeat (first | exact Sels.nil | (apply Sels.cons; focus (repeat (first | exact Sel.here | apply Sel.there))))) (WireReads_o (by first | assumption | exact Arr.mono hg (by assumption) | exact Arr.left (by assumption) | exact Arr.left (Arr.mono hg (by assumption)))) ?_
      rintro v87 _ ⟨rfl, rfl⟩
      try simp only [List.cons_append, List.nil_append, List.append_nil]
      refine O.slot 87 (v' := .bool true) rfl (congrArg Value.bool (by first | decide | simp)) ?_
      refine O.op (.g rfl rfl) (.not rfl) ?_
      refine O.op (.p rfl) (.pickF rfl rfl) ?_
      refine O.nil ?_
      refine S.condF rfl ?_
      refine S.skip (S.inBlock (S.region rfl ?_))
      refine O.op (.p rfl) (.mv rfl) ?_
      refine O.op (.p rfl) (.add rfl rfl (IntWalk.i64_in _ (by omega))) ?_
      refine O.op (.p rfl) (.as rfl) ?_
      refine O.nil ?_
      refine S.pk ?_ (S.melt hm2 (S.weaken ?_ (ih (n + 1) (by omega) (by omega))))
      · repeat (first | exact Picks.all | exact Picks.nil | (apply Picks.cons; focus (repeat (first | exact Sel.here | apply Sel.there))) | apply Picks.skip)
      repeat (first | exact Sub.nil | refine Sub.cons rfl ?_)
    · clear ih
      refine S.exit rfl ?_
      refine S.seq (S.seq (S.region rfl ?_))
      refine O.op (.p rfl) (.as rfl) ?_
      refine O.nil ?_
      refine S.block ?_
      refine S.loopK (ι := Nat) (fun pl => pl ≤ 8) (fun pl => [(9, .int .i64 (pl : Int))]) [] (fun pl => []) (fun pl => 8 - pl) (0) (by simp) (.cons rfl (.nil)) (.nil) rfl fun pl hx ih => ?_
      have hm3 := meltRefl (g := g)
      refine S.seq (S.seq (S.region rfl ?_))
      refine O.op (.p rfl) (.mv rfl) ?_
      refine O.op (.p rfl) (.lss rfl rfl) ?_
      refine O.nil ?_
      first | refine S.condD rfl (fun h91 => ?_) (fun h91 => ?_) | refine S.condB rfl (fun h91 => ?_) (fun h91 => ?_)
      · have hpl : pl < 8 := by omega
        refine S.skip (S.seq (S.block (S.seq (S.region rfl ?_))))
        refine O.op (.p rfl) (.as rfl) ?_
        refine O.nil ?_
        refine S.block ?_
        refine S.loopK (ι := Nat) (fun c => c ≤ 256) (fun c => [(10, .int .i64 (c : Int))]) [(9, _)] (fun c => []) (fun c => 256 - c) (0) (by simp) (.cons rfl (.nil)) (.cons rfl (.nil)) rfl fun c hx ih => ?_
        have hm4 := meltRefl (g := g)
        refine S.seq (S.seq (S.region rfl ?_))
        refine O.op (.p rfl) (.mv rfl) ?_
        refine O.op (.p rfl) (.lss rfl rfl) ?_
        refine O.nil ?_
        first | refine S.condD rfl (fun h95 => ?_) (fun h95 => ?_) | refine S.condB rfl (fun h95 => ?_) (fun h95 => ?_)
        · have hc : c < 256 := by omega
          obtain ⟨ys, hys, hyl⟩ : ∃ ys, (List.replicate 8 (0 : UInt8)).set pl (byteOf (c : Int)) = ys ∧ ys.length = 8 := ⟨_, rfl, by simp⟩
          have hE : rNum (true && !false) ys = (ofBe ys, [], false) := by unfold rNum; rw [Bool.not_false, Bool.and_true, if_pos rfl, if_pos (by omega), List.drop_eq_nil_of_le (by omega)]
          have hbe : be (ofBe ys) = ys := by rw [be_ofBe ys (by omega), List.take_of_length_le (by omega)]
          refine S.skip (S.seq (S.block (S.seq (S.region rfl ?_))))
          refine O.opE (.p rfl) (.makeP (T := Rp.u8) (0 : UInt8) (m := 8) Go.Proofs.Tryz.underlying23 FactWire14.elem5 (by decide) rfl rfl rfl rfl rfl (by decide) (by decide)) ?_
          rintro v98 _ ⟨a98, c98, rfl, rfl⟩
          refine O.op (.p rfl) (.as rfl) ?_
          refine O.nil ?_
          refine S.seq (S.region rfl ?_)
          refine O.op (.p rfl) (.mv rfl) ?_
          refine O.op (.p rfl) (.mv rfl) ?_
          refine O.op (.p rfl) (.mv rfl) ?_
          refine O.op (.p rfl) (.cvt Go.Proofs.Tryz.underlying3 Go.Proofs.Tryz.underlying5 rfl) ?_
          refine O.opE (.p rfl) (.idxOwn (T := Rp.u8) Go.Proofs.Tryz.underlying23 FactWire14.size5 rfl rfl (show _ = (((pl) : Nat) : Int) by omega) (by repeat (first | exact Sel.here | apply Sel.there)) (by first | omega | (simp; done) | (simp; omega))) ?_
          rintro _ _ ⟨p103, rfl, hp103, rfl⟩
          refine O.opU rfl (.storeOwn FactWire14.size5 rfl hp103 rfl (by repeat (first | exact Sel.here | apply Sel.there)) (by first | omega | (simp; done) | (simp; omega)) (show _ = _ by exact congrArg (fun v => [v]) (wrapB _) : Rp.rel _ _ _ (byteOf (c : Int)))) ?_
          refine O.nil ?_
          refine S.seq ?_
          rw [hys]
          refine S.frzA (by repeat (first | exact Sel.here | apply Sel.there)) fun g hs hm hb8 => ?_
          replace hg := Fr.sub_trans hg hs
          replace hR := melted hR hm
          try replace ha14 := ha14.mono hs
          try replace hns := hns.mono hs
          replace hm1 := meltTrans hm1 hm
          replace hm2 := meltTrans hm2 hm
          replace hm3 := meltTrans hm3 hm
          replace hm4 := meltTrans hm4 hm
          clear hs hm
          refine S.region rfl ?_
          refine O.op (.p rfl) (.mv rfl) ?_
          refine O.call0 (.p rfl) rfl FactWire14.ok18 rfl rfl ((wNewReader_c (xs := ys) (by first | exact hb8) (by omega))) ?_
          rintro v105 _ ⟨b105, a105, c105, rfl, rfl⟩
          try simp only [List.cons_append, List.nil_append, List.append_nil]
          refine O.frzA (by repeat (first | exact Sel.here | apply Sel.there)) fun g hs hm ha105 => ?_
          replace hg := Fr.sub_trans hg hs
          replace hR := melted hR hm
          try replace ha14 := ha14.mono hs
          try replace hns := hns.mono hs
          try replace hb8 := hb8.mono hs
          replace hm1 := meltTrans hm1 hm
          replace hm2 := meltTrans hm2 hm
          replace hm3 := meltTrans hm3 hm
          replace hm4 := meltTrans hm4 hm
          clear hs hm
          refine O.op (.p rfl) (.as rfl) ?_
          refine O.nil ?_
          refine S.seq (S.region rfl ?_)
          refine O.op (.p rfl) (.mv rfl) ?_
          refine O.callS (.p rfl) rfl FactWire14.ok28 rfl rfl (by repeat (first | exact Sel.here | apply Sel.there)) (rNumber_e (rest := ys) ha105 hE rfl) ?_
          rintro v107 _ ⟨v107, rfl, ha107, rfl⟩
          try simp only [List.cons_append, List.nil_append, List.append_nil]
          refine O.op (.p rfl) (.as rfl) ?_
          refine O.nil ?_
          refine S.seq (S.region rfl ?_)
          refine O.op (.p rfl) (.mv rfl) ?_
          refine O.call0 (.p rfl) rfl FactWire14.ok8 rfl rfl ((wNumber_c _)) ?_
          rintro v109 _ ⟨a109, c109, rfl, rfl⟩
          try simp only [List.cons_append, List.nil_append, List.append_nil]
          refine O.op (.p rfl) (.mv rfl) ?_
          refine O.callSs (.p rfl) rfl FactWire14.ok10 rfl rfl (by repeat (first | exact Sels.nil | (apply Sels.cons; focus (repeat (first | exact Sel.here | apply Sel.there))))) (SameBytes_p (ys := ys) hb8) ?_
          rintro v111 _ ⟨rfl, rfl⟩
          try simp only [List.cons_append, List.nil_append, List.append_nil]
          refine O.slot 111 (v' := .bool true) rfl (congrArg Value.bool (by rw [hbe]; simp)) ?_
          refine O.op (.p rfl) (.not rfl) ?_
          refine O.op (.p rfl) (.mv rfl) ?_
          refine O.op (.g rfl rfl) (.mv rfl) ?_
          refine O.callS (.g rfl rfl) rfl FactWire14.ok23 rfl rfl (by repeat (first | exact Sel.here | apply Sel.there)) (rDone_c ha107) ?_
          rintro v115 _ ⟨rfl, rfl⟩
          try simp only [List.cons_append, List.nil_append, List.append_nil]
          refine O.slot 115 (v' := .bool true) rfl (congrArg Value.bool (by first | decide | simp)) ?_
          refine O.op (.g rfl rfl) (.not rfl) ?_
          refine O.op (.p rfl) (.pickF rfl rfl) ?_
          refine O.nil ?_
          refine S.condF rfl ?_
          refine S.skip (S.inBlock (S.region rfl ?_))
          refine O.op (.p rfl) (.mv rfl) ?_
          refine O.op (.p rfl) (.add rfl rfl (IntWalk.i64_in _ (by omega))) ?_
          refine O.op (.p rfl) (.as rfl) ?_
          refine O.nil ?_
          refine S.pk ?_ (S.melt hm4 (S.weaken ?_ (ih (c + 1) (by omega) (by omega))))
          · repeat (first | exact Picks.all | exact Picks.nil | (apply Picks.cons; focus (repeat (first | exact Sel.here | apply Sel.there))) | apply Picks.skip)
          repeat (first | exact Sub.nil | refine Sub.cons rfl ?_)
        · clear ih
          refine S.exit rfl ?_
          refine S.inBlock (S.region rfl ?_)
          refine O.op (.p rfl) (.mv rfl) ?_
          refine O.op (.p rfl) (.add rfl rfl (IntWalk.i64_in _ (by omega))) ?_
          refine O.op (.p rfl) (.as rfl) ?_
          refine O.nil ?_
          refine S.weaken ?_ (ih (pl + 1) (by omega) (by omega))
          repeat (first | exact Sub.nil | refine Sub.cons rfl ?_)
      · clear ih
        refine S.exit rfl ?_
        refine S.seq (S.region rfl ?_)
        refine O.opE (.p rfl) (.litP (T := Rp.u8) (ys := []) Go.Proofs.Tryz.underlying23 FactWire14.elem5 (by decide) rfl rfl trivial (by decide)) ?_
        rintro _ _ ⟨a118, c118, rfl, rfl⟩
        refine O.frzA (by repeat (first | exact Sel.here | apply Sel.there)) fun g hs hm ha118 => ?_
        replace hg := Fr.sub_trans hg hs
        replace hR := melted hR hm
        try replace ha14 := ha14.mono hs
        try replace hns := hns.mono hs
        replace hm1 := meltTrans hm1 hm
        replace hm2 := meltTrans hm2 hm
        replace hm3 := meltTrans hm3 hm
        clear hs hm
        refine O.opE (.p rfl) (.litP (T := Rp.u8) (ys := [1]) Go.Proofs.Tryz.underlying23 FactWire14.elem5 (by decide) rfl rfl ⟨rfl, trivial⟩ (by decide)) ?_
        rintro _ _ ⟨a119, c119, rfl, rfl⟩
        refine O.frzA (by repeat (first | exact Sel.here | apply Sel.there)) fun g hs hm ha119 => ?_
        replace hg := Fr.sub_trans hg hs
        replace hR := melted hR hm
        try replace ha14 := ha14.mono hs
        try replace hns := hns.mono hs
        try replace ha118 := ha118.mono hs
        replace hm1 := meltTrans hm1 hm
        replace hm2 := meltTrans hm2 hm
        replace hm3 := meltTrans hm3 hm
        clear hs hm
        refine O.opE (.p rfl) (.litP (T := Rp.val) (ys := [_, _, _]) Go.Proofs.Tryz.underlying22 FactWire14.elem23 (by decide) rfl rfl ⟨⟨rfl, rfl⟩, ⟨rfl, rfl⟩, ⟨rfl, rfl⟩, trivial⟩ (by decide)) ?_
        rintro _ _ ⟨a120, c120, rfl, rfl⟩
        refine O.frzA (by repeat (first | exact Sel.here | apply Sel.there)) fun g hs hm ha120 => ?_
        replace hg := Fr.sub_trans hg hs
        replace hR := melted hR hm
        try replace ha14 := ha14.mono hs
        try replace hns := hns.mono hs
        try replace ha118 := ha118.mono hs
        try replace ha119 := ha119.mono hs
        replace hm1 := meltTrans hm1 hm
        replace hm2 := meltTrans hm2 hm
        replace hm3 := meltTrans hm3 hm
        clear hs hm
        refine O.call0 (.p rfl) rfl FactWire14.ok3 rfl rfl ((WirePuts_c 0 (Arr.rows (xss := [[], [], [1]]) ha120 ⟨Arr.nil, ha118, ha119, trivial⟩) within3)) ?_
        rintro v121 _ ⟨rfl, rfl⟩
        try simp only [List.cons_append, List.nil_append, List.append_nil]
        refine O.slot 121 (v' := .bool true) rfl (congrArg Value.bool (by first | decide | simp)) ?_
        refine O.op (.p rfl) (.mv rfl) ?_
        refine O.call0 (.g rfl rfl) rfl FactWire14.ok6 rfl rfl (awake_c) ?_
        rintro v123 _ ⟨rfl, rfl⟩
        try simp only [List.cons_append, List.nil_append, List.append_nil]
        refine O.slot 123 (v' := .bool true) rfl (congrArg Value.bool (by first | decide | simp)) ?_
        refine O.op (.p rfl) (.pickT rfl rfl) ?_
        refine O.op (.p rfl) (.as rfl) ?_
        refine O.nil ?_
        refine S.ret Go.Proofs.Tryz.results5 rfl fun w hw => Holds.end_ hR hw ?_
        exact ⟨_, ⟨rfl, rfl⟩, by repeat (first | exact Picks.all | exact Picks.nil | (apply Picks.cons; focus (repeat (first | exact Sel.here | apply Sel.there))) | apply Picks.skip)⟩

end Go.Proofs.YtodkpkmhnpmmgaaGreat
