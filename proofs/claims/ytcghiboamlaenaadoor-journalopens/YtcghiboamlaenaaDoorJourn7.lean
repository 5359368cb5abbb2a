import Derived.Test.YtcghiboamlaenaaDoorJourn5
import Derived.Test.YtcghiboamlaenaaDoorRefnum
open Go Go.Sp
set_option maxRecDepth 100000
attribute [local irreducible] obj Own OwnP
namespace Go.Proofs.YtcghiboamlaenaaDoor
theorem FactJourn7.elem5 : elemIs Go.Proofs.Tryd.prog 5 1 1 [.int .u8 0] := elemIs.mk (by kernel_rfl) rfl
theorem FactJourn7.flat22 : Go.Sp.flat1 Go.Proofs.Tryd.prog 22 = true := by kernel_rfl
theorem FactJourn7.flat23 : Go.Sp.flat1 Go.Proofs.Tryd.prog 23 = true := by kernel_rfl
theorem FactJourn7.flat5 : Go.Sp.flat1 Go.Proofs.Tryd.prog 5 = true := by kernel_rfl
theorem FactJourn7.fld25x0 : fieldOff Go.Proofs.Tryd.prog 25 0 = some 0 := by kernel_rfl
theorem FactJourn7.fld25x1 : fieldOff Go.Proofs.Tryd.prog 25 1 = some 1 := by kernel_rfl
theorem FactJourn7.mixed : Go.Proofs.Tryd.prog.follows .mixedOrders = true := by kernel_rfl
theorem FactJourn7.ok17 : callable Go.Proofs.Tryd.prog 17 = true := by kernel_rfl
theorem FactJourn7.ok34 : callable Go.Proofs.Tryd.prog 34 = true := by kernel_rfl
theorem FactJourn7.ok35 : callable Go.Proofs.Tryd.prog 35 = true := by kernel_rfl
theorem FactJourn7.size5 : (Go.Proofs.Tryd.prog.info? 5).map (·.size) = some 1 := by kernel_rfl

theorem or_byte64 (n : Nat) (c : UInt8) (hn : n < 72057594037927936) :
    bitsOf .or .i64 (IntKind.i64.wrap (s64 n * 2 ^ min (8 : Int).toNat IntKind.i64.bits)) (IntKind.i64.wrap (c.toNat : Int)) = s64 (n * 256 + c.toNat) := by
  have hc := c.toNat_lt
  have hs : s64 n = n := by unfold s64; rw [if_pos (by omega)]
  have e0 : (s64 n * 2 ^ min (8 : Int).toNat IntKind.i64.bits) = ((n * 256 : Nat) : Int) := by rw [hs]; simp [IntKind.bits]
  rw [e0, wrap_i64_eq _ (by omega), wrap_i64_eq _ (by omega)]
  have e1 : (n * 256) ||| c.toNat = n * 256 + c.toNat := by
    have := Nat.shiftLeft_add_eq_or_of_lt (b := c.toNat) (i := 8) (by omega) n
    rw [Nat.shiftLeft_eq] at this; exact this.symm
  have e2 : ∀ k : Nat, k < 18446744073709551616 → (BitVec.ofInt IntKind.i64.bits (s64 k)).toNat = k := fun k h => by rw [BitVec.toNat_ofInt]; simp only [IntKind.bits]; unfold s64; split <;> omega
  simp only [bitsOf, BitVec.toNat_or]
  rw [e2 _ (by omega), e2 _ (by omega), e1, wrap_i64_eq _ (by omega)]
theorem refSum_c {r : Fr} {va : Value} {xs : List UInt8} (ha : Arr Rp.u8 r va xs) :
    Con Go.Proofs.Tryd.prog 35 #[va] r [] (Ret fun v η => ∃ a c, v = .slice a 8 c ∧ η = [OwnP Rp.u8 5 v (be (sumN xs))]) := by
  refine Con.of (n := 30) [va] rfl Go.Proofs.Tryd.func35 rfl rfl rfl fun g hg R hR => ?_
  have ha := ha.mono hg
  have hbd := ha.bound
  obtain ⟨a1, c1, rfl⟩ := ha.shape
  refine S.seq (S.region rfl ?_)
  refine O.op (.p rfl) (.as rfl) ?_
  refine O.nil ?_
  refine S.seq (S.region rfl ?_)
  refine O.op (.p rfl) (.as rfl) ?_
  refine O.op (.p rfl) (.as rfl) ?_
  refine O.nil ?_
  refine S.seq (S.seq (S.region rfl ?_))
  refine O.op (.p rfl) (.as rfl) ?_
  refine O.nil ?_
  refine S.block ?_
  refine S.loopK (ι := Nat) (fun j => j ≤ xs.length) (fun j => [(5, .int .i64 (j : Int)), (3, .int .u32 (sumOf (xs.take j)).1), (4, .int .u32 (sumOf (xs.take j)).2)]) [(0, _)] (fun j => []) (fun j => xs.length - j) (0) (by simp) (.cons rfl (.cons rfl (.cons rfl (.nil)))) (.cons rfl (.nil)) rfl fun j hx ih => ?_
  have hm1 := meltRefl (g := g)
  refine S.seq (S.seq (S.region rfl ?_))
  refine O.op (.p rfl) (.mv rfl) ?_
  refine O.op (.p rfl) (.mv rfl) ?_
  refine O.op (.p rfl) (.len rfl Go.Proofs.Tryd.underlying23 rfl) ?_
  refine O.op (.p rfl) (.lss rfl rfl) ?_
  refine O.nil ?_
  first | refine S.condD rfl (fun h9 => ?_) (fun h9 => ?_) | refine S.condB rfl (fun h9 => ?_) (fun h9 => ?_)
  · have hj : j < xs.length := by omega
    have h2 := sumOf_snoc (xs.take j) xs[j]
    rw [← List.take_succ_eq_append_getElem hj] at h2
    have h3 : (sumOf (xs.take (j + 1))).1 = IntKind.u32.wrap ((sumOf (xs.take j)).1 + IntKind.u32.wrap (xs[j].toNat : Int)) := by rw [h2]; rfl
    have h4 : (sumOf (xs.take (j + 1))).2 = IntKind.u32.wrap ((sumOf (xs.take j)).2 + IntKind.u32.wrap ((sumOf (xs.take j)).1 + IntKind.u32.wrap (xs[j].toNat : Int))) := by rw [h2]; rfl
    refine S.skip (S.seq (S.block (S.seq (S.region rfl ?_))))
    refine O.op (.p rfl) (.mv rfl) ?_
    refine O.op (.p rfl) (.mv rfl) ?_
    refine O.op (.p rfl) (.mv rfl) ?_
    refine O.idx' (.p rfl) Go.Proofs.Tryd.underlying23 FactJourn7.size5 rfl rfl rfl (by first | assumption | exact Arr.mono hg (by assumption) | exact Arr.left (by assumption) | exact Arr.left (Arr.mono hg (by assumption))) (by decide) (by first | omega | (simp; done) | (simp; omega) | decide) (fun p15 cs15 hp15 hr15 => ?_)
    cases hr15
    refine O.op (.p rfl) (.loadAt FactJourn7.flat5 rfl hp15 rfl) ?_
    refine O.op (.p rfl) (.cvt Go.Proofs.Tryd.underlying5 Go.Proofs.Tryd.underlying97 rfl) ?_
    refine O.op (.p rfl) (.addW rfl rfl) ?_
    refine O.op (.p rfl) (.as rfl) ?_
    refine O.nil ?_
    refine S.region rfl ?_
    refine O.op (.p rfl) (.mv rfl) ?_
    refine O.op (.p rfl) (.mv rfl) ?_
    refine O.op (.p rfl) (.addW rfl rfl) ?_
    refine O.op (.p rfl) (.as rfl) ?_
    refine O.nil ?_
    refine S.inBlock (S.region rfl ?_)
    refine O.op (.p rfl) (.mv rfl) ?_
    refine O.op (.p rfl) (.add rfl rfl (IntWalk.i64_in _ (by omega))) ?_
    refine O.op (.p rfl) (.as rfl) ?_
    refine O.nil ?_
    rw [← h4, ← h3]
    refine S.weaken ?_ (ih (j + 1) (by omega) (by omega))
    repeat (first | exact Sub.nil | refine Sub.cons rfl ?_)
  · have hj : j = xs.length := by omega
    subst hj
    rw [List.take_length]
    clear ih
    refine S.exit rfl ?_
    refine S.seq (S.region rfl ?_)
    refine O.op (.p rfl) (.mv rfl) ?_
    refine O.op (.p rfl) (.cvt Go.Proofs.Tryd.underlying97 Go.Proofs.Tryd.underlying96 rfl) ?_
    refine O.op (.p rfl) (.shl rfl rfl (by omega)) ?_
    refine O.op (.p rfl) (.mv rfl) ?_
    refine O.op (.p rfl) (.cvt Go.Proofs.Tryd.underlying97 Go.Proofs.Tryd.underlying96 rfl) ?_
    refine O.op (.p rfl) (.or rfl rfl) ?_
    refine O.op (.p rfl) (.cvt Go.Proofs.Tryd.underlying96 Go.Proofs.Tryd.underlying3 rfl) ?_
    refine O.call0 (.p rfl) rfl FactJourn7.ok34 rfl rfl (refNumber_c _) ?_
    rintro v29 _ ⟨a29, c29, rfl, rfl⟩
    try simp only [List.cons_append, List.nil_append, List.append_nil]
    refine O.op (.p rfl) (.as rfl) ?_
    refine O.nil ?_
    refine S.ret Go.Proofs.Tryd.results35 rfl fun w hw => Holds.end_ hR hw ?_
    exact ⟨_, ⟨a29, c29, rfl, rfl⟩, by repeat (first | exact Picks.all | exact Picks.nil | (apply Picks.cons; focus (repeat (first | exact Sel.here | apply Sel.there))) | apply Picks.skip)⟩
theorem refPut_c {r : Fr} {k : UInt8} {va : Value} {xs : List UInt8} (ha : Arr Rp.u8 r va xs) :
    Con Go.Proofs.Tryd.prog 17 #[.agg #[byteV k, va]] r [] (Ret fun v η => ∃ a c, v = .tuple #[.slice a (putOut k xs).length c, .int .i64 (putErr k xs)] ∧ η = [OwnP Rp.u8 5 (.slice a (putOut k xs).length c) (putOut k xs)]) := by
  refine Con.of (n := 34) [.agg #[byteV k, va]] rfl Go.Proofs.Tryd.func17 rfl rfl rfl fun g hg R hR => ?_
  have ha := ha.mono hg
  obtain ⟨a1, c1, rfl⟩ := ha.shape
  refine S.seq (S.region rfl ?_)
  refine O.opE (.p rfl) (.box (cs := [_, _]) rfl rfl) ?_
  rintro _ _ ⟨b1, rfl, rfl⟩
  refine O.op (.p rfl) (.as rfl) ?_
  refine O.op (.p rfl) (.as rfl) ?_
  refine O.nil ?_
  refine S.seq (S.seq (S.region rfl ?_))
  refine O.op (.p rfl) (.fieldObj FactJourn7.fld25x0 rfl) ?_
  refine O.op (.p rfl) (.loadObj FactJourn7.flat22 rfl (by repeat (first | exact Sel.here | apply Sel.there)) rfl) ?_
  refine O.op (.p rfl) (.lss rfl rfl) ?_
  refine O.op (.p rfl) (.mv rfl) ?_
  first | refine O.caseD 8 rfl (fun h8 => ?_) (fun h8 => ?_) | refine O.caseB 8 rfl (fun h8 => ?_) (fun h8 => ?_)
  · have e : putErr k xs = 2 := by simp [putErr, h8]
    have eo : putOut k xs = [] := by simp [putOut, e]
    rw [e, eo] at hR
    refine O.opN rfl rfl rfl ?_
    refine O.opN rfl rfl rfl ?_
    refine O.opN rfl rfl rfl ?_
    refine O.op (.p rfl) (.pickT rfl rfl) ?_
    refine O.nil ?_
    refine S.condT rfl ?_
    refine S.seq (S.region rfl ?_)
    refine O.op (.p rfl) (.as rfl) ?_
    refine O.op (.p rfl) (.as rfl) ?_
    refine O.nil ?_
    refine S.addNil (T := Rp.u8) (e := 5) ?_
    refine S.ret2 Go.Proofs.Tryd.results17 rfl rfl fun w hw => Holds.end_ hR hw ?_
    exact ⟨_, ⟨none, 0, rfl, rfl⟩, by repeat (first | exact Picks.all | exact Picks.nil | (apply Picks.cons; focus (repeat (first | exact Sel.here | apply Sel.there))) | apply Picks.skip)⟩
  · refine O.op (.g rfl rfl) (.fieldObj FactJourn7.fld25x0 rfl) ?_
    refine O.op (.g rfl rfl) (.loadObj FactJourn7.flat22 rfl (by repeat (first | exact Sel.here | apply Sel.there)) rfl) ?_
    refine O.op (.g rfl rfl) (.gtr rfl rfl) ?_
    refine O.op (.p rfl) (.pickF rfl rfl) ?_
    refine O.nil ?_
    first | refine S.condD rfl (fun h12 => ?_) (fun h12 => ?_) | refine S.condB rfl (fun h12 => ?_) (fun h12 => ?_)
    · have e : putErr k xs = 2 := by simp [putErr, h12]
      have eo : putOut k xs = [] := by simp [putOut, e]
      rw [e, eo] at hR
      refine S.seq (S.region rfl ?_)
      refine O.op (.p rfl) (.as rfl) ?_
      refine O.op (.p rfl) (.as rfl) ?_
      refine O.nil ?_
      refine S.addNil (T := Rp.u8) (e := 5) ?_
      refine S.ret2 Go.Proofs.Tryd.results17 rfl rfl fun w hw => Holds.end_ hR hw ?_
      exact ⟨_, ⟨none, 0, rfl, rfl⟩, by repeat (first | exact Picks.all | exact Picks.nil | (apply Picks.cons; focus (repeat (first | exact Sel.here | apply Sel.there))) | apply Picks.skip)⟩
    · refine S.skip (S.seq (S.seq (S.region rfl ?_)))
      refine O.op (.p rfl) (.fieldObj FactJourn7.fld25x1 rfl) ?_
      refine O.op (.p rfl) (.loadObj FactJourn7.flat23 rfl (by repeat (first | exact Sel.here | apply Sel.there)) rfl) ?_
      refine O.op (.p rfl) (.len rfl Go.Proofs.Tryd.underlying23 rfl) ?_
      refine O.op (.p rfl) (.gtr rfl rfl) ?_
      refine O.nil ?_
      first | refine S.condD rfl (fun h16 => ?_) (fun h16 => ?_) | refine S.condB rfl (fun h16 => ?_) (fun h16 => ?_)
      · have e : putErr k xs = 3 := by
          have h14 : 262144 < xs.length := by omega
          simp [putErr, h14]; omega
        have eo : putOut k xs = [] := by simp [putOut, e]
        rw [e, eo] at hR
        refine S.seq (S.region rfl ?_)
        refine O.op (.p rfl) (.as rfl) ?_
        refine O.op (.p rfl) (.as rfl) ?_
        refine O.nil ?_
        refine S.addNil (T := Rp.u8) (e := 5) ?_
        refine S.ret2 Go.Proofs.Tryd.results17 rfl rfl fun w hw => Holds.end_ hR hw ?_
        exact ⟨_, ⟨none, 0, rfl, rfl⟩, by repeat (first | exact Picks.all | exact Picks.nil | (apply Picks.cons; focus (repeat (first | exact Sel.here | apply Sel.there))) | apply Picks.skip)⟩
      · have e : putErr k xs = 0 := by
          have h14 : ¬ 262144 < xs.length := by omega
          simp [putErr, h14]; omega
        have eo : putOut k xs = putBytes k xs := by simp [putOut, e]
        have hl : xs.length ≤ 262144 := by omega
        rw [e, eo] at hR
        refine S.skip (S.seq ?_)
        refine S.frzO (by repeat (first | exact Sel.here | apply Sel.there)) fun g hs hm h1 => ?_
        replace hg := Fr.sub_trans hg hs
        replace hR := melted hR hm
        try replace ha := ha.mono hs
        clear hs hm
        refine S.regionD (L := [0, 1, 2, 3, 5, 6, 4, 7, 8, 9]) FactJourn7.mixed (by kernel_rfl) ?_
        refine .quiet (.p rfl) rfl (fun _ => .fieldAddr FactJourn7.fld25x1 rfl) ?_
        refine .quiet (.p rfl) rfl (fun _ => .loadAt FactJourn7.flat23 rfl (h1.drop 1) rfl) ?_
        refine .quiet (.p rfl) rfl (fun _ => .len rfl Go.Proofs.Tryd.underlying23 rfl) ?_
        refine .quiet (.p rfl) rfl (fun _ => .add rfl rfl (IntWalk.i64_in _ (by omega))) ?_
        refine .quiet (.p rfl) rfl (fun _ => .fieldAddr FactJourn7.fld25x0 rfl) ?_
        refine .quiet (.p rfl) rfl (fun _ => .loadAt FactJourn7.flat22 rfl h1 rfl) ?_
        refine OD.alt2 4 7 [7, 8, 9] [4, 8, 9] (by kernel_rfl) rfl rfl ?_ ?_
        · refine ODt.call0 (.p rfl) (by kernel_rfl) rfl FactJourn7.ok34 rfl rfl (refNumber_c _) ?_
          rintro v21 _ ⟨a21, c21, rfl, rfl⟩
          try simp only [List.cons_append, List.nil_append, List.append_nil]
          refine OD.litP (T := Rp.u8) (ys := [_]) (.p rfl) (by kernel_rfl) Go.Proofs.Tryd.underlying23 FactJourn7.elem5 (by decide) rfl rfl ⟨rfl, trivial⟩ (by decide) (fun a24 c24 => ?_)
          refine OD.appendO (.p rfl) (by kernel_rfl) (T := Rp.u8) Go.Proofs.Tryd.underlying23 FactJourn7.elem5 (by decide) rfl rfl (by repeat (first | exact Sel.here | apply Sel.there)) (by repeat (first | exact Sel.here | apply Sel.there)) (by first | omega | (simp; done) | (simp; omega) | decide) (by first | omega | (simp; done) | (simp; omega) | decide) (fun a25 c25 => ?_)
          refine .quiet (.p rfl) rfl (fun _ => .as rfl) ?_
          refine .nil ?_
          refine S.seq (S.region rfl ?_)
          refine O.op (.p rfl) (.mv rfl) ?_
          refine O.op (.p rfl) (.fieldAddr FactJourn7.fld25x1 rfl) ?_
          refine O.op (.p rfl) (.loadAt FactJourn7.flat23 rfl (h1.drop 1) rfl) ?_
          refine O.opE (.p rfl) (.appendP (T := Rp.u8) pure_u8 Go.Proofs.Tryd.underlying23 FactJourn7.elem5 (by decide) rfl rfl (by repeat (first | exact Sel.here | apply Sel.there)) (by first | assumption | exact Arr.mono hg (by assumption) | exact Arr.left (by assumption) | exact Arr.left (Arr.mono hg (by assumption))) (by first | omega | (simp; done) | (simp; omega) | decide) (by first | omega | (simp; done) | (simp; omega) | decide)) ?_
          rintro _ _ ⟨a29, c29, rfl, rfl⟩
          refine O.op (.p rfl) (.as rfl) ?_
          refine O.nil ?_
          refine S.seq (S.region rfl ?_)
          refine O.op (.p rfl) (.mv rfl) ?_
          refine O.op (.p rfl) (.mv rfl) ?_
          refine O.callB (.p rfl) rfl FactJourn7.ok35 rfl rfl (bs := [OwnP Rp.u8 5 (.slice a29 ((be (1 + (xs.length : Int))).length + [k].length + xs.length) c29) ((be (1 + (xs.length : Int)) ++ [k]) ++ xs)]) (by repeat (first | exact Sels.nil | (apply Sels.cons; focus (repeat (first | exact Sel.here | apply Sel.there))))) (fun m hm hd => refSum_c (hm.arr.right hd)) ?_
          rintro v32 _ ⟨a32, c32, rfl, rfl⟩
          try simp only [List.cons_append, List.nil_append, List.append_nil]
          refine O.opE (.p rfl) (.appendO (T := Rp.u8) Go.Proofs.Tryd.underlying23 FactJourn7.elem5 (by decide) rfl rfl (by repeat (first | exact Sel.here | apply Sel.there)) (by repeat (first | exact Sel.here | apply Sel.there)) (by first | omega | (simp; done) | (simp; omega) | decide) (by first | omega | (simp; done) | (simp; omega) | decide)) ?_
          rintro v33 _ ⟨a33, c33, rfl, rfl⟩
          refine O.op (.p rfl) (.as rfl) ?_
          refine O.op (.p rfl) (.as rfl) ?_
          refine O.nil ?_
          have ep : (be (1 + (xs.length : Int)) ++ [k] ++ xs) ++ be (sumN (be (1 + (xs.length : Int)) ++ [k] ++ xs)) = putBytes k xs := rfl
          rw [← List.length_append, ep]
          refine S.ret2 Go.Proofs.Tryd.results17 rfl rfl fun w hw => Holds.end_ hR hw ?_
          exact ⟨_, ⟨a33, c33, rfl, rfl⟩, by repeat (first | exact Picks.all | exact Picks.nil | (apply Picks.cons; focus (repeat (first | exact Sel.here | apply Sel.there))) | apply Picks.skip)⟩
        · refine ODt.litP (T := Rp.u8) (ys := [_]) (.p rfl) (by kernel_rfl) Go.Proofs.Tryd.underlying23 FactJourn7.elem5 (by decide) rfl rfl ⟨rfl, trivial⟩ (by decide) (fun a24 c24 => ?_)
          refine OD.call0 (.p rfl) (by kernel_rfl) rfl FactJourn7.ok34 rfl rfl (refNumber_c _) ?_
          rintro v21 _ ⟨a21, c21, rfl, rfl⟩
          try simp only [List.cons_append, List.nil_append, List.append_nil]
          refine OD.appendO (.p rfl) (by kernel_rfl) (T := Rp.u8) Go.Proofs.Tryd.underlying23 FactJourn7.elem5 (by decide) rfl rfl (by repeat (first | exact Sel.here | apply Sel.there)) (by repeat (first | exact Sel.here | apply Sel.there)) (by first | omega | (simp; done) | (simp; omega) | decide) (by first | omega | (simp; done) | (simp; omega) | decide) (fun a25 c25 => ?_)
          refine .quiet (.p rfl) rfl (fun _ => .as rfl) ?_
          refine .nil ?_
          refine S.seq (S.region rfl ?_)
          refine O.op (.p rfl) (.mv rfl) ?_
          refine O.op (.p rfl) (.fieldAddr FactJourn7.fld25x1 rfl) ?_
          refine O.op (.p rfl) (.loadAt FactJourn7.flat23 rfl (h1.drop 1) rfl) ?_
          refine O.opE (.p rfl) (.appendP (T := Rp.u8) pure_u8 Go.Proofs.Tryd.underlying23 FactJourn7.elem5 (by decide) rfl rfl (by repeat (first | exact Sel.here | apply Sel.there)) (by first | assumption | exact Arr.mono hg (by assumption) | exact Arr.left (by assumption) | exact Arr.left (Arr.mono hg (by assumption))) (by first | omega | (simp; done) | (simp; omega) | decide) (by first | omega | (simp; done) | (simp; omega) | decide)) ?_
          rintro _ _ ⟨a29, c29, rfl, rfl⟩
          refine O.op (.p rfl) (.as rfl) ?_
          refine O.nil ?_
          refine S.seq (S.region rfl ?_)
          refine O.op (.p rfl) (.mv rfl) ?_
          refine O.op (.p rfl) (.mv rfl) ?_
          refine O.callB (.p rfl) rfl FactJourn7.ok35 rfl rfl (bs := [OwnP Rp.u8 5 (.slice a29 ((be (1 + (xs.length : Int))).length + [k].length + xs.length) c29) ((be (1 + (xs.length : Int)) ++ [k]) ++ xs)]) (by repeat (first | exact Sels.nil | (apply Sels.cons; focus (repeat (first | exact Sel.here | apply Sel.there))))) (fun m hm hd => refSum_c (hm.arr.right hd)) ?_
          rintro v32 _ ⟨a32, c32, rfl, rfl⟩
          try simp only [List.cons_append, List.nil_append, List.append_nil]
          refine O.opE (.p rfl) (.appendO (T := Rp.u8) Go.Proofs.Tryd.underlying23 FactJourn7.elem5 (by decide) rfl rfl (by repeat (first | exact Sel.here | apply Sel.there)) (by repeat (first | exact Sel.here | apply Sel.there)) (by first | omega | (simp; done) | (simp; omega) | decide) (by first | omega | (simp; done) | (simp; omega) | decide)) ?_
          rintro v33 _ ⟨a33, c33, rfl, rfl⟩
          refine O.op (.p rfl) (.as rfl) ?_
          refine O.op (.p rfl) (.as rfl) ?_
          refine O.nil ?_
          have ep : (be (1 + (xs.length : Int)) ++ [k] ++ xs) ++ be (sumN (be (1 + (xs.length : Int)) ++ [k] ++ xs)) = putBytes k xs := rfl
          rw [← List.length_append, ep]
          refine S.ret2 Go.Proofs.Tryd.results17 rfl rfl fun w hw => Holds.end_ hR hw ?_
          exact ⟨_, ⟨a33, c33, rfl, rfl⟩, by repeat (first | exact Picks.all | exact Picks.nil | (apply Picks.cons; focus (repeat (first | exact Sel.here | apply Sel.there))) | apply Picks.skip)⟩
theorem refOne_c {r : Fr} {va : Value} {bs : List UInt8} (ha : Arr Rp.u8 r va bs) (hb : bs.length ≤ 70368744177664) :
    Con Go.Proofs.Tryd.prog 32 #[va] r [] (Ret fun v η =>
      (∃ k xs a c, scanOne bs = .ok (k, xs) ∧ v = .tuple #[.agg #[byteV k, .slice a xs.length c], .int .i64 ((putBytes k xs).length : Int), .bool false] ∧ η = [OwnP Rp.u8 5 (.slice a xs.length c) xs]) ∨
      (∃ s, scanOne bs = .error s ∧ v = .tuple #[.agg #[.int .u8 0, .slice none 0 0], .int .i64 0, .bool s] ∧ η = [])) := by
  refine Con.of (n := 70) [va] rfl Go.Proofs.Tryd.func32 rfl rfl rfl fun g hg R hR => ?_
  have ha := ha.mono hg
  have hbd := ha.bound
  obtain ⟨a1, c1, rfl⟩ := ha.shape
  refine S.seq (S.region rfl ?_)
  refine O.opE (.p rfl) (.alloc (cs := [.int .u8 0, .slice none 0 0]) Go.Proofs.Tryd.zeroValue25 rfl) ?_
  rintro _ _ ⟨b2, rfl, rfl⟩
  refine O.op (.p rfl) (.as rfl) ?_
  refine O.op (.p rfl) (.as rfl) ?_
  refine O.nil ?_
  refine S.seq (S.seq (S.region rfl ?_))
  refine O.op (.p rfl) (.mv rfl) ?_
  refine O.op (.p rfl) (.len rfl Go.Proofs.Tryd.underlying23 rfl) ?_
  refine O.op (.p rfl) (.lss rfl rfl) ?_
  refine O.nil ?_
  first | refine S.condD rfl (fun h12 => ?_) (fun h12 => ?_) | refine S.condB rfl (fun h12 => ?_) (fun h12 => ?_)
  · refine S.seq (S.region rfl ?_)
    refine O.op (.p rfl) (.build (cs := [_, _]) Go.Proofs.Tryd.underlying25 rfl rfl rfl rfl rfl) ?_
    refine O.opU rfl (.storeObj (by kernel_rfl) rfl rfl rfl rfl (by repeat (first | exact Sel.here | apply Sel.there)) (by first | (simp; done) | (simp [Value.cells]; done))) ?_
    refine O.op (.p rfl) (.as rfl) ?_
    refine O.op (.p rfl) (.as rfl) ?_
    refine O.nil ?_
    refine S.retM3 (.inr ⟨_, rfl⟩) .nil Go.Proofs.Tryd.results32 (.agg (cs := [.int .u8 0, .slice none 0 0]) Go.Proofs.Tryd.isAgg25 (by kernel_rfl) rfl (by repeat (first | exact Sel.here | apply Sel.there))) (.tmp rfl) (.tmp rfl) fun w hw => ?_
    exact Holds.end_ hR hw ⟨_, .inr ⟨false, scan_short (by omega), rfl, rfl⟩, by repeat (first | exact Picks.all | exact Picks.nil | (apply Picks.cons; focus (repeat (first | exact Sel.here | apply Sel.there))) | apply Picks.skip)⟩
  · have h8 : 8 ≤ bs.length := by omega
    refine S.skip (S.seq (S.region rfl ?_))
    refine O.op (.p rfl) (.as rfl) ?_
    refine O.nil ?_
    refine S.seq (S.seq (S.region rfl ?_))
    refine O.op (.p rfl) (.as rfl) ?_
    refine O.nil ?_
    refine S.block ?_
    refine S.loopK (ι := Nat) (fun i => i ≤ 8) (fun i => [(6, .int .i64 (i : Int)), (5, .int .i64 (s64 (beVal (bs.take i))))]) [(0, _), (2, _)] (fun i => [obj b2 25 [.int .u8 0, .slice none 0 0]]) (fun i => 8 - i) (0) (by simp) (.cons rfl (.cons rfl (.nil))) (.cons rfl (.cons rfl (.nil))) rfl fun i hx ih => ?_
    have hm1 := meltRefl (g := g)
    refine S.seq (S.seq (S.region rfl ?_))
    refine O.op (.p rfl) (.mv rfl) ?_
    refine O.op (.p rfl) (.lss rfl rfl) ?_
    refine O.nil ?_
    first | refine S.condD rfl (fun h15 => ?_) (fun h15 => ?_) | refine S.condB rfl (fun h15 => ?_) (fun h15 => ?_)
    · have hi : i < 8 := by omega
      refine S.skip (S.seq (S.block (S.region rfl ?_)))
      refine O.op (.p rfl) (.mv rfl) ?_
      refine O.op (.p rfl) (.shl rfl rfl (by omega)) ?_
      refine O.op (.p rfl) (.mv rfl) ?_
      refine O.op (.p rfl) (.mv rfl) ?_
      refine O.idx' (.p rfl) Go.Proofs.Tryd.underlying23 FactJourn7.size5 rfl rfl rfl (by first | assumption | exact Arr.mono hg (by assumption) | exact Arr.left (by assumption) | exact Arr.left (Arr.mono hg (by assumption))) (by decide) (by first | omega | (simp; done) | (simp; omega) | decide) (fun p22 cs22 hp22 hr22 => ?_)
      cases hr22
      refine O.op (.p rfl) (.loadAt FactJourn7.flat5 rfl hp22 rfl) ?_
      refine O.op (.p rfl) (.cvt Go.Proofs.Tryd.underlying5 Go.Proofs.Tryd.underlying3 rfl) ?_
      refine O.op (.p rfl) (.or rfl rfl) ?_
      refine O.op (.p rfl) (.as rfl) ?_
      refine O.nil ?_
      refine S.inBlock (S.region rfl ?_)
      refine O.op (.p rfl) (.mv rfl) ?_
      refine O.op (.p rfl) (.add rfl rfl (IntWalk.i64_in _ (by omega))) ?_
      refine O.op (.p rfl) (.as rfl) ?_
      refine O.nil ?_
      rw [or_byte64 _ _ (beVal_lt7 bs i hi), ← beVal_take bs i (by omega)]
      refine S.weaken ?_ (ih (i + 1) (by omega) (by omega))
      repeat (first | exact Sub.nil | refine Sub.cons rfl ?_)
    · have hi : i = 8 := by omega
      subst hi
      clear ih
      rw [show s64 (beVal (bs.take 8)) = ofBe bs from rfl]
      have hin := ofBe_in bs
      refine S.exit rfl ?_
      refine S.seq (S.seq (S.region rfl ?_))
      refine O.op (.p rfl) (.mv rfl) ?_
      refine O.op (.p rfl) (.lss rfl rfl) ?_
      refine O.op (.p rfl) (.mv rfl) ?_
      first | refine O.caseD 28 rfl (fun h28 => ?_) (fun h28 => ?_) | refine O.caseB 28 rfl (fun h28 => ?_) (fun h28 => ?_)
      · refine O.opN rfl rfl rfl ?_
        refine O.opN rfl rfl rfl ?_
        refine O.op (.p rfl) (.pickT rfl rfl) ?_
        refine O.nil ?_
        refine S.condT rfl ?_
        refine S.seq (S.region rfl ?_)
        refine O.op (.p rfl) (.build (cs := [_, _]) Go.Proofs.Tryd.underlying25 rfl rfl rfl rfl rfl) ?_
        refine O.opU rfl (.storeObj (by kernel_rfl) rfl rfl rfl rfl (by repeat (first | exact Sel.here | apply Sel.there)) (by first | (simp; done) | (simp [Value.cells]; done))) ?_
        refine O.op (.p rfl) (.as rfl) ?_
        refine O.op (.p rfl) (.as rfl) ?_
        refine O.nil ?_
        refine S.retM3 (.inr ⟨_, rfl⟩) .nil Go.Proofs.Tryd.results32 (.agg (cs := [.int .u8 0, .slice none 0 0]) Go.Proofs.Tryd.isAgg25 (by kernel_rfl) rfl (by repeat (first | exact Sel.here | apply Sel.there))) (.tmp rfl) (.tmp rfl) fun w hw => ?_
        exact Holds.end_ hR hw ⟨_, .inr ⟨true, scan_num h8 (by omega), rfl, rfl⟩, by repeat (first | exact Picks.all | exact Picks.nil | (apply Picks.cons; focus (repeat (first | exact Sel.here | apply Sel.there))) | apply Picks.skip)⟩
      · refine O.op (.g rfl rfl) (.mv rfl) ?_
        refine O.op (.g rfl rfl) (.gtr rfl rfl) ?_
        refine O.op (.p rfl) (.pickF rfl rfl) ?_
        refine O.nil ?_
        first | refine S.condD rfl (fun h31 => ?_) (fun h31 => ?_) | refine S.condB rfl (fun h31 => ?_) (fun h31 => ?_)
        · refine S.seq (S.region rfl ?_)
          refine O.op (.p rfl) (.build (cs := [_, _]) Go.Proofs.Tryd.underlying25 rfl rfl rfl rfl rfl) ?_
          refine O.opU rfl (.storeObj (by kernel_rfl) rfl rfl rfl rfl (by repeat (first | exact Sel.here | apply Sel.there)) (by first | (simp; done) | (simp [Value.cells]; done))) ?_
          refine O.op (.p rfl) (.as rfl) ?_
          refine O.op (.p rfl) (.as rfl) ?_
          refine O.nil ?_
          refine S.retM3 (.inr ⟨_, rfl⟩) .nil Go.Proofs.Tryd.results32 (.agg (cs := [.int .u8 0, .slice none 0 0]) Go.Proofs.Tryd.isAgg25 (by kernel_rfl) rfl (by repeat (first | exact Sel.here | apply Sel.there))) (.tmp rfl) (.tmp rfl) fun w hw => ?_
          exact Holds.end_ hR hw ⟨_, .inr ⟨true, scan_num h8 (by omega), rfl, rfl⟩, by repeat (first | exact Picks.all | exact Picks.nil | (apply Picks.cons; focus (repeat (first | exact Sel.here | apply Sel.there))) | apply Picks.skip)⟩
        · have h1 : 1 ≤ ofBe bs ∧ ofBe bs ≤ 262145 := by omega
          refine S.skip (S.seq (S.seq (S.region rfl ?_)))
          refine O.op (.p rfl) (.mv rfl) ?_
          refine O.op (.p rfl) (.len rfl Go.Proofs.Tryd.underlying23 rfl) ?_
          refine O.op (.p rfl) (.mv rfl) ?_
          refine O.op (.p rfl) (.add rfl rfl (IntWalk.i64_in _ (by omega))) ?_
          refine O.op (.p rfl) (.lss rfl rfl) ?_
          refine O.nil ?_
          first | refine S.condD rfl (fun h37 => ?_) (fun h37 => ?_) | refine S.condB rfl (fun h37 => ?_) (fun h37 => ?_)
          · refine S.seq (S.region rfl ?_)
            refine O.op (.p rfl) (.build (cs := [_, _]) Go.Proofs.Tryd.underlying25 rfl rfl rfl rfl rfl) ?_
            refine O.opU rfl (.storeObj (by kernel_rfl) rfl rfl rfl rfl (by repeat (first | exact Sel.here | apply Sel.there)) (by first | (simp; done) | (simp [Value.cells]; done))) ?_
            refine O.op (.p rfl) (.as rfl) ?_
            refine O.op (.p rfl) (.as rfl) ?_
            refine O.nil ?_
            refine S.retM3 (.inr ⟨_, rfl⟩) .nil Go.Proofs.Tryd.results32 (.agg (cs := [.int .u8 0, .slice none 0 0]) Go.Proofs.Tryd.isAgg25 (by kernel_rfl) rfl (by repeat (first | exact Sel.here | apply Sel.there))) (.tmp rfl) (.tmp rfl) fun w hw => ?_
            exact Holds.end_ hR hw ⟨_, .inr ⟨false, scan_cut h8 h1 (by omega), rfl, rfl⟩, by repeat (first | exact Picks.all | exact Picks.nil | (apply Picks.cons; focus (repeat (first | exact Sel.here | apply Sel.there))) | apply Picks.skip)⟩
          · have h16 : 16 + ofBe bs ≤ (bs.length : Int) := by omega
            refine S.skip (S.seq (S.regionD (L := [0, 1, 2, 4, 5, 6, 7, 3, 8, 9, 10, 11]) FactJourn7.mixed (by kernel_rfl) ?_))
            refine .quiet (.p rfl) rfl (fun _ => .mv rfl) ?_
            refine OD.idx' (.p rfl) Go.Proofs.Tryd.underlying23 FactJourn7.size5 rfl rfl (show _ = (((8) : Nat) : Int) by omega) (by first | assumption | exact Arr.mono hg (by assumption) | exact Arr.left (by assumption) | exact Arr.left (Arr.mono hg (by assumption))) (by decide) (by first | omega | (simp; done) | (simp; omega) | decide) (fun p40 cs40 hp40 hr40 => ?_)
            cases hr40
            refine .quiet (.p rfl) rfl (fun _ => .loadAt FactJourn7.flat5 rfl hp40 rfl) ?_
            refine .quiet (.p rfl) rfl (fun _ => .mv rfl) ?_
            refine .quiet (.p rfl) rfl (fun _ => .mv rfl) ?_
            refine .quiet (.p rfl) rfl (fun _ => .add rfl rfl (IntWalk.i64_in _ (by omega))) ?_
            refine OD.sliceMid (a := 9) (b := 8 + (ofBe bs).toNat) (.p rfl) Go.Proofs.Tryd.underlying23 FactJourn7.size5 rfl rfl rfl (by assumption) (by first | omega | (simp; done) | (simp; omega) | decide) (by first | omega | (simp; done) | (simp; omega) | decide) (by first | omega | (simp; done) | (simp; omega) | decide) (by first | omega | (simp; done) | (simp; omega) | decide) (fun u46 ha46 => ?_)
            obtain ⟨a46, c46, rfl⟩ := ha46.shape
            refine OD.litP (T := Rp.u8) (ys := []) (.p rfl) (by kernel_rfl) Go.Proofs.Tryd.underlying23 FactJourn7.elem5 (by decide) rfl rfl trivial (by decide) (fun a42 c42 => ?_)
            refine OD.appendP (.p rfl) (by kernel_rfl) (T := Rp.u8) pure_u8 Go.Proofs.Tryd.underlying23 FactJourn7.elem5 (by decide) rfl rfl (by repeat (first | exact Sel.here | apply Sel.there)) (by first | assumption | exact Arr.mono hg (by assumption) | exact Arr.left (by assumption) | exact Arr.left (Arr.mono hg (by assumption))) (by first | omega | (simp; done) | (simp; omega) | decide) (by first | omega | (simp; done) | (simp; omega) | decide) (fun a47 c47 => ?_)
            refine .quiet (.p rfl) rfl (fun _ => .build (cs := [_, _]) Go.Proofs.Tryd.underlying25 rfl rfl rfl rfl rfl) ?_
            refine .lazy rfl (by kernel_rfl) rfl fun b7 => ?_
            refine OD.storeObj rfl (by kernel_rfl) (by kernel_rfl) rfl rfl rfl rfl (by repeat (first | exact Sel.here | apply Sel.there)) (by first | (simp; done) | (simp [Value.cells]; done)) ?_
            refine .nil ?_
            refine S.seq ?_
            have hk : bs.getD 8 0 = bs[8] := by rw [List.getD_eq_getElem?_getD, List.getElem?_eq_getElem (by omega)]; rfl
            generalize bs[8] = k at *
            generalize hxs : List.drop 9 (List.take (8 + (ofBe bs).toNat) bs) = xs at *
            simp only [List.length_nil, Nat.zero_add, List.nil_append]
            refine S.objIs (b := b7) (cs' := [byteV k, .slice a47 xs.length c47]) (by repeat (first | exact Sel.here | apply Sel.there)) rfl ?_
            refine S.region rfl ?_
            refine O.op (.p rfl) (.loadObjAgg (news := [_, _]) Go.Proofs.Tryd.isAgg25 (by kernel_rfl) rfl (by repeat (first | exact Sel.here | apply Sel.there)) rfl) ?_
            refine O.callB (.p rfl) rfl FactJourn7.ok17 rfl rfl (bs := [OwnP Rp.u8 5 (.slice a47 xs.length c47) xs]) (by repeat (first | exact Sels.nil | (apply Sels.cons; focus (repeat (first | exact Sel.here | apply Sel.there))))) (fun m hm hd => refPut_c (k := k) (hm.arr.right hd)) ?_
            rintro v51 _ ⟨a51, c51, rfl, rfl⟩
            try simp only [List.cons_append, List.nil_append, List.append_nil]
            refine O.op (.p rfl) (.mv rfl) ?_
            refine O.op (.p rfl) (.extract rfl rfl) ?_
            refine O.op (.p rfl) (.extract rfl rfl) ?_
            refine O.op (.p rfl) (.as rfl) ?_
            refine O.op (.p rfl) (.as rfl) ?_
            refine O.nil ?_
            refine S.seq (S.seq ?_)
            refine S.frzA (by repeat (first | exact Sel.here | apply Sel.there)) fun g hs hm hp => ?_
            replace hg := Fr.sub_trans hg hs
            replace hR := melted hR hm
            try replace hp40 := hp40.mono hs
            try replace ha := ha.mono hs
            replace hm1 := meltTrans hm1 hm
            clear hs hm
            refine S.regionD (L := [0, 1, 2, 3, 4, 5, 6, 7, 8, 9, 10, 11]) FactJourn7.mixed (by kernel_rfl) ?_
            refine .quiet (.p rfl) rfl (fun _ => .mv rfl) ?_
            refine .quiet (.p rfl) rfl (fun _ => .neq rfl rfl) ?_
            refine .quiet (.p rfl) rfl (fun _ => .mv rfl) ?_
            first | refine OD.caseD 56 rfl (fun h56 => ?_) (fun h56 => ?_) | refine OD.caseB 56 rfl (fun h56 => ?_) (fun h56 => ?_)
            · refine .no rfl rfl rfl rfl ?_
              refine .no rfl rfl rfl rfl ?_
              refine .no rfl rfl rfl rfl ?_
              refine .no rfl rfl rfl rfl ?_
              refine .no rfl rfl rfl rfl ?_
              refine .no rfl rfl rfl rfl ?_
              refine .no rfl rfl rfl rfl ?_
              refine .no rfl rfl rfl rfl ?_
              refine .quiet (.p rfl) rfl (fun _ => .pickT rfl rfl) ?_
              refine .nil ?_
              refine S.condT rfl ?_
              refine S.seq (S.region rfl ?_)
              refine O.op (.p rfl) (.build (cs := [_, _]) Go.Proofs.Tryd.underlying25 rfl rfl rfl rfl rfl) ?_
              refine O.opU rfl (.storeObj (by kernel_rfl) rfl rfl rfl rfl (by repeat (first | exact Sel.here | apply Sel.there)) (by first | (simp; done) | (simp [Value.cells]; done))) ?_
              refine O.op (.p rfl) (.as rfl) ?_
              refine O.op (.p rfl) (.as rfl) ?_
              refine O.nil ?_
              refine S.retM3 (.inr ⟨_, rfl⟩) .nil Go.Proofs.Tryd.results32 (.agg (cs := [.int .u8 0, .slice none 0 0]) Go.Proofs.Tryd.isAgg25 (by kernel_rfl) rfl (by repeat (first | exact Sel.here | apply Sel.there))) (.tmp rfl) (.tmp rfl) fun w hw => ?_
              exact Holds.end_ hR hw ⟨_, .inr ⟨true, scan_bad h8 h1 h16 (by rw [hk, hxs]; exact fun q => h56 q.1), rfl, rfl⟩, by repeat (first | exact Picks.all | exact Picks.nil | (apply Picks.cons; focus (repeat (first | exact Sel.here | apply Sel.there))) | apply Picks.skip)⟩
            · have e0 : putErr k xs = 0 := by simpa using h56
              refine .quiet (.g rfl rfl) rfl (fun _ => .mv rfl) ?_
              refine .quiet (.g rfl rfl) rfl (fun _ => .toStr Go.Proofs.Tryd.underlying23 Go.Proofs.Tryd.underlying5 Go.Proofs.Tryd.underlying9 rfl (by first | assumption | exact Arr.mono hg (by assumption) | exact Arr.left (by assumption) | exact Arr.left (Arr.mono hg (by assumption)))) ?_
              refine .quiet (.g rfl rfl) rfl (fun _ => .mv rfl) ?_
              refine .quiet (.g rfl rfl) rfl (fun _ => .mv rfl) ?_
              refine .quiet (.g rfl rfl) rfl (fun _ => .add rfl rfl (IntWalk.i64_in _ (by omega))) ?_
              refine OD.sliceTo (b := 16 + (ofBe bs).toNat) (.g rfl rfl) Go.Proofs.Tryd.underlying23 FactJourn7.size5 rfl rfl (by assumption) (by first | omega | (simp; done) | (simp; omega) | decide) (by first | omega | (simp; done) | (simp; omega) | decide) (fun u62 ha62 => ?_)
              obtain ⟨a62, c62, rfl⟩ := ha62.shape
              refine .quiet (.g rfl rfl) rfl (fun _ => .toStr Go.Proofs.Tryd.underlying23 Go.Proofs.Tryd.underlying5 Go.Proofs.Tryd.underlying9 rfl (by first | assumption | exact Arr.mono hg (by assumption) | exact Arr.left (by assumption) | exact Arr.left (Arr.mono hg (by assumption)))) ?_
              refine .quiet (.g rfl rfl) rfl (fun _ => .neqS rfl rfl) ?_
              refine .quiet (.p rfl) rfl (fun _ => .pickF rfl rfl) ?_
              refine .nil ?_
              first | refine S.condD rfl (fun h65 => ?_) (fun h65 => ?_) | refine S.condB rfl (fun h65 => ?_) (fun h65 => ?_)
              · refine S.seq (S.region rfl ?_)
                refine O.op (.p rfl) (.build (cs := [_, _]) Go.Proofs.Tryd.underlying25 rfl rfl rfl rfl rfl) ?_
                refine O.opU rfl (.storeObj (by kernel_rfl) rfl rfl rfl rfl (by repeat (first | exact Sel.here | apply Sel.there)) (by first | (simp; done) | (simp [Value.cells]; done))) ?_
                refine O.op (.p rfl) (.as rfl) ?_
                refine O.op (.p rfl) (.as rfl) ?_
                refine O.nil ?_
                refine S.retM3 (.inr ⟨_, rfl⟩) .nil Go.Proofs.Tryd.results32 (.agg (cs := [.int .u8 0, .slice none 0 0]) Go.Proofs.Tryd.isAgg25 (by kernel_rfl) rfl (by repeat (first | exact Sel.here | apply Sel.there))) (.tmp rfl) (.tmp rfl) fun w hw => ?_
                exact Holds.end_ hR hw ⟨_, .inr ⟨true, scan_bad h8 h1 h16 (by rw [hk, hxs]; exact fun q => by simp [q.2] at h65), rfl, rfl⟩, by repeat (first | exact Picks.all | exact Picks.nil | (apply Picks.cons; focus (repeat (first | exact Sel.here | apply Sel.there))) | apply Picks.skip)⟩
              · have he : putOut k xs = bs.take (16 + (ofBe bs).toNat) := by simpa using h65
                have eo : putOut k xs = putBytes k xs := by simp [putOut, e0]
                have hle : ((putBytes k xs).length : Int) = 16 + ofBe bs := by rw [← eo, he, List.length_take]; omega
                refine S.skip (S.seq (S.region rfl ?_))
                refine O.op (.p rfl) (.loadObjAgg (news := [_, _]) Go.Proofs.Tryd.isAgg25 (by kernel_rfl) rfl (by repeat (first | exact Sel.here | apply Sel.there)) rfl) ?_
                refine O.op (.p rfl) (.mv rfl) ?_
                refine O.op (.p rfl) (.add rfl rfl (IntWalk.i64_in _ (by omega))) ?_
                refine O.opU rfl (.storeObj (by kernel_rfl) rfl rfl rfl rfl (by repeat (first | exact Sel.here | apply Sel.there)) (by first | (simp; done) | (simp [Value.cells]; done))) ?_
                refine O.op (.p rfl) (.as rfl) ?_
                refine O.op (.p rfl) (.as rfl) ?_
                refine O.nil ?_
                rw [← hle]
                refine S.objIs (b := b2) (cs' := [byteV k, .slice a47 xs.length c47]) (by repeat (first | exact Sel.here | apply Sel.there)) rfl ?_
                refine S.retM3 (.inr ⟨_, rfl⟩) .nil Go.Proofs.Tryd.results32 (.agg (cs := [byteV k, .slice a47 xs.length c47]) Go.Proofs.Tryd.isAgg25 (by kernel_rfl) rfl (by repeat (first | exact Sel.here | apply Sel.there))) (.tmp rfl) (.tmp rfl) fun w hw => ?_
                exact Holds.end_ hR hw ⟨_, .inl ⟨k, xs, a47, c47, by rw [← hk, ← hxs]; exact scan_ok h8 h1 h16 (by rw [hk, hxs]; exact ⟨e0, he⟩), rfl, rfl⟩, by repeat (first | exact Picks.all | exact Picks.nil | (apply Picks.cons; focus (repeat (first | exact Sel.here | apply Sel.there))) | apply Picks.skip)⟩

end Go.Proofs.YtcghiboamlaenaaDoor
