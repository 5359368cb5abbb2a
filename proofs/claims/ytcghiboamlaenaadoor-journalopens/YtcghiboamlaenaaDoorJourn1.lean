import Derived.Test.YtcghiboamlaenaaDoorWire3
import Derived.Test.YtcghiboamlaenaaDoorSpKit
import Derived.Test.YtcghiboamlaenaaDoorSpZero
import Derived.Test.YtcghiboamlaenaaDoorSpRange
open Go Go.Sp
set_option maxRecDepth 100000
attribute [local irreducible] obj Own OwnP
namespace Go.Proofs.YtcghiboamlaenaaDoor
theorem FactJourn1.elem23 : elemIs Go.Proofs.Tryd.prog 23 1 24 [.slice none 0 0] := elemIs.mk (by kernel_rfl) rfl
theorem FactJourn1.elem5 : elemIs Go.Proofs.Tryd.prog 5 1 1 [.int .u8 0] := elemIs.mk (by kernel_rfl) rfl
theorem FactJourn1.flat22 : Go.Sp.flat1 Go.Proofs.Tryd.prog 22 = true := by kernel_rfl
theorem FactJourn1.flat23 : Go.Sp.flat1 Go.Proofs.Tryd.prog 23 = true := by kernel_rfl
theorem FactJourn1.flat5 : Go.Sp.flat1 Go.Proofs.Tryd.prog 5 = true := by kernel_rfl
theorem FactJourn1.fld25x0 : fieldOff Go.Proofs.Tryd.prog 25 0 = some 0 := by kernel_rfl
theorem FactJourn1.fld25x1 : fieldOff Go.Proofs.Tryd.prog 25 1 = some 1 := by kernel_rfl
theorem FactJourn1.mixed : Go.Proofs.Tryd.prog.follows .mixedOrders = true := by kernel_rfl
theorem FactJourn1.ok45 : callable Go.Proofs.Tryd.prog 45 = true := by kernel_rfl
theorem FactJourn1.ok46 : callable Go.Proofs.Tryd.prog 46 = true := by kernel_rfl
theorem FactJourn1.ok47 : callable Go.Proofs.Tryd.prog 47 = true := by kernel_rfl
theorem FactJourn1.size23 : (Go.Proofs.Tryd.prog.info? 23).map (·.size) = some 1 := by kernel_rfl
theorem FactJourn1.size5 : (Go.Proofs.Tryd.prog.info? 5).map (·.size) = some 1 := by kernel_rfl

/-- the two sums over bytes -/
def sumSt (p : Int × Int) (x : UInt8) : Int × Int :=
  (IntKind.u32.wrap (p.1 + IntKind.u32.wrap (x.toNat : Int)), IntKind.u32.wrap (p.2 + IntKind.u32.wrap (p.1 + IntKind.u32.wrap (x.toNat : Int))))
def sumOf (xs : List UInt8) : Int × Int := xs.foldl sumSt (0, 0)
theorem sumOf_snoc (xs : List UInt8) (x : UInt8) : sumOf (xs ++ [x]) = sumSt (sumOf xs) x := by simp [sumOf, List.foldl_append]
def sumN (xs : List UInt8) : Int := IntKind.i64.wrap (bitsOf .or .u64 (IntKind.u64.wrap (IntKind.u64.wrap (sumOf xs).1 * 2 ^ min (Int.toNat 32) IntKind.u64.bits)) (IntKind.u64.wrap (sumOf xs).2))
theorem flat_step (xss : List (List UInt8)) (i j : Nat) (h : i < xss.length) (hj : j < xss[i].length) : (xss.take i).flatten ++ xss[i].take (j + 1) = ((xss.take i).flatten ++ xss[i].take j) ++ [xss[i][j]] := by
  rw [List.take_succ_eq_append_getElem hj, List.append_assoc]
theorem sum_c {r : Fr} {va : Value} {xss : List (List UInt8)} (ha : Arr (Rp.slice Rp.u8) r va xss) :
    Con Go.Proofs.Tryd.prog 47 #[va] r [] (Ret fun v η => ∃ a c, v = .slice a 8 c ∧ η = [OwnP Rp.u8 5 v (be (sumN xss.flatten))]) := by
  refine Con.of (n := 38) [va] rfl Go.Proofs.Tryd.func47 rfl rfl rfl fun g hg R hR => ?_
  have ha := ha.mono hg
  have hbd := ha.bound
  obtain ⟨a1, c1, rfl⟩ := ha.shape
  refine S.seq (S.region rfl ?_)
  refine O.op (.p rfl) (.as rfl) ?_
  refine O.nil ?_
  refine S.seq (S.region rfl ?_)
  refine O.op (.p rfl) (.as rfl) ?_
  refine O.op (.p rfl) (.as rfl) ?_
  refine O.nil ?_
  refine S.seq (S.seq (S.region rfl ?_))
  refine O.op (.p rfl) (.mv rfl) ?_
  refine O.op (.p rfl) (.len rfl Go.Proofs.Tryd.underlying101 rfl) ?_
  refine O.op (.p rfl) (.mv rfl) ?_
  refine O.nil ?_
  refine S.block ?_
  refine S.loopK (ι := Nat) (fun i => i ≤ xss.length) (fun i => [(11, .int .i64 (i : Int)), (3, .int .u32 (sumOf (xss.take i).flatten).1), (4, .int .u32 (sumOf (xss.take i).flatten).2)]) [(9, _), (10, _)] (fun i => []) (fun i => xss.length - i) (0) (by simp) (.cons rfl (.cons rfl (.cons rfl (.nil)))) (.cons rfl (.cons rfl (.nil))) rfl fun i hx ih => ?_
  have hm1 := meltRefl (g := g)
  refine S.seq (S.region rfl ?_)
  refine O.op (.p rfl) (.lss rfl rfl) ?_
  refine O.nil ?_
  refine S.seq ?_
  first | refine S.condD rfl (fun h12 => ?_) (fun h12 => ?_) | refine S.condB rfl (fun h12 => ?_) (fun h12 => ?_)
  · have hi : i < xss.length := by omega
    have h1 := flat_len xss i hi
    refine S.skip (S.seq (S.block (S.seq (S.region rfl ?_))))
    refine O.idx' (.p rfl) Go.Proofs.Tryd.underlying101 FactJourn1.size23 rfl rfl rfl (by first | assumption | exact Arr.mono hg (by assumption) | exact Arr.left (by assumption) | exact Arr.left (Arr.mono hg (by assumption))) (by decide) (by first | omega | (simp; done) | (simp; omega) | decide) (fun p13 cs13 hp13 hr13 => ?_)
    obtain ⟨v13, rfl, ha13⟩ := hr13
    obtain ⟨a13, c13, rfl⟩ := ha13.shape
    refine O.op (.p rfl) (.loadAt FactJourn1.flat23 rfl hp13 rfl) ?_
    refine O.op (.p rfl) (.as rfl) ?_
    refine O.nil ?_
    refine S.seq (S.region rfl ?_)
    refine O.op (.p rfl) (.mv rfl) ?_
    refine O.op (.p rfl) (.len rfl Go.Proofs.Tryd.underlying23 rfl) ?_
    refine O.op (.p rfl) (.mv rfl) ?_
    refine O.nil ?_
    refine S.block ?_
    have hb13 := ha13.bound
    refine S.slot 3 (v' := .int .u32 (sumOf ((xss.take i).flatten ++ xss[i].take 0)).1) rfl (by simp) ?_
    refine S.slot 4 (v' := .int .u32 (sumOf ((xss.take i).flatten ++ xss[i].take 0)).2) rfl (by simp) ?_
    refine S.loopK (ι := Nat) (fun j => j ≤ xss[i].length) (fun j => [(17, .int .i64 (j : Int)), (3, .int .u32 (sumOf ((xss.take i).flatten ++ xss[i].take j)).1), (4, .int .u32 (sumOf ((xss.take i).flatten ++ xss[i].take j)).2)]) [(9, _), (10, _), (11, _), (15, _), (16, _)] (fun j => []) (fun j => xss[i].length - j) (0) (by simp) (.cons rfl (.cons rfl (.cons rfl (.nil)))) (.cons rfl (.cons rfl (.cons rfl (.cons rfl (.cons rfl (.nil)))))) rfl fun j hx ih => ?_
    have hm2 := meltRefl (g := g)
    refine S.seq (S.region rfl ?_)
    refine O.op (.p rfl) (.lss rfl rfl) ?_
    refine O.nil ?_
    refine S.seq ?_
    first | refine S.condD rfl (fun h18 => ?_) (fun h18 => ?_) | refine S.condB rfl (fun h18 => ?_) (fun h18 => ?_)
    · have hj : j < xss[i].length := by omega
      have h2 := sumOf_snoc ((xss.take i).flatten ++ xss[i].take j) xss[i][j]
      rw [← flat_step xss i j hi hj] at h2
      have h3 : (sumOf ((xss.take i).flatten ++ xss[i].take (j + 1))).1 = IntKind.u32.wrap ((sumOf ((xss.take i).flatten ++ xss[i].take j)).1 + IntKind.u32.wrap (xss[i][j].toNat : Int)) := by rw [h2]; rfl
      have h4 : (sumOf ((xss.take i).flatten ++ xss[i].take (j + 1))).2 = IntKind.u32.wrap ((sumOf ((xss.take i).flatten ++ xss[i].take j)).2 + IntKind.u32.wrap ((sumOf ((xss.take i).flatten ++ xss[i].take j)).1 + IntKind.u32.wrap (xss[i][j].toNat : Int))) := by rw [h2]; rfl
      refine S.skip (S.seq (S.block (S.seq (S.region rfl ?_))))
      refine O.idx' (.p rfl) Go.Proofs.Tryd.underlying23 FactJourn1.size5 rfl rfl rfl (by first | assumption | exact Arr.mono hg (by assumption) | exact Arr.left (by assumption) | exact Arr.left (Arr.mono hg (by assumption))) (by decide) (by first | omega | (simp; done) | (simp; omega) | decide) (fun p19 cs19 hp19 hr19 => ?_)
      cases hr19
      refine O.op (.p rfl) (.loadAt FactJourn1.flat5 rfl hp19 rfl) ?_
      refine O.op (.p rfl) (.as rfl) ?_
      refine O.nil ?_
      refine S.seq (S.region rfl ?_)
      refine O.op (.p rfl) (.mv rfl) ?_
      refine O.op (.p rfl) (.mv rfl) ?_
      refine O.op (.p rfl) (.cvt Go.Proofs.Tryd.underlying5 Go.Proofs.Tryd.underlying97 rfl) ?_
      refine O.op (.p rfl) (.addW rfl rfl) ?_
      refine O.op (.p rfl) (.as rfl) ?_
      refine O.nil ?_
      refine S.region rfl ?_
      refine O.op (.p rfl) (.mv rfl) ?_
      refine O.op (.p rfl) (.mv rfl) ?_
      refine O.op (.p rfl) (.addW rfl rfl) ?_
      refine O.op (.p rfl) (.as rfl) ?_
      refine O.nil ?_
      refine S.inBlock (S.region rfl ?_)
      refine O.op (.p rfl) (.add rfl rfl (IntWalk.i64_in _ (by omega))) ?_
      refine O.op (.p rfl) (.mv rfl) ?_
      refine O.nil ?_
      rw [← h4, ← h3]
      refine S.weaken ?_ (ih (j + 1) (by omega) (by omega))
      repeat (first | exact Sub.nil | refine Sub.cons rfl ?_)
    · have hj : j = xss[i].length := by omega
      subst hj
      clear ih
      rw [List.take_length, ← h1]
      refine S.exit rfl ?_
      refine S.inBlock (S.region rfl ?_)
      refine O.op (.p rfl) (.add rfl rfl (IntWalk.i64_in _ (by omega))) ?_
      refine O.op (.p rfl) (.mv rfl) ?_
      refine O.nil ?_
      refine S.weaken ?_ (ih (i + 1) (by omega) (by omega))
      repeat (first | exact Sub.nil | refine Sub.cons rfl ?_)
  · have hi : i = xss.length := by omega
    subst hi
    rw [List.take_length]
    refine S.exit rfl ?_
    refine S.seq (S.region rfl ?_)
    refine O.op (.p rfl) (.mv rfl) ?_
    refine O.op (.p rfl) (.cvt Go.Proofs.Tryd.underlying97 Go.Proofs.Tryd.underlying96 rfl) ?_
    refine O.op (.p rfl) (.shl rfl rfl (by omega)) ?_
    refine O.op (.p rfl) (.mv rfl) ?_
    refine O.op (.p rfl) (.cvt Go.Proofs.Tryd.underlying97 Go.Proofs.Tryd.underlying96 rfl) ?_
    refine O.op (.p rfl) (.or rfl rfl) ?_
    refine O.op (.p rfl) (.cvt Go.Proofs.Tryd.underlying96 Go.Proofs.Tryd.underlying3 rfl) ?_
    refine O.call0 (.p rfl) rfl FactJourn1.ok45 rfl rfl (wNumber_c _) ?_
    rintro v37 _ ⟨a37, c37, rfl, rfl⟩
    try simp only [List.cons_append, List.nil_append, List.append_nil]
    refine O.op (.p rfl) (.as rfl) ?_
    refine O.nil ?_
    refine S.ret Go.Proofs.Tryd.results47 rfl fun w hw => hR _ _ w ?_ hw
    exact ⟨a37, c37, rfl, rfl⟩

/-- what is thrown where no entry stands -/
def ends (s : Bool) : List PanicEntry := [{ v := .iface 116 (.agg #[.bool s]), recovered := false }]
theorem jmust_c {r : Fr} (b s : Bool) : Con Go.Proofs.Tryd.prog 72 #[.bool b, .bool s] r [] (RetP (fun v η => b = true ∧ v = .tuple #[] ∧ η = []) (fun ch η => b = false ∧ ch = ends s ∧ η = [])) := by
  refine Con.of (n := 9) [.bool b, .bool s] rfl Go.Proofs.Tryd.func72 rfl rfl rfl fun g hg R hR => ?_
  refine S.seq (S.region rfl ?_)
  refine O.op (.p rfl) (.mv rfl) ?_
  refine O.op (.p rfl) ((by first | exact .notD rfl | exact .not rfl)) ?_
  refine O.nil ?_
  first | refine S.condD rfl (fun h5 => ?_) (fun h5 => ?_) | refine S.condB rfl (fun h5 => ?_) (fun h5 => ?_)
  · refine S.region rfl ?_
    refine O.op (.p rfl) (.mv rfl) ?_
    refine O.op (.p rfl) (.build (cs := [_]) Go.Proofs.Tryd.underlying116 rfl rfl rfl rfl rfl) ?_
    refine O.op (.p rfl) (.mkIface Go.Proofs.Tryd.underlying116 rfl) ?_
    refine O.panic rfl rfl (fun w hw => ?_)
    exact hR _ [] w ⟨by simpa using h5, rfl, rfl⟩ hw
  · refine S.skip ?_
    refine S.end0 Go.Proofs.Tryd.results72 fun w hw => hR _ _ w ?_ hw
    exact ⟨by simpa using h5, rfl, rfl⟩

theorem bclone_c {r : Fr} {va : Value} {xs : List UInt8} (ha : Arr Rp.u8 r va xs) (hl : xs.length ≤ 140737488355328) :
    Con Go.Proofs.Tryd.prog 75 #[va] r [] (Ret fun v η => ∃ a c, v = .slice a xs.length c ∧ η = [OwnP Rp.u8 5 v xs]) := by
  refine Con.of (n := 8) [va] rfl Go.Proofs.Tryd.func75 rfl rfl rfl fun g hg R hR => ?_
  have ha := ha.mono hg
  obtain ⟨a1, c1, rfl⟩ := ha.shape
  cases a1 with
  | none =>
    refine S.seq (S.region rfl ?_)
    refine O.op (.p rfl) (.as rfl) ?_
    refine O.nil ?_
    refine S.seq (S.seq (S.region rfl ?_))
    refine O.op (.p rfl) (.mv rfl) ?_
    refine O.op (.p rfl) (.eqlNil Go.Proofs.Tryd.underlying23 rfl rfl) ?_
    refine O.nil ?_
    refine S.condT rfl ?_
    refine S.seq (S.region rfl ?_)
    refine O.op (.p rfl) (.as rfl) ?_
    refine O.nil ?_
    obtain ⟨rfl, _, rfl⟩ := Arr.nil_of (by decide) ha
    refine S.addNil (T := Rp.u8) (e := 5) ?_
    refine S.ret Go.Proofs.Tryd.results75 rfl fun w hw => hR _ _ w ?_ hw
    exact ⟨none, 0, rfl, rfl⟩
  | some a1 =>
    refine S.seq (S.region rfl ?_)
    refine O.op (.p rfl) (.as rfl) ?_
    refine O.nil ?_
    refine S.seq (S.seq (S.region rfl ?_))
    refine O.op (.p rfl) (.mv rfl) ?_
    refine O.op (.p rfl) (.eqlNil Go.Proofs.Tryd.underlying23 rfl rfl) ?_
    refine O.nil ?_
    refine S.condF rfl ?_
    refine S.skip (S.seq (S.region rfl ?_))
    refine O.opE (.p rfl) (.litP (T := Rp.u8) (ys := []) Go.Proofs.Tryd.underlying23 FactJourn1.elem5 (by decide) rfl rfl trivial (by decide)) ?_
    rintro _ _ ⟨a5, c5, rfl, rfl⟩
    refine O.op (.p rfl) (.mv rfl) ?_
    refine O.opE (.p rfl) (.appendP (T := Rp.u8) pure_u8 Go.Proofs.Tryd.underlying23 FactJourn1.elem5 (by decide) rfl rfl (by repeat (first | exact Sel.here | apply Sel.there)) (by first | assumption | exact Arr.mono hg (by assumption) | exact Arr.left (by assumption) | exact Arr.left (Arr.mono hg (by assumption))) (by first | omega | (simp; done) | (simp; omega) | decide) (by first | omega | (simp; done) | (simp; omega) | decide)) ?_
    rintro _ _ ⟨a7, c7, rfl, rfl⟩
    refine O.op (.p rfl) (.as rfl) ?_
    refine O.nil ?_
    refine S.ret Go.Proofs.Tryd.results75 rfl fun w hw => hR _ _ w ?_ hw
    exact ⟨a7, c7, by simp, by simp⟩

theorem bequal_c {r : Fr} {va vb : Value} {xs ys : List UInt8} (ha : Arr Rp.u8 r va xs) (hb : Arr Rp.u8 r vb ys) :
    Con Go.Proofs.Tryd.prog 76 #[va, vb] r [] (Ret fun v η => v = .bool (decide (xs = ys)) ∧ η = []) := by
  refine Con.of (n := 10) [va, vb] rfl Go.Proofs.Tryd.func76 rfl rfl rfl fun g hg R hR => ?_
  have ha := ha.mono hg
  have hb := hb.mono hg
  refine S.seq (S.region rfl ?_)
  refine O.op (.p rfl) (.as rfl) ?_
  refine O.nil ?_
  refine S.seq (S.region rfl ?_)
  refine O.op (.p rfl) (.mv rfl) ?_
  refine O.op (.p rfl) (.toStr Go.Proofs.Tryd.underlying23 Go.Proofs.Tryd.underlying5 Go.Proofs.Tryd.underlying9 rfl (by first | assumption | exact Arr.mono hg (by assumption) | exact Arr.left (by assumption) | exact Arr.left (Arr.mono hg (by assumption)))) ?_
  refine O.op (.p rfl) (.mv rfl) ?_
  refine O.op (.p rfl) (.toStr Go.Proofs.Tryd.underlying23 Go.Proofs.Tryd.underlying5 Go.Proofs.Tryd.underlying9 rfl (by first | assumption | exact Arr.mono hg (by assumption) | exact Arr.left (by assumption) | exact Arr.left (Arr.mono hg (by assumption)))) ?_
  refine O.op (.p rfl) (.eqlS rfl rfl) ?_
  refine O.op (.p rfl) (.as rfl) ?_
  refine O.nil ?_
  refine S.ret Go.Proofs.Tryd.results76 rfl fun w hw => hR _ _ w ?_ hw
  exact ⟨by simp, rfl⟩

/-- an entry's bytes, and what Put tells of it -/
def putBytes (k : UInt8) (xs : List UInt8) : List UInt8 := ((be (1 + (xs.length : Int)) ++ [k]) ++ xs) ++ be (sumN ((be (1 + (xs.length : Int)) ++ [k]) ++ xs))
theorem putBytes_length (k : UInt8) (xs : List UInt8) : (putBytes k xs).length = 17 + xs.length := by simp [putBytes]; omega
def putErr (k : UInt8) (xs : List UInt8) : Int := if (k.toNat : Int) < 1 ∨ 4 < (k.toNat : Int) then 2 else if 262144 < xs.length then 3 else 0
def putOut (k : UInt8) (xs : List UInt8) : List UInt8 := if putErr k xs = 0 then putBytes k xs else []
theorem put_c {r : Fr} {k : UInt8} {va : Value} {xs : List UInt8} (ha : Arr Rp.u8 r va xs) :
    Con Go.Proofs.Tryd.prog 24 #[.agg #[byteV k, va]] r [] (Ret fun v η => ∃ a c, v = .tuple #[.slice a (putOut k xs).length c, .int .i64 (putErr k xs)] ∧ η = [OwnP Rp.u8 5 (.slice a (putOut k xs).length c) (putOut k xs)]) := by
  refine Con.of (n := 38) [.agg #[byteV k, va]] rfl Go.Proofs.Tryd.func24 rfl rfl rfl fun g hg R hR => ?_
  have ha := ha.mono hg
  obtain ⟨a1, c1, rfl⟩ := ha.shape
  refine S.seq (S.region rfl ?_)
  refine O.opE (.p rfl) (.box (cs := [_, _]) rfl rfl) ?_
  rintro _ _ ⟨b1, rfl, rfl⟩
  refine O.op (.p rfl) (.as rfl) ?_
  refine O.op (.p rfl) (.as rfl) ?_
  refine O.nil ?_
  refine S.seq (S.block (S.seq (S.region rfl ?_)))
  refine O.op (.p rfl) (.fieldObj FactJourn1.fld25x0 rfl) ?_
  refine O.op (.p rfl) (.loadObj FactJourn1.flat22 rfl (by repeat (first | exact Sel.here | apply Sel.there)) rfl) ?_
  refine O.op (.p rfl) (.lss rfl rfl) ?_
  refine O.op (.p rfl) (.mv rfl) ?_
  first | refine O.caseD 9 rfl (fun h9 => ?_) (fun h9 => ?_) | refine O.caseB 9 rfl (fun h9 => ?_) (fun h9 => ?_)
  · have e : putErr k xs = 2 := by simp [putErr, h9]
    have eo : putOut k xs = [] := by simp [putOut, e]
    rw [e, eo] at hR
    refine O.opN rfl rfl rfl ?_
    refine O.opN rfl rfl rfl ?_
    refine O.opN rfl rfl rfl ?_
    refine O.op (.p rfl) (.pickT rfl rfl) ?_
    refine O.op (.p rfl) (.as rfl) ?_
    refine O.nil ?_
    refine S.condT rfl ?_
    refine S.seq (S.region rfl ?_)
    refine O.op (.p rfl) (.as rfl) ?_
    refine O.op (.p rfl) (.as rfl) ?_
    refine O.nil ?_
    refine S.addNil (T := Rp.u8) (e := 5) ?_
    refine S.ret2 Go.Proofs.Tryd.results24 rfl rfl fun w hw => Holds.end_ hR hw ?_
    exact ⟨_, ⟨none, 0, rfl, rfl⟩, by repeat (first | exact Picks.all | exact Picks.nil | (apply Picks.cons; focus (repeat (first | exact Sel.here | apply Sel.there))) | apply Picks.skip)⟩
  · refine O.op (.g rfl rfl) (.fieldObj FactJourn1.fld25x0 rfl) ?_
    refine O.op (.g rfl rfl) (.loadObj FactJourn1.flat22 rfl (by repeat (first | exact Sel.here | apply Sel.there)) rfl) ?_
    refine O.op (.g rfl rfl) (.gtr rfl rfl) ?_
    refine O.op (.p rfl) (.pickF rfl rfl) ?_
    refine O.op (.p rfl) (.as rfl) ?_
    refine O.nil ?_
    first | refine S.condD rfl (fun h5 => ?_) (fun h5 => ?_) | refine S.condB rfl (fun h5 => ?_) (fun h5 => ?_)
    · have e : putErr k xs = 2 := by simp [putErr, h5]
      have eo : putOut k xs = [] := by simp [putOut, e]
      rw [e, eo] at hR
      refine S.seq (S.region rfl ?_)
      refine O.op (.p rfl) (.as rfl) ?_
      refine O.op (.p rfl) (.as rfl) ?_
      refine O.nil ?_
      refine S.addNil (T := Rp.u8) (e := 5) ?_
      refine S.ret2 Go.Proofs.Tryd.results24 rfl rfl fun w hw => Holds.end_ hR hw ?_
      exact ⟨_, ⟨none, 0, rfl, rfl⟩, by repeat (first | exact Picks.all | exact Picks.nil | (apply Picks.cons; focus (repeat (first | exact Sel.here | apply Sel.there))) | apply Picks.skip)⟩
    · refine S.seq (S.region rfl ?_)
      refine O.op (.p rfl) (.fieldObj FactJourn1.fld25x1 rfl) ?_
      refine O.op (.p rfl) (.loadObj FactJourn1.flat23 rfl (by repeat (first | exact Sel.here | apply Sel.there)) rfl) ?_
      refine O.op (.p rfl) (.len rfl Go.Proofs.Tryd.underlying23 rfl) ?_
      refine O.op (.p rfl) (.gtr rfl rfl) ?_
      refine O.op (.p rfl) (.as rfl) ?_
      refine O.nil ?_
      first | refine S.condD rfl (fun h14 => ?_) (fun h14 => ?_) | refine S.condB rfl (fun h14 => ?_) (fun h14 => ?_)
      · have e : putErr k xs = 3 := by
          have h14 : 262144 < xs.length := by omega
          simp [putErr, h14]; omega
        have eo : putOut k xs = [] := by simp [putOut, e]
        rw [e, eo] at hR
        refine S.seq (S.region rfl ?_)
        refine O.op (.p rfl) (.as rfl) ?_
        refine O.op (.p rfl) (.as rfl) ?_
        refine O.nil ?_
        refine S.addNil (T := Rp.u8) (e := 5) ?_
        refine S.ret2 Go.Proofs.Tryd.results24 rfl rfl fun w hw => Holds.end_ hR hw ?_
        exact ⟨_, ⟨none, 0, rfl, rfl⟩, by repeat (first | exact Picks.all | exact Picks.nil | (apply Picks.cons; focus (repeat (first | exact Sel.here | apply Sel.there))) | apply Picks.skip)⟩
      · have e : putErr k xs = 0 := by
          have h14 : ¬ 262144 < xs.length := by omega
          simp [putErr, h14]; omega
        have eo : putOut k xs = putBytes k xs := by simp [putOut, e]
        have hl : xs.length ≤ 262144 := by omega
        rw [e, eo] at hR
        refine S.skip (S.inBlock (S.seq ?_))
        refine S.frzO (by repeat (first | exact Sel.here | apply Sel.there)) fun g hs hm h1 => ?_
        replace hg := Fr.sub_trans hg hs
        replace hR := melted hR hm
        try replace ha := ha.mono hs
        clear hs hm
        refine S.regionD (L := [0, 1, 2, 3, 5, 6, 4, 7, 8, 9]) FactJourn1.mixed (by kernel_rfl) ?_
        refine .quiet (.p rfl) rfl (fun _ => .fieldAddr FactJourn1.fld25x1 rfl) ?_
        refine .quiet (.p rfl) rfl (fun _ => .loadAt FactJourn1.flat23 rfl (h1.drop 1) rfl) ?_
        refine .quiet (.p rfl) rfl (fun _ => .len rfl Go.Proofs.Tryd.underlying23 rfl) ?_
        refine .quiet (.p rfl) rfl (fun _ => .add rfl rfl (IntWalk.i64_in _ (by omega))) ?_
        refine .quiet (.p rfl) rfl (fun _ => .fieldAddr FactJourn1.fld25x0 rfl) ?_
        refine .quiet (.p rfl) rfl (fun _ => .loadAt FactJourn1.flat22 rfl h1 rfl) ?_
        refine OD.alt2 4 7 [7, 8, 9] [4, 8, 9] (by kernel_rfl) rfl rfl ?_ ?_
        · refine ODt.call0 (.p rfl) (by kernel_rfl) rfl FactJourn1.ok45 rfl rfl (wNumber_c _) ?_
          rintro v23 _ ⟨a23, c23, rfl, rfl⟩
          try simp only [List.cons_append, List.nil_append, List.append_nil]
          refine OD.litP (T := Rp.u8) (ys := [_]) (.p rfl) (by kernel_rfl) Go.Proofs.Tryd.underlying23 FactJourn1.elem5 (by decide) rfl rfl ⟨rfl, trivial⟩ (by decide) (fun a26 c26 => ?_)
          refine OD.appendO (.p rfl) (by kernel_rfl) (T := Rp.u8) Go.Proofs.Tryd.underlying23 FactJourn1.elem5 (by decide) rfl rfl (by repeat (first | exact Sel.here | apply Sel.there)) (by repeat (first | exact Sel.here | apply Sel.there)) (by first | omega | (simp; done) | (simp; omega) | decide) (by first | omega | (simp; done) | (simp; omega) | decide) (fun a27 c27 => ?_)
          refine .quiet (.p rfl) rfl (fun _ => .as rfl) ?_
          refine .nil ?_
          refine S.seq (S.regionD (L := [0, 1, 2, 3, 4, 5, 6, 7, 8, 9, 10, 11]) FactJourn1.mixed (by kernel_rfl) ?_)
          refine .quiet (.p rfl) rfl (fun _ => .mv rfl) ?_
          refine .quiet (.p rfl) rfl (fun _ => .fieldAddr FactJourn1.fld25x1 rfl) ?_
          refine .quiet (.p rfl) rfl (fun _ => .loadAt FactJourn1.flat23 rfl (h1.drop 1) rfl) ?_
          refine .quiet (.p rfl) rfl (fun _ => .mv rfl) ?_
          refine .quiet (.p rfl) rfl (fun _ => .fieldAddr FactJourn1.fld25x1 rfl) ?_
          refine .quiet (.p rfl) rfl (fun _ => .loadAt FactJourn1.flat23 rfl (h1.drop 1) rfl) ?_
          refine OD.litP (T := Rp.val) (ys := [_, _]) (.p rfl) (by kernel_rfl) Go.Proofs.Tryd.underlying101 FactJourn1.elem23 (by decide) rfl rfl ⟨⟨rfl, rfl⟩, ⟨rfl, rfl⟩, trivial⟩ (by decide) (fun a34 c34 => ?_)
          refine OD.callB (.p rfl) (by kernel_rfl) rfl FactJourn1.ok47 rfl rfl (bs := [OwnP Rp.val 23 (.slice a34 2 c34) [(.slice a27 ((be (1 + (xs.length : Int))).length + [k].length) c27), .slice a1 xs.length c1], OwnP Rp.u8 5 (.slice a27 ((be (1 + (xs.length : Int))).length + [k].length) c27) (be (1 + (xs.length : Int)) ++ [k])]) (by repeat (first | exact Sels.nil | (apply Sels.cons; focus (repeat (first | exact Sel.here | apply Sel.there))))) (fun m hm hd => sum_c (xss := [(be (1 + (xs.length : Int)) ++ [k]), xs]) ((hm.arr.right hd).rows ⟨hm.tail.arr.right hd, ha.left, trivial⟩)) ?_
          rintro v35 _ ⟨a35, c35, rfl, rfl⟩
          try simp only [List.cons_append, List.nil_append, List.append_nil]
          refine OD.litP (T := Rp.val) (ys := [_, _, _]) (.p rfl) (by kernel_rfl) Go.Proofs.Tryd.underlying101 FactJourn1.elem23 (by decide) rfl rfl ⟨⟨rfl, rfl⟩, ⟨rfl, rfl⟩, ⟨rfl, rfl⟩, trivial⟩ (by decide) (fun a36 c36 => ?_)
          refine OD.callB (.p rfl) (by kernel_rfl) rfl FactJourn1.ok46 rfl rfl (bs := [OwnP Rp.val 23 (.slice a36 3 c36) [(.slice a27 ((be (1 + (xs.length : Int))).length + [k].length) c27), .slice a1 xs.length c1, .slice a35 8 c35], OwnP Rp.u8 5 (.slice a27 ((be (1 + (xs.length : Int))).length + [k].length) c27) (be (1 + (xs.length : Int)) ++ [k]), OwnP Rp.u8 5 (.slice a35 8 c35) (be (sumN ([(be (1 + (xs.length : Int)) ++ [k]), xs].flatten)))]) (by repeat (first | exact Sels.nil | (apply Sels.cons; focus (repeat (first | exact Sel.here | apply Sel.there))))) (fun m hm hd => wJoin_c (xss := [(be (1 + (xs.length : Int)) ++ [k]), xs, be (sumN ([(be (1 + (xs.length : Int)) ++ [k]), xs].flatten))]) ((hm.arr.right hd).rows ⟨hm.tail.arr.right hd, ha.left, hm.tail.tail.arr.right hd, trivial⟩) (by simp [be_length]; omega)) ?_
          rintro v37 _ ⟨a37, c37, rfl, rfl⟩
          try simp only [List.cons_append, List.nil_append, List.append_nil]
          refine .quiet (.p rfl) rfl (fun _ => .as rfl) ?_
          refine .quiet (.p rfl) rfl (fun _ => .as rfl) ?_
          refine .nil ?_
          refine S.ret2 Go.Proofs.Tryd.results24 rfl rfl fun w hw => Holds.end_ hR hw ?_
          have ep : [(be (1 + (xs.length : Int)) ++ [k]), xs, be (sumN ([(be (1 + (xs.length : Int)) ++ [k]), xs].flatten))].flatten = putBytes k xs := by simp [putBytes]
          rw [ep]
          exact ⟨_, ⟨a37, c37, rfl, rfl⟩, by repeat (first | exact Picks.all | exact Picks.nil | (apply Picks.cons; focus (repeat (first | exact Sel.here | apply Sel.there))) | apply Picks.skip)⟩
        · refine ODt.litP (T := Rp.u8) (ys := [_]) (.p rfl) (by kernel_rfl) Go.Proofs.Tryd.underlying23 FactJourn1.elem5 (by decide) rfl rfl ⟨rfl, trivial⟩ (by decide) (fun a26 c26 => ?_)
          refine OD.call0 (.p rfl) (by kernel_rfl) rfl FactJourn1.ok45 rfl rfl (wNumber_c _) ?_
          rintro v23 _ ⟨a23, c23, rfl, rfl⟩
          try simp only [List.cons_append, List.nil_append, List.append_nil]
          refine OD.appendO (.p rfl) (by kernel_rfl) (T := Rp.u8) Go.Proofs.Tryd.underlying23 FactJourn1.elem5 (by decide) rfl rfl (by repeat (first | exact Sel.here | apply Sel.there)) (by repeat (first | exact Sel.here | apply Sel.there)) (by first | omega | (simp; done) | (simp; omega) | decide) (by first | omega | (simp; done) | (simp; omega) | decide) (fun a27 c27 => ?_)
          refine .quiet (.p rfl) rfl (fun _ => .as rfl) ?_
          refine .nil ?_
          refine S.seq (S.regionD (L := [0, 1, 2, 3, 4, 5, 6, 7, 8, 9, 10, 11]) FactJourn1.mixed (by kernel_rfl) ?_)
          refine .quiet (.p rfl) rfl (fun _ => .mv rfl) ?_
          refine .quiet (.p rfl) rfl (fun _ => .fieldAddr FactJourn1.fld25x1 rfl) ?_
          refine .quiet (.p rfl) rfl (fun _ => .loadAt FactJourn1.flat23 rfl (h1.drop 1) rfl) ?_
          refine .quiet (.p rfl) rfl (fun _ => .mv rfl) ?_
          refine .quiet (.p rfl) rfl (fun _ => .fieldAddr FactJourn1.fld25x1 rfl) ?_
          refine .quiet (.p rfl) rfl (fun _ => .loadAt FactJourn1.flat23 rfl (h1.drop 1) rfl) ?_
          refine OD.litP (T := Rp.val) (ys := [_, _]) (.p rfl) (by kernel_rfl) Go.Proofs.Tryd.underlying101 FactJourn1.elem23 (by decide) rfl rfl ⟨⟨rfl, rfl⟩, ⟨rfl, rfl⟩, trivial⟩ (by decide) (fun a34 c34 => ?_)
          refine OD.callB (.p rfl) (by kernel_rfl) rfl FactJourn1.ok47 rfl rfl (bs := [OwnP Rp.val 23 (.slice a34 2 c34) [(.slice a27 ((be (1 + (xs.length : Int))).length + [k].length) c27), .slice a1 xs.length c1], OwnP Rp.u8 5 (.slice a27 ((be (1 + (xs.length : Int))).length + [k].length) c27) (be (1 + (xs.length : Int)) ++ [k])]) (by repeat (first | exact Sels.nil | (apply Sels.cons; focus (repeat (first | exact Sel.here | apply Sel.there))))) (fun m hm hd => sum_c (xss := [(be (1 + (xs.length : Int)) ++ [k]), xs]) ((hm.arr.right hd).rows ⟨hm.tail.arr.right hd, ha.left, trivial⟩)) ?_
          rintro v35 _ ⟨a35, c35, rfl, rfl⟩
          try simp only [List.cons_append, List.nil_append, List.append_nil]
          refine OD.litP (T := Rp.val) (ys := [_, _, _]) (.p rfl) (by kernel_rfl) Go.Proofs.Tryd.underlying101 FactJourn1.elem23 (by decide) rfl rfl ⟨⟨rfl, rfl⟩, ⟨rfl, rfl⟩, ⟨rfl, rfl⟩, trivial⟩ (by decide) (fun a36 c36 => ?_)
          refine OD.callB (.p rfl) (by kernel_rfl) rfl FactJourn1.ok46 rfl rfl (bs := [OwnP Rp.val 23 (.slice a36 3 c36) [(.slice a27 ((be (1 + (xs.length : Int))).length + [k].length) c27), .slice a1 xs.length c1, .slice a35 8 c35], OwnP Rp.u8 5 (.slice a27 ((be (1 + (xs.length : Int))).length + [k].length) c27) (be (1 + (xs.length : Int)) ++ [k]), OwnP Rp.u8 5 (.slice a35 8 c35) (be (sumN ([(be (1 + (xs.length : Int)) ++ [k]), xs].flatten)))]) (by repeat (first | exact Sels.nil | (apply Sels.cons; focus (repeat (first | exact Sel.here | apply Sel.there))))) (fun m hm hd => wJoin_c (xss := [(be (1 + (xs.length : Int)) ++ [k]), xs, be (sumN ([(be (1 + (xs.length : Int)) ++ [k]), xs].flatten))]) ((hm.arr.right hd).rows ⟨hm.tail.arr.right hd, ha.left, hm.tail.tail.arr.right hd, trivial⟩) (by simp [be_length]; omega)) ?_
          rintro v37 _ ⟨a37, c37, rfl, rfl⟩
          try simp only [List.cons_append, List.nil_append, List.append_nil]
          refine .quiet (.p rfl) rfl (fun _ => .as rfl) ?_
          refine .quiet (.p rfl) rfl (fun _ => .as rfl) ?_
          refine .nil ?_
          refine S.ret2 Go.Proofs.Tryd.results24 rfl rfl fun w hw => Holds.end_ hR hw ?_
          have ep : [(be (1 + (xs.length : Int)) ++ [k]), xs, be (sumN ([(be (1 + (xs.length : Int)) ++ [k]), xs].flatten))].flatten = putBytes k xs := by simp [putBytes]
          rw [ep]
          exact ⟨_, ⟨a37, c37, rfl, rfl⟩, by repeat (first | exact Picks.all | exact Picks.nil | (apply Picks.cons; focus (repeat (first | exact Sel.here | apply Sel.there))) | apply Picks.skip)⟩

end Go.Proofs.YtcghiboamlaenaaDoor
