import Derived.Test.YtodkpkmhnpmmgaaGreatWire11
open Go Go.Sp
set_option maxRecDepth 100000
attribute [local irreducible] obj Own OwnP
namespace Go.Proofs.YtodkpkmhnpmmgaaGreat
theorem FactWire12.elem5 : elemIs Go.Proofs.Tryz.prog 5 1 1 [.int .u8 0] := elemIs.mk (by kernel_rfl) rfl
theorem FactWire12.flat23 : Go.Sp.flat1 Go.Proofs.Tryz.prog 23 = true := by kernel_rfl
theorem FactWire12.flat3 : Go.Sp.flat1 Go.Proofs.Tryz.prog 3 = true := by kernel_rfl
theorem FactWire12.flat4 : Go.Sp.flat1 Go.Proofs.Tryz.prog 4 = true := by kernel_rfl
theorem FactWire12.flat5 : Go.Sp.flat1 Go.Proofs.Tryz.prog 5 = true := by kernel_rfl
theorem FactWire12.fld84x0 : fieldOff Go.Proofs.Tryz.prog 84 0 = some 0 := by kernel_rfl
theorem FactWire12.fld84x1 : fieldOff Go.Proofs.Tryz.prog 84 1 = some 1 := by kernel_rfl
theorem FactWire12.fld84x2 : fieldOff Go.Proofs.Tryz.prog 84 2 = some 2 := by kernel_rfl
theorem FactWire12.mixed : Go.Proofs.Tryz.prog.follows .mixedOrders = true := by kernel_rfl
theorem FactWire12.ok40 : callable Go.Proofs.Tryz.prog 40 = true := by kernel_rfl
theorem FactWire12.ok42 : callable Go.Proofs.Tryz.prog 42 = true := by kernel_rfl
theorem FactWire12.ok79 : callable Go.Proofs.Tryz.prog 79 = true := by kernel_rfl
theorem FactWire12.size5 : (Go.Proofs.Tryz.prog.info? 5).map (·.size) = some 1 := by kernel_rfl

theorem refNewReader_c {r : Fr} {va : Value} {xs : List UInt8} (ha : Arr Rp.u8 r va xs) (hl : xs.length ≤ 140737488355328) :
    Con Go.Proofs.Tryz.prog 19 #[va] r [] (Ret fun v η => ∃ b a c, v = .pointer (some ⟨b, 0, none⟩) ∧ η = [obj b 84 [.slice a xs.length c, .int .i64 0, .bool false], OwnP Rp.u8 5 (.slice a xs.length c) xs]) := by
  refine Con.of (n := 8) [va] rfl Go.Proofs.Tryz.func19 rfl rfl rfl fun g hg R hR => ?_
  have ha := ha.mono hg
  obtain ⟨a1, c1, rfl⟩ := ha.shape
  refine S.seq (S.region rfl ?_)
  refine O.op (.p rfl) (.as rfl) ?_
  refine O.nil ?_
  refine S.seq (S.region rfl ?_)
  refine O.opE (.p rfl) (.litP (T := Rp.u8) (ys := []) Go.Proofs.Tryz.underlying23 FactWire12.elem5 (by decide) rfl rfl trivial (by decide)) ?_
  rintro _ _ ⟨a3, c3, rfl, rfl⟩
  refine O.op (.p rfl) (.mv rfl) ?_
  refine O.opE (.p rfl) (.appendP (T := Rp.u8) pure_u8 Go.Proofs.Tryz.underlying23 FactWire12.elem5 (by decide) rfl rfl (by repeat (first | exact Sel.here | apply Sel.there)) (by first | assumption | exact Arr.mono hg (by assumption) | exact Arr.left (by assumption) | exact Arr.left (Arr.mono hg (by assumption))) (by first | omega | (simp; done) | (simp; omega) | decide) (by first | omega | (simp; done) | (simp; omega) | decide)) ?_
  rintro _ _ ⟨a5, c5, rfl, rfl⟩
  refine O.op (.p rfl) (.build (cs := [_, _, _]) Go.Proofs.Tryz.underlying84 rfl rfl rfl rfl rfl) ?_
  refine O.opE (.p rfl) (.box (cs := [_, _, _]) rfl rfl) ?_
  rintro _ _ ⟨b7, rfl, rfl⟩
  refine O.op (.p rfl) (.as rfl) ?_
  refine O.nil ?_
  simp only [List.length_nil, Nat.zero_add, List.nil_append]
  refine S.ret Go.Proofs.Tryz.results19 rfl fun w hw => Holds.end_ hR hw ?_
  exact ⟨_, ⟨b7, a5, c5, rfl, rfl⟩, by repeat (first | exact Picks.all | exact Picks.nil | (apply Picks.cons; focus (repeat (first | exact Sel.here | apply Sel.there))) | apply Picks.skip)⟩
theorem refGood_c {r : Fr} {b : Nat} {v u : Value} {bad : Bool} : Con Go.Proofs.Tryz.prog 22 #[.pointer (some ⟨b, 0, none⟩)] r [obj b 84 [v, u, .bool bad]] (Ret fun z η => z = .bool (!bad) ∧ η = [obj b 84 [v, u, .bool bad]]) := by
  refine Con.of (n := 8) [.pointer (some ⟨b, 0, none⟩)] rfl Go.Proofs.Tryz.func22 rfl rfl rfl fun g hg R hR => ?_
  refine S.seq (S.region rfl ?_)
  refine O.op (.p rfl) (.as rfl) ?_
  refine O.nil ?_
  refine S.seq (S.region rfl ?_)
  refine O.op (.p rfl) (.mv rfl) ?_
  refine O.op (.p rfl) (.nilCheck rfl) ?_
  refine O.op (.p rfl) (.fieldObj FactWire12.fld84x2 rfl) ?_
  refine O.op (.p rfl) (.loadObj FactWire12.flat4 rfl (by repeat (first | exact Sel.here | apply Sel.there)) rfl) ?_
  refine O.op (.p rfl) ((by first | exact .notD rfl | exact .not rfl)) ?_
  refine O.op (.p rfl) (.as rfl) ?_
  refine O.nil ?_
  refine S.ret Go.Proofs.Tryz.results22 rfl fun w hw => hR _ _ w ?_ hw
  exact ⟨rfl, rfl⟩
theorem refDone_c {r : Fr} {b p : Nat} {v : Value} {xs : List UInt8} {bad : Bool} (ha : Arr Rp.u8 r v xs) : Con Go.Proofs.Tryz.prog 24 #[.pointer (some ⟨b, 0, none⟩)] r [obj b 84 [v, .int .i64 (p : Int), .bool bad]]
    (Ret fun z η => z = .bool (!bad && decide (p = xs.length)) ∧ η = [obj b 84 [v, .int .i64 (p : Int), .bool bad]]) := by
  refine Con.of (n := 20) [.pointer (some ⟨b, 0, none⟩)] rfl Go.Proofs.Tryz.func24 rfl rfl rfl fun g hg R hR => ?_
  obtain ⟨a1, c1, rfl⟩ := ha.shape
  refine S.frzT (B := obj b 84 [.slice a1 xs.length c1, .int .i64 (p : Int), .bool bad]) (by repeat (first | exact Sel.here | apply Sel.there)) fun g2 hs2 ⟨m, hm, hsm⟩ th => ?_
  have hat := (obj_at hm).mono hsm
  cases bad with
  | true =>
    refine S.seq (S.region rfl ?_)
    refine O.op (.p rfl) (.as rfl) ?_
    refine O.nil ?_
    refine S.seq (S.regionD (L := [0, 1, 2, 3, 4, 5, 6, 7, 8, 9, 10, 11, 12, 13, 14, 15, 16, 17]) FactWire12.mixed (by kernel_rfl) ?_)
    refine .quiet (.p rfl) rfl (fun _ => .mv rfl) ?_
    refine .quiet (.p rfl) rfl (fun _ => .nilCheck rfl) ?_
    refine .quiet (.p rfl) rfl (fun _ => .fieldAddr FactWire12.fld84x2 rfl) ?_
    refine .quiet (.p rfl) rfl (fun _ => .loadAt FactWire12.flat4 rfl (hat.drop 2) rfl) ?_
    refine OD.slot 6 (v' := .bool true) rfl (congrArg Value.bool (by first | decide | simp)) ?_
    refine .quiet (.p rfl) rfl (fun _ => .not rfl) ?_
    refine .quiet (.p rfl) rfl (fun _ => .mv rfl) ?_
    refine .no rfl rfl rfl rfl ?_
    refine .no rfl rfl rfl rfl ?_
    refine .no rfl rfl rfl rfl ?_
    refine .no rfl rfl rfl rfl ?_
    refine .no rfl rfl rfl rfl ?_
    refine .no rfl rfl rfl rfl ?_
    refine .no rfl rfl rfl rfl ?_
    refine .no rfl rfl rfl rfl ?_
    refine .no rfl rfl rfl rfl ?_
    refine .no rfl rfl rfl rfl ?_
    refine .quiet (.p rfl) rfl (fun _ => .pickF rfl rfl) ?_
    refine .quiet (.p rfl) rfl (fun _ => .as rfl) ?_
    refine .nil ?_
    refine th ?_
    refine S.ret Go.Proofs.Tryz.results24 rfl fun w hw => hR _ _ w ?_ hw
    exact ⟨rfl, rfl⟩
  | false =>
    refine S.seq (S.region rfl ?_)
    refine O.op (.p rfl) (.as rfl) ?_
    refine O.nil ?_
    refine S.seq (S.regionD (L := [0, 1, 2, 3, 4, 5, 6, 7, 8, 9, 10, 11, 12, 13, 14, 15, 16, 17]) FactWire12.mixed (by kernel_rfl) ?_)
    refine .quiet (.p rfl) rfl (fun _ => .mv rfl) ?_
    refine .quiet (.p rfl) rfl (fun _ => .nilCheck rfl) ?_
    refine .quiet (.p rfl) rfl (fun _ => .fieldAddr FactWire12.fld84x2 rfl) ?_
    refine .quiet (.p rfl) rfl (fun _ => .loadAt FactWire12.flat4 rfl (hat.drop 2) rfl) ?_
    refine OD.slot 6 (v' := .bool false) rfl (congrArg Value.bool (by first | decide | simp)) ?_
    refine .quiet (.p rfl) rfl (fun _ => .not rfl) ?_
    refine .quiet (.p rfl) rfl (fun _ => .mv rfl) ?_
    refine .quiet (.g rfl rfl) rfl (fun _ => .mv rfl) ?_
    refine .quiet (.g rfl rfl) rfl (fun _ => .nilCheck rfl) ?_
    refine .quiet (.g rfl rfl) rfl (fun _ => .fieldAddr FactWire12.fld84x1 rfl) ?_
    refine .quiet (.g rfl rfl) rfl (fun _ => .loadAt FactWire12.flat3 rfl (hat.drop 1) rfl) ?_
    refine .quiet (.g rfl rfl) rfl (fun _ => .mv rfl) ?_
    refine .quiet (.g rfl rfl) rfl (fun _ => .nilCheck rfl) ?_
    refine .quiet (.g rfl rfl) rfl (fun _ => .fieldAddr FactWire12.fld84x0 rfl) ?_
    refine .quiet (.g rfl rfl) rfl (fun _ => .loadAt FactWire12.flat23 rfl hat rfl) ?_
    refine .quiet (.g rfl rfl) rfl (fun _ => .len rfl Go.Proofs.Tryz.underlying23 rfl) ?_
    refine .quiet (.g rfl rfl) rfl (fun _ => .eql rfl rfl) ?_
    refine .quiet (.p rfl) rfl (fun _ => .pickT rfl rfl) ?_
    refine .quiet (.p rfl) rfl (fun _ => .as rfl) ?_
    refine .nil ?_
    refine th ?_
    refine S.ret Go.Proofs.Tryz.results24 rfl fun w hw => hR _ _ w ?_ hw
    have e : ((p : Int) = (xs.length : Int)) ↔ p = xs.length := by omega
    exact ⟨by simp [e], rfl⟩
/-- so many are left, of a good one -/
def lok (bad : Bool) (n : Int) (p len : Nat) : Bool := !bad && decide (0 ≤ n ∧ n + (p : Int) ≤ (len : Int))
theorem refLeft_c {r : Fr} {b p : Nat} {v : Value} {xs : List UInt8} {bad : Bool} (n : Int) (ha : Arr Rp.u8 r v xs) (hp : p ≤ xs.length) : Con Go.Proofs.Tryz.prog 79 #[.pointer (some ⟨b, 0, none⟩), .int .i64 n] r [obj b 84 [v, .int .i64 (p : Int), .bool bad]]
    (Ret fun z η => z = .bool (lok bad n p xs.length) ∧ η = [obj b 84 [v, .int .i64 (p : Int), .bool (!lok bad n p xs.length)]]) := by
  refine Con.of (n := 30) [.pointer (some ⟨b, 0, none⟩), .int .i64 n] rfl Go.Proofs.Tryz.func79 rfl rfl rfl fun g hg R hR => ?_
  have hbd := ha.bound
  obtain ⟨a1, c1, rfl⟩ := ha.shape
  refine S.frzT (B := obj b 84 [.slice a1 xs.length c1, .int .i64 (p : Int), .bool bad]) (by repeat (first | exact Sel.here | apply Sel.there)) fun g2 hs2 ⟨m, hm, hsm⟩ th => ?_
  have hat := (obj_at hm).mono hsm
  cases bad with
  | true =>
    refine S.seq (S.region rfl ?_)
    refine O.op (.p rfl) (.as rfl) ?_
    refine O.nil ?_
    refine S.seq (S.seq (S.regionD (L := [0, 1, 2, 3, 4, 5, 6, 7, 8, 9, 10, 11, 12, 13, 14, 15, 16, 17, 18, 19, 20, 21]) FactWire12.mixed (by kernel_rfl) ?_))
    refine .quiet (.p rfl) rfl (fun _ => .mv rfl) ?_
    refine .quiet (.p rfl) rfl (fun _ => .nilCheck rfl) ?_
    refine .quiet (.p rfl) rfl (fun _ => .fieldAddr FactWire12.fld84x2 rfl) ?_
    refine .quiet (.p rfl) rfl (fun _ => .loadAt FactWire12.flat4 rfl (hat.drop 2) rfl) ?_
    refine OD.slot 8 (v' := .bool true) rfl (congrArg Value.bool (by first | decide | simp)) ?_
    refine .quiet (.p rfl) rfl (fun _ => .mv rfl) ?_
    refine .no rfl rfl rfl rfl ?_
    refine .no rfl rfl rfl rfl ?_
    refine .quiet (.p rfl) rfl (fun _ => .pickT rfl rfl) ?_
    refine .quiet (.p rfl) rfl (fun _ => .mv rfl) ?_
    refine .no rfl rfl rfl rfl ?_
    refine .no rfl rfl rfl rfl ?_
    refine .no rfl rfl rfl rfl ?_
    refine .no rfl rfl rfl rfl ?_
    refine .no rfl rfl rfl rfl ?_
    refine .no rfl rfl rfl rfl ?_
    refine .no rfl rfl rfl rfl ?_
    refine .no rfl rfl rfl rfl ?_
    refine .no rfl rfl rfl rfl ?_
    refine .no rfl rfl rfl rfl ?_
    refine .no rfl rfl rfl rfl ?_
    refine .no rfl rfl rfl rfl ?_
    refine .quiet (.p rfl) rfl (fun _ => .pickT rfl rfl) ?_
    refine .nil ?_
    refine S.condT rfl ?_
    refine S.seq ?_
    refine th ?_
    refine S.region rfl ?_
    refine O.op (.p rfl) (.mv rfl) ?_
    refine O.op (.p rfl) (.nilCheck rfl) ?_
    refine O.op (.p rfl) (.fieldObj FactWire12.fld84x2 rfl) ?_
    refine O.opU rfl (.store1 FactWire12.flat4 rfl rfl (by first | rfl | assumption) (by repeat (first | exact Sel.here | apply Sel.there)) (by simp)) ?_
    refine O.nil ?_
    refine S.seq (S.region rfl ?_)
    refine O.op (.p rfl) (.as rfl) ?_
    refine O.nil ?_
    refine S.ret Go.Proofs.Tryz.results79 rfl fun w hw => hR _ _ w ?_ hw
    exact ⟨by simp [lok], by simp [lok]⟩
  | false =>
    by_cases h1 : n < 0
    · have e : lok false n p xs.length = false := by simp [lok]; omega
      refine S.seq (S.region rfl ?_)
      refine O.op (.p rfl) (.as rfl) ?_
      refine O.nil ?_
      refine S.seq (S.seq (S.regionD (L := [0, 1, 2, 3, 4, 5, 6, 7, 8, 9, 10, 11, 12, 13, 14, 15, 16, 17, 18, 19, 20, 21]) FactWire12.mixed (by kernel_rfl) ?_))
      refine .quiet (.p rfl) rfl (fun _ => .mv rfl) ?_
      refine .quiet (.p rfl) rfl (fun _ => .nilCheck rfl) ?_
      refine .quiet (.p rfl) rfl (fun _ => .fieldAddr FactWire12.fld84x2 rfl) ?_
      refine .quiet (.p rfl) rfl (fun _ => .loadAt FactWire12.flat4 rfl (hat.drop 2) rfl) ?_
      refine OD.slot 8 (v' := .bool false) rfl (congrArg Value.bool (by first | decide | simp)) ?_
      refine .quiet (.p rfl) rfl (fun _ => .mv rfl) ?_
      refine .quiet (.g rfl rfl) rfl (fun _ => .mv rfl) ?_
      refine .quiet (.g rfl rfl) rfl (fun _ => .lss rfl rfl) ?_
      refine OD.slot 11 (v' := .bool true) rfl (congrArg Value.bool (by simp; omega)) ?_
      refine .quiet (.p rfl) rfl (fun _ => .pickF rfl rfl) ?_
      refine .quiet (.p rfl) rfl (fun _ => .mv rfl) ?_
      refine .no rfl rfl rfl rfl ?_
      refine .no rfl rfl rfl rfl ?_
      refine .no rfl rfl rfl rfl ?_
      refine .no rfl rfl rfl rfl ?_
      refine .no rfl rfl rfl rfl ?_
      refine .no rfl rfl rfl rfl ?_
      refine .no rfl rfl rfl rfl ?_
      refine .no rfl rfl rfl rfl ?_
      refine .no rfl rfl rfl rfl ?_
      refine .no rfl rfl rfl rfl ?_
      refine .no rfl rfl rfl rfl ?_
      refine .no rfl rfl rfl rfl ?_
      refine .quiet (.p rfl) rfl (fun _ => .pickT rfl rfl) ?_
      refine .nil ?_
      refine S.condT rfl ?_
      refine S.seq ?_
      refine th ?_
      refine S.region rfl ?_
      refine O.op (.p rfl) (.mv rfl) ?_
      refine O.op (.p rfl) (.nilCheck rfl) ?_
      refine O.op (.p rfl) (.fieldObj FactWire12.fld84x2 rfl) ?_
      refine O.opU rfl (.store1 FactWire12.flat4 rfl rfl (by first | rfl | assumption) (by repeat (first | exact Sel.here | apply Sel.there)) (by simp)) ?_
      refine O.nil ?_
      refine S.seq (S.region rfl ?_)
      refine O.op (.p rfl) (.as rfl) ?_
      refine O.nil ?_
      refine S.ret Go.Proofs.Tryz.results79 rfl fun w hw => hR _ _ w ?_ hw
      rw [e]; exact ⟨rfl, rfl⟩
    · by_cases h2 : n > (xs.length : Int) - (p : Int)
      · have e : lok false n p xs.length = false := by simp [lok]; omega
        refine S.seq (S.region rfl ?_)
        refine O.op (.p rfl) (.as rfl) ?_
        refine O.nil ?_
        refine S.seq (S.seq (S.regionD (L := [0, 1, 2, 3, 4, 5, 6, 7, 8, 9, 10, 11, 12, 13, 14, 15, 16, 17, 18, 19, 20, 21]) FactWire12.mixed (by kernel_rfl) ?_))
        refine .quiet (.p rfl) rfl (fun _ => .mv rfl) ?_
        refine .quiet (.p rfl) rfl (fun _ => .nilCheck rfl) ?_
        refine .quiet (.p rfl) rfl (fun _ => .fieldAddr FactWire12.fld84x2 rfl) ?_
        refine .quiet (.p rfl) rfl (fun _ => .loadAt FactWire12.flat4 rfl (hat.drop 2) rfl) ?_
        refine OD.slot 8 (v' := .bool false) rfl (congrArg Value.bool (by first | decide | simp)) ?_
        refine .quiet (.p rfl) rfl (fun _ => .mv rfl) ?_
        refine .quiet (.g rfl rfl) rfl (fun _ => .mv rfl) ?_
        refine .quiet (.g rfl rfl) rfl (fun _ => .lss rfl rfl) ?_
        refine OD.slot 11 (v' := .bool false) rfl (congrArg Value.bool (by simp; omega)) ?_
        refine .quiet (.p rfl) rfl (fun _ => .pickF rfl rfl) ?_
        refine .quiet (.p rfl) rfl (fun _ => .mv rfl) ?_
        refine .quiet (.g rfl rfl) rfl (fun _ => .mv rfl) ?_
        refine .quiet (.g rfl rfl) rfl (fun _ => .mv rfl) ?_
        refine .quiet (.g rfl rfl) rfl (fun _ => .nilCheck rfl) ?_
        refine .quiet (.g rfl rfl) rfl (fun _ => .fieldAddr FactWire12.fld84x0 rfl) ?_
        refine .quiet (.g rfl rfl) rfl (fun _ => .loadAt FactWire12.flat23 rfl hat rfl) ?_
        refine .quiet (.g rfl rfl) rfl (fun _ => .len rfl Go.Proofs.Tryz.underlying23 rfl) ?_
        refine .quiet (.g rfl rfl) rfl (fun _ => .mv rfl) ?_
        refine .quiet (.g rfl rfl) rfl (fun _ => .nilCheck rfl) ?_
        refine .quiet (.g rfl rfl) rfl (fun _ => .fieldAddr FactWire12.fld84x1 rfl) ?_
        refine .quiet (.g rfl rfl) rfl (fun _ => .loadAt FactWire12.flat3 rfl (hat.drop 1) rfl) ?_
        refine .quiet (.g rfl rfl) rfl (fun _ => .sub rfl rfl (IntWalk.i64_in _ (by omega))) ?_
        refine .quiet (.g rfl rfl) rfl (fun _ => .gtr rfl rfl) ?_
        refine OD.slot 25 (v' := .bool true) rfl (congrArg Value.bool (by simp; omega)) ?_
        refine .quiet (.p rfl) rfl (fun _ => .pickF rfl rfl) ?_
        refine .nil ?_
        refine S.condT rfl ?_
        refine S.seq ?_
        refine th ?_
        refine S.region rfl ?_
        refine O.op (.p rfl) (.mv rfl) ?_
        refine O.op (.p rfl) (.nilCheck rfl) ?_
        refine O.op (.p rfl) (.fieldObj FactWire12.fld84x2 rfl) ?_
        refine O.opU rfl (.store1 FactWire12.flat4 rfl rfl (by first | rfl | assumption) (by repeat (first | exact Sel.here | apply Sel.there)) (by simp)) ?_
        refine O.nil ?_
        refine S.seq (S.region rfl ?_)
        refine O.op (.p rfl) (.as rfl) ?_
        refine O.nil ?_
        refine S.ret Go.Proofs.Tryz.results79 rfl fun w hw => hR _ _ w ?_ hw
        rw [e]; exact ⟨rfl, rfl⟩
      · have e : lok false n p xs.length = true := by simp [lok]; omega
        refine S.seq (S.region rfl ?_)
        refine O.op (.p rfl) (.as rfl) ?_
        refine O.nil ?_
        refine S.seq (S.seq (S.regionD (L := [0, 1, 2, 3, 4, 5, 6, 7, 8, 9, 10, 11, 12, 13, 14, 15, 16, 17, 18, 19, 20, 21]) FactWire12.mixed (by kernel_rfl) ?_))
        refine .quiet (.p rfl) rfl (fun _ => .mv rfl) ?_
        refine .quiet (.p rfl) rfl (fun _ => .nilCheck rfl) ?_
        refine .quiet (.p rfl) rfl (fun _ => .fieldAddr FactWire12.fld84x2 rfl) ?_
        refine .quiet (.p rfl) rfl (fun _ => .loadAt FactWire12.flat4 rfl (hat.drop 2) rfl) ?_
        refine OD.slot 8 (v' := .bool false) rfl (congrArg Value.bool (by first | decide | simp)) ?_
        refine .quiet (.p rfl) rfl (fun _ => .mv rfl) ?_
        refine .quiet (.g rfl rfl) rfl (fun _ => .mv rfl) ?_
        refine .quiet (.g rfl rfl) rfl (fun _ => .lss rfl rfl) ?_
        refine OD.slot 11 (v' := .bool false) rfl (congrArg Value.bool (by simp; omega)) ?_
        refine .quiet (.p rfl) rfl (fun _ => .pickF rfl rfl) ?_
        refine .quiet (.p rfl) rfl (fun _ => .mv rfl) ?_
        refine .quiet (.g rfl rfl) rfl (fun _ => .mv rfl) ?_
        refine .quiet (.g rfl rfl) rfl (fun _ => .mv rfl) ?_
        refine .quiet (.g rfl rfl) rfl (fun _ => .nilCheck rfl) ?_
        refine .quiet (.g rfl rfl) rfl (fun _ => .fieldAddr FactWire12.fld84x0 rfl) ?_
        refine .quiet (.g rfl rfl) rfl (fun _ => .loadAt FactWire12.flat23 rfl hat rfl) ?_
        refine .quiet (.g rfl rfl) rfl (fun _ => .len rfl Go.Proofs.Tryz.underlying23 rfl) ?_
        refine .quiet (.g rfl rfl) rfl (fun _ => .mv rfl) ?_
        refine .quiet (.g rfl rfl) rfl (fun _ => .nilCheck rfl) ?_
        refine .quiet (.g rfl rfl) rfl (fun _ => .fieldAddr FactWire12.fld84x1 rfl) ?_
        refine .quiet (.g rfl rfl) rfl (fun _ => .loadAt FactWire12.flat3 rfl (hat.drop 1) rfl) ?_
        refine .quiet (.g rfl rfl) rfl (fun _ => .sub rfl rfl (IntWalk.i64_in _ (by omega))) ?_
        refine .quiet (.g rfl rfl) rfl (fun _ => .gtr rfl rfl) ?_
        refine OD.slot 25 (v' := .bool false) rfl (congrArg Value.bool (by simp; omega)) ?_
        refine .quiet (.p rfl) rfl (fun _ => .pickF rfl rfl) ?_
        refine .nil ?_
        refine S.condF rfl ?_
        refine S.skip (S.seq (S.region rfl ?_))
        refine O.op (.p rfl) (.as rfl) ?_
        refine O.nil ?_
        refine th ?_
        refine S.ret Go.Proofs.Tryz.results79 rfl fun w hw => hR _ _ w ?_ hw
        rw [e]; exact ⟨rfl, rfl⟩
theorem drop_get {xs : List UInt8} {p : Nat} (h : p < xs.length) : xs.drop p = xs[p] :: xs.drop (p + 1) := List.drop_eq_getElem_cons h
theorem refByte_c {r : Fr} {b p : Nat} {v : Value} {xs : List UInt8} {bad : Bool} (ha : Arr Rp.u8 r v xs) (hp : p ≤ xs.length) : Con Go.Proofs.Tryz.prog 39 #[.pointer (some ⟨b, 0, none⟩)] r [obj b 84 [v, .int .i64 (p : Int), .bool bad]]
    (Ret fun z η => ∃ p', p' ≤ xs.length ∧ xs.drop p' = (rByte (!bad) (xs.drop p)).2.1 ∧ z = byteV (rByte (!bad) (xs.drop p)).1 ∧ η = [obj b 84 [v, .int .i64 (p' : Int), .bool (bad || (rByte (!bad) (xs.drop p)).2.2)]]) := by
  refine Con.of (n := 24) [.pointer (some ⟨b, 0, none⟩)] rfl Go.Proofs.Tryz.func39 rfl rfl rfl fun g hg R hR => ?_
  have hbd := ha.bound
  obtain ⟨a1, c1, rfl⟩ := ha.shape
  by_cases hk : bad = false ∧ p < xs.length
  · obtain ⟨rfl, hk⟩ := hk
    have e : lok false 1 p xs.length = true := by simp [lok]; omega
    have ha' := ha.mono hg
    refine S.seq (S.region rfl ?_)
    refine O.op (.p rfl) (.as rfl) ?_
    refine O.nil ?_
    refine S.seq (S.seq (S.region rfl ?_))
    refine O.op (.p rfl) (.mv rfl) ?_
    refine O.callS (.p rfl) rfl FactWire12.ok79 rfl rfl (by repeat (first | exact Sel.here | apply Sel.there)) ((refLeft_c 1 ha hp).sub hg) ?_
    rintro v4 _ ⟨rfl, rfl⟩
    try simp only [List.cons_append, List.nil_append, List.append_nil]
    refine O.slot 4 (v' := .bool true) rfl (congrArg Value.bool (by exact e)) ?_
    refine O.op (.p rfl) (.not rfl) ?_
    refine O.nil ?_
    refine S.condF rfl ?_
    refine S.skip (S.seq (S.region rfl ?_))
    refine O.op (.p rfl) (.mv rfl) ?_
    refine O.op (.p rfl) (.nilCheck rfl) ?_
    refine O.op (.p rfl) (.fieldObj FactWire12.fld84x1 rfl) ?_
    refine O.op (.p rfl) (.loadObj FactWire12.flat3 rfl (by repeat (first | exact Sel.here | apply Sel.there)) rfl) ?_
    refine O.op (.p rfl) (.add rfl rfl (IntWalk.i64_in _ (by omega))) ?_
    refine O.op (.p rfl) (.nilCheck rfl) ?_
    refine O.op (.p rfl) (.fieldObj FactWire12.fld84x1 rfl) ?_
    refine O.opU rfl (.store1 FactWire12.flat3 rfl rfl (by first | rfl | assumption) (by repeat (first | exact Sel.here | apply Sel.there)) (by simp)) ?_
    refine O.nil ?_
    refine S.seq ?_
    rw [e]
    refine S.frzT (B := obj b 84 [.slice a1 xs.length c1, .int .i64 ((p : Int) + 1), .bool (!true)]) (by repeat (first | exact Sel.here | apply Sel.there)) fun g2 hs2 ⟨m, hm, hsm⟩ th => ?_
    have hat := (obj_at hm).mono hsm
    replace ha' := ha'.mono hs2
    refine S.regionD (L := [0, 1, 2, 3, 4, 5, 6, 7, 8, 9, 10, 11]) FactWire12.mixed (by kernel_rfl) ?_
    refine .quiet (.p rfl) rfl (fun _ => .mv rfl) ?_
    refine .quiet (.p rfl) rfl (fun _ => .nilCheck rfl) ?_
    refine .quiet (.p rfl) rfl (fun _ => .fieldAddr FactWire12.fld84x0 rfl) ?_
    refine .quiet (.p rfl) rfl (fun _ => .loadAt FactWire12.flat23 rfl hat rfl) ?_
    refine .quiet (.p rfl) rfl (fun _ => .mv rfl) ?_
    refine .quiet (.p rfl) rfl (fun _ => .nilCheck rfl) ?_
    refine .quiet (.p rfl) rfl (fun _ => .fieldAddr FactWire12.fld84x1 rfl) ?_
    refine .quiet (.p rfl) rfl (fun _ => .loadAt FactWire12.flat3 rfl (hat.drop 1) rfl) ?_
    refine .quiet (.p rfl) rfl (fun _ => .sub rfl rfl (IntWalk.i64_in _ (by omega))) ?_
    refine OD.idx' (.p rfl) Go.Proofs.Tryz.underlying23 FactWire12.size5 rfl rfl (show _ = (((p) : Nat) : Int) by omega) (by first | assumption | exact Arr.mono hg (by assumption) | exact Arr.left (by assumption) | exact Arr.left (Arr.mono hg (by assumption))) (by decide) (by first | omega | (simp; done) | (simp; omega) | decide) (fun p22 cs22 hp22 hr22 => ?_)
    cases hr22
    refine .quiet (.p rfl) rfl (fun _ => .loadAt FactWire12.flat5 rfl hp22 rfl) ?_
    refine .quiet (.p rfl) rfl (fun _ => .as rfl) ?_
    refine .nil ?_
    refine th ?_
    refine S.ret Go.Proofs.Tryz.results39 rfl fun w hw => hR _ _ w ?_ hw
    rw [drop_get hk]
    exact ⟨p + 1, by omega, rfl, rfl, rfl⟩
  · have e : lok bad 1 p xs.length = false := by cases bad <;> simp [lok] at hk ⊢; omega
    have hm : rByte (!bad) (xs.drop p) = (0, xs.drop p, !bad) := by
      cases bad with
      | true => rfl
      | false => rw [List.drop_eq_nil_of_le (by simp at hk; exact hk)]; rfl
    refine S.seq (S.region rfl ?_)
    refine O.op (.p rfl) (.as rfl) ?_
    refine O.nil ?_
    refine S.seq (S.seq (S.region rfl ?_))
    refine O.op (.p rfl) (.mv rfl) ?_
    refine O.callS (.p rfl) rfl FactWire12.ok79 rfl rfl (by repeat (first | exact Sel.here | apply Sel.there)) ((refLeft_c 1 ha hp).sub hg) ?_
    rintro v4 _ ⟨rfl, rfl⟩
    try simp only [List.cons_append, List.nil_append, List.append_nil]
    refine O.slot 4 (v' := .bool false) rfl (congrArg Value.bool (by exact e)) ?_
    refine O.op (.p rfl) (.not rfl) ?_
    refine O.nil ?_
    refine S.condT rfl ?_
    refine S.seq (S.region rfl ?_)
    refine O.op (.p rfl) (.as rfl) ?_
    refine O.nil ?_
    refine S.ret Go.Proofs.Tryz.results39 rfl fun w hw => hR _ _ w ?_ hw
    rw [hm]
    exact ⟨p, hp, rfl, rfl, by rw [e]; simp⟩
theorem refNumber2_c {r : Fr} {b p : Nat} {v : Value} {xs : List UInt8} {bad : Bool} (ha : Arr Rp.u8 r v xs) (hp : p ≤ xs.length) (hl : xs.length ≤ 1000000000) : Con Go.Proofs.Tryz.prog 40 #[.pointer (some ⟨b, 0, none⟩)] r [obj b 84 [v, .int .i64 (p : Int), .bool bad]]
    (Ret fun z η => ∃ p', p' ≤ xs.length ∧ xs.drop p' = (rNum (!bad) (xs.drop p)).2.1 ∧ z = .int .i64 (rNum (!bad) (xs.drop p)).1 ∧ η = [obj b 84 [v, .int .i64 (p' : Int), .bool (bad || (rNum (!bad) (xs.drop p)).2.2)]]) := by
  refine Con.of (n := 38) [.pointer (some ⟨b, 0, none⟩)] rfl Go.Proofs.Tryz.func40 rfl rfl rfl fun g hg R hR => ?_
  obtain ⟨a1, c1, rfl⟩ := ha.shape
  by_cases hk : bad = false ∧ p + 8 ≤ xs.length
  · obtain ⟨rfl, hk⟩ := hk
    have e : lok false 8 p xs.length = true := by simp [lok]; omega
    have hm0 : rNum true (xs.drop p) = (ofBe (xs.drop p), xs.drop (p + 8), false) := by
      unfold rNum; rw [if_pos rfl, if_pos (by simp; omega), List.drop_drop]
    have ha' := ha.mono hg
    refine S.seq (S.region rfl ?_)
    refine O.op (.p rfl) (.as rfl) ?_
    refine O.nil ?_
    refine S.seq (S.seq (S.region rfl ?_))
    refine O.op (.p rfl) (.mv rfl) ?_
    refine O.callS (.p rfl) rfl FactWire12.ok79 rfl rfl (by repeat (first | exact Sel.here | apply Sel.there)) ((refLeft_c 8 ha hp).sub hg) ?_
    rintro v6 _ ⟨rfl, rfl⟩
    try simp only [List.cons_append, List.nil_append, List.append_nil]
    refine O.slot 6 (v' := .bool true) rfl (congrArg Value.bool (by exact e)) ?_
    refine O.op (.p rfl) (.not rfl) ?_
    refine O.nil ?_
    refine S.condF rfl ?_
    refine S.skip (S.seq (S.region rfl ?_))
    refine O.op (.p rfl) (.as rfl) ?_
    refine O.nil ?_
    refine S.seq (S.seq (S.region rfl ?_))
    refine O.op (.p rfl) (.as rfl) ?_
    refine O.nil ?_
    refine S.block ?_
    rw [e]
    refine S.frzT (B := obj b 84 [.slice a1 xs.length c1, .int .i64 (p : Int), .bool (!true)]) (by repeat (first | exact Sel.here | apply Sel.there)) fun g2 hs2 ⟨m, hm, hsm⟩ th => ?_
    have hat := (obj_at hm).mono hsm
    replace ha' := ha'.mono hs2
    refine S.loopK (ι := Nat) (fun i => i ≤ 8) (fun i => [(4, .int .i64 (i : Int)), (3, .int .u64 (beVal ((xs.drop p).take i) : Nat))]) [(0, _)] (fun i => []) (fun i => 8 - i) (0) (by simp) (.cons rfl (.cons rfl (.nil))) (.cons rfl (.nil)) rfl fun i hx ih => ?_
    have hm1 := meltRefl (g := g)
    refine S.seq (S.seq (S.region rfl ?_))
    refine O.op (.p rfl) (.mv rfl) ?_
    refine O.op (.p rfl) (.lss rfl rfl) ?_
    refine O.nil ?_
    first | refine S.condD rfl (fun h9 => ?_) (fun h9 => ?_) | refine S.condB rfl (fun h9 => ?_) (fun h9 => ?_)
    · have hi : i < 8 := by omega
      have hlen : i < (xs.drop p).length := by simp; omega
      refine S.skip (S.seq (S.block (S.regionD (L := [0, 1, 2, 3, 4, 5, 6, 7, 8, 9, 10, 11, 12, 13, 14, 15, 16]) FactWire12.mixed (by kernel_rfl) ?_)))
      refine .quiet (.p rfl) rfl (fun _ => .mv rfl) ?_
      refine .quiet (.p rfl) rfl (fun _ => .shl rfl rfl (by omega)) ?_
      refine .quiet (.p rfl) rfl (fun _ => .mv rfl) ?_
      refine .quiet (.p rfl) rfl (fun _ => .nilCheck rfl) ?_
      refine .quiet (.p rfl) rfl (fun _ => .fieldAddr FactWire12.fld84x0 rfl) ?_
      refine .quiet (.p rfl) rfl (fun _ => .loadAt FactWire12.flat23 rfl hat rfl) ?_
      refine .quiet (.p rfl) rfl (fun _ => .mv rfl) ?_
      refine .quiet (.p rfl) rfl (fun _ => .nilCheck rfl) ?_
      refine .quiet (.p rfl) rfl (fun _ => .fieldAddr FactWire12.fld84x1 rfl) ?_
      refine .quiet (.p rfl) rfl (fun _ => .loadAt FactWire12.flat3 rfl (hat.drop 1) rfl) ?_
      refine .quiet (.p rfl) rfl (fun _ => .mv rfl) ?_
      refine .quiet (.p rfl) rfl (fun _ => .add rfl rfl (IntWalk.i64_in _ (by omega))) ?_
      refine OD.idx' (.p rfl) Go.Proofs.Tryz.underlying23 FactWire12.size5 rfl rfl (show _ = (((p + i) : Nat) : Int) by omega) (by first | assumption | exact Arr.mono hg (by assumption) | exact Arr.left (by assumption) | exact Arr.left (Arr.mono hg (by assumption))) (by decide) (by first | omega | (simp; done) | (simp; omega) | decide) (fun p24 cs24 hp24 hr24 => ?_)
      cases hr24
      refine .quiet (.p rfl) rfl (fun _ => .loadAt FactWire12.flat5 rfl hp24 rfl) ?_
      refine .quiet (.p rfl) rfl (fun _ => .cvt Go.Proofs.Tryz.underlying5 Go.Proofs.Tryz.underlying50 rfl) ?_
      refine .quiet (.p rfl) rfl (fun _ => .or rfl rfl) ?_
      refine .quiet (.p rfl) rfl (fun _ => .as rfl) ?_
      refine .nil ?_
      refine S.inBlock (S.region rfl ?_)
      refine O.op (.p rfl) (.mv rfl) ?_
      refine O.op (.p rfl) (.add rfl rfl (IntWalk.i64_in _ (by omega))) ?_
      refine O.op (.p rfl) (.as rfl) ?_
      refine O.nil ?_
      rw [show xs[p + i] = (xs.drop p)[i] from by simp, or_byte _ _ (beVal_lt7 (xs.drop p) i hi), ← beVal_take (xs.drop p) i hlen]
      refine S.weaken ?_ (ih (i + 1) (by omega) (by omega))
      repeat (first | exact Sub.nil | refine Sub.cons rfl ?_)
    · have hi : i = 8 := by omega
      subst hi
      refine S.exit rfl ?_
      refine S.seq ?_
      refine th ?_
      refine S.region rfl ?_
      refine O.op (.p rfl) (.mv rfl) ?_
      refine O.op (.p rfl) (.mv rfl) ?_
      refine O.op (.p rfl) (.nilCheck rfl) ?_
      refine O.op (.p rfl) (.fieldObj FactWire12.fld84x1 rfl) ?_
      refine O.op (.p rfl) (.loadObj FactWire12.flat3 rfl (by repeat (first | exact Sel.here | apply Sel.there)) rfl) ?_
      refine O.op (.p rfl) (.add rfl rfl (IntWalk.i64_in _ (by omega))) ?_
      refine O.op (.p rfl) (.nilCheck rfl) ?_
      refine O.op (.p rfl) (.fieldObj FactWire12.fld84x1 rfl) ?_
      refine O.opU rfl (.store1 FactWire12.flat3 rfl rfl (by first | rfl | assumption) (by repeat (first | exact Sel.here | apply Sel.there)) (by simp)) ?_
      refine O.nil ?_
      refine S.seq (S.region rfl ?_)
      refine O.op (.p rfl) (.mv rfl) ?_
      refine O.op (.p rfl) (.cvt Go.Proofs.Tryz.underlying50 Go.Proofs.Tryz.underlying3 rfl) ?_
      refine O.op (.p rfl) (.as rfl) ?_
      refine O.nil ?_
      refine S.ret Go.Proofs.Tryz.results40 rfl fun w hw => hR _ _ w ?_ hw
      rw [Bool.not_false, hm0]
      exact ⟨p + 8, by omega, rfl, by rw [wrap_i64_eq _ (Nat.lt_of_lt_of_le (beVal_lt (xs.drop p) 8) (by decide))]; rfl, rfl⟩
  · have e : lok bad 8 p xs.length = false := by cases bad <;> simp [lok] at hk ⊢; omega
    have hm : rNum (!bad) (xs.drop p) = (0, xs.drop p, !bad) := by
      cases bad with
      | true => rfl
      | false => unfold rNum; rw [Bool.not_false, if_pos rfl, if_neg (by simp at hk ⊢; omega)]
    refine S.seq (S.region rfl ?_)
    refine O.op (.p rfl) (.as rfl) ?_
    refine O.nil ?_
    refine S.seq (S.seq (S.region rfl ?_))
    refine O.op (.p rfl) (.mv rfl) ?_
    refine O.callS (.p rfl) rfl FactWire12.ok79 rfl rfl (by repeat (first | exact Sel.here | apply Sel.there)) ((refLeft_c 8 ha hp).sub hg) ?_
    rintro v6 _ ⟨rfl, rfl⟩
    try simp only [List.cons_append, List.nil_append, List.append_nil]
    refine O.slot 6 (v' := .bool false) rfl (congrArg Value.bool (by exact e)) ?_
    refine O.op (.p rfl) (.not rfl) ?_
    refine O.nil ?_
    refine S.condT rfl ?_
    refine S.seq (S.region rfl ?_)
    refine O.op (.p rfl) (.as rfl) ?_
    refine O.nil ?_
    refine S.ret Go.Proofs.Tryz.results40 rfl fun w hw => hR _ _ w ?_ hw
    rw [hm]
    exact ⟨p, hp, rfl, rfl, by rw [e]; simp⟩
theorem refCount_c {r : Fr} {b p : Nat} {v : Value} {xs : List UInt8} {bad : Bool} (most : Int) (ha : Arr Rp.u8 r v xs) (hp : p ≤ xs.length) (hl : xs.length ≤ 1000000000) : Con Go.Proofs.Tryz.prog 42 #[.pointer (some ⟨b, 0, none⟩), .int .i64 most] r [obj b 84 [v, .int .i64 (p : Int), .bool bad]]
    (Ret fun z η => ∃ p', p' ≤ xs.length ∧ xs.drop p' = (rCount most (!bad) (xs.drop p)).2.1 ∧ z = .int .i64 (rCount most (!bad) (xs.drop p)).1 ∧ η = [obj b 84 [v, .int .i64 (p' : Int), .bool (bad || (rCount most (!bad) (xs.drop p)).2.2)]]) := by
  refine Con.of (n := 25) [.pointer (some ⟨b, 0, none⟩), .int .i64 most] rfl Go.Proofs.Tryz.func42 rfl rfl rfl fun g hg R hR => ?_
  obtain ⟨z, rest, f, hE⟩ : ∃ z rest f, rNum (!bad) (xs.drop p) = (z, rest, f) := ⟨_, _, _, rfl⟩
  have hC : rCount most (!bad) (xs.drop p) = if bad || f then (z, rest, f) else if 0 ≤ z ∧ z ≤ most then (z, rest, false) else (0, rest, true) := by
    unfold rCount rNum at *
    cases bad with
    | true => simp at hE ⊢; exact hE
    | false =>
      simp only [Bool.not_false, if_true] at hE ⊢
      split at hE <;> rename_i h8
      · cases hE; rw [if_pos h8]; rfl
      · cases hE; rw [if_neg h8]; rfl
  have con := refNumber2_c (b := b) (bad := bad) ha hp hl
  rw [hE] at con
  by_cases hb : (bad || f) = true
  · have hz : z = 0 := by
      unfold rNum at hE; cases bad with
      | true => simp at hE; exact hE.1.symm
      | false =>
        simp only [Bool.not_false, if_true] at hE; split at hE
        · cases hE; simp at hb
        · cases hE; rfl
    subst hz
    refine S.seq (S.region rfl ?_)
    refine O.op (.p rfl) (.as rfl) ?_
    refine O.nil ?_
    refine S.seq (S.region rfl ?_)
    refine O.op (.p rfl) (.mv rfl) ?_
    refine O.callS (.p rfl) rfl FactWire12.ok40 rfl rfl (by repeat (first | exact Sel.here | apply Sel.there)) (con.sub hg) ?_
    rintro v7 _ ⟨p', hp', hd', rfl, rfl⟩
    try simp only [List.cons_append, List.nil_append, List.append_nil]
    refine O.op (.p rfl) (.as rfl) ?_
    refine O.nil ?_
    refine S.seq (S.seq (S.region rfl ?_))
    refine O.op (.p rfl) (.mv rfl) ?_
    refine O.op (.p rfl) (.nilCheck rfl) ?_
    refine O.op (.p rfl) (.fieldObj FactWire12.fld84x2 rfl) ?_
    refine O.op (.p rfl) (.loadObj FactWire12.flat4 rfl (by repeat (first | exact Sel.here | apply Sel.there)) rfl) ?_
    refine O.slot 11 (v' := .bool true) rfl (congrArg Value.bool (by exact hb)) ?_
    refine O.op (.p rfl) (.mv rfl) ?_
    refine O.opN rfl rfl rfl ?_
    refine O.opN rfl rfl rfl ?_
    refine O.op (.p rfl) (.pickT rfl rfl) ?_
    refine O.op (.p rfl) (.mv rfl) ?_
    refine O.opN rfl rfl rfl ?_
    refine O.opN rfl rfl rfl ?_
    refine O.opN rfl rfl rfl ?_
    refine O.op (.p rfl) (.pickT rfl rfl) ?_
    refine O.nil ?_
    refine S.condT rfl ?_
    refine S.seq (S.region rfl ?_)
    refine O.op (.p rfl) (.mv rfl) ?_
    refine O.op (.p rfl) (.nilCheck rfl) ?_
    refine O.op (.p rfl) (.fieldObj FactWire12.fld84x2 rfl) ?_
    refine O.opU rfl (.store1 FactWire12.flat4 rfl rfl (by first | rfl | assumption) (by repeat (first | exact Sel.here | apply Sel.there)) (by simp)) ?_
    refine O.nil ?_
    refine S.seq (S.region rfl ?_)
    refine O.op (.p rfl) (.as rfl) ?_
    refine O.nil ?_
    refine S.ret Go.Proofs.Tryz.results42 rfl fun w hw => hR _ _ w ?_ hw
    rw [hC, if_pos hb]
    exact ⟨p', hp', hd', rfl, by rw [hb]; rfl⟩
  · have hb' : (bad || f) = false := by simpa using hb
    by_cases hz : 0 ≤ z ∧ z ≤ most
    ·
      refine S.seq (S.region rfl ?_)
      refine O.op (.p rfl) (.as rfl) ?_
      refine O.nil ?_
      refine S.seq (S.region rfl ?_)
      refine O.op (.p rfl) (.mv rfl) ?_
      refine O.callS (.p rfl) rfl FactWire12.ok40 rfl rfl (by repeat (first | exact Sel.here | apply Sel.there)) (con.sub hg) ?_
      rintro v7 _ ⟨p', hp', hd', rfl, rfl⟩
      try simp only [List.cons_append, List.nil_append, List.append_nil]
      refine O.op (.p rfl) (.as rfl) ?_
      refine O.nil ?_
      refine S.seq (S.seq (S.region rfl ?_))
      refine O.op (.p rfl) (.mv rfl) ?_
      refine O.op (.p rfl) (.nilCheck rfl) ?_
      refine O.op (.p rfl) (.fieldObj FactWire12.fld84x2 rfl) ?_
      refine O.op (.p rfl) (.loadObj FactWire12.flat4 rfl (by repeat (first | exact Sel.here | apply Sel.there)) rfl) ?_
      refine O.slot 11 (v' := .bool false) rfl (congrArg Value.bool (by exact hb')) ?_
      refine O.op (.p rfl) (.mv rfl) ?_
      refine O.op (.g rfl rfl) (.mv rfl) ?_
      refine O.op (.g rfl rfl) (.lss rfl rfl) ?_
      refine O.slot 14 (v' := .bool false) rfl (congrArg Value.bool (by simp; omega)) ?_
      refine O.op (.p rfl) (.pickF rfl rfl) ?_
      refine O.op (.p rfl) (.mv rfl) ?_
      refine O.op (.g rfl rfl) (.mv rfl) ?_
      refine O.op (.g rfl rfl) (.mv rfl) ?_
      refine O.op (.g rfl rfl) (.gtr rfl rfl) ?_
      refine O.slot 19 (v' := .bool false) rfl (congrArg Value.bool (by simp; omega)) ?_
      refine O.op (.p rfl) (.pickF rfl rfl) ?_
      refine O.nil ?_
      refine S.condF rfl ?_
      refine S.skip (S.seq (S.region rfl ?_))
      refine O.op (.p rfl) (.mv rfl) ?_
      refine O.op (.p rfl) (.as rfl) ?_
      refine O.nil ?_
      refine S.ret Go.Proofs.Tryz.results42 rfl fun w hw => hR _ _ w ?_ hw
      rw [hC, if_neg hb, if_pos hz]
      exact ⟨p', hp', hd', rfl, by rw [hb']; cases bad <;> simp at hb' ⊢⟩
    · by_cases hz0 : z < 0
      ·
        refine S.seq (S.region rfl ?_)
        refine O.op (.p rfl) (.as rfl) ?_
        refine O.nil ?_
        refine S.seq (S.region rfl ?_)
        refine O.op (.p rfl) (.mv rfl) ?_
        refine O.callS (.p rfl) rfl FactWire12.ok40 rfl rfl (by repeat (first | exact Sel.here | apply Sel.there)) (con.sub hg) ?_
        rintro v7 _ ⟨p', hp', hd', rfl, rfl⟩
        try simp only [List.cons_append, List.nil_append, List.append_nil]
        refine O.op (.p rfl) (.as rfl) ?_
        refine O.nil ?_
        refine S.seq (S.seq (S.region rfl ?_))
        refine O.op (.p rfl) (.mv rfl) ?_
        refine O.op (.p rfl) (.nilCheck rfl) ?_
        refine O.op (.p rfl) (.fieldObj FactWire12.fld84x2 rfl) ?_
        refine O.op (.p rfl) (.loadObj FactWire12.flat4 rfl (by repeat (first | exact Sel.here | apply Sel.there)) rfl) ?_
        refine O.slot 11 (v' := .bool false) rfl (congrArg Value.bool (by exact hb')) ?_
        refine O.op (.p rfl) (.mv rfl) ?_
        refine O.op (.g rfl rfl) (.mv rfl) ?_
        refine O.op (.g rfl rfl) (.lss rfl rfl) ?_
        refine O.slot 14 (v' := .bool true) rfl (congrArg Value.bool (by simp; omega)) ?_
        refine O.op (.p rfl) (.pickF rfl rfl) ?_
        refine O.op (.p rfl) (.mv rfl) ?_
        refine O.opN rfl rfl rfl ?_
        refine O.opN rfl rfl rfl ?_
        refine O.opN rfl rfl rfl ?_
        refine O.op (.p rfl) (.pickT rfl rfl) ?_
        refine O.nil ?_
        refine S.condT rfl ?_
        refine S.seq (S.region rfl ?_)
        refine O.op (.p rfl) (.mv rfl) ?_
        refine O.op (.p rfl) (.nilCheck rfl) ?_
        refine O.op (.p rfl) (.fieldObj FactWire12.fld84x2 rfl) ?_
        refine O.opU rfl (.store1 FactWire12.flat4 rfl rfl (by first | rfl | assumption) (by repeat (first | exact Sel.here | apply Sel.there)) (by simp)) ?_
        refine O.nil ?_
        refine S.seq (S.region rfl ?_)
        refine O.op (.p rfl) (.as rfl) ?_
        refine O.nil ?_
        refine S.ret Go.Proofs.Tryz.results42 rfl fun w hw => hR _ _ w ?_ hw
        rw [hC, if_neg hb, if_neg hz]
        exact ⟨p', hp', hd', rfl, by rw [Bool.or_true]; rfl⟩
      ·
        refine S.seq (S.region rfl ?_)
        refine O.op (.p rfl) (.as rfl) ?_
        refine O.nil ?_
        refine S.seq (S.region rfl ?_)
        refine O.op (.p rfl) (.mv rfl) ?_
        refine O.callS (.p rfl) rfl FactWire12.ok40 rfl rfl (by repeat (first | exact Sel.here | apply Sel.there)) (con.sub hg) ?_
        rintro v7 _ ⟨p', hp', hd', rfl, rfl⟩
        try simp only [List.cons_append, List.nil_append, List.append_nil]
        refine O.op (.p rfl) (.as rfl) ?_
        refine O.nil ?_
        refine S.seq (S.seq (S.region rfl ?_))
        refine O.op (.p rfl) (.mv rfl) ?_
        refine O.op (.p rfl) (.nilCheck rfl) ?_
        refine O.op (.p rfl) (.fieldObj FactWire12.fld84x2 rfl) ?_
        refine O.op (.p rfl) (.loadObj FactWire12.flat4 rfl (by repeat (first | exact Sel.here | apply Sel.there)) rfl) ?_
        refine O.slot 11 (v' := .bool false) rfl (congrArg Value.bool (by exact hb')) ?_
        refine O.op (.p rfl) (.mv rfl) ?_
        refine O.op (.g rfl rfl) (.mv rfl) ?_
        refine O.op (.g rfl rfl) (.lss rfl rfl) ?_
        refine O.slot 14 (v' := .bool false) rfl (congrArg Value.bool (by simp; omega)) ?_
        refine O.op (.p rfl) (.pickF rfl rfl) ?_
        refine O.op (.p rfl) (.mv rfl) ?_
        refine O.op (.g rfl rfl) (.mv rfl) ?_
        refine O.op (.g rfl rfl) (.mv rfl) ?_
        refine O.op (.g rfl rfl) (.gtr rfl rfl) ?_
        refine O.slot 19 (v' := .bool true) rfl (congrArg Value.bool (by simp; omega)) ?_
        refine O.op (.p rfl) (.pickF rfl rfl) ?_
        refine O.nil ?_
        refine S.condT rfl ?_
        refine S.seq (S.region rfl ?_)
        refine O.op (.p rfl) (.mv rfl) ?_
        refine O.op (.p rfl) (.nilCheck rfl) ?_
        refine O.op (.p rfl) (.fieldObj FactWire12.fld84x2 rfl) ?_
        refine O.opU rfl (.store1 FactWire12.flat4 rfl rfl (by first | rfl | assumption) (by repeat (first | exact Sel.here | apply Sel.there)) (by simp)) ?_
        refine O.nil ?_
        refine S.seq (S.region rfl ?_)
        refine O.op (.p rfl) (.as rfl) ?_
        refine O.nil ?_
        refine S.ret Go.Proofs.Tryz.results42 rfl fun w hw => hR _ _ w ?_ hw
        rw [hC, if_neg hb, if_neg hz]
        exact ⟨p', hp', hd', rfl, by rw [Bool.or_true]; rfl⟩
theorem refBytes2_c {r : Fr} {b p : Nat} {v : Value} {xs : List UInt8} {bad : Bool} (most : Int) (ha : Arr Rp.u8 r v xs) (hp : p ≤ xs.length) (hl : xs.length ≤ 1000000000) : Con Go.Proofs.Tryz.prog 41 #[.pointer (some ⟨b, 0, none⟩), .int .i64 most] r [obj b 84 [v, .int .i64 (p : Int), .bool bad]]
    (Ret fun z η => ∃ a c p', p' ≤ xs.length ∧ xs.drop p' = (rBytes most (!bad) (xs.drop p)).2.1 ∧ z = .slice a (rBytes most (!bad) (xs.drop p)).1.length c ∧
      η = [obj b 84 [v, .int .i64 (p' : Int), .bool (bad || (rBytes most (!bad) (xs.drop p)).2.2)], OwnP Rp.u8 5 z (rBytes most (!bad) (xs.drop p)).1]) := by
  refine Con.of (n := 39) [.pointer (some ⟨b, 0, none⟩), .int .i64 most] rfl Go.Proofs.Tryz.func41 rfl rfl rfl fun g hg R hR => ?_
  obtain ⟨a1, c1, rfl⟩ := ha.shape
  obtain ⟨z, rest, f, hE⟩ : ∃ z rest f, rCount most (!bad) (xs.drop p) = (z, rest, f) := ⟨_, _, _, rfl⟩
  have hB : rBytes most (!bad) (xs.drop p) = if bad || f then ([], rest, f) else if z.toNat ≤ rest.length then (rest.take z.toNat, rest.drop z.toNat, false) else ([], rest, true) := by
    unfold rBytes rCount at *
    cases bad with
    | true => simp at hE ⊢; exact ⟨hE.2.1, hE.2.2⟩
    | false =>
      simp only [Bool.not_false, if_true, Bool.false_or] at hE ⊢
      split at hE <;> rename_i h8
      · rw [if_pos h8]
        split at hE <;> rename_i h9
        · cases hE; rw [if_pos h9]; simp
        · cases hE; rw [if_neg h9]; rfl
      · cases hE; rw [if_neg h8]; rfl
  have hz0 : 0 ≤ z := by
    unfold rCount at hE; cases bad with
    | true => simp at hE; omega
    | false =>
      simp only [Bool.not_false, if_true] at hE
      split at hE
      · split at hE <;> rename_i h9
        · cases hE; exact h9.1
        · cases hE; omega
      · cases hE; omega
  have con := refCount_c (b := b) (bad := bad) most ha hp hl
  rw [hE] at con
  by_cases hb : (bad || f) = true
  ·
    refine S.seq (S.region rfl ?_)
    refine O.op (.p rfl) (.as rfl) ?_
    refine O.nil ?_
    refine S.seq (S.region rfl ?_)
    refine O.op (.p rfl) (.mv rfl) ?_
    refine O.op (.p rfl) (.mv rfl) ?_
    refine O.callS (.p rfl) rfl FactWire12.ok42 rfl rfl (by repeat (first | exact Sel.here | apply Sel.there)) (con.sub hg) ?_
    rintro v8 _ ⟨p', hp', hd', rfl, rfl⟩
    try simp only [List.cons_append, List.nil_append, List.append_nil]
    refine O.op (.p rfl) (.as rfl) ?_
    refine O.nil ?_
    refine S.seq (S.seq (S.region rfl ?_))
    refine O.op (.p rfl) (.mv rfl) ?_
    refine O.op (.p rfl) (.mv rfl) ?_
    refine O.callS (.p rfl) rfl FactWire12.ok79 rfl rfl (by repeat (first | exact Sel.here | apply Sel.there)) ((refLeft_c z ha hp').sub hg) ?_
    rintro v11 _ ⟨rfl, rfl⟩
    try simp only [List.cons_append, List.nil_append, List.append_nil]
    refine O.slot 11 (v' := .bool false) rfl (congrArg Value.bool (by simp [lok, hb])) ?_
    refine O.op (.p rfl) (.not rfl) ?_
    refine O.nil ?_
    refine S.condT rfl ?_
    refine S.seq (S.region rfl ?_)
    refine O.op (.p rfl) (.as rfl) ?_
    refine O.nil ?_
    refine S.addNil (T := Rp.u8) (e := 5) ?_
    refine S.ret Go.Proofs.Tryz.results41 rfl fun w hw => Holds.end_ hR hw ?_
    rw [hB, if_pos hb]
    exact ⟨_, ⟨none, 0, p', hp', hd', rfl, rfl⟩, by rw [show lok (bad || f) z p' xs.length = false from by simp [lok, hb], hb]; exact Picks.cons (.there .here) (Picks.cons .here Picks.nil)⟩
  · have hb' : (bad || f) = false := by simpa using hb
    rw [hb'] at con
    by_cases hz : z.toNat ≤ rest.length
    · have ha' := ha.mono hg
      refine S.seq (S.region rfl ?_)
      refine O.op (.p rfl) (.as rfl) ?_
      refine O.nil ?_
      refine S.seq (S.region rfl ?_)
      refine O.op (.p rfl) (.mv rfl) ?_
      refine O.op (.p rfl) (.mv rfl) ?_
      refine O.callS (.p rfl) rfl FactWire12.ok42 rfl rfl (by repeat (first | exact Sel.here | apply Sel.there)) (con.sub hg) ?_
      rintro v8 _ ⟨p', hp', hd', rfl, rfl⟩
      try simp only [List.cons_append, List.nil_append, List.append_nil]
      refine O.op (.p rfl) (.as rfl) ?_
      refine O.nil ?_
      refine S.seq (S.seq (S.region rfl ?_))
      refine O.op (.p rfl) (.mv rfl) ?_
      refine O.op (.p rfl) (.mv rfl) ?_
      have hrl : rest.length = xs.length - p' := by have h9 := congrArg List.length hd'; simpa using h9.symm
      have e : lok false z p' xs.length = true := by simp [lok]; omega
      refine O.callS (.p rfl) rfl FactWire12.ok79 rfl rfl (by repeat (first | exact Sel.here | apply Sel.there)) ((refLeft_c z ha hp').sub hg) ?_
      rintro v11 _ ⟨rfl, rfl⟩
      try simp only [List.cons_append, List.nil_append, List.append_nil]
      refine O.slot 11 (v' := .bool true) rfl (congrArg Value.bool (by exact e)) ?_
      refine O.op (.p rfl) (.not rfl) ?_
      refine O.nil ?_
      refine S.condF rfl ?_
      refine S.skip (S.seq (S.region rfl ?_))
      refine O.op (.p rfl) (.mv rfl) ?_
      refine O.op (.p rfl) (.mv rfl) ?_
      refine O.op (.p rfl) (.nilCheck rfl) ?_
      refine O.op (.p rfl) (.fieldObj FactWire12.fld84x1 rfl) ?_
      refine O.op (.p rfl) (.loadObj FactWire12.flat3 rfl (by repeat (first | exact Sel.here | apply Sel.there)) rfl) ?_
      refine O.op (.p rfl) (.mv rfl) ?_
      refine O.op (.p rfl) (.add rfl rfl (IntWalk.i64_in _ (by omega))) ?_
      refine O.op (.p rfl) (.nilCheck rfl) ?_
      refine O.op (.p rfl) (.fieldObj FactWire12.fld84x1 rfl) ?_
      refine O.opU rfl (.store1 FactWire12.flat3 rfl rfl (by first | rfl | assumption) (by repeat (first | exact Sel.here | apply Sel.there)) (by simp)) ?_
      refine O.nil ?_
      refine S.seq ?_
      rw [e]
      refine S.frzT (B := obj b 84 [.slice a1 xs.length c1, .int .i64 ((p' : Int) + z), .bool (!true)]) (by repeat (first | exact Sel.here | apply Sel.there)) fun g2 hs2 ⟨m, hm, hsm⟩ th => ?_
      have hat := (obj_at hm).mono hsm
      replace ha' := ha'.mono hs2
      refine S.regionD (L := [1, 2, 3, 4, 5, 6, 7, 8, 9, 10, 11, 12, 13, 14, 15, 0, 16, 17]) FactWire12.mixed (by kernel_rfl) ?_
      refine .quiet (.p rfl) rfl (fun _ => .mv rfl) ?_
      refine .quiet (.p rfl) rfl (fun _ => .nilCheck rfl) ?_
      refine .quiet (.p rfl) rfl (fun _ => .fieldAddr FactWire12.fld84x0 rfl) ?_
      refine .quiet (.p rfl) rfl (fun _ => .loadAt FactWire12.flat23 rfl hat rfl) ?_
      refine .quiet (.p rfl) rfl (fun _ => .mv rfl) ?_
      refine .quiet (.p rfl) rfl (fun _ => .nilCheck rfl) ?_
      refine .quiet (.p rfl) rfl (fun _ => .fieldAddr FactWire12.fld84x1 rfl) ?_
      refine .quiet (.p rfl) rfl (fun _ => .loadAt FactWire12.flat3 rfl (hat.drop 1) rfl) ?_
      refine .quiet (.p rfl) rfl (fun _ => .mv rfl) ?_
      refine .quiet (.p rfl) rfl (fun _ => .sub rfl rfl (IntWalk.i64_in _ (by omega))) ?_
      refine .quiet (.p rfl) rfl (fun _ => .mv rfl) ?_
      refine .quiet (.p rfl) rfl (fun _ => .nilCheck rfl) ?_
      refine .quiet (.p rfl) rfl (fun _ => .fieldAddr FactWire12.fld84x1 rfl) ?_
      refine .quiet (.p rfl) rfl (fun _ => .loadAt FactWire12.flat3 rfl (hat.drop 1) rfl) ?_
      refine OD.sliceMid (a := p') (b := p' + z.toNat) (.p rfl) Go.Proofs.Tryz.underlying23 FactWire12.size5 rfl rfl rfl (by assumption) (by first | omega | (simp; done) | (simp; omega) | decide) (by first | omega | (simp; done) | (simp; omega) | decide) (by first | omega | (simp; done) | (simp; omega) | decide) (by first | omega | (simp; done) | (simp; omega) | decide) (fun u37 ha37 => ?_)
      obtain ⟨a37, c37, rfl⟩ := ha37.shape
      refine OD.litP (T := Rp.u8) (ys := []) (.p rfl) (by kernel_rfl) Go.Proofs.Tryz.underlying23 FactWire12.elem5 (by decide) rfl rfl trivial (by decide) (fun a22 c22 => ?_)
      refine OD.appendP (.p rfl) (by kernel_rfl) (T := Rp.u8) pure_u8 Go.Proofs.Tryz.underlying23 FactWire12.elem5 (by decide) rfl rfl (by repeat (first | exact Sel.here | apply Sel.there)) (by first | assumption | exact Arr.mono hg (by assumption) | exact Arr.left (by assumption) | exact Arr.left (Arr.mono hg (by assumption))) (by first | omega | (simp; done) | (simp; omega) | decide) (by first | omega | (simp; done) | (simp; omega) | decide) (fun a38 c38 => ?_)
      refine .quiet (.p rfl) rfl (fun _ => .as rfl) ?_
      refine .nil ?_
      refine th ?_
      have e2 : (p' : Int) + z = ((p' + z.toNat : Nat) : Int) := by omega
      have h9 : xs.drop p' = rest := hd'
      have e1 : (xs.take (p' + z.toNat)).drop p' = rest.take z.toNat := by rw [List.drop_take, h9]; congr 1; omega
      rw [e2]
      simp only [List.length_nil, Nat.zero_add, List.nil_append, e1]
      refine S.ret Go.Proofs.Tryz.results41 rfl fun w hw => Holds.end_ hR hw ?_
      rw [hB, if_neg hb, if_pos hz]
      exact ⟨_, ⟨a38, c38, p' + z.toNat, by omega, by rw [← List.drop_drop, h9], rfl, rfl⟩, by rw [Bool.or_false]; cases bad <;> first | (simp at hb'; done) | exact Picks.cons .here (Picks.cons .here Picks.nil)⟩
    ·
      refine S.seq (S.region rfl ?_)
      refine O.op (.p rfl) (.as rfl) ?_
      refine O.nil ?_
      refine S.seq (S.region rfl ?_)
      refine O.op (.p rfl) (.mv rfl) ?_
      refine O.op (.p rfl) (.mv rfl) ?_
      refine O.callS (.p rfl) rfl FactWire12.ok42 rfl rfl (by repeat (first | exact Sel.here | apply Sel.there)) (con.sub hg) ?_
      rintro v8 _ ⟨p', hp', hd', rfl, rfl⟩
      try simp only [List.cons_append, List.nil_append, List.append_nil]
      refine O.op (.p rfl) (.as rfl) ?_
      refine O.nil ?_
      refine S.seq (S.seq (S.region rfl ?_))
      refine O.op (.p rfl) (.mv rfl) ?_
      refine O.op (.p rfl) (.mv rfl) ?_
      have hrl : rest.length = xs.length - p' := by have h9 := congrArg List.length hd'; simpa using h9.symm
      have e : lok false z p' xs.length = false := by simp [lok]; omega
      refine O.callS (.p rfl) rfl FactWire12.ok79 rfl rfl (by repeat (first | exact Sel.here | apply Sel.there)) ((refLeft_c z ha hp').sub hg) ?_
      rintro v11 _ ⟨rfl, rfl⟩
      try simp only [List.cons_append, List.nil_append, List.append_nil]
      refine O.slot 11 (v' := .bool false) rfl (congrArg Value.bool (by exact e)) ?_
      refine O.op (.p rfl) (.not rfl) ?_
      refine O.nil ?_
      refine S.condT rfl ?_
      refine S.seq (S.region rfl ?_)
      refine O.op (.p rfl) (.as rfl) ?_
      refine O.nil ?_
      refine S.addNil (T := Rp.u8) (e := 5) ?_
      refine S.ret Go.Proofs.Tryz.results41 rfl fun w hw => Holds.end_ hR hw ?_
      rw [hB, if_neg hb, if_neg hz]
      exact ⟨_, ⟨none, 0, p', hp', hd', rfl, rfl⟩, by rw [e]; cases bad <;> exact Picks.cons (.there .here) (Picks.cons .here Picks.nil)⟩

end Go.Proofs.YtodkpkmhnpmmgaaGreat
