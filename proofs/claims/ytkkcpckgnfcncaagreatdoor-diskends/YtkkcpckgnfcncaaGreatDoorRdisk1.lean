import Derived.Test.YtkkcpckgnfcncaaGreatDoorDview
import Derived.Test.YtkkcpckgnfcncaaGreatDoorSpLast
open Go Go.Sp
set_option maxRecDepth 100000
attribute [local irreducible] obj Own OwnP
namespace Go.Proofs.YtkkcpckgnfcncaaGreatDoor
theorem FactRdisk1.elem5 : elemIs Go.Proofs.Tryz.prog 5 1 1 [.int .u8 0] := elemIs.mk (by kernel_rfl) rfl
theorem FactRdisk1.flat100 : Go.Sp.flat1 Go.Proofs.Tryz.prog 100 = true := by kernel_rfl
theorem FactRdisk1.flat3 : Go.Sp.flat1 Go.Proofs.Tryz.prog 3 = true := by kernel_rfl
theorem FactRdisk1.flat36 : Go.Sp.flat1 Go.Proofs.Tryz.prog 36 = true := by kernel_rfl
theorem FactRdisk1.flat4 : Go.Sp.flat1 Go.Proofs.Tryz.prog 4 = true := by kernel_rfl
theorem FactRdisk1.flat5 : Go.Sp.flat1 Go.Proofs.Tryz.prog 5 = true := by kernel_rfl
theorem FactRdisk1.flat9 : Go.Sp.flat1 Go.Proofs.Tryz.prog 9 = true := by kernel_rfl
theorem FactRdisk1.fld102x0 : fieldOff Go.Proofs.Tryz.prog 102 0 = some 0 := by kernel_rfl
theorem FactRdisk1.fld102x1 : fieldOff Go.Proofs.Tryz.prog 102 1 = some 1 := by kernel_rfl
theorem FactRdisk1.fld142x0 : fieldOff Go.Proofs.Tryz.prog 142 0 = some 0 := by kernel_rfl
theorem FactRdisk1.fld142x1 : fieldOff Go.Proofs.Tryz.prog 142 1 = some 1 := by kernel_rfl
theorem FactRdisk1.fld142x2 : fieldOff Go.Proofs.Tryz.prog 142 2 = some 2 := by kernel_rfl
theorem FactRdisk1.mixed : Go.Proofs.Tryz.prog.follows .mixedOrders = true := by kernel_rfl
theorem FactRdisk1.ok90 : callable Go.Proofs.Tryz.prog 90 = true := by kernel_rfl
theorem FactRdisk1.size142 : (Go.Proofs.Tryz.prog.info? 142).map (·.size) = some 3 := by kernel_rfl
theorem FactRdisk1.size9 : (Go.Proofs.Tryz.prog.info? 9).map (·.size) = some 1 := by kernel_rfl

/-- the document's cells: whose, the byte, whether it is safe -/
abbrev CellM : Type := Int × UInt8 × Bool
def encC (x : CellM) : List Value := [.int .i64 x.1, byteV x.2.1, .bool x.2.2]
def chOk (c : UInt8) : Bool := decide ((97 ≤ c.toNat ∧ c.toNat ≤ 122) ∨ (48 ≤ c.toNat ∧ c.toNat ≤ 57) ∨ c.toNat = 46 ∨ c.toNat = 95)
theorem chOk_all : ∀ n, n < 256 → (decide (UInt8.ofNat n ∈ nameBytes) = chOk (UInt8.ofNat n)) := by decide
theorem chOk_mem (c : UInt8) : c ∈ nameBytes ↔ chOk c = true := by
  have h := chOk_all c.toNat c.toNat_lt
  rw [UInt8.ofNat_toNat] at h
  rw [← h]; simp
theorem seven (n : Nat) : (97 ≤ n ∧ n ≤ 122) ∨ (48 ≤ n ∧ n ≤ 57) ∨ n = 46 ∨ n = 95 ∨ (n < 48 ∧ n ≠ 46) ∨ (57 < n ∧ n < 97 ∧ n ≠ 95) ∨ 122 < n := by omega
theorem nameOk_no {s : List UInt8} {i : Nat} (hi : i < s.length) (h : chOk s[i] = false) : nameOk s = false := by
  unfold nameOk
  refine decide_eq_false fun q => ?_
  have := (chOk_mem _).1 (q.2.2 s[i] (List.getElem_mem hi))
  rw [h] at this; cases this
theorem refNamed_c {r : Fr} {s : List UInt8} (hl : s.length ≤ 9223372036854775807) : Con Go.Proofs.Tryz.prog 93 #[.string (str s)] r [] (Ret fun v η => v = .bool (nameOk s) ∧ η = []) := by
  refine Con.of (n := 57) [.string (str s)] rfl Go.Proofs.Tryz.func93 rfl rfl rfl fun g hg R hR => ?_
  refine S.seq (S.region rfl ?_)
  refine O.op (.p rfl) (.as rfl) ?_
  refine O.nil ?_
  refine S.seq (S.seq (S.region rfl ?_))
  refine O.op (.p rfl) (.mv rfl) ?_
  refine O.op (.p rfl) (.eqlS rfl rfl) ?_
  refine O.op (.p rfl) (.mv rfl) ?_
  first | refine O.caseD 8 rfl (fun h8 => ?_) (fun h8 => ?_) | refine O.caseB 8 rfl (fun h8 => ?_) (fun h8 => ?_)
  · have e : nameOk s = false := by unfold nameOk; exact decide_eq_false fun q => q.1 (by simpa using h8)
    rw [e] at hR
    refine O.opN rfl rfl rfl ?_
    refine O.opN rfl rfl rfl ?_
    refine O.opN rfl rfl rfl ?_
    refine O.op (.p rfl) (.pickT rfl rfl) ?_
    refine O.nil ?_
    refine S.condT rfl ?_
    refine S.seq (S.region rfl ?_)
    refine O.op (.p rfl) (.as rfl) ?_
    refine O.nil ?_
    refine S.ret Go.Proofs.Tryz.results93 rfl fun w hw => Holds.end_ hR hw ?_
    exact ⟨_, ⟨rfl, rfl⟩, by repeat (first | exact Picks.all | exact Picks.nil | (apply Picks.cons; focus (repeat (first | exact Sel.here | apply Sel.there))) | apply Picks.skip)⟩
  · have hne : s ≠ [] := by simpa using h8
    refine O.op (.g rfl rfl) (.mv rfl) ?_
    refine O.op (.g rfl rfl) (.lenS rfl Go.Proofs.Tryz.underlying9 rfl) ?_
    refine O.slot 10 (v' := .int .i64 (s.length : Int)) rfl (by rw [str_size]) ?_
    refine O.op (.g rfl rfl) (.gtr rfl rfl) ?_
    refine O.op (.p rfl) (.pickF rfl rfl) ?_
    refine O.nil ?_
    first | refine S.condD rfl (fun h12 => ?_) (fun h12 => ?_) | refine S.condB rfl (fun h12 => ?_) (fun h12 => ?_)
    · have e : nameOk s = false := by unfold nameOk; exact decide_eq_false fun q => by omega
      rw [e] at hR
      refine S.seq (S.region rfl ?_)
      refine O.op (.p rfl) (.as rfl) ?_
      refine O.nil ?_
      refine S.ret Go.Proofs.Tryz.results93 rfl fun w hw => Holds.end_ hR hw ?_
      exact ⟨_, ⟨rfl, rfl⟩, by repeat (first | exact Picks.all | exact Picks.nil | (apply Picks.cons; focus (repeat (first | exact Sel.here | apply Sel.there))) | apply Picks.skip)⟩
    · have hl24 : s.length ≤ 24 := by omega
      refine S.skip (S.seq (S.seq (S.region rfl ?_)))
      refine O.op (.p rfl) (.as rfl) ?_
      refine O.nil ?_
      refine S.block ?_
      refine S.loopK (ι := Nat) (fun i => i ≤ s.length ∧ ∀ c ∈ s.take i, chOk c = true) (fun i => [(3, .int .i64 (i : Int))]) [(0, _)] (fun i => []) (fun i => s.length - i) (0) (by exact ⟨Nat.zero_le _, by simp⟩) (.cons rfl (.nil)) (.cons rfl (.nil)) rfl fun i hx ih => ?_
      have hm1 := meltRefl (g := g)
      obtain ⟨hx1, hx2⟩ := hx
      refine S.seq (S.seq (S.region rfl ?_))
      refine O.op (.p rfl) (.mv rfl) ?_
      refine O.op (.p rfl) (.mv rfl) ?_
      refine O.op (.p rfl) (.lenS rfl Go.Proofs.Tryz.underlying9 rfl) ?_
      refine O.slot 15 (v' := .int .i64 (s.length : Int)) rfl (by rw [str_size]) ?_
      refine O.op (.p rfl) (.lss rfl rfl) ?_
      refine O.nil ?_
      first | refine S.condD rfl (fun h16 => ?_) (fun h16 => ?_) | refine S.condB rfl (fun h16 => ?_) (fun h16 => ?_)
      · have hi : i < s.length := by omega
        have hc := s[i].toNat_lt
        have hnext : chOk s[i] = true → ∀ c ∈ s.take (i + 1), chOk c = true := fun h c hm => by
          rw [List.take_succ_eq_append_getElem hi] at hm
          rcases List.mem_append.1 hm with q | q
          · exact hx2 c q
          · rw [List.mem_singleton.1 q]; exact h
        rcases seven s[i].toNat with hq | hq | hq | hq | hq | hq | hq
        ·
          have hok : chOk s[i] = true := by unfold chOk; exact decide_eq_true (by omega)
          refine S.skip (S.seq (S.block (S.seq (S.regionD (L := [0, 1, 2, 3, 4, 5, 6, 7, 8, 9, 10, 11, 12, 13, 14, 15, 16, 17, 18, 19, 20, 21]) FactRdisk1.mixed (by kernel_rfl) ?_))))
          refine .quiet (.p rfl) rfl (fun _ => .mv rfl) ?_
          refine .quiet (.p rfl) rfl (fun _ => .mv rfl) ?_
          refine .quiet (.p rfl) rfl (fun _ => .indexS (j := i) Go.Proofs.Tryz.underlying9 rfl rfl (by first | rfl | omega) (by first | omega | (simp; done) | (simp; omega) | decide)) ?_
          refine .quiet (.p rfl) rfl (fun _ => .geq rfl rfl) ?_
          refine OD.slot 22 (v' := .bool true) rfl (congrArg Value.bool (by exact decide_eq_true (by omega))) ?_
          refine .quiet (.p rfl) rfl (fun _ => .mv rfl) ?_
          refine .quiet (.g rfl rfl) rfl (fun _ => .mv rfl) ?_
          refine .quiet (.g rfl rfl) rfl (fun _ => .mv rfl) ?_
          refine .quiet (.g rfl rfl) rfl (fun _ => .indexS (j := i) Go.Proofs.Tryz.underlying9 rfl rfl (by first | rfl | omega) (by first | omega | (simp; done) | (simp; omega) | decide)) ?_
          refine .quiet (.g rfl rfl) rfl (fun _ => .leq rfl rfl) ?_
          refine OD.slot 27 (v' := .bool true) rfl (congrArg Value.bool (by exact decide_eq_true (by omega))) ?_
          refine .quiet (.p rfl) rfl (fun _ => .pickT rfl rfl) ?_
          refine .quiet (.p rfl) rfl (fun _ => .mv rfl) ?_
          refine .quiet (.p rfl) rfl (fun _ => .mv rfl) ?_
          refine .quiet (.p rfl) rfl (fun _ => .indexS (j := i) Go.Proofs.Tryz.underlying9 rfl rfl (by first | rfl | omega) (by first | omega | (simp; done) | (simp; omega) | decide)) ?_
          refine .quiet (.p rfl) rfl (fun _ => .geq rfl rfl) ?_
          refine OD.slot 32 (v' := .bool true) rfl (congrArg Value.bool (by exact decide_eq_true (by omega))) ?_
          refine .quiet (.p rfl) rfl (fun _ => .mv rfl) ?_
          refine .quiet (.g rfl rfl) rfl (fun _ => .mv rfl) ?_
          refine .quiet (.g rfl rfl) rfl (fun _ => .mv rfl) ?_
          refine .quiet (.g rfl rfl) rfl (fun _ => .indexS (j := i) Go.Proofs.Tryz.underlying9 rfl rfl (by first | rfl | omega) (by first | omega | (simp; done) | (simp; omega) | decide)) ?_
          refine .quiet (.g rfl rfl) rfl (fun _ => .leq rfl rfl) ?_
          refine OD.slot 37 (v' := .bool false) rfl (congrArg Value.bool (by exact decide_eq_false (by omega))) ?_
          refine .quiet (.p rfl) rfl (fun _ => .pickT rfl rfl) ?_
          refine .quiet (.p rfl) rfl (fun _ => .as rfl) ?_
          refine .quiet (.p rfl) rfl (fun _ => .as rfl) ?_
          refine .nil ?_
          refine S.seq (S.region rfl ?_)
          refine O.op (.p rfl) (.mv rfl) ?_
          refine O.op (.p rfl) (.not rfl) ?_
          refine O.op (.p rfl) (.mv rfl) ?_
          refine O.opN rfl rfl rfl ?_
          refine O.opN rfl rfl rfl ?_
          refine O.op (.p rfl) (.pickF rfl rfl) ?_
          refine O.op (.p rfl) (.mv rfl) ?_
          refine O.opN rfl rfl rfl ?_
          refine O.opN rfl rfl rfl ?_
          refine O.opN rfl rfl rfl ?_
          refine O.opN rfl rfl rfl ?_
          refine O.op (.p rfl) (.pickF rfl rfl) ?_
          refine O.op (.p rfl) (.mv rfl) ?_
          refine O.opN rfl rfl rfl ?_
          refine O.opN rfl rfl rfl ?_
          refine O.opN rfl rfl rfl ?_
          refine O.opN rfl rfl rfl ?_
          refine O.op (.p rfl) (.pickF rfl rfl) ?_
          refine O.nil ?_
          refine S.condF rfl ?_
          refine S.skip (S.inBlock (S.region rfl ?_))
          refine O.op (.p rfl) (.mv rfl) ?_
          refine O.op (.p rfl) (.add rfl rfl (IntWalk.i64_in _ (by omega))) ?_
          refine O.op (.p rfl) (.as rfl) ?_
          refine O.nil ?_
          refine S.weaken ?_ (ih (i + 1) (by exact ⟨hi, hnext hok⟩) (by omega))
          repeat (first | exact Sub.nil | refine Sub.cons rfl ?_)
        ·
          have hok : chOk s[i] = true := by unfold chOk; exact decide_eq_true (by omega)
          refine S.skip (S.seq (S.block (S.seq (S.regionD (L := [0, 1, 2, 3, 4, 5, 6, 7, 8, 9, 10, 11, 12, 13, 14, 15, 16, 17, 18, 19, 20, 21]) FactRdisk1.mixed (by kernel_rfl) ?_))))
          refine .quiet (.p rfl) rfl (fun _ => .mv rfl) ?_
          refine .quiet (.p rfl) rfl (fun _ => .mv rfl) ?_
          refine .quiet (.p rfl) rfl (fun _ => .indexS (j := i) Go.Proofs.Tryz.underlying9 rfl rfl (by first | rfl | omega) (by first | omega | (simp; done) | (simp; omega) | decide)) ?_
          refine .quiet (.p rfl) rfl (fun _ => .geq rfl rfl) ?_
          refine OD.slot 22 (v' := .bool false) rfl (congrArg Value.bool (by exact decide_eq_false (by omega))) ?_
          refine .quiet (.p rfl) rfl (fun _ => .mv rfl) ?_
          refine .no rfl rfl rfl rfl ?_
          refine .no rfl rfl rfl rfl ?_
          refine .no rfl rfl rfl rfl ?_
          refine .no rfl rfl rfl rfl ?_
          refine .quiet (.p rfl) rfl (fun _ => .pickF rfl rfl) ?_
          refine .quiet (.p rfl) rfl (fun _ => .mv rfl) ?_
          refine .quiet (.p rfl) rfl (fun _ => .mv rfl) ?_
          refine .quiet (.p rfl) rfl (fun _ => .indexS (j := i) Go.Proofs.Tryz.underlying9 rfl rfl (by first | rfl | omega) (by first | omega | (simp; done) | (simp; omega) | decide)) ?_
          refine .quiet (.p rfl) rfl (fun _ => .geq rfl rfl) ?_
          refine OD.slot 32 (v' := .bool true) rfl (congrArg Value.bool (by exact decide_eq_true (by omega))) ?_
          refine .quiet (.p rfl) rfl (fun _ => .mv rfl) ?_
          refine .quiet (.g rfl rfl) rfl (fun _ => .mv rfl) ?_
          refine .quiet (.g rfl rfl) rfl (fun _ => .mv rfl) ?_
          refine .quiet (.g rfl rfl) rfl (fun _ => .indexS (j := i) Go.Proofs.Tryz.underlying9 rfl rfl (by first | rfl | omega) (by first | omega | (simp; done) | (simp; omega) | decide)) ?_
          refine .quiet (.g rfl rfl) rfl (fun _ => .leq rfl rfl) ?_
          refine OD.slot 37 (v' := .bool true) rfl (congrArg Value.bool (by exact decide_eq_true (by omega))) ?_
          refine .quiet (.p rfl) rfl (fun _ => .pickT rfl rfl) ?_
          refine .quiet (.p rfl) rfl (fun _ => .as rfl) ?_
          refine .quiet (.p rfl) rfl (fun _ => .as rfl) ?_
          refine .nil ?_
          refine S.seq (S.region rfl ?_)
          refine O.op (.p rfl) (.mv rfl) ?_
          refine O.op (.p rfl) (.not rfl) ?_
          refine O.op (.p rfl) (.mv rfl) ?_
          refine O.op (.g rfl rfl) (.mv rfl) ?_
          refine O.op (.g rfl rfl) (.not rfl) ?_
          refine O.op (.p rfl) (.pickT rfl rfl) ?_
          refine O.op (.p rfl) (.mv rfl) ?_
          refine O.opN rfl rfl rfl ?_
          refine O.opN rfl rfl rfl ?_
          refine O.opN rfl rfl rfl ?_
          refine O.opN rfl rfl rfl ?_
          refine O.op (.p rfl) (.pickF rfl rfl) ?_
          refine O.op (.p rfl) (.mv rfl) ?_
          refine O.opN rfl rfl rfl ?_
          refine O.opN rfl rfl rfl ?_
          refine O.opN rfl rfl rfl ?_
          refine O.opN rfl rfl rfl ?_
          refine O.op (.p rfl) (.pickF rfl rfl) ?_
          refine O.nil ?_
          refine S.condF rfl ?_
          refine S.skip (S.inBlock (S.region rfl ?_))
          refine O.op (.p rfl) (.mv rfl) ?_
          refine O.op (.p rfl) (.add rfl rfl (IntWalk.i64_in _ (by omega))) ?_
          refine O.op (.p rfl) (.as rfl) ?_
          refine O.nil ?_
          refine S.weaken ?_ (ih (i + 1) (by exact ⟨hi, hnext hok⟩) (by omega))
          repeat (first | exact Sub.nil | refine Sub.cons rfl ?_)
        ·
          have hok : chOk s[i] = true := by unfold chOk; exact decide_eq_true (by omega)
          refine S.skip (S.seq (S.block (S.seq (S.regionD (L := [0, 1, 2, 3, 4, 5, 6, 7, 8, 9, 10, 11, 12, 13, 14, 15, 16, 17, 18, 19, 20, 21]) FactRdisk1.mixed (by kernel_rfl) ?_))))
          refine .quiet (.p rfl) rfl (fun _ => .mv rfl) ?_
          refine .quiet (.p rfl) rfl (fun _ => .mv rfl) ?_
          refine .quiet (.p rfl) rfl (fun _ => .indexS (j := i) Go.Proofs.Tryz.underlying9 rfl rfl (by first | rfl | omega) (by first | omega | (simp; done) | (simp; omega) | decide)) ?_
          refine .quiet (.p rfl) rfl (fun _ => .geq rfl rfl) ?_
          refine OD.slot 22 (v' := .bool false) rfl (congrArg Value.bool (by exact decide_eq_false (by omega))) ?_
          refine .quiet (.p rfl) rfl (fun _ => .mv rfl) ?_
          refine .no rfl rfl rfl rfl ?_
          refine .no rfl rfl rfl rfl ?_
          refine .no rfl rfl rfl rfl ?_
          refine .no rfl rfl rfl rfl ?_
          refine .quiet (.p rfl) rfl (fun _ => .pickF rfl rfl) ?_
          refine .quiet (.p rfl) rfl (fun _ => .mv rfl) ?_
          refine .quiet (.p rfl) rfl (fun _ => .mv rfl) ?_
          refine .quiet (.p rfl) rfl (fun _ => .indexS (j := i) Go.Proofs.Tryz.underlying9 rfl rfl (by first | rfl | omega) (by first | omega | (simp; done) | (simp; omega) | decide)) ?_
          refine .quiet (.p rfl) rfl (fun _ => .geq rfl rfl) ?_
          refine OD.slot 32 (v' := .bool false) rfl (congrArg Value.bool (by exact decide_eq_false (by omega))) ?_
          refine .quiet (.p rfl) rfl (fun _ => .mv rfl) ?_
          refine .no rfl rfl rfl rfl ?_
          refine .no rfl rfl rfl rfl ?_
          refine .no rfl rfl rfl rfl ?_
          refine .no rfl rfl rfl rfl ?_
          refine .quiet (.p rfl) rfl (fun _ => .pickF rfl rfl) ?_
          refine .quiet (.p rfl) rfl (fun _ => .as rfl) ?_
          refine .quiet (.p rfl) rfl (fun _ => .as rfl) ?_
          refine .nil ?_
          refine S.seq (S.region rfl ?_)
          refine O.op (.p rfl) (.mv rfl) ?_
          refine O.op (.p rfl) (.not rfl) ?_
          refine O.op (.p rfl) (.mv rfl) ?_
          refine O.op (.g rfl rfl) (.mv rfl) ?_
          refine O.op (.g rfl rfl) (.not rfl) ?_
          refine O.op (.p rfl) (.pickT rfl rfl) ?_
          refine O.op (.p rfl) (.mv rfl) ?_
          refine O.op (.g rfl rfl) (.mv rfl) ?_
          refine O.op (.g rfl rfl) (.mv rfl) ?_
          refine O.op (.g rfl rfl) (.indexS (j := i) Go.Proofs.Tryz.underlying9 rfl rfl (by first | rfl | omega) (by first | omega | (simp; done) | (simp; omega) | decide)) ?_
          refine O.op (.g rfl rfl) (.neq rfl rfl) ?_
          refine O.slot 49 (v' := .bool false) rfl (congrArg Value.bool (by exact decide_eq_false (by omega))) ?_
          refine O.op (.p rfl) (.pickT rfl rfl) ?_
          refine O.op (.p rfl) (.mv rfl) ?_
          refine O.opN rfl rfl rfl ?_
          refine O.opN rfl rfl rfl ?_
          refine O.opN rfl rfl rfl ?_
          refine O.opN rfl rfl rfl ?_
          refine O.op (.p rfl) (.pickF rfl rfl) ?_
          refine O.nil ?_
          refine S.condF rfl ?_
          refine S.skip (S.inBlock (S.region rfl ?_))
          refine O.op (.p rfl) (.mv rfl) ?_
          refine O.op (.p rfl) (.add rfl rfl (IntWalk.i64_in _ (by omega))) ?_
          refine O.op (.p rfl) (.as rfl) ?_
          refine O.nil ?_
          refine S.weaken ?_ (ih (i + 1) (by exact ⟨hi, hnext hok⟩) (by omega))
          repeat (first | exact Sub.nil | refine Sub.cons rfl ?_)
        ·
          have hok : chOk s[i] = true := by unfold chOk; exact decide_eq_true (by omega)
          refine S.skip (S.seq (S.block (S.seq (S.regionD (L := [0, 1, 2, 3, 4, 5, 6, 7, 8, 9, 10, 11, 12, 13, 14, 15, 16, 17, 18, 19, 20, 21]) FactRdisk1.mixed (by kernel_rfl) ?_))))
          refine .quiet (.p rfl) rfl (fun _ => .mv rfl) ?_
          refine .quiet (.p rfl) rfl (fun _ => .mv rfl) ?_
          refine .quiet (.p rfl) rfl (fun _ => .indexS (j := i) Go.Proofs.Tryz.underlying9 rfl rfl (by first | rfl | omega) (by first | omega | (simp; done) | (simp; omega) | decide)) ?_
          refine .quiet (.p rfl) rfl (fun _ => .geq rfl rfl) ?_
          refine OD.slot 22 (v' := .bool false) rfl (congrArg Value.bool (by exact decide_eq_false (by omega))) ?_
          refine .quiet (.p rfl) rfl (fun _ => .mv rfl) ?_
          refine .no rfl rfl rfl rfl ?_
          refine .no rfl rfl rfl rfl ?_
          refine .no rfl rfl rfl rfl ?_
          refine .no rfl rfl rfl rfl ?_
          refine .quiet (.p rfl) rfl (fun _ => .pickF rfl rfl) ?_
          refine .quiet (.p rfl) rfl (fun _ => .mv rfl) ?_
          refine .quiet (.p rfl) rfl (fun _ => .mv rfl) ?_
          refine .quiet (.p rfl) rfl (fun _ => .indexS (j := i) Go.Proofs.Tryz.underlying9 rfl rfl (by first | rfl | omega) (by first | omega | (simp; done) | (simp; omega) | decide)) ?_
          refine .quiet (.p rfl) rfl (fun _ => .geq rfl rfl) ?_
          refine OD.slot 32 (v' := .bool true) rfl (congrArg Value.bool (by exact decide_eq_true (by omega))) ?_
          refine .quiet (.p rfl) rfl (fun _ => .mv rfl) ?_
          refine .quiet (.g rfl rfl) rfl (fun _ => .mv rfl) ?_
          refine .quiet (.g rfl rfl) rfl (fun _ => .mv rfl) ?_
          refine .quiet (.g rfl rfl) rfl (fun _ => .indexS (j := i) Go.Proofs.Tryz.underlying9 rfl rfl (by first | rfl | omega) (by first | omega | (simp; done) | (simp; omega) | decide)) ?_
          refine .quiet (.g rfl rfl) rfl (fun _ => .leq rfl rfl) ?_
          refine OD.slot 37 (v' := .bool false) rfl (congrArg Value.bool (by exact decide_eq_false (by omega))) ?_
          refine .quiet (.p rfl) rfl (fun _ => .pickT rfl rfl) ?_
          refine .quiet (.p rfl) rfl (fun _ => .as rfl) ?_
          refine .quiet (.p rfl) rfl (fun _ => .as rfl) ?_
          refine .nil ?_
          refine S.seq (S.region rfl ?_)
          refine O.op (.p rfl) (.mv rfl) ?_
          refine O.op (.p rfl) (.not rfl) ?_
          refine O.op (.p rfl) (.mv rfl) ?_
          refine O.op (.g rfl rfl) (.mv rfl) ?_
          refine O.op (.g rfl rfl) (.not rfl) ?_
          refine O.op (.p rfl) (.pickT rfl rfl) ?_
          refine O.op (.p rfl) (.mv rfl) ?_
          refine O.op (.g rfl rfl) (.mv rfl) ?_
          refine O.op (.g rfl rfl) (.mv rfl) ?_
          refine O.op (.g rfl rfl) (.indexS (j := i) Go.Proofs.Tryz.underlying9 rfl rfl (by first | rfl | omega) (by first | omega | (simp; done) | (simp; omega) | decide)) ?_
          refine O.op (.g rfl rfl) (.neq rfl rfl) ?_
          refine O.slot 49 (v' := .bool true) rfl (congrArg Value.bool (by exact decide_eq_true (by omega))) ?_
          refine O.op (.p rfl) (.pickT rfl rfl) ?_
          refine O.op (.p rfl) (.mv rfl) ?_
          refine O.op (.g rfl rfl) (.mv rfl) ?_
          refine O.op (.g rfl rfl) (.mv rfl) ?_
          refine O.op (.g rfl rfl) (.indexS (j := i) Go.Proofs.Tryz.underlying9 rfl rfl (by first | rfl | omega) (by first | omega | (simp; done) | (simp; omega) | decide)) ?_
          refine O.op (.g rfl rfl) (.neq rfl rfl) ?_
          refine O.slot 55 (v' := .bool false) rfl (congrArg Value.bool (by exact decide_eq_false (by omega))) ?_
          refine O.op (.p rfl) (.pickT rfl rfl) ?_
          refine O.nil ?_
          refine S.condF rfl ?_
          refine S.skip (S.inBlock (S.region rfl ?_))
          refine O.op (.p rfl) (.mv rfl) ?_
          refine O.op (.p rfl) (.add rfl rfl (IntWalk.i64_in _ (by omega))) ?_
          refine O.op (.p rfl) (.as rfl) ?_
          refine O.nil ?_
          refine S.weaken ?_ (ih (i + 1) (by exact ⟨hi, hnext hok⟩) (by omega))
          repeat (first | exact Sub.nil | refine Sub.cons rfl ?_)
        ·
          rw [nameOk_no hi (by unfold chOk; exact decide_eq_false (by omega))] at hR
          refine S.skip (S.seq (S.block (S.seq (S.regionD (L := [0, 1, 2, 3, 4, 5, 6, 7, 8, 9, 10, 11, 12, 13, 14, 15, 16, 17, 18, 19, 20, 21]) FactRdisk1.mixed (by kernel_rfl) ?_))))
          refine .quiet (.p rfl) rfl (fun _ => .mv rfl) ?_
          refine .quiet (.p rfl) rfl (fun _ => .mv rfl) ?_
          refine .quiet (.p rfl) rfl (fun _ => .indexS (j := i) Go.Proofs.Tryz.underlying9 rfl rfl (by first | rfl | omega) (by first | omega | (simp; done) | (simp; omega) | decide)) ?_
          refine .quiet (.p rfl) rfl (fun _ => .geq rfl rfl) ?_
          refine OD.slot 22 (v' := .bool false) rfl (congrArg Value.bool (by exact decide_eq_false (by omega))) ?_
          refine .quiet (.p rfl) rfl (fun _ => .mv rfl) ?_
          refine .no rfl rfl rfl rfl ?_
          refine .no rfl rfl rfl rfl ?_
          refine .no rfl rfl rfl rfl ?_
          refine .no rfl rfl rfl rfl ?_
          refine .quiet (.p rfl) rfl (fun _ => .pickF rfl rfl) ?_
          refine .quiet (.p rfl) rfl (fun _ => .mv rfl) ?_
          refine .quiet (.p rfl) rfl (fun _ => .mv rfl) ?_
          refine .quiet (.p rfl) rfl (fun _ => .indexS (j := i) Go.Proofs.Tryz.underlying9 rfl rfl (by first | rfl | omega) (by first | omega | (simp; done) | (simp; omega) | decide)) ?_
          refine .quiet (.p rfl) rfl (fun _ => .geq rfl rfl) ?_
          refine OD.slot 32 (v' := .bool false) rfl (congrArg Value.bool (by exact decide_eq_false (by omega))) ?_
          refine .quiet (.p rfl) rfl (fun _ => .mv rfl) ?_
          refine .no rfl rfl rfl rfl ?_
          refine .no rfl rfl rfl rfl ?_
          refine .no rfl rfl rfl rfl ?_
          refine .no rfl rfl rfl rfl ?_
          refine .quiet (.p rfl) rfl (fun _ => .pickF rfl rfl) ?_
          refine .quiet (.p rfl) rfl (fun _ => .as rfl) ?_
          refine .quiet (.p rfl) rfl (fun _ => .as rfl) ?_
          refine .nil ?_
          refine S.seq (S.region rfl ?_)
          refine O.op (.p rfl) (.mv rfl) ?_
          refine O.op (.p rfl) (.not rfl) ?_
          refine O.op (.p rfl) (.mv rfl) ?_
          refine O.op (.g rfl rfl) (.mv rfl) ?_
          refine O.op (.g rfl rfl) (.not rfl) ?_
          refine O.op (.p rfl) (.pickT rfl rfl) ?_
          refine O.op (.p rfl) (.mv rfl) ?_
          refine O.op (.g rfl rfl) (.mv rfl) ?_
          refine O.op (.g rfl rfl) (.mv rfl) ?_
          refine O.op (.g rfl rfl) (.indexS (j := i) Go.Proofs.Tryz.underlying9 rfl rfl (by first | rfl | omega) (by first | omega | (simp; done) | (simp; omega) | decide)) ?_
          refine O.op (.g rfl rfl) (.neq rfl rfl) ?_
          refine O.slot 49 (v' := .bool true) rfl (congrArg Value.bool (by exact decide_eq_true (by omega))) ?_
          refine O.op (.p rfl) (.pickT rfl rfl) ?_
          refine O.op (.p rfl) (.mv rfl) ?_
          refine O.op (.g rfl rfl) (.mv rfl) ?_
          refine O.op (.g rfl rfl) (.mv rfl) ?_
          refine O.op (.g rfl rfl) (.indexS (j := i) Go.Proofs.Tryz.underlying9 rfl rfl (by first | rfl | omega) (by first | omega | (simp; done) | (simp; omega) | decide)) ?_
          refine O.op (.g rfl rfl) (.neq rfl rfl) ?_
          refine O.slot 55 (v' := .bool true) rfl (congrArg Value.bool (by exact decide_eq_true (by omega))) ?_
          refine O.op (.p rfl) (.pickT rfl rfl) ?_
          refine O.nil ?_
          refine S.condT rfl ?_
          refine S.seq (S.region rfl ?_)
          refine O.op (.p rfl) (.as rfl) ?_
          refine O.nil ?_
          refine S.ret Go.Proofs.Tryz.results93 rfl fun w hw => Holds.end_ hR hw ?_
          exact ⟨_, ⟨rfl, rfl⟩, by repeat (first | exact Picks.all | exact Picks.nil | (apply Picks.cons; focus (repeat (first | exact Sel.here | apply Sel.there))) | apply Picks.skip)⟩
        ·
          rw [nameOk_no hi (by unfold chOk; exact decide_eq_false (by omega))] at hR
          refine S.skip (S.seq (S.block (S.seq (S.regionD (L := [0, 1, 2, 3, 4, 5, 6, 7, 8, 9, 10, 11, 12, 13, 14, 15, 16, 17, 18, 19, 20, 21]) FactRdisk1.mixed (by kernel_rfl) ?_))))
          refine .quiet (.p rfl) rfl (fun _ => .mv rfl) ?_
          refine .quiet (.p rfl) rfl (fun _ => .mv rfl) ?_
          refine .quiet (.p rfl) rfl (fun _ => .indexS (j := i) Go.Proofs.Tryz.underlying9 rfl rfl (by first | rfl | omega) (by first | omega | (simp; done) | (simp; omega) | decide)) ?_
          refine .quiet (.p rfl) rfl (fun _ => .geq rfl rfl) ?_
          refine OD.slot 22 (v' := .bool false) rfl (congrArg Value.bool (by exact decide_eq_false (by omega))) ?_
          refine .quiet (.p rfl) rfl (fun _ => .mv rfl) ?_
          refine .no rfl rfl rfl rfl ?_
          refine .no rfl rfl rfl rfl ?_
          refine .no rfl rfl rfl rfl ?_
          refine .no rfl rfl rfl rfl ?_
          refine .quiet (.p rfl) rfl (fun _ => .pickF rfl rfl) ?_
          refine .quiet (.p rfl) rfl (fun _ => .mv rfl) ?_
          refine .quiet (.p rfl) rfl (fun _ => .mv rfl) ?_
          refine .quiet (.p rfl) rfl (fun _ => .indexS (j := i) Go.Proofs.Tryz.underlying9 rfl rfl (by first | rfl | omega) (by first | omega | (simp; done) | (simp; omega) | decide)) ?_
          refine .quiet (.p rfl) rfl (fun _ => .geq rfl rfl) ?_
          refine OD.slot 32 (v' := .bool true) rfl (congrArg Value.bool (by exact decide_eq_true (by omega))) ?_
          refine .quiet (.p rfl) rfl (fun _ => .mv rfl) ?_
          refine .quiet (.g rfl rfl) rfl (fun _ => .mv rfl) ?_
          refine .quiet (.g rfl rfl) rfl (fun _ => .mv rfl) ?_
          refine .quiet (.g rfl rfl) rfl (fun _ => .indexS (j := i) Go.Proofs.Tryz.underlying9 rfl rfl (by first | rfl | omega) (by first | omega | (simp; done) | (simp; omega) | decide)) ?_
          refine .quiet (.g rfl rfl) rfl (fun _ => .leq rfl rfl) ?_
          refine OD.slot 37 (v' := .bool false) rfl (congrArg Value.bool (by exact decide_eq_false (by omega))) ?_
          refine .quiet (.p rfl) rfl (fun _ => .pickT rfl rfl) ?_
          refine .quiet (.p rfl) rfl (fun _ => .as rfl) ?_
          refine .quiet (.p rfl) rfl (fun _ => .as rfl) ?_
          refine .nil ?_
          refine S.seq (S.region rfl ?_)
          refine O.op (.p rfl) (.mv rfl) ?_
          refine O.op (.p rfl) (.not rfl) ?_
          refine O.op (.p rfl) (.mv rfl) ?_
          refine O.op (.g rfl rfl) (.mv rfl) ?_
          refine O.op (.g rfl rfl) (.not rfl) ?_
          refine O.op (.p rfl) (.pickT rfl rfl) ?_
          refine O.op (.p rfl) (.mv rfl) ?_
          refine O.op (.g rfl rfl) (.mv rfl) ?_
          refine O.op (.g rfl rfl) (.mv rfl) ?_
          refine O.op (.g rfl rfl) (.indexS (j := i) Go.Proofs.Tryz.underlying9 rfl rfl (by first | rfl | omega) (by first | omega | (simp; done) | (simp; omega) | decide)) ?_
          refine O.op (.g rfl rfl) (.neq rfl rfl) ?_
          refine O.slot 49 (v' := .bool true) rfl (congrArg Value.bool (by exact decide_eq_true (by omega))) ?_
          refine O.op (.p rfl) (.pickT rfl rfl) ?_
          refine O.op (.p rfl) (.mv rfl) ?_
          refine O.op (.g rfl rfl) (.mv rfl) ?_
          refine O.op (.g rfl rfl) (.mv rfl) ?_
          refine O.op (.g rfl rfl) (.indexS (j := i) Go.Proofs.Tryz.underlying9 rfl rfl (by first | rfl | omega) (by first | omega | (simp; done) | (simp; omega) | decide)) ?_
          refine O.op (.g rfl rfl) (.neq rfl rfl) ?_
          refine O.slot 55 (v' := .bool true) rfl (congrArg Value.bool (by exact decide_eq_true (by omega))) ?_
          refine O.op (.p rfl) (.pickT rfl rfl) ?_
          refine O.nil ?_
          refine S.condT rfl ?_
          refine S.seq (S.region rfl ?_)
          refine O.op (.p rfl) (.as rfl) ?_
          refine O.nil ?_
          refine S.ret Go.Proofs.Tryz.results93 rfl fun w hw => Holds.end_ hR hw ?_
          exact ⟨_, ⟨rfl, rfl⟩, by repeat (first | exact Picks.all | exact Picks.nil | (apply Picks.cons; focus (repeat (first | exact Sel.here | apply Sel.there))) | apply Picks.skip)⟩
        ·
          rw [nameOk_no hi (by unfold chOk; exact decide_eq_false (by omega))] at hR
          refine S.skip (S.seq (S.block (S.seq (S.regionD (L := [0, 1, 2, 3, 4, 5, 6, 7, 8, 9, 10, 11, 12, 13, 14, 15, 16, 17, 18, 19, 20, 21]) FactRdisk1.mixed (by kernel_rfl) ?_))))
          refine .quiet (.p rfl) rfl (fun _ => .mv rfl) ?_
          refine .quiet (.p rfl) rfl (fun _ => .mv rfl) ?_
          refine .quiet (.p rfl) rfl (fun _ => .indexS (j := i) Go.Proofs.Tryz.underlying9 rfl rfl (by first | rfl | omega) (by first | omega | (simp; done) | (simp; omega) | decide)) ?_
          refine .quiet (.p rfl) rfl (fun _ => .geq rfl rfl) ?_
          refine OD.slot 22 (v' := .bool true) rfl (congrArg Value.bool (by exact decide_eq_true (by omega))) ?_
          refine .quiet (.p rfl) rfl (fun _ => .mv rfl) ?_
          refine .quiet (.g rfl rfl) rfl (fun _ => .mv rfl) ?_
          refine .quiet (.g rfl rfl) rfl (fun _ => .mv rfl) ?_
          refine .quiet (.g rfl rfl) rfl (fun _ => .indexS (j := i) Go.Proofs.Tryz.underlying9 rfl rfl (by first | rfl | omega) (by first | omega | (simp; done) | (simp; omega) | decide)) ?_
          refine .quiet (.g rfl rfl) rfl (fun _ => .leq rfl rfl) ?_
          refine OD.slot 27 (v' := .bool false) rfl (congrArg Value.bool (by exact decide_eq_false (by omega))) ?_
          refine .quiet (.p rfl) rfl (fun _ => .pickT rfl rfl) ?_
          refine .quiet (.p rfl) rfl (fun _ => .mv rfl) ?_
          refine .quiet (.p rfl) rfl (fun _ => .mv rfl) ?_
          refine .quiet (.p rfl) rfl (fun _ => .indexS (j := i) Go.Proofs.Tryz.underlying9 rfl rfl (by first | rfl | omega) (by first | omega | (simp; done) | (simp; omega) | decide)) ?_
          refine .quiet (.p rfl) rfl (fun _ => .geq rfl rfl) ?_
          refine OD.slot 32 (v' := .bool true) rfl (congrArg Value.bool (by exact decide_eq_true (by omega))) ?_
          refine .quiet (.p rfl) rfl (fun _ => .mv rfl) ?_
          refine .quiet (.g rfl rfl) rfl (fun _ => .mv rfl) ?_
          refine .quiet (.g rfl rfl) rfl (fun _ => .mv rfl) ?_
          refine .quiet (.g rfl rfl) rfl (fun _ => .indexS (j := i) Go.Proofs.Tryz.underlying9 rfl rfl (by first | rfl | omega) (by first | omega | (simp; done) | (simp; omega) | decide)) ?_
          refine .quiet (.g rfl rfl) rfl (fun _ => .leq rfl rfl) ?_
          refine OD.slot 37 (v' := .bool false) rfl (congrArg Value.bool (by exact decide_eq_false (by omega))) ?_
          refine .quiet (.p rfl) rfl (fun _ => .pickT rfl rfl) ?_
          refine .quiet (.p rfl) rfl (fun _ => .as rfl) ?_
          refine .quiet (.p rfl) rfl (fun _ => .as rfl) ?_
          refine .nil ?_
          refine S.seq (S.region rfl ?_)
          refine O.op (.p rfl) (.mv rfl) ?_
          refine O.op (.p rfl) (.not rfl) ?_
          refine O.op (.p rfl) (.mv rfl) ?_
          refine O.op (.g rfl rfl) (.mv rfl) ?_
          refine O.op (.g rfl rfl) (.not rfl) ?_
          refine O.op (.p rfl) (.pickT rfl rfl) ?_
          refine O.op (.p rfl) (.mv rfl) ?_
          refine O.op (.g rfl rfl) (.mv rfl) ?_
          refine O.op (.g rfl rfl) (.mv rfl) ?_
          refine O.op (.g rfl rfl) (.indexS (j := i) Go.Proofs.Tryz.underlying9 rfl rfl (by first | rfl | omega) (by first | omega | (simp; done) | (simp; omega) | decide)) ?_
          refine O.op (.g rfl rfl) (.neq rfl rfl) ?_
          refine O.slot 49 (v' := .bool true) rfl (congrArg Value.bool (by exact decide_eq_true (by omega))) ?_
          refine O.op (.p rfl) (.pickT rfl rfl) ?_
          refine O.op (.p rfl) (.mv rfl) ?_
          refine O.op (.g rfl rfl) (.mv rfl) ?_
          refine O.op (.g rfl rfl) (.mv rfl) ?_
          refine O.op (.g rfl rfl) (.indexS (j := i) Go.Proofs.Tryz.underlying9 rfl rfl (by first | rfl | omega) (by first | omega | (simp; done) | (simp; omega) | decide)) ?_
          refine O.op (.g rfl rfl) (.neq rfl rfl) ?_
          refine O.slot 55 (v' := .bool true) rfl (congrArg Value.bool (by exact decide_eq_true (by omega))) ?_
          refine O.op (.p rfl) (.pickT rfl rfl) ?_
          refine O.nil ?_
          refine S.condT rfl ?_
          refine S.seq (S.region rfl ?_)
          refine O.op (.p rfl) (.as rfl) ?_
          refine O.nil ?_
          refine S.ret Go.Proofs.Tryz.results93 rfl fun w hw => Holds.end_ hR hw ?_
          exact ⟨_, ⟨rfl, rfl⟩, by repeat (first | exact Picks.all | exact Picks.nil | (apply Picks.cons; focus (repeat (first | exact Sel.here | apply Sel.there))) | apply Picks.skip)⟩
      · clear ih
        have e : nameOk s = true := by
          unfold nameOk
          exact decide_eq_true ⟨hne, hl24, fun c hc => (chOk_mem c).2 (hx2 c (by rw [List.take_of_length_le (by omega)]; exact hc))⟩
        rw [e] at hR
        refine S.exit rfl ?_
        refine S.seq (S.region rfl ?_)
        refine O.op (.p rfl) (.as rfl) ?_
        refine O.nil ?_
        refine S.ret Go.Proofs.Tryz.results93 rfl fun w hw => Holds.end_ hR hw ?_
        exact ⟨_, ⟨rfl, rfl⟩, by repeat (first | exact Picks.all | exact Picks.nil | (apply Picks.cons; focus (repeat (first | exact Sel.here | apply Sel.there))) | apply Picks.skip)⟩
def ownR (n : List UInt8) : List (List UInt8) → Nat → Int
  | [], _ => -1
  | x :: xs, i => if x = n ∧ n ≠ [] then (i : Int) else ownR n xs (i + 1)
theorem owner_c {r : Fr} {d : Nat} {an : Option Addr} {cn : Nat} {vc vr : Value} {names : List (List UInt8)} {n : List UInt8} (ho : At r ⟨d, 0, none⟩ [.slice an names.length cn, vc, vr]) (hn : Arr Rp.str r (.slice an names.length cn) names) :
    Con Go.Proofs.Tryz.prog 90 #[.pointer (some ⟨d, 0, none⟩), .string (str n)] r [] (Ret fun v η => v = .int .i64 (ownR n names 0) ∧ η = []) := by
  refine Con.of (n := 29) [.pointer (some ⟨d, 0, none⟩), .string (str n)] rfl Go.Proofs.Tryz.func90 rfl rfl rfl fun g hg R hR => ?_
  replace ho : At g.h ⟨d, 0, none⟩ [.slice an names.length cn, vc, vr] := At.mono hg ho
  have hn := hn.mono hg
  have hbd := hn.bound
  refine S.seq (S.region rfl ?_)
  refine O.op (.p rfl) (.as rfl) ?_
  refine O.nil ?_
  refine S.seq (S.seq (S.region rfl ?_))
  refine O.op (.p rfl) (.as rfl) ?_
  refine O.nil ?_
  refine S.block ?_
  refine S.loopK (ι := Nat) (fun i => i ≤ names.length ∧ ownR n names 0 = ownR n (names.drop i) i) (fun i => [(5, .int .i64 (i : Int))]) [(0, _), (1, _)] (fun i => []) (fun i => names.length - i) (0) (by exact ⟨Nat.zero_le _, rfl⟩) (.cons rfl (.nil)) (.cons rfl (.cons rfl (.nil))) rfl fun i hx ih => ?_
  have hm1 := meltRefl (g := g)
  obtain ⟨hx1, hx2⟩ := hx
  refine S.seq (S.seq (S.region rfl ?_))
  refine O.op (.p rfl) (.mv rfl) ?_
  refine O.op (.p rfl) (.mv rfl) ?_
  refine O.op (.p rfl) (.nilCheck rfl) ?_
  refine O.op (.p rfl) (.fieldAddr FactRdisk1.fld102x0 rfl) ?_
  refine O.op (.p rfl) (.loadAt FactRdisk1.flat36 rfl ho rfl) ?_
  refine O.op (.p rfl) (.len rfl Go.Proofs.Tryz.underlying36 rfl) ?_
  refine O.op (.p rfl) (.lss rfl rfl) ?_
  refine O.nil ?_
  first | refine S.condD rfl (fun h12 => ?_) (fun h12 => ?_) | refine S.condB rfl (fun h12 => ?_) (fun h12 => ?_)
  · have hi : i < names.length := by omega
    rw [List.drop_eq_getElem_cons hi] at hx2
    by_cases hq : names[i] = n
    ·
      by_cases hn0 : n = []
      ·
        have hx3 : ownR n names 0 = ownR n (names.drop (i + 1)) (i + 1) := by rw [hx2]; simp only [ownR]; rw [if_neg fun h => h.2 hn0]
        refine S.skip (S.seq (S.block (S.seq (S.region rfl ?_))))
        refine O.op (.p rfl) (.mv rfl) ?_
        refine O.op (.p rfl) (.nilCheck rfl) ?_
        refine O.op (.p rfl) (.fieldAddr FactRdisk1.fld102x0 rfl) ?_
        refine O.op (.p rfl) (.loadAt FactRdisk1.flat36 rfl ho rfl) ?_
        refine O.op (.p rfl) (.mv rfl) ?_
        refine O.idx' (.p rfl) Go.Proofs.Tryz.underlying36 FactRdisk1.size9 rfl rfl rfl (hn) (by decide) (by first | omega | (simp; done) | (simp; omega) | decide) (fun p20 cs20 hp20 hr20 => ?_)
        obtain ⟨rfl, _⟩ := hr20
        refine O.op (.p rfl) (.loadAt FactRdisk1.flat9 rfl hp20 rfl) ?_
        refine O.op (.p rfl) (.mv rfl) ?_
        refine O.op (.p rfl) (.eqlS rfl rfl) ?_
        refine O.slot 23 (v' := .bool true) rfl (congrArg Value.bool (by simp [hq])) ?_
        refine O.op (.p rfl) (.mv rfl) ?_
        refine O.op (.g rfl rfl) (.mv rfl) ?_
        refine O.op (.g rfl rfl) (.neqS rfl rfl) ?_
        refine O.slot 26 (v' := .bool false) rfl (congrArg Value.bool (by simp [hn0])) ?_
        refine O.op (.p rfl) (.pickT rfl rfl) ?_
        refine O.nil ?_
        refine S.condF rfl ?_
        refine S.skip (S.inBlock (S.region rfl ?_))
        refine O.op (.p rfl) (.mv rfl) ?_
        refine O.op (.p rfl) (.add rfl rfl (IntWalk.i64_in _ (by omega))) ?_
        refine O.op (.p rfl) (.as rfl) ?_
        refine O.nil ?_
        refine S.weaken ?_ (ih (i + 1) (by exact ⟨hi, hx3⟩) (by omega))
        repeat (first | exact Sub.nil | refine Sub.cons rfl ?_)
      ·
        have hx3 : ownR n names 0 = (i : Int) := by rw [hx2]; simp only [ownR]; rw [if_pos ⟨hq, hn0⟩]
        rw [hx3] at hR
        refine S.skip (S.seq (S.block (S.seq (S.region rfl ?_))))
        refine O.op (.p rfl) (.mv rfl) ?_
        refine O.op (.p rfl) (.nilCheck rfl) ?_
        refine O.op (.p rfl) (.fieldAddr FactRdisk1.fld102x0 rfl) ?_
        refine O.op (.p rfl) (.loadAt FactRdisk1.flat36 rfl ho rfl) ?_
        refine O.op (.p rfl) (.mv rfl) ?_
        refine O.idx' (.p rfl) Go.Proofs.Tryz.underlying36 FactRdisk1.size9 rfl rfl rfl (hn) (by decide) (by first | omega | (simp; done) | (simp; omega) | decide) (fun p20 cs20 hp20 hr20 => ?_)
        obtain ⟨rfl, _⟩ := hr20
        refine O.op (.p rfl) (.loadAt FactRdisk1.flat9 rfl hp20 rfl) ?_
        refine O.op (.p rfl) (.mv rfl) ?_
        refine O.op (.p rfl) (.eqlS rfl rfl) ?_
        refine O.slot 23 (v' := .bool true) rfl (congrArg Value.bool (by simp [hq])) ?_
        refine O.op (.p rfl) (.mv rfl) ?_
        refine O.op (.g rfl rfl) (.mv rfl) ?_
        refine O.op (.g rfl rfl) (.neqS rfl rfl) ?_
        refine O.slot 26 (v' := .bool true) rfl (congrArg Value.bool (by simp [hn0])) ?_
        refine O.op (.p rfl) (.pickT rfl rfl) ?_
        refine O.nil ?_
        refine S.condT rfl ?_
        refine S.seq (S.region rfl ?_)
        refine O.op (.p rfl) (.mv rfl) ?_
        refine O.op (.p rfl) (.as rfl) ?_
        refine O.nil ?_
        refine S.ret Go.Proofs.Tryz.results90 rfl fun w hw => Holds.end_ hR hw ?_
        exact ⟨_, ⟨rfl, rfl⟩, by repeat (first | exact Picks.all | exact Picks.nil | (apply Picks.cons; focus (repeat (first | exact Sel.here | apply Sel.there))) | apply Picks.skip)⟩
    ·
      have hx3 : ownR n names 0 = ownR n (names.drop (i + 1)) (i + 1) := by rw [hx2]; simp only [ownR]; rw [if_neg fun h => hq h.1]
      refine S.skip (S.seq (S.block (S.seq (S.region rfl ?_))))
      refine O.op (.p rfl) (.mv rfl) ?_
      refine O.op (.p rfl) (.nilCheck rfl) ?_
      refine O.op (.p rfl) (.fieldAddr FactRdisk1.fld102x0 rfl) ?_
      refine O.op (.p rfl) (.loadAt FactRdisk1.flat36 rfl ho rfl) ?_
      refine O.op (.p rfl) (.mv rfl) ?_
      refine O.idx' (.p rfl) Go.Proofs.Tryz.underlying36 FactRdisk1.size9 rfl rfl rfl (hn) (by decide) (by first | omega | (simp; done) | (simp; omega) | decide) (fun p20 cs20 hp20 hr20 => ?_)
      obtain ⟨rfl, _⟩ := hr20
      refine O.op (.p rfl) (.loadAt FactRdisk1.flat9 rfl hp20 rfl) ?_
      refine O.op (.p rfl) (.mv rfl) ?_
      refine O.op (.p rfl) (.eqlS rfl rfl) ?_
      refine O.slot 23 (v' := .bool false) rfl (congrArg Value.bool (by simp [hq])) ?_
      refine O.op (.p rfl) (.mv rfl) ?_
      refine O.opN rfl rfl rfl ?_
      refine O.opN rfl rfl rfl ?_
      refine O.op (.p rfl) (.pickF rfl rfl) ?_
      refine O.nil ?_
      refine S.condF rfl ?_
      refine S.skip (S.inBlock (S.region rfl ?_))
      refine O.op (.p rfl) (.mv rfl) ?_
      refine O.op (.p rfl) (.add rfl rfl (IntWalk.i64_in _ (by omega))) ?_
      refine O.op (.p rfl) (.as rfl) ?_
      refine O.nil ?_
      refine S.weaken ?_ (ih (i + 1) (by exact ⟨hi, hx3⟩) (by omega))
      repeat (first | exact Sub.nil | refine Sub.cons rfl ?_)
  · clear ih
    have hi : i = names.length := by omega
    subst hi
    rw [List.drop_length] at hx2
    rw [hx2] at hR
    refine S.exit rfl ?_
    refine S.seq (S.region rfl ?_)
    refine O.op (.p rfl) (.as rfl) ?_
    refine O.nil ?_
    refine S.ret Go.Proofs.Tryz.results90 rfl fun w hw => Holds.end_ hR hw ?_
    exact ⟨_, ⟨rfl, rfl⟩, by repeat (first | exact Picks.all | exact Picks.nil | (apply Picks.cons; focus (repeat (first | exact Sel.here | apply Sel.there))) | apply Picks.skip)⟩
def cAll (o : Int) (l : List CellM) : Nat := (l.filter fun x => x.1 == o).length
def cSafe (o : Int) (l : List CellM) : Nat := (l.filter fun x => x.1 == o && x.2.2).length
theorem cAll_snoc (o : Int) (l : List CellM) (x : CellM) : cAll o (l ++ [x]) = cAll o l + if x.1 = o then 1 else 0 := by
  unfold cAll; rw [List.filter_append, List.length_append]
  by_cases h : x.1 = o <;> simp [h]
theorem cSafe_snoc (o : Int) (l : List CellM) (x : CellM) : cSafe o (l ++ [x]) = cSafe o l + if x.1 = o ∧ x.2.2 = true then 1 else 0 := by
  unfold cSafe; rw [List.filter_append, List.length_append]
  by_cases h : x.1 = o <;> by_cases h2 : x.2.2 = true <;> simp [h, h2]
theorem cAll_le (o : Int) (l : List CellM) : cAll o l ≤ l.length := List.length_filter_le ..
theorem cSafe_le (o : Int) (l : List CellM) : cSafe o l ≤ l.length := List.length_filter_le ..
theorem count_c {r : Fr} {d : Nat} {ac : Option Addr} {cc : Nat} {vn vr : Value} {cells : List CellM} {o : Int} (ho : At r ⟨d, 0, none⟩ [vn, .slice ac cells.length cc, vr]) (hc : Arr (Rp.cells 3) r (.slice ac cells.length cc) (cells.map encC)) (hl : cells.length ≤ 1000000000) :
    Con Go.Proofs.Tryz.prog 91 #[.pointer (some ⟨d, 0, none⟩), .int .i64 o] r [] (Ret fun v η => v = .tuple #[.int .i64 (cAll o cells : Int), .int .i64 (cSafe o cells : Int)] ∧ η = []) := by
  refine Con.of (n := 42) [.pointer (some ⟨d, 0, none⟩), .int .i64 o] rfl Go.Proofs.Tryz.func91 rfl rfl rfl fun g hg R hR => ?_
  replace ho : At g.h ⟨d, 0, none⟩ [vn, .slice ac cells.length cc, vr] := At.mono hg ho
  have hc := hc.mono hg
  refine S.seq (S.region rfl ?_)
  refine O.op (.p rfl) (.as rfl) ?_
  refine O.op (.p rfl) (.as rfl) ?_
  refine O.nil ?_
  refine S.seq (S.region rfl ?_)
  refine O.op (.p rfl) (.as rfl) ?_
  refine O.op (.p rfl) (.as rfl) ?_
  refine O.nil ?_
  refine S.seq (S.seq (S.region rfl ?_))
  refine O.op (.p rfl) (.as rfl) ?_
  refine O.nil ?_
  refine S.block ?_
  refine S.loopK (ι := Nat) (fun i => i ≤ cells.length) (fun i => [(6, .int .i64 (cAll o (cells.take i) : Int)), (7, .int .i64 (cSafe o (cells.take i) : Int)), (8, .int .i64 (i : Int))]) [(0, _), (1, _)] (fun i => []) (fun i => cells.length - i) (0) (by exact Nat.zero_le _) (.cons rfl (.cons rfl (.cons rfl (.nil)))) (.cons rfl (.cons rfl (.nil))) rfl fun i hx ih => ?_
  have hm1 := meltRefl (g := g)
  have hla := cAll_le o (cells.take i)
  have hls := cSafe_le o (cells.take i)
  have htl : (cells.take i).length ≤ cells.length := List.length_take_le' ..
  refine S.seq (S.seq (S.region rfl ?_))
  refine O.op (.p rfl) (.mv rfl) ?_
  refine O.op (.p rfl) (.mv rfl) ?_
  refine O.op (.p rfl) (.nilCheck rfl) ?_
  refine O.op (.p rfl) (.fieldAddr FactRdisk1.fld102x1 rfl) ?_
  refine O.op (.p rfl) (.loadAt FactRdisk1.flat100 rfl (ho.drop 1) rfl) ?_
  refine O.op (.p rfl) (.len rfl Go.Proofs.Tryz.underlying100 rfl) ?_
  refine O.op (.p rfl) (.lss rfl rfl) ?_
  refine O.nil ?_
  first | refine S.condD rfl (fun h15 => ?_) (fun h15 => ?_) | refine S.condB rfl (fun h15 => ?_) (fun h15 => ?_)
  · have hi : i < cells.length := by omega
    have ht : cells.take (i + 1) = cells.take i ++ [cells[i]] := List.take_succ_eq_append_getElem hi
    have e1 := cAll_snoc o (cells.take i) cells[i]
    have e2 := cSafe_snoc o (cells.take i) cells[i]
    rw [← ht] at e1 e2
    by_cases hq : cells[i].1 = o
    ·
      rw [if_pos hq] at e1
      by_cases hs : cells[i].2.2 = true
      ·
        rw [if_pos ⟨hq, hs⟩] at e2
        refine S.skip (S.seq (S.block (S.seq (S.seq (S.region rfl ?_)))))
        refine O.op (.p rfl) (.mv rfl) ?_
        refine O.op (.p rfl) (.nilCheck rfl) ?_
        refine O.op (.p rfl) (.fieldAddr FactRdisk1.fld102x1 rfl) ?_
        refine O.op (.p rfl) (.loadAt FactRdisk1.flat100 rfl (ho.drop 1) rfl) ?_
        refine O.op (.p rfl) (.mv rfl) ?_
        refine O.idx' (.p rfl) Go.Proofs.Tryz.underlying100 FactRdisk1.size142 rfl rfl rfl (hc) (by decide) (by first | omega | (simp; done) | (simp; omega) | decide) (fun p23 cs23 hp23 hr23 => ?_)
        obtain ⟨rfl, _, _⟩ := hr23
        rw [List.getElem_map] at hp23
        simp only [encC] at hp23
        refine O.op (.p rfl) (.fieldAddr FactRdisk1.fld142x0 rfl) ?_
        refine O.op (.p rfl) (.loadAt FactRdisk1.flat3 rfl hp23 rfl) ?_
        refine O.op (.p rfl) (.mv rfl) ?_
        refine O.op (.p rfl) (.neq rfl rfl) ?_
        refine O.slot 27 (v' := .bool false) rfl (congrArg Value.bool (by simp [hq])) ?_
        refine O.nil ?_
        refine S.condF rfl ?_
        refine S.skip (S.seq (S.region rfl ?_))
        refine O.op (.p rfl) (.mv rfl) ?_
        refine O.op (.p rfl) (.add rfl rfl (IntWalk.i64_in _ (by omega))) ?_
        refine O.slot 29 (v' := .int .i64 (cAll o (cells.take (i + 1)) : Int)) rfl (by refine congrArg _ ?_; omega) ?_
        refine O.op (.p rfl) (.as rfl) ?_
        refine O.nil ?_
        refine S.seq (S.region rfl ?_)
        refine O.op (.p rfl) (.mv rfl) ?_
        refine O.op (.p rfl) (.nilCheck rfl) ?_
        refine O.op (.p rfl) (.fieldAddr FactRdisk1.fld102x1 rfl) ?_
        refine O.op (.p rfl) (.loadAt FactRdisk1.flat100 rfl (ho.drop 1) rfl) ?_
        refine O.op (.p rfl) (.mv rfl) ?_
        refine O.idx' (.p rfl) Go.Proofs.Tryz.underlying100 FactRdisk1.size142 rfl rfl rfl (hc) (by decide) (by first | omega | (simp; done) | (simp; omega) | decide) (fun p35 cs35 hp35 hr35 => ?_)
        obtain ⟨rfl, _, _⟩ := hr35
        rw [List.getElem_map] at hp35
        simp only [encC] at hp35
        refine O.op (.p rfl) (.fieldAddr FactRdisk1.fld142x2 rfl) ?_
        refine O.op (.p rfl) (.loadAt FactRdisk1.flat4 rfl (hp35.drop 2) rfl) ?_
        refine O.slot 37 (v' := .bool true) rfl (congrArg Value.bool (by exact hs)) ?_
        refine O.nil ?_
        refine S.condT rfl ?_
        refine S.region rfl ?_
        refine O.op (.p rfl) (.mv rfl) ?_
        refine O.op (.p rfl) (.add rfl rfl (IntWalk.i64_in _ (by omega))) ?_
        refine O.slot 39 (v' := .int .i64 (cSafe o (cells.take (i + 1)) : Int)) rfl (by refine congrArg _ ?_; omega) ?_
        refine O.op (.p rfl) (.as rfl) ?_
        refine O.nil ?_
        refine S.inBlock (S.region rfl ?_)
        refine O.op (.p rfl) (.mv rfl) ?_
        refine O.op (.p rfl) (.add rfl rfl (IntWalk.i64_in _ (by omega))) ?_
        refine O.op (.p rfl) (.as rfl) ?_
        refine O.nil ?_
        refine S.weaken ?_ (ih (i + 1) (by exact hi) (by omega))
        repeat (first | exact Sub.nil | refine Sub.cons rfl ?_)
      ·
        rw [if_neg fun h => hs h.2] at e2
        have hs2 : cells[i].2.2 = false := by simpa using hs
        refine S.skip (S.seq (S.block (S.seq (S.seq (S.region rfl ?_)))))
        refine O.op (.p rfl) (.mv rfl) ?_
        refine O.op (.p rfl) (.nilCheck rfl) ?_
        refine O.op (.p rfl) (.fieldAddr FactRdisk1.fld102x1 rfl) ?_
        refine O.op (.p rfl) (.loadAt FactRdisk1.flat100 rfl (ho.drop 1) rfl) ?_
        refine O.op (.p rfl) (.mv rfl) ?_
        refine O.idx' (.p rfl) Go.Proofs.Tryz.underlying100 FactRdisk1.size142 rfl rfl rfl (hc) (by decide) (by first | omega | (simp; done) | (simp; omega) | decide) (fun p23 cs23 hp23 hr23 => ?_)
        obtain ⟨rfl, _, _⟩ := hr23
        rw [List.getElem_map] at hp23
        simp only [encC] at hp23
        refine O.op (.p rfl) (.fieldAddr FactRdisk1.fld142x0 rfl) ?_
        refine O.op (.p rfl) (.loadAt FactRdisk1.flat3 rfl hp23 rfl) ?_
        refine O.op (.p rfl) (.mv rfl) ?_
        refine O.op (.p rfl) (.neq rfl rfl) ?_
        refine O.slot 27 (v' := .bool false) rfl (congrArg Value.bool (by simp [hq])) ?_
        refine O.nil ?_
        refine S.condF rfl ?_
        refine S.skip (S.seq (S.region rfl ?_))
        refine O.op (.p rfl) (.mv rfl) ?_
        refine O.op (.p rfl) (.add rfl rfl (IntWalk.i64_in _ (by omega))) ?_
        refine O.slot 29 (v' := .int .i64 (cAll o (cells.take (i + 1)) : Int)) rfl (by refine congrArg _ ?_; omega) ?_
        refine O.op (.p rfl) (.as rfl) ?_
        refine O.nil ?_
        refine S.seq (S.region rfl ?_)
        refine O.op (.p rfl) (.mv rfl) ?_
        refine O.op (.p rfl) (.nilCheck rfl) ?_
        refine O.op (.p rfl) (.fieldAddr FactRdisk1.fld102x1 rfl) ?_
        refine O.op (.p rfl) (.loadAt FactRdisk1.flat100 rfl (ho.drop 1) rfl) ?_
        refine O.op (.p rfl) (.mv rfl) ?_
        refine O.idx' (.p rfl) Go.Proofs.Tryz.underlying100 FactRdisk1.size142 rfl rfl rfl (hc) (by decide) (by first | omega | (simp; done) | (simp; omega) | decide) (fun p35 cs35 hp35 hr35 => ?_)
        obtain ⟨rfl, _, _⟩ := hr35
        rw [List.getElem_map] at hp35
        simp only [encC] at hp35
        refine O.op (.p rfl) (.fieldAddr FactRdisk1.fld142x2 rfl) ?_
        refine O.op (.p rfl) (.loadAt FactRdisk1.flat4 rfl (hp35.drop 2) rfl) ?_
        refine O.slot 37 (v' := .bool false) rfl (congrArg Value.bool (by exact hs2)) ?_
        refine O.nil ?_
        refine S.condF rfl ?_
        refine S.skip (S.inBlock (S.region rfl ?_))
        refine O.op (.p rfl) (.mv rfl) ?_
        refine O.op (.p rfl) (.add rfl rfl (IntWalk.i64_in _ (by omega))) ?_
        refine O.op (.p rfl) (.as rfl) ?_
        refine O.nil ?_
        rw [show cSafe o (cells.take i) = cSafe o (cells.take (i + 1)) from by omega]
        refine S.weaken ?_ (ih (i + 1) (by exact hi) (by omega))
        repeat (first | exact Sub.nil | refine Sub.cons rfl ?_)
    ·
      rw [if_neg hq] at e1
      rw [if_neg fun h => hq h.1] at e2
      refine S.skip (S.seq (S.block (S.seq (S.seq (S.region rfl ?_)))))
      refine O.op (.p rfl) (.mv rfl) ?_
      refine O.op (.p rfl) (.nilCheck rfl) ?_
      refine O.op (.p rfl) (.fieldAddr FactRdisk1.fld102x1 rfl) ?_
      refine O.op (.p rfl) (.loadAt FactRdisk1.flat100 rfl (ho.drop 1) rfl) ?_
      refine O.op (.p rfl) (.mv rfl) ?_
      refine O.idx' (.p rfl) Go.Proofs.Tryz.underlying100 FactRdisk1.size142 rfl rfl rfl (hc) (by decide) (by first | omega | (simp; done) | (simp; omega) | decide) (fun p23 cs23 hp23 hr23 => ?_)
      obtain ⟨rfl, _, _⟩ := hr23
      rw [List.getElem_map] at hp23
      simp only [encC] at hp23
      refine O.op (.p rfl) (.fieldAddr FactRdisk1.fld142x0 rfl) ?_
      refine O.op (.p rfl) (.loadAt FactRdisk1.flat3 rfl hp23 rfl) ?_
      refine O.op (.p rfl) (.mv rfl) ?_
      refine O.op (.p rfl) (.neq rfl rfl) ?_
      refine O.slot 27 (v' := .bool true) rfl (congrArg Value.bool (by simp [hq])) ?_
      refine O.nil ?_
      refine S.condT rfl ?_
      refine S.exit rfl ?_
      refine S.region rfl ?_
      refine O.op (.p rfl) (.mv rfl) ?_
      refine O.op (.p rfl) (.add rfl rfl (IntWalk.i64_in _ (by omega))) ?_
      refine O.op (.p rfl) (.as rfl) ?_
      refine O.nil ?_
      rw [show cSafe o (cells.take i) = cSafe o (cells.take (i + 1)) from by omega, show cAll o (cells.take i) = cAll o (cells.take (i + 1)) from by omega]
      refine S.weaken ?_ (ih (i + 1) (by exact hi) (by omega))
      repeat (first | exact Sub.nil | refine Sub.cons rfl ?_)
  · clear ih
    have hi : i = cells.length := by omega
    subst hi
    rw [List.take_length]
    refine S.exit rfl ?_
    refine S.seq (S.region rfl ?_)
    refine O.op (.p rfl) (.mv rfl) ?_
    refine O.op (.p rfl) (.mv rfl) ?_
    refine O.op (.p rfl) (.as rfl) ?_
    refine O.op (.p rfl) (.as rfl) ?_
    refine O.nil ?_
    refine S.ret2 Go.Proofs.Tryz.results91 rfl rfl fun w hw => Holds.end_ hR hw ?_
    exact ⟨_, ⟨rfl, rfl⟩, by repeat (first | exact Picks.all | exact Picks.nil | (apply Picks.cons; focus (repeat (first | exact Sel.here | apply Sel.there))) | apply Picks.skip)⟩
theorem refUsed_c {r : Fr} {d : Nat} {ac : Option Addr} {n cc : Nat} {vn vr : Value} (ho : At r ⟨d, 0, none⟩ [vn, .slice ac n cc, vr]) :
    Con Go.Proofs.Tryz.prog 96 #[.pointer (some ⟨d, 0, none⟩)] r [] (Ret fun v η => v = .int .i64 (n : Int) ∧ η = []) := by
  refine Con.of (n := 8) [.pointer (some ⟨d, 0, none⟩)] rfl Go.Proofs.Tryz.func96 rfl rfl rfl fun g hg R hR => ?_
  replace ho : At g.h ⟨d, 0, none⟩ [vn, .slice ac n cc, vr] := At.mono hg ho
  refine S.seq (S.region rfl ?_)
  refine O.op (.p rfl) (.as rfl) ?_
  refine O.nil ?_
  refine S.seq (S.region rfl ?_)
  refine O.op (.p rfl) (.mv rfl) ?_
  refine O.op (.p rfl) (.nilCheck rfl) ?_
  refine O.op (.p rfl) (.fieldAddr FactRdisk1.fld102x1 rfl) ?_
  refine O.op (.p rfl) (.loadAt FactRdisk1.flat100 rfl (ho.drop 1) rfl) ?_
  refine O.op (.p rfl) (.len rfl Go.Proofs.Tryz.underlying100 rfl) ?_
  refine O.op (.p rfl) (.as rfl) ?_
  refine O.nil ?_
  refine S.ret Go.Proofs.Tryz.results96 rfl fun w hw => Holds.end_ hR hw ?_
  exact ⟨_, ⟨rfl, rfl⟩, by repeat (first | exact Picks.all | exact Picks.nil | (apply Picks.cons; focus (repeat (first | exact Sel.here | apply Sel.there))) | apply Picks.skip)⟩
def rdR (o : Int) (l : List CellM) : List UInt8 := (l.filter fun x => x.1 == o).map (·.2.1)
theorem rdR_snoc (o : Int) (l : List CellM) (x : CellM) : rdR o (l ++ [x]) = rdR o l ++ if x.1 = o then [x.2.1] else [] := by
  unfold rdR; rw [List.filter_append, List.map_append]
  by_cases h : x.1 = o <;> simp [h]
theorem rdR_le (o : Int) (l : List CellM) : (rdR o l).length ≤ l.length := by unfold rdR; rw [List.length_map]; exact List.length_filter_le ..
def refReadE (n : List UInt8) (names : List (List UInt8)) : Int := if ownR n names 0 < 0 then 6 else 0
def refReadB (n : List UInt8) (names : List (List UInt8)) (cells : List CellM) : List UInt8 := if ownR n names 0 < 0 then [] else rdR (ownR n names 0) cells
theorem refRead_c {r : Fr} {d : Nat} {an ac : Option Addr} {cn cc : Nat} {vr : Value} {names : List (List UInt8)} {cells : List CellM} {n : List UInt8} (ho : At r ⟨d, 0, none⟩ [.slice an names.length cn, .slice ac cells.length cc, vr]) (hn : Arr Rp.str r (.slice an names.length cn) names) (hc : Arr (Rp.cells 3) r (.slice ac cells.length cc) (cells.map encC)) (hl : cells.length ≤ 1000000000) :
    Con Go.Proofs.Tryz.prog 97 #[.pointer (some ⟨d, 0, none⟩), .string (str n)] r [] (Ret fun v η => ∃ a c, v = .tuple #[.slice a (refReadB n names cells).length c, .int .i64 (refReadE n names)] ∧ η = [OwnP Rp.u8 5 (.slice a (refReadB n names cells).length c) (refReadB n names cells)]) := by
  refine Con.of (n := 45) [.pointer (some ⟨d, 0, none⟩), .string (str n)] rfl Go.Proofs.Tryz.func97 rfl rfl rfl fun g hg R hR => ?_
  replace ho : At g.h ⟨d, 0, none⟩ [.slice an names.length cn, .slice ac cells.length cc, vr] := At.mono hg ho
  have hn := hn.mono hg
  have hc := hc.mono hg
  unfold refReadB refReadE at hR
  refine S.seq (S.region rfl ?_)
  refine O.op (.p rfl) (.as rfl) ?_
  refine O.op (.p rfl) (.as rfl) ?_
  refine O.nil ?_
  refine S.seq (S.region rfl ?_)
  refine O.op (.p rfl) (.mv rfl) ?_
  refine O.op (.p rfl) (.mv rfl) ?_
  refine O.call0 (.p rfl) rfl FactRdisk1.ok90 rfl rfl ((owner_c ho hn)) ?_
  rintro v11 _ ⟨rfl, rfl⟩
  try simp only [List.cons_append, List.nil_append, List.append_nil]
  refine O.op (.p rfl) (.as rfl) ?_
  refine O.nil ?_
  refine S.seq (S.seq (S.region rfl ?_))
  refine O.op (.p rfl) (.mv rfl) ?_
  refine O.op (.p rfl) (.lss rfl rfl) ?_
  refine O.nil ?_
  first | refine S.condD rfl (fun h13 => ?_) (fun h13 => ?_) | refine S.condB rfl (fun h13 => ?_) (fun h13 => ?_)
  · simp only [if_pos h13] at hR
    refine S.addNil (T := Rp.u8) (e := 5) ?_
    refine S.seq (S.region rfl ?_)
    refine O.op (.p rfl) (.as rfl) ?_
    refine O.op (.p rfl) (.as rfl) ?_
    refine O.nil ?_
    refine S.ret2 Go.Proofs.Tryz.results97 rfl rfl fun w hw => Holds.end_ hR hw ?_
    exact ⟨_, ⟨none, 0, rfl, rfl⟩, by repeat (first | exact Picks.all | exact Picks.nil | (apply Picks.cons; focus (repeat (first | exact Sel.here | apply Sel.there))) | apply Picks.skip)⟩
  · simp only [if_neg h13] at hR
    generalize ownR n names 0 = o at *
    refine S.addNil (T := Rp.u8) (e := 5) ?_
    refine S.skip (S.seq (S.region rfl ?_))
    refine O.op (.p rfl) (.as rfl) ?_
    refine O.nil ?_
    refine S.seq (S.seq (S.region rfl ?_))
    refine O.op (.p rfl) (.as rfl) ?_
    refine O.nil ?_
    refine S.block ?_
    refine S.loopK2 (ι := Nat) (κ := Option Addr × Nat) (fun i s => i ≤ cells.length) (fun i s => [(8, .int .i64 (i : Int)), (7, .slice s.1 (rdR o (cells.take i)).length s.2)]) [(0, _), (6, _)] (fun i s => [OwnP Rp.u8 5 (.slice s.1 (rdR o (cells.take i)).length s.2) (rdR o (cells.take i))]) (fun i s => cells.length - i) (0) ((none, 0)) (by exact Nat.zero_le _) (.cons rfl (.cons rfl (.nil))) (.cons rfl (.cons rfl (.nil))) rfl fun i s hx ih => ?_
    have hm1 := meltRefl (g := g)
    have hla := rdR_le o (cells.take i)
    have htl : (cells.take i).length ≤ cells.length := List.length_take_le' ..
    refine S.seq (S.seq (S.region rfl ?_))
    refine O.op (.p rfl) (.mv rfl) ?_
    refine O.op (.p rfl) (.mv rfl) ?_
    refine O.op (.p rfl) (.nilCheck rfl) ?_
    refine O.op (.p rfl) (.fieldAddr FactRdisk1.fld102x1 rfl) ?_
    refine O.op (.p rfl) (.loadAt FactRdisk1.flat100 rfl (ho.drop 1) rfl) ?_
    refine O.op (.p rfl) (.len rfl Go.Proofs.Tryz.underlying100 rfl) ?_
    refine O.op (.p rfl) (.lss rfl rfl) ?_
    refine O.nil ?_
    first | refine S.condD rfl (fun h20 => ?_) (fun h20 => ?_) | refine S.condB rfl (fun h20 => ?_) (fun h20 => ?_)
    · have hi : i < cells.length := by omega
      have ht : cells.take (i + 1) = cells.take i ++ [cells[i]] := List.take_succ_eq_append_getElem hi
      have e1 := rdR_snoc o (cells.take i) cells[i]
      rw [← ht] at e1
      by_cases hq : cells[i].1 = o
      ·
        rw [if_pos hq] at e1
        have el : (rdR o (cells.take i)).length + 1 = (rdR o (cells.take (i + 1))).length := by rw [e1, List.length_append]; rfl
        refine S.skip (S.seq (S.block (S.seq (S.region rfl ?_))))
        refine O.op (.p rfl) (.mv rfl) ?_
        refine O.op (.p rfl) (.nilCheck rfl) ?_
        refine O.op (.p rfl) (.fieldAddr FactRdisk1.fld102x1 rfl) ?_
        refine O.op (.p rfl) (.loadAt FactRdisk1.flat100 rfl (ho.drop 1) rfl) ?_
        refine O.op (.p rfl) (.mv rfl) ?_
        refine O.idx' (.p rfl) Go.Proofs.Tryz.underlying100 FactRdisk1.size142 rfl rfl rfl (hc) (by decide) (by first | omega | (simp; done) | (simp; omega) | decide) (fun p28 cs28 hp28 hr28 => ?_)
        obtain ⟨rfl, _, _⟩ := hr28
        rw [List.getElem_map] at hp28
        simp only [encC] at hp28
        refine O.op (.p rfl) (.fieldAddr FactRdisk1.fld142x0 rfl) ?_
        refine O.op (.p rfl) (.loadAt FactRdisk1.flat3 rfl hp28 rfl) ?_
        refine O.op (.p rfl) (.mv rfl) ?_
        refine O.op (.p rfl) (.eql rfl rfl) ?_
        refine O.slot 32 (v' := .bool true) rfl (congrArg Value.bool (by simp [hq])) ?_
        refine O.nil ?_
        refine S.condT rfl ?_
        refine S.region rfl ?_
        refine O.op (.p rfl) (.mv rfl) ?_
        refine O.op (.p rfl) (.mv rfl) ?_
        refine O.op (.p rfl) (.nilCheck rfl) ?_
        refine O.op (.p rfl) (.fieldAddr FactRdisk1.fld102x1 rfl) ?_
        refine O.op (.p rfl) (.loadAt FactRdisk1.flat100 rfl (ho.drop 1) rfl) ?_
        refine O.op (.p rfl) (.mv rfl) ?_
        refine O.idx' (.p rfl) Go.Proofs.Tryz.underlying100 FactRdisk1.size142 rfl rfl rfl (hc) (by decide) (by first | omega | (simp; done) | (simp; omega) | decide) (fun p39 cs39 hp39 hr39 => ?_)
        obtain ⟨rfl, _, _⟩ := hr39
        rw [List.getElem_map] at hp39
        simp only [encC] at hp39
        refine O.op (.p rfl) (.fieldAddr FactRdisk1.fld142x1 rfl) ?_
        refine O.op (.p rfl) (.loadAt FactRdisk1.flat5 rfl (hp39.drop 1) rfl) ?_
        refine O.opE (.p rfl) (.litP (T := Rp.u8) (ys := [_]) Go.Proofs.Tryz.underlying22 FactRdisk1.elem5 (by decide) rfl rfl ⟨rfl, trivial⟩ (by decide)) ?_
        rintro _ _ ⟨a42, c42, rfl, rfl⟩
        refine O.opE (.p rfl) (.appendO (T := Rp.u8) Go.Proofs.Tryz.underlying22 FactRdisk1.elem5 (by decide) rfl rfl (by repeat (first | exact Sel.here | apply Sel.there)) (by repeat (first | exact Sel.here | apply Sel.there)) (by first | omega | (simp; done) | (simp; omega) | decide) (by first | omega | (simp; done) | (simp; omega) | decide)) ?_
        rintro _ _ ⟨a43, c43, rfl, rfl⟩
        refine O.op (.p rfl) (.as rfl) ?_
        refine O.nil ?_
        refine S.inBlock (S.region rfl ?_)
        refine O.op (.p rfl) (.mv rfl) ?_
        refine O.op (.p rfl) (.add rfl rfl (IntWalk.i64_in _ (by omega))) ?_
        refine O.op (.p rfl) (.as rfl) ?_
        refine O.nil ?_
        simp only [List.length_singleton]
        rw [← e1, el]
        refine S.pk ?_ (S.weaken ?_ (ih (i + 1) ((a43, c43)) (by exact hi) (by omega)))
        · repeat (first | exact Picks.all | exact Picks.nil | (apply Picks.cons; focus (repeat (first | exact Sel.here | apply Sel.there))) | apply Picks.skip)
        repeat (first | exact Sub.nil | refine Sub.cons rfl ?_)
      ·
        rw [if_neg hq, List.append_nil] at e1
        refine S.skip (S.seq (S.block (S.seq (S.region rfl ?_))))
        refine O.op (.p rfl) (.mv rfl) ?_
        refine O.op (.p rfl) (.nilCheck rfl) ?_
        refine O.op (.p rfl) (.fieldAddr FactRdisk1.fld102x1 rfl) ?_
        refine O.op (.p rfl) (.loadAt FactRdisk1.flat100 rfl (ho.drop 1) rfl) ?_
        refine O.op (.p rfl) (.mv rfl) ?_
        refine O.idx' (.p rfl) Go.Proofs.Tryz.underlying100 FactRdisk1.size142 rfl rfl rfl (hc) (by decide) (by first | omega | (simp; done) | (simp; omega) | decide) (fun p28 cs28 hp28 hr28 => ?_)
        obtain ⟨rfl, _, _⟩ := hr28
        rw [List.getElem_map] at hp28
        simp only [encC] at hp28
        refine O.op (.p rfl) (.fieldAddr FactRdisk1.fld142x0 rfl) ?_
        refine O.op (.p rfl) (.loadAt FactRdisk1.flat3 rfl hp28 rfl) ?_
        refine O.op (.p rfl) (.mv rfl) ?_
        refine O.op (.p rfl) (.eql rfl rfl) ?_
        refine O.slot 32 (v' := .bool false) rfl (congrArg Value.bool (by simp [hq])) ?_
        refine O.nil ?_
        refine S.condF rfl ?_
        refine S.skip (S.inBlock (S.region rfl ?_))
        refine O.op (.p rfl) (.mv rfl) ?_
        refine O.op (.p rfl) (.add rfl rfl (IntWalk.i64_in _ (by omega))) ?_
        refine O.op (.p rfl) (.as rfl) ?_
        refine O.nil ?_
        rw [← e1]
        refine S.pk ?_ (S.weaken ?_ (ih (i + 1) (s) (by exact hi) (by omega)))
        · repeat (first | exact Picks.all | exact Picks.nil | (apply Picks.cons; focus (repeat (first | exact Sel.here | apply Sel.there))) | apply Picks.skip)
        repeat (first | exact Sub.nil | refine Sub.cons rfl ?_)
    · clear ih
      have hi : i = cells.length := by omega
      subst hi
      rw [List.take_length]
      refine S.exit rfl ?_
      refine S.seq (S.region rfl ?_)
      refine O.op (.p rfl) (.mv rfl) ?_
      refine O.op (.p rfl) (.as rfl) ?_
      refine O.op (.p rfl) (.as rfl) ?_
      refine O.nil ?_
      refine S.ret2 Go.Proofs.Tryz.results97 rfl rfl fun w hw => Holds.end_ hR hw ?_
      exact ⟨_, ⟨s.1, s.2, rfl, rfl⟩, by repeat (first | exact Picks.all | exact Picks.nil | (apply Picks.cons; focus (repeat (first | exact Sel.here | apply Sel.there))) | apply Picks.skip)⟩

end Go.Proofs.YtkkcpckgnfcncaaGreatDoor
