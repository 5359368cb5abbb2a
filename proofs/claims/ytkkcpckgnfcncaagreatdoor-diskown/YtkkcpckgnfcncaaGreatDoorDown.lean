import Derived.Test.YtkkcpckgnfcncaaGreatDoorDreado
import Derived.Test.YtkkcpckgnfcncaaGreatDoorKit15
open Go Go.Sp
set_option maxRecDepth 100000
attribute [local irreducible] obj Own OwnP
namespace Go.Proofs.YtkkcpckgnfcncaaGreatDoor
theorem FactDown.elem22 : elemIs Go.Proofs.Tryz.prog 22 1 24 [.slice none 0 0] := elemIs.mk (by kernel_rfl) rfl
theorem FactDown.elem36 : elemIs Go.Proofs.Tryz.prog 36 1 24 [.slice none 0 0] := elemIs.mk (by kernel_rfl) rfl
theorem FactDown.elem5 : elemIs Go.Proofs.Tryz.prog 5 1 1 [.int .u8 0] := elemIs.mk (by kernel_rfl) rfl
theorem FactDown.elem9 : elemIs Go.Proofs.Tryz.prog 9 1 16 [.string ⟨#[]⟩] := elemIs.mk (by kernel_rfl) rfl
theorem FactDown.ok10 : callable Go.Proofs.Tryz.prog 10 = true := by kernel_rfl
theorem FactDown.ok11 : callable Go.Proofs.Tryz.prog 11 = true := by kernel_rfl
theorem FactDown.ok12 : callable Go.Proofs.Tryz.prog 12 = true := by kernel_rfl
theorem FactDown.ok13 : callable Go.Proofs.Tryz.prog 13 = true := by kernel_rfl
theorem FactDown.ok14 : callable Go.Proofs.Tryz.prog 14 = true := by kernel_rfl
theorem FactDown.ok15 : callable Go.Proofs.Tryz.prog 15 = true := by kernel_rfl
theorem FactDown.ok16 : callable Go.Proofs.Tryz.prog 16 = true := by kernel_rfl
theorem FactDown.ok17 : callable Go.Proofs.Tryz.prog 17 = true := by kernel_rfl
theorem FactDown.ok18 : callable Go.Proofs.Tryz.prog 18 = true := by kernel_rfl
theorem FactDown.ok6 : callable Go.Proofs.Tryz.prog 6 = true := by kernel_rfl
theorem FactDown.ok7 : callable Go.Proofs.Tryz.prog 7 = true := by kernel_rfl
theorem FactDown.ok8 : callable Go.Proofs.Tryz.prog 8 = true := by kernel_rfl
theorem FactDown.ok9 : callable Go.Proofs.Tryz.prog 9 = true := by kernel_rfl

/-- what is lent is as it was -/
theorem KeptBytes_l {r : Fr} {va vl : Value} {xs : List UInt8} (hl : Arr Rp.u8 r vl xs) (hb : xs.length ≤ 100000000000000) :
    Con Go.Proofs.Tryz.prog 10 #[va, vl] r [LentP 5 va xs] (Ret fun v η => v = .bool true ∧ η = [LentP 5 va xs]) :=
  (Con.lent (bs := [_]) (Post := Ret fun v η => v = .bool true ∧ η = []) fun _ hm hd => by
    obtain ⟨a, c, h1, h2, h3⟩ := Sat.w1 (B := fun m => LentA m va xs) LentA.mono (fun _ x => x.lentA) hm
    subst h2
    refine (KeptBytes_c (h3.right hd) hl.left hb).mono fun e η h => ?_
    cases e with
    | returned v => obtain ⟨h4, h5⟩ := h; exact ⟨by rw [h4]; simp, h5⟩
    | panicked _ => exact h.elim
    | outgrown => exact h.elim).mono fun e η h => by
    cases e with
    | returned v => obtain ⟨_, ⟨h1, h2⟩, h3⟩ := h; subst h2; exact ⟨h1, h3⟩
    | panicked _ => obtain ⟨_, h, _⟩ := h; exact h.elim
    | outgrown => obtain ⟨_, h, _⟩ := h; exact h.elim
/-- of what is lent -/
theorem append_l {r : Fr} {d q1 q2 : Nat} {m : DiskM} {name b : List UInt8} {vb : Value} (hat : At r ⟨d, 0, none⟩ (dC q1 q2 m.room)) (ok : DOk m) (hn : name.length ≤ 9223372036854775807) (hbl : b.length ≤ 1000000000000) :
    Con Go.Proofs.Tryz.prog 9 #[.pointer (some ⟨d, 0, none⟩), .string (str name), vb] r [MapT q1 m.safe m.c1, MapT q2 m.loose m.c2, LentP 5 vb b]
      (Ret fun v η => v = .int .i64 (dAppE m name b) ∧ η = [MapT q1 (dAppM m name b).safe (dAppM m name b).c1, MapT q2 (dAppM m name b).loose (dAppM m name b).c2, LentP 5 vb b]) :=
  Con.mono (Con.lentW fun mm hm hd => append_g (At.left hat) ok ((Sat.w1 (B := fun m => Arr Rp.u8 m vb b) Arr.mono (fun _ x => x.lentA.arr) hm).right hd) hn hbl) (Ret.imp fun _ _ ⟨_, ⟨a, b⟩, c⟩ => ⟨a, by rw [c, b]; rfl⟩)
def ow0 : DiskM := ⟨[], 0, [], 0, 1000⟩
theorem ow_facts {b more : List UInt8} (h1 : b.length ≤ 300) (h2 : more.length ≤ 300) :
    dAppE ow0 [120] b = 0 ∧ DOk (dAppM ow0 [120] b) ∧ (dAppM ow0 [120] b).room = 1000 ∧ dAppE (dAppM ow0 [120] b) [120] more = 0 ∧
    ∃ m, m = dAppM (dAppM ow0 [120] b) [120] more ∧ DOk m ∧ m.room = 1000 ∧ m.safe = [([120], [], 0)] ∧ dRead m [120] = b ++ more ∧ dSyncE m [120] = 0 := by
  have ok := ok0 1000 (by decide) (by decide)
  have e1 : dAppE ow0 [120] b = 0 := by unfold dAppE; rw [if_pos (by decide), if_neg (by show ¬ (1000 : Int) < (0 : Nat) + (b.length : Int); omega)]
  have ok1 : DOk (dAppM ow0 [120] b) := dAppM_ok ok
  have r1 : (dAppM ow0 [120] b).room = 1000 := dAppM_room _ _ _
  have s1 : (dAppM ow0 [120] b).safe = [([120], [], 0)] := by unfold dAppM; rw [if_pos e1]; rfl
  have u1 : (dAppM ow0 [120] b).used ≤ 300 := by
    unfold dAppM; rw [if_pos e1]
    unfold dApp DiskM.used
    simp only
    have := sumT_put ow0.loose ow0.c2 [120] ((getT ow0.loose [120]).getD [] ++ b)
    rw [List.length_append] at this
    have g0 : ((getT ow0.loose [120]).getD []).length = 0 := rfl
    have g1 : sumT ow0.loose = 0 := rfl
    have g2 : sumT (putT ow0.safe ow0.c1 [120] ((getT ow0.safe [120]).getD [])) = 0 := rfl
    split <;> omega
  have e2 : dAppE (dAppM ow0 [120] b) [120] more = 0 := by unfold dAppE; rw [if_pos (by decide), if_neg (by rw [r1]; omega)]
  refine ⟨e1, ok1, r1, e2, _, rfl, dAppM_ok ok1, by rw [dAppM_room, r1], ?_, ?_, ?_⟩
  · rw [show ∀ m : DiskM, dAppM m [120] more = if dAppE m [120] more = 0 then dApp m [120] more else m from fun _ => rfl, if_pos e2]
    unfold dApp; simp only
    rw [s1]; rfl
  · rw [read_bytes (dAppM_ok ok1), appM_bytes e2, if_pos rfl, appM_bytes e1, if_pos rfl]; rfl
  · unfold dSyncE; rw [appM_has e2, if_pos rfl]; rfl
theorem names_one : namesT [([120], [], 0)] = [[120]] := sortT_sorted (l := [[120]]) (by simp)
theorem diskOwn_c {r : Fr} {va vm : Value} {b more : List UInt8} (ha : Arr Rp.u8 r va b) (hmo : Arr Rp.u8 r vm more) :
    Con Go.Proofs.Tryz.prog 3 #[va, vm] r [] (Ret fun v η => v = .bool true ∧ η = []) := by
  refine Con.of (n := 114) [va, vm] rfl Go.Proofs.Tryz.func3 rfl rfl rfl fun g hg R hR => ?_
  have ha := ha.mono hg
  have hmo := hmo.mono hg
  obtain ⟨a1, c1, rfl⟩ := ha.shape
  obtain ⟨a2, c2, rfl⟩ := hmo.shape
  refine S.seq (S.region rfl ?_)
  refine O.op (.p rfl) (.as rfl) ?_
  refine O.nil ?_
  refine S.seq (S.seq (S.region rfl ?_))
  refine O.op (.p rfl) (.mv rfl) ?_
  refine O.op (.p rfl) (.len rfl Go.Proofs.Tryz.underlying22 rfl) ?_
  refine O.op (.p rfl) (.gtr rfl rfl) ?_
  refine O.op (.p rfl) (.mv rfl) ?_
  first | refine O.caseD 18 rfl (fun h18 => ?_) (fun h18 => ?_) | refine O.caseB 18 rfl (fun h18 => ?_) (fun h18 => ?_)
  · refine O.opN rfl rfl rfl ?_
    refine O.opN rfl rfl rfl ?_
    refine O.opN rfl rfl rfl ?_
    refine O.op (.p rfl) (.pickT rfl rfl) ?_
    refine O.nil ?_
    refine S.condT rfl ?_
    refine S.seq (S.region rfl ?_)
    refine O.call0 (.p rfl) rfl FactDown.ok6 rfl rfl (awake_c) ?_
    rintro v23 _ ⟨rfl, rfl⟩
    try simp only [List.cons_append, List.nil_append, List.append_nil]
    refine O.op (.p rfl) (.as rfl) ?_
    refine O.nil ?_
    refine S.ret Go.Proofs.Tryz.results3 rfl fun w hw => Holds.end_ hR hw ?_
    exact ⟨_, ⟨rfl, rfl⟩, by repeat (first | exact Picks.all | exact Picks.nil | (apply Picks.cons; focus (repeat (first | exact Sel.here | apply Sel.there))) | apply Picks.skip)⟩
  · refine O.op (.g rfl rfl) (.mv rfl) ?_
    refine O.op (.g rfl rfl) (.len rfl Go.Proofs.Tryz.underlying22 rfl) ?_
    refine O.op (.g rfl rfl) (.gtr rfl rfl) ?_
    refine O.op (.p rfl) (.pickF rfl rfl) ?_
    refine O.nil ?_
    first | refine S.condD rfl (fun h22 => ?_) (fun h22 => ?_) | refine S.condB rfl (fun h22 => ?_) (fun h22 => ?_)
    · refine S.seq (S.region rfl ?_)
      refine O.call0 (.p rfl) rfl FactDown.ok6 rfl rfl (awake_c) ?_
      rintro v23 _ ⟨rfl, rfl⟩
      try simp only [List.cons_append, List.nil_append, List.append_nil]
      refine O.op (.p rfl) (.as rfl) ?_
      refine O.nil ?_
      refine S.ret Go.Proofs.Tryz.results3 rfl fun w hw => Holds.end_ hR hw ?_
      exact ⟨_, ⟨rfl, rfl⟩, by repeat (first | exact Picks.all | exact Picks.nil | (apply Picks.cons; focus (repeat (first | exact Sel.here | apply Sel.there))) | apply Picks.skip)⟩
    · have hl1 : b.length ≤ 300 := by omega
      have hl2 : more.length ≤ 300 := by omega
      obtain ⟨e1, ok1, r1, e2, m, hmm, ok2, r2, s2, rd, se⟩ := ow_facts hl1 hl2
      have ok0' := ok0 1000 (by decide) (by decide)
      refine S.skip (S.seq (S.region rfl ?_))
      refine O.call0 (.p rfl) rfl FactDown.ok7 rfl rfl (newR_c (room := 1000) (by decide)) ?_
      rintro v24 _ ⟨d24, q124, q224, rfl, rfl⟩
      try simp only [List.cons_append, List.nil_append, List.append_nil]
      refine O.frzO (by repeat (first | exact Sel.here | apply Sel.there)) fun g hs hm hat => ?_
      replace hg := Fr.sub_trans hg hs
      replace hR := melted hR hm
      try replace ha := ha.mono hs
      try replace hmo := hmo.mono hs
      clear hs hm
      refine O.op (.p rfl) (.as rfl) ?_
      refine O.nil ?_
      refine S.seq (S.region rfl ?_)
      refine O.op (.p rfl) (.mv rfl) ?_
      refine O.call0 (.p rfl) rfl FactDown.ok8 rfl rfl ((LentBytes_c ha (by omega))) ?_
      rintro v26 _ ⟨a26, c26, rfl, rfl⟩
      try simp only [List.cons_append, List.nil_append, List.append_nil]
      refine O.op (.p rfl) (.mv rfl) ?_
      refine O.call0 (.p rfl) rfl FactDown.ok8 rfl rfl ((LentBytes_c hmo (by omega))) ?_
      rintro v28 _ ⟨a28, c28, rfl, rfl⟩
      try simp only [List.cons_append, List.nil_append, List.append_nil]
      refine O.op (.p rfl) (.as rfl) ?_
      refine O.op (.p rfl) (.as rfl) ?_
      refine O.nil ?_
      refine S.seq (S.seq (S.region rfl ?_))
      refine O.op (.p rfl) (.mv rfl) ?_
      refine O.op (.p rfl) (.mv rfl) ?_
      refine O.callSs (.p rfl) rfl FactDown.ok9 rfl rfl (by repeat (first | exact Sels.nil | (apply Sels.cons; focus (repeat (first | exact Sel.here | apply Sel.there))))) (append_l (m := ow0) (name := [120]) (b := b) hat ok0' (by decide) (by omega)) ?_
      rintro v31 _ ⟨rfl, rfl⟩
      try simp only [List.cons_append, List.nil_append, List.append_nil]
      rw [e1]
      refine O.op (.p rfl) (.neq rfl rfl) ?_
      refine O.slot 32 (v' := .bool false) rfl (congrArg Value.bool (by rfl)) ?_
      refine O.op (.p rfl) (.mv rfl) ?_
      refine O.op (.g rfl rfl) (.mv rfl) ?_
      refine O.op (.g rfl rfl) (.mv rfl) ?_
      refine O.callSs (.g rfl rfl) rfl FactDown.ok10 rfl rfl (by repeat (first | exact Sels.nil | (apply Sels.cons; focus (repeat (first | exact Sel.here | apply Sel.there))))) (KeptBytes_l ha (by omega)) ?_
      rintro v36 _ ⟨rfl, rfl⟩
      try simp only [List.cons_append, List.nil_append, List.append_nil]
      refine O.slot 36 (v' := .bool true) rfl (congrArg Value.bool (by first | decide | simp)) ?_
      refine O.op (.g rfl rfl) (.not rfl) ?_
      refine O.op (.p rfl) (.pickF rfl rfl) ?_
      refine O.op (.p rfl) (.mv rfl) ?_
      refine O.op (.g rfl rfl) (.mv rfl) ?_
      refine O.op (.g rfl rfl) (.mv rfl) ?_
      refine O.callSs (.g rfl rfl) rfl FactDown.ok9 rfl rfl (by repeat (first | exact Sels.nil | (apply Sels.cons; focus (repeat (first | exact Sel.here | apply Sel.there))))) (append_l (m := dAppM ow0 [120] b) (name := [120]) (b := more) (by rw [r1]; exact hat) ok1 (by decide) (by omega)) ?_
      rintro v42 _ ⟨rfl, rfl⟩
      try simp only [List.cons_append, List.nil_append, List.append_nil]
      rw [e2, ← hmm]
      refine O.op (.g rfl rfl) (.neq rfl rfl) ?_
      refine O.slot 43 (v' := .bool false) rfl (congrArg Value.bool (by rfl)) ?_
      refine O.op (.p rfl) (.pickF rfl rfl) ?_
      refine O.op (.p rfl) (.mv rfl) ?_
      refine O.op (.g rfl rfl) (.mv rfl) ?_
      refine O.op (.g rfl rfl) (.mv rfl) ?_
      refine O.callSs (.g rfl rfl) rfl FactDown.ok10 rfl rfl (by repeat (first | exact Sels.nil | (apply Sels.cons; focus (repeat (first | exact Sel.here | apply Sel.there))))) (KeptBytes_l hmo (by omega)) ?_
      rintro v48 _ ⟨rfl, rfl⟩
      try simp only [List.cons_append, List.nil_append, List.append_nil]
      refine O.slot 48 (v' := .bool true) rfl (congrArg Value.bool (by first | decide | simp)) ?_
      refine O.op (.g rfl rfl) (.not rfl) ?_
      refine O.op (.p rfl) (.pickF rfl rfl) ?_
      refine O.nil ?_
      refine S.condF rfl ?_
      refine S.skip (S.seq (S.region rfl ?_))
      refine O.op (.p rfl) (.mv rfl) ?_
      refine O.callS (.p rfl) rfl FactDown.ok11 rfl rfl (by repeat (first | exact Sel.here | apply Sel.there)) (OverBytes_c (by omega)) ?_
      rintro v52 _ ⟨rfl, rfl⟩
      try simp only [List.cons_append, List.nil_append, List.append_nil]
      refine O.nil ?_
      refine S.seq (S.region rfl ?_)
      refine O.op (.p rfl) (.mv rfl) ?_
      refine O.callS (.p rfl) rfl FactDown.ok11 rfl rfl (by repeat (first | exact Sel.here | apply Sel.there)) (OverBytes_c (by omega)) ?_
      rintro v54 _ ⟨rfl, rfl⟩
      try simp only [List.cons_append, List.nil_append, List.append_nil]
      refine O.nil ?_
      refine S.seq (S.region rfl ?_)
      refine O.op (.p rfl) (.mv rfl) ?_
      refine O.call0 (.p rfl) rfl FactDown.ok12 rfl rfl (CopyBytes_c (by first | assumption | exact Arr.mono hg (by assumption) | exact Arr.left (by assumption) | exact Arr.left (Arr.mono hg (by assumption))) (by first | omega | (simp; done) | (simp; omega) | decide)) ?_
      rintro v56 _ ⟨a56, c56, rfl, rfl⟩
      try simp only [List.cons_append, List.nil_append, List.append_nil]
      refine O.op (.p rfl) (.mv rfl) ?_
      refine O.opE (.p rfl) (.appendP (T := Rp.u8) pure_u8 Go.Proofs.Tryz.underlying22 FactDown.elem5 (by decide) rfl rfl (by repeat (first | exact Sel.here | apply Sel.there)) (by first | assumption | exact Arr.mono hg (by assumption) | exact Arr.left (by assumption) | exact Arr.left (Arr.mono hg (by assumption))) (by first | omega | (simp; done) | (simp; omega) | decide) (by first | omega | (simp; done) | (simp; omega) | decide)) ?_
      rintro _ _ ⟨a58, c58, rfl, rfl⟩
      refine O.frzA (by repeat (first | exact Sel.here | apply Sel.there)) fun g hs hm ha58 => ?_
      replace hg := Fr.sub_trans hg hs
      replace hR := melted hR hm
      try replace ha := ha.mono hs
      try replace hmo := hmo.mono hs
      try replace hat := hat.mono hs
      clear hs hm
      refine O.op (.p rfl) (.as rfl) ?_
      refine O.nil ?_
      refine S.seq ?_
      have hat2 : At g.h ⟨d24, 0, none⟩ (dC q124 q224 m.room) := by rw [r2]; exact hat
      refine S.region rfl ?_
      refine O.op (.p rfl) (.mv rfl) ?_
      refine O.callSs (.p rfl) rfl FactDown.ok13 rfl rfl (by repeat (first | exact Sels.nil | (apply Sels.cons; focus (repeat (first | exact Sel.here | apply Sel.there))))) (read_o (m := m) (name := [120]) hat2 ok2) ?_
      rintro v61 _ ⟨a61, c61, rfl, rfl⟩
      try simp only [List.cons_append, List.nil_append, List.append_nil]
      simp only [rd, se]
      refine O.op (.p rfl) (.mv rfl) ?_
      refine O.op (.p rfl) (.extract rfl rfl) ?_
      refine O.op (.p rfl) (.extract rfl rfl) ?_
      refine O.op (.p rfl) (.as rfl) ?_
      refine O.op (.p rfl) (.as rfl) ?_
      refine O.nil ?_
      refine S.seq (S.region rfl ?_)
      refine O.op (.p rfl) (.mv rfl) ?_
      refine O.callSs (.p rfl) rfl FactDown.ok13 rfl rfl (by repeat (first | exact Sels.nil | (apply Sels.cons; focus (repeat (first | exact Sel.here | apply Sel.there))))) (read_o (m := m) (name := [120]) hat2 ok2) ?_
      rintro v66 _ ⟨a66, c66, rfl, rfl⟩
      try simp only [List.cons_append, List.nil_append, List.append_nil]
      simp only [rd, se]
      refine O.op (.p rfl) (.mv rfl) ?_
      refine O.op (.p rfl) (.extract rfl rfl) ?_
      refine O.op (.p rfl) (.extract rfl rfl) ?_
      refine O.op (.p rfl) (.as rfl) ?_
      refine O.op (.p rfl) (.as rfl) ?_
      refine O.nil ?_
      refine S.seq (S.seq (S.region rfl ?_))
      refine O.op (.p rfl) (.mv rfl) ?_
      refine O.op (.p rfl) (.neq rfl rfl) ?_
      refine O.slot 70 (v' := .bool false) rfl (congrArg Value.bool (by rfl)) ?_
      refine O.op (.p rfl) (.mv rfl) ?_
      refine O.op (.g rfl rfl) (.mv rfl) ?_
      refine O.op (.g rfl rfl) (.neq rfl rfl) ?_
      refine O.slot 73 (v' := .bool false) rfl (congrArg Value.bool (by rfl)) ?_
      refine O.op (.p rfl) (.pickF rfl rfl) ?_
      refine O.op (.p rfl) (.mv rfl) ?_
      refine O.op (.g rfl rfl) (.mv rfl) ?_
      refine O.op (.g rfl rfl) (.mv rfl) ?_
      refine O.callB (.g rfl rfl) rfl FactDown.ok14 rfl rfl (bs := [OwnP Rp.u8 5 (.slice a61 (b ++ more).length c61) (b ++ more)]) (by repeat (first | exact Sels.nil | (apply Sels.cons; focus (repeat (first | exact Sel.here | apply Sel.there))))) (fun m hm hd => SameBytes_c (hm.arr.right hd) ha58.left) ?_
      rintro v78 _ ⟨rfl, rfl⟩
      try simp only [List.cons_append, List.nil_append, List.append_nil]
      refine O.slot 78 (v' := .bool true) rfl (congrArg Value.bool (by simp)) ?_
      refine O.op (.g rfl rfl) (.not rfl) ?_
      refine O.op (.p rfl) (.pickF rfl rfl) ?_
      refine O.op (.p rfl) (.mv rfl) ?_
      refine O.op (.g rfl rfl) (.mv rfl) ?_
      refine O.op (.g rfl rfl) (.mv rfl) ?_
      refine O.opE (.g rfl rfl) (.litP (T := Rp.val) (ys := [_, _]) Go.Proofs.Tryz.underlying34 FactDown.elem22 (by decide) rfl rfl ⟨⟨rfl, rfl⟩, ⟨rfl, rfl⟩, trivial⟩ (by decide)) ?_
      rintro _ _ ⟨a84, c84, rfl, rfl⟩
      refine O.frzA (by repeat (first | exact Sel.here | apply Sel.there)) fun g hs hm ha84 => ?_
      replace hg := Fr.sub_trans hg hs
      replace hR := melted hR hm
      try replace ha := ha.mono hs
      try replace hmo := hmo.mono hs
      try replace hat := hat.mono hs
      try replace ha58 := ha58.mono hs
      try replace hat2 := hat2.mono hs
      clear hs hm
      refine O.each0 (OwnP Rp.u8 5) ?_
      refine O.each (A := OwnP Rp.u8 5) (b := .slice a61 (b ++ more).length c61) (a := b ++ more) (by repeat (first | exact Sel.here | apply Sel.there)) (by repeat (first | exact Sel.here | apply Sel.there)) ?_
      refine O.each (A := OwnP Rp.u8 5) (b := .slice a66 (b ++ more).length c66) (a := b ++ more) (by repeat (first | exact Sel.here | apply Sel.there)) (by repeat (first | exact Sel.here | apply Sel.there)) ?_
      simp only [List.nil_append, List.cons_append]
      refine O.callSs (.g rfl rfl) rfl FactDown.ok15 rfl rfl (by repeat (first | exact Sels.nil | (apply Sels.cons; focus (repeat (first | exact Sel.here | apply Sel.there))))) (ApartBytes_c ha84 (by simp; omega) (by simp)) ?_
      rintro v85 _ ⟨rfl, rfl⟩
      try simp only [List.cons_append, List.nil_append, List.append_nil]
      refine O.op (.g rfl rfl) (.not rfl) ?_
      refine O.op (.p rfl) (.pickF rfl rfl) ?_
      refine O.op (.p rfl) (.mv rfl) ?_
      refine O.op (.g rfl rfl) (.mv rfl) ?_
      refine O.callSs (.g rfl rfl) rfl FactDown.ok17 rfl rfl (by repeat (first | exact Sels.nil | (apply Sels.cons; focus (repeat (first | exact Sel.here | apply Sel.there))))) (list_g hat2 ok2 (by rw [s2]; simp) (by rw [s2]; simp)) ?_
      rintro v90 _ ⟨a90, n90, rfl, rfl⟩
      try simp only [List.cons_append, List.nil_append, List.append_nil]
      rw [show namesT m.safe = [[120]] from by rw [s2, names_one]]
      refine O.op (.g rfl rfl) (.mv rfl) ?_
      refine O.callSs (.g rfl rfl) rfl FactDown.ok17 rfl rfl (by repeat (first | exact Sels.nil | (apply Sels.cons; focus (repeat (first | exact Sel.here | apply Sel.there))))) (list_g hat2 ok2 (by rw [s2]; simp) (by rw [s2]; simp)) ?_
      rintro v92 _ ⟨a92, n92, rfl, rfl⟩
      try simp only [List.cons_append, List.nil_append, List.append_nil]
      rw [show namesT m.safe = [[120]] from by rw [s2, names_one]]
      refine O.opE (.g rfl rfl) (.litP (T := Rp.val) (ys := [_, _]) Go.Proofs.Tryz.underlying38 FactDown.elem36 (by decide) rfl rfl ⟨⟨rfl, rfl⟩, ⟨rfl, rfl⟩, trivial⟩ (by decide)) ?_
      rintro _ _ ⟨a93, c93, rfl, rfl⟩
      refine O.frzA (by repeat (first | exact Sel.here | apply Sel.there)) fun g hs hm ha93 => ?_
      replace hg := Fr.sub_trans hg hs
      replace hR := melted hR hm
      try replace ha := ha.mono hs
      try replace hmo := hmo.mono hs
      try replace hat := hat.mono hs
      try replace ha58 := ha58.mono hs
      try replace hat2 := hat2.mono hs
      try replace ha84 := ha84.mono hs
      clear hs hm
      refine O.each0 (OwnP Rp.str 9) ?_
      refine O.each (A := OwnP Rp.str 9) (b := .slice a90 1 n90) (a := [[120]]) (by repeat (first | exact Sel.here | apply Sel.there)) (by repeat (first | exact Sel.here | apply Sel.there)) ?_
      refine O.each (A := OwnP Rp.str 9) (b := .slice a92 1 n92) (a := [[120]]) (by repeat (first | exact Sel.here | apply Sel.there)) (by repeat (first | exact Sel.here | apply Sel.there)) ?_
      simp only [List.nil_append, List.cons_append]
      refine O.callSs (.g rfl rfl) rfl FactDown.ok16 rfl rfl (by repeat (first | exact Sels.nil | (apply Sels.cons; focus (repeat (first | exact Sel.here | apply Sel.there))))) (ApartTexts_c ha93 (by simp) (by simp)) ?_
      rintro v94 _ ⟨rfl, rfl⟩
      try simp only [List.cons_append, List.nil_append, List.append_nil]
      refine O.op (.g rfl rfl) (.not rfl) ?_
      refine O.op (.p rfl) (.pickF rfl rfl) ?_
      refine O.nil ?_
      refine S.condF rfl ?_
      refine S.skip (S.seq (S.region rfl ?_))
      refine O.op (.p rfl) (.mv rfl) ?_
      refine O.callSs (.p rfl) rfl FactDown.ok13 rfl rfl (by repeat (first | exact Sels.nil | (apply Sels.cons; focus (repeat (first | exact Sel.here | apply Sel.there))))) (read_g (m := m) (name := [120]) hat2 ok2) ?_
      rintro v99 _ ⟨a99, c99, rfl, rfl⟩
      try simp only [List.cons_append, List.nil_append, List.append_nil]
      simp only [rd, se]
      refine O.frzW Sel.here fun g hs hm ha99 => ?_
      replace hg := Fr.sub_trans hg hs
      replace hR := melted hR hm
      try replace ha := ha.mono hs
      try replace hmo := hmo.mono hs
      try replace hat := hat.mono hs
      try replace ha58 := ha58.mono hs
      try replace hat2 := hat2.mono hs
      try replace ha84 := ha84.mono hs
      try replace ha93 := ha93.mono hs
      clear hs hm
      refine O.op (.p rfl) (.mv rfl) ?_
      refine O.op (.p rfl) (.extract rfl rfl) ?_
      refine O.op (.p rfl) (.extract rfl rfl) ?_
      refine O.op (.p rfl) (.as rfl) ?_
      refine O.op (.p rfl) (.as rfl) ?_
      refine O.nil ?_
      refine S.seq (S.region rfl ?_)
      refine O.op (.p rfl) (.mv rfl) ?_
      refine O.op (.p rfl) (.mv rfl) ?_
      refine O.call0 (.p rfl) rfl FactDown.ok14 rfl rfl (SameBytes_c (by first | assumption | exact Arr.mono hg (by assumption) | exact Arr.left (by assumption) | exact Arr.left (Arr.mono hg (by assumption))) (by first | assumption | exact Arr.mono hg (by assumption) | exact Arr.left (by assumption) | exact Arr.left (Arr.mono hg (by assumption)))) ?_
      rintro v104 _ ⟨rfl, rfl⟩
      try simp only [List.cons_append, List.nil_append, List.append_nil]
      refine O.slot 104 (v' := .bool true) rfl (congrArg Value.bool (by simp)) ?_
      refine O.op (.p rfl) (.mv rfl) ?_
      refine O.op (.g rfl rfl) (.mv rfl) ?_
      refine O.callSs (.g rfl rfl) rfl FactDown.ok17 rfl rfl (by repeat (first | exact Sels.nil | (apply Sels.cons; focus (repeat (first | exact Sel.here | apply Sel.there))))) (list_g hat2 ok2 (by rw [s2]; simp) (by rw [s2]; simp)) ?_
      rintro v107 _ ⟨a107, n107, rfl, rfl⟩
      try simp only [List.cons_append, List.nil_append, List.append_nil]
      rw [show namesT m.safe = [[120]] from by rw [s2, names_one]]
      refine O.frzA (by repeat (first | exact Sel.here | apply Sel.there)) fun g hs hm ha107 => ?_
      replace hg := Fr.sub_trans hg hs
      replace hR := melted hR hm
      try replace ha := ha.mono hs
      try replace hmo := hmo.mono hs
      try replace hat := hat.mono hs
      try replace ha58 := ha58.mono hs
      try replace hat2 := hat2.mono hs
      try replace ha84 := ha84.mono hs
      try replace ha93 := ha93.mono hs
      try replace ha99 := ha99.mono hs
      clear hs hm
      refine O.opE (.g rfl rfl) (.litP (T := Rp.str) (ys := [_]) Go.Proofs.Tryz.underlying36 FactDown.elem9 (by decide) rfl rfl ⟨⟨rfl, by first | omega | (simp; done) | (simp; omega) | decide⟩, trivial⟩ (by decide)) ?_
      rintro _ _ ⟨a108, c108, rfl, rfl⟩
      refine O.frzA (by repeat (first | exact Sel.here | apply Sel.there)) fun g hs hm ha108 => ?_
      replace hg := Fr.sub_trans hg hs
      replace hR := melted hR hm
      try replace ha := ha.mono hs
      try replace hmo := hmo.mono hs
      try replace hat := hat.mono hs
      try replace ha58 := ha58.mono hs
      try replace hat2 := hat2.mono hs
      try replace ha84 := ha84.mono hs
      try replace ha93 := ha93.mono hs
      try replace ha99 := ha99.mono hs
      try replace ha107 := ha107.mono hs
      clear hs hm
      refine O.call0 (.g rfl rfl) rfl FactDown.ok18 rfl rfl (SameTexts_c (by first | assumption | exact Arr.mono hg (by assumption) | exact Arr.left (by assumption) | exact Arr.left (Arr.mono hg (by assumption))) (by first | assumption | exact Arr.mono hg (by assumption) | exact Arr.left (by assumption) | exact Arr.left (Arr.mono hg (by assumption)))) ?_
      rintro v109 _ ⟨rfl, rfl⟩
      try simp only [List.cons_append, List.nil_append, List.append_nil]
      refine O.slot 109 (v' := .bool true) rfl (congrArg Value.bool (by rfl)) ?_
      refine O.op (.p rfl) (.pickT rfl rfl) ?_
      refine O.op (.p rfl) (.mv rfl) ?_
      refine O.call0 (.g rfl rfl) rfl FactDown.ok6 rfl rfl (awake_c) ?_
      rintro v112 _ ⟨rfl, rfl⟩
      try simp only [List.cons_append, List.nil_append, List.append_nil]
      refine O.op (.p rfl) (.pickT rfl rfl) ?_
      refine O.op (.p rfl) (.as rfl) ?_
      refine O.nil ?_
      refine S.ret Go.Proofs.Tryz.results3 rfl fun w hw => Holds.end_ hR hw ?_
      exact ⟨_, ⟨rfl, rfl⟩, by repeat (first | exact Picks.all | exact Picks.nil | (apply Picks.cons; focus (repeat (first | exact Sel.here | apply Sel.there))) | apply Picks.skip)⟩

end Go.Proofs.YtkkcpckgnfcncaaGreatDoor
