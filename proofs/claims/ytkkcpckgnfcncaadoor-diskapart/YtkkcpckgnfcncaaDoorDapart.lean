import Derived.Test.YtkkcpckgnfcncaaDoorDapart0
import Derived.Test.YtkkcpckgnfcncaaDoorSpLast
open Go Go.Sp
set_option maxRecDepth 100000
attribute [local irreducible] obj Own OwnP
namespace Go.Proofs.YtkkcpckgnfcncaaDoor
theorem FactDapart.elem25 : elemIs Go.Proofs.Tryd.prog 25 1 8 [.pointer none] := elemIs.mk (by kernel_rfl) rfl
theorem FactDapart.elem34 : elemIs Go.Proofs.Tryd.prog 34 1 8 [.int .i64 0] := elemIs.mk (by kernel_rfl) rfl
theorem FactDapart.flat25 : Go.Sp.flat1 Go.Proofs.Tryd.prog 25 = true := by kernel_rfl
theorem FactDapart.flat34 : Go.Sp.flat1 Go.Proofs.Tryd.prog 34 = true := by kernel_rfl
theorem FactDapart.flat54 : Go.Sp.flat1 Go.Proofs.Tryd.prog 54 = true := by kernel_rfl
theorem FactDapart.mixed : Go.Proofs.Tryd.prog.follows .mixedOrders = true := by kernel_rfl
theorem FactDapart.ok17 : callable Go.Proofs.Tryd.prog 17 = true := by kernel_rfl
theorem FactDapart.ok20 : callable Go.Proofs.Tryd.prog 20 = true := by kernel_rfl
theorem FactDapart.ok21 : callable Go.Proofs.Tryd.prog 21 = true := by kernel_rfl
theorem FactDapart.ok7 : callable Go.Proofs.Tryd.prog 7 = true := by kernel_rfl
theorem FactDapart.ok8 : callable Go.Proofs.Tryd.prog 8 = true := by kernel_rfl
theorem FactDapart.ok9 : callable Go.Proofs.Tryd.prog 9 = true := by kernel_rfl
theorem FactDapart.size25 : (Go.Proofs.Tryd.prog.info? 25).map (·.size) = some 1 := by kernel_rfl
theorem FactDapart.size33 : (Go.Proofs.Tryd.prog.info? 33).map (·.size) = some 5 := by kernel_rfl
theorem FactDapart.size34 : (Go.Proofs.Tryd.prog.info? 34).map (·.size) = some 1 := by kernel_rfl
theorem FactDapart.size54 : (Go.Proofs.Tryd.prog.info? 54).map (·.size) = some 1 := by kernel_rfl

theorem tx_in (c : UInt8) (l : List DeedT) (p : Nat) : ∀ e ∈ tx c l p, InI64 e := fun e he => by
  have := runV_in _ e he
  unfold InI64; omega
theorem rem_lo {i L M : Nat} (h : i < M) : Value.int .i64 (((i : Int) + (L : Int)).tmod ((L : Int) + (M : Int))) = .int .i64 ((i + L : Nat) : Int) := by
  refine congrArg _ ?_
  rw [Int.tmod_eq_of_lt (by omega) (by omega)]; omega
theorem rem_hi {i L M : Nat} (h : M ≤ i) (h2 : i < L + M) : Value.int .i64 (((i : Int) + (L : Int)).tmod ((L : Int) + (M : Int))) = .int .i64 ((i - M : Nat) : Int) := by
  refine congrArg _ ?_
  rw [show (i : Int) + (L : Int) = ((i - M : Nat) : Int) + ((L : Int) + (M : Int)) from by omega, Int.tmod_eq_emod_of_nonneg (by omega), Int.add_emod_right]
  exact Int.emod_eq_of_lt (by omega) (by omega)
theorem rem_two (i : Nat) : Value.int .i64 ((i : Int).tmod 2) = .int .i64 ((i % 2 : Nat) : Int) := by
  refine congrArg _ ?_
  rw [Int.tmod_eq_emod_of_nonneg (by omega)]; omega
theorem quo_two {i : Nat} (h : i ≤ 1000) : Value.int .i64 (IntKind.i64.wrap ((i : Int).tdiv 2)) = .int .i64 ((i / 2 : Nat) : Int) := by
  refine congrArg _ ?_
  rw [Int.tdiv_eq_ediv_of_nonneg (by omega), IntKind.wrap_i64]; omega
def Mn (L M mn : Nat) : Prop := mn = min L M
theorem min_val {L M mn : Nat} (h : Mn L M mn) : Value.int .i64 (if (M : Int) < (L : Int) then (M : Int) else (L : Int)) = .int .i64 (mn : Int) := by
  unfold Mn at h; refine congrArg _ ?_; split <;> omega
def Trn0 (L _M i p q : Nat) : Prop := p = min i L ∧ q = i - L
def Trn1 (_L M i p q : Nat) : Prop := q = min i M ∧ p = i - M
def Trn2 (L M i p q : Nat) : Prop := (i < 2 * min L M ∧ p = (i + 1) / 2 ∧ q = i / 2) ∨ (2 * min L M ≤ i ∧ M < L ∧ q = M ∧ p = i - M) ∨ (2 * min L M ≤ i ∧ L ≤ M ∧ p = L ∧ q = i - L)
theorem trn0_0 (L M : Nat) : Trn0 L M 0 0 0 := by unfold Trn0; omega
theorem trn1_0 (L M : Nat) : Trn1 L M 0 0 0 := by unfold Trn1; omega
theorem trn2_0 (L M : Nat) : Trn2 L M 0 0 0 := by unfold Trn2; omega
theorem trn0_x {L M i p q : Nat} (h : Trn0 L M i p q) (hi : i < L) : p = i ∧ p < L ∧ Trn0 L M (i + 1) (p + 1) q := by unfold Trn0 at *; omega
theorem trn0_y {L M i p q : Nat} (h : Trn0 L M i p q) (h1 : L ≤ i) (hi : i < L + M) : q = i - L ∧ q < M ∧ Trn0 L M (i + 1) p (q + 1) := by unfold Trn0 at *; omega
theorem trn1_y {L M i p q : Nat} (h : Trn1 L M i p q) (hi : i < M) : q = i ∧ q < M ∧ Trn1 L M (i + 1) p (q + 1) := by unfold Trn1 at *; omega
theorem trn1_x {L M i p q : Nat} (h : Trn1 L M i p q) (h1 : M ≤ i) (hi : i < L + M) : p = i - M ∧ p < L ∧ Trn1 L M (i + 1) (p + 1) q := by unfold Trn1 at *; omega
theorem trn2_ev {L M mn i p q : Nat} (h : Trn2 L M i p q) (hm : Mn L M mn) (h1 : i < 2 * mn) (h2 : i % 2 = 0) : p = i / 2 ∧ p < L ∧ Trn2 L M (i + 1) (p + 1) q := by unfold Trn2 at *; unfold Mn at hm; omega
theorem trn2_od {L M mn i p q : Nat} (h : Trn2 L M i p q) (hm : Mn L M mn) (h1 : i < 2 * mn) (h2 : i % 2 = 1) : q = i / 2 ∧ q < M ∧ Trn2 L M (i + 1) p (q + 1) := by unfold Trn2 at *; unfold Mn at hm; omega
theorem trn2_x {L M mn i p q : Nat} (h : Trn2 L M i p q) (hm : Mn L M mn) (h1 : 2 * mn ≤ i) (h2 : M < L) (hi : i < L + M) : p = i - mn ∧ p < L ∧ Trn2 L M (i + 1) (p + 1) q := by unfold Trn2 at *; unfold Mn at hm; omega
theorem trn2_y {L M mn i p q : Nat} (h : Trn2 L M i p q) (hm : Mn L M mn) (h1 : 2 * mn ≤ i) (h2 : L ≤ M) (hi : i < L + M) : q = i - mn ∧ q < M ∧ Trn2 L M (i + 1) p (q + 1) := by unfold Trn2 at *; unfold Mn at hm; omega
theorem trn0_end {L M i p q : Nat} (_ : Trn0 L M i p q) (h : i = L + M) (h1 : p ≤ L) (h2 : q ≤ M) (h3 : i = p + q) : p = L ∧ q = M := by omega
theorem trn1_end {L M i p q : Nat} (_ : Trn1 L M i p q) (h : i = L + M) (h1 : p ≤ L) (h2 : q ≤ M) (h3 : i = p + q) : p = L ∧ q = M := by omega
theorem trn2_end {L M i p q : Nat} (_ : Trn2 L M i p q) (h : i = L + M) (h1 : p ≤ L) (h2 : q ≤ M) (h3 : i = p + q) : p = L ∧ q = M := by omega
theorem six (i L M mn : Nat) : (i < L ∧ i < 2 * mn ∧ i % 2 = 0) ∨ (i < L ∧ i < 2 * mn ∧ i % 2 = 1) ∨ (i < L ∧ 2 * mn ≤ i ∧ M < L) ∨ (i < L ∧ 2 * mn ≤ i ∧ L ≤ M) ∨ (L ≤ i ∧ i < 2 * mn ∧ i % 2 = 0) ∨ (L ≤ i ∧ i < 2 * mn ∧ i % 2 = 1) ∨ (L ≤ i ∧ 2 * mn ≤ i ∧ M < L) ∨ (L ≤ i ∧ 2 * mn ≤ i ∧ L ≤ M) := by omega
set_option maxHeartbeats 4000000 in
theorem diskApart_c {r : Fr} {va vb : Value} {ls ms : List DeedT} (hal : Arr DeedR r va ls) (ham : Arr DeedR r vb ms) (hql : ∀ x ∈ ls, x.2.2.1.length ≤ 140737488355328 ∧ x.2.2.2.1.length ≤ 140737488355328) (hqm : ∀ x ∈ ms, x.2.2.1.length ≤ 140737488355328 ∧ x.2.2.2.1.length ≤ 140737488355328) :
    Con Go.Proofs.Tryd.prog 5 #[va, vb] r [] (Ret fun v η => v = .bool true ∧ η = []) := by
  refine Con.of (n := 175) [va, vb] rfl Go.Proofs.Tryd.func5 rfl rfl rfl fun g hg R hR => ?_
  have hal := hal.mono hg
  have ham := ham.mono hg
  obtain ⟨a1, c1, rfl⟩ := hal.shape
  obtain ⟨a2, c2, rfl⟩ := ham.shape
  refine S.seq (S.region rfl ?_)
  refine O.op (.p rfl) (.as rfl) ?_
  refine O.nil ?_
  refine S.seq (S.seq (S.region rfl ?_))
  refine O.call0 (.p rfl) rfl FactDapart.ok7 rfl rfl (awake_c) ?_
  rintro v16 _ ⟨rfl, rfl⟩
  try simp only [List.cons_append, List.nil_append, List.append_nil]
  refine O.op (.p rfl) (.not rfl) ?_
  refine O.nil ?_
  refine S.condF rfl ?_
  refine S.skip (S.seq (S.seq (S.region rfl ?_)))
  refine O.op (.p rfl) (.mv rfl) ?_
  refine O.call0 (.p rfl) rfl FactDapart.ok8 rfl rfl (light_c hal hql) ?_
  rintro v19 _ ⟨rfl, rfl⟩
  try simp only [List.cons_append, List.nil_append, List.append_nil]
  refine O.op (.p rfl) ((by first | exact .notD rfl | exact .not rfl)) ?_
  refine O.op (.p rfl) (.mv rfl) ?_
  first | refine O.caseD 21 rfl (fun h21 => ?_) (fun h21 => ?_) | refine O.caseB 21 rfl (fun h21 => ?_) (fun h21 => ?_)
  · refine O.opN rfl rfl rfl ?_
    refine O.opN rfl rfl rfl ?_
    refine O.opN rfl rfl rfl ?_
    refine O.op (.p rfl) (.pickT rfl rfl) ?_
    refine O.nil ?_
    refine S.condT rfl ?_
    refine S.seq (S.region rfl ?_)
    refine O.op (.p rfl) (.as rfl) ?_
    refine O.nil ?_
    refine S.ret Go.Proofs.Tryd.results5 rfl fun w hw => Holds.end_ hR hw ?_
    exact ⟨_, ⟨rfl, rfl⟩, by repeat (first | exact Picks.all | exact Picks.nil | (apply Picks.cons; focus (repeat (first | exact Sel.here | apply Sel.there))) | apply Picks.skip)⟩
  · have hli : lightB ls = true := by simpa using h21
    obtain ⟨hl80, hlx⟩ := light_all hli
    refine O.op (.g rfl rfl) (.mv rfl) ?_
    refine O.call0 (.g rfl rfl) rfl FactDapart.ok8 rfl rfl (light_c ham hqm) ?_
    rintro v23 _ ⟨rfl, rfl⟩
    try simp only [List.cons_append, List.nil_append, List.append_nil]
    refine O.op (.g rfl rfl) ((by first | exact .notD rfl | exact .not rfl)) ?_
    refine O.op (.p rfl) (.pickF rfl rfl) ?_
    refine O.nil ?_
    first | refine S.condD rfl (fun h25 => ?_) (fun h25 => ?_) | refine S.condB rfl (fun h25 => ?_) (fun h25 => ?_)
    · refine S.seq (S.region rfl ?_)
      refine O.op (.p rfl) (.as rfl) ?_
      refine O.nil ?_
      refine S.ret Go.Proofs.Tryd.results5 rfl fun w hw => Holds.end_ hR hw ?_
      exact ⟨_, ⟨rfl, rfl⟩, by repeat (first | exact Picks.all | exact Picks.nil | (apply Picks.cons; focus (repeat (first | exact Sel.here | apply Sel.there))) | apply Picks.skip)⟩
    · have hmi : lightB ms = true := by simpa using h25
      obtain ⟨hm80, hmx⟩ := light_all hmi
      refine S.skip (S.seq (S.region rfl ?_))
      refine O.call0 (.p rfl) rfl FactDapart.ok9 rfl rfl (newR_c (room := 1048576) (by decide)) ?_
      rintro v26 _ ⟨d26, q126, q226, rfl, rfl⟩
      try simp only [List.cons_append, List.nil_append, List.append_nil]
      refine O.frzO (by repeat (first | exact Sel.here | apply Sel.there)) fun g hs hm hat0 => ?_
      replace hg := Fr.sub_trans hg hs
      replace hR := melted hR hm
      try replace hal := hal.mono hs
      try replace ham := ham.mono hs
      clear hs hm
      refine O.call0 (.p rfl) rfl FactDapart.ok9 rfl rfl (newR_c (room := 1048576) (by decide)) ?_
      rintro v27 _ ⟨d27, q127, q227, rfl, rfl⟩
      try simp only [List.cons_append, List.nil_append, List.append_nil]
      refine O.frzO (by repeat (first | exact Sel.here | apply Sel.there)) fun g hs hm hat1 => ?_
      replace hg := Fr.sub_trans hg hs
      replace hR := melted hR hm
      try replace hal := hal.mono hs
      try replace ham := ham.mono hs
      try replace hat0 := hat0.mono hs
      clear hs hm
      refine O.call0 (.p rfl) rfl FactDapart.ok9 rfl rfl (newR_c (room := 1048576) (by decide)) ?_
      rintro v28 _ ⟨d28, q128, q228, rfl, rfl⟩
      try simp only [List.cons_append, List.nil_append, List.append_nil]
      refine O.frzO (by repeat (first | exact Sel.here | apply Sel.there)) fun g hs hm hat2 => ?_
      replace hg := Fr.sub_trans hg hs
      replace hR := melted hR hm
      try replace hal := hal.mono hs
      try replace ham := ham.mono hs
      try replace hat0 := hat0.mono hs
      try replace hat1 := hat1.mono hs
      clear hs hm
      refine O.opE (.p rfl) (.litP (T := Rp.val) (ys := [_, _, _]) Go.Proofs.Tryd.underlying48 FactDapart.elem25 (by decide) rfl rfl ⟨⟨rfl, rfl⟩, ⟨rfl, rfl⟩, ⟨rfl, rfl⟩, trivial⟩ (by decide)) ?_
      rintro _ _ ⟨a29, c29, rfl, rfl⟩
      refine O.frzA (by repeat (first | exact Sel.here | apply Sel.there)) fun g hs hm ha29 => ?_
      replace hg := Fr.sub_trans hg hs
      replace hR := melted hR hm
      try replace hal := hal.mono hs
      try replace ham := ham.mono hs
      try replace hat0 := hat0.mono hs
      try replace hat1 := hat1.mono hs
      try replace hat2 := hat2.mono hs
      clear hs hm
      refine O.op (.p rfl) (.as rfl) ?_
      refine O.nil ?_
      refine S.seq (S.region rfl ?_)
      refine O.opE (.p rfl) (.alloc (cs := [.slice none 0 0, .slice none 0 0, .slice none 0 0]) Go.Proofs.Tryd.zeroValue55 rfl) ?_
      rintro _ _ ⟨b6, rfl, rfl⟩
      refine O.nil ?_
      refine S.seq (S.seq (S.region rfl ?_))
      refine O.op (.p rfl) (.as rfl) ?_
      refine O.nil ?_
      refine S.block ?_
      refine S.objIs (b := b6) (cs' := [.slice none 0 0, .slice none 0 0, .slice none 0 0]) (by repeat (first | exact Sel.here | apply Sel.there)) rfl ?_
      refine S.pk (ζ := [obj b6 55 [.slice none 0 0, .slice none 0 0, .slice none 0 0], MapT q126 [] 0, MapT q226 [] 0, MapT q127 [] 0, MapT q227 [] 0, MapT q128 [] 0, MapT q228 [] 0]) (by repeat (first | exact Picks.all | exact Picks.nil | (apply Picks.cons; focus (repeat (first | exact Sel.here | apply Sel.there))) | apply Picks.skip)) ?_
      obtain ⟨mn, hme⟩ : ∃ mn, Mn ls.length ms.length mn := ⟨_, rfl⟩
      have hmn := min_val hme
      have hmb : mn ≤ ls.length ∧ mn ≤ ms.length := by unfold Mn at hme; omega
      refine S.unroll ?_
      refine S.seq (S.seq (S.region rfl ?_))
      refine O.op (.p rfl) (.mv rfl) ?_
      refine O.op (.p rfl) (.lss rfl rfl) ?_
      refine O.slot 31 (v' := .bool true) rfl (congrArg Value.bool (by rfl)) ?_
      refine O.nil ?_
      refine S.condT rfl ?_
      refine S.skip (S.seq (S.block (S.seq ?_)))
      refine S.regionJ (L := [0, 2, 1, 3]) (fun (s : (Option Addr × Nat) × (Option Addr × Nat)) => [(8, .slice s.1.1 0 s.1.2), (9, .slice s.2.1 0 s.2.2)]) [(0, _), (1, _), (5, _), (6, _), (7, _)] (fun (s : (Option Addr × Nat) × (Option Addr × Nat)) => [OwnP Rp.i64 34 (.slice s.1.1 0 s.1.2) (tx 120 ls 0), OwnP Rp.i64 34 (.slice s.2.1 0 s.2.2) (tx 121 ms 0), obj b6 55 [.slice none 0 0, .slice none 0 0, .slice none 0 0], MapT q126 [] 0, MapT q226 [] 0, MapT q127 [] 0, MapT q227 [] 0, MapT q128 [] 0, MapT q228 [] 0]) (.cons rfl (.cons rfl (.cons rfl (.cons rfl (.cons rfl (.nil)))))) FactDapart.mixed (by kernel_rfl) (fun kk key => ?_) (fun s => ?_)
      · refine OD.alt2 0 1 [2, 1, 3] [0, 2, 3] (by kernel_rfl) rfl rfl ?_ ?_
        · refine ODt.makeP0 (T := Rp.i64) (c := 0) (.p rfl) (by kernel_rfl) Go.Proofs.Tryd.underlying54 FactDapart.elem34 rfl rfl rfl rfl (by decide) (by decide) (fun a34 c34 => ?_)
          refine .quiet (.p rfl) rfl (fun _ => .as rfl) ?_
          refine OD.makeP0 (T := Rp.i64) (c := 0) (.p rfl) (by kernel_rfl) Go.Proofs.Tryd.underlying54 FactDapart.elem34 rfl rfl rfl rfl (by decide) (by decide) (fun a35 c35 => ?_)
          refine .quiet (.p rfl) rfl (fun _ => .as rfl) ?_
          refine .nil ?_
          refine S.pk (ζ := [OwnP Rp.i64 34 (.slice a34 0 c34) [], OwnP Rp.i64 34 (.slice a35 0 c35) [], obj b6 55 [.slice none 0 0, .slice none 0 0, .slice none 0 0], MapT q126 [] 0, MapT q226 [] 0, MapT q127 [] 0, MapT q227 [] 0, MapT q128 [] 0, MapT q228 [] 0]) (by repeat (first | exact Picks.all | exact Picks.nil | (apply Picks.cons; focus (repeat (first | exact Sel.here | apply Sel.there))) | apply Picks.skip)) ?_
          exact S.weaken (Sub.app (.cons rfl (.cons rfl (.nil))) (.cons rfl (.cons rfl (.cons rfl (.cons rfl (.cons rfl (.nil))))))) (key ((a34, c34), (a35, c35)))
        · refine ODt.makeP0 (T := Rp.i64) (c := 0) (.p rfl) (by kernel_rfl) Go.Proofs.Tryd.underlying54 FactDapart.elem34 rfl rfl rfl rfl (by decide) (by decide) (fun a35 c35 => ?_)
          refine OD.makeP0 (T := Rp.i64) (c := 0) (.p rfl) (by kernel_rfl) Go.Proofs.Tryd.underlying54 FactDapart.elem34 rfl rfl rfl rfl (by decide) (by decide) (fun a34 c34 => ?_)
          refine .quiet (.p rfl) rfl (fun _ => .as rfl) ?_
          refine .quiet (.p rfl) rfl (fun _ => .as rfl) ?_
          refine .nil ?_
          refine S.pk (ζ := [OwnP Rp.i64 34 (.slice a34 0 c34) [], OwnP Rp.i64 34 (.slice a35 0 c35) [], obj b6 55 [.slice none 0 0, .slice none 0 0, .slice none 0 0], MapT q126 [] 0, MapT q226 [] 0, MapT q127 [] 0, MapT q227 [] 0, MapT q128 [] 0, MapT q228 [] 0]) (by repeat (first | exact Picks.all | exact Picks.nil | (apply Picks.cons; focus (repeat (first | exact Sel.here | apply Sel.there))) | apply Picks.skip)) ?_
          exact S.weaken (Sub.app (.cons rfl (.cons rfl (.nil))) (.cons rfl (.cons rfl (.cons rfl (.cons rfl (.cons rfl (.nil))))))) (key ((a34, c34), (a35, c35)))
      · refine S.seq (S.seq (S.region rfl ?_))
        refine O.op (.p rfl) (.as rfl) ?_
        refine O.nil ?_
        refine S.block ?_
        refine S.loopK4 (ι := Nat) (κ := Nat × Nat) (υ := DiskM) (τ := (Option Addr × Nat) × (Option Addr × Nat)) (fun i pq D0 s => i ≤ ls.length + ms.length ∧ pq.1 ≤ ls.length ∧ pq.2 ≤ ms.length ∧ i = pq.1 + pq.2 ∧ (Trn0 ls.length ms.length i pq.1 pq.2) ∧ ApI ls ms pq.1 pq.2 D0) (fun i pq D0 s => [(10, .int .i64 (i : Int)), (8, .slice s.1.1 pq.1 s.1.2), (9, .slice s.2.1 pq.2 s.2.2)]) [(0, _), (1, _), (5, _), (6, _), (7, _)] (fun i pq D0 s => [OwnP Rp.i64 34 (.slice s.1.1 pq.1 s.1.2) (tx 120 ls pq.1), OwnP Rp.i64 34 (.slice s.2.1 pq.2 s.2.2) (tx 121 ms pq.2), obj b6 55 [.slice none 0 0, .slice none 0 0, .slice none 0 0], MapT q126 D0.safe D0.c1, MapT q226 D0.loose D0.c2, MapT q127 [] 0, MapT q227 [] 0, MapT q128 [] 0, MapT q228 [] 0]) (fun i pq D0 s => ls.length + ms.length - i) (0) ((0, 0)) (⟨[], 0, [], 0, 1048576⟩) (s) (by exact ⟨by omega, by simp, by simp, by simp, trn0_0 _ _, ApI.zero ls ms⟩) (.cons rfl (.cons rfl (.cons rfl (.nil)))) (.cons rfl (.cons rfl (.cons rfl (.cons rfl (.cons rfl (.nil)))))) rfl fun i pq D0 s hx ih => ?_
        have hm1 := meltRefl (g := g)
        obtain ⟨p, q⟩ := pq
        obtain ⟨hx1, hx2, hx3, hx4, hx5, ap0⟩ := hx
        simp only at hx2 hx3 hx4 hx5 ap0 ⊢
        have hatk0 : At g.h ⟨d26, 0, none⟩ (dC q126 q226 D0.room) := by rw [ap0.di.room]; exact hat0
        refine S.seq (S.seq (S.region rfl ?_))
        refine O.op (.p rfl) (.mv rfl) ?_
        refine O.op (.p rfl) (.mv rfl) ?_
        refine O.op (.p rfl) (.len rfl Go.Proofs.Tryd.underlying22 rfl) ?_
        refine O.op (.p rfl) (.mv rfl) ?_
        refine O.op (.p rfl) (.len rfl Go.Proofs.Tryd.underlying22 rfl) ?_
        refine O.op (.p rfl) (.add rfl rfl (IntWalk.i64_in _ (by omega))) ?_
        refine O.op (.p rfl) (.lss rfl rfl) ?_
        refine O.nil ?_
        first | refine S.condD rfl (fun h42 => ?_) (fun h42 => ?_) | refine S.condB rfl (fun h42 => ?_) (fun h42 => ?_)
        · have hi : i < ls.length + ms.length := by omega
          rcases Nat.lt_or_ge i ls.length with hf | hf
          ·
            obtain ⟨hvi, hvl, hnx⟩ := trn0_x hx5 hf
            obtain ⟨hb1, hb2⟩ := hlx ls[p] (List.getElem_mem (by omega))
            have htl := tx_len 120 ls (p := p) (by omega)
            refine S.skip (S.seq (S.block (S.seq (S.region rfl ?_))))
            refine O.op (.p rfl) (.mv rfl) ?_
            refine O.op (.p rfl) (.as rfl) ?_
            refine O.nil ?_
            refine S.seq (S.seq (S.region rfl ?_))
            refine O.op (.p rfl) (.mv rfl) ?_
            refine O.op (.p rfl) (.eql rfl rfl) ?_
            refine O.slot 47 (v' := .bool false) rfl (congrArg Value.bool (by rfl)) ?_
            refine O.nil ?_
            refine S.condF rfl ?_
            refine S.skip (S.seq (S.region rfl ?_))
            refine O.op (.p rfl) (.mv rfl) ?_
            refine O.op (.p rfl) (.mv rfl) ?_
            refine O.op (.p rfl) (.len rfl Go.Proofs.Tryd.underlying22 rfl) ?_
            refine O.op (.p rfl) (.lss rfl rfl) ?_
            refine O.slot 61 (v' := .bool true) rfl (congrArg Value.bool (by exact decide_eq_true (by omega))) ?_
            refine O.op (.p rfl) (.mv rfl) ?_
            refine O.op (.p rfl) (.as rfl) ?_
            refine O.op (.p rfl) (.as rfl) ?_
            refine O.nil ?_
            refine S.seq (S.seq (S.region rfl ?_))
            refine O.op (.p rfl) (.mv rfl) ?_
            refine O.op (.p rfl) (.not rfl) ?_
            refine O.nil ?_
            refine S.condF rfl ?_
            refine S.skip (S.seq (S.seq (S.region rfl ?_)))
            refine O.op (.p rfl) (.mv rfl) ?_
            refine O.op (.p rfl) (.eql rfl rfl) ?_
            refine O.slot 70 (v' := .bool false) rfl (congrArg Value.bool (by rfl)) ?_
            refine O.nil ?_
            refine S.condF rfl ?_
            refine S.skip (S.seq (S.region rfl ?_))
            refine O.op (.p rfl) (.mv rfl) ?_
            refine O.nil ?_
            refine S.condT rfl ?_
            refine S.regionD (L := [0, 1, 2, 3, 4, 5, 6, 7, 8, 9, 10, 11, 12, 13]) FactDapart.mixed (by kernel_rfl) ?_
            refine .quiet (.p rfl) rfl (fun _ => .mv rfl) ?_
            refine .quiet (.p rfl) rfl (fun _ => .mv rfl) ?_
            refine .quiet (.p rfl) rfl (fun _ => .mv rfl) ?_
            refine OD.idx' (.p rfl) Go.Proofs.Tryd.underlying48 FactDapart.size25 rfl rfl (show _ = (((0) : Nat) : Int) by omega) (ha29) (by decide) (by first | omega | (simp; done) | (simp; omega) | decide) (fun p100 cs100 hp100 hr100 => ?_)
            obtain ⟨rfl, _⟩ := hr100
            refine .quiet (.p rfl) rfl (fun _ => .loadAt FactDapart.flat25 rfl hp100 rfl) ?_
            refine OD.slot 101 (v' := .pointer (some ⟨d26, 0, none⟩)) rfl (by rfl) ?_
            refine .quiet (.p rfl) rfl (fun _ => .mv rfl) ?_
            refine .quiet (.p rfl) rfl (fun _ => .mv rfl) ?_
            refine OD.idx' (.p rfl) Go.Proofs.Tryd.underlying22 FactDapart.size33 rfl rfl (show _ = (((p) : Nat) : Int) by omega) (hal) (by decide) (by first | omega | (simp; done) | (simp; omega) | decide) (fun p104 cs104 hp104 hr104 => ?_)
            obtain ⟨a104, c104, rfl, hd104, hb1104, hb2104⟩ := DeedR.open hr104
            refine .quiet (.p rfl) rfl (fun _ => .loadAgg Go.Proofs.Tryd.isAgg33 (by kernel_rfl) rfl hp104) ?_
            refine OD.call0 (.p rfl) (by kernel_rfl) rfl FactDapart.ok20 rfl rfl ((mine_c (c := 120) (x := ls[p]) (by omega) (by omega))) ?_
            rintro v106 _ ⟨rfl, rfl⟩
            try simp only [List.cons_append, List.nil_append, List.append_nil]
            refine OD.callSs (.p rfl) (by kernel_rfl) rfl FactDapart.ok17 rfl rfl (by repeat (first | exact Sels.nil | (apply Sels.cons; focus (repeat (first | exact Sel.here | apply Sel.there))))) (does_g (x := mineD 120 ls[p]) hatk0 ap0.di.ok hd104 (by simp [mineD, lk]) (by simp [mineD, lk]) (Nat.le_trans (show (mineD 120 ls[p]).2.2.2.2.1.length ≤ 300 from hb1) (by decide))) ?_
            rintro v107 _ ⟨e107, m107, hst, rfl, rfl⟩
            try simp only [List.cons_append, List.nil_append, List.append_nil]
            obtain ⟨a2, htx⟩ := ap0.x (by omega) (by omega) hb1 hst
            have hie : InI64 e107 := tx_in 120 ls (p + 1) _ (by rw [htx]; simp)
            refine OD.litP (T := Rp.i64) (ys := [_]) (.p rfl) (by kernel_rfl) Go.Proofs.Tryd.underlying54 FactDapart.elem34 (by decide) rfl rfl ⟨⟨rfl, by first | assumption | (constructor <;> omega)⟩, trivial⟩ (by decide) (fun a108 c108 => ?_)
            refine OD.appendO (.p rfl) (by kernel_rfl) (T := Rp.i64) Go.Proofs.Tryd.underlying54 FactDapart.elem34 (by decide) rfl rfl (by repeat (first | exact Sel.here | apply Sel.there)) (by repeat (first | exact Sel.here | apply Sel.there)) (by first | omega | (simp; done) | (simp; omega) | decide) (by first | omega | (simp; done) | (simp; omega) | decide) (fun a109 c109 => ?_)
            refine .quiet (.p rfl) rfl (fun _ => .as rfl) ?_
            refine .nil ?_
            refine S.inBlock (S.region rfl ?_)
            refine O.op (.p rfl) (.mv rfl) ?_
            refine O.op (.p rfl) (.add rfl rfl (IntWalk.i64_in _ (by omega))) ?_
            refine O.op (.p rfl) (.as rfl) ?_
            refine O.nil ?_
            simp only [List.length_singleton]
            rw [htl, ← htx]
            refine S.pk ?_ (S.weaken ?_ (ih (i + 1) ((p + 1, q)) (m107) (((a109, c109), (s.2.1, s.2.2))) (by (refine ⟨by omega, by simp only; omega, by simp only; omega, by simp only; omega, hnx, a2⟩)) (by omega)))
            · repeat (first | exact Picks.all | exact Picks.nil | (apply Picks.cons; focus (repeat (first | exact Sel.here | apply Sel.there))) | apply Picks.skip)
            repeat (first | exact Sub.nil | refine Sub.cons rfl ?_)
          ·
            obtain ⟨hvi, hvl, hnx⟩ := trn0_y hx5 hf hi
            obtain ⟨hb1, hb2⟩ := hmx ms[q] (List.getElem_mem (by omega))
            have htl := tx_len 121 ms (p := q) (by omega)
            refine S.skip (S.seq (S.block (S.seq (S.region rfl ?_))))
            refine O.op (.p rfl) (.mv rfl) ?_
            refine O.op (.p rfl) (.as rfl) ?_
            refine O.nil ?_
            refine S.seq (S.seq (S.region rfl ?_))
            refine O.op (.p rfl) (.mv rfl) ?_
            refine O.op (.p rfl) (.eql rfl rfl) ?_
            refine O.slot 47 (v' := .bool false) rfl (congrArg Value.bool (by rfl)) ?_
            refine O.nil ?_
            refine S.condF rfl ?_
            refine S.skip (S.seq (S.region rfl ?_))
            refine O.op (.p rfl) (.mv rfl) ?_
            refine O.op (.p rfl) (.mv rfl) ?_
            refine O.op (.p rfl) (.len rfl Go.Proofs.Tryd.underlying22 rfl) ?_
            refine O.op (.p rfl) (.lss rfl rfl) ?_
            refine O.slot 61 (v' := .bool false) rfl (congrArg Value.bool (by exact decide_eq_false (by omega))) ?_
            refine O.op (.p rfl) (.mv rfl) ?_
            refine O.op (.p rfl) (.as rfl) ?_
            refine O.op (.p rfl) (.as rfl) ?_
            refine O.nil ?_
            refine S.seq (S.seq (S.region rfl ?_))
            refine O.op (.p rfl) (.mv rfl) ?_
            refine O.op (.p rfl) (.not rfl) ?_
            refine O.nil ?_
            refine S.condT rfl ?_
            refine S.region rfl ?_
            refine O.op (.p rfl) (.mv rfl) ?_
            refine O.op (.p rfl) (.mv rfl) ?_
            refine O.op (.p rfl) (.len rfl Go.Proofs.Tryd.underlying22 rfl) ?_
            refine O.op (.p rfl) (.sub rfl rfl (IntWalk.i64_in _ (by omega))) ?_
            refine O.op (.p rfl) (.as rfl) ?_
            refine O.nil ?_
            refine S.seq (S.seq (S.region rfl ?_))
            refine O.op (.p rfl) (.mv rfl) ?_
            refine O.op (.p rfl) (.eql rfl rfl) ?_
            refine O.slot 70 (v' := .bool false) rfl (congrArg Value.bool (by rfl)) ?_
            refine O.nil ?_
            refine S.condF rfl ?_
            refine S.skip (S.seq (S.region rfl ?_))
            refine O.op (.p rfl) (.mv rfl) ?_
            refine O.nil ?_
            refine S.condF rfl ?_
            refine S.regionD (L := [0, 1, 2, 3, 4, 5, 6, 7, 8, 9, 10, 11, 12, 13]) FactDapart.mixed (by kernel_rfl) ?_
            refine .quiet (.p rfl) rfl (fun _ => .mv rfl) ?_
            refine .quiet (.p rfl) rfl (fun _ => .mv rfl) ?_
            refine .quiet (.p rfl) rfl (fun _ => .mv rfl) ?_
            refine OD.idx' (.p rfl) Go.Proofs.Tryd.underlying48 FactDapart.size25 rfl rfl (show _ = (((0) : Nat) : Int) by omega) (ha29) (by decide) (by first | omega | (simp; done) | (simp; omega) | decide) (fun p113 cs113 hp113 hr113 => ?_)
            obtain ⟨rfl, _⟩ := hr113
            refine .quiet (.p rfl) rfl (fun _ => .loadAt FactDapart.flat25 rfl hp113 rfl) ?_
            refine OD.slot 114 (v' := .pointer (some ⟨d26, 0, none⟩)) rfl (by rfl) ?_
            refine .quiet (.p rfl) rfl (fun _ => .mv rfl) ?_
            refine .quiet (.p rfl) rfl (fun _ => .mv rfl) ?_
            refine OD.idx' (.p rfl) Go.Proofs.Tryd.underlying22 FactDapart.size33 rfl rfl (show _ = (((q) : Nat) : Int) by omega) (ham) (by decide) (by first | omega | (simp; done) | (simp; omega) | decide) (fun p117 cs117 hp117 hr117 => ?_)
            obtain ⟨a117, c117, rfl, hd117, hb1117, hb2117⟩ := DeedR.open hr117
            refine .quiet (.p rfl) rfl (fun _ => .loadAgg Go.Proofs.Tryd.isAgg33 (by kernel_rfl) rfl hp117) ?_
            refine OD.call0 (.p rfl) (by kernel_rfl) rfl FactDapart.ok20 rfl rfl ((mine_c (c := 121) (x := ms[q]) (by omega) (by omega))) ?_
            rintro v119 _ ⟨rfl, rfl⟩
            try simp only [List.cons_append, List.nil_append, List.append_nil]
            refine OD.callSs (.p rfl) (by kernel_rfl) rfl FactDapart.ok17 rfl rfl (by repeat (first | exact Sels.nil | (apply Sels.cons; focus (repeat (first | exact Sel.here | apply Sel.there))))) (does_g (x := mineD 121 ms[q]) hatk0 ap0.di.ok hd117 (by simp [mineD, lk]) (by simp [mineD, lk]) (Nat.le_trans (show (mineD 121 ms[q]).2.2.2.2.1.length ≤ 300 from hb1) (by decide))) ?_
            rintro v120 _ ⟨e120, m120, hst, rfl, rfl⟩
            try simp only [List.cons_append, List.nil_append, List.append_nil]
            obtain ⟨a2, htx⟩ := ap0.y (by omega) (by omega) hb1 hst
            have hie : InI64 e120 := tx_in 121 ms (q + 1) _ (by rw [htx]; simp)
            refine OD.litP (T := Rp.i64) (ys := [_]) (.p rfl) (by kernel_rfl) Go.Proofs.Tryd.underlying54 FactDapart.elem34 (by decide) rfl rfl ⟨⟨rfl, by first | assumption | (constructor <;> omega)⟩, trivial⟩ (by decide) (fun a121 c121 => ?_)
            refine OD.appendO (.p rfl) (by kernel_rfl) (T := Rp.i64) Go.Proofs.Tryd.underlying54 FactDapart.elem34 (by decide) rfl rfl (by repeat (first | exact Sel.here | apply Sel.there)) (by repeat (first | exact Sel.here | apply Sel.there)) (by first | omega | (simp; done) | (simp; omega) | decide) (by first | omega | (simp; done) | (simp; omega) | decide) (fun a122 c122 => ?_)
            refine .quiet (.p rfl) rfl (fun _ => .as rfl) ?_
            refine .nil ?_
            refine S.inBlock (S.region rfl ?_)
            refine O.op (.p rfl) (.mv rfl) ?_
            refine O.op (.p rfl) (.add rfl rfl (IntWalk.i64_in _ (by omega))) ?_
            refine O.op (.p rfl) (.as rfl) ?_
            refine O.nil ?_
            simp only [List.length_singleton]
            rw [htl, ← htx]
            refine S.pk ?_ (S.weaken ?_ (ih (i + 1) ((p, q + 1)) (m120) (((s.1.1, s.1.2), (a122, c122))) (by (refine ⟨by omega, by simp only; omega, by simp only; omega, by simp only; omega, hnx, a2⟩)) (by omega)))
            · repeat (first | exact Picks.all | exact Picks.nil | (apply Picks.cons; focus (repeat (first | exact Sel.here | apply Sel.there))) | apply Picks.skip)
            repeat (first | exact Sub.nil | refine Sub.cons rfl ?_)
        · clear ih
          obtain ⟨hp, hq⟩ := trn0_end hx5 (by omega) hx2 hx3 hx4
          clear hx1 hx2 hx3 hx4 hx5
          subst hp; subst hq
          have hl1 := tx_len 120 ls (Nat.le_refl _)
          have hl2 := tx_len 121 ms (Nat.le_refl _)
          obtain ⟨⟨a8, c8⟩, ⟨a9, c9⟩⟩ := s
          simp only
          refine S.pk (ζ := [OwnP Rp.i64 34 (.slice a9 ms.length c9) (tx 121 ms ms.length), OwnP Rp.i64 34 (.slice a8 ls.length c8) (tx 120 ls ls.length), obj b6 55 [.slice none 0 0, .slice none 0 0, .slice none 0 0], MapT q126 D0.safe D0.c1, MapT q226 D0.loose D0.c2, MapT q127 [] 0, MapT q227 [] 0, MapT q128 [] 0, MapT q228 [] 0]) (by repeat (first | exact Picks.all | exact Picks.nil | (apply Picks.cons; focus (repeat (first | exact Sel.here | apply Sel.there))) | apply Picks.skip)) ?_
          refine S.frzA (by repeat (first | exact Sel.here | apply Sel.there)) fun g hs hm htwo => ?_
          replace hg := Fr.sub_trans hg hs
          replace hR := melted hR hm
          try replace hal := hal.mono hs
          try replace ham := ham.mono hs
          try replace hat0 := hat0.mono hs
          try replace hat1 := hat1.mono hs
          try replace hat2 := hat2.mono hs
          try replace ha29 := ha29.mono hs
          try replace hatk0 := hatk0.mono hs
          replace hm1 := meltTrans hm1 hm
          clear hs hm
          refine S.exit rfl ?_
          refine S.region rfl ?_
          refine O.op (.p rfl) (.mv rfl) ?_
          refine O.op (.p rfl) (.mv rfl) ?_
          refine O.op (.p rfl) (.mv rfl) ?_
          refine O.opE (.p rfl) (.appendP (T := Rp.i64) pure_i64 Go.Proofs.Tryd.underlying54 FactDapart.elem34 (by decide) rfl rfl (by repeat (first | exact Sel.here | apply Sel.there)) htwo (by first | omega | (simp; done) | (simp; omega) | decide) (by first | omega | (simp; done) | (simp; omega) | decide)) ?_
          rintro v126 _ ⟨A0, C0, rfl, rfl⟩
          rw [hl1, hl2]
          refine O.op (.p rfl) (.idxArr (j := 0) Go.Proofs.Tryd.underlying55 FactDapart.size54 rfl rfl rfl (by decide)) ?_
          refine O.opU rfl (.store1 FactDapart.flat54 rfl rfl rfl (by repeat (first | exact Sel.here | apply Sel.there)) (by simp)) ?_
          refine O.nil ?_
          refine S.inBlock (S.region rfl ?_)
          refine O.op (.p rfl) (.mv rfl) ?_
          refine O.op (.p rfl) (.add rfl rfl (IntWalk.i64_in _ (by omega))) ?_
          refine O.op (.p rfl) (.as rfl) ?_
          refine O.nil ?_
          refine S.pk (ζ := [OwnP Rp.i64 34 (.slice A0 (ls.length + ms.length) C0) (tx 120 ls ls.length ++ tx 121 ms ms.length), obj b6 55 [.slice A0 (ls.length + ms.length) C0, .slice none 0 0, .slice none 0 0], MapT q126 D0.safe D0.c1, MapT q226 D0.loose D0.c2, MapT q127 [] 0, MapT q227 [] 0, MapT q128 [] 0, MapT q228 [] 0]) (by repeat (first | exact Picks.all | exact Picks.nil | (apply Picks.cons; focus (repeat (first | exact Sel.here | apply Sel.there))) | apply Picks.skip)) ?_
          refine S.frzA (by repeat (first | exact Sel.here | apply Sel.there)) fun g hs hm hto0 => ?_
          replace hg := Fr.sub_trans hg hs
          replace hR := melted hR hm
          try replace hal := hal.mono hs
          try replace ham := ham.mono hs
          try replace hat0 := hat0.mono hs
          try replace hat1 := hat1.mono hs
          try replace hat2 := hat2.mono hs
          try replace ha29 := ha29.mono hs
          try replace hatk0 := hatk0.mono hs
          try replace htwo := htwo.mono hs
          replace hm1 := meltTrans hm1 hm
          clear hs hm
          refine S.reloop ?_
          refine S.seq (S.seq (S.region rfl ?_))
          refine O.op (.p rfl) (.mv rfl) ?_
          refine O.op (.p rfl) (.lss rfl rfl) ?_
          refine O.slot 31 (v' := .bool true) rfl (congrArg Value.bool (by rfl)) ?_
          refine O.nil ?_
          refine S.condT rfl ?_
          refine S.skip (S.seq (S.block (S.seq ?_)))
          refine S.regionJ (L := [0, 2, 1, 3]) (fun (s : (Option Addr × Nat) × (Option Addr × Nat)) => [(8, .slice s.1.1 0 s.1.2), (9, .slice s.2.1 0 s.2.2)]) [(0, _), (1, _), (5, _), (6, _), (7, _)] (fun (s : (Option Addr × Nat) × (Option Addr × Nat)) => [OwnP Rp.i64 34 (.slice s.1.1 0 s.1.2) (tx 120 ls 0), OwnP Rp.i64 34 (.slice s.2.1 0 s.2.2) (tx 121 ms 0), obj b6 55 [.slice A0 (ls.length + ms.length) C0, .slice none 0 0, .slice none 0 0], MapT q126 D0.safe D0.c1, MapT q226 D0.loose D0.c2, MapT q127 [] 0, MapT q227 [] 0, MapT q128 [] 0, MapT q228 [] 0]) (.cons rfl (.cons rfl (.cons rfl (.cons rfl (.cons rfl (.nil)))))) FactDapart.mixed (by kernel_rfl) (fun kk key => ?_) (fun s => ?_)
          · refine OD.alt2 0 1 [2, 1, 3] [0, 2, 3] (by kernel_rfl) rfl rfl ?_ ?_
            · refine ODt.makeP0 (T := Rp.i64) (c := 0) (.p rfl) (by kernel_rfl) Go.Proofs.Tryd.underlying54 FactDapart.elem34 rfl rfl rfl rfl (by decide) (by decide) (fun a34 c34 => ?_)
              refine .quiet (.p rfl) rfl (fun _ => .as rfl) ?_
              refine OD.makeP0 (T := Rp.i64) (c := 0) (.p rfl) (by kernel_rfl) Go.Proofs.Tryd.underlying54 FactDapart.elem34 rfl rfl rfl rfl (by decide) (by decide) (fun a35 c35 => ?_)
              refine .quiet (.p rfl) rfl (fun _ => .as rfl) ?_
              refine .nil ?_
              refine S.pk (ζ := [OwnP Rp.i64 34 (.slice a34 0 c34) [], OwnP Rp.i64 34 (.slice a35 0 c35) [], obj b6 55 [.slice A0 (ls.length + ms.length) C0, .slice none 0 0, .slice none 0 0], MapT q126 D0.safe D0.c1, MapT q226 D0.loose D0.c2, MapT q127 [] 0, MapT q227 [] 0, MapT q128 [] 0, MapT q228 [] 0]) (by repeat (first | exact Picks.all | exact Picks.nil | (apply Picks.cons; focus (repeat (first | exact Sel.here | apply Sel.there))) | apply Picks.skip)) ?_
              exact S.weaken (Sub.app (.cons rfl (.cons rfl (.nil))) (.cons rfl (.cons rfl (.cons rfl (.cons rfl (.cons rfl (.nil))))))) (key ((a34, c34), (a35, c35)))
            · refine ODt.makeP0 (T := Rp.i64) (c := 0) (.p rfl) (by kernel_rfl) Go.Proofs.Tryd.underlying54 FactDapart.elem34 rfl rfl rfl rfl (by decide) (by decide) (fun a35 c35 => ?_)
              refine OD.makeP0 (T := Rp.i64) (c := 0) (.p rfl) (by kernel_rfl) Go.Proofs.Tryd.underlying54 FactDapart.elem34 rfl rfl rfl rfl (by decide) (by decide) (fun a34 c34 => ?_)
              refine .quiet (.p rfl) rfl (fun _ => .as rfl) ?_
              refine .quiet (.p rfl) rfl (fun _ => .as rfl) ?_
              refine .nil ?_
              refine S.pk (ζ := [OwnP Rp.i64 34 (.slice a34 0 c34) [], OwnP Rp.i64 34 (.slice a35 0 c35) [], obj b6 55 [.slice A0 (ls.length + ms.length) C0, .slice none 0 0, .slice none 0 0], MapT q126 D0.safe D0.c1, MapT q226 D0.loose D0.c2, MapT q127 [] 0, MapT q227 [] 0, MapT q128 [] 0, MapT q228 [] 0]) (by repeat (first | exact Picks.all | exact Picks.nil | (apply Picks.cons; focus (repeat (first | exact Sel.here | apply Sel.there))) | apply Picks.skip)) ?_
              exact S.weaken (Sub.app (.cons rfl (.cons rfl (.nil))) (.cons rfl (.cons rfl (.cons rfl (.cons rfl (.cons rfl (.nil))))))) (key ((a34, c34), (a35, c35)))
          · refine S.seq (S.seq (S.region rfl ?_))
            refine O.op (.p rfl) (.as rfl) ?_
            refine O.nil ?_
            refine S.block ?_
            refine S.loopK4 (ι := Nat) (κ := Nat × Nat) (υ := DiskM) (τ := (Option Addr × Nat) × (Option Addr × Nat)) (fun i pq D1 s => i ≤ ls.length + ms.length ∧ pq.1 ≤ ls.length ∧ pq.2 ≤ ms.length ∧ i = pq.1 + pq.2 ∧ (Trn1 ls.length ms.length i pq.1 pq.2) ∧ ApI ls ms pq.1 pq.2 D1) (fun i pq D1 s => [(10, .int .i64 (i : Int)), (8, .slice s.1.1 pq.1 s.1.2), (9, .slice s.2.1 pq.2 s.2.2)]) [(0, _), (1, _), (5, _), (6, _), (7, _)] (fun i pq D1 s => [OwnP Rp.i64 34 (.slice s.1.1 pq.1 s.1.2) (tx 120 ls pq.1), OwnP Rp.i64 34 (.slice s.2.1 pq.2 s.2.2) (tx 121 ms pq.2), obj b6 55 [.slice A0 (ls.length + ms.length) C0, .slice none 0 0, .slice none 0 0], MapT q126 D0.safe D0.c1, MapT q226 D0.loose D0.c2, MapT q127 D1.safe D1.c1, MapT q227 D1.loose D1.c2, MapT q128 [] 0, MapT q228 [] 0]) (fun i pq D1 s => ls.length + ms.length - i) (0) ((0, 0)) (⟨[], 0, [], 0, 1048576⟩) (s) (by exact ⟨by omega, by simp, by simp, by simp, trn1_0 _ _, ApI.zero ls ms⟩) (.cons rfl (.cons rfl (.cons rfl (.nil)))) (.cons rfl (.cons rfl (.cons rfl (.cons rfl (.cons rfl (.nil)))))) rfl fun i pq D1 s hx ih => ?_
            have hm2 := meltRefl (g := g)
            obtain ⟨p, q⟩ := pq
            obtain ⟨hx1, hx2, hx3, hx4, hx5, ap1⟩ := hx
            simp only at hx2 hx3 hx4 hx5 ap1 ⊢
            have hatk1 : At g.h ⟨d27, 0, none⟩ (dC q127 q227 D1.room) := by rw [ap1.di.room]; exact hat1
            refine S.seq (S.seq (S.region rfl ?_))
            refine O.op (.p rfl) (.mv rfl) ?_
            refine O.op (.p rfl) (.mv rfl) ?_
            refine O.op (.p rfl) (.len rfl Go.Proofs.Tryd.underlying22 rfl) ?_
            refine O.op (.p rfl) (.mv rfl) ?_
            refine O.op (.p rfl) (.len rfl Go.Proofs.Tryd.underlying22 rfl) ?_
            refine O.op (.p rfl) (.add rfl rfl (IntWalk.i64_in _ (by omega))) ?_
            refine O.op (.p rfl) (.lss rfl rfl) ?_
            refine O.nil ?_
            first | refine S.condD rfl (fun h42 => ?_) (fun h42 => ?_) | refine S.condB rfl (fun h42 => ?_) (fun h42 => ?_)
            · have hi : i < ls.length + ms.length := by omega
              rcases Nat.lt_or_ge i ms.length with hf | hf
              ·
                obtain ⟨hvi, hvl, hnx⟩ := trn1_y hx5 hf
                obtain ⟨hb1, hb2⟩ := hmx ms[q] (List.getElem_mem (by omega))
                have htl := tx_len 121 ms (p := q) (by omega)
                refine S.skip (S.seq (S.block (S.seq (S.region rfl ?_))))
                refine O.op (.p rfl) (.mv rfl) ?_
                refine O.op (.p rfl) (.as rfl) ?_
                refine O.nil ?_
                refine S.seq (S.seq (S.region rfl ?_))
                refine O.op (.p rfl) (.mv rfl) ?_
                refine O.op (.p rfl) (.eql rfl rfl) ?_
                refine O.slot 47 (v' := .bool true) rfl (congrArg Value.bool (by rfl)) ?_
                refine O.nil ?_
                refine S.condT rfl ?_
                refine S.region rfl ?_
                refine O.op (.p rfl) (.mv rfl) ?_
                refine O.op (.p rfl) (.mv rfl) ?_
                refine O.op (.p rfl) (.len rfl Go.Proofs.Tryd.underlying22 rfl) ?_
                refine O.op (.p rfl) (.add rfl rfl (IntWalk.i64_in _ (by omega))) ?_
                refine O.op (.p rfl) (.mv rfl) ?_
                refine O.op (.p rfl) (.len rfl Go.Proofs.Tryd.underlying22 rfl) ?_
                refine O.op (.p rfl) (.mv rfl) ?_
                refine O.op (.p rfl) (.len rfl Go.Proofs.Tryd.underlying22 rfl) ?_
                refine O.op (.p rfl) (.add rfl rfl (IntWalk.i64_in _ (by omega))) ?_
                refine O.op (.p rfl) (.rem rfl rfl (by omega)) ?_
                refine O.slot 57 (v' := .int .i64 ((i + ls.length : Nat) : Int)) rfl (by exact rem_lo hf) ?_
                refine O.op (.p rfl) (.as rfl) ?_
                refine O.nil ?_
                refine S.seq (S.region rfl ?_)
                refine O.op (.p rfl) (.mv rfl) ?_
                refine O.op (.p rfl) (.mv rfl) ?_
                refine O.op (.p rfl) (.len rfl Go.Proofs.Tryd.underlying22 rfl) ?_
                refine O.op (.p rfl) (.lss rfl rfl) ?_
                refine O.slot 61 (v' := .bool false) rfl (congrArg Value.bool (by exact decide_eq_false (by omega))) ?_
                refine O.op (.p rfl) (.mv rfl) ?_
                refine O.op (.p rfl) (.as rfl) ?_
                refine O.op (.p rfl) (.as rfl) ?_
                refine O.nil ?_
                refine S.seq (S.seq (S.region rfl ?_))
                refine O.op (.p rfl) (.mv rfl) ?_
                refine O.op (.p rfl) (.not rfl) ?_
                refine O.nil ?_
                refine S.condT rfl ?_
                refine S.region rfl ?_
                refine O.op (.p rfl) (.mv rfl) ?_
                refine O.op (.p rfl) (.mv rfl) ?_
                refine O.op (.p rfl) (.len rfl Go.Proofs.Tryd.underlying22 rfl) ?_
                refine O.op (.p rfl) (.sub rfl rfl (IntWalk.i64_in _ (by omega))) ?_
                refine O.op (.p rfl) (.as rfl) ?_
                refine O.nil ?_
                refine S.seq (S.seq (S.region rfl ?_))
                refine O.op (.p rfl) (.mv rfl) ?_
                refine O.op (.p rfl) (.eql rfl rfl) ?_
                refine O.slot 70 (v' := .bool false) rfl (congrArg Value.bool (by rfl)) ?_
                refine O.nil ?_
                refine S.condF rfl ?_
                refine S.skip (S.seq (S.region rfl ?_))
                refine O.op (.p rfl) (.mv rfl) ?_
                refine O.nil ?_
                refine S.condF rfl ?_
                refine S.regionD (L := [0, 1, 2, 3, 4, 5, 6, 7, 8, 9, 10, 11, 12, 13]) FactDapart.mixed (by kernel_rfl) ?_
                refine .quiet (.p rfl) rfl (fun _ => .mv rfl) ?_
                refine .quiet (.p rfl) rfl (fun _ => .mv rfl) ?_
                refine .quiet (.p rfl) rfl (fun _ => .mv rfl) ?_
                refine OD.idx' (.p rfl) Go.Proofs.Tryd.underlying48 FactDapart.size25 rfl rfl (show _ = (((1) : Nat) : Int) by omega) (ha29) (by decide) (by first | omega | (simp; done) | (simp; omega) | decide) (fun p113 cs113 hp113 hr113 => ?_)
                obtain ⟨rfl, _⟩ := hr113
                refine .quiet (.p rfl) rfl (fun _ => .loadAt FactDapart.flat25 rfl hp113 rfl) ?_
                refine OD.slot 114 (v' := .pointer (some ⟨d27, 0, none⟩)) rfl (by rfl) ?_
                refine .quiet (.p rfl) rfl (fun _ => .mv rfl) ?_
                refine .quiet (.p rfl) rfl (fun _ => .mv rfl) ?_
                refine OD.idx' (.p rfl) Go.Proofs.Tryd.underlying22 FactDapart.size33 rfl rfl (show _ = (((q) : Nat) : Int) by omega) (ham) (by decide) (by first | omega | (simp; done) | (simp; omega) | decide) (fun p117 cs117 hp117 hr117 => ?_)
                obtain ⟨a117, c117, rfl, hd117, hb1117, hb2117⟩ := DeedR.open hr117
                refine .quiet (.p rfl) rfl (fun _ => .loadAgg Go.Proofs.Tryd.isAgg33 (by kernel_rfl) rfl hp117) ?_
                refine OD.call0 (.p rfl) (by kernel_rfl) rfl FactDapart.ok20 rfl rfl ((mine_c (c := 121) (x := ms[q]) (by omega) (by omega))) ?_
                rintro v119 _ ⟨rfl, rfl⟩
                try simp only [List.cons_append, List.nil_append, List.append_nil]
                refine OD.callSs (.p rfl) (by kernel_rfl) rfl FactDapart.ok17 rfl rfl (by repeat (first | exact Sels.nil | (apply Sels.cons; focus (repeat (first | exact Sel.here | apply Sel.there))))) (does_g (x := mineD 121 ms[q]) hatk1 ap1.di.ok hd117 (by simp [mineD, lk]) (by simp [mineD, lk]) (Nat.le_trans (show (mineD 121 ms[q]).2.2.2.2.1.length ≤ 300 from hb1) (by decide))) ?_
                rintro v120 _ ⟨e120, m120, hst, rfl, rfl⟩
                try simp only [List.cons_append, List.nil_append, List.append_nil]
                obtain ⟨a2, htx⟩ := ap1.y (by omega) (by omega) hb1 hst
                have hie : InI64 e120 := tx_in 121 ms (q + 1) _ (by rw [htx]; simp)
                refine OD.litP (T := Rp.i64) (ys := [_]) (.p rfl) (by kernel_rfl) Go.Proofs.Tryd.underlying54 FactDapart.elem34 (by decide) rfl rfl ⟨⟨rfl, by first | assumption | (constructor <;> omega)⟩, trivial⟩ (by decide) (fun a121 c121 => ?_)
                refine OD.appendO (.p rfl) (by kernel_rfl) (T := Rp.i64) Go.Proofs.Tryd.underlying54 FactDapart.elem34 (by decide) rfl rfl (by repeat (first | exact Sel.here | apply Sel.there)) (by repeat (first | exact Sel.here | apply Sel.there)) (by first | omega | (simp; done) | (simp; omega) | decide) (by first | omega | (simp; done) | (simp; omega) | decide) (fun a122 c122 => ?_)
                refine .quiet (.p rfl) rfl (fun _ => .as rfl) ?_
                refine .nil ?_
                refine S.inBlock (S.region rfl ?_)
                refine O.op (.p rfl) (.mv rfl) ?_
                refine O.op (.p rfl) (.add rfl rfl (IntWalk.i64_in _ (by omega))) ?_
                refine O.op (.p rfl) (.as rfl) ?_
                refine O.nil ?_
                simp only [List.length_singleton]
                rw [htl, ← htx]
                refine S.pk ?_ (S.weaken ?_ (ih (i + 1) ((p, q + 1)) (m120) (((s.1.1, s.1.2), (a122, c122))) (by (refine ⟨by omega, by simp only; omega, by simp only; omega, by simp only; omega, hnx, a2⟩)) (by omega)))
                · repeat (first | exact Picks.all | exact Picks.nil | (apply Picks.cons; focus (repeat (first | exact Sel.here | apply Sel.there))) | apply Picks.skip)
                repeat (first | exact Sub.nil | refine Sub.cons rfl ?_)
              ·
                obtain ⟨hvi, hvl, hnx⟩ := trn1_x hx5 hf hi
                obtain ⟨hb1, hb2⟩ := hlx ls[p] (List.getElem_mem (by omega))
                have htl := tx_len 120 ls (p := p) (by omega)
                refine S.skip (S.seq (S.block (S.seq (S.region rfl ?_))))
                refine O.op (.p rfl) (.mv rfl) ?_
                refine O.op (.p rfl) (.as rfl) ?_
                refine O.nil ?_
                refine S.seq (S.seq (S.region rfl ?_))
                refine O.op (.p rfl) (.mv rfl) ?_
                refine O.op (.p rfl) (.eql rfl rfl) ?_
                refine O.slot 47 (v' := .bool true) rfl (congrArg Value.bool (by rfl)) ?_
                refine O.nil ?_
                refine S.condT rfl ?_
                refine S.region rfl ?_
                refine O.op (.p rfl) (.mv rfl) ?_
                refine O.op (.p rfl) (.mv rfl) ?_
                refine O.op (.p rfl) (.len rfl Go.Proofs.Tryd.underlying22 rfl) ?_
                refine O.op (.p rfl) (.add rfl rfl (IntWalk.i64_in _ (by omega))) ?_
                refine O.op (.p rfl) (.mv rfl) ?_
                refine O.op (.p rfl) (.len rfl Go.Proofs.Tryd.underlying22 rfl) ?_
                refine O.op (.p rfl) (.mv rfl) ?_
                refine O.op (.p rfl) (.len rfl Go.Proofs.Tryd.underlying22 rfl) ?_
                refine O.op (.p rfl) (.add rfl rfl (IntWalk.i64_in _ (by omega))) ?_
                refine O.op (.p rfl) (.rem rfl rfl (by omega)) ?_
                refine O.slot 57 (v' := .int .i64 ((i - ms.length : Nat) : Int)) rfl (by exact rem_hi hf hi) ?_
                refine O.op (.p rfl) (.as rfl) ?_
                refine O.nil ?_
                refine S.seq (S.region rfl ?_)
                refine O.op (.p rfl) (.mv rfl) ?_
                refine O.op (.p rfl) (.mv rfl) ?_
                refine O.op (.p rfl) (.len rfl Go.Proofs.Tryd.underlying22 rfl) ?_
                refine O.op (.p rfl) (.lss rfl rfl) ?_
                refine O.slot 61 (v' := .bool true) rfl (congrArg Value.bool (by exact decide_eq_true (by omega))) ?_
                refine O.op (.p rfl) (.mv rfl) ?_
                refine O.op (.p rfl) (.as rfl) ?_
                refine O.op (.p rfl) (.as rfl) ?_
                refine O.nil ?_
                refine S.seq (S.seq (S.region rfl ?_))
                refine O.op (.p rfl) (.mv rfl) ?_
                refine O.op (.p rfl) (.not rfl) ?_
                refine O.nil ?_
                refine S.condF rfl ?_
                refine S.skip (S.seq (S.seq (S.region rfl ?_)))
                refine O.op (.p rfl) (.mv rfl) ?_
                refine O.op (.p rfl) (.eql rfl rfl) ?_
                refine O.slot 70 (v' := .bool false) rfl (congrArg Value.bool (by rfl)) ?_
                refine O.nil ?_
                refine S.condF rfl ?_
                refine S.skip (S.seq (S.region rfl ?_))
                refine O.op (.p rfl) (.mv rfl) ?_
                refine O.nil ?_
                refine S.condT rfl ?_
                refine S.regionD (L := [0, 1, 2, 3, 4, 5, 6, 7, 8, 9, 10, 11, 12, 13]) FactDapart.mixed (by kernel_rfl) ?_
                refine .quiet (.p rfl) rfl (fun _ => .mv rfl) ?_
                refine .quiet (.p rfl) rfl (fun _ => .mv rfl) ?_
                refine .quiet (.p rfl) rfl (fun _ => .mv rfl) ?_
                refine OD.idx' (.p rfl) Go.Proofs.Tryd.underlying48 FactDapart.size25 rfl rfl (show _ = (((1) : Nat) : Int) by omega) (ha29) (by decide) (by first | omega | (simp; done) | (simp; omega) | decide) (fun p100 cs100 hp100 hr100 => ?_)
                obtain ⟨rfl, _⟩ := hr100
                refine .quiet (.p rfl) rfl (fun _ => .loadAt FactDapart.flat25 rfl hp100 rfl) ?_
                refine OD.slot 101 (v' := .pointer (some ⟨d27, 0, none⟩)) rfl (by rfl) ?_
                refine .quiet (.p rfl) rfl (fun _ => .mv rfl) ?_
                refine .quiet (.p rfl) rfl (fun _ => .mv rfl) ?_
                refine OD.idx' (.p rfl) Go.Proofs.Tryd.underlying22 FactDapart.size33 rfl rfl (show _ = (((p) : Nat) : Int) by omega) (hal) (by decide) (by first | omega | (simp; done) | (simp; omega) | decide) (fun p104 cs104 hp104 hr104 => ?_)
                obtain ⟨a104, c104, rfl, hd104, hb1104, hb2104⟩ := DeedR.open hr104
                refine .quiet (.p rfl) rfl (fun _ => .loadAgg Go.Proofs.Tryd.isAgg33 (by kernel_rfl) rfl hp104) ?_
                refine OD.call0 (.p rfl) (by kernel_rfl) rfl FactDapart.ok20 rfl rfl ((mine_c (c := 120) (x := ls[p]) (by omega) (by omega))) ?_
                rintro v106 _ ⟨rfl, rfl⟩
                try simp only [List.cons_append, List.nil_append, List.append_nil]
                refine OD.callSs (.p rfl) (by kernel_rfl) rfl FactDapart.ok17 rfl rfl (by repeat (first | exact Sels.nil | (apply Sels.cons; focus (repeat (first | exact Sel.here | apply Sel.there))))) (does_g (x := mineD 120 ls[p]) hatk1 ap1.di.ok hd104 (by simp [mineD, lk]) (by simp [mineD, lk]) (Nat.le_trans (show (mineD 120 ls[p]).2.2.2.2.1.length ≤ 300 from hb1) (by decide))) ?_
                rintro v107 _ ⟨e107, m107, hst, rfl, rfl⟩
                try simp only [List.cons_append, List.nil_append, List.append_nil]
                obtain ⟨a2, htx⟩ := ap1.x (by omega) (by omega) hb1 hst
                have hie : InI64 e107 := tx_in 120 ls (p + 1) _ (by rw [htx]; simp)
                refine OD.litP (T := Rp.i64) (ys := [_]) (.p rfl) (by kernel_rfl) Go.Proofs.Tryd.underlying54 FactDapart.elem34 (by decide) rfl rfl ⟨⟨rfl, by first | assumption | (constructor <;> omega)⟩, trivial⟩ (by decide) (fun a108 c108 => ?_)
                refine OD.appendO (.p rfl) (by kernel_rfl) (T := Rp.i64) Go.Proofs.Tryd.underlying54 FactDapart.elem34 (by decide) rfl rfl (by repeat (first | exact Sel.here | apply Sel.there)) (by repeat (first | exact Sel.here | apply Sel.there)) (by first | omega | (simp; done) | (simp; omega) | decide) (by first | omega | (simp; done) | (simp; omega) | decide) (fun a109 c109 => ?_)
                refine .quiet (.p rfl) rfl (fun _ => .as rfl) ?_
                refine .nil ?_
                refine S.inBlock (S.region rfl ?_)
                refine O.op (.p rfl) (.mv rfl) ?_
                refine O.op (.p rfl) (.add rfl rfl (IntWalk.i64_in _ (by omega))) ?_
                refine O.op (.p rfl) (.as rfl) ?_
                refine O.nil ?_
                simp only [List.length_singleton]
                rw [htl, ← htx]
                refine S.pk ?_ (S.weaken ?_ (ih (i + 1) ((p + 1, q)) (m107) (((a109, c109), (s.2.1, s.2.2))) (by (refine ⟨by omega, by simp only; omega, by simp only; omega, by simp only; omega, hnx, a2⟩)) (by omega)))
                · repeat (first | exact Picks.all | exact Picks.nil | (apply Picks.cons; focus (repeat (first | exact Sel.here | apply Sel.there))) | apply Picks.skip)
                repeat (first | exact Sub.nil | refine Sub.cons rfl ?_)
            · clear ih
              obtain ⟨hp, hq⟩ := trn1_end hx5 (by omega) hx2 hx3 hx4
              clear hx1 hx2 hx3 hx4 hx5
              subst hp; subst hq
              have hl1 := tx_len 120 ls (Nat.le_refl _)
              have hl2 := tx_len 121 ms (Nat.le_refl _)
              obtain ⟨⟨a8, c8⟩, ⟨a9, c9⟩⟩ := s
              simp only
              refine S.pk (ζ := [OwnP Rp.i64 34 (.slice a9 ms.length c9) (tx 121 ms ms.length), OwnP Rp.i64 34 (.slice a8 ls.length c8) (tx 120 ls ls.length), obj b6 55 [.slice A0 (ls.length + ms.length) C0, .slice none 0 0, .slice none 0 0], MapT q126 D0.safe D0.c1, MapT q226 D0.loose D0.c2, MapT q127 D1.safe D1.c1, MapT q227 D1.loose D1.c2, MapT q128 [] 0, MapT q228 [] 0]) (by repeat (first | exact Picks.all | exact Picks.nil | (apply Picks.cons; focus (repeat (first | exact Sel.here | apply Sel.there))) | apply Picks.skip)) ?_
              refine S.frzA (by repeat (first | exact Sel.here | apply Sel.there)) fun g hs hm htwo => ?_
              replace hg := Fr.sub_trans hg hs
              replace hR := melted hR hm
              try replace hal := hal.mono hs
              try replace ham := ham.mono hs
              try replace hat0 := hat0.mono hs
              try replace hat1 := hat1.mono hs
              try replace hat2 := hat2.mono hs
              try replace ha29 := ha29.mono hs
              try replace hatk0 := hatk0.mono hs
              try replace htwo := htwo.mono hs
              try replace hto0 := hto0.mono hs
              try replace hatk1 := hatk1.mono hs
              replace hm1 := meltTrans hm1 hm
              replace hm2 := meltTrans hm2 hm
              clear hs hm
              refine S.exit rfl ?_
              refine S.region rfl ?_
              refine O.op (.p rfl) (.mv rfl) ?_
              refine O.op (.p rfl) (.mv rfl) ?_
              refine O.op (.p rfl) (.mv rfl) ?_
              refine O.opE (.p rfl) (.appendP (T := Rp.i64) pure_i64 Go.Proofs.Tryd.underlying54 FactDapart.elem34 (by decide) rfl rfl (by repeat (first | exact Sel.here | apply Sel.there)) htwo (by first | omega | (simp; done) | (simp; omega) | decide) (by first | omega | (simp; done) | (simp; omega) | decide)) ?_
              rintro v126 _ ⟨A1, C1, rfl, rfl⟩
              rw [hl1, hl2]
              refine O.op (.p rfl) (.idxArr (j := 1) Go.Proofs.Tryd.underlying55 FactDapart.size54 rfl rfl rfl (by decide)) ?_
              refine O.opU rfl (.store1 FactDapart.flat54 rfl rfl rfl (by repeat (first | exact Sel.here | apply Sel.there)) (by simp)) ?_
              refine O.nil ?_
              refine S.inBlock (S.region rfl ?_)
              refine O.op (.p rfl) (.mv rfl) ?_
              refine O.op (.p rfl) (.add rfl rfl (IntWalk.i64_in _ (by omega))) ?_
              refine O.op (.p rfl) (.as rfl) ?_
              refine O.nil ?_
              refine S.pk (ζ := [OwnP Rp.i64 34 (.slice A1 (ls.length + ms.length) C1) (tx 120 ls ls.length ++ tx 121 ms ms.length), obj b6 55 [.slice A0 (ls.length + ms.length) C0, .slice A1 (ls.length + ms.length) C1, .slice none 0 0], MapT q126 D0.safe D0.c1, MapT q226 D0.loose D0.c2, MapT q127 D1.safe D1.c1, MapT q227 D1.loose D1.c2, MapT q128 [] 0, MapT q228 [] 0]) (by repeat (first | exact Picks.all | exact Picks.nil | (apply Picks.cons; focus (repeat (first | exact Sel.here | apply Sel.there))) | apply Picks.skip)) ?_
              refine S.frzA (by repeat (first | exact Sel.here | apply Sel.there)) fun g hs hm hto1 => ?_
              replace hg := Fr.sub_trans hg hs
              replace hR := melted hR hm
              try replace hal := hal.mono hs
              try replace ham := ham.mono hs
              try replace hat0 := hat0.mono hs
              try replace hat1 := hat1.mono hs
              try replace hat2 := hat2.mono hs
              try replace ha29 := ha29.mono hs
              try replace hatk0 := hatk0.mono hs
              try replace htwo := htwo.mono hs
              try replace hto0 := hto0.mono hs
              try replace hatk1 := hatk1.mono hs
              replace hm1 := meltTrans hm1 hm
              replace hm2 := meltTrans hm2 hm
              clear hs hm
              refine S.reloop ?_
              refine S.seq (S.seq (S.region rfl ?_))
              refine O.op (.p rfl) (.mv rfl) ?_
              refine O.op (.p rfl) (.lss rfl rfl) ?_
              refine O.slot 31 (v' := .bool true) rfl (congrArg Value.bool (by rfl)) ?_
              refine O.nil ?_
              refine S.condT rfl ?_
              refine S.skip (S.seq (S.block (S.seq ?_)))
              refine S.regionJ (L := [0, 2, 1, 3]) (fun (s : (Option Addr × Nat) × (Option Addr × Nat)) => [(8, .slice s.1.1 0 s.1.2), (9, .slice s.2.1 0 s.2.2)]) [(0, _), (1, _), (5, _), (6, _), (7, _)] (fun (s : (Option Addr × Nat) × (Option Addr × Nat)) => [OwnP Rp.i64 34 (.slice s.1.1 0 s.1.2) (tx 120 ls 0), OwnP Rp.i64 34 (.slice s.2.1 0 s.2.2) (tx 121 ms 0), obj b6 55 [.slice A0 (ls.length + ms.length) C0, .slice A1 (ls.length + ms.length) C1, .slice none 0 0], MapT q126 D0.safe D0.c1, MapT q226 D0.loose D0.c2, MapT q127 D1.safe D1.c1, MapT q227 D1.loose D1.c2, MapT q128 [] 0, MapT q228 [] 0]) (.cons rfl (.cons rfl (.cons rfl (.cons rfl (.cons rfl (.nil)))))) FactDapart.mixed (by kernel_rfl) (fun kk key => ?_) (fun s => ?_)
              · refine OD.alt2 0 1 [2, 1, 3] [0, 2, 3] (by kernel_rfl) rfl rfl ?_ ?_
                · refine ODt.makeP0 (T := Rp.i64) (c := 0) (.p rfl) (by kernel_rfl) Go.Proofs.Tryd.underlying54 FactDapart.elem34 rfl rfl rfl rfl (by decide) (by decide) (fun a34 c34 => ?_)
                  refine .quiet (.p rfl) rfl (fun _ => .as rfl) ?_
                  refine OD.makeP0 (T := Rp.i64) (c := 0) (.p rfl) (by kernel_rfl) Go.Proofs.Tryd.underlying54 FactDapart.elem34 rfl rfl rfl rfl (by decide) (by decide) (fun a35 c35 => ?_)
                  refine .quiet (.p rfl) rfl (fun _ => .as rfl) ?_
                  refine .nil ?_
                  refine S.pk (ζ := [OwnP Rp.i64 34 (.slice a34 0 c34) [], OwnP Rp.i64 34 (.slice a35 0 c35) [], obj b6 55 [.slice A0 (ls.length + ms.length) C0, .slice A1 (ls.length + ms.length) C1, .slice none 0 0], MapT q126 D0.safe D0.c1, MapT q226 D0.loose D0.c2, MapT q127 D1.safe D1.c1, MapT q227 D1.loose D1.c2, MapT q128 [] 0, MapT q228 [] 0]) (by repeat (first | exact Picks.all | exact Picks.nil | (apply Picks.cons; focus (repeat (first | exact Sel.here | apply Sel.there))) | apply Picks.skip)) ?_
                  exact S.weaken (Sub.app (.cons rfl (.cons rfl (.nil))) (.cons rfl (.cons rfl (.cons rfl (.cons rfl (.cons rfl (.nil))))))) (key ((a34, c34), (a35, c35)))
                · refine ODt.makeP0 (T := Rp.i64) (c := 0) (.p rfl) (by kernel_rfl) Go.Proofs.Tryd.underlying54 FactDapart.elem34 rfl rfl rfl rfl (by decide) (by decide) (fun a35 c35 => ?_)
                  refine OD.makeP0 (T := Rp.i64) (c := 0) (.p rfl) (by kernel_rfl) Go.Proofs.Tryd.underlying54 FactDapart.elem34 rfl rfl rfl rfl (by decide) (by decide) (fun a34 c34 => ?_)
                  refine .quiet (.p rfl) rfl (fun _ => .as rfl) ?_
                  refine .quiet (.p rfl) rfl (fun _ => .as rfl) ?_
                  refine .nil ?_
                  refine S.pk (ζ := [OwnP Rp.i64 34 (.slice a34 0 c34) [], OwnP Rp.i64 34 (.slice a35 0 c35) [], obj b6 55 [.slice A0 (ls.length + ms.length) C0, .slice A1 (ls.length + ms.length) C1, .slice none 0 0], MapT q126 D0.safe D0.c1, MapT q226 D0.loose D0.c2, MapT q127 D1.safe D1.c1, MapT q227 D1.loose D1.c2, MapT q128 [] 0, MapT q228 [] 0]) (by repeat (first | exact Picks.all | exact Picks.nil | (apply Picks.cons; focus (repeat (first | exact Sel.here | apply Sel.there))) | apply Picks.skip)) ?_
                  exact S.weaken (Sub.app (.cons rfl (.cons rfl (.nil))) (.cons rfl (.cons rfl (.cons rfl (.cons rfl (.cons rfl (.nil))))))) (key ((a34, c34), (a35, c35)))
              · refine S.seq (S.seq (S.region rfl ?_))
                refine O.op (.p rfl) (.as rfl) ?_
                refine O.nil ?_
                refine S.block ?_
                refine S.loopK4 (ι := Nat) (κ := Nat × Nat) (υ := DiskM) (τ := (Option Addr × Nat) × (Option Addr × Nat)) (fun i pq D2 s => i ≤ ls.length + ms.length ∧ pq.1 ≤ ls.length ∧ pq.2 ≤ ms.length ∧ i = pq.1 + pq.2 ∧ (Trn2 ls.length ms.length i pq.1 pq.2) ∧ ApI ls ms pq.1 pq.2 D2) (fun i pq D2 s => [(10, .int .i64 (i : Int)), (8, .slice s.1.1 pq.1 s.1.2), (9, .slice s.2.1 pq.2 s.2.2)]) [(0, _), (1, _), (5, _), (6, _), (7, _)] (fun i pq D2 s => [OwnP Rp.i64 34 (.slice s.1.1 pq.1 s.1.2) (tx 120 ls pq.1), OwnP Rp.i64 34 (.slice s.2.1 pq.2 s.2.2) (tx 121 ms pq.2), obj b6 55 [.slice A0 (ls.length + ms.length) C0, .slice A1 (ls.length + ms.length) C1, .slice none 0 0], MapT q126 D0.safe D0.c1, MapT q226 D0.loose D0.c2, MapT q127 D1.safe D1.c1, MapT q227 D1.loose D1.c2, MapT q128 D2.safe D2.c1, MapT q228 D2.loose D2.c2]) (fun i pq D2 s => ls.length + ms.length - i) (0) ((0, 0)) (⟨[], 0, [], 0, 1048576⟩) (s) (by exact ⟨by omega, by simp, by simp, by simp, trn2_0 _ _, ApI.zero ls ms⟩) (.cons rfl (.cons rfl (.cons rfl (.nil)))) (.cons rfl (.cons rfl (.cons rfl (.cons rfl (.cons rfl (.nil)))))) rfl fun i pq D2 s hx ih => ?_
                have hm3 := meltRefl (g := g)
                obtain ⟨p, q⟩ := pq
                obtain ⟨hx1, hx2, hx3, hx4, hx5, ap2⟩ := hx
                simp only at hx2 hx3 hx4 hx5 ap2 ⊢
                have hatk2 : At g.h ⟨d28, 0, none⟩ (dC q128 q228 D2.room) := by rw [ap2.di.room]; exact hat2
                refine S.seq (S.seq (S.region rfl ?_))
                refine O.op (.p rfl) (.mv rfl) ?_
                refine O.op (.p rfl) (.mv rfl) ?_
                refine O.op (.p rfl) (.len rfl Go.Proofs.Tryd.underlying22 rfl) ?_
                refine O.op (.p rfl) (.mv rfl) ?_
                refine O.op (.p rfl) (.len rfl Go.Proofs.Tryd.underlying22 rfl) ?_
                refine O.op (.p rfl) (.add rfl rfl (IntWalk.i64_in _ (by omega))) ?_
                refine O.op (.p rfl) (.lss rfl rfl) ?_
                refine O.nil ?_
                first | refine S.condD rfl (fun h42 => ?_) (fun h42 => ?_) | refine S.condB rfl (fun h42 => ?_) (fun h42 => ?_)
                · have hi : i < ls.length + ms.length := by omega
                  rcases six i ls.length ms.length mn with hf | hf | hf | hf | hf | hf | hf | hf
                  ·
                    obtain ⟨hvi, hvl, hnx⟩ := trn2_ev hx5 hme hf.2.1 hf.2.2
                    obtain ⟨hb1, hb2⟩ := hlx ls[p] (List.getElem_mem (by omega))
                    have htl := tx_len 120 ls (p := p) (by omega)
                    refine S.skip (S.seq (S.block (S.seq (S.region rfl ?_))))
                    refine O.op (.p rfl) (.mv rfl) ?_
                    refine O.op (.p rfl) (.as rfl) ?_
                    refine O.nil ?_
                    refine S.seq (S.seq (S.region rfl ?_))
                    refine O.op (.p rfl) (.mv rfl) ?_
                    refine O.op (.p rfl) (.eql rfl rfl) ?_
                    refine O.slot 47 (v' := .bool false) rfl (congrArg Value.bool (by rfl)) ?_
                    refine O.nil ?_
                    refine S.condF rfl ?_
                    refine S.skip (S.seq (S.region rfl ?_))
                    refine O.op (.p rfl) (.mv rfl) ?_
                    refine O.op (.p rfl) (.mv rfl) ?_
                    refine O.op (.p rfl) (.len rfl Go.Proofs.Tryd.underlying22 rfl) ?_
                    refine O.op (.p rfl) (.lss rfl rfl) ?_
                    refine O.slot 61 (v' := .bool true) rfl (congrArg Value.bool (by exact decide_eq_true (by omega))) ?_
                    refine O.op (.p rfl) (.mv rfl) ?_
                    refine O.op (.p rfl) (.as rfl) ?_
                    refine O.op (.p rfl) (.as rfl) ?_
                    refine O.nil ?_
                    refine S.seq (S.seq (S.region rfl ?_))
                    refine O.op (.p rfl) (.mv rfl) ?_
                    refine O.op (.p rfl) (.not rfl) ?_
                    refine O.nil ?_
                    refine S.condF rfl ?_
                    refine S.skip (S.seq (S.seq (S.region rfl ?_)))
                    refine O.op (.p rfl) (.mv rfl) ?_
                    refine O.op (.p rfl) (.eql rfl rfl) ?_
                    refine O.slot 70 (v' := .bool true) rfl (congrArg Value.bool (by rfl)) ?_
                    refine O.nil ?_
                    refine S.condT rfl ?_
                    refine S.seq (S.region rfl ?_)
                    refine O.op (.p rfl) (.mv rfl) ?_
                    refine O.op (.p rfl) (.rem rfl rfl (by omega)) ?_
                    refine O.slot 72 (v' := .int .i64 ((i % 2 : Nat) : Int)) rfl (by exact rem_two i) ?_
                    refine O.op (.p rfl) (.eql rfl rfl) ?_
                    refine O.slot 73 (v' := .bool true) rfl (congrArg Value.bool (by exact decide_eq_true (by omega))) ?_
                    refine O.op (.p rfl) (.mv rfl) ?_
                    refine O.op (.p rfl) (.quo rfl rfl (by omega)) ?_
                    refine O.slot 75 (v' := .int .i64 ((i / 2 : Nat) : Int)) rfl (by exact quo_two (by omega)) ?_
                    refine O.op (.p rfl) (.as rfl) ?_
                    refine O.op (.p rfl) (.as rfl) ?_
                    refine O.nil ?_
                    refine S.seq (S.region rfl ?_)
                    refine O.op (.p rfl) (.mv rfl) ?_
                    refine O.op (.p rfl) (.mv rfl) ?_
                    refine O.op (.p rfl) (.len rfl Go.Proofs.Tryd.underlying22 rfl) ?_
                    refine O.op (.p rfl) (.mv rfl) ?_
                    refine O.op (.p rfl) (.len rfl Go.Proofs.Tryd.underlying22 rfl) ?_
                    refine O.op (.p rfl) (.min2 rfl rfl) ?_
                    refine O.slot 81 (v' := .int .i64 (mn : Int)) rfl (by exact hmn) ?_
                    refine O.op (.p rfl) (.mul rfl rfl (IntWalk.i64_in _ (by omega))) ?_
                    refine O.op (.p rfl) (.geq rfl rfl) ?_
                    refine O.slot 83 (v' := .bool false) rfl (congrArg Value.bool (by exact decide_eq_false (by omega))) ?_
                    refine O.nil ?_
                    refine S.condF rfl ?_
                    refine S.skip (S.seq (S.region rfl ?_))
                    refine O.op (.p rfl) (.mv rfl) ?_
                    refine O.nil ?_
                    refine S.condT rfl ?_
                    refine S.regionD (L := [0, 1, 2, 3, 4, 5, 6, 7, 8, 9, 10, 11, 12, 13]) FactDapart.mixed (by kernel_rfl) ?_
                    refine .quiet (.p rfl) rfl (fun _ => .mv rfl) ?_
                    refine .quiet (.p rfl) rfl (fun _ => .mv rfl) ?_
                    refine .quiet (.p rfl) rfl (fun _ => .mv rfl) ?_
                    refine OD.idx' (.p rfl) Go.Proofs.Tryd.underlying48 FactDapart.size25 rfl rfl (show _ = (((2) : Nat) : Int) by omega) (ha29) (by decide) (by first | omega | (simp; done) | (simp; omega) | decide) (fun p100 cs100 hp100 hr100 => ?_)
                    obtain ⟨rfl, _⟩ := hr100
                    refine .quiet (.p rfl) rfl (fun _ => .loadAt FactDapart.flat25 rfl hp100 rfl) ?_
                    refine OD.slot 101 (v' := .pointer (some ⟨d28, 0, none⟩)) rfl (by rfl) ?_
                    refine .quiet (.p rfl) rfl (fun _ => .mv rfl) ?_
                    refine .quiet (.p rfl) rfl (fun _ => .mv rfl) ?_
                    refine OD.idx' (.p rfl) Go.Proofs.Tryd.underlying22 FactDapart.size33 rfl rfl (show _ = (((p) : Nat) : Int) by omega) (hal) (by decide) (by first | omega | (simp; done) | (simp; omega) | decide) (fun p104 cs104 hp104 hr104 => ?_)
                    obtain ⟨a104, c104, rfl, hd104, hb1104, hb2104⟩ := DeedR.open hr104
                    refine .quiet (.p rfl) rfl (fun _ => .loadAgg Go.Proofs.Tryd.isAgg33 (by kernel_rfl) rfl hp104) ?_
                    refine OD.call0 (.p rfl) (by kernel_rfl) rfl FactDapart.ok20 rfl rfl ((mine_c (c := 120) (x := ls[p]) (by omega) (by omega))) ?_
                    rintro v106 _ ⟨rfl, rfl⟩
                    try simp only [List.cons_append, List.nil_append, List.append_nil]
                    refine OD.callSs (.p rfl) (by kernel_rfl) rfl FactDapart.ok17 rfl rfl (by repeat (first | exact Sels.nil | (apply Sels.cons; focus (repeat (first | exact Sel.here | apply Sel.there))))) (does_g (x := mineD 120 ls[p]) hatk2 ap2.di.ok hd104 (by simp [mineD, lk]) (by simp [mineD, lk]) (Nat.le_trans (show (mineD 120 ls[p]).2.2.2.2.1.length ≤ 300 from hb1) (by decide))) ?_
                    rintro v107 _ ⟨e107, m107, hst, rfl, rfl⟩
                    try simp only [List.cons_append, List.nil_append, List.append_nil]
                    obtain ⟨a2, htx⟩ := ap2.x (by omega) (by omega) hb1 hst
                    have hie : InI64 e107 := tx_in 120 ls (p + 1) _ (by rw [htx]; simp)
                    refine OD.litP (T := Rp.i64) (ys := [_]) (.p rfl) (by kernel_rfl) Go.Proofs.Tryd.underlying54 FactDapart.elem34 (by decide) rfl rfl ⟨⟨rfl, by first | assumption | (constructor <;> omega)⟩, trivial⟩ (by decide) (fun a108 c108 => ?_)
                    refine OD.appendO (.p rfl) (by kernel_rfl) (T := Rp.i64) Go.Proofs.Tryd.underlying54 FactDapart.elem34 (by decide) rfl rfl (by repeat (first | exact Sel.here | apply Sel.there)) (by repeat (first | exact Sel.here | apply Sel.there)) (by first | omega | (simp; done) | (simp; omega) | decide) (by first | omega | (simp; done) | (simp; omega) | decide) (fun a109 c109 => ?_)
                    refine .quiet (.p rfl) rfl (fun _ => .as rfl) ?_
                    refine .nil ?_
                    refine S.inBlock (S.region rfl ?_)
                    refine O.op (.p rfl) (.mv rfl) ?_
                    refine O.op (.p rfl) (.add rfl rfl (IntWalk.i64_in _ (by omega))) ?_
                    refine O.op (.p rfl) (.as rfl) ?_
                    refine O.nil ?_
                    simp only [List.length_singleton]
                    rw [htl, ← htx]
                    refine S.pk ?_ (S.weaken ?_ (ih (i + 1) ((p + 1, q)) (m107) (((a109, c109), (s.2.1, s.2.2))) (by (refine ⟨by omega, by simp only; omega, by simp only; omega, by simp only; omega, hnx, a2⟩)) (by omega)))
                    · repeat (first | exact Picks.all | exact Picks.nil | (apply Picks.cons; focus (repeat (first | exact Sel.here | apply Sel.there))) | apply Picks.skip)
                    repeat (first | exact Sub.nil | refine Sub.cons rfl ?_)
                  ·
                    obtain ⟨hvi, hvl, hnx⟩ := trn2_od hx5 hme hf.2.1 hf.2.2
                    obtain ⟨hb1, hb2⟩ := hmx ms[q] (List.getElem_mem (by omega))
                    have htl := tx_len 121 ms (p := q) (by omega)
                    refine S.skip (S.seq (S.block (S.seq (S.region rfl ?_))))
                    refine O.op (.p rfl) (.mv rfl) ?_
                    refine O.op (.p rfl) (.as rfl) ?_
                    refine O.nil ?_
                    refine S.seq (S.seq (S.region rfl ?_))
                    refine O.op (.p rfl) (.mv rfl) ?_
                    refine O.op (.p rfl) (.eql rfl rfl) ?_
                    refine O.slot 47 (v' := .bool false) rfl (congrArg Value.bool (by rfl)) ?_
                    refine O.nil ?_
                    refine S.condF rfl ?_
                    refine S.skip (S.seq (S.region rfl ?_))
                    refine O.op (.p rfl) (.mv rfl) ?_
                    refine O.op (.p rfl) (.mv rfl) ?_
                    refine O.op (.p rfl) (.len rfl Go.Proofs.Tryd.underlying22 rfl) ?_
                    refine O.op (.p rfl) (.lss rfl rfl) ?_
                    refine O.slot 61 (v' := .bool true) rfl (congrArg Value.bool (by exact decide_eq_true (by omega))) ?_
                    refine O.op (.p rfl) (.mv rfl) ?_
                    refine O.op (.p rfl) (.as rfl) ?_
                    refine O.op (.p rfl) (.as rfl) ?_
                    refine O.nil ?_
                    refine S.seq (S.seq (S.region rfl ?_))
                    refine O.op (.p rfl) (.mv rfl) ?_
                    refine O.op (.p rfl) (.not rfl) ?_
                    refine O.nil ?_
                    refine S.condF rfl ?_
                    refine S.skip (S.seq (S.seq (S.region rfl ?_)))
                    refine O.op (.p rfl) (.mv rfl) ?_
                    refine O.op (.p rfl) (.eql rfl rfl) ?_
                    refine O.slot 70 (v' := .bool true) rfl (congrArg Value.bool (by rfl)) ?_
                    refine O.nil ?_
                    refine S.condT rfl ?_
                    refine S.seq (S.region rfl ?_)
                    refine O.op (.p rfl) (.mv rfl) ?_
                    refine O.op (.p rfl) (.rem rfl rfl (by omega)) ?_
                    refine O.slot 72 (v' := .int .i64 ((i % 2 : Nat) : Int)) rfl (by exact rem_two i) ?_
                    refine O.op (.p rfl) (.eql rfl rfl) ?_
                    refine O.slot 73 (v' := .bool false) rfl (congrArg Value.bool (by exact decide_eq_false (by omega))) ?_
                    refine O.op (.p rfl) (.mv rfl) ?_
                    refine O.op (.p rfl) (.quo rfl rfl (by omega)) ?_
                    refine O.slot 75 (v' := .int .i64 ((i / 2 : Nat) : Int)) rfl (by exact quo_two (by omega)) ?_
                    refine O.op (.p rfl) (.as rfl) ?_
                    refine O.op (.p rfl) (.as rfl) ?_
                    refine O.nil ?_
                    refine S.seq (S.region rfl ?_)
                    refine O.op (.p rfl) (.mv rfl) ?_
                    refine O.op (.p rfl) (.mv rfl) ?_
                    refine O.op (.p rfl) (.len rfl Go.Proofs.Tryd.underlying22 rfl) ?_
                    refine O.op (.p rfl) (.mv rfl) ?_
                    refine O.op (.p rfl) (.len rfl Go.Proofs.Tryd.underlying22 rfl) ?_
                    refine O.op (.p rfl) (.min2 rfl rfl) ?_
                    refine O.slot 81 (v' := .int .i64 (mn : Int)) rfl (by exact hmn) ?_
                    refine O.op (.p rfl) (.mul rfl rfl (IntWalk.i64_in _ (by omega))) ?_
                    refine O.op (.p rfl) (.geq rfl rfl) ?_
                    refine O.slot 83 (v' := .bool false) rfl (congrArg Value.bool (by exact decide_eq_false (by omega))) ?_
                    refine O.nil ?_
                    refine S.condF rfl ?_
                    refine S.skip (S.seq (S.region rfl ?_))
                    refine O.op (.p rfl) (.mv rfl) ?_
                    refine O.nil ?_
                    refine S.condF rfl ?_
                    refine S.regionD (L := [0, 1, 2, 3, 4, 5, 6, 7, 8, 9, 10, 11, 12, 13]) FactDapart.mixed (by kernel_rfl) ?_
                    refine .quiet (.p rfl) rfl (fun _ => .mv rfl) ?_
                    refine .quiet (.p rfl) rfl (fun _ => .mv rfl) ?_
                    refine .quiet (.p rfl) rfl (fun _ => .mv rfl) ?_
                    refine OD.idx' (.p rfl) Go.Proofs.Tryd.underlying48 FactDapart.size25 rfl rfl (show _ = (((2) : Nat) : Int) by omega) (ha29) (by decide) (by first | omega | (simp; done) | (simp; omega) | decide) (fun p113 cs113 hp113 hr113 => ?_)
                    obtain ⟨rfl, _⟩ := hr113
                    refine .quiet (.p rfl) rfl (fun _ => .loadAt FactDapart.flat25 rfl hp113 rfl) ?_
                    refine OD.slot 114 (v' := .pointer (some ⟨d28, 0, none⟩)) rfl (by rfl) ?_
                    refine .quiet (.p rfl) rfl (fun _ => .mv rfl) ?_
                    refine .quiet (.p rfl) rfl (fun _ => .mv rfl) ?_
                    refine OD.idx' (.p rfl) Go.Proofs.Tryd.underlying22 FactDapart.size33 rfl rfl (show _ = (((q) : Nat) : Int) by omega) (ham) (by decide) (by first | omega | (simp; done) | (simp; omega) | decide) (fun p117 cs117 hp117 hr117 => ?_)
                    obtain ⟨a117, c117, rfl, hd117, hb1117, hb2117⟩ := DeedR.open hr117
                    refine .quiet (.p rfl) rfl (fun _ => .loadAgg Go.Proofs.Tryd.isAgg33 (by kernel_rfl) rfl hp117) ?_
                    refine OD.call0 (.p rfl) (by kernel_rfl) rfl FactDapart.ok20 rfl rfl ((mine_c (c := 121) (x := ms[q]) (by omega) (by omega))) ?_
                    rintro v119 _ ⟨rfl, rfl⟩
                    try simp only [List.cons_append, List.nil_append, List.append_nil]
                    refine OD.callSs (.p rfl) (by kernel_rfl) rfl FactDapart.ok17 rfl rfl (by repeat (first | exact Sels.nil | (apply Sels.cons; focus (repeat (first | exact Sel.here | apply Sel.there))))) (does_g (x := mineD 121 ms[q]) hatk2 ap2.di.ok hd117 (by simp [mineD, lk]) (by simp [mineD, lk]) (Nat.le_trans (show (mineD 121 ms[q]).2.2.2.2.1.length ≤ 300 from hb1) (by decide))) ?_
                    rintro v120 _ ⟨e120, m120, hst, rfl, rfl⟩
                    try simp only [List.cons_append, List.nil_append, List.append_nil]
                    obtain ⟨a2, htx⟩ := ap2.y (by omega) (by omega) hb1 hst
                    have hie : InI64 e120 := tx_in 121 ms (q + 1) _ (by rw [htx]; simp)
                    refine OD.litP (T := Rp.i64) (ys := [_]) (.p rfl) (by kernel_rfl) Go.Proofs.Tryd.underlying54 FactDapart.elem34 (by decide) rfl rfl ⟨⟨rfl, by first | assumption | (constructor <;> omega)⟩, trivial⟩ (by decide) (fun a121 c121 => ?_)
                    refine OD.appendO (.p rfl) (by kernel_rfl) (T := Rp.i64) Go.Proofs.Tryd.underlying54 FactDapart.elem34 (by decide) rfl rfl (by repeat (first | exact Sel.here | apply Sel.there)) (by repeat (first | exact Sel.here | apply Sel.there)) (by first | omega | (simp; done) | (simp; omega) | decide) (by first | omega | (simp; done) | (simp; omega) | decide) (fun a122 c122 => ?_)
                    refine .quiet (.p rfl) rfl (fun _ => .as rfl) ?_
                    refine .nil ?_
                    refine S.inBlock (S.region rfl ?_)
                    refine O.op (.p rfl) (.mv rfl) ?_
                    refine O.op (.p rfl) (.add rfl rfl (IntWalk.i64_in _ (by omega))) ?_
                    refine O.op (.p rfl) (.as rfl) ?_
                    refine O.nil ?_
                    simp only [List.length_singleton]
                    rw [htl, ← htx]
                    refine S.pk ?_ (S.weaken ?_ (ih (i + 1) ((p, q + 1)) (m120) (((s.1.1, s.1.2), (a122, c122))) (by (refine ⟨by omega, by simp only; omega, by simp only; omega, by simp only; omega, hnx, a2⟩)) (by omega)))
                    · repeat (first | exact Picks.all | exact Picks.nil | (apply Picks.cons; focus (repeat (first | exact Sel.here | apply Sel.there))) | apply Picks.skip)
                    repeat (first | exact Sub.nil | refine Sub.cons rfl ?_)
                  ·
                    obtain ⟨hvi, hvl, hnx⟩ := trn2_x hx5 hme hf.2.1 hf.2.2 hi
                    obtain ⟨hb1, hb2⟩ := hlx ls[p] (List.getElem_mem (by omega))
                    have htl := tx_len 120 ls (p := p) (by omega)
                    refine S.skip (S.seq (S.block (S.seq (S.region rfl ?_))))
                    refine O.op (.p rfl) (.mv rfl) ?_
                    refine O.op (.p rfl) (.as rfl) ?_
                    refine O.nil ?_
                    refine S.seq (S.seq (S.region rfl ?_))
                    refine O.op (.p rfl) (.mv rfl) ?_
                    refine O.op (.p rfl) (.eql rfl rfl) ?_
                    refine O.slot 47 (v' := .bool false) rfl (congrArg Value.bool (by rfl)) ?_
                    refine O.nil ?_
                    refine S.condF rfl ?_
                    refine S.skip (S.seq (S.region rfl ?_))
                    refine O.op (.p rfl) (.mv rfl) ?_
                    refine O.op (.p rfl) (.mv rfl) ?_
                    refine O.op (.p rfl) (.len rfl Go.Proofs.Tryd.underlying22 rfl) ?_
                    refine O.op (.p rfl) (.lss rfl rfl) ?_
                    refine O.slot 61 (v' := .bool true) rfl (congrArg Value.bool (by exact decide_eq_true (by omega))) ?_
                    refine O.op (.p rfl) (.mv rfl) ?_
                    refine O.op (.p rfl) (.as rfl) ?_
                    refine O.op (.p rfl) (.as rfl) ?_
                    refine O.nil ?_
                    refine S.seq (S.seq (S.region rfl ?_))
                    refine O.op (.p rfl) (.mv rfl) ?_
                    refine O.op (.p rfl) (.not rfl) ?_
                    refine O.nil ?_
                    refine S.condF rfl ?_
                    refine S.skip (S.seq (S.seq (S.region rfl ?_)))
                    refine O.op (.p rfl) (.mv rfl) ?_
                    refine O.op (.p rfl) (.eql rfl rfl) ?_
                    refine O.slot 70 (v' := .bool true) rfl (congrArg Value.bool (by rfl)) ?_
                    refine O.nil ?_
                    refine S.condT rfl ?_
                    refine S.seq (S.region rfl ?_)
                    refine O.op (.p rfl) (.mv rfl) ?_
                    refine O.op (.p rfl) (.rem rfl rfl (by omega)) ?_
                    refine O.slot 72 (v' := .int .i64 ((i % 2 : Nat) : Int)) rfl (by exact rem_two i) ?_
                    refine O.op (.p rfl) (.eql rfl rfl) ?_
                    refine O.op (.p rfl) (.mv rfl) ?_
                    refine O.op (.p rfl) (.quo rfl rfl (by omega)) ?_
                    refine O.slot 75 (v' := .int .i64 ((i / 2 : Nat) : Int)) rfl (by exact quo_two (by omega)) ?_
                    refine O.op (.p rfl) (.as rfl) ?_
                    refine O.op (.p rfl) (.as rfl) ?_
                    refine O.nil ?_
                    refine S.seq (S.region rfl ?_)
                    refine O.op (.p rfl) (.mv rfl) ?_
                    refine O.op (.p rfl) (.mv rfl) ?_
                    refine O.op (.p rfl) (.len rfl Go.Proofs.Tryd.underlying22 rfl) ?_
                    refine O.op (.p rfl) (.mv rfl) ?_
                    refine O.op (.p rfl) (.len rfl Go.Proofs.Tryd.underlying22 rfl) ?_
                    refine O.op (.p rfl) (.min2 rfl rfl) ?_
                    refine O.slot 81 (v' := .int .i64 (mn : Int)) rfl (by exact hmn) ?_
                    refine O.op (.p rfl) (.mul rfl rfl (IntWalk.i64_in _ (by omega))) ?_
                    refine O.op (.p rfl) (.geq rfl rfl) ?_
                    refine O.slot 83 (v' := .bool true) rfl (congrArg Value.bool (by exact decide_eq_true (by omega))) ?_
                    refine O.nil ?_
                    refine S.condT rfl ?_
                    refine S.region rfl ?_
                    refine O.op (.p rfl) (.mv rfl) ?_
                    refine O.op (.p rfl) (.len rfl Go.Proofs.Tryd.underlying22 rfl) ?_
                    refine O.op (.p rfl) (.mv rfl) ?_
                    refine O.op (.p rfl) (.len rfl Go.Proofs.Tryd.underlying22 rfl) ?_
                    refine O.op (.p rfl) (.gtr rfl rfl) ?_
                    refine O.slot 88 (v' := .bool true) rfl (congrArg Value.bool (by exact decide_eq_true (by omega))) ?_
                    refine O.op (.p rfl) (.mv rfl) ?_
                    refine O.op (.p rfl) (.mv rfl) ?_
                    refine O.op (.p rfl) (.len rfl Go.Proofs.Tryd.underlying22 rfl) ?_
                    refine O.op (.p rfl) (.mv rfl) ?_
                    refine O.op (.p rfl) (.len rfl Go.Proofs.Tryd.underlying22 rfl) ?_
                    refine O.op (.p rfl) (.min2 rfl rfl) ?_
                    refine O.slot 94 (v' := .int .i64 (mn : Int)) rfl (by exact hmn) ?_
                    refine O.op (.p rfl) (.sub rfl rfl (IntWalk.i64_in _ (by omega))) ?_
                    refine O.op (.p rfl) (.as rfl) ?_
                    refine O.op (.p rfl) (.as rfl) ?_
                    refine O.nil ?_
                    refine S.seq (S.region rfl ?_)
                    refine O.op (.p rfl) (.mv rfl) ?_
                    refine O.nil ?_
                    refine S.condT rfl ?_
                    refine S.regionD (L := [0, 1, 2, 3, 4, 5, 6, 7, 8, 9, 10, 11, 12, 13]) FactDapart.mixed (by kernel_rfl) ?_
                    refine .quiet (.p rfl) rfl (fun _ => .mv rfl) ?_
                    refine .quiet (.p rfl) rfl (fun _ => .mv rfl) ?_
                    refine .quiet (.p rfl) rfl (fun _ => .mv rfl) ?_
                    refine OD.idx' (.p rfl) Go.Proofs.Tryd.underlying48 FactDapart.size25 rfl rfl (show _ = (((2) : Nat) : Int) by omega) (ha29) (by decide) (by first | omega | (simp; done) | (simp; omega) | decide) (fun p100 cs100 hp100 hr100 => ?_)
                    obtain ⟨rfl, _⟩ := hr100
                    refine .quiet (.p rfl) rfl (fun _ => .loadAt FactDapart.flat25 rfl hp100 rfl) ?_
                    refine OD.slot 101 (v' := .pointer (some ⟨d28, 0, none⟩)) rfl (by rfl) ?_
                    refine .quiet (.p rfl) rfl (fun _ => .mv rfl) ?_
                    refine .quiet (.p rfl) rfl (fun _ => .mv rfl) ?_
                    refine OD.idx' (.p rfl) Go.Proofs.Tryd.underlying22 FactDapart.size33 rfl rfl (show _ = (((p) : Nat) : Int) by omega) (hal) (by decide) (by first | omega | (simp; done) | (simp; omega) | decide) (fun p104 cs104 hp104 hr104 => ?_)
                    obtain ⟨a104, c104, rfl, hd104, hb1104, hb2104⟩ := DeedR.open hr104
                    refine .quiet (.p rfl) rfl (fun _ => .loadAgg Go.Proofs.Tryd.isAgg33 (by kernel_rfl) rfl hp104) ?_
                    refine OD.call0 (.p rfl) (by kernel_rfl) rfl FactDapart.ok20 rfl rfl ((mine_c (c := 120) (x := ls[p]) (by omega) (by omega))) ?_
                    rintro v106 _ ⟨rfl, rfl⟩
                    try simp only [List.cons_append, List.nil_append, List.append_nil]
                    refine OD.callSs (.p rfl) (by kernel_rfl) rfl FactDapart.ok17 rfl rfl (by repeat (first | exact Sels.nil | (apply Sels.cons; focus (repeat (first | exact Sel.here | apply Sel.there))))) (does_g (x := mineD 120 ls[p]) hatk2 ap2.di.ok hd104 (by simp [mineD, lk]) (by simp [mineD, lk]) (Nat.le_trans (show (mineD 120 ls[p]).2.2.2.2.1.length ≤ 300 from hb1) (by decide))) ?_
                    rintro v107 _ ⟨e107, m107, hst, rfl, rfl⟩
                    try simp only [List.cons_append, List.nil_append, List.append_nil]
                    obtain ⟨a2, htx⟩ := ap2.x (by omega) (by omega) hb1 hst
                    have hie : InI64 e107 := tx_in 120 ls (p + 1) _ (by rw [htx]; simp)
                    refine OD.litP (T := Rp.i64) (ys := [_]) (.p rfl) (by kernel_rfl) Go.Proofs.Tryd.underlying54 FactDapart.elem34 (by decide) rfl rfl ⟨⟨rfl, by first | assumption | (constructor <;> omega)⟩, trivial⟩ (by decide) (fun a108 c108 => ?_)
                    refine OD.appendO (.p rfl) (by kernel_rfl) (T := Rp.i64) Go.Proofs.Tryd.underlying54 FactDapart.elem34 (by decide) rfl rfl (by repeat (first | exact Sel.here | apply Sel.there)) (by repeat (first | exact Sel.here | apply Sel.there)) (by first | omega | (simp; done) | (simp; omega) | decide) (by first | omega | (simp; done) | (simp; omega) | decide) (fun a109 c109 => ?_)
                    refine .quiet (.p rfl) rfl (fun _ => .as rfl) ?_
                    refine .nil ?_
                    refine S.inBlock (S.region rfl ?_)
                    refine O.op (.p rfl) (.mv rfl) ?_
                    refine O.op (.p rfl) (.add rfl rfl (IntWalk.i64_in _ (by omega))) ?_
                    refine O.op (.p rfl) (.as rfl) ?_
                    refine O.nil ?_
                    simp only [List.length_singleton]
                    rw [htl, ← htx]
                    refine S.pk ?_ (S.weaken ?_ (ih (i + 1) ((p + 1, q)) (m107) (((a109, c109), (s.2.1, s.2.2))) (by (refine ⟨by omega, by simp only; omega, by simp only; omega, by simp only; omega, hnx, a2⟩)) (by omega)))
                    · repeat (first | exact Picks.all | exact Picks.nil | (apply Picks.cons; focus (repeat (first | exact Sel.here | apply Sel.there))) | apply Picks.skip)
                    repeat (first | exact Sub.nil | refine Sub.cons rfl ?_)
                  ·
                    obtain ⟨hvi, hvl, hnx⟩ := trn2_y hx5 hme hf.2.1 hf.2.2 hi
                    obtain ⟨hb1, hb2⟩ := hmx ms[q] (List.getElem_mem (by omega))
                    have htl := tx_len 121 ms (p := q) (by omega)
                    refine S.skip (S.seq (S.block (S.seq (S.region rfl ?_))))
                    refine O.op (.p rfl) (.mv rfl) ?_
                    refine O.op (.p rfl) (.as rfl) ?_
                    refine O.nil ?_
                    refine S.seq (S.seq (S.region rfl ?_))
                    refine O.op (.p rfl) (.mv rfl) ?_
                    refine O.op (.p rfl) (.eql rfl rfl) ?_
                    refine O.slot 47 (v' := .bool false) rfl (congrArg Value.bool (by rfl)) ?_
                    refine O.nil ?_
                    refine S.condF rfl ?_
                    refine S.skip (S.seq (S.region rfl ?_))
                    refine O.op (.p rfl) (.mv rfl) ?_
                    refine O.op (.p rfl) (.mv rfl) ?_
                    refine O.op (.p rfl) (.len rfl Go.Proofs.Tryd.underlying22 rfl) ?_
                    refine O.op (.p rfl) (.lss rfl rfl) ?_
                    refine O.slot 61 (v' := .bool true) rfl (congrArg Value.bool (by exact decide_eq_true (by omega))) ?_
                    refine O.op (.p rfl) (.mv rfl) ?_
                    refine O.op (.p rfl) (.as rfl) ?_
                    refine O.op (.p rfl) (.as rfl) ?_
                    refine O.nil ?_
                    refine S.seq (S.seq (S.region rfl ?_))
                    refine O.op (.p rfl) (.mv rfl) ?_
                    refine O.op (.p rfl) (.not rfl) ?_
                    refine O.nil ?_
                    refine S.condF rfl ?_
                    refine S.skip (S.seq (S.seq (S.region rfl ?_)))
                    refine O.op (.p rfl) (.mv rfl) ?_
                    refine O.op (.p rfl) (.eql rfl rfl) ?_
                    refine O.slot 70 (v' := .bool true) rfl (congrArg Value.bool (by rfl)) ?_
                    refine O.nil ?_
                    refine S.condT rfl ?_
                    refine S.seq (S.region rfl ?_)
                    refine O.op (.p rfl) (.mv rfl) ?_
                    refine O.op (.p rfl) (.rem rfl rfl (by omega)) ?_
                    refine O.slot 72 (v' := .int .i64 ((i % 2 : Nat) : Int)) rfl (by exact rem_two i) ?_
                    refine O.op (.p rfl) (.eql rfl rfl) ?_
                    refine O.op (.p rfl) (.mv rfl) ?_
                    refine O.op (.p rfl) (.quo rfl rfl (by omega)) ?_
                    refine O.slot 75 (v' := .int .i64 ((i / 2 : Nat) : Int)) rfl (by exact quo_two (by omega)) ?_
                    refine O.op (.p rfl) (.as rfl) ?_
                    refine O.op (.p rfl) (.as rfl) ?_
                    refine O.nil ?_
                    refine S.seq (S.region rfl ?_)
                    refine O.op (.p rfl) (.mv rfl) ?_
                    refine O.op (.p rfl) (.mv rfl) ?_
                    refine O.op (.p rfl) (.len rfl Go.Proofs.Tryd.underlying22 rfl) ?_
                    refine O.op (.p rfl) (.mv rfl) ?_
                    refine O.op (.p rfl) (.len rfl Go.Proofs.Tryd.underlying22 rfl) ?_
                    refine O.op (.p rfl) (.min2 rfl rfl) ?_
                    refine O.slot 81 (v' := .int .i64 (mn : Int)) rfl (by exact hmn) ?_
                    refine O.op (.p rfl) (.mul rfl rfl (IntWalk.i64_in _ (by omega))) ?_
                    refine O.op (.p rfl) (.geq rfl rfl) ?_
                    refine O.slot 83 (v' := .bool true) rfl (congrArg Value.bool (by exact decide_eq_true (by omega))) ?_
                    refine O.nil ?_
                    refine S.condT rfl ?_
                    refine S.region rfl ?_
                    refine O.op (.p rfl) (.mv rfl) ?_
                    refine O.op (.p rfl) (.len rfl Go.Proofs.Tryd.underlying22 rfl) ?_
                    refine O.op (.p rfl) (.mv rfl) ?_
                    refine O.op (.p rfl) (.len rfl Go.Proofs.Tryd.underlying22 rfl) ?_
                    refine O.op (.p rfl) (.gtr rfl rfl) ?_
                    refine O.slot 88 (v' := .bool false) rfl (congrArg Value.bool (by exact decide_eq_false (by omega))) ?_
                    refine O.op (.p rfl) (.mv rfl) ?_
                    refine O.op (.p rfl) (.mv rfl) ?_
                    refine O.op (.p rfl) (.len rfl Go.Proofs.Tryd.underlying22 rfl) ?_
                    refine O.op (.p rfl) (.mv rfl) ?_
                    refine O.op (.p rfl) (.len rfl Go.Proofs.Tryd.underlying22 rfl) ?_
                    refine O.op (.p rfl) (.min2 rfl rfl) ?_
                    refine O.slot 94 (v' := .int .i64 (mn : Int)) rfl (by exact hmn) ?_
                    refine O.op (.p rfl) (.sub rfl rfl (IntWalk.i64_in _ (by omega))) ?_
                    refine O.op (.p rfl) (.as rfl) ?_
                    refine O.op (.p rfl) (.as rfl) ?_
                    refine O.nil ?_
                    refine S.seq (S.region rfl ?_)
                    refine O.op (.p rfl) (.mv rfl) ?_
                    refine O.nil ?_
                    refine S.condF rfl ?_
                    refine S.regionD (L := [0, 1, 2, 3, 4, 5, 6, 7, 8, 9, 10, 11, 12, 13]) FactDapart.mixed (by kernel_rfl) ?_
                    refine .quiet (.p rfl) rfl (fun _ => .mv rfl) ?_
                    refine .quiet (.p rfl) rfl (fun _ => .mv rfl) ?_
                    refine .quiet (.p rfl) rfl (fun _ => .mv rfl) ?_
                    refine OD.idx' (.p rfl) Go.Proofs.Tryd.underlying48 FactDapart.size25 rfl rfl (show _ = (((2) : Nat) : Int) by omega) (ha29) (by decide) (by first | omega | (simp; done) | (simp; omega) | decide) (fun p113 cs113 hp113 hr113 => ?_)
                    obtain ⟨rfl, _⟩ := hr113
                    refine .quiet (.p rfl) rfl (fun _ => .loadAt FactDapart.flat25 rfl hp113 rfl) ?_
                    refine OD.slot 114 (v' := .pointer (some ⟨d28, 0, none⟩)) rfl (by rfl) ?_
                    refine .quiet (.p rfl) rfl (fun _ => .mv rfl) ?_
                    refine .quiet (.p rfl) rfl (fun _ => .mv rfl) ?_
                    refine OD.idx' (.p rfl) Go.Proofs.Tryd.underlying22 FactDapart.size33 rfl rfl (show _ = (((q) : Nat) : Int) by omega) (ham) (by decide) (by first | omega | (simp; done) | (simp; omega) | decide) (fun p117 cs117 hp117 hr117 => ?_)
                    obtain ⟨a117, c117, rfl, hd117, hb1117, hb2117⟩ := DeedR.open hr117
                    refine .quiet (.p rfl) rfl (fun _ => .loadAgg Go.Proofs.Tryd.isAgg33 (by kernel_rfl) rfl hp117) ?_
                    refine OD.call0 (.p rfl) (by kernel_rfl) rfl FactDapart.ok20 rfl rfl ((mine_c (c := 121) (x := ms[q]) (by omega) (by omega))) ?_
                    rintro v119 _ ⟨rfl, rfl⟩
                    try simp only [List.cons_append, List.nil_append, List.append_nil]
                    refine OD.callSs (.p rfl) (by kernel_rfl) rfl FactDapart.ok17 rfl rfl (by repeat (first | exact Sels.nil | (apply Sels.cons; focus (repeat (first | exact Sel.here | apply Sel.there))))) (does_g (x := mineD 121 ms[q]) hatk2 ap2.di.ok hd117 (by simp [mineD, lk]) (by simp [mineD, lk]) (Nat.le_trans (show (mineD 121 ms[q]).2.2.2.2.1.length ≤ 300 from hb1) (by decide))) ?_
                    rintro v120 _ ⟨e120, m120, hst, rfl, rfl⟩
                    try simp only [List.cons_append, List.nil_append, List.append_nil]
                    obtain ⟨a2, htx⟩ := ap2.y (by omega) (by omega) hb1 hst
                    have hie : InI64 e120 := tx_in 121 ms (q + 1) _ (by rw [htx]; simp)
                    refine OD.litP (T := Rp.i64) (ys := [_]) (.p rfl) (by kernel_rfl) Go.Proofs.Tryd.underlying54 FactDapart.elem34 (by decide) rfl rfl ⟨⟨rfl, by first | assumption | (constructor <;> omega)⟩, trivial⟩ (by decide) (fun a121 c121 => ?_)
                    refine OD.appendO (.p rfl) (by kernel_rfl) (T := Rp.i64) Go.Proofs.Tryd.underlying54 FactDapart.elem34 (by decide) rfl rfl (by repeat (first | exact Sel.here | apply Sel.there)) (by repeat (first | exact Sel.here | apply Sel.there)) (by first | omega | (simp; done) | (simp; omega) | decide) (by first | omega | (simp; done) | (simp; omega) | decide) (fun a122 c122 => ?_)
                    refine .quiet (.p rfl) rfl (fun _ => .as rfl) ?_
                    refine .nil ?_
                    refine S.inBlock (S.region rfl ?_)
                    refine O.op (.p rfl) (.mv rfl) ?_
                    refine O.op (.p rfl) (.add rfl rfl (IntWalk.i64_in _ (by omega))) ?_
                    refine O.op (.p rfl) (.as rfl) ?_
                    refine O.nil ?_
                    simp only [List.length_singleton]
                    rw [htl, ← htx]
                    refine S.pk ?_ (S.weaken ?_ (ih (i + 1) ((p, q + 1)) (m120) (((s.1.1, s.1.2), (a122, c122))) (by (refine ⟨by omega, by simp only; omega, by simp only; omega, by simp only; omega, hnx, a2⟩)) (by omega)))
                    · repeat (first | exact Picks.all | exact Picks.nil | (apply Picks.cons; focus (repeat (first | exact Sel.here | apply Sel.there))) | apply Picks.skip)
                    repeat (first | exact Sub.nil | refine Sub.cons rfl ?_)
                  ·
                    obtain ⟨hvi, hvl, hnx⟩ := trn2_ev hx5 hme hf.2.1 hf.2.2
                    obtain ⟨hb1, hb2⟩ := hlx ls[p] (List.getElem_mem (by omega))
                    have htl := tx_len 120 ls (p := p) (by omega)
                    refine S.skip (S.seq (S.block (S.seq (S.region rfl ?_))))
                    refine O.op (.p rfl) (.mv rfl) ?_
                    refine O.op (.p rfl) (.as rfl) ?_
                    refine O.nil ?_
                    refine S.seq (S.seq (S.region rfl ?_))
                    refine O.op (.p rfl) (.mv rfl) ?_
                    refine O.op (.p rfl) (.eql rfl rfl) ?_
                    refine O.slot 47 (v' := .bool false) rfl (congrArg Value.bool (by rfl)) ?_
                    refine O.nil ?_
                    refine S.condF rfl ?_
                    refine S.skip (S.seq (S.region rfl ?_))
                    refine O.op (.p rfl) (.mv rfl) ?_
                    refine O.op (.p rfl) (.mv rfl) ?_
                    refine O.op (.p rfl) (.len rfl Go.Proofs.Tryd.underlying22 rfl) ?_
                    refine O.op (.p rfl) (.lss rfl rfl) ?_
                    refine O.slot 61 (v' := .bool false) rfl (congrArg Value.bool (by exact decide_eq_false (by omega))) ?_
                    refine O.op (.p rfl) (.mv rfl) ?_
                    refine O.op (.p rfl) (.as rfl) ?_
                    refine O.op (.p rfl) (.as rfl) ?_
                    refine O.nil ?_
                    refine S.seq (S.seq (S.region rfl ?_))
                    refine O.op (.p rfl) (.mv rfl) ?_
                    refine O.op (.p rfl) (.not rfl) ?_
                    refine O.nil ?_
                    refine S.condT rfl ?_
                    refine S.region rfl ?_
                    refine O.op (.p rfl) (.mv rfl) ?_
                    refine O.op (.p rfl) (.mv rfl) ?_
                    refine O.op (.p rfl) (.len rfl Go.Proofs.Tryd.underlying22 rfl) ?_
                    refine O.op (.p rfl) (.sub rfl rfl (IntWalk.i64_in _ (by omega))) ?_
                    refine O.op (.p rfl) (.as rfl) ?_
                    refine O.nil ?_
                    refine S.seq (S.seq (S.region rfl ?_))
                    refine O.op (.p rfl) (.mv rfl) ?_
                    refine O.op (.p rfl) (.eql rfl rfl) ?_
                    refine O.slot 70 (v' := .bool true) rfl (congrArg Value.bool (by rfl)) ?_
                    refine O.nil ?_
                    refine S.condT rfl ?_
                    refine S.seq (S.region rfl ?_)
                    refine O.op (.p rfl) (.mv rfl) ?_
                    refine O.op (.p rfl) (.rem rfl rfl (by omega)) ?_
                    refine O.slot 72 (v' := .int .i64 ((i % 2 : Nat) : Int)) rfl (by exact rem_two i) ?_
                    refine O.op (.p rfl) (.eql rfl rfl) ?_
                    refine O.slot 73 (v' := .bool true) rfl (congrArg Value.bool (by exact decide_eq_true (by omega))) ?_
                    refine O.op (.p rfl) (.mv rfl) ?_
                    refine O.op (.p rfl) (.quo rfl rfl (by omega)) ?_
                    refine O.slot 75 (v' := .int .i64 ((i / 2 : Nat) : Int)) rfl (by exact quo_two (by omega)) ?_
                    refine O.op (.p rfl) (.as rfl) ?_
                    refine O.op (.p rfl) (.as rfl) ?_
                    refine O.nil ?_
                    refine S.seq (S.region rfl ?_)
                    refine O.op (.p rfl) (.mv rfl) ?_
                    refine O.op (.p rfl) (.mv rfl) ?_
                    refine O.op (.p rfl) (.len rfl Go.Proofs.Tryd.underlying22 rfl) ?_
                    refine O.op (.p rfl) (.mv rfl) ?_
                    refine O.op (.p rfl) (.len rfl Go.Proofs.Tryd.underlying22 rfl) ?_
                    refine O.op (.p rfl) (.min2 rfl rfl) ?_
                    refine O.slot 81 (v' := .int .i64 (mn : Int)) rfl (by exact hmn) ?_
                    refine O.op (.p rfl) (.mul rfl rfl (IntWalk.i64_in _ (by omega))) ?_
                    refine O.op (.p rfl) (.geq rfl rfl) ?_
                    refine O.slot 83 (v' := .bool false) rfl (congrArg Value.bool (by exact decide_eq_false (by omega))) ?_
                    refine O.nil ?_
                    refine S.condF rfl ?_
                    refine S.skip (S.seq (S.region rfl ?_))
                    refine O.op (.p rfl) (.mv rfl) ?_
                    refine O.nil ?_
                    refine S.condT rfl ?_
                    refine S.regionD (L := [0, 1, 2, 3, 4, 5, 6, 7, 8, 9, 10, 11, 12, 13]) FactDapart.mixed (by kernel_rfl) ?_
                    refine .quiet (.p rfl) rfl (fun _ => .mv rfl) ?_
                    refine .quiet (.p rfl) rfl (fun _ => .mv rfl) ?_
                    refine .quiet (.p rfl) rfl (fun _ => .mv rfl) ?_
                    refine OD.idx' (.p rfl) Go.Proofs.Tryd.underlying48 FactDapart.size25 rfl rfl (show _ = (((2) : Nat) : Int) by omega) (ha29) (by decide) (by first | omega | (simp; done) | (simp; omega) | decide) (fun p100 cs100 hp100 hr100 => ?_)
                    obtain ⟨rfl, _⟩ := hr100
                    refine .quiet (.p rfl) rfl (fun _ => .loadAt FactDapart.flat25 rfl hp100 rfl) ?_
                    refine OD.slot 101 (v' := .pointer (some ⟨d28, 0, none⟩)) rfl (by rfl) ?_
                    refine .quiet (.p rfl) rfl (fun _ => .mv rfl) ?_
                    refine .quiet (.p rfl) rfl (fun _ => .mv rfl) ?_
                    refine OD.idx' (.p rfl) Go.Proofs.Tryd.underlying22 FactDapart.size33 rfl rfl (show _ = (((p) : Nat) : Int) by omega) (hal) (by decide) (by first | omega | (simp; done) | (simp; omega) | decide) (fun p104 cs104 hp104 hr104 => ?_)
                    obtain ⟨a104, c104, rfl, hd104, hb1104, hb2104⟩ := DeedR.open hr104
                    refine .quiet (.p rfl) rfl (fun _ => .loadAgg Go.Proofs.Tryd.isAgg33 (by kernel_rfl) rfl hp104) ?_
                    refine OD.call0 (.p rfl) (by kernel_rfl) rfl FactDapart.ok20 rfl rfl ((mine_c (c := 120) (x := ls[p]) (by omega) (by omega))) ?_
                    rintro v106 _ ⟨rfl, rfl⟩
                    try simp only [List.cons_append, List.nil_append, List.append_nil]
                    refine OD.callSs (.p rfl) (by kernel_rfl) rfl FactDapart.ok17 rfl rfl (by repeat (first | exact Sels.nil | (apply Sels.cons; focus (repeat (first | exact Sel.here | apply Sel.there))))) (does_g (x := mineD 120 ls[p]) hatk2 ap2.di.ok hd104 (by simp [mineD, lk]) (by simp [mineD, lk]) (Nat.le_trans (show (mineD 120 ls[p]).2.2.2.2.1.length ≤ 300 from hb1) (by decide))) ?_
                    rintro v107 _ ⟨e107, m107, hst, rfl, rfl⟩
                    try simp only [List.cons_append, List.nil_append, List.append_nil]
                    obtain ⟨a2, htx⟩ := ap2.x (by omega) (by omega) hb1 hst
                    have hie : InI64 e107 := tx_in 120 ls (p + 1) _ (by rw [htx]; simp)
                    refine OD.litP (T := Rp.i64) (ys := [_]) (.p rfl) (by kernel_rfl) Go.Proofs.Tryd.underlying54 FactDapart.elem34 (by decide) rfl rfl ⟨⟨rfl, by first | assumption | (constructor <;> omega)⟩, trivial⟩ (by decide) (fun a108 c108 => ?_)
                    refine OD.appendO (.p rfl) (by kernel_rfl) (T := Rp.i64) Go.Proofs.Tryd.underlying54 FactDapart.elem34 (by decide) rfl rfl (by repeat (first | exact Sel.here | apply Sel.there)) (by repeat (first | exact Sel.here | apply Sel.there)) (by first | omega | (simp; done) | (simp; omega) | decide) (by first | omega | (simp; done) | (simp; omega) | decide) (fun a109 c109 => ?_)
                    refine .quiet (.p rfl) rfl (fun _ => .as rfl) ?_
                    refine .nil ?_
                    refine S.inBlock (S.region rfl ?_)
                    refine O.op (.p rfl) (.mv rfl) ?_
                    refine O.op (.p rfl) (.add rfl rfl (IntWalk.i64_in _ (by omega))) ?_
                    refine O.op (.p rfl) (.as rfl) ?_
                    refine O.nil ?_
                    simp only [List.length_singleton]
                    rw [htl, ← htx]
                    refine S.pk ?_ (S.weaken ?_ (ih (i + 1) ((p + 1, q)) (m107) (((a109, c109), (s.2.1, s.2.2))) (by (refine ⟨by omega, by simp only; omega, by simp only; omega, by simp only; omega, hnx, a2⟩)) (by omega)))
                    · repeat (first | exact Picks.all | exact Picks.nil | (apply Picks.cons; focus (repeat (first | exact Sel.here | apply Sel.there))) | apply Picks.skip)
                    repeat (first | exact Sub.nil | refine Sub.cons rfl ?_)
                  ·
                    obtain ⟨hvi, hvl, hnx⟩ := trn2_od hx5 hme hf.2.1 hf.2.2
                    obtain ⟨hb1, hb2⟩ := hmx ms[q] (List.getElem_mem (by omega))
                    have htl := tx_len 121 ms (p := q) (by omega)
                    refine S.skip (S.seq (S.block (S.seq (S.region rfl ?_))))
                    refine O.op (.p rfl) (.mv rfl) ?_
                    refine O.op (.p rfl) (.as rfl) ?_
                    refine O.nil ?_
                    refine S.seq (S.seq (S.region rfl ?_))
                    refine O.op (.p rfl) (.mv rfl) ?_
                    refine O.op (.p rfl) (.eql rfl rfl) ?_
                    refine O.slot 47 (v' := .bool false) rfl (congrArg Value.bool (by rfl)) ?_
                    refine O.nil ?_
                    refine S.condF rfl ?_
                    refine S.skip (S.seq (S.region rfl ?_))
                    refine O.op (.p rfl) (.mv rfl) ?_
                    refine O.op (.p rfl) (.mv rfl) ?_
                    refine O.op (.p rfl) (.len rfl Go.Proofs.Tryd.underlying22 rfl) ?_
                    refine O.op (.p rfl) (.lss rfl rfl) ?_
                    refine O.slot 61 (v' := .bool false) rfl (congrArg Value.bool (by exact decide_eq_false (by omega))) ?_
                    refine O.op (.p rfl) (.mv rfl) ?_
                    refine O.op (.p rfl) (.as rfl) ?_
                    refine O.op (.p rfl) (.as rfl) ?_
                    refine O.nil ?_
                    refine S.seq (S.seq (S.region rfl ?_))
                    refine O.op (.p rfl) (.mv rfl) ?_
                    refine O.op (.p rfl) (.not rfl) ?_
                    refine O.nil ?_
                    refine S.condT rfl ?_
                    refine S.region rfl ?_
                    refine O.op (.p rfl) (.mv rfl) ?_
                    refine O.op (.p rfl) (.mv rfl) ?_
                    refine O.op (.p rfl) (.len rfl Go.Proofs.Tryd.underlying22 rfl) ?_
                    refine O.op (.p rfl) (.sub rfl rfl (IntWalk.i64_in _ (by omega))) ?_
                    refine O.op (.p rfl) (.as rfl) ?_
                    refine O.nil ?_
                    refine S.seq (S.seq (S.region rfl ?_))
                    refine O.op (.p rfl) (.mv rfl) ?_
                    refine O.op (.p rfl) (.eql rfl rfl) ?_
                    refine O.slot 70 (v' := .bool true) rfl (congrArg Value.bool (by rfl)) ?_
                    refine O.nil ?_
                    refine S.condT rfl ?_
                    refine S.seq (S.region rfl ?_)
                    refine O.op (.p rfl) (.mv rfl) ?_
                    refine O.op (.p rfl) (.rem rfl rfl (by omega)) ?_
                    refine O.slot 72 (v' := .int .i64 ((i % 2 : Nat) : Int)) rfl (by exact rem_two i) ?_
                    refine O.op (.p rfl) (.eql rfl rfl) ?_
                    refine O.slot 73 (v' := .bool false) rfl (congrArg Value.bool (by exact decide_eq_false (by omega))) ?_
                    refine O.op (.p rfl) (.mv rfl) ?_
                    refine O.op (.p rfl) (.quo rfl rfl (by omega)) ?_
                    refine O.slot 75 (v' := .int .i64 ((i / 2 : Nat) : Int)) rfl (by exact quo_two (by omega)) ?_
                    refine O.op (.p rfl) (.as rfl) ?_
                    refine O.op (.p rfl) (.as rfl) ?_
                    refine O.nil ?_
                    refine S.seq (S.region rfl ?_)
                    refine O.op (.p rfl) (.mv rfl) ?_
                    refine O.op (.p rfl) (.mv rfl) ?_
                    refine O.op (.p rfl) (.len rfl Go.Proofs.Tryd.underlying22 rfl) ?_
                    refine O.op (.p rfl) (.mv rfl) ?_
                    refine O.op (.p rfl) (.len rfl Go.Proofs.Tryd.underlying22 rfl) ?_
                    refine O.op (.p rfl) (.min2 rfl rfl) ?_
                    refine O.slot 81 (v' := .int .i64 (mn : Int)) rfl (by exact hmn) ?_
                    refine O.op (.p rfl) (.mul rfl rfl (IntWalk.i64_in _ (by omega))) ?_
                    refine O.op (.p rfl) (.geq rfl rfl) ?_
                    refine O.slot 83 (v' := .bool false) rfl (congrArg Value.bool (by exact decide_eq_false (by omega))) ?_
                    refine O.nil ?_
                    refine S.condF rfl ?_
                    refine S.skip (S.seq (S.region rfl ?_))
                    refine O.op (.p rfl) (.mv rfl) ?_
                    refine O.nil ?_
                    refine S.condF rfl ?_
                    refine S.regionD (L := [0, 1, 2, 3, 4, 5, 6, 7, 8, 9, 10, 11, 12, 13]) FactDapart.mixed (by kernel_rfl) ?_
                    refine .quiet (.p rfl) rfl (fun _ => .mv rfl) ?_
                    refine .quiet (.p rfl) rfl (fun _ => .mv rfl) ?_
                    refine .quiet (.p rfl) rfl (fun _ => .mv rfl) ?_
                    refine OD.idx' (.p rfl) Go.Proofs.Tryd.underlying48 FactDapart.size25 rfl rfl (show _ = (((2) : Nat) : Int) by omega) (ha29) (by decide) (by first | omega | (simp; done) | (simp; omega) | decide) (fun p113 cs113 hp113 hr113 => ?_)
                    obtain ⟨rfl, _⟩ := hr113
                    refine .quiet (.p rfl) rfl (fun _ => .loadAt FactDapart.flat25 rfl hp113 rfl) ?_
                    refine OD.slot 114 (v' := .pointer (some ⟨d28, 0, none⟩)) rfl (by rfl) ?_
                    refine .quiet (.p rfl) rfl (fun _ => .mv rfl) ?_
                    refine .quiet (.p rfl) rfl (fun _ => .mv rfl) ?_
                    refine OD.idx' (.p rfl) Go.Proofs.Tryd.underlying22 FactDapart.size33 rfl rfl (show _ = (((q) : Nat) : Int) by omega) (ham) (by decide) (by first | omega | (simp; done) | (simp; omega) | decide) (fun p117 cs117 hp117 hr117 => ?_)
                    obtain ⟨a117, c117, rfl, hd117, hb1117, hb2117⟩ := DeedR.open hr117
                    refine .quiet (.p rfl) rfl (fun _ => .loadAgg Go.Proofs.Tryd.isAgg33 (by kernel_rfl) rfl hp117) ?_
                    refine OD.call0 (.p rfl) (by kernel_rfl) rfl FactDapart.ok20 rfl rfl ((mine_c (c := 121) (x := ms[q]) (by omega) (by omega))) ?_
                    rintro v119 _ ⟨rfl, rfl⟩
                    try simp only [List.cons_append, List.nil_append, List.append_nil]
                    refine OD.callSs (.p rfl) (by kernel_rfl) rfl FactDapart.ok17 rfl rfl (by repeat (first | exact Sels.nil | (apply Sels.cons; focus (repeat (first | exact Sel.here | apply Sel.there))))) (does_g (x := mineD 121 ms[q]) hatk2 ap2.di.ok hd117 (by simp [mineD, lk]) (by simp [mineD, lk]) (Nat.le_trans (show (mineD 121 ms[q]).2.2.2.2.1.length ≤ 300 from hb1) (by decide))) ?_
                    rintro v120 _ ⟨e120, m120, hst, rfl, rfl⟩
                    try simp only [List.cons_append, List.nil_append, List.append_nil]
                    obtain ⟨a2, htx⟩ := ap2.y (by omega) (by omega) hb1 hst
                    have hie : InI64 e120 := tx_in 121 ms (q + 1) _ (by rw [htx]; simp)
                    refine OD.litP (T := Rp.i64) (ys := [_]) (.p rfl) (by kernel_rfl) Go.Proofs.Tryd.underlying54 FactDapart.elem34 (by decide) rfl rfl ⟨⟨rfl, by first | assumption | (constructor <;> omega)⟩, trivial⟩ (by decide) (fun a121 c121 => ?_)
                    refine OD.appendO (.p rfl) (by kernel_rfl) (T := Rp.i64) Go.Proofs.Tryd.underlying54 FactDapart.elem34 (by decide) rfl rfl (by repeat (first | exact Sel.here | apply Sel.there)) (by repeat (first | exact Sel.here | apply Sel.there)) (by first | omega | (simp; done) | (simp; omega) | decide) (by first | omega | (simp; done) | (simp; omega) | decide) (fun a122 c122 => ?_)
                    refine .quiet (.p rfl) rfl (fun _ => .as rfl) ?_
                    refine .nil ?_
                    refine S.inBlock (S.region rfl ?_)
                    refine O.op (.p rfl) (.mv rfl) ?_
                    refine O.op (.p rfl) (.add rfl rfl (IntWalk.i64_in _ (by omega))) ?_
                    refine O.op (.p rfl) (.as rfl) ?_
                    refine O.nil ?_
                    simp only [List.length_singleton]
                    rw [htl, ← htx]
                    refine S.pk ?_ (S.weaken ?_ (ih (i + 1) ((p, q + 1)) (m120) (((s.1.1, s.1.2), (a122, c122))) (by (refine ⟨by omega, by simp only; omega, by simp only; omega, by simp only; omega, hnx, a2⟩)) (by omega)))
                    · repeat (first | exact Picks.all | exact Picks.nil | (apply Picks.cons; focus (repeat (first | exact Sel.here | apply Sel.there))) | apply Picks.skip)
                    repeat (first | exact Sub.nil | refine Sub.cons rfl ?_)
                  ·
                    obtain ⟨hvi, hvl, hnx⟩ := trn2_x hx5 hme hf.2.1 hf.2.2 hi
                    obtain ⟨hb1, hb2⟩ := hlx ls[p] (List.getElem_mem (by omega))
                    have htl := tx_len 120 ls (p := p) (by omega)
                    refine S.skip (S.seq (S.block (S.seq (S.region rfl ?_))))
                    refine O.op (.p rfl) (.mv rfl) ?_
                    refine O.op (.p rfl) (.as rfl) ?_
                    refine O.nil ?_
                    refine S.seq (S.seq (S.region rfl ?_))
                    refine O.op (.p rfl) (.mv rfl) ?_
                    refine O.op (.p rfl) (.eql rfl rfl) ?_
                    refine O.slot 47 (v' := .bool false) rfl (congrArg Value.bool (by rfl)) ?_
                    refine O.nil ?_
                    refine S.condF rfl ?_
                    refine S.skip (S.seq (S.region rfl ?_))
                    refine O.op (.p rfl) (.mv rfl) ?_
                    refine O.op (.p rfl) (.mv rfl) ?_
                    refine O.op (.p rfl) (.len rfl Go.Proofs.Tryd.underlying22 rfl) ?_
                    refine O.op (.p rfl) (.lss rfl rfl) ?_
                    refine O.slot 61 (v' := .bool false) rfl (congrArg Value.bool (by exact decide_eq_false (by omega))) ?_
                    refine O.op (.p rfl) (.mv rfl) ?_
                    refine O.op (.p rfl) (.as rfl) ?_
                    refine O.op (.p rfl) (.as rfl) ?_
                    refine O.nil ?_
                    refine S.seq (S.seq (S.region rfl ?_))
                    refine O.op (.p rfl) (.mv rfl) ?_
                    refine O.op (.p rfl) (.not rfl) ?_
                    refine O.nil ?_
                    refine S.condT rfl ?_
                    refine S.region rfl ?_
                    refine O.op (.p rfl) (.mv rfl) ?_
                    refine O.op (.p rfl) (.mv rfl) ?_
                    refine O.op (.p rfl) (.len rfl Go.Proofs.Tryd.underlying22 rfl) ?_
                    refine O.op (.p rfl) (.sub rfl rfl (IntWalk.i64_in _ (by omega))) ?_
                    refine O.op (.p rfl) (.as rfl) ?_
                    refine O.nil ?_
                    refine S.seq (S.seq (S.region rfl ?_))
                    refine O.op (.p rfl) (.mv rfl) ?_
                    refine O.op (.p rfl) (.eql rfl rfl) ?_
                    refine O.slot 70 (v' := .bool true) rfl (congrArg Value.bool (by rfl)) ?_
                    refine O.nil ?_
                    refine S.condT rfl ?_
                    refine S.seq (S.region rfl ?_)
                    refine O.op (.p rfl) (.mv rfl) ?_
                    refine O.op (.p rfl) (.rem rfl rfl (by omega)) ?_
                    refine O.slot 72 (v' := .int .i64 ((i % 2 : Nat) : Int)) rfl (by exact rem_two i) ?_
                    refine O.op (.p rfl) (.eql rfl rfl) ?_
                    refine O.op (.p rfl) (.mv rfl) ?_
                    refine O.op (.p rfl) (.quo rfl rfl (by omega)) ?_
                    refine O.slot 75 (v' := .int .i64 ((i / 2 : Nat) : Int)) rfl (by exact quo_two (by omega)) ?_
                    refine O.op (.p rfl) (.as rfl) ?_
                    refine O.op (.p rfl) (.as rfl) ?_
                    refine O.nil ?_
                    refine S.seq (S.region rfl ?_)
                    refine O.op (.p rfl) (.mv rfl) ?_
                    refine O.op (.p rfl) (.mv rfl) ?_
                    refine O.op (.p rfl) (.len rfl Go.Proofs.Tryd.underlying22 rfl) ?_
                    refine O.op (.p rfl) (.mv rfl) ?_
                    refine O.op (.p rfl) (.len rfl Go.Proofs.Tryd.underlying22 rfl) ?_
                    refine O.op (.p rfl) (.min2 rfl rfl) ?_
                    refine O.slot 81 (v' := .int .i64 (mn : Int)) rfl (by exact hmn) ?_
                    refine O.op (.p rfl) (.mul rfl rfl (IntWalk.i64_in _ (by omega))) ?_
                    refine O.op (.p rfl) (.geq rfl rfl) ?_
                    refine O.slot 83 (v' := .bool true) rfl (congrArg Value.bool (by exact decide_eq_true (by omega))) ?_
                    refine O.nil ?_
                    refine S.condT rfl ?_
                    refine S.region rfl ?_
                    refine O.op (.p rfl) (.mv rfl) ?_
                    refine O.op (.p rfl) (.len rfl Go.Proofs.Tryd.underlying22 rfl) ?_
                    refine O.op (.p rfl) (.mv rfl) ?_
                    refine O.op (.p rfl) (.len rfl Go.Proofs.Tryd.underlying22 rfl) ?_
                    refine O.op (.p rfl) (.gtr rfl rfl) ?_
                    refine O.slot 88 (v' := .bool true) rfl (congrArg Value.bool (by exact decide_eq_true (by omega))) ?_
                    refine O.op (.p rfl) (.mv rfl) ?_
                    refine O.op (.p rfl) (.mv rfl) ?_
                    refine O.op (.p rfl) (.len rfl Go.Proofs.Tryd.underlying22 rfl) ?_
                    refine O.op (.p rfl) (.mv rfl) ?_
                    refine O.op (.p rfl) (.len rfl Go.Proofs.Tryd.underlying22 rfl) ?_
                    refine O.op (.p rfl) (.min2 rfl rfl) ?_
                    refine O.slot 94 (v' := .int .i64 (mn : Int)) rfl (by exact hmn) ?_
                    refine O.op (.p rfl) (.sub rfl rfl (IntWalk.i64_in _ (by omega))) ?_
                    refine O.op (.p rfl) (.as rfl) ?_
                    refine O.op (.p rfl) (.as rfl) ?_
                    refine O.nil ?_
                    refine S.seq (S.region rfl ?_)
                    refine O.op (.p rfl) (.mv rfl) ?_
                    refine O.nil ?_
                    refine S.condT rfl ?_
                    refine S.regionD (L := [0, 1, 2, 3, 4, 5, 6, 7, 8, 9, 10, 11, 12, 13]) FactDapart.mixed (by kernel_rfl) ?_
                    refine .quiet (.p rfl) rfl (fun _ => .mv rfl) ?_
                    refine .quiet (.p rfl) rfl (fun _ => .mv rfl) ?_
                    refine .quiet (.p rfl) rfl (fun _ => .mv rfl) ?_
                    refine OD.idx' (.p rfl) Go.Proofs.Tryd.underlying48 FactDapart.size25 rfl rfl (show _ = (((2) : Nat) : Int) by omega) (ha29) (by decide) (by first | omega | (simp; done) | (simp; omega) | decide) (fun p100 cs100 hp100 hr100 => ?_)
                    obtain ⟨rfl, _⟩ := hr100
                    refine .quiet (.p rfl) rfl (fun _ => .loadAt FactDapart.flat25 rfl hp100 rfl) ?_
                    refine OD.slot 101 (v' := .pointer (some ⟨d28, 0, none⟩)) rfl (by rfl) ?_
                    refine .quiet (.p rfl) rfl (fun _ => .mv rfl) ?_
                    refine .quiet (.p rfl) rfl (fun _ => .mv rfl) ?_
                    refine OD.idx' (.p rfl) Go.Proofs.Tryd.underlying22 FactDapart.size33 rfl rfl (show _ = (((p) : Nat) : Int) by omega) (hal) (by decide) (by first | omega | (simp; done) | (simp; omega) | decide) (fun p104 cs104 hp104 hr104 => ?_)
                    obtain ⟨a104, c104, rfl, hd104, hb1104, hb2104⟩ := DeedR.open hr104
                    refine .quiet (.p rfl) rfl (fun _ => .loadAgg Go.Proofs.Tryd.isAgg33 (by kernel_rfl) rfl hp104) ?_
                    refine OD.call0 (.p rfl) (by kernel_rfl) rfl FactDapart.ok20 rfl rfl ((mine_c (c := 120) (x := ls[p]) (by omega) (by omega))) ?_
                    rintro v106 _ ⟨rfl, rfl⟩
                    try simp only [List.cons_append, List.nil_append, List.append_nil]
                    refine OD.callSs (.p rfl) (by kernel_rfl) rfl FactDapart.ok17 rfl rfl (by repeat (first | exact Sels.nil | (apply Sels.cons; focus (repeat (first | exact Sel.here | apply Sel.there))))) (does_g (x := mineD 120 ls[p]) hatk2 ap2.di.ok hd104 (by simp [mineD, lk]) (by simp [mineD, lk]) (Nat.le_trans (show (mineD 120 ls[p]).2.2.2.2.1.length ≤ 300 from hb1) (by decide))) ?_
                    rintro v107 _ ⟨e107, m107, hst, rfl, rfl⟩
                    try simp only [List.cons_append, List.nil_append, List.append_nil]
                    obtain ⟨a2, htx⟩ := ap2.x (by omega) (by omega) hb1 hst
                    have hie : InI64 e107 := tx_in 120 ls (p + 1) _ (by rw [htx]; simp)
                    refine OD.litP (T := Rp.i64) (ys := [_]) (.p rfl) (by kernel_rfl) Go.Proofs.Tryd.underlying54 FactDapart.elem34 (by decide) rfl rfl ⟨⟨rfl, by first | assumption | (constructor <;> omega)⟩, trivial⟩ (by decide) (fun a108 c108 => ?_)
                    refine OD.appendO (.p rfl) (by kernel_rfl) (T := Rp.i64) Go.Proofs.Tryd.underlying54 FactDapart.elem34 (by decide) rfl rfl (by repeat (first | exact Sel.here | apply Sel.there)) (by repeat (first | exact Sel.here | apply Sel.there)) (by first | omega | (simp; done) | (simp; omega) | decide) (by first | omega | (simp; done) | (simp; omega) | decide) (fun a109 c109 => ?_)
                    refine .quiet (.p rfl) rfl (fun _ => .as rfl) ?_
                    refine .nil ?_
                    refine S.inBlock (S.region rfl ?_)
                    refine O.op (.p rfl) (.mv rfl) ?_
                    refine O.op (.p rfl) (.add rfl rfl (IntWalk.i64_in _ (by omega))) ?_
                    refine O.op (.p rfl) (.as rfl) ?_
                    refine O.nil ?_
                    simp only [List.length_singleton]
                    rw [htl, ← htx]
                    refine S.pk ?_ (S.weaken ?_ (ih (i + 1) ((p + 1, q)) (m107) (((a109, c109), (s.2.1, s.2.2))) (by (refine ⟨by omega, by simp only; omega, by simp only; omega, by simp only; omega, hnx, a2⟩)) (by omega)))
                    · repeat (first | exact Picks.all | exact Picks.nil | (apply Picks.cons; focus (repeat (first | exact Sel.here | apply Sel.there))) | apply Picks.skip)
                    repeat (first | exact Sub.nil | refine Sub.cons rfl ?_)
                  ·
                    obtain ⟨hvi, hvl, hnx⟩ := trn2_y hx5 hme hf.2.1 hf.2.2 hi
                    obtain ⟨hb1, hb2⟩ := hmx ms[q] (List.getElem_mem (by omega))
                    have htl := tx_len 121 ms (p := q) (by omega)
                    refine S.skip (S.seq (S.block (S.seq (S.region rfl ?_))))
                    refine O.op (.p rfl) (.mv rfl) ?_
                    refine O.op (.p rfl) (.as rfl) ?_
                    refine O.nil ?_
                    refine S.seq (S.seq (S.region rfl ?_))
                    refine O.op (.p rfl) (.mv rfl) ?_
                    refine O.op (.p rfl) (.eql rfl rfl) ?_
                    refine O.slot 47 (v' := .bool false) rfl (congrArg Value.bool (by rfl)) ?_
                    refine O.nil ?_
                    refine S.condF rfl ?_
                    refine S.skip (S.seq (S.region rfl ?_))
                    refine O.op (.p rfl) (.mv rfl) ?_
                    refine O.op (.p rfl) (.mv rfl) ?_
                    refine O.op (.p rfl) (.len rfl Go.Proofs.Tryd.underlying22 rfl) ?_
                    refine O.op (.p rfl) (.lss rfl rfl) ?_
                    refine O.slot 61 (v' := .bool false) rfl (congrArg Value.bool (by exact decide_eq_false (by omega))) ?_
                    refine O.op (.p rfl) (.mv rfl) ?_
                    refine O.op (.p rfl) (.as rfl) ?_
                    refine O.op (.p rfl) (.as rfl) ?_
                    refine O.nil ?_
                    refine S.seq (S.seq (S.region rfl ?_))
                    refine O.op (.p rfl) (.mv rfl) ?_
                    refine O.op (.p rfl) (.not rfl) ?_
                    refine O.nil ?_
                    refine S.condT rfl ?_
                    refine S.region rfl ?_
                    refine O.op (.p rfl) (.mv rfl) ?_
                    refine O.op (.p rfl) (.mv rfl) ?_
                    refine O.op (.p rfl) (.len rfl Go.Proofs.Tryd.underlying22 rfl) ?_
                    refine O.op (.p rfl) (.sub rfl rfl (IntWalk.i64_in _ (by omega))) ?_
                    refine O.op (.p rfl) (.as rfl) ?_
                    refine O.nil ?_
                    refine S.seq (S.seq (S.region rfl ?_))
                    refine O.op (.p rfl) (.mv rfl) ?_
                    refine O.op (.p rfl) (.eql rfl rfl) ?_
                    refine O.slot 70 (v' := .bool true) rfl (congrArg Value.bool (by rfl)) ?_
                    refine O.nil ?_
                    refine S.condT rfl ?_
                    refine S.seq (S.region rfl ?_)
                    refine O.op (.p rfl) (.mv rfl) ?_
                    refine O.op (.p rfl) (.rem rfl rfl (by omega)) ?_
                    refine O.slot 72 (v' := .int .i64 ((i % 2 : Nat) : Int)) rfl (by exact rem_two i) ?_
                    refine O.op (.p rfl) (.eql rfl rfl) ?_
                    refine O.op (.p rfl) (.mv rfl) ?_
                    refine O.op (.p rfl) (.quo rfl rfl (by omega)) ?_
                    refine O.slot 75 (v' := .int .i64 ((i / 2 : Nat) : Int)) rfl (by exact quo_two (by omega)) ?_
                    refine O.op (.p rfl) (.as rfl) ?_
                    refine O.op (.p rfl) (.as rfl) ?_
                    refine O.nil ?_
                    refine S.seq (S.region rfl ?_)
                    refine O.op (.p rfl) (.mv rfl) ?_
                    refine O.op (.p rfl) (.mv rfl) ?_
                    refine O.op (.p rfl) (.len rfl Go.Proofs.Tryd.underlying22 rfl) ?_
                    refine O.op (.p rfl) (.mv rfl) ?_
                    refine O.op (.p rfl) (.len rfl Go.Proofs.Tryd.underlying22 rfl) ?_
                    refine O.op (.p rfl) (.min2 rfl rfl) ?_
                    refine O.slot 81 (v' := .int .i64 (mn : Int)) rfl (by exact hmn) ?_
                    refine O.op (.p rfl) (.mul rfl rfl (IntWalk.i64_in _ (by omega))) ?_
                    refine O.op (.p rfl) (.geq rfl rfl) ?_
                    refine O.slot 83 (v' := .bool true) rfl (congrArg Value.bool (by exact decide_eq_true (by omega))) ?_
                    refine O.nil ?_
                    refine S.condT rfl ?_
                    refine S.region rfl ?_
                    refine O.op (.p rfl) (.mv rfl) ?_
                    refine O.op (.p rfl) (.len rfl Go.Proofs.Tryd.underlying22 rfl) ?_
                    refine O.op (.p rfl) (.mv rfl) ?_
                    refine O.op (.p rfl) (.len rfl Go.Proofs.Tryd.underlying22 rfl) ?_
                    refine O.op (.p rfl) (.gtr rfl rfl) ?_
                    refine O.slot 88 (v' := .bool false) rfl (congrArg Value.bool (by exact decide_eq_false (by omega))) ?_
                    refine O.op (.p rfl) (.mv rfl) ?_
                    refine O.op (.p rfl) (.mv rfl) ?_
                    refine O.op (.p rfl) (.len rfl Go.Proofs.Tryd.underlying22 rfl) ?_
                    refine O.op (.p rfl) (.mv rfl) ?_
                    refine O.op (.p rfl) (.len rfl Go.Proofs.Tryd.underlying22 rfl) ?_
                    refine O.op (.p rfl) (.min2 rfl rfl) ?_
                    refine O.slot 94 (v' := .int .i64 (mn : Int)) rfl (by exact hmn) ?_
                    refine O.op (.p rfl) (.sub rfl rfl (IntWalk.i64_in _ (by omega))) ?_
                    refine O.op (.p rfl) (.as rfl) ?_
                    refine O.op (.p rfl) (.as rfl) ?_
                    refine O.nil ?_
                    refine S.seq (S.region rfl ?_)
                    refine O.op (.p rfl) (.mv rfl) ?_
                    refine O.nil ?_
                    refine S.condF rfl ?_
                    refine S.regionD (L := [0, 1, 2, 3, 4, 5, 6, 7, 8, 9, 10, 11, 12, 13]) FactDapart.mixed (by kernel_rfl) ?_
                    refine .quiet (.p rfl) rfl (fun _ => .mv rfl) ?_
                    refine .quiet (.p rfl) rfl (fun _ => .mv rfl) ?_
                    refine .quiet (.p rfl) rfl (fun _ => .mv rfl) ?_
                    refine OD.idx' (.p rfl) Go.Proofs.Tryd.underlying48 FactDapart.size25 rfl rfl (show _ = (((2) : Nat) : Int) by omega) (ha29) (by decide) (by first | omega | (simp; done) | (simp; omega) | decide) (fun p113 cs113 hp113 hr113 => ?_)
                    obtain ⟨rfl, _⟩ := hr113
                    refine .quiet (.p rfl) rfl (fun _ => .loadAt FactDapart.flat25 rfl hp113 rfl) ?_
                    refine OD.slot 114 (v' := .pointer (some ⟨d28, 0, none⟩)) rfl (by rfl) ?_
                    refine .quiet (.p rfl) rfl (fun _ => .mv rfl) ?_
                    refine .quiet (.p rfl) rfl (fun _ => .mv rfl) ?_
                    refine OD.idx' (.p rfl) Go.Proofs.Tryd.underlying22 FactDapart.size33 rfl rfl (show _ = (((q) : Nat) : Int) by omega) (ham) (by decide) (by first | omega | (simp; done) | (simp; omega) | decide) (fun p117 cs117 hp117 hr117 => ?_)
                    obtain ⟨a117, c117, rfl, hd117, hb1117, hb2117⟩ := DeedR.open hr117
                    refine .quiet (.p rfl) rfl (fun _ => .loadAgg Go.Proofs.Tryd.isAgg33 (by kernel_rfl) rfl hp117) ?_
                    refine OD.call0 (.p rfl) (by kernel_rfl) rfl FactDapart.ok20 rfl rfl ((mine_c (c := 121) (x := ms[q]) (by omega) (by omega))) ?_
                    rintro v119 _ ⟨rfl, rfl⟩
                    try simp only [List.cons_append, List.nil_append, List.append_nil]
                    refine OD.callSs (.p rfl) (by kernel_rfl) rfl FactDapart.ok17 rfl rfl (by repeat (first | exact Sels.nil | (apply Sels.cons; focus (repeat (first | exact Sel.here | apply Sel.there))))) (does_g (x := mineD 121 ms[q]) hatk2 ap2.di.ok hd117 (by simp [mineD, lk]) (by simp [mineD, lk]) (Nat.le_trans (show (mineD 121 ms[q]).2.2.2.2.1.length ≤ 300 from hb1) (by decide))) ?_
                    rintro v120 _ ⟨e120, m120, hst, rfl, rfl⟩
                    try simp only [List.cons_append, List.nil_append, List.append_nil]
                    obtain ⟨a2, htx⟩ := ap2.y (by omega) (by omega) hb1 hst
                    have hie : InI64 e120 := tx_in 121 ms (q + 1) _ (by rw [htx]; simp)
                    refine OD.litP (T := Rp.i64) (ys := [_]) (.p rfl) (by kernel_rfl) Go.Proofs.Tryd.underlying54 FactDapart.elem34 (by decide) rfl rfl ⟨⟨rfl, by first | assumption | (constructor <;> omega)⟩, trivial⟩ (by decide) (fun a121 c121 => ?_)
                    refine OD.appendO (.p rfl) (by kernel_rfl) (T := Rp.i64) Go.Proofs.Tryd.underlying54 FactDapart.elem34 (by decide) rfl rfl (by repeat (first | exact Sel.here | apply Sel.there)) (by repeat (first | exact Sel.here | apply Sel.there)) (by first | omega | (simp; done) | (simp; omega) | decide) (by first | omega | (simp; done) | (simp; omega) | decide) (fun a122 c122 => ?_)
                    refine .quiet (.p rfl) rfl (fun _ => .as rfl) ?_
                    refine .nil ?_
                    refine S.inBlock (S.region rfl ?_)
                    refine O.op (.p rfl) (.mv rfl) ?_
                    refine O.op (.p rfl) (.add rfl rfl (IntWalk.i64_in _ (by omega))) ?_
                    refine O.op (.p rfl) (.as rfl) ?_
                    refine O.nil ?_
                    simp only [List.length_singleton]
                    rw [htl, ← htx]
                    refine S.pk ?_ (S.weaken ?_ (ih (i + 1) ((p, q + 1)) (m120) (((s.1.1, s.1.2), (a122, c122))) (by (refine ⟨by omega, by simp only; omega, by simp only; omega, by simp only; omega, hnx, a2⟩)) (by omega)))
                    · repeat (first | exact Picks.all | exact Picks.nil | (apply Picks.cons; focus (repeat (first | exact Sel.here | apply Sel.there))) | apply Picks.skip)
                    repeat (first | exact Sub.nil | refine Sub.cons rfl ?_)
                · clear ih
                  obtain ⟨hp, hq⟩ := trn2_end hx5 (by omega) hx2 hx3 hx4
                  clear hx1 hx2 hx3 hx4 hx5
                  subst hp; subst hq
                  have hl1 := tx_len 120 ls (Nat.le_refl _)
                  have hl2 := tx_len 121 ms (Nat.le_refl _)
                  obtain ⟨⟨a8, c8⟩, ⟨a9, c9⟩⟩ := s
                  simp only
                  refine S.pk (ζ := [OwnP Rp.i64 34 (.slice a9 ms.length c9) (tx 121 ms ms.length), OwnP Rp.i64 34 (.slice a8 ls.length c8) (tx 120 ls ls.length), obj b6 55 [.slice A0 (ls.length + ms.length) C0, .slice A1 (ls.length + ms.length) C1, .slice none 0 0], MapT q126 D0.safe D0.c1, MapT q226 D0.loose D0.c2, MapT q127 D1.safe D1.c1, MapT q227 D1.loose D1.c2, MapT q128 D2.safe D2.c1, MapT q228 D2.loose D2.c2]) (by repeat (first | exact Picks.all | exact Picks.nil | (apply Picks.cons; focus (repeat (first | exact Sel.here | apply Sel.there))) | apply Picks.skip)) ?_
                  refine S.frzA (by repeat (first | exact Sel.here | apply Sel.there)) fun g hs hm htwo => ?_
                  replace hg := Fr.sub_trans hg hs
                  replace hR := melted hR hm
                  try replace hal := hal.mono hs
                  try replace ham := ham.mono hs
                  try replace hat0 := hat0.mono hs
                  try replace hat1 := hat1.mono hs
                  try replace hat2 := hat2.mono hs
                  try replace ha29 := ha29.mono hs
                  try replace hatk0 := hatk0.mono hs
                  try replace htwo := htwo.mono hs
                  try replace hto0 := hto0.mono hs
                  try replace hatk1 := hatk1.mono hs
                  try replace hto1 := hto1.mono hs
                  try replace hatk2 := hatk2.mono hs
                  replace hm1 := meltTrans hm1 hm
                  replace hm2 := meltTrans hm2 hm
                  replace hm3 := meltTrans hm3 hm
                  clear hs hm
                  refine S.exit rfl ?_
                  refine S.region rfl ?_
                  refine O.op (.p rfl) (.mv rfl) ?_
                  refine O.op (.p rfl) (.mv rfl) ?_
                  refine O.op (.p rfl) (.mv rfl) ?_
                  refine O.opE (.p rfl) (.appendP (T := Rp.i64) pure_i64 Go.Proofs.Tryd.underlying54 FactDapart.elem34 (by decide) rfl rfl (by repeat (first | exact Sel.here | apply Sel.there)) htwo (by first | omega | (simp; done) | (simp; omega) | decide) (by first | omega | (simp; done) | (simp; omega) | decide)) ?_
                  rintro v126 _ ⟨A2, C2, rfl, rfl⟩
                  rw [hl1, hl2]
                  refine O.op (.p rfl) (.idxArr (j := 2) Go.Proofs.Tryd.underlying55 FactDapart.size54 rfl rfl rfl (by decide)) ?_
                  refine O.opU rfl (.store1 FactDapart.flat54 rfl rfl rfl (by repeat (first | exact Sel.here | apply Sel.there)) (by simp)) ?_
                  refine O.nil ?_
                  refine S.inBlock (S.region rfl ?_)
                  refine O.op (.p rfl) (.mv rfl) ?_
                  refine O.op (.p rfl) (.add rfl rfl (IntWalk.i64_in _ (by omega))) ?_
                  refine O.op (.p rfl) (.as rfl) ?_
                  refine O.nil ?_
                  refine S.pk (ζ := [OwnP Rp.i64 34 (.slice A2 (ls.length + ms.length) C2) (tx 120 ls ls.length ++ tx 121 ms ms.length), obj b6 55 [.slice A0 (ls.length + ms.length) C0, .slice A1 (ls.length + ms.length) C1, .slice A2 (ls.length + ms.length) C2], MapT q126 D0.safe D0.c1, MapT q226 D0.loose D0.c2, MapT q127 D1.safe D1.c1, MapT q227 D1.loose D1.c2, MapT q128 D2.safe D2.c1, MapT q228 D2.loose D2.c2]) (by repeat (first | exact Picks.all | exact Picks.nil | (apply Picks.cons; focus (repeat (first | exact Sel.here | apply Sel.there))) | apply Picks.skip)) ?_
                  refine S.frzA (by repeat (first | exact Sel.here | apply Sel.there)) fun g hs hm hto2 => ?_
                  replace hg := Fr.sub_trans hg hs
                  replace hR := melted hR hm
                  try replace hal := hal.mono hs
                  try replace ham := ham.mono hs
                  try replace hat0 := hat0.mono hs
                  try replace hat1 := hat1.mono hs
                  try replace hat2 := hat2.mono hs
                  try replace ha29 := ha29.mono hs
                  try replace hatk0 := hatk0.mono hs
                  try replace htwo := htwo.mono hs
                  try replace hto0 := hto0.mono hs
                  try replace hatk1 := hatk1.mono hs
                  try replace hto1 := hto1.mono hs
                  try replace hatk2 := hatk2.mono hs
                  replace hm1 := meltTrans hm1 hm
                  replace hm2 := meltTrans hm2 hm
                  replace hm3 := meltTrans hm3 hm
                  clear hs hm
                  refine S.reloop ?_
                  refine S.seq (S.seq (S.region rfl ?_))
                  refine O.op (.p rfl) (.mv rfl) ?_
                  refine O.op (.p rfl) (.lss rfl rfl) ?_
                  refine O.slot 31 (v' := .bool false) rfl (congrArg Value.bool (by rfl)) ?_
                  refine O.nil ?_
                  refine S.condF rfl ?_
                  refine S.exit rfl ?_
                  refine S.seq (S.seq ?_)
                  refine S.frzO (by repeat (first | exact Sel.here | apply Sel.there)) fun g hs hm hatT => ?_
                  replace hg := Fr.sub_trans hg hs
                  replace hR := melted hR hm
                  try replace hal := hal.mono hs
                  try replace ham := ham.mono hs
                  try replace hat0 := hat0.mono hs
                  try replace hat1 := hat1.mono hs
                  try replace hat2 := hat2.mono hs
                  try replace ha29 := ha29.mono hs
                  try replace hatk0 := hatk0.mono hs
                  try replace htwo := htwo.mono hs
                  try replace hto0 := hto0.mono hs
                  try replace hatk1 := hatk1.mono hs
                  try replace hto1 := hto1.mono hs
                  try replace hatk2 := hatk2.mono hs
                  try replace hto2 := hto2.mono hs
                  replace hm1 := meltTrans hm1 hm
                  replace hm2 := meltTrans hm2 hm
                  replace hm3 := meltTrans hm3 hm
                  clear hs hm
                  refine S.region rfl ?_
                  refine O.op (.p rfl) (.as rfl) ?_
                  refine O.nil ?_
                  refine S.block ?_
                  refine S.unroll ?_
                  refine S.seq (S.seq (S.region rfl ?_))
                  refine O.op (.p rfl) (.mv rfl) ?_
                  refine O.op (.p rfl) (.lss rfl rfl) ?_
                  refine O.slot 129 (v' := .bool true) rfl (congrArg Value.bool (by rfl)) ?_
                  refine O.nil ?_
                  refine S.condT rfl ?_
                  refine S.skip (S.seq (S.block (S.seq (S.seq (S.regionD (L := [0, 1, 2, 3, 4, 5, 6, 7]) FactDapart.mixed (by kernel_rfl) ?_)))))
                  refine .quiet (.p rfl) rfl (fun _ => .mv rfl) ?_
                  refine .quiet (.p rfl) rfl (fun _ => .idxArrA (j := 1) Go.Proofs.Tryd.underlying55 FactDapart.size54 rfl rfl rfl (by decide)) ?_
                  refine .quiet (.p rfl) rfl (fun _ => .load FactDapart.flat54 rfl (At.at hatT rfl)) ?_
                  refine .quiet (.p rfl) rfl (fun _ => .len rfl Go.Proofs.Tryd.underlying54 rfl) ?_
                  refine .quiet (.p rfl) rfl (fun _ => .idxArrA (j := 0) Go.Proofs.Tryd.underlying55 FactDapart.size54 rfl rfl rfl (by decide)) ?_
                  refine .quiet (.p rfl) rfl (fun _ => .load FactDapart.flat54 rfl (At.at hatT rfl)) ?_
                  refine .quiet (.p rfl) rfl (fun _ => .len rfl Go.Proofs.Tryd.underlying54 rfl) ?_
                  refine .quiet (.p rfl) rfl (fun _ => .neq rfl rfl) ?_
                  refine OD.slot 139 (v' := .bool false) rfl (congrArg Value.bool (by simp)) ?_
                  refine .nil ?_
                  refine S.condF rfl ?_
                  refine S.skip (S.seq (S.region rfl ?_))
                  refine O.op (.p rfl) (.as rfl) ?_
                  refine O.nil ?_
                  refine S.block ?_
                  refine S.loopK (ι := Nat) (fun i => i ≤ ls.length + ms.length) (fun i => [(15, .int .i64 (i : Int))]) [(5, _), (6, _), (14, _)] (fun i => [MapT q126 D0.safe D0.c1, MapT q226 D0.loose D0.c2, MapT q127 D1.safe D1.c1, MapT q227 D1.loose D1.c2, MapT q128 D2.safe D2.c1, MapT q228 D2.loose D2.c2]) (fun i => ls.length + ms.length - i) (0) (by exact Nat.zero_le _) (.cons rfl (.nil)) (.cons rfl (.cons rfl (.cons rfl (.nil)))) rfl fun i hx ih => ?_
                  have hm4 := meltRefl (g := g)
                  refine S.seq (S.seq (S.region rfl ?_))
                  refine O.op (.p rfl) (.mv rfl) ?_
                  refine O.op (.p rfl) (.idxArrA (j := 0) Go.Proofs.Tryd.underlying55 FactDapart.size54 rfl rfl rfl (by decide)) ?_
                  refine O.op (.p rfl) (.load FactDapart.flat54 rfl (At.at hatT rfl)) ?_
                  refine O.op (.p rfl) (.len rfl Go.Proofs.Tryd.underlying54 rfl) ?_
                  refine O.op (.p rfl) (.lss rfl rfl) ?_
                  refine O.nil ?_
                  first | refine S.condD rfl (fun h144 => ?_) (fun h144 => ?_) | refine S.condB rfl (fun h144 => ?_) (fun h144 => ?_)
                  · have hi : i < ls.length + ms.length := by omega
                    have hil : i < (tx 120 ls ls.length ++ tx 121 ms ms.length).length := by rw [List.length_append, hl1, hl2]; exact hi
                    refine S.skip (S.seq (S.block (S.seq (S.regionD (L := [0, 1, 2, 3, 4, 5, 6, 7, 8, 9, 10, 11]) FactDapart.mixed (by kernel_rfl) ?_))))
                    refine .quiet (.p rfl) rfl (fun _ => .mv rfl) ?_
                    refine .quiet (.p rfl) rfl (fun _ => .idxArrA (j := 1) Go.Proofs.Tryd.underlying55 FactDapart.size54 rfl rfl rfl (by decide)) ?_
                    refine .quiet (.p rfl) rfl (fun _ => .load FactDapart.flat54 rfl (At.at hatT rfl)) ?_
                    refine .quiet (.p rfl) rfl (fun _ => .mv rfl) ?_
                    refine OD.idx' (.p rfl) Go.Proofs.Tryd.underlying54 FactDapart.size34 rfl rfl rfl (hto1) (by decide) (by first | omega | (simp; done) | (simp; omega) | decide) (fun p151 cs151 hp151 hr151 => ?_)
                    obtain ⟨rfl, _⟩ := hr151
                    refine .quiet (.p rfl) rfl (fun _ => .loadAt FactDapart.flat34 rfl hp151 rfl) ?_
                    refine .quiet (.p rfl) rfl (fun _ => .idxArrA (j := 0) Go.Proofs.Tryd.underlying55 FactDapart.size54 rfl rfl rfl (by decide)) ?_
                    refine .quiet (.p rfl) rfl (fun _ => .load FactDapart.flat54 rfl (At.at hatT rfl)) ?_
                    refine .quiet (.p rfl) rfl (fun _ => .mv rfl) ?_
                    refine OD.idx' (.p rfl) Go.Proofs.Tryd.underlying54 FactDapart.size34 rfl rfl rfl (hto0) (by decide) (by first | omega | (simp; done) | (simp; omega) | decide) (fun p156 cs156 hp156 hr156 => ?_)
                    obtain ⟨rfl, _⟩ := hr156
                    refine .quiet (.p rfl) rfl (fun _ => .loadAt FactDapart.flat34 rfl hp156 rfl) ?_
                    refine .quiet (.p rfl) rfl (fun _ => .neq rfl rfl) ?_
                    refine OD.slot 158 (v' := .bool false) rfl (congrArg Value.bool (by simp)) ?_
                    refine .nil ?_
                    refine S.condF rfl ?_
                    refine S.skip (S.inBlock (S.region rfl ?_))
                    refine O.op (.p rfl) (.mv rfl) ?_
                    refine O.op (.p rfl) (.add rfl rfl (IntWalk.i64_in _ (by omega))) ?_
                    refine O.op (.p rfl) (.as rfl) ?_
                    refine O.nil ?_
                    refine S.pk ?_ (S.weaken ?_ (ih (i + 1) (by exact hi) (by omega)))
                    · repeat (first | exact Picks.all | exact Picks.nil | (apply Picks.cons; focus (repeat (first | exact Sel.here | apply Sel.there))) | apply Picks.skip)
                    repeat (first | exact Sub.nil | refine Sub.cons rfl ?_)
                  · clear ih
                    refine S.exit rfl ?_
                    refine S.inBlock (S.region rfl ?_)
                    refine O.op (.p rfl) (.mv rfl) ?_
                    refine O.op (.p rfl) (.add rfl rfl (IntWalk.i64_in _ (by omega))) ?_
                    refine O.op (.p rfl) (.as rfl) ?_
                    refine O.nil ?_
                    refine S.reloop ?_
                    refine S.seq (S.seq (S.region rfl ?_))
                    refine O.op (.p rfl) (.mv rfl) ?_
                    refine O.op (.p rfl) (.lss rfl rfl) ?_
                    refine O.slot 129 (v' := .bool true) rfl (congrArg Value.bool (by rfl)) ?_
                    refine O.nil ?_
                    refine S.condT rfl ?_
                    refine S.skip (S.seq (S.block (S.seq (S.seq (S.regionD (L := [0, 1, 2, 3, 4, 5, 6, 7]) FactDapart.mixed (by kernel_rfl) ?_)))))
                    refine .quiet (.p rfl) rfl (fun _ => .mv rfl) ?_
                    refine .quiet (.p rfl) rfl (fun _ => .idxArrA (j := 2) Go.Proofs.Tryd.underlying55 FactDapart.size54 rfl rfl rfl (by decide)) ?_
                    refine .quiet (.p rfl) rfl (fun _ => .load FactDapart.flat54 rfl (At.at hatT rfl)) ?_
                    refine .quiet (.p rfl) rfl (fun _ => .len rfl Go.Proofs.Tryd.underlying54 rfl) ?_
                    refine .quiet (.p rfl) rfl (fun _ => .idxArrA (j := 0) Go.Proofs.Tryd.underlying55 FactDapart.size54 rfl rfl rfl (by decide)) ?_
                    refine .quiet (.p rfl) rfl (fun _ => .load FactDapart.flat54 rfl (At.at hatT rfl)) ?_
                    refine .quiet (.p rfl) rfl (fun _ => .len rfl Go.Proofs.Tryd.underlying54 rfl) ?_
                    refine .quiet (.p rfl) rfl (fun _ => .neq rfl rfl) ?_
                    refine OD.slot 139 (v' := .bool false) rfl (congrArg Value.bool (by simp)) ?_
                    refine .nil ?_
                    refine S.condF rfl ?_
                    refine S.skip (S.seq (S.region rfl ?_))
                    refine O.op (.p rfl) (.as rfl) ?_
                    refine O.nil ?_
                    refine S.block ?_
                    refine S.loopK (ι := Nat) (fun i => i ≤ ls.length + ms.length) (fun i => [(15, .int .i64 (i : Int))]) [(5, _), (6, _), (14, _)] (fun i => [MapT q126 D0.safe D0.c1, MapT q226 D0.loose D0.c2, MapT q127 D1.safe D1.c1, MapT q227 D1.loose D1.c2, MapT q128 D2.safe D2.c1, MapT q228 D2.loose D2.c2]) (fun i => ls.length + ms.length - i) (0) (by exact Nat.zero_le _) (.cons rfl (.nil)) (.cons rfl (.cons rfl (.cons rfl (.nil)))) rfl fun i hx ih => ?_
                    have hm5 := meltRefl (g := g)
                    refine S.seq (S.seq (S.region rfl ?_))
                    refine O.op (.p rfl) (.mv rfl) ?_
                    refine O.op (.p rfl) (.idxArrA (j := 0) Go.Proofs.Tryd.underlying55 FactDapart.size54 rfl rfl rfl (by decide)) ?_
                    refine O.op (.p rfl) (.load FactDapart.flat54 rfl (At.at hatT rfl)) ?_
                    refine O.op (.p rfl) (.len rfl Go.Proofs.Tryd.underlying54 rfl) ?_
                    refine O.op (.p rfl) (.lss rfl rfl) ?_
                    refine O.nil ?_
                    first | refine S.condD rfl (fun h144 => ?_) (fun h144 => ?_) | refine S.condB rfl (fun h144 => ?_) (fun h144 => ?_)
                    · have hi : i < ls.length + ms.length := by omega
                      have hil : i < (tx 120 ls ls.length ++ tx 121 ms ms.length).length := by rw [List.length_append, hl1, hl2]; exact hi
                      refine S.skip (S.seq (S.block (S.seq (S.regionD (L := [0, 1, 2, 3, 4, 5, 6, 7, 8, 9, 10, 11]) FactDapart.mixed (by kernel_rfl) ?_))))
                      refine .quiet (.p rfl) rfl (fun _ => .mv rfl) ?_
                      refine .quiet (.p rfl) rfl (fun _ => .idxArrA (j := 2) Go.Proofs.Tryd.underlying55 FactDapart.size54 rfl rfl rfl (by decide)) ?_
                      refine .quiet (.p rfl) rfl (fun _ => .load FactDapart.flat54 rfl (At.at hatT rfl)) ?_
                      refine .quiet (.p rfl) rfl (fun _ => .mv rfl) ?_
                      refine OD.idx' (.p rfl) Go.Proofs.Tryd.underlying54 FactDapart.size34 rfl rfl rfl (hto2) (by decide) (by first | omega | (simp; done) | (simp; omega) | decide) (fun p151 cs151 hp151 hr151 => ?_)
                      obtain ⟨rfl, _⟩ := hr151
                      refine .quiet (.p rfl) rfl (fun _ => .loadAt FactDapart.flat34 rfl hp151 rfl) ?_
                      refine .quiet (.p rfl) rfl (fun _ => .idxArrA (j := 0) Go.Proofs.Tryd.underlying55 FactDapart.size54 rfl rfl rfl (by decide)) ?_
                      refine .quiet (.p rfl) rfl (fun _ => .load FactDapart.flat54 rfl (At.at hatT rfl)) ?_
                      refine .quiet (.p rfl) rfl (fun _ => .mv rfl) ?_
                      refine OD.idx' (.p rfl) Go.Proofs.Tryd.underlying54 FactDapart.size34 rfl rfl rfl (hto0) (by decide) (by first | omega | (simp; done) | (simp; omega) | decide) (fun p156 cs156 hp156 hr156 => ?_)
                      obtain ⟨rfl, _⟩ := hr156
                      refine .quiet (.p rfl) rfl (fun _ => .loadAt FactDapart.flat34 rfl hp156 rfl) ?_
                      refine .quiet (.p rfl) rfl (fun _ => .neq rfl rfl) ?_
                      refine OD.slot 158 (v' := .bool false) rfl (congrArg Value.bool (by simp)) ?_
                      refine .nil ?_
                      refine S.condF rfl ?_
                      refine S.skip (S.inBlock (S.region rfl ?_))
                      refine O.op (.p rfl) (.mv rfl) ?_
                      refine O.op (.p rfl) (.add rfl rfl (IntWalk.i64_in _ (by omega))) ?_
                      refine O.op (.p rfl) (.as rfl) ?_
                      refine O.nil ?_
                      refine S.pk ?_ (S.weaken ?_ (ih (i + 1) (by exact hi) (by omega)))
                      · repeat (first | exact Picks.all | exact Picks.nil | (apply Picks.cons; focus (repeat (first | exact Sel.here | apply Sel.there))) | apply Picks.skip)
                      repeat (first | exact Sub.nil | refine Sub.cons rfl ?_)
                    · clear ih
                      refine S.exit rfl ?_
                      refine S.inBlock (S.region rfl ?_)
                      refine O.op (.p rfl) (.mv rfl) ?_
                      refine O.op (.p rfl) (.add rfl rfl (IntWalk.i64_in _ (by omega))) ?_
                      refine O.op (.p rfl) (.as rfl) ?_
                      refine O.nil ?_
                      refine S.reloop ?_
                      refine S.seq (S.seq (S.region rfl ?_))
                      refine O.op (.p rfl) (.mv rfl) ?_
                      refine O.op (.p rfl) (.lss rfl rfl) ?_
                      refine O.slot 129 (v' := .bool false) rfl (congrArg Value.bool (by rfl)) ?_
                      refine O.nil ?_
                      refine S.condF rfl ?_
                      refine S.exit rfl ?_
                      refine S.seq (S.regionD (L := [0, 1, 2, 3, 4, 5, 6, 7, 8, 9, 10, 11, 12, 13, 14, 15, 16]) FactDapart.mixed (by kernel_rfl) ?_)
                      refine .quiet (.p rfl) rfl (fun _ => .mv rfl) ?_
                      refine OD.idx' (.p rfl) Go.Proofs.Tryd.underlying48 FactDapart.size25 rfl rfl (show _ = (((0) : Nat) : Int) by omega) (ha29) (by decide) (by first | omega | (simp; done) | (simp; omega) | decide) (fun p160 cs160 hp160 hr160 => ?_)
                      obtain ⟨rfl, _⟩ := hr160
                      refine .quiet (.p rfl) rfl (fun _ => .loadAt FactDapart.flat25 rfl hp160 rfl) ?_
                      refine OD.slot 161 (v' := .pointer (some ⟨d26, 0, none⟩)) rfl (by rfl) ?_
                      refine .quiet (.p rfl) rfl (fun _ => .mv rfl) ?_
                      refine OD.idx' (.p rfl) Go.Proofs.Tryd.underlying48 FactDapart.size25 rfl rfl (show _ = (((1) : Nat) : Int) by omega) (ha29) (by decide) (by first | omega | (simp; done) | (simp; omega) | decide) (fun p163 cs163 hp163 hr163 => ?_)
                      obtain ⟨rfl, _⟩ := hr163
                      refine .quiet (.p rfl) rfl (fun _ => .loadAt FactDapart.flat25 rfl hp163 rfl) ?_
                      refine OD.slot 164 (v' := .pointer (some ⟨d27, 0, none⟩)) rfl (by rfl) ?_
                      refine OD.callSs (.p rfl) (by kernel_rfl) rfl FactDapart.ok21 rfl rfl (by repeat (first | exact Sels.nil | (apply Sels.cons; focus (repeat (first | exact Sel.here | apply Sel.there))))) (alike_g hatk0 hatk1 ap0.di ap1.di (by omega) (by omega) (ap0.same ap1)) ?_
                      rintro v165 _ ⟨rfl, rfl⟩
                      try simp only [List.cons_append, List.nil_append, List.append_nil]
                      refine .quiet (.p rfl) rfl (fun _ => .mv rfl) ?_
                      refine .quiet (.g rfl rfl) rfl (fun _ => .mv rfl) ?_
                      refine OD.idx' (.g rfl rfl) Go.Proofs.Tryd.underlying48 FactDapart.size25 rfl rfl (show _ = (((0) : Nat) : Int) by omega) (ha29) (by decide) (by first | omega | (simp; done) | (simp; omega) | decide) (fun p168 cs168 hp168 hr168 => ?_)
                      obtain ⟨rfl, _⟩ := hr168
                      refine .quiet (.g rfl rfl) rfl (fun _ => .loadAt FactDapart.flat25 rfl hp168 rfl) ?_
                      refine OD.slot 169 (v' := .pointer (some ⟨d26, 0, none⟩)) rfl (by rfl) ?_
                      refine .quiet (.g rfl rfl) rfl (fun _ => .mv rfl) ?_
                      refine OD.idx' (.g rfl rfl) Go.Proofs.Tryd.underlying48 FactDapart.size25 rfl rfl (show _ = (((2) : Nat) : Int) by omega) (ha29) (by decide) (by first | omega | (simp; done) | (simp; omega) | decide) (fun p171 cs171 hp171 hr171 => ?_)
                      obtain ⟨rfl, _⟩ := hr171
                      refine .quiet (.g rfl rfl) rfl (fun _ => .loadAt FactDapart.flat25 rfl hp171 rfl) ?_
                      refine OD.slot 172 (v' := .pointer (some ⟨d28, 0, none⟩)) rfl (by rfl) ?_
                      refine OD.callSs (.g rfl rfl) (by kernel_rfl) rfl FactDapart.ok21 rfl rfl (by repeat (first | exact Sels.nil | (apply Sels.cons; focus (repeat (first | exact Sel.here | apply Sel.there))))) (alike_g hatk0 hatk2 ap0.di ap2.di (by omega) (by omega) (ap0.same ap2)) ?_
                      rintro v173 _ ⟨rfl, rfl⟩
                      try simp only [List.cons_append, List.nil_append, List.append_nil]
                      refine .quiet (.p rfl) rfl (fun _ => .pickT rfl rfl) ?_
                      refine .quiet (.p rfl) rfl (fun _ => .as rfl) ?_
                      refine .nil ?_
                      refine S.ret Go.Proofs.Tryd.results5 rfl fun w hw => Holds.end_ hR hw ?_
                      exact ⟨_, ⟨rfl, rfl⟩, by repeat (first | exact Picks.all | exact Picks.nil | (apply Picks.cons; focus (repeat (first | exact Sel.here | apply Sel.there))) | apply Picks.skip)⟩

end Go.Proofs.YtkkcpckgnfcncaaDoor
