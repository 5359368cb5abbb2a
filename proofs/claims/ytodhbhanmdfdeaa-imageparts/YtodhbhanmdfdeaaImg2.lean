import Derived.Test.YtodhbhanmdfdeaaImg1
open Go Go.Sp
set_option maxRecDepth 100000
attribute [local irreducible] obj Own OwnP
namespace Go.Proofs.Ytodhbhanmdfdeaa
theorem FactImg2.elem32 : elemIs Go.Proofs.Try.prog 32 1 24 [.slice none 0 0] := elemIs.mk (by kernel_rfl) rfl
theorem FactImg2.flat46 : Go.Sp.flat1 Go.Proofs.Try.prog 46 = true := by kernel_rfl
theorem FactImg2.flat9 : Go.Sp.flat1 Go.Proofs.Try.prog 9 = true := by kernel_rfl
theorem FactImg2.fld48x0 : fieldOff Go.Proofs.Try.prog 48 0 = some 0 := by kernel_rfl
theorem FactImg2.fld48x1 : fieldOff Go.Proofs.Try.prog 48 1 = some 1 := by kernel_rfl
theorem FactImg2.fld56x0 : fieldOff Go.Proofs.Try.prog 56 0 = some 0 := by kernel_rfl
theorem FactImg2.fld56x1 : fieldOff Go.Proofs.Try.prog 56 1 = some 1 := by kernel_rfl
theorem FactImg2.fld68x0 : fieldOff Go.Proofs.Try.prog 68 0 = some 0 := by kernel_rfl
theorem FactImg2.mixed : Go.Proofs.Try.prog.follows .mixedOrders = true := by kernel_rfl
theorem FactImg2.ok25 : callable Go.Proofs.Try.prog 25 = true := by kernel_rfl
theorem FactImg2.ok27 : callable Go.Proofs.Try.prog 27 = true := by kernel_rfl
theorem FactImg2.ok28 : callable Go.Proofs.Try.prog 28 = true := by kernel_rfl
theorem FactImg2.ok29 : callable Go.Proofs.Try.prog 29 = true := by kernel_rfl
theorem FactImg2.ok30 : callable Go.Proofs.Try.prog 30 = true := by kernel_rfl
theorem FactImg2.size68 : (Go.Proofs.Try.prog.info? 68).map (·.size) = some 7 := by kernel_rfl

abbrev WrB (b : Nat) (s : WSt) : SProp := WrP 56 5 9 b s
/-- what a step does to a writer -/
def StepP {α : Type} (step : WSt → α → Option WSt) (b : Nat) (s : WSt) (x : α) : Ending → List SProp → Prop :=
  RetP (fun v η => v = .tuple #[] ∧ ∃ s', step s x = some s' ∧ η = [WrB b s']) (fun ch η => step s x = none ∧ ch = errP 33 4 ∧ η = [])
theorem leaf_c {r : Fr} {b : Nat} {s : WSt} {cs : List Value} {f : LeafT} (h : LeafRp.rel r cs f) (hl : f.2.1.length ≤ 100000) (hb : s.out.length ≤ 140000000000000) :
    Con Go.Proofs.Try.prog 17 #[.pointer (some ⟨b, 0, none⟩), .agg cs.toArray] r [WrB b s] (StepP leafStep b s f) := by
  obtain ⟨xa1, xc1, rfl, k0, k1⟩ := LeafRp.sh h
  have hset := k1
  refine Con.of (n := 55) [.pointer (some ⟨b, 0, none⟩), .agg #[.string (str f.1), .slice xa1 f.2.1.length xc1]] rfl Go.Proofs.Try.func17 rfl rfl rfl fun g hg R hR => ?_
  have k1 := k1.mono hg
  refine S.seq (S.region rfl ?_)
  refine O.opE (.p rfl) (.box (cs := [_, _]) rfl rfl) ?_
  rintro _ _ ⟨b3, rfl, rfl⟩
  refine O.nil ?_
  refine S.seq ?_
  refine S.frzO (by repeat (first | exact Sel.here | apply Sel.there)) fun g hs hm hb3 => ?_
  replace hg := Fr.sub_trans hg hs
  replace hR := melted hR hm
  try replace k1 := k1.mono hs
  clear hs hm
  refine S.open (A := WrB b s) (by repeat (first | exact Sel.here | apply Sel.there)) (fun m x => x) fun p => ?_
  simp only [List.cons_append, List.nil_append]
  have hg_o := hg
  have hR_o := hR
  try have k1_o := k1
  try have hb3_o := hb3
  refine S.frzH (B := obj b 56 [.slice p.1.1.1 s.out.length p.1.1.2, .string (str s.key), .int .i64 s.rep, .int .i64 s.shard, .int .i64 p.2.1, .slice p.2.2.1.1 p.2.2.1.2.1 p.2.2.1.2.2, .slice p.2.2.2.1 p.2.2.2.2.1 p.2.2.2.2.2, .int .i64 s.last, .slice p.1.2.1 s.seen.length p.1.2.2]) (by repeat (first | exact Sel.here | apply Sel.there)) fun go hso ⟨mo, hmo, hsmo⟩ hbo => ?_
  replace hg := Fr.sub_trans hg hso
  replace hR := backR hR hbo
  try replace k1 := k1.mono hso
  try replace hb3 := hb3.mono hso
  have hat := (obj_at hmo).mono hsmo
  by_cases c1 : ¬ s.key < f.1
  · have hno : leafStep s f = none := if_neg fun q => c1 q.1
    refine S.regionD (L := [0, 1, 2, 3, 4, 5, 6, 7, 8, 9, 10, 11, 12, 13, 14, 15, 16, 17, 18, 19, 20, 21, 22, 23, 24, 25, 26, 27, 28, 29]) FactImg2.mixed (by kernel_rfl) ?_
    refine .quiet (.p rfl) rfl (fun _ => .fieldAddr FactImg2.fld48x0 rfl) ?_
    refine .quiet (.p rfl) rfl (fun _ => .loadAt FactImg2.flat9 rfl hb3 rfl) ?_
    refine .quiet (.p rfl) rfl (fun _ => .mv rfl) ?_
    refine .quiet (.p rfl) rfl (fun _ => .nilCheck rfl) ?_
    refine .quiet (.p rfl) rfl (fun _ => .fieldAddr FactImg2.fld56x1 rfl) ?_
    refine .quiet (.p rfl) rfl (fun _ => .loadAt FactImg2.flat9 rfl (hat.drop 1) rfl) ?_
    refine .quiet (.p rfl) rfl (fun _ => .gtrS rfl rfl) ?_
    refine OD.slot 10 (v' := .bool false) rfl (congrArg Value.bool (by rw [gtrS_eq]; exact decide_eq_false c1)) ?_
    refine .quiet (.p rfl) rfl (fun _ => .mv rfl) ?_
    refine .no rfl rfl rfl rfl ?_
    refine .no rfl rfl rfl rfl ?_
    refine .no rfl rfl rfl rfl ?_
    refine .no rfl rfl rfl rfl ?_
    refine .quiet (.p rfl) rfl (fun _ => .pickF rfl rfl) ?_
    refine .quiet (.p rfl) rfl (fun _ => .mv rfl) ?_
    refine .no rfl rfl rfl rfl ?_
    refine .no rfl rfl rfl rfl ?_
    refine .no rfl rfl rfl rfl ?_
    refine .no rfl rfl rfl rfl ?_
    refine .quiet (.p rfl) rfl (fun _ => .pickF rfl rfl) ?_
    refine .quiet (.p rfl) rfl (fun _ => .mv rfl) ?_
    refine .no rfl rfl rfl rfl ?_
    refine .no rfl rfl rfl rfl ?_
    refine .no rfl rfl rfl rfl ?_
    refine .no rfl rfl rfl rfl ?_
    refine .no rfl rfl rfl rfl ?_
    refine .no rfl rfl rfl rfl ?_
    refine .no rfl rfl rfl rfl ?_
    refine .no rfl rfl rfl rfl ?_
    refine .quiet (.p rfl) rfl (fun _ => .pickF rfl rfl) ?_
    refine OD.callP0 (.p rfl) (by kernel_rfl) rfl FactImg2.ok27 rfl rfl (imust_c _) (fun ch η' w hX hW => by (obtain ⟨hb, rfl, rfl⟩ := hX; exact hR _ _ w ⟨hno, rfl, rfl⟩ hW.drop_all)) ?_
    rintro v33 _ ⟨hb33, rfl, rfl⟩
    try simp only [List.cons_append, List.nil_append, List.append_nil]
    exact absurd hb33 (by simp)
  replace c1 := Classical.not_not.1 c1
  by_cases c2 : 64 < f.1.length
  · have hno : leafStep s f = none := if_neg fun q => by have := q.2.1; omega
    refine S.regionD (L := [0, 1, 2, 3, 4, 5, 6, 7, 8, 9, 10, 11, 12, 13, 14, 15, 16, 17, 18, 19, 20, 21, 22, 23, 24, 25, 26, 27, 28, 29]) FactImg2.mixed (by kernel_rfl) ?_
    refine .quiet (.p rfl) rfl (fun _ => .fieldAddr FactImg2.fld48x0 rfl) ?_
    refine .quiet (.p rfl) rfl (fun _ => .loadAt FactImg2.flat9 rfl hb3 rfl) ?_
    refine .quiet (.p rfl) rfl (fun _ => .mv rfl) ?_
    refine .quiet (.p rfl) rfl (fun _ => .nilCheck rfl) ?_
    refine .quiet (.p rfl) rfl (fun _ => .fieldAddr FactImg2.fld56x1 rfl) ?_
    refine .quiet (.p rfl) rfl (fun _ => .loadAt FactImg2.flat9 rfl (hat.drop 1) rfl) ?_
    refine .quiet (.p rfl) rfl (fun _ => .gtrS rfl rfl) ?_
    refine OD.slot 10 (v' := .bool true) rfl (congrArg Value.bool (by rw [gtrS_eq]; exact decide_eq_true c1)) ?_
    refine .quiet (.p rfl) rfl (fun _ => .mv rfl) ?_
    refine .quiet (.g rfl rfl) rfl (fun _ => .fieldAddr FactImg2.fld48x0 rfl) ?_
    refine .quiet (.g rfl rfl) rfl (fun _ => .loadAt FactImg2.flat9 rfl hb3 rfl) ?_
    refine .quiet (.g rfl rfl) rfl (fun _ => .lenS rfl Go.Proofs.Try.underlying9 rfl) ?_
    refine .quiet (.g rfl rfl) rfl (fun _ => .leq rfl rfl) ?_
    refine OD.slot 15 (v' := .bool false) rfl (congrArg Value.bool (by simp; omega)) ?_
    refine .quiet (.p rfl) rfl (fun _ => .pickT rfl rfl) ?_
    refine .quiet (.p rfl) rfl (fun _ => .mv rfl) ?_
    refine .no rfl rfl rfl rfl ?_
    refine .no rfl rfl rfl rfl ?_
    refine .no rfl rfl rfl rfl ?_
    refine .no rfl rfl rfl rfl ?_
    refine .quiet (.p rfl) rfl (fun _ => .pickF rfl rfl) ?_
    refine .quiet (.p rfl) rfl (fun _ => .mv rfl) ?_
    refine .no rfl rfl rfl rfl ?_
    refine .no rfl rfl rfl rfl ?_
    refine .no rfl rfl rfl rfl ?_
    refine .no rfl rfl rfl rfl ?_
    refine .no rfl rfl rfl rfl ?_
    refine .no rfl rfl rfl rfl ?_
    refine .no rfl rfl rfl rfl ?_
    refine .no rfl rfl rfl rfl ?_
    refine .quiet (.p rfl) rfl (fun _ => .pickF rfl rfl) ?_
    refine OD.callP0 (.p rfl) (by kernel_rfl) rfl FactImg2.ok27 rfl rfl (imust_c _) (fun ch η' w hX hW => by (obtain ⟨hb, rfl, rfl⟩ := hX; exact hR _ _ w ⟨hno, rfl, rfl⟩ hW.drop_all)) ?_
    rintro v33 _ ⟨hb33, rfl, rfl⟩
    try simp only [List.cons_append, List.nil_append, List.append_nil]
    exact absurd hb33 (by simp)
  by_cases c3 : f.2.1.length = 0
  · have hno : leafStep s f = none := if_neg fun q => by obtain ⟨q, _⟩ := q.2.2.1; omega
    refine S.regionD (L := [0, 1, 2, 3, 4, 5, 6, 7, 8, 9, 10, 11, 12, 13, 14, 15, 16, 17, 18, 19, 20, 21, 22, 23, 24, 25, 26, 27, 28, 29]) FactImg2.mixed (by kernel_rfl) ?_
    refine .quiet (.p rfl) rfl (fun _ => .fieldAddr FactImg2.fld48x0 rfl) ?_
    refine .quiet (.p rfl) rfl (fun _ => .loadAt FactImg2.flat9 rfl hb3 rfl) ?_
    refine .quiet (.p rfl) rfl (fun _ => .mv rfl) ?_
    refine .quiet (.p rfl) rfl (fun _ => .nilCheck rfl) ?_
    refine .quiet (.p rfl) rfl (fun _ => .fieldAddr FactImg2.fld56x1 rfl) ?_
    refine .quiet (.p rfl) rfl (fun _ => .loadAt FactImg2.flat9 rfl (hat.drop 1) rfl) ?_
    refine .quiet (.p rfl) rfl (fun _ => .gtrS rfl rfl) ?_
    refine OD.slot 10 (v' := .bool true) rfl (congrArg Value.bool (by rw [gtrS_eq]; exact decide_eq_true c1)) ?_
    refine .quiet (.p rfl) rfl (fun _ => .mv rfl) ?_
    refine .quiet (.g rfl rfl) rfl (fun _ => .fieldAddr FactImg2.fld48x0 rfl) ?_
    refine .quiet (.g rfl rfl) rfl (fun _ => .loadAt FactImg2.flat9 rfl hb3 rfl) ?_
    refine .quiet (.g rfl rfl) rfl (fun _ => .lenS rfl Go.Proofs.Try.underlying9 rfl) ?_
    refine .quiet (.g rfl rfl) rfl (fun _ => .leq rfl rfl) ?_
    refine OD.slot 15 (v' := .bool true) rfl (congrArg Value.bool (by simp; omega)) ?_
    refine .quiet (.p rfl) rfl (fun _ => .pickT rfl rfl) ?_
    refine .quiet (.p rfl) rfl (fun _ => .mv rfl) ?_
    refine .quiet (.g rfl rfl) rfl (fun _ => .fieldAddr FactImg2.fld48x1 rfl) ?_
    refine .quiet (.g rfl rfl) rfl (fun _ => .loadAt FactImg2.flat46 rfl (hb3.drop 1) rfl) ?_
    refine .quiet (.g rfl rfl) rfl (fun _ => .len rfl Go.Proofs.Try.underlying46 rfl) ?_
    refine .quiet (.g rfl rfl) rfl (fun _ => .gtr rfl rfl) ?_
    refine OD.slot 21 (v' := .bool false) rfl (congrArg Value.bool (by exact decide_eq_false (by omega))) ?_
    refine .quiet (.p rfl) rfl (fun _ => .pickT rfl rfl) ?_
    refine .quiet (.p rfl) rfl (fun _ => .mv rfl) ?_
    refine .no rfl rfl rfl rfl ?_
    refine .no rfl rfl rfl rfl ?_
    refine .no rfl rfl rfl rfl ?_
    refine .no rfl rfl rfl rfl ?_
    refine .no rfl rfl rfl rfl ?_
    refine .no rfl rfl rfl rfl ?_
    refine .no rfl rfl rfl rfl ?_
    refine .no rfl rfl rfl rfl ?_
    refine .quiet (.p rfl) rfl (fun _ => .pickF rfl rfl) ?_
    refine OD.callP0 (.p rfl) (by kernel_rfl) rfl FactImg2.ok27 rfl rfl (imust_c _) (fun ch η' w hX hW => by (obtain ⟨hb, rfl, rfl⟩ := hX; exact hR _ _ w ⟨hno, rfl, rfl⟩ hW.drop_all)) ?_
    rintro v33 _ ⟨hb33, rfl, rfl⟩
    try simp only [List.cons_append, List.nil_append, List.append_nil]
    exact absurd hb33 (by simp)
  have h0 : 0 < f.2.1.length := by omega
  by_cases c4 : ¬ f.2.1[0].1 = f.1
  · have hno : leafStep s f = none := if_neg fun q => by obtain ⟨_, q⟩ := q.2.2.1; exact c4 q
    refine S.regionD (L := [0, 1, 2, 3, 4, 5, 6, 7, 8, 9, 10, 11, 12, 13, 14, 15, 16, 17, 18, 19, 20, 21, 22, 23, 24, 25, 26, 27, 28, 29]) FactImg2.mixed (by kernel_rfl) ?_
    refine .quiet (.p rfl) rfl (fun _ => .fieldAddr FactImg2.fld48x0 rfl) ?_
    refine .quiet (.p rfl) rfl (fun _ => .loadAt FactImg2.flat9 rfl hb3 rfl) ?_
    refine .quiet (.p rfl) rfl (fun _ => .mv rfl) ?_
    refine .quiet (.p rfl) rfl (fun _ => .nilCheck rfl) ?_
    refine .quiet (.p rfl) rfl (fun _ => .fieldAddr FactImg2.fld56x1 rfl) ?_
    refine .quiet (.p rfl) rfl (fun _ => .loadAt FactImg2.flat9 rfl (hat.drop 1) rfl) ?_
    refine .quiet (.p rfl) rfl (fun _ => .gtrS rfl rfl) ?_
    refine OD.slot 10 (v' := .bool true) rfl (congrArg Value.bool (by rw [gtrS_eq]; exact decide_eq_true c1)) ?_
    refine .quiet (.p rfl) rfl (fun _ => .mv rfl) ?_
    refine .quiet (.g rfl rfl) rfl (fun _ => .fieldAddr FactImg2.fld48x0 rfl) ?_
    refine .quiet (.g rfl rfl) rfl (fun _ => .loadAt FactImg2.flat9 rfl hb3 rfl) ?_
    refine .quiet (.g rfl rfl) rfl (fun _ => .lenS rfl Go.Proofs.Try.underlying9 rfl) ?_
    refine .quiet (.g rfl rfl) rfl (fun _ => .leq rfl rfl) ?_
    refine OD.slot 15 (v' := .bool true) rfl (congrArg Value.bool (by simp; omega)) ?_
    refine .quiet (.p rfl) rfl (fun _ => .pickT rfl rfl) ?_
    refine .quiet (.p rfl) rfl (fun _ => .mv rfl) ?_
    refine .quiet (.g rfl rfl) rfl (fun _ => .fieldAddr FactImg2.fld48x1 rfl) ?_
    refine .quiet (.g rfl rfl) rfl (fun _ => .loadAt FactImg2.flat46 rfl (hb3.drop 1) rfl) ?_
    refine .quiet (.g rfl rfl) rfl (fun _ => .len rfl Go.Proofs.Try.underlying46 rfl) ?_
    refine .quiet (.g rfl rfl) rfl (fun _ => .gtr rfl rfl) ?_
    refine OD.slot 21 (v' := .bool true) rfl (congrArg Value.bool (by exact decide_eq_true (by omega))) ?_
    refine .quiet (.p rfl) rfl (fun _ => .pickT rfl rfl) ?_
    refine .quiet (.p rfl) rfl (fun _ => .mv rfl) ?_
    refine .quiet (.g rfl rfl) rfl (fun _ => .fieldAddr FactImg2.fld48x1 rfl) ?_
    refine .quiet (.g rfl rfl) rfl (fun _ => .loadAt FactImg2.flat46 rfl (hb3.drop 1) rfl) ?_
    refine OD.idx' (.g rfl rfl) Go.Proofs.Try.underlying46 FactImg2.size68 rfl rfl (show _ = (((0) : Nat) : Int) by omega) (by first | assumption | exact Arr.mono hg (by assumption) | exact Arr.left (by assumption) | exact Arr.left (Arr.mono hg (by assumption))) (by decide) (by first | omega | (simp; done) | (simp; omega) | decide) (fun p26 cs26 hp26 hr26 => ?_)
    obtain ⟨ra3_26, ra5_26, ra6_26, rc3_26, rc5_26, rc6_26, rfl, ho0_26, ho1_26, ho2_26, ha3_26, ha5_26, ha6_26⟩ := RecRp.sh hr26
    refine .quiet (.g rfl rfl) rfl (fun _ => .fieldAddr FactImg2.fld68x0 rfl) ?_
    refine .quiet (.g rfl rfl) rfl (fun _ => .loadAt FactImg2.flat9 rfl hp26 rfl) ?_
    refine .quiet (.g rfl rfl) rfl (fun _ => .fieldAddr FactImg2.fld48x0 rfl) ?_
    refine .quiet (.g rfl rfl) rfl (fun _ => .loadAt FactImg2.flat9 rfl hb3 rfl) ?_
    refine .quiet (.g rfl rfl) rfl (fun _ => .eqlS rfl rfl) ?_
    refine OD.slot 31 (v' := .bool false) rfl (congrArg Value.bool (by simp; exact c4)) ?_
    refine .quiet (.p rfl) rfl (fun _ => .pickT rfl rfl) ?_
    refine OD.callP0 (.p rfl) (by kernel_rfl) rfl FactImg2.ok27 rfl rfl (imust_c _) (fun ch η' w hX hW => by (obtain ⟨hb, rfl, rfl⟩ := hX; exact hR _ _ w ⟨hno, rfl, rfl⟩ hW.drop_all)) ?_
    rintro v33 _ ⟨hb33, rfl, rfl⟩
    try simp only [List.cons_append, List.nil_append, List.append_nil]
    exact absurd hb33 (by simp)
  replace c4 := Classical.not_not.1 c4
  refine S.regionD (L := [0, 1, 2, 3, 4, 5, 6, 7, 8, 9, 10, 11, 12, 13, 14, 15, 16, 17, 18, 19, 20, 21, 22, 23, 24, 25, 26, 27, 28, 29]) FactImg2.mixed (by kernel_rfl) ?_
  refine .quiet (.p rfl) rfl (fun _ => .fieldAddr FactImg2.fld48x0 rfl) ?_
  refine .quiet (.p rfl) rfl (fun _ => .loadAt FactImg2.flat9 rfl hb3 rfl) ?_
  refine .quiet (.p rfl) rfl (fun _ => .mv rfl) ?_
  refine .quiet (.p rfl) rfl (fun _ => .nilCheck rfl) ?_
  refine .quiet (.p rfl) rfl (fun _ => .fieldAddr FactImg2.fld56x1 rfl) ?_
  refine .quiet (.p rfl) rfl (fun _ => .loadAt FactImg2.flat9 rfl (hat.drop 1) rfl) ?_
  refine .quiet (.p rfl) rfl (fun _ => .gtrS rfl rfl) ?_
  refine OD.slot 10 (v' := .bool true) rfl (congrArg Value.bool (by rw [gtrS_eq]; exact decide_eq_true c1)) ?_
  refine .quiet (.p rfl) rfl (fun _ => .mv rfl) ?_
  refine .quiet (.g rfl rfl) rfl (fun _ => .fieldAddr FactImg2.fld48x0 rfl) ?_
  refine .quiet (.g rfl rfl) rfl (fun _ => .loadAt FactImg2.flat9 rfl hb3 rfl) ?_
  refine .quiet (.g rfl rfl) rfl (fun _ => .lenS rfl Go.Proofs.Try.underlying9 rfl) ?_
  refine .quiet (.g rfl rfl) rfl (fun _ => .leq rfl rfl) ?_
  refine OD.slot 15 (v' := .bool true) rfl (congrArg Value.bool (by simp; omega)) ?_
  refine .quiet (.p rfl) rfl (fun _ => .pickT rfl rfl) ?_
  refine .quiet (.p rfl) rfl (fun _ => .mv rfl) ?_
  refine .quiet (.g rfl rfl) rfl (fun _ => .fieldAddr FactImg2.fld48x1 rfl) ?_
  refine .quiet (.g rfl rfl) rfl (fun _ => .loadAt FactImg2.flat46 rfl (hb3.drop 1) rfl) ?_
  refine .quiet (.g rfl rfl) rfl (fun _ => .len rfl Go.Proofs.Try.underlying46 rfl) ?_
  refine .quiet (.g rfl rfl) rfl (fun _ => .gtr rfl rfl) ?_
  refine OD.slot 21 (v' := .bool true) rfl (congrArg Value.bool (by exact decide_eq_true (by omega))) ?_
  refine .quiet (.p rfl) rfl (fun _ => .pickT rfl rfl) ?_
  refine .quiet (.p rfl) rfl (fun _ => .mv rfl) ?_
  refine .quiet (.g rfl rfl) rfl (fun _ => .fieldAddr FactImg2.fld48x1 rfl) ?_
  refine .quiet (.g rfl rfl) rfl (fun _ => .loadAt FactImg2.flat46 rfl (hb3.drop 1) rfl) ?_
  refine OD.idx' (.g rfl rfl) Go.Proofs.Try.underlying46 FactImg2.size68 rfl rfl (show _ = (((0) : Nat) : Int) by omega) (by first | assumption | exact Arr.mono hg (by assumption) | exact Arr.left (by assumption) | exact Arr.left (Arr.mono hg (by assumption))) (by decide) (by first | omega | (simp; done) | (simp; omega) | decide) (fun p26 cs26 hp26 hr26 => ?_)
  obtain ⟨ra3_26, ra5_26, ra6_26, rc3_26, rc5_26, rc6_26, rfl, ho0_26, ho1_26, ho2_26, ha3_26, ha5_26, ha6_26⟩ := RecRp.sh hr26
  refine .quiet (.g rfl rfl) rfl (fun _ => .fieldAddr FactImg2.fld68x0 rfl) ?_
  refine .quiet (.g rfl rfl) rfl (fun _ => .loadAt FactImg2.flat9 rfl hp26 rfl) ?_
  refine .quiet (.g rfl rfl) rfl (fun _ => .fieldAddr FactImg2.fld48x0 rfl) ?_
  refine .quiet (.g rfl rfl) rfl (fun _ => .loadAt FactImg2.flat9 rfl hb3 rfl) ?_
  refine .quiet (.g rfl rfl) rfl (fun _ => .eqlS rfl rfl) ?_
  refine OD.slot 31 (v' := .bool true) rfl (congrArg Value.bool (by simp [c4])) ?_
  refine .quiet (.p rfl) rfl (fun _ => .pickT rfl rfl) ?_
  refine OD.callP0 (.p rfl) (by kernel_rfl) rfl FactImg2.ok27 rfl rfl (imust_c _) (fun ch η' w hX hW => by (exact absurd hX.1 (by simp))) ?_
  rintro v33 _ ⟨hb33, rfl, rfl⟩
  try simp only [List.cons_append, List.nil_append, List.append_nil]
  refine .nil ?_
  refine S.seq ?_
  refine S.back hbo ?_
  replace hg := hg_o
  replace hR := hR_o
  try replace k1 := k1_o
  try replace hb3 := hb3_o
  clear hg_o hR_o
  refine S.region rfl ?_
  refine O.op (.p rfl) (.mv rfl) ?_
  refine O.op (.p rfl) (.fieldAddr FactImg2.fld48x0 rfl) ?_
  refine O.op (.p rfl) (.loadAt FactImg2.flat9 rfl hb3 rfl) ?_
  refine O.op (.p rfl) (.nilCheck rfl) ?_
  refine O.op (.p rfl) (.fieldObj FactImg2.fld56x1 rfl) ?_
  refine O.opU rfl (.store1 FactImg2.flat9 rfl rfl (by first | rfl | assumption) (by repeat (first | exact Sel.here | apply Sel.there)) (by first | (simp; done) | (simp [Value.cells]; done))) ?_
  refine O.nil ?_
  by_cases c5 : ¬ SRight f.2.1
  · have hno : leafStep s f = none := if_neg fun q => c5 q.2.2.2
    have e5 : sErr f.2.1 = 4 := if_neg c5
    refine S.regionD (L := [0, 1, 2, 3, 4, 7, 8, 5, 6, 9, 10, 11, 12, 13, 14, 15]) FactImg2.mixed (by kernel_rfl) ?_
    refine .quiet (.p rfl) rfl (fun _ => .mv rfl) ?_
    refine .quiet (.p rfl) rfl (fun _ => .nilCheck rfl) ?_
    refine .quiet (.p rfl) rfl (fun _ => .fieldObj FactImg2.fld56x0 rfl) ?_
    refine .quiet (.p rfl) rfl (fun _ => .fieldAddr FactImg2.fld48x0 rfl) ?_
    refine .quiet (.p rfl) rfl (fun _ => .loadAt FactImg2.flat9 rfl hb3 rfl) ?_
    refine .quiet (.p rfl) rfl (fun _ => .fieldAddr FactImg2.fld48x1 rfl) ?_
    refine .quiet (.p rfl) rfl (fun _ => .loadAt FactImg2.flat46 rfl (hb3.drop 1) rfl) ?_
    refine OD.strBytesO (.p rfl) (by kernel_rfl) Go.Proofs.Try.underlying9 Go.Proofs.Try.underlying32 Go.Proofs.Try.underlying5 rfl (by first | assumption | omega | (simp; done) | (simp; omega)) (fun a44 c44 => ?_)
    refine OD.callB (.p rfl) (by kernel_rfl) rfl FactImg2.ok28 rfl rfl (bs := [OwnP Rp.u8 5 (.slice a44 f.1.length c44) f.1]) (by repeat (first | exact Sels.nil | (apply Sels.cons; focus (repeat (first | exact Sel.here | apply Sel.there))))) (fun m hm hd => wBytes_c (hm.arr.right hd) (by omega)) ?_
    rintro v45 _ ⟨a45, c45, rfl, rfl⟩
    try simp only [List.cons_append, List.nil_append, List.append_nil]
    refine OD.call0 (.p rfl) (by kernel_rfl) rfl FactImg2.ok30 rfl rfl (sPut_c (by first | assumption | exact Arr.mono hg (by assumption) | exact Arr.left (by assumption) | exact Arr.left (Arr.mono hg (by assumption))) (by first | omega | (simp; done) | (simp; omega) | decide)) ?_
    rintro v48 _ ⟨a48, c48, rfl, rfl⟩
    try simp only [List.cons_append, List.nil_append, List.append_nil]
    refine .quiet (.p rfl) rfl (fun _ => .extract rfl rfl) ?_
    refine .quiet (.p rfl) rfl (fun _ => .extract rfl rfl) ?_
    refine OD.callP0 (.p rfl) (by kernel_rfl) rfl FactImg2.ok29 rfl rfl (told_c) (fun ch η' w hX hW => by (obtain ⟨hb, rfl, rfl⟩ := hX; exact hR _ _ w ⟨hno, rfl, rfl⟩ hW.drop_all)) ?_
    rintro v51 _ ⟨hb51, rfl, rfl⟩
    try simp only [List.cons_append, List.nil_append, List.append_nil]
    exact absurd hb51 (by rw [e5]; decide)
  replace c5 := Classical.not_not.1 c5
  have e5 : sOut f.2.1 = sB f.2.1 := if_pos c5
  have hyes : leafStep s f = some { s with key := f.1, out := s.out ++ (bytesOf f.1 ++ bytesOf (sB f.2.1)) } := if_pos ⟨c1, by omega, ⟨h0, c4⟩, c5⟩
  have hbd := sB_le c5.1
  have hfl : [bytesOf f.1, bytesOf (sB f.2.1)].flatten = bytesOf f.1 ++ bytesOf (sB f.2.1) := by simp
  refine S.regionD (L := [0, 1, 2, 3, 4, 7, 8, 5, 6, 9, 10, 11, 12, 13, 14, 15]) FactImg2.mixed (by kernel_rfl) ?_
  refine .quiet (.p rfl) rfl (fun _ => .mv rfl) ?_
  refine .quiet (.p rfl) rfl (fun _ => .nilCheck rfl) ?_
  refine .quiet (.p rfl) rfl (fun _ => .fieldObj FactImg2.fld56x0 rfl) ?_
  refine .quiet (.p rfl) rfl (fun _ => .fieldAddr FactImg2.fld48x0 rfl) ?_
  refine .quiet (.p rfl) rfl (fun _ => .loadAt FactImg2.flat9 rfl hb3 rfl) ?_
  refine .quiet (.p rfl) rfl (fun _ => .fieldAddr FactImg2.fld48x1 rfl) ?_
  refine .quiet (.p rfl) rfl (fun _ => .loadAt FactImg2.flat46 rfl (hb3.drop 1) rfl) ?_
  refine OD.strBytesO (.p rfl) (by kernel_rfl) Go.Proofs.Try.underlying9 Go.Proofs.Try.underlying32 Go.Proofs.Try.underlying5 rfl (by first | assumption | omega | (simp; done) | (simp; omega)) (fun a44 c44 => ?_)
  refine OD.callB (.p rfl) (by kernel_rfl) rfl FactImg2.ok28 rfl rfl (bs := [OwnP Rp.u8 5 (.slice a44 f.1.length c44) f.1]) (by repeat (first | exact Sels.nil | (apply Sels.cons; focus (repeat (first | exact Sel.here | apply Sel.there))))) (fun m hm hd => wBytes_c (hm.arr.right hd) (by omega)) ?_
  rintro v45 _ ⟨a45, c45, rfl, rfl⟩
  try simp only [List.cons_append, List.nil_append, List.append_nil]
  refine OD.call0 (.p rfl) (by kernel_rfl) rfl FactImg2.ok30 rfl rfl ((sPut_c k1 (by omega))) ?_
  rintro v48 _ ⟨a48, c48, rfl, rfl⟩
  try simp only [List.cons_append, List.nil_append, List.append_nil]
  rw [e5]
  refine .quiet (.p rfl) rfl (fun _ => .extract rfl rfl) ?_
  refine .quiet (.p rfl) rfl (fun _ => .extract rfl rfl) ?_
  refine OD.callP0 (.p rfl) (by kernel_rfl) rfl FactImg2.ok29 rfl rfl (told_c) (fun ch η' w hX hW => by (exact absurd (if_pos c5) hX.1)) ?_
  rintro v51 _ ⟨hb51, rfl, rfl⟩
  try simp only [List.cons_append, List.nil_append, List.append_nil]
  refine OD.callB (.p rfl) (by kernel_rfl) rfl FactImg2.ok28 rfl rfl (bs := [OwnP Rp.u8 5 (.slice a48 (sB f.2.1).length c48) (sB f.2.1)]) (by repeat (first | exact Sels.nil | (apply Sels.cons; focus (repeat (first | exact Sel.here | apply Sel.there))))) (fun m hm hd => wBytes_c (hm.arr.right hd) (by omega)) ?_
  rintro v52 _ ⟨a52, c52, rfl, rfl⟩
  try simp only [List.cons_append, List.nil_append, List.append_nil]
  refine OD.litP (T := Rp.val) (ys := [_, _]) (.p rfl) (by kernel_rfl) Go.Proofs.Try.underlying79 FactImg2.elem32 (by decide) rfl rfl ⟨⟨rfl, rfl⟩, ⟨rfl, rfl⟩, trivial⟩ (by decide) (fun a53 c53 => ?_)
  refine OD.callSs (.p rfl) (by kernel_rfl) rfl FactImg2.ok25 rfl rfl (by repeat (first | exact Sels.nil | (apply Sels.cons; focus (repeat (first | exact Sel.here | apply Sel.there))))) (Con.lentW (η := [obj b 56 [.slice p.1.1.1 s.out.length p.1.1.2, .string (str f.1), .int .i64 s.rep, .int .i64 s.shard, .int .i64 p.2.1, .slice p.2.2.1.1 p.2.2.1.2.1 p.2.2.1.2.2, .slice p.2.2.2.1 p.2.2.2.2.1 p.2.2.2.2.2, .int .i64 s.last, .slice p.1.2.1 s.seen.length p.1.2.2], OwnP Rp.u8 5 (.slice p.1.1.1 s.out.length p.1.1.2) s.out]) (bs := [OwnP Rp.val 32 (.slice a53 2 c53) [.slice a45 (bytesOf f.1).length c45, .slice a52 (bytesOf (sB f.2.1)).length c52], OwnP Rp.u8 5 (.slice a45 (bytesOf f.1).length c45) (bytesOf f.1), OwnP Rp.u8 5 (.slice a52 (bytesOf (sB f.2.1)).length c52) (bytesOf (sB f.2.1))]) (fun m hm hd => bput_c (xss := [bytesOf f.1, bytesOf (sB f.2.1)]) ((hm.arr.right hd).rows ⟨hm.tail.arr.right hd, hm.tail.tail.arr.right hd, trivial⟩) (by rw [hfl]; simp; omega) rfl)) ?_
  rintro v54 _ ⟨_, ⟨a54, c54, rfl, rfl⟩, rfl⟩
  try simp only [List.cons_append, List.nil_append, List.append_nil]
  rw [hfl]
  refine .nil ?_
  refine S.foldS (A := WrB b { s with key := f.1, out := s.out ++ (bytesOf f.1 ++ bytesOf (sB f.2.1)) }) (bs := [obj b 56 [.slice a54 (s.out ++ (bytesOf f.1 ++ bytesOf (sB f.2.1))).length c54, .string (str f.1), .int .i64 s.rep, .int .i64 s.shard, .int .i64 p.2.1, .slice p.2.2.1.1 p.2.2.1.2.1 p.2.2.1.2.2, .slice p.2.2.2.1 p.2.2.2.2.1 p.2.2.2.2.2, .int .i64 s.last, .slice p.1.2.1 s.seen.length p.1.2.2], OwnP Rp.u8 5 (.slice a54 (s.out ++ (bytesOf f.1 ++ bytesOf (sB f.2.1))).length c54) (s.out ++ (bytesOf f.1 ++ bytesOf (sB f.2.1))), OwnP Rp.str 9 (.slice p.1.2.1 s.seen.length p.1.2.2) s.seen]) (by repeat (first | exact Sels.nil | (apply Sels.cons; focus (repeat (first | exact Sel.here | apply Sel.there))))) (fun m x => ⟨(((a54, c54), p.1.2), p.2), x⟩) ?_
  refine S.end0 Go.Proofs.Try.results17 fun w hw => Holds.end_ hR hw ?_
  exact ⟨_, ⟨rfl, _, hyes, rfl⟩, by repeat (first | exact Picks.all | exact Picks.nil | (apply Picks.cons; focus (repeat (first | exact Sel.here | apply Sel.there))) | apply Picks.skip)⟩

end Go.Proofs.Ytodhbhanmdfdeaa
