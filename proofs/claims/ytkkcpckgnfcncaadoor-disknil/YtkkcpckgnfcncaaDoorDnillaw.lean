import Derived.Test.YtkkcpckgnfcncaaDoorDlight
import Derived.Test.YtkkcpckgnfcncaaDoorSpLoop
open Go Go.Sp
set_option maxRecDepth 100000
attribute [local irreducible] obj Own OwnP
namespace Go.Proofs.YtkkcpckgnfcncaaDoor
theorem FactDnillaw.elem25 : elemIs Go.Proofs.Tryd.prog 25 1 8 [.pointer none] := elemIs.mk (by kernel_rfl) rfl
theorem FactDnillaw.elem33 : elemIs Go.Proofs.Tryd.prog 33 5 72 [.int .i64 0, .int .i64 0, .string ⟨#[]⟩, .string ⟨#[]⟩, .slice none 0 0] := elemIs.mk (by kernel_rfl) rfl
theorem FactDnillaw.flat25 : Go.Sp.flat1 Go.Proofs.Tryd.prog 25 = true := by kernel_rfl
theorem FactDnillaw.flat3 : Go.Sp.flat1 Go.Proofs.Tryd.prog 3 = true := by kernel_rfl
theorem FactDnillaw.flat9 : Go.Sp.flat1 Go.Proofs.Tryd.prog 9 = true := by kernel_rfl
theorem FactDnillaw.fld33x0 : fieldOff Go.Proofs.Tryd.prog 33 0 = some 0 := by kernel_rfl
theorem FactDnillaw.fld33x2 : fieldOff Go.Proofs.Tryd.prog 33 2 = some 2 := by kernel_rfl
theorem FactDnillaw.mixed : Go.Proofs.Tryd.prog.follows .mixedOrders = true := by kernel_rfl
theorem FactDnillaw.ok10 : callable Go.Proofs.Tryd.prog 10 = true := by kernel_rfl
theorem FactDnillaw.ok15 : callable Go.Proofs.Tryd.prog 15 = true := by kernel_rfl
theorem FactDnillaw.ok16 : callable Go.Proofs.Tryd.prog 16 = true := by kernel_rfl
theorem FactDnillaw.ok17 : callable Go.Proofs.Tryd.prog 17 = true := by kernel_rfl
theorem FactDnillaw.ok18 : callable Go.Proofs.Tryd.prog 18 = true := by kernel_rfl
theorem FactDnillaw.ok19 : callable Go.Proofs.Tryd.prog 19 = true := by kernel_rfl
theorem FactDnillaw.ok7 : callable Go.Proofs.Tryd.prog 7 = true := by kernel_rfl
theorem FactDnillaw.ok8 : callable Go.Proofs.Tryd.prog 8 = true := by kernel_rfl
theorem FactDnillaw.size25 : (Go.Proofs.Tryd.prog.info? 25).map (·.size) = some 1 := by kernel_rfl

theorem diskNil_c {r : Fr} {va : Value} {x : DeedT} (ha : Arr Rp.u8 r va x.2.2.2.2.1) (h1 : InI64 x.1) (h2 : InI64 x.2.1) (h3 : x.2.2.1.length ≤ 140737488355328) (h4 : x.2.2.2.1.length ≤ 140737488355328) :
    Con Go.Proofs.Tryd.prog 4 #[.agg #[.int .i64 x.1, .int .i64 x.2.1, .string (str x.2.2.1), .string (str x.2.2.2.1), va]] r [] (Ret fun v η => v = .bool true ∧ η = []) := by
  refine Con.of (n := 75) [.agg #[.int .i64 x.1, .int .i64 x.2.1, .string (str x.2.2.1), .string (str x.2.2.2.1), va]] rfl Go.Proofs.Tryd.func4 rfl rfl rfl fun g hg R hR => ?_
  have ha := ha.mono hg
  obtain ⟨a0, c0, rfl⟩ := ha.shape
  refine S.seq (S.region rfl ?_)
  refine O.opE (.p rfl) (.box (cs := [_, _, _, _, _]) rfl rfl) ?_
  rintro _ _ ⟨b1, rfl, rfl⟩
  refine O.op (.p rfl) (.as rfl) ?_
  refine O.nil ?_
  refine S.seq (S.seq (S.region rfl ?_))
  refine O.op (.p rfl) (.loadObjAgg (news := [_, _, _, _, _]) Go.Proofs.Tryd.isAgg33 (by kernel_rfl) rfl (by repeat (first | exact Sel.here | apply Sel.there)) rfl) ?_
  refine O.opE (.p rfl) (.litP (T := (Rp.cells 5)) (ys := [_]) Go.Proofs.Tryd.underlying22 FactDnillaw.elem33 (by decide) rfl rfl ⟨⟨rfl, rfl, by first | (simp; done) | (intro v hv; simp [Value.cells] at hv; rcases hv with rfl | rfl <;> rfl) | (refine List.forall_mem_cons.2 ⟨rfl, ?_⟩; repeat (first | exact (fun _ h => absurd h List.not_mem_nil) | refine List.forall_mem_cons.2 ⟨rfl, ?_⟩))⟩, trivial⟩ (by decide)) ?_
  rintro _ _ ⟨a9, c9, rfl, rfl⟩
  refine O.frzA (by repeat (first | exact Sel.here | apply Sel.there)) fun g hs hm ha9 => ?_
  replace hg := Fr.sub_trans hg hs
  replace hR := melted hR hm
  try replace ha := ha.mono hs
  clear hs hm
  refine O.call0 (.p rfl) rfl FactDnillaw.ok8 rfl rfl (light_c (Arr.ofCells (xs := [x]) ha9 ⟨DeedR.mk h1 h2 (by omega) (by omega) ha, trivial⟩ rfl) (fun y hy => by rw [List.mem_singleton.1 hy]; exact ⟨h3, h4⟩)) ?_
  rintro v10 _ ⟨rfl, rfl⟩
  try simp only [List.cons_append, List.nil_append, List.append_nil]
  refine O.op (.p rfl) ((by first | exact .notD rfl | exact .not rfl)) ?_
  refine O.nil ?_
  first | refine S.condD rfl (fun h11 => ?_) (fun h11 => ?_) | refine S.condB rfl (fun h11 => ?_) (fun h11 => ?_)
  · refine S.seq (S.region rfl ?_)
    refine O.call0 (.p rfl) rfl FactDnillaw.ok7 rfl rfl (awake_c) ?_
    rintro v12 _ ⟨rfl, rfl⟩
    try simp only [List.cons_append, List.nil_append, List.append_nil]
    refine O.op (.p rfl) (.as rfl) ?_
    refine O.nil ?_
    refine S.ret Go.Proofs.Tryd.results4 rfl fun w hw => Holds.end_ hR hw ?_
    exact ⟨_, ⟨rfl, rfl⟩, by repeat (first | exact Picks.all | exact Picks.nil | (apply Picks.cons; focus (repeat (first | exact Sel.here | apply Sel.there))) | apply Picks.skip)⟩
  · refine S.skip (S.seq (S.region rfl ?_))
    refine O.op (.p rfl) (.build (cs := [_, _, _]) Go.Proofs.Tryd.underlying47 rfl rfl rfl rfl rfl) ?_
    refine O.opE (.p rfl) (.box (cs := [_, _, _]) rfl rfl) ?_
    rintro _ _ ⟨b14, rfl, rfl⟩
    refine O.opE (.p rfl) (.litP (T := Rp.val) (ys := [_, _]) Go.Proofs.Tryd.underlying48 FactDnillaw.elem25 (by decide) rfl rfl ⟨⟨rfl, rfl⟩, ⟨rfl, rfl⟩, trivial⟩ (by decide)) ?_
    rintro _ _ ⟨a15, c15, rfl, rfl⟩
    refine O.op (.p rfl) (.as rfl) ?_
    refine O.nil ?_
    refine S.seq (S.seq ?_)
    refine S.frzA (by repeat (first | exact Sel.here | apply Sel.there)) fun g hs hm hl => ?_
    replace hg := Fr.sub_trans hg hs
    replace hR := melted hR hm
    try replace ha := ha.mono hs
    try replace ha9 := ha9.mono hs
    clear hs hm
    refine S.frzO (by repeat (first | exact Sel.here | apply Sel.there)) fun g hs hm hz => ?_
    replace hg := Fr.sub_trans hg hs
    replace hR := melted hR hm
    try replace ha := ha.mono hs
    try replace ha9 := ha9.mono hs
    try replace hl := hl.mono hs
    clear hs hm
    refine S.frzO (by repeat (first | exact Sel.here | apply Sel.there)) fun g hs hm hxo => ?_
    replace hg := Fr.sub_trans hg hs
    replace hR := melted hR hm
    try replace ha := ha.mono hs
    try replace ha9 := ha9.mono hs
    try replace hl := hl.mono hs
    try replace hz := hz.mono hs
    clear hs hm
    refine S.region rfl ?_
    refine O.op (.p rfl) (.as rfl) ?_
    refine O.nil ?_
    refine S.block ?_
    by_cases h6 : pick x.1 7 = 6
    case pos =>
      refine S.unroll ?_
      refine S.seq (S.seq (S.region rfl ?_))
      refine O.op (.p rfl) (.mv rfl) ?_
      refine O.op (.p rfl) (.lss rfl rfl) ?_
      refine O.nil ?_
      refine S.condT rfl ?_
      refine S.skip (S.seq (S.block (S.seq (S.regionD (L := [0, 1, 2, 3, 4, 5, 6]) FactDnillaw.mixed (by kernel_rfl) ?_))))
      refine .quiet (.p rfl) rfl (fun _ => .mv rfl) ?_
      refine .quiet (.p rfl) rfl (fun _ => .mv rfl) ?_
      refine OD.idx' (.p rfl) Go.Proofs.Tryd.underlying48 FactDnillaw.size25 rfl rfl (show _ = (((0) : Nat) : Int) by omega) (by first | assumption | exact Arr.mono hg (by assumption) | exact Arr.left (by assumption) | exact Arr.left (Arr.mono hg (by assumption))) (by decide) (by first | omega | (simp; done) | (simp; omega) | decide) (fun p22 cs22 hp22 hr22 => ?_)
      obtain ⟨rfl, hz22⟩ := hr22
      refine .quiet (.p rfl) rfl (fun _ => .loadAt FactDnillaw.flat25 rfl hp22 rfl) ?_
      refine .quiet (.p rfl) rfl (fun _ => .loadAgg Go.Proofs.Tryd.isAgg33 (by kernel_rfl) rfl hxo) ?_
      refine OD.call0 (.p rfl) (by kernel_rfl) rfl FactDnillaw.ok17 rfl rfl ((does_n (x := x) (.inl rfl) ha)) ?_
      rintro v25 _ ⟨rfl, rfl⟩
      try simp only [List.cons_append, List.nil_append, List.append_nil]
      rw [if_pos h6]
      refine .quiet (.p rfl) rfl (fun _ => .as rfl) ?_
      refine .nil ?_
      refine S.seq (S.regionD (L := [0, 1, 2, 3, 4, 5, 6, 7, 8, 9, 10, 11]) FactDnillaw.mixed (by kernel_rfl) ?_)
      refine .quiet (.p rfl) rfl (fun _ => .mv rfl) ?_
      refine .quiet (.p rfl) rfl (fun _ => .mv rfl) ?_
      refine OD.idx' (.p rfl) Go.Proofs.Tryd.underlying48 FactDnillaw.size25 rfl rfl (show _ = (((0) : Nat) : Int) by omega) (by first | assumption | exact Arr.mono hg (by assumption) | exact Arr.left (by assumption) | exact Arr.left (Arr.mono hg (by assumption))) (by decide) (by first | omega | (simp; done) | (simp; omega) | decide) (fun p29 cs29 hp29 hr29 => ?_)
      obtain ⟨rfl, hz29⟩ := hr29
      refine .quiet (.p rfl) rfl (fun _ => .loadAt FactDnillaw.flat25 rfl hp29 rfl) ?_
      refine .quiet (.p rfl) rfl (fun _ => .fieldAddr FactDnillaw.fld33x2 rfl) ?_
      refine .quiet (.p rfl) rfl (fun _ => .loadAt FactDnillaw.flat9 rfl (hxo.drop 2) rfl) ?_
      refine OD.call0 (.p rfl) (by kernel_rfl) rfl FactDnillaw.ok15 rfl rfl ((read_n (.inl rfl))) ?_
      rintro v33 _ ⟨rfl, rfl⟩
      try simp only [List.cons_append, List.nil_append, List.append_nil]
      refine .quiet (.p rfl) rfl (fun _ => .mv rfl) ?_
      refine .quiet (.p rfl) rfl (fun _ => .extract rfl rfl) ?_
      refine .quiet (.p rfl) rfl (fun _ => .extract rfl rfl) ?_
      refine .quiet (.p rfl) rfl (fun _ => .as rfl) ?_
      refine .quiet (.p rfl) rfl (fun _ => .as rfl) ?_
      refine .nil ?_
      refine S.seq (S.regionD (L := [0, 1, 2, 3, 4, 5, 6, 7, 8, 9, 10, 11, 12, 13, 14, 15, 16, 17, 18, 22, 23, 24, 25, 19, 20, 21, 26, 27, 28, 29, 30, 31, 32, 33, 34, 35, 36, 37]) FactDnillaw.mixed (by kernel_rfl) ?_)
      refine .quiet (.p rfl) rfl (fun _ => .mv rfl) ?_
      refine .quiet (.p rfl) rfl (fun _ => .neq rfl rfl) ?_
      refine OD.slot 37 (v' := .bool true) rfl (congrArg Value.bool (by rfl)) ?_
      refine .quiet (.p rfl) rfl (fun _ => .mv rfl) ?_
      refine .quiet (.g rfl rfl) rfl (fun _ => .fieldAddr FactDnillaw.fld33x0 rfl) ?_
      refine .quiet (.g rfl rfl) rfl (fun _ => .loadAt FactDnillaw.flat3 rfl hxo rfl) ?_
      refine OD.call0 (.g rfl rfl) (by kernel_rfl) rfl FactDnillaw.ok10 rfl rfl (Pick_c _ _ (by first | assumption | (constructor <;> omega))) ?_
      rintro v41 _ ⟨rfl, rfl⟩
      try simp only [List.cons_append, List.nil_append, List.append_nil]
      rw [h6]
      refine .quiet (.g rfl rfl) rfl (fun _ => .neq rfl rfl) ?_
      refine OD.slot 42 (v' := .bool false) rfl (congrArg Value.bool (by rfl)) ?_
      refine .quiet (.p rfl) rfl (fun _ => .pickT rfl rfl) ?_
      refine .quiet (.p rfl) rfl (fun _ => .mv rfl) ?_
      refine .quiet (.g rfl rfl) rfl (fun _ => .mv rfl) ?_
      refine .quiet (.g rfl rfl) rfl (fun _ => .neq rfl rfl) ?_
      refine OD.slot 46 (v' := .bool false) rfl (congrArg Value.bool (by rfl)) ?_
      refine .quiet (.p rfl) rfl (fun _ => .pickF rfl rfl) ?_
      refine .quiet (.p rfl) rfl (fun _ => .mv rfl) ?_
      refine .quiet (.g rfl rfl) rfl (fun _ => .mv rfl) ?_
      refine .quiet (.g rfl rfl) rfl (fun _ => .len rfl Go.Proofs.Tryd.underlying31 rfl) ?_
      refine .quiet (.g rfl rfl) rfl (fun _ => .mv rfl) ?_
      refine .quiet (.g rfl rfl) rfl (fun _ => .mv rfl) ?_
      refine OD.idx' (.g rfl rfl) Go.Proofs.Tryd.underlying48 FactDnillaw.size25 rfl rfl (show _ = (((0) : Nat) : Int) by omega) (by first | assumption | exact Arr.mono hg (by assumption) | exact Arr.left (by assumption) | exact Arr.left (Arr.mono hg (by assumption))) (by decide) (by first | omega | (simp; done) | (simp; omega) | decide) (fun p53 cs53 hp53 hr53 => ?_)
      obtain ⟨rfl, hz53⟩ := hr53
      refine .quiet (.g rfl rfl) rfl (fun _ => .loadAt FactDnillaw.flat25 rfl hp53 rfl) ?_
      refine .quiet (.g rfl rfl) rfl (fun _ => .mv rfl) ?_
      refine .quiet (.g rfl rfl) rfl (fun _ => .mv rfl) ?_
      refine OD.idx' (.g rfl rfl) Go.Proofs.Tryd.underlying48 FactDnillaw.size25 rfl rfl (show _ = (((0) : Nat) : Int) by omega) (by first | assumption | exact Arr.mono hg (by assumption) | exact Arr.left (by assumption) | exact Arr.left (Arr.mono hg (by assumption))) (by decide) (by first | omega | (simp; done) | (simp; omega) | decide) (fun p60 cs60 hp60 hr60 => ?_)
      obtain ⟨rfl, hz60⟩ := hr60
      refine .quiet (.g rfl rfl) rfl (fun _ => .loadAt FactDnillaw.flat25 rfl hp60 rfl) ?_
      refine OD.call0 (.g rfl rfl) (by kernel_rfl) rfl FactDnillaw.ok18 rfl rfl ((list_n (.inl rfl))) ?_
      rintro v55 _ ⟨rfl, rfl⟩
      try simp only [List.cons_append, List.nil_append, List.append_nil]
      refine .quiet (.g rfl rfl) rfl (fun _ => .len rfl Go.Proofs.Tryd.underlying50 rfl) ?_
      refine .quiet (.g rfl rfl) rfl (fun _ => .add rfl rfl (IntWalk.i64_in _ (by omega))) ?_
      refine OD.call0 (.g rfl rfl) (by kernel_rfl) rfl FactDnillaw.ok16 rfl rfl ((used_n (.inl rfl))) ?_
      rintro v62 _ ⟨rfl, rfl⟩
      try simp only [List.cons_append, List.nil_append, List.append_nil]
      refine .quiet (.g rfl rfl) rfl (fun _ => .add rfl rfl (IntWalk.i64_in _ (by omega))) ?_
      refine .quiet (.g rfl rfl) rfl (fun _ => .neq rfl rfl) ?_
      refine OD.slot 64 (v' := .bool false) rfl (congrArg Value.bool (by rfl)) ?_
      refine .quiet (.p rfl) rfl (fun _ => .pickF rfl rfl) ?_
      refine .quiet (.p rfl) rfl (fun _ => .mv rfl) ?_
      refine .quiet (.g rfl rfl) rfl (fun _ => .mv rfl) ?_
      refine .quiet (.g rfl rfl) rfl (fun _ => .mv rfl) ?_
      refine OD.idx' (.g rfl rfl) Go.Proofs.Tryd.underlying48 FactDnillaw.size25 rfl rfl (show _ = (((0) : Nat) : Int) by omega) (by first | assumption | exact Arr.mono hg (by assumption) | exact Arr.left (by assumption) | exact Arr.left (Arr.mono hg (by assumption))) (by decide) (by first | omega | (simp; done) | (simp; omega) | decide) (fun p69 cs69 hp69 hr69 => ?_)
      obtain ⟨rfl, hz69⟩ := hr69
      refine .quiet (.g rfl rfl) rfl (fun _ => .loadAt FactDnillaw.flat25 rfl hp69 rfl) ?_
      refine OD.call0 (.g rfl rfl) (by kernel_rfl) rfl FactDnillaw.ok19 rfl rfl ((copy_n (.inl rfl))) ?_
      rintro v71 _ ⟨rfl, rfl⟩
      try simp only [List.cons_append, List.nil_append, List.append_nil]
      refine .quiet (.g rfl rfl) rfl (fun _ => .neqP Go.Proofs.Tryd.underlying25 rfl rfl) ?_
      refine OD.slot 72 (v' := .bool false) rfl (congrArg Value.bool (by rfl)) ?_
      refine .quiet (.p rfl) rfl (fun _ => .pickF rfl rfl) ?_
      refine .nil ?_
      refine S.condF rfl ?_
      refine S.skip (S.inBlock (S.region rfl ?_))
      refine O.op (.p rfl) (.mv rfl) ?_
      refine O.op (.p rfl) (.add rfl rfl (IntWalk.i64_in _ (by omega))) ?_
      refine O.op (.p rfl) (.as rfl) ?_
      refine O.nil ?_
      refine S.reloop ?_
      refine S.seq (S.seq (S.region rfl ?_))
      refine O.op (.p rfl) (.mv rfl) ?_
      refine O.op (.p rfl) (.lss rfl rfl) ?_
      refine O.nil ?_
      refine S.condT rfl ?_
      refine S.skip (S.seq (S.block (S.seq (S.regionD (L := [0, 1, 2, 3, 4, 5, 6]) FactDnillaw.mixed (by kernel_rfl) ?_))))
      refine .quiet (.p rfl) rfl (fun _ => .mv rfl) ?_
      refine .quiet (.p rfl) rfl (fun _ => .mv rfl) ?_
      refine OD.idx' (.p rfl) Go.Proofs.Tryd.underlying48 FactDnillaw.size25 rfl rfl (show _ = (((1) : Nat) : Int) by omega) (by first | assumption | exact Arr.mono hg (by assumption) | exact Arr.left (by assumption) | exact Arr.left (Arr.mono hg (by assumption))) (by decide) (by first | omega | (simp; done) | (simp; omega) | decide) (fun p22 cs22 hp22 hr22 => ?_)
      obtain ⟨rfl, hz22⟩ := hr22
      refine .quiet (.p rfl) rfl (fun _ => .loadAt FactDnillaw.flat25 rfl hp22 rfl) ?_
      refine .quiet (.p rfl) rfl (fun _ => .loadAgg Go.Proofs.Tryd.isAgg33 (by kernel_rfl) rfl hxo) ?_
      refine OD.call0 (.p rfl) (by kernel_rfl) rfl FactDnillaw.ok17 rfl rfl ((does_n (x := x) (.inr ⟨b14, rfl, hz⟩) ha)) ?_
      rintro v25 _ ⟨rfl, rfl⟩
      try simp only [List.cons_append, List.nil_append, List.append_nil]
      rw [if_pos h6]
      refine .quiet (.p rfl) rfl (fun _ => .as rfl) ?_
      refine .nil ?_
      refine S.seq (S.regionD (L := [0, 1, 2, 3, 4, 5, 6, 7, 8, 9, 10, 11]) FactDnillaw.mixed (by kernel_rfl) ?_)
      refine .quiet (.p rfl) rfl (fun _ => .mv rfl) ?_
      refine .quiet (.p rfl) rfl (fun _ => .mv rfl) ?_
      refine OD.idx' (.p rfl) Go.Proofs.Tryd.underlying48 FactDnillaw.size25 rfl rfl (show _ = (((1) : Nat) : Int) by omega) (by first | assumption | exact Arr.mono hg (by assumption) | exact Arr.left (by assumption) | exact Arr.left (Arr.mono hg (by assumption))) (by decide) (by first | omega | (simp; done) | (simp; omega) | decide) (fun p29 cs29 hp29 hr29 => ?_)
      obtain ⟨rfl, hz29⟩ := hr29
      refine .quiet (.p rfl) rfl (fun _ => .loadAt FactDnillaw.flat25 rfl hp29 rfl) ?_
      refine .quiet (.p rfl) rfl (fun _ => .fieldAddr FactDnillaw.fld33x2 rfl) ?_
      refine .quiet (.p rfl) rfl (fun _ => .loadAt FactDnillaw.flat9 rfl (hxo.drop 2) rfl) ?_
      refine OD.call0 (.p rfl) (by kernel_rfl) rfl FactDnillaw.ok15 rfl rfl ((read_n (.inr ⟨b14, rfl, hz⟩))) ?_
      rintro v33 _ ⟨rfl, rfl⟩
      try simp only [List.cons_append, List.nil_append, List.append_nil]
      refine .quiet (.p rfl) rfl (fun _ => .mv rfl) ?_
      refine .quiet (.p rfl) rfl (fun _ => .extract rfl rfl) ?_
      refine .quiet (.p rfl) rfl (fun _ => .extract rfl rfl) ?_
      refine .quiet (.p rfl) rfl (fun _ => .as rfl) ?_
      refine .quiet (.p rfl) rfl (fun _ => .as rfl) ?_
      refine .nil ?_
      refine S.seq (S.regionD (L := [0, 1, 2, 3, 4, 5, 6, 7, 8, 9, 10, 11, 12, 13, 14, 15, 16, 17, 18, 22, 23, 24, 25, 19, 20, 21, 26, 27, 28, 29, 30, 31, 32, 33, 34, 35, 36, 37]) FactDnillaw.mixed (by kernel_rfl) ?_)
      refine .quiet (.p rfl) rfl (fun _ => .mv rfl) ?_
      refine .quiet (.p rfl) rfl (fun _ => .neq rfl rfl) ?_
      refine OD.slot 37 (v' := .bool true) rfl (congrArg Value.bool (by rfl)) ?_
      refine .quiet (.p rfl) rfl (fun _ => .mv rfl) ?_
      refine .quiet (.g rfl rfl) rfl (fun _ => .fieldAddr FactDnillaw.fld33x0 rfl) ?_
      refine .quiet (.g rfl rfl) rfl (fun _ => .loadAt FactDnillaw.flat3 rfl hxo rfl) ?_
      refine OD.call0 (.g rfl rfl) (by kernel_rfl) rfl FactDnillaw.ok10 rfl rfl (Pick_c _ _ (by first | assumption | (constructor <;> omega))) ?_
      rintro v41 _ ⟨rfl, rfl⟩
      try simp only [List.cons_append, List.nil_append, List.append_nil]
      rw [h6]
      refine .quiet (.g rfl rfl) rfl (fun _ => .neq rfl rfl) ?_
      refine OD.slot 42 (v' := .bool false) rfl (congrArg Value.bool (by rfl)) ?_
      refine .quiet (.p rfl) rfl (fun _ => .pickT rfl rfl) ?_
      refine .quiet (.p rfl) rfl (fun _ => .mv rfl) ?_
      refine .quiet (.g rfl rfl) rfl (fun _ => .mv rfl) ?_
      refine .quiet (.g rfl rfl) rfl (fun _ => .neq rfl rfl) ?_
      refine OD.slot 46 (v' := .bool false) rfl (congrArg Value.bool (by rfl)) ?_
      refine .quiet (.p rfl) rfl (fun _ => .pickF rfl rfl) ?_
      refine .quiet (.p rfl) rfl (fun _ => .mv rfl) ?_
      refine .quiet (.g rfl rfl) rfl (fun _ => .mv rfl) ?_
      refine .quiet (.g rfl rfl) rfl (fun _ => .len rfl Go.Proofs.Tryd.underlying31 rfl) ?_
      refine .quiet (.g rfl rfl) rfl (fun _ => .mv rfl) ?_
      refine .quiet (.g rfl rfl) rfl (fun _ => .mv rfl) ?_
      refine OD.idx' (.g rfl rfl) Go.Proofs.Tryd.underlying48 FactDnillaw.size25 rfl rfl (show _ = (((1) : Nat) : Int) by omega) (by first | assumption | exact Arr.mono hg (by assumption) | exact Arr.left (by assumption) | exact Arr.left (Arr.mono hg (by assumption))) (by decide) (by first | omega | (simp; done) | (simp; omega) | decide) (fun p53 cs53 hp53 hr53 => ?_)
      obtain ⟨rfl, hz53⟩ := hr53
      refine .quiet (.g rfl rfl) rfl (fun _ => .loadAt FactDnillaw.flat25 rfl hp53 rfl) ?_
      refine .quiet (.g rfl rfl) rfl (fun _ => .mv rfl) ?_
      refine .quiet (.g rfl rfl) rfl (fun _ => .mv rfl) ?_
      refine OD.idx' (.g rfl rfl) Go.Proofs.Tryd.underlying48 FactDnillaw.size25 rfl rfl (show _ = (((1) : Nat) : Int) by omega) (by first | assumption | exact Arr.mono hg (by assumption) | exact Arr.left (by assumption) | exact Arr.left (Arr.mono hg (by assumption))) (by decide) (by first | omega | (simp; done) | (simp; omega) | decide) (fun p60 cs60 hp60 hr60 => ?_)
      obtain ⟨rfl, hz60⟩ := hr60
      refine .quiet (.g rfl rfl) rfl (fun _ => .loadAt FactDnillaw.flat25 rfl hp60 rfl) ?_
      refine OD.call0 (.g rfl rfl) (by kernel_rfl) rfl FactDnillaw.ok18 rfl rfl ((list_n (.inr ⟨b14, rfl, hz⟩))) ?_
      rintro v55 _ ⟨rfl, rfl⟩
      try simp only [List.cons_append, List.nil_append, List.append_nil]
      refine .quiet (.g rfl rfl) rfl (fun _ => .len rfl Go.Proofs.Tryd.underlying50 rfl) ?_
      refine .quiet (.g rfl rfl) rfl (fun _ => .add rfl rfl (IntWalk.i64_in _ (by omega))) ?_
      refine OD.call0 (.g rfl rfl) (by kernel_rfl) rfl FactDnillaw.ok16 rfl rfl ((used_n (.inr ⟨b14, rfl, hz⟩))) ?_
      rintro v62 _ ⟨rfl, rfl⟩
      try simp only [List.cons_append, List.nil_append, List.append_nil]
      refine .quiet (.g rfl rfl) rfl (fun _ => .add rfl rfl (IntWalk.i64_in _ (by omega))) ?_
      refine .quiet (.g rfl rfl) rfl (fun _ => .neq rfl rfl) ?_
      refine OD.slot 64 (v' := .bool false) rfl (congrArg Value.bool (by rfl)) ?_
      refine .quiet (.p rfl) rfl (fun _ => .pickF rfl rfl) ?_
      refine .quiet (.p rfl) rfl (fun _ => .mv rfl) ?_
      refine .quiet (.g rfl rfl) rfl (fun _ => .mv rfl) ?_
      refine .quiet (.g rfl rfl) rfl (fun _ => .mv rfl) ?_
      refine OD.idx' (.g rfl rfl) Go.Proofs.Tryd.underlying48 FactDnillaw.size25 rfl rfl (show _ = (((1) : Nat) : Int) by omega) (by first | assumption | exact Arr.mono hg (by assumption) | exact Arr.left (by assumption) | exact Arr.left (Arr.mono hg (by assumption))) (by decide) (by first | omega | (simp; done) | (simp; omega) | decide) (fun p69 cs69 hp69 hr69 => ?_)
      obtain ⟨rfl, hz69⟩ := hr69
      refine .quiet (.g rfl rfl) rfl (fun _ => .loadAt FactDnillaw.flat25 rfl hp69 rfl) ?_
      refine OD.call0 (.g rfl rfl) (by kernel_rfl) rfl FactDnillaw.ok19 rfl rfl ((copy_n (.inr ⟨b14, rfl, hz⟩))) ?_
      rintro v71 _ ⟨rfl, rfl⟩
      try simp only [List.cons_append, List.nil_append, List.append_nil]
      refine .quiet (.g rfl rfl) rfl (fun _ => .neqP Go.Proofs.Tryd.underlying25 rfl rfl) ?_
      refine OD.slot 72 (v' := .bool false) rfl (congrArg Value.bool (by rfl)) ?_
      refine .quiet (.p rfl) rfl (fun _ => .pickF rfl rfl) ?_
      refine .nil ?_
      refine S.condF rfl ?_
      refine S.skip (S.inBlock (S.region rfl ?_))
      refine O.op (.p rfl) (.mv rfl) ?_
      refine O.op (.p rfl) (.add rfl rfl (IntWalk.i64_in _ (by omega))) ?_
      refine O.op (.p rfl) (.as rfl) ?_
      refine O.nil ?_
      refine S.reloop ?_
      refine S.seq (S.seq (S.region rfl ?_))
      refine O.op (.p rfl) (.mv rfl) ?_
      refine O.op (.p rfl) (.lss rfl rfl) ?_
      refine O.nil ?_
      refine S.condF rfl ?_
      refine S.exit rfl ?_
      refine S.seq (S.region rfl ?_)
      refine O.call0 (.p rfl) rfl FactDnillaw.ok7 rfl rfl (awake_c) ?_
      rintro v74 _ ⟨rfl, rfl⟩
      try simp only [List.cons_append, List.nil_append, List.append_nil]
      refine O.op (.p rfl) (.as rfl) ?_
      refine O.nil ?_
      refine S.ret Go.Proofs.Tryd.results4 rfl fun w hw => Holds.end_ hR hw ?_
      exact ⟨_, ⟨rfl, rfl⟩, by repeat (first | exact Picks.all | exact Picks.nil | (apply Picks.cons; focus (repeat (first | exact Sel.here | apply Sel.there))) | apply Picks.skip)⟩
    case neg =>
      refine S.unroll ?_
      refine S.seq (S.seq (S.region rfl ?_))
      refine O.op (.p rfl) (.mv rfl) ?_
      refine O.op (.p rfl) (.lss rfl rfl) ?_
      refine O.nil ?_
      refine S.condT rfl ?_
      refine S.skip (S.seq (S.block (S.seq (S.regionD (L := [0, 1, 2, 3, 4, 5, 6]) FactDnillaw.mixed (by kernel_rfl) ?_))))
      refine .quiet (.p rfl) rfl (fun _ => .mv rfl) ?_
      refine .quiet (.p rfl) rfl (fun _ => .mv rfl) ?_
      refine OD.idx' (.p rfl) Go.Proofs.Tryd.underlying48 FactDnillaw.size25 rfl rfl (show _ = (((0) : Nat) : Int) by omega) (by first | assumption | exact Arr.mono hg (by assumption) | exact Arr.left (by assumption) | exact Arr.left (Arr.mono hg (by assumption))) (by decide) (by first | omega | (simp; done) | (simp; omega) | decide) (fun p22 cs22 hp22 hr22 => ?_)
      obtain ⟨rfl, hz22⟩ := hr22
      refine .quiet (.p rfl) rfl (fun _ => .loadAt FactDnillaw.flat25 rfl hp22 rfl) ?_
      refine .quiet (.p rfl) rfl (fun _ => .loadAgg Go.Proofs.Tryd.isAgg33 (by kernel_rfl) rfl hxo) ?_
      refine OD.call0 (.p rfl) (by kernel_rfl) rfl FactDnillaw.ok17 rfl rfl ((does_n (x := x) (.inl rfl) ha)) ?_
      rintro v25 _ ⟨rfl, rfl⟩
      try simp only [List.cons_append, List.nil_append, List.append_nil]
      rw [if_neg h6]
      refine .quiet (.p rfl) rfl (fun _ => .as rfl) ?_
      refine .nil ?_
      refine S.seq (S.regionD (L := [0, 1, 2, 3, 4, 5, 6, 7, 8, 9, 10, 11]) FactDnillaw.mixed (by kernel_rfl) ?_)
      refine .quiet (.p rfl) rfl (fun _ => .mv rfl) ?_
      refine .quiet (.p rfl) rfl (fun _ => .mv rfl) ?_
      refine OD.idx' (.p rfl) Go.Proofs.Tryd.underlying48 FactDnillaw.size25 rfl rfl (show _ = (((0) : Nat) : Int) by omega) (by first | assumption | exact Arr.mono hg (by assumption) | exact Arr.left (by assumption) | exact Arr.left (Arr.mono hg (by assumption))) (by decide) (by first | omega | (simp; done) | (simp; omega) | decide) (fun p29 cs29 hp29 hr29 => ?_)
      obtain ⟨rfl, hz29⟩ := hr29
      refine .quiet (.p rfl) rfl (fun _ => .loadAt FactDnillaw.flat25 rfl hp29 rfl) ?_
      refine .quiet (.p rfl) rfl (fun _ => .fieldAddr FactDnillaw.fld33x2 rfl) ?_
      refine .quiet (.p rfl) rfl (fun _ => .loadAt FactDnillaw.flat9 rfl (hxo.drop 2) rfl) ?_
      refine OD.call0 (.p rfl) (by kernel_rfl) rfl FactDnillaw.ok15 rfl rfl ((read_n (.inl rfl))) ?_
      rintro v33 _ ⟨rfl, rfl⟩
      try simp only [List.cons_append, List.nil_append, List.append_nil]
      refine .quiet (.p rfl) rfl (fun _ => .mv rfl) ?_
      refine .quiet (.p rfl) rfl (fun _ => .extract rfl rfl) ?_
      refine .quiet (.p rfl) rfl (fun _ => .extract rfl rfl) ?_
      refine .quiet (.p rfl) rfl (fun _ => .as rfl) ?_
      refine .quiet (.p rfl) rfl (fun _ => .as rfl) ?_
      refine .nil ?_
      refine S.seq (S.regionD (L := [0, 1, 2, 3, 4, 5, 6, 7, 8, 9, 10, 11, 12, 13, 14, 15, 16, 17, 18, 22, 23, 24, 25, 19, 20, 21, 26, 27, 28, 29, 30, 31, 32, 33, 34, 35, 36, 37]) FactDnillaw.mixed (by kernel_rfl) ?_)
      refine .quiet (.p rfl) rfl (fun _ => .mv rfl) ?_
      refine .quiet (.p rfl) rfl (fun _ => .neq rfl rfl) ?_
      refine OD.slot 37 (v' := .bool false) rfl (congrArg Value.bool (by rfl)) ?_
      refine .quiet (.p rfl) rfl (fun _ => .mv rfl) ?_
      refine .no rfl rfl rfl rfl ?_
      refine .no rfl rfl rfl rfl ?_
      refine .no rfl rfl rfl rfl ?_
      refine .no rfl rfl rfl rfl ?_
      refine .quiet (.p rfl) rfl (fun _ => .pickF rfl rfl) ?_
      refine .quiet (.p rfl) rfl (fun _ => .mv rfl) ?_
      refine .quiet (.g rfl rfl) rfl (fun _ => .mv rfl) ?_
      refine .quiet (.g rfl rfl) rfl (fun _ => .neq rfl rfl) ?_
      refine OD.slot 46 (v' := .bool false) rfl (congrArg Value.bool (by rfl)) ?_
      refine .quiet (.p rfl) rfl (fun _ => .pickF rfl rfl) ?_
      refine .quiet (.p rfl) rfl (fun _ => .mv rfl) ?_
      refine .quiet (.g rfl rfl) rfl (fun _ => .mv rfl) ?_
      refine .quiet (.g rfl rfl) rfl (fun _ => .len rfl Go.Proofs.Tryd.underlying31 rfl) ?_
      refine .quiet (.g rfl rfl) rfl (fun _ => .mv rfl) ?_
      refine .quiet (.g rfl rfl) rfl (fun _ => .mv rfl) ?_
      refine OD.idx' (.g rfl rfl) Go.Proofs.Tryd.underlying48 FactDnillaw.size25 rfl rfl (show _ = (((0) : Nat) : Int) by omega) (by first | assumption | exact Arr.mono hg (by assumption) | exact Arr.left (by assumption) | exact Arr.left (Arr.mono hg (by assumption))) (by decide) (by first | omega | (simp; done) | (simp; omega) | decide) (fun p53 cs53 hp53 hr53 => ?_)
      obtain ⟨rfl, hz53⟩ := hr53
      refine .quiet (.g rfl rfl) rfl (fun _ => .loadAt FactDnillaw.flat25 rfl hp53 rfl) ?_
      refine .quiet (.g rfl rfl) rfl (fun _ => .mv rfl) ?_
      refine .quiet (.g rfl rfl) rfl (fun _ => .mv rfl) ?_
      refine OD.idx' (.g rfl rfl) Go.Proofs.Tryd.underlying48 FactDnillaw.size25 rfl rfl (show _ = (((0) : Nat) : Int) by omega) (by first | assumption | exact Arr.mono hg (by assumption) | exact Arr.left (by assumption) | exact Arr.left (Arr.mono hg (by assumption))) (by decide) (by first | omega | (simp; done) | (simp; omega) | decide) (fun p60 cs60 hp60 hr60 => ?_)
      obtain ⟨rfl, hz60⟩ := hr60
      refine .quiet (.g rfl rfl) rfl (fun _ => .loadAt FactDnillaw.flat25 rfl hp60 rfl) ?_
      refine OD.call0 (.g rfl rfl) (by kernel_rfl) rfl FactDnillaw.ok18 rfl rfl ((list_n (.inl rfl))) ?_
      rintro v55 _ ⟨rfl, rfl⟩
      try simp only [List.cons_append, List.nil_append, List.append_nil]
      refine .quiet (.g rfl rfl) rfl (fun _ => .len rfl Go.Proofs.Tryd.underlying50 rfl) ?_
      refine .quiet (.g rfl rfl) rfl (fun _ => .add rfl rfl (IntWalk.i64_in _ (by omega))) ?_
      refine OD.call0 (.g rfl rfl) (by kernel_rfl) rfl FactDnillaw.ok16 rfl rfl ((used_n (.inl rfl))) ?_
      rintro v62 _ ⟨rfl, rfl⟩
      try simp only [List.cons_append, List.nil_append, List.append_nil]
      refine .quiet (.g rfl rfl) rfl (fun _ => .add rfl rfl (IntWalk.i64_in _ (by omega))) ?_
      refine .quiet (.g rfl rfl) rfl (fun _ => .neq rfl rfl) ?_
      refine OD.slot 64 (v' := .bool false) rfl (congrArg Value.bool (by rfl)) ?_
      refine .quiet (.p rfl) rfl (fun _ => .pickF rfl rfl) ?_
      refine .quiet (.p rfl) rfl (fun _ => .mv rfl) ?_
      refine .quiet (.g rfl rfl) rfl (fun _ => .mv rfl) ?_
      refine .quiet (.g rfl rfl) rfl (fun _ => .mv rfl) ?_
      refine OD.idx' (.g rfl rfl) Go.Proofs.Tryd.underlying48 FactDnillaw.size25 rfl rfl (show _ = (((0) : Nat) : Int) by omega) (by first | assumption | exact Arr.mono hg (by assumption) | exact Arr.left (by assumption) | exact Arr.left (Arr.mono hg (by assumption))) (by decide) (by first | omega | (simp; done) | (simp; omega) | decide) (fun p69 cs69 hp69 hr69 => ?_)
      obtain ⟨rfl, hz69⟩ := hr69
      refine .quiet (.g rfl rfl) rfl (fun _ => .loadAt FactDnillaw.flat25 rfl hp69 rfl) ?_
      refine OD.call0 (.g rfl rfl) (by kernel_rfl) rfl FactDnillaw.ok19 rfl rfl ((copy_n (.inl rfl))) ?_
      rintro v71 _ ⟨rfl, rfl⟩
      try simp only [List.cons_append, List.nil_append, List.append_nil]
      refine .quiet (.g rfl rfl) rfl (fun _ => .neqP Go.Proofs.Tryd.underlying25 rfl rfl) ?_
      refine OD.slot 72 (v' := .bool false) rfl (congrArg Value.bool (by rfl)) ?_
      refine .quiet (.p rfl) rfl (fun _ => .pickF rfl rfl) ?_
      refine .nil ?_
      refine S.condF rfl ?_
      refine S.skip (S.inBlock (S.region rfl ?_))
      refine O.op (.p rfl) (.mv rfl) ?_
      refine O.op (.p rfl) (.add rfl rfl (IntWalk.i64_in _ (by omega))) ?_
      refine O.op (.p rfl) (.as rfl) ?_
      refine O.nil ?_
      refine S.reloop ?_
      refine S.seq (S.seq (S.region rfl ?_))
      refine O.op (.p rfl) (.mv rfl) ?_
      refine O.op (.p rfl) (.lss rfl rfl) ?_
      refine O.nil ?_
      refine S.condT rfl ?_
      refine S.skip (S.seq (S.block (S.seq (S.regionD (L := [0, 1, 2, 3, 4, 5, 6]) FactDnillaw.mixed (by kernel_rfl) ?_))))
      refine .quiet (.p rfl) rfl (fun _ => .mv rfl) ?_
      refine .quiet (.p rfl) rfl (fun _ => .mv rfl) ?_
      refine OD.idx' (.p rfl) Go.Proofs.Tryd.underlying48 FactDnillaw.size25 rfl rfl (show _ = (((1) : Nat) : Int) by omega) (by first | assumption | exact Arr.mono hg (by assumption) | exact Arr.left (by assumption) | exact Arr.left (Arr.mono hg (by assumption))) (by decide) (by first | omega | (simp; done) | (simp; omega) | decide) (fun p22 cs22 hp22 hr22 => ?_)
      obtain ⟨rfl, hz22⟩ := hr22
      refine .quiet (.p rfl) rfl (fun _ => .loadAt FactDnillaw.flat25 rfl hp22 rfl) ?_
      refine .quiet (.p rfl) rfl (fun _ => .loadAgg Go.Proofs.Tryd.isAgg33 (by kernel_rfl) rfl hxo) ?_
      refine OD.call0 (.p rfl) (by kernel_rfl) rfl FactDnillaw.ok17 rfl rfl ((does_n (x := x) (.inr ⟨b14, rfl, hz⟩) ha)) ?_
      rintro v25 _ ⟨rfl, rfl⟩
      try simp only [List.cons_append, List.nil_append, List.append_nil]
      rw [if_neg h6]
      refine .quiet (.p rfl) rfl (fun _ => .as rfl) ?_
      refine .nil ?_
      refine S.seq (S.regionD (L := [0, 1, 2, 3, 4, 5, 6, 7, 8, 9, 10, 11]) FactDnillaw.mixed (by kernel_rfl) ?_)
      refine .quiet (.p rfl) rfl (fun _ => .mv rfl) ?_
      refine .quiet (.p rfl) rfl (fun _ => .mv rfl) ?_
      refine OD.idx' (.p rfl) Go.Proofs.Tryd.underlying48 FactDnillaw.size25 rfl rfl (show _ = (((1) : Nat) : Int) by omega) (by first | assumption | exact Arr.mono hg (by assumption) | exact Arr.left (by assumption) | exact Arr.left (Arr.mono hg (by assumption))) (by decide) (by first | omega | (simp; done) | (simp; omega) | decide) (fun p29 cs29 hp29 hr29 => ?_)
      obtain ⟨rfl, hz29⟩ := hr29
      refine .quiet (.p rfl) rfl (fun _ => .loadAt FactDnillaw.flat25 rfl hp29 rfl) ?_
      refine .quiet (.p rfl) rfl (fun _ => .fieldAddr FactDnillaw.fld33x2 rfl) ?_
      refine .quiet (.p rfl) rfl (fun _ => .loadAt FactDnillaw.flat9 rfl (hxo.drop 2) rfl) ?_
      refine OD.call0 (.p rfl) (by kernel_rfl) rfl FactDnillaw.ok15 rfl rfl ((read_n (.inr ⟨b14, rfl, hz⟩))) ?_
      rintro v33 _ ⟨rfl, rfl⟩
      try simp only [List.cons_append, List.nil_append, List.append_nil]
      refine .quiet (.p rfl) rfl (fun _ => .mv rfl) ?_
      refine .quiet (.p rfl) rfl (fun _ => .extract rfl rfl) ?_
      refine .quiet (.p rfl) rfl (fun _ => .extract rfl rfl) ?_
      refine .quiet (.p rfl) rfl (fun _ => .as rfl) ?_
      refine .quiet (.p rfl) rfl (fun _ => .as rfl) ?_
      refine .nil ?_
      refine S.seq (S.regionD (L := [0, 1, 2, 3, 4, 5, 6, 7, 8, 9, 10, 11, 12, 13, 14, 15, 16, 17, 18, 22, 23, 24, 25, 19, 20, 21, 26, 27, 28, 29, 30, 31, 32, 33, 34, 35, 36, 37]) FactDnillaw.mixed (by kernel_rfl) ?_)
      refine .quiet (.p rfl) rfl (fun _ => .mv rfl) ?_
      refine .quiet (.p rfl) rfl (fun _ => .neq rfl rfl) ?_
      refine OD.slot 37 (v' := .bool false) rfl (congrArg Value.bool (by rfl)) ?_
      refine .quiet (.p rfl) rfl (fun _ => .mv rfl) ?_
      refine .no rfl rfl rfl rfl ?_
      refine .no rfl rfl rfl rfl ?_
      refine .no rfl rfl rfl rfl ?_
      refine .no rfl rfl rfl rfl ?_
      refine .quiet (.p rfl) rfl (fun _ => .pickF rfl rfl) ?_
      refine .quiet (.p rfl) rfl (fun _ => .mv rfl) ?_
      refine .quiet (.g rfl rfl) rfl (fun _ => .mv rfl) ?_
      refine .quiet (.g rfl rfl) rfl (fun _ => .neq rfl rfl) ?_
      refine OD.slot 46 (v' := .bool false) rfl (congrArg Value.bool (by rfl)) ?_
      refine .quiet (.p rfl) rfl (fun _ => .pickF rfl rfl) ?_
      refine .quiet (.p rfl) rfl (fun _ => .mv rfl) ?_
      refine .quiet (.g rfl rfl) rfl (fun _ => .mv rfl) ?_
      refine .quiet (.g rfl rfl) rfl (fun _ => .len rfl Go.Proofs.Tryd.underlying31 rfl) ?_
      refine .quiet (.g rfl rfl) rfl (fun _ => .mv rfl) ?_
      refine .quiet (.g rfl rfl) rfl (fun _ => .mv rfl) ?_
      refine OD.idx' (.g rfl rfl) Go.Proofs.Tryd.underlying48 FactDnillaw.size25 rfl rfl (show _ = (((1) : Nat) : Int) by omega) (by first | assumption | exact Arr.mono hg (by assumption) | exact Arr.left (by assumption) | exact Arr.left (Arr.mono hg (by assumption))) (by decide) (by first | omega | (simp; done) | (simp; omega) | decide) (fun p53 cs53 hp53 hr53 => ?_)
      obtain ⟨rfl, hz53⟩ := hr53
      refine .quiet (.g rfl rfl) rfl (fun _ => .loadAt FactDnillaw.flat25 rfl hp53 rfl) ?_
      refine .quiet (.g rfl rfl) rfl (fun _ => .mv rfl) ?_
      refine .quiet (.g rfl rfl) rfl (fun _ => .mv rfl) ?_
      refine OD.idx' (.g rfl rfl) Go.Proofs.Tryd.underlying48 FactDnillaw.size25 rfl rfl (show _ = (((1) : Nat) : Int) by omega) (by first | assumption | exact Arr.mono hg (by assumption) | exact Arr.left (by assumption) | exact Arr.left (Arr.mono hg (by assumption))) (by decide) (by first | omega | (simp; done) | (simp; omega) | decide) (fun p60 cs60 hp60 hr60 => ?_)
      obtain ⟨rfl, hz60⟩ := hr60
      refine .quiet (.g rfl rfl) rfl (fun _ => .loadAt FactDnillaw.flat25 rfl hp60 rfl) ?_
      refine OD.call0 (.g rfl rfl) (by kernel_rfl) rfl FactDnillaw.ok18 rfl rfl ((list_n (.inr ⟨b14, rfl, hz⟩))) ?_
      rintro v55 _ ⟨rfl, rfl⟩
      try simp only [List.cons_append, List.nil_append, List.append_nil]
      refine .quiet (.g rfl rfl) rfl (fun _ => .len rfl Go.Proofs.Tryd.underlying50 rfl) ?_
      refine .quiet (.g rfl rfl) rfl (fun _ => .add rfl rfl (IntWalk.i64_in _ (by omega))) ?_
      refine OD.call0 (.g rfl rfl) (by kernel_rfl) rfl FactDnillaw.ok16 rfl rfl ((used_n (.inr ⟨b14, rfl, hz⟩))) ?_
      rintro v62 _ ⟨rfl, rfl⟩
      try simp only [List.cons_append, List.nil_append, List.append_nil]
      refine .quiet (.g rfl rfl) rfl (fun _ => .add rfl rfl (IntWalk.i64_in _ (by omega))) ?_
      refine .quiet (.g rfl rfl) rfl (fun _ => .neq rfl rfl) ?_
      refine OD.slot 64 (v' := .bool false) rfl (congrArg Value.bool (by rfl)) ?_
      refine .quiet (.p rfl) rfl (fun _ => .pickF rfl rfl) ?_
      refine .quiet (.p rfl) rfl (fun _ => .mv rfl) ?_
      refine .quiet (.g rfl rfl) rfl (fun _ => .mv rfl) ?_
      refine .quiet (.g rfl rfl) rfl (fun _ => .mv rfl) ?_
      refine OD.idx' (.g rfl rfl) Go.Proofs.Tryd.underlying48 FactDnillaw.size25 rfl rfl (show _ = (((1) : Nat) : Int) by omega) (by first | assumption | exact Arr.mono hg (by assumption) | exact Arr.left (by assumption) | exact Arr.left (Arr.mono hg (by assumption))) (by decide) (by first | omega | (simp; done) | (simp; omega) | decide) (fun p69 cs69 hp69 hr69 => ?_)
      obtain ⟨rfl, hz69⟩ := hr69
      refine .quiet (.g rfl rfl) rfl (fun _ => .loadAt FactDnillaw.flat25 rfl hp69 rfl) ?_
      refine OD.call0 (.g rfl rfl) (by kernel_rfl) rfl FactDnillaw.ok19 rfl rfl ((copy_n (.inr ⟨b14, rfl, hz⟩))) ?_
      rintro v71 _ ⟨rfl, rfl⟩
      try simp only [List.cons_append, List.nil_append, List.append_nil]
      refine .quiet (.g rfl rfl) rfl (fun _ => .neqP Go.Proofs.Tryd.underlying25 rfl rfl) ?_
      refine OD.slot 72 (v' := .bool false) rfl (congrArg Value.bool (by rfl)) ?_
      refine .quiet (.p rfl) rfl (fun _ => .pickF rfl rfl) ?_
      refine .nil ?_
      refine S.condF rfl ?_
      refine S.skip (S.inBlock (S.region rfl ?_))
      refine O.op (.p rfl) (.mv rfl) ?_
      refine O.op (.p rfl) (.add rfl rfl (IntWalk.i64_in _ (by omega))) ?_
      refine O.op (.p rfl) (.as rfl) ?_
      refine O.nil ?_
      refine S.reloop ?_
      refine S.seq (S.seq (S.region rfl ?_))
      refine O.op (.p rfl) (.mv rfl) ?_
      refine O.op (.p rfl) (.lss rfl rfl) ?_
      refine O.nil ?_
      refine S.condF rfl ?_
      refine S.exit rfl ?_
      refine S.seq (S.region rfl ?_)
      refine O.call0 (.p rfl) rfl FactDnillaw.ok7 rfl rfl (awake_c) ?_
      rintro v74 _ ⟨rfl, rfl⟩
      try simp only [List.cons_append, List.nil_append, List.append_nil]
      refine O.op (.p rfl) (.as rfl) ?_
      refine O.nil ?_
      refine S.ret Go.Proofs.Tryd.results4 rfl fun w hw => Holds.end_ hR hw ?_
      exact ⟨_, ⟨rfl, rfl⟩, by repeat (first | exact Picks.all | exact Picks.nil | (apply Picks.cons; focus (repeat (first | exact Sel.here | apply Sel.there))) | apply Picks.skip)⟩
theorem arr_of_list {cs : Array Value} {l : List Value} (h : cs.toList = l) : cs = l.toArray := by subst h; simp
theorem diskNil_e {r : Fr} {cs : Array Value} {x : DeedT} (h : DeedR.rel r cs.toList x) (h1 : InI64 x.1) (h2 : InI64 x.2.1) (h3 : x.2.2.1.length ≤ 140737488351232) (h4 : x.2.2.2.1.length ≤ 140737488351232) :
    Con Go.Proofs.Tryd.prog 4 #[.agg cs] r [] (Ret fun v η => v = .bool true ∧ η = []) := by
  obtain ⟨a, c, e, ha, _, _⟩ := DeedR.open h
  obtain rfl := arr_of_list e
  exact diskNil_c ha h1 h2 (by omega) (by omega)

end Go.Proofs.YtkkcpckgnfcncaaDoor
