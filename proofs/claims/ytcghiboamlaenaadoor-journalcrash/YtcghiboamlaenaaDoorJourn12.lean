import Derived.Test.YtcghiboamlaenaaDoorDisk8
import Derived.Test.YtcghiboamlaenaaDoorSpLoop
open Go Go.Sp
set_option maxRecDepth 100000
attribute [local irreducible] obj Own OwnP
namespace Go.Proofs.YtcghiboamlaenaaDoor
theorem FactJourn12.elem25 : elemIs Go.Proofs.Tryd.prog 25 2 32 [.int .u8 0, .slice none 0 0] := elemIs.mk (by kernel_rfl) rfl
theorem FactJourn12.elem26 : elemIs Go.Proofs.Tryd.prog 26 1 8 [.pointer none] := elemIs.mk (by kernel_rfl) rfl
theorem FactJourn12.flat26 : Go.Sp.flat1 Go.Proofs.Tryd.prog 26 = true := by kernel_rfl
theorem FactJourn12.mixed : Go.Proofs.Tryd.prog.follows .mixedOrders = true := by kernel_rfl
theorem FactJourn12.ok10 : callable Go.Proofs.Tryd.prog 10 = true := by kernel_rfl
theorem FactJourn12.ok11 : callable Go.Proofs.Tryd.prog 11 = true := by kernel_rfl
theorem FactJourn12.ok7 : callable Go.Proofs.Tryd.prog 7 = true := by kernel_rfl
theorem FactJourn12.ok8 : callable Go.Proofs.Tryd.prog 8 = true := by kernel_rfl
theorem FactJourn12.ok9 : callable Go.Proofs.Tryd.prog 9 = true := by kernel_rfl
theorem FactJourn12.size26 : (Go.Proofs.Tryd.prog.info? 26).map (·.size) = some 1 := by kernel_rfl

theorem ok0 (room : Int) (h0 : 0 ≤ room) (h1 : room ≤ 1000000000000) : DOk ⟨[], 0, [], 0, room⟩ :=
  ⟨⟨by simp, by simp, by simp⟩, ⟨by simp, by simp, by simp⟩, fun k hk => hk, by simpa [DiskM.used, sumT] using h0, h1⟩
theorem newR_c {r : Fr} {room : Int} (h : 0 ≤ room) : Con Go.Proofs.Tryd.prog 9 #[.int .i64 room] r [] (Ret fun v η => ∃ d q1 q2, v = .pointer (some ⟨d, 0, none⟩) ∧ η = [obj d 69 (dC q1 q2 room), MapT q1 [] 0, MapT q2 [] 0]) :=
  Con.mono (new_c room) (Ret.imp fun _ _ h' => by rwa [if_neg (by omega)] at h')
theorem nil_c {r : Fr} {k : UInt8} {va : Value} {xs name : List UInt8} (ha : Arr Rp.u8 r va xs) (hn : name.length ≤ 9223372036854775807) :
    Con Go.Proofs.Tryd.prog 3 #[.agg #[byteV k, va], .string (str name)] r [] (Ret fun v η => v = .bool true ∧ η = []) := by
  refine Con.of (n := 86) [.agg #[byteV k, va], .string (str name)] rfl Go.Proofs.Tryd.func3 rfl rfl rfl fun g hg R hR => ?_
  have ha := ha.mono hg
  obtain ⟨a1, c1, rfl⟩ := ha.shape
  refine S.seq (S.region rfl ?_)
  refine O.opE (.p rfl) (.box (cs := [_, _]) rfl rfl) ?_
  rintro _ _ ⟨b2, rfl, rfl⟩
  refine O.op (.p rfl) (.as rfl) ?_
  refine O.nil ?_
  refine S.seq ?_
  refine S.frzO (by repeat (first | exact Sel.here | apply Sel.there)) fun g hs hm h2 => ?_
  replace hg := Fr.sub_trans hg hs
  replace hR := melted hR hm
  clear hs hm
  refine S.region rfl ?_
  refine O.op (.p rfl) (.build (cs := [_, _]) Go.Proofs.Tryd.underlying31 rfl rfl rfl rfl rfl) ?_
  refine O.opE (.p rfl) (.box (cs := [_, _]) rfl rfl) ?_
  rintro _ _ ⟨b16, rfl, rfl⟩
  refine O.opE (.p rfl) (.litP (T := Rp.val) (ys := [_, _]) Go.Proofs.Tryd.underlying32 FactJourn12.elem26 (by decide) rfl rfl ⟨⟨rfl, rfl⟩, ⟨rfl, rfl⟩, trivial⟩ (by decide)) ?_
  rintro _ _ ⟨a17, c17, rfl, rfl⟩
  refine O.op (.p rfl) (.as rfl) ?_
  refine O.nil ?_
  refine S.seq (S.seq ?_)
  refine S.frzA (by repeat (first | exact Sel.here | apply Sel.there)) fun g hs hm hl => ?_
  replace hg := Fr.sub_trans hg hs
  replace hR := melted hR hm
  try replace h2 := h2.mono hs
  clear hs hm
  refine S.frzO (by repeat (first | exact Sel.here | apply Sel.there)) fun g hs hm haj => ?_
  replace hg := Fr.sub_trans hg hs
  replace hR := melted hR hm
  try replace h2 := h2.mono hs
  try replace hl := hl.mono hs
  clear hs hm
  refine S.region rfl ?_
  refine O.op (.p rfl) (.as rfl) ?_
  refine O.nil ?_
  refine S.block ?_
  refine S.unroll ?_
  refine S.seq (S.seq (S.region rfl ?_))
  refine O.op (.p rfl) (.mv rfl) ?_
  refine O.op (.p rfl) (.lss rfl rfl) ?_
  refine O.nil ?_
  refine S.condT rfl ?_
  refine S.skip (S.seq (S.block (S.seq (S.regionD (L := [0, 1, 2, 3, 4, 5, 6, 7, 8, 9, 10, 11, 12, 13, 14, 15]) FactJourn12.mixed (by kernel_rfl) ?_))))
  refine .quiet (.p rfl) rfl (fun _ => .mv rfl) ?_
  refine .quiet (.p rfl) rfl (fun _ => .mv rfl) ?_
  refine OD.idx' (.p rfl) Go.Proofs.Tryd.underlying32 FactJourn12.size26 rfl rfl (show _ = (((0) : Nat) : Int) by omega) (by first | assumption | exact Arr.mono hg (by assumption) | exact Arr.left (by assumption) | exact Arr.left (Arr.mono hg (by assumption))) (by decide) (by first | omega | (simp; done) | (simp; omega) | decide) (fun p24 cs24 hp24 hr24 => ?_)
  obtain ⟨rfl, hz24⟩ := hr24
  refine .quiet (.p rfl) rfl (fun _ => .loadAt FactJourn12.flat26 rfl hp24 rfl) ?_
  refine .quiet (.p rfl) rfl (fun _ => .loadAgg Go.Proofs.Tryd.isAgg25 (by kernel_rfl) rfl h2) ?_
  refine OD.litP (T := (Rp.cells 2)) (ys := [_]) (.p rfl) (by kernel_rfl) Go.Proofs.Tryd.underlying35 FactJourn12.elem25 (by decide) rfl rfl ⟨⟨rfl, rfl, by first | (simp; done) | (intro v hv; simp [Value.cells] at hv; rcases hv with rfl | rfl <;> rfl)⟩, trivial⟩ (by decide) (fun a27 c27 => ?_)
  refine OD.call0 (.p rfl) (by kernel_rfl) rfl FactJourn12.ok7 rfl rfl (jappend0_c) ?_
  rintro v28 _ ⟨rfl, rfl⟩
  try simp only [List.cons_append, List.nil_append, List.append_nil]
  refine .quiet (.p rfl) rfl (fun _ => .neq rfl rfl) ?_
  refine .quiet (.p rfl) rfl (fun _ => .mv rfl) ?_
  refine .quiet (.g rfl rfl) rfl (fun _ => .mv rfl) ?_
  refine .quiet (.g rfl rfl) rfl (fun _ => .mv rfl) ?_
  refine OD.idx' (.g rfl rfl) Go.Proofs.Tryd.underlying32 FactJourn12.size26 rfl rfl (show _ = (((0) : Nat) : Int) by omega) (by first | assumption | exact Arr.mono hg (by assumption) | exact Arr.left (by assumption) | exact Arr.left (Arr.mono hg (by assumption))) (by decide) (by first | omega | (simp; done) | (simp; omega) | decide) (fun p33 cs33 hp33 hr33 => ?_)
  obtain ⟨rfl, hz33⟩ := hr33
  refine .quiet (.g rfl rfl) rfl (fun _ => .loadAt FactJourn12.flat26 rfl hp33 rfl) ?_
  refine OD.call0 (.g rfl rfl) (by kernel_rfl) rfl FactJourn12.ok7 rfl rfl (jappend0_c) ?_
  rintro v35 _ ⟨rfl, rfl⟩
  try simp only [List.cons_append, List.nil_append, List.append_nil]
  refine .quiet (.g rfl rfl) rfl (fun _ => .neq rfl rfl) ?_
  refine .quiet (.p rfl) rfl (fun _ => .pickF rfl rfl) ?_
  refine .nil ?_
  refine S.condF rfl ?_
  refine S.skip (S.inBlock (S.region rfl ?_))
  refine O.op (.p rfl) (.mv rfl) ?_
  refine O.op (.p rfl) (.add rfl rfl (IntWalk.i64_in _ (by omega))) ?_
  refine O.op (.p rfl) (.as rfl) ?_
  refine O.nil ?_
  refine S.reloop ?_
  refine S.seq (S.seq (S.region rfl ?_))
  refine O.op (.p rfl) (.mv rfl) ?_
  refine O.op (.p rfl) (.lss rfl rfl) ?_
  refine O.nil ?_
  refine S.condT rfl ?_
  refine S.skip (S.seq (S.block (S.seq (S.regionD (L := [0, 1, 2, 3, 4, 5, 6, 7, 8, 9, 10, 11, 12, 13, 14, 15]) FactJourn12.mixed (by kernel_rfl) ?_))))
  refine .quiet (.p rfl) rfl (fun _ => .mv rfl) ?_
  refine .quiet (.p rfl) rfl (fun _ => .mv rfl) ?_
  refine OD.idx' (.p rfl) Go.Proofs.Tryd.underlying32 FactJourn12.size26 rfl rfl (show _ = (((1) : Nat) : Int) by omega) (by first | assumption | exact Arr.mono hg (by assumption) | exact Arr.left (by assumption) | exact Arr.left (Arr.mono hg (by assumption))) (by decide) (by first | omega | (simp; done) | (simp; omega) | decide) (fun p24 cs24 hp24 hr24 => ?_)
  obtain ⟨rfl, hz24⟩ := hr24
  refine .quiet (.p rfl) rfl (fun _ => .loadAt FactJourn12.flat26 rfl hp24 rfl) ?_
  refine .quiet (.p rfl) rfl (fun _ => .loadAgg Go.Proofs.Tryd.isAgg25 (by kernel_rfl) rfl h2) ?_
  refine OD.litP (T := (Rp.cells 2)) (ys := [_]) (.p rfl) (by kernel_rfl) Go.Proofs.Tryd.underlying35 FactJourn12.elem25 (by decide) rfl rfl ⟨⟨rfl, rfl, by first | (simp; done) | (intro v hv; simp [Value.cells] at hv; rcases hv with rfl | rfl <;> rfl)⟩, trivial⟩ (by decide) (fun a27 c27 => ?_)
  refine OD.call0 (.p rfl) (by kernel_rfl) rfl FactJourn12.ok7 rfl rfl (jappend1_c haj) ?_
  rintro v28 _ ⟨rfl, rfl⟩
  try simp only [List.cons_append, List.nil_append, List.append_nil]
  refine .quiet (.p rfl) rfl (fun _ => .neq rfl rfl) ?_
  refine .quiet (.p rfl) rfl (fun _ => .mv rfl) ?_
  refine .quiet (.g rfl rfl) rfl (fun _ => .mv rfl) ?_
  refine .quiet (.g rfl rfl) rfl (fun _ => .mv rfl) ?_
  refine OD.idx' (.g rfl rfl) Go.Proofs.Tryd.underlying32 FactJourn12.size26 rfl rfl (show _ = (((1) : Nat) : Int) by omega) (by first | assumption | exact Arr.mono hg (by assumption) | exact Arr.left (by assumption) | exact Arr.left (Arr.mono hg (by assumption))) (by decide) (by first | omega | (simp; done) | (simp; omega) | decide) (fun p33 cs33 hp33 hr33 => ?_)
  obtain ⟨rfl, hz33⟩ := hr33
  refine .quiet (.g rfl rfl) rfl (fun _ => .loadAt FactJourn12.flat26 rfl hp33 rfl) ?_
  refine OD.call0 (.g rfl rfl) (by kernel_rfl) rfl FactJourn12.ok7 rfl rfl (jappend1_c haj) ?_
  rintro v35 _ ⟨rfl, rfl⟩
  try simp only [List.cons_append, List.nil_append, List.append_nil]
  refine .quiet (.g rfl rfl) rfl (fun _ => .neq rfl rfl) ?_
  refine .quiet (.p rfl) rfl (fun _ => .pickF rfl rfl) ?_
  refine .nil ?_
  refine S.condF rfl ?_
  refine S.skip (S.inBlock (S.region rfl ?_))
  refine O.op (.p rfl) (.mv rfl) ?_
  refine O.op (.p rfl) (.add rfl rfl (IntWalk.i64_in _ (by omega))) ?_
  refine O.op (.p rfl) (.as rfl) ?_
  refine O.nil ?_
  refine S.reloop ?_
  have ok1 := ok0 100 (by decide) (by decide)
  have hop : openS ⟨[], 0, [], 0, 100⟩ name = ([], 0, false) := scanM_nil
  have hz : dAppE ⟨[], 0, [], 0, 100⟩ name [] = if nameOk name then 0 else 2 := by
    unfold dAppE; split <;> simp [DiskM.used, sumT]
  cases hok : nameOk name with
  | true =>
    have he : dAppE ⟨[], 0, [], 0, 100⟩ name [] = 0 := by rw [hz, hok]; rfl
    refine S.seq (S.seq (S.region rfl ?_))
    refine O.op (.p rfl) (.mv rfl) ?_
    refine O.op (.p rfl) (.lss rfl rfl) ?_
    refine O.nil ?_
    refine S.condF rfl ?_
    refine S.exit rfl ?_
    refine S.seq (S.region rfl ?_)
    refine O.op (.p rfl) (.mv rfl) ?_
    refine O.call0 (.p rfl) rfl FactJourn12.ok8 rfl rfl (open_nil) ?_
    rintro v40 _ ⟨rfl, rfl⟩
    try simp only [List.cons_append, List.nil_append, List.append_nil]
    refine O.op (.p rfl) (.mv rfl) ?_
    refine O.op (.p rfl) (.extract rfl rfl) ?_
    refine O.op (.p rfl) (.extract rfl rfl) ?_
    refine O.op (.p rfl) (.extract rfl rfl) ?_
    refine O.op (.p rfl) (.as rfl) ?_
    refine O.op (.p rfl) (.as rfl) ?_
    refine O.op (.p rfl) (.as rfl) ?_
    refine O.nil ?_
    refine S.seq (S.region rfl ?_)
    refine O.call0 (.p rfl) rfl FactJourn12.ok9 rfl rfl (newR_c (room := 100) (by decide)) ?_
    rintro v44 _ ⟨d44, q144, q244, rfl, rfl⟩
    try simp only [List.cons_append, List.nil_append, List.append_nil]
    refine O.frzO (by repeat (first | exact Sel.here | apply Sel.there)) fun g hs hm hat1 => ?_
    replace hg := Fr.sub_trans hg hs
    replace hR := melted hR hm
    try replace h2 := h2.mono hs
    try replace hl := hl.mono hs
    try replace haj := haj.mono hs
    try replace hp24 := hp24.mono hs
    try replace hp33 := hp33.mono hs
    try replace hp24 := hp24.mono hs
    try replace hp33 := hp33.mono hs
    clear hs hm
    refine O.op (.p rfl) (.as rfl) ?_
    refine O.nil ?_
    refine S.seq (S.region rfl ?_)
    refine O.op (.p rfl) (.mv rfl) ?_
    refine O.op (.p rfl) (.mv rfl) ?_
    refine O.callSs (.p rfl) rfl FactJourn12.ok10 rfl rfl (by repeat (first | exact Sels.nil | (apply Sels.cons; focus (repeat (first | exact Sel.here | apply Sel.there))))) (append_g (m := ⟨[], 0, [], 0, 100⟩) (name := name) hat1 ok1 Arr.nil hn (by simp)) ?_
    rintro v47 _ ⟨rfl, rfl⟩
    try simp only [List.cons_append, List.nil_append, List.append_nil]
    rw [he]
    refine O.op (.p rfl) (.as rfl) ?_
    refine O.nil ?_
    refine S.seq (S.region rfl ?_)
    refine O.call0 (.p rfl) rfl FactJourn12.ok9 rfl rfl (newR_c (room := 100) (by decide)) ?_
    rintro v49 _ ⟨d49, q149, q249, rfl, rfl⟩
    try simp only [List.cons_append, List.nil_append, List.append_nil]
    refine O.frzO (by repeat (first | exact Sel.here | apply Sel.there)) fun g hs hm hat2 => ?_
    replace hg := Fr.sub_trans hg hs
    replace hR := melted hR hm
    try replace h2 := h2.mono hs
    try replace hl := hl.mono hs
    try replace haj := haj.mono hs
    try replace hp24 := hp24.mono hs
    try replace hp33 := hp33.mono hs
    try replace hp24 := hp24.mono hs
    try replace hp33 := hp33.mono hs
    try replace hat1 := hat1.mono hs
    clear hs hm
    refine O.op (.p rfl) (.mv rfl) ?_
    refine O.callSs (.p rfl) rfl FactJourn12.ok8 rfl rfl (by repeat (first | exact Sels.nil | (apply Sels.cons; focus (repeat (first | exact Sel.here | apply Sel.there))))) (open_ok (m := ⟨[], 0, [], 0, 100⟩) (name := name) hat2 ok1 hn he (by rw [hop])) ?_
    rintro v51 _ ⟨j51, a51, c51, rfl, rfl⟩
    try simp only [List.cons_append, List.nil_append, List.append_nil]
    rw [hop]
    refine O.op (.p rfl) (.mv rfl) ?_
    refine O.op (.p rfl) (.extract rfl rfl) ?_
    refine O.op (.p rfl) (.extract rfl rfl) ?_
    refine O.op (.p rfl) (.extract rfl rfl) ?_
    refine O.op (.p rfl) (.as rfl) ?_
    refine O.op (.p rfl) (.as rfl) ?_
    refine O.op (.p rfl) (.as rfl) ?_
    refine O.nil ?_
    refine S.seq (S.region rfl ?_)
    refine O.op (.p rfl) (.mv rfl) ?_
    refine O.op (.p rfl) (.eqlP Go.Proofs.Tryd.underlying26 rfl rfl) ?_
    refine O.slot 56 (v' := .bool true) rfl (congrArg Value.bool (by rfl)) ?_
    refine O.op (.p rfl) (.mv rfl) ?_
    refine O.op (.g rfl rfl) (.mv rfl) ?_
    refine O.op (.g rfl rfl) (.len rfl Go.Proofs.Tryd.underlying35 rfl) ?_
    refine O.op (.g rfl rfl) (.eql rfl rfl) ?_
    refine O.slot 60 (v' := .bool true) rfl (congrArg Value.bool (by rfl)) ?_
    refine O.op (.p rfl) (.pickT rfl rfl) ?_
    refine O.op (.p rfl) (.mv rfl) ?_
    refine O.op (.g rfl rfl) (.mv rfl) ?_
    refine O.op (.g rfl rfl) (.eql rfl rfl) ?_
    refine O.slot 64 (v' := .bool true) rfl (congrArg Value.bool (by rfl)) ?_
    refine O.op (.p rfl) (.pickT rfl rfl) ?_
    refine O.op (.p rfl) (.mv rfl) ?_
    refine O.op (.g rfl rfl) (.mv rfl) ?_
    refine O.op (.g rfl rfl) (.mv rfl) ?_
    refine O.op (.g rfl rfl) (.eql rfl rfl) ?_
    refine O.slot 69 (v' := .bool true) rfl (congrArg Value.bool (by rfl)) ?_
    refine O.op (.p rfl) (.pickT rfl rfl) ?_
    refine O.op (.p rfl) (.mv rfl) ?_
    refine O.op (.g rfl rfl) (.mv rfl) ?_
    refine O.op (.g rfl rfl) (.eqlP Go.Proofs.Tryd.underlying26 rfl rfl) ?_
    refine O.slot 73 (v' := .bool false) rfl (congrArg Value.bool (by rfl)) ?_
    refine O.op (.g rfl rfl) (.mv rfl) ?_
    refine O.op (.g rfl rfl) (.neq rfl rfl) ?_
    refine O.slot 75 (v' := .bool false) rfl (congrArg Value.bool (by rfl)) ?_
    refine O.op (.g rfl rfl) (.eqlB Go.Proofs.Tryd.underlying4 rfl rfl) ?_
    refine O.slot 76 (v' := .bool true) rfl (congrArg Value.bool (by rfl)) ?_
    refine O.op (.p rfl) (.pickT rfl rfl) ?_
    refine O.op (.p rfl) (.mv rfl) ?_
    refine O.op (.g rfl rfl) (.mv rfl) ?_
    refine O.op (.g rfl rfl) (.len rfl Go.Proofs.Tryd.underlying35 rfl) ?_
    refine O.op (.g rfl rfl) (.eql rfl rfl) ?_
    refine O.slot 81 (v' := .bool true) rfl (congrArg Value.bool (by rfl)) ?_
    refine O.op (.p rfl) (.pickT rfl rfl) ?_
    refine O.op (.p rfl) (.mv rfl) ?_
    refine O.call0 (.g rfl rfl) rfl FactJourn12.ok11 rfl rfl (awake_c) ?_
    rintro v84 _ ⟨rfl, rfl⟩
    try simp only [List.cons_append, List.nil_append, List.append_nil]
    refine O.op (.p rfl) (.pickT rfl rfl) ?_
    refine O.op (.p rfl) (.as rfl) ?_
    refine O.nil ?_
    refine S.ret Go.Proofs.Tryd.results3 rfl fun w hw => Holds.end_ hR hw ?_
    exact ⟨_, ⟨rfl, rfl⟩, by repeat (first | exact Picks.all | exact Picks.nil | (apply Picks.cons; focus (repeat (first | exact Sel.here | apply Sel.there))) | apply Picks.skip)⟩
  | false =>
    have he : dAppE ⟨[], 0, [], 0, 100⟩ name [] = 2 := by rw [hz, hok]; rfl
    refine S.seq (S.seq (S.region rfl ?_))
    refine O.op (.p rfl) (.mv rfl) ?_
    refine O.op (.p rfl) (.lss rfl rfl) ?_
    refine O.nil ?_
    refine S.condF rfl ?_
    refine S.exit rfl ?_
    refine S.seq (S.region rfl ?_)
    refine O.op (.p rfl) (.mv rfl) ?_
    refine O.call0 (.p rfl) rfl FactJourn12.ok8 rfl rfl (open_nil) ?_
    rintro v40 _ ⟨rfl, rfl⟩
    try simp only [List.cons_append, List.nil_append, List.append_nil]
    refine O.op (.p rfl) (.mv rfl) ?_
    refine O.op (.p rfl) (.extract rfl rfl) ?_
    refine O.op (.p rfl) (.extract rfl rfl) ?_
    refine O.op (.p rfl) (.extract rfl rfl) ?_
    refine O.op (.p rfl) (.as rfl) ?_
    refine O.op (.p rfl) (.as rfl) ?_
    refine O.op (.p rfl) (.as rfl) ?_
    refine O.nil ?_
    refine S.seq (S.region rfl ?_)
    refine O.call0 (.p rfl) rfl FactJourn12.ok9 rfl rfl (newR_c (room := 100) (by decide)) ?_
    rintro v44 _ ⟨d44, q144, q244, rfl, rfl⟩
    try simp only [List.cons_append, List.nil_append, List.append_nil]
    refine O.frzO (by repeat (first | exact Sel.here | apply Sel.there)) fun g hs hm hat1 => ?_
    replace hg := Fr.sub_trans hg hs
    replace hR := melted hR hm
    try replace h2 := h2.mono hs
    try replace hl := hl.mono hs
    try replace haj := haj.mono hs
    try replace hp24 := hp24.mono hs
    try replace hp33 := hp33.mono hs
    try replace hp24 := hp24.mono hs
    try replace hp33 := hp33.mono hs
    clear hs hm
    refine O.op (.p rfl) (.as rfl) ?_
    refine O.nil ?_
    refine S.seq (S.region rfl ?_)
    refine O.op (.p rfl) (.mv rfl) ?_
    refine O.op (.p rfl) (.mv rfl) ?_
    refine O.callSs (.p rfl) rfl FactJourn12.ok10 rfl rfl (by repeat (first | exact Sels.nil | (apply Sels.cons; focus (repeat (first | exact Sel.here | apply Sel.there))))) (append_g (m := ⟨[], 0, [], 0, 100⟩) (name := name) hat1 ok1 Arr.nil hn (by simp)) ?_
    rintro v47 _ ⟨rfl, rfl⟩
    try simp only [List.cons_append, List.nil_append, List.append_nil]
    rw [he]
    refine O.op (.p rfl) (.as rfl) ?_
    refine O.nil ?_
    refine S.seq (S.region rfl ?_)
    refine O.call0 (.p rfl) rfl FactJourn12.ok9 rfl rfl (newR_c (room := 100) (by decide)) ?_
    rintro v49 _ ⟨d49, q149, q249, rfl, rfl⟩
    try simp only [List.cons_append, List.nil_append, List.append_nil]
    refine O.frzO (by repeat (first | exact Sel.here | apply Sel.there)) fun g hs hm hat2 => ?_
    replace hg := Fr.sub_trans hg hs
    replace hR := melted hR hm
    try replace h2 := h2.mono hs
    try replace hl := hl.mono hs
    try replace haj := haj.mono hs
    try replace hp24 := hp24.mono hs
    try replace hp33 := hp33.mono hs
    try replace hp24 := hp24.mono hs
    try replace hp33 := hp33.mono hs
    try replace hat1 := hat1.mono hs
    clear hs hm
    refine O.op (.p rfl) (.mv rfl) ?_
    refine O.callSs (.p rfl) rfl FactJourn12.ok8 rfl rfl (by repeat (first | exact Sels.nil | (apply Sels.cons; focus (repeat (first | exact Sel.here | apply Sel.there))))) (open_err (m := ⟨[], 0, [], 0, 100⟩) (name := name) hat2 ok1 hn (by rw [he]; decide)) ?_
    rintro v51 _ ⟨rfl, rfl⟩
    try simp only [List.cons_append, List.nil_append, List.append_nil]
    rw [he]
    refine O.op (.p rfl) (.mv rfl) ?_
    refine O.op (.p rfl) (.extract rfl rfl) ?_
    refine O.op (.p rfl) (.extract rfl rfl) ?_
    refine O.op (.p rfl) (.extract rfl rfl) ?_
    refine O.op (.p rfl) (.as rfl) ?_
    refine O.op (.p rfl) (.as rfl) ?_
    refine O.op (.p rfl) (.as rfl) ?_
    refine O.nil ?_
    refine S.seq (S.region rfl ?_)
    refine O.op (.p rfl) (.mv rfl) ?_
    refine O.op (.p rfl) (.eqlP Go.Proofs.Tryd.underlying26 rfl rfl) ?_
    refine O.slot 56 (v' := .bool true) rfl (congrArg Value.bool (by rfl)) ?_
    refine O.op (.p rfl) (.mv rfl) ?_
    refine O.op (.g rfl rfl) (.mv rfl) ?_
    refine O.op (.g rfl rfl) (.len rfl Go.Proofs.Tryd.underlying35 rfl) ?_
    refine O.op (.g rfl rfl) (.eql rfl rfl) ?_
    refine O.slot 60 (v' := .bool true) rfl (congrArg Value.bool (by rfl)) ?_
    refine O.op (.p rfl) (.pickT rfl rfl) ?_
    refine O.op (.p rfl) (.mv rfl) ?_
    refine O.op (.g rfl rfl) (.mv rfl) ?_
    refine O.op (.g rfl rfl) (.eql rfl rfl) ?_
    refine O.slot 64 (v' := .bool true) rfl (congrArg Value.bool (by rfl)) ?_
    refine O.op (.p rfl) (.pickT rfl rfl) ?_
    refine O.op (.p rfl) (.mv rfl) ?_
    refine O.op (.g rfl rfl) (.mv rfl) ?_
    refine O.op (.g rfl rfl) (.mv rfl) ?_
    refine O.op (.g rfl rfl) (.eql rfl rfl) ?_
    refine O.slot 69 (v' := .bool true) rfl (congrArg Value.bool (by rfl)) ?_
    refine O.op (.p rfl) (.pickT rfl rfl) ?_
    refine O.op (.p rfl) (.mv rfl) ?_
    refine O.op (.g rfl rfl) (.mv rfl) ?_
    refine O.op (.g rfl rfl) (.eqlP Go.Proofs.Tryd.underlying26 rfl rfl) ?_
    refine O.slot 73 (v' := .bool true) rfl (congrArg Value.bool (by rfl)) ?_
    refine O.op (.g rfl rfl) (.mv rfl) ?_
    refine O.op (.g rfl rfl) (.neq rfl rfl) ?_
    refine O.slot 75 (v' := .bool true) rfl (congrArg Value.bool (by rfl)) ?_
    refine O.op (.g rfl rfl) (.eqlB Go.Proofs.Tryd.underlying4 rfl rfl) ?_
    refine O.slot 76 (v' := .bool true) rfl (congrArg Value.bool (by rfl)) ?_
    refine O.op (.p rfl) (.pickT rfl rfl) ?_
    refine O.op (.p rfl) (.mv rfl) ?_
    refine O.op (.g rfl rfl) (.mv rfl) ?_
    refine O.op (.g rfl rfl) (.len rfl Go.Proofs.Tryd.underlying35 rfl) ?_
    refine O.op (.g rfl rfl) (.eql rfl rfl) ?_
    refine O.slot 81 (v' := .bool true) rfl (congrArg Value.bool (by rfl)) ?_
    refine O.op (.p rfl) (.pickT rfl rfl) ?_
    refine O.op (.p rfl) (.mv rfl) ?_
    refine O.call0 (.g rfl rfl) rfl FactJourn12.ok11 rfl rfl (awake_c) ?_
    rintro v84 _ ⟨rfl, rfl⟩
    try simp only [List.cons_append, List.nil_append, List.append_nil]
    refine O.op (.p rfl) (.pickT rfl rfl) ?_
    refine O.op (.p rfl) (.as rfl) ?_
    refine O.nil ?_
    refine S.ret Go.Proofs.Tryd.results3 rfl fun w hw => Holds.end_ hR hw ?_
    exact ⟨_, ⟨rfl, rfl⟩, by repeat (first | exact Picks.all | exact Picks.nil | (apply Picks.cons; focus (repeat (first | exact Sel.here | apply Sel.there))) | apply Picks.skip)⟩
theorem arr_of_list {cs : Array Value} {l : List Value} (h : cs.toList = l) : cs = l.toArray := by subst h; simp
theorem nil_e {r : Fr} {cs : Array Value} {x : Ent} {s : ByteArray} (h : EntRp.rel r cs.toList x) (hs : s.size ≤ maxLen) :
    Con Go.Proofs.Tryd.prog 3 #[.agg cs, .string s] r [] (Ret fun v η => v = .bool true ∧ η = []) := by
  obtain ⟨v, hv, ha⟩ := EntRp.open h
  obtain rfl := arr_of_list hv
  have e : s = str s.data.toList := rfl
  rw [e]
  refine nil_c ha ?_
  rw [Array.length_toList]
  exact Nat.le_trans hs (by decide)

end Go.Proofs.YtcghiboamlaenaaDoor
