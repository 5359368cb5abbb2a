import Derived.Test.YtkkcpckgnfcncaaGreatDoorDnil
import Derived.Test.YtkkcpckgnfcncaaGreatDoorCopyb
open Go Go.Sp
set_option maxRecDepth 100000
attribute [local irreducible] obj Own OwnP
namespace Go.Proofs.YtkkcpckgnfcncaaGreatDoor
theorem FactDlight.flat22 : Go.Sp.flat1 Go.Proofs.Tryz.prog 22 = true := by kernel_rfl
theorem FactDlight.flat3 : Go.Sp.flat1 Go.Proofs.Tryz.prog 3 = true := by kernel_rfl
theorem FactDlight.flat9 : Go.Sp.flat1 Go.Proofs.Tryz.prog 9 = true := by kernel_rfl
theorem FactDlight.fld48x0 : fieldOff Go.Proofs.Tryz.prog 48 0 = some 0 := by kernel_rfl
theorem FactDlight.fld48x1 : fieldOff Go.Proofs.Tryz.prog 48 1 = some 1 := by kernel_rfl
theorem FactDlight.fld48x2 : fieldOff Go.Proofs.Tryz.prog 48 2 = some 2 := by kernel_rfl
theorem FactDlight.fld48x3 : fieldOff Go.Proofs.Tryz.prog 48 3 = some 3 := by kernel_rfl
theorem FactDlight.fld48x4 : fieldOff Go.Proofs.Tryz.prog 48 4 = some 4 := by kernel_rfl
theorem FactDlight.mixed : Go.Proofs.Tryz.prog.follows .mixedOrders = true := by kernel_rfl
theorem FactDlight.ok26 : callable Go.Proofs.Tryz.prog 26 = true := by kernel_rfl
theorem FactDlight.ok28 : callable Go.Proofs.Tryz.prog 28 = true := by kernel_rfl
theorem FactDlight.ok40 : callable Go.Proofs.Tryz.prog 40 = true := by kernel_rfl
theorem FactDlight.ok41 : callable Go.Proofs.Tryz.prog 41 = true := by kernel_rfl
theorem FactDlight.ok42 : callable Go.Proofs.Tryz.prog 42 = true := by kernel_rfl
theorem FactDlight.ok43 : callable Go.Proofs.Tryz.prog 43 = true := by kernel_rfl
theorem FactDlight.ok9 : callable Go.Proofs.Tryz.prog 9 = true := by kernel_rfl
theorem FactDlight.size48 : (Go.Proofs.Tryz.prog.info? 48).map (·.size) = some 5 := by kernel_rfl

abbrev DeedT : Type := Int × Int × List UInt8 × List UInt8 × List UInt8 × Unit
abbrev DeedR : Rp DeedT := Rp.prod Rp.i64 (Rp.prod Rp.i64 (Rp.prod Rp.str (Rp.prod Rp.str (Rp.prod (Rp.slice Rp.u8) Rp.unit))))
abbrev DeedT.name (x : DeedT) : List UInt8 := x.2.2.1
abbrev DeedT.to (x : DeedT) : List UInt8 := x.2.2.2.1
abbrev DeedT.b (x : DeedT) : List UInt8 := x.2.2.2.2.1
theorem DeedR.open {h : Fr} {cs : List Value} {x : DeedT} (r : DeedR.rel h cs x) : ∃ a c, cs = [.int .i64 x.1, .int .i64 x.2.1, .string (str x.2.2.1), .string (str x.2.2.2.1), .slice a x.2.2.2.2.1.length c] ∧ Arr Rp.u8 h (.slice a x.2.2.2.2.1.length c) x.2.2.2.2.1 ∧ x.2.2.1.length ≤ 9223372036854775807 ∧ x.2.2.2.1.length ≤ 9223372036854775807 := by
  obtain ⟨c1, c2, rfl, h1, c3, c4, rfl, h2, c5, c6, rfl, h3, c7, c8, rfl, h4, c9, c10, rfl, ⟨v, rfl, h5⟩, rfl⟩ := r
  obtain ⟨rfl, _⟩ := h1
  obtain ⟨rfl, _⟩ := h2
  obtain ⟨rfl, h3⟩ := h3
  obtain ⟨rfl, h4⟩ := h4
  obtain ⟨a, c, rfl⟩ := h5.shape
  exact ⟨a, c, rfl, h5, h3, h4⟩
theorem DeedR.mk {h : Fr} {x : DeedT} {v : Value} (h1 : InI64 x.1) (h2 : InI64 x.2.1) (h3 : x.2.2.1.length ≤ 9223372036854775807) (h4 : x.2.2.2.1.length ≤ 9223372036854775807) (h5 : Arr Rp.u8 h v x.2.2.2.2.1) : DeedR.rel h [.int .i64 x.1, .int .i64 x.2.1, .string (str x.2.2.1), .string (str x.2.2.2.1), v] x :=
  ⟨[_], _, rfl, ⟨rfl, h1⟩, [_], _, rfl, ⟨rfl, h2⟩, [_], _, rfl, ⟨rfl, h3⟩, [_], _, rfl, ⟨rfl, h4⟩, [v], [], rfl, ⟨v, rfl, h5⟩, rfl⟩
def lightD (x : DeedT) : Bool := decide (x.2.2.2.2.1.length ≤ 300 ∧ x.2.2.1.length + x.2.2.2.1.length ≤ 100)
def lightB (ds : List DeedT) : Bool := (ds.take 81).all lightD && decide (ds.length ≤ 80)
theorem light_all {ds : List DeedT} (h : lightB ds = true) : ds.length ≤ 80 ∧ ∀ x ∈ ds, x.2.2.2.2.1.length ≤ 300 ∧ x.2.2.1.length + x.2.2.2.1.length ≤ 100 := by
  unfold lightB at h
  rw [Bool.and_eq_true, decide_eq_true_eq, List.all_eq_true] at h
  refine ⟨h.2, fun x hx => ?_⟩
  have := h.1 x (by rw [List.take_of_length_le (by omega)]; exact hx)
  simpa [lightD] using this
theorem light_c {r : Fr} {va : Value} {ds : List DeedT} (ha : Arr DeedR r va ds) (hq : ∀ x ∈ ds, x.2.2.1.length ≤ 140737488355328 ∧ x.2.2.2.1.length ≤ 140737488355328) :
    Con Go.Proofs.Tryz.prog 19 #[va] r [] (Ret fun v η => v = .bool (lightB ds) ∧ η = []) := by
  refine Con.of (n := 40) [va] rfl Go.Proofs.Tryz.func19 rfl rfl rfl fun g hg R hR => ?_
  have ha := ha.mono hg
  obtain ⟨a1, c1, rfl⟩ := ha.shape
  refine S.seq (S.region rfl ?_)
  refine O.op (.p rfl) (.as rfl) ?_
  refine O.nil ?_
  refine S.seq (S.seq (S.region rfl ?_))
  refine O.op (.p rfl) (.as rfl) ?_
  refine O.nil ?_
  refine S.block ?_
  refine S.loopK (ι := Nat) (fun i => i ≤ ds.length ∧ i ≤ 81 ∧ (ds.take i).all lightD = true) (fun i => [(3, .int .i64 (i : Int))]) [(0, _)] (fun i => []) (fun i => 81 - i) (0) (by exact ⟨Nat.zero_le _, Nat.zero_le _, rfl⟩) (.cons rfl (.nil)) (.cons rfl (.nil)) rfl fun i hx ih => ?_
  have hm1 := meltRefl (g := g)
  obtain ⟨hx1, hx2, hx3⟩ := hx
  refine S.seq (S.seq (S.region rfl ?_))
  refine O.op (.p rfl) (.mv rfl) ?_
  refine O.op (.p rfl) (.mv rfl) ?_
  refine O.op (.p rfl) (.len rfl Go.Proofs.Tryz.underlying40 rfl) ?_
  refine O.op (.p rfl) (.lss rfl rfl) ?_
  refine O.op (.p rfl) (.mv rfl) ?_
  first | refine O.caseD 8 rfl (fun h8 => ?_) (fun h8 => ?_) | refine O.caseB 8 rfl (fun h8 => ?_) (fun h8 => ?_)
  · refine O.op (.g rfl rfl) (.mv rfl) ?_
    refine O.op (.g rfl rfl) (.lss rfl rfl) ?_
    refine O.op (.p rfl) (.pickT rfl rfl) ?_
    refine O.nil ?_
    first | refine S.condD rfl (fun h11 => ?_) (fun h11 => ?_) | refine S.condB rfl (fun h11 => ?_) (fun h11 => ?_)
    · have hi : i < ds.length := by omega
      have h20 : ds.take (i + 1) = ds.take i ++ [ds[i]] := List.take_succ_eq_append_getElem hi
      obtain ⟨hq1, hq2⟩ := hq ds[i] (List.getElem_mem hi)
      have hno : ¬ (ds[i].2.2.2.2.1.length ≤ 300 ∧ ds[i].2.2.1.length + ds[i].2.2.2.1.length ≤ 100) → lightB ds = false := fun hn => by
        unfold lightB
        rw [Bool.and_eq_false_iff]
        refine .inl (List.all_eq_false.2 ⟨ds[i], ?_, by simpa [lightD] using hn⟩)
        exact List.mem_take_iff_getElem.2 ⟨i, by omega, rfl⟩
      refine S.skip (S.seq (S.block (S.seq (S.regionD (L := [0, 1, 2, 3, 4, 5, 6, 7, 8, 9, 10, 11, 12, 13, 14, 15, 16, 17, 18, 19, 20, 21, 22]) FactDlight.mixed (by kernel_rfl) ?_))))
      refine .quiet (.p rfl) rfl (fun _ => .mv rfl) ?_
      refine .quiet (.p rfl) rfl (fun _ => .mv rfl) ?_
      refine OD.idx' (.p rfl) Go.Proofs.Tryz.underlying40 FactDlight.size48 rfl rfl rfl (ha) (by decide) (by first | omega | (simp; done) | (simp; omega) | decide) (fun p16 cs16 hp16 hr16 => ?_)
      obtain ⟨a16, c16, rfl, hd16, hb116, hb216⟩ := DeedR.open hr16
      refine .quiet (.p rfl) rfl (fun _ => .fieldAddr FactDlight.fld48x4 rfl) ?_
      refine .quiet (.p rfl) rfl (fun _ => .loadAt FactDlight.flat22 rfl (hp16.drop 4) rfl) ?_
      refine .quiet (.p rfl) rfl (fun _ => .len rfl Go.Proofs.Tryz.underlying22 rfl) ?_
      refine .quiet (.p rfl) rfl (fun _ => .gtr rfl rfl) ?_
      refine .quiet (.p rfl) rfl (fun _ => .mv rfl) ?_
      first | refine OD.caseD 21 rfl (fun h21 => ?_) (fun h21 => ?_) | refine OD.caseB 21 rfl (fun h21 => ?_) (fun h21 => ?_)
      · rw [hno (by omega)] at hR
        refine .no rfl rfl rfl rfl ?_
        refine .no rfl rfl rfl rfl ?_
        refine .no rfl rfl rfl rfl ?_
        refine .no rfl rfl rfl rfl ?_
        refine .no rfl rfl rfl rfl ?_
        refine .no rfl rfl rfl rfl ?_
        refine .no rfl rfl rfl rfl ?_
        refine .no rfl rfl rfl rfl ?_
        refine .no rfl rfl rfl rfl ?_
        refine .no rfl rfl rfl rfl ?_
        refine .no rfl rfl rfl rfl ?_
        refine .no rfl rfl rfl rfl ?_
        refine .no rfl rfl rfl rfl ?_
        refine .no rfl rfl rfl rfl ?_
        refine .quiet (.p rfl) rfl (fun _ => .pickT rfl rfl) ?_
        refine .nil ?_
        refine S.condT rfl ?_
        refine S.seq (S.region rfl ?_)
        refine O.op (.p rfl) (.as rfl) ?_
        refine O.nil ?_
        refine S.ret Go.Proofs.Tryz.results19 rfl fun w hw => Holds.end_ hR hw ?_
        exact ⟨_, ⟨rfl, rfl⟩, by repeat (first | exact Picks.all | exact Picks.nil | (apply Picks.cons; focus (repeat (first | exact Sel.here | apply Sel.there))) | apply Picks.skip)⟩
      · refine .quiet (.g rfl rfl) rfl (fun _ => .mv rfl) ?_
        refine .quiet (.g rfl rfl) rfl (fun _ => .mv rfl) ?_
        refine OD.idx' (.g rfl rfl) Go.Proofs.Tryz.underlying40 FactDlight.size48 rfl rfl rfl (ha) (by decide) (by first | omega | (simp; done) | (simp; omega) | decide) (fun p24 cs24 hp24 hr24 => ?_)
        obtain ⟨a24, c24, rfl, hd24, hb124, hb224⟩ := DeedR.open hr24
        refine .quiet (.g rfl rfl) rfl (fun _ => .fieldAddr FactDlight.fld48x2 rfl) ?_
        refine .quiet (.g rfl rfl) rfl (fun _ => .loadAt FactDlight.flat9 rfl (hp24.drop 2) rfl) ?_
        refine .quiet (.g rfl rfl) rfl (fun _ => .lenS rfl Go.Proofs.Tryz.underlying9 rfl) ?_
        refine OD.slot 27 (v' := .int .i64 (ds[i].2.2.1.length : Int)) rfl (by rw [str_size]) ?_
        refine .quiet (.g rfl rfl) rfl (fun _ => .mv rfl) ?_
        refine .quiet (.g rfl rfl) rfl (fun _ => .mv rfl) ?_
        refine OD.idx' (.g rfl rfl) Go.Proofs.Tryz.underlying40 FactDlight.size48 rfl rfl rfl (ha) (by decide) (by first | omega | (simp; done) | (simp; omega) | decide) (fun p30 cs30 hp30 hr30 => ?_)
        obtain ⟨a30, c30, rfl, hd30, hb130, hb230⟩ := DeedR.open hr30
        refine .quiet (.g rfl rfl) rfl (fun _ => .fieldAddr FactDlight.fld48x3 rfl) ?_
        refine .quiet (.g rfl rfl) rfl (fun _ => .loadAt FactDlight.flat9 rfl (hp30.drop 3) rfl) ?_
        refine .quiet (.g rfl rfl) rfl (fun _ => .lenS rfl Go.Proofs.Tryz.underlying9 rfl) ?_
        refine OD.slot 33 (v' := .int .i64 (ds[i].2.2.2.1.length : Int)) rfl (by rw [str_size]) ?_
        refine .quiet (.g rfl rfl) rfl (fun _ => .add rfl rfl (IntWalk.i64_in _ (by omega))) ?_
        refine .quiet (.g rfl rfl) rfl (fun _ => .gtr rfl rfl) ?_
        refine .quiet (.p rfl) rfl (fun _ => .pickF rfl rfl) ?_
        refine .nil ?_
        first | refine S.condD rfl (fun h36 => ?_) (fun h36 => ?_) | refine S.condB rfl (fun h36 => ?_) (fun h36 => ?_)
        · rw [hno (by omega)] at hR
          refine S.seq (S.region rfl ?_)
          refine O.op (.p rfl) (.as rfl) ?_
          refine O.nil ?_
          refine S.ret Go.Proofs.Tryz.results19 rfl fun w hw => Holds.end_ hR hw ?_
          exact ⟨_, ⟨rfl, rfl⟩, by repeat (first | exact Picks.all | exact Picks.nil | (apply Picks.cons; focus (repeat (first | exact Sel.here | apply Sel.there))) | apply Picks.skip)⟩
        · refine S.skip (S.inBlock (S.region rfl ?_))
          refine O.op (.p rfl) (.mv rfl) ?_
          refine O.op (.p rfl) (.add rfl rfl (IntWalk.i64_in _ (by omega))) ?_
          refine O.op (.p rfl) (.as rfl) ?_
          refine O.nil ?_
          refine S.weaken ?_ (ih (i + 1) (by (refine ⟨by omega, by omega, ?_⟩; rw [h20, List.all_append, hx3]; simp only [List.all_cons, List.all_nil, Bool.and_true, Bool.true_and, lightD]; exact decide_eq_true (by omega))) (by omega))
          repeat (first | exact Sub.nil | refine Sub.cons rfl ?_)
    · clear ih
      have hi : i = 81 := by omega
      subst hi
      refine S.exit rfl ?_
      refine S.seq (S.region rfl ?_)
      refine O.op (.p rfl) (.mv rfl) ?_
      refine O.op (.p rfl) (.len rfl Go.Proofs.Tryz.underlying40 rfl) ?_
      refine O.op (.p rfl) (.leq rfl rfl) ?_
      refine O.op (.p rfl) (.as rfl) ?_
      refine O.nil ?_
      have e : lightB ds = false := by unfold lightB; rw [Bool.and_eq_false_iff]; exact .inr (decide_eq_false (by omega))
      rw [e] at hR
      refine S.ret Go.Proofs.Tryz.results19 rfl fun w hw => Holds.end_ hR hw ?_
      exact ⟨_, ⟨congrArg Value.bool (decide_eq_false (by omega)), rfl⟩, by repeat (first | exact Picks.all | exact Picks.nil | (apply Picks.cons; focus (repeat (first | exact Sel.here | apply Sel.there))) | apply Picks.skip)⟩
  · clear ih
    have hi : i = ds.length := by omega
    subst hi
    refine O.opN rfl rfl rfl ?_
    refine O.opN rfl rfl rfl ?_
    refine O.op (.p rfl) (.pickF rfl rfl) ?_
    refine O.nil ?_
    refine S.condF rfl ?_
    refine S.exit rfl ?_
    refine S.seq (S.region rfl ?_)
    refine O.op (.p rfl) (.mv rfl) ?_
    refine O.op (.p rfl) (.len rfl Go.Proofs.Tryz.underlying40 rfl) ?_
    refine O.op (.p rfl) (.leq rfl rfl) ?_
    refine O.op (.p rfl) (.as rfl) ?_
    refine O.nil ?_
    have e : lightB ds = decide ((ds.length : Int) ≤ 80) := by
      unfold lightB
      rw [List.take_length] at hx3
      rw [List.take_of_length_le hx2, hx3, Bool.true_and]
      exact decide_eq_decide.2 (by omega)
    rw [e] at hR
    refine S.ret Go.Proofs.Tryz.results19 rfl fun w hw => Holds.end_ hR hw ?_
    exact ⟨_, ⟨rfl, rfl⟩, by repeat (first | exact Picks.all | exact Picks.nil | (apply Picks.cons; focus (repeat (first | exact Sel.here | apply Sel.there))) | apply Picks.skip)⟩
theorem does_n {r : Fr} {p : Option Addr} {va : Value} {x : DeedT} (h : NoD r p) (ha : Arr Rp.u8 r va x.2.2.2.2.1) :
    Con Go.Proofs.Tryz.prog 21 #[.pointer p, .agg #[.int .i64 x.1, .int .i64 x.2.1, .string (str x.2.2.1), .string (str x.2.2.2.1), va]] r [] (Ret fun v η => v = .int .i64 (if pick x.1 7 = 6 then 0 else 1) ∧ η = []) := by
  refine Con.of (n := 48) [.pointer p, .agg #[.int .i64 x.1, .int .i64 x.2.1, .string (str x.2.2.1), .string (str x.2.2.2.1), va]] rfl Go.Proofs.Tryz.func21 rfl rfl rfl fun g hg R hR => ?_
  replace h := h.mono hg
  have ha := ha.mono hg
  obtain ⟨a1, c1, rfl⟩ := ha.shape
  refine S.seq (S.region rfl ?_)
  refine O.opE (.p rfl) (.box (cs := [_, _, _, _, _]) rfl rfl) ?_
  rintro _ _ ⟨b3, rfl, rfl⟩
  refine O.op (.p rfl) (.as rfl) ?_
  refine O.nil ?_
  refine S.seq (S.seq (S.region rfl ?_))
  refine O.op (.p rfl) (.fieldObj FactDlight.fld48x0 rfl) ?_
  refine O.op (.p rfl) (.loadObj FactDlight.flat3 rfl (by repeat (first | exact Sel.here | apply Sel.there)) rfl) ?_
  refine O.call0 (.p rfl) rfl FactDlight.ok40 rfl rfl (Pick_c _ _ (by first | assumption | (constructor <;> omega))) ?_
  rintro v7 _ ⟨rfl, rfl⟩
  try simp only [List.cons_append, List.nil_append, List.append_nil]
  refine O.nil ?_
  refine S.block (S.seq (S.region rfl ?_))
  refine O.op (.p rfl) (.eql rfl rfl) ?_
  refine O.op (.p rfl) (.as rfl) ?_
  refine O.nil ?_
  first | refine S.condD rfl (fun h8 => ?_) (fun h8 => ?_) | refine S.condB rfl (fun h8 => ?_) (fun h8 => ?_)
  · rw [if_neg (by omega)] at hR
    refine S.seq (S.region rfl ?_)
    refine O.op (.p rfl) (.mv rfl) ?_
    refine O.op (.p rfl) (.fieldObj FactDlight.fld48x2 rfl) ?_
    refine O.op (.p rfl) (.loadObj FactDlight.flat9 rfl (by repeat (first | exact Sel.here | apply Sel.there)) rfl) ?_
    refine O.call0 (.p rfl) rfl FactDlight.ok26 rfl rfl ((sync_n h)) ?_
    rintro v13 _ ⟨rfl, rfl⟩
    try simp only [List.cons_append, List.nil_append, List.append_nil]
    refine O.op (.p rfl) (.as rfl) ?_
    refine O.nil ?_
    refine S.ret Go.Proofs.Tryz.results21 rfl fun w hw => Holds.end_ hR hw ?_
    exact ⟨_, ⟨rfl, rfl⟩, by repeat (first | exact Picks.all | exact Picks.nil | (apply Picks.cons; focus (repeat (first | exact Sel.here | apply Sel.there))) | apply Picks.skip)⟩
  · refine S.seq (S.region rfl ?_)
    refine O.op (.p rfl) (.eql rfl rfl) ?_
    refine O.op (.p rfl) (.as rfl) ?_
    refine O.nil ?_
    first | refine S.condD rfl (fun h14 => ?_) (fun h14 => ?_) | refine S.condB rfl (fun h14 => ?_) (fun h14 => ?_)
    · rw [if_neg (by omega)] at hR
      refine S.seq (S.region rfl ?_)
      refine O.op (.p rfl) (.mv rfl) ?_
      refine O.op (.p rfl) (.fieldObj FactDlight.fld48x2 rfl) ?_
      refine O.op (.p rfl) (.loadObj FactDlight.flat9 rfl (by repeat (first | exact Sel.here | apply Sel.there)) rfl) ?_
      refine O.op (.p rfl) (.fieldObj FactDlight.fld48x1 rfl) ?_
      refine O.op (.p rfl) (.loadObj FactDlight.flat3 rfl (by repeat (first | exact Sel.here | apply Sel.there)) rfl) ?_
      refine O.call0 (.p rfl) rfl FactDlight.ok41 rfl rfl ((cut_n h)) ?_
      rintro v21 _ ⟨rfl, rfl⟩
      try simp only [List.cons_append, List.nil_append, List.append_nil]
      refine O.op (.p rfl) (.as rfl) ?_
      refine O.nil ?_
      refine S.ret Go.Proofs.Tryz.results21 rfl fun w hw => Holds.end_ hR hw ?_
      exact ⟨_, ⟨rfl, rfl⟩, by repeat (first | exact Picks.all | exact Picks.nil | (apply Picks.cons; focus (repeat (first | exact Sel.here | apply Sel.there))) | apply Picks.skip)⟩
    · refine S.seq (S.region rfl ?_)
      refine O.op (.p rfl) (.eql rfl rfl) ?_
      refine O.op (.p rfl) (.as rfl) ?_
      refine O.nil ?_
      first | refine S.condD rfl (fun h22 => ?_) (fun h22 => ?_) | refine S.condB rfl (fun h22 => ?_) (fun h22 => ?_)
      · rw [if_neg (by omega)] at hR
        refine S.seq (S.region rfl ?_)
        refine O.op (.p rfl) (.mv rfl) ?_
        refine O.op (.p rfl) (.fieldObj FactDlight.fld48x2 rfl) ?_
        refine O.op (.p rfl) (.loadObj FactDlight.flat9 rfl (by repeat (first | exact Sel.here | apply Sel.there)) rfl) ?_
        refine O.op (.p rfl) (.fieldObj FactDlight.fld48x3 rfl) ?_
        refine O.op (.p rfl) (.loadObj FactDlight.flat9 rfl (by repeat (first | exact Sel.here | apply Sel.there)) rfl) ?_
        refine O.call0 (.p rfl) rfl FactDlight.ok42 rfl rfl ((rename_n h)) ?_
        rintro v29 _ ⟨rfl, rfl⟩
        try simp only [List.cons_append, List.nil_append, List.append_nil]
        refine O.op (.p rfl) (.as rfl) ?_
        refine O.nil ?_
        refine S.ret Go.Proofs.Tryz.results21 rfl fun w hw => Holds.end_ hR hw ?_
        exact ⟨_, ⟨rfl, rfl⟩, by repeat (first | exact Picks.all | exact Picks.nil | (apply Picks.cons; focus (repeat (first | exact Sel.here | apply Sel.there))) | apply Picks.skip)⟩
      · refine S.seq (S.region rfl ?_)
        refine O.op (.p rfl) (.eql rfl rfl) ?_
        refine O.op (.p rfl) (.as rfl) ?_
        refine O.nil ?_
        first | refine S.condD rfl (fun h30 => ?_) (fun h30 => ?_) | refine S.condB rfl (fun h30 => ?_) (fun h30 => ?_)
        · rw [if_neg (by omega)] at hR
          refine S.seq (S.region rfl ?_)
          refine O.op (.p rfl) (.mv rfl) ?_
          refine O.op (.p rfl) (.fieldObj FactDlight.fld48x2 rfl) ?_
          refine O.op (.p rfl) (.loadObj FactDlight.flat9 rfl (by repeat (first | exact Sel.here | apply Sel.there)) rfl) ?_
          refine O.call0 (.p rfl) rfl FactDlight.ok43 rfl rfl ((remove_n h)) ?_
          rintro v35 _ ⟨rfl, rfl⟩
          try simp only [List.cons_append, List.nil_append, List.append_nil]
          refine O.op (.p rfl) (.as rfl) ?_
          refine O.nil ?_
          refine S.ret Go.Proofs.Tryz.results21 rfl fun w hw => Holds.end_ hR hw ?_
          exact ⟨_, ⟨rfl, rfl⟩, by repeat (first | exact Picks.all | exact Picks.nil | (apply Picks.cons; focus (repeat (first | exact Sel.here | apply Sel.there))) | apply Picks.skip)⟩
        · refine S.seq (S.region rfl ?_)
          refine O.op (.p rfl) (.eql rfl rfl) ?_
          refine O.op (.p rfl) (.as rfl) ?_
          refine O.nil ?_
          first | refine S.condD rfl (fun h36 => ?_) (fun h36 => ?_) | refine S.condB rfl (fun h36 => ?_) (fun h36 => ?_)
          · rw [if_pos (by omega)] at hR
            refine S.seq (S.region rfl ?_)
            refine O.op (.p rfl) (.mv rfl) ?_
            refine O.op (.p rfl) (.fieldObj FactDlight.fld48x1 rfl) ?_
            refine O.op (.p rfl) (.loadObj FactDlight.flat3 rfl (by repeat (first | exact Sel.here | apply Sel.there)) rfl) ?_
            refine O.call0 (.p rfl) rfl FactDlight.ok28 rfl rfl ((crash_n h)) ?_
            rintro v41 _ ⟨rfl, rfl⟩
            try simp only [List.cons_append, List.nil_append, List.append_nil]
            refine O.nil ?_
            refine S.seq (S.region rfl ?_)
            refine O.op (.p rfl) (.as rfl) ?_
            refine O.nil ?_
            refine S.ret Go.Proofs.Tryz.results21 rfl fun w hw => Holds.end_ hR hw ?_
            exact ⟨_, ⟨rfl, rfl⟩, by repeat (first | exact Picks.all | exact Picks.nil | (apply Picks.cons; focus (repeat (first | exact Sel.here | apply Sel.there))) | apply Picks.skip)⟩
          · rw [if_neg (by omega)] at hR
            refine S.skip (S.inBlock (S.seq (S.region rfl ?_)))
            refine O.op (.p rfl) (.mv rfl) ?_
            refine O.op (.p rfl) (.fieldObj FactDlight.fld48x2 rfl) ?_
            refine O.op (.p rfl) (.loadObj FactDlight.flat9 rfl (by repeat (first | exact Sel.here | apply Sel.there)) rfl) ?_
            refine O.op (.p rfl) (.fieldObj FactDlight.fld48x4 rfl) ?_
            refine O.op (.p rfl) (.loadObj FactDlight.flat22 rfl (by repeat (first | exact Sel.here | apply Sel.there)) rfl) ?_
            refine O.call0 (.p rfl) rfl FactDlight.ok9 rfl rfl ((append_n h)) ?_
            rintro v47 _ ⟨rfl, rfl⟩
            try simp only [List.cons_append, List.nil_append, List.append_nil]
            refine O.op (.p rfl) (.as rfl) ?_
            refine O.nil ?_
            refine S.ret Go.Proofs.Tryz.results21 rfl fun w hw => Holds.end_ hR hw ?_
            exact ⟨_, ⟨rfl, rfl⟩, by repeat (first | exact Picks.all | exact Picks.nil | (apply Picks.cons; focus (repeat (first | exact Sel.here | apply Sel.there))) | apply Picks.skip)⟩

end Go.Proofs.YtkkcpckgnfcncaaGreatDoor
