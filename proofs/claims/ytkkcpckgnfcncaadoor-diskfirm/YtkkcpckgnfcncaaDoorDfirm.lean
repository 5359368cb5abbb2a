import Derived.Test.YtkkcpckgnfcncaaDoorDfirm2
import Derived.Test.YtkkcpckgnfcncaaDoorSpLast
open Go Go.Sp
set_option maxRecDepth 100000
attribute [local irreducible] obj Own OwnP
namespace Go.Proofs.YtkkcpckgnfcncaaDoor
theorem FactDfirm.flat3 : Go.Sp.flat1 Go.Proofs.Tryd.prog 3 = true := by kernel_rfl
theorem FactDfirm.flat31 : Go.Sp.flat1 Go.Proofs.Tryd.prog 31 = true := by kernel_rfl
theorem FactDfirm.flat4 : Go.Sp.flat1 Go.Proofs.Tryd.prog 4 = true := by kernel_rfl
theorem FactDfirm.flat9 : Go.Sp.flat1 Go.Proofs.Tryd.prog 9 = true := by kernel_rfl
theorem FactDfirm.fld33x0 : fieldOff Go.Proofs.Tryd.prog 33 0 = some 0 := by kernel_rfl
theorem FactDfirm.fld33x1 : fieldOff Go.Proofs.Tryd.prog 33 1 = some 1 := by kernel_rfl
theorem FactDfirm.fld33x4 : fieldOff Go.Proofs.Tryd.prog 33 4 = some 4 := by kernel_rfl
theorem FactDfirm.mixed : Go.Proofs.Tryd.prog.follows .mixedOrders = true := by kernel_rfl
theorem FactDfirm.ok10 : callable Go.Proofs.Tryd.prog 10 = true := by kernel_rfl
theorem FactDfirm.ok11 : callable Go.Proofs.Tryd.prog 11 = true := by kernel_rfl
theorem FactDfirm.ok12 : callable Go.Proofs.Tryd.prog 12 = true := by kernel_rfl
theorem FactDfirm.ok13 : callable Go.Proofs.Tryd.prog 13 = true := by kernel_rfl
theorem FactDfirm.ok14 : callable Go.Proofs.Tryd.prog 14 = true := by kernel_rfl
theorem FactDfirm.ok15 : callable Go.Proofs.Tryd.prog 15 = true := by kernel_rfl
theorem FactDfirm.ok16 : callable Go.Proofs.Tryd.prog 16 = true := by kernel_rfl
theorem FactDfirm.ok7 : callable Go.Proofs.Tryd.prog 7 = true := by kernel_rfl
theorem FactDfirm.ok8 : callable Go.Proofs.Tryd.prog 8 = true := by kernel_rfl
theorem FactDfirm.ok9 : callable Go.Proofs.Tryd.prog 9 = true := by kernel_rfl
theorem FactDfirm.size3 : (Go.Proofs.Tryd.prog.info? 3).map (·.size) = some 1 := by kernel_rfl
theorem FactDfirm.size33 : (Go.Proofs.Tryd.prog.info? 33).map (·.size) = some 5 := by kernel_rfl
theorem FactDfirm.size4 : (Go.Proofs.Tryd.prog.info? 4).map (·.size) = some 1 := by kernel_rfl
theorem FactDfirm.size9 : (Go.Proofs.Tryd.prog.info? 9).map (·.size) = some 1 := by kernel_rfl

theorem diskFirm_c {r : Fr} {va : Value} {ds : List DeedT} (ha : Arr DeedR r va ds) (hq : ∀ x ∈ ds, x.2.2.1.length ≤ 140737488355328 ∧ x.2.2.2.1.length ≤ 140737488355328) :
    Con Go.Proofs.Tryd.prog 3 #[va] r [] (Ret fun v η => v = .bool true ∧ η = []) := by
  refine Con.of (n := 155) [va] rfl Go.Proofs.Tryd.func3 rfl rfl rfl fun g hg R hR => ?_
  have ha := ha.mono hg
  obtain ⟨a1, c1, rfl⟩ := ha.shape
  refine S.seq (S.region rfl ?_)
  refine O.op (.p rfl) (.as rfl) ?_
  refine O.nil ?_
  refine S.seq (S.seq (S.region rfl ?_))
  refine O.call0 (.p rfl) rfl FactDfirm.ok7 rfl rfl (awake_c) ?_
  rintro v14 _ ⟨rfl, rfl⟩
  try simp only [List.cons_append, List.nil_append, List.append_nil]
  refine O.op (.p rfl) (.not rfl) ?_
  refine O.nil ?_
  refine S.condF rfl ?_
  refine S.skip (S.seq (S.seq (S.region rfl ?_)))
  refine O.op (.p rfl) (.mv rfl) ?_
  refine O.call0 (.p rfl) rfl FactDfirm.ok8 rfl rfl (light_c ha hq) ?_
  rintro v17 _ ⟨rfl, rfl⟩
  try simp only [List.cons_append, List.nil_append, List.append_nil]
  refine O.op (.p rfl) ((by first | exact .notD rfl | exact .not rfl)) ?_
  refine O.nil ?_
  first | refine S.condD rfl (fun h18 => ?_) (fun h18 => ?_) | refine S.condB rfl (fun h18 => ?_) (fun h18 => ?_)
  · refine S.seq (S.region rfl ?_)
    refine O.op (.p rfl) (.as rfl) ?_
    refine O.nil ?_
    refine S.ret Go.Proofs.Tryd.results3 rfl fun w hw => Holds.end_ hR hw ?_
    exact ⟨_, ⟨rfl, rfl⟩, by repeat (first | exact Picks.all | exact Picks.nil | (apply Picks.cons; focus (repeat (first | exact Sel.here | apply Sel.there))) | apply Picks.skip)⟩
  · have hli : lightB ds = true := by simpa using h18
    obtain ⟨hl80, hlx⟩ := light_all hli
    refine S.skip (S.seq (S.region rfl ?_))
    refine O.call0 (.p rfl) rfl FactDfirm.ok9 rfl rfl (newR_c (room := 1048576) (by decide)) ?_
    rintro v19 _ ⟨d19, q119, q219, rfl, rfl⟩
    try simp only [List.cons_append, List.nil_append, List.append_nil]
    refine O.frzO (by repeat (first | exact Sel.here | apply Sel.there)) fun g hs hm hat => ?_
    replace hg := Fr.sub_trans hg hs
    replace hR := melted hR hm
    try replace ha := ha.mono hs
    clear hs hm
    refine O.op (.p rfl) (.as rfl) ?_
    refine O.nil ?_
    refine S.seq (S.region rfl ?_)
    refine O.opE (.p rfl) (.alloc (cs := [.string ⟨#[]⟩, .string ⟨#[]⟩, .string ⟨#[]⟩, .string ⟨#[]⟩]) Go.Proofs.Tryd.zeroValue27 rfl) ?_
    rintro _ _ ⟨b4, rfl, rfl⟩
    refine O.nil ?_
    refine S.seq (S.region rfl ?_)
    refine O.opE (.p rfl) (.alloc (cs := [.int .i64 0, .int .i64 0, .int .i64 0, .int .i64 0]) Go.Proofs.Tryd.zeroValue28 rfl) ?_
    rintro _ _ ⟨b5, rfl, rfl⟩
    refine O.nil ?_
    refine S.seq (S.region rfl ?_)
    refine O.opE (.p rfl) (.alloc (cs := [.bool false, .bool false, .bool false, .bool false]) Go.Proofs.Tryd.zeroValue29 rfl) ?_
    rintro _ _ ⟨b6, rfl, rfl⟩
    refine O.nil ?_
    refine S.seq (S.seq (S.region rfl ?_))
    refine O.op (.p rfl) (.as rfl) ?_
    refine O.nil ?_
    refine S.block ?_
    refine S.objIs (b := b4) (cs' := arr4 (fB ⟨[], 0, [], 0, 1048576⟩)) (by repeat (first | exact Sel.here | apply Sel.there)) rfl ?_
    refine S.objIs (b := b5) (cs' := arr4 (fS ⟨[], 0, [], 0, 1048576⟩)) (by repeat (first | exact Sel.here | apply Sel.there)) rfl ?_
    refine S.objIs (b := b6) (cs' := arr4 (fI ⟨[], 0, [], 0, 1048576⟩)) (by repeat (first | exact Sel.here | apply Sel.there)) rfl ?_
    refine S.pk (ζ := [obj b4 27 (arr4 (fB ⟨[], 0, [], 0, 1048576⟩)), obj b5 28 (arr4 (fS ⟨[], 0, [], 0, 1048576⟩)), obj b6 29 (arr4 (fI ⟨[], 0, [], 0, 1048576⟩)), MapT q119 [] 0, MapT q219 [] 0]) (by repeat (first | exact Picks.all | exact Picks.nil | (apply Picks.cons; focus (repeat (first | exact Sel.here | apply Sel.there))) | apply Picks.skip)) ?_
    refine S.loopK2 (ι := Nat) (κ := DiskM) (fun i m => i ≤ ds.length ∧ FI i m) (fun i m => [(7, .int .i64 (i : Int))]) [(0, _), (3, _), (4, _), (5, _), (6, _)] (fun i m => [obj b4 27 (arr4 (fB m)), obj b5 28 (arr4 (fS m)), obj b6 29 (arr4 (fI m)), MapT q119 m.safe m.c1, MapT q219 m.loose m.c2]) (fun i m => ds.length - i) (0) (⟨[], 0, [], 0, 1048576⟩) (by exact ⟨Nat.zero_le _, FI.zero⟩) (.cons rfl (.nil)) (.cons rfl (.cons rfl (.cons rfl (.cons rfl (.cons rfl (.nil)))))) rfl fun i m hx ih => ?_
    have hm1 := meltRefl (g := g)
    obtain ⟨hx1, f⟩ := hx
    have hat' : At g.h ⟨d19, 0, none⟩ (dC q119 q219 m.room) := by rw [f.di.room]; exact hat
    refine S.seq (S.seq (S.region rfl ?_))
    refine O.op (.p rfl) (.mv rfl) ?_
    refine O.op (.p rfl) (.mv rfl) ?_
    refine O.op (.p rfl) (.len rfl Go.Proofs.Tryd.underlying22 rfl) ?_
    refine O.op (.p rfl) (.lss rfl rfl) ?_
    refine O.nil ?_
    first | refine S.condD rfl (fun h23 => ?_) (fun h23 => ?_) | refine S.condB rfl (fun h23 => ?_) (fun h23 => ?_)
    · have hi : i < ds.length := by omega
      obtain ⟨hl1, hl2⟩ := hlx ds[i] (List.getElem_mem hi)
      obtain ⟨n, hn, hn4⟩ := pick4 ds[i].2.1
      have hpn := pick4_id hn4
      have hbl := read_len f.di.ok (lk n)
      rw [read_bytes f.di.ok] at hbl
      refine S.skip (S.seq (S.block (S.seq (S.region rfl ?_))))
      refine O.op (.p rfl) (.mv rfl) ?_
      refine O.op (.p rfl) (.mv rfl) ?_
      refine O.idx' (.p rfl) Go.Proofs.Tryd.underlying22 FactDfirm.size33 rfl rfl rfl (ha) (by decide) (by first | omega | (simp; done) | (simp; omega) | decide) (fun p28 cs28 hp28 hr28 => ?_)
      obtain ⟨a28, c28, rfl, hd28, hb128, hb228⟩ := DeedR.open hr28
      refine O.op (.p rfl) (.fieldAddr FactDfirm.fld33x1 rfl) ?_
      refine O.op (.p rfl) (.loadAt FactDfirm.flat3 rfl (hp28.drop 1) rfl) ?_
      refine O.call0 (.p rfl) rfl FactDfirm.ok10 rfl rfl (Pick_c _ _ (by first | assumption | (constructor <;> omega))) ?_
      rintro v31 _ ⟨rfl, rfl⟩
      try simp only [List.cons_append, List.nil_append, List.append_nil]
      rw [hn]
      refine O.op (.p rfl) (.as rfl) ?_
      refine O.nil ?_
      refine S.seq (S.seq (S.region rfl ?_))
      refine O.op (.p rfl) (.mv rfl) ?_
      refine O.op (.p rfl) (.mv rfl) ?_
      refine O.idx' (.p rfl) Go.Proofs.Tryd.underlying22 FactDfirm.size33 rfl rfl rfl (ha) (by decide) (by first | omega | (simp; done) | (simp; omega) | decide) (fun p34 cs34 hp34 hr34 => ?_)
      obtain ⟨a34, c34, rfl, hd34, hb134, hb234⟩ := DeedR.open hr34
      refine O.op (.p rfl) (.fieldAddr FactDfirm.fld33x0 rfl) ?_
      refine O.op (.p rfl) (.loadAt FactDfirm.flat3 rfl hp34 rfl) ?_
      refine O.call0 (.p rfl) rfl FactDfirm.ok10 rfl rfl (Pick_c _ _ (by first | assumption | (constructor <;> omega))) ?_
      rintro v37 _ ⟨rfl, rfl⟩
      try simp only [List.cons_append, List.nil_append, List.append_nil]
      refine O.nil ?_
      refine S.block (S.seq (S.region rfl ?_))
      refine O.op (.p rfl) (.eql rfl rfl) ?_
      refine O.op (.p rfl) (.as rfl) ?_
      refine O.nil ?_
      first | refine S.condD rfl (fun h62 => ?_) (fun h62 => ?_) | refine S.condB rfl (fun h62 => ?_) (fun h62 => ?_)
      · refine S.seq (S.seq ?_)
        have hat'_S := hat'
        have ha_S := ha
        refine S.frzT (B := obj b6 29 (arr4 (fI m))) (by repeat (first | exact Sel.here | apply Sel.there)) fun g0 hs0 ⟨m0, hm0, hsm0⟩ th0 => ?_
        replace hat' := At.mono hs0 hat'
        replace ha := Arr.mono hs0 ha
        have hz6 := (obj_at hm0).mono hsm0
        refine S.regionD (L := [0, 1, 5, 6, 7, 2, 3, 4, 8]) FactDfirm.mixed (by kernel_rfl) ?_
        refine .quiet (.p rfl) rfl (fun _ => .mv rfl) ?_
        refine .quiet (.p rfl) rfl (fun _ => .mv rfl) ?_
        refine .quiet (.p rfl) rfl (fun _ => .mv rfl) ?_
        refine .quiet (.p rfl) rfl (fun _ => .idxArrA (j := n) Go.Proofs.Tryd.underlying29 FactDfirm.size4 rfl rfl rfl hn4) ?_
        refine .quiet (.p rfl) rfl (fun _ => .load FactDfirm.flat4 rfl (At.at hz6 (arr4_get _ hn4))) ?_
        refine OD.call0 (.p rfl) (by kernel_rfl) rfl FactDfirm.ok12 rfl rfl (letter_c _) ?_
        rintro v66 _ ⟨rfl, rfl⟩
        try simp only [List.cons_append, List.nil_append, List.append_nil]
        rw [hpn, Int.toNat_natCast]
        refine OD.callSs (.p rfl) (by kernel_rfl) rfl FactDfirm.ok11 rfl rfl (by repeat (first | exact Sels.nil | (apply Sels.cons; focus (repeat (first | exact Sel.here | apply Sel.there))))) (sync_g (name := lk n) hat' f.di.ok) ?_
        rintro v67 _ ⟨rfl, rfl⟩
        try simp only [List.cons_append, List.nil_append, List.append_nil]
        refine .quiet (.p rfl) rfl (fun _ => .eql rfl rfl) ?_
        refine .quiet (.p rfl) rfl (fun _ => .neqB Go.Proofs.Tryd.underlying4 rfl rfl) ?_
        refine OD.slot 72 (v' := .bool false) rfl (congrArg Value.bool (by simp [syncE_has])) ?_
        refine .nil ?_
        refine S.condF rfl ?_
        refine S.skip ?_
        refine th0 ?_
        replace hat' := hat'_S
        replace ha := ha_S
        refine S.region rfl ?_
        refine O.op (.p rfl) (.mv rfl) ?_
        refine O.op (.p rfl) (.mv rfl) ?_
        refine O.op (.p rfl) (.idxArr (j := n) Go.Proofs.Tryd.underlying27 FactDfirm.size9 rfl rfl rfl hn4) ?_
        refine O.op (.p rfl) (.loadObj FactDfirm.flat9 rfl (by repeat (first | exact Sel.here | apply Sel.there)) (arr4_get0 _ hn4)) ?_
        refine O.op (.p rfl) (.lenS rfl Go.Proofs.Tryd.underlying9 rfl) ?_
        refine O.slot 77 (v' := .int .i64 ((dBytes m (lk n)).length : Int)) rfl (by rw [str_size]) ?_
        refine O.op (.p rfl) (.idxArr (j := n) Go.Proofs.Tryd.underlying28 FactDfirm.size3 rfl rfl rfl hn4) ?_
        refine O.opU rfl (.store1 FactDfirm.flat3 rfl rfl rfl (by repeat (first | exact Sel.here | apply Sel.there)) (by simp; omega)) ?_
        refine O.nil ?_
        refine S.inBlock (S.seq (S.region rfl ?_))
        refine O.op (.p rfl) (.as rfl) ?_
        refine O.nil ?_
        refine S.seq (S.seq (S.region rfl ?_))
        refine O.op (.p rfl) (.as rfl) ?_
        refine O.nil ?_
        refine S.block ?_
        rw [Nat.zero_add, sync_S f.di.ok hn4, ← sync_B f.di.ok n, ← sync_I m n]
        have f2 := f.sync n hn4
        obtain ⟨m2, hm2⟩ : ∃ x : DiskM, x = dSyncM m (lk n) := ⟨_, rfl⟩
        rw [← hm2] at f2 ⊢
        have hat2 : At g.h ⟨d19, 0, none⟩ (dC q119 q219 m2.room) := by rw [f2.di.room]; exact hat
        refine S.pk (ζ := [obj b4 27 (arr4 (fB m2)), obj b5 28 (arr4 (fS m2)), obj b6 29 (arr4 (fI m2)), MapT q119 m2.safe m2.c1, MapT q219 m2.loose m2.c2]) (by repeat (first | exact Picks.all | exact Picks.nil | (apply Picks.cons; focus (repeat (first | exact Sel.here | apply Sel.there))) | apply Picks.skip)) ?_
        refine S.loopK (ι := Nat) (fun k => k ≤ 4) (fun k => [(10, .int .i64 (fU m2 k : Int)), (11, .int .i64 (k : Int))]) [(0, _), (3, _), (4, _), (5, _), (6, _), (7, _)] (fun k => [obj b4 27 (arr4 (fB m2)), obj b5 28 (arr4 (fS m2)), obj b6 29 (arr4 (fI m2)), MapT q119 m2.safe m2.c1, MapT q219 m2.loose m2.c2]) (fun k => 4 - k) (0) (by exact Nat.zero_le _) (.cons rfl (.cons rfl (.nil))) (.cons rfl (.cons rfl (.cons rfl (.cons rfl (.cons rfl (.cons rfl (.nil))))))) rfl fun k hx ih => ?_
        have hm2 := meltRefl (g := g)
        refine S.seq (S.seq (S.region rfl ?_))
        refine O.op (.p rfl) (.mv rfl) ?_
        refine O.op (.p rfl) (.lss rfl rfl) ?_
        refine O.nil ?_
        first | refine S.condD rfl (fun h123 => ?_) (fun h123 => ?_) | refine S.condB rfl (fun h123 => ?_) (fun h123 => ?_)
        · have hk : k < 4 := by omega
          have hpk := pick4_id hk
          have hul := fU_le f2 (k := k) (by omega)
          have hbl := read_len f2.di.ok (lk k)
          rw [read_bytes f2.di.ok] at hbl
          refine S.skip (S.seq (S.block (S.seq (S.region rfl ?_))))
          refine O.op (.p rfl) (.mv rfl) ?_
          refine O.op (.p rfl) (.mv rfl) ?_
          refine O.call0 (.p rfl) rfl FactDfirm.ok12 rfl rfl (letter_c _) ?_
          rintro v129 _ ⟨rfl, rfl⟩
          try simp only [List.cons_append, List.nil_append, List.append_nil]
          rw [hpk, Int.toNat_natCast]
          refine O.callSs (.p rfl) rfl FactDfirm.ok15 rfl rfl (by repeat (first | exact Sels.nil | (apply Sels.cons; focus (repeat (first | exact Sel.here | apply Sel.there))))) (read_g (name := lk k) hat2 f2.di.ok) ?_
          rintro v130 _ ⟨a130, c130, rfl, rfl⟩
          try simp only [List.cons_append, List.nil_append, List.append_nil]
          simp only [read_bytes f2.di.ok]
          refine O.frzW Sel.here fun g hs hm ha130 => ?_
          replace hg := Fr.sub_trans hg hs
          replace hR := melted hR hm
          try replace ha := ha.mono hs
          try replace hat := hat.mono hs
          try replace hat' := hat'.mono hs
          try replace hp28 := hp28.mono hs
          try replace hp34 := hp34.mono hs
          try replace hat2 := hat2.mono hs
          replace hm1 := meltTrans hm1 hm
          replace hm2 := meltTrans hm2 hm
          clear hs hm
          refine O.op (.p rfl) (.mv rfl) ?_
          refine O.op (.p rfl) (.extract rfl rfl) ?_
          refine O.op (.p rfl) (.extract rfl rfl) ?_
          refine O.op (.p rfl) (.as rfl) ?_
          refine O.op (.p rfl) (.as rfl) ?_
          refine O.nil ?_
          refine S.seq (S.seq ?_)
          have ha130_S := ha130
          refine S.frzT (B := obj b6 29 (arr4 (fI m2))) (by repeat (first | exact Sel.here | apply Sel.there)) fun g0 hs0 ⟨m0, hm0, hsm0⟩ th0 => ?_
          replace ha130 := Arr.mono hs0 ha130
          refine S.frzT (B := obj b4 27 (arr4 (fB m2))) (by repeat (first | exact Sel.here | apply Sel.there)) fun g1 hs1 ⟨m1, hm1, hsm1⟩ th1 => ?_
          replace ha130 := Arr.mono hs1 ha130
          have hz6 := (obj_at hm0).mono (Fr.sub_trans hsm0 hs1)
          have hz4 := (obj_at hm1).mono hsm1
          refine S.regionD (L := [0, 1, 2, 3, 4, 5, 6, 7, 8, 9, 10, 11, 12, 13]) FactDfirm.mixed (by kernel_rfl) ?_
          refine .quiet (.p rfl) rfl (fun _ => .mv rfl) ?_
          refine .quiet (.p rfl) rfl (fun _ => .eql rfl rfl) ?_
          refine .quiet (.p rfl) rfl (fun _ => .mv rfl) ?_
          refine .quiet (.p rfl) rfl (fun _ => .idxArrA (j := k) Go.Proofs.Tryd.underlying29 FactDfirm.size4 rfl rfl rfl hk) ?_
          refine .quiet (.p rfl) rfl (fun _ => .load FactDfirm.flat4 rfl (At.at hz6 (arr4_get _ hk))) ?_
          refine .quiet (.p rfl) rfl (fun _ => .neqB Go.Proofs.Tryd.underlying4 rfl rfl) ?_
          refine OD.slot 138 (v' := .bool false) rfl (congrArg Value.bool (by simp [syncE_has])) ?_
          refine .quiet (.p rfl) rfl (fun _ => .mv rfl) ?_
          refine .quiet (.g rfl rfl) rfl (fun _ => .mv rfl) ?_
          refine .quiet (.g rfl rfl) rfl (fun _ => .toStr Go.Proofs.Tryd.underlying31 Go.Proofs.Tryd.underlying5 Go.Proofs.Tryd.underlying9 rfl (by first | assumption | exact Arr.mono hg (by assumption) | exact Arr.left (by assumption) | exact Arr.left (Arr.mono hg (by assumption)))) ?_
          refine .quiet (.g rfl rfl) rfl (fun _ => .mv rfl) ?_
          refine .quiet (.g rfl rfl) rfl (fun _ => .idxArrA (j := k) Go.Proofs.Tryd.underlying27 FactDfirm.size9 rfl rfl rfl hk) ?_
          refine .quiet (.g rfl rfl) rfl (fun _ => .load FactDfirm.flat9 rfl (At.at hz4 (arr4_get _ hk))) ?_
          refine .quiet (.g rfl rfl) rfl (fun _ => .neqS rfl rfl) ?_
          refine OD.slot 145 (v' := .bool false) rfl (congrArg Value.bool (by simp)) ?_
          refine .quiet (.p rfl) rfl (fun _ => .pickF rfl rfl) ?_
          refine .nil ?_
          refine S.condF rfl ?_
          refine S.skip ?_
          refine th1 (th0 ?_)
          replace ha130 := ha130_S
          refine S.region rfl ?_
          refine O.op (.p rfl) (.mv rfl) ?_
          refine O.op (.p rfl) (.mv rfl) ?_
          refine O.op (.p rfl) (.len rfl Go.Proofs.Tryd.underlying31 rfl) ?_
          refine O.op (.p rfl) (.add rfl rfl (IntWalk.i64_in _ (by omega))) ?_
          refine O.op (.p rfl) (.as rfl) ?_
          refine O.nil ?_
          refine S.inBlock (S.region rfl ?_)
          refine O.op (.p rfl) (.mv rfl) ?_
          refine O.op (.p rfl) (.add rfl rfl (IntWalk.i64_in _ (by omega))) ?_
          refine O.op (.p rfl) (.as rfl) ?_
          refine O.nil ?_
          refine S.pk ?_ (S.melt hm2 (S.weaken ?_ (ih (k + 1) (by exact hk) (by omega))))
          · repeat (first | exact Picks.all | exact Picks.nil | (apply Picks.cons; focus (repeat (first | exact Sel.here | apply Sel.there))) | apply Picks.skip)
          repeat (first | exact Sub.nil | refine Sub.cons rfl ?_)
        · clear ih
          have hk4 : k = 4 := by omega
          subst hk4
          refine S.exit rfl ?_
          refine S.seq (S.region rfl ?_)
          refine O.op (.p rfl) (.mv rfl) ?_
          refine O.callSs (.p rfl) rfl FactDfirm.ok16 rfl rfl (by repeat (first | exact Sels.nil | (apply Sels.cons; focus (repeat (first | exact Sel.here | apply Sel.there))))) (used_g hat2 f2.di.ok) ?_
          rintro v152 _ ⟨rfl, rfl⟩
          try simp only [List.cons_append, List.nil_append, List.append_nil]
          refine O.op (.p rfl) (.mv rfl) ?_
          refine O.op (.p rfl) (.neq rfl rfl) ?_
          refine O.slot 154 (v' := .bool false) rfl (congrArg Value.bool (by have := f2.uu; simp; omega)) ?_
          refine O.nil ?_
          refine S.condF rfl ?_
          refine S.skip (S.inBlock (S.region rfl ?_))
          refine O.op (.p rfl) (.mv rfl) ?_
          refine O.op (.p rfl) (.add rfl rfl (IntWalk.i64_in _ (by omega))) ?_
          refine O.op (.p rfl) (.as rfl) ?_
          refine O.nil ?_
          refine S.pk ?_ (S.weaken ?_ (ih (i + 1) (m2) (by exact ⟨hi, f2⟩) (by omega)))
          · repeat (first | exact Picks.all | exact Picks.nil | (apply Picks.cons; focus (repeat (first | exact Sel.here | apply Sel.there))) | apply Picks.skip)
          repeat (first | exact Sub.nil | refine Sub.cons rfl ?_)
      · refine S.seq (S.region rfl ?_)
        refine O.op (.p rfl) (.eql rfl rfl) ?_
        refine O.op (.p rfl) (.as rfl) ?_
        refine O.nil ?_
        first | refine S.condD rfl (fun h79 => ?_) (fun h79 => ?_) | refine S.condB rfl (fun h79 => ?_) (fun h79 => ?_)
        · refine S.seq (S.region rfl ?_)
          refine O.op (.p rfl) (.mv rfl) ?_
          refine O.op (.p rfl) (.mv rfl) ?_
          refine O.op (.p rfl) (.mv rfl) ?_
          refine O.idx' (.p rfl) Go.Proofs.Tryd.underlying22 FactDfirm.size33 rfl rfl rfl (ha) (by decide) (by first | omega | (simp; done) | (simp; omega) | decide) (fun p84 cs84 hp84 hr84 => ?_)
          obtain ⟨a84, c84, rfl, hd84, hb184, hb284⟩ := DeedR.open hr84
          refine O.op (.p rfl) (.fieldAddr FactDfirm.fld33x1 rfl) ?_
          refine O.op (.p rfl) (.loadAt FactDfirm.flat3 rfl (hp84.drop 1) rfl) ?_
          refine O.callSs (.p rfl) rfl FactDfirm.ok13 rfl rfl (by repeat (first | exact Sels.nil | (apply Sels.cons; focus (repeat (first | exact Sel.here | apply Sel.there))))) (crash_g (keep := ds[i].2.1) hat' f.di.ok.w1 f.di.ok.w2 f.di.ok.sub f.di.ok.le) ?_
          rintro v87 _ ⟨s', c1', l', c2', hcr, rfl, rfl⟩
          try simp only [List.cons_append, List.nil_append, List.append_nil]
          refine O.nil ?_
          refine S.seq (S.region rfl ?_)
          refine O.op (.p rfl) (.as rfl) ?_
          refine O.nil ?_
          refine S.block ?_
          have f2 := f.crash hcr
          have eS := fun k => crash_safe f.di.ok hcr (lk k)
          have eB := fun k => crash_bytes hcr (lk k)
          have eI := fun k => crash_has hcr (lk k)
          obtain ⟨m2, hm2⟩ : ∃ x : DiskM, x = ⟨s', c1', l', c2', m.room⟩ := ⟨_, rfl⟩
          rw [← hm2] at f2
          simp only [← hm2] at eB eI
          rw [show s' = m2.safe from by rw [hm2]] at eS eB
          rw [show MapT q119 s' c1' = MapT q119 m2.safe m2.c1 from by rw [hm2], show MapT q219 l' c2' = MapT q219 m2.loose m2.c2 from by rw [hm2]]
          have hat2 : At g.h ⟨d19, 0, none⟩ (dC q119 q219 m2.room) := by rw [f2.di.room]; exact hat
          refine S.objIs (b := b4) (cs' := arr4 (mid 0 (fB m) (fB m2))) (by repeat (first | exact Sel.here | apply Sel.there)) (mid_zero _ _).symm ?_
          refine S.objIs (b := b5) (cs' := arr4 (mid 0 (fS m) (fS m2))) (by repeat (first | exact Sel.here | apply Sel.there)) (mid_zero _ _).symm ?_
          refine S.objIs (b := b6) (cs' := arr4 (fI m2)) (by repeat (first | exact Sel.here | apply Sel.there)) (arr4_congr fun k _ => by unfold fI; rw [eI]) ?_
          refine S.pk (ζ := [obj b4 27 (arr4 (mid 0 (fB m) (fB m2))), obj b5 28 (arr4 (mid 0 (fS m) (fS m2))), obj b6 29 (arr4 (fI m2)), MapT q119 m2.safe m2.c1, MapT q219 m2.loose m2.c2]) (by repeat (first | exact Picks.all | exact Picks.nil | (apply Picks.cons; focus (repeat (first | exact Sel.here | apply Sel.there))) | apply Picks.skip)) ?_
          refine S.loopK (ι := Nat) (fun k => k ≤ 4) (fun k => [(9, .int .i64 (k : Int))]) [(0, _), (3, _), (4, _), (5, _), (6, _), (7, _)] (fun k => [obj b4 27 (arr4 (mid k (fB m) (fB m2))), obj b5 28 (arr4 (mid k (fS m) (fS m2))), obj b6 29 (arr4 (fI m2)), MapT q119 m2.safe m2.c1, MapT q219 m2.loose m2.c2]) (fun k => 4 - k) (0) (by exact Nat.zero_le _) (.cons rfl (.nil)) (.cons rfl (.cons rfl (.cons rfl (.cons rfl (.cons rfl (.cons rfl (.nil))))))) rfl fun k hx ih => ?_
          have hm2 := meltRefl (g := g)
          refine S.seq (S.seq (S.region rfl ?_))
          refine O.op (.p rfl) (.mv rfl) ?_
          refine O.op (.p rfl) (.lss rfl rfl) ?_
          refine O.nil ?_
          first | refine S.condD rfl (fun h89 => ?_) (fun h89 => ?_) | refine S.condB rfl (fun h89 => ?_) (fun h89 => ?_)
          · have hk : k < 4 := by omega
            obtain ⟨e1, e2⟩ := crash_step (safe_le m (lk k)) (eS k) (eB k)
            have hsb := safe_le m (lk k)
            have hbl2 := read_len f.di.ok (lk k)
            rw [read_bytes f.di.ok] at hbl2
            refine S.skip (S.seq (S.block (S.seq ?_)))
            have ha_S := ha
            refine S.frzH (B := obj b4 27 (arr4 (mid k (fB m) (fB m2)))) (by repeat (first | exact Sel.here | apply Sel.there)) fun g0 hs0 ⟨m0, hm0, hsm0⟩ th0 => ?_
            replace ha := Arr.mono hs0 ha
            refine S.frzH (B := obj b5 28 (arr4 (mid k (fS m) (fS m2)))) (by repeat (first | exact Sel.here | apply Sel.there)) fun g1 hs1 ⟨m1, hm1, hsm1⟩ th1 => ?_
            replace ha := Arr.mono hs1 ha
            have hz4 := (obj_at hm0).mono (Fr.sub_trans hsm0 hs1)
            have hz5 := (obj_at hm1).mono hsm1
            refine S.regionD (L := [0, 1, 2, 3, 4, 5, 6, 7, 8, 9, 10, 11, 12, 13, 14, 15, 16, 17, 18, 19, 20, 21]) FactDfirm.mixed (by kernel_rfl) ?_
            refine .quiet (.p rfl) rfl (fun _ => .mv rfl) ?_
            refine .quiet (.p rfl) rfl (fun _ => .mv rfl) ?_
            refine .quiet (.p rfl) rfl (fun _ => .idxArrA (j := k) Go.Proofs.Tryd.underlying28 FactDfirm.size3 rfl rfl rfl hk) ?_
            refine .quiet (.p rfl) rfl (fun _ => .load FactDfirm.flat3 rfl (At.at hz5 (mid_get0 _ _ hk))) ?_
            refine .quiet (.p rfl) rfl (fun _ => .mv rfl) ?_
            refine .quiet (.p rfl) rfl (fun _ => .mv rfl) ?_
            refine OD.idx' (.p rfl) Go.Proofs.Tryd.underlying22 FactDfirm.size33 rfl rfl rfl (ha) (by decide) (by first | omega | (simp; done) | (simp; omega) | decide) (fun p98 cs98 hp98 hr98 => ?_)
            obtain ⟨a98, c98, rfl, hd98, hb198, hb298⟩ := DeedR.open hr98
            refine .quiet (.p rfl) rfl (fun _ => .fieldAddr FactDfirm.fld33x1 rfl) ?_
            refine .quiet (.p rfl) rfl (fun _ => .loadAt FactDfirm.flat3 rfl (hp98.drop 1) rfl) ?_
            refine .quiet (.p rfl) rfl (fun _ => .max2 rfl rfl) ?_
            refine OD.slot 101 (v' := .int .i64 (max ds[i].2.1 0)) rfl (by refine congrArg _ ?_; split <;> omega) ?_
            refine .quiet (.p rfl) rfl (fun _ => .mv rfl) ?_
            refine .quiet (.p rfl) rfl (fun _ => .idxArrA (j := k) Go.Proofs.Tryd.underlying27 FactDfirm.size9 rfl rfl rfl hk) ?_
            refine .quiet (.p rfl) rfl (fun _ => .load FactDfirm.flat9 rfl (At.at hz4 (mid_get0 _ _ hk))) ?_
            refine .quiet (.p rfl) rfl (fun _ => .lenS rfl Go.Proofs.Tryd.underlying9 rfl) ?_
            refine OD.slot 105 (v' := .int .i64 ((dBytes m (lk k)).length : Int)) rfl (by rw [str_size]) ?_
            refine .quiet (.p rfl) rfl (fun _ => .mv rfl) ?_
            refine .quiet (.p rfl) rfl (fun _ => .idxArrA (j := k) Go.Proofs.Tryd.underlying28 FactDfirm.size3 rfl rfl rfl hk) ?_
            refine .quiet (.p rfl) rfl (fun _ => .load FactDfirm.flat3 rfl (At.at hz5 (mid_get0 _ _ hk))) ?_
            refine .quiet (.p rfl) rfl (fun _ => .sub rfl rfl (IntWalk.i64_in _ (by omega))) ?_
            refine .quiet (.p rfl) rfl (fun _ => .min2 rfl rfl) ?_
            refine OD.slot 110 (v' := .int .i64 (min (max ds[i].2.1 0) (((dBytes m (lk k)).length : Int) - (((getT m.safe (lk k)).getD []).length : Int)))) rfl (by refine congrArg _ ?_; split <;> omega) ?_
            refine .quiet (.p rfl) rfl (fun _ => .add rfl rfl (IntWalk.i64_in _ (by omega))) ?_
            refine OD.slot 111 (v' := .int .i64 (((getT m2.safe (lk k)).getD []).length : Int)) rfl (by rw [e1]) ?_
            refine .quiet (.p rfl) rfl (fun _ => .idxArr (j := k) Go.Proofs.Tryd.underlying28 FactDfirm.size3 rfl rfl rfl hk) ?_
            refine OD.last1 rfl (by kernel_rfl) (fun _ hw => th0 (th1 hw)) FactDfirm.flat3 rfl rfl (by first | rfl | assumption) (by repeat (first | exact Sel.here | apply Sel.there)) (by first | (simp; done) | (simp; omega)) ?_
            replace ha := ha_S
            rw [Nat.zero_add, show (arr4 (mid k (fS m) (fS m2))).set k (.int .i64 (((getT m2.safe (lk k)).getD []).length : Int)) = arr4 (mid (k + 1) (fS m) (fS m2)) from mid_set (fS m) (fS m2) hk]
            refine S.frzH (B := obj b4 27 (arr4 (mid k (fB m) (fB m2)))) (by repeat (first | exact Sel.here | apply Sel.there)) fun g0 hs0 ⟨m0, hm0, hsm0⟩ th0 => ?_
            refine S.frzH (B := obj b5 28 (arr4 (mid (k + 1) (fS m) (fS m2)))) (by repeat (first | exact Sel.here | apply Sel.there)) fun g1 hs1 ⟨m1, hm1, hsm1⟩ th1 => ?_
            have hz4 := (obj_at hm0).mono (Fr.sub_trans hsm0 hs1)
            have hz5 := (obj_at hm1).mono hsm1
            refine S.regionD (L := [0, 1, 2, 3, 4, 5, 6, 7, 8, 9]) FactDfirm.mixed (by kernel_rfl) ?_
            refine .quiet (.p rfl) rfl (fun _ => .mv rfl) ?_
            refine .quiet (.p rfl) rfl (fun _ => .mv rfl) ?_
            refine .quiet (.p rfl) rfl (fun _ => .idxArrA (j := k) Go.Proofs.Tryd.underlying27 FactDfirm.size9 rfl rfl rfl hk) ?_
            refine .quiet (.p rfl) rfl (fun _ => .load FactDfirm.flat9 rfl (At.at hz4 (mid_get0 _ _ hk))) ?_
            refine .quiet (.p rfl) rfl (fun _ => .mv rfl) ?_
            refine .quiet (.p rfl) rfl (fun _ => .idxArrA (j := k) Go.Proofs.Tryd.underlying28 FactDfirm.size3 rfl rfl rfl hk) ?_
            refine .quiet (.p rfl) rfl (fun _ => .load FactDfirm.flat3 rfl (At.at hz5 (mid_get1 _ _ hk))) ?_
            refine .quiet (.p rfl) rfl (fun _ => Does.strTo (b := ((getT m2.safe (lk k)).getD []).length) Go.Proofs.Tryd.underlying9 rfl rfl (show _ = (((((getT m2.safe (lk k)).getD []).length) : Nat) : Int) by omega) (by first | omega | (simp; done) | (simp; omega) | decide)) ?_
            refine .quiet (.p rfl) rfl (fun _ => .idxArr (j := k) Go.Proofs.Tryd.underlying27 FactDfirm.size9 rfl rfl rfl hk) ?_
            refine OD.last1 rfl (by kernel_rfl) (fun _ hw => th0 (th1 hw)) FactDfirm.flat9 rfl rfl (by first | rfl | assumption) (by repeat (first | exact Sel.here | apply Sel.there)) (by first | (simp; done) | (simp; omega)) ?_
            rw [e2, Nat.zero_add, show (arr4 (mid k (fB m) (fB m2))).set k (.string (str (dBytes m2 (lk k)))) = arr4 (mid (k + 1) (fB m) (fB m2)) from mid_set (fB m) (fB m2) hk]
            refine S.inBlock (S.region rfl ?_)
            refine O.op (.p rfl) (.mv rfl) ?_
            refine O.op (.p rfl) (.add rfl rfl (IntWalk.i64_in _ (by omega))) ?_
            refine O.op (.p rfl) (.as rfl) ?_
            refine O.nil ?_
            refine S.pk ?_ (S.weaken ?_ (ih (k + 1) (by exact hk) (by omega)))
            · repeat (first | exact Picks.all | exact Picks.nil | (apply Picks.cons; focus (repeat (first | exact Sel.here | apply Sel.there))) | apply Picks.skip)
            repeat (first | exact Sub.nil | refine Sub.cons rfl ?_)
          · clear ih
            have hk : k = 4 := by omega
            subst hk
            rw [mid_four, mid_four]
            refine S.exit rfl ?_
            refine S.inBlock (S.seq (S.region rfl ?_))
            refine O.op (.p rfl) (.as rfl) ?_
            refine O.nil ?_
            refine S.seq (S.seq (S.region rfl ?_))
            refine O.op (.p rfl) (.as rfl) ?_
            refine O.nil ?_
            refine S.block ?_
            refine S.pk (ζ := [obj b4 27 (arr4 (fB m2)), obj b5 28 (arr4 (fS m2)), obj b6 29 (arr4 (fI m2)), MapT q119 m2.safe m2.c1, MapT q219 m2.loose m2.c2]) (by repeat (first | exact Picks.all | exact Picks.nil | (apply Picks.cons; focus (repeat (first | exact Sel.here | apply Sel.there))) | apply Picks.skip)) ?_
            refine S.loopK (ι := Nat) (fun k => k ≤ 4) (fun k => [(10, .int .i64 (fU m2 k : Int)), (11, .int .i64 (k : Int))]) [(0, _), (3, _), (4, _), (5, _), (6, _), (7, _)] (fun k => [obj b4 27 (arr4 (fB m2)), obj b5 28 (arr4 (fS m2)), obj b6 29 (arr4 (fI m2)), MapT q119 m2.safe m2.c1, MapT q219 m2.loose m2.c2]) (fun k => 4 - k) (0) (by exact Nat.zero_le _) (.cons rfl (.cons rfl (.nil))) (.cons rfl (.cons rfl (.cons rfl (.cons rfl (.cons rfl (.cons rfl (.nil))))))) rfl fun k hx ih => ?_
            have hm3 := meltRefl (g := g)
            refine S.seq (S.seq (S.region rfl ?_))
            refine O.op (.p rfl) (.mv rfl) ?_
            refine O.op (.p rfl) (.lss rfl rfl) ?_
            refine O.nil ?_
            first | refine S.condD rfl (fun h123 => ?_) (fun h123 => ?_) | refine S.condB rfl (fun h123 => ?_) (fun h123 => ?_)
            · have hk : k < 4 := by omega
              have hpk := pick4_id hk
              have hul := fU_le f2 (k := k) (by omega)
              have hbl := read_len f2.di.ok (lk k)
              rw [read_bytes f2.di.ok] at hbl
              refine S.skip (S.seq (S.block (S.seq (S.region rfl ?_))))
              refine O.op (.p rfl) (.mv rfl) ?_
              refine O.op (.p rfl) (.mv rfl) ?_
              refine O.call0 (.p rfl) rfl FactDfirm.ok12 rfl rfl (letter_c _) ?_
              rintro v129 _ ⟨rfl, rfl⟩
              try simp only [List.cons_append, List.nil_append, List.append_nil]
              rw [hpk, Int.toNat_natCast]
              refine O.callSs (.p rfl) rfl FactDfirm.ok15 rfl rfl (by repeat (first | exact Sels.nil | (apply Sels.cons; focus (repeat (first | exact Sel.here | apply Sel.there))))) (read_g (name := lk k) hat2 f2.di.ok) ?_
              rintro v130 _ ⟨a130, c130, rfl, rfl⟩
              try simp only [List.cons_append, List.nil_append, List.append_nil]
              simp only [read_bytes f2.di.ok]
              refine O.frzW Sel.here fun g hs hm ha130 => ?_
              replace hg := Fr.sub_trans hg hs
              replace hR := melted hR hm
              try replace ha := ha.mono hs
              try replace hat := hat.mono hs
              try replace hat' := hat'.mono hs
              try replace hp28 := hp28.mono hs
              try replace hp34 := hp34.mono hs
              try replace hp84 := hp84.mono hs
              try replace hat2 := hat2.mono hs
              replace hm1 := meltTrans hm1 hm
              replace hm2 := meltTrans hm2 hm
              replace hm3 := meltTrans hm3 hm
              clear hs hm
              refine O.op (.p rfl) (.mv rfl) ?_
              refine O.op (.p rfl) (.extract rfl rfl) ?_
              refine O.op (.p rfl) (.extract rfl rfl) ?_
              refine O.op (.p rfl) (.as rfl) ?_
              refine O.op (.p rfl) (.as rfl) ?_
              refine O.nil ?_
              refine S.seq (S.seq ?_)
              have ha130_S := ha130
              refine S.frzT (B := obj b6 29 (arr4 (fI m2))) (by repeat (first | exact Sel.here | apply Sel.there)) fun g0 hs0 ⟨m0, hm0, hsm0⟩ th0 => ?_
              replace ha130 := Arr.mono hs0 ha130
              refine S.frzT (B := obj b4 27 (arr4 (fB m2))) (by repeat (first | exact Sel.here | apply Sel.there)) fun g1 hs1 ⟨m1, hm1, hsm1⟩ th1 => ?_
              replace ha130 := Arr.mono hs1 ha130
              have hz6 := (obj_at hm0).mono (Fr.sub_trans hsm0 hs1)
              have hz4 := (obj_at hm1).mono hsm1
              refine S.regionD (L := [0, 1, 2, 3, 4, 5, 6, 7, 8, 9, 10, 11, 12, 13]) FactDfirm.mixed (by kernel_rfl) ?_
              refine .quiet (.p rfl) rfl (fun _ => .mv rfl) ?_
              refine .quiet (.p rfl) rfl (fun _ => .eql rfl rfl) ?_
              refine .quiet (.p rfl) rfl (fun _ => .mv rfl) ?_
              refine .quiet (.p rfl) rfl (fun _ => .idxArrA (j := k) Go.Proofs.Tryd.underlying29 FactDfirm.size4 rfl rfl rfl hk) ?_
              refine .quiet (.p rfl) rfl (fun _ => .load FactDfirm.flat4 rfl (At.at hz6 (arr4_get _ hk))) ?_
              refine .quiet (.p rfl) rfl (fun _ => .neqB Go.Proofs.Tryd.underlying4 rfl rfl) ?_
              refine OD.slot 138 (v' := .bool false) rfl (congrArg Value.bool (by simp [syncE_has])) ?_
              refine .quiet (.p rfl) rfl (fun _ => .mv rfl) ?_
              refine .quiet (.g rfl rfl) rfl (fun _ => .mv rfl) ?_
              refine .quiet (.g rfl rfl) rfl (fun _ => .toStr Go.Proofs.Tryd.underlying31 Go.Proofs.Tryd.underlying5 Go.Proofs.Tryd.underlying9 rfl (by first | assumption | exact Arr.mono hg (by assumption) | exact Arr.left (by assumption) | exact Arr.left (Arr.mono hg (by assumption)))) ?_
              refine .quiet (.g rfl rfl) rfl (fun _ => .mv rfl) ?_
              refine .quiet (.g rfl rfl) rfl (fun _ => .idxArrA (j := k) Go.Proofs.Tryd.underlying27 FactDfirm.size9 rfl rfl rfl hk) ?_
              refine .quiet (.g rfl rfl) rfl (fun _ => .load FactDfirm.flat9 rfl (At.at hz4 (arr4_get _ hk))) ?_
              refine .quiet (.g rfl rfl) rfl (fun _ => .neqS rfl rfl) ?_
              refine OD.slot 145 (v' := .bool false) rfl (congrArg Value.bool (by simp)) ?_
              refine .quiet (.p rfl) rfl (fun _ => .pickF rfl rfl) ?_
              refine .nil ?_
              refine S.condF rfl ?_
              refine S.skip ?_
              refine th1 (th0 ?_)
              replace ha130 := ha130_S
              refine S.region rfl ?_
              refine O.op (.p rfl) (.mv rfl) ?_
              refine O.op (.p rfl) (.mv rfl) ?_
              refine O.op (.p rfl) (.len rfl Go.Proofs.Tryd.underlying31 rfl) ?_
              refine O.op (.p rfl) (.add rfl rfl (IntWalk.i64_in _ (by omega))) ?_
              refine O.op (.p rfl) (.as rfl) ?_
              refine O.nil ?_
              refine S.inBlock (S.region rfl ?_)
              refine O.op (.p rfl) (.mv rfl) ?_
              refine O.op (.p rfl) (.add rfl rfl (IntWalk.i64_in _ (by omega))) ?_
              refine O.op (.p rfl) (.as rfl) ?_
              refine O.nil ?_
              refine S.pk ?_ (S.melt hm3 (S.weaken ?_ (ih (k + 1) (by exact hk) (by omega))))
              · repeat (first | exact Picks.all | exact Picks.nil | (apply Picks.cons; focus (repeat (first | exact Sel.here | apply Sel.there))) | apply Picks.skip)
              repeat (first | exact Sub.nil | refine Sub.cons rfl ?_)
            · clear ih
              have hk4 : k = 4 := by omega
              subst hk4
              refine S.exit rfl ?_
              refine S.seq (S.region rfl ?_)
              refine O.op (.p rfl) (.mv rfl) ?_
              refine O.callSs (.p rfl) rfl FactDfirm.ok16 rfl rfl (by repeat (first | exact Sels.nil | (apply Sels.cons; focus (repeat (first | exact Sel.here | apply Sel.there))))) (used_g hat2 f2.di.ok) ?_
              rintro v152 _ ⟨rfl, rfl⟩
              try simp only [List.cons_append, List.nil_append, List.append_nil]
              refine O.op (.p rfl) (.mv rfl) ?_
              refine O.op (.p rfl) (.neq rfl rfl) ?_
              refine O.slot 154 (v' := .bool false) rfl (congrArg Value.bool (by have := f2.uu; simp; omega)) ?_
              refine O.nil ?_
              refine S.condF rfl ?_
              refine S.skip (S.inBlock (S.region rfl ?_))
              refine O.op (.p rfl) (.mv rfl) ?_
              refine O.op (.p rfl) (.add rfl rfl (IntWalk.i64_in _ (by omega))) ?_
              refine O.op (.p rfl) (.as rfl) ?_
              refine O.nil ?_
              refine S.pk ?_ (S.weaken ?_ (ih (i + 1) (m2) (by exact ⟨hi, f2⟩) (by omega)))
              · repeat (first | exact Picks.all | exact Picks.nil | (apply Picks.cons; focus (repeat (first | exact Sel.here | apply Sel.there))) | apply Picks.skip)
              repeat (first | exact Sub.nil | refine Sub.cons rfl ?_)
        · have hz1 := str_size (dBytes m (lk n))
          have hz2 := str_size ds[i].2.2.2.2.1
          have hae := f.appE (by omega) hn4 hl1
          refine S.seq (S.seq (S.regionD (L := [0, 1, 3, 4, 5, 6, 7, 2, 8, 9]) FactDfirm.mixed (by kernel_rfl) ?_))
          refine .quiet (.p rfl) rfl (fun _ => .mv rfl) ?_
          refine .quiet (.p rfl) rfl (fun _ => .mv rfl) ?_
          refine .quiet (.p rfl) rfl (fun _ => .mv rfl) ?_
          refine .quiet (.p rfl) rfl (fun _ => .mv rfl) ?_
          refine OD.idx' (.p rfl) Go.Proofs.Tryd.underlying22 FactDfirm.size33 rfl rfl rfl (ha) (by decide) (by first | omega | (simp; done) | (simp; omega) | decide) (fun p43 cs43 hp43 hr43 => ?_)
          obtain ⟨a43, c43, rfl, hd43, hb143, hb243⟩ := DeedR.open hr43
          refine .quiet (.p rfl) rfl (fun _ => .fieldAddr FactDfirm.fld33x4 rfl) ?_
          refine .quiet (.p rfl) rfl (fun _ => .loadAt FactDfirm.flat31 rfl (hp43.drop 4) rfl) ?_
          refine OD.call0 (.p rfl) (by kernel_rfl) rfl FactDfirm.ok12 rfl rfl (letter_c _) ?_
          rintro v40 _ ⟨rfl, rfl⟩
          try simp only [List.cons_append, List.nil_append, List.append_nil]
          rw [hpn, Int.toNat_natCast]
          refine OD.callSs (.p rfl) (by kernel_rfl) rfl FactDfirm.ok14 rfl rfl (by repeat (first | exact Sels.nil | (apply Sels.cons; focus (repeat (first | exact Sel.here | apply Sel.there))))) (append_g (name := lk n) hat' f.di.ok hd43 (by unfold lk; simp) (by omega)) ?_
          rintro v46 _ ⟨rfl, rfl⟩
          try simp only [List.cons_append, List.nil_append, List.append_nil]
          rw [hae]
          refine .quiet (.p rfl) rfl (fun _ => .neq rfl rfl) ?_
          refine OD.slot 47 (v' := .bool false) rfl (congrArg Value.bool (by rfl)) ?_
          refine .nil ?_
          refine S.condF rfl ?_
          refine S.skip (S.seq (S.region rfl ?_))
          refine O.op (.p rfl) (.mv rfl) ?_
          refine O.op (.p rfl) (.idxArr (j := n) Go.Proofs.Tryd.underlying29 FactDfirm.size4 rfl rfl rfl hn4) ?_
          refine O.opU rfl (.store1 FactDfirm.flat4 rfl rfl rfl (by repeat (first | exact Sel.here | apply Sel.there)) (by simp; omega)) ?_
          refine O.nil ?_
          rw [Nat.zero_add, app_I hn4 hae]
          have ha_S := ha
          refine S.frzH (B := obj b4 27 (arr4 (fB m))) (by repeat (first | exact Sel.here | apply Sel.there)) fun g0 hs0 ⟨m0, hm0, hsm0⟩ th0 => ?_
          replace ha := Arr.mono hs0 ha
          have hz4 := (obj_at hm0).mono hsm0
          refine S.regionD (L := [0, 1, 2, 3, 4, 5, 6, 7, 8, 9, 10, 11, 12]) FactDfirm.mixed (by kernel_rfl) ?_
          refine .quiet (.p rfl) rfl (fun _ => .mv rfl) ?_
          refine .quiet (.p rfl) rfl (fun _ => .mv rfl) ?_
          refine .quiet (.p rfl) rfl (fun _ => .idxArrA (j := n) Go.Proofs.Tryd.underlying27 FactDfirm.size9 rfl rfl rfl hn4) ?_
          refine .quiet (.p rfl) rfl (fun _ => .load FactDfirm.flat9 rfl (At.at hz4 (arr4_get _ hn4))) ?_
          refine .quiet (.p rfl) rfl (fun _ => .mv rfl) ?_
          refine .quiet (.p rfl) rfl (fun _ => .mv rfl) ?_
          refine OD.idx' (.p rfl) Go.Proofs.Tryd.underlying22 FactDfirm.size33 rfl rfl rfl (ha) (by decide) (by first | omega | (simp; done) | (simp; omega) | decide) (fun p56 cs56 hp56 hr56 => ?_)
          obtain ⟨a56, c56, rfl, hd56, hb156, hb256⟩ := DeedR.open hr56
          refine .quiet (.p rfl) rfl (fun _ => .fieldAddr FactDfirm.fld33x4 rfl) ?_
          refine .quiet (.p rfl) rfl (fun _ => .loadAt FactDfirm.flat31 rfl (hp56.drop 4) rfl) ?_
          refine .quiet (.p rfl) rfl (fun _ => .toStr Go.Proofs.Tryd.underlying31 Go.Proofs.Tryd.underlying5 Go.Proofs.Tryd.underlying9 rfl (by first | assumption | exact Arr.mono hg (by assumption) | exact Arr.left (by assumption) | exact Arr.left (Arr.mono hg (by assumption)))) ?_
          refine .quiet (.p rfl) rfl (fun _ => .addS rfl rfl (by omega)) ?_
          refine OD.slot 60 (v' := .string (str (dBytes m (lk n) ++ ds[i].2.2.2.2.1))) rfl (by rw [str_app]) ?_
          refine .quiet (.p rfl) rfl (fun _ => .idxArr (j := n) Go.Proofs.Tryd.underlying27 FactDfirm.size9 rfl rfl rfl hn4) ?_
          refine OD.last1 rfl (by kernel_rfl) (fun _ hw => th0 hw) FactDfirm.flat9 rfl rfl (by first | rfl | assumption) (by repeat (first | exact Sel.here | apply Sel.there)) (by first | (simp; done) | (simp; omega)) ?_
          replace ha := ha_S
          rw [Nat.zero_add, app_B hn4 hae, ← app_S hae]
          refine S.inBlock (S.seq (S.region rfl ?_))
          refine O.op (.p rfl) (.as rfl) ?_
          refine O.nil ?_
          refine S.seq (S.seq (S.region rfl ?_))
          refine O.op (.p rfl) (.as rfl) ?_
          refine O.nil ?_
          refine S.block ?_
          have f2 := f.app (by omega) hn4 hl1
          obtain ⟨m2, hm2⟩ : ∃ x : DiskM, x = dAppM m (lk n) ds[i].2.2.2.2.1 := ⟨_, rfl⟩
          rw [← hm2] at f2 ⊢
          have hat2 : At g.h ⟨d19, 0, none⟩ (dC q119 q219 m2.room) := by rw [f2.di.room]; exact hat
          refine S.pk (ζ := [obj b4 27 (arr4 (fB m2)), obj b5 28 (arr4 (fS m2)), obj b6 29 (arr4 (fI m2)), MapT q119 m2.safe m2.c1, MapT q219 m2.loose m2.c2]) (by repeat (first | exact Picks.all | exact Picks.nil | (apply Picks.cons; focus (repeat (first | exact Sel.here | apply Sel.there))) | apply Picks.skip)) ?_
          refine S.loopK (ι := Nat) (fun k => k ≤ 4) (fun k => [(10, .int .i64 (fU m2 k : Int)), (11, .int .i64 (k : Int))]) [(0, _), (3, _), (4, _), (5, _), (6, _), (7, _)] (fun k => [obj b4 27 (arr4 (fB m2)), obj b5 28 (arr4 (fS m2)), obj b6 29 (arr4 (fI m2)), MapT q119 m2.safe m2.c1, MapT q219 m2.loose m2.c2]) (fun k => 4 - k) (0) (by exact Nat.zero_le _) (.cons rfl (.cons rfl (.nil))) (.cons rfl (.cons rfl (.cons rfl (.cons rfl (.cons rfl (.cons rfl (.nil))))))) rfl fun k hx ih => ?_
          have hm2 := meltRefl (g := g)
          refine S.seq (S.seq (S.region rfl ?_))
          refine O.op (.p rfl) (.mv rfl) ?_
          refine O.op (.p rfl) (.lss rfl rfl) ?_
          refine O.nil ?_
          first | refine S.condD rfl (fun h123 => ?_) (fun h123 => ?_) | refine S.condB rfl (fun h123 => ?_) (fun h123 => ?_)
          · have hk : k < 4 := by omega
            have hpk := pick4_id hk
            have hul := fU_le f2 (k := k) (by omega)
            have hbl := read_len f2.di.ok (lk k)
            rw [read_bytes f2.di.ok] at hbl
            refine S.skip (S.seq (S.block (S.seq (S.region rfl ?_))))
            refine O.op (.p rfl) (.mv rfl) ?_
            refine O.op (.p rfl) (.mv rfl) ?_
            refine O.call0 (.p rfl) rfl FactDfirm.ok12 rfl rfl (letter_c _) ?_
            rintro v129 _ ⟨rfl, rfl⟩
            try simp only [List.cons_append, List.nil_append, List.append_nil]
            rw [hpk, Int.toNat_natCast]
            refine O.callSs (.p rfl) rfl FactDfirm.ok15 rfl rfl (by repeat (first | exact Sels.nil | (apply Sels.cons; focus (repeat (first | exact Sel.here | apply Sel.there))))) (read_g (name := lk k) hat2 f2.di.ok) ?_
            rintro v130 _ ⟨a130, c130, rfl, rfl⟩
            try simp only [List.cons_append, List.nil_append, List.append_nil]
            simp only [read_bytes f2.di.ok]
            refine O.frzW Sel.here fun g hs hm ha130 => ?_
            replace hg := Fr.sub_trans hg hs
            replace hR := melted hR hm
            try replace ha := ha.mono hs
            try replace hat := hat.mono hs
            try replace hat' := hat'.mono hs
            try replace hp28 := hp28.mono hs
            try replace hp34 := hp34.mono hs
            try replace hp43 := hp43.mono hs
            try replace hp56 := hp56.mono hs
            try replace hat2 := hat2.mono hs
            replace hm1 := meltTrans hm1 hm
            replace hm2 := meltTrans hm2 hm
            clear hs hm
            refine O.op (.p rfl) (.mv rfl) ?_
            refine O.op (.p rfl) (.extract rfl rfl) ?_
            refine O.op (.p rfl) (.extract rfl rfl) ?_
            refine O.op (.p rfl) (.as rfl) ?_
            refine O.op (.p rfl) (.as rfl) ?_
            refine O.nil ?_
            refine S.seq (S.seq ?_)
            have ha130_S := ha130
            refine S.frzT (B := obj b6 29 (arr4 (fI m2))) (by repeat (first | exact Sel.here | apply Sel.there)) fun g0 hs0 ⟨m0, hm0, hsm0⟩ th0 => ?_
            replace ha130 := Arr.mono hs0 ha130
            refine S.frzT (B := obj b4 27 (arr4 (fB m2))) (by repeat (first | exact Sel.here | apply Sel.there)) fun g1 hs1 ⟨m1, hm1, hsm1⟩ th1 => ?_
            replace ha130 := Arr.mono hs1 ha130
            have hz6 := (obj_at hm0).mono (Fr.sub_trans hsm0 hs1)
            have hz4 := (obj_at hm1).mono hsm1
            refine S.regionD (L := [0, 1, 2, 3, 4, 5, 6, 7, 8, 9, 10, 11, 12, 13]) FactDfirm.mixed (by kernel_rfl) ?_
            refine .quiet (.p rfl) rfl (fun _ => .mv rfl) ?_
            refine .quiet (.p rfl) rfl (fun _ => .eql rfl rfl) ?_
            refine .quiet (.p rfl) rfl (fun _ => .mv rfl) ?_
            refine .quiet (.p rfl) rfl (fun _ => .idxArrA (j := k) Go.Proofs.Tryd.underlying29 FactDfirm.size4 rfl rfl rfl hk) ?_
            refine .quiet (.p rfl) rfl (fun _ => .load FactDfirm.flat4 rfl (At.at hz6 (arr4_get _ hk))) ?_
            refine .quiet (.p rfl) rfl (fun _ => .neqB Go.Proofs.Tryd.underlying4 rfl rfl) ?_
            refine OD.slot 138 (v' := .bool false) rfl (congrArg Value.bool (by simp [syncE_has])) ?_
            refine .quiet (.p rfl) rfl (fun _ => .mv rfl) ?_
            refine .quiet (.g rfl rfl) rfl (fun _ => .mv rfl) ?_
            refine .quiet (.g rfl rfl) rfl (fun _ => .toStr Go.Proofs.Tryd.underlying31 Go.Proofs.Tryd.underlying5 Go.Proofs.Tryd.underlying9 rfl (by first | assumption | exact Arr.mono hg (by assumption) | exact Arr.left (by assumption) | exact Arr.left (Arr.mono hg (by assumption)))) ?_
            refine .quiet (.g rfl rfl) rfl (fun _ => .mv rfl) ?_
            refine .quiet (.g rfl rfl) rfl (fun _ => .idxArrA (j := k) Go.Proofs.Tryd.underlying27 FactDfirm.size9 rfl rfl rfl hk) ?_
            refine .quiet (.g rfl rfl) rfl (fun _ => .load FactDfirm.flat9 rfl (At.at hz4 (arr4_get _ hk))) ?_
            refine .quiet (.g rfl rfl) rfl (fun _ => .neqS rfl rfl) ?_
            refine OD.slot 145 (v' := .bool false) rfl (congrArg Value.bool (by simp)) ?_
            refine .quiet (.p rfl) rfl (fun _ => .pickF rfl rfl) ?_
            refine .nil ?_
            refine S.condF rfl ?_
            refine S.skip ?_
            refine th1 (th0 ?_)
            replace ha130 := ha130_S
            refine S.region rfl ?_
            refine O.op (.p rfl) (.mv rfl) ?_
            refine O.op (.p rfl) (.mv rfl) ?_
            refine O.op (.p rfl) (.len rfl Go.Proofs.Tryd.underlying31 rfl) ?_
            refine O.op (.p rfl) (.add rfl rfl (IntWalk.i64_in _ (by omega))) ?_
            refine O.op (.p rfl) (.as rfl) ?_
            refine O.nil ?_
            refine S.inBlock (S.region rfl ?_)
            refine O.op (.p rfl) (.mv rfl) ?_
            refine O.op (.p rfl) (.add rfl rfl (IntWalk.i64_in _ (by omega))) ?_
            refine O.op (.p rfl) (.as rfl) ?_
            refine O.nil ?_
            refine S.pk ?_ (S.melt hm2 (S.weaken ?_ (ih (k + 1) (by exact hk) (by omega))))
            · repeat (first | exact Picks.all | exact Picks.nil | (apply Picks.cons; focus (repeat (first | exact Sel.here | apply Sel.there))) | apply Picks.skip)
            repeat (first | exact Sub.nil | refine Sub.cons rfl ?_)
          · clear ih
            have hk4 : k = 4 := by omega
            subst hk4
            refine S.exit rfl ?_
            refine S.seq (S.region rfl ?_)
            refine O.op (.p rfl) (.mv rfl) ?_
            refine O.callSs (.p rfl) rfl FactDfirm.ok16 rfl rfl (by repeat (first | exact Sels.nil | (apply Sels.cons; focus (repeat (first | exact Sel.here | apply Sel.there))))) (used_g hat2 f2.di.ok) ?_
            rintro v152 _ ⟨rfl, rfl⟩
            try simp only [List.cons_append, List.nil_append, List.append_nil]
            refine O.op (.p rfl) (.mv rfl) ?_
            refine O.op (.p rfl) (.neq rfl rfl) ?_
            refine O.slot 154 (v' := .bool false) rfl (congrArg Value.bool (by have := f2.uu; simp; omega)) ?_
            refine O.nil ?_
            refine S.condF rfl ?_
            refine S.skip (S.inBlock (S.region rfl ?_))
            refine O.op (.p rfl) (.mv rfl) ?_
            refine O.op (.p rfl) (.add rfl rfl (IntWalk.i64_in _ (by omega))) ?_
            refine O.op (.p rfl) (.as rfl) ?_
            refine O.nil ?_
            refine S.pk ?_ (S.weaken ?_ (ih (i + 1) (m2) (by exact ⟨hi, f2⟩) (by omega)))
            · repeat (first | exact Picks.all | exact Picks.nil | (apply Picks.cons; focus (repeat (first | exact Sel.here | apply Sel.there))) | apply Picks.skip)
            repeat (first | exact Sub.nil | refine Sub.cons rfl ?_)
    · clear ih
      refine S.exit rfl ?_
      refine S.seq (S.region rfl ?_)
      refine O.op (.p rfl) (.as rfl) ?_
      refine O.nil ?_
      refine S.ret Go.Proofs.Tryd.results3 rfl fun w hw => Holds.end_ hR hw ?_
      exact ⟨_, ⟨rfl, rfl⟩, by repeat (first | exact Picks.all | exact Picks.nil | (apply Picks.cons; focus (repeat (first | exact Sel.here | apply Sel.there))) | apply Picks.skip)⟩

end Go.Proofs.YtkkcpckgnfcncaaDoor
