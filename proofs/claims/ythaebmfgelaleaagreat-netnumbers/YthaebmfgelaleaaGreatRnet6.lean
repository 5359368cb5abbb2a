import Derived.Test.YthaebmfgelaleaaGreatRnet5
import Derived.Test.YthaebmfgelaleaaGreatNet12
open Go Go.Sp
set_option maxRecDepth 100000
attribute [local irreducible] obj Own OwnP
namespace Go.Proofs.YthaebmfgelaleaaGreat
theorem FactRnet6.elem29 : elemIs Go.Proofs.Tryz.prog 29 1 24 [.slice none 0 0] := elemIs.mk (by kernel_rfl) rfl
theorem FactRnet6.elem35 : elemIs Go.Proofs.Tryz.prog 35 3 40 [.int .i64 0, .int .i64 0, .slice none 0 0] := elemIs.mk (by kernel_rfl) rfl
theorem FactRnet6.flat29 : Go.Sp.flat1 Go.Proofs.Tryz.prog 29 = true := by kernel_rfl
theorem FactRnet6.flat3 : Go.Sp.flat1 Go.Proofs.Tryz.prog 3 = true := by kernel_rfl
theorem FactRnet6.fld31x0 : fieldOff Go.Proofs.Tryz.prog 31 0 = some 0 := by kernel_rfl
theorem FactRnet6.fld31x1 : fieldOff Go.Proofs.Tryz.prog 31 1 = some 1 := by kernel_rfl
theorem FactRnet6.fld31x2 : fieldOff Go.Proofs.Tryz.prog 31 2 = some 2 := by kernel_rfl
theorem FactRnet6.fld31x3 : fieldOff Go.Proofs.Tryz.prog 31 3 = some 3 := by kernel_rfl
theorem FactRnet6.fld31x4 : fieldOff Go.Proofs.Tryz.prog 31 4 = some 4 := by kernel_rfl
theorem FactRnet6.mixed : Go.Proofs.Tryz.prog.follows .mixedOrders = true := by kernel_rfl
theorem FactRnet6.ok10 : callable Go.Proofs.Tryz.prog 10 = true := by kernel_rfl
theorem FactRnet6.ok11 : callable Go.Proofs.Tryz.prog 11 = true := by kernel_rfl
theorem FactRnet6.ok12 : callable Go.Proofs.Tryz.prog 12 = true := by kernel_rfl
theorem FactRnet6.ok13 : callable Go.Proofs.Tryz.prog 13 = true := by kernel_rfl
theorem FactRnet6.ok14 : callable Go.Proofs.Tryz.prog 14 = true := by kernel_rfl
theorem FactRnet6.ok15 : callable Go.Proofs.Tryz.prog 15 = true := by kernel_rfl
theorem FactRnet6.ok16 : callable Go.Proofs.Tryz.prog 16 = true := by kernel_rfl
theorem FactRnet6.ok17 : callable Go.Proofs.Tryz.prog 17 = true := by kernel_rfl
theorem FactRnet6.ok18 : callable Go.Proofs.Tryz.prog 18 = true := by kernel_rfl
theorem FactRnet6.ok19 : callable Go.Proofs.Tryz.prog 19 = true := by kernel_rfl
theorem FactRnet6.ok20 : callable Go.Proofs.Tryz.prog 20 = true := by kernel_rfl
theorem FactRnet6.ok21 : callable Go.Proofs.Tryz.prog 21 = true := by kernel_rfl
theorem FactRnet6.ok22 : callable Go.Proofs.Tryz.prog 22 = true := by kernel_rfl
theorem FactRnet6.ok23 : callable Go.Proofs.Tryz.prog 23 = true := by kernel_rfl
theorem FactRnet6.ok24 : callable Go.Proofs.Tryz.prog 24 = true := by kernel_rfl
theorem FactRnet6.ok25 : callable Go.Proofs.Tryz.prog 25 = true := by kernel_rfl
theorem FactRnet6.ok5 : callable Go.Proofs.Tryz.prog 5 = true := by kernel_rfl
theorem FactRnet6.ok6 : callable Go.Proofs.Tryz.prog 6 = true := by kernel_rfl
theorem FactRnet6.ok7 : callable Go.Proofs.Tryz.prog 7 = true := by kernel_rfl
theorem FactRnet6.ok8 : callable Go.Proofs.Tryz.prog 8 = true := by kernel_rfl
theorem FactRnet6.ok9 : callable Go.Proofs.Tryz.prog 9 = true := by kernel_rfl
theorem FactRnet6.size31 : (Go.Proofs.Tryz.prog.info? 31).map (·.size) = some 5 := by kernel_rfl

theorem zero64 : InI64 0 := by constructor <;> decide
abbrev ToldW (a : Option Addr) (c : Nat) (ps : List Pkt) : SProp := ListP pktG 35 (.slice a ps.length c) ps
theorem netLives_c {r : Fr} {va : Value} {l : List DoT} (ha : Arr DoRp r va l) (hs : ShortD l) :
    Con Go.Proofs.Tryz.prog 3 #[va] r [] (Ret fun v η => v = .bool true ∧ η = []) := by
  refine Con.of (n := 134) [va] rfl Go.Proofs.Tryz.func3 rfl rfl rfl fun g hg R hR => ?_
  have ha := ha.mono hg
  obtain ⟨a1, c1, rfl⟩ := ha.shape
  refine S.seq (S.region rfl ?_)
  refine O.op (.p rfl) (.as rfl) ?_
  refine O.nil ?_
  refine S.seq (S.seq (S.region rfl ?_))
  refine O.op (.p rfl) (.mv rfl) ?_
  refine O.call0 (.p rfl) rfl FactRnet6.ok5 rfl rfl ((great_c ha hs)) ?_
  rintro v14 _ ⟨b14, rfl, hb14, rfl⟩
  try simp only [List.cons_append, List.nil_append, List.append_nil]
  refine O.nil ?_
  first | refine S.condD rfl (fun h14 => ?_) (fun h14 => ?_) | refine S.condB rfl (fun h14 => ?_) (fun h14 => ?_)
  · refine S.seq (S.region rfl ?_)
    refine O.call0 (.p rfl) rfl FactRnet6.ok6 rfl rfl (awake_c) ?_
    rintro v15 _ ⟨rfl, rfl⟩
    try simp only [List.cons_append, List.nil_append, List.append_nil]
    refine O.op (.p rfl) (.as rfl) ?_
    refine O.nil ?_
    refine S.ret Go.Proofs.Tryz.results3 rfl fun w hw => Holds.end_ hR hw ?_
    exact ⟨_, ⟨rfl, rfl⟩, by repeat (first | exact Picks.all | exact Picks.nil | (apply Picks.cons; focus (repeat (first | exact Sel.here | apply Sel.there))) | apply Picks.skip)⟩
  · have hsm : SmallD l := hb14 (by simpa using h14)
    have hll : l.length ≤ 400 := by unfold SmallD at hsm; omega
    refine S.skip (S.seq (S.region rfl ?_))
    refine O.call0 (.p rfl) rfl FactRnet6.ok7 rfl rfl ((nnew_c)) ?_
    rintro v16 _ ⟨d16, b16, rfl, rfl⟩
    try simp only [List.cons_append, List.nil_append, List.append_nil]
    refine O.frzO (by repeat (first | exact Sel.here | apply Sel.there)) fun g hs hm hat => ?_
    replace hg := Fr.sub_trans hg hs
    replace hR := melted hR hm
    try replace ha := ha.mono hs
    clear hs hm
    refine O.call0 (.p rfl) rfl FactRnet6.ok8 rfl rfl ((rnew_c)) ?_
    rintro v17 _ ⟨d17, rfl, rfl⟩
    try simp only [List.cons_append, List.nil_append, List.append_nil]
    refine O.op (.p rfl) (.as rfl) ?_
    refine O.op (.p rfl) (.as rfl) ?_
    refine O.nil ?_
    refine S.seq (S.region rfl ?_)
    refine O.op (.p rfl) (.as rfl) ?_
    refine O.nil ?_
    refine S.seq (S.seq (S.region rfl ?_))
    refine O.op (.p rfl) (.as rfl) ?_
    refine O.nil ?_
    refine S.block ?_
    refine S.listNil pktG 35 ?_
    refine S.pk (ζ := [ToldW none 0 [], linksW b16 [], refW d17 []]) (by repeat (first | exact Picks.all | exact Picks.nil | (apply Picks.cons; focus (repeat (first | exact Sel.here | apply Sel.there))) | apply Picks.skip)) ?_
    refine S.loopK4 (ι := Nat) (κ := NetM) (υ := List Pkt × List Pkt) (τ := Option Addr × Nat) (fun i ls rt s => i ≤ l.length ∧ LiveI l i ls rt.1 rt.2) (fun i ls rt s => [(6, .int .i64 (i : Int)), (5, .slice s.1 rt.2.length s.2)]) [(0, _), (3, _), (4, _)] (fun i ls rt s => [ToldW s.1 s.2 rt.2, linksW b16 ls, refW d17 rt.1]) (fun i ls rt s => l.length - i) (0) ([]) (([], [])) ((none, 0)) (by exact ⟨Nat.zero_le _, LiveI.nil l⟩) (.cons rfl (.cons rfl (.nil))) (.cons rfl (.cons rfl (.cons rfl (.nil)))) rfl fun i ls rt s hx ih => ?_
    have hm1 := meltRefl (g := g)
    obtain ⟨hx1, hx2⟩ := hx
    obtain ⟨row, told⟩ := rt
    simp only at hx2 ⊢
    obtain ⟨hsz1, hsz2, hsz3, hsz4⟩ := hx2.small hx1 hsm
    refine S.seq (S.seq (S.region rfl ?_))
    refine O.op (.p rfl) (.mv rfl) ?_
    refine O.op (.p rfl) (.mv rfl) ?_
    refine O.op (.p rfl) (.len rfl Go.Proofs.Tryz.underlying22 rfl) ?_
    refine O.op (.p rfl) (.lss rfl rfl) ?_
    refine O.nil ?_
    first | refine S.condD rfl (fun h21 => ?_) (fun h21 => ?_) | refine S.condB rfl (fun h21 => ?_) (fun h21 => ?_)
    · have hi : i < l.length := by omega
      have hLl := hsm.len (List.getElem_mem hi)
      have hLb : ∀ p ∈ l[i].2.2.2.2.1, p.2.2.1.length ≤ 6415 := fun p hp => hsm.bytes (List.getElem_mem hi) hp
      refine S.skip (S.seq (S.block (S.seq (S.region rfl ?_))))
      refine O.op (.p rfl) (.mv rfl) ?_
      refine O.op (.p rfl) (.mv rfl) ?_
      refine O.idx' (.p rfl) Go.Proofs.Tryz.underlying22 FactRnet6.size31 rfl rfl rfl (by first | assumption | exact Arr.mono hg (by assumption) | exact Arr.left (by assumption) | exact Arr.left (Arr.mono hg (by assumption))) (by decide) (by first | omega | (simp; done) | (simp; omega) | decide) (fun p26 cs26 hp26 hr26 => ?_)
      obtain ⟨a26, c26, rfl, ha26, hw26, hf26, ht26, hz26⟩ := DoRp.open hr26
      refine O.op (.p rfl) (.loadAgg Go.Proofs.Tryz.isAgg31 (by kernel_rfl) rfl hp26) ?_
      refine O.opE (.p rfl) (.alloc (cs := [.int .i64 0, .int .i64 0, .int .i64 0, .int .i64 0, .slice none 0 0]) Go.Proofs.Tryz.zeroValue31 rfl) ?_
      rintro _ _ ⟨b7, rfl, rfl⟩
      refine O.opU rfl (.storeObj (by kernel_rfl) rfl rfl rfl rfl (by repeat (first | exact Sel.here | apply Sel.there)) (by first | (simp; done) | (simp [Value.cells]; done))) ?_
      refine O.nil ?_
      refine S.seq (S.seq ?_)
      refine S.frzO (by repeat (first | exact Sel.here | apply Sel.there)) fun g hs hm h7 => ?_
      replace hg := Fr.sub_trans hg hs
      replace hR := melted hR hm
      try replace ha := ha.mono hs
      try replace hat := hat.mono hs
      try replace hat := hat.mono hs
      try replace hp26 := hp26.mono hs
      try replace ha26 := ha26.mono hs
      try replace ha26 := ha26.mono hs
      replace hm1 := meltTrans hm1 hm
      clear hs hm
      refine S.region rfl ?_
      refine O.op (.p rfl) (.fieldAddr FactRnet6.fld31x0 rfl) ?_
      refine O.op (.p rfl) (.loadAt FactRnet6.flat3 rfl h7 rfl) ?_
      refine O.call0 (.p rfl) rfl FactRnet6.ok9 rfl rfl ((Pick_c _ _ (by first | assumption | (constructor <;> omega)))) ?_
      rintro v30 _ ⟨rfl, rfl⟩
      try simp only [List.cons_append, List.nil_append, List.append_nil]
      refine O.nil ?_
      refine S.block (S.seq ?_)
      obtain ⟨f, hf⟩ : ∃ f, f = l[i].2.1 := ⟨_, rfl⟩
      obtain ⟨t, ht⟩ : ∃ t, t = l[i].2.2.1 := ⟨_, rfl⟩
      obtain ⟨z, hz⟩ : ∃ z, z = l[i].2.2.2.1 := ⟨_, rfl⟩
      rw [← hf, ← ht, ← hz] at h7
      refine S.cut3 (fun (x : NetM × (List Pkt × List Pkt) × (Option Addr × Nat)) => LiveI l (i + 1) x.1 x.2.1.1 x.2.1.2) (fun (x : NetM × (List Pkt × List Pkt) × (Option Addr × Nat)) => [(5, .slice x.2.2.1 x.2.1.2.length x.2.2.2)]) [(0, _), (3, _), (4, _), (6, _), (7, _)] (fun (x : NetM × (List Pkt × List Pkt) × (Option Addr × Nat)) => [ToldW x.2.2.1 x.2.2.2 x.2.1.2, linksW b16 x.1, refW d17 x.2.1.1]) (.cons rfl (.cons rfl (.cons rfl (.cons rfl (.cons rfl (.nil)))))) (fun key => ?_) (fun x hx => ?_)
      · have hm2 := meltRefl (g := g)
        refine S.region rfl ?_
        refine O.op (.p rfl) (.eql rfl rfl) ?_
        refine O.op (.p rfl) (.as rfl) ?_
        refine O.nil ?_
        first | refine S.condD rfl (fun h51 => ?_) (fun h51 => ?_) | refine S.condB rfl (fun h51 => ?_) (fun h51 => ?_)
        · refine S.listOpen (G := pktG) (xs := told) (k' := 3) rfl (by repeat (first | exact Sel.here | apply Sel.there)) fun css hcl => ?_
          rw [← hcl]
          cases htk : takeOk ls (f, t) z with
          | false =>
            refine S.seq (S.region rfl ?_)
            refine O.op (.p rfl) (.mv rfl) ?_
            refine O.op (.p rfl) (.fieldAddr FactRnet6.fld31x1 rfl) ?_
            refine O.op (.p rfl) (.loadAt FactRnet6.flat3 rfl (h7.drop 1) rfl) ?_
            refine O.op (.p rfl) (.fieldAddr FactRnet6.fld31x2 rfl) ?_
            refine O.op (.p rfl) (.loadAt FactRnet6.flat3 rfl (h7.drop 2) rfl) ?_
            refine O.op (.p rfl) (.fieldAddr FactRnet6.fld31x3 rfl) ?_
            refine O.op (.p rfl) (.loadAt FactRnet6.flat3 rfl (h7.drop 3) rfl) ?_
            refine O.callS (.p rfl) rfl FactRnet6.ok10 rfl rfl (by repeat (first | exact Sel.here | apply Sel.there)) (take_no hat htk) ?_
            rintro v61 _ ⟨rfl, rfl⟩
            try simp only [List.cons_append, List.nil_append, List.append_nil]
            refine O.op (.p rfl) (.mv rfl) ?_
            refine O.op (.p rfl) (.extract rfl rfl) ?_
            refine O.op (.p rfl) (.extract rfl rfl) ?_
            refine O.opE (.p rfl) (.alloc (cs := [.int .i64 0, .int .i64 0, .slice none 0 0]) Go.Proofs.Tryz.zeroValue35 rfl) ?_
            rintro _ _ ⟨b8, rfl, rfl⟩
            refine O.opU rfl (.storeObj (by kernel_rfl) rfl rfl rfl rfl (by repeat (first | exact Sel.here | apply Sel.there)) (by first | (simp; done) | (simp [Value.cells]; done))) ?_
            refine O.op (.p rfl) (.as rfl) ?_
            refine O.nil ?_
            refine S.seq (S.region rfl ?_)
            refine O.op (.p rfl) (.mv rfl) ?_
            refine O.op (.p rfl) (.fieldAddr FactRnet6.fld31x1 rfl) ?_
            refine O.op (.p rfl) (.loadAt FactRnet6.flat3 rfl (h7.drop 1) rfl) ?_
            refine O.op (.p rfl) (.fieldAddr FactRnet6.fld31x2 rfl) ?_
            refine O.op (.p rfl) (.loadAt FactRnet6.flat3 rfl (h7.drop 2) rfl) ?_
            refine O.op (.p rfl) (.fieldAddr FactRnet6.fld31x3 rfl) ?_
            refine O.op (.p rfl) (.loadAt FactRnet6.flat3 rfl (h7.drop 3) rfl) ?_
            refine O.callS (.p rfl) rfl FactRnet6.ok11 rfl rfl (by repeat (first | exact Sel.here | apply Sel.there)) (rtake_no hx2.rel htk) ?_
            rintro v72 _ ⟨rfl, rfl⟩
            try simp only [List.cons_append, List.nil_append, List.append_nil]
            refine O.op (.p rfl) (.mv rfl) ?_
            refine O.op (.p rfl) (.extract rfl rfl) ?_
            refine O.op (.p rfl) (.extract rfl rfl) ?_
            refine O.opE (.p rfl) (.alloc (cs := [.int .i64 0, .int .i64 0, .slice none 0 0]) Go.Proofs.Tryz.zeroValue35 rfl) ?_
            rintro _ _ ⟨b10, rfl, rfl⟩
            refine O.opU rfl (.storeObj (by kernel_rfl) rfl rfl rfl rfl (by repeat (first | exact Sel.here | apply Sel.there)) (by first | (simp; done) | (simp [Value.cells]; done))) ?_
            refine O.op (.p rfl) (.as rfl) ?_
            refine O.nil ?_
            refine S.seq (S.seq (S.region rfl ?_))
            refine O.op (.p rfl) (.mv rfl) ?_
            refine O.op (.p rfl) (.mv rfl) ?_
            refine O.op (.p rfl) (.neqB Go.Proofs.Tryz.underlying4 rfl rfl) ?_
            refine O.slot 77 (v' := .bool false) rfl (congrArg Value.bool (by simp)) ?_
            refine O.op (.p rfl) (.mv rfl) ?_
            refine O.op (.g rfl rfl) (.loadObjAgg (news := [_, _, _]) Go.Proofs.Tryz.isAgg35 (by kernel_rfl) rfl (by repeat (first | exact Sel.here | apply Sel.there)) rfl) ?_
            refine O.op (.g rfl rfl) (.loadObjAgg (news := [_, _, _]) Go.Proofs.Tryz.isAgg35 (by kernel_rfl) rfl (by repeat (first | exact Sel.here | apply Sel.there)) rfl) ?_
            refine O.call0 (.g rfl rfl) rfl FactRnet6.ok12 rfl rfl ((samePacket_c Arr.nil Arr.nil)) ?_
            rintro v81 _ ⟨rfl, rfl⟩
            try simp only [List.cons_append, List.nil_append, List.append_nil]
            refine O.op (.g rfl rfl) ((by first | exact .notD rfl | exact .not rfl)) ?_
            refine O.slot 82 (v' := .bool false) rfl (congrArg Value.bool (by simp)) ?_
            refine O.op (.p rfl) (.pickF rfl rfl) ?_
            refine O.nil ?_
            refine S.condF rfl ?_
            refine S.skip (S.region rfl ?_)
            refine O.op (.p rfl) (.mv rfl) ?_
            refine O.op (.p rfl) (.loadObjAgg (news := [_, _, _]) Go.Proofs.Tryz.isAgg35 (by kernel_rfl) rfl (by repeat (first | exact Sel.here | apply Sel.there)) rfl) ?_
            refine O.opE (.p rfl) (.litP (T := (Rp.cells 3)) (ys := [_]) Go.Proofs.Tryz.underlying29 FactRnet6.elem35 (by decide) rfl rfl ⟨⟨rfl, rfl, by first | (simp; done) | (intro v hv; simp [Value.cells] at hv; rcases hv with rfl | rfl <;> rfl) | (refine List.forall_mem_cons.2 ⟨rfl, ?_⟩; repeat (first | exact (fun _ h => absurd h List.not_mem_nil) | refine List.forall_mem_cons.2 ⟨rfl, ?_⟩))⟩, trivial⟩ (by decide)) ?_
            rintro _ _ ⟨a86, c86, rfl, rfl⟩
            refine O.opE (.p rfl) (.appendO (T := (Rp.cells 3)) Go.Proofs.Tryz.underlying29 FactRnet6.elem35 (by decide) rfl rfl (by repeat (first | exact Sel.here | apply Sel.there)) (by repeat (first | exact Sel.here | apply Sel.there)) (by first | omega | (simp; done) | (simp; omega) | decide) (by first | omega | (simp; done) | (simp; omega) | decide)) ?_
            rintro _ _ ⟨a87, c87, rfl, rfl⟩
            refine O.op (.p rfl) (.as rfl) ?_
            refine O.nil ?_
            refine S.inBlock ?_
            have hlr : css.length + 1 = (told ++ [((0 : Int), (0 : Int), ([] : List UInt8), ())]).length := by simp; omega
            try simp only [List.length_singleton, List.length_cons, List.length_nil, Nat.zero_add]
            refine S.addW (pktG.own [.int .i64 0, .int .i64 0, .slice none 0 0] (0, 0, [], ())) (fun m => PktG.mk zero64 zero64 (ownP_nil m)) ?_
            refine S.listPut (G := pktG) (k' := 3) rfl (css := css) (cs := [.int .i64 0, .int .i64 0, .slice none 0 0]) (by repeat (first | exact Sel.here | apply Sel.there)) (by repeat (first | exact Sel.here | apply Sel.there)) (by repeat (first | exact Sel.here | apply Sel.there)) ?_
            rw [hlr]
            refine S.pk ?_ (S.weaken ?_ (key ((ls, (row, told ++ [((0 : Int), (0 : Int), ([] : List UInt8), ())]), (a87, c87))) (by exact hx2.taken hi hx2.rel (Nat.le_refl _) (Nat.le_refl _) (Nat.zero_le _))))
            · repeat (first | exact Picks.all | exact Picks.nil | (apply Picks.cons; focus (repeat (first | exact Sel.here | apply Sel.there))) | apply Picks.skip)
            repeat (first | exact Sub.nil | refine Sub.cons rfl ?_)
          | true =>
            obtain ⟨j, hzj, hj⟩ := takeOk_yes htk
            have hmem : (atL ls (f, t))[j] ∈ atL ls (f, t) := List.getElem_mem hj
            obtain ⟨hkp, hl6⟩ := hx2.rel.inv.key _ _ hmem
            have hle := (allP_take hj).length_eq
            rw [List.length_cons] at hle
            have htc := fun rr (hh : At rr ⟨d16, 0, none⟩ [.map (some b16)]) => take_yes' (ls := ls) hzj hh hj
            have hrc := fun rr => rtake_yes (r := rr) (d := d17) hx2.rel hzj hj (by omega)
            generalize (atL ls (f, t))[j] = p at hkp hl6 htc hrc
            refine S.seq (S.region rfl ?_)
            refine O.op (.p rfl) (.mv rfl) ?_
            refine O.op (.p rfl) (.fieldAddr FactRnet6.fld31x1 rfl) ?_
            refine O.op (.p rfl) (.loadAt FactRnet6.flat3 rfl (h7.drop 1) rfl) ?_
            refine O.op (.p rfl) (.fieldAddr FactRnet6.fld31x2 rfl) ?_
            refine O.op (.p rfl) (.loadAt FactRnet6.flat3 rfl (h7.drop 2) rfl) ?_
            refine O.op (.p rfl) (.fieldAddr FactRnet6.fld31x3 rfl) ?_
            refine O.op (.p rfl) (.loadAt FactRnet6.flat3 rfl (h7.drop 3) rfl) ?_
            refine O.callS (.p rfl) rfl FactRnet6.ok10 rfl rfl (by repeat (first | exact Sel.here | apply Sel.there)) (htc _ hat) ?_
            rintro v61 _ ⟨a61, c61, rfl, hi61, hj61, rfl⟩
            try simp only [List.cons_append, List.nil_append, List.append_nil]
            refine O.op (.p rfl) (.mv rfl) ?_
            refine O.op (.p rfl) (.extract rfl rfl) ?_
            refine O.op (.p rfl) (.extract rfl rfl) ?_
            refine O.opE (.p rfl) (.alloc (cs := [.int .i64 0, .int .i64 0, .slice none 0 0]) Go.Proofs.Tryz.zeroValue35 rfl) ?_
            rintro _ _ ⟨b8, rfl, rfl⟩
            refine O.opU rfl (.storeObj (by kernel_rfl) rfl rfl rfl rfl (by repeat (first | exact Sel.here | apply Sel.there)) (by first | (simp; done) | (simp [Value.cells]; done))) ?_
            refine O.op (.p rfl) (.as rfl) ?_
            refine O.nil ?_
            refine S.seq (S.region rfl ?_)
            refine O.op (.p rfl) (.mv rfl) ?_
            refine O.op (.p rfl) (.fieldAddr FactRnet6.fld31x1 rfl) ?_
            refine O.op (.p rfl) (.loadAt FactRnet6.flat3 rfl (h7.drop 1) rfl) ?_
            refine O.op (.p rfl) (.fieldAddr FactRnet6.fld31x2 rfl) ?_
            refine O.op (.p rfl) (.loadAt FactRnet6.flat3 rfl (h7.drop 2) rfl) ?_
            refine O.op (.p rfl) (.fieldAddr FactRnet6.fld31x3 rfl) ?_
            refine O.op (.p rfl) (.loadAt FactRnet6.flat3 rfl (h7.drop 3) rfl) ?_
            refine O.callS (.p rfl) rfl FactRnet6.ok11 rfl rfl (by repeat (first | exact Sel.here | apply Sel.there)) (hrc _) ?_
            rintro v72 _ ⟨row2, a72, c72, rfl, hrel2, hrl2, rfl⟩
            try simp only [List.cons_append, List.nil_append, List.append_nil]
            refine O.op (.p rfl) (.mv rfl) ?_
            refine O.op (.p rfl) (.extract rfl rfl) ?_
            refine O.op (.p rfl) (.extract rfl rfl) ?_
            refine O.opE (.p rfl) (.alloc (cs := [.int .i64 0, .int .i64 0, .slice none 0 0]) Go.Proofs.Tryz.zeroValue35 rfl) ?_
            rintro _ _ ⟨b10, rfl, rfl⟩
            refine O.opU rfl (.storeObj (by kernel_rfl) rfl rfl rfl rfl (by repeat (first | exact Sel.here | apply Sel.there)) (by first | (simp; done) | (simp [Value.cells]; done))) ?_
            refine O.op (.p rfl) (.as rfl) ?_
            refine O.nil ?_
            refine S.seq (S.seq ?_)
            refine S.sel (A := OwnP Rp.u8 5 (.slice a72 p.2.2.1.length c72) p.2.2.1) (by repeat (first | exact Sel.here | apply Sel.there)) ?_
            refine S.frzA (by repeat (first | exact Sel.here | apply Sel.there)) fun g hs hm hq72 => ?_
            replace hg := Fr.sub_trans hg hs
            replace hR := melted hR hm
            try replace ha := ha.mono hs
            try replace hat := hat.mono hs
            try replace hat := hat.mono hs
            try replace hp26 := hp26.mono hs
            try replace ha26 := ha26.mono hs
            try replace ha26 := ha26.mono hs
            try replace h7 := h7.mono hs
            replace hm1 := meltTrans hm1 hm
            replace hm2 := meltTrans hm2 hm
            clear hs hm
            refine S.region rfl ?_
            refine O.op (.p rfl) (.mv rfl) ?_
            refine O.op (.p rfl) (.mv rfl) ?_
            refine O.op (.p rfl) (.neqB Go.Proofs.Tryz.underlying4 rfl rfl) ?_
            refine O.slot 77 (v' := .bool false) rfl (congrArg Value.bool (by simp)) ?_
            refine O.op (.p rfl) (.mv rfl) ?_
            refine O.op (.g rfl rfl) (.loadObjAgg (news := [_, _, _]) Go.Proofs.Tryz.isAgg35 (by kernel_rfl) rfl (by repeat (first | exact Sel.here | apply Sel.there)) rfl) ?_
            refine O.op (.g rfl rfl) (.loadObjAgg (news := [_, _, _]) Go.Proofs.Tryz.isAgg35 (by kernel_rfl) rfl (by repeat (first | exact Sel.here | apply Sel.there)) rfl) ?_
            refine O.callB (.g rfl rfl) rfl FactRnet6.ok12 rfl rfl (bs := [OwnP Rp.u8 5 (.slice a61 p.2.2.1.length c61) p.2.2.1]) (by repeat (first | exact Sels.nil | (apply Sels.cons; focus (repeat (first | exact Sel.here | apply Sel.there))))) (fun m hm hd => samePacket_c (hm.arr.right hd) hq72.left) ?_
            rintro v81 _ ⟨rfl, rfl⟩
            try simp only [List.cons_append, List.nil_append, List.append_nil]
            refine O.op (.g rfl rfl) ((by first | exact .notD rfl | exact .not rfl)) ?_
            refine O.slot 82 (v' := .bool false) rfl (congrArg Value.bool (by simp)) ?_
            refine O.op (.p rfl) (.pickF rfl rfl) ?_
            refine O.nil ?_
            refine S.condF rfl ?_
            refine S.skip (S.region rfl ?_)
            refine O.op (.p rfl) (.mv rfl) ?_
            refine O.op (.p rfl) (.loadObjAgg (news := [_, _, _]) Go.Proofs.Tryz.isAgg35 (by kernel_rfl) rfl (by repeat (first | exact Sel.here | apply Sel.there)) rfl) ?_
            refine O.opE (.p rfl) (.litP (T := (Rp.cells 3)) (ys := [_]) Go.Proofs.Tryz.underlying29 FactRnet6.elem35 (by decide) rfl rfl ⟨⟨rfl, rfl, by first | (simp; done) | (intro v hv; simp [Value.cells] at hv; rcases hv with rfl | rfl <;> rfl) | (refine List.forall_mem_cons.2 ⟨rfl, ?_⟩; repeat (first | exact (fun _ h => absurd h List.not_mem_nil) | refine List.forall_mem_cons.2 ⟨rfl, ?_⟩))⟩, trivial⟩ (by decide)) ?_
            rintro _ _ ⟨a86, c86, rfl, rfl⟩
            refine O.opE (.p rfl) (.appendO (T := (Rp.cells 3)) Go.Proofs.Tryz.underlying29 FactRnet6.elem35 (by decide) rfl rfl (by repeat (first | exact Sel.here | apply Sel.there)) (by repeat (first | exact Sel.here | apply Sel.there)) (by first | omega | (simp; done) | (simp; omega) | decide) (by first | omega | (simp; done) | (simp; omega) | decide)) ?_
            rintro _ _ ⟨a87, c87, rfl, rfl⟩
            refine O.op (.p rfl) (.as rfl) ?_
            refine O.nil ?_
            refine S.inBlock ?_
            have hlr : css.length + 1 = (told ++ [p]).length := by simp; omega
            try simp only [List.length_singleton, List.length_cons, List.length_nil, Nat.zero_add]
            refine S.conv (B := OwnP Rp.u8 5 (.slice a61 p.2.2.1.length c61) p.2.2.1) (C := pktG.own [.int .i64 p.1, .int .i64 p.2.1, .slice a61 p.2.2.1.length c61] p) (by repeat (first | exact Sel.here | apply Sel.there)) (fun m x => ⟨m, Fr.sub_refl _, PktG.mk hi61 hj61 x⟩) ?_
            refine S.listPut (G := pktG) (k' := 3) rfl (css := css) (cs := [.int .i64 p.1, .int .i64 p.2.1, .slice a61 p.2.2.1.length c61]) (by repeat (first | exact Sel.here | apply Sel.there)) (by repeat (first | exact Sel.here | apply Sel.there)) (by repeat (first | exact Sel.here | apply Sel.there)) ?_
            rw [hlr]
            refine S.pk ?_ (S.melt hm2 (S.weaken ?_ (key ((takeL ls (f, t) j, (row2, told ++ [p]), (a87, c87))) (by exact hx2.taken hi hrel2 (by omega) hrl2 hl6))))
            · repeat (first | exact Picks.all | exact Picks.nil | (apply Picks.cons; focus (repeat (first | exact Sel.here | apply Sel.there))) | apply Picks.skip)
            repeat (first | exact Sub.nil | refine Sub.cons rfl ?_)
        · refine S.seq (S.region rfl ?_)
          refine O.op (.p rfl) (.eql rfl rfl) ?_
          refine O.op (.p rfl) (.as rfl) ?_
          refine O.nil ?_
          first | refine S.condD rfl (fun h88 => ?_) (fun h88 => ?_) | refine S.condB rfl (fun h88 => ?_) (fun h88 => ?_)
          ·
            cases htk : takeOk ls (f, t) z with
            | false =>
              refine S.seq (S.regionD (L := [0, 1, 2, 3, 4, 5, 6, 8, 9, 10, 11, 12, 13, 14, 7, 15, 16]) FactRnet6.mixed (by kernel_rfl) ?_)
              refine .quiet (.p rfl) rfl (fun _ => .mv rfl) ?_
              refine .quiet (.p rfl) rfl (fun _ => .fieldAddr FactRnet6.fld31x1 rfl) ?_
              refine .quiet (.p rfl) rfl (fun _ => .loadAt FactRnet6.flat3 rfl (h7.drop 1) rfl) ?_
              refine .quiet (.p rfl) rfl (fun _ => .fieldAddr FactRnet6.fld31x2 rfl) ?_
              refine .quiet (.p rfl) rfl (fun _ => .loadAt FactRnet6.flat3 rfl (h7.drop 2) rfl) ?_
              refine .quiet (.p rfl) rfl (fun _ => .fieldAddr FactRnet6.fld31x3 rfl) ?_
              refine .quiet (.p rfl) rfl (fun _ => .loadAt FactRnet6.flat3 rfl (h7.drop 3) rfl) ?_
              refine .quiet (.p rfl) rfl (fun _ => .mv rfl) ?_
              refine .quiet (.p rfl) rfl (fun _ => .fieldAddr FactRnet6.fld31x1 rfl) ?_
              refine .quiet (.p rfl) rfl (fun _ => .loadAt FactRnet6.flat3 rfl (h7.drop 1) rfl) ?_
              refine .quiet (.p rfl) rfl (fun _ => .fieldAddr FactRnet6.fld31x2 rfl) ?_
              refine .quiet (.p rfl) rfl (fun _ => .loadAt FactRnet6.flat3 rfl (h7.drop 2) rfl) ?_
              refine .quiet (.p rfl) rfl (fun _ => .fieldAddr FactRnet6.fld31x3 rfl) ?_
              refine .quiet (.p rfl) rfl (fun _ => .loadAt FactRnet6.flat3 rfl (h7.drop 3) rfl) ?_
              refine OD.callS (.p rfl) (by kernel_rfl) rfl FactRnet6.ok13 rfl rfl (by repeat (first | exact Sel.here | apply Sel.there)) (twice_no hat htk) ?_
              rintro v97 _ ⟨rfl, rfl⟩
              try simp only [List.cons_append, List.nil_append, List.append_nil]
              refine OD.callS (.p rfl) (by kernel_rfl) rfl FactRnet6.ok14 rfl rfl (by repeat (first | exact Sel.here | apply Sel.there)) (rtwice_no hx2.rel htk) ?_
              rintro v105 _ ⟨rfl, rfl⟩
              try simp only [List.cons_append, List.nil_append, List.append_nil]
              refine .quiet (.p rfl) rfl (fun _ => .neqB Go.Proofs.Tryz.underlying4 rfl rfl) ?_
              refine OD.slot 106 (v' := .bool false) rfl (congrArg Value.bool (by simp)) ?_
              refine .nil ?_
              refine S.condF rfl ?_
              refine S.skip (S.inBlock ?_)
              refine S.pk ?_ (S.weaken ?_ (key ((ls, (row, told), s)) (by exact hx2.none hi)))
              · repeat (first | exact Picks.all | exact Picks.nil | (apply Picks.cons; focus (repeat (first | exact Sel.here | apply Sel.there))) | apply Picks.skip)
              repeat (first | exact Sub.nil | refine Sub.cons rfl ?_)
            | true =>
              obtain ⟨j, hzj, hj⟩ := takeOk_yes htk
              have hmem : (atL ls (f, t))[j] ∈ atL ls (f, t) := List.getElem_mem hj
              obtain ⟨hkp, hl6⟩ := hx2.rel.inv.key _ _ hmem
              have htc := fun rr (hh : At rr ⟨d16, 0, none⟩ [.map (some b16)]) => twice_yes' (ls := ls) hzj hh hj hl6
              have hrc := fun rr => rtwice_yes (r := rr) (d := d17) hx2.rel hzj hj hl6 (by omega)
              generalize (atL ls (f, t))[j] = p at hkp hl6 htc hrc
              have hsl := allP_send_le ls p
              refine S.seq (S.regionD (L := [0, 1, 2, 3, 4, 5, 6, 8, 9, 10, 11, 12, 13, 14, 7, 15, 16]) FactRnet6.mixed (by kernel_rfl) ?_)
              refine .quiet (.p rfl) rfl (fun _ => .mv rfl) ?_
              refine .quiet (.p rfl) rfl (fun _ => .fieldAddr FactRnet6.fld31x1 rfl) ?_
              refine .quiet (.p rfl) rfl (fun _ => .loadAt FactRnet6.flat3 rfl (h7.drop 1) rfl) ?_
              refine .quiet (.p rfl) rfl (fun _ => .fieldAddr FactRnet6.fld31x2 rfl) ?_
              refine .quiet (.p rfl) rfl (fun _ => .loadAt FactRnet6.flat3 rfl (h7.drop 2) rfl) ?_
              refine .quiet (.p rfl) rfl (fun _ => .fieldAddr FactRnet6.fld31x3 rfl) ?_
              refine .quiet (.p rfl) rfl (fun _ => .loadAt FactRnet6.flat3 rfl (h7.drop 3) rfl) ?_
              refine .quiet (.p rfl) rfl (fun _ => .mv rfl) ?_
              refine .quiet (.p rfl) rfl (fun _ => .fieldAddr FactRnet6.fld31x1 rfl) ?_
              refine .quiet (.p rfl) rfl (fun _ => .loadAt FactRnet6.flat3 rfl (h7.drop 1) rfl) ?_
              refine .quiet (.p rfl) rfl (fun _ => .fieldAddr FactRnet6.fld31x2 rfl) ?_
              refine .quiet (.p rfl) rfl (fun _ => .loadAt FactRnet6.flat3 rfl (h7.drop 2) rfl) ?_
              refine .quiet (.p rfl) rfl (fun _ => .fieldAddr FactRnet6.fld31x3 rfl) ?_
              refine .quiet (.p rfl) rfl (fun _ => .loadAt FactRnet6.flat3 rfl (h7.drop 3) rfl) ?_
              refine OD.callS (.p rfl) (by kernel_rfl) rfl FactRnet6.ok13 rfl rfl (by repeat (first | exact Sel.here | apply Sel.there)) (htc _ hat) ?_
              rintro v97 _ ⟨rfl, rfl⟩
              try simp only [List.cons_append, List.nil_append, List.append_nil]
              refine OD.callS (.p rfl) (by kernel_rfl) rfl FactRnet6.ok14 rfl rfl (by repeat (first | exact Sel.here | apply Sel.there)) (hrc _) ?_
              rintro v105 _ ⟨row2, rfl, hrel2, hrl2, rfl⟩
              try simp only [List.cons_append, List.nil_append, List.append_nil]
              refine .quiet (.p rfl) rfl (fun _ => .neqB Go.Proofs.Tryz.underlying4 rfl rfl) ?_
              refine OD.slot 106 (v' := .bool false) rfl (congrArg Value.bool (by simp)) ?_
              refine .nil ?_
              refine S.condF rfl ?_
              refine S.skip (S.inBlock ?_)
              refine S.pk ?_ (S.weaken ?_ (key ((sendL ls p, (row2, told), s)) (by exact hx2.twice hi hrel2 hsl hrl2)))
              · repeat (first | exact Picks.all | exact Picks.nil | (apply Picks.cons; focus (repeat (first | exact Sel.here | apply Sel.there))) | apply Picks.skip)
              repeat (first | exact Sub.nil | refine Sub.cons rfl ?_)
          · have hsl := allP_sendM_le l[i].2.2.2.2.1 ls
            refine S.seq (S.region rfl ?_)
            refine O.op (.p rfl) (.fieldAddr FactRnet6.fld31x4 rfl) ?_
            refine O.op (.p rfl) (.loadAt FactRnet6.flat29 rfl (h7.drop 4) rfl) ?_
            refine O.call0 (.p rfl) rfl FactRnet6.ok15 rfl rfl ((lentPackets_c ha26 (fun x hx => by have := hLb x hx; omega) (by omega))) ?_
            rintro v33 _ ⟨a33, c33, rfl, rfl⟩
            try simp only [List.cons_append, List.nil_append, List.append_nil]
            refine O.op (.p rfl) (.as rfl) ?_
            refine O.nil ?_
            refine S.seq (S.seq (S.regionD (L := [0, 1, 3, 4, 5, 2, 6, 7, 8, 9, 10, 11, 12, 13, 14]) FactRnet6.mixed (by kernel_rfl) ?_))
            refine .quiet (.p rfl) rfl (fun _ => .mv rfl) ?_
            refine .quiet (.p rfl) rfl (fun _ => .mv rfl) ?_
            refine .quiet (.p rfl) rfl (fun _ => .mv rfl) ?_
            refine .quiet (.p rfl) rfl (fun _ => .fieldAddr FactRnet6.fld31x4 rfl) ?_
            refine .quiet (.p rfl) rfl (fun _ => .loadAt FactRnet6.flat29 rfl (h7.drop 4) rfl) ?_
            refine OD.callSs (.p rfl) (by kernel_rfl) rfl FactRnet6.ok16 rfl rfl (by repeat (first | exact Sels.nil | (apply Sels.cons; focus (repeat (first | exact Sel.here | apply Sel.there))))) (send_l hat) ?_
            rintro v36 _ ⟨rfl, rfl⟩
            try simp only [List.cons_append, List.nil_append, List.append_nil]
            refine OD.callS (.p rfl) (by kernel_rfl) rfl FactRnet6.ok17 rfl rfl (by repeat (first | exact Sel.here | apply Sel.there)) (rsend_c hx2.rel ha26 (by omega)) ?_
            rintro v40 _ ⟨row2, rfl, hrel2, hrl2, rfl⟩
            try simp only [List.cons_append, List.nil_append, List.append_nil]
            refine .quiet (.p rfl) rfl (fun _ => .neq rfl rfl) ?_
            refine OD.slot 41 (v' := .bool false) rfl (congrArg Value.bool (by simp)) ?_
            refine .quiet (.p rfl) rfl (fun _ => .mv rfl) ?_
            refine .quiet (.g rfl rfl) rfl (fun _ => .mv rfl) ?_
            refine .quiet (.g rfl rfl) rfl (fun _ => .fieldAddr FactRnet6.fld31x4 rfl) ?_
            refine .quiet (.g rfl rfl) rfl (fun _ => .loadAt FactRnet6.flat29 rfl (h7.drop 4) rfl) ?_
            refine OD.callB (.g rfl rfl) (by kernel_rfl) rfl FactRnet6.ok18 rfl rfl (bs := [LentKP (.slice a33 l[i].2.2.2.2.1.length c33) l[i].2.2.2.2.1]) (by repeat (first | exact Sels.nil | (apply Sels.cons; focus (repeat (first | exact Sel.here | apply Sel.there))))) (fun m hm hd => keptPackets_r (LentKL.mono (Fr.sub_add_right hd) (Sat.w1 (B := fun m => LentKL m _ _) LentKL.mono (fun _ x => x.read) hm)) ha26.left (fun x hx => by have := hLb x hx; omega) (by omega)) ?_
            rintro v46 _ ⟨rfl, rfl⟩
            try simp only [List.cons_append, List.nil_append, List.append_nil]
            refine .quiet (.g rfl rfl) rfl (fun _ => (by first | exact .notD rfl | exact .not rfl)) ?_
            refine OD.slot 47 (v' := .bool false) rfl (congrArg Value.bool (by simp)) ?_
            refine .quiet (.p rfl) rfl (fun _ => .pickF rfl rfl) ?_
            refine .nil ?_
            refine S.condF rfl ?_
            refine S.skip (S.region rfl ?_)
            refine O.op (.p rfl) (.mv rfl) ?_
            refine O.callS (.p rfl) rfl FactRnet6.ok19 rfl rfl (by repeat (first | exact Sel.here | apply Sel.there)) (overPackets_c (fun x hx => by have := hLb x hx; omega) (by omega)) ?_
            rintro v50 _ ⟨rfl, rfl⟩
            try simp only [List.cons_append, List.nil_append, List.append_nil]
            refine O.nil ?_
            refine S.inBlock ?_
            refine S.pk ?_ (S.weaken ?_ (key ((sendM ls l[i].2.2.2.2.1, (row2, told), s)) (by exact hx2.sent hi hrel2 hsl hrl2)))
            · repeat (first | exact Picks.all | exact Picks.nil | (apply Picks.cons; focus (repeat (first | exact Sel.here | apply Sel.there))) | apply Picks.skip)
            repeat (first | exact Sub.nil | refine Sub.cons rfl ?_)
      · obtain ⟨ls2, ⟨row2, told2⟩, s2⟩ := x
        simp only at hx ⊢
        obtain ⟨hsz1, hsz2, hsz3, hsz4⟩ := hx.small (by omega) hsm
        have hat2 := hx.rel.at' (f, t)
        refine S.seq (S.regionD (L := [0, 2, 1, 3, 4, 5, 6, 7, 8, 9, 10, 11, 13, 14, 15, 16, 17, 12, 18, 19, 20]) FactRnet6.mixed (by kernel_rfl) ?_)
        refine .quiet (.p rfl) rfl (fun _ => .mv rfl) ?_
        refine .quiet (.p rfl) rfl (fun _ => .mv rfl) ?_
        refine OD.callS (.p rfl) (by kernel_rfl) rfl FactRnet6.ok21 rfl rfl (by repeat (first | exact Sel.here | apply Sel.there)) (links_g hat (by omega)) ?_
        rintro v108 _ ⟨a108, c108, rfl, rfl⟩
        try simp only [List.cons_append, List.nil_append, List.append_nil]
        refine OD.callB (.p rfl) (by kernel_rfl) rfl FactRnet6.ok22 rfl rfl (bs := [refW d17 row2]) (by repeat (first | exact Sels.nil | (apply Sels.cons; focus (repeat (first | exact Sel.here | apply Sel.there))))) (fun m hm hd => rlinks_c hx.rel (refR.mono (Fr.sub_add_right hd) (Sat.w1 (B := fun m => refR m d17 row2) refR.mono (fun _ x => x.read) hm)) (by omega)) ?_
        rintro v110 _ ⟨a110, c110, rfl, rfl⟩
        try simp only [List.cons_append, List.nil_append, List.append_nil]
        refine OD.callB (.p rfl) (by kernel_rfl) rfl FactRnet6.ok20 rfl rfl (bs := [OwnP (Rp.cells 2) 54 (.slice a108 (linksS ls2).length c108) ((linksS ls2).map cells2), OwnP (Rp.cells 2) 54 (.slice a110 (linksS ls2).length c110) ((linksS ls2).map cells2)]) (by repeat (first | exact Sels.nil | (apply Sels.cons; focus (repeat (first | exact Sel.here | apply Sel.there))))) (fun m hm hd => sameLinks_c (hm.arr.right hd) (hm.tail.arr.right hd)) ?_
        rintro v111 _ ⟨rfl, rfl⟩
        try simp only [List.cons_append, List.nil_append, List.append_nil]
        refine .quiet (.p rfl) rfl (fun _ => (by first | exact .notD rfl | exact .not rfl)) ?_
        refine .quiet (.p rfl) rfl (fun _ => .mv rfl) ?_
        refine OD.slot 113 (v' := .bool false) rfl (congrArg Value.bool (by simp)) ?_
        refine .quiet (.g rfl rfl) rfl (fun _ => .mv rfl) ?_
        refine .quiet (.g rfl rfl) rfl (fun _ => .fieldAddr FactRnet6.fld31x1 rfl) ?_
        refine .quiet (.g rfl rfl) rfl (fun _ => .loadAt FactRnet6.flat3 rfl (h7.drop 1) rfl) ?_
        refine .quiet (.g rfl rfl) rfl (fun _ => .fieldAddr FactRnet6.fld31x2 rfl) ?_
        refine .quiet (.g rfl rfl) rfl (fun _ => .loadAt FactRnet6.flat3 rfl (h7.drop 2) rfl) ?_
        refine .quiet (.g rfl rfl) rfl (fun _ => .mv rfl) ?_
        refine .quiet (.g rfl rfl) rfl (fun _ => .fieldAddr FactRnet6.fld31x1 rfl) ?_
        refine .quiet (.g rfl rfl) rfl (fun _ => .loadAt FactRnet6.flat3 rfl (h7.drop 1) rfl) ?_
        refine .quiet (.g rfl rfl) rfl (fun _ => .fieldAddr FactRnet6.fld31x2 rfl) ?_
        refine .quiet (.g rfl rfl) rfl (fun _ => .loadAt FactRnet6.flat3 rfl (h7.drop 2) rfl) ?_
        refine OD.callS (.g rfl rfl) (by kernel_rfl) rfl FactRnet6.ok23 rfl rfl (by repeat (first | exact Sel.here | apply Sel.there)) (many_g hat) ?_
        rintro v119 _ ⟨rfl, rfl⟩
        try simp only [List.cons_append, List.nil_append, List.append_nil]
        refine OD.callB (.g rfl rfl) (by kernel_rfl) rfl FactRnet6.ok24 rfl rfl (bs := [refW d17 row2]) (by repeat (first | exact Sels.nil | (apply Sels.cons; focus (repeat (first | exact Sel.here | apply Sel.there))))) (fun m hm hd => rmany_c (refR.mono (Fr.sub_add_right hd) (Sat.w1 (B := fun m => refR m d17 row2) refR.mono (fun _ x => x.read) hm))) ?_
        rintro v125 _ ⟨rfl, rfl⟩
        try simp only [List.cons_append, List.nil_append, List.append_nil]
        refine .quiet (.g rfl rfl) rfl (fun _ => .neq rfl rfl) ?_
        refine OD.slot 126 (v' := .bool false) rfl (congrArg Value.bool (by rw [hat2]; simp)) ?_
        refine .quiet (.p rfl) rfl (fun _ => .pickF rfl rfl) ?_
        refine .nil ?_
        refine S.condF rfl ?_
        refine S.skip (S.inBlock (S.region rfl ?_))
        refine O.op (.p rfl) (.mv rfl) ?_
        refine O.op (.p rfl) (.add rfl rfl (IntWalk.i64_in _ (by omega))) ?_
        refine O.op (.p rfl) (.as rfl) ?_
        refine O.nil ?_
        refine S.pk ?_ (S.melt hm1 (S.weaken ?_ (ih (i + 1) (ls2) ((row2, told2)) (s2) (by exact ⟨by omega, hx⟩) (by omega))))
        · repeat (first | exact Picks.all | exact Picks.nil | (apply Picks.cons; focus (repeat (first | exact Sel.here | apply Sel.there))) | apply Picks.skip)
        repeat (first | exact Sub.nil | refine Sub.cons rfl ?_)
    · clear ih
      have htb : ∀ es ∈ [told], ∀ x ∈ es, x.2.2.1.length ≤ 100000000 := fun es he x hx => by
        rw [List.mem_singleton.1 he] at hx
        have := hx2.tb x hx
        omega
      refine S.exit rfl ?_
      refine S.seq (S.region rfl ?_)
      refine O.op (.p rfl) (.mv rfl) ?_
      refine O.opE (.p rfl) (.litP (T := Rp.val) (ys := [_]) Go.Proofs.Tryz.underlying50 FactRnet6.elem29 (by decide) rfl rfl ⟨⟨rfl, rfl⟩, trivial⟩ (by decide)) ?_
      rintro _ _ ⟨a129, c129, rfl, rfl⟩
      refine O.frzA (by repeat (first | exact Sel.here | apply Sel.there)) fun g hs hm ha129 => ?_
      replace hg := Fr.sub_trans hg hs
      replace hR := melted hR hm
      try replace ha := ha.mono hs
      try replace hat := hat.mono hs
      try replace hat := hat.mono hs
      replace hm1 := meltTrans hm1 hm
      clear hs hm
      refine O.each0 (ListP pktG 35) ?_
      refine O.each (A := ListP pktG 35) (b := .slice s.1 told.length s.2) (a := told) (by repeat (first | exact Sel.here | apply Sel.there)) (by repeat (first | exact Sel.here | apply Sel.there)) ?_
      simp only [List.nil_append, List.cons_append]
      refine O.callSs (.p rfl) rfl FactRnet6.ok25 rfl rfl (by repeat (first | exact Sels.nil | (apply Sels.cons; focus (repeat (first | exact Sel.here | apply Sel.there))))) (apartPackets_c ha129 htb (by simp; omega) (by simp)) ?_
      rintro v130 _ ⟨rfl, rfl⟩
      try simp only [List.cons_append, List.nil_append, List.append_nil]
      refine O.op (.p rfl) (.mv rfl) ?_
      refine O.call0 (.g rfl rfl) rfl FactRnet6.ok6 rfl rfl (awake_c) ?_
      rintro v132 _ ⟨rfl, rfl⟩
      try simp only [List.cons_append, List.nil_append, List.append_nil]
      refine O.op (.p rfl) (.pickT rfl rfl) ?_
      refine O.op (.p rfl) (.as rfl) ?_
      refine O.nil ?_
      refine S.ret Go.Proofs.Tryz.results3 rfl fun w hw => Holds.end_ hR hw ?_
      exact ⟨_, ⟨rfl, rfl⟩, by repeat (first | exact Picks.all | exact Picks.nil | (apply Picks.cons; focus (repeat (first | exact Sel.here | apply Sel.there))) | apply Picks.skip)⟩

end Go.Proofs.YthaebmfgelaleaaGreat
