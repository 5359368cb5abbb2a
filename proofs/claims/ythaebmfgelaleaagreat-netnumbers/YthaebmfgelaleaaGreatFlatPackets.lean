import Derived.Test.YthaebmfgelaleaaGreatKp1
open Go Go.Sp
set_option maxRecDepth 100000
attribute [local irreducible] obj Own OwnP
namespace Go.Proofs.YthaebmfgelaleaaGreat
theorem FactFlatPackets.elem29 : elemIs Go.Proofs.Tryz.prog 29 1 24 [.slice none 0 0] := elemIs.mk (by kernel_rfl) rfl
theorem FactFlatPackets.elem35 : elemIs Go.Proofs.Tryz.prog 35 3 40 [.int .i64 0, .int .i64 0, .slice none 0 0] := elemIs.mk (by kernel_rfl) rfl
theorem FactFlatPackets.flat29 : Go.Sp.flat1 Go.Proofs.Tryz.prog 29 = true := by kernel_rfl
theorem FactFlatPackets.mixed : Go.Proofs.Tryz.prog.follows .mixedOrders = true := by kernel_rfl
theorem FactFlatPackets.ok12 : callable Go.Proofs.Tryz.prog 12 = true := by kernel_rfl
theorem FactFlatPackets.ok36 : callable Go.Proofs.Tryz.prog 36 = true := by kernel_rfl
theorem FactFlatPackets.size29 : (Go.Proofs.Tryz.prog.info? 29).map (·.size) = some 1 := by kernel_rfl
theorem FactFlatPackets.size35 : (Go.Proofs.Tryz.prog.info? 35).map (·.size) = some 3 := by kernel_rfl

theorem flatPackets_c {r : Fr} {va : Value} {vs : List Value} {csss : List (List (List Value))} (hls : Arr Rp.val r va vs) (hq : ∀ x ∈ csss, x.length ≤ 100000000) (hb : csss.length ≤ 100000000) :
    Con Go.Proofs.Tryz.prog 78 #[va] r [EachP (OwnP (Rp.cells 3) 35) vs csss] (Ret fun v η => v = .bool true ∧ η = []) := by
  refine Con.of (n := 193) [va] rfl Go.Proofs.Tryz.func78 rfl rfl rfl fun g hg R hR => ?_
  have hls := hls.mono hg
  obtain ⟨a1, c1, rfl⟩ := hls.shape
  refine S.factS Sel.here (fun _ x => EachP.len x) fun hlen => ?_
  obtain ⟨ns, hns⟩ : ∃ ns : List Nat, csss.map List.length = ns := ⟨_, rfl⟩
  have hnl : ns.length = vs.length := by rw [← hns, List.length_map, hlen]
  have hnk : ∀ k (h : k < csss.length) (h' : k < ns.length), csss[k].length = ns[k] := by subst hns; intro k h h'; simp
  have hnb : ∀ k (h' : k < ns.length), ns[k] ≤ 100000000 := by subst hns; intro k h'; simp only [List.getElem_map]; exact hq _ (List.getElem_mem _)
  clear hns
  refine S.each0 (LstP PktRp 3 35) ?_
  refine S.seq (S.region rfl ?_)
  refine O.op (.p rfl) (.as rfl) ?_
  refine O.nil ?_
  refine S.seq (S.seq (S.region rfl ?_))
  refine O.op (.p rfl) (.as rfl) ?_
  refine O.nil ?_
  refine S.block ?_
  -- the marks are laid
  refine S.loopK (ι := Nat) (fun k => k ≤ vs.length) (fun k => [(3, .int .i64 (k : Int))]) [(0, _)] (fun k => [EachP (LstP PktRp 3 35) (vs.take k) (mkAll markPkt ns k), EachP (OwnP (Rp.cells 3) 35) (vs.drop k) (csss.drop k)]) (fun k => vs.length - k) (0) (by simp) (.cons rfl (.nil)) (.cons rfl (.nil)) rfl fun k hx ih => ?_
  have hm1 := meltRefl (g := g)
  refine S.seq (S.seq (S.region rfl ?_))
  refine O.op (.p rfl) (.mv rfl) ?_
  refine O.op (.p rfl) (.mv rfl) ?_
  refine O.op (.p rfl) (.len rfl Go.Proofs.Tryz.underlying50 rfl) ?_
  refine O.op (.p rfl) (.lss rfl rfl) ?_
  refine O.nil ?_
  first | refine S.condD rfl (fun h19 => ?_) (fun h19 => ?_) | refine S.condB rfl (fun h19 => ?_) (fun h19 => ?_)
  · have hk : k < vs.length := by omega
    have hka : k < csss.length := by omega
    have hkn : k < ns.length := by omega
    have hzl := hnk k hka hkn
    have hrow := hnb k hkn
    rw [List.drop_eq_getElem_cons hk, List.drop_eq_getElem_cons hka]
    refine S.eachPop (by repeat (first | exact Sel.here | apply Sel.there)) ?_
    generalize csss[k] = zs at hzl ⊢
    refine S.factS Sel.here (fun _ x => OwnP.shape x) fun ⟨ak, ck, hvk⟩ => ?_
    refine S.skip (S.seq (S.block (S.seq (S.region rfl ?_))))
    refine O.op (.p rfl) (.as rfl) ?_
    refine O.nil ?_
    refine S.block ?_
    refine S.conv (B := OwnP (Rp.cells 3) 35 vs[k] zs) (C := OwnP (Rp.cells 3) 35 vs[k] ([] ++ zs.drop 0)) (by repeat (first | exact Sel.here | apply Sel.there)) (fun m x => ⟨m, Fr.sub_refl _, by simpa using x⟩) ?_
    refine S.each0 (RdW PktRp) ?_
    refine S.loopK2 (ι := Nat) (κ := List (List Value)) (fun i ms => i ≤ zs.length ∧ ms.length = i) (fun i ms => [(4, .int .i64 (i : Int))]) [(0, _), (3, _)] (fun i ms => [EachP (RdW PktRp) ms (mkL markPkt k i), OwnP (Rp.cells 3) 35 vs[k] (ms ++ zs.drop i), EachP (OwnP (Rp.cells 3) 35) (vs.drop (k + 1)) (csss.drop (k + 1)), EachP (LstP PktRp 3 35) (vs.take k) (mkAll markPkt ns k)]) (fun i ms => zs.length - i) (0) ([]) (by exact ⟨by simp, rfl⟩) (.cons rfl (.nil)) (.cons rfl (.cons rfl (.nil))) rfl fun i ms hx ih => ?_
    have hm2 := meltRefl (g := g)
    obtain ⟨hx1, hms⟩ := hx
    refine S.seq (S.seq (S.region rfl ?_))
    refine O.op (.p rfl) (.mv rfl) ?_
    refine O.op (.p rfl) (.mv rfl) ?_
    refine O.op (.p rfl) (.mv rfl) ?_
    refine O.idx' (.p rfl) Go.Proofs.Tryz.underlying50 FactFlatPackets.size29 rfl rfl rfl (hls) (by decide) (by first | omega | (simp; done) | (simp; omega) | decide) (fun p25 cs25 hp25 hr25 => ?_)
    obtain ⟨rfl, _⟩ := hr25
    refine O.op (.p rfl) (.loadAt FactFlatPackets.flat29 rfl hp25 rfl) ?_
    refine O.slot 26 (v' := .slice ak zs.length ck) rfl (by exact hvk) ?_
    refine O.op (.p rfl) (.len rfl Go.Proofs.Tryz.underlying29 rfl) ?_
    refine O.op (.p rfl) (.lss rfl rfl) ?_
    refine O.nil ?_
    first | refine S.condD rfl (fun h28 => ?_) (fun h28 => ?_) | refine S.condB rfl (fun h28 => ?_) (fun h28 => ?_)
    · have hi : i < zs.length := by omega
      refine S.skip (S.seq (S.block (S.regionD (L := [0, 1, 2, 3, 4, 5, 6, 7, 8, 9]) FactFlatPackets.mixed (by kernel_rfl) ?_)))
      refine .quiet (.p rfl) rfl (fun _ => .mv rfl) ?_
      refine .quiet (.p rfl) rfl (fun _ => .mv rfl) ?_
      refine OD.idx' (.p rfl) Go.Proofs.Tryz.underlying50 FactFlatPackets.size29 rfl rfl rfl (hls) (by decide) (by first | omega | (simp; done) | (simp; omega) | decide) (fun p33 cs33 hp33 hr33 => ?_)
      obtain ⟨rfl, _⟩ := hr33
      refine .quiet (.p rfl) rfl (fun _ => .loadAt FactFlatPackets.flat29 rfl hp33 rfl) ?_
      refine .quiet (.p rfl) rfl (fun _ => .mv rfl) ?_
      refine .quiet (.p rfl) rfl (fun _ => .mv rfl) ?_
      refine .quiet (.p rfl) rfl (fun _ => .mv rfl) ?_
      refine OD.call0 (.p rfl) (by kernel_rfl) rfl FactFlatPackets.ok36 rfl rfl ((markPacket_w _ _ (by constructor <;> omega) (by constructor <;> omega))) ?_
      rintro v38 _ ⟨cs38, rfl, hc38, rfl⟩
      try simp only [List.cons_append, List.nil_append, List.append_nil]
      refine OD.idxOwn (T := (Rp.cells 3)) (.p rfl) (by kernel_rfl) Go.Proofs.Tryz.underlying29 FactFlatPackets.size35 rfl rfl rfl (by repeat (first | exact Sel.here | apply Sel.there)) (by first | omega | (simp; done) | (simp; omega)) (fun p39 hp39 => ?_)
      refine OD.storeOwn rfl (by kernel_rfl) FactFlatPackets.size35 rfl hp39 rfl (by repeat (first | exact Sel.here | apply Sel.there)) (by first | omega | (simp; done) | (simp; omega)) (⟨rfl, hc38.1, hc38.2⟩ : (Rp.cells 3).rel Fr.emp cs38 cs38) ?_
      refine .nil ?_
      refine S.inBlock (S.region rfl ?_)
      refine O.op (.p rfl) (.mv rfl) ?_
      refine O.op (.p rfl) (.add rfl rfl (IntWalk.i64_in _ (by omega))) ?_
      refine O.op (.p rfl) (.as rfl) ?_
      refine O.nil ?_
      rw [set_over' hms hi]
      refine S.each (A := RdW PktRp) (bs := ms) (b := cs38) (a := markPkt (k : Int) (i : Int)) (by repeat (first | exact Sel.here | apply Sel.there)) (by repeat (first | exact Sel.here | apply Sel.there)) ?_
      rw [mkL_succ]
      refine S.pk ?_ (S.weaken ?_ (ih (i + 1) (ms ++ [cs38]) (by exact ⟨by omega, by simp; omega⟩) (by omega)))
      · repeat (first | exact Picks.all | exact Picks.nil | (apply Picks.cons; focus (repeat (first | exact Sel.here | apply Sel.there))) | apply Picks.skip)
      repeat (first | exact Sub.nil | refine Sub.cons rfl ?_)
    · clear ih
      have hi : i = zs.length := by omega
      subst hi
      rw [List.drop_length, List.append_nil, hzl]
      refine S.lstShut (by repeat (first | exact Sel.here | apply Sel.there)) (by repeat (first | exact Sel.here | apply Sel.there)) ?_
      refine S.each (A := LstP PktRp 3 35) (bs := vs.take k) (b := vs[k]) (a := mkL markPkt k ns[k]) (by repeat (first | exact Sel.here | apply Sel.there)) (by repeat (first | exact Sel.here | apply Sel.there)) ?_
      rw [mkAll_succ markPkt ns k hkn, ← List.take_succ_eq_append_getElem hk]
      refine S.exit rfl ?_
      refine S.inBlock (S.region rfl ?_)
      refine O.op (.p rfl) (.mv rfl) ?_
      refine O.op (.p rfl) (.add rfl rfl (IntWalk.i64_in _ (by omega))) ?_
      refine O.op (.p rfl) (.as rfl) ?_
      refine O.nil ?_
      refine S.pk ?_ (S.weaken ?_ (ih (k + 1) (by omega) (by omega)))
      · repeat (first | exact Picks.all | exact Picks.nil | (apply Picks.cons; focus (repeat (first | exact Sel.here | apply Sel.there))) | apply Picks.skip)
      repeat (first | exact Sub.nil | refine Sub.cons rfl ?_)
  · have hk : k = vs.length := by omega
    subst hk
    clear ih
    rw [List.take_length]
    refine S.pk (ζ := [EachP (LstP PktRp 3 35) vs (mkAll markPkt ns vs.length)]) (by repeat (first | exact Picks.all | exact Picks.nil | (apply Picks.cons; focus (repeat (first | exact Sel.here | apply Sel.there))) | apply Picks.skip)) ?_
    -- each is grown, one by one
    refine S.exit rfl ?_
    refine S.seq (S.region rfl ?_)
    refine O.op (.p rfl) (.mv rfl) ?_
    refine O.op (.p rfl) (.len rfl Go.Proofs.Tryz.underlying50 rfl) ?_
    refine O.opE (.p rfl) (.makeP (T := Rp.val) (.slice none 0 0) (m := vs.length) Go.Proofs.Tryz.underlying50 FactFlatPackets.elem29 (by decide) ⟨rfl, rfl⟩ rfl rfl rfl rfl (by omega) (by omega)) ?_
    rintro v42 _ ⟨a42, c42, rfl, rfl⟩
    refine O.op (.p rfl) (.as rfl) ?_
    refine O.nil ?_
    refine S.seq (S.seq (S.region rfl ?_))
    refine O.op (.p rfl) (.as rfl) ?_
    refine O.nil ?_
    refine S.block ?_
    refine S.each0 (TwoG PktRp 3 35) ?_
    refine S.loopK2 (ι := Nat) (κ := List Value) (fun k us => k ≤ vs.length ∧ us.length = k) (fun k us => [(6, .int .i64 (k : Int))]) [(0, _), (5, _)] (fun k us => [EachP (TwoG PktRp 3 35) ((vs.take k).zip us) (prX markPkt ns k), OwnP Rp.val 29 (.slice a42 vs.length c42) (us ++ List.replicate (vs.length - k) (.slice none 0 0)), EachP (LstP PktRp 3 35) (vs.drop k) ((mkAll markPkt ns vs.length).drop k)]) (fun k us => vs.length - k) (0) ([]) (by exact ⟨by simp, rfl⟩) (.cons rfl (.nil)) (.cons rfl (.cons rfl (.nil))) rfl fun k us hx ih => ?_
    have hm2 := meltRefl (g := g)
    obtain ⟨hx1, hus⟩ := hx
    refine S.seq (S.seq (S.region rfl ?_))
    refine O.op (.p rfl) (.mv rfl) ?_
    refine O.op (.p rfl) (.mv rfl) ?_
    refine O.op (.p rfl) (.len rfl Go.Proofs.Tryz.underlying50 rfl) ?_
    refine O.op (.p rfl) (.lss rfl rfl) ?_
    refine O.nil ?_
    first | refine S.condD rfl (fun h46 => ?_) (fun h46 => ?_) | refine S.condB rfl (fun h46 => ?_) (fun h46 => ?_)
    · have hk : k < vs.length := by omega
      have hkn : k < ns.length := by omega
      have hrow := hnb k hkn
      rw [List.drop_eq_getElem_cons hk, mkAll_drop markPkt ns vs.length k hk hkn]
      refine S.eachPop (by repeat (first | exact Sel.here | apply Sel.there)) ?_
      refine S.factS Sel.here (fun _ x => (LstP.arr (K := 3) rfl x).shape) fun ⟨ak, ck, hvk⟩ => ?_
      rw [mkL_length] at hvk
      rw [hvk]
      generalize hnke : ns[k] = nk at hrow hvk ⊢
      refine S.lstOpen (by repeat (first | exact Sel.here | apply Sel.there)) fun css hcl => ?_
      rw [mkL_length] at hcl
      refine S.twoStart Sel.here ?_
      refine S.each0 (RdW PktRp) ?_
      refine S.skip (S.seq (S.block (S.seq (S.region rfl ?_))))
      refine O.op (.p rfl) (.mv rfl) ?_
      refine O.op (.p rfl) (.mv rfl) ?_
      refine O.idx' (.p rfl) Go.Proofs.Tryz.underlying50 FactFlatPackets.size29 rfl rfl rfl (hls) (by decide) (by first | omega | (simp; done) | (simp; omega) | decide) (fun p51 cs51 hp51 hr51 => ?_)
      obtain ⟨rfl, _⟩ := hr51
      refine O.op (.p rfl) (.loadAt FactFlatPackets.flat29 rfl hp51 rfl) ?_
      refine O.slot 52 (v' := .slice ak nk ck) rfl (by exact hvk) ?_
      refine O.op (.p rfl) (.as rfl) ?_
      refine O.nil ?_
      refine S.seq (S.seq (S.region rfl ?_))
      refine O.op (.p rfl) (.as rfl) ?_
      refine O.nil ?_
      refine S.block ?_
      refine S.loopK4 (ι := Nat) (κ := Option Addr) (υ := Nat) (τ := List (List Value)) (fun i a c ds => i ≤ 64 ∧ ds.length = i) (fun i a c ds => [(8, .int .i64 (i : Int)), (7, .slice a (nk + i) c)]) [(0, _), (5, _), (6, _)] (fun i a c ds => [EachP (RdW PktRp) ds (mkX markPkt k nk i), Two (Rp.cells 3) 35 (.slice ak nk ck) css (.slice a (nk + i) c) ds, EachP (RdW PktRp) css (mkL markPkt k nk), EachP (LstP PktRp 3 35) (vs.drop (k + 1)) ((mkAll markPkt ns vs.length).drop (k + 1)), EachP (TwoG PktRp 3 35) ((vs.take k).zip us) (prX markPkt ns k), OwnP Rp.val 29 (.slice a42 vs.length c42) (us ++ List.replicate (vs.length - k) (.slice none 0 0))]) (fun i a c ds => 64 - i) (0) (ak) (ck) ([]) (by exact ⟨by simp, rfl⟩) (.cons rfl (.cons rfl (.nil))) (.cons rfl (.cons rfl (.cons rfl (.nil)))) rfl fun i a c ds hx ih => ?_
      have hm3 := meltRefl (g := g)
      obtain ⟨hx2, hds⟩ := hx
      refine S.seq (S.seq (S.region rfl ?_))
      refine O.op (.p rfl) (.mv rfl) ?_
      refine O.op (.p rfl) (.lss rfl rfl) ?_
      refine O.nil ?_
      first | refine S.condD rfl (fun h54 => ?_) (fun h54 => ?_) | refine S.condB rfl (fun h54 => ?_) (fun h54 => ?_)
      · have hi : i < 64 := by omega
        refine S.skip (S.seq (S.block (S.region rfl ?_)))
        refine O.op (.p rfl) (.mv rfl) ?_
        refine O.op (.p rfl) (.mv rfl) ?_
        refine O.op (.p rfl) (.mv rfl) ?_
        refine O.op (.p rfl) (.mv rfl) ?_
        refine O.idx' (.p rfl) Go.Proofs.Tryz.underlying50 FactFlatPackets.size29 rfl rfl rfl (hls) (by decide) (by first | omega | (simp; done) | (simp; omega) | decide) (fun p61 cs61 hp61 hr61 => ?_)
        obtain ⟨rfl, _⟩ := hr61
        refine O.op (.p rfl) (.loadAt FactFlatPackets.flat29 rfl hp61 rfl) ?_
        refine O.slot 62 (v' := .slice ak nk ck) rfl (by exact hvk) ?_
        refine O.op (.p rfl) (.len rfl Go.Proofs.Tryz.underlying29 rfl) ?_
        refine O.op (.p rfl) (.mv rfl) ?_
        refine O.op (.p rfl) (.add rfl rfl (IntWalk.i64_in _ (by omega))) ?_
        refine O.call0 (.p rfl) rfl FactFlatPackets.ok36 rfl rfl ((markPacket_w _ _ (by constructor <;> omega) (by constructor <;> omega))) ?_
        rintro v66 _ ⟨cs66, rfl, hc66, rfl⟩
        try simp only [List.cons_append, List.nil_append, List.append_nil]
        refine O.opE (.p rfl) (.litP (T := Rp.cells 3) (ys := [cs66]) Go.Proofs.Tryz.underlying29 FactFlatPackets.elem35 (by decide) rfl rfl ⟨⟨rfl, hc66.1, hc66.2⟩, trivial⟩ (by decide)) ?_
        rintro v67 _ ⟨a67, c67, rfl, rfl⟩
        refine O.frzA (by repeat (first | exact Sel.here | apply Sel.there)) fun g hs hm ha67 => ?_
        replace hg := Fr.sub_trans hg hs
        replace hR := melted hR hm
        try replace hls := hls.mono hs
        try replace hp51 := hp51.mono hs
        try replace hp61 := hp61.mono hs
        replace hm1 := meltTrans hm1 hm
        replace hm2 := meltTrans hm2 hm
        replace hm3 := meltTrans hm3 hm
        clear hs hm
        refine O.opE (.p rfl) (.appendTwo (pure_cells 3) Go.Proofs.Tryz.underlying29 FactFlatPackets.elem35 (by decide) rfl rfl (by repeat (first | exact Sel.here | apply Sel.there)) ha67 (by simp; omega) (by simp; omega)) ?_
        rintro v68 _ ⟨a68, c68, rfl, rfl⟩
        refine O.op (.p rfl) (.as rfl) ?_
        refine O.nil ?_
        refine S.inBlock (S.region rfl ?_)
        refine O.op (.p rfl) (.mv rfl) ?_
        refine O.op (.p rfl) (.add rfl rfl (IntWalk.i64_in _ (by omega))) ?_
        refine O.op (.p rfl) (.as rfl) ?_
        refine O.nil ?_
        refine S.each (A := RdW PktRp) (bs := ds) (b := cs66) (a := markPkt (k : Int) ((nk : Int) + (i : Int))) (by repeat (first | exact Sel.here | apply Sel.there)) (by repeat (first | exact Sel.here | apply Sel.there)) ?_
        rw [mkX_succ]
        simp only [hcl, hds, List.length_singleton]
        refine S.pk ?_ (S.melt hm3 (S.weaken ?_ (ih (i + 1) (a68) (c68) (ds ++ [cs66]) (by exact ⟨by omega, by simp; omega⟩) (by omega))))
        · repeat (first | exact Picks.all | exact Picks.nil | (apply Picks.cons; focus (repeat (first | exact Sel.here | apply Sel.there))) | apply Picks.skip)
        repeat (first | exact Sub.nil | refine Sub.cons rfl ?_)
      · clear ih
        have hi : i = 64 := by omega
        subst hi
        refine S.exit rfl ?_
        refine S.region rfl ?_
        refine O.op (.p rfl) (.mv rfl) ?_
        refine O.op (.p rfl) (.mv rfl) ?_
        refine O.op (.p rfl) (.mv rfl) ?_
        refine O.opE (.p rfl) (.idxOwn (T := Rp.val) Go.Proofs.Tryz.underlying50 FactFlatPackets.size29 rfl rfl rfl (by repeat (first | exact Sel.here | apply Sel.there)) (by first | omega | (simp; done) | (simp; omega))) ?_
        rintro _ _ ⟨p72, rfl, hp72, rfl⟩
        refine O.opU rfl (.storeOwn FactFlatPackets.size29 rfl hp72 rfl (by repeat (first | exact Sel.here | apply Sel.there)) (by first | omega | (simp; done) | (simp; omega)) (⟨rfl, rfl⟩ : Rp.rel Rp.val _ _ (.slice a (nk + 64) c))) ?_
        refine O.nil ?_
        refine S.inBlock (S.region rfl ?_)
        refine O.op (.p rfl) (.mv rfl) ?_
        refine O.op (.p rfl) (.add rfl rfl (IntWalk.i64_in _ (by omega))) ?_
        refine O.op (.p rfl) (.as rfl) ?_
        refine O.nil ?_
        rw [set_fill hus hk]
        refine S.twoShut (by repeat (first | exact Sel.here | apply Sel.there)) (by repeat (first | exact Sel.here | apply Sel.there)) (by repeat (first | exact Sel.here | apply Sel.there)) ?_
        refine S.each (A := TwoG PktRp 3 35) (bs := (vs.take k).zip us) (b := (.slice ak nk ck, .slice a (nk + 64) c)) (a := (mkL markPkt k nk, mkX markPkt k nk 64)) (by repeat (first | exact Sel.here | apply Sel.there)) (by repeat (first | exact Sel.here | apply Sel.there)) ?_
        have hp := prX_succ markPkt ns k hkn
        rw [hnke] at hp
        rw [hp, zip_snoc hk hus hvk]
        refine S.pk ?_ (S.weaken ?_ (ih (k + 1) (us ++ [.slice a (nk + 64) c]) (by exact ⟨by omega, by simp; omega⟩) (by omega)))
        · repeat (first | exact Picks.all | exact Picks.nil | (apply Picks.cons; focus (repeat (first | exact Sel.here | apply Sel.there))) | apply Picks.skip)
        repeat (first | exact Sub.nil | refine Sub.cons rfl ?_)
    · clear ih
      have hk : k = vs.length := by omega
      subst hk
      rw [List.take_length, Nat.sub_self, List.replicate_zero, List.append_nil, List.drop_length]
      refine S.exit rfl ?_
      refine S.seq (S.seq (S.region rfl ?_))
      refine O.op (.p rfl) (.as rfl) ?_
      refine O.nil ?_
      refine S.block ?_
      -- all are looked at
      refine S.frzT (B := OwnP Rp.val 29 (.slice a42 vs.length c42) us) (by repeat (first | exact Sel.here | apply Sel.there)) fun g1 hs1 ⟨m1, hm1', hsm1⟩ th1 => ?_
      refine S.frzT (B := EachP (TwoG PktRp 3 35) (vs.zip us) (prX markPkt ns vs.length)) (by repeat (first | exact Sel.here | apply Sel.there)) fun g2 hs2 ⟨m2, hm2', hsm2⟩ th2 => ?_
      have hgs : Arr Rp.val g2.h (.slice a42 vs.length c42) us := hm1'.arr.mono (Fr.sub_trans hsm1 hs2)
      have hls0 := hls
      replace hls := hls.mono (Fr.sub_trans hs1 hs2)
      have htw := fun k h1 h2 h3 => twoG_arr_x markPkt (K := 3) rfl hm2' hsm2 rfl hus k h1 h2 h3
      refine S.loopK (ι := Nat) (fun k => k ≤ vs.length) (fun k => [(9, .int .i64 (k : Int))]) [(0, _), (5, _)] (fun k => [EachP (LstP PktRp 3 35) [] ((mkAll markPkt ns vs.length).drop vs.length)]) (fun k => vs.length - k) (0) (by simp) (.cons rfl (.nil)) (.cons rfl (.cons rfl (.nil))) rfl fun k hx ih => ?_
      have hm3 := meltRefl (g := g)
      refine S.seq (S.seq (S.region rfl ?_))
      refine O.op (.p rfl) (.mv rfl) ?_
      refine O.op (.p rfl) (.mv rfl) ?_
      refine O.op (.p rfl) (.len rfl Go.Proofs.Tryz.underlying50 rfl) ?_
      refine O.op (.p rfl) (.lss rfl rfl) ?_
      refine O.nil ?_
      first | refine S.condD rfl (fun h76 => ?_) (fun h76 => ?_) | refine S.condB rfl (fun h76 => ?_) (fun h76 => ?_)
      · have hk : k < vs.length := by omega
        have hkn : k < ns.length := by omega
        have hku : k < us.length := by omega
        have hrow := hnb k hkn
        obtain ⟨hA, hB⟩ := htw k hk hku hkn
        generalize ns[k] = nk at hA hB hrow
        obtain ⟨ak, ck, hvk⟩ := hA.shape
        obtain ⟨au, cu, huk⟩ := hB.shape
        rw [hvk] at hA
        rw [huk] at hB
        rw [mkL_length] at hvk huk hA hB
        refine S.skip (S.seq (S.block (S.seq (S.region rfl ?_))))
        refine O.op (.p rfl) (.as rfl) ?_
        refine O.nil ?_
        refine S.block ?_
        refine S.loopK (ι := Nat) (fun i => i ≤ nk + 64) (fun i => [(10, .int .i64 (i : Int))]) [(0, _), (5, _), (9, _)] (fun i => [EachP (LstP PktRp 3 35) [] ((mkAll markPkt ns vs.length).drop vs.length)]) (fun i => nk + 64 - i) (0) (by simp) (.cons rfl (.nil)) (.cons rfl (.cons rfl (.cons rfl (.nil)))) rfl fun i hx ih => ?_
        have hm4 := meltRefl (g := g)
        refine S.seq (S.seq (S.region rfl ?_))
        refine O.op (.p rfl) (.mv rfl) ?_
        refine O.op (.p rfl) (.mv rfl) ?_
        refine O.op (.p rfl) (.mv rfl) ?_
        refine O.idx' (.p rfl) Go.Proofs.Tryz.underlying50 FactFlatPackets.size29 rfl rfl rfl (hgs) (by decide) (by first | omega | (simp; done) | (simp; omega) | decide) (fun p82 cs82 hp82 hr82 => ?_)
        obtain ⟨rfl, _⟩ := hr82
        refine O.op (.p rfl) (.loadAt FactFlatPackets.flat29 rfl hp82 rfl) ?_
        refine O.slot 83 (v' := .slice au (nk + 64) cu) rfl (by exact huk) ?_
        refine O.op (.p rfl) (.len rfl Go.Proofs.Tryz.underlying29 rfl) ?_
        refine O.op (.p rfl) (.lss rfl rfl) ?_
        refine O.nil ?_
        first | refine S.condD rfl (fun h85 => ?_) (fun h85 => ?_) | refine S.condB rfl (fun h85 => ?_) (fun h85 => ?_)
        · have hi : i < nk + 64 := by omega
          refine S.skip (S.seq (S.block (S.seq (S.regionD (L := [0, 1, 2, 3, 4, 5, 6, 7, 8, 9, 10, 11, 12, 13, 14, 15, 16, 17, 18, 19, 20, 21, 22, 23, 24, 25, 26, 27, 28, 29, 30, 31, 32, 33, 34]) FactFlatPackets.mixed (by kernel_rfl) ?_))))
          refine .quiet (.p rfl) rfl (fun _ => .mv rfl) ?_
          refine .quiet (.p rfl) rfl (fun _ => .mv rfl) ?_
          refine OD.idx' (.p rfl) Go.Proofs.Tryz.underlying50 FactFlatPackets.size29 rfl rfl rfl (hgs) (by decide) (by first | omega | (simp; done) | (simp; omega) | decide) (fun p90 cs90 hp90 hr90 => ?_)
          obtain ⟨rfl, _⟩ := hr90
          refine .quiet (.p rfl) rfl (fun _ => .loadAt FactFlatPackets.flat29 rfl hp90 rfl) ?_
          refine OD.slot 91 (v' := .slice au (nk + 64) cu) rfl (by exact huk) ?_
          refine .quiet (.p rfl) rfl (fun _ => .mv rfl) ?_
          refine OD.idx' (.p rfl) Go.Proofs.Tryz.underlying29 FactFlatPackets.size35 rfl rfl rfl (hB) (by decide) (by first | omega | (simp; done) | (simp; omega) | decide) (fun p93 cs93 hp93 hr93 => ?_)
          skip
          refine .quiet (.p rfl) rfl (fun _ => .loadAgg Go.Proofs.Tryz.isAgg35 (by rw [PktRp.len hr93]; kernel_rfl) rfl hp93) ?_
          refine .quiet (.p rfl) rfl (fun _ => .mv rfl) ?_
          refine .quiet (.p rfl) rfl (fun _ => .mv rfl) ?_
          refine OD.call0 (.p rfl) (by kernel_rfl) rfl FactFlatPackets.ok36 rfl rfl ((markPacket_w _ _ (by constructor <;> omega) (by constructor <;> omega))) ?_
          rintro v97 _ ⟨cs97, rfl, hc97, rfl⟩
          try simp only [List.cons_append, List.nil_append, List.append_nil]
          refine OD.callSs (.p rfl) (by kernel_rfl) rfl FactFlatPackets.ok12 rfl rfl (by repeat (first | exact Sels.nil | (apply Sels.cons; focus (repeat (first | exact Sel.here | apply Sel.there))))) (samePacket_w hr93) ?_
          rintro v98 _ ⟨rfl, rfl⟩
          try simp only [List.cons_append, List.nil_append, List.append_nil]
          refine OD.slot 98 (v' := .bool true) rfl (congrArg Value.bool (by simp [mkL])) ?_
          refine .quiet (.p rfl) rfl (fun _ => .not rfl) ?_
          refine .quiet (.p rfl) rfl (fun _ => .mv rfl) ?_
          refine .quiet (.g rfl rfl) rfl (fun _ => .mv rfl) ?_
          refine .quiet (.g rfl rfl) rfl (fun _ => .mv rfl) ?_
          refine .quiet (.g rfl rfl) rfl (fun _ => .mv rfl) ?_
          refine OD.idx' (.g rfl rfl) Go.Proofs.Tryz.underlying50 FactFlatPackets.size29 rfl rfl rfl (hls) (by decide) (by first | omega | (simp; done) | (simp; omega) | decide) (fun p104 cs104 hp104 hr104 => ?_)
          obtain ⟨rfl, _⟩ := hr104
          refine .quiet (.g rfl rfl) rfl (fun _ => .loadAt FactFlatPackets.flat29 rfl hp104 rfl) ?_
          refine OD.slot 105 (v' := .slice ak nk ck) rfl (by exact hvk) ?_
          refine .quiet (.g rfl rfl) rfl (fun _ => .len rfl Go.Proofs.Tryz.underlying29 rfl) ?_
          refine .quiet (.g rfl rfl) rfl (fun _ => .lss rfl rfl) ?_
          refine .quiet (.g rfl rfl) rfl (fun _ => .mv rfl) ?_
          first | refine OD.caseD 108 rfl (fun h108 => ?_) (fun h108 => ?_) | refine OD.caseB 108 rfl (fun h108 => ?_) (fun h108 => ?_)
          · have hi2 : i < nk := by omega
            refine .quiet (.g rfl rfl) rfl (fun _ => .mv rfl) ?_
            refine .quiet (.g rfl rfl) rfl (fun _ => .mv rfl) ?_
            refine OD.idx' (.g rfl rfl) Go.Proofs.Tryz.underlying50 FactFlatPackets.size29 rfl rfl rfl (hls) (by decide) (by first | omega | (simp; done) | (simp; omega) | decide) (fun p111 cs111 hp111 hr111 => ?_)
            obtain ⟨rfl, _⟩ := hr111
            refine .quiet (.g rfl rfl) rfl (fun _ => .loadAt FactFlatPackets.flat29 rfl hp111 rfl) ?_
            refine OD.slot 112 (v' := .slice ak nk ck) rfl (by exact hvk) ?_
            refine .quiet (.g rfl rfl) rfl (fun _ => .mv rfl) ?_
            refine OD.idx' (.g rfl rfl) Go.Proofs.Tryz.underlying29 FactFlatPackets.size35 rfl rfl rfl (hA) (by decide) (by first | omega | (simp; done) | (simp; omega) | decide) (fun p114 cs114 hp114 hr114 => ?_)
            skip
            refine .quiet (.g rfl rfl) rfl (fun _ => .loadAgg Go.Proofs.Tryz.isAgg35 (by rw [PktRp.len hr114]; kernel_rfl) rfl hp114) ?_
            refine .quiet (.g rfl rfl) rfl (fun _ => .mv rfl) ?_
            refine .quiet (.g rfl rfl) rfl (fun _ => .mv rfl) ?_
            refine OD.call0 (.g rfl rfl) (by kernel_rfl) rfl FactFlatPackets.ok36 rfl rfl ((markPacket_w _ _ (by constructor <;> omega) (by constructor <;> omega))) ?_
            rintro v118 _ ⟨cs118, rfl, hc118, rfl⟩
            try simp only [List.cons_append, List.nil_append, List.append_nil]
            refine OD.callSs (.g rfl rfl) (by kernel_rfl) rfl FactFlatPackets.ok12 rfl rfl (by repeat (first | exact Sels.nil | (apply Sels.cons; focus (repeat (first | exact Sel.here | apply Sel.there))))) (samePacket_w hr114) ?_
            rintro v119 _ ⟨rfl, rfl⟩
            try simp only [List.cons_append, List.nil_append, List.append_nil]
            refine OD.slot 119 (v' := .bool true) rfl (congrArg Value.bool (by simp [mkL])) ?_
            refine .quiet (.g rfl rfl) rfl (fun _ => .not rfl) ?_
            refine .quiet (.g rfl rfl) rfl (fun _ => .pickT rfl rfl) ?_
            refine .quiet (.p rfl) rfl (fun _ => .pickF rfl rfl) ?_
            refine .nil ?_
            refine S.condF rfl ?_
            refine S.skip (S.inBlock (S.region rfl ?_))
            refine O.op (.p rfl) (.mv rfl) ?_
            refine O.op (.p rfl) (.add rfl rfl (IntWalk.i64_in _ (by omega))) ?_
            refine O.op (.p rfl) (.as rfl) ?_
            refine O.nil ?_
            refine S.weaken ?_ (ih (i + 1) (by omega) (by omega))
            repeat (first | exact Sub.nil | refine Sub.cons rfl ?_)
          · refine .no rfl rfl rfl rfl ?_
            refine .no rfl rfl rfl rfl ?_
            refine .no rfl rfl rfl rfl ?_
            refine .no rfl rfl rfl rfl ?_
            refine .no rfl rfl rfl rfl ?_
            refine .no rfl rfl rfl rfl ?_
            refine .no rfl rfl rfl rfl ?_
            refine .no rfl rfl rfl rfl ?_
            refine .no rfl rfl rfl rfl ?_
            refine .no rfl rfl rfl rfl ?_
            refine .no rfl rfl rfl rfl ?_
            refine .no rfl rfl rfl rfl ?_
            refine .quiet (.g rfl rfl) rfl (fun _ => .pickF rfl rfl) ?_
            refine .quiet (.p rfl) rfl (fun _ => .pickF rfl rfl) ?_
            refine .nil ?_
            refine S.condF rfl ?_
            refine S.skip (S.inBlock (S.region rfl ?_))
            refine O.op (.p rfl) (.mv rfl) ?_
            refine O.op (.p rfl) (.add rfl rfl (IntWalk.i64_in _ (by omega))) ?_
            refine O.op (.p rfl) (.as rfl) ?_
            refine O.nil ?_
            refine S.weaken ?_ (ih (i + 1) (by omega) (by omega))
            repeat (first | exact Sub.nil | refine Sub.cons rfl ?_)
        · clear ih
          refine S.exit rfl ?_
          refine S.inBlock (S.region rfl ?_)
          refine O.op (.p rfl) (.mv rfl) ?_
          refine O.op (.p rfl) (.add rfl rfl (IntWalk.i64_in _ (by omega))) ?_
          refine O.op (.p rfl) (.as rfl) ?_
          refine O.nil ?_
          refine S.weaken ?_ (ih (k + 1) (by omega) (by omega))
          repeat (first | exact Sub.nil | refine Sub.cons rfl ?_)
      · clear ih
        refine S.exit rfl ?_
        refine S.seq (S.seq (S.region rfl ?_))
        refine O.op (.p rfl) (.as rfl) ?_
        refine O.nil ?_
        refine S.block ?_
        refine th2 (th1 ?_)
        replace hls := hls0
        clear htw hgs hls0
        -- each is grown by many at once
        refine S.each0 (TwoG PktRp 3 35) ?_
        refine S.loopK2 (ι := Nat) (κ := List Value) (fun k vs2 => k ≤ vs.length ∧ vs2.length = k) (fun k vs2 => [(11, .int .i64 (k : Int))]) [(0, _), (5, _)] (fun k vs2 => [EachP (TwoG PktRp 3 35) ((vs.take k).zip vs2) (prM markPkt ns vs.length k), OwnP Rp.val 29 (.slice a42 vs.length c42) (vs2 ++ us.drop k), EachP (TwoG PktRp 3 35) ((vs.zip us).drop k) ((prX markPkt ns vs.length).drop k), EachP (LstP PktRp 3 35) [] ((mkAll markPkt ns vs.length).drop vs.length)]) (fun k vs2 => vs.length - k) (0) ([]) (by exact ⟨by simp, rfl⟩) (.cons rfl (.nil)) (.cons rfl (.cons rfl (.nil))) rfl fun k vs2 hx ih => ?_
        have hm4 := meltRefl (g := g)
        obtain ⟨hx1, hvs2⟩ := hx
        refine S.seq (S.seq (S.region rfl ?_))
        refine O.op (.p rfl) (.mv rfl) ?_
        refine O.op (.p rfl) (.mv rfl) ?_
        refine O.op (.p rfl) (.len rfl Go.Proofs.Tryz.underlying50 rfl) ?_
        refine O.op (.p rfl) (.lss rfl rfl) ?_
        refine O.nil ?_
        first | refine S.condD rfl (fun h126 => ?_) (fun h126 => ?_) | refine S.condB rfl (fun h126 => ?_) (fun h126 => ?_)
        · have hk : k < vs.length := by omega
          have hkn : k < ns.length := by omega
          have hku : k < us.length := by omega
          have hrow := hnb k hkn
          have hz : (vs.zip us).drop k = (vs[k], us[k]) :: (vs.zip us).drop (k + 1) := by rw [List.drop_eq_getElem_cons (by simp; omega), List.getElem_zip]
          rw [hz, prX_drop markPkt ns vs.length k hk hkn]
          refine S.eachPop (by repeat (first | exact Sel.here | apply Sel.there)) ?_
          refine S.conv (B := TwoG PktRp 3 35 (vs[k], us[k]) (mkL markPkt k ns[k], mkX markPkt k ns[k] 64)) (C := LstP PktRp 3 35 vs[k] (mkL markPkt k ns[k])) (by repeat (first | exact Sel.here | apply Sel.there)) (fun _ x => TwoG.lst x) ?_
          refine S.factS Sel.here (fun _ x => (LstP.arr (K := 3) rfl x).shape) fun ⟨ak, ck, hvk⟩ => ?_
          rw [mkL_length] at hvk
          rw [hvk]
          generalize hnke : ns[k] = nk at hrow hvk ⊢
          refine S.lstOpen (by repeat (first | exact Sel.here | apply Sel.there)) fun css hcl => ?_
          rw [mkL_length] at hcl
          refine S.twoStart Sel.here ?_
          refine S.skip (S.seq (S.block (S.seq (S.region rfl ?_))))
          refine O.opE (.p rfl) (.makeP (T := Rp.cells 3) ([.int .i64 0, .int .i64 0, .slice none 0 0] : List Value) (m := 64) Go.Proofs.Tryz.underlying29 FactFlatPackets.elem35 (by decide) ⟨rfl, rfl, by first | (simp; done) | (intro v hv; simp [Value.cells] at hv; rcases hv with rfl | rfl <;> rfl) | (refine List.forall_mem_cons.2 ⟨rfl, ?_⟩; repeat (first | exact (fun _ h => absurd h List.not_mem_nil) | refine List.forall_mem_cons.2 ⟨rfl, ?_⟩))⟩ rfl rfl rfl rfl (by decide) (by decide)) ?_
          rintro v129 _ ⟨a129, c129, rfl, rfl⟩
          refine O.op (.p rfl) (.as rfl) ?_
          refine O.nil ?_
          refine S.seq (S.seq (S.region rfl ?_))
          refine O.op (.p rfl) (.as rfl) ?_
          refine O.nil ?_
          refine S.block ?_
          refine S.each0 (RdW PktRp) ?_
          refine S.loopK2 (ι := Nat) (κ := List (List Value)) (fun i ms => i ≤ 64 ∧ ms.length = i) (fun i ms => [(13, .int .i64 (i : Int))]) [(0, _), (5, _), (11, _), (12, _)] (fun i ms => [EachP (RdW PktRp) ms (mkM markPkt k vs.length i), OwnP (Rp.cells 3) 35 (.slice a129 64 c129) (ms ++ List.replicate (64 - i) [.int .i64 0, .int .i64 0, .slice none 0 0]), Two (Rp.cells 3) 35 (.slice ak nk ck) css (.slice ak nk ck) [], EachP (RdW PktRp) css (mkL markPkt k nk), EachP (TwoG PktRp 3 35) ((vs.zip us).drop (k + 1)) ((prX markPkt ns vs.length).drop (k + 1)), EachP (TwoG PktRp 3 35) ((vs.take k).zip vs2) (prM markPkt ns vs.length k), OwnP Rp.val 29 (.slice a42 vs.length c42) (vs2 ++ us.drop k), EachP (LstP PktRp 3 35) [] ((mkAll markPkt ns vs.length).drop vs.length)]) (fun i ms => 64 - i) (0) ([]) (by exact ⟨by simp, rfl⟩) (.cons rfl (.nil)) (.cons rfl (.cons rfl (.cons rfl (.cons rfl (.nil))))) rfl fun i ms hx ih => ?_
          have hm5 := meltRefl (g := g)
          obtain ⟨hx2, hms⟩ := hx
          refine S.seq (S.seq (S.region rfl ?_))
          refine O.op (.p rfl) (.mv rfl) ?_
          refine O.op (.p rfl) (.lss rfl rfl) ?_
          refine O.nil ?_
          first | refine S.condD rfl (fun h131 => ?_) (fun h131 => ?_) | refine S.condB rfl (fun h131 => ?_) (fun h131 => ?_)
          · have hi : i < 64 := by omega
            refine S.skip (S.seq (S.block (S.region rfl ?_)))
            refine O.op (.p rfl) (.mv rfl) ?_
            refine O.op (.p rfl) (.mv rfl) ?_
            refine O.op (.p rfl) (.mv rfl) ?_
            refine O.op (.p rfl) (.mv rfl) ?_
            refine O.op (.p rfl) (.len rfl Go.Proofs.Tryz.underlying50 rfl) ?_
            refine O.op (.p rfl) (.add rfl rfl (IntWalk.i64_in _ (by omega))) ?_
            refine O.op (.p rfl) (.mv rfl) ?_
            refine O.call0 (.p rfl) rfl FactFlatPackets.ok36 rfl rfl ((markPacket_w _ _ (by constructor <;> omega) (by constructor <;> omega))) ?_
            rintro v141 _ ⟨cs141, rfl, hc141, rfl⟩
            try simp only [List.cons_append, List.nil_append, List.append_nil]
            refine O.opE (.p rfl) (.idxOwn (T := (Rp.cells 3)) Go.Proofs.Tryz.underlying29 FactFlatPackets.size35 rfl rfl rfl (by repeat (first | exact Sel.here | apply Sel.there)) (by first | omega | (simp; done) | (simp; omega))) ?_
            rintro _ _ ⟨p142, rfl, hp142, rfl⟩
            refine O.opU rfl (.storeOwn FactFlatPackets.size35 rfl hp142 rfl (by repeat (first | exact Sel.here | apply Sel.there)) (by first | omega | (simp; done) | (simp; omega)) (⟨rfl, hc141.1, hc141.2⟩ : (Rp.cells 3).rel Fr.emp cs141 cs141)) ?_
            refine O.nil ?_
            refine S.inBlock (S.region rfl ?_)
            refine O.op (.p rfl) (.mv rfl) ?_
            refine O.op (.p rfl) (.add rfl rfl (IntWalk.i64_in _ (by omega))) ?_
            refine O.op (.p rfl) (.as rfl) ?_
            refine O.nil ?_
            rw [set_fill hms hi]
            refine S.each (A := RdW PktRp) (bs := ms) (b := cs141) (a := markPkt ((k : Int) + (vs.length : Int)) (i : Int)) (by repeat (first | exact Sel.here | apply Sel.there)) (by repeat (first | exact Sel.here | apply Sel.there)) ?_
            rw [mkM_succ]
            refine S.pk ?_ (S.weaken ?_ (ih (i + 1) (ms ++ [cs141]) (by exact ⟨by omega, by simp; omega⟩) (by omega)))
            · repeat (first | exact Picks.all | exact Picks.nil | (apply Picks.cons; focus (repeat (first | exact Sel.here | apply Sel.there))) | apply Picks.skip)
            repeat (first | exact Sub.nil | refine Sub.cons rfl ?_)
          · clear ih
            have hi : i = 64 := by omega
            subst hi
            rw [Nat.sub_self, List.replicate_zero, List.append_nil]
            refine S.frzA (by repeat (first | exact Sel.here | apply Sel.there)) fun g hs hm hmany => ?_
            replace hg := Fr.sub_trans hg hs
            replace hR := melted hR hm
            try replace hls := hls.mono hs
            try replace hgs := hgs.mono hs
            replace hm1 := meltTrans hm1 hm
            replace hm2 := meltTrans hm2 hm
            replace hm3 := meltTrans hm3 hm
            replace hm4 := meltTrans hm4 hm
            replace hm5 := meltTrans hm5 hm
            clear hs hm
            refine S.exit rfl ?_
            refine S.region rfl ?_
            refine O.op (.p rfl) (.mv rfl) ?_
            refine O.op (.p rfl) (.mv rfl) ?_
            refine O.op (.p rfl) (.mv rfl) ?_
            refine O.op (.p rfl) (.mv rfl) ?_
            refine O.idx' (.p rfl) Go.Proofs.Tryz.underlying50 FactFlatPackets.size29 rfl rfl rfl (hls) (by decide) (by first | omega | (simp; done) | (simp; omega) | decide) (fun p147 cs147 hp147 hr147 => ?_)
            obtain ⟨rfl, _⟩ := hr147
            refine O.op (.p rfl) (.loadAt FactFlatPackets.flat29 rfl hp147 rfl) ?_
            refine O.slot 148 (v' := .slice ak nk ck) rfl (by exact hvk) ?_
            refine O.op (.p rfl) (.mv rfl) ?_
            refine O.opE (.p rfl) (.appendTwo (pure_cells 3) Go.Proofs.Tryz.underlying29 FactFlatPackets.elem35 (by decide) rfl rfl (by repeat (first | exact Sel.here | apply Sel.there)) hmany (by simp; omega) (by simp; omega)) ?_
            rintro v150 _ ⟨a150, c150, rfl, rfl⟩
            refine O.opE (.p rfl) (.idxOwn (T := Rp.val) Go.Proofs.Tryz.underlying50 FactFlatPackets.size29 rfl rfl rfl (by repeat (first | exact Sel.here | apply Sel.there)) (by first | omega | (simp; done) | (simp; omega))) ?_
            rintro _ _ ⟨p151, rfl, hp151, rfl⟩
            refine O.opU rfl (.storeOwn FactFlatPackets.size29 rfl hp151 rfl (by repeat (first | exact Sel.here | apply Sel.there)) (by first | omega | (simp; done) | (simp; omega)) (⟨rfl, rfl⟩ : Rp.rel Rp.val _ _ (.slice a150 (css.length + 0 + ms.length) c150))) ?_
            refine O.nil ?_
            refine S.inBlock (S.region rfl ?_)
            refine O.op (.p rfl) (.mv rfl) ?_
            refine O.op (.p rfl) (.add rfl rfl (IntWalk.i64_in _ (by omega))) ?_
            refine O.op (.p rfl) (.as rfl) ?_
            refine O.nil ?_
            rw [set_over hvs2 hku]
            simp only [List.nil_append, List.length_nil]
            refine S.twoShut (by repeat (first | exact Sel.here | apply Sel.there)) (by repeat (first | exact Sel.here | apply Sel.there)) (by repeat (first | exact Sel.here | apply Sel.there)) ?_
            refine S.each (A := TwoG PktRp 3 35) (bs := (vs.take k).zip vs2) (b := (.slice ak nk ck, .slice a150 (css.length + 0 + ms.length) c150)) (a := (mkL markPkt k nk, mkM markPkt k vs.length 64)) (by repeat (first | exact Sel.here | apply Sel.there)) (by repeat (first | exact Sel.here | apply Sel.there)) ?_
            have hp := prM_succ markPkt ns vs.length k hkn
            rw [hnke] at hp
            rw [hp, zip_snoc hk hvs2 hvk]
            refine S.pk ?_ (S.melt hm4 (S.weaken ?_ (ih (k + 1) (vs2 ++ [.slice a150 (css.length + 0 + ms.length) c150]) (by exact ⟨by omega, by simp; omega⟩) (by omega))))
            · repeat (first | exact Picks.all | exact Picks.nil | (apply Picks.cons; focus (repeat (first | exact Sel.here | apply Sel.there))) | apply Picks.skip)
            repeat (first | exact Sub.nil | refine Sub.cons rfl ?_)
        · clear ih
          have hk : k = vs.length := by omega
          subst hk
          rw [List.take_length, show us.drop vs.length = [] from by rw [← hus, List.drop_length], List.append_nil]
          -- all are looked at again
          refine S.frz (A := OwnP Rp.val 29 (.slice a42 vs.length c42) vs2) (by repeat (first | exact Sel.here | apply Sel.there)) fun g1 hs1 hme1 ⟨m1, hm1', hsm1⟩ => ?_
          refine S.frz (A := EachP (TwoG PktRp 3 35) (vs.zip vs2) (prM markPkt ns vs.length vs.length)) (by repeat (first | exact Sel.here | apply Sel.there)) fun g2 hs2 hme2 ⟨m2, hm2', hsm2⟩ => ?_
          have hgs : Arr Rp.val g2.h (.slice a42 vs.length c42) vs2 := hm1'.arr.mono (Fr.sub_trans hsm1 hs2)
          replace hls := hls.mono (Fr.sub_trans hs1 hs2)
          replace hR := melted (melted hR hme1) hme2
          have htw := fun k h1 h2 h3 => twoG_arr_m markPkt (K := 3) rfl hm2' hsm2 rfl hvs2 k h1 h2 h3
          refine S.pk Picks.nil ?_
          refine S.exit rfl ?_
          refine S.seq (S.seq (S.region rfl ?_))
          refine O.op (.p rfl) (.as rfl) ?_
          refine O.nil ?_
          refine S.block ?_
          refine S.loopK (ι := Nat) (fun k => k ≤ vs.length) (fun k => [(14, .int .i64 (k : Int))]) [(0, _), (5, _)] (fun k => []) (fun k => vs.length - k) (0) (by simp) (.cons rfl (.nil)) (.cons rfl (.cons rfl (.nil))) rfl fun k hx ih => ?_
          have hm5 := meltRefl (g := g)
          refine S.seq (S.seq (S.region rfl ?_))
          refine O.op (.p rfl) (.mv rfl) ?_
          refine O.op (.p rfl) (.mv rfl) ?_
          refine O.op (.p rfl) (.len rfl Go.Proofs.Tryz.underlying50 rfl) ?_
          refine O.op (.p rfl) (.lss rfl rfl) ?_
          refine O.nil ?_
          first | refine S.condD rfl (fun h155 => ?_) (fun h155 => ?_) | refine S.condB rfl (fun h155 => ?_) (fun h155 => ?_)
          · have hk : k < vs.length := by omega
            have hkn : k < ns.length := by omega
            have hku : k < vs2.length := by omega
            have hrow := hnb k hkn
            obtain ⟨hA, hB⟩ := htw k hk hku hkn
            generalize ns[k] = nk at hA hB hrow
            obtain ⟨ak, ck, hvk⟩ := hA.shape
            obtain ⟨au, cu, huk⟩ := hB.shape
            rw [hvk] at hA
            rw [huk] at hB
            simp only [List.length_append, mkL_length, mkM_length] at hvk huk hA hB
            refine S.skip (S.seq (S.block (S.seq (S.region rfl ?_))))
            refine O.op (.p rfl) (.as rfl) ?_
            refine O.nil ?_
            refine S.block ?_
            refine S.loopK (ι := Nat) (fun i => i ≤ nk) (fun i => [(15, .int .i64 (i : Int))]) [(0, _), (5, _), (14, _)] (fun i => []) (fun i => nk - i) (0) (by simp) (.cons rfl (.nil)) (.cons rfl (.cons rfl (.cons rfl (.nil)))) rfl fun i hx ih => ?_
            have hm6 := meltRefl (g := g)
            refine S.seq (S.seq (S.region rfl ?_))
            refine O.op (.p rfl) (.mv rfl) ?_
            refine O.op (.p rfl) (.mv rfl) ?_
            refine O.op (.p rfl) (.mv rfl) ?_
            refine O.idx' (.p rfl) Go.Proofs.Tryz.underlying50 FactFlatPackets.size29 rfl rfl rfl (hls) (by decide) (by first | omega | (simp; done) | (simp; omega) | decide) (fun p161 cs161 hp161 hr161 => ?_)
            obtain ⟨rfl, _⟩ := hr161
            refine O.op (.p rfl) (.loadAt FactFlatPackets.flat29 rfl hp161 rfl) ?_
            refine O.slot 162 (v' := .slice ak nk ck) rfl (by exact hvk) ?_
            refine O.op (.p rfl) (.len rfl Go.Proofs.Tryz.underlying29 rfl) ?_
            refine O.op (.p rfl) (.lss rfl rfl) ?_
            refine O.nil ?_
            first | refine S.condD rfl (fun h164 => ?_) (fun h164 => ?_) | refine S.condB rfl (fun h164 => ?_) (fun h164 => ?_)
            · have hi : i < nk := by omega
              refine S.skip (S.seq (S.block (S.seq (S.regionD (L := [0, 1, 2, 3, 4, 5, 6, 7, 8, 9, 10, 11, 12, 13, 14, 15, 16, 17, 18, 19, 20, 21, 22, 23, 24, 25]) FactFlatPackets.mixed (by kernel_rfl) ?_))))
              refine .quiet (.p rfl) rfl (fun _ => .mv rfl) ?_
              refine .quiet (.p rfl) rfl (fun _ => .mv rfl) ?_
              refine OD.idx' (.p rfl) Go.Proofs.Tryz.underlying50 FactFlatPackets.size29 rfl rfl rfl (hls) (by decide) (by first | omega | (simp; done) | (simp; omega) | decide) (fun p169 cs169 hp169 hr169 => ?_)
              obtain ⟨rfl, _⟩ := hr169
              refine .quiet (.p rfl) rfl (fun _ => .loadAt FactFlatPackets.flat29 rfl hp169 rfl) ?_
              refine OD.slot 170 (v' := .slice ak nk ck) rfl (by exact hvk) ?_
              refine .quiet (.p rfl) rfl (fun _ => .mv rfl) ?_
              refine OD.idx' (.p rfl) Go.Proofs.Tryz.underlying29 FactFlatPackets.size35 rfl rfl rfl (hA) (by decide) (by first | omega | (simp; done) | (simp; omega) | decide) (fun p172 cs172 hp172 hr172 => ?_)
              skip
              refine .quiet (.p rfl) rfl (fun _ => .loadAgg Go.Proofs.Tryz.isAgg35 (by rw [PktRp.len hr172]; kernel_rfl) rfl hp172) ?_
              refine .quiet (.p rfl) rfl (fun _ => .mv rfl) ?_
              refine .quiet (.p rfl) rfl (fun _ => .mv rfl) ?_
              refine OD.call0 (.p rfl) (by kernel_rfl) rfl FactFlatPackets.ok36 rfl rfl ((markPacket_w _ _ (by constructor <;> omega) (by constructor <;> omega))) ?_
              rintro v176 _ ⟨cs176, rfl, hc176, rfl⟩
              try simp only [List.cons_append, List.nil_append, List.append_nil]
              refine OD.callSs (.p rfl) (by kernel_rfl) rfl FactFlatPackets.ok12 rfl rfl (by repeat (first | exact Sels.nil | (apply Sels.cons; focus (repeat (first | exact Sel.here | apply Sel.there))))) (samePacket_w hr172) ?_
              rintro v177 _ ⟨rfl, rfl⟩
              try simp only [List.cons_append, List.nil_append, List.append_nil]
              refine OD.slot 177 (v' := .bool true) rfl (congrArg Value.bool (by simp [mkL])) ?_
              refine .quiet (.p rfl) rfl (fun _ => .not rfl) ?_
              refine .quiet (.p rfl) rfl (fun _ => .mv rfl) ?_
              refine .quiet (.g rfl rfl) rfl (fun _ => .mv rfl) ?_
              refine .quiet (.g rfl rfl) rfl (fun _ => .mv rfl) ?_
              refine OD.idx' (.g rfl rfl) Go.Proofs.Tryz.underlying50 FactFlatPackets.size29 rfl rfl rfl (hgs) (by decide) (by first | omega | (simp; done) | (simp; omega) | decide) (fun p182 cs182 hp182 hr182 => ?_)
              obtain ⟨rfl, _⟩ := hr182
              refine .quiet (.g rfl rfl) rfl (fun _ => .loadAt FactFlatPackets.flat29 rfl hp182 rfl) ?_
              refine OD.slot 183 (v' := .slice au (nk + 64) cu) rfl (by exact huk) ?_
              refine .quiet (.g rfl rfl) rfl (fun _ => .mv rfl) ?_
              refine OD.idx' (.g rfl rfl) Go.Proofs.Tryz.underlying29 FactFlatPackets.size35 rfl rfl rfl (hB) (by decide) (by first | omega | (simp; done) | (simp; omega) | decide) (fun p185 cs185 hp185 hr185 => ?_)
              skip
              refine .quiet (.g rfl rfl) rfl (fun _ => .loadAgg Go.Proofs.Tryz.isAgg35 (by rw [PktRp.len hr185]; kernel_rfl) rfl hp185) ?_
              refine .quiet (.g rfl rfl) rfl (fun _ => .mv rfl) ?_
              refine .quiet (.g rfl rfl) rfl (fun _ => .mv rfl) ?_
              refine OD.call0 (.g rfl rfl) (by kernel_rfl) rfl FactFlatPackets.ok36 rfl rfl ((markPacket_w _ _ (by constructor <;> omega) (by constructor <;> omega))) ?_
              rintro v189 _ ⟨cs189, rfl, hc189, rfl⟩
              try simp only [List.cons_append, List.nil_append, List.append_nil]
              refine OD.callSs (.g rfl rfl) (by kernel_rfl) rfl FactFlatPackets.ok12 rfl rfl (by repeat (first | exact Sels.nil | (apply Sels.cons; focus (repeat (first | exact Sel.here | apply Sel.there))))) (samePacket_w hr185) ?_
              rintro v190 _ ⟨rfl, rfl⟩
              try simp only [List.cons_append, List.nil_append, List.append_nil]
              refine OD.slot 190 (v' := .bool true) rfl (congrArg Value.bool (by rw [List.getElem_append_left (by simp; omega)]; simp [mkL])) ?_
              refine .quiet (.g rfl rfl) rfl (fun _ => .not rfl) ?_
              refine .quiet (.p rfl) rfl (fun _ => .pickF rfl rfl) ?_
              refine .nil ?_
              refine S.condF rfl ?_
              refine S.skip (S.inBlock (S.region rfl ?_))
              refine O.op (.p rfl) (.mv rfl) ?_
              refine O.op (.p rfl) (.add rfl rfl (IntWalk.i64_in _ (by omega))) ?_
              refine O.op (.p rfl) (.as rfl) ?_
              refine O.nil ?_
              refine S.weaken ?_ (ih (i + 1) (by omega) (by omega))
              repeat (first | exact Sub.nil | refine Sub.cons rfl ?_)
            · clear ih
              refine S.exit rfl ?_
              refine S.inBlock (S.region rfl ?_)
              refine O.op (.p rfl) (.mv rfl) ?_
              refine O.op (.p rfl) (.add rfl rfl (IntWalk.i64_in _ (by omega))) ?_
              refine O.op (.p rfl) (.as rfl) ?_
              refine O.nil ?_
              refine S.weaken ?_ (ih (k + 1) (by omega) (by omega))
              repeat (first | exact Sub.nil | refine Sub.cons rfl ?_)
          · clear ih
            refine S.exit rfl ?_
            refine S.seq (S.region rfl ?_)
            refine O.op (.p rfl) (.as rfl) ?_
            refine O.nil ?_
            refine S.ret Go.Proofs.Tryz.results78 rfl fun w hw => Holds.end_ hR hw ?_
            exact ⟨_, ⟨rfl, rfl⟩, by repeat (first | exact Picks.all | exact Picks.nil | (apply Picks.cons; focus (repeat (first | exact Sel.here | apply Sel.there))) | apply Picks.skip)⟩

end Go.Proofs.YthaebmfgelaleaaGreat
