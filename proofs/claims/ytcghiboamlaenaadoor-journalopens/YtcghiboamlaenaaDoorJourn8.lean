import Derived.Test.YtcghiboamlaenaaDoorJourn7
open Go Go.Sp
set_option maxRecDepth 100000
attribute [local irreducible] obj Own OwnP
namespace Go.Proofs.YtcghiboamlaenaaDoor
theorem FactJourn8.elem25 : elemIs Go.Proofs.Tryd.prog 25 2 32 [.int .u8 0, .slice none 0 0] := elemIs.mk (by kernel_rfl) rfl
theorem FactJourn8.ok32 : callable Go.Proofs.Tryd.prog 32 = true := by kernel_rfl
theorem FactJourn8.size5 : (Go.Proofs.Tryd.prog.info? 5).map (·.size) = some 1 := by kernel_rfl

theorem putOut_len (k : UInt8) (xs : List UInt8) : (putOut k xs).length ≤ 17 + xs.length := by
  have := putBytes_length k xs
  unfold putOut; split <;> simp; omega
theorem refOne_ok {r : Fr} {va : Value} {bs xs : List UInt8} {k : UInt8} (ha : Arr Rp.u8 r va bs) (hb : bs.length ≤ 70368744177664) (hs : scanOne bs = .ok (k, xs)) :
    Con Go.Proofs.Tryd.prog 32 #[va] r [] (Ret fun v η => ∃ a c, v = .tuple #[.agg #[byteV k, .slice a xs.length c], .int .i64 ((putBytes k xs).length : Int), .bool false] ∧ η = [OwnP Rp.u8 5 (.slice a xs.length c) xs]) :=
  (refOne_c ha hb).mono (Ret.imp fun v η h => by
    rcases h with ⟨k', xs', a, c, h1, h2, h3⟩ | ⟨s, h1, h2, h3⟩
    · rw [hs] at h1; cases h1; exact ⟨a, c, h2, h3⟩
    · rw [hs] at h1; cases h1)
theorem refOne_err {r : Fr} {va : Value} {bs : List UInt8} {s : Bool} (ha : Arr Rp.u8 r va bs) (hb : bs.length ≤ 70368744177664) (hs : scanOne bs = .error s) :
    Con Go.Proofs.Tryd.prog 32 #[va] r [] (Ret fun v η => v = .tuple #[.agg #[.int .u8 0, .slice none 0 0], .int .i64 0, .bool s] ∧ η = []) :=
  (refOne_c ha hb).mono (Ret.imp fun v η h => by
    rcases h with ⟨k', xs', a, c, h1, h2, h3⟩ | ⟨s, h1, h2, h3⟩
    · rw [hs] at h1; cases h1
    · rw [hs] at h1; cases h1; exact ⟨h2, h3⟩)
theorem refScan_c {r : Fr} {va : Value} {bs : List UInt8} (ha : Arr Rp.u8 r va bs) (hb : bs.length ≤ 70368744177664) :
    Con Go.Proofs.Tryd.prog 14 #[va] r [] (Ret fun v η => ∃ a c, v = .tuple #[.slice a (scanM bs).1.length c, .int .i64 ((scanM bs).2.1 : Int), .bool (scanM bs).2.2] ∧ η = [ListP EntG 25 (.slice a (scanM bs).1.length c) (scanM bs).1]) := by
  refine Con.of (n := 36) [va] rfl Go.Proofs.Tryd.func14 rfl rfl rfl fun g hg R hR => ?_
  have ha := ha.mono hg
  obtain ⟨a1, c1, rfl⟩ := ha.shape
  have hlen := (scanM_len bs).1
  refine S.listNil EntG 25 ?_
  refine S.seq (S.region rfl ?_)
  refine O.op (.p rfl) (.as rfl) ?_
  refine O.op (.p rfl) (.as rfl) ?_
  refine O.op (.p rfl) (.as rfl) ?_
  refine O.nil ?_
  refine S.seq (S.region rfl ?_)
  refine O.op (.p rfl) (.as rfl) ?_
  refine O.nil ?_
  refine S.seq (S.region rfl ?_)
  refine O.op (.p rfl) (.as rfl) ?_
  refine O.nil ?_
  refine S.seq (S.block ?_)
  refine S.loopK4 (ι := Nat) (κ := List Ent) (υ := Option Addr) (τ := Nat) (fun p done a c => Far bs p done) (fun p done a c => [(6, .int .i64 (p : Int)), (5, .slice a done.length c)]) [(0, _)] (fun p done a c => [ListP EntG 25 (.slice a done.length c) done]) (fun p done a c => bs.length - p) (0) ([]) (none) (0) (by exact Far.start bs) (.cons rfl (.cons rfl (.nil))) (.cons rfl (.nil)) rfl fun p done a c hx ih => ?_
  have hm1 := meltRefl (g := g)
  have hp := hx.1
  have hfar : done.length ≤ (scanM bs).1.length := by rw [hx.2]; simp
  refine S.seq (S.seq (S.region rfl ?_))
  refine O.op (.p rfl) (.mv rfl) ?_
  refine O.op (.p rfl) (.mv rfl) ?_
  refine O.op (.p rfl) (.len rfl Go.Proofs.Tryd.underlying23 rfl) ?_
  refine O.op (.p rfl) (.lss rfl rfl) ?_
  refine O.nil ?_
  first | refine S.condD rfl (fun h13 => ?_) (fun h13 => ?_) | refine S.condB rfl (fun h13 => ?_) (fun h13 => ?_)
  · have hdl : (bs.drop p).length = bs.length - p := by simp
    rcases hs : scanOne (bs.drop p) with s | ⟨k, xs⟩
    ·
      clear ih
      refine S.skip (S.block (S.seq (S.region rfl ?_)))
      refine O.op (.p rfl) (.mv rfl) ?_
      refine O.op (.p rfl) (.mv rfl) ?_
      refine O.sliceFrom (a := p) (.p rfl) Go.Proofs.Tryd.underlying23 FactJourn8.size5 rfl rfl (by assumption) (by first | omega | (simp; done) | (simp; omega) | decide) (by first | omega | (simp; done) | (simp; omega) | decide) (fun u17 ha17 => ?_)
      obtain ⟨a17, c17, rfl⟩ := ha17.shape
      refine O.call0 (.p rfl) rfl FactJourn8.ok32 rfl rfl (refOne_err ha17 (by omega) hs) ?_
      rintro v18 _ ⟨rfl, rfl⟩
      try simp only [List.cons_append, List.nil_append, List.append_nil]
      refine O.op (.p rfl) (.mv rfl) ?_
      refine O.op (.p rfl) (.extract rfl rfl) ?_
      refine O.op (.p rfl) (.extract rfl rfl) ?_
      refine O.op (.p rfl) (.extract rfl rfl) ?_
      refine O.opE (.p rfl) (.alloc (cs := [.int .u8 0, .slice none 0 0]) Go.Proofs.Tryd.zeroValue25 rfl) ?_
      rintro _ _ ⟨b7, rfl, rfl⟩
      refine O.opU rfl (.storeObj (by kernel_rfl) rfl rfl rfl rfl (by repeat (first | exact Sel.here | apply Sel.there)) (by first | (simp; done) | (simp [Value.cells]; done))) ?_
      refine O.op (.p rfl) (.as rfl) ?_
      refine O.op (.p rfl) (.as rfl) ?_
      refine O.nil ?_
      refine S.seq (S.seq (S.region rfl ?_))
      refine O.op (.p rfl) (.mv rfl) ?_
      refine O.op (.p rfl) (.eql rfl rfl) ?_
      refine O.nil ?_
      refine S.condT rfl ?_
      refine S.seq (S.region rfl ?_)
      refine O.op (.p rfl) (.mv rfl) ?_
      refine O.op (.p rfl) (.mv rfl) ?_
      refine O.op (.p rfl) (.mv rfl) ?_
      refine O.op (.p rfl) (.as rfl) ?_
      refine O.op (.p rfl) (.as rfl) ?_
      refine O.op (.p rfl) (.as rfl) ?_
      refine O.nil ?_
      refine S.retM3 (.inr ⟨_, rfl⟩) .nil Go.Proofs.Tryd.results14 (.tmp rfl) (.tmp rfl) (.tmp rfl) fun w hw => ?_
      rw [hx.stop hs] at hR
      exact Holds.end_ hR hw ⟨_, ⟨a, c, rfl, rfl⟩, by repeat (first | exact Picks.all | exact Picks.nil | (apply Picks.cons; focus (repeat (first | exact Sel.here | apply Sel.there))) | apply Picks.skip)⟩
    ·
      have hlen1 := scanOne_len hs
      have hpre := (hx.pre hs).length_le
      simp only [List.length_append, List.length_singleton] at hpre
      refine S.skip (S.block (S.seq (S.region rfl ?_)))
      refine O.op (.p rfl) (.mv rfl) ?_
      refine O.op (.p rfl) (.mv rfl) ?_
      refine O.sliceFrom (a := p) (.p rfl) Go.Proofs.Tryd.underlying23 FactJourn8.size5 rfl rfl (by assumption) (by first | omega | (simp; done) | (simp; omega) | decide) (by first | omega | (simp; done) | (simp; omega) | decide) (fun u17 ha17 => ?_)
      obtain ⟨a17, c17, rfl⟩ := ha17.shape
      refine O.call0 (.p rfl) rfl FactJourn8.ok32 rfl rfl (refOne_ok ha17 (by omega) hs) ?_
      rintro v18 _ ⟨a18, c18, rfl, rfl⟩
      try simp only [List.cons_append, List.nil_append, List.append_nil]
      refine O.op (.p rfl) (.mv rfl) ?_
      refine O.op (.p rfl) (.extract rfl rfl) ?_
      refine O.op (.p rfl) (.extract rfl rfl) ?_
      refine O.op (.p rfl) (.extract rfl rfl) ?_
      refine O.opE (.p rfl) (.alloc (cs := [.int .u8 0, .slice none 0 0]) Go.Proofs.Tryd.zeroValue25 rfl) ?_
      rintro _ _ ⟨b7, rfl, rfl⟩
      refine O.opU rfl (.storeObj (by kernel_rfl) rfl rfl rfl rfl (by repeat (first | exact Sel.here | apply Sel.there)) (by first | (simp; done) | (simp [Value.cells]; done))) ?_
      refine O.op (.p rfl) (.as rfl) ?_
      refine O.op (.p rfl) (.as rfl) ?_
      refine O.nil ?_
      refine S.seq (S.seq (S.region rfl ?_))
      refine O.op (.p rfl) (.mv rfl) ?_
      refine O.op (.p rfl) (.eql rfl rfl) ?_
      refine O.slot 23 (v' := .bool false) rfl (congrArg Value.bool (by exact decide_eq_false (by omega))) ?_
      refine O.nil ?_
      refine S.condF rfl ?_
      refine S.skip (S.seq ?_)
      refine S.objIs (b := b7) (cs' := [byteV k, .slice a18 xs.length c18]) (by repeat (first | exact Sel.here | apply Sel.there)) rfl ?_
      refine S.listOpen (k' := 2) rfl (by repeat (first | exact Sel.here | apply Sel.there)) fun css hcl => ?_
      rw [← hcl]
      refine S.region rfl ?_
      refine O.op (.p rfl) (.mv rfl) ?_
      refine O.op (.p rfl) (.loadObjAgg (news := [_, _]) Go.Proofs.Tryd.isAgg25 (by kernel_rfl) rfl (by repeat (first | exact Sel.here | apply Sel.there)) rfl) ?_
      refine O.opE (.p rfl) (.litP (T := (Rp.cells 2)) (ys := [_]) Go.Proofs.Tryd.underlying35 FactJourn8.elem25 (by decide) rfl rfl ⟨⟨rfl, rfl, by first | (simp; done) | (intro v hv; simp [Value.cells] at hv; rcases hv with rfl | rfl <;> rfl)⟩, trivial⟩ (by decide)) ?_
      rintro _ _ ⟨a29, c29, rfl, rfl⟩
      refine O.opE (.p rfl) (.appendO (T := (Rp.cells 2)) Go.Proofs.Tryd.underlying35 FactJourn8.elem25 (by decide) rfl rfl (by repeat (first | exact Sel.here | apply Sel.there)) (by repeat (first | exact Sel.here | apply Sel.there)) (by first | omega | (simp; done) | (simp; omega) | decide) (by first | omega | (simp; done) | (simp; omega) | decide)) ?_
      rintro _ _ ⟨a30, c30, rfl, rfl⟩
      refine O.op (.p rfl) (.as rfl) ?_
      refine O.nil ?_
      refine S.region rfl ?_
      refine O.op (.p rfl) (.mv rfl) ?_
      refine O.op (.p rfl) (.mv rfl) ?_
      refine O.op (.p rfl) (.add rfl rfl (IntWalk.i64_in _ (by omega))) ?_
      refine O.op (.p rfl) (.as rfl) ?_
      refine O.nil ?_
      refine S.inBlock ?_
      have hcs : (Value.agg #[byteV k, .slice a18 xs.length c18]).cells.toList = [byteV k, .slice a18 xs.length c18] := by simp [Value.cells]
      simp only [hcs, List.length_singleton]
      refine S.conv (B := OwnP Rp.u8 5 (.slice a18 xs.length c18) xs) (C := EntG.own [byteV k, .slice a18 xs.length c18] (k, xs, ())) (by repeat (first | exact Sel.here | apply Sel.there)) (fun m x => ⟨m, Fr.sub_refl _, EntG.mk x⟩) ?_
      refine S.listPut (k' := 2) rfl (by repeat (first | exact Sel.here | apply Sel.there)) (by repeat (first | exact Sel.here | apply Sel.there)) (by repeat (first | exact Sel.here | apply Sel.there)) ?_
      rw [show css.length + 1 = (done ++ [(k, xs, ())]).length from by simp [hcl], show ((p : Int) + ((putBytes k xs).length : Int)) = ((p + (putBytes k xs).length : Nat) : Int) from rfl]
      refine S.pk ?_ (S.weaken ?_ (ih (p + (putBytes k xs).length) (done ++ [(k, xs, ())]) (a30) (c30) (by exact Far.more hx hs) (by omega)))
      · repeat (first | exact Picks.all | exact Picks.nil | (apply Picks.cons; focus (repeat (first | exact Sel.here | apply Sel.there))) | apply Picks.skip)
      repeat (first | exact Sub.nil | refine Sub.cons rfl ?_)
  · have hp' : p = bs.length := by omega
    subst hp'
    clear ih
    have e := hx.stop (s := false) (by simp [scanOne])
    refine S.exit rfl ?_
    refine S.seq (S.region rfl ?_)
    refine O.op (.p rfl) (.mv rfl) ?_
    refine O.op (.p rfl) (.mv rfl) ?_
    refine O.op (.p rfl) (.as rfl) ?_
    refine O.op (.p rfl) (.as rfl) ?_
    refine O.op (.p rfl) (.as rfl) ?_
    refine O.nil ?_
    refine S.retM3 (.inr ⟨_, rfl⟩) .nil Go.Proofs.Tryd.results14 (.tmp rfl) (.tmp rfl) (.tmp rfl) fun w hw => ?_
    rw [e] at hR
    exact Holds.end_ hR hw ⟨_, ⟨a, c, rfl, rfl⟩, by repeat (first | exact Picks.all | exact Picks.nil | (apply Picks.cons; focus (repeat (first | exact Sel.here | apply Sel.there))) | apply Picks.skip)⟩
end Go.Proofs.YtcghiboamlaenaaDoor
