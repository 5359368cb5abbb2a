import Derived.Test.YtcghiboamlaenaaJourn8
import Derived.Test.YtcghiboamlaenaaSpStr
import Derived.Test.YtcghiboamlaenaaRefnum
open Go Go.Sp
set_option maxRecDepth 100000
attribute [local irreducible] obj Own OwnP
namespace Go.Proofs.Ytcghiboamlaenaa
theorem FactJourn9.elem3 : elemIs Go.Proofs.Try.prog 3 1 8 [.int .i64 0] := elemIs.mk (by kernel_rfl) rfl
theorem FactJourn9.elem5 : elemIs Go.Proofs.Try.prog 5 1 1 [.int .u8 0] := elemIs.mk (by kernel_rfl) rfl
theorem FactJourn9.flat3 : Go.Sp.flat1 Go.Proofs.Try.prog 3 = true := by kernel_rfl
theorem FactJourn9.flat5 : Go.Sp.flat1 Go.Proofs.Try.prog 5 = true := by kernel_rfl
theorem FactJourn9.ok10 : callable Go.Proofs.Try.prog 10 = true := by kernel_rfl
theorem FactJourn9.ok11 : callable Go.Proofs.Try.prog 11 = true := by kernel_rfl
theorem FactJourn9.ok12 : callable Go.Proofs.Try.prog 12 = true := by kernel_rfl
theorem FactJourn9.ok5 : callable Go.Proofs.Try.prog 5 = true := by kernel_rfl
theorem FactJourn9.ok6 : callable Go.Proofs.Try.prog 6 = true := by kernel_rfl
theorem FactJourn9.ok7 : callable Go.Proofs.Try.prog 7 = true := by kernel_rfl
theorem FactJourn9.ok8 : callable Go.Proofs.Try.prog 8 = true := by kernel_rfl
theorem FactJourn9.ok9 : callable Go.Proofs.Try.prog 9 = true := by kernel_rfl
theorem FactJourn9.size3 : (Go.Proofs.Try.prog.info? 3).map (·.size) = some 1 := by kernel_rfl
theorem FactJourn9.size5 : (Go.Proofs.Try.prog.info? 5).map (·.size) = some 1 := by kernel_rfl

theorem putOut_len (k : UInt8) (xs : List UInt8) : (putOut k xs).length ≤ 17 + xs.length := by
  have := putBytes_length k xs
  unfold putOut; split <;> simp; omega
theorem scan_long {zs : List UInt8} (h : putErr 4 zs = 0) (hl : zs.length = 262144) : scanM (putOut 4 zs) = ([(4, zs, ())], 262161, false) := by
  have h1 := scanM_flat (es := [(4, zs, ())]) (by simpa using h)
  have h2 : flatE [(4, zs, ())] = putOut 4 zs := by simp [flatE, putOut, h]
  have h3 : (putOut 4 zs).length = 262161 := by unfold putOut; rw [if_pos h, putBytes_length, hl]
  rw [h2] at h1; rw [h1, h3]
theorem numbers_c {r : Fr} : Con Go.Proofs.Try.prog 3 #[] r [] (Ret fun v η => v = .bool true ∧ η = []) := by
  refine Con.of (n := 196) [] rfl Go.Proofs.Try.func3 rfl rfl rfl fun g hg R hR => ?_
  refine S.addNil (T := Rp.u8) (e := 5) ?_
  refine S.seq (S.region rfl ?_)
  refine O.op (.p rfl) (.as rfl) ?_
  refine O.nil ?_
  refine S.seq (S.region rfl ?_)
  refine O.op (.p rfl) (.as rfl) ?_
  refine O.nil ?_
  refine S.seq (S.seq (S.region rfl ?_))
  refine O.op (.p rfl) (.as rfl) ?_
  refine O.nil ?_
  refine S.block ?_
  refine S.loopK4 (ι := Nat) (κ := List UInt8) (υ := Option Addr) (τ := Nat) (fun k all a1 c1 => k ≤ 256 ∧ all.length ≤ 20 * min k 6) (fun k all a1 c1 => [(2, .int .i64 (k : Int)), (1, .slice a1 all.length c1)]) [] (fun k all a1 c1 => [OwnP Rp.u8 5 (.slice a1 all.length c1) all]) (fun k all a1 c1 => 256 - k) (0) ([]) (none) (0) (by simp) (.cons rfl (.cons rfl (.nil))) (.nil) rfl fun k all a1 c1 hx ih => ?_
  have hm1 := meltRefl (g := g)
  obtain ⟨hx1, hx2⟩ := hx
  refine S.seq (S.seq (S.region rfl ?_))
  refine O.op (.p rfl) (.mv rfl) ?_
  refine O.op (.p rfl) (.lss rfl rfl) ?_
  refine O.nil ?_
  first | refine S.condD rfl (fun h26 => ?_) (fun h26 => ?_) | refine S.condB rfl (fun h26 => ?_) (fun h26 => ?_)
  · have hk : k < 256 := by omega
    have h4 : k % 4 ≤ 3 := by omega
    obtain ⟨s, hs⟩ : ∃ s : List UInt8, [97, 98, 99].take (k % 4) = s := ⟨_, rfl⟩
    have hsl : s.length ≤ 3 := by rw [← hs]; simp; omega
    have hwk : IntKind.u8.wrap (k : Int) = ((UInt8.ofNat k).toNat : Int) := by rw [wrap_u8_eq, UInt8.toNat_ofNat']; omega
    have hmk : (k : Int).tmod 4 = ((k % 4 : Nat) : Int) := by rw [Int.tmod_eq_emod_of_nonneg (by omega)]; rfl
    refine S.skip (S.seq (S.block (S.seq (S.region rfl ?_))))
    refine O.op (.p rfl) (.mv rfl) ?_
    refine O.op (.p rfl) (.cvt Go.Proofs.Try.underlying3 Go.Proofs.Try.underlying23 rfl) ?_
    refine O.slot 30 (v' := byteV (UInt8.ofNat k)) rfl (by exact congrArg _ hwk) ?_
    refine O.op (.p rfl) (.mv rfl) ?_
    refine O.op (.p rfl) (.rem rfl rfl (by omega)) ?_
    refine O.slot 32 (v' := .int .i64 ((k % 4 : Nat) : Int)) rfl (by exact congrArg _ hmk) ?_
    refine O.strTo (xs := [97, 98, 99]) (b := k % 4) (.p rfl) Go.Proofs.Try.underlying9 rfl rfl rfl (by simp; omega) ?_
    rw [hs]
    refine O.call0 (.p rfl) rfl FactJourn9.ok5 rfl rfl (one_c (UInt8.ofNat k) s (by omega)) ?_
    rintro v34 _ ⟨a34, c34, rfl, rfl⟩
    try simp only [List.cons_append, List.nil_append, List.append_nil]
    refine O.frzW Sel.here fun g hs hm ha34 => ?_
    replace hg := Fr.sub_trans hg hs
    replace hR := melted hR hm
    replace hm1 := meltTrans hm1 hm
    clear hs hm
    refine O.opE (.p rfl) (.alloc (cs := [.int .u8 0, .slice none 0 0]) Go.Proofs.Try.zeroValue25 rfl) ?_
    rintro _ _ ⟨b3, rfl, rfl⟩
    refine O.opU rfl (.storeObj (by kernel_rfl) rfl rfl rfl rfl (by repeat (first | exact Sel.here | apply Sel.there)) (by first | (simp; done) | (simp [Value.cells]; done))) ?_
    refine O.nil ?_
    refine S.seq ?_
    refine S.objIs (b := b3) (cs' := [byteV (UInt8.ofNat k), .slice a34 s.length c34]) (by repeat (first | exact Sel.here | apply Sel.there)) rfl ?_
    refine S.region rfl ?_
    refine O.op (.p rfl) (.loadObjAgg (news := [_, _]) Go.Proofs.Try.isAgg25 (by kernel_rfl) rfl (by repeat (first | exact Sel.here | apply Sel.there)) rfl) ?_
    refine O.call0 (.p rfl) rfl FactJourn9.ok6 rfl rfl (put_c (by first | assumption | exact Arr.mono hg (by assumption) | exact Arr.left (by assumption) | exact Arr.left (Arr.mono hg (by assumption)))) ?_
    rintro v37 _ ⟨a37, c37, rfl, rfl⟩
    try simp only [List.cons_append, List.nil_append, List.append_nil]
    refine O.op (.p rfl) (.mv rfl) ?_
    refine O.op (.p rfl) (.extract rfl rfl) ?_
    refine O.op (.p rfl) (.extract rfl rfl) ?_
    refine O.op (.p rfl) (.as rfl) ?_
    refine O.op (.p rfl) (.as rfl) ?_
    refine O.nil ?_
    refine S.seq (S.region rfl ?_)
    refine O.op (.p rfl) (.loadObjAgg (news := [_, _]) Go.Proofs.Try.isAgg25 (by kernel_rfl) rfl (by repeat (first | exact Sel.here | apply Sel.there)) rfl) ?_
    refine O.call0 (.p rfl) rfl FactJourn9.ok7 rfl rfl (refPut_c (by first | assumption | exact Arr.mono hg (by assumption) | exact Arr.left (by assumption) | exact Arr.left (Arr.mono hg (by assumption)))) ?_
    rintro v42 _ ⟨a42, c42, rfl, rfl⟩
    try simp only [List.cons_append, List.nil_append, List.append_nil]
    refine O.op (.p rfl) (.mv rfl) ?_
    refine O.op (.p rfl) (.extract rfl rfl) ?_
    refine O.op (.p rfl) (.extract rfl rfl) ?_
    refine O.op (.p rfl) (.as rfl) ?_
    refine O.op (.p rfl) (.as rfl) ?_
    refine O.nil ?_
    refine S.seq (S.seq ?_)
    refine S.frzA (by repeat (first | exact Sel.here | apply Sel.there)) fun g hs hm hc => ?_
    replace hg := Fr.sub_trans hg hs
    replace hR := melted hR hm
    try replace ha34 := ha34.mono hs
    replace hm1 := meltTrans hm1 hm
    clear hs hm
    refine S.frzA (by repeat (first | exact Sel.here | apply Sel.there)) fun g hs hm hb => ?_
    replace hg := Fr.sub_trans hg hs
    replace hR := melted hR hm
    try replace ha34 := ha34.mono hs
    try replace hc := hc.mono hs
    replace hm1 := meltTrans hm1 hm
    clear hs hm
    refine S.region rfl ?_
    refine O.op (.p rfl) (.mv rfl) ?_
    refine O.op (.p rfl) (.mv rfl) ?_
    refine O.op (.p rfl) (.neq rfl rfl) ?_
    refine O.slot 47 (v' := .bool false) rfl (congrArg Value.bool (by simp)) ?_
    refine O.op (.p rfl) (.mv rfl) ?_
    refine O.op (.g rfl rfl) (.mv rfl) ?_
    refine O.op (.g rfl rfl) (.mv rfl) ?_
    refine O.call0 (.g rfl rfl) rfl FactJourn9.ok8 rfl rfl (SameBytes_c (by first | assumption | exact Arr.mono hg (by assumption) | exact Arr.left (by assumption) | exact Arr.left (Arr.mono hg (by assumption))) (by first | assumption | exact Arr.mono hg (by assumption) | exact Arr.left (by assumption) | exact Arr.left (Arr.mono hg (by assumption)))) ?_
    rintro v51 _ ⟨rfl, rfl⟩
    try simp only [List.cons_append, List.nil_append, List.append_nil]
    refine O.slot 51 (v' := .bool true) rfl (congrArg Value.bool (by simp)) ?_
    refine O.op (.g rfl rfl) (.not rfl) ?_
    refine O.op (.p rfl) (.pickF rfl rfl) ?_
    refine O.nil ?_
    refine S.condF rfl ?_
    refine S.skip (S.seq (S.region rfl ?_))
    refine O.op (.p rfl) (.mv rfl) ?_
    refine O.op (.p rfl) (.lss rfl rfl) ?_
    refine O.nil ?_
    first | refine S.condD rfl (fun h55 => ?_) (fun h55 => ?_) | refine S.condB rfl (fun h55 => ?_) (fun h55 => ?_)
    · have hpl := putOut_len (UInt8.ofNat k) s
      refine S.region rfl ?_
      refine O.op (.p rfl) (.mv rfl) ?_
      refine O.op (.p rfl) (.mv rfl) ?_
      refine O.opE (.p rfl) (.appendP (T := Rp.u8) pure_u8 Go.Proofs.Try.underlying22 FactJourn9.elem5 (by decide) rfl rfl (by repeat (first | exact Sel.here | apply Sel.there)) (by first | assumption | exact Arr.mono hg (by assumption) | exact Arr.left (by assumption) | exact Arr.left (Arr.mono hg (by assumption))) (by first | omega | (simp; done) | (simp; omega) | decide) (by first | omega | (simp; done) | (simp; omega) | decide)) ?_
      rintro _ _ ⟨a58, c58, rfl, rfl⟩
      refine O.op (.p rfl) (.as rfl) ?_
      refine O.nil ?_
      refine S.inBlock (S.region rfl ?_)
      refine O.op (.p rfl) (.mv rfl) ?_
      refine O.op (.p rfl) (.add rfl rfl (IntWalk.i64_in _ (by omega))) ?_
      refine O.op (.p rfl) (.as rfl) ?_
      refine O.nil ?_
      rw [← List.length_append]
      refine S.pk ?_ (S.melt hm1 (S.weaken ?_ (ih (k + 1) (all ++ putOut (UInt8.ofNat k) s) (a58) (c58) (by (refine ⟨by omega, ?_⟩; rw [List.length_append]; omega)) (by omega))))
      · repeat (first | exact Picks.all | exact Picks.nil | (apply Picks.cons; focus (repeat (first | exact Sel.here | apply Sel.there))) | apply Picks.skip)
      repeat (first | exact Sub.nil | refine Sub.cons rfl ?_)
    · refine S.skip (S.inBlock (S.region rfl ?_))
      refine O.op (.p rfl) (.mv rfl) ?_
      refine O.op (.p rfl) (.add rfl rfl (IntWalk.i64_in _ (by omega))) ?_
      refine O.op (.p rfl) (.as rfl) ?_
      refine O.nil ?_
      refine S.pk ?_ (S.melt hm1 (S.weaken ?_ (ih (k + 1) (all) (a1) (c1) (by omega) (by omega))))
      · repeat (first | exact Picks.all | exact Picks.nil | (apply Picks.cons; focus (repeat (first | exact Sel.here | apply Sel.there))) | apply Picks.skip)
      repeat (first | exact Sub.nil | refine Sub.cons rfl ?_)
  · clear ih
    have hal : all.length ≤ 120 := by omega
    clear hx1 hx2 h26
    refine S.frzA (by repeat (first | exact Sel.here | apply Sel.there)) fun g hs hm hall => ?_
    replace hg := Fr.sub_trans hg hs
    replace hR := melted hR hm
    replace hm1 := meltTrans hm1 hm
    clear hs hm
    refine S.exit rfl ?_
    refine S.seq (S.seq (S.region rfl ?_))
    refine O.op (.p rfl) (.as rfl) ?_
    refine O.nil ?_
    refine S.block ?_
    refine S.loopK (ι := Nat) (fun i => i ≤ all.length) (fun i => [(8, .int .i64 (i : Int))]) [(1, _)] (fun i => []) (fun i => all.length - i) (0) (by simp) (.cons rfl (.nil)) (.cons rfl (.nil)) rfl fun i hx ih => ?_
    have hm2 := meltRefl (g := g)
    refine S.seq (S.seq (S.region rfl ?_))
    refine O.op (.p rfl) (.mv rfl) ?_
    refine O.op (.p rfl) (.mv rfl) ?_
    refine O.op (.p rfl) (.len rfl Go.Proofs.Try.underlying22 rfl) ?_
    refine O.op (.p rfl) (.lss rfl rfl) ?_
    refine O.nil ?_
    first | refine S.condD rfl (fun h62 => ?_) (fun h62 => ?_) | refine S.condB rfl (fun h62 => ?_) (fun h62 => ?_)
    · have hi : i < all.length := by omega
      refine S.skip (S.seq (S.block (S.seq (S.region rfl ?_))))
      refine O.op (.p rfl) (.mv rfl) ?_
      refine O.call0 (.p rfl) rfl FactJourn9.ok9 rfl rfl (CopyBytes_c (by first | assumption | exact Arr.mono hg (by assumption) | exact Arr.left (by assumption) | exact Arr.left (Arr.mono hg (by assumption))) (by first | omega | (simp; done) | (simp; omega) | decide)) ?_
      rintro v66 _ ⟨a66, c66, rfl, rfl⟩
      try simp only [List.cons_append, List.nil_append, List.append_nil]
      refine O.op (.p rfl) (.mv rfl) ?_
      refine O.call0 (.p rfl) rfl FactJourn9.ok9 rfl rfl (CopyBytes_c (by first | assumption | exact Arr.mono hg (by assumption) | exact Arr.left (by assumption) | exact Arr.left (Arr.mono hg (by assumption))) (by first | omega | (simp; done) | (simp; omega) | decide)) ?_
      rintro v68 _ ⟨a68, c68, rfl, rfl⟩
      try simp only [List.cons_append, List.nil_append, List.append_nil]
      refine O.op (.p rfl) (.as rfl) ?_
      refine O.op (.p rfl) (.as rfl) ?_
      refine O.nil ?_
      refine S.seq (S.region rfl ?_)
      refine O.op (.p rfl) (.mv rfl) ?_
      refine O.op (.p rfl) (.mv rfl) ?_
      refine O.op (.p rfl) (.mv rfl) ?_
      refine O.op (.p rfl) (.mv rfl) ?_
      refine O.opE (.p rfl) (.idxOwn (T := Rp.u8) Go.Proofs.Try.underlying22 FactJourn9.size5 rfl rfl (show _ = (((i) : Nat) : Int) by omega) (by repeat (first | exact Sel.here | apply Sel.there)) (by first | omega | (simp; done) | (simp; omega))) ?_
      rintro _ _ ⟨p73, rfl, hp73, rfl⟩
      refine O.op (.p rfl) (.loadOwn FactJourn9.flat5 rfl hp73 rfl (by repeat (first | exact Sel.here | apply Sel.there)) (by first | omega | (simp; done) | (simp; omega)) ((by rintro _ rfl; rfl))) ?_
      obtain ⟨x, hxx⟩ := bits_byte .xor (all[i].toNat : Int) 1
      refine O.op (.p rfl) (.xor rfl rfl) ?_
      refine O.slot 75 (v' := byteV x) rfl (by exact congrArg _ hxx) ?_
      refine O.opE (.p rfl) (.idxOwn (T := Rp.u8) Go.Proofs.Try.underlying22 FactJourn9.size5 rfl rfl (show _ = (((i) : Nat) : Int) by omega) (by repeat (first | exact Sel.here | apply Sel.there)) (by first | omega | (simp; done) | (simp; omega))) ?_
      rintro _ _ ⟨p76, rfl, hp76, rfl⟩
      refine O.opU rfl (.storeOwn FactJourn9.size5 rfl hp76 rfl (by repeat (first | exact Sel.here | apply Sel.there)) (by first | omega | (simp; done) | (simp; omega)) (show _ = _ by rfl : Rp.rel _ _ _ (x))) ?_
      refine O.nil ?_
      refine S.seq (S.region rfl ?_)
      refine O.op (.p rfl) (.mv rfl) ?_
      refine O.op (.p rfl) (.mv rfl) ?_
      refine O.op (.p rfl) (.mv rfl) ?_
      refine O.op (.p rfl) (.mv rfl) ?_
      refine O.opE (.p rfl) (.idxOwn (T := Rp.u8) Go.Proofs.Try.underlying22 FactJourn9.size5 rfl rfl (show _ = (((i) : Nat) : Int) by omega) (by repeat (first | exact Sel.here | apply Sel.there)) (by first | omega | (simp; done) | (simp; omega))) ?_
      rintro _ _ ⟨p81, rfl, hp81, rfl⟩
      refine O.op (.p rfl) (.loadOwn FactJourn9.flat5 rfl hp81 rfl (by repeat (first | exact Sel.here | apply Sel.there)) (by first | omega | (simp; done) | (simp; omega)) ((by rintro _ rfl; rfl))) ?_
      obtain ⟨y, hyy⟩ := bits_byte .xor (all[i].toNat : Int) 128
      refine O.op (.p rfl) (.xor rfl rfl) ?_
      refine O.slot 83 (v' := byteV y) rfl (by exact congrArg _ hyy) ?_
      refine O.opE (.p rfl) (.idxOwn (T := Rp.u8) Go.Proofs.Try.underlying22 FactJourn9.size5 rfl rfl (show _ = (((i) : Nat) : Int) by omega) (by repeat (first | exact Sel.here | apply Sel.there)) (by first | omega | (simp; done) | (simp; omega))) ?_
      rintro _ _ ⟨p84, rfl, hp84, rfl⟩
      refine O.opU rfl (.storeOwn FactJourn9.size5 rfl hp84 rfl (by repeat (first | exact Sel.here | apply Sel.there)) (by first | omega | (simp; done) | (simp; omega)) (show _ = _ by rfl : Rp.rel _ _ _ (y))) ?_
      refine O.nil ?_
      refine S.seq ?_
      refine S.frzA (by repeat (first | exact Sel.here | apply Sel.there)) fun g hs hm hd => ?_
      replace hg := Fr.sub_trans hg hs
      replace hR := melted hR hm
      try replace hall := hall.mono hs
      replace hm1 := meltTrans hm1 hm
      replace hm2 := meltTrans hm2 hm
      clear hs hm
      refine S.frzA (by repeat (first | exact Sel.here | apply Sel.there)) fun g hs hm hc => ?_
      replace hg := Fr.sub_trans hg hs
      replace hR := melted hR hm
      try replace hall := hall.mono hs
      try replace hd := hd.mono hs
      replace hm1 := meltTrans hm1 hm
      replace hm2 := meltTrans hm2 hm
      clear hs hm
      refine S.region rfl ?_
      refine O.op (.p rfl) (.mv rfl) ?_
      refine O.op (.p rfl) (.mv rfl) ?_
      refine O.sliceTo (b := i) (.p rfl) Go.Proofs.Try.underlying22 FactJourn9.size5 rfl rfl (by assumption) (by first | omega | (simp; done) | (simp; omega) | decide) (by first | omega | (simp; done) | (simp; omega) | decide) (fun u87 ha87 => ?_)
      obtain ⟨a87, c87, rfl⟩ := ha87.shape
      refine O.call0 (.p rfl) rfl FactJourn9.ok10 rfl rfl (scans_c (by first | assumption | exact Arr.mono hg (by assumption) | exact Arr.left (by assumption) | exact Arr.left (Arr.mono hg (by assumption))) (by first | omega | (simp; done) | (simp; omega) | decide)) ?_
      rintro v88 _ ⟨rfl, rfl⟩
      try simp only [List.cons_append, List.nil_append, List.append_nil]
      refine O.op (.p rfl) (.not rfl) ?_
      refine O.op (.p rfl) (.mv rfl) ?_
      refine O.op (.g rfl rfl) (.mv rfl) ?_
      refine O.op (.g rfl rfl) (.mv rfl) ?_
      refine O.sliceFrom (a := i) (.g rfl rfl) Go.Proofs.Try.underlying22 FactJourn9.size5 rfl rfl (by assumption) (by first | omega | (simp; done) | (simp; omega) | decide) (by first | omega | (simp; done) | (simp; omega) | decide) (fun u93 ha93 => ?_)
      obtain ⟨a93, c93, rfl⟩ := ha93.shape
      refine O.call0 (.g rfl rfl) rfl FactJourn9.ok10 rfl rfl (scans_c (by first | assumption | exact Arr.mono hg (by assumption) | exact Arr.left (by assumption) | exact Arr.left (Arr.mono hg (by assumption))) (by first | omega | (simp; done) | (simp; omega) | decide)) ?_
      rintro v94 _ ⟨rfl, rfl⟩
      try simp only [List.cons_append, List.nil_append, List.append_nil]
      refine O.op (.g rfl rfl) (.not rfl) ?_
      refine O.op (.p rfl) (.pickF rfl rfl) ?_
      refine O.op (.p rfl) (.mv rfl) ?_
      refine O.op (.g rfl rfl) (.mv rfl) ?_
      refine O.call0 (.g rfl rfl) rfl FactJourn9.ok10 rfl rfl (scans_c (by first | assumption | exact Arr.mono hg (by assumption) | exact Arr.left (by assumption) | exact Arr.left (Arr.mono hg (by assumption))) (by first | omega | (simp; done) | (simp; omega) | decide)) ?_
      rintro v99 _ ⟨rfl, rfl⟩
      try simp only [List.cons_append, List.nil_append, List.append_nil]
      refine O.op (.g rfl rfl) (.not rfl) ?_
      refine O.op (.p rfl) (.pickF rfl rfl) ?_
      refine O.op (.p rfl) (.mv rfl) ?_
      refine O.op (.g rfl rfl) (.mv rfl) ?_
      refine O.call0 (.g rfl rfl) rfl FactJourn9.ok10 rfl rfl (scans_c (by first | assumption | exact Arr.mono hg (by assumption) | exact Arr.left (by assumption) | exact Arr.left (Arr.mono hg (by assumption))) (by first | omega | (simp; done) | (simp; omega) | decide)) ?_
      rintro v104 _ ⟨rfl, rfl⟩
      try simp only [List.cons_append, List.nil_append, List.append_nil]
      refine O.op (.g rfl rfl) (.not rfl) ?_
      refine O.op (.p rfl) (.pickF rfl rfl) ?_
      refine O.nil ?_
      refine S.condF rfl ?_
      refine S.skip (S.inBlock (S.region rfl ?_))
      refine O.op (.p rfl) (.mv rfl) ?_
      refine O.op (.p rfl) (.add rfl rfl (IntWalk.i64_in _ (by omega))) ?_
      refine O.op (.p rfl) (.as rfl) ?_
      refine O.nil ?_
      refine S.melt hm2 (S.weaken ?_ (ih (i + 1) (by omega) (by omega)))
      repeat (first | exact Sub.nil | refine Sub.cons rfl ?_)
    · clear ih
      refine S.exit rfl ?_
      refine S.seq (S.region rfl ?_)
      refine O.opE (.p rfl) (.litP (T := Rp.i64) (ys := [-9223372036854775808, -1, 0, 1, 2, 262144, 262145, 262146, 9223372036854775807]) Go.Proofs.Try.underlying33 FactJourn9.elem3 (by decide) rfl rfl ⟨⟨rfl, by first | assumption | (constructor <;> omega)⟩, ⟨rfl, by first | assumption | (constructor <;> omega)⟩, ⟨rfl, by first | assumption | (constructor <;> omega)⟩, ⟨rfl, by first | assumption | (constructor <;> omega)⟩, ⟨rfl, by first | assumption | (constructor <;> omega)⟩, ⟨rfl, by first | assumption | (constructor <;> omega)⟩, ⟨rfl, by first | assumption | (constructor <;> omega)⟩, ⟨rfl, by first | assumption | (constructor <;> omega)⟩, ⟨rfl, by first | assumption | (constructor <;> omega)⟩, trivial⟩ (by decide)) ?_
      rintro _ _ ⟨a107, c107, rfl, rfl⟩
      refine O.op (.p rfl) (.as rfl) ?_
      refine O.nil ?_
      refine S.seq (S.seq ?_)
      refine S.frzA (by repeat (first | exact Sel.here | apply Sel.there)) fun g hs hm hn => ?_
      replace hg := Fr.sub_trans hg hs
      replace hR := melted hR hm
      try replace hall := hall.mono hs
      replace hm1 := meltTrans hm1 hm
      replace hm2 := meltTrans hm2 hm
      clear hs hm
      refine S.region rfl ?_
      refine O.op (.p rfl) (.as rfl) ?_
      refine O.nil ?_
      refine S.block ?_
      obtain ⟨nums, hnums⟩ : ∃ nums : List Int, [-9223372036854775808, -1, 0, 1, 2, 262144, 262145, 262146, 9223372036854775807] = nums := ⟨_, rfl⟩
      rw [hnums] at hn
      have hnl : nums.length = 9 := by rw [← hnums]; rfl
      clear hnums
      refine S.loopK (ι := Nat) (fun i => i ≤ nums.length) (fun i => [(12, .int .i64 (i : Int))]) [(11, _)] (fun i => []) (fun i => nums.length - i) (0) (by simp) (.cons rfl (.nil)) (.cons rfl (.nil)) rfl fun i hx ih => ?_
      have hm3 := meltRefl (g := g)
      refine S.seq (S.seq (S.region rfl ?_))
      refine O.op (.p rfl) (.mv rfl) ?_
      refine O.op (.p rfl) (.mv rfl) ?_
      refine O.op (.p rfl) (.len rfl Go.Proofs.Try.underlying33 rfl) ?_
      refine O.op (.p rfl) (.lss rfl rfl) ?_
      refine O.nil ?_
      first | refine S.condD rfl (fun h111 => ?_) (fun h111 => ?_) | refine S.condB rfl (fun h111 => ?_) (fun h111 => ?_)
      · have hi : i < nums.length := by omega
        refine S.addNil (T := Rp.u8) (e := 5) ?_
        refine S.skip (S.seq (S.block (S.seq (S.region rfl ?_))))
        refine O.op (.p rfl) (.as rfl) ?_
        refine O.nil ?_
        refine S.seq (S.seq (S.region rfl ?_))
        refine O.op (.p rfl) (.as rfl) ?_
        refine O.nil ?_
        refine S.block ?_
        refine S.loopK3 (ι := Nat) (κ := Option Addr) (υ := Nat) (fun j a c => j ≤ 8) (fun j a c => [(14, .int .i64 ((7 : Int) - (j : Int))), (13, .slice a j c)]) [(11, _), (12, _)] (fun j a c => [OwnP Rp.u8 5 (.slice a j c) ((be nums[i]).take j)]) (fun j a c => 8 - j) (0) (none) (0) (by simp) (.cons rfl (.cons rfl (.nil))) (.cons rfl (.cons rfl (.nil))) rfl fun j a c hx ih => ?_
        have hm4 := meltRefl (g := g)
        refine S.seq (S.seq (S.region rfl ?_))
        refine O.op (.p rfl) (.mv rfl) ?_
        refine O.op (.p rfl) (.geq rfl rfl) ?_
        refine O.nil ?_
        first | refine S.condD rfl (fun h115 => ?_) (fun h115 => ?_) | refine S.condB rfl (fun h115 => ?_) (fun h115 => ?_)
        · have hj : j < 8 := by omega
          have hl := be_take_len nums[i] j (by omega)
          have hw : IntKind.u64.wrap (8 * (7 - (j : Int))) = 8 * (7 - (j : Int)) := by rw [wrap_u64_eq]; unfold u64; omega
          refine S.skip (S.seq (S.block (S.region rfl ?_)))
          refine O.op (.p rfl) (.mv rfl) ?_
          refine O.op (.p rfl) (.mv rfl) ?_
          refine O.op (.p rfl) (.mv rfl) ?_
          refine O.idx' (.p rfl) Go.Proofs.Try.underlying33 FactJourn9.size3 rfl rfl (show _ = (((i) : Nat) : Int) by omega) (by first | assumption | exact Arr.mono hg (by assumption) | exact Arr.left (by assumption) | exact Arr.left (Arr.mono hg (by assumption))) (by decide) (by first | omega | (simp; done) | (simp; omega) | decide) (fun p121 cs121 hp121 hr121 => ?_)
          obtain ⟨rfl, hz121⟩ := hr121
          refine O.op (.p rfl) (.loadAt FactJourn9.flat3 rfl hp121 rfl) ?_
          refine O.op (.p rfl) (.cvt Go.Proofs.Try.underlying3 Go.Proofs.Try.underlying34 rfl) ?_
          refine O.op (.p rfl) (.mv rfl) ?_
          refine O.op (.p rfl) (.mul rfl rfl (IntWalk.i64_in _ (by omega))) ?_
          refine O.op (.p rfl) (.cvt Go.Proofs.Try.underlying3 Go.Proofs.Try.underlying35 rfl) ?_
          refine O.op (.p rfl) (.shr rfl rfl (by omega)) ?_
          refine O.op (.p rfl) (.cvt Go.Proofs.Try.underlying34 Go.Proofs.Try.underlying5 rfl) ?_
          refine O.opE (.p rfl) (.litP (T := Rp.u8) (ys := [beAt nums[i] (7 - j)]) Go.Proofs.Try.underlying22 FactJourn9.elem5 (by decide) rfl rfl ⟨congrArg (fun v => [v]) (by simp only [byteV]; rw [shift_byte nums[i] (7 - j) (by omega) _ (by rw [wrap_u64_eq]; unfold u64; omega)]), trivial⟩ (by decide)) ?_
          rintro v129 _ ⟨a129, c129, rfl, rfl⟩
          refine O.opE (.p rfl) (.appendO (T := Rp.u8) Go.Proofs.Try.underlying22 FactJourn9.elem5 (by decide) rfl rfl (by repeat (first | exact Sel.here | apply Sel.there)) (by repeat (first | exact Sel.here | apply Sel.there)) (by first | omega | (simp; done) | (simp; omega) | decide) (by first | omega | (simp; done) | (simp; omega) | decide)) ?_
          rintro v130 _ ⟨a130, c130, rfl, rfl⟩
          refine O.op (.p rfl) (.as rfl) ?_
          refine O.nil ?_
          refine S.inBlock (S.region rfl ?_)
          refine O.op (.p rfl) (.mv rfl) ?_
          refine O.op (.p rfl) (.sub rfl rfl (IntWalk.i64_in _ (by omega))) ?_
          refine O.op (.p rfl) (.as rfl) ?_
          refine O.nil ?_
          rw [be_take nums[i] j hj, hl]
          refine S.slot 14 (v' := .int .i64 ((7 : Int) - ((j + 1 : Nat) : Int))) rfl (congrArg _ (by omega)) ?_
          refine S.weaken ?_ (ih (j + 1) (a130) (c130) (by omega) (by omega))
          repeat (first | exact Sub.nil | refine Sub.cons rfl ?_)
        · have hj : j = 8 := by omega
          subst hj
          clear ih
          rw [show (be nums[i]).take 8 = be nums[i] from rfl]
          refine S.exit rfl ?_
          refine S.seq (S.region rfl ?_)
          refine O.op (.p rfl) (.mv rfl) ?_
          refine O.callB (.p rfl) rfl FactJourn9.ok10 rfl rfl (bs := [OwnP Rp.u8 5 (.slice a 8 c) (be nums[i])]) (by repeat (first | exact Sels.nil | (apply Sels.cons; focus (repeat (first | exact Sel.here | apply Sel.there))))) (fun m hm hd => scans_c (hm.arr.right hd) (by simp)) ?_
          rintro v132 _ ⟨rfl, rfl⟩
          try simp only [List.cons_append, List.nil_append, List.append_nil]
          refine O.op (.p rfl) (.not rfl) ?_
          refine O.op (.p rfl) (.mv rfl) ?_
          refine O.op (.g rfl rfl) (.mv rfl) ?_
          refine O.opE (.g rfl rfl) (.litP (T := Rp.u8) (ys := [1, 0, 0, 0, 0, 0, 0, 0, 1, 0, 0, 0, 1]) Go.Proofs.Try.underlying22 FactJourn9.elem5 (by decide) rfl rfl ⟨rfl, rfl, rfl, rfl, rfl, rfl, rfl, rfl, rfl, rfl, rfl, rfl, rfl, trivial⟩ (by decide)) ?_
          rintro _ _ ⟨a136, c136, rfl, rfl⟩
          refine O.opE (.g rfl rfl) (.appendO (T := Rp.u8) Go.Proofs.Try.underlying22 FactJourn9.elem5 (by decide) rfl rfl (by repeat (first | exact Sel.here | apply Sel.there)) (by repeat (first | exact Sel.here | apply Sel.there)) (by first | omega | (simp; done) | (simp; omega) | decide) (by first | omega | (simp; done) | (simp; omega) | decide)) ?_
          rintro _ _ ⟨a137, c137, rfl, rfl⟩
          refine O.callB (.g rfl rfl) rfl FactJourn9.ok10 rfl rfl (bs := [OwnP Rp.u8 5 (.slice a137 ((be nums[i]).length + 13) c137) (be nums[i] ++ [1, 0, 0, 0, 0, 0, 0, 0, 1, 0, 0, 0, 1])]) (by repeat (first | exact Sels.nil | (apply Sels.cons; focus (repeat (first | exact Sel.here | apply Sel.there))))) (fun m hm hd => scans_c (hm.arr.right hd) (by simp)) ?_
          rintro v138 _ ⟨rfl, rfl⟩
          try simp only [List.cons_append, List.nil_append, List.append_nil]
          refine O.op (.g rfl rfl) (.not rfl) ?_
          refine O.op (.p rfl) (.pickF rfl rfl) ?_
          refine O.nil ?_
          refine S.condF rfl ?_
          refine S.skip (S.inBlock (S.region rfl ?_))
          refine O.op (.p rfl) (.mv rfl) ?_
          refine O.op (.p rfl) (.add rfl rfl (IntWalk.i64_in _ (by omega))) ?_
          refine O.op (.p rfl) (.as rfl) ?_
          refine O.nil ?_
          refine S.pk ?_ (S.weaken ?_ (ih (i + 1) (by omega) (by omega)))
          · repeat (first | exact Picks.all | exact Picks.nil | (apply Picks.cons; focus (repeat (first | exact Sel.here | apply Sel.there))) | apply Picks.skip)
          repeat (first | exact Sub.nil | refine Sub.cons rfl ?_)
      · clear ih
        refine S.exit rfl ?_
        refine S.seq (S.region rfl ?_)
        refine O.opE (.p rfl) (.makeP (T := Rp.u8) (0 : UInt8) (m := 262145) Go.Proofs.Try.underlying22 FactJourn9.elem5 (by decide) rfl rfl rfl rfl rfl (by decide) (by decide)) ?_
        rintro v141 _ ⟨a141, c141, rfl, rfl⟩
        refine O.op (.p rfl) (.as rfl) ?_
        refine O.nil ?_
        refine S.seq ?_
        refine S.frzA (by repeat (first | exact Sel.here | apply Sel.there)) fun g hs hm hlong => ?_
        replace hg := Fr.sub_trans hg hs
        replace hR := melted hR hm
        try replace hall := hall.mono hs
        try replace hn := hn.mono hs
        replace hm1 := meltTrans hm1 hm
        replace hm2 := meltTrans hm2 hm
        replace hm3 := meltTrans hm3 hm
        clear hs hm
        obtain ⟨zs, hz⟩ : ∃ zs, List.replicate 262145 (0 : UInt8) = zs := ⟨_, rfl⟩
        rw [hz] at hlong
        have hzl : zs.length = 262145 := by rw [← hz, List.length_replicate]
        clear hz
        have hd1 : (zs.drop 1).length = 262144 := by rw [List.length_drop]; omega
        refine S.region rfl ?_
        refine O.op (.p rfl) (.mv rfl) ?_
        refine O.sliceFrom (a := 1) (.p rfl) Go.Proofs.Try.underlying22 FactJourn9.size5 rfl rfl (by assumption) (by first | omega | (simp; done) | (simp; omega) | decide) (by first | omega | (simp; done) | (simp; omega) | decide) (fun u144 ha144 => ?_)
        obtain ⟨a144, c144, rfl⟩ := ha144.shape
        refine O.op (.p rfl) (.build (cs := [_, _]) Go.Proofs.Try.underlying25 rfl rfl rfl rfl rfl) ?_
        refine O.call0 (.p rfl) rfl FactJourn9.ok6 rfl rfl (put_c (k := 4) ha144) ?_
        rintro v146 _ ⟨a146, c146, rfl, rfl⟩
        try simp only [List.cons_append, List.nil_append, List.append_nil]
        refine O.op (.p rfl) (.mv rfl) ?_
        refine O.op (.p rfl) (.extract rfl rfl) ?_
        refine O.op (.p rfl) (.extract rfl rfl) ?_
        refine O.op (.p rfl) (.as rfl) ?_
        refine O.op (.p rfl) (.as rfl) ?_
        refine O.nil ?_
        refine S.seq (S.region rfl ?_)
        refine O.op (.p rfl) (.mv rfl) ?_
        refine O.op (.p rfl) (.build (cs := [_, _]) Go.Proofs.Try.underlying25 rfl rfl rfl rfl rfl) ?_
        refine O.call0 (.p rfl) rfl FactJourn9.ok6 rfl rfl (put_c (k := 4) hlong) ?_
        rintro v152 _ ⟨a152, c152, rfl, rfl⟩
        try simp only [List.cons_append, List.nil_append, List.append_nil]
        refine O.op (.p rfl) (.mv rfl) ?_
        refine O.op (.p rfl) (.extract rfl rfl) ?_
        refine O.op (.p rfl) (.extract rfl rfl) ?_
        refine O.op (.p rfl) (.as rfl) ?_
        refine O.op (.p rfl) (.as rfl) ?_
        refine O.nil ?_
        refine S.seq (S.region rfl ?_)
        refine O.op (.p rfl) (.mv rfl) ?_
        refine O.op (.p rfl) (.build (cs := [_, _]) Go.Proofs.Try.underlying25 rfl rfl rfl rfl rfl) ?_
        refine O.call0 (.p rfl) rfl FactJourn9.ok6 rfl rfl (put_c (k := 5) hlong) ?_
        rintro v158 _ ⟨a158, c158, rfl, rfl⟩
        try simp only [List.cons_append, List.nil_append, List.append_nil]
        refine O.op (.p rfl) (.mv rfl) ?_
        refine O.op (.p rfl) (.extract rfl rfl) ?_
        refine O.op (.p rfl) (.extract rfl rfl) ?_
        refine O.op (.p rfl) (.as rfl) ?_
        refine O.op (.p rfl) (.as rfl) ?_
        refine O.nil ?_
        refine S.seq ?_
        refine S.frzA (by repeat (first | exact Sel.here | apply Sel.there)) fun g hs hm hx3 => ?_
        replace hg := Fr.sub_trans hg hs
        replace hR := melted hR hm
        try replace hall := hall.mono hs
        try replace hn := hn.mono hs
        try replace hlong := hlong.mono hs
        replace hm1 := meltTrans hm1 hm
        replace hm2 := meltTrans hm2 hm
        replace hm3 := meltTrans hm3 hm
        clear hs hm
        refine S.frzA (by repeat (first | exact Sel.here | apply Sel.there)) fun g hs hm hx2 => ?_
        replace hg := Fr.sub_trans hg hs
        replace hR := melted hR hm
        try replace hall := hall.mono hs
        try replace hn := hn.mono hs
        try replace hlong := hlong.mono hs
        try replace hx3 := hx3.mono hs
        replace hm1 := meltTrans hm1 hm
        replace hm2 := meltTrans hm2 hm
        replace hm3 := meltTrans hm3 hm
        clear hs hm
        refine S.frzA (by repeat (first | exact Sel.here | apply Sel.there)) fun g hs hm hx1 => ?_
        replace hg := Fr.sub_trans hg hs
        replace hR := melted hR hm
        try replace hall := hall.mono hs
        try replace hn := hn.mono hs
        try replace hlong := hlong.mono hs
        try replace hx3 := hx3.mono hs
        try replace hx2 := hx2.mono hs
        replace hm1 := meltTrans hm1 hm
        replace hm2 := meltTrans hm2 hm
        replace hm3 := meltTrans hm3 hm
        clear hs hm
        have hpl := putOut_len 4 (zs.drop 1)
        have e4 : putErr 4 (zs.drop 1) = 0 := by unfold putErr; rw [if_neg (by decide), if_neg (by omega)]
        have e3 : putErr 4 zs = 3 := by unfold putErr; rw [if_neg (by decide), if_pos (by omega)]
        have e5 : putErr 5 zs = 2 := by unfold putErr; rw [if_pos (by decide)]
        have es := scan_long e4 hd1
        refine S.region rfl ?_
        refine O.op (.p rfl) (.mv rfl) ?_
        refine O.call0 (.p rfl) rfl FactJourn9.ok11 rfl rfl (scan_c hx1 (by omega)) ?_
        rintro v163 _ ⟨a163, c163, rfl, rfl⟩
        try simp only [List.cons_append, List.nil_append, List.append_nil]
        refine O.op (.p rfl) (.mv rfl) ?_
        refine O.op (.p rfl) (.extract rfl rfl) ?_
        refine O.op (.p rfl) (.extract rfl rfl) ?_
        refine O.op (.p rfl) (.extract rfl rfl) ?_
        refine O.op (.p rfl) (.as rfl) ?_
        refine O.op (.p rfl) (.as rfl) ?_
        refine O.op (.p rfl) (.as rfl) ?_
        refine O.nil ?_
        refine S.seq ?_
        simp only [es]
        refine S.region rfl ?_
        refine O.op (.p rfl) (.mv rfl) ?_
        refine O.op (.p rfl) (.eql rfl rfl) ?_
        refine O.slot 168 (v' := .bool true) rfl (congrArg Value.bool (by exact decide_eq_true e4)) ?_
        refine O.op (.p rfl) (.mv rfl) ?_
        refine O.op (.g rfl rfl) (.mv rfl) ?_
        refine O.op (.g rfl rfl) (.eql rfl rfl) ?_
        refine O.slot 171 (v' := .bool true) rfl (congrArg Value.bool (by exact decide_eq_true e3)) ?_
        refine O.op (.p rfl) (.pickT rfl rfl) ?_
        refine O.op (.p rfl) (.mv rfl) ?_
        refine O.op (.g rfl rfl) (.mv rfl) ?_
        refine O.op (.g rfl rfl) (.eql rfl rfl) ?_
        refine O.slot 175 (v' := .bool true) rfl (congrArg Value.bool (by exact decide_eq_true e5)) ?_
        refine O.op (.p rfl) (.pickT rfl rfl) ?_
        refine O.op (.p rfl) (.mv rfl) ?_
        refine O.op (.g rfl rfl) (.mv rfl) ?_
        refine O.op (.g rfl rfl) (.len rfl Go.Proofs.Try.underlying36 rfl) ?_
        refine O.op (.g rfl rfl) (.eql rfl rfl) ?_
        refine O.slot 180 (v' := .bool true) rfl (congrArg Value.bool (by simp)) ?_
        refine O.op (.p rfl) (.pickT rfl rfl) ?_
        refine O.op (.p rfl) (.mv rfl) ?_
        refine O.op (.g rfl rfl) (.mv rfl) ?_
        refine O.op (.g rfl rfl) (.eql rfl rfl) ?_
        refine O.slot 184 (v' := .bool true) rfl (congrArg Value.bool (by simp)) ?_
        refine O.op (.p rfl) (.pickT rfl rfl) ?_
        refine O.op (.p rfl) (.mv rfl) ?_
        refine O.op (.g rfl rfl) (.mv rfl) ?_
        refine O.op (.g rfl rfl) ((by first | exact .notD rfl | exact .not rfl)) ?_
        refine O.slot 188 (v' := .bool true) rfl (congrArg Value.bool (by rfl)) ?_
        refine O.op (.p rfl) (.pickT rfl rfl) ?_
        refine O.op (.p rfl) (.mv rfl) ?_
        refine O.call0 (.g rfl rfl) rfl FactJourn9.ok10 rfl rfl (scans_c Arr.nil (by decide)) ?_
        rintro v191 _ ⟨rfl, rfl⟩
        try simp only [List.cons_append, List.nil_append, List.append_nil]
        refine O.op (.p rfl) (.pickT rfl rfl) ?_
        refine O.op (.p rfl) (.mv rfl) ?_
        refine O.call0 (.g rfl rfl) rfl FactJourn9.ok12 rfl rfl (awake_c) ?_
        rintro v194 _ ⟨rfl, rfl⟩
        try simp only [List.cons_append, List.nil_append, List.append_nil]
        refine O.op (.p rfl) (.pickT rfl rfl) ?_
        refine O.op (.p rfl) (.as rfl) ?_
        refine O.nil ?_
        refine S.ret Go.Proofs.Try.results3 rfl fun w hw => Holds.end_ hR hw ?_
        exact ⟨_, ⟨rfl, rfl⟩, by repeat (first | exact Picks.all | exact Picks.nil | (apply Picks.cons; focus (repeat (first | exact Sel.here | apply Sel.there))) | apply Picks.skip)⟩

end Go.Proofs.Ytcghiboamlaenaa
