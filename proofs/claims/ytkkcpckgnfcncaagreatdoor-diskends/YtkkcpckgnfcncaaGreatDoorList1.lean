/- Texts of this proof, one behind the other. -/
import Derived.Test.YtkkcpckgnfcncaaGreatDoorSpSort
import Derived.Test.YtkkcpckgnfcncaaGreatDoorProg
import Derived.Test.YtkkcpckgnfcncaaGreatDoorDisk5
section
/- Proved: slices.Sort of texts, as the library's contract tells it, at this program's numbers; no condition. (The laying is the kit's command's print, written out.) -/
namespace Go.Proofs.YtkkcpckgnfcncaaGreatDoor
open Go.Sp
def sortA_ren : Go.Shelf.Ren := ⟨fun | 6 => 84 | 8 => 142 | 9 => 141 | 19 => 165 | 20 => 166 | 21 => 156 | 22 => 157 | 23 => 158 | 24 => 159 | 25 => 160 | 26 => 161 | 27 => 162 | 28 => 163 | 29 => 164 | 36 => 170 | 31 => 171 | 32 => 172 | 37 => 173 | 38 => 174 | 39 => 175 | 41 => 180 | n => n, fun | 27 => 36 | 29 => 9 | 3 => 3 | 32 => 109 | 26 => 36 | 0 => 0 | 44 => 153 | 46 => 108 | 4 => 4 | 36 => 261 | 35 => 260 | 41 => 266 | 5 => 5 | 9 => 9 | 53 => 271 | 57 => 275 | 63 => 285 | 64 => 138 | n => n, fun | n => n⟩
theorem sortA : Go.Proofs.SlLaysM.n6 Tryz.prog sortA_ren where
  mixed := by kernel_rfl
  f6 := ⟨ "slices.Sort[[]string,string]", by decide, Tryz.func84.trans (congrArg some (by kernel_rfl))⟩
  f8 := Tryz.func142.trans (congrArg some (by kernel_rfl))
  f9 := ⟨ "slices.pdqsortOrdered[string]", by decide, Tryz.func141.trans (congrArg some (by kernel_rfl))⟩
  f19 := Tryz.func165.trans (congrArg some (by kernel_rfl))
  f20 := Tryz.func166.trans (congrArg some (by kernel_rfl))
  f21 := ⟨ "slices.insertionSortOrdered[string]", by decide, Tryz.func156.trans (congrArg some (by kernel_rfl))⟩
  f22 := ⟨ "slices.heapSortOrdered[string]", by decide, Tryz.func157.trans (congrArg some (by kernel_rfl))⟩
  f23 := ⟨ "slices.breakPatternsOrdered[string]", by decide, Tryz.func158.trans (congrArg some (by kernel_rfl))⟩
  f24 := ⟨ "slices.choosePivotOrdered[string]", by decide, Tryz.func159.trans (congrArg some (by kernel_rfl))⟩
  f25 := ⟨ "slices.reverseRangeOrdered[string]", by decide, Tryz.func160.trans (congrArg some (by kernel_rfl))⟩
  f26 := ⟨ "slices.partialInsertionSortOrdered[string]", by decide, Tryz.func161.trans (congrArg some (by kernel_rfl))⟩
  f27 := ⟨ "cmp.Less[string]", by decide, Tryz.func162.trans (congrArg some (by kernel_rfl))⟩
  f28 := ⟨ "slices.partitionEqualOrdered[string]", by decide, Tryz.func163.trans (congrArg some (by kernel_rfl))⟩
  f29 := ⟨ "slices.partitionOrdered[string]", by decide, Tryz.func164.trans (congrArg some (by kernel_rfl))⟩
  f31 := Tryz.func171.trans (congrArg some (by kernel_rfl))
  f32 := Tryz.func172.trans (congrArg some (by kernel_rfl))
  f36 := ⟨ "slices.siftDownOrdered[string]", by decide, Tryz.func170.trans (congrArg some (by kernel_rfl))⟩
  f37 := ⟨ "slices.medianAdjacentOrdered[string]", by decide, Tryz.func173.trans (congrArg some (by kernel_rfl))⟩
  f38 := ⟨ "slices.medianOrdered[string]", by decide, Tryz.func174.trans (congrArg some (by kernel_rfl))⟩
  f39 := ⟨ "cmp.isNaN[string]", by decide, Tryz.func175.trans (congrArg some (by kernel_rfl))⟩
  f41 := ⟨ "slices.order2Ordered[string]", by decide, Tryz.func180.trans (congrArg some (by kernel_rfl))⟩
  t0 := Tryz.underlying0
  a0 := Tryz.isAgg0
  z0 := Tryz.sizeOf0
  v0 := Tryz.zeroValue0
  t3 := Tryz.underlying3
  a3 := Tryz.isAgg3
  z3 := Tryz.sizeOf3
  v3 := Tryz.zeroValue3
  t4 := Tryz.underlying4
  a4 := Tryz.isAgg4
  z4 := Tryz.sizeOf4
  v4 := Tryz.zeroValue4
  t5 := Tryz.underlying5
  a5 := Tryz.isAgg5
  z5 := Tryz.sizeOf5
  v5 := Tryz.zeroValue5
  t9 := Tryz.underlying9
  a9 := Tryz.isAgg9
  z9 := Tryz.sizeOf9
  v9 := Tryz.zeroValue9
  t26 := Tryz.underlying36
  a26 := Tryz.isAgg36
  z26 := Tryz.sizeOf36
  v26 := Tryz.zeroValue36
  t27 := Tryz.underlying36
  a27 := Tryz.isAgg36
  z27 := Tryz.sizeOf36
  v27 := Tryz.zeroValue36
  t29 := Tryz.underlying9
  a29 := Tryz.isAgg9
  z29 := Tryz.sizeOf9
  v29 := Tryz.zeroValue9
  t32 := Tryz.underlying109
  a32 := Tryz.isAgg109
  z32 := Tryz.sizeOf109
  v32 := Tryz.zeroValue109
  t35 := Tryz.underlying260
  a35 := Tryz.isAgg260
  z35 := Tryz.sizeOf260
  v35 := Tryz.zeroValue260
  t36 := Tryz.underlying261
  a36 := Tryz.isAgg261
  z36 := Tryz.sizeOf261
  v36 := Tryz.zeroValue261
  t41 := Tryz.underlying266
  a41 := Tryz.isAgg266
  z41 := Tryz.sizeOf266
  v41 := Tryz.zeroValue266
  t44 := Tryz.underlying153
  a44 := Tryz.isAgg153
  z44 := Tryz.sizeOf153
  v44 := Tryz.zeroValue153
  t46 := Tryz.underlying108
  a46 := Tryz.isAgg108
  z46 := Tryz.sizeOf108
  v46 := Tryz.zeroValue108
  t53 := Tryz.underlying271
  a53 := Tryz.isAgg271
  z53 := Tryz.sizeOf271
  v53 := Tryz.zeroValue271
  t57 := Tryz.underlying275
  a57 := Tryz.isAgg275
  z57 := Tryz.sizeOf275
  v57 := Tryz.zeroValue275
  t63 := Tryz.underlying285
  a63 := Tryz.isAgg285
  z63 := Tryz.sizeOf285
  v63 := Tryz.zeroValue285
  t64 := Tryz.underlying138
  a64 := Tryz.isAgg138
  z64 := Tryz.sizeOf138
  v64 := Tryz.zeroValue138
theorem sort_c {r : Fr} {a : Option Addr} {c : Nat} {l : List (List UInt8)} (hl : l.length < 4611686018427387904) :
    Con Go.Proofs.Tryz.prog 84 #[.slice a l.length c] r [OwnP Rp.str 9 (.slice a l.length c) l] (Ret fun v η => v = .tuple #[] ∧ η = [OwnP Rp.str 9 (.slice a l.length c) (sortT l)]) :=
  sort_con (fun blk off cap ss w h1 h2 h3 => AnyM.slices_Sort_string sortA blk off cap ss w h1 h2 h3) (fun p cap w => AnyM.slices_Sort_string_none sortA p cap w) hl
end Go.Proofs.YtkkcpckgnfcncaaGreatDoor
end
section
open Go Go.Sp
set_option maxRecDepth 100000
attribute [local irreducible] obj Own OwnP
namespace Go.Proofs.YtkkcpckgnfcncaaGreatDoor
theorem FactList1.elem9 : elemIs Go.Proofs.Tryz.prog 9 1 16 [.string ⟨#[]⟩] := elemIs.mk (by kernel_rfl) rfl
theorem FactList1.flat36 : Go.Sp.flat1 Go.Proofs.Tryz.prog 36 = true := by kernel_rfl
theorem FactList1.flat60 : Go.Sp.flat1 Go.Proofs.Tryz.prog 60 = true := by kernel_rfl
theorem FactList1.fld62x0 : fieldOff Go.Proofs.Tryz.prog 62 0 = some 0 := by kernel_rfl
theorem FactList1.fld64x0 : fieldOff Go.Proofs.Tryz.prog 64 0 = some 0 := by kernel_rfl
theorem FactList1.ok140 : callable Go.Proofs.Tryz.prog 140 = true := by kernel_rfl
theorem FactList1.ok30 : callable Go.Proofs.Tryz.prog 30 = true := by kernel_rfl
theorem FactList1.ok38 : callable Go.Proofs.Tryz.prog 38 = true := by kernel_rfl
theorem FactList1.ok39 : callable Go.Proofs.Tryz.prog 39 = true := by kernel_rfl
theorem FactList1.ok83 : callable Go.Proofs.Tryz.prog 83 = true := by kernel_rfl
theorem FactList1.ok84 : callable Go.Proofs.Tryz.prog 84 = true := by kernel_rfl
theorem FactList1.ok85 : callable Go.Proofs.Tryz.prog 85 = true := by kernel_rfl

theorem keys1_c {r : Fr} {l b bm c : Nat} {m : SS} {J : List (List UInt8) → SProp} (hw : WfT m c)
    (hy : ∀ done y, (∃ rest, (m.map (·.1)).Perm ((done ++ [y]) ++ rest)) → YCon Go.Proofs.Tryz.prog l #[.string (str y)] r [J done] (Ret fun u η => u = .bool true ∧ η = [J (done ++ [y])])) :
    Con Go.Proofs.Tryz.prog 85 #[yieldV l, .pointer (some ⟨bm, 0, none⟩)] r [obj bm 60 [.map (some b)], MapT b m c, J []]
      (Ret fun u η => ∃ ys, (m.map (·.1)).Perm ys ∧ η = [MapT b m c, J ys]) := by
  refine Con.of (n := 14) [yieldV l, .pointer (some ⟨bm, 0, none⟩)] rfl Go.Proofs.Tryz.func85 rfl rfl rfl fun g hg R hR => ?_
  refine S.seq (S.region rfl ?_)
  refine O.op (.p rfl) (.loadObj FactList1.flat60 rfl (by repeat (first | exact Sel.here | apply Sel.there)) rfl) ?_
  refine O.opE (.p rfl) (.rangeT Go.Proofs.Tryz.underlying60 rfl (by repeat (first | exact Sel.here | apply Sel.there))) ?_
  rintro _ _ ⟨it5, rfl, rfl⟩
  refine O.nil ?_
  refine S.block ?_
  refine S.pk (ζ := [IterT it5 b c [], MapT b m c, J []]) (by repeat (first | exact Picks.all | exact Picks.nil | (apply Picks.cons; focus (repeat (first | exact Sel.here | apply Sel.there))) | apply Picks.skip)) ?_
  refine S.loopK2 (ι := SS) (κ := SS) (fun done todo => m.Perm (done ++ todo)) (fun done todo => []) [(0, _), (5, _)] (fun done todo => [IterT it5 b c done, MapT b m c, J (done.map (·.1))]) (fun done todo => todo.length) ([]) (m) (by exact List.Perm.refl _) (.nil) (.cons rfl (.cons rfl (.nil))) rfl fun done todo hx ih => ?_
  have hm1 := meltRefl (g := g)
  refine S.seq (S.region rfl ?_)
  refine O.nextT (.p rfl) rfl hw hx (by repeat (first | exact Sel.here | apply Sel.there)) (by repeat (first | exact Sel.here | apply Sel.there)) (fun h6 => ?_) (fun y6 t16 t26 h6 => ?_)
  · refine O.op (.p rfl) (.extract rfl rfl) ?_
    refine O.nil ?_
    refine S.seq (S.condF rfl ?_)
    refine S.exit rfl ?_
    subst h6
    rw [List.append_nil] at hx
    refine S.end0 Go.Proofs.Tryz.results85 fun w hw => Holds.end_ hR hw ?_
    exact ⟨_, ⟨done.map (·.1), hx.map _, rfl⟩, by repeat (first | exact Picks.all | exact Picks.nil | (apply Picks.cons; focus (repeat (first | exact Sel.here | apply Sel.there))) | apply Picks.skip)⟩
  · subst h6
    have hmem : y6 ∈ m := hx.mem_iff.2 (by simp)
    have hp2 : m.Perm ((done ++ [y6]) ++ (t16 ++ t26)) := hx.trans (by
      rw [List.append_assoc]; exact List.Perm.append_left _ (List.perm_middle))
    have hok : ∃ rest, (m.map (·.1)).Perm ((done.map (·.1) ++ [y6.1]) ++ rest) := ⟨(t16 ++ t26).map (·.1), by simpa using hp2.map (·.1)⟩
    refine O.op (.p rfl) (.extract rfl rfl) ?_
    refine O.nil ?_
    refine S.seq (S.condT rfl ?_)
    refine S.skip (S.block (S.seq (S.region rfl ?_)))
    refine O.op (.p rfl) (.entryT rfl hw hmem (by repeat (first | exact Sel.here | apply Sel.there)) (by repeat (first | exact Sel.here | apply Sel.there))) ?_
    refine O.op (.p rfl) (.extract rfl rfl) ?_
    refine O.op (.p rfl) (.as rfl) ?_
    refine O.nil ?_
    refine S.seq (S.region rfl ?_)
    refine O.op (.p rfl) (.mv rfl) ?_
    refine O.op (.p rfl) (.mv rfl) ?_
    refine O.yieldSs (.p rfl) rfl rfl rfl (by repeat (first | exact Sels.nil | (apply Sels.cons; focus (repeat (first | exact Sel.here | apply Sel.there))))) ((hy _ y6.1 hok).sub hg) ?_
    rintro v12 _ ⟨rfl, rfl⟩
    refine O.op (.p rfl) (.not rfl) ?_
    refine O.nil ?_
    refine S.condF rfl ?_
    refine S.skip (S.inBlock ?_)
    simp only [List.cons_append, List.nil_append]
    rw [show done.map (·.1) ++ [y6.1] = (done ++ [y6]).map (·.1) from by simp]
    refine S.pk ?_ (S.weaken ?_ (ih (done ++ [y6]) (t16 ++ t26) (by exact hp2) (by simp)))
    · repeat (first | exact Picks.all | exact Picks.nil | (apply Picks.cons; focus (repeat (first | exact Sel.here | apply Sel.there))) | apply Picks.skip)
    repeat (first | exact Sub.nil | refine Sub.cons rfl ?_)

theorem keys_c {r : Fr} {b : Nat} : Con Go.Proofs.Tryz.prog 39 #[.map (some b)] r [] (Ret fun v η => ∃ bm, v = .func (.func 85) #[] #[.pointer (some ⟨bm, 0, none⟩)] ∧ η = [obj bm 60 [.map (some b)]]) := by
  refine Con.of (n := 4) [.map (some b)] rfl Go.Proofs.Tryz.func39 rfl rfl rfl fun g hg R hR => ?_
  refine S.seq (S.region rfl ?_)
  refine O.opE (.p rfl) (.box (cs := [_]) rfl rfl) ?_
  rintro _ _ ⟨b1, rfl, rfl⟩
  refine O.op (.p rfl) (.as rfl) ?_
  refine O.nil ?_
  refine S.seq (S.region rfl ?_)
  refine O.op (.p rfl) (.mkFunc rfl rfl) ?_
  refine O.op (.p rfl) (.as rfl) ?_
  refine O.nil ?_
  refine S.ret Go.Proofs.Tryz.results39 rfl fun w hw => Holds.end_ hR hw ?_
  exact ⟨_, ⟨_, rfl, rfl⟩, by repeat (first | exact Picks.all | exact Picks.nil | (apply Picks.cons; focus (repeat (first | exact Sel.here | apply Sel.there))) | apply Picks.skip)⟩
theorem appendSeq_k {r : Fr} {b bm c : Nat} {m : SS} (hw : WfT m c) (hm : m.length ≤ 1000000) (hq : ∀ x ∈ m, x.1.length ≤ 9223372036854775807) :
    Con Go.Proofs.Tryz.prog 140 #[.slice none 0 0, .func (.func 85) #[] #[.pointer (some ⟨bm, 0, none⟩)]] r [obj bm 60 [.map (some b)], MapT b m c]
      (Ret fun v η => ∃ ys a n, (m.map (·.1)).Perm ys ∧ v = .slice a ys.length n ∧ η = [OwnP Rp.str 9 (.slice a ys.length n) ys, MapT b m c]) := by
  refine Con.of (n := 13) [.slice none 0 0, .func (.func 85) #[] #[.pointer (some ⟨bm, 0, none⟩)]] rfl Go.Proofs.Tryz.func140 rfl rfl rfl fun g hg R hR => ?_
  refine S.seq (S.region rfl ?_)
  refine O.opE (.p rfl) (.box (cs := [_]) rfl rfl) ?_
  rintro _ _ ⟨b2, rfl, rfl⟩
  refine O.op (.p rfl) (.as rfl) ?_
  refine O.nil ?_
  refine S.seq (S.seq (S.region rfl ?_))
  refine O.op (.p rfl) (.mv rfl) ?_
  refine O.nil ?_
  refine S.block ?_
  refine S.addNil (T := Rp.str) (e := 9) ?_
  refine S.rangeAny (psl := [7]) (β := List UInt8) (χ := Unit) (τ := Option Addr × Nat) (vs := fun y _ => [.string (str y)]) (own := fun _ _ => []) (θ := [obj bm 60 [.map (some b)], MapT b m c]) (θ' := [MapT b m c]) (fun d => ∃ rest, (m.map (·.1)).Perm (d ++ rest)) (fun ys => (m.map (·.1)).Perm ys) (fun done t => [obj b2 36 [.slice t.1 done.length t.2], OwnP Rp.str 9 (.slice t.1 done.length t.2) done]) (none, 0) rfl FactList1.ok85 rfl (fun _ _ => rfl) (by kernel_rfl) (fun l J hy => Con.mono (keys1_c hw (fun done y hok => hy done y () hok)) (Ret.imp fun _ _ ⟨ys, h1, h2⟩ => ⟨ys, h1, h2⟩)) (by repeat (first | exact Sels.nil | (apply Sels.cons; focus (repeat (first | exact Sel.here | apply Sel.there))))) (fun l D0 fid tm done y e t hpre g hgr R hR => ?_) (fun D0 t ys hfin => ?_)
  · simp only [under, List.cons_append, List.nil_append]
    replace hg := Fr.sub_trans hg hgr
    obtain ⟨at', ct⟩ := t
    obtain ⟨rest, hrest⟩ := hpre
    have hln := hrest.length_eq
    simp only [List.length_append, List.length_singleton, List.length_map] at hln
    have hyq : y.length ≤ 9223372036854775807 := by
      have : y ∈ m.map (·.1) := hrest.mem_iff.2 (by simp)
      obtain ⟨x, hx, rfl⟩ := List.mem_map.1 this
      exact hq x hx
    refine S.region rfl ?_
    refine O.op (.p rfl) (.as rfl) ?_
    refine O.nil ?_
    refine S.beginRound (by repeat (first | exact Sel.here | apply Sel.there)) rfl ?_
    refine S.block (S.region rfl ?_)
    refine O.op (.p rfl) (.loadObj FactList1.flat36 rfl (by repeat (first | exact Sel.here | apply Sel.there)) rfl) ?_
    refine O.op (.p rfl) (.mv rfl) ?_
    refine O.opE (.p rfl) (.litP (T := Rp.str) (ys := [_]) Go.Proofs.Tryz.underlying36 FactList1.elem9 (by decide) rfl rfl ⟨⟨rfl, by first | omega | (simp; done) | (simp; omega) | decide⟩, trivial⟩ (by decide)) ?_
    rintro _ _ ⟨a10, c10, rfl, rfl⟩
    refine O.opE (.p rfl) (.appendO (T := Rp.str) Go.Proofs.Tryz.underlying36 FactList1.elem9 (by decide) rfl rfl (by repeat (first | exact Sel.here | apply Sel.there)) (by repeat (first | exact Sel.here | apply Sel.there)) (by first | omega | (simp; done) | (simp; omega) | decide) (by first | omega | (simp; done) | (simp; omega) | decide)) ?_
    rintro _ _ ⟨a11, c11, rfl, rfl⟩
    refine O.opU rfl (.store1 FactList1.flat36 rfl rfl (by first | rfl | assumption) (by repeat (first | exact Sel.here | apply Sel.there)) (by first | (simp; done) | (simp [Value.cells]; done))) ?_
    refine O.nil ?_
    refine S.inBlock ?_
    refine S.roundEnd (by repeat (first | exact Sel.here | apply Sel.there)) fun w hw => hR (a11, c11) w ?_
    simp only [List.length_append, List.length_singleton]
    exact hw.picks (by repeat (first | exact Picks.all | exact Picks.nil | (apply Picks.cons; focus (repeat (first | exact Sel.here | apply Sel.there))) | apply Picks.skip))
  · simp only [List.cons_append, List.nil_append, List.append_nil]
    refine S.inBlock (S.seq (S.region rfl ?_))
    refine O.op (.p rfl) (.loadObj FactList1.flat36 rfl (by repeat (first | exact Sel.here | apply Sel.there)) rfl) ?_
    refine O.op (.p rfl) (.as rfl) ?_
    refine O.nil ?_
    refine S.retM1 (.inr ⟨_, rfl⟩) (.cons (by repeat (first | exact Sel.here | apply Sel.there)) .nil) Go.Proofs.Tryz.results140 (.tmp rfl) fun w hw => ?_
    exact Holds.end_ hR hw ⟨_, ⟨ys, _, _, hfin, rfl, rfl⟩, by repeat (first | exact Picks.all | exact Picks.nil | (apply Picks.cons; focus (repeat (first | exact Sel.here | apply Sel.there))) | apply Picks.skip)⟩
theorem collect_k {r : Fr} {b bm c : Nat} {m : SS} (hw : WfT m c) (hm : m.length ≤ 1000000) (hq : ∀ x ∈ m, x.1.length ≤ 9223372036854775807) :
    Con Go.Proofs.Tryz.prog 83 #[.func (.func 85) #[] #[.pointer (some ⟨bm, 0, none⟩)]] r [obj bm 60 [.map (some b)], MapT b m c]
      (Ret fun v η => ∃ ys a n, (m.map (·.1)).Perm ys ∧ v = .slice a ys.length n ∧ η = [OwnP Rp.str 9 (.slice a ys.length n) ys, MapT b m c]) := by
  refine Con.of (n := 5) [.func (.func 85) #[] #[.pointer (some ⟨bm, 0, none⟩)]] rfl Go.Proofs.Tryz.func83 rfl rfl rfl fun g hg R hR => ?_
  refine S.seq (S.region rfl ?_)
  refine O.op (.p rfl) (.as rfl) ?_
  refine O.nil ?_
  refine S.seq (S.region rfl ?_)
  refine O.op (.p rfl) (.mv rfl) ?_
  refine O.callSs (.p rfl) rfl FactList1.ok140 rfl rfl (by repeat (first | exact Sels.nil | (apply Sels.cons; focus (repeat (first | exact Sel.here | apply Sel.there))))) (appendSeq_k hw hm hq) ?_
  rintro v4 _ ⟨ys, a4, n4, hys, rfl, rfl⟩
  try simp only [List.cons_append, List.nil_append, List.append_nil]
  refine O.op (.p rfl) (.as rfl) ?_
  refine O.nil ?_
  refine S.ret Go.Proofs.Tryz.results83 rfl fun w hw => Holds.end_ hR hw ?_
  exact ⟨_, ⟨ys, a4, n4, hys, rfl, rfl⟩, by repeat (first | exact Picks.all | exact Picks.nil | (apply Picks.cons; focus (repeat (first | exact Sel.here | apply Sel.there))) | apply Picks.skip)⟩
theorem sortT_rises (l : List (List UInt8)) : List.Pairwise (fun x y => x ≤ y) (sortT l) := by
  have h := List.pairwise_mergeSort (le := fun x y : List UInt8 => decide (x ≤ y)) (fun a b c h1 h2 => decide_eq_true (List.le_trans (of_decide_eq_true h1) (of_decide_eq_true h2))) (fun a b => by rcases List.le_total a b with h | h <;> simp [h]) l
  exact h.imp fun h => of_decide_eq_true h
theorem sortT_unique {l l' : List (List UInt8)} (h : l.Perm l') : sortT l = sortT l' :=
  List.Perm.eq_of_pairwise (fun a b _ _ p q => List.le_antisymm p q) (sortT_rises l) (sortT_rises l') ((sortT_perm l).trans (h.trans (sortT_perm l').symm))
/-- the names of a map, rising -/
def namesT (m : SS) : List (List UInt8) := sortT (m.map (·.1))
theorem sorted_k {r : Fr} {b bm c : Nat} {m : SS} (hw : WfT m c) (hm : m.length ≤ 1000000) (hq : ∀ x ∈ m, x.1.length ≤ 9223372036854775807) :
    Con Go.Proofs.Tryz.prog 38 #[.func (.func 85) #[] #[.pointer (some ⟨bm, 0, none⟩)]] r [obj bm 60 [.map (some b)], MapT b m c]
      (Ret fun v η => ∃ a n, v = .slice a (namesT m).length n ∧ η = [OwnP Rp.str 9 (.slice a (namesT m).length n) (namesT m), MapT b m c]) := by
  refine Con.of (n := 9) [.func (.func 85) #[] #[.pointer (some ⟨bm, 0, none⟩)]] rfl Go.Proofs.Tryz.func38 rfl rfl rfl fun g hg R hR => ?_
  refine S.seq (S.region rfl ?_)
  refine O.op (.p rfl) (.as rfl) ?_
  refine O.nil ?_
  refine S.seq (S.region rfl ?_)
  refine O.op (.p rfl) (.mv rfl) ?_
  refine O.callSs (.p rfl) rfl FactList1.ok83 rfl rfl (by repeat (first | exact Sels.nil | (apply Sels.cons; focus (repeat (first | exact Sel.here | apply Sel.there))))) (collect_k hw hm hq) ?_
  rintro v5 _ ⟨ys, a5, n5, hys, rfl, rfl⟩
  try simp only [List.cons_append, List.nil_append, List.append_nil]
  refine O.op (.p rfl) (.as rfl) ?_
  refine O.nil ?_
  refine S.seq (S.region rfl ?_)
  refine O.op (.p rfl) (.mv rfl) ?_
  have hyl := hys.length_eq
  rw [List.length_map] at hyl
  refine O.callSs (.p rfl) rfl FactList1.ok84 rfl rfl (by repeat (first | exact Sels.nil | (apply Sels.cons; focus (repeat (first | exact Sel.here | apply Sel.there))))) (sort_c (by omega)) ?_
  rintro v7 _ ⟨rfl, rfl⟩
  try simp only [List.cons_append, List.nil_append, List.append_nil]
  refine O.nil ?_
  refine S.seq (S.region rfl ?_)
  refine O.op (.p rfl) (.mv rfl) ?_
  refine O.op (.p rfl) (.as rfl) ?_
  refine O.nil ?_
  have e : sortT ys = namesT m := sortT_unique hys.symm
  have e2 : ys.length = (namesT m).length := by rw [← e, sortT_length]
  rw [e, e2]
  refine S.ret Go.Proofs.Tryz.results38 rfl fun w hw => Holds.end_ hR hw ?_
  exact ⟨_, ⟨a5, n5, rfl, rfl⟩, by repeat (first | exact Picks.all | exact Picks.nil | (apply Picks.cons; focus (repeat (first | exact Sel.here | apply Sel.there))) | apply Picks.skip)⟩
theorem list_g {r : Fr} {d q1 q2 : Nat} {m : DiskM} (hat : At r ⟨d, 0, none⟩ (dC q1 q2 m.room)) (ok : DOk m) (hm : m.safe.length ≤ 1000000) (hq : ∀ x ∈ m.safe, x.1.length ≤ 9223372036854775807) :
    Con Go.Proofs.Tryz.prog 17 #[.pointer (some ⟨d, 0, none⟩)] r (dW q1 q2 m) (Ret fun v η => ∃ a n, v = .slice a (namesT m.safe).length n ∧ η = OwnP Rp.str 9 (.slice a (namesT m.safe).length n) (namesT m.safe) :: dW q1 q2 m) := by
  refine Con.of (n := 13) [.pointer (some ⟨d, 0, none⟩)] rfl Go.Proofs.Tryz.func17 rfl rfl rfl fun g hg R hR => ?_
  replace hat : At g.h ⟨d, 0, none⟩ (dC q1 q2 m.room) := At.mono hg hat
  have hat2 : At g.h ⟨d, 0, none⟩ [.map (some q1), .map (some q2)] := At.take hat 2
  refine S.seq (S.region rfl ?_)
  refine O.op (.p rfl) (.as rfl) ?_
  refine O.nil ?_
  refine S.seq (S.seq (S.region rfl ?_))
  refine O.op (.p rfl) (.mv rfl) ?_
  refine O.call0 (.p rfl) rfl FactList1.ok30 rfl rfl ((made_g hat)) ?_
  rintro v4 _ ⟨rfl, rfl⟩
  try simp only [List.cons_append, List.nil_append, List.append_nil]
  refine O.op (.p rfl) (.not rfl) ?_
  refine O.nil ?_
  refine S.condF rfl ?_
  refine S.skip (S.seq (S.region rfl ?_))
  refine O.op (.p rfl) (.mv rfl) ?_
  refine O.op (.p rfl) (.nilCheck rfl) ?_
  refine O.op (.p rfl) (.fieldAddr FactList1.fld64x0 rfl) ?_
  refine O.op (.p rfl) (.fieldAddr FactList1.fld62x0 rfl) ?_
  refine O.op (.p rfl) (.loadAt FactList1.flat60 rfl hat rfl) ?_
  refine O.call0 (.p rfl) rfl FactList1.ok39 rfl rfl ((keys_c)) ?_
  rintro v11 _ ⟨bm11, rfl, rfl⟩
  try simp only [List.cons_append, List.nil_append, List.append_nil]
  refine O.callSs (.p rfl) rfl FactList1.ok38 rfl rfl (by repeat (first | exact Sels.nil | (apply Sels.cons; focus (repeat (first | exact Sel.here | apply Sel.there))))) (sorted_k ok.w1 hm hq) ?_
  rintro v12 _ ⟨a12, n12, rfl, rfl⟩
  try simp only [List.cons_append, List.nil_append, List.append_nil]
  refine O.op (.p rfl) (.as rfl) ?_
  refine O.nil ?_
  refine S.ret Go.Proofs.Tryz.results17 rfl fun w hw => Holds.end_ hR hw ?_
  exact ⟨_, ⟨a12, n12, rfl, rfl⟩, by repeat (first | exact Picks.all | exact Picks.nil | (apply Picks.cons; focus (repeat (first | exact Sel.here | apply Sel.there))) | apply Picks.skip)⟩

end Go.Proofs.YtkkcpckgnfcncaaGreatDoor
end
