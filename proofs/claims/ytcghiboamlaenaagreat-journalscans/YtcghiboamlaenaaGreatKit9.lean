import Derived.Test.YtcghiboamlaenaaGreatKit8
import Derived.Test.YtcghiboamlaenaaGreatSpFlat
open Go Go.Sp
set_option maxRecDepth 100000
attribute [local irreducible] obj Own OwnP
namespace Go.Proofs.YtcghiboamlaenaaGreat
theorem FactKit9.ok63 : callable Go.Proofs.Tryz.prog 63 = true := by kernel_rfl

/-- the mark of an entry -/
def markEnt (k i : Int) : EntT := (0, markT k i, ())
theorem markEntry_c {r : Fr} (k i : Int) : Con Go.Proofs.Tryz.prog 86 #[.int .i64 k, .int .i64 i] r [] (Ret fun v η => ∃ cs, v = .agg cs.toArray ∧ (cs.length = 2 ∧ ∀ c ∈ cs, c.oneCell' = true) ∧ η = [RdW EntRp cs (markEnt k i)]) := by
  refine Con.of (n := 10) [.int .i64 k, .int .i64 i] rfl Go.Proofs.Tryz.func86 rfl rfl rfl fun g hg R hR => ?_
  refine S.seq (S.region rfl ?_)
  refine O.opE (.p rfl) (.alloc (cs := [.int .u8 0, .slice none 0 0]) Go.Proofs.Tryz.zeroValue25 rfl) ?_
  rintro _ _ ⟨b4, rfl, rfl⟩
  refine O.nil ?_
  refine S.seq (S.region rfl ?_)
  refine O.op (.p rfl) (.mv rfl) ?_
  refine O.op (.p rfl) (.mv rfl) ?_
  refine O.call0 (.p rfl) rfl FactKit9.ok63 rfl rfl (markText_c _ _) ?_
  rintro v7 _ ⟨rfl, rfl⟩
  try simp only [List.cons_append, List.nil_append, List.append_nil]
  refine O.opE (.p rfl) (.strBytes (xs := markT k i) Go.Proofs.Tryz.underlying9 Go.Proofs.Tryz.underlying23 Go.Proofs.Tryz.underlying5 rfl (by simp)) ?_
  rintro v8 _ ⟨a8, c8, rfl, rfl⟩
  refine O.op (.p rfl) (.build (cs := [_, _]) Go.Proofs.Tryz.underlying25 rfl rfl rfl rfl rfl) ?_
  refine O.opU rfl (.storeObj (by kernel_rfl) rfl rfl rfl rfl (by repeat (first | exact Sel.here | apply Sel.there)) (by first | (simp; done) | (simp [Value.cells]; done))) ?_
  refine O.nil ?_
  refine S.objIs (b := b4) (cs' := [byteV 0, .slice a8 (markT k i).length c8]) (by repeat (first | exact Sel.here | apply Sel.there)) rfl ?_
  refine S.conv (B := fun m => Arr Rp.u8 m (.slice a8 (markT k i).length c8) (markT k i)) (C := RdW EntRp [byteV 0, .slice a8 (markT k i).length c8] (markEnt k i)) (by repeat (first | exact Sel.here | apply Sel.there)) (fun m x => ⟨m, Fr.sub_refl _, EntRp.mk x⟩) ?_
  refine S.retCellAgg Go.Proofs.Tryz.results86 Go.Proofs.Tryz.isAgg25 (by kernel_rfl) rfl (by repeat (first | exact Sel.here | apply Sel.there)) fun w hw => Holds.end_ hR hw ?_
  exact ⟨_, ⟨_, rfl, ⟨rfl, by intro c hc; simp at hc; rcases hc with rfl | rfl <;> rfl⟩, rfl⟩, by repeat (first | exact Picks.all | exact Picks.nil | (apply Picks.cons; focus (repeat (first | exact Sel.here | apply Sel.there))) | apply Picks.skip)⟩
theorem sameEntry_r {r : Fr} {cs ds : List Value} {x y : EntT} (h : EntRp.rel r cs x) (h' : EntRp.rel r ds y) :
    Con Go.Proofs.Tryz.prog 25 #[.agg cs.toArray, .agg ds.toArray] r [] (Ret fun v η => v = .bool (decide (x = y)) ∧ η = []) := by
  obtain ⟨v, rfl, ha⟩ := EntRp.open h
  obtain ⟨u, rfl, hb⟩ := EntRp.open h'
  exact sameEntry_c ha hb
/-- the second one is lent, and let go -/
theorem sameEntry_w {r : Fr} {cs ds : List Value} {x y : EntT} (h : EntRp.rel r cs x) :
    Con Go.Proofs.Tryz.prog 25 #[.agg cs.toArray, .agg ds.toArray] r [RdW EntRp ds y] (Ret fun v η => v = .bool (decide (x = y)) ∧ η = []) :=
  Con.lentD (η := []) (bs := [_]) fun _ hm hd => sameEntry_r (EntRp.mono (Fr.sub_add_left _ _) h) (EntRp.mono (Fr.sub_add_right hd) (Sat.w1 (B := fun m => EntRp.rel m ds y) EntRp.mono (fun _ x => x) hm))

end Go.Proofs.YtcghiboamlaenaaGreat
