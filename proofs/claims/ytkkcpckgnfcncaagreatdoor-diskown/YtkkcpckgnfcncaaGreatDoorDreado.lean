import Derived.Test.YtkkcpckgnfcncaaGreatDoorDfirm2
import Derived.Test.YtkkcpckgnfcncaaGreatDoorSpLast
open Go Go.Sp
set_option maxRecDepth 100000
attribute [local irreducible] obj Own OwnP
namespace Go.Proofs.YtkkcpckgnfcncaaGreatDoor
theorem FactDreado.flat22 : Go.Sp.flat1 Go.Proofs.Tryz.prog 22 = true := by kernel_rfl
theorem FactDreado.flat24 : Go.Sp.flat1 Go.Proofs.Tryz.prog 24 = true := by kernel_rfl
theorem FactDreado.flat9 : Go.Sp.flat1 Go.Proofs.Tryz.prog 9 = true := by kernel_rfl
theorem FactDreado.fld64x0 : fieldOff Go.Proofs.Tryz.prog 64 0 = some 0 := by kernel_rfl
theorem FactDreado.mixed : Go.Proofs.Tryz.prog.follows .mixedOrders = true := by kernel_rfl
theorem FactDreado.ok32 : callable Go.Proofs.Tryz.prog 32 = true := by kernel_rfl
theorem FactDreado.ok33 : callable Go.Proofs.Tryz.prog 33 = true := by kernel_rfl
theorem FactDreado.ok34 : callable Go.Proofs.Tryz.prog 34 = true := by kernel_rfl

theorem read1_o {r : Fr} {d q1 q2 bd bn bb : Nat} {x : Value} {m : DiskM} {name : List UInt8} (hat : At r ⟨d, 0, none⟩ (dC q1 q2 m.room)) (hd : At r ⟨bd, 0, none⟩ [.pointer (some ⟨d, 0, none⟩)]) (hn : At r ⟨bn, 0, none⟩ [.string (str name)]) (ok : DOk m) :
    Con Go.Proofs.Tryz.prog 33 #[.pointer (some ⟨bd, 0, none⟩), .pointer (some ⟨bn, 0, none⟩), .pointer (some ⟨bb, 0, none⟩)] r (dW q1 q2 m ++ [obj bb 22 [x]])
      (Ret fun v η => ∃ a c, v = .int .i64 0 ∧ η = dW q1 q2 m ++ [obj bb 22 [.slice a (dBytes m name).length c], OwnP Rp.u8 5 (.slice a (dBytes m name).length c) (dBytes m name)]) := by
  refine Con.of (n := 11) [.pointer (some ⟨bd, 0, none⟩), .pointer (some ⟨bn, 0, none⟩), .pointer (some ⟨bb, 0, none⟩)] rfl Go.Proofs.Tryz.func33 rfl rfl rfl fun g hg R hR => ?_
  replace hat : At g.h ⟨d, 0, none⟩ (dC q1 q2 m.room) := At.mono hg hat
  replace hd : At g.h ⟨bd, 0, none⟩ [.pointer (some ⟨d, 0, none⟩)] := At.mono hg hd
  replace hn : At g.h ⟨bn, 0, none⟩ [.string (str name)] := At.mono hg hn
  have hat2 : At g.h ⟨d, 0, none⟩ [.map (some q1), .map (some q2)] := At.take hat 2
  have hs := ok.le
  have hg1 := getT_le m.safe name
  have hg2 := getT_le m.loose name
  have hlb : (dBytes m name).length ≤ 9223372036854775807 := by unfold dBytes bytesT; rw [List.length_append]; omega
  refine S.seq (S.region rfl ?_)
  refine O.op (.p rfl) (.as rfl) ?_
  refine O.nil ?_
  refine S.seq (S.regionD (L := [0, 1, 2, 3, 4, 5, 6, 7]) FactDreado.mixed (by kernel_rfl) ?_)
  refine .quiet (.p rfl) rfl (fun _ => .loadAt FactDreado.flat24 rfl hd rfl) ?_
  refine .quiet (.p rfl) rfl (fun _ => .nilCheck rfl) ?_
  refine .quiet (.p rfl) rfl (fun _ => .fieldAddr FactDreado.fld64x0 rfl) ?_
  refine .quiet (.p rfl) rfl (fun _ => .loadAgg Go.Proofs.Tryz.isAgg62 (by kernel_rfl) rfl hat2) ?_
  refine .quiet (.p rfl) rfl (fun _ => .loadAt FactDreado.flat9 rfl hn rfl) ?_
  refine OD.callSs (.p rfl) (by kernel_rfl) rfl FactDreado.ok34 rfl rfl (by repeat (first | exact Sels.nil | (apply Sels.cons; focus (repeat (first | exact Sel.here | apply Sel.there))))) (dbytes_c (name := name) hs) ?_
  rintro v9 _ ⟨rfl, rfl⟩
  try simp only [List.cons_append, List.nil_append, List.append_nil]
  refine OD.strBytesO (xs := dBytes m name) (.p rfl) (by kernel_rfl) Go.Proofs.Tryz.underlying9 Go.Proofs.Tryz.underlying22 Go.Proofs.Tryz.underlying5 rfl hlb (fun a10 c10 => ?_)
  refine OD.store1 rfl (by kernel_rfl) FactDreado.flat22 rfl rfl (by first | rfl | assumption) (by repeat (first | exact Sel.here | apply Sel.there)) (by first | (simp; done) | (simp [Value.cells]; done)) ?_
  refine .nil ?_
  refine S.seq (S.region rfl ?_)
  refine O.op (.p rfl) (.as rfl) ?_
  refine O.nil ?_
  refine S.ret Go.Proofs.Tryz.results33 rfl fun w hw => Holds.end_ hR hw ?_
  exact ⟨_, ⟨a10, c10, rfl, rfl⟩, by repeat (first | exact Picks.all | exact Picks.nil | (apply Picks.cons; focus (repeat (first | exact Sel.here | apply Sel.there))) | apply Picks.skip)⟩
theorem read_o {r : Fr} {d q1 q2 : Nat} {m : DiskM} {name : List UInt8} (hat : At r ⟨d, 0, none⟩ (dC q1 q2 m.room)) (ok : DOk m) :
    Con Go.Proofs.Tryz.prog 13 #[.pointer (some ⟨d, 0, none⟩), .string (str name)] r (dW q1 q2 m)
      (Ret fun v η => ∃ a c, v = .tuple #[.slice a (dRead m name).length c, .int .i64 (dSyncE m name)] ∧ η = OwnP Rp.u8 5 (.slice a (dRead m name).length c) (dRead m name) :: dW q1 q2 m) := by
  refine Con.of (n := 12) [.pointer (some ⟨d, 0, none⟩), .string (str name)] rfl Go.Proofs.Tryz.func13 rfl rfl rfl fun g hg R hR => ?_
  replace hat : At g.h ⟨d, 0, none⟩ (dC q1 q2 m.room) := At.mono hg hat
  unfold dRead dSyncE at hR
  cases hh : dHas m name with
  | true =>
    simp only [hh, if_true] at hR
    refine S.seq (S.region rfl ?_)
    refine O.opE (.p rfl) (.box (cs := [_]) rfl rfl) ?_
    rintro _ _ ⟨b2, rfl, rfl⟩
    refine O.opE (.p rfl) (.box (cs := [_]) rfl rfl) ?_
    rintro _ _ ⟨b3, rfl, rfl⟩
    refine O.opE (.p rfl) (.alloc (cs := [.slice none 0 0]) Go.Proofs.Tryz.zeroValue22 rfl) ?_
    rintro _ _ ⟨b4, rfl, rfl⟩
    refine O.op (.p rfl) (.as rfl) ?_
    refine O.nil ?_
    refine S.seq ?_
    refine S.pk (ζ := [obj b3 9 [.string (str name)], obj b2 24 [.pointer (some ⟨d, 0, none⟩)], MapT q1 m.safe m.c1, MapT q2 m.loose m.c2, obj b4 22 [.slice none 0 0]]) (by repeat (first | exact Picks.all | exact Picks.nil | (apply Picks.cons; focus (repeat (first | exact Sel.here | apply Sel.there))) | apply Picks.skip)) ?_
    refine S.frzO (by repeat (first | exact Sel.here | apply Sel.there)) fun g hs hm h3 => ?_
    replace hg := Fr.sub_trans hg hs
    replace hR := melted hR hm
    try replace hat := hat.mono hs
    clear hs hm
    refine S.frzO (by repeat (first | exact Sel.here | apply Sel.there)) fun g hs hm h2 => ?_
    replace hg := Fr.sub_trans hg hs
    replace hR := melted hR hm
    try replace hat := hat.mono hs
    try replace h3 := h3.mono hs
    clear hs hm
    refine S.region rfl ?_
    refine O.op (.p rfl) (.loadAt FactDreado.flat24 rfl h2 rfl) ?_
    refine O.op (.p rfl) (.loadAt FactDreado.flat9 rfl h3 rfl) ?_
    refine O.op (.p rfl) (.mkFunc rfl rfl) ?_
    refine O.callAll (.p rfl) rfl FactDreado.ok32 rfl rfl (of_g (θ := [obj b4 22 [.slice none 0 0]]) (K := fun v η => ∃ a c, v = .int .i64 0 ∧ η = dW q1 q2 m ++ [obj b4 22 [.slice a (dBytes m name).length c], OwnP Rp.u8 5 (.slice a (dBytes m name).length c) (dBytes m name)]) hat FactDreado.ok33 fun _ => read1_o hat h2 h3 ok) ?_
    rintro v9 η' hk
    replace hk : ∃ a c, v9 = .int .i64 0 ∧ η' = dW q1 q2 m ++ [obj b4 22 [.slice a (dBytes m name).length c], OwnP Rp.u8 5 (.slice a (dBytes m name).length c) (dBytes m name)] := by simpa only [hh, if_true] using hk
    obtain ⟨a, c, rfl, rfl⟩ := hk
    simp only [dW, List.cons_append, List.nil_append]
    refine O.op (.p rfl) (.as rfl) ?_
    refine O.nil ?_
    refine S.seq (S.region rfl ?_)
    refine O.op (.p rfl) (.loadObj FactDreado.flat22 rfl (by repeat (first | exact Sel.here | apply Sel.there)) rfl) ?_
    refine O.op (.p rfl) (.mv rfl) ?_
    refine O.opU rfl (.store1 FactDreado.flat22 rfl rfl (by first | rfl | assumption) (by repeat (first | exact Sel.here | apply Sel.there)) (by first | (simp; done) | (simp [Value.cells]; done))) ?_
    refine O.op (.p rfl) (.as rfl) ?_
    refine O.nil ?_
    refine S.retM2 (.inr ⟨_, rfl⟩) .nil Go.Proofs.Tryz.results13 (.cell FactDreado.flat22 rfl (by repeat (first | exact Sel.here | apply Sel.there))) (.tmp rfl) fun w hw => ?_
    exact Holds.end_ hR hw ⟨_, ⟨a, c, rfl, rfl⟩, by repeat (first | exact Picks.all | exact Picks.nil | (apply Picks.cons; focus (repeat (first | exact Sel.here | apply Sel.there))) | apply Picks.skip)⟩
  | false =>
    simp only [hh, Bool.false_eq_true, if_false] at hR
    refine S.seq (S.region rfl ?_)
    refine O.opE (.p rfl) (.box (cs := [_]) rfl rfl) ?_
    rintro _ _ ⟨b2, rfl, rfl⟩
    refine O.opE (.p rfl) (.box (cs := [_]) rfl rfl) ?_
    rintro _ _ ⟨b3, rfl, rfl⟩
    refine O.opE (.p rfl) (.alloc (cs := [.slice none 0 0]) Go.Proofs.Tryz.zeroValue22 rfl) ?_
    rintro _ _ ⟨b4, rfl, rfl⟩
    refine O.op (.p rfl) (.as rfl) ?_
    refine O.nil ?_
    refine S.seq ?_
    refine S.pk (ζ := [obj b3 9 [.string (str name)], obj b2 24 [.pointer (some ⟨d, 0, none⟩)], MapT q1 m.safe m.c1, MapT q2 m.loose m.c2, obj b4 22 [.slice none 0 0]]) (by repeat (first | exact Picks.all | exact Picks.nil | (apply Picks.cons; focus (repeat (first | exact Sel.here | apply Sel.there))) | apply Picks.skip)) ?_
    refine S.frzO (by repeat (first | exact Sel.here | apply Sel.there)) fun g hs hm h3 => ?_
    replace hg := Fr.sub_trans hg hs
    replace hR := melted hR hm
    try replace hat := hat.mono hs
    clear hs hm
    refine S.frzO (by repeat (first | exact Sel.here | apply Sel.there)) fun g hs hm h2 => ?_
    replace hg := Fr.sub_trans hg hs
    replace hR := melted hR hm
    try replace hat := hat.mono hs
    try replace h3 := h3.mono hs
    clear hs hm
    refine S.region rfl ?_
    refine O.op (.p rfl) (.loadAt FactDreado.flat24 rfl h2 rfl) ?_
    refine O.op (.p rfl) (.loadAt FactDreado.flat9 rfl h3 rfl) ?_
    refine O.op (.p rfl) (.mkFunc rfl rfl) ?_
    refine O.callAll (.p rfl) rfl FactDreado.ok32 rfl rfl (of_g (θ := [obj b4 22 [.slice none 0 0]]) (K := fun v η => ∃ a c, v = .int .i64 0 ∧ η = dW q1 q2 m ++ [obj b4 22 [.slice a (dBytes m name).length c], OwnP Rp.u8 5 (.slice a (dBytes m name).length c) (dBytes m name)]) hat FactDreado.ok33 fun _ => read1_o hat h2 h3 ok) ?_
    rintro v9 η' hk
    replace hk : v9 = .int .i64 6 ∧ η' = dW q1 q2 m ++ [obj b4 22 [.slice none 0 0]] := by simpa only [hh, Bool.false_eq_true, if_false] using hk
    obtain ⟨rfl, rfl⟩ := hk
    simp only [dW, List.cons_append, List.nil_append]
    refine O.op (.p rfl) (.as rfl) ?_
    refine O.nil ?_
    refine S.seq (S.region rfl ?_)
    refine O.op (.p rfl) (.loadObj FactDreado.flat22 rfl (by repeat (first | exact Sel.here | apply Sel.there)) rfl) ?_
    refine O.op (.p rfl) (.mv rfl) ?_
    refine O.opU rfl (.store1 FactDreado.flat22 rfl rfl (by first | rfl | assumption) (by repeat (first | exact Sel.here | apply Sel.there)) (by first | (simp; done) | (simp [Value.cells]; done))) ?_
    refine O.op (.p rfl) (.as rfl) ?_
    refine O.nil ?_
    refine S.addNil (T := Rp.u8) (e := 5) ?_
    refine S.retM2 (.inr ⟨_, rfl⟩) .nil Go.Proofs.Tryz.results13 (.cell FactDreado.flat22 rfl (by repeat (first | exact Sel.here | apply Sel.there))) (.tmp rfl) fun w hw => ?_
    exact Holds.end_ hR hw ⟨_, ⟨none, 0, rfl, rfl⟩, by repeat (first | exact Picks.all | exact Picks.nil | (apply Picks.cons; focus (repeat (first | exact Sel.here | apply Sel.there))) | apply Picks.skip)⟩

end Go.Proofs.YtkkcpckgnfcncaaGreatDoor
