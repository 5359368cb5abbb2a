import Derived.Test.YtkkcpckgnfcncaaGreatDoorDawake
import Derived.Test.YtkkcpckgnfcncaaGreatDoorKit13
open Go Go.Sp
set_option maxRecDepth 100000
attribute [local irreducible] obj Own OwnP
namespace Go.Proofs.YtkkcpckgnfcncaaGreatDoor
theorem FactDnil.flat22 : Go.Sp.flat1 Go.Proofs.Tryz.prog 22 = true := by kernel_rfl
theorem FactDnil.flat24 : Go.Sp.flat1 Go.Proofs.Tryz.prog 24 = true := by kernel_rfl
theorem FactDnil.flat60 : Go.Sp.flat1 Go.Proofs.Tryz.prog 60 = true := by kernel_rfl
theorem FactDnil.flat9 : Go.Sp.flat1 Go.Proofs.Tryz.prog 9 = true := by kernel_rfl
theorem FactDnil.fld62x0 : fieldOff Go.Proofs.Tryz.prog 62 0 = some 0 := by kernel_rfl
theorem FactDnil.fld64x0 : fieldOff Go.Proofs.Tryz.prog 64 0 = some 0 := by kernel_rfl
theorem FactDnil.ok30 : callable Go.Proofs.Tryz.prog 30 = true := by kernel_rfl
theorem FactDnil.ok32 : callable Go.Proofs.Tryz.prog 32 = true := by kernel_rfl

/-- no disk, or one that nobody made -/
def NoD (r : Fr) (p : Option Addr) : Prop := p = none ∨ ∃ d, p = some ⟨d, 0, none⟩ ∧ At r ⟨d, 0, none⟩ [.map none, .map none, .int .i64 0]
theorem NoD.mono {h k : Fr} {p : Option Addr} (s : h.sub k) : NoD h p → NoD k p
  | .inl h => .inl h
  | .inr ⟨d, a, b⟩ => .inr ⟨d, a, b.mono s⟩
theorem madeZ_c {r : Fr} {d : Nat} (hat : At r ⟨d, 0, none⟩ [.map none, .map none, .int .i64 0]) : Con Go.Proofs.Tryz.prog 30 #[.pointer (some ⟨d, 0, none⟩)] r [] (Ret fun v η => v = .bool false ∧ η = []) := by
  refine Con.of (n := 13) [.pointer (some ⟨d, 0, none⟩)] rfl Go.Proofs.Tryz.func30 rfl rfl rfl fun g hg R hR => ?_
  replace hat : At g.h ⟨d, 0, none⟩ [.map none, .map none, .int .i64 0] := At.mono hg hat
  refine S.seq (S.region rfl ?_)
  refine O.op (.p rfl) (.as rfl) ?_
  refine O.nil ?_
  refine S.seq (S.region rfl ?_)
  refine O.op (.p rfl) (.mv rfl) ?_
  refine O.op (.p rfl) (.neqP Go.Proofs.Tryz.underlying24 rfl rfl) ?_
  refine O.slot 4 (v' := .bool true) rfl (congrArg Value.bool (by rfl)) ?_
  refine O.op (.p rfl) (.mv rfl) ?_
  refine O.op (.g rfl rfl) (.mv rfl) ?_
  refine O.op (.g rfl rfl) (.nilCheck rfl) ?_
  refine O.op (.g rfl rfl) (.fieldAddr FactDnil.fld64x0 rfl) ?_
  refine O.op (.g rfl rfl) (.fieldAddr FactDnil.fld62x0 rfl) ?_
  refine O.op (.g rfl rfl) (.loadAt FactDnil.flat60 rfl hat rfl) ?_
  refine O.op (.g rfl rfl) (.neqM Go.Proofs.Tryz.underlying60 rfl rfl) ?_
  refine O.slot 11 (v' := .bool false) rfl (congrArg Value.bool (by rfl)) ?_
  refine O.op (.p rfl) (.pickT rfl rfl) ?_
  refine O.op (.p rfl) (.as rfl) ?_
  refine O.nil ?_
  refine S.ret Go.Proofs.Tryz.results30 rfl fun w hw => Holds.end_ hR hw ?_
  exact ⟨_, ⟨rfl, rfl⟩, by repeat (first | exact Picks.all | exact Picks.nil | (apply Picks.cons; focus (repeat (first | exact Sel.here | apply Sel.there))) | apply Picks.skip)⟩
theorem made_n {r : Fr} {p : Option Addr} (h : NoD r p) : Con Go.Proofs.Tryz.prog 30 #[.pointer p] r [] (Ret fun v η => v = .bool false ∧ η = []) := by
  rcases h with rfl | ⟨d, rfl, hat⟩
  · exact made0_c
  · exact madeZ_c hat
theorem of_n {r : Fr} {p : Option Addr} {f : Value} {name : ByteArray} (h : NoD r p) : Con Go.Proofs.Tryz.prog 32 #[.pointer p, .string name, f] r [] (Ret fun v η => v = .int .i64 1 ∧ η = []) := by
  refine Con.of (n := 26) [.pointer p, .string name, f] rfl Go.Proofs.Tryz.func32 rfl rfl rfl fun g hg R hR => ?_
  replace h := h.mono hg
  refine S.seq (S.region rfl ?_)
  refine O.op (.p rfl) (.as rfl) ?_
  refine O.nil ?_
  refine S.seq (S.seq (S.region rfl ?_))
  refine O.op (.p rfl) (.mv rfl) ?_
  refine O.call0 (.p rfl) rfl FactDnil.ok30 rfl rfl ((made_n h)) ?_
  rintro v10 _ ⟨rfl, rfl⟩
  try simp only [List.cons_append, List.nil_append, List.append_nil]
  refine O.op (.p rfl) (.not rfl) ?_
  refine O.nil ?_
  refine S.condT rfl ?_
  refine S.seq (S.region rfl ?_)
  refine O.op (.p rfl) (.as rfl) ?_
  refine O.nil ?_
  refine S.ret Go.Proofs.Tryz.results32 rfl fun w hw => Holds.end_ hR hw ?_
  exact ⟨_, ⟨rfl, rfl⟩, by repeat (first | exact Picks.all | exact Picks.nil | (apply Picks.cons; focus (repeat (first | exact Sel.here | apply Sel.there))) | apply Picks.skip)⟩
theorem sync_n {r : Fr} {p : Option Addr} {name : ByteArray} (h : NoD r p) : Con Go.Proofs.Tryz.prog 26 #[.pointer p, .string name] r [] (Ret fun v η => v = .int .i64 1 ∧ η = []) := by
  refine Con.of (n := 9) [.pointer p, .string name] rfl Go.Proofs.Tryz.func26 rfl rfl rfl fun g hg R hR => ?_
  replace h := h.mono hg
  refine S.seq (S.region rfl ?_)
  refine O.opE (.p rfl) (.box (cs := [_]) rfl rfl) ?_
  rintro _ _ ⟨b2, rfl, rfl⟩
  refine O.opE (.p rfl) (.box (cs := [_]) rfl rfl) ?_
  rintro _ _ ⟨b3, rfl, rfl⟩
  refine O.op (.p rfl) (.as rfl) ?_
  refine O.nil ?_
  refine S.seq ?_
  refine S.frzO (by repeat (first | exact Sel.here | apply Sel.there)) fun g hs hm h3 => ?_
  replace hg := Fr.sub_trans hg hs
  replace hR := melted hR hm
  try replace h := h.mono hs
  clear hs hm
  refine S.frzO (by repeat (first | exact Sel.here | apply Sel.there)) fun g hs hm h2 => ?_
  replace hg := Fr.sub_trans hg hs
  replace hR := melted hR hm
  try replace h := h.mono hs
  try replace h3 := h3.mono hs
  clear hs hm
  refine S.region rfl ?_
  refine O.op (.p rfl) (.loadAt FactDnil.flat24 rfl h2 rfl) ?_
  refine O.op (.p rfl) (.loadAt FactDnil.flat9 rfl h3 rfl) ?_
  refine O.op (.p rfl) (.mkFunc rfl rfl) ?_
  refine O.call0 (.p rfl) rfl FactDnil.ok32 rfl rfl ((of_n h)) ?_
  rintro v8 _ ⟨rfl, rfl⟩
  try simp only [List.cons_append, List.nil_append, List.append_nil]
  refine O.op (.p rfl) (.as rfl) ?_
  refine O.nil ?_
  refine S.ret Go.Proofs.Tryz.results26 rfl fun w hw => Holds.end_ hR hw ?_
  exact ⟨_, ⟨rfl, rfl⟩, by repeat (first | exact Picks.all | exact Picks.nil | (apply Picks.cons; focus (repeat (first | exact Sel.here | apply Sel.there))) | apply Picks.skip)⟩
theorem cut_n {r : Fr} {p : Option Addr} {name : ByteArray} {z : Int} (h : NoD r p) : Con Go.Proofs.Tryz.prog 41 #[.pointer p, .string name, .int .i64 z] r [] (Ret fun v η => v = .int .i64 1 ∧ η = []) := by
  refine Con.of (n := 11) [.pointer p, .string name, .int .i64 z] rfl Go.Proofs.Tryz.func41 rfl rfl rfl fun g hg R hR => ?_
  replace h := h.mono hg
  refine S.seq (S.region rfl ?_)
  refine O.opE (.p rfl) (.box (cs := [_]) rfl rfl) ?_
  rintro _ _ ⟨b3, rfl, rfl⟩
  refine O.opE (.p rfl) (.box (cs := [_]) rfl rfl) ?_
  rintro _ _ ⟨b4, rfl, rfl⟩
  refine O.opE (.p rfl) (.box (cs := [_]) rfl rfl) ?_
  rintro _ _ ⟨b5, rfl, rfl⟩
  refine O.op (.p rfl) (.as rfl) ?_
  refine O.nil ?_
  refine S.seq ?_
  refine S.frzO (by repeat (first | exact Sel.here | apply Sel.there)) fun g hs hm h5 => ?_
  replace hg := Fr.sub_trans hg hs
  replace hR := melted hR hm
  try replace h := h.mono hs
  clear hs hm
  refine S.frzO (by repeat (first | exact Sel.here | apply Sel.there)) fun g hs hm h4 => ?_
  replace hg := Fr.sub_trans hg hs
  replace hR := melted hR hm
  try replace h := h.mono hs
  try replace h5 := h5.mono hs
  clear hs hm
  refine S.frzO (by repeat (first | exact Sel.here | apply Sel.there)) fun g hs hm h3 => ?_
  replace hg := Fr.sub_trans hg hs
  replace hR := melted hR hm
  try replace h := h.mono hs
  try replace h5 := h5.mono hs
  try replace h4 := h4.mono hs
  clear hs hm
  refine S.region rfl ?_
  refine O.op (.p rfl) (.loadAt FactDnil.flat24 rfl h3 rfl) ?_
  refine O.op (.p rfl) (.loadAt FactDnil.flat9 rfl h4 rfl) ?_
  refine O.op (.p rfl) (.mkFunc rfl rfl) ?_
  refine O.call0 (.p rfl) rfl FactDnil.ok32 rfl rfl ((of_n h)) ?_
  rintro v10 _ ⟨rfl, rfl⟩
  try simp only [List.cons_append, List.nil_append, List.append_nil]
  refine O.op (.p rfl) (.as rfl) ?_
  refine O.nil ?_
  refine S.ret Go.Proofs.Tryz.results41 rfl fun w hw => Holds.end_ hR hw ?_
  exact ⟨_, ⟨rfl, rfl⟩, by repeat (first | exact Picks.all | exact Picks.nil | (apply Picks.cons; focus (repeat (first | exact Sel.here | apply Sel.there))) | apply Picks.skip)⟩
theorem remove_n {r : Fr} {p : Option Addr} {name : ByteArray} (h : NoD r p) : Con Go.Proofs.Tryz.prog 43 #[.pointer p, .string name] r [] (Ret fun v η => v = .int .i64 1 ∧ η = []) := by
  refine Con.of (n := 9) [.pointer p, .string name] rfl Go.Proofs.Tryz.func43 rfl rfl rfl fun g hg R hR => ?_
  replace h := h.mono hg
  refine S.seq (S.region rfl ?_)
  refine O.opE (.p rfl) (.box (cs := [_]) rfl rfl) ?_
  rintro _ _ ⟨b2, rfl, rfl⟩
  refine O.opE (.p rfl) (.box (cs := [_]) rfl rfl) ?_
  rintro _ _ ⟨b3, rfl, rfl⟩
  refine O.op (.p rfl) (.as rfl) ?_
  refine O.nil ?_
  refine S.seq ?_
  refine S.frzO (by repeat (first | exact Sel.here | apply Sel.there)) fun g hs hm h3 => ?_
  replace hg := Fr.sub_trans hg hs
  replace hR := melted hR hm
  try replace h := h.mono hs
  clear hs hm
  refine S.frzO (by repeat (first | exact Sel.here | apply Sel.there)) fun g hs hm h2 => ?_
  replace hg := Fr.sub_trans hg hs
  replace hR := melted hR hm
  try replace h := h.mono hs
  try replace h3 := h3.mono hs
  clear hs hm
  refine S.region rfl ?_
  refine O.op (.p rfl) (.loadAt FactDnil.flat24 rfl h2 rfl) ?_
  refine O.op (.p rfl) (.loadAt FactDnil.flat9 rfl h3 rfl) ?_
  refine O.op (.p rfl) (.mkFunc rfl rfl) ?_
  refine O.call0 (.p rfl) rfl FactDnil.ok32 rfl rfl ((of_n h)) ?_
  rintro v8 _ ⟨rfl, rfl⟩
  try simp only [List.cons_append, List.nil_append, List.append_nil]
  refine O.op (.p rfl) (.as rfl) ?_
  refine O.nil ?_
  refine S.ret Go.Proofs.Tryz.results43 rfl fun w hw => Holds.end_ hR hw ?_
  exact ⟨_, ⟨rfl, rfl⟩, by repeat (first | exact Picks.all | exact Picks.nil | (apply Picks.cons; focus (repeat (first | exact Sel.here | apply Sel.there))) | apply Picks.skip)⟩
theorem rename_n {r : Fr} {p : Option Addr} {name to : ByteArray} (h : NoD r p) : Con Go.Proofs.Tryz.prog 42 #[.pointer p, .string name, .string to] r [] (Ret fun v η => v = .int .i64 1 ∧ η = []) := by
  refine Con.of (n := 20) [.pointer p, .string name, .string to] rfl Go.Proofs.Tryz.func42 rfl rfl rfl fun g hg R hR => ?_
  replace h := h.mono hg
  refine S.seq (S.region rfl ?_)
  refine O.opE (.p rfl) (.box (cs := [_]) rfl rfl) ?_
  rintro _ _ ⟨b3, rfl, rfl⟩
  refine O.opE (.p rfl) (.box (cs := [_]) rfl rfl) ?_
  rintro _ _ ⟨b4, rfl, rfl⟩
  refine O.opE (.p rfl) (.box (cs := [_]) rfl rfl) ?_
  rintro _ _ ⟨b5, rfl, rfl⟩
  refine O.op (.p rfl) (.as rfl) ?_
  refine O.nil ?_
  refine S.seq (S.seq ?_)
  refine S.frzO (by repeat (first | exact Sel.here | apply Sel.there)) fun g hs hm h5 => ?_
  replace hg := Fr.sub_trans hg hs
  replace hR := melted hR hm
  try replace h := h.mono hs
  clear hs hm
  refine S.frzO (by repeat (first | exact Sel.here | apply Sel.there)) fun g hs hm h4 => ?_
  replace hg := Fr.sub_trans hg hs
  replace hR := melted hR hm
  try replace h := h.mono hs
  try replace h5 := h5.mono hs
  clear hs hm
  refine S.frzO (by repeat (first | exact Sel.here | apply Sel.there)) fun g hs hm h3 => ?_
  replace hg := Fr.sub_trans hg hs
  replace hR := melted hR hm
  try replace h := h.mono hs
  try replace h5 := h5.mono hs
  try replace h4 := h4.mono hs
  clear hs hm
  refine S.region rfl ?_
  refine O.op (.p rfl) (.loadAt FactDnil.flat24 rfl h3 rfl) ?_
  refine O.call0 (.p rfl) rfl FactDnil.ok30 rfl rfl ((made_n h)) ?_
  rintro v8 _ ⟨rfl, rfl⟩
  try simp only [List.cons_append, List.nil_append, List.append_nil]
  refine O.op (.p rfl) (.mv rfl) ?_
  refine O.opN rfl rfl rfl ?_
  refine O.opN rfl rfl rfl ?_
  refine O.opN rfl rfl rfl ?_
  refine O.opN rfl rfl rfl ?_
  refine O.opN rfl rfl rfl ?_
  refine O.op (.p rfl) (.pickF rfl rfl) ?_
  refine O.nil ?_
  refine S.condF rfl ?_
  refine S.skip (S.seq (S.region rfl ?_))
  refine O.op (.p rfl) (.loadAt FactDnil.flat24 rfl h3 rfl) ?_
  refine O.op (.p rfl) (.loadAt FactDnil.flat9 rfl h4 rfl) ?_
  refine O.op (.p rfl) (.mkFunc rfl rfl) ?_
  refine O.call0 (.p rfl) rfl FactDnil.ok32 rfl rfl ((of_n h)) ?_
  rintro v19 _ ⟨rfl, rfl⟩
  try simp only [List.cons_append, List.nil_append, List.append_nil]
  refine O.op (.p rfl) (.as rfl) ?_
  refine O.nil ?_
  refine S.ret Go.Proofs.Tryz.results42 rfl fun w hw => Holds.end_ hR hw ?_
  exact ⟨_, ⟨rfl, rfl⟩, by repeat (first | exact Picks.all | exact Picks.nil | (apply Picks.cons; focus (repeat (first | exact Sel.here | apply Sel.there))) | apply Picks.skip)⟩
theorem read_n {r : Fr} {p : Option Addr} {name : ByteArray} (h : NoD r p) : Con Go.Proofs.Tryz.prog 13 #[.pointer p, .string name] r [] (Ret fun v η => v = .tuple #[.slice none 0 0, .int .i64 1] ∧ η = []) := by
  refine Con.of (n := 12) [.pointer p, .string name] rfl Go.Proofs.Tryz.func13 rfl rfl rfl fun g hg R hR => ?_
  replace h := h.mono hg
  refine S.seq (S.region rfl ?_)
  refine O.opE (.p rfl) (.box (cs := [_]) rfl rfl) ?_
  rintro _ _ ⟨b2, rfl, rfl⟩
  refine O.opE (.p rfl) (.box (cs := [_]) rfl rfl) ?_
  rintro _ _ ⟨b3, rfl, rfl⟩
  refine O.opE (.p rfl) (.alloc (cs := [.slice none 0 0]) Go.Proofs.Tryz.zeroValue22 rfl) ?_
  rintro _ _ ⟨b4, rfl, rfl⟩
  refine O.op (.p rfl) (.as rfl) ?_
  refine O.nil ?_
  refine S.seq ?_
  refine S.pk (ζ := [obj b3 9 [.string name], obj b2 24 [.pointer p], obj b4 22 [.slice none 0 0]]) (by repeat (first | exact Picks.all | exact Picks.nil | (apply Picks.cons; focus (repeat (first | exact Sel.here | apply Sel.there))) | apply Picks.skip)) ?_
  refine S.frzO (by repeat (first | exact Sel.here | apply Sel.there)) fun g hs hm h3 => ?_
  replace hg := Fr.sub_trans hg hs
  replace hR := melted hR hm
  try replace h := h.mono hs
  clear hs hm
  refine S.frzO (by repeat (first | exact Sel.here | apply Sel.there)) fun g hs hm h2 => ?_
  replace hg := Fr.sub_trans hg hs
  replace hR := melted hR hm
  try replace h := h.mono hs
  try replace h3 := h3.mono hs
  clear hs hm
  refine S.region rfl ?_
  refine O.op (.p rfl) (.loadAt FactDnil.flat24 rfl h2 rfl) ?_
  refine O.op (.p rfl) (.loadAt FactDnil.flat9 rfl h3 rfl) ?_
  refine O.op (.p rfl) (.mkFunc rfl rfl) ?_
  refine O.call0 (.p rfl) rfl FactDnil.ok32 rfl rfl ((of_n h)) ?_
  rintro v9 _ ⟨rfl, rfl⟩
  try simp only [List.cons_append, List.nil_append, List.append_nil]
  refine O.op (.p rfl) (.as rfl) ?_
  refine O.nil ?_
  refine S.seq (S.region rfl ?_)
  refine O.op (.p rfl) (.loadObj FactDnil.flat22 rfl (by repeat (first | exact Sel.here | apply Sel.there)) rfl) ?_
  refine O.op (.p rfl) (.mv rfl) ?_
  refine O.opU rfl (.store1 FactDnil.flat22 rfl rfl (by first | rfl | assumption) (by repeat (first | exact Sel.here | apply Sel.there)) (by first | (simp; done) | (simp [Value.cells]; done))) ?_
  refine O.op (.p rfl) (.as rfl) ?_
  refine O.nil ?_
  refine S.retM2 (.inr ⟨_, rfl⟩) .nil Go.Proofs.Tryz.results13 (.cell FactDnil.flat22 rfl (by repeat (first | exact Sel.here | apply Sel.there))) (.tmp rfl) fun w hw => ?_
  exact Holds.end_ hR hw ⟨_, ⟨rfl, rfl⟩, by repeat (first | exact Picks.all | exact Picks.nil | (apply Picks.cons; focus (repeat (first | exact Sel.here | apply Sel.there))) | apply Picks.skip)⟩
theorem append_n {r : Fr} {p : Option Addr} {name : ByteArray} {b : Value} (h : NoD r p) : Con Go.Proofs.Tryz.prog 9 #[.pointer p, .string name, b] r [] (Ret fun v η => v = .int .i64 1 ∧ η = []) := by
  refine Con.of (n := 48) [.pointer p, .string name, b] rfl Go.Proofs.Tryz.func9 rfl rfl rfl fun g hg R hR => ?_
  replace h := h.mono hg
  refine S.seq (S.region rfl ?_)
  refine O.op (.p rfl) (.as rfl) ?_
  refine O.nil ?_
  refine S.seq (S.block (S.seq (S.region rfl ?_)))
  refine O.op (.p rfl) (.mv rfl) ?_
  refine O.call0 (.p rfl) rfl FactDnil.ok30 rfl rfl ((made_n h)) ?_
  rintro v9 _ ⟨rfl, rfl⟩
  try simp only [List.cons_append, List.nil_append, List.append_nil]
  refine O.op (.p rfl) (.not rfl) ?_
  refine O.op (.p rfl) (.as rfl) ?_
  refine O.nil ?_
  refine S.condT rfl ?_
  refine S.seq (S.region rfl ?_)
  refine O.op (.p rfl) (.as rfl) ?_
  refine O.nil ?_
  refine S.ret Go.Proofs.Tryz.results9 rfl fun w hw => Holds.end_ hR hw ?_
  exact ⟨_, ⟨rfl, rfl⟩, by repeat (first | exact Picks.all | exact Picks.nil | (apply Picks.cons; focus (repeat (first | exact Sel.here | apply Sel.there))) | apply Picks.skip)⟩
theorem crash_n {r : Fr} {p : Option Addr} {keep : Int} (h : NoD r p) : Con Go.Proofs.Tryz.prog 28 #[.pointer p, .int .i64 keep] r [] (Ret fun v η => v = .tuple #[] ∧ η = []) := by
  refine Con.of (n := 41) [.pointer p, .int .i64 keep] rfl Go.Proofs.Tryz.func28 rfl rfl rfl fun g hg R hR => ?_
  replace h := h.mono hg
  refine S.seq (S.seq (S.region rfl ?_))
  refine O.op (.p rfl) (.mv rfl) ?_
  refine O.call0 (.p rfl) rfl FactDnil.ok30 rfl rfl ((made_n h)) ?_
  rintro v7 _ ⟨rfl, rfl⟩
  try simp only [List.cons_append, List.nil_append, List.append_nil]
  refine O.op (.p rfl) (.not rfl) ?_
  refine O.nil ?_
  refine S.condT rfl ?_
  refine S.ret0 Go.Proofs.Tryz.results28 fun w hw => Holds.end_ hR hw ?_
  exact ⟨_, ⟨rfl, rfl⟩, by repeat (first | exact Picks.all | exact Picks.nil | (apply Picks.cons; focus (repeat (first | exact Sel.here | apply Sel.there))) | apply Picks.skip)⟩
theorem used_n {r : Fr} {p : Option Addr} (h : NoD r p) : Con Go.Proofs.Tryz.prog 27 #[.pointer p] r [] (Ret fun v η => v = .int .i64 0 ∧ η = []) := by
  refine Con.of (n := 19) [.pointer p] rfl Go.Proofs.Tryz.func27 rfl rfl rfl fun g hg R hR => ?_
  replace h := h.mono hg
  refine S.seq (S.region rfl ?_)
  refine O.op (.p rfl) (.as rfl) ?_
  refine O.nil ?_
  refine S.seq (S.seq (S.region rfl ?_))
  refine O.op (.p rfl) (.mv rfl) ?_
  refine O.call0 (.p rfl) rfl FactDnil.ok30 rfl rfl ((made_n h)) ?_
  rintro v4 _ ⟨rfl, rfl⟩
  try simp only [List.cons_append, List.nil_append, List.append_nil]
  refine O.op (.p rfl) (.not rfl) ?_
  refine O.nil ?_
  refine S.condT rfl ?_
  refine S.seq (S.region rfl ?_)
  refine O.op (.p rfl) (.as rfl) ?_
  refine O.nil ?_
  refine S.ret Go.Proofs.Tryz.results27 rfl fun w hw => Holds.end_ hR hw ?_
  exact ⟨_, ⟨rfl, rfl⟩, by repeat (first | exact Picks.all | exact Picks.nil | (apply Picks.cons; focus (repeat (first | exact Sel.here | apply Sel.there))) | apply Picks.skip)⟩
theorem list_n {r : Fr} {p : Option Addr} (h : NoD r p) : Con Go.Proofs.Tryz.prog 17 #[.pointer p] r [] (Ret fun v η => v = .slice none 0 0 ∧ η = []) := by
  refine Con.of (n := 13) [.pointer p] rfl Go.Proofs.Tryz.func17 rfl rfl rfl fun g hg R hR => ?_
  replace h := h.mono hg
  refine S.seq (S.region rfl ?_)
  refine O.op (.p rfl) (.as rfl) ?_
  refine O.nil ?_
  refine S.seq (S.seq (S.region rfl ?_))
  refine O.op (.p rfl) (.mv rfl) ?_
  refine O.call0 (.p rfl) rfl FactDnil.ok30 rfl rfl ((made_n h)) ?_
  rintro v4 _ ⟨rfl, rfl⟩
  try simp only [List.cons_append, List.nil_append, List.append_nil]
  refine O.op (.p rfl) (.not rfl) ?_
  refine O.nil ?_
  refine S.condT rfl ?_
  refine S.seq (S.region rfl ?_)
  refine O.op (.p rfl) (.as rfl) ?_
  refine O.nil ?_
  refine S.ret Go.Proofs.Tryz.results17 rfl fun w hw => Holds.end_ hR hw ?_
  exact ⟨_, ⟨rfl, rfl⟩, by repeat (first | exact Picks.all | exact Picks.nil | (apply Picks.cons; focus (repeat (first | exact Sel.here | apply Sel.there))) | apply Picks.skip)⟩
theorem copy_n {r : Fr} {p : Option Addr} (h : NoD r p) : Con Go.Proofs.Tryz.prog 24 #[.pointer p] r [] (Ret fun v η => v = .pointer none ∧ η = []) := by
  refine Con.of (n := 25) [.pointer p] rfl Go.Proofs.Tryz.func24 rfl rfl rfl fun g hg R hR => ?_
  replace h := h.mono hg
  refine S.seq (S.region rfl ?_)
  refine O.op (.p rfl) (.as rfl) ?_
  refine O.nil ?_
  refine S.seq (S.seq (S.region rfl ?_))
  refine O.op (.p rfl) (.mv rfl) ?_
  refine O.call0 (.p rfl) rfl FactDnil.ok30 rfl rfl ((made_n h)) ?_
  rintro v4 _ ⟨rfl, rfl⟩
  try simp only [List.cons_append, List.nil_append, List.append_nil]
  refine O.op (.p rfl) (.not rfl) ?_
  refine O.nil ?_
  refine S.condT rfl ?_
  refine S.seq (S.region rfl ?_)
  refine O.op (.p rfl) (.as rfl) ?_
  refine O.nil ?_
  refine S.ret Go.Proofs.Tryz.results24 rfl fun w hw => Holds.end_ hR hw ?_
  exact ⟨_, ⟨rfl, rfl⟩, by repeat (first | exact Picks.all | exact Picks.nil | (apply Picks.cons; focus (repeat (first | exact Sel.here | apply Sel.there))) | apply Picks.skip)⟩

end Go.Proofs.YtkkcpckgnfcncaaGreatDoor
