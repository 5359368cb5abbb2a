import Derived.Test.YtkkcpckgnfcncaaGreatDoorList1
import Derived.Test.YtkkcpckgnfcncaaGreatDoorKit13
open Go Go.Sp
set_option maxRecDepth 100000
attribute [local irreducible] obj Own OwnP
namespace Go.Proofs.YtkkcpckgnfcncaaGreatDoor
theorem FactDawake.elem27 : elemIs Go.Proofs.Tryz.prog 27 1 8 [.int .i64 0] := elemIs.mk (by kernel_rfl) rfl
theorem FactDawake.elem3 : elemIs Go.Proofs.Tryz.prog 3 1 8 [.int .i64 0] := elemIs.mk (by kernel_rfl) rfl
theorem FactDawake.elem5 : elemIs Go.Proofs.Tryz.prog 5 1 1 [.int .u8 0] := elemIs.mk (by kernel_rfl) rfl
theorem FactDawake.elem9 : elemIs Go.Proofs.Tryz.prog 9 1 16 [.string ⟨#[]⟩] := elemIs.mk (by kernel_rfl) rfl
theorem FactDawake.flat27 : Go.Sp.flat1 Go.Proofs.Tryz.prog 27 = true := by kernel_rfl
theorem FactDawake.flat3 : Go.Sp.flat1 Go.Proofs.Tryz.prog 3 = true := by kernel_rfl
theorem FactDawake.mixed : Go.Proofs.Tryz.prog.follows .mixedOrders = true := by kernel_rfl
theorem FactDawake.ok13 : callable Go.Proofs.Tryz.prog 13 = true := by kernel_rfl
theorem FactDawake.ok14 : callable Go.Proofs.Tryz.prog 14 = true := by kernel_rfl
theorem FactDawake.ok17 : callable Go.Proofs.Tryz.prog 17 = true := by kernel_rfl
theorem FactDawake.ok18 : callable Go.Proofs.Tryz.prog 18 = true := by kernel_rfl
theorem FactDawake.ok26 : callable Go.Proofs.Tryz.prog 26 = true := by kernel_rfl
theorem FactDawake.ok27 : callable Go.Proofs.Tryz.prog 27 = true := by kernel_rfl
theorem FactDawake.ok28 : callable Go.Proofs.Tryz.prog 28 = true := by kernel_rfl
theorem FactDawake.ok7 : callable Go.Proofs.Tryz.prog 7 = true := by kernel_rfl
theorem FactDawake.ok9 : callable Go.Proofs.Tryz.prog 9 = true := by kernel_rfl
theorem FactDawake.size27 : (Go.Proofs.Tryz.prog.info? 27).map (·.size) = some 1 := by kernel_rfl
theorem FactDawake.size3 : (Go.Proofs.Tryz.prog.info? 3).map (·.size) = some 1 := by kernel_rfl

theorem okR (room : Int) (h0 : 0 ≤ room) : DOk ⟨[], 0, [], 0, room⟩ :=
  ⟨⟨by simp, by simp, by simp⟩, ⟨by simp, by simp, by simp⟩, fun k hk => hk, by simpa [DiskM.used, sumT] using h0, by simp [DiskM.used, sumT]⟩
theorem ok0 (room : Int) (h0 : 0 ≤ room) (_ : room ≤ 1000000000000) : DOk ⟨[], 0, [], 0, room⟩ := okR room h0
theorem newR_c {r : Fr} {room : Int} (h : 0 ≤ room) : Con Go.Proofs.Tryz.prog 7 #[.int .i64 room] r [] (Ret fun v η => ∃ d q1 q2, v = .pointer (some ⟨d, 0, none⟩) ∧ η = [obj d 64 (dC q1 q2 room), MapT q1 [] 0, MapT q2 [] 0]) :=
  Con.mono (new_c room) (Ret.imp fun _ _ h' => by rwa [if_neg (by omega)] at h')
theorem dAppM_room (m : DiskM) (name b : List UInt8) : (dAppM m name b).room = m.room := by unfold dAppM; split <;> rfl
theorem dAppE_fit {m : DiskM} {name b : List UInt8} (h : dAppE m name b = 0) : (m.used : Int) + b.length ≤ m.room := by
  unfold dAppE at h; split at h
  · split at h
    · cases h
    · omega
  · cases h
theorem dAppM_ok {m : DiskM} {name b : List UInt8} (ok : DOk m) (hr : m.room ≤ 1000000000000) : DOk (dAppM m name b) := by
  unfold dAppM; split
  · rename_i h; exact dApp_ok ok (dAppE_fit h) (by have := dAppE_fit h; omega)
  · exact ok
theorem dSyncM_ok {m : DiskM} {name : List UInt8} (ok : DOk m) : DOk (dSyncM m name) := by unfold dSyncM; split; exact dFirm_ok ok; exact ok
theorem dSyncM_room (m : DiskM) (name : List UInt8) : (dSyncM m name).room = m.room := by unfold dSyncM; split <;> rfl
theorem dCutM_ok {m : DiskM} {name : List UInt8} {n : Int} (ok : DOk m) : DOk (dCutM m name n) := by unfold dCutM; split; exact dFirm_ok ok; exact ok
theorem dCutM_room (m : DiskM) (name : List UInt8) (n : Int) : (dCutM m name n).room = m.room := by unfold dCutM; split <;> rfl
theorem crash_ok {m : DiskM} {s' l' : SS} {c1' c2' : Nat} {keep : Int} (ok : DOk m) (h : CrashR m.safe m.loose s' l' c1' c2' keep) : DOk ⟨s', c1', l', c2', m.room⟩ :=
  ⟨h.w1, h.w2, fun k hk => (by simp only at hk; rw [h.loose k] at hk; cases hk), by have := h.fits; have := ok.fits; simp only [DiskM.used] at *; omega, by have := h.fits; have := ok.small; simp only [DiskM.used] at *; omega⟩
theorem keys_perm {m m' : SS} {c c' : Nat} (h : WfT m c) (h' : WfT m' c') (he : ∀ k, (getT m k).isSome = (getT m' k).isSome) : (m.map (·.1)).Perm (m'.map (·.1)) := by
  refine (List.perm_ext_iff_of_nodup h.2.2 h'.2.2).2 fun k => ?_
  have h1 : (getT m k).isSome = true ↔ k ∈ m.map (·.1) := by
    have := getT_none (m := m) (k := k)
    cases hg : getT m k <;> simp_all
  have h2 : (getT m' k).isSome = true ↔ k ∈ m'.map (·.1) := by
    have := getT_none (m := m') (k := k)
    cases hg : getT m' k <;> simp_all
  rw [← h1, ← h2, he]
theorem names_eq {m m' : SS} {c c' : Nat} (h : WfT m c) (h' : WfT m' c') (he : ∀ k, (getT m k).isSome = (getT m' k).isSome) : namesT m = namesT m' := sortT_unique (keys_perm h h' he)
theorem crash_names {m : DiskM} {s' l' : SS} {c1' c2' : Nat} {keep : Int} (ok : DOk m) (h : CrashR m.safe m.loose s' l' c1' c2' keep) : namesT s' = namesT m.safe :=
  names_eq h.w1 ok.w1 fun k => by rw [h.safe k]; cases getT m.safe k <;> rfl
theorem crash_len {m : DiskM} {s' l' : SS} {c1' c2' : Nat} {keep : Int} (ok : DOk m) (h : CrashR m.safe m.loose s' l' c1' c2' keep) : s'.length = m.safe.length := by
  have := (keys_perm h.w1 ok.w1 fun k => by rw [h.safe k]; cases getT m.safe k <;> rfl).length_eq
  simpa using this
theorem sortT_sorted {l : List (List UInt8)} (h : List.Pairwise (fun x y => x ≤ y) l) : sortT l = l :=
  List.Perm.eq_of_pairwise (fun a b _ _ p q => List.le_antisymm p q) (sortT_rises l) h (sortT_perm l)
def aw6 : DiskM := dAppM (dAppM (dAppM (dAppM (dSyncM (dAppM ⟨[], 0, [], 0, 8⟩ [97] [1, 2, 3]) [97]) [97] [4, 5, 6, 7]) [65] []) [98] [8, 9]) [98] []
theorem aw6_eq : aw6 = ⟨[([97], [1, 2, 3], 0), ([98], [], 1)], 2, [([97], [4, 5, 6, 7], 1)], 2, 8⟩ := by rfl
theorem aw_room : aw6.room = 8 := by rw [aw6_eq]
theorem aw6_ok : DOk aw6 := dAppM_ok (dAppM_ok (dAppM_ok (dAppM_ok (dSyncM_ok (dAppM_ok (ok0 8 (by decide) (by decide)) (show (8 : Int) ≤ 1000000000000 by decide))) (show (8 : Int) ≤ 1000000000000 by decide)) (show (8 : Int) ≤ 1000000000000 by decide)) (show (8 : Int) ≤ 1000000000000 by decide)) (show (8 : Int) ≤ 1000000000000 by decide)
theorem aw_crash {s' l' : SS} {c1' c2' : Nat} (h : CrashR aw6.safe aw6.loose s' l' c1' c2' 1) : dRead ⟨s', c1', l', c2', 8⟩ [97] = [1, 2, 3, 4] ∧ dSyncE ⟨s', c1', l', c2', 8⟩ [97] = 0 ∧ namesT s' = [[97], [98]] ∧ s'.length = 2 := by
  have h1 : getT s' [97] = some [1, 2, 3, 4] := by rw [h.safe, aw6_eq]; rfl
  refine ⟨?_, ?_, ?_, ?_⟩
  · unfold dRead dHas dBytes bytesT; simp only; rw [h1, h.loose]; rfl
  · unfold dSyncE dHas; simp only; rw [h1]; rfl
  · rw [crash_names aw6_ok h, aw6_eq]; exact sortT_sorted (by decide)
  · rw [crash_len aw6_ok h, aw6_eq]; rfl
theorem crash_q {m : DiskM} {s' l' : SS} {c1' c2' : Nat} {keep : Int} {N : Nat} (ok : DOk m) (h : CrashR m.safe m.loose s' l' c1' c2' keep) (hq : ∀ x ∈ m.safe, x.1.length ≤ N) : ∀ x ∈ s', x.1.length ≤ N := fun x hx => by
  have hp := keys_perm h.w1 ok.w1 fun k => by rw [h.safe k]; cases getT m.safe k <;> rfl
  have : x.1 ∈ m.safe.map (·.1) := hp.mem_iff.1 (List.mem_map_of_mem hx)
  obtain ⟨y, hy, he⟩ := List.mem_map.1 this
  rw [← he]; exact hq y hy
theorem awake_c {r : Fr} : Con Go.Proofs.Tryz.prog 6 #[] r [] (Ret fun v η => v = .bool true ∧ η = []) := by
  refine Con.of (n := 67) [] rfl Go.Proofs.Tryz.func6 rfl rfl rfl fun g hg R hR => ?_
  have ok0' := ok0 8 (by decide) (by decide)
  have hq6 : ∀ x ∈ aw6.safe, x.1.length ≤ 9223372036854775807 := by rw [aw6_eq]; decide
  refine S.seq (S.region rfl ?_)
  refine O.op (.p rfl) (.as rfl) ?_
  refine O.nil ?_
  refine S.seq (S.region rfl ?_)
  refine O.call0 (.p rfl) rfl FactDawake.ok7 rfl rfl (newR_c (room := 8) (by decide)) ?_
  rintro v8 _ ⟨d8, q18, q28, rfl, rfl⟩
  try simp only [List.cons_append, List.nil_append, List.append_nil]
  refine O.frzO (by repeat (first | exact Sel.here | apply Sel.there)) fun g hs hm hat => ?_
  replace hg := Fr.sub_trans hg hs
  replace hR := melted hR hm
  clear hs hm
  refine O.op (.p rfl) (.as rfl) ?_
  refine O.nil ?_
  refine S.seq (S.region rfl ?_)
  refine O.op (.p rfl) (.mv rfl) ?_
  refine O.opE (.p rfl) (.litP (T := Rp.u8) (ys := [1, 2, 3]) Go.Proofs.Tryz.underlying22 FactDawake.elem5 (by decide) rfl rfl ⟨rfl, rfl, rfl, trivial⟩ (by decide)) ?_
  rintro _ _ ⟨a10, c10, rfl, rfl⟩
  refine O.frzA (by repeat (first | exact Sel.here | apply Sel.there)) fun g hs hm ha10 => ?_
  replace hg := Fr.sub_trans hg hs
  replace hR := melted hR hm
  try replace hat := hat.mono hs
  clear hs hm
  refine O.callSs (.p rfl) rfl FactDawake.ok9 rfl rfl (by repeat (first | exact Sels.nil | (apply Sels.cons; focus (repeat (first | exact Sel.here | apply Sel.there))))) (append_g (m := ⟨[], 0, [], 0, 8⟩) (name := [97]) hat ok0' ha10 (by decide) (by decide)) ?_
  rintro v11 _ ⟨rfl, rfl⟩
  try simp only [List.cons_append, List.nil_append, List.append_nil]
  have okA : DOk (dAppM ⟨[], 0, [], 0, 8⟩ [97] [1, 2, 3]) := dAppM_ok ok0' (show (8 : Int) ≤ 1000000000000 by decide)
  rw [show dAppE ⟨[], 0, [], 0, 8⟩ [97] [1, 2, 3] = 0 from rfl]
  refine O.op (.p rfl) (.mv rfl) ?_
  refine O.callSs (.p rfl) rfl FactDawake.ok26 rfl rfl (by repeat (first | exact Sels.nil | (apply Sels.cons; focus (repeat (first | exact Sel.here | apply Sel.there))))) (sync_g (m := (dAppM ⟨[], 0, [], 0, 8⟩ [97] [1, 2, 3])) (name := [97]) hat okA) ?_
  rintro v13 _ ⟨rfl, rfl⟩
  try simp only [List.cons_append, List.nil_append, List.append_nil]
  have okB : DOk (dSyncM (dAppM ⟨[], 0, [], 0, 8⟩ [97] [1, 2, 3]) [97]) := dSyncM_ok okA
  rw [show dSyncE (dAppM ⟨[], 0, [], 0, 8⟩ [97] [1, 2, 3]) [97] = 0 from rfl]
  refine O.op (.p rfl) (.mv rfl) ?_
  refine O.opE (.p rfl) (.litP (T := Rp.u8) (ys := [4, 5, 6, 7]) Go.Proofs.Tryz.underlying22 FactDawake.elem5 (by decide) rfl rfl ⟨rfl, rfl, rfl, rfl, trivial⟩ (by decide)) ?_
  rintro _ _ ⟨a15, c15, rfl, rfl⟩
  refine O.frzA (by repeat (first | exact Sel.here | apply Sel.there)) fun g hs hm ha15 => ?_
  replace hg := Fr.sub_trans hg hs
  replace hR := melted hR hm
  try replace hat := hat.mono hs
  try replace ha10 := ha10.mono hs
  clear hs hm
  refine O.callSs (.p rfl) rfl FactDawake.ok9 rfl rfl (by repeat (first | exact Sels.nil | (apply Sels.cons; focus (repeat (first | exact Sel.here | apply Sel.there))))) (append_g (m := (dSyncM (dAppM ⟨[], 0, [], 0, 8⟩ [97] [1, 2, 3]) [97])) (name := [97]) hat okB ha15 (by decide) (by decide)) ?_
  rintro v16 _ ⟨rfl, rfl⟩
  try simp only [List.cons_append, List.nil_append, List.append_nil]
  have okC : DOk (dAppM (dSyncM (dAppM ⟨[], 0, [], 0, 8⟩ [97] [1, 2, 3]) [97]) [97] [4, 5, 6, 7]) := dAppM_ok okB (show (8 : Int) ≤ 1000000000000 by decide)
  rw [show dAppE (dSyncM (dAppM ⟨[], 0, [], 0, 8⟩ [97] [1, 2, 3]) [97]) [97] [4, 5, 6, 7] = 0 from rfl]
  refine O.op (.p rfl) (.mv rfl) ?_
  refine O.callSs (.p rfl) rfl FactDawake.ok9 rfl rfl (by repeat (first | exact Sels.nil | (apply Sels.cons; focus (repeat (first | exact Sel.here | apply Sel.there))))) (append_g (m := (dAppM (dSyncM (dAppM ⟨[], 0, [], 0, 8⟩ [97] [1, 2, 3]) [97]) [97] [4, 5, 6, 7])) (name := [65]) hat okC Arr.nil (by decide) (by decide)) ?_
  rintro v18 _ ⟨rfl, rfl⟩
  try simp only [List.cons_append, List.nil_append, List.append_nil]
  have okD : DOk (dAppM (dAppM (dSyncM (dAppM ⟨[], 0, [], 0, 8⟩ [97] [1, 2, 3]) [97]) [97] [4, 5, 6, 7]) [65] []) := dAppM_ok okC (show (8 : Int) ≤ 1000000000000 by decide)
  rw [show dAppE (dAppM (dSyncM (dAppM ⟨[], 0, [], 0, 8⟩ [97] [1, 2, 3]) [97]) [97] [4, 5, 6, 7]) [65] [] = 2 from rfl]
  refine O.op (.p rfl) (.mv rfl) ?_
  refine O.opE (.p rfl) (.litP (T := Rp.u8) (ys := [8, 9]) Go.Proofs.Tryz.underlying22 FactDawake.elem5 (by decide) rfl rfl ⟨rfl, rfl, trivial⟩ (by decide)) ?_
  rintro _ _ ⟨a20, c20, rfl, rfl⟩
  refine O.frzA (by repeat (first | exact Sel.here | apply Sel.there)) fun g hs hm ha20 => ?_
  replace hg := Fr.sub_trans hg hs
  replace hR := melted hR hm
  try replace hat := hat.mono hs
  try replace ha10 := ha10.mono hs
  try replace ha15 := ha15.mono hs
  clear hs hm
  refine O.callSs (.p rfl) rfl FactDawake.ok9 rfl rfl (by repeat (first | exact Sels.nil | (apply Sels.cons; focus (repeat (first | exact Sel.here | apply Sel.there))))) (append_g (m := (dAppM (dAppM (dSyncM (dAppM ⟨[], 0, [], 0, 8⟩ [97] [1, 2, 3]) [97]) [97] [4, 5, 6, 7]) [65] [])) (name := [98]) hat okD ha20 (by decide) (by decide)) ?_
  rintro v21 _ ⟨rfl, rfl⟩
  try simp only [List.cons_append, List.nil_append, List.append_nil]
  have okE : DOk (dAppM (dAppM (dAppM (dSyncM (dAppM ⟨[], 0, [], 0, 8⟩ [97] [1, 2, 3]) [97]) [97] [4, 5, 6, 7]) [65] []) [98] [8, 9]) := dAppM_ok okD (show (8 : Int) ≤ 1000000000000 by decide)
  rw [show dAppE (dAppM (dAppM (dSyncM (dAppM ⟨[], 0, [], 0, 8⟩ [97] [1, 2, 3]) [97]) [97] [4, 5, 6, 7]) [65] []) [98] [8, 9] = 8 from rfl]
  refine O.op (.p rfl) (.mv rfl) ?_
  refine O.callSs (.p rfl) rfl FactDawake.ok9 rfl rfl (by repeat (first | exact Sels.nil | (apply Sels.cons; focus (repeat (first | exact Sel.here | apply Sel.there))))) (append_g (m := (dAppM (dAppM (dAppM (dSyncM (dAppM ⟨[], 0, [], 0, 8⟩ [97] [1, 2, 3]) [97]) [97] [4, 5, 6, 7]) [65] []) [98] [8, 9])) (name := [98]) hat okE Arr.nil (by decide) (by decide)) ?_
  rintro v23 _ ⟨rfl, rfl⟩
  try simp only [List.cons_append, List.nil_append, List.append_nil]
  rw [show dAppE (dAppM (dAppM (dAppM (dSyncM (dAppM ⟨[], 0, [], 0, 8⟩ [97] [1, 2, 3]) [97]) [97] [4, 5, 6, 7]) [65] []) [98] [8, 9]) [98] [] = 0 from rfl, show (dAppM (dAppM (dAppM (dAppM (dSyncM (dAppM ⟨[], 0, [], 0, 8⟩ [97] [1, 2, 3]) [97]) [97] [4, 5, 6, 7]) [65] []) [98] [8, 9]) [98] []) = aw6 from rfl]
  refine O.opE (.p rfl) (.litP (T := Rp.i64) (ys := [_, _, _, _, _, _]) Go.Proofs.Tryz.underlying56 FactDawake.elem27 (by decide) rfl rfl ⟨⟨rfl, by first | assumption | (constructor <;> omega)⟩, ⟨rfl, by first | assumption | (constructor <;> omega)⟩, ⟨rfl, by first | assumption | (constructor <;> omega)⟩, ⟨rfl, by first | assumption | (constructor <;> omega)⟩, ⟨rfl, by first | assumption | (constructor <;> omega)⟩, ⟨rfl, by first | assumption | (constructor <;> omega)⟩, trivial⟩ (by decide)) ?_
  rintro _ _ ⟨a24, c24, rfl, rfl⟩
  refine O.frzA (by repeat (first | exact Sel.here | apply Sel.there)) fun g hs hm ha24 => ?_
  replace hg := Fr.sub_trans hg hs
  replace hR := melted hR hm
  try replace hat := hat.mono hs
  try replace ha10 := ha10.mono hs
  try replace ha15 := ha15.mono hs
  try replace ha20 := ha20.mono hs
  clear hs hm
  refine O.op (.p rfl) (.as rfl) ?_
  refine O.nil ?_
  refine S.seq (S.region rfl ?_)
  refine O.opE (.p rfl) (.litP (T := Rp.i64) (ys := [0, 0, 0, 2, 8, 0]) Go.Proofs.Tryz.underlying54 FactDawake.elem3 (by decide) rfl rfl ⟨⟨rfl, by first | assumption | (constructor <;> omega)⟩, ⟨rfl, by first | assumption | (constructor <;> omega)⟩, ⟨rfl, by first | assumption | (constructor <;> omega)⟩, ⟨rfl, by first | assumption | (constructor <;> omega)⟩, ⟨rfl, by first | assumption | (constructor <;> omega)⟩, ⟨rfl, by first | assumption | (constructor <;> omega)⟩, trivial⟩ (by decide)) ?_
  rintro _ _ ⟨a25, c25, rfl, rfl⟩
  refine O.frzA (by repeat (first | exact Sel.here | apply Sel.there)) fun g hs hm ha25 => ?_
  replace hg := Fr.sub_trans hg hs
  replace hR := melted hR hm
  try replace hat := hat.mono hs
  try replace ha10 := ha10.mono hs
  try replace ha15 := ha15.mono hs
  try replace ha20 := ha20.mono hs
  try replace ha24 := ha24.mono hs
  clear hs hm
  refine O.op (.p rfl) (.as rfl) ?_
  refine O.nil ?_
  refine S.seq (S.seq (S.region rfl ?_))
  refine O.op (.p rfl) (.as rfl) ?_
  refine O.nil ?_
  refine S.block ?_
  refine S.loopK (ι := Nat) (fun i => i ≤ 6) (fun i => [(4, .int .i64 (i : Int))]) [(1, _), (2, _), (3, _)] (fun i => [MapT q18 aw6.safe aw6.c1, MapT q28 aw6.loose aw6.c2]) (fun i => 6 - i) (0) (by exact Nat.zero_le _) (.cons rfl (.nil)) (.cons rfl (.cons rfl (.cons rfl (.nil)))) rfl fun i hx ih => ?_
  have hm1 := meltRefl (g := g)
  refine S.seq (S.seq (S.region rfl ?_))
  refine O.op (.p rfl) (.mv rfl) ?_
  refine O.op (.p rfl) (.mv rfl) ?_
  refine O.op (.p rfl) (.len rfl Go.Proofs.Tryz.underlying56 rfl) ?_
  refine O.op (.p rfl) (.lss rfl rfl) ?_
  refine O.nil ?_
  first | refine S.condD rfl (fun h29 => ?_) (fun h29 => ?_) | refine S.condB rfl (fun h29 => ?_) (fun h29 => ?_)
  · have hi : i < 6 := by omega
    refine S.skip (S.seq (S.block (S.seq (S.regionD (L := [0, 1, 2, 3, 4, 5, 6, 7, 8]) FactDawake.mixed (by kernel_rfl) ?_))))
    refine .quiet (.p rfl) rfl (fun _ => .mv rfl) ?_
    refine .quiet (.p rfl) rfl (fun _ => .mv rfl) ?_
    refine OD.idx' (.p rfl) Go.Proofs.Tryz.underlying56 FactDawake.size27 rfl rfl rfl (by first | assumption | exact Arr.mono hg (by assumption) | exact Arr.left (by assumption) | exact Arr.left (Arr.mono hg (by assumption))) (by decide) (by first | omega | (simp; done) | (simp; omega) | decide) (fun p34 cs34 hp34 hr34 => ?_)
    obtain ⟨rfl, hz34⟩ := hr34
    refine .quiet (.p rfl) rfl (fun _ => .loadAt FactDawake.flat27 rfl hp34 rfl) ?_
    refine .quiet (.p rfl) rfl (fun _ => .mv rfl) ?_
    refine .quiet (.p rfl) rfl (fun _ => .mv rfl) ?_
    refine OD.idx' (.p rfl) Go.Proofs.Tryz.underlying54 FactDawake.size3 rfl rfl rfl (by first | assumption | exact Arr.mono hg (by assumption) | exact Arr.left (by assumption) | exact Arr.left (Arr.mono hg (by assumption))) (by decide) (by first | omega | (simp; done) | (simp; omega) | decide) (fun p38 cs38 hp38 hr38 => ?_)
    obtain ⟨rfl, hz38⟩ := hr38
    refine .quiet (.p rfl) rfl (fun _ => .loadAt FactDawake.flat3 rfl hp38 rfl) ?_
    refine .quiet (.p rfl) rfl (fun _ => .neq rfl rfl) ?_
    refine OD.slot 40 (v' := .bool false) rfl (congrArg Value.bool (by simp)) ?_
    refine .nil ?_
    refine S.condF rfl ?_
    refine S.skip (S.inBlock (S.region rfl ?_))
    refine O.op (.p rfl) (.mv rfl) ?_
    refine O.op (.p rfl) (.add rfl rfl (IntWalk.i64_in _ (by omega))) ?_
    refine O.op (.p rfl) (.as rfl) ?_
    refine O.nil ?_
    refine S.weaken ?_ (ih (i + 1) (by omega) (by omega))
    repeat (first | exact Sub.nil | refine Sub.cons rfl ?_)
  · clear ih
    refine S.exit rfl ?_
    refine S.seq (S.region rfl ?_)
    refine O.op (.p rfl) (.mv rfl) ?_
    refine O.callSs (.p rfl) rfl FactDawake.ok27 rfl rfl (by repeat (first | exact Sels.nil | (apply Sels.cons; focus (repeat (first | exact Sel.here | apply Sel.there))))) (used_g (m := aw6) hat aw6_ok) ?_
    rintro v42 _ ⟨rfl, rfl⟩
    try simp only [List.cons_append, List.nil_append, List.append_nil]
    rw [show aw6.used = 7 from by rw [aw6_eq]; rfl]
    refine O.op (.p rfl) (.as rfl) ?_
    refine O.nil ?_
    refine S.seq (S.region rfl ?_)
    refine O.op (.p rfl) (.mv rfl) ?_
    refine O.callSs (.p rfl) rfl FactDawake.ok28 rfl rfl (by repeat (first | exact Sels.nil | (apply Sels.cons; focus (repeat (first | exact Sel.here | apply Sel.there))))) (crash_g (keep := 1) hat aw6_ok.w1 aw6_ok.w2 aw6_ok.sub aw6_ok.le) ?_
    rintro v44 _ ⟨s', c1', l', c2', hcr, rfl, rfl⟩
    try simp only [List.cons_append, List.nil_append, List.append_nil]
    refine O.nil ?_
    refine S.seq ?_
    have okF : DOk ⟨s', c1', l', c2', 8⟩ := crash_ok aw6_ok hcr
    obtain ⟨hr1, hr2, hr3, hr4⟩ := aw_crash hcr
    have hqF := crash_q aw6_ok hcr hq6
    refine S.region rfl ?_
    refine O.op (.p rfl) (.mv rfl) ?_
    refine O.callSs (.p rfl) rfl FactDawake.ok13 rfl rfl (by repeat (first | exact Sels.nil | (apply Sels.cons; focus (repeat (first | exact Sel.here | apply Sel.there))))) (read_g (m := ⟨s', c1', l', c2', 8⟩) (name := [97]) hat okF) ?_
    rintro v47 _ ⟨a47, c47, rfl, rfl⟩
    try simp only [List.cons_append, List.nil_append, List.append_nil]
    rw [hr1, hr2]
    refine O.frzW Sel.here fun g hs hm ha47 => ?_
    replace hg := Fr.sub_trans hg hs
    replace hR := melted hR hm
    try replace hat := hat.mono hs
    try replace ha10 := ha10.mono hs
    try replace ha15 := ha15.mono hs
    try replace ha20 := ha20.mono hs
    try replace ha24 := ha24.mono hs
    try replace ha25 := ha25.mono hs
    replace hm1 := meltTrans hm1 hm
    clear hs hm
    refine O.op (.p rfl) (.mv rfl) ?_
    refine O.op (.p rfl) (.extract rfl rfl) ?_
    refine O.op (.p rfl) (.extract rfl rfl) ?_
    refine O.op (.p rfl) (.as rfl) ?_
    refine O.op (.p rfl) (.as rfl) ?_
    refine O.nil ?_
    refine S.seq (S.region rfl ?_)
    refine O.op (.p rfl) (.mv rfl) ?_
    refine O.op (.p rfl) (.eql rfl rfl) ?_
    refine O.slot 51 (v' := .bool true) rfl (congrArg Value.bool (by rfl)) ?_
    refine O.op (.p rfl) (.mv rfl) ?_
    refine O.op (.g rfl rfl) (.mv rfl) ?_
    refine O.op (.g rfl rfl) (.eql rfl rfl) ?_
    refine O.slot 54 (v' := .bool true) rfl (congrArg Value.bool (by rfl)) ?_
    refine O.op (.p rfl) (.pickT rfl rfl) ?_
    refine O.op (.p rfl) (.mv rfl) ?_
    refine O.op (.g rfl rfl) (.mv rfl) ?_
    refine O.opE (.g rfl rfl) (.litP (T := Rp.u8) (ys := [1, 2, 3, 4]) Go.Proofs.Tryz.underlying22 FactDawake.elem5 (by decide) rfl rfl ⟨rfl, rfl, rfl, rfl, trivial⟩ (by decide)) ?_
    rintro _ _ ⟨a58, c58, rfl, rfl⟩
    refine O.frzA (by repeat (first | exact Sel.here | apply Sel.there)) fun g hs hm ha58 => ?_
    replace hg := Fr.sub_trans hg hs
    replace hR := melted hR hm
    try replace hat := hat.mono hs
    try replace ha10 := ha10.mono hs
    try replace ha15 := ha15.mono hs
    try replace ha20 := ha20.mono hs
    try replace ha24 := ha24.mono hs
    try replace ha25 := ha25.mono hs
    try replace ha47 := ha47.mono hs
    replace hm1 := meltTrans hm1 hm
    clear hs hm
    refine O.call0 (.g rfl rfl) rfl FactDawake.ok14 rfl rfl (SameBytes_c (by first | assumption | exact Arr.mono hg (by assumption) | exact Arr.left (by assumption) | exact Arr.left (Arr.mono hg (by assumption))) (by first | assumption | exact Arr.mono hg (by assumption) | exact Arr.left (by assumption) | exact Arr.left (Arr.mono hg (by assumption)))) ?_
    rintro v59 _ ⟨rfl, rfl⟩
    try simp only [List.cons_append, List.nil_append, List.append_nil]
    refine O.slot 59 (v' := .bool true) rfl (congrArg Value.bool (by rfl)) ?_
    refine O.op (.p rfl) (.pickT rfl rfl) ?_
    refine O.op (.p rfl) (.mv rfl) ?_
    refine O.op (.g rfl rfl) (.mv rfl) ?_
    refine O.callSs (.g rfl rfl) rfl FactDawake.ok17 rfl rfl (by repeat (first | exact Sels.nil | (apply Sels.cons; focus (repeat (first | exact Sel.here | apply Sel.there))))) (list_g (m := ⟨s', c1', l', c2', 8⟩) hat okF (by show s'.length ≤ _; omega) hqF) ?_
    rintro v63 _ ⟨a63, n63, rfl, rfl⟩
    try simp only [List.cons_append, List.nil_append, List.append_nil]
    simp only [hr3]
    refine O.frzA (by repeat (first | exact Sel.here | apply Sel.there)) fun g hs hm ha63 => ?_
    replace hg := Fr.sub_trans hg hs
    replace hR := melted hR hm
    try replace hat := hat.mono hs
    try replace ha10 := ha10.mono hs
    try replace ha15 := ha15.mono hs
    try replace ha20 := ha20.mono hs
    try replace ha24 := ha24.mono hs
    try replace ha25 := ha25.mono hs
    try replace ha47 := ha47.mono hs
    try replace ha58 := ha58.mono hs
    replace hm1 := meltTrans hm1 hm
    clear hs hm
    refine O.opE (.g rfl rfl) (.litP (T := Rp.str) (ys := [_, _]) Go.Proofs.Tryz.underlying36 FactDawake.elem9 (by decide) rfl rfl ⟨⟨rfl, by first | omega | (simp; done) | (simp; omega) | decide⟩, ⟨rfl, by first | omega | (simp; done) | (simp; omega) | decide⟩, trivial⟩ (by decide)) ?_
    rintro _ _ ⟨a64, c64, rfl, rfl⟩
    refine O.frzA (by repeat (first | exact Sel.here | apply Sel.there)) fun g hs hm ha64 => ?_
    replace hg := Fr.sub_trans hg hs
    replace hR := melted hR hm
    try replace hat := hat.mono hs
    try replace ha10 := ha10.mono hs
    try replace ha15 := ha15.mono hs
    try replace ha20 := ha20.mono hs
    try replace ha24 := ha24.mono hs
    try replace ha25 := ha25.mono hs
    try replace ha47 := ha47.mono hs
    try replace ha58 := ha58.mono hs
    try replace ha63 := ha63.mono hs
    replace hm1 := meltTrans hm1 hm
    clear hs hm
    refine O.call0 (.g rfl rfl) rfl FactDawake.ok18 rfl rfl (SameTexts_c (by first | assumption | exact Arr.mono hg (by assumption) | exact Arr.left (by assumption) | exact Arr.left (Arr.mono hg (by assumption))) (by first | assumption | exact Arr.mono hg (by assumption) | exact Arr.left (by assumption) | exact Arr.left (Arr.mono hg (by assumption)))) ?_
    rintro v65 _ ⟨rfl, rfl⟩
    try simp only [List.cons_append, List.nil_append, List.append_nil]
    refine O.slot 65 (v' := .bool true) rfl (congrArg Value.bool (by rfl)) ?_
    refine O.op (.p rfl) (.pickT rfl rfl) ?_
    refine O.op (.p rfl) (.as rfl) ?_
    refine O.nil ?_
    refine S.ret Go.Proofs.Tryz.results6 rfl fun w hw => Holds.end_ hR hw ?_
    exact ⟨_, ⟨rfl, rfl⟩, by repeat (first | exact Picks.all | exact Picks.nil | (apply Picks.cons; focus (repeat (first | exact Sel.here | apply Sel.there))) | apply Picks.skip)⟩

end Go.Proofs.YtkkcpckgnfcncaaGreatDoor
