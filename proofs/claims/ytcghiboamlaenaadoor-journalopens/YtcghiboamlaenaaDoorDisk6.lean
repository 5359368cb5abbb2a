import Derived.Test.YtcghiboamlaenaaDoorDisk5
open Go Go.Sp
set_option maxRecDepth 100000
attribute [local irreducible] obj Own OwnP
namespace Go.Proofs.YtcghiboamlaenaaDoor
theorem FactDisk6.flat27 : Go.Sp.flat1 Go.Proofs.Tryd.prog 27 = true := by kernel_rfl
theorem FactDisk6.flat9 : Go.Sp.flat1 Go.Proofs.Tryd.prog 9 = true := by kernel_rfl
theorem FactDisk6.fld29x0 : fieldOff Go.Proofs.Tryd.prog 29 0 = some 0 := by kernel_rfl
theorem FactDisk6.fld29x1 : fieldOff Go.Proofs.Tryd.prog 29 1 = some 1 := by kernel_rfl
theorem FactDisk6.mixed : Go.Proofs.Tryd.prog.follows .mixedOrders = true := by kernel_rfl
theorem FactDisk6.ok10 : callable Go.Proofs.Tryd.prog 10 = true := by kernel_rfl
theorem FactDisk6.ok28 : callable Go.Proofs.Tryd.prog 28 = true := by kernel_rfl
theorem FactDisk6.ok29 : callable Go.Proofs.Tryd.prog 29 = true := by kernel_rfl

theorem dHas_app (m : DiskM) (name b : List UInt8) : dHas (dApp m name b) name = true := by
  unfold dHas dApp; simp only; rw [getT_put, if_pos rfl]; rfl
theorem dAppM_room (m : DiskM) (name b : List UInt8) : (dAppM m name b).room = m.room := by unfold dAppM; split <;> rfl
theorem dAppE_fit {m : DiskM} {name b : List UInt8} (h : dAppE m name b = 0) : (m.used : Int) + b.length ≤ m.room := by
  unfold dAppE at h; split at h
  · split at h
    · cases h
    · omega
  · cases h
theorem dAppM_ok {m : DiskM} {name b : List UInt8} (ok : DOk m) : DOk (dAppM m name b) := by
  unfold dAppM; split
  · rename_i h; exact dApp_ok ok (dAppE_fit h)
  · exact ok
theorem dAppM_eq {m : DiskM} {name b : List UInt8} (h : dAppE m name b = 0) : dAppM m name b = dApp m name b := by unfold dAppM; rw [if_pos h]
/-- what a file's put leaves -/
def putM (m : DiskM) (name b : List UInt8) : DiskM := if dAppE m name b = 0 then dSyncM (dAppM m name b) name else m
theorem dSyncM_ok {m : DiskM} {name : List UInt8} (ok : DOk m) : DOk (dSyncM m name) := by unfold dSyncM; split; exact dFirm_ok ok; exact ok
theorem dSyncM_room (m : DiskM) (name : List UInt8) : (dSyncM m name).room = m.room := by unfold dSyncM; split <;> rfl
theorem dCutM_ok {m : DiskM} {name : List UInt8} {n : Int} (ok : DOk m) : DOk (dCutM m name n) := by unfold dCutM; split; exact dFirm_ok ok; exact ok
theorem dCutM_room (m : DiskM) (name : List UInt8) (n : Int) : (dCutM m name n).room = m.room := by unfold dCutM; split <;> rfl
theorem putM_ok {m : DiskM} {name b : List UInt8} (ok : DOk m) : DOk (putM m name b) := by unfold putM; split; exact dSyncM_ok (dAppM_ok ok); exact ok
theorem putM_room (m : DiskM) (name b : List UInt8) : (putM m name b).room = m.room := by unfold putM; split; rw [dSyncM_room, dAppM_room]; rfl
theorem fput_g {r : Fr} {j d q1 q2 : Nat} {m : DiskM} {name b : List UInt8} {vb : Value} (haj : At r ⟨j, 0, none⟩ [.pointer (some ⟨d, 0, none⟩), .string (str name)]) (hat : At r ⟨d, 0, none⟩ (dC q1 q2 m.room)) (ok : DOk m) (hb : Arr Rp.u8 r vb b) (hn : name.length ≤ 9223372036854775807) (hbl : b.length ≤ 1000000000000) :
    Con Go.Proofs.Tryd.prog 25 #[.pointer (some ⟨j, 0, none⟩), vb] r (dW q1 q2 m) (Ret fun v η => v = .int .i64 (dAppE m name b) ∧ η = dW q1 q2 (putM m name b)) := by
  refine Con.of (n := 28) [.pointer (some ⟨j, 0, none⟩), vb] rfl Go.Proofs.Tryd.func25 rfl rfl rfl fun g hg R hR => ?_
  replace haj : At g.h ⟨j, 0, none⟩ [.pointer (some ⟨d, 0, none⟩), .string (str name)] := At.mono hg haj
  replace hat : At g.h ⟨d, 0, none⟩ (dC q1 q2 m.room) := At.mono hg hat
  have hb := hb.mono hg
  obtain ⟨ab, cb, rfl⟩ := hb.shape
  refine S.seq (S.region rfl ?_)
  refine O.op (.p rfl) (.as rfl) ?_
  refine O.nil ?_
  refine S.seq (S.seq (S.regionD (L := [0, 1, 2, 3, 4, 5, 6, 7, 8, 9, 10]) FactDisk6.mixed (by kernel_rfl) ?_))
  refine .quiet (.p rfl) rfl (fun _ => .mv rfl) ?_
  refine .quiet (.p rfl) rfl (fun _ => .nilCheck rfl) ?_
  refine .quiet (.p rfl) rfl (fun _ => .fieldAddr FactDisk6.fld29x0 rfl) ?_
  refine .quiet (.p rfl) rfl (fun _ => .loadAt FactDisk6.flat27 rfl haj rfl) ?_
  refine .quiet (.p rfl) rfl (fun _ => .mv rfl) ?_
  refine .quiet (.p rfl) rfl (fun _ => .nilCheck rfl) ?_
  refine .quiet (.p rfl) rfl (fun _ => .fieldAddr FactDisk6.fld29x1 rfl) ?_
  refine .quiet (.p rfl) rfl (fun _ => .loadAt FactDisk6.flat9 rfl (haj.drop 1) rfl) ?_
  refine .quiet (.p rfl) rfl (fun _ => .mv rfl) ?_
  refine OD.callSs (.p rfl) (by kernel_rfl) rfl FactDisk6.ok10 rfl rfl (by repeat (first | exact Sels.nil | (apply Sels.cons; focus (repeat (first | exact Sel.here | apply Sel.there))))) (append_g (name := name) hat ok hb hn hbl) ?_
  rintro v15 _ ⟨rfl, rfl⟩
  try simp only [List.cons_append, List.nil_append, List.append_nil]
  refine .quiet (.p rfl) rfl (fun _ => .as rfl) ?_
  refine .nil ?_
  refine S.seq (S.region rfl ?_)
  refine O.op (.p rfl) (.mv rfl) ?_
  refine O.op (.p rfl) (.neq rfl rfl) ?_
  refine O.nil ?_
  first | refine S.condD rfl (fun h17 => ?_) (fun h17 => ?_) | refine S.condB rfl (fun h17 => ?_) (fun h17 => ?_)
  · have e : putM m name b = m := by unfold putM; rw [if_neg h17]
    have e2 : dAppM m name b = m := by unfold dAppM; rw [if_neg h17]
    rw [e] at hR
    rw [e2]
    refine S.seq (S.region rfl ?_)
    refine O.op (.p rfl) (.mv rfl) ?_
    refine O.op (.p rfl) (.as rfl) ?_
    refine O.nil ?_
    refine S.ret Go.Proofs.Tryd.results25 rfl fun w hw => Holds.end_ hR hw ?_
    exact ⟨_, ⟨rfl, rfl⟩, by repeat (first | exact Picks.all | exact Picks.nil | (apply Picks.cons; focus (repeat (first | exact Sel.here | apply Sel.there))) | apply Picks.skip)⟩
  · have h17 : dAppE m name b = 0 := by simpa using h17
    have e : putM m name b = dSyncM (dAppM m name b) name := by unfold putM; rw [if_pos h17]
    have e2 : dSyncE (dAppM m name b) name = 0 := by rw [dAppM_eq h17]; unfold dSyncE; rw [dHas_app]; rfl
    rw [e, h17] at hR
    have hat2 : At g.h ⟨d, 0, none⟩ (dC q1 q2 (dAppM m name b).room) := by rw [dAppM_room]; exact hat
    refine S.skip (S.seq (S.regionD (L := [0, 1, 2, 3, 4, 5, 6, 7, 8, 9]) FactDisk6.mixed (by kernel_rfl) ?_))
    refine .quiet (.p rfl) rfl (fun _ => .mv rfl) ?_
    refine .quiet (.p rfl) rfl (fun _ => .nilCheck rfl) ?_
    refine .quiet (.p rfl) rfl (fun _ => .fieldAddr FactDisk6.fld29x0 rfl) ?_
    refine .quiet (.p rfl) rfl (fun _ => .loadAt FactDisk6.flat27 rfl haj rfl) ?_
    refine .quiet (.p rfl) rfl (fun _ => .mv rfl) ?_
    refine .quiet (.p rfl) rfl (fun _ => .nilCheck rfl) ?_
    refine .quiet (.p rfl) rfl (fun _ => .fieldAddr FactDisk6.fld29x1 rfl) ?_
    refine .quiet (.p rfl) rfl (fun _ => .loadAt FactDisk6.flat9 rfl (haj.drop 1) rfl) ?_
    refine OD.callSs (.p rfl) (by kernel_rfl) rfl FactDisk6.ok28 rfl rfl (by repeat (first | exact Sels.nil | (apply Sels.cons; focus (repeat (first | exact Sel.here | apply Sel.there))))) (sync_g (name := name) hat2 (dAppM_ok ok)) ?_
    rintro v27 _ ⟨rfl, rfl⟩
    try simp only [List.cons_append, List.nil_append, List.append_nil]
    refine .quiet (.p rfl) rfl (fun _ => .as rfl) ?_
    refine .nil ?_
    rw [e2]
    refine S.ret Go.Proofs.Tryd.results25 rfl fun w hw => Holds.end_ hR hw ?_
    exact ⟨_, ⟨rfl, rfl⟩, by repeat (first | exact Picks.all | exact Picks.nil | (apply Picks.cons; focus (repeat (first | exact Sel.here | apply Sel.there))) | apply Picks.skip)⟩
theorem append0_c {r : Fr} {name : List UInt8} {vb : Value} (h : ∃ a n c, vb = .slice a n c) : Con Go.Proofs.Tryd.prog 10 #[.pointer none, .string (str name), vb] r [] (Ret fun v η => v = .int .i64 1 ∧ η = []) := by
  refine Con.of (n := 48) [.pointer none, .string (str name), vb] rfl Go.Proofs.Tryd.func10 rfl rfl rfl fun g hg R hR => ?_
  obtain ⟨ab, nb, cb, rfl⟩ := h
  refine S.seq (S.region rfl ?_)
  refine O.op (.p rfl) (.as rfl) ?_
  refine O.nil ?_
  refine S.seq (S.block (S.seq (S.region rfl ?_)))
  refine O.op (.p rfl) (.mv rfl) ?_
  refine O.call0 (.p rfl) rfl FactDisk6.ok29 rfl rfl (made0_c) ?_
  rintro v9 _ ⟨rfl, rfl⟩
  try simp only [List.cons_append, List.nil_append, List.append_nil]
  refine O.op (.p rfl) (.not rfl) ?_
  refine O.op (.p rfl) (.as rfl) ?_
  refine O.nil ?_
  refine S.condT rfl ?_
  refine S.seq (S.region rfl ?_)
  refine O.op (.p rfl) (.as rfl) ?_
  refine O.nil ?_
  refine S.ret Go.Proofs.Tryd.results10 rfl fun w hw => Holds.end_ hR hw ?_
  exact ⟨_, ⟨rfl, rfl⟩, by repeat (first | exact Picks.all | exact Picks.nil | (apply Picks.cons; focus (repeat (first | exact Sel.here | apply Sel.there))) | apply Picks.skip)⟩

end Go.Proofs.YtcghiboamlaenaaDoor
