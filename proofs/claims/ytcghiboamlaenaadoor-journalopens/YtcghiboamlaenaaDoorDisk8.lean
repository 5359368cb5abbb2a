import Derived.Test.YtcghiboamlaenaaDoorDisk7
open Go Go.Sp
set_option maxRecDepth 100000
attribute [local irreducible] obj Own OwnP
namespace Go.Proofs.YtcghiboamlaenaaDoor
theorem FactDisk8.flat27 : Go.Sp.flat1 Go.Proofs.Tryd.prog 27 = true := by kernel_rfl
theorem FactDisk8.fld29x0 : fieldOff Go.Proofs.Tryd.prog 29 0 = some 0 := by kernel_rfl
theorem FactDisk8.fld31x0 : fieldOff Go.Proofs.Tryd.prog 31 0 = some 0 := by kernel_rfl
theorem FactDisk8.ok10 : callable Go.Proofs.Tryd.prog 10 = true := by kernel_rfl
theorem FactDisk8.ok21 : callable Go.Proofs.Tryd.prog 21 = true := by kernel_rfl
theorem FactDisk8.ok26 : callable Go.Proofs.Tryd.prog 26 = true := by kernel_rfl
theorem FactDisk8.ok27 : callable Go.Proofs.Tryd.prog 27 = true := by kernel_rfl
theorem FactDisk8.ok28 : callable Go.Proofs.Tryd.prog 28 = true := by kernel_rfl

theorem dBytes_app (m : DiskM) (name b : List UInt8) : dBytes (dApp m name b) name = dBytes m name ++ b := by
  unfold dBytes bytesT dApp
  simp only
  rw [getT_put, if_pos rfl]
  split
  · rename_i h; subst h; rw [List.append_nil]; rfl
  · rw [getT_put, if_pos rfl]; simp [List.append_assoc]
theorem dHas_firm (m : DiskM) (name : List UInt8) (k : Nat) : dHas (dFirm m name k) name = true := by
  unfold dHas dFirm; simp only; rw [getT_put, if_pos rfl]; rfl
theorem dBytes_firm {m : DiskM} (ok : DOk m) (name : List UInt8) (k : Nat) : dBytes (dFirm m name k) name = (dBytes m name).take k := by
  unfold dBytes dFirm
  simp only
  unfold bytesT
  rw [getT_put, if_pos rfl, getT_del ok.w2.2.2, if_pos rfl]
  simp
/-- what Open tells, and leaves -/
def openS (m : DiskM) (name : List UInt8) : List Ent × Nat × Bool := scanM (dBytes m name)
def openM (m : DiskM) (name : List UInt8) : DiskM := dSyncM (dCutM (dApp m name []) name ((openS m name).2.1 : Int)) name
theorem open_cut {m : DiskM} {name : List UInt8} : dCutE (dApp m name []) name ((openS m name).2.1 : Int) = 0 := by
  unfold dCutE
  rw [dHas_app, dBytes_app, List.append_nil]
  have := (scanM_len (dBytes m name)).2
  simp only [if_true]
  rw [if_neg]
  unfold openS
  omega
theorem openM_ok {m : DiskM} {name : List UInt8} (ok : DOk m) (h : dAppE m name [] = 0) : DOk (openM m name) := by
  unfold openM; exact dSyncM_ok (dCutM_ok (dApp_ok ok (dAppE_fit h)))
theorem openM_room (m : DiskM) (name : List UInt8) : (openM m name).room = m.room := by unfold openM; rw [dSyncM_room, dCutM_room]; rfl
theorem open_ok {r : Fr} {d q1 q2 : Nat} {m : DiskM} {name : List UInt8} (hat : At r ⟨d, 0, none⟩ (dC q1 q2 m.room)) (ok : DOk m) (hn : name.length ≤ 9223372036854775807) (he : dAppE m name [] = 0) (hs : (openS m name).2.2 = false) :
    Con Go.Proofs.Tryd.prog 8 #[.pointer (some ⟨d, 0, none⟩), .string (str name)] r (dW q1 q2 m)
      (Ret fun v η => ∃ j a c, v = .tuple #[.pointer (some ⟨j, 0, none⟩), .slice a (openS m name).1.length c, .int .i64 0] ∧ η = [obj j 31 [.pointer (some ⟨d, 0, none⟩), .string (str name)], ListP EntG 25 (.slice a (openS m name).1.length c) (openS m name).1] ++ dW q1 q2 (openM m name)) := by
  refine Con.of (n := 56) [.pointer (some ⟨d, 0, none⟩), .string (str name)] rfl Go.Proofs.Tryd.func8 rfl rfl rfl fun g hg R hR => ?_
  replace hat : At g.h ⟨d, 0, none⟩ (dC q1 q2 m.room) := At.mono hg hat
  have ok1 : DOk (dApp m name []) := dApp_ok ok (dAppE_fit he)
  have hc0 := open_cut (m := m) (name := name)
  have e1 : dAppM m name [] = dApp m name [] := dAppM_eq he
  have e2 : dRead (dApp m name []) name = dBytes m name := by unfold dRead; rw [dHas_app, dBytes_app, List.append_nil]; rfl
  have e3 : dSyncE (dApp m name []) name = 0 := by unfold dSyncE; rw [dHas_app]; rfl
  have e4 : dSyncE (dCutM (dApp m name []) name ((openS m name).2.1 : Int)) name = 0 := by
    unfold dSyncE dCutM; rw [hc0, if_pos rfl, dHas_firm]; rfl
  have hle : (dBytes m name).length ≤ 2000000000000 := by
    have h1 := getT_le m.safe name
    have h2 := getT_le m.loose name
    have := ok.le
    unfold dBytes bytesT; rw [List.length_append]; omega
  have hat1 : At g.h ⟨d, 0, none⟩ (dC q1 q2 (dApp m name []).room) := hat
  have hat2 : At g.h ⟨d, 0, none⟩ (dC q1 q2 (dCutM (dApp m name []) name ((openS m name).2.1 : Int)).room) := by rw [dCutM_room]; exact hat
  refine S.seq (S.region rfl ?_)
  refine O.op (.p rfl) (.as rfl) ?_
  refine O.op (.p rfl) (.as rfl) ?_
  refine O.op (.p rfl) (.as rfl) ?_
  refine O.nil ?_
  refine S.seq (S.region rfl ?_)
  refine O.op (.p rfl) (.mv rfl) ?_
  refine O.op (.p rfl) (.mv rfl) ?_
  refine O.op (.p rfl) (.build (cs := [_, _]) Go.Proofs.Tryd.underlying29 rfl rfl rfl rfl rfl) ?_
  refine O.op (.p rfl) (.build (cs := [_, _]) Go.Proofs.Tryd.underlying31 rfl rfl rfl rfl rfl) ?_
  refine O.opE (.p rfl) (.box (cs := [_, _]) rfl rfl) ?_
  rintro _ _ ⟨b19, rfl, rfl⟩
  refine O.op (.p rfl) (.as rfl) ?_
  refine O.nil ?_
  refine S.seq (S.seq (S.region rfl ?_))
  refine O.op (.p rfl) (.mv rfl) ?_
  refine O.op (.p rfl) (.mv rfl) ?_
  refine O.callSs (.p rfl) rfl FactDisk8.ok10 rfl rfl (by repeat (first | exact Sels.nil | (apply Sels.cons; focus (repeat (first | exact Sel.here | apply Sel.there))))) (append_g (name := name) hat ok Arr.nil hn (by simp)) ?_
  rintro v22 _ ⟨rfl, rfl⟩
  try simp only [List.cons_append, List.nil_append, List.append_nil]
  rw [he, e1]
  refine O.op (.p rfl) (.as rfl) ?_
  refine O.nil ?_
  refine S.seq (S.region rfl ?_)
  refine O.op (.p rfl) (.mv rfl) ?_
  refine O.op (.p rfl) (.neq rfl rfl) ?_
  refine O.nil ?_
  refine S.condF rfl ?_
  refine S.skip (S.seq (S.region rfl ?_))
  refine O.op (.p rfl) (.mv rfl) ?_
  refine O.op (.p rfl) (.mv rfl) ?_
  refine O.callSs (.p rfl) rfl FactDisk8.ok21 rfl rfl (by repeat (first | exact Sels.nil | (apply Sels.cons; focus (repeat (first | exact Sel.here | apply Sel.there))))) (read_g (name := name) hat1 ok1) ?_
  rintro v29 _ ⟨a29, c29, rfl, rfl⟩
  try simp only [List.cons_append, List.nil_append, List.append_nil]
  rw [e2, e3]
  refine O.frzW Sel.here fun g hs hm ha29 => ?_
  replace hg := Fr.sub_trans hg hs
  replace hR := melted hR hm
  try replace hat := hat.mono hs
  try replace hat1 := hat1.mono hs
  try replace hat2 := hat2.mono hs
  clear hs hm
  refine O.op (.p rfl) (.mv rfl) ?_
  refine O.op (.p rfl) (.extract rfl rfl) ?_
  refine O.op (.p rfl) (.extract rfl rfl) ?_
  refine O.op (.p rfl) (.as rfl) ?_
  refine O.op (.p rfl) (.as rfl) ?_
  refine O.nil ?_
  refine S.seq (S.region rfl ?_)
  refine O.op (.p rfl) (.mv rfl) ?_
  refine O.call0 (.p rfl) rfl FactDisk8.ok26 rfl rfl (scan_c ha29 (by omega)) ?_
  rintro v34 _ ⟨a34, c34, rfl, rfl⟩
  try simp only [List.cons_append, List.nil_append, List.append_nil]
  rw [show scanM (dBytes m name) = openS m name from rfl, hs]
  refine O.op (.p rfl) (.mv rfl) ?_
  refine O.op (.p rfl) (.extract rfl rfl) ?_
  refine O.op (.p rfl) (.extract rfl rfl) ?_
  refine O.op (.p rfl) (.extract rfl rfl) ?_
  refine O.op (.p rfl) (.as rfl) ?_
  refine O.op (.p rfl) (.as rfl) ?_
  refine O.op (.p rfl) (.as rfl) ?_
  refine O.nil ?_
  refine S.seq (S.block (S.seq (S.region rfl ?_)))
  refine O.op (.p rfl) (.mv rfl) ?_
  refine O.op (.p rfl) (.neq rfl rfl) ?_
  refine O.op (.p rfl) (.as rfl) ?_
  refine O.nil ?_
  refine S.condF rfl ?_
  refine S.seq (S.region rfl ?_)
  refine O.op (.p rfl) (.mv rfl) ?_
  refine O.op (.p rfl) (.as rfl) ?_
  refine O.nil ?_
  refine S.condF rfl ?_
  refine S.skip (S.inBlock (S.seq (S.seq (S.region rfl ?_))))
  refine O.op (.p rfl) (.mv rfl) ?_
  refine O.op (.p rfl) (.mv rfl) ?_
  refine O.op (.p rfl) (.mv rfl) ?_
  refine O.callSs (.p rfl) rfl FactDisk8.ok27 rfl rfl (by repeat (first | exact Sels.nil | (apply Sels.cons; focus (repeat (first | exact Sel.here | apply Sel.there))))) (cut_g (name := name) ((openS m name).2.1 : Int) hat1 ok1) ?_
  rintro v47 _ ⟨rfl, rfl⟩
  try simp only [List.cons_append, List.nil_append, List.append_nil]
  rw [hc0]
  refine O.op (.p rfl) (.as rfl) ?_
  refine O.nil ?_
  refine S.seq (S.region rfl ?_)
  refine O.op (.p rfl) (.mv rfl) ?_
  refine O.op (.p rfl) (.neq rfl rfl) ?_
  refine O.nil ?_
  refine S.condF rfl ?_
  refine S.skip (S.seq (S.region rfl ?_))
  refine O.op (.p rfl) (.mv rfl) ?_
  refine O.op (.p rfl) (.mv rfl) ?_
  refine O.op (.p rfl) (.mv rfl) ?_
  refine O.op (.p rfl) (.mv rfl) ?_
  refine O.callSs (.p rfl) rfl FactDisk8.ok28 rfl rfl (by repeat (first | exact Sels.nil | (apply Sels.cons; focus (repeat (first | exact Sel.here | apply Sel.there))))) (sync_g (name := name) hat2 (dCutM_ok ok1)) ?_
  rintro v55 _ ⟨rfl, rfl⟩
  try simp only [List.cons_append, List.nil_append, List.append_nil]
  rw [e4]
  refine O.op (.p rfl) (.as rfl) ?_
  refine O.op (.p rfl) (.as rfl) ?_
  refine O.op (.p rfl) (.as rfl) ?_
  refine O.nil ?_
  refine S.ret3 Go.Proofs.Tryd.results8 rfl rfl rfl fun w hw => Holds.end_ hR hw ?_
  exact ⟨_, ⟨_, _, _, rfl, rfl⟩, by repeat (first | exact Picks.all | exact Picks.nil | (apply Picks.cons; focus (repeat (first | exact Sel.here | apply Sel.there))) | apply Picks.skip)⟩
theorem open_spoilt {r : Fr} {d q1 q2 : Nat} {m : DiskM} {name : List UInt8} (hat : At r ⟨d, 0, none⟩ (dC q1 q2 m.room)) (ok : DOk m) (hn : name.length ≤ 9223372036854775807) (he : dAppE m name [] = 0) (hs : (openS m name).2.2 = true) :
    Con Go.Proofs.Tryd.prog 8 #[.pointer (some ⟨d, 0, none⟩), .string (str name)] r (dW q1 q2 m)
      (Ret fun v η => v = .tuple #[.pointer none, .slice none 0 0, .int .i64 9] ∧ η = dW q1 q2 (dApp m name [])) := by
  refine Con.of (n := 56) [.pointer (some ⟨d, 0, none⟩), .string (str name)] rfl Go.Proofs.Tryd.func8 rfl rfl rfl fun g hg R hR => ?_
  replace hat : At g.h ⟨d, 0, none⟩ (dC q1 q2 m.room) := At.mono hg hat
  have ok1 : DOk (dApp m name []) := dApp_ok ok (dAppE_fit he)
  have e1 : dAppM m name [] = dApp m name [] := dAppM_eq he
  have e2 : dRead (dApp m name []) name = dBytes m name := by unfold dRead; rw [dHas_app, dBytes_app, List.append_nil]; rfl
  have e3 : dSyncE (dApp m name []) name = 0 := by unfold dSyncE; rw [dHas_app]; rfl
  have hle : (dBytes m name).length ≤ 2000000000000 := by
    have h1 := getT_le m.safe name
    have h2 := getT_le m.loose name
    have := ok.le
    unfold dBytes bytesT; rw [List.length_append]; omega
  have hat1 : At g.h ⟨d, 0, none⟩ (dC q1 q2 (dApp m name []).room) := hat
  refine S.seq (S.region rfl ?_)
  refine O.op (.p rfl) (.as rfl) ?_
  refine O.op (.p rfl) (.as rfl) ?_
  refine O.op (.p rfl) (.as rfl) ?_
  refine O.nil ?_
  refine S.seq (S.region rfl ?_)
  refine O.op (.p rfl) (.mv rfl) ?_
  refine O.op (.p rfl) (.mv rfl) ?_
  refine O.op (.p rfl) (.build (cs := [_, _]) Go.Proofs.Tryd.underlying29 rfl rfl rfl rfl rfl) ?_
  refine O.op (.p rfl) (.build (cs := [_, _]) Go.Proofs.Tryd.underlying31 rfl rfl rfl rfl rfl) ?_
  refine O.opE (.p rfl) (.box (cs := [_, _]) rfl rfl) ?_
  rintro _ _ ⟨b19, rfl, rfl⟩
  refine O.op (.p rfl) (.as rfl) ?_
  refine O.nil ?_
  refine S.seq (S.seq (S.region rfl ?_))
  refine O.op (.p rfl) (.mv rfl) ?_
  refine O.op (.p rfl) (.mv rfl) ?_
  refine O.callSs (.p rfl) rfl FactDisk8.ok10 rfl rfl (by repeat (first | exact Sels.nil | (apply Sels.cons; focus (repeat (first | exact Sel.here | apply Sel.there))))) (append_g (name := name) hat ok Arr.nil hn (by simp)) ?_
  rintro v22 _ ⟨rfl, rfl⟩
  try simp only [List.cons_append, List.nil_append, List.append_nil]
  rw [he, e1]
  refine O.op (.p rfl) (.as rfl) ?_
  refine O.nil ?_
  refine S.seq (S.region rfl ?_)
  refine O.op (.p rfl) (.mv rfl) ?_
  refine O.op (.p rfl) (.neq rfl rfl) ?_
  refine O.nil ?_
  refine S.condF rfl ?_
  refine S.skip (S.seq (S.region rfl ?_))
  refine O.op (.p rfl) (.mv rfl) ?_
  refine O.op (.p rfl) (.mv rfl) ?_
  refine O.callSs (.p rfl) rfl FactDisk8.ok21 rfl rfl (by repeat (first | exact Sels.nil | (apply Sels.cons; focus (repeat (first | exact Sel.here | apply Sel.there))))) (read_g (name := name) hat1 ok1) ?_
  rintro v29 _ ⟨a29, c29, rfl, rfl⟩
  try simp only [List.cons_append, List.nil_append, List.append_nil]
  rw [e2, e3]
  refine O.frzW Sel.here fun g hs hm ha29 => ?_
  replace hg := Fr.sub_trans hg hs
  replace hR := melted hR hm
  try replace hat := hat.mono hs
  try replace hat1 := hat1.mono hs
  clear hs hm
  refine O.op (.p rfl) (.mv rfl) ?_
  refine O.op (.p rfl) (.extract rfl rfl) ?_
  refine O.op (.p rfl) (.extract rfl rfl) ?_
  refine O.op (.p rfl) (.as rfl) ?_
  refine O.op (.p rfl) (.as rfl) ?_
  refine O.nil ?_
  refine S.seq (S.region rfl ?_)
  refine O.op (.p rfl) (.mv rfl) ?_
  refine O.call0 (.p rfl) rfl FactDisk8.ok26 rfl rfl (scan_c ha29 (by omega)) ?_
  rintro v34 _ ⟨a34, c34, rfl, rfl⟩
  try simp only [List.cons_append, List.nil_append, List.append_nil]
  rw [show scanM (dBytes m name) = openS m name from rfl, hs]
  refine O.op (.p rfl) (.mv rfl) ?_
  refine O.op (.p rfl) (.extract rfl rfl) ?_
  refine O.op (.p rfl) (.extract rfl rfl) ?_
  refine O.op (.p rfl) (.extract rfl rfl) ?_
  refine O.op (.p rfl) (.as rfl) ?_
  refine O.op (.p rfl) (.as rfl) ?_
  refine O.op (.p rfl) (.as rfl) ?_
  refine O.nil ?_
  refine S.seq (S.block (S.seq (S.region rfl ?_)))
  refine O.op (.p rfl) (.mv rfl) ?_
  refine O.op (.p rfl) (.neq rfl rfl) ?_
  refine O.op (.p rfl) (.as rfl) ?_
  refine O.nil ?_
  refine S.condF rfl ?_
  refine S.seq (S.region rfl ?_)
  refine O.op (.p rfl) (.mv rfl) ?_
  refine O.op (.p rfl) (.as rfl) ?_
  refine O.nil ?_
  refine S.condT rfl ?_
  refine S.seq (S.region rfl ?_)
  refine O.op (.p rfl) (.as rfl) ?_
  refine O.op (.p rfl) (.as rfl) ?_
  refine O.op (.p rfl) (.as rfl) ?_
  refine O.nil ?_
  refine S.ret3 Go.Proofs.Tryd.results8 rfl rfl rfl fun w hw => Holds.end_ hR hw ?_
  exact ⟨_, ⟨rfl, rfl⟩, by repeat (first | exact Picks.all | exact Picks.nil | (apply Picks.cons; focus (repeat (first | exact Sel.here | apply Sel.there))) | apply Picks.skip)⟩
theorem open_err {r : Fr} {d q1 q2 : Nat} {m : DiskM} {name : List UInt8} (hat : At r ⟨d, 0, none⟩ (dC q1 q2 m.room)) (ok : DOk m) (hn : name.length ≤ 9223372036854775807) (he : dAppE m name [] ≠ 0) :
    Con Go.Proofs.Tryd.prog 8 #[.pointer (some ⟨d, 0, none⟩), .string (str name)] r (dW q1 q2 m)
      (Ret fun v η => v = .tuple #[.pointer none, .slice none 0 0, .int .i64 (dAppE m name [])] ∧ η = dW q1 q2 m) := by
  refine Con.of (n := 56) [.pointer (some ⟨d, 0, none⟩), .string (str name)] rfl Go.Proofs.Tryd.func8 rfl rfl rfl fun g hg R hR => ?_
  replace hat : At g.h ⟨d, 0, none⟩ (dC q1 q2 m.room) := At.mono hg hat
  have e1 : dAppM m name [] = m := by unfold dAppM; rw [if_neg he]
  refine S.seq (S.region rfl ?_)
  refine O.op (.p rfl) (.as rfl) ?_
  refine O.op (.p rfl) (.as rfl) ?_
  refine O.op (.p rfl) (.as rfl) ?_
  refine O.nil ?_
  refine S.seq (S.region rfl ?_)
  refine O.op (.p rfl) (.mv rfl) ?_
  refine O.op (.p rfl) (.mv rfl) ?_
  refine O.op (.p rfl) (.build (cs := [_, _]) Go.Proofs.Tryd.underlying29 rfl rfl rfl rfl rfl) ?_
  refine O.op (.p rfl) (.build (cs := [_, _]) Go.Proofs.Tryd.underlying31 rfl rfl rfl rfl rfl) ?_
  refine O.opE (.p rfl) (.box (cs := [_, _]) rfl rfl) ?_
  rintro _ _ ⟨b19, rfl, rfl⟩
  refine O.op (.p rfl) (.as rfl) ?_
  refine O.nil ?_
  refine S.seq (S.seq (S.region rfl ?_))
  refine O.op (.p rfl) (.mv rfl) ?_
  refine O.op (.p rfl) (.mv rfl) ?_
  refine O.callSs (.p rfl) rfl FactDisk8.ok10 rfl rfl (by repeat (first | exact Sels.nil | (apply Sels.cons; focus (repeat (first | exact Sel.here | apply Sel.there))))) (append_g (name := name) hat ok Arr.nil hn (by simp)) ?_
  rintro v22 _ ⟨rfl, rfl⟩
  try simp only [List.cons_append, List.nil_append, List.append_nil]
  rw [e1]
  refine O.op (.p rfl) (.as rfl) ?_
  refine O.nil ?_
  refine S.seq (S.region rfl ?_)
  refine O.op (.p rfl) (.mv rfl) ?_
  refine O.op (.p rfl) (.neq rfl rfl) ?_
  refine O.nil ?_
  first | refine S.condD rfl (fun h24 => ?_) (fun h24 => ?_) | refine S.condB rfl (fun h24 => ?_) (fun h24 => ?_)
  · refine S.seq (S.region rfl ?_)
    refine O.op (.p rfl) (.mv rfl) ?_
    refine O.op (.p rfl) (.as rfl) ?_
    refine O.op (.p rfl) (.as rfl) ?_
    refine O.op (.p rfl) (.as rfl) ?_
    refine O.nil ?_
    refine S.ret3 Go.Proofs.Tryd.results8 rfl rfl rfl fun w hw => Holds.end_ hR hw ?_
    exact ⟨_, ⟨rfl, rfl⟩, by repeat (first | exact Picks.all | exact Picks.nil | (apply Picks.cons; focus (repeat (first | exact Sel.here | apply Sel.there))) | apply Picks.skip)⟩
  · exact absurd (by simpa using h24) he
theorem open_nil {r : Fr} {name : List UInt8} :
    Con Go.Proofs.Tryd.prog 8 #[.pointer none, .string (str name)] r []
      (Ret fun v η => v = .tuple #[.pointer none, .slice none 0 0, .int .i64 1] ∧ η = []) := by
  refine Con.of (n := 56) [.pointer none, .string (str name)] rfl Go.Proofs.Tryd.func8 rfl rfl rfl fun g hg R hR => ?_
  refine S.seq (S.region rfl ?_)
  refine O.op (.p rfl) (.as rfl) ?_
  refine O.op (.p rfl) (.as rfl) ?_
  refine O.op (.p rfl) (.as rfl) ?_
  refine O.nil ?_
  refine S.seq (S.region rfl ?_)
  refine O.op (.p rfl) (.mv rfl) ?_
  refine O.op (.p rfl) (.mv rfl) ?_
  refine O.op (.p rfl) (.build (cs := [_, _]) Go.Proofs.Tryd.underlying29 rfl rfl rfl rfl rfl) ?_
  refine O.op (.p rfl) (.build (cs := [_, _]) Go.Proofs.Tryd.underlying31 rfl rfl rfl rfl rfl) ?_
  refine O.opE (.p rfl) (.box (cs := [_, _]) rfl rfl) ?_
  rintro _ _ ⟨b19, rfl, rfl⟩
  refine O.op (.p rfl) (.as rfl) ?_
  refine O.nil ?_
  refine S.seq (S.seq (S.region rfl ?_))
  refine O.op (.p rfl) (.mv rfl) ?_
  refine O.op (.p rfl) (.mv rfl) ?_
  refine O.call0 (.p rfl) rfl FactDisk8.ok10 rfl rfl (append0_c ⟨_, _, _, rfl⟩) ?_
  rintro v22 _ ⟨rfl, rfl⟩
  try simp only [List.cons_append, List.nil_append, List.append_nil]
  refine O.op (.p rfl) (.as rfl) ?_
  refine O.nil ?_
  refine S.seq (S.region rfl ?_)
  refine O.op (.p rfl) (.mv rfl) ?_
  refine O.op (.p rfl) (.neq rfl rfl) ?_
  refine O.nil ?_
  refine S.condT rfl ?_
  refine S.seq (S.region rfl ?_)
  refine O.op (.p rfl) (.mv rfl) ?_
  refine O.op (.p rfl) (.as rfl) ?_
  refine O.op (.p rfl) (.as rfl) ?_
  refine O.op (.p rfl) (.as rfl) ?_
  refine O.nil ?_
  refine S.ret3 Go.Proofs.Tryd.results8 rfl rfl rfl fun w hw => Holds.end_ hR hw ?_
  exact ⟨_, ⟨rfl, rfl⟩, by repeat (first | exact Picks.all | exact Picks.nil | (apply Picks.cons; focus (repeat (first | exact Sel.here | apply Sel.there))) | apply Picks.skip)⟩
theorem jappend0_c {r : Fr} {ve : Value} : Con Go.Proofs.Tryd.prog 7 #[.pointer none, ve] r [] (Ret fun v η => v = .int .i64 1 ∧ η = []) := by
  refine Con.of (n := 43) [.pointer none, ve] rfl Go.Proofs.Tryd.func7 rfl rfl rfl fun g hg R hR => ?_
  refine S.seq (S.region rfl ?_)
  refine O.op (.p rfl) (.as rfl) ?_
  refine O.nil ?_
  refine S.seq (S.seq (S.region rfl ?_))
  refine O.op (.p rfl) (.mv rfl) ?_
  refine O.op (.p rfl) (.eqlP Go.Proofs.Tryd.underlying26 rfl rfl) ?_
  refine O.slot 11 (v' := .bool true) rfl (congrArg Value.bool (by rfl)) ?_
  refine O.op (.p rfl) (.mv rfl) ?_
  refine O.opN rfl rfl rfl ?_
  refine O.opN rfl rfl rfl ?_
  refine O.opN rfl rfl rfl ?_
  refine O.opN rfl rfl rfl ?_
  refine O.opN rfl rfl rfl ?_
  refine O.opN rfl rfl rfl ?_
  refine O.op (.p rfl) (.pickT rfl rfl) ?_
  refine O.nil ?_
  refine S.condT rfl ?_
  refine S.seq (S.region rfl ?_)
  refine O.op (.p rfl) (.as rfl) ?_
  refine O.nil ?_
  refine S.ret Go.Proofs.Tryd.results7 rfl fun w hw => Holds.end_ hR hw ?_
  exact ⟨_, ⟨rfl, rfl⟩, by repeat (first | exact Picks.all | exact Picks.nil | (apply Picks.cons; focus (repeat (first | exact Sel.here | apply Sel.there))) | apply Picks.skip)⟩
theorem jappend1_c {r : Fr} {j : Nat} {x : Value} {ve : Value} (haj : At r ⟨j, 0, none⟩ [.pointer none, x]) : Con Go.Proofs.Tryd.prog 7 #[.pointer (some ⟨j, 0, none⟩), ve] r [] (Ret fun v η => v = .int .i64 1 ∧ η = []) := by
  refine Con.of (n := 43) [.pointer (some ⟨j, 0, none⟩), ve] rfl Go.Proofs.Tryd.func7 rfl rfl rfl fun g hg R hR => ?_
  replace haj : At g.h ⟨j, 0, none⟩ [.pointer none, x] := At.mono hg haj
  refine S.seq (S.region rfl ?_)
  refine O.op (.p rfl) (.as rfl) ?_
  refine O.nil ?_
  refine S.seq (S.seq (S.region rfl ?_))
  refine O.op (.p rfl) (.mv rfl) ?_
  refine O.op (.p rfl) (.eqlP Go.Proofs.Tryd.underlying26 rfl rfl) ?_
  refine O.slot 11 (v' := .bool false) rfl (congrArg Value.bool (by rfl)) ?_
  refine O.op (.p rfl) (.mv rfl) ?_
  refine O.op (.g rfl rfl) (.mv rfl) ?_
  refine O.op (.g rfl rfl) (.nilCheck rfl) ?_
  refine O.op (.g rfl rfl) (.fieldAddr FactDisk8.fld31x0 rfl) ?_
  refine O.op (.g rfl rfl) (.fieldAddr FactDisk8.fld29x0 rfl) ?_
  refine O.op (.g rfl rfl) (.loadAt FactDisk8.flat27 rfl haj rfl) ?_
  refine O.op (.g rfl rfl) (.eqlP Go.Proofs.Tryd.underlying27 rfl rfl) ?_
  refine O.slot 18 (v' := .bool true) rfl (congrArg Value.bool (by rfl)) ?_
  refine O.op (.p rfl) (.pickF rfl rfl) ?_
  refine O.nil ?_
  refine S.condT rfl ?_
  refine S.seq (S.region rfl ?_)
  refine O.op (.p rfl) (.as rfl) ?_
  refine O.nil ?_
  refine S.ret Go.Proofs.Tryd.results7 rfl fun w hw => Holds.end_ hR hw ?_
  exact ⟨_, ⟨rfl, rfl⟩, by repeat (first | exact Picks.all | exact Picks.nil | (apply Picks.cons; focus (repeat (first | exact Sel.here | apply Sel.there))) | apply Picks.skip)⟩

end Go.Proofs.YtcghiboamlaenaaDoor
