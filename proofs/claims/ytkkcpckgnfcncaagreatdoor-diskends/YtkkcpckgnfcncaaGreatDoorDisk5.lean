import Derived.Test.YtkkcpckgnfcncaaGreatDoorDisk4
open Go Go.Sp
set_option maxRecDepth 100000
attribute [local irreducible] obj Own OwnP
namespace Go.Proofs.YtkkcpckgnfcncaaGreatDoor
theorem FactDisk5.elem9 : elemIs Go.Proofs.Tryz.prog 9 1 16 [.string ⟨#[]⟩] := elemIs.mk (by kernel_rfl) rfl
theorem FactDisk5.flat22 : Go.Sp.flat1 Go.Proofs.Tryz.prog 22 = true := by kernel_rfl
theorem FactDisk5.flat24 : Go.Sp.flat1 Go.Proofs.Tryz.prog 24 = true := by kernel_rfl
theorem FactDisk5.flat3 : Go.Sp.flat1 Go.Proofs.Tryz.prog 3 = true := by kernel_rfl
theorem FactDisk5.flat60 : Go.Sp.flat1 Go.Proofs.Tryz.prog 60 = true := by kernel_rfl
theorem FactDisk5.flat9 : Go.Sp.flat1 Go.Proofs.Tryz.prog 9 = true := by kernel_rfl
theorem FactDisk5.fld62x0 : fieldOff Go.Proofs.Tryz.prog 62 0 = some 0 := by kernel_rfl
theorem FactDisk5.fld62x1 : fieldOff Go.Proofs.Tryz.prog 62 1 = some 1 := by kernel_rfl
theorem FactDisk5.fld64x0 : fieldOff Go.Proofs.Tryz.prog 64 0 = some 0 := by kernel_rfl
theorem FactDisk5.fld64x1 : fieldOff Go.Proofs.Tryz.prog 64 1 = some 2 := by kernel_rfl
theorem FactDisk5.mixed : Go.Proofs.Tryz.prog.follows .mixedOrders = true := by kernel_rfl
theorem FactDisk5.ok27 : callable Go.Proofs.Tryz.prog 27 = true := by kernel_rfl
theorem FactDisk5.ok30 : callable Go.Proofs.Tryz.prog 30 = true := by kernel_rfl
theorem FactDisk5.ok31 : callable Go.Proofs.Tryz.prog 31 = true := by kernel_rfl
theorem FactDisk5.ok32 : callable Go.Proofs.Tryz.prog 32 = true := by kernel_rfl
theorem FactDisk5.ok33 : callable Go.Proofs.Tryz.prog 33 = true := by kernel_rfl
theorem FactDisk5.ok34 : callable Go.Proofs.Tryz.prog 34 = true := by kernel_rfl
theorem FactDisk5.ok52 : callable Go.Proofs.Tryz.prog 52 = true := by kernel_rfl
theorem FactDisk5.ok53 : callable Go.Proofs.Tryz.prog 53 = true := by kernel_rfl
theorem FactDisk5.ok54 : callable Go.Proofs.Tryz.prog 54 = true := by kernel_rfl
theorem FactDisk5.ok86 : callable Go.Proofs.Tryz.prog 86 = true := by kernel_rfl

/-- a disk's words beside its own variable -/
abbrev dW (b1 b2 : Nat) (m : DiskM) : List SProp := [MapT b1 m.safe m.c1, MapT b2 m.loose m.c2]
theorem DOk.le {m : DiskM} (h : DOk m) : sumT m.safe + sumT m.loose ≤ 1000000000000 := h.small
theorem used_g {r : Fr} {d b1 b2 : Nat} {m : DiskM} (hat : At r ⟨d, 0, none⟩ (dC b1 b2 m.room)) (ok : DOk m) :
    Con Go.Proofs.Tryz.prog 27 #[.pointer (some ⟨d, 0, none⟩)] r (dW b1 b2 m) (Ret fun v η => v = .int .i64 (m.used : Int) ∧ η = dW b1 b2 m) := by
  refine Con.of (n := 19) [.pointer (some ⟨d, 0, none⟩)] rfl Go.Proofs.Tryz.func27 rfl rfl rfl fun g hg R hR => ?_
  replace hat : At g.h ⟨d, 0, none⟩ (dC b1 b2 m.room) := At.mono hg hat
  have hw := ok.w1
  have hw2 := ok.w2
  have hs := ok.le
  refine S.seq (S.region rfl ?_)
  refine O.op (.p rfl) (.as rfl) ?_
  refine O.nil ?_
  refine S.seq (S.seq (S.region rfl ?_))
  refine O.op (.p rfl) (.mv rfl) ?_
  refine O.call0 (.p rfl) rfl FactDisk5.ok30 rfl rfl ((made_g hat)) ?_
  rintro v4 _ ⟨rfl, rfl⟩
  try simp only [List.cons_append, List.nil_append, List.append_nil]
  refine O.op (.p rfl) (.not rfl) ?_
  refine O.nil ?_
  refine S.condF rfl ?_
  refine S.skip (S.seq (S.regionD (L := [0, 1, 2, 3, 4, 6, 7, 8, 9, 10, 5, 11, 12, 13]) FactDisk5.mixed (by kernel_rfl) ?_))
  refine .quiet (.p rfl) rfl (fun _ => .mv rfl) ?_
  refine .quiet (.p rfl) rfl (fun _ => .nilCheck rfl) ?_
  refine .quiet (.p rfl) rfl (fun _ => .fieldAddr FactDisk5.fld64x0 rfl) ?_
  refine .quiet (.p rfl) rfl (fun _ => .fieldAddr FactDisk5.fld62x0 rfl) ?_
  refine .quiet (.p rfl) rfl (fun _ => .loadAt FactDisk5.flat60 rfl hat rfl) ?_
  refine .quiet (.p rfl) rfl (fun _ => .mv rfl) ?_
  refine .quiet (.p rfl) rfl (fun _ => .nilCheck rfl) ?_
  refine .quiet (.p rfl) rfl (fun _ => .fieldAddr FactDisk5.fld64x0 rfl) ?_
  refine .quiet (.p rfl) rfl (fun _ => .fieldAddr FactDisk5.fld62x1 rfl) ?_
  refine .quiet (.p rfl) rfl (fun _ => .loadAt FactDisk5.flat60 rfl (hat.drop 1) rfl) ?_
  refine OD.callS (.p rfl) (by kernel_rfl) rfl FactDisk5.ok54 rfl rfl (by repeat (first | exact Sel.here | apply Sel.there)) (size_c (by assumption) (by omega)) ?_
  rintro v11 _ ⟨rfl, rfl⟩
  try simp only [List.cons_append, List.nil_append, List.append_nil]
  refine OD.callS (.p rfl) (by kernel_rfl) rfl FactDisk5.ok54 rfl rfl (by repeat (first | exact Sel.here | apply Sel.there)) (size_c (by assumption) (by omega)) ?_
  rintro v17 _ ⟨rfl, rfl⟩
  try simp only [List.cons_append, List.nil_append, List.append_nil]
  refine .quiet (.p rfl) rfl (fun _ => .add rfl rfl (IntWalk.i64_in _ (by omega))) ?_
  refine .quiet (.p rfl) rfl (fun _ => .as rfl) ?_
  refine .nil ?_
  refine S.ret Go.Proofs.Tryz.results27 rfl fun w hw => Holds.end_ hR hw ?_
  exact ⟨_, ⟨rfl, rfl⟩, by repeat (first | exact Picks.all | exact Picks.nil | (apply Picks.cons; focus (repeat (first | exact Sel.here | apply Sel.there))) | apply Picks.skip)⟩
/-- what Append tells, and leaves -/
def dApp (m : DiskM) (name b : List UInt8) : DiskM :=
  { m with safe := putT m.safe m.c1 name ((getT m.safe name).getD []), c1 := clkT m.safe m.c1 name
           loose := if b = [] then m.loose else putT m.loose m.c2 name ((getT m.loose name).getD [] ++ b), c2 := if b = [] then m.c2 else clkT m.loose m.c2 name }
def dAppE (m : DiskM) (name b : List UInt8) : Int := if nameOk name then (if m.room < (m.used : Int) + b.length then 8 else 0) else 2
def dAppM (m : DiskM) (name b : List UInt8) : DiskM := if dAppE m name b = 0 then dApp m name b else m
theorem append_g {r : Fr} {d b1 b2 : Nat} {m : DiskM} {name b : List UInt8} {vb : Value} (hat : At r ⟨d, 0, none⟩ (dC b1 b2 m.room)) (ok : DOk m) (hb : Arr Rp.u8 r vb b) (hn : name.length ≤ 9223372036854775807) (hbl : b.length ≤ 1000000000000) :
    Con Go.Proofs.Tryz.prog 9 #[.pointer (some ⟨d, 0, none⟩), .string (str name), vb] r (dW b1 b2 m) (Ret fun v η => v = .int .i64 (dAppE m name b) ∧ η = dW b1 b2 (dAppM m name b)) := by
  refine Con.of (n := 48) [.pointer (some ⟨d, 0, none⟩), .string (str name), vb] rfl Go.Proofs.Tryz.func9 rfl rfl rfl fun g hg R hR => ?_
  replace hat : At g.h ⟨d, 0, none⟩ (dC b1 b2 m.room) := At.mono hg hat
  have hb := hb.mono hg
  obtain ⟨ab, cb, rfl⟩ := hb.shape
  have hs := ok.le
  have hg1 := getT_le m.safe name
  have hg2 := getT_le m.loose name
  refine S.seq (S.region rfl ?_)
  refine O.op (.p rfl) (.as rfl) ?_
  refine O.nil ?_
  refine S.seq (S.block (S.seq (S.region rfl ?_)))
  refine O.op (.p rfl) (.mv rfl) ?_
  refine O.call0 (.p rfl) rfl FactDisk5.ok30 rfl rfl ((made_g hat)) ?_
  rintro v9 _ ⟨rfl, rfl⟩
  try simp only [List.cons_append, List.nil_append, List.append_nil]
  refine O.op (.p rfl) (.not rfl) ?_
  refine O.op (.p rfl) (.as rfl) ?_
  refine O.nil ?_
  refine S.condF rfl ?_
  refine S.seq (S.region rfl ?_)
  refine O.op (.p rfl) (.mv rfl) ?_
  refine O.opE (.p rfl) (.litP (T := Rp.str) (ys := [_]) Go.Proofs.Tryz.underlying36 FactDisk5.elem9 (by decide) rfl rfl ⟨⟨rfl, by first | omega | (simp; done) | (simp; omega) | decide⟩, trivial⟩ (by decide)) ?_
  rintro _ _ ⟨a13, c13, rfl, rfl⟩
  refine O.frzA (by repeat (first | exact Sel.here | apply Sel.there)) fun g hs hm ha13 => ?_
  replace hg := Fr.sub_trans hg hs
  replace hR := melted hR hm
  try replace hat := hat.mono hs
  try replace hb := hb.mono hs
  clear hs hm
  refine O.call0 (.p rfl) rfl FactDisk5.ok31 rfl rfl (named_c (by first | assumption | exact Arr.mono hg (by assumption) | exact Arr.left (by assumption) | exact Arr.left (Arr.mono hg (by assumption)))) ?_
  rintro v14 _ ⟨rfl, rfl⟩
  try simp only [List.cons_append, List.nil_append, List.append_nil]
  refine O.op (.p rfl) ((by first | exact .notD rfl | exact .not rfl)) ?_
  refine O.op (.p rfl) (.as rfl) ?_
  refine O.nil ?_
  first | refine S.condD rfl (fun h11 => ?_) (fun h11 => ?_) | refine S.condB rfl (fun h11 => ?_) (fun h11 => ?_)
  · have hno : nameOk name = false := by simpa using h11
    have e : dAppE m name b = 2 := by simp [dAppE, hno]
    have e2 : dAppM m name b = m := by simp [dAppM, e]
    rw [e, e2] at hR
    refine S.seq (S.region rfl ?_)
    refine O.op (.p rfl) (.as rfl) ?_
    refine O.nil ?_
    refine S.ret Go.Proofs.Tryz.results9 rfl fun w hw => Holds.end_ hR hw ?_
    exact ⟨_, ⟨rfl, rfl⟩, by repeat (first | exact Picks.all | exact Picks.nil | (apply Picks.cons; focus (repeat (first | exact Sel.here | apply Sel.there))) | apply Picks.skip)⟩
  · have hyes : nameOk name = true := by simpa using h11
    refine S.seq (S.regionD (L := [0, 2, 3, 5, 6, 7, 8, 1, 4, 9, 10]) FactDisk5.mixed (by kernel_rfl) ?_)
    refine .quiet (.p rfl) rfl (fun _ => .mv rfl) ?_
    refine .quiet (.p rfl) rfl (fun _ => .mv rfl) ?_
    refine .quiet (.p rfl) rfl (fun _ => .len rfl Go.Proofs.Tryz.underlying22 rfl) ?_
    refine .quiet (.p rfl) rfl (fun _ => .mv rfl) ?_
    refine .quiet (.p rfl) rfl (fun _ => .nilCheck rfl) ?_
    refine .quiet (.p rfl) rfl (fun _ => .fieldAddr FactDisk5.fld64x1 rfl) ?_
    refine .quiet (.p rfl) rfl (fun _ => .loadAt FactDisk5.flat3 rfl (hat.drop 2) rfl) ?_
    refine OD.callSs (.p rfl) (by kernel_rfl) rfl FactDisk5.ok27 rfl rfl (by repeat (first | exact Sels.nil | (apply Sels.cons; focus (repeat (first | exact Sel.here | apply Sel.there))))) (used_g hat ok) ?_
    rintro v18 _ ⟨rfl, rfl⟩
    try simp only [List.cons_append, List.nil_append, List.append_nil]
    have hu := ok.fits
    have hu2 := ok.small
    refine .quiet (.p rfl) rfl (fun _ => .add rfl rfl (IntWalk.i64_in _ (by omega))) ?_
    refine .quiet (.p rfl) rfl (fun _ => .gtr rfl rfl) ?_
    refine .quiet (.p rfl) rfl (fun _ => .as rfl) ?_
    refine .nil ?_
    first | refine S.condD rfl (fun h16 => ?_) (fun h16 => ?_) | refine S.condB rfl (fun h16 => ?_) (fun h16 => ?_)
    · have e : dAppE m name b = 8 := by simp only [dAppE, hyes, if_true]; rw [if_pos (by omega)]
      have e2 : dAppM m name b = m := by simp [dAppM, e]
      rw [e, e2] at hR
      refine S.seq (S.region rfl ?_)
      refine O.op (.p rfl) (.as rfl) ?_
      refine O.nil ?_
      refine S.ret Go.Proofs.Tryz.results9 rfl fun w hw => Holds.end_ hR hw ?_
      exact ⟨_, ⟨rfl, rfl⟩, by repeat (first | exact Picks.all | exact Picks.nil | (apply Picks.cons; focus (repeat (first | exact Sel.here | apply Sel.there))) | apply Picks.skip)⟩
    · have e : dAppE m name b = 0 := by simp only [dAppE, hyes, if_true]; rw [if_neg (by omega)]
      have e2 : dAppM m name b = dApp m name b := by simp [dAppM, e]
      rw [e, e2] at hR
      refine S.skip (S.inBlock (S.seq (S.region rfl ?_)))
      refine O.op (.p rfl) (.mv rfl) ?_
      refine O.op (.p rfl) (.nilCheck rfl) ?_
      refine O.op (.p rfl) (.fieldAddr FactDisk5.fld64x0 rfl) ?_
      refine O.op (.p rfl) (.fieldAddr FactDisk5.fld62x0 rfl) ?_
      refine O.op (.p rfl) (.loadAt FactDisk5.flat60 rfl hat rfl) ?_
      refine O.op (.p rfl) (.mv rfl) ?_
      refine O.op (.p rfl) (.lookupT Go.Proofs.Tryz.underlying60 Go.Proofs.Tryz.underlying9 rfl rfl rfl (by repeat (first | exact Sel.here | apply Sel.there))) ?_
      refine O.op (.p rfl) (.addS rfl rfl (by rw [str_size]; show _ + 0 ≤ 9223372036854775807; omega)) ?_
      refine O.slot 34 (v' := .string (str ((getT m.safe name).getD []))) rfl (by exact congrArg _ ((str_app _ []).trans (by rw [List.append_nil]))) ?_
      refine O.opU rfl (.mapUpdateT Go.Proofs.Tryz.underlying60 Go.Proofs.Tryz.underlying9 rfl rfl rfl (by repeat (first | exact Sel.here | apply Sel.there))) ?_
      refine O.nil ?_
      refine S.seq (S.seq (S.region rfl ?_))
      refine O.op (.p rfl) (.mv rfl) ?_
      refine O.op (.p rfl) (.len rfl Go.Proofs.Tryz.underlying22 rfl) ?_
      refine O.op (.p rfl) (.gtr rfl rfl) ?_
      refine O.nil ?_
      first | refine S.condD rfl (fun h37 => ?_) (fun h37 => ?_) | refine S.condB rfl (fun h37 => ?_) (fun h37 => ?_)
      · have hb0 : b ≠ [] := fun h => by subst h; simp at h37
        refine S.regionD (L := [0, 1, 2, 3, 4, 5, 7, 8, 6, 9, 10]) FactDisk5.mixed (by kernel_rfl) ?_
        refine .quiet (.p rfl) rfl (fun _ => .mv rfl) ?_
        refine .quiet (.p rfl) rfl (fun _ => .nilCheck rfl) ?_
        refine .quiet (.p rfl) rfl (fun _ => .fieldAddr FactDisk5.fld64x0 rfl) ?_
        refine .quiet (.p rfl) rfl (fun _ => .fieldAddr FactDisk5.fld62x1 rfl) ?_
        refine .quiet (.p rfl) rfl (fun _ => .loadAt FactDisk5.flat60 rfl (hat.drop 1) rfl) ?_
        refine .quiet (.p rfl) rfl (fun _ => .mv rfl) ?_
        refine .quiet (.p rfl) rfl (fun _ => .mv rfl) ?_
        refine .quiet (.p rfl) rfl (fun _ => .toStr Go.Proofs.Tryz.underlying22 Go.Proofs.Tryz.underlying5 Go.Proofs.Tryz.underlying9 rfl (by first | assumption | exact Arr.mono hg (by assumption) | exact Arr.left (by assumption) | exact Arr.left (Arr.mono hg (by assumption)))) ?_
        refine OD.doesL (.p rfl) rfl (by kernel_rfl) (fun _ => .lookupT Go.Proofs.Tryz.underlying60 Go.Proofs.Tryz.underlying9 rfl rfl rfl (by repeat (first | exact Sel.here | apply Sel.there))) ?_
        refine .quiet (.p rfl) rfl (fun _ => .addS rfl rfl (by rw [str_size, str_size]; omega)) ?_
        refine OD.slot 47 (v' := .string (str ((getT m.loose name).getD [] ++ b))) rfl (by exact congrArg _ (str_app _ _)) ?_
        refine OD.mapUpdateT rfl (by kernel_rfl) Go.Proofs.Tryz.underlying60 Go.Proofs.Tryz.underlying9 rfl rfl rfl (by repeat (first | exact Sel.here | apply Sel.there)) ?_
        refine .nil ?_
        refine S.seq (S.region rfl ?_)
        refine O.op (.p rfl) (.as rfl) ?_
        refine O.nil ?_
        simp only [dApp, dW, if_neg hb0] at hR
        refine S.ret Go.Proofs.Tryz.results9 rfl fun w hw => Holds.end_ hR hw ?_
        exact ⟨_, ⟨rfl, rfl⟩, by repeat (first | exact Picks.all | exact Picks.nil | (apply Picks.cons; focus (repeat (first | exact Sel.here | apply Sel.there))) | apply Picks.skip)⟩
      · have hb0 : b = [] := List.length_eq_zero_iff.1 (by omega)
        refine S.skip (S.seq (S.region rfl ?_))
        refine O.op (.p rfl) (.as rfl) ?_
        refine O.nil ?_
        simp only [dApp, dW, if_pos hb0] at hR
        refine S.ret Go.Proofs.Tryz.results9 rfl fun w hw => Holds.end_ hR hw ?_
        exact ⟨_, ⟨rfl, rfl⟩, by repeat (first | exact Picks.all | exact Picks.nil | (apply Picks.cons; focus (repeat (first | exact Sel.here | apply Sel.there))) | apply Picks.skip)⟩
theorem dApp_ok {m : DiskM} {name b : List UInt8} (ok : DOk m) (h : (m.used : Int) + b.length ≤ m.room) (hs : m.used + b.length ≤ 1000000000000) : DOk (dApp m name b) := by
  have hp1 := sumT_put m.safe m.c1 name ((getT m.safe name).getD [])
  have hp2 := sumT_put m.loose m.c2 name ((getT m.loose name).getD [] ++ b)
  rw [List.length_append] at hp2
  have hg1 : ∀ k, getT (putT m.safe m.c1 name ((getT m.safe name).getD [])) k = if k = name then some ((getT m.safe name).getD []) else getT m.safe k := fun k => getT_put _ _ _ _ _
  refine ⟨putT_wf ok.w1 _ _, ?_, fun k hk => ?_, ?_, ?_⟩
  rotate_right
  · simp only [dApp, DiskM.used] at hs ⊢
    split <;> omega
  · simp only [dApp]
    split
    · exact ok.w2
    · exact putT_wf ok.w2 _ _
  · simp only [dApp] at hk ⊢
    rw [hg1]
    split
    · rfl
    · rename_i hkn
      split at hk
      · exact ok.sub k hk
      · rw [getT_put, if_neg hkn] at hk; exact ok.sub k hk
  · simp only [dApp, DiskM.used] at h ⊢
    have := ok.fits
    simp only [DiskM.used] at this
    split <;> omega
/-- a file's first bytes made safe, the others gone -/
def dFirm (m : DiskM) (name : List UInt8) (k : Nat) : DiskM :=
  { m with safe := putT m.safe m.c1 name ((bytesT m.safe m.loose name).take k), c1 := clkT m.safe m.c1 name, loose := delT m.loose name }
def dBytes (m : DiskM) (name : List UInt8) : List UInt8 := bytesT m.safe m.loose name
def dHas (m : DiskM) (name : List UInt8) : Bool := (getT m.safe name).isSome
theorem dFirm_ok {m : DiskM} {name : List UInt8} {k : Nat} (ok : DOk m) : DOk (dFirm m name k) := by
  have hp1 := sumT_put m.safe m.c1 name ((bytesT m.safe m.loose name).take k)
  have hp2 := sumT_del m.loose name
  rw [List.length_take] at hp1
  unfold bytesT at hp1
  rw [List.length_append] at hp1
  refine ⟨putT_wf ok.w1 _ _, delT_wf ok.w2 _, fun j hj => ?_, ?_, ?_⟩
  rotate_right
  · have := ok.small
    simp only [dFirm, DiskM.used, bytesT] at this ⊢
    omega
  · simp only [dFirm] at hj ⊢
    rw [getT_del ok.w2.2.2] at hj
    rw [getT_put]
    split
    · rfl
    · rename_i e
      rw [if_neg e] at hj
      exact ok.sub j hj
  · have := ok.fits
    simp only [dFirm, DiskM.used, bytesT] at this ⊢
    omega
theorem of_g {r : Fr} {d b1 b2 : Nat} {m : DiskM} {name : List UInt8} {f : FuncId} {cap : Array Value} {θ : List SProp} {K : Value → List SProp → Prop} (hat : At r ⟨d, 0, none⟩ (dC b1 b2 m.room)) (hf : callable Go.Proofs.Tryz.prog f = true)
    (con : dHas m name = true → Con Go.Proofs.Tryz.prog f (#[] ++ cap) r (dW b1 b2 m ++ θ) (Ret K)) :
    Con Go.Proofs.Tryz.prog 32 #[.pointer (some ⟨d, 0, none⟩), .string (str name), .func (.func f) #[] cap] r (dW b1 b2 m ++ θ) (Ret fun v η => if dHas m name = true then K v η else v = .int .i64 6 ∧ η = dW b1 b2 m ++ θ) := by
  refine Con.of (n := 26) [.pointer (some ⟨d, 0, none⟩), .string (str name), .func (.func f) #[] cap] rfl Go.Proofs.Tryz.func32 rfl rfl rfl fun g hg R hR => ?_
  replace hat : At g.h ⟨d, 0, none⟩ (dC b1 b2 m.room) := At.mono hg hat
  refine S.seq (S.region rfl ?_)
  refine O.op (.p rfl) (.as rfl) ?_
  refine O.nil ?_
  refine S.seq (S.seq (S.region rfl ?_))
  refine O.op (.p rfl) (.mv rfl) ?_
  refine O.call0 (.p rfl) rfl FactDisk5.ok30 rfl rfl ((made_g hat)) ?_
  rintro v10 _ ⟨rfl, rfl⟩
  try simp only [List.cons_append, List.nil_append, List.append_nil]
  refine O.op (.p rfl) (.not rfl) ?_
  refine O.nil ?_
  refine S.condF rfl ?_
  refine S.skip (S.seq (S.seq (S.region rfl ?_)))
  refine O.op (.p rfl) (.mv rfl) ?_
  refine O.op (.p rfl) (.nilCheck rfl) ?_
  refine O.op (.p rfl) (.fieldAddr FactDisk5.fld64x0 rfl) ?_
  refine O.op (.p rfl) (.fieldAddr FactDisk5.fld62x0 rfl) ?_
  refine O.op (.p rfl) (.loadAt FactDisk5.flat60 rfl hat rfl) ?_
  refine O.op (.p rfl) (.mv rfl) ?_
  refine O.op (.p rfl) (.lookupT Go.Proofs.Tryz.underlying60 Go.Proofs.Tryz.underlying9 rfl rfl rfl (by repeat (first | exact Sel.here | apply Sel.there))) ?_
  refine O.op (.p rfl) (.mv rfl) ?_
  refine O.op (.p rfl) (.extract rfl rfl) ?_
  refine O.op (.p rfl) (.extract rfl rfl) ?_
  refine O.op (.p rfl) (.as rfl) ?_
  refine O.op (.p rfl) (.as rfl) ?_
  refine O.nil ?_
  refine S.seq (S.region rfl ?_)
  refine O.op (.p rfl) (.mv rfl) ?_
  refine O.op (.p rfl) ((by first | exact .notD rfl | exact .not rfl)) ?_
  refine O.nil ?_
  first | refine S.condD rfl (fun h23 => ?_) (fun h23 => ?_) | refine S.condB rfl (fun h23 => ?_) (fun h23 => ?_)
  · have hd : dHas m name = false := by simpa [dHas] using h23
    simp only [hd, Bool.false_eq_true, if_false] at hR
    refine S.seq (S.region rfl ?_)
    refine O.op (.p rfl) (.as rfl) ?_
    refine O.nil ?_
    refine S.ret Go.Proofs.Tryz.results32 rfl fun w hw => Holds.end_ hR hw ?_
    exact ⟨_, ⟨rfl, rfl⟩, by repeat (first | exact Picks.all | exact Picks.nil | (apply Picks.cons; focus (repeat (first | exact Sel.here | apply Sel.there))) | apply Picks.skip)⟩
  · have hd : dHas m name = true := by simpa [dHas] using h23
    simp only [hd, if_true] at hR
    refine S.skip (S.seq (S.region rfl ?_))
    refine O.op (.p rfl) (.mv rfl) ?_
    refine O.callAll (.p rfl) rfl hf rfl rfl ((con hd).sub hg) ?_
    rintro v25 η' hk
    refine O.op (.p rfl) (.as rfl) ?_
    refine O.nil ?_
    refine S.ret Go.Proofs.Tryz.results32 rfl fun w hw => Holds.end_ hR hw ?_
    exact ⟨_, hk, by repeat (first | exact Picks.all | exact Picks.nil | (apply Picks.cons; focus (repeat (first | exact Sel.here | apply Sel.there))) | apply Picks.skip)⟩
theorem sync1_g {r : Fr} {d b1 b2 bd bn : Nat} {m : DiskM} {name : List UInt8} (hat : At r ⟨d, 0, none⟩ (dC b1 b2 m.room)) (hd : At r ⟨bd, 0, none⟩ [.pointer (some ⟨d, 0, none⟩)]) (hn : At r ⟨bn, 0, none⟩ [.string (str name)]) (ok : DOk m) :
    Con Go.Proofs.Tryz.prog 52 #[.pointer (some ⟨bd, 0, none⟩), .pointer (some ⟨bn, 0, none⟩)] r (dW b1 b2 m) (Ret fun v η => v = .int .i64 0 ∧ η = dW b1 b2 (dFirm m name (dBytes m name).length)) := by
  refine Con.of (n := 16) [.pointer (some ⟨bd, 0, none⟩), .pointer (some ⟨bn, 0, none⟩)] rfl Go.Proofs.Tryz.func52 rfl rfl rfl fun g hg R hR => ?_
  replace hat : At g.h ⟨d, 0, none⟩ (dC b1 b2 m.room) := At.mono hg hat
  replace hd : At g.h ⟨bd, 0, none⟩ [.pointer (some ⟨d, 0, none⟩)] := At.mono hg hd
  replace hn : At g.h ⟨bn, 0, none⟩ [.string (str name)] := At.mono hg hn
  have hat2 : At g.h ⟨d, 0, none⟩ [.map (some b1), .map (some b2)] := At.take hat 2
  have hs := ok.le
  refine S.seq (S.region rfl ?_)
  refine O.op (.p rfl) (.as rfl) ?_
  refine O.nil ?_
  refine S.seq (S.regionD (L := [0, 1, 2, 3, 4, 5, 6, 7, 8, 9, 10, 11, 12]) FactDisk5.mixed (by kernel_rfl) ?_)
  refine .quiet (.p rfl) rfl (fun _ => .loadAt FactDisk5.flat24 rfl hd rfl) ?_
  refine .quiet (.p rfl) rfl (fun _ => .nilCheck rfl) ?_
  refine .quiet (.p rfl) rfl (fun _ => .fieldAddr FactDisk5.fld64x0 rfl) ?_
  refine .quiet (.p rfl) rfl (fun _ => .loadAgg Go.Proofs.Tryz.isAgg62 (by kernel_rfl) rfl hat2) ?_
  refine .quiet (.p rfl) rfl (fun _ => .loadAt FactDisk5.flat9 rfl hn rfl) ?_
  refine .quiet (.p rfl) rfl (fun _ => .loadAt FactDisk5.flat24 rfl hd rfl) ?_
  refine .quiet (.p rfl) rfl (fun _ => .nilCheck rfl) ?_
  refine .quiet (.p rfl) rfl (fun _ => .fieldAddr FactDisk5.fld64x0 rfl) ?_
  refine .quiet (.p rfl) rfl (fun _ => .loadAgg Go.Proofs.Tryz.isAgg62 (by kernel_rfl) rfl hat2) ?_
  refine .quiet (.p rfl) rfl (fun _ => .loadAt FactDisk5.flat9 rfl hn rfl) ?_
  refine OD.callSs (.p rfl) (by kernel_rfl) rfl FactDisk5.ok34 rfl rfl (by repeat (first | exact Sels.nil | (apply Sels.cons; focus (repeat (first | exact Sel.here | apply Sel.there))))) (dbytes_c (name := name) hs) ?_
  rintro v13 _ ⟨rfl, rfl⟩
  try simp only [List.cons_append, List.nil_append, List.append_nil]
  refine .quiet (.p rfl) rfl (fun _ => .lenS rfl Go.Proofs.Tryz.underlying9 rfl) ?_
  refine OD.slot 14 (v' := .int .i64 ((dBytes m name).length : Int)) rfl (by rw [str_size]; rfl) ?_
  refine OD.callSs (.p rfl) (by kernel_rfl) rfl FactDisk5.ok53 rfl rfl (by repeat (first | exact Sels.nil | (apply Sels.cons; focus (repeat (first | exact Sel.here | apply Sel.there))))) (firm_c (name := name) (dBytes m name).length hs (Nat.le_refl _)) ?_
  rintro v15 _ ⟨rfl, rfl⟩
  try simp only [List.cons_append, List.nil_append, List.append_nil]
  refine .nil ?_
  refine S.seq (S.region rfl ?_)
  refine O.op (.p rfl) (.as rfl) ?_
  refine O.nil ?_
  refine S.ret Go.Proofs.Tryz.results52 rfl fun w hw => Holds.end_ hR hw ?_
  exact ⟨_, ⟨rfl, rfl⟩, by repeat (first | exact Picks.all | exact Picks.nil | (apply Picks.cons; focus (repeat (first | exact Sel.here | apply Sel.there))) | apply Picks.skip)⟩
/-- what Sync tells, and leaves -/
def dSyncE (m : DiskM) (name : List UInt8) : Int := if dHas m name then 0 else 6
def dSyncM (m : DiskM) (name : List UInt8) : DiskM := if dHas m name then dFirm m name (dBytes m name).length else m
theorem sync_g {r : Fr} {d q1 q2 : Nat} {m : DiskM} {name : List UInt8} (hat : At r ⟨d, 0, none⟩ (dC q1 q2 m.room)) (ok : DOk m) :
    Con Go.Proofs.Tryz.prog 26 #[.pointer (some ⟨d, 0, none⟩), .string (str name)] r (dW q1 q2 m) (Ret fun v η => v = .int .i64 (dSyncE m name) ∧ η = dW q1 q2 (dSyncM m name)) := by
  refine Con.of (n := 9) [.pointer (some ⟨d, 0, none⟩), .string (str name)] rfl Go.Proofs.Tryz.func26 rfl rfl rfl fun g hg R hR => ?_
  replace hat : At g.h ⟨d, 0, none⟩ (dC q1 q2 m.room) := At.mono hg hat
  refine S.seq (S.region rfl ?_)
  refine O.opE (.p rfl) (.box (cs := [_]) rfl rfl) ?_
  rintro _ _ ⟨b2, rfl, rfl⟩
  refine O.opE (.p rfl) (.box (cs := [_]) rfl rfl) ?_
  rintro _ _ ⟨b3, rfl, rfl⟩
  refine O.op (.p rfl) (.as rfl) ?_
  refine O.nil ?_
  refine S.seq ?_
  refine S.frzO (by repeat (first | exact Sel.here | apply Sel.there)) fun g hs hm h3 => ?_
  replace hg := Fr.sub_trans hg hs
  replace hR := melted hR hm
  try replace hat := hat.mono hs
  clear hs hm
  refine S.frzO (by repeat (first | exact Sel.here | apply Sel.there)) fun g hs hm h2 => ?_
  replace hg := Fr.sub_trans hg hs
  replace hR := melted hR hm
  try replace hat := hat.mono hs
  try replace h3 := h3.mono hs
  clear hs hm
  refine S.region rfl ?_
  refine O.op (.p rfl) (.loadAt FactDisk5.flat24 rfl h2 rfl) ?_
  refine O.op (.p rfl) (.loadAt FactDisk5.flat9 rfl h3 rfl) ?_
  refine O.op (.p rfl) (.mkFunc rfl rfl) ?_
  refine O.callAll (.p rfl) rfl FactDisk5.ok32 rfl rfl (of_g (θ := []) (K := fun v η => v = .int .i64 0 ∧ η = dW q1 q2 (dFirm m name (dBytes m name).length)) hat FactDisk5.ok52 fun _ => sync1_g hat h2 h3 ok) ?_
  rintro v8 η' hk
  refine O.op (.p rfl) (.as rfl) ?_
  refine O.nil ?_
  refine S.ret Go.Proofs.Tryz.results26 rfl fun w hw => Holds.end_ hR hw ?_
  have hk2 : v8 = .int .i64 (dSyncE m name) ∧ η' = dW q1 q2 (dSyncM m name) := by unfold dSyncE dSyncM; cases hh : dHas m name <;> rw [hh] at hk <;> simpa using hk
  exact ⟨_, hk2, Picks.all⟩
/-- what Read tells -/
def dRead (m : DiskM) (name : List UInt8) : List UInt8 := if dHas m name then dBytes m name else []
theorem read1_g {r : Fr} {d q1 q2 bd bn bb : Nat} {x : Value} {m : DiskM} {name : List UInt8} (hat : At r ⟨d, 0, none⟩ (dC q1 q2 m.room)) (hd : At r ⟨bd, 0, none⟩ [.pointer (some ⟨d, 0, none⟩)]) (hn : At r ⟨bn, 0, none⟩ [.string (str name)]) (ok : DOk m) :
    Con Go.Proofs.Tryz.prog 33 #[.pointer (some ⟨bd, 0, none⟩), .pointer (some ⟨bn, 0, none⟩), .pointer (some ⟨bb, 0, none⟩)] r (dW q1 q2 m ++ [obj bb 22 [x]])
      (Ret fun v η => ∃ a c, v = .int .i64 0 ∧ η = dW q1 q2 m ++ [obj bb 22 [.slice a (dBytes m name).length c], fun h => Arr Rp.u8 h (.slice a (dBytes m name).length c) (dBytes m name)]) := by
  refine Con.of (n := 11) [.pointer (some ⟨bd, 0, none⟩), .pointer (some ⟨bn, 0, none⟩), .pointer (some ⟨bb, 0, none⟩)] rfl Go.Proofs.Tryz.func33 rfl rfl rfl fun g hg R hR => ?_
  replace hat : At g.h ⟨d, 0, none⟩ (dC q1 q2 m.room) := At.mono hg hat
  replace hd : At g.h ⟨bd, 0, none⟩ [.pointer (some ⟨d, 0, none⟩)] := At.mono hg hd
  replace hn : At g.h ⟨bn, 0, none⟩ [.string (str name)] := At.mono hg hn
  have hat2 : At g.h ⟨d, 0, none⟩ [.map (some q1), .map (some q2)] := At.take hat 2
  have hs := ok.le
  have hg1 := getT_le m.safe name
  have hg2 := getT_le m.loose name
  have hlb : (dBytes m name).length ≤ 9223372036854775807 := by unfold dBytes bytesT; rw [List.length_append]; omega
  refine S.seq (S.region rfl ?_)
  refine O.op (.p rfl) (.as rfl) ?_
  refine O.nil ?_
  refine S.seq (S.regionD (L := [0, 1, 2, 3, 4, 5, 6, 7]) FactDisk5.mixed (by kernel_rfl) ?_)
  refine .quiet (.p rfl) rfl (fun _ => .loadAt FactDisk5.flat24 rfl hd rfl) ?_
  refine .quiet (.p rfl) rfl (fun _ => .nilCheck rfl) ?_
  refine .quiet (.p rfl) rfl (fun _ => .fieldAddr FactDisk5.fld64x0 rfl) ?_
  refine .quiet (.p rfl) rfl (fun _ => .loadAgg Go.Proofs.Tryz.isAgg62 (by kernel_rfl) rfl hat2) ?_
  refine .quiet (.p rfl) rfl (fun _ => .loadAt FactDisk5.flat9 rfl hn rfl) ?_
  refine OD.callSs (.p rfl) (by kernel_rfl) rfl FactDisk5.ok34 rfl rfl (by repeat (first | exact Sels.nil | (apply Sels.cons; focus (repeat (first | exact Sel.here | apply Sel.there))))) (dbytes_c (name := name) hs) ?_
  rintro v9 _ ⟨rfl, rfl⟩
  try simp only [List.cons_append, List.nil_append, List.append_nil]
  refine OD.strBytes (xs := dBytes m name) (.p rfl) (by kernel_rfl) Go.Proofs.Tryz.underlying9 Go.Proofs.Tryz.underlying22 Go.Proofs.Tryz.underlying5 rfl hlb (fun a10 c10 => ?_)
  refine OD.store1 rfl (by kernel_rfl) FactDisk5.flat22 rfl rfl (by first | rfl | assumption) (by repeat (first | exact Sel.here | apply Sel.there)) (by first | (simp; done) | (simp [Value.cells]; done)) ?_
  refine .nil ?_
  refine S.seq (S.region rfl ?_)
  refine O.op (.p rfl) (.as rfl) ?_
  refine O.nil ?_
  refine S.ret Go.Proofs.Tryz.results33 rfl fun w hw => Holds.end_ hR hw ?_
  exact ⟨_, ⟨a10, c10, rfl, rfl⟩, by repeat (first | exact Picks.all | exact Picks.nil | (apply Picks.cons; focus (repeat (first | exact Sel.here | apply Sel.there))) | apply Picks.skip)⟩
theorem read_g {r : Fr} {d q1 q2 : Nat} {m : DiskM} {name : List UInt8} (hat : At r ⟨d, 0, none⟩ (dC q1 q2 m.room)) (ok : DOk m) :
    Con Go.Proofs.Tryz.prog 13 #[.pointer (some ⟨d, 0, none⟩), .string (str name)] r (dW q1 q2 m)
      (Ret fun v η => ∃ a c, v = .tuple #[.slice a (dRead m name).length c, .int .i64 (dSyncE m name)] ∧ η = (fun h => Arr Rp.u8 h (.slice a (dRead m name).length c) (dRead m name)) :: dW q1 q2 m) := by
  refine Con.of (n := 12) [.pointer (some ⟨d, 0, none⟩), .string (str name)] rfl Go.Proofs.Tryz.func13 rfl rfl rfl fun g hg R hR => ?_
  replace hat : At g.h ⟨d, 0, none⟩ (dC q1 q2 m.room) := At.mono hg hat
  unfold dRead dSyncE at hR
  cases hh : dHas m name with
  | true =>
    simp only [hh, if_true] at hR
    refine S.seq (S.region rfl ?_)
    refine O.opE (.p rfl) (.box (cs := [_]) rfl rfl) ?_
    rintro _ _ ⟨b2, rfl, rfl⟩
    refine O.opE (.p rfl) (.box (cs := [_]) rfl rfl) ?_
    rintro _ _ ⟨b3, rfl, rfl⟩
    refine O.opE (.p rfl) (.alloc (cs := [.slice none 0 0]) Go.Proofs.Tryz.zeroValue22 rfl) ?_
    rintro _ _ ⟨b4, rfl, rfl⟩
    refine O.op (.p rfl) (.as rfl) ?_
    refine O.nil ?_
    refine S.seq ?_
    refine S.pk (ζ := [obj b3 9 [.string (str name)], obj b2 24 [.pointer (some ⟨d, 0, none⟩)], MapT q1 m.safe m.c1, MapT q2 m.loose m.c2, obj b4 22 [.slice none 0 0]]) (by repeat (first | exact Picks.all | exact Picks.nil | (apply Picks.cons; focus (repeat (first | exact Sel.here | apply Sel.there))) | apply Picks.skip)) ?_
    refine S.frzO (by repeat (first | exact Sel.here | apply Sel.there)) fun g hs hm h3 => ?_
    replace hg := Fr.sub_trans hg hs
    replace hR := melted hR hm
    try replace hat := hat.mono hs
    clear hs hm
    refine S.frzO (by repeat (first | exact Sel.here | apply Sel.there)) fun g hs hm h2 => ?_
    replace hg := Fr.sub_trans hg hs
    replace hR := melted hR hm
    try replace hat := hat.mono hs
    try replace h3 := h3.mono hs
    clear hs hm
    refine S.region rfl ?_
    refine O.op (.p rfl) (.loadAt FactDisk5.flat24 rfl h2 rfl) ?_
    refine O.op (.p rfl) (.loadAt FactDisk5.flat9 rfl h3 rfl) ?_
    refine O.op (.p rfl) (.mkFunc rfl rfl) ?_
    refine O.callAll (.p rfl) rfl FactDisk5.ok32 rfl rfl (of_g (θ := [obj b4 22 [.slice none 0 0]]) (K := fun v η => ∃ a c, v = .int .i64 0 ∧ η = dW q1 q2 m ++ [obj b4 22 [.slice a (dBytes m name).length c], fun h => Arr Rp.u8 h (.slice a (dBytes m name).length c) (dBytes m name)]) hat FactDisk5.ok33 fun _ => read1_g hat h2 h3 ok) ?_
    rintro v9 η' hk
    replace hk : ∃ a c, v9 = .int .i64 0 ∧ η' = dW q1 q2 m ++ [obj b4 22 [.slice a (dBytes m name).length c], fun h => Arr Rp.u8 h (.slice a (dBytes m name).length c) (dBytes m name)] := by simpa only [hh, if_true] using hk
    obtain ⟨a, c, rfl, rfl⟩ := hk
    simp only [dW, List.cons_append, List.nil_append]
    refine O.op (.p rfl) (.as rfl) ?_
    refine O.nil ?_
    refine S.seq (S.region rfl ?_)
    refine O.op (.p rfl) (.loadObj FactDisk5.flat22 rfl (by repeat (first | exact Sel.here | apply Sel.there)) rfl) ?_
    refine O.op (.p rfl) (.mv rfl) ?_
    refine O.opU rfl (.store1 FactDisk5.flat22 rfl rfl (by first | rfl | assumption) (by repeat (first | exact Sel.here | apply Sel.there)) (by first | (simp; done) | (simp [Value.cells]; done))) ?_
    refine O.op (.p rfl) (.as rfl) ?_
    refine O.nil ?_
    refine S.retM2 (.inr ⟨_, rfl⟩) .nil Go.Proofs.Tryz.results13 (.cell FactDisk5.flat22 rfl (by repeat (first | exact Sel.here | apply Sel.there))) (.tmp rfl) fun w hw => ?_
    exact Holds.end_ hR hw ⟨_, ⟨a, c, rfl, rfl⟩, by repeat (first | exact Picks.all | exact Picks.nil | (apply Picks.cons; focus (repeat (first | exact Sel.here | apply Sel.there))) | apply Picks.skip)⟩
  | false =>
    simp only [hh, Bool.false_eq_true, if_false] at hR
    refine S.seq (S.region rfl ?_)
    refine O.opE (.p rfl) (.box (cs := [_]) rfl rfl) ?_
    rintro _ _ ⟨b2, rfl, rfl⟩
    refine O.opE (.p rfl) (.box (cs := [_]) rfl rfl) ?_
    rintro _ _ ⟨b3, rfl, rfl⟩
    refine O.opE (.p rfl) (.alloc (cs := [.slice none 0 0]) Go.Proofs.Tryz.zeroValue22 rfl) ?_
    rintro _ _ ⟨b4, rfl, rfl⟩
    refine O.op (.p rfl) (.as rfl) ?_
    refine O.nil ?_
    refine S.seq ?_
    refine S.pk (ζ := [obj b3 9 [.string (str name)], obj b2 24 [.pointer (some ⟨d, 0, none⟩)], MapT q1 m.safe m.c1, MapT q2 m.loose m.c2, obj b4 22 [.slice none 0 0]]) (by repeat (first | exact Picks.all | exact Picks.nil | (apply Picks.cons; focus (repeat (first | exact Sel.here | apply Sel.there))) | apply Picks.skip)) ?_
    refine S.frzO (by repeat (first | exact Sel.here | apply Sel.there)) fun g hs hm h3 => ?_
    replace hg := Fr.sub_trans hg hs
    replace hR := melted hR hm
    try replace hat := hat.mono hs
    clear hs hm
    refine S.frzO (by repeat (first | exact Sel.here | apply Sel.there)) fun g hs hm h2 => ?_
    replace hg := Fr.sub_trans hg hs
    replace hR := melted hR hm
    try replace hat := hat.mono hs
    try replace h3 := h3.mono hs
    clear hs hm
    refine S.region rfl ?_
    refine O.op (.p rfl) (.loadAt FactDisk5.flat24 rfl h2 rfl) ?_
    refine O.op (.p rfl) (.loadAt FactDisk5.flat9 rfl h3 rfl) ?_
    refine O.op (.p rfl) (.mkFunc rfl rfl) ?_
    refine O.callAll (.p rfl) rfl FactDisk5.ok32 rfl rfl (of_g (θ := [obj b4 22 [.slice none 0 0]]) (K := fun v η => ∃ a c, v = .int .i64 0 ∧ η = dW q1 q2 m ++ [obj b4 22 [.slice a (dBytes m name).length c], fun h => Arr Rp.u8 h (.slice a (dBytes m name).length c) (dBytes m name)]) hat FactDisk5.ok33 fun _ => read1_g hat h2 h3 ok) ?_
    rintro v9 η' hk
    replace hk : v9 = .int .i64 6 ∧ η' = dW q1 q2 m ++ [obj b4 22 [.slice none 0 0]] := by simpa only [hh, Bool.false_eq_true, if_false] using hk
    obtain ⟨rfl, rfl⟩ := hk
    simp only [dW, List.cons_append, List.nil_append]
    refine O.op (.p rfl) (.as rfl) ?_
    refine O.nil ?_
    refine S.seq (S.region rfl ?_)
    refine O.op (.p rfl) (.loadObj FactDisk5.flat22 rfl (by repeat (first | exact Sel.here | apply Sel.there)) rfl) ?_
    refine O.op (.p rfl) (.mv rfl) ?_
    refine O.opU rfl (.store1 FactDisk5.flat22 rfl rfl (by first | rfl | assumption) (by repeat (first | exact Sel.here | apply Sel.there)) (by first | (simp; done) | (simp [Value.cells]; done))) ?_
    refine O.op (.p rfl) (.as rfl) ?_
    refine O.nil ?_
    refine S.addW (fun h => Arr Rp.u8 h (.slice none 0 0) []) (fun _ => Arr.nil) ?_
    refine S.retM2 (.inr ⟨_, rfl⟩) .nil Go.Proofs.Tryz.results13 (.cell FactDisk5.flat22 rfl (by repeat (first | exact Sel.here | apply Sel.there))) (.tmp rfl) fun w hw => ?_
    exact Holds.end_ hR hw ⟨_, ⟨none, 0, rfl, rfl⟩, by repeat (first | exact Picks.all | exact Picks.nil | (apply Picks.cons; focus (repeat (first | exact Sel.here | apply Sel.there))) | apply Picks.skip)⟩
/-- what Cut tells, and leaves -/
def dCutE (m : DiskM) (name : List UInt8) (n : Int) : Int := if dHas m name then (if n < 0 ∨ ((dBytes m name).length : Int) < n then 2 else 0) else 6
def dCutM (m : DiskM) (name : List UInt8) (n : Int) : DiskM := if dCutE m name n = 0 then dFirm m name n.toNat else m
theorem cut1_g {r : Fr} {d q1 q2 bd bn bm : Nat} {m : DiskM} {name : List UInt8} {z : Int} (hat : At r ⟨d, 0, none⟩ (dC q1 q2 m.room)) (hm : At r ⟨bm, 0, none⟩ [.int .i64 z]) (hd : At r ⟨bd, 0, none⟩ [.pointer (some ⟨d, 0, none⟩)]) (hn : At r ⟨bn, 0, none⟩ [.string (str name)]) (ok : DOk m) (hh : dHas m name = true) :
    Con Go.Proofs.Tryz.prog 86 #[.pointer (some ⟨bm, 0, none⟩), .pointer (some ⟨bd, 0, none⟩), .pointer (some ⟨bn, 0, none⟩)] r (dW q1 q2 m) (Ret fun v η => v = .int .i64 (dCutE m name z) ∧ η = dW q1 q2 (dCutM m name z)) := by
  refine Con.of (n := 24) [.pointer (some ⟨bm, 0, none⟩), .pointer (some ⟨bd, 0, none⟩), .pointer (some ⟨bn, 0, none⟩)] rfl Go.Proofs.Tryz.func86 rfl rfl rfl fun g hg R hR => ?_
  replace hat : At g.h ⟨d, 0, none⟩ (dC q1 q2 m.room) := At.mono hg hat
  replace hm : At g.h ⟨bm, 0, none⟩ [.int .i64 z] := At.mono hg hm
  replace hd : At g.h ⟨bd, 0, none⟩ [.pointer (some ⟨d, 0, none⟩)] := At.mono hg hd
  replace hn : At g.h ⟨bn, 0, none⟩ [.string (str name)] := At.mono hg hn
  have hat2 : At g.h ⟨d, 0, none⟩ [.map (some q1), .map (some q2)] := At.take hat 2
  have hs := ok.le
  refine S.seq (S.region rfl ?_)
  refine O.op (.p rfl) (.as rfl) ?_
  refine O.nil ?_
  refine S.seq (S.seq (S.regionD (L := [0, 1, 2, 3, 4, 5, 6, 7, 8, 9, 10, 11, 12]) FactDisk5.mixed (by kernel_rfl) ?_))
  refine .quiet (.p rfl) rfl (fun _ => .loadAt FactDisk5.flat3 rfl hm rfl) ?_
  refine .quiet (.p rfl) rfl (fun _ => .lss rfl rfl) ?_
  refine .quiet (.p rfl) rfl (fun _ => .mv rfl) ?_
  first | refine OD.caseD 6 rfl (fun h6 => ?_) (fun h6 => ?_) | refine OD.caseB 6 rfl (fun h6 => ?_) (fun h6 => ?_)
  · have e : dCutE m name z = 2 := by unfold dCutE; rw [hh]; simp only [if_true]; rw [if_pos (.inl h6)]
    have e2 : dCutM m name z = m := by unfold dCutM; rw [e]; rfl
    rw [e, e2] at hR
    refine .no rfl rfl rfl rfl ?_
    refine .no rfl rfl rfl rfl ?_
    refine .no rfl rfl rfl rfl ?_
    refine .no rfl rfl rfl rfl ?_
    refine .no rfl rfl rfl rfl ?_
    refine .no rfl rfl rfl rfl ?_
    refine .no rfl rfl rfl rfl ?_
    refine .no rfl rfl rfl rfl ?_
    refine .no rfl rfl rfl rfl ?_
    refine .quiet (.p rfl) rfl (fun _ => .pickT rfl rfl) ?_
    refine .nil ?_
    refine S.condT rfl ?_
    refine S.seq (S.region rfl ?_)
    refine O.op (.p rfl) (.as rfl) ?_
    refine O.nil ?_
    refine S.ret Go.Proofs.Tryz.results86 rfl fun w hw => Holds.end_ hR hw ?_
    exact ⟨_, ⟨rfl, rfl⟩, by repeat (first | exact Picks.all | exact Picks.nil | (apply Picks.cons; focus (repeat (first | exact Sel.here | apply Sel.there))) | apply Picks.skip)⟩
  · refine .quiet (.g rfl rfl) rfl (fun _ => .loadAt FactDisk5.flat3 rfl hm rfl) ?_
    refine .quiet (.g rfl rfl) rfl (fun _ => .loadAt FactDisk5.flat24 rfl hd rfl) ?_
    refine .quiet (.g rfl rfl) rfl (fun _ => .nilCheck rfl) ?_
    refine .quiet (.g rfl rfl) rfl (fun _ => .fieldAddr FactDisk5.fld64x0 rfl) ?_
    refine .quiet (.g rfl rfl) rfl (fun _ => .loadAgg Go.Proofs.Tryz.isAgg62 (by kernel_rfl) rfl hat2) ?_
    refine .quiet (.g rfl rfl) rfl (fun _ => .loadAt FactDisk5.flat9 rfl hn rfl) ?_
    refine OD.callSs (.g rfl rfl) (by kernel_rfl) rfl FactDisk5.ok34 rfl rfl (by repeat (first | exact Sels.nil | (apply Sels.cons; focus (repeat (first | exact Sel.here | apply Sel.there))))) (dbytes_c (name := name) hs) ?_
    rintro v13 _ ⟨rfl, rfl⟩
    try simp only [List.cons_append, List.nil_append, List.append_nil]
    refine .quiet (.g rfl rfl) rfl (fun _ => .lenS rfl Go.Proofs.Tryz.underlying9 rfl) ?_
    refine OD.slot 14 (v' := .int .i64 ((dBytes m name).length : Int)) rfl (by rw [str_size]; rfl) ?_
    refine .quiet (.g rfl rfl) rfl (fun _ => .gtr rfl rfl) ?_
    refine .quiet (.p rfl) rfl (fun _ => .pickF rfl rfl) ?_
    refine .nil ?_
    first | refine S.condD rfl (fun h16 => ?_) (fun h16 => ?_) | refine S.condB rfl (fun h16 => ?_) (fun h16 => ?_)
    · have e : dCutE m name z = 2 := by unfold dCutE; rw [hh]; simp only [if_true]; rw [if_pos (.inr h16)]
      have e2 : dCutM m name z = m := by unfold dCutM; rw [e]; rfl
      rw [e, e2] at hR
      refine S.seq (S.region rfl ?_)
      refine O.op (.p rfl) (.as rfl) ?_
      refine O.nil ?_
      refine S.ret Go.Proofs.Tryz.results86 rfl fun w hw => Holds.end_ hR hw ?_
      exact ⟨_, ⟨rfl, rfl⟩, by repeat (first | exact Picks.all | exact Picks.nil | (apply Picks.cons; focus (repeat (first | exact Sel.here | apply Sel.there))) | apply Picks.skip)⟩
    · have e : dCutE m name z = 0 := by unfold dCutE; rw [hh]; simp only [if_true]; rw [if_neg (by omega)]
      have e2 : dCutM m name z = dFirm m name z.toNat := by unfold dCutM; rw [e]; rfl
      have hzz : z = ((z.toNat : Nat) : Int) := by omega
      rw [e, e2] at hR
      refine S.skip (S.seq (S.regionD (L := [0, 1, 2, 3, 4, 5, 6]) FactDisk5.mixed (by kernel_rfl) ?_))
      refine .quiet (.p rfl) rfl (fun _ => .loadAt FactDisk5.flat24 rfl hd rfl) ?_
      refine .quiet (.p rfl) rfl (fun _ => .nilCheck rfl) ?_
      refine .quiet (.p rfl) rfl (fun _ => .fieldAddr FactDisk5.fld64x0 rfl) ?_
      refine .quiet (.p rfl) rfl (fun _ => .loadAgg Go.Proofs.Tryz.isAgg62 (by kernel_rfl) rfl hat2) ?_
      refine .quiet (.p rfl) rfl (fun _ => .loadAt FactDisk5.flat9 rfl hn rfl) ?_
      refine .quiet (.p rfl) rfl (fun _ => .loadAt FactDisk5.flat3 rfl hm rfl) ?_
      refine OD.slot 22 (v' := .int .i64 ((z.toNat : Nat) : Int)) rfl (by exact congrArg _ hzz) ?_
      refine OD.callSs (.p rfl) (by kernel_rfl) rfl FactDisk5.ok53 rfl rfl (by repeat (first | exact Sels.nil | (apply Sels.cons; focus (repeat (first | exact Sel.here | apply Sel.there))))) (firm_c (name := name) z.toNat hs (by show z.toNat ≤ (dBytes m name).length; omega)) ?_
      rintro v23 _ ⟨rfl, rfl⟩
      try simp only [List.cons_append, List.nil_append, List.append_nil]
      refine .nil ?_
      refine S.seq (S.region rfl ?_)
      refine O.op (.p rfl) (.as rfl) ?_
      refine O.nil ?_
      refine S.ret Go.Proofs.Tryz.results86 rfl fun w hw => Holds.end_ hR hw ?_
      exact ⟨_, ⟨rfl, rfl⟩, by repeat (first | exact Picks.all | exact Picks.nil | (apply Picks.cons; focus (repeat (first | exact Sel.here | apply Sel.there))) | apply Picks.skip)⟩
theorem cut_g {r : Fr} {d q1 q2 : Nat} {m : DiskM} {name : List UInt8} (z : Int) (hat : At r ⟨d, 0, none⟩ (dC q1 q2 m.room)) (ok : DOk m) :
    Con Go.Proofs.Tryz.prog 41 #[.pointer (some ⟨d, 0, none⟩), .string (str name), .int .i64 z] r (dW q1 q2 m) (Ret fun v η => v = .int .i64 (dCutE m name z) ∧ η = dW q1 q2 (dCutM m name z)) := by
  refine Con.of (n := 11) [.pointer (some ⟨d, 0, none⟩), .string (str name), .int .i64 z] rfl Go.Proofs.Tryz.func41 rfl rfl rfl fun g hg R hR => ?_
  replace hat : At g.h ⟨d, 0, none⟩ (dC q1 q2 m.room) := At.mono hg hat
  refine S.seq (S.region rfl ?_)
  refine O.opE (.p rfl) (.box (cs := [_]) rfl rfl) ?_
  rintro _ _ ⟨b3, rfl, rfl⟩
  refine O.opE (.p rfl) (.box (cs := [_]) rfl rfl) ?_
  rintro _ _ ⟨b4, rfl, rfl⟩
  refine O.opE (.p rfl) (.box (cs := [_]) rfl rfl) ?_
  rintro _ _ ⟨b5, rfl, rfl⟩
  refine O.op (.p rfl) (.as rfl) ?_
  refine O.nil ?_
  refine S.seq ?_
  refine S.frzO (by repeat (first | exact Sel.here | apply Sel.there)) fun g hs hm h5 => ?_
  replace hg := Fr.sub_trans hg hs
  replace hR := melted hR hm
  try replace hat := hat.mono hs
  clear hs hm
  refine S.frzO (by repeat (first | exact Sel.here | apply Sel.there)) fun g hs hm h4 => ?_
  replace hg := Fr.sub_trans hg hs
  replace hR := melted hR hm
  try replace hat := hat.mono hs
  try replace h5 := h5.mono hs
  clear hs hm
  refine S.frzO (by repeat (first | exact Sel.here | apply Sel.there)) fun g hs hm h3 => ?_
  replace hg := Fr.sub_trans hg hs
  replace hR := melted hR hm
  try replace hat := hat.mono hs
  try replace h5 := h5.mono hs
  try replace h4 := h4.mono hs
  clear hs hm
  refine S.region rfl ?_
  refine O.op (.p rfl) (.loadAt FactDisk5.flat24 rfl h3 rfl) ?_
  refine O.op (.p rfl) (.loadAt FactDisk5.flat9 rfl h4 rfl) ?_
  refine O.op (.p rfl) (.mkFunc rfl rfl) ?_
  refine O.callAll (.p rfl) rfl FactDisk5.ok32 rfl rfl (of_g (θ := []) (K := fun v η => v = .int .i64 (dCutE m name z) ∧ η = dW q1 q2 (dCutM m name z)) hat FactDisk5.ok86 fun hh => cut1_g hat h5 h3 h4 ok hh) ?_
  rintro v10 η' hk
  refine O.op (.p rfl) (.as rfl) ?_
  refine O.nil ?_
  refine S.ret Go.Proofs.Tryz.results41 rfl fun w hw => Holds.end_ hR hw ?_
  have hk2 : v10 = .int .i64 (dCutE m name z) ∧ η' = dW q1 q2 (dCutM m name z) := by
    cases hh : dHas m name with
    | true => rw [hh] at hk; simpa using hk
    | false =>
      rw [hh] at hk
      have e : dCutE m name z = 6 := by unfold dCutE; rw [hh]; rfl
      have e2 : dCutM m name z = m := by unfold dCutM; rw [e]; rfl
      rw [e, e2]; simpa using hk
  exact ⟨_, hk2, Picks.all⟩

end Go.Proofs.YtkkcpckgnfcncaaGreatDoor
