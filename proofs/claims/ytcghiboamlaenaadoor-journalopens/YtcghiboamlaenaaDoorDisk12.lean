import Derived.Test.YtcghiboamlaenaaDoorDisk11
import Derived.Test.YtcghiboamlaenaaDoorKit12
import Derived.Test.YtcghiboamlaenaaDoorJourn8
open Go Go.Sp
set_option maxRecDepth 100000
attribute [local irreducible] obj Own OwnP
namespace Go.Proofs.YtcghiboamlaenaaDoor
theorem FactDisk12.elem5 : elemIs Go.Proofs.Tryd.prog 5 1 1 [.int .u8 0] := elemIs.mk (by kernel_rfl) rfl
theorem FactDisk12.ok10 : callable Go.Proofs.Tryd.prog 10 = true := by kernel_rfl
theorem FactDisk12.ok11 : callable Go.Proofs.Tryd.prog 11 = true := by kernel_rfl
theorem FactDisk12.ok12 : callable Go.Proofs.Tryd.prog 12 = true := by kernel_rfl
theorem FactDisk12.ok13 : callable Go.Proofs.Tryd.prog 13 = true := by kernel_rfl
theorem FactDisk12.ok14 : callable Go.Proofs.Tryd.prog 14 = true := by kernel_rfl
theorem FactDisk12.ok15 : callable Go.Proofs.Tryd.prog 15 = true := by kernel_rfl
theorem FactDisk12.ok16 : callable Go.Proofs.Tryd.prog 16 = true := by kernel_rfl
theorem FactDisk12.ok17 : callable Go.Proofs.Tryd.prog 17 = true := by kernel_rfl
theorem FactDisk12.ok18 : callable Go.Proofs.Tryd.prog 18 = true := by kernel_rfl
theorem FactDisk12.ok19 : callable Go.Proofs.Tryd.prog 19 = true := by kernel_rfl
theorem FactDisk12.ok20 : callable Go.Proofs.Tryd.prog 20 = true := by kernel_rfl
theorem FactDisk12.ok21 : callable Go.Proofs.Tryd.prog 21 = true := by kernel_rfl
theorem FactDisk12.ok22 : callable Go.Proofs.Tryd.prog 22 = true := by kernel_rfl
theorem FactDisk12.ok7 : callable Go.Proofs.Tryd.prog 7 = true := by kernel_rfl
theorem FactDisk12.ok8 : callable Go.Proofs.Tryd.prog 8 = true := by kernel_rfl
theorem FactDisk12.ok9 : callable Go.Proofs.Tryd.prog 9 = true := by kernel_rfl
theorem FactDisk12.size25 : (Go.Proofs.Tryd.prog.info? 25).map (·.size) = some 2 := by kernel_rfl
theorem FactDisk12.size5 : (Go.Proofs.Tryd.prog.info? 5).map (·.size) = some 1 := by kernel_rfl

/-- what Put tells of entries, one behind the other -/
def moreM (es : List EntT) : List UInt8 := (es.map fun e => putOut e.1 e.2.1).flatten
theorem moreM_snoc (es : List EntT) (e : EntT) : moreM (es ++ [e]) = moreM es ++ putOut e.1 e.2.1 := by simp [moreM]
theorem moreM_len : ∀ es : List EntT, (moreM es).length ≤ 24 * es.length + 8 * entSum es
  | [] => by simp [moreM]
  | e :: es => by
    have ih := moreM_len es
    have h := putOut_len e.1 e.2.1
    have h1 : moreM (e :: es) = putOut e.1 e.2.1 ++ moreM es := by simp [moreM]
    have h2 : entSum (e :: es) = e.2.1.length / 8 + entSum es := by simp [entSum]
    rw [h1, h2, List.length_append, List.length_cons]
    omega
theorem moreM_flat : ∀ {es : List EntT}, firstErr es = 0 → moreM es = flatE es
  | [], _ => rfl
  | e :: es, h => by
    have h0 := firstErr_zero.1 h
    have ih := moreM_flat (es := es) (firstErr_zero.2 fun x hx => h0 x (by simp [hx]))
    have h1 : moreM (e :: es) = putOut e.1 e.2.1 ++ moreM es := by simp [moreM]
    rw [h1, ih, flatE_cons]
    simp [putOut, h0 e (by simp)]
theorem entSum_take' (es : List EntT) (i : Nat) : entSum (es.take i) ≤ entSum es := by
  have : entSum es = entSum (es.take i) + entSum (es.drop i) := by
    conv => lhs; rw [← List.take_append_drop i es]
    simp only [entSum, List.map_append, List.sum_append]
  omega
theorem entSum_mem : ∀ {es : List EntT} {x : EntT}, x ∈ es → x.2.1.length / 8 ≤ entSum es
  | e :: es, x, h => by
    have h2 : entSum (e :: es) = e.2.1.length / 8 + entSum es := by simp [entSum]
    rcases List.mem_cons.1 h with rfl | h
    · omega
    · have := entSum_mem h; omega
/-- a file of such bytes, all of them safe; no other file is there -/
structure LI (R0 : Int) (n : List UInt8) (m : DiskM) (b : List UInt8) : Prop where
  ok : DOk m
  room : m.room = R0
  has : dHas m n = true
  loose : getT m.loose n = none
  bytes : dBytes m n = b
theorem LI.crash {R0 keep : Int} {n b : List UInt8} {m : DiskM} {s' l' : SS} {c1' c2' : Nat} (c : LI R0 n m b) (h : CrashR m.safe m.loose s' l' c1' c2' keep) : LI R0 n ⟨s', c1', l', c2', m.room⟩ b := by
  have hs := c.has
  unfold dHas at hs
  obtain ⟨x, hx⟩ := Option.isSome_iff_exists.1 hs
  have hb := c.bytes
  unfold dBytes bytesT at hb
  rw [hx, c.loose] at hb
  refine ⟨⟨h.w1, h.w2, fun k hk => ?_, ?_, c.ok.small⟩, c.room, ?_, h.loose n, ?_⟩
  · simp only at hk; rw [h.loose k] at hk; cases hk
  · have := h.fits; have := c.ok.fits; simp only [DiskM.used] at *; omega
  · unfold dHas; simp only; rw [h.safe n, hx]; rfl
  · unfold dBytes bytesT; simp only; rw [h.safe n, h.loose n, hx, c.loose, ← hb]; simp [crashB, kk]
theorem LI.read {R0 : Int} {n b : List UInt8} {m : DiskM} (c : LI R0 n m b) : dRead m n = b ∧ dSyncE m n = 0 := by
  unfold dRead dSyncE; rw [c.has]; exact ⟨c.bytes, rfl⟩
theorem LI.append {R0 : Int} {n b : List UInt8} {m : DiskM} {es : List Ent} (c : LI R0 n m b) (h : jAppE m n es = 0) : LI R0 n (jAppM m n es) (b ++ flatE es) := by
  unfold jAppE at h
  split at h
  · rename_i h0
    have e : jAppM m n es = dSyncM (dApp m n (flatE es)) n := by
      unfold jAppM; rw [if_pos h0]; unfold putM; rw [if_pos h, dAppM_eq h]
    have ok1 : DOk (dApp m n (flatE es)) := dApp_ok c.ok (dAppE_fit h)
    obtain ⟨x, y, z⟩ := dSync_loose ok1 n (dHas_app m n _)
    rw [e]
    exact ⟨dSyncM_ok ok1, by rw [dSyncM_room]; exact c.room, y, x, by rw [z, dBytes_app, c.bytes]⟩
  · rename_i h0; exact absurd h h0
theorem LI.fail {R0 : Int} {n b : List UInt8} {m : DiskM} {es : List Ent} (c : LI R0 n m b) (h : jAppE m n es ≠ 0) : LI R0 n (jAppM m n es) b := by
  have e : jAppM m n es = m := by
    unfold jAppE at h; unfold jAppM
    split
    · rename_i h0; rw [if_pos h0] at h; unfold putM; rw [if_neg h]
    · rfl
  rw [e]; exact c
/-- no other file -/
def Only (m : DiskM) (n : List UInt8) : Prop := ∀ k, k ≠ n → getT m.safe k = none ∧ getT m.loose k = none
theorem sumT_only {m : SS} {c : Nat} {n : List UInt8} (hw : WfT m c) (h : ∀ k, k ≠ n → getT m k = none) : sumT m = ((getT m n).getD []).length := by
  have h1 := sumT_del m n
  have h2 : delT m n = [] := by
    cases hd : delT m n with
    | nil => rfl
    | cons x l =>
      have h3 : getT (delT m n) x.1 = none := by
        rw [getT_del hw.2.2]
        split
        · rfl
        · rename_i e; exact h _ e
      rw [hd] at h3
      simp [getT] at h3
  rw [h2] at h1
  have : sumT [] = 0 := rfl
  omega
theorem Only.used {m : DiskM} {n : List UInt8} (ok : DOk m) (h : Only m n) : m.used = (dBytes m n).length := by
  unfold DiskM.used dBytes bytesT
  rw [sumT_only ok.w1 fun k hk => (h k hk).1, sumT_only ok.w2 fun k hk => (h k hk).2, List.length_append]
theorem Only.app {m : DiskM} {n b : List UInt8} (h : Only m n) : Only (dApp m n b) n := fun k hk => by
  unfold dApp; simp only
  rw [getT_put, if_neg hk]
  refine ⟨(h k hk).1, ?_⟩
  split
  · exact (h k hk).2
  · rw [getT_put, if_neg hk]; exact (h k hk).2
theorem Only.firm {m : DiskM} {n : List UInt8} {j : Nat} (ok : DOk m) (h : Only m n) : Only (dFirm m n j) n := fun k hk => by
  unfold dFirm; simp only
  rw [getT_put, if_neg hk, getT_del ok.w2.2.2, if_neg hk]
  exact h k hk
theorem Only.open {m : DiskM} {n : List UInt8} (ok : DOk m) (he : dAppE m n [] = 0) (h : Only m n) : Only (openM m n) n := by
  have ok1 : DOk (dApp m n []) := dApp_ok ok (dAppE_fit he)
  have e : dCutM (dApp m n []) n ((openS m n).2.1 : Int) = dFirm (dApp m n []) n (openS m n).2.1 := by
    unfold dCutM; rw [if_pos open_cut]; rfl
  unfold openM
  rw [e]
  unfold dSyncM
  rw [if_pos (dHas_firm _ _ _)]
  exact (h.app.firm ok1).firm (dFirm_ok ok1)
/-- a disk with one file, and how it is opened -/
theorem opens_start {R0 : Int} {n b : List UInt8} (h0 : (b.length : Int) ≤ R0) (h1 : R0 ≤ 1000000000000) (hn : nameOk n = true) :
    dAppE ⟨[], 0, [], 0, R0⟩ n b = 0 ∧ DOk (dApp ⟨[], 0, [], 0, R0⟩ n b) ∧ dAppE (dApp ⟨[], 0, [], 0, R0⟩ n b) n [] = 0 ∧ openS (dApp ⟨[], 0, [], 0, R0⟩ n b) n = scanM b ∧ LI R0 n (openM (dApp ⟨[], 0, [], 0, R0⟩ n b) n) (b.take (scanM b).2.1) ∧ Only (openM (dApp ⟨[], 0, [], 0, R0⟩ n b) n) n := by
  have ok := ok0 R0 (by omega) h1
  have he : dAppE ⟨[], 0, [], 0, R0⟩ n b = 0 := by unfold dAppE; rw [if_pos hn, if_neg]; simp [DiskM.used, sumT]; omega
  have ok1 : DOk (dApp ⟨[], 0, [], 0, R0⟩ n b) := dApp_ok ok (dAppE_fit he)
  have he1 := appE_zero ok1 hn
  have hb : dBytes (dApp ⟨[], 0, [], 0, R0⟩ n b) n = b := by rw [dBytes_app]; rfl
  have hs : openS (dApp ⟨[], 0, [], 0, R0⟩ n b) n = scanM b := by unfold openS; rw [hb]
  obtain ⟨o1, o2, o3, o4⟩ := openM_bytes ok1 he1
  refine ⟨he, ok1, he1, hs, ⟨o1, by rw [openM_room]; rfl, o2, o3, by rw [o4, hs, hb]⟩, Only.open ok1 he1 (Only.app fun k _ => ⟨rfl, rfl⟩)⟩
theorem jApp_fit {R0 : Int} {n b : List UInt8} {m : DiskM} {es : List Ent} (c : LI R0 n m b) (ho : Only m n) (hn : nameOk n = true) (h0 : firstErr es = 0) : jAppE m n es = if R0 < (b.length : Int) + ((flatE es).length : Int) then 8 else 0 := by
  unfold jAppE dAppE
  rw [if_pos h0, if_pos hn, ho.used c.ok, c.bytes, c.room]
theorem jopens_c {r : Fr} {va vb : Value} {bs : List UInt8} {es : List EntT} {spare : Int} (ha : Arr Rp.u8 r va bs) (hb : Arr EntRp r vb es) (hle : es.length ≤ 140737488355328) :
    Con Go.Proofs.Tryd.prog 4 #[va, vb, .int .i64 spare] r [] (Ret fun v η => v = .bool true ∧ η = []) := by
  refine Con.of (n := 154) [va, vb, .int .i64 spare] rfl Go.Proofs.Tryd.func4 rfl rfl rfl fun g hg R hR => ?_
  have ha := ha.mono hg
  have hb := hb.mono hg
  obtain ⟨a1, c1, rfl⟩ := ha.shape
  obtain ⟨a2, c2, rfl⟩ := hb.shape
  refine S.seq (S.region rfl ?_)
  refine O.op (.p rfl) (.as rfl) ?_
  refine O.nil ?_
  refine S.seq (S.seq (S.region rfl ?_))
  refine O.op (.p rfl) (.mv rfl) ?_
  refine O.op (.p rfl) (.len rfl Go.Proofs.Tryd.underlying23 rfl) ?_
  refine O.op (.p rfl) (.gtr rfl rfl) ?_
  refine O.op (.p rfl) (.mv rfl) ?_
  first | refine O.caseD 27 rfl (fun h27 => ?_) (fun h27 => ?_) | refine O.caseB 27 rfl (fun h27 => ?_) (fun h27 => ?_)
  · refine O.opN rfl rfl rfl ?_
    refine O.opN rfl rfl rfl ?_
    refine O.opN rfl rfl rfl ?_
    refine O.op (.p rfl) (.pickT rfl rfl) ?_
    refine O.nil ?_
    refine S.condT rfl ?_
    refine S.seq (S.region rfl ?_)
    refine O.call0 (.p rfl) rfl FactDisk12.ok11 rfl rfl (awake_c) ?_
    rintro v32 _ ⟨rfl, rfl⟩
    try simp only [List.cons_append, List.nil_append, List.append_nil]
    refine O.op (.p rfl) (.as rfl) ?_
    refine O.nil ?_
    refine S.ret Go.Proofs.Tryd.results4 rfl fun w hw => Holds.end_ hR hw ?_
    exact ⟨_, ⟨rfl, rfl⟩, by repeat (first | exact Picks.all | exact Picks.nil | (apply Picks.cons; focus (repeat (first | exact Sel.here | apply Sel.there))) | apply Picks.skip)⟩
  · refine O.op (.g rfl rfl) (.mv rfl) ?_
    refine O.call0 (.g rfl rfl) rfl FactDisk12.ok12 rfl rfl (entriesOf_b hb (by omega) hle) ?_
    rintro v29 _ ⟨z29, rfl, hz29, hy29, rfl⟩
    try simp only [List.cons_append, List.nil_append, List.append_nil]
    refine O.op (.g rfl rfl) (.gtr rfl rfl) ?_
    refine O.op (.p rfl) (.pickF rfl rfl) ?_
    refine O.nil ?_
    first | refine S.condD rfl (fun h31 => ?_) (fun h31 => ?_) | refine S.condB rfl (fun h31 => ?_) (fun h31 => ?_)
    · refine S.seq (S.region rfl ?_)
      refine O.call0 (.p rfl) rfl FactDisk12.ok11 rfl rfl (awake_c) ?_
      rintro v32 _ ⟨rfl, rfl⟩
      try simp only [List.cons_append, List.nil_append, List.append_nil]
      refine O.op (.p rfl) (.as rfl) ?_
      refine O.nil ?_
      refine S.ret Go.Proofs.Tryd.results4 rfl fun w hw => Holds.end_ hR hw ?_
      exact ⟨_, ⟨rfl, rfl⟩, by repeat (first | exact Picks.all | exact Picks.nil | (apply Picks.cons; focus (repeat (first | exact Sel.here | apply Sel.there))) | apply Picks.skip)⟩
    · have hz := hz29 (by omega)
      have hsz : es.length + entSum es ≤ 3000 := by omega
      have hbl : bs.length ≤ 24000 := by omega
      have hq : ∀ x ∈ es, x.2.1.length ≤ 100000000000000 := fun x hx => by have := entSum_mem hx; omega
      have hpk := pick_lt' spare 300 (by omega)
      obtain ⟨R0, hR0⟩ : ∃ R0 : Int, R0 = (bs.length : Int) + pick spare 300 := ⟨_, rfl⟩
      have hr0 : 0 ≤ R0 := by omega
      have okz := ok0 R0 hr0 (by omega)
      obtain ⟨hA0, okA, hE0, hS0, li, ho⟩ := opens_start (R0 := R0) (n := jname) (b := bs) (by omega) (by omega) jname_ok
      have hsl := (scanM_len bs).2
      cases hsp : (scanM bs).2.2 with
      | true =>
        refine S.skip (S.seq (S.region rfl ?_))
        refine O.op (.p rfl) (.mv rfl) ?_
        refine O.op (.p rfl) (.len rfl Go.Proofs.Tryd.underlying23 rfl) ?_
        refine O.op (.p rfl) (.mv rfl) ?_
        refine O.call0 (.p rfl) rfl FactDisk12.ok13 rfl rfl (Pick_c _ _ (by first | assumption | (constructor <;> omega))) ?_
        rintro v36 _ ⟨rfl, rfl⟩
        try simp only [List.cons_append, List.nil_append, List.append_nil]
        refine O.op (.p rfl) (.add rfl rfl (IntWalk.i64_in _ (by omega))) ?_
        refine O.slot 37 (v' := .int .i64 R0) rfl (by exact congrArg _ (by omega)) ?_
        refine O.op (.p rfl) (.as rfl) ?_
        refine O.nil ?_
        refine S.seq (S.region rfl ?_)
        refine O.op (.p rfl) (.mv rfl) ?_
        refine O.call0 (.p rfl) rfl FactDisk12.ok9 rfl rfl (newR_c hr0) ?_
        rintro v39 _ ⟨d39, q139, q239, rfl, rfl⟩
        try simp only [List.cons_append, List.nil_append, List.append_nil]
        refine O.frzO (by repeat (first | exact Sel.here | apply Sel.there)) fun g hs hm hat => ?_
        replace hg := Fr.sub_trans hg hs
        replace hR := melted hR hm
        try replace ha := ha.mono hs
        try replace hb := hb.mono hs
        clear hs hm
        refine O.op (.p rfl) (.as rfl) ?_
        refine O.nil ?_
        refine S.seq (S.seq (S.region rfl ?_))
        refine O.op (.p rfl) (.mv rfl) ?_
        refine O.op (.p rfl) (.mv rfl) ?_
        refine O.callSs (.p rfl) rfl FactDisk12.ok10 rfl rfl (by repeat (first | exact Sels.nil | (apply Sels.cons; focus (repeat (first | exact Sel.here | apply Sel.there))))) (append_g (m := ⟨[], 0, [], 0, R0⟩) (name := jname) hat okz ha (by decide) (by omega)) ?_
        rintro v42 _ ⟨rfl, rfl⟩
        try simp only [List.cons_append, List.nil_append, List.append_nil]
        rw [hA0, dAppM_eq hA0]
        refine O.op (.p rfl) (.neq rfl rfl) ?_
        refine O.nil ?_
        refine S.condF rfl ?_
        refine S.skip (S.seq (S.region rfl ?_))
        refine O.op (.p rfl) (.mv rfl) ?_
        refine O.callSs (.p rfl) rfl FactDisk12.ok8 rfl rfl (by repeat (first | exact Sels.nil | (apply Sels.cons; focus (repeat (first | exact Sel.here | apply Sel.there))))) (open_spoilt (m := dApp ⟨[], 0, [], 0, R0⟩ jname bs) (name := jname) hat okA (by decide) hE0 (by rw [hS0, hsp])) ?_
        rintro v46 _ ⟨rfl, rfl⟩
        try simp only [List.cons_append, List.nil_append, List.append_nil]
        refine O.op (.p rfl) (.mv rfl) ?_
        refine O.op (.p rfl) (.extract rfl rfl) ?_
        refine O.op (.p rfl) (.extract rfl rfl) ?_
        refine O.op (.p rfl) (.extract rfl rfl) ?_
        refine O.op (.p rfl) (.as rfl) ?_
        refine O.op (.p rfl) (.as rfl) ?_
        refine O.op (.p rfl) (.as rfl) ?_
        refine O.nil ?_
        refine S.seq (S.region rfl ?_)
        refine O.op (.p rfl) (.mv rfl) ?_
        refine O.call0 (.p rfl) rfl FactDisk12.ok14 rfl rfl (refScan_c ha (by omega)) ?_
        rintro v52 _ ⟨a52, c52, rfl, rfl⟩
        try simp only [List.cons_append, List.nil_append, List.append_nil]
        rw [hsp]
        refine O.op (.p rfl) (.mv rfl) ?_
        refine O.op (.p rfl) (.extract rfl rfl) ?_
        refine O.op (.p rfl) (.extract rfl rfl) ?_
        refine O.op (.p rfl) (.extract rfl rfl) ?_
        refine O.op (.p rfl) (.as rfl) ?_
        refine O.op (.p rfl) (.as rfl) ?_
        refine O.op (.p rfl) (.as rfl) ?_
        refine O.nil ?_
        refine S.seq (S.seq (S.region rfl ?_))
        refine O.op (.p rfl) (.mv rfl) ?_
        refine O.nil ?_
        refine S.condT rfl ?_
        refine S.seq (S.region rfl ?_)
        refine O.op (.p rfl) (.mv rfl) ?_
        refine O.op (.p rfl) (.eqlP Go.Proofs.Tryd.underlying26 rfl rfl) ?_
        refine O.slot 58 (v' := .bool true) rfl (congrArg Value.bool (by rfl)) ?_
        refine O.op (.p rfl) (.mv rfl) ?_
        refine O.op (.g rfl rfl) (.mv rfl) ?_
        refine O.op (.g rfl rfl) (.len rfl Go.Proofs.Tryd.underlying35 rfl) ?_
        refine O.op (.g rfl rfl) (.eql rfl rfl) ?_
        refine O.slot 62 (v' := .bool true) rfl (congrArg Value.bool (by rfl)) ?_
        refine O.op (.p rfl) (.pickT rfl rfl) ?_
        refine O.op (.p rfl) (.mv rfl) ?_
        refine O.op (.g rfl rfl) (.mv rfl) ?_
        refine O.op (.g rfl rfl) (.eql rfl rfl) ?_
        refine O.slot 66 (v' := .bool true) rfl (congrArg Value.bool (by rfl)) ?_
        refine O.op (.p rfl) (.pickT rfl rfl) ?_
        refine O.op (.p rfl) (.mv rfl) ?_
        refine O.call0 (.g rfl rfl) rfl FactDisk12.ok11 rfl rfl (awake_c) ?_
        rintro v69 _ ⟨rfl, rfl⟩
        try simp only [List.cons_append, List.nil_append, List.append_nil]
        refine O.op (.p rfl) (.pickT rfl rfl) ?_
        refine O.op (.p rfl) (.as rfl) ?_
        refine O.nil ?_
        refine S.ret Go.Proofs.Tryd.results4 rfl fun w hw => Holds.end_ hR hw ?_
        exact ⟨_, ⟨rfl, rfl⟩, by repeat (first | exact Picks.all | exact Picks.nil | (apply Picks.cons; focus (repeat (first | exact Sel.here | apply Sel.there))) | apply Picks.skip)⟩
      | false =>
        refine S.skip (S.seq (S.region rfl ?_))
        refine O.op (.p rfl) (.mv rfl) ?_
        refine O.op (.p rfl) (.len rfl Go.Proofs.Tryd.underlying23 rfl) ?_
        refine O.op (.p rfl) (.mv rfl) ?_
        refine O.call0 (.p rfl) rfl FactDisk12.ok13 rfl rfl (Pick_c _ _ (by first | assumption | (constructor <;> omega))) ?_
        rintro v36 _ ⟨rfl, rfl⟩
        try simp only [List.cons_append, List.nil_append, List.append_nil]
        refine O.op (.p rfl) (.add rfl rfl (IntWalk.i64_in _ (by omega))) ?_
        refine O.slot 37 (v' := .int .i64 R0) rfl (by exact congrArg _ (by omega)) ?_
        refine O.op (.p rfl) (.as rfl) ?_
        refine O.nil ?_
        refine S.seq (S.region rfl ?_)
        refine O.op (.p rfl) (.mv rfl) ?_
        refine O.call0 (.p rfl) rfl FactDisk12.ok9 rfl rfl (newR_c hr0) ?_
        rintro v39 _ ⟨d39, q139, q239, rfl, rfl⟩
        try simp only [List.cons_append, List.nil_append, List.append_nil]
        refine O.frzO (by repeat (first | exact Sel.here | apply Sel.there)) fun g hs hm hat => ?_
        replace hg := Fr.sub_trans hg hs
        replace hR := melted hR hm
        try replace ha := ha.mono hs
        try replace hb := hb.mono hs
        clear hs hm
        refine O.op (.p rfl) (.as rfl) ?_
        refine O.nil ?_
        refine S.seq (S.seq (S.region rfl ?_))
        refine O.op (.p rfl) (.mv rfl) ?_
        refine O.op (.p rfl) (.mv rfl) ?_
        refine O.callSs (.p rfl) rfl FactDisk12.ok10 rfl rfl (by repeat (first | exact Sels.nil | (apply Sels.cons; focus (repeat (first | exact Sel.here | apply Sel.there))))) (append_g (m := ⟨[], 0, [], 0, R0⟩) (name := jname) hat okz ha (by decide) (by omega)) ?_
        rintro v42 _ ⟨rfl, rfl⟩
        try simp only [List.cons_append, List.nil_append, List.append_nil]
        rw [hA0, dAppM_eq hA0]
        refine O.op (.p rfl) (.neq rfl rfl) ?_
        refine O.nil ?_
        refine S.condF rfl ?_
        refine S.skip (S.seq (S.region rfl ?_))
        refine O.op (.p rfl) (.mv rfl) ?_
        refine O.callSs (.p rfl) rfl FactDisk12.ok8 rfl rfl (by repeat (first | exact Sels.nil | (apply Sels.cons; focus (repeat (first | exact Sel.here | apply Sel.there))))) (open_ok (m := dApp ⟨[], 0, [], 0, R0⟩ jname bs) (name := jname) hat okA (by decide) hE0 (by rw [hS0, hsp])) ?_
        rintro v46 _ ⟨j46, a46, c46, rfl, rfl⟩
        try simp only [List.cons_append, List.nil_append, List.append_nil]
        rw [hS0]
        refine O.op (.p rfl) (.mv rfl) ?_
        refine O.op (.p rfl) (.extract rfl rfl) ?_
        refine O.op (.p rfl) (.extract rfl rfl) ?_
        refine O.op (.p rfl) (.extract rfl rfl) ?_
        refine O.op (.p rfl) (.as rfl) ?_
        refine O.op (.p rfl) (.as rfl) ?_
        refine O.op (.p rfl) (.as rfl) ?_
        refine O.nil ?_
        refine S.seq (S.region rfl ?_)
        refine O.op (.p rfl) (.mv rfl) ?_
        refine O.call0 (.p rfl) rfl FactDisk12.ok14 rfl rfl (refScan_c ha (by omega)) ?_
        rintro v52 _ ⟨a52, c52, rfl, rfl⟩
        try simp only [List.cons_append, List.nil_append, List.append_nil]
        rw [hsp]
        refine O.op (.p rfl) (.mv rfl) ?_
        refine O.op (.p rfl) (.extract rfl rfl) ?_
        refine O.op (.p rfl) (.extract rfl rfl) ?_
        refine O.op (.p rfl) (.extract rfl rfl) ?_
        refine O.op (.p rfl) (.as rfl) ?_
        refine O.op (.p rfl) (.as rfl) ?_
        refine O.op (.p rfl) (.as rfl) ?_
        refine O.nil ?_
        refine S.seq (S.seq (S.region rfl ?_))
        refine O.op (.p rfl) (.mv rfl) ?_
        refine O.nil ?_
        refine S.condF rfl ?_
        refine S.skip (S.seq (S.seq (S.region rfl ?_)))
        refine O.op (.p rfl) (.mv rfl) ?_
        refine O.op (.p rfl) (.eqlP Go.Proofs.Tryd.underlying26 rfl rfl) ?_
        refine O.slot 72 (v' := .bool false) rfl (congrArg Value.bool (by rfl)) ?_
        refine O.op (.p rfl) (.mv rfl) ?_
        refine O.op (.g rfl rfl) (.mv rfl) ?_
        refine O.op (.g rfl rfl) (.neq rfl rfl) ?_
        refine O.slot 75 (v' := .bool false) rfl (congrArg Value.bool (by rfl)) ?_
        refine O.op (.p rfl) (.pickF rfl rfl) ?_
        refine O.op (.p rfl) (.mv rfl) ?_
        refine O.op (.g rfl rfl) (.mv rfl) ?_
        refine O.op (.g rfl rfl) (.mv rfl) ?_
        refine O.callB (.g rfl rfl) rfl FactDisk12.ok15 rfl rfl (bs := [ListP EntG 25 (.slice a46 (scanM bs).1.length c46) (scanM bs).1, ListP EntG 25 (.slice a52 (scanM bs).1.length c52) (scanM bs).1]) (by repeat (first | exact Sels.nil | (apply Sels.cons; focus (repeat (first | exact Sel.here | apply Sel.there))))) (fun m' hm hd => sameEntries_c ((Sat.listH hm).right hd) ((Sat.list1 hm.tail).right hd)) ?_
        rintro v80 _ ⟨rfl, rfl⟩
        try simp only [List.cons_append, List.nil_append, List.append_nil]
        refine O.slot 80 (v' := .bool true) rfl (congrArg Value.bool (by simp)) ?_
        refine O.op (.g rfl rfl) (.not rfl) ?_
        refine O.op (.p rfl) (.pickF rfl rfl) ?_
        refine O.nil ?_
        refine S.condF rfl ?_
        refine S.skip (S.seq (S.region rfl ?_))
        refine O.op (.p rfl) (.mv rfl) ?_
        refine O.op (.p rfl) (.mv rfl) ?_
        refine O.sliceTo (b := (scanM bs).2.1) (.p rfl) Go.Proofs.Tryd.underlying23 FactDisk12.size5 rfl rfl (by assumption) (by first | omega | (simp; done) | (simp; omega) | decide) (by first | omega | (simp; done) | (simp; omega) | decide) (fun u85 ha85 => ?_)
        obtain ⟨a85, c85, rfl⟩ := ha85.shape
        refine O.call0 (.p rfl) rfl FactDisk12.ok16 rfl rfl (CopyBytes_c (by first | assumption | exact Arr.mono hg (by assumption) | exact Arr.left (by assumption) | exact Arr.left (Arr.mono hg (by assumption))) (by first | omega | (simp; done) | (simp; omega) | decide)) ?_
        rintro v86 _ ⟨a86, c86, rfl, rfl⟩
        try simp only [List.cons_append, List.nil_append, List.append_nil]
        refine O.op (.p rfl) (.as rfl) ?_
        refine O.nil ?_
        refine S.seq (S.region rfl ?_)
        refine O.op (.p rfl) (.as rfl) ?_
        refine O.nil ?_
        refine S.seq (S.region rfl ?_)
        refine O.op (.p rfl) (.as rfl) ?_
        refine O.nil ?_
        refine S.seq (S.seq (S.region rfl ?_))
        refine O.op (.p rfl) (.as rfl) ?_
        refine O.nil ?_
        refine S.block ?_
        generalize openM (dApp ⟨[], 0, [], 0, R0⟩ jname bs) jname = m3 at li ho ⊢
        have hat3 : At g.h ⟨d39, 0, none⟩ (dC q139 q239 m3.room) := by rw [li.room]; exact hat
        generalize hbt : bs.take (scanM bs).2.1 = bt at li ⊢
        have hbtl : bt.length = (scanM bs).2.1 := by rw [← hbt, List.length_take]; omega
        refine S.addNil (T := Rp.u8) (e := 5) ?_
        refine S.pk (ζ := [OwnP Rp.u8 5 (.slice none 0 0) [], OwnP Rp.u8 5 (.slice a86 bt.length c86) bt, obj j46 31 [.pointer (some ⟨d39, 0, none⟩), .string (str jname)], MapT q139 m3.safe m3.c1, MapT q239 m3.loose m3.c2]) (by repeat (first | exact Picks.all | exact Picks.nil | (apply Picks.cons; focus (repeat (first | exact Sel.here | apply Sel.there))) | apply Picks.skip)) ?_
        refine S.loopK2 (ι := Nat) (κ := Option Addr × Nat) (fun i s => i ≤ es.length) (fun i s => [(18, .int .i64 (i : Int)), (16, .slice s.1 (moreM (es.take i)).length s.2), (17, .int .i64 (firstErr (es.take i)))]) [(1, _), (7, _), (8, _), (9, _), (13, _), (15, _)] (fun i s => [OwnP Rp.u8 5 (.slice s.1 (moreM (es.take i)).length s.2) (moreM (es.take i)), OwnP Rp.u8 5 (.slice a86 bt.length c86) bt, obj j46 31 [.pointer (some ⟨d39, 0, none⟩), .string (str jname)], MapT q139 m3.safe m3.c1, MapT q239 m3.loose m3.c2]) (fun i s => es.length - i) (0) ((none, 0)) (by exact Nat.zero_le _) (.cons rfl (.cons rfl (.cons rfl (.nil)))) (.cons rfl (.cons rfl (.cons rfl (.cons rfl (.cons rfl (.cons rfl (.nil))))))) rfl fun i s hx ih => ?_
        have hm1 := meltRefl (g := g)
        have hml := moreM_len (es.take i)
        have hesi := entSum_take' es i
        have hti : (es.take i).length ≤ es.length := by rw [List.length_take]; omega
        refine S.seq (S.seq (S.region rfl ?_))
        refine O.op (.p rfl) (.mv rfl) ?_
        refine O.op (.p rfl) (.mv rfl) ?_
        refine O.op (.p rfl) (.len rfl Go.Proofs.Tryd.underlying35 rfl) ?_
        refine O.op (.p rfl) (.lss rfl rfl) ?_
        refine O.op (.p rfl) (.mv rfl) ?_
        first | refine O.caseD 91 rfl (fun h91 => ?_) (fun h91 => ?_) | refine O.caseB 91 rfl (fun h91 => ?_) (fun h91 => ?_)
        · refine O.op (.g rfl rfl) (.mv rfl) ?_
          refine O.op (.g rfl rfl) (.eql rfl rfl) ?_
          refine O.op (.p rfl) (.pickT rfl rfl) ?_
          refine O.nil ?_
          first | refine S.condD rfl (fun h94 => ?_) (fun h94 => ?_) | refine S.condB rfl (fun h94 => ?_) (fun h94 => ?_)
          · have hi : i < es.length := by omega
            have hfz : firstErr (es.take i) = 0 := by omega
            have h20 : es.take (i + 1) = es.take i ++ [es[i]] := List.take_succ_eq_append_getElem hi
            have hms := moreM_snoc (es.take i) es[i]
            have hsn := firstErr_snoc (es.take i) es[i]
            rw [if_pos hfz, ← h20] at hsn
            rw [← h20] at hms
            have hpo := putOut_len es[i].1 es[i].2.1
            have hpq := entSum_mem (List.getElem_mem hi)
            refine S.skip (S.seq (S.block (S.seq (S.region rfl ?_))))
            refine O.op (.p rfl) (.mv rfl) ?_
            refine O.op (.p rfl) (.mv rfl) ?_
            refine O.idx' (.p rfl) Go.Proofs.Tryd.underlying35 FactDisk12.size25 rfl rfl rfl (by first | assumption | exact Arr.mono hg (by assumption) | exact Arr.left (by assumption) | exact Arr.left (Arr.mono hg (by assumption))) (by decide) (by first | omega | (simp; done) | (simp; omega) | decide) (fun p100 cs100 hp100 hr100 => ?_)
            obtain ⟨v100, rfl, ha100⟩ := EntRp.open hr100; obtain ⟨a100, c100, rfl⟩ := ha100.shape
            refine O.op (.p rfl) (.loadAgg Go.Proofs.Tryd.isAgg25 (by kernel_rfl) rfl hp100) ?_
            refine O.call0 (.p rfl) rfl FactDisk12.ok17 rfl rfl (refPut_c (by first | assumption | exact Arr.mono hg (by assumption) | exact Arr.left (by assumption) | exact Arr.left (Arr.mono hg (by assumption)))) ?_
            rintro v102 _ ⟨a102, c102, rfl, rfl⟩
            try simp only [List.cons_append, List.nil_append, List.append_nil]
            refine O.op (.p rfl) (.mv rfl) ?_
            refine O.op (.p rfl) (.extract rfl rfl) ?_
            refine O.op (.p rfl) (.extract rfl rfl) ?_
            refine O.op (.p rfl) (.as rfl) ?_
            refine O.op (.p rfl) (.as rfl) ?_
            refine O.nil ?_
            refine S.seq (S.region rfl ?_)
            refine O.op (.p rfl) (.mv rfl) ?_
            refine O.op (.p rfl) (.mv rfl) ?_
            refine O.opE (.p rfl) (.appendO (T := Rp.u8) Go.Proofs.Tryd.underlying23 FactDisk12.elem5 (by decide) rfl rfl (by repeat (first | exact Sel.here | apply Sel.there)) (by repeat (first | exact Sel.here | apply Sel.there)) (by first | omega | (simp; done) | (simp; omega) | decide) (by first | omega | (simp; done) | (simp; omega) | decide)) ?_
            rintro v107 _ ⟨a107, c107, rfl, rfl⟩
            refine O.op (.p rfl) (.as rfl) ?_
            refine O.nil ?_
            refine S.region rfl ?_
            refine O.op (.p rfl) (.mv rfl) ?_
            refine O.op (.p rfl) (.as rfl) ?_
            refine O.nil ?_
            refine S.inBlock (S.region rfl ?_)
            refine O.op (.p rfl) (.mv rfl) ?_
            refine O.op (.p rfl) (.add rfl rfl (IntWalk.i64_in _ (by omega))) ?_
            refine O.op (.p rfl) (.as rfl) ?_
            refine O.nil ?_
            rw [← List.length_append, ← hms, ← hsn]
            refine S.pk ?_ (S.weaken ?_ (ih (i + 1) ((a107, c107)) (by exact (by omega)) (by omega)))
            · repeat (first | exact Picks.all | exact Picks.nil | (apply Picks.cons; focus (repeat (first | exact Sel.here | apply Sel.there))) | apply Picks.skip)
            repeat (first | exact Sub.nil | refine Sub.cons rfl ?_)
          · clear ih
            have hfe : firstErr es = firstErr (es.take i) := firstErr_take (by omega)
            have hje : jAppE m3 jname es = firstErr (es.take i) := by unfold jAppE; rw [if_neg (by omega), hfe]
            have li4 := li.fail (es := es) (by omega)
            refine S.exit rfl ?_
            refine S.seq (S.seq (S.region rfl ?_))
            refine O.op (.p rfl) (.mv rfl) ?_
            refine O.op (.p rfl) (.eql rfl rfl) ?_
            refine O.slot 110 (v' := .bool false) rfl (congrArg Value.bool (by exact decide_eq_false (by omega))) ?_
            refine O.op (.p rfl) (.mv rfl) ?_
            refine O.opN rfl rfl rfl ?_
            refine O.opN rfl rfl rfl ?_
            refine O.opN rfl rfl rfl ?_
            refine O.opN rfl rfl rfl ?_
            refine O.opN rfl rfl rfl ?_
            refine O.opN rfl rfl rfl ?_
            refine O.op (.p rfl) (.pickF rfl rfl) ?_
            refine O.nil ?_
            refine S.condF rfl ?_
            refine S.skip (S.seq (S.seq (S.region rfl ?_)))
            refine O.op (.p rfl) (.mv rfl) ?_
            refine O.op (.p rfl) (.eql rfl rfl) ?_
            refine O.slot 120 (v' := .bool false) rfl (congrArg Value.bool (by exact decide_eq_false (by omega))) ?_
            refine O.nil ?_
            refine S.condF rfl ?_
            refine S.skip (S.seq (S.region rfl ?_))
            refine O.op (.p rfl) (.mv rfl) ?_
            refine O.call0 (.p rfl) rfl FactDisk12.ok18 rfl rfl (lentEntries_r hb hq (by omega)) ?_
            rintro v125 _ ⟨a125, c125, rfl, rfl⟩
            try simp only [List.cons_append, List.nil_append, List.append_nil]
            refine O.op (.p rfl) (.as rfl) ?_
            refine O.nil ?_
            refine S.seq (S.seq ?_)
            refine S.frz (A := LentL (.slice a125 es.length c125) es) (by repeat (first | exact Sel.here | apply Sel.there)) fun g hs hm ⟨_, x', s'⟩ => ?_
            have hin := LentL.mono s' x'
            clear x' s'
            replace hg := Fr.sub_trans hg hs
            replace hR := melted hR hm
            try replace ha := ha.mono hs
            try replace hb := hb.mono hs
            try replace hat := hat.mono hs
            try replace hat3 := hat3.mono hs
            replace hm1 := meltTrans hm1 hm
            clear hs hm
            refine S.region rfl ?_
            refine O.op (.p rfl) (.mv rfl) ?_
            refine O.op (.p rfl) (.mv rfl) ?_
            refine O.callSs (.p rfl) rfl FactDisk12.ok7 rfl rfl (by repeat (first | exact Sels.nil | (apply Sels.cons; focus (repeat (first | exact Sel.here | apply Sel.there))))) (jappend_w (name := jname) (m := m3) hat3 li.ok hin.arr (by decide) (by omega)) ?_
            rintro v128 _ ⟨rfl, rfl⟩
            try simp only [List.cons_append, List.nil_append, List.append_nil]
            refine O.op (.p rfl) (.mv rfl) ?_
            refine O.op (.p rfl) (.neq rfl rfl) ?_
            refine O.slot 130 (v' := .bool false) rfl (congrArg Value.bool (by rw [hje]; simp)) ?_
            refine O.op (.p rfl) (.mv rfl) ?_
            refine O.op (.g rfl rfl) (.mv rfl) ?_
            refine O.op (.g rfl rfl) (.mv rfl) ?_
            refine O.call0 (.g rfl rfl) rfl FactDisk12.ok19 rfl rfl (keptEntries_r hin hb hq (by omega)) ?_
            rintro v134 _ ⟨rfl, rfl⟩
            try simp only [List.cons_append, List.nil_append, List.append_nil]
            refine O.op (.g rfl rfl) (.not rfl) ?_
            refine O.op (.p rfl) (.pickF rfl rfl) ?_
            refine O.nil ?_
            refine S.condF rfl ?_
            refine S.skip (S.seq (S.region rfl ?_))
            refine O.op (.p rfl) (.mv rfl) ?_
            have hat4 : At g.h ⟨d39, 0, none⟩ (dC q139 q239 (jAppM m3 jname es).room) := by rw [jAppM_room]; exact hat3
            refine O.callSs (.p rfl) rfl FactDisk12.ok20 rfl rfl (by repeat (first | exact Sels.nil | (apply Sels.cons; focus (repeat (first | exact Sel.here | apply Sel.there))))) (crash_g (keep := 0) hat4 li4.ok.w1 li4.ok.w2 li4.ok.sub li4.ok.le) ?_
            rintro v138 _ ⟨s', c1', l', c2', hcr, rfl, rfl⟩
            try simp only [List.cons_append, List.nil_append, List.append_nil]
            refine O.nil ?_
            refine S.seq ?_
            have li5 := li4.crash hcr
            obtain ⟨hrd, hre⟩ := li5.read
            refine S.region rfl ?_
            refine O.op (.p rfl) (.mv rfl) ?_
            refine O.callSs (.p rfl) rfl FactDisk12.ok21 rfl rfl (by repeat (first | exact Sels.nil | (apply Sels.cons; focus (repeat (first | exact Sel.here | apply Sel.there))))) (read_g (m := ⟨s', c1', l', c2', (jAppM m3 jname es).room⟩) (name := jname) hat4 li5.ok) ?_
            rintro v141 _ ⟨a141, c141, rfl, rfl⟩
            try simp only [List.cons_append, List.nil_append, List.append_nil]
            rw [hrd, hre]
            refine O.frzW Sel.here fun g hs hm ha141 => ?_
            replace hg := Fr.sub_trans hg hs
            replace hR := melted hR hm
            try replace ha := ha.mono hs
            try replace hb := hb.mono hs
            try replace hat := hat.mono hs
            try replace hat3 := hat3.mono hs
            try replace hin := hin.mono hs
            replace hm1 := meltTrans hm1 hm
            clear hs hm
            refine O.op (.p rfl) (.mv rfl) ?_
            refine O.op (.p rfl) (.extract rfl rfl) ?_
            refine O.op (.p rfl) (.extract rfl rfl) ?_
            refine O.op (.p rfl) (.as rfl) ?_
            refine O.op (.p rfl) (.as rfl) ?_
            refine O.nil ?_
            refine S.seq (S.region rfl ?_)
            refine O.op (.p rfl) (.mv rfl) ?_
            refine O.op (.p rfl) (.eql rfl rfl) ?_
            refine O.slot 145 (v' := .bool true) rfl (congrArg Value.bool (by rfl)) ?_
            refine O.op (.p rfl) (.mv rfl) ?_
            refine O.op (.g rfl rfl) (.mv rfl) ?_
            refine O.op (.g rfl rfl) (.mv rfl) ?_
            refine O.callB (.g rfl rfl) rfl FactDisk12.ok22 rfl rfl (bs := [OwnP Rp.u8 5 (.slice a86 bt.length c86) bt]) (by repeat (first | exact Sels.nil | (apply Sels.cons; focus (repeat (first | exact Sel.here | apply Sel.there))))) (fun m' hm hd => SameBytes_c ha141.left (hm.arr.right hd)) ?_
            rintro v149 _ ⟨rfl, rfl⟩
            try simp only [List.cons_append, List.nil_append, List.append_nil]
            refine O.slot 149 (v' := .bool true) rfl (congrArg Value.bool (by simp)) ?_
            refine O.op (.p rfl) (.pickT rfl rfl) ?_
            refine O.op (.p rfl) (.mv rfl) ?_
            refine O.call0 (.g rfl rfl) rfl FactDisk12.ok11 rfl rfl (awake_c) ?_
            rintro v152 _ ⟨rfl, rfl⟩
            try simp only [List.cons_append, List.nil_append, List.append_nil]
            refine O.op (.p rfl) (.pickT rfl rfl) ?_
            refine O.op (.p rfl) (.as rfl) ?_
            refine O.nil ?_
            refine S.ret Go.Proofs.Tryd.results4 rfl fun w hw => Holds.end_ hR hw ?_
            exact ⟨_, ⟨rfl, rfl⟩, by repeat (first | exact Picks.all | exact Picks.nil | (apply Picks.cons; focus (repeat (first | exact Sel.here | apply Sel.there))) | apply Picks.skip)⟩
        · clear ih
          have hi : i = es.length := by omega
          subst hi
          rw [List.take_length] at hml ⊢
          refine O.opN rfl rfl rfl ?_
          refine O.opN rfl rfl rfl ?_
          refine O.op (.p rfl) (.pickF rfl rfl) ?_
          refine O.nil ?_
          refine S.condF rfl ?_
          refine S.exit rfl ?_
          refine S.seq (S.seq (S.region rfl ?_))
          refine O.op (.p rfl) (.mv rfl) ?_
          refine O.op (.p rfl) (.eql rfl rfl) ?_
          refine O.op (.p rfl) (.mv rfl) ?_
          first | refine O.caseD 111 rfl (fun h111 => ?_) (fun h111 => ?_) | refine O.caseB 111 rfl (fun h111 => ?_) (fun h111 => ?_)
          · have hf0 : firstErr es = 0 := by omega
            have hmf := moreM_flat hf0
            have hjf := jApp_fit li ho jname_ok hf0
            rw [hmf] at hml ⊢
            refine O.op (.g rfl rfl) (.mv rfl) ?_
            refine O.op (.g rfl rfl) (.mv rfl) ?_
            refine O.op (.g rfl rfl) (.len rfl Go.Proofs.Tryd.underlying23 rfl) ?_
            refine O.op (.g rfl rfl) (.add rfl rfl (IntWalk.i64_in _ (by omega))) ?_
            refine O.op (.g rfl rfl) (.mv rfl) ?_
            refine O.op (.g rfl rfl) (.gtr rfl rfl) ?_
            refine O.op (.p rfl) (.pickT rfl rfl) ?_
            refine O.nil ?_
            first | refine S.condD rfl (fun h118 => ?_) (fun h118 => ?_) | refine S.condB rfl (fun h118 => ?_) (fun h118 => ?_)
            · have hje : jAppE m3 jname es = 8 := by rw [hjf, if_pos (by omega)]
              have li4 := li.fail (es := es) (by omega)
              refine S.region rfl ?_
              refine O.op (.p rfl) (.as rfl) ?_
              refine O.nil ?_
              refine S.seq (S.seq (S.region rfl ?_))
              refine O.op (.p rfl) (.mv rfl) ?_
              refine O.op (.p rfl) (.eql rfl rfl) ?_
              refine O.nil ?_
              refine S.condF rfl ?_
              refine S.skip (S.seq (S.region rfl ?_))
              refine O.op (.p rfl) (.mv rfl) ?_
              refine O.call0 (.p rfl) rfl FactDisk12.ok18 rfl rfl (lentEntries_r hb hq (by omega)) ?_
              rintro v125 _ ⟨a125, c125, rfl, rfl⟩
              try simp only [List.cons_append, List.nil_append, List.append_nil]
              refine O.op (.p rfl) (.as rfl) ?_
              refine O.nil ?_
              refine S.seq (S.seq ?_)
              refine S.frz (A := LentL (.slice a125 es.length c125) es) (by repeat (first | exact Sel.here | apply Sel.there)) fun g hs hm ⟨_, x', s'⟩ => ?_
              have hin := LentL.mono s' x'
              clear x' s'
              replace hg := Fr.sub_trans hg hs
              replace hR := melted hR hm
              try replace ha := ha.mono hs
              try replace hb := hb.mono hs
              try replace hat := hat.mono hs
              try replace hat3 := hat3.mono hs
              replace hm1 := meltTrans hm1 hm
              clear hs hm
              refine S.region rfl ?_
              refine O.op (.p rfl) (.mv rfl) ?_
              refine O.op (.p rfl) (.mv rfl) ?_
              refine O.callSs (.p rfl) rfl FactDisk12.ok7 rfl rfl (by repeat (first | exact Sels.nil | (apply Sels.cons; focus (repeat (first | exact Sel.here | apply Sel.there))))) (jappend_w (name := jname) (m := m3) hat3 li.ok hin.arr (by decide) (by omega)) ?_
              rintro v128 _ ⟨rfl, rfl⟩
              try simp only [List.cons_append, List.nil_append, List.append_nil]
              refine O.op (.p rfl) (.mv rfl) ?_
              refine O.op (.p rfl) (.neq rfl rfl) ?_
              refine O.slot 130 (v' := .bool false) rfl (congrArg Value.bool (by rw [hje]; rfl)) ?_
              refine O.op (.p rfl) (.mv rfl) ?_
              refine O.op (.g rfl rfl) (.mv rfl) ?_
              refine O.op (.g rfl rfl) (.mv rfl) ?_
              refine O.call0 (.g rfl rfl) rfl FactDisk12.ok19 rfl rfl (keptEntries_r hin hb hq (by omega)) ?_
              rintro v134 _ ⟨rfl, rfl⟩
              try simp only [List.cons_append, List.nil_append, List.append_nil]
              refine O.op (.g rfl rfl) (.not rfl) ?_
              refine O.op (.p rfl) (.pickF rfl rfl) ?_
              refine O.nil ?_
              refine S.condF rfl ?_
              refine S.skip (S.seq (S.region rfl ?_))
              refine O.op (.p rfl) (.mv rfl) ?_
              have hat4 : At g.h ⟨d39, 0, none⟩ (dC q139 q239 (jAppM m3 jname es).room) := by rw [jAppM_room]; exact hat3
              refine O.callSs (.p rfl) rfl FactDisk12.ok20 rfl rfl (by repeat (first | exact Sels.nil | (apply Sels.cons; focus (repeat (first | exact Sel.here | apply Sel.there))))) (crash_g (keep := 0) hat4 li4.ok.w1 li4.ok.w2 li4.ok.sub li4.ok.le) ?_
              rintro v138 _ ⟨s', c1', l', c2', hcr, rfl, rfl⟩
              try simp only [List.cons_append, List.nil_append, List.append_nil]
              refine O.nil ?_
              refine S.seq ?_
              have li5 := li4.crash hcr
              obtain ⟨hrd, hre⟩ := li5.read
              refine S.region rfl ?_
              refine O.op (.p rfl) (.mv rfl) ?_
              refine O.callSs (.p rfl) rfl FactDisk12.ok21 rfl rfl (by repeat (first | exact Sels.nil | (apply Sels.cons; focus (repeat (first | exact Sel.here | apply Sel.there))))) (read_g (m := ⟨s', c1', l', c2', (jAppM m3 jname es).room⟩) (name := jname) hat4 li5.ok) ?_
              rintro v141 _ ⟨a141, c141, rfl, rfl⟩
              try simp only [List.cons_append, List.nil_append, List.append_nil]
              rw [hrd, hre]
              refine O.frzW Sel.here fun g hs hm ha141 => ?_
              replace hg := Fr.sub_trans hg hs
              replace hR := melted hR hm
              try replace ha := ha.mono hs
              try replace hb := hb.mono hs
              try replace hat := hat.mono hs
              try replace hat3 := hat3.mono hs
              try replace hin := hin.mono hs
              replace hm1 := meltTrans hm1 hm
              clear hs hm
              refine O.op (.p rfl) (.mv rfl) ?_
              refine O.op (.p rfl) (.extract rfl rfl) ?_
              refine O.op (.p rfl) (.extract rfl rfl) ?_
              refine O.op (.p rfl) (.as rfl) ?_
              refine O.op (.p rfl) (.as rfl) ?_
              refine O.nil ?_
              refine S.seq (S.region rfl ?_)
              refine O.op (.p rfl) (.mv rfl) ?_
              refine O.op (.p rfl) (.eql rfl rfl) ?_
              refine O.slot 145 (v' := .bool true) rfl (congrArg Value.bool (by rfl)) ?_
              refine O.op (.p rfl) (.mv rfl) ?_
              refine O.op (.g rfl rfl) (.mv rfl) ?_
              refine O.op (.g rfl rfl) (.mv rfl) ?_
              refine O.callB (.g rfl rfl) rfl FactDisk12.ok22 rfl rfl (bs := [OwnP Rp.u8 5 (.slice a86 bt.length c86) bt]) (by repeat (first | exact Sels.nil | (apply Sels.cons; focus (repeat (first | exact Sel.here | apply Sel.there))))) (fun m' hm hd => SameBytes_c ha141.left (hm.arr.right hd)) ?_
              rintro v149 _ ⟨rfl, rfl⟩
              try simp only [List.cons_append, List.nil_append, List.append_nil]
              refine O.slot 149 (v' := .bool true) rfl (congrArg Value.bool (by simp)) ?_
              refine O.op (.p rfl) (.pickT rfl rfl) ?_
              refine O.op (.p rfl) (.mv rfl) ?_
              refine O.call0 (.g rfl rfl) rfl FactDisk12.ok11 rfl rfl (awake_c) ?_
              rintro v152 _ ⟨rfl, rfl⟩
              try simp only [List.cons_append, List.nil_append, List.append_nil]
              refine O.op (.p rfl) (.pickT rfl rfl) ?_
              refine O.op (.p rfl) (.as rfl) ?_
              refine O.nil ?_
              refine S.ret Go.Proofs.Tryd.results4 rfl fun w hw => Holds.end_ hR hw ?_
              exact ⟨_, ⟨rfl, rfl⟩, by repeat (first | exact Picks.all | exact Picks.nil | (apply Picks.cons; focus (repeat (first | exact Sel.here | apply Sel.there))) | apply Picks.skip)⟩
            · have hje : jAppE m3 jname es = 0 := by rw [hjf, if_neg (by omega)]
              have li4 := li.append hje
              rw [hf0, ← hbtl]
              refine S.skip (S.seq (S.seq (S.region rfl ?_)))
              refine O.op (.p rfl) (.mv rfl) ?_
              refine O.op (.p rfl) (.eql rfl rfl) ?_
              refine O.nil ?_
              refine S.condT rfl ?_
              refine S.region rfl ?_
              refine O.op (.p rfl) (.mv rfl) ?_
              refine O.op (.p rfl) (.mv rfl) ?_
              refine O.opE (.p rfl) (.appendO (T := Rp.u8) Go.Proofs.Tryd.underlying23 FactDisk12.elem5 (by decide) rfl rfl (by repeat (first | exact Sel.here | apply Sel.there)) (by repeat (first | exact Sel.here | apply Sel.there)) (by first | omega | (simp; done) | (simp; omega) | decide) (by first | omega | (simp; done) | (simp; omega) | decide)) ?_
              rintro v123 _ ⟨a123, c123, rfl, rfl⟩
              refine O.op (.p rfl) (.as rfl) ?_
              refine O.nil ?_
              refine S.seq (S.region rfl ?_)
              refine O.op (.p rfl) (.mv rfl) ?_
              refine O.call0 (.p rfl) rfl FactDisk12.ok18 rfl rfl (lentEntries_r hb hq (by omega)) ?_
              rintro v125 _ ⟨a125, c125, rfl, rfl⟩
              try simp only [List.cons_append, List.nil_append, List.append_nil]
              refine O.op (.p rfl) (.as rfl) ?_
              refine O.nil ?_
              refine S.seq (S.seq ?_)
              refine S.frz (A := LentL (.slice a125 es.length c125) es) (by repeat (first | exact Sel.here | apply Sel.there)) fun g hs hm ⟨_, x', s'⟩ => ?_
              have hin := LentL.mono s' x'
              clear x' s'
              replace hg := Fr.sub_trans hg hs
              replace hR := melted hR hm
              try replace ha := ha.mono hs
              try replace hb := hb.mono hs
              try replace hat := hat.mono hs
              try replace hat3 := hat3.mono hs
              replace hm1 := meltTrans hm1 hm
              clear hs hm
              refine S.region rfl ?_
              refine O.op (.p rfl) (.mv rfl) ?_
              refine O.op (.p rfl) (.mv rfl) ?_
              refine O.callSs (.p rfl) rfl FactDisk12.ok7 rfl rfl (by repeat (first | exact Sels.nil | (apply Sels.cons; focus (repeat (first | exact Sel.here | apply Sel.there))))) (jappend_w (name := jname) (m := m3) hat3 li.ok hin.arr (by decide) (by omega)) ?_
              rintro v128 _ ⟨rfl, rfl⟩
              try simp only [List.cons_append, List.nil_append, List.append_nil]
              refine O.op (.p rfl) (.mv rfl) ?_
              refine O.op (.p rfl) (.neq rfl rfl) ?_
              refine O.slot 130 (v' := .bool false) rfl (congrArg Value.bool (by rw [hje]; rfl)) ?_
              refine O.op (.p rfl) (.mv rfl) ?_
              refine O.op (.g rfl rfl) (.mv rfl) ?_
              refine O.op (.g rfl rfl) (.mv rfl) ?_
              refine O.call0 (.g rfl rfl) rfl FactDisk12.ok19 rfl rfl (keptEntries_r hin hb hq (by omega)) ?_
              rintro v134 _ ⟨rfl, rfl⟩
              try simp only [List.cons_append, List.nil_append, List.append_nil]
              refine O.op (.g rfl rfl) (.not rfl) ?_
              refine O.op (.p rfl) (.pickF rfl rfl) ?_
              refine O.nil ?_
              refine S.condF rfl ?_
              refine S.skip (S.seq (S.region rfl ?_))
              refine O.op (.p rfl) (.mv rfl) ?_
              have hat4 : At g.h ⟨d39, 0, none⟩ (dC q139 q239 (jAppM m3 jname es).room) := by rw [jAppM_room]; exact hat3
              refine O.callSs (.p rfl) rfl FactDisk12.ok20 rfl rfl (by repeat (first | exact Sels.nil | (apply Sels.cons; focus (repeat (first | exact Sel.here | apply Sel.there))))) (crash_g (keep := 0) hat4 li4.ok.w1 li4.ok.w2 li4.ok.sub li4.ok.le) ?_
              rintro v138 _ ⟨s', c1', l', c2', hcr, rfl, rfl⟩
              try simp only [List.cons_append, List.nil_append, List.append_nil]
              refine O.nil ?_
              refine S.seq ?_
              have li5 := li4.crash hcr
              obtain ⟨hrd, hre⟩ := li5.read
              refine S.region rfl ?_
              refine O.op (.p rfl) (.mv rfl) ?_
              refine O.callSs (.p rfl) rfl FactDisk12.ok21 rfl rfl (by repeat (first | exact Sels.nil | (apply Sels.cons; focus (repeat (first | exact Sel.here | apply Sel.there))))) (read_g (m := ⟨s', c1', l', c2', (jAppM m3 jname es).room⟩) (name := jname) hat4 li5.ok) ?_
              rintro v141 _ ⟨a141, c141, rfl, rfl⟩
              try simp only [List.cons_append, List.nil_append, List.append_nil]
              rw [hrd, hre]
              refine O.frzW Sel.here fun g hs hm ha141 => ?_
              replace hg := Fr.sub_trans hg hs
              replace hR := melted hR hm
              try replace ha := ha.mono hs
              try replace hb := hb.mono hs
              try replace hat := hat.mono hs
              try replace hat3 := hat3.mono hs
              try replace hin := hin.mono hs
              replace hm1 := meltTrans hm1 hm
              clear hs hm
              refine O.op (.p rfl) (.mv rfl) ?_
              refine O.op (.p rfl) (.extract rfl rfl) ?_
              refine O.op (.p rfl) (.extract rfl rfl) ?_
              refine O.op (.p rfl) (.as rfl) ?_
              refine O.op (.p rfl) (.as rfl) ?_
              refine O.nil ?_
              refine S.seq (S.region rfl ?_)
              refine O.op (.p rfl) (.mv rfl) ?_
              refine O.op (.p rfl) (.eql rfl rfl) ?_
              refine O.slot 145 (v' := .bool true) rfl (congrArg Value.bool (by rfl)) ?_
              refine O.op (.p rfl) (.mv rfl) ?_
              refine O.op (.g rfl rfl) (.mv rfl) ?_
              refine O.op (.g rfl rfl) (.mv rfl) ?_
              refine O.callB (.g rfl rfl) rfl FactDisk12.ok22 rfl rfl (bs := [OwnP Rp.u8 5 (.slice a123 (bt.length + (flatE es).length) c123) (bt ++ flatE es)]) (by repeat (first | exact Sels.nil | (apply Sels.cons; focus (repeat (first | exact Sel.here | apply Sel.there))))) (fun m' hm hd => SameBytes_c ha141.left (hm.arr.right hd)) ?_
              rintro v149 _ ⟨rfl, rfl⟩
              try simp only [List.cons_append, List.nil_append, List.append_nil]
              refine O.slot 149 (v' := .bool true) rfl (congrArg Value.bool (by simp)) ?_
              refine O.op (.p rfl) (.pickT rfl rfl) ?_
              refine O.op (.p rfl) (.mv rfl) ?_
              refine O.call0 (.g rfl rfl) rfl FactDisk12.ok11 rfl rfl (awake_c) ?_
              rintro v152 _ ⟨rfl, rfl⟩
              try simp only [List.cons_append, List.nil_append, List.append_nil]
              refine O.op (.p rfl) (.pickT rfl rfl) ?_
              refine O.op (.p rfl) (.as rfl) ?_
              refine O.nil ?_
              refine S.ret Go.Proofs.Tryd.results4 rfl fun w hw => Holds.end_ hR hw ?_
              exact ⟨_, ⟨rfl, rfl⟩, by repeat (first | exact Picks.all | exact Picks.nil | (apply Picks.cons; focus (repeat (first | exact Sel.here | apply Sel.there))) | apply Picks.skip)⟩
          · have hje : jAppE m3 jname es = firstErr es := by unfold jAppE; rw [if_neg (by omega)]
            have li4 := li.fail (es := es) (by omega)
            refine O.opN rfl rfl rfl ?_
            refine O.opN rfl rfl rfl ?_
            refine O.opN rfl rfl rfl ?_
            refine O.opN rfl rfl rfl ?_
            refine O.opN rfl rfl rfl ?_
            refine O.opN rfl rfl rfl ?_
            refine O.op (.p rfl) (.pickF rfl rfl) ?_
            refine O.nil ?_
            refine S.condF rfl ?_
            refine S.skip (S.seq (S.seq (S.region rfl ?_)))
            refine O.op (.p rfl) (.mv rfl) ?_
            refine O.op (.p rfl) (.eql rfl rfl) ?_
            refine O.slot 120 (v' := .bool false) rfl (congrArg Value.bool (by exact decide_eq_false (by omega))) ?_
            refine O.nil ?_
            refine S.condF rfl ?_
            refine S.skip (S.seq (S.region rfl ?_))
            refine O.op (.p rfl) (.mv rfl) ?_
            refine O.call0 (.p rfl) rfl FactDisk12.ok18 rfl rfl (lentEntries_r hb hq (by omega)) ?_
            rintro v125 _ ⟨a125, c125, rfl, rfl⟩
            try simp only [List.cons_append, List.nil_append, List.append_nil]
            refine O.op (.p rfl) (.as rfl) ?_
            refine O.nil ?_
            refine S.seq (S.seq ?_)
            refine S.frz (A := LentL (.slice a125 es.length c125) es) (by repeat (first | exact Sel.here | apply Sel.there)) fun g hs hm ⟨_, x', s'⟩ => ?_
            have hin := LentL.mono s' x'
            clear x' s'
            replace hg := Fr.sub_trans hg hs
            replace hR := melted hR hm
            try replace ha := ha.mono hs
            try replace hb := hb.mono hs
            try replace hat := hat.mono hs
            try replace hat3 := hat3.mono hs
            replace hm1 := meltTrans hm1 hm
            clear hs hm
            refine S.region rfl ?_
            refine O.op (.p rfl) (.mv rfl) ?_
            refine O.op (.p rfl) (.mv rfl) ?_
            refine O.callSs (.p rfl) rfl FactDisk12.ok7 rfl rfl (by repeat (first | exact Sels.nil | (apply Sels.cons; focus (repeat (first | exact Sel.here | apply Sel.there))))) (jappend_w (name := jname) (m := m3) hat3 li.ok hin.arr (by decide) (by omega)) ?_
            rintro v128 _ ⟨rfl, rfl⟩
            try simp only [List.cons_append, List.nil_append, List.append_nil]
            refine O.op (.p rfl) (.mv rfl) ?_
            refine O.op (.p rfl) (.neq rfl rfl) ?_
            refine O.slot 130 (v' := .bool false) rfl (congrArg Value.bool (by rw [hje]; simp)) ?_
            refine O.op (.p rfl) (.mv rfl) ?_
            refine O.op (.g rfl rfl) (.mv rfl) ?_
            refine O.op (.g rfl rfl) (.mv rfl) ?_
            refine O.call0 (.g rfl rfl) rfl FactDisk12.ok19 rfl rfl (keptEntries_r hin hb hq (by omega)) ?_
            rintro v134 _ ⟨rfl, rfl⟩
            try simp only [List.cons_append, List.nil_append, List.append_nil]
            refine O.op (.g rfl rfl) (.not rfl) ?_
            refine O.op (.p rfl) (.pickF rfl rfl) ?_
            refine O.nil ?_
            refine S.condF rfl ?_
            refine S.skip (S.seq (S.region rfl ?_))
            refine O.op (.p rfl) (.mv rfl) ?_
            have hat4 : At g.h ⟨d39, 0, none⟩ (dC q139 q239 (jAppM m3 jname es).room) := by rw [jAppM_room]; exact hat3
            refine O.callSs (.p rfl) rfl FactDisk12.ok20 rfl rfl (by repeat (first | exact Sels.nil | (apply Sels.cons; focus (repeat (first | exact Sel.here | apply Sel.there))))) (crash_g (keep := 0) hat4 li4.ok.w1 li4.ok.w2 li4.ok.sub li4.ok.le) ?_
            rintro v138 _ ⟨s', c1', l', c2', hcr, rfl, rfl⟩
            try simp only [List.cons_append, List.nil_append, List.append_nil]
            refine O.nil ?_
            refine S.seq ?_
            have li5 := li4.crash hcr
            obtain ⟨hrd, hre⟩ := li5.read
            refine S.region rfl ?_
            refine O.op (.p rfl) (.mv rfl) ?_
            refine O.callSs (.p rfl) rfl FactDisk12.ok21 rfl rfl (by repeat (first | exact Sels.nil | (apply Sels.cons; focus (repeat (first | exact Sel.here | apply Sel.there))))) (read_g (m := ⟨s', c1', l', c2', (jAppM m3 jname es).room⟩) (name := jname) hat4 li5.ok) ?_
            rintro v141 _ ⟨a141, c141, rfl, rfl⟩
            try simp only [List.cons_append, List.nil_append, List.append_nil]
            rw [hrd, hre]
            refine O.frzW Sel.here fun g hs hm ha141 => ?_
            replace hg := Fr.sub_trans hg hs
            replace hR := melted hR hm
            try replace ha := ha.mono hs
            try replace hb := hb.mono hs
            try replace hat := hat.mono hs
            try replace hat3 := hat3.mono hs
            try replace hin := hin.mono hs
            replace hm1 := meltTrans hm1 hm
            clear hs hm
            refine O.op (.p rfl) (.mv rfl) ?_
            refine O.op (.p rfl) (.extract rfl rfl) ?_
            refine O.op (.p rfl) (.extract rfl rfl) ?_
            refine O.op (.p rfl) (.as rfl) ?_
            refine O.op (.p rfl) (.as rfl) ?_
            refine O.nil ?_
            refine S.seq (S.region rfl ?_)
            refine O.op (.p rfl) (.mv rfl) ?_
            refine O.op (.p rfl) (.eql rfl rfl) ?_
            refine O.slot 145 (v' := .bool true) rfl (congrArg Value.bool (by rfl)) ?_
            refine O.op (.p rfl) (.mv rfl) ?_
            refine O.op (.g rfl rfl) (.mv rfl) ?_
            refine O.op (.g rfl rfl) (.mv rfl) ?_
            refine O.callB (.g rfl rfl) rfl FactDisk12.ok22 rfl rfl (bs := [OwnP Rp.u8 5 (.slice a86 bt.length c86) bt]) (by repeat (first | exact Sels.nil | (apply Sels.cons; focus (repeat (first | exact Sel.here | apply Sel.there))))) (fun m' hm hd => SameBytes_c ha141.left (hm.arr.right hd)) ?_
            rintro v149 _ ⟨rfl, rfl⟩
            try simp only [List.cons_append, List.nil_append, List.append_nil]
            refine O.slot 149 (v' := .bool true) rfl (congrArg Value.bool (by simp)) ?_
            refine O.op (.p rfl) (.pickT rfl rfl) ?_
            refine O.op (.p rfl) (.mv rfl) ?_
            refine O.call0 (.g rfl rfl) rfl FactDisk12.ok11 rfl rfl (awake_c) ?_
            rintro v152 _ ⟨rfl, rfl⟩
            try simp only [List.cons_append, List.nil_append, List.append_nil]
            refine O.op (.p rfl) (.pickT rfl rfl) ?_
            refine O.op (.p rfl) (.as rfl) ?_
            refine O.nil ?_
            refine S.ret Go.Proofs.Tryd.results4 rfl fun w hw => Holds.end_ hR hw ?_
            exact ⟨_, ⟨rfl, rfl⟩, by repeat (first | exact Picks.all | exact Picks.nil | (apply Picks.cons; focus (repeat (first | exact Sel.here | apply Sel.there))) | apply Picks.skip)⟩

end Go.Proofs.YtcghiboamlaenaaDoor
