import Derived.Test.YtkkcpckgnfcncaaDoorDdoes
open Go Go.Sp
set_option maxRecDepth 100000
attribute [local irreducible] obj Own OwnP
namespace Go.Proofs.YtkkcpckgnfcncaaDoor
theorem FactDalike.flat9 : Go.Sp.flat1 Go.Proofs.Tryd.prog 9 = true := by kernel_rfl
theorem FactDalike.ok13 : callable Go.Proofs.Tryd.prog 13 = true := by kernel_rfl
theorem FactDalike.ok15 : callable Go.Proofs.Tryd.prog 15 = true := by kernel_rfl
theorem FactDalike.ok16 : callable Go.Proofs.Tryd.prog 16 = true := by kernel_rfl
theorem FactDalike.ok18 : callable Go.Proofs.Tryd.prog 18 = true := by kernel_rfl
theorem FactDalike.ok19 : callable Go.Proofs.Tryd.prog 19 = true := by kernel_rfl
theorem FactDalike.ok22 : callable Go.Proofs.Tryd.prog 22 = true := by kernel_rfl
theorem FactDalike.ok23 : callable Go.Proofs.Tryd.prog 23 = true := by kernel_rfl
theorem FactDalike.size9 : (Go.Proofs.Tryd.prog.info? 9).map (·.size) = some 1 := by kernel_rfl

theorem sumT_zero {m : SS} (h : ∀ k, (getT m k).getD [] = []) (hn : (m.map (·.1)).Nodup) : sumT m = 0 := by
  have : ∀ x ∈ m, x.2.1 = [] := fun x hx => by have := h x.1; rw [getT_mem hn hx] at this; exact this
  induction m with
  | nil => rfl
  | cons x m ih =>
    have h1 := this x (by simp)
    have h2 : ∀ y ∈ m, y.2.1 = [] := fun y hy => this y (by simp [hy])
    have h3 : ∀ {l : SS}, (∀ y ∈ l, y.2.1 = []) → sumT l = 0 := by
      intro l
      induction l with
      | nil => intro _; rfl
      | cons z l ih => intro hz; have := ih fun y hy => hz y (by simp [hy]); have := hz z (by simp); simp [sumT] at *; simp_all
    exact h3 this
theorem sumT_getD : ∀ (n : Nat) {m m' : SS} {c c' : Nat}, m.length = n → WfT m c → WfT m' c' → (∀ k, (getT m k).getD [] = (getT m' k).getD []) → sumT m = sumT m'
  | 0, m, m', c, c', hn, h, h', he => by
    have : m = [] := List.length_eq_zero_iff.1 hn
    subst this
    rw [sumT_zero (m := m') (fun k => (he k).symm) h'.2.2]; rfl
  | n + 1, m, m', c, c', hn, h, h', he => by
    cases m with
    | nil => simp at hn
    | cons x l =>
      have d1 : delT (x :: l) x.1 = l := by simp [delT]
      have e1 := sumT_del (x :: l) x.1
      have e2 := sumT_del m' x.1
      rw [he x.1] at e1
      have ih := sumT_getD n (m := delT (x :: l) x.1) (m' := delT m' x.1) (by rw [d1]; simpa using hn) (delT_wf h _) (delT_wf h' _) fun k => by
        rw [getT_del h.2.2, getT_del h'.2.2]
        split
        · rfl
        · exact he k
      omega
theorem safe_eq {m m' : DiskM} {k : List UInt8} (h : vOf m k = vOf m' k) : getT m.safe k = getT m'.safe k := by
  unfold vOf at h
  cases h1 : getT m.safe k <;> cases h2 : getT m'.safe k <;> rw [h1, h2] at h <;> simp_all
theorem loose_eq {m m' : DiskM} (ok : DOk m) (ok' : DOk m') {k : List UInt8} (h : vOf m k = vOf m' k) : (getT m.loose k).getD [] = (getT m'.loose k).getD [] := by
  cases h1 : vOf m k with
  | none => rw [vOf_loose ok h1, vOf_loose ok' (h ▸ h1)]
  | some x =>
    have h2 := h ▸ h1
    unfold vOf at h1 h2
    obtain ⟨s, _, e1⟩ := Option.map_eq_some_iff.1 h1
    obtain ⟨s', _, e2⟩ := Option.map_eq_some_iff.1 h2
    have := e1.trans e2.symm
    simp only [Prod.mk.injEq] at this
    exact this.2
theorem view_used {m m' : DiskM} (ok : DOk m) (ok' : DOk m') (h : ∀ k, vOf m k = vOf m' k) : m.used = m'.used := by
  unfold DiskM.used
  rw [sumT_congr ok.w1 ok'.w1 fun k => safe_eq (h k), sumT_getD _ rfl ok.w2 ok'.w2 fun k => loose_eq ok ok' (h k)]
theorem view_names {m m' : DiskM} (ok : DOk m) (ok' : DOk m') (h : ∀ k, vOf m k = vOf m' k) : namesT m.safe = namesT m'.safe := names_eq ok.w1 ok'.w1 fun k => by rw [safe_eq (h k)]
theorem view_read {m m' : DiskM} (ok : DOk m) (ok' : DOk m') {k : List UInt8} (h : vOf m k = vOf m' k) : dRead m k = dRead m' k ∧ dSyncE m k = dSyncE m' k := by
  unfold dRead dSyncE
  rw [vOf_has, vOf_has, vOf_bytes ok, vOf_bytes ok', h]
  exact ⟨rfl, rfl⟩
theorem DI.crash {R0 : Int} {N : Nat} {m : DiskM} {s' l' : SS} {c1' c2' : Nat} {keep : Int} (c : DI R0 N m) (h : CrashR m.safe m.loose s' l' c1' c2' keep) : DI R0 N ⟨s', c1', l', c2', m.room⟩ :=
  ⟨crash_ok c.ok h, c.room, by have := crash_len c.ok h; have := c.len; show s'.length ≤ N; omega, crash_q c.ok h c.q⟩
theorem read_len {m : DiskM} (ok : DOk m) (k : List UInt8) : (dRead m k).length ≤ 2000000000000 := by
  have h1 := getT_le m.safe k
  have h2 := getT_le m.loose k
  have := ok.le
  unfold dRead
  split
  · unfold dBytes bytesT; rw [List.length_append]; omega
  · simp
theorem alike_g {r : Fr} {d1 p1 p2 d2 q1 q2 N N' : Nat} {R0 R0' : Int} {m1 m2 : DiskM} (hat1 : At r ⟨d1, 0, none⟩ (dC p1 p2 m1.room)) (hat2 : At r ⟨d2, 0, none⟩ (dC q1 q2 m2.room)) (di1 : DI R0 N m1) (di2 : DI R0' N' m2) (hN : N ≤ 1000000) (hN' : N' ≤ 1000000) (hv : ∀ k, vOf m1 k = vOf m2 k) :
    Con Go.Proofs.Tryd.prog 21 #[.pointer (some ⟨d1, 0, none⟩), .pointer (some ⟨d2, 0, none⟩)] r [MapT p1 m1.safe m1.c1, MapT p2 m1.loose m1.c2, MapT q1 m2.safe m2.c1, MapT q2 m2.loose m2.c2]
      (Ret fun v η => v = .bool true ∧ η = [MapT p1 m1.safe m1.c1, MapT p2 m1.loose m1.c2, MapT q1 m2.safe m2.c1, MapT q2 m2.loose m2.c2]) := by
  refine Con.of (n := 71) [.pointer (some ⟨d1, 0, none⟩), .pointer (some ⟨d2, 0, none⟩)] rfl Go.Proofs.Tryd.func21 rfl rfl rfl fun g hg R hR => ?_
  replace hat1 : At g.h ⟨d1, 0, none⟩ (dC p1 p2 m1.room) := At.mono hg hat1
  replace hat2 : At g.h ⟨d2, 0, none⟩ (dC q1 q2 m2.room) := At.mono hg hat2
  refine S.seq (S.region rfl ?_)
  refine O.op (.p rfl) (.as rfl) ?_
  refine O.nil ?_
  refine S.seq (S.seq (S.region rfl ?_))
  refine O.op (.p rfl) (.as rfl) ?_
  refine O.nil ?_
  refine S.block ?_
  refine S.unroll ?_
  have hnm1 := view_names di1.ok di2.ok hv
  have hus1 := view_used di1.ok di2.ok hv
  have hl1 := di1.len
  have hl1' := di2.len
  have hnl1 : (namesT m1.safe).length = m1.safe.length := by simp [namesT]
  refine S.seq (S.seq (S.region rfl ?_))
  refine O.op (.p rfl) (.mv rfl) ?_
  refine O.op (.p rfl) (.lss rfl rfl) ?_
  refine O.nil ?_
  refine S.condT rfl ?_
  refine S.skip (S.seq (S.block (S.seq (S.region rfl ?_))))
  refine O.op (.p rfl) (.mv rfl) ?_
  refine O.callSs (.p rfl) rfl FactDalike.ok18 rfl rfl (by repeat (first | exact Sels.nil | (apply Sels.cons; focus (repeat (first | exact Sel.here | apply Sel.there))))) (list_g hat1 di1.ok (by omega) fun x hx => Nat.le_trans (di1.q x hx) (by decide)) ?_
  rintro v17 _ ⟨a17, n17, rfl, rfl⟩
  try simp only [List.cons_append, List.nil_append, List.append_nil]
  refine O.frzA (by repeat (first | exact Sel.here | apply Sel.there)) fun g hs hm ha17 => ?_
  replace hg := Fr.sub_trans hg hs
  replace hR := melted hR hm
  try replace hat1 := hat1.mono hs
  try replace hat2 := hat2.mono hs
  clear hs hm
  refine O.op (.p rfl) (.as rfl) ?_
  refine O.nil ?_
  refine S.seq (S.seq (S.region rfl ?_))
  refine O.op (.p rfl) (.mv rfl) ?_
  refine O.op (.p rfl) (.mv rfl) ?_
  refine O.callSs (.p rfl) rfl FactDalike.ok18 rfl rfl (by repeat (first | exact Sels.nil | (apply Sels.cons; focus (repeat (first | exact Sel.here | apply Sel.there))))) (list_g hat2 di2.ok (by omega) fun x hx => Nat.le_trans (di2.q x hx) (by decide)) ?_
  rintro v20 _ ⟨a20, n20, rfl, rfl⟩
  try simp only [List.cons_append, List.nil_append, List.append_nil]
  simp only [← hnm1]
  refine O.frzA (by repeat (first | exact Sel.here | apply Sel.there)) fun g hs hm ha20 => ?_
  replace hg := Fr.sub_trans hg hs
  replace hR := melted hR hm
  try replace hat1 := hat1.mono hs
  try replace hat2 := hat2.mono hs
  try replace ha17 := ha17.mono hs
  clear hs hm
  refine O.call0 (.p rfl) rfl FactDalike.ok23 rfl rfl (SameTexts_c (by first | assumption | exact Arr.mono hg (by assumption) | exact Arr.left (by assumption) | exact Arr.left (Arr.mono hg (by assumption))) (by first | assumption | exact Arr.mono hg (by assumption) | exact Arr.left (by assumption) | exact Arr.left (Arr.mono hg (by assumption)))) ?_
  rintro v21 _ ⟨rfl, rfl⟩
  try simp only [List.cons_append, List.nil_append, List.append_nil]
  refine O.slot 21 (v' := .bool true) rfl (congrArg Value.bool (by simp)) ?_
  refine O.op (.p rfl) (.not rfl) ?_
  refine O.op (.p rfl) (.mv rfl) ?_
  refine O.op (.g rfl rfl) (.mv rfl) ?_
  refine O.callSs (.g rfl rfl) rfl FactDalike.ok16 rfl rfl (by repeat (first | exact Sels.nil | (apply Sels.cons; focus (repeat (first | exact Sel.here | apply Sel.there))))) (used_g hat1 di1.ok) ?_
  rintro v25 _ ⟨rfl, rfl⟩
  try simp only [List.cons_append, List.nil_append, List.append_nil]
  refine O.op (.g rfl rfl) (.mv rfl) ?_
  refine O.callSs (.g rfl rfl) rfl FactDalike.ok16 rfl rfl (by repeat (first | exact Sels.nil | (apply Sels.cons; focus (repeat (first | exact Sel.here | apply Sel.there))))) (used_g hat2 di2.ok) ?_
  rintro v27 _ ⟨rfl, rfl⟩
  try simp only [List.cons_append, List.nil_append, List.append_nil]
  refine O.op (.g rfl rfl) (.neq rfl rfl) ?_
  refine O.slot 28 (v' := .bool false) rfl (congrArg Value.bool (by simp [hus1])) ?_
  refine O.op (.p rfl) (.pickF rfl rfl) ?_
  refine O.nil ?_
  refine S.condF rfl ?_
  refine S.skip (S.seq (S.seq (S.region rfl ?_)))
  refine O.op (.p rfl) (.as rfl) ?_
  refine O.nil ?_
  refine S.block ?_
  refine S.pk (ζ := [MapT p1 m1.safe m1.c1, MapT p2 m1.loose m1.c2, MapT q1 m2.safe m2.c1, MapT q2 m2.loose m2.c2]) (by repeat (first | exact Picks.all | exact Picks.nil | (apply Picks.cons; focus (repeat (first | exact Sel.here | apply Sel.there))) | apply Picks.skip)) ?_
  refine S.loopK (ι := Nat) (fun i => i ≤ (namesT m1.safe).length) (fun i => [(7, .int .i64 (i : Int))]) [(0, _), (1, _), (5, _), (6, _)] (fun i => [MapT p1 m1.safe m1.c1, MapT p2 m1.loose m1.c2, MapT q1 m2.safe m2.c1, MapT q2 m2.loose m2.c2]) (fun i => (namesT m1.safe).length - i) (0) (by exact Nat.zero_le _) (.cons rfl (.nil)) (.cons rfl (.cons rfl (.cons rfl (.cons rfl (.nil))))) rfl fun i hx ih => ?_
  have hm1 := meltRefl (g := g)
  refine S.seq (S.seq (S.region rfl ?_))
  refine O.op (.p rfl) (.mv rfl) ?_
  refine O.op (.p rfl) (.mv rfl) ?_
  refine O.op (.p rfl) (.len rfl Go.Proofs.Tryd.underlying50 rfl) ?_
  refine O.op (.p rfl) (.lss rfl rfl) ?_
  refine O.nil ?_
  first | refine S.condD rfl (fun h33 => ?_) (fun h33 => ?_) | refine S.condB rfl (fun h33 => ?_) (fun h33 => ?_)
  · have hi : i < (namesT m1.safe).length := by omega
    have hrd := view_read di1.ok di2.ok (hv (namesT m1.safe)[i])
    have hrl := read_len di1.ok (namesT m1.safe)[i]
    refine S.skip (S.seq (S.block (S.seq (S.region rfl ?_))))
    refine O.op (.p rfl) (.mv rfl) ?_
    refine O.op (.p rfl) (.mv rfl) ?_
    refine O.op (.p rfl) (.mv rfl) ?_
    refine O.idx' (.p rfl) Go.Proofs.Tryd.underlying50 FactDalike.size9 rfl rfl rfl (by first | assumption | exact Arr.mono hg (by assumption) | exact Arr.left (by assumption) | exact Arr.left (Arr.mono hg (by assumption))) (by decide) (by first | omega | (simp; done) | (simp; omega) | decide) (fun p40 cs40 hp40 hr40 => ?_)
    obtain ⟨rfl, hz40⟩ := hr40
    refine O.op (.p rfl) (.loadAt FactDalike.flat9 rfl hp40 rfl) ?_
    refine O.callSs (.p rfl) rfl FactDalike.ok15 rfl rfl (by repeat (first | exact Sels.nil | (apply Sels.cons; focus (repeat (first | exact Sel.here | apply Sel.there))))) (read_g (name := (namesT m1.safe)[i]) hat1 di1.ok) ?_
    rintro v42 _ ⟨a42, c42, rfl, rfl⟩
    try simp only [List.cons_append, List.nil_append, List.append_nil]
    refine O.frzW Sel.here fun g hs hm ha42 => ?_
    replace hg := Fr.sub_trans hg hs
    replace hR := melted hR hm
    try replace hat1 := hat1.mono hs
    try replace hat2 := hat2.mono hs
    try replace ha17 := ha17.mono hs
    try replace ha20 := ha20.mono hs
    try replace hp40 := hp40.mono hs
    replace hm1 := meltTrans hm1 hm
    clear hs hm
    refine O.op (.p rfl) (.mv rfl) ?_
    refine O.op (.p rfl) (.extract rfl rfl) ?_
    refine O.op (.p rfl) (.extract rfl rfl) ?_
    refine O.op (.p rfl) (.as rfl) ?_
    refine O.op (.p rfl) (.as rfl) ?_
    refine O.nil ?_
    refine S.seq (S.region rfl ?_)
    refine O.op (.p rfl) (.mv rfl) ?_
    refine O.op (.p rfl) (.mv rfl) ?_
    refine O.op (.p rfl) (.mv rfl) ?_
    refine O.idx' (.p rfl) Go.Proofs.Tryd.underlying50 FactDalike.size9 rfl rfl rfl (by first | assumption | exact Arr.mono hg (by assumption) | exact Arr.left (by assumption) | exact Arr.left (Arr.mono hg (by assumption))) (by decide) (by first | omega | (simp; done) | (simp; omega) | decide) (fun p49 cs49 hp49 hr49 => ?_)
    obtain ⟨rfl, hz49⟩ := hr49
    refine O.op (.p rfl) (.loadAt FactDalike.flat9 rfl hp49 rfl) ?_
    refine O.callSs (.p rfl) rfl FactDalike.ok15 rfl rfl (by repeat (first | exact Sels.nil | (apply Sels.cons; focus (repeat (first | exact Sel.here | apply Sel.there))))) (read_g (name := (namesT m1.safe)[i]) hat2 di2.ok) ?_
    rintro v51 _ ⟨a51, c51, rfl, rfl⟩
    try simp only [List.cons_append, List.nil_append, List.append_nil]
    simp only [← hrd.1, ← hrd.2]
    refine O.frzW Sel.here fun g hs hm ha51 => ?_
    replace hg := Fr.sub_trans hg hs
    replace hR := melted hR hm
    try replace hat1 := hat1.mono hs
    try replace hat2 := hat2.mono hs
    try replace ha17 := ha17.mono hs
    try replace ha20 := ha20.mono hs
    try replace hp40 := hp40.mono hs
    try replace ha42 := ha42.mono hs
    try replace hp49 := hp49.mono hs
    replace hm1 := meltTrans hm1 hm
    clear hs hm
    refine O.op (.p rfl) (.mv rfl) ?_
    refine O.op (.p rfl) (.extract rfl rfl) ?_
    refine O.op (.p rfl) (.extract rfl rfl) ?_
    refine O.op (.p rfl) (.as rfl) ?_
    refine O.op (.p rfl) (.as rfl) ?_
    refine O.nil ?_
    refine S.seq (S.region rfl ?_)
    refine O.op (.p rfl) (.mv rfl) ?_
    refine O.op (.p rfl) (.mv rfl) ?_
    refine O.op (.p rfl) (.neq rfl rfl) ?_
    refine O.slot 56 (v' := .bool false) rfl (congrArg Value.bool (by simp)) ?_
    refine O.op (.p rfl) (.mv rfl) ?_
    refine O.op (.g rfl rfl) (.mv rfl) ?_
    refine O.op (.g rfl rfl) (.mv rfl) ?_
    refine O.call0 (.g rfl rfl) rfl FactDalike.ok22 rfl rfl (SameBytes_c (by first | assumption | exact Arr.mono hg (by assumption) | exact Arr.left (by assumption) | exact Arr.left (Arr.mono hg (by assumption))) (by first | assumption | exact Arr.mono hg (by assumption) | exact Arr.left (by assumption) | exact Arr.left (Arr.mono hg (by assumption)))) ?_
    rintro v60 _ ⟨rfl, rfl⟩
    try simp only [List.cons_append, List.nil_append, List.append_nil]
    refine O.slot 60 (v' := .bool true) rfl (congrArg Value.bool (by simp)) ?_
    refine O.op (.g rfl rfl) (.not rfl) ?_
    refine O.op (.p rfl) (.pickF rfl rfl) ?_
    refine O.nil ?_
    refine S.condF rfl ?_
    refine S.skip (S.inBlock (S.region rfl ?_))
    refine O.op (.p rfl) (.mv rfl) ?_
    refine O.op (.p rfl) (.add rfl rfl (IntWalk.i64_in _ (by omega))) ?_
    refine O.op (.p rfl) (.as rfl) ?_
    refine O.nil ?_
    refine S.pk ?_ (S.melt hm1 (S.weaken ?_ (ih (i + 1) (by exact hi) (by omega))))
    · repeat (first | exact Picks.all | exact Picks.nil | (apply Picks.cons; focus (repeat (first | exact Sel.here | apply Sel.there))) | apply Picks.skip)
    repeat (first | exact Sub.nil | refine Sub.cons rfl ?_)
  · clear ih
    refine S.exit rfl ?_
    refine S.seq (S.region rfl ?_)
    refine O.op (.p rfl) (.mv rfl) ?_
    refine O.callSs (.p rfl) rfl FactDalike.ok19 rfl rfl (by repeat (first | exact Sels.nil | (apply Sels.cons; focus (repeat (first | exact Sel.here | apply Sel.there))))) (copy_g hat1) ?_
    rintro v64 _ ⟨d64, u64, w64, rfl, rfl⟩
    try simp only [List.cons_append, List.nil_append, List.append_nil]
    refine O.frzO (by repeat (first | exact Sel.here | apply Sel.there)) fun g hs hm hat3 => ?_
    replace hg := Fr.sub_trans hg hs
    replace hR := melted hR hm
    try replace hat1 := hat1.mono hs
    try replace hat2 := hat2.mono hs
    try replace ha17 := ha17.mono hs
    try replace ha20 := ha20.mono hs
    replace hm1 := meltTrans hm1 hm
    clear hs hm
    refine O.op (.p rfl) (.as rfl) ?_
    refine O.nil ?_
    refine S.seq (S.region rfl ?_)
    refine O.op (.p rfl) (.mv rfl) ?_
    refine O.callSs (.p rfl) rfl FactDalike.ok19 rfl rfl (by repeat (first | exact Sels.nil | (apply Sels.cons; focus (repeat (first | exact Sel.here | apply Sel.there))))) (copy_g hat2) ?_
    rintro v66 _ ⟨d66, u66, w66, rfl, rfl⟩
    try simp only [List.cons_append, List.nil_append, List.append_nil]
    refine O.frzO (by repeat (first | exact Sel.here | apply Sel.there)) fun g hs hm hat4 => ?_
    replace hg := Fr.sub_trans hg hs
    replace hR := melted hR hm
    try replace hat1 := hat1.mono hs
    try replace hat2 := hat2.mono hs
    try replace ha17 := ha17.mono hs
    try replace ha20 := ha20.mono hs
    try replace hat3 := hat3.mono hs
    replace hm1 := meltTrans hm1 hm
    clear hs hm
    refine O.op (.p rfl) (.as rfl) ?_
    refine O.nil ?_
    refine S.seq (S.region rfl ?_)
    refine O.op (.p rfl) (.mv rfl) ?_
    refine O.callSs (.p rfl) rfl FactDalike.ok13 rfl rfl (by repeat (first | exact Sels.nil | (apply Sels.cons; focus (repeat (first | exact Sel.here | apply Sel.there))))) (crash_g (keep := 0) hat3 di1.ok.w1 di1.ok.w2 di1.ok.sub di1.ok.le) ?_
    rintro v68 _ ⟨s3, c3, l3, k3, hcr3, rfl, rfl⟩
    try simp only [List.cons_append, List.nil_append, List.append_nil]
    refine O.nil ?_
    refine S.region rfl ?_
    refine O.op (.p rfl) (.mv rfl) ?_
    refine O.callSs (.p rfl) rfl FactDalike.ok13 rfl rfl (by repeat (first | exact Sels.nil | (apply Sels.cons; focus (repeat (first | exact Sel.here | apply Sel.there))))) (crash_g (keep := 0) hat4 di2.ok.w1 di2.ok.w2 di2.ok.sub di2.ok.le) ?_
    rintro v70 _ ⟨s4, c4, l4, k4, hcr4, rfl, rfl⟩
    try simp only [List.cons_append, List.nil_append, List.append_nil]
    refine O.nil ?_
    refine S.inBlock (S.region rfl ?_)
    refine O.op (.p rfl) (.mv rfl) ?_
    refine O.op (.p rfl) (.add rfl rfl (IntWalk.i64_in _ (by omega))) ?_
    refine O.op (.p rfl) (.as rfl) ?_
    refine O.nil ?_
    have di3 : DI R0 N ⟨s3, c3, l3, k3, m1.room⟩ := di1.crash hcr3
    have di4 : DI R0' N' ⟨s4, c4, l4, k4, m2.room⟩ := di2.crash hcr4
    have hv2 : ∀ k, vOf ⟨s3, c3, l3, k3, m1.room⟩ k = vOf ⟨s4, c4, l4, k4, m2.room⟩ k := fun k => by rw [vOf_crash hcr3, vOf_crash hcr4, hv]
    obtain ⟨m3, hm3⟩ : ∃ m : DiskM, m = ⟨s3, c3, l3, k3, m1.room⟩ := ⟨_, rfl⟩
    obtain ⟨m4, hm4⟩ : ∃ m : DiskM, m = ⟨s4, c4, l4, k4, m2.room⟩ := ⟨_, rfl⟩
    have hat3' : At g.h ⟨d64, 0, none⟩ (dC u64 w64 m3.room) := by rw [hm3]; exact hat3
    have hat4' : At g.h ⟨d66, 0, none⟩ (dC u66 w66 m4.room) := by rw [hm4]; exact hat4
    rw [← hm3] at di3 hv2
    rw [← hm4] at di4
    simp only [← hm4] at hv2
    rw [show MapT u64 s3 c3 = MapT u64 m3.safe m3.c1 from by rw [hm3], show MapT w64 l3 k3 = MapT w64 m3.loose m3.c2 from by rw [hm3], show MapT u66 s4 c4 = MapT u66 m4.safe m4.c1 from by rw [hm4], show MapT w66 l4 k4 = MapT w66 m4.loose m4.c2 from by rw [hm4]]
    refine S.reloop ?_
    have hnm2 := view_names di3.ok di4.ok hv2
    have hus2 := view_used di3.ok di4.ok hv2
    have hl2 := di3.len
    have hl2' := di4.len
    have hnl2 : (namesT m3.safe).length = m3.safe.length := by simp [namesT]
    refine S.seq (S.seq (S.region rfl ?_))
    refine O.op (.p rfl) (.mv rfl) ?_
    refine O.op (.p rfl) (.lss rfl rfl) ?_
    refine O.nil ?_
    refine S.condT rfl ?_
    refine S.skip (S.seq (S.block (S.seq (S.region rfl ?_))))
    refine O.op (.p rfl) (.mv rfl) ?_
    refine O.callSs (.p rfl) rfl FactDalike.ok18 rfl rfl (by repeat (first | exact Sels.nil | (apply Sels.cons; focus (repeat (first | exact Sel.here | apply Sel.there))))) (list_g hat3' di3.ok (by omega) fun x hx => Nat.le_trans (di3.q x hx) (by decide)) ?_
    rintro v17 _ ⟨a17, n17, rfl, rfl⟩
    try simp only [List.cons_append, List.nil_append, List.append_nil]
    refine O.frzA (by repeat (first | exact Sel.here | apply Sel.there)) fun g hs hm ha17 => ?_
    replace hg := Fr.sub_trans hg hs
    replace hR := melted hR hm
    try replace hat1 := hat1.mono hs
    try replace hat2 := hat2.mono hs
    try replace ha17 := ha17.mono hs
    try replace ha20 := ha20.mono hs
    try replace hat3 := hat3.mono hs
    try replace hat4 := hat4.mono hs
    try replace hat3' := hat3'.mono hs
    try replace hat4' := hat4'.mono hs
    replace hm1 := meltTrans hm1 hm
    clear hs hm
    refine O.op (.p rfl) (.as rfl) ?_
    refine O.nil ?_
    refine S.seq (S.seq (S.region rfl ?_))
    refine O.op (.p rfl) (.mv rfl) ?_
    refine O.op (.p rfl) (.mv rfl) ?_
    refine O.callSs (.p rfl) rfl FactDalike.ok18 rfl rfl (by repeat (first | exact Sels.nil | (apply Sels.cons; focus (repeat (first | exact Sel.here | apply Sel.there))))) (list_g hat4' di4.ok (by omega) fun x hx => Nat.le_trans (di4.q x hx) (by decide)) ?_
    rintro v20 _ ⟨a20, n20, rfl, rfl⟩
    try simp only [List.cons_append, List.nil_append, List.append_nil]
    simp only [← hnm2]
    refine O.frzA (by repeat (first | exact Sel.here | apply Sel.there)) fun g hs hm ha20 => ?_
    replace hg := Fr.sub_trans hg hs
    replace hR := melted hR hm
    try replace hat1 := hat1.mono hs
    try replace hat2 := hat2.mono hs
    try replace ha17 := ha17.mono hs
    try replace ha20 := ha20.mono hs
    try replace hat3 := hat3.mono hs
    try replace hat4 := hat4.mono hs
    try replace hat3' := hat3'.mono hs
    try replace hat4' := hat4'.mono hs
    replace hm1 := meltTrans hm1 hm
    clear hs hm
    refine O.call0 (.p rfl) rfl FactDalike.ok23 rfl rfl (SameTexts_c (by first | assumption | exact Arr.mono hg (by assumption) | exact Arr.left (by assumption) | exact Arr.left (Arr.mono hg (by assumption))) (by first | assumption | exact Arr.mono hg (by assumption) | exact Arr.left (by assumption) | exact Arr.left (Arr.mono hg (by assumption)))) ?_
    rintro v21 _ ⟨rfl, rfl⟩
    try simp only [List.cons_append, List.nil_append, List.append_nil]
    refine O.slot 21 (v' := .bool true) rfl (congrArg Value.bool (by simp)) ?_
    refine O.op (.p rfl) (.not rfl) ?_
    refine O.op (.p rfl) (.mv rfl) ?_
    refine O.op (.g rfl rfl) (.mv rfl) ?_
    refine O.callSs (.g rfl rfl) rfl FactDalike.ok16 rfl rfl (by repeat (first | exact Sels.nil | (apply Sels.cons; focus (repeat (first | exact Sel.here | apply Sel.there))))) (used_g hat3' di3.ok) ?_
    rintro v25 _ ⟨rfl, rfl⟩
    try simp only [List.cons_append, List.nil_append, List.append_nil]
    refine O.op (.g rfl rfl) (.mv rfl) ?_
    refine O.callSs (.g rfl rfl) rfl FactDalike.ok16 rfl rfl (by repeat (first | exact Sels.nil | (apply Sels.cons; focus (repeat (first | exact Sel.here | apply Sel.there))))) (used_g hat4' di4.ok) ?_
    rintro v27 _ ⟨rfl, rfl⟩
    try simp only [List.cons_append, List.nil_append, List.append_nil]
    refine O.op (.g rfl rfl) (.neq rfl rfl) ?_
    refine O.slot 28 (v' := .bool false) rfl (congrArg Value.bool (by simp [hus2])) ?_
    refine O.op (.p rfl) (.pickF rfl rfl) ?_
    refine O.nil ?_
    refine S.condF rfl ?_
    refine S.skip (S.seq (S.seq (S.region rfl ?_)))
    refine O.op (.p rfl) (.as rfl) ?_
    refine O.nil ?_
    refine S.block ?_
    refine S.pk (ζ := [MapT u64 m3.safe m3.c1, MapT w64 m3.loose m3.c2, MapT u66 m4.safe m4.c1, MapT w66 m4.loose m4.c2, MapT p1 m1.safe m1.c1, MapT p2 m1.loose m1.c2, MapT q1 m2.safe m2.c1, MapT q2 m2.loose m2.c2]) (by repeat (first | exact Picks.all | exact Picks.nil | (apply Picks.cons; focus (repeat (first | exact Sel.here | apply Sel.there))) | apply Picks.skip)) ?_
    refine S.loopK (ι := Nat) (fun i => i ≤ (namesT m3.safe).length) (fun i => [(7, .int .i64 (i : Int))]) [(0, _), (1, _), (5, _), (6, _)] (fun i => [MapT u64 m3.safe m3.c1, MapT w64 m3.loose m3.c2, MapT u66 m4.safe m4.c1, MapT w66 m4.loose m4.c2, MapT p1 m1.safe m1.c1, MapT p2 m1.loose m1.c2, MapT q1 m2.safe m2.c1, MapT q2 m2.loose m2.c2]) (fun i => (namesT m3.safe).length - i) (0) (by exact Nat.zero_le _) (.cons rfl (.nil)) (.cons rfl (.cons rfl (.cons rfl (.cons rfl (.nil))))) rfl fun i hx ih => ?_
    have hm2 := meltRefl (g := g)
    refine S.seq (S.seq (S.region rfl ?_))
    refine O.op (.p rfl) (.mv rfl) ?_
    refine O.op (.p rfl) (.mv rfl) ?_
    refine O.op (.p rfl) (.len rfl Go.Proofs.Tryd.underlying50 rfl) ?_
    refine O.op (.p rfl) (.lss rfl rfl) ?_
    refine O.nil ?_
    first | refine S.condD rfl (fun h33 => ?_) (fun h33 => ?_) | refine S.condB rfl (fun h33 => ?_) (fun h33 => ?_)
    · have hi : i < (namesT m3.safe).length := by omega
      have hrd := view_read di3.ok di4.ok (hv2 (namesT m3.safe)[i])
      have hrl := read_len di3.ok (namesT m3.safe)[i]
      refine S.skip (S.seq (S.block (S.seq (S.region rfl ?_))))
      refine O.op (.p rfl) (.mv rfl) ?_
      refine O.op (.p rfl) (.mv rfl) ?_
      refine O.op (.p rfl) (.mv rfl) ?_
      refine O.idx' (.p rfl) Go.Proofs.Tryd.underlying50 FactDalike.size9 rfl rfl rfl (by first | assumption | exact Arr.mono hg (by assumption) | exact Arr.left (by assumption) | exact Arr.left (Arr.mono hg (by assumption))) (by decide) (by first | omega | (simp; done) | (simp; omega) | decide) (fun p40 cs40 hp40 hr40 => ?_)
      obtain ⟨rfl, hz40⟩ := hr40
      refine O.op (.p rfl) (.loadAt FactDalike.flat9 rfl hp40 rfl) ?_
      refine O.callSs (.p rfl) rfl FactDalike.ok15 rfl rfl (by repeat (first | exact Sels.nil | (apply Sels.cons; focus (repeat (first | exact Sel.here | apply Sel.there))))) (read_g (name := (namesT m3.safe)[i]) hat3' di3.ok) ?_
      rintro v42 _ ⟨a42, c42, rfl, rfl⟩
      try simp only [List.cons_append, List.nil_append, List.append_nil]
      refine O.frzW Sel.here fun g hs hm ha42 => ?_
      replace hg := Fr.sub_trans hg hs
      replace hR := melted hR hm
      try replace hat1 := hat1.mono hs
      try replace hat2 := hat2.mono hs
      try replace ha17 := ha17.mono hs
      try replace ha20 := ha20.mono hs
      try replace hat3 := hat3.mono hs
      try replace hat4 := hat4.mono hs
      try replace hat3' := hat3'.mono hs
      try replace hat4' := hat4'.mono hs
      try replace hp40 := hp40.mono hs
      replace hm1 := meltTrans hm1 hm
      replace hm2 := meltTrans hm2 hm
      clear hs hm
      refine O.op (.p rfl) (.mv rfl) ?_
      refine O.op (.p rfl) (.extract rfl rfl) ?_
      refine O.op (.p rfl) (.extract rfl rfl) ?_
      refine O.op (.p rfl) (.as rfl) ?_
      refine O.op (.p rfl) (.as rfl) ?_
      refine O.nil ?_
      refine S.seq (S.region rfl ?_)
      refine O.op (.p rfl) (.mv rfl) ?_
      refine O.op (.p rfl) (.mv rfl) ?_
      refine O.op (.p rfl) (.mv rfl) ?_
      refine O.idx' (.p rfl) Go.Proofs.Tryd.underlying50 FactDalike.size9 rfl rfl rfl (by first | assumption | exact Arr.mono hg (by assumption) | exact Arr.left (by assumption) | exact Arr.left (Arr.mono hg (by assumption))) (by decide) (by first | omega | (simp; done) | (simp; omega) | decide) (fun p49 cs49 hp49 hr49 => ?_)
      obtain ⟨rfl, hz49⟩ := hr49
      refine O.op (.p rfl) (.loadAt FactDalike.flat9 rfl hp49 rfl) ?_
      refine O.callSs (.p rfl) rfl FactDalike.ok15 rfl rfl (by repeat (first | exact Sels.nil | (apply Sels.cons; focus (repeat (first | exact Sel.here | apply Sel.there))))) (read_g (name := (namesT m3.safe)[i]) hat4' di4.ok) ?_
      rintro v51 _ ⟨a51, c51, rfl, rfl⟩
      try simp only [List.cons_append, List.nil_append, List.append_nil]
      simp only [← hrd.1, ← hrd.2]
      refine O.frzW Sel.here fun g hs hm ha51 => ?_
      replace hg := Fr.sub_trans hg hs
      replace hR := melted hR hm
      try replace hat1 := hat1.mono hs
      try replace hat2 := hat2.mono hs
      try replace ha17 := ha17.mono hs
      try replace ha20 := ha20.mono hs
      try replace hat3 := hat3.mono hs
      try replace hat4 := hat4.mono hs
      try replace hat3' := hat3'.mono hs
      try replace hat4' := hat4'.mono hs
      try replace hp40 := hp40.mono hs
      try replace ha42 := ha42.mono hs
      try replace hp49 := hp49.mono hs
      replace hm1 := meltTrans hm1 hm
      replace hm2 := meltTrans hm2 hm
      clear hs hm
      refine O.op (.p rfl) (.mv rfl) ?_
      refine O.op (.p rfl) (.extract rfl rfl) ?_
      refine O.op (.p rfl) (.extract rfl rfl) ?_
      refine O.op (.p rfl) (.as rfl) ?_
      refine O.op (.p rfl) (.as rfl) ?_
      refine O.nil ?_
      refine S.seq (S.region rfl ?_)
      refine O.op (.p rfl) (.mv rfl) ?_
      refine O.op (.p rfl) (.mv rfl) ?_
      refine O.op (.p rfl) (.neq rfl rfl) ?_
      refine O.slot 56 (v' := .bool false) rfl (congrArg Value.bool (by simp)) ?_
      refine O.op (.p rfl) (.mv rfl) ?_
      refine O.op (.g rfl rfl) (.mv rfl) ?_
      refine O.op (.g rfl rfl) (.mv rfl) ?_
      refine O.call0 (.g rfl rfl) rfl FactDalike.ok22 rfl rfl (SameBytes_c (by first | assumption | exact Arr.mono hg (by assumption) | exact Arr.left (by assumption) | exact Arr.left (Arr.mono hg (by assumption))) (by first | assumption | exact Arr.mono hg (by assumption) | exact Arr.left (by assumption) | exact Arr.left (Arr.mono hg (by assumption)))) ?_
      rintro v60 _ ⟨rfl, rfl⟩
      try simp only [List.cons_append, List.nil_append, List.append_nil]
      refine O.slot 60 (v' := .bool true) rfl (congrArg Value.bool (by simp)) ?_
      refine O.op (.g rfl rfl) (.not rfl) ?_
      refine O.op (.p rfl) (.pickF rfl rfl) ?_
      refine O.nil ?_
      refine S.condF rfl ?_
      refine S.skip (S.inBlock (S.region rfl ?_))
      refine O.op (.p rfl) (.mv rfl) ?_
      refine O.op (.p rfl) (.add rfl rfl (IntWalk.i64_in _ (by omega))) ?_
      refine O.op (.p rfl) (.as rfl) ?_
      refine O.nil ?_
      refine S.pk ?_ (S.melt hm2 (S.weaken ?_ (ih (i + 1) (by exact hi) (by omega))))
      · repeat (first | exact Picks.all | exact Picks.nil | (apply Picks.cons; focus (repeat (first | exact Sel.here | apply Sel.there))) | apply Picks.skip)
      repeat (first | exact Sub.nil | refine Sub.cons rfl ?_)
    · clear ih
      refine S.exit rfl ?_
      refine S.seq (S.region rfl ?_)
      refine O.op (.p rfl) (.mv rfl) ?_
      refine O.callSs (.p rfl) rfl FactDalike.ok19 rfl rfl (by repeat (first | exact Sels.nil | (apply Sels.cons; focus (repeat (first | exact Sel.here | apply Sel.there))))) (copy_g hat3') ?_
      rintro v64 _ ⟨d64, u64, w64, rfl, rfl⟩
      try simp only [List.cons_append, List.nil_append, List.append_nil]
      refine O.frzO (by repeat (first | exact Sel.here | apply Sel.there)) fun g hs hm hat5 => ?_
      replace hg := Fr.sub_trans hg hs
      replace hR := melted hR hm
      try replace hat1 := hat1.mono hs
      try replace hat2 := hat2.mono hs
      try replace ha17 := ha17.mono hs
      try replace ha20 := ha20.mono hs
      try replace hat3 := hat3.mono hs
      try replace hat4 := hat4.mono hs
      try replace hat3' := hat3'.mono hs
      try replace hat4' := hat4'.mono hs
      replace hm1 := meltTrans hm1 hm
      replace hm2 := meltTrans hm2 hm
      clear hs hm
      refine O.op (.p rfl) (.as rfl) ?_
      refine O.nil ?_
      refine S.seq (S.region rfl ?_)
      refine O.op (.p rfl) (.mv rfl) ?_
      refine O.callSs (.p rfl) rfl FactDalike.ok19 rfl rfl (by repeat (first | exact Sels.nil | (apply Sels.cons; focus (repeat (first | exact Sel.here | apply Sel.there))))) (copy_g hat4') ?_
      rintro v66 _ ⟨d66, u66, w66, rfl, rfl⟩
      try simp only [List.cons_append, List.nil_append, List.append_nil]
      refine O.frzO (by repeat (first | exact Sel.here | apply Sel.there)) fun g hs hm hat6 => ?_
      replace hg := Fr.sub_trans hg hs
      replace hR := melted hR hm
      try replace hat1 := hat1.mono hs
      try replace hat2 := hat2.mono hs
      try replace ha17 := ha17.mono hs
      try replace ha20 := ha20.mono hs
      try replace hat3 := hat3.mono hs
      try replace hat4 := hat4.mono hs
      try replace hat3' := hat3'.mono hs
      try replace hat4' := hat4'.mono hs
      try replace hat5 := hat5.mono hs
      replace hm1 := meltTrans hm1 hm
      replace hm2 := meltTrans hm2 hm
      clear hs hm
      refine O.op (.p rfl) (.as rfl) ?_
      refine O.nil ?_
      refine S.seq (S.region rfl ?_)
      refine O.op (.p rfl) (.mv rfl) ?_
      refine O.callSs (.p rfl) rfl FactDalike.ok13 rfl rfl (by repeat (first | exact Sels.nil | (apply Sels.cons; focus (repeat (first | exact Sel.here | apply Sel.there))))) (crash_g (keep := 0) hat5 di3.ok.w1 di3.ok.w2 di3.ok.sub di3.ok.le) ?_
      rintro v68 _ ⟨s5, c5, l5, k5, hcr5, rfl, rfl⟩
      try simp only [List.cons_append, List.nil_append, List.append_nil]
      refine O.nil ?_
      refine S.region rfl ?_
      refine O.op (.p rfl) (.mv rfl) ?_
      refine O.callSs (.p rfl) rfl FactDalike.ok13 rfl rfl (by repeat (first | exact Sels.nil | (apply Sels.cons; focus (repeat (first | exact Sel.here | apply Sel.there))))) (crash_g (keep := 0) hat6 di4.ok.w1 di4.ok.w2 di4.ok.sub di4.ok.le) ?_
      rintro v70 _ ⟨s6, c6, l6, k6, hcr6, rfl, rfl⟩
      try simp only [List.cons_append, List.nil_append, List.append_nil]
      refine O.nil ?_
      refine S.inBlock (S.region rfl ?_)
      refine O.op (.p rfl) (.mv rfl) ?_
      refine O.op (.p rfl) (.add rfl rfl (IntWalk.i64_in _ (by omega))) ?_
      refine O.op (.p rfl) (.as rfl) ?_
      refine O.nil ?_
      refine S.reloop ?_
      refine S.seq (S.seq (S.region rfl ?_))
      refine O.op (.p rfl) (.mv rfl) ?_
      refine O.op (.p rfl) (.lss rfl rfl) ?_
      refine O.nil ?_
      refine S.condF rfl ?_
      refine S.exit rfl ?_
      refine S.seq (S.region rfl ?_)
      refine O.op (.p rfl) (.as rfl) ?_
      refine O.nil ?_
      refine S.ret Go.Proofs.Tryd.results21 rfl fun w hw => Holds.end_ hR hw ?_
      exact ⟨_, ⟨rfl, rfl⟩, by repeat (first | exact Picks.all | exact Picks.nil | (apply Picks.cons; focus (repeat (first | exact Sel.here | apply Sel.there))) | apply Picks.skip)⟩

end Go.Proofs.YtkkcpckgnfcncaaDoor
