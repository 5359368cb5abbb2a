import Derived.Test.YtkkcpckgnfcncaaGreatDoorRdisk7
open Go Go.Sp
set_option maxRecDepth 100000
attribute [local irreducible] obj Own OwnP
namespace Go.Proofs.YtkkcpckgnfcncaaGreatDoor
theorem FactDtells.elem24 : elemIs Go.Proofs.Tryz.prog 24 1 8 [.pointer none] := elemIs.mk (by kernel_rfl) rfl
theorem FactDtells.elem42 : elemIs Go.Proofs.Tryz.prog 42 1 8 [.pointer none] := elemIs.mk (by kernel_rfl) rfl
theorem FactDtells.flat24 : Go.Sp.flat1 Go.Proofs.Tryz.prog 24 = true := by kernel_rfl
theorem FactDtells.flat42 : Go.Sp.flat1 Go.Proofs.Tryz.prog 42 = true := by kernel_rfl
theorem FactDtells.mixed : Go.Proofs.Tryz.prog.follows .mixedOrders = true := by kernel_rfl
theorem FactDtells.ok19 : callable Go.Proofs.Tryz.prog 19 = true := by kernel_rfl
theorem FactDtells.ok20 : callable Go.Proofs.Tryz.prog 20 = true := by kernel_rfl
theorem FactDtells.ok21 : callable Go.Proofs.Tryz.prog 21 = true := by kernel_rfl
theorem FactDtells.ok22 : callable Go.Proofs.Tryz.prog 22 = true := by kernel_rfl
theorem FactDtells.ok23 : callable Go.Proofs.Tryz.prog 23 = true := by kernel_rfl
theorem FactDtells.ok24 : callable Go.Proofs.Tryz.prog 24 = true := by kernel_rfl
theorem FactDtells.ok25 : callable Go.Proofs.Tryz.prog 25 = true := by kernel_rfl
theorem FactDtells.ok6 : callable Go.Proofs.Tryz.prog 6 = true := by kernel_rfl
theorem FactDtells.ok7 : callable Go.Proofs.Tryz.prog 7 = true := by kernel_rfl
theorem FactDtells.size24 : (Go.Proofs.Tryz.prog.info? 24).map (·.size) = some 1 := by kernel_rfl
theorem FactDtells.size42 : (Go.Proofs.Tryz.prog.info? 42).map (·.size) = some 1 := by kernel_rfl
theorem FactDtells.size48 : (Go.Proofs.Tryz.prog.info? 48).map (·.size) = some 5 := by kernel_rfl

theorem rDeed_room (m : RefM) (x : DeedT) : (rDeed m x).2.room = m.room := by
  unfold rDeed
  repeat' split
  all_goals simp only
  · unfold rSyncM; split <;> rfl
  · unfold rCutM; split <;> rfl
  · unfold rRenM; split
    · rfl
    · rfl
  · unfold rRemM; split <;> rfl
  · rfl
  · unfold rAppM; split <;> rfl
/-- names: how many, how long -/
def NmOk (N : Nat) (l : List (List UInt8)) : Prop := l.length ≤ N ∧ ∀ k ∈ l, k.length ≤ 24
theorem NmOk.set {N : Nat} {l : List (List UInt8)} (h : NmOk N l) (i : Nat) {k : List UInt8} (hk : k.length ≤ 24) : NmOk N (l.set i k) :=
  ⟨by rw [List.length_set]; exact h.1, fun x hx => (List.mem_or_eq_of_mem_set hx).elim (h.2 x) fun e => by rw [e]; exact hk⟩
theorem NmOk.more {N N' : Nat} {l : List (List UInt8)} (h : NmOk N l) (hN : N ≤ N') : NmOk N' l := ⟨Nat.le_trans h.1 hN, h.2⟩
theorem rDeed_names {N : Nat} {m : RefM} (h : NmOk N m.names) (x : DeedT) : NmOk (N + 1) (rDeed m x).2.names := by
  have h1 := h.more (Nat.le_succ N)
  unfold rDeed
  repeat' split
  all_goals simp only
  · unfold rSyncM; split <;> exact h1
  · unfold rCutM; split <;> exact h1
  · unfold rRenM; split
    · rename_i he
      have hb : nameOk x.2.2.2.1 = true := by
        unfold rRenE at he
        split at he
        · rename_i hq; rw [Bool.and_eq_true] at hq; exact hq.2
        · cases he
      refine NmOk.set ?_ _ (nameOk_len hb)
      unfold rOut; split
      · exact h1.set _ (by simp)
      · exact h1
    · exact h1
  · unfold rRemM; split
    · exact h1
    · exact h1.set _ (by simp)
  · exact h1
  · unfold rAppM; split
    · rename_i he
      have hb : nameOk x.2.2.1 = true := by
        unfold rAppE at he
        split at he
        · assumption
        · cases he
      unfold rApp rNames
      simp only
      split
      · refine ⟨by rw [List.length_append, List.length_singleton]; have := h.1; omega, fun k hk => ?_⟩
        rcases List.mem_append.1 hk with q | q
        · exact h.2 k q
        · rw [List.mem_singleton.1 q]; exact nameOk_len hb
      · exact h1
    · exact h1
/-- both disks behind so many deeds -/
structure TI (R0 : Int) (N : Nat) (d : DiskM) (m : RefM) : Prop where
  di : DI R0 N d
  us : d.used ≤ 300 * N
  rel : Rel m (vOf d)
  room : m.room = d.room
  nm : NmOk N m.names
theorem TI.cells {R0 : Int} {N : Nat} {d : DiskM} {m : RefM} (t : TI R0 N d m) : m.cells.length ≤ 300 * N := by rw [← t.rel.used t.di.ok]; exact t.us
theorem TI.step {R0 : Int} {N : Nat} {d d' : DiskM} {m : RefM} {x : DeedT} {e : Int} (t : TI R0 N d m) (hN : N ≤ 1000) (hb : x.2.2.2.2.1.length ≤ 300) (h : DStep d x e d') : e = (rDeed m x).1 ∧ TI R0 (N + 1) d' (rDeed m x).2 := by
  have hv := h.view t.di.ok
  have hus := t.us
  obtain ⟨s1, s2⟩ := t.rel.step x
  rw [t.room, ← t.rel.used t.di.ok, ← hv] at s1 s2
  obtain ⟨h1, h2⟩ := DStep.di t.di h (by omega)
  exact ⟨s1.symm, h1, by omega, s2, by rw [rDeed_room, t.room, h1.room, t.di.room], rDeed_names t.nm x⟩
theorem TI.zero (room : Int) (h0 : 0 ≤ room) : TI room 0 ⟨[], 0, [], 0, room⟩ ⟨[], [], room⟩ :=
  ⟨⟨okR room h0, rfl, Nat.le_refl _, by simp⟩, Nat.le_refl _, ⟨List.nodup_nil, fun x hx => (by cases hx), fun o k hk => (by simp at hk), fun _ _ => rfl⟩, rfl, Nat.le_refl _, by simp⟩
/-- a disk and the document's, both one's own -/
def PairW (pv : Value × Value) (x : DiskM × RefM) : SProp := fun h => ∃ q : (Nat × Nat × Nat) × Nat × RefS, pv = (.pointer (some ⟨q.1.1, 0, none⟩), .pointer (some ⟨q.2.1, 0, none⟩)) ∧
  Sat ([obj q.1.1 64 (dC q.1.2.1 q.1.2.2 x.1.room), MapT q.1.2.1 x.1.safe x.1.c1, MapT q.1.2.2 x.1.loose x.1.c2] ++ refL q.2.1 x.2 q.2.2) h
theorem PairW.open {ro : Option Nat} {fn : Func} {n : Nat} {R : Ending → World → Prop} {todo : List Item} {σ : List (Nat × Value)} {D : List Deferred} {g : Gr} {η ζ : List SProp} {pv : Value × Value} {x : DiskM × RefM} (s : Sel η (PairW pv x) ζ)
    (h : ∀ p u w d s, pv = (.pointer (some ⟨p, 0, none⟩), .pointer (some ⟨d, 0, none⟩)) → S ro Go.Proofs.Tryz.prog fn n R todo σ D g ([obj p 64 (dC u w x.1.room), MapT u x.1.safe x.1.c1, MapT w x.1.loose x.1.c2] ++ refL d x.2 s ++ ζ)) : S ro Go.Proofs.Tryz.prog fn n R todo σ D g η :=
  S.sel s (S.exi (A := fun (q : (Nat × Nat × Nat) × Nat × RefS) h => pv = (.pointer (some ⟨q.1.1, 0, none⟩), .pointer (some ⟨q.2.1, 0, none⟩)) ∧ Sat ([obj q.1.1 64 (dC q.1.2.1 q.1.2.2 x.1.room), MapT q.1.2.1 x.1.safe x.1.c1, MapT q.1.2.2 x.1.loose x.1.c2] ++ refL q.2.1 x.2 q.2.2) h)
    fun q => S.fact (fun _ y => y.1) fun e => S.entail (fun _ y => y.2) (h q.1.1 q.1.2.1 q.1.2.2 q.2.1 q.2.2 e))
theorem TI.more {R0 : Int} {N N' : Nat} {d : DiskM} {m : RefM} (t : TI R0 N d m) (h : N ≤ N') : TI R0 N' d m := ⟨t.di.more h, Nat.le_trans t.us (by omega), t.rel, t.room, t.nm.more h⟩
theorem diskTells_c {r : Fr} {room : Int} {va : Value} {ds : List DeedT} (ha : Arr DeedR r va ds) (hq : ∀ x ∈ ds, x.2.2.1.length ≤ 140737488355328 ∧ x.2.2.2.1.length ≤ 140737488355328) :
    Con Go.Proofs.Tryz.prog 4 #[.int .i64 room, va] r [] (Ret fun v η => v = .bool true ∧ η = []) := by
  refine Con.of (n := 79) [.int .i64 room, va] rfl Go.Proofs.Tryz.func4 rfl rfl rfl fun g hg R hR => ?_
  have ha := ha.mono hg
  obtain ⟨a1, c1, rfl⟩ := ha.shape
  refine S.seq (S.region rfl ?_)
  refine O.op (.p rfl) (.as rfl) ?_
  refine O.nil ?_
  refine S.seq (S.seq (S.region rfl ?_))
  refine O.op (.p rfl) (.mv rfl) ?_
  refine O.call0 (.p rfl) rfl FactDtells.ok19 rfl rfl (light_c ha hq) ?_
  rintro v12 _ ⟨rfl, rfl⟩
  try simp only [List.cons_append, List.nil_append, List.append_nil]
  refine O.op (.p rfl) ((by first | exact .notD rfl | exact .not rfl)) ?_
  refine O.nil ?_
  first | refine S.condD rfl (fun h13 => ?_) (fun h13 => ?_) | refine S.condB rfl (fun h13 => ?_) (fun h13 => ?_)
  · refine S.seq (S.region rfl ?_)
    refine O.call0 (.p rfl) rfl FactDtells.ok6 rfl rfl (awake_c) ?_
    rintro v14 _ ⟨rfl, rfl⟩
    try simp only [List.cons_append, List.nil_append, List.append_nil]
    refine O.op (.p rfl) (.as rfl) ?_
    refine O.nil ?_
    refine S.ret Go.Proofs.Tryz.results4 rfl fun w hw => Holds.end_ hR hw ?_
    exact ⟨_, ⟨rfl, rfl⟩, by repeat (first | exact Picks.all | exact Picks.nil | (apply Picks.cons; focus (repeat (first | exact Sel.here | apply Sel.there))) | apply Picks.skip)⟩
  · have hli : lightB ds = true := by simpa using h13
    obtain ⟨hl80, hlx⟩ := light_all hli
    obtain ⟨R0, hR0⟩ : ∃ R0, R0 = max room 0 := ⟨_, rfl⟩
    have hrm : (if room < 0 then 0 else room) = R0 := by rw [hR0]; split <;> omega
    have hr0 : 0 ≤ R0 := by omega
    refine S.skip (S.seq (S.region rfl ?_))
    refine O.op (.p rfl) (.mv rfl) ?_
    refine O.call0 (.p rfl) rfl FactDtells.ok7 rfl rfl ((new_c room)) ?_
    rintro v16 _ ⟨d16, q116, q216, rfl, rfl⟩
    try simp only [List.cons_append, List.nil_append, List.append_nil]
    rw [hrm]
    refine O.frzO (by repeat (first | exact Sel.here | apply Sel.there)) fun g hs hm hat => ?_
    replace hg := Fr.sub_trans hg hs
    replace hR := melted hR hm
    try replace ha := ha.mono hs
    clear hs hm
    refine O.op (.p rfl) (.mv rfl) ?_
    refine O.call0 (.p rfl) rfl FactDtells.ok20 rfl rfl ((refNew_c room)) ?_
    rintro v18 _ ⟨x18, rfl, rfl⟩
    try simp only [List.cons_append, List.nil_append, List.append_nil]
    rw [← hR0]
    refine O.op (.p rfl) (.as rfl) ?_
    refine O.op (.p rfl) (.as rfl) ?_
    refine O.nil ?_
    refine S.seq (S.region rfl ?_)
    refine O.op (.p rfl) (.as rfl) ?_
    refine O.nil ?_
    refine S.seq (S.region rfl ?_)
    refine O.op (.p rfl) (.as rfl) ?_
    refine O.nil ?_
    refine S.seq (S.seq (S.region rfl ?_))
    refine O.op (.p rfl) (.as rfl) ?_
    refine O.nil ?_
    refine S.block ?_
    refine S.each0 PairW ?_
    refine S.addNil (T := Rp.val) (e := 42) ?_
    refine S.addNil (T := Rp.val) (e := 24) ?_
    refine S.pk (ζ := [OwnP Rp.val 24 (.slice none 0 0) [], OwnP Rp.val 42 (.slice none 0 0) [], EachP PairW ([].zip []) [], MapT q116 [] 0, MapT q216 [] 0] ++ refL x18 ⟨[], [], R0⟩ ((none, 0), (none, 0))) (by repeat (first | exact Picks.all | exact Picks.nil | (apply Picks.cons; focus (repeat (first | exact Sel.here | apply Sel.there))) | apply Picks.skip)) ?_
    refine S.loopK4 (ι := Nat) (κ := DiskM × RefM) (υ := RefS × (Option Addr × Nat) × (Option Addr × Nat)) (τ := List Value × List Value × List (DiskM × RefM)) (fun i mm q L => i ≤ ds.length ∧ TI R0 i mm.1 mm.2 ∧ L.1.length ≤ i ∧ L.2.1.length = L.1.length ∧ L.2.2.length = L.1.length ∧ (∀ x ∈ L.2.2, TI R0 81 x.1 x.2)) (fun i mm q L => [(9, .int .i64 (i : Int)), (7, .slice q.2.1.1 L.1.length q.2.1.2), (8, .slice q.2.2.1 L.1.length q.2.2.2)]) [(1, _), (5, _), (6, _)] (fun i mm q L => [OwnP Rp.val 24 (.slice q.2.1.1 L.1.length q.2.1.2) L.1, OwnP Rp.val 42 (.slice q.2.2.1 L.1.length q.2.2.2) L.2.1, EachP PairW (L.1.zip L.2.1) L.2.2, MapT q116 mm.1.safe mm.1.c1, MapT q216 mm.1.loose mm.1.c2] ++ refL x18 mm.2 q.1) (fun i mm q L => ds.length - i) (0) ((⟨[], 0, [], 0, R0⟩, ⟨[], [], R0⟩)) ((((none, 0), (none, 0)), (none, 0), (none, 0))) (([], [], [])) (by exact ⟨Nat.zero_le _, TI.zero R0 hr0, Nat.le_refl _, rfl, rfl, by simp⟩) (.cons rfl (.cons rfl (.cons rfl (.nil)))) (.cons rfl (.cons rfl (.cons rfl (.nil)))) rfl fun i mm q L hx ih => ?_
    have hm1 := meltRefl (g := g)
    obtain ⟨m, rm⟩ := mm
    obtain ⟨s, ⟨a7, c7⟩, ⟨a8, c8⟩⟩ := q
    obtain ⟨vs, us, xs⟩ := L
    obtain ⟨hx1, ti, hx3, hx4, hx5, hx6⟩ := hx
    simp only at ti hx3 hx4 hx5 hx6 ⊢
    simp only [refL, List.cons_append, List.nil_append]
    have hat' : At g.h ⟨d16, 0, none⟩ (dC q116 q216 m.room) := by rw [ti.di.room]; exact hat
    have hcl := ti.cells
    have hnl := ti.nm.1
    refine S.seq (S.seq (S.region rfl ?_))
    refine O.op (.p rfl) (.mv rfl) ?_
    refine O.op (.p rfl) (.mv rfl) ?_
    refine O.op (.p rfl) (.len rfl Go.Proofs.Tryz.underlying40 rfl) ?_
    refine O.op (.p rfl) (.lss rfl rfl) ?_
    refine O.nil ?_
    first | refine S.condD rfl (fun h22 => ?_) (fun h22 => ?_) | refine S.condB rfl (fun h22 => ?_) (fun h22 => ?_)
    · have hi : i < ds.length := by omega
      obtain ⟨hl1, hl2⟩ := hlx ds[i] (List.getElem_mem hi)
      refine S.skip (S.seq (S.block (S.seq (S.seq (S.regionD (L := [0, 1, 2, 3, 4, 6, 7, 8, 9, 10, 5, 11, 12, 13, 14, 15, 16, 17, 18]) FactDtells.mixed (by kernel_rfl) ?_)))))
      refine .quiet (.p rfl) rfl (fun _ => .mv rfl) ?_
      refine .quiet (.p rfl) rfl (fun _ => .mv rfl) ?_
      refine .quiet (.p rfl) rfl (fun _ => .mv rfl) ?_
      refine OD.idx' (.p rfl) Go.Proofs.Tryz.underlying40 FactDtells.size48 rfl rfl rfl (ha) (by decide) (by first | omega | (simp; done) | (simp; omega) | decide) (fun p28 cs28 hp28 hr28 => ?_)
      obtain ⟨a28, c28, rfl, hd28, hb128, hb228⟩ := DeedR.open hr28
      refine .quiet (.p rfl) rfl (fun _ => .loadAgg Go.Proofs.Tryz.isAgg48 (by kernel_rfl) rfl hp28) ?_
      refine .quiet (.p rfl) rfl (fun _ => .mv rfl) ?_
      refine .quiet (.p rfl) rfl (fun _ => .mv rfl) ?_
      refine .quiet (.p rfl) rfl (fun _ => .mv rfl) ?_
      refine OD.idx' (.p rfl) Go.Proofs.Tryz.underlying40 FactDtells.size48 rfl rfl rfl (ha) (by decide) (by first | omega | (simp; done) | (simp; omega) | decide) (fun p34 cs34 hp34 hr34 => ?_)
      obtain ⟨a34, c34, rfl, hd34, hb134, hb234⟩ := DeedR.open hr34
      refine .quiet (.p rfl) rfl (fun _ => .loadAgg Go.Proofs.Tryz.isAgg48 (by kernel_rfl) rfl hp34) ?_
      refine OD.callSs (.p rfl) (by kernel_rfl) rfl FactDtells.ok21 rfl rfl (by repeat (first | exact Sels.nil | (apply Sels.cons; focus (repeat (first | exact Sel.here | apply Sel.there))))) (does_g (x := ds[i]) hat' ti.di.ok hd28 hb128 hb228 (by omega)) ?_
      rintro v30 _ ⟨e30, m30, hst, rfl, rfl⟩
      try simp only [List.cons_append, List.nil_append, List.append_nil]
      obtain ⟨hee, t2⟩ := ti.step (by omega) hl1 hst
      try simp only [dW, List.cons_append, List.nil_append]
      refine OD.callSs (.p rfl) (by kernel_rfl) rfl FactDtells.ok22 rfl rfl (by repeat (first | exact Sels.nil | (apply Sels.cons; focus (repeat (first | exact Sel.here | apply Sel.there))))) (wants_c (x := ds[i]) hd34 (by omega) (by omega) hb134 hb234 (by omega)) ?_
      rintro v36 _ ⟨s36, rfl, rfl⟩
      try simp only [List.cons_append, List.nil_append, List.append_nil]
      simp only [refL, List.cons_append, List.nil_append]
      refine .quiet (.p rfl) rfl (fun _ => .neq rfl rfl) ?_
      refine OD.slot 37 (v' := .bool false) rfl (congrArg Value.bool (by simp [hee])) ?_
      refine .quiet (.p rfl) rfl (fun _ => .mv rfl) ?_
      refine .quiet (.g rfl rfl) rfl (fun _ => .mv rfl) ?_
      refine .quiet (.g rfl rfl) rfl (fun _ => .mv rfl) ?_
      have hat2 : At g.h ⟨d16, 0, none⟩ (dC q116 q216 m30.room) := by rw [t2.di.room]; exact hat
      have hcl2 := t2.cells
      have hnl2 := t2.nm.1
      refine OD.callSs (.g rfl rfl) (by kernel_rfl) rfl FactDtells.ok23 rfl rfl (by repeat (first | exact Sels.nil | (apply Sels.cons; focus (repeat (first | exact Sel.here | apply Sel.there))))) (bare_g hat2 t2.di (by omega) t2.rel (by omega) (by omega) (fun k hk => Nat.le_trans (t2.nm.2 k hk) (by decide))) ?_
      rintro v41 _ ⟨rfl, rfl⟩
      try simp only [List.cons_append, List.nil_append, List.append_nil]
      simp only [refL, List.cons_append, List.nil_append]
      refine OD.slot 41 (v' := .bool true) rfl (congrArg Value.bool (by first | decide | simp)) ?_
      refine .quiet (.g rfl rfl) rfl (fun _ => .not rfl) ?_
      refine .quiet (.p rfl) rfl (fun _ => .pickF rfl rfl) ?_
      refine .nil ?_
      refine S.condF rfl ?_
      refine S.skip (S.seq (S.region rfl ?_))
      refine O.op (.p rfl) (.mv rfl) ?_
      refine O.op (.p rfl) (.rem rfl rfl (by omega)) ?_
      refine O.op (.p rfl) (.eql rfl rfl) ?_
      refine O.nil ?_
      first | refine S.condD rfl (fun h46 => ?_) (fun h46 => ?_) | refine S.condB rfl (fun h46 => ?_) (fun h46 => ?_)
      · refine S.seq (S.region rfl ?_)
        refine O.op (.p rfl) (.mv rfl) ?_
        refine O.op (.p rfl) (.mv rfl) ?_
        refine O.callSs (.p rfl) rfl FactDtells.ok24 rfl rfl (by repeat (first | exact Sels.nil | (apply Sels.cons; focus (repeat (first | exact Sel.here | apply Sel.there))))) (copy_g hat2) ?_
        rintro v49 _ ⟨d49, u49, w49, rfl, rfl⟩
        try simp only [List.cons_append, List.nil_append, List.append_nil]
        refine O.opE (.p rfl) (.litP (T := Rp.val) (ys := [_]) Go.Proofs.Tryz.underlying44 FactDtells.elem24 (by decide) rfl rfl ⟨⟨rfl, rfl⟩, trivial⟩ (by decide)) ?_
        rintro _ _ ⟨a50, c50, rfl, rfl⟩
        refine O.opE (.p rfl) (.appendO (T := Rp.val) Go.Proofs.Tryz.underlying44 FactDtells.elem24 (by decide) rfl rfl (by repeat (first | exact Sel.here | apply Sel.there)) (by repeat (first | exact Sel.here | apply Sel.there)) (by first | omega | (simp; done) | (simp; omega) | decide) (by first | omega | (simp; done) | (simp; omega) | decide)) ?_
        rintro _ _ ⟨a51, c51, rfl, rfl⟩
        refine O.op (.p rfl) (.as rfl) ?_
        refine O.nil ?_
        refine S.region rfl ?_
        refine O.op (.p rfl) (.mv rfl) ?_
        refine O.op (.p rfl) (.mv rfl) ?_
        refine O.callSs (.p rfl) rfl FactDtells.ok25 rfl rfl (by repeat (first | exact Sels.nil | (apply Sels.cons; focus (repeat (first | exact Sel.here | apply Sel.there))))) (refCopy_w (by omega) (by omega)) ?_
        rintro v54 _ ⟨x54, s54, rfl, rfl⟩
        try simp only [List.cons_append, List.nil_append, List.append_nil]
        simp only [refL, List.cons_append, List.nil_append]
        refine O.opE (.p rfl) (.litP (T := Rp.val) (ys := [_]) Go.Proofs.Tryz.underlying45 FactDtells.elem42 (by decide) rfl rfl ⟨⟨rfl, rfl⟩, trivial⟩ (by decide)) ?_
        rintro _ _ ⟨a55, c55, rfl, rfl⟩
        refine O.opE (.p rfl) (.appendO (T := Rp.val) Go.Proofs.Tryz.underlying45 FactDtells.elem42 (by decide) rfl rfl (by repeat (first | exact Sel.here | apply Sel.there)) (by repeat (first | exact Sel.here | apply Sel.there)) (by first | omega | (simp; done) | (simp; omega) | decide) (by first | omega | (simp; done) | (simp; omega) | decide)) ?_
        rintro _ _ ⟨a56, c56, rfl, rfl⟩
        refine O.op (.p rfl) (.as rfl) ?_
        refine O.nil ?_
        refine S.inBlock (S.region rfl ?_)
        refine O.op (.p rfl) (.mv rfl) ?_
        refine O.op (.p rfl) (.add rfl rfl (IntWalk.i64_in _ (by omega))) ?_
        refine O.op (.p rfl) (.as rfl) ?_
        refine O.nil ?_
        have hx6' : ∀ x ∈ xs ++ [(m30, (rDeed rm ds[i]).2)], TI R0 81 x.1 x.2 := fun x hx => by
          rcases List.mem_append.1 hx with h | h
          · exact hx6 x h
          · rw [List.mem_singleton.1 h]; exact t2.more (by omega)
        refine S.ownIs (T := Rp.val) (e := 24) (v' := .slice a51 (vs ++ [Value.pointer (some ⟨d49, 0, none⟩)]).length c51) (xs' := vs ++ [Value.pointer (some ⟨d49, 0, none⟩)]) (by repeat (first | exact Sel.here | apply Sel.there)) (by simp) rfl ?_
        refine S.ownIs (T := Rp.val) (e := 42) (v' := .slice a56 (vs ++ [Value.pointer (some ⟨d49, 0, none⟩)]).length c56) (xs' := us ++ [Value.pointer (some ⟨x54, 0, none⟩)]) (by repeat (first | exact Sel.here | apply Sel.there)) (by simp [hx4]) rfl ?_
        refine S.slot 7 (v' := .slice a51 (vs ++ [Value.pointer (some ⟨d49, 0, none⟩)]).length c51) rfl (by simp) ?_
        refine S.slot 8 (v' := .slice a56 (vs ++ [Value.pointer (some ⟨d49, 0, none⟩)]).length c56) rfl (by simp [hx4]) ?_
        refine S.pk (ζ := ([obj d49 64 (dC u49 w49 m30.room), MapT u49 m30.safe m30.c1, MapT w49 m30.loose m30.c2] ++ refL x54 (rDeed rm ds[i]).2 s54) ++ ([EachP PairW (vs.zip us) xs, OwnP Rp.val 24 (.slice a51 (vs ++ [Value.pointer (some ⟨d49, 0, none⟩)]).length c51) (vs ++ [Value.pointer (some ⟨d49, 0, none⟩)]), OwnP Rp.val 42 (.slice a56 (vs ++ [Value.pointer (some ⟨d49, 0, none⟩)]).length c56) (us ++ [Value.pointer (some ⟨x54, 0, none⟩)]), MapT q116 m30.safe m30.c1, MapT q216 m30.loose m30.c2] ++ refL x18 (rDeed rm ds[i]).2 s36)) (by repeat (first | exact Picks.all | exact Picks.nil | (apply Picks.cons; focus (repeat (first | exact Sel.here | apply Sel.there))) | apply Picks.skip)) ?_
        refine S.fold (A := PairW (.pointer (some ⟨d49, 0, none⟩), .pointer (some ⟨x54, 0, none⟩)) (m30, (rDeed rm ds[i]).2)) (fun _ h => ⟨((d49, u49, w49), x54, s54), rfl, h⟩) ?_
        refine S.each (A := PairW) (bs := vs.zip us) (by repeat (first | exact Sel.here | apply Sel.there)) (by repeat (first | exact Sel.here | apply Sel.there)) ?_
        rw [show vs.zip us ++ [(Value.pointer (some ⟨d49, 0, none⟩), .pointer (some ⟨x54, 0, none⟩))] = (vs ++ [Value.pointer (some ⟨d49, 0, none⟩)]).zip (us ++ [Value.pointer (some ⟨x54, 0, none⟩)]) from by rw [List.zip_append hx4.symm]; rfl]
        simp only [refL, List.cons_append, List.nil_append]
        refine S.pk ?_ (S.weaken ?_ (ih (i + 1) ((m30, (rDeed rm ds[i]).2)) ((s36, (a51, c51), (a56, c56))) ((vs ++ [Value.pointer (some ⟨d49, 0, none⟩)], us ++ [Value.pointer (some ⟨x54, 0, none⟩)], xs ++ [(m30, (rDeed rm ds[i]).2)])) (by exact ⟨hi, t2, by simp; omega, by simp [hx4], by simp [hx5], hx6'⟩) (by omega)))
        · repeat (first | exact Picks.all | exact Picks.nil | (apply Picks.cons; focus (repeat (first | exact Sel.here | apply Sel.there))) | apply Picks.skip)
        repeat (first | exact Sub.nil | refine Sub.cons rfl ?_)
      · refine S.skip (S.inBlock (S.region rfl ?_))
        refine O.op (.p rfl) (.mv rfl) ?_
        refine O.op (.p rfl) (.add rfl rfl (IntWalk.i64_in _ (by omega))) ?_
        refine O.op (.p rfl) (.as rfl) ?_
        refine O.nil ?_
        refine S.pk ?_ (S.weaken ?_ (ih (i + 1) ((m30, (rDeed rm ds[i]).2)) ((s36, (a7, c7), (a8, c8))) ((vs, us, xs)) (by exact ⟨hi, t2, by simp only; omega, hx4, hx5, hx6⟩) (by omega)))
        · repeat (first | exact Picks.all | exact Picks.nil | (apply Picks.cons; focus (repeat (first | exact Sel.here | apply Sel.there))) | apply Picks.skip)
        repeat (first | exact Sub.nil | refine Sub.cons rfl ?_)
    · clear ih
      have hie : i = ds.length := by omega
      refine S.exit rfl ?_
      refine S.seq (S.seq (S.region rfl ?_))
      refine O.op (.p rfl) (.as rfl) ?_
      refine O.nil ?_
      refine S.block ?_
      refine S.pk (ζ := [OwnP Rp.val 24 (.slice a7 vs.length c7) vs, OwnP Rp.val 42 (.slice a8 vs.length c8) us, EachP PairW (vs.zip us) xs, MapT q116 m.safe m.c1, MapT q216 m.loose m.c2] ++ refL x18 rm s) (by repeat (first | exact Picks.all | exact Picks.nil | (apply Picks.cons; focus (repeat (first | exact Sel.here | apply Sel.there))) | apply Picks.skip)) ?_
      simp only [refL, List.cons_append, List.nil_append]
      refine S.frzA (by repeat (first | exact Sel.here | apply Sel.there)) fun g hs hm hold => ?_
      replace hg := Fr.sub_trans hg hs
      replace hR := melted hR hm
      try replace ha := ha.mono hs
      try replace hat := hat.mono hs
      try replace hat' := hat'.mono hs
      replace hm1 := meltTrans hm1 hm
      clear hs hm
      refine S.frzA (by repeat (first | exact Sel.here | apply Sel.there)) fun g hs hm hwas => ?_
      replace hg := Fr.sub_trans hg hs
      replace hR := melted hR hm
      try replace ha := ha.mono hs
      try replace hat := hat.mono hs
      try replace hat' := hat'.mono hs
      try replace hold := hold.mono hs
      replace hm1 := meltTrans hm1 hm
      clear hs hm
      refine S.pk (ζ := [EachP PairW ((vs.zip us).drop 0) (xs.drop 0), MapT q116 m.safe m.c1, MapT q216 m.loose m.c2] ++ refL x18 rm s) (by repeat (first | exact Picks.all | exact Picks.nil | (apply Picks.cons; focus (repeat (first | exact Sel.here | apply Sel.there))) | apply Picks.skip)) ?_
      refine S.loopK (ι := Nat) (fun j => j ≤ vs.length) (fun j => [(10, .int .i64 (j : Int))]) [(5, _), (6, _), (7, _), (8, _)] (fun j => [EachP PairW ((vs.zip us).drop j) (xs.drop j), MapT q116 m.safe m.c1, MapT q216 m.loose m.c2] ++ refL x18 rm s) (fun j => vs.length - j) (0) (by exact Nat.zero_le _) (.cons rfl (.nil)) (.cons rfl (.cons rfl (.cons rfl (.cons rfl (.nil))))) rfl fun j hx ih => ?_
      have hm2 := meltRefl (g := g)
      simp only [refL, List.cons_append, List.nil_append]
      refine S.seq (S.seq (S.region rfl ?_))
      refine O.op (.p rfl) (.mv rfl) ?_
      refine O.op (.p rfl) (.mv rfl) ?_
      refine O.op (.p rfl) (.len rfl Go.Proofs.Tryz.underlying44 rfl) ?_
      refine O.op (.p rfl) (.lss rfl rfl) ?_
      refine O.nil ?_
      first | refine S.condD rfl (fun h60 => ?_) (fun h60 => ?_) | refine S.condB rfl (fun h60 => ?_) (fun h60 => ?_)
      · have hj : j < vs.length := by omega
        have hju : j < us.length := by omega
        have hjx : j < xs.length := by omega
        have tq := hx6 xs[j] (List.getElem_mem hjx)
        have hqc := tq.cells
        have hqn := tq.nm.1
        rw [show (vs.zip us).drop j = (vs[j], us[j]) :: (vs.zip us).drop (j + 1) from by rw [List.drop_eq_getElem_cons (by simp; omega), List.getElem_zip], List.drop_eq_getElem_cons hjx]
        refine S.eachPop (by repeat (first | exact Sel.here | apply Sel.there)) ?_
        refine PairW.open (by repeat (first | exact Sel.here | apply Sel.there)) fun pd uq wq xd sq e => ?_
        obtain ⟨e1, e2⟩ := Prod.mk.inj e
        simp only [refL, List.cons_append, List.nil_append]
        refine S.frzO (by repeat (first | exact Sel.here | apply Sel.there)) fun g hs hm hatQ => ?_
        replace hg := Fr.sub_trans hg hs
        replace hR := melted hR hm
        try replace ha := ha.mono hs
        try replace hat := hat.mono hs
        try replace hat' := hat'.mono hs
        try replace hold := hold.mono hs
        try replace hwas := hwas.mono hs
        replace hm1 := meltTrans hm1 hm
        replace hm2 := meltTrans hm2 hm
        clear hs hm
        refine S.skip (S.seq (S.block (S.seq (S.regionD (L := [0, 1, 2, 3, 4, 5, 6, 7, 8, 9]) FactDtells.mixed (by kernel_rfl) ?_))))
        refine .quiet (.p rfl) rfl (fun _ => .mv rfl) ?_
        refine .quiet (.p rfl) rfl (fun _ => .mv rfl) ?_
        refine OD.idx' (.p rfl) Go.Proofs.Tryz.underlying44 FactDtells.size24 rfl rfl rfl (hold) (by decide) (by first | omega | (simp; done) | (simp; omega) | decide) (fun p65 cs65 hp65 hr65 => ?_)
        obtain ⟨rfl, _⟩ := hr65
        refine .quiet (.p rfl) rfl (fun _ => .loadAt FactDtells.flat24 rfl hp65 rfl) ?_
        refine OD.slot 66 (v' := .pointer (some ⟨pd, 0, none⟩)) rfl (by exact e1) ?_
        refine .quiet (.p rfl) rfl (fun _ => .mv rfl) ?_
        refine .quiet (.p rfl) rfl (fun _ => .mv rfl) ?_
        refine OD.idx' (.p rfl) Go.Proofs.Tryz.underlying45 FactDtells.size42 rfl rfl rfl (hwas) (by decide) (by first | omega | (simp; done) | (simp; omega) | decide) (fun p69 cs69 hp69 hr69 => ?_)
        obtain ⟨rfl, _⟩ := hr69
        refine .quiet (.p rfl) rfl (fun _ => .loadAt FactDtells.flat42 rfl hp69 rfl) ?_
        refine OD.slot 70 (v' := .pointer (some ⟨xd, 0, none⟩)) rfl (by exact e2) ?_
        refine OD.callSs (.p rfl) (by kernel_rfl) rfl FactDtells.ok23 rfl rfl (by repeat (first | exact Sels.nil | (apply Sels.cons; focus (repeat (first | exact Sel.here | apply Sel.there))))) (bare_g hatQ tq.di (by omega) tq.rel (by omega) (by omega) (fun k hk => Nat.le_trans (tq.nm.2 k hk) (by decide))) ?_
        rintro v71 _ ⟨rfl, rfl⟩
        try simp only [List.cons_append, List.nil_append, List.append_nil]
        simp only [refL, List.cons_append, List.nil_append]
        refine OD.slot 71 (v' := .bool true) rfl (congrArg Value.bool (by first | decide | simp)) ?_
        refine .quiet (.p rfl) rfl (fun _ => .not rfl) ?_
        refine .nil ?_
        refine S.condF rfl ?_
        refine S.skip (S.inBlock (S.region rfl ?_))
        refine O.op (.p rfl) (.mv rfl) ?_
        refine O.op (.p rfl) (.add rfl rfl (IntWalk.i64_in _ (by omega))) ?_
        refine O.op (.p rfl) (.as rfl) ?_
        refine O.nil ?_
        refine S.pk ?_ (S.melt hm2 (S.weaken ?_ (ih (j + 1) (by exact hj) (by omega))))
        · repeat (first | exact Picks.all | exact Picks.nil | (apply Picks.cons; focus (repeat (first | exact Sel.here | apply Sel.there))) | apply Picks.skip)
        repeat (first | exact Sub.nil | refine Sub.cons rfl ?_)
      · clear ih
        refine S.exit rfl ?_
        refine S.seq (S.region rfl ?_)
        refine O.op (.p rfl) (.mv rfl) ?_
        refine O.op (.p rfl) (.mv rfl) ?_
        refine O.callSs (.p rfl) rfl FactDtells.ok23 rfl rfl (by repeat (first | exact Sels.nil | (apply Sels.cons; focus (repeat (first | exact Sel.here | apply Sel.there))))) (bare_g hat' ti.di (by omega) ti.rel (by omega) (by omega) (fun k hk => Nat.le_trans (ti.nm.2 k hk) (by decide))) ?_
        rintro v75 _ ⟨rfl, rfl⟩
        try simp only [List.cons_append, List.nil_append, List.append_nil]
        refine O.op (.p rfl) (.mv rfl) ?_
        refine O.call0 (.g rfl rfl) rfl FactDtells.ok6 rfl rfl (awake_c) ?_
        rintro v77 _ ⟨rfl, rfl⟩
        try simp only [List.cons_append, List.nil_append, List.append_nil]
        refine O.op (.p rfl) (.pickT rfl rfl) ?_
        refine O.op (.p rfl) (.as rfl) ?_
        refine O.nil ?_
        refine S.ret Go.Proofs.Tryz.results4 rfl fun w hw => Holds.end_ hR hw ?_
        exact ⟨_, ⟨rfl, rfl⟩, by repeat (first | exact Picks.all | exact Picks.nil | (apply Picks.cons; focus (repeat (first | exact Sel.here | apply Sel.there))) | apply Picks.skip)⟩

end Go.Proofs.YtkkcpckgnfcncaaGreatDoor
