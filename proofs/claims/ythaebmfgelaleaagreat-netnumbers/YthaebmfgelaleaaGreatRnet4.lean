import Derived.Test.YthaebmfgelaleaaGreatRnet3
open Go Go.Sp
set_option maxRecDepth 100000
attribute [local irreducible] obj Own OwnP
namespace Go.Proofs.YthaebmfgelaleaaGreat
theorem FactRnet4.elem54 : elemIs Go.Proofs.Tryz.prog 54 2 16 [.int .i64 0, .int .i64 0] := elemIs.mk (by kernel_rfl) rfl
theorem FactRnet4.flat29 : Go.Sp.flat1 Go.Proofs.Tryz.prog 29 = true := by kernel_rfl
theorem FactRnet4.flat3 : Go.Sp.flat1 Go.Proofs.Tryz.prog 3 = true := by kernel_rfl
theorem FactRnet4.fld35x0 : fieldOff Go.Proofs.Tryz.prog 35 0 = some 0 := by kernel_rfl
theorem FactRnet4.fld35x1 : fieldOff Go.Proofs.Tryz.prog 35 1 = some 1 := by kernel_rfl
theorem FactRnet4.fld61x0 : fieldOff Go.Proofs.Tryz.prog 61 0 = some 0 := by kernel_rfl
theorem FactRnet4.mixed : Go.Proofs.Tryz.prog.follows .mixedOrders = true := by kernel_rfl
theorem FactRnet4.size3 : (Go.Proofs.Tryz.prog.info? 3).map (·.size) = some 1 := by kernel_rfl
theorem FactRnet4.size35 : (Go.Proofs.Tryz.prog.info? 35).map (·.size) = some 3 := by kernel_rfl
theorem FactRnet4.size54 : (Go.Proofs.Tryz.prog.info? 54).map (·.size) = some 2 := by kernel_rfl

abbrev lt (y x : Int × Int) : Bool := ltOf cmp2 y x
theorem lt_iff (y x : Int × Int) : lt y x = true ↔ y.1 < x.1 ∨ (y.1 = x.1 ∧ y.2 < x.2) := by rw [lt, lt2, decide_eq_true_iff]
theorem lt_no (y x : Int × Int) : lt y x = false ↔ ¬ (y.1 < x.1 ∨ (y.1 = x.1 ∧ y.2 < x.2)) := by rw [lt, lt2, decide_eq_false_iff_not]
theorem lt_tr {x y z : Int × Int} (h1 : lt x y = true) (h2 : lt y z = true) : lt x z = true := swo2.trans _ _ _ h1 h2
/-- how many of a row are below -/
def below (out : List (Int × Int)) (x : Int × Int) (k : Nat) : Nat := ((out.take k).filter fun y => lt y x).length
theorem below_succ {out : List (Int × Int)} {x : Int × Int} {k : Nat} (h : k < out.length) : below out x (k + 1) = below out x k + if lt out[k] x then 1 else 0 := by
  unfold below
  rw [List.take_succ_eq_append_getElem h, List.filter_append, List.length_append]
  cases e : lt out[k] x <;> simp [e]
theorem below_le (out : List (Int × Int)) (x : Int × Int) (k : Nat) : below out x k ≤ k := by
  unfold below
  have h1 := List.length_filter_le (fun y => lt y x) (out.take k)
  rw [List.length_take] at h1
  omega
def Up (out : List (Int × Int)) : Prop := List.Pairwise (fun y x => lt y x = true) out
theorem Up.all {out : List (Int × Int)} (o : Up out) {x : Int × Int} {k : Nat} (h : k < out.length) (hx : lt out[k] x = true) : below out x k = k := by
  unfold below
  rw [List.filter_eq_self.2, List.length_take, Nat.min_eq_left (by omega)]
  intro y hy
  obtain ⟨j, hj, rfl⟩ := List.mem_iff_getElem.1 hy
  rw [List.length_take] at hj
  rw [List.getElem_take]
  exact lt_tr (List.pairwise_iff_getElem.1 o j k (by omega) h (by omega)) hx
theorem Up.split {x : Int × Int} : ∀ {out : List (Int × Int)}, Up out → out = out.filter (fun y => lt y x) ++ out.filter (fun y => !lt y x)
  | [], _ => rfl
  | y :: out, o => by
    have o1 := List.pairwise_cons.1 o
    cases e : lt y x with
    | true =>
      rw [List.filter_cons, if_pos e, List.filter_cons, if_neg (by simp [e]), List.cons_append]
      exact congrArg _ (Up.split o1.2)
    | false =>
      have hno : ∀ z ∈ out, lt z x = false := fun z hz => by
        cases h : lt z x with
        | false => rfl
        | true => have := lt_tr (o1.1 z hz) h; rw [e] at this; cases this
      have h1 : (y :: out).filter (fun y => lt y x) = [] := List.filter_eq_nil_iff.2 fun z hz => by
        rcases List.mem_cons.1 hz with rfl | hz
        · simp [e]
        · simp [hno z hz]
      have h2 : (y :: out).filter (fun y => !lt y x) = y :: out := List.filter_eq_self.2 fun z hz => by
        rcases List.mem_cons.1 hz with rfl | hz
        · simp [e]
        · simp [hno z hz]
      rw [h1, h2]; rfl
theorem Up.take {out : List (Int × Int)} (o : Up out) (x : Int × Int) : out.take (below out x out.length) = out.filter (fun y => lt y x) ∧ out.drop (below out x out.length) = out.filter (fun y => !lt y x) := by
  have h := o.split (x := x)
  have hl : below out x out.length = (out.filter fun y => lt y x).length := by unfold below; rw [List.take_length]
  rw [hl]
  generalize hA : out.filter (fun y => lt y x) = A at h
  generalize hB : out.filter (fun y => !lt y x) = B at h
  rw [h]
  exact ⟨List.take_left, List.drop_left⟩
/-- the row with one more -/
def insX (out : List (Int × Int)) (x : Int × Int) : List (Int × Int) := out.take (below out x out.length) ++ [x] ++ out.drop (below out x out.length)
theorem Up.ins {out : List (Int × Int)} (o : Up out) {x : Int × Int} (hx : x ∉ out) : Up (insX out x) := by
  obtain ⟨h1, h2⟩ := o.take x
  unfold insX
  rw [h1, h2]
  have h3 : ∀ y ∈ out.filter (fun y => !lt y x), lt x y = true := fun y hy => by
    obtain ⟨h4, h5⟩ := List.mem_filter.1 hy
    cases e : lt x y with
    | true => rfl
    | false => exact absurd (tot2 y x (by simpa using h5) e) (fun q => hx (q ▸ h4))
  refine List.pairwise_append.2 ⟨List.pairwise_append.2 ⟨o.filter _, List.pairwise_singleton .., fun y hy z hz => ?_⟩, o.filter _, fun y hy z hz => ?_⟩
  · rw [List.mem_singleton.1 hz]; exact (List.mem_filter.1 hy).2
  · rcases List.mem_append.1 hy with hy | hy
    · exact lt_tr (List.mem_filter.1 hy).2 (h3 z hz)
    · rw [List.mem_singleton.1 hy]; exact h3 z hz
theorem mem_insX {out : List (Int × Int)} {x y : Int × Int} : y ∈ insX out x ↔ y = x ∨ y ∈ out := by
  unfold insX
  have h : y ∈ out ↔ y ∈ out.take (below out x out.length) ∨ y ∈ out.drop (below out x out.length) := by rw [← List.mem_append, List.take_append_drop]
  rw [List.mem_append, List.mem_append, List.mem_singleton, h]
  constructor
  · rintro ((h | h) | h)
    · exact .inr (.inl h)
    · exact .inl h
    · exact .inr (.inr h)
  · rintro (h | h | h)
    · exact .inl (.inr h)
    · exact .inl (.inl h)
    · exact .inr h
/-- the links of a row of packets, rising -/
structure KeysI (row : List Pkt) (i : Nat) (out : List (Int × Int)) : Prop where
  up : Up out
  mem : ∀ k, k ∈ out ↔ ∃ p ∈ row.take i, keyP p = k
  len : out.length ≤ i
theorem KeysI.nil (row : List Pkt) : KeysI row 0 [] := ⟨.nil, by simp, Nat.le_refl _⟩
theorem KeysI.none {row : List Pkt} {i : Nat} {out : List (Int × Int)} (o : KeysI row i out) (h : i < row.length) (hx : keyP row[i] ∈ out) : KeysI row (i + 1) out := ⟨o.up, fun k => by
  rw [List.take_succ_eq_append_getElem h, o.mem]
  constructor
  · rintro ⟨p, hp, e⟩; exact ⟨p, List.mem_append_left _ hp, e⟩
  · rintro ⟨p, hp, e⟩
    rcases List.mem_append.1 hp with hp | hp
    · exact ⟨p, hp, e⟩
    · rw [List.mem_singleton.1 hp] at e; subst e; exact (o.mem _).1 hx, by have := o.len; omega⟩
theorem KeysI.one {row : List Pkt} {i : Nat} {out : List (Int × Int)} (o : KeysI row i out) (h : i < row.length) (hx : keyP row[i] ∉ out) : KeysI row (i + 1) (insX out (keyP row[i])) := ⟨o.up.ins hx, fun k => by
  rw [List.take_succ_eq_append_getElem h, mem_insX, o.mem]
  constructor
  · rintro (e | ⟨p, hp, e⟩)
    · exact ⟨_, List.mem_append_right _ (List.mem_singleton.2 rfl), e.symm⟩
    · exact ⟨p, List.mem_append_left _ hp, e⟩
  · rintro ⟨p, hp, e⟩
    rcases List.mem_append.1 hp with hp | hp
    · exact .inr ⟨p, hp, e⟩
    · rw [List.mem_singleton.1 hp] at e; exact .inl e.symm, by
  have := o.len
  have h1 := below_le out (keyP row[i]) out.length
  unfold insX
  simp only [List.length_append, List.length_take, List.length_drop, List.length_singleton]
  omega⟩
theorem Up.nodup {out : List (Int × Int)} (o : Up out) : out.Nodup := List.Pairwise.imp (fun {y x} h => fun e => by subst e; exact absurd h (by rw [lt, swo2.irrefl]; simp)) o
theorem KeysI.done {ls : NetM} {row : List Pkt} (r : Rel ls row) {out : List (Int × Int)} (o : KeysI row row.length out) : out = linksS ls := by
  have hp : out.Perm (linksS ls) := by
    refine (List.perm_ext_iff_of_nodup o.up.nodup ((sortF_perm cmp2 _).nodup_iff.2 r.inv.nd)).2 fun k => ?_
    rw [o.mem, List.take_length]
    rw [(sortF_perm cmp2 _).mem_iff]
    constructor
    · rintro ⟨p, hp, e⟩
      have h1 : p ∈ atL ls k := by rw [r.at']; exact List.mem_filter.2 ⟨hp, by simp [isK, e]⟩
      refine Classical.byContradiction fun h2 => ?_
      rw [atL, lkA_none.2 h2] at h1
      cases h1
    · intro hk
      obtain ⟨x, hx, rfl⟩ := List.mem_map.1 hk
      have h1 := r.inv.ne x hx
      rw [← atL_mem r.inv.nd hx, r.at'] at h1
      obtain ⟨p, hp⟩ := List.exists_mem_of_ne_nil _ h1
      obtain ⟨h2, h3⟩ := List.mem_filter.1 hp
      exact ⟨p, h2, by simpa [isK] using h3⟩
  have h1 : sortF cmp2 out = sortF cmp2 (ls.map (·.1)) := sort2_unique (hp.trans (sortF_perm cmp2 _))
  have h2 : out = sortF cmp2 out := List.Perm.eq_of_pairwise (fun a b _ _ p q => tot2 a b (by simpa using q) (by simpa using p)) (o.up.imp fun {y x} h => by
    cases e : ltOf cmp2 x y with
    | false => rfl
    | true => have h3 := lt_tr h e; rw [lt, swo2.irrefl] at h3; cases h3) (sort2_rises out) (sortF_perm cmp2 out).symm
  rw [h2, h1]; rfl
theorem rlinks_c {r : Fr} {d : Nat} {ls : NetM} {row : List Pkt} (hrel : Rel ls row) (hat : refR r d row) (hb : row.length ≤ 1000000) : Con Go.Proofs.Tryz.prog 22 #[.pointer (some ⟨d, 0, none⟩)] r []
    (Ret fun u η => ∃ a n, u = .slice a (linksS ls).length n ∧ η = [OwnP (Rp.cells 2) 54 (.slice a (linksS ls).length n) ((linksS ls).map cells2)]) := by
  refine Con.of (n := 97) [.pointer (some ⟨d, 0, none⟩)] rfl Go.Proofs.Tryz.func22 rfl rfl rfl fun g hg R hR => ?_
  obtain ⟨⟨a0, c0⟩, h0, hrow⟩ := hat
  replace h0 := h0.mono hg
  have hrow := hrow.mono hg
  have hbd := hrow.bound
  refine S.seq (S.region rfl ?_)
  refine O.op (.p rfl) (.as rfl) ?_
  refine O.nil ?_
  refine S.seq (S.region rfl ?_)
  refine O.op (.p rfl) (.as rfl) ?_
  refine O.nil ?_
  refine S.seq (S.seq (S.region rfl ?_))
  refine O.op (.p rfl) (.as rfl) ?_
  refine O.nil ?_
  refine S.block ?_
  refine S.addNil (T := Rp.cells 2) (e := 54) ?_
  refine S.loopK3 (ι := Nat) (κ := List (Int × Int)) (υ := Option Addr × Nat) (fun i out s => i ≤ row.length ∧ KeysI row i out) (fun i out s => [(4, .int .i64 (i : Int)), (3, .slice s.1 out.length s.2)]) [(0, _)] (fun i out s => [OwnP (Rp.cells 2) 54 (.slice s.1 out.length s.2) (out.map cells2)]) (fun i out s => row.length - i) (0) ([]) ((none, 0)) (by exact ⟨Nat.zero_le _, KeysI.nil row⟩) (.cons rfl (.cons rfl (.nil))) (.cons rfl (.nil)) rfl fun i out s hx ih => ?_
  have hm1 := meltRefl (g := g)
  obtain ⟨hx1, ho⟩ := hx
  have hol := ho.len
  refine S.seq (S.seq (S.region rfl ?_))
  refine O.op (.p rfl) (.mv rfl) ?_
  refine O.op (.p rfl) (.mv rfl) ?_
  refine O.op (.p rfl) (.nilCheck rfl) ?_
  refine O.op (.p rfl) (.fieldAddr FactRnet4.fld61x0 rfl) ?_
  refine O.op (.p rfl) (.loadAt FactRnet4.flat29 rfl h0 rfl) ?_
  refine O.op (.p rfl) (.len rfl Go.Proofs.Tryz.underlying29 rfl) ?_
  refine O.op (.p rfl) (.lss rfl rfl) ?_
  refine O.nil ?_
  first | refine S.condD rfl (fun h16 => ?_) (fun h16 => ?_) | refine S.condB rfl (fun h16 => ?_) (fun h16 => ?_)
  · have hi : i < row.length := by omega
    refine S.skip (S.seq (S.block (S.seq (S.regionD (L := [0, 1, 2, 3, 4, 5, 6, 7, 8, 9, 10, 11, 12, 13, 14, 15, 16, 17, 18]) FactRnet4.mixed (by kernel_rfl) ?_))))
    refine .quiet (.p rfl) rfl (fun _ => .mv rfl) ?_
    refine .quiet (.p rfl) rfl (fun _ => .nilCheck rfl) ?_
    refine .quiet (.p rfl) rfl (fun _ => .fieldAddr FactRnet4.fld61x0 rfl) ?_
    refine .quiet (.p rfl) rfl (fun _ => .loadAt FactRnet4.flat29 rfl h0 rfl) ?_
    refine .quiet (.p rfl) rfl (fun _ => .mv rfl) ?_
    refine OD.idx' (.p rfl) Go.Proofs.Tryz.underlying29 FactRnet4.size35 rfl rfl rfl (by first | assumption | exact Arr.mono hg (by assumption) | exact Arr.left (by assumption) | exact Arr.left (Arr.mono hg (by assumption))) (by decide) (by first | omega | (simp; done) | (simp; omega) | decide) (fun p24 cs24 hp24 hr24 => ?_)
    obtain ⟨v24, rfl, hi24, hj24, ha24⟩ := PktRp.open hr24; obtain ⟨a24, c24, rfl⟩ := ha24.shape
    refine .quiet (.p rfl) rfl (fun _ => .fieldAddr FactRnet4.fld35x0 rfl) ?_
    refine .quiet (.p rfl) rfl (fun _ => .loadAt FactRnet4.flat3 rfl hp24 rfl) ?_
    refine .quiet (.p rfl) rfl (fun _ => .mv rfl) ?_
    refine .quiet (.p rfl) rfl (fun _ => .nilCheck rfl) ?_
    refine .quiet (.p rfl) rfl (fun _ => .fieldAddr FactRnet4.fld61x0 rfl) ?_
    refine .quiet (.p rfl) rfl (fun _ => .loadAt FactRnet4.flat29 rfl h0 rfl) ?_
    refine .quiet (.p rfl) rfl (fun _ => .mv rfl) ?_
    refine OD.idx' (.p rfl) Go.Proofs.Tryz.underlying29 FactRnet4.size35 rfl rfl rfl (by first | assumption | exact Arr.mono hg (by assumption) | exact Arr.left (by assumption) | exact Arr.left (Arr.mono hg (by assumption))) (by decide) (by first | omega | (simp; done) | (simp; omega) | decide) (fun p32 cs32 hp32 hr32 => ?_)
    obtain ⟨v32, rfl, hi32, hj32, ha32⟩ := PktRp.open hr32; obtain ⟨a32, c32, rfl⟩ := ha32.shape
    refine .quiet (.p rfl) rfl (fun _ => .fieldAddr FactRnet4.fld35x1 rfl) ?_
    refine .quiet (.p rfl) rfl (fun _ => .loadAt FactRnet4.flat3 rfl (hp32.drop 1) rfl) ?_
    refine .quiet (.p rfl) rfl (fun _ => .build2 Go.Proofs.Tryz.underlying54 FactRnet4.size3 Go.Proofs.Tryz.zeroValue54 rfl rfl) ?_
    refine .lazy rfl (by kernel_rfl) rfl fun b5 => ?_
    refine OD.storeObj rfl (by kernel_rfl) (by kernel_rfl) rfl rfl rfl rfl (by repeat (first | exact Sel.here | apply Sel.there)) (by first | (simp; done) | (simp [Value.cells]; done)) ?_
    refine .nil ?_
    refine S.seq ?_
    refine S.objIs (b := b5) (cs' := [.int .i64 row[i].1, .int .i64 row[i].2.1]) (by repeat (first | exact Sel.here | apply Sel.there)) (by simp [Value.cells]) ?_
    refine S.frzO (by repeat (first | exact Sel.here | apply Sel.there)) fun g hs hm h5 => ?_
    replace hg := Fr.sub_trans hg hs
    replace hR := melted hR hm
    try replace h0 := h0.mono hs
    try replace hrow := hrow.mono hs
    try replace hp24 := hp24.mono hs
    try replace ha24 := ha24.mono hs
    try replace hp32 := hp32.mono hs
    try replace ha32 := ha32.mono hs
    replace hm1 := meltTrans hm1 hm
    clear hs hm
    refine S.frzT (B := OwnP (Rp.cells 2) 54 (.slice s.1 out.length s.2) (out.map cells2)) (by repeat (first | exact Sel.here | apply Sel.there)) fun g1 hs1 ⟨m1, hm1', hsm1⟩ th1 => ?_
    have hout := hm1'.arr.mono hsm1
    -- the row is looked at
    have ihO := ih
    have hrow_S := hrow
    have h0_S := h0
    have h5_S := h5
    replace hrow := hrow.mono hs1
    replace h0 := h0.mono hs1
    replace h5 := h5.mono hs1
    refine S.region rfl ?_
    refine O.op (.p rfl) (.as rfl) ?_
    refine O.op (.p rfl) (.as rfl) ?_
    refine O.nil ?_
    refine S.seq (S.seq (S.region rfl ?_))
    refine O.op (.p rfl) (.as rfl) ?_
    refine O.nil ?_
    refine S.block ?_
    refine S.loopK (ι := Nat) (fun k => k ≤ out.length) (fun k => [(8, .int .i64 (k : Int)), (7, .bool (decide (keyP row[i] ∈ out.take k))), (6, .int .i64 (below out (keyP row[i]) k : Int))]) [(0, _), (3, _), (4, _), (5, _)] (fun k => []) (fun k => out.length - k) (0) (by exact Nat.zero_le _) (.cons rfl (.cons rfl (.cons rfl (.nil)))) (.cons rfl (.cons rfl (.cons rfl (.cons rfl (.nil))))) rfl fun k hx ih => ?_
    have hm2 := meltRefl (g := g)
    have hbk := below_le out (keyP row[i]) k
    refine S.seq (S.seq (S.region rfl ?_))
    refine O.op (.p rfl) (.mv rfl) ?_
    refine O.op (.p rfl) (.mv rfl) ?_
    refine O.op (.p rfl) (.len rfl Go.Proofs.Tryz.underlying47 rfl) ?_
    refine O.op (.p rfl) (.lss rfl rfl) ?_
    refine O.nil ?_
    first | refine S.condD rfl (fun h39 => ?_) (fun h39 => ?_) | refine S.condB rfl (fun h39 => ?_) (fun h39 => ?_)
    · have hk : k < out.length := by omega
      have hcell : ∀ h, (out.map cells2)[k]'h = [.int .i64 out[k].1, .int .i64 out[k].2] := fun h => by rw [List.getElem_map]; rfl
      have htk : out.take (k + 1) = out.take k ++ [out[k]] := List.take_succ_eq_append_getElem hk
      have hbs := below_succ (x := keyP row[i]) hk
      have hmt : keyP row[i] ∈ out.take (k + 1) ↔ keyP row[i] ∈ out.take k ∨ out[k] = keyP row[i] := by rw [htk, List.mem_append, List.mem_singleton]; exact or_congr_right ⟨Eq.symm, Eq.symm⟩
      have hup := ho.up.all (x := keyP row[i]) hk
      have hlt := lt_iff out[k] (keyP row[i])
      have hnl := lt_no out[k] (keyP row[i])
      simp only [keyP] at hlt hnl
      by_cases hin : keyP row[i] ∈ out.take k
      ·
        refine S.skip (S.seq (S.block (S.seq (S.regionD (L := [0, 1, 2, 3, 4, 5, 6, 7, 8, 9]) FactRnet4.mixed (by kernel_rfl) ?_))))
        refine .quiet (.p rfl) rfl (fun _ => .mv rfl) ?_
        refine .quiet (.p rfl) rfl (fun _ => .mv rfl) ?_
        refine OD.slot 43 (v' := .bool true) rfl (congrArg Value.bool (by exact decide_eq_true hin)) ?_
        refine .no rfl rfl rfl rfl ?_
        refine .no rfl rfl rfl rfl ?_
        refine .no rfl rfl rfl rfl ?_
        refine .no rfl rfl rfl rfl ?_
        refine .no rfl rfl rfl rfl ?_
        refine .no rfl rfl rfl rfl ?_
        refine .quiet (.p rfl) rfl (fun _ => .pickT rfl rfl) ?_
        refine .quiet (.p rfl) rfl (fun _ => .as rfl) ?_
        refine .nil ?_
        refine S.seq ?_
        refine S.slot 7 (v' := .bool (decide (keyP row[i] ∈ out.take (k + 1)))) rfl (by rw [decide_eq_true (hmt.2 (.inl hin))]) ?_
        by_cases a1 : out[k].1 < row[i].1
        · have hl : lt out[k] (keyP row[i]) = true := hlt.2 (.inl a1)
          refine S.regionD (L := [0, 1, 2, 3, 4, 5, 6, 7, 8, 9, 10, 11, 12, 13, 14, 15, 16, 17, 18, 19, 20, 21, 22, 23, 24, 25, 26, 27]) FactRnet4.mixed (by kernel_rfl) ?_
          refine .quiet (.p rfl) rfl (fun _ => .mv rfl) ?_
          refine .quiet (.p rfl) rfl (fun _ => .mv rfl) ?_
          refine OD.idx' (.p rfl) Go.Proofs.Tryz.underlying47 FactRnet4.size54 rfl rfl rfl (hout) (by decide) (by first | omega | (simp; done) | (simp; omega) | decide) (fun p53 cs53 hp53 hr53 => ?_)
          obtain ⟨e53, _, _⟩ := hr53
          rw [hcell] at e53
          subst e53
          refine .quiet (.p rfl) rfl (fun _ => .idxArrA (j := 0) Go.Proofs.Tryz.underlying54 FactRnet4.size3 rfl rfl rfl (by omega)) ?_
          refine .quiet (.p rfl) rfl (fun _ => .loadAt FactRnet4.flat3 rfl hp53 rfl) ?_
          refine .quiet (.p rfl) rfl (fun _ => .idxArrA (j := 0) Go.Proofs.Tryz.underlying54 FactRnet4.size3 rfl rfl rfl (by omega)) ?_
          refine .quiet (.p rfl) rfl (fun _ => .loadAt FactRnet4.flat3 rfl h5 rfl) ?_
          refine .quiet (.p rfl) rfl (fun _ => .lss rfl rfl) ?_
          refine OD.slot 58 (v' := .bool true) rfl (congrArg Value.bool (by exact decide_eq_true a1)) ?_
          refine .quiet (.p rfl) rfl (fun _ => .mv rfl) ?_
          refine .no rfl rfl rfl rfl ?_
          refine .no rfl rfl rfl rfl ?_
          refine .no rfl rfl rfl rfl ?_
          refine .no rfl rfl rfl rfl ?_
          refine .no rfl rfl rfl rfl ?_
          refine .no rfl rfl rfl rfl ?_
          refine .no rfl rfl rfl rfl ?_
          refine .no rfl rfl rfl rfl ?_
          refine .no rfl rfl rfl rfl ?_
          refine .no rfl rfl rfl rfl ?_
          refine .no rfl rfl rfl rfl ?_
          refine .no rfl rfl rfl rfl ?_
          refine .no rfl rfl rfl rfl ?_
          refine .no rfl rfl rfl rfl ?_
          refine .no rfl rfl rfl rfl ?_
          refine .no rfl rfl rfl rfl ?_
          refine .no rfl rfl rfl rfl ?_
          refine .no rfl rfl rfl rfl ?_
          refine .quiet (.p rfl) rfl (fun _ => .pickT rfl rfl) ?_
          refine .nil ?_
          refine S.condT rfl ?_
          refine S.region rfl ?_
          refine O.op (.p rfl) (.mv rfl) ?_
          refine O.op (.p rfl) (.add rfl rfl (IntWalk.i64_in _ (by omega))) ?_
          refine O.op (.p rfl) (.as rfl) ?_
          refine O.nil ?_
          refine S.inBlock (S.region rfl ?_)
          refine O.op (.p rfl) (.mv rfl) ?_
          refine O.op (.p rfl) (.add rfl rfl (IntWalk.i64_in _ (by omega))) ?_
          refine O.op (.p rfl) (.as rfl) ?_
          refine O.nil ?_
          refine S.slot 6 (v' := .int .i64 (below out (keyP row[i]) (k + 1) : Int)) rfl (by rw [hbs, if_pos hl, hup hl]; rfl) ?_
          refine S.weaken ?_ (ih (k + 1) (by omega) (by omega))
          repeat (first | exact Sub.nil | refine Sub.cons rfl ?_)
        · by_cases a2 : out[k].1 = row[i].1
          · by_cases a3 : out[k].2 < row[i].2.1
            · have hl : lt out[k] (keyP row[i]) = true := hlt.2 (.inr ⟨a2, a3⟩)
              refine S.regionD (L := [0, 1, 2, 3, 4, 5, 6, 7, 8, 9, 10, 11, 12, 13, 14, 15, 16, 17, 18, 19, 20, 21, 22, 23, 24, 25, 26, 27]) FactRnet4.mixed (by kernel_rfl) ?_
              refine .quiet (.p rfl) rfl (fun _ => .mv rfl) ?_
              refine .quiet (.p rfl) rfl (fun _ => .mv rfl) ?_
              refine OD.idx' (.p rfl) Go.Proofs.Tryz.underlying47 FactRnet4.size54 rfl rfl rfl (hout) (by decide) (by first | omega | (simp; done) | (simp; omega) | decide) (fun p53 cs53 hp53 hr53 => ?_)
              obtain ⟨e53, _, _⟩ := hr53
              rw [hcell] at e53
              subst e53
              refine .quiet (.p rfl) rfl (fun _ => .idxArrA (j := 0) Go.Proofs.Tryz.underlying54 FactRnet4.size3 rfl rfl rfl (by omega)) ?_
              refine .quiet (.p rfl) rfl (fun _ => .loadAt FactRnet4.flat3 rfl hp53 rfl) ?_
              refine .quiet (.p rfl) rfl (fun _ => .idxArrA (j := 0) Go.Proofs.Tryz.underlying54 FactRnet4.size3 rfl rfl rfl (by omega)) ?_
              refine .quiet (.p rfl) rfl (fun _ => .loadAt FactRnet4.flat3 rfl h5 rfl) ?_
              refine .quiet (.p rfl) rfl (fun _ => .lss rfl rfl) ?_
              refine OD.slot 58 (v' := .bool false) rfl (congrArg Value.bool (by exact decide_eq_false a1)) ?_
              refine .quiet (.p rfl) rfl (fun _ => .mv rfl) ?_
              refine .quiet (.g rfl rfl) rfl (fun _ => .mv rfl) ?_
              refine .quiet (.g rfl rfl) rfl (fun _ => .mv rfl) ?_
              refine OD.idx' (.g rfl rfl) Go.Proofs.Tryz.underlying47 FactRnet4.size54 rfl rfl rfl (hout) (by decide) (by first | omega | (simp; done) | (simp; omega) | decide) (fun p62 cs62 hp62 hr62 => ?_)
              obtain ⟨e62, _, _⟩ := hr62
              rw [hcell] at e62
              subst e62
              refine .quiet (.g rfl rfl) rfl (fun _ => .idxArrA (j := 0) Go.Proofs.Tryz.underlying54 FactRnet4.size3 rfl rfl rfl (by omega)) ?_
              refine .quiet (.g rfl rfl) rfl (fun _ => .loadAt FactRnet4.flat3 rfl hp62 rfl) ?_
              refine .quiet (.g rfl rfl) rfl (fun _ => .idxArrA (j := 0) Go.Proofs.Tryz.underlying54 FactRnet4.size3 rfl rfl rfl (by omega)) ?_
              refine .quiet (.g rfl rfl) rfl (fun _ => .loadAt FactRnet4.flat3 rfl h5 rfl) ?_
              refine .quiet (.g rfl rfl) rfl (fun _ => .eql rfl rfl) ?_
              refine OD.slot 67 (v' := .bool true) rfl (congrArg Value.bool (by exact decide_eq_true a2)) ?_
              refine .quiet (.g rfl rfl) rfl (fun _ => .mv rfl) ?_
              refine .quiet (.g rfl rfl) rfl (fun _ => .mv rfl) ?_
              refine .quiet (.g rfl rfl) rfl (fun _ => .mv rfl) ?_
              refine OD.idx' (.g rfl rfl) Go.Proofs.Tryz.underlying47 FactRnet4.size54 rfl rfl rfl (hout) (by decide) (by first | omega | (simp; done) | (simp; omega) | decide) (fun p71 cs71 hp71 hr71 => ?_)
              obtain ⟨e71, _, _⟩ := hr71
              rw [hcell] at e71
              subst e71
              refine .quiet (.g rfl rfl) rfl (fun _ => .idxArrA (j := 1) Go.Proofs.Tryz.underlying54 FactRnet4.size3 rfl rfl rfl (by omega)) ?_
              refine .quiet (.g rfl rfl) rfl (fun _ => .loadAt FactRnet4.flat3 rfl (hp71.drop 1) rfl) ?_
              refine .quiet (.g rfl rfl) rfl (fun _ => .idxArrA (j := 1) Go.Proofs.Tryz.underlying54 FactRnet4.size3 rfl rfl rfl (by omega)) ?_
              refine .quiet (.g rfl rfl) rfl (fun _ => .loadAt FactRnet4.flat3 rfl (h5.drop 1) rfl) ?_
              refine .quiet (.g rfl rfl) rfl (fun _ => .lss rfl rfl) ?_
              refine OD.slot 76 (v' := .bool true) rfl (congrArg Value.bool (by exact decide_eq_true a3)) ?_
              refine .quiet (.g rfl rfl) rfl (fun _ => .pickT rfl rfl) ?_
              refine .quiet (.p rfl) rfl (fun _ => .pickF rfl rfl) ?_
              refine .nil ?_
              refine S.condT rfl ?_
              refine S.region rfl ?_
              refine O.op (.p rfl) (.mv rfl) ?_
              refine O.op (.p rfl) (.add rfl rfl (IntWalk.i64_in _ (by omega))) ?_
              refine O.op (.p rfl) (.as rfl) ?_
              refine O.nil ?_
              refine S.inBlock (S.region rfl ?_)
              refine O.op (.p rfl) (.mv rfl) ?_
              refine O.op (.p rfl) (.add rfl rfl (IntWalk.i64_in _ (by omega))) ?_
              refine O.op (.p rfl) (.as rfl) ?_
              refine O.nil ?_
              refine S.slot 6 (v' := .int .i64 (below out (keyP row[i]) (k + 1) : Int)) rfl (by rw [hbs, if_pos hl, hup hl]; rfl) ?_
              refine S.weaken ?_ (ih (k + 1) (by omega) (by omega))
              repeat (first | exact Sub.nil | refine Sub.cons rfl ?_)
            · have hl : lt out[k] (keyP row[i]) = false := hnl.2 (by omega)
              refine S.regionD (L := [0, 1, 2, 3, 4, 5, 6, 7, 8, 9, 10, 11, 12, 13, 14, 15, 16, 17, 18, 19, 20, 21, 22, 23, 24, 25, 26, 27]) FactRnet4.mixed (by kernel_rfl) ?_
              refine .quiet (.p rfl) rfl (fun _ => .mv rfl) ?_
              refine .quiet (.p rfl) rfl (fun _ => .mv rfl) ?_
              refine OD.idx' (.p rfl) Go.Proofs.Tryz.underlying47 FactRnet4.size54 rfl rfl rfl (hout) (by decide) (by first | omega | (simp; done) | (simp; omega) | decide) (fun p53 cs53 hp53 hr53 => ?_)
              obtain ⟨e53, _, _⟩ := hr53
              rw [hcell] at e53
              subst e53
              refine .quiet (.p rfl) rfl (fun _ => .idxArrA (j := 0) Go.Proofs.Tryz.underlying54 FactRnet4.size3 rfl rfl rfl (by omega)) ?_
              refine .quiet (.p rfl) rfl (fun _ => .loadAt FactRnet4.flat3 rfl hp53 rfl) ?_
              refine .quiet (.p rfl) rfl (fun _ => .idxArrA (j := 0) Go.Proofs.Tryz.underlying54 FactRnet4.size3 rfl rfl rfl (by omega)) ?_
              refine .quiet (.p rfl) rfl (fun _ => .loadAt FactRnet4.flat3 rfl h5 rfl) ?_
              refine .quiet (.p rfl) rfl (fun _ => .lss rfl rfl) ?_
              refine OD.slot 58 (v' := .bool false) rfl (congrArg Value.bool (by exact decide_eq_false a1)) ?_
              refine .quiet (.p rfl) rfl (fun _ => .mv rfl) ?_
              refine .quiet (.g rfl rfl) rfl (fun _ => .mv rfl) ?_
              refine .quiet (.g rfl rfl) rfl (fun _ => .mv rfl) ?_
              refine OD.idx' (.g rfl rfl) Go.Proofs.Tryz.underlying47 FactRnet4.size54 rfl rfl rfl (hout) (by decide) (by first | omega | (simp; done) | (simp; omega) | decide) (fun p62 cs62 hp62 hr62 => ?_)
              obtain ⟨e62, _, _⟩ := hr62
              rw [hcell] at e62
              subst e62
              refine .quiet (.g rfl rfl) rfl (fun _ => .idxArrA (j := 0) Go.Proofs.Tryz.underlying54 FactRnet4.size3 rfl rfl rfl (by omega)) ?_
              refine .quiet (.g rfl rfl) rfl (fun _ => .loadAt FactRnet4.flat3 rfl hp62 rfl) ?_
              refine .quiet (.g rfl rfl) rfl (fun _ => .idxArrA (j := 0) Go.Proofs.Tryz.underlying54 FactRnet4.size3 rfl rfl rfl (by omega)) ?_
              refine .quiet (.g rfl rfl) rfl (fun _ => .loadAt FactRnet4.flat3 rfl h5 rfl) ?_
              refine .quiet (.g rfl rfl) rfl (fun _ => .eql rfl rfl) ?_
              refine OD.slot 67 (v' := .bool true) rfl (congrArg Value.bool (by exact decide_eq_true a2)) ?_
              refine .quiet (.g rfl rfl) rfl (fun _ => .mv rfl) ?_
              refine .quiet (.g rfl rfl) rfl (fun _ => .mv rfl) ?_
              refine .quiet (.g rfl rfl) rfl (fun _ => .mv rfl) ?_
              refine OD.idx' (.g rfl rfl) Go.Proofs.Tryz.underlying47 FactRnet4.size54 rfl rfl rfl (hout) (by decide) (by first | omega | (simp; done) | (simp; omega) | decide) (fun p71 cs71 hp71 hr71 => ?_)
              obtain ⟨e71, _, _⟩ := hr71
              rw [hcell] at e71
              subst e71
              refine .quiet (.g rfl rfl) rfl (fun _ => .idxArrA (j := 1) Go.Proofs.Tryz.underlying54 FactRnet4.size3 rfl rfl rfl (by omega)) ?_
              refine .quiet (.g rfl rfl) rfl (fun _ => .loadAt FactRnet4.flat3 rfl (hp71.drop 1) rfl) ?_
              refine .quiet (.g rfl rfl) rfl (fun _ => .idxArrA (j := 1) Go.Proofs.Tryz.underlying54 FactRnet4.size3 rfl rfl rfl (by omega)) ?_
              refine .quiet (.g rfl rfl) rfl (fun _ => .loadAt FactRnet4.flat3 rfl (h5.drop 1) rfl) ?_
              refine .quiet (.g rfl rfl) rfl (fun _ => .lss rfl rfl) ?_
              refine OD.slot 76 (v' := .bool false) rfl (congrArg Value.bool (by exact decide_eq_false a3)) ?_
              refine .quiet (.g rfl rfl) rfl (fun _ => .pickT rfl rfl) ?_
              refine .quiet (.p rfl) rfl (fun _ => .pickF rfl rfl) ?_
              refine .nil ?_
              refine S.condF rfl ?_
              refine S.skip (S.inBlock (S.region rfl ?_))
              refine O.op (.p rfl) (.mv rfl) ?_
              refine O.op (.p rfl) (.add rfl rfl (IntWalk.i64_in _ (by omega))) ?_
              refine O.op (.p rfl) (.as rfl) ?_
              refine O.nil ?_
              refine S.slot 6 (v' := .int .i64 (below out (keyP row[i]) (k + 1) : Int)) rfl (by rw [hbs, if_neg (by rw [hl]; simp)]; rfl) ?_
              refine S.weaken ?_ (ih (k + 1) (by omega) (by omega))
              repeat (first | exact Sub.nil | refine Sub.cons rfl ?_)
          · have hl : lt out[k] (keyP row[i]) = false := hnl.2 (by omega)
            refine S.regionD (L := [0, 1, 2, 3, 4, 5, 6, 7, 8, 9, 10, 11, 12, 13, 14, 15, 16, 17, 18, 19, 20, 21, 22, 23, 24, 25, 26, 27]) FactRnet4.mixed (by kernel_rfl) ?_
            refine .quiet (.p rfl) rfl (fun _ => .mv rfl) ?_
            refine .quiet (.p rfl) rfl (fun _ => .mv rfl) ?_
            refine OD.idx' (.p rfl) Go.Proofs.Tryz.underlying47 FactRnet4.size54 rfl rfl rfl (hout) (by decide) (by first | omega | (simp; done) | (simp; omega) | decide) (fun p53 cs53 hp53 hr53 => ?_)
            obtain ⟨e53, _, _⟩ := hr53
            rw [hcell] at e53
            subst e53
            refine .quiet (.p rfl) rfl (fun _ => .idxArrA (j := 0) Go.Proofs.Tryz.underlying54 FactRnet4.size3 rfl rfl rfl (by omega)) ?_
            refine .quiet (.p rfl) rfl (fun _ => .loadAt FactRnet4.flat3 rfl hp53 rfl) ?_
            refine .quiet (.p rfl) rfl (fun _ => .idxArrA (j := 0) Go.Proofs.Tryz.underlying54 FactRnet4.size3 rfl rfl rfl (by omega)) ?_
            refine .quiet (.p rfl) rfl (fun _ => .loadAt FactRnet4.flat3 rfl h5 rfl) ?_
            refine .quiet (.p rfl) rfl (fun _ => .lss rfl rfl) ?_
            refine OD.slot 58 (v' := .bool false) rfl (congrArg Value.bool (by exact decide_eq_false a1)) ?_
            refine .quiet (.p rfl) rfl (fun _ => .mv rfl) ?_
            refine .quiet (.g rfl rfl) rfl (fun _ => .mv rfl) ?_
            refine .quiet (.g rfl rfl) rfl (fun _ => .mv rfl) ?_
            refine OD.idx' (.g rfl rfl) Go.Proofs.Tryz.underlying47 FactRnet4.size54 rfl rfl rfl (hout) (by decide) (by first | omega | (simp; done) | (simp; omega) | decide) (fun p62 cs62 hp62 hr62 => ?_)
            obtain ⟨e62, _, _⟩ := hr62
            rw [hcell] at e62
            subst e62
            refine .quiet (.g rfl rfl) rfl (fun _ => .idxArrA (j := 0) Go.Proofs.Tryz.underlying54 FactRnet4.size3 rfl rfl rfl (by omega)) ?_
            refine .quiet (.g rfl rfl) rfl (fun _ => .loadAt FactRnet4.flat3 rfl hp62 rfl) ?_
            refine .quiet (.g rfl rfl) rfl (fun _ => .idxArrA (j := 0) Go.Proofs.Tryz.underlying54 FactRnet4.size3 rfl rfl rfl (by omega)) ?_
            refine .quiet (.g rfl rfl) rfl (fun _ => .loadAt FactRnet4.flat3 rfl h5 rfl) ?_
            refine .quiet (.g rfl rfl) rfl (fun _ => .eql rfl rfl) ?_
            refine OD.slot 67 (v' := .bool false) rfl (congrArg Value.bool (by exact decide_eq_false a2)) ?_
            refine .quiet (.g rfl rfl) rfl (fun _ => .mv rfl) ?_
            refine .no rfl rfl rfl rfl ?_
            refine .no rfl rfl rfl rfl ?_
            refine .no rfl rfl rfl rfl ?_
            refine .no rfl rfl rfl rfl ?_
            refine .no rfl rfl rfl rfl ?_
            refine .no rfl rfl rfl rfl ?_
            refine .no rfl rfl rfl rfl ?_
            refine .no rfl rfl rfl rfl ?_
            refine .quiet (.g rfl rfl) rfl (fun _ => .pickF rfl rfl) ?_
            refine .quiet (.p rfl) rfl (fun _ => .pickF rfl rfl) ?_
            refine .nil ?_
            refine S.condF rfl ?_
            refine S.skip (S.inBlock (S.region rfl ?_))
            refine O.op (.p rfl) (.mv rfl) ?_
            refine O.op (.p rfl) (.add rfl rfl (IntWalk.i64_in _ (by omega))) ?_
            refine O.op (.p rfl) (.as rfl) ?_
            refine O.nil ?_
            refine S.slot 6 (v' := .int .i64 (below out (keyP row[i]) (k + 1) : Int)) rfl (by rw [hbs, if_neg (by rw [hl]; simp)]; rfl) ?_
            refine S.weaken ?_ (ih (k + 1) (by omega) (by omega))
            repeat (first | exact Sub.nil | refine Sub.cons rfl ?_)
      ·
        refine S.skip (S.seq (S.block (S.seq (S.regionD (L := [0, 1, 2, 3, 4, 5, 6, 7, 8, 9]) FactRnet4.mixed (by kernel_rfl) ?_))))
        refine .quiet (.p rfl) rfl (fun _ => .mv rfl) ?_
        refine .quiet (.p rfl) rfl (fun _ => .mv rfl) ?_
        refine OD.slot 43 (v' := .bool false) rfl (congrArg Value.bool (by exact decide_eq_false hin)) ?_
        refine .quiet (.g rfl rfl) rfl (fun _ => .mv rfl) ?_
        refine .quiet (.g rfl rfl) rfl (fun _ => .mv rfl) ?_
        refine OD.idx' (.g rfl rfl) Go.Proofs.Tryz.underlying47 FactRnet4.size54 rfl rfl rfl (hout) (by decide) (by first | omega | (simp; done) | (simp; omega) | decide) (fun p46 cs46 hp46 hr46 => ?_)
        obtain ⟨e46, _, _⟩ := hr46
        rw [hcell] at e46
        subst e46
        refine .quiet (.g rfl rfl) rfl (fun _ => .loadAgg Go.Proofs.Tryz.isAgg54 (by kernel_rfl) rfl hp46) ?_
        refine .quiet (.g rfl rfl) rfl (fun _ => .loadAgg Go.Proofs.Tryz.isAgg54 (by kernel_rfl) rfl h5) ?_
        refine .quiet (.g rfl rfl) rfl (fun _ => .eql2 Go.Proofs.Tryz.underlying54 Go.Proofs.Tryz.underlying3 FactRnet4.size3 (by kernel_rfl) rfl rfl) ?_
        refine .quiet (.p rfl) rfl (fun _ => .pickF rfl rfl) ?_
        refine .quiet (.p rfl) rfl (fun _ => .as rfl) ?_
        refine .nil ?_
        refine S.seq ?_
        refine S.slot 7 (v' := .bool (decide (keyP row[i] ∈ out.take (k + 1)))) rfl (by exact congrArg _ (decide_eq_decide.2 (by rw [hmt]; exact ⟨fun h => .inr h, fun h => h.resolve_left hin⟩))) ?_
        by_cases a1 : out[k].1 < row[i].1
        · have hl : lt out[k] (keyP row[i]) = true := hlt.2 (.inl a1)
          refine S.regionD (L := [0, 1, 2, 3, 4, 5, 6, 7, 8, 9, 10, 11, 12, 13, 14, 15, 16, 17, 18, 19, 20, 21, 22, 23, 24, 25, 26, 27]) FactRnet4.mixed (by kernel_rfl) ?_
          refine .quiet (.p rfl) rfl (fun _ => .mv rfl) ?_
          refine .quiet (.p rfl) rfl (fun _ => .mv rfl) ?_
          refine OD.idx' (.p rfl) Go.Proofs.Tryz.underlying47 FactRnet4.size54 rfl rfl rfl (hout) (by decide) (by first | omega | (simp; done) | (simp; omega) | decide) (fun p53 cs53 hp53 hr53 => ?_)
          obtain ⟨e53, _, _⟩ := hr53
          rw [hcell] at e53
          subst e53
          refine .quiet (.p rfl) rfl (fun _ => .idxArrA (j := 0) Go.Proofs.Tryz.underlying54 FactRnet4.size3 rfl rfl rfl (by omega)) ?_
          refine .quiet (.p rfl) rfl (fun _ => .loadAt FactRnet4.flat3 rfl hp53 rfl) ?_
          refine .quiet (.p rfl) rfl (fun _ => .idxArrA (j := 0) Go.Proofs.Tryz.underlying54 FactRnet4.size3 rfl rfl rfl (by omega)) ?_
          refine .quiet (.p rfl) rfl (fun _ => .loadAt FactRnet4.flat3 rfl h5 rfl) ?_
          refine .quiet (.p rfl) rfl (fun _ => .lss rfl rfl) ?_
          refine OD.slot 58 (v' := .bool true) rfl (congrArg Value.bool (by exact decide_eq_true a1)) ?_
          refine .quiet (.p rfl) rfl (fun _ => .mv rfl) ?_
          refine .no rfl rfl rfl rfl ?_
          refine .no rfl rfl rfl rfl ?_
          refine .no rfl rfl rfl rfl ?_
          refine .no rfl rfl rfl rfl ?_
          refine .no rfl rfl rfl rfl ?_
          refine .no rfl rfl rfl rfl ?_
          refine .no rfl rfl rfl rfl ?_
          refine .no rfl rfl rfl rfl ?_
          refine .no rfl rfl rfl rfl ?_
          refine .no rfl rfl rfl rfl ?_
          refine .no rfl rfl rfl rfl ?_
          refine .no rfl rfl rfl rfl ?_
          refine .no rfl rfl rfl rfl ?_
          refine .no rfl rfl rfl rfl ?_
          refine .no rfl rfl rfl rfl ?_
          refine .no rfl rfl rfl rfl ?_
          refine .no rfl rfl rfl rfl ?_
          refine .no rfl rfl rfl rfl ?_
          refine .quiet (.p rfl) rfl (fun _ => .pickT rfl rfl) ?_
          refine .nil ?_
          refine S.condT rfl ?_
          refine S.region rfl ?_
          refine O.op (.p rfl) (.mv rfl) ?_
          refine O.op (.p rfl) (.add rfl rfl (IntWalk.i64_in _ (by omega))) ?_
          refine O.op (.p rfl) (.as rfl) ?_
          refine O.nil ?_
          refine S.inBlock (S.region rfl ?_)
          refine O.op (.p rfl) (.mv rfl) ?_
          refine O.op (.p rfl) (.add rfl rfl (IntWalk.i64_in _ (by omega))) ?_
          refine O.op (.p rfl) (.as rfl) ?_
          refine O.nil ?_
          refine S.slot 6 (v' := .int .i64 (below out (keyP row[i]) (k + 1) : Int)) rfl (by rw [hbs, if_pos hl, hup hl]; rfl) ?_
          refine S.weaken ?_ (ih (k + 1) (by omega) (by omega))
          repeat (first | exact Sub.nil | refine Sub.cons rfl ?_)
        · by_cases a2 : out[k].1 = row[i].1
          · by_cases a3 : out[k].2 < row[i].2.1
            · have hl : lt out[k] (keyP row[i]) = true := hlt.2 (.inr ⟨a2, a3⟩)
              refine S.regionD (L := [0, 1, 2, 3, 4, 5, 6, 7, 8, 9, 10, 11, 12, 13, 14, 15, 16, 17, 18, 19, 20, 21, 22, 23, 24, 25, 26, 27]) FactRnet4.mixed (by kernel_rfl) ?_
              refine .quiet (.p rfl) rfl (fun _ => .mv rfl) ?_
              refine .quiet (.p rfl) rfl (fun _ => .mv rfl) ?_
              refine OD.idx' (.p rfl) Go.Proofs.Tryz.underlying47 FactRnet4.size54 rfl rfl rfl (hout) (by decide) (by first | omega | (simp; done) | (simp; omega) | decide) (fun p53 cs53 hp53 hr53 => ?_)
              obtain ⟨e53, _, _⟩ := hr53
              rw [hcell] at e53
              subst e53
              refine .quiet (.p rfl) rfl (fun _ => .idxArrA (j := 0) Go.Proofs.Tryz.underlying54 FactRnet4.size3 rfl rfl rfl (by omega)) ?_
              refine .quiet (.p rfl) rfl (fun _ => .loadAt FactRnet4.flat3 rfl hp53 rfl) ?_
              refine .quiet (.p rfl) rfl (fun _ => .idxArrA (j := 0) Go.Proofs.Tryz.underlying54 FactRnet4.size3 rfl rfl rfl (by omega)) ?_
              refine .quiet (.p rfl) rfl (fun _ => .loadAt FactRnet4.flat3 rfl h5 rfl) ?_
              refine .quiet (.p rfl) rfl (fun _ => .lss rfl rfl) ?_
              refine OD.slot 58 (v' := .bool false) rfl (congrArg Value.bool (by exact decide_eq_false a1)) ?_
              refine .quiet (.p rfl) rfl (fun _ => .mv rfl) ?_
              refine .quiet (.g rfl rfl) rfl (fun _ => .mv rfl) ?_
              refine .quiet (.g rfl rfl) rfl (fun _ => .mv rfl) ?_
              refine OD.idx' (.g rfl rfl) Go.Proofs.Tryz.underlying47 FactRnet4.size54 rfl rfl rfl (hout) (by decide) (by first | omega | (simp; done) | (simp; omega) | decide) (fun p62 cs62 hp62 hr62 => ?_)
              obtain ⟨e62, _, _⟩ := hr62
              rw [hcell] at e62
              subst e62
              refine .quiet (.g rfl rfl) rfl (fun _ => .idxArrA (j := 0) Go.Proofs.Tryz.underlying54 FactRnet4.size3 rfl rfl rfl (by omega)) ?_
              refine .quiet (.g rfl rfl) rfl (fun _ => .loadAt FactRnet4.flat3 rfl hp62 rfl) ?_
              refine .quiet (.g rfl rfl) rfl (fun _ => .idxArrA (j := 0) Go.Proofs.Tryz.underlying54 FactRnet4.size3 rfl rfl rfl (by omega)) ?_
              refine .quiet (.g rfl rfl) rfl (fun _ => .loadAt FactRnet4.flat3 rfl h5 rfl) ?_
              refine .quiet (.g rfl rfl) rfl (fun _ => .eql rfl rfl) ?_
              refine OD.slot 67 (v' := .bool true) rfl (congrArg Value.bool (by exact decide_eq_true a2)) ?_
              refine .quiet (.g rfl rfl) rfl (fun _ => .mv rfl) ?_
              refine .quiet (.g rfl rfl) rfl (fun _ => .mv rfl) ?_
              refine .quiet (.g rfl rfl) rfl (fun _ => .mv rfl) ?_
              refine OD.idx' (.g rfl rfl) Go.Proofs.Tryz.underlying47 FactRnet4.size54 rfl rfl rfl (hout) (by decide) (by first | omega | (simp; done) | (simp; omega) | decide) (fun p71 cs71 hp71 hr71 => ?_)
              obtain ⟨e71, _, _⟩ := hr71
              rw [hcell] at e71
              subst e71
              refine .quiet (.g rfl rfl) rfl (fun _ => .idxArrA (j := 1) Go.Proofs.Tryz.underlying54 FactRnet4.size3 rfl rfl rfl (by omega)) ?_
              refine .quiet (.g rfl rfl) rfl (fun _ => .loadAt FactRnet4.flat3 rfl (hp71.drop 1) rfl) ?_
              refine .quiet (.g rfl rfl) rfl (fun _ => .idxArrA (j := 1) Go.Proofs.Tryz.underlying54 FactRnet4.size3 rfl rfl rfl (by omega)) ?_
              refine .quiet (.g rfl rfl) rfl (fun _ => .loadAt FactRnet4.flat3 rfl (h5.drop 1) rfl) ?_
              refine .quiet (.g rfl rfl) rfl (fun _ => .lss rfl rfl) ?_
              refine OD.slot 76 (v' := .bool true) rfl (congrArg Value.bool (by exact decide_eq_true a3)) ?_
              refine .quiet (.g rfl rfl) rfl (fun _ => .pickT rfl rfl) ?_
              refine .quiet (.p rfl) rfl (fun _ => .pickF rfl rfl) ?_
              refine .nil ?_
              refine S.condT rfl ?_
              refine S.region rfl ?_
              refine O.op (.p rfl) (.mv rfl) ?_
              refine O.op (.p rfl) (.add rfl rfl (IntWalk.i64_in _ (by omega))) ?_
              refine O.op (.p rfl) (.as rfl) ?_
              refine O.nil ?_
              refine S.inBlock (S.region rfl ?_)
              refine O.op (.p rfl) (.mv rfl) ?_
              refine O.op (.p rfl) (.add rfl rfl (IntWalk.i64_in _ (by omega))) ?_
              refine O.op (.p rfl) (.as rfl) ?_
              refine O.nil ?_
              refine S.slot 6 (v' := .int .i64 (below out (keyP row[i]) (k + 1) : Int)) rfl (by rw [hbs, if_pos hl, hup hl]; rfl) ?_
              refine S.weaken ?_ (ih (k + 1) (by omega) (by omega))
              repeat (first | exact Sub.nil | refine Sub.cons rfl ?_)
            · have hl : lt out[k] (keyP row[i]) = false := hnl.2 (by omega)
              refine S.regionD (L := [0, 1, 2, 3, 4, 5, 6, 7, 8, 9, 10, 11, 12, 13, 14, 15, 16, 17, 18, 19, 20, 21, 22, 23, 24, 25, 26, 27]) FactRnet4.mixed (by kernel_rfl) ?_
              refine .quiet (.p rfl) rfl (fun _ => .mv rfl) ?_
              refine .quiet (.p rfl) rfl (fun _ => .mv rfl) ?_
              refine OD.idx' (.p rfl) Go.Proofs.Tryz.underlying47 FactRnet4.size54 rfl rfl rfl (hout) (by decide) (by first | omega | (simp; done) | (simp; omega) | decide) (fun p53 cs53 hp53 hr53 => ?_)
              obtain ⟨e53, _, _⟩ := hr53
              rw [hcell] at e53
              subst e53
              refine .quiet (.p rfl) rfl (fun _ => .idxArrA (j := 0) Go.Proofs.Tryz.underlying54 FactRnet4.size3 rfl rfl rfl (by omega)) ?_
              refine .quiet (.p rfl) rfl (fun _ => .loadAt FactRnet4.flat3 rfl hp53 rfl) ?_
              refine .quiet (.p rfl) rfl (fun _ => .idxArrA (j := 0) Go.Proofs.Tryz.underlying54 FactRnet4.size3 rfl rfl rfl (by omega)) ?_
              refine .quiet (.p rfl) rfl (fun _ => .loadAt FactRnet4.flat3 rfl h5 rfl) ?_
              refine .quiet (.p rfl) rfl (fun _ => .lss rfl rfl) ?_
              refine OD.slot 58 (v' := .bool false) rfl (congrArg Value.bool (by exact decide_eq_false a1)) ?_
              refine .quiet (.p rfl) rfl (fun _ => .mv rfl) ?_
              refine .quiet (.g rfl rfl) rfl (fun _ => .mv rfl) ?_
              refine .quiet (.g rfl rfl) rfl (fun _ => .mv rfl) ?_
              refine OD.idx' (.g rfl rfl) Go.Proofs.Tryz.underlying47 FactRnet4.size54 rfl rfl rfl (hout) (by decide) (by first | omega | (simp; done) | (simp; omega) | decide) (fun p62 cs62 hp62 hr62 => ?_)
              obtain ⟨e62, _, _⟩ := hr62
              rw [hcell] at e62
              subst e62
              refine .quiet (.g rfl rfl) rfl (fun _ => .idxArrA (j := 0) Go.Proofs.Tryz.underlying54 FactRnet4.size3 rfl rfl rfl (by omega)) ?_
              refine .quiet (.g rfl rfl) rfl (fun _ => .loadAt FactRnet4.flat3 rfl hp62 rfl) ?_
              refine .quiet (.g rfl rfl) rfl (fun _ => .idxArrA (j := 0) Go.Proofs.Tryz.underlying54 FactRnet4.size3 rfl rfl rfl (by omega)) ?_
              refine .quiet (.g rfl rfl) rfl (fun _ => .loadAt FactRnet4.flat3 rfl h5 rfl) ?_
              refine .quiet (.g rfl rfl) rfl (fun _ => .eql rfl rfl) ?_
              refine OD.slot 67 (v' := .bool true) rfl (congrArg Value.bool (by exact decide_eq_true a2)) ?_
              refine .quiet (.g rfl rfl) rfl (fun _ => .mv rfl) ?_
              refine .quiet (.g rfl rfl) rfl (fun _ => .mv rfl) ?_
              refine .quiet (.g rfl rfl) rfl (fun _ => .mv rfl) ?_
              refine OD.idx' (.g rfl rfl) Go.Proofs.Tryz.underlying47 FactRnet4.size54 rfl rfl rfl (hout) (by decide) (by first | omega | (simp; done) | (simp; omega) | decide) (fun p71 cs71 hp71 hr71 => ?_)
              obtain ⟨e71, _, _⟩ := hr71
              rw [hcell] at e71
              subst e71
              refine .quiet (.g rfl rfl) rfl (fun _ => .idxArrA (j := 1) Go.Proofs.Tryz.underlying54 FactRnet4.size3 rfl rfl rfl (by omega)) ?_
              refine .quiet (.g rfl rfl) rfl (fun _ => .loadAt FactRnet4.flat3 rfl (hp71.drop 1) rfl) ?_
              refine .quiet (.g rfl rfl) rfl (fun _ => .idxArrA (j := 1) Go.Proofs.Tryz.underlying54 FactRnet4.size3 rfl rfl rfl (by omega)) ?_
              refine .quiet (.g rfl rfl) rfl (fun _ => .loadAt FactRnet4.flat3 rfl (h5.drop 1) rfl) ?_
              refine .quiet (.g rfl rfl) rfl (fun _ => .lss rfl rfl) ?_
              refine OD.slot 76 (v' := .bool false) rfl (congrArg Value.bool (by exact decide_eq_false a3)) ?_
              refine .quiet (.g rfl rfl) rfl (fun _ => .pickT rfl rfl) ?_
              refine .quiet (.p rfl) rfl (fun _ => .pickF rfl rfl) ?_
              refine .nil ?_
              refine S.condF rfl ?_
              refine S.skip (S.inBlock (S.region rfl ?_))
              refine O.op (.p rfl) (.mv rfl) ?_
              refine O.op (.p rfl) (.add rfl rfl (IntWalk.i64_in _ (by omega))) ?_
              refine O.op (.p rfl) (.as rfl) ?_
              refine O.nil ?_
              refine S.slot 6 (v' := .int .i64 (below out (keyP row[i]) (k + 1) : Int)) rfl (by rw [hbs, if_neg (by rw [hl]; simp)]; rfl) ?_
              refine S.weaken ?_ (ih (k + 1) (by omega) (by omega))
              repeat (first | exact Sub.nil | refine Sub.cons rfl ?_)
          · have hl : lt out[k] (keyP row[i]) = false := hnl.2 (by omega)
            refine S.regionD (L := [0, 1, 2, 3, 4, 5, 6, 7, 8, 9, 10, 11, 12, 13, 14, 15, 16, 17, 18, 19, 20, 21, 22, 23, 24, 25, 26, 27]) FactRnet4.mixed (by kernel_rfl) ?_
            refine .quiet (.p rfl) rfl (fun _ => .mv rfl) ?_
            refine .quiet (.p rfl) rfl (fun _ => .mv rfl) ?_
            refine OD.idx' (.p rfl) Go.Proofs.Tryz.underlying47 FactRnet4.size54 rfl rfl rfl (hout) (by decide) (by first | omega | (simp; done) | (simp; omega) | decide) (fun p53 cs53 hp53 hr53 => ?_)
            obtain ⟨e53, _, _⟩ := hr53
            rw [hcell] at e53
            subst e53
            refine .quiet (.p rfl) rfl (fun _ => .idxArrA (j := 0) Go.Proofs.Tryz.underlying54 FactRnet4.size3 rfl rfl rfl (by omega)) ?_
            refine .quiet (.p rfl) rfl (fun _ => .loadAt FactRnet4.flat3 rfl hp53 rfl) ?_
            refine .quiet (.p rfl) rfl (fun _ => .idxArrA (j := 0) Go.Proofs.Tryz.underlying54 FactRnet4.size3 rfl rfl rfl (by omega)) ?_
            refine .quiet (.p rfl) rfl (fun _ => .loadAt FactRnet4.flat3 rfl h5 rfl) ?_
            refine .quiet (.p rfl) rfl (fun _ => .lss rfl rfl) ?_
            refine OD.slot 58 (v' := .bool false) rfl (congrArg Value.bool (by exact decide_eq_false a1)) ?_
            refine .quiet (.p rfl) rfl (fun _ => .mv rfl) ?_
            refine .quiet (.g rfl rfl) rfl (fun _ => .mv rfl) ?_
            refine .quiet (.g rfl rfl) rfl (fun _ => .mv rfl) ?_
            refine OD.idx' (.g rfl rfl) Go.Proofs.Tryz.underlying47 FactRnet4.size54 rfl rfl rfl (hout) (by decide) (by first | omega | (simp; done) | (simp; omega) | decide) (fun p62 cs62 hp62 hr62 => ?_)
            obtain ⟨e62, _, _⟩ := hr62
            rw [hcell] at e62
            subst e62
            refine .quiet (.g rfl rfl) rfl (fun _ => .idxArrA (j := 0) Go.Proofs.Tryz.underlying54 FactRnet4.size3 rfl rfl rfl (by omega)) ?_
            refine .quiet (.g rfl rfl) rfl (fun _ => .loadAt FactRnet4.flat3 rfl hp62 rfl) ?_
            refine .quiet (.g rfl rfl) rfl (fun _ => .idxArrA (j := 0) Go.Proofs.Tryz.underlying54 FactRnet4.size3 rfl rfl rfl (by omega)) ?_
            refine .quiet (.g rfl rfl) rfl (fun _ => .loadAt FactRnet4.flat3 rfl h5 rfl) ?_
            refine .quiet (.g rfl rfl) rfl (fun _ => .eql rfl rfl) ?_
            refine OD.slot 67 (v' := .bool false) rfl (congrArg Value.bool (by exact decide_eq_false a2)) ?_
            refine .quiet (.g rfl rfl) rfl (fun _ => .mv rfl) ?_
            refine .no rfl rfl rfl rfl ?_
            refine .no rfl rfl rfl rfl ?_
            refine .no rfl rfl rfl rfl ?_
            refine .no rfl rfl rfl rfl ?_
            refine .no rfl rfl rfl rfl ?_
            refine .no rfl rfl rfl rfl ?_
            refine .no rfl rfl rfl rfl ?_
            refine .no rfl rfl rfl rfl ?_
            refine .quiet (.g rfl rfl) rfl (fun _ => .pickF rfl rfl) ?_
            refine .quiet (.p rfl) rfl (fun _ => .pickF rfl rfl) ?_
            refine .nil ?_
            refine S.condF rfl ?_
            refine S.skip (S.inBlock (S.region rfl ?_))
            refine O.op (.p rfl) (.mv rfl) ?_
            refine O.op (.p rfl) (.add rfl rfl (IntWalk.i64_in _ (by omega))) ?_
            refine O.op (.p rfl) (.as rfl) ?_
            refine O.nil ?_
            refine S.slot 6 (v' := .int .i64 (below out (keyP row[i]) (k + 1) : Int)) rfl (by rw [hbs, if_neg (by rw [hl]; simp)]; rfl) ?_
            refine S.weaken ?_ (ih (k + 1) (by omega) (by omega))
            repeat (first | exact Sub.nil | refine Sub.cons rfl ?_)
    · clear ih
      have hk : k = out.length := by omega
      subst hk
      rw [List.take_length]
      by_cases hin : keyP row[i] ∈ out
      ·
        refine th1 ?_
        replace hrow := hrow_S
        replace h0 := h0_S
        replace h5 := h5_S
        have ih := ihO
        refine S.exit rfl ?_
        refine S.seq (S.region rfl ?_)
        refine O.op (.p rfl) (.mv rfl) ?_
        refine O.op (.p rfl) ((by first | exact .notD rfl | exact .not rfl)) ?_
        refine O.slot 82 (v' := .bool false) rfl (congrArg Value.bool (by simp [hin])) ?_
        refine O.nil ?_
        refine S.condF rfl ?_
        refine S.skip (S.inBlock (S.region rfl ?_))
        refine O.op (.p rfl) (.mv rfl) ?_
        refine O.op (.p rfl) (.add rfl rfl (IntWalk.i64_in _ (by omega))) ?_
        refine O.op (.p rfl) (.as rfl) ?_
        refine O.nil ?_
        refine S.melt hm1 (S.weaken ?_ (ih (i + 1) (out) (s) (by exact ⟨by omega, ho.none hi hin⟩) (by omega)))
        repeat (first | exact Sub.nil | refine Sub.cons rfl ?_)
      ·
        obtain ⟨at', hat'⟩ : ∃ at', at' = below out (keyP row[i]) out.length := ⟨_, rfl⟩
        have hbl : at' ≤ out.length := by rw [hat']; exact below_le ..
        rw [← hat']
        refine S.exit rfl ?_
        refine S.seq (S.region rfl ?_)
        refine O.op (.p rfl) (.mv rfl) ?_
        refine O.op (.p rfl) ((by first | exact .notD rfl | exact .not rfl)) ?_
        refine O.slot 82 (v' := .bool true) rfl (congrArg Value.bool (by simp [hin])) ?_
        refine O.nil ?_
        refine S.condT rfl ?_
        refine S.seq (S.region rfl ?_)
        refine O.opE (.p rfl) (.litP (T := (Rp.cells 2)) (ys := []) Go.Proofs.Tryz.underlying47 FactRnet4.elem54 (by decide) rfl rfl trivial (by decide)) ?_
        rintro _ _ ⟨a83, c83, rfl, rfl⟩
        refine O.op (.p rfl) (.mv rfl) ?_
        refine O.op (.p rfl) (.mv rfl) ?_
        refine O.sliceFrom (a := at') (.p rfl) Go.Proofs.Tryz.underlying47 FactRnet4.size54 rfl rfl (by assumption) (by first | omega | (simp; done) | (simp; omega) | decide) (by first | omega | (simp; done) | (simp; omega) | decide) (fun u86 ha86 => ?_)
        obtain ⟨a86, c86, rfl⟩ := ha86.shape
        refine O.opE (.p rfl) (.appendP (T := (Rp.cells 2)) (pure_cells 2) Go.Proofs.Tryz.underlying47 FactRnet4.elem54 (by decide) rfl rfl (by repeat (first | exact Sel.here | apply Sel.there)) (by first | assumption | exact Arr.mono hg (by assumption) | exact Arr.left (by assumption) | exact Arr.left (Arr.mono hg (by assumption))) (by first | omega | (simp; done) | (simp; omega) | decide) (by first | omega | (simp; done) | (simp; omega) | decide)) ?_
        rintro _ _ ⟨a87, c87, rfl, rfl⟩
        refine O.op (.p rfl) (.as rfl) ?_
        refine O.nil ?_
        refine th1 ?_
        replace hrow := hrow_S
        replace h0 := h0_S
        replace h5 := h5_S
        have ih := ihO
        refine S.sel (A := OwnP (Rp.cells 2) 54 (.slice a87 _ c87) _) (by repeat (first | exact Sel.here | apply Sel.there)) ?_
        refine S.frzA (by repeat (first | exact Sel.here | apply Sel.there)) fun g hs hm hrest => ?_
        replace hg := Fr.sub_trans hg hs
        replace hR := melted hR hm
        try replace h0 := h0.mono hs
        try replace hrow := hrow.mono hs
        try replace hp24 := hp24.mono hs
        try replace ha24 := ha24.mono hs
        try replace hp32 := hp32.mono hs
        try replace ha32 := ha32.mono hs
        try replace h5 := h5.mono hs
        try replace h5 := h5.mono hs
        try replace hout := hout.mono hs
        replace hm1 := meltTrans hm1 hm
        replace hm2 := meltTrans hm2 hm
        clear hs hm
        refine S.factS (by repeat (first | exact Sel.here | apply Sel.there)) (fun _ x => OwnP.room (T := Rp.cells 2) (e := 54) (xs := out.map cells2) (a := s.1) (c := s.2) (m := out.length) x) fun ⟨_, hroom⟩ => ?_
        have hsp : out.map cells2 = (out.take at').map cells2 ++ (out.drop at').map cells2 := by rw [← List.map_append, List.take_append_drop]
        have htl : ((out.take at').map cells2).length = at' := by rw [List.length_map, List.length_take]; omega
        refine S.conv (B := OwnP (Rp.cells 2) 54 (.slice s.1 out.length s.2) (out.map cells2)) (C := OwnP (Rp.cells 2) 54 (.slice s.1 at' s.2) ((out.take at').map cells2)) (by repeat (first | exact Sel.here | apply Sel.there)) (fun m x => ⟨m, Fr.sub_refl _, by rw [hsp] at x; exact OwnP.take htl.symm x⟩) ?_
        refine S.regionD (L := [0, 1, 2, 3, 6, 4, 5, 7, 8]) FactRnet4.mixed (by kernel_rfl) ?_
        refine .quiet (.p rfl) rfl (fun _ => .mv rfl) ?_
        refine .quiet (.p rfl) rfl (fun _ => .mv rfl) ?_
        refine .quiet (.p rfl) rfl (fun _ => .slTo (p := at') Go.Proofs.Tryz.underlying47 FactRnet4.size54 rfl rfl (by omega)) ?_
        refine .quiet (.p rfl) rfl (fun _ => .loadAgg Go.Proofs.Tryz.isAgg54 (by kernel_rfl) rfl h5) ?_
        refine .quiet (.p rfl) rfl (fun _ => .mv rfl) ?_
        refine OD.litP (T := (Rp.cells 2)) (ys := [_]) (.p rfl) (by kernel_rfl) Go.Proofs.Tryz.underlying47 FactRnet4.elem54 (by decide) rfl rfl ⟨⟨rfl, rfl, by first | (simp; done) | (intro v hv; simp [Value.cells] at hv; rcases hv with rfl | rfl <;> rfl) | (refine List.forall_mem_cons.2 ⟨rfl, ?_⟩; repeat (first | exact (fun _ h => absurd h List.not_mem_nil) | refine List.forall_mem_cons.2 ⟨rfl, ?_⟩))⟩, trivial⟩ (by decide) (fun a92 c92 => ?_)
        refine OD.appendO (.p rfl) (by kernel_rfl) (T := (Rp.cells 2)) Go.Proofs.Tryz.underlying47 FactRnet4.elem54 (by decide) rfl rfl (by repeat (first | exact Sel.here | apply Sel.there)) (by repeat (first | exact Sel.here | apply Sel.there)) (by first | omega | (simp; done) | (simp; omega) | decide) (by first | omega | (simp; done) | (simp; omega) | decide) (fun a93 c93 => ?_)
        refine OD.appendP (.p rfl) (by kernel_rfl) (T := (Rp.cells 2)) (pure_cells 2) Go.Proofs.Tryz.underlying47 FactRnet4.elem54 (by decide) rfl rfl (by repeat (first | exact Sel.here | apply Sel.there)) (by first | assumption | exact Arr.mono hg (by assumption) | exact Arr.left (by assumption) | exact Arr.left (Arr.mono hg (by assumption))) (by first | omega | (simp; done) | (simp; omega) | decide) (by first | omega | (simp; done) | (simp; omega) | decide) (fun a95 c95 => ?_)
        refine .quiet (.p rfl) rfl (fun _ => .as rfl) ?_
        refine .nil ?_
        refine S.inBlock (S.region rfl ?_)
        refine O.op (.p rfl) (.mv rfl) ?_
        refine O.op (.p rfl) (.add rfl rfl (IntWalk.i64_in _ (by omega))) ?_
        refine O.op (.p rfl) (.as rfl) ?_
        refine O.nil ?_
        have hins : insX out (keyP row[i]) = out.take at' ++ [keyP row[i]] ++ out.drop at' := by rw [insX, ← hat']
        refine S.ownIs (T := Rp.cells 2) (v' := .slice a95 (insX out (keyP row[i])).length c95) (xs' := (insX out (keyP row[i])).map cells2) (by repeat (first | exact Sel.here | apply Sel.there)) (by rw [hins]; simp; omega) (by rw [hins]; simp [cells2, keyP, Value.cells]) ?_
        refine S.slot 3 (v' := .slice a95 (insX out (keyP row[i])).length c95) rfl (by rw [hins]; simp; omega) ?_
        refine S.pk ?_ (S.melt hm1 (S.weaken ?_ (ih (i + 1) (insX out (keyP row[i])) ((a95, c95)) (by exact ⟨by omega, ho.one hi hin⟩) (by omega))))
        · repeat (first | exact Picks.all | exact Picks.nil | (apply Picks.cons; focus (repeat (first | exact Sel.here | apply Sel.there))) | apply Picks.skip)
        repeat (first | exact Sub.nil | refine Sub.cons rfl ?_)
  · clear ih
    have hi : i = row.length := by omega
    subst hi
    have e := ho.done hrel
    rw [e]
    refine S.exit rfl ?_
    refine S.seq (S.region rfl ?_)
    refine O.op (.p rfl) (.mv rfl) ?_
    refine O.op (.p rfl) (.as rfl) ?_
    refine O.nil ?_
    refine S.ret Go.Proofs.Tryz.results22 rfl fun w hw => Holds.end_ hR hw ?_
    exact ⟨_, ⟨_, _, rfl, rfl⟩, by repeat (first | exact Picks.all | exact Picks.nil | (apply Picks.cons; focus (repeat (first | exact Sel.here | apply Sel.there))) | apply Picks.skip)⟩

end Go.Proofs.YthaebmfgelaleaaGreat
