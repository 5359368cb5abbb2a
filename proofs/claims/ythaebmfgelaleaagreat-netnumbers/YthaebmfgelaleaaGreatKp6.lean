import Derived.Test.YthaebmfgelaleaaGreatKp5
open Go Go.Sp
set_option maxRecDepth 100000
attribute [local irreducible] obj Own OwnP
namespace Go.Proofs.YthaebmfgelaleaaGreat
theorem FactKp6.mixed : Go.Proofs.Tryz.prog.follows .mixedOrders = true := by kernel_rfl
theorem FactKp6.ok12 : callable Go.Proofs.Tryz.prog 12 = true := by kernel_rfl
theorem FactKp6.ok36 : callable Go.Proofs.Tryz.prog 36 = true := by kernel_rfl
theorem FactKp6.ok38 : callable Go.Proofs.Tryz.prog 38 = true := by kernel_rfl
theorem FactKp6.ok39 : callable Go.Proofs.Tryz.prog 39 = true := by kernel_rfl
theorem FactKp6.size35 : (Go.Proofs.Tryz.prog.info? 35).map (·.size) = some 3 := by kernel_rfl

theorem lentK_at {h : Fr} {css dss : List (List Value)} {es : List Pkt} (hv : All2 (LentPA h) css es) (i : Nat) (hi : i < es.length) (hi2 : i < (css ++ dss).length) : ∃ a c, (css ++ dss)[i] = [.int .i64 es[i].1, .int .i64 es[i].2.1, .slice a es[i].2.2.1.length c] ∧ InI64 es[i].1 ∧ InI64 es[i].2.1 ∧ LentA h (.slice a es[i].2.2.1.length c) es[i].2.2.1 := by
  have hl := hv.length
  rw [List.getElem_append_left (by omega)]
  obtain ⟨v, e, p, q, a, c, h1, rfl, h3⟩ := hv.get i (by omega) hi
  exact ⟨a, c, e, p, q, a, c, h1, rfl, h3⟩
theorem markK_at {css dss : List (List Value)} {n : Nat} (hv : css.length = n) (hu : All2 MarkC dss (pktMarks 12)) (i : Nat) (hi : n ≤ i) (hi2 : i < (css ++ dss).length) : (css ++ dss)[i] = [.int .i64 (markZ 1 ((i : Int) - (n : Int))), .int .i64 0, .slice none 0 0] := by
  have hl := hu.length
  rw [List.getElem_append_right (by omega)]
  obtain ⟨h1, _⟩ := hu.get (i - css.length) (by simp at hi2; omega) (by simp at hi2 hl ⊢; omega)
  have hm : (pktMarks 12)[i - css.length]'(by simp at hi2 hl ⊢; omega) = markPkt 1 ((i : Int) - (n : Int)) := by simp [pktMarks, hv, Int.natCast_sub hi]
  rw [hm] at h1
  exact h1
theorem keptPackets_c {r : Fr} {a : Option Addr} {c : Nat} {vl : Value} {css dss : List (List Value)} {es : List Pkt} (hin : Arr (Rp.cells 3) r (.slice a (es.length + 12) c) (css ++ dss)) (hv : All2 (LentPA r) css es) (hu : All2 MarkC dss (pktMarks 12)) (hl : Arr PktRp r vl es)
    (hq : ∀ x ∈ es, x.2.2.1.length ≤ 100000000000000) (hb : es.length ≤ 1000000000000) :
    Con Go.Proofs.Tryz.prog 18 #[.slice a es.length c, vl] r [] (Ret fun v η => v = .bool true ∧ η = []) := by
  refine Con.of (n := 58) [.slice a es.length c, vl] rfl Go.Proofs.Tryz.func18 rfl rfl rfl fun g hg R hR => ?_
  have hin := hin.mono hg
  have hl := hl.mono hg
  replace hv := hv.imp fun _ _ x => LentPA.mono hg x
  obtain ⟨hzl, hzc⟩ := hin.room
  have hvl := hv.length
  have hul := hu.length
  rw [pktMarks_length] at hul
  obtain ⟨a1, c1, rfl⟩ := hl.shape
  refine S.seq (S.region rfl ?_)
  refine O.op (.p rfl) (.as rfl) ?_
  refine O.nil ?_
  refine S.seq (S.seq (S.region rfl ?_))
  refine O.op (.p rfl) (.mv rfl) ?_
  refine O.op (.p rfl) (.len rfl Go.Proofs.Tryz.underlying29 rfl) ?_
  refine O.op (.p rfl) (.mv rfl) ?_
  refine O.op (.p rfl) (.len rfl Go.Proofs.Tryz.underlying29 rfl) ?_
  refine O.op (.p rfl) (.neq rfl rfl) ?_
  refine O.nil ?_
  first | refine S.condD rfl (fun h11 => ?_) (fun h11 => ?_) | refine S.condB rfl (fun h11 => ?_) (fun h11 => ?_)
  · exact absurd rfl (by assumption)
  · refine S.skip (S.seq (S.region rfl ?_))
    refine O.op (.p rfl) (.mv rfl) ?_
    refine O.op (.p rfl) (.mv rfl) ?_
    refine O.op (.p rfl) (.len rfl Go.Proofs.Tryz.underlying29 rfl) ?_
    refine O.op (.p rfl) (.add rfl rfl (IntWalk.i64_in _ (by omega))) ?_
    refine O.slice0 (q := es.length + 12) (Rp.cells 3) (.p rfl) Go.Proofs.Tryz.underlying29 FactKp6.size35 rfl rfl rfl (by omega) ?_
    refine O.op (.p rfl) (.as rfl) ?_
    refine O.nil ?_
    refine S.seq (S.seq (S.region rfl ?_))
    refine O.op (.p rfl) (.as rfl) ?_
    refine O.nil ?_
    refine S.block ?_
    refine S.loopK (ι := Nat) (fun i => i ≤ es.length + 12) (fun i => [(6, .int .i64 (i : Int))]) [(1, _), (5, _)] (fun i => []) (fun i => es.length + 12 - i) (0) (by simp) (.cons rfl (.nil)) (.cons rfl (.cons rfl (.nil))) rfl fun i hx ih => ?_
    have hm1 := meltRefl (g := g)
    refine S.seq (S.seq (S.region rfl ?_))
    refine O.op (.p rfl) (.mv rfl) ?_
    refine O.op (.p rfl) (.mv rfl) ?_
    refine O.op (.p rfl) (.len rfl Go.Proofs.Tryz.underlying29 rfl) ?_
    refine O.op (.p rfl) (.lss rfl rfl) ?_
    refine O.nil ?_
    first | refine S.condD rfl (fun h20 => ?_) (fun h20 => ?_) | refine S.condB rfl (fun h20 => ?_) (fun h20 => ?_)
    · have hi : i < es.length + 12 := by omega
      refine S.skip (S.seq (S.block (S.seq (S.regionD (L := [0, 1, 2, 3, 4, 5, 6, 7, 8, 9, 10, 11, 12, 13, 14, 15, 16, 17, 18, 19, 20, 21, 22, 23, 24, 25, 26, 27, 28, 29, 30, 31, 32, 33, 34]) FactKp6.mixed (by kernel_rfl) ?_))))
      refine .quiet (.p rfl) rfl (fun _ => .mv rfl) ?_
      refine .quiet (.p rfl) rfl (fun _ => .mv rfl) ?_
      refine .quiet (.p rfl) rfl (fun _ => .len rfl Go.Proofs.Tryz.underlying29 rfl) ?_
      refine .quiet (.p rfl) rfl (fun _ => .lss rfl rfl) ?_
      refine .quiet (.p rfl) rfl (fun _ => .mv rfl) ?_
      first | refine OD.caseD 27 rfl (fun h27 => ?_) (fun h27 => ?_) | refine OD.caseB 27 rfl (fun h27 => ?_) (fun h27 => ?_)
      · have hi2 : i < es.length := by omega
        obtain ⟨a', c', hci, hI1, hI2, hA⟩ := lentK_at (dss := dss) hv i hi2 (by simp; omega)
        have hrow := hq es[i] (List.getElem_mem hi2)
        refine .quiet (.g rfl rfl) rfl (fun _ => .mv rfl) ?_
        refine .quiet (.g rfl rfl) rfl (fun _ => .mv rfl) ?_
        refine OD.idx' (.g rfl rfl) Go.Proofs.Tryz.underlying29 FactKp6.size35 rfl rfl rfl (hin) (by decide) (by first | omega | (simp; done) | (simp; omega) | decide) (fun p30 cs30 hp30 hr30 => ?_)
        obtain ⟨e30, _, _⟩ := hr30
        rw [hci] at e30
        subst e30
        refine .quiet (.g rfl rfl) rfl (fun _ => .loadAgg Go.Proofs.Tryz.isAgg35 (by kernel_rfl) rfl hp30) ?_
        refine .quiet (.g rfl rfl) rfl (fun _ => .mv rfl) ?_
        refine .quiet (.g rfl rfl) rfl (fun _ => .mv rfl) ?_
        refine OD.idx' (.g rfl rfl) Go.Proofs.Tryz.underlying29 FactKp6.size35 rfl rfl rfl (by first | assumption | exact Arr.mono hg (by assumption) | exact Arr.left (by assumption) | exact Arr.left (Arr.mono hg (by assumption))) (by decide) (by first | omega | (simp; done) | (simp; omega) | decide) (fun p34 cs34 hp34 hr34 => ?_)
        obtain ⟨v34, rfl, hi34, hj34, ha34⟩ := PktRp.open hr34; obtain ⟨a34, c34, rfl⟩ := ha34.shape
        refine .quiet (.g rfl rfl) rfl (fun _ => .loadAgg Go.Proofs.Tryz.isAgg35 (by kernel_rfl) rfl hp34) ?_
        refine OD.call0 (.g rfl rfl) (by kernel_rfl) rfl FactKp6.ok38 rfl rfl ((keptPacket_c hA (by first | assumption | exact Arr.mono hg (by assumption) | exact Arr.left (by assumption) | exact Arr.left (Arr.mono hg (by assumption))) (by omega))) ?_
        rintro v36 _ ⟨rfl, rfl⟩
        try simp only [List.cons_append, List.nil_append, List.append_nil]
        refine .quiet (.g rfl rfl) rfl (fun _ => .not rfl) ?_
        refine .quiet (.p rfl) rfl (fun _ => .pickT rfl rfl) ?_
        refine .quiet (.p rfl) rfl (fun _ => .mv rfl) ?_
        refine .quiet (.g rfl rfl) rfl (fun _ => .mv rfl) ?_
        refine .quiet (.g rfl rfl) rfl (fun _ => .mv rfl) ?_
        refine .quiet (.g rfl rfl) rfl (fun _ => .len rfl Go.Proofs.Tryz.underlying29 rfl) ?_
        refine .quiet (.g rfl rfl) rfl (fun _ => .geq rfl rfl) ?_
        refine OD.slot 43 (v' := .bool false) rfl (congrArg Value.bool (by simp; omega)) ?_
        refine .quiet (.g rfl rfl) rfl (fun _ => .mv rfl) ?_
        refine .no rfl rfl rfl rfl ?_
        refine .no rfl rfl rfl rfl ?_
        refine .no rfl rfl rfl rfl ?_
        refine .no rfl rfl rfl rfl ?_
        refine .no rfl rfl rfl rfl ?_
        refine .no rfl rfl rfl rfl ?_
        refine .no rfl rfl rfl rfl ?_
        refine .no rfl rfl rfl rfl ?_
        refine .no rfl rfl rfl rfl ?_
        refine .no rfl rfl rfl rfl ?_
        refine .no rfl rfl rfl rfl ?_
        refine .quiet (.g rfl rfl) rfl (fun _ => .pickF rfl rfl) ?_
        refine .quiet (.p rfl) rfl (fun _ => .pickF rfl rfl) ?_
        refine .nil ?_
        refine S.condF rfl ?_
        refine S.skip (S.inBlock (S.region rfl ?_))
        refine O.op (.p rfl) (.mv rfl) ?_
        refine O.op (.p rfl) (.add rfl rfl (IntWalk.i64_in _ (by omega))) ?_
        refine O.op (.p rfl) (.as rfl) ?_
        refine O.nil ?_
        refine S.weaken ?_ (ih (i + 1) (by omega) (by omega))
        repeat (first | exact Sub.nil | refine Sub.cons rfl ?_)
      · have hi2 : es.length ≤ i := by omega
        have hci := markK_at hvl hu i hi2 (by simp; omega)
        refine .no rfl rfl rfl rfl ?_
        refine .no rfl rfl rfl rfl ?_
        refine .no rfl rfl rfl rfl ?_
        refine .no rfl rfl rfl rfl ?_
        refine .no rfl rfl rfl rfl ?_
        refine .no rfl rfl rfl rfl ?_
        refine .no rfl rfl rfl rfl ?_
        refine .no rfl rfl rfl rfl ?_
        refine .no rfl rfl rfl rfl ?_
        refine .no rfl rfl rfl rfl ?_
        refine .quiet (.p rfl) rfl (fun _ => .pickF rfl rfl) ?_
        refine .quiet (.p rfl) rfl (fun _ => .mv rfl) ?_
        refine .quiet (.g rfl rfl) rfl (fun _ => .mv rfl) ?_
        refine .quiet (.g rfl rfl) rfl (fun _ => .mv rfl) ?_
        refine .quiet (.g rfl rfl) rfl (fun _ => .len rfl Go.Proofs.Tryz.underlying29 rfl) ?_
        refine .quiet (.g rfl rfl) rfl (fun _ => .geq rfl rfl) ?_
        refine OD.slot 43 (v' := .bool true) rfl (congrArg Value.bool (by simp; omega)) ?_
        refine .quiet (.g rfl rfl) rfl (fun _ => .mv rfl) ?_
        refine .quiet (.g rfl rfl) rfl (fun _ => .mv rfl) ?_
        refine .quiet (.g rfl rfl) rfl (fun _ => .mv rfl) ?_
        refine OD.idx' (.g rfl rfl) Go.Proofs.Tryz.underlying29 FactKp6.size35 rfl rfl rfl (hin) (by decide) (by first | omega | (simp; done) | (simp; omega) | decide) (fun p47 cs47 hp47 hr47 => ?_)
        obtain ⟨e47, _, _⟩ := hr47
        rw [hci] at e47
        subst e47
        refine .quiet (.g rfl rfl) rfl (fun _ => .loadAgg Go.Proofs.Tryz.isAgg35 (by kernel_rfl) rfl hp47) ?_
        refine .quiet (.g rfl rfl) rfl (fun _ => .mv rfl) ?_
        refine .quiet (.g rfl rfl) rfl (fun _ => .mv rfl) ?_
        refine .quiet (.g rfl rfl) rfl (fun _ => .len rfl Go.Proofs.Tryz.underlying29 rfl) ?_
        refine .quiet (.g rfl rfl) rfl (fun _ => .sub rfl rfl (IntWalk.i64_in _ (by omega))) ?_
        refine OD.call0 (.g rfl rfl) (by kernel_rfl) rfl FactKp6.ok36 rfl rfl ((markPacket_c _ _ (by constructor <;> omega) (by constructor <;> omega))) ?_
        rintro v53 _ ⟨rfl, rfl⟩
        try simp only [List.cons_append, List.nil_append, List.append_nil]
        refine OD.call0 (.g rfl rfl) (by kernel_rfl) rfl FactKp6.ok12 rfl rfl ((samePacket_c Arr.nil Arr.nil)) ?_
        rintro v54 _ ⟨rfl, rfl⟩
        try simp only [List.cons_append, List.nil_append, List.append_nil]
        refine OD.slot 54 (v' := .bool true) rfl (congrArg Value.bool (by simp)) ?_
        refine .quiet (.g rfl rfl) rfl (fun _ => .not rfl) ?_
        refine .quiet (.g rfl rfl) rfl (fun _ => .pickT rfl rfl) ?_
        refine .quiet (.p rfl) rfl (fun _ => .pickF rfl rfl) ?_
        refine .nil ?_
        refine S.condF rfl ?_
        refine S.skip (S.inBlock (S.region rfl ?_))
        refine O.op (.p rfl) (.mv rfl) ?_
        refine O.op (.p rfl) (.add rfl rfl (IntWalk.i64_in _ (by omega))) ?_
        refine O.op (.p rfl) (.as rfl) ?_
        refine O.nil ?_
        refine S.weaken ?_ (ih (i + 1) (by omega) (by omega))
        repeat (first | exact Sub.nil | refine Sub.cons rfl ?_)
    · refine S.exit rfl ?_
      refine S.seq (S.region rfl ?_)
      refine O.op (.p rfl) (.as rfl) ?_
      refine O.nil ?_
      refine S.ret Go.Proofs.Tryz.results18 rfl fun w hw => Holds.end_ hR hw ?_
      exact ⟨_, ⟨rfl, rfl⟩, by repeat (first | exact Picks.all | exact Picks.nil | (apply Picks.cons; focus (repeat (first | exact Sel.here | apply Sel.there))) | apply Picks.skip)⟩
/-- packets that are lent, to be read alone -/
def LentKL (h : Fr) (v : Value) (es : List Pkt) : Prop := ∃ a c css dss, v = .slice a es.length c ∧ Arr (Rp.cells 3) h (.slice a (es.length + 12) c) (css ++ dss) ∧ All2 (LentPA h) css es ∧ All2 MarkC dss (pktMarks 12)
theorem LentKL.mono {v : Value} {es : List Pkt} {h k : Fr} (s : h.sub k) : LentKL h v es → LentKL k v es
  | ⟨a, c, css, dss, h1, h2, h3, h4⟩ => ⟨a, c, css, dss, h1, h2.mono s, h3.imp fun _ _ => LentPA.mono s, h4⟩
theorem LentKP.read {v : Value} {es : List Pkt} {m : Fr} : LentKP v es m → LentKL m v es
  | ⟨a, c, css, dss, h1, h2, h3, h4, x⟩ => by
    obtain ⟨m1, k1, _, s1, t1, y1, m2, k2, _, s2, t2, y2, _⟩ := x
    exact ⟨a, c, css, dss, h1, y1.arr.mono s1, EachP.all2 (fun _ _ _ z q => (LentPW.lentPA z).mono q) y2 (Fr.sub_trans s2 t1), h4⟩
theorem LentKL.arr {v : Value} {es : List Pkt} {h : Fr} : LentKL h v es → Arr PktRp h v es
  | ⟨a, c, css, dss, h1, h2, h3, h4⟩ => by
    subst h1
    have hl := h3.length
    have hd := h4.length.trans (pktMarks_length 12)
    exact Arr.ofCells (css := css) (k := 3) (Arr.cut (ys := dss) hl.symm (by rw [hl, hd]; exact h2)) (h3.imp fun _ _ => LentPA.rel) rfl
theorem keptPackets_r {r : Fr} {va vl : Value} {es : List Pkt} (hin : LentKL r va es) (hl : Arr PktRp r vl es) (hq : ∀ x ∈ es, x.2.2.1.length ≤ 100000000000000) (hb : es.length ≤ 1000000000000) :
    Con Go.Proofs.Tryz.prog 18 #[va, vl] r [] (Ret fun v η => v = .bool true ∧ η = []) := by
  obtain ⟨a, c, css, dss, rfl, h2, h3, h4⟩ := hin
  exact keptPackets_c h2 h3 h4 hl hq hb
theorem overPackets_c {r : Fr} {a : Option Addr} {c : Nat} {es : List Pkt} (hq : ∀ x ∈ es, x.2.2.1.length ≤ 100000000000) (hb : es.length ≤ 100000000000) :
    Con Go.Proofs.Tryz.prog 19 #[.slice a es.length c] r [LentKP (.slice a es.length c) es] (Ret fun v η => v = .tuple #[] ∧ η = []) := by
  refine Con.of (n := 35) [.slice a es.length c] rfl Go.Proofs.Tryz.func19 rfl rfl rfl fun g hg R hR => ?_
  refine S.conv (C := fun m => ∃ x : List (List Value) × List (List Value), es.length + 12 ≤ c ∧ x.1.length = es.length ∧ x.2.length = 12 ∧ Sat [OwnP (Rp.cells 3) 35 (.slice a (es.length + 12) c) (x.1 ++ x.2), EachP LentPW x.1 es] m) Sel.here (fun m ⟨_, _, css, dss, h1, h2, h3, h4, x⟩ => ⟨m, Fr.sub_refl _, (css, dss), by cases h1; exact ⟨h2, h3, h4.len2.trans (pktMarks_length 12), x⟩⟩) ?_
  refine S.exi fun x => ?_
  obtain ⟨css, dss⟩ := x
  refine S.factS Sel.here (fun _ x => (⟨x.1, x.2.1, x.2.2.1⟩ : es.length + 12 ≤ c ∧ css.length = es.length ∧ dss.length = 12)) fun ⟨hroom, hcl, hdl⟩ => ?_
  refine S.entail (fun _ x => x.2.2.2) ?_
  simp only [List.cons_append, List.nil_append]
  refine S.frzT (B := OwnP (Rp.cells 3) 35 (.slice a (es.length + 12) c) (css ++ dss)) (by repeat (first | exact Sel.here | apply Sel.there)) fun g1 hs1 ⟨m1, hm1', hsm1⟩ th1 => ?_
  have hin := hm1'.arr.mono hsm1
  refine S.seq (S.seq (S.region rfl ?_))
  refine O.op (.p rfl) (.as rfl) ?_
  refine O.nil ?_
  refine S.block ?_
  refine S.conv (B := EachP LentPW css es) (C := EachP LentPW (css.drop 0) (es.drop 0)) (by repeat (first | exact Sel.here | apply Sel.there)) (fun m x => ⟨m, Fr.sub_refl _, by simpa using x⟩) ?_
  refine S.loopK (ι := Nat) (fun i => i ≤ es.length) (fun i => [(2, .int .i64 (i : Int))]) [(0, _)] (fun i => [EachP LentPW (css.drop i) (es.drop i)]) (fun i => es.length - i) (0) (by simp) (.cons rfl (.nil)) (.cons rfl (.nil)) rfl fun i hx ih => ?_
  have hm1 := meltRefl (g := g)
  refine S.seq (S.seq (S.region rfl ?_))
  refine O.op (.p rfl) (.mv rfl) ?_
  refine O.op (.p rfl) (.mv rfl) ?_
  refine O.op (.p rfl) (.len rfl Go.Proofs.Tryz.underlying29 rfl) ?_
  refine O.op (.p rfl) (.lss rfl rfl) ?_
  refine O.nil ?_
  first | refine S.condD rfl (fun h8 => ?_) (fun h8 => ?_) | refine S.condB rfl (fun h8 => ?_) (fun h8 => ?_)
  · have hi : i < es.length := by omega
    have hic : i < css.length := by omega
    have hrow := hq es[i] (List.getElem_mem hi)
    rw [List.drop_eq_getElem_cons hi, List.drop_eq_getElem_cons hic]
    refine S.eachPop (by repeat (first | exact Sel.here | apply Sel.there)) ?_
    refine S.conv (B := LentPW css[i] es[i]) (C := fun m => ∃ q : Option Addr × Nat, css[i] = [.int .i64 es[i].1, .int .i64 es[i].2.1, .slice q.1 es[i].2.2.1.length q.2] ∧ LentP 5 (.slice q.1 es[i].2.2.1.length q.2) es[i].2.2.1 m) (by repeat (first | exact Sel.here | apply Sel.there)) (fun m ⟨v, h1, _, _, h4⟩ => ⟨m, Fr.sub_refl _, by obtain ⟨a', c', h5, h6, h7⟩ := h4; subst h6; exact ⟨(a', c'), h1, a', c', h5, rfl, h7⟩⟩) ?_
    refine S.exi fun q => ?_
    refine S.factS Sel.here (fun _ x => x.1) fun hci => ?_
    refine S.conv (B := fun m => css[i] = [.int .i64 es[i].1, .int .i64 es[i].2.1, .slice q.1 es[i].2.2.1.length q.2] ∧ LentP 5 (.slice q.1 es[i].2.2.1.length q.2) es[i].2.2.1 m) (C := LentP 5 (.slice q.1 es[i].2.2.1.length q.2) es[i].2.2.1) Sel.here (fun m x => ⟨m, Fr.sub_refl _, x.2⟩) ?_
    have hcat : ∀ h, (css ++ dss)[i]'h = [.int .i64 es[i].1, .int .i64 es[i].2.1, .slice q.1 es[i].2.2.1.length q.2] := fun h => by rw [List.getElem_append_left hic]; exact hci
    have hcutl : (css ++ dss).length = es.length + 12 := by simp; omega
    refine S.skip (S.seq (S.block (S.region rfl ?_)))
    refine O.op (.p rfl) (.mv rfl) ?_
    refine O.op (.p rfl) (.mv rfl) ?_
    have hin2 : Arr (Rp.cells 3) g1.h (.slice a es.length c) css := Arr.cut (ys := dss) hcl.symm (by rw [hcl, hdl]; exact hin)
    refine O.idx' (.p rfl) Go.Proofs.Tryz.underlying29 FactKp6.size35 rfl rfl rfl (hin2) (by decide) (by first | omega | (simp; done) | (simp; omega) | decide) (fun p13 cs13 hp13 hr13 => ?_)
    obtain ⟨e13, _, _⟩ := hr13
    rw [hci] at e13
    subst e13
    refine O.op (.p rfl) (.loadAgg Go.Proofs.Tryz.isAgg35 (by kernel_rfl) rfl hp13) ?_
    refine O.callS (.p rfl) rfl FactKp6.ok39 rfl rfl (by repeat (first | exact Sel.here | apply Sel.there)) (overPacket_c hrow) ?_
    rintro v15 _ ⟨rfl, rfl⟩
    try simp only [List.cons_append, List.nil_append, List.append_nil]
    refine O.nil ?_
    refine S.inBlock (S.region rfl ?_)
    refine O.op (.p rfl) (.mv rfl) ?_
    refine O.op (.p rfl) (.add rfl rfl (IntWalk.i64_in _ (by omega))) ?_
    refine O.op (.p rfl) (.as rfl) ?_
    refine O.nil ?_
    refine S.pk ?_ (S.weaken ?_ (ih (i + 1) (by omega) (by omega)))
    · repeat (first | exact Picks.all | exact Picks.nil | (apply Picks.cons; focus (repeat (first | exact Sel.here | apply Sel.there))) | apply Picks.skip)
    repeat (first | exact Sub.nil | refine Sub.cons rfl ?_)
  · clear ih
    refine th1 ?_
    refine S.pk (ζ := [OwnP (Rp.cells 3) 35 (.slice a (es.length + 12) c) (css ++ dss)]) (by repeat (first | exact Picks.all | exact Picks.nil | (apply Picks.cons; focus (repeat (first | exact Sel.here | apply Sel.there))) | apply Picks.skip)) ?_
    obtain ⟨zs, hzs, hzl⟩ : ∃ zs, css ++ dss = zs ∧ zs.length = es.length + 12 := ⟨_, rfl, by simp; omega⟩
    rw [hzs]
    refine S.exit rfl ?_
    refine S.seq (S.region rfl ?_)
    refine O.op (.p rfl) (.mv rfl) ?_
    refine O.op (.p rfl) (.mv rfl) ?_
    refine O.op (.p rfl) (.cap rfl Go.Proofs.Tryz.underlying29 rfl) ?_
    refine O.op (.p rfl) (.mv rfl) ?_
    refine O.op (.p rfl) (.len rfl Go.Proofs.Tryz.underlying29 rfl) ?_
    refine O.op (.p rfl) (.add rfl rfl (IntWalk.i64_in _ (by omega))) ?_
    refine O.op (.p rfl) (.min2 rfl rfl) ?_
    refine O.slice0 (q := es.length + 12) (Rp.cells 3) (.p rfl) Go.Proofs.Tryz.underlying29 FactKp6.size35 rfl rfl (by split <;> omega) (by omega) ?_
    refine O.op (.p rfl) (.as rfl) ?_
    refine O.nil ?_
    refine S.seq (S.region rfl ?_)
    refine O.op (.p rfl) (.as rfl) ?_
    refine O.nil ?_
    refine S.block ?_
    refine S.loopK2 (ι := Nat) (κ := List (List Value)) (fun i zs => i ≤ es.length + 12 ∧ zs.length = es.length + 12) (fun i zs => [(4, .int .i64 (i : Int))]) [(3, _)] (fun i zs => [OwnP (Rp.cells 3) 35 (.slice a (es.length + 12) c) zs]) (fun i zs => es.length + 12 - i) (0) (zs) (by exact ⟨Nat.zero_le _, hzl⟩) (.cons rfl (.nil)) (.cons rfl (.nil)) rfl fun i zs hx ih => ?_
    have hm2 := meltRefl (g := g)
    obtain ⟨hx1, hx2⟩ := hx
    refine S.seq (S.seq (S.region rfl ?_))
    refine O.op (.p rfl) (.mv rfl) ?_
    refine O.op (.p rfl) (.mv rfl) ?_
    refine O.op (.p rfl) (.len rfl Go.Proofs.Tryz.underlying29 rfl) ?_
    refine O.op (.p rfl) (.lss rfl rfl) ?_
    refine O.nil ?_
    first | refine S.condD rfl (fun h27 => ?_) (fun h27 => ?_) | refine S.condB rfl (fun h27 => ?_) (fun h27 => ?_)
    · refine S.skip (S.seq (S.block (S.region rfl ?_)))
      refine O.op (.p rfl) (.mv rfl) ?_
      refine O.op (.p rfl) (.mv rfl) ?_
      refine O.op (.p rfl) (.mv rfl) ?_
      refine O.call0 (.p rfl) rfl FactKp6.ok36 rfl rfl ((markPacket_w _ _ (by constructor <;> omega) (by constructor <;> omega))) ?_
      rintro v33 _ ⟨cs33, rfl, hc33, rfl⟩
      try simp only [List.cons_append, List.nil_append, List.append_nil]
      refine O.opE (.p rfl) (.idxOwn (T := (Rp.cells 3)) Go.Proofs.Tryz.underlying29 FactKp6.size35 rfl rfl rfl (by repeat (first | exact Sel.here | apply Sel.there)) (by first | omega | (simp; done) | (simp; omega))) ?_
      rintro _ _ ⟨p34, rfl, hp34, rfl⟩
      refine O.opU rfl (.storeOwn FactKp6.size35 rfl hp34 rfl (by repeat (first | exact Sel.here | apply Sel.there)) (by first | omega | (simp; done) | (simp; omega)) (⟨rfl, hc33.1, hc33.2⟩ : (Rp.cells 3).rel Fr.emp cs33 cs33)) ?_
      refine O.nil ?_
      refine S.inBlock (S.region rfl ?_)
      refine O.op (.p rfl) (.mv rfl) ?_
      refine O.op (.p rfl) (.add rfl rfl (IntWalk.i64_in _ (by omega))) ?_
      refine O.op (.p rfl) (.as rfl) ?_
      refine O.nil ?_
      refine S.pk ?_ (S.weaken ?_ (ih (i + 1) ((zs.set i cs33)) (by exact ⟨by omega, by simp; omega⟩) (by omega)))
      · repeat (first | exact Picks.all | exact Picks.nil | (apply Picks.cons; focus (repeat (first | exact Sel.here | apply Sel.there))) | apply Picks.skip)
      repeat (first | exact Sub.nil | refine Sub.cons rfl ?_)
    · clear ih
      refine S.exit rfl ?_
      refine S.end0 Go.Proofs.Tryz.results19 fun w hw => Holds.end_ hR hw ?_
      exact ⟨_, ⟨rfl, rfl⟩, by repeat (first | exact Picks.all | exact Picks.nil | (apply Picks.cons; focus (repeat (first | exact Sel.here | apply Sel.there))) | apply Picks.skip)⟩

end Go.Proofs.YthaebmfgelaleaaGreat
