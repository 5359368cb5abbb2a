import Derived.Test.YtcghiboamlaenaaDoorKit8
open Go Go.Sp
set_option maxRecDepth 100000
attribute [local irreducible] obj Own OwnP
namespace Go.Proofs.YtcghiboamlaenaaDoor
theorem FactKit12.elem25 : elemIs Go.Proofs.Tryd.prog 25 2 32 [.int .u8 0, .slice none 0 0] := elemIs.mk (by kernel_rfl) rfl
theorem FactKit12.mixed : Go.Proofs.Tryd.prog.follows .mixedOrders = true := by kernel_rfl
theorem FactKit12.ok33 : callable Go.Proofs.Tryd.prog 33 = true := by kernel_rfl
theorem FactKit12.ok36 : callable Go.Proofs.Tryd.prog 36 = true := by kernel_rfl
theorem FactKit12.ok37 : callable Go.Proofs.Tryd.prog 37 = true := by kernel_rfl
theorem FactKit12.ok38 : callable Go.Proofs.Tryd.prog 38 = true := by kernel_rfl
theorem FactKit12.ok55 : callable Go.Proofs.Tryd.prog 55 = true := by kernel_rfl
theorem FactKit12.size25 : (Go.Proofs.Tryd.prog.info? 25).map (·.size) = some 2 := by kernel_rfl

/-- marks behind a list of entries that is lent -/
def entMarks (n : Nat) : List EntT := (List.range n).map fun (i : Nat) => (0, markT 1 (i : Int), ())
@[simp] theorem entMarks_length (n : Nat) : (entMarks n).length = n := by simp [entMarks]
theorem entMarks_succ (n : Nat) : entMarks n ++ [(0, markT 1 (n : Int), ())] = entMarks (n + 1) := by simp [entMarks, List.range_succ]
def LentEW (e : TypeId) (cs : List Value) (x : EntT) : SProp := fun m => ∃ v, cs = [byteV x.1, v] ∧ LentP e v x.2.1 m
def LentEA (h : Fr) (cs : List Value) (x : EntT) : Prop := ∃ v, cs = [byteV x.1, v] ∧ LentA h v x.2.1
def MarkEW (cs : List Value) (x : EntT) : SProp := fun m => EntRp.rel m cs x
theorem LentEA.mono {cs : List Value} {x : EntT} {h k : Fr} (s : h.sub k) : LentEA h cs x → LentEA k cs x
  | ⟨v, a, b⟩ => ⟨v, a, b.mono s⟩
theorem LentEA.rel {cs : List Value} {x : EntT} {h : Fr} : LentEA h cs x → EntRp.rel h cs x
  | ⟨v, a, b⟩ => by obtain ⟨k, xs, ⟨⟩⟩ := x; subst a; exact EntRp.mk b.arr
theorem LentEW.lentEA {e : TypeId} {cs : List Value} {x : EntT} {m : Fr} : LentEW e cs x m → LentEA m cs x
  | ⟨v, a, b⟩ => ⟨v, a, b.lentA⟩
theorem markEntry_c {r : Fr} (k i : Int) : Con Go.Proofs.Tryd.prog 37 #[.int .i64 k, .int .i64 i] r [] (Ret fun v η => ∃ a c, v = .agg #[byteV 0, .slice a 8 c] ∧ η = [fun m => Arr Rp.u8 m (.slice a 8 c) (markT k i)]) := by
  refine Con.of (n := 10) [.int .i64 k, .int .i64 i] rfl Go.Proofs.Tryd.func37 rfl rfl rfl fun g hg R hR => ?_
  refine S.seq (S.region rfl ?_)
  refine O.opE (.p rfl) (.alloc (cs := [.int .u8 0, .slice none 0 0]) Go.Proofs.Tryd.zeroValue25 rfl) ?_
  rintro _ _ ⟨b4, rfl, rfl⟩
  refine O.nil ?_
  refine S.seq (S.region rfl ?_)
  refine O.op (.p rfl) (.mv rfl) ?_
  refine O.op (.p rfl) (.mv rfl) ?_
  refine O.call0 (.p rfl) rfl FactKit12.ok55 rfl rfl (markText_c _ _) ?_
  rintro v7 _ ⟨rfl, rfl⟩
  try simp only [List.cons_append, List.nil_append, List.append_nil]
  refine O.opE (.p rfl) (.strBytes (xs := markT k i) Go.Proofs.Tryd.underlying9 Go.Proofs.Tryd.underlying23 Go.Proofs.Tryd.underlying5 rfl (by simp)) ?_
  rintro v8 _ ⟨a8, c8, rfl, rfl⟩
  refine O.op (.p rfl) (.build (cs := [_, _]) Go.Proofs.Tryd.underlying25 rfl rfl rfl rfl rfl) ?_
  refine O.opU rfl (.storeObj (by kernel_rfl) rfl rfl rfl rfl (by repeat (first | exact Sel.here | apply Sel.there)) (by first | (simp; done) | (simp [Value.cells]; done))) ?_
  refine O.nil ?_
  refine S.retCellAgg Go.Proofs.Tryd.results37 Go.Proofs.Tryd.isAgg25 (by kernel_rfl) rfl (by repeat (first | exact Sel.here | apply Sel.there)) fun w hw => Holds.end_ hR hw ?_
  exact ⟨_, ⟨a8, c8, rfl, rfl⟩, by repeat (first | exact Picks.all | exact Picks.nil | (apply Picks.cons; focus (repeat (first | exact Sel.here | apply Sel.there))) | apply Picks.skip)⟩
theorem lentEntries_c {r : Fr} {va : Value} {es : List EntT} (ha : Arr EntRp r va es) (hq : ∀ x ∈ es, x.2.1.length ≤ 100000000000000) (hl : es.length ≤ 1000000000000) :
    Con Go.Proofs.Tryd.prog 18 #[va] r [] (Ret fun v η => ∃ a c css dss, css.length = es.length ∧ dss.length = 12 ∧ v = .slice a es.length c ∧ η = [OwnP (Rp.cells 2) 25 (.slice a (es.length + 12) c) (css ++ dss), EachP (LentEW 5) css es, EachP MarkEW dss (entMarks 12)]) := by
  refine Con.of (n := 39) [va] rfl Go.Proofs.Tryd.func18 rfl rfl rfl fun g hg R hR => ?_
  have ha := ha.mono hg
  obtain ⟨a1, c1, rfl⟩ := ha.shape
  refine S.seq (S.region rfl ?_)
  refine O.op (.p rfl) (.as rfl) ?_
  refine O.nil ?_
  refine S.seq (S.region rfl ?_)
  refine O.op (.p rfl) (.mv rfl) ?_
  refine O.op (.p rfl) (.len rfl Go.Proofs.Tryd.underlying35 rfl) ?_
  refine O.op (.p rfl) (.add rfl rfl (IntWalk.i64_in _ (by omega))) ?_
  refine O.opE (.p rfl) (.makeP0 (T := Rp.cells 2) (c := es.length + 12) Go.Proofs.Tryd.underlying35 FactKit12.elem25 rfl rfl rfl rfl (by omega) (by omega)) ?_
  rintro v10 _ ⟨a10, c10, rfl, rfl⟩
  refine O.op (.p rfl) (.as rfl) ?_
  refine O.nil ?_
  refine S.seq (S.seq (S.region rfl ?_))
  refine O.op (.p rfl) (.as rfl) ?_
  refine O.nil ?_
  refine S.block ?_
  refine S.each0 (LentEW 5) ?_
  refine S.loopK4 (ι := Nat) (κ := Option Addr) (υ := Nat) (τ := List (List Value)) (fun i a c css => i ≤ es.length ∧ css.length = i) (fun i a c css => [(4, .int .i64 (i : Int)), (3, .slice a i c)]) [(0, _)] (fun i a c css => [EachP (LentEW 5) css (es.take i), OwnP (Rp.cells 2) 25 (.slice a i c) css]) (fun i a c css => es.length - i) (0) (a10) (c10) ([]) (by exact ⟨by simp, rfl⟩) (.cons rfl (.cons rfl (.nil))) (.cons rfl (.nil)) rfl fun i a c css hx ih => ?_
  have hm1 := meltRefl (g := g)
  obtain ⟨hx1, hvs⟩ := hx
  refine S.seq (S.seq (S.region rfl ?_))
  refine O.op (.p rfl) (.mv rfl) ?_
  refine O.op (.p rfl) (.mv rfl) ?_
  refine O.op (.p rfl) (.len rfl Go.Proofs.Tryd.underlying35 rfl) ?_
  refine O.op (.p rfl) (.lss rfl rfl) ?_
  refine O.nil ?_
  first | refine S.condD rfl (fun h14 => ?_) (fun h14 => ?_) | refine S.condB rfl (fun h14 => ?_) (fun h14 => ?_)
  · have hi : i < es.length := by omega
    have hrow := hq es[i] (List.getElem_mem hi)
    refine S.skip (S.seq (S.block (S.seq (S.region rfl ?_))))
    refine O.op (.p rfl) (.mv rfl) ?_
    refine O.op (.p rfl) (.mv rfl) ?_
    refine O.idx' (.p rfl) Go.Proofs.Tryd.underlying35 FactKit12.size25 rfl rfl rfl (by first | assumption | exact Arr.mono hg (by assumption) | exact Arr.left (by assumption) | exact Arr.left (Arr.mono hg (by assumption))) (by decide) (by first | omega | (simp; done) | (simp; omega) | decide) (fun p19 cs19 hp19 hr19 => ?_)
    obtain ⟨v19, rfl, ha19⟩ := EntRp.open hr19; obtain ⟨a19, c19, rfl⟩ := ha19.shape
    refine O.op (.p rfl) (.loadAgg Go.Proofs.Tryd.isAgg25 (by kernel_rfl) rfl hp19) ?_
    refine O.call0 (.p rfl) rfl FactKit12.ok36 rfl rfl (lentEntry_c (by first | assumption | exact Arr.mono hg (by assumption) | exact Arr.left (by assumption) | exact Arr.left (Arr.mono hg (by assumption))) (by first | omega | (simp; done) | (simp; omega) | decide)) ?_
    rintro v21 _ ⟨a21, c21, rfl, rfl⟩
    try simp only [List.cons_append, List.nil_append, List.append_nil]
    refine O.opE (.p rfl) (.alloc (cs := [.int .u8 0, .slice none 0 0]) Go.Proofs.Tryd.zeroValue25 rfl) ?_
    rintro _ _ ⟨b5, rfl, rfl⟩
    refine O.opU rfl (.storeObj (by kernel_rfl) rfl rfl rfl rfl (by repeat (first | exact Sel.here | apply Sel.there)) (by first | (simp; done) | (simp [Value.cells]; done))) ?_
    refine O.nil ?_
    refine S.region rfl ?_
    refine O.op (.p rfl) (.mv rfl) ?_
    refine O.op (.p rfl) (.loadObjAgg (news := [_, _]) Go.Proofs.Tryd.isAgg25 (by kernel_rfl) rfl (by repeat (first | exact Sel.here | apply Sel.there)) rfl) ?_
    refine O.opE (.p rfl) (.litP (T := (Rp.cells 2)) (ys := [_]) Go.Proofs.Tryd.underlying35 FactKit12.elem25 (by decide) rfl rfl ⟨⟨rfl, rfl, by first | (simp; done) | (intro v hv; simp [Value.cells] at hv; rcases hv with rfl | rfl <;> rfl)⟩, trivial⟩ (by decide)) ?_
    rintro _ _ ⟨a24, c24, rfl, rfl⟩
    refine O.opE (.p rfl) (.appendO (T := (Rp.cells 2)) Go.Proofs.Tryd.underlying35 FactKit12.elem25 (by decide) rfl rfl (by repeat (first | exact Sel.here | apply Sel.there)) (by repeat (first | exact Sel.here | apply Sel.there)) (by first | omega | (simp; done) | (simp; omega) | decide) (by first | omega | (simp; done) | (simp; omega) | decide)) ?_
    rintro _ _ ⟨a25, c25, rfl, rfl⟩
    refine O.op (.p rfl) (.as rfl) ?_
    refine O.nil ?_
    refine S.inBlock (S.region rfl ?_)
    refine O.op (.p rfl) (.mv rfl) ?_
    refine O.op (.p rfl) (.add rfl rfl (IntWalk.i64_in _ (by omega))) ?_
    refine O.op (.p rfl) (.as rfl) ?_
    refine O.nil ?_
    have hcs : (Value.agg #[byteV es[i].1, .slice a21 es[i].2.1.length c21]).cells.toList = [byteV es[i].1, .slice a21 es[i].2.1.length c21] := by simp [Value.cells]
    simp only [hcs]
    refine S.conv (B := LentP 5 (.slice a21 es[i].2.1.length c21) es[i].2.1) (C := LentEW 5 [byteV es[i].1, .slice a21 es[i].2.1.length c21] es[i]) (by repeat (first | exact Sel.here | apply Sel.there)) (fun m x => ⟨m, Fr.sub_refl _, ⟨_, rfl, x⟩⟩) ?_
    refine S.each (A := LentEW 5) (bs := css) (b := [byteV es[i].1, .slice a21 es[i].2.1.length c21]) (a := es[i]) (by repeat (first | exact Sel.here | apply Sel.there)) (by repeat (first | exact Sel.here | apply Sel.there)) ?_
    rw [← List.take_succ_eq_append_getElem hi, hvs]
    refine S.pk ?_ (S.weaken ?_ (ih (i + 1) (a25) (c25) (css ++ [[byteV es[i].1, .slice a21 es[i].2.1.length c21]]) (by exact ⟨by omega, by simp; omega⟩) (by omega)))
    · repeat (first | exact Picks.all | exact Picks.nil | (apply Picks.cons; focus (repeat (first | exact Sel.here | apply Sel.there))) | apply Picks.skip)
    repeat (first | exact Sub.nil | refine Sub.cons rfl ?_)
  · have hi : i = es.length := by omega
    subst hi
    rw [List.take_length]
    refine S.exit rfl ?_
    refine S.seq (S.seq (S.region rfl ?_))
    refine O.op (.p rfl) (.as rfl) ?_
    refine O.nil ?_
    refine S.block ?_
    refine S.conv (B := OwnP (Rp.cells 2) 25 (.slice a es.length c) css) (C := OwnP (Rp.cells 2) 25 (.slice a es.length c) (css ++ [])) (by repeat (first | exact Sel.here | apply Sel.there)) (fun m x => ⟨m, Fr.sub_refl _, by rw [List.append_nil]; exact x⟩) ?_
    refine S.each0 MarkEW ?_
    refine S.loopK4 (ι := Nat) (κ := Option Addr) (υ := Nat) (τ := List (List Value)) (fun i a c dss => i ≤ 12 ∧ dss.length = i) (fun i a c dss => [(6, .int .i64 (i : Int)), (3, .slice a (es.length + i) c)]) [(0, _)] (fun i a c dss => [EachP MarkEW dss (entMarks i), OwnP (Rp.cells 2) 25 (.slice a (es.length + i) c) (css ++ dss), EachP (LentEW 5) css es]) (fun i a c dss => 12 - i) (0) (a) (c) ([]) (by exact ⟨by simp, rfl⟩) (.cons rfl (.cons rfl (.nil))) (.cons rfl (.nil)) rfl fun i a c dss hx ih => ?_
    have hm2 := meltRefl (g := g)
    obtain ⟨hx1, hus⟩ := hx
    refine S.seq (S.seq (S.region rfl ?_))
    refine O.op (.p rfl) (.mv rfl) ?_
    refine O.op (.p rfl) (.lss rfl rfl) ?_
    refine O.nil ?_
    first | refine S.condD rfl (fun h27 => ?_) (fun h27 => ?_) | refine S.condB rfl (fun h27 => ?_) (fun h27 => ?_)
    · refine S.skip (S.seq (S.block (S.region rfl ?_)))
      refine O.op (.p rfl) (.mv rfl) ?_
      refine O.op (.p rfl) (.mv rfl) ?_
      refine O.call0 (.p rfl) rfl FactKit12.ok37 rfl rfl ((markEntry_c _ _)) ?_
      rintro v32 _ ⟨a32, c32, rfl, rfl⟩
      try simp only [List.cons_append, List.nil_append, List.append_nil]
      refine O.opE (.p rfl) (.litP (T := (Rp.cells 2)) (ys := [_]) Go.Proofs.Tryd.underlying35 FactKit12.elem25 (by decide) rfl rfl ⟨⟨rfl, rfl, by first | (simp; done) | (intro v hv; simp [Value.cells] at hv; rcases hv with rfl | rfl <;> rfl)⟩, trivial⟩ (by decide)) ?_
      rintro _ _ ⟨a33, c33, rfl, rfl⟩
      refine O.opE (.p rfl) (.appendO (T := (Rp.cells 2)) Go.Proofs.Tryd.underlying35 FactKit12.elem25 (by decide) rfl rfl (by repeat (first | exact Sel.here | apply Sel.there)) (by repeat (first | exact Sel.here | apply Sel.there)) (by first | omega | (simp; done) | (simp; omega) | decide) (by first | omega | (simp; done) | (simp; omega) | decide)) ?_
      rintro _ _ ⟨a34, c34, rfl, rfl⟩
      refine O.op (.p rfl) (.as rfl) ?_
      refine O.nil ?_
      refine S.inBlock (S.region rfl ?_)
      refine O.op (.p rfl) (.mv rfl) ?_
      refine O.op (.p rfl) (.add rfl rfl (IntWalk.i64_in _ (by omega))) ?_
      refine O.op (.p rfl) (.as rfl) ?_
      refine O.nil ?_
      have hcs : (Value.agg #[byteV 0, .slice a32 8 c32]).cells.toList = [byteV 0, .slice a32 8 c32] := by simp [Value.cells]
      simp only [hcs]
      refine S.conv (B := fun m => Arr Rp.u8 m (.slice a32 8 c32) (markT 1 (i : Int))) (C := MarkEW [byteV 0, .slice a32 8 c32] (0, markT 1 (i : Int), ())) (by repeat (first | exact Sel.here | apply Sel.there)) (fun m x => ⟨m, Fr.sub_refl _, EntRp.mk x⟩) ?_
      refine S.each (A := MarkEW) (bs := dss) (b := [byteV 0, .slice a32 8 c32]) (a := (0, markT 1 (i : Int), ())) (by repeat (first | exact Sel.here | apply Sel.there)) (by repeat (first | exact Sel.here | apply Sel.there)) ?_
      rw [entMarks_succ, List.append_assoc]
      simp only [List.length_append, hvs, hus]
      refine S.pk ?_ (S.weaken ?_ (ih (i + 1) (a34) (c34) ((dss ++ [[byteV 0, .slice a32 8 c32]])) (by exact ⟨by omega, by simp; omega⟩) (by omega)))
      · repeat (first | exact Picks.all | exact Picks.nil | (apply Picks.cons; focus (repeat (first | exact Sel.here | apply Sel.there))) | apply Picks.skip)
      repeat (first | exact Sub.nil | refine Sub.cons rfl ?_)
    · have hi : i = 12 := by omega
      subst hi
      refine S.factS (by repeat (first | exact Sel.here | apply Sel.there)) (fun _ x => OwnP.room (T := Rp.cells 2) (e := 25) (xs := css ++ dss) (a := a) (c := c) (m := es.length + 12) x) fun hroom => ?_
      refine S.exit rfl ?_
      refine S.seq (S.region rfl ?_)
      refine O.op (.p rfl) (.mv rfl) ?_
      refine O.op (.p rfl) (.mv rfl) ?_
      refine O.op (.p rfl) (.len rfl Go.Proofs.Tryd.underlying35 rfl) ?_
      refine O.slice0 (q := es.length) (Rp.cells 2) (.p rfl) Go.Proofs.Tryd.underlying35 FactKit12.size25 rfl rfl rfl (by omega) ?_
      refine O.op (.p rfl) (.as rfl) ?_
      refine O.nil ?_
      refine S.ret Go.Proofs.Tryd.results18 rfl fun w hw => Holds.end_ hR hw ?_
      exact ⟨_, ⟨a, c, css, dss, hvs, hus, rfl, rfl⟩, by repeat (first | exact Picks.all | exact Picks.nil | (apply Picks.cons; focus (repeat (first | exact Sel.here | apply Sel.there))) | apply Picks.skip)⟩
theorem sameEntry_m {r : Fr} {k m : UInt8} {va vb : Value} {xs ys : List UInt8} (ha : Arr Rp.u8 r va xs) :
    Con Go.Proofs.Tryd.prog 33 #[.agg #[byteV k, va], .agg #[byteV m, vb]] r [fun h => Arr Rp.u8 h vb ys] (Ret fun v η => v = .bool (decide ((k, xs, ()) = ((m, ys, ()) : EntT))) ∧ η = []) :=
  Con.lentD (η := []) (bs := [_]) fun _ hm hd => sameEntry_c ha.left ((Sat.w1 Arr.mono (fun _ x => x) hm).right hd)
theorem lentE_at {h : Fr} {css dss : List (List Value)} {es : List EntT} (hv : All2 (LentEA h) css es) (i : Nat) (hi : i < es.length) (hi2 : i < (css ++ dss).length) : ∃ a c, (css ++ dss)[i] = [byteV es[i].1, .slice a es[i].2.1.length c] ∧ LentA h (.slice a es[i].2.1.length c) es[i].2.1 := by
  have hl := hv.length
  rw [List.getElem_append_left (by omega)]
  obtain ⟨v, e, a, c, h1, rfl, h3⟩ := hv.get i (by omega) hi
  exact ⟨a, c, e, a, c, h1, rfl, h3⟩
theorem markE_at {h : Fr} {css dss : List (List Value)} {n : Nat} (hv : css.length = n) (hu : All2 (EntRp.rel h) dss (entMarks 12)) (i : Nat) (hi : n ≤ i) (hi2 : i < (css ++ dss).length) : ∃ a c, (css ++ dss)[i] = [byteV 0, .slice a 8 c] ∧ Arr Rp.u8 h (.slice a 8 c) (markT 1 ((i : Int) - (n : Int))) := by
  have hl := hu.length
  rw [List.getElem_append_right (by omega)]
  have := hu.get (i - css.length) (by simp at hi2; omega) (by simp at hi2 hl ⊢; omega)
  obtain ⟨v, e, x⟩ := EntRp.open this
  have hm : (entMarks 12)[i - css.length]'(by simp at hi2 hl ⊢; omega) = (0, markT 1 ((i : Int) - (n : Int)), ()) := by simp [entMarks, hv, Int.natCast_sub hi]
  rw [hm] at e x
  obtain ⟨a, c, rfl⟩ := x.shape
  exact ⟨a, c, e, x⟩
theorem keptEntries_c {r : Fr} {a : Option Addr} {c : Nat} {vl : Value} {css dss : List (List Value)} {es : List EntT} (hin : Arr (Rp.cells 2) r (.slice a (es.length + 12) c) (css ++ dss)) (hv : All2 (LentEA r) css es) (hu : All2 (EntRp.rel r) dss (entMarks 12)) (hl : Arr EntRp r vl es)
    (hq : ∀ x ∈ es, x.2.1.length ≤ 100000000000000) (hb : es.length ≤ 1000000000000) :
    Con Go.Proofs.Tryd.prog 19 #[.slice a es.length c, vl] r [] (Ret fun v η => v = .bool true ∧ η = []) := by
  refine Con.of (n := 58) [.slice a es.length c, vl] rfl Go.Proofs.Tryd.func19 rfl rfl rfl fun g hg R hR => ?_
  have hin := hin.mono hg
  have hl := hl.mono hg
  replace hv := hv.imp fun _ _ x => LentEA.mono hg x
  replace hu := hu.imp fun _ _ x => EntRp.mono hg x
  obtain ⟨hzl, hzc⟩ := hin.room
  have hvl := hv.length
  have hul := hu.length
  rw [entMarks_length] at hul
  obtain ⟨a1, c1, rfl⟩ := hl.shape
  refine S.seq (S.region rfl ?_)
  refine O.op (.p rfl) (.as rfl) ?_
  refine O.nil ?_
  refine S.seq (S.seq (S.region rfl ?_))
  refine O.op (.p rfl) (.mv rfl) ?_
  refine O.op (.p rfl) (.len rfl Go.Proofs.Tryd.underlying35 rfl) ?_
  refine O.op (.p rfl) (.mv rfl) ?_
  refine O.op (.p rfl) (.len rfl Go.Proofs.Tryd.underlying35 rfl) ?_
  refine O.op (.p rfl) (.neq rfl rfl) ?_
  refine O.nil ?_
  first | refine S.condD rfl (fun h11 => ?_) (fun h11 => ?_) | refine S.condB rfl (fun h11 => ?_) (fun h11 => ?_)
  · exact absurd rfl (by assumption)
  · refine S.skip (S.seq (S.region rfl ?_))
    refine O.op (.p rfl) (.mv rfl) ?_
    refine O.op (.p rfl) (.mv rfl) ?_
    refine O.op (.p rfl) (.len rfl Go.Proofs.Tryd.underlying35 rfl) ?_
    refine O.op (.p rfl) (.add rfl rfl (IntWalk.i64_in _ (by omega))) ?_
    refine O.slice0 (q := es.length + 12) (Rp.cells 2) (.p rfl) Go.Proofs.Tryd.underlying35 FactKit12.size25 rfl rfl rfl (by omega) ?_
    refine O.op (.p rfl) (.as rfl) ?_
    refine O.nil ?_
    refine S.seq (S.seq (S.region rfl ?_))
    refine O.op (.p rfl) (.as rfl) ?_
    refine O.nil ?_
    refine S.block ?_
    refine S.loopK (ι := Nat) (fun i => i ≤ es.length + 12) (fun i => [(6, .int .i64 (i : Int))]) [(1, _), (5, _)] (fun i => []) (fun i => es.length + 12 - i) (0) (by simp) (.cons rfl (.nil)) (.cons rfl (.cons rfl (.nil))) rfl fun i hx ih => ?_
    have hm1 := meltRefl (g := g)
    refine S.seq (S.seq (S.region rfl ?_))
    refine O.op (.p rfl) (.mv rfl) ?_
    refine O.op (.p rfl) (.mv rfl) ?_
    refine O.op (.p rfl) (.len rfl Go.Proofs.Tryd.underlying35 rfl) ?_
    refine O.op (.p rfl) (.lss rfl rfl) ?_
    refine O.nil ?_
    first | refine S.condD rfl (fun h20 => ?_) (fun h20 => ?_) | refine S.condB rfl (fun h20 => ?_) (fun h20 => ?_)
    · have hi : i < es.length + 12 := by omega
      refine S.skip (S.seq (S.block (S.seq (S.regionD (L := [0, 1, 2, 3, 4, 5, 6, 7, 8, 9, 10, 11, 12, 13, 14, 15, 16, 17, 18, 19, 20, 21, 22, 23, 24, 25, 26, 27, 28, 29, 30, 31, 32, 33, 34]) FactKit12.mixed (by kernel_rfl) ?_))))
      refine .quiet (.p rfl) rfl (fun _ => .mv rfl) ?_
      refine .quiet (.p rfl) rfl (fun _ => .mv rfl) ?_
      refine .quiet (.p rfl) rfl (fun _ => .len rfl Go.Proofs.Tryd.underlying35 rfl) ?_
      refine .quiet (.p rfl) rfl (fun _ => .lss rfl rfl) ?_
      refine .quiet (.p rfl) rfl (fun _ => .mv rfl) ?_
      first | refine OD.caseD 27 rfl (fun h27 => ?_) (fun h27 => ?_) | refine OD.caseB 27 rfl (fun h27 => ?_) (fun h27 => ?_)
      · have hi2 : i < es.length := by omega
        obtain ⟨a', c', hci, hA⟩ := lentE_at (dss := dss) hv i hi2 (by simp; omega)
        have hrow := hq es[i] (List.getElem_mem hi2)
        refine .quiet (.g rfl rfl) rfl (fun _ => .mv rfl) ?_
        refine .quiet (.g rfl rfl) rfl (fun _ => .mv rfl) ?_
        refine OD.idx' (.g rfl rfl) Go.Proofs.Tryd.underlying35 FactKit12.size25 rfl rfl rfl (hin) (by decide) (by first | omega | (simp; done) | (simp; omega) | decide) (fun p30 cs30 hp30 hr30 => ?_)
        obtain ⟨e30, _, _⟩ := hr30
        rw [hci] at e30
        subst e30
        refine .quiet (.g rfl rfl) rfl (fun _ => .loadAgg Go.Proofs.Tryd.isAgg25 (by kernel_rfl) rfl hp30) ?_
        refine .quiet (.g rfl rfl) rfl (fun _ => .mv rfl) ?_
        refine .quiet (.g rfl rfl) rfl (fun _ => .mv rfl) ?_
        refine OD.idx' (.g rfl rfl) Go.Proofs.Tryd.underlying35 FactKit12.size25 rfl rfl rfl (by first | assumption | exact Arr.mono hg (by assumption) | exact Arr.left (by assumption) | exact Arr.left (Arr.mono hg (by assumption))) (by decide) (by first | omega | (simp; done) | (simp; omega) | decide) (fun p34 cs34 hp34 hr34 => ?_)
        obtain ⟨v34, rfl, ha34⟩ := EntRp.open hr34; obtain ⟨a34, c34, rfl⟩ := ha34.shape
        refine .quiet (.g rfl rfl) rfl (fun _ => .loadAgg Go.Proofs.Tryd.isAgg25 (by kernel_rfl) rfl hp34) ?_
        refine OD.call0 (.g rfl rfl) (by kernel_rfl) rfl FactKit12.ok38 rfl rfl ((keptEntry_c hA (by first | assumption | exact Arr.mono hg (by assumption) | exact Arr.left (by assumption) | exact Arr.left (Arr.mono hg (by assumption))) (by omega))) ?_
        rintro v36 _ ⟨rfl, rfl⟩
        try simp only [List.cons_append, List.nil_append, List.append_nil]
        refine .quiet (.g rfl rfl) rfl (fun _ => .not rfl) ?_
        refine .quiet (.p rfl) rfl (fun _ => .pickT rfl rfl) ?_
        refine .quiet (.p rfl) rfl (fun _ => .mv rfl) ?_
        refine .quiet (.g rfl rfl) rfl (fun _ => .mv rfl) ?_
        refine .quiet (.g rfl rfl) rfl (fun _ => .mv rfl) ?_
        refine .quiet (.g rfl rfl) rfl (fun _ => .len rfl Go.Proofs.Tryd.underlying35 rfl) ?_
        refine .quiet (.g rfl rfl) rfl (fun _ => .geq rfl rfl) ?_
        refine OD.slot 43 (v' := .bool false) rfl (congrArg Value.bool (by simp; omega)) ?_
        refine .quiet (.g rfl rfl) rfl (fun _ => .mv rfl) ?_
        refine .no rfl rfl rfl rfl ?_
        refine .no rfl rfl rfl rfl ?_
        refine .no rfl rfl rfl rfl ?_
        refine .no rfl rfl rfl rfl ?_
        refine .no rfl rfl rfl rfl ?_
        refine .no rfl rfl rfl rfl ?_
        refine .no rfl rfl rfl rfl ?_
        refine .no rfl rfl rfl rfl ?_
        refine .no rfl rfl rfl rfl ?_
        refine .no rfl rfl rfl rfl ?_
        refine .no rfl rfl rfl rfl ?_
        refine .quiet (.g rfl rfl) rfl (fun _ => .pickF rfl rfl) ?_
        refine .quiet (.p rfl) rfl (fun _ => .pickF rfl rfl) ?_
        refine .nil ?_
        refine S.condF rfl ?_
        refine S.skip (S.inBlock (S.region rfl ?_))
        refine O.op (.p rfl) (.mv rfl) ?_
        refine O.op (.p rfl) (.add rfl rfl (IntWalk.i64_in _ (by omega))) ?_
        refine O.op (.p rfl) (.as rfl) ?_
        refine O.nil ?_
        refine S.weaken ?_ (ih (i + 1) (by omega) (by omega))
        repeat (first | exact Sub.nil | refine Sub.cons rfl ?_)
      · have hi2 : es.length ≤ i := by omega
        obtain ⟨a', c', hci, hA⟩ := markE_at hvl hu i hi2 (by simp; omega)
        refine .no rfl rfl rfl rfl ?_
        refine .no rfl rfl rfl rfl ?_
        refine .no rfl rfl rfl rfl ?_
        refine .no rfl rfl rfl rfl ?_
        refine .no rfl rfl rfl rfl ?_
        refine .no rfl rfl rfl rfl ?_
        refine .no rfl rfl rfl rfl ?_
        refine .no rfl rfl rfl rfl ?_
        refine .no rfl rfl rfl rfl ?_
        refine .no rfl rfl rfl rfl ?_
        refine .quiet (.p rfl) rfl (fun _ => .pickF rfl rfl) ?_
        refine .quiet (.p rfl) rfl (fun _ => .mv rfl) ?_
        refine .quiet (.g rfl rfl) rfl (fun _ => .mv rfl) ?_
        refine .quiet (.g rfl rfl) rfl (fun _ => .mv rfl) ?_
        refine .quiet (.g rfl rfl) rfl (fun _ => .len rfl Go.Proofs.Tryd.underlying35 rfl) ?_
        refine .quiet (.g rfl rfl) rfl (fun _ => .geq rfl rfl) ?_
        refine OD.slot 43 (v' := .bool true) rfl (congrArg Value.bool (by simp; omega)) ?_
        refine .quiet (.g rfl rfl) rfl (fun _ => .mv rfl) ?_
        refine .quiet (.g rfl rfl) rfl (fun _ => .mv rfl) ?_
        refine .quiet (.g rfl rfl) rfl (fun _ => .mv rfl) ?_
        refine OD.idx' (.g rfl rfl) Go.Proofs.Tryd.underlying35 FactKit12.size25 rfl rfl rfl (hin) (by decide) (by first | omega | (simp; done) | (simp; omega) | decide) (fun p47 cs47 hp47 hr47 => ?_)
        obtain ⟨e47, _, _⟩ := hr47
        rw [hci] at e47
        subst e47
        refine .quiet (.g rfl rfl) rfl (fun _ => .loadAgg Go.Proofs.Tryd.isAgg25 (by kernel_rfl) rfl hp47) ?_
        refine .quiet (.g rfl rfl) rfl (fun _ => .mv rfl) ?_
        refine .quiet (.g rfl rfl) rfl (fun _ => .mv rfl) ?_
        refine .quiet (.g rfl rfl) rfl (fun _ => .len rfl Go.Proofs.Tryd.underlying35 rfl) ?_
        refine .quiet (.g rfl rfl) rfl (fun _ => .sub rfl rfl (IntWalk.i64_in _ (by omega))) ?_
        refine OD.call0 (.g rfl rfl) (by kernel_rfl) rfl FactKit12.ok37 rfl rfl ((markEntry_c _ _)) ?_
        rintro v53 _ ⟨a53, c53, rfl, rfl⟩
        try simp only [List.cons_append, List.nil_append, List.append_nil]
        refine OD.callSs (.g rfl rfl) (by kernel_rfl) rfl FactKit12.ok33 rfl rfl (by repeat (first | exact Sels.nil | (apply Sels.cons; focus (repeat (first | exact Sel.here | apply Sel.there))))) (sameEntry_m hA) ?_
        rintro v54 _ ⟨rfl, rfl⟩
        try simp only [List.cons_append, List.nil_append, List.append_nil]
        refine OD.slot 54 (v' := .bool true) rfl (congrArg Value.bool (by simp)) ?_
        refine .quiet (.g rfl rfl) rfl (fun _ => .not rfl) ?_
        refine .quiet (.g rfl rfl) rfl (fun _ => .pickT rfl rfl) ?_
        refine .quiet (.p rfl) rfl (fun _ => .pickF rfl rfl) ?_
        refine .nil ?_
        refine S.condF rfl ?_
        refine S.skip (S.inBlock (S.region rfl ?_))
        refine O.op (.p rfl) (.mv rfl) ?_
        refine O.op (.p rfl) (.add rfl rfl (IntWalk.i64_in _ (by omega))) ?_
        refine O.op (.p rfl) (.as rfl) ?_
        refine O.nil ?_
        refine S.weaken ?_ (ih (i + 1) (by omega) (by omega))
        repeat (first | exact Sub.nil | refine Sub.cons rfl ?_)
    · refine S.exit rfl ?_
      refine S.seq (S.region rfl ?_)
      refine O.op (.p rfl) (.as rfl) ?_
      refine O.nil ?_
      refine S.ret Go.Proofs.Tryd.results19 rfl fun w hw => Holds.end_ hR hw ?_
      exact ⟨_, ⟨rfl, rfl⟩, by repeat (first | exact Picks.all | exact Picks.nil | (apply Picks.cons; focus (repeat (first | exact Sel.here | apply Sel.there))) | apply Picks.skip)⟩
/-- entries that are lent, to be read alone -/
def LentL (v : Value) (es : List EntT) : SProp := fun m => ∃ a c css dss, v = .slice a es.length c ∧ Arr (Rp.cells 2) m (.slice a (es.length + 12) c) (css ++ dss) ∧ All2 (LentEA m) css es ∧ All2 (EntRp.rel m) dss (entMarks 12)
theorem LentL.mono {v : Value} {es : List EntT} {h k : Fr} (s : h.sub k) : LentL v es h → LentL v es k
  | ⟨a, c, css, dss, h1, h2, h3, h4⟩ => ⟨a, c, css, dss, h1, h2.mono s, h3.imp fun _ _ => LentEA.mono s, h4.imp fun _ _ => EntRp.mono s⟩
theorem LentL.arr {v : Value} {es : List EntT} {h : Fr} : LentL v es h → Arr EntRp h v es
  | ⟨a, c, css, dss, h1, h2, h3, h4⟩ => by
    subst h1
    have hl := h3.length
    have hd := h4.length.trans (entMarks_length 12)
    exact Arr.ofCells (css := css) (k := 2) (Arr.cut (ys := dss) hl.symm (by rw [hl, hd]; exact h2)) (h3.imp fun _ _ => LentEA.rel) rfl
theorem lentEntries_r {r : Fr} {va : Value} {es : List EntT} (ha : Arr EntRp r va es) (hq : ∀ x ∈ es, x.2.1.length ≤ 100000000000000) (hl : es.length ≤ 1000000000000) :
    Con Go.Proofs.Tryd.prog 18 #[va] r [] (Ret fun v η => ∃ a c, v = .slice a es.length c ∧ η = [LentL (.slice a es.length c) es]) :=
  (lentEntries_c ha hq hl).post fun e η' h w g hw => by
    cases e with
    | returned v =>
      obtain ⟨a, c, css, dss, h1, h2, rfl, rfl⟩ := h
      refine ⟨_, ⟨a, c, rfl, rfl⟩, hw.imp fun m x => ?_⟩
      obtain ⟨m1, k1, _, s1, t1, y1, m2, k2, _, s2, t2, y2, m3, k3, _, s3, _, y3, _⟩ := x
      refine ⟨m, Fr.emp, Fr.disj_symm (Fr.emp_disj _), Fr.sub_refl _, Fr.emp_sub _, ⟨a, c, css, dss, rfl, y1.arr.mono s1, ?_, ?_⟩, trivial⟩
      · exact EachP.all2 (fun _ _ _ z q => (LentEW.lentEA z).mono q) y2 (Fr.sub_trans s2 t1)
      · exact EachP.all2 (fun _ _ _ z q => EntRp.mono q z) y3 (Fr.sub_trans s3 (Fr.sub_trans t2 t1))
    | panicked _ => exact h.elim
    | outgrown => exact h.elim
theorem keptEntries_r {r : Fr} {va vl : Value} {es : List EntT} (hin : LentL va es r) (hl : Arr EntRp r vl es) (hq : ∀ x ∈ es, x.2.1.length ≤ 100000000000000) (hb : es.length ≤ 1000000000000) :
    Con Go.Proofs.Tryd.prog 19 #[va, vl] r [] (Ret fun v η => v = .bool true ∧ η = []) := by
  obtain ⟨a, c, css, dss, rfl, h2, h3, h4⟩ := hin
  exact keptEntries_c h2 h3 h4 hl hq hb

end Go.Proofs.YtcghiboamlaenaaDoor
