import Derived.Test.YtcghiboamlaenaaDoorDisk9
open Go Go.Sp
set_option maxRecDepth 100000
attribute [local irreducible] obj Own OwnP
namespace Go.Proofs.YtcghiboamlaenaaDoor
theorem FactDisk10.elem25 : elemIs Go.Proofs.Tryd.prog 25 2 32 [.int .u8 0, .slice none 0 0] := elemIs.mk (by kernel_rfl) rfl
theorem FactDisk10.flat23 : Go.Sp.flat1 Go.Proofs.Tryd.prog 23 = true := by kernel_rfl
theorem FactDisk10.flat3 : Go.Sp.flat1 Go.Proofs.Tryd.prog 3 = true := by kernel_rfl
theorem FactDisk10.flat35 : Go.Sp.flat1 Go.Proofs.Tryd.prog 35 = true := by kernel_rfl
theorem FactDisk10.fld25x1 : fieldOff Go.Proofs.Tryd.prog 25 1 = some 1 := by kernel_rfl
theorem FactDisk10.fld57x0 : fieldOff Go.Proofs.Tryd.prog 57 0 = some 0 := by kernel_rfl
theorem FactDisk10.fld57x1 : fieldOff Go.Proofs.Tryd.prog 57 1 = some 1 := by kernel_rfl
theorem FactDisk10.fld57x2 : fieldOff Go.Proofs.Tryd.prog 57 2 = some 2 := by kernel_rfl
theorem FactDisk10.ok11 : callable Go.Proofs.Tryd.prog 11 = true := by kernel_rfl
theorem FactDisk10.ok12 : callable Go.Proofs.Tryd.prog 12 = true := by kernel_rfl
theorem FactDisk10.ok13 : callable Go.Proofs.Tryd.prog 13 = true := by kernel_rfl
theorem FactDisk10.ok15 : callable Go.Proofs.Tryd.prog 15 = true := by kernel_rfl
theorem FactDisk10.ok20 : callable Go.Proofs.Tryd.prog 20 = true := by kernel_rfl
theorem FactDisk10.ok23 : callable Go.Proofs.Tryd.prog 23 = true := by kernel_rfl
theorem FactDisk10.ok7 : callable Go.Proofs.Tryd.prog 7 = true := by kernel_rfl
theorem FactDisk10.ok8 : callable Go.Proofs.Tryd.prog 8 = true := by kernel_rfl
theorem FactDisk10.ok9 : callable Go.Proofs.Tryd.prog 9 = true := by kernel_rfl
theorem FactDisk10.size25 : (Go.Proofs.Tryd.prog.info? 25).map (·.size) = some 2 := by kernel_rfl
theorem FactDisk10.size57 : (Go.Proofs.Tryd.prog.info? 57).map (·.size) = some 3 := by kernel_rfl

theorem jappend_w {r : Fr} {j d q1 q2 : Nat} {m : DiskM} {name : List UInt8} {es : List Ent} {ve : Value} (hat : At r ⟨d, 0, none⟩ (dC q1 q2 m.room)) (ok : DOk m) (he : Arr EntRp r ve es) (hn : name.length ≤ 9223372036854775807) (hel : es.length ≤ 3000) :
    Con Go.Proofs.Tryd.prog 7 #[.pointer (some ⟨j, 0, none⟩), ve] r [MapT q1 m.safe m.c1, MapT q2 m.loose m.c2, obj j 31 [.pointer (some ⟨d, 0, none⟩), .string (str name)]]
      (Ret fun v η => v = .int .i64 (jAppE m name es) ∧ η = [MapT q1 (jAppM m name es).safe (jAppM m name es).c1, MapT q2 (jAppM m name es).loose (jAppM m name es).c2, obj j 31 [.pointer (some ⟨d, 0, none⟩), .string (str name)]]) :=
  Con.mono (Con.lentW fun mm hm hd => jappend_g (Sat.at1 hm hd) (hat.mono (Fr.sub_add_left _ _)) ok (he.mono (Fr.sub_add_left _ _)) hn hel) (Ret.imp fun _ _ ⟨_, ⟨a, b⟩, c⟩ => ⟨a, by rw [c, b]; rfl⟩)
theorem entriesOf_b {r : Fr} {va : Value} {most : Int} {xs : List EntT} (ha : Arr EntRp r va xs) (hm : most ≤ 1000000000000) (hl : xs.length ≤ 140737488355328) :
    Con Go.Proofs.Tryd.prog 12 #[va, .int .i64 most] r [] (Ret fun v η => ∃ z : Nat, v = .int .i64 (z : Int) ∧ ((z : Int) ≤ most → z = xs.length + entSum xs) ∧ z ≤ 2305843009213693952 ∧ η = []) := by
  refine Con.of (n := 30) [va, .int .i64 most] rfl Go.Proofs.Tryd.func12 rfl rfl rfl fun g hg R hR => ?_
  have ha := ha.mono hg
  obtain ⟨a1, c1, rfl⟩ := ha.shape
  have hbd := ha.bound
  refine S.seq (S.region rfl ?_)
  refine O.op (.p rfl) (.as rfl) ?_
  refine O.nil ?_
  refine S.seq (S.region rfl ?_)
  refine O.op (.p rfl) (.mv rfl) ?_
  refine O.op (.p rfl) (.len rfl Go.Proofs.Tryd.underlying35 rfl) ?_
  refine O.op (.p rfl) (.as rfl) ?_
  refine O.nil ?_
  refine S.seq (S.seq (S.region rfl ?_))
  refine O.op (.p rfl) (.as rfl) ?_
  refine O.nil ?_
  refine S.block ?_
  refine S.loopK2 (ι := Nat) (κ := Nat) (fun i z => i ≤ xs.length ∧ z = xs.length + entSum (xs.take i) ∧ z ≤ 2305843009213693952) (fun i z => [(6, .int .i64 (i : Int)), (5, .int .i64 (z : Int))]) [(0, _), (1, _)] (fun i z => []) (fun i z => xs.length - i) (0) (xs.length) (by simp [entSum]; omega) (.cons rfl (.cons rfl (.nil))) (.cons rfl (.cons rfl (.nil))) rfl fun i z hx ih => ?_
  have hm1 := meltRefl (g := g)
  obtain ⟨hx1, hx2, hx3⟩ := hx
  refine S.seq (S.seq (S.region rfl ?_))
  refine O.op (.p rfl) (.mv rfl) ?_
  refine O.op (.p rfl) (.mv rfl) ?_
  refine O.op (.p rfl) (.len rfl Go.Proofs.Tryd.underlying35 rfl) ?_
  refine O.op (.p rfl) (.lss rfl rfl) ?_
  refine O.op (.p rfl) (.mv rfl) ?_
  first | refine O.caseD 13 rfl (fun h13 => ?_) (fun h13 => ?_) | refine O.caseB 13 rfl (fun h13 => ?_) (fun h13 => ?_)
  · refine O.op (.g rfl rfl) (.mv rfl) ?_
    refine O.op (.g rfl rfl) (.mv rfl) ?_
    refine O.op (.g rfl rfl) (.leq rfl rfl) ?_
    refine O.op (.p rfl) (.pickT rfl rfl) ?_
    refine O.nil ?_
    first | refine S.condD rfl (fun h17 => ?_) (fun h17 => ?_) | refine S.condB rfl (fun h17 => ?_) (fun h17 => ?_)
    · have hi : i < xs.length := by omega
      have h20 : xs.take (i + 1) = xs.take i ++ [xs[i]] := List.take_succ_eq_append_getElem hi
      refine S.skip (S.seq (S.block (S.region rfl ?_)))
      refine O.op (.p rfl) (.mv rfl) ?_
      refine O.op (.p rfl) (.mv rfl) ?_
      refine O.op (.p rfl) (.mv rfl) ?_
      refine O.idx' (.p rfl) Go.Proofs.Tryd.underlying35 FactDisk10.size25 rfl rfl rfl (by first | assumption | exact Arr.mono hg (by assumption) | exact Arr.left (by assumption) | exact Arr.left (Arr.mono hg (by assumption))) (by decide) (by first | omega | (simp; done) | (simp; omega) | decide) (fun p23 cs23 hp23 hr23 => ?_)
      obtain ⟨v23, rfl, ha23⟩ := EntRp.open hr23; obtain ⟨a23, c23, rfl⟩ := ha23.shape
      refine O.op (.p rfl) (.fieldAddr FactDisk10.fld25x1 rfl) ?_
      refine O.op (.p rfl) (.loadAt FactDisk10.flat23 rfl (hp23.drop 1) rfl) ?_
      refine O.op (.p rfl) (.len rfl Go.Proofs.Tryd.underlying23 rfl) ?_
      have hb23 := ha23.bound
      refine O.op (.p rfl) (.quo rfl rfl (by omega)) ?_
      refine O.slot 27 (v' := .int .i64 ((xs[i].2.1.length / 8 : Nat) : Int)) rfl (by rw [Int.tdiv_eq_ediv_of_nonneg (by omega), IntWalk.i64_in _ (by omega)]; rfl) ?_
      refine O.op (.p rfl) (.add rfl rfl (IntWalk.i64_in _ (by omega))) ?_
      refine O.op (.p rfl) (.as rfl) ?_
      refine O.nil ?_
      refine S.inBlock (S.region rfl ?_)
      refine O.op (.p rfl) (.mv rfl) ?_
      refine O.op (.p rfl) (.add rfl rfl (IntWalk.i64_in _ (by omega))) ?_
      refine O.op (.p rfl) (.as rfl) ?_
      refine O.nil ?_
      refine S.weaken ?_ (ih (i + 1) (z + xs[i].2.1.length / 8) (by (refine ⟨by omega, ?_, by omega⟩; rw [h20, entSum_snoc]; omega)) (by omega))
      repeat (first | exact Sub.nil | refine Sub.cons rfl ?_)
    · clear ih
      refine S.exit rfl ?_
      refine S.seq (S.region rfl ?_)
      refine O.op (.p rfl) (.mv rfl) ?_
      refine O.op (.p rfl) (.as rfl) ?_
      refine O.nil ?_
      refine S.ret Go.Proofs.Tryd.results12 rfl fun w hw => Holds.end_ hR hw ?_
      exact ⟨_, ⟨z, rfl, by omega, hx3, rfl⟩, by repeat (first | exact Picks.all | exact Picks.nil | (apply Picks.cons; focus (repeat (first | exact Sel.here | apply Sel.there))) | apply Picks.skip)⟩
  · clear ih
    have hi : i = xs.length := by omega
    subst hi
    rw [List.take_length] at hx2
    refine O.opN rfl rfl rfl ?_
    refine O.opN rfl rfl rfl ?_
    refine O.opN rfl rfl rfl ?_
    refine O.op (.p rfl) (.pickF rfl rfl) ?_
    refine O.nil ?_
    refine S.condF rfl ?_
    refine S.exit rfl ?_
    refine S.seq (S.region rfl ?_)
    refine O.op (.p rfl) (.mv rfl) ?_
    refine O.op (.p rfl) (.as rfl) ?_
    refine O.nil ?_
    refine S.ret Go.Proofs.Tryd.results12 rfl fun w hw => Holds.end_ hR hw ?_
    exact ⟨_, ⟨z, rfl, by omega, hx3, rfl⟩, by repeat (first | exact Picks.all | exact Picks.nil | (apply Picks.cons; focus (repeat (first | exact Sel.here | apply Sel.there))) | apply Picks.skip)⟩
theorem pick_lt' (x n : Int) (h : 0 < n) : 0 ≤ pick x n ∧ pick x n < n := by
  unfold pick
  rw [if_neg (by omega)]
  have h1 := Int.tmod_lt_of_pos x h
  have h2 := Int.lt_tmod_of_pos x h
  split <;> omega
abbrev DeedT : Type := Int × Int × List EntT × Unit
abbrev DeedRp : Rp DeedT := Rp.prod Rp.i64 (Rp.prod Rp.i64 (Rp.prod (Rp.slice EntRp) Rp.unit))
theorem DeedRp.open {h : Fr} {cs : List Value} {x : DeedT} (r : DeedRp.rel h cs x) : ∃ v, cs = [.int .i64 x.1, .int .i64 x.2.1, v] ∧ Arr EntRp h v x.2.2.1 := by
  obtain ⟨c1, c2, rfl, h1, c3, c4, rfl, h2, c5, c6, rfl, ⟨v, rfl, h3⟩, rfl⟩ := r
  obtain ⟨rfl, _⟩ := h1
  obtain ⟨rfl, _⟩ := h2
  exact ⟨v, rfl, h3⟩
def lsum (ds : List DeedT) : Nat := (ds.map fun x => x.2.2.1.length).sum
theorem lsum_snoc (ds : List DeedT) (x : DeedT) : lsum (ds ++ [x]) = lsum ds + x.2.2.1.length := by simp [lsum]
theorem lsum_append (a b : List DeedT) : lsum (a ++ b) = lsum a + lsum b := by simp [lsum]
theorem lsum_take (ds : List DeedT) (i : Nat) : lsum (ds.take i) ≤ lsum ds := by
  have := lsum_append (ds.take i) (ds.drop i)
  rw [List.take_append_drop] at this
  omega
/-- the file's name -/
abbrev alog : List UInt8 := [97, 46, 108, 111, 103]
theorem alog_ok : nameOk alog = true := by decide
theorem jcrash_c {r : Fr} {va : Value} {ds : List DeedT} {room : Int} (ha : Arr DeedRp r va ds) (hdl : ds.length ≤ 140737488355328) (hll : ∀ x ∈ ds, x.2.2.1.length ≤ 140737488355328) :
    Con Go.Proofs.Tryd.prog 5 #[va, .int .i64 room] r [] (Ret fun v η => v = .bool true ∧ η = []) := by
  refine Con.of (n := 135) [va, .int .i64 room] rfl Go.Proofs.Tryd.func5 rfl rfl rfl fun g hg R hR => ?_
  have ha := ha.mono hg
  obtain ⟨a1, c1, rfl⟩ := ha.shape
  refine S.seq (S.region rfl ?_)
  refine O.op (.p rfl) (.as rfl) ?_
  refine O.nil ?_
  refine S.seq (S.seq (S.region rfl ?_))
  refine O.call0 (.p rfl) rfl FactDisk10.ok11 rfl rfl (awake_c) ?_
  rintro v16 _ ⟨rfl, rfl⟩
  try simp only [List.cons_append, List.nil_append, List.append_nil]
  refine O.op (.p rfl) (.not rfl) ?_
  refine O.nil ?_
  refine S.condF rfl ?_
  refine S.skip (S.seq (S.region rfl ?_))
  refine O.op (.p rfl) (.mv rfl) ?_
  refine O.op (.p rfl) (.len rfl Go.Proofs.Tryd.underlying55 rfl) ?_
  refine O.op (.p rfl) (.as rfl) ?_
  refine O.nil ?_
  refine S.seq (S.seq (S.region rfl ?_))
  refine O.op (.p rfl) (.as rfl) ?_
  refine O.nil ?_
  refine S.block ?_
  refine S.loopK2 (ι := Nat) (κ := Nat) (fun i n => i ≤ ds.length ∧ ((n : Int) ≤ 3000 → ds.length + lsum (ds.take i) ≤ n) ∧ n ≤ 2305843009213700000) (fun i n => [(6, .int .i64 (i : Int)), (5, .int .i64 (n : Int))]) [(0, _), (1, _)] (fun i n => []) (fun i n => ds.length - i) (0) (ds.length) (by exact ⟨Nat.zero_le _, fun _ => by simp [lsum], by omega⟩) (.cons rfl (.cons rfl (.nil))) (.cons rfl (.cons rfl (.nil))) rfl fun i n hx ih => ?_
  have hm1 := meltRefl (g := g)
  obtain ⟨hx1, hx2, hx3⟩ := hx
  refine S.seq (S.seq (S.region rfl ?_))
  refine O.op (.p rfl) (.mv rfl) ?_
  refine O.op (.p rfl) (.mv rfl) ?_
  refine O.op (.p rfl) (.len rfl Go.Proofs.Tryd.underlying55 rfl) ?_
  refine O.op (.p rfl) (.lss rfl rfl) ?_
  refine O.op (.p rfl) (.mv rfl) ?_
  first | refine O.caseD 24 rfl (fun h24 => ?_) (fun h24 => ?_) | refine O.caseB 24 rfl (fun h24 => ?_) (fun h24 => ?_)
  · refine O.op (.g rfl rfl) (.mv rfl) ?_
    refine O.op (.g rfl rfl) (.leq rfl rfl) ?_
    refine O.op (.p rfl) (.pickT rfl rfl) ?_
    refine O.nil ?_
    first | refine S.condD rfl (fun h27 => ?_) (fun h27 => ?_) | refine S.condB rfl (fun h27 => ?_) (fun h27 => ?_)
    · have hi : i < ds.length := by omega
      have h20 : ds.take (i + 1) = ds.take i ++ [ds[i]] := List.take_succ_eq_append_getElem hi
      have hls := lsum_snoc (ds.take i) ds[i]
      rw [← h20] at hls
      have hli := hll ds[i] (List.getElem_mem hi)
      refine S.skip (S.seq (S.block (S.region rfl ?_)))
      refine O.op (.p rfl) (.mv rfl) ?_
      refine O.op (.p rfl) (.mv rfl) ?_
      refine O.op (.p rfl) (.mv rfl) ?_
      refine O.idx' (.p rfl) Go.Proofs.Tryd.underlying55 FactDisk10.size57 rfl rfl rfl (ha) (by decide) (by first | omega | (simp; done) | (simp; omega) | decide) (fun p33 cs33 hp33 hr33 => ?_)
      obtain ⟨v33, rfl, hd33⟩ := DeedRp.open hr33
      obtain ⟨a33', c33', rfl⟩ := hd33.shape
      refine O.op (.p rfl) (.fieldAddr FactDisk10.fld57x2 rfl) ?_
      refine O.op (.p rfl) (.loadAt FactDisk10.flat35 rfl (hp33.drop 2) rfl) ?_
      refine O.op (.p rfl) (.mv rfl) ?_
      refine O.op (.p rfl) (.min2 rfl rfl) ?_
      refine O.slot 37 (v' := .int .i64 (n : Int)) rfl (by exact congrArg _ (by omega)) ?_
      refine O.op (.p rfl) (.sub rfl rfl (IntWalk.i64_in _ (by omega))) ?_
      refine O.call0 (.p rfl) rfl FactDisk10.ok12 rfl rfl (entriesOf_b hd33 (by omega) hli) ?_
      rintro v39 _ ⟨z39, rfl, hz39, hy39, rfl⟩
      try simp only [List.cons_append, List.nil_append, List.append_nil]
      refine O.op (.p rfl) (.add rfl rfl (IntWalk.i64_in _ (by omega))) ?_
      refine O.slot 40 (v' := .int .i64 ((n + z39 : Nat) : Int)) rfl (by rfl) ?_
      refine O.op (.p rfl) (.as rfl) ?_
      refine O.nil ?_
      refine S.inBlock (S.region rfl ?_)
      refine O.op (.p rfl) (.mv rfl) ?_
      refine O.op (.p rfl) (.add rfl rfl (IntWalk.i64_in _ (by omega))) ?_
      refine O.op (.p rfl) (.as rfl) ?_
      refine O.nil ?_
      refine S.weaken ?_ (ih (i + 1) (n + z39) (by (refine ⟨by omega, ?_, by omega⟩; rw [hls]; omega)) (by omega))
      repeat (first | exact Sub.nil | refine Sub.cons rfl ?_)
    · clear ih
      refine S.exit rfl ?_
      refine S.seq (S.seq (S.region rfl ?_))
      refine O.op (.p rfl) (.mv rfl) ?_
      refine O.op (.p rfl) (.gtr rfl rfl) ?_
      refine O.slot 42 (v' := .bool true) rfl (congrArg Value.bool (by exact decide_eq_true (by omega))) ?_
      refine O.op (.p rfl) (.mv rfl) ?_
      refine O.opN rfl rfl rfl ?_
      refine O.opN rfl rfl rfl ?_
      refine O.opN rfl rfl rfl ?_
      refine O.op (.p rfl) (.pickT rfl rfl) ?_
      refine O.nil ?_
      refine S.condT rfl ?_
      refine S.seq (S.region rfl ?_)
      refine O.op (.p rfl) (.as rfl) ?_
      refine O.nil ?_
      refine S.ret Go.Proofs.Tryd.results5 rfl fun w hw => Holds.end_ hR hw ?_
      exact ⟨_, ⟨rfl, rfl⟩, by repeat (first | exact Picks.all | exact Picks.nil | (apply Picks.cons; focus (repeat (first | exact Sel.here | apply Sel.there))) | apply Picks.skip)⟩
  · clear ih
    have hi : i = ds.length := by omega
    subst hi
    rw [List.take_length] at hx2
    refine O.opN rfl rfl rfl ?_
    refine O.opN rfl rfl rfl ?_
    refine O.op (.p rfl) (.pickF rfl rfl) ?_
    refine O.nil ?_
    refine S.condF rfl ?_
    refine S.exit rfl ?_
    refine S.seq (S.seq (S.region rfl ?_))
    refine O.op (.p rfl) (.mv rfl) ?_
    refine O.op (.p rfl) (.gtr rfl rfl) ?_
    refine O.op (.p rfl) (.mv rfl) ?_
    first | refine O.caseD 43 rfl (fun h43 => ?_) (fun h43 => ?_) | refine O.caseB 43 rfl (fun h43 => ?_) (fun h43 => ?_)
    · refine O.opN rfl rfl rfl ?_
      refine O.opN rfl rfl rfl ?_
      refine O.opN rfl rfl rfl ?_
      refine O.op (.p rfl) (.pickT rfl rfl) ?_
      refine O.nil ?_
      refine S.condT rfl ?_
      refine S.seq (S.region rfl ?_)
      refine O.op (.p rfl) (.as rfl) ?_
      refine O.nil ?_
      refine S.ret Go.Proofs.Tryd.results5 rfl fun w hw => Holds.end_ hR hw ?_
      exact ⟨_, ⟨rfl, rfl⟩, by repeat (first | exact Picks.all | exact Picks.nil | (apply Picks.cons; focus (repeat (first | exact Sel.here | apply Sel.there))) | apply Picks.skip)⟩
    · refine O.op (.g rfl rfl) (.mv rfl) ?_
      refine O.op (.g rfl rfl) (.len rfl Go.Proofs.Tryd.underlying55 rfl) ?_
      refine O.op (.g rfl rfl) (.gtr rfl rfl) ?_
      refine O.op (.p rfl) (.pickF rfl rfl) ?_
      refine O.nil ?_
      first | refine S.condD rfl (fun h47 => ?_) (fun h47 => ?_) | refine S.condB rfl (fun h47 => ?_) (fun h47 => ?_)
      · refine S.seq (S.region rfl ?_)
        refine O.op (.p rfl) (.as rfl) ?_
        refine O.nil ?_
        refine S.ret Go.Proofs.Tryd.results5 rfl fun w hw => Holds.end_ hR hw ?_
        exact ⟨_, ⟨rfl, rfl⟩, by repeat (first | exact Picks.all | exact Picks.nil | (apply Picks.cons; focus (repeat (first | exact Sel.here | apply Sel.there))) | apply Picks.skip)⟩
      · have hls : lsum ds ≤ 3000 := by have := hx2 (by omega); omega
        have hpk := pick_lt' room 4000 (by omega)
        generalize hR0 : pick room 4000 = R0 at hpk
        obtain ⟨he0, ho0, ci0⟩ := CI.start (R0 := R0) (n := alog) hpk.1 (by omega) alog_ok
        have ok1 := ok0 R0 hpk.1 (by omega)
        refine S.skip (S.seq (S.region rfl ?_))
        refine O.op (.p rfl) (.mv rfl) ?_
        refine O.call0 (.p rfl) rfl FactDisk10.ok13 rfl rfl (Pick_c _ _ (by first | assumption | (constructor <;> omega))) ?_
        rintro v49 _ ⟨rfl, rfl⟩
        try simp only [List.cons_append, List.nil_append, List.append_nil]
        rw [hR0]
        refine O.call0 (.p rfl) rfl FactDisk10.ok9 rfl rfl (newR_c hpk.1) ?_
        rintro v50 _ ⟨d50, q150, q250, rfl, rfl⟩
        try simp only [List.cons_append, List.nil_append, List.append_nil]
        refine O.frzO (by repeat (first | exact Sel.here | apply Sel.there)) fun g hs hm hat => ?_
        replace hg := Fr.sub_trans hg hs
        replace hR := melted hR hm
        try replace ha := ha.mono hs
        replace hm1 := meltTrans hm1 hm
        clear hs hm
        refine O.op (.p rfl) (.as rfl) ?_
        refine O.nil ?_
        refine S.seq (S.region rfl ?_)
        refine O.op (.p rfl) (.mv rfl) ?_
        refine O.callSs (.p rfl) rfl FactDisk10.ok8 rfl rfl (by repeat (first | exact Sels.nil | (apply Sels.cons; focus (repeat (first | exact Sel.here | apply Sel.there))))) (open_ok (m := ⟨[], 0, [], 0, R0⟩) (name := alog) hat ok1 (by decide) he0 (by rw [ho0])) ?_
        rintro v53 _ ⟨j53, a53, c53, rfl, rfl⟩
        try simp only [List.cons_append, List.nil_append, List.append_nil]
        rw [ho0]
        refine O.op (.p rfl) (.mv rfl) ?_
        refine O.op (.p rfl) (.extract rfl rfl) ?_
        refine O.op (.p rfl) (.extract rfl rfl) ?_
        refine O.op (.p rfl) (.extract rfl rfl) ?_
        refine O.op (.p rfl) (.as rfl) ?_
        refine O.op (.p rfl) (.as rfl) ?_
        refine O.op (.p rfl) (.as rfl) ?_
        refine O.nil ?_
        refine S.seq (S.seq (S.region rfl ?_))
        refine O.op (.p rfl) (.mv rfl) ?_
        refine O.op (.p rfl) (.neq rfl rfl) ?_
        refine O.slot 58 (v' := .bool false) rfl (congrArg Value.bool (by rfl)) ?_
        refine O.op (.p rfl) (.mv rfl) ?_
        refine O.op (.g rfl rfl) (.mv rfl) ?_
        refine O.op (.g rfl rfl) (.len rfl Go.Proofs.Tryd.underlying35 rfl) ?_
        refine O.op (.g rfl rfl) (.neq rfl rfl) ?_
        refine O.slot 62 (v' := .bool false) rfl (congrArg Value.bool (by rfl)) ?_
        refine O.op (.p rfl) (.pickF rfl rfl) ?_
        refine O.nil ?_
        refine S.condF rfl ?_
        refine S.skip (S.seq (S.region rfl ?_))
        refine O.op (.p rfl) (.as rfl) ?_
        refine O.nil ?_
        refine S.seq (S.seq (S.region rfl ?_))
        refine O.op (.p rfl) (.as rfl) ?_
        refine O.nil ?_
        refine S.block ?_
        refine S.addNil (T := Rp.cells 2) (e := 25) ?_
        refine S.pk (ζ := [OwnP (Rp.cells 2) 25 (.slice none 0 0) [], obj j53 31 [.pointer (some ⟨d50, 0, none⟩), .string (str alog)], MapT q150 (openM ⟨[], 0, [], 0, R0⟩ alog).safe (openM ⟨[], 0, [], 0, R0⟩ alog).c1, MapT q250 (openM ⟨[], 0, [], 0, R0⟩ alog).loose (openM ⟨[], 0, [], 0, R0⟩ alog).c2]) (by repeat (first | exact Picks.all | exact Picks.nil | (apply Picks.cons; focus (repeat (first | exact Sel.here | apply Sel.there))) | apply Picks.skip)) ?_
        refine S.loopK4 (ι := Nat) (κ := DiskM × Nat) (υ := Option Addr × Nat) (τ := List (List Value) × List Ent) (fun i p s q => i ≤ ds.length ∧ CI R0 alog p.1 q.2 ∧ Cells EntRp g.h q.1 q.2 ∧ q.2.length ≤ lsum (ds.take i)) (fun i p s q => [(12, .int .i64 (i : Int)), (8, .pointer (some ⟨p.2, 0, none⟩)), (11, .slice s.1 q.1.length s.2)]) [(0, _), (7, _)] (fun i p s q => [OwnP (Rp.cells 2) 25 (.slice s.1 q.1.length s.2) q.1, obj p.2 31 [.pointer (some ⟨d50, 0, none⟩), .string (str alog)], MapT q150 p.1.safe p.1.c1, MapT q250 p.1.loose p.1.c2]) (fun i p s q => ds.length - i) (0) ((openM ⟨[], 0, [], 0, R0⟩ alog, j53)) ((none, 0)) (([], [])) (by exact ⟨Nat.zero_le _, ci0, Cells.nil, Nat.zero_le _⟩) (.cons rfl (.cons rfl (.cons rfl (.nil)))) (.cons rfl (.cons rfl (.nil))) rfl fun i p s q hx ih => ?_
        have hm2 := meltRefl (g := g)
        obtain ⟨hx1, ci, hcs, hql⟩ := hx
        obtain ⟨m, jb⟩ := p
        obtain ⟨css, all⟩ := q
        dsimp only at ci hcs hql ⊢
        have hat' : At g.h ⟨d50, 0, none⟩ (dC q150 q250 m.room) := by rw [ci.room]; exact hat
        refine S.seq (S.seq (S.region rfl ?_))
        refine O.op (.p rfl) (.mv rfl) ?_
        refine O.op (.p rfl) (.mv rfl) ?_
        refine O.op (.p rfl) (.len rfl Go.Proofs.Tryd.underlying55 rfl) ?_
        refine O.op (.p rfl) (.lss rfl rfl) ?_
        refine O.nil ?_
        first | refine S.condD rfl (fun h67 => ?_) (fun h67 => ?_) | refine S.condB rfl (fun h67 => ?_) (fun h67 => ?_)
        · have hi : i < ds.length := by omega
          have h20 : ds.take (i + 1) = ds.take i ++ [ds[i]] := List.take_succ_eq_append_getElem hi
          have hls2 := lsum_snoc (ds.take i) ds[i]
          have hls3 := lsum_take ds (i + 1)
          rw [← h20] at hls2
          have hci := hcs.len
          refine S.skip (S.seq (S.block (S.seq (S.region rfl ?_))))
          refine O.op (.p rfl) (.mv rfl) ?_
          refine O.op (.p rfl) (.mv rfl) ?_
          refine O.idx' (.p rfl) Go.Proofs.Tryd.underlying55 FactDisk10.size57 rfl rfl rfl (ha) (by decide) (by first | omega | (simp; done) | (simp; omega) | decide) (fun p72 cs72 hp72 hr72 => ?_)
          obtain ⟨v72, rfl, hd72⟩ := DeedRp.open hr72
          obtain ⟨a72', c72', rfl⟩ := hd72.shape
          refine O.op (.p rfl) (.fieldAddr FactDisk10.fld57x0 rfl) ?_
          refine O.op (.p rfl) (.loadAt FactDisk10.flat3 rfl hp72 rfl) ?_
          refine O.call0 (.p rfl) rfl FactDisk10.ok13 rfl rfl (Pick_c _ _ (by first | assumption | (constructor <;> omega))) ?_
          rintro v75 _ ⟨rfl, rfl⟩
          try simp only [List.cons_append, List.nil_append, List.append_nil]
          refine O.op (.p rfl) (.as rfl) ?_
          refine O.nil ?_
          refine S.seq (S.seq (S.region rfl ?_))
          refine O.op (.p rfl) (.mv rfl) ?_
          refine O.op (.p rfl) (.eql rfl rfl) ?_
          refine O.nil ?_
          first | refine S.condD rfl (fun h77 => ?_) (fun h77 => ?_) | refine S.condB rfl (fun h77 => ?_) (fun h77 => ?_)
          · refine S.seq (S.region rfl ?_)
            refine O.op (.p rfl) (.mv rfl) ?_
            refine O.callSs (.p rfl) rfl FactDisk10.ok23 rfl rfl (by repeat (first | exact Sels.nil | (apply Sels.cons; focus (repeat (first | exact Sel.here | apply Sel.there))))) (used_g hat' ci.ok) ?_
            rintro v79 _ ⟨rfl, rfl⟩
            try simp only [List.cons_append, List.nil_append, List.append_nil]
            refine O.op (.p rfl) (.as rfl) ?_
            refine O.nil ?_
            refine S.seq (S.region rfl ?_)
            refine O.op (.p rfl) (.mv rfl) ?_
            refine O.op (.p rfl) (.mv rfl) ?_
            refine O.op (.p rfl) (.mv rfl) ?_
            refine O.idx' (.p rfl) Go.Proofs.Tryd.underlying55 FactDisk10.size57 rfl rfl rfl (ha) (by decide) (by first | omega | (simp; done) | (simp; omega) | decide) (fun p83 cs83 hp83 hr83 => ?_)
            obtain ⟨v83, rfl, hd83⟩ := DeedRp.open hr83
            obtain ⟨a83', c83', rfl⟩ := hd83.shape
            refine O.op (.p rfl) (.fieldAddr FactDisk10.fld57x2 rfl) ?_
            refine O.op (.p rfl) (.loadAt FactDisk10.flat35 rfl (hp83.drop 2) rfl) ?_
            refine O.callSs (.p rfl) rfl FactDisk10.ok7 rfl rfl (by repeat (first | exact Sels.nil | (apply Sels.cons; focus (repeat (first | exact Sel.here | apply Sel.there))))) (jappend_w (name := alog) (m := m) hat' ci.ok hd83 (by decide) (by omega)) ?_
            rintro v86 _ ⟨rfl, rfl⟩
            try simp only [List.cons_append, List.nil_append, List.append_nil]
            refine O.op (.p rfl) (.as rfl) ?_
            refine O.nil ?_
            refine S.seq (S.seq (S.region rfl ?_))
            refine O.op (.p rfl) (.mv rfl) ?_
            refine O.op (.p rfl) (.eql rfl rfl) ?_
            refine O.nil ?_
            first | refine S.condD rfl (fun h88 => ?_) (fun h88 => ?_) | refine S.condB rfl (fun h88 => ?_) (fun h88 => ?_)
            · have h88 : jAppE m alog ds[i].2.2.1 = 0 := by simpa using h88
              refine S.region rfl ?_
              refine O.op (.p rfl) (.mv rfl) ?_
              refine O.op (.p rfl) (.mv rfl) ?_
              refine O.op (.p rfl) (.mv rfl) ?_
              refine O.idx' (.p rfl) Go.Proofs.Tryd.underlying55 FactDisk10.size57 rfl rfl rfl (ha) (by decide) (by first | omega | (simp; done) | (simp; omega) | decide) (fun p92 cs92 hp92 hr92 => ?_)
              obtain ⟨v92, rfl, hd92⟩ := DeedRp.open hr92
              obtain ⟨a92', c92', rfl⟩ := hd92.shape
              refine O.op (.p rfl) (.fieldAddr FactDisk10.fld57x2 rfl) ?_
              refine O.op (.p rfl) (.loadAt FactDisk10.flat35 rfl (hp92.drop 2) rfl) ?_
              obtain ⟨dss, hds, hdc⟩ := Arr.toCells (k := 2) rfl hd92
              have hdl2 := hdc.len
              refine O.opE (.p rfl) (.appendP (T := Rp.cells 2) (pure_cells 2) Go.Proofs.Tryd.underlying35 FactDisk10.elem25 (by decide) rfl rfl (by repeat (first | exact Sel.here | apply Sel.there)) hds (by first | omega | (simp; done) | (simp; omega) | decide) (by first | omega | (simp; done) | (simp; omega) | decide)) ?_
              rintro v95 _ ⟨a95, c95, rfl, rfl⟩
              refine O.op (.p rfl) (.as rfl) ?_
              refine O.nil ?_
              refine S.exit rfl ?_
              refine S.region rfl ?_
              refine O.op (.p rfl) (.mv rfl) ?_
              refine O.op (.p rfl) (.add rfl rfl (IntWalk.i64_in _ (by omega))) ?_
              refine O.op (.p rfl) (.as rfl) ?_
              refine O.nil ?_
              rw [show css.length + dss.length = (css ++ dss).length from (List.length_append ..).symm]
              refine S.pk ?_ (S.weaken ?_ (ih (i + 1) ((jAppM m alog ds[i].2.2.1, jb)) ((a95, c95)) ((css ++ dss, all ++ ds[i].2.2.1)) (by exact ⟨by omega, ci.append h88, hcs.append hdc, by rw [List.length_append]; omega⟩) (by omega)))
              · repeat (first | exact Picks.all | exact Picks.nil | (apply Picks.cons; focus (repeat (first | exact Sel.here | apply Sel.there))) | apply Picks.skip)
              repeat (first | exact Sub.nil | refine Sub.cons rfl ?_)
            · have h88 : jAppE m alog ds[i].2.2.1 ≠ 0 := by simpa using h88
              obtain ⟨hjm, hje⟩ := jApp_fail alog_ok h88
              rw [hjm]
              cases hje with
              | inl hje =>
                rw [hje]
                refine S.seq (S.region rfl ?_)
                refine O.op (.p rfl) (.mv rfl) ?_
                refine O.callSs (.p rfl) rfl FactDisk10.ok23 rfl rfl (by repeat (first | exact Sels.nil | (apply Sels.cons; focus (repeat (first | exact Sel.here | apply Sel.there))))) (used_g hat' ci.ok) ?_
                rintro v97 _ ⟨rfl, rfl⟩
                try simp only [List.cons_append, List.nil_append, List.append_nil]
                refine O.op (.p rfl) (.mv rfl) ?_
                refine O.op (.p rfl) (.neq rfl rfl) ?_
                refine O.slot 99 (v' := .bool false) rfl (congrArg Value.bool (by simp)) ?_
                refine O.op (.p rfl) (.mv rfl) ?_
                refine O.op (.g rfl rfl) (.mv rfl) ?_
                refine O.op (.g rfl rfl) (.neq rfl rfl) ?_
                refine O.slot 102 (v' := .bool false) rfl (congrArg Value.bool (by rfl)) ?_
                refine O.op (.g rfl rfl) (.mv rfl) ?_
                refine O.opN rfl rfl rfl ?_
                refine O.opN rfl rfl rfl ?_
                refine O.op (.g rfl rfl) (.pickF rfl rfl) ?_
                refine O.op (.g rfl rfl) (.mv rfl) ?_
                refine O.opN rfl rfl rfl ?_
                refine O.opN rfl rfl rfl ?_
                refine O.op (.g rfl rfl) (.pickF rfl rfl) ?_
                refine O.op (.p rfl) (.pickF rfl rfl) ?_
                refine O.nil ?_
                refine S.condF rfl ?_
                refine S.skip (S.exit rfl ?_)
                refine S.region rfl ?_
                refine O.op (.p rfl) (.mv rfl) ?_
                refine O.op (.p rfl) (.add rfl rfl (IntWalk.i64_in _ (by omega))) ?_
                refine O.op (.p rfl) (.as rfl) ?_
                refine O.nil ?_
                refine S.pk ?_ (S.weaken ?_ (ih (i + 1) ((m, jb)) (s) ((css, all)) (by exact ⟨by omega, ci, hcs, by show all.length ≤ _; omega⟩) (by omega)))
                · repeat (first | exact Picks.all | exact Picks.nil | (apply Picks.cons; focus (repeat (first | exact Sel.here | apply Sel.there))) | apply Picks.skip)
                repeat (first | exact Sub.nil | refine Sub.cons rfl ?_)
              | inr hje => cases hje with
                | inl hje =>
                  rw [hje]
                  refine S.seq (S.region rfl ?_)
                  refine O.op (.p rfl) (.mv rfl) ?_
                  refine O.callSs (.p rfl) rfl FactDisk10.ok23 rfl rfl (by repeat (first | exact Sels.nil | (apply Sels.cons; focus (repeat (first | exact Sel.here | apply Sel.there))))) (used_g hat' ci.ok) ?_
                  rintro v97 _ ⟨rfl, rfl⟩
                  try simp only [List.cons_append, List.nil_append, List.append_nil]
                  refine O.op (.p rfl) (.mv rfl) ?_
                  refine O.op (.p rfl) (.neq rfl rfl) ?_
                  refine O.slot 99 (v' := .bool false) rfl (congrArg Value.bool (by simp)) ?_
                  refine O.op (.p rfl) (.mv rfl) ?_
                  refine O.op (.g rfl rfl) (.mv rfl) ?_
                  refine O.op (.g rfl rfl) (.neq rfl rfl) ?_
                  refine O.slot 102 (v' := .bool true) rfl (congrArg Value.bool (by rfl)) ?_
                  refine O.op (.g rfl rfl) (.mv rfl) ?_
                  refine O.op (.g rfl rfl) (.mv rfl) ?_
                  refine O.op (.g rfl rfl) (.neq rfl rfl) ?_
                  refine O.slot 105 (v' := .bool false) rfl (congrArg Value.bool (by rfl)) ?_
                  refine O.op (.g rfl rfl) (.pickT rfl rfl) ?_
                  refine O.op (.g rfl rfl) (.mv rfl) ?_
                  refine O.opN rfl rfl rfl ?_
                  refine O.opN rfl rfl rfl ?_
                  refine O.op (.g rfl rfl) (.pickF rfl rfl) ?_
                  refine O.op (.p rfl) (.pickF rfl rfl) ?_
                  refine O.nil ?_
                  refine S.condF rfl ?_
                  refine S.skip (S.exit rfl ?_)
                  refine S.region rfl ?_
                  refine O.op (.p rfl) (.mv rfl) ?_
                  refine O.op (.p rfl) (.add rfl rfl (IntWalk.i64_in _ (by omega))) ?_
                  refine O.op (.p rfl) (.as rfl) ?_
                  refine O.nil ?_
                  refine S.pk ?_ (S.weaken ?_ (ih (i + 1) ((m, jb)) (s) ((css, all)) (by exact ⟨by omega, ci, hcs, by show all.length ≤ _; omega⟩) (by omega)))
                  · repeat (first | exact Picks.all | exact Picks.nil | (apply Picks.cons; focus (repeat (first | exact Sel.here | apply Sel.there))) | apply Picks.skip)
                  repeat (first | exact Sub.nil | refine Sub.cons rfl ?_)
                | inr hje =>
                  rw [hje]
                  refine S.seq (S.region rfl ?_)
                  refine O.op (.p rfl) (.mv rfl) ?_
                  refine O.callSs (.p rfl) rfl FactDisk10.ok23 rfl rfl (by repeat (first | exact Sels.nil | (apply Sels.cons; focus (repeat (first | exact Sel.here | apply Sel.there))))) (used_g hat' ci.ok) ?_
                  rintro v97 _ ⟨rfl, rfl⟩
                  try simp only [List.cons_append, List.nil_append, List.append_nil]
                  refine O.op (.p rfl) (.mv rfl) ?_
                  refine O.op (.p rfl) (.neq rfl rfl) ?_
                  refine O.slot 99 (v' := .bool false) rfl (congrArg Value.bool (by simp)) ?_
                  refine O.op (.p rfl) (.mv rfl) ?_
                  refine O.op (.g rfl rfl) (.mv rfl) ?_
                  refine O.op (.g rfl rfl) (.neq rfl rfl) ?_
                  refine O.slot 102 (v' := .bool true) rfl (congrArg Value.bool (by rfl)) ?_
                  refine O.op (.g rfl rfl) (.mv rfl) ?_
                  refine O.op (.g rfl rfl) (.mv rfl) ?_
                  refine O.op (.g rfl rfl) (.neq rfl rfl) ?_
                  refine O.slot 105 (v' := .bool true) rfl (congrArg Value.bool (by rfl)) ?_
                  refine O.op (.g rfl rfl) (.pickT rfl rfl) ?_
                  refine O.op (.g rfl rfl) (.mv rfl) ?_
                  refine O.op (.g rfl rfl) (.mv rfl) ?_
                  refine O.op (.g rfl rfl) (.neq rfl rfl) ?_
                  refine O.slot 109 (v' := .bool false) rfl (congrArg Value.bool (by rfl)) ?_
                  refine O.op (.g rfl rfl) (.pickT rfl rfl) ?_
                  refine O.op (.p rfl) (.pickF rfl rfl) ?_
                  refine O.nil ?_
                  refine S.condF rfl ?_
                  refine S.skip (S.exit rfl ?_)
                  refine S.region rfl ?_
                  refine O.op (.p rfl) (.mv rfl) ?_
                  refine O.op (.p rfl) (.add rfl rfl (IntWalk.i64_in _ (by omega))) ?_
                  refine O.op (.p rfl) (.as rfl) ?_
                  refine O.nil ?_
                  refine S.pk ?_ (S.weaken ?_ (ih (i + 1) ((m, jb)) (s) ((css, all)) (by exact ⟨by omega, ci, hcs, by show all.length ≤ _; omega⟩) (by omega)))
                  · repeat (first | exact Picks.all | exact Picks.nil | (apply Picks.cons; focus (repeat (first | exact Sel.here | apply Sel.there))) | apply Picks.skip)
                  repeat (first | exact Sub.nil | refine Sub.cons rfl ?_)
          · refine S.skip (S.seq (S.seq (S.region rfl ?_)))
            refine O.op (.p rfl) (.mv rfl) ?_
            refine O.op (.p rfl) (.eql rfl rfl) ?_
            refine O.nil ?_
            first | refine S.condD rfl (fun h113 => ?_) (fun h113 => ?_) | refine S.condB rfl (fun h113 => ?_) (fun h113 => ?_)
            · refine S.region rfl ?_
              refine O.op (.p rfl) (.mv rfl) ?_
              refine O.op (.p rfl) (.mv rfl) ?_
              refine O.op (.p rfl) (.mv rfl) ?_
              refine O.idx' (.p rfl) Go.Proofs.Tryd.underlying55 FactDisk10.size57 rfl rfl rfl (ha) (by decide) (by first | omega | (simp; done) | (simp; omega) | decide) (fun p117 cs117 hp117 hr117 => ?_)
              obtain ⟨v117, rfl, hd117⟩ := DeedRp.open hr117
              obtain ⟨a117', c117', rfl⟩ := hd117.shape
              refine O.op (.p rfl) (.fieldAddr FactDisk10.fld57x1 rfl) ?_
              refine O.op (.p rfl) (.loadAt FactDisk10.flat3 rfl (hp117.drop 1) rfl) ?_
              refine O.callSs (.p rfl) rfl FactDisk10.ok20 rfl rfl (by repeat (first | exact Sels.nil | (apply Sels.cons; focus (repeat (first | exact Sel.here | apply Sel.there))))) (crash_g (keep := ds[i].2.1) hat' ci.ok.w1 ci.ok.w2 ci.ok.sub ci.ok.le) ?_
              rintro v120 _ ⟨s', c1', l', c2', hcr, rfl, rfl⟩
              try simp only [List.cons_append, List.nil_append, List.append_nil]
              refine O.nil ?_
              refine S.seq ?_
              have ci2 := ci.crash hcr
              obtain ⟨he1, ho1, ci1⟩ := ci2.open alog_ok
              refine S.region rfl ?_
              refine O.op (.p rfl) (.mv rfl) ?_
              refine O.callSs (.p rfl) rfl FactDisk10.ok8 rfl rfl (by repeat (first | exact Sels.nil | (apply Sels.cons; focus (repeat (first | exact Sel.here | apply Sel.there))))) (open_ok (m := ⟨s', c1', l', c2', m.room⟩) (name := alog) hat' ci2.ok (by decide) he1 (by rw [ho1])) ?_
              rintro v123 _ ⟨j123, a123, c123, rfl, rfl⟩
              try simp only [List.cons_append, List.nil_append, List.append_nil]
              rw [ho1]
              refine O.op (.p rfl) (.mv rfl) ?_
              refine O.op (.p rfl) (.extract rfl rfl) ?_
              refine O.op (.p rfl) (.extract rfl rfl) ?_
              refine O.op (.p rfl) (.extract rfl rfl) ?_
              refine O.op (.p rfl) (.as rfl) ?_
              refine O.op (.p rfl) (.as rfl) ?_
              refine O.op (.p rfl) (.as rfl) ?_
              refine O.nil ?_
              refine S.seq (S.region rfl ?_)
              refine O.op (.p rfl) (.mv rfl) ?_
              refine O.op (.p rfl) (.neq rfl rfl) ?_
              refine O.slot 128 (v' := .bool false) rfl (congrArg Value.bool (by rfl)) ?_
              refine O.op (.p rfl) (.mv rfl) ?_
              refine O.op (.g rfl rfl) (.mv rfl) ?_
              refine O.op (.g rfl rfl) (.mv rfl) ?_
              refine O.callB (.g rfl rfl) rfl FactDisk10.ok15 rfl rfl (bs := [OwnP (Rp.cells 2) 25 (.slice s.1 css.length s.2) css, ListP EntG 25 (.slice a123 all.length c123) all]) (by repeat (first | exact Sels.nil | (apply Sels.cons; focus (repeat (first | exact Sel.here | apply Sel.there))))) (fun m' hm hd => sameEntries_c ((Sat.list1 hm.tail).right hd) (Arr.ofCells (hm.arr.right hd) (hcs.mono (Fr.sub_add_left _ _)) rfl)) ?_
              rintro v132 _ ⟨rfl, rfl⟩
              try simp only [List.cons_append, List.nil_append, List.append_nil]
              refine O.slot 132 (v' := .bool true) rfl (congrArg Value.bool (by simp)) ?_
              refine O.op (.g rfl rfl) (.not rfl) ?_
              refine O.op (.p rfl) (.pickF rfl rfl) ?_
              refine O.nil ?_
              refine S.condF rfl ?_
              refine S.skip (S.inBlock (S.region rfl ?_))
              refine O.op (.p rfl) (.mv rfl) ?_
              refine O.op (.p rfl) (.add rfl rfl (IntWalk.i64_in _ (by omega))) ?_
              refine O.op (.p rfl) (.as rfl) ?_
              refine O.nil ?_
              refine S.pk ?_ (S.weaken ?_ (ih (i + 1) ((openM ⟨s', c1', l', c2', m.room⟩ alog, j123)) (s) ((css, all)) (by exact ⟨by omega, ci1, hcs, by show all.length ≤ _; omega⟩) (by omega)))
              · repeat (first | exact Picks.all | exact Picks.nil | (apply Picks.cons; focus (repeat (first | exact Sel.here | apply Sel.there))) | apply Picks.skip)
              repeat (first | exact Sub.nil | refine Sub.cons rfl ?_)
            · obtain ⟨he1, ho1, ci1⟩ := ci.open alog_ok
              refine S.skip (S.seq (S.region rfl ?_))
              refine O.op (.p rfl) (.mv rfl) ?_
              refine O.callSs (.p rfl) rfl FactDisk10.ok8 rfl rfl (by repeat (first | exact Sels.nil | (apply Sels.cons; focus (repeat (first | exact Sel.here | apply Sel.there))))) (open_ok (m := m) (name := alog) hat' ci.ok (by decide) he1 (by rw [ho1])) ?_
              rintro v123 _ ⟨j123, a123, c123, rfl, rfl⟩
              try simp only [List.cons_append, List.nil_append, List.append_nil]
              rw [ho1]
              refine O.op (.p rfl) (.mv rfl) ?_
              refine O.op (.p rfl) (.extract rfl rfl) ?_
              refine O.op (.p rfl) (.extract rfl rfl) ?_
              refine O.op (.p rfl) (.extract rfl rfl) ?_
              refine O.op (.p rfl) (.as rfl) ?_
              refine O.op (.p rfl) (.as rfl) ?_
              refine O.op (.p rfl) (.as rfl) ?_
              refine O.nil ?_
              refine S.seq (S.region rfl ?_)
              refine O.op (.p rfl) (.mv rfl) ?_
              refine O.op (.p rfl) (.neq rfl rfl) ?_
              refine O.slot 128 (v' := .bool false) rfl (congrArg Value.bool (by rfl)) ?_
              refine O.op (.p rfl) (.mv rfl) ?_
              refine O.op (.g rfl rfl) (.mv rfl) ?_
              refine O.op (.g rfl rfl) (.mv rfl) ?_
              refine O.callB (.g rfl rfl) rfl FactDisk10.ok15 rfl rfl (bs := [OwnP (Rp.cells 2) 25 (.slice s.1 css.length s.2) css, ListP EntG 25 (.slice a123 all.length c123) all]) (by repeat (first | exact Sels.nil | (apply Sels.cons; focus (repeat (first | exact Sel.here | apply Sel.there))))) (fun m' hm hd => sameEntries_c ((Sat.list1 hm.tail).right hd) (Arr.ofCells (hm.arr.right hd) (hcs.mono (Fr.sub_add_left _ _)) rfl)) ?_
              rintro v132 _ ⟨rfl, rfl⟩
              try simp only [List.cons_append, List.nil_append, List.append_nil]
              refine O.slot 132 (v' := .bool true) rfl (congrArg Value.bool (by simp)) ?_
              refine O.op (.g rfl rfl) (.not rfl) ?_
              refine O.op (.p rfl) (.pickF rfl rfl) ?_
              refine O.nil ?_
              refine S.condF rfl ?_
              refine S.skip (S.inBlock (S.region rfl ?_))
              refine O.op (.p rfl) (.mv rfl) ?_
              refine O.op (.p rfl) (.add rfl rfl (IntWalk.i64_in _ (by omega))) ?_
              refine O.op (.p rfl) (.as rfl) ?_
              refine O.nil ?_
              refine S.pk ?_ (S.weaken ?_ (ih (i + 1) ((openM m alog, j123)) (s) ((css, all)) (by exact ⟨by omega, ci1, hcs, by show all.length ≤ _; omega⟩) (by omega)))
              · repeat (first | exact Picks.all | exact Picks.nil | (apply Picks.cons; focus (repeat (first | exact Sel.here | apply Sel.there))) | apply Picks.skip)
              repeat (first | exact Sub.nil | refine Sub.cons rfl ?_)
        · clear ih
          refine S.exit rfl ?_
          refine S.seq (S.region rfl ?_)
          refine O.op (.p rfl) (.as rfl) ?_
          refine O.nil ?_
          refine S.ret Go.Proofs.Tryd.results5 rfl fun w hw => Holds.end_ hR hw ?_
          exact ⟨_, ⟨rfl, rfl⟩, by repeat (first | exact Picks.all | exact Picks.nil | (apply Picks.cons; focus (repeat (first | exact Sel.here | apply Sel.there))) | apply Picks.skip)⟩

end Go.Proofs.YtcghiboamlaenaaDoor
