import Derived.Test.YtodkpkmhnpmmgaaGreatKit2
open Go Go.Sp
set_option maxRecDepth 100000
attribute [local irreducible] obj Own OwnP
namespace Go.Proofs.YtodkpkmhnpmmgaaGreat
theorem FactKit3.flat23 : Go.Sp.flat1 Go.Proofs.Tryz.prog 23 = true := by kernel_rfl
theorem FactKit3.mixed : Go.Proofs.Tryz.prog.follows .mixedOrders = true := by kernel_rfl
theorem FactKit3.ok10 : callable Go.Proofs.Tryz.prog 10 = true := by kernel_rfl
theorem FactKit3.ok20 : callable Go.Proofs.Tryz.prog 20 = true := by kernel_rfl
theorem FactKit3.ok31 : callable Go.Proofs.Tryz.prog 31 = true := by kernel_rfl
theorem FactKit3.size23 : (Go.Proofs.Tryz.prog.info? 23).map (·.size) = some 1 := by kernel_rfl
theorem Sat.w1 {A : SProp} {B : Fr → Prop} {m : Fr} (hs : ∀ {h k : Fr}, h.sub k → B h → B k) (hA : ∀ h, A h → B h) : Sat [A] m → B m := fun ⟨_, _, _, s, _, x, _⟩ => hs s (hA _ x)
/-- the second one is lent, and let go -/
theorem SameBytes_w {r : Fr} {va vb : Value} {xs ys : List UInt8} (ha : Arr Rp.u8 r va xs) :
    Con Go.Proofs.Tryz.prog 10 #[va, vb] r [fun m => Arr Rp.u8 m vb ys] (Ret fun v η => v = .bool (decide (xs = ys)) ∧ η = []) :=
  Con.lentD (η := []) (bs := [_]) fun _ hm hd => SameBytes_c ha.left ((Sat.w1 Arr.mono (fun _ x => x) hm).right hd)

theorem lent_at {h : Fr} {vs us : List Value} {xss : List (List UInt8)} (hv : All2 (LentA h) vs xss) (i : Nat) (hi : i < xss.length) (hi2 : i < (vs ++ us).length) : LentA h (vs ++ us)[i] xss[i] := by
  have hl := hv.length
  rw [List.getElem_append_left (by omega)]
  exact hv.get i (by omega) hi
theorem mark_at {h : Fr} {vs us : List Value} {n : Nat} (hv : vs.length = n) (hu : All2 (Arr Rp.u8 h) us (rowMarks 12)) (i : Nat) (hi : n ≤ i) (hi2 : i < (vs ++ us).length) : Arr Rp.u8 h (vs ++ us)[i] (markT 1 ((i : Int) - (n : Int))) := by
  have hl := hu.length
  rw [List.getElem_append_right (by omega)]
  have := hu.get (i - vs.length) (by simp at hi2; omega) (by simp at hi2 hl ⊢; omega)
  simpa [rowMarks, hv, Int.natCast_sub hi] using this
theorem KeptRows_c {r : Fr} {a : Option Addr} {c : Nat} {vl : Value} {vs us : List Value} {xss : List (List UInt8)} (hin : Arr Rp.val r (.slice a (xss.length + 12) c) (vs ++ us)) (hv : All2 (LentA r) vs xss) (hu : All2 (Arr Rp.u8 r) us (rowMarks 12)) (hl : Arr (Rp.slice Rp.u8) r vl xss)
    (hq : ∀ x ∈ xss, x.length ≤ 100000000000000) (hb : xss.length ≤ 1000000000000) :
    Con Go.Proofs.Tryz.prog 15 #[.slice a xss.length c, vl] r [] (Ret fun v η => v = .bool true ∧ η = []) := by
  refine Con.of (n := 58) [.slice a xss.length c, vl] rfl Go.Proofs.Tryz.func15 rfl rfl rfl fun g hg R hR => ?_
  have hin := hin.mono hg
  have hl := hl.mono hg
  replace hv := hv.imp fun _ _ x => LentA.mono hg x
  replace hu := hu.imp fun _ _ x => Arr.mono hg x
  obtain ⟨hzl, hzc⟩ := hin.room
  have hvl := hv.length
  have hul := hu.length
  rw [rowMarks_length] at hul
  obtain ⟨a1, c1, rfl⟩ := hl.shape
  refine S.seq (S.region rfl ?_)
  refine O.op (.p rfl) (.as rfl) ?_
  refine O.nil ?_
  refine S.seq (S.seq (S.region rfl ?_))
  refine O.op (.p rfl) (.mv rfl) ?_
  refine O.op (.p rfl) (.len rfl Go.Proofs.Tryz.underlying22 rfl) ?_
  refine O.op (.p rfl) (.mv rfl) ?_
  refine O.op (.p rfl) (.len rfl Go.Proofs.Tryz.underlying22 rfl) ?_
  refine O.op (.p rfl) (.neq rfl rfl) ?_
  refine O.nil ?_
  first | refine S.condD rfl (fun h11 => ?_) (fun h11 => ?_) | refine S.condB rfl (fun h11 => ?_) (fun h11 => ?_)
  · exact absurd rfl (by assumption)
  · refine S.skip (S.seq (S.region rfl ?_))
    refine O.op (.p rfl) (.mv rfl) ?_
    refine O.op (.p rfl) (.mv rfl) ?_
    refine O.op (.p rfl) (.len rfl Go.Proofs.Tryz.underlying22 rfl) ?_
    refine O.op (.p rfl) (.add rfl rfl (IntWalk.i64_in _ (by omega))) ?_
    refine O.slice0 (q := xss.length + 12) Rp.val (.p rfl) Go.Proofs.Tryz.underlying22 FactKit3.size23 rfl rfl rfl (by omega) ?_
    refine O.op (.p rfl) (.as rfl) ?_
    refine O.nil ?_
    refine S.seq (S.seq (S.region rfl ?_))
    refine O.op (.p rfl) (.as rfl) ?_
    refine O.nil ?_
    refine S.block ?_
    refine S.loopK (ι := Nat) (fun i => i ≤ xss.length + 12) (fun i => [(6, .int .i64 (i : Int))]) [(1, _), (5, _)] (fun i => []) (fun i => xss.length + 12 - i) (0) (by simp) (.cons rfl (.nil)) (.cons rfl (.cons rfl (.nil))) rfl fun i hx ih => ?_
    have hm1 := meltRefl (g := g)
    refine S.seq (S.seq (S.region rfl ?_))
    refine O.op (.p rfl) (.mv rfl) ?_
    refine O.op (.p rfl) (.mv rfl) ?_
    refine O.op (.p rfl) (.len rfl Go.Proofs.Tryz.underlying22 rfl) ?_
    refine O.op (.p rfl) (.lss rfl rfl) ?_
    refine O.nil ?_
    first | refine S.condD rfl (fun h20 => ?_) (fun h20 => ?_) | refine S.condB rfl (fun h20 => ?_) (fun h20 => ?_)
    · have hi : i < xss.length + 12 := by omega
      refine S.skip (S.seq (S.block (S.seq (S.regionD (L := [0, 1, 2, 3, 4, 5, 6, 7, 8, 9, 10, 11, 12, 13, 14, 15, 16, 17, 18, 19, 20, 21, 22, 23, 24, 25, 26, 27, 28, 29, 30, 31, 32, 33, 34]) FactKit3.mixed (by kernel_rfl) ?_))))
      refine .quiet (.p rfl) rfl (fun _ => .mv rfl) ?_
      refine .quiet (.p rfl) rfl (fun _ => .mv rfl) ?_
      refine .quiet (.p rfl) rfl (fun _ => .len rfl Go.Proofs.Tryz.underlying22 rfl) ?_
      refine .quiet (.p rfl) rfl (fun _ => .lss rfl rfl) ?_
      refine .quiet (.p rfl) rfl (fun _ => .mv rfl) ?_
      first | refine OD.caseD 27 rfl (fun h27 => ?_) (fun h27 => ?_) | refine OD.caseB 27 rfl (fun h27 => ?_) (fun h27 => ?_)
      · have hi2 : i < xss.length := by omega
        obtain ⟨a', c', hr', he', hA⟩ := lent_at (us := us) hv i hi2 (by simp; omega)
        have hrow := hq xss[i] (List.getElem_mem hi2)
        refine .quiet (.g rfl rfl) rfl (fun _ => .mv rfl) ?_
        refine .quiet (.g rfl rfl) rfl (fun _ => .mv rfl) ?_
        refine OD.idx' (.g rfl rfl) Go.Proofs.Tryz.underlying22 FactKit3.size23 rfl rfl rfl (hin) (by decide) (by first | omega | (simp; done) | (simp; omega) | decide) (fun p30 cs30 hp30 hr30 => ?_)
        obtain ⟨rfl, _⟩ := hr30
        refine .quiet (.g rfl rfl) rfl (fun _ => .loadAt FactKit3.flat23 rfl hp30 rfl) ?_
        refine OD.slot 31 (v' := .slice a' xss[i].length c') rfl (by exact he') ?_
        refine .quiet (.g rfl rfl) rfl (fun _ => .mv rfl) ?_
        refine .quiet (.g rfl rfl) rfl (fun _ => .mv rfl) ?_
        refine OD.idx' (.g rfl rfl) Go.Proofs.Tryz.underlying22 FactKit3.size23 rfl rfl rfl (by first | assumption | exact Arr.mono hg (by assumption) | exact Arr.left (by assumption) | exact Arr.left (Arr.mono hg (by assumption))) (by decide) (by first | omega | (simp; done) | (simp; omega) | decide) (fun p34 cs34 hp34 hr34 => ?_)
        obtain ⟨v34, rfl, ha34⟩ := hr34
        obtain ⟨a34, c34, rfl⟩ := ha34.shape
        refine .quiet (.g rfl rfl) rfl (fun _ => .loadAt FactKit3.flat23 rfl hp34 rfl) ?_
        refine OD.call0 (.g rfl rfl) (by kernel_rfl) rfl FactKit3.ok20 rfl rfl ((KeptBytes_c hA (by first | assumption | exact Arr.mono hg (by assumption) | exact Arr.left (by assumption) | exact Arr.left (Arr.mono hg (by assumption))) (by omega))) ?_
        rintro v36 _ ⟨rfl, rfl⟩
        try simp only [List.cons_append, List.nil_append, List.append_nil]
        refine OD.slot 36 (v' := .bool true) rfl (congrArg Value.bool (by first | decide | simp)) ?_
        refine .quiet (.g rfl rfl) rfl (fun _ => .not rfl) ?_
        refine .quiet (.p rfl) rfl (fun _ => .pickT rfl rfl) ?_
        refine .quiet (.p rfl) rfl (fun _ => .mv rfl) ?_
        refine .quiet (.g rfl rfl) rfl (fun _ => .mv rfl) ?_
        refine .quiet (.g rfl rfl) rfl (fun _ => .mv rfl) ?_
        refine .quiet (.g rfl rfl) rfl (fun _ => .len rfl Go.Proofs.Tryz.underlying22 rfl) ?_
        refine .quiet (.g rfl rfl) rfl (fun _ => .geq rfl rfl) ?_
        refine OD.slot 43 (v' := .bool false) rfl (congrArg Value.bool (by simp; omega)) ?_
        refine .quiet (.g rfl rfl) rfl (fun _ => .mv rfl) ?_
        refine .no rfl rfl rfl rfl ?_
        refine .no rfl rfl rfl rfl ?_
        refine .no rfl rfl rfl rfl ?_
        refine .no rfl rfl rfl rfl ?_
        refine .no rfl rfl rfl rfl ?_
        refine .no rfl rfl rfl rfl ?_
        refine .no rfl rfl rfl rfl ?_
        refine .no rfl rfl rfl rfl ?_
        refine .no rfl rfl rfl rfl ?_
        refine .no rfl rfl rfl rfl ?_
        refine .no rfl rfl rfl rfl ?_
        refine .quiet (.g rfl rfl) rfl (fun _ => .pickF rfl rfl) ?_
        refine .quiet (.p rfl) rfl (fun _ => .pickF rfl rfl) ?_
        refine .nil ?_
        refine S.condF rfl ?_
        refine S.skip (S.inBlock (S.region rfl ?_))
        refine O.op (.p rfl) (.mv rfl) ?_
        refine O.op (.p rfl) (.add rfl rfl (IntWalk.i64_in _ (by omega))) ?_
        refine O.op (.p rfl) (.as rfl) ?_
        refine O.nil ?_
        refine S.weaken ?_ (ih (i + 1) (by omega) (by omega))
        repeat (first | exact Sub.nil | refine Sub.cons rfl ?_)
      · have hi2 : xss.length ≤ i := by omega
        have hA := mark_at hvl hu i hi2 (by simp; omega)
        refine .no rfl rfl rfl rfl ?_
        refine .no rfl rfl rfl rfl ?_
        refine .no rfl rfl rfl rfl ?_
        refine .no rfl rfl rfl rfl ?_
        refine .no rfl rfl rfl rfl ?_
        refine .no rfl rfl rfl rfl ?_
        refine .no rfl rfl rfl rfl ?_
        refine .no rfl rfl rfl rfl ?_
        refine .no rfl rfl rfl rfl ?_
        refine .no rfl rfl rfl rfl ?_
        refine .quiet (.p rfl) rfl (fun _ => .pickF rfl rfl) ?_
        refine .quiet (.p rfl) rfl (fun _ => .mv rfl) ?_
        refine .quiet (.g rfl rfl) rfl (fun _ => .mv rfl) ?_
        refine .quiet (.g rfl rfl) rfl (fun _ => .mv rfl) ?_
        refine .quiet (.g rfl rfl) rfl (fun _ => .len rfl Go.Proofs.Tryz.underlying22 rfl) ?_
        refine .quiet (.g rfl rfl) rfl (fun _ => .geq rfl rfl) ?_
        refine OD.slot 43 (v' := .bool true) rfl (congrArg Value.bool (by simp; omega)) ?_
        refine .quiet (.g rfl rfl) rfl (fun _ => .mv rfl) ?_
        refine .quiet (.g rfl rfl) rfl (fun _ => .mv rfl) ?_
        refine .quiet (.g rfl rfl) rfl (fun _ => .mv rfl) ?_
        refine OD.idx' (.g rfl rfl) Go.Proofs.Tryz.underlying22 FactKit3.size23 rfl rfl rfl (hin) (by decide) (by first | omega | (simp; done) | (simp; omega) | decide) (fun p47 cs47 hp47 hr47 => ?_)
        obtain ⟨rfl, _⟩ := hr47
        refine .quiet (.g rfl rfl) rfl (fun _ => .loadAt FactKit3.flat23 rfl hp47 rfl) ?_
        refine .quiet (.g rfl rfl) rfl (fun _ => .mv rfl) ?_
        refine .quiet (.g rfl rfl) rfl (fun _ => .mv rfl) ?_
        refine .quiet (.g rfl rfl) rfl (fun _ => .len rfl Go.Proofs.Tryz.underlying22 rfl) ?_
        refine .quiet (.g rfl rfl) rfl (fun _ => .sub rfl rfl (IntWalk.i64_in _ (by omega))) ?_
        refine OD.call0 (.g rfl rfl) (by kernel_rfl) rfl FactKit3.ok31 rfl rfl ((markRow_c _ _)) ?_
        rintro v53 _ ⟨a53, c53, rfl, rfl⟩
        try simp only [List.cons_append, List.nil_append, List.append_nil]
        refine OD.callSs (.g rfl rfl) (by kernel_rfl) rfl FactKit3.ok10 rfl rfl (by repeat (first | exact Sels.nil | (apply Sels.cons; focus (repeat (first | exact Sel.here | apply Sel.there))))) (SameBytes_w hA) ?_
        rintro v54 _ ⟨rfl, rfl⟩
        try simp only [List.cons_append, List.nil_append, List.append_nil]
        refine OD.slot 54 (v' := .bool true) rfl (congrArg Value.bool (by first | decide | simp)) ?_
        refine .quiet (.g rfl rfl) rfl (fun _ => .not rfl) ?_
        refine .quiet (.g rfl rfl) rfl (fun _ => .pickT rfl rfl) ?_
        refine .quiet (.p rfl) rfl (fun _ => .pickF rfl rfl) ?_
        refine .nil ?_
        refine S.condF rfl ?_
        refine S.skip (S.inBlock (S.region rfl ?_))
        refine O.op (.p rfl) (.mv rfl) ?_
        refine O.op (.p rfl) (.add rfl rfl (IntWalk.i64_in _ (by omega))) ?_
        refine O.op (.p rfl) (.as rfl) ?_
        refine O.nil ?_
        refine S.weaken ?_ (ih (i + 1) (by omega) (by omega))
        repeat (first | exact Sub.nil | refine Sub.cons rfl ?_)
    · refine S.exit rfl ?_
      refine S.seq (S.region rfl ?_)
      refine O.op (.p rfl) (.as rfl) ?_
      refine O.nil ?_
      refine S.ret Go.Proofs.Tryz.results15 rfl fun w hw => hR _ _ w ?_ hw
      exact ⟨rfl, rfl⟩

end Go.Proofs.YtodkpkmhnpmmgaaGreat
