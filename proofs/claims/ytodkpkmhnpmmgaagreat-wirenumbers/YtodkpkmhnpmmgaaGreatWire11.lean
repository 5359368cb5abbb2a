import Derived.Test.YtodkpkmhnpmmgaaGreatWire10
import Derived.Test.YtodkpkmhnpmmgaaGreatSpOpen
open Go Go.Sp
set_option maxRecDepth 100000
attribute [local irreducible] obj Own OwnP
namespace Go.Proofs.YtodkpkmhnpmmgaaGreat
theorem FactWire11.elem23 : elemIs Go.Proofs.Tryz.prog 23 1 24 [.slice none 0 0] := elemIs.mk (by kernel_rfl) rfl
theorem FactWire11.flat23 : Go.Sp.flat1 Go.Proofs.Tryz.prog 23 = true := by kernel_rfl
theorem FactWire11.mixed : Go.Proofs.Tryz.prog.follows .mixedOrders = true := by kernel_rfl
theorem FactWire11.ok10 : callable Go.Proofs.Tryz.prog 10 = true := by kernel_rfl
theorem FactWire11.ok11 : callable Go.Proofs.Tryz.prog 11 = true := by kernel_rfl
theorem FactWire11.ok12 : callable Go.Proofs.Tryz.prog 12 = true := by kernel_rfl
theorem FactWire11.ok13 : callable Go.Proofs.Tryz.prog 13 = true := by kernel_rfl
theorem FactWire11.ok14 : callable Go.Proofs.Tryz.prog 14 = true := by kernel_rfl
theorem FactWire11.ok15 : callable Go.Proofs.Tryz.prog 15 = true := by kernel_rfl
theorem FactWire11.ok16 : callable Go.Proofs.Tryz.prog 16 = true := by kernel_rfl
theorem FactWire11.ok6 : callable Go.Proofs.Tryz.prog 6 = true := by kernel_rfl
theorem FactWire11.ok7 : callable Go.Proofs.Tryz.prog 7 = true := by kernel_rfl
theorem FactWire11.ok8 : callable Go.Proofs.Tryz.prog 8 = true := by kernel_rfl
theorem FactWire11.ok9 : callable Go.Proofs.Tryz.prog 9 = true := by kernel_rfl
theorem FactWire11.size23 : (Go.Proofs.Tryz.prog.info? 23).map (·.size) = some 1 := by kernel_rfl
theorem flat_row (rows : List (List UInt8)) (i : Nat) (h : i < rows.length) : (rows.take (i + 1)).flatten.length = (rows.take i).flatten.length + rows[i].length := by
  rw [List.take_succ_eq_append_getElem h, List.flatten_append, List.flatten_singleton, List.length_append]

def AllL (h : Fr) (vs : List Value) (xss : List (List UInt8)) : Prop := All2 (LentA h) vs xss
theorem AllL.mono {h k : Fr} {vs : List Value} {xss : List (List UInt8)} (x : AllL h vs xss) (s : h.sub k) : AllL k vs xss := All2.imp (fun _ _ y => LentA.mono s y) x
def AllA (h : Fr) (vs : List Value) (xss : List (List UInt8)) : Prop := All2 (Arr Rp.u8 h) vs xss
theorem AllA.mono {h k : Fr} {vs : List Value} {xss : List (List UInt8)} (x : AllA h vs xss) (s : h.sub k) : AllA k vs xss := All2.imp (fun _ _ y => Arr.mono s y) x
theorem Arr.up {α : Type} {T : Rp α} {h k : Fr} {v : Value} {xs : List α} (x : Arr T h v xs) (s : h.sub k) : Arr T k v xs := Arr.mono s x
/-- the second one is one's own, and let go -/
theorem SameBytes_o {r : Fr} {va vb : Value} {xs ys : List UInt8} (ha : Arr Rp.u8 r va xs) :
    Con Go.Proofs.Tryz.prog 10 #[va, vb] r [OwnP Rp.u8 5 vb ys] (Ret fun v η => v = .bool (decide (xs = ys)) ∧ η = []) :=
  Con.lentD (η := []) (bs := [_]) fun _ hm hd => SameBytes_c ha.left (hm.arr.right hd)
/-- of one part, that is handed in as a row of its own -/
theorem wJoin_1 {r : Fr} {va v : Value} {xs : List UInt8} (hx : Arr Rp.u8 r v xs) (hl : xs.length ≤ 140737488355328) :
    Con Go.Proofs.Tryz.prog 9 #[va] r [OwnP Rp.val 23 va [v]] (Ret fun u η => ∃ a c, u = .slice a xs.length c ∧ η = [OwnP Rp.u8 5 u xs]) :=
  Con.lentD (η := []) (bs := [_]) fun _ hm hd => by
    have := wJoin_c (xss := [xs]) ((hm.arr.right hd).rows ⟨hx.left, trivial⟩) (by simpa using hl)
    simpa using this
theorem flat_mem (rows : List (List UInt8)) (b : Nat) (h : rows.flatten.length ≤ b) : ∀ x ∈ rows, x.length ≤ b := by
  intro x hx
  obtain ⟨p, q, rfl⟩ := List.append_of_mem hx
  simp at h; omega
theorem out_start {rows : List (List UInt8)} (n : Int) (h : rows.flatten.length ≤ 20000) : ∀ x ∈ [be n, be n, rows.flatten, rows.flatten], x.length ≤ 100000000 := by
  intro x hx
  simp only [List.mem_cons, List.not_mem_nil, or_false] at hx
  rcases hx with rfl | rfl | rfl | rfl <;> first | (rw [be_length]; omega) | omega
theorem out_step {rows : List (List UInt8)} {ws : List Value} {ws2 : List (List UInt8)} {i : Nat} {x y z : Value} (hi : i < rows.length) (h1 : ws.length = 4 + 3 * i) (h2 : ws2.length = 4 + 3 * i) (h3 : ∀ x ∈ ws2, x.length ≤ 100000000) (hr : rows[i].length ≤ 20000) :
    i + 1 ≤ rows.length ∧ (ws ++ [x, y, z]).length = 4 + 3 * (i + 1) ∧ (ws2 ++ [bytesOf rows[i], bytesOf rows[i], rows[i]]).length = 4 + 3 * (i + 1) ∧ ∀ x ∈ ws2 ++ [bytesOf rows[i], bytesOf rows[i], rows[i]], x.length ≤ 100000000 := by
  refine ⟨by omega, by simp; omega, by simp; omega, fun x hx => ?_⟩
  rcases List.mem_append.1 hx with hx | hx
  · exact h3 x hx
  · simp at hx; rcases hx with rfl | rfl <;> first | (simp; omega) | omega
theorem WirePuts_c {r : Fr} {vr : Value} {rows : List (List UInt8)} (n : Int) (hr : Arr (Rp.slice Rp.u8) r vr rows) (hq : Within (Within Anyv) rows) :
    Con Go.Proofs.Tryz.prog 3 #[.int .i64 n, vr] r [] (Ret fun v η => v = .bool true ∧ η = []) := by
  refine Con.of (n := 109) [.int .i64 n, vr] rfl Go.Proofs.Tryz.func3 rfl rfl rfl fun g hg R hR => ?_
  have hrl := hq.1
  have hq0 : ∀ x ∈ rows, x.length ≤ 140737488351232 := fun x hx => (hq.2 x hx).1
  have hr := hr.mono hg
  obtain ⟨a2, c2, rfl⟩ := hr.shape
  refine S.seq (S.region rfl ?_)
  refine O.op (.p rfl) (.as rfl) ?_
  refine O.nil ?_
  refine S.seq (S.region rfl ?_)
  refine O.op (.p rfl) (.mv rfl) ?_
  refine O.op (.p rfl) (.len rfl Go.Proofs.Tryz.underlying22 rfl) ?_
  refine O.op (.p rfl) (.as rfl) ?_
  refine O.nil ?_
  refine S.seq (S.seq (S.region rfl ?_))
  refine O.op (.p rfl) (.as rfl) ?_
  refine O.nil ?_
  refine S.block ?_
  refine S.loopK2 (ι := Nat) (κ := Nat) (fun i c => i ≤ rows.length ∧ c = rows.length + (rows.take i).flatten.length ∧ c ≤ 300000000000000) (fun i c => [(6, .int .i64 (i : Int)), (5, .int .i64 (c : Int))]) [(0, _), (1, _)] (fun i c => []) (fun i c => rows.length - i) (0) (rows.length) (by exact ⟨by simp, by simp, by omega⟩) (.cons rfl (.cons rfl (.nil))) (.cons rfl (.cons rfl (.nil))) rfl fun i c hx ih => ?_
  have hm1 := meltRefl (g := g)
  obtain ⟨hx1, hc, hc2⟩ := hx
  refine S.seq (S.seq (S.region rfl ?_))
  refine O.op (.p rfl) (.mv rfl) ?_
  refine O.op (.p rfl) (.mv rfl) ?_
  refine O.op (.p rfl) (.len rfl Go.Proofs.Tryz.underlying22 rfl) ?_
  refine O.op (.p rfl) (.lss rfl rfl) ?_
  refine O.op (.p rfl) (.mv rfl) ?_
  first | refine O.caseD 17 rfl (fun h17 => ?_) (fun h17 => ?_) | refine O.caseB 17 rfl (fun h17 => ?_) (fun h17 => ?_)
  · refine O.op (.g rfl rfl) (.mv rfl) ?_
    refine O.op (.g rfl rfl) (.leq rfl rfl) ?_
    refine O.op (.p rfl) (.pickT rfl rfl) ?_
    refine O.nil ?_
    first | refine S.condD rfl (fun h20 => ?_) (fun h20 => ?_) | refine S.condB rfl (fun h20 => ?_) (fun h20 => ?_)
    · have hi : i < rows.length := by omega
      have hrow := hq0 rows[i] (List.getElem_mem hi)
      have e1 := flat_row rows i hi
      refine S.skip (S.seq (S.block (S.region rfl ?_)))
      refine O.op (.p rfl) (.mv rfl) ?_
      refine O.op (.p rfl) (.mv rfl) ?_
      refine O.op (.p rfl) (.mv rfl) ?_
      refine O.idx' (.p rfl) Go.Proofs.Tryz.underlying22 FactWire11.size23 rfl rfl rfl (by first | assumption | exact Arr.mono hg (by assumption) | exact Arr.left (by assumption) | exact Arr.left (Arr.mono hg (by assumption))) (by decide) (by first | omega | (simp; done) | (simp; omega) | decide) (fun p26 cs26 hp26 hr26 => ?_)
      obtain ⟨v26, rfl, ha26⟩ := hr26
      obtain ⟨a26, c26, rfl⟩ := ha26.shape
      refine O.op (.p rfl) (.loadAt FactWire11.flat23 rfl hp26 rfl) ?_
      refine O.op (.p rfl) (.len rfl Go.Proofs.Tryz.underlying23 rfl) ?_
      refine O.op (.p rfl) (.add rfl rfl (IntWalk.i64_in _ (by omega))) ?_
      refine O.op (.p rfl) (.as rfl) ?_
      refine O.nil ?_
      refine S.inBlock (S.region rfl ?_)
      refine O.op (.p rfl) (.mv rfl) ?_
      refine O.op (.p rfl) (.add rfl rfl (IntWalk.i64_in _ (by omega))) ?_
      refine O.op (.p rfl) (.as rfl) ?_
      refine O.nil ?_
      refine S.weaken ?_ (ih (i + 1) (c + rows[i].length) (by omega) (by omega))
      repeat (first | exact Sub.nil | refine Sub.cons rfl ?_)
    · refine S.exit rfl ?_
      refine S.seq (S.seq (S.region rfl ?_))
      refine O.op (.p rfl) (.mv rfl) ?_
      refine O.op (.p rfl) (.gtr rfl rfl) ?_
      refine O.slot 31 (v' := .bool true) rfl (congrArg Value.bool (by simp; omega)) ?_
      refine O.nil ?_
      refine S.condT rfl ?_
      refine S.seq (S.region rfl ?_)
      refine O.call0 (.p rfl) rfl FactWire11.ok6 rfl rfl (awake_c) ?_
      rintro v32 _ ⟨rfl, rfl⟩
      try simp only [List.cons_append, List.nil_append, List.append_nil]
      refine O.op (.p rfl) (.as rfl) ?_
      refine O.nil ?_
      refine S.ret Go.Proofs.Tryz.results3 rfl fun w hw => hR _ _ w ?_ hw
      exact ⟨rfl, rfl⟩
  · have hi : i = rows.length := by omega
    subst hi
    rw [List.take_length] at hc
    clear ih
    refine O.opN rfl rfl rfl ?_
    refine O.opN rfl rfl rfl ?_
    refine O.op (.p rfl) (.pickF rfl rfl) ?_
    refine O.nil ?_
    refine S.condF rfl ?_
    refine S.exit rfl ?_
    refine S.seq (S.seq (S.region rfl ?_))
    refine O.op (.p rfl) (.mv rfl) ?_
    refine O.op (.p rfl) (.gtr rfl rfl) ?_
    refine O.nil ?_
    first | refine S.condD rfl (fun h31 => ?_) (fun h31 => ?_) | refine S.condB rfl (fun h31 => ?_) (fun h31 => ?_)
    · refine S.seq (S.region rfl ?_)
      refine O.call0 (.p rfl) rfl FactWire11.ok6 rfl rfl (awake_c) ?_
      rintro v32 _ ⟨rfl, rfl⟩
      try simp only [List.cons_append, List.nil_append, List.append_nil]
      refine O.op (.p rfl) (.as rfl) ?_
      refine O.nil ?_
      refine S.ret Go.Proofs.Tryz.results3 rfl fun w hw => hR _ _ w ?_ hw
      exact ⟨rfl, rfl⟩
    · have hc3 : c ≤ 20000 := by omega
      have hq1 := flat_mem rows 20000 (by omega)
      have hq2 : ∀ x ∈ rows, x.length ≤ 100000000000000 := fun x hx => by have := hq1 x hx; omega
      refine S.skip (S.seq (S.region rfl ?_))
      refine O.op (.p rfl) (.mv rfl) ?_
      refine O.call0 (.p rfl) rfl FactWire11.ok7 rfl rfl ((LentRows_c (by first | assumption | exact Arr.mono hg (by assumption) | exact Arr.left (by assumption) | exact Arr.left (Arr.mono hg (by assumption))) hq2 (by omega))) ?_
      rintro v34 _ ⟨a34, c34, vs, us, hvl, hul, hroom, rfl, rfl⟩
      try simp only [List.cons_append, List.nil_append, List.append_nil]
      refine O.op (.p rfl) (.as rfl) ?_
      refine O.nil ?_
      refine S.seq (S.region rfl ?_)
      refine O.op (.p rfl) (.mv rfl) ?_
      refine O.frz (A := OwnP Rp.val 23 (.slice a34 (rows.length + 12) c34) (vs ++ us)) (by repeat (first | exact Sel.here | apply Sel.there)) fun g1 hs1 hme1 ⟨m1, ho1, hsm1⟩ => ?_
      refine O.frz (A := EachP (LentP 5) vs rows) (by repeat (first | exact Sel.here | apply Sel.there)) fun g2 hs2 hme2 ⟨m2, ho2, hsm2⟩ => ?_
      refine O.frz (A := EachP ArrW us (rowMarks 12)) (by repeat (first | exact Sel.here | apply Sel.there)) fun g hs3 hme3 ⟨m3, ho3, hsm3⟩ => ?_
      replace hg := Fr.sub_trans hg (Fr.sub_trans hs1 (Fr.sub_trans hs2 hs3))
      replace hR := melted (melted (melted hR hme1) hme2) hme3
      replace hm1 := meltTrans (meltTrans (meltTrans hm1 hme1) hme2) hme3
      replace hr := hr.mono (Fr.sub_trans hs1 (Fr.sub_trans hs2 hs3))
      have hin : Arr Rp.val g.h (.slice a34 (rows.length + 12) c34) (vs ++ us) := ho1.arr.mono (Fr.sub_trans hsm1 (Fr.sub_trans hs2 hs3))
      have hvs : AllL g.h vs rows := EachP.all2 (fun _ _ _ x s => x.lentA.mono s) ho2 (Fr.sub_trans hsm2 hs3)
      have hus : AllA g.h us (rowMarks 12) := EachP.all2 (fun _ _ _ (x : Arr Rp.u8 _ _ _) s => x.mono s) ho3 hsm3
      have hinc : Arr Rp.val g.h (.slice a34 rows.length c34) vs := Arr.cut (ys := us) hvl.symm (by rw [hvl, hul]; exact hin)
      have hjoin : Arr (Rp.slice Rp.u8) g.h (.slice a34 rows.length c34) rows := hinc.rows (All2.imp (fun _ _ x => x.arr) hvs)
      refine O.call0 (.p rfl) rfl FactWire11.ok8 rfl rfl ((wNumber_c n)) ?_
      rintro v36 _ ⟨a36, c36, rfl, rfl⟩
      try simp only [List.cons_append, List.nil_append, List.append_nil]
      refine O.op (.p rfl) (.mv rfl) ?_
      refine O.call0 (.p rfl) rfl FactWire11.ok8 rfl rfl ((wNumber_c n)) ?_
      rintro v38 _ ⟨a38, c38, rfl, rfl⟩
      try simp only [List.cons_append, List.nil_append, List.append_nil]
      refine O.op (.p rfl) (.mv rfl) ?_
      refine O.call0 (.p rfl) rfl FactWire11.ok9 rfl rfl ((wJoin_c hjoin (by omega))) ?_
      rintro v40 _ ⟨a40, c40, rfl, rfl⟩
      try simp only [List.cons_append, List.nil_append, List.append_nil]
      refine O.op (.p rfl) (.mv rfl) ?_
      refine O.call0 (.p rfl) rfl FactWire11.ok9 rfl rfl ((wJoin_c hjoin (by omega))) ?_
      rintro v42 _ ⟨a42, c42, rfl, rfl⟩
      try simp only [List.cons_append, List.nil_append, List.append_nil]
      refine O.opE (.p rfl) (.litP (T := Rp.val) (ys := [_, _, _, _]) Go.Proofs.Tryz.underlying22 FactWire11.elem23 (by decide) rfl rfl ⟨⟨rfl, rfl⟩, ⟨rfl, rfl⟩, ⟨rfl, rfl⟩, ⟨rfl, rfl⟩, trivial⟩ (by decide)) ?_
      rintro _ _ ⟨a43, c43, rfl, rfl⟩
      refine O.op (.p rfl) (.as rfl) ?_
      refine O.nil ?_
      refine S.seq (S.seq ?_)
      refine S.each0 (OwnP Rp.u8 5) ?_
      refine S.each (A := OwnP Rp.u8 5) (b := .slice a36 8 c36) (a := be n) (by repeat (first | exact Sel.here | apply Sel.there)) (by repeat (first | exact Sel.here | apply Sel.there)) ?_
      refine S.each (A := OwnP Rp.u8 5) (b := .slice a38 8 c38) (a := be n) (by repeat (first | exact Sel.here | apply Sel.there)) (by repeat (first | exact Sel.here | apply Sel.there)) ?_
      refine S.each (A := OwnP Rp.u8 5) (b := .slice a40 rows.flatten.length c40) (a := rows.flatten) (by repeat (first | exact Sel.here | apply Sel.there)) (by repeat (first | exact Sel.here | apply Sel.there)) ?_
      refine S.each (A := OwnP Rp.u8 5) (b := .slice a42 rows.flatten.length c42) (a := rows.flatten) (by repeat (first | exact Sel.here | apply Sel.there)) (by repeat (first | exact Sel.here | apply Sel.there)) ?_
      simp only [List.nil_append, List.cons_append]
      refine S.frzT (B := OwnP Rp.val 23 (.slice a43 4 c43) [.slice a36 8 c36, .slice a38 8 c38, .slice a40 rows.flatten.length c40, .slice a42 rows.flatten.length c42]) (by repeat (first | exact Sel.here | apply Sel.there)) fun g1 hs1 ⟨m1, hm1', hsm1⟩ th1 => ?_
      refine S.frzT (B := RowsP Rp.u8 5 [.slice a36 8 c36, .slice a38 8 c38, .slice a40 rows.flatten.length c40, .slice a42 rows.flatten.length c42] [be n, be n, rows.flatten, rows.flatten]) (by repeat (first | exact Sel.here | apply Sel.there)) fun g2 hs2 ⟨m2, hm2', hsm2⟩ th2 => ?_
      have hout : Arr Rp.val g2.h (.slice a43 4 c43) [.slice a36 8 c36, .slice a38 8 c38, .slice a40 rows.flatten.length c40, .slice a42 rows.flatten.length c42] := hm1'.arr.mono (Fr.sub_trans hsm1 hs2)
      have hrows2 : All2 (Arr Rp.u8 g2.h) [.slice a36 8 c36, .slice a38 8 c38, .slice a40 rows.flatten.length c40, .slice a42 rows.flatten.length c42] [be n, be n, rows.flatten, rows.flatten] := EachP.all2 (fun _ _ _ x s => x.arr.mono s) hm2' hsm2
      have hr2 := hr.mono (Fr.sub_trans hs1 hs2)
      refine S.regionD (L := [0, 1, 2, 3, 4, 5, 6, 7, 8, 9, 10, 11, 12, 13, 14, 15]) FactWire11.mixed (by kernel_rfl) ?_
      refine .quiet (.p rfl) rfl (fun _ => .mv rfl) ?_
      refine OD.idx' (.p rfl) Go.Proofs.Tryz.underlying22 FactWire11.size23 rfl rfl rfl (hout) (by decide) (by first | omega | (simp; done) | (simp; omega) | decide) (fun p45 cs45 hp45 hr45 => ?_)
      obtain ⟨rfl, _⟩ := hr45
      refine .quiet (.p rfl) rfl (fun _ => .loadAt FactWire11.flat23 rfl hp45 rfl) ?_
      refine OD.slot 46 (v' := .slice a36 8 c36) rfl (by rfl) ?_
      refine .quiet (.p rfl) rfl (fun _ => .mv rfl) ?_
      refine OD.call0 (.p rfl) (by kernel_rfl) rfl FactWire11.ok11 rfl rfl ((refNumber_c n)) ?_
      rintro v48 _ ⟨a48, c48, rfl, rfl⟩
      try simp only [List.cons_append, List.nil_append, List.append_nil]
      refine OD.callSs (.p rfl) (by kernel_rfl) rfl FactWire11.ok10 rfl rfl (by repeat (first | exact Sels.nil | (apply Sels.cons; focus (repeat (first | exact Sel.here | apply Sel.there))))) (SameBytes_o hrows2.1) ?_
      rintro v49 _ ⟨rfl, rfl⟩
      try simp only [List.cons_append, List.nil_append, List.append_nil]
      refine OD.slot 49 (v' := .bool true) rfl (congrArg Value.bool (by first | decide | simp)) ?_
      refine .quiet (.p rfl) rfl (fun _ => .not rfl) ?_
      refine .quiet (.p rfl) rfl (fun _ => .mv rfl) ?_
      refine .quiet (.g rfl rfl) rfl (fun _ => .mv rfl) ?_
      refine OD.idx' (.g rfl rfl) Go.Proofs.Tryz.underlying22 FactWire11.size23 rfl rfl rfl (hout) (by decide) (by first | omega | (simp; done) | (simp; omega) | decide) (fun p53 cs53 hp53 hr53 => ?_)
      obtain ⟨rfl, _⟩ := hr53
      refine .quiet (.g rfl rfl) rfl (fun _ => .loadAt FactWire11.flat23 rfl hp53 rfl) ?_
      refine OD.slot 54 (v' := .slice a40 rows.flatten.length c40) rfl (by rfl) ?_
      refine .quiet (.g rfl rfl) rfl (fun _ => .mv rfl) ?_
      refine OD.call0 (.g rfl rfl) (by kernel_rfl) rfl FactWire11.ok12 rfl rfl ((refJoin_c hr2 (by omega))) ?_
      rintro v56 _ ⟨a56, c56, rfl, rfl⟩
      try simp only [List.cons_append, List.nil_append, List.append_nil]
      refine OD.callSs (.g rfl rfl) (by kernel_rfl) rfl FactWire11.ok10 rfl rfl (by repeat (first | exact Sels.nil | (apply Sels.cons; focus (repeat (first | exact Sel.here | apply Sel.there))))) (SameBytes_o hrows2.2.2.1) ?_
      rintro v57 _ ⟨rfl, rfl⟩
      try simp only [List.cons_append, List.nil_append, List.append_nil]
      refine OD.slot 57 (v' := .bool true) rfl (congrArg Value.bool (by first | decide | simp)) ?_
      refine .quiet (.g rfl rfl) rfl (fun _ => .not rfl) ?_
      refine .quiet (.p rfl) rfl (fun _ => .pickF rfl rfl) ?_
      refine .nil ?_
      refine S.condF rfl ?_
      refine S.skip (S.seq (S.seq ?_))
      refine th2 (th1 ?_)
      refine S.region rfl ?_
      refine O.op (.p rfl) (.as rfl) ?_
      refine O.nil ?_
      refine S.block ?_
      clear hr2 hout hrows2
      refine S.loopK4 (ι := Nat) (κ := Option Addr) (υ := Nat) (τ := List Value × List (List UInt8)) (fun i a8 c8 p => i ≤ rows.length ∧ p.1.length = 4 + 3 * i ∧ p.2.length = 4 + 3 * i ∧ (∀ x ∈ p.2, x.length ≤ 100000000)) (fun i a8 c8 p => [(9, .int .i64 (i : Int)), (8, .slice a8 (4 + 3 * i) c8)]) [(1, _), (7, _)] (fun i a8 c8 p => [OwnP Rp.val 23 (.slice a8 (4 + 3 * i) c8) p.1, RowsP Rp.u8 5 p.1 p.2]) (fun i a8 c8 p => rows.length - i) (0) (a43) (c43) (([.slice a36 8 c36, .slice a38 8 c38, .slice a40 rows.flatten.length c40, .slice a42 rows.flatten.length c42], [be n, be n, rows.flatten, rows.flatten])) (by exact ⟨by simp, rfl, rfl, out_start n (by omega)⟩) (.cons rfl (.cons rfl (.nil))) (.cons rfl (.cons rfl (.nil))) rfl fun i a8 c8 p hx ih => ?_
      have hm2 := meltRefl (g := g)
      obtain ⟨hx1, hw1, hw2, hw3⟩ := hx
      obtain ⟨ws, ws2⟩ := p
      dsimp only at hw1 hw2 hw3 ⊢
      refine S.seq (S.seq (S.region rfl ?_))
      refine O.op (.p rfl) (.mv rfl) ?_
      refine O.op (.p rfl) (.mv rfl) ?_
      refine O.op (.p rfl) (.len rfl Go.Proofs.Tryz.underlying22 rfl) ?_
      refine O.op (.p rfl) (.lss rfl rfl) ?_
      refine O.nil ?_
      first | refine S.condD rfl (fun h63 => ?_) (fun h63 => ?_) | refine S.condB rfl (fun h63 => ?_) (fun h63 => ?_)
      · have hi : i < rows.length := by omega
        have hrow := hq1 rows[i] (List.getElem_mem hi)
        obtain ⟨al, cl, hral, hvi, hAl⟩ := All2.get hvs i (by omega) hi
        have hAi : Arr Rp.u8 g.h (.slice al rows[i].length cl) rows[i] := Arr.cut (ys := marks1 12) rfl (by simpa using hAl)
        refine S.skip (S.seq (S.block (S.seq (S.region rfl ?_))))
        refine O.op (.p rfl) (.mv rfl) ?_
        refine O.op (.p rfl) (.mv rfl) ?_
        refine O.idx' (.p rfl) Go.Proofs.Tryz.underlying22 FactWire11.size23 rfl rfl rfl (hinc) (by decide) (by first | omega | (simp; done) | (simp; omega) | decide) (fun p68 cs68 hp68 hr68 => ?_)
        obtain ⟨rfl, _⟩ := hr68
        refine O.op (.p rfl) (.loadAt FactWire11.flat23 rfl hp68 rfl) ?_
        refine O.slot 69 (v' := .slice al rows[i].length cl) rfl (by exact hvi) ?_
        refine O.call0 (.p rfl) rfl FactWire11.ok13 rfl rfl ((wBytes_c hAi (by omega))) ?_
        rintro v70 _ ⟨a70, c70, rfl, rfl⟩
        try simp only [List.cons_append, List.nil_append, List.append_nil]
        refine O.op (.p rfl) (.as rfl) ?_
        refine O.nil ?_
        refine S.seq (S.seq (S.region rfl ?_))
        refine O.op (.p rfl) (.mv rfl) ?_
        refine O.op (.p rfl) (.mv rfl) ?_
        refine O.op (.p rfl) (.mv rfl) ?_
        refine O.idx' (.p rfl) Go.Proofs.Tryz.underlying22 FactWire11.size23 rfl rfl rfl (by first | assumption | exact Arr.mono hg (by assumption) | exact Arr.left (by assumption) | exact Arr.left (Arr.mono hg (by assumption))) (by decide) (by first | omega | (simp; done) | (simp; omega) | decide) (fun p74 cs74 hp74 hr74 => ?_)
        obtain ⟨v74, rfl, ha74⟩ := hr74
        obtain ⟨a74, c74, rfl⟩ := ha74.shape
        refine O.op (.p rfl) (.loadAt FactWire11.flat23 rfl hp74 rfl) ?_
        refine O.call0 (.p rfl) rfl FactWire11.ok14 rfl rfl ((refBytes_c (by first | assumption | exact Arr.mono hg (by assumption) | exact Arr.left (by assumption) | exact Arr.left (Arr.mono hg (by assumption))) (by omega))) ?_
        rintro v76 _ ⟨a76, c76, rfl, rfl⟩
        try simp only [List.cons_append, List.nil_append, List.append_nil]
        refine O.callB (.p rfl) rfl FactWire11.ok10 rfl rfl (bs := [OwnP Rp.u8 5 (.slice a70 (bytesOf rows[i]).length c70) (bytesOf rows[i]), OwnP Rp.u8 5 (.slice a76 (bytesOf rows[i]).length c76) (bytesOf rows[i])]) (by repeat (first | exact Sels.nil | (apply Sels.cons; focus (repeat (first | exact Sel.here | apply Sel.there))))) (fun m hm hd => SameBytes_c (hm.arr.right hd) (hm.tail.arr.right hd)) ?_
        rintro v77 _ ⟨rfl, rfl⟩
        try simp only [List.cons_append, List.nil_append, List.append_nil]
        refine O.slot 77 (v' := .bool true) rfl (congrArg Value.bool (by first | decide | simp)) ?_
        refine O.op (.p rfl) (.not rfl) ?_
        refine O.nil ?_
        refine S.condF rfl ?_
        refine S.skip (S.regionD (L := [0, 1, 2, 3, 4, 5, 7, 8, 9, 10, 6, 11, 12, 13, 14, 15]) FactWire11.mixed (by kernel_rfl) ?_)
        refine .quiet (.p rfl) rfl (fun _ => .mv rfl) ?_
        refine .quiet (.p rfl) rfl (fun _ => .mv rfl) ?_
        refine .quiet (.p rfl) rfl (fun _ => .mv rfl) ?_
        refine .quiet (.p rfl) rfl (fun _ => .mv rfl) ?_
        refine OD.idx' (.p rfl) Go.Proofs.Tryz.underlying22 FactWire11.size23 rfl rfl rfl (hinc) (by decide) (by first | omega | (simp; done) | (simp; omega) | decide) (fun p83 cs83 hp83 hr83 => ?_)
        obtain ⟨rfl, _⟩ := hr83
        refine .quiet (.p rfl) rfl (fun _ => .loadAt FactWire11.flat23 rfl hp83 rfl) ?_
        refine OD.slot 84 (v' := .slice al rows[i].length cl) rfl (by exact hvi) ?_
        refine .quiet (.p rfl) rfl (fun _ => .mv rfl) ?_
        refine .quiet (.p rfl) rfl (fun _ => .mv rfl) ?_
        refine OD.idx' (.p rfl) Go.Proofs.Tryz.underlying22 FactWire11.size23 rfl rfl rfl (hinc) (by decide) (by first | omega | (simp; done) | (simp; omega) | decide) (fun p88 cs88 hp88 hr88 => ?_)
        obtain ⟨rfl, _⟩ := hr88
        refine .quiet (.p rfl) rfl (fun _ => .loadAt FactWire11.flat23 rfl hp88 rfl) ?_
        refine OD.slot 89 (v' := .slice al rows[i].length cl) rfl (by exact hvi) ?_
        refine OD.alt2 6 11 [11, 12, 13, 14, 15] [6, 12, 13, 14, 15] (by kernel_rfl) rfl rfl ?_ ?_
        · refine ODt.call0 (.p rfl) (by kernel_rfl) rfl FactWire11.ok13 rfl rfl ((wBytes_c hAi (by omega))) ?_
          rintro v85 _ ⟨a85, c85, rfl, rfl⟩
          try simp only [List.cons_append, List.nil_append, List.append_nil]
          refine OD.litP (T := Rp.val) (ys := [_]) (.p rfl) (by kernel_rfl) Go.Proofs.Tryz.underlying22 FactWire11.elem23 (by decide) rfl rfl ⟨⟨rfl, rfl⟩, trivial⟩ (by decide) (fun a90 c90 => ?_)
          refine OD.callSs (.p rfl) (by kernel_rfl) rfl FactWire11.ok9 rfl rfl (by repeat (first | exact Sels.nil | (apply Sels.cons; focus (repeat (first | exact Sel.here | apply Sel.there))))) (wJoin_1 hAi (by omega)) ?_
          rintro v91 _ ⟨a91, c91, rfl, rfl⟩
          try simp only [List.cons_append, List.nil_append, List.append_nil]
          refine OD.litP (T := Rp.val) (ys := [_, _, _]) (.p rfl) (by kernel_rfl) Go.Proofs.Tryz.underlying22 FactWire11.elem23 (by decide) rfl rfl ⟨⟨rfl, rfl⟩, ⟨rfl, rfl⟩, ⟨rfl, rfl⟩, trivial⟩ (by decide) (fun a92 c92 => ?_)
          refine OD.appendO (.p rfl) (by kernel_rfl) (T := Rp.val) Go.Proofs.Tryz.underlying22 FactWire11.elem23 (by decide) rfl rfl (by repeat (first | exact Sel.here | apply Sel.there)) (by repeat (first | exact Sel.here | apply Sel.there)) (by first | omega | (simp; done) | (simp; omega) | decide) (by first | omega | (simp; done) | (simp; omega) | decide) (fun a93 c93 => ?_)
          refine .quiet (.p rfl) rfl (fun _ => .as rfl) ?_
          refine .nil ?_
          refine S.inBlock (S.region rfl ?_)
          refine O.op (.p rfl) (.mv rfl) ?_
          refine O.op (.p rfl) (.add rfl rfl (IntWalk.i64_in _ (by omega))) ?_
          refine O.op (.p rfl) (.as rfl) ?_
          refine O.nil ?_
          refine S.each (A := OwnP Rp.u8 5) (bs := ws) (b := .slice a70 (bytesOf rows[i]).length c70) (a := bytesOf rows[i]) (by repeat (first | exact Sel.here | apply Sel.there)) (by repeat (first | exact Sel.here | apply Sel.there)) ?_
          refine S.each (A := OwnP Rp.u8 5) (bs := ws ++ [_]) (b := .slice a85 (bytesOf rows[i]).length c85) (a := bytesOf rows[i]) (by repeat (first | exact Sel.here | apply Sel.there)) (by repeat (first | exact Sel.here | apply Sel.there)) ?_
          refine S.each (A := OwnP Rp.u8 5) (bs := ws ++ [_] ++ [_]) (b := .slice a91 rows[i].length c91) (a := rows[i]) (by repeat (first | exact Sel.here | apply Sel.there)) (by repeat (first | exact Sel.here | apply Sel.there)) ?_
          simp only [List.append_assoc, List.cons_append, List.nil_append, hw1]
          refine S.pk ?_ (S.weaken ?_ (ih (i + 1) (a93) (c93) ((ws ++ [.slice a70 (bytesOf rows[i]).length c70, .slice a85 (bytesOf rows[i]).length c85, .slice a91 rows[i].length c91], ws2 ++ [bytesOf rows[i], bytesOf rows[i], rows[i]])) (by exact out_step hi hw1 hw2 hw3 hrow) (by omega)))
          · repeat (first | exact Picks.all | exact Picks.nil | (apply Picks.cons; focus (repeat (first | exact Sel.here | apply Sel.there))) | apply Picks.skip)
          repeat (first | exact Sub.nil | refine Sub.cons rfl ?_)
        · refine ODt.litP (T := Rp.val) (ys := [_]) (.p rfl) (by kernel_rfl) Go.Proofs.Tryz.underlying22 FactWire11.elem23 (by decide) rfl rfl ⟨⟨rfl, rfl⟩, trivial⟩ (by decide) (fun a90 c90 => ?_)
          refine OD.call0 (.p rfl) (by kernel_rfl) rfl FactWire11.ok13 rfl rfl ((wBytes_c hAi (by omega))) ?_
          rintro v85 _ ⟨a85, c85, rfl, rfl⟩
          try simp only [List.cons_append, List.nil_append, List.append_nil]
          refine OD.callSs (.p rfl) (by kernel_rfl) rfl FactWire11.ok9 rfl rfl (by repeat (first | exact Sels.nil | (apply Sels.cons; focus (repeat (first | exact Sel.here | apply Sel.there))))) (wJoin_1 hAi (by omega)) ?_
          rintro v91 _ ⟨a91, c91, rfl, rfl⟩
          try simp only [List.cons_append, List.nil_append, List.append_nil]
          refine OD.litP (T := Rp.val) (ys := [_, _, _]) (.p rfl) (by kernel_rfl) Go.Proofs.Tryz.underlying22 FactWire11.elem23 (by decide) rfl rfl ⟨⟨rfl, rfl⟩, ⟨rfl, rfl⟩, ⟨rfl, rfl⟩, trivial⟩ (by decide) (fun a92 c92 => ?_)
          refine OD.appendO (.p rfl) (by kernel_rfl) (T := Rp.val) Go.Proofs.Tryz.underlying22 FactWire11.elem23 (by decide) rfl rfl (by repeat (first | exact Sel.here | apply Sel.there)) (by repeat (first | exact Sel.here | apply Sel.there)) (by first | omega | (simp; done) | (simp; omega) | decide) (by first | omega | (simp; done) | (simp; omega) | decide) (fun a93 c93 => ?_)
          refine .quiet (.p rfl) rfl (fun _ => .as rfl) ?_
          refine .nil ?_
          refine S.inBlock (S.region rfl ?_)
          refine O.op (.p rfl) (.mv rfl) ?_
          refine O.op (.p rfl) (.add rfl rfl (IntWalk.i64_in _ (by omega))) ?_
          refine O.op (.p rfl) (.as rfl) ?_
          refine O.nil ?_
          refine S.each (A := OwnP Rp.u8 5) (bs := ws) (b := .slice a70 (bytesOf rows[i]).length c70) (a := bytesOf rows[i]) (by repeat (first | exact Sel.here | apply Sel.there)) (by repeat (first | exact Sel.here | apply Sel.there)) ?_
          refine S.each (A := OwnP Rp.u8 5) (bs := ws ++ [_]) (b := .slice a85 (bytesOf rows[i]).length c85) (a := bytesOf rows[i]) (by repeat (first | exact Sel.here | apply Sel.there)) (by repeat (first | exact Sel.here | apply Sel.there)) ?_
          refine S.each (A := OwnP Rp.u8 5) (bs := ws ++ [_] ++ [_]) (b := .slice a91 rows[i].length c91) (a := rows[i]) (by repeat (first | exact Sel.here | apply Sel.there)) (by repeat (first | exact Sel.here | apply Sel.there)) ?_
          simp only [List.append_assoc, List.cons_append, List.nil_append, hw1]
          refine S.pk ?_ (S.weaken ?_ (ih (i + 1) (a93) (c93) ((ws ++ [.slice a70 (bytesOf rows[i]).length c70, .slice a85 (bytesOf rows[i]).length c85, .slice a91 rows[i].length c91], ws2 ++ [bytesOf rows[i], bytesOf rows[i], rows[i]])) (by exact out_step hi hw1 hw2 hw3 hrow) (by omega)))
          · repeat (first | exact Picks.all | exact Picks.nil | (apply Picks.cons; focus (repeat (first | exact Sel.here | apply Sel.there))) | apply Picks.skip)
          repeat (first | exact Sub.nil | refine Sub.cons rfl ?_)
      · clear ih
        have hi : i = rows.length := by omega
        subst hi
        refine S.frzA (by repeat (first | exact Sel.here | apply Sel.there)) fun g hs hm hout => ?_
        replace hg := Fr.sub_trans hg hs
        replace hR := melted hR hm
        try replace hr := hr.mono hs
        try replace hp45 := hp45.mono hs
        try replace hp53 := hp53.mono hs
        try replace hin := hin.mono hs
        try replace hvs := hvs.mono hs
        try replace hus := hus.mono hs
        try replace hinc := hinc.mono hs
        try replace hjoin := hjoin.mono hs
        replace hm1 := meltTrans hm1 hm
        replace hm2 := meltTrans hm2 hm
        clear hs hm
        refine S.factS (by repeat (first | exact Sel.here | apply Sel.there)) (fun _ (x : EachP (OwnP Rp.u8 5) ws ws2 _) => EachP.len x) fun hwl => ?_
        refine S.exit rfl ?_
        refine S.seq (S.region rfl ?_)
        refine O.op (.p rfl) (.mv rfl) ?_
        refine O.op (.p rfl) (.mv rfl) ?_
        refine O.call0 (.p rfl) rfl FactWire11.ok15 rfl rfl ((KeptRows_c hin hvs hus hr hq2 (by omega))) ?_
        rintro v96 _ ⟨rfl, rfl⟩
        try simp only [List.cons_append, List.nil_append, List.append_nil]
        refine O.slot 96 (v' := .bool true) rfl (congrArg Value.bool (by first | decide | simp)) ?_
        refine O.op (.p rfl) (.mv rfl) ?_
        refine O.op (.g rfl rfl) (.mv rfl) ?_
        refine O.callSs (.g rfl rfl) rfl FactWire11.ok16 rfl rfl (by repeat (first | exact Sels.nil | (apply Sels.cons; focus (repeat (first | exact Sel.here | apply Sel.there))))) (ApartBytes_c hout hw3 (by omega)) ?_
        rintro v99 _ ⟨rfl, rfl⟩
        try simp only [List.cons_append, List.nil_append, List.append_nil]
        refine O.slot 99 (v' := .bool true) rfl (congrArg Value.bool (by first | decide | simp)) ?_
        refine O.op (.p rfl) (.pickT rfl rfl) ?_
        refine O.op (.p rfl) (.mv rfl) ?_
        refine O.op (.g rfl rfl) (.mv rfl) ?_
        refine O.op (.g rfl rfl) (.mv rfl) ?_
        refine O.call0 (.g rfl rfl) rfl FactWire11.ok15 rfl rfl ((KeptRows_c hin hvs hus hr hq2 (by omega))) ?_
        rintro v104 _ ⟨rfl, rfl⟩
        try simp only [List.cons_append, List.nil_append, List.append_nil]
        refine O.slot 104 (v' := .bool true) rfl (congrArg Value.bool (by first | decide | simp)) ?_
        refine O.op (.p rfl) (.pickT rfl rfl) ?_
        refine O.op (.p rfl) (.mv rfl) ?_
        refine O.call0 (.g rfl rfl) rfl FactWire11.ok6 rfl rfl (awake_c) ?_
        rintro v107 _ ⟨rfl, rfl⟩
        try simp only [List.cons_append, List.nil_append, List.append_nil]
        refine O.slot 107 (v' := .bool true) rfl (congrArg Value.bool (by first | decide | simp)) ?_
        refine O.op (.p rfl) (.pickT rfl rfl) ?_
        refine O.op (.p rfl) (.as rfl) ?_
        refine O.nil ?_
        refine S.ret Go.Proofs.Tryz.results3 rfl fun w hw => Holds.end_ hR hw ?_
        exact ⟨_, ⟨rfl, rfl⟩, by repeat (first | exact Picks.all | exact Picks.nil | (apply Picks.cons; focus (repeat (first | exact Sel.here | apply Sel.there))) | apply Picks.skip)⟩

end Go.Proofs.YtodkpkmhnpmmgaaGreat
