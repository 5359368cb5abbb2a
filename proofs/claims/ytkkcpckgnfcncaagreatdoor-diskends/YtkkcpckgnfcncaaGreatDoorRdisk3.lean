import Derived.Test.YtkkcpckgnfcncaaGreatDoorRdisk2
open Go Go.Sp
set_option maxRecDepth 100000
attribute [local irreducible] obj Own OwnP
namespace Go.Proofs.YtkkcpckgnfcncaaGreatDoor
theorem FactRdisk3.elem142 : elemIs Go.Proofs.Tryz.prog 142 3 16 [.int .i64 0, .int .u8 0, .bool false] := elemIs.mk (by kernel_rfl) rfl
theorem FactRdisk3.elem9 : elemIs Go.Proofs.Tryz.prog 9 1 16 [.string ⟨#[]⟩] := elemIs.mk (by kernel_rfl) rfl
theorem FactRdisk3.flat100 : Go.Sp.flat1 Go.Proofs.Tryz.prog 100 = true := by kernel_rfl
theorem FactRdisk3.flat3 : Go.Sp.flat1 Go.Proofs.Tryz.prog 3 = true := by kernel_rfl
theorem FactRdisk3.flat36 : Go.Sp.flat1 Go.Proofs.Tryz.prog 36 = true := by kernel_rfl
theorem FactRdisk3.flat5 : Go.Sp.flat1 Go.Proofs.Tryz.prog 5 = true := by kernel_rfl
theorem FactRdisk3.fld102x0 : fieldOff Go.Proofs.Tryz.prog 102 0 = some 0 := by kernel_rfl
theorem FactRdisk3.fld102x1 : fieldOff Go.Proofs.Tryz.prog 102 1 = some 1 := by kernel_rfl
theorem FactRdisk3.fld102x2 : fieldOff Go.Proofs.Tryz.prog 102 2 = some 2 := by kernel_rfl
theorem FactRdisk3.fld142x0 : fieldOff Go.Proofs.Tryz.prog 142 0 = some 0 := by kernel_rfl
theorem FactRdisk3.mixed : Go.Proofs.Tryz.prog.follows .mixedOrders = true := by kernel_rfl
theorem FactRdisk3.ok90 : callable Go.Proofs.Tryz.prog 90 = true := by kernel_rfl
theorem FactRdisk3.ok91 : callable Go.Proofs.Tryz.prog 91 = true := by kernel_rfl
theorem FactRdisk3.ok92 : callable Go.Proofs.Tryz.prog 92 = true := by kernel_rfl
theorem FactRdisk3.ok93 : callable Go.Proofs.Tryz.prog 93 = true := by kernel_rfl
theorem FactRdisk3.ok94 : callable Go.Proofs.Tryz.prog 94 = true := by kernel_rfl
theorem FactRdisk3.size142 : (Go.Proofs.Tryz.prog.info? 142).map (·.size) = some 3 := by kernel_rfl
theorem FactRdisk3.size5 : (Go.Proofs.Tryz.prog.info? 5).map (·.size) = some 1 := by kernel_rfl
theorem FactRdisk3.size9 : (Go.Proofs.Tryz.prog.info? 9).map (·.size) = some 1 := by kernel_rfl

def goneL (o : Int) (l : List CellM) : List CellM := l.filter fun x => x.1 != o
theorem goneL_snoc (o : Int) (l : List CellM) (x : CellM) : goneL o (l ++ [x]) = goneL o l ++ if x.1 = o then [] else [x] := by
  unfold goneL; rw [List.filter_append]
  by_cases h : x.1 = o <;> simp [h]
theorem goneL_le (o : Int) (l : List CellM) : (goneL o l).length ≤ l.length := List.length_filter_le ..
theorem gone_rc {r : Fr} {d : Nat} {m : RefM} {s : RefS} {on : Nat} {o : Int} (hl : m.cells.length ≤ 1000000000) (ho : o = (on : Int)) (hon : on < m.names.length) :
    Con Go.Proofs.Tryz.prog 94 #[.pointer (some ⟨d, 0, none⟩), .int .i64 o] r (refL d m s) (Ret fun v η => ∃ s', v = .tuple #[] ∧ η = refL d ⟨m.names.set on [], goneL o m.cells, m.room⟩ s') := by
  unfold refL refO
  try simp only
  refine Con.of (n := 45) [.pointer (some ⟨d, 0, none⟩), .int .i64 o] rfl Go.Proofs.Tryz.func94 rfl rfl rfl fun g hg R hR => ?_
  obtain ⟨names, cells, room⟩ := m
  simp only at hl hon ⊢
  refine S.pk (ζ := [OwnP (Rp.cells 3) 142 (.slice s.2.1 cells.length s.2.2) (cells.map encC), obj d 102 [.slice s.1.1 names.length s.1.2, .slice s.2.1 cells.length s.2.2, .int .i64 room], OwnP Rp.str 9 (.slice s.1.1 names.length s.1.2) names]) (by repeat (first | exact Picks.all | exact Picks.nil | (apply Picks.cons; focus (repeat (first | exact Sel.here | apply Sel.there))) | apply Picks.skip)) ?_
  refine S.frzA (by repeat (first | exact Sel.here | apply Sel.there)) fun g hs hm hc => ?_
  replace hg := Fr.sub_trans hg hs
  replace hR := melted hR hm
  clear hs hm
  refine S.addNil (T := Rp.cells 3) (e := 142) ?_
  refine S.seq (S.region rfl ?_)
  refine O.op (.p rfl) (.as rfl) ?_
  refine O.nil ?_
  refine S.seq (S.seq (S.region rfl ?_))
  refine O.op (.p rfl) (.as rfl) ?_
  refine O.nil ?_
  refine S.block ?_
  refine S.loopK2 (ι := Nat) (κ := Option Addr × Nat) (fun i q => i ≤ cells.length) (fun i q => [(5, .int .i64 (i : Int)), (4, .slice q.1 (goneL o (cells.take i)).length q.2)]) [(0, _), (1, _)] (fun i q => [OwnP (Rp.cells 3) 142 (.slice q.1 (goneL o (cells.take i)).length q.2) ((goneL o (cells.take i)).map encC), obj d 102 [.slice s.1.1 names.length s.1.2, .slice s.2.1 cells.length s.2.2, .int .i64 room], OwnP Rp.str 9 (.slice s.1.1 names.length s.1.2) names]) (fun i q => cells.length - i) (0) ((none, 0)) (by exact Nat.zero_le _) (.cons rfl (.cons rfl (.nil))) (.cons rfl (.cons rfl (.nil))) rfl fun i q hx ih => ?_
  have hm1 := meltRefl (g := g)
  have hla := goneL_le o (cells.take i)
  have htl : (cells.take i).length ≤ cells.length := List.length_take_le' ..
  have hml : ((goneL o (cells.take i)).map encC).length = (goneL o (cells.take i)).length := List.length_map ..
  refine S.seq (S.seq (S.region rfl ?_))
  refine O.op (.p rfl) (.mv rfl) ?_
  refine O.op (.p rfl) (.mv rfl) ?_
  refine O.op (.p rfl) (.nilCheck rfl) ?_
  refine O.op (.p rfl) (.fieldObj FactRdisk3.fld102x1 rfl) ?_
  refine O.op (.p rfl) (.loadObj FactRdisk3.flat100 rfl (by repeat (first | exact Sel.here | apply Sel.there)) rfl) ?_
  refine O.op (.p rfl) (.len rfl Go.Proofs.Tryz.underlying100 rfl) ?_
  refine O.op (.p rfl) (.lss rfl rfl) ?_
  refine O.nil ?_
  first | refine S.condD rfl (fun h12 => ?_) (fun h12 => ?_) | refine S.condB rfl (fun h12 => ?_) (fun h12 => ?_)
  · have hi : i < cells.length := by omega
    have ht : cells.take (i + 1) = cells.take i ++ [cells[i]] := List.take_succ_eq_append_getElem hi
    have e1 := goneL_snoc o (cells.take i) cells[i]
    rw [← ht] at e1
    by_cases hq : cells[i].1 = o
    ·
      rw [if_pos hq, List.append_nil] at e1
      refine S.skip (S.seq (S.block (S.seq (S.region rfl ?_))))
      refine O.op (.p rfl) (.mv rfl) ?_
      refine O.op (.p rfl) (.nilCheck rfl) ?_
      refine O.op (.p rfl) (.fieldObj FactRdisk3.fld102x1 rfl) ?_
      refine O.op (.p rfl) (.loadObj FactRdisk3.flat100 rfl (by repeat (first | exact Sel.here | apply Sel.there)) rfl) ?_
      refine O.op (.p rfl) (.mv rfl) ?_
      refine O.idx' (.p rfl) Go.Proofs.Tryz.underlying100 FactRdisk3.size142 rfl rfl rfl (hc) (by decide) (by first | omega | (simp; done) | (simp; omega) | decide) (fun p20 cs20 hp20 hr20 => ?_)
      obtain ⟨rfl, _, _⟩ := hr20
      rw [List.getElem_map] at hp20
      simp only [encC] at hp20
      refine O.op (.p rfl) (.fieldAddr FactRdisk3.fld142x0 rfl) ?_
      refine O.op (.p rfl) (.loadAt FactRdisk3.flat3 rfl hp20 rfl) ?_
      refine O.op (.p rfl) (.mv rfl) ?_
      refine O.op (.p rfl) (.neq rfl rfl) ?_
      refine O.slot 24 (v' := .bool false) rfl (congrArg Value.bool (by simp [hq])) ?_
      refine O.nil ?_
      refine S.condF rfl ?_
      refine S.skip (S.inBlock (S.region rfl ?_))
      refine O.op (.p rfl) (.mv rfl) ?_
      refine O.op (.p rfl) (.add rfl rfl (IntWalk.i64_in _ (by omega))) ?_
      refine O.op (.p rfl) (.as rfl) ?_
      refine O.nil ?_
      rw [← e1]
      refine S.pk ?_ (S.weaken ?_ (ih (i + 1) (q) (by exact hi) (by omega)))
      · repeat (first | exact Picks.all | exact Picks.nil | (apply Picks.cons; focus (repeat (first | exact Sel.here | apply Sel.there))) | apply Picks.skip)
      repeat (first | exact Sub.nil | refine Sub.cons rfl ?_)
    ·
      rw [if_neg hq] at e1
      refine S.skip (S.seq (S.block (S.seq (S.region rfl ?_))))
      refine O.op (.p rfl) (.mv rfl) ?_
      refine O.op (.p rfl) (.nilCheck rfl) ?_
      refine O.op (.p rfl) (.fieldObj FactRdisk3.fld102x1 rfl) ?_
      refine O.op (.p rfl) (.loadObj FactRdisk3.flat100 rfl (by repeat (first | exact Sel.here | apply Sel.there)) rfl) ?_
      refine O.op (.p rfl) (.mv rfl) ?_
      refine O.idx' (.p rfl) Go.Proofs.Tryz.underlying100 FactRdisk3.size142 rfl rfl rfl (hc) (by decide) (by first | omega | (simp; done) | (simp; omega) | decide) (fun p20 cs20 hp20 hr20 => ?_)
      obtain ⟨rfl, _, _⟩ := hr20
      rw [List.getElem_map] at hp20
      simp only [encC] at hp20
      refine O.op (.p rfl) (.fieldAddr FactRdisk3.fld142x0 rfl) ?_
      refine O.op (.p rfl) (.loadAt FactRdisk3.flat3 rfl hp20 rfl) ?_
      refine O.op (.p rfl) (.mv rfl) ?_
      refine O.op (.p rfl) (.neq rfl rfl) ?_
      refine O.slot 24 (v' := .bool true) rfl (congrArg Value.bool (by simp [hq])) ?_
      refine O.nil ?_
      refine S.condT rfl ?_
      refine S.region rfl ?_
      refine O.op (.p rfl) (.mv rfl) ?_
      refine O.op (.p rfl) (.mv rfl) ?_
      refine O.op (.p rfl) (.nilCheck rfl) ?_
      refine O.op (.p rfl) (.fieldObj FactRdisk3.fld102x1 rfl) ?_
      refine O.op (.p rfl) (.loadObj FactRdisk3.flat100 rfl (by repeat (first | exact Sel.here | apply Sel.there)) rfl) ?_
      refine O.op (.p rfl) (.mv rfl) ?_
      refine O.idx' (.p rfl) Go.Proofs.Tryz.underlying100 FactRdisk3.size142 rfl rfl rfl (hc) (by decide) (by first | omega | (simp; done) | (simp; omega) | decide) (fun p31 cs31 hp31 hr31 => ?_)
      obtain ⟨rfl, _, _⟩ := hr31
      rw [List.getElem_map] at hp31
      simp only [encC] at hp31
      refine O.op (.p rfl) (.loadAgg Go.Proofs.Tryz.isAgg142 (by kernel_rfl) rfl hp31) ?_
      refine O.opE (.p rfl) (.litP (T := (Rp.cells 3)) (ys := [_]) Go.Proofs.Tryz.underlying100 FactRdisk3.elem142 (by decide) rfl rfl ⟨⟨rfl, rfl, by first | (simp; done) | (intro v hv; simp [Value.cells] at hv; rcases hv with rfl | rfl <;> rfl) | (refine List.forall_mem_cons.2 ⟨rfl, ?_⟩; repeat (first | exact (fun _ h => absurd h List.not_mem_nil) | refine List.forall_mem_cons.2 ⟨rfl, ?_⟩))⟩, trivial⟩ (by decide)) ?_
      rintro _ _ ⟨a33, c33, rfl, rfl⟩
      refine O.opE (.p rfl) (.appendO (T := (Rp.cells 3)) Go.Proofs.Tryz.underlying100 FactRdisk3.elem142 (by decide) rfl rfl (by repeat (first | exact Sel.here | apply Sel.there)) (by repeat (first | exact Sel.here | apply Sel.there)) (by first | omega | (simp; done) | (simp; omega) | decide) (by first | omega | (simp; done) | (simp; omega) | decide)) ?_
      rintro _ _ ⟨a34, c34, rfl, rfl⟩
      refine O.op (.p rfl) (.as rfl) ?_
      refine O.nil ?_
      refine S.inBlock (S.region rfl ?_)
      refine O.op (.p rfl) (.mv rfl) ?_
      refine O.op (.p rfl) (.add rfl rfl (IntWalk.i64_in _ (by omega))) ?_
      refine O.op (.p rfl) (.as rfl) ?_
      refine O.nil ?_
      refine S.ownIs (T := Rp.cells 3) (v' := .slice a34 (goneL o (cells.take (i + 1))).length c34) (xs' := (goneL o (cells.take (i + 1))).map encC) (by repeat (first | exact Sel.here | apply Sel.there)) (by rw [e1]; simp) (by rw [e1, List.map_append]; rfl) ?_
      refine S.slot 4 (v' := .slice a34 (goneL o (cells.take (i + 1))).length c34) rfl (by rw [e1]; simp) ?_
      refine S.pk ?_ (S.weaken ?_ (ih (i + 1) ((a34, c34)) (by exact hi) (by omega)))
      · repeat (first | exact Picks.all | exact Picks.nil | (apply Picks.cons; focus (repeat (first | exact Sel.here | apply Sel.there))) | apply Picks.skip)
      repeat (first | exact Sub.nil | refine Sub.cons rfl ?_)
  · clear ih
    have hi : i = cells.length := by omega
    subst hi
    rw [List.take_length]
    refine S.exit rfl ?_
    refine S.seq (S.region rfl ?_)
    refine O.op (.p rfl) (.mv rfl) ?_
    refine O.op (.p rfl) (.mv rfl) ?_
    refine O.op (.p rfl) (.nilCheck rfl) ?_
    refine O.op (.p rfl) (.fieldObj FactRdisk3.fld102x1 rfl) ?_
    refine O.opU rfl (.store1 FactRdisk3.flat100 rfl rfl (by first | rfl | assumption) (by repeat (first | exact Sel.here | apply Sel.there)) (by first | (simp; done) | (simp [Value.cells]; done))) ?_
    refine O.nil ?_
    refine S.region rfl ?_
    refine O.op (.p rfl) (.mv rfl) ?_
    refine O.op (.p rfl) (.nilCheck rfl) ?_
    refine O.op (.p rfl) (.fieldObj FactRdisk3.fld102x0 rfl) ?_
    refine O.op (.p rfl) (.loadObj FactRdisk3.flat36 rfl (by repeat (first | exact Sel.here | apply Sel.there)) rfl) ?_
    refine O.op (.p rfl) (.mv rfl) ?_
    refine O.opE (.p rfl) (.idxOwn (T := Rp.str) Go.Proofs.Tryz.underlying36 FactRdisk3.size9 rfl rfl (show _ = (((on) : Nat) : Int) by omega) (by repeat (first | exact Sel.here | apply Sel.there)) (by first | omega | (simp; done) | (simp; omega))) ?_
    rintro _ _ ⟨p44, rfl, hp44, rfl⟩
    refine O.opU rfl (.storeOwn FactRdisk3.size9 rfl hp44 rfl (by repeat (first | exact Sel.here | apply Sel.there)) (by first | omega | (simp; done) | (simp; omega)) (⟨rfl, by first | omega | (simp; done) | (simp; omega)⟩ : Rp.rel Rp.str _ _ ([]))) ?_
    refine O.nil ?_
    refine S.ownIs (T := Rp.str) (v' := .slice s.1.1 (names.set on []).length s.1.2) (xs' := names.set on []) (by repeat (first | exact Sel.here | apply Sel.there)) (by simp) rfl ?_
    refine S.objIs (b := d) (cs' := [.slice s.1.1 (names.set on []).length s.1.2, .slice q.1 (goneL o cells).length q.2, .int .i64 room]) (by repeat (first | exact Sel.here | apply Sel.there)) (by simp) ?_
    refine S.end0 Go.Proofs.Tryz.results94 fun w hw => Holds.end_ hR hw ?_
    exact ⟨_, ⟨(s.1, q), rfl, rfl⟩, by repeat (first | exact Picks.all | exact Picks.nil | (apply Picks.cons; focus (repeat (first | exact Sel.here | apply Sel.there))) | apply Picks.skip)⟩
/-- what Append tells, and leaves -/
def rAppE (m : RefM) (n b : List UInt8) : Int := if nameOk n then (if m.room < (m.cells.length : Int) + b.length then 8 else 0) else 2
def rOwn (m : RefM) (n : List UInt8) : Int := if ownR n m.names 0 < 0 then (m.names.length : Int) else ownR n m.names 0
def rNames (m : RefM) (n : List UInt8) : List (List UInt8) := if ownR n m.names 0 < 0 then m.names ++ [n] else m.names
def rApp (m : RefM) (n b : List UInt8) : RefM := ⟨rNames m n, m.cells ++ b.map (fun c => (rOwn m n, c, false)), m.room⟩
def rAppM (m : RefM) (n b : List UInt8) : RefM := if rAppE m n b = 0 then rApp m n b else m
theorem refAppend_c {r : Fr} {d : Nat} {m : RefM} {s : RefS} {n b : List UInt8} {vb : Value} (hl : m.cells.length ≤ 1000000000) (hnl : m.names.length ≤ 1000000000) (hb : Arr Rp.u8 r vb b) (hbl : b.length ≤ 1000000000) (hn : n.length ≤ 9223372036854775807) :
    Con Go.Proofs.Tryz.prog 49 #[.pointer (some ⟨d, 0, none⟩), .string (str n), vb] r (refL d m s) (Ret fun v η => ∃ s', v = .int .i64 (rAppE m n b) ∧ η = refL d (rAppM m n b) s') := by
  refine Con.of (n := 66) [.pointer (some ⟨d, 0, none⟩), .string (str n), vb] rfl Go.Proofs.Tryz.func49 rfl rfl rfl fun g hg R hR => ?_
  have hb := hb.mono hg
  obtain ⟨ab, cb, rfl⟩ := hb.shape
  unfold refL refO
  try simp only
  refine S.seq (S.region rfl ?_)
  refine O.op (.p rfl) (.as rfl) ?_
  refine O.nil ?_
  refine S.seq (S.seq (S.region rfl ?_))
  refine O.op (.p rfl) (.mv rfl) ?_
  refine O.call0 (.p rfl) rfl FactRdisk3.ok93 rfl rfl ((refNamed_c hn)) ?_
  rintro v10 _ ⟨rfl, rfl⟩
  try simp only [List.cons_append, List.nil_append, List.append_nil]
  refine O.op (.p rfl) ((by first | exact .notD rfl | exact .not rfl)) ?_
  refine O.nil ?_
  first | refine S.condD rfl (fun h11 => ?_) (fun h11 => ?_) | refine S.condB rfl (fun h11 => ?_) (fun h11 => ?_)
  · have hno : nameOk n = false := by unfold nameOk; exact decide_eq_false h11
    have e : rAppE m n b = 2 := by simp [rAppE, hno]
    have e2 : rAppM m n b = m := by simp [rAppM, e]
    rw [e, e2] at hR
    refine S.seq (S.region rfl ?_)
    refine O.op (.p rfl) (.as rfl) ?_
    refine O.nil ?_
    refine S.ret Go.Proofs.Tryz.results49 rfl fun w hw => Holds.end_ hR hw ?_
    exact ⟨_, ⟨s, rfl, rfl⟩, by repeat (first | exact Picks.all | exact Picks.nil | (apply Picks.cons; focus (repeat (first | exact Sel.here | apply Sel.there))) | apply Picks.skip)⟩
  · have hyes : nameOk n = true := by unfold nameOk; exact decide_eq_true (Classical.not_not.1 h11)
    refine S.skip (S.seq (S.seq ?_))
    refine S.frzT (B := obj d 102 [.slice s.1.1 m.names.length s.1.2, .slice s.2.1 m.cells.length s.2.2, .int .i64 m.room]) (by repeat (first | exact Sel.here | apply Sel.there)) fun g1 hs1 ⟨m1, hm1', hsm1⟩ th1 => ?_
    have hz0 := (obj_at hm1').mono hsm1
    refine S.regionD (L := [0, 1, 2, 3, 4, 5, 6, 7, 8, 9, 10, 11, 12]) FactRdisk3.mixed (by kernel_rfl) ?_
    refine .quiet (.p rfl) rfl (fun _ => .mv rfl) ?_
    refine .quiet (.p rfl) rfl (fun _ => .nilCheck rfl) ?_
    refine .quiet (.p rfl) rfl (fun _ => .fieldAddr FactRdisk3.fld102x1 rfl) ?_
    refine .quiet (.p rfl) rfl (fun _ => .loadAt FactRdisk3.flat100 rfl (hz0.drop 1) rfl) ?_
    refine .quiet (.p rfl) rfl (fun _ => .len rfl Go.Proofs.Tryz.underlying100 rfl) ?_
    refine .quiet (.p rfl) rfl (fun _ => .mv rfl) ?_
    refine .quiet (.p rfl) rfl (fun _ => .len rfl Go.Proofs.Tryz.underlying22 rfl) ?_
    refine .quiet (.p rfl) rfl (fun _ => .add rfl rfl (IntWalk.i64_in _ (by omega))) ?_
    refine .quiet (.p rfl) rfl (fun _ => .mv rfl) ?_
    refine .quiet (.p rfl) rfl (fun _ => .nilCheck rfl) ?_
    refine .quiet (.p rfl) rfl (fun _ => .fieldAddr FactRdisk3.fld102x2 rfl) ?_
    refine .quiet (.p rfl) rfl (fun _ => .loadAt FactRdisk3.flat3 rfl (hz0.drop 2) rfl) ?_
    refine .quiet (.p rfl) rfl (fun _ => .gtr rfl rfl) ?_
    refine .nil ?_
    first | refine S.condD rfl (fun h24 => ?_) (fun h24 => ?_) | refine S.condB rfl (fun h24 => ?_) (fun h24 => ?_)
    · have e : rAppE m n b = 8 := by simp only [rAppE, hyes, if_true]; rw [if_pos (by omega)]
      have e2 : rAppM m n b = m := by simp [rAppM, e]
      rw [e, e2] at hR
      refine th1 ?_
      refine S.seq (S.region rfl ?_)
      refine O.op (.p rfl) (.as rfl) ?_
      refine O.nil ?_
      refine S.ret Go.Proofs.Tryz.results49 rfl fun w hw => Holds.end_ hR hw ?_
      exact ⟨_, ⟨s, rfl, rfl⟩, by repeat (first | exact Picks.all | exact Picks.nil | (apply Picks.cons; focus (repeat (first | exact Sel.here | apply Sel.there))) | apply Picks.skip)⟩
    · have e : rAppE m n b = 0 := by simp only [rAppE, hyes, if_true]; rw [if_neg (by omega)]
      have e2 : rAppM m n b = rApp m n b := by simp [rAppM, e]
      rw [e, e2] at hR
      refine th1 ?_
      refine S.pk (ζ := refL d m s) (by repeat (first | exact Picks.all | exact Picks.nil | (apply Picks.cons; focus (repeat (first | exact Sel.here | apply Sel.there))) | apply Picks.skip)) ?_
      refine S.skip (S.seq ?_)
      refine S.region rfl ?_
      refine O.op (.p rfl) (.mv rfl) ?_
      refine O.op (.p rfl) (.mv rfl) ?_
      refine O.callSs (.p rfl) rfl FactRdisk3.ok90 rfl rfl (by repeat (first | exact Sels.nil | (apply Sels.cons; focus (repeat (first | exact Sel.here | apply Sel.there))))) owner_w ?_
      rintro v27 _ ⟨rfl, rfl⟩
      try simp only [List.cons_append, List.nil_append, List.append_nil]
      unfold refL refO
      try simp only
      refine O.op (.p rfl) (.as rfl) ?_
      refine O.nil ?_
      refine S.seq (S.seq (S.region rfl ?_))
      refine O.op (.p rfl) (.mv rfl) ?_
      refine O.op (.p rfl) (.lss rfl rfl) ?_
      refine O.nil ?_
      first | refine S.condD rfl (fun h29 => ?_) (fun h29 => ?_) | refine S.condB rfl (fun h29 => ?_) (fun h29 => ?_)
      · have hro : rOwn m n = (m.names.length : Int) := if_pos h29
        have hrn : rNames m n = m.names ++ [n] := if_pos h29
        refine S.seq (S.region rfl ?_)
        refine O.op (.p rfl) (.mv rfl) ?_
        refine O.op (.p rfl) (.nilCheck rfl) ?_
        refine O.op (.p rfl) (.fieldObj FactRdisk3.fld102x0 rfl) ?_
        refine O.op (.p rfl) (.loadObj FactRdisk3.flat36 rfl (by repeat (first | exact Sel.here | apply Sel.there)) rfl) ?_
        refine O.op (.p rfl) (.len rfl Go.Proofs.Tryz.underlying36 rfl) ?_
        refine O.op (.p rfl) (.as rfl) ?_
        refine O.nil ?_
        refine S.region rfl ?_
        refine O.op (.p rfl) (.mv rfl) ?_
        refine O.op (.p rfl) (.mv rfl) ?_
        refine O.op (.p rfl) (.nilCheck rfl) ?_
        refine O.op (.p rfl) (.fieldObj FactRdisk3.fld102x0 rfl) ?_
        refine O.op (.p rfl) (.loadObj FactRdisk3.flat36 rfl (by repeat (first | exact Sel.here | apply Sel.there)) rfl) ?_
        refine O.op (.p rfl) (.mv rfl) ?_
        refine O.opE (.p rfl) (.litP (T := Rp.str) (ys := [_]) Go.Proofs.Tryz.underlying36 FactRdisk3.elem9 (by decide) rfl rfl ⟨⟨rfl, by first | omega | (simp; done) | (simp; omega) | decide⟩, trivial⟩ (by decide)) ?_
        rintro _ _ ⟨a41, c41, rfl, rfl⟩
        refine O.opE (.p rfl) (.appendO (T := Rp.str) Go.Proofs.Tryz.underlying36 FactRdisk3.elem9 (by decide) rfl rfl (by repeat (first | exact Sel.here | apply Sel.there)) (by repeat (first | exact Sel.here | apply Sel.there)) (by first | omega | (simp; done) | (simp; omega) | decide) (by first | omega | (simp; done) | (simp; omega) | decide)) ?_
        rintro _ _ ⟨a42, c42, rfl, rfl⟩
        refine O.op (.p rfl) (.nilCheck rfl) ?_
        refine O.op (.p rfl) (.fieldObj FactRdisk3.fld102x0 rfl) ?_
        refine O.opU rfl (.store1 FactRdisk3.flat36 rfl rfl (by first | rfl | assumption) (by repeat (first | exact Sel.here | apply Sel.there)) (by first | (simp; done) | (simp [Value.cells]; done))) ?_
        refine O.nil ?_
        refine S.seq (S.seq (S.region rfl ?_))
        refine O.op (.p rfl) (.as rfl) ?_
        refine O.nil ?_
        refine S.block ?_
        refine S.ownIs (T := Rp.str) (v' := .slice a42 (m.names ++ [n]).length c42) (xs' := m.names ++ [n]) (by repeat (first | exact Sel.here | apply Sel.there)) (by simp) rfl ?_
        refine S.objIs (b := d) (cs' := [.slice a42 (m.names ++ [n]).length c42, .slice s.2.1 m.cells.length s.2.2, .int .i64 m.room]) (by repeat (first | exact Sel.here | apply Sel.there)) (by simp) ?_
        refine S.ownIs (T := Rp.cells 3) (v' := .slice s.2.1 (m.cells ++ (b.take 0).map (fun c => ((m.names.length : Int), c, false))).length s.2.2) (xs' := (m.cells ++ (b.take 0).map (fun c => ((m.names.length : Int), c, false))).map encC) (by repeat (first | exact Sel.here | apply Sel.there)) (by simp) (by simp) ?_
        refine S.objIs (b := d) (cs' := [.slice a42 (m.names ++ [n]).length c42, .slice s.2.1 (m.cells ++ (b.take 0).map (fun c => ((m.names.length : Int), c, false))).length s.2.2, .int .i64 m.room]) (by repeat (first | exact Sel.here | apply Sel.there)) (by simp) ?_
        refine S.pk (ζ := [OwnP (Rp.cells 3) 142 (.slice s.2.1 (m.cells ++ (b.take 0).map (fun c => ((m.names.length : Int), c, false))).length s.2.2) ((m.cells ++ (b.take 0).map (fun c => ((m.names.length : Int), c, false))).map encC), obj d 102 [.slice a42 (m.names ++ [n]).length c42, .slice s.2.1 (m.cells ++ (b.take 0).map (fun c => ((m.names.length : Int), c, false))).length s.2.2, .int .i64 m.room], OwnP Rp.str 9 (.slice a42 (m.names ++ [n]).length c42) (m.names ++ [n])]) (by repeat (first | exact Picks.all | exact Picks.nil | (apply Picks.cons; focus (repeat (first | exact Sel.here | apply Sel.there))) | apply Picks.skip)) ?_
        refine S.loopK2 (ι := Nat) (κ := Option Addr × Nat) (fun i q => i ≤ b.length) (fun i q => [(8, .int .i64 (i : Int))]) [(0, _), (2, _), (7, _)] (fun i q => [OwnP (Rp.cells 3) 142 (.slice q.1 (m.cells ++ (b.take i).map (fun c => ((m.names.length : Int), c, false))).length q.2) ((m.cells ++ (b.take i).map (fun c => ((m.names.length : Int), c, false))).map encC), obj d 102 [.slice a42 (m.names ++ [n]).length c42, .slice q.1 (m.cells ++ (b.take i).map (fun c => ((m.names.length : Int), c, false))).length q.2, .int .i64 m.room], OwnP Rp.str 9 (.slice a42 (m.names ++ [n]).length c42) (m.names ++ [n])]) (fun i q => b.length - i) (0) (s.2) (by exact Nat.zero_le _) (.cons rfl (.nil)) (.cons rfl (.cons rfl (.cons rfl (.nil)))) rfl fun i q hx ih => ?_
        have hm1 := meltRefl (g := g)
        have hml : (m.cells ++ (b.take i).map (fun c => ((m.names.length : Int), c, false))).length ≤ m.cells.length + b.length := by rw [List.length_append, List.length_map]; have := List.length_take_le i b; have := List.length_take_le' i b; omega
        have hmm : ((m.cells ++ (b.take i).map (fun c => ((m.names.length : Int), c, false))).map encC).length = (m.cells ++ (b.take i).map (fun c => ((m.names.length : Int), c, false))).length := List.length_map ..
        refine S.seq (S.seq (S.region rfl ?_))
        refine O.op (.p rfl) (.mv rfl) ?_
        refine O.op (.p rfl) (.mv rfl) ?_
        refine O.op (.p rfl) (.len rfl Go.Proofs.Tryz.underlying22 rfl) ?_
        refine O.op (.p rfl) (.lss rfl rfl) ?_
        refine O.nil ?_
        first | refine S.condD rfl (fun h48 => ?_) (fun h48 => ?_) | refine S.condB rfl (fun h48 => ?_) (fun h48 => ?_)
        · have hi : i < b.length := by omega
          have ht : m.cells ++ (b.take (i + 1)).map (fun c => ((m.names.length : Int), c, false)) = m.cells ++ (b.take i).map (fun c => ((m.names.length : Int), c, false)) ++ [((m.names.length : Int), b[i], false)] := by rw [List.take_succ_eq_append_getElem hi, List.map_append, List.append_assoc]; rfl
          refine S.skip (S.seq (S.block ?_))
          have hb_S := hb
          refine S.frzH (B := obj d 102 [.slice a42 (m.names ++ [n]).length c42, .slice q.1 (m.cells ++ (b.take i).map (fun c => ((m.names.length : Int), c, false))).length q.2, .int .i64 m.room]) (by repeat (first | exact Sel.here | apply Sel.there)) fun g0 hs0 ⟨m0, hm0, hsm0⟩ th0 => ?_
          have hz0 := (obj_at hm0).mono hsm0
          replace hb := hb.mono hs0
          refine S.regionD (L := [0, 1, 2, 3, 4, 5, 6, 7, 8, 9, 10, 11, 12, 13, 14, 15]) FactRdisk3.mixed (by kernel_rfl) ?_
          refine .quiet (.p rfl) rfl (fun _ => .mv rfl) ?_
          refine .quiet (.p rfl) rfl (fun _ => .mv rfl) ?_
          refine .quiet (.p rfl) rfl (fun _ => .nilCheck rfl) ?_
          refine .quiet (.p rfl) rfl (fun _ => .fieldAddr FactRdisk3.fld102x1 rfl) ?_
          refine .quiet (.p rfl) rfl (fun _ => .loadAt FactRdisk3.flat100 rfl (hz0.drop 1) rfl) ?_
          refine .quiet (.p rfl) rfl (fun _ => .mv rfl) ?_
          refine .quiet (.p rfl) rfl (fun _ => .mv rfl) ?_
          refine .quiet (.p rfl) rfl (fun _ => .mv rfl) ?_
          refine OD.idx' (.p rfl) Go.Proofs.Tryz.underlying22 FactRdisk3.size5 rfl rfl rfl (by first | assumption | exact Arr.mono hg (by assumption) | exact Arr.left (by assumption) | exact Arr.left (Arr.mono hg (by assumption))) (by decide) (by first | omega | (simp; done) | (simp; omega) | decide) (fun p59 cs59 hp59 hr59 => ?_)
          cases hr59
          refine .quiet (.p rfl) rfl (fun _ => .loadAt FactRdisk3.flat5 rfl hp59 rfl) ?_
          refine .quiet (.p rfl) rfl (fun _ => .build (cs := [_, _, _]) Go.Proofs.Tryz.underlying142 rfl rfl rfl rfl rfl) ?_
          refine OD.litP (T := (Rp.cells 3)) (ys := [_]) (.p rfl) (by kernel_rfl) Go.Proofs.Tryz.underlying100 FactRdisk3.elem142 (by decide) rfl rfl ⟨⟨rfl, rfl, by first | (simp; done) | (intro v hv; simp [Value.cells] at hv; rcases hv with rfl | rfl <;> rfl) | (refine List.forall_mem_cons.2 ⟨rfl, ?_⟩; repeat (first | exact (fun _ h => absurd h List.not_mem_nil) | refine List.forall_mem_cons.2 ⟨rfl, ?_⟩))⟩, trivial⟩ (by decide) (fun a62 c62 => ?_)
          refine OD.appendO (.p rfl) (by kernel_rfl) (T := (Rp.cells 3)) Go.Proofs.Tryz.underlying100 FactRdisk3.elem142 (by decide) rfl rfl (by repeat (first | exact Sel.here | apply Sel.there)) (by repeat (first | exact Sel.here | apply Sel.there)) (by first | omega | (simp; done) | (simp; omega) | decide) (by first | omega | (simp; done) | (simp; omega) | decide) (fun a63 c63 => ?_)
          refine .quiet (.p rfl) rfl (fun _ => .nilCheck rfl) ?_
          refine .quiet (.p rfl) rfl (fun _ => .fieldAddr FactRdisk3.fld102x1 rfl) ?_
          refine OD.last1 rfl (by kernel_rfl) (fun _ hw => th0 hw) FactRdisk3.flat100 rfl rfl (by first | rfl | assumption) (by repeat (first | exact Sel.here | apply Sel.there)) (by first | (simp; done) | (simp; omega)) ?_
          replace hb := hb_S
          refine S.inBlock (S.region rfl ?_)
          refine O.op (.p rfl) (.mv rfl) ?_
          refine O.op (.p rfl) (.add rfl rfl (IntWalk.i64_in _ (by omega))) ?_
          refine O.op (.p rfl) (.as rfl) ?_
          refine O.nil ?_
          refine S.ownIs (T := Rp.cells 3) (v' := .slice a63 (m.cells ++ (b.take (i + 1)).map (fun c => ((m.names.length : Int), c, false))).length c63) (xs' := (m.cells ++ (b.take (i + 1)).map (fun c => ((m.names.length : Int), c, false))).map encC) (by repeat (first | exact Sel.here | apply Sel.there)) (by rw [ht, hmm]; simp <;> omega) (by rw [ht]; simp only [List.map_append, List.map_cons, List.map_nil]; rfl) ?_
          refine S.objIs (b := d) (cs' := [.slice a42 (m.names ++ [n]).length c42, .slice a63 (m.cells ++ (b.take (i + 1)).map (fun c => ((m.names.length : Int), c, false))).length c63, .int .i64 m.room]) (by repeat (first | exact Sel.here | apply Sel.there)) (by rw [ht, hmm]; simp <;> omega) ?_
          refine S.pk ?_ (S.weaken ?_ (ih (i + 1) ((a63, c63)) (by exact hi) (by omega)))
          · repeat (first | exact Picks.all | exact Picks.nil | (apply Picks.cons; focus (repeat (first | exact Sel.here | apply Sel.there))) | apply Picks.skip)
          repeat (first | exact Sub.nil | refine Sub.cons rfl ?_)
        · clear ih
          have hi : i = b.length := by omega
          subst hi
          rw [List.take_length]
          simp only [rApp, hro, hrn] at hR
          refine S.exit rfl ?_
          refine S.seq (S.region rfl ?_)
          refine O.op (.p rfl) (.as rfl) ?_
          refine O.nil ?_
          refine S.ret Go.Proofs.Tryz.results49 rfl fun w hw => Holds.end_ hR hw ?_
          exact ⟨_, ⟨((a42, c42), q), rfl, rfl⟩, by repeat (first | exact Picks.all | exact Picks.nil | (apply Picks.cons; focus (repeat (first | exact Sel.here | apply Sel.there))) | apply Picks.skip)⟩
      · have hro : rOwn m n = ownR n m.names 0 := if_neg h29
        have hrn : rNames m n = m.names := if_neg h29
        refine S.skip (S.seq (S.seq (S.region rfl ?_)))
        refine O.op (.p rfl) (.as rfl) ?_
        refine O.nil ?_
        refine S.block ?_
        refine S.ownIs (T := Rp.cells 3) (v' := .slice s.2.1 (m.cells ++ (b.take 0).map (fun c => (ownR n m.names 0, c, false))).length s.2.2) (xs' := (m.cells ++ (b.take 0).map (fun c => (ownR n m.names 0, c, false))).map encC) (by repeat (first | exact Sel.here | apply Sel.there)) (by simp) (by simp) ?_
        refine S.objIs (b := d) (cs' := [.slice s.1.1 (m.names).length s.1.2, .slice s.2.1 (m.cells ++ (b.take 0).map (fun c => (ownR n m.names 0, c, false))).length s.2.2, .int .i64 m.room]) (by repeat (first | exact Sel.here | apply Sel.there)) (by simp) ?_
        refine S.pk (ζ := [OwnP (Rp.cells 3) 142 (.slice s.2.1 (m.cells ++ (b.take 0).map (fun c => (ownR n m.names 0, c, false))).length s.2.2) ((m.cells ++ (b.take 0).map (fun c => (ownR n m.names 0, c, false))).map encC), obj d 102 [.slice s.1.1 (m.names).length s.1.2, .slice s.2.1 (m.cells ++ (b.take 0).map (fun c => (ownR n m.names 0, c, false))).length s.2.2, .int .i64 m.room], OwnP Rp.str 9 (.slice s.1.1 (m.names).length s.1.2) (m.names)]) (by repeat (first | exact Picks.all | exact Picks.nil | (apply Picks.cons; focus (repeat (first | exact Sel.here | apply Sel.there))) | apply Picks.skip)) ?_
        refine S.loopK2 (ι := Nat) (κ := Option Addr × Nat) (fun i q => i ≤ b.length) (fun i q => [(8, .int .i64 (i : Int))]) [(0, _), (2, _), (7, _)] (fun i q => [OwnP (Rp.cells 3) 142 (.slice q.1 (m.cells ++ (b.take i).map (fun c => (ownR n m.names 0, c, false))).length q.2) ((m.cells ++ (b.take i).map (fun c => (ownR n m.names 0, c, false))).map encC), obj d 102 [.slice s.1.1 (m.names).length s.1.2, .slice q.1 (m.cells ++ (b.take i).map (fun c => (ownR n m.names 0, c, false))).length q.2, .int .i64 m.room], OwnP Rp.str 9 (.slice s.1.1 (m.names).length s.1.2) (m.names)]) (fun i q => b.length - i) (0) (s.2) (by exact Nat.zero_le _) (.cons rfl (.nil)) (.cons rfl (.cons rfl (.cons rfl (.nil)))) rfl fun i q hx ih => ?_
        have hm1 := meltRefl (g := g)
        have hml : (m.cells ++ (b.take i).map (fun c => (ownR n m.names 0, c, false))).length ≤ m.cells.length + b.length := by rw [List.length_append, List.length_map]; have := List.length_take_le i b; have := List.length_take_le' i b; omega
        have hmm : ((m.cells ++ (b.take i).map (fun c => (ownR n m.names 0, c, false))).map encC).length = (m.cells ++ (b.take i).map (fun c => (ownR n m.names 0, c, false))).length := List.length_map ..
        refine S.seq (S.seq (S.region rfl ?_))
        refine O.op (.p rfl) (.mv rfl) ?_
        refine O.op (.p rfl) (.mv rfl) ?_
        refine O.op (.p rfl) (.len rfl Go.Proofs.Tryz.underlying22 rfl) ?_
        refine O.op (.p rfl) (.lss rfl rfl) ?_
        refine O.nil ?_
        first | refine S.condD rfl (fun h48 => ?_) (fun h48 => ?_) | refine S.condB rfl (fun h48 => ?_) (fun h48 => ?_)
        · have hi : i < b.length := by omega
          have ht : m.cells ++ (b.take (i + 1)).map (fun c => (ownR n m.names 0, c, false)) = m.cells ++ (b.take i).map (fun c => (ownR n m.names 0, c, false)) ++ [(ownR n m.names 0, b[i], false)] := by rw [List.take_succ_eq_append_getElem hi, List.map_append, List.append_assoc]; rfl
          refine S.skip (S.seq (S.block ?_))
          have hb_S := hb
          refine S.frzH (B := obj d 102 [.slice s.1.1 (m.names).length s.1.2, .slice q.1 (m.cells ++ (b.take i).map (fun c => (ownR n m.names 0, c, false))).length q.2, .int .i64 m.room]) (by repeat (first | exact Sel.here | apply Sel.there)) fun g0 hs0 ⟨m0, hm0, hsm0⟩ th0 => ?_
          have hz0 := (obj_at hm0).mono hsm0
          replace hb := hb.mono hs0
          refine S.regionD (L := [0, 1, 2, 3, 4, 5, 6, 7, 8, 9, 10, 11, 12, 13, 14, 15]) FactRdisk3.mixed (by kernel_rfl) ?_
          refine .quiet (.p rfl) rfl (fun _ => .mv rfl) ?_
          refine .quiet (.p rfl) rfl (fun _ => .mv rfl) ?_
          refine .quiet (.p rfl) rfl (fun _ => .nilCheck rfl) ?_
          refine .quiet (.p rfl) rfl (fun _ => .fieldAddr FactRdisk3.fld102x1 rfl) ?_
          refine .quiet (.p rfl) rfl (fun _ => .loadAt FactRdisk3.flat100 rfl (hz0.drop 1) rfl) ?_
          refine .quiet (.p rfl) rfl (fun _ => .mv rfl) ?_
          refine .quiet (.p rfl) rfl (fun _ => .mv rfl) ?_
          refine .quiet (.p rfl) rfl (fun _ => .mv rfl) ?_
          refine OD.idx' (.p rfl) Go.Proofs.Tryz.underlying22 FactRdisk3.size5 rfl rfl rfl (by first | assumption | exact Arr.mono hg (by assumption) | exact Arr.left (by assumption) | exact Arr.left (Arr.mono hg (by assumption))) (by decide) (by first | omega | (simp; done) | (simp; omega) | decide) (fun p59 cs59 hp59 hr59 => ?_)
          cases hr59
          refine .quiet (.p rfl) rfl (fun _ => .loadAt FactRdisk3.flat5 rfl hp59 rfl) ?_
          refine .quiet (.p rfl) rfl (fun _ => .build (cs := [_, _, _]) Go.Proofs.Tryz.underlying142 rfl rfl rfl rfl rfl) ?_
          refine OD.litP (T := (Rp.cells 3)) (ys := [_]) (.p rfl) (by kernel_rfl) Go.Proofs.Tryz.underlying100 FactRdisk3.elem142 (by decide) rfl rfl ⟨⟨rfl, rfl, by first | (simp; done) | (intro v hv; simp [Value.cells] at hv; rcases hv with rfl | rfl <;> rfl) | (refine List.forall_mem_cons.2 ⟨rfl, ?_⟩; repeat (first | exact (fun _ h => absurd h List.not_mem_nil) | refine List.forall_mem_cons.2 ⟨rfl, ?_⟩))⟩, trivial⟩ (by decide) (fun a62 c62 => ?_)
          refine OD.appendO (.p rfl) (by kernel_rfl) (T := (Rp.cells 3)) Go.Proofs.Tryz.underlying100 FactRdisk3.elem142 (by decide) rfl rfl (by repeat (first | exact Sel.here | apply Sel.there)) (by repeat (first | exact Sel.here | apply Sel.there)) (by first | omega | (simp; done) | (simp; omega) | decide) (by first | omega | (simp; done) | (simp; omega) | decide) (fun a63 c63 => ?_)
          refine .quiet (.p rfl) rfl (fun _ => .nilCheck rfl) ?_
          refine .quiet (.p rfl) rfl (fun _ => .fieldAddr FactRdisk3.fld102x1 rfl) ?_
          refine OD.last1 rfl (by kernel_rfl) (fun _ hw => th0 hw) FactRdisk3.flat100 rfl rfl (by first | rfl | assumption) (by repeat (first | exact Sel.here | apply Sel.there)) (by first | (simp; done) | (simp; omega)) ?_
          replace hb := hb_S
          refine S.inBlock (S.region rfl ?_)
          refine O.op (.p rfl) (.mv rfl) ?_
          refine O.op (.p rfl) (.add rfl rfl (IntWalk.i64_in _ (by omega))) ?_
          refine O.op (.p rfl) (.as rfl) ?_
          refine O.nil ?_
          refine S.ownIs (T := Rp.cells 3) (v' := .slice a63 (m.cells ++ (b.take (i + 1)).map (fun c => (ownR n m.names 0, c, false))).length c63) (xs' := (m.cells ++ (b.take (i + 1)).map (fun c => (ownR n m.names 0, c, false))).map encC) (by repeat (first | exact Sel.here | apply Sel.there)) (by rw [ht, hmm]; simp <;> omega) (by rw [ht]; simp only [List.map_append, List.map_cons, List.map_nil]; rfl) ?_
          refine S.objIs (b := d) (cs' := [.slice s.1.1 (m.names).length s.1.2, .slice a63 (m.cells ++ (b.take (i + 1)).map (fun c => (ownR n m.names 0, c, false))).length c63, .int .i64 m.room]) (by repeat (first | exact Sel.here | apply Sel.there)) (by rw [ht, hmm]; simp <;> omega) ?_
          refine S.pk ?_ (S.weaken ?_ (ih (i + 1) ((a63, c63)) (by exact hi) (by omega)))
          · repeat (first | exact Picks.all | exact Picks.nil | (apply Picks.cons; focus (repeat (first | exact Sel.here | apply Sel.there))) | apply Picks.skip)
          repeat (first | exact Sub.nil | refine Sub.cons rfl ?_)
        · clear ih
          have hi : i = b.length := by omega
          subst hi
          rw [List.take_length]
          simp only [rApp, hro, hrn] at hR
          refine S.exit rfl ?_
          refine S.seq (S.region rfl ?_)
          refine O.op (.p rfl) (.as rfl) ?_
          refine O.nil ?_
          refine S.ret Go.Proofs.Tryz.results49 rfl fun w hw => Holds.end_ hR hw ?_
          exact ⟨_, ⟨((s.1.1, s.1.2), q), rfl, rfl⟩, by repeat (first | exact Picks.all | exact Picks.nil | (apply Picks.cons; focus (repeat (first | exact Sel.here | apply Sel.there))) | apply Picks.skip)⟩
/-- what Sync tells, and leaves -/
def rHas (m : RefM) (n : List UInt8) : Bool := decide (0 ≤ ownR n m.names 0)
def rSyncE (m : RefM) (n : List UInt8) : Int := if ownR n m.names 0 < 0 then 6 else 0
def rSyncM (m : RefM) (n : List UInt8) : RefM := if ownR n m.names 0 < 0 then m else ⟨m.names, keepL (ownR n m.names 0) m.cells (cAll (ownR n m.names 0) m.cells : Int), m.room⟩
theorem refSync_c {r : Fr} {d : Nat} {m : RefM} {s : RefS} {n : List UInt8} (hl : m.cells.length ≤ 1000000000) :
    Con Go.Proofs.Tryz.prog 44 #[.pointer (some ⟨d, 0, none⟩), .string (str n)] r (refL d m s) (Ret fun v η => ∃ s', v = .int .i64 (rSyncE m n) ∧ η = refL d (rSyncM m n) s') := by
  refine Con.of (n := 23) [.pointer (some ⟨d, 0, none⟩), .string (str n)] rfl Go.Proofs.Tryz.func44 rfl rfl rfl fun g hg R hR => ?_
  have hca := cAll_le (ownR n m.names 0) m.cells
  unfold rSyncE rSyncM at hR
  refine S.seq (S.region rfl ?_)
  refine O.op (.p rfl) (.as rfl) ?_
  refine O.nil ?_
  refine S.seq (S.region rfl ?_)
  refine O.op (.p rfl) (.mv rfl) ?_
  refine O.op (.p rfl) (.mv rfl) ?_
  refine O.callSs (.p rfl) rfl FactRdisk3.ok90 rfl rfl (by repeat (first | exact Sels.nil | (apply Sels.cons; focus (repeat (first | exact Sel.here | apply Sel.there))))) owner_w ?_
  rintro v10 _ ⟨rfl, rfl⟩
  try simp only [List.cons_append, List.nil_append, List.append_nil]
  refine O.op (.p rfl) (.as rfl) ?_
  refine O.nil ?_
  refine S.seq (S.seq (S.region rfl ?_))
  refine O.op (.p rfl) (.mv rfl) ?_
  refine O.op (.p rfl) (.lss rfl rfl) ?_
  refine O.nil ?_
  first | refine S.condD rfl (fun h12 => ?_) (fun h12 => ?_) | refine S.condB rfl (fun h12 => ?_) (fun h12 => ?_)
  · simp only [if_pos h12] at hR
    refine S.seq (S.region rfl ?_)
    refine O.op (.p rfl) (.as rfl) ?_
    refine O.nil ?_
    refine S.ret Go.Proofs.Tryz.results44 rfl fun w hw => Holds.end_ hR hw ?_
    exact ⟨_, ⟨s, rfl, rfl⟩, by repeat (first | exact Picks.all | exact Picks.nil | (apply Picks.cons; focus (repeat (first | exact Sel.here | apply Sel.there))) | apply Picks.skip)⟩
  · simp only [if_neg h12] at hR
    refine S.skip (S.seq (S.region rfl ?_))
    refine O.op (.p rfl) (.mv rfl) ?_
    refine O.op (.p rfl) (.mv rfl) ?_
    refine O.callSs (.p rfl) rfl FactRdisk3.ok91 rfl rfl (by repeat (first | exact Sels.nil | (apply Sels.cons; focus (repeat (first | exact Sel.here | apply Sel.there))))) (count_w (by omega)) ?_
    rintro v16 _ ⟨rfl, rfl⟩
    try simp only [List.cons_append, List.nil_append, List.append_nil]
    refine O.op (.p rfl) (.mv rfl) ?_
    refine O.op (.p rfl) (.extract rfl rfl) ?_
    refine O.op (.p rfl) (.extract rfl rfl) ?_
    refine O.op (.p rfl) (.as rfl) ?_
    refine O.op (.p rfl) (.as rfl) ?_
    refine O.nil ?_
    refine S.seq (S.region rfl ?_)
    refine O.op (.p rfl) (.mv rfl) ?_
    refine O.op (.p rfl) (.mv rfl) ?_
    refine O.op (.p rfl) (.mv rfl) ?_
    refine O.callSs (.p rfl) rfl FactRdisk3.ok92 rfl rfl (by repeat (first | exact Sels.nil | (apply Sels.cons; focus (repeat (first | exact Sel.here | apply Sel.there))))) (keep_c (by omega) (by omega) (by omega)) ?_
    rintro v22 _ ⟨s2, rfl, rfl⟩
    try simp only [List.cons_append, List.nil_append, List.append_nil]
    refine O.nil ?_
    refine S.seq (S.region rfl ?_)
    refine O.op (.p rfl) (.as rfl) ?_
    refine O.nil ?_
    refine S.ret Go.Proofs.Tryz.results44 rfl fun w hw => Holds.end_ hR hw ?_
    exact ⟨_, ⟨s2, rfl, rfl⟩, by repeat (first | exact Picks.all | exact Picks.nil | (apply Picks.cons; focus (repeat (first | exact Sel.here | apply Sel.there))) | apply Picks.skip)⟩
def rCutE (m : RefM) (n : List UInt8) (z : Int) : Int := if ownR n m.names 0 < 0 then 6 else if z < 0 ∨ (cAll (ownR n m.names 0) m.cells : Int) < z then 2 else 0
def rCutM (m : RefM) (n : List UInt8) (z : Int) : RefM := if rCutE m n z = 0 then ⟨m.names, keepL (ownR n m.names 0) m.cells z, m.room⟩ else m
theorem refCut_c {r : Fr} {d : Nat} {m : RefM} {s : RefS} {n : List UInt8} {z : Int} (hl : m.cells.length ≤ 1000000000) :
    Con Go.Proofs.Tryz.prog 45 #[.pointer (some ⟨d, 0, none⟩), .string (str n), .int .i64 z] r (refL d m s) (Ret fun v η => ∃ s', v = .int .i64 (rCutE m n z) ∧ η = refL d (rCutM m n z) s') := by
  refine Con.of (n := 32) [.pointer (some ⟨d, 0, none⟩), .string (str n), .int .i64 z] rfl Go.Proofs.Tryz.func45 rfl rfl rfl fun g hg R hR => ?_
  have hca := cAll_le (ownR n m.names 0) m.cells
  refine S.seq (S.region rfl ?_)
  refine O.op (.p rfl) (.as rfl) ?_
  refine O.nil ?_
  refine S.seq (S.region rfl ?_)
  refine O.op (.p rfl) (.mv rfl) ?_
  refine O.op (.p rfl) (.mv rfl) ?_
  refine O.callSs (.p rfl) rfl FactRdisk3.ok90 rfl rfl (by repeat (first | exact Sels.nil | (apply Sels.cons; focus (repeat (first | exact Sel.here | apply Sel.there))))) owner_w ?_
  rintro v12 _ ⟨rfl, rfl⟩
  try simp only [List.cons_append, List.nil_append, List.append_nil]
  refine O.op (.p rfl) (.as rfl) ?_
  refine O.nil ?_
  refine S.seq (S.seq (S.region rfl ?_))
  refine O.op (.p rfl) (.mv rfl) ?_
  refine O.op (.p rfl) (.lss rfl rfl) ?_
  refine O.nil ?_
  first | refine S.condD rfl (fun h14 => ?_) (fun h14 => ?_) | refine S.condB rfl (fun h14 => ?_) (fun h14 => ?_)
  · have e : rCutE m n z = 6 := by unfold rCutE; rw [if_pos h14]
    have e2 : rCutM m n z = m := by unfold rCutM; rw [e]; rfl
    rw [e, e2] at hR
    refine S.seq (S.region rfl ?_)
    refine O.op (.p rfl) (.as rfl) ?_
    refine O.nil ?_
    refine S.ret Go.Proofs.Tryz.results45 rfl fun w hw => Holds.end_ hR hw ?_
    exact ⟨_, ⟨s, rfl, rfl⟩, by repeat (first | exact Picks.all | exact Picks.nil | (apply Picks.cons; focus (repeat (first | exact Sel.here | apply Sel.there))) | apply Picks.skip)⟩
  · refine S.skip (S.seq (S.region rfl ?_))
    refine O.op (.p rfl) (.mv rfl) ?_
    refine O.op (.p rfl) (.mv rfl) ?_
    refine O.callSs (.p rfl) rfl FactRdisk3.ok91 rfl rfl (by repeat (first | exact Sels.nil | (apply Sels.cons; focus (repeat (first | exact Sel.here | apply Sel.there))))) (count_w (by omega)) ?_
    rintro v18 _ ⟨rfl, rfl⟩
    try simp only [List.cons_append, List.nil_append, List.append_nil]
    refine O.op (.p rfl) (.mv rfl) ?_
    refine O.op (.p rfl) (.extract rfl rfl) ?_
    refine O.op (.p rfl) (.extract rfl rfl) ?_
    refine O.op (.p rfl) (.as rfl) ?_
    refine O.op (.p rfl) (.as rfl) ?_
    refine O.nil ?_
    refine S.seq (S.seq (S.region rfl ?_))
    refine O.op (.p rfl) (.mv rfl) ?_
    refine O.op (.p rfl) (.lss rfl rfl) ?_
    refine O.op (.p rfl) (.mv rfl) ?_
    first | refine O.caseD 23 rfl (fun h23 => ?_) (fun h23 => ?_) | refine O.caseB 23 rfl (fun h23 => ?_) (fun h23 => ?_)
    · have e : rCutE m n z = 2 := by unfold rCutE; rw [if_neg h14, if_pos (.inl h23)]
      have e2 : rCutM m n z = m := by unfold rCutM; rw [e]; rfl
      rw [e, e2] at hR
      refine O.opN rfl rfl rfl ?_
      refine O.opN rfl rfl rfl ?_
      refine O.opN rfl rfl rfl ?_
      refine O.op (.p rfl) (.pickT rfl rfl) ?_
      refine O.nil ?_
      refine S.condT rfl ?_
      refine S.seq (S.region rfl ?_)
      refine O.op (.p rfl) (.as rfl) ?_
      refine O.nil ?_
      refine S.ret Go.Proofs.Tryz.results45 rfl fun w hw => Holds.end_ hR hw ?_
      exact ⟨_, ⟨s, rfl, rfl⟩, by repeat (first | exact Picks.all | exact Picks.nil | (apply Picks.cons; focus (repeat (first | exact Sel.here | apply Sel.there))) | apply Picks.skip)⟩
    · refine O.op (.g rfl rfl) (.mv rfl) ?_
      refine O.op (.g rfl rfl) (.mv rfl) ?_
      refine O.op (.g rfl rfl) (.gtr rfl rfl) ?_
      refine O.op (.p rfl) (.pickF rfl rfl) ?_
      refine O.nil ?_
      first | refine S.condD rfl (fun h27 => ?_) (fun h27 => ?_) | refine S.condB rfl (fun h27 => ?_) (fun h27 => ?_)
      · have e : rCutE m n z = 2 := by unfold rCutE; rw [if_neg h14, if_pos (.inr (by omega))]
        have e2 : rCutM m n z = m := by unfold rCutM; rw [e]; rfl
        rw [e, e2] at hR
        refine S.seq (S.region rfl ?_)
        refine O.op (.p rfl) (.as rfl) ?_
        refine O.nil ?_
        refine S.ret Go.Proofs.Tryz.results45 rfl fun w hw => Holds.end_ hR hw ?_
        exact ⟨_, ⟨s, rfl, rfl⟩, by repeat (first | exact Picks.all | exact Picks.nil | (apply Picks.cons; focus (repeat (first | exact Sel.here | apply Sel.there))) | apply Picks.skip)⟩
      · have e : rCutE m n z = 0 := by unfold rCutE; rw [if_neg h14, if_neg (by omega)]
        have e2 : rCutM m n z = ⟨m.names, keepL (ownR n m.names 0) m.cells z, m.room⟩ := by unfold rCutM; rw [if_pos e]
        rw [e, e2] at hR
        refine S.skip (S.seq (S.region rfl ?_))
        refine O.op (.p rfl) (.mv rfl) ?_
        refine O.op (.p rfl) (.mv rfl) ?_
        refine O.op (.p rfl) (.mv rfl) ?_
        refine O.callSs (.p rfl) rfl FactRdisk3.ok92 rfl rfl (by repeat (first | exact Sels.nil | (apply Sels.cons; focus (repeat (first | exact Sel.here | apply Sel.there))))) (keep_c (by omega) (by omega) (by omega)) ?_
        rintro v31 _ ⟨s2, rfl, rfl⟩
        try simp only [List.cons_append, List.nil_append, List.append_nil]
        refine O.nil ?_
        refine S.seq (S.region rfl ?_)
        refine O.op (.p rfl) (.as rfl) ?_
        refine O.nil ?_
        refine S.ret Go.Proofs.Tryz.results45 rfl fun w hw => Holds.end_ hR hw ?_
        exact ⟨_, ⟨s2, rfl, rfl⟩, by repeat (first | exact Picks.all | exact Picks.nil | (apply Picks.cons; focus (repeat (first | exact Sel.here | apply Sel.there))) | apply Picks.skip)⟩
theorem ownR_lt (n : List UInt8) : ∀ (l : List (List UInt8)) (i : Nat), ownR n l i < (i : Int) + l.length ∧ -1 ≤ ownR n l i
  | [], i => by simp only [ownR, List.length_nil]; omega
  | x :: xs, i => by
    have := ownR_lt n xs (i + 1)
    simp only [ownR, List.length_cons]
    split <;> omega
def rRemE (m : RefM) (n : List UInt8) : Int := if ownR n m.names 0 < 0 then 6 else 0
def rRemM (m : RefM) (n : List UInt8) : RefM := if ownR n m.names 0 < 0 then m else ⟨m.names.set (ownR n m.names 0).toNat [], goneL (ownR n m.names 0) m.cells, m.room⟩
theorem refRemove_c {r : Fr} {d : Nat} {m : RefM} {s : RefS} {n : List UInt8} (hl : m.cells.length ≤ 1000000000) :
    Con Go.Proofs.Tryz.prog 47 #[.pointer (some ⟨d, 0, none⟩), .string (str n)] r (refL d m s) (Ret fun v η => ∃ s', v = .int .i64 (rRemE m n) ∧ η = refL d (rRemM m n) s') := by
  refine Con.of (n := 14) [.pointer (some ⟨d, 0, none⟩), .string (str n)] rfl Go.Proofs.Tryz.func47 rfl rfl rfl fun g hg R hR => ?_
  have hlt := ownR_lt n m.names 0
  unfold rRemE rRemM at hR
  refine S.seq (S.region rfl ?_)
  refine O.op (.p rfl) (.as rfl) ?_
  refine O.nil ?_
  refine S.seq (S.region rfl ?_)
  refine O.op (.p rfl) (.mv rfl) ?_
  refine O.op (.p rfl) (.mv rfl) ?_
  refine O.callSs (.p rfl) rfl FactRdisk3.ok90 rfl rfl (by repeat (first | exact Sels.nil | (apply Sels.cons; focus (repeat (first | exact Sel.here | apply Sel.there))))) owner_w ?_
  rintro v8 _ ⟨rfl, rfl⟩
  try simp only [List.cons_append, List.nil_append, List.append_nil]
  refine O.op (.p rfl) (.as rfl) ?_
  refine O.nil ?_
  refine S.seq (S.seq (S.region rfl ?_))
  refine O.op (.p rfl) (.mv rfl) ?_
  refine O.op (.p rfl) (.lss rfl rfl) ?_
  refine O.nil ?_
  first | refine S.condD rfl (fun h10 => ?_) (fun h10 => ?_) | refine S.condB rfl (fun h10 => ?_) (fun h10 => ?_)
  · simp only [if_pos h10] at hR
    refine S.seq (S.region rfl ?_)
    refine O.op (.p rfl) (.as rfl) ?_
    refine O.nil ?_
    refine S.ret Go.Proofs.Tryz.results47 rfl fun w hw => Holds.end_ hR hw ?_
    exact ⟨_, ⟨s, rfl, rfl⟩, by repeat (first | exact Picks.all | exact Picks.nil | (apply Picks.cons; focus (repeat (first | exact Sel.here | apply Sel.there))) | apply Picks.skip)⟩
  · simp only [if_neg h10] at hR
    refine S.skip (S.seq (S.region rfl ?_))
    refine O.op (.p rfl) (.mv rfl) ?_
    refine O.op (.p rfl) (.mv rfl) ?_
    refine O.callSs (.p rfl) rfl FactRdisk3.ok94 rfl rfl (by repeat (first | exact Sels.nil | (apply Sels.cons; focus (repeat (first | exact Sel.here | apply Sel.there))))) (gone_rc (on := (ownR n m.names 0).toNat) (by omega) (by omega) (by omega)) ?_
    rintro v13 _ ⟨s2, rfl, rfl⟩
    try simp only [List.cons_append, List.nil_append, List.append_nil]
    refine O.nil ?_
    refine S.seq (S.region rfl ?_)
    refine O.op (.p rfl) (.as rfl) ?_
    refine O.nil ?_
    refine S.ret Go.Proofs.Tryz.results47 rfl fun w hw => Holds.end_ hR hw ?_
    exact ⟨_, ⟨s2, rfl, rfl⟩, by repeat (first | exact Picks.all | exact Picks.nil | (apply Picks.cons; focus (repeat (first | exact Sel.here | apply Sel.there))) | apply Picks.skip)⟩
def rRenE (m : RefM) (a b : List UInt8) : Int := if nameOk a && nameOk b then (if ownR a m.names 0 < 0 then 6 else 0) else 2
/-- the one that bore the name goes -/
def rOut (m : RefM) (a b : List UInt8) : RefM := if 0 ≤ ownR b m.names 0 ∧ ownR b m.names 0 ≠ ownR a m.names 0 then ⟨m.names.set (ownR b m.names 0).toNat [], goneL (ownR b m.names 0) m.cells, m.room⟩ else m
def rRenM (m : RefM) (a b : List UInt8) : RefM := if rRenE m a b = 0 then ⟨(rOut m a b).names.set (ownR a m.names 0).toNat b, (rOut m a b).cells, m.room⟩ else m
theorem rOut_len (m : RefM) (a b : List UInt8) : (rOut m a b).names.length = m.names.length := by unfold rOut; split <;> simp
theorem rOut_room (m : RefM) (a b : List UInt8) : (rOut m a b).room = m.room := by unfold rOut; split <;> rfl
theorem refRename_c {r : Fr} {d : Nat} {m : RefM} {s : RefS} {a b : List UInt8} (hl : m.cells.length ≤ 1000000000) (ha : a.length ≤ 9223372036854775807) (hb : b.length ≤ 9223372036854775807) :
    Con Go.Proofs.Tryz.prog 46 #[.pointer (some ⟨d, 0, none⟩), .string (str a), .string (str b)] r (refL d m s) (Ret fun v η => ∃ s', v = .int .i64 (rRenE m a b) ∧ η = refL d (rRenM m a b) s') := by
  refine Con.of (n := 42) [.pointer (some ⟨d, 0, none⟩), .string (str a), .string (str b)] rfl Go.Proofs.Tryz.func46 rfl rfl rfl fun g hg R hR => ?_
  have hlt1 := ownR_lt a m.names 0
  have hlt2 := ownR_lt b m.names 0
  cases hoa : nameOk a with
  | false =>
    have e : rRenE m a b = 2 := by unfold rRenE; rw [hoa]; rfl
    have e2 : rRenM m a b = m := by unfold rRenM; rw [e]; rfl
    rw [e, e2] at hR
    refine S.seq (S.region rfl ?_)
    refine O.op (.p rfl) (.as rfl) ?_
    refine O.nil ?_
    refine S.seq (S.seq (S.region rfl ?_))
    refine O.op (.p rfl) (.mv rfl) ?_
    refine O.call0 (.p rfl) rfl FactRdisk3.ok93 rfl rfl ((refNamed_c ha)) ?_
    rintro v10 _ ⟨rfl, rfl⟩
    try simp only [List.cons_append, List.nil_append, List.append_nil]
    rw [hoa]
    refine O.op (.p rfl) ((by first | exact .notD rfl | exact .not rfl)) ?_
    refine O.slot 11 (v' := .bool true) rfl (congrArg Value.bool (by rfl)) ?_
    refine O.op (.p rfl) (.mv rfl) ?_
    refine O.opN rfl rfl rfl ?_
    refine O.opN rfl rfl rfl ?_
    refine O.opN rfl rfl rfl ?_
    refine O.op (.p rfl) (.pickT rfl rfl) ?_
    refine O.nil ?_
    refine S.condT rfl ?_
    refine S.seq (S.region rfl ?_)
    refine O.op (.p rfl) (.as rfl) ?_
    refine O.nil ?_
    refine S.ret Go.Proofs.Tryz.results46 rfl fun w hw => Holds.end_ hR hw ?_
    exact ⟨_, ⟨s, rfl, rfl⟩, by repeat (first | exact Picks.all | exact Picks.nil | (apply Picks.cons; focus (repeat (first | exact Sel.here | apply Sel.there))) | apply Picks.skip)⟩
  | true =>
    cases hob : nameOk b with
    | false =>
      have e : rRenE m a b = 2 := by unfold rRenE; rw [hoa, hob]; rfl
      have e2 : rRenM m a b = m := by unfold rRenM; rw [e]; rfl
      rw [e, e2] at hR
      refine S.seq (S.region rfl ?_)
      refine O.op (.p rfl) (.as rfl) ?_
      refine O.nil ?_
      refine S.seq (S.seq (S.region rfl ?_))
      refine O.op (.p rfl) (.mv rfl) ?_
      refine O.call0 (.p rfl) rfl FactRdisk3.ok93 rfl rfl ((refNamed_c ha)) ?_
      rintro v10 _ ⟨rfl, rfl⟩
      try simp only [List.cons_append, List.nil_append, List.append_nil]
      rw [hoa]
      refine O.op (.p rfl) ((by first | exact .notD rfl | exact .not rfl)) ?_
      refine O.slot 11 (v' := .bool false) rfl (congrArg Value.bool (by rfl)) ?_
      refine O.op (.p rfl) (.mv rfl) ?_
      refine O.op (.g rfl rfl) (.mv rfl) ?_
      refine O.call0 (.g rfl rfl) rfl FactRdisk3.ok93 rfl rfl ((refNamed_c hb)) ?_
      rintro v14 _ ⟨rfl, rfl⟩
      try simp only [List.cons_append, List.nil_append, List.append_nil]
      rw [hob]
      refine O.op (.g rfl rfl) ((by first | exact .notD rfl | exact .not rfl)) ?_
      refine O.slot 15 (v' := .bool true) rfl (congrArg Value.bool (by rfl)) ?_
      refine O.op (.p rfl) (.pickF rfl rfl) ?_
      refine O.nil ?_
      refine S.condT rfl ?_
      refine S.seq (S.region rfl ?_)
      refine O.op (.p rfl) (.as rfl) ?_
      refine O.nil ?_
      refine S.ret Go.Proofs.Tryz.results46 rfl fun w hw => Holds.end_ hR hw ?_
      exact ⟨_, ⟨s, rfl, rfl⟩, by repeat (first | exact Picks.all | exact Picks.nil | (apply Picks.cons; focus (repeat (first | exact Sel.here | apply Sel.there))) | apply Picks.skip)⟩
    | true =>
      have h0 : rRenE m a b = if ownR a m.names 0 < 0 then 6 else 0 := by unfold rRenE; rw [hoa, hob]; rfl
      by_cases hs : ownR a m.names 0 < 0
      ·
        have e : rRenE m a b = 6 := by rw [h0, if_pos hs]
        have e2 : rRenM m a b = m := by unfold rRenM; rw [e]; rfl
        rw [e, e2] at hR
        refine S.seq (S.region rfl ?_)
        refine O.op (.p rfl) (.as rfl) ?_
        refine O.nil ?_
        refine S.seq (S.seq (S.region rfl ?_))
        refine O.op (.p rfl) (.mv rfl) ?_
        refine O.call0 (.p rfl) rfl FactRdisk3.ok93 rfl rfl ((refNamed_c ha)) ?_
        rintro v10 _ ⟨rfl, rfl⟩
        try simp only [List.cons_append, List.nil_append, List.append_nil]
        rw [hoa]
        refine O.op (.p rfl) ((by first | exact .notD rfl | exact .not rfl)) ?_
        refine O.slot 11 (v' := .bool false) rfl (congrArg Value.bool (by rfl)) ?_
        refine O.op (.p rfl) (.mv rfl) ?_
        refine O.op (.g rfl rfl) (.mv rfl) ?_
        refine O.call0 (.g rfl rfl) rfl FactRdisk3.ok93 rfl rfl ((refNamed_c hb)) ?_
        rintro v14 _ ⟨rfl, rfl⟩
        try simp only [List.cons_append, List.nil_append, List.append_nil]
        rw [hob]
        refine O.op (.g rfl rfl) ((by first | exact .notD rfl | exact .not rfl)) ?_
        refine O.slot 15 (v' := .bool false) rfl (congrArg Value.bool (by rfl)) ?_
        refine O.op (.p rfl) (.pickF rfl rfl) ?_
        refine O.nil ?_
        refine S.condF rfl ?_
        refine S.skip (S.seq (S.region rfl ?_))
        refine O.op (.p rfl) (.mv rfl) ?_
        refine O.op (.p rfl) (.mv rfl) ?_
        refine O.callSs (.p rfl) rfl FactRdisk3.ok90 rfl rfl (by repeat (first | exact Sels.nil | (apply Sels.cons; focus (repeat (first | exact Sel.here | apply Sel.there))))) owner_w ?_
        rintro v19 _ ⟨rfl, rfl⟩
        try simp only [List.cons_append, List.nil_append, List.append_nil]
        refine O.op (.p rfl) (.mv rfl) ?_
        refine O.op (.p rfl) (.mv rfl) ?_
        refine O.callSs (.p rfl) rfl FactRdisk3.ok90 rfl rfl (by repeat (first | exact Sels.nil | (apply Sels.cons; focus (repeat (first | exact Sel.here | apply Sel.there))))) owner_w ?_
        rintro v22 _ ⟨rfl, rfl⟩
        try simp only [List.cons_append, List.nil_append, List.append_nil]
        refine O.op (.p rfl) (.as rfl) ?_
        refine O.op (.p rfl) (.as rfl) ?_
        refine O.nil ?_
        refine S.seq (S.seq (S.region rfl ?_))
        refine O.op (.p rfl) (.mv rfl) ?_
        refine O.op (.p rfl) (.lss rfl rfl) ?_
        refine O.slot 24 (v' := .bool true) rfl (congrArg Value.bool (by exact decide_eq_true hs)) ?_
        refine O.nil ?_
        refine S.condT rfl ?_
        refine S.seq (S.region rfl ?_)
        refine O.op (.p rfl) (.as rfl) ?_
        refine O.nil ?_
        refine S.ret Go.Proofs.Tryz.results46 rfl fun w hw => Holds.end_ hR hw ?_
        exact ⟨_, ⟨s, rfl, rfl⟩, by repeat (first | exact Picks.all | exact Picks.nil | (apply Picks.cons; focus (repeat (first | exact Sel.here | apply Sel.there))) | apply Picks.skip)⟩
      · have e : rRenE m a b = 0 := by rw [h0, if_neg hs]
        have e2 : rRenM m a b = ⟨(rOut m a b).names.set (ownR a m.names 0).toNat b, (rOut m a b).cells, m.room⟩ := by unfold rRenM; rw [if_pos e]
        rw [e, e2] at hR
        have hrl := rOut_len m a b
        by_cases hq : 0 ≤ ownR b m.names 0 ∧ ownR b m.names 0 ≠ ownR a m.names 0
        ·
          have hro : rOut m a b = ⟨m.names.set (ownR b m.names 0).toNat [], goneL (ownR b m.names 0) m.cells, m.room⟩ := if_pos hq
          rw [hro] at hR hrl
          simp only at hR hrl
          refine S.seq (S.region rfl ?_)
          refine O.op (.p rfl) (.as rfl) ?_
          refine O.nil ?_
          refine S.seq (S.seq (S.region rfl ?_))
          refine O.op (.p rfl) (.mv rfl) ?_
          refine O.call0 (.p rfl) rfl FactRdisk3.ok93 rfl rfl ((refNamed_c ha)) ?_
          rintro v10 _ ⟨rfl, rfl⟩
          try simp only [List.cons_append, List.nil_append, List.append_nil]
          rw [hoa]
          refine O.op (.p rfl) ((by first | exact .notD rfl | exact .not rfl)) ?_
          refine O.slot 11 (v' := .bool false) rfl (congrArg Value.bool (by rfl)) ?_
          refine O.op (.p rfl) (.mv rfl) ?_
          refine O.op (.g rfl rfl) (.mv rfl) ?_
          refine O.call0 (.g rfl rfl) rfl FactRdisk3.ok93 rfl rfl ((refNamed_c hb)) ?_
          rintro v14 _ ⟨rfl, rfl⟩
          try simp only [List.cons_append, List.nil_append, List.append_nil]
          rw [hob]
          refine O.op (.g rfl rfl) ((by first | exact .notD rfl | exact .not rfl)) ?_
          refine O.slot 15 (v' := .bool false) rfl (congrArg Value.bool (by rfl)) ?_
          refine O.op (.p rfl) (.pickF rfl rfl) ?_
          refine O.nil ?_
          refine S.condF rfl ?_
          refine S.skip (S.seq (S.region rfl ?_))
          refine O.op (.p rfl) (.mv rfl) ?_
          refine O.op (.p rfl) (.mv rfl) ?_
          refine O.callSs (.p rfl) rfl FactRdisk3.ok90 rfl rfl (by repeat (first | exact Sels.nil | (apply Sels.cons; focus (repeat (first | exact Sel.here | apply Sel.there))))) owner_w ?_
          rintro v19 _ ⟨rfl, rfl⟩
          try simp only [List.cons_append, List.nil_append, List.append_nil]
          refine O.op (.p rfl) (.mv rfl) ?_
          refine O.op (.p rfl) (.mv rfl) ?_
          refine O.callSs (.p rfl) rfl FactRdisk3.ok90 rfl rfl (by repeat (first | exact Sels.nil | (apply Sels.cons; focus (repeat (first | exact Sel.here | apply Sel.there))))) owner_w ?_
          rintro v22 _ ⟨rfl, rfl⟩
          try simp only [List.cons_append, List.nil_append, List.append_nil]
          refine O.op (.p rfl) (.as rfl) ?_
          refine O.op (.p rfl) (.as rfl) ?_
          refine O.nil ?_
          refine S.seq (S.seq (S.region rfl ?_))
          refine O.op (.p rfl) (.mv rfl) ?_
          refine O.op (.p rfl) (.lss rfl rfl) ?_
          refine O.slot 24 (v' := .bool false) rfl (congrArg Value.bool (by exact decide_eq_false hs)) ?_
          refine O.nil ?_
          refine S.condF rfl ?_
          refine S.skip (S.seq (S.seq (S.region rfl ?_)))
          refine O.op (.p rfl) (.mv rfl) ?_
          refine O.op (.p rfl) (.geq rfl rfl) ?_
          refine O.slot 26 (v' := .bool true) rfl (congrArg Value.bool (by exact decide_eq_true hq.1)) ?_
          refine O.op (.p rfl) (.mv rfl) ?_
          refine O.op (.g rfl rfl) (.mv rfl) ?_
          refine O.op (.g rfl rfl) (.mv rfl) ?_
          refine O.op (.g rfl rfl) (.neq rfl rfl) ?_
          refine O.slot 30 (v' := .bool true) rfl (congrArg Value.bool (by exact decide_eq_true hq.2)) ?_
          refine O.op (.p rfl) (.pickT rfl rfl) ?_
          refine O.nil ?_
          refine S.condT rfl ?_
          refine S.region rfl ?_
          refine O.op (.p rfl) (.mv rfl) ?_
          refine O.op (.p rfl) (.mv rfl) ?_
          refine O.callSs (.p rfl) rfl FactRdisk3.ok94 rfl rfl (by repeat (first | exact Sels.nil | (apply Sels.cons; focus (repeat (first | exact Sel.here | apply Sel.there))))) (gone_rc (on := (ownR b m.names 0).toNat) (by omega) (by omega) (by omega)) ?_
          rintro v34 _ ⟨s2, rfl, rfl⟩
          try simp only [List.cons_append, List.nil_append, List.append_nil]
          unfold refL refO
          try simp only
          refine O.nil ?_
          refine S.seq ?_
          refine S.region rfl ?_
          refine O.op (.p rfl) (.mv rfl) ?_
          refine O.op (.p rfl) (.nilCheck rfl) ?_
          refine O.op (.p rfl) (.fieldObj FactRdisk3.fld102x0 rfl) ?_
          refine O.op (.p rfl) (.loadObj FactRdisk3.flat36 rfl (by repeat (first | exact Sel.here | apply Sel.there)) rfl) ?_
          refine O.op (.p rfl) (.mv rfl) ?_
          refine O.op (.p rfl) (.mv rfl) ?_
          refine O.opE (.p rfl) (.idxOwn (T := Rp.str) Go.Proofs.Tryz.underlying36 FactRdisk3.size9 rfl rfl (show _ = ((((ownR a m.names 0).toNat) : Nat) : Int) by omega) (by repeat (first | exact Sel.here | apply Sel.there)) (by first | omega | (simp; done) | (simp; omega))) ?_
          rintro _ _ ⟨p41, rfl, hp41, rfl⟩
          refine O.opU rfl (.storeOwn FactRdisk3.size9 rfl hp41 rfl (by repeat (first | exact Sel.here | apply Sel.there)) (by first | omega | (simp; done) | (simp; omega)) (⟨rfl, by first | omega | (simp; done) | (simp; omega)⟩ : Rp.rel Rp.str _ _ (b))) ?_
          refine O.nil ?_
          refine S.seq (S.region rfl ?_)
          refine O.op (.p rfl) (.as rfl) ?_
          refine O.nil ?_
          refine S.ownIs (T := Rp.str) (v' := .slice s2.1.1 ((m.names.set (ownR b m.names 0).toNat []).set (ownR a m.names 0).toNat b).length s2.1.2) (xs' := (m.names.set (ownR b m.names 0).toNat []).set (ownR a m.names 0).toNat b) (by repeat (first | exact Sel.here | apply Sel.there)) (by simp) rfl ?_
          refine S.objIs (b := d) (cs' := [.slice s2.1.1 ((m.names.set (ownR b m.names 0).toNat []).set (ownR a m.names 0).toNat b).length s2.1.2, .slice s2.2.1 (goneL (ownR b m.names 0) m.cells).length s2.2.2, .int .i64 m.room]) (by repeat (first | exact Sel.here | apply Sel.there)) (by simp) ?_
          refine S.ret Go.Proofs.Tryz.results46 rfl fun w hw => Holds.end_ hR hw ?_
          exact ⟨_, ⟨s2, rfl, rfl⟩, by repeat (first | exact Picks.all | exact Picks.nil | (apply Picks.cons; focus (repeat (first | exact Sel.here | apply Sel.there))) | apply Picks.skip)⟩
        ·
          have hro : rOut m a b = m := if_neg hq
          rw [hro] at hR hrl
          refine S.seq (S.region rfl ?_)
          refine O.op (.p rfl) (.as rfl) ?_
          refine O.nil ?_
          refine S.seq (S.seq (S.region rfl ?_))
          refine O.op (.p rfl) (.mv rfl) ?_
          refine O.call0 (.p rfl) rfl FactRdisk3.ok93 rfl rfl ((refNamed_c ha)) ?_
          rintro v10 _ ⟨rfl, rfl⟩
          try simp only [List.cons_append, List.nil_append, List.append_nil]
          rw [hoa]
          refine O.op (.p rfl) ((by first | exact .notD rfl | exact .not rfl)) ?_
          refine O.slot 11 (v' := .bool false) rfl (congrArg Value.bool (by rfl)) ?_
          refine O.op (.p rfl) (.mv rfl) ?_
          refine O.op (.g rfl rfl) (.mv rfl) ?_
          refine O.call0 (.g rfl rfl) rfl FactRdisk3.ok93 rfl rfl ((refNamed_c hb)) ?_
          rintro v14 _ ⟨rfl, rfl⟩
          try simp only [List.cons_append, List.nil_append, List.append_nil]
          rw [hob]
          refine O.op (.g rfl rfl) ((by first | exact .notD rfl | exact .not rfl)) ?_
          refine O.slot 15 (v' := .bool false) rfl (congrArg Value.bool (by rfl)) ?_
          refine O.op (.p rfl) (.pickF rfl rfl) ?_
          refine O.nil ?_
          refine S.condF rfl ?_
          refine S.skip (S.seq (S.region rfl ?_))
          refine O.op (.p rfl) (.mv rfl) ?_
          refine O.op (.p rfl) (.mv rfl) ?_
          refine O.callSs (.p rfl) rfl FactRdisk3.ok90 rfl rfl (by repeat (first | exact Sels.nil | (apply Sels.cons; focus (repeat (first | exact Sel.here | apply Sel.there))))) owner_w ?_
          rintro v19 _ ⟨rfl, rfl⟩
          try simp only [List.cons_append, List.nil_append, List.append_nil]
          refine O.op (.p rfl) (.mv rfl) ?_
          refine O.op (.p rfl) (.mv rfl) ?_
          refine O.callSs (.p rfl) rfl FactRdisk3.ok90 rfl rfl (by repeat (first | exact Sels.nil | (apply Sels.cons; focus (repeat (first | exact Sel.here | apply Sel.there))))) owner_w ?_
          rintro v22 _ ⟨rfl, rfl⟩
          try simp only [List.cons_append, List.nil_append, List.append_nil]
          refine O.op (.p rfl) (.as rfl) ?_
          refine O.op (.p rfl) (.as rfl) ?_
          refine O.nil ?_
          refine S.seq (S.seq (S.region rfl ?_))
          refine O.op (.p rfl) (.mv rfl) ?_
          refine O.op (.p rfl) (.lss rfl rfl) ?_
          refine O.slot 24 (v' := .bool false) rfl (congrArg Value.bool (by exact decide_eq_false hs)) ?_
          refine O.nil ?_
          refine S.condF rfl ?_
          refine S.skip (S.seq (S.seq (S.region rfl ?_)))
          refine O.op (.p rfl) (.mv rfl) ?_
          refine O.op (.p rfl) (.geq rfl rfl) ?_
          refine O.op (.p rfl) (.mv rfl) ?_
          first | refine O.caseD 27 rfl (fun h27 => ?_) (fun h27 => ?_) | refine O.caseB 27 rfl (fun h27 => ?_) (fun h27 => ?_)
          · refine O.op (.g rfl rfl) (.mv rfl) ?_
            refine O.op (.g rfl rfl) (.mv rfl) ?_
            refine O.op (.g rfl rfl) (.neq rfl rfl) ?_
            refine O.slot 30 (v' := .bool false) rfl (congrArg Value.bool (by exact decide_eq_false fun h => hq ⟨by omega, h⟩)) ?_
            refine O.op (.p rfl) (.pickT rfl rfl) ?_
            refine O.nil ?_
            refine S.condF rfl ?_
            refine S.skip (S.seq ?_)
            unfold refL refO
            try simp only
            refine S.region rfl ?_
            refine O.op (.p rfl) (.mv rfl) ?_
            refine O.op (.p rfl) (.nilCheck rfl) ?_
            refine O.op (.p rfl) (.fieldObj FactRdisk3.fld102x0 rfl) ?_
            refine O.op (.p rfl) (.loadObj FactRdisk3.flat36 rfl (by repeat (first | exact Sel.here | apply Sel.there)) rfl) ?_
            refine O.op (.p rfl) (.mv rfl) ?_
            refine O.op (.p rfl) (.mv rfl) ?_
            refine O.opE (.p rfl) (.idxOwn (T := Rp.str) Go.Proofs.Tryz.underlying36 FactRdisk3.size9 rfl rfl (show _ = ((((ownR a m.names 0).toNat) : Nat) : Int) by omega) (by repeat (first | exact Sel.here | apply Sel.there)) (by first | omega | (simp; done) | (simp; omega))) ?_
            rintro _ _ ⟨p41, rfl, hp41, rfl⟩
            refine O.opU rfl (.storeOwn FactRdisk3.size9 rfl hp41 rfl (by repeat (first | exact Sel.here | apply Sel.there)) (by first | omega | (simp; done) | (simp; omega)) (⟨rfl, by first | omega | (simp; done) | (simp; omega)⟩ : Rp.rel Rp.str _ _ (b))) ?_
            refine O.nil ?_
            refine S.seq (S.region rfl ?_)
            refine O.op (.p rfl) (.as rfl) ?_
            refine O.nil ?_
            refine S.ownIs (T := Rp.str) (v' := .slice s.1.1 (m.names.set (ownR a m.names 0).toNat b).length s.1.2) (xs' := m.names.set (ownR a m.names 0).toNat b) (by repeat (first | exact Sel.here | apply Sel.there)) (by simp) rfl ?_
            refine S.objIs (b := d) (cs' := [.slice s.1.1 (m.names.set (ownR a m.names 0).toNat b).length s.1.2, .slice s.2.1 m.cells.length s.2.2, .int .i64 m.room]) (by repeat (first | exact Sel.here | apply Sel.there)) (by simp) ?_
            refine S.ret Go.Proofs.Tryz.results46 rfl fun w hw => Holds.end_ hR hw ?_
            exact ⟨_, ⟨s, rfl, rfl⟩, by repeat (first | exact Picks.all | exact Picks.nil | (apply Picks.cons; focus (repeat (first | exact Sel.here | apply Sel.there))) | apply Picks.skip)⟩
          · refine O.opN rfl rfl rfl ?_
            refine O.opN rfl rfl rfl ?_
            refine O.opN rfl rfl rfl ?_
            refine O.op (.p rfl) (.pickF rfl rfl) ?_
            refine O.nil ?_
            refine S.condF rfl ?_
            refine S.skip (S.seq ?_)
            unfold refL refO
            try simp only
            refine S.region rfl ?_
            refine O.op (.p rfl) (.mv rfl) ?_
            refine O.op (.p rfl) (.nilCheck rfl) ?_
            refine O.op (.p rfl) (.fieldObj FactRdisk3.fld102x0 rfl) ?_
            refine O.op (.p rfl) (.loadObj FactRdisk3.flat36 rfl (by repeat (first | exact Sel.here | apply Sel.there)) rfl) ?_
            refine O.op (.p rfl) (.mv rfl) ?_
            refine O.op (.p rfl) (.mv rfl) ?_
            refine O.opE (.p rfl) (.idxOwn (T := Rp.str) Go.Proofs.Tryz.underlying36 FactRdisk3.size9 rfl rfl (show _ = ((((ownR a m.names 0).toNat) : Nat) : Int) by omega) (by repeat (first | exact Sel.here | apply Sel.there)) (by first | omega | (simp; done) | (simp; omega))) ?_
            rintro _ _ ⟨p41, rfl, hp41, rfl⟩
            refine O.opU rfl (.storeOwn FactRdisk3.size9 rfl hp41 rfl (by repeat (first | exact Sel.here | apply Sel.there)) (by first | omega | (simp; done) | (simp; omega)) (⟨rfl, by first | omega | (simp; done) | (simp; omega)⟩ : Rp.rel Rp.str _ _ (b))) ?_
            refine O.nil ?_
            refine S.seq (S.region rfl ?_)
            refine O.op (.p rfl) (.as rfl) ?_
            refine O.nil ?_
            refine S.ownIs (T := Rp.str) (v' := .slice s.1.1 (m.names.set (ownR a m.names 0).toNat b).length s.1.2) (xs' := m.names.set (ownR a m.names 0).toNat b) (by repeat (first | exact Sel.here | apply Sel.there)) (by simp) rfl ?_
            refine S.objIs (b := d) (cs' := [.slice s.1.1 (m.names.set (ownR a m.names 0).toNat b).length s.1.2, .slice s.2.1 m.cells.length s.2.2, .int .i64 m.room]) (by repeat (first | exact Sel.here | apply Sel.there)) (by simp) ?_
            refine S.ret Go.Proofs.Tryz.results46 rfl fun w hw => Holds.end_ hR hw ?_
            exact ⟨_, ⟨s, rfl, rfl⟩, by repeat (first | exact Picks.all | exact Picks.nil | (apply Picks.cons; focus (repeat (first | exact Sel.here | apply Sel.there))) | apply Picks.skip)⟩
/-- the cells behind a crash: file by file -/
def crashL (keep : Int) (cells : List CellM) (o : Nat) : List CellM := keepL (o : Int) cells ((cSafe (o : Int) cells : Int) + min (max keep 0) ((cAll (o : Int) cells : Int) - (cSafe (o : Int) cells : Int)))
def crashN (keep : Int) (cells : List CellM) (n : Nat) : List CellM := (List.range n).foldl (crashL keep) cells
theorem crashN_succ (keep : Int) (cells : List CellM) (n : Nat) : crashN keep cells (n + 1) = crashL keep (crashN keep cells n) n := by unfold crashN; rw [List.range_succ, List.foldl_append]; rfl
theorem crashN_le (keep : Int) (cells : List CellM) : ∀ n, (crashN keep cells n).length ≤ cells.length
  | 0 => Nat.le_refl _
  | n + 1 => by rw [crashN_succ]; exact Nat.le_trans (keepL_le ..) (crashN_le keep cells n)
def rCrash (m : RefM) (keep : Int) : RefM := ⟨m.names, crashN keep m.cells m.names.length, m.room⟩
theorem cSafe_all (o : Int) (l : List CellM) : cSafe o l ≤ cAll o l := by
  unfold cSafe cAll
  induction l with
  | nil => exact Nat.le_refl _
  | cons x l ih => simp only [List.filter_cons]; by_cases h : (x.1 == o) = true <;> by_cases h2 : x.2.2 = true <;> simp [h, h2] at ih ⊢ <;> omega
theorem refCrash_c {r : Fr} {d : Nat} {m : RefM} {s : RefS} {keep : Int} (hl : m.cells.length ≤ 1000000000) (hnl : m.names.length ≤ 1000000000) :
    Con Go.Proofs.Tryz.prog 48 #[.pointer (some ⟨d, 0, none⟩), .int .i64 keep] r (refL d m s) (Ret fun v η => ∃ s', v = .tuple #[] ∧ η = refL d (rCrash m keep) s') := by
  refine Con.of (n := 33) [.pointer (some ⟨d, 0, none⟩), .int .i64 keep] rfl Go.Proofs.Tryz.func48 rfl rfl rfl fun g hg R hR => ?_
  refine S.seq (S.region rfl ?_)
  refine O.op (.p rfl) (.as rfl) ?_
  refine O.nil ?_
  refine S.block ?_
  refine S.loopK2 (ι := Nat) (κ := RefS) (fun i s => i ≤ m.names.length) (fun i s => [(4, .int .i64 (i : Int))]) [(0, _), (1, _)] (fun i s => refL d ⟨m.names, crashN keep m.cells i, m.room⟩ s) (fun i s => m.names.length - i) (0) (s) (by exact Nat.zero_le _) (.cons rfl (.nil)) (.cons rfl (.cons rfl (.nil))) rfl fun i s hx ih => ?_
  have hm1 := meltRefl (g := g)
  have hcl := crashN_le keep m.cells i
  have hca := cAll_le (i : Int) (crashN keep m.cells i)
  have hcs := cSafe_all (i : Int) (crashN keep m.cells i)
  have hn := crashN_succ keep m.cells i
  unfold crashL at hn
  refine S.seq (S.seq ?_)
  unfold refL refO
  try simp only
  refine S.region rfl ?_
  refine O.op (.p rfl) (.mv rfl) ?_
  refine O.op (.p rfl) (.mv rfl) ?_
  refine O.op (.p rfl) (.nilCheck rfl) ?_
  refine O.op (.p rfl) (.fieldObj FactRdisk3.fld102x0 rfl) ?_
  refine O.op (.p rfl) (.loadObj FactRdisk3.flat36 rfl (by repeat (first | exact Sel.here | apply Sel.there)) rfl) ?_
  refine O.op (.p rfl) (.len rfl Go.Proofs.Tryz.underlying36 rfl) ?_
  refine O.op (.p rfl) (.lss rfl rfl) ?_
  refine O.nil ?_
  first | refine S.condD rfl (fun h13 => ?_) (fun h13 => ?_) | refine S.condB rfl (fun h13 => ?_) (fun h13 => ?_)
  · have hi : i < m.names.length := by omega
    refine S.pk (ζ := refL d ⟨m.names, crashN keep m.cells i, m.room⟩ s) (by repeat (first | exact Picks.all | exact Picks.nil | (apply Picks.cons; focus (repeat (first | exact Sel.here | apply Sel.there))) | apply Picks.skip)) ?_
    refine S.skip (S.seq (S.block (S.seq (S.region rfl ?_))))
    refine O.op (.p rfl) (.mv rfl) ?_
    refine O.op (.p rfl) (.mv rfl) ?_
    refine O.callSs (.p rfl) rfl FactRdisk3.ok91 rfl rfl (by repeat (first | exact Sels.nil | (apply Sels.cons; focus (repeat (first | exact Sel.here | apply Sel.there))))) (count_w (by simp only; omega)) ?_
    rintro v19 _ ⟨rfl, rfl⟩
    try simp only [List.cons_append, List.nil_append, List.append_nil]
    refine O.op (.p rfl) (.mv rfl) ?_
    refine O.op (.p rfl) (.extract rfl rfl) ?_
    refine O.op (.p rfl) (.extract rfl rfl) ?_
    refine O.op (.p rfl) (.as rfl) ?_
    refine O.op (.p rfl) (.as rfl) ?_
    refine O.nil ?_
    refine S.region rfl ?_
    refine O.op (.p rfl) (.mv rfl) ?_
    refine O.op (.p rfl) (.mv rfl) ?_
    refine O.op (.p rfl) (.mv rfl) ?_
    refine O.op (.p rfl) (.mv rfl) ?_
    refine O.op (.p rfl) (.max2 rfl rfl) ?_
    refine O.slot 26 (v' := .int .i64 (max keep 0)) rfl (by refine congrArg _ ?_; split <;> omega) ?_
    refine O.op (.p rfl) (.mv rfl) ?_
    refine O.op (.p rfl) (.mv rfl) ?_
    refine O.op (.p rfl) (.sub rfl rfl (IntWalk.i64_in _ (by omega))) ?_
    refine O.op (.p rfl) (.min2 rfl rfl) ?_
    refine O.slot 30 (v' := .int .i64 (min (max keep 0) ((cAll (i : Int) (crashN keep m.cells i) : Int) - (cSafe (i : Int) (crashN keep m.cells i) : Int)))) rfl (by refine congrArg _ ?_; split <;> omega) ?_
    refine O.op (.p rfl) (.add rfl rfl (IntWalk.i64_in _ (by omega))) ?_
    refine O.callSs (.p rfl) rfl FactRdisk3.ok92 rfl rfl (by repeat (first | exact Sels.nil | (apply Sels.cons; focus (repeat (first | exact Sel.here | apply Sel.there))))) (keep_c (by simp only; omega) (by omega) (by omega)) ?_
    rintro v32 _ ⟨s2, rfl, rfl⟩
    try simp only [List.cons_append, List.nil_append, List.append_nil]
    simp only [← hn]
    refine O.nil ?_
    refine S.inBlock (S.region rfl ?_)
    refine O.op (.p rfl) (.mv rfl) ?_
    refine O.op (.p rfl) (.add rfl rfl (IntWalk.i64_in _ (by omega))) ?_
    refine O.op (.p rfl) (.as rfl) ?_
    refine O.nil ?_
    refine S.pk ?_ (S.weaken ?_ (ih (i + 1) (s2) (by exact hi) (by omega)))
    · repeat (first | exact Picks.all | exact Picks.nil | (apply Picks.cons; focus (repeat (first | exact Sel.here | apply Sel.there))) | apply Picks.skip)
    repeat (first | exact Sub.nil | refine Sub.cons rfl ?_)
  · clear ih
    have hi : i = m.names.length := by omega
    subst hi
    refine S.pk (ζ := refL d ⟨m.names, crashN keep m.cells m.names.length, m.room⟩ s) (by repeat (first | exact Picks.all | exact Picks.nil | (apply Picks.cons; focus (repeat (first | exact Sel.here | apply Sel.there))) | apply Picks.skip)) ?_
    refine S.exit rfl ?_
    refine S.end0 Go.Proofs.Tryz.results48 fun w hw => Holds.end_ hR hw ?_
    exact ⟨_, ⟨s, rfl, rfl⟩, by repeat (first | exact Picks.all | exact Picks.nil | (apply Picks.cons; focus (repeat (first | exact Sel.here | apply Sel.there))) | apply Picks.skip)⟩

end Go.Proofs.YtkkcpckgnfcncaaGreatDoor
