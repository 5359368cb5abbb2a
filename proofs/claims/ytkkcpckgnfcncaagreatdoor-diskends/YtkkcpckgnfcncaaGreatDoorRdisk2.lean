import Derived.Test.YtkkcpckgnfcncaaGreatDoorRdisk1
open Go Go.Sp
set_option maxRecDepth 100000
attribute [local irreducible] obj Own OwnP
namespace Go.Proofs.YtkkcpckgnfcncaaGreatDoor
theorem FactRdisk2.elem142 : elemIs Go.Proofs.Tryz.prog 142 3 16 [.int .i64 0, .int .u8 0, .bool false] := elemIs.mk (by kernel_rfl) rfl
theorem FactRdisk2.flat100 : Go.Sp.flat1 Go.Proofs.Tryz.prog 100 = true := by kernel_rfl
theorem FactRdisk2.flat3 : Go.Sp.flat1 Go.Proofs.Tryz.prog 3 = true := by kernel_rfl
theorem FactRdisk2.flat4 : Go.Sp.flat1 Go.Proofs.Tryz.prog 4 = true := by kernel_rfl
theorem FactRdisk2.fld102x1 : fieldOff Go.Proofs.Tryz.prog 102 1 = some 1 := by kernel_rfl
theorem FactRdisk2.fld142x0 : fieldOff Go.Proofs.Tryz.prog 142 0 = some 0 := by kernel_rfl
theorem FactRdisk2.fld142x2 : fieldOff Go.Proofs.Tryz.prog 142 2 = some 2 := by kernel_rfl
theorem FactRdisk2.size142 : (Go.Proofs.Tryz.prog.info? 142).map (·.size) = some 3 := by kernel_rfl

structure RefM where
  names : List (List UInt8)
  cells : List CellM
  room : Int
abbrev RefS : Type := (Option Addr × Nat) × (Option Addr × Nat)
def refO (r : RefM) (s : RefS) : List Value := [.slice s.1.1 r.names.length s.1.2, .slice s.2.1 r.cells.length s.2.2, .int .i64 r.room]
/-- the words of the document's disk -/
def refL (d : Nat) (r : RefM) (s : RefS) : List SProp := [obj d 102 (refO r s), OwnP Rp.str 9 (.slice s.1.1 r.names.length s.1.2) r.names, OwnP (Rp.cells 3) 142 (.slice s.2.1 r.cells.length s.2.2) (r.cells.map encC)]
theorem refL_g {d : Nat} {r : RefM} {s : RefS} {m : Fr} (h : Sat (refL d r s) m) : At m ⟨d, 0, none⟩ (refO r s) ∧ Arr Rp.str m (.slice s.1.1 r.names.length s.1.2) r.names ∧ Arr (Rp.cells 3) m (.slice s.2.1 r.cells.length s.2.2) (r.cells.map encC) := by
  obtain ⟨m1, k1, d1, s1, t1, x, m2, k2, d2, s2, t2, y, m3, k3, d3, s3, t3, z, _⟩ := h
  exact ⟨(obj_at x).mono s1, y.arr.mono (Fr.sub_trans s2 t1), z.arr.mono (Fr.sub_trans s3 (Fr.sub_trans t2 t1))⟩
theorem At.right {h m : Fr} {p : Addr} {cs : List Value} (x : At m p cs) (hd : h.disj m) : At (h.add m) p cs := x.mono (Fr.sub_add_right hd)
theorem owner_w {r : Fr} {d : Nat} {m : RefM} {s : RefS} {n : List UInt8} :
    Con Go.Proofs.Tryz.prog 90 #[.pointer (some ⟨d, 0, none⟩), .string (str n)] r (refL d m s) (Ret fun v η => v = .int .i64 (ownR n m.names 0) ∧ η = refL d m s) :=
  Con.mono (Con.lentW (η := []) fun _ hm hd => let ⟨h1, h2, _⟩ := refL_g hm; owner_c (At.right h1 hd) (h2.right hd)) (Ret.imp fun _ _ ⟨_, ⟨a, b⟩, c⟩ => ⟨a, by rw [c, b]; rfl⟩)
theorem count_w {r : Fr} {d : Nat} {m : RefM} {s : RefS} {o : Int} (hl : m.cells.length ≤ 1000000000) :
    Con Go.Proofs.Tryz.prog 91 #[.pointer (some ⟨d, 0, none⟩), .int .i64 o] r (refL d m s) (Ret fun v η => v = .tuple #[.int .i64 (cAll o m.cells : Int), .int .i64 (cSafe o m.cells : Int)] ∧ η = refL d m s) :=
  Con.mono (Con.lentW (η := []) fun _ hm hd => let ⟨h1, _, h3⟩ := refL_g hm; count_c (At.right h1 hd) (h3.right hd) hl) (Ret.imp fun _ _ ⟨_, ⟨a, b⟩, c⟩ => ⟨a, by rw [c, b]; rfl⟩)
theorem refUsed_w {r : Fr} {d : Nat} {m : RefM} {s : RefS} :
    Con Go.Proofs.Tryz.prog 96 #[.pointer (some ⟨d, 0, none⟩)] r (refL d m s) (Ret fun v η => v = .int .i64 (m.cells.length : Int) ∧ η = refL d m s) :=
  Con.mono (Con.lentW (η := []) fun _ hm hd => let ⟨h1, _, _⟩ := refL_g hm; refUsed_c (At.right h1 hd)) (Ret.imp fun _ _ ⟨_, ⟨a, b⟩, c⟩ => ⟨a, by rw [c, b]; rfl⟩)
theorem refRead_w {r : Fr} {d : Nat} {m : RefM} {s : RefS} {n : List UInt8} (hl : m.cells.length ≤ 1000000000) :
    Con Go.Proofs.Tryz.prog 97 #[.pointer (some ⟨d, 0, none⟩), .string (str n)] r (refL d m s) (Ret fun v η => ∃ a c, v = .tuple #[.slice a (refReadB n m.names m.cells).length c, .int .i64 (refReadE n m.names)] ∧
      η = OwnP Rp.u8 5 (.slice a (refReadB n m.names m.cells).length c) (refReadB n m.names m.cells) :: refL d m s) :=
  Con.mono (Con.lentW (η := []) fun _ hm hd => let ⟨h1, h2, h3⟩ := refL_g hm; refRead_c (At.right h1 hd) (h2.right hd) (h3.right hd) hl) (Ret.imp fun _ _ ⟨_, ⟨a, c, h1, h2⟩, h3⟩ => ⟨a, c, h1, by rw [h3, h2]; rfl⟩)
theorem refNew_c {r : Fr} (room : Int) : Con Go.Proofs.Tryz.prog 20 #[.int .i64 room] r [] (Ret fun v η => ∃ d, v = .pointer (some ⟨d, 0, none⟩) ∧ η = refL d ⟨[], [], max room 0⟩ ((none, 0), (none, 0))) := by
  refine Con.of (n := 7) [.int .i64 room] rfl Go.Proofs.Tryz.func20 rfl rfl rfl fun g hg R hR => ?_
  refine S.addNil (T := Rp.cells 3) (e := 142) ?_
  refine S.addNil (T := Rp.str) (e := 9) ?_
  refine S.seq (S.region rfl ?_)
  refine O.op (.p rfl) (.as rfl) ?_
  refine O.nil ?_
  refine S.seq (S.region rfl ?_)
  refine O.op (.p rfl) (.mv rfl) ?_
  refine O.op (.p rfl) (.max2 rfl rfl) ?_
  refine O.slot 4 (v' := .int .i64 (max room 0)) rfl (by refine congrArg _ ?_; split <;> omega) ?_
  refine O.op (.p rfl) (.build (cs := [_, _, _]) Go.Proofs.Tryz.underlying102 rfl rfl rfl rfl rfl) ?_
  refine O.opE (.p rfl) (.box (cs := [_, _, _]) rfl rfl) ?_
  rintro _ _ ⟨b6, rfl, rfl⟩
  refine O.op (.p rfl) (.as rfl) ?_
  refine O.nil ?_
  refine S.pk (ζ := [obj b6 102 [.slice none 0 0, .slice none 0 0, .int .i64 (max room 0)], OwnP Rp.str 9 (.slice none 0 0) [], OwnP (Rp.cells 3) 142 (.slice none 0 0) []]) (by repeat (first | exact Picks.all | exact Picks.nil | (apply Picks.cons; focus (repeat (first | exact Sel.here | apply Sel.there))) | apply Picks.skip)) ?_
  refine S.ret Go.Proofs.Tryz.results20 rfl fun w hw => Holds.end_ hR hw ?_
  exact ⟨_, ⟨b6, rfl, rfl⟩, by repeat (first | exact Picks.all | exact Picks.nil | (apply Picks.cons; focus (repeat (first | exact Sel.here | apply Sel.there))) | apply Picks.skip)⟩
/-- of a file's cells so many are left, and safe -/
def keepL (o : Int) : List CellM → Int → List CellM
  | [], _ => []
  | x :: xs, k => if x.1 = o then (if 0 < k then (x.1, x.2.1, true) :: keepL o xs (k - 1) else keepL o xs (k - 1)) else x :: keepL o xs k
theorem keepL_le (o : Int) : ∀ (l : List CellM) (k : Int), (keepL o l k).length ≤ l.length
  | [], _ => Nat.le_refl _
  | x :: xs, k => by
    have h1 := keepL_le o xs (k - 1)
    have h2 := keepL_le o xs k
    simp only [keepL, List.length_cons]
    repeat' split
    all_goals first | omega | (simp only [List.length_cons]; omega)
theorem keep_c {r : Fr} {d : Nat} {m : RefM} {s : RefS} {o many : Int} (hl : m.cells.length ≤ 1000000000) (h0 : 0 ≤ many) (h1 : many ≤ 1000000000000) :
    Con Go.Proofs.Tryz.prog 92 #[.pointer (some ⟨d, 0, none⟩), .int .i64 o, .int .i64 many] r (refL d m s) (Ret fun v η => ∃ s', v = .tuple #[] ∧ η = refL d ⟨m.names, keepL o m.cells many, m.room⟩ s') := by
  unfold refL refO
  try simp only
  refine Con.of (n := 46) [.pointer (some ⟨d, 0, none⟩), .int .i64 o, .int .i64 many] rfl Go.Proofs.Tryz.func92 rfl rfl rfl fun g hg R hR => ?_
  obtain ⟨names, cells, room⟩ := m
  simp only at hl ⊢
  refine S.pk (ζ := [OwnP (Rp.cells 3) 142 (.slice s.2.1 cells.length s.2.2) (cells.map encC), obj d 102 [.slice s.1.1 names.length s.1.2, .slice s.2.1 cells.length s.2.2, .int .i64 room], OwnP Rp.str 9 (.slice s.1.1 names.length s.1.2) names]) (by repeat (first | exact Picks.all | exact Picks.nil | (apply Picks.cons; focus (repeat (first | exact Sel.here | apply Sel.there))) | apply Picks.skip)) ?_
  refine S.frzA (by repeat (first | exact Sel.here | apply Sel.there)) fun g hs hm hc => ?_
  replace hg := Fr.sub_trans hg hs
  replace hR := melted hR hm
  clear hs hm
  refine S.addNil (T := Rp.cells 3) (e := 142) ?_
  refine S.seq (S.region rfl ?_)
  refine O.op (.p rfl) (.as rfl) ?_
  refine O.nil ?_
  refine S.seq (S.seq (S.region rfl ?_))
  refine O.op (.p rfl) (.as rfl) ?_
  refine O.nil ?_
  refine S.block ?_
  refine S.loopK4 (ι := Nat) (κ := Int) (υ := List CellM) (τ := Option Addr × Nat) (fun i k done q => i ≤ cells.length ∧ done ++ keepL o (cells.drop i) k = keepL o cells many ∧ done.length ≤ i ∧ many - i ≤ k ∧ k ≤ many) (fun i k done q => [(7, .int .i64 (i : Int)), (2, .int .i64 k), (6, .slice q.1 done.length q.2)]) [(0, _), (1, _)] (fun i k done q => [OwnP (Rp.cells 3) 142 (.slice q.1 done.length q.2) (done.map encC), obj d 102 [.slice s.1.1 names.length s.1.2, .slice s.2.1 cells.length s.2.2, .int .i64 room], OwnP Rp.str 9 (.slice s.1.1 names.length s.1.2) names]) (fun i k done q => cells.length - i) (0) (many) ([]) ((none, 0)) (by exact ⟨Nat.zero_le _, rfl, Nat.le_refl _, by omega, by omega⟩) (.cons rfl (.cons rfl (.cons rfl (.nil)))) (.cons rfl (.cons rfl (.nil))) rfl fun i k done q hx ih => ?_
  have hm1 := meltRefl (g := g)
  obtain ⟨hx1, hx2, hx3, hx4, hx5⟩ := hx
  have hml : (done.map encC).length = done.length := List.length_map ..
  refine S.seq (S.seq (S.region rfl ?_))
  refine O.op (.p rfl) (.mv rfl) ?_
  refine O.op (.p rfl) (.mv rfl) ?_
  refine O.op (.p rfl) (.nilCheck rfl) ?_
  refine O.op (.p rfl) (.fieldObj FactRdisk2.fld102x1 rfl) ?_
  refine O.op (.p rfl) (.loadObj FactRdisk2.flat100 rfl (by repeat (first | exact Sel.here | apply Sel.there)) rfl) ?_
  refine O.op (.p rfl) (.len rfl Go.Proofs.Tryz.underlying100 rfl) ?_
  refine O.op (.p rfl) (.lss rfl rfl) ?_
  refine O.nil ?_
  first | refine S.condD rfl (fun h15 => ?_) (fun h15 => ?_) | refine S.condB rfl (fun h15 => ?_) (fun h15 => ?_)
  · have hi : i < cells.length := by omega
    rw [List.drop_eq_getElem_cons hi] at hx2
    simp only [keepL] at hx2
    by_cases hq : cells[i].1 = o
    ·
      rw [if_pos hq] at hx2
      by_cases hk : 0 < k
      ·
        rw [if_pos hk] at hx2
        refine S.skip (S.seq (S.block (S.seq (S.region rfl ?_))))
        refine O.op (.p rfl) (.mv rfl) ?_
        refine O.op (.p rfl) (.nilCheck rfl) ?_
        refine O.op (.p rfl) (.fieldObj FactRdisk2.fld102x1 rfl) ?_
        refine O.op (.p rfl) (.loadObj FactRdisk2.flat100 rfl (by repeat (first | exact Sel.here | apply Sel.there)) rfl) ?_
        refine O.op (.p rfl) (.mv rfl) ?_
        refine O.idx' (.p rfl) Go.Proofs.Tryz.underlying100 FactRdisk2.size142 rfl rfl rfl (hc) (by decide) (by first | omega | (simp; done) | (simp; omega) | decide) (fun p23 cs23 hp23 hr23 => ?_)
        obtain ⟨rfl, _, _⟩ := hr23
        rw [List.getElem_map] at hp23
        simp only [encC] at hp23
        refine O.op (.p rfl) (.loadAgg Go.Proofs.Tryz.isAgg142 (by kernel_rfl) rfl hp23) ?_
        refine O.opE (.p rfl) (.alloc (cs := [.int .i64 0, .int .u8 0, .bool false]) Go.Proofs.Tryz.zeroValue142 rfl) ?_
        rintro _ _ ⟨b8, rfl, rfl⟩
        refine O.opU rfl (.storeObj (by kernel_rfl) rfl rfl rfl rfl (by repeat (first | exact Sel.here | apply Sel.there)) (by first | (simp; done) | (simp [Value.cells]; done))) ?_
        refine O.nil ?_
        refine S.seq (S.seq ?_)
        refine S.objIs (b := b8) (cs' := [.int .i64 cells[i].1, byteV cells[i].2.1, .bool cells[i].2.2]) (by repeat (first | exact Sel.here | apply Sel.there)) rfl ?_
        refine S.region rfl ?_
        refine O.op (.p rfl) (.fieldObj FactRdisk2.fld142x0 rfl) ?_
        refine O.op (.p rfl) (.loadObj FactRdisk2.flat3 rfl (by repeat (first | exact Sel.here | apply Sel.there)) rfl) ?_
        refine O.op (.p rfl) (.mv rfl) ?_
        refine O.op (.p rfl) (.neq rfl rfl) ?_
        refine O.slot 28 (v' := .bool false) rfl (congrArg Value.bool (by simp [hq])) ?_
        refine O.nil ?_
        refine S.condF rfl ?_
        refine S.skip (S.seq (S.seq (S.region rfl ?_)))
        refine O.op (.p rfl) (.mv rfl) ?_
        refine O.op (.p rfl) (.gtr rfl rfl) ?_
        refine O.slot 34 (v' := .bool true) rfl (congrArg Value.bool (by exact decide_eq_true hk)) ?_
        refine O.nil ?_
        refine S.condT rfl ?_
        refine S.seq (S.region rfl ?_)
        refine O.op (.p rfl) (.fieldObj FactRdisk2.fld142x2 rfl) ?_
        refine O.opU rfl (.store1 FactRdisk2.flat4 rfl rfl (by first | rfl | assumption) (by repeat (first | exact Sel.here | apply Sel.there)) (by first | (simp; done) | (simp [Value.cells]; done))) ?_
        refine O.nil ?_
        refine S.objIs (b := b8) (cs' := [.int .i64 cells[i].1, byteV cells[i].2.1, .bool true]) (by repeat (first | exact Sel.here | apply Sel.there)) rfl ?_
        refine S.region rfl ?_
        refine O.op (.p rfl) (.mv rfl) ?_
        refine O.op (.p rfl) (.loadObjAgg (news := [_, _, _]) Go.Proofs.Tryz.isAgg142 (by kernel_rfl) rfl (by repeat (first | exact Sel.here | apply Sel.there)) rfl) ?_
        refine O.opE (.p rfl) (.litP (T := (Rp.cells 3)) (ys := [_]) Go.Proofs.Tryz.underlying100 FactRdisk2.elem142 (by decide) rfl rfl ⟨⟨rfl, rfl, by first | (simp; done) | (intro v hv; simp [Value.cells] at hv; rcases hv with rfl | rfl <;> rfl) | (refine List.forall_mem_cons.2 ⟨rfl, ?_⟩; repeat (first | exact (fun _ h => absurd h List.not_mem_nil) | refine List.forall_mem_cons.2 ⟨rfl, ?_⟩))⟩, trivial⟩ (by decide)) ?_
        rintro _ _ ⟨a38, c38, rfl, rfl⟩
        refine O.opE (.p rfl) (.appendO (T := (Rp.cells 3)) Go.Proofs.Tryz.underlying100 FactRdisk2.elem142 (by decide) rfl rfl (by repeat (first | exact Sel.here | apply Sel.there)) (by repeat (first | exact Sel.here | apply Sel.there)) (by first | omega | (simp; done) | (simp; omega) | decide) (by first | omega | (simp; done) | (simp; omega) | decide)) ?_
        rintro _ _ ⟨a39, c39, rfl, rfl⟩
        refine O.op (.p rfl) (.as rfl) ?_
        refine O.nil ?_
        refine S.region rfl ?_
        refine O.op (.p rfl) (.mv rfl) ?_
        refine O.op (.p rfl) (.sub rfl rfl (IntWalk.i64_in _ (by omega))) ?_
        refine O.op (.p rfl) (.as rfl) ?_
        refine O.nil ?_
        refine S.inBlock (S.region rfl ?_)
        refine O.op (.p rfl) (.mv rfl) ?_
        refine O.op (.p rfl) (.add rfl rfl (IntWalk.i64_in _ (by omega))) ?_
        refine O.op (.p rfl) (.as rfl) ?_
        refine O.nil ?_
        refine S.ownIs (T := Rp.cells 3) (v' := .slice a39 (done ++ [(cells[i].1, cells[i].2.1, true)]).length c39) (xs' := (done ++ [(cells[i].1, cells[i].2.1, true)]).map encC) (by repeat (first | exact Sel.here | apply Sel.there)) (by simp) (by rw [List.map_append]; rfl) ?_
        refine S.slot 6 (v' := .slice a39 (done ++ [(cells[i].1, cells[i].2.1, true)]).length c39) rfl (by simp) ?_
        refine S.pk ?_ (S.weaken ?_ (ih (i + 1) (k - 1) (done ++ [(cells[i].1, cells[i].2.1, true)]) ((a39, c39)) (by exact ⟨hi, by rw [List.append_assoc]; exact hx2, by simp; omega, by omega, by omega⟩) (by omega)))
        · repeat (first | exact Picks.all | exact Picks.nil | (apply Picks.cons; focus (repeat (first | exact Sel.here | apply Sel.there))) | apply Picks.skip)
        repeat (first | exact Sub.nil | refine Sub.cons rfl ?_)
      ·
        rw [if_neg hk] at hx2
        refine S.skip (S.seq (S.block (S.seq (S.region rfl ?_))))
        refine O.op (.p rfl) (.mv rfl) ?_
        refine O.op (.p rfl) (.nilCheck rfl) ?_
        refine O.op (.p rfl) (.fieldObj FactRdisk2.fld102x1 rfl) ?_
        refine O.op (.p rfl) (.loadObj FactRdisk2.flat100 rfl (by repeat (first | exact Sel.here | apply Sel.there)) rfl) ?_
        refine O.op (.p rfl) (.mv rfl) ?_
        refine O.idx' (.p rfl) Go.Proofs.Tryz.underlying100 FactRdisk2.size142 rfl rfl rfl (hc) (by decide) (by first | omega | (simp; done) | (simp; omega) | decide) (fun p23 cs23 hp23 hr23 => ?_)
        obtain ⟨rfl, _, _⟩ := hr23
        rw [List.getElem_map] at hp23
        simp only [encC] at hp23
        refine O.op (.p rfl) (.loadAgg Go.Proofs.Tryz.isAgg142 (by kernel_rfl) rfl hp23) ?_
        refine O.opE (.p rfl) (.alloc (cs := [.int .i64 0, .int .u8 0, .bool false]) Go.Proofs.Tryz.zeroValue142 rfl) ?_
        rintro _ _ ⟨b8, rfl, rfl⟩
        refine O.opU rfl (.storeObj (by kernel_rfl) rfl rfl rfl rfl (by repeat (first | exact Sel.here | apply Sel.there)) (by first | (simp; done) | (simp [Value.cells]; done))) ?_
        refine O.nil ?_
        refine S.seq (S.seq ?_)
        refine S.objIs (b := b8) (cs' := [.int .i64 cells[i].1, byteV cells[i].2.1, .bool cells[i].2.2]) (by repeat (first | exact Sel.here | apply Sel.there)) rfl ?_
        refine S.region rfl ?_
        refine O.op (.p rfl) (.fieldObj FactRdisk2.fld142x0 rfl) ?_
        refine O.op (.p rfl) (.loadObj FactRdisk2.flat3 rfl (by repeat (first | exact Sel.here | apply Sel.there)) rfl) ?_
        refine O.op (.p rfl) (.mv rfl) ?_
        refine O.op (.p rfl) (.neq rfl rfl) ?_
        refine O.slot 28 (v' := .bool false) rfl (congrArg Value.bool (by simp [hq])) ?_
        refine O.nil ?_
        refine S.condF rfl ?_
        refine S.skip (S.seq (S.seq (S.region rfl ?_)))
        refine O.op (.p rfl) (.mv rfl) ?_
        refine O.op (.p rfl) (.gtr rfl rfl) ?_
        refine O.slot 34 (v' := .bool false) rfl (congrArg Value.bool (by exact decide_eq_false hk)) ?_
        refine O.nil ?_
        refine S.condF rfl ?_
        refine S.skip (S.region rfl ?_)
        refine O.op (.p rfl) (.mv rfl) ?_
        refine O.op (.p rfl) (.sub rfl rfl (IntWalk.i64_in _ (by omega))) ?_
        refine O.op (.p rfl) (.as rfl) ?_
        refine O.nil ?_
        refine S.inBlock (S.region rfl ?_)
        refine O.op (.p rfl) (.mv rfl) ?_
        refine O.op (.p rfl) (.add rfl rfl (IntWalk.i64_in _ (by omega))) ?_
        refine O.op (.p rfl) (.as rfl) ?_
        refine O.nil ?_
        refine S.pk ?_ (S.weaken ?_ (ih (i + 1) (k - 1) (done) (q) (by exact ⟨hi, hx2, by omega, by omega, by omega⟩) (by omega)))
        · repeat (first | exact Picks.all | exact Picks.nil | (apply Picks.cons; focus (repeat (first | exact Sel.here | apply Sel.there))) | apply Picks.skip)
        repeat (first | exact Sub.nil | refine Sub.cons rfl ?_)
    ·
      rw [if_neg hq] at hx2
      refine S.skip (S.seq (S.block (S.seq (S.region rfl ?_))))
      refine O.op (.p rfl) (.mv rfl) ?_
      refine O.op (.p rfl) (.nilCheck rfl) ?_
      refine O.op (.p rfl) (.fieldObj FactRdisk2.fld102x1 rfl) ?_
      refine O.op (.p rfl) (.loadObj FactRdisk2.flat100 rfl (by repeat (first | exact Sel.here | apply Sel.there)) rfl) ?_
      refine O.op (.p rfl) (.mv rfl) ?_
      refine O.idx' (.p rfl) Go.Proofs.Tryz.underlying100 FactRdisk2.size142 rfl rfl rfl (hc) (by decide) (by first | omega | (simp; done) | (simp; omega) | decide) (fun p23 cs23 hp23 hr23 => ?_)
      obtain ⟨rfl, _, _⟩ := hr23
      rw [List.getElem_map] at hp23
      simp only [encC] at hp23
      refine O.op (.p rfl) (.loadAgg Go.Proofs.Tryz.isAgg142 (by kernel_rfl) rfl hp23) ?_
      refine O.opE (.p rfl) (.alloc (cs := [.int .i64 0, .int .u8 0, .bool false]) Go.Proofs.Tryz.zeroValue142 rfl) ?_
      rintro _ _ ⟨b8, rfl, rfl⟩
      refine O.opU rfl (.storeObj (by kernel_rfl) rfl rfl rfl rfl (by repeat (first | exact Sel.here | apply Sel.there)) (by first | (simp; done) | (simp [Value.cells]; done))) ?_
      refine O.nil ?_
      refine S.seq (S.seq ?_)
      refine S.objIs (b := b8) (cs' := [.int .i64 cells[i].1, byteV cells[i].2.1, .bool cells[i].2.2]) (by repeat (first | exact Sel.here | apply Sel.there)) rfl ?_
      refine S.region rfl ?_
      refine O.op (.p rfl) (.fieldObj FactRdisk2.fld142x0 rfl) ?_
      refine O.op (.p rfl) (.loadObj FactRdisk2.flat3 rfl (by repeat (first | exact Sel.here | apply Sel.there)) rfl) ?_
      refine O.op (.p rfl) (.mv rfl) ?_
      refine O.op (.p rfl) (.neq rfl rfl) ?_
      refine O.slot 28 (v' := .bool true) rfl (congrArg Value.bool (by simp [hq])) ?_
      refine O.nil ?_
      refine S.condT rfl ?_
      refine S.seq (S.region rfl ?_)
      refine O.op (.p rfl) (.mv rfl) ?_
      refine O.op (.p rfl) (.loadObjAgg (news := [_, _, _]) Go.Proofs.Tryz.isAgg142 (by kernel_rfl) rfl (by repeat (first | exact Sel.here | apply Sel.there)) rfl) ?_
      refine O.opE (.p rfl) (.litP (T := (Rp.cells 3)) (ys := [_]) Go.Proofs.Tryz.underlying100 FactRdisk2.elem142 (by decide) rfl rfl ⟨⟨rfl, rfl, by first | (simp; done) | (intro v hv; simp [Value.cells] at hv; rcases hv with rfl | rfl <;> rfl) | (refine List.forall_mem_cons.2 ⟨rfl, ?_⟩; repeat (first | exact (fun _ h => absurd h List.not_mem_nil) | refine List.forall_mem_cons.2 ⟨rfl, ?_⟩))⟩, trivial⟩ (by decide)) ?_
      rintro _ _ ⟨a31, c31, rfl, rfl⟩
      refine O.opE (.p rfl) (.appendO (T := (Rp.cells 3)) Go.Proofs.Tryz.underlying100 FactRdisk2.elem142 (by decide) rfl rfl (by repeat (first | exact Sel.here | apply Sel.there)) (by repeat (first | exact Sel.here | apply Sel.there)) (by first | omega | (simp; done) | (simp; omega) | decide) (by first | omega | (simp; done) | (simp; omega) | decide)) ?_
      rintro _ _ ⟨a32, c32, rfl, rfl⟩
      refine O.op (.p rfl) (.as rfl) ?_
      refine O.nil ?_
      refine S.exit rfl ?_
      refine S.region rfl ?_
      refine O.op (.p rfl) (.mv rfl) ?_
      refine O.op (.p rfl) (.add rfl rfl (IntWalk.i64_in _ (by omega))) ?_
      refine O.op (.p rfl) (.as rfl) ?_
      refine O.nil ?_
      refine S.ownIs (T := Rp.cells 3) (v' := .slice a32 (done ++ [cells[i]]).length c32) (xs' := (done ++ [cells[i]]).map encC) (by repeat (first | exact Sel.here | apply Sel.there)) (by simp) (by rw [List.map_append]; rfl) ?_
      refine S.slot 6 (v' := .slice a32 (done ++ [cells[i]]).length c32) rfl (by simp) ?_
      refine S.pk ?_ (S.weaken ?_ (ih (i + 1) (k) (done ++ [cells[i]]) ((a32, c32)) (by exact ⟨hi, by rw [List.append_assoc]; exact hx2, by simp; omega, by omega, by omega⟩) (by omega)))
      · repeat (first | exact Picks.all | exact Picks.nil | (apply Picks.cons; focus (repeat (first | exact Sel.here | apply Sel.there))) | apply Picks.skip)
      repeat (first | exact Sub.nil | refine Sub.cons rfl ?_)
  · clear ih
    have hi : i = cells.length := by omega
    subst hi
    rw [List.drop_length] at hx2
    simp only [keepL, List.append_nil] at hx2
    subst hx2
    refine S.exit rfl ?_
    refine S.region rfl ?_
    refine O.op (.p rfl) (.mv rfl) ?_
    refine O.op (.p rfl) (.mv rfl) ?_
    refine O.op (.p rfl) (.nilCheck rfl) ?_
    refine O.op (.p rfl) (.fieldObj FactRdisk2.fld102x1 rfl) ?_
    refine O.opU rfl (.store1 FactRdisk2.flat100 rfl rfl (by first | rfl | assumption) (by repeat (first | exact Sel.here | apply Sel.there)) (by first | (simp; done) | (simp [Value.cells]; done))) ?_
    refine O.nil ?_
    refine S.end0 Go.Proofs.Tryz.results92 fun w hw => Holds.end_ hR hw ?_
    exact ⟨_, ⟨(s.1, q), rfl, rfl⟩, by repeat (first | exact Picks.all | exact Picks.nil | (apply Picks.cons; focus (repeat (first | exact Sel.here | apply Sel.there))) | apply Picks.skip)⟩

end Go.Proofs.YtkkcpckgnfcncaaGreatDoor
