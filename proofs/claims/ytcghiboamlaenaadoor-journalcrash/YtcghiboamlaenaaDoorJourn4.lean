import Derived.Test.YtcghiboamlaenaaDoorJourn3
import Derived.Test.YtcghiboamlaenaaDoorSpRange
import Derived.Test.YtcghiboamlaenaaDoorSpGp
open Go Go.Sp
set_option maxRecDepth 100000
attribute [local irreducible] obj Own OwnP
namespace Go.Proofs.YtcghiboamlaenaaDoor
theorem FactJourn4.elem25 : elemIs Go.Proofs.Tryd.prog 25 2 32 [.int .u8 0, .slice none 0 0] := elemIs.mk (by kernel_rfl) rfl
theorem FactJourn4.flat3 : Go.Sp.flat1 Go.Proofs.Tryd.prog 3 = true := by kernel_rfl
theorem FactJourn4.flat35 : Go.Sp.flat1 Go.Proofs.Tryd.prog 35 = true := by kernel_rfl
theorem FactJourn4.flat4 : Go.Sp.flat1 Go.Proofs.Tryd.prog 4 = true := by kernel_rfl
theorem FactJourn4.fld87x1 : fieldOff Go.Proofs.Tryd.prog 87 1 = some 1 := by kernel_rfl
theorem FactJourn4.fld87x2 : fieldOff Go.Proofs.Tryd.prog 87 2 = some 2 := by kernel_rfl
theorem FactJourn4.mixed : Go.Proofs.Tryd.prog.follows .mixedOrders = true := by kernel_rfl
theorem FactJourn4.ok48 : callable Go.Proofs.Tryd.prog 48 = true := by kernel_rfl
theorem FactJourn4.ok59 : callable Go.Proofs.Tryd.prog 59 = true := by kernel_rfl

abbrev EntG : Gp Ent := Gp.prod (Gp.pure Rp.u8) (Gp.prod (Gp.row Rp.u8 5) Gp.unit)
theorem EntG.mk {k : UInt8} {xs : List UInt8} {a : Option Addr} {c : Nat} {m : Fr} (h : OwnP Rp.u8 5 (.slice a xs.length c) xs m) : EntG.own [byteV k, .slice a xs.length c] (k, xs, ()) m :=
  Gp.own_pure_prod (c := [byteV k]) (d := [.slice a xs.length c]) rfl (Gp.own_unit ⟨_, rfl, h⟩)
theorem all_c {r : Fr} {sc : Nat} : Con Go.Proofs.Tryd.prog 48 #[.pointer (some ⟨sc, 0, none⟩)] r [] (Ret fun v η => ∃ b, v = .func (.func 59) #[] #[.pointer (some ⟨b, 0, none⟩)] ∧ η = [obj b 85 [.pointer (some ⟨sc, 0, none⟩)]]) := by
  refine Con.of (n := 4) [.pointer (some ⟨sc, 0, none⟩)] rfl Go.Proofs.Tryd.func48 rfl rfl rfl fun g hg R hR => ?_
  refine S.seq (S.region rfl ?_)
  refine O.opE (.p rfl) (.box (cs := [_]) rfl rfl) ?_
  rintro _ _ ⟨b1, rfl, rfl⟩
  refine O.op (.p rfl) (.as rfl) ?_
  refine O.nil ?_
  refine S.seq (S.region rfl ?_)
  refine O.op (.p rfl) (.mkFunc rfl rfl) ?_
  refine O.op (.p rfl) (.as rfl) ?_
  refine O.nil ?_
  refine S.ret Go.Proofs.Tryd.results48 rfl fun w hw => Holds.end_ hR hw ?_
  exact ⟨_, ⟨_, rfl, rfl⟩, by repeat (first | exact Picks.all | exact Picks.nil | (apply Picks.cons; focus (repeat (first | exact Sel.here | apply Sel.there))) | apply Picks.skip)⟩
theorem scan_c {r : Fr} {va : Value} {bs : List UInt8} (ha : Arr Rp.u8 r va bs) (hb : bs.length ≤ 70368744177664) :
    Con Go.Proofs.Tryd.prog 26 #[va] r [] (Ret fun v η => ∃ a c, v = .tuple #[.slice a (scanM bs).1.length c, .int .i64 ((scanM bs).2.1 : Int), .bool (scanM bs).2.2] ∧ η = [ListP EntG 25 (.slice a (scanM bs).1.length c) (scanM bs).1]) := by
  refine Con.of (n := 26) [va] rfl Go.Proofs.Tryd.func26 rfl rfl rfl fun g hg R hR => ?_
  have ha := ha.mono hg
  obtain ⟨a1, c1, rfl⟩ := ha.shape
  have hlen := (scanM_len bs).1
  refine S.seq (S.region rfl ?_)
  refine O.opE (.p rfl) (.alloc (cs := [.slice none 0 0]) Go.Proofs.Tryd.zeroValue35 rfl) ?_
  rintro _ _ ⟨b2, rfl, rfl⟩
  refine O.op (.p rfl) (.as rfl) ?_
  refine O.op (.p rfl) (.as rfl) ?_
  refine O.nil ?_
  refine S.seq (S.region rfl ?_)
  refine O.op (.p rfl) (.mv rfl) ?_
  refine O.op (.p rfl) (.build (cs := [_, _, _]) Go.Proofs.Tryd.underlying87 rfl rfl rfl rfl rfl) ?_
  refine O.opE (.p rfl) (.box (cs := [_, _, _]) rfl rfl) ?_
  rintro _ _ ⟨b9, rfl, rfl⟩
  refine O.op (.p rfl) (.as rfl) ?_
  refine O.nil ?_
  refine S.seq (S.seq (S.region rfl ?_))
  refine O.op (.p rfl) (.mv rfl) ?_
  refine O.call0 (.p rfl) rfl FactJourn4.ok48 rfl rfl (all_c) ?_
  rintro v11 _ ⟨b11, rfl, rfl⟩
  try simp only [List.cons_append, List.nil_append, List.append_nil]
  refine O.nil ?_
  refine S.block ?_
  refine S.listNil EntG 25 ?_
  refine S.rangeAll (psl := [12]) (β := Ent) (χ := Option Addr × Nat) (τ := Option Addr × Nat) (vs := fun y e => [.agg #[byteV y.1, .slice e.1 y.2.1.length e.2]]) (own := fun y e => [OwnP Rp.u8 5 (.slice e.1 y.2.1.length e.2) y.2.1]) (θ := [obj b11 85 [.pointer (some ⟨b9, 0, none⟩)], obj b9 87 [.slice a1 bs.length c1, .int .i64 0, .bool false]]) (θ' := [obj b9 87 [.slice a1 bs.length c1, .int .i64 ((scanM bs).2.1 : Int), .bool (scanM bs).2.2]]) (ys := (scanM bs).1) (fun done t => [obj b2 35 [.slice t.1 done.length t.2], ListP EntG 25 (.slice t.1 done.length t.2) done]) (none, 0) rfl FactJourn4.ok59 rfl (fun _ _ => rfl) (by kernel_rfl) (fun l J hy => Con.mono (all1_c ha (fun done k xs a c hp => hy done (k, xs, ()) (a, c) hp)) (Ret.imp fun _ _ h => h.2)) (by repeat (first | exact Sels.nil | (apply Sels.cons; focus (repeat (first | exact Sel.here | apply Sel.there))))) (fun l D0 fid tm done y e t hpre g hgr R hR => ?_) (fun D0 t => ?_)
  · simp only [under, List.cons_append, List.nil_append]
    replace hg := Fr.sub_trans hg hgr
    obtain ⟨ky, xs, ⟨⟩⟩ := y
    obtain ⟨ae, ce⟩ := e
    obtain ⟨at', ct⟩ := t
    have hpl := hpre.length_le
    simp only [List.length_append, List.length_singleton] at hpl
    refine S.region rfl ?_
    refine O.opE (.p rfl) (.alloc (cs := [.int .u8 0, .slice none 0 0]) Go.Proofs.Tryd.zeroValue25 rfl) ?_
    rintro _ _ ⟨b6, rfl, rfl⟩
    refine O.opU rfl (.storeObj (by kernel_rfl) rfl rfl rfl rfl (by repeat (first | exact Sel.here | apply Sel.there)) (by first | (simp; done) | (simp [Value.cells]; done))) ?_
    refine O.nil ?_
    refine S.beginRound (by repeat (first | exact Sel.here | apply Sel.there)) rfl ?_
    refine S.block ?_
    refine S.listOpen (k' := 2) rfl (by repeat (first | exact Sel.here | apply Sel.there)) fun css hcl => ?_
    rw [← hcl]
    have hcb : css.length + 1 ≤ 4294967296000 := by omega
    refine S.region rfl ?_
    refine O.op (.p rfl) (.loadObj FactJourn4.flat35 rfl (by repeat (first | exact Sel.here | apply Sel.there)) rfl) ?_
    refine O.op (.p rfl) (.loadObjAgg (news := [_, _]) Go.Proofs.Tryd.isAgg25 (by kernel_rfl) rfl (by repeat (first | exact Sel.here | apply Sel.there)) rfl) ?_
    refine O.opE (.p rfl) (.litP (T := (Rp.cells 2)) (ys := [_]) Go.Proofs.Tryd.underlying35 FactJourn4.elem25 (by decide) rfl rfl ⟨⟨rfl, rfl, by first | (simp; done) | (intro v hv; simp [Value.cells] at hv; rcases hv with rfl | rfl <;> rfl)⟩, trivial⟩ (by decide)) ?_
    rintro _ _ ⟨a15, c15, rfl, rfl⟩
    refine O.opE (.p rfl) (.appendO (T := (Rp.cells 2)) Go.Proofs.Tryd.underlying35 FactJourn4.elem25 (by decide) rfl rfl (by repeat (first | exact Sel.here | apply Sel.there)) (by repeat (first | exact Sel.here | apply Sel.there)) (by first | omega | (simp; done) | (simp; omega) | decide) (by first | omega | (simp; done) | (simp; omega) | decide)) ?_
    rintro _ _ ⟨a16, c16, rfl, rfl⟩
    refine O.opU rfl (.store1 FactJourn4.flat35 rfl rfl (by first | rfl | assumption) (by repeat (first | exact Sel.here | apply Sel.there)) (by first | (simp; done) | (simp [Value.cells]; done))) ?_
    refine O.nil ?_
    refine S.inBlock ?_
    have hcs : (Value.agg #[byteV ky, .slice ae xs.length ce]).cells.toList = [byteV ky, .slice ae xs.length ce] := by simp [Value.cells]
    simp only [hcs, List.length_singleton]
    refine S.conv (B := OwnP Rp.u8 5 (.slice ae xs.length ce) xs) (C := EntG.own [byteV ky, .slice ae xs.length ce] (ky, xs, ())) (by repeat (first | exact Sel.here | apply Sel.there)) (fun m x => ⟨m, Fr.sub_refl _, EntG.mk x⟩) ?_
    refine S.listPut (k' := 2) rfl (by repeat (first | exact Sel.here | apply Sel.there)) (by repeat (first | exact Sel.here | apply Sel.there)) (by repeat (first | exact Sel.here | apply Sel.there)) ?_
    refine S.roundEnd (by repeat (first | exact Sel.here | apply Sel.there)) fun w hw => hR (a16, c16) w ?_
    rw [hcl] at hw
    simp only [List.length_append, List.length_singleton]
    exact hw.picks (by repeat (first | exact Picks.all | exact Picks.nil | (apply Picks.cons; focus (repeat (first | exact Sel.here | apply Sel.there))) | apply Picks.skip))
  · simp only [List.cons_append, List.nil_append, List.append_nil]
    refine S.inBlock (S.seq ?_)
    refine S.frzT (B := obj b9 87 [.slice a1 bs.length c1, .int .i64 ((scanM bs).2.1 : Int), .bool (scanM bs).2.2]) (by repeat (first | exact Sel.here | apply Sel.there)) fun g1 hs1 ⟨m1, hm1', hsm1⟩ th1 => ?_
    have hat1 := (obj_at hm1').mono hsm1
    refine S.regionD (L := [1, 2, 3, 4, 5, 6, 7, 8, 0, 9, 10, 11]) FactJourn4.mixed (by kernel_rfl) ?_
    refine .quiet (.p rfl) rfl (fun _ => .mv rfl) ?_
    refine .quiet (.p rfl) rfl (fun _ => .nilCheck rfl) ?_
    refine .quiet (.p rfl) rfl (fun _ => .fieldAddr FactJourn4.fld87x1 rfl) ?_
    refine .quiet (.p rfl) rfl (fun _ => .loadAt FactJourn4.flat3 rfl (hat1.drop 1) rfl) ?_
    refine .quiet (.p rfl) rfl (fun _ => .mv rfl) ?_
    refine .quiet (.p rfl) rfl (fun _ => .nilCheck rfl) ?_
    refine .quiet (.p rfl) rfl (fun _ => .fieldAddr FactJourn4.fld87x2 rfl) ?_
    refine .quiet (.p rfl) rfl (fun _ => .loadAt FactJourn4.flat4 rfl (hat1.drop 2) rfl) ?_
    refine OD.loadL (.p rfl) (by kernel_rfl) (fun _ => .loadObj FactJourn4.flat35 rfl (by repeat (first | exact Sel.here | apply Sel.there)) rfl) ?_
    refine OD.store1 rfl (by kernel_rfl) FactJourn4.flat35 rfl rfl (by first | rfl | assumption) (by repeat (first | exact Sel.here | apply Sel.there)) (by first | (simp; done) | (simp [Value.cells]; done)) ?_
    refine .quiet (.p rfl) rfl (fun _ => .as rfl) ?_
    refine .quiet (.p rfl) rfl (fun _ => .as rfl) ?_
    refine .nil ?_
    refine th1 ?_
    refine S.retM3 (.inr ⟨_, rfl⟩) (.cons (by repeat (first | exact Sel.here | apply Sel.there)) .nil) Go.Proofs.Tryd.results26 (.cell FactJourn4.flat35 rfl (by repeat (first | exact Sel.here | apply Sel.there))) (.tmp rfl) (.tmp rfl) fun w hw => ?_
    exact Holds.end_ hR hw ⟨_, ⟨_, _, rfl, rfl⟩, by repeat (first | exact Picks.all | exact Picks.nil | (apply Picks.cons; focus (repeat (first | exact Sel.here | apply Sel.there))) | apply Picks.skip)⟩

end Go.Proofs.YtcghiboamlaenaaDoor
