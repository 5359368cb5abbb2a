import Derived.Test.YtkkcpckgnfcncaaGreatDoorRdisk6
open Go Go.Sp
set_option maxRecDepth 100000
attribute [local irreducible] obj Own OwnP
namespace Go.Proofs.YtkkcpckgnfcncaaGreatDoor
theorem FactRdisk7.elem142 : elemIs Go.Proofs.Tryz.prog 142 3 16 [.int .i64 0, .int .u8 0, .bool false] := elemIs.mk (by kernel_rfl) rfl
theorem FactRdisk7.elem9 : elemIs Go.Proofs.Tryz.prog 9 1 16 [.string ⟨#[]⟩] := elemIs.mk (by kernel_rfl) rfl
theorem FactRdisk7.flat100 : Go.Sp.flat1 Go.Proofs.Tryz.prog 100 = true := by kernel_rfl
theorem FactRdisk7.flat22 : Go.Sp.flat1 Go.Proofs.Tryz.prog 22 = true := by kernel_rfl
theorem FactRdisk7.flat3 : Go.Sp.flat1 Go.Proofs.Tryz.prog 3 = true := by kernel_rfl
theorem FactRdisk7.flat36 : Go.Sp.flat1 Go.Proofs.Tryz.prog 36 = true := by kernel_rfl
theorem FactRdisk7.flat9 : Go.Sp.flat1 Go.Proofs.Tryz.prog 9 = true := by kernel_rfl
theorem FactRdisk7.fld102x0 : fieldOff Go.Proofs.Tryz.prog 102 0 = some 0 := by kernel_rfl
theorem FactRdisk7.fld102x1 : fieldOff Go.Proofs.Tryz.prog 102 1 = some 1 := by kernel_rfl
theorem FactRdisk7.fld102x2 : fieldOff Go.Proofs.Tryz.prog 102 2 = some 2 := by kernel_rfl
theorem FactRdisk7.fld48x0 : fieldOff Go.Proofs.Tryz.prog 48 0 = some 0 := by kernel_rfl
theorem FactRdisk7.fld48x1 : fieldOff Go.Proofs.Tryz.prog 48 1 = some 1 := by kernel_rfl
theorem FactRdisk7.fld48x2 : fieldOff Go.Proofs.Tryz.prog 48 2 = some 2 := by kernel_rfl
theorem FactRdisk7.fld48x3 : fieldOff Go.Proofs.Tryz.prog 48 3 = some 3 := by kernel_rfl
theorem FactRdisk7.fld48x4 : fieldOff Go.Proofs.Tryz.prog 48 4 = some 4 := by kernel_rfl
theorem FactRdisk7.mixed : Go.Proofs.Tryz.prog.follows .mixedOrders = true := by kernel_rfl
theorem FactRdisk7.ok13 : callable Go.Proofs.Tryz.prog 13 = true := by kernel_rfl
theorem FactRdisk7.ok14 : callable Go.Proofs.Tryz.prog 14 = true := by kernel_rfl
theorem FactRdisk7.ok17 : callable Go.Proofs.Tryz.prog 17 = true := by kernel_rfl
theorem FactRdisk7.ok18 : callable Go.Proofs.Tryz.prog 18 = true := by kernel_rfl
theorem FactRdisk7.ok24 : callable Go.Proofs.Tryz.prog 24 = true := by kernel_rfl
theorem FactRdisk7.ok25 : callable Go.Proofs.Tryz.prog 25 = true := by kernel_rfl
theorem FactRdisk7.ok27 : callable Go.Proofs.Tryz.prog 27 = true := by kernel_rfl
theorem FactRdisk7.ok28 : callable Go.Proofs.Tryz.prog 28 = true := by kernel_rfl
theorem FactRdisk7.ok40 : callable Go.Proofs.Tryz.prog 40 = true := by kernel_rfl
theorem FactRdisk7.ok44 : callable Go.Proofs.Tryz.prog 44 = true := by kernel_rfl
theorem FactRdisk7.ok45 : callable Go.Proofs.Tryz.prog 45 = true := by kernel_rfl
theorem FactRdisk7.ok46 : callable Go.Proofs.Tryz.prog 46 = true := by kernel_rfl
theorem FactRdisk7.ok47 : callable Go.Proofs.Tryz.prog 47 = true := by kernel_rfl
theorem FactRdisk7.ok48 : callable Go.Proofs.Tryz.prog 48 = true := by kernel_rfl
theorem FactRdisk7.ok49 : callable Go.Proofs.Tryz.prog 49 = true := by kernel_rfl
theorem FactRdisk7.ok50 : callable Go.Proofs.Tryz.prog 50 = true := by kernel_rfl
theorem FactRdisk7.ok95 : callable Go.Proofs.Tryz.prog 95 = true := by kernel_rfl
theorem FactRdisk7.ok96 : callable Go.Proofs.Tryz.prog 96 = true := by kernel_rfl
theorem FactRdisk7.ok97 : callable Go.Proofs.Tryz.prog 97 = true := by kernel_rfl
theorem FactRdisk7.size9 : (Go.Proofs.Tryz.prog.info? 9).map (·.size) = some 1 := by kernel_rfl

theorem refCopy_c {r : Fr} {d : Nat} {m : RefM} {s : RefS} (ho : At r ⟨d, 0, none⟩ (refO m s)) (hn : Arr Rp.str r (.slice s.1.1 m.names.length s.1.2) m.names) (hc : Arr (Rp.cells 3) r (.slice s.2.1 m.cells.length s.2.2) (m.cells.map encC)) (hl : m.cells.length ≤ 1000000000) (hnl : m.names.length ≤ 1000000000) :
    Con Go.Proofs.Tryz.prog 25 #[.pointer (some ⟨d, 0, none⟩)] r [] (Ret fun v η => ∃ d' s', v = .pointer (some ⟨d', 0, none⟩) ∧ η = refL d' m s') := by
  refine Con.of (n := 21) [.pointer (some ⟨d, 0, none⟩)] rfl Go.Proofs.Tryz.func25 rfl rfl rfl fun g hg R hR => ?_
  replace ho : At g.h ⟨d, 0, none⟩ [.slice s.1.1 m.names.length s.1.2, .slice s.2.1 m.cells.length s.2.2, .int .i64 m.room] := At.mono hg ho
  have hn := hn.mono hg
  have hc := hc.mono hg
  have hml : (m.cells.map encC).length = m.cells.length := List.length_map ..
  refine S.seq (S.region rfl ?_)
  refine O.op (.p rfl) (.as rfl) ?_
  refine O.nil ?_
  refine S.seq ?_
  refine S.regionJ (L := [1, 2, 3, 4, 7, 8, 9, 10, 12, 13, 14, 15, 0, 5, 6, 11, 16, 17, 18]) (fun (x : RefS × Nat) => [(2, .pointer (some ⟨x.2, 0, none⟩))]) [] (fun (x : RefS × Nat) => refL x.2 m x.1) (.nil) FactRdisk7.mixed (by kernel_rfl) (fun kk key => ?_) (fun x => ?_)
  · refine .quiet (.p rfl) rfl (fun _ => .mv rfl) ?_
    refine .quiet (.p rfl) rfl (fun _ => .nilCheck rfl) ?_
    refine .quiet (.p rfl) rfl (fun _ => .fieldAddr FactRdisk7.fld102x0 rfl) ?_
    refine .quiet (.p rfl) rfl (fun _ => .loadAt FactRdisk7.flat36 rfl ho rfl) ?_
    refine .quiet (.p rfl) rfl (fun _ => .mv rfl) ?_
    refine .quiet (.p rfl) rfl (fun _ => .nilCheck rfl) ?_
    refine .quiet (.p rfl) rfl (fun _ => .fieldAddr FactRdisk7.fld102x1 rfl) ?_
    refine .quiet (.p rfl) rfl (fun _ => .loadAt FactRdisk7.flat100 rfl (ho.drop 1) rfl) ?_
    refine .quiet (.p rfl) rfl (fun _ => .mv rfl) ?_
    refine .quiet (.p rfl) rfl (fun _ => .nilCheck rfl) ?_
    refine .quiet (.p rfl) rfl (fun _ => .fieldAddr FactRdisk7.fld102x2 rfl) ?_
    refine .quiet (.p rfl) rfl (fun _ => .loadAt FactRdisk7.flat3 rfl (ho.drop 2) rfl) ?_
    refine OD.alt2 0 6 [5, 6, 11, 16, 17, 18] [0, 5, 11, 16, 17, 18] (by kernel_rfl) rfl rfl ?_ ?_
    · refine ODt.litP (T := Rp.str) (ys := []) (.p rfl) (by kernel_rfl) Go.Proofs.Tryz.underlying36 FactRdisk7.elem9 (by decide) rfl rfl trivial (by decide) (fun a3 c3 => ?_)
      refine OD.alt2 5 6 [6, 11, 16, 17, 18] [5, 11, 16, 17, 18] (by kernel_rfl) rfl rfl ?_ ?_
      · refine ODt.appendP (.p rfl) (by kernel_rfl) (T := Rp.str) pure_str Go.Proofs.Tryz.underlying36 FactRdisk7.elem9 (by decide) rfl rfl (by repeat (first | exact Sel.here | apply Sel.there)) (by first | assumption | exact Arr.mono hg (by assumption) | exact Arr.left (by assumption) | exact Arr.left (Arr.mono hg (by assumption))) (by first | omega | (simp; done) | (simp; omega) | decide) (by first | omega | (simp; done) | (simp; omega) | decide) (fun a8 c8 => ?_)
        refine OD.litP (T := (Rp.cells 3)) (ys := []) (.p rfl) (by kernel_rfl) Go.Proofs.Tryz.underlying100 FactRdisk7.elem142 (by decide) rfl rfl trivial (by decide) (fun a9 c9 => ?_)
        refine OD.appendP (.p rfl) (by kernel_rfl) (T := (Rp.cells 3)) (pure_cells 3) Go.Proofs.Tryz.underlying100 FactRdisk7.elem142 (by decide) rfl rfl (by repeat (first | exact Sel.here | apply Sel.there)) (by first | assumption | exact Arr.mono hg (by assumption) | exact Arr.left (by assumption) | exact Arr.left (Arr.mono hg (by assumption))) (by first | omega | (simp; done) | (simp; omega) | decide) (by first | omega | (simp; done) | (simp; omega) | decide) (fun a14 c14 => ?_)
        refine .quiet (.p rfl) rfl (fun _ => .build (cs := [_, _, _]) Go.Proofs.Tryz.underlying102 rfl rfl rfl rfl rfl) ?_
        refine OD.boxP (cs := [_, _, _]) (.p rfl) (by kernel_rfl) rfl rfl (fun b20 => ?_)
        refine .quiet (.p rfl) rfl (fun _ => .as rfl) ?_
        refine .nil ?_
        refine S.ownIs (T := Rp.str) (v' := .slice a8 m.names.length c8) (xs' := m.names) (by repeat (first | exact Sel.here | apply Sel.there)) (by simp) (by simp) ?_
        refine S.ownIs (T := Rp.cells 3) (v' := .slice a14 m.cells.length c14) (xs' := m.cells.map encC) (by repeat (first | exact Sel.here | apply Sel.there)) (by simp) (by simp) ?_
        refine S.objIs (b := b20) (cs' := [.slice a8 m.names.length c8, .slice a14 m.cells.length c14, .int .i64 m.room]) (by repeat (first | exact Sel.here | apply Sel.there)) (by simp) ?_
        refine S.pk (ζ := refL b20 m ((a8, c8), (a14, c14))) (by repeat (first | exact Picks.all | exact Picks.nil | (apply Picks.cons; focus (repeat (first | exact Sel.here | apply Sel.there))) | apply Picks.skip)) ?_
        exact S.weaken (Sub.app (.cons rfl (.nil)) (.nil)) (key (((a8, c8), (a14, c14)), b20))
      · refine ODt.litP (T := (Rp.cells 3)) (ys := []) (.p rfl) (by kernel_rfl) Go.Proofs.Tryz.underlying100 FactRdisk7.elem142 (by decide) rfl rfl trivial (by decide) (fun a9 c9 => ?_)
        refine OD.appendP (.p rfl) (by kernel_rfl) (T := Rp.str) pure_str Go.Proofs.Tryz.underlying36 FactRdisk7.elem9 (by decide) rfl rfl (by repeat (first | exact Sel.here | apply Sel.there)) (by first | assumption | exact Arr.mono hg (by assumption) | exact Arr.left (by assumption) | exact Arr.left (Arr.mono hg (by assumption))) (by first | omega | (simp; done) | (simp; omega) | decide) (by first | omega | (simp; done) | (simp; omega) | decide) (fun a8 c8 => ?_)
        refine OD.appendP (.p rfl) (by kernel_rfl) (T := (Rp.cells 3)) (pure_cells 3) Go.Proofs.Tryz.underlying100 FactRdisk7.elem142 (by decide) rfl rfl (by repeat (first | exact Sel.here | apply Sel.there)) (by first | assumption | exact Arr.mono hg (by assumption) | exact Arr.left (by assumption) | exact Arr.left (Arr.mono hg (by assumption))) (by first | omega | (simp; done) | (simp; omega) | decide) (by first | omega | (simp; done) | (simp; omega) | decide) (fun a14 c14 => ?_)
        refine .quiet (.p rfl) rfl (fun _ => .build (cs := [_, _, _]) Go.Proofs.Tryz.underlying102 rfl rfl rfl rfl rfl) ?_
        refine OD.boxP (cs := [_, _, _]) (.p rfl) (by kernel_rfl) rfl rfl (fun b20 => ?_)
        refine .quiet (.p rfl) rfl (fun _ => .as rfl) ?_
        refine .nil ?_
        refine S.ownIs (T := Rp.str) (v' := .slice a8 m.names.length c8) (xs' := m.names) (by repeat (first | exact Sel.here | apply Sel.there)) (by simp) (by simp) ?_
        refine S.ownIs (T := Rp.cells 3) (v' := .slice a14 m.cells.length c14) (xs' := m.cells.map encC) (by repeat (first | exact Sel.here | apply Sel.there)) (by simp) (by simp) ?_
        refine S.objIs (b := b20) (cs' := [.slice a8 m.names.length c8, .slice a14 m.cells.length c14, .int .i64 m.room]) (by repeat (first | exact Sel.here | apply Sel.there)) (by simp) ?_
        refine S.pk (ζ := refL b20 m ((a8, c8), (a14, c14))) (by repeat (first | exact Picks.all | exact Picks.nil | (apply Picks.cons; focus (repeat (first | exact Sel.here | apply Sel.there))) | apply Picks.skip)) ?_
        exact S.weaken (Sub.app (.cons rfl (.nil)) (.nil)) (key (((a8, c8), (a14, c14)), b20))
    · refine ODt.litP (T := (Rp.cells 3)) (ys := []) (.p rfl) (by kernel_rfl) Go.Proofs.Tryz.underlying100 FactRdisk7.elem142 (by decide) rfl rfl trivial (by decide) (fun a9 c9 => ?_)
      refine OD.litP (T := Rp.str) (ys := []) (.p rfl) (by kernel_rfl) Go.Proofs.Tryz.underlying36 FactRdisk7.elem9 (by decide) rfl rfl trivial (by decide) (fun a3 c3 => ?_)
      refine OD.appendP (.p rfl) (by kernel_rfl) (T := Rp.str) pure_str Go.Proofs.Tryz.underlying36 FactRdisk7.elem9 (by decide) rfl rfl (by repeat (first | exact Sel.here | apply Sel.there)) (by first | assumption | exact Arr.mono hg (by assumption) | exact Arr.left (by assumption) | exact Arr.left (Arr.mono hg (by assumption))) (by first | omega | (simp; done) | (simp; omega) | decide) (by first | omega | (simp; done) | (simp; omega) | decide) (fun a8 c8 => ?_)
      refine OD.appendP (.p rfl) (by kernel_rfl) (T := (Rp.cells 3)) (pure_cells 3) Go.Proofs.Tryz.underlying100 FactRdisk7.elem142 (by decide) rfl rfl (by repeat (first | exact Sel.here | apply Sel.there)) (by first | assumption | exact Arr.mono hg (by assumption) | exact Arr.left (by assumption) | exact Arr.left (Arr.mono hg (by assumption))) (by first | omega | (simp; done) | (simp; omega) | decide) (by first | omega | (simp; done) | (simp; omega) | decide) (fun a14 c14 => ?_)
      refine .quiet (.p rfl) rfl (fun _ => .build (cs := [_, _, _]) Go.Proofs.Tryz.underlying102 rfl rfl rfl rfl rfl) ?_
      refine OD.boxP (cs := [_, _, _]) (.p rfl) (by kernel_rfl) rfl rfl (fun b20 => ?_)
      refine .quiet (.p rfl) rfl (fun _ => .as rfl) ?_
      refine .nil ?_
      refine S.ownIs (T := Rp.str) (v' := .slice a8 m.names.length c8) (xs' := m.names) (by repeat (first | exact Sel.here | apply Sel.there)) (by simp) (by simp) ?_
      refine S.ownIs (T := Rp.cells 3) (v' := .slice a14 m.cells.length c14) (xs' := m.cells.map encC) (by repeat (first | exact Sel.here | apply Sel.there)) (by simp) (by simp) ?_
      refine S.objIs (b := b20) (cs' := [.slice a8 m.names.length c8, .slice a14 m.cells.length c14, .int .i64 m.room]) (by repeat (first | exact Sel.here | apply Sel.there)) (by simp) ?_
      refine S.pk (ζ := refL b20 m ((a8, c8), (a14, c14))) (by repeat (first | exact Picks.all | exact Picks.nil | (apply Picks.cons; focus (repeat (first | exact Sel.here | apply Sel.there))) | apply Picks.skip)) ?_
      exact S.weaken (Sub.app (.cons rfl (.nil)) (.nil)) (key (((a8, c8), (a14, c14)), b20))
  ·
    refine S.ret Go.Proofs.Tryz.results25 rfl fun w hw => Holds.end_ hR hw ?_
    exact ⟨_, ⟨x.2, x.1, rfl, rfl⟩, by repeat (first | exact Picks.all | exact Picks.nil | (apply Picks.cons; focus (repeat (first | exact Sel.here | apply Sel.there))) | apply Picks.skip)⟩
theorem refCopy_w {r : Fr} {d : Nat} {m : RefM} {s : RefS} (hl : m.cells.length ≤ 1000000000) (hnl : m.names.length ≤ 1000000000) :
    Con Go.Proofs.Tryz.prog 25 #[.pointer (some ⟨d, 0, none⟩)] r (refL d m s) (Ret fun v η => ∃ d' s', v = .pointer (some ⟨d', 0, none⟩) ∧ η = refL d' m s' ++ refL d m s) :=
  Con.mono (Con.lentW (η := []) fun _ hm hd => let ⟨h1, h2, h3⟩ := refL_g hm; refCopy_c (At.right h1 hd) (h2.right hd) (h3.right hd) hl hnl) (Ret.imp fun _ _ ⟨_, ⟨d', s', a, b⟩, c⟩ => ⟨d', s', a, by rw [c, b]; rfl⟩)
theorem refList_w {r : Fr} {d : Nat} {m : RefM} {s : RefS} (hnd : (neN m.names).Nodup) (hq : ∀ x ∈ m.names, x.length ≤ 9223372036854775807) (hnl : m.names.length ≤ 1000000000) :
    Con Go.Proofs.Tryz.prog 95 #[.pointer (some ⟨d, 0, none⟩)] r (refL d m s) (Ret fun v η => ∃ a c, v = .slice a (rList m.names).length c ∧ η = OwnP Rp.str 9 (.slice a (rList m.names).length c) (rList m.names) :: refL d m s) :=
  Con.mono (Con.lentW (η := []) fun _ hm hd => let ⟨h1, h2, _⟩ := refL_g hm; refList_c (At.right h1 hd) (h2.right hd) hnd hq hnl) (Ret.imp fun _ _ ⟨_, ⟨a, c, h1, h2⟩, h3⟩ => ⟨a, c, h1, by rw [h3, h2]; rfl⟩)
theorem wants_c {r : Fr} {d : Nat} {m : RefM} {s : RefS} {va : Value} {x : DeedT} (ha : Arr Rp.u8 r va x.2.2.2.2.1) (hl : m.cells.length ≤ 1000000000) (hnl : m.names.length ≤ 1000000000) (h3 : x.2.2.1.length ≤ 9223372036854775807) (h4 : x.2.2.2.1.length ≤ 9223372036854775807) (h5 : x.2.2.2.2.1.length ≤ 1000000000) :
    Con Go.Proofs.Tryz.prog 22 #[.pointer (some ⟨d, 0, none⟩), .agg #[.int .i64 x.1, .int .i64 x.2.1, .string (str x.2.2.1), .string (str x.2.2.2.1), va]] r (refL d m s) (Ret fun v η => ∃ s', v = .int .i64 (rDeed m x).1 ∧ η = refL d (rDeed m x).2 s') := by
  refine Con.of (n := 48) [.pointer (some ⟨d, 0, none⟩), .agg #[.int .i64 x.1, .int .i64 x.2.1, .string (str x.2.2.1), .string (str x.2.2.2.1), va]] rfl Go.Proofs.Tryz.func22 rfl rfl rfl fun g hg R hR => ?_
  have ha := ha.mono hg
  obtain ⟨a1, c1, rfl⟩ := ha.shape
  unfold rDeed at hR
  refine S.seq (S.region rfl ?_)
  refine O.opE (.p rfl) (.box (cs := [_, _, _, _, _]) rfl rfl) ?_
  rintro _ _ ⟨b3, rfl, rfl⟩
  refine O.op (.p rfl) (.as rfl) ?_
  refine O.nil ?_
  refine S.seq (S.seq (S.region rfl ?_))
  refine O.op (.p rfl) (.fieldObj FactRdisk7.fld48x0 rfl) ?_
  refine O.op (.p rfl) (.loadObj FactRdisk7.flat3 rfl (by repeat (first | exact Sel.here | apply Sel.there)) rfl) ?_
  refine O.call0 (.p rfl) rfl FactRdisk7.ok40 rfl rfl (Pick_c _ _ (by first | assumption | (constructor <;> omega))) ?_
  rintro v7 _ ⟨rfl, rfl⟩
  try simp only [List.cons_append, List.nil_append, List.append_nil]
  refine O.nil ?_
  refine S.block (S.seq (S.region rfl ?_))
  refine O.op (.p rfl) (.eql rfl rfl) ?_
  refine O.op (.p rfl) (.as rfl) ?_
  refine O.nil ?_
  first | refine S.condD rfl (fun h8 => ?_) (fun h8 => ?_) | refine S.condB rfl (fun h8 => ?_) (fun h8 => ?_)
  · have hp : pick x.1 7 = 2 := by omega
    simp only [if_pos hp] at hR
    refine S.seq (S.region rfl ?_)
    refine O.op (.p rfl) (.mv rfl) ?_
    refine O.op (.p rfl) (.fieldObj FactRdisk7.fld48x2 rfl) ?_
    refine O.op (.p rfl) (.loadObj FactRdisk7.flat9 rfl (by repeat (first | exact Sel.here | apply Sel.there)) rfl) ?_
    refine O.callSs (.p rfl) rfl FactRdisk7.ok44 rfl rfl (by repeat (first | exact Sels.nil | (apply Sels.cons; focus (repeat (first | exact Sel.here | apply Sel.there))))) (refSync_c hl) ?_
    rintro v13 _ ⟨s2, rfl, rfl⟩
    try simp only [List.cons_append, List.nil_append, List.append_nil]
    refine O.op (.p rfl) (.as rfl) ?_
    refine O.nil ?_
    refine S.ret Go.Proofs.Tryz.results22 rfl fun w hw => Holds.end_ hR hw ?_
    exact ⟨_, ⟨s2, rfl, rfl⟩, by repeat (first | exact Picks.all | exact Picks.nil | (apply Picks.cons; focus (repeat (first | exact Sel.here | apply Sel.there))) | apply Picks.skip)⟩
  · have n2 : ¬ pick x.1 7 = 2 := by omega
    simp only [if_neg n2] at hR
    refine S.seq (S.region rfl ?_)
    refine O.op (.p rfl) (.eql rfl rfl) ?_
    refine O.op (.p rfl) (.as rfl) ?_
    refine O.nil ?_
    first | refine S.condD rfl (fun h14 => ?_) (fun h14 => ?_) | refine S.condB rfl (fun h14 => ?_) (fun h14 => ?_)
    · have hp : pick x.1 7 = 3 := by omega
      simp only [if_pos hp] at hR
      refine S.seq (S.region rfl ?_)
      refine O.op (.p rfl) (.mv rfl) ?_
      refine O.op (.p rfl) (.fieldObj FactRdisk7.fld48x2 rfl) ?_
      refine O.op (.p rfl) (.loadObj FactRdisk7.flat9 rfl (by repeat (first | exact Sel.here | apply Sel.there)) rfl) ?_
      refine O.op (.p rfl) (.fieldObj FactRdisk7.fld48x1 rfl) ?_
      refine O.op (.p rfl) (.loadObj FactRdisk7.flat3 rfl (by repeat (first | exact Sel.here | apply Sel.there)) rfl) ?_
      refine O.callSs (.p rfl) rfl FactRdisk7.ok45 rfl rfl (by repeat (first | exact Sels.nil | (apply Sels.cons; focus (repeat (first | exact Sel.here | apply Sel.there))))) (refCut_c hl) ?_
      rintro v21 _ ⟨s2, rfl, rfl⟩
      try simp only [List.cons_append, List.nil_append, List.append_nil]
      refine O.op (.p rfl) (.as rfl) ?_
      refine O.nil ?_
      refine S.ret Go.Proofs.Tryz.results22 rfl fun w hw => Holds.end_ hR hw ?_
      exact ⟨_, ⟨s2, rfl, rfl⟩, by repeat (first | exact Picks.all | exact Picks.nil | (apply Picks.cons; focus (repeat (first | exact Sel.here | apply Sel.there))) | apply Picks.skip)⟩
    · have n3 : ¬ pick x.1 7 = 3 := by omega
      simp only [if_neg n3] at hR
      refine S.seq (S.region rfl ?_)
      refine O.op (.p rfl) (.eql rfl rfl) ?_
      refine O.op (.p rfl) (.as rfl) ?_
      refine O.nil ?_
      first | refine S.condD rfl (fun h22 => ?_) (fun h22 => ?_) | refine S.condB rfl (fun h22 => ?_) (fun h22 => ?_)
      · have hp : pick x.1 7 = 4 := by omega
        simp only [if_pos hp] at hR
        refine S.seq (S.region rfl ?_)
        refine O.op (.p rfl) (.mv rfl) ?_
        refine O.op (.p rfl) (.fieldObj FactRdisk7.fld48x2 rfl) ?_
        refine O.op (.p rfl) (.loadObj FactRdisk7.flat9 rfl (by repeat (first | exact Sel.here | apply Sel.there)) rfl) ?_
        refine O.op (.p rfl) (.fieldObj FactRdisk7.fld48x3 rfl) ?_
        refine O.op (.p rfl) (.loadObj FactRdisk7.flat9 rfl (by repeat (first | exact Sel.here | apply Sel.there)) rfl) ?_
        refine O.callSs (.p rfl) rfl FactRdisk7.ok46 rfl rfl (by repeat (first | exact Sels.nil | (apply Sels.cons; focus (repeat (first | exact Sel.here | apply Sel.there))))) (refRename_c hl h3 h4) ?_
        rintro v29 _ ⟨s2, rfl, rfl⟩
        try simp only [List.cons_append, List.nil_append, List.append_nil]
        refine O.op (.p rfl) (.as rfl) ?_
        refine O.nil ?_
        refine S.ret Go.Proofs.Tryz.results22 rfl fun w hw => Holds.end_ hR hw ?_
        exact ⟨_, ⟨s2, rfl, rfl⟩, by repeat (first | exact Picks.all | exact Picks.nil | (apply Picks.cons; focus (repeat (first | exact Sel.here | apply Sel.there))) | apply Picks.skip)⟩
      · have n4 : ¬ pick x.1 7 = 4 := by omega
        simp only [if_neg n4] at hR
        refine S.seq (S.region rfl ?_)
        refine O.op (.p rfl) (.eql rfl rfl) ?_
        refine O.op (.p rfl) (.as rfl) ?_
        refine O.nil ?_
        first | refine S.condD rfl (fun h30 => ?_) (fun h30 => ?_) | refine S.condB rfl (fun h30 => ?_) (fun h30 => ?_)
        · have hp : pick x.1 7 = 5 := by omega
          simp only [if_pos hp] at hR
          refine S.seq (S.region rfl ?_)
          refine O.op (.p rfl) (.mv rfl) ?_
          refine O.op (.p rfl) (.fieldObj FactRdisk7.fld48x2 rfl) ?_
          refine O.op (.p rfl) (.loadObj FactRdisk7.flat9 rfl (by repeat (first | exact Sel.here | apply Sel.there)) rfl) ?_
          refine O.callSs (.p rfl) rfl FactRdisk7.ok47 rfl rfl (by repeat (first | exact Sels.nil | (apply Sels.cons; focus (repeat (first | exact Sel.here | apply Sel.there))))) (refRemove_c hl) ?_
          rintro v35 _ ⟨s2, rfl, rfl⟩
          try simp only [List.cons_append, List.nil_append, List.append_nil]
          refine O.op (.p rfl) (.as rfl) ?_
          refine O.nil ?_
          refine S.ret Go.Proofs.Tryz.results22 rfl fun w hw => Holds.end_ hR hw ?_
          exact ⟨_, ⟨s2, rfl, rfl⟩, by repeat (first | exact Picks.all | exact Picks.nil | (apply Picks.cons; focus (repeat (first | exact Sel.here | apply Sel.there))) | apply Picks.skip)⟩
        · have n5 : ¬ pick x.1 7 = 5 := by omega
          simp only [if_neg n5] at hR
          refine S.seq (S.region rfl ?_)
          refine O.op (.p rfl) (.eql rfl rfl) ?_
          refine O.op (.p rfl) (.as rfl) ?_
          refine O.nil ?_
          first | refine S.condD rfl (fun h36 => ?_) (fun h36 => ?_) | refine S.condB rfl (fun h36 => ?_) (fun h36 => ?_)
          · have hp : pick x.1 7 = 6 := by omega
            simp only [if_pos hp] at hR
            refine S.seq (S.region rfl ?_)
            refine O.op (.p rfl) (.mv rfl) ?_
            refine O.op (.p rfl) (.fieldObj FactRdisk7.fld48x1 rfl) ?_
            refine O.op (.p rfl) (.loadObj FactRdisk7.flat3 rfl (by repeat (first | exact Sel.here | apply Sel.there)) rfl) ?_
            refine O.callSs (.p rfl) rfl FactRdisk7.ok48 rfl rfl (by repeat (first | exact Sels.nil | (apply Sels.cons; focus (repeat (first | exact Sel.here | apply Sel.there))))) (refCrash_c hl hnl) ?_
            rintro v41 _ ⟨s2, rfl, rfl⟩
            try simp only [List.cons_append, List.nil_append, List.append_nil]
            refine O.nil ?_
            refine S.seq (S.region rfl ?_)
            refine O.op (.p rfl) (.as rfl) ?_
            refine O.nil ?_
            refine S.ret Go.Proofs.Tryz.results22 rfl fun w hw => Holds.end_ hR hw ?_
            exact ⟨_, ⟨s2, rfl, rfl⟩, by repeat (first | exact Picks.all | exact Picks.nil | (apply Picks.cons; focus (repeat (first | exact Sel.here | apply Sel.there))) | apply Picks.skip)⟩
          · have n6 : ¬ pick x.1 7 = 6 := by omega
            simp only [if_neg n6] at hR
            refine S.skip (S.inBlock (S.seq (S.region rfl ?_)))
            refine O.op (.p rfl) (.mv rfl) ?_
            refine O.op (.p rfl) (.fieldObj FactRdisk7.fld48x2 rfl) ?_
            refine O.op (.p rfl) (.loadObj FactRdisk7.flat9 rfl (by repeat (first | exact Sel.here | apply Sel.there)) rfl) ?_
            refine O.op (.p rfl) (.fieldObj FactRdisk7.fld48x4 rfl) ?_
            refine O.op (.p rfl) (.loadObj FactRdisk7.flat22 rfl (by repeat (first | exact Sel.here | apply Sel.there)) rfl) ?_
            refine O.callSs (.p rfl) rfl FactRdisk7.ok49 rfl rfl (by repeat (first | exact Sels.nil | (apply Sels.cons; focus (repeat (first | exact Sel.here | apply Sel.there))))) (refAppend_c hl hnl ha h5 h3) ?_
            rintro v47 _ ⟨s2, rfl, rfl⟩
            try simp only [List.cons_append, List.nil_append, List.append_nil]
            refine O.op (.p rfl) (.as rfl) ?_
            refine O.nil ?_
            refine S.ret Go.Proofs.Tryz.results22 rfl fun w hw => Holds.end_ hR hw ?_
            exact ⟨_, ⟨s2, rfl, rfl⟩, by repeat (first | exact Picks.all | exact Picks.nil | (apply Picks.cons; focus (repeat (first | exact Sel.here | apply Sel.there))) | apply Picks.skip)⟩
theorem shows_g {r : Fr} {p q1 q2 d : Nat} {dm : DiskM} {m : RefM} {s : RefS} (hat : At r ⟨p, 0, none⟩ (dC q1 q2 dm.room)) (ok : DOk dm) (hm : dm.safe.length ≤ 1000000) (hq : ∀ x ∈ dm.safe, x.1.length ≤ 9223372036854775807) (rel : Rel m (vOf dm)) (hl : m.cells.length ≤ 1000000000) (hnl : m.names.length ≤ 1000000000) (hqn : ∀ x ∈ m.names, x.length ≤ 9223372036854775807) :
    Con Go.Proofs.Tryz.prog 50 #[.pointer (some ⟨p, 0, none⟩), .pointer (some ⟨d, 0, none⟩)] r ([MapT q1 dm.safe dm.c1, MapT q2 dm.loose dm.c2] ++ refL d m s) (Ret fun v η => v = .bool true ∧ η = [MapT q1 dm.safe dm.c1, MapT q2 dm.loose dm.c2] ++ refL d m s) := by
  refine Con.of (n := 58) [.pointer (some ⟨p, 0, none⟩), .pointer (some ⟨d, 0, none⟩)] rfl Go.Proofs.Tryz.func50 rfl rfl rfl fun g hg R hR => ?_
  replace hat : At g.h ⟨p, 0, none⟩ (dC q1 q2 dm.room) := At.mono hg hat
  have hrl := rel.list ok
  have hru := rel.used ok
  have hnn : (namesT dm.safe).length = dm.safe.length := by simp [namesT]
  simp only [refL, List.cons_append, List.nil_append]
  refine S.seq (S.region rfl ?_)
  refine O.op (.p rfl) (.as rfl) ?_
  refine O.nil ?_
  refine S.seq (S.region rfl ?_)
  refine O.op (.p rfl) (.mv rfl) ?_
  refine O.callSs (.p rfl) rfl FactRdisk7.ok17 rfl rfl (by repeat (first | exact Sels.nil | (apply Sels.cons; focus (repeat (first | exact Sel.here | apply Sel.there))))) (list_g hat ok hm hq) ?_
  rintro v12 _ ⟨a12, n12, rfl, rfl⟩
  try simp only [List.cons_append, List.nil_append, List.append_nil]
  refine O.frzA (by repeat (first | exact Sel.here | apply Sel.there)) fun g hs hm ha12 => ?_
  replace hg := Fr.sub_trans hg hs
  replace hR := melted hR hm
  try replace hat := hat.mono hs
  clear hs hm
  refine O.op (.p rfl) (.as rfl) ?_
  refine O.nil ?_
  refine S.seq (S.seq (S.region rfl ?_))
  refine O.op (.p rfl) (.mv rfl) ?_
  refine O.op (.p rfl) (.mv rfl) ?_
  refine O.callSs (.p rfl) rfl FactRdisk7.ok95 rfl rfl (by repeat (first | exact Sels.nil | (apply Sels.cons; focus (repeat (first | exact Sel.here | apply Sel.there))))) (refList_w rel.nd hqn hnl) ?_
  rintro v15 _ ⟨a15, n15, rfl, rfl⟩
  try simp only [List.cons_append, List.nil_append, List.append_nil]
  simp only [← hrl]
  refine O.frzA (by repeat (first | exact Sel.here | apply Sel.there)) fun g hs hm ha15 => ?_
  replace hg := Fr.sub_trans hg hs
  replace hR := melted hR hm
  try replace hat := hat.mono hs
  try replace ha12 := ha12.mono hs
  clear hs hm
  refine O.call0 (.p rfl) rfl FactRdisk7.ok18 rfl rfl (SameTexts_c (by first | assumption | exact Arr.mono hg (by assumption) | exact Arr.left (by assumption) | exact Arr.left (Arr.mono hg (by assumption))) (by first | assumption | exact Arr.mono hg (by assumption) | exact Arr.left (by assumption) | exact Arr.left (Arr.mono hg (by assumption)))) ?_
  rintro v16 _ ⟨rfl, rfl⟩
  try simp only [List.cons_append, List.nil_append, List.append_nil]
  refine O.slot 16 (v' := .bool true) rfl (congrArg Value.bool (by simp)) ?_
  refine O.op (.p rfl) (.not rfl) ?_
  refine O.op (.p rfl) (.mv rfl) ?_
  refine O.op (.g rfl rfl) (.mv rfl) ?_
  refine O.callSs (.g rfl rfl) rfl FactRdisk7.ok27 rfl rfl (by repeat (first | exact Sels.nil | (apply Sels.cons; focus (repeat (first | exact Sel.here | apply Sel.there))))) (used_g hat ok) ?_
  rintro v20 _ ⟨rfl, rfl⟩
  try simp only [List.cons_append, List.nil_append, List.append_nil]
  refine O.op (.g rfl rfl) (.mv rfl) ?_
  refine O.callSs (.g rfl rfl) rfl FactRdisk7.ok96 rfl rfl (by repeat (first | exact Sels.nil | (apply Sels.cons; focus (repeat (first | exact Sel.here | apply Sel.there))))) refUsed_w ?_
  rintro v22 _ ⟨rfl, rfl⟩
  try simp only [List.cons_append, List.nil_append, List.append_nil]
  refine O.op (.g rfl rfl) (.neq rfl rfl) ?_
  refine O.slot 23 (v' := .bool false) rfl (congrArg Value.bool (by simp [hru])) ?_
  refine O.op (.p rfl) (.pickF rfl rfl) ?_
  refine O.nil ?_
  refine S.condF rfl ?_
  refine S.skip (S.seq (S.seq (S.region rfl ?_)))
  refine O.op (.p rfl) (.as rfl) ?_
  refine O.nil ?_
  refine S.block ?_
  simp only [refL, dW, List.cons_append, List.nil_append]
  refine S.pk (ζ := [MapT q1 dm.safe dm.c1, MapT q2 dm.loose dm.c2] ++ refL d m s) (by repeat (first | exact Picks.all | exact Picks.nil | (apply Picks.cons; focus (repeat (first | exact Sel.here | apply Sel.there))) | apply Picks.skip)) ?_
  refine S.loopK (ι := Nat) (fun i => i ≤ (namesT dm.safe).length) (fun i => [(6, .int .i64 (i : Int))]) [(0, _), (1, _), (5, _)] (fun i => [MapT q1 dm.safe dm.c1, MapT q2 dm.loose dm.c2] ++ refL d m s) (fun i => (namesT dm.safe).length - i) (0) (by exact Nat.zero_le _) (.cons rfl (.nil)) (.cons rfl (.cons rfl (.cons rfl (.nil)))) rfl fun i hx ih => ?_
  have hm1 := meltRefl (g := g)
  simp only [refL, List.cons_append, List.nil_append]
  refine S.seq (S.seq (S.region rfl ?_))
  refine O.op (.p rfl) (.mv rfl) ?_
  refine O.op (.p rfl) (.mv rfl) ?_
  refine O.op (.p rfl) (.len rfl Go.Proofs.Tryz.underlying36 rfl) ?_
  refine O.op (.p rfl) (.lss rfl rfl) ?_
  refine O.nil ?_
  first | refine S.condD rfl (fun h28 => ?_) (fun h28 => ?_) | refine S.condB rfl (fun h28 => ?_) (fun h28 => ?_)
  · have hi : i < (namesT dm.safe).length := by omega
    obtain ⟨rd1, rd2⟩ := rel.read ok (namesT dm.safe)[i]
    have hrl2 := read_len ok (namesT dm.safe)[i]
    refine S.skip (S.seq (S.block (S.seq (S.region rfl ?_))))
    refine O.op (.p rfl) (.mv rfl) ?_
    refine O.op (.p rfl) (.mv rfl) ?_
    refine O.op (.p rfl) (.mv rfl) ?_
    refine O.idx' (.p rfl) Go.Proofs.Tryz.underlying36 FactRdisk7.size9 rfl rfl rfl (by first | assumption | exact Arr.mono hg (by assumption) | exact Arr.left (by assumption) | exact Arr.left (Arr.mono hg (by assumption))) (by decide) (by first | omega | (simp; done) | (simp; omega) | decide) (fun p35 cs35 hp35 hr35 => ?_)
    obtain ⟨rfl, hz35⟩ := hr35
    refine O.op (.p rfl) (.loadAt FactRdisk7.flat9 rfl hp35 rfl) ?_
    refine O.callSs (.p rfl) rfl FactRdisk7.ok13 rfl rfl (by repeat (first | exact Sels.nil | (apply Sels.cons; focus (repeat (first | exact Sel.here | apply Sel.there))))) (read_g (name := (namesT dm.safe)[i]) hat ok) ?_
    rintro v37 _ ⟨a37, c37, rfl, rfl⟩
    try simp only [List.cons_append, List.nil_append, List.append_nil]
    refine O.frzW Sel.here fun g hs hm ha37 => ?_
    replace hg := Fr.sub_trans hg hs
    replace hR := melted hR hm
    try replace hat := hat.mono hs
    try replace ha12 := ha12.mono hs
    try replace ha15 := ha15.mono hs
    try replace hp35 := hp35.mono hs
    replace hm1 := meltTrans hm1 hm
    clear hs hm
    refine O.op (.p rfl) (.mv rfl) ?_
    refine O.op (.p rfl) (.extract rfl rfl) ?_
    refine O.op (.p rfl) (.extract rfl rfl) ?_
    refine O.op (.p rfl) (.as rfl) ?_
    refine O.op (.p rfl) (.as rfl) ?_
    refine O.nil ?_
    refine S.seq (S.region rfl ?_)
    refine O.op (.p rfl) (.mv rfl) ?_
    refine O.op (.p rfl) (.mv rfl) ?_
    refine O.op (.p rfl) (.mv rfl) ?_
    refine O.idx' (.p rfl) Go.Proofs.Tryz.underlying36 FactRdisk7.size9 rfl rfl rfl (by first | assumption | exact Arr.mono hg (by assumption) | exact Arr.left (by assumption) | exact Arr.left (Arr.mono hg (by assumption))) (by decide) (by first | omega | (simp; done) | (simp; omega) | decide) (fun p44 cs44 hp44 hr44 => ?_)
    obtain ⟨rfl, hz44⟩ := hr44
    refine O.op (.p rfl) (.loadAt FactRdisk7.flat9 rfl hp44 rfl) ?_
    refine O.callSs (.p rfl) rfl FactRdisk7.ok97 rfl rfl (by repeat (first | exact Sels.nil | (apply Sels.cons; focus (repeat (first | exact Sel.here | apply Sel.there))))) (refRead_w (n := (namesT dm.safe)[i]) hl) ?_
    rintro v46 _ ⟨a46, c46, rfl, rfl⟩
    try simp only [List.cons_append, List.nil_append, List.append_nil]
    simp only [rd1, rd2]
    refine O.frzA (by repeat (first | exact Sel.here | apply Sel.there)) fun g hs hm ha46 => ?_
    replace hg := Fr.sub_trans hg hs
    replace hR := melted hR hm
    try replace hat := hat.mono hs
    try replace ha12 := ha12.mono hs
    try replace ha15 := ha15.mono hs
    try replace hp35 := hp35.mono hs
    try replace ha37 := ha37.mono hs
    try replace hp44 := hp44.mono hs
    replace hm1 := meltTrans hm1 hm
    clear hs hm
    refine O.op (.p rfl) (.mv rfl) ?_
    refine O.op (.p rfl) (.extract rfl rfl) ?_
    refine O.op (.p rfl) (.extract rfl rfl) ?_
    refine O.op (.p rfl) (.as rfl) ?_
    refine O.op (.p rfl) (.as rfl) ?_
    refine O.nil ?_
    refine S.seq (S.region rfl ?_)
    refine O.op (.p rfl) (.mv rfl) ?_
    refine O.op (.p rfl) (.mv rfl) ?_
    refine O.op (.p rfl) (.neq rfl rfl) ?_
    refine O.slot 51 (v' := .bool false) rfl (congrArg Value.bool (by simp)) ?_
    refine O.op (.p rfl) (.mv rfl) ?_
    refine O.op (.g rfl rfl) (.mv rfl) ?_
    refine O.op (.g rfl rfl) (.mv rfl) ?_
    refine O.call0 (.g rfl rfl) rfl FactRdisk7.ok14 rfl rfl (SameBytes_c (by first | assumption | exact Arr.mono hg (by assumption) | exact Arr.left (by assumption) | exact Arr.left (Arr.mono hg (by assumption))) (by first | assumption | exact Arr.mono hg (by assumption) | exact Arr.left (by assumption) | exact Arr.left (Arr.mono hg (by assumption)))) ?_
    rintro v55 _ ⟨rfl, rfl⟩
    try simp only [List.cons_append, List.nil_append, List.append_nil]
    refine O.slot 55 (v' := .bool true) rfl (congrArg Value.bool (by simp)) ?_
    refine O.op (.g rfl rfl) (.not rfl) ?_
    refine O.op (.p rfl) (.pickF rfl rfl) ?_
    refine O.nil ?_
    refine S.condF rfl ?_
    refine S.skip (S.inBlock (S.region rfl ?_))
    refine O.op (.p rfl) (.mv rfl) ?_
    refine O.op (.p rfl) (.add rfl rfl (IntWalk.i64_in _ (by omega))) ?_
    refine O.op (.p rfl) (.as rfl) ?_
    refine O.nil ?_
    refine S.pk ?_ (S.melt hm1 (S.weaken ?_ (ih (i + 1) (by exact hi) (by omega))))
    · repeat (first | exact Picks.all | exact Picks.nil | (apply Picks.cons; focus (repeat (first | exact Sel.here | apply Sel.there))) | apply Picks.skip)
    repeat (first | exact Sub.nil | refine Sub.cons rfl ?_)
  · clear ih
    refine S.exit rfl ?_
    refine S.seq (S.region rfl ?_)
    refine O.op (.p rfl) (.as rfl) ?_
    refine O.nil ?_
    refine S.ret Go.Proofs.Tryz.results50 rfl fun w hw => Holds.end_ hR hw ?_
    exact ⟨_, ⟨rfl, rfl⟩, by repeat (first | exact Picks.all | exact Picks.nil | (apply Picks.cons; focus (repeat (first | exact Sel.here | apply Sel.there))) | apply Picks.skip)⟩
theorem bare_g {r : Fr} {p q1 q2 d N : Nat} {R0 : Int} {dm : DiskM} {m : RefM} {s : RefS} (hat : At r ⟨p, 0, none⟩ (dC q1 q2 dm.room)) (di : DI R0 N dm) (hN : N ≤ 1000000) (rel : Rel m (vOf dm)) (hl : m.cells.length ≤ 1000000000) (hnl : m.names.length ≤ 1000000000) (hqn : ∀ x ∈ m.names, x.length ≤ 9223372036854775807) :
    Con Go.Proofs.Tryz.prog 23 #[.pointer (some ⟨p, 0, none⟩), .pointer (some ⟨d, 0, none⟩)] r ([MapT q1 dm.safe dm.c1, MapT q2 dm.loose dm.c2] ++ refL d m s) (Ret fun v η => v = .bool true ∧ η = [MapT q1 dm.safe dm.c1, MapT q2 dm.loose dm.c2] ++ refL d m s) := by
  refine Con.of (n := 26) [.pointer (some ⟨p, 0, none⟩), .pointer (some ⟨d, 0, none⟩)] rfl Go.Proofs.Tryz.func23 rfl rfl rfl fun g hg R hR => ?_
  replace hat : At g.h ⟨p, 0, none⟩ (dC q1 q2 dm.room) := At.mono hg hat
  have hdl := di.len
  have hqd : ∀ x ∈ dm.safe, x.1.length ≤ 9223372036854775807 := fun x hx => Nat.le_trans (di.q x hx) (by decide)
  simp only [refL, List.cons_append, List.nil_append]
  refine S.seq (S.region rfl ?_)
  refine O.op (.p rfl) (.as rfl) ?_
  refine O.nil ?_
  refine S.seq (S.region rfl ?_)
  refine O.op (.p rfl) (.mv rfl) ?_
  refine O.callSs (.p rfl) rfl FactRdisk7.ok24 rfl rfl (by repeat (first | exact Sels.nil | (apply Sels.cons; focus (repeat (first | exact Sel.here | apply Sel.there))))) (copy_g hat) ?_
  rintro v8 _ ⟨d8, u8, w8, rfl, rfl⟩
  try simp only [List.cons_append, List.nil_append, List.append_nil]
  refine O.frzO (by repeat (first | exact Sel.here | apply Sel.there)) fun g hs hm hatC => ?_
  replace hg := Fr.sub_trans hg hs
  replace hR := melted hR hm
  try replace hat := hat.mono hs
  clear hs hm
  refine O.op (.p rfl) (.mv rfl) ?_
  refine O.callSs (.p rfl) rfl FactRdisk7.ok25 rfl rfl (by repeat (first | exact Sels.nil | (apply Sels.cons; focus (repeat (first | exact Sel.here | apply Sel.there))))) (refCopy_w hl hnl) ?_
  rintro v10 _ ⟨e10, s10, rfl, rfl⟩
  try simp only [List.cons_append, List.nil_append, List.append_nil]
  simp only [refL, List.cons_append, List.nil_append]
  refine O.op (.p rfl) (.as rfl) ?_
  refine O.op (.p rfl) (.as rfl) ?_
  refine O.nil ?_
  refine S.seq (S.seq (S.region rfl ?_))
  refine O.op (.p rfl) (.mv rfl) ?_
  refine O.op (.p rfl) (.eqlP Go.Proofs.Tryz.underlying24 rfl rfl) ?_
  refine O.slot 12 (v' := .bool false) rfl (congrArg Value.bool (by simp)) ?_
  refine O.op (.p rfl) (.mv rfl) ?_
  refine O.op (.g rfl rfl) (.mv rfl) ?_
  refine O.op (.g rfl rfl) (.mv rfl) ?_
  refine O.callSs (.g rfl rfl) rfl FactRdisk7.ok50 rfl rfl (by repeat (first | exact Sels.nil | (apply Sels.cons; focus (repeat (first | exact Sel.here | apply Sel.there))))) (shows_g hatC di.ok (by omega) hqd rel hl hnl hqn) ?_
  rintro v16 _ ⟨rfl, rfl⟩
  try simp only [List.cons_append, List.nil_append, List.append_nil]
  simp only [refL, dW, List.cons_append, List.nil_append]
  refine O.slot 16 (v' := .bool true) rfl (congrArg Value.bool (by first | decide | simp)) ?_
  refine O.op (.g rfl rfl) (.not rfl) ?_
  refine O.op (.p rfl) (.pickF rfl rfl) ?_
  refine O.nil ?_
  refine S.condF rfl ?_
  refine S.skip (S.seq (S.region rfl ?_))
  refine O.op (.p rfl) (.mv rfl) ?_
  refine O.callSs (.p rfl) rfl FactRdisk7.ok28 rfl rfl (by repeat (first | exact Sels.nil | (apply Sels.cons; focus (repeat (first | exact Sel.here | apply Sel.there))))) (crash_g (keep := 0) hatC di.ok.w1 di.ok.w2 di.ok.sub di.ok.le) ?_
  rintro v20 _ ⟨s', c1', l', c2', hcr, rfl, rfl⟩
  try simp only [List.cons_append, List.nil_append, List.append_nil]
  refine O.nil ?_
  refine S.seq (S.region rfl ?_)
  refine O.op (.p rfl) (.mv rfl) ?_
  refine O.callSs (.p rfl) rfl FactRdisk7.ok48 rfl rfl (by repeat (first | exact Sels.nil | (apply Sels.cons; focus (repeat (first | exact Sel.here | apply Sel.there))))) (refCrash_c (keep := 0) hl hnl) ?_
  rintro v22 _ ⟨s2, rfl, rfl⟩
  try simp only [List.cons_append, List.nil_append, List.append_nil]
  simp only [refL, List.cons_append, List.nil_append]
  refine O.nil ?_
  refine S.seq ?_
  have dc := di.crash hcr
  have rc : Rel (rCrash m 0) (vOf ⟨s', c1', l', c2', dm.room⟩) := (rel.crash 0).ext fun k => (vOf_crash hcr k).symm
  have hcl2 := dc.len
  simp only at hcl2
  refine S.region rfl ?_
  refine O.op (.p rfl) (.mv rfl) ?_
  refine O.op (.p rfl) (.mv rfl) ?_
  refine O.callSs (.p rfl) rfl FactRdisk7.ok50 rfl rfl (by repeat (first | exact Sels.nil | (apply Sels.cons; focus (repeat (first | exact Sel.here | apply Sel.there))))) (shows_g (dm := ⟨s', c1', l', c2', dm.room⟩) (m := rCrash m 0) hatC dc.ok (by simp only; omega) (fun x hx => Nat.le_trans (dc.q x hx) (by decide)) rc (Nat.le_trans (crashN_le ..) hl) hnl hqn) ?_
  rintro v25 _ ⟨rfl, rfl⟩
  try simp only [List.cons_append, List.nil_append, List.append_nil]
  refine O.op (.p rfl) (.as rfl) ?_
  refine O.nil ?_
  refine S.ret Go.Proofs.Tryz.results23 rfl fun w hw => Holds.end_ hR hw ?_
  exact ⟨_, ⟨rfl, rfl⟩, by repeat (first | exact Picks.all | exact Picks.nil | (apply Picks.cons; focus (repeat (first | exact Sel.here | apply Sel.there))) | apply Picks.skip)⟩

end Go.Proofs.YtkkcpckgnfcncaaGreatDoor
