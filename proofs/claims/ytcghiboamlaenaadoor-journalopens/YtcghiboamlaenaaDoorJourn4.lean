/- Texts of this proof, one behind the other. -/
import Derived.Test.YtcghiboamlaenaaDoorJourn2
import Derived.Test.YtcghiboamlaenaaDoorSpRange
import Derived.Test.YtcghiboamlaenaaDoorSpGp
section
open Go Go.Sp
set_option maxRecDepth 100000
attribute [local irreducible] obj Own OwnP
namespace Go.Proofs.YtcghiboamlaenaaDoor
theorem FactJourn3.flat23 : Go.Sp.flat1 Go.Proofs.Tryd.prog 23 = true := by kernel_rfl
theorem FactJourn3.flat3 : Go.Sp.flat1 Go.Proofs.Tryd.prog 3 = true := by kernel_rfl
theorem FactJourn3.flat85 : Go.Sp.flat1 Go.Proofs.Tryd.prog 85 = true := by kernel_rfl
theorem FactJourn3.fld87x0 : fieldOff Go.Proofs.Tryd.prog 87 0 = some 0 := by kernel_rfl
theorem FactJourn3.fld87x1 : fieldOff Go.Proofs.Tryd.prog 87 1 = some 1 := by kernel_rfl
theorem FactJourn3.mixed : Go.Proofs.Tryd.prog.follows .mixedOrders = true := by kernel_rfl
theorem FactJourn3.ok60 : callable Go.Proofs.Tryd.prog 60 = true := by kernel_rfl

/-- an entry, as it reads -/
abbrev Ent : Type := UInt8 × List UInt8 × Unit
theorem scanOne_len {rest xs : List UInt8} {k : UInt8} (h : scanOne rest = .ok (k, xs)) : (putBytes k xs).length ≤ rest.length ∧ putErr k xs = 0 ∧ putBytes k xs = rest.take (putBytes k xs).length ∧ 17 ≤ (putBytes k xs).length := by
  unfold scanOne at h
  split at h
  · cases h
  · split at h
    · cases h
    · split at h
      · cases h
      · rename_i h0 h1 h2
        split at h
        · rename_i h3
          cases h
          have eo : putOut (rest.getD 8 0) ((rest.take (8 + (ofBe rest).toNat)).drop 9) = putBytes (rest.getD 8 0) ((rest.take (8 + (ofBe rest).toNat)).drop 9) := by unfold putOut; rw [if_pos h3.1]
          have e := h3.2
          rw [eo] at e
          have hl := congrArg List.length e
          have hp := putBytes_length (rest.getD 8 0) ((rest.take (8 + (ofBe rest).toNat)).drop 9)
          rw [List.length_take] at hl
          refine ⟨by omega, h3.1, ?_, by omega⟩
          have hm : min (16 + (ofBe rest).toNat) rest.length = 16 + (ofBe rest).toNat := by omega
          rw [hl, hm]; exact e
        · cases h
/-- what Scan tells of bytes: the entries, how many bytes they have, whether what is behind them is spoilt -/
def scanM (rest : List UInt8) : List Ent × Nat × Bool :=
  match h : scanOne rest with
  | .ok (k, xs) => ((k, xs, ()) :: (scanM (rest.drop (putBytes k xs).length)).1, (putBytes k xs).length + (scanM (rest.drop (putBytes k xs).length)).2.1, (scanM (rest.drop (putBytes k xs).length)).2.2)
  | .error s => ([], 0, s)
termination_by rest.length
decreasing_by
  all_goals
    have := scanOne_len h
    simp only [List.length_drop]; omega
theorem scanM_ok {rest xs : List UInt8} {k : UInt8} (h : scanOne rest = .ok (k, xs)) : scanM rest = ((k, xs, ()) :: (scanM (rest.drop (putBytes k xs).length)).1, (putBytes k xs).length + (scanM (rest.drop (putBytes k xs).length)).2.1, (scanM (rest.drop (putBytes k xs).length)).2.2) := by
  rw [scanM.eq_1]; split
  · rename_i k' xs' h'; rw [h] at h'; cases h'; rfl
  · rename_i s h'; rw [h] at h'; cases h'
theorem scanM_err {rest : List UInt8} {s : Bool} (h : scanOne rest = .error s) : scanM rest = ([], 0, s) := by
  rw [scanM.eq_1]; split
  · rename_i k' xs' h'; rw [h] at h'; cases h'
  · rename_i s h'; rw [h] at h'; cases h'; rfl
theorem scanM_nil : scanM [] = ([], 0, false) := scanM_err rfl
/-- so far -/
def Far (bs : List UInt8) (p : Nat) (done : List Ent) : Prop := p ≤ bs.length ∧ scanM bs = (done ++ (scanM (bs.drop p)).1, p + (scanM (bs.drop p)).2.1, (scanM (bs.drop p)).2.2)
theorem Far.start (bs : List UInt8) : Far bs 0 [] := ⟨Nat.zero_le _, by simp⟩
theorem Far.more {bs xs : List UInt8} {p : Nat} {done : List Ent} {k : UInt8} (f : Far bs p done) (h : scanOne (bs.drop p) = .ok (k, xs)) : Far bs (p + (putBytes k xs).length) (done ++ [(k, xs, ())]) := by
  obtain ⟨h1, h2⟩ := f
  have hl := scanOne_len h
  have hd : (bs.drop p).length = bs.length - p := by simp
  refine ⟨by omega, ?_⟩
  rw [h2, scanM_ok h, List.drop_drop]
  simp [Nat.add_assoc]
theorem Far.pre {bs xs : List UInt8} {p : Nat} {done : List Ent} {k : UInt8} (f : Far bs p done) (h : scanOne (bs.drop p) = .ok (k, xs)) : done ++ [(k, xs, ())] <+: (scanM bs).1 := by
  rw [f.2, scanM_ok h]
  exact ⟨(scanM ((bs.drop p).drop (putBytes k xs).length)).1, by simp⟩
theorem scanM_len (bs : List UInt8) : 17 * (scanM bs).1.length ≤ bs.length ∧ (scanM bs).2.1 ≤ bs.length := by
  generalize hn : bs.length = n
  induction n using Nat.strongRecOn generalizing bs with
  | _ n ih =>
    rcases h : scanOne bs with s | ⟨k, xs⟩
    · rw [scanM_err h]; simp
    · have hl := scanOne_len h
      have hd : (bs.drop (putBytes k xs).length).length = n - (putBytes k xs).length := by simp [hn]
      have := ih (n - (putBytes k xs).length) (by omega) (bs.drop (putBytes k xs).length) hd
      rw [scanM_ok h]
      simp only [List.length_cons]
      omega
theorem Far.stop {bs : List UInt8} {p : Nat} {done : List Ent} {s : Bool} (f : Far bs p done) (h : scanOne (bs.drop p) = .error s) : scanM bs = (done, p, s) := by
  rw [f.2, scanM_err h]; simp

theorem next_ok {r : Fr} {sc p : Nat} {vb : Value} {bs xs : List UInt8} {k : UInt8} {sp : Bool} (ha : Arr Rp.u8 r vb bs) (hp : p ≤ bs.length) (hs : scanOne (bs.drop p) = .ok (k, xs)) :
    Con Go.Proofs.Tryd.prog 60 #[.pointer (some ⟨sc, 0, none⟩)] r [obj sc 87 [vb, .int .i64 (p : Int), .bool sp]]
      (Ret fun u η => ∃ a c, u = .tuple #[.agg #[byteV k, .slice a xs.length c], .bool true] ∧ η = [obj sc 87 [vb, .int .i64 ((p : Int) + (putBytes k xs).length), .bool sp], OwnP Rp.u8 5 (.slice a xs.length c) xs]) :=
  (next_c ha hp).mono fun e η h => by
    cases e with
    | returned u =>
      rcases h with ⟨k', xs', a, c, h1, h2, h3⟩ | ⟨s, z, a, n, c, h1, h2⟩
      · rw [hs] at h1; cases h1; exact ⟨a, c, h2, h3⟩
      · rw [hs] at h1; cases h1
    | panicked _ => exact h.elim
    | outgrown => exact h.elim
theorem next_err {r : Fr} {sc p : Nat} {vb : Value} {bs : List UInt8} {sp s : Bool} (ha : Arr Rp.u8 r vb bs) (hp : p ≤ bs.length) (hs : scanOne (bs.drop p) = .error s) :
    Con Go.Proofs.Tryd.prog 60 #[.pointer (some ⟨sc, 0, none⟩)] r [obj sc 87 [vb, .int .i64 (p : Int), .bool sp]]
      (Ret fun u η => ∃ z a n c, u = .tuple #[.agg #[.int .u8 z, .slice a n c], .bool false] ∧ η = [obj sc 87 [vb, .int .i64 (p : Int), .bool s]]) :=
  (next_c ha hp).mono fun e η h => by
    cases e with
    | returned u =>
      rcases h with ⟨k', xs', a, c, h1, h2, h3⟩ | ⟨s, z, a, n, c, h1, h2, h3⟩
      · rw [hs] at h1; cases h1
      · rw [hs] at h1; cases h1; exact ⟨z, a, n, c, h2, h3⟩
    | panicked _ => exact h.elim
    | outgrown => exact h.elim

theorem all1_c {r : Fr} {sc b1 l : Nat} {vb : Value} {bs : List UInt8} {J : List Ent → SProp} (ha : Arr Rp.u8 r vb bs)
    (hy : ∀ done k xs a c, done ++ [(k, xs, ())] <+: (scanM bs).1 → YCon Go.Proofs.Tryd.prog l #[.agg #[byteV k, .slice a xs.length c]] r [OwnP Rp.u8 5 (.slice a xs.length c) xs, J done] (Ret fun u η => u = .bool true ∧ η = [J (done ++ [(k, xs, ())])])) :
    Con Go.Proofs.Tryd.prog 59 #[yieldV l, .pointer (some ⟨b1, 0, none⟩)] r [obj b1 85 [.pointer (some ⟨sc, 0, none⟩)], obj sc 87 [vb, .int .i64 0, .bool false], J []]
      (Ret fun u η => u = .tuple #[] ∧ η = [obj sc 87 [vb, .int .i64 ((scanM bs).2.1 : Int), .bool (scanM bs).2.2], J (scanM bs).1]) := by
  refine Con.of (n := 28) [yieldV l, .pointer (some ⟨b1, 0, none⟩)] rfl Go.Proofs.Tryd.func59 rfl rfl rfl fun g hg R hR => ?_
  have ha := ha.mono hg
  obtain ⟨a1, c1, rfl⟩ := ha.shape
  have hbd := ha.bound
  refine S.block ?_
  refine S.loopK2 (ι := Nat) (κ := List Ent) (fun p done => Far bs p done) (fun p done => []) [(0, _), (1, _)] (fun p done => [obj b1 85 [.pointer (some ⟨sc, 0, none⟩)], obj sc 87 [.slice a1 bs.length c1, .int .i64 (p : Int), .bool false], J done]) (fun p done => bs.length - p) (0) ([]) (by exact Far.start bs) (.nil) (.cons rfl (.cons rfl (.nil))) rfl fun p done hx ih => ?_
  have hm1 := meltRefl (g := g)
  have hp := hx.1
  refine S.seq (S.seq ?_)
  refine S.frzT (B := obj b1 85 [.pointer (some ⟨sc, 0, none⟩)]) (by repeat (first | exact Sel.here | apply Sel.there)) fun g1 hs1 ⟨m1, hm1', hsm1⟩ th1 => ?_
  refine S.frzT (B := obj sc 87 [.slice a1 bs.length c1, .int .i64 (p : Int), .bool false]) (by repeat (first | exact Sel.here | apply Sel.there)) fun g2 hs2 ⟨m2, hm2', hsm2⟩ th2 => ?_
  have hat1 := (obj_at hm1').mono (Fr.sub_trans hsm1 hs2)
  have hat2 := (obj_at hm2').mono hsm2
  refine S.regionD (L := [0, 1, 2, 3, 4, 5, 6, 7, 8, 9]) FactJourn3.mixed (by kernel_rfl) ?_
  refine .quiet (.p rfl) rfl (fun _ => .loadAt FactJourn3.flat85 rfl hat1 rfl) ?_
  refine .quiet (.p rfl) rfl (fun _ => .nilCheck rfl) ?_
  refine .quiet (.p rfl) rfl (fun _ => .fieldAddr FactJourn3.fld87x1 rfl) ?_
  refine .quiet (.p rfl) rfl (fun _ => .loadAt FactJourn3.flat3 rfl (hat2.drop 1) rfl) ?_
  refine .quiet (.p rfl) rfl (fun _ => .loadAt FactJourn3.flat85 rfl hat1 rfl) ?_
  refine .quiet (.p rfl) rfl (fun _ => .nilCheck rfl) ?_
  refine .quiet (.p rfl) rfl (fun _ => .fieldAddr FactJourn3.fld87x0 rfl) ?_
  refine .quiet (.p rfl) rfl (fun _ => .loadAt FactJourn3.flat23 rfl hat2 rfl) ?_
  refine .quiet (.p rfl) rfl (fun _ => .len rfl Go.Proofs.Tryd.underlying23 rfl) ?_
  refine .quiet (.p rfl) rfl (fun _ => .lss rfl rfl) ?_
  refine .nil ?_
  first | refine S.condD rfl (fun h14 => ?_) (fun h14 => ?_) | refine S.condB rfl (fun h14 => ?_) (fun h14 => ?_)
  ·
    rcases hs : scanOne (bs.drop p) with s | ⟨k, xs⟩
    ·
      refine S.skip (S.block (S.seq ?_))
      refine th2 ?_
      refine th1 ?_
      refine S.region rfl ?_
      refine O.op (.p rfl) (.loadObj FactJourn3.flat85 rfl (by repeat (first | exact Sel.here | apply Sel.there)) rfl) ?_
      refine O.callS (.p rfl) rfl FactJourn3.ok60 rfl rfl (by repeat (first | exact Sel.here | apply Sel.there)) (next_err (sp := false) ha hp hs) ?_
      rintro v17 _ ⟨z17, m17, n17, c17, rfl, rfl⟩
      try simp only [List.cons_append, List.nil_append, List.append_nil]
      refine O.op (.p rfl) (.mv rfl) ?_
      refine O.op (.p rfl) (.extract rfl rfl) ?_
      refine O.op (.p rfl) (.extract rfl rfl) ?_
      refine O.opE (.p rfl) (.alloc (cs := [.int .u8 0, .slice none 0 0]) Go.Proofs.Tryd.zeroValue25 rfl) ?_
      rintro _ _ ⟨b3, rfl, rfl⟩
      refine O.opU rfl (.storeObj (by kernel_rfl) rfl rfl rfl rfl (by repeat (first | exact Sel.here | apply Sel.there)) (by first | (simp; done) | (simp [Value.cells]; done))) ?_
      refine O.op (.p rfl) (.as rfl) ?_
      refine O.nil ?_
      refine S.seq (S.region rfl ?_)
      refine O.op (.p rfl) (.mv rfl) ?_
      refine O.op (.p rfl) (.not rfl) ?_
      refine O.op (.p rfl) (.mv rfl) ?_
      refine O.opN rfl rfl rfl ?_
      refine O.opN rfl rfl rfl ?_
      refine O.opN rfl rfl rfl ?_
      refine O.opN rfl rfl rfl ?_
      refine O.op (.p rfl) (.pickT rfl rfl) ?_
      refine O.nil ?_
      refine S.condT rfl ?_
      refine S.ret0 Go.Proofs.Tryd.results59 fun w hw => Holds.end_ hR hw ?_
      exact ⟨_, ⟨rfl, by rw [hx.stop hs]⟩, by repeat (first | exact Picks.all | exact Picks.nil | (apply Picks.cons; focus (repeat (first | exact Sel.here | apply Sel.there))) | apply Picks.skip)⟩
    ·
      have hlen := scanOne_len hs
      have hdl : (bs.drop p).length = bs.length - p := by simp
      refine S.skip (S.block (S.seq ?_))
      refine th2 ?_
      refine th1 ?_
      refine S.region rfl ?_
      refine O.op (.p rfl) (.loadObj FactJourn3.flat85 rfl (by repeat (first | exact Sel.here | apply Sel.there)) rfl) ?_
      refine O.callS (.p rfl) rfl FactJourn3.ok60 rfl rfl (by repeat (first | exact Sel.here | apply Sel.there)) (next_ok (sp := false) ha hp hs) ?_
      rintro v17 _ ⟨a, c, rfl, rfl⟩
      try simp only [List.cons_append, List.nil_append, List.append_nil]
      refine O.op (.p rfl) (.mv rfl) ?_
      refine O.op (.p rfl) (.extract rfl rfl) ?_
      refine O.op (.p rfl) (.extract rfl rfl) ?_
      refine O.opE (.p rfl) (.alloc (cs := [.int .u8 0, .slice none 0 0]) Go.Proofs.Tryd.zeroValue25 rfl) ?_
      rintro _ _ ⟨b3, rfl, rfl⟩
      refine O.opU rfl (.storeObj (by kernel_rfl) rfl rfl rfl rfl (by repeat (first | exact Sel.here | apply Sel.there)) (by first | (simp; done) | (simp [Value.cells]; done))) ?_
      refine O.op (.p rfl) (.as rfl) ?_
      refine O.nil ?_
      refine S.seq (S.region rfl ?_)
      refine O.op (.p rfl) (.mv rfl) ?_
      refine O.op (.p rfl) (.not rfl) ?_
      refine O.op (.p rfl) (.mv rfl) ?_
      refine O.op (.g rfl rfl) (.mv rfl) ?_
      refine O.op (.g rfl rfl) (.loadObjAgg (news := [_, _]) Go.Proofs.Tryd.isAgg25 (by kernel_rfl) rfl (by repeat (first | exact Sel.here | apply Sel.there)) rfl) ?_
      refine O.yieldSs (.g rfl rfl) rfl rfl rfl (by repeat (first | exact Sels.nil | (apply Sels.cons; focus (repeat (first | exact Sel.here | apply Sel.there))))) ((hy done k xs a c (hx.pre hs)).sub hg) ?_
      rintro v25 _ ⟨rfl, rfl⟩
      refine O.op (.g rfl rfl) (.not rfl) ?_
      refine O.op (.p rfl) (.pickF rfl rfl) ?_
      refine O.nil ?_
      refine S.condF rfl ?_
      refine S.skip (S.inBlock ?_)
      simp only [List.cons_append, List.nil_append]
      rw [show ((p : Int) + ((putBytes k xs).length : Int)) = ((p + (putBytes k xs).length : Nat) : Int) from rfl]
      refine S.pk ?_ (S.weaken ?_ (ih (p + (putBytes k xs).length) (done ++ [(k, xs, ())]) (by exact Far.more hx hs) (by omega)))
      · repeat (first | exact Picks.all | exact Picks.nil | (apply Picks.cons; focus (repeat (first | exact Sel.here | apply Sel.there))) | apply Picks.skip)
      repeat (first | exact Sub.nil | refine Sub.cons rfl ?_)
  · have hp' : p = bs.length := by omega
    subst hp'
    clear ih
    refine S.exit rfl ?_
    refine th2 ?_
    refine th1 ?_
    refine S.end0 Go.Proofs.Tryd.results59 fun w hw => Holds.end_ hR hw ?_
    exact ⟨_, ⟨rfl, by rw [hx.stop (s := false) (by simp [scanOne])]⟩, by repeat (first | exact Picks.all | exact Picks.nil | (apply Picks.cons; focus (repeat (first | exact Sel.here | apply Sel.there))) | apply Picks.skip)⟩

end Go.Proofs.YtcghiboamlaenaaDoor
end
section
open Go Go.Sp
set_option maxRecDepth 100000
attribute [local irreducible] obj Own OwnP
namespace Go.Proofs.YtcghiboamlaenaaDoor
theorem FactJourn4.elem25 : elemIs Go.Proofs.Tryd.prog 25 2 32 [.int .u8 0, .slice none 0 0] := elemIs.mk (by kernel_rfl) rfl
theorem FactJourn4.flat3 : Go.Sp.flat1 Go.Proofs.Tryd.prog 3 = true := by kernel_rfl
theorem FactJourn4.flat35 : Go.Sp.flat1 Go.Proofs.Tryd.prog 35 = true := by kernel_rfl
theorem FactJourn4.flat4 : Go.Sp.flat1 Go.Proofs.Tryd.prog 4 = true := by kernel_rfl
theorem FactJourn4.fld87x1 : fieldOff Go.Proofs.Tryd.prog 87 1 = some 1 := by kernel_rfl
theorem FactJourn4.fld87x2 : fieldOff Go.Proofs.Tryd.prog 87 2 = some 2 := by kernel_rfl
theorem FactJourn4.mixed : Go.Proofs.Tryd.prog.follows .mixedOrders = true := by kernel_rfl
theorem FactJourn4.ok48 : callable Go.Proofs.Tryd.prog 48 = true := by kernel_rfl
theorem FactJourn4.ok59 : callable Go.Proofs.Tryd.prog 59 = true := by kernel_rfl

abbrev EntG : Gp Ent := Gp.prod (Gp.pure Rp.u8) (Gp.prod (Gp.row Rp.u8 5) Gp.unit)
theorem EntG.mk {k : UInt8} {xs : List UInt8} {a : Option Addr} {c : Nat} {m : Fr} (h : OwnP Rp.u8 5 (.slice a xs.length c) xs m) : EntG.own [byteV k, .slice a xs.length c] (k, xs, ()) m :=
  Gp.own_pure_prod (c := [byteV k]) (d := [.slice a xs.length c]) rfl (Gp.own_unit ⟨_, rfl, h⟩)
theorem all_c {r : Fr} {sc : Nat} : Con Go.Proofs.Tryd.prog 48 #[.pointer (some ⟨sc, 0, none⟩)] r [] (Ret fun v η => ∃ b, v = .func (.func 59) #[] #[.pointer (some ⟨b, 0, none⟩)] ∧ η = [obj b 85 [.pointer (some ⟨sc, 0, none⟩)]]) := by
  refine Con.of (n := 4) [.pointer (some ⟨sc, 0, none⟩)] rfl Go.Proofs.Tryd.func48 rfl rfl rfl fun g hg R hR => ?_
  refine S.seq (S.region rfl ?_)
  refine O.opE (.p rfl) (.box (cs := [_]) rfl rfl) ?_
  rintro _ _ ⟨b1, rfl, rfl⟩
  refine O.op (.p rfl) (.as rfl) ?_
  refine O.nil ?_
  refine S.seq (S.region rfl ?_)
  refine O.op (.p rfl) (.mkFunc rfl rfl) ?_
  refine O.op (.p rfl) (.as rfl) ?_
  refine O.nil ?_
  refine S.ret Go.Proofs.Tryd.results48 rfl fun w hw => Holds.end_ hR hw ?_
  exact ⟨_, ⟨_, rfl, rfl⟩, by repeat (first | exact Picks.all | exact Picks.nil | (apply Picks.cons; focus (repeat (first | exact Sel.here | apply Sel.there))) | apply Picks.skip)⟩
theorem scan_c {r : Fr} {va : Value} {bs : List UInt8} (ha : Arr Rp.u8 r va bs) (hb : bs.length ≤ 70368744177664) :
    Con Go.Proofs.Tryd.prog 26 #[va] r [] (Ret fun v η => ∃ a c, v = .tuple #[.slice a (scanM bs).1.length c, .int .i64 ((scanM bs).2.1 : Int), .bool (scanM bs).2.2] ∧ η = [ListP EntG 25 (.slice a (scanM bs).1.length c) (scanM bs).1]) := by
  refine Con.of (n := 26) [va] rfl Go.Proofs.Tryd.func26 rfl rfl rfl fun g hg R hR => ?_
  have ha := ha.mono hg
  obtain ⟨a1, c1, rfl⟩ := ha.shape
  have hlen := (scanM_len bs).1
  refine S.seq (S.region rfl ?_)
  refine O.opE (.p rfl) (.alloc (cs := [.slice none 0 0]) Go.Proofs.Tryd.zeroValue35 rfl) ?_
  rintro _ _ ⟨b2, rfl, rfl⟩
  refine O.op (.p rfl) (.as rfl) ?_
  refine O.op (.p rfl) (.as rfl) ?_
  refine O.nil ?_
  refine S.seq (S.region rfl ?_)
  refine O.op (.p rfl) (.mv rfl) ?_
  refine O.op (.p rfl) (.build (cs := [_, _, _]) Go.Proofs.Tryd.underlying87 rfl rfl rfl rfl rfl) ?_
  refine O.opE (.p rfl) (.box (cs := [_, _, _]) rfl rfl) ?_
  rintro _ _ ⟨b9, rfl, rfl⟩
  refine O.op (.p rfl) (.as rfl) ?_
  refine O.nil ?_
  refine S.seq (S.seq (S.region rfl ?_))
  refine O.op (.p rfl) (.mv rfl) ?_
  refine O.call0 (.p rfl) rfl FactJourn4.ok48 rfl rfl (all_c) ?_
  rintro v11 _ ⟨b11, rfl, rfl⟩
  try simp only [List.cons_append, List.nil_append, List.append_nil]
  refine O.nil ?_
  refine S.block ?_
  refine S.listNil EntG 25 ?_
  refine S.rangeAll (psl := [12]) (β := Ent) (χ := Option Addr × Nat) (τ := Option Addr × Nat) (vs := fun y e => [.agg #[byteV y.1, .slice e.1 y.2.1.length e.2]]) (own := fun y e => [OwnP Rp.u8 5 (.slice e.1 y.2.1.length e.2) y.2.1]) (θ := [obj b11 85 [.pointer (some ⟨b9, 0, none⟩)], obj b9 87 [.slice a1 bs.length c1, .int .i64 0, .bool false]]) (θ' := [obj b9 87 [.slice a1 bs.length c1, .int .i64 ((scanM bs).2.1 : Int), .bool (scanM bs).2.2]]) (ys := (scanM bs).1) (fun done t => [obj b2 35 [.slice t.1 done.length t.2], ListP EntG 25 (.slice t.1 done.length t.2) done]) (none, 0) rfl FactJourn4.ok59 rfl (fun _ _ => rfl) (by kernel_rfl) (fun l J hy => Con.mono (all1_c ha (fun done k xs a c hp => hy done (k, xs, ()) (a, c) hp)) (Ret.imp fun _ _ h => h.2)) (by repeat (first | exact Sels.nil | (apply Sels.cons; focus (repeat (first | exact Sel.here | apply Sel.there))))) (fun l D0 fid tm done y e t hpre g hgr R hR => ?_) (fun D0 t => ?_)
  · simp only [under, List.cons_append, List.nil_append]
    replace hg := Fr.sub_trans hg hgr
    obtain ⟨ky, xs, ⟨⟩⟩ := y
    obtain ⟨ae, ce⟩ := e
    obtain ⟨at', ct⟩ := t
    have hpl := hpre.length_le
    simp only [List.length_append, List.length_singleton] at hpl
    refine S.region rfl ?_
    refine O.opE (.p rfl) (.alloc (cs := [.int .u8 0, .slice none 0 0]) Go.Proofs.Tryd.zeroValue25 rfl) ?_
    rintro _ _ ⟨b6, rfl, rfl⟩
    refine O.opU rfl (.storeObj (by kernel_rfl) rfl rfl rfl rfl (by repeat (first | exact Sel.here | apply Sel.there)) (by first | (simp; done) | (simp [Value.cells]; done))) ?_
    refine O.nil ?_
    refine S.beginRound (by repeat (first | exact Sel.here | apply Sel.there)) rfl ?_
    refine S.block ?_
    refine S.listOpen (k' := 2) rfl (by repeat (first | exact Sel.here | apply Sel.there)) fun css hcl => ?_
    rw [← hcl]
    have hcb : css.length + 1 ≤ 4294967296000 := by omega
    refine S.region rfl ?_
    refine O.op (.p rfl) (.loadObj FactJourn4.flat35 rfl (by repeat (first | exact Sel.here | apply Sel.there)) rfl) ?_
    refine O.op (.p rfl) (.loadObjAgg (news := [_, _]) Go.Proofs.Tryd.isAgg25 (by kernel_rfl) rfl (by repeat (first | exact Sel.here | apply Sel.there)) rfl) ?_
    refine O.opE (.p rfl) (.litP (T := (Rp.cells 2)) (ys := [_]) Go.Proofs.Tryd.underlying35 FactJourn4.elem25 (by decide) rfl rfl ⟨⟨rfl, rfl, by first | (simp; done) | (intro v hv; simp [Value.cells] at hv; rcases hv with rfl | rfl <;> rfl)⟩, trivial⟩ (by decide)) ?_
    rintro _ _ ⟨a15, c15, rfl, rfl⟩
    refine O.opE (.p rfl) (.appendO (T := (Rp.cells 2)) Go.Proofs.Tryd.underlying35 FactJourn4.elem25 (by decide) rfl rfl (by repeat (first | exact Sel.here | apply Sel.there)) (by repeat (first | exact Sel.here | apply Sel.there)) (by first | omega | (simp; done) | (simp; omega) | decide) (by first | omega | (simp; done) | (simp; omega) | decide)) ?_
    rintro _ _ ⟨a16, c16, rfl, rfl⟩
    refine O.opU rfl (.store1 FactJourn4.flat35 rfl rfl (by first | rfl | assumption) (by repeat (first | exact Sel.here | apply Sel.there)) (by first | (simp; done) | (simp [Value.cells]; done))) ?_
    refine O.nil ?_
    refine S.inBlock ?_
    have hcs : (Value.agg #[byteV ky, .slice ae xs.length ce]).cells.toList = [byteV ky, .slice ae xs.length ce] := by simp [Value.cells]
    simp only [hcs, List.length_singleton]
    refine S.conv (B := OwnP Rp.u8 5 (.slice ae xs.length ce) xs) (C := EntG.own [byteV ky, .slice ae xs.length ce] (ky, xs, ())) (by repeat (first | exact Sel.here | apply Sel.there)) (fun m x => ⟨m, Fr.sub_refl _, EntG.mk x⟩) ?_
    refine S.listPut (k' := 2) rfl (by repeat (first | exact Sel.here | apply Sel.there)) (by repeat (first | exact Sel.here | apply Sel.there)) (by repeat (first | exact Sel.here | apply Sel.there)) ?_
    refine S.roundEnd (by repeat (first | exact Sel.here | apply Sel.there)) fun w hw => hR (a16, c16) w ?_
    rw [hcl] at hw
    simp only [List.length_append, List.length_singleton]
    exact hw.picks (by repeat (first | exact Picks.all | exact Picks.nil | (apply Picks.cons; focus (repeat (first | exact Sel.here | apply Sel.there))) | apply Picks.skip))
  · simp only [List.cons_append, List.nil_append, List.append_nil]
    refine S.inBlock (S.seq ?_)
    refine S.frzT (B := obj b9 87 [.slice a1 bs.length c1, .int .i64 ((scanM bs).2.1 : Int), .bool (scanM bs).2.2]) (by repeat (first | exact Sel.here | apply Sel.there)) fun g1 hs1 ⟨m1, hm1', hsm1⟩ th1 => ?_
    have hat1 := (obj_at hm1').mono hsm1
    refine S.regionD (L := [1, 2, 3, 4, 5, 6, 7, 8, 0, 9, 10, 11]) FactJourn4.mixed (by kernel_rfl) ?_
    refine .quiet (.p rfl) rfl (fun _ => .mv rfl) ?_
    refine .quiet (.p rfl) rfl (fun _ => .nilCheck rfl) ?_
    refine .quiet (.p rfl) rfl (fun _ => .fieldAddr FactJourn4.fld87x1 rfl) ?_
    refine .quiet (.p rfl) rfl (fun _ => .loadAt FactJourn4.flat3 rfl (hat1.drop 1) rfl) ?_
    refine .quiet (.p rfl) rfl (fun _ => .mv rfl) ?_
    refine .quiet (.p rfl) rfl (fun _ => .nilCheck rfl) ?_
    refine .quiet (.p rfl) rfl (fun _ => .fieldAddr FactJourn4.fld87x2 rfl) ?_
    refine .quiet (.p rfl) rfl (fun _ => .loadAt FactJourn4.flat4 rfl (hat1.drop 2) rfl) ?_
    refine OD.loadL (.p rfl) (by kernel_rfl) (fun _ => .loadObj FactJourn4.flat35 rfl (by repeat (first | exact Sel.here | apply Sel.there)) rfl) ?_
    refine OD.store1 rfl (by kernel_rfl) FactJourn4.flat35 rfl rfl (by first | rfl | assumption) (by repeat (first | exact Sel.here | apply Sel.there)) (by first | (simp; done) | (simp [Value.cells]; done)) ?_
    refine .quiet (.p rfl) rfl (fun _ => .as rfl) ?_
    refine .quiet (.p rfl) rfl (fun _ => .as rfl) ?_
    refine .nil ?_
    refine th1 ?_
    refine S.retM3 (.inr ⟨_, rfl⟩) (.cons (by repeat (first | exact Sel.here | apply Sel.there)) .nil) Go.Proofs.Tryd.results26 (.cell FactJourn4.flat35 rfl (by repeat (first | exact Sel.here | apply Sel.there))) (.tmp rfl) (.tmp rfl) fun w hw => ?_
    exact Holds.end_ hR hw ⟨_, ⟨_, _, rfl, rfl⟩, by repeat (first | exact Picks.all | exact Picks.nil | (apply Picks.cons; focus (repeat (first | exact Sel.here | apply Sel.there))) | apply Picks.skip)⟩

end Go.Proofs.YtcghiboamlaenaaDoor
end
