import Derived.Test.YthaebmfgelaleaaGreatNet1
import Derived.Test.YthaebmfgelaleaaGreatSortFLay
import Derived.Test.YthaebmfgelaleaaGreatSpDel
open Go Go.Sp
set_option maxRecDepth 100000
attribute [local irreducible] obj Own OwnP
namespace Go.Proofs.YthaebmfgelaleaaGreat
theorem FactNet2.elem35 : elemIs Go.Proofs.Tryz.prog 35 3 40 [.int .i64 0, .int .i64 0, .slice none 0 0] := elemIs.mk (by kernel_rfl) rfl
theorem FactNet2.flat33 : Go.Sp.flat1 Go.Proofs.Tryz.prog 33 = true := by kernel_rfl
theorem FactNet2.flat55 : Go.Sp.flat1 Go.Proofs.Tryz.prog 55 = true := by kernel_rfl
theorem FactNet2.fld35x2 : fieldOff Go.Proofs.Tryz.prog 35 2 = some 2 := by kernel_rfl
theorem FactNet2.fld57x0 : fieldOff Go.Proofs.Tryz.prog 57 0 = some 0 := by kernel_rfl
theorem FactNet2.fld59x0 : fieldOff Go.Proofs.Tryz.prog 59 0 = some 0 := by kernel_rfl
theorem FactNet2.mixed : Go.Proofs.Tryz.prog.follows .mixedOrders = true := by kernel_rfl
theorem FactNet2.ok84 : callable Go.Proofs.Tryz.prog 84 = true := by kernel_rfl
theorem FactNet2.size35 : (Go.Proofs.Tryz.prog.info? 35).map (·.size) = some 3 := by kernel_rfl

def cells2 (a : Int × Int) : List Value := [.int .i64 a.1, .int .i64 a.2]
abbrev NetM : Type := List ((Int × Int) × List Pkt)
/-- a link's packets -/
def atL (ls : NetM) (k : Int × Int) : List Pkt := (lkA ls k).getD []
def keyP (p : Pkt) : Int × Int := (p.1, p.2.1)
abbrev linkO : KEnt (Int × Int) → (Int × Int) × List Pkt → SProp := linkOwn 5 35
abbrev linksW (b : Nat) (ls : NetM) : SProp := LinksP 5 35 b ls
abbrev pktG : Gp Pkt := PktG 5
theorem delK_putK {es : List (KEnt (Int × Int))} {k : Int × Int} (h : (getK es k).isSome) (c : Nat) (v : Value) : delK (putK es c k v) k = delK es k := by
  unfold putK
  rw [if_pos h]
  clear h
  induction es with
  | nil => rfl
  | cons x es ih =>
    simp only [setK, delK]
    split
    · simp [delK]
    · rename_i hx; simp only [delK, if_neg hx, ih]
theorem get_some {es : List (KEnt (Int × Int))} {ls : NetM} (hk : es.map (·.1) = ls.map (·.1)) {k : Int × Int} (h : 0 < (atL ls k).length) : (getK es k).isSome := by
  cases hg : getK es k with
  | some v => rfl
  | none =>
    have h1 := getK_none.1 hg
    rw [hk] at h1
    have h2 := lkA_none.2 h1
    unfold atL at h
    rw [h2] at h
    exact absurd h (by simp)
theorem link_elem {es : List (KEnt (Int × Int))} {ls : NetM} {m : Fr} {k : Int × Int} {i : Nat} (h : EachP linkO es ls m) (hi : i < (atL ls k).length) :
    ∃ a0 c0 v0, (getK es k).getD (.slice none 0 0) = .slice (some a0) (atL ls k).length c0 ∧ (EachP linkO es ls m ∧ At m (a0.add (i * 3)) [.int .i64 (atL ls k)[i].1, .int .i64 (atL ls k)[i].2.1, v0] ∧ Arr Rp.u8 m v0 (atL ls k)[i].2.2.1) ∧ InI64 (atL ls k)[i].1 ∧ InI64 (atL ls k)[i].2.1 := by
  obtain ⟨m1, _, _, s1, _, p, _⟩ := link_out k h
  have ha : Arr PktRp m ((getK es k).getD (.slice none 0 0)) (atL ls k) := p.arr.mono s1
  obtain ⟨css, h1, a, c, hv, _, _, h3, h4⟩ := ha
  have hic : i < css.length := by rw [h1.length]; exact hi
  have hr := h1.get i hic hi
  obtain ⟨v0, hcs, hb1, hb2, hab⟩ := PktRp.open hr
  have hk3 : PktRp.k = 3 := rfl
  have hfg := h1.flat_get i hic
  rw [hk3] at hfg h3
  have hlen : css.flatten.length = (atL ls k).length * 3 := h3
  cases a with
  | none =>
    obtain ⟨q, hq, _⟩ := h4 0 (by omega)
    cases hq
  | some a0 =>
    refine ⟨a0, c, v0, hv, ⟨h, ?_, hab⟩, hb1, hb2⟩
    rw [← hcs, ← hfg]
    intro q hq
    rw [Addr.add_add]
    have hq' : i * 3 + q < css.flatten.length := by simp only [List.length_take, List.length_drop] at hq; omega
    obtain ⟨q0, hq0, hc⟩ := h4 _ hq'
    cases hq0
    rw [hc]; simp
theorem pown_c {r : Fr} {a b : Int} {v : Value} {xs : List UInt8} (ha : Arr Rp.u8 r v xs) (hl : xs.length ≤ 140737488355328) :
    Con Go.Proofs.Tryz.prog 47 #[.agg #[.int .i64 a, .int .i64 b, v]] r [] (Ret fun u η => ∃ ad c, u = .agg #[.int .i64 a, .int .i64 b, .slice ad xs.length c] ∧ η = [OwnP Rp.u8 5 (.slice ad xs.length c) xs]) := by
  refine Con.of (n := 8) [.agg #[.int .i64 a, .int .i64 b, v]] rfl Go.Proofs.Tryz.func47 rfl rfl rfl fun g hg R hR => ?_
  have ha := ha.mono hg
  obtain ⟨a1, c1, rfl⟩ := ha.shape
  refine S.seq (S.region rfl ?_)
  refine O.opE (.p rfl) (.box (cs := [_, _, _]) rfl rfl) ?_
  rintro _ _ ⟨b1, rfl, rfl⟩
  refine O.opE (.p rfl) (.alloc (cs := [.int .i64 0, .int .i64 0, .slice none 0 0]) Go.Proofs.Tryz.zeroValue35 rfl) ?_
  rintro _ _ ⟨b2, rfl, rfl⟩
  refine O.nil ?_
  refine S.seq (S.region rfl ?_)
  refine O.op (.p rfl) (.fieldObj FactNet2.fld35x2 rfl) ?_
  refine O.op (.p rfl) (.loadObj FactNet2.flat33 rfl (by repeat (first | exact Sel.here | apply Sel.there)) rfl) ?_
  refine O.call0 (.p rfl) rfl FactNet2.ok84 rfl rfl (cloneB_c (by first | assumption | exact Arr.mono hg (by assumption) | exact Arr.left (by assumption) | exact Arr.left (Arr.mono hg (by assumption))) (by first | omega | (simp; done) | (simp; omega) | decide)) ?_
  rintro v5 _ ⟨a5, c5, rfl, rfl⟩
  try simp only [List.cons_append, List.nil_append, List.append_nil]
  refine O.op (.p rfl) (.fieldObj FactNet2.fld35x2 rfl) ?_
  refine O.opU rfl (.store1 FactNet2.flat33 rfl rfl (by first | rfl | assumption) (by repeat (first | exact Sel.here | apply Sel.there)) (by first | (simp; done) | (simp [Value.cells]; done))) ?_
  refine O.nil ?_
  refine S.seq (S.region rfl ?_)
  refine O.op (.p rfl) (.loadObjAgg (news := [_, _, _]) Go.Proofs.Tryz.isAgg35 (by kernel_rfl) rfl (by repeat (first | exact Sel.here | apply Sel.there)) rfl) ?_
  refine O.opU rfl (.storeObj (by kernel_rfl) rfl rfl rfl rfl (by repeat (first | exact Sel.here | apply Sel.there)) (by first | (simp; done) | (simp [Value.cells]; done))) ?_
  refine O.nil ?_
  refine S.retCellAgg Go.Proofs.Tryz.results47 Go.Proofs.Tryz.isAgg35 (by kernel_rfl) rfl (by repeat (first | exact Sel.here | apply Sel.there)) fun w hw => Holds.end_ hR hw ?_
  exact ⟨_, ⟨a5, c5, rfl, rfl⟩, by repeat (first | exact Picks.all | exact Picks.nil | (apply Picks.cons; focus (repeat (first | exact Sel.here | apply Sel.there))) | apply Picks.skip)⟩
theorem pdelete_c {r : Fr} {a : Option Addr} {c i : Nat} {css : List (List Value)} (hi : i < css.length) :
    Con Go.Proofs.Tryz.prog 30 #[.slice a css.length c, .int .i64 (i : Int), .int .i64 ((i : Int) + 1)] r [OwnP (Rp.cells 3) 35 (.slice a css.length c) css]
      (Ret fun u η => u = .slice a (css.length - 1) c ∧ η = [OwnP (Rp.cells 3) 35 (.slice a (css.length - 1) c) (css.eraseIdx i)]) := by
  refine Con.of (n := 33) [.slice a css.length c, .int .i64 (i : Int), .int .i64 ((i : Int) + 1)] rfl Go.Proofs.Tryz.func30 rfl rfl rfl fun g hg R hR => ?_
  refine S.factS .here (fun _ x => x.solid (by omega)) fun ⟨⟨b, hb⟩, _, hc1, hc2⟩ => ?_
  subst hb
  have hel : (css.eraseIdx i).length = css.length - 1 := List.length_eraseIdx_of_lt hi
  refine S.slot 2 (v' := .int .i64 ((i + 1 : Nat) : Int)) rfl (by rw [Int.natCast_add]; rfl) ?_
  refine S.seq (S.region rfl ?_)
  refine O.op (.p rfl) (.as rfl) ?_
  refine O.nil ?_
  refine S.seq (S.region rfl ?_)
  refine O.op (.p rfl) (.mv rfl) ?_
  refine O.op (.p rfl) (.mv rfl) ?_
  refine O.op (.p rfl) (.mv rfl) ?_
  refine O.op (.p rfl) (.mv rfl) ?_
  refine O.op (.p rfl) (.len rfl Go.Proofs.Tryz.underlying29 rfl) ?_
  refine O.op (.p rfl) (.sl3 (r := css.length) Go.Proofs.Tryz.underlying29 FactNet2.size35 rfl rfl rfl rfl (by omega) (by omega) (by omega)) ?_
  refine O.nil ?_
  refine S.seq (S.seq (S.region rfl ?_))
  refine O.op (.p rfl) (.mv rfl) ?_
  refine O.op (.p rfl) (.mv rfl) ?_
  refine O.op (.p rfl) (.eql rfl rfl) ?_
  refine O.slot 16 (v' := .bool false) rfl (congrArg Value.bool (by exact decide_eq_false (by omega))) ?_
  refine O.nil ?_
  refine S.condF rfl ?_
  refine S.skip (S.seq (S.region rfl ?_))
  refine O.op (.p rfl) (.mv rfl) ?_
  refine O.op (.p rfl) (.len rfl Go.Proofs.Tryz.underlying29 rfl) ?_
  refine O.op (.p rfl) (.as rfl) ?_
  refine O.nil ?_
  refine S.seq (S.regionD (L := [0, 1, 2, 3, 4, 5, 6, 7]) FactNet2.mixed (by kernel_rfl) ?_)
  refine .quiet (.p rfl) rfl (fun _ => .mv rfl) ?_
  refine .quiet (.p rfl) rfl (fun _ => .mv rfl) ?_
  refine .quiet (.p rfl) rfl (fun _ => .slTo (p := i) Go.Proofs.Tryz.underlying29 FactNet2.size35 rfl rfl (by omega)) ?_
  refine .quiet (.p rfl) rfl (fun _ => .mv rfl) ?_
  refine .quiet (.p rfl) rfl (fun _ => .mv rfl) ?_
  refine .quiet (.p rfl) rfl (fun _ => .slFrom (p := i + 1) Go.Proofs.Tryz.underlying29 FactNet2.size35 rfl rfl (by omega)) ?_
  refine OD.appendDel (.p rfl) (by kernel_rfl) Go.Proofs.Tryz.underlying29 FactNet2.elem35 hi rfl rfl (by repeat (first | exact Sel.here | apply Sel.there)) ?_
  rw [← hel]
  refine .quiet (.p rfl) rfl (fun _ => .as rfl) ?_
  refine .nil ?_
  refine S.seq (S.region rfl ?_)
  refine O.op (.p rfl) (.mv rfl) ?_
  refine O.op (.p rfl) (.mv rfl) ?_
  refine O.op (.p rfl) (.len rfl Go.Proofs.Tryz.underlying29 rfl) ?_
  refine O.op (.p rfl) (.mv rfl) ?_
  refine O.op (.p rfl) (.slMid (p := (css.eraseIdx i).length) (q := css.length) Go.Proofs.Tryz.underlying29 FactNet2.size35 rfl rfl rfl (by omega) (by omega)) ?_
  refine O.clearTail rfl Go.Proofs.Tryz.underlying29 FactNet2.elem35 (by simp; exact ⟨rfl, rfl⟩) (by decide) (by omega) (by omega) rfl (by repeat (first | exact Sel.here | apply Sel.there)) ?_
  refine O.nil ?_
  refine S.seq (S.region rfl ?_)
  refine O.op (.p rfl) (.mv rfl) ?_
  refine O.op (.p rfl) (.as rfl) ?_
  refine O.nil ?_
  rw [hel]
  refine S.ret Go.Proofs.Tryz.results30 rfl fun w hw => Holds.end_ hR hw ?_
  exact ⟨_, ⟨rfl, rfl⟩, by repeat (first | exact Picks.all | exact Picks.nil | (apply Picks.cons; focus (repeat (first | exact Sel.here | apply Sel.there))) | apply Picks.skip)⟩
theorem nnew_c {r : Fr} : Con Go.Proofs.Tryz.prog 7 #[] r [] (Ret fun u η => ∃ d b, u = .pointer (some ⟨d, 0, none⟩) ∧ η = [obj d 59 [.map (some b)], linksW b []]) := by
  refine Con.of (n := 5) [] rfl Go.Proofs.Tryz.func7 rfl rfl rfl fun g hg R hR => ?_
  refine S.seq (S.region rfl ?_)
  refine O.op (.p rfl) (.as rfl) ?_
  refine O.nil ?_
  refine S.seq (S.region rfl ?_)
  refine O.opE (.p rfl) (.makeMapK' (enc := enc2)) ?_
  rintro _ _ ⟨b1, rfl, rfl⟩
  refine O.op (.p rfl) (.build (cs := [_]) Go.Proofs.Tryz.underlying57 rfl rfl rfl rfl rfl) ?_
  refine O.op (.p rfl) (.build (cs := [_]) Go.Proofs.Tryz.underlying59 rfl rfl rfl rfl rfl) ?_
  refine O.opE (.p rfl) (.box (cs := [_]) rfl rfl) ?_
  rintro _ _ ⟨b4, rfl, rfl⟩
  refine O.op (.p rfl) (.as rfl) ?_
  refine O.nil ?_
  refine S.addW (EachP linkO [] []) (fun _ => trivial) ?_
  refine S.linksShut WfK.nil (by repeat (first | exact Sel.here | apply Sel.there)) (by repeat (first | exact Sel.here | apply Sel.there)) ?_
  refine S.ret Go.Proofs.Tryz.results7 rfl fun w hw => Holds.end_ hR hw ?_
  exact ⟨_, ⟨b4, b1, rfl, rfl⟩, by repeat (first | exact Picks.all | exact Picks.nil | (apply Picks.cons; focus (repeat (first | exact Sel.here | apply Sel.there))) | apply Picks.skip)⟩
theorem known_g {r : Fr} {d b : Nat} (hat : At r ⟨d, 0, none⟩ [.map (some b)]) : Con Go.Proofs.Tryz.prog 28 #[.pointer (some ⟨d, 0, none⟩)] r [] (Ret fun u η => u = .bool true ∧ η = []) := by
  refine Con.of (n := 13) [.pointer (some ⟨d, 0, none⟩)] rfl Go.Proofs.Tryz.func28 rfl rfl rfl fun g hg R hR => ?_
  replace hat : At g.h ⟨d, 0, none⟩ [.map (some b)] := At.mono hg hat
  refine S.seq (S.region rfl ?_)
  refine O.op (.p rfl) (.as rfl) ?_
  refine O.nil ?_
  refine S.seq (S.region rfl ?_)
  refine O.op (.p rfl) (.mv rfl) ?_
  refine O.op (.p rfl) (.neqP Go.Proofs.Tryz.underlying25 rfl rfl) ?_
  refine O.slot 4 (v' := .bool true) rfl (congrArg Value.bool (by rfl)) ?_
  refine O.op (.p rfl) (.mv rfl) ?_
  refine O.op (.g rfl rfl) (.mv rfl) ?_
  refine O.op (.g rfl rfl) (.nilCheck rfl) ?_
  refine O.op (.g rfl rfl) (.fieldAddr FactNet2.fld59x0 rfl) ?_
  refine O.op (.g rfl rfl) (.fieldAddr FactNet2.fld57x0 rfl) ?_
  refine O.op (.g rfl rfl) (.loadAt FactNet2.flat55 rfl hat rfl) ?_
  refine O.op (.g rfl rfl) (.neqM Go.Proofs.Tryz.underlying55 rfl rfl) ?_
  refine O.op (.p rfl) (.pickT rfl rfl) ?_
  refine O.op (.p rfl) (.as rfl) ?_
  refine O.nil ?_
  refine S.ret Go.Proofs.Tryz.results28 rfl fun w hw => Holds.end_ hR hw ?_
  exact ⟨_, ⟨rfl, rfl⟩, by repeat (first | exact Picks.all | exact Picks.nil | (apply Picks.cons; focus (repeat (first | exact Sel.here | apply Sel.there))) | apply Picks.skip)⟩
theorem known_0 {r : Fr} : Con Go.Proofs.Tryz.prog 28 #[.pointer none] r [] (Ret fun u η => u = .bool false ∧ η = []) := by
  refine Con.of (n := 13) [.pointer none] rfl Go.Proofs.Tryz.func28 rfl rfl rfl fun g hg R hR => ?_
  refine S.seq (S.region rfl ?_)
  refine O.op (.p rfl) (.as rfl) ?_
  refine O.nil ?_
  refine S.seq (S.region rfl ?_)
  refine O.op (.p rfl) (.mv rfl) ?_
  refine O.op (.p rfl) (.neqP Go.Proofs.Tryz.underlying25 rfl rfl) ?_
  refine O.slot 4 (v' := .bool false) rfl (congrArg Value.bool (by rfl)) ?_
  refine O.op (.p rfl) (.mv rfl) ?_
  refine O.opN rfl rfl rfl ?_
  refine O.opN rfl rfl rfl ?_
  refine O.opN rfl rfl rfl ?_
  refine O.opN rfl rfl rfl ?_
  refine O.opN rfl rfl rfl ?_
  refine O.opN rfl rfl rfl ?_
  refine O.op (.p rfl) (.pickF rfl rfl) ?_
  refine O.op (.p rfl) (.as rfl) ?_
  refine O.nil ?_
  refine S.ret Go.Proofs.Tryz.results28 rfl fun w hw => Holds.end_ hR hw ?_
  exact ⟨_, ⟨rfl, rfl⟩, by repeat (first | exact Picks.all | exact Picks.nil | (apply Picks.cons; focus (repeat (first | exact Sel.here | apply Sel.there))) | apply Picks.skip)⟩
theorem known_n {r : Fr} {d : Nat} (hat : At r ⟨d, 0, none⟩ [.map none]) : Con Go.Proofs.Tryz.prog 28 #[.pointer (some ⟨d, 0, none⟩)] r [] (Ret fun u η => u = .bool false ∧ η = []) := by
  refine Con.of (n := 13) [.pointer (some ⟨d, 0, none⟩)] rfl Go.Proofs.Tryz.func28 rfl rfl rfl fun g hg R hR => ?_
  replace hat : At g.h ⟨d, 0, none⟩ [.map none] := At.mono hg hat
  refine S.seq (S.region rfl ?_)
  refine O.op (.p rfl) (.as rfl) ?_
  refine O.nil ?_
  refine S.seq (S.region rfl ?_)
  refine O.op (.p rfl) (.mv rfl) ?_
  refine O.op (.p rfl) (.neqP Go.Proofs.Tryz.underlying25 rfl rfl) ?_
  refine O.slot 4 (v' := .bool true) rfl (congrArg Value.bool (by rfl)) ?_
  refine O.op (.p rfl) (.mv rfl) ?_
  refine O.op (.g rfl rfl) (.mv rfl) ?_
  refine O.op (.g rfl rfl) (.nilCheck rfl) ?_
  refine O.op (.g rfl rfl) (.fieldAddr FactNet2.fld59x0 rfl) ?_
  refine O.op (.g rfl rfl) (.fieldAddr FactNet2.fld57x0 rfl) ?_
  refine O.op (.g rfl rfl) (.loadAt FactNet2.flat55 rfl hat rfl) ?_
  refine O.op (.g rfl rfl) (.neqM Go.Proofs.Tryz.underlying55 rfl rfl) ?_
  refine O.op (.p rfl) (.pickT rfl rfl) ?_
  refine O.op (.p rfl) (.as rfl) ?_
  refine O.nil ?_
  refine S.ret Go.Proofs.Tryz.results28 rfl fun w hw => Holds.end_ hR hw ?_
  exact ⟨_, ⟨rfl, rfl⟩, by repeat (first | exact Picks.all | exact Picks.nil | (apply Picks.cons; focus (repeat (first | exact Sel.here | apply Sel.there))) | apply Picks.skip)⟩

end Go.Proofs.YthaebmfgelaleaaGreat
