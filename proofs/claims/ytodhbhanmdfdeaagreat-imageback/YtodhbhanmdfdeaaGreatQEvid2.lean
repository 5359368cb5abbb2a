/- Texts of this proof, one behind the other. -/
import Derived.Test.YtodhbhanmdfdeaaGreatQFc
import Derived.Test.YtodhbhanmdfdeaaGreatQRoot1
import Derived.Test.YtodhbhanmdfdeaaGreatQSpAuto
section
/- Texts of this proof. -/
open Go Go.Sp
set_option maxRecDepth 100000
attribute [local irreducible] obj Own OwnP
namespace Go.Proofs.YtodhbhanmdfdeaaGreat
theorem indexRoot_c {r : Fr} {va : Value} {xs : List RootT} {f : FuncId} {first cap : Array Value} (ha : Arr RootRp r va xs) (hc : callable Tryz.prog f = true) (q : RootT → Bool)
  (con : ∀ cs x, x ∈ xs → RootRp.rel r cs x → Con Tryz.prog f (first ++ #[.agg cs.toArray] ++ cap) r [] (Ret fun v η => v = .bool (q x) ∧ η = [])) :
  Con Tryz.prog 339 #[va, .func (.func f) first cap] r [] (Ret fun v η => ∃ k : Int, v = .int .i64 k ∧ (0 ≤ k ↔ xs.any q = true) ∧ η = []) := by
 have har := ha
 refine Con.of (n := 19) [va, .func (.func f) first cap] rfl Tryz.func339 rfl rfl rfl fun g hg R hR => ?_
 have ha := ha.mono hg
 have hbd := ha.bound
 obtain ⟨a1, c1, rfl⟩ := ha.shape
 refine S.seq <| S.region rfl <| O.q 1 rfl <| O.nil <| S.seq <| S.seq <| S.region rfl <| O.q 1 rfl <| O.op (.p rfl) (.len rfl Tryz.underlying23 rfl) <| O.q 1 rfl <| O.nil <| S.block <| S.loopK (ι := Nat) (fun i => i ≤ xs.length ∧ (xs.take i).any q = false) (fun i => [(8, .int .i64 (i : Int))]) [(0, _), (1, _), (7, _)] (fun i => []) (fun i => xs.length - i) (0) (by exact ⟨by simp, by simp⟩) (.cons rfl (.nil)) (.cons rfl (.cons rfl (.cons rfl (.nil)))) rfl fun i hx ih => ?_
 have hm1 := meltRefl (g := g)
 obtain ⟨hx1, hx2⟩ := hx
 refine S.seq <| S.region rfl <| O.op (.p rfl) (.lss rfl rfl) <| O.nil (S.seq ?_)
 first | refine S.condD rfl (fun h9 => ?_) (fun h9 => ?_) | refine S.condB rfl (fun h9 => ?_) (fun h9 => ?_)
 ·have hi : i < xs.length := by omega
  cases e : q xs[i] with
  | true =>
   have hy : xs.any q = true := List.any_eq_true.2 ⟨xs[i], List.getElem_mem hi, e⟩
   clear ih
   refine S.skip <| S.seq <| S.block <| S.seq <| S.region rfl <| O.q 2 rfl <| O.nil <| S.seq <| S.region rfl <| O.q 3 rfl <| O.ib (.p rfl) Tryz.underlying23 F.size52 rfl rfl rfl har hg (h := fun p14 cs14 hp14 hrr14 => ?_)
   have hr14 := Rp.rel.mono hrr14 hg
   obtain ⟨ta3_14, ta4_14, tc3_14, tc4_14, rfl, ho0_14, ho1_14, ho2_14, ha3_14, ha4_14⟩ := RootRp.sh hr14
   refine O.op (.p rfl) (.loadAgg Tryz.isAgg52 (by kernel_rfl) rfl hp14) ?_
   refine O.call0 (.p rfl) rfl hc rfl rfl (((con _ _ (List.getElem_mem hi) hrr14).sub hg)) ?_
   rintro v16 _ ⟨rfl, rfl⟩
   try simp only [zx1, zx2, zx3]
   refine O.sT 16 rfl (by exact e) ?_
   refine O.nil <| S.condT rfl <| S.seq <| S.region rfl <| O.q 2 rfl <| O.nil ?_
   exact S.rt Tryz.results339 rfl hR ⟨(i : Int), rfl, ⟨fun _ => hy, fun _ => by omega⟩, rfl⟩
  | false =>
   refine S.skip <| S.seq <| S.block <| S.seq <| S.region rfl <| O.q 2 rfl <| O.nil <| S.seq <| S.region rfl <| O.q 3 rfl <| O.ib (.p rfl) Tryz.underlying23 F.size52 rfl rfl rfl har hg (h := fun p14 cs14 hp14 hrr14 => ?_)
   have hr14 := Rp.rel.mono hrr14 hg
   obtain ⟨ta3_14, ta4_14, tc3_14, tc4_14, rfl, ho0_14, ho1_14, ho2_14, ha3_14, ha4_14⟩ := RootRp.sh hr14
   refine O.op (.p rfl) (.loadAgg Tryz.isAgg52 (by kernel_rfl) rfl hp14) ?_
   refine O.call0 (.p rfl) rfl hc rfl rfl (((con _ _ (List.getElem_mem hi) hrr14).sub hg)) ?_
   rintro v16 _ ⟨rfl, rfl⟩
   try simp only [zx1, zx2, zx3]
   refine O.sF 16 rfl (by exact e) ?_
   refine O.nil <| S.condF rfl <| S.skip <| S.inBlock <| S.region rfl <| O.op (.p rfl) (.add rfl rfl (IntWalk.i64_in _ (by omega))) <| O.q 1 rfl <| O.nil ?_
   exact S.wk (ih (i + 1) (by exact ⟨by omega, by rw [List.take_succ_eq_append_getElem hi, List.any_append, hx2]; simp [e]⟩) (by omega))
 ·clear ih
  have hi : i = xs.length := by omega
  subst hi
  rw [List.take_length] at hx2
  refine S.exit rfl <| S.seq <| S.region rfl <| O.q 1 rfl <| O.nil ?_
  exact S.rt Tryz.results339 rfl hR ⟨-1, rfl, ⟨fun h => absurd h (by decide), fun h => by rw [hx2] at h; cases h⟩, rfl⟩
theorem containsRoot_c {r : Fr} {va : Value} {xs : List RootT} {f : FuncId} {first cap : Array Value} (ha : Arr RootRp r va xs) (hc : callable Tryz.prog f = true) (q : RootT → Bool)
  (con : ∀ cs x, x ∈ xs → RootRp.rel r cs x → Con Tryz.prog f (first ++ #[.agg cs.toArray] ++ cap) r [] (Ret fun v η => v = .bool (q x) ∧ η = [])) (h1 : (Value.func (.func f) first cap).oneCell' = true) :
  Con Tryz.prog 336 #[va, .func (.func f) first cap] r [] (Ret fun v η => v = .bool (xs.any q) ∧ η = []) := by
 refine Con.of (n := 9) [va, .func (.func f) first cap] rfl Tryz.func336 rfl rfl rfl fun g hg R hR => ?_
 refine S.seq <| S.region rfl <| O.q 1 rfl <| O.nil <| S.seq <| S.region rfl <| O.q 2 rfl <| O.call0 (.p rfl) rfl F.ok339 rfl rfl (((indexRoot_c ha hc q con).sub hg)) ?_
 rintro v7 _ ⟨k7, rfl, hk7, rfl⟩
 try simp only [zx1, zx2, zx3]
 refine O.op (.p rfl) (.geq rfl rfl) <| O.q 1 rfl <| O.nil ?_
 exact S.rt Tryz.results336 rfl hR ⟨congrArg _ (by rw [Bool.eq_iff_iff, decide_eq_true_iff]; exact hk7), rfl⟩
theorem all1_c {r : Fr} {b : Nat} {cs : List Value} {x : RootT} (hb : At r ⟨b, 0, none⟩ [.func (.func 270) #[] #[]]) (h : RootRp.rel r cs x) :
  Con Tryz.prog 337 (#[] ++ #[.agg cs.toArray] ++ #[.pointer (some ⟨b, 0, none⟩)]) r [] (Ret fun v η => v = .bool (!rootOk x) ∧ η = []) := by
 obtain ⟨xa3, xa4, xc3, xc4, rfl, k0, k1, k2, k3, k4⟩ := RootRp.sh h
 refine Con.of (n := 8) [.agg #[.int .i64 x.1, .int .i64 x.2.1, .int .i64 x.2.2.1, .slice xa3 x.2.2.2.1.length xc3, .slice xa4 x.2.2.2.2.1.length xc4], .pointer (some ⟨b, 0, none⟩)] rfl Tryz.func337 rfl rfl rfl fun g hg R hR => ?_
 have h := h.mono hg
 have hb := hb.mono hg
 refine S.seq <| S.region rfl <| O.opE (.p rfl) (.box (cs := [_, _, _, _, _]) rfl rfl) ?_
 rintro _ _ ⟨b2, rfl, rfl⟩
 refine O.q 1 rfl <| O.nil <| S.seq <| S.region rfl <| O.op (.p rfl) (.loadAt F.flat196 rfl hb rfl) ?_
 refine O.op (.p rfl) (.loA (news := [_, _, _, _, _]) Tryz.isAgg52) ?_
 refine O.call0 (.p rfl) rfl F.ok270 rfl rfl (tRight_c h) ?_
 rintro v6 _ ⟨rfl, rfl⟩
 try simp only [zx1, zx2, zx3]
 refine O.op (.p rfl) (.not rfl) <| O.q 1 rfl <| O.nil ?_
 exact S.rt Tryz.results337 rfl hR ⟨rfl, rfl⟩
theorem eall_c {r : Fr} {va : Value} {l : List RootT} (ha : Arr RootRp r va l) :
  Con Tryz.prog 330 #[.func (.func 270) #[] #[], va] r [] (Ret fun v η => v = .bool (l.all rootOk) ∧ η = []) := by
 refine Con.of (n := 9) _ rfl Tryz.func330 rfl rfl rfl fun g hg R hR => ?_
 have ha := ha.mono hg
 obtain ⟨a1, c1, rfl⟩ := ha.shape
 refine S.seq <| S.region rfl <| O.opE (.p rfl) (.box (cs := [_]) rfl rfl) ?_
 rintro _ _ ⟨b2, rfl, rfl⟩
 refine O.q 1 rfl <| O.nil <| S.seq <| S.frzO (by repeat (first | exact zh | apply zt)) fun g hs hm hb2 => ?_
 replace hg := Fr.sub_trans hg hs
 replace hR := melted hR hm
 try replace ha := ha.mono hs
 clear hs hm
 refine S.region rfl <| O.q 1 rfl <| O.op (.p rfl) (.mkFunc rfl rfl) <| O.call0 (.p rfl) rfl F.ok336 rfl rfl ((containsRoot_c ha F.ok337 (fun x => !rootOk x) (fun cs x _ h => all1_c hb2 h) rfl)) ?_
 rintro v7 _ ⟨rfl, rfl⟩
 try simp only [zx1, zx2, zx3]
 refine O.op (.p rfl) (.not rfl) <| O.q 1 rfl <| O.nil ?_
 exact S.rt Tryz.results330 rfl hR ⟨by rw [List.all_eq_not_any_not], rfl⟩
theorem bcompare_c {r : Fr} {va vb : Value} {xs ys : List UInt8} (ha : Arr Rp.u8 r va xs) (hb : Arr Rp.u8 r vb ys) : Con Tryz.prog 209 #[va, vb] r [] (Ret fun v η => v = .int .i64 (Lib.compareBytes xs ys) ∧ η = []) := by
 refine Con.of (n := 8) _ rfl Tryz.func209 rfl rfl rfl fun g hg R hR => ?_
 have ha := ha.mono hg
 have hb := hb.mono hg
 obtain ⟨a1, c1, rfl⟩ := ha.shape
 obtain ⟨a2, c2, rfl⟩ := hb.shape
 refine S.seq <| S.region rfl <| O.q 1 rfl <| O.nil <| S.seq <| S.region rfl <| O.q 2 rfl <| O.op (.p rfl) (.compareExt Tryz.func282 (by kernel_rfl) rfl (by kernel_rfl) (by kernel_rfl) rfl rfl rfl ha hb) <| O.q 1 rfl <| O.nil ?_
 exact S.rt Tryz.results209 rfl hR ⟨rfl, rfl⟩
theorem pairOf_c {r : Fr} {cs : List Value} {e : EvdT} (h : EvdRp.rel r cs e) : Con Tryz.prog 306 #[.agg cs.toArray] r [] (Ret fun v η => v = .agg cs.toArray ∧ η = []) := by
 obtain ⟨xa3, xa4, xa8, xa9, xc3, xc4, xc8, xc9, rfl, _⟩ := EvdRp.sh h
 refine Con.of (n := 8) _ rfl Tryz.func306 rfl rfl rfl fun g hg R hR => ?_
 refine S.seq <| S.region rfl <| O.opE (.p rfl) (.box (cs := [_, _, _, _, _, _, _, _, _, _]) rfl rfl) ?_
 rintro _ _ ⟨b1, rfl, rfl⟩
 refine O.opE (.p rfl) (.alloc (cs := [.int .i64 0, .int .i64 0, .int .i64 0, .slice none 0 0, .slice none 0 0, .int .i64 0, .int .i64 0, .int .i64 0, .slice none 0 0, .slice none 0 0]) Tryz.zeroValue351 rfl) ?_
 rintro _ _ ⟨b2, rfl, rfl⟩
 refine O.nil <| S.seq <| S.region rfl <| O.op (.p rfl) (.fieldObj F.fld55x0 rfl) <| O.op (.p rfl) (.loA (news := [_, _, _, _, _]) Tryz.isAgg52) ?_
 refine O.op (.p rfl) (.fieldObj F.fld55x1 rfl) <| O.op (.p rfl) (.loA (news := [_, _, _, _, _]) Tryz.isAgg52) ?_
 refine O.op (.p rfl) (.build (cs := [_, _, _, _, _, _, _, _, _, _]) Tryz.underlying351 rfl rfl rfl rfl rfl) <| O.opU rfl (.storeObj (by kernel_rfl) rfl rfl rfl rfl (by repeat (first | exact zh | apply zt)) (by first | (simp; done) | (simp [Value.cells]; done))) ?_
 refine O.nil <| S.retCellAgg Tryz.results306 Tryz.isAgg351 (by kernel_rfl) rfl (by repeat (first | exact zh | apply zt)) fun w hw => Holds.end_ hR hw ?_
 exact pk ⟨rfl, rfl⟩
end Go.Proofs.YtodhbhanmdfdeaaGreat
end
section
/- Texts of this proof. -/
open Go Go.Sp
set_option maxRecDepth 100000
attribute [local irreducible] obj Own OwnP
namespace Go.Proofs.YtodhbhanmdfdeaaGreat
theorem EvdRp.two {h : Fr} {e : EvdT} {a3 a4 a8 a9 : Option Addr} {c3 c4 c8 c9 : Nat} (r : EvdRp.rel h [.int .i64 e.1.1, .int .i64 e.1.2.1, .int .i64 e.1.2.2.1, .slice a3 e.1.2.2.2.1.length c3, .slice a4 e.1.2.2.2.2.1.length c4, .int .i64 e.2.1.1, .int .i64 e.2.1.2.1, .int .i64 e.2.1.2.2.1, .slice a8 e.2.1.2.2.2.1.length c8, .slice a9 e.2.1.2.2.2.2.1.length c9] e) :
  RootRp.rel h [.int .i64 e.1.1, .int .i64 e.1.2.1, .int .i64 e.1.2.2.1, .slice a3 e.1.2.2.2.1.length c3, .slice a4 e.1.2.2.2.2.1.length c4] e.1 ∧ RootRp.rel h [.int .i64 e.2.1.1, .int .i64 e.2.1.2.1, .int .i64 e.2.1.2.2.1, .slice a8 e.2.1.2.2.2.1.length c8, .slice a9 e.2.1.2.2.2.2.1.length c9] e.2.1 := by
 obtain ⟨v3, v4, v8, v9, hc, h0, h1, h2, h3, h4, h5, h6, h7, h8, h9⟩ := EvdRp.open r
 injection hc with _ hc; injection hc with _ hc; injection hc with _ hc; injection hc with e3 hc; injection hc with e4 hc
 injection hc with _ hc; injection hc with _ hc; injection hc with _ hc; injection hc with e8 hc; injection hc with e9 hc
 subst e3 e4 e8 e9
 exact ⟨RootRp.mk h0 h1 h2 h3 h4, RootRp.mk h5 h6 h7 h8 h9⟩
theorem eorder_c {r : Fr} {cs : List Value} {e : EvdT} (h : EvdRp.rel r cs e) : Con Tryz.prog 307 #[.agg cs.toArray] r [] (Ret fun v η => v = .int .i64 (evOrder e.1 e.2.1) ∧ η = []) := by
 obtain ⟨xa3, xa4, xa8, xa9, xc3, xc4, xc8, xc9, rfl, _, _, _, k3, _, _, _, _, k8, _⟩ := EvdRp.sh h
 obtain ⟨h1, h2⟩ := EvdRp.two h
 refine Con.of (n := 42) _ rfl Tryz.func307 rfl rfl rfl fun g hg R hR => ?_
 have h1 := h1.mono hg
 have h2 := h2.mono hg
 have k3 := k3.mono hg
 have k8 := k8.mono hg
 refine S.seq <| S.region rfl <| O.opE (.p rfl) (.box (cs := [_, _, _, _, _, _, _, _, _, _]) rfl rfl) ?_
 rintro _ _ ⟨b1, rfl, rfl⟩
 refine O.q 1 rfl <| O.nil <| S.seq <| S.region rfl <| O.op (.p rfl) (.fieldObj F.fld351x1 rfl) <| O.op (.p rfl) (.loA (news := [_, _, _, _, _]) Tryz.isAgg52) ?_
 refine O.opE (.p rfl) (.alloc (cs := [.int .i64 0, .int .i64 0, .int .i64 0, .slice none 0 0, .slice none 0 0]) Tryz.zeroValue52 rfl) ?_
 rintro _ _ ⟨b3, rfl, rfl⟩
 refine O.opU rfl (.storeObj (by kernel_rfl) rfl rfl rfl rfl (by repeat (first | exact zh | apply zt)) (by first | (simp; done) | (simp [Value.cells]; done))) ?_
 refine O.nil <| S.seq <| S.seq <| S.objIs (b := b3) (cs' := [.int .i64 e.2.1.1, .int .i64 e.2.1.2.1, .int .i64 e.2.1.2.2.1, .slice xa8 e.2.1.2.2.2.1.length xc8, .slice xa9 e.2.1.2.2.2.2.1.length xc9]) (by repeat (first | exact zh | apply zt)) rfl ?_
 cases ea : [e.1, e.2.1].all rootOk with
 | false =>
  have e0 : evOrder e.1 e.2.1 = 0 := if_neg fun q => by
   simp only [List.all_cons, q.1, q.2.1, List.all_nil] at ea
   cases ea
  refine S.region rfl <| O.op (.p rfl) (.fieldObj F.fld351x0 rfl) <| O.op (.p rfl) (.loA (news := [_, _, _, _, _]) Tryz.isAgg52) ?_
  refine O.op (.p rfl) (.loA (news := [_, _, _, _, _]) Tryz.isAgg52) ?_
  refine O.opE (.p rfl) (.litP (T := (Rp.cells 5)) (ys := [_, _]) Tryz.underlying23 F.elem52 (by decide) rfl rfl ⟨⟨rfl, rfl, by first | (simp; done) | (intro v hv; simp [Value.cells] at hv; rcases hv with rfl | rfl <;> rfl) | (refine List.forall_mem_cons.2 ⟨rfl, ?_⟩; repeat (first | exact (fun _ h => absurd h List.not_mem_nil) | refine List.forall_mem_cons.2 ⟨rfl, ?_⟩))⟩, ⟨rfl, rfl, by first | (simp; done) | (intro v hv; simp [Value.cells] at hv; rcases hv with rfl | rfl <;> rfl) | (refine List.forall_mem_cons.2 ⟨rfl, ?_⟩; repeat (first | exact (fun _ h => absurd h List.not_mem_nil) | refine List.forall_mem_cons.2 ⟨rfl, ?_⟩))⟩, trivial⟩ (by decide)) ?_
  rintro _ _ ⟨a9, c9, rfl, rfl⟩
  refine O.frzA (by repeat (first | exact zh | apply zt)) fun g hs hm ha9 => ?_
  replace hg := Fr.sub_trans hg hs
  replace hR := melted hR hm
  try replace h1 := h1.mono hs
  try replace h2 := h2.mono hs
  try replace k3 := k3.mono hs
  try replace k8 := k8.mono hs
  clear hs hm
  refine O.call0 (.p rfl) rfl F.ok330 rfl rfl ((eall_c (l := [e.1, e.2.1]) (Arr.ofCells ha9 ⟨h1, h2, trivial⟩ rfl))) ?_
  rintro v10 _ ⟨rfl, rfl⟩
  try simp only [zx1, zx2, zx3]
  refine O.sF 10 rfl (by exact ea) ?_
  refine O.op (.p rfl) (.not rfl) <| O.q 24 rfl <| O.nil <| S.condT rfl <| S.seq <| S.region rfl <| O.q 1 rfl <| O.nil ?_
  exact S.rt Tryz.results307 rfl hR ⟨by rw [e0], rfl⟩
 | true =>
  have e1 : rootOk e.1 = true ∧ rootOk e.2.1 = true := by simpa using ea
  refine S.region rfl <| O.op (.p rfl) (.fieldObj F.fld351x0 rfl) <| O.op (.p rfl) (.loA (news := [_, _, _, _, _]) Tryz.isAgg52) ?_
  refine O.op (.p rfl) (.loA (news := [_, _, _, _, _]) Tryz.isAgg52) ?_
  refine O.opE (.p rfl) (.litP (T := (Rp.cells 5)) (ys := [_, _]) Tryz.underlying23 F.elem52 (by decide) rfl rfl ⟨⟨rfl, rfl, by first | (simp; done) | (intro v hv; simp [Value.cells] at hv; rcases hv with rfl | rfl <;> rfl) | (refine List.forall_mem_cons.2 ⟨rfl, ?_⟩; repeat (first | exact (fun _ h => absurd h List.not_mem_nil) | refine List.forall_mem_cons.2 ⟨rfl, ?_⟩))⟩, ⟨rfl, rfl, by first | (simp; done) | (intro v hv; simp [Value.cells] at hv; rcases hv with rfl | rfl <;> rfl) | (refine List.forall_mem_cons.2 ⟨rfl, ?_⟩; repeat (first | exact (fun _ h => absurd h List.not_mem_nil) | refine List.forall_mem_cons.2 ⟨rfl, ?_⟩))⟩, trivial⟩ (by decide)) ?_
  rintro _ _ ⟨a9, c9, rfl, rfl⟩
  refine O.frzA (by repeat (first | exact zh | apply zt)) fun g hs hm ha9 => ?_
  replace hg := Fr.sub_trans hg hs
  replace hR := melted hR hm
  try replace h1 := h1.mono hs
  try replace h2 := h2.mono hs
  try replace k3 := k3.mono hs
  try replace k8 := k8.mono hs
  clear hs hm
  refine O.call0 (.p rfl) rfl F.ok330 rfl rfl ((eall_c (l := [e.1, e.2.1]) (Arr.ofCells ha9 ⟨h1, h2, trivial⟩ rfl))) ?_
  rintro v10 _ ⟨rfl, rfl⟩
  try simp only [zx1, zx2, zx3]
  refine O.sT 10 rfl (by exact ea) ?_
  refine O.op (.p rfl) (.not rfl) <| O.q 1 rfl <| O.op (.g rfl rfl) (.fieldObj F.fld351x0 rfl) <| O.op (.g rfl rfl) (.fieldObj F.fld52x0 rfl) <| O.op (.g rfl rfl) (.lo F.flat3) ?_
  refine O.op (.g rfl rfl) (.fieldObj F.fld52x0 rfl) <| O.op (.g rfl rfl) (.lo F.flat3) ?_
  refine O.op (.g rfl rfl) (.neq rfl rfl) <| O.q 2 rfl ?_
  first | refine O.caseD 20 rfl (fun h20 => ?_) (fun h20 => ?_) | refine O.caseB 20 rfl (fun h20 => ?_) (fun h20 => ?_)
  ·refine O.q 15 rfl <| O.nil <| S.condT rfl <| S.seq <| S.region rfl <| O.q 1 rfl <| O.nil <| S.ret Tryz.results307 rfl fun w hw => Holds.end_ hR hw ?_
   first | exact ⟨_, ⟨by simp only [evOrder]; rw [if_neg (fun q => absurd q.2.2.1 (by assumption))], rfl⟩, by repeat (first | exact zpa | exact zpn | (apply zpc; focus (repeat (first | exact zh | apply zt))) | apply zps)⟩ | exact ⟨_, ⟨by simp only [evOrder]; rw [if_neg (fun q => absurd q.2.2.2.1 (by assumption))], rfl⟩, by repeat (first | exact zpa | exact zpn | (apply zpc; focus (repeat (first | exact zh | apply zt))) | apply zps)⟩ | exact ⟨_, ⟨by simp only [evOrder]; rw [if_neg (fun q => absurd q.2.2.2.2 (by assumption))], rfl⟩, by repeat (first | exact zpa | exact zpn | (apply zpc; focus (repeat (first | exact zh | apply zt))) | apply zps)⟩ | exact ⟨_, ⟨by simp only [evOrder]; rw [if_pos ⟨e1.1, e1.2, Classical.not_not.1 (by assumption), Classical.not_not.1 (by assumption), Classical.not_not.1 (by assumption)⟩], rfl⟩, by repeat (first | exact zpa | exact zpn | (apply zpc; focus (repeat (first | exact zh | apply zt))) | apply zps)⟩
  ·refine O.op (.g rfl rfl) (.fieldObj F.fld351x0 rfl) <| O.op (.g rfl rfl) (.fieldObj F.fld52x1 rfl) <| O.op (.g rfl rfl) (.lo F.flat3) ?_
   refine O.op (.g rfl rfl) (.fieldObj F.fld52x1 rfl) <| O.op (.g rfl rfl) (.lo F.flat3) ?_
   refine O.op (.g rfl rfl) (.neq rfl rfl) <| O.q 2 rfl ?_
   first | refine O.caseD 28 rfl (fun h28 => ?_) (fun h28 => ?_) | refine O.caseB 28 rfl (fun h28 => ?_) (fun h28 => ?_)
   ·refine O.q 7 rfl <| O.nil <| S.condT rfl <| S.seq <| S.region rfl <| O.q 1 rfl <| O.nil <| S.ret Tryz.results307 rfl fun w hw => Holds.end_ hR hw ?_
    first | exact ⟨_, ⟨by simp only [evOrder]; rw [if_neg (fun q => absurd q.2.2.1 (by assumption))], rfl⟩, by repeat (first | exact zpa | exact zpn | (apply zpc; focus (repeat (first | exact zh | apply zt))) | apply zps)⟩ | exact ⟨_, ⟨by simp only [evOrder]; rw [if_neg (fun q => absurd q.2.2.2.1 (by assumption))], rfl⟩, by repeat (first | exact zpa | exact zpn | (apply zpc; focus (repeat (first | exact zh | apply zt))) | apply zps)⟩ | exact ⟨_, ⟨by simp only [evOrder]; rw [if_neg (fun q => absurd q.2.2.2.2 (by assumption))], rfl⟩, by repeat (first | exact zpa | exact zpn | (apply zpc; focus (repeat (first | exact zh | apply zt))) | apply zps)⟩ | exact ⟨_, ⟨by simp only [evOrder]; rw [if_pos ⟨e1.1, e1.2, Classical.not_not.1 (by assumption), Classical.not_not.1 (by assumption), Classical.not_not.1 (by assumption)⟩], rfl⟩, by repeat (first | exact zpa | exact zpn | (apply zpc; focus (repeat (first | exact zh | apply zt))) | apply zps)⟩
   ·refine O.op (.g rfl rfl) (.fieldObj F.fld351x0 rfl) <| O.op (.g rfl rfl) (.fieldObj F.fld52x2 rfl) <| O.op (.g rfl rfl) (.lo F.flat3) ?_
    refine O.op (.g rfl rfl) (.fieldObj F.fld52x2 rfl) <| O.op (.g rfl rfl) (.lo F.flat3) ?_
    refine O.op (.g rfl rfl) (.neq rfl rfl) <| O.q 1 rfl <| O.nil ?_
    first | refine S.condD rfl (fun h35 => ?_) (fun h35 => ?_) | refine S.condB rfl (fun h35 => ?_) (fun h35 => ?_)
    ·refine S.seq <| S.region rfl <| O.q 1 rfl <| O.nil <| S.ret Tryz.results307 rfl fun w hw => Holds.end_ hR hw ?_
     first | exact ⟨_, ⟨by simp only [evOrder]; rw [if_neg (fun q => absurd q.2.2.1 (by assumption))], rfl⟩, by repeat (first | exact zpa | exact zpn | (apply zpc; focus (repeat (first | exact zh | apply zt))) | apply zps)⟩ | exact ⟨_, ⟨by simp only [evOrder]; rw [if_neg (fun q => absurd q.2.2.2.1 (by assumption))], rfl⟩, by repeat (first | exact zpa | exact zpn | (apply zpc; focus (repeat (first | exact zh | apply zt))) | apply zps)⟩ | exact ⟨_, ⟨by simp only [evOrder]; rw [if_neg (fun q => absurd q.2.2.2.2 (by assumption))], rfl⟩, by repeat (first | exact zpa | exact zpn | (apply zpc; focus (repeat (first | exact zh | apply zt))) | apply zps)⟩ | exact ⟨_, ⟨by simp only [evOrder]; rw [if_pos ⟨e1.1, e1.2, Classical.not_not.1 (by assumption), Classical.not_not.1 (by assumption), Classical.not_not.1 (by assumption)⟩], rfl⟩, by repeat (first | exact zpa | exact zpn | (apply zpc; focus (repeat (first | exact zh | apply zt))) | apply zps)⟩
    ·refine S.skip <| S.seq <| S.region rfl <| O.op (.p rfl) (.fieldObj F.fld351x0 rfl) <| O.op (.p rfl) (.fieldObj F.fld52x3 rfl) <| O.op (.p rfl) (.lo F.flat31) ?_
     refine O.op (.p rfl) (.fieldObj F.fld52x3 rfl) <| O.op (.p rfl) (.lo F.flat31) ?_
     refine O.call0 (.p rfl) rfl F.ok209 rfl rfl (bcompare_c (by first | assumption | exact Arr.mono hg (by assumption) | exact Arr.left (by assumption) | exact Arr.left (Arr.mono hg (by assumption))) (by first | assumption | exact Arr.mono hg (by assumption) | exact Arr.left (by assumption) | exact Arr.left (Arr.mono hg (by assumption)))) ?_
     rintro v41 _ ⟨rfl, rfl⟩
     try simp only [zx1, zx2, zx3]
     refine O.q 1 rfl <| O.nil <| S.ret Tryz.results307 rfl fun w hw => Holds.end_ hR hw ?_
     first | exact ⟨_, ⟨by simp only [evOrder]; rw [if_neg (fun q => absurd q.2.2.1 (by assumption))], rfl⟩, by repeat (first | exact zpa | exact zpn | (apply zpc; focus (repeat (first | exact zh | apply zt))) | apply zps)⟩ | exact ⟨_, ⟨by simp only [evOrder]; rw [if_neg (fun q => absurd q.2.2.2.1 (by assumption))], rfl⟩, by repeat (first | exact zpa | exact zpn | (apply zpc; focus (repeat (first | exact zh | apply zt))) | apply zps)⟩ | exact ⟨_, ⟨by simp only [evOrder]; rw [if_neg (fun q => absurd q.2.2.2.2 (by assumption))], rfl⟩, by repeat (first | exact zpa | exact zpn | (apply zpc; focus (repeat (first | exact zh | apply zt))) | apply zps)⟩ | exact ⟨_, ⟨by simp only [evOrder]; rw [if_pos ⟨e1.1, e1.2, Classical.not_not.1 (by assumption), Classical.not_not.1 (by assumption), Classical.not_not.1 (by assumption)⟩], rfl⟩, by repeat (first | exact zpa | exact zpn | (apply zpc; focus (repeat (first | exact zh | apply zt))) | apply zps)⟩
theorem eRight_c {r : Fr} {cs : List Value} {e : EvdT} (h : EvdRp.rel r cs e) : Con Tryz.prog 271 #[.agg cs.toArray] r [] (Ret fun v η => v = .bool (evdOk e) ∧ η = []) := by
 obtain ⟨xa3, xa4, xa8, xa9, xc3, xc4, xc8, xc9, rfl, _⟩ := EvdRp.sh h
 refine Con.of (n := 7) _ rfl Tryz.func271 rfl rfl rfl fun g hg R hR => ?_
 have h := h.mono hg
 refine S.seq <| S.region rfl <| O.opE (.p rfl) (.box (cs := [_, _, _, _, _, _, _, _, _, _]) rfl rfl) ?_
 rintro _ _ ⟨b1, rfl, rfl⟩
 refine O.q 1 rfl <| O.nil <| S.seq <| S.region rfl <| O.op (.p rfl) (.loA (news := [_, _, _, _, _, _, _, _, _, _]) Tryz.isAgg55) ?_
 refine O.call0 (.p rfl) rfl F.ok306 rfl rfl (pairOf_c h) ?_
 rintro v4 _ ⟨rfl, rfl⟩
 try simp only [zx1, zx2, zx3]
 refine O.call0 (.p rfl) rfl F.ok307 rfl rfl (eorder_c h) ?_
 rintro v5 _ ⟨rfl, rfl⟩
 try simp only [zx1, zx2, zx3]
 refine O.op (.p rfl) (.lss rfl rfl) <| O.q 1 rfl <| O.nil ?_
 exact S.rt Tryz.results271 rfl hR ⟨rfl, rfl⟩
theorem ePut_c {r : Fr} {cs : List Value} {e : EvdT} (h : EvdRp.rel r cs e) :
  Con Tryz.prog 239 #[.agg cs.toArray] r [] (Ret fun v η => ∃ a c, v = .tuple #[.slice a (evdOut e).length c, .int .i64 (evdErr e)] ∧ η = [OwnP Rp.u8 5 (.slice a (evdOut e).length c) (evdOut e)]) := by
 obtain ⟨xa3, xa4, xa8, xa9, xc3, xc4, xc8, xc9, rfl, _⟩ := EvdRp.sh h
 obtain ⟨h1, h2⟩ := EvdRp.two h
 refine Con.of (n := 29) _ rfl Tryz.func239 rfl rfl rfl fun g hg R hR => ?_
 have h := h.mono hg
 have h1 := h1.mono hg
 have h2 := h2.mono hg
 cases eo : evdOk e with
 | false =>
  have e1 : evdOut e = [] := by simp [evdOut, eo]
  have e2 : evdErr e = 4 := by simp [evdErr, eo]
  rw [e1, e2] at hR
  refine S.seq <| S.region rfl <| O.opE (.p rfl) (.box (cs := [_, _, _, _, _, _, _, _, _, _]) rfl rfl) ?_
  rintro _ _ ⟨b1, rfl, rfl⟩
  refine O.q 2 rfl <| O.nil <| S.seq <| S.seq <| S.region rfl <| O.op (.p rfl) (.loA (news := [_, _, _, _, _, _, _, _, _, _]) Tryz.isAgg55) ?_
  refine O.call0 (.p rfl) rfl F.ok271 rfl rfl (eRight_c h) ?_
  rintro v9 _ ⟨rfl, rfl⟩
  try simp only [zx1, zx2, zx3]
  refine O.sF 9 rfl (by exact eo) ?_
  refine O.op (.p rfl) (.not rfl) <| O.nil <| S.condT rfl <| S.seq <| S.region rfl <| O.q 2 rfl <| O.nil <| S.addNil (T := Rp.u8) (e := 5) ?_
  refine S.ret2 Tryz.results239 rfl rfl fun w hw => Holds.end_ hR hw ?_
  exact pk ⟨none, 0, rfl, rfl⟩
 | true =>
  have e1 : evdOut e = evdB e := by simp [evdOut, eo]
  have e2 : evdErr e = 0 := by simp [evdErr, eo]
  have ho := evdOk_iff.1 eo
  have o1 : rootOut e.1 = rootB e.1 := by simp [rootOut, ho.1]
  have o2 : rootOut e.2.1 = rootB e.2.1 := by simp [rootOut, ho.2.1]
  have l1 := rootB_length ho.1
  have l2 := rootB_length ho.2.1
  have hl := evdB_length eo
  have hfl : [bytesOf (rootB e.1), bytesOf (rootB e.2.1)].flatten = evdB e := by simp [evdB]
  rw [e1, e2] at hR
  refine S.seq <| S.region rfl <| O.opE (.p rfl) (.box (cs := [_, _, _, _, _, _, _, _, _, _]) rfl rfl) ?_
  rintro _ _ ⟨b1, rfl, rfl⟩
  refine O.q 2 rfl <| O.nil <| S.seq <| S.seq <| S.region rfl <| O.op (.p rfl) (.loA (news := [_, _, _, _, _, _, _, _, _, _]) Tryz.isAgg55) ?_
  refine O.call0 (.p rfl) rfl F.ok271 rfl rfl (eRight_c h) ?_
  rintro v9 _ ⟨rfl, rfl⟩
  try simp only [zx1, zx2, zx3]
  refine O.sT 9 rfl (by exact eo) ?_
  refine O.op (.p rfl) (.not rfl) <| O.nil <| S.condF rfl <| S.skip <| S.seq <| S.region rfl <| O.op (.p rfl) (.fieldObj F.fld55x0 rfl) <| O.op (.p rfl) (.loA (news := [_, _, _, _, _]) Tryz.isAgg52) ?_
  refine O.call0 (.p rfl) rfl F.ok238 rfl rfl (tPut_c h1) ?_
  rintro v14 _ ⟨a14, c14, rfl, rfl⟩
  try simp only [zx1, zx2, zx3]
  rw [o1]
  refine O.q 5 rfl <| O.nil <| S.seq <| S.region rfl <| O.op (.p rfl) (.fieldObj F.fld55x1 rfl) <| O.op (.p rfl) (.loA (news := [_, _, _, _, _]) Tryz.isAgg52) ?_
  refine O.call0 (.p rfl) rfl F.ok238 rfl rfl (tPut_c h2) ?_
  rintro v20 _ ⟨a20, c20, rfl, rfl⟩
  try simp only [zx1, zx2, zx3]
  rw [o2]
  refine O.q 5 rfl <| O.nil <| S.seq <| S.frzA (by repeat (first | exact zh | apply zt)) fun g hs hm hone => ?_
  replace hg := Fr.sub_trans hg hs
  replace hR := melted hR hm
  try replace h := h.mono hs
  try replace h1 := h1.mono hs
  try replace h2 := h2.mono hs
  clear hs hm
  refine S.frzA (by repeat (first | exact zh | apply zt)) fun g hs hm htwo => ?_
  replace hg := Fr.sub_trans hg hs
  replace hR := melted hR hm
  try replace h := h.mono hs
  try replace h1 := h1.mono hs
  try replace h2 := h2.mono hs
  try replace hone := hone.mono hs
  clear hs hm
  refine S.region rfl <| O.q 1 rfl <| O.call0 (.p rfl) rfl F.ok119 rfl rfl (wBytes_c (by first | assumption | exact Arr.mono hg (by assumption) | exact Arr.left (by assumption) | exact Arr.left (Arr.mono hg (by assumption))) (by first | omega | (simp; done) | (simp; omega) | decide)) ?_
  rintro v24 _ ⟨a24, c24, rfl, rfl⟩
  try simp only [zx1, zx2, zx3]
  refine O.q 1 rfl <| O.call0 (.p rfl) rfl F.ok119 rfl rfl (wBytes_c (by first | assumption | exact Arr.mono hg (by assumption) | exact Arr.left (by assumption) | exact Arr.left (Arr.mono hg (by assumption))) (by first | omega | (simp; done) | (simp; omega) | decide)) ?_
  rintro v26 _ ⟨a26, c26, rfl, rfl⟩
  try simp only [zx1, zx2, zx3]
  refine O.opE (.p rfl) (.litP (T := Rp.val) (ys := [_, _]) Tryz.underlying39 F.elem31 (by decide) rfl rfl ⟨⟨rfl, rfl⟩, ⟨rfl, rfl⟩, trivial⟩ (by decide)) ?_
  rintro _ _ ⟨a27, c27, rfl, rfl⟩
  refine O.callB (.p rfl) rfl F.ok118 rfl rfl (bs := [OwnP Rp.val 31 (.slice a27 2 c27) [.slice a24 (bytesOf (rootB e.1)).length c24, .slice a26 (bytesOf (rootB e.2.1)).length c26], OwnP Rp.u8 5 (.slice a24 (bytesOf (rootB e.1)).length c24) (bytesOf (rootB e.1)), OwnP Rp.u8 5 (.slice a26 (bytesOf (rootB e.2.1)).length c26) (bytesOf (rootB e.2.1))]) (by repeat (first | exact zsn | (apply zsc; focus (repeat (first | exact zh | apply zt))))) (fun m hm hd => wJoin_c (xss := [bytesOf (rootB e.1), bytesOf (rootB e.2.1)]) ((hm.arr.right hd).rows ⟨hm.tail.arr.right hd, hm.tail.tail.arr.right hd, trivial⟩) (by rw [hfl]; omega)) ?_
  rintro v28 _ ⟨a28, c28, rfl, rfl⟩
  try simp only [zx1, zx2, zx3]
  rw [hfl]
  refine O.q 2 rfl <| O.nil <| S.ret2 Tryz.results239 rfl rfl fun w hw => Holds.end_ hR hw ?_
  exact pk ⟨a28, c28, rfl, rfl⟩
end Go.Proofs.YtodhbhanmdfdeaaGreat
end
