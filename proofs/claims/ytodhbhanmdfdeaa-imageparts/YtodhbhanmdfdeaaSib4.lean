import Derived.Test.YtodhbhanmdfdeaaSib3
import Derived.Test.YtodhbhanmdfdeaaTry1
open Go Go.Sp
set_option maxRecDepth 100000
attribute [local irreducible] obj Own OwnP
namespace Go.Proofs.Ytodhbhanmdfdeaa
theorem FactSib4.elem32 : elemIs Go.Proofs.Try.prog 32 1 24 [.slice none 0 0] := elemIs.mk (by kernel_rfl) rfl
theorem FactSib4.flat32 : Go.Sp.flat1 Go.Proofs.Try.prog 32 = true := by kernel_rfl
theorem FactSib4.flat46 : Go.Sp.flat1 Go.Proofs.Try.prog 46 = true := by kernel_rfl
theorem FactSib4.flat84 : Go.Sp.flat1 Go.Proofs.Try.prog 84 = true := by kernel_rfl
theorem FactSib4.fld86x0 : fieldOff Go.Proofs.Try.prog 86 0 = some 0 := by kernel_rfl
theorem FactSib4.fld88x1 : fieldOff Go.Proofs.Try.prog 88 1 = some 7 := by kernel_rfl
theorem FactSib4.ok26 : callable Go.Proofs.Try.prog 26 = true := by kernel_rfl
theorem FactSib4.ok28 : callable Go.Proofs.Try.prog 28 = true := by kernel_rfl
theorem FactSib4.ok34 : callable Go.Proofs.Try.prog 34 = true := by kernel_rfl
theorem FactSib4.ok35 : callable Go.Proofs.Try.prog 35 = true := by kernel_rfl
theorem FactSib4.ok36 : callable Go.Proofs.Try.prog 36 = true := by kernel_rfl
theorem FactSib4.ok37 : callable Go.Proofs.Try.prog 37 = true := by kernel_rfl
theorem FactSib4.size88 : (Go.Proofs.Try.prog.info? 88).map (·.size) = some 8 := by kernel_rfl

theorem sput1_c {r : Fr} {b : Nat} {va : Value} {xs : List RecT} (hb : At r ⟨b, 0, none⟩ [va]) (ha : Arr RecRp r va xs) (hl : xs.length ≤ 1000000000) :
    Con Go.Proofs.Try.prog 36 (#[] ++ #[] ++ #[.pointer (some ⟨b, 0, none⟩)]) r [] (RetP (fun v η => SRight xs ∧ ∃ a c, v = .slice a (sB xs).length c ∧ η = [OwnP Rp.u8 5 (.slice a (sB xs).length c) (sB xs)]) (fun ch η => ∃ z, ch = errP 33 z ∧ (¬ SRight xs ∧ z = 4) ∧ η = [])) := by
  have har := ha
  refine Con.of (n := 31) [.pointer (some ⟨b, 0, none⟩)] rfl Go.Proofs.Try.func36 rfl rfl rfl fun g hg R hR => ?_
  have hb := hb.mono hg
  have ha := ha.mono hg
  obtain ⟨a1, c1, rfl⟩ := ha.shape
  refine S.seq (S.region rfl ?_)
  refine O.op (.p rfl) (.as rfl) ?_
  refine O.nil ?_
  refine S.seq (S.region rfl ?_)
  refine O.op (.p rfl) (.loadAt FactSib4.flat46 rfl hb rfl) ?_
  refine O.callP0 (.p rfl) rfl FactSib4.ok37 rfl rfl (((rowOf_c har (by omega)).sub hg)) (fun ch η' w hX hW => by (obtain ⟨hb, rfl, rfl⟩ := hX; exact hR _ _ w ⟨4, rfl, ⟨hb, rfl⟩, rfl⟩ hW.drop_all)) ?_
  rintro v7 _ ⟨hright, b7, rfl, rfl⟩
  try simp only [List.cons_append, List.nil_append, List.append_nil]
  refine O.op (.p rfl) (.as rfl) ?_
  refine O.nil ?_
  refine S.seq ?_
  refine S.frz (A := RowP r 86 88 5 b7 xs) (by repeat (first | exact Sel.here | apply Sel.there)) fun g hs hm ⟨_, x', s'⟩ => ?_
  have hrow := RowP.read (Fr.sub_trans hg hs) s' x'
  clear x' s'
  replace hg := Fr.sub_trans hg hs
  replace hR := melted hR hm
  try replace ha := ha.mono hs
  try replace hb := hb.mono hs
  clear hs hm
  obtain ⟨qa, qc, hqat, hqar⟩ := id hrow
  refine S.region rfl ?_
  refine O.op (.p rfl) (.mv rfl) ?_
  refine O.op (.p rfl) (.nilCheck rfl) ?_
  refine O.op (.p rfl) (.fieldAddr FactSib4.fld86x0 rfl) ?_
  refine O.op (.p rfl) (.loadAt FactSib4.flat84 rfl hqat rfl) ?_
  refine O.op (.p rfl) (.len rfl Go.Proofs.Try.underlying84 rfl) ?_
  refine O.call0 (.p rfl) rfl FactSib4.ok26 rfl rfl (wNumber_c _) ?_
  rintro v13 _ ⟨a13, c13, rfl, rfl⟩
  try simp only [List.cons_append, List.nil_append, List.append_nil]
  refine O.op (.p rfl) (.as rfl) ?_
  refine O.nil ?_
  refine S.seq (S.seq ?_)
  have hone := hright.1
  have hbd := sB_le hone
  refine S.region rfl ?_
  refine O.op (.p rfl) (.mv rfl) ?_
  refine O.op (.p rfl) (.nilCheck rfl) ?_
  refine O.op (.p rfl) (.fieldAddr FactSib4.fld86x0 rfl) ?_
  refine O.op (.p rfl) (.loadAt FactSib4.flat84 rfl hqat rfl) ?_
  refine O.op (.p rfl) (.len rfl Go.Proofs.Try.underlying84 rfl) ?_
  refine O.op (.p rfl) (.mv rfl) ?_
  refine O.nil ?_
  refine S.block ?_
  refine S.conv (C := OwnP Rp.u8 5 (.slice a13 (8 + (sRows (xs.take 0)).length) c13) (be xs.length ++ sRows (xs.take 0))) Sel.here (fun m x => ⟨m, Fr.sub_refl _, by simpa [sRows] using x⟩) ?_
  refine S.loopK2 (ι := Nat) (κ := Option Addr × Nat) (fun i p => i ≤ xs.length) (fun i p => [(19, .int .i64 (i : Int)), (3, .slice p.1 (8 + (sRows (xs.take i)).length) p.2)]) [(17, _), (18, _)] (fun i p => [OwnP Rp.u8 5 (.slice p.1 (8 + (sRows (xs.take i)).length) p.2) (be xs.length ++ sRows (xs.take i))]) (fun i p => xs.length - i) (0) ((a13, c13)) (by omega) (.cons rfl (.cons rfl (.nil))) (.cons rfl (.cons rfl (.nil))) rfl fun i p hx ih => ?_
  have hm1 := meltRefl (g := g)
  refine S.seq (S.region rfl ?_)
  refine O.op (.p rfl) (.lss rfl rfl) ?_
  refine O.nil ?_
  refine S.seq ?_
  first | refine S.condD rfl (fun h20 => ?_) (fun h20 => ?_) | refine S.condB rfl (fun h20 => ?_) (fun h20 => ?_)
  · have hi : i < xs.length := by omega
    have hb1 := recB_le (oneK_all hone xs[i] (List.getElem_mem hi))
    have hb2 := sRows_le (xs.take i) (oneK_all (oneK_take i hone))
    rw [List.length_take, Nat.min_eq_left hx] at hb2
    have htk : [be xs.length ++ sRows (xs.take i), bytesOf (recB xs[i])].flatten = be xs.length ++ sRows (xs.take (i + 1)) := by rw [List.take_succ_eq_append_getElem hi, sRows_snoc]; simp
    have htl : (be (xs.length : Int) ++ sRows (xs.take (i + 1))).length = 8 + (sRows (xs.take (i + 1))).length := by simp
    have hb3 : (be (xs.length : Int) ++ sRows (xs.take (i + 1))).length ≤ 140737488355328 := by
      have := sRows_le (xs.take (i + 1)) (oneK_all (oneK_take (i + 1) hone))
      rw [List.length_take] at this
      simp; omega
    generalize hso : sRows (xs.take i) = so at htk hb2 ⊢
    refine S.skip (S.seq (S.block (S.seq (S.region rfl ?_))))
    refine O.idx' (.p rfl) Go.Proofs.Try.underlying84 FactSib4.size88 rfl rfl rfl (by first | assumption | exact Arr.mono hg (by assumption) | exact Arr.left (by assumption) | exact Arr.left (Arr.mono hg (by assumption))) (by decide) (by first | omega | (simp; done) | (simp; omega) | decide) (fun p21 cs21 hp21 hr21 => ?_)
    obtain ⟨ia3_21, ia5_21, ia6_21, ia7_21, ic3_21, ic5_21, ic6_21, ic7_21, rfl, hr1_21, ha7_21⟩ := ItRp.sh hr21
    refine O.op (.p rfl) (.loadAgg Go.Proofs.Try.isAgg88 (by kernel_rfl) rfl hp21) ?_
    refine O.opE (.p rfl) (.alloc (cs := [.string ⟨#[]⟩, .int .i64 0, .int .i64 0, .slice none 0 0, .bool false, .slice none 0 0, .slice none 0 0, .slice none 0 0]) Go.Proofs.Try.zeroValue88 rfl) ?_
    rintro _ _ ⟨b5, rfl, rfl⟩
    refine O.opU rfl (.storeObj (by kernel_rfl) rfl rfl rfl rfl (by repeat (first | exact Sel.here | apply Sel.there)) (by first | (simp; done) | (simp [Value.cells]; done))) ?_
    refine O.nil ?_
    refine S.region rfl ?_
    refine O.op (.p rfl) (.mv rfl) ?_
    refine O.op (.p rfl) (.fieldObj FactSib4.fld88x1 rfl) ?_
    refine O.op (.p rfl) (.loadObj FactSib4.flat32 rfl (by repeat (first | exact Sel.here | apply Sel.there)) rfl) ?_
    refine O.call0 (.p rfl) rfl FactSib4.ok28 rfl rfl (wBytes_c (by first | assumption | exact Arr.mono hg (by assumption) | exact Arr.left (by assumption) | exact Arr.left (Arr.mono hg (by assumption))) (by first | omega | (simp; done) | (simp; omega) | decide)) ?_
    rintro v26 _ ⟨a26, c26, rfl, rfl⟩
    try simp only [List.cons_append, List.nil_append, List.append_nil]
    generalize hbb : bytesOf (recB xs[i]) = bb at htk ⊢
    refine O.opE (.p rfl) (.litP (T := Rp.val) (ys := [_, _]) Go.Proofs.Try.underlying79 FactSib4.elem32 (by decide) rfl rfl ⟨⟨rfl, rfl⟩, ⟨rfl, rfl⟩, trivial⟩ (by decide)) ?_
    rintro _ _ ⟨a27, c27, rfl, rfl⟩
    refine O.callB (.p rfl) rfl FactSib4.ok34 rfl rfl (bs := [OwnP Rp.val 32 (.slice a27 2 c27) [.slice p.1 (8 + so.length) p.2, .slice a26 bb.length c26], OwnP Rp.u8 5 (.slice p.1 (8 + so.length) p.2) (be xs.length ++ so), OwnP Rp.u8 5 (.slice a26 bb.length c26) bb]) (by repeat (first | exact Sels.nil | (apply Sels.cons; focus (repeat (first | exact Sel.here | apply Sel.there))))) (fun m hm hd => wJoin_c (xss := [be xs.length ++ so, bb]) ((hm.arr.right hd).rows ⟨hm.tail.arr.right hd, hm.tail.tail.arr.right hd, trivial⟩) (by rw [htk]; exact hb3)) ?_
    rintro v28 _ ⟨a28, c28, rfl, rfl⟩
    try simp only [List.cons_append, List.nil_append, List.append_nil]
    refine O.op (.p rfl) (.as rfl) ?_
    refine O.nil ?_
    refine S.inBlock (S.region rfl ?_)
    refine O.op (.p rfl) (.add rfl rfl (IntWalk.i64_in _ (by omega))) ?_
    refine O.op (.p rfl) (.mv rfl) ?_
    refine O.nil ?_
    rw [htk, htl]
    refine S.pk ?_ (S.weaken ?_ (ih (i + 1) ((a28, c28)) (by omega) (by omega)))
    · repeat (first | exact Picks.all | exact Picks.nil | (apply Picks.cons; focus (repeat (first | exact Sel.here | apply Sel.there))) | apply Picks.skip)
    repeat (first | exact Sub.nil | refine Sub.cons rfl ?_)
  · clear ih
    have hi : i = xs.length := by omega
    subst hi
    rw [List.take_length]
    have hl8 : 8 + (sRows xs).length = (sB xs).length := by simp [sB]
    rw [hl8]
    refine S.exit rfl ?_
    refine S.seq (S.region rfl ?_)
    refine O.op (.p rfl) (.mv rfl) ?_
    refine O.op (.p rfl) (.as rfl) ?_
    refine O.nil ?_
    refine S.ret Go.Proofs.Try.results36 rfl fun w hw => Holds.end_ hR hw ?_
    exact ⟨_, ⟨hright, p.1, p.2, rfl, rfl⟩, by repeat (first | exact Picks.all | exact Picks.nil | (apply Picks.cons; focus (repeat (first | exact Sel.here | apply Sel.there))) | apply Picks.skip)⟩
/-- a set's bytes, and the error -/
noncomputable def sOut (l : List RecT) : List UInt8 := if SRight l then sB l else []
noncomputable def sErr (l : List RecT) : Int := if SRight l then 0 else 4
theorem sTried_c {r : Fr} {first cap : Array Value} {xs : List RecT} (con : Con Go.Proofs.Try.prog 36 (first ++ #[] ++ cap) r [] (RetP (fun v η => SRight xs ∧ ∃ a c, v = .slice a (sB xs).length c ∧ η = [OwnP Rp.u8 5 (.slice a (sB xs).length c) (sB xs)]) (fun ch η => ∃ z, ch = errP 33 z ∧ (¬ SRight xs ∧ z = 4) ∧ η = []))) (h1 : (Value.func (.func 36) first cap).oneCell' = true := by rfl) :
    Con Go.Proofs.Try.prog 35 #[.func (.func 36) first cap] r [] (Ret fun v η => ∃ a c, v = .tuple #[.slice a (sOut xs).length c, .int .i64 (sErr xs)] ∧ η = [OwnP Rp.u8 5 (.slice a (sOut xs).length c) (sOut xs)]) :=
  (triedSB_c FactSib4.ok36 h1 (fun _ _ h => by obtain ⟨_, _, _, rfl, _⟩ := h; rfl) con).post fun e η h w g hw => by
    cases e with
    | returned v =>
      rcases h with ⟨u, ⟨hs, a, c, rfl, rfl⟩, rfl⟩ | ⟨z, ⟨hs, rfl⟩, rfl, rfl⟩
      · exact ⟨_, ⟨a, c, by simp [sOut, sErr, hs], rfl⟩, by simpa [sOut, hs] using hw⟩
      · exact ⟨_, ⟨none, 0, by simp [sOut, sErr, hs], rfl⟩, by simp only [sOut, hs, if_false]; exact hw.imp fun m x => ⟨Fr.emp, m, Fr.emp_disj _, Fr.emp_sub _, Fr.sub_refl _, ownP_nil _, x⟩⟩
    | panicked _ => exact h.elim
    | outgrown => exact h.elim
theorem sPut_c {r : Fr} {va : Value} {xs : List RecT} (ha : Arr RecRp r va xs) (hl : xs.length ≤ 1000000000) :
    Con Go.Proofs.Try.prog 30 #[va] r [] (Ret fun v η => ∃ a c, v = .tuple #[.slice a (sOut xs).length c, .int .i64 (sErr xs)] ∧ η = [OwnP Rp.u8 5 (.slice a (sOut xs).length c) (sOut xs)]) := by
  refine Con.of (n := 8) [va] rfl Go.Proofs.Try.func30 rfl rfl rfl fun g hg R hR => ?_
  have ha := ha.mono hg
  obtain ⟨a1, c1, rfl⟩ := ha.shape
  refine S.seq (S.region rfl ?_)
  refine O.opE (.p rfl) (.box (cs := [_]) rfl rfl) ?_
  rintro _ _ ⟨b1, rfl, rfl⟩
  refine O.op (.p rfl) (.as rfl) ?_
  refine O.op (.p rfl) (.as rfl) ?_
  refine O.nil ?_
  refine S.seq ?_
  refine S.frzO (by repeat (first | exact Sel.here | apply Sel.there)) fun g hs hm hb1 => ?_
  replace hg := Fr.sub_trans hg hs
  replace hR := melted hR hm
  try replace ha := ha.mono hs
  clear hs hm
  refine S.region rfl ?_
  refine O.op (.p rfl) (.mkFunc rfl rfl) ?_
  refine O.call0 (.p rfl) rfl FactSib4.ok35 rfl rfl ((sTried_c (sput1_c hb1 ha hl))) ?_
  rintro v5 _ ⟨a5, c5, rfl, rfl⟩
  try simp only [List.cons_append, List.nil_append, List.append_nil]
  refine O.op (.p rfl) (.extract rfl rfl) ?_
  refine O.op (.p rfl) (.extract rfl rfl) ?_
  refine O.op (.p rfl) (.as rfl) ?_
  refine O.op (.p rfl) (.as rfl) ?_
  refine O.nil ?_
  refine S.ret2 Go.Proofs.Try.results30 rfl rfl fun w hw => Holds.end_ hR hw ?_
  exact ⟨_, ⟨a5, c5, rfl, rfl⟩, by repeat (first | exact Picks.all | exact Picks.nil | (apply Picks.cons; focus (repeat (first | exact Sel.here | apply Sel.there))) | apply Picks.skip)⟩

end Go.Proofs.Ytodhbhanmdfdeaa
