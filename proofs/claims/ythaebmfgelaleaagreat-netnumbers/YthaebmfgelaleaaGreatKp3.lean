import Derived.Test.YthaebmfgelaleaaGreatFlatPackets
import Derived.Test.YthaebmfgelaleaaGreatKp1
open Go Go.Sp
set_option maxRecDepth 100000
attribute [local irreducible] obj Own OwnP
namespace Go.Proofs.YthaebmfgelaleaaGreat
theorem FactKp3.elem29 : elemIs Go.Proofs.Tryz.prog 29 1 24 [.slice none 0 0] := elemIs.mk (by kernel_rfl) rfl
theorem FactKp3.elem33 : elemIs Go.Proofs.Tryz.prog 33 1 24 [.slice none 0 0] := elemIs.mk (by kernel_rfl) rfl
theorem FactKp3.flat33 : Go.Sp.flat1 Go.Proofs.Tryz.prog 33 = true := by kernel_rfl
theorem FactKp3.flat50 : Go.Sp.flat1 Go.Proofs.Tryz.prog 50 = true := by kernel_rfl
theorem FactKp3.flat84 : Go.Sp.flat1 Go.Proofs.Tryz.prog 84 = true := by kernel_rfl
theorem FactKp3.fld103x18 : fieldOff Go.Proofs.Tryz.prog 103 18 = some 18 := by kernel_rfl
theorem FactKp3.fld103x5 : fieldOff Go.Proofs.Tryz.prog 103 5 = some 5 := by kernel_rfl
theorem FactKp3.fld35x2 : fieldOff Go.Proofs.Tryz.prog 35 2 = some 2 := by kernel_rfl
theorem FactKp3.ok59 : callable Go.Proofs.Tryz.prog 59 = true := by kernel_rfl
theorem FactKp3.ok97 : callable Go.Proofs.Tryz.prog 97 = true := by kernel_rfl
theorem FactKp3.size35 : (Go.Proofs.Tryz.prog.info? 35).map (·.size) = some 3 := by kernel_rfl

/-- a bag of bytes and packets -/
def bagP (u w : Value) : List Value := [.slice none 0 0, .slice none 0 0, .slice none 0 0, .slice none 0 0, .slice none 0 0, u, .slice none 0 0, .slice none 0 0, .slice none 0 0, .slice none 0 0, .slice none 0 0, .slice none 0 0, .slice none 0 0, .slice none 0 0, .slice none 0 0, .slice none 0 0, .slice none 0 0, .slice none 0 0, w, .slice none 0 0, .slice none 0 0, .slice none 0 0, .slice none 0 0, .slice none 0 0]
theorem putBytesP_c {r : Fr} {b : Nat} {a a1 : Option Addr} {c m1 c1 n : Nat} {ws : List Value} {u : Value} (hn : ws.length = n) (hb : ws.length ≤ 1000000000) :
    Con Go.Proofs.Tryz.prog 97 #[.pointer (some ⟨b, 0, none⟩), .slice a1 m1 c1] r [obj b 103 (bagP (.slice a n c) u), OwnP Rp.val 33 (.slice a n c) ws]
      (Ret fun v η => ∃ a' c', v = .tuple #[] ∧ η = [obj b 103 (bagP (.slice a' (n + 1) c') u), OwnP Rp.val 33 (.slice a' (n + 1) c') (ws ++ [.slice a1 m1 c1])]) := by
  subst hn
  refine Con.of (n := 14) [.pointer (some ⟨b, 0, none⟩), .slice a1 m1 c1] rfl Go.Proofs.Tryz.func97 rfl rfl rfl fun g hg R hR => ?_
  unfold bagP
  refine S.region rfl ?_
  refine O.op (.p rfl) (.mv rfl) ?_
  refine O.op (.p rfl) (.mv rfl) ?_
  refine O.op (.p rfl) (.nilCheck rfl) ?_
  refine O.op (.p rfl) (.fieldObj FactKp3.fld103x5 rfl) ?_
  refine O.op (.p rfl) (.loadObj FactKp3.flat84 rfl (by repeat (first | exact Sel.here | apply Sel.there)) rfl) ?_
  refine O.op (.p rfl) (.mv rfl) ?_
  refine O.opE (.p rfl) (.litP (T := Rp.val) (ys := [_]) Go.Proofs.Tryz.underlying84 FactKp3.elem33 (by decide) rfl rfl ⟨⟨rfl, rfl⟩, trivial⟩ (by decide)) ?_
  rintro _ _ ⟨a10, c10, rfl, rfl⟩
  refine O.opE (.p rfl) (.appendO (T := Rp.val) Go.Proofs.Tryz.underlying84 FactKp3.elem33 (by decide) rfl rfl (by repeat (first | exact Sel.here | apply Sel.there)) (by repeat (first | exact Sel.here | apply Sel.there)) (by first | omega | (simp; done) | (simp; omega) | decide) (by first | omega | (simp; done) | (simp; omega) | decide)) ?_
  rintro _ _ ⟨a11, c11, rfl, rfl⟩
  refine O.op (.p rfl) (.nilCheck rfl) ?_
  refine O.op (.p rfl) (.fieldObj FactKp3.fld103x5 rfl) ?_
  refine O.opU rfl (.store1 FactKp3.flat84 rfl rfl (by first | rfl | assumption) (by repeat (first | exact Sel.here | apply Sel.there)) (by first | (simp; done) | (simp [Value.cells]; done))) ?_
  refine O.nil ?_
  refine S.end0 Go.Proofs.Tryz.results97 fun w hw => Holds.end_ hR hw ?_
  exact ⟨_, ⟨a11, c11, rfl, rfl⟩, by repeat (first | exact Picks.all | exact Picks.nil | (apply Picks.cons; focus (repeat (first | exact Sel.here | apply Sel.there))) | apply Picks.skip)⟩
theorem onePacket_c {r : Fr} {b : Nat} {a a1 : Option Addr} {c m1 c1 n : Nat} {ws : List Value} {p q : Int} {u : Value} (hn : ws.length = n) (hb : ws.length ≤ 1000000000) :
    Con Go.Proofs.Tryz.prog 59 #[.pointer (some ⟨b, 0, none⟩), .agg #[.int .i64 p, .int .i64 q, .slice a1 m1 c1]] r [obj b 103 (bagP (.slice a n c) u), OwnP Rp.val 33 (.slice a n c) ws]
      (Ret fun v η => ∃ a' c', v = .tuple #[] ∧ η = [obj b 103 (bagP (.slice a' (n + 1) c') u), OwnP Rp.val 33 (.slice a' (n + 1) c') (ws ++ [.slice a1 m1 c1])]) := by
  refine Con.of (n := 8) [.pointer (some ⟨b, 0, none⟩), .agg #[.int .i64 p, .int .i64 q, .slice a1 m1 c1]] rfl Go.Proofs.Tryz.func59 rfl rfl rfl fun g hg R hR => ?_
  refine S.seq (S.region rfl ?_)
  refine O.opE (.p rfl) (.box (cs := [_, _, _]) rfl rfl) ?_
  rintro _ _ ⟨b3, rfl, rfl⟩
  refine O.nil ?_
  refine S.region rfl ?_
  refine O.op (.p rfl) (.mv rfl) ?_
  refine O.op (.p rfl) (.fieldObj FactKp3.fld35x2 rfl) ?_
  refine O.op (.p rfl) (.loadObj FactKp3.flat33 rfl (by repeat (first | exact Sel.here | apply Sel.there)) rfl) ?_
  refine O.callSs (.p rfl) rfl FactKp3.ok97 rfl rfl (by repeat (first | exact Sels.nil | (apply Sels.cons; focus (repeat (first | exact Sel.here | apply Sel.there))))) (putBytesP_c hn hb) ?_
  rintro v7 _ ⟨a7, c7, rfl, rfl⟩
  try simp only [List.cons_append, List.nil_append, List.append_nil]
  refine O.nil ?_
  refine S.end0 Go.Proofs.Tryz.results59 fun w hw => Holds.end_ hR hw ?_
  exact ⟨_, ⟨a7, c7, rfl, rfl⟩, by repeat (first | exact Picks.all | exact Picks.nil | (apply Picks.cons; focus (repeat (first | exact Sel.here | apply Sel.there))) | apply Picks.skip)⟩
/-- the bytes of packets as they lie -/
def byV (cs : List Value) : Value := cs.getD 2 (.slice none 0 0)
def PktS (cs : List Value) : Prop := ∃ p q a n c, cs = [.int .i64 p, .int .i64 q, .slice a n c]
theorem putPackets_c {r : Fr} {b : Nat} {a a' : Option Addr} {c c' : Nat} {ws us : List Value} {va : Value} {css : List (List Value)} (ha : Arr (Rp.cells 3) r va css) (hs : ∀ cs ∈ css, PktS cs) (hb : ws.length + css.length ≤ 100000000) (hb2 : us.length ≤ 100000000) :
    Con Go.Proofs.Tryz.prog 45 #[.pointer (some ⟨b, 0, none⟩), va] r [obj b 103 (bagP (.slice a ws.length c) (.slice a' us.length c')), OwnP Rp.val 33 (.slice a ws.length c) ws, OwnP Rp.val 29 (.slice a' us.length c') us]
      (Ret fun v η => ∃ a2 c2 a3 c3, v = .tuple #[] ∧ η = [obj b 103 (bagP (.slice a2 (ws.length + css.length) c2) (.slice a3 (us.length + 1) c3)), OwnP Rp.val 33 (.slice a2 (ws.length + css.length) c2) (ws ++ css.map byV), OwnP Rp.val 29 (.slice a3 (us.length + 1) c3) (us ++ [va])]) := by
  refine Con.of (n := 27) [.pointer (some ⟨b, 0, none⟩), va] rfl Go.Proofs.Tryz.func45 rfl rfl rfl fun g hg R hR => ?_
  have ha := ha.mono hg
  obtain ⟨a1, c1, rfl⟩ := ha.shape
  unfold bagP
  refine S.seq (S.region rfl ?_)
  refine O.op (.p rfl) (.mv rfl) ?_
  refine O.op (.p rfl) (.mv rfl) ?_
  refine O.op (.p rfl) (.nilCheck rfl) ?_
  refine O.op (.p rfl) (.fieldObj FactKp3.fld103x18 rfl) ?_
  refine O.op (.p rfl) (.loadObj FactKp3.flat50 rfl (by repeat (first | exact Sel.here | apply Sel.there)) rfl) ?_
  refine O.op (.p rfl) (.mv rfl) ?_
  refine O.opE (.p rfl) (.litP (T := Rp.val) (ys := [_]) Go.Proofs.Tryz.underlying50 FactKp3.elem29 (by decide) rfl rfl ⟨⟨rfl, rfl⟩, trivial⟩ (by decide)) ?_
  rintro _ _ ⟨a11, c11, rfl, rfl⟩
  refine O.opE (.p rfl) (.appendO (T := Rp.val) Go.Proofs.Tryz.underlying50 FactKp3.elem29 (by decide) rfl rfl (by repeat (first | exact Sel.here | apply Sel.there)) (by repeat (first | exact Sel.here | apply Sel.there)) (by first | omega | (simp; done) | (simp; omega) | decide) (by first | omega | (simp; done) | (simp; omega) | decide)) ?_
  rintro _ _ ⟨a12, c12, rfl, rfl⟩
  refine O.op (.p rfl) (.nilCheck rfl) ?_
  refine O.op (.p rfl) (.fieldObj FactKp3.fld103x18 rfl) ?_
  refine O.opU rfl (.store1 FactKp3.flat50 rfl rfl (by first | rfl | assumption) (by repeat (first | exact Sel.here | apply Sel.there)) (by first | (simp; done) | (simp [Value.cells]; done))) ?_
  refine O.nil ?_
  refine S.seq (S.region rfl ?_)
  refine O.op (.p rfl) (.as rfl) ?_
  refine O.nil ?_
  refine S.block ?_
  refine S.conv (B := OwnP Rp.val 33 (.slice a ws.length c) ws) (C := OwnP Rp.val 33 (.slice a (ws.length + 0) c) (ws ++ (css.take 0).map byV)) (by repeat (first | exact Sel.here | apply Sel.there)) (fun m x => ⟨m, Fr.sub_refl _, by simpa using x⟩) ?_
  refine S.loopK2 (ι := Nat) (κ := Option Addr × Nat) (fun i s => i ≤ css.length) (fun i s => [(4, .int .i64 (i : Int))]) [(0, _), (1, _)] (fun i s => [OwnP Rp.val 33 (.slice s.1 (ws.length + i) s.2) (ws ++ (css.take i).map byV), obj b 103 (bagP (.slice s.1 (ws.length + i) s.2) (.slice a12 (us.length + 1) c12)), OwnP Rp.val 29 (.slice a12 (us.length + 1) c12) (us ++ [.slice a1 css.length c1])]) (fun i s => css.length - i) (0) ((a, c)) (by simp) (.cons rfl (.nil)) (.cons rfl (.cons rfl (.nil))) rfl fun i s hx ih => ?_
  have hm1 := meltRefl (g := g)
  refine S.seq (S.seq (S.region rfl ?_))
  refine O.op (.p rfl) (.mv rfl) ?_
  refine O.op (.p rfl) (.mv rfl) ?_
  refine O.op (.p rfl) (.len rfl Go.Proofs.Tryz.underlying29 rfl) ?_
  refine O.op (.p rfl) (.lss rfl rfl) ?_
  refine O.nil ?_
  first | refine S.condD rfl (fun h18 => ?_) (fun h18 => ?_) | refine S.condB rfl (fun h18 => ?_) (fun h18 => ?_)
  · have hi : i < css.length := by omega
    have hlw : (ws ++ (css.take i).map byV).length = ws.length + i := by simp; omega
    refine S.skip (S.seq (S.block (S.region rfl ?_)))
    refine O.op (.p rfl) (.mv rfl) ?_
    refine O.op (.p rfl) (.mv rfl) ?_
    refine O.op (.p rfl) (.mv rfl) ?_
    refine O.idx' (.p rfl) Go.Proofs.Tryz.underlying29 FactKp3.size35 rfl rfl rfl (ha) (by decide) (by first | omega | (simp; done) | (simp; omega) | decide) (fun p24 cs24 hp24 hr24 => ?_)
    obtain ⟨rfl, _, _⟩ := hr24
    obtain ⟨k1, k2, a4, n4, c4, hcs⟩ := hs css[i] (List.getElem_mem _)
    rw [hcs] at hp24
    refine O.op (.p rfl) (.loadAgg Go.Proofs.Tryz.isAgg35 (by kernel_rfl) rfl hp24) ?_
    refine O.callSs (.p rfl) rfl FactKp3.ok59 rfl rfl (by repeat (first | exact Sels.nil | (apply Sels.cons; focus (repeat (first | exact Sel.here | apply Sel.there))))) (onePacket_c hlw (by rw [hlw]; omega)) ?_
    rintro v26 _ ⟨a26, c26, rfl, rfl⟩
    try simp only [List.cons_append, List.nil_append, List.append_nil]
    refine O.nil ?_
    refine S.inBlock (S.region rfl ?_)
    refine O.op (.p rfl) (.mv rfl) ?_
    refine O.op (.p rfl) (.add rfl rfl (IntWalk.i64_in _ (by omega))) ?_
    refine O.op (.p rfl) (.as rfl) ?_
    refine O.nil ?_
    have hby : byV css[i] = .slice a4 n4 c4 := by rw [hcs]; rfl
    have htk : (css.take (i + 1)).map byV = (css.take i).map byV ++ [byV css[i]] := by rw [List.take_succ_eq_append_getElem hi, List.map_append]; rfl
    rw [List.append_assoc, ← hby, ← htk]
    refine S.pk ?_ (S.weaken ?_ (ih (i + 1) ((a26, c26)) (by omega) (by omega)))
    · repeat (first | exact Picks.all | exact Picks.nil | (apply Picks.cons; focus (repeat (first | exact Sel.here | apply Sel.there))) | apply Picks.skip)
    repeat (first | exact Sub.nil | refine Sub.cons rfl ?_)
  · clear ih
    have hi : i = css.length := by omega
    subst hi
    rw [List.take_length]
    refine S.exit rfl ?_
    refine S.end0 Go.Proofs.Tryz.results45 fun w hw => Holds.end_ hR hw ?_
    exact ⟨_, ⟨s.1, s.2, a12, c12, rfl, rfl⟩, by repeat (first | exact Picks.all | exact Picks.nil | (apply Picks.cons; focus (repeat (first | exact Sel.here | apply Sel.there))) | apply Picks.skip)⟩

end Go.Proofs.YthaebmfgelaleaaGreat
