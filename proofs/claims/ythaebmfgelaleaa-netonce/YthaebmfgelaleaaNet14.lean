import Derived.Test.YthaebmfgelaleaaNet13
open Go Go.Sp
set_option maxRecDepth 100000
attribute [local irreducible] obj Own OwnP
namespace Go.Proofs.Ythaebmfgelaleaa
theorem FactNet14.elem24 : elemIs Go.Proofs.Try.prog 24 3 40 [.int .i64 0, .int .i64 0, .slice none 0 0] := elemIs.mk (by kernel_rfl) rfl
theorem FactNet14.elem3 : elemIs Go.Proofs.Try.prog 3 1 8 [.int .i64 0] := elemIs.mk (by kernel_rfl) rfl
theorem FactNet14.flat3 : Go.Sp.flat1 Go.Proofs.Try.prog 3 = true := by kernel_rfl
theorem FactNet14.flat47 : Go.Sp.flat1 Go.Proofs.Try.prog 47 = true := by kernel_rfl
theorem FactNet14.fld24x0 : fieldOff Go.Proofs.Try.prog 24 0 = some 0 := by kernel_rfl
theorem FactNet14.fld24x1 : fieldOff Go.Proofs.Try.prog 24 1 = some 1 := by kernel_rfl
theorem FactNet14.fld49x0 : fieldOff Go.Proofs.Try.prog 49 0 = some 0 := by kernel_rfl
theorem FactNet14.fld49x1 : fieldOff Go.Proofs.Try.prog 49 1 = some 1 := by kernel_rfl
theorem FactNet14.fld49x2 : fieldOff Go.Proofs.Try.prog 49 2 = some 2 := by kernel_rfl
theorem FactNet14.fld49x3 : fieldOff Go.Proofs.Try.prog 49 3 = some 3 := by kernel_rfl
theorem FactNet14.fld49x4 : fieldOff Go.Proofs.Try.prog 49 4 = some 4 := by kernel_rfl
theorem FactNet14.mixed : Go.Proofs.Try.prog.follows .mixedOrders = true := by kernel_rfl
theorem FactNet14.ok10 : callable Go.Proofs.Try.prog 10 = true := by kernel_rfl
theorem FactNet14.ok11 : callable Go.Proofs.Try.prog 11 = true := by kernel_rfl
theorem FactNet14.ok12 : callable Go.Proofs.Try.prog 12 = true := by kernel_rfl
theorem FactNet14.ok13 : callable Go.Proofs.Try.prog 13 = true := by kernel_rfl
theorem FactNet14.ok14 : callable Go.Proofs.Try.prog 14 = true := by kernel_rfl
theorem FactNet14.ok15 : callable Go.Proofs.Try.prog 15 = true := by kernel_rfl
theorem FactNet14.ok5 : callable Go.Proofs.Try.prog 5 = true := by kernel_rfl
theorem FactNet14.ok7 : callable Go.Proofs.Try.prog 7 = true := by kernel_rfl
theorem FactNet14.ok8 : callable Go.Proofs.Try.prog 8 = true := by kernel_rfl
theorem FactNet14.ok9 : callable Go.Proofs.Try.prog 9 = true := by kernel_rfl
theorem FactNet14.size24 : (Go.Proofs.Try.prog.info? 24).map (·.size) = some 3 := by kernel_rfl
theorem FactNet14.size3 : (Go.Proofs.Try.prog.info? 3).map (·.size) = some 1 := by kernel_rfl
theorem FactNet14.size49 : (Go.Proofs.Try.prog.info? 49).map (·.size) = some 5 := by kernel_rfl
theorem FactNet14.size51 : (Go.Proofs.Try.prog.info? 51).map (·.size) = some 2 := by kernel_rfl

theorem take_yes' {r : Fr} {d b : Nat} {ls : NetM} {f t z : Int} {i : Nat} (hz : z = (i : Int)) (hat : At r ⟨d, 0, none⟩ [.map (some b)]) (hi : i < (atL ls (f, t)).length) :
    Con Go.Proofs.Try.prog 5 #[.pointer (some ⟨d, 0, none⟩), .int .i64 f, .int .i64 t, .int .i64 z] r [linksW b ls]
      (Ret fun u η => ∃ ad cd, u = .tuple #[.agg #[.int .i64 (atL ls (f, t))[i].1, .int .i64 (atL ls (f, t))[i].2.1, .slice ad (atL ls (f, t))[i].2.2.1.length cd], .bool true] ∧ InI64 (atL ls (f, t))[i].1 ∧ InI64 (atL ls (f, t))[i].2.1 ∧ η = [OwnP Rp.u8 5 (.slice ad (atL ls (f, t))[i].2.2.1.length cd) (atL ls (f, t))[i].2.2.1, linksW b (takeL ls (f, t) i)]) := by
  subst hz; exact take_yes hat hi
theorem twice_yes' {r : Fr} {d b : Nat} {ls : NetM} {f t z : Int} {i : Nat} (hz : z = (i : Int)) (hat : At r ⟨d, 0, none⟩ [.map (some b)]) (hi : i < (atL ls (f, t)).length) (hl : (atL ls (f, t))[i].2.2.1.length ≤ 262144) :
    Con Go.Proofs.Try.prog 8 #[.pointer (some ⟨d, 0, none⟩), .int .i64 f, .int .i64 t, .int .i64 z] r [linksW b ls]
      (Ret fun u η => u = .bool (!fullL ls (atL ls (f, t))[i]) ∧ η = [linksW b (sendL ls (atL ls (f, t))[i])]) := by
  subst hz; exact twice_yes hat hi hl
theorem takeOk_yes {ls : NetM} {k : Int × Int} {z : Int} (h : takeOk ls k z = true) : ∃ j : Nat, z = (j : Int) ∧ j < (atL ls k).length := by
  unfold takeOk at h
  simp only [Bool.and_eq_true, decide_eq_true_eq] at h
  exact ⟨z.toNat, by omega, by omega⟩
theorem atL_take_ne {ls : NetM} (o : NInv ls) {k q : Int × Int} {j : Nat} (h : q ≠ k) : atL (takeL ls k j) q = atL ls q := by
  unfold takeL
  split
  · rw [atL_del o.nd, if_neg h]
  · rw [atL_put, if_neg h]
theorem atL_send_ne {ls : NetM} {p : Pkt} {q : Int × Int} (h : q ≠ keyP p) : atL (sendL ls p) q = atL ls q := by
  unfold sendL
  split
  · rfl
  · rw [atL_put, if_neg h]
theorem atL_send_eq {ls : NetM} {p : Pkt} (h : fullL ls p = false) : atL (sendL ls p) (keyP p) = atL ls (keyP p) ++ [p] := by
  have e : sendL ls p = putA ls (keyP p) (atL ls (keyP p) ++ [p]) := by rw [sendL, h]; rfl
  rw [e, atL_put, if_pos rfl]
theorem atL_take_len {ls : NetM} (o : NInv ls) {k : Int × Int} {j : Nat} (h : j < (atL ls k).length) : (atL (takeL ls k j) k).length = (atL ls k).length - 1 := by
  unfold takeL
  split
  · rw [atL_del o.nd, if_pos rfl]; simp; omega
  · rw [atL_put, if_pos rfl, List.length_eraseIdx_of_lt h]
theorem fullL_false {ls : NetM} {p : Pkt} : fullL ls p = false ↔ (atL ls (keyP p)).length < 64 := by
  unfold fullL
  rw [decide_eq_false_iff_not]; omega
theorem sendE1 {ls : NetM} {p : Pkt} (h : p.2.2.1.length ≤ 262144) : sendE ls [p] = if fullL ls p then 8 else 0 := by
  have : longP p = false := by unfold longP; simp; omega
  simp [sendE, this, anyFull]
theorem sendM1 {ls : NetM} {p : Pkt} (h : p.2.2.1.length ≤ 262144) : sendM ls [p] = sendL ls p := by
  have : longP p = false := by unfold longP; simp; omega
  simp [sendM, this, sendsL]
theorem sendX {ls : NetM} {p : Pkt} (h : ¬ p.2.2.1.length ≤ 262144) : sendE ls [p] = 3 ∧ sendM ls [p] = ls := by
  have : longP p = true := by unfold longP; simp; omega
  simp [sendE, sendM, this]
theorem sendE0 {ls : NetM} {p : Pkt} (h : sendE ls [p] = 0) : p.2.2.1.length ≤ 262144 ∧ fullL ls p = false := by
  by_cases hl : p.2.2.1.length ≤ 262144
  · rw [sendE1 hl] at h
    refine ⟨hl, ?_⟩
    cases hf : fullL ls p with
    | false => rfl
    | true => rw [hf] at h; cases h
  · rw [(sendX hl).1] at h; cases h
theorem sendEN {ls : NetM} {p : Pkt} (h : sendE ls [p] ≠ 0) : sendM ls [p] = ls := by
  by_cases hl : p.2.2.1.length ≤ 262144
  · rw [sendE1 hl] at h
    rw [sendM1 hl, sendL]
    cases hf : fullL ls p with
    | false => rw [hf] at h; exact absurd rfl h
    | true => rfl
  · exact (sendX hl).2
theorem linksS_len (ls : NetM) : (linksS ls).length = ls.length := by unfold linksS; rw [sortF_length, List.length_map]
def lensL (ls : NetM) : List Int := (linksS ls).map fun q => ((atL ls q).length : Int)
theorem lensL_len (ls : NetM) : (lensL ls).length = (linksS ls).length := List.length_map ..
theorem lensL_at (ls : NetM) (k : Nat) (h : k < (linksS ls).length) : (lensL ls)[k]'(by rw [lensL_len]; exact h) = ((atL ls (linksS ls)[k]).length : Int) := List.getElem_map ..
theorem OnceI.less {l : List DoT} {i : Nat} {ls ls' : NetM} {m : List (KEnt (List UInt8))} {p : Pkt} (o : OnceI l i ls m) (h : (p :: allP ls').Perm (allP ls)) (o1 : NInv ls') (c : Nat) : OnceI l i ls' (putK m c (pkey p) (.int .i64 (cnt ls (pkey p) - 1))) where
  inv := o1
  times := o.times.less h c
  room := by have h1 := h.length_eq; have h2 := o.room; rw [List.length_cons] at h1; omega
theorem take_at {r : Fr} {d b : Nat} {ls : NetM} {f t z : Int} {i : Nat} {p : Pkt} (hz : z = (i : Int)) (hat : At r ⟨d, 0, none⟩ [.map (some b)]) (hp : (atL ls (f, t))[i]? = some p) :
    Con Go.Proofs.Try.prog 5 #[.pointer (some ⟨d, 0, none⟩), .int .i64 f, .int .i64 t, .int .i64 z] r [linksW b ls]
      (Ret fun u η => ∃ ad cd, u = .tuple #[.agg #[.int .i64 p.1, .int .i64 p.2.1, .slice ad p.2.2.1.length cd], .bool true] ∧ InI64 p.1 ∧ InI64 p.2.1 ∧ η = [OwnP Rp.u8 5 (.slice ad p.2.2.1.length cd) p.2.2.1, linksW b (takeL ls (f, t) i)]) := by
  obtain ⟨hi, rfl⟩ := List.getElem?_eq_some_iff.1 hp
  exact take_yes' hz hat hi
/-- a packet of a link that is doubled, taken as the last one, and sent again -/
structure TwiceI (ls : NetM) (k : Int × Int) (p : Pkt) (n : Nat) : Prop where
  len1 : (atL (sendL ls p) k).length = n + 1
  at1 : (atL (sendL ls p) k)[n]? = some p
  full3 : fullL (takeL (sendL ls p) k n) p = false
  inv3 : NInv (sendL (takeL (sendL ls p) k n) p)
  perm3 : (allP (sendL (takeL (sendL ls p) k n) p)).Perm (p :: allP ls)
  ne3 : ∀ q, q ≠ k → atL (sendL (takeL (sendL ls p) k n) p) q = atL ls q
theorem TwiceI.of {ls : NetM} (o : NInv ls) {k : Int × Int} {p : Pkt} {n : Nat} (hk : keyP p = k) (hn : n = (atL ls k).length) (hf : fullL ls p = false) (hl : p.2.2.1.length ≤ 262144) : TwiceI ls k p n := by
  subst hk
  have h1 := atL_send_eq hf
  have hlt : n < (atL (sendL ls p) (keyP p)).length := by rw [h1, List.length_append, hn]; simp
  have o1 := o.send (p := p) hl
  have hge : (atL (sendL ls p) (keyP p))[n] = p := by simp [h1, hn]
  have hp := allP_take (ls := sendL ls p) hlt
  rw [hge] at hp
  have hf3 : fullL (takeL (sendL ls p) (keyP p) n) p = false := by
    have h64 := fullL_false.1 hf
    rw [fullL_false, atL_take_len o1 hlt, h1, List.length_append]
    simp; omega
  refine ⟨by rw [h1, List.length_append, hn]; rfl, by rw [List.getElem?_eq_getElem hlt, hge], hf3, (o1.take hlt).send hl, ?_, fun q hq => by rw [atL_send_ne hq, atL_take_ne o1 hq, atL_send_ne hq]⟩
  exact (allP_send hf3).trans (hp.trans (allP_send hf))
theorem OnceI.twice {l : List DoT} {i : Nat} (hi : i < l.length) {ls ls' : NetM} {m : List (KEnt (List UInt8))} {p : Pkt} (o : OnceI l i ls m) (h : (allP ls').Perm (p :: allP ls)) (o1 : NInv ls') (c : Nat) : OnceI l (i + 1) ls' (putK m c (pkey p) (.int .i64 (cnt ls (pkey p) + 1))) where
  inv := o1
  times := o.times.more h c
  room := by
    have h1 := h.length_eq; have h2 := o.room; rw [List.length_cons] at h1
    rw [List.take_succ_eq_append_getElem hi, wL_snoc]; omega
/-- while packets are sent, one by one -/
structure SendI (l : List DoT) (i k : Nat) (ls : NetM) (m : List (KEnt (List UInt8))) : Prop where
  inv : NInv ls
  times : TimesK m ls
  room : (allP ls).length ≤ i + wL (l.take i) + k
theorem OnceI.send0 {l : List DoT} {i : Nat} {ls : NetM} {m : List (KEnt (List UInt8))} (o : OnceI l i ls m) : SendI l i 0 ls m := ⟨o.inv, o.times, o.room⟩
theorem SendI.none {l : List DoT} {i k : Nat} {ls : NetM} {m : List (KEnt (List UInt8))} (o : SendI l i k ls m) : SendI l i (k + 1) ls m := ⟨o.inv, o.times, by have := o.room; omega⟩
theorem SendI.one {l : List DoT} {i k : Nat} {ls : NetM} {m : List (KEnt (List UInt8))} {p : Pkt} (o : SendI l i k ls m) (hf : fullL ls p = false) (hl : p.2.2.1.length ≤ 262144) (c : Nat) : SendI l i (k + 1) (sendL ls p) (putK m c (pkey p) (.int .i64 (cnt ls (pkey p) + 1))) where
  inv := o.inv.send hl
  times := o.times.more (allP_send hf) c
  room := by have h1 := (allP_send hf).length_eq; have := o.room; rw [List.length_cons] at h1; omega
theorem SendI.done {l : List DoT} {i k : Nat} (hi : i < l.length) (hk : k = l[i].L.length) {ls : NetM} {m : List (KEnt (List UInt8))} (o : SendI l i k ls m) : OnceI l (i + 1) ls m := ⟨o.inv, o.times, by
  have h1 := o.room
  rw [List.take_succ_eq_append_getElem hi, wL_snoc, wD]
  omega⟩
theorem SendI.small {l : List DoT} {i k : Nat} {ls : NetM} {m : List (KEnt (List UInt8))} (o : SendI l i k ls m) (hi : i < l.length) (hk : k ≤ l[i].L.length) (hs : SmallD l) : (allP ls).length ≤ 400 ∧ ls.length ≤ 400 := by
  have h1 := o.room
  have h2 := wL_take l (i + 1)
  have h3 := o.inv.len
  rw [List.take_succ_eq_append_getElem hi, wL_snoc, wD] at h2
  unfold SmallD at hs
  omega
def sumN (ls : NetM) (k : Nat) : Nat := (((linksS ls).take k).map fun q => (atL ls q).length).sum
theorem sumN_succ (ls : NetM) (k : Nat) (h : k < (linksS ls).length) : sumN ls (k + 1) = sumN ls k + (atL ls ((linksS ls)[k].1, (linksS ls)[k].2)).length := by
  unfold sumN
  rw [List.take_succ_eq_append_getElem h, List.map_append, List.sum_append]
  simp
theorem sumN_all {ls : NetM} (o : NInv ls) : sumN ls (linksS ls).length = (allP ls).length := by
  unfold sumN
  rw [List.take_length]; exact sum_links o.nd
theorem sumN_le {ls : NetM} (o : NInv ls) (k : Nat) : sumN ls k ≤ (allP ls).length := by
  rw [← sumN_all o]
  unfold sumN
  conv => rhs; rw [List.take_length, ← List.take_append_drop k (linksS ls)]
  rw [List.map_append, List.sum_append]; omega
theorem netOnce_c {r : Fr} {va : Value} {l : List DoT} (ha : Arr DoRp r va l) (hs : ShortD l) :
    Con Go.Proofs.Try.prog 4 #[va] r [] (Ret fun v η => v = .bool true ∧ η = []) := by
  refine Con.of (n := 249) [va] rfl Go.Proofs.Try.func4 rfl rfl rfl fun g hg R hR => ?_
  have ha := ha.mono hg
  obtain ⟨a1, c1, rfl⟩ := ha.shape
  refine S.seq (S.region rfl ?_)
  refine O.op (.p rfl) (.as rfl) ?_
  refine O.nil ?_
  refine S.seq (S.seq (S.region rfl ?_))
  refine O.call0 (.p rfl) rfl FactNet14.ok11 rfl rfl (awake_c) ?_
  rintro v19 _ ⟨rfl, rfl⟩
  try simp only [List.cons_append, List.nil_append, List.append_nil]
  refine O.op (.p rfl) ((by first | exact .notD rfl | exact .not rfl)) ?_
  refine O.nil ?_
  refine S.condF rfl ?_
  refine S.skip (S.seq (S.seq (S.region rfl ?_)))
  refine O.op (.p rfl) (.mv rfl) ?_
  refine O.call0 (.p rfl) rfl FactNet14.ok12 rfl rfl ((great_c ha hs)) ?_
  rintro v22 _ ⟨b22, rfl, hb22, rfl⟩
  try simp only [List.cons_append, List.nil_append, List.append_nil]
  refine O.nil ?_
  first | refine S.condD rfl (fun h22 => ?_) (fun h22 => ?_) | refine S.condB rfl (fun h22 => ?_) (fun h22 => ?_)
  · refine S.seq (S.region rfl ?_)
    refine O.op (.p rfl) (.as rfl) ?_
    refine O.nil ?_
    refine S.ret Go.Proofs.Try.results4 rfl fun w hw => Holds.end_ hR hw ?_
    exact ⟨_, ⟨rfl, rfl⟩, by repeat (first | exact Picks.all | exact Picks.nil | (apply Picks.cons; focus (repeat (first | exact Sel.here | apply Sel.there))) | apply Picks.skip)⟩
  · have hsm : SmallD l := hb22 (by simpa using h22)
    have hll : l.length ≤ 400 := by unfold SmallD at hsm; omega
    refine S.skip (S.seq (S.region rfl ?_))
    refine O.call0 (.p rfl) rfl FactNet14.ok13 rfl rfl ((nnew_c)) ?_
    rintro v23 _ ⟨d23, b23, rfl, rfl⟩
    try simp only [List.cons_append, List.nil_append, List.append_nil]
    refine O.frzO (by repeat (first | exact Sel.here | apply Sel.there)) fun g hs hm hat => ?_
    replace hg := Fr.sub_trans hg hs
    replace hR := melted hR hm
    try replace ha := ha.mono hs
    clear hs hm
    refine O.op (.p rfl) (.as rfl) ?_
    refine O.nil ?_
    refine S.seq (S.region rfl ?_)
    refine O.opE (.p rfl) (.makeMapK' (enc := encS)) ?_
    rintro _ _ ⟨b24, rfl, rfl⟩
    refine O.op (.p rfl) (.as rfl) ?_
    refine O.nil ?_
    refine S.seq (S.region rfl ?_)
    refine O.op (.p rfl) (.as rfl) ?_
    refine O.nil ?_
    refine S.seq (S.seq (S.region rfl ?_))
    refine O.op (.p rfl) (.as rfl) ?_
    refine O.nil ?_
    refine S.block ?_
    refine S.loopK4 (ι := Nat) (κ := NetM) (υ := List (KEnt (List UInt8))) (τ := Nat) (fun i ls m c => i ≤ l.length ∧ OnceI l i ls m) (fun i ls m c => [(6, .int .i64 (i : Int)), (5, .int .i64 (((allP ls).length : Nat) : Int))]) [(0, _), (3, _), (4, _)] (fun i ls m c => [MapK encS b24 m c, linksW b23 ls]) (fun i ls m c => l.length - i) (0) ([]) ([]) (0) (by exact ⟨Nat.zero_le _, OnceI.nil l⟩) (.cons rfl (.cons rfl (.nil))) (.cons rfl (.cons rfl (.cons rfl (.nil)))) rfl fun i ls m c hx ih => ?_
    have hm1 := meltRefl (g := g)
    obtain ⟨hx1, hx2⟩ := hx
    obtain ⟨hsz1, hsz2⟩ := hx2.small hx1 hsm
    refine S.seq (S.seq (S.region rfl ?_))
    refine O.op (.p rfl) (.mv rfl) ?_
    refine O.op (.p rfl) (.mv rfl) ?_
    refine O.op (.p rfl) (.len rfl Go.Proofs.Try.underlying43 rfl) ?_
    refine O.op (.p rfl) (.lss rfl rfl) ?_
    refine O.nil ?_
    first | refine S.condD rfl (fun h28 => ?_) (fun h28 => ?_) | refine S.condB rfl (fun h28 => ?_) (fun h28 => ?_)
    · have hi : i < l.length := by omega
      have hw20 : l.take (i + 1) = l.take i ++ [l[i]] := List.take_succ_eq_append_getElem hi
      have hwl := wL_take l (i + 1)
      have hlen := linksS_len ls
      have hlen2 := lensL_len ls
      refine S.skip (S.seq (S.block (S.seq (S.region rfl ?_))))
      refine O.op (.p rfl) (.mv rfl) ?_
      refine O.op (.p rfl) (.mv rfl) ?_
      refine O.idx' (.p rfl) Go.Proofs.Try.underlying43 FactNet14.size49 rfl rfl rfl (by first | assumption | exact Arr.mono hg (by assumption) | exact Arr.left (by assumption) | exact Arr.left (Arr.mono hg (by assumption))) (by decide) (by first | omega | (simp; done) | (simp; omega) | decide) (fun p33 cs33 hp33 hr33 => ?_)
      obtain ⟨a33, c33, rfl, ha33, hw33, hf33, ht33, hz33⟩ := DoRp.open hr33
      refine O.op (.p rfl) (.loadAgg Go.Proofs.Try.isAgg49 (by kernel_rfl) rfl hp33) ?_
      refine O.opE (.p rfl) (.alloc (cs := [.int .i64 0, .int .i64 0, .int .i64 0, .int .i64 0, .slice none 0 0]) Go.Proofs.Try.zeroValue49 rfl) ?_
      rintro _ _ ⟨b7, rfl, rfl⟩
      refine O.opU rfl (.storeObj (by kernel_rfl) rfl rfl rfl rfl (by repeat (first | exact Sel.here | apply Sel.there)) (by first | (simp; done) | (simp [Value.cells]; done))) ?_
      refine O.nil ?_
      refine S.seq ?_
      refine S.frzO (by repeat (first | exact Sel.here | apply Sel.there)) fun g hs hm h7 => ?_
      replace hg := Fr.sub_trans hg hs
      replace hR := melted hR hm
      try replace ha := ha.mono hs
      try replace hat := hat.mono hs
      try replace hat := hat.mono hs
      try replace hp33 := hp33.mono hs
      try replace ha33 := ha33.mono hs
      try replace ha33 := ha33.mono hs
      replace hm1 := meltTrans hm1 hm
      clear hs hm
      refine S.region rfl ?_
      refine O.op (.p rfl) (.mv rfl) ?_
      refine O.callS (.p rfl) rfl FactNet14.ok9 rfl rfl (by repeat (first | exact Sel.here | apply Sel.there)) (links_g hat (by omega)) ?_
      rintro v36 _ ⟨a36, c36, rfl, rfl⟩
      try simp only [List.cons_append, List.nil_append, List.append_nil]
      refine O.frzA (by repeat (first | exact Sel.here | apply Sel.there)) fun g hs hm ha36 => ?_
      replace hg := Fr.sub_trans hg hs
      replace hR := melted hR hm
      try replace ha := ha.mono hs
      try replace hat := hat.mono hs
      try replace hat := hat.mono hs
      try replace hp33 := hp33.mono hs
      try replace ha33 := ha33.mono hs
      try replace ha33 := ha33.mono hs
      try replace h7 := h7.mono hs
      replace hm1 := meltTrans hm1 hm
      clear hs hm
      refine O.op (.p rfl) (.as rfl) ?_
      refine O.nil ?_
      refine S.seq (S.region rfl ?_)
      refine O.op (.p rfl) (.as rfl) ?_
      refine O.nil ?_
      refine S.seq (S.seq (S.region rfl ?_))
      refine O.op (.p rfl) (.as rfl) ?_
      refine O.nil ?_
      refine S.block ?_
      refine S.addNil (T := Rp.i64) (e := 3) ?_
      refine S.loopK2 (ι := Nat) (κ := Option Addr × Nat) (fun k s => k ≤ (linksS ls).length) (fun k s => [(10, .int .i64 (k : Int)), (9, .slice s.1 ((lensL ls).take k).length s.2)]) [(0, _), (3, _), (4, _), (5, _), (6, _), (7, _), (8, _)] (fun k s => [OwnP Rp.i64 3 (.slice s.1 ((lensL ls).take k).length s.2) ((lensL ls).take k), linksW b23 ls, MapK encS b24 m c]) (fun k s => (linksS ls).length - k) (0) ((none, 0)) (by simp) (.cons rfl (.cons rfl (.nil))) (.cons rfl (.cons rfl (.cons rfl (.cons rfl (.cons rfl (.cons rfl (.cons rfl (.nil)))))))) rfl fun k s hx ih => ?_
      have hm2 := meltRefl (g := g)
      refine S.seq (S.seq (S.region rfl ?_))
      refine O.op (.p rfl) (.mv rfl) ?_
      refine O.op (.p rfl) (.mv rfl) ?_
      refine O.op (.p rfl) (.len rfl Go.Proofs.Try.underlying38 rfl) ?_
      refine O.op (.p rfl) (.lss rfl rfl) ?_
      refine O.nil ?_
      first | refine S.condD rfl (fun h40 => ?_) (fun h40 => ?_) | refine S.condB rfl (fun h40 => ?_) (fun h40 => ?_)
      · have hk : k < (linksS ls).length := by omega
        have hkq : k < (lensL ls).length := by rw [lensL_len]; exact hk
        have hal : (atL ls ((linksS ls)[k].1, (linksS ls)[k].2)).length ≤ 400 := by have := OnceI.len_at (ls := ls) ((linksS ls)[k].1, (linksS ls)[k].2); omega
        have hcell : ∀ h, ((linksS ls).map cells2)[k]'h = [.int .i64 (linksS ls)[k].1, .int .i64 (linksS ls)[k].2] := fun h => by rw [List.getElem_map]; rfl
        have hnx : (lensL ls).take (k + 1) = (lensL ls).take k ++ [((atL ls ((linksS ls)[k].1, (linksS ls)[k].2)).length : Int)] := by rw [List.take_succ_eq_append_getElem hkq, lensL_at ls k hk]
        have hkt : ((lensL ls).take k).length = k := by rw [List.length_take]; omega
        have hlk : k ≤ 400 := by omega
        refine S.skip (S.seq (S.block (S.regionD (L := [0, 1, 2, 3, 4, 5, 6, 7, 8, 9, 10, 11, 12, 13, 14, 15]) FactNet14.mixed (by kernel_rfl) ?_)))
        refine .quiet (.p rfl) rfl (fun _ => .mv rfl) ?_
        refine .quiet (.p rfl) rfl (fun _ => .mv rfl) ?_
        refine .quiet (.p rfl) rfl (fun _ => .mv rfl) ?_
        refine .quiet (.p rfl) rfl (fun _ => .mv rfl) ?_
        refine OD.idx' (.p rfl) Go.Proofs.Try.underlying38 FactNet14.size51 rfl rfl rfl (ha36) (by decide) (by first | omega | (simp; done) | (simp; omega) | decide) (fun p47 cs47 hp47 hr47 => ?_)
        obtain ⟨rfl, _⟩ := hr47
        rw [hcell] at hp47
        refine .quiet (.p rfl) rfl (fun _ => .idxArrA (j := 0) Go.Proofs.Try.underlying51 FactNet14.size3 rfl rfl rfl (by omega)) ?_
        refine .quiet (.p rfl) rfl (fun _ => .loadAt FactNet14.flat3 rfl hp47 rfl) ?_
        refine .quiet (.p rfl) rfl (fun _ => .mv rfl) ?_
        refine .quiet (.p rfl) rfl (fun _ => .mv rfl) ?_
        refine OD.idx' (.p rfl) Go.Proofs.Try.underlying38 FactNet14.size51 rfl rfl rfl (ha36) (by decide) (by first | omega | (simp; done) | (simp; omega) | decide) (fun p52 cs52 hp52 hr52 => ?_)
        obtain ⟨rfl, _⟩ := hr52
        rw [hcell] at hp52
        refine .quiet (.p rfl) rfl (fun _ => .idxArrA (j := 1) Go.Proofs.Try.underlying51 FactNet14.size3 rfl rfl rfl (by omega)) ?_
        refine .quiet (.p rfl) rfl (fun _ => .loadAt FactNet14.flat3 rfl (hp52.drop 1) rfl) ?_
        refine OD.callS (.p rfl) (by kernel_rfl) rfl FactNet14.ok10 rfl rfl (by repeat (first | exact Sel.here | apply Sel.there)) (many_g hat) ?_
        rintro v55 _ ⟨rfl, rfl⟩
        try simp only [List.cons_append, List.nil_append, List.append_nil]
        refine OD.litP (T := Rp.i64) (ys := [_]) (.p rfl) (by kernel_rfl) Go.Proofs.Try.underlying50 FactNet14.elem3 (by decide) rfl rfl ⟨⟨rfl, by first | assumption | (constructor <;> omega)⟩, trivial⟩ (by decide) (fun a56 c56 => ?_)
        refine OD.appendO (.p rfl) (by kernel_rfl) (T := Rp.i64) Go.Proofs.Try.underlying50 FactNet14.elem3 (by decide) rfl rfl (by repeat (first | exact Sel.here | apply Sel.there)) (by repeat (first | exact Sel.here | apply Sel.there)) (by first | omega | (simp; done) | (simp; omega) | decide) (by first | omega | (simp; done) | (simp; omega) | decide) (fun a57 c57 => ?_)
        refine .quiet (.p rfl) rfl (fun _ => .as rfl) ?_
        refine .nil ?_
        refine S.inBlock (S.region rfl ?_)
        refine O.op (.p rfl) (.mv rfl) ?_
        refine O.op (.p rfl) (.add rfl rfl (IntWalk.i64_in _ (by omega))) ?_
        refine O.op (.p rfl) (.as rfl) ?_
        refine O.nil ?_
        have hln : ((lensL ls).take (k + 1)).length = ((lensL ls).take k).length + [((atL ls ((linksS ls)[k].1, (linksS ls)[k].2)).length : Int)].length := by rw [hnx, List.length_append]
        rw [← hnx, ← hln]
        refine S.pk ?_ (S.weaken ?_ (ih (k + 1) ((a57, c57)) (by omega) (by omega)))
        · repeat (first | exact Picks.all | exact Picks.nil | (apply Picks.cons; focus (repeat (first | exact Sel.here | apply Sel.there))) | apply Picks.skip)
        repeat (first | exact Sub.nil | refine Sub.cons rfl ?_)
      · clear ih
        have hk : k = (lensL ls).length := by omega
        rw [hk, List.take_length]
        refine S.frzA (by repeat (first | exact Sel.here | apply Sel.there)) fun g hs hm hmany => ?_
        replace hg := Fr.sub_trans hg hs
        replace hR := melted hR hm
        try replace ha := ha.mono hs
        try replace hat := hat.mono hs
        try replace hat := hat.mono hs
        try replace hp33 := hp33.mono hs
        try replace ha33 := ha33.mono hs
        try replace ha33 := ha33.mono hs
        try replace h7 := h7.mono hs
        try replace ha36 := ha36.mono hs
        replace hm1 := meltTrans hm1 hm
        replace hm2 := meltTrans hm2 hm
        clear hs hm
        obtain ⟨f, hf⟩ : ∃ f, f = l[i].2.1 := ⟨_, rfl⟩
        obtain ⟨t, ht⟩ : ∃ t, t = l[i].2.2.1 := ⟨_, rfl⟩
        obtain ⟨z, hz⟩ : ∃ z, z = l[i].2.2.2.1 := ⟨_, rfl⟩
        rw [← hf, ← ht, ← hz] at h7
        refine S.exit rfl ?_
        refine S.seq (S.seq (S.region rfl ?_))
        refine O.op (.p rfl) (.fieldAddr FactNet14.fld49x0 rfl) ?_
        refine O.op (.p rfl) (.loadAt FactNet14.flat3 rfl h7 rfl) ?_
        refine O.call0 (.p rfl) rfl FactNet14.ok14 rfl rfl ((Pick_c _ _ (by first | assumption | (constructor <;> omega)))) ?_
        rintro v60 _ ⟨rfl, rfl⟩
        try simp only [List.cons_append, List.nil_append, List.append_nil]
        refine O.nil ?_
        refine S.block (S.seq ?_)
        refine S.cut3 (fun (x : NetM × List (KEnt (List UInt8)) × Nat) => OnceI l (i + 1) x.1 x.2.1 ∧ ∀ q, q ≠ (f, t) → atL x.1 q = atL ls q) (fun (x : NetM × List (KEnt (List UInt8)) × Nat) => [(5, .int .i64 (((allP x.1).length : Nat) : Int))]) [(0, _), (3, _), (4, _), (6, _), (7, _), (8, _), (9, _)] (fun (x : NetM × List (KEnt (List UInt8)) × Nat) => [MapK encS b24 x.2.1 x.2.2, linksW b23 x.1]) (.cons rfl (.cons rfl (.cons rfl (.cons rfl (.cons rfl (.cons rfl (.cons rfl (.nil)))))))) (fun key => ?_) (fun x hx => ?_)
        · have hm3 := meltRefl (g := g)
          refine S.region rfl ?_
          refine O.op (.p rfl) (.eql rfl rfl) ?_
          refine O.op (.p rfl) (.as rfl) ?_
          refine O.nil ?_
          first | refine S.condD rfl (fun h95 => ?_) (fun h95 => ?_) | refine S.condB rfl (fun h95 => ?_) (fun h95 => ?_)
          ·
            cases htk : takeOk ls (f, t) z with
            | false =>
              refine S.seq (S.region rfl ?_)
              refine O.op (.p rfl) (.mv rfl) ?_
              refine O.op (.p rfl) (.fieldAddr FactNet14.fld49x1 rfl) ?_
              refine O.op (.p rfl) (.loadAt FactNet14.flat3 rfl (h7.drop 1) rfl) ?_
              refine O.op (.p rfl) (.fieldAddr FactNet14.fld49x2 rfl) ?_
              refine O.op (.p rfl) (.loadAt FactNet14.flat3 rfl (h7.drop 2) rfl) ?_
              refine O.op (.p rfl) (.fieldAddr FactNet14.fld49x3 rfl) ?_
              refine O.op (.p rfl) (.loadAt FactNet14.flat3 rfl (h7.drop 3) rfl) ?_
              refine O.callS (.p rfl) rfl FactNet14.ok5 rfl rfl (by repeat (first | exact Sel.here | apply Sel.there)) (take_no hat htk) ?_
              rintro v105 _ ⟨rfl, rfl⟩
              try simp only [List.cons_append, List.nil_append, List.append_nil]
              refine O.op (.p rfl) (.mv rfl) ?_
              refine O.op (.p rfl) (.extract rfl rfl) ?_
              refine O.op (.p rfl) (.extract rfl rfl) ?_
              refine O.opE (.p rfl) (.alloc (cs := [.int .i64 0, .int .i64 0, .slice none 0 0]) Go.Proofs.Try.zeroValue24 rfl) ?_
              rintro _ _ ⟨b11, rfl, rfl⟩
              refine O.opU rfl (.storeObj (by kernel_rfl) rfl rfl rfl rfl (by repeat (first | exact Sel.here | apply Sel.there)) (by first | (simp; done) | (simp [Value.cells]; done))) ?_
              refine O.op (.p rfl) (.as rfl) ?_
              refine O.nil ?_
              refine S.seq (S.region rfl ?_)
              refine O.op (.p rfl) (.mv rfl) ?_
              refine O.nil ?_
              refine S.condF rfl ?_
              refine S.skip (S.inBlock ?_)
              refine S.pk ?_ (S.weaken ?_ (key ((ls, m, c)) (by exact ⟨hx2.step hi, fun q _ => rfl⟩)))
              · repeat (first | exact Picks.all | exact Picks.nil | (apply Picks.cons; focus (repeat (first | exact Sel.here | apply Sel.there))) | apply Picks.skip)
              repeat (first | exact Sub.nil | refine Sub.cons rfl ?_)
            | true =>
              obtain ⟨j, hzj, hj⟩ := takeOk_yes htk
              have hmem : (atL ls (f, t))[j] ∈ atL ls (f, t) := List.getElem_mem hj
              obtain ⟨hkp, hl6⟩ := hx2.inv.key _ _ hmem
              have hkf : (atL ls (f, t))[j].1 = f := congrArg Prod.fst hkp
              have hkt' : (atL ls (f, t))[j].2.1 = t := congrArg Prod.snd hkp
              have hmem2 := mem_allP hmem
              have hp := allP_take hj
              have hne := fun q (hq : q ≠ (f, t)) => atL_take_ne hx2.inv (j := j) hq
              have o1 := hx2.inv.take hj
              have hcp := cnt_pos hmem2
              have hcl := cnt_le ls (pkey (atL ls (f, t))[j])
              refine S.seq (S.region rfl ?_)
              refine O.op (.p rfl) (.mv rfl) ?_
              refine O.op (.p rfl) (.fieldAddr FactNet14.fld49x1 rfl) ?_
              refine O.op (.p rfl) (.loadAt FactNet14.flat3 rfl (h7.drop 1) rfl) ?_
              refine O.op (.p rfl) (.fieldAddr FactNet14.fld49x2 rfl) ?_
              refine O.op (.p rfl) (.loadAt FactNet14.flat3 rfl (h7.drop 2) rfl) ?_
              refine O.op (.p rfl) (.fieldAddr FactNet14.fld49x3 rfl) ?_
              refine O.op (.p rfl) (.loadAt FactNet14.flat3 rfl (h7.drop 3) rfl) ?_
              refine O.callS (.p rfl) rfl FactNet14.ok5 rfl rfl (by repeat (first | exact Sel.here | apply Sel.there)) (take_yes' hzj hat hj) ?_
              rintro v105 _ ⟨a105, c105, rfl, hi105, hj105, rfl⟩
              try simp only [List.cons_append, List.nil_append, List.append_nil]
              refine O.frzA (by repeat (first | exact Sel.here | apply Sel.there)) fun g hs hm ha105 => ?_
              replace hg := Fr.sub_trans hg hs
              replace hR := melted hR hm
              try replace ha := ha.mono hs
              try replace hat := hat.mono hs
              try replace hat := hat.mono hs
              try replace hp33 := hp33.mono hs
              try replace ha33 := ha33.mono hs
              try replace ha33 := ha33.mono hs
              try replace h7 := h7.mono hs
              try replace ha36 := ha36.mono hs
              try replace hmany := hmany.mono hs
              try replace hmany := hmany.mono hs
              replace hm1 := meltTrans hm1 hm
              replace hm2 := meltTrans hm2 hm
              replace hm3 := meltTrans hm3 hm
              clear hs hm
              refine O.op (.p rfl) (.mv rfl) ?_
              refine O.op (.p rfl) (.extract rfl rfl) ?_
              refine O.op (.p rfl) (.extract rfl rfl) ?_
              refine O.opE (.p rfl) (.alloc (cs := [.int .i64 0, .int .i64 0, .slice none 0 0]) Go.Proofs.Try.zeroValue24 rfl) ?_
              rintro _ _ ⟨b11, rfl, rfl⟩
              refine O.opU rfl (.storeObj (by kernel_rfl) rfl rfl rfl rfl (by repeat (first | exact Sel.here | apply Sel.there)) (by first | (simp; done) | (simp [Value.cells]; done))) ?_
              refine O.op (.p rfl) (.as rfl) ?_
              refine O.nil ?_
              refine S.seq (S.region rfl ?_)
              refine O.op (.p rfl) (.mv rfl) ?_
              refine O.nil ?_
              refine S.condT rfl ?_
              refine S.seq (S.seq ?_)
              refine S.frzO (by repeat (first | exact Sel.here | apply Sel.there)) fun g hs hm h11 => ?_
              replace hg := Fr.sub_trans hg hs
              replace hR := melted hR hm
              try replace ha := ha.mono hs
              try replace hat := hat.mono hs
              try replace hat := hat.mono hs
              try replace hp33 := hp33.mono hs
              try replace ha33 := ha33.mono hs
              try replace ha33 := ha33.mono hs
              try replace h7 := h7.mono hs
              try replace ha36 := ha36.mono hs
              try replace hmany := hmany.mono hs
              try replace hmany := hmany.mono hs
              try replace ha105 := ha105.mono hs
              replace hm1 := meltTrans hm1 hm
              replace hm2 := meltTrans hm2 hm
              replace hm3 := meltTrans hm3 hm
              clear hs hm
              refine S.region rfl ?_
              refine O.op (.p rfl) (.fieldAddr FactNet14.fld24x0 rfl) ?_
              refine O.op (.p rfl) (.loadAt FactNet14.flat3 rfl h11 rfl) ?_
              refine O.op (.p rfl) (.fieldAddr FactNet14.fld49x1 rfl) ?_
              refine O.op (.p rfl) (.loadAt FactNet14.flat3 rfl (h7.drop 1) rfl) ?_
              refine O.op (.p rfl) (.neq rfl rfl) ?_
              refine O.slot 113 (v' := .bool false) rfl (congrArg Value.bool (by simp [hkf])) ?_
              refine O.op (.p rfl) (.mv rfl) ?_
              refine O.op (.g rfl rfl) (.fieldAddr FactNet14.fld24x1 rfl) ?_
              refine O.op (.g rfl rfl) (.loadAt FactNet14.flat3 rfl (h11.drop 1) rfl) ?_
              refine O.op (.g rfl rfl) (.fieldAddr FactNet14.fld49x2 rfl) ?_
              refine O.op (.g rfl rfl) (.loadAt FactNet14.flat3 rfl (h7.drop 2) rfl) ?_
              refine O.op (.g rfl rfl) (.neq rfl rfl) ?_
              refine O.slot 119 (v' := .bool false) rfl (congrArg Value.bool (by simp [hkt'])) ?_
              refine O.op (.p rfl) (.pickF rfl rfl) ?_
              refine O.op (.p rfl) (.mv rfl) ?_
              refine O.op (.g rfl rfl) (.mv rfl) ?_
              refine O.op (.g rfl rfl) (.loadAgg Go.Proofs.Try.isAgg24 (by kernel_rfl) rfl h11) ?_
              refine O.call0 (.g rfl rfl) rfl FactNet14.ok15 rfl rfl ((key_c ha105 (by omega))) ?_
              rintro v124 _ ⟨rfl, rfl⟩
              try simp only [List.cons_append, List.nil_append, List.append_nil]
              refine O.op (.g rfl rfl) (.lookupK Go.Proofs.Try.underlying46 (keyOkS Go.Proofs.Try.underlying9) Go.Proofs.Try.zeroValue3 rfl rfl (by repeat (first | exact Sel.here | apply Sel.there))) ?_
              refine O.slot 125 (v' := .int .i64 (cnt ls (pkey (atL ls (f, t))[j]))) rfl (by exact hx2.times _) ?_
              refine O.op (.g rfl rfl) (.lss rfl rfl) ?_
              refine O.slot 126 (v' := .bool false) rfl (congrArg Value.bool (by exact decide_eq_false (by omega))) ?_
              refine O.op (.p rfl) (.pickF rfl rfl) ?_
              refine O.nil ?_
              refine S.condF rfl ?_
              refine S.skip (S.seq (S.regionD (L := [0, 1, 3, 4, 2, 5, 6, 7, 8]) FactNet14.mixed (by kernel_rfl) ?_))
              refine .quiet (.p rfl) rfl (fun _ => .mv rfl) ?_
              refine .quiet (.p rfl) rfl (fun _ => .loadAgg Go.Proofs.Try.isAgg24 (by kernel_rfl) rfl h11) ?_
              refine .quiet (.p rfl) rfl (fun _ => .mv rfl) ?_
              refine .quiet (.p rfl) rfl (fun _ => .loadAgg Go.Proofs.Try.isAgg24 (by kernel_rfl) rfl h11) ?_
              refine OD.call0 (.p rfl) (by kernel_rfl) rfl FactNet14.ok15 rfl rfl ((key_c ha105 (by omega))) ?_
              rintro v130 _ ⟨rfl, rfl⟩
              try simp only [List.cons_append, List.nil_append, List.append_nil]
              refine OD.call0 (.p rfl) (by kernel_rfl) rfl FactNet14.ok15 rfl rfl ((key_c ha105 (by omega))) ?_
              rintro v133 _ ⟨rfl, rfl⟩
              try simp only [List.cons_append, List.nil_append, List.append_nil]
              refine OD.doesL (.p rfl) rfl (by kernel_rfl) (fun _ => .lookupK Go.Proofs.Try.underlying46 (keyOkS Go.Proofs.Try.underlying9) Go.Proofs.Try.zeroValue3 rfl rfl (by repeat (first | exact Sel.here | apply Sel.there))) ?_
              refine OD.slot 134 (v' := .int .i64 (cnt ls (pkey (atL ls (f, t))[j]))) rfl (by exact hx2.times _) ?_
              refine .quiet (.p rfl) rfl (fun _ => .sub rfl rfl (IntWalk.i64_in _ (by omega))) ?_
              refine OD.mapUpdateK rfl (by kernel_rfl) Go.Proofs.Try.underlying46 (keyOkS Go.Proofs.Try.underlying9) rfl rfl rfl (by repeat (first | exact Sel.here | apply Sel.there)) ?_
              refine .nil ?_
              refine S.region rfl ?_
              refine O.op (.p rfl) (.mv rfl) ?_
              refine O.op (.p rfl) (.sub rfl rfl (IntWalk.i64_in _ (by omega))) ?_
              refine O.op (.p rfl) (.as rfl) ?_
              refine O.nil ?_
              refine S.inBlock ?_
              refine S.slot 5 (v' := .int .i64 (((allP (takeL ls (f, t) j)).length : Nat) : Int)) rfl (by have := hp.length_eq; rw [List.length_cons] at this; exact congrArg _ (by omega)) ?_
              refine S.pk ?_ (S.melt hm3 (S.weaken ?_ (key ((takeL ls (f, t) j, putK m c (pkey (atL ls (f, t))[j]) (.int .i64 (cnt ls (pkey (atL ls (f, t))[j]) - 1)), clkK m c (pkey (atL ls (f, t))[j]))) (by exact ⟨(hx2.less hp o1 c).step hi, hne⟩))))
              · repeat (first | exact Picks.all | exact Picks.nil | (apply Picks.cons; focus (repeat (first | exact Sel.here | apply Sel.there))) | apply Picks.skip)
              repeat (first | exact Sub.nil | refine Sub.cons rfl ?_)
          · refine S.seq (S.region rfl ?_)
            refine O.op (.p rfl) (.eql rfl rfl) ?_
            refine O.op (.p rfl) (.as rfl) ?_
            refine O.nil ?_
            first | refine S.condD rfl (fun h138 => ?_) (fun h138 => ?_) | refine S.condB rfl (fun h138 => ?_) (fun h138 => ?_)
            ·
              cases htk : takeOk ls (f, t) z with
              | false =>
                refine S.seq (S.region rfl ?_)
                refine O.op (.p rfl) (.mv rfl) ?_
                refine O.op (.p rfl) (.fieldAddr FactNet14.fld49x1 rfl) ?_
                refine O.op (.p rfl) (.loadAt FactNet14.flat3 rfl (h7.drop 1) rfl) ?_
                refine O.op (.p rfl) (.fieldAddr FactNet14.fld49x2 rfl) ?_
                refine O.op (.p rfl) (.loadAt FactNet14.flat3 rfl (h7.drop 2) rfl) ?_
                refine O.op (.p rfl) (.fieldAddr FactNet14.fld49x3 rfl) ?_
                refine O.op (.p rfl) (.loadAt FactNet14.flat3 rfl (h7.drop 3) rfl) ?_
                refine O.callS (.p rfl) rfl FactNet14.ok8 rfl rfl (by repeat (first | exact Sel.here | apply Sel.there)) (twice_no hat htk) ?_
                rintro v147 _ ⟨rfl, rfl⟩
                try simp only [List.cons_append, List.nil_append, List.append_nil]
                refine O.nil ?_
                refine S.condF rfl ?_
                refine S.skip (S.inBlock ?_)
                refine S.pk ?_ (S.weaken ?_ (key ((ls, m, c)) (by exact ⟨hx2.step hi, fun q _ => rfl⟩)))
                · repeat (first | exact Picks.all | exact Picks.nil | (apply Picks.cons; focus (repeat (first | exact Sel.here | apply Sel.there))) | apply Picks.skip)
                repeat (first | exact Sub.nil | refine Sub.cons rfl ?_)
              | true =>
                obtain ⟨j, hzj, hj⟩ := takeOk_yes htk
                have hmem : (atL ls (f, t))[j] ∈ atL ls (f, t) := List.getElem_mem hj
                obtain ⟨hkp, hl6⟩ := hx2.inv.key _ _ hmem
                have hcp := cnt_pos (mem_allP hmem)
                have hTw := fun hf => TwiceI.of hx2.inv hkp rfl hf hl6
                have htwc := fun rr (hh : At rr ⟨d23, 0, none⟩ [.map (some b23)]) => twice_yes' (ls := ls) hzj hh hj hl6
                generalize (atL ls (f, t))[j] = p at hkp hl6 hcp hTw htwc
                have hcl := cnt_le ls (pkey p)
                have hn64 : (atL ls (f, t)).length ≤ 400 := by have := OnceI.len_at (ls := ls) (f, t); omega
                cases hfl : fullL ls p with
                | true =>
                  have e : sendL ls p = ls := by rw [sendL, hfl]; rfl
                  refine S.seq (S.region rfl ?_)
                  refine O.op (.p rfl) (.mv rfl) ?_
                  refine O.op (.p rfl) (.fieldAddr FactNet14.fld49x1 rfl) ?_
                  refine O.op (.p rfl) (.loadAt FactNet14.flat3 rfl (h7.drop 1) rfl) ?_
                  refine O.op (.p rfl) (.fieldAddr FactNet14.fld49x2 rfl) ?_
                  refine O.op (.p rfl) (.loadAt FactNet14.flat3 rfl (h7.drop 2) rfl) ?_
                  refine O.op (.p rfl) (.fieldAddr FactNet14.fld49x3 rfl) ?_
                  refine O.op (.p rfl) (.loadAt FactNet14.flat3 rfl (h7.drop 3) rfl) ?_
                  refine O.callS (.p rfl) rfl FactNet14.ok8 rfl rfl (by repeat (first | exact Sel.here | apply Sel.there)) (htwc _ hat) ?_
                  rintro v147 _ ⟨rfl, rfl⟩
                  try simp only [List.cons_append, List.nil_append, List.append_nil]
                  rw [e, hfl]
                  refine O.nil ?_
                  refine S.condF rfl ?_
                  refine S.skip (S.inBlock ?_)
                  refine S.pk ?_ (S.weaken ?_ (key ((ls, m, c)) (by exact ⟨hx2.step hi, fun q _ => rfl⟩)))
                  · repeat (first | exact Picks.all | exact Picks.nil | (apply Picks.cons; focus (repeat (first | exact Sel.here | apply Sel.there))) | apply Picks.skip)
                  repeat (first | exact Sub.nil | refine Sub.cons rfl ?_)
                | false =>
                  have T := hTw hfl
                  refine S.seq (S.region rfl ?_)
                  refine O.op (.p rfl) (.mv rfl) ?_
                  refine O.op (.p rfl) (.fieldAddr FactNet14.fld49x1 rfl) ?_
                  refine O.op (.p rfl) (.loadAt FactNet14.flat3 rfl (h7.drop 1) rfl) ?_
                  refine O.op (.p rfl) (.fieldAddr FactNet14.fld49x2 rfl) ?_
                  refine O.op (.p rfl) (.loadAt FactNet14.flat3 rfl (h7.drop 2) rfl) ?_
                  refine O.op (.p rfl) (.fieldAddr FactNet14.fld49x3 rfl) ?_
                  refine O.op (.p rfl) (.loadAt FactNet14.flat3 rfl (h7.drop 3) rfl) ?_
                  refine O.callS (.p rfl) rfl FactNet14.ok8 rfl rfl (by repeat (first | exact Sel.here | apply Sel.there)) (htwc _ hat) ?_
                  rintro v147 _ ⟨rfl, rfl⟩
                  try simp only [List.cons_append, List.nil_append, List.append_nil]
                  rw [hfl]
                  refine O.nil ?_
                  refine S.condT rfl ?_
                  refine S.seq (S.regionD (L := [0, 1, 2, 3, 4, 5, 6, 7, 8, 9, 10, 11, 12, 13, 14, 15, 16, 17, 18]) FactNet14.mixed (by kernel_rfl) ?_)
                  refine .quiet (.p rfl) rfl (fun _ => .mv rfl) ?_
                  refine .quiet (.p rfl) rfl (fun _ => .fieldAddr FactNet14.fld49x1 rfl) ?_
                  refine .quiet (.p rfl) rfl (fun _ => .loadAt FactNet14.flat3 rfl (h7.drop 1) rfl) ?_
                  refine .quiet (.p rfl) rfl (fun _ => .fieldAddr FactNet14.fld49x2 rfl) ?_
                  refine .quiet (.p rfl) rfl (fun _ => .loadAt FactNet14.flat3 rfl (h7.drop 2) rfl) ?_
                  refine .quiet (.p rfl) rfl (fun _ => .mv rfl) ?_
                  refine .quiet (.p rfl) rfl (fun _ => .fieldAddr FactNet14.fld49x1 rfl) ?_
                  refine .quiet (.p rfl) rfl (fun _ => .loadAt FactNet14.flat3 rfl (h7.drop 1) rfl) ?_
                  refine .quiet (.p rfl) rfl (fun _ => .fieldAddr FactNet14.fld49x2 rfl) ?_
                  refine .quiet (.p rfl) rfl (fun _ => .loadAt FactNet14.flat3 rfl (h7.drop 2) rfl) ?_
                  refine OD.callS (.p rfl) (by kernel_rfl) rfl FactNet14.ok10 rfl rfl (by repeat (first | exact Sel.here | apply Sel.there)) (many_g hat) ?_
                  rintro v159 _ ⟨rfl, rfl⟩
                  try simp only [List.cons_append, List.nil_append, List.append_nil]
                  rw [T.len1]
                  refine .quiet (.p rfl) rfl (fun _ => .sub rfl rfl (IntWalk.i64_in _ (by omega))) ?_
                  refine OD.callS (.p rfl) (by kernel_rfl) rfl FactNet14.ok5 rfl rfl (by repeat (first | exact Sel.here | apply Sel.there)) (take_at (i := (atL ls (f, t)).length) (by omega) hat T.at1) ?_
                  rintro v161 _ ⟨a161, c161, rfl, hi161, hj161, rfl⟩
                  try simp only [List.cons_append, List.nil_append, List.append_nil]
                  refine .quiet (.p rfl) rfl (fun _ => .mv rfl) ?_
                  refine .quiet (.p rfl) rfl (fun _ => .extract rfl rfl) ?_
                  refine .quiet (.p rfl) rfl (fun _ => .extract rfl rfl) ?_
                  refine .lazy rfl (by kernel_rfl) rfl fun b13 => ?_
                  refine OD.storeObj rfl (by kernel_rfl) (by kernel_rfl) rfl rfl rfl rfl (by repeat (first | exact Sel.here | apply Sel.there)) (by first | (simp; done) | (simp [Value.cells]; done)) ?_
                  refine .quiet (.p rfl) rfl (fun _ => .as rfl) ?_
                  refine .nil ?_
                  refine S.seq (S.seq ?_)
                  refine S.frzA (by repeat (first | exact Sel.here | apply Sel.there)) fun g hs hm ha161 => ?_
                  replace hg := Fr.sub_trans hg hs
                  replace hR := melted hR hm
                  try replace ha := ha.mono hs
                  try replace hat := hat.mono hs
                  try replace hat := hat.mono hs
                  try replace hp33 := hp33.mono hs
                  try replace ha33 := ha33.mono hs
                  try replace ha33 := ha33.mono hs
                  try replace h7 := h7.mono hs
                  try replace ha36 := ha36.mono hs
                  try replace hmany := hmany.mono hs
                  try replace hmany := hmany.mono hs
                  replace hm1 := meltTrans hm1 hm
                  replace hm2 := meltTrans hm2 hm
                  replace hm3 := meltTrans hm3 hm
                  clear hs hm
                  refine S.frzO (by repeat (first | exact Sel.here | apply Sel.there)) fun g hs hm h13 => ?_
                  replace hg := Fr.sub_trans hg hs
                  replace hR := melted hR hm
                  try replace ha := ha.mono hs
                  try replace hat := hat.mono hs
                  try replace hat := hat.mono hs
                  try replace hp33 := hp33.mono hs
                  try replace ha33 := ha33.mono hs
                  try replace ha33 := ha33.mono hs
                  try replace h7 := h7.mono hs
                  try replace ha36 := ha36.mono hs
                  try replace hmany := hmany.mono hs
                  try replace hmany := hmany.mono hs
                  try replace ha161 := ha161.mono hs
                  replace hm1 := meltTrans hm1 hm
                  replace hm2 := meltTrans hm2 hm
                  replace hm3 := meltTrans hm3 hm
                  clear hs hm
                  refine S.region rfl ?_
                  refine O.op (.p rfl) (.mv rfl) ?_
                  refine O.op (.p rfl) (.not rfl) ?_
                  refine O.op (.p rfl) (.mv rfl) ?_
                  refine O.op (.g rfl rfl) (.mv rfl) ?_
                  refine O.op (.g rfl rfl) (.loadAgg Go.Proofs.Try.isAgg24 (by kernel_rfl) rfl h13) ?_
                  refine O.call0 (.g rfl rfl) rfl FactNet14.ok15 rfl rfl ((key_c ha161 (by omega))) ?_
                  rintro v169 _ ⟨rfl, rfl⟩
                  try simp only [List.cons_append, List.nil_append, List.append_nil]
                  refine O.op (.g rfl rfl) (.lookupK Go.Proofs.Try.underlying46 (keyOkS Go.Proofs.Try.underlying9) Go.Proofs.Try.zeroValue3 rfl rfl (by repeat (first | exact Sel.here | apply Sel.there))) ?_
                  refine O.slot 170 (v' := .int .i64 (cnt ls (pkey p))) rfl (by exact hx2.times _) ?_
                  refine O.op (.g rfl rfl) (.lss rfl rfl) ?_
                  refine O.slot 171 (v' := .bool false) rfl (congrArg Value.bool (by exact decide_eq_false (by omega))) ?_
                  refine O.op (.p rfl) (.pickF rfl rfl) ?_
                  refine O.op (.p rfl) (.mv rfl) ?_
                  refine O.op (.g rfl rfl) (.mv rfl) ?_
                  refine O.op (.g rfl rfl) (.loadAgg Go.Proofs.Try.isAgg24 (by kernel_rfl) rfl h13) ?_
                  refine O.opE (.g rfl rfl) (.litP (T := (Rp.cells 3)) (ys := [_]) Go.Proofs.Try.underlying47 FactNet14.elem24 (by decide) rfl rfl ⟨⟨rfl, rfl, by first | (simp; done) | (intro v hv; simp [Value.cells] at hv; rcases hv with rfl | rfl <;> rfl) | (refine List.forall_mem_cons.2 ⟨rfl, ?_⟩; repeat (first | exact (fun _ h => absurd h List.not_mem_nil) | refine List.forall_mem_cons.2 ⟨rfl, ?_⟩))⟩, trivial⟩ (by decide)) ?_
                  rintro _ _ ⟨a176, c176, rfl, rfl⟩
                  refine O.frzA (by repeat (first | exact Sel.here | apply Sel.there)) fun g hs hm ha176 => ?_
                  replace hg := Fr.sub_trans hg hs
                  replace hR := melted hR hm
                  try replace ha := ha.mono hs
                  try replace hat := hat.mono hs
                  try replace hat := hat.mono hs
                  try replace hp33 := hp33.mono hs
                  try replace ha33 := ha33.mono hs
                  try replace ha33 := ha33.mono hs
                  try replace h7 := h7.mono hs
                  try replace ha36 := ha36.mono hs
                  try replace hmany := hmany.mono hs
                  try replace hmany := hmany.mono hs
                  try replace ha161 := ha161.mono hs
                  try replace h13 := h13.mono hs
                  replace hm1 := meltTrans hm1 hm
                  replace hm2 := meltTrans hm2 hm
                  replace hm3 := meltTrans hm3 hm
                  clear hs hm
                  refine O.callS (.g rfl rfl) rfl FactNet14.ok7 rfl rfl (by repeat (first | exact Sel.here | apply Sel.there)) (send_g (ps := [p]) hat (Arr.ofCells ha176 ⟨PktRp.mk hi161 hj161 ha161, trivial⟩ rfl)) ?_
                  rintro v177 _ ⟨rfl, rfl⟩
                  try simp only [List.cons_append, List.nil_append, List.append_nil]
                  rw [sendE1 hl6, sendM1 hl6, T.full3]
                  refine O.op (.g rfl rfl) (.neq rfl rfl) ?_
                  refine O.slot 178 (v' := .bool false) rfl (congrArg Value.bool (by rfl)) ?_
                  refine O.op (.p rfl) (.pickF rfl rfl) ?_
                  refine O.nil ?_
                  refine S.condF rfl ?_
                  refine S.skip (S.seq (S.regionD (L := [0, 1, 3, 4, 2, 5, 6, 7, 8]) FactNet14.mixed (by kernel_rfl) ?_))
                  refine .quiet (.p rfl) rfl (fun _ => .mv rfl) ?_
                  refine .quiet (.p rfl) rfl (fun _ => .loadAgg Go.Proofs.Try.isAgg24 (by kernel_rfl) rfl h13) ?_
                  refine .quiet (.p rfl) rfl (fun _ => .mv rfl) ?_
                  refine .quiet (.p rfl) rfl (fun _ => .loadAgg Go.Proofs.Try.isAgg24 (by kernel_rfl) rfl h13) ?_
                  refine OD.call0 (.p rfl) (by kernel_rfl) rfl FactNet14.ok15 rfl rfl ((key_c ha161 (by omega))) ?_
                  rintro v182 _ ⟨rfl, rfl⟩
                  try simp only [List.cons_append, List.nil_append, List.append_nil]
                  refine OD.call0 (.p rfl) (by kernel_rfl) rfl FactNet14.ok15 rfl rfl ((key_c ha161 (by omega))) ?_
                  rintro v185 _ ⟨rfl, rfl⟩
                  try simp only [List.cons_append, List.nil_append, List.append_nil]
                  refine OD.doesL (.p rfl) rfl (by kernel_rfl) (fun _ => .lookupK Go.Proofs.Try.underlying46 (keyOkS Go.Proofs.Try.underlying9) Go.Proofs.Try.zeroValue3 rfl rfl (by repeat (first | exact Sel.here | apply Sel.there))) ?_
                  refine OD.slot 186 (v' := .int .i64 (cnt ls (pkey p))) rfl (by exact hx2.times _) ?_
                  refine .quiet (.p rfl) rfl (fun _ => .add rfl rfl (IntWalk.i64_in _ (by omega))) ?_
                  refine OD.mapUpdateK rfl (by kernel_rfl) Go.Proofs.Try.underlying46 (keyOkS Go.Proofs.Try.underlying9) rfl rfl rfl (by repeat (first | exact Sel.here | apply Sel.there)) ?_
                  refine .nil ?_
                  refine S.region rfl ?_
                  refine O.op (.p rfl) (.mv rfl) ?_
                  refine O.op (.p rfl) (.add rfl rfl (IntWalk.i64_in _ (by omega))) ?_
                  refine O.op (.p rfl) (.as rfl) ?_
                  refine O.nil ?_
                  refine S.inBlock ?_
                  refine S.slot 5 (v' := .int .i64 (((allP (sendL (takeL (sendL ls p) (f, t) (atL ls (f, t)).length) p)).length : Nat) : Int)) rfl (by have := T.perm3.length_eq; rw [List.length_cons] at this; exact congrArg _ (by omega)) ?_
                  refine S.pk ?_ (S.melt hm3 (S.weaken ?_ (key ((sendL (takeL (sendL ls p) (f, t) (atL ls (f, t)).length) p, putK m c (pkey p) (.int .i64 (cnt ls (pkey p) + 1)), clkK m c (pkey p))) (by exact ⟨hx2.twice hi T.perm3 T.inv3 c, T.ne3⟩))))
                  · repeat (first | exact Picks.all | exact Picks.nil | (apply Picks.cons; focus (repeat (first | exact Sel.here | apply Sel.there))) | apply Picks.skip)
                  repeat (first | exact Sub.nil | refine Sub.cons rfl ?_)
            · have ihO := ih
              have hpkt : ∀ p ∈ l[i].2.2.2.2.1, p.2.2.1.length ≤ 140737488351232 := (hs.2 l[i] (List.getElem_mem hi)).2
              have hLl : l[i].2.2.2.2.1.length ≤ 400 := by have h1 := wL_take l (i + 1); rw [hw20, wL_snoc, wD] at h1; unfold SmallD at hsm; simp only [DoT.L] at h1; omega
              refine S.seq (S.seq (S.region rfl ?_))
              refine O.op (.p rfl) (.as rfl) ?_
              refine O.nil ?_
              refine S.block ?_
              refine S.pk (ζ := [MapK encS b24 m c, linksW b23 ls]) (by repeat (first | exact Picks.all | exact Picks.nil | (apply Picks.cons; focus (repeat (first | exact Sel.here | apply Sel.there))) | apply Picks.skip)) ?_
              refine S.loopK4 (ι := Nat) (κ := NetM) (υ := List (KEnt (List UInt8))) (τ := Nat) (fun k ls2 m2 c2 => k ≤ l[i].2.2.2.2.1.length ∧ SendI l i k ls2 m2) (fun k ls2 m2 c2 => [(15, .int .i64 (k : Int)), (5, .int .i64 (((allP ls2).length : Nat) : Int))]) [(0, _), (3, _), (4, _), (6, _), (7, _)] (fun k ls2 m2 c2 => [MapK encS b24 m2 c2, linksW b23 ls2]) (fun k ls2 m2 c2 => l[i].2.2.2.2.1.length - k) (0) (ls) (m) (c) (by exact ⟨Nat.zero_le _, hx2.send0⟩) (.cons rfl (.cons rfl (.nil))) (.cons rfl (.cons rfl (.cons rfl (.cons rfl (.cons rfl (.nil)))))) rfl fun k ls2 m2 c2 hx ih => ?_
              have hm4 := meltRefl (g := g)
              obtain ⟨hy1, hy2⟩ := hx
              obtain ⟨hsy1, hsy2⟩ := hy2.small hi (by exact hy1) hsm
              refine S.seq (S.seq (S.region rfl ?_))
              refine O.op (.p rfl) (.mv rfl) ?_
              refine O.op (.p rfl) (.fieldAddr FactNet14.fld49x4 rfl) ?_
              refine O.op (.p rfl) (.loadAt FactNet14.flat47 rfl (h7.drop 4) rfl) ?_
              refine O.op (.p rfl) (.len rfl Go.Proofs.Try.underlying47 rfl) ?_
              refine O.op (.p rfl) (.lss rfl rfl) ?_
              refine O.slot 65 (v' := .bool (decide (k < l[i].2.2.2.2.1.length))) rfl (by exact congrArg _ (decide_eq_decide.2 (by omega))) ?_
              refine O.nil ?_
              first | refine S.condD rfl (fun h65 => ?_) (fun h65 => ?_) | refine S.condB rfl (fun h65 => ?_) (fun h65 => ?_)
              · have hk : k < l[i].2.2.2.2.1.length := by simpa using h65
                have hpl := hpkt l[i].2.2.2.2.1[k] (List.getElem_mem hk)
                have hcl := cnt_le ls2 (pkey l[i].2.2.2.2.1[k])
                refine S.skip (S.seq (S.block (S.seq (S.region rfl ?_))))
                refine O.op (.p rfl) (.mv rfl) ?_
                refine O.op (.p rfl) (.fieldAddr FactNet14.fld49x4 rfl) ?_
                refine O.op (.p rfl) (.loadAt FactNet14.flat47 rfl (h7.drop 4) rfl) ?_
                refine O.op (.p rfl) (.mv rfl) ?_
                refine O.idx' (.p rfl) Go.Proofs.Try.underlying47 FactNet14.size24 rfl rfl rfl (by first | assumption | exact Arr.mono hg (by assumption) | exact Arr.left (by assumption) | exact Arr.left (Arr.mono hg (by assumption))) (by decide) (by first | omega | (simp; done) | (simp; omega) | decide) (fun p72 cs72 hp72 hr72 => ?_)
                obtain ⟨v72, rfl, hi72, hj72, ha72⟩ := PktRp.open hr72; obtain ⟨a72, c72, rfl⟩ := ha72.shape
                refine O.op (.p rfl) (.loadAgg Go.Proofs.Try.isAgg24 (by kernel_rfl) rfl hp72) ?_
                refine O.opE (.p rfl) (.litP (T := (Rp.cells 3)) (ys := [_]) Go.Proofs.Try.underlying47 FactNet14.elem24 (by decide) rfl rfl ⟨⟨rfl, rfl, by first | (simp; done) | (intro v hv; simp [Value.cells] at hv; rcases hv with rfl | rfl <;> rfl) | (refine List.forall_mem_cons.2 ⟨rfl, ?_⟩; repeat (first | exact (fun _ h => absurd h List.not_mem_nil) | refine List.forall_mem_cons.2 ⟨rfl, ?_⟩))⟩, trivial⟩ (by decide)) ?_
                rintro _ _ ⟨a74, c74, rfl, rfl⟩
                refine O.frzA (by repeat (first | exact Sel.here | apply Sel.there)) fun g hs hm ha74 => ?_
                replace hg := Fr.sub_trans hg hs
                replace hR := melted hR hm
                try replace ha := ha.mono hs
                try replace hat := hat.mono hs
                try replace hat := hat.mono hs
                try replace hp33 := hp33.mono hs
                try replace ha33 := ha33.mono hs
                try replace ha33 := ha33.mono hs
                try replace h7 := h7.mono hs
                try replace ha36 := ha36.mono hs
                try replace hmany := hmany.mono hs
                try replace hmany := hmany.mono hs
                try replace hp72 := hp72.mono hs
                try replace ha72 := ha72.mono hs
                replace hm1 := meltTrans hm1 hm
                replace hm2 := meltTrans hm2 hm
                replace hm3 := meltTrans hm3 hm
                replace hm4 := meltTrans hm4 hm
                clear hs hm
                refine O.callS (.p rfl) rfl FactNet14.ok7 rfl rfl (by repeat (first | exact Sel.here | apply Sel.there)) (send_g (ps := [l[i].2.2.2.2.1[k]]) hat (Arr.ofCells ha74 ⟨PktRp.mk hi72 hj72 ha72, trivial⟩ rfl)) ?_
                rintro v75 _ ⟨rfl, rfl⟩
                try simp only [List.cons_append, List.nil_append, List.append_nil]
                refine O.op (.p rfl) (.eql rfl rfl) ?_
                refine O.nil ?_
                first | refine S.condD rfl (fun h76 => ?_) (fun h76 => ?_) | refine S.condB rfl (fun h76 => ?_) (fun h76 => ?_)
                · have h0 : sendE ls2 [l[i].2.2.2.2.1[k]] = 0 := by simpa using h76
                  obtain ⟨hl6, hfl⟩ := sendE0 h0
                  rw [sendM1 hl6]
                  refine S.seq (S.regionD (L := [0, 1, 2, 3, 4, 5, 7, 8, 9, 10, 11, 12, 6, 13, 14, 15, 16]) FactNet14.mixed (by kernel_rfl) ?_)
                  refine .quiet (.p rfl) rfl (fun _ => .mv rfl) ?_
                  refine .quiet (.p rfl) rfl (fun _ => .fieldAddr FactNet14.fld49x4 rfl) ?_
                  refine .quiet (.p rfl) rfl (fun _ => .loadAt FactNet14.flat47 rfl (h7.drop 4) rfl) ?_
                  refine .quiet (.p rfl) rfl (fun _ => .mv rfl) ?_
                  refine OD.idx' (.p rfl) Go.Proofs.Try.underlying47 FactNet14.size24 rfl rfl rfl (by first | assumption | exact Arr.mono hg (by assumption) | exact Arr.left (by assumption) | exact Arr.left (Arr.mono hg (by assumption))) (by decide) (by first | omega | (simp; done) | (simp; omega) | decide) (fun p81 cs81 hp81 hr81 => ?_)
                  obtain ⟨v81, rfl, hi81, hj81, ha81⟩ := PktRp.open hr81; obtain ⟨a81, c81, rfl⟩ := ha81.shape
                  refine .quiet (.p rfl) rfl (fun _ => .loadAgg Go.Proofs.Try.isAgg24 (by kernel_rfl) rfl hp81) ?_
                  refine .quiet (.p rfl) rfl (fun _ => .mv rfl) ?_
                  refine .quiet (.p rfl) rfl (fun _ => .fieldAddr FactNet14.fld49x4 rfl) ?_
                  refine .quiet (.p rfl) rfl (fun _ => .loadAt FactNet14.flat47 rfl (h7.drop 4) rfl) ?_
                  refine .quiet (.p rfl) rfl (fun _ => .mv rfl) ?_
                  refine OD.idx' (.p rfl) Go.Proofs.Try.underlying47 FactNet14.size24 rfl rfl rfl (by first | assumption | exact Arr.mono hg (by assumption) | exact Arr.left (by assumption) | exact Arr.left (Arr.mono hg (by assumption))) (by decide) (by first | omega | (simp; done) | (simp; omega) | decide) (fun p88 cs88 hp88 hr88 => ?_)
                  obtain ⟨v88, rfl, hi88, hj88, ha88⟩ := PktRp.open hr88; obtain ⟨a88, c88, rfl⟩ := ha88.shape
                  refine .quiet (.p rfl) rfl (fun _ => .loadAgg Go.Proofs.Try.isAgg24 (by kernel_rfl) rfl hp88) ?_
                  refine OD.call0 (.p rfl) (by kernel_rfl) rfl FactNet14.ok15 rfl rfl ((key_c ha81 (by omega))) ?_
                  rintro v83 _ ⟨rfl, rfl⟩
                  try simp only [List.cons_append, List.nil_append, List.append_nil]
                  refine OD.call0 (.p rfl) (by kernel_rfl) rfl FactNet14.ok15 rfl rfl ((key_c ha88 (by omega))) ?_
                  rintro v90 _ ⟨rfl, rfl⟩
                  try simp only [List.cons_append, List.nil_append, List.append_nil]
                  refine OD.doesL (.p rfl) rfl (by kernel_rfl) (fun _ => .lookupK Go.Proofs.Try.underlying46 (keyOkS Go.Proofs.Try.underlying9) Go.Proofs.Try.zeroValue3 rfl rfl (by repeat (first | exact Sel.here | apply Sel.there))) ?_
                  refine OD.slot 91 (v' := .int .i64 (cnt ls2 (pkey l[i].2.2.2.2.1[k]))) rfl (by exact hy2.times _) ?_
                  refine .quiet (.p rfl) rfl (fun _ => .add rfl rfl (IntWalk.i64_in _ (by omega))) ?_
                  refine OD.mapUpdateK rfl (by kernel_rfl) Go.Proofs.Try.underlying46 (keyOkS Go.Proofs.Try.underlying9) rfl rfl rfl (by repeat (first | exact Sel.here | apply Sel.there)) ?_
                  refine .nil ?_
                  refine S.region rfl ?_
                  refine O.op (.p rfl) (.mv rfl) ?_
                  refine O.op (.p rfl) (.add rfl rfl (IntWalk.i64_in _ (by omega))) ?_
                  refine O.op (.p rfl) (.as rfl) ?_
                  refine O.nil ?_
                  refine S.inBlock (S.region rfl ?_)
                  refine O.op (.p rfl) (.mv rfl) ?_
                  refine O.op (.p rfl) (.add rfl rfl (IntWalk.i64_in _ (by omega))) ?_
                  refine O.op (.p rfl) (.as rfl) ?_
                  refine O.nil ?_
                  refine S.slot 5 (v' := .int .i64 (((allP (sendL ls2 l[i].2.2.2.2.1[k])).length : Nat) : Int)) rfl (by have := (allP_send hfl).length_eq; rw [List.length_cons] at this; exact congrArg _ (by omega)) ?_
                  refine S.pk ?_ (S.melt hm4 (S.weaken ?_ (ih (k + 1) (sendL ls2 l[i].2.2.2.2.1[k]) (putK m2 c2 (pkey l[i].2.2.2.2.1[k]) (.int .i64 (cnt ls2 (pkey l[i].2.2.2.2.1[k]) + 1))) (clkK m2 c2 (pkey l[i].2.2.2.2.1[k])) (by exact ⟨by omega, hy2.one hfl hl6 c2⟩) (by omega))))
                  · repeat (first | exact Picks.all | exact Picks.nil | (apply Picks.cons; focus (repeat (first | exact Sel.here | apply Sel.there))) | apply Picks.skip)
                  repeat (first | exact Sub.nil | refine Sub.cons rfl ?_)
                · have h0 : sendE ls2 [l[i].2.2.2.2.1[k]] ≠ 0 := by simpa using h76
                  rw [sendEN h0]
                  refine S.skip (S.inBlock (S.region rfl ?_))
                  refine O.op (.p rfl) (.mv rfl) ?_
                  refine O.op (.p rfl) (.add rfl rfl (IntWalk.i64_in _ (by omega))) ?_
                  refine O.op (.p rfl) (.as rfl) ?_
                  refine O.nil ?_
                  refine S.pk ?_ (S.melt hm4 (S.weaken ?_ (ih (k + 1) (ls2) (m2) (c2) (by exact ⟨by omega, hy2.none⟩) (by omega))))
                  · repeat (first | exact Picks.all | exact Picks.nil | (apply Picks.cons; focus (repeat (first | exact Sel.here | apply Sel.there))) | apply Picks.skip)
                  repeat (first | exact Sub.nil | refine Sub.cons rfl ?_)
              · have hk : k = l[i].2.2.2.2.1.length := by omega
                clear ih
                have ih := ihO
                refine S.exit rfl ?_
                refine S.exit rfl ?_
                refine S.region rfl ?_
                refine O.op (.p rfl) (.mv rfl) ?_
                refine O.op (.p rfl) (.add rfl rfl (IntWalk.i64_in _ (by omega))) ?_
                refine O.op (.p rfl) (.as rfl) ?_
                refine O.nil ?_
                refine S.pk ?_ (S.melt hm1 (S.weaken ?_ (ih (i + 1) (ls2) (m2) (c2) (by exact ⟨by omega, hy2.done hi hk⟩) (by omega))))
                · repeat (first | exact Picks.all | exact Picks.nil | (apply Picks.cons; focus (repeat (first | exact Sel.here | apply Sel.there))) | apply Picks.skip)
                repeat (first | exact Sub.nil | refine Sub.cons rfl ?_)
        · obtain ⟨ls2, m2, c2⟩ := x
          obtain ⟨ho, hne⟩ := hx
          simp only at ho hne
          have ihO := ih
          refine S.seq (S.region rfl ?_)
          refine O.op (.p rfl) (.as rfl) ?_
          refine O.nil ?_
          refine S.block ?_
          refine S.loopK (ι := Nat) (fun k => k ≤ (linksS ls).length) (fun k => [(16, .int .i64 (k : Int))]) [(0, _), (3, _), (4, _), (5, _), (6, _), (7, _), (8, _), (9, _)] (fun k => [MapK encS b24 m2 c2, linksW b23 ls2]) (fun k => (linksS ls).length - k) (0) (by simp) (.cons rfl (.nil)) (.cons rfl (.cons rfl (.cons rfl (.cons rfl (.cons rfl (.cons rfl (.cons rfl (.cons rfl (.nil))))))))) rfl fun k hx ih => ?_
          have hm3 := meltRefl (g := g)
          refine S.seq (S.seq (S.region rfl ?_))
          refine O.op (.p rfl) (.mv rfl) ?_
          refine O.op (.p rfl) (.mv rfl) ?_
          refine O.op (.p rfl) (.len rfl Go.Proofs.Try.underlying38 rfl) ?_
          refine O.op (.p rfl) (.lss rfl rfl) ?_
          refine O.nil ?_
          first | refine S.condD rfl (fun h193 => ?_) (fun h193 => ?_) | refine S.condB rfl (fun h193 => ?_) (fun h193 => ?_)
          · have hk : k < (linksS ls).length := by omega
            have hcell : ∀ h, ((linksS ls).map cells2)[k]'h = [.int .i64 (linksS ls)[k].1, .int .i64 (linksS ls)[k].2] := fun h => by rw [List.getElem_map]; rfl
            have hlat := lensL_at ls k hk
            by_cases hq : (linksS ls)[k] = (f, t)
            ·
              refine S.skip (S.seq (S.block (S.seq (S.regionD (L := [0, 1, 2, 3, 4, 5, 6, 7, 8, 9, 10, 11, 12, 13, 14, 15, 16, 17, 18, 19, 20, 21, 23, 24, 25, 26, 22, 27, 28]) FactNet14.mixed (by kernel_rfl) ?_))))
              refine .quiet (.p rfl) rfl (fun _ => .mv rfl) ?_
              refine .quiet (.p rfl) rfl (fun _ => .mv rfl) ?_
              refine OD.idx' (.p rfl) Go.Proofs.Try.underlying38 FactNet14.size51 rfl rfl rfl (ha36) (by decide) (by first | omega | (simp; done) | (simp; omega) | decide) (fun p198 cs198 hp198 hr198 => ?_)
              obtain ⟨rfl, _⟩ := hr198
              rw [hcell] at hp198
              refine .quiet (.p rfl) rfl (fun _ => .loadAgg Go.Proofs.Try.isAgg51 (by kernel_rfl) rfl hp198) ?_
              refine .quiet (.p rfl) rfl (fun _ => .fieldAddr FactNet14.fld49x1 rfl) ?_
              refine .quiet (.p rfl) rfl (fun _ => .loadAt FactNet14.flat3 rfl (h7.drop 1) rfl) ?_
              refine .quiet (.p rfl) rfl (fun _ => .fieldAddr FactNet14.fld49x2 rfl) ?_
              refine .quiet (.p rfl) rfl (fun _ => .loadAt FactNet14.flat3 rfl (h7.drop 2) rfl) ?_
              refine .quiet (.p rfl) rfl (fun _ => .build2 Go.Proofs.Try.underlying51 FactNet14.size3 Go.Proofs.Try.zeroValue51 rfl rfl) ?_
              refine .quiet (.p rfl) rfl (fun _ => .neq2 Go.Proofs.Try.underlying51 Go.Proofs.Try.underlying3 FactNet14.size3 (by kernel_rfl) rfl rfl) ?_
              refine OD.slot 205 (v' := .bool false) rfl (congrArg Value.bool (by simp [hq])) ?_
              refine .quiet (.p rfl) rfl (fun _ => .mv rfl) ?_
              refine .no rfl rfl rfl rfl ?_
              refine .no rfl rfl rfl rfl ?_
              refine .no rfl rfl rfl rfl ?_
              refine .no rfl rfl rfl rfl ?_
              refine .no rfl rfl rfl rfl ?_
              refine .no rfl rfl rfl rfl ?_
              refine .no rfl rfl rfl rfl ?_
              refine .no rfl rfl rfl rfl ?_
              refine .no rfl rfl rfl rfl ?_
              refine .no rfl rfl rfl rfl ?_
              refine .no rfl rfl rfl rfl ?_
              refine .no rfl rfl rfl rfl ?_
              refine .no rfl rfl rfl rfl ?_
              refine .no rfl rfl rfl rfl ?_
              refine .no rfl rfl rfl rfl ?_
              refine .no rfl rfl rfl rfl ?_
              refine .no rfl rfl rfl rfl ?_
              refine .quiet (.p rfl) rfl (fun _ => .pickF rfl rfl) ?_
              refine .nil ?_
              refine S.condF rfl ?_
              refine S.skip (S.inBlock (S.region rfl ?_))
              refine O.op (.p rfl) (.mv rfl) ?_
              refine O.op (.p rfl) (.add rfl rfl (IntWalk.i64_in _ (by omega))) ?_
              refine O.op (.p rfl) (.as rfl) ?_
              refine O.nil ?_
              refine S.weaken ?_ (ih (k + 1) (by omega) (by omega))
              repeat (first | exact Sub.nil | refine Sub.cons rfl ?_)
            · have hlk := hne _ hq
              have hlk2 : atL ls2 ((linksS ls)[k].1, (linksS ls)[k].2) = atL ls (linksS ls)[k] := hlk
              have hkl : k < (lensL ls).length := by omega
              refine S.skip (S.seq (S.block (S.seq (S.regionD (L := [0, 1, 2, 3, 4, 5, 6, 7, 8, 9, 10, 11, 12, 13, 14, 15, 16, 17, 18, 19, 20, 21, 23, 24, 25, 26, 22, 27, 28]) FactNet14.mixed (by kernel_rfl) ?_))))
              refine .quiet (.p rfl) rfl (fun _ => .mv rfl) ?_
              refine .quiet (.p rfl) rfl (fun _ => .mv rfl) ?_
              refine OD.idx' (.p rfl) Go.Proofs.Try.underlying38 FactNet14.size51 rfl rfl rfl (ha36) (by decide) (by first | omega | (simp; done) | (simp; omega) | decide) (fun p198 cs198 hp198 hr198 => ?_)
              obtain ⟨rfl, _⟩ := hr198
              rw [hcell] at hp198
              refine .quiet (.p rfl) rfl (fun _ => .loadAgg Go.Proofs.Try.isAgg51 (by kernel_rfl) rfl hp198) ?_
              refine .quiet (.p rfl) rfl (fun _ => .fieldAddr FactNet14.fld49x1 rfl) ?_
              refine .quiet (.p rfl) rfl (fun _ => .loadAt FactNet14.flat3 rfl (h7.drop 1) rfl) ?_
              refine .quiet (.p rfl) rfl (fun _ => .fieldAddr FactNet14.fld49x2 rfl) ?_
              refine .quiet (.p rfl) rfl (fun _ => .loadAt FactNet14.flat3 rfl (h7.drop 2) rfl) ?_
              refine .quiet (.p rfl) rfl (fun _ => .build2 Go.Proofs.Try.underlying51 FactNet14.size3 Go.Proofs.Try.zeroValue51 rfl rfl) ?_
              refine .quiet (.p rfl) rfl (fun _ => .neq2 Go.Proofs.Try.underlying51 Go.Proofs.Try.underlying3 FactNet14.size3 (by kernel_rfl) rfl rfl) ?_
              refine OD.slot 205 (v' := .bool true) rfl (congrArg Value.bool (by simp [hq])) ?_
              refine .quiet (.p rfl) rfl (fun _ => .mv rfl) ?_
              refine .quiet (.g rfl rfl) rfl (fun _ => .mv rfl) ?_
              refine .quiet (.g rfl rfl) rfl (fun _ => .mv rfl) ?_
              refine .quiet (.g rfl rfl) rfl (fun _ => .mv rfl) ?_
              refine OD.idx' (.g rfl rfl) Go.Proofs.Try.underlying38 FactNet14.size51 rfl rfl rfl (ha36) (by decide) (by first | omega | (simp; done) | (simp; omega) | decide) (fun p210 cs210 hp210 hr210 => ?_)
              obtain ⟨rfl, _⟩ := hr210
              rw [hcell] at hp210
              refine .quiet (.g rfl rfl) rfl (fun _ => .idxArrA (j := 0) Go.Proofs.Try.underlying51 FactNet14.size3 rfl rfl rfl (by omega)) ?_
              refine .quiet (.g rfl rfl) rfl (fun _ => .loadAt FactNet14.flat3 rfl hp210 rfl) ?_
              refine .quiet (.g rfl rfl) rfl (fun _ => .mv rfl) ?_
              refine .quiet (.g rfl rfl) rfl (fun _ => .mv rfl) ?_
              refine OD.idx' (.g rfl rfl) Go.Proofs.Try.underlying38 FactNet14.size51 rfl rfl rfl (ha36) (by decide) (by first | omega | (simp; done) | (simp; omega) | decide) (fun p215 cs215 hp215 hr215 => ?_)
              obtain ⟨rfl, _⟩ := hr215
              rw [hcell] at hp215
              refine .quiet (.g rfl rfl) rfl (fun _ => .idxArrA (j := 1) Go.Proofs.Try.underlying51 FactNet14.size3 rfl rfl rfl (by omega)) ?_
              refine .quiet (.g rfl rfl) rfl (fun _ => .loadAt FactNet14.flat3 rfl (hp215.drop 1) rfl) ?_
              refine .quiet (.g rfl rfl) rfl (fun _ => .mv rfl) ?_
              refine .quiet (.g rfl rfl) rfl (fun _ => .mv rfl) ?_
              refine OD.idx' (.g rfl rfl) Go.Proofs.Try.underlying50 FactNet14.size3 rfl rfl rfl (hmany) (by decide) (by first | omega | (simp; done) | (simp; omega) | decide) (fun p221 cs221 hp221 hr221 => ?_)
              obtain ⟨rfl, _⟩ := hr221
              refine .quiet (.g rfl rfl) rfl (fun _ => .loadAt FactNet14.flat3 rfl hp221 rfl) ?_
              refine OD.callS (.g rfl rfl) (by kernel_rfl) rfl FactNet14.ok10 rfl rfl (by repeat (first | exact Sel.here | apply Sel.there)) (many_g hat) ?_
              rintro v218 _ ⟨rfl, rfl⟩
              try simp only [List.cons_append, List.nil_append, List.append_nil]
              rw [hlk2]
              refine .quiet (.g rfl rfl) rfl (fun _ => .neq rfl rfl) ?_
              refine OD.slot 223 (v' := .bool false) rfl (congrArg Value.bool (by rw [hlat]; simp)) ?_
              refine .quiet (.p rfl) rfl (fun _ => .pickT rfl rfl) ?_
              refine .nil ?_
              refine S.condF rfl ?_
              refine S.skip (S.inBlock (S.region rfl ?_))
              refine O.op (.p rfl) (.mv rfl) ?_
              refine O.op (.p rfl) (.add rfl rfl (IntWalk.i64_in _ (by omega))) ?_
              refine O.op (.p rfl) (.as rfl) ?_
              refine O.nil ?_
              refine S.pk ?_ (S.weaken ?_ (ih (k + 1) (by omega) (by omega)))
              · repeat (first | exact Picks.all | exact Picks.nil | (apply Picks.cons; focus (repeat (first | exact Sel.here | apply Sel.there))) | apply Picks.skip)
              repeat (first | exact Sub.nil | refine Sub.cons rfl ?_)
          · clear ih
            have ih := ihO
            refine S.exit rfl ?_
            refine S.inBlock (S.region rfl ?_)
            refine O.op (.p rfl) (.mv rfl) ?_
            refine O.op (.p rfl) (.add rfl rfl (IntWalk.i64_in _ (by omega))) ?_
            refine O.op (.p rfl) (.as rfl) ?_
            refine O.nil ?_
            refine S.melt hm1 (S.weaken ?_ (ih (i + 1) (ls2) (m2) (c2) (by exact ⟨by omega, ho⟩) (by omega)))
            repeat (first | exact Sub.nil | refine Sub.cons rfl ?_)
    · clear ih
      have hi : i = l.length := by omega
      have hnl := linksS_len ls
      refine S.exit rfl ?_
      refine S.seq (S.region rfl ?_)
      refine O.op (.p rfl) (.mv rfl) ?_
      refine O.callS (.p rfl) rfl FactNet14.ok9 rfl rfl (by repeat (first | exact Sel.here | apply Sel.there)) (links_g hat (by omega)) ?_
      rintro v226 _ ⟨a226, c226, rfl, rfl⟩
      try simp only [List.cons_append, List.nil_append, List.append_nil]
      refine O.frzA (by repeat (first | exact Sel.here | apply Sel.there)) fun g hs hm ha226 => ?_
      replace hg := Fr.sub_trans hg hs
      replace hR := melted hR hm
      try replace ha := ha.mono hs
      try replace hat := hat.mono hs
      try replace hat := hat.mono hs
      replace hm1 := meltTrans hm1 hm
      clear hs hm
      refine O.op (.p rfl) (.as rfl) ?_
      refine O.nil ?_
      refine S.seq (S.seq (S.region rfl ?_))
      refine O.op (.p rfl) (.as rfl) ?_
      refine O.nil ?_
      refine S.block ?_
      refine S.loopK (ι := Nat) (fun k => k ≤ (linksS ls).length) (fun k => [(18, .int .i64 (k : Int)), (5, .int .i64 (((allP ls).length : Int) - (sumN ls k : Int)))]) [(3, _), (17, _)] (fun k => [linksW b23 ls, MapK encS b24 m c]) (fun k => (linksS ls).length - k) (0) (by exact Nat.zero_le _) (.cons rfl (.cons rfl (.nil))) (.cons rfl (.cons rfl (.nil))) rfl fun k hx ih => ?_
      have hm2 := meltRefl (g := g)
      refine S.seq (S.seq (S.region rfl ?_))
      refine O.op (.p rfl) (.mv rfl) ?_
      refine O.op (.p rfl) (.mv rfl) ?_
      refine O.op (.p rfl) (.len rfl Go.Proofs.Try.underlying38 rfl) ?_
      refine O.op (.p rfl) (.lss rfl rfl) ?_
      refine O.nil ?_
      first | refine S.condD rfl (fun h230 => ?_) (fun h230 => ?_) | refine S.condB rfl (fun h230 => ?_) (fun h230 => ?_)
      · have hk : k < (linksS ls).length := by omega
        have hcell : ∀ h, ((linksS ls).map cells2)[k]'h = [.int .i64 (linksS ls)[k].1, .int .i64 (linksS ls)[k].2] := fun h => by rw [List.getElem_map]; rfl
        have hs1 := sumN_succ ls k hk
        have hs2 := sumN_le hx2.inv k
        have hs3 := sumN_le hx2.inv (k + 1)
        refine S.skip (S.seq (S.block (S.regionD (L := [0, 1, 2, 3, 4, 5, 6, 7, 8, 9, 10, 11, 12, 13, 14]) FactNet14.mixed (by kernel_rfl) ?_)))
        refine .quiet (.p rfl) rfl (fun _ => .mv rfl) ?_
        refine .quiet (.p rfl) rfl (fun _ => .mv rfl) ?_
        refine .quiet (.p rfl) rfl (fun _ => .mv rfl) ?_
        refine .quiet (.p rfl) rfl (fun _ => .mv rfl) ?_
        refine OD.idx' (.p rfl) Go.Proofs.Try.underlying38 FactNet14.size51 rfl rfl rfl (ha226) (by decide) (by first | omega | (simp; done) | (simp; omega) | decide) (fun p237 cs237 hp237 hr237 => ?_)
        obtain ⟨rfl, _⟩ := hr237
        rw [hcell] at hp237
        refine .quiet (.p rfl) rfl (fun _ => .idxArrA (j := 0) Go.Proofs.Try.underlying51 FactNet14.size3 rfl rfl rfl (by omega)) ?_
        refine .quiet (.p rfl) rfl (fun _ => .loadAt FactNet14.flat3 rfl hp237 rfl) ?_
        refine .quiet (.p rfl) rfl (fun _ => .mv rfl) ?_
        refine .quiet (.p rfl) rfl (fun _ => .mv rfl) ?_
        refine OD.idx' (.p rfl) Go.Proofs.Try.underlying38 FactNet14.size51 rfl rfl rfl (ha226) (by decide) (by first | omega | (simp; done) | (simp; omega) | decide) (fun p242 cs242 hp242 hr242 => ?_)
        obtain ⟨rfl, _⟩ := hr242
        rw [hcell] at hp242
        refine .quiet (.p rfl) rfl (fun _ => .idxArrA (j := 1) Go.Proofs.Try.underlying51 FactNet14.size3 rfl rfl rfl (by omega)) ?_
        refine .quiet (.p rfl) rfl (fun _ => .loadAt FactNet14.flat3 rfl (hp242.drop 1) rfl) ?_
        refine OD.callS (.p rfl) (by kernel_rfl) rfl FactNet14.ok10 rfl rfl (by repeat (first | exact Sel.here | apply Sel.there)) (many_g hat) ?_
        rintro v245 _ ⟨rfl, rfl⟩
        try simp only [List.cons_append, List.nil_append, List.append_nil]
        refine .quiet (.p rfl) rfl (fun _ => .sub rfl rfl (IntWalk.i64_in _ (by omega))) ?_
        refine .quiet (.p rfl) rfl (fun _ => .as rfl) ?_
        refine .nil ?_
        refine S.inBlock (S.region rfl ?_)
        refine O.op (.p rfl) (.mv rfl) ?_
        refine O.op (.p rfl) (.add rfl rfl (IntWalk.i64_in _ (by omega))) ?_
        refine O.op (.p rfl) (.as rfl) ?_
        refine O.nil ?_
        refine S.slot 5 (v' := .int .i64 (((allP ls).length : Int) - (sumN ls (k + 1) : Int))) rfl (by exact congrArg _ (by omega)) ?_
        refine S.pk ?_ (S.weaken ?_ (ih (k + 1) (by omega) (by omega)))
        · repeat (first | exact Picks.all | exact Picks.nil | (apply Picks.cons; focus (repeat (first | exact Sel.here | apply Sel.there))) | apply Picks.skip)
        repeat (first | exact Sub.nil | refine Sub.cons rfl ?_)
      · clear ih
        have hk : k = (linksS ls).length := by omega
        have hsum := sumN_all hx2.inv
        rw [← hk] at hsum
        refine S.exit rfl ?_
        refine S.seq (S.region rfl ?_)
        refine O.op (.p rfl) (.mv rfl) ?_
        refine O.op (.p rfl) (.eql rfl rfl) ?_
        refine O.slot 248 (v' := .bool true) rfl (congrArg Value.bool (by rw [hsum]; simp)) ?_
        refine O.op (.p rfl) (.as rfl) ?_
        refine O.nil ?_
        refine S.ret Go.Proofs.Try.results4 rfl fun w hw => Holds.end_ hR hw ?_
        exact ⟨_, ⟨rfl, rfl⟩, by repeat (first | exact Picks.all | exact Picks.nil | (apply Picks.cons; focus (repeat (first | exact Sel.here | apply Sel.there))) | apply Picks.skip)⟩

end Go.Proofs.Ythaebmfgelaleaa
