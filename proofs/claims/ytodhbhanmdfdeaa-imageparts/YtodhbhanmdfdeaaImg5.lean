import Derived.Test.YtodhbhanmdfdeaaImg4
open Go Go.Sp
set_option maxRecDepth 100000
attribute [local irreducible] obj Own OwnP
namespace Go.Proofs.Ytodhbhanmdfdeaa
theorem FactImg5.flat22 : Go.Sp.flat1 Go.Proofs.Try.prog 22 = true := by kernel_rfl
theorem FactImg5.flat23 : Go.Sp.flat1 Go.Proofs.Try.prog 23 = true := by kernel_rfl
theorem FactImg5.flat24 : Go.Sp.flat1 Go.Proofs.Try.prog 24 = true := by kernel_rfl
theorem FactImg5.flat25 : Go.Sp.flat1 Go.Proofs.Try.prog 25 = true := by kernel_rfl
theorem FactImg5.flat32 : Go.Sp.flat1 Go.Proofs.Try.prog 32 = true := by kernel_rfl
theorem FactImg5.fld27x0 : fieldOff Go.Proofs.Try.prog 27 0 = some 0 := by kernel_rfl
theorem FactImg5.fld27x1 : fieldOff Go.Proofs.Try.prog 27 1 = some 1 := by kernel_rfl
theorem FactImg5.fld27x2 : fieldOff Go.Proofs.Try.prog 27 2 = some 2 := by kernel_rfl
theorem FactImg5.fld27x3 : fieldOff Go.Proofs.Try.prog 27 3 = some 3 := by kernel_rfl
theorem FactImg5.fld53x0 : fieldOff Go.Proofs.Try.prog 53 0 = some 0 := by kernel_rfl
theorem FactImg5.fld56x0 : fieldOff Go.Proofs.Try.prog 56 0 = some 0 := by kernel_rfl
theorem FactImg5.ok11 : callable Go.Proofs.Try.prog 11 = true := by kernel_rfl
theorem FactImg5.ok12 : callable Go.Proofs.Try.prog 12 = true := by kernel_rfl
theorem FactImg5.ok13 : callable Go.Proofs.Try.prog 13 = true := by kernel_rfl
theorem FactImg5.ok16 : callable Go.Proofs.Try.prog 16 = true := by kernel_rfl
theorem FactImg5.ok18 : callable Go.Proofs.Try.prog 18 = true := by kernel_rfl
theorem FactImg5.ok20 : callable Go.Proofs.Try.prog 20 = true := by kernel_rfl
theorem FactImg5.ok22 : callable Go.Proofs.Try.prog 22 = true := by kernel_rfl
theorem FactImg5.ok7 : callable Go.Proofs.Try.prog 7 = true := by kernel_rfl

theorem written_c {r : Fr} {cs : List Value} {h : HeldT} (hr : HeldRp.rel r cs h) (hh : HeldB h) :
    Con Go.Proofs.Try.prog 13 #[.agg cs.toArray] r [] (RetP (fun v η => ∃ out a c, imgW h = some out ∧ v = .slice a out.length c ∧ η = [OwnP Rp.u8 5 (.slice a out.length c) out]) (fun ch η => imgW h = none ∧ ch = errP 33 4 ∧ η = [])) := by
  obtain ⟨xa0, xa1, xa2, xa3, xc0, xc1, xc2, xc3, rfl, k0, k1, k2, k3⟩ := HeldRp.sh hr
  obtain ⟨⟨m0, m0'⟩, m1, m2, m3⟩ := hh
  refine Con.of (n := 35) [.agg #[.slice xa0 h.1.length xc0, .slice xa1 h.2.1.length xc1, .slice xa2 h.2.2.1.length xc2, .slice xa3 h.2.2.2.1.length xc3]] rfl Go.Proofs.Try.func13 rfl rfl rfl fun g hg R hR => ?_
  have k0 := k0.mono hg
  have k1 := k1.mono hg
  have k2 := k2.mono hg
  have k3 := k3.mono hg
  refine S.seq (S.region rfl ?_)
  refine O.opE (.p rfl) (.box (cs := [_, _, _, _]) rfl rfl) ?_
  rintro _ _ ⟨b1, rfl, rfl⟩
  refine O.op (.p rfl) (.as rfl) ?_
  refine O.nil ?_
  refine S.seq ?_
  refine S.frzO (by repeat (first | exact Sel.here | apply Sel.there)) fun g hs hm hb1 => ?_
  replace hg := Fr.sub_trans hg hs
  replace hR := melted hR hm
  try replace k0 := k0.mono hs
  try replace k1 := k1.mono hs
  try replace k2 := k2.mono hs
  try replace k3 := k3.mono hs
  clear hs hm
  refine S.region rfl ?_
  refine O.op (.p rfl) (.build (cs := [_, _, _, _, _, _, _, _, _]) Go.Proofs.Try.underlying56 rfl rfl rfl rfl rfl) ?_
  refine O.opE (.p rfl) (.box (cs := [_, _, _, _, _, _, _, _, _]) rfl rfl) ?_
  rintro _ _ ⟨b5, rfl, rfl⟩
  refine O.op (.p rfl) (.as rfl) ?_
  refine O.nil ?_
  refine S.seq ?_
  refine S.foldS (A := WrB b5 WSt.zero) (bs := [obj b5 56 [.slice none 0 0, .string (str []), .int .i64 0, .int .i64 0, .int .i64 0, .slice none 0 0, .slice none 0 0, .int .i64 0, .slice none 0 0]]) (by repeat (first | exact Sels.nil | (apply Sels.cons; focus (repeat (first | exact Sel.here | apply Sel.there))))) (fun m x => let ⟨h1, h2, d, s1, s2, ho, he⟩ := x; ⟨(((none, 0), (none, 0)), (0, (none, 0, 0), (none, 0, 0))), h1, h2, d, s1, s2, ho, Fr.emp, h2, Fr.emp_disj _, Fr.emp_sub _, Fr.sub_refl _, ownP_nil _, Fr.emp, h2, Fr.emp_disj _, Fr.emp_sub _, Fr.sub_refl _, ownP_nil _, he⟩) ?_
  refine S.region rfl ?_
  refine O.op (.p rfl) (.mv rfl) ?_
  refine O.op (.p rfl) (.fieldAddr FactImg5.fld27x0 rfl) ?_
  refine O.op (.p rfl) (.loadAt FactImg5.flat22 rfl hb1 rfl) ?_
  refine O.op (.p rfl) (.mv rfl) ?_
  refine O.op (.p rfl) (.mkFunc rfl rfl) ?_
  refine O.callPS (.p rfl) rfl FactImg5.ok16 rfl rfl (by repeat (first | exact Sel.here | apply Sel.there)) (rowsL_c k0 m0' m0 (by simp [WSt.zero]) (by simp [WSt.zero])) (fun ch η' w hX hW => by (obtain ⟨hb, rfl, rfl⟩ := hX; exact hR _ _ w ⟨by simp [imgW, hb], rfl, rfl⟩ hW.drop_all)) ?_
  rintro v11 _ ⟨rfl, s1, e1, rfl⟩
  try simp only [List.cons_append, List.nil_append, List.append_nil]
  have q1 := rowsL_le m0' e1
  simp only [WSt.zero, List.length_nil] at q1
  refine O.nil ?_
  refine S.seq (S.region rfl ?_)
  refine O.op (.p rfl) (.mv rfl) ?_
  refine O.op (.p rfl) (.fieldAddr FactImg5.fld27x1 rfl) ?_
  refine O.op (.p rfl) (.loadAt FactImg5.flat23 rfl (hb1.drop 1) rfl) ?_
  refine O.op (.p rfl) (.mv rfl) ?_
  refine O.op (.p rfl) (.mkFunc rfl rfl) ?_
  refine O.callPS (.p rfl) rfl FactImg5.ok18 rfl rfl (by repeat (first | exact Sel.here | apply Sel.there)) (rowsR_c k1 m1 (by omega) (by omega)) (fun ch η' w hX hW => by (obtain ⟨hb, rfl, rfl⟩ := hX; exact hR _ _ w ⟨by simp [imgW, e1, hb], rfl, rfl⟩ hW.drop_all)) ?_
  rintro v17 _ ⟨rfl, s2, e2, rfl⟩
  try simp only [List.cons_append, List.nil_append, List.append_nil]
  have q2 := rowsR_le e2
  refine O.nil ?_
  refine S.seq (S.region rfl ?_)
  refine O.op (.p rfl) (.mv rfl) ?_
  refine O.op (.p rfl) (.fieldAddr FactImg5.fld27x2 rfl) ?_
  refine O.op (.p rfl) (.loadAt FactImg5.flat24 rfl (hb1.drop 2) rfl) ?_
  refine O.op (.p rfl) (.mv rfl) ?_
  refine O.op (.p rfl) (.mkFunc rfl rfl) ?_
  refine O.callPS (.p rfl) rfl FactImg5.ok20 rfl rfl (by repeat (first | exact Sel.here | apply Sel.there)) (rowsE_c k2 m2 (by omega) (by omega)) (fun ch η' w hX hW => by (obtain ⟨hb, rfl, rfl⟩ := hX; exact hR _ _ w ⟨by simp [imgW, e1, e2, hb], rfl, rfl⟩ hW.drop_all)) ?_
  rintro v23 _ ⟨rfl, s3, e3, rfl⟩
  try simp only [List.cons_append, List.nil_append, List.append_nil]
  have q3 := rowsE_le e3
  refine O.nil ?_
  refine S.seq (S.region rfl ?_)
  refine O.op (.p rfl) (.mv rfl) ?_
  refine O.op (.p rfl) (.fieldAddr FactImg5.fld27x3 rfl) ?_
  refine O.op (.p rfl) (.loadAt FactImg5.flat25 rfl (hb1.drop 3) rfl) ?_
  refine O.op (.p rfl) (.mv rfl) ?_
  refine O.op (.p rfl) (.mkFunc rfl rfl) ?_
  refine O.callPS (.p rfl) rfl FactImg5.ok22 rfl rfl (by repeat (first | exact Sel.here | apply Sel.there)) (rowsS_c k3 m3 (by omega) (by omega)) (fun ch η' w hX hW => by (obtain ⟨hb, rfl, rfl⟩ := hX; exact hR _ _ w ⟨by simp [imgW, e1, e2, e3, hb], rfl, rfl⟩ hW.drop_all)) ?_
  rintro v29 _ ⟨rfl, s, e4, rfl⟩
  try simp only [List.cons_append, List.nil_append, List.append_nil]
  refine O.nil ?_
  refine S.seq ?_
  refine S.open (A := WrB b5 s) (by repeat (first | exact Sel.here | apply Sel.there)) (fun m x => x) fun p => ?_
  simp only [List.cons_append, List.nil_append]
  refine S.region rfl ?_
  refine O.op (.p rfl) (.mv rfl) ?_
  refine O.op (.p rfl) (.nilCheck rfl) ?_
  refine O.op (.p rfl) (.fieldObj FactImg5.fld56x0 rfl) ?_
  refine O.op (.p rfl) (.fieldObj FactImg5.fld53x0 rfl) ?_
  refine O.op (.p rfl) (.loadObj FactImg5.flat32 rfl (by repeat (first | exact Sel.here | apply Sel.there)) rfl) ?_
  refine O.op (.p rfl) (.as rfl) ?_
  refine O.nil ?_
  refine S.ret Go.Proofs.Try.results13 rfl fun w hw => Holds.end_ hR hw ?_
  exact ⟨_, ⟨s.out, p.1.1.1, p.1.1.2, by simp [imgW, e1, e2, e3, e4], rfl, rfl⟩, by repeat (first | exact Picks.all | exact Picks.nil | (apply Picks.cons; focus (repeat (first | exact Sel.here | apply Sel.there))) | apply Picks.skip)⟩
theorem iput1_c {r : Fr} {b : Nat} {cs : List Value} {x : HeldT} (hb : At r ⟨b, 0, none⟩ cs) (h : HeldRp.rel r cs x) (hh : HeldB x) :
    Con Go.Proofs.Try.prog 12 (#[] ++ #[] ++ #[.pointer (some ⟨b, 0, none⟩)]) r [] (RetP (fun v η => ∃ out a c, imgW x = some out ∧ v = .slice a out.length c ∧ η = [OwnP Rp.u8 5 (.slice a out.length c) out]) (fun ch η => ∃ z, ch = errP 33 z ∧ (imgW x = none ∧ z = 4) ∧ η = [])) := by
  obtain ⟨xa0, xa1, xa2, xa3, xc0, xc1, xc2, xc3, rfl, k0, k1, k2, k3⟩ := HeldRp.sh h
  refine Con.of (n := 4) [.pointer (some ⟨b, 0, none⟩)] rfl Go.Proofs.Try.func12 rfl rfl rfl fun g hg R hR => ?_
  have hb := hb.mono hg
  have h := h.mono hg
  refine S.seq (S.region rfl ?_)
  refine O.op (.p rfl) (.as rfl) ?_
  refine O.nil ?_
  refine S.seq (S.region rfl ?_)
  refine O.op (.p rfl) (.loadAgg Go.Proofs.Try.isAgg27 (by kernel_rfl) rfl hb) ?_
  refine O.callP0 (.p rfl) rfl FactImg5.ok13 rfl rfl (written_c h hh) (fun ch η' w hX hW => by (obtain ⟨hb, rfl, rfl⟩ := hX; exact hR _ _ w ⟨4, rfl, ⟨hb, rfl⟩, rfl⟩ hW.drop_all)) ?_
  rintro v3 _ ⟨out, a3, c3, e, rfl, rfl⟩
  try simp only [List.cons_append, List.nil_append, List.append_nil]
  refine O.op (.p rfl) (.as rfl) ?_
  refine O.nil ?_
  refine S.ret Go.Proofs.Try.results12 rfl fun w hw => Holds.end_ hR hw ?_
  exact ⟨_, ⟨out, a3, c3, e, rfl, rfl⟩, by repeat (first | exact Picks.all | exact Picks.nil | (apply Picks.cons; focus (repeat (first | exact Sel.here | apply Sel.there))) | apply Picks.skip)⟩
theorem iTried_c {r : Fr} {first cap : Array Value} {x : HeldT} (con : Con Go.Proofs.Try.prog 12 (first ++ #[] ++ cap) r [] (RetP (fun v η => ∃ out a c, imgW x = some out ∧ v = .slice a out.length c ∧ η = [OwnP Rp.u8 5 (.slice a out.length c) out]) (fun ch η => ∃ z, ch = errP 33 z ∧ (imgW x = none ∧ z = 4) ∧ η = []))) (h1 : (Value.func (.func 12) first cap).oneCell' = true := by rfl) :
    Con Go.Proofs.Try.prog 11 #[.func (.func 12) first cap] r [] (Ret fun v η => ∃ a c, v = .tuple #[.slice a (imgOut x).length c, .int .i64 (imgErr x)] ∧ η = [OwnP Rp.u8 5 (.slice a (imgOut x).length c) (imgOut x)]) :=
  (triedIB_c FactImg5.ok12 h1 (fun _ _ h => by obtain ⟨_, _, _, _, rfl, _⟩ := h; rfl) con).post fun e η h w g hw => by
    cases e with
    | returned v =>
      rcases h with ⟨u, ⟨out, a, c, hs, rfl, rfl⟩, rfl⟩ | ⟨z, ⟨hs, rfl⟩, rfl, rfl⟩
      · exact ⟨_, ⟨a, c, by simp [imgOut, imgErr, hs], rfl⟩, by simpa [imgOut, hs] using hw⟩
      · exact ⟨_, ⟨none, 0, by simp [imgOut, imgErr, hs], rfl⟩, by simp only [imgOut, hs]; exact hw.imp fun m x => ⟨Fr.emp, m, Fr.emp_disj _, Fr.emp_sub _, Fr.sub_refl _, ownP_nil _, x⟩⟩
    | panicked _ => exact h.elim
    | outgrown => exact h.elim
theorem iPut_c {r : Fr} {cs : List Value} {x : HeldT} (h : HeldRp.rel r cs x) (hh : HeldB x) :
    Con Go.Proofs.Try.prog 7 #[.agg cs.toArray] r [] (Ret fun v η => ∃ a c, v = .tuple #[.slice a (imgOut x).length c, .int .i64 (imgErr x)] ∧ η = [OwnP Rp.u8 5 (.slice a (imgOut x).length c) (imgOut x)]) := by
  obtain ⟨xa0, xa1, xa2, xa3, xc0, xc1, xc2, xc3, rfl, k0, k1, k2, k3⟩ := HeldRp.sh h
  refine Con.of (n := 8) [.agg #[.slice xa0 x.1.length xc0, .slice xa1 x.2.1.length xc1, .slice xa2 x.2.2.1.length xc2, .slice xa3 x.2.2.2.1.length xc3]] rfl Go.Proofs.Try.func7 rfl rfl rfl fun g hg R hR => ?_
  have h := h.mono hg
  refine S.seq (S.region rfl ?_)
  refine O.opE (.p rfl) (.box (cs := [_, _, _, _]) rfl rfl) ?_
  rintro _ _ ⟨b1, rfl, rfl⟩
  refine O.op (.p rfl) (.as rfl) ?_
  refine O.op (.p rfl) (.as rfl) ?_
  refine O.nil ?_
  refine S.seq ?_
  refine S.frzO (by repeat (first | exact Sel.here | apply Sel.there)) fun g hs hm hb1 => ?_
  replace hg := Fr.sub_trans hg hs
  replace hR := melted hR hm
  try replace h := h.mono hs
  clear hs hm
  refine S.region rfl ?_
  refine O.op (.p rfl) (.mkFunc rfl rfl) ?_
  refine O.call0 (.p rfl) rfl FactImg5.ok11 rfl rfl ((iTried_c (iput1_c hb1 h hh))) ?_
  rintro v5 _ ⟨a5, c5, rfl, rfl⟩
  try simp only [List.cons_append, List.nil_append, List.append_nil]
  refine O.op (.p rfl) (.extract rfl rfl) ?_
  refine O.op (.p rfl) (.extract rfl rfl) ?_
  refine O.op (.p rfl) (.as rfl) ?_
  refine O.op (.p rfl) (.as rfl) ?_
  refine O.nil ?_
  refine S.ret2 Go.Proofs.Try.results7 rfl rfl fun w hw => Holds.end_ hR hw ?_
  exact ⟨_, ⟨a5, c5, rfl, rfl⟩, by repeat (first | exact Picks.all | exact Picks.nil | (apply Picks.cons; focus (repeat (first | exact Sel.here | apply Sel.there))) | apply Picks.skip)⟩
theorem iRight_c {r : Fr} {cs : List Value} {x : HeldT} (h : HeldRp.rel r cs x) (hh : HeldB x) :
    Con Go.Proofs.Try.prog 6 #[.agg cs.toArray] r [] (Ret fun v η => v = .bool (imgW x).isSome ∧ η = []) := by
  obtain ⟨xa0, xa1, xa2, xa3, xc0, xc1, xc2, xc3, rfl, k0, k1, k2, k3⟩ := HeldRp.sh h
  refine Con.of (n := 12) [.agg #[.slice xa0 x.1.length xc0, .slice xa1 x.2.1.length xc1, .slice xa2 x.2.2.1.length xc2, .slice xa3 x.2.2.2.1.length xc3]] rfl Go.Proofs.Try.func6 rfl rfl rfl fun g hg R hR => ?_
  have h := h.mono hg
  refine S.seq (S.region rfl ?_)
  refine O.opE (.p rfl) (.box (cs := [_, _, _, _]) rfl rfl) ?_
  rintro _ _ ⟨b1, rfl, rfl⟩
  refine O.op (.p rfl) (.as rfl) ?_
  refine O.nil ?_
  refine S.seq (S.region rfl ?_)
  refine O.op (.p rfl) (.loadObjAgg (news := [_, _, _, _]) Go.Proofs.Try.isAgg27 (by kernel_rfl) rfl (by repeat (first | exact Sel.here | apply Sel.there)) rfl) ?_
  refine O.call0 (.p rfl) rfl FactImg5.ok7 rfl rfl ((iPut_c h hh)) ?_
  rintro v7 _ ⟨a7, c7, rfl, rfl⟩
  try simp only [List.cons_append, List.nil_append, List.append_nil]
  refine O.op (.p rfl) (.mv rfl) ?_
  refine O.op (.p rfl) (.extract rfl rfl) ?_
  refine O.op (.p rfl) (.extract rfl rfl) ?_
  refine O.op (.p rfl) (.as rfl) ?_
  refine O.op (.p rfl) (.as rfl) ?_
  refine O.nil ?_
  refine S.seq (S.region rfl ?_)
  refine O.op (.p rfl) (.mv rfl) ?_
  refine O.op (.p rfl) (.eql rfl rfl) ?_
  refine O.op (.p rfl) (.as rfl) ?_
  refine O.nil ?_
  refine S.ret Go.Proofs.Try.results6 rfl fun w hw => Holds.end_ hR hw ?_
  exact ⟨_, ⟨by cases e : imgW x <;> simp [imgErr, e], rfl⟩, by repeat (first | exact Picks.all | exact Picks.nil | (apply Picks.cons; focus (repeat (first | exact Sel.here | apply Sel.there))) | apply Picks.skip)⟩

end Go.Proofs.Ytodhbhanmdfdeaa
