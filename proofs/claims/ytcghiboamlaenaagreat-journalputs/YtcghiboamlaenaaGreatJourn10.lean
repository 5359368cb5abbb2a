import Derived.Test.YtcghiboamlaenaaGreatKit8
import Derived.Test.YtcghiboamlaenaaGreatJourn8
open Go Go.Sp
set_option maxRecDepth 100000
attribute [local irreducible] obj Own OwnP
namespace Go.Proofs.YtcghiboamlaenaaGreat
theorem FactJourn10.elem23 : elemIs Go.Proofs.Tryz.prog 23 1 24 [.slice none 0 0] := elemIs.mk (by kernel_rfl) rfl
theorem FactJourn10.flat23 : Go.Sp.flat1 Go.Proofs.Tryz.prog 23 = true := by kernel_rfl
theorem FactJourn10.fld25x1 : fieldOff Go.Proofs.Tryz.prog 25 1 = some 1 := by kernel_rfl
theorem FactJourn10.ok10 : callable Go.Proofs.Tryz.prog 10 = true := by kernel_rfl
theorem FactJourn10.ok11 : callable Go.Proofs.Tryz.prog 11 = true := by kernel_rfl
theorem FactJourn10.ok5 : callable Go.Proofs.Tryz.prog 5 = true := by kernel_rfl
theorem FactJourn10.ok6 : callable Go.Proofs.Tryz.prog 6 = true := by kernel_rfl
theorem FactJourn10.ok7 : callable Go.Proofs.Tryz.prog 7 = true := by kernel_rfl
theorem FactJourn10.ok8 : callable Go.Proofs.Tryz.prog 8 = true := by kernel_rfl
theorem FactJourn10.ok9 : callable Go.Proofs.Tryz.prog 9 = true := by kernel_rfl

theorem puts_c {r : Fr} {k : UInt8} {va : Value} {xs : List UInt8} (ha : Arr Rp.u8 r va xs) :
    Con Go.Proofs.Tryz.prog 3 #[.agg #[byteV k, va]] r [] (Ret fun v η => v = .bool true ∧ η = []) := by
  refine Con.of (n := 56) [.agg #[byteV k, va]] rfl Go.Proofs.Tryz.func3 rfl rfl rfl fun g hg R hR => ?_
  have ha := ha.mono hg
  obtain ⟨a1, c1, rfl⟩ := ha.shape
  refine S.seq (S.region rfl ?_)
  refine O.opE (.p rfl) (.box (cs := [_, _]) rfl rfl) ?_
  rintro _ _ ⟨b1, rfl, rfl⟩
  refine O.op (.p rfl) (.as rfl) ?_
  refine O.nil ?_
  refine S.seq (S.seq (S.region rfl ?_))
  refine O.op (.p rfl) (.fieldObj FactJourn10.fld25x1 rfl) ?_
  refine O.op (.p rfl) (.loadObj FactJourn10.flat23 rfl (by repeat (first | exact Sel.here | apply Sel.there)) rfl) ?_
  refine O.op (.p rfl) (.len rfl Go.Proofs.Tryz.underlying23 rfl) ?_
  refine O.op (.p rfl) (.gtr rfl rfl) ?_
  refine O.nil ?_
  first | refine S.condD rfl (fun h13 => ?_) (fun h13 => ?_) | refine S.condB rfl (fun h13 => ?_) (fun h13 => ?_)
  · refine S.seq (S.region rfl ?_)
    refine O.call0 (.p rfl) rfl FactJourn10.ok5 rfl rfl (awake_c) ?_
    rintro v14 _ ⟨rfl, rfl⟩
    try simp only [List.cons_append, List.nil_append, List.append_nil]
    refine O.op (.p rfl) (.as rfl) ?_
    refine O.nil ?_
    refine S.ret Go.Proofs.Tryz.results3 rfl fun w hw => Holds.end_ hR hw ?_
    exact ⟨_, ⟨rfl, rfl⟩, by repeat (first | exact Picks.all | exact Picks.nil | (apply Picks.cons; focus (repeat (first | exact Sel.here | apply Sel.there))) | apply Picks.skip)⟩
  · have hl : xs.length ≤ 24000 := by omega
    have hpl := putOut_len k xs
    refine S.skip (S.seq (S.region rfl ?_))
    refine O.op (.p rfl) (.loadObjAgg (news := [_, _]) Go.Proofs.Tryz.isAgg25 (by kernel_rfl) rfl (by repeat (first | exact Sel.here | apply Sel.there)) rfl) ?_
    refine O.call0 (.p rfl) rfl FactJourn10.ok6 rfl rfl (lentEntry_c (by first | assumption | exact Arr.mono hg (by assumption) | exact Arr.left (by assumption) | exact Arr.left (Arr.mono hg (by assumption))) (by first | omega | (simp; done) | (simp; omega) | decide)) ?_
    rintro v16 _ ⟨a16, c16, rfl, rfl⟩
    try simp only [List.cons_append, List.nil_append, List.append_nil]
    refine O.opE (.p rfl) (.alloc (cs := [.int .u8 0, .slice none 0 0]) Go.Proofs.Tryz.zeroValue25 rfl) ?_
    rintro _ _ ⟨b3, rfl, rfl⟩
    refine O.opU rfl (.storeObj (by kernel_rfl) rfl rfl rfl rfl (by repeat (first | exact Sel.here | apply Sel.there)) (by first | (simp; done) | (simp [Value.cells]; done))) ?_
    refine O.nil ?_
    refine S.seq ?_
    refine S.objIs (b := b3) (cs' := [byteV k, .slice a16 xs.length c16]) (by repeat (first | exact Sel.here | apply Sel.there)) rfl ?_
    refine S.region rfl ?_
    refine O.op (.p rfl) (.loadObjAgg (news := [_, _]) Go.Proofs.Tryz.isAgg25 (by kernel_rfl) rfl (by repeat (first | exact Sel.here | apply Sel.there)) rfl) ?_
    refine O.callB (.p rfl) rfl FactJourn10.ok7 rfl rfl (bs := [LentP 5 (.slice a16 xs.length c16) xs]) (by repeat (first | exact Sels.nil | (apply Sels.cons; focus (repeat (first | exact Sel.here | apply Sel.there))))) (fun m hm hd => put_c (k := k) ((Sat.w1 (B := fun m => Arr Rp.u8 m (.slice a16 xs.length c16) xs) Arr.mono (fun _ x => x.lentA.arr) hm).right hd)) ?_
    rintro v19 _ ⟨a19, c19, rfl, rfl⟩
    try simp only [List.cons_append, List.nil_append, List.append_nil]
    refine O.op (.p rfl) (.mv rfl) ?_
    refine O.op (.p rfl) (.extract rfl rfl) ?_
    refine O.op (.p rfl) (.extract rfl rfl) ?_
    refine O.op (.p rfl) (.as rfl) ?_
    refine O.op (.p rfl) (.as rfl) ?_
    refine O.nil ?_
    refine S.seq (S.region rfl ?_)
    refine O.op (.p rfl) (.loadObjAgg (news := [_, _]) Go.Proofs.Tryz.isAgg25 (by kernel_rfl) rfl (by repeat (first | exact Sel.here | apply Sel.there)) rfl) ?_
    refine O.callB (.p rfl) rfl FactJourn10.ok7 rfl rfl (bs := [LentP 5 (.slice a16 xs.length c16) xs]) (by repeat (first | exact Sels.nil | (apply Sels.cons; focus (repeat (first | exact Sel.here | apply Sel.there))))) (fun m hm hd => put_c (k := k) ((Sat.w1 (B := fun m => Arr Rp.u8 m (.slice a16 xs.length c16) xs) Arr.mono (fun _ x => x.lentA.arr) hm).right hd)) ?_
    rintro v24 _ ⟨a24, c24, rfl, rfl⟩
    try simp only [List.cons_append, List.nil_append, List.append_nil]
    refine O.op (.p rfl) (.mv rfl) ?_
    refine O.op (.p rfl) (.extract rfl rfl) ?_
    refine O.op (.p rfl) (.extract rfl rfl) ?_
    refine O.op (.p rfl) (.as rfl) ?_
    refine O.op (.p rfl) (.as rfl) ?_
    refine O.nil ?_
    refine S.seq (S.region rfl ?_)
    refine O.op (.p rfl) (.loadObjAgg (news := [_, _]) Go.Proofs.Tryz.isAgg25 (by kernel_rfl) rfl (by repeat (first | exact Sel.here | apply Sel.there)) rfl) ?_
    refine O.call0 (.p rfl) rfl FactJourn10.ok8 rfl rfl (refPut_c (by first | assumption | exact Arr.mono hg (by assumption) | exact Arr.left (by assumption) | exact Arr.left (Arr.mono hg (by assumption)))) ?_
    rintro v29 _ ⟨a29, c29, rfl, rfl⟩
    try simp only [List.cons_append, List.nil_append, List.append_nil]
    refine O.op (.p rfl) (.mv rfl) ?_
    refine O.op (.p rfl) (.extract rfl rfl) ?_
    refine O.op (.p rfl) (.extract rfl rfl) ?_
    refine O.op (.p rfl) (.as rfl) ?_
    refine O.op (.p rfl) (.as rfl) ?_
    refine O.nil ?_
    refine S.seq ?_
    refine S.frzA (by repeat (first | exact Sel.here | apply Sel.there)) fun g hs hm hb => ?_
    replace hg := Fr.sub_trans hg hs
    replace hR := melted hR hm
    try replace ha := ha.mono hs
    clear hs hm
    refine S.region rfl ?_
    refine O.op (.p rfl) (.mv rfl) ?_
    refine O.op (.p rfl) (.mv rfl) ?_
    refine O.op (.p rfl) (.eql rfl rfl) ?_
    refine O.slot 34 (v' := .bool true) rfl (congrArg Value.bool (by simp)) ?_
    refine O.op (.p rfl) (.mv rfl) ?_
    refine O.op (.g rfl rfl) (.mv rfl) ?_
    refine O.op (.g rfl rfl) (.mv rfl) ?_
    refine O.callB (.g rfl rfl) rfl FactJourn10.ok9 rfl rfl (bs := [OwnP Rp.u8 5 (.slice a19 (putOut k xs).length c19) (putOut k xs)]) (by repeat (first | exact Sels.nil | (apply Sels.cons; focus (repeat (first | exact Sel.here | apply Sel.there))))) (fun m hm hd => SameBytes_c (hm.arr.right hd) hb.left) ?_
    rintro v38 _ ⟨rfl, rfl⟩
    try simp only [List.cons_append, List.nil_append, List.append_nil]
    refine O.slot 38 (v' := .bool true) rfl (congrArg Value.bool (by simp)) ?_
    refine O.op (.p rfl) (.pickT rfl rfl) ?_
    refine O.op (.p rfl) (.mv rfl) ?_
    refine O.op (.g rfl rfl) (.loadObjAgg (news := [_, _]) Go.Proofs.Tryz.isAgg25 (by kernel_rfl) rfl (by repeat (first | exact Sel.here | apply Sel.there)) rfl) ?_
    refine O.op (.g rfl rfl) (.loadObjAgg (news := [_, _]) Go.Proofs.Tryz.isAgg25 (by kernel_rfl) rfl (by repeat (first | exact Sel.here | apply Sel.there)) rfl) ?_
    refine O.callB (.g rfl rfl) rfl FactJourn10.ok10 rfl rfl (bs := [LentP 5 (.slice a16 xs.length c16) xs]) (by repeat (first | exact Sels.nil | (apply Sels.cons; focus (repeat (first | exact Sel.here | apply Sel.there))))) (fun m hm hd => keptEntry_c (k := k) (LentA.mono (Fr.sub_add_right hd) (Sat.w1 (B := fun m => LentA m (.slice a16 xs.length c16) xs) LentA.mono (fun _ x => x.lentA) hm)) ha.left (by omega)) ?_
    rintro v43 _ ⟨rfl, rfl⟩
    try simp only [List.cons_append, List.nil_append, List.append_nil]
    refine O.op (.p rfl) (.pickT rfl rfl) ?_
    refine O.op (.p rfl) (.mv rfl) ?_
    refine O.op (.g rfl rfl) (.mv rfl) ?_
    refine O.op (.g rfl rfl) (.mv rfl) ?_
    refine O.op (.g rfl rfl) (.fieldObj FactJourn10.fld25x1 rfl) ?_
    refine O.op (.g rfl rfl) (.loadObj FactJourn10.flat23 rfl (by repeat (first | exact Sel.here | apply Sel.there)) rfl) ?_
    refine O.opE (.g rfl rfl) (.litP (T := Rp.val) (ys := [_, _, _]) Go.Proofs.Tryz.underlying34 FactJourn10.elem23 (by decide) rfl rfl ⟨⟨rfl, rfl⟩, ⟨rfl, rfl⟩, ⟨rfl, rfl⟩, trivial⟩ (by decide)) ?_
    rintro _ _ ⟨a50, c50, rfl, rfl⟩
    refine O.frzA (by repeat (first | exact Sel.here | apply Sel.there)) fun g hs hm ha50 => ?_
    replace hg := Fr.sub_trans hg hs
    replace hR := melted hR hm
    try replace ha := ha.mono hs
    try replace hb := hb.mono hs
    clear hs hm
    refine O.conv (B := LentP 5 (.slice a16 xs.length c16) xs) (C := OwnP Rp.u8 5 (.slice a16 xs.length c16) xs) (by repeat (first | exact Sel.here | apply Sel.there)) (fun m x => ⟨m, Fr.sub_refl _, x.own⟩) ?_
    refine O.each0 (OwnP Rp.u8 5) ?_
    refine O.each (A := OwnP Rp.u8 5) (b := .slice a19 (putOut k xs).length c19) (a := putOut k xs) (by repeat (first | exact Sel.here | apply Sel.there)) (by repeat (first | exact Sel.here | apply Sel.there)) ?_
    refine O.each (A := OwnP Rp.u8 5) (b := .slice a24 (putOut k xs).length c24) (a := putOut k xs) (by repeat (first | exact Sel.here | apply Sel.there)) (by repeat (first | exact Sel.here | apply Sel.there)) ?_
    refine O.each (A := OwnP Rp.u8 5) (b := .slice a16 xs.length c16) (a := xs) (by repeat (first | exact Sel.here | apply Sel.there)) (by repeat (first | exact Sel.here | apply Sel.there)) ?_
    simp only [List.nil_append, List.cons_append]
    refine O.callSs (.g rfl rfl) rfl FactJourn10.ok11 rfl rfl (by repeat (first | exact Sels.nil | (apply Sels.cons; focus (repeat (first | exact Sel.here | apply Sel.there))))) (ApartBytes_c ha50 (by simp; omega) (by simp)) ?_
    rintro v51 _ ⟨rfl, rfl⟩
    try simp only [List.cons_append, List.nil_append, List.append_nil]
    refine O.op (.p rfl) (.pickT rfl rfl) ?_
    refine O.op (.p rfl) (.mv rfl) ?_
    refine O.call0 (.g rfl rfl) rfl FactJourn10.ok5 rfl rfl (awake_c) ?_
    rintro v54 _ ⟨rfl, rfl⟩
    try simp only [List.cons_append, List.nil_append, List.append_nil]
    refine O.op (.p rfl) (.pickT rfl rfl) ?_
    refine O.op (.p rfl) (.as rfl) ?_
    refine O.nil ?_
    refine S.ret Go.Proofs.Tryz.results3 rfl fun w hw => Holds.end_ hR hw ?_
    exact ⟨_, ⟨rfl, rfl⟩, by repeat (first | exact Picks.all | exact Picks.nil | (apply Picks.cons; focus (repeat (first | exact Sel.here | apply Sel.there))) | apply Picks.skip)⟩
theorem arr_of_list {cs : Array Value} {l : List Value} (h : cs.toList = l) : cs = l.toArray := by subst h; simp
theorem puts_e {r : Fr} {cs : Array Value} {x : Ent} (h : EntRp.rel r cs.toList x) :
    Con Go.Proofs.Tryz.prog 3 #[.agg cs] r [] (Ret fun v η => v = .bool true ∧ η = []) := by
  obtain ⟨v, hv, ha⟩ := EntRp.open h
  obtain rfl := arr_of_list hv
  exact puts_c ha

end Go.Proofs.YtcghiboamlaenaaGreat
