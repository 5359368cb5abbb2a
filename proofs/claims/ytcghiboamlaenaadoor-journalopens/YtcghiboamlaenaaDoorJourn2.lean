import Derived.Test.YtcghiboamlaenaaDoorJourn1
import Derived.Test.YtcghiboamlaenaaDoorSpRange
import Derived.Test.YtcghiboamlaenaaDoorSpGp
open Go Go.Sp
set_option maxRecDepth 100000
attribute [local irreducible] obj Own OwnP
namespace Go.Proofs.YtcghiboamlaenaaDoor
theorem FactJourn2.flat22 : Go.Sp.flat1 Go.Proofs.Tryd.prog 22 = true := by kernel_rfl
theorem FactJourn2.flat23 : Go.Sp.flat1 Go.Proofs.Tryd.prog 23 = true := by kernel_rfl
theorem FactJourn2.flat3 : Go.Sp.flat1 Go.Proofs.Tryd.prog 3 = true := by kernel_rfl
theorem FactJourn2.flat4 : Go.Sp.flat1 Go.Proofs.Tryd.prog 4 = true := by kernel_rfl
theorem FactJourn2.flat5 : Go.Sp.flat1 Go.Proofs.Tryd.prog 5 = true := by kernel_rfl
theorem FactJourn2.flat85 : Go.Sp.flat1 Go.Proofs.Tryd.prog 85 = true := by kernel_rfl
theorem FactJourn2.fld116x0 : fieldOff Go.Proofs.Tryd.prog 116 0 = some 0 := by kernel_rfl
theorem FactJourn2.fld25x0 : fieldOff Go.Proofs.Tryd.prog 25 0 = some 0 := by kernel_rfl
theorem FactJourn2.fld25x1 : fieldOff Go.Proofs.Tryd.prog 25 1 = some 1 := by kernel_rfl
theorem FactJourn2.fld87x0 : fieldOff Go.Proofs.Tryd.prog 87 0 = some 0 := by kernel_rfl
theorem FactJourn2.fld87x1 : fieldOff Go.Proofs.Tryd.prog 87 1 = some 1 := by kernel_rfl
theorem FactJourn2.fld87x2 : fieldOff Go.Proofs.Tryd.prog 87 2 = some 2 := by kernel_rfl
theorem FactJourn2.mixed : Go.Proofs.Tryd.prog.follows .mixedOrders = true := by kernel_rfl
theorem FactJourn2.ok24 : callable Go.Proofs.Tryd.prog 24 = true := by kernel_rfl
theorem FactJourn2.ok71 : callable Go.Proofs.Tryd.prog 71 = true := by kernel_rfl
theorem FactJourn2.ok72 : callable Go.Proofs.Tryd.prog 72 = true := by kernel_rfl
theorem FactJourn2.ok73 : callable Go.Proofs.Tryd.prog 73 = true := by kernel_rfl
theorem FactJourn2.ok74 : callable Go.Proofs.Tryd.prog 74 = true := by kernel_rfl
theorem FactJourn2.ok75 : callable Go.Proofs.Tryd.prog 75 = true := by kernel_rfl
theorem FactJourn2.ok76 : callable Go.Proofs.Tryd.prog 76 = true := by kernel_rfl
theorem FactJourn2.size5 : (Go.Proofs.Tryd.prog.info? 5).map (·.size) = some 1 := by kernel_rfl

/-- the entry at the beginning of bytes; none: whether what is there is spoilt -/
def scanOne (rest : List UInt8) : Except Bool (UInt8 × List UInt8) :=
  if rest.length < 8 then .error false
  else if ¬ (1 ≤ ofBe rest ∧ ofBe rest ≤ 262145) then .error true
  else if (rest.length : Int) < 16 + ofBe rest then .error false
  else if putErr (rest.getD 8 0) ((rest.take (8 + (ofBe rest).toNat)).drop 9) = 0 ∧ putOut (rest.getD 8 0) ((rest.take (8 + (ofBe rest).toNat)).drop 9) = rest.take (16 + (ofBe rest).toNat) then .ok (rest.getD 8 0, (rest.take (8 + (ofBe rest).toNat)).drop 9)
  else .error true

theorem scan_short {rest : List UInt8} (h : rest.length < 8) : scanOne rest = .error false := by simp [scanOne, h]
theorem scan_num {rest : List UInt8} (h : 8 ≤ rest.length) (h1 : ¬ (1 ≤ ofBe rest ∧ ofBe rest ≤ 262145)) : scanOne rest = .error true := by
  unfold scanOne; rw [if_neg (by omega), if_pos h1]
theorem scan_cut {rest : List UInt8} (h : 8 ≤ rest.length) (h1 : 1 ≤ ofBe rest ∧ ofBe rest ≤ 262145) (h2 : (rest.length : Int) < 16 + ofBe rest) : scanOne rest = .error false := by
  unfold scanOne; rw [if_neg (by omega), if_neg (by simpa using h1), if_pos h2]
theorem scan_bad {rest : List UInt8} (h : 8 ≤ rest.length) (h1 : 1 ≤ ofBe rest ∧ ofBe rest ≤ 262145) (h2 : 16 + ofBe rest ≤ (rest.length : Int))
    (h3 : ¬ (putErr (rest.getD 8 0) ((rest.take (8 + (ofBe rest).toNat)).drop 9) = 0 ∧ putOut (rest.getD 8 0) ((rest.take (8 + (ofBe rest).toNat)).drop 9) = rest.take (16 + (ofBe rest).toNat))) : scanOne rest = .error true := by
  unfold scanOne; rw [if_neg (by omega), if_neg (by simpa using h1), if_neg (by omega), if_neg h3]
theorem scan_ok {rest : List UInt8} (h : 8 ≤ rest.length) (h1 : 1 ≤ ofBe rest ∧ ofBe rest ≤ 262145) (h2 : 16 + ofBe rest ≤ (rest.length : Int))
    (h3 : putErr (rest.getD 8 0) ((rest.take (8 + (ofBe rest).toNat)).drop 9) = 0 ∧ putOut (rest.getD 8 0) ((rest.take (8 + (ofBe rest).toNat)).drop 9) = rest.take (16 + (ofBe rest).toNat)) : scanOne rest = .ok (rest.getD 8 0, (rest.take (8 + (ofBe rest).toNat)).drop 9) := by
  unfold scanOne; rw [if_neg (by omega), if_neg (by simpa using h1), if_neg (by omega), if_pos h3]
theorem rnum8 {rest : List UInt8} (h : 8 ≤ rest.length) : (rNum (true && !false) (rest.take 8)).1 = ofBe rest := by
  simp [rNum, ofBe, List.take_take, h]
theorem next1_ret {g : Gr} {p1 p3 : Value} {w : World} {η : List SProp} {Q : World → Prop} (hw : Holds w g η) (hQ : ∀ w, Holds w g η → Q w) :
    CallsD Go.Proofs.Tryd.prog 71 #[p1, p3] .returning w fun e u' w' => (∃ v, e = .returned v) ∧ settle u' = .returning ∧ Q w' := by
  refine (callsD_rec (R := fun e w => (∃ v, e = .returned v) ∧ Q w) [p1, p3] rfl Go.Proofs.Tryd.func71 rfl rfl rfl rfl hw ?_).mono ?_
  rotate_left
  · rintro e u' w' ⟨rfl, ⟨v, rfl⟩, h⟩
    exact ⟨⟨v, rfl⟩, rfl, h⟩
  refine S.seq (S.region rfl ?_)
  refine O.op (.p rfl) (.mv rfl) ?_
  refine O.op (.p rfl) (.neqIN Go.Proofs.Tryd.underlying20 rfl) ?_
  refine O.nil ?_
  refine S.condF rfl ?_
  refine S.skip ?_
  refine S.end0 Go.Proofs.Tryd.results71 fun w hw => ?_
  exact ⟨⟨_, rfl⟩, hQ w hw⟩
theorem next1_pan {g : Gr} {b1 b3 sc : Nat} {s : Bool} {T1 T3 : TypeId} {v u y : Value} {sp : Bool} {w : World} {η : List SProp} {Q : World → Prop} (hw : Holds w g (obj b1 T1 [.pointer (some ⟨sc, 0, none⟩)] :: obj b3 T3 [y] :: obj sc 87 [v, u, .bool sp] :: η))
    (hQ : ∀ w, Holds w g (obj b1 T1 [.pointer (some ⟨sc, 0, none⟩)] :: obj b3 T3 [.bool false] :: obj sc 87 [v, u, .bool s] :: η) → Q w) :
    CallsD Go.Proofs.Tryd.prog 71 #[.pointer (some ⟨b1, 0, none⟩), .pointer (some ⟨b3, 0, none⟩)] (.panicking (ends s)) w fun e u' w' => (∃ v, e = .returned v) ∧ settle u' = .returning ∧ Q w' := by
  refine (callsD_rec (R := fun e w => (∃ v, e = .returned v) ∧ Q w) [.pointer (some ⟨b1, 0, none⟩), .pointer (some ⟨b3, 0, none⟩)] rfl Go.Proofs.Tryd.func71 rfl rfl rfl rfl hw ?_).mono ?_
  rotate_left
  · rintro e u' w' ⟨rfl, ⟨v, rfl⟩, h⟩
    exact ⟨⟨v, rfl⟩, rfl, h⟩
  refine S.seq (S.region rfl ?_)
  refine O.op (.p rfl) (.mv rfl) ?_
  refine O.op (.p rfl) (.neqIV Go.Proofs.Tryd.underlying20 rfl) ?_
  refine O.nil ?_
  refine S.condT rfl ?_
  refine S.seq (S.region rfl ?_)
  refine O.op (.p rfl) (.mv rfl) ?_
  refine O.op (.p rfl) (.assertYes Go.Proofs.Tryd.underlying116 rfl) ?_
  refine O.op (.p rfl) (.mv rfl) ?_
  refine O.op (.p rfl) (.extract rfl rfl) ?_
  refine O.op (.p rfl) (.extract rfl rfl) ?_
  refine O.opE (.p rfl) (.alloc (cs := [.bool false]) Go.Proofs.Tryd.zeroValue116 rfl) ?_
  rintro _ _ ⟨b3, rfl, rfl⟩
  refine O.opU rfl (.storeObj (by kernel_rfl) rfl rfl rfl rfl (by repeat (first | exact Sel.here | apply Sel.there)) (by first | (simp; done) | (simp [Value.cells]; done))) ?_
  refine O.op (.p rfl) (.as rfl) ?_
  refine O.nil ?_
  refine S.seq (S.seq (S.region rfl ?_))
  refine O.op (.p rfl) (.mv rfl) ?_
  refine O.op (.p rfl) (.not rfl) ?_
  refine O.nil ?_
  refine S.condF rfl ?_
  refine S.skip (S.region rfl ?_)
  refine O.op (.p rfl) (.loadObj FactJourn2.flat85 rfl (by repeat (first | exact Sel.here | apply Sel.there)) rfl) ?_
  refine O.op (.p rfl) (.fieldObj FactJourn2.fld116x0 rfl) ?_
  refine O.op (.p rfl) (.loadObj FactJourn2.flat4 rfl (by repeat (first | exact Sel.here | apply Sel.there)) rfl) ?_
  refine O.op (.p rfl) (.nilCheck rfl) ?_
  refine O.op (.p rfl) (.fieldObj FactJourn2.fld87x2 rfl) ?_
  refine O.opU rfl (.store1 FactJourn2.flat4 rfl rfl (by first | rfl | assumption) (by repeat (first | exact Sel.here | apply Sel.there)) (by first | (simp; done) | (simp [Value.cells]; done))) ?_
  refine O.opU rfl (.store1 FactJourn2.flat4 rfl rfl (by first | rfl | assumption) (by repeat (first | exact Sel.here | apply Sel.there)) (by first | (simp; done) | (simp [Value.cells]; done))) ?_
  refine O.nil ?_
  refine S.end0 Go.Proofs.Tryd.results71 fun w hw => ?_
  exact ⟨⟨_, rfl⟩, hQ w (hw.picks (by repeat (first | exact Picks.all | exact Picks.nil | (apply Picks.cons; focus (repeat (first | exact Sel.here | apply Sel.there))) | apply Picks.skip)))⟩

theorem next_pan {g : Gr} {b1 b2 b3 sc : Nat} {s : Bool} {x y z v u : Value} {sp : Bool} {a : Act} {σ : List (Nat × Value)} {w : World} {θ : List SProp} {R : Ending → World → Prop} (hf : Fits a 75 σ) (h2 : Sp.look σ 2 = some (.pointer (some ⟨b2, 0, none⟩))) (h3 : Sp.look σ 3 = some (.pointer (some ⟨b3, 0, none⟩)))
    (hw : Holds w g (obj b1 85 [.pointer (some ⟨sc, 0, none⟩)] :: obj b2 25 [x, y] :: obj b3 4 [z] :: obj sc 87 [v, u, .bool sp] :: θ))
    (hR : ∀ w, Holds w g [obj sc 87 [v, u, .bool s]] → R (.returned (.tuple #[.agg #[x, y], .bool false])) w) :
    Lv Go.Proofs.Tryd.prog Go.Proofs.Tryd.f60 a.tmps R [⟨.fn (.func 71) #[.pointer (some ⟨b1, 0, none⟩), .pointer (some ⟨b3, 0, none⟩)], #[] ++ #[]⟩] (.panicking (ends s)) w :=
  leavesD (by simp) FactJourn2.ok71 (next1_pan (sp := sp) (hw.picks (bs := obj b1 85 [.pointer (some ⟨sc, 0, none⟩)] :: obj b3 4 [z] :: obj sc 87 [v, u, .bool sp] :: [obj b2 25 [x, y]]) (by repeat (first | exact Picks.all | exact Picks.nil | (apply Picks.cons; focus (repeat (first | exact Sel.here | apply Sel.there))) | apply Picks.skip))) fun w hw =>
    DEnd.two Go.Proofs.Tryd.results60 (RV.agg (cs := [x, y]) Go.Proofs.Tryd.isAgg25 (by kernel_rfl) h2 (by repeat (first | exact Sel.here | apply Sel.there))) (RV.cell FactJourn2.flat4 h3 (by repeat (first | exact Sel.here | apply Sel.there))) hf hw (hR w (hw.picks (by repeat (first | exact Picks.all | exact Picks.nil | (apply Picks.cons; focus (repeat (first | exact Sel.here | apply Sel.there))) | apply Picks.skip)))))

theorem next_c {r : Fr} {sc p : Nat} {vb : Value} {bs : List UInt8} {sp : Bool} (ha : Arr Rp.u8 r vb bs) (hp : p ≤ bs.length) :
    Con Go.Proofs.Tryd.prog 60 #[.pointer (some ⟨sc, 0, none⟩)] r [obj sc 87 [vb, .int .i64 (p : Int), .bool sp]]
      (Ret fun u η => (∃ k xs a c, scanOne (bs.drop p) = .ok (k, xs) ∧ u = .tuple #[.agg #[byteV k, .slice a xs.length c], .bool true] ∧
          η = [obj sc 87 [vb, .int .i64 ((p : Int) + (putBytes k xs).length), .bool sp], OwnP Rp.u8 5 (.slice a xs.length c) xs]) ∨
        (∃ s z a n c, scanOne (bs.drop p) = .error s ∧ u = .tuple #[.agg #[.int .u8 z, .slice a n c], .bool false] ∧ η = [obj sc 87 [vb, .int .i64 (p : Int), .bool s]])) := by
  refine Con.of (n := 75) [.pointer (some ⟨sc, 0, none⟩)] rfl Go.Proofs.Tryd.func60 rfl rfl rfl fun g hg R hR => ?_
  have ha := ha.mono hg
  obtain ⟨a1, c1, rfl⟩ := ha.shape
  have hbd := ha.bound
  refine S.seq (S.region rfl ?_)
  refine O.opE (.p rfl) (.box (cs := [_]) rfl rfl) ?_
  rintro _ _ ⟨b1, rfl, rfl⟩
  refine O.opE (.p rfl) (.alloc (cs := [.int .u8 0, .slice none 0 0]) Go.Proofs.Tryd.zeroValue25 rfl) ?_
  rintro _ _ ⟨b2, rfl, rfl⟩
  refine O.opE (.p rfl) (.alloc (cs := [.bool false]) Go.Proofs.Tryd.zeroValue4 rfl) ?_
  rintro _ _ ⟨b3, rfl, rfl⟩
  refine O.nil ?_
  refine S.seq (S.region rfl ?_)
  refine O.op (.p rfl) (.mkFunc rfl rfl) ?_
  refine O.defer rfl rfl rfl rfl ?_
  refine O.nil ?_
  refine S.seq ?_
  refine S.frzT (B := obj b1 85 [.pointer (some ⟨sc, 0, none⟩)]) (by repeat (first | exact Sel.here | apply Sel.there)) fun g1 hs1 ⟨m1, hm1', hsm1⟩ th1 => ?_
  refine S.frzT (B := obj sc 87 [.slice a1 bs.length c1, .int .i64 (p : Int), .bool sp]) (by repeat (first | exact Sel.here | apply Sel.there)) fun g2 hs2 ⟨m2, hm2', hsm2⟩ th2 => ?_
  have hat1 := (obj_at hm1').mono (Fr.sub_trans hsm1 hs2)
  have hat2 := (obj_at hm2').mono hsm2
  refine S.regionD (L := [0, 1, 2, 3, 4, 5, 6, 7, 8, 9]) FactJourn2.mixed (by kernel_rfl) ?_
  refine .quiet (.p rfl) rfl (fun _ => .loadAt FactJourn2.flat85 rfl hat1 rfl) ?_
  refine .quiet (.p rfl) rfl (fun _ => .nilCheck rfl) ?_
  refine .quiet (.p rfl) rfl (fun _ => .fieldAddr FactJourn2.fld87x0 rfl) ?_
  refine .quiet (.p rfl) rfl (fun _ => .loadAt FactJourn2.flat23 rfl hat2 rfl) ?_
  refine .quiet (.p rfl) rfl (fun _ => .loadAt FactJourn2.flat85 rfl hat1 rfl) ?_
  refine .quiet (.p rfl) rfl (fun _ => .nilCheck rfl) ?_
  refine .quiet (.p rfl) rfl (fun _ => .fieldAddr FactJourn2.fld87x1 rfl) ?_
  refine .quiet (.p rfl) rfl (fun _ => .loadAt FactJourn2.flat3 rfl (hat2.drop 1) rfl) ?_
  refine OD.sliceFrom (a := p) (.p rfl) Go.Proofs.Tryd.underlying23 FactJourn2.size5 rfl rfl (by assumption) (by first | omega | (simp; done) | (simp; omega) | decide) (by first | omega | (simp; done) | (simp; omega) | decide) (fun u17 ha17 => ?_)
  obtain ⟨a17, c17, rfl⟩ := ha17.shape
  refine .quiet (.p rfl) rfl (fun _ => .as rfl) ?_
  refine .nil ?_
  refine S.seq ?_
  refine th2 ?_
  refine th1 ?_
  have hbr := ha17.bound
  have hlr : p + (bs.drop p).length = bs.length := by simp; omega
  generalize hrest : bs.drop p = rest at *
  clear hat1 hat2 hm1' hm2' hsm1 hsm2 th1 th2 hs1 hs2 hrest
  refine S.region rfl ?_
  refine O.op (.p rfl) (.mv rfl) ?_
  refine O.op (.p rfl) (.len rfl Go.Proofs.Tryd.underlying23 rfl) ?_
  refine O.op (.p rfl) (.geq rfl rfl) ?_
  refine O.callP0D (.p rfl) rfl FactJourn2.ok72 rfl rfl (jmust_c _ _) (fun a ch η' w hF hX hW => by (obtain ⟨hb, rfl, rfl⟩ := hX; exact next_pan hF rfl rfl (hW.picks (by repeat (first | exact Picks.all | exact Picks.nil | (apply Picks.cons; focus (repeat (first | exact Sel.here | apply Sel.there))) | apply Picks.skip))) fun w hw => hR _ _ w (.inr ⟨false, _, _, _, _, scan_short (by simp at hb; omega), rfl, rfl⟩) hw)) ?_
  rintro v21 _ ⟨hb21, rfl, rfl⟩
  try simp only [List.cons_append, List.nil_append, List.append_nil]
  have h8 : 8 ≤ rest.length := by simp at hb21; omega
  refine O.nil ?_
  refine S.seq (S.region rfl ?_)
  refine O.op (.p rfl) (.mv rfl) ?_
  refine O.sliceTo (b := 8) (.p rfl) Go.Proofs.Tryd.underlying23 FactJourn2.size5 rfl rfl (by assumption) (by first | omega | (simp; done) | (simp; omega) | decide) (by first | omega | (simp; done) | (simp; omega) | decide) (fun u23 ha23 => ?_)
  obtain ⟨a23, c23, rfl⟩ := ha23.shape
  refine O.call0 (.p rfl) rfl FactJourn2.ok73 rfl rfl (wNewReader_c (by first | assumption | exact Arr.mono hg (by assumption) | exact Arr.left (by assumption) | exact Arr.left (Arr.mono hg (by assumption))) (by first | omega | (simp; done) | (simp; omega) | decide)) ?_
  rintro v24 _ ⟨b24, a24, c24, rfl, rfl⟩
  try simp only [List.cons_append, List.nil_append, List.append_nil]
  refine O.frzA (by repeat (first | exact Sel.here | apply Sel.there)) fun g hs hm ha24 => ?_
  replace hg := Fr.sub_trans hg hs
  replace hR := melted hR hm
  try replace ha17 := ha17.mono hs
  clear hs hm
  refine O.callS (.p rfl) rfl FactJourn2.ok74 rfl rfl (by repeat (first | exact Sel.here | apply Sel.there)) (rNumber_c (by first | assumption | exact Arr.mono hg (by assumption) | exact Arr.left (by assumption) | exact Arr.left (Arr.mono hg (by assumption)))) ?_
  rintro v25 _ ⟨v25', rfl, ha25, rfl⟩
  try simp only [List.cons_append, List.nil_append, List.append_nil]
  refine O.slot 25 (v' := .int .i64 (ofBe rest)) rfl (by exact congrArg _ (rnum8 h8)) ?_
  refine O.op (.p rfl) (.as rfl) ?_
  refine O.nil ?_
  refine S.seq (S.region rfl ?_)
  refine O.op (.p rfl) (.mv rfl) ?_
  refine O.op (.p rfl) (.geq rfl rfl) ?_
  refine O.op (.p rfl) (.mv rfl) ?_
  first | refine O.caseD 28 rfl (fun h28 => ?_) (fun h28 => ?_) | refine O.caseB 28 rfl (fun h28 => ?_) (fun h28 => ?_)
  · refine O.op (.g rfl rfl) (.mv rfl) ?_
    refine O.op (.g rfl rfl) (.leq rfl rfl) ?_
    refine O.op (.p rfl) (.pickT rfl rfl) ?_
    refine O.callP0D (.p rfl) rfl FactJourn2.ok72 rfl rfl (jmust_c _ _) (fun a ch η' w hF hX hW => by (obtain ⟨hb, rfl, rfl⟩ := hX; exact next_pan hF rfl rfl (hW.picks (by repeat (first | exact Picks.all | exact Picks.nil | (apply Picks.cons; focus (repeat (first | exact Sel.here | apply Sel.there))) | apply Picks.skip))) fun w hw => hR _ _ w (.inr ⟨true, _, _, _, _, scan_num h8 (by simp at hb; omega), rfl, rfl⟩) hw)) ?_
    rintro v32 _ ⟨hb32, rfl, rfl⟩
    try simp only [List.cons_append, List.nil_append, List.append_nil]
    have h1 : 1 ≤ ofBe rest ∧ ofBe rest ≤ 262145 := by simp at hb32; omega
    refine O.nil ?_
    refine S.seq (S.region rfl ?_)
    refine O.op (.p rfl) (.mv rfl) ?_
    refine O.op (.p rfl) (.len rfl Go.Proofs.Tryd.underlying23 rfl) ?_
    refine O.op (.p rfl) (.mv rfl) ?_
    refine O.op (.p rfl) (.add rfl rfl (IntWalk.i64_in _ (by omega))) ?_
    refine O.op (.p rfl) (.geq rfl rfl) ?_
    refine O.callP0D (.p rfl) rfl FactJourn2.ok72 rfl rfl (jmust_c _ _) (fun a ch η' w hF hX hW => by (obtain ⟨hb, rfl, rfl⟩ := hX; exact next_pan hF rfl rfl (hW.picks (by repeat (first | exact Picks.all | exact Picks.nil | (apply Picks.cons; focus (repeat (first | exact Sel.here | apply Sel.there))) | apply Picks.skip))) fun w hw => hR _ _ w (.inr ⟨false, _, _, _, _, scan_cut h8 h1 (by simp at hb; omega), rfl, rfl⟩) hw)) ?_
    rintro v38 _ ⟨hb38, rfl, rfl⟩
    try simp only [List.cons_append, List.nil_append, List.append_nil]
    have h16 : 16 + ofBe rest ≤ (rest.length : Int) := by simp at hb38; omega
    refine O.nil ?_
    refine S.seq (S.regionD (L := [0, 1, 2, 3, 4, 5, 6, 7, 8, 9, 10, 11, 12]) FactJourn2.mixed (by kernel_rfl) ?_)
    refine .quiet (.p rfl) rfl (fun _ => .mv rfl) ?_
    refine OD.idx' (.p rfl) Go.Proofs.Tryd.underlying23 FactJourn2.size5 rfl rfl (show _ = ((8 : Nat) : Int) from rfl) (by first | assumption | exact Arr.mono hg (by assumption) | exact Arr.left (by assumption) | exact Arr.left (Arr.mono hg (by assumption))) (by decide) (by first | omega | (simp; done) | (simp; omega) | decide) (fun p40 cs40 hp40 hr40 => ?_)
    cases hr40
    refine .quiet (.p rfl) rfl (fun _ => .loadAt FactJourn2.flat5 rfl hp40 rfl) ?_
    refine .quiet (.p rfl) rfl (fun _ => .mv rfl) ?_
    refine .quiet (.p rfl) rfl (fun _ => .mv rfl) ?_
    refine .quiet (.p rfl) rfl (fun _ => .add rfl rfl (IntWalk.i64_in _ (by omega))) ?_
    refine OD.sliceMid (a := 9) (b := 8 + (ofBe rest).toNat) (.p rfl) Go.Proofs.Tryd.underlying23 FactJourn2.size5 rfl rfl rfl (by assumption) (by first | omega | (simp; done) | (simp; omega) | decide) (by first | omega | (simp; done) | (simp; omega) | decide) (by first | omega | (simp; done) | (simp; omega) | decide) (by first | omega | (simp; done) | (simp; omega) | decide) (fun u45 ha45 => ?_)
    obtain ⟨a45, c45, rfl⟩ := ha45.shape
    refine OD.call0 (.p rfl) (by kernel_rfl) rfl FactJourn2.ok75 rfl rfl (bclone_c (by first | assumption | exact Arr.mono hg (by assumption) | exact Arr.left (by assumption) | exact Arr.left (Arr.mono hg (by assumption))) (by first | omega | (simp; done) | (simp; omega) | decide)) ?_
    rintro v46 _ ⟨a46, c46, rfl, rfl⟩
    try simp only [List.cons_append, List.nil_append, List.append_nil]
    refine OD.storeObj rfl (by kernel_rfl) (by kernel_rfl) rfl rfl rfl rfl (by repeat (first | exact Sel.here | apply Sel.there)) (by first | (simp; done) | (simp [Value.cells]; done)) ?_
    refine .quiet (.p rfl) rfl (fun _ => .fieldObj FactJourn2.fld25x0 rfl) ?_
    refine OD.store1 rfl (by kernel_rfl) FactJourn2.flat22 rfl rfl (by first | rfl | assumption) (by repeat (first | exact Sel.here | apply Sel.there)) (by first | (simp; done) | (simp [Value.cells]; done)) ?_
    refine .quiet (.p rfl) rfl (fun _ => .fieldObj FactJourn2.fld25x1 rfl) ?_
    refine OD.store1 rfl (by kernel_rfl) FactJourn2.flat23 rfl rfl (by first | rfl | assumption) (by repeat (first | exact Sel.here | apply Sel.there)) (by first | (simp; done) | (simp [Value.cells]; done)) ?_
    refine .nil ?_
    refine S.seq ?_
    have hk : rest.getD 8 0 = rest[8] := by rw [List.getD_eq_getElem?_getD, List.getElem?_eq_getElem (by omega)]; rfl
    generalize rest[8] = k at *
    generalize hxs : List.drop 9 (List.take (8 + (ofBe rest).toNat) rest) = xs at *
    refine S.objIs (b := b2) (cs' := [byteV k, .slice a46 xs.length c46]) (by repeat (first | exact Sel.here | apply Sel.there)) rfl ?_
    refine S.region rfl ?_
    refine O.op (.p rfl) (.loadObjAgg (news := [_, _]) Go.Proofs.Tryd.isAgg25 (by kernel_rfl) rfl (by repeat (first | exact Sel.here | apply Sel.there)) rfl) ?_
    refine O.callB (.p rfl) rfl FactJourn2.ok24 rfl rfl (bs := [OwnP Rp.u8 5 (.slice a46 xs.length c46) xs]) (by repeat (first | exact Sels.nil | (apply Sels.cons; focus (repeat (first | exact Sel.here | apply Sel.there))))) (fun m hm hd => put_c (k := k) (hm.arr.right hd)) ?_
    rintro v51 _ ⟨a51, c51, rfl, rfl⟩
    try simp only [List.cons_append, List.nil_append, List.append_nil]
    refine O.op (.p rfl) (.mv rfl) ?_
    refine O.op (.p rfl) (.extract rfl rfl) ?_
    refine O.op (.p rfl) (.extract rfl rfl) ?_
    refine O.op (.p rfl) (.as rfl) ?_
    refine O.op (.p rfl) (.as rfl) ?_
    refine O.nil ?_
    refine S.seq (S.region rfl ?_)
    refine O.op (.p rfl) (.mv rfl) ?_
    refine O.op (.p rfl) (.eql rfl rfl) ?_
    refine O.op (.p rfl) (.mv rfl) ?_
    first | refine O.caseD 56 rfl (fun h56 => ?_) (fun h56 => ?_) | refine O.caseB 56 rfl (fun h56 => ?_) (fun h56 => ?_)
    · refine O.op (.g rfl rfl) (.mv rfl) ?_
      refine O.op (.g rfl rfl) (.mv rfl) ?_
      refine O.op (.g rfl rfl) (.mv rfl) ?_
      refine O.op (.g rfl rfl) (.add rfl rfl (IntWalk.i64_in _ (by omega))) ?_
      refine O.sliceTo (b := 16 + (ofBe rest).toNat) (.g rfl rfl) Go.Proofs.Tryd.underlying23 FactJourn2.size5 rfl rfl (by assumption) (by first | omega | (simp; done) | (simp; omega) | decide) (by first | omega | (simp; done) | (simp; omega) | decide) (fun u61 ha61 => ?_)
      obtain ⟨a61, c61, rfl⟩ := ha61.shape
      refine O.callB (.g rfl rfl) rfl FactJourn2.ok76 rfl rfl (bs := [OwnP Rp.u8 5 (.slice a51 (putOut k xs).length c51) (putOut k xs)]) (by repeat (first | exact Sels.nil | (apply Sels.cons; focus (repeat (first | exact Sel.here | apply Sel.there))))) (fun m hm hd => bequal_c (hm.arr.right hd) (ha61.left)) ?_
      rintro v62 _ ⟨rfl, rfl⟩
      try simp only [List.cons_append, List.nil_append, List.append_nil]
      refine O.op (.p rfl) (.pickT rfl rfl) ?_
      refine O.callP0D (.p rfl) rfl FactJourn2.ok72 rfl rfl (jmust_c _ _) (fun a ch η' w hF hX hW => by (obtain ⟨hb, rfl, rfl⟩ := hX; exact next_pan hF rfl rfl (hW.picks (by repeat (first | exact Picks.all | exact Picks.nil | (apply Picks.cons; focus (repeat (first | exact Sel.here | apply Sel.there))) | apply Picks.skip))) fun w hw => hR _ _ w (.inr ⟨true, _, _, _, _, scan_bad h8 h1 h16 (by rw [hk, hxs]; simp at hb; exact fun q => hb q.2), rfl, rfl⟩) hw)) ?_
      rintro v64 _ ⟨hb64, rfl, rfl⟩
      try simp only [List.cons_append, List.nil_append, List.append_nil]
      have he : putOut k xs = rest.take (16 + (ofBe rest).toNat) := by simpa using hb64
      have hle : (putOut k xs).length ≤ rest.length := by rw [he, List.length_take]; omega
      refine O.nil ?_
      refine S.seq (S.region rfl ?_)
      refine O.op (.p rfl) (.loadObj FactJourn2.flat85 rfl (by repeat (first | exact Sel.here | apply Sel.there)) rfl) ?_
      refine O.op (.p rfl) (.nilCheck rfl) ?_
      refine O.op (.p rfl) (.fieldObj FactJourn2.fld87x1 rfl) ?_
      refine O.op (.p rfl) (.loadObj FactJourn2.flat3 rfl (by repeat (first | exact Sel.here | apply Sel.there)) rfl) ?_
      refine O.op (.p rfl) (.mv rfl) ?_
      refine O.op (.p rfl) (.len rfl Go.Proofs.Tryd.underlying23 rfl) ?_
      refine O.op (.p rfl) (.add rfl rfl (IntWalk.i64_in _ (by omega))) ?_
      refine O.op (.p rfl) (.nilCheck rfl) ?_
      refine O.op (.p rfl) (.fieldObj FactJourn2.fld87x1 rfl) ?_
      refine O.opU rfl (.store1 FactJourn2.flat3 rfl rfl (by first | rfl | assumption) (by repeat (first | exact Sel.here | apply Sel.there)) (by first | (simp; done) | (simp [Value.cells]; done))) ?_
      refine O.nil ?_
      refine S.seq (S.region rfl ?_)
      refine O.op (.p rfl) (.loadObjAgg (news := [_, _]) Go.Proofs.Tryd.isAgg25 (by kernel_rfl) rfl (by repeat (first | exact Sel.here | apply Sel.there)) rfl) ?_
      refine O.opU rfl (.storeObj (by kernel_rfl) rfl rfl rfl rfl (by repeat (first | exact Sel.here | apply Sel.there)) (by first | (simp; done) | (simp [Value.cells]; done))) ?_
      refine O.opU rfl (.store1 FactJourn2.flat4 rfl rfl (by first | rfl | assumption) (by repeat (first | exact Sel.here | apply Sel.there)) (by first | (simp; done) | (simp [Value.cells]; done))) ?_
      refine O.nil ?_
      have e0 : putErr k xs = 0 := by assumption
      have eo : putOut k xs = putBytes k xs := by simp [putOut, e0]
      rw [eo] at he
      rw [eo]
      refine S.retL fun a w hf hd hw => ?_
      exact leavesD (by simp) FactJourn2.ok71 (next1_ret hw fun w hw => DEnd.two Go.Proofs.Tryd.results60 (RV.agg (cs := [byteV k, .slice a46 xs.length c46]) Go.Proofs.Tryd.isAgg25 (by kernel_rfl) rfl (by repeat (first | exact Sel.here | apply Sel.there))) (RV.cell FactJourn2.flat4 rfl (by repeat (first | exact Sel.here | apply Sel.there))) hf hw
        (Holds.end_ hR hw ⟨_, .inl ⟨k, xs, a46, c46, by rw [← hk, ← hxs]; exact scan_ok h8 h1 h16 (by rw [hk, hxs]; exact ⟨e0, eo.trans he⟩), rfl, rfl⟩, by repeat (first | exact Picks.all | exact Picks.nil | (apply Picks.cons; focus (repeat (first | exact Sel.here | apply Sel.there))) | apply Picks.skip)⟩))
    · refine O.opN rfl rfl rfl ?_
      refine O.opN rfl rfl rfl ?_
      refine O.opN rfl rfl rfl ?_
      refine O.opN rfl rfl rfl ?_
      refine O.opN rfl rfl rfl ?_
      refine O.opN rfl rfl rfl ?_
      refine O.op (.p rfl) (.pickF rfl rfl) ?_
      refine O.callP0D (.p rfl) rfl FactJourn2.ok72 rfl rfl (jmust_c _ _) (fun a ch η' w hF hX hW => by (obtain ⟨hb, rfl, rfl⟩ := hX; exact next_pan hF rfl rfl (hW.picks (by repeat (first | exact Picks.all | exact Picks.nil | (apply Picks.cons; focus (repeat (first | exact Sel.here | apply Sel.there))) | apply Picks.skip))) fun w hw => hR _ _ w (.inr ⟨true, _, _, _, _, scan_bad h8 h1 h16 (by rw [hk, hxs]; exact fun q => h56 q.1), rfl, rfl⟩) hw)) ?_
      rintro v64 _ ⟨hb64, rfl, rfl⟩
      try simp only [List.cons_append, List.nil_append, List.append_nil]
      exact absurd hb64 (by simp)
  · refine O.opN rfl rfl rfl ?_
    refine O.opN rfl rfl rfl ?_
    refine O.op (.p rfl) (.pickF rfl rfl) ?_
    refine O.callP0D (.p rfl) rfl FactJourn2.ok72 rfl rfl (jmust_c _ _) (fun a ch η' w hF hX hW => by (obtain ⟨hb, rfl, rfl⟩ := hX; exact next_pan hF rfl rfl (hW.picks (by repeat (first | exact Picks.all | exact Picks.nil | (apply Picks.cons; focus (repeat (first | exact Sel.here | apply Sel.there))) | apply Picks.skip))) fun w hw => hR _ _ w (.inr ⟨true, _, _, _, _, scan_num h8 (by omega), rfl, rfl⟩) hw)) ?_
    rintro v32 _ ⟨hb32, rfl, rfl⟩
    try simp only [List.cons_append, List.nil_append, List.append_nil]
    exact absurd hb32 (by simp)

end Go.Proofs.YtcghiboamlaenaaDoor
