import Derived.Test.YtcghiboamlaenaaDoorDisk6
import Derived.Test.YtcghiboamlaenaaDoorJourn5
open Go Go.Sp
set_option maxRecDepth 100000
attribute [local irreducible] obj Own OwnP
namespace Go.Proofs.YtcghiboamlaenaaDoor
theorem FactDisk7.elem5 : elemIs Go.Proofs.Tryd.prog 5 1 1 [.int .u8 0] := elemIs.mk (by kernel_rfl) rfl
theorem FactDisk7.flat27 : Go.Sp.flat1 Go.Proofs.Tryd.prog 27 = true := by kernel_rfl
theorem FactDisk7.fld29x0 : fieldOff Go.Proofs.Tryd.prog 29 0 = some 0 := by kernel_rfl
theorem FactDisk7.fld31x0 : fieldOff Go.Proofs.Tryd.prog 31 0 = some 0 := by kernel_rfl
theorem FactDisk7.ok24 : callable Go.Proofs.Tryd.prog 24 = true := by kernel_rfl
theorem FactDisk7.ok25 : callable Go.Proofs.Tryd.prog 25 = true := by kernel_rfl
theorem FactDisk7.size25 : (Go.Proofs.Tryd.prog.info? 25).map (·.size) = some 2 := by kernel_rfl

/-- the first error of entries, put one by one -/
def firstErr : List Ent → Int
  | [] => 0
  | e :: es => if putErr e.1 e.2.1 = 0 then firstErr es else putErr e.1 e.2.1
theorem firstErr_append (a b : List Ent) : firstErr (a ++ b) = if firstErr a = 0 then firstErr b else firstErr a := by
  induction a with
  | nil => simp [firstErr]
  | cons e a ih =>
    simp only [List.cons_append, firstErr]
    split
    · exact ih
    · rfl
theorem firstErr_snoc (a : List Ent) (e : Ent) : firstErr (a ++ [e]) = if firstErr a = 0 then putErr e.1 e.2.1 else firstErr a := by
  rw [firstErr_append]
  have : firstErr [e] = putErr e.1 e.2.1 := by simp only [firstErr]; split; exact Eq.symm (by assumption); rfl
  rw [this]
theorem firstErr_take {es : List Ent} {i : Nat} (h : firstErr (es.take i) ≠ 0) : firstErr es = firstErr (es.take i) := by
  have := firstErr_append (es.take i) (es.drop i)
  rw [List.take_append_drop, if_neg h] at this
  exact this
theorem firstErr_zero : ∀ {es : List Ent}, firstErr es = 0 ↔ ∀ e ∈ es, putErr e.1 e.2.1 = 0
  | [] => by simp [firstErr]
  | e :: es => by
    have ih := firstErr_zero (es := es)
    simp only [firstErr, List.mem_cons, forall_eq_or_imp]
    split
    · rename_i h; simp [h, ih]
    · rename_i h; simp [h]
theorem flatE_big : ∀ {es : List Ent}, firstErr es = 0 → (flatE es).length ≤ 262161 * es.length
  | [], _ => by simp [flatE]
  | e :: es, h => by
    have h0 := firstErr_zero.1 h
    have hl := (putErr_ok (h0 e (by simp))).2
    have ih := flatE_big (es := es) (firstErr_zero.2 fun x hx => h0 x (by simp [hx]))
    rw [flatE_cons, List.length_append, putBytes_length, List.length_cons]
    omega
def jAppE (m : DiskM) (name : List UInt8) (es : List Ent) : Int := if firstErr es = 0 then dAppE m name (flatE es) else firstErr es
def jAppM (m : DiskM) (name : List UInt8) (es : List Ent) : DiskM := if firstErr es = 0 then putM m name (flatE es) else m
theorem jAppM_ok {m : DiskM} {name : List UInt8} {es : List Ent} (ok : DOk m) : DOk (jAppM m name es) := by unfold jAppM; split; exact putM_ok ok; exact ok
theorem jAppM_room (m : DiskM) (name : List UInt8) (es : List Ent) : (jAppM m name es).room = m.room := by unfold jAppM; split; exact putM_room ..; rfl
theorem jappend_g {r : Fr} {j d q1 q2 : Nat} {m : DiskM} {name : List UInt8} {es : List Ent} {ve : Value} (haj : At r ⟨j, 0, none⟩ [.pointer (some ⟨d, 0, none⟩), .string (str name)]) (hat : At r ⟨d, 0, none⟩ (dC q1 q2 m.room)) (ok : DOk m) (he : Arr EntRp r ve es) (hn : name.length ≤ 9223372036854775807) (hel : es.length ≤ 3000) :
    Con Go.Proofs.Tryd.prog 7 #[.pointer (some ⟨j, 0, none⟩), ve] r (dW q1 q2 m) (Ret fun v η => v = .int .i64 (jAppE m name es) ∧ η = dW q1 q2 (jAppM m name es)) := by
  refine Con.of (n := 43) [.pointer (some ⟨j, 0, none⟩), ve] rfl Go.Proofs.Tryd.func7 rfl rfl rfl fun g hg R hR => ?_
  replace haj : At g.h ⟨j, 0, none⟩ [.pointer (some ⟨d, 0, none⟩), .string (str name)] := At.mono hg haj
  replace hat : At g.h ⟨d, 0, none⟩ (dC q1 q2 m.room) := At.mono hg hat
  have he := he.mono hg
  obtain ⟨ab, cb, rfl⟩ := he.shape
  refine S.seq (S.region rfl ?_)
  refine O.op (.p rfl) (.as rfl) ?_
  refine O.nil ?_
  refine S.seq (S.seq (S.region rfl ?_))
  refine O.op (.p rfl) (.mv rfl) ?_
  refine O.op (.p rfl) (.eqlP Go.Proofs.Tryd.underlying26 rfl rfl) ?_
  refine O.slot 11 (v' := .bool false) rfl (congrArg Value.bool (by rfl)) ?_
  refine O.op (.p rfl) (.mv rfl) ?_
  refine O.op (.g rfl rfl) (.mv rfl) ?_
  refine O.op (.g rfl rfl) (.nilCheck rfl) ?_
  refine O.op (.g rfl rfl) (.fieldAddr FactDisk7.fld31x0 rfl) ?_
  refine O.op (.g rfl rfl) (.fieldAddr FactDisk7.fld29x0 rfl) ?_
  refine O.op (.g rfl rfl) (.loadAt FactDisk7.flat27 rfl haj rfl) ?_
  refine O.op (.g rfl rfl) (.eqlP Go.Proofs.Tryd.underlying27 rfl rfl) ?_
  refine O.slot 18 (v' := .bool false) rfl (congrArg Value.bool (by rfl)) ?_
  refine O.op (.p rfl) (.pickF rfl rfl) ?_
  refine O.nil ?_
  refine S.condF rfl ?_
  refine S.skip (S.seq (S.region rfl ?_))
  refine O.op (.p rfl) (.as rfl) ?_
  refine O.nil ?_
  refine S.seq (S.seq (S.region rfl ?_))
  refine O.op (.p rfl) (.mv rfl) ?_
  refine O.op (.p rfl) (.len rfl Go.Proofs.Tryd.underlying35 rfl) ?_
  refine O.op (.p rfl) (.mv rfl) ?_
  refine O.nil ?_
  refine S.block ?_
  refine S.addNil (T := Rp.u8) (e := 5) ?_
  refine S.loopK2 (ι := Nat) (κ := Option Addr × Nat) (fun i s5 => i ≤ es.length ∧ firstErr (es.take i) = 0) (fun i s5 => [(22, .int .i64 (i : Int)), (5, .slice s5.1 (flatE (es.take i)).length s5.2)]) [(0, _), (20, _), (21, _)] (fun i s5 => [OwnP Rp.u8 5 (.slice s5.1 (flatE (es.take i)).length s5.2) (flatE (es.take i)), MapT q1 m.safe m.c1, MapT q2 m.loose m.c2]) (fun i s5 => es.length - i) (0) ((none, 0)) (by exact ⟨Nat.zero_le _, by rw [List.take_zero]; rfl⟩) (.cons rfl (.cons rfl (.nil))) (.cons rfl (.cons rfl (.cons rfl (.nil)))) rfl fun i s5 hx ih => ?_
  have hm1 := meltRefl (g := g)
  obtain ⟨hx1, hz⟩ := hx
  have hbi := flatE_big hz
  have hli : (es.take i).length ≤ 3000 := by rw [List.length_take]; omega
  refine S.seq (S.region rfl ?_)
  refine O.op (.p rfl) (.lss rfl rfl) ?_
  refine O.nil ?_
  refine S.seq ?_
  first | refine S.condD rfl (fun h23 => ?_) (fun h23 => ?_) | refine S.condB rfl (fun h23 => ?_) (fun h23 => ?_)
  · have hi : i < es.length := by omega
    have h20 : es.take (i + 1) = es.take i ++ [es[i]] := List.take_succ_eq_append_getElem hi
    have hsn := firstErr_snoc (es.take i) es[i]
    rw [if_pos hz, ← h20] at hsn
    refine S.skip (S.seq (S.block (S.seq (S.region rfl ?_))))
    refine O.idx' (.p rfl) Go.Proofs.Tryd.underlying35 FactDisk7.size25 rfl rfl rfl (by first | assumption | exact Arr.mono hg (by assumption) | exact Arr.left (by assumption) | exact Arr.left (Arr.mono hg (by assumption))) (by decide) (by first | omega | (simp; done) | (simp; omega) | decide) (fun p24 cs24 hp24 hr24 => ?_)
    obtain ⟨v24, rfl, ha24⟩ := EntRp.open hr24; obtain ⟨a24, c24, rfl⟩ := ha24.shape
    refine O.op (.p rfl) (.loadAgg Go.Proofs.Tryd.isAgg25 (by kernel_rfl) rfl hp24) ?_
    refine O.opE (.p rfl) (.alloc (cs := [.int .u8 0, .slice none 0 0]) Go.Proofs.Tryd.zeroValue25 rfl) ?_
    rintro _ _ ⟨b7, rfl, rfl⟩
    refine O.opU rfl (.storeObj (by kernel_rfl) rfl rfl rfl rfl (by repeat (first | exact Sel.here | apply Sel.there)) (by first | (simp; done) | (simp [Value.cells]; done))) ?_
    refine O.nil ?_
    refine S.seq (S.region rfl ?_)
    refine O.op (.p rfl) (.loadObjAgg (news := [_, _]) Go.Proofs.Tryd.isAgg25 (by kernel_rfl) rfl (by repeat (first | exact Sel.here | apply Sel.there)) rfl) ?_
    refine O.call0 (.p rfl) rfl FactDisk7.ok24 rfl rfl (put_c (by first | assumption | exact Arr.mono hg (by assumption) | exact Arr.left (by assumption) | exact Arr.left (Arr.mono hg (by assumption)))) ?_
    rintro v28 _ ⟨a28, c28, rfl, rfl⟩
    try simp only [List.cons_append, List.nil_append, List.append_nil]
    refine O.op (.p rfl) (.mv rfl) ?_
    refine O.op (.p rfl) (.extract rfl rfl) ?_
    refine O.op (.p rfl) (.extract rfl rfl) ?_
    refine O.op (.p rfl) (.as rfl) ?_
    refine O.op (.p rfl) (.as rfl) ?_
    refine O.nil ?_
    refine S.seq (S.seq (S.region rfl ?_))
    refine O.op (.p rfl) (.mv rfl) ?_
    refine O.op (.p rfl) (.neq rfl rfl) ?_
    refine O.nil ?_
    first | refine S.condD rfl (fun h32 => ?_) (fun h32 => ?_) | refine S.condB rfl (fun h32 => ?_) (fun h32 => ?_)
    · have hne : ¬ putErr es[i].1 es[i].2.1 = 0 := by simpa using h32
      have hfe : firstErr es = putErr es[i].1 es[i].2.1 := by rw [← hsn]; exact firstErr_take (by rw [hsn]; exact hne)
      have e1 : jAppE m name es = putErr es[i].1 es[i].2.1 := by unfold jAppE; rw [hfe, if_neg hne]
      have e2 : jAppM m name es = m := by unfold jAppM; rw [hfe, if_neg hne]
      rw [e1, e2] at hR
      refine S.seq (S.region rfl ?_)
      refine O.op (.p rfl) (.mv rfl) ?_
      refine O.op (.p rfl) (.as rfl) ?_
      refine O.nil ?_
      refine S.ret Go.Proofs.Tryd.results7 rfl fun w hw => Holds.end_ hR hw ?_
      exact ⟨_, ⟨rfl, rfl⟩, by repeat (first | exact Picks.all | exact Picks.nil | (apply Picks.cons; focus (repeat (first | exact Sel.here | apply Sel.there))) | apply Picks.skip)⟩
    · have he0 : putErr es[i].1 es[i].2.1 = 0 := by simpa using h32
      have eo : putOut es[i].1 es[i].2.1 = putBytes es[i].1 es[i].2.1 := by simp [putOut, he0]
      have hfl := flatE_snoc (es.take i) es[i]
      rw [← h20] at hfl
      have hfl2 : (flatE (es.take (i + 1))).length = (flatE (es.take i)).length + (putBytes es[i].1 es[i].2.1).length := by rw [hfl, List.length_append]
      have hpl := putBytes_length es[i].1 es[i].2.1
      have hpb := (putErr_ok he0).2
      rw [eo]
      refine S.skip (S.region rfl ?_)
      refine O.op (.p rfl) (.mv rfl) ?_
      refine O.op (.p rfl) (.mv rfl) ?_
      refine O.opE (.p rfl) (.appendO (T := Rp.u8) Go.Proofs.Tryd.underlying23 FactDisk7.elem5 (by decide) rfl rfl (by repeat (first | exact Sel.here | apply Sel.there)) (by repeat (first | exact Sel.here | apply Sel.there)) (by first | omega | (simp; done) | (simp; omega) | decide) (by first | omega | (simp; done) | (simp; omega) | decide)) ?_
      rintro v36 _ ⟨a36, c36, rfl, rfl⟩
      refine O.op (.p rfl) (.as rfl) ?_
      refine O.nil ?_
      refine S.inBlock (S.region rfl ?_)
      refine O.op (.p rfl) (.add rfl rfl (IntWalk.i64_in _ (by omega))) ?_
      refine O.op (.p rfl) (.mv rfl) ?_
      refine O.nil ?_
      rw [← hfl2, ← hfl]
      refine S.pk ?_ (S.weaken ?_ (ih (i + 1) ((a36, c36)) (by exact ⟨by omega, by rw [hsn]; exact he0⟩) (by omega)))
      · repeat (first | exact Picks.all | exact Picks.nil | (apply Picks.cons; focus (repeat (first | exact Sel.here | apply Sel.there))) | apply Picks.skip)
      repeat (first | exact Sub.nil | refine Sub.cons rfl ?_)
  · clear ih
    have hi : i = es.length := by omega
    subst hi
    rw [List.take_length] at hz hbi ⊢
    have e1 : jAppE m name es = dAppE m name (flatE es) := by unfold jAppE; rw [if_pos hz]
    have e2 : jAppM m name es = putM m name (flatE es) := by unfold jAppM; rw [if_pos hz]
    rw [e1, e2] at hR
    refine S.frzA (by repeat (first | exact Sel.here | apply Sel.there)) fun g hs hm hall => ?_
    replace hg := Fr.sub_trans hg hs
    replace hR := melted hR hm
    try replace haj := haj.mono hs
    try replace hat := hat.mono hs
    replace hm1 := meltTrans hm1 hm
    clear hs hm
    refine S.exit rfl ?_
    refine S.seq (S.region rfl ?_)
    refine O.op (.p rfl) (.mv rfl) ?_
    refine O.op (.p rfl) (.nilCheck rfl) ?_
    refine O.op (.p rfl) (.fieldAddr FactDisk7.fld31x0 rfl) ?_
    refine O.op (.p rfl) (.mv rfl) ?_
    refine O.callSs (.p rfl) rfl FactDisk7.ok25 rfl rfl (by repeat (first | exact Sels.nil | (apply Sels.cons; focus (repeat (first | exact Sel.here | apply Sel.there))))) (fput_g (name := name) haj hat ok hall hn (by omega)) ?_
    rintro v42 _ ⟨rfl, rfl⟩
    try simp only [List.cons_append, List.nil_append, List.append_nil]
    refine O.op (.p rfl) (.as rfl) ?_
    refine O.nil ?_
    refine S.ret Go.Proofs.Tryd.results7 rfl fun w hw => Holds.end_ hR hw ?_
    exact ⟨_, ⟨rfl, rfl⟩, by repeat (first | exact Picks.all | exact Picks.nil | (apply Picks.cons; focus (repeat (first | exact Sel.here | apply Sel.there))) | apply Picks.skip)⟩

end Go.Proofs.YtcghiboamlaenaaDoor
