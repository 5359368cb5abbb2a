import Derived.Test.YtcghiboamlaenaaDoorDisk10
open Go Go.Sp
set_option maxRecDepth 100000
attribute [local irreducible] obj Own OwnP
namespace Go.Proofs.YtcghiboamlaenaaDoor
theorem FactDisk11.elem25 : elemIs Go.Proofs.Tryd.prog 25 2 32 [.int .u8 0, .slice none 0 0] := elemIs.mk (by kernel_rfl) rfl
theorem FactDisk11.mixed : Go.Proofs.Tryd.prog.follows .mixedOrders = true := by kernel_rfl
theorem FactDisk11.ok10 : callable Go.Proofs.Tryd.prog 10 = true := by kernel_rfl
theorem FactDisk11.ok11 : callable Go.Proofs.Tryd.prog 11 = true := by kernel_rfl
theorem FactDisk11.ok12 : callable Go.Proofs.Tryd.prog 12 = true := by kernel_rfl
theorem FactDisk11.ok13 : callable Go.Proofs.Tryd.prog 13 = true := by kernel_rfl
theorem FactDisk11.ok15 : callable Go.Proofs.Tryd.prog 15 = true := by kernel_rfl
theorem FactDisk11.ok20 : callable Go.Proofs.Tryd.prog 20 = true := by kernel_rfl
theorem FactDisk11.ok24 : callable Go.Proofs.Tryd.prog 24 = true := by kernel_rfl
theorem FactDisk11.ok7 : callable Go.Proofs.Tryd.prog 7 = true := by kernel_rfl
theorem FactDisk11.ok8 : callable Go.Proofs.Tryd.prog 8 = true := by kernel_rfl
theorem FactDisk11.ok9 : callable Go.Proofs.Tryd.prog 9 = true := by kernel_rfl
theorem FactDisk11.size25 : (Go.Proofs.Tryd.prog.info? 25).map (·.size) = some 2 := by kernel_rfl

/-- the other file's name -/
abbrev jname : List UInt8 := [106]
theorem jname_ok : nameOk jname = true := by decide
theorem append_w {r : Fr} {d q1 q2 : Nat} {T : TypeId} {m : DiskM} {name b : List UInt8} {vb : Value} (hat : At r ⟨d, 0, none⟩ (dC q1 q2 m.room)) (ok : DOk m) (hn : name.length ≤ 9223372036854775807) (hbl : b.length ≤ 1000000000000) :
    Con Go.Proofs.Tryd.prog 10 #[.pointer (some ⟨d, 0, none⟩), .string (str name), vb] r [MapT q1 m.safe m.c1, MapT q2 m.loose m.c2, OwnP Rp.u8 T vb b]
      (Ret fun v η => v = .int .i64 (dAppE m name b) ∧ η = [MapT q1 (dAppM m name b).safe (dAppM m name b).c1, MapT q2 (dAppM m name b).loose (dAppM m name b).c2, OwnP Rp.u8 T vb b]) :=
  Con.mono (Con.lentW fun mm hm hd => append_g (hat.mono (Fr.sub_add_left _ _)) ok (hm.arr.right hd) hn hbl) (Ret.imp fun _ _ ⟨_, ⟨a, b⟩, c⟩ => ⟨a, by rw [c, b]; rfl⟩)
theorem jpart_c {r : Fr} {va vb : Value} {sf ls : List EntT} {keep : Int} (ha : Arr EntRp r va sf) (hb : Arr EntRp r vb ls) (hla : sf.length ≤ 140737488355328) (hlb : ls.length ≤ 140737488355328) :
    Con Go.Proofs.Tryd.prog 6 #[va, vb, .int .i64 keep] r [] (Ret fun v η => v = .bool true ∧ η = []) := by
  refine Con.of (n := 103) [va, vb, .int .i64 keep] rfl Go.Proofs.Tryd.func6 rfl rfl rfl fun g hg R hR => ?_
  have ha := ha.mono hg
  have hb := hb.mono hg
  obtain ⟨a1, c1, rfl⟩ := ha.shape
  obtain ⟨a2, c2, rfl⟩ := hb.shape
  refine S.seq (S.region rfl ?_)
  refine O.op (.p rfl) (.as rfl) ?_
  refine O.nil ?_
  refine S.seq (S.seq (S.region rfl ?_))
  refine O.call0 (.p rfl) rfl FactDisk11.ok11 rfl rfl (awake_c) ?_
  rintro v20 _ ⟨rfl, rfl⟩
  try simp only [List.cons_append, List.nil_append, List.append_nil]
  refine O.op (.p rfl) (.not rfl) ?_
  refine O.nil ?_
  refine S.condF rfl ?_
  refine S.skip (S.seq (S.seq (S.region rfl ?_)))
  refine O.op (.p rfl) (.mv rfl) ?_
  refine O.call0 (.p rfl) rfl FactDisk11.ok12 rfl rfl (entriesOf_b ha (by omega) hla) ?_
  rintro v23 _ ⟨z23, rfl, hz23, hy23, rfl⟩
  try simp only [List.cons_append, List.nil_append, List.append_nil]
  refine O.op (.p rfl) (.gtr rfl rfl) ?_
  refine O.op (.p rfl) (.mv rfl) ?_
  first | refine O.caseD 25 rfl (fun h25 => ?_) (fun h25 => ?_) | refine O.caseB 25 rfl (fun h25 => ?_) (fun h25 => ?_)
  · refine O.opN rfl rfl rfl ?_
    refine O.opN rfl rfl rfl ?_
    refine O.opN rfl rfl rfl ?_
    refine O.op (.p rfl) (.pickT rfl rfl) ?_
    refine O.nil ?_
    refine S.condT rfl ?_
    refine S.seq (S.region rfl ?_)
    refine O.op (.p rfl) (.as rfl) ?_
    refine O.nil ?_
    refine S.ret Go.Proofs.Tryd.results6 rfl fun w hw => Holds.end_ hR hw ?_
    exact ⟨_, ⟨rfl, rfl⟩, by repeat (first | exact Picks.all | exact Picks.nil | (apply Picks.cons; focus (repeat (first | exact Sel.here | apply Sel.there))) | apply Picks.skip)⟩
  · have hz := hz23 (by omega)
    have hsa : sf.length ≤ 3000 := by omega
    refine O.op (.g rfl rfl) (.mv rfl) ?_
    refine O.call0 (.g rfl rfl) rfl FactDisk11.ok12 rfl rfl (entriesOf_b hb (by omega) hlb) ?_
    rintro v27 _ ⟨z27, rfl, hz27, hy27, rfl⟩
    try simp only [List.cons_append, List.nil_append, List.append_nil]
    refine O.op (.g rfl rfl) (.gtr rfl rfl) ?_
    refine O.op (.p rfl) (.pickF rfl rfl) ?_
    refine O.nil ?_
    first | refine S.condD rfl (fun h29 => ?_) (fun h29 => ?_) | refine S.condB rfl (fun h29 => ?_) (fun h29 => ?_)
    · refine S.seq (S.region rfl ?_)
      refine O.op (.p rfl) (.as rfl) ?_
      refine O.nil ?_
      refine S.ret Go.Proofs.Tryd.results6 rfl fun w hw => Holds.end_ hR hw ?_
      exact ⟨_, ⟨rfl, rfl⟩, by repeat (first | exact Picks.all | exact Picks.nil | (apply Picks.cons; focus (repeat (first | exact Sel.here | apply Sel.there))) | apply Picks.skip)⟩
    · have hz2 := hz27 (by omega)
      have hsb : ls.length ≤ 3000 := by omega
      obtain ⟨he0, ho0, ci0⟩ := CI.start (R0 := 1048576) (n := jname) (by decide) (by decide) jname_ok
      have ok1 := ok0 1048576 (by decide) (by decide)
      refine S.skip (S.seq (S.region rfl ?_))
      refine O.call0 (.p rfl) rfl FactDisk11.ok9 rfl rfl (newR_c (room := 1048576) (by decide)) ?_
      rintro v30 _ ⟨d30, q130, q230, rfl, rfl⟩
      try simp only [List.cons_append, List.nil_append, List.append_nil]
      refine O.frzO (by repeat (first | exact Sel.here | apply Sel.there)) fun g hs hm hat => ?_
      replace hg := Fr.sub_trans hg hs
      replace hR := melted hR hm
      try replace ha := ha.mono hs
      try replace hb := hb.mono hs
      clear hs hm
      refine O.op (.p rfl) (.as rfl) ?_
      refine O.nil ?_
      refine S.seq (S.region rfl ?_)
      refine O.op (.p rfl) (.mv rfl) ?_
      refine O.callSs (.p rfl) rfl FactDisk11.ok8 rfl rfl (by repeat (first | exact Sels.nil | (apply Sels.cons; focus (repeat (first | exact Sel.here | apply Sel.there))))) (open_ok (m := ⟨[], 0, [], 0, 1048576⟩) (name := jname) hat ok1 (by decide) he0 (by rw [ho0])) ?_
      rintro v33 _ ⟨j33, a33, c33, rfl, rfl⟩
      try simp only [List.cons_append, List.nil_append, List.append_nil]
      rw [ho0]
      refine O.op (.p rfl) (.mv rfl) ?_
      refine O.op (.p rfl) (.extract rfl rfl) ?_
      refine O.op (.p rfl) (.extract rfl rfl) ?_
      refine O.op (.p rfl) (.extract rfl rfl) ?_
      refine O.op (.p rfl) (.as rfl) ?_
      refine O.op (.p rfl) (.as rfl) ?_
      refine O.op (.p rfl) (.as rfl) ?_
      refine O.nil ?_
      refine S.seq (S.seq (S.region rfl ?_))
      refine O.op (.p rfl) (.mv rfl) ?_
      refine O.op (.p rfl) (.neq rfl rfl) ?_
      refine O.nil ?_
      refine S.condF rfl ?_
      refine S.skip (S.seq (S.seq (S.region rfl ?_)))
      refine O.op (.p rfl) (.mv rfl) ?_
      refine O.op (.p rfl) (.mv rfl) ?_
      have hat1 : At g.h ⟨d30, 0, none⟩ (dC q130 q230 (openM ⟨[], 0, [], 0, 1048576⟩ jname).room) := by rw [ci0.room]; exact hat
      refine O.callSs (.p rfl) rfl FactDisk11.ok7 rfl rfl (by repeat (first | exact Sels.nil | (apply Sels.cons; focus (repeat (first | exact Sel.here | apply Sel.there))))) (jappend_w (name := jname) hat1 ci0.ok ha (by decide) hsa) ?_
      rintro v41 _ ⟨rfl, rfl⟩
      try simp only [List.cons_append, List.nil_append, List.append_nil]
      refine O.op (.p rfl) (.neq rfl rfl) ?_
      refine O.nil ?_
      first | refine S.condD rfl (fun h42 => ?_) (fun h42 => ?_) | refine S.condB rfl (fun h42 => ?_) (fun h42 => ?_)
      · refine S.seq (S.region rfl ?_)
        refine O.op (.p rfl) (.as rfl) ?_
        refine O.nil ?_
        refine S.ret Go.Proofs.Tryd.results6 rfl fun w hw => Holds.end_ hR hw ?_
        exact ⟨_, ⟨rfl, rfl⟩, by repeat (first | exact Picks.all | exact Picks.nil | (apply Picks.cons; focus (repeat (first | exact Sel.here | apply Sel.there))) | apply Picks.skip)⟩
      · have h42 : jAppE (openM ⟨[], 0, [], 0, 1048576⟩ jname) jname sf = 0 := by simpa using h42
        have ci1 := ci0.append h42
        rw [List.nil_append] at ci1
        have pi1 := ci1.part
        generalize jAppM (openM ⟨[], 0, [], 0, 1048576⟩ jname) jname sf = m1 at ci1 pi1 ⊢
        have hpk := pick_lt' keep 400 (by omega)
        obtain ⟨k, hk⟩ : ∃ k : Nat, pick keep 400 = (k : Int) := ⟨(pick keep 400).toNat, by omega⟩
        rw [hk] at hpk
        refine S.skip (S.seq (S.region rfl ?_))
        refine O.op (.p rfl) (.mv rfl) ?_
        refine O.call0 (.p rfl) rfl FactDisk11.ok13 rfl rfl (Pick_c _ _ (by first | assumption | (constructor <;> omega))) ?_
        rintro v44 _ ⟨rfl, rfl⟩
        try simp only [List.cons_append, List.nil_append, List.append_nil]
        rw [hk]
        refine O.op (.p rfl) (.as rfl) ?_
        refine O.op (.p rfl) (.as rfl) ?_
        refine O.nil ?_
        refine S.seq (S.region rfl ?_)
        refine O.op (.p rfl) (.mv rfl) ?_
        refine O.op (.p rfl) (.as rfl) ?_
        refine O.nil ?_
        refine S.seq (S.seq (S.region rfl ?_))
        refine O.op (.p rfl) (.as rfl) ?_
        refine O.nil ?_
        refine S.block ?_
        refine S.pk (ζ := [MapT q130 m1.safe m1.c1, MapT q230 m1.loose m1.c2]) (by repeat (first | exact Picks.all | exact Picks.nil | (apply Picks.cons; focus (repeat (first | exact Sel.here | apply Sel.there))) | apply Picks.skip)) ?_
        refine S.loopK2 (ι := Nat) (κ := DiskM) (fun i m => i ≤ ls.length ∧ PI 1048576 jname m sf (ls.take i)) (fun i m => [(14, .int .i64 (i : Int)), (11, .int .i64 (whole (ls.take i) k : Int)), (13, .int .i64 ((k : Int) - ((flatE (ls.take i)).length : Int)))]) [(0, _), (1, _), (7, _), (12, _)] (fun i m => [MapT q130 m.safe m.c1, MapT q230 m.loose m.c2]) (fun i m => ls.length - i) (0) (m1) (by exact ⟨Nat.zero_le _, pi1⟩) (.cons rfl (.cons rfl (.cons rfl (.nil)))) (.cons rfl (.cons rfl (.cons rfl (.cons rfl (.nil))))) rfl fun i m hx ih => ?_
        have hm1 := meltRefl (g := g)
        obtain ⟨hx1, pi⟩ := hx
        have hat' : At g.h ⟨d30, 0, none⟩ (dC q130 q230 m.room) := by rw [pi.room]; exact hat
        have hwl := whole_le (ls.take i) k
        have hli : (ls.take i).length ≤ 3000 := by rw [List.length_take]; omega
        have hfb := flatE_big pi.r2
        refine S.seq (S.seq (S.region rfl ?_))
        refine O.op (.p rfl) (.mv rfl) ?_
        refine O.op (.p rfl) (.mv rfl) ?_
        refine O.op (.p rfl) (.len rfl Go.Proofs.Tryd.underlying35 rfl) ?_
        refine O.op (.p rfl) (.lss rfl rfl) ?_
        refine O.nil ?_
        first | refine S.condD rfl (fun h49 => ?_) (fun h49 => ?_) | refine S.condB rfl (fun h49 => ?_) (fun h49 => ?_)
        · have hi : i < ls.length := by omega
          have h20 : ls.take (i + 1) = ls.take i ++ [ls[i]] := List.take_succ_eq_append_getElem hi
          have hit : (ls.take i).length = i := by rw [List.length_take]; omega
          have hfl := flatE_snoc (ls.take i) ls[i]
          rw [← h20] at hfl
          have hfl2 : (flatE (ls.take (i + 1))).length = (flatE (ls.take i)).length + (putBytes ls[i].1 ls[i].2.1).length := by rw [hfl, List.length_append]
          have hpl := putBytes_length ls[i].1 ls[i].2.1
          refine S.skip (S.seq (S.block (S.seq (S.region rfl ?_))))
          refine O.op (.p rfl) (.mv rfl) ?_
          refine O.op (.p rfl) (.mv rfl) ?_
          refine O.idx' (.p rfl) Go.Proofs.Tryd.underlying35 FactDisk11.size25 rfl rfl rfl (by first | assumption | exact Arr.mono hg (by assumption) | exact Arr.left (by assumption) | exact Arr.left (Arr.mono hg (by assumption))) (by decide) (by first | omega | (simp; done) | (simp; omega) | decide) (fun p55 cs55 hp55 hr55 => ?_)
          obtain ⟨v55, rfl, ha55⟩ := EntRp.open hr55; obtain ⟨a55, c55, rfl⟩ := ha55.shape
          refine O.op (.p rfl) (.loadAgg Go.Proofs.Tryd.isAgg25 (by kernel_rfl) rfl hp55) ?_
          refine O.call0 (.p rfl) rfl FactDisk11.ok24 rfl rfl (put_c (by first | assumption | exact Arr.mono hg (by assumption) | exact Arr.left (by assumption) | exact Arr.left (Arr.mono hg (by assumption)))) ?_
          rintro v57 _ ⟨a57, c57, rfl, rfl⟩
          try simp only [List.cons_append, List.nil_append, List.append_nil]
          refine O.op (.p rfl) (.mv rfl) ?_
          refine O.op (.p rfl) (.extract rfl rfl) ?_
          refine O.op (.p rfl) (.extract rfl rfl) ?_
          refine O.op (.p rfl) (.as rfl) ?_
          refine O.op (.p rfl) (.as rfl) ?_
          refine O.nil ?_
          refine S.seq (S.seq (S.region rfl ?_))
          refine O.op (.p rfl) (.mv rfl) ?_
          refine O.op (.p rfl) (.neq rfl rfl) ?_
          refine O.nil ?_
          first | refine S.condD rfl (fun h61 => ?_) (fun h61 => ?_) | refine S.condB rfl (fun h61 => ?_) (fun h61 => ?_)
          · refine S.seq (S.region rfl ?_)
            refine O.op (.p rfl) (.as rfl) ?_
            refine O.nil ?_
            refine S.ret Go.Proofs.Tryd.results6 rfl fun w hw => Holds.end_ hR hw ?_
            exact ⟨_, ⟨rfl, rfl⟩, by repeat (first | exact Picks.all | exact Picks.nil | (apply Picks.cons; focus (repeat (first | exact Sel.here | apply Sel.there))) | apply Picks.skip)⟩
          · have hp0 : putErr ls[i].1 ls[i].2.1 = 0 := by simpa using h61
            have eo : putOut ls[i].1 ls[i].2.1 = putBytes ls[i].1 ls[i].2.1 := by simp [putOut, hp0]
            have hpb := (putErr_ok hp0).2
            rw [eo]
            refine S.skip (S.seq (S.seq (S.region rfl ?_)))
            refine O.op (.p rfl) (.mv rfl) ?_
            refine O.op (.p rfl) (.mv rfl) ?_
            refine O.callSs (.p rfl) rfl FactDisk11.ok10 rfl rfl (by repeat (first | exact Sels.nil | (apply Sels.cons; focus (repeat (first | exact Sel.here | apply Sel.there))))) (append_w (name := jname) hat' pi.ok (by decide) (by omega)) ?_
            rintro v64 _ ⟨rfl, rfl⟩
            try simp only [List.cons_append, List.nil_append, List.append_nil]
            refine O.op (.p rfl) (.neq rfl rfl) ?_
            refine O.nil ?_
            first | refine S.condD rfl (fun h65 => ?_) (fun h65 => ?_) | refine S.condB rfl (fun h65 => ?_) (fun h65 => ?_)
            · refine S.seq (S.region rfl ?_)
              refine O.op (.p rfl) (.as rfl) ?_
              refine O.nil ?_
              refine S.ret Go.Proofs.Tryd.results6 rfl fun w hw => Holds.end_ hR hw ?_
              exact ⟨_, ⟨rfl, rfl⟩, by repeat (first | exact Picks.all | exact Picks.nil | (apply Picks.cons; focus (repeat (first | exact Sel.here | apply Sel.there))) | apply Picks.skip)⟩
            · have hA0 : dAppE m jname (putBytes ls[i].1 ls[i].2.1) = 0 := by simpa using h65
              have pi2 := pi.append hp0 hA0
              rw [← h20] at pi2
              rw [dAppM_eq hA0]
              refine S.skip (S.seq (S.seq (S.region rfl ?_)))
              refine O.op (.p rfl) (.mv rfl) ?_
              refine O.op (.p rfl) (.mv rfl) ?_
              refine O.op (.p rfl) (.len rfl Go.Proofs.Tryd.underlying23 rfl) ?_
              refine O.op (.p rfl) (.geq rfl rfl) ?_
              refine O.op (.p rfl) (.mv rfl) ?_
              first | refine O.caseD 70 rfl (fun h70 => ?_) (fun h70 => ?_) | refine O.caseB 70 rfl (fun h70 => ?_) (fun h70 => ?_)
              · refine O.op (.g rfl rfl) (.mv rfl) ?_
                refine O.op (.g rfl rfl) (.mv rfl) ?_
                refine O.op (.g rfl rfl) (.eql rfl rfl) ?_
                refine O.op (.p rfl) (.pickT rfl rfl) ?_
                refine O.nil ?_
                first | refine S.condD rfl (fun h74 => ?_) (fun h74 => ?_) | refine S.condB rfl (fun h74 => ?_) (fun h74 => ?_)
                · have hw := whole_snoc_yes (a := ls.take i) (e := ls[i]) (t := k) (by omega) (by omega)
                  rw [← h20] at hw
                  refine S.region rfl ?_
                  refine O.op (.p rfl) (.mv rfl) ?_
                  refine O.op (.p rfl) (.add rfl rfl (IntWalk.i64_in _ (by omega))) ?_
                  refine O.slot 76 (v' := .int .i64 (whole (ls.take (i + 1)) k : Int)) rfl (by exact congrArg _ (by omega)) ?_
                  refine O.op (.p rfl) (.as rfl) ?_
                  refine O.nil ?_
                  refine S.region rfl ?_
                  refine O.op (.p rfl) (.mv rfl) ?_
                  refine O.op (.p rfl) (.mv rfl) ?_
                  refine O.op (.p rfl) (.len rfl Go.Proofs.Tryd.underlying23 rfl) ?_
                  refine O.op (.p rfl) (.sub rfl rfl (IntWalk.i64_in _ (by omega))) ?_
                  refine O.slot 80 (v' := .int .i64 ((k : Int) - ((flatE (ls.take (i + 1))).length : Int))) rfl (by exact congrArg _ (by omega)) ?_
                  refine O.op (.p rfl) (.as rfl) ?_
                  refine O.nil ?_
                  refine S.inBlock (S.region rfl ?_)
                  refine O.op (.p rfl) (.mv rfl) ?_
                  refine O.op (.p rfl) (.add rfl rfl (IntWalk.i64_in _ (by omega))) ?_
                  refine O.op (.p rfl) (.as rfl) ?_
                  refine O.nil ?_
                  refine S.pk ?_ (S.weaken ?_ (ih (i + 1) (dApp m jname (putBytes ls[i].1 ls[i].2.1)) (by exact ⟨by omega, pi2⟩) (by omega)))
                  · repeat (first | exact Picks.all | exact Picks.nil | (apply Picks.cons; focus (repeat (first | exact Sel.here | apply Sel.there))) | apply Picks.skip)
                  repeat (first | exact Sub.nil | refine Sub.cons rfl ?_)
                · have hw := whole_snoc_no (a := ls.take i) (e := ls[i]) (t := k) (by omega)
                  rw [← h20] at hw
                  refine S.skip (S.region rfl ?_)
                  refine O.op (.p rfl) (.mv rfl) ?_
                  refine O.op (.p rfl) (.mv rfl) ?_
                  refine O.op (.p rfl) (.len rfl Go.Proofs.Tryd.underlying23 rfl) ?_
                  refine O.op (.p rfl) (.sub rfl rfl (IntWalk.i64_in _ (by omega))) ?_
                  refine O.slot 80 (v' := .int .i64 ((k : Int) - ((flatE (ls.take (i + 1))).length : Int))) rfl (by exact congrArg _ (by omega)) ?_
                  refine O.op (.p rfl) (.as rfl) ?_
                  refine O.nil ?_
                  refine S.inBlock (S.region rfl ?_)
                  refine O.op (.p rfl) (.mv rfl) ?_
                  refine O.op (.p rfl) (.add rfl rfl (IntWalk.i64_in _ (by omega))) ?_
                  refine O.op (.p rfl) (.as rfl) ?_
                  refine O.nil ?_
                  rw [← hw]
                  refine S.pk ?_ (S.weaken ?_ (ih (i + 1) (dApp m jname (putBytes ls[i].1 ls[i].2.1)) (by exact ⟨by omega, pi2⟩) (by omega)))
                  · repeat (first | exact Picks.all | exact Picks.nil | (apply Picks.cons; focus (repeat (first | exact Sel.here | apply Sel.there))) | apply Picks.skip)
                  repeat (first | exact Sub.nil | refine Sub.cons rfl ?_)
              · have hw := whole_snoc_no (a := ls.take i) (e := ls[i]) (t := k) (by omega)
                rw [← h20] at hw
                refine O.opN rfl rfl rfl ?_
                refine O.opN rfl rfl rfl ?_
                refine O.opN rfl rfl rfl ?_
                refine O.op (.p rfl) (.pickF rfl rfl) ?_
                refine O.nil ?_
                refine S.condF rfl ?_
                refine S.skip (S.region rfl ?_)
                refine O.op (.p rfl) (.mv rfl) ?_
                refine O.op (.p rfl) (.mv rfl) ?_
                refine O.op (.p rfl) (.len rfl Go.Proofs.Tryd.underlying23 rfl) ?_
                refine O.op (.p rfl) (.sub rfl rfl (IntWalk.i64_in _ (by omega))) ?_
                refine O.slot 80 (v' := .int .i64 ((k : Int) - ((flatE (ls.take (i + 1))).length : Int))) rfl (by exact congrArg _ (by omega)) ?_
                refine O.op (.p rfl) (.as rfl) ?_
                refine O.nil ?_
                refine S.inBlock (S.region rfl ?_)
                refine O.op (.p rfl) (.mv rfl) ?_
                refine O.op (.p rfl) (.add rfl rfl (IntWalk.i64_in _ (by omega))) ?_
                refine O.op (.p rfl) (.as rfl) ?_
                refine O.nil ?_
                rw [← hw]
                refine S.pk ?_ (S.weaken ?_ (ih (i + 1) (dApp m jname (putBytes ls[i].1 ls[i].2.1)) (by exact ⟨by omega, pi2⟩) (by omega)))
                · repeat (first | exact Picks.all | exact Picks.nil | (apply Picks.cons; focus (repeat (first | exact Sel.here | apply Sel.there))) | apply Picks.skip)
                repeat (first | exact Sub.nil | refine Sub.cons rfl ?_)
        · clear ih
          have hi : i = ls.length := by omega
          subst hi
          rw [List.take_length] at pi
          rw [List.take_length] at hwl hfb
          rw [List.take_length]
          refine S.exit rfl ?_
          refine S.seq (S.region rfl ?_)
          refine O.op (.p rfl) (.mv rfl) ?_
          refine O.op (.p rfl) (.mv rfl) ?_
          refine O.callSs (.p rfl) rfl FactDisk11.ok20 rfl rfl (by repeat (first | exact Sels.nil | (apply Sels.cons; focus (repeat (first | exact Sel.here | apply Sel.there))))) (crash_g (keep := (k : Int)) hat' pi.ok.w1 pi.ok.w2 pi.ok.sub pi.ok.le) ?_
          rintro v83 _ ⟨s', c1', l', c2', hcr, rfl, rfl⟩
          try simp only [List.cons_append, List.nil_append, List.append_nil]
          refine O.nil ?_
          refine S.seq ?_
          obtain ⟨ok2, he2, u, ho2⟩ := pi.crash hcr jname_ok
          rw [Int.toNat_natCast] at ho2
          refine S.region rfl ?_
          refine O.op (.p rfl) (.mv rfl) ?_
          refine O.callSs (.p rfl) rfl FactDisk11.ok8 rfl rfl (by repeat (first | exact Sels.nil | (apply Sels.cons; focus (repeat (first | exact Sel.here | apply Sel.there))))) (open_ok (m := ⟨s', c1', l', c2', m.room⟩) (name := jname) hat' ok2 (by decide) he2 (by rw [ho2])) ?_
          rintro v86 _ ⟨j86, a86, c86, rfl, rfl⟩
          try simp only [List.cons_append, List.nil_append, List.append_nil]
          rw [ho2]
          refine O.op (.p rfl) (.mv rfl) ?_
          refine O.op (.p rfl) (.extract rfl rfl) ?_
          refine O.op (.p rfl) (.extract rfl rfl) ?_
          refine O.op (.p rfl) (.extract rfl rfl) ?_
          refine O.op (.p rfl) (.as rfl) ?_
          refine O.op (.p rfl) (.as rfl) ?_
          refine O.op (.p rfl) (.as rfl) ?_
          refine O.nil ?_
          refine S.seq ?_
          obtain ⟨css, hcs, hck⟩ := Arr.toCells (k := 2) rfl ha
          have hcl := hck.len
          refine S.regionD (L := [0, 1, 2, 3, 5, 7, 8, 9, 4, 6, 10, 11, 12, 13]) FactDisk11.mixed (by kernel_rfl) ?_
          refine .quiet (.p rfl) rfl (fun _ => .mv rfl) ?_
          refine .quiet (.p rfl) rfl (fun _ => .eql rfl rfl) ?_
          refine OD.slot 91 (v' := .bool true) rfl (congrArg Value.bool (by rfl)) ?_
          refine .quiet (.p rfl) rfl (fun _ => .mv rfl) ?_
          refine .quiet (.g rfl rfl) rfl (fun _ => .mv rfl) ?_
          refine .quiet (.g rfl rfl) rfl (fun _ => .mv rfl) ?_
          refine .quiet (.g rfl rfl) rfl (fun _ => .mv rfl) ?_
          refine .quiet (.g rfl rfl) rfl (fun _ => .mv rfl) ?_
          refine OD.sliceTo (b := (whole ls k)) (.g rfl rfl) Go.Proofs.Tryd.underlying35 FactDisk11.size25 rfl rfl (by assumption) (by first | omega | (simp; done) | (simp; omega) | decide) (by first | omega | (simp; done) | (simp; omega) | decide) (fun u99 ha99 => ?_)
          obtain ⟨a99, c99, rfl⟩ := ha99.shape
          refine OD.litP (T := (Rp.cells 2)) (ys := []) (.g rfl rfl) (by kernel_rfl) Go.Proofs.Tryd.underlying35 FactDisk11.elem25 (by decide) rfl rfl trivial (by decide) (fun a94 c94 => ?_)
          refine OD.appendP (T := Rp.cells 2) (.g rfl rfl) (by kernel_rfl) (pure_cells 2) Go.Proofs.Tryd.underlying35 FactDisk11.elem25 (by decide) rfl rfl (by repeat (first | exact Sel.here | apply Sel.there)) hcs (by first | omega | (simp; done) | (simp; omega) | decide) (by first | omega | (simp; done) | (simp; omega) | decide) (fun a96 c96 => ?_)
          simp only [List.nil_append, List.length_nil, Nat.zero_add]
          obtain ⟨dss, hds, hdk⟩ := Arr.toCells (k := 2) rfl ha99
          have hdl := hdk.len
          have htl : (ls.take (whole ls k)).length ≤ 3000 := by rw [List.length_take]; omega
          refine OD.appendP (T := Rp.cells 2) (.g rfl rfl) (by kernel_rfl) (pure_cells 2) Go.Proofs.Tryd.underlying35 FactDisk11.elem25 (by decide) rfl rfl (by repeat (first | exact Sel.here | apply Sel.there)) hds (by first | omega | (simp; done) | (simp; omega) | decide) (by first | omega | (simp; done) | (simp; omega) | decide) (fun a100 c100 => ?_)
          refine OD.callB (.g rfl rfl) (by kernel_rfl) rfl FactDisk11.ok15 rfl rfl (bs := [OwnP (Rp.cells 2) 25 (.slice a100 (css.length + dss.length) c100) (css ++ dss), ListP EntG 25 (.slice a86 (sf ++ ls.take (whole ls k)).length c86) (sf ++ ls.take (whole ls k))]) (by repeat (first | exact Sels.nil | (apply Sels.cons; focus (repeat (first | exact Sel.here | apply Sel.there))))) (fun m' hm hd => sameEntries_c ((Sat.list1 hm.tail).right hd) (Arr.ofCells (hm.arr.right hd) ((hck.append hdk).mono (Fr.sub_add_left _ _)) rfl)) ?_
          rintro v101 _ ⟨rfl, rfl⟩
          try simp only [List.cons_append, List.nil_append, List.append_nil]
          refine OD.slot 101 (v' := .bool true) rfl (congrArg Value.bool (by simp)) ?_
          refine .quiet (.p rfl) rfl (fun _ => .pickT rfl rfl) ?_
          refine .quiet (.p rfl) rfl (fun _ => .as rfl) ?_
          refine .nil ?_
          refine S.ret Go.Proofs.Tryd.results6 rfl fun w hw => Holds.end_ hR hw ?_
          exact ⟨_, ⟨rfl, rfl⟩, by repeat (first | exact Picks.all | exact Picks.nil | (apply Picks.cons; focus (repeat (first | exact Sel.here | apply Sel.there))) | apply Picks.skip)⟩

end Go.Proofs.YtcghiboamlaenaaDoor
