import Derived.Test.YtkkcpckgnfcncaaGreatDoorDisk1
open Go Go.Sp
set_option maxRecDepth 100000
attribute [local irreducible] obj Own OwnP
namespace Go.Proofs.YtkkcpckgnfcncaaGreatDoor
theorem FactDisk2.flat60 : Go.Sp.flat1 Go.Proofs.Tryz.prog 60 = true := by kernel_rfl
theorem FactDisk2.fld62x0 : fieldOff Go.Proofs.Tryz.prog 62 0 = some 0 := by kernel_rfl
theorem FactDisk2.fld62x1 : fieldOff Go.Proofs.Tryz.prog 62 1 = some 1 := by kernel_rfl
theorem FactDisk2.fld64x0 : fieldOff Go.Proofs.Tryz.prog 64 0 = some 0 := by kernel_rfl
theorem FactDisk2.mixed : Go.Proofs.Tryz.prog.follows .mixedOrders = true := by kernel_rfl
theorem FactDisk2.ok30 : callable Go.Proofs.Tryz.prog 30 = true := by kernel_rfl
theorem FactDisk2.ok51 : callable Go.Proofs.Tryz.prog 51 = true := by kernel_rfl
theorem FactDisk2.ok53 : callable Go.Proofs.Tryz.prog 53 = true := by kernel_rfl

/-- how many of so many loose bytes a crash keeps -/
def kk (keep : Int) (n : Nat) : Nat := min keep.toNat n
/-- a file's safe bytes behind a crash -/
def crashB (keep : Int) (s t : List UInt8) : List UInt8 := (s ++ t).take (s.length + kk keep t.length)
structure CrashR (s l s' l' : SS) (c1' c2' : Nat) (keep : Int) : Prop where
  w1 : WfT s' c1'
  w2 : WfT l' c2'
  safe : ∀ k, getT s' k = (getT s k).map fun x => crashB keep x ((getT l k).getD [])
  loose : ∀ k, getT l' k = none
  fits : sumT s' + sumT l' ≤ sumT s + sumT l
theorem getT_snoc (m : SS) (y : List UInt8 × List UInt8 × Nat) (k : List UInt8) : (getT (m ++ [y]) k).isSome = ((getT m k).isSome || decide (k = y.1)) := by
  induction m with
  | nil =>
    simp only [List.nil_append, getT]
    by_cases e : y.1 = k
    · subst e; simp
    · rw [if_neg e]; simp only [Option.isSome_none, Bool.false_or]; exact (decide_eq_false fun q => e q.symm).symm
  | cons x m ih =>
    simp only [List.cons_append, getT]
    split
    · simp
    · exact ih
theorem crash_g {r : Fr} {d b1 b2 c1 c2 : Nat} {s l : SS} {room keep : Int} (hat : At r ⟨d, 0, none⟩ [.map (some b1), .map (some b2), .int .i64 room]) (hw : WfT s c1) (hw2 : WfT l c2) (hsub : ∀ k, (getT l k).isSome = true → (getT s k).isSome = true) (hs : sumT s + sumT l ≤ 1000000000000) :
    Con Go.Proofs.Tryz.prog 28 #[.pointer (some ⟨d, 0, none⟩), .int .i64 keep] r [MapT b1 s c1, MapT b2 l c2]
      (Ret fun v η => ∃ s' c1' l' c2', CrashR s l s' l' c1' c2' keep ∧ v = .tuple #[] ∧ η = [MapT b1 s' c1', MapT b2 l' c2']) := by
  refine Con.of (n := 41) [.pointer (some ⟨d, 0, none⟩), .int .i64 keep] rfl Go.Proofs.Tryz.func28 rfl rfl rfl fun g hg R hR => ?_
  replace hat : At g.h ⟨d, 0, none⟩ [.map (some b1), .map (some b2), .int .i64 room] := At.mono hg hat
  have hat2 : At g.h ⟨d, 0, none⟩ [.map (some b1), .map (some b2)] := At.take hat 2
  refine S.seq (S.seq (S.region rfl ?_))
  refine O.op (.p rfl) (.mv rfl) ?_
  refine O.call0 (.p rfl) rfl FactDisk2.ok30 rfl rfl ((made_g hat)) ?_
  rintro v7 _ ⟨rfl, rfl⟩
  try simp only [List.cons_append, List.nil_append, List.append_nil]
  refine O.op (.p rfl) (.not rfl) ?_
  refine O.nil ?_
  refine S.condF rfl ?_
  refine S.skip (S.seq (S.region rfl ?_))
  refine O.op (.p rfl) (.mv rfl) ?_
  refine O.op (.p rfl) (.nilCheck rfl) ?_
  refine O.op (.p rfl) (.fieldAddr FactDisk2.fld64x0 rfl) ?_
  refine O.op (.p rfl) (.fieldAddr FactDisk2.fld62x1 rfl) ?_
  refine O.op (.p rfl) (.loadAt FactDisk2.flat60 rfl (hat.drop 1) rfl) ?_
  refine O.callS (.p rfl) rfl FactDisk2.ok51 rfl rfl (by repeat (first | exact Sel.here | apply Sel.there)) mclone_c ?_
  rintro v14 _ ⟨b14, rfl, rfl⟩
  try simp only [List.cons_append, List.nil_append, List.append_nil]
  refine O.opE (.p rfl) (.rangeT Go.Proofs.Tryz.underlying60 rfl (by repeat (first | exact Sel.here | apply Sel.there))) ?_
  rintro _ _ ⟨it15, rfl, rfl⟩
  refine O.nil ?_
  refine S.block ?_
  refine S.loopK4 (ι := SS) (κ := SS) (υ := (SS × Nat)) (τ := (SS × Nat)) (fun done todo p q => l.Perm (done ++ todo) ∧ WfT p.1 p.2 ∧ WfT q.1 q.2 ∧ (∀ k, getT p.1 k = if (getT done k).isSome then (getT s k).map (fun x => crashB keep x ((getT l k).getD [])) else getT s k) ∧ (∀ k, getT q.1 k = if (getT done k).isSome then none else getT l k) ∧ sumT p.1 + sumT q.1 ≤ sumT s + sumT l) (fun done todo p q => []) [(0, _), (1, _), (15, _)] (fun done todo p q => [IterT it15 b14 c2 done, MapT b14 l c2, MapT b2 q.1 q.2, MapT b1 p.1 p.2]) (fun done todo p q => todo.length) ([]) (l) ((s, c1)) ((l, c2)) (by exact ⟨List.Perm.refl _, hw, hw2, fun k => rfl, fun k => rfl, Nat.le_refl _⟩) (.nil) (.cons rfl (.cons rfl (.cons rfl (.nil)))) rfl fun done todo p q hx ih => ?_
  have hm1 := meltRefl (g := g)
  obtain ⟨hp, hwp, hwq, hvp, hvq, hsum⟩ := hx
  obtain ⟨p, cp⟩ := p
  obtain ⟨q, cq⟩ := q
  dsimp only at hwp hwq hvp hvq hsum ⊢
  refine S.seq (S.region rfl ?_)
  refine O.nextT (.p rfl) rfl hw2 hp (by repeat (first | exact Sel.here | apply Sel.there)) (by repeat (first | exact Sel.here | apply Sel.there)) (fun h16 => ?_) (fun y16 t116 t216 h16 => ?_)
  · refine O.op (.p rfl) (.extract rfl rfl) ?_
    refine O.nil ?_
    refine S.seq (S.condF rfl ?_)
    refine S.exit rfl ?_
    subst h16
    rw [List.append_nil] at hp
    have hpd : ∀ k, (getT done k).isSome = (getT l k).isSome := fun k => by
      have h1 : getT done k = none ↔ getT l k = none := by
        rw [getT_none, getT_none]
        exact not_congr ((hp.map (·.1)).mem_iff).symm
      cases hd : getT done k <;> cases hl : getT l k <;> simp_all
    refine S.end0 Go.Proofs.Tryz.results28 fun w hw => Holds.end_ hR hw ?_
    refine ⟨_, ⟨p, cp, q, cq, ⟨hwp, hwq, fun k => ?_, fun k => ?_, hsum⟩, rfl, rfl⟩, by repeat (first | exact Picks.all | exact Picks.nil | (apply Picks.cons; focus (repeat (first | exact Sel.here | apply Sel.there))) | apply Picks.skip)⟩
    · rw [hvp k, hpd k]
      split
      · rfl
      · rename_i hn
        have hn : getT l k = none := by simpa using hn
        have := hsub k
        cases hsk : getT s k with
        | none => rfl
        | some x => simp [hn, crashB, kk]
    · rw [hvq k, hpd k]
      split
      · rfl
      · rename_i hn; simpa using hn
  · subst h16
    have hmem : y16 ∈ l := hp.mem_iff.2 (by simp)
    have hly : getT l y16.1 = some y16.2.1 := getT_mem hw2.2.2 hmem
    have hnd : getT done y16.1 = none := by
      rw [getT_none]
      have h1 : ((done ++ (t116 ++ y16 :: t216)).map (·.1)).Nodup := (hp.map (·.1)).nodup_iff.1 hw2.2.2
      rw [List.map_append, List.nodup_append] at h1
      exact fun h2 => h1.2.2 _ h2 _ (by simp) rfl
    obtain ⟨s0, hsy⟩ : ∃ s0, getT s y16.1 = some s0 := Option.isSome_iff_exists.1 (hsub _ (by rw [hly]; rfl))
    have hpy : getT p y16.1 = some s0 := by rw [hvp, hnd]; exact hsy
    have hqy : getT q y16.1 = some y16.2.1 := by rw [hvq, hnd]; exact hly
    have hby : bytesT p q y16.1 = s0 ++ y16.2.1 := by simp [bytesT, hpy, hqy]
    have hsp := getT_le p y16.1
    have hsq := getT_le q y16.1
    rw [hpy] at hsp
    rw [hqy] at hsq
    simp only [Option.getD_some] at hsp hsq
    have hp2 : l.Perm ((done ++ [y16]) ++ (t116 ++ t216)) := hp.trans (by
      rw [List.append_assoc]; exact List.Perm.append_left _ (List.perm_middle))
    have hkl : s0.length + kk keep y16.2.1.length ≤ (bytesT p q y16.1).length := by rw [hby, List.length_append]; unfold kk; omega
    refine O.op (.p rfl) (.extract rfl rfl) ?_
    refine O.nil ?_
    refine S.seq (S.condT rfl ?_)
    refine S.skip (S.block (S.seq (S.region rfl ?_)))
    refine O.op (.p rfl) (.entryT rfl hw2 hmem (by repeat (first | exact Sel.here | apply Sel.there)) (by repeat (first | exact Sel.here | apply Sel.there))) ?_
    refine O.op (.p rfl) (.extract rfl rfl) ?_
    refine O.op (.p rfl) (.extract rfl rfl) ?_
    refine O.op (.p rfl) (.as rfl) ?_
    refine O.op (.p rfl) (.as rfl) ?_
    refine O.nil ?_
    refine S.regionD (L := [0, 1, 2, 3, 4, 5, 6, 7, 8, 9, 10, 13, 14, 15, 16, 17, 11, 12, 18, 19]) FactDisk2.mixed (by kernel_rfl) ?_
    refine .quiet (.p rfl) rfl (fun _ => .mv rfl) ?_
    refine .quiet (.p rfl) rfl (fun _ => .nilCheck rfl) ?_
    refine .quiet (.p rfl) rfl (fun _ => .fieldAddr FactDisk2.fld64x0 rfl) ?_
    refine .quiet (.p rfl) rfl (fun _ => .loadAgg Go.Proofs.Tryz.isAgg62 (by kernel_rfl) rfl hat2) ?_
    refine .quiet (.p rfl) rfl (fun _ => .mv rfl) ?_
    refine .quiet (.p rfl) rfl (fun _ => .mv rfl) ?_
    refine .quiet (.p rfl) rfl (fun _ => .nilCheck rfl) ?_
    refine .quiet (.p rfl) rfl (fun _ => .fieldAddr FactDisk2.fld64x0 rfl) ?_
    refine .quiet (.p rfl) rfl (fun _ => .fieldAddr FactDisk2.fld62x0 rfl) ?_
    refine .quiet (.p rfl) rfl (fun _ => .loadAt FactDisk2.flat60 rfl hat rfl) ?_
    refine .quiet (.p rfl) rfl (fun _ => .mv rfl) ?_
    refine .quiet (.p rfl) rfl (fun _ => .mv rfl) ?_
    refine .quiet (.p rfl) rfl (fun _ => .max2 rfl rfl) ?_
    refine .quiet (.p rfl) rfl (fun _ => .mv rfl) ?_
    refine .quiet (.p rfl) rfl (fun _ => .lenS rfl Go.Proofs.Tryz.underlying9 rfl) ?_
    refine OD.slot 37 (v' := .int .i64 (y16.2.1.length : Int)) rfl (by rw [str_size]) ?_
    refine .quiet (.p rfl) rfl (fun _ => .min2 rfl rfl) ?_
    refine OD.doesL (.p rfl) rfl (by kernel_rfl) (fun _ => .lookupT Go.Proofs.Tryz.underlying60 Go.Proofs.Tryz.underlying9 rfl rfl rfl (by repeat (first | exact Sel.here | apply Sel.there))) ?_
    refine OD.slot 32 (v' := .string (str s0)) rfl (by rw [hpy]; rfl) ?_
    refine .quiet (.p rfl) rfl (fun _ => .lenS rfl Go.Proofs.Tryz.underlying9 rfl) ?_
    refine OD.slot 33 (v' := .int .i64 (s0.length : Int)) rfl (by rw [str_size]) ?_
    refine .quiet (.p rfl) rfl (fun _ => .add rfl rfl (IntWalk.i64_in _ (by omega))) ?_
    refine OD.slot 39 (v' := .int .i64 ((s0.length + kk keep y16.2.1.length : Nat) : Int)) rfl (by refine congrArg _ ?_; unfold kk; split <;> split <;> omega) ?_
    refine OD.callSs (.p rfl) (by kernel_rfl) rfl FactDisk2.ok53 rfl rfl (by repeat (first | exact Sels.nil | (apply Sels.cons; focus (repeat (first | exact Sel.here | apply Sel.there))))) (firm_c (s0.length + kk keep y16.2.1.length) (by omega) hkl) ?_
    rintro v40 _ ⟨rfl, rfl⟩
    try simp only [List.cons_append, List.nil_append, List.append_nil]
    refine .nil ?_
    refine S.inBlock ?_
    rw [hby]
    have hput := sumT_put p cp y16.1 ((s0 ++ y16.2.1).take (s0.length + kk keep y16.2.1.length))
    have hdel := sumT_del q y16.1
    rw [hpy, Option.getD_some, List.length_take, List.length_append] at hput
    rw [hqy, Option.getD_some] at hdel
    have hx1 : ∀ k, getT (putT p cp y16.1 ((s0 ++ y16.2.1).take (s0.length + kk keep y16.2.1.length))) k = if (getT (done ++ [y16]) k).isSome then (getT s k).map (fun x => crashB keep x ((getT l k).getD [])) else getT s k := fun k => by
      rw [getT_put, getT_snoc]
      by_cases e : k = y16.1
      · subst e; rw [if_pos rfl, if_pos (by simp), hsy, hly]; rfl
      · rw [if_neg e, hvp k, decide_eq_false e, Bool.or_false]
    have hx2 : ∀ k, getT (delT q y16.1) k = if (getT (done ++ [y16]) k).isSome then none else getT l k := fun k => by
      rw [getT_del hwq.2.2, getT_snoc]
      by_cases e : k = y16.1
      · subst e; rw [if_pos rfl, if_pos (by simp)]
      · rw [if_neg e, hvq k, decide_eq_false e, Bool.or_false]
    refine S.pk ?_ (S.weaken ?_ (ih (done ++ [y16]) (t116 ++ t216) ((putT p cp y16.1 ((s0 ++ y16.2.1).take (s0.length + kk keep y16.2.1.length)), clkT p cp y16.1)) ((delT q y16.1, cq)) (by exact ⟨hp2, putT_wf hwp _ _, delT_wf hwq _, hx1, hx2, by simp only; omega⟩) (by simp)))
    · repeat (first | exact Picks.all | exact Picks.nil | (apply Picks.cons; focus (repeat (first | exact Sel.here | apply Sel.there))) | apply Picks.skip)
    repeat (first | exact Sub.nil | refine Sub.cons rfl ?_)

end Go.Proofs.YtkkcpckgnfcncaaGreatDoor
