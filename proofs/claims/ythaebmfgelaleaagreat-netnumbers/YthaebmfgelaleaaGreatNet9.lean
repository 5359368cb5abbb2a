/- Texts of this proof, one behind the other. -/
import Derived.Test.YthaebmfgelaleaaGreatNet7
section
open Go Go.Sp
set_option maxRecDepth 100000
attribute [local irreducible] obj Own OwnP
namespace Go.Proofs.YthaebmfgelaleaaGreat
theorem FactNet8.elem54 : elemIs Go.Proofs.Tryz.prog 54 2 16 [.int .i64 0, .int .i64 0] := elemIs.mk (by kernel_rfl) rfl
theorem FactNet8.flat25 : Go.Sp.flat1 Go.Proofs.Tryz.prog 25 = true := by kernel_rfl
theorem FactNet8.flat47 : Go.Sp.flat1 Go.Proofs.Tryz.prog 47 = true := by kernel_rfl
theorem FactNet8.flat55 : Go.Sp.flat1 Go.Proofs.Tryz.prog 55 = true := by kernel_rfl
theorem FactNet8.fld57x0 : fieldOff Go.Proofs.Tryz.prog 57 0 = some 0 := by kernel_rfl
theorem FactNet8.fld59x0 : fieldOff Go.Proofs.Tryz.prog 59 0 = some 0 := by kernel_rfl
theorem FactNet8.ok28 : callable Go.Proofs.Tryz.prog 28 = true := by kernel_rfl
theorem FactNet8.ok40 : callable Go.Proofs.Tryz.prog 40 = true := by kernel_rfl
theorem FactNet8.ok41 : callable Go.Proofs.Tryz.prog 41 = true := by kernel_rfl
theorem FactNet8.ok55 : callable Go.Proofs.Tryz.prog 55 = true := by kernel_rfl
theorem FactNet8.size54 : (Go.Proofs.Tryz.prog.info? 54).map (·.size) = some 2 := by kernel_rfl

theorem cmp2_lt (x y : Int × Int) : cmp2 x y < 0 ↔ x.1 < y.1 ∨ (x.1 = y.1 ∧ x.2 < y.2) := by
  unfold cmp2 cmpI
  repeat' split
  all_goals omega
theorem lt2 (x y : Int × Int) : ltOf cmp2 x y = decide (x.1 < y.1 ∨ (x.1 = y.1 ∧ x.2 < y.2)) := decide_eq_decide.2 (cmp2_lt x y)
theorem swo2 : Sort.SWO (ltOf cmp2) where
  irrefl x := by rw [lt2]; exact decide_eq_false (by omega)
  trans x y z h1 h2 := by
    rw [lt2] at h1 h2 ⊢
    have := of_decide_eq_true h1
    have := of_decide_eq_true h2
    exact decide_eq_true (by omega)
  ntrans x y z h1 h2 := by
    rw [lt2] at h1 h2 ⊢
    have := of_decide_eq_false h1
    have := of_decide_eq_false h2
    exact decide_eq_false (by omega)
theorem tot2 (x y : Int × Int) (h1 : ltOf cmp2 x y = false) (h2 : ltOf cmp2 y x = false) : x = y := by
  rw [lt2] at h1 h2
  have := of_decide_eq_false h1
  have := of_decide_eq_false h2
  exact Prod.ext (by omega) (by omega)
theorem sortLinks_c {r : Fr} {a : Option Addr} {c : Nat} {l : List (Int × Int)} (hl : l.length < 4611686018427387904) :
    Con Go.Proofs.Tryz.prog 41 #[.slice a l.length c, .func (.func 42) #[] #[]] r [OwnP (Rp.cells 2) 54 (.slice a l.length c) (l.map cells2)]
      (Ret fun v η => v = .tuple #[] ∧ η = [OwnP (Rp.cells 2) 54 (.slice a l.length c) ((sortF cmp2 l).map cells2)]) :=
  sortF_con (enc := cells2) (k := 2) (fun _ => rfl) (by decide) (fun x v hv => by simp [cells2] at hv; rcases hv with rfl | rfl <;> rfl) cmp2 (fun x y => linksCmp_c x y)
    (fun blk off cap d w h1 h2 h3 h4 => AnyQ.slices_SortFunc_total layF 2 Go.Proofs.Tryz.isAgg54 (fun w => Go.Sp.run_sizeOf FactNet8.size54 w) cells2 (fun _ => rfl) (fun x v hv => by simp [cells2] at hv; rcases hv with rfl | rfl <;> rfl) cmp2 swo2 42 #[] blk off cap d w
      (enters_of Go.Proofs.Tryz.func42 (by kernel_rfl) rfl) h1 h2 h3 h4 tot2)
    (fun p cap fv w => AnyF.slices_SortFunc_none layF p cap fv w) hl
theorem sort2_rises (l : List (Int × Int)) : List.Pairwise (fun x y => (!(ltOf cmp2) y x) = true) (sortF cmp2 l) := by
  refine List.pairwise_mergeSort (le := fun x y : Int × Int => !(ltOf cmp2) y x) (fun a b c h1 h2 => ?_) (fun a b => ?_) l
  · simp only [Bool.not_eq_true', lt2, decide_eq_false_iff_not] at h1 h2 ⊢
    omega
  · simp only [Bool.or_eq_true, Bool.not_eq_true', lt2, decide_eq_false_iff_not]
    omega
theorem sort2_unique {l l' : List (Int × Int)} (h : l.Perm l') : sortF cmp2 l = sortF cmp2 l' :=
  List.Perm.eq_of_pairwise (fun a b _ _ p q => tot2 a b (by simpa using q) (by simpa using p)) (sort2_rises l) (sort2_rises l') ((sortF_perm cmp2 l).trans (h.trans (sortF_perm cmp2 l').symm))
/-- the links, rising -/
def linksS (ls : NetM) : List (Int × Int) := sortF cmp2 (ls.map (·.1))
theorem all1_c {r : Fr} {l b bm d : Nat} {ls : NetM} {J : List (Int × Int) → SProp} (hat : At r ⟨d, 0, none⟩ [.map (some b)])
    (hy : ∀ done y, (∃ rest, (ls.map (·.1)).Perm ((done ++ [y]) ++ rest)) → YCon Go.Proofs.Tryz.prog l #[enc2 y] r [J done] (Ret fun u η => u = .bool true ∧ η = [J (done ++ [y])])) :
    Con Go.Proofs.Tryz.prog 55 #[yieldV l, .pointer (some ⟨bm, 0, none⟩)] r [obj bm 25 [.pointer (some ⟨d, 0, none⟩)], linksW b ls, J []]
      (Ret fun u η => ∃ ys, (ls.map (·.1)).Perm ys ∧ η = [linksW b ls, J ys]) := by
  refine Con.of (n := 18) [yieldV l, .pointer (some ⟨bm, 0, none⟩)] rfl Go.Proofs.Tryz.func55 rfl rfl rfl fun g hg R hR => ?_
  replace hat : At g.h ⟨d, 0, none⟩ [.map (some b)] := At.mono hg hat
  refine S.linksOpen (by repeat (first | exact Sel.here | apply Sel.there)) fun es c hwf hk => ?_
  refine S.seq (S.region rfl ?_)
  refine O.op (.p rfl) (.loadObj FactNet8.flat25 rfl (by repeat (first | exact Sel.here | apply Sel.there)) rfl) ?_
  refine O.op (.p rfl) (.nilCheck rfl) ?_
  refine O.op (.p rfl) (.fieldAddr FactNet8.fld59x0 rfl) ?_
  refine O.op (.p rfl) (.fieldAddr FactNet8.fld57x0 rfl) ?_
  refine O.op (.p rfl) (.loadAt FactNet8.flat55 rfl hat rfl) ?_
  refine O.opE (.p rfl) (.rangeK Go.Proofs.Tryz.underlying55 rfl (by repeat (first | exact Sel.here | apply Sel.there))) ?_
  rintro _ _ ⟨it9, rfl, rfl⟩
  refine O.nil ?_
  refine S.block ?_
  refine S.pk (ζ := [IterK (K := Int × Int) it9 b c [], MapK enc2 b es c, J [], EachP linkO es ls]) (by repeat (first | exact Picks.all | exact Picks.nil | (apply Picks.cons; focus (repeat (first | exact Sel.here | apply Sel.there))) | apply Picks.skip)) ?_
  refine S.loopK2 (ι := List (KEnt (Int × Int))) (κ := List (KEnt (Int × Int))) (fun done todo => es.Perm (done ++ todo)) (fun done todo => []) [(0, _), (9, _)] (fun done todo => [IterK it9 b c done, MapK enc2 b es c, J (done.map (·.1)), EachP linkO es ls]) (fun done todo => todo.length) ([]) (es) (by exact List.Perm.refl _) (.nil) (.cons rfl (.cons rfl (.nil))) rfl fun done todo hx ih => ?_
  have hm1 := meltRefl (g := g)
  refine S.seq (S.region rfl ?_)
  refine O.nextK (.p rfl) rfl hwf hx (by repeat (first | exact Sel.here | apply Sel.there)) (by repeat (first | exact Sel.here | apply Sel.there)) (fun h10 => ?_) (fun y10 t110 t210 h10 => ?_)
  · refine O.op (.p rfl) (.extract rfl rfl) ?_
    refine O.nil ?_
    refine S.seq (S.condF rfl ?_)
    refine S.exit rfl ?_
    subst h10
    rw [List.append_nil] at hx
    refine S.linksShut hwf (by repeat (first | exact Sel.here | apply Sel.there)) (by repeat (first | exact Sel.here | apply Sel.there)) ?_
    refine S.end0 Go.Proofs.Tryz.results55 fun w hw => Holds.end_ hR hw ?_
    exact ⟨_, ⟨done.map (·.1), by rw [← hk]; exact hx.map _, rfl⟩, by repeat (first | exact Picks.all | exact Picks.nil | (apply Picks.cons; focus (repeat (first | exact Sel.here | apply Sel.there))) | apply Picks.skip)⟩
  · subst h10
    have hmem : y10 ∈ es := hx.mem_iff.2 (by simp)
    have hp2 : es.Perm ((done ++ [y10]) ++ (t110 ++ t210)) := hx.trans (by
      rw [List.append_assoc]; exact List.Perm.append_left _ (List.perm_middle))
    have hok : ∃ rest, (ls.map (·.1)).Perm ((done.map (·.1) ++ [y10.1]) ++ rest) := ⟨(t110 ++ t210).map (·.1), by rw [← hk]; simpa using hp2.map (·.1)⟩
    refine O.op (.p rfl) (.extract rfl rfl) ?_
    refine O.nil ?_
    refine S.seq (S.condT rfl ?_)
    refine S.skip (S.block (S.seq (S.region rfl ?_)))
    refine O.op (.p rfl) (.entryK rfl hwf hmem (by repeat (first | exact Sel.here | apply Sel.there)) (by repeat (first | exact Sel.here | apply Sel.there))) ?_
    refine O.op (.p rfl) (.extract rfl rfl) ?_
    refine O.slot 13 (v' := .agg #[.int .i64 y10.1.1, .int .i64 y10.1.2]) rfl (by rfl) ?_
    refine O.opE (.p rfl) (.alloc (cs := [.int .i64 0, .int .i64 0]) Go.Proofs.Tryz.zeroValue62 rfl) ?_
    rintro _ _ ⟨b3, rfl, rfl⟩
    refine O.opU rfl (.storeObj (by kernel_rfl) rfl rfl rfl rfl (by repeat (first | exact Sel.here | apply Sel.there)) (by first | (simp; done) | (simp [Value.cells]; done))) ?_
    refine O.nil ?_
    refine S.seq (S.region rfl ?_)
    refine O.op (.p rfl) (.mv rfl) ?_
    refine O.op (.p rfl) (.loadObjAgg (news := [_, _]) Go.Proofs.Tryz.isAgg62 (by kernel_rfl) rfl (by repeat (first | exact Sel.here | apply Sel.there)) rfl) ?_
    refine O.slot 15 (v' := enc2 y10.1) rfl (by rfl) ?_
    refine O.yieldSs (.p rfl) rfl rfl rfl (by repeat (first | exact Sels.nil | (apply Sels.cons; focus (repeat (first | exact Sel.here | apply Sel.there))))) ((hy _ y10.1 hok).sub hg) ?_
    rintro v16 _ ⟨rfl, rfl⟩
    refine O.op (.p rfl) (.not rfl) ?_
    refine O.nil ?_
    refine S.condF rfl ?_
    refine S.skip (S.inBlock ?_)
    simp only [List.cons_append, List.nil_append]
    rw [show done.map (·.1) ++ [y10.1] = (done ++ [y10]).map (·.1) from by simp]
    refine S.pk ?_ (S.weaken ?_ (ih (done ++ [y10]) (t110 ++ t210) (by exact hp2) (by simp)))
    · repeat (first | exact Picks.all | exact Picks.nil | (apply Picks.cons; focus (repeat (first | exact Sel.here | apply Sel.there))) | apply Picks.skip)
    repeat (first | exact Sub.nil | refine Sub.cons rfl ?_)
theorem all_c {r : Fr} {d : Nat} : Con Go.Proofs.Tryz.prog 40 #[.pointer (some ⟨d, 0, none⟩)] r [] (Ret fun v η => ∃ bm, v = .func (.func 55) #[] #[.pointer (some ⟨bm, 0, none⟩)] ∧ η = [obj bm 25 [.pointer (some ⟨d, 0, none⟩)]]) := by
  refine Con.of (n := 4) [.pointer (some ⟨d, 0, none⟩)] rfl Go.Proofs.Tryz.func40 rfl rfl rfl fun g hg R hR => ?_
  refine S.seq (S.region rfl ?_)
  refine O.opE (.p rfl) (.box (cs := [_]) rfl rfl) ?_
  rintro _ _ ⟨b1, rfl, rfl⟩
  refine O.op (.p rfl) (.as rfl) ?_
  refine O.nil ?_
  refine S.seq (S.region rfl ?_)
  refine O.op (.p rfl) (.mkFunc rfl rfl) ?_
  refine O.op (.p rfl) (.as rfl) ?_
  refine O.nil ?_
  refine S.ret Go.Proofs.Tryz.results40 rfl fun w hw => Holds.end_ hR hw ?_
  exact ⟨_, ⟨_, rfl, rfl⟩, by repeat (first | exact Picks.all | exact Picks.nil | (apply Picks.cons; focus (repeat (first | exact Sel.here | apply Sel.there))) | apply Picks.skip)⟩
theorem links_g {r : Fr} {d b : Nat} {ls : NetM} (hat : At r ⟨d, 0, none⟩ [.map (some b)]) (hl : ls.length ≤ 1000000) :
    Con Go.Proofs.Tryz.prog 21 #[.pointer (some ⟨d, 0, none⟩)] r [linksW b ls]
      (Ret fun v η => ∃ a n, v = .slice a (linksS ls).length n ∧ η = [OwnP (Rp.cells 2) 54 (.slice a (linksS ls).length n) ((linksS ls).map cells2), linksW b ls]) := by
  refine Con.of (n := 18) [.pointer (some ⟨d, 0, none⟩)] rfl Go.Proofs.Tryz.func21 rfl rfl rfl fun g hg R hR => ?_
  replace hat : At g.h ⟨d, 0, none⟩ [.map (some b)] := At.mono hg hat
  refine S.seq (S.region rfl ?_)
  refine O.op (.p rfl) (.as rfl) ?_
  refine O.nil ?_
  refine S.seq (S.seq (S.region rfl ?_))
  refine O.op (.p rfl) (.mv rfl) ?_
  refine O.call0 (.p rfl) rfl FactNet8.ok28 rfl rfl (known_g (by assumption)) ?_
  rintro v6 _ ⟨rfl, rfl⟩
  try simp only [List.cons_append, List.nil_append, List.append_nil]
  refine O.op (.p rfl) (.not rfl) ?_
  refine O.nil ?_
  refine S.condF rfl ?_
  refine S.skip (S.seq (S.region rfl ?_))
  refine O.opE (.p rfl) (.alloc (cs := [.slice none 0 0]) Go.Proofs.Tryz.zeroValue47 rfl) ?_
  rintro _ _ ⟨b3, rfl, rfl⟩
  refine O.nil ?_
  refine S.seq (S.seq (S.region rfl ?_))
  refine O.op (.p rfl) (.mv rfl) ?_
  refine O.call0 (.p rfl) rfl FactNet8.ok40 rfl rfl ((all_c)) ?_
  rintro v9 _ ⟨bm, rfl, rfl⟩
  try simp only [List.cons_append, List.nil_append, List.append_nil]
  refine O.nil ?_
  refine S.block ?_
  refine S.addNil (T := Rp.cells 2) (e := 54) ?_
  refine S.rangeAny (psl := [10]) (β := Int × Int) (χ := Unit) (τ := Option Addr × Nat) (vs := fun y _ => [.agg #[.int .i64 y.1, .int .i64 y.2]]) (own := fun _ _ => []) (θ := [obj bm 25 [.pointer (some ⟨d, 0, none⟩)], linksW b ls]) (θ' := [linksW b ls]) (fun d => ∃ rest, (ls.map (·.1)).Perm (d ++ rest)) (fun ys => (ls.map (·.1)).Perm ys) (fun done t => [obj b3 47 [.slice t.1 done.length t.2], OwnP (Rp.cells 2) 54 (.slice t.1 done.length t.2) (done.map cells2)]) (none, 0) rfl FactNet8.ok55 rfl (fun _ _ => rfl) (by kernel_rfl) (fun l J hy => Con.mono (all1_c hat (fun done y hok => hy done y () hok)) (Ret.imp fun _ _ ⟨ys, h1, h2⟩ => ⟨ys, h1, h2⟩)) (by repeat (first | exact Sels.nil | (apply Sels.cons; focus (repeat (first | exact Sel.here | apply Sel.there))))) (fun l D0 fid tm done y e t hpre g hgr R hR => ?_) (fun D0 t ys hfin => ?_)
  · simp only [under, List.cons_append, List.nil_append]
    replace hg := Fr.sub_trans hg hgr
    try replace hat := hat.mono hgr
    obtain ⟨at', ct⟩ := t
    obtain ⟨rest, hrest⟩ := hpre
    have hln := hrest.length_eq
    simp only [List.length_append, List.length_singleton, List.length_map] at hln
    refine S.region rfl ?_
    refine O.opE (.p rfl) (.alloc (cs := [.int .i64 0, .int .i64 0]) Go.Proofs.Tryz.zeroValue54 rfl) ?_
    rintro _ _ ⟨b4, rfl, rfl⟩
    refine O.opU rfl (.storeObj (by kernel_rfl) rfl rfl rfl rfl (by repeat (first | exact Sel.here | apply Sel.there)) (by first | (simp; done) | (simp [Value.cells]; done))) ?_
    refine O.nil ?_
    refine S.beginRound (by repeat (first | exact Sel.here | apply Sel.there)) rfl ?_
    refine S.block (S.region rfl ?_)
    refine O.op (.p rfl) (.loadObj FactNet8.flat47 rfl (by repeat (first | exact Sel.here | apply Sel.there)) rfl) ?_
    refine O.op (.p rfl) (.loadObjAgg (news := [_, _]) Go.Proofs.Tryz.isAgg54 (by kernel_rfl) rfl (by repeat (first | exact Sel.here | apply Sel.there)) rfl) ?_
    refine O.opE (.p rfl) (.litP (T := (Rp.cells 2)) (ys := [_]) Go.Proofs.Tryz.underlying47 FactNet8.elem54 (by decide) rfl rfl ⟨⟨rfl, rfl, by first | (simp; done) | (intro v hv; simp [Value.cells] at hv; rcases hv with rfl | rfl <;> rfl) | (refine List.forall_mem_cons.2 ⟨rfl, ?_⟩; repeat (first | exact (fun _ h => absurd h List.not_mem_nil) | refine List.forall_mem_cons.2 ⟨rfl, ?_⟩))⟩, trivial⟩ (by decide)) ?_
    rintro _ _ ⟨a13, c13, rfl, rfl⟩
    refine O.opE (.p rfl) (.appendO (T := (Rp.cells 2)) Go.Proofs.Tryz.underlying47 FactNet8.elem54 (by decide) rfl rfl (by repeat (first | exact Sel.here | apply Sel.there)) (by repeat (first | exact Sel.here | apply Sel.there)) (by first | omega | (simp; done) | (simp; omega) | decide) (by first | omega | (simp; done) | (simp; omega) | decide)) ?_
    rintro _ _ ⟨a14, c14, rfl, rfl⟩
    refine O.opU rfl (.store1 FactNet8.flat47 rfl rfl (by first | rfl | assumption) (by repeat (first | exact Sel.here | apply Sel.there)) (by first | (simp; done) | (simp [Value.cells]; done))) ?_
    refine O.nil ?_
    refine S.inBlock ?_
    refine S.roundEnd (by repeat (first | exact Sel.here | apply Sel.there)) fun w hw => hR (a14, c14) w ?_
    simp only [List.length_append, List.length_singleton, List.map_append, List.length_map] at hw ⊢
    exact hw.picks (by repeat (first | exact Picks.all | exact Picks.nil | (apply Picks.cons; focus (repeat (first | exact Sel.here | apply Sel.there))) | apply Picks.skip))
  · simp only [List.cons_append, List.nil_append, List.append_nil]
    have hyl := hfin.length_eq
    rw [List.length_map] at hyl
    have e : sortF cmp2 ys = linksS ls := sort2_unique hfin.symm
    have e2 : ys.length = (linksS ls).length := by rw [← e, sortF_length]
    refine S.inBlock (S.seq (S.region rfl ?_))
    refine O.op (.p rfl) (.loadObj FactNet8.flat47 rfl (by repeat (first | exact Sel.here | apply Sel.there)) rfl) ?_
    refine O.callS (.p rfl) rfl FactNet8.ok41 rfl rfl (by repeat (first | exact Sel.here | apply Sel.there)) (sortLinks_c (by omega)) ?_
    rintro v16 _ ⟨rfl, rfl⟩
    try simp only [List.cons_append, List.nil_append, List.append_nil]
    refine O.nil ?_
    refine S.seq (S.region rfl ?_)
    refine O.op (.p rfl) (.loadObj FactNet8.flat47 rfl (by repeat (first | exact Sel.here | apply Sel.there)) rfl) ?_
    refine O.op (.p rfl) (.as rfl) ?_
    refine O.nil ?_
    rw [e, e2]
    refine S.retM1 (.inr ⟨_, rfl⟩) (.cons (by repeat (first | exact Sel.here | apply Sel.there)) .nil) Go.Proofs.Tryz.results21 (.tmp rfl) fun w hw => ?_
    exact Holds.end_ hR hw ⟨_, ⟨_, _, rfl, rfl⟩, by repeat (first | exact Picks.all | exact Picks.nil | (apply Picks.cons; focus (repeat (first | exact Sel.here | apply Sel.there))) | apply Picks.skip)⟩
theorem links_0 {r : Fr} : Con Go.Proofs.Tryz.prog 21 #[.pointer none] r [] (Ret fun u η => u = .slice none 0 0 ∧ η = []) := by
  refine Con.of (n := 18) [.pointer none] rfl Go.Proofs.Tryz.func21 rfl rfl rfl fun g hg R hR => ?_
  refine S.seq (S.region rfl ?_)
  refine O.op (.p rfl) (.as rfl) ?_
  refine O.nil ?_
  refine S.seq (S.seq (S.region rfl ?_))
  refine O.op (.p rfl) (.mv rfl) ?_
  refine O.call0 (.p rfl) rfl FactNet8.ok28 rfl rfl ((known_0)) ?_
  rintro v6 _ ⟨rfl, rfl⟩
  try simp only [List.cons_append, List.nil_append, List.append_nil]
  refine O.op (.p rfl) (.not rfl) ?_
  refine O.nil ?_
  refine S.condT rfl ?_
  refine S.seq (S.region rfl ?_)
  refine O.op (.p rfl) (.as rfl) ?_
  refine O.nil ?_
  refine S.retM1 (.inr ⟨_, rfl⟩) .nil Go.Proofs.Tryz.results21 (.tmp rfl) fun w hw => ?_
  exact Holds.end_ hR hw ⟨_, ⟨rfl, rfl⟩, by repeat (first | exact Picks.all | exact Picks.nil | (apply Picks.cons; focus (repeat (first | exact Sel.here | apply Sel.there))) | apply Picks.skip)⟩
theorem links_n {r : Fr} {d : Nat} (hat : At r ⟨d, 0, none⟩ [.map none]) : Con Go.Proofs.Tryz.prog 21 #[.pointer (some ⟨d, 0, none⟩)] r [] (Ret fun u η => u = .slice none 0 0 ∧ η = []) := by
  refine Con.of (n := 18) [.pointer (some ⟨d, 0, none⟩)] rfl Go.Proofs.Tryz.func21 rfl rfl rfl fun g hg R hR => ?_
  replace hat : At g.h ⟨d, 0, none⟩ [.map none] := At.mono hg hat
  refine S.seq (S.region rfl ?_)
  refine O.op (.p rfl) (.as rfl) ?_
  refine O.nil ?_
  refine S.seq (S.seq (S.region rfl ?_))
  refine O.op (.p rfl) (.mv rfl) ?_
  refine O.call0 (.p rfl) rfl FactNet8.ok28 rfl rfl ((known_n hat)) ?_
  rintro v6 _ ⟨rfl, rfl⟩
  try simp only [List.cons_append, List.nil_append, List.append_nil]
  refine O.op (.p rfl) (.not rfl) ?_
  refine O.nil ?_
  refine S.condT rfl ?_
  refine S.seq (S.region rfl ?_)
  refine O.op (.p rfl) (.as rfl) ?_
  refine O.nil ?_
  refine S.retM1 (.inr ⟨_, rfl⟩) .nil Go.Proofs.Tryz.results21 (.tmp rfl) fun w hw => ?_
  exact Holds.end_ hR hw ⟨_, ⟨rfl, rfl⟩, by repeat (first | exact Picks.all | exact Picks.nil | (apply Picks.cons; focus (repeat (first | exact Sel.here | apply Sel.there))) | apply Picks.skip)⟩

end Go.Proofs.YthaebmfgelaleaaGreat
end
section
open Go Go.Sp
set_option maxRecDepth 100000
attribute [local irreducible] obj Own OwnP
namespace Go.Proofs.YthaebmfgelaleaaGreat
theorem FactNet9.elem35 : elemIs Go.Proofs.Tryz.prog 35 3 40 [.int .i64 0, .int .i64 0, .slice none 0 0] := elemIs.mk (by kernel_rfl) rfl
theorem FactNet9.flat33 : Go.Sp.flat1 Go.Proofs.Tryz.prog 33 = true := by kernel_rfl
theorem FactNet9.fld35x2 : fieldOff Go.Proofs.Tryz.prog 35 2 = some 2 := by kernel_rfl
theorem FactNet9.ok10 : callable Go.Proofs.Tryz.prog 10 = true := by kernel_rfl
theorem FactNet9.ok13 : callable Go.Proofs.Tryz.prog 13 = true := by kernel_rfl
theorem FactNet9.ok16 : callable Go.Proofs.Tryz.prog 16 = true := by kernel_rfl
theorem FactNet9.ok21 : callable Go.Proofs.Tryz.prog 21 = true := by kernel_rfl
theorem FactNet9.ok23 : callable Go.Proofs.Tryz.prog 23 = true := by kernel_rfl
theorem FactNet9.ok26 : callable Go.Proofs.Tryz.prog 26 = true := by kernel_rfl
theorem FactNet9.ok7 : callable Go.Proofs.Tryz.prog 7 = true := by kernel_rfl
theorem FactNet9.size3 : (Go.Proofs.Tryz.prog.info? 3).map (·.size) = some 1 := by kernel_rfl
theorem FactNet9.size54 : (Go.Proofs.Tryz.prog.info? 54).map (·.size) = some 2 := by kernel_rfl

theorem of_c {r : Fr} (f t : Int) {s : List UInt8} (hl : s.length ≤ 9223372036854775807) : Con Go.Proofs.Tryz.prog 26 #[.int .i64 f, .int .i64 t, .string (str s)] r [] (Ret fun u η => ∃ a c, u = .agg #[.int .i64 f, .int .i64 t, .slice a s.length c] ∧ η = [OwnP Rp.u8 5 (.slice a s.length c) s]) := by
  refine Con.of (n := 12) [.int .i64 f, .int .i64 t, .string (str s)] rfl Go.Proofs.Tryz.func26 rfl rfl rfl fun g hg R hR => ?_
  refine S.seq (S.region rfl ?_)
  refine O.opE (.p rfl) (.alloc (cs := [.int .i64 0, .int .i64 0, .slice none 0 0]) Go.Proofs.Tryz.zeroValue35 rfl) ?_
  rintro _ _ ⟨b6, rfl, rfl⟩
  refine O.nil ?_
  refine S.seq (S.region rfl ?_)
  refine O.op (.p rfl) (.mv rfl) ?_
  refine O.op (.p rfl) (.mv rfl) ?_
  refine O.op (.p rfl) (.mv rfl) ?_
  refine O.opE (.p rfl) (.strBytesO Go.Proofs.Tryz.underlying9 Go.Proofs.Tryz.underlying33 Go.Proofs.Tryz.underlying5 rfl hl) ?_
  rintro v10 _ ⟨a10, c10, rfl, rfl⟩
  refine O.op (.p rfl) (.build (cs := [_, _, _]) Go.Proofs.Tryz.underlying35 rfl rfl rfl rfl rfl) ?_
  refine O.opU rfl (.storeObj (by kernel_rfl) rfl rfl rfl rfl (by repeat (first | exact Sel.here | apply Sel.there)) (by first | (simp; done) | (simp [Value.cells]; done))) ?_
  refine O.nil ?_
  refine S.retCellAgg Go.Proofs.Tryz.results26 Go.Proofs.Tryz.isAgg35 (by kernel_rfl) rfl (by repeat (first | exact Sel.here | apply Sel.there)) fun w hw => Holds.end_ hR hw ?_
  exact ⟨_, ⟨a10, c10, rfl, rfl⟩, by repeat (first | exact Picks.all | exact Picks.nil | (apply Picks.cons; focus (repeat (first | exact Sel.here | apply Sel.there))) | apply Picks.skip)⟩
theorem one64 : InI64 1 := by constructor <;> decide
theorem two64 : InI64 2 := by constructor <;> decide
abbrev awX : Pkt := (1, 2, [120], ())
abbrev awY : Pkt := (1, 2, [121], ())
theorem awake_c {r : Fr} : Con Go.Proofs.Tryz.prog 6 #[] r [] (Ret fun v η => v = .bool true ∧ η = []) := by
  refine Con.of (n := 82) [] rfl Go.Proofs.Tryz.func6 rfl rfl rfl fun g hg R hR => ?_
  refine S.seq (S.region rfl ?_)
  refine O.op (.p rfl) (.as rfl) ?_
  refine O.nil ?_
  refine S.seq (S.region rfl ?_)
  refine O.call0 (.p rfl) rfl FactNet9.ok7 rfl rfl ((nnew_c)) ?_
  rintro v12 _ ⟨d12, b12, rfl, rfl⟩
  try simp only [List.cons_append, List.nil_append, List.append_nil]
  refine O.frzO (by repeat (first | exact Sel.here | apply Sel.there)) fun g hs hm hat => ?_
  replace hg := Fr.sub_trans hg hs
  replace hR := melted hR hm
  clear hs hm
  refine O.op (.p rfl) (.as rfl) ?_
  refine O.nil ?_
  refine S.seq (S.region rfl ?_)
  refine O.op (.p rfl) (.mv rfl) ?_
  refine O.call0 (.p rfl) rfl FactNet9.ok26 rfl rfl ((of_c (s := [120]) 1 2 (by decide))) ?_
  rintro v14 _ ⟨a14, c14, rfl, rfl⟩
  try simp only [List.cons_append, List.nil_append, List.append_nil]
  refine O.frzA (by repeat (first | exact Sel.here | apply Sel.there)) fun g hs hm ha14 => ?_
  replace hg := Fr.sub_trans hg hs
  replace hR := melted hR hm
  try replace hat := hat.mono hs
  clear hs hm
  refine O.call0 (.p rfl) rfl FactNet9.ok26 rfl rfl ((of_c (s := [121]) 1 2 (by decide))) ?_
  rintro v15 _ ⟨a15, c15, rfl, rfl⟩
  try simp only [List.cons_append, List.nil_append, List.append_nil]
  refine O.frzA (by repeat (first | exact Sel.here | apply Sel.there)) fun g hs hm ha15 => ?_
  replace hg := Fr.sub_trans hg hs
  replace hR := melted hR hm
  try replace hat := hat.mono hs
  try replace ha14 := ha14.mono hs
  clear hs hm
  refine O.opE (.p rfl) (.litP (T := (Rp.cells 3)) (ys := [_, _]) Go.Proofs.Tryz.underlying29 FactNet9.elem35 (by decide) rfl rfl ⟨⟨rfl, rfl, by first | (simp; done) | (intro v hv; simp [Value.cells] at hv; rcases hv with rfl | rfl <;> rfl) | (refine List.forall_mem_cons.2 ⟨rfl, ?_⟩; repeat (first | exact (fun _ h => absurd h List.not_mem_nil) | refine List.forall_mem_cons.2 ⟨rfl, ?_⟩))⟩, ⟨rfl, rfl, by first | (simp; done) | (intro v hv; simp [Value.cells] at hv; rcases hv with rfl | rfl <;> rfl) | (refine List.forall_mem_cons.2 ⟨rfl, ?_⟩; repeat (first | exact (fun _ h => absurd h List.not_mem_nil) | refine List.forall_mem_cons.2 ⟨rfl, ?_⟩))⟩, trivial⟩ (by decide)) ?_
  rintro _ _ ⟨a16, c16, rfl, rfl⟩
  refine O.frzA (by repeat (first | exact Sel.here | apply Sel.there)) fun g hs hm ha16 => ?_
  replace hg := Fr.sub_trans hg hs
  replace hR := melted hR hm
  try replace hat := hat.mono hs
  try replace ha14 := ha14.mono hs
  try replace ha15 := ha15.mono hs
  clear hs hm
  refine O.callS (.p rfl) rfl FactNet9.ok16 rfl rfl (by repeat (first | exact Sel.here | apply Sel.there)) (send_g (ps := [awX, awY]) hat (Arr.ofCells ha16 ⟨PktRp.mk one64 two64 ha14, PktRp.mk one64 two64 ha15, trivial⟩ rfl)) ?_
  rintro v17 _ ⟨rfl, rfl⟩
  try simp only [List.cons_append, List.nil_append, List.append_nil]
  rw [show sendE [] [awX, awY] = 0 from by decide, show sendM [] [awX, awY] = [((1, 2), [awX, awY])] from by rfl]
  refine O.op (.p rfl) (.as rfl) ?_
  refine O.nil ?_
  refine S.seq (S.region rfl ?_)
  refine O.op (.p rfl) (.mv rfl) ?_
  refine O.callS (.p rfl) rfl FactNet9.ok13 rfl rfl (by repeat (first | exact Sel.here | apply Sel.there)) (twice_yes (ls := [((1, 2), [awX, awY])]) (f := 1) (t := 2) (i := 0) hat (by decide) (by decide)) ?_
  rintro v19 _ ⟨rfl, rfl⟩
  try simp only [List.cons_append, List.nil_append, List.append_nil]
  rw [show fullL [((1, 2), [awX, awY])] (atL [((1, 2), [awX, awY])] (1, 2))[0] = false from by decide, show sendL [((1, 2), [awX, awY])] (atL [((1, 2), [awX, awY])] (1, 2))[0] = [((1, 2), [awX, awY, awX])] from by rfl]
  refine O.op (.p rfl) (.as rfl) ?_
  refine O.nil ?_
  refine S.seq (S.region rfl ?_)
  refine O.op (.p rfl) (.mv rfl) ?_
  refine O.callS (.p rfl) rfl FactNet9.ok23 rfl rfl (by repeat (first | exact Sel.here | apply Sel.there)) (many_g (ls := [((1, 2), [awX, awY, awX])]) hat) ?_
  rintro v21 _ ⟨rfl, rfl⟩
  try simp only [List.cons_append, List.nil_append, List.append_nil]
  refine O.op (.p rfl) (.as rfl) ?_
  refine O.nil ?_
  refine S.seq (S.region rfl ?_)
  refine O.op (.p rfl) (.mv rfl) ?_
  refine O.callS (.p rfl) rfl FactNet9.ok10 rfl rfl (by repeat (first | exact Sel.here | apply Sel.there)) (take_yes (ls := [((1, 2), [awX, awY, awX])]) (f := 1) (t := 2) (i := 1) hat (by decide)) ?_
  rintro v24 _ ⟨a24, c24, rfl, _, _, rfl⟩
  try simp only [List.cons_append, List.nil_append, List.append_nil]
  rw [show takeL [((1, 2), [awX, awY, awX])] (1, 2) 1 = [((1, 2), [awX, awX])] from by rfl]
  refine O.frzA (by repeat (first | exact Sel.here | apply Sel.there)) fun g hs hm ha24 => ?_
  replace hg := Fr.sub_trans hg hs
  replace hR := melted hR hm
  try replace hat := hat.mono hs
  try replace ha14 := ha14.mono hs
  try replace ha15 := ha15.mono hs
  try replace ha16 := ha16.mono hs
  clear hs hm
  refine O.op (.p rfl) (.mv rfl) ?_
  refine O.op (.p rfl) (.extract rfl rfl) ?_
  refine O.op (.p rfl) (.extract rfl rfl) ?_
  refine O.opE (.p rfl) (.alloc (cs := [.int .i64 0, .int .i64 0, .slice none 0 0]) Go.Proofs.Tryz.zeroValue35 rfl) ?_
  rintro _ _ ⟨b5, rfl, rfl⟩
  refine O.opU rfl (.storeObj (by kernel_rfl) rfl rfl rfl rfl (by repeat (first | exact Sel.here | apply Sel.there)) (by first | (simp; done) | (simp [Value.cells]; done))) ?_
  refine O.op (.p rfl) (.as rfl) ?_
  refine O.nil ?_
  refine S.seq (S.region rfl ?_)
  refine O.op (.p rfl) (.mv rfl) ?_
  refine O.callS (.p rfl) rfl FactNet9.ok10 rfl rfl (by repeat (first | exact Sel.here | apply Sel.there)) (take_yes (ls := [((1, 2), [awX, awX])]) (f := 1) (t := 2) (i := 1) hat (by decide)) ?_
  rintro v29 _ ⟨a29, c29, rfl, _, _, rfl⟩
  try simp only [List.cons_append, List.nil_append, List.append_nil]
  rw [show takeL [((1, 2), [awX, awX])] (1, 2) 1 = [((1, 2), [awX])] from by rfl]
  refine O.frzA (by repeat (first | exact Sel.here | apply Sel.there)) fun g hs hm ha29 => ?_
  replace hg := Fr.sub_trans hg hs
  replace hR := melted hR hm
  try replace hat := hat.mono hs
  try replace ha14 := ha14.mono hs
  try replace ha15 := ha15.mono hs
  try replace ha16 := ha16.mono hs
  try replace ha24 := ha24.mono hs
  clear hs hm
  refine O.op (.p rfl) (.mv rfl) ?_
  refine O.op (.p rfl) (.extract rfl rfl) ?_
  refine O.op (.p rfl) (.extract rfl rfl) ?_
  refine O.opE (.p rfl) (.alloc (cs := [.int .i64 0, .int .i64 0, .slice none 0 0]) Go.Proofs.Tryz.zeroValue35 rfl) ?_
  rintro _ _ ⟨b7, rfl, rfl⟩
  refine O.opU rfl (.storeObj (by kernel_rfl) rfl rfl rfl rfl (by repeat (first | exact Sel.here | apply Sel.there)) (by first | (simp; done) | (simp [Value.cells]; done))) ?_
  refine O.op (.p rfl) (.as rfl) ?_
  refine O.nil ?_
  refine S.seq (S.region rfl ?_)
  refine O.op (.p rfl) (.mv rfl) ?_
  refine O.callS (.p rfl) rfl FactNet9.ok10 rfl rfl (by repeat (first | exact Sel.here | apply Sel.there)) (take_no (ls := [((1, 2), [awX])]) (f := 1) (t := 2) (z := 1) hat (by decide)) ?_
  rintro v34 _ ⟨rfl, rfl⟩
  try simp only [List.cons_append, List.nil_append, List.append_nil]
  refine O.op (.p rfl) (.mv rfl) ?_
  refine O.op (.p rfl) (.extract rfl rfl) ?_
  refine O.op (.p rfl) (.extract rfl rfl) ?_
  refine O.opE (.p rfl) (.alloc (cs := [.int .i64 0, .int .i64 0, .slice none 0 0]) Go.Proofs.Tryz.zeroValue35 rfl) ?_
  rintro _ _ ⟨b9, rfl, rfl⟩
  refine O.opU rfl (.storeObj (by kernel_rfl) rfl rfl rfl rfl (by repeat (first | exact Sel.here | apply Sel.there)) (by first | (simp; done) | (simp [Value.cells]; done))) ?_
  refine O.op (.p rfl) (.as rfl) ?_
  refine O.nil ?_
  refine S.seq (S.region rfl ?_)
  refine O.op (.p rfl) (.mv rfl) ?_
  refine O.callS (.p rfl) rfl FactNet9.ok21 rfl rfl (by repeat (first | exact Sel.here | apply Sel.there)) (links_g (ls := [((1, 2), [awX])]) hat (by decide)) ?_
  rintro v38 _ ⟨a38, c38, rfl, rfl⟩
  try simp only [List.cons_append, List.nil_append, List.append_nil]
  rw [show linksS [((1, 2), [awX])] = [(1, 2)] from by simp [linksS, sortF]]
  refine O.frzA (by repeat (first | exact Sel.here | apply Sel.there)) fun g hs hm ha38 => ?_
  replace hg := Fr.sub_trans hg hs
  replace hR := melted hR hm
  try replace hat := hat.mono hs
  try replace ha14 := ha14.mono hs
  try replace ha15 := ha15.mono hs
  try replace ha16 := ha16.mono hs
  try replace ha24 := ha24.mono hs
  try replace ha29 := ha29.mono hs
  clear hs hm
  refine O.op (.p rfl) (.as rfl) ?_
  refine O.nil ?_
  refine S.seq (S.region rfl ?_)
  refine O.op (.p rfl) (.mv rfl) ?_
  refine O.op (.p rfl) (.eql rfl rfl) ?_
  refine O.slot 40 (v' := .bool true) rfl (congrArg Value.bool (by rfl)) ?_
  refine O.op (.p rfl) (.mv rfl) ?_
  refine O.op (.g rfl rfl) (.mv rfl) ?_
  refine O.slot 42 (v' := .bool true) rfl (congrArg Value.bool (by rfl)) ?_
  refine O.op (.p rfl) (.pickT rfl rfl) ?_
  refine O.op (.p rfl) (.mv rfl) ?_
  refine O.op (.g rfl rfl) (.mv rfl) ?_
  refine O.op (.g rfl rfl) (.eql rfl rfl) ?_
  refine O.slot 46 (v' := .bool true) rfl (congrArg Value.bool (by rfl)) ?_
  refine O.op (.p rfl) (.pickT rfl rfl) ?_
  refine O.op (.p rfl) (.mv rfl) ?_
  refine O.op (.g rfl rfl) (.fieldObj FactNet9.fld35x2 rfl) ?_
  refine O.op (.g rfl rfl) (.loadObj FactNet9.flat33 rfl (by repeat (first | exact Sel.here | apply Sel.there)) rfl) ?_
  refine O.op (.g rfl rfl) (.toStr Go.Proofs.Tryz.underlying33 Go.Proofs.Tryz.underlying5 Go.Proofs.Tryz.underlying9 rfl (by first | assumption | exact Arr.mono hg (by assumption) | exact Arr.left (by assumption) | exact Arr.left (Arr.mono hg (by assumption)))) ?_
  refine O.op (.g rfl rfl) (.eqlS rfl rfl) ?_
  refine O.slot 52 (v' := .bool true) rfl (congrArg Value.bool (by rw [show ({ data := #[121] } : ByteArray) = str [121] from rfl, str_toList, str_toList]; rfl)) ?_
  refine O.op (.p rfl) (.pickT rfl rfl) ?_
  refine O.op (.p rfl) (.mv rfl) ?_
  refine O.op (.g rfl rfl) (.mv rfl) ?_
  refine O.op (.p rfl) (.pickT rfl rfl) ?_
  refine O.op (.p rfl) (.mv rfl) ?_
  refine O.op (.g rfl rfl) (.fieldObj FactNet9.fld35x2 rfl) ?_
  refine O.op (.g rfl rfl) (.loadObj FactNet9.flat33 rfl (by repeat (first | exact Sel.here | apply Sel.there)) rfl) ?_
  refine O.op (.g rfl rfl) (.toStr Go.Proofs.Tryz.underlying33 Go.Proofs.Tryz.underlying5 Go.Proofs.Tryz.underlying9 rfl (by first | assumption | exact Arr.mono hg (by assumption) | exact Arr.left (by assumption) | exact Arr.left (Arr.mono hg (by assumption)))) ?_
  refine O.op (.g rfl rfl) (.eqlS rfl rfl) ?_
  refine O.slot 61 (v' := .bool true) rfl (congrArg Value.bool (by rw [show ({ data := #[120] } : ByteArray) = str [120] from rfl, str_toList, str_toList]; rfl)) ?_
  refine O.op (.p rfl) (.pickT rfl rfl) ?_
  refine O.op (.p rfl) (.mv rfl) ?_
  refine O.op (.g rfl rfl) (.mv rfl) ?_
  refine O.op (.p rfl) (.pickT rfl rfl) ?_
  refine O.op (.p rfl) (.mv rfl) ?_
  refine O.op (.g rfl rfl) (.mv rfl) ?_
  refine O.op (.g rfl rfl) (.not rfl) ?_
  refine O.op (.p rfl) (.pickT rfl rfl) ?_
  refine O.op (.p rfl) (.mv rfl) ?_
  refine O.op (.g rfl rfl) (.mv rfl) ?_
  refine O.op (.g rfl rfl) (.len rfl Go.Proofs.Tryz.underlying47 rfl) ?_
  refine O.op (.g rfl rfl) (.eql rfl rfl) ?_
  refine O.slot 73 (v' := .bool true) rfl (congrArg Value.bool (by rfl)) ?_
  refine O.op (.p rfl) (.pickT rfl rfl) ?_
  refine O.op (.p rfl) (.mv rfl) ?_
  refine O.op (.g rfl rfl) (.mv rfl) ?_
  refine O.idx' (.g rfl rfl) Go.Proofs.Tryz.underlying47 FactNet9.size54 rfl rfl (show _ = (((0) : Nat) : Int) by omega) (ha38) (by decide) (by first | omega | (simp; done) | (simp; omega) | decide) (fun p77 cs77 hp77 hr77 => ?_)
  obtain ⟨rfl, _, _⟩ := hr77
  refine O.op (.g rfl rfl) (.loadAgg Go.Proofs.Tryz.isAgg54 (by kernel_rfl) rfl hp77) ?_
  refine O.op (.g rfl rfl) (.build2 Go.Proofs.Tryz.underlying54 FactNet9.size3 Go.Proofs.Tryz.zeroValue54 rfl rfl) ?_
  refine O.op (.g rfl rfl) (.eql2 Go.Proofs.Tryz.underlying54 Go.Proofs.Tryz.underlying3 FactNet9.size3 (by kernel_rfl) rfl rfl) ?_
  refine O.slot 80 (v' := .bool true) rfl (congrArg Value.bool (by rfl)) ?_
  refine O.op (.p rfl) (.pickT rfl rfl) ?_
  refine O.op (.p rfl) (.as rfl) ?_
  refine O.nil ?_
  refine S.ret Go.Proofs.Tryz.results6 rfl fun w hw => Holds.end_ hR hw ?_
  exact ⟨_, ⟨rfl, rfl⟩, by repeat (first | exact Picks.all | exact Picks.nil | (apply Picks.cons; focus (repeat (first | exact Sel.here | apply Sel.there))) | apply Picks.skip)⟩

end Go.Proofs.YthaebmfgelaleaaGreat
end
