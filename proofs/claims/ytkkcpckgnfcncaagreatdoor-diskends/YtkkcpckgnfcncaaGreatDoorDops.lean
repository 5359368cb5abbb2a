import Derived.Test.YtkkcpckgnfcncaaGreatDoorDmore
import Derived.Test.YtkkcpckgnfcncaaGreatDoorSpSort
open Go Go.Sp
set_option maxRecDepth 100000
attribute [local irreducible] obj Own OwnP
namespace Go.Proofs.YtkkcpckgnfcncaaGreatDoor
theorem FactDops.elem9 : elemIs Go.Proofs.Tryz.prog 9 1 16 [.string ⟨#[]⟩] := elemIs.mk (by kernel_rfl) rfl
theorem FactDops.flat24 : Go.Sp.flat1 Go.Proofs.Tryz.prog 24 = true := by kernel_rfl
theorem FactDops.flat3 : Go.Sp.flat1 Go.Proofs.Tryz.prog 3 = true := by kernel_rfl
theorem FactDops.flat60 : Go.Sp.flat1 Go.Proofs.Tryz.prog 60 = true := by kernel_rfl
theorem FactDops.flat9 : Go.Sp.flat1 Go.Proofs.Tryz.prog 9 = true := by kernel_rfl
theorem FactDops.fld62x0 : fieldOff Go.Proofs.Tryz.prog 62 0 = some 0 := by kernel_rfl
theorem FactDops.fld62x1 : fieldOff Go.Proofs.Tryz.prog 62 1 = some 1 := by kernel_rfl
theorem FactDops.fld64x0 : fieldOff Go.Proofs.Tryz.prog 64 0 = some 0 := by kernel_rfl
theorem FactDops.fld64x1 : fieldOff Go.Proofs.Tryz.prog 64 1 = some 2 := by kernel_rfl
theorem FactDops.mixed : Go.Proofs.Tryz.prog.follows .mixedOrders = true := by kernel_rfl
theorem FactDops.ok30 : callable Go.Proofs.Tryz.prog 30 = true := by kernel_rfl
theorem FactDops.ok31 : callable Go.Proofs.Tryz.prog 31 = true := by kernel_rfl
theorem FactDops.ok32 : callable Go.Proofs.Tryz.prog 32 = true := by kernel_rfl
theorem FactDops.ok51 : callable Go.Proofs.Tryz.prog 51 = true := by kernel_rfl
theorem FactDops.ok87 : callable Go.Proofs.Tryz.prog 87 = true := by kernel_rfl
theorem FactDops.ok88 : callable Go.Proofs.Tryz.prog 88 = true := by kernel_rfl
theorem FactDops.ok89 : callable Go.Proofs.Tryz.prog 89 = true := by kernel_rfl
theorem FactDops.size9 : (Go.Proofs.Tryz.prog.info? 9).map (·.size) = some 1 := by kernel_rfl

def goneS (s : SS) (l : List (List UInt8)) : SS := l.foldl delT s
theorem goneS_snoc (s : SS) (l : List (List UInt8)) (n : List UInt8) : goneS s (l ++ [n]) = delT (goneS s l) n := by simp [goneS]
theorem goneS_wf {s : SS} {c : Nat} (h : WfT s c) (l : List (List UInt8)) : WfT (goneS s l) c := by
  induction l generalizing s with
  | nil => exact h
  | cons n l ih => exact ih (delT_wf h n)
theorem goneS_get {s : SS} {c : Nat} (h : WfT s c) (l : List (List UInt8)) (k : List UInt8) : getT (goneS s l) k = if k ∈ l then none else getT s k := by
  induction l generalizing s with
  | nil => simp [goneS]
  | cons n l ih =>
    have := ih (delT_wf h n)
    rw [getT_del h.2.2] at this
    show getT (goneS (delT s n) l) k = _
    rw [this]
    by_cases e : k = n
    · subst e; simp
    · simp [e]
theorem goneS_sum (s : SS) (l : List (List UInt8)) : sumT (goneS s l) ≤ sumT s := by
  induction l generalizing s with
  | nil => exact Nat.le_refl _
  | cons n l ih => have := ih (delT s n); have := sumT_del s n; show sumT (goneS (delT s n) l) ≤ _; omega
theorem gone_c {r : Fr} {q1 q2 c1 c2 : Nat} {s l : SS} {va : Value} {names : List (List UInt8)} (ha : Arr Rp.str r va names) :
    Con Go.Proofs.Tryz.prog 88 #[.agg #[.map (some q1), .map (some q2)], va] r [MapT q1 s c1, MapT q2 l c2] (Ret fun v η => v = .tuple #[] ∧ η = [MapT q1 (goneS s names) c1, MapT q2 (goneS l names) c2]) := by
  refine Con.of (n := 19) [.agg #[.map (some q1), .map (some q2)], va] rfl Go.Proofs.Tryz.func88 rfl rfl rfl fun g hg R hR => ?_
  have ha := ha.mono hg
  have hbd := ha.bound
  obtain ⟨a1, n1, rfl⟩ := ha.shape
  refine S.seq (S.region rfl ?_)
  refine O.opE (.p rfl) (.box (cs := [_, _]) rfl rfl) ?_
  rintro _ _ ⟨b2, rfl, rfl⟩
  refine O.nil ?_
  refine S.seq ?_
  refine S.frzO (by repeat (first | exact Sel.here | apply Sel.there)) fun g hs hm h2 => ?_
  replace hg := Fr.sub_trans hg hs
  replace hR := melted hR hm
  try replace ha := ha.mono hs
  clear hs hm
  refine S.region rfl ?_
  refine O.op (.p rfl) (.mv rfl) ?_
  refine O.op (.p rfl) (.len rfl Go.Proofs.Tryz.underlying36 rfl) ?_
  refine O.op (.p rfl) (.mv rfl) ?_
  refine O.nil ?_
  refine S.block ?_
  refine S.loopK (ι := Nat) (fun i => i ≤ names.length) (fun i => [(8, .int .i64 (i : Int))]) [(2, _), (6, _), (7, _)] (fun i => [MapT q1 (goneS s (names.take i)) c1, MapT q2 (goneS l (names.take i)) c2]) (fun i => names.length - i) (0) (by exact Nat.zero_le _) (.cons rfl (.nil)) (.cons rfl (.cons rfl (.cons rfl (.nil)))) rfl fun i hx ih => ?_
  have hm1 := meltRefl (g := g)
  refine S.seq (S.region rfl ?_)
  refine O.op (.p rfl) (.lss rfl rfl) ?_
  refine O.nil ?_
  refine S.seq ?_
  first | refine S.condD rfl (fun h9 => ?_) (fun h9 => ?_) | refine S.condB rfl (fun h9 => ?_) (fun h9 => ?_)
  · have hi : i < names.length := by omega
    have h20 : names.take (i + 1) = names.take i ++ [names[i]] := List.take_succ_eq_append_getElem hi
    have e1 := goneS_snoc s (names.take i) names[i]
    have e2 := goneS_snoc l (names.take i) names[i]
    rw [← h20] at e1 e2
    refine S.skip (S.seq (S.block (S.seq (S.region rfl ?_))))
    refine O.idx' (.p rfl) Go.Proofs.Tryz.underlying36 FactDops.size9 rfl rfl rfl (by first | assumption | exact Arr.mono hg (by assumption) | exact Arr.left (by assumption) | exact Arr.left (Arr.mono hg (by assumption))) (by decide) (by first | omega | (simp; done) | (simp; omega) | decide) (fun p10 cs10 hp10 hr10 => ?_)
    obtain ⟨rfl, hz10⟩ := hr10
    refine O.op (.p rfl) (.loadAt FactDops.flat9 rfl hp10 rfl) ?_
    refine O.op (.p rfl) (.as rfl) ?_
    refine O.nil ?_
    refine S.seq (S.region rfl ?_)
    refine O.op (.p rfl) (.fieldAddr FactDops.fld62x0 rfl) ?_
    refine O.op (.p rfl) (.loadAt FactDops.flat60 rfl h2 rfl) ?_
    refine O.op (.p rfl) (.mv rfl) ?_
    refine O.deleteT rfl Go.Proofs.Tryz.underlying60 Go.Proofs.Tryz.underlying9 rfl rfl (by repeat (first | exact Sel.here | apply Sel.there)) ?_
    refine O.nil ?_
    refine S.region rfl ?_
    refine O.op (.p rfl) (.fieldAddr FactDops.fld62x1 rfl) ?_
    refine O.op (.p rfl) (.loadAt FactDops.flat60 rfl (h2.drop 1) rfl) ?_
    refine O.op (.p rfl) (.mv rfl) ?_
    refine O.deleteT rfl Go.Proofs.Tryz.underlying60 Go.Proofs.Tryz.underlying9 rfl rfl (by repeat (first | exact Sel.here | apply Sel.there)) ?_
    refine O.nil ?_
    refine S.inBlock (S.region rfl ?_)
    refine O.op (.p rfl) (.add rfl rfl (IntWalk.i64_in _ (by omega))) ?_
    refine O.op (.p rfl) (.mv rfl) ?_
    refine O.nil ?_
    rw [← e1, ← e2]
    refine S.pk ?_ (S.weaken ?_ (ih (i + 1) (by exact hi) (by omega)))
    · repeat (first | exact Picks.all | exact Picks.nil | (apply Picks.cons; focus (repeat (first | exact Sel.here | apply Sel.there))) | apply Picks.skip)
    repeat (first | exact Sub.nil | refine Sub.cons rfl ?_)
  · clear ih
    have hi : i = names.length := by omega
    subst hi
    rw [List.take_length]
    refine S.exit rfl ?_
    refine S.end0 Go.Proofs.Tryz.results88 fun w hw => Holds.end_ hR hw ?_
    exact ⟨_, ⟨rfl, rfl⟩, by repeat (first | exact Picks.all | exact Picks.nil | (apply Picks.cons; focus (repeat (first | exact Sel.here | apply Sel.there))) | apply Picks.skip)⟩
theorem gone_w {r : Fr} {q1 q2 c1 c2 : Nat} {T : TypeId} {s l : SS} {va : Value} {names : List (List UInt8)} :
    Con Go.Proofs.Tryz.prog 88 #[.agg #[.map (some q1), .map (some q2)], va] r [MapT q1 s c1, MapT q2 l c2, OwnP Rp.str T va names]
      (Ret fun v η => v = .tuple #[] ∧ η = [MapT q1 (goneS s names) c1, MapT q2 (goneS l names) c2, OwnP Rp.str T va names]) :=
  Con.mono (Con.lentW fun mm hm hd => gone_c (hm.arr.right hd)) (Ret.imp fun _ _ ⟨_, ⟨a, b⟩, c⟩ => ⟨a, by rw [c, b]; rfl⟩)
/-- a file let go -/
def dGone (m : DiskM) (name : List UInt8) : DiskM := { m with safe := goneS m.safe [name], loose := goneS m.loose [name] }
def dRemE (m : DiskM) (name : List UInt8) : Int := if dHas m name then 0 else 6
def dRemM (m : DiskM) (name : List UInt8) : DiskM := if dHas m name then dGone m name else m
theorem remove1_g {r : Fr} {d b1 b2 bd bn : Nat} {m : DiskM} {name : List UInt8} (hat : At r ⟨d, 0, none⟩ (dC b1 b2 m.room)) (hd : At r ⟨bd, 0, none⟩ [.pointer (some ⟨d, 0, none⟩)]) (hn : At r ⟨bn, 0, none⟩ [.string (str name)]) (hnl : name.length ≤ 9223372036854775807) :
    Con Go.Proofs.Tryz.prog 89 #[.pointer (some ⟨bd, 0, none⟩), .pointer (some ⟨bn, 0, none⟩)] r (dW b1 b2 m) (Ret fun v η => v = .int .i64 0 ∧ η = dW b1 b2 (dGone m name)) := by
  refine Con.of (n := 10) [.pointer (some ⟨bd, 0, none⟩), .pointer (some ⟨bn, 0, none⟩)] rfl Go.Proofs.Tryz.func89 rfl rfl rfl fun g hg R hR => ?_
  replace hat : At g.h ⟨d, 0, none⟩ (dC b1 b2 m.room) := At.mono hg hat
  replace hd : At g.h ⟨bd, 0, none⟩ [.pointer (some ⟨d, 0, none⟩)] := At.mono hg hd
  replace hn : At g.h ⟨bn, 0, none⟩ [.string (str name)] := At.mono hg hn
  have hat2 : At g.h ⟨d, 0, none⟩ [.map (some b1), .map (some b2)] := At.take hat 2
  refine S.seq (S.region rfl ?_)
  refine O.op (.p rfl) (.as rfl) ?_
  refine O.nil ?_
  refine S.seq (S.regionD (L := [0, 1, 2, 3, 4, 5, 6]) FactDops.mixed (by kernel_rfl) ?_)
  refine .quiet (.p rfl) rfl (fun _ => .loadAt FactDops.flat24 rfl hd rfl) ?_
  refine .quiet (.p rfl) rfl (fun _ => .nilCheck rfl) ?_
  refine .quiet (.p rfl) rfl (fun _ => .fieldAddr FactDops.fld64x0 rfl) ?_
  refine .quiet (.p rfl) rfl (fun _ => .loadAgg Go.Proofs.Tryz.isAgg62 (by kernel_rfl) rfl hat2) ?_
  refine .quiet (.p rfl) rfl (fun _ => .loadAt FactDops.flat9 rfl hn rfl) ?_
  refine OD.litP (T := Rp.str) (ys := [_]) (.p rfl) (by kernel_rfl) Go.Proofs.Tryz.underlying36 FactDops.elem9 (by decide) rfl rfl ⟨⟨rfl, by first | omega | (simp; done) | (simp; omega) | decide⟩, trivial⟩ (by decide) (fun a8 c8 => ?_)
  refine OD.callSs (.p rfl) (by kernel_rfl) rfl FactDops.ok88 rfl rfl (by repeat (first | exact Sels.nil | (apply Sels.cons; focus (repeat (first | exact Sel.here | apply Sel.there))))) (gone_w (names := [name])) ?_
  rintro v9 _ ⟨rfl, rfl⟩
  try simp only [List.cons_append, List.nil_append, List.append_nil]
  refine .nil ?_
  refine S.seq (S.region rfl ?_)
  refine O.op (.p rfl) (.as rfl) ?_
  refine O.nil ?_
  refine S.ret Go.Proofs.Tryz.results89 rfl fun w hw => Holds.end_ hR hw ?_
  exact ⟨_, ⟨rfl, rfl⟩, by repeat (first | exact Picks.all | exact Picks.nil | (apply Picks.cons; focus (repeat (first | exact Sel.here | apply Sel.there))) | apply Picks.skip)⟩
theorem remove_g {r : Fr} {d q1 q2 : Nat} {m : DiskM} {name : List UInt8} (hat : At r ⟨d, 0, none⟩ (dC q1 q2 m.room)) (hnl : name.length ≤ 9223372036854775807) :
    Con Go.Proofs.Tryz.prog 43 #[.pointer (some ⟨d, 0, none⟩), .string (str name)] r (dW q1 q2 m) (Ret fun v η => v = .int .i64 (dRemE m name) ∧ η = dW q1 q2 (dRemM m name)) := by
  refine Con.of (n := 9) [.pointer (some ⟨d, 0, none⟩), .string (str name)] rfl Go.Proofs.Tryz.func43 rfl rfl rfl fun g hg R hR => ?_
  replace hat : At g.h ⟨d, 0, none⟩ (dC q1 q2 m.room) := At.mono hg hat
  refine S.seq (S.region rfl ?_)
  refine O.opE (.p rfl) (.box (cs := [_]) rfl rfl) ?_
  rintro _ _ ⟨b2, rfl, rfl⟩
  refine O.opE (.p rfl) (.box (cs := [_]) rfl rfl) ?_
  rintro _ _ ⟨b3, rfl, rfl⟩
  refine O.op (.p rfl) (.as rfl) ?_
  refine O.nil ?_
  refine S.seq ?_
  refine S.frzO (by repeat (first | exact Sel.here | apply Sel.there)) fun g hs hm h3 => ?_
  replace hg := Fr.sub_trans hg hs
  replace hR := melted hR hm
  try replace hat := hat.mono hs
  clear hs hm
  refine S.frzO (by repeat (first | exact Sel.here | apply Sel.there)) fun g hs hm h2 => ?_
  replace hg := Fr.sub_trans hg hs
  replace hR := melted hR hm
  try replace hat := hat.mono hs
  try replace h3 := h3.mono hs
  clear hs hm
  refine S.region rfl ?_
  refine O.op (.p rfl) (.loadAt FactDops.flat24 rfl h2 rfl) ?_
  refine O.op (.p rfl) (.loadAt FactDops.flat9 rfl h3 rfl) ?_
  refine O.op (.p rfl) (.mkFunc rfl rfl) ?_
  refine O.callAll (.p rfl) rfl FactDops.ok32 rfl rfl (of_g (θ := []) (K := fun v η => v = .int .i64 0 ∧ η = dW q1 q2 (dGone m name)) hat FactDops.ok89 fun _ => remove1_g hat h2 h3 hnl) ?_
  rintro v8 η' hk
  refine O.op (.p rfl) (.as rfl) ?_
  refine O.nil ?_
  refine S.ret Go.Proofs.Tryz.results43 rfl fun w hw => Holds.end_ hR hw ?_
  have hk2 : v8 = .int .i64 (dRemE m name) ∧ η' = dW q1 q2 (dRemM m name) := by unfold dRemE dRemM; cases hh : dHas m name <;> rw [hh] at hk <;> simpa using hk
  exact ⟨_, hk2, Picks.all⟩
/-- a file renamed -/
def dRen (m : DiskM) (a b : List UInt8) : DiskM :=
  { m with safe := putT (goneS m.safe [a, b]) m.c1 b ((getT m.safe a).getD []), c1 := clkT (goneS m.safe [a, b]) m.c1 b
           loose := if (getT m.loose a).getD [] = [] then goneS m.loose [a, b] else putT (goneS m.loose [a, b]) m.c2 b ((getT m.loose a).getD []), c2 := if (getT m.loose a).getD [] = [] then m.c2 else clkT (goneS m.loose [a, b]) m.c2 b }
def dRenE (m : DiskM) (a b : List UInt8) : Int := if nameOk a && nameOk b then (if dHas m a then 0 else 6) else 2
def dRenM (m : DiskM) (a b : List UInt8) : DiskM := if dRenE m a b = 0 then dRen m a b else m
theorem rename1_g {r : Fr} {d q1 q2 bd bf bt : Nat} {m : DiskM} {a b : List UInt8} (hat : At r ⟨d, 0, none⟩ (dC q1 q2 m.room)) (hd : At r ⟨bd, 0, none⟩ [.pointer (some ⟨d, 0, none⟩)]) (hf : At r ⟨bf, 0, none⟩ [.string (str a)]) (ht : At r ⟨bt, 0, none⟩ [.string (str b)]) (hal : a.length ≤ 9223372036854775807) (hbl : b.length ≤ 9223372036854775807) :
    Con Go.Proofs.Tryz.prog 87 #[.pointer (some ⟨bd, 0, none⟩), .pointer (some ⟨bf, 0, none⟩), .pointer (some ⟨bt, 0, none⟩)] r (dW q1 q2 m) (Ret fun v η => v = .int .i64 0 ∧ η = dW q1 q2 (dRen m a b)) := by
  refine Con.of (n := 44) [.pointer (some ⟨bd, 0, none⟩), .pointer (some ⟨bf, 0, none⟩), .pointer (some ⟨bt, 0, none⟩)] rfl Go.Proofs.Tryz.func87 rfl rfl rfl fun g hg R hR => ?_
  replace hat : At g.h ⟨d, 0, none⟩ (dC q1 q2 m.room) := At.mono hg hat
  replace hd : At g.h ⟨bd, 0, none⟩ [.pointer (some ⟨d, 0, none⟩)] := At.mono hg hd
  replace hf : At g.h ⟨bf, 0, none⟩ [.string (str a)] := At.mono hg hf
  replace ht : At g.h ⟨bt, 0, none⟩ [.string (str b)] := At.mono hg ht
  have hat2 : At g.h ⟨d, 0, none⟩ [.map (some q1), .map (some q2)] := At.take hat 2
  refine S.seq (S.region rfl ?_)
  refine O.op (.p rfl) (.as rfl) ?_
  refine O.nil ?_
  refine S.seq (S.regionD (L := [0, 1, 2, 3, 4, 5, 7, 8, 9, 10, 11, 12, 6, 14, 13, 15]) FactDops.mixed (by kernel_rfl) ?_)
  refine .quiet (.p rfl) rfl (fun _ => .loadAt FactDops.flat24 rfl hd rfl) ?_
  refine .quiet (.p rfl) rfl (fun _ => .nilCheck rfl) ?_
  refine .quiet (.p rfl) rfl (fun _ => .fieldAddr FactDops.fld64x0 rfl) ?_
  refine .quiet (.p rfl) rfl (fun _ => .fieldAddr FactDops.fld62x0 rfl) ?_
  refine .quiet (.p rfl) rfl (fun _ => .loadAt FactDops.flat60 rfl hat2 rfl) ?_
  refine .quiet (.p rfl) rfl (fun _ => .loadAt FactDops.flat9 rfl hf rfl) ?_
  refine .quiet (.p rfl) rfl (fun _ => .loadAt FactDops.flat24 rfl hd rfl) ?_
  refine .quiet (.p rfl) rfl (fun _ => .nilCheck rfl) ?_
  refine .quiet (.p rfl) rfl (fun _ => .fieldAddr FactDops.fld64x0 rfl) ?_
  refine .quiet (.p rfl) rfl (fun _ => .fieldAddr FactDops.fld62x1 rfl) ?_
  refine .quiet (.p rfl) rfl (fun _ => .loadAt FactDops.flat60 rfl (hat2.drop 1) rfl) ?_
  refine .quiet (.p rfl) rfl (fun _ => .loadAt FactDops.flat9 rfl hf rfl) ?_
  refine OD.alt2 6 13 [14, 13, 15] [6, 14, 15] (by kernel_rfl) rfl rfl ?_ ?_
  · refine ODt.doesL (.p rfl) rfl (by kernel_rfl) (fun _ => .lookupT Go.Proofs.Tryz.underlying60 Go.Proofs.Tryz.underlying9 rfl rfl rfl (by repeat (first | exact Sel.here | apply Sel.there))) ?_
    refine .quiet (.p rfl) rfl (fun _ => .as rfl) ?_
    refine OD.doesL (.p rfl) rfl (by kernel_rfl) (fun _ => .lookupT Go.Proofs.Tryz.underlying60 Go.Proofs.Tryz.underlying9 rfl rfl rfl (by repeat (first | exact Sel.here | apply Sel.there))) ?_
    refine .quiet (.p rfl) rfl (fun _ => .as rfl) ?_
    refine .nil ?_
    refine S.seq (S.regionD (L := [0, 1, 2, 3, 4, 5, 6, 7]) FactDops.mixed (by kernel_rfl) ?_)
    refine .quiet (.p rfl) rfl (fun _ => .loadAt FactDops.flat24 rfl hd rfl) ?_
    refine .quiet (.p rfl) rfl (fun _ => .nilCheck rfl) ?_
    refine .quiet (.p rfl) rfl (fun _ => .fieldAddr FactDops.fld64x0 rfl) ?_
    refine .quiet (.p rfl) rfl (fun _ => .loadAgg Go.Proofs.Tryz.isAgg62 (by kernel_rfl) rfl hat2) ?_
    refine .quiet (.p rfl) rfl (fun _ => .loadAt FactDops.flat9 rfl hf rfl) ?_
    refine .quiet (.p rfl) rfl (fun _ => .loadAt FactDops.flat9 rfl ht rfl) ?_
    refine OD.litP (T := Rp.str) (ys := [_, _]) (.p rfl) (by kernel_rfl) Go.Proofs.Tryz.underlying36 FactDops.elem9 (by decide) rfl rfl ⟨⟨rfl, by first | omega | (simp; done) | (simp; omega) | decide⟩, ⟨rfl, by first | omega | (simp; done) | (simp; omega) | decide⟩, trivial⟩ (by decide) (fun a26 c26 => ?_)
    refine OD.callSs (.p rfl) (by kernel_rfl) rfl FactDops.ok88 rfl rfl (by repeat (first | exact Sels.nil | (apply Sels.cons; focus (repeat (first | exact Sel.here | apply Sel.there))))) (gone_w (names := [a, b])) ?_
    rintro v27 _ ⟨rfl, rfl⟩
    try simp only [List.cons_append, List.nil_append, List.append_nil]
    refine .nil ?_
    refine S.seq (S.regionD (L := [0, 1, 2, 3, 4, 5, 6, 7]) FactDops.mixed (by kernel_rfl) ?_)
    refine .quiet (.p rfl) rfl (fun _ => .loadAt FactDops.flat24 rfl hd rfl) ?_
    refine .quiet (.p rfl) rfl (fun _ => .nilCheck rfl) ?_
    refine .quiet (.p rfl) rfl (fun _ => .fieldAddr FactDops.fld64x0 rfl) ?_
    refine .quiet (.p rfl) rfl (fun _ => .fieldAddr FactDops.fld62x0 rfl) ?_
    refine .quiet (.p rfl) rfl (fun _ => .loadAt FactDops.flat60 rfl hat2 rfl) ?_
    refine .quiet (.p rfl) rfl (fun _ => .loadAt FactDops.flat9 rfl ht rfl) ?_
    refine .quiet (.p rfl) rfl (fun _ => .mv rfl) ?_
    refine OD.mapUpdateT rfl (by kernel_rfl) Go.Proofs.Tryz.underlying60 Go.Proofs.Tryz.underlying9 rfl rfl rfl (by repeat (first | exact Sel.here | apply Sel.there)) ?_
    refine .nil ?_
    refine S.seq (S.seq (S.region rfl ?_))
    refine O.op (.p rfl) (.mv rfl) ?_
    refine O.op (.p rfl) (.neqS rfl rfl) ?_
    refine O.nil ?_
    first | refine S.condD rfl (fun h36 => ?_) (fun h36 => ?_) | refine S.condB rfl (fun h36 => ?_) (fun h36 => ?_)
    · have hne : (getT m.loose a).getD [] ≠ [] := by simpa using h36
      simp only [dRen, dW, if_neg hne] at hR
      refine S.regionD (L := [0, 1, 2, 3, 4, 5, 6, 7]) FactDops.mixed (by kernel_rfl) ?_
      refine .quiet (.p rfl) rfl (fun _ => .loadAt FactDops.flat24 rfl hd rfl) ?_
      refine .quiet (.p rfl) rfl (fun _ => .nilCheck rfl) ?_
      refine .quiet (.p rfl) rfl (fun _ => .fieldAddr FactDops.fld64x0 rfl) ?_
      refine .quiet (.p rfl) rfl (fun _ => .fieldAddr FactDops.fld62x1 rfl) ?_
      refine .quiet (.p rfl) rfl (fun _ => .loadAt FactDops.flat60 rfl (hat2.drop 1) rfl) ?_
      refine .quiet (.p rfl) rfl (fun _ => .loadAt FactDops.flat9 rfl ht rfl) ?_
      refine .quiet (.p rfl) rfl (fun _ => .mv rfl) ?_
      refine OD.mapUpdateT rfl (by kernel_rfl) Go.Proofs.Tryz.underlying60 Go.Proofs.Tryz.underlying9 rfl rfl rfl (by repeat (first | exact Sel.here | apply Sel.there)) ?_
      refine .nil ?_
      refine S.seq (S.region rfl ?_)
      refine O.op (.p rfl) (.as rfl) ?_
      refine O.nil ?_
      refine S.ret Go.Proofs.Tryz.results87 rfl fun w hw => Holds.end_ hR hw ?_
      exact ⟨_, ⟨rfl, rfl⟩, by repeat (first | exact Picks.all | exact Picks.nil | (apply Picks.cons; focus (repeat (first | exact Sel.here | apply Sel.there))) | apply Picks.skip)⟩
    · have hne : (getT m.loose a).getD [] = [] := by simpa using h36
      simp only [dRen, dW, if_pos hne] at hR
      refine S.skip (S.seq (S.region rfl ?_))
      refine O.op (.p rfl) (.as rfl) ?_
      refine O.nil ?_
      refine S.ret Go.Proofs.Tryz.results87 rfl fun w hw => Holds.end_ hR hw ?_
      exact ⟨_, ⟨rfl, rfl⟩, by repeat (first | exact Picks.all | exact Picks.nil | (apply Picks.cons; focus (repeat (first | exact Sel.here | apply Sel.there))) | apply Picks.skip)⟩
  · refine ODt.doesL (.p rfl) rfl (by kernel_rfl) (fun _ => .lookupT Go.Proofs.Tryz.underlying60 Go.Proofs.Tryz.underlying9 rfl rfl rfl (by repeat (first | exact Sel.here | apply Sel.there))) ?_
    refine OD.doesL (.p rfl) rfl (by kernel_rfl) (fun _ => .lookupT Go.Proofs.Tryz.underlying60 Go.Proofs.Tryz.underlying9 rfl rfl rfl (by repeat (first | exact Sel.here | apply Sel.there))) ?_
    refine .quiet (.p rfl) rfl (fun _ => .as rfl) ?_
    refine .quiet (.p rfl) rfl (fun _ => .as rfl) ?_
    refine .nil ?_
    refine S.seq (S.regionD (L := [0, 1, 2, 3, 4, 5, 6, 7]) FactDops.mixed (by kernel_rfl) ?_)
    refine .quiet (.p rfl) rfl (fun _ => .loadAt FactDops.flat24 rfl hd rfl) ?_
    refine .quiet (.p rfl) rfl (fun _ => .nilCheck rfl) ?_
    refine .quiet (.p rfl) rfl (fun _ => .fieldAddr FactDops.fld64x0 rfl) ?_
    refine .quiet (.p rfl) rfl (fun _ => .loadAgg Go.Proofs.Tryz.isAgg62 (by kernel_rfl) rfl hat2) ?_
    refine .quiet (.p rfl) rfl (fun _ => .loadAt FactDops.flat9 rfl hf rfl) ?_
    refine .quiet (.p rfl) rfl (fun _ => .loadAt FactDops.flat9 rfl ht rfl) ?_
    refine OD.litP (T := Rp.str) (ys := [_, _]) (.p rfl) (by kernel_rfl) Go.Proofs.Tryz.underlying36 FactDops.elem9 (by decide) rfl rfl ⟨⟨rfl, by first | omega | (simp; done) | (simp; omega) | decide⟩, ⟨rfl, by first | omega | (simp; done) | (simp; omega) | decide⟩, trivial⟩ (by decide) (fun a26 c26 => ?_)
    refine OD.callSs (.p rfl) (by kernel_rfl) rfl FactDops.ok88 rfl rfl (by repeat (first | exact Sels.nil | (apply Sels.cons; focus (repeat (first | exact Sel.here | apply Sel.there))))) (gone_w (names := [a, b])) ?_
    rintro v27 _ ⟨rfl, rfl⟩
    try simp only [List.cons_append, List.nil_append, List.append_nil]
    refine .nil ?_
    refine S.seq (S.regionD (L := [0, 1, 2, 3, 4, 5, 6, 7]) FactDops.mixed (by kernel_rfl) ?_)
    refine .quiet (.p rfl) rfl (fun _ => .loadAt FactDops.flat24 rfl hd rfl) ?_
    refine .quiet (.p rfl) rfl (fun _ => .nilCheck rfl) ?_
    refine .quiet (.p rfl) rfl (fun _ => .fieldAddr FactDops.fld64x0 rfl) ?_
    refine .quiet (.p rfl) rfl (fun _ => .fieldAddr FactDops.fld62x0 rfl) ?_
    refine .quiet (.p rfl) rfl (fun _ => .loadAt FactDops.flat60 rfl hat2 rfl) ?_
    refine .quiet (.p rfl) rfl (fun _ => .loadAt FactDops.flat9 rfl ht rfl) ?_
    refine .quiet (.p rfl) rfl (fun _ => .mv rfl) ?_
    refine OD.mapUpdateT rfl (by kernel_rfl) Go.Proofs.Tryz.underlying60 Go.Proofs.Tryz.underlying9 rfl rfl rfl (by repeat (first | exact Sel.here | apply Sel.there)) ?_
    refine .nil ?_
    refine S.seq (S.seq (S.region rfl ?_))
    refine O.op (.p rfl) (.mv rfl) ?_
    refine O.op (.p rfl) (.neqS rfl rfl) ?_
    refine O.nil ?_
    first | refine S.condD rfl (fun h36 => ?_) (fun h36 => ?_) | refine S.condB rfl (fun h36 => ?_) (fun h36 => ?_)
    · have hne : (getT m.loose a).getD [] ≠ [] := by simpa using h36
      simp only [dRen, dW, if_neg hne] at hR
      refine S.regionD (L := [0, 1, 2, 3, 4, 5, 6, 7]) FactDops.mixed (by kernel_rfl) ?_
      refine .quiet (.p rfl) rfl (fun _ => .loadAt FactDops.flat24 rfl hd rfl) ?_
      refine .quiet (.p rfl) rfl (fun _ => .nilCheck rfl) ?_
      refine .quiet (.p rfl) rfl (fun _ => .fieldAddr FactDops.fld64x0 rfl) ?_
      refine .quiet (.p rfl) rfl (fun _ => .fieldAddr FactDops.fld62x1 rfl) ?_
      refine .quiet (.p rfl) rfl (fun _ => .loadAt FactDops.flat60 rfl (hat2.drop 1) rfl) ?_
      refine .quiet (.p rfl) rfl (fun _ => .loadAt FactDops.flat9 rfl ht rfl) ?_
      refine .quiet (.p rfl) rfl (fun _ => .mv rfl) ?_
      refine OD.mapUpdateT rfl (by kernel_rfl) Go.Proofs.Tryz.underlying60 Go.Proofs.Tryz.underlying9 rfl rfl rfl (by repeat (first | exact Sel.here | apply Sel.there)) ?_
      refine .nil ?_
      refine S.seq (S.region rfl ?_)
      refine O.op (.p rfl) (.as rfl) ?_
      refine O.nil ?_
      refine S.ret Go.Proofs.Tryz.results87 rfl fun w hw => Holds.end_ hR hw ?_
      exact ⟨_, ⟨rfl, rfl⟩, by repeat (first | exact Picks.all | exact Picks.nil | (apply Picks.cons; focus (repeat (first | exact Sel.here | apply Sel.there))) | apply Picks.skip)⟩
    · have hne : (getT m.loose a).getD [] = [] := by simpa using h36
      simp only [dRen, dW, if_pos hne] at hR
      refine S.skip (S.seq (S.region rfl ?_))
      refine O.op (.p rfl) (.as rfl) ?_
      refine O.nil ?_
      refine S.ret Go.Proofs.Tryz.results87 rfl fun w hw => Holds.end_ hR hw ?_
      exact ⟨_, ⟨rfl, rfl⟩, by repeat (first | exact Picks.all | exact Picks.nil | (apply Picks.cons; focus (repeat (first | exact Sel.here | apply Sel.there))) | apply Picks.skip)⟩
theorem rename_g {r : Fr} {d q1 q2 : Nat} {m : DiskM} {a b : List UInt8} (hat : At r ⟨d, 0, none⟩ (dC q1 q2 m.room)) (hal : a.length ≤ 9223372036854775807) (hbl : b.length ≤ 9223372036854775807) :
    Con Go.Proofs.Tryz.prog 42 #[.pointer (some ⟨d, 0, none⟩), .string (str a), .string (str b)] r (dW q1 q2 m) (Ret fun v η => v = .int .i64 (dRenE m a b) ∧ η = dW q1 q2 (dRenM m a b)) := by
  refine Con.of (n := 20) [.pointer (some ⟨d, 0, none⟩), .string (str a), .string (str b)] rfl Go.Proofs.Tryz.func42 rfl rfl rfl fun g hg R hR => ?_
  replace hat : At g.h ⟨d, 0, none⟩ (dC q1 q2 m.room) := At.mono hg hat
  refine S.seq (S.region rfl ?_)
  refine O.opE (.p rfl) (.box (cs := [_]) rfl rfl) ?_
  rintro _ _ ⟨b3, rfl, rfl⟩
  refine O.opE (.p rfl) (.box (cs := [_]) rfl rfl) ?_
  rintro _ _ ⟨b4, rfl, rfl⟩
  refine O.opE (.p rfl) (.box (cs := [_]) rfl rfl) ?_
  rintro _ _ ⟨b5, rfl, rfl⟩
  refine O.op (.p rfl) (.as rfl) ?_
  refine O.nil ?_
  refine S.seq (S.seq ?_)
  refine S.frzO (by repeat (first | exact Sel.here | apply Sel.there)) fun g hs hm h5 => ?_
  replace hg := Fr.sub_trans hg hs
  replace hR := melted hR hm
  try replace hat := hat.mono hs
  clear hs hm
  refine S.frzO (by repeat (first | exact Sel.here | apply Sel.there)) fun g hs hm h4 => ?_
  replace hg := Fr.sub_trans hg hs
  replace hR := melted hR hm
  try replace hat := hat.mono hs
  try replace h5 := h5.mono hs
  clear hs hm
  refine S.frzO (by repeat (first | exact Sel.here | apply Sel.there)) fun g hs hm h3 => ?_
  replace hg := Fr.sub_trans hg hs
  replace hR := melted hR hm
  try replace hat := hat.mono hs
  try replace h5 := h5.mono hs
  try replace h4 := h4.mono hs
  clear hs hm
  refine S.region rfl ?_
  refine O.op (.p rfl) (.loadAt FactDops.flat24 rfl h3 rfl) ?_
  refine O.call0 (.p rfl) rfl FactDops.ok30 rfl rfl ((made_g hat)) ?_
  rintro v8 _ ⟨rfl, rfl⟩
  try simp only [List.cons_append, List.nil_append, List.append_nil]
  refine O.op (.p rfl) (.mv rfl) ?_
  refine O.op (.g rfl rfl) (.loadAt FactDops.flat9 rfl h4 rfl) ?_
  refine O.op (.g rfl rfl) (.loadAt FactDops.flat9 rfl h5 rfl) ?_
  refine O.opE (.g rfl rfl) (.litP (T := Rp.str) (ys := [_, _]) Go.Proofs.Tryz.underlying36 FactDops.elem9 (by decide) rfl rfl ⟨⟨rfl, by first | omega | (simp; done) | (simp; omega) | decide⟩, ⟨rfl, by first | omega | (simp; done) | (simp; omega) | decide⟩, trivial⟩ (by decide)) ?_
  rintro _ _ ⟨a12, c12, rfl, rfl⟩
  refine O.frzA (by repeat (first | exact Sel.here | apply Sel.there)) fun g hs hm ha12 => ?_
  replace hg := Fr.sub_trans hg hs
  replace hR := melted hR hm
  try replace hat := hat.mono hs
  try replace h5 := h5.mono hs
  try replace h4 := h4.mono hs
  try replace h3 := h3.mono hs
  clear hs hm
  refine O.call0 (.g rfl rfl) rfl FactDops.ok31 rfl rfl ((named_c ha12)) ?_
  rintro v13 _ ⟨rfl, rfl⟩
  try simp only [List.cons_append, List.nil_append, List.append_nil]
  rw [show [a, b].all nameOk = (nameOk a && nameOk b) from by simp]
  refine O.op (.g rfl rfl) ((by first | exact .notD rfl | exact .not rfl)) ?_
  refine O.op (.p rfl) (.pickT rfl rfl) ?_
  refine O.nil ?_
  first | refine S.condD rfl (fun h15 => ?_) (fun h15 => ?_) | refine S.condB rfl (fun h15 => ?_) (fun h15 => ?_)
  · have e : dRenE m a b = 2 := by unfold dRenE; rw [if_neg (by simp at h15 ⊢; intro h; rcases h15 with h' | h'; rw [h] at h'; cases h'; exact h')]
    have e2 : dRenM m a b = m := by unfold dRenM; rw [e]; rfl
    rw [e, e2] at hR
    refine S.seq (S.region rfl ?_)
    refine O.op (.p rfl) (.as rfl) ?_
    refine O.nil ?_
    refine S.ret Go.Proofs.Tryz.results42 rfl fun w hw => Holds.end_ hR hw ?_
    exact ⟨_, ⟨rfl, rfl⟩, by repeat (first | exact Picks.all | exact Picks.nil | (apply Picks.cons; focus (repeat (first | exact Sel.here | apply Sel.there))) | apply Picks.skip)⟩
  · have hok : (nameOk a && nameOk b) = true := by simpa using h15
    refine S.skip (S.seq (S.region rfl ?_))
    refine O.op (.p rfl) (.loadAt FactDops.flat24 rfl h3 rfl) ?_
    refine O.op (.p rfl) (.loadAt FactDops.flat9 rfl h4 rfl) ?_
    refine O.op (.p rfl) (.mkFunc rfl rfl) ?_
    refine O.callAll (.p rfl) rfl FactDops.ok32 rfl rfl (of_g (θ := []) (K := fun v η => v = .int .i64 0 ∧ η = dW q1 q2 (dRen m a b)) hat FactDops.ok87 fun _ => rename1_g hat h3 h4 h5 hal hbl) ?_
    rintro v19 η' hk
    refine O.op (.p rfl) (.as rfl) ?_
    refine O.nil ?_
    refine S.ret Go.Proofs.Tryz.results42 rfl fun w hw => Holds.end_ hR hw ?_
    have hk2 : v19 = .int .i64 (dRenE m a b) ∧ η' = dW q1 q2 (dRenM m a b) := by
      cases hh : dHas m a with
      | true =>
        rw [hh] at hk
        have e : dRenE m a b = 0 := by unfold dRenE; rw [if_pos hok, hh]; rfl
        have e2 : dRenM m a b = dRen m a b := by unfold dRenM; rw [if_pos e]
        rw [e, e2]; simpa using hk
      | false =>
        rw [hh] at hk
        have e : dRenE m a b = 6 := by unfold dRenE; rw [if_pos hok, hh]; rfl
        have e2 : dRenM m a b = m := by unfold dRenM; rw [e]; rfl
        rw [e, e2]; simpa using hk
    exact ⟨_, hk2, Picks.all⟩
theorem copy_g {r : Fr} {d q1 q2 : Nat} {m : DiskM} (hat : At r ⟨d, 0, none⟩ (dC q1 q2 m.room)) :
    Con Go.Proofs.Tryz.prog 24 #[.pointer (some ⟨d, 0, none⟩)] r (dW q1 q2 m)
      (Ret fun v η => ∃ d' p1 p2, v = .pointer (some ⟨d', 0, none⟩) ∧ η = [obj d' 64 (dC p1 p2 m.room), MapT p1 m.safe m.c1, MapT p2 m.loose m.c2, MapT q1 m.safe m.c1, MapT q2 m.loose m.c2]) := by
  refine Con.of (n := 25) [.pointer (some ⟨d, 0, none⟩)] rfl Go.Proofs.Tryz.func24 rfl rfl rfl fun g hg R hR => ?_
  replace hat : At g.h ⟨d, 0, none⟩ (dC q1 q2 m.room) := At.mono hg hat
  have hat2 : At g.h ⟨d, 0, none⟩ [.map (some q1), .map (some q2)] := At.take hat 2
  refine S.seq (S.region rfl ?_)
  refine O.op (.p rfl) (.as rfl) ?_
  refine O.nil ?_
  refine S.seq (S.seq (S.region rfl ?_))
  refine O.op (.p rfl) (.mv rfl) ?_
  refine O.call0 (.p rfl) rfl FactDops.ok30 rfl rfl ((made_g hat)) ?_
  rintro v4 _ ⟨rfl, rfl⟩
  try simp only [List.cons_append, List.nil_append, List.append_nil]
  refine O.op (.p rfl) (.not rfl) ?_
  refine O.nil ?_
  refine S.condF rfl ?_
  refine S.skip (S.seq (S.regionD (L := [0, 1, 2, 3, 4, 6, 7, 8, 9, 10, 13, 14, 15, 16, 5, 11, 12, 17, 18, 19]) FactDops.mixed (by kernel_rfl) ?_))
  refine .quiet (.p rfl) rfl (fun _ => .mv rfl) ?_
  refine .quiet (.p rfl) rfl (fun _ => .nilCheck rfl) ?_
  refine .quiet (.p rfl) rfl (fun _ => .fieldAddr FactDops.fld64x0 rfl) ?_
  refine .quiet (.p rfl) rfl (fun _ => .fieldAddr FactDops.fld62x0 rfl) ?_
  refine .quiet (.p rfl) rfl (fun _ => .loadAt FactDops.flat60 rfl hat rfl) ?_
  refine .quiet (.p rfl) rfl (fun _ => .mv rfl) ?_
  refine .quiet (.p rfl) rfl (fun _ => .nilCheck rfl) ?_
  refine .quiet (.p rfl) rfl (fun _ => .fieldAddr FactDops.fld64x0 rfl) ?_
  refine .quiet (.p rfl) rfl (fun _ => .fieldAddr FactDops.fld62x1 rfl) ?_
  refine .quiet (.p rfl) rfl (fun _ => .loadAt FactDops.flat60 rfl (hat.drop 1) rfl) ?_
  refine .quiet (.p rfl) rfl (fun _ => .mv rfl) ?_
  refine .quiet (.p rfl) rfl (fun _ => .nilCheck rfl) ?_
  refine .quiet (.p rfl) rfl (fun _ => .fieldAddr FactDops.fld64x1 rfl) ?_
  refine .quiet (.p rfl) rfl (fun _ => .loadAt FactDops.flat3 rfl (hat.drop 2) rfl) ?_
  refine OD.callS (.p rfl) (by kernel_rfl) rfl FactDops.ok51 rfl rfl (by repeat (first | exact Sel.here | apply Sel.there)) mclone_c ?_
  rintro v11 _ ⟨b11, rfl, rfl⟩
  try simp only [List.cons_append, List.nil_append, List.append_nil]
  refine OD.callS (.p rfl) (by kernel_rfl) rfl FactDops.ok51 rfl rfl (by repeat (first | exact Sel.here | apply Sel.there)) mclone_c ?_
  rintro v17 _ ⟨b17, rfl, rfl⟩
  try simp only [List.cons_append, List.nil_append, List.append_nil]
  refine .quiet (.p rfl) rfl (fun _ => .build (cs := [_, _]) Go.Proofs.Tryz.underlying62 rfl rfl rfl rfl rfl) ?_
  refine .quiet (.p rfl) rfl (fun _ => .build (cs := [_, _, _]) Go.Proofs.Tryz.underlying64 rfl rfl rfl rfl rfl) ?_
  refine OD.boxP (cs := [_, _, _]) (.p rfl) (by kernel_rfl) rfl rfl (fun b24 => ?_)
  refine .quiet (.p rfl) rfl (fun _ => .as rfl) ?_
  refine .nil ?_
  refine S.ret Go.Proofs.Tryz.results24 rfl fun w hw => Holds.end_ hR hw ?_
  exact ⟨_, ⟨_, _, _, rfl, rfl⟩, by repeat (first | exact Picks.all | exact Picks.nil | (apply Picks.cons; focus (repeat (first | exact Sel.here | apply Sel.there))) | apply Picks.skip)⟩
theorem dGone_ok {m : DiskM} {n : List UInt8} (ok : DOk m) : DOk (dGone m n) := by
  have h1 := goneS_sum m.safe [n]
  have h2 := goneS_sum m.loose [n]
  refine ⟨goneS_wf ok.w1 _, goneS_wf ok.w2 _, fun k hk => ?_, ?_, ?_⟩
  rotate_right
  · have := ok.small; simp only [dGone, DiskM.used] at *; omega
  · simp only [dGone] at hk ⊢
    rw [goneS_get ok.w2] at hk
    rw [goneS_get ok.w1]
    split at hk
    · cases hk
    · rename_i e; rw [if_neg e]; exact ok.sub k hk
  · have := ok.fits; simp only [dGone, DiskM.used] at *; omega
theorem gone2_sum {s : SS} {c : Nat} (h : WfT s c) (a b : List UInt8) : sumT (goneS s [a, b]) + ((getT s a).getD []).length ≤ sumT s := by
  have h1 := sumT_del s a
  have h2 := sumT_del (delT s a) b
  show sumT (delT (delT s a) b) + _ ≤ _
  omega
theorem dRen_ok {m : DiskM} {a b : List UInt8} (ok : DOk m) : DOk (dRen m a b) := by
  have h1 := gone2_sum ok.w1 a b
  have h2 := gone2_sum ok.w2 a b
  have h3 := sumT_put (goneS m.safe [a, b]) m.c1 b ((getT m.safe a).getD [])
  have h4 := sumT_put (goneS m.loose [a, b]) m.c2 b ((getT m.loose a).getD [])
  have g1 : ∀ k, getT (putT (goneS m.safe [a, b]) m.c1 b ((getT m.safe a).getD [])) k = if k = b then some ((getT m.safe a).getD []) else getT (goneS m.safe [a, b]) k := fun k => getT_put _ _ _ _ _
  refine ⟨putT_wf (goneS_wf ok.w1 _) _ _, ?_, fun k hk => ?_, ?_, ?_⟩
  rotate_right
  · have := ok.small
    simp only [dRen, DiskM.used] at *
    split <;> omega
  · simp only [dRen]; split
    · exact goneS_wf ok.w2 _
    · exact putT_wf (goneS_wf ok.w2 _) _ _
  · simp only [dRen] at hk ⊢
    rw [g1]
    split
    · rfl
    · rename_i e
      have hk2 : (getT (goneS m.loose [a, b]) k).isSome = true := by
        split at hk
        · exact hk
        · rw [getT_put, if_neg e] at hk; exact hk
      rw [goneS_get ok.w2] at hk2
      rw [goneS_get ok.w1]
      split at hk2
      · cases hk2
      · rename_i e2; rw [if_neg e2]; exact ok.sub k hk2
  · have := ok.fits
    simp only [dRen, DiskM.used] at *
    split <;> omega
theorem vOf_gone {m : DiskM} (ok : DOk m) (n k : List UInt8) : vOf (dGone m n) k = if k = n then none else vOf m k := by
  unfold vOf dGone
  simp only
  rw [goneS_get ok.w1, goneS_get ok.w2]
  by_cases e : k = n
  · subst e; simp
  · simp [e]
theorem vOf_ren {m : DiskM} (ok : DOk m) (a b k : List UInt8) (h : dHas m a = true) : vOf (dRen m a b) k = if k = b then vOf m a else if k = a then none else vOf m k := by
  unfold dHas at h
  obtain ⟨s, hs⟩ := Option.isSome_iff_exists.1 h
  unfold vOf dRen
  simp only
  rw [getT_put, goneS_get ok.w1, hs]
  by_cases e : k = b
  · subst e
    rw [if_pos rfl, if_pos rfl]
    simp only [Option.map_some, Option.getD_some]
    split
    · rename_i hl; rw [goneS_get ok.w2, if_pos (by simp), hl]; rfl
    · rw [getT_put, if_pos rfl]; rfl
  · rw [if_neg e, if_neg e]
    by_cases e2 : k = a
    · have hm : k ∈ [a, b] := by rw [e2]; simp
      rw [if_pos e2]; split <;> simp only [if_pos hm, Option.map_none]
    · have hm : k ∉ [a, b] := by simp [e, e2]
      rw [if_neg e2]
      split
      · rw [goneS_get ok.w2, if_neg hm]
      · rw [getT_put, if_neg e, goneS_get ok.w2, if_neg hm]

end Go.Proofs.YtkkcpckgnfcncaaGreatDoor
