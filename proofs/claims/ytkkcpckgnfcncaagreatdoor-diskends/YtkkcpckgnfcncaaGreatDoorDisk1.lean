import Derived.Test.YtkkcpckgnfcncaaGreatDoorKit1
import Derived.Test.YtkkcpckgnfcncaaGreatDoorSpMapT
open Go Go.Sp
set_option maxRecDepth 100000
attribute [local irreducible] obj Own OwnP
namespace Go.Proofs.YtkkcpckgnfcncaaGreatDoor
theorem FactDisk1.flat60 : Go.Sp.flat1 Go.Proofs.Tryz.prog 60 = true := by kernel_rfl
theorem FactDisk1.fld62x0 : fieldOff Go.Proofs.Tryz.prog 62 0 = some 0 := by kernel_rfl
theorem FactDisk1.fld62x1 : fieldOff Go.Proofs.Tryz.prog 62 1 = some 1 := by kernel_rfl
theorem FactDisk1.fld64x0 : fieldOff Go.Proofs.Tryz.prog 64 0 = some 0 := by kernel_rfl
theorem FactDisk1.mixed : Go.Proofs.Tryz.prog.follows .mixedOrders = true := by kernel_rfl
theorem FactDisk1.ok30 : callable Go.Proofs.Tryz.prog 30 = true := by kernel_rfl
theorem FactDisk1.ok34 : callable Go.Proofs.Tryz.prog 34 = true := by kernel_rfl
theorem FactDisk1.ok54 : callable Go.Proofs.Tryz.prog 54 = true := by kernel_rfl

/-- what a disk is: the safe bytes, the loose ones, its room -/
structure DiskM where
  safe : SS
  c1 : Nat
  loose : SS
  c2 : Nat
  room : Int
def DiskM.used (m : DiskM) : Nat := sumT m.safe + sumT m.loose
structure DOk (m : DiskM) : Prop where
  w1 : WfT m.safe m.c1
  w2 : WfT m.loose m.c2
  sub : ∀ k, (getT m.loose k).isSome = true → (getT m.safe k).isSome = true
  fits : (m.used : Int) ≤ m.room
  small : m.used ≤ 1000000000000
theorem getT_le (m : SS) (k : List UInt8) : ((getT m k).getD []).length ≤ sumT m := by have := sumT_del m k; omega
theorem str_app (a b : List UInt8) : str a ++ str b = str (a ++ b) := by
  apply ByteArray.ext
  rw [ByteArray.data_append]
  simp [str]
def bytesT (s l : SS) (k : List UInt8) : List UInt8 := (getT s k).getD [] ++ (getT l k).getD []
theorem size_c {r : Fr} {b c : Nat} {m : SS} (hw : WfT m c) (hs : sumT m ≤ 1000000000000) : Con Go.Proofs.Tryz.prog 54 #[.map (some b)] r [MapT b m c] (Ret fun v η => v = .int .i64 (sumT m : Int) ∧ η = [MapT b m c]) := by
  refine Con.of (n := 17) [.map (some b)] rfl Go.Proofs.Tryz.func54 rfl rfl rfl fun g hg R hR => ?_
  refine S.seq (S.region rfl ?_)
  refine O.op (.p rfl) (.as rfl) ?_
  refine O.nil ?_
  refine S.seq (S.region rfl ?_)
  refine O.op (.p rfl) (.as rfl) ?_
  refine O.nil ?_
  refine S.seq (S.seq (S.region rfl ?_))
  refine O.op (.p rfl) (.mv rfl) ?_
  refine O.opE (.p rfl) (.rangeT Go.Proofs.Tryz.underlying60 rfl (by repeat (first | exact Sel.here | apply Sel.there))) ?_
  rintro _ _ ⟨it7, rfl, rfl⟩
  refine O.nil ?_
  refine S.block ?_
  refine S.loopK2 (ι := SS) (κ := SS) (fun done todo => m.Perm (done ++ todo)) (fun done todo => [(3, .int .i64 (sumT done : Int))]) [(7, _)] (fun done todo => [IterT it7 b c done, MapT b m c]) (fun done todo => todo.length) ([]) (m) (by exact List.Perm.refl _) (.cons rfl (.nil)) (.cons rfl (.nil)) rfl fun done todo hx ih => ?_
  have hm1 := meltRefl (g := g)
  have hsd := sumT_perm hx
  rw [sumT_append] at hsd
  refine S.seq (S.region rfl ?_)
  refine O.nextT (.p rfl) rfl hw hx (by repeat (first | exact Sel.here | apply Sel.there)) (by repeat (first | exact Sel.here | apply Sel.there)) (fun h8 => ?_) (fun y8 t18 t28 h8 => ?_)
  · refine O.op (.p rfl) (.extract rfl rfl) ?_
    refine O.nil ?_
    refine S.seq (S.condF rfl ?_)
    refine S.exit rfl ?_
    refine S.seq (S.region rfl ?_)
    refine O.op (.p rfl) (.mv rfl) ?_
    refine O.op (.p rfl) (.as rfl) ?_
    refine O.nil ?_
    subst h8
    rw [List.append_nil] at hx
    rw [← sumT_perm hx]
    refine S.ret Go.Proofs.Tryz.results54 rfl fun w hw => Holds.end_ hR hw ?_
    exact ⟨_, ⟨rfl, rfl⟩, by repeat (first | exact Picks.all | exact Picks.nil | (apply Picks.cons; focus (repeat (first | exact Sel.here | apply Sel.there))) | apply Picks.skip)⟩
  · subst h8
    have hmem : y8 ∈ m := hx.mem_iff.2 (by simp)
    have hsy : sumT (done ++ [y8]) = sumT done + y8.2.1.length := by rw [sumT_append]; simp [sumT]
    have hp2 : m.Perm ((done ++ [y8]) ++ (t18 ++ t28)) := hx.trans (by
      rw [List.append_assoc]; exact List.Perm.append_left _ (List.perm_middle))
    have hsd2 := sumT_perm hp2
    rw [sumT_append, hsy] at hsd2
    refine O.op (.p rfl) (.extract rfl rfl) ?_
    refine O.nil ?_
    refine S.seq (S.condT rfl ?_)
    refine S.skip (S.block (S.seq (S.region rfl ?_)))
    refine O.op (.p rfl) (.entryT rfl hw hmem (by repeat (first | exact Sel.here | apply Sel.there)) (by repeat (first | exact Sel.here | apply Sel.there))) ?_
    refine O.op (.p rfl) (.extract rfl rfl) ?_
    refine O.op (.p rfl) (.as rfl) ?_
    refine O.nil ?_
    refine S.region rfl ?_
    refine O.op (.p rfl) (.mv rfl) ?_
    refine O.op (.p rfl) (.mv rfl) ?_
    refine O.op (.p rfl) (.lenS rfl Go.Proofs.Tryz.underlying9 rfl) ?_
    refine O.slot 14 (v' := .int .i64 (y8.2.1.length : Int)) rfl (by rw [str_size]) ?_
    refine O.op (.p rfl) (.add rfl rfl (IntWalk.i64_in _ (by omega))) ?_
    refine O.op (.p rfl) (.as rfl) ?_
    refine O.nil ?_
    refine S.inBlock ?_
    rw [show (sumT done : Int) + (y8.2.1.length : Int) = ((sumT (done ++ [y8]) : Nat) : Int) from by rw [hsy]; rfl]
    refine S.pk ?_ (S.weaken ?_ (ih (done ++ [y8]) (t18 ++ t28) (by exact hp2) (by simp)))
    · repeat (first | exact Picks.all | exact Picks.nil | (apply Picks.cons; focus (repeat (first | exact Sel.here | apply Sel.there))) | apply Picks.skip)
    repeat (first | exact Sub.nil | refine Sub.cons rfl ?_)
theorem dbytes_c {r : Fr} {b1 b2 c1 c2 : Nat} {s l : SS} {name : List UInt8} (hs : sumT s + sumT l ≤ 1000000000000) :
    Con Go.Proofs.Tryz.prog 34 #[.agg #[.map (some b1), .map (some b2)], .string (str name)] r [MapT b1 s c1, MapT b2 l c2] (Ret fun v η => v = .string (str (bytesT s l name)) ∧ η = [MapT b1 s c1, MapT b2 l c2]) := by
  refine Con.of (n := 14) [.agg #[.map (some b1), .map (some b2)], .string (str name)] rfl Go.Proofs.Tryz.func34 rfl rfl rfl fun g hg R hR => ?_
  have h1 := getT_le s name
  have h2 := getT_le l name
  refine S.seq (S.region rfl ?_)
  refine O.opE (.p rfl) (.box (cs := [_, _]) rfl rfl) ?_
  rintro _ _ ⟨b2, rfl, rfl⟩
  refine O.op (.p rfl) (.as rfl) ?_
  refine O.nil ?_
  refine S.seq (S.region rfl ?_)
  refine O.op (.p rfl) (.fieldObj FactDisk1.fld62x0 rfl) ?_
  refine O.op (.p rfl) (.loadObj FactDisk1.flat60 rfl (by repeat (first | exact Sel.here | apply Sel.there)) rfl) ?_
  refine O.op (.p rfl) (.mv rfl) ?_
  refine O.op (.p rfl) (.lookupT Go.Proofs.Tryz.underlying60 Go.Proofs.Tryz.underlying9 rfl rfl rfl (by repeat (first | exact Sel.here | apply Sel.there))) ?_
  refine O.op (.p rfl) (.fieldObj FactDisk1.fld62x1 rfl) ?_
  refine O.op (.p rfl) (.loadObj FactDisk1.flat60 rfl (by repeat (first | exact Sel.here | apply Sel.there)) rfl) ?_
  refine O.op (.p rfl) (.mv rfl) ?_
  refine O.op (.p rfl) (.lookupT Go.Proofs.Tryz.underlying60 Go.Proofs.Tryz.underlying9 rfl rfl rfl (by repeat (first | exact Sel.here | apply Sel.there))) ?_
  refine O.op (.p rfl) (.addS rfl rfl (by rw [str_size, str_size]; omega)) ?_
  refine O.op (.p rfl) (.as rfl) ?_
  refine O.nil ?_
  refine S.ret Go.Proofs.Tryz.results34 rfl fun w hw => Holds.end_ hR hw ?_
  exact ⟨_, ⟨congrArg Value.string (str_app _ _), rfl⟩, by repeat (first | exact Picks.all | exact Picks.nil | (apply Picks.cons; focus (repeat (first | exact Sel.here | apply Sel.there))) | apply Picks.skip)⟩
theorem firm_c {r : Fr} {b1 b2 c1 c2 : Nat} {s l : SS} {name : List UInt8} (k : Nat) (hs : sumT s + sumT l ≤ 1000000000000) (hk : k ≤ (bytesT s l name).length) :
    Con Go.Proofs.Tryz.prog 53 #[.agg #[.map (some b1), .map (some b2)], .string (str name), .int .i64 (k : Int)] r [MapT b1 s c1, MapT b2 l c2]
      (Ret fun v η => v = .tuple #[] ∧ η = [MapT b1 (putT s c1 name ((bytesT s l name).take k)) (clkT s c1 name), MapT b2 (delT l name) c2]) := by
  refine Con.of (n := 17) [.agg #[.map (some b1), .map (some b2)], .string (str name), .int .i64 (k : Int)] rfl Go.Proofs.Tryz.func53 rfl rfl rfl fun g hg R hR => ?_
  refine S.seq (S.region rfl ?_)
  refine O.opE (.p rfl) (.box (cs := [_, _]) rfl rfl) ?_
  rintro _ _ ⟨b3, rfl, rfl⟩
  refine O.nil ?_
  refine S.seq ?_
  refine S.frzO (by repeat (first | exact Sel.here | apply Sel.there)) fun g hs hm h3 => ?_
  replace hg := Fr.sub_trans hg hs
  replace hR := melted hR hm
  clear hs hm
  refine S.regionD (L := [0, 1, 2, 3, 4, 6, 5, 7, 8]) FactDisk1.mixed (by kernel_rfl) ?_
  refine .quiet (.p rfl) rfl (fun _ => .fieldAddr FactDisk1.fld62x0 rfl) ?_
  refine .quiet (.p rfl) rfl (fun _ => .loadAt FactDisk1.flat60 rfl h3 rfl) ?_
  refine .quiet (.p rfl) rfl (fun _ => .mv rfl) ?_
  refine .quiet (.p rfl) rfl (fun _ => .loadAgg Go.Proofs.Tryz.isAgg62 (by kernel_rfl) rfl h3) ?_
  refine .quiet (.p rfl) rfl (fun _ => .mv rfl) ?_
  refine .quiet (.p rfl) rfl (fun _ => .mv rfl) ?_
  refine OD.callSs (.p rfl) (by kernel_rfl) rfl FactDisk1.ok34 rfl rfl (by repeat (first | exact Sels.nil | (apply Sels.cons; focus (repeat (first | exact Sel.here | apply Sel.there))))) (dbytes_c (by omega)) ?_
  rintro v11 _ ⟨rfl, rfl⟩
  try simp only [List.cons_append, List.nil_append, List.append_nil]
  refine .quiet (.p rfl) rfl (fun _ => Does.strTo (b := k) Go.Proofs.Tryz.underlying9 rfl rfl (show _ = (((k) : Nat) : Int) by omega) (by first | omega | (simp; done) | (simp; omega) | decide)) ?_
  refine OD.mapUpdateT rfl (by kernel_rfl) Go.Proofs.Tryz.underlying60 Go.Proofs.Tryz.underlying9 rfl rfl rfl (by repeat (first | exact Sel.here | apply Sel.there)) ?_
  refine .nil ?_
  refine S.region rfl ?_
  refine O.op (.p rfl) (.fieldAddr FactDisk1.fld62x1 rfl) ?_
  refine O.op (.p rfl) (.loadAt FactDisk1.flat60 rfl (h3.drop 1) rfl) ?_
  refine O.op (.p rfl) (.mv rfl) ?_
  refine O.deleteT rfl Go.Proofs.Tryz.underlying60 Go.Proofs.Tryz.underlying9 rfl rfl (by repeat (first | exact Sel.here | apply Sel.there)) ?_
  refine O.nil ?_
  refine S.end0 Go.Proofs.Tryz.results53 fun w hw => Holds.end_ hR hw ?_
  exact ⟨_, ⟨rfl, rfl⟩, by repeat (first | exact Picks.all | exact Picks.nil | (apply Picks.cons; focus (repeat (first | exact Sel.here | apply Sel.there))) | apply Picks.skip)⟩
theorem made_c {r : Fr} {d b1 b2 : Nat} {room : Int} : Con Go.Proofs.Tryz.prog 30 #[.pointer (some ⟨d, 0, none⟩)] r [obj d 64 [.map (some b1), .map (some b2), .int .i64 room]] (Ret fun v η => v = .bool true ∧ η = [obj d 64 [.map (some b1), .map (some b2), .int .i64 room]]) := by
  refine Con.of (n := 13) [.pointer (some ⟨d, 0, none⟩)] rfl Go.Proofs.Tryz.func30 rfl rfl rfl fun g hg R hR => ?_
  refine S.seq (S.region rfl ?_)
  refine O.op (.p rfl) (.as rfl) ?_
  refine O.nil ?_
  refine S.seq (S.region rfl ?_)
  refine O.op (.p rfl) (.mv rfl) ?_
  refine O.op (.p rfl) (.neqP Go.Proofs.Tryz.underlying24 rfl rfl) ?_
  refine O.slot 4 (v' := .bool true) rfl (congrArg Value.bool (by rfl)) ?_
  refine O.op (.p rfl) (.mv rfl) ?_
  refine O.op (.g rfl rfl) (.mv rfl) ?_
  refine O.op (.g rfl rfl) (.nilCheck rfl) ?_
  refine O.op (.g rfl rfl) (.fieldObj FactDisk1.fld64x0 rfl) ?_
  refine O.op (.g rfl rfl) (.fieldObj FactDisk1.fld62x0 rfl) ?_
  refine O.op (.g rfl rfl) (.loadObj FactDisk1.flat60 rfl (by repeat (first | exact Sel.here | apply Sel.there)) rfl) ?_
  refine O.op (.g rfl rfl) (.neqM Go.Proofs.Tryz.underlying60 rfl rfl) ?_
  refine O.op (.p rfl) (.pickT rfl rfl) ?_
  refine O.op (.p rfl) (.as rfl) ?_
  refine O.nil ?_
  refine S.ret Go.Proofs.Tryz.results30 rfl fun w hw => Holds.end_ hR hw ?_
  exact ⟨_, ⟨rfl, rfl⟩, by repeat (first | exact Picks.all | exact Picks.nil | (apply Picks.cons; focus (repeat (first | exact Sel.here | apply Sel.there))) | apply Picks.skip)⟩
theorem made0_c {r : Fr} : Con Go.Proofs.Tryz.prog 30 #[.pointer none] r [] (Ret fun v η => v = .bool false ∧ η = []) := by
  refine Con.of (n := 13) [.pointer none] rfl Go.Proofs.Tryz.func30 rfl rfl rfl fun g hg R hR => ?_
  refine S.seq (S.region rfl ?_)
  refine O.op (.p rfl) (.as rfl) ?_
  refine O.nil ?_
  refine S.seq (S.region rfl ?_)
  refine O.op (.p rfl) (.mv rfl) ?_
  refine O.op (.p rfl) (.neqP Go.Proofs.Tryz.underlying24 rfl rfl) ?_
  refine O.slot 4 (v' := .bool false) rfl (congrArg Value.bool (by rfl)) ?_
  refine O.op (.p rfl) (.mv rfl) ?_
  refine O.opN rfl rfl rfl ?_
  refine O.opN rfl rfl rfl ?_
  refine O.opN rfl rfl rfl ?_
  refine O.opN rfl rfl rfl ?_
  refine O.opN rfl rfl rfl ?_
  refine O.opN rfl rfl rfl ?_
  refine O.op (.p rfl) (.pickF rfl rfl) ?_
  refine O.op (.p rfl) (.as rfl) ?_
  refine O.nil ?_
  refine S.ret Go.Proofs.Tryz.results30 rfl fun w hw => Holds.end_ hR hw ?_
  exact ⟨_, ⟨rfl, rfl⟩, by repeat (first | exact Picks.all | exact Picks.nil | (apply Picks.cons; focus (repeat (first | exact Sel.here | apply Sel.there))) | apply Picks.skip)⟩
theorem new_c {r : Fr} (room : Int) : Con Go.Proofs.Tryz.prog 7 #[.int .i64 room] r [] (Ret fun v η => ∃ d b1 b2, v = .pointer (some ⟨d, 0, none⟩) ∧ η = [obj d 64 [.map (some b1), .map (some b2), .int .i64 (if room < 0 then 0 else room)], MapT b1 [] 0, MapT b2 [] 0]) := by
  refine Con.of (n := 10) [.int .i64 room] rfl Go.Proofs.Tryz.func7 rfl rfl rfl fun g hg R hR => ?_
  refine S.seq (S.region rfl ?_)
  refine O.op (.p rfl) (.as rfl) ?_
  refine O.nil ?_
  refine S.seq (S.region rfl ?_)
  refine O.opE (.p rfl) .makeMapT ?_
  rintro _ _ ⟨b3, rfl, rfl⟩
  refine O.opE (.p rfl) .makeMapT ?_
  rintro _ _ ⟨b4, rfl, rfl⟩
  refine O.op (.p rfl) (.build (cs := [_, _]) Go.Proofs.Tryz.underlying62 rfl rfl rfl rfl rfl) ?_
  refine O.op (.p rfl) (.mv rfl) ?_
  refine O.op (.p rfl) (.max2 rfl rfl) ?_
  refine O.op (.p rfl) (.build (cs := [_, _, _]) Go.Proofs.Tryz.underlying64 rfl rfl rfl rfl rfl) ?_
  refine O.opE (.p rfl) (.box (cs := [_, _, _]) rfl rfl) ?_
  rintro _ _ ⟨b9, rfl, rfl⟩
  refine O.op (.p rfl) (.as rfl) ?_
  refine O.nil ?_
  refine S.ret Go.Proofs.Tryz.results7 rfl fun w hw => Holds.end_ hR hw ?_
  exact ⟨_, ⟨b9, b3, b4, rfl, rfl⟩, by repeat (first | exact Picks.all | exact Picks.nil | (apply Picks.cons; focus (repeat (first | exact Sel.here | apply Sel.there))) | apply Picks.skip)⟩
theorem used_c {r : Fr} {d b1 b2 c1 c2 : Nat} {s l : SS} {room : Int} (hw : WfT s c1) (hw2 : WfT l c2) (hs : sumT s + sumT l ≤ 1000000000000) :
    Con Go.Proofs.Tryz.prog 27 #[.pointer (some ⟨d, 0, none⟩)] r [obj d 64 [.map (some b1), .map (some b2), .int .i64 room], MapT b1 s c1, MapT b2 l c2]
      (Ret fun v η => v = .int .i64 ((sumT s + sumT l : Nat) : Int) ∧ η = [obj d 64 [.map (some b1), .map (some b2), .int .i64 room], MapT b1 s c1, MapT b2 l c2]) := by
  refine Con.of (n := 19) [.pointer (some ⟨d, 0, none⟩)] rfl Go.Proofs.Tryz.func27 rfl rfl rfl fun g hg R hR => ?_
  refine S.seq (S.region rfl ?_)
  refine O.op (.p rfl) (.as rfl) ?_
  refine O.nil ?_
  refine S.seq (S.seq (S.region rfl ?_))
  refine O.op (.p rfl) (.mv rfl) ?_
  refine O.callS (.p rfl) rfl FactDisk1.ok30 rfl rfl (by repeat (first | exact Sel.here | apply Sel.there)) made_c ?_
  rintro v4 _ ⟨rfl, rfl⟩
  try simp only [List.cons_append, List.nil_append, List.append_nil]
  refine O.op (.p rfl) (.not rfl) ?_
  refine O.nil ?_
  refine S.condF rfl ?_
  refine S.skip (S.seq ?_)
  refine S.frzT (B := obj d 64 [.map (some b1), .map (some b2), .int .i64 room]) (by repeat (first | exact Sel.here | apply Sel.there)) fun g1 hs1 ⟨m1, hm1', hsm1⟩ th1 => ?_
  have hat1 := (obj_at hm1').mono hsm1
  refine S.regionD (L := [0, 1, 2, 3, 4, 6, 7, 8, 9, 10, 5, 11, 12, 13]) FactDisk1.mixed (by kernel_rfl) ?_
  refine .quiet (.p rfl) rfl (fun _ => .mv rfl) ?_
  refine .quiet (.p rfl) rfl (fun _ => .nilCheck rfl) ?_
  refine .quiet (.p rfl) rfl (fun _ => .fieldAddr FactDisk1.fld64x0 rfl) ?_
  refine .quiet (.p rfl) rfl (fun _ => .fieldAddr FactDisk1.fld62x0 rfl) ?_
  refine .quiet (.p rfl) rfl (fun _ => .loadAt FactDisk1.flat60 rfl hat1 rfl) ?_
  refine .quiet (.p rfl) rfl (fun _ => .mv rfl) ?_
  refine .quiet (.p rfl) rfl (fun _ => .nilCheck rfl) ?_
  refine .quiet (.p rfl) rfl (fun _ => .fieldAddr FactDisk1.fld64x0 rfl) ?_
  refine .quiet (.p rfl) rfl (fun _ => .fieldAddr FactDisk1.fld62x1 rfl) ?_
  refine .quiet (.p rfl) rfl (fun _ => .loadAt FactDisk1.flat60 rfl (hat1.drop 1) rfl) ?_
  refine OD.callS (.p rfl) (by kernel_rfl) rfl FactDisk1.ok54 rfl rfl (by repeat (first | exact Sel.here | apply Sel.there)) (size_c (by assumption) (by omega)) ?_
  rintro v11 _ ⟨rfl, rfl⟩
  try simp only [List.cons_append, List.nil_append, List.append_nil]
  refine OD.callS (.p rfl) (by kernel_rfl) rfl FactDisk1.ok54 rfl rfl (by repeat (first | exact Sel.here | apply Sel.there)) (size_c (by assumption) (by omega)) ?_
  rintro v17 _ ⟨rfl, rfl⟩
  try simp only [List.cons_append, List.nil_append, List.append_nil]
  refine .quiet (.p rfl) rfl (fun _ => .add rfl rfl (IntWalk.i64_in _ (by omega))) ?_
  refine .quiet (.p rfl) rfl (fun _ => .as rfl) ?_
  refine .nil ?_
  refine th1 ?_
  refine S.ret Go.Proofs.Tryz.results27 rfl fun w hw => Holds.end_ hR hw ?_
  exact ⟨_, ⟨rfl, rfl⟩, by repeat (first | exact Picks.all | exact Picks.nil | (apply Picks.cons; focus (repeat (first | exact Sel.here | apply Sel.there))) | apply Picks.skip)⟩
theorem mclone_c {r : Fr} {b c : Nat} {m : SS} : Con Go.Proofs.Tryz.prog 51 #[.map (some b)] r [MapT b m c] (Ret fun v η => ∃ b', v = .map (some b') ∧ η = [MapT b' m c, MapT b m c]) := by
  refine Con.of (n := 9) [.map (some b)] rfl Go.Proofs.Tryz.func51 rfl rfl rfl fun g hg R hR => ?_
  refine S.seq (S.region rfl ?_)
  refine O.op (.p rfl) (.as rfl) ?_
  refine O.nil ?_
  refine S.seq (S.seq (S.region rfl ?_))
  refine O.op (.p rfl) (.mv rfl) ?_
  refine O.op (.p rfl) (.eqlM Go.Proofs.Tryz.underlying60 rfl rfl) ?_
  refine O.slot 4 (v' := .bool false) rfl (congrArg Value.bool (by rfl)) ?_
  refine O.nil ?_
  refine S.condF rfl ?_
  refine S.skip (S.seq (S.region rfl ?_))
  refine O.op (.p rfl) (.mv rfl) ?_
  refine O.op (.p rfl) (.mkIface Go.Proofs.Tryz.underlying60 rfl) ?_
  refine O.opE (.p rfl) (.cloneS (fn' := Go.Proofs.Tryz.f98) Go.Proofs.Tryz.func98 (by kernel_rfl) (by kernel_rfl) (by kernel_rfl) (by kernel_rfl) rfl (by repeat (first | exact Sel.here | apply Sel.there))) ?_
  rintro v7 _ ⟨b7, rfl, rfl⟩
  refine O.op (.p rfl) (.assertIs Go.Proofs.Tryz.underlying60 rfl) ?_
  refine O.op (.p rfl) (.as rfl) ?_
  refine O.nil ?_
  refine S.ret Go.Proofs.Tryz.results51 rfl fun w hw => Holds.end_ hR hw ?_
  exact ⟨_, ⟨b7, rfl, rfl⟩, by repeat (first | exact Picks.all | exact Picks.nil | (apply Picks.cons; focus (repeat (first | exact Sel.here | apply Sel.there))) | apply Picks.skip)⟩
abbrev dC (b1 b2 : Nat) (room : Int) : List Value := [.map (some b1), .map (some b2), .int .i64 room]
theorem made_g {r : Fr} {d b1 b2 : Nat} {room : Int} (hat : At r ⟨d, 0, none⟩ (dC b1 b2 room)) : Con Go.Proofs.Tryz.prog 30 #[.pointer (some ⟨d, 0, none⟩)] r [] (Ret fun v η => v = .bool true ∧ η = []) := by
  refine Con.of (n := 13) [.pointer (some ⟨d, 0, none⟩)] rfl Go.Proofs.Tryz.func30 rfl rfl rfl fun g hg R hR => ?_
  replace hat : At g.h ⟨d, 0, none⟩ (dC b1 b2 room) := At.mono hg hat
  refine S.seq (S.region rfl ?_)
  refine O.op (.p rfl) (.as rfl) ?_
  refine O.nil ?_
  refine S.seq (S.region rfl ?_)
  refine O.op (.p rfl) (.mv rfl) ?_
  refine O.op (.p rfl) (.neqP Go.Proofs.Tryz.underlying24 rfl rfl) ?_
  refine O.slot 4 (v' := .bool true) rfl (congrArg Value.bool (by rfl)) ?_
  refine O.op (.p rfl) (.mv rfl) ?_
  refine O.op (.g rfl rfl) (.mv rfl) ?_
  refine O.op (.g rfl rfl) (.nilCheck rfl) ?_
  refine O.op (.g rfl rfl) (.fieldAddr FactDisk1.fld64x0 rfl) ?_
  refine O.op (.g rfl rfl) (.fieldAddr FactDisk1.fld62x0 rfl) ?_
  refine O.op (.g rfl rfl) (.loadAt FactDisk1.flat60 rfl hat rfl) ?_
  refine O.op (.g rfl rfl) (.neqM Go.Proofs.Tryz.underlying60 rfl rfl) ?_
  refine O.op (.p rfl) (.pickT rfl rfl) ?_
  refine O.op (.p rfl) (.as rfl) ?_
  refine O.nil ?_
  refine S.ret Go.Proofs.Tryz.results30 rfl fun w hw => Holds.end_ hR hw ?_
  exact ⟨_, ⟨rfl, rfl⟩, by repeat (first | exact Picks.all | exact Picks.nil | (apply Picks.cons; focus (repeat (first | exact Sel.here | apply Sel.there))) | apply Picks.skip)⟩

end Go.Proofs.YtkkcpckgnfcncaaGreatDoor
