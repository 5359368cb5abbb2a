import Derived.Test.YtkkcpckgnfcncaaGreatDoorDisk2
open Go Go.Sp
set_option maxRecDepth 100000
attribute [local irreducible] obj Own OwnP
namespace Go.Proofs.YtkkcpckgnfcncaaGreatDoor
theorem FactDisk3.flat4 : Go.Sp.flat1 Go.Proofs.Tryz.prog 4 = true := by kernel_rfl
theorem FactDisk3.ok143 : callable Go.Proofs.Tryz.prog 143 = true := by kernel_rfl
theorem FactDisk3.size4 : (Go.Proofs.Tryz.prog.info? 4).map (·.size) = some 1 := by kernel_rfl

theorem setV_one (cs : List UInt8) : (setV cs).all (·.oneCell') = true := by
  rw [List.all_eq_true]
  intro v hv
  obtain ⟨i, _, rfl⟩ := List.mem_map.1 hv
  rfl
theorem mkset_c {r : Fr} {cs : List UInt8} (hlo : ∀ c ∈ cs, c.toNat < 128) (hl : cs.length ≤ 1000000) : Con Go.Proofs.Tryz.prog 102 #[.string (str cs)] r [] (Ret fun v η => v = .tuple #[.agg (setV cs).toArray, .bool true] ∧ η = []) := by
  refine Con.of (n := 21) [.string (str cs)] rfl Go.Proofs.Tryz.func102 rfl rfl rfl fun g hg R hR => ?_
  refine S.seq (S.region rfl ?_)
  refine O.opE (.p rfl) (.alloc (cs := [.bool false, .bool false, .bool false, .bool false, .bool false, .bool false, .bool false, .bool false, .bool false, .bool false, .bool false, .bool false, .bool false, .bool false, .bool false, .bool false, .bool false, .bool false, .bool false, .bool false, .bool false, .bool false, .bool false, .bool false, .bool false, .bool false, .bool false, .bool false, .bool false, .bool false, .bool false, .bool false, .bool false, .bool false, .bool false, .bool false, .bool false, .bool false, .bool false, .bool false, .bool false, .bool false, .bool false, .bool false, .bool false, .bool false, .bool false, .bool false, .bool false, .bool false, .bool false, .bool false, .bool false, .bool false, .bool false, .bool false, .bool false, .bool false, .bool false, .bool false, .bool false, .bool false, .bool false, .bool false, .bool false, .bool false, .bool false, .bool false, .bool false, .bool false, .bool false, .bool false, .bool false, .bool false, .bool false, .bool false, .bool false, .bool false, .bool false, .bool false, .bool false, .bool false, .bool false, .bool false, .bool false, .bool false, .bool false, .bool false, .bool false, .bool false, .bool false, .bool false, .bool false, .bool false, .bool false, .bool false, .bool false, .bool false, .bool false, .bool false, .bool false, .bool false, .bool false, .bool false, .bool false, .bool false, .bool false, .bool false, .bool false, .bool false, .bool false, .bool false, .bool false, .bool false, .bool false, .bool false, .bool false, .bool false, .bool false, .bool false, .bool false, .bool false, .bool false, .bool false, .bool false, .bool false, .bool false, .bool false, .bool false, .bool false, .bool false, .bool false, .bool false, .bool false, .bool false, .bool false, .bool false, .bool false, .bool false, .bool false, .bool false, .bool false, .bool false, .bool false, .bool false, .bool false, .bool false, .bool false, .bool false, .bool false, .bool false, .bool false, .bool false, .bool false, .bool false, .bool false, .bool false, .bool false, .bool false, .bool false, .bool false, .bool false, .bool false, .bool false, .bool false, .bool false, .bool false, .bool false, .bool false, .bool false, .bool false, .bool false, .bool false, .bool false, .bool false, .bool false, .bool false, .bool false, .bool false, .bool false, .bool false, .bool false, .bool false, .bool false, .bool false, .bool false, .bool false, .bool false, .bool false, .bool false, .bool false, .bool false, .bool false, .bool false, .bool false, .bool false, .bool false, .bool false, .bool false, .bool false, .bool false, .bool false, .bool false, .bool false, .bool false, .bool false, .bool false, .bool false, .bool false, .bool false, .bool false, .bool false, .bool false, .bool false, .bool false, .bool false, .bool false, .bool false, .bool false, .bool false, .bool false, .bool false, .bool false, .bool false, .bool false, .bool false, .bool false, .bool false, .bool false, .bool false, .bool false, .bool false, .bool false, .bool false, .bool false, .bool false, .bool false, .bool false, .bool false, .bool false, .bool false, .bool false, .bool false, .bool false, .bool false, .bool false, .bool false, .bool false, .bool false, .bool false, .bool false, .bool false, .bool false, .bool false, .bool false, .bool false]) Go.Proofs.Tryz.zeroValue147 rfl) ?_
  rintro _ _ ⟨b2, rfl, rfl⟩
  refine O.op (.p rfl) (.as rfl) ?_
  refine O.nil ?_
  refine S.seq (S.seq (S.region rfl ?_))
  refine O.op (.p rfl) (.as rfl) ?_
  refine O.nil ?_
  refine S.block ?_
  refine S.objIs (b := b2) (cs' := setV (cs.take 0)) (by repeat (first | exact Sel.here | apply Sel.there)) rfl ?_
  refine S.loopK (ι := Nat) (fun i => i ≤ cs.length) (fun i => [(4, .int .i64 (i : Int))]) [(0, _), (2, _)] (fun i => [obj b2 147 (setV (cs.take i))]) (fun i => cs.length - i) (0) (by simp) (.cons rfl (.nil)) (.cons rfl (.cons rfl (.nil))) rfl fun i hx ih => ?_
  have hm1 := meltRefl (g := g)
  refine S.seq (S.seq (S.region rfl ?_))
  refine O.op (.p rfl) (.mv rfl) ?_
  refine O.op (.p rfl) (.mv rfl) ?_
  refine O.op (.p rfl) (.lenS rfl Go.Proofs.Tryz.underlying9 rfl) ?_
  refine O.slot 8 (v' := .int .i64 (cs.length : Int)) rfl (by rw [str_size]) ?_
  refine O.op (.p rfl) (.lss rfl rfl) ?_
  refine O.nil ?_
  first | refine S.condD rfl (fun h9 => ?_) (fun h9 => ?_) | refine S.condB rfl (fun h9 => ?_) (fun h9 => ?_)
  · have hi : i < cs.length := by omega
    have hc := hlo cs[i] (List.getElem_mem hi)
    have hc2 := cs[i].toNat_lt
    refine S.skip (S.seq (S.block (S.seq (S.region rfl ?_))))
    refine O.op (.p rfl) (.mv rfl) ?_
    refine O.op (.p rfl) (.mv rfl) ?_
    refine O.op (.p rfl) (.indexS (j := i) Go.Proofs.Tryz.underlying9 rfl rfl (by first | rfl | omega) (by first | omega | (simp; done) | (simp; omega) | decide)) ?_
    refine O.op (.p rfl) (.as rfl) ?_
    refine O.nil ?_
    refine S.seq (S.seq (S.region rfl ?_))
    refine O.op (.p rfl) (.mv rfl) ?_
    refine O.op (.p rfl) (.geq rfl rfl) ?_
    refine O.nil ?_
    first | refine S.condD rfl (fun h16 => ?_) (fun h16 => ?_) | refine S.condB rfl (fun h16 => ?_) (fun h16 => ?_)
    · exact absurd h16 (by omega)
    · refine S.skip (S.region rfl ?_)
      refine O.op (.p rfl) (.mv rfl) ?_
      refine O.op (.p rfl) (.idxArr (j := cs[i].toNat) Go.Proofs.Tryz.underlying147 FactDisk3.size4 rfl rfl rfl (by omega)) ?_
      refine O.opU rfl (.store1 FactDisk3.flat4 rfl rfl rfl (by repeat (first | exact Sel.here | apply Sel.there)) (by simp; omega)) ?_
      refine O.nil ?_
      refine S.inBlock (S.region rfl ?_)
      refine O.op (.p rfl) (.mv rfl) ?_
      refine O.op (.p rfl) (.add rfl rfl (IntWalk.i64_in _ (by omega))) ?_
      refine O.op (.p rfl) (.as rfl) ?_
      refine O.nil ?_
      rw [Nat.zero_add, setV_set, ← List.take_succ_eq_append_getElem hi]
      refine S.weaken ?_ (ih (i + 1) (by omega) (by omega))
      repeat (first | exact Sub.nil | refine Sub.cons rfl ?_)
  · clear ih
    have hi : i = cs.length := by omega
    subst hi
    rw [List.take_length]
    refine S.exit rfl ?_
    refine S.seq (S.region rfl ?_)
    refine O.op (.p rfl) (.loadObjAgg (news := setV cs) Go.Proofs.Tryz.isAgg147 (by rw [setV_length]; kernel_rfl) rfl (by repeat (first | exact Sel.here | apply Sel.there)) (by rw [List.drop_zero, List.take_of_length_le (Nat.le_refl _)])) ?_
    refine O.opU rfl (.storeObj (news := setV cs) (by rw [setV_length]; kernel_rfl) rfl rfl rfl (setV_one cs) (by repeat (first | exact Sel.here | apply Sel.there)) (by simp)) ?_
    refine O.op (.p rfl) (.as rfl) ?_
    refine O.nil ?_
    refine S.objIs (b := b2) (cs' := setV cs) (by repeat (first | exact Sel.here | apply Sel.there)) (by simp) ?_
    refine S.retM2 (.inr ⟨_, rfl⟩) .nil Go.Proofs.Tryz.results102 (.agg (cs := setV cs) Go.Proofs.Tryz.isAgg147 (by rw [setV_length]; kernel_rfl) rfl (by repeat (first | exact Sel.here | apply Sel.there))) (.tmp rfl) fun w hw => ?_
    exact Holds.end_ hR hw ⟨_, ⟨rfl, rfl⟩, by repeat (first | exact Picks.all | exact Picks.nil | (apply Picks.cons; focus (repeat (first | exact Sel.here | apply Sel.there))) | apply Picks.skip)⟩
theorem contains_c {r : Fr} {b : Nat} {cs : List UInt8} {c : UInt8} (ha : At r ⟨b, 0, none⟩ (setV cs)) : Con Go.Proofs.Tryz.prog 143 #[.pointer (some ⟨b, 0, none⟩), byteV c] r [] (Ret fun v η => v = .bool (decide (c ∈ cs)) ∧ η = []) := by
  refine Con.of (n := 10) [.pointer (some ⟨b, 0, none⟩), byteV c] rfl Go.Proofs.Tryz.func143 rfl rfl rfl fun g hg R hR => ?_
  replace ha : At g.h ⟨b, 0, none⟩ (setV cs) := At.mono hg ha
  have hc := c.toNat_lt
  refine S.seq (S.region rfl ?_)
  refine O.op (.p rfl) (.as rfl) ?_
  refine O.nil ?_
  refine S.seq (S.region rfl ?_)
  refine O.op (.p rfl) (.mv rfl) ?_
  refine O.op (.p rfl) (.mv rfl) ?_
  refine O.op (.p rfl) (.nilCheck rfl) ?_
  refine O.op (.p rfl) (.idxArrA (j := c.toNat) Go.Proofs.Tryz.underlying147 FactDisk3.size4 rfl rfl rfl (by omega)) ?_
  refine O.op (.p rfl) (.load FactDisk3.flat4 rfl (At.at ha (setV_get cs c))) ?_
  refine O.op (.p rfl) (.as rfl) ?_
  refine O.nil ?_
  refine S.ret Go.Proofs.Tryz.results143 rfl fun w hw => Holds.end_ hR hw ?_
  exact ⟨_, ⟨rfl, rfl⟩, by repeat (first | exact Picks.all | exact Picks.nil | (apply Picks.cons; focus (repeat (first | exact Sel.here | apply Sel.there))) | apply Picks.skip)⟩
theorem trimR_c {r : Fr} {b : Nat} {s cs : List UInt8} (ha : At r ⟨b, 0, none⟩ (setV cs)) (hl : s.length ≤ 9223372036854775807) : Con Go.Proofs.Tryz.prog 104 #[.string (str s), .pointer (some ⟨b, 0, none⟩)] r []
    (Ret fun v η => ∃ n, n ≤ s.length ∧ v = .string (str (s.take n)) ∧ (∀ j, (h : j < s.length) → n ≤ j → s[j] ∈ cs) ∧ (n = 0 ∨ ∃ h : n - 1 < s.length, s[n - 1] ∉ cs) ∧ η = []) := by
  refine Con.of (n := 22) [.string (str s), .pointer (some ⟨b, 0, none⟩)] rfl Go.Proofs.Tryz.func104 rfl rfl rfl fun g hg R hR => ?_
  replace ha : At g.h ⟨b, 0, none⟩ (setV cs) := At.mono hg ha
  refine S.seq (S.region rfl ?_)
  refine O.op (.p rfl) (.as rfl) ?_
  refine O.nil ?_
  refine S.seq (S.block ?_)
  refine S.slot 0 (v' := .string (str (s.take s.length))) rfl (by rw [List.take_length]) ?_
  refine S.loopK (ι := Nat) (fun n => n ≤ s.length ∧ ∀ j, (h : j < s.length) → n ≤ j → s[j] ∈ cs) (fun n => [(0, .string (str (s.take n)))]) [(1, _)] (fun n => []) (fun n => n) (s.length) (by exact ⟨Nat.le_refl _, fun j h h' => absurd h (by omega)⟩) (.cons rfl (.nil)) (.cons rfl (.nil)) rfl fun n hx ih => ?_
  have hm1 := meltRefl (g := g)
  obtain ⟨hn, hin⟩ := hx
  have hln : (s.take n).length = n := by rw [List.length_take]; omega
  refine S.seq (S.seq (S.region rfl ?_))
  refine O.op (.p rfl) (.mv rfl) ?_
  refine O.op (.p rfl) (.lenS rfl Go.Proofs.Tryz.underlying9 rfl) ?_
  refine O.slot 6 (v' := .int .i64 (n : Int)) rfl (by rw [str_size, hln]) ?_
  refine O.op (.p rfl) (.gtr rfl rfl) ?_
  refine O.nil ?_
  first | refine S.condD rfl (fun h7 => ?_) (fun h7 => ?_) | refine S.condB rfl (fun h7 => ?_) (fun h7 => ?_)
  · have hn0 : 0 < n := by omega
    have hge : (s.take n)[n - 1]'(by omega) = s[n - 1] := List.getElem_take
    refine S.skip (S.block (S.seq (S.seq (S.region rfl ?_))))
    refine O.op (.p rfl) (.mv rfl) ?_
    refine O.op (.p rfl) (.mv rfl) ?_
    refine O.op (.p rfl) (.mv rfl) ?_
    refine O.op (.p rfl) (.lenS rfl Go.Proofs.Tryz.underlying9 rfl) ?_
    refine O.slot 11 (v' := .int .i64 (n : Int)) rfl (by rw [str_size, hln]) ?_
    refine O.op (.p rfl) (.sub rfl rfl (IntWalk.i64_in _ (by omega))) ?_
    refine O.op (.p rfl) (.indexS (j := n - 1) Go.Proofs.Tryz.underlying9 rfl rfl (by first | rfl | omega) (by first | omega | (simp; done) | (simp; omega) | decide)) ?_
    refine O.call0 (.p rfl) rfl FactDisk3.ok143 rfl rfl (contains_c (by assumption)) ?_
    rintro v14 _ ⟨rfl, rfl⟩
    try simp only [List.cons_append, List.nil_append, List.append_nil]
    refine O.op (.p rfl) ((by first | exact .notD rfl | exact .not rfl)) ?_
    refine O.nil ?_
    first | refine S.condD rfl (fun h15 => ?_) (fun h15 => ?_) | refine S.condB rfl (fun h15 => ?_) (fun h15 => ?_)
    · have hni : s[n - 1] ∉ cs := by rw [← hge]; simpa using h15
      clear ih
      refine S.exit rfl ?_
      refine S.seq (S.region rfl ?_)
      refine O.op (.p rfl) (.mv rfl) ?_
      refine O.op (.p rfl) (.as rfl) ?_
      refine O.nil ?_
      refine S.ret Go.Proofs.Tryz.results104 rfl fun w hw => Holds.end_ hR hw ?_
      exact ⟨_, ⟨n, hn, rfl, hin, .inr ⟨by omega, hni⟩, rfl⟩, by repeat (first | exact Picks.all | exact Picks.nil | (apply Picks.cons; focus (repeat (first | exact Sel.here | apply Sel.there))) | apply Picks.skip)⟩
    · have hii : s[n - 1] ∈ cs := by rw [← hge]; simpa using h15
      refine S.skip (S.region rfl ?_)
      refine O.op (.p rfl) (.mv rfl) ?_
      refine O.op (.p rfl) (.mv rfl) ?_
      refine O.op (.p rfl) (.lenS rfl Go.Proofs.Tryz.underlying9 rfl) ?_
      refine O.slot 18 (v' := .int .i64 (n : Int)) rfl (by rw [str_size, hln]) ?_
      refine O.op (.p rfl) (.sub rfl rfl (IntWalk.i64_in _ (by omega))) ?_
      refine O.strTo (b := n - 1) (.p rfl) Go.Proofs.Tryz.underlying9 rfl rfl (show _ = (((n - 1) : Nat) : Int) by omega) (by first | omega | (simp; done) | (simp; omega) | decide) ?_
      refine O.op (.p rfl) (.as rfl) ?_
      refine O.nil ?_
      refine S.inBlock ?_
      rw [List.take_take, show min (n - 1) n = n - 1 from by omega]
      refine S.weaken ?_ (ih (n - 1) (by exact ⟨by omega, fun j h h' => if e : j = n - 1 then by subst e; exact hii else hin j h (by omega)⟩) (by omega))
      repeat (first | exact Sub.nil | refine Sub.cons rfl ?_)
  · clear ih
    have hn0 : n = 0 := by omega
    refine S.exit rfl ?_
    refine S.seq (S.region rfl ?_)
    refine O.op (.p rfl) (.mv rfl) ?_
    refine O.op (.p rfl) (.as rfl) ?_
    refine O.nil ?_
    refine S.ret Go.Proofs.Tryz.results104 rfl fun w hw => Holds.end_ hR hw ?_
    exact ⟨_, ⟨n, hn, rfl, hin, .inl hn0, rfl⟩, by repeat (first | exact Picks.all | exact Picks.nil | (apply Picks.cons; focus (repeat (first | exact Sel.here | apply Sel.there))) | apply Picks.skip)⟩
theorem trimL_c {r : Fr} {b : Nat} {s cs : List UInt8} (ha : At r ⟨b, 0, none⟩ (setV cs)) (hl : s.length ≤ 9223372036854775807) : Con Go.Proofs.Tryz.prog 103 #[.string (str s), .pointer (some ⟨b, 0, none⟩)] r []
    (Ret fun v η => ∃ n, n ≤ s.length ∧ v = .string (str (s.drop n)) ∧ (∀ j, (h : j < s.length) → j < n → s[j] ∈ cs) ∧ (n = s.length ∨ ∃ h : n < s.length, s[n] ∉ cs) ∧ η = []) := by
  refine Con.of (n := 16) [.string (str s), .pointer (some ⟨b, 0, none⟩)] rfl Go.Proofs.Tryz.func103 rfl rfl rfl fun g hg R hR => ?_
  replace ha : At g.h ⟨b, 0, none⟩ (setV cs) := At.mono hg ha
  refine S.seq (S.region rfl ?_)
  refine O.op (.p rfl) (.as rfl) ?_
  refine O.nil ?_
  refine S.seq (S.block ?_)
  refine S.loopK (ι := Nat) (fun n => n ≤ s.length ∧ ∀ j, (h : j < s.length) → j < n → s[j] ∈ cs) (fun n => [(0, .string (str (s.drop n)))]) [(1, _)] (fun n => []) (fun n => s.length - n) (0) (by exact ⟨Nat.zero_le _, fun j h h' => absurd h' (by omega)⟩) (.cons rfl (.nil)) (.cons rfl (.nil)) rfl fun n hx ih => ?_
  have hm1 := meltRefl (g := g)
  obtain ⟨hn, hin⟩ := hx
  have hln : (s.drop n).length = s.length - n := List.length_drop ..
  refine S.seq (S.seq (S.region rfl ?_))
  refine O.op (.p rfl) (.mv rfl) ?_
  refine O.op (.p rfl) (.lenS rfl Go.Proofs.Tryz.underlying9 rfl) ?_
  refine O.slot 6 (v' := .int .i64 ((s.length - n : Nat) : Int)) rfl (by rw [str_size, hln]) ?_
  refine O.op (.p rfl) (.gtr rfl rfl) ?_
  refine O.nil ?_
  first | refine S.condD rfl (fun h7 => ?_) (fun h7 => ?_) | refine S.condB rfl (fun h7 => ?_) (fun h7 => ?_)
  · have hn0 : n < s.length := by omega
    have hge : (s.drop n)[0]'(by omega) = s[n] := by rw [List.getElem_drop]; simp
    refine S.skip (S.block (S.seq (S.seq (S.region rfl ?_))))
    refine O.op (.p rfl) (.mv rfl) ?_
    refine O.op (.p rfl) (.mv rfl) ?_
    refine O.op (.p rfl) (.indexS (j := 0) Go.Proofs.Tryz.underlying9 rfl rfl (by first | rfl | omega) (by first | omega | (simp; done) | (simp; omega) | decide)) ?_
    refine O.call0 (.p rfl) rfl FactDisk3.ok143 rfl rfl (contains_c (by assumption)) ?_
    rintro v11 _ ⟨rfl, rfl⟩
    try simp only [List.cons_append, List.nil_append, List.append_nil]
    refine O.op (.p rfl) ((by first | exact .notD rfl | exact .not rfl)) ?_
    refine O.nil ?_
    first | refine S.condD rfl (fun h12 => ?_) (fun h12 => ?_) | refine S.condB rfl (fun h12 => ?_) (fun h12 => ?_)
    · have hni : s[n] ∉ cs := by rw [← hge]; simpa using h12
      clear ih
      refine S.exit rfl ?_
      refine S.seq (S.region rfl ?_)
      refine O.op (.p rfl) (.mv rfl) ?_
      refine O.op (.p rfl) (.as rfl) ?_
      refine O.nil ?_
      refine S.ret Go.Proofs.Tryz.results103 rfl fun w hw => Holds.end_ hR hw ?_
      exact ⟨_, ⟨n, hn, rfl, hin, .inr ⟨by omega, hni⟩, rfl⟩, by repeat (first | exact Picks.all | exact Picks.nil | (apply Picks.cons; focus (repeat (first | exact Sel.here | apply Sel.there))) | apply Picks.skip)⟩
    · have hii : s[n] ∈ cs := by rw [← hge]; simpa using h12
      refine S.skip (S.region rfl ?_)
      refine O.op (.p rfl) (.mv rfl) ?_
      refine O.strFrom (a := 1) (.p rfl) Go.Proofs.Tryz.underlying9 rfl rfl (show _ = (((1) : Nat) : Int) by omega) (by first | omega | (simp; done) | (simp; omega) | decide) ?_
      refine O.op (.p rfl) (.as rfl) ?_
      refine O.nil ?_
      refine S.inBlock ?_
      rw [List.drop_drop]
      refine S.weaken ?_ (ih (n + 1) (by exact ⟨by omega, fun j h h' => if e : j = n then by subst e; exact hii else hin j h (by omega)⟩) (by omega))
      repeat (first | exact Sub.nil | refine Sub.cons rfl ?_)
  · clear ih
    have hn0 : n = s.length := by omega
    refine S.exit rfl ?_
    refine S.seq (S.region rfl ?_)
    refine O.op (.p rfl) (.mv rfl) ?_
    refine O.op (.p rfl) (.as rfl) ?_
    refine O.nil ?_
    refine S.ret Go.Proofs.Tryz.results103 rfl fun w hw => Holds.end_ hR hw ?_
    exact ⟨_, ⟨n, hn, rfl, hin, .inl hn0, rfl⟩, by repeat (first | exact Picks.all | exact Picks.nil | (apply Picks.cons; focus (repeat (first | exact Sel.here | apply Sel.there))) | apply Picks.skip)⟩

end Go.Proofs.YtkkcpckgnfcncaaGreatDoor
