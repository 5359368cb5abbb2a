import Derived.Test.YtkkcpckgnfcncaaGreatDoorDisk3
open Go Go.Sp
set_option maxRecDepth 100000
attribute [local irreducible] obj Own OwnP
namespace Go.Proofs.YtkkcpckgnfcncaaGreatDoor
theorem FactDisk4.flat9 : Go.Sp.flat1 Go.Proofs.Tryz.prog 9 = true := by kernel_rfl
theorem FactDisk4.ok102 : callable Go.Proofs.Tryz.prog 102 = true := by kernel_rfl
theorem FactDisk4.ok103 : callable Go.Proofs.Tryz.prog 103 = true := by kernel_rfl
theorem FactDisk4.ok104 : callable Go.Proofs.Tryz.prog 104 = true := by kernel_rfl
theorem FactDisk4.ok56 : callable Go.Proofs.Tryz.prog 56 = true := by kernel_rfl
theorem FactDisk4.ok57 : callable Go.Proofs.Tryz.prog 57 = true := by kernel_rfl
theorem FactDisk4.ok58 : callable Go.Proofs.Tryz.prog 58 = true := by kernel_rfl
theorem FactDisk4.ok99 : callable Go.Proofs.Tryz.prog 99 = true := by kernel_rfl
theorem FactDisk4.size9 : (Go.Proofs.Tryz.prog.info? 9).map (·.size) = some 1 := by kernel_rfl

theorem nil_bytes : ({ data := #[] } : ByteArray).toList = [] := str_toList []
theorem trim_nil {s cs : List UInt8} {n m : Nat} (hn : n ≤ s.length) (h1 : ∀ j, (h : j < s.length) → n ≤ j → s[j] ∈ cs) (h2 : n = 0 ∨ ∃ h : n - 1 < s.length, s[n - 1] ∉ cs) (hm : m ≤ (s.take n).length)
    (h3 : ∀ j, (h : j < (s.take n).length) → j < m → (s.take n)[j] ∈ cs) (h4 : m = (s.take n).length ∨ ∃ h : m < (s.take n).length, (s.take n)[m] ∉ cs) : (s.take n).drop m = [] ↔ ∀ c ∈ s, c ∈ cs := by
  have hl : (s.take n).length = n := by rw [List.length_take]; omega
  rcases h2 with h0 | ⟨hlt, hni⟩
  · subst h0
    refine ⟨fun _ c hc => ?_, fun _ => by simp⟩
    obtain ⟨i, hi, rfl⟩ := List.getElem_of_mem hc
    exact h1 i hi (Nat.zero_le _)
  · by_cases hn0 : n = 0
    · subst hn0
      exact absurd (h1 0 (by omega) (Nat.le_refl _)) hni
    · constructor
      · intro h
        have hml : n ≤ m := by
          have := congrArg List.length h
          rw [List.length_drop, hl] at this
          simp at this; omega
        have := h3 (n - 1) (by omega) (by omega)
        rw [List.getElem_take] at this
        exact absurd this hni
      · exact fun h => absurd (h _ (List.getElem_mem hlt)) hni
theorem trim_c {r : Fr} {s cut : List UInt8} (hlo : ∀ c ∈ cut, c.toNat < 128) (hc : 2 ≤ cut.length) (hc2 : cut.length ≤ 1000000) (hl : s.length ≤ 9223372036854775807) :
    Con Go.Proofs.Tryz.prog 58 #[.string (str s), .string (str cut)] r [] (Ret fun v η => ∃ t, v = .string (str t) ∧ (t = [] ↔ ∀ c ∈ s, c ∈ cut) ∧ η = []) := by
  refine Con.of (n := 43) [.string (str s), .string (str cut)] rfl Go.Proofs.Tryz.func58 rfl rfl rfl fun g hg R hR => ?_
  have hcn : cut ≠ [] := fun h => by subst h; simp at hc
  refine S.seq (S.region rfl ?_)
  refine O.op (.p rfl) (.as rfl) ?_
  refine O.nil ?_
  refine S.seq (S.seq (S.region rfl ?_))
  refine O.op (.p rfl) (.mv rfl) ?_
  refine O.op (.p rfl) (.eqlS rfl rfl) ?_
  refine O.slot 8 (v' := .bool (decide (s = []))) rfl (by exact congrArg _ (decide_eq_decide.2 (by rw [str_toList, nil_bytes]))) ?_
  refine O.op (.p rfl) (.mv rfl) ?_
  first | refine O.caseD 9 rfl (fun h9 => ?_) (fun h9 => ?_) | refine O.caseB 9 rfl (fun h9 => ?_) (fun h9 => ?_)
  · have h8' : s = [] := h9
    subst h8'
    refine O.opN rfl rfl rfl ?_
    refine O.opN rfl rfl rfl ?_
    refine O.op (.p rfl) (.pickT rfl rfl) ?_
    refine O.nil ?_
    refine S.condT rfl ?_
    refine S.seq (S.region rfl ?_)
    refine O.op (.p rfl) (.mv rfl) ?_
    refine O.op (.p rfl) (.as rfl) ?_
    refine O.nil ?_
    refine S.ret Go.Proofs.Tryz.results58 rfl fun w hw => Holds.end_ hR hw ?_
    exact ⟨_, ⟨[], rfl, by simp, rfl⟩, by repeat (first | exact Picks.all | exact Picks.nil | (apply Picks.cons; focus (repeat (first | exact Sel.here | apply Sel.there))) | apply Picks.skip)⟩
  · refine O.op (.g rfl rfl) (.mv rfl) ?_
    refine O.op (.g rfl rfl) (.eqlS rfl rfl) ?_
    refine O.slot 11 (v' := .bool false) rfl (congrArg Value.bool (by refine decide_eq_false fun h => hcn ?_; rw [str_toList, nil_bytes] at h; exact h)) ?_
    refine O.op (.p rfl) (.pickF rfl rfl) ?_
    refine O.nil ?_
    refine S.condF rfl ?_
    refine S.skip (S.seq (S.seq (S.region rfl ?_)))
    refine O.op (.p rfl) (.mv rfl) ?_
    refine O.op (.p rfl) (.lenS rfl Go.Proofs.Tryz.underlying9 rfl) ?_
    refine O.slot 15 (v' := .int .i64 (cut.length : Int)) rfl (by rw [str_size]) ?_
    refine O.op (.p rfl) (.eql rfl rfl) ?_
    refine O.slot 16 (v' := .bool false) rfl (congrArg Value.bool (by exact decide_eq_false (by omega))) ?_
    refine O.op (.p rfl) (.mv rfl) ?_
    refine O.opN rfl rfl rfl ?_
    refine O.opN rfl rfl rfl ?_
    refine O.opN rfl rfl rfl ?_
    refine O.op (.p rfl) (.pickF rfl rfl) ?_
    refine O.nil ?_
    refine S.condF rfl ?_
    refine S.skip (S.seq (S.seq (S.region rfl ?_)))
    refine O.op (.p rfl) (.mv rfl) ?_
    refine O.call0 (.p rfl) rfl FactDisk4.ok102 rfl rfl ((mkset_c hlo hc2)) ?_
    rintro v31 _ ⟨rfl, rfl⟩
    try simp only [List.cons_append, List.nil_append, List.append_nil]
    refine O.op (.p rfl) (.mv rfl) ?_
    refine O.op (.p rfl) (.extract rfl rfl) ?_
    refine O.op (.p rfl) (.extract rfl rfl) ?_
    refine O.opE (.p rfl) (.alloc (cs := [.bool false, .bool false, .bool false, .bool false, .bool false, .bool false, .bool false, .bool false, .bool false, .bool false, .bool false, .bool false, .bool false, .bool false, .bool false, .bool false, .bool false, .bool false, .bool false, .bool false, .bool false, .bool false, .bool false, .bool false, .bool false, .bool false, .bool false, .bool false, .bool false, .bool false, .bool false, .bool false, .bool false, .bool false, .bool false, .bool false, .bool false, .bool false, .bool false, .bool false, .bool false, .bool false, .bool false, .bool false, .bool false, .bool false, .bool false, .bool false, .bool false, .bool false, .bool false, .bool false, .bool false, .bool false, .bool false, .bool false, .bool false, .bool false, .bool false, .bool false, .bool false, .bool false, .bool false, .bool false, .bool false, .bool false, .bool false, .bool false, .bool false, .bool false, .bool false, .bool false, .bool false, .bool false, .bool false, .bool false, .bool false, .bool false, .bool false, .bool false, .bool false, .bool false, .bool false, .bool false, .bool false, .bool false, .bool false, .bool false, .bool false, .bool false, .bool false, .bool false, .bool false, .bool false, .bool false, .bool false, .bool false, .bool false, .bool false, .bool false, .bool false, .bool false, .bool false, .bool false, .bool false, .bool false, .bool false, .bool false, .bool false, .bool false, .bool false, .bool false, .bool false, .bool false, .bool false, .bool false, .bool false, .bool false, .bool false, .bool false, .bool false, .bool false, .bool false, .bool false, .bool false, .bool false, .bool false, .bool false, .bool false, .bool false, .bool false, .bool false, .bool false, .bool false, .bool false, .bool false, .bool false, .bool false, .bool false, .bool false, .bool false, .bool false, .bool false, .bool false, .bool false, .bool false, .bool false, .bool false, .bool false, .bool false, .bool false, .bool false, .bool false, .bool false, .bool false, .bool false, .bool false, .bool false, .bool false, .bool false, .bool false, .bool false, .bool false, .bool false, .bool false, .bool false, .bool false, .bool false, .bool false, .bool false, .bool false, .bool false, .bool false, .bool false, .bool false, .bool false, .bool false, .bool false, .bool false, .bool false, .bool false, .bool false, .bool false, .bool false, .bool false, .bool false, .bool false, .bool false, .bool false, .bool false, .bool false, .bool false, .bool false, .bool false, .bool false, .bool false, .bool false, .bool false, .bool false, .bool false, .bool false, .bool false, .bool false, .bool false, .bool false, .bool false, .bool false, .bool false, .bool false, .bool false, .bool false, .bool false, .bool false, .bool false, .bool false, .bool false, .bool false, .bool false, .bool false, .bool false, .bool false, .bool false, .bool false, .bool false, .bool false, .bool false, .bool false, .bool false, .bool false, .bool false, .bool false, .bool false, .bool false, .bool false, .bool false, .bool false, .bool false, .bool false, .bool false, .bool false, .bool false, .bool false, .bool false, .bool false, .bool false, .bool false, .bool false, .bool false, .bool false, .bool false, .bool false, .bool false, .bool false, .bool false, .bool false, .bool false]) Go.Proofs.Tryz.zeroValue147 rfl) ?_
    rintro _ _ ⟨b5, rfl, rfl⟩
    refine O.opU rfl (.storeObj (news := setV cut) (by rw [setV_length]; kernel_rfl) rfl rfl rfl (setV_one cut) (by repeat (first | exact Sel.here | apply Sel.there)) (by rw [setV_length]; decide)) ?_
    refine O.op (.p rfl) (.as rfl) ?_
    refine O.nil ?_
    refine S.seq ?_
    refine S.objIs (b := b5) (cs' := setV cut) (by repeat (first | exact Sel.here | apply Sel.there)) (by rw [setV_length, List.take_zero, List.nil_append]; rfl) ?_
    refine S.frzO (by repeat (first | exact Sel.here | apply Sel.there)) fun g hs hm h5 => ?_
    replace hg := Fr.sub_trans hg hs
    replace hR := melted hR hm
    clear hs hm
    refine S.region rfl ?_
    refine O.op (.p rfl) (.mv rfl) ?_
    refine O.nil ?_
    refine S.condT rfl ?_
    refine S.seq (S.region rfl ?_)
    refine O.op (.p rfl) (.mv rfl) ?_
    refine O.call0 (.p rfl) rfl FactDisk4.ok104 rfl rfl ((trimR_c h5 hl)) ?_
    rintro v36 _ ⟨n, hn, rfl, hR1, hR2, rfl⟩
    try simp only [List.cons_append, List.nil_append, List.append_nil]
    refine O.call0 (.p rfl) rfl FactDisk4.ok103 rfl rfl ((trimL_c h5 (by rw [List.length_take]; omega))) ?_
    rintro v37 _ ⟨m, hm, rfl, hL1, hL2, rfl⟩
    try simp only [List.cons_append, List.nil_append, List.append_nil]
    refine O.op (.p rfl) (.as rfl) ?_
    refine O.nil ?_
    refine S.ret Go.Proofs.Tryz.results58 rfl fun w hw => Holds.end_ hR hw ?_
    exact ⟨_, ⟨_, rfl, trim_nil hn hR1 hR2 hm hL1 hL2, rfl⟩, by repeat (first | exact Picks.all | exact Picks.nil | (apply Picks.cons; focus (repeat (first | exact Sel.here | apply Sel.there))) | apply Picks.skip)⟩
/-- the bytes that a name may have -/
def nameBytes : List UInt8 := [97, 98, 99, 100, 101, 102, 103, 104, 105, 106, 107, 108, 109, 110, 111, 112, 113, 114, 115, 116, 117, 118, 119, 120, 121, 122, 48, 49, 50, 51, 52, 53, 54, 55, 56, 57, 46, 95]
/-- may this be a name? -/
def nameOk (s : List UInt8) : Bool := decide (s ≠ [] ∧ s.length ≤ 24 ∧ ∀ c ∈ s, c ∈ nameBytes)
theorem named_eq {s t : List UInt8} (h1 : s ≠ []) (h2 : s.length ≤ 24) (ht : t = [] ↔ ∀ c ∈ s, c ∈ nameBytes) : decide (t ≠ ({ data := #[] } : ByteArray).toList) = !nameOk s := by
  have e : ({ data := #[] } : ByteArray).toList = [] := str_toList []
  rw [e]
  unfold nameOk
  by_cases h : t = []
  · rw [decide_eq_false (fun q => q h), decide_eq_true ⟨h1, h2, ht.1 h⟩]; rfl
  · rw [decide_eq_true h, decide_eq_false fun q => h (ht.2 q.2.2)]; rfl
theorem named1_c {r : Fr} {s : List UInt8} (hl : s.length ≤ 9223372036854775807) : Con Go.Proofs.Tryz.prog 57 #[.string (str s)] r [] (Ret fun v η => v = .bool (!nameOk s) ∧ η = []) := by
  refine Con.of (n := 15) [.string (str s)] rfl Go.Proofs.Tryz.func57 rfl rfl rfl fun g hg R hR => ?_
  refine S.seq (S.region rfl ?_)
  refine O.op (.p rfl) (.as rfl) ?_
  refine O.nil ?_
  refine S.seq (S.region rfl ?_)
  refine O.op (.p rfl) (.mv rfl) ?_
  refine O.op (.p rfl) (.eqlS rfl rfl) ?_
  refine O.slot 4 (v' := .bool (decide (s = []))) rfl (by exact congrArg _ (decide_eq_decide.2 (by rw [str_toList, nil_bytes]))) ?_
  refine O.op (.p rfl) (.mv rfl) ?_
  first | refine O.caseD 5 rfl (fun h5 => ?_) (fun h5 => ?_) | refine O.caseB 5 rfl (fun h5 => ?_) (fun h5 => ?_)
  · have h8' : s = [] := h5
    subst h8'
    refine O.opN rfl rfl rfl ?_
    refine O.opN rfl rfl rfl ?_
    refine O.opN rfl rfl rfl ?_
    refine O.op (.p rfl) (.pickT rfl rfl) ?_
    refine O.op (.p rfl) (.mv rfl) ?_
    refine O.opN rfl rfl rfl ?_
    refine O.opN rfl rfl rfl ?_
    refine O.opN rfl rfl rfl ?_
    refine O.op (.p rfl) (.pickT rfl rfl) ?_
    refine O.op (.p rfl) (.as rfl) ?_
    refine O.nil ?_
    refine S.ret Go.Proofs.Tryz.results57 rfl fun w hw => Holds.end_ hR hw ?_
    exact ⟨_, ⟨by simp [nameOk], rfl⟩, by repeat (first | exact Picks.all | exact Picks.nil | (apply Picks.cons; focus (repeat (first | exact Sel.here | apply Sel.there))) | apply Picks.skip)⟩
  · have h5' : s ≠ [] := h5
    refine O.op (.g rfl rfl) (.mv rfl) ?_
    refine O.op (.g rfl rfl) (.lenS rfl Go.Proofs.Tryz.underlying9 rfl) ?_
    refine O.slot 7 (v' := .int .i64 (s.length : Int)) rfl (by rw [str_size]) ?_
    refine O.op (.g rfl rfl) (.gtr rfl rfl) ?_
    refine O.op (.p rfl) (.pickF rfl rfl) ?_
    refine O.op (.p rfl) (.mv rfl) ?_
    first | refine O.caseD 10 rfl (fun h10 => ?_) (fun h10 => ?_) | refine O.caseB 10 rfl (fun h10 => ?_) (fun h10 => ?_)
    · have h10' : 24 < s.length := by omega
      refine O.opN rfl rfl rfl ?_
      refine O.opN rfl rfl rfl ?_
      refine O.opN rfl rfl rfl ?_
      refine O.op (.p rfl) (.pickT rfl rfl) ?_
      refine O.op (.p rfl) (.as rfl) ?_
      refine O.nil ?_
      refine S.ret Go.Proofs.Tryz.results57 rfl fun w hw => Holds.end_ hR hw ?_
      exact ⟨_, ⟨by simp [nameOk]; omega, rfl⟩, by repeat (first | exact Picks.all | exact Picks.nil | (apply Picks.cons; focus (repeat (first | exact Sel.here | apply Sel.there))) | apply Picks.skip)⟩
    · have h10' : s.length ≤ 24 := by omega
      refine O.op (.g rfl rfl) (.mv rfl) ?_
      refine O.call0 (.g rfl rfl) rfl FactDisk4.ok58 rfl rfl ((trim_c (cut := nameBytes) (by decide) (by decide) (by decide) hl)) ?_
      rintro v12 _ ⟨t, rfl, ht, rfl⟩
      try simp only [List.cons_append, List.nil_append, List.append_nil]
      refine O.op (.g rfl rfl) (.neqS rfl rfl) ?_
      refine O.slot 13 (v' := .bool (!nameOk s)) rfl (by refine congrArg _ ?_; rw [str_toList]; exact named_eq h5' h10' ht) ?_
      refine O.op (.p rfl) (.pickF rfl rfl) ?_
      refine O.op (.p rfl) (.as rfl) ?_
      refine O.nil ?_
      refine S.ret Go.Proofs.Tryz.results57 rfl fun w hw => Holds.end_ hR hw ?_
      exact ⟨_, ⟨rfl, rfl⟩, by repeat (first | exact Picks.all | exact Picks.nil | (apply Picks.cons; focus (repeat (first | exact Sel.here | apply Sel.there))) | apply Picks.skip)⟩
theorem idxf_c {r : Fr} {va : Value} {l : List (List UInt8)} (ha : Arr Rp.str r va l) : Con Go.Proofs.Tryz.prog 99 #[va, .func (.func 57) #[] #[]] r [] (Ret fun v η => ∃ z, v = .int .i64 z ∧ (0 ≤ z ↔ l.all nameOk = false) ∧ η = []) := by
  refine Con.of (n := 19) [va, .func (.func 57) #[] #[]] rfl Go.Proofs.Tryz.func99 rfl rfl rfl fun g hg R hR => ?_
  have ha := ha.mono hg
  have hbd := ha.bound
  obtain ⟨a1, c1, rfl⟩ := ha.shape
  refine S.seq (S.region rfl ?_)
  refine O.op (.p rfl) (.as rfl) ?_
  refine O.nil ?_
  refine S.seq (S.seq (S.region rfl ?_))
  refine O.op (.p rfl) (.mv rfl) ?_
  refine O.op (.p rfl) (.len rfl Go.Proofs.Tryz.underlying36 rfl) ?_
  refine O.op (.p rfl) (.mv rfl) ?_
  refine O.nil ?_
  refine S.block ?_
  refine S.loopK (ι := Nat) (fun i => i ≤ l.length ∧ (l.take i).all nameOk = true) (fun i => [(8, .int .i64 (i : Int))]) [(0, _), (1, _), (7, _)] (fun i => []) (fun i => l.length - i) (0) (by simp) (.cons rfl (.nil)) (.cons rfl (.cons rfl (.cons rfl (.nil)))) rfl fun i hx ih => ?_
  have hm1 := meltRefl (g := g)
  obtain ⟨hx1, hx2⟩ := hx
  refine S.seq (S.region rfl ?_)
  refine O.op (.p rfl) (.lss rfl rfl) ?_
  refine O.nil ?_
  refine S.seq ?_
  first | refine S.condD rfl (fun h9 => ?_) (fun h9 => ?_) | refine S.condB rfl (fun h9 => ?_) (fun h9 => ?_)
  · have hi : i < l.length := by omega
    refine S.skip (S.seq (S.block (S.seq (S.region rfl ?_))))
    refine O.op (.p rfl) (.mv rfl) ?_
    refine O.op (.p rfl) (.as rfl) ?_
    refine O.nil ?_
    refine S.seq (S.region rfl ?_)
    refine O.op (.p rfl) (.mv rfl) ?_
    refine O.op (.p rfl) (.mv rfl) ?_
    refine O.op (.p rfl) (.mv rfl) ?_
    refine O.idx' (.p rfl) Go.Proofs.Tryz.underlying36 FactDisk4.size9 rfl rfl rfl (by first | assumption | exact Arr.mono hg (by assumption) | exact Arr.left (by assumption) | exact Arr.left (Arr.mono hg (by assumption))) (by decide) (by first | omega | (simp; done) | (simp; omega) | decide) (fun p14 cs14 hp14 hr14 => ?_)
    obtain ⟨rfl, hz14⟩ := hr14
    refine O.op (.p rfl) (.loadAt FactDisk4.flat9 rfl hp14 rfl) ?_
    refine O.call0 (.p rfl) rfl FactDisk4.ok57 rfl rfl ((named1_c hz14)) ?_
    rintro v16 _ ⟨rfl, rfl⟩
    try simp only [List.cons_append, List.nil_append, List.append_nil]
    refine O.nil ?_
    first | refine S.condD rfl (fun h16 => ?_) (fun h16 => ?_) | refine S.condB rfl (fun h16 => ?_) (fun h16 => ?_)
    · have hno : nameOk l[i] = false := by simpa using h16
      clear ih
      refine S.seq (S.region rfl ?_)
      refine O.op (.p rfl) (.mv rfl) ?_
      refine O.op (.p rfl) (.as rfl) ?_
      refine O.nil ?_
      refine S.ret Go.Proofs.Tryz.results99 rfl fun w hw => Holds.end_ hR hw ?_
      exact ⟨_, ⟨_, rfl, by
        rw [List.all_eq_false]
        exact ⟨fun _ => ⟨l[i], List.getElem_mem hi, by simp [hno]⟩, fun _ => by omega⟩, rfl⟩, by repeat (first | exact Picks.all | exact Picks.nil | (apply Picks.cons; focus (repeat (first | exact Sel.here | apply Sel.there))) | apply Picks.skip)⟩
    · have hyes : nameOk l[i] = true := by simpa using h16
      refine S.skip (S.inBlock (S.region rfl ?_))
      refine O.op (.p rfl) (.add rfl rfl (IntWalk.i64_in _ (by omega))) ?_
      refine O.op (.p rfl) (.mv rfl) ?_
      refine O.nil ?_
      refine S.weaken ?_ (ih (i + 1) (by exact ⟨by omega, by rw [List.take_succ_eq_append_getElem hi, List.all_append, hx2]; simp [hyes]⟩) (by omega))
      repeat (first | exact Sub.nil | refine Sub.cons rfl ?_)
  · clear ih
    have hi : i = l.length := by omega
    subst hi
    rw [List.take_length] at hx2
    refine S.exit rfl ?_
    refine S.seq (S.region rfl ?_)
    refine O.op (.p rfl) (.as rfl) ?_
    refine O.nil ?_
    refine S.ret Go.Proofs.Tryz.results99 rfl fun w hw => Holds.end_ hR hw ?_
    exact ⟨_, ⟨_, rfl, by rw [hx2]; simp, rfl⟩, by repeat (first | exact Picks.all | exact Picks.nil | (apply Picks.cons; focus (repeat (first | exact Sel.here | apply Sel.there))) | apply Picks.skip)⟩
theorem contf_c {r : Fr} {va : Value} {l : List (List UInt8)} (ha : Arr Rp.str r va l) : Con Go.Proofs.Tryz.prog 56 #[va, .func (.func 57) #[] #[]] r [] (Ret fun v η => v = .bool (!l.all nameOk) ∧ η = []) := by
  refine Con.of (n := 9) [va, .func (.func 57) #[] #[]] rfl Go.Proofs.Tryz.func56 rfl rfl rfl fun g hg R hR => ?_
  have ha := ha.mono hg
  refine S.seq (S.region rfl ?_)
  refine O.op (.p rfl) (.as rfl) ?_
  refine O.nil ?_
  refine S.seq (S.region rfl ?_)
  refine O.op (.p rfl) (.mv rfl) ?_
  refine O.op (.p rfl) (.mv rfl) ?_
  refine O.call0 (.p rfl) rfl FactDisk4.ok99 rfl rfl ((idxf_c ha)) ?_
  rintro v7 _ ⟨z, rfl, hz, rfl⟩
  try simp only [List.cons_append, List.nil_append, List.append_nil]
  refine O.op (.p rfl) (.geq rfl rfl) ?_
  refine O.op (.p rfl) (.as rfl) ?_
  refine O.nil ?_
  refine S.ret Go.Proofs.Tryz.results56 rfl fun w hw => Holds.end_ hR hw ?_
  exact ⟨_, ⟨congrArg Value.bool (by by_cases h : 0 ≤ z; · rw [decide_eq_true h, hz.1 h]; rfl
                                     · rw [decide_eq_false h]; cases hq : l.all nameOk with
                                       | true => rfl
                                       | false => exact absurd (hz.2 hq) h), rfl⟩, by repeat (first | exact Picks.all | exact Picks.nil | (apply Picks.cons; focus (repeat (first | exact Sel.here | apply Sel.there))) | apply Picks.skip)⟩
theorem named_c {r : Fr} {va : Value} {l : List (List UInt8)} (ha : Arr Rp.str r va l) : Con Go.Proofs.Tryz.prog 31 #[va] r [] (Ret fun v η => v = .bool (l.all nameOk) ∧ η = []) := by
  refine Con.of (n := 6) [va] rfl Go.Proofs.Tryz.func31 rfl rfl rfl fun g hg R hR => ?_
  have ha := ha.mono hg
  refine S.seq (S.region rfl ?_)
  refine O.op (.p rfl) (.as rfl) ?_
  refine O.nil ?_
  refine S.seq (S.region rfl ?_)
  refine O.op (.p rfl) (.mv rfl) ?_
  refine O.call0 (.p rfl) rfl FactDisk4.ok56 rfl rfl ((contf_c ha)) ?_
  rintro v4 _ ⟨rfl, rfl⟩
  try simp only [List.cons_append, List.nil_append, List.append_nil]
  refine O.op (.p rfl) ((by first | exact .notD rfl | exact .not rfl)) ?_
  refine O.op (.p rfl) (.as rfl) ?_
  refine O.nil ?_
  refine S.ret Go.Proofs.Tryz.results31 rfl fun w hw => Holds.end_ hR hw ?_
  exact ⟨_, ⟨by simp, rfl⟩, by repeat (first | exact Picks.all | exact Picks.nil | (apply Picks.cons; focus (repeat (first | exact Sel.here | apply Sel.there))) | apply Picks.skip)⟩

end Go.Proofs.YtkkcpckgnfcncaaGreatDoor
