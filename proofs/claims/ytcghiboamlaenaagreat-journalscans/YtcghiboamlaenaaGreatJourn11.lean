import Derived.Test.YtcghiboamlaenaaGreatKit11
open Go Go.Sp
set_option maxRecDepth 100000
attribute [local irreducible] obj Own OwnP
namespace Go.Proofs.YtcghiboamlaenaaGreat
theorem FactJourn11.elem37 : elemIs Go.Proofs.Tryz.prog 37 1 24 [.slice none 0 0] := elemIs.mk (by kernel_rfl) rfl
theorem FactJourn11.ok12 : callable Go.Proofs.Tryz.prog 12 = true := by kernel_rfl
theorem FactJourn11.ok13 : callable Go.Proofs.Tryz.prog 13 = true := by kernel_rfl
theorem FactJourn11.ok14 : callable Go.Proofs.Tryz.prog 14 = true := by kernel_rfl
theorem FactJourn11.ok15 : callable Go.Proofs.Tryz.prog 15 = true := by kernel_rfl
theorem FactJourn11.ok16 : callable Go.Proofs.Tryz.prog 16 = true := by kernel_rfl
theorem FactJourn11.ok5 : callable Go.Proofs.Tryz.prog 5 = true := by kernel_rfl

theorem lent_arr {e : TypeId} {a : Option Addr} {c n : Nat} {xs : List UInt8} {h : Fr} (x : LentP e (.slice a n c) xs h) : Arr Rp.u8 h (.slice a (xs.length + 12) c) (xs ++ marks1 12) := by
  obtain ⟨a', c', _, h2, h3⟩ := x
  cases h2
  exact h3.arr
theorem scanM_sizes : ∀ (n : Nat) (bs : List UInt8), bs.length = n → ∀ x ∈ (scanM bs).1, 17 + x.2.1.length ≤ bs.length := by
  intro n
  induction n using Nat.strongRecOn with
  | _ n ih =>
    intro bs hn x hx
    rcases h : scanOne bs with s | ⟨k, xs⟩
    · rw [scanM_err h] at hx; cases hx
    · have hl := scanOne_len h
      have hp := putBytes_length k xs
      have hd : (bs.drop (putBytes k xs).length).length = n - (putBytes k xs).length := by simp [hn]
      rw [scanM_ok h] at hx
      rcases List.mem_cons.1 hx with rfl | hx
      · simp only; omega
      · have := ih (n - (putBytes k xs).length) (by omega) _ hd x hx
        omega
theorem scanM_small {bs : List UInt8} (h : bs.length ≤ 100000000) : ∀ es ∈ [(scanM bs).1, (scanM bs).1], ∀ x ∈ es, x.2.1.length ≤ 100000000 := fun es he x hx => by
  have h1 : es = (scanM bs).1 := by simpa using he
  subst h1
  have := scanM_sizes _ bs rfl x hx
  omega
theorem jscans_c {r : Fr} {va : Value} {bs : List UInt8} (ha : Arr Rp.u8 r va bs) :
    Con Go.Proofs.Tryz.prog 4 #[va] r [] (Ret fun v η => v = .bool true ∧ η = []) := by
  refine Con.of (n := 49) [va] rfl Go.Proofs.Tryz.func4 rfl rfl rfl fun g hg R hR => ?_
  have ha := ha.mono hg
  obtain ⟨a1, c1, rfl⟩ := ha.shape
  refine S.seq (S.region rfl ?_)
  refine O.op (.p rfl) (.as rfl) ?_
  refine O.nil ?_
  refine S.seq (S.seq (S.region rfl ?_))
  refine O.op (.p rfl) (.mv rfl) ?_
  refine O.op (.p rfl) (.len rfl Go.Proofs.Tryz.underlying23 rfl) ?_
  refine O.op (.p rfl) (.gtr rfl rfl) ?_
  refine O.nil ?_
  first | refine S.condD rfl (fun h12 => ?_) (fun h12 => ?_) | refine S.condB rfl (fun h12 => ?_) (fun h12 => ?_)
  · refine S.seq (S.region rfl ?_)
    refine O.call0 (.p rfl) rfl FactJourn11.ok5 rfl rfl (awake_c) ?_
    rintro v13 _ ⟨rfl, rfl⟩
    try simp only [List.cons_append, List.nil_append, List.append_nil]
    refine O.op (.p rfl) (.as rfl) ?_
    refine O.nil ?_
    refine S.ret Go.Proofs.Tryz.results4 rfl fun w hw => Holds.end_ hR hw ?_
    exact ⟨_, ⟨rfl, rfl⟩, by repeat (first | exact Picks.all | exact Picks.nil | (apply Picks.cons; focus (repeat (first | exact Sel.here | apply Sel.there))) | apply Picks.skip)⟩
  · have hl : bs.length ≤ 24000 := by omega
    have hsl := (scanM_len bs).1
    refine S.skip (S.seq (S.region rfl ?_))
    refine O.op (.p rfl) (.mv rfl) ?_
    refine O.call0 (.p rfl) rfl FactJourn11.ok12 rfl rfl (LentBytes_c (by first | assumption | exact Arr.mono hg (by assumption) | exact Arr.left (by assumption) | exact Arr.left (Arr.mono hg (by assumption))) (by first | omega | (simp; done) | (simp; omega) | decide)) ?_
    rintro v15 _ ⟨a15, c15, rfl, rfl⟩
    try simp only [List.cons_append, List.nil_append, List.append_nil]
    refine O.op (.p rfl) (.as rfl) ?_
    refine O.nil ?_
    refine S.seq (S.region rfl ?_)
    refine O.op (.p rfl) (.mv rfl) ?_
    refine O.callB (.p rfl) rfl FactJourn11.ok13 rfl rfl (bs := [LentP 5 (.slice a15 bs.length c15) bs]) (by repeat (first | exact Sels.nil | (apply Sels.cons; focus (repeat (first | exact Sel.here | apply Sel.there))))) (fun m hm hd => scan_c ((Sat.w1 (B := fun m => Arr Rp.u8 m (.slice a15 bs.length c15) bs) Arr.mono (fun _ x => x.lentA.arr) hm).right hd) (by omega)) ?_
    rintro v18 _ ⟨a18, c18, rfl, rfl⟩
    try simp only [List.cons_append, List.nil_append, List.append_nil]
    refine O.op (.p rfl) (.mv rfl) ?_
    refine O.op (.p rfl) (.extract rfl rfl) ?_
    refine O.op (.p rfl) (.extract rfl rfl) ?_
    refine O.op (.p rfl) (.extract rfl rfl) ?_
    refine O.op (.p rfl) (.as rfl) ?_
    refine O.op (.p rfl) (.as rfl) ?_
    refine O.op (.p rfl) (.as rfl) ?_
    refine O.nil ?_
    refine S.seq (S.region rfl ?_)
    refine O.op (.p rfl) (.mv rfl) ?_
    refine O.callB (.p rfl) rfl FactJourn11.ok13 rfl rfl (bs := [LentP 5 (.slice a15 bs.length c15) bs]) (by repeat (first | exact Sels.nil | (apply Sels.cons; focus (repeat (first | exact Sel.here | apply Sel.there))))) (fun m hm hd => scan_c ((Sat.w1 (B := fun m => Arr Rp.u8 m (.slice a15 bs.length c15) bs) Arr.mono (fun _ x => x.lentA.arr) hm).right hd) (by omega)) ?_
    rintro v24 _ ⟨a24, c24, rfl, rfl⟩
    try simp only [List.cons_append, List.nil_append, List.append_nil]
    refine O.op (.p rfl) (.mv rfl) ?_
    refine O.op (.p rfl) (.extract rfl rfl) ?_
    refine O.op (.p rfl) (.extract rfl rfl) ?_
    refine O.op (.p rfl) (.extract rfl rfl) ?_
    refine O.op (.p rfl) (.as rfl) ?_
    refine O.op (.p rfl) (.as rfl) ?_
    refine O.op (.p rfl) (.as rfl) ?_
    refine O.nil ?_
    refine S.seq (S.region rfl ?_)
    refine O.op (.p rfl) (.mv rfl) ?_
    refine O.call0 (.p rfl) rfl FactJourn11.ok14 rfl rfl (scans_c (by first | assumption | exact Arr.mono hg (by assumption) | exact Arr.left (by assumption) | exact Arr.left (Arr.mono hg (by assumption))) (by first | omega | (simp; done) | (simp; omega) | decide)) ?_
    rintro v29 _ ⟨rfl, rfl⟩
    try simp only [List.cons_append, List.nil_append, List.append_nil]
    refine O.op (.p rfl) (.mv rfl) ?_
    refine O.op (.g rfl rfl) (.mv rfl) ?_
    refine O.op (.g rfl rfl) (.mv rfl) ?_
    refine O.callB (.g rfl rfl) rfl FactJourn11.ok15 rfl rfl (bs := [LentP 5 (.slice a15 bs.length c15) bs]) (by repeat (first | exact Sels.nil | (apply Sels.cons; focus (repeat (first | exact Sel.here | apply Sel.there))))) (fun m hm hd => KeptBytes_c ((Sat.w1 (B := fun m => Arr Rp.u8 m (.slice a15 (bs.length + 12) c15) (bs ++ marks1 12)) Arr.mono (fun _ x => lent_arr x) hm).right hd) ha.left (by omega)) ?_
    rintro v33 _ ⟨rfl, rfl⟩
    try simp only [List.cons_append, List.nil_append, List.append_nil]
    refine O.slot 33 (v' := .bool true) rfl (congrArg Value.bool (by simp)) ?_
    refine O.op (.p rfl) (.pickT rfl rfl) ?_
    refine O.op (.p rfl) (.mv rfl) ?_
    refine O.op (.g rfl rfl) (.mv rfl) ?_
    refine O.op (.g rfl rfl) (.mv rfl) ?_
    refine O.opE (.g rfl rfl) (.litP (T := Rp.val) (ys := [_, _]) Go.Proofs.Tryz.underlying42 FactJourn11.elem37 (by decide) rfl rfl ⟨⟨rfl, rfl⟩, ⟨rfl, rfl⟩, trivial⟩ (by decide)) ?_
    rintro _ _ ⟨a38, c38, rfl, rfl⟩
    refine O.frzA (by repeat (first | exact Sel.here | apply Sel.there)) fun g hs hm ha38 => ?_
    replace hg := Fr.sub_trans hg hs
    replace hR := melted hR hm
    try replace ha := ha.mono hs
    clear hs hm
    refine O.each0 (ListP EntG 25) ?_
    refine O.each (A := ListP EntG 25) (b := .slice a18 (scanM bs).1.length c18) (a := (scanM bs).1) (by repeat (first | exact Sel.here | apply Sel.there)) (by repeat (first | exact Sel.here | apply Sel.there)) ?_
    refine O.each (A := ListP EntG 25) (b := .slice a24 (scanM bs).1.length c24) (a := (scanM bs).1) (by repeat (first | exact Sel.here | apply Sel.there)) (by repeat (first | exact Sel.here | apply Sel.there)) ?_
    simp only [List.nil_append, List.cons_append]
    refine O.callSs (.g rfl rfl) rfl FactJourn11.ok16 rfl rfl (by repeat (first | exact Sels.nil | (apply Sels.cons; focus (repeat (first | exact Sel.here | apply Sel.there))))) (apartEntries_c ha38 (scanM_small (by omega)) (by simp; omega) (by simp)) ?_
    rintro v39 _ ⟨rfl, rfl⟩
    try simp only [List.cons_append, List.nil_append, List.append_nil]
    refine O.op (.p rfl) (.pickT rfl rfl) ?_
    refine O.op (.p rfl) (.mv rfl) ?_
    refine O.op (.g rfl rfl) (.mv rfl) ?_
    refine O.op (.g rfl rfl) (.mv rfl) ?_
    refine O.callB (.g rfl rfl) rfl FactJourn11.ok15 rfl rfl (bs := [LentP 5 (.slice a15 bs.length c15) bs]) (by repeat (first | exact Sels.nil | (apply Sels.cons; focus (repeat (first | exact Sel.here | apply Sel.there))))) (fun m hm hd => KeptBytes_c ((Sat.w1 (B := fun m => Arr Rp.u8 m (.slice a15 (bs.length + 12) c15) (bs ++ marks1 12)) Arr.mono (fun _ x => lent_arr x) hm).right hd) ha.left (by omega)) ?_
    rintro v44 _ ⟨rfl, rfl⟩
    try simp only [List.cons_append, List.nil_append, List.append_nil]
    refine O.slot 44 (v' := .bool true) rfl (congrArg Value.bool (by simp)) ?_
    refine O.op (.p rfl) (.pickT rfl rfl) ?_
    refine O.op (.p rfl) (.mv rfl) ?_
    refine O.call0 (.g rfl rfl) rfl FactJourn11.ok5 rfl rfl (awake_c) ?_
    rintro v47 _ ⟨rfl, rfl⟩
    try simp only [List.cons_append, List.nil_append, List.append_nil]
    refine O.op (.p rfl) (.pickT rfl rfl) ?_
    refine O.op (.p rfl) (.as rfl) ?_
    refine O.nil ?_
    refine S.ret Go.Proofs.Tryz.results4 rfl fun w hw => Holds.end_ hR hw ?_
    exact ⟨_, ⟨rfl, rfl⟩, by repeat (first | exact Picks.all | exact Picks.nil | (apply Picks.cons; focus (repeat (first | exact Sel.here | apply Sel.there))) | apply Picks.skip)⟩

end Go.Proofs.YtcghiboamlaenaaGreat
