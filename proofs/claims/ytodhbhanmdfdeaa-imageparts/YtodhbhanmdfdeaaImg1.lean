import Derived.Test.YtodhbhanmdfdeaaSib4
import Derived.Test.YtodhbhanmdfdeaaEvid2
import Derived.Test.YtodhbhanmdfdeaaSpImg
open Go Go.Sp
set_option maxRecDepth 100000
attribute [local irreducible] obj Own OwnP
namespace Go.Proofs.Ytodhbhanmdfdeaa
theorem FactImg1.elem5 : elemIs Go.Proofs.Try.prog 5 1 1 [.int .u8 0] := elemIs.mk (by kernel_rfl) rfl
theorem FactImg1.flat32 : Go.Sp.flat1 Go.Proofs.Try.prog 32 = true := by kernel_rfl
theorem FactImg1.flat9 : Go.Sp.flat1 Go.Proofs.Try.prog 9 = true := by kernel_rfl
theorem FactImg1.fld53x0 : fieldOff Go.Proofs.Try.prog 53 0 = some 0 := by kernel_rfl
theorem FactImg1.ok27 : callable Go.Proofs.Try.prog 27 = true := by kernel_rfl
theorem FactImg1.ok44 : callable Go.Proofs.Try.prog 44 = true := by kernel_rfl
theorem FactImg1.size32 : (Go.Proofs.Try.prog.info? 32).map (·.size) = some 1 := by kernel_rfl
theorem FactImg1.size9 : (Go.Proofs.Try.prog.info? 9).map (·.size) = some 1 := by kernel_rfl

theorem imust_c {r : Fr} (b : Bool) : Con Go.Proofs.Try.prog 27 #[.bool b] r [] (RetP (fun v η => b = true ∧ v = .tuple #[] ∧ η = []) (fun ch η => b = false ∧ ch = errP 33 4 ∧ η = [])) := by
  refine Con.of (n := 5) [.bool b] rfl Go.Proofs.Try.func27 rfl rfl rfl fun g hg R hR => ?_
  refine S.seq (S.region rfl ?_)
  refine O.op (.p rfl) (.mv rfl) ?_
  refine O.op (.p rfl) ((by first | exact .notD rfl | exact .not rfl)) ?_
  refine O.nil ?_
  first | refine S.condD rfl (fun h3 => ?_) (fun h3 => ?_) | refine S.condB rfl (fun h3 => ?_) (fun h3 => ?_)
  · refine S.region rfl ?_
    refine O.op (.p rfl) (.mkIface Go.Proofs.Try.underlying33 rfl) ?_
    refine O.panic rfl rfl (fun w hw => ?_)
    exact hR _ [] w ⟨by simpa using h3, rfl, rfl⟩ hw
  · refine S.skip ?_
    refine S.end0 Go.Proofs.Try.results27 fun w hw => hR _ _ w ?_ hw
    exact ⟨by simpa using h3, rfl, rfl⟩
theorem told_c {r : Fr} {a : Option Addr} {n c : Nat} {z : Int} : Con Go.Proofs.Try.prog 29 #[.slice a n c, .int .i64 z] r [] (RetP (fun v η => z = 0 ∧ v = .slice a n c ∧ η = []) (fun ch η => z ≠ 0 ∧ ch = errP 33 4 ∧ η = [])) := by
  refine Con.of (n := 9) [.slice a n c, .int .i64 z] rfl Go.Proofs.Try.func29 rfl rfl rfl fun g hg R hR => ?_
  refine S.seq (S.region rfl ?_)
  refine O.op (.p rfl) (.as rfl) ?_
  refine O.nil ?_
  refine S.seq (S.region rfl ?_)
  refine O.op (.p rfl) (.mv rfl) ?_
  refine O.op (.p rfl) (.eql rfl rfl) ?_
  refine O.callP0 (.p rfl) rfl FactImg1.ok27 rfl rfl (imust_c _) (fun ch η' w hX hW => by (obtain ⟨hb, rfl, rfl⟩ := hX; exact hR _ _ w ⟨of_decide_eq_false hb, rfl, rfl⟩ hW.drop_all)) ?_
  rintro v7 _ ⟨hb7, rfl, rfl⟩
  try simp only [List.cons_append, List.nil_append, List.append_nil]
  refine O.nil ?_
  refine S.seq (S.region rfl ?_)
  refine O.op (.p rfl) (.mv rfl) ?_
  refine O.op (.p rfl) (.as rfl) ?_
  refine O.nil ?_
  refine S.ret Go.Proofs.Try.results29 rfl fun w hw => Holds.end_ hR hw ?_
  exact ⟨_, ⟨of_decide_eq_true hb7, rfl, rfl⟩, by repeat (first | exact Picks.all | exact Picks.nil | (apply Picks.cons; focus (repeat (first | exact Sel.here | apply Sel.there))) | apply Picks.skip)⟩
theorem bput_c {r : Fr} {b T : Nat} {va : Value} {a : Option Addr} {c n : Nat} {cs : List Value} {out : List UInt8} {xss : List (List UInt8)} (ha : Arr (Rp.slice Rp.u8) r va xss) (hl : out.length + xss.flatten.length ≤ 140737488355328) (hn : n = out.length) :
    Con Go.Proofs.Try.prog 25 #[.pointer (some ⟨b, 0, none⟩), va] r [obj b T (.slice a n c :: cs), OwnP Rp.u8 5 (.slice a n c) out]
      (Ret fun v η => ∃ a' c', v = .tuple #[] ∧ η = [obj b T (.slice a' (out ++ xss.flatten).length c' :: cs), OwnP Rp.u8 5 (.slice a' (out ++ xss.flatten).length c') (out ++ xss.flatten)]) := by
  subst hn
  refine Con.of (n := 22) [.pointer (some ⟨b, 0, none⟩), va] rfl Go.Proofs.Try.func25 rfl rfl rfl fun g hg R hR => ?_
  have ha := ha.mono hg
  have hbd := ha.bound
  obtain ⟨a1, c1, rfl⟩ := ha.shape
  refine S.seq (S.region rfl ?_)
  refine O.op (.p rfl) (.mv rfl) ?_
  refine O.op (.p rfl) (.len rfl Go.Proofs.Try.underlying79 rfl) ?_
  refine O.op (.p rfl) (.mv rfl) ?_
  refine O.nil ?_
  refine S.block ?_
  refine S.conv (B := OwnP Rp.u8 5 (.slice a out.length c) out) (C := OwnP Rp.u8 5 (.slice a (out ++ (xss.take 0).flatten).length c) (out ++ (xss.take 0).flatten)) (by repeat (first | exact Sel.here | apply Sel.there)) (fun m x => ⟨m, Fr.sub_refl _, by simpa using x⟩) ?_
  refine S.objIs (b := b) (cs' := .slice a (out ++ (xss.take 0).flatten).length c :: cs) (by repeat (first | exact Sel.here | apply Sel.there)) (by simp) ?_
  refine S.loopK2 (ι := Nat) (κ := Option Addr × Nat) (fun i p => i ≤ xss.length) (fun i p => [(8, .int .i64 (i : Int))]) [(0, _), (6, _), (7, _)] (fun i p => [obj b T (.slice p.1 (out ++ (xss.take i).flatten).length p.2 :: cs), OwnP Rp.u8 5 (.slice p.1 (out ++ (xss.take i).flatten).length p.2) (out ++ (xss.take i).flatten)]) (fun i p => xss.length - i) (0) ((a, c)) (by simp) (.cons rfl (.nil)) (.cons rfl (.cons rfl (.cons rfl (.nil)))) rfl fun i p hx ih => ?_
  have hm1 := meltRefl (g := g)
  refine S.seq (S.region rfl ?_)
  refine O.op (.p rfl) (.lss rfl rfl) ?_
  refine O.nil ?_
  refine S.seq ?_
  first | refine S.condD rfl (fun h9 => ?_) (fun h9 => ?_) | refine S.condB rfl (fun h9 => ?_) (fun h9 => ?_)
  · have hi : i < xss.length := by omega
    have h1 := flat_len xss i hi
    have h2 := flat_le xss (i + 1)
    have h3 : (xss.take (i + 1)).flatten.length = (xss.take i).flatten.length + xss[i].length := by rw [h1, List.length_append]
    have h4 : (out ++ (xss.take i).flatten).length = out.length + (xss.take i).flatten.length := List.length_append
    have htk : out ++ (xss.take i).flatten ++ xss[i] = out ++ (xss.take (i + 1)).flatten := by rw [h1, List.append_assoc]
    generalize hso : out ++ (xss.take i).flatten = so at htk h4 ⊢
    refine S.skip (S.seq (S.block (S.seq (S.region rfl ?_))))
    refine O.idx' (.p rfl) Go.Proofs.Try.underlying79 FactImg1.size32 rfl rfl rfl (by first | assumption | exact Arr.mono hg (by assumption) | exact Arr.left (by assumption) | exact Arr.left (Arr.mono hg (by assumption))) (by decide) (by first | omega | (simp; done) | (simp; omega) | decide) (fun p10 cs10 hp10 hr10 => ?_)
    obtain ⟨v10, rfl, ha10⟩ := hr10
    obtain ⟨a10, c10, rfl⟩ := ha10.shape
    refine O.op (.p rfl) (.loadAt FactImg1.flat32 rfl hp10 rfl) ?_
    refine O.op (.p rfl) (.as rfl) ?_
    refine O.nil ?_
    refine S.region rfl ?_
    refine O.op (.p rfl) (.mv rfl) ?_
    refine O.op (.p rfl) (.mv rfl) ?_
    refine O.op (.p rfl) (.nilCheck rfl) ?_
    refine O.op (.p rfl) (.fieldObj FactImg1.fld53x0 rfl) ?_
    refine O.op (.p rfl) (.loadObj FactImg1.flat32 rfl (by repeat (first | exact Sel.here | apply Sel.there)) rfl) ?_
    refine O.op (.p rfl) (.mv rfl) ?_
    refine O.opE (.p rfl) (.appendP (T := Rp.u8) pure_u8 Go.Proofs.Try.underlying32 FactImg1.elem5 (by decide) rfl rfl (by repeat (first | exact Sel.here | apply Sel.there)) (by first | assumption | exact Arr.mono hg (by assumption) | exact Arr.left (by assumption) | exact Arr.left (Arr.mono hg (by assumption))) (by first | omega | (simp; done) | (simp; omega) | decide) (by first | omega | (simp; done) | (simp; omega) | decide)) ?_
    rintro _ _ ⟨a18, c18, rfl, rfl⟩
    refine O.op (.p rfl) (.nilCheck rfl) ?_
    refine O.op (.p rfl) (.fieldObj FactImg1.fld53x0 rfl) ?_
    refine O.opU rfl (.store1 FactImg1.flat32 rfl rfl (by first | rfl | assumption) (by repeat (first | exact Sel.here | apply Sel.there)) (by first | (simp; done) | (simp [Value.cells]; done))) ?_
    refine O.nil ?_
    refine S.inBlock (S.region rfl ?_)
    refine O.op (.p rfl) (.add rfl rfl (IntWalk.i64_in _ (by omega))) ?_
    refine O.op (.p rfl) (.mv rfl) ?_
    refine O.nil ?_
    rw [htk]
    refine S.objIs (b := b) (cs' := .slice a18 (out ++ (xss.take (i + 1)).flatten).length c18 :: cs) (by repeat (first | exact Sel.here | apply Sel.there)) (by rw [← htk, List.length_append]; rfl) ?_
    rw [← List.length_append, htk]
    refine S.pk ?_ (S.weaken ?_ (ih (i + 1) ((a18, c18)) (by omega) (by omega)))
    · repeat (first | exact Picks.all | exact Picks.nil | (apply Picks.cons; focus (repeat (first | exact Sel.here | apply Sel.there))) | apply Picks.skip)
    repeat (first | exact Sub.nil | refine Sub.cons rfl ?_)
  · clear ih
    have hi : i = xss.length := by omega
    subst hi
    rw [List.take_length]
    refine S.exit rfl ?_
    refine S.end0 Go.Proofs.Try.results25 fun w hw => Holds.end_ hR hw ?_
    exact ⟨_, ⟨p.1, p.2, rfl, rfl⟩, by repeat (first | exact Picks.all | exact Picks.nil | (apply Picks.cons; focus (repeat (first | exact Sel.here | apply Sel.there))) | apply Picks.skip)⟩
theorem indexS_c {r : Fr} {va : Value} {l : List (List UInt8)} (x : List UInt8) (ha : Arr Rp.str r va l) :
    Con Go.Proofs.Try.prog 44 #[va, .string (str x)] r [] (Ret fun v η => ∃ k : Int, v = .int .i64 k ∧ (0 ≤ k ↔ x ∈ l) ∧ η = []) := by
  refine Con.of (n := 19) [va, .string (str x)] rfl Go.Proofs.Try.func44 rfl rfl rfl fun g hg R hR => ?_
  have ha := ha.mono hg
  have hbd := ha.bound
  obtain ⟨a1, c1, rfl⟩ := ha.shape
  refine S.seq (S.region rfl ?_)
  refine O.op (.p rfl) (.as rfl) ?_
  refine O.nil ?_
  refine S.seq (S.seq (S.region rfl ?_))
  refine O.op (.p rfl) (.mv rfl) ?_
  refine O.op (.p rfl) (.len rfl Go.Proofs.Try.underlying54 rfl) ?_
  refine O.op (.p rfl) (.mv rfl) ?_
  refine O.nil ?_
  refine S.block ?_
  refine S.loopK (ι := Nat) (fun i => i ≤ l.length ∧ x ∉ l.take i) (fun i => [(8, .int .i64 (i : Int))]) [(0, _), (1, _), (7, _)] (fun i => []) (fun i => l.length - i) (0) (by exact ⟨by simp, by simp⟩) (.cons rfl (.nil)) (.cons rfl (.cons rfl (.cons rfl (.nil)))) rfl fun i hx ih => ?_
  have hm1 := meltRefl (g := g)
  obtain ⟨hx1, hx2⟩ := hx
  refine S.seq (S.region rfl ?_)
  refine O.op (.p rfl) (.lss rfl rfl) ?_
  refine O.nil ?_
  refine S.seq ?_
  first | refine S.condD rfl (fun h9 => ?_) (fun h9 => ?_) | refine S.condB rfl (fun h9 => ?_) (fun h9 => ?_)
  · have hi : i < l.length := by omega
    by_cases e : x = l[i]
    ·
      clear ih
      refine S.skip (S.seq (S.block (S.seq (S.region rfl ?_))))
      refine O.op (.p rfl) (.mv rfl) ?_
      refine O.op (.p rfl) (.as rfl) ?_
      refine O.nil ?_
      refine S.seq (S.region rfl ?_)
      refine O.op (.p rfl) (.mv rfl) ?_
      refine O.op (.p rfl) (.mv rfl) ?_
      refine O.op (.p rfl) (.mv rfl) ?_
      refine O.idx' (.p rfl) Go.Proofs.Try.underlying54 FactImg1.size9 rfl rfl rfl (by first | assumption | exact Arr.mono hg (by assumption) | exact Arr.left (by assumption) | exact Arr.left (Arr.mono hg (by assumption))) (by decide) (by first | omega | (simp; done) | (simp; omega) | decide) (fun p14 cs14 hp14 hr14 => ?_)
      obtain ⟨rfl, hz14⟩ := hr14
      refine O.op (.p rfl) (.loadAt FactImg1.flat9 rfl hp14 rfl) ?_
      refine O.op (.p rfl) (.eqlS rfl rfl) ?_
      refine O.slot 16 (v' := .bool true) rfl (congrArg Value.bool (by simp [e])) ?_
      refine O.nil ?_
      refine S.condT rfl ?_
      refine S.seq (S.region rfl ?_)
      refine O.op (.p rfl) (.mv rfl) ?_
      refine O.op (.p rfl) (.as rfl) ?_
      refine O.nil ?_
      refine S.ret Go.Proofs.Try.results44 rfl fun w hw => Holds.end_ hR hw ?_
      exact ⟨_, ⟨(i : Int), rfl, ⟨fun _ => e ▸ List.getElem_mem hi, fun _ => by omega⟩, rfl⟩, by repeat (first | exact Picks.all | exact Picks.nil | (apply Picks.cons; focus (repeat (first | exact Sel.here | apply Sel.there))) | apply Picks.skip)⟩
    ·
      refine S.skip (S.seq (S.block (S.seq (S.region rfl ?_))))
      refine O.op (.p rfl) (.mv rfl) ?_
      refine O.op (.p rfl) (.as rfl) ?_
      refine O.nil ?_
      refine S.seq (S.region rfl ?_)
      refine O.op (.p rfl) (.mv rfl) ?_
      refine O.op (.p rfl) (.mv rfl) ?_
      refine O.op (.p rfl) (.mv rfl) ?_
      refine O.idx' (.p rfl) Go.Proofs.Try.underlying54 FactImg1.size9 rfl rfl rfl (by first | assumption | exact Arr.mono hg (by assumption) | exact Arr.left (by assumption) | exact Arr.left (Arr.mono hg (by assumption))) (by decide) (by first | omega | (simp; done) | (simp; omega) | decide) (fun p14 cs14 hp14 hr14 => ?_)
      obtain ⟨rfl, hz14⟩ := hr14
      refine O.op (.p rfl) (.loadAt FactImg1.flat9 rfl hp14 rfl) ?_
      refine O.op (.p rfl) (.eqlS rfl rfl) ?_
      refine O.slot 16 (v' := .bool false) rfl (congrArg Value.bool (by simp [e])) ?_
      refine O.nil ?_
      refine S.condF rfl ?_
      refine S.skip (S.inBlock (S.region rfl ?_))
      refine O.op (.p rfl) (.add rfl rfl (IntWalk.i64_in _ (by omega))) ?_
      refine O.op (.p rfl) (.mv rfl) ?_
      refine O.nil ?_
      refine S.weaken ?_ (ih (i + 1) (by exact ⟨by omega, by rw [List.take_succ_eq_append_getElem hi, List.mem_append, List.mem_singleton]; exact fun q => q.elim hx2 e⟩) (by omega))
      repeat (first | exact Sub.nil | refine Sub.cons rfl ?_)
  · clear ih
    have hi : i = l.length := by omega
    subst hi
    rw [List.take_length] at hx2
    refine S.exit rfl ?_
    refine S.seq (S.region rfl ?_)
    refine O.op (.p rfl) (.as rfl) ?_
    refine O.nil ?_
    refine S.ret Go.Proofs.Try.results44 rfl fun w hw => Holds.end_ hR hw ?_
    exact ⟨_, ⟨-1, rfl, ⟨fun h => absurd h (by decide), fun h => absurd h hx2⟩, rfl⟩, by repeat (first | exact Picks.all | exact Picks.nil | (apply Picks.cons; focus (repeat (first | exact Sel.here | apply Sel.there))) | apply Picks.skip)⟩
theorem containsS_c {r : Fr} {va : Value} {l : List (List UInt8)} (x : List UInt8) (ha : Arr Rp.str r va l) :
    Con Go.Proofs.Try.prog 33 #[va, .string (str x)] r [] (Ret fun v η => v = .bool (decide (x ∈ l)) ∧ η = []) := by
  refine Con.of (n := 9) [va, .string (str x)] rfl Go.Proofs.Try.func33 rfl rfl rfl fun g hg R hR => ?_
  have ha := ha.mono hg
  obtain ⟨a1, c1, rfl⟩ := ha.shape
  refine S.seq (S.region rfl ?_)
  refine O.op (.p rfl) (.as rfl) ?_
  refine O.nil ?_
  refine S.seq (S.region rfl ?_)
  refine O.op (.p rfl) (.mv rfl) ?_
  refine O.op (.p rfl) (.mv rfl) ?_
  refine O.call0 (.p rfl) rfl FactImg1.ok44 rfl rfl ((indexS_c x ha)) ?_
  rintro v7 _ ⟨k7, rfl, hk7, rfl⟩
  try simp only [List.cons_append, List.nil_append, List.append_nil]
  refine O.op (.p rfl) (.geq rfl rfl) ?_
  refine O.op (.p rfl) (.as rfl) ?_
  refine O.nil ?_
  refine S.ret Go.Proofs.Try.results33 rfl fun w hw => Holds.end_ hR hw ?_
  exact ⟨_, ⟨congrArg _ (decide_eq_decide.2 hk7), rfl⟩, by repeat (first | exact Picks.all | exact Picks.nil | (apply Picks.cons; focus (repeat (first | exact Sel.here | apply Sel.there))) | apply Picks.skip)⟩

end Go.Proofs.Ytodhbhanmdfdeaa
