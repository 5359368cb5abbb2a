import Derived.Test.YtodhbhanmdfdeaaKit1
import Derived.Test.YtodhbhanmdfdeaaSpTry
open Go Go.Sp
set_option maxRecDepth 100000
attribute [local irreducible] obj Own OwnP
namespace Go.Proofs.Ytodhbhanmdfdeaa
theorem FactTry1.flat32 : Go.Sp.flat1 Go.Proofs.Try.prog 32 = true := by kernel_rfl
theorem FactTry1.flat33 : Go.Sp.flat1 Go.Proofs.Try.prog 33 = true := by kernel_rfl
theorem FactTry1.ok15 : callable Go.Proofs.Try.prog 15 = true := by kernel_rfl
theorem FactTry1.ok46 : callable Go.Proofs.Try.prog 46 = true := by kernel_rfl
theorem FactTry1.ok51 : callable Go.Proofs.Try.prog 51 = true := by kernel_rfl

theorem triedSB_ret {g : Gr} {be bx : Nat} {x : Value} {z : Int} {T1 T2 : TypeId} {w : World} {R : Ending → World → Prop} {η : List SProp} (hw : Holds w g (obj bx T1 [x] :: obj be T2 [.int .i64 z] :: η)) (hR : ∀ w, Holds w g (obj bx T1 [x] :: obj be T2 [.int .i64 z] :: η) → R (.returned (.tuple #[x, .int .i64 z])) w) :
    CallsD Go.Proofs.Try.prog 46 #[.pointer (some ⟨be, 0, none⟩), .pointer (some ⟨bx, 0, none⟩)] .returning w (DPost2 Go.Proofs.Try.prog g bx be 32 33 R) := by
  refine (callsD_rec (R := fun e w => (∃ v, e = .returned v) ∧ Holds w g (obj bx T1 [x] :: obj be T2 [.int .i64 z] :: η)) [.pointer (some ⟨be, 0, none⟩), .pointer (some ⟨bx, 0, none⟩)] rfl Go.Proofs.Try.func46 rfl rfl rfl rfl hw ?_).mono ?_
  rotate_left
  · rintro e u' w' ⟨rfl, ⟨v, rfl⟩, h⟩
    exact ⟨⟨v, rfl⟩, rfl, T1, T2, _, _, _, _, η, h, LoadsAs.flat FactTry1.flat32, LoadsAs.flat FactTry1.flat33, hR w' h⟩
  refine S.seq (S.region rfl ?_)
  refine O.op (.p rfl) (.mv rfl) ?_
  refine O.op (.p rfl) (.neqIN Go.Proofs.Try.underlying20 rfl) ?_
  refine O.nil ?_
  refine S.condF rfl ?_
  refine S.skip ?_
  refine S.end0 Go.Proofs.Try.results46 fun w hw => ?_
  exact ⟨⟨_, rfl⟩, hw⟩
theorem triedSB_pan {g : Gr} {be bx : Nat} {x : Value} {z z' : Int} {T1 T2 : TypeId} {w : World} {R : Ending → World → Prop} {η : List SProp} (hw : Holds w g (obj bx T1 [x] :: obj be T2 [.int .i64 z'] :: η))
    (hR : ∀ w, Holds w g (obj bx T1 [.slice none 0 0] :: obj be T2 [.int .i64 z] :: η) → R (.returned (.tuple #[.slice none 0 0, .int .i64 z])) w) :
    CallsD Go.Proofs.Try.prog 46 #[.pointer (some ⟨be, 0, none⟩), .pointer (some ⟨bx, 0, none⟩)] (.panicking (errP 33 z)) w (DPost2 Go.Proofs.Try.prog g bx be 32 33 R) := by
  refine (callsD_rec (R := fun e w => (∃ v, e = .returned v) ∧ Holds w g (obj bx T1 [.slice none 0 0] :: obj be T2 [.int .i64 z] :: η)) [.pointer (some ⟨be, 0, none⟩), .pointer (some ⟨bx, 0, none⟩)] rfl Go.Proofs.Try.func46 rfl rfl rfl rfl hw ?_).mono ?_
  rotate_left
  · rintro e u' w' ⟨rfl, ⟨v, rfl⟩, h⟩
    exact ⟨⟨v, rfl⟩, rfl, T1, T2, _, _, _, _, η, h, LoadsAs.flat FactTry1.flat32, LoadsAs.flat FactTry1.flat33, hR w' h⟩
  refine S.seq (S.region rfl ?_)
  refine O.op (.p rfl) (.mv rfl) ?_
  refine O.op (.p rfl) (.neqIV Go.Proofs.Try.underlying20 rfl) ?_
  refine O.nil ?_
  refine S.condT rfl ?_
  refine S.seq (S.region rfl ?_)
  refine O.op (.p rfl) (.as rfl) ?_
  refine O.nil ?_
  refine S.seq (S.seq (S.region rfl ?_))
  refine O.op (.p rfl) (.mv rfl) ?_
  refine O.op (.p rfl) (.assertYes Go.Proofs.Try.underlying33 rfl) ?_
  refine O.op (.p rfl) (.mv rfl) ?_
  refine O.op (.p rfl) (.extract rfl rfl) ?_
  refine O.op (.p rfl) (.extract rfl rfl) ?_
  refine O.opU rfl (.store1 FactTry1.flat33 rfl rfl (by first | rfl | assumption) (by repeat (first | exact Sel.here | apply Sel.there)) (by first | (simp; done) | (simp [Value.cells]; done))) ?_
  refine O.op (.p rfl) (.as rfl) ?_
  refine O.nil ?_
  refine S.seq (S.region rfl ?_)
  refine O.op (.p rfl) (.mv rfl) ?_
  refine O.op (.p rfl) (.not rfl) ?_
  refine O.nil ?_
  refine S.condF rfl ?_
  refine S.skip (S.seq (S.region rfl ?_))
  refine O.op (.p rfl) (.as rfl) ?_
  refine O.nil ?_
  refine S.region rfl ?_
  refine O.op (.p rfl) (.mv rfl) ?_
  refine O.opU rfl (.store1 FactTry1.flat32 rfl rfl (by first | rfl | assumption) (by repeat (first | exact Sel.here | apply Sel.there)) (by first | (simp; done) | (simp [Value.cells]; done))) ?_
  refine O.nil ?_
  refine S.end0 Go.Proofs.Try.results46 fun w hw => ?_
  exact ⟨⟨_, rfl⟩, hw.picks (by repeat (first | exact Picks.all | exact Picks.nil | (apply Picks.cons; focus (repeat (first | exact Sel.here | apply Sel.there))) | apply Picks.skip))⟩
theorem triedSB_c {r : Fr} {f : Nat} {first cap : Array Value} {K : Value → List SProp → Prop} {X : Int → Prop} (hc : callable Go.Proofs.Try.prog f = true) (hf1 : (Value.func (.func f) first cap).oneCell' = true) (hK1 : ∀ u ζ, K u ζ → u.oneCell' = true)
    (con : Con Go.Proofs.Try.prog f (first ++ #[] ++ cap) r [] (RetP K (fun ch η => ∃ z, ch = errP 33 z ∧ X z ∧ η = []))) :
    Con Go.Proofs.Try.prog 35 #[.func (.func f) first cap] r [] (Ret fun v η => (∃ u, K u η ∧ v = .tuple #[u, .int .i64 0]) ∨ (∃ z, X z ∧ η = [] ∧ v = .tuple #[.slice none 0 0, .int .i64 z])) := by
  refine Con.of (n := 7) [.func (.func f) first cap] rfl Go.Proofs.Try.func35 rfl rfl rfl fun g hg R hR => ?_
  refine S.seq (S.region rfl ?_)
  refine O.opE (.p rfl) (.alloc (cs := [.slice none 0 0]) Go.Proofs.Try.zeroValue32 rfl) ?_
  rintro _ _ ⟨b2, rfl, rfl⟩
  refine O.opE (.p rfl) (.alloc (cs := [.int .i64 0]) Go.Proofs.Try.zeroValue33 rfl) ?_
  rintro _ _ ⟨b3, rfl, rfl⟩
  refine O.nil ?_
  refine S.seq (S.region rfl ?_)
  refine O.op (.p rfl) (.mkFunc rfl rfl) ?_
  refine O.defer rfl rfl rfl rfl ?_
  refine O.nil ?_
  refine S.seq (S.region rfl ?_)
  refine O.op (.p rfl) (.mv rfl) ?_
  refine O.callP0D (.p rfl) rfl hc rfl rfl (con.sub hg) (fun a ch η' w hF hX hW => by (obtain ⟨z, rfl, hx, rfl⟩ := hX; exact leavesCell2 Go.Proofs.Try.results35 hF rfl rfl (by simp) FactTry1.ok46 (triedSB_pan (hW.picks (by repeat (first | exact Picks.all | exact Picks.nil | (apply Picks.cons; focus (repeat (first | exact Sel.here | apply Sel.there))) | apply Picks.skip))) fun w hw => Holds.end_ hR hw ⟨_, .inr ⟨z, hx, rfl, rfl⟩, by repeat (first | exact Picks.all | exact Picks.nil | (apply Picks.cons; focus (repeat (first | exact Sel.here | apply Sel.there))) | apply Picks.skip)⟩))) ?_
  rintro v6 _ hk6
  try simp only [List.cons_append, List.nil_append, List.append_nil]
  have hone := hK1 _ _ hk6
  refine O.perm (List.perm_append_comm) ?_
  simp only [List.cons_append, List.nil_append]
  refine O.opU rfl (.store1 FactTry1.flat32 rfl rfl (by first | rfl | assumption) (by repeat (first | exact Sel.here | apply Sel.there)) (by first | (simp; done) | (simp [Value.cells]; done))) ?_
  refine O.opU rfl (.store1 FactTry1.flat33 rfl rfl (by first | rfl | assumption) (by repeat (first | exact Sel.here | apply Sel.there)) (by first | (simp; done) | (simp [Value.cells]; done))) ?_
  refine O.nil ?_
  refine S.retL fun a w hf hd hw => ?_
  exact leavesCell2 Go.Proofs.Try.results35 hf rfl rfl (by simp) FactTry1.ok46 (triedSB_ret (hw.picks (by repeat (first | exact Picks.all | exact Picks.nil | (apply Picks.cons; focus (repeat (first | exact Sel.here | apply Sel.there))) | apply Picks.skip))) fun w hw => Holds.end_ hR hw ⟨_, .inl ⟨_, hk6, rfl⟩, by repeat (first | exact Picks.all | exact Picks.nil | (apply Picks.cons; focus (repeat (first | exact Sel.here | apply Sel.there))) | apply Picks.skip)⟩)

theorem triedRB_ret {g : Gr} {be bx : Nat} {x : Value} {z : Int} {T1 T2 : TypeId} {w : World} {R : Ending → World → Prop} {η : List SProp} (hw : Holds w g (obj bx T1 [x] :: obj be T2 [.int .i64 z] :: η)) (hR : ∀ w, Holds w g (obj bx T1 [x] :: obj be T2 [.int .i64 z] :: η) → R (.returned (.tuple #[x, .int .i64 z])) w) :
    CallsD Go.Proofs.Try.prog 51 #[.pointer (some ⟨be, 0, none⟩), .pointer (some ⟨bx, 0, none⟩)] .returning w (DPost2 Go.Proofs.Try.prog g bx be 32 33 R) := by
  refine (callsD_rec (R := fun e w => (∃ v, e = .returned v) ∧ Holds w g (obj bx T1 [x] :: obj be T2 [.int .i64 z] :: η)) [.pointer (some ⟨be, 0, none⟩), .pointer (some ⟨bx, 0, none⟩)] rfl Go.Proofs.Try.func51 rfl rfl rfl rfl hw ?_).mono ?_
  rotate_left
  · rintro e u' w' ⟨rfl, ⟨v, rfl⟩, h⟩
    exact ⟨⟨v, rfl⟩, rfl, T1, T2, _, _, _, _, η, h, LoadsAs.flat FactTry1.flat32, LoadsAs.flat FactTry1.flat33, hR w' h⟩
  refine S.seq (S.region rfl ?_)
  refine O.op (.p rfl) (.mv rfl) ?_
  refine O.op (.p rfl) (.neqIN Go.Proofs.Try.underlying20 rfl) ?_
  refine O.nil ?_
  refine S.condF rfl ?_
  refine S.skip ?_
  refine S.end0 Go.Proofs.Try.results51 fun w hw => ?_
  exact ⟨⟨_, rfl⟩, hw⟩
theorem triedRB_pan {g : Gr} {be bx : Nat} {x : Value} {z z' : Int} {T1 T2 : TypeId} {w : World} {R : Ending → World → Prop} {η : List SProp} (hw : Holds w g (obj bx T1 [x] :: obj be T2 [.int .i64 z'] :: η))
    (hR : ∀ w, Holds w g (obj bx T1 [.slice none 0 0] :: obj be T2 [.int .i64 z] :: η) → R (.returned (.tuple #[.slice none 0 0, .int .i64 z])) w) :
    CallsD Go.Proofs.Try.prog 51 #[.pointer (some ⟨be, 0, none⟩), .pointer (some ⟨bx, 0, none⟩)] (.panicking (errP 33 z)) w (DPost2 Go.Proofs.Try.prog g bx be 32 33 R) := by
  refine (callsD_rec (R := fun e w => (∃ v, e = .returned v) ∧ Holds w g (obj bx T1 [.slice none 0 0] :: obj be T2 [.int .i64 z] :: η)) [.pointer (some ⟨be, 0, none⟩), .pointer (some ⟨bx, 0, none⟩)] rfl Go.Proofs.Try.func51 rfl rfl rfl rfl hw ?_).mono ?_
  rotate_left
  · rintro e u' w' ⟨rfl, ⟨v, rfl⟩, h⟩
    exact ⟨⟨v, rfl⟩, rfl, T1, T2, _, _, _, _, η, h, LoadsAs.flat FactTry1.flat32, LoadsAs.flat FactTry1.flat33, hR w' h⟩
  refine S.seq (S.region rfl ?_)
  refine O.op (.p rfl) (.mv rfl) ?_
  refine O.op (.p rfl) (.neqIV Go.Proofs.Try.underlying20 rfl) ?_
  refine O.nil ?_
  refine S.condT rfl ?_
  refine S.seq (S.region rfl ?_)
  refine O.op (.p rfl) (.as rfl) ?_
  refine O.nil ?_
  refine S.seq (S.seq (S.region rfl ?_))
  refine O.op (.p rfl) (.mv rfl) ?_
  refine O.op (.p rfl) (.assertYes Go.Proofs.Try.underlying33 rfl) ?_
  refine O.op (.p rfl) (.mv rfl) ?_
  refine O.op (.p rfl) (.extract rfl rfl) ?_
  refine O.op (.p rfl) (.extract rfl rfl) ?_
  refine O.opU rfl (.store1 FactTry1.flat33 rfl rfl (by first | rfl | assumption) (by repeat (first | exact Sel.here | apply Sel.there)) (by first | (simp; done) | (simp [Value.cells]; done))) ?_
  refine O.op (.p rfl) (.as rfl) ?_
  refine O.nil ?_
  refine S.seq (S.region rfl ?_)
  refine O.op (.p rfl) (.mv rfl) ?_
  refine O.op (.p rfl) (.not rfl) ?_
  refine O.nil ?_
  refine S.condF rfl ?_
  refine S.skip (S.seq (S.region rfl ?_))
  refine O.op (.p rfl) (.as rfl) ?_
  refine O.nil ?_
  refine S.region rfl ?_
  refine O.op (.p rfl) (.mv rfl) ?_
  refine O.opU rfl (.store1 FactTry1.flat32 rfl rfl (by first | rfl | assumption) (by repeat (first | exact Sel.here | apply Sel.there)) (by first | (simp; done) | (simp [Value.cells]; done))) ?_
  refine O.nil ?_
  refine S.end0 Go.Proofs.Try.results51 fun w hw => ?_
  exact ⟨⟨_, rfl⟩, hw.picks (by repeat (first | exact Picks.all | exact Picks.nil | (apply Picks.cons; focus (repeat (first | exact Sel.here | apply Sel.there))) | apply Picks.skip))⟩
theorem triedRB_c {r : Fr} {f : Nat} {first cap : Array Value} {K : Value → List SProp → Prop} {X : Int → Prop} (hc : callable Go.Proofs.Try.prog f = true) (hf1 : (Value.func (.func f) first cap).oneCell' = true) (hK1 : ∀ u ζ, K u ζ → u.oneCell' = true)
    (con : Con Go.Proofs.Try.prog f (first ++ #[] ++ cap) r [] (RetP K (fun ch η => ∃ z, ch = errP 33 z ∧ X z ∧ η = []))) :
    Con Go.Proofs.Try.prog 38 #[.func (.func f) first cap] r [] (Ret fun v η => (∃ u, K u η ∧ v = .tuple #[u, .int .i64 0]) ∨ (∃ z, X z ∧ η = [] ∧ v = .tuple #[.slice none 0 0, .int .i64 z])) := by
  refine Con.of (n := 7) [.func (.func f) first cap] rfl Go.Proofs.Try.func38 rfl rfl rfl fun g hg R hR => ?_
  refine S.seq (S.region rfl ?_)
  refine O.opE (.p rfl) (.alloc (cs := [.slice none 0 0]) Go.Proofs.Try.zeroValue32 rfl) ?_
  rintro _ _ ⟨b2, rfl, rfl⟩
  refine O.opE (.p rfl) (.alloc (cs := [.int .i64 0]) Go.Proofs.Try.zeroValue33 rfl) ?_
  rintro _ _ ⟨b3, rfl, rfl⟩
  refine O.nil ?_
  refine S.seq (S.region rfl ?_)
  refine O.op (.p rfl) (.mkFunc rfl rfl) ?_
  refine O.defer rfl rfl rfl rfl ?_
  refine O.nil ?_
  refine S.seq (S.region rfl ?_)
  refine O.op (.p rfl) (.mv rfl) ?_
  refine O.callP0D (.p rfl) rfl hc rfl rfl (con.sub hg) (fun a ch η' w hF hX hW => by (obtain ⟨z, rfl, hx, rfl⟩ := hX; exact leavesCell2 Go.Proofs.Try.results38 hF rfl rfl (by simp) FactTry1.ok51 (triedRB_pan (hW.picks (by repeat (first | exact Picks.all | exact Picks.nil | (apply Picks.cons; focus (repeat (first | exact Sel.here | apply Sel.there))) | apply Picks.skip))) fun w hw => Holds.end_ hR hw ⟨_, .inr ⟨z, hx, rfl, rfl⟩, by repeat (first | exact Picks.all | exact Picks.nil | (apply Picks.cons; focus (repeat (first | exact Sel.here | apply Sel.there))) | apply Picks.skip)⟩))) ?_
  rintro v6 _ hk6
  try simp only [List.cons_append, List.nil_append, List.append_nil]
  have hone := hK1 _ _ hk6
  refine O.perm (List.perm_append_comm) ?_
  simp only [List.cons_append, List.nil_append]
  refine O.opU rfl (.store1 FactTry1.flat32 rfl rfl (by first | rfl | assumption) (by repeat (first | exact Sel.here | apply Sel.there)) (by first | (simp; done) | (simp [Value.cells]; done))) ?_
  refine O.opU rfl (.store1 FactTry1.flat33 rfl rfl (by first | rfl | assumption) (by repeat (first | exact Sel.here | apply Sel.there)) (by first | (simp; done) | (simp [Value.cells]; done))) ?_
  refine O.nil ?_
  refine S.retL fun a w hf hd hw => ?_
  exact leavesCell2 Go.Proofs.Try.results38 hf rfl rfl (by simp) FactTry1.ok51 (triedRB_ret (hw.picks (by repeat (first | exact Picks.all | exact Picks.nil | (apply Picks.cons; focus (repeat (first | exact Sel.here | apply Sel.there))) | apply Picks.skip))) fun w hw => Holds.end_ hR hw ⟨_, .inl ⟨_, hk6, rfl⟩, by repeat (first | exact Picks.all | exact Picks.nil | (apply Picks.cons; focus (repeat (first | exact Sel.here | apply Sel.there))) | apply Picks.skip)⟩)

theorem triedIB_ret {g : Gr} {be bx : Nat} {x : Value} {z : Int} {T1 T2 : TypeId} {w : World} {R : Ending → World → Prop} {η : List SProp} (hw : Holds w g (obj bx T1 [x] :: obj be T2 [.int .i64 z] :: η)) (hR : ∀ w, Holds w g (obj bx T1 [x] :: obj be T2 [.int .i64 z] :: η) → R (.returned (.tuple #[x, .int .i64 z])) w) :
    CallsD Go.Proofs.Try.prog 15 #[.pointer (some ⟨be, 0, none⟩), .pointer (some ⟨bx, 0, none⟩)] .returning w (DPost2 Go.Proofs.Try.prog g bx be 32 33 R) := by
  refine (callsD_rec (R := fun e w => (∃ v, e = .returned v) ∧ Holds w g (obj bx T1 [x] :: obj be T2 [.int .i64 z] :: η)) [.pointer (some ⟨be, 0, none⟩), .pointer (some ⟨bx, 0, none⟩)] rfl Go.Proofs.Try.func15 rfl rfl rfl rfl hw ?_).mono ?_
  rotate_left
  · rintro e u' w' ⟨rfl, ⟨v, rfl⟩, h⟩
    exact ⟨⟨v, rfl⟩, rfl, T1, T2, _, _, _, _, η, h, LoadsAs.flat FactTry1.flat32, LoadsAs.flat FactTry1.flat33, hR w' h⟩
  refine S.seq (S.region rfl ?_)
  refine O.op (.p rfl) (.mv rfl) ?_
  refine O.op (.p rfl) (.neqIN Go.Proofs.Try.underlying20 rfl) ?_
  refine O.nil ?_
  refine S.condF rfl ?_
  refine S.skip ?_
  refine S.end0 Go.Proofs.Try.results15 fun w hw => ?_
  exact ⟨⟨_, rfl⟩, hw⟩
theorem triedIB_pan {g : Gr} {be bx : Nat} {x : Value} {z z' : Int} {T1 T2 : TypeId} {w : World} {R : Ending → World → Prop} {η : List SProp} (hw : Holds w g (obj bx T1 [x] :: obj be T2 [.int .i64 z'] :: η))
    (hR : ∀ w, Holds w g (obj bx T1 [.slice none 0 0] :: obj be T2 [.int .i64 z] :: η) → R (.returned (.tuple #[.slice none 0 0, .int .i64 z])) w) :
    CallsD Go.Proofs.Try.prog 15 #[.pointer (some ⟨be, 0, none⟩), .pointer (some ⟨bx, 0, none⟩)] (.panicking (errP 33 z)) w (DPost2 Go.Proofs.Try.prog g bx be 32 33 R) := by
  refine (callsD_rec (R := fun e w => (∃ v, e = .returned v) ∧ Holds w g (obj bx T1 [.slice none 0 0] :: obj be T2 [.int .i64 z] :: η)) [.pointer (some ⟨be, 0, none⟩), .pointer (some ⟨bx, 0, none⟩)] rfl Go.Proofs.Try.func15 rfl rfl rfl rfl hw ?_).mono ?_
  rotate_left
  · rintro e u' w' ⟨rfl, ⟨v, rfl⟩, h⟩
    exact ⟨⟨v, rfl⟩, rfl, T1, T2, _, _, _, _, η, h, LoadsAs.flat FactTry1.flat32, LoadsAs.flat FactTry1.flat33, hR w' h⟩
  refine S.seq (S.region rfl ?_)
  refine O.op (.p rfl) (.mv rfl) ?_
  refine O.op (.p rfl) (.neqIV Go.Proofs.Try.underlying20 rfl) ?_
  refine O.nil ?_
  refine S.condT rfl ?_
  refine S.seq (S.region rfl ?_)
  refine O.op (.p rfl) (.as rfl) ?_
  refine O.nil ?_
  refine S.seq (S.seq (S.region rfl ?_))
  refine O.op (.p rfl) (.mv rfl) ?_
  refine O.op (.p rfl) (.assertYes Go.Proofs.Try.underlying33 rfl) ?_
  refine O.op (.p rfl) (.mv rfl) ?_
  refine O.op (.p rfl) (.extract rfl rfl) ?_
  refine O.op (.p rfl) (.extract rfl rfl) ?_
  refine O.opU rfl (.store1 FactTry1.flat33 rfl rfl (by first | rfl | assumption) (by repeat (first | exact Sel.here | apply Sel.there)) (by first | (simp; done) | (simp [Value.cells]; done))) ?_
  refine O.op (.p rfl) (.as rfl) ?_
  refine O.nil ?_
  refine S.seq (S.region rfl ?_)
  refine O.op (.p rfl) (.mv rfl) ?_
  refine O.op (.p rfl) (.not rfl) ?_
  refine O.nil ?_
  refine S.condF rfl ?_
  refine S.skip (S.seq (S.region rfl ?_))
  refine O.op (.p rfl) (.as rfl) ?_
  refine O.nil ?_
  refine S.region rfl ?_
  refine O.op (.p rfl) (.mv rfl) ?_
  refine O.opU rfl (.store1 FactTry1.flat32 rfl rfl (by first | rfl | assumption) (by repeat (first | exact Sel.here | apply Sel.there)) (by first | (simp; done) | (simp [Value.cells]; done))) ?_
  refine O.nil ?_
  refine S.end0 Go.Proofs.Try.results15 fun w hw => ?_
  exact ⟨⟨_, rfl⟩, hw.picks (by repeat (first | exact Picks.all | exact Picks.nil | (apply Picks.cons; focus (repeat (first | exact Sel.here | apply Sel.there))) | apply Picks.skip))⟩
theorem triedIB_c {r : Fr} {f : Nat} {first cap : Array Value} {K : Value → List SProp → Prop} {X : Int → Prop} (hc : callable Go.Proofs.Try.prog f = true) (hf1 : (Value.func (.func f) first cap).oneCell' = true) (hK1 : ∀ u ζ, K u ζ → u.oneCell' = true)
    (con : Con Go.Proofs.Try.prog f (first ++ #[] ++ cap) r [] (RetP K (fun ch η => ∃ z, ch = errP 33 z ∧ X z ∧ η = []))) :
    Con Go.Proofs.Try.prog 11 #[.func (.func f) first cap] r [] (Ret fun v η => (∃ u, K u η ∧ v = .tuple #[u, .int .i64 0]) ∨ (∃ z, X z ∧ η = [] ∧ v = .tuple #[.slice none 0 0, .int .i64 z])) := by
  refine Con.of (n := 7) [.func (.func f) first cap] rfl Go.Proofs.Try.func11 rfl rfl rfl fun g hg R hR => ?_
  refine S.seq (S.region rfl ?_)
  refine O.opE (.p rfl) (.alloc (cs := [.slice none 0 0]) Go.Proofs.Try.zeroValue32 rfl) ?_
  rintro _ _ ⟨b2, rfl, rfl⟩
  refine O.opE (.p rfl) (.alloc (cs := [.int .i64 0]) Go.Proofs.Try.zeroValue33 rfl) ?_
  rintro _ _ ⟨b3, rfl, rfl⟩
  refine O.nil ?_
  refine S.seq (S.region rfl ?_)
  refine O.op (.p rfl) (.mkFunc rfl rfl) ?_
  refine O.defer rfl rfl rfl rfl ?_
  refine O.nil ?_
  refine S.seq (S.region rfl ?_)
  refine O.op (.p rfl) (.mv rfl) ?_
  refine O.callP0D (.p rfl) rfl hc rfl rfl (con.sub hg) (fun a ch η' w hF hX hW => by (obtain ⟨z, rfl, hx, rfl⟩ := hX; exact leavesCell2 Go.Proofs.Try.results11 hF rfl rfl (by simp) FactTry1.ok15 (triedIB_pan (hW.picks (by repeat (first | exact Picks.all | exact Picks.nil | (apply Picks.cons; focus (repeat (first | exact Sel.here | apply Sel.there))) | apply Picks.skip))) fun w hw => Holds.end_ hR hw ⟨_, .inr ⟨z, hx, rfl, rfl⟩, by repeat (first | exact Picks.all | exact Picks.nil | (apply Picks.cons; focus (repeat (first | exact Sel.here | apply Sel.there))) | apply Picks.skip)⟩))) ?_
  rintro v6 _ hk6
  try simp only [List.cons_append, List.nil_append, List.append_nil]
  have hone := hK1 _ _ hk6
  refine O.perm (List.perm_append_comm) ?_
  simp only [List.cons_append, List.nil_append]
  refine O.opU rfl (.store1 FactTry1.flat32 rfl rfl (by first | rfl | assumption) (by repeat (first | exact Sel.here | apply Sel.there)) (by first | (simp; done) | (simp [Value.cells]; done))) ?_
  refine O.opU rfl (.store1 FactTry1.flat33 rfl rfl (by first | rfl | assumption) (by repeat (first | exact Sel.here | apply Sel.there)) (by first | (simp; done) | (simp [Value.cells]; done))) ?_
  refine O.nil ?_
  refine S.retL fun a w hf hd hw => ?_
  exact leavesCell2 Go.Proofs.Try.results11 hf rfl rfl (by simp) FactTry1.ok15 (triedIB_ret (hw.picks (by repeat (first | exact Picks.all | exact Picks.nil | (apply Picks.cons; focus (repeat (first | exact Sel.here | apply Sel.there))) | apply Picks.skip))) fun w hw => Holds.end_ hR hw ⟨_, .inl ⟨_, hk6, rfl⟩, by repeat (first | exact Picks.all | exact Picks.nil | (apply Picks.cons; focus (repeat (first | exact Sel.here | apply Sel.there))) | apply Picks.skip)⟩)


end Go.Proofs.Ytodhbhanmdfdeaa
