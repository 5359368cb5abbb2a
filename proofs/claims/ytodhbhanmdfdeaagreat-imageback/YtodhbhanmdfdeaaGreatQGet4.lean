/- Texts of this proof, one behind the other. -/
import Derived.Test.YtodhbhanmdfdeaaGreatQFc
import Derived.Test.YtodhbhanmdfdeaaGreatQSib4
import Derived.Test.YtodhbhanmdfdeaaGreatQSpAuto
import Derived.Test.YtodhbhanmdfdeaaGreatQGet3
section
/- Texts of this proof. -/
open Go Go.Sp
set_option maxRecDepth 100000
attribute [local irreducible] obj Own OwnP
namespace Go.Proofs.YtodhbhanmdfdeaaGreat
theorem triedRR_ret {g : Gr} {be bx : Nat} {xs : List Value} {z : Int} {T1 T2 : TypeId} {w : World} {R : Ending → World → Prop} {η : List SProp} (hxl : xs.length = 5) (hw : Holds w g (obj bx T1 xs :: obj be T2 [.int .i64 z] :: η)) (hR : ∀ w, Holds w g (obj bx T1 xs :: obj be T2 [.int .i64 z] :: η) → R (.returned (.tuple #[.agg xs.toArray, .int .i64 z])) w) :
  CallsD Tryz.prog 305 #[.pointer (some ⟨be, 0, none⟩), .pointer (some ⟨bx, 0, none⟩)] .returning w (DPost2 Tryz.prog g bx be 52 32 R) := by
 refine (callsD_rec (R := fun e w => (∃ v, e = .returned v) ∧ Holds w g (obj bx T1 xs :: obj be T2 [.int .i64 z] :: η)) [.pointer (some ⟨be, 0, none⟩), .pointer (some ⟨bx, 0, none⟩)] rfl Tryz.func305 rfl rfl rfl rfl hw ?_).mono ?_
 rotate_left
 ·rintro e u' w' ⟨rfl, ⟨v, rfl⟩, h⟩
  exact ⟨⟨v, rfl⟩, rfl, T1, T2, _, _, _, _, η, h, LoadsAs.agg Tryz.isAgg52 (by rw [hxl]; kernel_rfl), LoadsAs.flat F.flat32, hR w' h⟩
 refine S.seq <| S.region rfl <| O.q 1 rfl <| O.op (.p rfl) (.neqIN Tryz.underlying20 rfl) <| O.nil <| S.condF rfl <| S.skip <| S.end0 Tryz.results305 fun w hw => ?_
 exact ⟨⟨_, rfl⟩, hw⟩
theorem triedRR_pan {g : Gr} {be bx : Nat} {xs : List Value} {z z' : Int} {T1 T2 : TypeId} {w : World} {R : Ending → World → Prop} {η : List SProp} (hxl : xs.length = 5) (hw : Holds w g (obj bx T1 xs :: obj be T2 [.int .i64 z'] :: η))
  (hR : ∀ w, Holds w g (obj bx T1 [.int .i64 0, .int .i64 0, .int .i64 0, .slice none 0 0, .slice none 0 0] :: obj be T2 [.int .i64 z] :: η) → R (.returned (.tuple #[.agg ([.int .i64 0, .int .i64 0, .int .i64 0, .slice none 0 0, .slice none 0 0] : List Value).toArray, .int .i64 z])) w) :
  CallsD Tryz.prog 305 #[.pointer (some ⟨be, 0, none⟩), .pointer (some ⟨bx, 0, none⟩)] (.panicking (errP 32 z)) w (DPost2 Tryz.prog g bx be 52 32 R) := by
 refine (callsD_rec (R := fun e w => (∃ v, e = .returned v) ∧ Holds w g (obj bx T1 [.int .i64 0, .int .i64 0, .int .i64 0, .slice none 0 0, .slice none 0 0] :: obj be T2 [.int .i64 z] :: η)) [.pointer (some ⟨be, 0, none⟩), .pointer (some ⟨bx, 0, none⟩)] rfl Tryz.func305 rfl rfl rfl rfl hw ?_).mono ?_
 rotate_left
 ·rintro e u' w' ⟨rfl, ⟨v, rfl⟩, h⟩
  exact ⟨⟨v, rfl⟩, rfl, T1, T2, _, _, _, _, η, h, LoadsAs.agg Tryz.isAgg52 (by kernel_rfl), LoadsAs.flat F.flat32, hR w' h⟩
 refine S.seq <| S.region rfl <| O.q 1 rfl <| O.op (.p rfl) (.neqIV Tryz.underlying20 rfl) <| O.nil <| S.condT rfl <| S.seq <| S.region rfl <| O.q 1 rfl <| O.nil <| S.seq <| S.seq <| S.region rfl <| O.q 1 rfl <| O.op (.p rfl) (.assertYes Tryz.underlying32 rfl) <| O.q 3 rfl <| O.opU rfl (.store1 F.flat32 rfl rfl (by first | rfl | assumption) (by repeat (first | exact zh | apply zt)) (by first | (simp; done) | (simp [Value.cells]; done))) ?_
 refine O.q 1 rfl <| O.nil <| S.seq <| S.region rfl <| O.q 1 rfl <| O.op (.p rfl) (.not rfl) <| O.nil <| S.condF rfl <| S.skip <| S.seq <| S.region rfl <| O.opE (.p rfl) (.alloc (cs := [.int .i64 0, .int .i64 0, .int .i64 0, .slice none 0 0, .slice none 0 0]) Tryz.zeroValue52 rfl) ?_
 rintro _ _ ⟨b4, rfl, rfl⟩
 refine O.nil <| S.region rfl <| O.op (.p rfl) (.loA (news := [_, _, _, _, _]) Tryz.isAgg52) ?_
 refine O.opU rfl (.storeObj (news := [.int .i64 0, .int .i64 0, .int .i64 0, .slice none 0 0, .slice none 0 0]) (by kernel_rfl) rfl rfl rfl rfl (by repeat (first | exact zh | apply zt)) (by rw [hxl]; decide)) ?_
 refine O.nil <| S.objIs (b := bx) (cs' := [.int .i64 0, .int .i64 0, .int .i64 0, .slice none 0 0, .slice none 0 0]) (by repeat (first | exact zh | apply zt)) (by simp [hxl]) ?_
 refine S.end0 Tryz.results305 fun w hw => ?_
 exact ⟨⟨_, rfl⟩, hw.picks (by repeat (first | exact zpa | exact zpn | (apply zpc; focus (repeat (first | exact zh | apply zt))) | apply zps))⟩
theorem triedRR_c {r : Fr} {f : Nat} {first cap : Array Value} {K : Value → List SProp → Prop} {X : Int → Prop} (hc : callable Tryz.prog f = true) (hf1 : (Value.func (.func f) first cap).oneCell' = true) (hK1 : ∀ u ζ, K u ζ → ∃ xs : List Value, u = .agg xs.toArray ∧ xs.length = 5 ∧ xs.all (·.oneCell') = true)
  (con : Con Tryz.prog f (first ++ #[] ++ cap) r [] (RetP K (fun ch η => ∃ z, ch = errP 32 z ∧ X z ∧ η = []))) :
  Con Tryz.prog 266 #[.func (.func f) first cap] r [] (Ret fun v η => (∃ u, K u η ∧ v = .tuple #[u, .int .i64 0]) ∨ (∃ z, X z ∧ η = [] ∧ v = .tuple #[.agg ([.int .i64 0, .int .i64 0, .int .i64 0, .slice none 0 0, .slice none 0 0] : List Value).toArray, .int .i64 z])) := by
 refine Con.of (n := 7) [.func (.func f) first cap] rfl Tryz.func266 rfl rfl rfl fun g hg R hR => ?_
 refine S.seq <| S.region rfl <| O.opE (.p rfl) (.alloc (cs := [.int .i64 0, .int .i64 0, .int .i64 0, .slice none 0 0, .slice none 0 0]) Tryz.zeroValue52 rfl) ?_
 rintro _ _ ⟨b2, rfl, rfl⟩
 refine O.opE (.p rfl) (.alloc (cs := [.int .i64 0]) Tryz.zeroValue32 rfl) ?_
 rintro _ _ ⟨b3, rfl, rfl⟩
 refine O.nil <| S.seq <| S.region rfl <| O.op (.p rfl) (.mkFunc rfl rfl) <| O.defer rfl rfl rfl rfl ?_
 refine O.nil <| S.seq <| S.region rfl <| O.q 1 rfl <| O.callP0D (.p rfl) rfl hc rfl rfl (con.sub hg) (fun a ch η' w hF hX hW => by (obtain ⟨z, rfl, hx, rfl⟩ := hX; exact leavesCell2 Tryz.results266 hF rfl rfl (by simp) F.ok305 (triedRR_pan rfl (hW.picks (by repeat (first | exact zpa | exact zpn | (apply zpc; focus (repeat (first | exact zh | apply zt))) | apply zps))) fun w hw => Holds.end_ hR hw ⟨_, .inr ⟨z, hx, rfl, rfl⟩, by repeat (first | exact zpa | exact zpn | (apply zpc; focus (repeat (first | exact zh | apply zt))) | apply zps)⟩))) ?_
 rintro v6 _ hk6
 try simp only [zx1, zx2, zx3]
 obtain ⟨xs, rfl, hxl, hone⟩ := hK1 _ _ hk6
 refine O.perm (List.perm_append_comm) ?_
 simp only [List.cons_append, List.nil_append]
 refine O.opU rfl (.storeObj (news := xs) (by rw [hxl]; kernel_rfl) rfl rfl (by simp [Value.cells]) hone (by repeat (first | exact zh | apply zt)) (by rw [hxl]; decide)) ?_
 refine O.opU rfl (.store1 F.flat32 rfl rfl (by first | rfl | assumption) (by repeat (first | exact zh | apply zt)) (by first | (simp; done) | (simp [Value.cells]; done))) ?_
 refine O.nil <| S.objIs (b := b2) (cs' := xs) (by repeat (first | exact zh | apply zt)) (by simp [hxl]) ?_
 refine S.retL fun a w hf hd hw => ?_
 exact leavesCell2 Tryz.results266 hf rfl rfl (by simp) F.ok305 (triedRR_ret hxl (hw.picks (by repeat (first | exact zpa | exact zpn | (apply zpc; focus (repeat (first | exact zh | apply zt))) | apply zps))) fun w hw => Holds.end_ hR hw ⟨_, .inl ⟨_, hk6, rfl⟩, by repeat (first | exact zpa | exact zpn | (apply zpc; focus (repeat (first | exact zh | apply zt))) | apply zps)⟩)
theorem triedIH_ret {g : Gr} {be bx : Nat} {xs : List Value} {z : Int} {T1 T2 : TypeId} {w : World} {R : Ending → World → Prop} {η : List SProp} (hxl : xs.length = 4) (hw : Holds w g (obj bx T1 xs :: obj be T2 [.int .i64 z] :: η)) (hR : ∀ w, Holds w g (obj bx T1 xs :: obj be T2 [.int .i64 z] :: η) → R (.returned (.tuple #[.agg xs.toArray, .int .i64 z])) w) :
  CallsD Tryz.prog 186 #[.pointer (some ⟨be, 0, none⟩), .pointer (some ⟨bx, 0, none⟩)] .returning w (DPost2 Tryz.prog g bx be 27 32 R) := by
 refine (callsD_rec (R := fun e w => (∃ v, e = .returned v) ∧ Holds w g (obj bx T1 xs :: obj be T2 [.int .i64 z] :: η)) [.pointer (some ⟨be, 0, none⟩), .pointer (some ⟨bx, 0, none⟩)] rfl Tryz.func186 rfl rfl rfl rfl hw ?_).mono ?_
 rotate_left
 ·rintro e u' w' ⟨rfl, ⟨v, rfl⟩, h⟩
  exact ⟨⟨v, rfl⟩, rfl, T1, T2, _, _, _, _, η, h, LoadsAs.agg Tryz.isAgg27 (by rw [hxl]; kernel_rfl), LoadsAs.flat F.flat32, hR w' h⟩
 refine S.seq <| S.region rfl <| O.q 1 rfl <| O.op (.p rfl) (.neqIN Tryz.underlying20 rfl) <| O.nil <| S.condF rfl <| S.skip <| S.end0 Tryz.results186 fun w hw => ?_
 exact ⟨⟨_, rfl⟩, hw⟩
theorem triedIH_pan {g : Gr} {be bx : Nat} {xs : List Value} {z z' : Int} {T1 T2 : TypeId} {w : World} {R : Ending → World → Prop} {η : List SProp} (hxl : xs.length = 4) (hw : Holds w g (obj bx T1 xs :: obj be T2 [.int .i64 z'] :: η))
  (hR : ∀ w, Holds w g (obj bx T1 [.slice none 0 0, .slice none 0 0, .slice none 0 0, .slice none 0 0] :: obj be T2 [.int .i64 z] :: η) → R (.returned (.tuple #[.agg ([.slice none 0 0, .slice none 0 0, .slice none 0 0, .slice none 0 0] : List Value).toArray, .int .i64 z])) w) :
  CallsD Tryz.prog 186 #[.pointer (some ⟨be, 0, none⟩), .pointer (some ⟨bx, 0, none⟩)] (.panicking (errP 32 z)) w (DPost2 Tryz.prog g bx be 27 32 R) := by
 refine (callsD_rec (R := fun e w => (∃ v, e = .returned v) ∧ Holds w g (obj bx T1 [.slice none 0 0, .slice none 0 0, .slice none 0 0, .slice none 0 0] :: obj be T2 [.int .i64 z] :: η)) [.pointer (some ⟨be, 0, none⟩), .pointer (some ⟨bx, 0, none⟩)] rfl Tryz.func186 rfl rfl rfl rfl hw ?_).mono ?_
 rotate_left
 ·rintro e u' w' ⟨rfl, ⟨v, rfl⟩, h⟩
  exact ⟨⟨v, rfl⟩, rfl, T1, T2, _, _, _, _, η, h, LoadsAs.agg Tryz.isAgg27 (by kernel_rfl), LoadsAs.flat F.flat32, hR w' h⟩
 refine S.seq <| S.region rfl <| O.q 1 rfl <| O.op (.p rfl) (.neqIV Tryz.underlying20 rfl) <| O.nil <| S.condT rfl <| S.seq <| S.region rfl <| O.q 1 rfl <| O.nil <| S.seq <| S.seq <| S.region rfl <| O.q 1 rfl <| O.op (.p rfl) (.assertYes Tryz.underlying32 rfl) <| O.q 3 rfl <| O.opU rfl (.store1 F.flat32 rfl rfl (by first | rfl | assumption) (by repeat (first | exact zh | apply zt)) (by first | (simp; done) | (simp [Value.cells]; done))) ?_
 refine O.q 1 rfl <| O.nil <| S.seq <| S.region rfl <| O.q 1 rfl <| O.op (.p rfl) (.not rfl) <| O.nil <| S.condF rfl <| S.skip <| S.seq <| S.region rfl <| O.opE (.p rfl) (.alloc (cs := [.slice none 0 0, .slice none 0 0, .slice none 0 0, .slice none 0 0]) Tryz.zeroValue27 rfl) ?_
 rintro _ _ ⟨b4, rfl, rfl⟩
 refine O.nil <| S.region rfl <| O.op (.p rfl) (.loA (news := [_, _, _, _]) Tryz.isAgg27) ?_
 refine O.opU rfl (.storeObj (news := [.slice none 0 0, .slice none 0 0, .slice none 0 0, .slice none 0 0]) (by kernel_rfl) rfl rfl rfl rfl (by repeat (first | exact zh | apply zt)) (by rw [hxl]; decide)) ?_
 refine O.nil <| S.objIs (b := bx) (cs' := [.slice none 0 0, .slice none 0 0, .slice none 0 0, .slice none 0 0]) (by repeat (first | exact zh | apply zt)) (by simp [hxl]) ?_
 refine S.end0 Tryz.results186 fun w hw => ?_
 exact ⟨⟨_, rfl⟩, hw.picks (by repeat (first | exact zpa | exact zpn | (apply zpc; focus (repeat (first | exact zh | apply zt))) | apply zps))⟩
theorem triedIH_c {r : Fr} {f : Nat} {first cap : Array Value} {K : Value → List SProp → Prop} {X : Int → Prop} (hc : callable Tryz.prog f = true) (hf1 : (Value.func (.func f) first cap).oneCell' = true) (hK1 : ∀ u ζ, K u ζ → ∃ xs : List Value, u = .agg xs.toArray ∧ xs.length = 4 ∧ xs.all (·.oneCell') = true)
  (con : Con Tryz.prog f (first ++ #[] ++ cap) r [] (RetP K (fun ch η => ∃ z, ch = errP 32 z ∧ X z ∧ η = []))) :
  Con Tryz.prog 79 #[.func (.func f) first cap] r [] (Ret fun v η => (∃ u, K u η ∧ v = .tuple #[u, .int .i64 0]) ∨ (∃ z, X z ∧ η = [] ∧ v = .tuple #[.agg ([.slice none 0 0, .slice none 0 0, .slice none 0 0, .slice none 0 0] : List Value).toArray, .int .i64 z])) := by
 refine Con.of (n := 7) [.func (.func f) first cap] rfl Tryz.func79 rfl rfl rfl fun g hg R hR => ?_
 refine S.seq <| S.region rfl <| O.opE (.p rfl) (.alloc (cs := [.slice none 0 0, .slice none 0 0, .slice none 0 0, .slice none 0 0]) Tryz.zeroValue27 rfl) ?_
 rintro _ _ ⟨b2, rfl, rfl⟩
 refine O.opE (.p rfl) (.alloc (cs := [.int .i64 0]) Tryz.zeroValue32 rfl) ?_
 rintro _ _ ⟨b3, rfl, rfl⟩
 refine O.nil <| S.seq <| S.region rfl <| O.op (.p rfl) (.mkFunc rfl rfl) <| O.defer rfl rfl rfl rfl ?_
 refine O.nil <| S.seq <| S.region rfl <| O.q 1 rfl <| O.callP0D (.p rfl) rfl hc rfl rfl (con.sub hg) (fun a ch η' w hF hX hW => by (obtain ⟨z, rfl, hx, rfl⟩ := hX; exact leavesCell2 Tryz.results79 hF rfl rfl (by simp) F.ok186 (triedIH_pan rfl (hW.picks (by repeat (first | exact zpa | exact zpn | (apply zpc; focus (repeat (first | exact zh | apply zt))) | apply zps))) fun w hw => Holds.end_ hR hw ⟨_, .inr ⟨z, hx, rfl, rfl⟩, by repeat (first | exact zpa | exact zpn | (apply zpc; focus (repeat (first | exact zh | apply zt))) | apply zps)⟩))) ?_
 rintro v6 _ hk6
 try simp only [zx1, zx2, zx3]
 obtain ⟨xs, rfl, hxl, hone⟩ := hK1 _ _ hk6
 refine O.perm (List.perm_append_comm) ?_
 simp only [List.cons_append, List.nil_append]
 refine O.opU rfl (.storeObj (news := xs) (by rw [hxl]; kernel_rfl) rfl rfl (by simp [Value.cells]) hone (by repeat (first | exact zh | apply zt)) (by rw [hxl]; decide)) ?_
 refine O.opU rfl (.store1 F.flat32 rfl rfl (by first | rfl | assumption) (by repeat (first | exact zh | apply zt)) (by first | (simp; done) | (simp [Value.cells]; done))) ?_
 refine O.nil <| S.objIs (b := b2) (cs' := xs) (by repeat (first | exact zh | apply zt)) (by simp [hxl]) ?_
 refine S.retL fun a w hf hd hw => ?_
 exact leavesCell2 Tryz.results79 hf rfl rfl (by simp) F.ok186 (triedIH_ret hxl (hw.picks (by repeat (first | exact zpa | exact zpn | (apply zpc; focus (repeat (first | exact zh | apply zt))) | apply zps))) fun w hw => Holds.end_ hR hw ⟨_, .inl ⟨_, hk6, rfl⟩, by repeat (first | exact zpa | exact zpn | (apply zpc; focus (repeat (first | exact zh | apply zt))) | apply zps)⟩)
theorem triedSS_ret {g : Gr} {be bx : Nat} {x : Value} {z : Int} {T1 T2 : TypeId} {w : World} {R : Ending → World → Prop} {η : List SProp} (hw : Holds w g (obj bx T1 [x] :: obj be T2 [.int .i64 z] :: η)) (hR : ∀ w, Holds w g (obj bx T1 [x] :: obj be T2 [.int .i64 z] :: η) → R (.returned (.tuple #[x, .int .i64 z])) w) :
  CallsD Tryz.prog 203 #[.pointer (some ⟨be, 0, none⟩), .pointer (some ⟨bx, 0, none⟩)] .returning w (DPost2 Tryz.prog g bx be 47 32 R) := by
 refine (callsD_rec (R := fun e w => (∃ v, e = .returned v) ∧ Holds w g (obj bx T1 [x] :: obj be T2 [.int .i64 z] :: η)) [.pointer (some ⟨be, 0, none⟩), .pointer (some ⟨bx, 0, none⟩)] rfl Tryz.func203 rfl rfl rfl rfl hw ?_).mono ?_
 rotate_left
 ·rintro e u' w' ⟨rfl, ⟨v, rfl⟩, h⟩
  exact ⟨⟨v, rfl⟩, rfl, T1, T2, _, _, _, _, η, h, LoadsAs.flat F.flat47, LoadsAs.flat F.flat32, hR w' h⟩
 refine S.seq <| S.region rfl <| O.q 1 rfl <| O.op (.p rfl) (.neqIN Tryz.underlying20 rfl) <| O.nil <| S.condF rfl <| S.skip <| S.end0 Tryz.results203 fun w hw => ?_
 exact ⟨⟨_, rfl⟩, hw⟩
theorem triedSS_pan {g : Gr} {be bx : Nat} {x : Value} {z z' : Int} {T1 T2 : TypeId} {w : World} {R : Ending → World → Prop} {η : List SProp} (hw : Holds w g (obj bx T1 [x] :: obj be T2 [.int .i64 z'] :: η))
  (hR : ∀ w, Holds w g (obj bx T1 [.slice none 0 0] :: obj be T2 [.int .i64 z] :: η) → R (.returned (.tuple #[.slice none 0 0, .int .i64 z])) w) :
  CallsD Tryz.prog 203 #[.pointer (some ⟨be, 0, none⟩), .pointer (some ⟨bx, 0, none⟩)] (.panicking (errP 32 z)) w (DPost2 Tryz.prog g bx be 47 32 R) := by
 refine (callsD_rec (R := fun e w => (∃ v, e = .returned v) ∧ Holds w g (obj bx T1 [.slice none 0 0] :: obj be T2 [.int .i64 z] :: η)) [.pointer (some ⟨be, 0, none⟩), .pointer (some ⟨bx, 0, none⟩)] rfl Tryz.func203 rfl rfl rfl rfl hw ?_).mono ?_
 rotate_left
 ·rintro e u' w' ⟨rfl, ⟨v, rfl⟩, h⟩
  exact ⟨⟨v, rfl⟩, rfl, T1, T2, _, _, _, _, η, h, LoadsAs.flat F.flat47, LoadsAs.flat F.flat32, hR w' h⟩
 refine S.seq <| S.region rfl <| O.q 1 rfl <| O.op (.p rfl) (.neqIV Tryz.underlying20 rfl) <| O.nil <| S.condT rfl <| S.seq <| S.region rfl <| O.q 1 rfl <| O.nil <| S.seq <| S.seq <| S.region rfl <| O.q 1 rfl <| O.op (.p rfl) (.assertYes Tryz.underlying32 rfl) <| O.q 3 rfl <| O.opU rfl (.store1 F.flat32 rfl rfl (by first | rfl | assumption) (by repeat (first | exact zh | apply zt)) (by first | (simp; done) | (simp [Value.cells]; done))) ?_
 refine O.q 1 rfl <| O.nil <| S.seq <| S.region rfl <| O.q 1 rfl <| O.op (.p rfl) (.not rfl) <| O.nil <| S.condF rfl <| S.skip <| S.seq <| S.region rfl <| O.q 1 rfl <| O.nil <| S.region rfl <| O.q 1 rfl <| O.opU rfl (.store1 F.flat47 rfl rfl (by first | rfl | assumption) (by repeat (first | exact zh | apply zt)) (by first | (simp; done) | (simp [Value.cells]; done))) ?_
 refine O.nil <| S.end0 Tryz.results203 fun w hw => ?_
 exact ⟨⟨_, rfl⟩, hw.picks (by repeat (first | exact zpa | exact zpn | (apply zpc; focus (repeat (first | exact zh | apply zt))) | apply zps))⟩
theorem triedSS_c {r : Fr} {f : Nat} {first cap : Array Value} {K : Value → List SProp → Prop} {X : Int → Prop} (hc : callable Tryz.prog f = true) (hf1 : (Value.func (.func f) first cap).oneCell' = true) (hK1 : ∀ u ζ, K u ζ → u.oneCell' = true)
  (con : Con Tryz.prog f (first ++ #[] ++ cap) r [] (RetP K (fun ch η => ∃ z, ch = errP 32 z ∧ X z ∧ η = []))) :
  Con Tryz.prog 102 #[.func (.func f) first cap] r [] (Ret fun v η => (∃ u, K u η ∧ v = .tuple #[u, .int .i64 0]) ∨ (∃ z, X z ∧ η = [] ∧ v = .tuple #[.slice none 0 0, .int .i64 z])) := by
 refine Con.of (n := 7) [.func (.func f) first cap] rfl Tryz.func102 rfl rfl rfl fun g hg R hR => ?_
 refine S.seq <| S.region rfl <| O.opE (.p rfl) (.alloc (cs := [.slice none 0 0]) Tryz.zeroValue47 rfl) ?_
 rintro _ _ ⟨b2, rfl, rfl⟩
 refine O.opE (.p rfl) (.alloc (cs := [.int .i64 0]) Tryz.zeroValue32 rfl) ?_
 rintro _ _ ⟨b3, rfl, rfl⟩
 refine O.nil <| S.seq <| S.region rfl <| O.op (.p rfl) (.mkFunc rfl rfl) <| O.defer rfl rfl rfl rfl ?_
 refine O.nil <| S.seq <| S.region rfl <| O.q 1 rfl <| O.callP0D (.p rfl) rfl hc rfl rfl (con.sub hg) (fun a ch η' w hF hX hW => by (obtain ⟨z, rfl, hx, rfl⟩ := hX; exact leavesCell2 Tryz.results102 hF rfl rfl (by simp) F.ok203 (triedSS_pan (hW.picks (by repeat (first | exact zpa | exact zpn | (apply zpc; focus (repeat (first | exact zh | apply zt))) | apply zps))) fun w hw => Holds.end_ hR hw ⟨_, .inr ⟨z, hx, rfl, rfl⟩, by repeat (first | exact zpa | exact zpn | (apply zpc; focus (repeat (first | exact zh | apply zt))) | apply zps)⟩))) ?_
 rintro v6 _ hk6
 try simp only [zx1, zx2, zx3]
 have hone := hK1 _ _ hk6
 refine O.perm (List.perm_append_comm) ?_
 simp only [List.cons_append, List.nil_append]
 refine O.opU rfl (.store1 F.flat47 rfl rfl (by first | rfl | assumption) (by repeat (first | exact zh | apply zt)) (by first | (simp; done) | (simp [Value.cells]; done))) ?_
 refine O.opU rfl (.store1 F.flat32 rfl rfl (by first | rfl | assumption) (by repeat (first | exact zh | apply zt)) (by first | (simp; done) | (simp [Value.cells]; done))) ?_
 refine O.nil <| S.retL fun a w hf hd hw => ?_
 exact leavesCell2 Tryz.results102 hf rfl rfl (by simp) F.ok203 (triedSS_ret (hw.picks (by repeat (first | exact zpa | exact zpn | (apply zpc; focus (repeat (first | exact zh | apply zt))) | apply zps))) fun w hw => Holds.end_ hR hw ⟨_, .inl ⟨_, hk6, rfl⟩, by repeat (first | exact zpa | exact zpn | (apply zpc; focus (repeat (first | exact zh | apply zt))) | apply zps)⟩)
end Go.Proofs.YtodhbhanmdfdeaaGreat
end
section
/- Texts of this proof. -/
open Go Go.Sp
set_option maxRecDepth 100000
attribute [local irreducible] obj Own OwnP
namespace Go.Proofs.YtodhbhanmdfdeaaGreat
abbrev rootV (x : RootT) (v3 v4 : Value) : List Value := [.int .i64 x.1, .int .i64 x.2.1, .int .i64 x.2.2.1, v3, v4]
abbrev rootWs (x : RootT) (v3 v4 : Value) : List SProp := [OwnP Rp.u8 5 v3 x.2.2.2.1, OwnP Rp.u8 5 v4 x.2.2.2.2.1]
abbrev root0 : List Value := [.int .i64 0, .int .i64 0, .int .i64 0, .slice none 0 0, .slice none 0 0]
def RootK (b : List UInt8) (v : Value) (η : List SProp) : Prop := ∃ x a3 c3 a4 c4, rootGet b = some x ∧ v = .agg (rootV x (.slice a3 x.2.2.2.1.length c3) (.slice a4 x.2.2.2.2.1.length c4)).toArray ∧ η = rootWs x (.slice a3 x.2.2.2.1.length c3) (.slice a4 x.2.2.2.2.1.length c4)
theorem tget1_c {r : Fr} {p : Nat} {va : Value} {b : List UInt8} (hp : At r ⟨p, 0, none⟩ [va]) (ha : Arr Rp.u8 r va b) (hl : b.length ≤ 1000000000) :
  Con Tryz.prog 267 (#[] ++ #[] ++ #[.pointer (some ⟨p, 0, none⟩)]) r [] (RetP (fun v η => RootK b v η) (fun ch η => ∃ z, ch = errP 32 z ∧ (rootGet b = none ∧ z = 4) ∧ η = [])) := by
 refine Con.of (n := 38) [.pointer (some ⟨p, 0, none⟩)] rfl Tryz.func267 rfl rfl rfl fun g hg R hR => ?_
 have hp := hp.mono hg
 have ha := ha.mono hg
 have hbd := ha.bound
 obtain ⟨a1, c1, rfl⟩ := ha.shape
 by_cases h1 : b.length = 153
 ·by_cases h2 : b[0]'(by omega) = 2
  ·have h2' : b.head? = some 2 := by rw [List.head?_eq_getElem?, List.getElem?_eq_getElem (by omega), h2]
   have htl : ((b.take 25).drop 1).length = 24 := by simp; omega
   have hQ : (b.drop 1).take 24 = (b.take 25).drop 1 := by rw [List.drop_take]
   refine S.seq <| S.region rfl <| O.opE (.p rfl) (.alloc (cs := [.int .i64 0, .int .i64 0, .int .i64 0, .slice none 0 0, .slice none 0 0]) Tryz.zeroValue52 rfl) ?_
   rintro _ _ ⟨b1, rfl, rfl⟩
   refine O.nil <| S.seq <| S.region rfl <| O.op (.p rfl) (.loadAt F.flat31 rfl hp rfl) ?_
   refine O.op (.p rfl) (.len rfl Tryz.underlying31 rfl) <| O.op (.p rfl) (.eql rfl rfl) <| O.sT 6 rfl (by simp [h1]) ?_
   refine O.q 1 rfl <| O.op (.g rfl rfl) (.loadAt F.flat31 rfl hp rfl) ?_
   refine O.ia (.g rfl rfl) Tryz.underlying31 F.size5 rfl rfl (show _ = ((0 : Nat) : Int) from rfl) (by first | assumption | exact Arr.mono hg (by assumption) | exact Arr.left (by assumption) | exact Arr.left (Arr.mono hg (by assumption))) (h := fun p9 cs9 hp9 hr9 => ?_)
   cases hr9
   refine O.op (.g rfl rfl) (.loadAt F.flat5 rfl hp9 rfl) ?_
   refine O.op (.g rfl rfl) (.eql rfl rfl) <| O.sT 11 rfl (by simp [h2]) ?_
   refine O.q 1 rfl <| O.callP0 (.p rfl) rfl F.ok268 rfl rfl (tmust_c _ _) (fun ch η' w hX hW => by (exact absurd hX.1 (by simp))) ?_
   rintro v13 _ ⟨hb13, rfl, rfl⟩
   try simp only [zx1, zx2, zx3]
   refine O.nil <| S.seq <| S.region rfl <| O.op (.p rfl) (.loadAt F.flat31 rfl hp rfl) ?_
   refine O.sliceMid (a := 1) (b := 25) (.p rfl) Tryz.underlying31 F.size5 rfl rfl rfl (by assumption) (by first | omega | (simp; done) | (simp; omega) | decide) (by first | omega | (simp; done) | (simp; omega) | decide) (by first | omega | (simp; done) | (simp; omega) | decide) (by first | omega | (simp; done) | (simp; omega) | decide) (fun u15 ha15 => ?_)
   obtain ⟨a15, c15, rfl⟩ := ha15.shape
   refine O.call0 (.p rfl) rfl F.ok81 rfl rfl (rdNew_c (by first | assumption | exact Arr.mono hg (by assumption) | exact Arr.left (by assumption) | exact Arr.left (Arr.mono hg (by assumption))) (by first | omega | (simp; done) | (simp; omega) | decide)) ?_
   rintro v16 _ ⟨b16, rfl, rfl⟩
   try simp only [zx1, zx2, zx3]
   refine O.q 1 rfl <| O.nil (S.seq ?_)
   generalize hs : RS.mk true ((b.take 25).drop 1) = s
   have i0 := RS.num_in s
   refine S.region rfl <| O.q 1 rfl <| O.callS (.p rfl) rfl F.ok89 rfl rfl (by repeat (first | exact zh | apply zt)) rdNumber_c ?_
   rintro v18 _ ⟨rfl, rfl⟩
   try simp only [zx1, zx2, zx3]
   refine O.op (.p rfl) (.build (cs := [_, _, _, _, _]) Tryz.underlying52 rfl rfl rfl rfl rfl) <| O.opE (.p rfl) (.alloc (cs := [.int .i64 0, .int .i64 0, .int .i64 0, .slice none 0 0, .slice none 0 0]) Tryz.zeroValue52 rfl) ?_
   rintro _ _ ⟨b3, rfl, rfl⟩
   refine O.opU rfl (.storeObj (by kernel_rfl) rfl rfl rfl rfl (by repeat (first | exact zh | apply zt)) (by first | (simp; done) | (simp [Value.cells]; done))) ?_
   refine O.nil (S.seq ?_)
   generalize hn : s.num = n at i0 ⊢
   have i1 := RS.num_in n.2
   refine S.region rfl <| O.q 1 rfl <| O.callS (.p rfl) rfl F.ok89 rfl rfl (by repeat (first | exact zh | apply zt)) rdNumber_c ?_
   rintro v21 _ ⟨rfl, rfl⟩
   try simp only [zx1, zx2, zx3]
   refine O.q 1 rfl <| O.callS (.p rfl) rfl F.ok89 rfl rfl (by repeat (first | exact zh | apply zt)) rdNumber_c ?_
   rintro v23 _ ⟨rfl, rfl⟩
   try simp only [zx1, zx2, zx3]
   refine O.op (.p rfl) (.fieldObj F.fld52x1 rfl) <| O.opU rfl (.store1 F.flat3 rfl rfl (by first | rfl | assumption) (by repeat (first | exact zh | apply zt)) (by first | (simp; done) | (simp [Value.cells]; done))) ?_
   refine O.op (.p rfl) (.fieldObj F.fld52x2 rfl) <| O.opU rfl (.store1 F.flat3 rfl rfl (by first | rfl | assumption) (by repeat (first | exact zh | apply zt)) (by first | (simp; done) | (simp [Value.cells]; done))) ?_
   refine O.nil (S.seq ?_)
   generalize hq : n.2.num = q at i1 ⊢
   have i2 := RS.num_in q.2
   generalize hw : q.2.num = w at i2 ⊢
   refine S.regionD (L := [0, 1, 3, 4, 2, 6, 5, 7, 8, 9]) F.mixed (by kernel_rfl) ?_
   refine .quiet (.p rfl) rfl (fun _ => .loadAt F.flat31 rfl hp rfl) ?_
   refine OD.sliceMid (a := 25) (b := 89) (.p rfl) Tryz.underlying31 F.size5 rfl rfl rfl (by assumption) (by first | omega | (simp; done) | (simp; omega) | decide) (by first | omega | (simp; done) | (simp; omega) | decide) (by first | omega | (simp; done) | (simp; omega) | decide) (by first | omega | (simp; done) | (simp; omega) | decide) (fun u27 ha27 => ?_)
   obtain ⟨a27, c27, rfl⟩ := ha27.shape
   refine .quiet (.p rfl) rfl (fun _ => .loadAt F.flat31 rfl hp rfl) ?_
   refine OD.sliceFrom (a := 89) (.p rfl) Tryz.underlying31 F.size5 rfl rfl (by assumption) (by first | omega | (simp; done) | (simp; omega) | decide) (by first | omega | (simp; done) | (simp; omega) | decide) (fun u30 ha30 => ?_)
   obtain ⟨a30, c30, rfl⟩ := ha30.shape
   refine OD.call0 (.p rfl) (by kernel_rfl) rfl F.ok269 rfl rfl (bclone_c (by first | assumption | exact Arr.mono hg (by assumption) | exact Arr.left (by assumption) | exact Arr.left (Arr.mono hg (by assumption))) (by first | omega | (simp; done) | (simp; omega) | decide)) ?_
   rintro v28 _ ⟨a28, c28, rfl, rfl⟩
   try simp only [zx1, zx2, zx3]
   refine .quiet (.p rfl) rfl (fun _ => .fieldObj F.fld52x3 rfl) <| OD.call0 (.p rfl) (by kernel_rfl) rfl F.ok269 rfl rfl (bclone_c (by first | assumption | exact Arr.mono hg (by assumption) | exact Arr.left (by assumption) | exact Arr.left (Arr.mono hg (by assumption))) (by first | omega | (simp; done) | (simp; omega) | decide)) ?_
   rintro v31 _ ⟨a31, c31, rfl, rfl⟩
   try simp only [zx1, zx2, zx3]
   refine OD.store1 rfl (by kernel_rfl) F.flat31 rfl rfl (by first | rfl | assumption) (by repeat (first | exact zh | apply zt)) (by first | (simp; done) | (simp [Value.cells]; done)) ?_
   refine .quiet (.p rfl) rfl (fun _ => .fieldObj F.fld52x4 rfl) <| OD.store1 rfl (by kernel_rfl) F.flat31 rfl rfl (by first | rfl | assumption) (by repeat (first | exact zh | apply zt)) (by first | (simp; done) | (simp [Value.cells]; done)) ?_
   refine ODx.nil (S.seq ?_)
   have hX : rootQ b = (n.1, q.1, w.1, (b.take 89).drop 25, b.drop 89, ()) := by
    unfold rootQ
    rw [hQ, hs, List.drop_take]
    simp only
    rw [hn, hq, hw]
   have hrel : ∀ {m : Fr} (v3 v4 : Value), Arr Rp.u8 m v3 ((b.take 89).drop 25) → Arr Rp.u8 m v4 (b.drop 89) → RootRp.rel m [.int .i64 n.1, .int .i64 q.1, .int .i64 w.1, v3, v4] (n.1, q.1, w.1, (b.take 89).drop 25, b.drop 89, ()) := fun v3 v4 h3 h4 => RootRp.mk i0 i1 i2 h3 h4
   cases e : rootOk (rootQ b) with
   | true =>
    have hyes : rootGet b = some (rootQ b) := by unfold rootGet; rw [if_pos ⟨h1, h2', e⟩]
    rw [hX] at hyes e
    refine S.region rfl <| O.op (.p rfl) (.loA (news := [_, _, _, _, _]) Tryz.isAgg52) ?_
    refine O.callB (.p rfl) rfl F.ok270 rfl rfl (bs := [OwnP Rp.u8 5 (.slice a28 ((b.take 89).drop 25).length c28) ((b.take 89).drop 25), OwnP Rp.u8 5 (.slice a31 (b.drop 89).length c31) (b.drop 89)]) (by repeat (first | exact zsn | (apply zsc; focus (repeat (first | exact zh | apply zt))))) (fun m hm hd => tRight_c (hrel _ _ (hm.arr.right hd) (hm.tail.arr.right hd))) ?_
    rintro v35 _ ⟨rfl, rfl⟩
    try simp only [zx1, zx2, zx3]
    refine O.sT 35 rfl (by exact e) ?_
    refine O.callP0 (.p rfl) rfl F.ok268 rfl rfl (tmust_c _ _) (fun ch η' w hX hW => by (exact absurd hX.1 (by simp))) ?_
    rintro v36 _ ⟨hb36, rfl, rfl⟩
    try simp only [zx1, zx2, zx3]
    refine O.nil <| S.seq <| S.region rfl <| O.op (.p rfl) (.loA (news := [_, _, _, _, _]) Tryz.isAgg52) ?_
    refine O.opU rfl (.storeObj (by kernel_rfl) rfl rfl rfl rfl (by repeat (first | exact zh | apply zt)) (by first | (simp; done) | (simp [Value.cells]; done))) ?_
    refine O.nil <| S.retCellAgg Tryz.results267 Tryz.isAgg52 (by kernel_rfl) rfl (by repeat (first | exact zh | apply zt)) fun w hw => Holds.end_ hR hw ?_
    exact pk ⟨_, a28, c28, a31, c31, hyes, rfl, rfl⟩
   | false =>
    have hno : rootGet b = none := by unfold rootGet; rw [if_neg (fun q => by rw [e] at q; exact absurd q.2.2 (by decide))]
    rw [hX] at e
    refine S.region rfl <| O.op (.p rfl) (.loA (news := [_, _, _, _, _]) Tryz.isAgg52) ?_
    refine O.callB (.p rfl) rfl F.ok270 rfl rfl (bs := [OwnP Rp.u8 5 (.slice a28 ((b.take 89).drop 25).length c28) ((b.take 89).drop 25), OwnP Rp.u8 5 (.slice a31 (b.drop 89).length c31) (b.drop 89)]) (by repeat (first | exact zsn | (apply zsc; focus (repeat (first | exact zh | apply zt))))) (fun m hm hd => tRight_c (hrel _ _ (hm.arr.right hd) (hm.tail.arr.right hd))) ?_
    rintro v35 _ ⟨rfl, rfl⟩
    try simp only [zx1, zx2, zx3]
    refine O.sF 35 rfl (by exact e) ?_
    refine O.callP0 (.p rfl) rfl F.ok268 rfl rfl (tmust_c _ _) (fun ch η' w hX hW => by (obtain ⟨_, rfl, rfl⟩ := hX; exact hR _ _ w ⟨4, rfl, ⟨hno, rfl⟩, rfl⟩ hW.drop_all)) ?_
    rintro v36 _ ⟨hb36, rfl, rfl⟩
    try simp only [zx1, zx2, zx3]
    exact absurd hb36 (by simp)
  ·
   refine S.seq <| S.region rfl <| O.opE (.p rfl) (.alloc (cs := [.int .i64 0, .int .i64 0, .int .i64 0, .slice none 0 0, .slice none 0 0]) Tryz.zeroValue52 rfl) ?_
   rintro _ _ ⟨b1, rfl, rfl⟩
   refine O.nil <| S.seq <| S.region rfl <| O.op (.p rfl) (.loadAt F.flat31 rfl hp rfl) ?_
   refine O.op (.p rfl) (.len rfl Tryz.underlying31 rfl) <| O.op (.p rfl) (.eql rfl rfl) <| O.sT 6 rfl (by simp [h1]) ?_
   refine O.q 1 rfl <| O.op (.g rfl rfl) (.loadAt F.flat31 rfl hp rfl) ?_
   refine O.ia (.g rfl rfl) Tryz.underlying31 F.size5 rfl rfl (show _ = ((0 : Nat) : Int) from rfl) (by first | assumption | exact Arr.mono hg (by assumption) | exact Arr.left (by assumption) | exact Arr.left (Arr.mono hg (by assumption))) (h := fun p9 cs9 hp9 hr9 => ?_)
   cases hr9
   refine O.op (.g rfl rfl) (.loadAt F.flat5 rfl hp9 rfl) ?_
   refine O.op (.g rfl rfl) (.eql rfl rfl) <| O.sF 11 rfl (by simp; intro q; exact h2 (UInt8.toNat.inj (by have : (2 : UInt8).toNat = 2 := rfl; omega))) ?_
   refine O.q 1 rfl <| O.callP0 (.p rfl) rfl F.ok268 rfl rfl (tmust_c _ _) (fun ch η' w hX hW => by (obtain ⟨_, rfl, rfl⟩ := hX; exact hR _ _ w ⟨4, rfl, ⟨by unfold rootGet; rw [if_neg (fun q => h2 (by have q := q.2.1; rw [List.head?_eq_getElem?, List.getElem?_eq_getElem (by omega)] at q; exact Option.some.inj q))], rfl⟩, rfl⟩ hW.drop_all)) ?_
   rintro v13 _ ⟨hb13, rfl, rfl⟩
   try simp only [zx1, zx2, zx3]
   exact absurd hb13 (by simp)
 ·
  refine S.seq <| S.region rfl <| O.opE (.p rfl) (.alloc (cs := [.int .i64 0, .int .i64 0, .int .i64 0, .slice none 0 0, .slice none 0 0]) Tryz.zeroValue52 rfl) ?_
  rintro _ _ ⟨b1, rfl, rfl⟩
  refine O.nil <| S.seq <| S.region rfl <| O.op (.p rfl) (.loadAt F.flat31 rfl hp rfl) ?_
  refine O.op (.p rfl) (.len rfl Tryz.underlying31 rfl) <| O.op (.p rfl) (.eql rfl rfl) <| O.sF 6 rfl (by simp; omega) ?_
  refine O.q 6 rfl <| O.callP0 (.p rfl) rfl F.ok268 rfl rfl (tmust_c _ _) (fun ch η' w hX hW => by (obtain ⟨_, rfl, rfl⟩ := hX; exact hR _ _ w ⟨4, rfl, ⟨rootGet_len h1, rfl⟩, rfl⟩ hW.drop_all)) ?_
  rintro v13 _ ⟨hb13, rfl, rfl⟩
  try simp only [zx1, zx2, zx3]
  exact absurd hb13 (by simp)
def root_t (b : List UInt8) (v : Value) (η : List SProp) : Prop := (∃ u, RootK b u η ∧ v = .tuple #[u, .int .i64 0]) ∨ (rootGet b = none ∧ v = .tuple #[.agg root0.toArray, .int .i64 4] ∧ η = [])
theorem tTriedG_c {r : Fr} {first cap : Array Value} {b : List UInt8} (con : Con Tryz.prog 267 (first ++ #[] ++ cap) r [] (RetP (fun v η => RootK b v η) (fun ch η => ∃ z, ch = errP 32 z ∧ (rootGet b = none ∧ z = 4) ∧ η = []))) (h1 : (Value.func (.func 267) first cap).oneCell' = true := by rfl) :
  Con Tryz.prog 266 #[.func (.func 267) first cap] r [] (Ret fun v η => root_t b v η) :=
 (triedRR_c F.ok267 h1 (fun _ _ h => by obtain ⟨x, a3, c3, a4, c4, _, rfl, _⟩ := h; exact ⟨_, rfl, rfl, rfl⟩) con).mono (Ret.imp fun v η h => by
  rcases h with ⟨u, h2, h3⟩ | ⟨z, ⟨h2, rfl⟩, h3, h4⟩
  ·exact .inl ⟨u, h2, h3⟩
  ·exact .inr ⟨h2, h4, h3⟩)
theorem root_tY {b : List UInt8} {x : RootT} {v : Value} {η : List SProp} (e : rootGet b = some x) (h : root_t b v η) : ∃ a3 c3 a4 c4, v = .tuple #[.agg (rootV x (.slice a3 x.2.2.2.1.length c3) (.slice a4 x.2.2.2.2.1.length c4)).toArray, .int .i64 0] ∧ η = rootWs x (.slice a3 x.2.2.2.1.length c3) (.slice a4 x.2.2.2.2.1.length c4) := by
 rcases h with ⟨_, ⟨y, a3, c3, a4, c4, h1, rfl, rfl⟩, rfl⟩ | ⟨h1, _⟩
 ·rw [e] at h1; obtain rfl := Option.some.inj h1; exact ⟨a3, c3, a4, c4, rfl, rfl⟩
 ·rw [e] at h1; cases h1
theorem root_tN {b : List UInt8} {v : Value} {η : List SProp} (e : rootGet b = none) (h : root_t b v η) : v = .tuple #[.agg root0.toArray, .int .i64 4] ∧ η = [] := by
 rcases h with ⟨_, ⟨y, a3, c3, a4, c4, h1, _⟩, _⟩ | ⟨_, h1, h2⟩
 ·rw [e] at h1; cases h1
 ·exact ⟨h1, h2⟩
theorem tGet_c {r : Fr} {va : Value} {b : List UInt8} (ha : Arr Rp.u8 r va b) (hl : b.length ≤ 1000000000) : Con Tryz.prog 192 #[va] r [] (Ret fun v η => root_t b v η) := by
 refine Con.of (n := 8) _ rfl Tryz.func192 rfl rfl rfl fun g hg R hR => ?_
 have ha := ha.mono hg
 obtain ⟨a1, c1, rfl⟩ := ha.shape
 cases e : rootGet b with
 | some x =>
  refine S.seq <| S.region rfl <| O.opE (.p rfl) (.box (cs := [_]) rfl rfl) ?_
  rintro _ _ ⟨b1, rfl, rfl⟩
  refine O.frzO (by repeat (first | exact zh | apply zt)) fun g hs hm hb1 => ?_
  replace hg := Fr.sub_trans hg hs
  replace hR := melted hR hm
  try replace ha := ha.mono hs
  clear hs hm
  refine O.opE (.p rfl) (.alloc (cs := [.int .i64 0, .int .i64 0, .int .i64 0, .slice none 0 0, .slice none 0 0]) Tryz.zeroValue52 rfl) ?_
  rintro _ _ ⟨b2, rfl, rfl⟩
  refine O.q 1 rfl <| O.nil <| S.seq <| S.region rfl <| O.op (.p rfl) (.mkFunc rfl rfl) <| O.call0 (.p rfl) rfl F.ok266 rfl rfl (((tTriedG_c (tget1_c hb1 ha hl)).mono (Ret.imp fun _ _ h => root_tY e h))) ?_
  rintro v5 _ ⟨a3, c3, a4, c4, rfl, rfl⟩
  try simp only [zx1, zx2, zx3]
  refine O.q 2 rfl <| O.opU rfl (.storeObj (by kernel_rfl) rfl rfl rfl rfl (by repeat (first | exact zh | apply zt)) (by first | (simp; done) | (simp [Value.cells]; done))) ?_
  refine O.q 1 rfl <| O.nil <| S.retCellT Tryz.results192 rfl rfl (by repeat (first | exact zh | apply zt)) (LoadsAs.agg Tryz.isAgg52 (by kernel_rfl)) fun w hw => Holds.end_ hR hw ?_
  exact pk (.inl ⟨_, ⟨x, a3, c3, a4, c4, e, rfl, rfl⟩, rfl⟩)
 | none =>
  refine S.seq <| S.region rfl <| O.opE (.p rfl) (.box (cs := [_]) rfl rfl) ?_
  rintro _ _ ⟨b1, rfl, rfl⟩
  refine O.frzO (by repeat (first | exact zh | apply zt)) fun g hs hm hb1 => ?_
  replace hg := Fr.sub_trans hg hs
  replace hR := melted hR hm
  try replace ha := ha.mono hs
  clear hs hm
  refine O.opE (.p rfl) (.alloc (cs := [.int .i64 0, .int .i64 0, .int .i64 0, .slice none 0 0, .slice none 0 0]) Tryz.zeroValue52 rfl) ?_
  rintro _ _ ⟨b2, rfl, rfl⟩
  refine O.q 1 rfl <| O.nil <| S.seq <| S.region rfl <| O.op (.p rfl) (.mkFunc rfl rfl) <| O.call0 (.p rfl) rfl F.ok266 rfl rfl (((tTriedG_c (tget1_c hb1 ha hl)).mono (Ret.imp fun _ _ h => root_tN e h))) ?_
  rintro v5 _ ⟨rfl, rfl⟩
  try simp only [zx1, zx2, zx3]
  refine O.q 2 rfl <| O.opU rfl (.storeObj (by kernel_rfl) rfl rfl rfl rfl (by repeat (first | exact zh | apply zt)) (by first | (simp; done) | (simp [Value.cells]; done))) ?_
  refine O.q 1 rfl <| O.nil <| S.retCellT Tryz.results192 rfl rfl (by repeat (first | exact zh | apply zt)) (LoadsAs.agg Tryz.isAgg52 (by kernel_rfl)) fun w hw => Holds.end_ hR hw ?_
  exact pk (.inr ⟨e, rfl, rfl⟩)
theorem tGetY_c {r : Fr} {va : Value} {b : List UInt8} {x : RootT} (e : rootGet b = some x) (ha : Arr Rp.u8 r va b) (hl : b.length ≤ 1000000000) : Con Tryz.prog 192 #[va] r [] (Ret fun v η => ∃ a3 c3 a4 c4, v = .tuple #[.agg (rootV x (.slice a3 x.2.2.2.1.length c3) (.slice a4 x.2.2.2.2.1.length c4)).toArray, .int .i64 0] ∧ η = rootWs x (.slice a3 x.2.2.2.1.length c3) (.slice a4 x.2.2.2.2.1.length c4)) := (tGet_c ha hl).mono (Ret.imp fun _ _ h => root_tY e h)
theorem tGetN_c {r : Fr} {va : Value} {b : List UInt8} (e : rootGet b = none) (ha : Arr Rp.u8 r va b) (hl : b.length ≤ 1000000000) : Con Tryz.prog 192 #[va] r [] (Ret fun v η => v = .tuple #[.agg root0.toArray, .int .i64 4] ∧ η = []) := (tGet_c ha hl).mono (Ret.imp fun _ _ h => root_tN e h)
end Go.Proofs.YtodhbhanmdfdeaaGreat
end
