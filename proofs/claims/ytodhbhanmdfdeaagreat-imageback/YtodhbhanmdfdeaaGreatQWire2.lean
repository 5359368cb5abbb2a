/- Texts of this proof, one behind the other. -/
import Derived.Test.YtodhbhanmdfdeaaGreatQFc
import Derived.Test.YtodhbhanmdfdeaaGreatQImg6
import Derived.Test.YtodhbhanmdfdeaaGreatQSpAuto
section
/- Texts of this proof. -/
open Go Go.Sp
set_option maxRecDepth 100000
attribute [local irreducible] obj Own OwnP
namespace Go.Proofs.YtodhbhanmdfdeaaGreat
theorem img0 : imgW ([], [], [], [], ()) = some (List.replicate 32 0) := by simp [imgW, rowSteps, WSt.zero]; decide
theorem img1 : imgW ([], [], [], [2], ()) = some (List.replicate 31 0 ++ [1] ++ (List.replicate 7 0 ++ [2])) := by simp [imgW, rowSteps, WSt.zero, shutStep]; decide
theorem img2 : imgW ([], [], [], [2, 1], ()) = none := by simp [imgW, rowSteps, WSt.zero, shutStep]
theorem imgOut0 : imgOut ([], [], [], [], ()) = List.replicate 32 0 := by simp only [imgOut, img0]; rfl
theorem imgErr0 : imgErr ([], [], [], [], ()) = 0 := by simp [imgErr, img0]
theorem imgOut1 : imgOut ([], [], [], [2], ()) = List.replicate 31 0 ++ [1] ++ (List.replicate 7 0 ++ [2]) := by simp only [imgOut, img1]; rfl
theorem imgErr1 : imgErr ([], [], [], [2], ()) = 0 := by simp [imgErr, img1]
theorem imgErr2 : imgErr ([], [], [], [2, 1], ()) = 4 := by simp [imgErr, img2]
theorem heldB0 (l : List Int) (h : l.length ≤ 3000) : HeldB ([], [], [], l, ()) := ⟨⟨by simp, by simp⟩, by simp, by simp, h⟩
theorem awake_c {r : Fr} : Con Tryz.prog 15 #[] r [] (Ret fun v η => v = .bool true ∧ η = []) := by
 refine Con.of (n := 56) _ rfl Tryz.func15 rfl rfl rfl fun g hg R hR => ?_
 refine S.seq <| S.region rfl <| O.q 1 rfl <| O.nil <| S.seq <| S.region rfl <| O.op (.p rfl) (.build (cs := [_, _, _, _]) Tryz.underlying27 rfl rfl rfl rfl rfl) <| O.call0 (.p rfl) rfl F.ok17 rfl rfl ((iPut_c (HeldRp.mk Arr.nil Arr.nil Arr.nil Arr.nil) (heldB0 [] (by decide)))) ?_
 rintro v9 _ ⟨a9, c9, rfl, rfl⟩
 try simp only [zx1, zx2, zx3]
 rw [imgOut0, imgErr0]
 refine O.q 5 rfl <| O.nil <| S.seq <| S.frzA (by repeat (first | exact zh | apply zt)) fun g hs hm hz1 => ?_
 replace hg := Fr.sub_trans hg hs
 replace hR := melted hR hm
 clear hs hm
 refine S.region rfl <| O.opE (.p rfl) (.litP (T := Rp.i64) (ys := [2]) Tryz.underlying25 F.elem3 (by decide) rfl rfl ⟨⟨rfl, by first | assumption | (constructor <;> omega)⟩, trivial⟩ (by decide)) ?_
 rintro _ _ ⟨a13, c13, rfl, rfl⟩
 refine O.op (.p rfl) (.build (cs := [_, _, _, _]) Tryz.underlying27 rfl rfl rfl rfl rfl) <| O.callB (.p rfl) rfl F.ok17 rfl rfl (bs := [OwnP Rp.i64 3 (.slice a13 1 c13) [2]]) (by repeat (first | exact zsn | (apply zsc; focus (repeat (first | exact zh | apply zt))))) (fun m hm hd => iPut_c (HeldRp.mk Arr.nil Arr.nil Arr.nil (hm.arr.right hd)) (heldB0 [2] (by decide))) ?_
 rintro v15 _ ⟨a15, c15, rfl, rfl⟩
 try simp only [zx1, zx2, zx3]
 rw [imgOut1, imgErr1]
 refine O.q 5 rfl <| O.nil <| S.seq <| S.frzA (by repeat (first | exact zh | apply zt)) fun g hs hm hz2 => ?_
 replace hg := Fr.sub_trans hg hs
 replace hR := melted hR hm
 try replace hz1 := hz1.mono hs
 clear hs hm
 refine S.region rfl <| O.opE (.p rfl) (.litP (T := Rp.i64) (ys := [2, 1]) Tryz.underlying25 F.elem3 (by decide) rfl rfl ⟨⟨rfl, by first | assumption | (constructor <;> omega)⟩, ⟨rfl, by first | assumption | (constructor <;> omega)⟩, trivial⟩ (by decide)) ?_
 rintro _ _ ⟨a19, c19, rfl, rfl⟩
 refine O.op (.p rfl) (.build (cs := [_, _, _, _]) Tryz.underlying27 rfl rfl rfl rfl rfl) <| O.callB (.p rfl) rfl F.ok17 rfl rfl (bs := [OwnP Rp.i64 3 (.slice a19 2 c19) [2, 1]]) (by repeat (first | exact zsn | (apply zsc; focus (repeat (first | exact zh | apply zt))))) (fun m hm hd => iPut_c (HeldRp.mk Arr.nil Arr.nil Arr.nil (hm.arr.right hd)) (heldB0 [2, 1] (by decide))) ?_
 rintro v21 _ ⟨a21, c21, rfl, rfl⟩
 try simp only [zx1, zx2, zx3]
 rw [imgErr2]
 refine O.q 5 rfl <| O.nil <| S.seq <| S.region rfl <| O.q 1 rfl <| O.op (.p rfl) (.eql rfl rfl) <| O.sT 25 rfl (by rfl) ?_
 refine O.q 2 rfl <| O.opE (.g rfl rfl) (.makeP (T := Rp.u8) (0 : UInt8) (m := 32) Tryz.underlying31 F.elem5 (by decide) rfl rfl rfl rfl rfl (by decide) (by decide)) ?_
 rintro v28 _ ⟨a28, c28, rfl, rfl⟩
 refine O.callB (.g rfl rfl) rfl F.ok19 rfl rfl (bs := [OwnP Rp.u8 5 (.slice a28 32 c28) (List.replicate 32 0)]) (by repeat (first | exact zsn | (apply zsc; focus (repeat (first | exact zh | apply zt))))) (fun m hm hd => SameBytes_c hz1.left (hm.arr.right hd)) ?_
 rintro v29 _ ⟨rfl, rfl⟩
 try simp only [zx1, zx2, zx3]
 refine O.sT 29 rfl (by rfl) ?_
 refine O.q 3 rfl <| O.op (.g rfl rfl) (.eql rfl rfl) <| O.sT 33 rfl (by rfl) ?_
 refine O.q 3 rfl <| O.op (.g rfl rfl) (.len rfl Tryz.underlying31 rfl) <| O.op (.g rfl rfl) (.eql rfl rfl) <| O.sT 38 rfl (by rfl) ?_
 refine O.q 3 rfl <| O.ia (.g rfl rfl) Tryz.underlying31 F.size5 rfl rfl (show _ = (((31) : Nat) : Int) by omega) (hz2) (h := fun p42 cs42 hp42 hr42 => ?_)
 cases hr42
 refine O.op (.g rfl rfl) (.loadAt F.flat5 rfl hp42 rfl) ?_
 refine O.op (.g rfl rfl) (.eql rfl rfl) <| O.sT 44 rfl (by rfl) ?_
 refine O.q 3 rfl <| O.ia (.g rfl rfl) Tryz.underlying31 F.size5 rfl rfl (show _ = (((39) : Nat) : Int) by omega) (hz2) (h := fun p48 cs48 hp48 hr48 => ?_)
 cases hr48
 refine O.op (.g rfl rfl) (.loadAt F.flat5 rfl hp48 rfl) ?_
 refine O.op (.g rfl rfl) (.eql rfl rfl) <| O.sT 50 rfl (by rfl) ?_
 refine O.q 3 rfl <| O.op (.g rfl rfl) (.eql rfl rfl) <| O.sT 54 rfl (by rfl) ?_
 refine O.q 2 rfl <| O.nil ?_
 exact S.rt Tryz.results15 rfl hR ⟨rfl, rfl⟩
end Go.Proofs.YtodhbhanmdfdeaaGreat
end
section
/- Texts of this proof. -/
open Go Go.Sp
set_option maxRecDepth 100000
attribute [local irreducible] obj Own OwnP
namespace Go.Proofs.YtodhbhanmdfdeaaGreat
theorem triedB_ret {g : Gr} {bt bx : Nat} {x : Value} {T' : TypeId} {w : World} {R : Ending → World → Prop} {η : List SProp} (hw : Holds w g (obj bx T' [x] :: η)) (hR : ∀ w, Holds w g (obj bx T' [x] :: η) → R (.returned x) w) :
  CallsD Tryz.prog 326 #[.pointer (some ⟨bt, 0, none⟩), .pointer (some ⟨bx, 0, none⟩)] .returning w (DPost g bx R) := by
 refine (callsD_rec (R := fun e w => (∃ v, e = .returned v) ∧ Holds w g (obj bx T' [x] :: η)) [.pointer (some ⟨bt, 0, none⟩), .pointer (some ⟨bx, 0, none⟩)] rfl Tryz.func326 rfl rfl rfl rfl hw ?_).mono ?_
 rotate_left
 ·rintro e u' w' ⟨rfl, ⟨v, rfl⟩, h⟩
  exact ⟨⟨v, rfl⟩, rfl, T', x, η, h, hR w' h⟩
 refine S.seq <| S.region rfl <| O.q 1 rfl <| O.op (.p rfl) (.neqIN Tryz.underlying20 rfl) <| O.nil <| S.condF rfl <| S.skip <| S.end0 Tryz.results326 fun w hw => ?_
 exact ⟨⟨_, rfl⟩, hw⟩
theorem triedB_pan {g : Gr} {bt bx b : Nat} {v x : Value} {made bad : Bool} {T' Tt : TypeId} {w : World} {R : Ending → World → Prop} {η : List SProp} (hw : Holds w g (obj bx T' [x] :: obj bt Tt [.pointer (some ⟨b, 0, none⟩)] :: obj b 226 [v, .bool made, .bool bad] :: η))
  (hR : ∀ w, Holds w g (obj bx T' [.int .u8 0] :: obj b 226 [v, .bool made, .bool true] :: η) → R (.returned (.int .u8 0)) w) :
  CallsD Tryz.prog 326 #[.pointer (some ⟨bt, 0, none⟩), .pointer (some ⟨bx, 0, none⟩)] (.panicking missing) w (DPost g bx R) := by
 refine (callsD_rec (R := fun e w => (∃ v, e = .returned v) ∧ Holds w g (obj bx T' [.int .u8 0] :: obj b 226 [v, .bool made, .bool true] :: η)) [.pointer (some ⟨bt, 0, none⟩), .pointer (some ⟨bx, 0, none⟩)] rfl Tryz.func326 rfl rfl rfl rfl hw ?_).mono ?_
 rotate_left
 ·rintro e u' w' ⟨rfl, ⟨v, rfl⟩, h⟩
  exact ⟨⟨v, rfl⟩, rfl, T', _, _, h, hR w' h⟩
 refine S.seq <| S.region rfl <| O.q 1 rfl <| O.op (.p rfl) (.neqIV Tryz.underlying20 rfl) <| O.nil <| S.condT rfl <| S.seq <| S.seq <| S.region rfl <| O.q 1 rfl <| O.op (.p rfl) (.assertYes Tryz.underlying326 rfl) <| O.q 3 rfl <| O.opE (.p rfl) (.alloc (cs := []) Tryz.zeroValue326 rfl) ?_
 rintro _ _ ⟨b3, rfl, rfl⟩
 refine O.opU rfl (.storeObj (by kernel_rfl) rfl rfl rfl rfl (by repeat (first | exact zh | apply zt)) (by first | (simp; done) | (simp [Value.cells]; done))) ?_
 refine O.q 1 rfl <| O.nil <| S.seq <| S.region rfl <| O.q 1 rfl <| O.op (.p rfl) (.not rfl) <| O.nil <| S.condF rfl <| S.skip <| S.seq <| S.region rfl <| O.op (.p rfl) (.lo F.flat126) ?_
 refine O.op (.p rfl) (.nilCheck rfl) <| O.op (.p rfl) (.fieldObj F.fld226x2 rfl) <| O.opU rfl (.store1 F.flat4 rfl rfl (by first | rfl | assumption) (by repeat (first | exact zh | apply zt)) (by first | (simp; done) | (simp [Value.cells]; done))) ?_
 refine O.nil <| S.seq <| S.region rfl <| O.q 1 rfl <| O.nil <| S.region rfl <| O.q 1 rfl <| O.opU rfl (.store1 F.flat5 rfl rfl (by first | rfl | assumption) (by repeat (first | exact zh | apply zt)) (by first | (simp; done) | (simp [Value.cells]; done))) ?_
 refine O.nil <| S.end0 Tryz.results326 fun w hw => ?_
 exact ⟨⟨_, rfl⟩, hw.picks (by repeat (first | exact zpa | exact zpn | (apply zpc; focus (repeat (first | exact zh | apply zt))) | apply zps))⟩
theorem triedB_c {r : Fr} {b f : Nat} {v : Value} {made bad : Bool} {first cap : Array Value} {K : Value → Value → List SProp → Prop} {X : Value → Prop} (hc : callable Tryz.prog f = true) (hK1 : ∀ u v' ζ, K u v' ζ → u.oneCell' = true)
  (con : made = true → bad = false → Con Tryz.prog f (first ++ #[] ++ cap) r [obj b 226 [v, .bool true, .bool false]] (RetP (fun u η => ∃ v' ζ, K u v' ζ ∧ η = obj b 226 [v', .bool true, .bool false] :: ζ) (fun ch η => ch = missing ∧ ∃ v', X v' ∧ η = [obj b 226 [v', .bool true, .bool false]]))) :
  Con Tryz.prog 294 #[.pointer (some ⟨b, 0, none⟩), .func (.func f) first cap] r [obj b 226 [v, .bool made, .bool bad]] (Ret fun u η =>
   ((made && !bad) = false ∧ u = .int .u8 0 ∧ η = [obj b 226 [v, .bool made, .bool bad]]) ∨ (made = true ∧ bad = false ∧ ∃ v' ζ, K u v' ζ ∧ η = obj b 226 [v', .bool true, .bool false] :: ζ) ∨
   (made = true ∧ bad = false ∧ ∃ v', X v' ∧ u = .int .u8 0 ∧ η = [obj b 226 [v', .bool true, .bool true]])) := by
 refine Con.of (n := 12) [.pointer (some ⟨b, 0, none⟩), .func (.func f) first cap] rfl Tryz.func294 rfl rfl rfl fun g hg R hR => ?_
 refine S.seq <| S.region rfl <| O.opE (.p rfl) (.box (cs := [_]) rfl rfl) ?_
 rintro _ _ ⟨b2, rfl, rfl⟩
 refine O.opE (.p rfl) (.alloc (cs := [.int .u8 0]) Tryz.zeroValue5 rfl) ?_
 rintro _ _ ⟨b4, rfl, rfl⟩
 refine O.nil <| S.seq <| S.seq <| S.region rfl <| O.op (.p rfl) (.lo F.flat126) ?_
 refine O.callS (.p rfl) rfl F.ok188 rfl rfl (by repeat (first | exact zh | apply zt)) rGood_c ?_
 rintro v6 _ ⟨rfl, rfl⟩
 try simp only [zx1, zx2, zx3]
 refine O.op (.p rfl) ((by first | exact .notD rfl | exact .not rfl)) ?_
 refine O.nil ?_
 first | refine S.condD rfl (fun h7 => ?_) (fun h7 => ?_) | refine S.condB rfl (fun h7 => ?_) (fun h7 => ?_)
 ·refine S.seq <| S.region rfl <| O.op (.p rfl) (.lo F.flat5) ?_
  refine O.opU rfl (.store1 F.flat5 rfl rfl (by first | rfl | assumption) (by repeat (first | exact zh | apply zt)) (by first | (simp; done) | (simp [Value.cells]; done))) ?_
  refine O.nil <| S.retCell Tryz.results294 F.flat5 rfl (by repeat (first | exact zh | apply zt)) fun w hw => Holds.end_ hR hw ?_
  exact pk (.inl ⟨by revert h7; cases made <;> cases bad <;> simp, rfl, rfl⟩)
 ·obtain ⟨rfl, rfl⟩ : made = true ∧ bad = false := by revert h7; cases made <;> cases bad <;> simp
  refine S.skip <| S.seq <| S.region rfl <| O.op (.p rfl) (.mkFunc rfl rfl) <| O.defer rfl rfl rfl rfl ?_
  refine O.nil <| S.seq <| S.region rfl <| O.q 1 rfl <| O.callPSD (.p rfl) rfl hc rfl rfl (by repeat (first | exact zh | apply zt)) ((con rfl rfl).sub hg) (fun a ch η' w hF hX hW => by (obtain ⟨rfl, v', hX', rfl⟩ := hX; exact leavesCell Tryz.results294 F.flat5 hF rfl (by simp) F.ok326 (triedB_pan (hW.picks (by repeat (first | exact zpa | exact zpn | (apply zpc; focus (repeat (first | exact zh | apply zt))) | apply zps))) fun w hw => Holds.end_ hR hw ⟨_, .inr (.inr ⟨rfl, rfl, v', hX', rfl, rfl⟩), by repeat (first | exact zpa | exact zpn | (apply zpc; focus (repeat (first | exact zh | apply zt))) | apply zps)⟩))) ?_
  rintro v11 _ ⟨v', ζ, hK, rfl⟩
  try simp only [zx1, zx2, zx3]
  have hone := hK1 _ _ _ hK
  refine O.perm (List.Perm.cons _ List.perm_append_comm) ?_
  simp only [List.cons_append, List.nil_append]
  refine O.opU rfl (.store1 F.flat5 rfl rfl (by first | rfl | assumption) (by repeat (first | exact zh | apply zt)) (by first | (simp; done) | (simp [Value.cells]; done))) ?_
  refine O.nil <| S.retL fun a w hf hd hw => ?_
  exact leavesCell Tryz.results294 F.flat5 hf rfl (by simp) F.ok326 (triedB_ret hw fun w hw => Holds.end_ hR hw ⟨_, .inr (.inl ⟨rfl, rfl, v', ζ, hK, rfl⟩), by repeat (first | exact zpa | exact zpn | (apply zpc; focus (repeat (first | exact zh | apply zt))) | apply zps)⟩)
theorem triedI_ret {g : Gr} {bt bx : Nat} {x : Value} {T' : TypeId} {w : World} {R : Ending → World → Prop} {η : List SProp} (hw : Holds w g (obj bx T' [x] :: η)) (hR : ∀ w, Holds w g (obj bx T' [x] :: η) → R (.returned x) w) :
  CallsD Tryz.prog 272 #[.pointer (some ⟨bt, 0, none⟩), .pointer (some ⟨bx, 0, none⟩)] .returning w (DPost g bx R) := by
 refine (callsD_rec (R := fun e w => (∃ v, e = .returned v) ∧ Holds w g (obj bx T' [x] :: η)) [.pointer (some ⟨bt, 0, none⟩), .pointer (some ⟨bx, 0, none⟩)] rfl Tryz.func272 rfl rfl rfl rfl hw ?_).mono ?_
 rotate_left
 ·rintro e u' w' ⟨rfl, ⟨v, rfl⟩, h⟩
  exact ⟨⟨v, rfl⟩, rfl, T', x, η, h, hR w' h⟩
 refine S.seq <| S.region rfl <| O.q 1 rfl <| O.op (.p rfl) (.neqIN Tryz.underlying20 rfl) <| O.nil <| S.condF rfl <| S.skip <| S.end0 Tryz.results272 fun w hw => ?_
 exact ⟨⟨_, rfl⟩, hw⟩
theorem triedI_pan {g : Gr} {bt bx b : Nat} {v x : Value} {made bad : Bool} {T' Tt : TypeId} {w : World} {R : Ending → World → Prop} {η : List SProp} (hw : Holds w g (obj bx T' [x] :: obj bt Tt [.pointer (some ⟨b, 0, none⟩)] :: obj b 226 [v, .bool made, .bool bad] :: η))
  (hR : ∀ w, Holds w g (obj bx T' [.int .i64 0] :: obj b 226 [v, .bool made, .bool true] :: η) → R (.returned (.int .i64 0)) w) :
  CallsD Tryz.prog 272 #[.pointer (some ⟨bt, 0, none⟩), .pointer (some ⟨bx, 0, none⟩)] (.panicking missing) w (DPost g bx R) := by
 refine (callsD_rec (R := fun e w => (∃ v, e = .returned v) ∧ Holds w g (obj bx T' [.int .i64 0] :: obj b 226 [v, .bool made, .bool true] :: η)) [.pointer (some ⟨bt, 0, none⟩), .pointer (some ⟨bx, 0, none⟩)] rfl Tryz.func272 rfl rfl rfl rfl hw ?_).mono ?_
 rotate_left
 ·rintro e u' w' ⟨rfl, ⟨v, rfl⟩, h⟩
  exact ⟨⟨v, rfl⟩, rfl, T', _, _, h, hR w' h⟩
 refine S.seq <| S.region rfl <| O.q 1 rfl <| O.op (.p rfl) (.neqIV Tryz.underlying20 rfl) <| O.nil <| S.condT rfl <| S.seq <| S.seq <| S.region rfl <| O.q 1 rfl <| O.op (.p rfl) (.assertYes Tryz.underlying326 rfl) <| O.q 3 rfl <| O.opE (.p rfl) (.alloc (cs := []) Tryz.zeroValue326 rfl) ?_
 rintro _ _ ⟨b3, rfl, rfl⟩
 refine O.opU rfl (.storeObj (by kernel_rfl) rfl rfl rfl rfl (by repeat (first | exact zh | apply zt)) (by first | (simp; done) | (simp [Value.cells]; done))) ?_
 refine O.q 1 rfl <| O.nil <| S.seq <| S.region rfl <| O.q 1 rfl <| O.op (.p rfl) (.not rfl) <| O.nil <| S.condF rfl <| S.skip <| S.seq <| S.region rfl <| O.op (.p rfl) (.lo F.flat126) ?_
 refine O.op (.p rfl) (.nilCheck rfl) <| O.op (.p rfl) (.fieldObj F.fld226x2 rfl) <| O.opU rfl (.store1 F.flat4 rfl rfl (by first | rfl | assumption) (by repeat (first | exact zh | apply zt)) (by first | (simp; done) | (simp [Value.cells]; done))) ?_
 refine O.nil <| S.seq <| S.region rfl <| O.q 1 rfl <| O.nil <| S.region rfl <| O.q 1 rfl <| O.opU rfl (.store1 F.flat3 rfl rfl (by first | rfl | assumption) (by repeat (first | exact zh | apply zt)) (by first | (simp; done) | (simp [Value.cells]; done))) ?_
 refine O.nil <| S.end0 Tryz.results272 fun w hw => ?_
 exact ⟨⟨_, rfl⟩, hw.picks (by repeat (first | exact zpa | exact zpn | (apply zpc; focus (repeat (first | exact zh | apply zt))) | apply zps))⟩
theorem triedI_c {r : Fr} {b f : Nat} {v : Value} {made bad : Bool} {first cap : Array Value} {K : Value → Value → List SProp → Prop} {X : Value → Prop} (hc : callable Tryz.prog f = true) (hK1 : ∀ u v' ζ, K u v' ζ → u.oneCell' = true)
  (con : made = true → bad = false → Con Tryz.prog f (first ++ #[] ++ cap) r [obj b 226 [v, .bool true, .bool false]] (RetP (fun u η => ∃ v' ζ, K u v' ζ ∧ η = obj b 226 [v', .bool true, .bool false] :: ζ) (fun ch η => ch = missing ∧ ∃ v', X v' ∧ η = [obj b 226 [v', .bool true, .bool false]]))) :
  Con Tryz.prog 195 #[.pointer (some ⟨b, 0, none⟩), .func (.func f) first cap] r [obj b 226 [v, .bool made, .bool bad]] (Ret fun u η =>
   ((made && !bad) = false ∧ u = .int .i64 0 ∧ η = [obj b 226 [v, .bool made, .bool bad]]) ∨ (made = true ∧ bad = false ∧ ∃ v' ζ, K u v' ζ ∧ η = obj b 226 [v', .bool true, .bool false] :: ζ) ∨
   (made = true ∧ bad = false ∧ ∃ v', X v' ∧ u = .int .i64 0 ∧ η = [obj b 226 [v', .bool true, .bool true]])) := by
 refine Con.of (n := 12) [.pointer (some ⟨b, 0, none⟩), .func (.func f) first cap] rfl Tryz.func195 rfl rfl rfl fun g hg R hR => ?_
 refine S.seq <| S.region rfl <| O.opE (.p rfl) (.box (cs := [_]) rfl rfl) ?_
 rintro _ _ ⟨b2, rfl, rfl⟩
 refine O.opE (.p rfl) (.alloc (cs := [.int .i64 0]) Tryz.zeroValue3 rfl) ?_
 rintro _ _ ⟨b4, rfl, rfl⟩
 refine O.nil <| S.seq <| S.seq <| S.region rfl <| O.op (.p rfl) (.lo F.flat126) ?_
 refine O.callS (.p rfl) rfl F.ok188 rfl rfl (by repeat (first | exact zh | apply zt)) rGood_c ?_
 rintro v6 _ ⟨rfl, rfl⟩
 try simp only [zx1, zx2, zx3]
 refine O.op (.p rfl) ((by first | exact .notD rfl | exact .not rfl)) ?_
 refine O.nil ?_
 first | refine S.condD rfl (fun h7 => ?_) (fun h7 => ?_) | refine S.condB rfl (fun h7 => ?_) (fun h7 => ?_)
 ·refine S.seq <| S.region rfl <| O.op (.p rfl) (.lo F.flat3) ?_
  refine O.opU rfl (.store1 F.flat3 rfl rfl (by first | rfl | assumption) (by repeat (first | exact zh | apply zt)) (by first | (simp; done) | (simp [Value.cells]; done))) ?_
  refine O.nil <| S.retCell Tryz.results195 F.flat3 rfl (by repeat (first | exact zh | apply zt)) fun w hw => Holds.end_ hR hw ?_
  exact pk (.inl ⟨by revert h7; cases made <;> cases bad <;> simp, rfl, rfl⟩)
 ·obtain ⟨rfl, rfl⟩ : made = true ∧ bad = false := by revert h7; cases made <;> cases bad <;> simp
  refine S.skip <| S.seq <| S.region rfl <| O.op (.p rfl) (.mkFunc rfl rfl) <| O.defer rfl rfl rfl rfl ?_
  refine O.nil <| S.seq <| S.region rfl <| O.q 1 rfl <| O.callPSD (.p rfl) rfl hc rfl rfl (by repeat (first | exact zh | apply zt)) ((con rfl rfl).sub hg) (fun a ch η' w hF hX hW => by (obtain ⟨rfl, v', hX', rfl⟩ := hX; exact leavesCell Tryz.results195 F.flat3 hF rfl (by simp) F.ok272 (triedI_pan (hW.picks (by repeat (first | exact zpa | exact zpn | (apply zpc; focus (repeat (first | exact zh | apply zt))) | apply zps))) fun w hw => Holds.end_ hR hw ⟨_, .inr (.inr ⟨rfl, rfl, v', hX', rfl, rfl⟩), by repeat (first | exact zpa | exact zpn | (apply zpc; focus (repeat (first | exact zh | apply zt))) | apply zps)⟩))) ?_
  rintro v11 _ ⟨v', ζ, hK, rfl⟩
  try simp only [zx1, zx2, zx3]
  have hone := hK1 _ _ _ hK
  refine O.perm (List.Perm.cons _ List.perm_append_comm) ?_
  simp only [List.cons_append, List.nil_append]
  refine O.opU rfl (.store1 F.flat3 rfl rfl (by first | rfl | assumption) (by repeat (first | exact zh | apply zt)) (by first | (simp; done) | (simp [Value.cells]; done))) ?_
  refine O.nil <| S.retL fun a w hf hd hw => ?_
  exact leavesCell Tryz.results195 F.flat3 hf rfl (by simp) F.ok272 (triedI_ret hw fun w hw => Holds.end_ hR hw ⟨_, .inr (.inl ⟨rfl, rfl, v', ζ, hK, rfl⟩), by repeat (first | exact zpa | exact zpn | (apply zpc; focus (repeat (first | exact zh | apply zt))) | apply zps)⟩)
theorem triedS_ret {g : Gr} {bt bx : Nat} {x : Value} {T' : TypeId} {w : World} {R : Ending → World → Prop} {η : List SProp} (hw : Holds w g (obj bx T' [x] :: η)) (hR : ∀ w, Holds w g (obj bx T' [x] :: η) → R (.returned x) w) :
  CallsD Tryz.prog 296 #[.pointer (some ⟨bt, 0, none⟩), .pointer (some ⟨bx, 0, none⟩)] .returning w (DPost g bx R) := by
 refine (callsD_rec (R := fun e w => (∃ v, e = .returned v) ∧ Holds w g (obj bx T' [x] :: η)) [.pointer (some ⟨bt, 0, none⟩), .pointer (some ⟨bx, 0, none⟩)] rfl Tryz.func296 rfl rfl rfl rfl hw ?_).mono ?_
 rotate_left
 ·rintro e u' w' ⟨rfl, ⟨v, rfl⟩, h⟩
  exact ⟨⟨v, rfl⟩, rfl, T', x, η, h, hR w' h⟩
 refine S.seq <| S.region rfl <| O.q 1 rfl <| O.op (.p rfl) (.neqIN Tryz.underlying20 rfl) <| O.nil <| S.condF rfl <| S.skip <| S.end0 Tryz.results296 fun w hw => ?_
 exact ⟨⟨_, rfl⟩, hw⟩
theorem triedS_pan {g : Gr} {bt bx b : Nat} {v x : Value} {made bad : Bool} {T' Tt : TypeId} {w : World} {R : Ending → World → Prop} {η : List SProp} (hw : Holds w g (obj bx T' [x] :: obj bt Tt [.pointer (some ⟨b, 0, none⟩)] :: obj b 226 [v, .bool made, .bool bad] :: η))
  (hR : ∀ w, Holds w g (obj bx T' [.slice none 0 0] :: obj b 226 [v, .bool made, .bool true] :: η) → R (.returned (.slice none 0 0)) w) :
  CallsD Tryz.prog 296 #[.pointer (some ⟨bt, 0, none⟩), .pointer (some ⟨bx, 0, none⟩)] (.panicking missing) w (DPost g bx R) := by
 refine (callsD_rec (R := fun e w => (∃ v, e = .returned v) ∧ Holds w g (obj bx T' [.slice none 0 0] :: obj b 226 [v, .bool made, .bool true] :: η)) [.pointer (some ⟨bt, 0, none⟩), .pointer (some ⟨bx, 0, none⟩)] rfl Tryz.func296 rfl rfl rfl rfl hw ?_).mono ?_
 rotate_left
 ·rintro e u' w' ⟨rfl, ⟨v, rfl⟩, h⟩
  exact ⟨⟨v, rfl⟩, rfl, T', _, _, h, hR w' h⟩
 refine S.seq <| S.region rfl <| O.q 1 rfl <| O.op (.p rfl) (.neqIV Tryz.underlying20 rfl) <| O.nil <| S.condT rfl <| S.seq <| S.seq <| S.region rfl <| O.q 1 rfl <| O.op (.p rfl) (.assertYes Tryz.underlying326 rfl) <| O.q 3 rfl <| O.opE (.p rfl) (.alloc (cs := []) Tryz.zeroValue326 rfl) ?_
 rintro _ _ ⟨b3, rfl, rfl⟩
 refine O.opU rfl (.storeObj (by kernel_rfl) rfl rfl rfl rfl (by repeat (first | exact zh | apply zt)) (by first | (simp; done) | (simp [Value.cells]; done))) ?_
 refine O.q 1 rfl <| O.nil <| S.seq <| S.region rfl <| O.q 1 rfl <| O.op (.p rfl) (.not rfl) <| O.nil <| S.condF rfl <| S.skip <| S.seq <| S.region rfl <| O.op (.p rfl) (.lo F.flat126) ?_
 refine O.op (.p rfl) (.nilCheck rfl) <| O.op (.p rfl) (.fieldObj F.fld226x2 rfl) <| O.opU rfl (.store1 F.flat4 rfl rfl (by first | rfl | assumption) (by repeat (first | exact zh | apply zt)) (by first | (simp; done) | (simp [Value.cells]; done))) ?_
 refine O.nil <| S.seq <| S.region rfl <| O.q 1 rfl <| O.nil <| S.region rfl <| O.q 1 rfl <| O.opU rfl (.store1 F.flat31 rfl rfl (by first | rfl | assumption) (by repeat (first | exact zh | apply zt)) (by first | (simp; done) | (simp [Value.cells]; done))) ?_
 refine O.nil <| S.end0 Tryz.results296 fun w hw => ?_
 exact ⟨⟨_, rfl⟩, hw.picks (by repeat (first | exact zpa | exact zpn | (apply zpc; focus (repeat (first | exact zh | apply zt))) | apply zps))⟩
theorem triedS_c {r : Fr} {b f : Nat} {v : Value} {made bad : Bool} {first cap : Array Value} {K : Value → Value → List SProp → Prop} {X : Value → Prop} (hc : callable Tryz.prog f = true) (hK1 : ∀ u v' ζ, K u v' ζ → u.oneCell' = true)
  (con : made = true → bad = false → Con Tryz.prog f (first ++ #[] ++ cap) r [obj b 226 [v, .bool true, .bool false]] (RetP (fun u η => ∃ v' ζ, K u v' ζ ∧ η = obj b 226 [v', .bool true, .bool false] :: ζ) (fun ch η => ch = missing ∧ ∃ v', X v' ∧ η = [obj b 226 [v', .bool true, .bool false]]))) :
  Con Tryz.prog 230 #[.pointer (some ⟨b, 0, none⟩), .func (.func f) first cap] r [obj b 226 [v, .bool made, .bool bad]] (Ret fun u η =>
   ((made && !bad) = false ∧ u = .slice none 0 0 ∧ η = [obj b 226 [v, .bool made, .bool bad]]) ∨ (made = true ∧ bad = false ∧ ∃ v' ζ, K u v' ζ ∧ η = obj b 226 [v', .bool true, .bool false] :: ζ) ∨
   (made = true ∧ bad = false ∧ ∃ v', X v' ∧ u = .slice none 0 0 ∧ η = [obj b 226 [v', .bool true, .bool true]])) := by
 refine Con.of (n := 12) [.pointer (some ⟨b, 0, none⟩), .func (.func f) first cap] rfl Tryz.func230 rfl rfl rfl fun g hg R hR => ?_
 refine S.seq <| S.region rfl <| O.opE (.p rfl) (.box (cs := [_]) rfl rfl) ?_
 rintro _ _ ⟨b2, rfl, rfl⟩
 refine O.opE (.p rfl) (.alloc (cs := [.slice none 0 0]) Tryz.zeroValue31 rfl) ?_
 rintro _ _ ⟨b4, rfl, rfl⟩
 refine O.nil <| S.seq <| S.seq <| S.region rfl <| O.op (.p rfl) (.lo F.flat126) ?_
 refine O.callS (.p rfl) rfl F.ok188 rfl rfl (by repeat (first | exact zh | apply zt)) rGood_c ?_
 rintro v6 _ ⟨rfl, rfl⟩
 try simp only [zx1, zx2, zx3]
 refine O.op (.p rfl) ((by first | exact .notD rfl | exact .not rfl)) ?_
 refine O.nil ?_
 first | refine S.condD rfl (fun h7 => ?_) (fun h7 => ?_) | refine S.condB rfl (fun h7 => ?_) (fun h7 => ?_)
 ·refine S.seq <| S.region rfl <| O.op (.p rfl) (.lo F.flat31) ?_
  refine O.opU rfl (.store1 F.flat31 rfl rfl (by first | rfl | assumption) (by repeat (first | exact zh | apply zt)) (by first | (simp; done) | (simp [Value.cells]; done))) ?_
  refine O.nil <| S.retCell Tryz.results230 F.flat31 rfl (by repeat (first | exact zh | apply zt)) fun w hw => Holds.end_ hR hw ?_
  exact pk (.inl ⟨by revert h7; cases made <;> cases bad <;> simp, rfl, rfl⟩)
 ·obtain ⟨rfl, rfl⟩ : made = true ∧ bad = false := by revert h7; cases made <;> cases bad <;> simp
  refine S.skip <| S.seq <| S.region rfl <| O.op (.p rfl) (.mkFunc rfl rfl) <| O.defer rfl rfl rfl rfl ?_
  refine O.nil <| S.seq <| S.region rfl <| O.q 1 rfl <| O.callPSD (.p rfl) rfl hc rfl rfl (by repeat (first | exact zh | apply zt)) ((con rfl rfl).sub hg) (fun a ch η' w hF hX hW => by (obtain ⟨rfl, v', hX', rfl⟩ := hX; exact leavesCell Tryz.results230 F.flat31 hF rfl (by simp) F.ok296 (triedS_pan (hW.picks (by repeat (first | exact zpa | exact zpn | (apply zpc; focus (repeat (first | exact zh | apply zt))) | apply zps))) fun w hw => Holds.end_ hR hw ⟨_, .inr (.inr ⟨rfl, rfl, v', hX', rfl, rfl⟩), by repeat (first | exact zpa | exact zpn | (apply zpc; focus (repeat (first | exact zh | apply zt))) | apply zps)⟩))) ?_
  rintro v11 _ ⟨v', ζ, hK, rfl⟩
  try simp only [zx1, zx2, zx3]
  have hone := hK1 _ _ _ hK
  refine O.perm (List.Perm.cons _ List.perm_append_comm) ?_
  simp only [List.cons_append, List.nil_append]
  refine O.opU rfl (.store1 F.flat31 rfl rfl (by first | rfl | assumption) (by repeat (first | exact zh | apply zt)) (by first | (simp; done) | (simp [Value.cells]; done))) ?_
  refine O.nil <| S.retL fun a w hf hd hw => ?_
  exact leavesCell Tryz.results230 F.flat31 hf rfl (by simp) F.ok296 (triedS_ret hw fun w hw => Holds.end_ hR hw ⟨_, .inr (.inl ⟨rfl, rfl, v', ζ, hK, rfl⟩), by repeat (first | exact zpa | exact zpn | (apply zpc; focus (repeat (first | exact zh | apply zt))) | apply zps)⟩)
end Go.Proofs.YtodhbhanmdfdeaaGreat
end
