import Derived.Test.YtcghiboamlaenaaDoorSpMapT
/- A loop's next round, laid open. -/
namespace Go.Sp
variable {ro : Option Nat} {P : Program} {fn : Func} {n : Nat} {R : Ending → World → Prop} {k : List Item} {σ : List (Nat × Value)} {D : List Deferred} {g : Gr} {η : List SProp}
/-- once more around -/
theorem S.reloop {c : Code} (h : S ro P fn n R (.code c :: .inLoop c :: k) σ D g η) : S ro P fn n R (.inLoop c :: k) σ D g η :=
  fun a w hf hd hw => .step (fun _ _ => stepR_inLoop) (h a w hf hd hw)
end Go.Sp
