/- Texts of this proof. -/
import Derived.Test.YtdjoggpacmpfnaaGreatDoorQSpLaid
namespace Go.Sp
section
variable {ro:Option Nat} {P:Program} {fn:Func} {n:Nat} {R:Ending→World→Prop} {k:List Item} {σ:List (Nat × Value)} {D:List Deferred} {g:bp} {aa ζ:List az} {ops:Array Oper} {L l:List Nat} {todo:List Item} {i d:Nat} {f:FuncId} {x:Operand} {xs:Array Operand} {ts:Array TypeId} {b9:List Value} {K:Value→List az→Prop} {X:List PanicEntry→List az→Prop}
theorem O.RB {first cap:Array Value} {bs:List az} (ho:cA ops i n σ d (.call ⟨.value x,xs,ts⟩)) (hx:aE σ x=some (.func (.func f) first cap)) (hc:ed P f=true)
  (hv:e8 σ xs.toList=some b9) {args:Array Value} (hargs:first++b9.toArray++cap=args) (hb:lC aa bs ζ) (con:aj P f args g.h bs (dg K X))
  (hp:∀ ch au w,X ch au →ax w g (au ++ζ)→R (.panicked ch) w)
  (h:∀ v au,K v au →O ro P fn n R ops l k ((d,v)::σ) [] g (au ++ζ)):O ro P fn n R ops (i::l) k σ [] g aa :=
 fun a w hf hd hw=>O.Fp (ζ:=ζ) ho hx hc hv hargs con hp h a w hf hd (hw.perm hb.perm)
theorem e3.cV {first cap:Array Value} (ho:cA ops i n σ d (.call ⟨.value x,xs,ts⟩)) (_:true=true) (hx:aE σ x=some (.func (.func f) first cap)) (hc:ed P f=true)
  (hv:e8 σ xs.toList=some b9) {args:Array Value} (hargs:first++b9.toArray++cap=args) (con:aj P f args g.h [] (dg K X))
  (hp:∀ ch au w,X ch au →ax w g (au ++aa)→R (.panicked ch) w)
  (h:∀ v au,K v au →ah P fn n R ops k [] g l ((d,v)::σ) (au ++aa)):bt P fn n R ops k [] g true (i::l) σ aa :=
 eo.mI (bZ:=true) (aa:=[]) (ζ:=aa) ho rfl hx hc hv hargs con (fun _ ch au w hX hW=>hp ch au w hX hW) h
theorem q9 {α:Type} {T:ag α} {e:TypeId} {m:Fr} (h:Sat aa m):Sat (ak T e (.slice none 0 0) []::aa) m :=
 ⟨Fr.emp,m,Fr.eA _,Fr.dY _,Fr.bH _,yA _,h⟩
theorem S.Ox {α:Type} (T:ag α) (e:TypeId) (h:S ro P fn n R todo σ D g (ak T e (.slice none 0 0) []::aa)):S ro P fn n R todo σ D g aa:=S.imp' (fun _=>q9) h
end
theorem dg.imp {K K' :Value→List az→Prop} {X X' :List PanicEntry→List az→Prop} (h1:∀ v aa,K v aa→K' v aa) (h2:∀ ch aa,X ch aa→X' ch aa):∀ e aa,dg K X e aa→dg K' X' e aa
 |.returned v,aa,h=>h1 v aa h
 |.panicked ch,aa,h=>h2 ch aa h
 |.outgrown,_,h=>h.elim
theorem aK.SZ {P:Program} {σ:List (Nat × Value)} {g:bp} {aa:List az} {t i:Nat} {fs:Array Field} {bZ:Field} {x:Operand} {cs:Array Value} {v:Value} (ht:P.underlying t=some (.struct fs)) (hf:fs[i]?=some bZ) (wq:gd P bZ.type=true) (hx:aE σ x=some (.agg cs)) (hv:cs[bZ.offset]?=some v) :
  aK P (.field t x i) σ g aa v aa :=
 .run fun o ρ w ho hk=>by
  simp [execOp,ho,hk x _ hx,Instr.field,run_underlying ht,hf,part,ve (uK wq),asAgg,hv]
end Go.Sp
