/- Texts of this proof. -/
import Derived.Test.YtdjoggpacmpfnaaGreatDoorQSpLaid
namespace Go.Sp
section
variable {ro:Option Nat} {P:Program} {fn:Func} {n:Nat} {R:Ending→World→Prop} {k:List Item} {σ:List (Nat × Value)} {D:List Deferred} {g:Gr} {η ζ:List SProp} {ops:Array Oper} {L l:List Nat} {todo:List Item} {i d:Nat} {f:FuncId} {x:Operand} {xs:Array Operand} {ts:Array TypeId} {vals:List Value} {K:Value→List SProp→Prop} {X:List PanicEntry→List SProp→Prop}
theorem O.callPSs {first cap:Array Value} {bs:List SProp} (ho:Fires ops i n σ d (.call ⟨.value x,xs,ts⟩)) (hx:ev σ x=some (.func (.func f) first cap)) (hc:callable P f=true)
  (hv:evs σ xs.toList=some vals) {args:Array Value} (hargs:first++vals.toArray++cap=args) (hb:Sels η bs ζ) (con:Con P f args g.h bs (RetP K X))
  (hp:∀ ch η' w,X ch η' →Holds w g (η' ++ζ)→R (.panicked ch) w)
  (h:∀ v η',K v η' →O ro P fn n R ops l k ((d,v)::σ) [] g (η' ++ζ)):O ro P fn n R ops (i::l) k σ [] g η :=
 fun a w hf hd hw=>O.callP (ζ:=ζ) ho hx hc hv hargs con hp h a w hf hd (hw.perm hb.perm)
theorem ODt.callP0 {first cap:Array Value} (ho:Fires ops i n σ d (.call ⟨.value x,xs,ts⟩)) (_:true=true) (hx:ev σ x=some (.func (.func f) first cap)) (hc:callable P f=true)
  (hv:evs σ xs.toList=some vals) {args:Array Value} (hargs:first++vals.toArray++cap=args) (con:Con P f args g.h [] (RetP K X))
  (hp:∀ ch η' w,X ch η' →Holds w g (η' ++η)→R (.panicked ch) w)
  (h:∀ v η',K v η' →OD P fn n R ops k [] g l ((d,v)::σ) (η' ++η)):ODx P fn n R ops k [] g true (i::l) σ η :=
 ODg.callT (fl:=true) (η:=[]) (ζ:=η) ho rfl hx hc hv hargs con (fun _ ch η' w hX hW=>hp ch η' w hX hW) h
theorem sat_ownNil {α:Type} {T:Rp α} {e:TypeId} {m:Fr} (h:Sat η m):Sat (OwnP T e (.slice none 0 0) []::η) m :=
 ⟨Fr.emp,m,Fr.emp_disj _,Fr.emp_sub _,Fr.sub_refl _,ownP_nil _,h⟩
end
theorem RetP.imp {K K' :Value→List SProp→Prop} {X X' :List PanicEntry→List SProp→Prop} (h1:∀ v η,K v η→K' v η) (h2:∀ ch η,X ch η→X' ch η):∀ e η,RetP K X e η→RetP K' X' e η
 |.returned v,η,h=>h1 v η h
 |.panicked ch,η,h=>h2 ch η h
 |.outgrown,_,h=>h.elim
theorem Does.fieldV {P:Program} {σ:List (Nat × Value)} {g:Gr} {η:List SProp} {t i:Nat} {fs:Array Field} {fl:Field} {x:Operand} {cs:Array Value} {v:Value} (ht:P.underlying t=some (.struct fs)) (hf:fs[i]?=some fl) (hty:flat1 P fl.type=true) (hx:ev σ x=some (.agg cs)) (hv:cs[fl.offset]?=some v) :
  Does P (.field t x i) σ g η v η :=
 .run fun o ρ w ho hk=>by
  simp [execOp,ho,hk x _ hx,Instr.field,run_underlying ht,hf,part,run_isAgg_flat (flat1_flat hty),asAgg,hv]
end Go.Sp
