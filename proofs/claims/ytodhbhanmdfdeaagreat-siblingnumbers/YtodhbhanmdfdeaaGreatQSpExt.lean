/- Texts of this proof. -/
import Derived.Test.YtodhbhanmdfdeaaGreatQSpGo
import Derived.Lib.Bytealg
import Derived.Laws.Externs
namespace Go.Sp
theorem run_loadBytes (P:Program):∀ (xs:List UInt8) (a:Addr) (acc:ByteArray) (w:World),(∀ j (h:j<xs.length),w.cell? (a.add j)=some (byteV xs[j])) →
  (Extern.Bytes.loadBytes a xs.length acc).run P w=.ok ⟨acc.data++xs.toArray⟩ w
 |[],a,acc,w,_=>by simp [Extern.Bytes.loadBytes]
 |x::xs,a,acc,w,h=>by
  have h0:=h 0 (by simp);rw [Addr.add_zero] at h0;have ih:=run_loadBytes P xs (a.add 1) (acc.push x) w fun j hj=>by
   have:=h (j+1) (by simp;omega);rw [Addr.add_add,Nat.add_comm 1 j]
   simpa using this
  have hx:(x.toNat:Int).toNat.toUInt8=x:=by simp
  simp only [List.getElem_cons_zero,byteV] at h0;simp only [List.length_cons,Extern.Bytes.loadBytes,Sem.run_bind,run_load,h0,Result.andThen,hx,ih]
  congr 2
  simp [ByteArray.push]
theorem run_bytesOf {P:Program} {h:Fr} {v:Value} {xs:List UInt8} (ha:Arr Rp.u8 h v xs) {w:World} (hw:h.sub w.fr):(Extern.Bytes.bytesOf v).run P w=.ok (str xs) w:=by
 obtain ⟨css,hc,a,cap,rfl,h1,h2,h3,h4⟩:=ha;have hcs:css.flatten=xs.map byteV:=by
  clear h3 h4 h1 h2
  induction css generalizing xs with
  |nil=>cases xs with
   |nil=>rfl
   |cons _ _=>exact hc.elim
  |cons c css ih=>cases xs with
   |nil=>exact hc.elim
   |cons x xs=>rw [List.flatten_cons,ih hc.2,show c=[byteV x] from hc.1];rfl
 cases a with
 |none =>
  have:xs=[]:=by
   cases xs with
   |nil=>rfl
   |cons x xs=>obtain ⟨p,hp,_⟩:=h4 0 (by rw [hcs];simp);cases hp
  subst this
  simp [Extern.Bytes.bytesOf];rfl
 |some a =>
  have:=run_loadBytes P xs a .empty w fun j hj=>by
   obtain ⟨p,hp,hq⟩:=h4 j (by rw [hcs];simpa using hj)
   cases hp
   have:=Fr.cell_mono hw hq;simp only [hcs,List.getElem_map] at this;exact this
  simp only [Extern.Bytes.bytesOf,this]
  congr 1
  simp [str,ByteArray.empty,ByteArray.emptyWithCapacity]
  rfl
theorem run_compareSlices {P:Program} {h:Fr} {v u:Value} {xs ys:List UInt8} (ha:Arr Rp.u8 h v xs) (hb:Arr Rp.u8 h u ys) {w:World} (hw:h.sub w.fr) :
  (Extern.BytealgCompare.compare #[v,u]).run P w=.ok (.int .i64 (Lib.compareBytes xs ys)) w:=by
 change Sem.run P (do pure (goInt (Extern.BytealgCompare.cmp (← Extern.Bytes.bytesOf v) (← Extern.Bytes.bytesOf u)))) w=_
 simp only [Sem.run_bind,run_bytesOf ha hw,run_bytesOf hb hw,Sem.run_pure,Result.andThen];rw [Lib.cmp_eq]
 rfl
section
variable {P:Program} {σ:List (Nat × Value)} {g:Gr} {η:List SProp}
theorem Does.compareExt {f : FuncId} {fn : Func} {x y z : Operand} {ts : Array TypeId} {v u : Value} {xs ys : List UInt8} (hf : P.funcs[f]? = some fn) (h1 : (fn.name == "runtime.NumGoroutine") = false) (h2 : fn.body.isNone = true) (h3 : Extern.findNext fn = none) (h4 : Extern.find fn = some Extern.BytealgCompare.compare)
  (hx:ev σ x=some (.func (.func f) #[] #[])) (hy:ev σ y=some v) (hz:ev σ z=some u) (ha:Arr Rp.u8 g.h v xs) (hb:Arr Rp.u8 g.h u ys):Does P (.call ⟨.value x,#[y,z],ts⟩) σ g η (.int .i64 (Lib.compareBytes xs ys)) η:=by
 intro o ρ w ho hk hw
 refine ⟨w,?_,hw⟩;have e1:=run_callFunc_extern (P:=P) hf h1 h2 h3 h4 #[v,u] w;rw [run_compareSlices ha hb hw.ground] at e1;simp only [Result.andThen] at e1
 simp [execOp,ho,resolve,hk x _ hx,hk y _ hy,hk z _ hz,Deferred.ofValue,invoke,e1]
end
theorem compareBytes_lt:∀ {a b:List UInt8},Lib.compareBytes a b<0↔a<b
 |[],[]=>by simp [Lib.compareBytes]
 |[],b::bs=>by simp [Lib.compareBytes]
 |a::as,[]=>by simp [Lib.compareBytes]
 |a::as,b::bs=>by
  rw [Lib.compareBytes,List.cons_lt_cons_iff]
  by_cases h:a<b
  ·simp [h]
  ·by_cases h2:b<a
   ·have:a≠b:=fun e=>by subst e;exact UInt8.lt_irrefl _ h2
    simp [h,h2,this]
   ·have e:a=b:=UInt8.le_antisymm (UInt8.not_lt.1 h2) (UInt8.not_lt.1 h)
    subst e;rw [if_neg h,if_neg h2,compareBytes_lt]
    simp [UInt8.lt_irrefl]
theorem compareBytes_in (a b:List UInt8):InI64 (Lib.compareBytes a b):=by
 have:Lib.compareBytes a b= -1∨Lib.compareBytes a b=0∨Lib.compareBytes a b=1:=by
  induction a generalizing b with
  |nil=>cases b<;>simp [Lib.compareBytes]
  |cons x a ih=>cases b with
   |nil=>simp [Lib.compareBytes]
   |cons y b =>
    rw [Lib.compareBytes]
    split
    ·simp
    ·split
     ·simp
     ·exact ih b
 rcases this with h|h|h<;>rw [h]<;>constructor<;>decide
end Go.Sp
