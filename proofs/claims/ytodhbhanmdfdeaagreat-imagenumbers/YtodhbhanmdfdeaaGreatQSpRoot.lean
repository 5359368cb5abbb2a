/- Texts of this proof, one behind the other. -/
import Derived.Lib.Bytealg
import Derived.Laws.Externs
import Derived.Test.YtodhbhanmdfdeaaGreatQSpSib
section
/- Texts of this proof. -/
namespace Go.Sp
theorem run_loadBytes (P:Program):∀ (xs:List UInt8) (a:Addr) (acc:ByteArray) (w:World),(∀ j (h:j<xs.length),w.cell? (a.add j)=some (byteV xs[j])) →
  (Extern.Bytes.loadBytes a xs.length acc).run P w=.ok ⟨acc.data++xs.toArray⟩ w
 |[],a,acc,w,_=>by simp [Extern.Bytes.loadBytes]
 |x::xs,a,acc,w,h=>by
  have h0:=h 0 (by simp);rw [Addr.add_zero] at h0;have ih:=run_loadBytes P xs (a.add 1) (acc.push x) w fun j hj=>by
   have:=h (j+1) (by simp;omega);rw [Addr.add_add,Nat.add_comm 1 j]
   simpa using this
  have hx:(x.toNat:Int).toNat.toUInt8=x:=by simp
  simp only [List.getElem_cons_zero,byteV] at h0;simp only [List.length_cons,Extern.Bytes.loadBytes,Sem.run_bind,run_load,h0,Result.andThen,hx,ih]
  congr 2
  simp [ByteArray.push]
theorem run_bytesOf {P:Program} {h:Fr} {v:Value} {xs:List UInt8} (ha:Arr Rp.u8 h v xs) {w:World} (hw:h.sub w.fr):(Extern.Bytes.bytesOf v).run P w=.ok (str xs) w:=by
 obtain ⟨css,hc,a,cap,rfl,h1,h2,h3,h4⟩:=ha;have hcs:css.flatten=xs.map byteV:=by
  clear h3 h4 h1 h2
  induction css generalizing xs with
  |nil=>cases xs with
   |nil=>rfl
   |cons _ _=>exact hc.elim
  |cons c css ih=>cases xs with
   |nil=>exact hc.elim
   |cons x xs=>rw [List.flatten_cons,ih hc.2,show c=[byteV x] from hc.1];rfl
 cases a with
 |none =>
  have:xs=[]:=by
   cases xs with
   |nil=>rfl
   |cons x xs=>obtain ⟨p,hp,_⟩:=h4 0 (by rw [hcs];simp);cases hp
  subst this
  simp [Extern.Bytes.bytesOf];rfl
 |some a =>
  have:=run_loadBytes P xs a .empty w fun j hj=>by
   obtain ⟨p,hp,hq⟩:=h4 j (by rw [hcs];simpa using hj)
   cases hp
   have:=Fr.cell_mono hw hq;simp only [hcs,List.getElem_map] at this;exact this
  simp only [Extern.Bytes.bytesOf,this]
  congr 1
  simp [str,ByteArray.empty,ByteArray.emptyWithCapacity]
  rfl
theorem run_compareSlices {P:Program} {h:Fr} {v u:Value} {xs ys:List UInt8} (ha:Arr Rp.u8 h v xs) (hb:Arr Rp.u8 h u ys) {w:World} (hw:h.sub w.fr) :
  (Extern.BytealgCompare.compare #[v,u]).run P w=.ok (.int .i64 (Lib.compareBytes xs ys)) w:=by
 change Sem.run P (do pure (goInt (Extern.BytealgCompare.cmp (← Extern.Bytes.bytesOf v) (← Extern.Bytes.bytesOf u)))) w=_
 simp only [Sem.run_bind,run_bytesOf ha hw,run_bytesOf hb hw,Sem.run_pure,Result.andThen];rw [Lib.cmp_eq]
 rfl
section
variable {P:Program} {σ:List (Nat × Value)} {g:Gr} {η:List SProp}
theorem Does.compareExt {f : FuncId} {fn : Func} {x y z : Operand} {ts : Array TypeId} {v u : Value} {xs ys : List UInt8} (hf : P.funcs[f]? = some fn) (h1 : (fn.name == "runtime.NumGoroutine") = false) (h2 : fn.body.isNone = true) (h3 : Extern.findNext fn = none) (h4 : Extern.find fn = some Extern.BytealgCompare.compare)
  (hx:ev σ x=some (.func (.func f) #[] #[])) (hy:ev σ y=some v) (hz:ev σ z=some u) (ha:Arr Rp.u8 g.h v xs) (hb:Arr Rp.u8 g.h u ys):Does P (.call ⟨.value x,#[y,z],ts⟩) σ g η (.int .i64 (Lib.compareBytes xs ys)) η:=by
 intro o ρ w ho hk hw
 refine ⟨w,?_,hw⟩;have e1:=run_callFunc_extern (P:=P) hf h1 h2 h3 h4 #[v,u] w;rw [run_compareSlices ha hb hw.ground] at e1;simp only [Result.andThen] at e1
 simp [execOp,ho,resolve,hk x _ hx,hk y _ hy,hk z _ hz,Deferred.ofValue,invoke,e1]
end
theorem compareBytes_lt:∀ {a b:List UInt8},Lib.compareBytes a b<0↔a<b
 |[],[]=>by simp [Lib.compareBytes]
 |[],b::bs=>by simp [Lib.compareBytes]
 |a::as,[]=>by simp [Lib.compareBytes]
 |a::as,b::bs=>by
  rw [Lib.compareBytes,List.cons_lt_cons_iff]
  by_cases h:a<b
  ·simp [h]
  ·by_cases h2:b<a
   ·have:a≠b:=fun e=>by subst e;exact UInt8.lt_irrefl _ h2
    simp [h,h2,this]
   ·have e:a=b:=UInt8.le_antisymm (UInt8.not_lt.1 h2) (UInt8.not_lt.1 h)
    subst e;rw [if_neg h,if_neg h2,compareBytes_lt]
    simp [UInt8.lt_irrefl]
end Go.Sp
end
section
/- Texts of this proof. -/
namespace Go.Sp
def rootShape (x:RootT):Bool:=decide (1≤x.1∧x.1≤7∧0≤x.2.1∧x.2.1<4∧1≤x.2.2.1∧x.2.2.1≤1073741824∧x.2.2.2.1.length=64)
def rootOk (x:RootT):Bool:=rootShape x && decide (x.2.2.2.2.1.length=64)
theorem rootShape_iff {x:RootT}:rootShape x=true↔1≤x.1∧x.1≤7∧0≤x.2.1∧x.2.1<4∧1≤x.2.2.1∧x.2.2.1≤1073741824∧x.2.2.2.1.length=64:=decide_eq_true_iff
theorem rootOk_iff {x:RootT}:rootOk x=true↔rootShape x=true∧x.2.2.2.2.1.length=64:=by unfold rootOk;rw [Bool.and_eq_true,decide_eq_true_iff]
def rootText (x:RootT):List UInt8:=[2]++((be x.1++(be x.2.1++be x.2.2.1))++x.2.2.2.1)
def rootB (x:RootT):List UInt8:=rootText x++x.2.2.2.2.1
theorem rootText_length {x:RootT} (h:rootShape x=true):(rootText x).length=89:=by
 have:=(rootShape_iff.1 h).2.2.2.2.2.2
 simp [rootText];omega
theorem rootB_length {x:RootT} (h:rootOk x=true):(rootB x).length=153:=by
 obtain ⟨h1,h2⟩:=rootOk_iff.1 h;have:=rootText_length h1
 simp [rootB];omega
def rootOut (x:RootT):List UInt8:=if rootOk x then rootB x else []
def rootErr (x:RootT):Int:=if rootOk x then 0 else 4
def evOrder (a b:RootT):Int:=if rootOk a=true∧rootOk b=true∧a.1=b.1∧a.2.1=b.2.1∧a.2.2.1=b.2.2.1 then Lib.compareBytes a.2.2.2.1 b.2.2.2.1 else 0
def evdOk (e:EvdT):Bool:=decide (evOrder e.1 e.2.1<0)
theorem evdOk_iff {e:EvdT}:evdOk e=true↔rootOk e.1=true∧rootOk e.2.1=true∧e.1.1=e.2.1.1∧e.1.2.1=e.2.1.2.1∧e.1.2.2.1=e.2.1.2.2.1∧e.1.2.2.2.1<e.2.1.2.2.2.1:=by
 unfold evdOk evOrder;rw [decide_eq_true_iff]
 split
 ·rename_i h;rw [compareBytes_lt];exact ⟨fun q=>⟨h.1,h.2.1,h.2.2.1,h.2.2.2.1,h.2.2.2.2,q⟩,fun q=>q.2.2.2.2.2⟩
 ·rename_i h;exact ⟨fun q=>absurd q (by decide),fun q=>absurd ⟨q.1,q.2.1,q.2.2.1,q.2.2.2.1,q.2.2.2.2.1⟩ h⟩
def evdB (e:EvdT):List UInt8:=bytesOf (rootB e.1)++bytesOf (rootB e.2.1)
theorem evdB_length {e:EvdT} (h:evdOk e=true):(evdB e).length=322:=by
 obtain ⟨h1,h2,_⟩:=evdOk_iff.1 h
 simp [evdB,rootB_length h1,rootB_length h2]
def evdOut (e:EvdT):List UInt8:=if evdOk e then evdB e else []
def evdErr (e:EvdT):Int:=if evdOk e then 0 else 4
end Go.Sp
end
