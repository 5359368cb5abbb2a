/- Texts of this proof, one behind the other. -/
import Derived.Lib.Bytealg
import Derived.Laws.Externs
import Derived.Test.YtojafegjlahajaaGreatDoorQSpSib
import Derived.OpenShut
import Derived.LaidSub
set_option linter.unusedSectionVars false
section
/- Texts of this proof, one behind the other. -/
section
/- Texts of this proof, one behind the other. -/
section
/- Texts of this proof, one behind the other. -/
section
/- Texts of this proof, one behind the other. -/
section
/- Texts of this proof. -/
namespace Go.Sp
theorem run_loadBytes (P:Program):∀ (xs:List UInt8) (a:Addr) (acc:ByteArray) (w:World),(∀ j (h:j<xs.length),w.cell? (a.add j)=some (bH xs[j])) →
  (Extern.Bytes.loadBytes a xs.length acc).run P w=.ok ⟨acc.data++xs.toArray⟩ w
 |[],a,acc,w,_=>by simp [Extern.Bytes.loadBytes]
 |x::xs,a,acc,w,h=>by
  have h0:=h 0 (by simp);rw [Addr.add_zero] at h0;have ih:=run_loadBytes P xs (a.add 1) (acc.push x) w fun j hj=>by
   have:=h (j+1) (by simp;omega);rw [Addr.add_add,Nat.add_comm 1 j]
   simpa using this
  have hx:(x.toNat:Int).toNat.toUInt8=x:=by simp
  simp only [List.getElem_cons_zero,bH] at h0;simp only [List.length_cons,Extern.Bytes.loadBytes,Sem.run_bind,run_load,h0,Result.andThen,hx,ih]
  congr 2
  simp [ByteArray.push]
theorem JY {P:Program} {h:Fr} {v:Value} {xs:List UInt8} (ha:aj ag.u8 h v xs) {w:World} (hw:h.sub w.fr):(Extern.Bytes.bytesOf v).run P w=.ok (str xs) w:=by
 obtain ⟨ak,hc,a,cap,rfl,h1,h2,h3,h4⟩:=ha;have hcs:ak.flatten=xs.map bH:=by
  clear h3 h4 h1 h2
  induction ak generalizing xs with
  |nil=>cases xs with
   |nil=>rfl
   |cons _ _=>exact hc.elim
  |cons c ak ih=>cases xs with
   |nil=>exact hc.elim
   |cons x xs=>rw [List.flatten_cons,ih hc.2,show c=[bH x] from hc.1];rfl
 cases a with
 |none =>
  have:xs=[]:=by
   cases xs with
   |nil=>rfl
   |cons x xs=>obtain ⟨p,hp,_⟩:=h4 0 (by rw [hcs];simp);cases hp
  subst this
  simp [Extern.Bytes.bytesOf];rfl
 |some a =>
  have:=run_loadBytes P xs a .empty w fun j hj=>by
   obtain ⟨p,hp,hq⟩:=h4 j (by rw [hcs];simpa using hj)
   cases hp
   have:=Fr.qf hw hq;simp only [hcs,List.getElem_map] at this;exact this
  simp only [Extern.Bytes.bytesOf,this]
  congr 1
  simp [str,ByteArray.empty,ByteArray.emptyWithCapacity]
  rfl
theorem TT {P:Program} {h:Fr} {v u:Value} {xs ys:List UInt8} (ha:aj ag.u8 h v xs) (hb:aj ag.u8 h u ys) {w:World} (hw:h.sub w.fr) :
  (Extern.BytealgCompare.compare #[v,u]).run P w=.ok (.int .i64 (Lib.compareBytes xs ys)) w:=by
 change Sem.run P (do pure (goInt (Extern.BytealgCompare.cmp (← Extern.Bytes.bytesOf v) (← Extern.Bytes.bytesOf u)))) w=_
 simp only [Sem.run_bind,JY ha hw,JY hb hw,Sem.run_pure,Result.andThen];rw [Lib.cmp_eq]
 rfl
section
variable {P:Program} {σ:List (Nat × Value)} {g:bh} {U:List az}
theorem aD.Mh {f : FuncId} {fn : Func} {x y z : Operand} {ts : Array TypeId} {v u : Value} {xs ys : List UInt8} (hf : P.funcs[f]? = some fn) (h1 : (fn.name == "runtime.NumGoroutine") = false) (h2 : fn.body.isNone = true) (h3 : Extern.findNext fn = none) (h4 : Extern.find fn = some Extern.BytealgCompare.compare)
  (hx:aA σ x=some (.func (.func f) #[] #[])) (hy:aA σ y=some v) (hz:aA σ z=some u) (ha:aj ag.u8 g.h v xs) (hb:aj ag.u8 g.h u ys):aD P (.call ⟨.value x,#[y,z],ts⟩) σ g U (.int .i64 (Lib.compareBytes xs ys)) U:=by
 intro o ρ w ho hk hw
 refine ⟨w,?_,hw⟩;have e1:=run_callFunc_extern (P:=P) hf h1 h2 h3 h4 #[v,u] w;rw [TT ha hb hw.ground] at e1;simp only [Result.andThen] at e1
 simp [execOp,ho,resolve,hk x _ hx,hk y _ hy,hk z _ hz,Deferred.ofValue,invoke,e1]
end
theorem BO:∀ {a b:List UInt8},Lib.compareBytes a b<0↔a<b
 |[],[]=>by simp [Lib.compareBytes]
 |[],b::bs=>by simp [Lib.compareBytes]
 |a::as,[]=>by simp [Lib.compareBytes]
 |a::as,b::bs=>by
  rw [Lib.compareBytes,List.cons_lt_cons_iff]
  by_cases h:a<b
  ·simp [h]
  ·by_cases h2:b<a
   ·have:a≠b:=fun e=>by subst e;exact UInt8.lt_irrefl _ h2
    simp [h,h2,this]
   ·have e:a=b:=UInt8.le_antisymm (UInt8.not_lt.1 h2) (UInt8.not_lt.1 h)
    subst e;rw [if_neg h,if_neg h2,BO]
    simp [UInt8.lt_irrefl]
theorem GB:∀ {a b:List UInt8},Lib.compareBytes a b=0↔a=b
 |[],[]=>by simp [Lib.compareBytes]
 |[],b::bs=>by simp [Lib.compareBytes]
 |a::as,[]=>by simp [Lib.compareBytes]
 |a::as,b::bs=>by
  rw [Lib.compareBytes]
  by_cases h:a<b
  ·have:a≠b:=fun e=>by subst e;exact UInt8.lt_irrefl _ h
   simp [h,this]
  ·by_cases h2:b<a
   ·have:a≠b:=fun e=>by subst e;exact UInt8.lt_irrefl _ h2
    simp [h,h2,this]
   ·have e:a=b:=UInt8.le_antisymm (UInt8.not_lt.1 h2) (UInt8.not_lt.1 h)
    subst e;rw [if_neg h,if_neg h2,GB]
    simp
theorem Mg (a b:List UInt8):cE (Lib.compareBytes a b):=by
 have:Lib.compareBytes a b= -1∨Lib.compareBytes a b=0∨Lib.compareBytes a b=1:=by
  induction a generalizing b with
  |nil=>cases b<;>simp [Lib.compareBytes]
  |cons x a ih=>cases b with
   |nil=>simp [Lib.compareBytes]
   |cons y b =>
    rw [Lib.compareBytes]
    split
    ·simp
    ·split
     ·simp
     ·exact ih b
 rcases this with h|h|h<;>rw [h]<;>constructor<;>decide
end Go.Sp
end
section
/- Texts of this proof. -/
namespace Go.Sp
def xU (x:iV):Bool:=decide (1≤x.1∧x.1≤7∧0≤x.2.1∧x.2.1<4∧1≤x.2.2.1∧x.2.2.1≤1073741824∧x.2.2.2.1.length=64)
def nD (x:iV):Bool:=xU x && decide (x.2.2.2.2.1.length=64)
theorem xV {x:iV}:xU x=true↔1≤x.1∧x.1≤7∧0≤x.2.1∧x.2.1<4∧1≤x.2.2.1∧x.2.2.1≤1073741824∧x.2.2.2.1.length=64:=decide_eq_true_iff
theorem xT {x:iV}:nD x=true↔xU x=true∧x.2.2.2.2.1.length=64:=by unfold nD;rw [Bool.and_eq_true,decide_eq_true_iff]
end Go.Sp
end
end
section
/- Texts of this proof. -/
namespace Go.Sp
def eP (xs:List UInt8):Int:=tN (mX (xs.take 8))
theorem Sb (xs:List UInt8):cE (eP xs):=T2 _ (Nat.lt_of_lt_of_le (Bm xs 8) (by decide))
def mH (good:Bool) (rest:List UInt8):UInt8 × List UInt8 × Bool:=if good then (match rest with|[]=>(0,[],true)|x::xs=>(x,xs,false)) else (0,rest,false)
def k9 (good:Bool) (rest:List UInt8):Int × List UInt8 × Bool:=if good then (if 8≤rest.length then (eP rest,rest.drop 8,false) else (0,rest,true)) else (0,rest,false)
def j6 (most:Int) (good:Bool) (rest:List UInt8):Int × List UInt8 × Bool :=
 if good then (if 8≤rest.length then (if 0≤eP rest∧eP rest≤most then (eP rest,rest.drop 8,false) else (0,rest.drop 8,true)) else (0,rest,true)) else (0,rest,false)
def k8 (most:Int) (good:Bool) (rest:List UInt8):List UInt8 × List UInt8 × Bool :=
 if good then (if 8≤rest.length then (if 0≤eP rest∧eP rest≤most then (if (eP rest).toNat≤(rest.drop 8).length then ((rest.drop 8).take (eP rest).toNat,(rest.drop 8).drop (eP rest).toNat,false) else ([],rest.drop 8,true)) else ([],rest.drop 8,true)) else ([],rest,true)) else ([],rest,false)
structure RS where
 good:Bool
 rest:List UInt8
namespace RS
def of {α:Type} (s:RS) (x:α × List UInt8 × Bool):α × RS:=(x.1,⟨s.good && !x.2.2,x.2.1⟩)
def byte (s:RS):UInt8 × RS:=s.of (mH s.good s.rest)
def num (s:RS):Int × RS:=s.of (k9 s.good s.rest)
def count (most:Int) (s:RS):Int × RS:=s.of (j6 most s.good s.rest)
def bytes (most:Int) (s:RS):List UInt8 × RS:=s.of (k8 most s.good s.rest)
def done (s:RS):Bool:=s.good && decide (s.rest.length=0)
theorem Ef {n:Int} (h:cE n) (t:List UInt8):eP (be n++t)=n:=by
 unfold eP;rw [List.take_append_of_le_length (by simp),show (be n).take 8=be n from rfl,T1 n h]
theorem Bn (n:Int) (t:List UInt8):(be n++t).drop 8=t:=by
 rw [List.drop_append_of_le_length (by simp),show (be n).drop 8=[] from rfl,List.nil_append]
theorem Ga (x:UInt8) (t:List UInt8):byte ⟨true,x::t⟩=(x,⟨true,t⟩):=rfl
theorem zS {n:Int} (h:cE n) (t:List UInt8):num ⟨true,be n++t⟩=(n,⟨true,t⟩):=by
 unfold num of k9;rw [if_pos rfl,if_pos (by simp),Ef h,Bn];rfl
theorem Mt {n most:Int} (h:cE n) (h0:0≤n) (hm:n≤most) (t:List UInt8):count most ⟨true,be n++t⟩=(n,⟨true,t⟩):=by
 unfold count of j6;rw [if_pos rfl,if_pos (by simp),Ef h,if_pos ⟨h0,hm⟩,Bn];rfl
theorem Gd {xs:List UInt8} {most:Int} (hm:(xs.length:Int)≤most) (hx:(xs.length:Int)≤9223372036854775807) (t:List UInt8):bytes most ⟨true,bytesOf xs++t⟩=(xs,⟨true,t⟩):=by
 unfold bytes of k8 bytesOf;have h1:cE (xs.length:Int):=by constructor<;>omega
 rw [List.append_assoc];simp only [if_true];rw [if_pos (by simp),Ef h1,if_pos ⟨by omega,hm⟩,Bn,if_pos (by simp)]
 simp
theorem Gb (s:RS):s.byte.2.rest.length≤s.rest.length:=by
 obtain ⟨g,r⟩:=s
 cases g<;>cases r<;>simp [byte,of,mH]
theorem zT (s:RS):s.num.2.rest.length≤s.rest.length:=by
 unfold num of k9;split<;>(try split)<;>simp
theorem Mu (most:Int) (s:RS):(s.count most).2.rest.length≤s.rest.length:=by
 unfold count of j6;split<;>(try split)<;>(try split)<;>simp
theorem LP (most:Int) (s:RS):(s.bytes most).2.rest.length≤s.rest.length:=by
 unfold bytes of k8;split<;>(try split)<;>(try split)<;>(try split)<;>simp<;>omega
theorem LQ (most:Int) (s:RS):(s.bytes most).1.length≤s.rest.length:=by
 unfold bytes of k8;split<;>(try split)<;>(try split)<;>(try split)<;>simp<;>omega
theorem V1:cE 0:=⟨by decide,by decide⟩
theorem ve (s:RS):cE s.num.1:=by
 unfold num of k9;split<;>(try split)<;>first|exact Sb _|exact V1
theorem Ms (most:Int) (s:RS) (h:0≤most):0≤(s.count most).1∧(s.count most).1≤most:=by
 unfold count of j6;split<;>(try split)<;>(try split)<;>first|assumption|exact ⟨Int.le_refl _,h⟩
theorem MG {s:RS}:s.done=true↔s.good=true∧s.rest=[]:=by unfold done;simp
end RS
def vT:Nat→RS→List UInt8 × RS
 |0,s=>([],s)
 |n+1,s=>((vT n s).1++[(vT n s).2.byte.1],(vT n s).2.byte.2)
@[simp] theorem We (n:Nat) (s:RS):(vT n s).1.length=n:=by induction n<;>simp [vT, *]
def uf (v:Value) (xs:List UInt8):az:=fun m=>aj ag.u8 m v xs
def jQ (T b:Nat) (s:RS):az:=fun m=>∃ p:Value × Bool × Bool,(p.2.1 && !p.2.2)=s.good∧Sat [obj b T [p.1,.bool p.2.1,.bool p.2.2],uf p.1 s.rest] m
section
variable {P:Program} {f:FuncId} {args:Array Value} {r:Fr} {T b:Nat} {s:RS} {Q:Value→RS→List az→Prop} {w:World} {g:bh} {U:List az}
theorem Holds.Sk {ι:Type} {F:ι→Prop} {ws:ι→List az} (h:Holds w g ((fun m=>∃ i,F i∧Sat (ws i) m)::U)):∃ i,F i∧Holds w g (ws i++U):=by
 obtain ⟨i,hi⟩:=Holds.sK h;obtain ⟨q1,q2,cH,k,d,s1,s2,k1,k2,kd,t1,t2,⟨h1,hx⟩,y⟩:=hi;exact ⟨i,h1,q1,q2,cH,k,d,s1,s2,Sat.mono (Fr.hG t1 t2) (Sat.append kd hx y)⟩
theorem jQ.fold {v:Value} {made bad:Bool} (h1:(made && !bad)=s.good) (h:Holds w g (obj b T [v,.bool made,.bool bad]::uf v s.rest::U)):Holds w g (jQ T b s::U) :=
 h.imp fun _ h=>Sat.DQ (A:=obj b T [v,.bool made,.bool bad]) (B:=uf v s.rest) (fun _ x=>⟨(v,made,bad),h1,x⟩) h
theorem ay.rd (h:∀ (m:Fr) v made bad,(made && !bad)=s.good→aj ag.u8 m v s.rest→ay P f args m [obj b T [v,.bool made,.bool bad]] (aM fun u U=>∃ v' Bl s' ζ,Q u s' ζ∧(made && !Bl)=s'.good∧aj ag.u8 m v' s'.rest∧U=obj b T [v',.bool made,.bool Bl]::ζ)) :
  ay P f args r [jQ T b s] (aM fun u U=>∃ s' ζ,Q u s' ζ∧U=jQ T b s' ::ζ):=fun g hr w hw=>by
 obtain ⟨p,h1,hw1⟩:=Holds.Sk (F:=fun p:Value × Bool × Bool=>(p.2.1 && !p.2.2)=s.good) (ws:=fun p=>[obj b T [p.1,.bool p.2.1,.bool p.2.2],uf p.1 s.rest]) hw;obtain ⟨k,hk,hd,qB⟩:=Holds.freeze (hw1.perm (List.Perm.swap _ _ _));refine (h k p.1 p.2.1 p.2.2 h1 hk (g.add k) (Fr.dA hd) w qB).mono fun e w' ⟨ax,hp,hw'⟩=>?_
 cases e with
 |returned u =>
  obtain ⟨v',Bl,s',ζ,hQ,h3,h4,rfl⟩:=hp;exact ⟨_,⟨s',ζ,hQ,rfl⟩,jQ.fold h3 ((hw'.oo (A:=uf v' s'.rest) h4 hd).perm (List.Perm.swap _ _ _))⟩
 |panicked _=>exact hp.elim
 |outgrown=>exact hp.elim
theorem y5 {made bad f g:Bool} (h:(made && !bad)=g):(made && !(bad ||f))=(g && !f):=by subst h;cases made<;>cases bad<;>cases f<;>rfl
theorem To {e:TypeId} {v:Value} {xs:List UInt8} {m:Fr} (h:Sat (obj b T [v,.bool true,.bool false]::av ag.u8 e v xs::U) m):Sat (jQ T b ⟨true,xs⟩::U) m :=
 Sat.DQ (A:=obj b T [v,.bool true,.bool false]) (B:=uf v xs) (fun _ x=>⟨(v,true,false),rfl,x⟩) (Sat.fe (fun _ x=>x) (fun _ y=>Sat.fe (fun _ x=>x.arr) (fun _ y=>y) y) h)
end
end Go.Sp
end
end
section
/- Texts of this proof. -/
namespace Go.Sp
def kn:Nat→RS→List dn × RS
 |0,s=>([],s)
 |n+1,s=>((kn n s).1++[((kn n s).2.num.1,(kn n s).2.num.2.num.1,())],(kn n s).2.num.2.num.2)
@[simp] theorem GJ (n:Nat) (s:RS):(kn n s).1.length=n:=by induction n<;>simp [kn, *]
def wg (d:dn):Prop:=cE d.1∧cE d.2.1
theorem MM (n:Nat) (s:RS):∀ d∈(kn n s).1,wg d:=by
 induction n with
 |zero=>intro d hd;simp [kn] at hd
 |succ n ih =>
  intro d hd
  simp only [kn,List.mem_append,List.mem_singleton] at hd
  rcases hd with hd|rfl
  ·exact ih d hd
  ·exact ⟨RS.ve _,RS.ve _⟩
theorem MN (n:Nat) (s:RS):(kn n s).2.rest.length≤s.rest.length:=by
 induction n with
 |zero=>exact Nat.le_refl _
 |succ n ih=>exact Nat.le_trans (RS.zT _) (Nat.le_trans (RS.zT _) ih)
theorem ML:∀ (l:List dn) (t:List UInt8),(∀ d∈l,wg d)→kn l.length ⟨true,oD l++t⟩=(l,⟨true,t⟩):=by
 have key:∀ (k:Nat) (l:List dn) (t:List UInt8),(∀ d∈l,wg d)→k≤l.length→kn k ⟨true,oD l++t⟩=(l.take k,⟨true,oD (l.drop k)++t⟩):=by
  intro k
  induction k with
  |zero=>intro l t _ _;simp [kn]
  |succ k ih =>
   intro l t hl hk
   have h1:=ih l t hl (by omega);have hd:l.drop k=l[k]::l.drop (k+1):=List.drop_eq_getElem_cons hk;have hq:=hl _ (List.getElem_mem (l:=l) (n:=k) (by omega));rw [kn,h1]
   simp only
   rw [hd,B0,List.append_assoc,RS.zS hq.1]
   simp only
   rw [List.append_assoc,RS.zS hq.2,List.take_succ_eq_append_getElem hk]
 intro l t hl
 rw [key l.length l t hl (Nat.le_refl _)];simp
structure vK where
 kind:UInt8
 key:List UInt8
 client:Int
 seq:Int
 MJ:List dn
 gone:UInt8
 value:List UInt8
 s:RS
def ED (b:List UInt8):vK :=
 let k:=(RS.mk true b).byte
 let y:=k.2.bytes 64
 let c:=y.2.num
 let q:=c.2.num
 let n:=q.2.count 8
 let d:=kn n.1.toNat n.2
 let g:=d.2.byte
 let v:=g.2.bytes 1024
 ⟨k.1,y.1,c.1,q.1,d.1,g.1,v.1,v.2⟩
def vK.make (q:vK) (g:Bool) (sig:List UInt8):aQ:=(q.key,q.client,q.seq,q.MJ,g,q.value,sig,())
theorem VG {l:List dn} (h:jL l=true):∀ d∈l,wg d:=fun d hd=>by
 have:=wh.1 ((tX.1 h).1 d hd);exact ⟨⟨by omega,by omega⟩,⟨by omega,by omega⟩⟩
theorem Tv {x:aQ} (h:shaped x=true) (t:List UInt8):ED (ja x++t)=⟨1,x.1,x.2.1,x.2.2.1,x.2.2.2.1,nj x.2.2.2.2.1,x.2.2.2.2.2.1,⟨true,t⟩⟩:=by
 obtain ⟨h1,h2,h3,h4,h5,h6,h7⟩:=x2.1 h;have hd:=wh.1 h3;simp only [iu] at hd;have hl:=xS h4;have i1:cE x.2.1:=⟨by omega,by omega⟩;have i2:cE x.2.2.1:=⟨by omega,by omega⟩;have i3:cE (x.2.2.2.1.length:Int):=⟨by omega,by omega⟩;have e0:ja x++t=(1:UInt8)::(bytesOf x.1++(be x.2.1++(be x.2.2.1++(be x.2.2.2.1.length++(oD x.2.2.2.1++(nj x.2.2.2.2.1::(bytesOf x.2.2.2.2.2.1++t))))))):=by
  simp [ja]
 unfold ED;rw [e0];simp only [RS.Ga];rw [RS.Gd (by omega) (by omega)]
 simp only
 rw [RS.zS i1]
 simp only
 rw [RS.zS i2]
 simp only
 rw [RS.Mt i3 (by omega) (by omega)];simp only [Int.toNat_natCast];rw [ML _ _ (VG h4)];simp only [RS.Ga];rw [RS.Gd (by omega) (by omega)]
noncomputable def l6 (b:List UInt8):Option aQ:=by
 classical exact if h:∃ x,ea x=true∧b7 x=b then some h.choose else none
theorem Ak {b:List UInt8} {x:aQ} (h:l6 b=some x):ea x=true∧b7 x=b:=by
 unfold l6 at h
 split at h
 ·rename_i c;cases h;exact c.choose_spec
 ·cases h
def tL (b:List UInt8):vK:=ED (b.take (b.length - 64))
def r4 (b:List UInt8):aQ:=(tL b).make (decide ((tL b).gone≠0)) (b.drop (b.length - 64))
theorem Nn (g:Bool):decide (nj g≠0)=g:=by cases g<;>rfl
theorem Al {x:aQ} (h:ea x=true):r4 (b7 x)=x∧(tL (b7 x)).s=⟨true,[]⟩∧64≤(b7 x).length:=by
 obtain ⟨h1,h2⟩:=vm.1 h;have e1:(b7 x).length - 64=(ja x).length:=by unfold b7;rw [List.length_append,h2];omega
 have e2:(b7 x).take ((b7 x).length - 64)=ja x:=by rw [e1];unfold b7;rw [List.take_append_of_le_length (Nat.le_refl _),List.take_length]
 have b6:(b7 x).drop ((b7 x).length - 64)=x.2.2.2.2.2.2.1:=by rw [e1];unfold b7;rw [List.drop_append_of_le_length (Nat.le_refl _),List.drop_length,List.nil_append]
 have ff:=Tv h1 [];rw [List.append_nil] at ff;refine ⟨?_,?_,?_⟩
 ·unfold r4 tL
  rw [e2,b6,ff];simp only [vK.make,Nn]
 ·unfold tL;rw [e2,ff]
 ·unfold b7;rw [List.length_append,h2];omega
theorem EC {x y:aQ} (hx:ea x=true) (hy:ea y=true) (h:b7 x=b7 y):x=y:=by
 rw [← (Al hx).1,h,(Al hy).1]
theorem Tt {x:aQ} (h:ea x=true):l6 (b7 x)=some x:=by
 cases e:l6 (b7 x) with
 |some y=>obtain ⟨h1,h2⟩:=Ak e;rw [EC h1 h h2]
 |none =>
  unfold l6 at e
  split at e
  ·cases e
  ·rename_i c;exact absurd ⟨x,h,rfl⟩ c
theorem JN {b:List UInt8} {x:aQ}:l6 b=some x↔ea x=true∧b7 x=b :=
 ⟨Ak,fun ⟨h1,h2⟩=>by rw [← h2];exact Tt h1⟩
theorem JO {b:List UInt8} (h:∀ x,ea x=true→b7 x≠b):l6 b=none:=by
 cases e:l6 b with
 |none=>rfl
 |some x=>exact absurd (Ak e).2 (h x (Ak e).1)
theorem Ts {b:List UInt8} (h:b.length<64):l6 b=none :=
 JO fun x hx e=>by have:=(Al hx).2.2;rw [e] at this;omega
theorem Tu {b:List UInt8} (h2:ea (r4 b)=true) (h3:b7 (r4 b)=b):l6 b=some (r4 b):=JN.2 ⟨h2,h3⟩
theorem Tq {b:List UInt8} (h:¬((tL b).s.done=true∧ea (r4 b)=true∧b7 (r4 b)=b)):l6 b=none :=
 JO fun x hx e=>h (by subst e;obtain ⟨h1,h2,_⟩:=Al hx;rw [h1,h2];exact ⟨rfl,hx,rfl⟩)
end Go.Sp
end
end
section
/- Texts of this proof. -/
namespace Go.Sp
variable {K:Type} [DecidableEq K] {enc:K→Value}
abbrev b8 (K:Type):=K × Value × Nat
def gT {K:Type} (enc:K→Value) (x:b8 K):MapEntry:={ key:=enc (x.1),val:=x.2.1,born:=x.2.2 }
def e8 {K:Type} (enc:K→Value) (l:List (b8 K)):Array MapEntry:=(l.map (gT enc)).toArray
def cG:List (b8 K)→K→Option Value
 |[],_=>none
 |x::l,k=>if x.1=k then some x.2.1 else cG l k
def mK:List (b8 K)→K→Value→List (b8 K)
 |[],_,_=>[]
 |x::l,k,v=>if x.1=k then (k,v,x.2.2)::l else x::mK l k v
def ir (l:List (b8 K)) (c:Nat) (k:K) (v:Value):List (b8 K):=if (cG l k).isSome then mK l k v else l++[(k,v,c)]
def kI (l:List (b8 K)) (c:Nat) (k:K):Nat:=if (cG l k).isSome then c else c+1
def gM:List (b8 K)→K→List (b8 K)
 |[],_=>[]
 |x::l,k=>if x.1=k then l else x::gM l k
structure ou (P:Program) (tk:TypeId) (enc:K→Value):Prop where
 find:∀ (k:K) (l:List (b8 K)) (w:World),(Instr.findKey tk (enc k) (e8 enc l).toList).run P w=.ok ((cG l k).map fun v=>(l.findIdx fun x=>x.1 ==k,v)) w
 check:∀ (e:Bool) (k:K) (w:World),(Instr.checkKey e 10000 tk (enc k)).run P w=.ok () w
 same:∀ k:K,Instr.sameBits 10000 (enc k) (enc k)=true
def cc (enc:K→Value) (b:Nat) (l:List (b8 K)) (c:Nat):az:=blk b (.map (e8 enc l) c)
section
variable {ro:Option Nat} {P:Program} {fn:Func} {n:Nat} {R:Ending→World→Prop} {k:List Item} {σ:List (Nat × Value)} {D:List Deferred} {g:bh} {U ζ aN:List az} {ops:Array Oper} {i d:Nat} {ls:List Nat}
 {t tk te:TypeId} {x y z:Operand} {b c:Nat} {l:List (b8 K)} {key:K} {w:World}
theorem T0 (ht:P.underlying t=some (.map tk te)) (hk:ou P tk enc) {cz:Value} (hz:(zeroValue te).run P w=.ok cz w) (hb:w.heap[b]?=some (.map (e8 enc l) c)) (ok:Bool) :
  (Instr.lookup t (.map (some b)) (enc (key)) ok).run P w=.ok (if ok then .tuple #[(cG l key).getD cz,.bool (cG l key).isSome] else (cG l key).getD cz) w:=by
 have h1:=fun e=>hk.check e key w;have h2:=hk.find key l w;simp only [Instr.lookup,Sem.run_bind,run_underlying ht,Result.andThen,MapKept.run_getObj_map hb,Sem.run_pure];rw [h1]
 simp only
 rw [h2]
 cases cG l key with
 |none=>simp [hz]
 |some v=>simp
omit [DecidableEq K] in
theorem cc.block (h:Holds w g (cc enc b l c::U)):w.heap[b]?=some (.map (e8 enc l) c):=Holds.block h
theorem aD.nw {kb:Bool} {cz:Value} (ht:P.underlying t=some (.map tk te)) (hk:ou P tk enc) (hz:∀ w,(zeroValue te).run P w=.ok cz w) (hx:aA σ x=some (.map (some b))) (hy:aA σ y=some (enc (key))) (hs:bf U (cc enc b l c) ζ) :
  aD P (.lookup t x y kb) σ g U (if kb then .tuple #[(cG l key).getD cz,.bool (cG l key).isSome] else (cG l key).getD cz) U :=
 fun o ρ w ho hkn hw=>⟨w,by
  have:=T0 (P:=P) (key:=key) ht hk (hz w) (hw.cu hs).block kb
  simp [execOp,ho,hkn x _ hx,hkn y _ hy,this],hw⟩
theorem G7:∀ (l:List (b8 K)) (k:K) (v:Value),cG l k=some v→∃ x,l[l.findIdx fun x=>x.1 ==k]?=some x∧x.1=k
 |[],_,_,h=>by cases h
 |x::l,k,v,h=>by
  by_cases e:x.1=k
  ·exact ⟨x,by simp [List.findIdx_cons,e],e⟩
  ·have e2:(x.1 ==k)=false:=by simpa using e
   rw [cG,if_neg e] at h;obtain ⟨y,h1,h2⟩:=G7 l k v h;exact ⟨y,by simp [List.findIdx_cons,e2,h1],h2⟩
theorem I7 (k:K) (v:Value):∀ (l:List (b8 K)),(l.map (gT enc)).modify (l.findIdx fun x=>x.1 ==k) (fun e=>{ e with key:=enc (k),val:=v })=(mK l k v).map (gT enc)
 |[]=>by simp [mK]
 |x::l=>by
  by_cases e:x.1=k
  ·simp [List.findIdx_cons,e,mK,gT]
  ·have e2:(x.1 ==k)=false:=by simpa using e
   have ih:=I7 k v l
   simp [List.findIdx_cons,e2,mK,e,ih]
theorem GL (k:K):∀ (l:List (b8 K)),(l.map (gT enc)).eraseIdx (l.findIdx fun x=>x.1 ==k)=(gM l k).map (gT enc)
 |[]=>rfl
 |x::l=>by
  by_cases e:x.1=k
  ·simp [List.findIdx_cons,e,gM]
  ·have e2:(x.1 ==k)=false:=by simpa using e
   have ih:=GL k l
   simp [List.findIdx_cons,e2,gM,e,ih]
theorem Rg (l:List (b8 K)) (k:K) (v:Value):(e8 enc l).modify (l.findIdx fun x=>x.1 ==k) (fun e=>{ e with key:=enc (k),val:=v })=e8 enc (mK l k v):=by
 apply Array.toList_inj.1
 rw [Array.toList_modify];exact I7 k v l
theorem Rf (l:List (b8 K)) (k:K):(e8 enc l).eraseIdxIfInBounds (l.findIdx fun x=>x.1 ==k)=e8 enc (gM l k):=by
 apply Array.toList_inj.1
 rw [Array.toList_eraseIdxIfInBounds];exact GL k l
omit [DecidableEq K] in
theorem Au (o:Obj) (hb:w.heap[b]?=some (.map (e8 enc l) c)):(setObj b o).run P w=.ok () (w.putObj b o):=by
 have:=MapKept.run_setObj_map (P:=P) o hb;rw [this];rfl
theorem JZ {v:Value} (ht:P.underlying t=some (.map tk te)) (hk:ou P tk enc) (hb:w.heap[b]?=some (.map (e8 enc l) c)) :
  (Instr.mapUpdate t (.map (some b)) (enc (key)) v).run P w=.ok () (w.putObj b (.map (e8 enc (ir l c key v)) (kI l c key))):=by
 have h1:=fun e=>hk.check e key w;have h2:=hk.find key l w;simp only [Instr.mapUpdate,Sem.run_bind,run_underlying ht,Result.andThen,MapKept.run_getObj_map hb];rw [h1]
 simp only
 rw [h2]
 cases hg:cG l key with
 |none =>
  simp only [Option.map_none,Au _ hb,ir,kI,hg,Option.isSome_none,Bool.false_eq_true,if_false]
  simp [e8,gT]
 |some u =>
  obtain ⟨y,hy,PB⟩:=G7 l key u hg;have hy2:(e8 enc l)[l.findIdx fun x=>x.1 ==key]?=some (gT enc y):=by simp [e8,hy]
  have hkey:(((e8 enc l)[l.findIdx fun x=>x.1 ==key]?).map (·.key)).getD (enc (key))=enc (key):=by rw [hy2];simp [gT,PB]
  have hsame:Instr.sameBits 10000 (enc (key)) (enc (key))=true:=hk.same key;simp only [Option.map_some,hkey,Instr.keyThatStays,hsame,if_true,Sem.run_bind,Sem.run_pure,Result.andThen,Au _ hb,ir,kI,hg,Option.isSome_some,Rg]
theorem TV (ht:P.underlying t=some (.map tk te)) (hk:ou P tk enc) {t2 ty:TypeId} (hb:w.heap[b]?=some (.map (e8 enc l) c)) :
  (Builtin.delete_ #[t,t2] ty #[.map (some b),enc (key)]).run P w=.ok (.tuple #[]) (w.putObj b (.map (e8 enc (gM l key)) c)):=by
 have h1:=fun e=>hk.check e key w;have h2:=hk.find key l w;have q0:(#[t,t2]:Array TypeId)[0]?=some t:=rfl;have q1:(#[Value.map (some b),enc (key)]:Array Value)[0]?=some (.map (some b)):=rfl;have q2:(#[Value.map (some b),enc (key)]:Array Value)[1]?=some (enc (key)):=rfl;simp only [Builtin.delete_,q0,q1,q2,Sem.run_bind,run_underlying ht,Result.andThen,MapKept.run_getObj_map hb];rw [h1]
 simp only
 rw [h2]
 cases hg:cG l key with
 |none =>
  have hd:gM l key=l:=by
   clear hb h2
   induction l with
   |nil=>rfl
   |cons x l ih =>
    by_cases e:x.1=key
    ·simp [cG,e] at hg
    ·simp only [cG,if_neg e] at hg
     simp only [gM,if_neg e,ih hg]
  simp only [Option.map_none,Sem.run_bind,Au _ hb,hd,Sem.run_pure,Result.andThen]
 |some u =>
  simp only [Option.map_some,Sem.run_bind,Au _ hb,Rf,Sem.run_pure,Result.andThen]
omit [DecidableEq K] in
theorem bE.RL {v:Value→List az→Prop} (hv:∀ b,v (.map (some b)) (cc enc b [] 0::U)):bE P (.makeMap t none) σ g U v :=
 fun o ρ w ho hkn hw=>⟨_,_,_,hv w.heap.size,by simp [execOp,ho,Instr.makeMap,newObj,Sem.run];rfl,hw.alloc _⟩
omit [DecidableEq K] in
theorem bE.o5 :bE P (.makeMap t none) σ g U fun v ax =>∃ b,v=.map (some b)∧ax =cc enc b [] 0::U:=bE.RL (enc:=enc) fun b=>⟨b,rfl,rfl⟩
theorem j9.rV {v:Value} (ht:P.underlying t=some (.map tk te)) (hk:ou P tk enc) (hx:aA σ x=some (.map (some b))) (hy:aA σ y=some (enc (key))) (hz:aA σ z=some v) (hs:bf U (cc enc b l c) ζ) :
  j9 P (.mapUpdate t x y z) σ g U (cc enc b (ir l c key v) (kI l c key)::ζ) :=
 fun o ρ w ho hkn hw=>by
  have hw1:=hw.cu hs;refine ⟨_,?_,hw1.putObj _⟩;have:=JZ (P:=P) (key:=key) (v:=v) ht hk hw1.block
  simp [execOp,ho,hkn x _ hx,hkn y _ hy,hkn z _ hz,this]
theorem O.GI {t2:TypeId} (ho:j5 ops i=some (.call ⟨.builtin .delete,#[x,y],#[t,t2]⟩)) (ht:P.underlying t=some (.map tk te)) (hk:ou P tk enc) (hx:aA σ x=some (.map (some b))) (hy:aA σ y=some (enc (key))) (hs:bf U (cc enc b l c) ζ)
  (h:O ro P fn n R ops ls k σ D g (cc enc b (gM l key) c::ζ)):O ro P fn n R ops (i::ls) k σ D g U:=by
 intro a w hf hd hw
 obtain ⟨o,hi,ek,hop,hg⟩:=o7 ho;have hw1:=hw.cu hs;have hrun:(execOp a.eval o).run P w=.ok (.value (.tuple #[])) (w.putObj b (.map (e8 enc (gM l key)) c)):=by
  have:=TV (P:=P) (key:=key) (t2:=t2) (ty:=o.type) ht hk hw1.block
  simp [execOp,hop,resolve,invoke,builtin,hf.j3 x _ hx,hf.j3 y _ hy,this]
 refine O.mi hi (by simp [Region.wanted,hg]) (by rw [hop];intro c hc;cases hc) hrun ?_;rw [Oper.uponIn_value,ek];exact h _ _ hf hd (hw1.putObj _)
def gB (l:List (b8 K)) (c:Nat):Prop:=(l.map (·.2.2)).Nodup∧(∀ x∈l,x.2.2<c)∧(l.map (·.1)).Nodup
def jd (it b c:Nat) (done:List (b8 K)):az:=blk it (.mapIter (some b) c (done.map (·.2.2)).toArray c)
omit [DecidableEq K] in
theorem bE.EA (ht:P.underlying t=some (.map tk te)) (hx:aA σ x=some (.map (some b))) (hs:bf U (cc enc b l c) ζ):bE P (.range t x) σ g U fun v ax =>∃ it,v=.pointer (some ⟨it,0,none⟩)∧ax =jd (K:=K) it b c []::U :=
 fun o ρ w ho hkn hw=>by
  have hb:=(hw.cu hs).block;exact ⟨_,_,_,⟨w.heap.size,rfl,rfl⟩,by simp [execOp,ho,hkn x _ hx,Instr.range,run_underlying ht,MapKept.run_getObj_map hb,newObj,Sem.run],hw.alloc _⟩
omit [DecidableEq K] in
theorem zN {seen:List Nat} {e:MapEntry}:e∈(leftOf (e8 enc l) seen.toArray).toList↔∃ x∈l,e=gT enc x∧x.2.2 ∉ seen:=by
 unfold leftOf;simp only [Array.toList_filter,List.mem_filter,e8,List.mem_map]
 constructor
 ·rintro ⟨⟨x,hx,rfl⟩,h⟩
  exact ⟨x,hx,rfl,by simpa [gT] using h⟩
 ·rintro ⟨x,hx,rfl,h⟩
  exact ⟨⟨x,hx,rfl⟩,by simpa [gT] using h⟩
omit [DecidableEq K] in
theorem O.Jb {done todo:List (b8 K)} {it:Nat} (ho:bJ ops i n σ d (.next x false)) (hx:aA σ x=some (.pointer (some ⟨it,0,none⟩))) (hwf:gB l c) (hp:l.Perm (done++todo)) (s1:bf U (jd it b c done) ζ) (s2:bf ζ (cc enc b l c) aN)
  (h0:todo=[]→O ro P fn n R ops ls k ((d,.tuple #[.bool false])::σ) D g (jd it b c done::cc enc b l c::aN))
  (h1:∀ x t1 t2,todo=t1++x::t2→O ro P fn n R ops ls k ((d,.tuple #[.bool true,enc (x.1),x.2.1])::σ) D g (jd it b c (done++[x])::cc enc b l c::aN)):O ro P fn n R ops (i::ls) k σ D g U:=by
 intro a w hf hd hw
 obtain ⟨o,hi,ek,hop,hg,hb⟩:=ho.spec;have hw1:Holds w g (jd it b c done::cc enc b l c::aN):=(hw.cu s1).imp fun _ h=>Sat.fe (fun _ y=>y) (fun _ y=>Sat.perm s2.perm y) h;have hr:=Holds.block hw1;have hm:=cc.block (hw1.cu (.there .here));have di:((done++todo).map (·.2.2)).Nodup:=(hp.map _).nodup_iff.1 hwf.1;rw [List.map_append,List.nodup_append] at di;have hold:∀ x∈(e8 enc l).toList,x.born<c:=fun e he=>by
  simp only [e8,List.mem_map] at he;obtain ⟨y,hy,rfl⟩:=he;exact hwf.2.1 y hy
 rcases run_next_at (P:=P) (ty:=o.type) hr hm hold (Nat.le_refl _) with ⟨hz,hrun⟩|⟨e,he,m,hmn,hrun⟩
 ·have DH:todo=[]:=by
   cases todo with
   |nil=>rfl
   |cons y ys =>
    have qD:y∈l:=hp.mem_iff.2 (by simp);have:gT enc y∈(leftOf (e8 enc l) (done.map (·.2.2)).toArray).toList:=zN.2 ⟨y,qD,rfl,fun h=>di.2.2 _ h _ (by simp) rfl⟩;rw [Array.eq_empty_of_size_eq_zero hz] at this
    cases this
  have oW :(execOp a.eval o).run P w=.ok (.value (.tuple #[.bool false])) w:=by simp [execOp,hop,hf.j3 x _ hx,hrun]
  refine O.mi hi (hg a hf) (vc oW) oW ?_;rw [Oper.uponIn_value,ek];exact h0 DH _ _ (hf.put hb) hd hw1
 ·obtain ⟨y,hy,rfl,qv⟩:=zN.1 he
  have DN:y∈todo:=by
   rcases List.mem_append.1 (hp.mem_iff.1 hy) with h|h
   ·exact absurd (List.mem_map.2 ⟨y,h,rfl⟩) qv
   ·exact h
  obtain ⟨t1,t2,DI⟩:=List.append_of_mem DN;have oW :(execOp a.eval o).run P w=.ok (.value (.tuple #[.bool true,enc (y.1),y.2.1])) (({ w with drawn:=m }:World).putObj it (.mapIter (some b) c ((done.map (·.2.2)).toArray.push y.2.2) c)):=by
   simp [execOp,hop,hf.j3 x _ hx,hrun,gT]
  refine O.mi hi (hg a hf) (vc oW) oW ?_;rw [Oper.uponIn_value,ek];have qB:=(hw1.drewN m hmn).putObj (.mapIter (some b) c ((done.map (·.2.2)).toArray.push y.2.2) c);have C0:jd it b c (done++[y])=blk it (.mapIter (some b) c ((done.map (·.2.2)).toArray.push y.2.2) c):=by simp [jd]
  rw [← C0] at qB;exact h1 y t1 t2 DI _ _ (hf.put hb) hd qB
omit [DecidableEq K] in
theorem aD.B3 {done:List (b8 K)} {y:b8 K} {it:Nat} (hx:aA σ x=some (.pointer (some ⟨it,0,none⟩))) (hwf:gB l c) (hy:y∈l) (s1:bf U (jd it b c (done++[y])) ζ) (s2:bf ζ (cc enc b l c) aN) :
  aD P (.entry x) σ g U (.tuple #[enc (y.1),y.2.1]) U:=fun o ρ w ho hkn hw=>by
 have hw1:Holds w g (jd it b c (done++[y])::cc enc b l c::aN):=(hw.cu s1).imp fun _ h=>Sat.fe (fun _ y=>y) (fun _ y=>Sat.perm s2.perm y) h;have hr:=Holds.block hw1;have hm:=cc.block (hw1.cu (.there .here));have hfind:(e8 enc l).toList.find? (·.born ==(gT enc y).born)=some (gT enc y):=find_born _ _ (by simpa [e8,gT,Function.comp_def] using hwf.1) (show gT enc y∈(e8 enc l).toList from List.mem_map.2 ⟨y,hy,rfl⟩);have Od:(e8 enc l).find? (fun e=>e.born ==y.2.2)=some (gT enc y):=by rw [← Array.find?_toList];exact hfind
 have N3:(((done++[y]).map (·.2.2)).toArray).back?=some y.2.2:=by simp
 refine ⟨w,?_,hw⟩;have:(Instr.entry (.pointer (some ⟨it,0,none⟩))).run P w=.ok (.tuple #[enc (y.1),y.2.1]) w:=by
  simp only [Instr.entry,getObj,Sem.run_bind,Sem.run,hr,Result.andThen,N3,hm,bne_self_eq_false,Bool.false_eq_true,if_false,Od]
  rfl
 simp [execOp,ho,hkn x _ hx,this]
end
omit [DecidableEq K] in
theorem gB.nil:gB ([]:List (b8 K)) 0:=⟨.nil,by simp,.nil⟩
theorem y4 {m:List (b8 K)} {k:K}:cG m k=none↔k ∉ m.map (·.1):=by
 induction m with
 |nil=>simp [cG]
 |cons x m ih =>
  simp only [cG,List.map_cons,List.mem_cons]
  split
  ·rename_i h;subst h;simp
  ·rename_i h;rw [ih];constructor
   ·rintro h1 (h2|h2)
    ·exact h h2.symm
    ·exact h1 h2
   ·exact fun h1 h2=>h1 (.inr h2)
theorem Ch {m:List (b8 K)} {k:K} {v:Value} (h:cG m k=some v):∃ n,(k,v,n)∈m:=by
 induction m with
 |nil=>cases h
 |cons x m ih =>
  simp only [cG] at h
  split at h
  ·rename_i e;cases h;subst e;exact ⟨_,List.mem_cons_self ..⟩
  ·obtain ⟨n,hn⟩:=ih h;exact ⟨n,List.mem_cons_of_mem _ hn⟩
theorem uJ {m:List (b8 K)} (h:(m.map (·.1)).Nodup) {x:b8 K} (hx:x∈m):cG m x.1=some x.2.1:=by
 induction m with
 |nil=>cases hx
 |cons y m ih =>
  rw [List.map_cons,List.nodup_cons] at h;simp only [cG]
  rcases List.mem_cons.1 hx with rfl|hx
  ·simp
  ·rw [if_neg (fun e:y.1=x.1=>h.1 (by rw [e];exact List.mem_map.2 ⟨x,hx,rfl⟩)),ih h.2 hx]
theorem Ka (k:K) (v:Value):∀ m:List (b8 K),(mK m k v).map (·.1)=m.map (·.1)∧(mK m k v).map (·.2.2)=m.map (·.2.2)
 |[]=>⟨rfl,rfl⟩
 |x::m=>by
  have ih:=Ka k v m;simp only [mK]
  split
  ·rename_i h;simp [h]
  ·simp [ih.1,ih.2]
theorem G9 (k:K) (v:Value) (j:K):∀ m:List (b8 K),cG (mK m k v) j=if j=k then (cG m k).map fun _=>v else cG m j
 |[]=>by simp [mK,cG]
 |x::m=>by
  have ih:=G9 k v j m;simp only [mK]
  by_cases e:x.1=k
  ·rw [if_pos e]
   simp only [cG]
   by_cases e2:j=k
   ·subst e2;simp [e]
   ·rw [if_neg (fun h=>e2 h.symm),if_neg e2,if_neg (fun h=>e2 (h.symm.trans e))]
  ·rw [if_neg e]
   simp only [cG]
   by_cases e2:j=k
   ·subst e2;rw [if_neg e,if_pos rfl,if_neg e,ih,if_pos rfl]
   ·rw [if_neg e2,ih,if_neg e2]
theorem Nl (m:List (b8 K)) (k:K) (v:Value) (c:Nat) (j:K) (h:cG m k=none):cG (m++[(k,v,c)]) j=if j=k then some v else cG m j:=by
 induction m with
 |nil =>
  simp only [List.nil_append,cG]
  by_cases e:j=k
  ·subst e;rw [if_pos rfl]
  ·rw [if_neg (fun q=>e q.symm),if_neg e]
 |cons x m ih =>
  simp only [cG] at h ⊢
  split at h
  ·cases h
  ·rename_i e
   simp only [List.cons_append,cG]
   by_cases e2:j=k
   ·subst e2;rw [if_neg e,ih h];simp
   ·by_cases b6:x.1=j
    ·rw [if_pos b6,if_neg e2,if_pos b6]
    ·rw [if_neg b6,ih h,if_neg e2,if_neg e2,if_neg b6]
theorem G8 (m:List (b8 K)) (c:Nat) (k:K) (v:Value) (j:K):cG (ir m c k v) j=if j=k then some v else cG m j:=by
 unfold ir
 split
 ·rename_i h
  rw [G9]
  split
  ·cases hg:cG m k with
   |none=>rw [hg] at h;cases h
   |some u=>rfl
  ·rfl
 ·rename_i h
  exact Nl m k v c j (by simpa using h)
theorem Ag {m:List (b8 K)} {c:Nat} (h:gB m c) (k:K) (v:Value):gB (ir m c k v) (kI m c k):=by
 unfold ir kI
 split
 ·rename_i hs
  obtain ⟨h1,h2⟩:=Ka k v m;refine ⟨by rw [h2];exact h.1,fun x hx=>?_,by rw [h1];exact h.2.2⟩;have:x.2.2∈(mK m k v).map (·.2.2):=List.mem_map.2 ⟨x,hx,rfl⟩;rw [h2] at this;obtain ⟨y,hy,e⟩:=List.mem_map.1 this;have:=h.2.1 y hy
  omega
 ·rename_i hs
  have hn:cG m k=none:=by simpa using hs
  refine ⟨?_,fun x hx=>?_,?_⟩
  ·rw [List.map_append,List.nodup_append]
   refine ⟨h.1,by simp,fun a ha b hb=>?_⟩;obtain ⟨y,hy,rfl⟩:=List.mem_map.1 ha;have:=h.2.1 y hy
   simp at hb;subst hb;omega
  ·rcases List.mem_append.1 hx with hx|hx
   ·have:=h.2.1 x hx;omega
   ·simp at hx;subst hx;simp
  ·rw [List.map_append,List.nodup_append]
   refine ⟨h.2.2,by simp,fun a ha b hb=>?_⟩
   simp at hb;subst hb
   intro e;subst e
   exact y4.1 hn ha
theorem sG (k:K):∀ m:List (b8 K),(gM m k).Sublist m
 |[]=>.slnil
 |x::m=>by
  simp only [gM];split
  ·exact List.sublist_cons_self _ _
  ·exact (sG k m).cons_cons _
theorem BW {m:List (b8 K)} {c:Nat} (h:gB m c) (k:K):gB (gM m k) c :=
 ⟨((sG k m).map _).nodup h.1,fun x hx=>h.2.1 x ((sG k m).subset hx),((sG k m).map _).nodup h.2.2⟩
theorem Cg {m:List (b8 K)} (h:(m.map (·.1)).Nodup) (k j:K):cG (gM m k) j=if j=k then none else cG m j:=by
 induction m with
 |nil=>simp [gM,cG]
 |cons x m ih =>
  rw [List.map_cons,List.nodup_cons] at h;simp only [gM]
  by_cases e:x.1=k
  ·rw [if_pos e]
   by_cases e2:j=k
   ·subst e2;rw [if_pos rfl];exact y4.2 (e ▸ h.1)
   ·rw [if_neg e2];simp only [cG];rw [if_neg (fun q=>e2 (q.symm.trans e))]
  ·rw [if_neg e]
   simp only [cG]
   by_cases e2:j=k
   ·subst e2;rw [if_neg e,ih h.2,if_pos rfl,if_pos rfl]
   ·rw [ih h.2,if_neg e2,if_neg e2]
section
variable {ro:Option Nat} {P:Program} {fn:Func} {n:Nat} {R:Ending→World→Prop} {k:List Item} {σ:List (Nat × Value)} {D:List Deferred} {g:bh} {U ζ aN:List az} {ops:Array Oper} {i d:Nat} {ls:List Nat}
 {t tk te:TypeId} {x y z:Operand} {b c c' :Nat} {l:List (b8 K)} {key:K} {w:World} {v cz:Value}
theorem cL.rV {fl:Bool} {j:Nat} {l' :List Nat} (ho:j5 ops j=some (.mapUpdate t x y z)) (hd:d_ fl ops j l' =true) (ht:P.underlying t=some (.map tk te)) (hk:ou P tk enc) (hx:aA σ x=some (.map (some b))) (hy:aA σ y=some (enc key)) (hz:aA σ z=some v) (hs:bf U (cc enc b l c) ζ)
  (h:af P fn n R ops k D g l' σ (cc enc b (ir l c key v) (kI l c key)::ζ)):aK P fn n R ops k D g fl (j::l') σ U :=
 aK.perm hs.perm (cL.mE (U:=cc enc b l c::ζ) (ax :=cc enc b (ir l c key v) (kI l c key)::ζ) ho rfl hd (fun _=>.rV ht hk hx hy hz bf.here) h)
theorem af.rV {j:Nat} {l' :List Nat} (ho:j5 ops j=some (.mapUpdate t x y z)) (hd:eu ops [j] l' =true) (ht:P.underlying t=some (.map tk te)) (hk:ou P tk enc) (hx:aA σ x=some (.map (some b))) (hy:aA σ y=some (enc key)) (hz:aA σ z=some v) (hs:bf U (cc enc b l c) ζ)
  (h:af P fn n R ops k D g l' σ (cc enc b (ir l c key v) (kI l c key)::ζ)):af P fn n R ops k D g (j::l') σ U:=cL.rV (fl:=false) ho (by simpa [d_] using hd) ht hk hx hy hz hs h
end
def encS (k:List UInt8):Value:=.string (str k)
theorem GU (k:List UInt8):∀ (l:List (b8 (List UInt8))) (i:Nat),Instr.findNow .string (encS k) (l.map (gT encS)) i=some ((cG l k).map fun v=>(i+(l.findIdx fun x=>@BEq.beq _ instBEqOfDecidableEq x.1 k),v))
 |[],_=>rfl
 |x::l,i=>by
  have ih:=GU k l (i+1);simp only [List.map_cons,Instr.findNow,gT,encS,Instr.sameNow] at ih ⊢
  by_cases h:x.1=k
  ·subst h;simp [cG,EX,List.findIdx_cons]
  ·have hne:(str k ==str x.1)=false:=by
    rw [EX];exact decide_eq_false fun e=>h e.symm
   rw [hne]
   simp only
   rw [ih];have h2:(@BEq.beq _ instBEqOfDecidableEq x.1 k)=false:=by simpa using h
   simp only [cG,if_neg h,List.findIdx_cons,h2]
   cases cG l k with
   |none=>rfl
   |some v=>simp;omega
theorem o3 {P:Program} {tk:TypeId} (hk:P.underlying tk=some .string):ou P tk encS where
 find k l w:=by
  have h:=GU k l 0;simp only [e8,Instr.findKey,Sem.run_bind,run_underlying hk,Result.andThen,h,Nat.zero_add,Sem.run_pure]
 check e k w:=TS hk e 9999
 same k:=by
  show (str k ==str k)=true
  rw [EX];simp
end Go.Sp
end
end
section
/- Texts of this proof, one behind the other. -/
section
/- Texts of this proof, one behind the other. -/
section
/- Texts of this proof. -/
namespace Go.Sp
def fM (P:Program) (ty:TypeId) (cs:List Value) (v:Value):Prop:=∀ (w:World) (b:Nat),(∀ j u,cs[j]?=some u→w.cell? ⟨b,j,none⟩=some u)→(loadVar ty ⟨b,0,none⟩).run P w=.ok v w
theorem fM.flat {P:Program} {ty:TypeId} {v:Value} (h:dR P ty=true):fM P ty [v] v:=fun w b hc=>by
 simp [loadVar,r6 (ru h),hc 0 v rfl]
theorem fM.agg {P:Program} {ty:TypeId} {cs:List Value} (h:∀ w,(isAgg ty).run P w=.ok true w) (hs:(P.info? ty).map (·.size)=some cs.length):fM P ty cs (.agg cs.toArray):=fun w b hc=>by
 have hr:=run_loadCells_list (P:=P) w ⟨b,0,none⟩ cs fun j v hj=>by rw [add_lit,Nat.zero_add];exact hc j v hj
 simp [loadVar,h,run_sizeOf hs,hr]
section
variable {P:Program} {fn:Func} {n:Nat} {R:Ending→World→Prop} {k:List Item} {σ:List (Nat × Value)} {D:List Deferred} {g:bh} {U ζ aN:List az} {f:FuncId}
theorem Holds.Ee {w:World} {b:Nat} {T:TypeId} {cs:List Value} (h:Holds w g (obj b T cs::U)):∀ j u,cs[j]?=some u→w.cell? ⟨b,j,none⟩=some u:=fun _ _ hj=>h.tE hj
def sx (P:Program) (g:bh) (b1 b2:Nat) (t1 t2:TypeId) (R:Ending→World→Prop) (e:Ending) (u:FrameMode) (w:World):Prop :=
 (∃ v,e=.returned v)∧settle u=.returning∧∃ en eU pI uC v1 v2 U,Holds w g (obj b1 en pI::obj b2 eU uC::U)∧fM P t1 pI v1∧fM P t2 uC v2∧R (.returned (.tuple #[v1,v2])) w
theorem TG {a:Act} {w:World} {s1 s2 b1 b2:Nat} {t1 t2 en eU:TypeId} {pI uC:List Value} {v1 v2:Value} (hr:fn.results=#[.cell s1 t1,.cell s2 t2]) (hf:Fits a n σ) (rI:look σ s1=some (.pointer (some ⟨b1,0,none⟩))) (wR:look σ s2=some (.pointer (some ⟨b2,0,none⟩)))
  (hw:Holds w g (obj b1 en pI::obj b2 eU uC::U)) (h1:fM P t1 pI v1) (h2:fM P t2 uC v2):(results fn a.tmps).run P w=.ok (.tuple #[v1,v2]) w:=by
 have e1:=h1 w b1 hw.Ee;have e2:=h2 w b2 (hw.drop).Ee;have l1:=hf.2 s1 _ rI;have l2:=hf.2 s2 _ wR
 simp [results,hr,Array.getD_eq_getD_getElem?,l1,l2,asAddr,e1,e2]
theorem u5 {a:Act} {w:World} {u:FrameMode} {s1 s2 b1 b2:Nat} {t1 t2:TypeId} {cap args:Array Value} (hr:fn.results=#[.cell s1 t1,.cell s2 t2]) (hf:Fits a n σ) (rI:look σ s1=some (.pointer (some ⟨b1,0,none⟩))) (wR:look σ s2=some (.pointer (some ⟨b2,0,none⟩)))
  (hu:u≠.run) (hc:dr P f=true) (s0:CallsD P f (args++cap) u w (sx P g b1 b2 t1 t2 R)):eG P fn a.tmps R [⟨.fn (.func f) cap,args⟩] u w:=by
 refine eG.of (leaves_cons hu (by simp [invoke,As hc]) (s0.mono ?_));rintro e u' w' ⟨⟨v,rfl⟩,hs,en,eU,pI,uC,v1,v2,ax,hw,h1,h2,hR⟩
 show Leaves P fn a.tmps R [] (settle u') w'
 rw [hs];exact ⟨_,TG hr hf rI wR hw h1 h2,hR⟩
theorem S.r5 {s1 s2 b1:Nat} {t1 en:TypeId} {pI:List Value} {v1 v2:Value} (hr:fn.results=#[.cell s1 t1,.tmp s2]) (rI:look σ s1=some (.pointer (some ⟨b1,0,none⟩))) (wR:look σ s2=some v2)
  (s:bf U (obj b1 en pI) ζ) (h1:fM P t1 pI v1) (h:∀ w,Holds w g (obj b1 en pI::ζ)→R (.returned (.tuple #[v1,v2])) w):S none P fn n R (.code .ret::k) σ [] g U:=by
 refine S.qM fun a w hf hd hw=>?_;have hw' :=hw.cu s;refine ⟨.tuple #[v1,v2],?_,h w hw'⟩;have e1:=h1 w b1 hw'.Ee;have l1:=hf.2 s1 _ rI;have l2:=hf.2 s2 _ wR
 simp [results,hr,Array.getD_eq_getD_getElem?,l1,l2,asAddr,e1]
end
def oE (t:TypeId) (z:Int):List PanicEntry:=[{ v:=.iface t (.int .i64 z),recovered:=false }]
end Go.Sp
end
section
/- Texts of this proof, one behind the other. -/
section
/- Texts of this proof, one behind the other. -/
section
/- Texts of this proof. -/
namespace Go.Sp
section
variable {P:Program} {σ:List (Nat × Value)} {g:bh} {U:List az} {t ti u:TypeId} {x y:Operand} {a b c d:Int} {f0 f1:Field}
end
theorem AD {a b:List UInt8} (h:(str a).toList=(str b).toList):a=b:=by simpa using h
set_option synthInstance.maxSize 2000
set_option synthInstance.maxHeartbeats 400000
instance Wy:DecidableEq dn:=inferInstance
instance WE:DecidableEq aQ:=inferInstance
instance WB:DecidableEq aH:=inferInstance
instance WH:DecidableEq FD:=inferInstance
instance WC:DecidableEq dJ:=inferInstance
instance WD:DecidableEq K8:=inferInstance
instance WG:DecidableEq iV:=inferInstance
instance Wz:DecidableEq Fo:=inferInstance
instance WA:DecidableEq K3:=inferInstance
end Go.Sp
end
section
/- Texts of this proof. -/
namespace Go.Sp
theorem aD.G5 {P:Program} {σ:List (Nat × Value)} {g:bh} {U:List az} {t u:TypeId} {x y:Operand} {a b:ByteArray} (hx:aA σ x=some (.string a)) (hy:aA σ y=some (.string b)) :
  aD P (.binOp .geq t x y u) σ g U (.bool !(Op.bytesLess a.toList b.toList)) U :=
 .run fun o ρ w ho hk=>by simp [execOp,ho,hk x _ hx,hk y _ hy,eqGuard,Go.binOp,Op.stringOp]
theorem G6 (x y:List UInt8):(!Op.bytesLess (str x).toList (str y).toList)=decide (¬ x<y):=by rw [RF,decide_not]
end Go.Sp
end
end
section
/- Texts of this proof. -/
namespace Go.Sp
section
variable {ro:Option Nat} {P:Program} {fn:Func} {n:Nat} {R:Ending→World→Prop} {k:List Item} {σ:List (Nat × Value)} {D:List Deferred} {g:bh} {U ζ:List az} {ops:Array Oper} {t e e' :TypeId} {x:Operand} {v:Value} {xs:List UInt8}
theorem aD.toE {op:Op} {ax :List az} {u:Value} (h:aD P op σ g U u ax):bE P op σ g U fun v AS =>v=u∧AS =ax :=
 fun o ρ w h1 h2 h3=>let ⟨w',a,b⟩:=h o ρ w h1 h2 h3;⟨u,w',ax,⟨rfl,rfl⟩,a,b⟩
theorem bE.toStrO {t2:TypeId} (ht:P.underlying t=some (.slice e)) (he:P.underlying e=some (.int .u8)) (ht2:P.underlying t2=some .string) (hx:aA σ x=some v) :
  bE P (.convert t t2 x) σ g (av ag.u8 e' v xs::U) fun u ax =>∃ cN,(u=.string (str xs)∧cN=U)∧ax =av ag.u8 e' v xs::cN :=
 bE.borrow fun m hm hd=>aD.toE (aD.toStr (g:=g.add m) ht he ht2 hx (hm.arr.right hd))
theorem cL.toStrO {fl:Bool} {i d:Nat} {t2:TypeId} {l:List Nat} (ho:bJ ops i n σ d (.convert t t2 x)) (hd:d_ fl ops i l=true) (ht:P.underlying t=some (.slice e)) (he:P.underlying e=some (.int .u8)) (ht2:P.underlying t2=some .string) (hx:aA σ x=some v)
  (hs:bf U (av ag.u8 e' v xs) ζ) (h:af P fn n R ops k D g l ((d,.string (str xs))::σ) U):aK P fn n R ops k D g fl (i::l) σ U :=
 aK.perm hs.perm (cL.fU (U:=av ag.u8 e' v xs::ζ) (K:=fun u ax =>u=.string (str xs)∧ax =av ag.u8 e' v xs::ζ) ho rfl hd
  (fun aN=>(bE.toStrO (U:=ζ++aN) ht he ht2 hx).imp fun _ _ ⟨_,⟨a,b⟩,c⟩=>⟨_,⟨a,rfl⟩,by rw [c,b];rfl⟩) (by rintro _ _ ⟨rfl,rfl⟩;exact aK.perm hs.perm.symm h))
theorem af.toStrO {i d:Nat} {t2:TypeId} {l:List Nat} (ho:bJ ops i n σ d (.convert t t2 x)) (hd:eu ops [i] l=true) (ht:P.underlying t=some (.slice e)) (he:P.underlying e=some (.int .u8)) (ht2:P.underlying t2=some .string) (hx:aA σ x=some v)
  (hs:bf U (av ag.u8 e' v xs) ζ) (h:af P fn n R ops k D g l ((d,.string (str xs))::σ) U):af P fn n R ops k D g (i::l) σ U:=cL.toStrO (fl:=false) ho (by simpa [d_] using hd) ht he ht2 hx hs h
theorem bO.toStrO {i d:Nat} {t2:TypeId} {l:List Nat} (ho:bJ ops i n σ d (.convert t t2 x)) (_:true=true) (ht:P.underlying t=some (.slice e)) (he:P.underlying e=some (.int .u8)) (ht2:P.underlying t2=some .string) (hx:aA σ x=some v)
  (hs:bf U (av ag.u8 e' v xs) ζ) (h:af P fn n R ops k D g l ((d,.string (str xs))::σ) U):aK P fn n R ops k D g true (i::l) σ U:=cL.toStrO (fl:=true) ho rfl ht he ht2 hx hs h
end
end Go.Sp
end
end
end
section
/- Texts of this proof, one behind the other. -/
section
/- Texts of this proof. -/
namespace Go.Sp
def bQ (l:List bZ):List Value:=l.map pZ
@[simp] theorem mM (l:List bZ):(bQ l).length=l.length:=by simp [bQ]
theorem p0 {l:List bZ} {j:Nat} (h:j<l.length):(bQ l)[j]?=some (pZ (l.getD j 0)):=by
 simp [bQ,h,List.getD_eq_getElem?_getD]
theorem Fa (l:List bZ) (j:Nat) (x:bZ):(bQ l).set j (pZ x)=bQ (l.set j x):=by simp [bQ,List.map_set]
theorem VK (l:List bZ):∀ v∈bQ l,v.oneCell' =true:=fun v hv=>by
 obtain ⟨x,_,rfl⟩:=List.mem_map.1 hv;rfl
theorem VJ (l:List bZ):(bQ l).all (·.oneCell')=true:=List.all_eq_true.2 (VK l)
section
variable {P:Program} {σ:List (Nat × Value)} {g:bh} {U ζ:List az} {t e:TypeId} {x y:Operand}
theorem aD.Iv {kd:IntKind} {cA:Int} {j len:Nat} {cs:Array Value} {v:Value} (ht:P.underlying t=some (.array len e)) (he:(P.info? e).map (·.size)=some 1) (hf:dR P e=true) (hx:aA σ x=some (.agg cs)) (hy:aA σ y=some (.int kd cA)) (hz:cA=(j:Int)) (hj:j<len) (hv:cs[j]?=some v) :
  aD P (.index t x y) σ g U v U:=.run fun o ρ w ho hk=>by
 subst hz
 simp [execOp,ho,hk x _ hx,hk y _ hy,Instr.index,part,asIntOf,run_underlying ht,hj,run_sizeOf he,r6 (ru hf),hv]
theorem aD.UA {kd:IntKind} {z:Int} {a len b:Nat} (ht:P.underlying t=some (.array len e)) (he:(P.info? e).map (·.size)=some 1) (hx:aA σ x=some (.pointer (some ⟨b,0,none⟩))) (hy:aA σ y=some (.int kd z)) (hz:z=(a:Int)) (ha:a<len) (h0:0<a) :
  aD P (.slice t x (some y) none none) σ g U (.slice (some ⟨b,a,none⟩) (len - a) (len - a)) U:=.run fun o ρ w ho hk=>by
 subst hz;have h1:a≤len:=by omega
 have h2:¬ len=a:=by omega
 have h3:¬ a=0:=by omega
 simp [execOp,ho,hk x _ hx,hk y _ hy,Instr.sliceAt,Instr.sureAddr,Instr.sliceBounds,Instr.sliceBound,asIntOf,run_underlying ht,h1,h2,run_sizeOf he,Addr.add,h3]
theorem aD.UB {kd:IntKind} {z:Int} {a len b:Nat} (ht:P.underlying t=some (.array len e)) (he:(P.info? e).map (·.size)=some 1) (hx:aA σ x=some (.pointer (some ⟨b,0,none⟩))) (hy:aA σ y=some (.int kd z)) (hz:z=(a:Int)) (ha:a≤len) (h0:0<len) :
  aD P (.slice t x none (some y) none) σ g U (.slice (some ⟨b,0,none⟩) a len) U:=.run fun o ρ w ho hk=>by
 subst hz;have h2:¬ len=0:=by omega
 simp [execOp,ho,hk x _ hx,hk y _ hy,Instr.sliceAt,Instr.sureAddr,Instr.sliceBounds,Instr.sliceBound,asIntOf,run_underlying ht,ha,h2,run_sizeOf he,Addr.add]
theorem bE.BS {T te:TypeId} {b i j m n c n' c' :Nat} {cs:List Value} (ht:P.underlying t=some (.slice e)) (he:(P.info? e).map (·.size)=some 1) (hx:aA σ x=some (.slice (some ⟨b,i,none⟩) n c)) (hy:aA σ y=some (.slice (some ⟨b,j,none⟩) n' c')) (hs:bf U (obj b T cs) ζ)
  (hm:m=min n' n) (h1:i+m≤cs.length) (h2:j+m≤cs.length) (hone:∀ v∈cs,v.oneCell' =true) :
  bE P (.call ⟨.builtin .copy,#[x,y],#[t,te]⟩) σ g U fun v ax =>v=.int .i64 (m:Int)∧ax =obj b T (cs.take i++(cs.drop j).take m++cs.drop (i+m))::ζ :=
 fun o ρ w ho hk hw=>by
  have hw1:=hw.cu hs;have hlen:((cs.drop j).take m).length=m:=by simp;omega
  have hr:=run_loadCells_list (P:=P) w ⟨b,j,none⟩ ((cs.drop j).take m) fun q v hq=>by
   rw [add_lit];refine hw1.tE ?_;have Ds:q<((cs.drop j).take m).length:=(List.getElem?_eq_some_iff.1 hq).1;rw [List.getElem?_take_of_lt (by omega),List.getElem?_drop] at hq;exact hq
  rw [hlen] at hr;have hst:=run_storeCells_at P b i T ((cs.drop j).take m) 0 cs.toArray w hw1.block (by simp;omega) (by
   intro v hv
   exact hone v (List.mem_of_mem_drop (List.mem_of_mem_take hv)))
  simp only [Nat.add_zero,hlen] at hst;refine ⟨_,w.setRow b (cs.take i++(cs.drop j).take m++cs.drop (i+m)).toArray,_,⟨rfl,rfl⟩,?_,hw1.setRow⟩;have hmin:Nat.min n' n=m:=hm.symm
  simp [execOp,ho,hk x _ hx,hk y _ hy,resolve,invoke,builtin,Builtin.copy_,run_underlying ht,Builtin.lenOf,Builtin.firstCells,run_sizeOf he,hmin,hr,hst,goInt]
variable {fn:Func} {n:Nat} {R:Ending→World→Prop} {k:List Item} {D:List Deferred} {ops:Array Oper}
theorem af.BS {q d:Nat} {l:List Nat} {T te:TypeId} {b i j m n1 c n' c' :Nat} {cs:List Value} (ho:bJ ops q n σ d (.call ⟨.builtin .copy,#[x,y],#[t,te]⟩)) (hd:eu ops [q] l=true) (ht:P.underlying t=some (.slice e)) (he:(P.info? e).map (·.size)=some 1) (hx:aA σ x=some (.slice (some ⟨b,i,none⟩) n1 c))
  (hy:aA σ y=some (.slice (some ⟨b,j,none⟩) n' c')) (hs:bf U (obj b T cs) ζ) (hm:m=min n' n1) (h1:i+m≤cs.length) (h2:j+m≤cs.length) (hone:∀ v∈cs,v.oneCell' =true)
  (h:af P fn n R ops k D g l ((d,.int .i64 (m:Int))::σ) (obj b T (cs.take i++(cs.drop j).take m++cs.drop (i+m))::ζ)):af P fn n R ops k D g (q::l) σ U :=
 aK.perm hs.perm (cL.fU (fl:=false) (U:=obj b T cs::ζ) (K:=fun u ax =>u=.int .i64 (m:Int)∧ax =obj b T (cs.take i++(cs.drop j).take m++cs.drop (i+m))::ζ) ho rfl (by simpa [d_] using hd)
  (fun aN=>(bE.BS (ζ:=ζ++aN) ht he hx hy .here hm h1 h2 hone).imp fun _ _ ⟨a,b⟩=>⟨_,⟨a,rfl⟩,by rw [b];rfl⟩) (by rintro _ _ ⟨rfl,rfl⟩;exact h))
end
def jc (b:List UInt8) (t:Nat):List bZ:=sched b t++List.replicate (80 - t) 0
theorem Ui {b:List UInt8} {t:Nat} (h:t≤80):(jc b t).length=80:=by simp [jc,xZ];omega
theorem Uh (b:List UInt8):jc b 80=sched b 80:=by simp [jc]
theorem J_ {b:List UInt8} {t:Nat} (h:t<80) (x:bZ):(jc b t).set t x=sched b t++x::List.replicate (79 - t) 0:=by
 have hl:=xZ b t;rw [jc,List.set_append_right _ _ (by omega),hl,Nat.sub_self,show 80 - t=(79 - t)+1 by omega,List.replicate_succ,List.set_cons_zero]
theorem Uj {b:List UInt8} {t:Nat} (h:t<80):(jc b t).set t 0=jc b t:=by
 rw [J_ h,jc,show 80 - t=(79 - t)+1 by omega,List.replicate_succ]
theorem J' {b:List UInt8} {t:Nat} (h:t<80):(jc b t).set t (qO b (sched b t) t)=jc b (t+1):=by
 rw [J_ h,jc,sched,List.append_assoc,List.singleton_append,show 80 - (t+1)=79 - t by omega]
theorem Ax {b:List UInt8} {t i:Nat} (h:i<t):(jc b t).getD i 0=(sched b t).getD i 0:=by
 have hl:=xZ b t;rw [List.getD_eq_getElem?_getD,List.getD_eq_getElem?_getD,jc,List.getElem?_append_left (by omega)]
theorem Nk {l:List bZ} {t:Nat} {x:bZ} (h:t<l.length):(l.set t x).getD t 0=x:=by simp [List.getD_eq_getElem?_getD,h]
theorem LB {l : List UInt8} {j : Nat} (h : j < l.length) : mg (l.take (j + 1)) = mg (l.take j) <<< 8 ||| UInt64.ofNat l[j].toNat := by
 unfold mg;rw [List.take_succ_eq_append_getElem h,List.foldl_append];rfl
theorem VN (c:UInt8):IntKind.u64.wrap (c.toNat:Int)=((UInt64.ofNat c.toNat).toNat:Int):=by
 have:=c.toNat_lt;rw [qU (by omega),UInt64.toNat_ofNat'];omega
theorem IV {l:List bZ} (h:l.length=8):∃ a b c d e f g i,l=[a,b,c,d,e,f,g,i]:=by
 match l,h with
 |[a,b,c,d,e,f,g,i],_=>exact ⟨a,b,c,d,e,f,g,i,rfl⟩
def mc (v u:List bZ) (i:Nat):List bZ:=(List.zipWith (·+·) v u).take i++v.drop i
theorem Lf {v u:List bZ} (hv:v.length=8) (hu:u.length=8) {i:Nat} (h:i≤8):(mc v u i).length=8:=by simp [mc,hv,hu];omega
theorem Ld {v u:List bZ} (hv:v.length=8) (hu:u.length=8):mc v u 8=List.zipWith (·+·) v u:=by
 rw [mc,List.drop_eq_nil_of_le (by omega),List.append_nil,List.take_of_length_le (by simp [hv,hu])]
theorem Le {v u:List bZ} (hv:v.length=8) (hu:u.length=8) {i:Nat} (h:i<8):(mc v u i).getD i 0=v.getD i 0:=by
 have hl:((List.zipWith (·+·) v u).take i).length=i:=by simp [hv,hu];omega
 rw [List.getD_eq_getElem?_getD,List.getD_eq_getElem?_getD,mc,List.getElem?_append_right (by omega),hl,Nat.sub_self,List.getElem?_drop,Nat.add_zero]
theorem Lg {v u:List bZ} (hv:v.length=8) (hu:u.length=8) {i:Nat} (h:i<8):(mc v u i).set i (v.getD i 0+u.getD i 0)=mc v u (i+1):=by
 have hl:((List.zipWith (·+·) v u).take i).length=i:=by simp [hv,hu];omega
 have hz:i<(List.zipWith (·+·) v u).length:=by simp [hv,hu];omega
 have e1:v.drop i=v[i]::v.drop (i+1):=List.drop_eq_getElem_cons (by omega);rw [mc,List.set_append_right _ _ (by omega),hl,Nat.sub_self,e1,List.set_cons_zero,mc,List.take_succ_eq_append_getElem hz,List.append_assoc,List.singleton_append,List.getElem_zipWith]
 simp [List.getD_eq_getElem?_getD,hv,hu,h]
end Go.Sp
end
section
/- Texts of this proof. -/
namespace Go.Sp
theorem IE {P:Program} {w:World} {n:String} {d:DataW Unit}:∀ {l:List (String × DataW Unit)} {ps:List MemPlace},DataW.LaidVars P w l ps→(n,d)∈l →
  ∃ g t cs fuel p,P.globalNamed n=some g∧(P.globals[g]?).map (·.type)=some t∧w.var? P n=some cs∧DataW.trod (fun _=>()) P w 0 (fun _=>true) false fuel t cs.toList=some (d,p)
 |[],_,_,hm=>by cases hm
 |(n',d')::r,ps,h,hm=>by
  obtain ⟨g,t,cs,fuel,p,q,e1,e2,b6,ff,hr,_⟩:=h
  rcases List.mem_cons.1 hm with hm|hm
  ·cases hm;exact ⟨g,t,cs,fuel,p,e1,e2,b6,ff⟩
  ·exact IE hr hm
theorem IG {P:Program} {w:World} {l:List (String × DataW Unit)} {n:String} {vs:List bZ} {g t e:Nat} (h:laidMetH P l w) (hm:(n,DataW.agg (vs.map fun x=>.lit (.int .u64 (x.toNat:Int))))∈l) (hg:P.globalNamed n=some g)
  (ht:(P.globals[g]?).map (·.type)=some t) (hu:P.underlying t=some (.array vs.length e)) (he:P.underlying e=some (.int .u64)) (hc:P.cellsOf e=1) (N6:P.cellsOf t=vs.length):At w.fr ⟨g,0,none⟩ (bQ vs):=by
 obtain ⟨ps,hl,_⟩:=(laidMetH_iff.1 h).1;obtain ⟨g',t',cs,fuel,p,e1,e2,b6,ff⟩:=IE hl (List.mem_filter.2 ⟨hm,rfl⟩);rw [hg] at e1;obtain rfl:=Option.some.inj e1;rw [ht] at e2;obtain rfl:=Option.some.inj e2;obtain ⟨xs,m,_,hx,hlen,hxl,hi⟩:=DataW.trod_array hu ff;have hx1:=(Prod.mk.inj hx).1
 injection hx1 with hx1
 have hcs:cs.toList=bQ vs:=by
  refine List.ext_getElem (by rw [hlen,N6,mM]) fun i h1 h2=>?_;have qo :i<vs.length:=by simpa using h2
  have hq:=hi i qo;rw [hc,Nat.mul_one] at hq;have qC:xs[i]?=some xs[i]:=List.getElem?_eq_getElem (by omega);rw [qC] at hq;obtain ⟨z,hz,PD,_⟩:=DataW.trod_int he hq;have h3:(xs[i]).1=.lit (.int .u64 z):=by rw [PD]
  have h4:=congrArg (fun l:List (DataW Unit)=>l[i]?) hx1;simp only [List.getElem?_map,qC,List.getElem?_eq_getElem qo,Option.map_some,Option.some.injEq] at h4;rw [h3] at h4
  injection h4 with h4
  injection h4 with _ h4
  have h5:cs.toList[i]=.int .u64 z:=by
   have:(cs.toList.drop i).take 1=[cs.toList[i]]:=by rw [List.drop_eq_getElem_cons h1];rfl
   rw [this] at hz;exact (List.cons.inj hz).1
  rw [h5,← h4]
  simp [bQ,pZ]
 intro j hj
 rw [G2,← List.getElem?_eq_getElem hj,← hcs];unfold World.var? at b6;rw [hg] at b6;simp only [Option.bind_some] at b6;have e0:(Addr.mk g 0 none).add j=⟨g,j,none⟩:=by rw [add_lit,Nat.zero_add]
 rw [e0];unfold World.cell?
 simp only
 split at b6
 ·rename_i cs' _ _ hh
  obtain rfl:=Option.some.inj b6
  simp [hh]
 ·cases b6
end Go.Sp
end
end
end
