/- Texts of this proof, one behind the other. -/
import Derived.Lib.Bytealg
import Derived.Laws.Externs
import Derived.Test.YtojafegjlahajaaGreatDoorQSpSib
import Derived.OpenShut
import Derived.LaidSub
set_option linter.unusedSectionVars false
section
/- Texts of this proof, one behind the other. -/
section
/- Texts of this proof, one behind the other. -/
section
/- Texts of this proof, one behind the other. -/
section
/- Texts of this proof, one behind the other. -/
section
/- Texts of this proof. -/
namespace Go.Sp
theorem run_loadBytes (P:Program):∀ (xs:List UInt8) (a:Addr) (acc:ByteArray) (w:World),(∀ j (h:j<xs.length),w.cell? (a.add j)=some (bD xs[j])) →
  (Extern.Bytes.loadBytes a xs.length acc).run P w=.ok ⟨acc.data++xs.toArray⟩ w
 |[],a,acc,w,_=>by simp [Extern.Bytes.loadBytes]
 |x::xs,a,acc,w,h=>by
  have h0:=h 0 (by simp);rw [Addr.add_zero] at h0;have ih:=run_loadBytes P xs (a.add 1) (acc.push x) w fun j hj=>by
   have:=h (j+1) (by simp;omega);rw [Addr.add_add,Nat.add_comm 1 j]
   simpa using this
  have hx:(x.toNat:Int).toNat.toUInt8=x:=by simp
  simp only [List.getElem_cons_zero,bD] at h0;simp only [List.length_cons,Extern.Bytes.loadBytes,Sem.run_bind,run_load,h0,Result.andThen,hx,ih]
  congr 2
  simp [ByteArray.push]
theorem KE {P:Program} {h:Fr} {v:Value} {xs:List UInt8} (ha:aj ag.u8 h v xs) {w:World} (hw:h.sub w.fr):(Extern.Bytes.bytesOf v).run P w=.ok (str xs) w:=by
 obtain ⟨ak,hc,a,cap,rfl,h1,h2,h3,h4⟩:=ha;have hcs:ak.flatten=xs.map bD:=by
  clear h3 h4 h1 h2
  induction ak generalizing xs with
  |nil=>cases xs with
   |nil=>rfl
   |cons _ _=>exact hc.elim
  |cons c ak ih=>cases xs with
   |nil=>exact hc.elim
   |cons x xs=>rw [List.flatten_cons,ih hc.2,show c=[bD x] from hc.1];rfl
 cases a with
 |none =>
  have:xs=[]:=by
   cases xs with
   |nil=>rfl
   |cons x xs=>obtain ⟨p,hp,_⟩:=h4 0 (by rw [hcs];simp);cases hp
  subst this
  simp [Extern.Bytes.bytesOf];rfl
 |some a =>
  have:=run_loadBytes P xs a .empty w fun j hj=>by
   obtain ⟨p,hp,hq⟩:=h4 j (by rw [hcs];simpa using hj)
   cases hp
   have:=Fr.qB hw hq;simp only [hcs,List.getElem_map] at this;exact this
  simp only [Extern.Bytes.bytesOf,this]
  congr 1
  simp [str,ByteArray.empty,ByteArray.emptyWithCapacity]
  rfl
theorem VB {P:Program} {h:Fr} {v u:Value} {xs ys:List UInt8} (ha:aj ag.u8 h v xs) (hb:aj ag.u8 h u ys) {w:World} (hw:h.sub w.fr) :
  (Extern.BytealgCompare.compare #[v,u]).run P w=.ok (.int .i64 (Lib.compareBytes xs ys)) w:=by
 change Sem.run P (do pure (goInt (Extern.BytealgCompare.cmp (← Extern.Bytes.bytesOf v) (← Extern.Bytes.bytesOf u)))) w=_
 simp only [Sem.run_bind,KE ha hw,KE hb hw,Sem.run_pure,Result.andThen];rw [Lib.cmp_eq]
 rfl
section
variable {P:Program} {σ:List (Nat × Value)} {g:bk} {U:List az}
theorem aF.Na {f : FuncId} {fn : Func} {x y z : Operand} {ts : Array TypeId} {v u : Value} {xs ys : List UInt8} (hf : P.funcs[f]? = some fn) (h1 : (fn.name == "runtime.NumGoroutine") = false) (h2 : fn.body.isNone = true) (h3 : Extern.findNext fn = none) (h4 : Extern.find fn = some Extern.BytealgCompare.compare)
  (hx:aA σ x=some (.func (.func f) #[] #[])) (hy:aA σ y=some v) (hz:aA σ z=some u) (ha:aj ag.u8 g.h v xs) (hb:aj ag.u8 g.h u ys):aF P (.call ⟨.value x,#[y,z],ts⟩) σ g U (.int .i64 (Lib.compareBytes xs ys)) U:=by
 intro o ρ w ho hk hw
 refine ⟨w,?_,hw⟩;have e1:=run_callFunc_extern (P:=P) hf h1 h2 h3 h4 #[v,u] w;rw [VB ha hb hw.ground] at e1;simp only [Result.andThen] at e1
 simp [execOp,ho,resolve,hk x _ hx,hk y _ hy,hk z _ hz,Deferred.ofValue,invoke,e1]
end
theorem Ce:∀ {a b:List UInt8},Lib.compareBytes a b<0↔a<b
 |[],[]=>by simp [Lib.compareBytes]
 |[],b::bs=>by simp [Lib.compareBytes]
 |a::as,[]=>by simp [Lib.compareBytes]
 |a::as,b::bs=>by
  rw [Lib.compareBytes,List.cons_lt_cons_iff]
  by_cases h:a<b
  ·simp [h]
  ·by_cases h2:b<a
   ·have:a≠b:=fun e=>by subst e;exact UInt8.lt_irrefl _ h2
    simp [h,h2,this]
   ·have e:a=b:=UInt8.le_antisymm (UInt8.not_lt.1 h2) (UInt8.not_lt.1 h)
    subst e;rw [if_neg h,if_neg h2,Ce]
    simp [UInt8.lt_irrefl]
theorem Hi:∀ {a b:List UInt8},Lib.compareBytes a b=0↔a=b
 |[],[]=>by simp [Lib.compareBytes]
 |[],b::bs=>by simp [Lib.compareBytes]
 |a::as,[]=>by simp [Lib.compareBytes]
 |a::as,b::bs=>by
  rw [Lib.compareBytes]
  by_cases h:a<b
  ·have:a≠b:=fun e=>by subst e;exact UInt8.lt_irrefl _ h
   simp [h,this]
  ·by_cases h2:b<a
   ·have:a≠b:=fun e=>by subst e;exact UInt8.lt_irrefl _ h2
    simp [h,h2,this]
   ·have e:a=b:=UInt8.le_antisymm (UInt8.not_lt.1 h2) (UInt8.not_lt.1 h)
    subst e;rw [if_neg h,if_neg h2,Hi]
    simp
theorem M_ (a b:List UInt8):cG (Lib.compareBytes a b):=by
 have:Lib.compareBytes a b= -1∨Lib.compareBytes a b=0∨Lib.compareBytes a b=1:=by
  induction a generalizing b with
  |nil=>cases b<;>simp [Lib.compareBytes]
  |cons x a ih=>cases b with
   |nil=>simp [Lib.compareBytes]
   |cons y b =>
    rw [Lib.compareBytes]
    split
    ·simp
    ·split
     ·simp
     ·exact ih b
 rcases this with h|h|h<;>rw [h]<;>constructor<;>decide
end Go.Sp
end
section
/- Texts of this proof. -/
namespace Go.Sp
def yq (x:j5):Bool:=decide (1≤x.1∧x.1≤7∧0≤x.2.1∧x.2.1<4∧1≤x.2.2.1∧x.2.2.1≤1073741824∧x.2.2.2.1.length=64)
def oE (x:j5):Bool:=yq x && decide (x.2.2.2.2.1.length=64)
theorem AY {x:j5}:yq x=true↔1≤x.1∧x.1≤7∧0≤x.2.1∧x.2.1<4∧1≤x.2.2.1∧x.2.2.1≤1073741824∧x.2.2.2.1.length=64:=decide_eq_true_iff
theorem AX {x:j5}:oE x=true↔yq x=true∧x.2.2.2.2.1.length=64:=by unfold oE;rw [Bool.and_eq_true,decide_eq_true_iff]
end Go.Sp
end
end
section
/- Texts of this proof. -/
namespace Go.Sp
def eV (xs:List UInt8):Int:=uh (nt (xs.take 8))
theorem TF (xs:List UInt8):cG (eV xs):=VL _ (Nat.lt_of_lt_of_le (BS xs 8) (by decide))
def mU (good:Bool) (rest:List UInt8):UInt8 × List UInt8 × Bool:=if good then (match rest with|[]=>(0,[],true)|x::xs=>(x,xs,false)) else (0,rest,false)
def lJ (good:Bool) (rest:List UInt8):Int × List UInt8 × Bool:=if good then (if 8≤rest.length then (eV rest,rest.drop 8,false) else (0,rest,true)) else (0,rest,false)
def kp (most:Int) (good:Bool) (rest:List UInt8):Int × List UInt8 × Bool :=
 if good then (if 8≤rest.length then (if 0≤eV rest∧eV rest≤most then (eV rest,rest.drop 8,false) else (0,rest.drop 8,true)) else (0,rest,true)) else (0,rest,false)
def lI (most:Int) (good:Bool) (rest:List UInt8):List UInt8 × List UInt8 × Bool :=
 if good then (if 8≤rest.length then (if 0≤eV rest∧eV rest≤most then (if (eV rest).toNat≤(rest.drop 8).length then ((rest.drop 8).take (eV rest).toNat,(rest.drop 8).drop (eV rest).toNat,false) else ([],rest.drop 8,true)) else ([],rest.drop 8,true)) else ([],rest,true)) else ([],rest,false)
structure RS where
 good:Bool
 rest:List UInt8
namespace RS
def of {α:Type} (s:RS) (x:α × List UInt8 × Bool):α × RS:=(x.1,⟨s.good && !x.2.2,x.2.1⟩)
def byte (s:RS):UInt8 × RS:=s.of (mU s.good s.rest)
def num (s:RS):Int × RS:=s.of (lJ s.good s.rest)
def count (most:Int) (s:RS):Int × RS:=s.of (kp most s.good s.rest)
def bytes (most:Int) (s:RS):List UInt8 × RS:=s.of (lI most s.good s.rest)
def done (s:RS):Bool:=s.good && decide (s.rest.length=0)
theorem E0 {n:Int} (h:cG n) (t:List UInt8):eV (be n++t)=n:=by
 unfold eV;rw [List.take_append_of_le_length (by simp),show (be n).take 8=be n from rfl,VK n h]
theorem BT (n:Int) (t:List UInt8):(be n++t).drop 8=t:=by
 rw [List.drop_append_of_le_length (by simp),show (be n).drop 8=[] from rfl,List.nil_append]
theorem GR (x:UInt8) (t:List UInt8):byte ⟨true,x::t⟩=(x,⟨true,t⟩):=rfl
theorem Av {n:Int} (h:cG n) (t:List UInt8):num ⟨true,be n++t⟩=(n,⟨true,t⟩):=by
 unfold num of lJ;rw [if_pos rfl,if_pos (by simp),E0 h,BT];rfl
theorem No {n most:Int} (h:cG n) (h0:0≤n) (hm:n≤most) (t:List UInt8):count most ⟨true,be n++t⟩=(n,⟨true,t⟩):=by
 unfold count of kp;rw [if_pos rfl,if_pos (by simp),E0 h,if_pos ⟨h0,hm⟩,BT];rfl
theorem GV {xs:List UInt8} {most:Int} (hm:(xs.length:Int)≤most) (hx:(xs.length:Int)≤9223372036854775807) (t:List UInt8):bytes most ⟨true,bytesOf xs++t⟩=(xs,⟨true,t⟩):=by
 unfold bytes of lI bytesOf;have h1:cG (xs.length:Int):=by constructor<;>omega
 rw [List.append_assoc];simp only [if_true];rw [if_pos (by simp),E0 h1,if_pos ⟨by omega,hm⟩,BT,if_pos (by simp)]
 simp
theorem GS (s:RS):s.byte.2.rest.length≤s.rest.length:=by
 obtain ⟨g,r⟩:=s
 cases g<;>cases r<;>simp [byte,of,mU]
theorem Aw (s:RS):s.num.2.rest.length≤s.rest.length:=by
 unfold num of lJ;split<;>(try split)<;>simp
theorem Np (most:Int) (s:RS):(s.count most).2.rest.length≤s.rest.length:=by
 unfold count of kp;split<;>(try split)<;>(try split)<;>simp
theorem MG (most:Int) (s:RS):(s.bytes most).2.rest.length≤s.rest.length:=by
 unfold bytes of lI;split<;>(try split)<;>(try split)<;>(try split)<;>simp<;>omega
theorem MH (most:Int) (s:RS):(s.bytes most).1.length≤s.rest.length:=by
 unfold bytes of lI;split<;>(try split)<;>(try split)<;>(try split)<;>simp<;>omega
theorem XP:cG 0:=⟨by decide,by decide⟩
theorem vN (s:RS):cG s.num.1:=by
 unfold num of lJ;split<;>(try split)<;>first|exact TF _|exact XP
theorem Nn (most:Int) (s:RS) (h:0≤most):0≤(s.count most).1∧(s.count most).1≤most:=by
 unfold count of kp;split<;>(try split)<;>(try split)<;>first|assumption|exact ⟨Int.le_refl _,h⟩
theorem NB {s:RS}:s.done=true↔s.good=true∧s.rest=[]:=by unfold done;simp
end RS
def wH:Nat→RS→List UInt8 × RS
 |0,s=>([],s)
 |n+1,s=>((wH n s).1++[(wH n s).2.byte.1],(wH n s).2.byte.2)
@[simp] theorem X2 (n:Nat) (s:RS):(wH n s).1.length=n:=by induction n<;>simp [wH, *]
def uJ (v:Value) (xs:List UInt8):az:=fun m=>aj ag.u8 m v xs
def j4 (T b:Nat) (s:RS):az:=fun m=>∃ p:Value × Bool × Bool,(p.2.1 && !p.2.2)=s.good∧Sat [obj b T [p.1,.bool p.2.1,.bool p.2.2],uJ p.1 s.rest] m
section
variable {P:Program} {f:FuncId} {args:Array Value} {r:Fr} {T b:Nat} {s:RS} {Q:Value→RS→List az→Prop} {w:World} {g:bk} {U:List az}
theorem Holds.TP {ι:Type} {F:ι→Prop} {ws:ι→List az} (h:Holds w g ((fun m=>∃ i,F i∧Sat (ws i) m)::U)):∃ i,F i∧Holds w g (ws i++U):=by
 obtain ⟨i,hi⟩:=Holds.s7 h;obtain ⟨q1,q2,cF,k,d,s1,s2,k1,k2,kd,t1,t2,⟨h1,hx⟩,y⟩:=hi;exact ⟨i,h1,q1,q2,cF,k,d,s1,s2,Sat.mono (Fr.iw t1 t2) (Sat.append kd hx y)⟩
theorem j4.fold {v:Value} {made bad:Bool} (h1:(made && !bad)=s.good) (h:Holds w g (obj b T [v,.bool made,.bool bad]::uJ v s.rest::U)):Holds w g (j4 T b s::U) :=
 h.imp fun _ h=>Sat.Ex (A:=obj b T [v,.bool made,.bool bad]) (B:=uJ v s.rest) (fun _ x=>⟨(v,made,bad),h1,x⟩) h
theorem ay.rd (h:∀ (m:Fr) v made bad,(made && !bad)=s.good→aj ag.u8 m v s.rest→ay P f args m [obj b T [v,.bool made,.bool bad]] (aL fun u U=>∃ v' BR s' ζ,Q u s' ζ∧(made && !BR)=s'.good∧aj ag.u8 m v' s'.rest∧U=obj b T [v',.bool made,.bool BR]::ζ)) :
  ay P f args r [j4 T b s] (aL fun u U=>∃ s' ζ,Q u s' ζ∧U=j4 T b s' ::ζ):=fun g hr w hw=>by
 obtain ⟨p,h1,hw1⟩:=Holds.TP (F:=fun p:Value × Bool × Bool=>(p.2.1 && !p.2.2)=s.good) (ws:=fun p=>[obj b T [p.1,.bool p.2.1,.bool p.2.2],uJ p.1 s.rest]) hw;obtain ⟨k,hk,hd,qV⟩:=Holds.freeze (hw1.perm (List.Perm.swap _ _ _));refine (h k p.1 p.2.1 p.2.2 h1 hk (g.add k) (Fr.dL hd) w qV).mono fun e w' ⟨ax,hp,hw'⟩=>?_
 cases e with
 |returned u =>
  obtain ⟨v',BR,s',ζ,hQ,h3,h4,rfl⟩:=hp;exact ⟨_,⟨s',ζ,hQ,rfl⟩,j4.fold h3 ((hw'.oH (A:=uJ v' s'.rest) h4 hd).perm (List.Perm.swap _ _ _))⟩
 |panicked _=>exact hp.elim
 |outgrown=>exact hp.elim
theorem zB {made bad f g:Bool} (h:(made && !bad)=g):(made && !(bad ||f))=(g && !f):=by subst h;cases made<;>cases bad<;>cases f<;>rfl
theorem U6 {e:TypeId} {v:Value} {xs:List UInt8} {m:Fr} (h:Sat (obj b T [v,.bool true,.bool false]::av ag.u8 e v xs::U) m):Sat (j4 T b ⟨true,xs⟩::U) m :=
 Sat.Ex (A:=obj b T [v,.bool true,.bool false]) (B:=uJ v xs) (fun _ x=>⟨(v,true,false),rfl,x⟩) (Sat.fk (fun _ x=>x) (fun _ y=>Sat.fk (fun _ x=>x.arr) (fun _ y=>y) y) h)
end
end Go.Sp
end
end
section
/- Texts of this proof. -/
namespace Go.Sp
def kG:Nat→RS→List dn × RS
 |0,s=>([],s)
 |n+1,s=>((kG n s).1++[((kG n s).2.num.1,(kG n s).2.num.2.num.1,())],(kG n s).2.num.2.num.2)
@[simp] theorem Hs (n:Nat) (s:RS):(kG n s).1.length=n:=by induction n<;>simp [kG, *]
def wS (d:dn):Prop:=cG d.1∧cG d.2.1
theorem NJ (n:Nat) (s:RS):∀ d∈(kG n s).1,wS d:=by
 induction n with
 |zero=>intro d hd;simp [kG] at hd
 |succ n ih =>
  intro d hd
  simp only [kG,List.mem_append,List.mem_singleton] at hd
  rcases hd with hd|rfl
  ·exact ih d hd
  ·exact ⟨RS.vN _,RS.vN _⟩
theorem NK (n:Nat) (s:RS):(kG n s).2.rest.length≤s.rest.length:=by
 induction n with
 |zero=>exact Nat.le_refl _
 |succ n ih=>exact Nat.le_trans (RS.Aw _) (Nat.le_trans (RS.Aw _) ih)
theorem NI:∀ (l:List dn) (t:List UInt8),(∀ d∈l,wS d)→kG l.length ⟨true,o5 l++t⟩=(l,⟨true,t⟩):=by
 have key:∀ (k:Nat) (l:List dn) (t:List UInt8),(∀ d∈l,wS d)→k≤l.length→kG k ⟨true,o5 l++t⟩=(l.take k,⟨true,o5 (l.drop k)++t⟩):=by
  intro k
  induction k with
  |zero=>intro l t _ _;simp [kG]
  |succ k ih =>
   intro l t hl hk
   have h1:=ih l t hl (by omega);have hd:l.drop k=l[k]::l.drop (k+1):=List.drop_eq_getElem_cons hk;have hq:=hl _ (List.getElem_mem (l:=l) (n:=k) (by omega));rw [kG,h1]
   simp only
   rw [hd,Cq,List.append_assoc,RS.Av hq.1]
   simp only
   rw [List.append_assoc,RS.Av hq.2,List.take_succ_eq_append_getElem hk]
 intro l t hl
 rw [key l.length l t hl (Nat.le_refl _)];simp
structure wq where
 kind:UInt8
 key:List UInt8
 client:Int
 seq:Int
 NG:List dn
 gone:UInt8
 value:List UInt8
 s:RS
def Fq (b:List UInt8):wq :=
 let k:=(RS.mk true b).byte
 let y:=k.2.bytes 64
 let c:=y.2.num
 let q:=c.2.num
 let n:=q.2.count 8
 let d:=kG n.1.toNat n.2
 let g:=d.2.byte
 let v:=g.2.bytes 1024
 ⟨k.1,y.1,c.1,q.1,d.1,g.1,v.1,v.2⟩
def wq.make (q:wq) (g:Bool) (sig:List UInt8):aP:=(q.key,q.client,q.seq,q.NG,g,q.value,sig,())
theorem Xs {l:List dn} (h:jZ l=true):∀ d∈l,wS d:=fun d hd=>by
 have:=wT.1 ((uw.1 h).1 d hd);exact ⟨⟨by omega,by omega⟩,⟨by omega,by omega⟩⟩
theorem Vb {x:aP} (h:shaped x=true) (t:List UInt8):Fq (jv x++t)=⟨1,x.1,x.2.1,x.2.2.1,x.2.2.2.1,nC x.2.2.2.2.1,x.2.2.2.2.2.1,⟨true,t⟩⟩:=by
 obtain ⟨h1,h2,h3,h4,h5,h6,h7⟩:=yz.1 h;have hd:=wT.1 h3;simp only [iJ] at hd;have hl:=yp h4;have i1:cG x.2.1:=⟨by omega,by omega⟩;have i2:cG x.2.2.1:=⟨by omega,by omega⟩;have i3:cG (x.2.2.2.1.length:Int):=⟨by omega,by omega⟩;have e0:jv x++t=(1:UInt8)::(bytesOf x.1++(be x.2.1++(be x.2.2.1++(be x.2.2.2.1.length++(o5 x.2.2.2.1++(nC x.2.2.2.2.1::(bytesOf x.2.2.2.2.2.1++t))))))):=by
  simp [jv]
 unfold Fq;rw [e0];simp only [RS.GR];rw [RS.GV (by omega) (by omega)]
 simp only
 rw [RS.Av i1]
 simp only
 rw [RS.Av i2]
 simp only
 rw [RS.No i3 (by omega) (by omega)];simp only [Int.toNat_natCast];rw [NI _ _ (Xs h4)];simp only [RS.GR];rw [RS.GV (by omega) (by omega)]
noncomputable def mz (b:List UInt8):Option aP:=by
 classical exact if h:∃ x,ee x=true∧b9 x=b then some h.choose else none
theorem AR {b:List UInt8} {x:aP} (h:mz b=some x):ee x=true∧b9 x=b:=by
 unfold mz at h
 split at h
 ·rename_i c;cases h;exact c.choose_spec
 ·cases h
def uf (b:List UInt8):wq:=Fq (b.take (b.length - 64))
def su (b:List UInt8):aP:=(uf b).make (decide ((uf b).gone≠0)) (b.drop (b.length - 64))
theorem Oh (g:Bool):decide (nC g≠0)=g:=by cases g<;>rfl
theorem AS {x:aP} (h:ee x=true):su (b9 x)=x∧(uf (b9 x)).s=⟨true,[]⟩∧64≤(b9 x).length:=by
 obtain ⟨h1,h2⟩:=vW.1 h;have e1:(b9 x).length - 64=(jv x).length:=by unfold b9;rw [List.length_append,h2];omega
 have e2:(b9 x).take ((b9 x).length - 64)=jv x:=by rw [e1];unfold b9;rw [List.take_append_of_le_length (Nat.le_refl _),List.take_length]
 have bY:(b9 x).drop ((b9 x).length - 64)=x.2.2.2.2.2.2.1:=by rw [e1];unfold b9;rw [List.drop_append_of_le_length (Nat.le_refl _),List.drop_length,List.nil_append]
 have fm:=Vb h1 [];rw [List.append_nil] at fm;refine ⟨?_,?_,?_⟩
 ·unfold su uf
  rw [e2,bY,fm];simp only [wq.make,Oh]
 ·unfold uf;rw [e2,fm]
 ·unfold b9;rw [List.length_append,h2];omega
theorem Fp {x y:aP} (hx:ee x=true) (hy:ee y=true) (h:b9 x=b9 y):x=y:=by
 rw [← (AS hx).1,h,(AS hy).1]
theorem U' {x:aP} (h:ee x=true):mz (b9 x)=some x:=by
 cases e:mz (b9 x) with
 |some y=>obtain ⟨h1,h2⟩:=AR e;rw [Fp h1 h h2]
 |none =>
  unfold mz at e
  split at e
  ·cases e
  ·rename_i c;exact absurd ⟨x,h,rfl⟩ c
theorem Ks {b:List UInt8} {x:aP}:mz b=some x↔ee x=true∧b9 x=b :=
 ⟨AR,fun ⟨h1,h2⟩=>by rw [← h2];exact U' h1⟩
theorem Kt {b:List UInt8} (h:∀ x,ee x=true→b9 x≠b):mz b=none:=by
 cases e:mz b with
 |none=>rfl
 |some x=>exact absurd (AR e).2 (h x (AR e).1)
theorem U_ {b:List UInt8} (h:b.length<64):mz b=none :=
 Kt fun x hx e=>by have:=(AS hx).2.2;rw [e] at this;omega
theorem Va {b:List UInt8} (h2:ee (su b)=true) (h3:b9 (su b)=b):mz b=some (su b):=Ks.2 ⟨h2,h3⟩
theorem U8 {b:List UInt8} (h:¬((uf b).s.done=true∧ee (su b)=true∧b9 (su b)=b)):mz b=none :=
 Kt fun x hx e=>h (by subst e;obtain ⟨h1,h2,_⟩:=AS hx;rw [h1,h2];exact ⟨rfl,hx,rfl⟩)
end Go.Sp
end
end
section
/- Texts of this proof. -/
namespace Go.Sp
variable {K:Type} [DecidableEq K] {enc:K→Value}
abbrev cg (K:Type):=K × Value × Nat
def h_ {K:Type} (enc:K→Value) (x:cg K):MapEntry:={ key:=enc (x.1),val:=x.2.1,born:=x.2.2 }
def fc {K:Type} (enc:K→Value) (l:List (cg K)):Array MapEntry:=(l.map (h_ enc)).toArray
def cE:List (cg K)→K→Option Value
 |[],_=>none
 |x::l,k=>if x.1=k then some x.2.1 else cE l k
def mY:List (cg K)→K→Value→List (cg K)
 |[],_,_=>[]
 |x::l,k,v=>if x.1=k then (k,v,x.2.2)::l else x::mY l k v
def iI (l:List (cg K)) (c:Nat) (k:K) (v:Value):List (cg K):=if (cE l k).isSome then mY l k v else l++[(k,v,c)]
def kT (l:List (cg K)) (c:Nat) (k:K):Nat:=if (cE l k).isSome then c else c+1
def gX:List (cg K)→K→List (cg K)
 |[],_=>[]
 |x::l,k=>if x.1=k then l else x::gX l k
structure oO (P:Program) (tk:TypeId) (enc:K→Value):Prop where
 find:∀ (k:K) (l:List (cg K)) (w:World),(Instr.findKey tk (enc k) (fc enc l).toList).run P w=.ok ((cE l k).map fun v=>(l.findIdx fun x=>x.1 ==k,v)) w
 check:∀ (e:Bool) (k:K) (w:World),(Instr.checkKey e 10000 tk (enc k)).run P w=.ok () w
 same:∀ k:K,Instr.sameBits 10000 (enc k) (enc k)=true
def ck (enc:K→Value) (b:Nat) (l:List (cg K)) (c:Nat):az:=blk b (.map (fc enc l) c)
section
variable {ro:Option Nat} {P:Program} {fn:Func} {n:Nat} {R:Ending→World→Prop} {k:List Item} {σ:List (Nat × Value)} {D:List Deferred} {g:bk} {U ζ aO:List az} {ops:Array Oper} {i d:Nat} {ls:List Nat}
 {t tk te:TypeId} {x y z:Operand} {b c:Nat} {l:List (cg K)} {key:K} {w:World}
theorem VJ (ht:P.underlying t=some (.map tk te)) (hk:oO P tk enc) {cw:Value} (hz:(zeroValue te).run P w=.ok cw w) (hb:w.heap[b]?=some (.map (fc enc l) c)) (ok:Bool) :
  (Instr.lookup t (.map (some b)) (enc (key)) ok).run P w=.ok (if ok then .tuple #[(cE l key).getD cw,.bool (cE l key).isSome] else (cE l key).getD cw) w:=by
 have h1:=fun e=>hk.check e key w;have h2:=hk.find key l w;simp only [Instr.lookup,Sem.run_bind,run_underlying ht,Result.andThen,MapKept.run_getObj_map hb,Sem.run_pure];rw [h1]
 simp only
 rw [h2]
 cases cE l key with
 |none=>simp [hz]
 |some v=>simp
omit [DecidableEq K] in
theorem ck.block (h:Holds w g (ck enc b l c::U)):w.heap[b]?=some (.map (fc enc l) c):=Holds.block h
theorem aF.ow {kb:Bool} {cw:Value} (ht:P.underlying t=some (.map tk te)) (hk:oO P tk enc) (hz:∀ w,(zeroValue te).run P w=.ok cw w) (hx:aA σ x=some (.map (some b))) (hy:aA σ y=some (enc (key))) (hs:a_ U (ck enc b l c) ζ) :
  aF P (.lookup t x y kb) σ g U (if kb then .tuple #[(cE l key).getD cw,.bool (cE l key).isSome] else (cE l key).getD cw) U :=
 fun o ρ w ho hkn hw=>⟨w,by
  have:=VJ (P:=P) (key:=key) ht hk (hz w) (hw.cr hs).block kb
  simp [execOp,ho,hkn x _ hx,hkn y _ hy,this],hw⟩
theorem HQ:∀ (l:List (cg K)) (k:K) (v:Value),cE l k=some v→∃ x,l[l.findIdx fun x=>x.1 ==k]?=some x∧x.1=k
 |[],_,_,h=>by cases h
 |x::l,k,v,h=>by
  by_cases e:x.1=k
  ·exact ⟨x,by simp [List.findIdx_cons,e],e⟩
  ·have e2:(x.1 ==k)=false:=by simpa using e
   rw [cE,if_neg e] at h;obtain ⟨y,h1,h2⟩:=HQ l k v h;exact ⟨y,by simp [List.findIdx_cons,e2,h1],h2⟩
theorem JO (k:K) (v:Value):∀ (l:List (cg K)),(l.map (h_ enc)).modify (l.findIdx fun x=>x.1 ==k) (fun e=>{ e with key:=enc (k),val:=v })=(mY l k v).map (h_ enc)
 |[]=>by simp [mY]
 |x::l=>by
  by_cases e:x.1=k
  ·simp [List.findIdx_cons,e,mY,h_]
  ·have e2:(x.1 ==k)=false:=by simpa using e
   have ih:=JO k v l
   simp [List.findIdx_cons,e2,mY,e,ih]
theorem Hu (k:K):∀ (l:List (cg K)),(l.map (h_ enc)).eraseIdx (l.findIdx fun x=>x.1 ==k)=(gX l k).map (h_ enc)
 |[]=>rfl
 |x::l=>by
  by_cases e:x.1=k
  ·simp [List.findIdx_cons,e,gX]
  ·have e2:(x.1 ==k)=false:=by simpa using e
   have ih:=Hu k l
   simp [List.findIdx_cons,e2,gX,e,ih]
theorem SE (l:List (cg K)) (k:K) (v:Value):(fc enc l).modify (l.findIdx fun x=>x.1 ==k) (fun e=>{ e with key:=enc (k),val:=v })=fc enc (mY l k v):=by
 apply Array.toList_inj.1
 rw [Array.toList_modify];exact JO k v l
theorem SD (l:List (cg K)) (k:K):(fc enc l).eraseIdxIfInBounds (l.findIdx fun x=>x.1 ==k)=fc enc (gX l k):=by
 apply Array.toList_inj.1
 rw [Array.toList_eraseIdxIfInBounds];exact Hu k l
omit [DecidableEq K] in
theorem A2 (o:Obj) (hb:w.heap[b]?=some (.map (fc enc l) c)):(setObj b o).run P w=.ok () (w.putObj b o):=by
 have:=MapKept.run_setObj_map (P:=P) o hb;rw [this];rfl
theorem KF {v:Value} (ht:P.underlying t=some (.map tk te)) (hk:oO P tk enc) (hb:w.heap[b]?=some (.map (fc enc l) c)) :
  (Instr.mapUpdate t (.map (some b)) (enc (key)) v).run P w=.ok () (w.putObj b (.map (fc enc (iI l c key v)) (kT l c key))):=by
 have h1:=fun e=>hk.check e key w;have h2:=hk.find key l w;simp only [Instr.mapUpdate,Sem.run_bind,run_underlying ht,Result.andThen,MapKept.run_getObj_map hb];rw [h1]
 simp only
 rw [h2]
 cases hg:cE l key with
 |none =>
  simp only [Option.map_none,A2 _ hb,iI,kT,hg,Option.isSome_none,Bool.false_eq_true,if_false]
  simp [fc,h_]
 |some u =>
  obtain ⟨y,hy,Q3⟩:=HQ l key u hg;have hy2:(fc enc l)[l.findIdx fun x=>x.1 ==key]?=some (h_ enc y):=by simp [fc,hy]
  have hkey:(((fc enc l)[l.findIdx fun x=>x.1 ==key]?).map (·.key)).getD (enc (key))=enc (key):=by rw [hy2];simp [h_,Q3]
  have hsame:Instr.sameBits 10000 (enc (key)) (enc (key))=true:=hk.same key;simp only [Option.map_some,hkey,Instr.keyThatStays,hsame,if_true,Sem.run_bind,Sem.run_pure,Result.andThen,A2 _ hb,iI,kT,hg,Option.isSome_some,SE]
theorem VD (ht:P.underlying t=some (.map tk te)) (hk:oO P tk enc) {t2 ty:TypeId} (hb:w.heap[b]?=some (.map (fc enc l) c)) :
  (Builtin.delete_ #[t,t2] ty #[.map (some b),enc (key)]).run P w=.ok (.tuple #[]) (w.putObj b (.map (fc enc (gX l key)) c)):=by
 have h1:=fun e=>hk.check e key w;have h2:=hk.find key l w;have q0:(#[t,t2]:Array TypeId)[0]?=some t:=rfl;have q1:(#[Value.map (some b),enc (key)]:Array Value)[0]?=some (.map (some b)):=rfl;have q2:(#[Value.map (some b),enc (key)]:Array Value)[1]?=some (enc (key)):=rfl;simp only [Builtin.delete_,q0,q1,q2,Sem.run_bind,run_underlying ht,Result.andThen,MapKept.run_getObj_map hb];rw [h1]
 simp only
 rw [h2]
 cases hg:cE l key with
 |none =>
  have hd:gX l key=l:=by
   clear hb h2
   induction l with
   |nil=>rfl
   |cons x l ih =>
    by_cases e:x.1=key
    ·simp [cE,e] at hg
    ·simp only [cE,if_neg e] at hg
     simp only [gX,if_neg e,ih hg]
  simp only [Option.map_none,Sem.run_bind,A2 _ hb,hd,Sem.run_pure,Result.andThen]
 |some u =>
  simp only [Option.map_some,Sem.run_bind,A2 _ hb,SD,Sem.run_pure,Result.andThen]
omit [DecidableEq K] in
theorem bC.Tf {v:Value→List az→Prop} (hv:∀ b,v (.map (some b)) (ck enc b [] 0::U)):bC P (.makeMap t none) σ g U v :=
 fun o ρ w ho hkn hw=>⟨_,_,_,hv w.heap.size,by simp [execOp,ho,Instr.makeMap,newObj,Sem.run];rfl,hw.alloc _⟩
omit [DecidableEq K] in
theorem bC.pK :bC P (.makeMap t none) σ g U fun v ax =>∃ b,v=.map (some b)∧ax =ck enc b [] 0::U:=bC.Tf (enc:=enc) fun b=>⟨b,rfl,rfl⟩
theorem ku.sg {v:Value} (ht:P.underlying t=some (.map tk te)) (hk:oO P tk enc) (hx:aA σ x=some (.map (some b))) (hy:aA σ y=some (enc (key))) (hz:aA σ z=some v) (hs:a_ U (ck enc b l c) ζ) :
  ku P (.mapUpdate t x y z) σ g U (ck enc b (iI l c key v) (kT l c key)::ζ) :=
 fun o ρ w ho hkn hw=>by
  have hw1:=hw.cr hs;refine ⟨_,?_,hw1.putObj _⟩;have:=KF (P:=P) (key:=key) (v:=v) ht hk hw1.block
  simp [execOp,ho,hkn x _ hx,hkn y _ hy,hkn z _ hz,this]
theorem O.Hr {t2:TypeId} (ho:ko ops i=some (.call ⟨.builtin .delete,#[x,y],#[t,t2]⟩)) (ht:P.underlying t=some (.map tk te)) (hk:oO P tk enc) (hx:aA σ x=some (.map (some b))) (hy:aA σ y=some (enc (key))) (hs:a_ U (ck enc b l c) ζ)
  (h:O ro P fn n R ops ls k σ D g (ck enc b (gX l key) c::ζ)):O ro P fn n R ops (i::ls) k σ D g U:=by
 intro a w hf hd hw
 obtain ⟨o,hi,eB,hop,hg⟩:=pM ho;have hw1:=hw.cr hs;have hrun:(execOp a.eval o).run P w=.ok (.value (.tuple #[])) (w.putObj b (.map (fc enc (gX l key)) c)):=by
  have:=VD (P:=P) (key:=key) (t2:=t2) (ty:=o.type) ht hk hw1.block
  simp [execOp,hop,resolve,invoke,builtin,hf.kn x _ hx,hf.kn y _ hy,this]
 refine O.mJ hi (by simp [Region.wanted,hg]) (by rw [hop];intro c hc;cases hc) hrun ?_;rw [Oper.uponIn_value,eB];exact h _ _ hf hd (hw1.putObj _)
def gL (l:List (cg K)) (c:Nat):Prop:=(l.map (·.2.2)).Nodup∧(∀ x∈l,x.2.2<c)∧(l.map (·.1)).Nodup
def jy (it b c:Nat) (done:List (cg K)):az:=blk it (.mapIter (some b) c (done.map (·.2.2)).toArray c)
omit [DecidableEq K] in
theorem bC.Fm (ht:P.underlying t=some (.map tk te)) (hx:aA σ x=some (.map (some b))) (hs:a_ U (ck enc b l c) ζ):bC P (.range t x) σ g U fun v ax =>∃ it,v=.pointer (some ⟨it,0,none⟩)∧ax =jy (K:=K) it b c []::U :=
 fun o ρ w ho hkn hw=>by
  have hb:=(hw.cr hs).block;exact ⟨_,_,_,⟨w.heap.size,rfl,rfl⟩,by simp [execOp,ho,hkn x _ hx,Instr.range,run_underlying ht,MapKept.run_getObj_map hb,newObj,Sem.run],hw.alloc _⟩
omit [DecidableEq K] in
theorem An {seen:List Nat} {e:MapEntry}:e∈(leftOf (fc enc l) seen.toArray).toList↔∃ x∈l,e=h_ enc x∧x.2.2 ∉ seen:=by
 unfold leftOf;simp only [Array.toList_filter,List.mem_filter,fc,List.mem_map]
 constructor
 ·rintro ⟨⟨x,hx,rfl⟩,h⟩
  exact ⟨x,hx,rfl,by simpa [h_] using h⟩
 ·rintro ⟨x,hx,rfl,h⟩
  exact ⟨⟨x,hx,rfl⟩,by simpa [h_] using h⟩
omit [DecidableEq K] in
theorem O.JS {done todo:List (cg K)} {it:Nat} (ho:bG ops i n σ d (.next x false)) (hx:aA σ x=some (.pointer (some ⟨it,0,none⟩))) (hwf:gL l c) (hp:l.Perm (done++todo)) (s1:a_ U (jy it b c done) ζ) (s2:a_ ζ (ck enc b l c) aO)
  (h0:todo=[]→O ro P fn n R ops ls k ((d,.tuple #[.bool false])::σ) D g (jy it b c done::ck enc b l c::aO))
  (h1:∀ x t1 t2,todo=t1++x::t2→O ro P fn n R ops ls k ((d,.tuple #[.bool true,enc (x.1),x.2.1])::σ) D g (jy it b c (done++[x])::ck enc b l c::aO)):O ro P fn n R ops (i::ls) k σ D g U:=by
 intro a w hf hd hw
 obtain ⟨o,hi,eB,hop,hg,hb⟩:=ho.spec;have hw1:Holds w g (jy it b c done::ck enc b l c::aO):=(hw.cr s1).imp fun _ h=>Sat.fk (fun _ y=>y) (fun _ y=>Sat.perm s2.perm y) h;have hr:=Holds.block hw1;have hm:=ck.block (hw1.cr (.there .here));have dy:((done++todo).map (·.2.2)).Nodup:=(hp.map _).nodup_iff.1 hwf.1;rw [List.map_append,List.nodup_append] at dy;have hold:∀ x∈(fc enc l).toList,x.born<c:=fun e he=>by
  simp only [fc,List.mem_map] at he;obtain ⟨y,hy,rfl⟩:=he;exact hwf.2.1 y hy
 rcases run_next_at (P:=P) (ty:=o.type) hr hm hold (Nat.le_refl _) with ⟨hz,hrun⟩|⟨e,he,m,hmn,hrun⟩
 ·have En:todo=[]:=by
   cases todo with
   |nil=>rfl
   |cons y ys =>
    have oq:y∈l:=hp.mem_iff.2 (by simp);have:h_ enc y∈(leftOf (fc enc l) (done.map (·.2.2)).toArray).toList:=An.2 ⟨y,oq,rfl,fun h=>dy.2.2 _ h _ (by simp) rfl⟩;rw [Array.eq_empty_of_size_eq_zero hz] at this
    cases this
  have pH :(execOp a.eval o).run P w=.ok (.value (.tuple #[.bool false])) w:=by simp [execOp,hop,hf.kn x _ hx,hrun]
  refine O.mJ hi (hg a hf) (vM pH) pH ?_;rw [Oper.uponIn_value,eB];exact h0 En _ _ (hf.put hb) hd hw1
 ·obtain ⟨y,hy,rfl,qP⟩:=An.1 he
  have Eu:y∈todo:=by
   rcases List.mem_append.1 (hp.mem_iff.1 hy) with h|h
   ·exact absurd (List.mem_map.2 ⟨y,h,rfl⟩) qP
   ·exact h
  obtain ⟨t1,t2,Eo⟩:=List.append_of_mem Eu;have pH :(execOp a.eval o).run P w=.ok (.value (.tuple #[.bool true,enc (y.1),y.2.1])) (({ w with drawn:=m }:World).putObj it (.mapIter (some b) c ((done.map (·.2.2)).toArray.push y.2.2) c)):=by
   simp [execOp,hop,hf.kn x _ hx,hrun,h_]
  refine O.mJ hi (hg a hf) (vM pH) pH ?_;rw [Oper.uponIn_value,eB];have qV:=(hw1.drewN m hmn).putObj (.mapIter (some b) c ((done.map (·.2.2)).toArray.push y.2.2) c);have Dz:jy it b c (done++[y])=blk it (.mapIter (some b) c ((done.map (·.2.2)).toArray.push y.2.2) c):=by simp [jy]
  rw [← Dz] at qV;exact h1 y t1 t2 Eo _ _ (hf.put hb) hd qV
omit [DecidableEq K] in
theorem aF.Ct {done:List (cg K)} {y:cg K} {it:Nat} (hx:aA σ x=some (.pointer (some ⟨it,0,none⟩))) (hwf:gL l c) (hy:y∈l) (s1:a_ U (jy it b c (done++[y])) ζ) (s2:a_ ζ (ck enc b l c) aO) :
  aF P (.entry x) σ g U (.tuple #[enc (y.1),y.2.1]) U:=fun o ρ w ho hkn hw=>by
 have hw1:Holds w g (jy it b c (done++[y])::ck enc b l c::aO):=(hw.cr s1).imp fun _ h=>Sat.fk (fun _ y=>y) (fun _ y=>Sat.perm s2.perm y) h;have hr:=Holds.block hw1;have hm:=ck.block (hw1.cr (.there .here));have hfind:(fc enc l).toList.find? (·.born ==(h_ enc y).born)=some (h_ enc y):=find_born _ _ (by simpa [fc,h_,Function.comp_def] using hwf.1) (show h_ enc y∈(fc enc l).toList from List.mem_map.2 ⟨y,hy,rfl⟩);have Pp:(fc enc l).find? (fun e=>e.born ==y.2.2)=some (h_ enc y):=by rw [← Array.find?_toList];exact hfind
 have Pc:(((done++[y]).map (·.2.2)).toArray).back?=some y.2.2:=by simp
 refine ⟨w,?_,hw⟩;have:(Instr.entry (.pointer (some ⟨it,0,none⟩))).run P w=.ok (.tuple #[enc (y.1),y.2.1]) w:=by
  simp only [Instr.entry,getObj,Sem.run_bind,Sem.run,hr,Result.andThen,Pc,hm,bne_self_eq_false,Bool.false_eq_true,if_false,Pp]
  rfl
 simp [execOp,ho,hkn x _ hx,this]
end
def vb (a:Int × Int):Value:=.agg #[.int .i64 a.1,.int .i64 a.2]
theorem A1 {P:Program} {ti:TypeId} (hi:P.underlying ti=some (.int .i64)) (cs:Array Value) (off:Nat) (v:Value) (hv:cs[off]?=some v) (w:World):(part ti cs off).run P w=.ok v w:=by
 simp [part,isAgg,run_underlying hi,hv]
theorem zk (a:Int × Int):(#[Value.int .i64 a.1,.int .i64 a.2]:Array Value)[0]?=some (.int .i64 a.1)∧(#[Value.int .i64 a.1,.int .i64 a.2]:Array Value)[1]?=some (.int .i64 a.2):=⟨rfl,rfl⟩
omit [DecidableEq K] in
theorem gL.nil:gL ([]:List (cg K)) 0:=⟨.nil,by simp,.nil⟩
theorem zA {m:List (cg K)} {k:K}:cE m k=none↔k ∉ m.map (·.1):=by
 induction m with
 |nil=>simp [cE]
 |cons x m ih =>
  simp only [cE,List.map_cons,List.mem_cons]
  split
  ·rename_i h;subst h;simp
  ·rename_i h;rw [ih];constructor
   ·rintro h1 (h2|h2)
    ·exact h h2.symm
    ·exact h1 h2
   ·exact fun h1 h2=>h1 (.inr h2)
theorem CK {m:List (cg K)} {k:K} {v:Value} (h:cE m k=some v):∃ n,(k,v,n)∈m:=by
 induction m with
 |nil=>cases h
 |cons x m ih =>
  simp only [cE] at h
  split at h
  ·rename_i e;cases h;subst e;exact ⟨_,List.mem_cons_self ..⟩
  ·obtain ⟨n,hn⟩:=ih h;exact ⟨n,List.mem_cons_of_mem _ hn⟩
theorem vk {m:List (cg K)} (h:(m.map (·.1)).Nodup) {x:cg K} (hx:x∈m):cE m x.1=some x.2.1:=by
 induction m with
 |nil=>cases hx
 |cons y m ih =>
  rw [List.map_cons,List.nodup_cons] at h;simp only [cE]
  rcases List.mem_cons.1 hx with rfl|hx
  ·simp
  ·rw [if_neg (fun e:y.1=x.1=>h.1 (by rw [e];exact List.mem_map.2 ⟨x,hx,rfl⟩)),ih h.2 hx]
theorem KU (k:K) (v:Value):∀ m:List (cg K),(mY m k v).map (·.1)=m.map (·.1)∧(mY m k v).map (·.2.2)=m.map (·.2.2)
 |[]=>⟨rfl,rfl⟩
 |x::m=>by
  have ih:=KU k v m;simp only [mY]
  split
  ·rename_i h;simp [h]
  ·simp [ih.1,ih.2]
theorem HS (k:K) (v:Value) (j:K):∀ m:List (cg K),cE (mY m k v) j=if j=k then (cE m k).map fun _=>v else cE m j
 |[]=>by simp [mY,cE]
 |x::m=>by
  have ih:=HS k v j m;simp only [mY]
  by_cases e:x.1=k
  ·rw [if_pos e]
   simp only [cE]
   by_cases e2:j=k
   ·subst e2;simp [e]
   ·rw [if_neg (fun h=>e2 h.symm),if_neg e2,if_neg (fun h=>e2 (h.symm.trans e))]
  ·rw [if_neg e]
   simp only [cE]
   by_cases e2:j=k
   ·subst e2;rw [if_neg e,if_pos rfl,if_neg e,ih,if_pos rfl]
   ·rw [if_neg e2,ih,if_neg e2]
theorem Of (m:List (cg K)) (k:K) (v:Value) (c:Nat) (j:K) (h:cE m k=none):cE (m++[(k,v,c)]) j=if j=k then some v else cE m j:=by
 induction m with
 |nil =>
  simp only [List.nil_append,cE]
  by_cases e:j=k
  ·subst e;rw [if_pos rfl]
  ·rw [if_neg (fun q=>e q.symm),if_neg e]
 |cons x m ih =>
  simp only [cE] at h ⊢
  split at h
  ·cases h
  ·rename_i e
   simp only [List.cons_append,cE]
   by_cases e2:j=k
   ·subst e2;rw [if_neg e,ih h];simp
   ·by_cases bY:x.1=j
    ·rw [if_pos bY,if_neg e2,if_pos bY]
    ·rw [if_neg bY,ih h,if_neg e2,if_neg e2,if_neg bY]
theorem HR (m:List (cg K)) (c:Nat) (k:K) (v:Value) (j:K):cE (iI m c k v) j=if j=k then some v else cE m j:=by
 unfold iI
 split
 ·rename_i h
  rw [HS]
  split
  ·cases hg:cE m k with
   |none=>rw [hg] at h;cases h
   |some u=>rfl
  ·rfl
 ·rename_i h
  exact Of m k v c j (by simpa using h)
theorem AN {m:List (cg K)} {c:Nat} (h:gL m c) (k:K) (v:Value):gL (iI m c k v) (kT m c k):=by
 unfold iI kT
 split
 ·rename_i hs
  obtain ⟨h1,h2⟩:=KU k v m;refine ⟨by rw [h2];exact h.1,fun x hx=>?_,by rw [h1];exact h.2.2⟩;have:x.2.2∈(mY m k v).map (·.2.2):=List.mem_map.2 ⟨x,hx,rfl⟩;rw [h2] at this;obtain ⟨y,hy,e⟩:=List.mem_map.1 this;have:=h.2.1 y hy
  omega
 ·rename_i hs
  have hn:cE m k=none:=by simpa using hs
  refine ⟨?_,fun x hx=>?_,?_⟩
  ·rw [List.map_append,List.nodup_append]
   refine ⟨h.1,by simp,fun a ha b hb=>?_⟩;obtain ⟨y,hy,rfl⟩:=List.mem_map.1 ha;have:=h.2.1 y hy
   simp at hb;subst hb;omega
  ·rcases List.mem_append.1 hx with hx|hx
   ·have:=h.2.1 x hx;omega
   ·simp at hx;subst hx;simp
  ·rw [List.map_append,List.nodup_append]
   refine ⟨h.2.2,by simp,fun a ha b hb=>?_⟩
   simp at hb;subst hb
   intro e;subst e
   exact zA.1 hn ha
theorem s0 (k:K):∀ m:List (cg K),(gX m k).Sublist m
 |[]=>.slnil
 |x::m=>by
  simp only [gX];split
  ·exact List.sublist_cons_self _ _
  ·exact (s0 k m).cons_cons _
theorem Cm {m:List (cg K)} {c:Nat} (h:gL m c) (k:K):gL (gX m k) c :=
 ⟨((s0 k m).map _).nodup h.1,fun x hx=>h.2.1 x ((s0 k m).subset hx),((s0 k m).map _).nodup h.2.2⟩
theorem CJ {m:List (cg K)} (h:(m.map (·.1)).Nodup) (k j:K):cE (gX m k) j=if j=k then none else cE m j:=by
 induction m with
 |nil=>simp [gX,cE]
 |cons x m ih =>
  rw [List.map_cons,List.nodup_cons] at h;simp only [gX]
  by_cases e:x.1=k
  ·rw [if_pos e]
   by_cases e2:j=k
   ·subst e2;rw [if_pos rfl];exact zA.2 (e ▸ h.1)
   ·rw [if_neg e2];simp only [cE];rw [if_neg (fun q=>e2 (q.symm.trans e))]
  ·rw [if_neg e]
   simp only [cE]
   by_cases e2:j=k
   ·subst e2;rw [if_neg e,ih h.2,if_pos rfl,if_pos rfl]
   ·rw [ih h.2,if_neg e2,if_neg e2]
section
variable {ro:Option Nat} {P:Program} {fn:Func} {n:Nat} {R:Ending→World→Prop} {k:List Item} {σ:List (Nat × Value)} {D:List Deferred} {g:bk} {U ζ aO:List az} {ops:Array Oper} {i d:Nat} {ls:List Nat}
 {t tk te:TypeId} {x y z:Operand} {b c c' :Nat} {l:List (cg K)} {key:K} {w:World} {v cw:Value}
theorem cK.sg {fl:Bool} {j:Nat} {l' :List Nat} (ho:ko ops j=some (.mapUpdate t x y z)) (hd:ed fl ops j l' =true) (ht:P.underlying t=some (.map tk te)) (hk:oO P tk enc) (hx:aA σ x=some (.map (some b))) (hy:aA σ y=some (enc key)) (hz:aA σ z=some v) (hs:a_ U (ck enc b l c) ζ)
  (h:af P fn n R ops k D g l' σ (ck enc b (iI l c key v) (kT l c key)::ζ)):aI P fn n R ops k D g fl (j::l') σ U :=
 aI.perm hs.perm (cK.mS (U:=ck enc b l c::ζ) (ax :=ck enc b (iI l c key v) (kT l c key)::ζ) ho rfl hd (fun _=>.sg ht hk hx hy hz a_.here) h)
theorem af.sg {j:Nat} {l' :List Nat} (ho:ko ops j=some (.mapUpdate t x y z)) (hd:eF ops [j] l' =true) (ht:P.underlying t=some (.map tk te)) (hk:oO P tk enc) (hx:aA σ x=some (.map (some b))) (hy:aA σ y=some (enc key)) (hz:aA σ z=some v) (hs:a_ U (ck enc b l c) ζ)
  (h:af P fn n R ops k D g l' σ (ck enc b (iI l c key v) (kT l c key)::ζ)):af P fn n R ops k D g (j::l') σ U:=cK.sg (fl:=false) ho (by simpa [ed] using hd) ht hk hx hy hz hs h
end
def encS (k:List UInt8):Value:=.string (str k)
theorem HC (k:List UInt8):∀ (l:List (cg (List UInt8))) (i:Nat),Instr.findNow .string (encS k) (l.map (h_ encS)) i=some ((cE l k).map fun v=>(i+(l.findIdx fun x=>@BEq.beq _ instBEqOfDecidableEq x.1 k),v))
 |[],_=>rfl
 |x::l,i=>by
  have ih:=HC k l (i+1);simp only [List.map_cons,Instr.findNow,h_,encS,Instr.sameNow] at ih ⊢
  by_cases h:x.1=k
  ·subst h;simp [cE,FH,List.findIdx_cons]
  ·have hne:(str k ==str x.1)=false:=by
    rw [FH];exact decide_eq_false fun e=>h e.symm
   rw [hne]
   simp only
   rw [ih];have h2:(@BEq.beq _ instBEqOfDecidableEq x.1 k)=false:=by simpa using h
   simp only [cE,if_neg h,List.findIdx_cons,h2]
   cases cE l k with
   |none=>rfl
   |some v=>simp;omega
theorem qa {P:Program} {tk:TypeId} (hk:P.underlying tk=some .string):oO P tk encS where
 find k l w:=by
  have h:=HC k l 0;simp only [fc,Instr.findKey,Sem.run_bind,run_underlying hk,Result.andThen,h,Nat.zero_add,Sem.run_pure]
 check e k w:=VA hk e 9999
 same k:=by
  show (str k ==str k)=true
  rw [FH];simp
end Go.Sp
end
end
section
/- Texts of this proof, one behind the other. -/
section
/- Texts of this proof, one behind the other. -/
section
/- Texts of this proof. -/
namespace Go.Sp
def fS (P:Program) (ty:TypeId) (cs:List Value) (v:Value):Prop:=∀ (w:World) (b:Nat),(∀ j u,cs[j]?=some u→w.cell? ⟨b,j,none⟩=some u)→(loadVar ty ⟨b,0,none⟩).run P w=.ok v w
theorem fS.flat {P:Program} {ty:TypeId} {v:Value} (h:dU P ty=true):fS P ty [v] v:=fun w b hc=>by
 simp [loadVar,sw (rL h),hc 0 v rfl]
theorem fS.agg {P:Program} {ty:TypeId} {cs:List Value} (h:∀ w,(isAgg ty).run P w=.ok true w) (hs:(P.info? ty).map (·.size)=some cs.length):fS P ty cs (.agg cs.toArray):=fun w b hc=>by
 have hr:=run_loadCells_list (P:=P) w ⟨b,0,none⟩ cs fun j v hj=>by rw [add_lit,Nat.zero_add];exact hc j v hj
 simp [loadVar,h,run_sizeOf hs,hr]
section
variable {P:Program} {fn:Func} {n:Nat} {R:Ending→World→Prop} {k:List Item} {σ:List (Nat × Value)} {D:List Deferred} {g:bk} {U ζ aO:List az} {f:FuncId}
theorem Holds.EZ {w:World} {b:Nat} {T:TypeId} {cs:List Value} (h:Holds w g (obj b T cs::U)):∀ j u,cs[j]?=some u→w.cell? ⟨b,j,none⟩=some u:=fun _ _ hj=>h.tZ hj
def sQ (P:Program) (g:bk) (b1 b2:Nat) (t1 t2:TypeId) (R:Ending→World→Prop) (e:Ending) (u:FrameMode) (w:World):Prop :=
 (∃ v,e=.returned v)∧settle u=.returning∧∃ eD eW p0 u7 v1 v2 U,Holds w g (obj b1 eD p0::obj b2 eW u7::U)∧fS P t1 p0 v1∧fS P t2 u7 v2∧R (.returned (.tuple #[v1,v2])) w
theorem Vo {a:Act} {w:World} {s1 s2 b1 b2:Nat} {t1 t2 eD eW:TypeId} {p0 u7:List Value} {v1 v2:Value} (hr:fn.results=#[.cell s1 t1,.cell s2 t2]) (hf:Fits a n σ) (rV:look σ s1=some (.pointer (some ⟨b1,0,none⟩))) (xy:look σ s2=some (.pointer (some ⟨b2,0,none⟩)))
  (hw:Holds w g (obj b1 eD p0::obj b2 eW u7::U)) (h1:fS P t1 p0 v1) (h2:fS P t2 u7 v2):(results fn a.tmps).run P w=.ok (.tuple #[v1,v2]) w:=by
 have e1:=h1 w b1 hw.EZ;have e2:=h2 w b2 (hw.drop).EZ;have l1:=hf.2 s1 _ rV;have l2:=hf.2 s2 _ xy
 simp [results,hr,Array.getD_eq_getD_getElem?,l1,l2,asAddr,e1,e2]
theorem vH {a:Act} {w:World} {u:FrameMode} {s1 s2 b1 b2:Nat} {t1 t2:TypeId} {cap args:Array Value} (hr:fn.results=#[.cell s1 t1,.cell s2 t2]) (hf:Fits a n σ) (rV:look σ s1=some (.pointer (some ⟨b1,0,none⟩))) (xy:look σ s2=some (.pointer (some ⟨b2,0,none⟩)))
  (hu:u≠.run) (hc:dA P f=true) (tC:CallsD P f (args++cap) u w (sQ P g b1 b2 t1 t2 R)):eP P fn a.tmps R [⟨.fn (.func f) cap,args⟩] u w:=by
 refine eP.of (leaves_cons hu (by simp [invoke,A0 hc]) (tC.mono ?_));rintro e u' w' ⟨⟨v,rfl⟩,hs,eD,eW,p0,u7,v1,v2,ax,hw,h1,h2,hR⟩
 show Leaves P fn a.tmps R [] (settle u') w'
 rw [hs];exact ⟨_,Vo hr hf rV xy hw h1 h2,hR⟩
theorem S.sv {s1 s2 b1:Nat} {t1 eD:TypeId} {p0:List Value} {v1 v2:Value} (hr:fn.results=#[.cell s1 t1,.tmp s2]) (rV:look σ s1=some (.pointer (some ⟨b1,0,none⟩))) (xy:look σ s2=some v2)
  (s:a_ U (obj b1 eD p0) ζ) (h1:fS P t1 p0 v1) (h:∀ w,Holds w g (obj b1 eD p0::ζ)→R (.returned (.tuple #[v1,v2])) w):S none P fn n R (.code .ret::k) σ [] g U:=by
 refine S.q8 fun a w hf hd hw=>?_;have hw' :=hw.cr s;refine ⟨.tuple #[v1,v2],?_,h w hw'⟩;have e1:=h1 w b1 hw'.EZ;have l1:=hf.2 s1 _ rV;have l2:=hf.2 s2 _ xy
 simp [results,hr,Array.getD_eq_getD_getElem?,l1,l2,asAddr,e1]
end
def o6 (t:TypeId) (z:Int):List PanicEntry:=[{ v:=.iface t (.int .i64 z),recovered:=false }]
end Go.Sp
end
section
/- Texts of this proof, one behind the other. -/
section
/- Texts of this proof. -/
namespace Go.Sp
theorem VE {P : Program} {t ti : TypeId} {f0 f1 : Field} (ht : P.underlying t = some (.struct #[f0, f1])) (hi : P.underlying ti = some (.int .i64)) (h0 : f0.type = ti) (h1 : f1.type = ti) (o0 : f0.offset = 0) (o1 : f1.offset = 1) (n0 : f0.name ≠ "_") (n1 : f1.name ≠ "_") (hh : P.stoodInHeld t = false)
  (a b:Int × Int) (w:World):(Op.equal t (vb a) (vb b)).run P w=.ok (decide (a=b)) w:=by
 have z1:=fun w=>A1 hi _ 0 _ (zk a).1 w;have D2:=fun w=>A1 hi _ 1 _ (zk a).2 w;have D3:=fun w=>A1 hi _ 0 _ (zk b).1 w;have IL:=fun w=>A1 hi _ 1 _ (zk b).2 w;have heq:∀ (x y:Int) (w:World),(Op.equalIn 9999 ti (.int .i64 x) (.int .i64 y)).run P w=.ok (x ==y) w:=fun x y w=>by
  show (Op.equalIn (9998+1) ti (.int .i64 x) (.int .i64 y)).run P w=_
  unfold Op.equalIn
  simp [run_underlying hi]
 show (Op.equalIn (9999+1) t (vb a) (vb b)).run P w=_
 unfold Op.equalIn vb;simp only [Sem.run_bind,run_underlying ht,Result.andThen];obtain ⟨a1,a2⟩:=a;obtain ⟨b1,b2⟩:=b;simp only at z1 D2 D3 IL
 by_cases c1:a1=b1
 ·by_cases c2:a2=b2
  ·subst c1;subst c2
   simp [hh,h0,h1,o0,o1,n0,n1,z1,D2,heq]
  ·subst c1
   have:(a2 ==b2)=false:=by simpa using c2
   simp [hh,h0,h1,o0,o1,n0,n1,z1,D2,D3,IL,heq,c2]
 ·have:(a1 ==b1)=false:=by simpa using c1
  simp [hh,h0,h1,o0,o1,n0,n1,z1,D3,heq,c1]
section
variable {P:Program} {σ:List (Nat × Value)} {g:bk} {U:List az} {t ti u:TypeId} {x y:Operand} {a b c d:Int} {f0 f1:Field}
theorem aF.JQ (ht : P.underlying t = some (.struct #[f0, f1])) (hi : P.underlying ti = some (.int .i64)) (h0 : f0.type = ti) (h1 : f1.type = ti) (o0 : f0.offset = 0) (o1 : f1.offset = 1) (n0 : f0.name ≠ "_") (n1 : f1.name ≠ "_") (hh : P.stoodInHeld t = false) (hgd : P.eqGuardType P.depth t = false)
  (hx:aA σ x=some (.agg #[.int .i64 a,.int .i64 b])) (hy:aA σ y=some (.agg #[.int .i64 c,.int .i64 d])):aF P (.binOp .neq t x y u) σ g U (.bool (decide ((a,b)≠(c,d)))) U:=.run fun o ρ w ho hk=>by
 have h:=VE ht hi h0 h1 o0 o1 n0 n1 hh (a,b) (c,d) w;simp only [vb] at h
 simp [execOp,ho,hk x _ hx,hk y _ hy,eqGuard,Go.binOp,h,hgd]
end
theorem FN {α:Type} {xs ys:List α} {i:Nat} (hi:i<xs.length) (hi2:i<ys.length) (h:xs.take i=ys.take i) (e:xs[i]=ys[i]):xs.take (i+1)=ys.take (i+1):=by
 rw [List.take_succ_eq_append_getElem hi,List.take_succ_eq_append_getElem hi2,h,e]
theorem EX {α:Type} {xs ys:List α} {i:Nat} (hi:i<xs.length) (hi2:i<ys.length) (e:¬ xs[i]=ys[i]):¬ xs=ys:=fun h=>e (by subst h;rfl)
theorem nR {a b:List UInt8} (h:(str a).toList=(str b).toList):a=b:=by simpa using h
set_option synthInstance.maxSize 2000
set_option synthInstance.maxHeartbeats 400000
instance Ym:DecidableEq dn:=inferInstance
instance Ys:DecidableEq aP:=inferInstance
instance Yp:DecidableEq aG:=inferInstance
instance Yu:DecidableEq Gn:=inferInstance
instance Yq:DecidableEq dJ:=inferInstance
instance Yr:DecidableEq L0:=inferInstance
instance Yt:DecidableEq j5:=inferInstance
instance Yn:DecidableEq Ga:=inferInstance
instance Yo:DecidableEq LV:=inferInstance
end Go.Sp
end
section
/- Texts of this proof, one behind the other. -/
section
/- Texts of this proof. -/
namespace Go.Sp
theorem aF.HO {P:Program} {σ:List (Nat × Value)} {g:bk} {U:List az} {t u:TypeId} {x y:Operand} {a b:ByteArray} (hx:aA σ x=some (.string a)) (hy:aA σ y=some (.string b)) :
  aF P (.binOp .geq t x y u) σ g U (.bool !(Op.bytesLess a.toList b.toList)) U :=
 .run fun o ρ w ho hk=>by simp [execOp,ho,hk x _ hx,hk y _ hy,eqGuard,Go.binOp,Op.stringOp]
theorem HP (x y:List UInt8):(!Op.bytesLess (str x).toList (str y).toList)=decide (¬ x<y):=by rw [S_,decide_not]
end Go.Sp
end
section
/- Texts of this proof. -/
namespace Go.Sp
section
variable {ro:Option Nat} {P:Program} {fn:Func} {n:Nat} {R:Ending→World→Prop} {k:List Item} {σ:List (Nat × Value)} {D:List Deferred} {g:bk} {U ζ:List az} {ops:Array Oper} {t e e' :TypeId} {x:Operand} {v:Value} {xs:List UInt8}
theorem aF.toE {op:Op} {ax :List az} {u:Value} (h:aF P op σ g U u ax):bC P op σ g U fun v Bq =>v=u∧Bq =ax :=
 fun o ρ w h1 h2 h3=>let ⟨w',a,b⟩:=h o ρ w h1 h2 h3;⟨u,w',ax,⟨rfl,rfl⟩,a,b⟩
theorem bC.toStrO {t2:TypeId} (ht:P.underlying t=some (.slice e)) (he:P.underlying e=some (.int .u8)) (ht2:P.underlying t2=some .string) (hx:aA σ x=some v) :
  bC P (.convert t t2 x) σ g (av ag.u8 e' v xs::U) fun u ax =>∃ cT,(u=.string (str xs)∧cT=U)∧ax =av ag.u8 e' v xs::cT :=
 bC.borrow fun m hm hd=>aF.toE (aF.toStr (g:=g.add m) ht he ht2 hx (hm.arr.right hd))
theorem cK.toStrO {fl:Bool} {i d:Nat} {t2:TypeId} {l:List Nat} (ho:bG ops i n σ d (.convert t t2 x)) (hd:ed fl ops i l=true) (ht:P.underlying t=some (.slice e)) (he:P.underlying e=some (.int .u8)) (ht2:P.underlying t2=some .string) (hx:aA σ x=some v)
  (hs:a_ U (av ag.u8 e' v xs) ζ) (h:af P fn n R ops k D g l ((d,.string (str xs))::σ) U):aI P fn n R ops k D g fl (i::l) σ U :=
 aI.perm hs.perm (cK.gd (U:=av ag.u8 e' v xs::ζ) (K:=fun u ax =>u=.string (str xs)∧ax =av ag.u8 e' v xs::ζ) ho rfl hd
  (fun aO=>(bC.toStrO (U:=ζ++aO) ht he ht2 hx).imp fun _ _ ⟨_,⟨a,b⟩,c⟩=>⟨_,⟨a,rfl⟩,by rw [c,b];rfl⟩) (by rintro _ _ ⟨rfl,rfl⟩;exact aI.perm hs.perm.symm h))
theorem af.toStrO {i d:Nat} {t2:TypeId} {l:List Nat} (ho:bG ops i n σ d (.convert t t2 x)) (hd:eF ops [i] l=true) (ht:P.underlying t=some (.slice e)) (he:P.underlying e=some (.int .u8)) (ht2:P.underlying t2=some .string) (hx:aA σ x=some v)
  (hs:a_ U (av ag.u8 e' v xs) ζ) (h:af P fn n R ops k D g l ((d,.string (str xs))::σ) U):af P fn n R ops k D g (i::l) σ U:=cK.toStrO (fl:=false) ho (by simpa [ed] using hd) ht he ht2 hx hs h
theorem bO.toStrO {i d:Nat} {t2:TypeId} {l:List Nat} (ho:bG ops i n σ d (.convert t t2 x)) (_:true=true) (ht:P.underlying t=some (.slice e)) (he:P.underlying e=some (.int .u8)) (ht2:P.underlying t2=some .string) (hx:aA σ x=some v)
  (hs:a_ U (av ag.u8 e' v xs) ζ) (h:af P fn n R ops k D g l ((d,.string (str xs))::σ) U):aI P fn n R ops k D g true (i::l) σ U:=cK.toStrO (fl:=true) ho rfl ht he ht2 hx hs h
end
end Go.Sp
end
end
end
end
section
/- Texts of this proof, one behind the other. -/
section
/- Texts of this proof. -/
namespace Go.Sp
def bR (l:List bX):List Value:=l.map qp
@[simp] theorem mZ (l:List bX):(bR l).length=l.length:=by simp [bR]
theorem qq {l:List bX} {j:Nat} (h:j<l.length):(bR l)[j]?=some (qp (l.getD j 0)):=by
 simp [bR,h,List.getD_eq_getElem?_getD]
theorem FZ (l:List bX) (j:Nat) (x:bX):(bR l).set j (qp x)=bR (l.set j x):=by simp [bR,List.map_set]
theorem Xw (l:List bX):∀ v∈bR l,v.oneCell' =true:=fun v hv=>by
 obtain ⟨x,_,rfl⟩:=List.mem_map.1 hv;rfl
theorem Xv (l:List bX):(bR l).all (·.oneCell')=true:=List.all_eq_true.2 (Xw l)
section
variable {P:Program} {σ:List (Nat × Value)} {g:bk} {U ζ:List az} {t e:TypeId} {x y:Operand}
theorem aF.Jg {kd:IntKind} {b_:Int} {j len:Nat} {cs:Array Value} {v:Value} (ht:P.underlying t=some (.array len e)) (he:(P.info? e).map (·.size)=some 1) (hf:dU P e=true) (hx:aA σ x=some (.agg cs)) (hy:aA σ y=some (.int kd b_)) (hz:b_=(j:Int)) (hj:j<len) (hv:cs[j]?=some v) :
  aF P (.index t x y) σ g U v U:=.run fun o ρ w ho hk=>by
 subst hz
 simp [execOp,ho,hk x _ hx,hk y _ hy,Instr.index,part,asIntOf,run_underlying ht,hj,run_sizeOf he,sw (rL hf),hv]
theorem aF.Wk {kd:IntKind} {z:Int} {a len b:Nat} (ht:P.underlying t=some (.array len e)) (he:(P.info? e).map (·.size)=some 1) (hx:aA σ x=some (.pointer (some ⟨b,0,none⟩))) (hy:aA σ y=some (.int kd z)) (hz:z=(a:Int)) (ha:a<len) (h0:0<a) :
  aF P (.slice t x (some y) none none) σ g U (.slice (some ⟨b,a,none⟩) (len - a) (len - a)) U:=.run fun o ρ w ho hk=>by
 subst hz;have h1:a≤len:=by omega
 have h2:¬ len=a:=by omega
 have h3:¬ a=0:=by omega
 simp [execOp,ho,hk x _ hx,hk y _ hy,Instr.sliceAt,Instr.sureAddr,Instr.sliceBounds,Instr.sliceBound,asIntOf,run_underlying ht,h1,h2,run_sizeOf he,Addr.add,h3]
theorem aF.Wl {kd:IntKind} {z:Int} {a len b:Nat} (ht:P.underlying t=some (.array len e)) (he:(P.info? e).map (·.size)=some 1) (hx:aA σ x=some (.pointer (some ⟨b,0,none⟩))) (hy:aA σ y=some (.int kd z)) (hz:z=(a:Int)) (ha:a≤len) (h0:0<len) :
  aF P (.slice t x none (some y) none) σ g U (.slice (some ⟨b,0,none⟩) a len) U:=.run fun o ρ w ho hk=>by
 subst hz;have h2:¬ len=0:=by omega
 simp [execOp,ho,hk x _ hx,hk y _ hy,Instr.sliceAt,Instr.sureAddr,Instr.sliceBounds,Instr.sliceBound,asIntOf,run_underlying ht,ha,h2,run_sizeOf he,Addr.add]
theorem bC.Ci {T te:TypeId} {b i j m n c n' c' :Nat} {cs:List Value} (ht:P.underlying t=some (.slice e)) (he:(P.info? e).map (·.size)=some 1) (hx:aA σ x=some (.slice (some ⟨b,i,none⟩) n c)) (hy:aA σ y=some (.slice (some ⟨b,j,none⟩) n' c')) (hs:a_ U (obj b T cs) ζ)
  (hm:m=min n' n) (h1:i+m≤cs.length) (h2:j+m≤cs.length) (hone:∀ v∈cs,v.oneCell' =true) :
  bC P (.call ⟨.builtin .copy,#[x,y],#[t,te]⟩) σ g U fun v ax =>v=.int .i64 (m:Int)∧ax =obj b T (cs.take i++(cs.drop j).take m++cs.drop (i+m))::ζ :=
 fun o ρ w ho hk hw=>by
  have hw1:=hw.cr hs;have hlen:((cs.drop j).take m).length=m:=by simp;omega
  have hr:=run_loadCells_list (P:=P) w ⟨b,j,none⟩ ((cs.drop j).take m) fun q v hq=>by
   rw [add_lit];refine hw1.tZ ?_;have D8:q<((cs.drop j).take m).length:=(List.getElem?_eq_some_iff.1 hq).1;rw [List.getElem?_take_of_lt (by omega),List.getElem?_drop] at hq;exact hq
  rw [hlen] at hr;have hst:=run_storeCells_at P b i T ((cs.drop j).take m) 0 cs.toArray w hw1.block (by simp;omega) (by
   intro v hv
   exact hone v (List.mem_of_mem_drop (List.mem_of_mem_take hv)))
  simp only [Nat.add_zero,hlen] at hst;refine ⟨_,w.setRow b (cs.take i++(cs.drop j).take m++cs.drop (i+m)).toArray,_,⟨rfl,rfl⟩,?_,hw1.setRow⟩;have hmin:Nat.min n' n=m:=hm.symm
  simp [execOp,ho,hk x _ hx,hk y _ hy,resolve,invoke,builtin,Builtin.copy_,run_underlying ht,Builtin.lenOf,Builtin.firstCells,run_sizeOf he,hmin,hr,hst,goInt]
variable {fn:Func} {n:Nat} {R:Ending→World→Prop} {k:List Item} {D:List Deferred} {ops:Array Oper}
theorem af.Ci {q d:Nat} {l:List Nat} {T te:TypeId} {b i j m n1 c n' c' :Nat} {cs:List Value} (ho:bG ops q n σ d (.call ⟨.builtin .copy,#[x,y],#[t,te]⟩)) (hd:eF ops [q] l=true) (ht:P.underlying t=some (.slice e)) (he:(P.info? e).map (·.size)=some 1) (hx:aA σ x=some (.slice (some ⟨b,i,none⟩) n1 c))
  (hy:aA σ y=some (.slice (some ⟨b,j,none⟩) n' c')) (hs:a_ U (obj b T cs) ζ) (hm:m=min n' n1) (h1:i+m≤cs.length) (h2:j+m≤cs.length) (hone:∀ v∈cs,v.oneCell' =true)
  (h:af P fn n R ops k D g l ((d,.int .i64 (m:Int))::σ) (obj b T (cs.take i++(cs.drop j).take m++cs.drop (i+m))::ζ)):af P fn n R ops k D g (q::l) σ U :=
 aI.perm hs.perm (cK.gd (fl:=false) (U:=obj b T cs::ζ) (K:=fun u ax =>u=.int .i64 (m:Int)∧ax =obj b T (cs.take i++(cs.drop j).take m++cs.drop (i+m))::ζ) ho rfl (by simpa [ed] using hd)
  (fun aO=>(bC.Ci (ζ:=ζ++aO) ht he hx hy .here hm h1 h2 hone).imp fun _ _ ⟨a,b⟩=>⟨_,⟨a,rfl⟩,by rw [b];rfl⟩) (by rintro _ _ ⟨rfl,rfl⟩;exact h))
end
def jw (b:List UInt8) (t:Nat):List bX:=sched b t++List.replicate (80 - t) 0
theorem V4 {b:List UInt8} {t:Nat} (h:t≤80):(jw b t).length=80:=by simp [jw,yx];omega
theorem V3 (b:List UInt8):jw b 80=sched b 80:=by simp [jw]
theorem KS {b:List UInt8} {t:Nat} (h:t<80) (x:bX):(jw b t).set t x=sched b t++x::List.replicate (79 - t) 0:=by
 have hl:=yx b t;rw [jw,List.set_append_right _ _ (by omega),hl,Nat.sub_self,show 80 - t=(79 - t)+1 by omega,List.replicate_succ,List.set_cons_zero]
theorem V5 {b:List UInt8} {t:Nat} (h:t<80):(jw b t).set t 0=jw b t:=by
 rw [KS h,jw,show 80 - t=(79 - t)+1 by omega,List.replicate_succ]
theorem KT {b:List UInt8} {t:Nat} (h:t<80):(jw b t).set t (q_ b (sched b t) t)=jw b (t+1):=by
 rw [KS h,jw,sched,List.append_assoc,List.singleton_append,show 80 - (t+1)=79 - t by omega]
theorem A6 {b:List UInt8} {t i:Nat} (h:i<t):(jw b t).getD i 0=(sched b t).getD i 0:=by
 have hl:=yx b t;rw [List.getD_eq_getElem?_getD,List.getD_eq_getElem?_getD,jw,List.getElem?_append_left (by omega)]
theorem Oe {l:List bX} {t:Nat} {x:bX} (h:t<l.length):(l.set t x).getD t 0=x:=by simp [List.getD_eq_getElem?_getD,h]
theorem Mt {l : List UInt8} {j : Nat} (h : j < l.length) : mH (l.take (j + 1)) = mH (l.take j) <<< 8 ||| UInt64.ofNat l[j].toNat := by
 unfold mH;rw [List.take_succ_eq_append_getElem h,List.foldl_append];rfl
theorem Xz (c:UInt8):IntKind.u64.wrap (c.toNat:Int)=((UInt64.ofNat c.toNat).toNat:Int):=by
 have:=c.toNat_lt;rw [rp (by omega),UInt64.toNat_ofNat'];omega
theorem JC {l:List bX} (h:l.length=8):∃ a b c d e f g i,l=[a,b,c,d,e,f,g,i]:=by
 match l,h with
 |[a,b,c,d,e,f,g,i],_=>exact ⟨a,b,c,d,e,f,g,i,rfl⟩
def mF (v u:List bX) (i:Nat):List bX:=(List.zipWith (·+·) v u).take i++v.drop i
theorem L9 {v u:List bX} (hv:v.length=8) (hu:u.length=8) {i:Nat} (h:i≤8):(mF v u i).length=8:=by simp [mF,hv,hu];omega
theorem L7 {v u:List bX} (hv:v.length=8) (hu:u.length=8):mF v u 8=List.zipWith (·+·) v u:=by
 rw [mF,List.drop_eq_nil_of_le (by omega),List.append_nil,List.take_of_length_le (by simp [hv,hu])]
theorem L8 {v u:List bX} (hv:v.length=8) (hu:u.length=8) {i:Nat} (h:i<8):(mF v u i).getD i 0=v.getD i 0:=by
 have hl:((List.zipWith (·+·) v u).take i).length=i:=by simp [hv,hu];omega
 rw [List.getD_eq_getElem?_getD,List.getD_eq_getElem?_getD,mF,List.getElem?_append_right (by omega),hl,Nat.sub_self,List.getElem?_drop,Nat.add_zero]
theorem L_ {v u:List bX} (hv:v.length=8) (hu:u.length=8) {i:Nat} (h:i<8):(mF v u i).set i (v.getD i 0+u.getD i 0)=mF v u (i+1):=by
 have hl:((List.zipWith (·+·) v u).take i).length=i:=by simp [hv,hu];omega
 have hz:i<(List.zipWith (·+·) v u).length:=by simp [hv,hu];omega
 have e1:v.drop i=v[i]::v.drop (i+1):=List.drop_eq_getElem_cons (by omega);rw [mF,List.set_append_right _ _ (by omega),hl,Nat.sub_self,e1,List.set_cons_zero,mF,List.take_succ_eq_append_getElem hz,List.append_assoc,List.singleton_append,List.getElem_zipWith]
 simp [List.getD_eq_getElem?_getD,hv,hu,h]
end Go.Sp
end
section
/- Texts of this proof. -/
namespace Go.Sp
theorem Jq {P:Program} {w:World} {n:String} {d:DataW Unit}:∀ {l:List (String × DataW Unit)} {ps:List MemPlace},DataW.LaidVars P w l ps→(n,d)∈l →
  ∃ g t cs fuel p,P.globalNamed n=some g∧(P.globals[g]?).map (·.type)=some t∧w.var? P n=some cs∧DataW.trod (fun _=>()) P w 0 (fun _=>true) false fuel t cs.toList=some (d,p)
 |[],_,_,hm=>by cases hm
 |(n',d')::r,ps,h,hm=>by
  obtain ⟨g,t,cs,fuel,p,q,e1,e2,bY,fm,hr,_⟩:=h
  rcases List.mem_cons.1 hm with hm|hm
  ·cases hm;exact ⟨g,t,cs,fuel,p,e1,e2,bY,fm⟩
  ·exact Jq hr hm
theorem Js {P:Program} {w:World} {l:List (String × DataW Unit)} {n:String} {vs:List bX} {g t e:Nat} (h:laidMetH P l w) (hm:(n,DataW.agg (vs.map fun x=>.lit (.int .u64 (x.toNat:Int))))∈l) (hg:P.globalNamed n=some g)
  (ht:(P.globals[g]?).map (·.type)=some t) (hu:P.underlying t=some (.array vs.length e)) (he:P.underlying e=some (.int .u64)) (hc:P.cellsOf e=1) (Pf:P.cellsOf t=vs.length):At w.fr ⟨g,0,none⟩ (bR vs):=by
 obtain ⟨ps,hl,_⟩:=(laidMetH_iff.1 h).1;obtain ⟨g',t',cs,fuel,p,e1,e2,bY,fm⟩:=Jq hl (List.mem_filter.2 ⟨hm,rfl⟩);rw [hg] at e1;obtain rfl:=Option.some.inj e1;rw [ht] at e2;obtain rfl:=Option.some.inj e2;obtain ⟨xs,m,_,hx,hlen,hxl,hi⟩:=DataW.trod_array hu fm;have hx1:=(Prod.mk.inj hx).1
 injection hx1 with hx1
 have hcs:cs.toList=bR vs:=by
  refine List.ext_getElem (by rw [hlen,Pf,mZ]) fun i h1 h2=>?_;have qI :i<vs.length:=by simpa using h2
  have hq:=hi i qI;rw [hc,Nat.mul_one] at hq;have qX:xs[i]?=some xs[i]:=List.getElem?_eq_getElem (by omega);rw [qX] at hq;obtain ⟨z,hz,Q5,_⟩:=DataW.trod_int he hq;have h3:(xs[i]).1=.lit (.int .u64 z):=by rw [Q5]
  have h4:=congrArg (fun l:List (DataW Unit)=>l[i]?) hx1;simp only [List.getElem?_map,qX,List.getElem?_eq_getElem qI,Option.map_some,Option.some.injEq] at h4;rw [h3] at h4
  injection h4 with h4
  injection h4 with _ h4
  have h5:cs.toList[i]=.int .u64 z:=by
   have:(cs.toList.drop i).take 1=[cs.toList[i]]:=by rw [List.drop_eq_getElem_cons h1];rfl
   rw [this] at hz;exact (List.cons.inj hz).1
  rw [h5,← h4]
  simp [bR,qp]
 intro j hj
 rw [HL,← List.getElem?_eq_getElem hj,← hcs];unfold World.var? at bY;rw [hg] at bY;simp only [Option.bind_some] at bY;have e0:(Addr.mk g 0 none).add j=⟨g,j,none⟩:=by rw [add_lit,Nat.zero_add]
 rw [e0];unfold World.cell?
 simp only
 split at bY
 ·rename_i cs' _ _ hh
  obtain rfl:=Option.some.inj bY
  simp [hh]
 ·cases bY
end Go.Sp
end
end
end
