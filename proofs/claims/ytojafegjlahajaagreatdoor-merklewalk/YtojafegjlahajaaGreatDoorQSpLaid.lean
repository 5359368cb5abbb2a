/- Texts of this proof, one behind the other. -/
import Derived.Lib.Bytealg
import Derived.Laws.Externs
import Derived.Test.YtojafegjlahajaaGreatDoorQSpSib
import Derived.OpenShut
import Derived.LaidSub
section
/- Texts of this proof, one behind the other. -/
section
/- Texts of this proof, one behind the other. -/
section
/- Texts of this proof, one behind the other. -/
section
/- Texts of this proof. -/
namespace Go.Sp
theorem run_loadBytes (P:Program):∀ (xs:List UInt8) (a:Addr) (acc:ByteArray) (w:World),(∀ j (h:j<xs.length),w.cell? (a.add j)=some (byteV xs[j])) →
  (Extern.Bytes.loadBytes a xs.length acc).run P w=.ok ⟨acc.data++xs.toArray⟩ w
 |[],a,acc,w,_=>by simp [Extern.Bytes.loadBytes]
 |x::xs,a,acc,w,h=>by
  have h0:=h 0 (by simp);rw [Addr.add_zero] at h0;have ih:=run_loadBytes P xs (a.add 1) (acc.push x) w fun j hj=>by
   have:=h (j+1) (by simp;omega);rw [Addr.add_add,Nat.add_comm 1 j]
   simpa using this
  have hx:(x.toNat:Int).toNat.toUInt8=x:=by simp
  simp only [List.getElem_cons_zero,byteV] at h0;simp only [List.length_cons,Extern.Bytes.loadBytes,Sem.run_bind,run_load,h0,Result.andThen,hx,ih]
  congr 2
  simp [ByteArray.push]
theorem run_bytesOf {P:Program} {h:Fr} {v:Value} {xs:List UInt8} (ha:Arr Rp.u8 h v xs) {w:World} (hw:h.sub w.fr):(Extern.Bytes.bytesOf v).run P w=.ok (str xs) w:=by
 obtain ⟨css,hc,a,cap,rfl,h1,h2,h3,h4⟩:=ha;have hcs:css.flatten=xs.map byteV:=by
  clear h3 h4 h1 h2
  induction css generalizing xs with
  |nil=>cases xs with
   |nil=>rfl
   |cons _ _=>exact hc.elim
  |cons c css ih=>cases xs with
   |nil=>exact hc.elim
   |cons x xs=>rw [List.flatten_cons,ih hc.2,show c=[byteV x] from hc.1];rfl
 cases a with
 |none =>
  have:xs=[]:=by
   cases xs with
   |nil=>rfl
   |cons x xs=>obtain ⟨p,hp,_⟩:=h4 0 (by rw [hcs];simp);cases hp
  subst this
  simp [Extern.Bytes.bytesOf];rfl
 |some a =>
  have:=run_loadBytes P xs a .empty w fun j hj=>by
   obtain ⟨p,hp,hq⟩:=h4 j (by rw [hcs];simpa using hj)
   cases hp
   have:=Fr.cell_mono hw hq;simp only [hcs,List.getElem_map] at this;exact this
  simp only [Extern.Bytes.bytesOf,this]
  congr 1
  simp [str,ByteArray.empty,ByteArray.emptyWithCapacity]
  rfl
theorem run_compareSlices {P:Program} {h:Fr} {v u:Value} {xs ys:List UInt8} (ha:Arr Rp.u8 h v xs) (hb:Arr Rp.u8 h u ys) {w:World} (hw:h.sub w.fr) :
  (Extern.BytealgCompare.compare #[v,u]).run P w=.ok (.int .i64 (Lib.compareBytes xs ys)) w:=by
 change Sem.run P (do pure (goInt (Extern.BytealgCompare.cmp (← Extern.Bytes.bytesOf v) (← Extern.Bytes.bytesOf u)))) w=_
 simp only [Sem.run_bind,run_bytesOf ha hw,run_bytesOf hb hw,Sem.run_pure,Result.andThen];rw [Lib.cmp_eq]
 rfl
section
variable {P:Program} {σ:List (Nat × Value)} {g:Gr} {η:List SProp}
theorem Does.compareExt {f : FuncId} {fn : Func} {x y z : Operand} {ts : Array TypeId} {v u : Value} {xs ys : List UInt8} (hf : P.funcs[f]? = some fn) (h1 : (fn.name == "runtime.NumGoroutine") = false) (h2 : fn.body.isNone = true) (h3 : Extern.findNext fn = none) (h4 : Extern.find fn = some Extern.BytealgCompare.compare)
  (hx:ev σ x=some (.func (.func f) #[] #[])) (hy:ev σ y=some v) (hz:ev σ z=some u) (ha:Arr Rp.u8 g.h v xs) (hb:Arr Rp.u8 g.h u ys):Does P (.call ⟨.value x,#[y,z],ts⟩) σ g η (.int .i64 (Lib.compareBytes xs ys)) η:=by
 intro o ρ w ho hk hw
 refine ⟨w,?_,hw⟩;have e1:=run_callFunc_extern (P:=P) hf h1 h2 h3 h4 #[v,u] w;rw [run_compareSlices ha hb hw.ground] at e1;simp only [Result.andThen] at e1
 simp [execOp,ho,resolve,hk x _ hx,hk y _ hy,hk z _ hz,Deferred.ofValue,invoke,e1]
end
theorem compareBytes_lt:∀ {a b:List UInt8},Lib.compareBytes a b<0↔a<b
 |[],[]=>by simp [Lib.compareBytes]
 |[],b::bs=>by simp [Lib.compareBytes]
 |a::as,[]=>by simp [Lib.compareBytes]
 |a::as,b::bs=>by
  rw [Lib.compareBytes,List.cons_lt_cons_iff]
  by_cases h:a<b
  ·simp [h]
  ·by_cases h2:b<a
   ·have:a≠b:=fun e=>by subst e;exact UInt8.lt_irrefl _ h2
    simp [h,h2,this]
   ·have e:a=b:=UInt8.le_antisymm (UInt8.not_lt.1 h2) (UInt8.not_lt.1 h)
    subst e;rw [if_neg h,if_neg h2,compareBytes_lt]
    simp [UInt8.lt_irrefl]
theorem compareBytes_eq:∀ {a b:List UInt8},Lib.compareBytes a b=0↔a=b
 |[],[]=>by simp [Lib.compareBytes]
 |[],b::bs=>by simp [Lib.compareBytes]
 |a::as,[]=>by simp [Lib.compareBytes]
 |a::as,b::bs=>by
  rw [Lib.compareBytes]
  by_cases h:a<b
  ·have:a≠b:=fun e=>by subst e;exact UInt8.lt_irrefl _ h
   simp [h,this]
  ·by_cases h2:b<a
   ·have:a≠b:=fun e=>by subst e;exact UInt8.lt_irrefl _ h2
    simp [h,h2,this]
   ·have e:a=b:=UInt8.le_antisymm (UInt8.not_lt.1 h2) (UInt8.not_lt.1 h)
    subst e;rw [if_neg h,if_neg h2,compareBytes_eq]
    simp
theorem compareBytes_in (a b:List UInt8):InI64 (Lib.compareBytes a b):=by
 have:Lib.compareBytes a b= -1∨Lib.compareBytes a b=0∨Lib.compareBytes a b=1:=by
  induction a generalizing b with
  |nil=>cases b<;>simp [Lib.compareBytes]
  |cons x a ih=>cases b with
   |nil=>simp [Lib.compareBytes]
   |cons y b =>
    rw [Lib.compareBytes]
    split
    ·simp
    ·split
     ·simp
     ·exact ih b
 rcases this with h|h|h<;>rw [h]<;>constructor<;>decide
end Go.Sp
end
section
/- Texts of this proof. -/
namespace Go.Sp
def ofBe (xs:List UInt8):Int:=s64 (beVal (xs.take 8))
theorem ofBe_in (xs:List UInt8):InI64 (ofBe xs):=s64_in _ (Nat.lt_of_lt_of_le (beVal_lt xs 8) (by decide))
def rByte (good:Bool) (rest:List UInt8):UInt8 × List UInt8 × Bool:=if good then (match rest with|[]=>(0,[],true)|x::xs=>(x,xs,false)) else (0,rest,false)
def rNum (good:Bool) (rest:List UInt8):Int × List UInt8 × Bool:=if good then (if 8≤rest.length then (ofBe rest,rest.drop 8,false) else (0,rest,true)) else (0,rest,false)
def rCount (most:Int) (good:Bool) (rest:List UInt8):Int × List UInt8 × Bool :=
 if good then (if 8≤rest.length then (if 0≤ofBe rest∧ofBe rest≤most then (ofBe rest,rest.drop 8,false) else (0,rest.drop 8,true)) else (0,rest,true)) else (0,rest,false)
def rBytes (most:Int) (good:Bool) (rest:List UInt8):List UInt8 × List UInt8 × Bool :=
 if good then (if 8≤rest.length then (if 0≤ofBe rest∧ofBe rest≤most then (if (ofBe rest).toNat≤(rest.drop 8).length then ((rest.drop 8).take (ofBe rest).toNat,(rest.drop 8).drop (ofBe rest).toNat,false) else ([],rest.drop 8,true)) else ([],rest.drop 8,true)) else ([],rest,true)) else ([],rest,false)
structure RS where
 good:Bool
 rest:List UInt8
namespace RS
def of {α:Type} (s:RS) (x:α × List UInt8 × Bool):α × RS:=(x.1,⟨s.good && !x.2.2,x.2.1⟩)
def byte (s:RS):UInt8 × RS:=s.of (rByte s.good s.rest)
def num (s:RS):Int × RS:=s.of (rNum s.good s.rest)
def count (most:Int) (s:RS):Int × RS:=s.of (rCount most s.good s.rest)
def bytes (most:Int) (s:RS):List UInt8 × RS:=s.of (rBytes most s.good s.rest)
def done (s:RS):Bool:=s.good && decide (s.rest.length=0)
theorem ofBe_be {n:Int} (h:InI64 n) (t:List UInt8):ofBe (be n++t)=n:=by
 unfold ofBe;rw [List.take_append_of_le_length (by simp),show (be n).take 8=be n from rfl,s64_be n h]
theorem be_drop (n:Int) (t:List UInt8):(be n++t).drop 8=t:=by
 rw [List.drop_append_of_le_length (by simp),show (be n).drop 8=[] from rfl,List.nil_append]
theorem byte_cons (x:UInt8) (t:List UInt8):byte ⟨true,x::t⟩=(x,⟨true,t⟩):=rfl
theorem num_be {n:Int} (h:InI64 n) (t:List UInt8):num ⟨true,be n++t⟩=(n,⟨true,t⟩):=by
 unfold num of rNum;rw [if_pos rfl,if_pos (by simp),ofBe_be h,be_drop];rfl
theorem count_be {n most:Int} (h:InI64 n) (h0:0≤n) (hm:n≤most) (t:List UInt8):count most ⟨true,be n++t⟩=(n,⟨true,t⟩):=by
 unfold count of rCount;rw [if_pos rfl,if_pos (by simp),ofBe_be h,if_pos ⟨h0,hm⟩,be_drop];rfl
theorem bytes_of {xs:List UInt8} {most:Int} (hm:(xs.length:Int)≤most) (hx:(xs.length:Int)≤9223372036854775807) (t:List UInt8):bytes most ⟨true,bytesOf xs++t⟩=(xs,⟨true,t⟩):=by
 unfold bytes of rBytes bytesOf;have h1:InI64 (xs.length:Int):=by constructor<;>omega
 rw [List.append_assoc];simp only [if_true];rw [if_pos (by simp),ofBe_be h1,if_pos ⟨by omega,hm⟩,be_drop,if_pos (by simp)]
 simp
theorem byte_len (s:RS):s.byte.2.rest.length≤s.rest.length:=by
 obtain ⟨g,r⟩:=s
 cases g<;>cases r<;>simp [byte,of,rByte]
theorem num_len (s:RS):s.num.2.rest.length≤s.rest.length:=by
 unfold num of rNum;split<;>(try split)<;>simp
theorem count_len (most:Int) (s:RS):(s.count most).2.rest.length≤s.rest.length:=by
 unfold count of rCount;split<;>(try split)<;>(try split)<;>simp
theorem bytes_len (most:Int) (s:RS):(s.bytes most).2.rest.length≤s.rest.length:=by
 unfold bytes of rBytes;split<;>(try split)<;>(try split)<;>(try split)<;>simp<;>omega
theorem bytes_out (most:Int) (s:RS):(s.bytes most).1.length≤s.rest.length:=by
 unfold bytes of rBytes;split<;>(try split)<;>(try split)<;>(try split)<;>simp<;>omega
theorem zero64:InI64 0:=⟨by decide,by decide⟩
theorem num_in (s:RS):InI64 s.num.1:=by
 unfold num of rNum;split<;>(try split)<;>first|exact ofBe_in _|exact zero64
theorem count_bd (most:Int) (s:RS) (h:0≤most):0≤(s.count most).1∧(s.count most).1≤most:=by
 unfold count of rCount;split<;>(try split)<;>(try split)<;>first|assumption|exact ⟨Int.le_refl _,h⟩
theorem done_iff {s:RS}:s.done=true↔s.good=true∧s.rest=[]:=by unfold done;simp
end RS
def byteP:Nat→RS→List UInt8 × RS
 |0,s=>([],s)
 |n+1,s=>((byteP n s).1++[(byteP n s).2.byte.1],(byteP n s).2.byte.2)
@[simp] theorem byteP_length (n:Nat) (s:RS):(byteP n s).1.length=n:=by induction n<;>simp [byteP, *]
def ArrW (v:Value) (xs:List UInt8):SProp:=fun m=>Arr Rp.u8 m v xs
def RdP (T b:Nat) (s:RS):SProp:=fun m=>∃ p:Value × Bool × Bool,(p.2.1 && !p.2.2)=s.good∧Sat [obj b T [p.1,.bool p.2.1,.bool p.2.2],ArrW p.1 s.rest] m
section
variable {P:Program} {f:FuncId} {args:Array Value} {r:Fr} {T b:Nat} {s:RS} {Q:Value→RS→List SProp→Prop} {w:World} {g:Gr} {η:List SProp}
theorem Holds.open1 {ι:Type} {F:ι→Prop} {ws:ι→List SProp} (h:Holds w g ((fun m=>∃ i,F i∧Sat (ws i) m)::η)):∃ i,F i∧Holds w g (ws i++η):=by
 obtain ⟨i,hi⟩:=Holds.exi h;obtain ⟨q1,q2,q3,k,d,s1,s2,k1,k2,kd,t1,t2,⟨h1,hx⟩,y⟩:=hi;exact ⟨i,h1,q1,q2,q3,k,d,s1,s2,Sat.mono (Fr.add_sub t1 t2) (Sat.append kd hx y)⟩
theorem RdP.fold {v:Value} {made bad:Bool} (h1:(made && !bad)=s.good) (h:Holds w g (obj b T [v,.bool made,.bool bad]::ArrW v s.rest::η)):Holds w g (RdP T b s::η) :=
 h.imp fun _ h=>Sat.join2 (A:=obj b T [v,.bool made,.bool bad]) (B:=ArrW v s.rest) (fun _ x=>⟨(v,made,bad),h1,x⟩) h
theorem Con.rd (h:∀ (m:Fr) v made bad,(made && !bad)=s.good→Arr Rp.u8 m v s.rest→Con P f args m [obj b T [v,.bool made,.bool bad]] (Ret fun u η=>∃ v' bad' s' ζ,Q u s' ζ∧(made && !bad')=s'.good∧Arr Rp.u8 m v' s'.rest∧η=obj b T [v',.bool made,.bool bad']::ζ)) :
  Con P f args r [RdP T b s] (Ret fun u η=>∃ s' ζ,Q u s' ζ∧η=RdP T b s' ::ζ):=fun g hr w hw=>by
 obtain ⟨p,h1,hw1⟩:=Holds.open1 (F:=fun p:Value × Bool × Bool=>(p.2.1 && !p.2.2)=s.good) (ws:=fun p=>[obj b T [p.1,.bool p.2.1,.bool p.2.2],ArrW p.1 s.rest]) hw;obtain ⟨k,hk,hd,hw2⟩:=Holds.freeze (hw1.perm (List.Perm.swap _ _ _));refine (h k p.1 p.2.1 p.2.2 h1 hk (g.add k) (Fr.sub_add_right hd) w hw2).mono fun e w' ⟨η',hp,hw'⟩=>?_
 cases e with
 |returned u =>
  obtain ⟨v',bad',s',ζ,hQ,h3,h4,rfl⟩:=hp;exact ⟨_,⟨s',ζ,hQ,rfl⟩,RdP.fold h3 ((hw'.thaw (A:=ArrW v' s'.rest) h4 hd).perm (List.Perm.swap _ _ _))⟩
 |panicked _=>exact hp.elim
 |outgrown=>exact hp.elim
theorem good_or {made bad f g:Bool} (h:(made && !bad)=g):(made && !(bad ||f))=(g && !f):=by subst h;cases made<;>cases bad<;>cases f<;>rfl
theorem rd_sat {e:TypeId} {v:Value} {xs:List UInt8} {m:Fr} (h:Sat (obj b T [v,.bool true,.bool false]::OwnP Rp.u8 e v xs::η) m):Sat (RdP T b ⟨true,xs⟩::η) m :=
 Sat.join2 (A:=obj b T [v,.bool true,.bool false]) (B:=ArrW v xs) (fun _ x=>⟨(v,true,false),rfl,x⟩) (Sat.cons_imp (fun _ x=>x) (fun _ y=>Sat.cons_imp (fun _ x=>x.arr) (fun _ y=>y) y) h)
end
end Go.Sp
end
end
section
/- Texts of this proof. -/
namespace Go.Sp
def dotsP:Nat→RS→List DotT × RS
 |0,s=>([],s)
 |n+1,s=>((dotsP n s).1++[((dotsP n s).2.num.1,(dotsP n s).2.num.2.num.1,())],(dotsP n s).2.num.2.num.2)
@[simp] theorem dotsP_length (n:Nat) (s:RS):(dotsP n s).1.length=n:=by induction n<;>simp [dotsP, *]
def dot64 (d:DotT):Prop:=InI64 d.1∧InI64 d.2.1
theorem dotsP_in (n:Nat) (s:RS):∀ d∈(dotsP n s).1,dot64 d:=by
 induction n with
 |zero=>intro d hd;simp [dotsP] at hd
 |succ n ih =>
  intro d hd
  simp only [dotsP,List.mem_append,List.mem_singleton] at hd
  rcases hd with hd|rfl
  ·exact ih d hd
  ·exact ⟨RS.num_in _,RS.num_in _⟩
theorem dotsP_len (n:Nat) (s:RS):(dotsP n s).2.rest.length≤s.rest.length:=by
 induction n with
 |zero=>exact Nat.le_refl _
 |succ n ih=>exact Nat.le_trans (RS.num_len _) (Nat.le_trans (RS.num_len _) ih)
theorem dotsP_be:∀ (l:List DotT) (t:List UInt8),(∀ d∈l,dot64 d)→dotsP l.length ⟨true,dotsB l++t⟩=(l,⟨true,t⟩):=by
 have key:∀ (k:Nat) (l:List DotT) (t:List UInt8),(∀ d∈l,dot64 d)→k≤l.length→dotsP k ⟨true,dotsB l++t⟩=(l.take k,⟨true,dotsB (l.drop k)++t⟩):=by
  intro k
  induction k with
  |zero=>intro l t _ _;simp [dotsP]
  |succ k ih =>
   intro l t hl hk
   have h1:=ih l t hl (by omega);have hd:l.drop k=l[k]::l.drop (k+1):=List.drop_eq_getElem_cons hk;have hq:=hl _ (List.getElem_mem (l:=l) (n:=k) (by omega));rw [dotsP,h1]
   simp only
   rw [hd,dotsB_cons,List.append_assoc,RS.num_be hq.1]
   simp only
   rw [List.append_assoc,RS.num_be hq.2,List.take_succ_eq_append_getElem hk]
 intro l t hl
 rw [key l.length l t hl (Nat.le_refl _)];simp
structure RecQ where
 kind:UInt8
 key:List UInt8
 client:Int
 seq:Int
 dots:List DotT
 gone:UInt8
 value:List UInt8
 s:RS
def recQ (b:List UInt8):RecQ :=
 let k:=(RS.mk true b).byte
 let y:=k.2.bytes 64
 let c:=y.2.num
 let q:=c.2.num
 let n:=q.2.count 8
 let d:=dotsP n.1.toNat n.2
 let g:=d.2.byte
 let v:=g.2.bytes 1024
 ⟨k.1,y.1,c.1,q.1,d.1,g.1,v.1,v.2⟩
def RecQ.make (q:RecQ) (g:Bool) (sig:List UInt8):RecT:=(q.key,q.client,q.seq,q.dots,g,q.value,sig,())
theorem vec64 {l:List DotT} (h:vecOk l=true):∀ d∈l,dot64 d:=fun d hd=>by
 have:=dotOk_iff.1 ((vecOk_iff.1 h).1 d hd);exact ⟨⟨by omega,by omega⟩,⟨by omega,by omega⟩⟩
theorem recQ_text {x:RecT} (h:shaped x=true) (t:List UInt8):recQ (recText x++t)=⟨1,x.1,x.2.1,x.2.2.1,x.2.2.2.1,goneB x.2.2.2.2.1,x.2.2.2.2.2.1,⟨true,t⟩⟩:=by
 obtain ⟨h1,h2,h3,h4,h5,h6,h7⟩:=shaped_iff.1 h;have hd:=dotOk_iff.1 h3;simp only [rDot] at hd;have hl:=rises_len h4;have i1:InI64 x.2.1:=⟨by omega,by omega⟩;have i2:InI64 x.2.2.1:=⟨by omega,by omega⟩;have i3:InI64 (x.2.2.2.1.length:Int):=⟨by omega,by omega⟩;have e0:recText x++t=(1:UInt8)::(bytesOf x.1++(be x.2.1++(be x.2.2.1++(be x.2.2.2.1.length++(dotsB x.2.2.2.1++(goneB x.2.2.2.2.1::(bytesOf x.2.2.2.2.2.1++t))))))):=by
  simp [recText]
 unfold recQ;rw [e0];simp only [RS.byte_cons];rw [RS.bytes_of (by omega) (by omega)]
 simp only
 rw [RS.num_be i1]
 simp only
 rw [RS.num_be i2]
 simp only
 rw [RS.count_be i3 (by omega) (by omega)];simp only [Int.toNat_natCast];rw [dotsP_be _ _ (vec64 h4)];simp only [RS.byte_cons];rw [RS.bytes_of (by omega) (by omega)]
noncomputable def recGet (b:List UInt8):Option RecT:=by
 classical exact if h:∃ x,recOk x=true∧recB x=b then some h.choose else none
theorem recGet_iff' {b:List UInt8} {x:RecT} (h:recGet b=some x):recOk x=true∧recB x=b:=by
 unfold recGet at h
 split at h
 ·rename_i c;cases h;exact c.choose_spec
 ·cases h
def recHd (b:List UInt8):RecQ:=recQ (b.take (b.length - 64))
def recIn (b:List UInt8):RecT:=(recHd b).make (decide ((recHd b).gone≠0)) (b.drop (b.length - 64))
theorem goneB_ne (g:Bool):decide (goneB g≠0)=g:=by cases g<;>rfl
theorem recIn_ok {x:RecT} (h:recOk x=true):recIn (recB x)=x∧(recHd (recB x)).s=⟨true,[]⟩∧64≤(recB x).length:=by
 obtain ⟨h1,h2⟩:=recOk_iff.1 h;have e1:(recB x).length - 64=(recText x).length:=by unfold recB;rw [List.length_append,h2];omega
 have e2:(recB x).take ((recB x).length - 64)=recText x:=by rw [e1];unfold recB;rw [List.take_append_of_le_length (Nat.le_refl _),List.take_length]
 have e3:(recB x).drop ((recB x).length - 64)=x.2.2.2.2.2.2.1:=by rw [e1];unfold recB;rw [List.drop_append_of_le_length (Nat.le_refl _),List.drop_length,List.nil_append]
 have e4:=recQ_text h1 [];rw [List.append_nil] at e4;refine ⟨?_,?_,?_⟩
 ·unfold recIn recHd
  rw [e2,e3,e4];simp only [RecQ.make,goneB_ne]
 ·unfold recHd;rw [e2,e4]
 ·unfold recB;rw [List.length_append,h2];omega
theorem recB_inj {x y:RecT} (hx:recOk x=true) (hy:recOk y=true) (h:recB x=recB y):x=y:=by
 rw [← (recIn_ok hx).1,h,(recIn_ok hy).1]
theorem recGet_some {x:RecT} (h:recOk x=true):recGet (recB x)=some x:=by
 cases e:recGet (recB x) with
 |some y=>obtain ⟨h1,h2⟩:=recGet_iff' e;rw [recB_inj h1 h h2]
 |none =>
  unfold recGet at e
  split at e
  ·cases e
  ·rename_i c;exact absurd ⟨x,h,rfl⟩ c
theorem recGet_iff {b:List UInt8} {x:RecT}:recGet b=some x↔recOk x=true∧recB x=b :=
 ⟨recGet_iff',fun ⟨h1,h2⟩=>by rw [← h2];exact recGet_some h1⟩
theorem recGet_none {b:List UInt8} (h:∀ x,recOk x=true→recB x≠b):recGet b=none:=by
 cases e:recGet b with
 |none=>rfl
 |some x=>exact absurd (recGet_iff' e).2 (h x (recGet_iff' e).1)
theorem recGet_short {b:List UInt8} (h:b.length<64):recGet b=none :=
 recGet_none fun x hx e=>by have:=(recIn_ok hx).2.2;rw [e] at this;omega
theorem recGet_yes {b:List UInt8} (h2:recOk (recIn b)=true) (h3:recB (recIn b)=b):recGet b=some (recIn b):=recGet_iff.2 ⟨h2,h3⟩
theorem recGet_no {b:List UInt8} (h:¬((recHd b).s.done=true∧recOk (recIn b)=true∧recB (recIn b)=b)):recGet b=none :=
 recGet_none fun x hx e=>h (by subst e;obtain ⟨h1,h2,_⟩:=recIn_ok hx;rw [h1,h2];exact ⟨rfl,hx,rfl⟩)
end Go.Sp
end
end
section
/- Texts of this proof. -/
namespace Go.Sp
variable {K:Type} [DecidableEq K] {enc:K→Value}
abbrev KEnt (K:Type):=K × Value × Nat
def kEnt {K:Type} (enc:K→Value) (x:KEnt K):MapEntry:={ key:=enc (x.1),val:=x.2.1,born:=x.2.2 }
def kEs {K:Type} (enc:K→Value) (l:List (KEnt K)):Array MapEntry:=(l.map (kEnt enc)).toArray
def getK:List (KEnt K)→K→Option Value
 |[],_=>none
 |x::l,k=>if x.1=k then some x.2.1 else getK l k
def setK:List (KEnt K)→K→Value→List (KEnt K)
 |[],_,_=>[]
 |x::l,k,v=>if x.1=k then (k,v,x.2.2)::l else x::setK l k v
def putK (l:List (KEnt K)) (c:Nat) (k:K) (v:Value):List (KEnt K):=if (getK l k).isSome then setK l k v else l++[(k,v,c)]
def clkK (l:List (KEnt K)) (c:Nat) (k:K):Nat:=if (getK l k).isSome then c else c+1
def delK:List (KEnt K)→K→List (KEnt K)
 |[],_=>[]
 |x::l,k=>if x.1=k then l else x::delK l k
structure KeyOk (P:Program) (tk:TypeId) (enc:K→Value):Prop where
 find:∀ (k:K) (l:List (KEnt K)) (w:World),(Instr.findKey tk (enc k) (kEs enc l).toList).run P w=.ok ((getK l k).map fun v=>(l.findIdx fun x=>x.1 ==k,v)) w
 check:∀ (e:Bool) (k:K) (w:World),(Instr.checkKey e 10000 tk (enc k)).run P w=.ok () w
 same:∀ k:K,Instr.sameBits 10000 (enc k) (enc k)=true
def MapK (enc:K→Value) (b:Nat) (l:List (KEnt K)) (c:Nat):SProp:=blk b (.map (kEs enc l) c)
section
variable {ro:Option Nat} {P:Program} {fn:Func} {n:Nat} {R:Ending→World→Prop} {k:List Item} {σ:List (Nat × Value)} {D:List Deferred} {g:Gr} {η ζ θ:List SProp} {ops:Array Oper} {i d:Nat} {ls:List Nat}
 {t tk te:TypeId} {x y z:Operand} {b c:Nat} {l:List (KEnt K)} {key:K} {w:World}
theorem run_lookup_key (ht:P.underlying t=some (.map tk te)) (hk:KeyOk P tk enc) {zv:Value} (hz:(zeroValue te).run P w=.ok zv w) (hb:w.heap[b]?=some (.map (kEs enc l) c)) (ok:Bool) :
  (Instr.lookup t (.map (some b)) (enc (key)) ok).run P w=.ok (if ok then .tuple #[(getK l key).getD zv,.bool (getK l key).isSome] else (getK l key).getD zv) w:=by
 have h1:=fun e=>hk.check e key w;have h2:=hk.find key l w;simp only [Instr.lookup,Sem.run_bind,run_underlying ht,Result.andThen,MapKept.run_getObj_map hb,Sem.run_pure];rw [h1]
 simp only
 rw [h2]
 cases getK l key with
 |none=>simp [hz]
 |some v=>simp
omit [DecidableEq K] in
theorem MapK.block (h:Holds w g (MapK enc b l c::η)):w.heap[b]?=some (.map (kEs enc l) c):=Holds.block h
theorem Does.lookupK {kb:Bool} {zv:Value} (ht:P.underlying t=some (.map tk te)) (hk:KeyOk P tk enc) (hz:∀ w,(zeroValue te).run P w=.ok zv w) (hx:ev σ x=some (.map (some b))) (hy:ev σ y=some (enc (key))) (hs:Sel η (MapK enc b l c) ζ) :
  Does P (.lookup t x y kb) σ g η (if kb then .tuple #[(getK l key).getD zv,.bool (getK l key).isSome] else (getK l key).getD zv) η :=
 fun o ρ w ho hkn hw=>⟨w,by
  have:=run_lookup_key (P:=P) (key:=key) ht hk (hz w) (hw.sel hs).block kb
  simp [execOp,ho,hkn x _ hx,hkn y _ hy,this],hw⟩
theorem getK_idx:∀ (l:List (KEnt K)) (k:K) (v:Value),getK l k=some v→∃ x,l[l.findIdx fun x=>x.1 ==k]?=some x∧x.1=k
 |[],_,_,h=>by cases h
 |x::l,k,v,h=>by
  by_cases e:x.1=k
  ·exact ⟨x,by simp [List.findIdx_cons,e],e⟩
  ·have e2:(x.1 ==k)=false:=by simpa using e
   rw [getK,if_neg e] at h;obtain ⟨y,h1,h2⟩:=getK_idx l k v h;exact ⟨y,by simp [List.findIdx_cons,e2,h1],h2⟩
theorem modify_setK (k:K) (v:Value):∀ (l:List (KEnt K)),(l.map (kEnt enc)).modify (l.findIdx fun x=>x.1 ==k) (fun e=>{ e with key:=enc (k),val:=v })=(setK l k v).map (kEnt enc)
 |[]=>by simp [setK]
 |x::l=>by
  by_cases e:x.1=k
  ·simp [List.findIdx_cons,e,setK,kEnt]
  ·have e2:(x.1 ==k)=false:=by simpa using e
   have ih:=modify_setK k v l
   simp [List.findIdx_cons,e2,setK,e,ih]
theorem erase_delK (k:K):∀ (l:List (KEnt K)),(l.map (kEnt enc)).eraseIdx (l.findIdx fun x=>x.1 ==k)=(delK l k).map (kEnt enc)
 |[]=>rfl
 |x::l=>by
  by_cases e:x.1=k
  ·simp [List.findIdx_cons,e,delK]
  ·have e2:(x.1 ==k)=false:=by simpa using e
   have ih:=erase_delK k l
   simp [List.findIdx_cons,e2,delK,e,ih]
theorem kEs_modify (l:List (KEnt K)) (k:K) (v:Value):(kEs enc l).modify (l.findIdx fun x=>x.1 ==k) (fun e=>{ e with key:=enc (k),val:=v })=kEs enc (setK l k v):=by
 apply Array.toList_inj.1
 rw [Array.toList_modify];exact modify_setK k v l
theorem kEs_erase (l:List (KEnt K)) (k:K):(kEs enc l).eraseIdxIfInBounds (l.findIdx fun x=>x.1 ==k)=kEs enc (delK l k):=by
 apply Array.toList_inj.1
 rw [Array.toList_eraseIdxIfInBounds];exact erase_delK k l
omit [DecidableEq K] in
theorem run_setObj_mapK (o:Obj) (hb:w.heap[b]?=some (.map (kEs enc l) c)):(setObj b o).run P w=.ok () (w.putObj b o):=by
 have:=MapKept.run_setObj_map (P:=P) o hb;rw [this];rfl
theorem run_mapUpdate_key {v:Value} (ht:P.underlying t=some (.map tk te)) (hk:KeyOk P tk enc) (hb:w.heap[b]?=some (.map (kEs enc l) c)) :
  (Instr.mapUpdate t (.map (some b)) (enc (key)) v).run P w=.ok () (w.putObj b (.map (kEs enc (putK l c key v)) (clkK l c key))):=by
 have h1:=fun e=>hk.check e key w;have h2:=hk.find key l w;simp only [Instr.mapUpdate,Sem.run_bind,run_underlying ht,Result.andThen,MapKept.run_getObj_map hb];rw [h1]
 simp only
 rw [h2]
 cases hg:getK l key with
 |none =>
  simp only [Option.map_none,run_setObj_mapK _ hb,putK,clkK,hg,Option.isSome_none,Bool.false_eq_true,if_false]
  simp [kEs,kEnt]
 |some u =>
  obtain ⟨y,hy,hyk⟩:=getK_idx l key u hg;have hy2:(kEs enc l)[l.findIdx fun x=>x.1 ==key]?=some (kEnt enc y):=by simp [kEs,hy]
  have hkey:(((kEs enc l)[l.findIdx fun x=>x.1 ==key]?).map (·.key)).getD (enc (key))=enc (key):=by rw [hy2];simp [kEnt,hyk]
  have hsame:Instr.sameBits 10000 (enc (key)) (enc (key))=true:=hk.same key;simp only [Option.map_some,hkey,Instr.keyThatStays,hsame,if_true,Sem.run_bind,Sem.run_pure,Result.andThen,run_setObj_mapK _ hb,putK,clkK,hg,Option.isSome_some,kEs_modify]
theorem run_delete_key (ht:P.underlying t=some (.map tk te)) (hk:KeyOk P tk enc) {t2 ty:TypeId} (hb:w.heap[b]?=some (.map (kEs enc l) c)) :
  (Builtin.delete_ #[t,t2] ty #[.map (some b),enc (key)]).run P w=.ok (.tuple #[]) (w.putObj b (.map (kEs enc (delK l key)) c)):=by
 have h1:=fun e=>hk.check e key w;have h2:=hk.find key l w;have q0:(#[t,t2]:Array TypeId)[0]?=some t:=rfl;have q1:(#[Value.map (some b),enc (key)]:Array Value)[0]?=some (.map (some b)):=rfl;have q2:(#[Value.map (some b),enc (key)]:Array Value)[1]?=some (enc (key)):=rfl;simp only [Builtin.delete_,q0,q1,q2,Sem.run_bind,run_underlying ht,Result.andThen,MapKept.run_getObj_map hb];rw [h1]
 simp only
 rw [h2]
 cases hg:getK l key with
 |none =>
  have hd:delK l key=l:=by
   clear hb h2
   induction l with
   |nil=>rfl
   |cons x l ih =>
    by_cases e:x.1=key
    ·simp [getK,e] at hg
    ·simp only [getK,if_neg e] at hg
     simp only [delK,if_neg e,ih hg]
  simp only [Option.map_none,Sem.run_bind,run_setObj_mapK _ hb,hd,Sem.run_pure,Result.andThen]
 |some u =>
  simp only [Option.map_some,Sem.run_bind,run_setObj_mapK _ hb,kEs_erase,Sem.run_pure,Result.andThen]
omit [DecidableEq K] in
theorem DoesE.makeMapK {v:Value→List SProp→Prop} (hv:∀ b,v (.map (some b)) (MapK enc b [] 0::η)):DoesE P (.makeMap t none) σ g η v :=
 fun o ρ w ho hkn hw=>⟨_,_,_,hv w.heap.size,by simp [execOp,ho,Instr.makeMap,newObj,Sem.run];rfl,hw.alloc _⟩
omit [DecidableEq K] in
theorem DoesE.makeMapK' :DoesE P (.makeMap t none) σ g η fun v η' =>∃ b,v=.map (some b)∧η' =MapK enc b [] 0::η:=DoesE.makeMapK (enc:=enc) fun b=>⟨b,rfl,rfl⟩
theorem DoesU.mapUpdateK {v:Value} (ht:P.underlying t=some (.map tk te)) (hk:KeyOk P tk enc) (hx:ev σ x=some (.map (some b))) (hy:ev σ y=some (enc (key))) (hz:ev σ z=some v) (hs:Sel η (MapK enc b l c) ζ) :
  DoesU P (.mapUpdate t x y z) σ g η (MapK enc b (putK l c key v) (clkK l c key)::ζ) :=
 fun o ρ w ho hkn hw=>by
  have hw1:=hw.sel hs;refine ⟨_,?_,hw1.putObj _⟩;have:=run_mapUpdate_key (P:=P) (key:=key) (v:=v) ht hk hw1.block
  simp [execOp,ho,hkn x _ hx,hkn y _ hy,hkn z _ hz,this]
theorem O.deleteK {t2:TypeId} (ho:opAtU ops i=some (.call ⟨.builtin .delete,#[x,y],#[t,t2]⟩)) (ht:P.underlying t=some (.map tk te)) (hk:KeyOk P tk enc) (hx:ev σ x=some (.map (some b))) (hy:ev σ y=some (enc (key))) (hs:Sel η (MapK enc b l c) ζ)
  (h:O ro P fn n R ops ls k σ D g (MapK enc b (delK l key) c::ζ)):O ro P fn n R ops (i::ls) k σ D g η:=by
 intro a w hf hd hw
 obtain ⟨o,hi,hdst,hop,hg⟩:=opAtU_spec ho;have hw1:=hw.sel hs;have hrun:(execOp a.eval o).run P w=.ok (.value (.tuple #[])) (w.putObj b (.map (kEs enc (delK l key)) c)):=by
  have:=run_delete_key (P:=P) (key:=key) (t2:=t2) (ty:=o.type) ht hk hw1.block
  simp [execOp,hop,resolve,invoke,builtin,hf.knows x _ hx,hf.knows y _ hy,this]
 refine O.fire hi (by simp [Region.wanted,hg]) (by rw [hop];intro c hc;cases hc) hrun ?_;rw [Oper.uponIn_value,hdst];exact h _ _ hf hd (hw1.putObj _)
def WfK (l:List (KEnt K)) (c:Nat):Prop:=(l.map (·.2.2)).Nodup∧(∀ x∈l,x.2.2<c)∧(l.map (·.1)).Nodup
def IterK (it b c:Nat) (done:List (KEnt K)):SProp:=blk it (.mapIter (some b) c (done.map (·.2.2)).toArray c)
omit [DecidableEq K] in
theorem DoesE.rangeK (ht:P.underlying t=some (.map tk te)) (hx:ev σ x=some (.map (some b))) (hs:Sel η (MapK enc b l c) ζ):DoesE P (.range t x) σ g η fun v η' =>∃ it,v=.pointer (some ⟨it,0,none⟩)∧η' =IterK (K:=K) it b c []::η :=
 fun o ρ w ho hkn hw=>by
  have hb:=(hw.sel hs).block;exact ⟨_,_,_,⟨w.heap.size,rfl,rfl⟩,by simp [execOp,ho,hkn x _ hx,Instr.range,run_underlying ht,MapKept.run_getObj_map hb,newObj,Sem.run],hw.alloc _⟩
omit [DecidableEq K] in
theorem mem_leftOfK {seen:List Nat} {e:MapEntry}:e∈(leftOf (kEs enc l) seen.toArray).toList↔∃ x∈l,e=kEnt enc x∧x.2.2 ∉ seen:=by
 unfold leftOf;simp only [Array.toList_filter,List.mem_filter,kEs,List.mem_map]
 constructor
 ·rintro ⟨⟨x,hx,rfl⟩,h⟩
  exact ⟨x,hx,rfl,by simpa [kEnt] using h⟩
 ·rintro ⟨x,hx,rfl,h⟩
  exact ⟨⟨x,hx,rfl⟩,by simpa [kEnt] using h⟩
omit [DecidableEq K] in
theorem Does.entryK {done:List (KEnt K)} {y:KEnt K} {it:Nat} (hx:ev σ x=some (.pointer (some ⟨it,0,none⟩))) (hwf:WfK l c) (hy:y∈l) (s1:Sel η (IterK it b c (done++[y])) ζ) (s2:Sel ζ (MapK enc b l c) θ) :
  Does P (.entry x) σ g η (.tuple #[enc (y.1),y.2.1]) η:=fun o ρ w ho hkn hw=>by
 have hw1:Holds w g (IterK it b c (done++[y])::MapK enc b l c::θ):=(hw.sel s1).imp fun _ h=>Sat.cons_imp (fun _ y=>y) (fun _ y=>Sat.perm s2.perm y) h;have hr:=Holds.block hw1;have hm:=MapK.block (hw1.sel (.there .here));have hfind:(kEs enc l).toList.find? (·.born ==(kEnt enc y).born)=some (kEnt enc y):=find_born _ _ (by simpa [kEs,kEnt,Function.comp_def] using hwf.1) (show kEnt enc y∈(kEs enc l).toList from List.mem_map.2 ⟨y,hy,rfl⟩);have hfind2:(kEs enc l).find? (fun e=>e.born ==y.2.2)=some (kEnt enc y):=by rw [← Array.find?_toList];exact hfind
 have hback:(((done++[y]).map (·.2.2)).toArray).back?=some y.2.2:=by simp
 refine ⟨w,?_,hw⟩;have:(Instr.entry (.pointer (some ⟨it,0,none⟩))).run P w=.ok (.tuple #[enc (y.1),y.2.1]) w:=by
  simp only [Instr.entry,getObj,Sem.run_bind,Sem.run,hr,Result.andThen,hback,hm,bne_self_eq_false,Bool.false_eq_true,if_false,hfind2]
  rfl
 simp [execOp,ho,hkn x _ hx,this]
end
def enc2 (a:Int × Int):Value:=.agg #[.int .i64 a.1,.int .i64 a.2]
theorem run_part_int {P:Program} {ti:TypeId} (hi:P.underlying ti=some (.int .i64)) (cs:Array Value) (off:Nat) (v:Value) (hv:cs[off]?=some v) (w:World):(part ti cs off).run P w=.ok v w:=by
 simp [part,isAgg,run_underlying hi,hv]
theorem enc2_at (a:Int × Int):(#[Value.int .i64 a.1,.int .i64 a.2]:Array Value)[0]?=some (.int .i64 a.1)∧(#[Value.int .i64 a.1,.int .i64 a.2]:Array Value)[1]?=some (.int .i64 a.2):=⟨rfl,rfl⟩
omit [DecidableEq K] in
theorem WfK.nil:WfK ([]:List (KEnt K)) 0:=⟨.nil,by simp,.nil⟩
theorem getK_none {m:List (KEnt K)} {k:K}:getK m k=none↔k ∉ m.map (·.1):=by
 induction m with
 |nil=>simp [getK]
 |cons x m ih =>
  simp only [getK,List.map_cons,List.mem_cons]
  split
  ·rename_i h;subst h;simp
  ·rename_i h;rw [ih];constructor
   ·rintro h1 (h2|h2)
    ·exact h h2.symm
    ·exact h1 h2
   ·exact fun h1 h2=>h1 (.inr h2)
theorem getK_some {m:List (KEnt K)} {k:K} {v:Value} (h:getK m k=some v):∃ n,(k,v,n)∈m:=by
 induction m with
 |nil=>cases h
 |cons x m ih =>
  simp only [getK] at h
  split at h
  ·rename_i e;cases h;subst e;exact ⟨_,List.mem_cons_self ..⟩
  ·obtain ⟨n,hn⟩:=ih h;exact ⟨n,List.mem_cons_of_mem _ hn⟩
theorem getK_mem {m:List (KEnt K)} (h:(m.map (·.1)).Nodup) {x:KEnt K} (hx:x∈m):getK m x.1=some x.2.1:=by
 induction m with
 |nil=>cases hx
 |cons y m ih =>
  rw [List.map_cons,List.nodup_cons] at h;simp only [getK]
  rcases List.mem_cons.1 hx with rfl|hx
  ·simp
  ·rw [if_neg (fun e:y.1=x.1=>h.1 (by rw [e];exact List.mem_map.2 ⟨x,hx,rfl⟩)),ih h.2 hx]
theorem setK_keys (k:K) (v:Value):∀ m:List (KEnt K),(setK m k v).map (·.1)=m.map (·.1)∧(setK m k v).map (·.2.2)=m.map (·.2.2)
 |[]=>⟨rfl,rfl⟩
 |x::m=>by
  have ih:=setK_keys k v m;simp only [setK]
  split
  ·rename_i h;simp [h]
  ·simp [ih.1,ih.2]
theorem getK_set (k:K) (v:Value) (j:K):∀ m:List (KEnt K),getK (setK m k v) j=if j=k then (getK m k).map fun _=>v else getK m j
 |[]=>by simp [setK,getK]
 |x::m=>by
  have ih:=getK_set k v j m;simp only [setK]
  by_cases e:x.1=k
  ·rw [if_pos e]
   simp only [getK]
   by_cases e2:j=k
   ·subst e2;simp [e]
   ·rw [if_neg (fun h=>e2 h.symm),if_neg e2,if_neg (fun h=>e2 (h.symm.trans e))]
  ·rw [if_neg e]
   simp only [getK]
   by_cases e2:j=k
   ·subst e2;rw [if_neg e,if_pos rfl,if_neg e,ih,if_pos rfl]
   ·rw [if_neg e2,ih,if_neg e2]
theorem getK_append (m:List (KEnt K)) (k:K) (v:Value) (c:Nat) (j:K) (h:getK m k=none):getK (m++[(k,v,c)]) j=if j=k then some v else getK m j:=by
 induction m with
 |nil =>
  simp only [List.nil_append,getK]
  by_cases e:j=k
  ·subst e;rw [if_pos rfl]
  ·rw [if_neg (fun q=>e q.symm),if_neg e]
 |cons x m ih =>
  simp only [getK] at h ⊢
  split at h
  ·cases h
  ·rename_i e
   simp only [List.cons_append,getK]
   by_cases e2:j=k
   ·subst e2;rw [if_neg e,ih h];simp
   ·by_cases e3:x.1=j
    ·rw [if_pos e3,if_neg e2,if_pos e3]
    ·rw [if_neg e3,ih h,if_neg e2,if_neg e2,if_neg e3]
theorem getK_put (m:List (KEnt K)) (c:Nat) (k:K) (v:Value) (j:K):getK (putK m c k v) j=if j=k then some v else getK m j:=by
 unfold putK
 split
 ·rename_i h
  rw [getK_set]
  split
  ·cases hg:getK m k with
   |none=>rw [hg] at h;cases h
   |some u=>rfl
  ·rfl
 ·rename_i h
  exact getK_append m k v c j (by simpa using h)
theorem putK_wf {m:List (KEnt K)} {c:Nat} (h:WfK m c) (k:K) (v:Value):WfK (putK m c k v) (clkK m c k):=by
 unfold putK clkK
 split
 ·rename_i hs
  obtain ⟨h1,h2⟩:=setK_keys k v m;refine ⟨by rw [h2];exact h.1,fun x hx=>?_,by rw [h1];exact h.2.2⟩;have:x.2.2∈(setK m k v).map (·.2.2):=List.mem_map.2 ⟨x,hx,rfl⟩;rw [h2] at this;obtain ⟨y,hy,e⟩:=List.mem_map.1 this;have:=h.2.1 y hy
  omega
 ·rename_i hs
  have hn:getK m k=none:=by simpa using hs
  refine ⟨?_,fun x hx=>?_,?_⟩
  ·rw [List.map_append,List.nodup_append]
   refine ⟨h.1,by simp,fun a ha b hb=>?_⟩;obtain ⟨y,hy,rfl⟩:=List.mem_map.1 ha;have:=h.2.1 y hy
   simp at hb;subst hb;omega
  ·rcases List.mem_append.1 hx with hx|hx
   ·have:=h.2.1 x hx;omega
   ·simp at hx;subst hx;simp
  ·rw [List.map_append,List.nodup_append]
   refine ⟨h.2.2,by simp,fun a ha b hb=>?_⟩
   simp at hb;subst hb
   intro e;subst e
   exact getK_none.1 hn ha
theorem delK_sub (k:K):∀ m:List (KEnt K),(delK m k).Sublist m
 |[]=>.slnil
 |x::m=>by
  simp only [delK];split
  ·exact List.sublist_cons_self _ _
  ·exact (delK_sub k m).cons_cons _
theorem delK_wf {m:List (KEnt K)} {c:Nat} (h:WfK m c) (k:K):WfK (delK m k) c :=
 ⟨((delK_sub k m).map _).nodup h.1,fun x hx=>h.2.1 x ((delK_sub k m).subset hx),((delK_sub k m).map _).nodup h.2.2⟩
theorem getK_del {m:List (KEnt K)} (h:(m.map (·.1)).Nodup) (k j:K):getK (delK m k) j=if j=k then none else getK m j:=by
 induction m with
 |nil=>simp [delK,getK]
 |cons x m ih =>
  rw [List.map_cons,List.nodup_cons] at h;simp only [delK]
  by_cases e:x.1=k
  ·rw [if_pos e]
   by_cases e2:j=k
   ·subst e2;rw [if_pos rfl];exact getK_none.2 (e ▸ h.1)
   ·rw [if_neg e2];simp only [getK];rw [if_neg (fun q=>e2 (q.symm.trans e))]
  ·rw [if_neg e]
   simp only [getK]
   by_cases e2:j=k
   ·subst e2;rw [if_neg e,ih h.2,if_pos rfl,if_pos rfl]
   ·rw [ih h.2,if_neg e2,if_neg e2]
section
variable {ro:Option Nat} {P:Program} {fn:Func} {n:Nat} {R:Ending→World→Prop} {k:List Item} {σ:List (Nat × Value)} {D:List Deferred} {g:Gr} {η ζ θ:List SProp} {ops:Array Oper} {i d:Nat} {ls:List Nat}
 {t tk te:TypeId} {x y z:Operand} {b c c' :Nat} {l:List (KEnt K)} {key:K} {w:World} {v zv:Value}
theorem ODg.mapUpdateK {fl:Bool} {j:Nat} {l' :List Nat} (ho:opAtU ops j=some (.mapUpdate t x y z)) (hd:hdOk fl ops j l' =true) (ht:P.underlying t=some (.map tk te)) (hk:KeyOk P tk enc) (hx:ev σ x=some (.map (some b))) (hy:ev σ y=some (enc key)) (hz:ev σ z=some v) (hs:Sel η (MapK enc b l c) ζ)
  (h:OD P fn n R ops k D g l' σ (MapK enc b (putK l c key v) (clkK l c key)::ζ)):ODx P fn n R ops k D g fl (j::l') σ η :=
 ODx.perm hs.perm (ODg.loudU (η:=MapK enc b l c::ζ) (η' :=MapK enc b (putK l c key v) (clkK l c key)::ζ) ho rfl hd (fun _=>.mapUpdateK ht hk hx hy hz Sel.here) h)
theorem OD.mapUpdateK {j:Nat} {l' :List Nat} (ho:opAtU ops j=some (.mapUpdate t x y z)) (hd:descOk ops [j] l' =true) (ht:P.underlying t=some (.map tk te)) (hk:KeyOk P tk enc) (hx:ev σ x=some (.map (some b))) (hy:ev σ y=some (enc key)) (hz:ev σ z=some v) (hs:Sel η (MapK enc b l c) ζ)
  (h:OD P fn n R ops k D g l' σ (MapK enc b (putK l c key v) (clkK l c key)::ζ)):OD P fn n R ops k D g (j::l') σ η:=ODg.mapUpdateK (fl:=false) ho (by simpa [hdOk] using hd) ht hk hx hy hz hs h
end
def encS (k:List UInt8):Value:=.string (str k)
theorem findNow_keyS (k:List UInt8):∀ (l:List (KEnt (List UInt8))) (i:Nat),Instr.findNow .string (encS k) (l.map (kEnt encS)) i=some ((getK l k).map fun v=>(i+(l.findIdx fun x=>@BEq.beq _ instBEqOfDecidableEq x.1 k),v))
 |[],_=>rfl
 |x::l,i=>by
  have ih:=findNow_keyS k l (i+1);simp only [List.map_cons,Instr.findNow,kEnt,encS,Instr.sameNow] at ih ⊢
  by_cases h:x.1=k
  ·subst h;simp [getK,str_beq,List.findIdx_cons]
  ·have hne:(str k ==str x.1)=false:=by
    rw [str_beq];exact decide_eq_false fun e=>h e.symm
   rw [hne]
   simp only
   rw [ih];have h2:(@BEq.beq _ instBEqOfDecidableEq x.1 k)=false:=by simpa using h
   simp only [getK,if_neg h,List.findIdx_cons,h2]
   cases getK l k with
   |none=>rfl
   |some v=>simp;omega
theorem keyOkS {P:Program} {tk:TypeId} (hk:P.underlying tk=some .string):KeyOk P tk encS where
 find k l w:=by
  have h:=findNow_keyS k l 0;simp only [kEs,Instr.findKey,Sem.run_bind,run_underlying hk,Result.andThen,h,Nat.zero_add,Sem.run_pure]
 check e k w:=run_checkKey_str hk e 9999
 same k:=by
  show (str k ==str k)=true
  rw [str_beq];simp
end Go.Sp
end
end
section
/- Texts of this proof, one behind the other. -/
section
/- Texts of this proof, one behind the other. -/
section
/- Texts of this proof. -/
namespace Go.Sp
def LoadsAs (P:Program) (ty:TypeId) (cs:List Value) (v:Value):Prop:=∀ (w:World) (b:Nat),(∀ j u,cs[j]?=some u→w.cell? ⟨b,j,none⟩=some u)→(loadVar ty ⟨b,0,none⟩).run P w=.ok v w
theorem LoadsAs.flat {P:Program} {ty:TypeId} {v:Value} (h:flat1 P ty=true):LoadsAs P ty [v] v:=fun w b hc=>by
 simp [loadVar,run_isAgg_flat (flat1_flat h),hc 0 v rfl]
theorem LoadsAs.agg {P:Program} {ty:TypeId} {cs:List Value} (h:∀ w,(isAgg ty).run P w=.ok true w) (hs:(P.info? ty).map (·.size)=some cs.length):LoadsAs P ty cs (.agg cs.toArray):=fun w b hc=>by
 have hr:=run_loadCells_list (P:=P) w ⟨b,0,none⟩ cs fun j v hj=>by rw [add_lit,Nat.zero_add];exact hc j v hj
 simp [loadVar,h,run_sizeOf hs,hr]
section
variable {P:Program} {fn:Func} {n:Nat} {R:Ending→World→Prop} {k:List Item} {σ:List (Nat × Value)} {D:List Deferred} {g:Gr} {η ζ θ:List SProp} {f:FuncId}
theorem Holds.obj_cells {w:World} {b:Nat} {T:TypeId} {cs:List Value} (h:Holds w g (obj b T cs::η)):∀ j u,cs[j]?=some u→w.cell? ⟨b,j,none⟩=some u:=fun _ _ hj=>h.obj_cell hj
def DPost2 (P:Program) (g:Gr) (b1 b2:Nat) (t1 t2:TypeId) (R:Ending→World→Prop) (e:Ending) (u:FrameMode) (w:World):Prop :=
 (∃ v,e=.returned v)∧settle u=.returning∧∃ T1 T2 cs1 cs2 v1 v2 η,Holds w g (obj b1 T1 cs1::obj b2 T2 cs2::η)∧LoadsAs P t1 cs1 v1∧LoadsAs P t2 cs2 v2∧R (.returned (.tuple #[v1,v2])) w
theorem results_two {a:Act} {w:World} {s1 s2 b1 b2:Nat} {t1 t2 T1 T2:TypeId} {cs1 cs2:List Value} {v1 v2:Value} (hr:fn.results=#[.cell s1 t1,.cell s2 t2]) (hf:Fits a n σ) (hl1:look σ s1=some (.pointer (some ⟨b1,0,none⟩))) (hl2:look σ s2=some (.pointer (some ⟨b2,0,none⟩)))
  (hw:Holds w g (obj b1 T1 cs1::obj b2 T2 cs2::η)) (h1:LoadsAs P t1 cs1 v1) (h2:LoadsAs P t2 cs2 v2):(results fn a.tmps).run P w=.ok (.tuple #[v1,v2]) w:=by
 have e1:=h1 w b1 hw.obj_cells;have e2:=h2 w b2 (hw.drop).obj_cells;have l1:=hf.2 s1 _ hl1;have l2:=hf.2 s2 _ hl2
 simp [results,hr,Array.getD_eq_getD_getElem?,l1,l2,asAddr,e1,e2]
theorem leavesCell2 {a:Act} {w:World} {u:FrameMode} {s1 s2 b1 b2:Nat} {t1 t2:TypeId} {cap args:Array Value} (hr:fn.results=#[.cell s1 t1,.cell s2 t2]) (hf:Fits a n σ) (hl1:look σ s1=some (.pointer (some ⟨b1,0,none⟩))) (hl2:look σ s2=some (.pointer (some ⟨b2,0,none⟩)))
  (hu:u≠.run) (hc:callable P f=true) (hcall:CallsD P f (args++cap) u w (DPost2 P g b1 b2 t1 t2 R)):Lv P fn a.tmps R [⟨.fn (.func f) cap,args⟩] u w:=by
 refine Lv.of (leaves_cons hu (by simp [invoke,run_callFunc hc]) (hcall.mono ?_));rintro e u' w' ⟨⟨v,rfl⟩,hs,T1,T2,cs1,cs2,v1,v2,η',hw,h1,h2,hR⟩
 show Leaves P fn a.tmps R [] (settle u') w'
 rw [hs];exact ⟨_,results_two hr hf hl1 hl2 hw h1 h2,hR⟩
theorem S.retCellT {s1 s2 b1:Nat} {t1 T1:TypeId} {cs1:List Value} {v1 v2:Value} (hr:fn.results=#[.cell s1 t1,.tmp s2]) (hl1:look σ s1=some (.pointer (some ⟨b1,0,none⟩))) (hl2:look σ s2=some v2)
  (s:Sel η (obj b1 T1 cs1) ζ) (h1:LoadsAs P t1 cs1 v1) (h:∀ w,Holds w g (obj b1 T1 cs1::ζ)→R (.returned (.tuple #[v1,v2])) w):S none P fn n R (.code .ret::k) σ [] g η:=by
 refine S.retL fun a w hf hd hw=>?_;have hw' :=hw.sel s;refine ⟨.tuple #[v1,v2],?_,h w hw'⟩;have e1:=h1 w b1 hw'.obj_cells;have l1:=hf.2 s1 _ hl1;have l2:=hf.2 s2 _ hl2
 simp [results,hr,Array.getD_eq_getD_getElem?,l1,l2,asAddr,e1]
end
def errP (t:TypeId) (z:Int):List PanicEntry:=[{ v:=.iface t (.int .i64 z),recovered:=false }]
end Go.Sp
end
section
/- Texts of this proof, one behind the other. -/
section
/- Texts of this proof. -/
namespace Go.Sp
theorem run_equalDot {P : Program} {t ti : TypeId} {f0 f1 : Field} (ht : P.underlying t = some (.struct #[f0, f1])) (hi : P.underlying ti = some (.int .i64)) (h0 : f0.type = ti) (h1 : f1.type = ti) (o0 : f0.offset = 0) (o1 : f1.offset = 1) (n0 : f0.name ≠ "_") (n1 : f1.name ≠ "_") (hh : P.stoodInHeld t = false)
  (a b:Int × Int) (w:World):(Op.equal t (enc2 a) (enc2 b)).run P w=.ok (decide (a=b)) w:=by
 have hpa0:=fun w=>run_part_int hi _ 0 _ (enc2_at a).1 w;have hpa1:=fun w=>run_part_int hi _ 1 _ (enc2_at a).2 w;have hpb0:=fun w=>run_part_int hi _ 0 _ (enc2_at b).1 w;have hpb1:=fun w=>run_part_int hi _ 1 _ (enc2_at b).2 w;have heq:∀ (x y:Int) (w:World),(Op.equalIn 9999 ti (.int .i64 x) (.int .i64 y)).run P w=.ok (x ==y) w:=fun x y w=>by
  show (Op.equalIn (9998+1) ti (.int .i64 x) (.int .i64 y)).run P w=_
  unfold Op.equalIn
  simp [run_underlying hi]
 show (Op.equalIn (9999+1) t (enc2 a) (enc2 b)).run P w=_
 unfold Op.equalIn enc2;simp only [Sem.run_bind,run_underlying ht,Result.andThen];obtain ⟨a1,a2⟩:=a;obtain ⟨b1,b2⟩:=b;simp only at hpa0 hpa1 hpb0 hpb1
 by_cases c1:a1=b1
 ·by_cases c2:a2=b2
  ·subst c1;subst c2
   simp [hh,h0,h1,o0,o1,n0,n1,hpa0,hpa1,heq]
  ·subst c1
   have:(a2 ==b2)=false:=by simpa using c2
   simp [hh,h0,h1,o0,o1,n0,n1,hpa0,hpa1,hpb0,hpb1,heq,c2]
 ·have:(a1 ==b1)=false:=by simpa using c1
  simp [hh,h0,h1,o0,o1,n0,n1,hpa0,hpb0,heq,c1]
section
variable {P:Program} {σ:List (Nat × Value)} {g:Gr} {η:List SProp} {t ti u:TypeId} {x y:Operand} {a b c d:Int} {f0 f1:Field}
theorem Does.neqDot (ht : P.underlying t = some (.struct #[f0, f1])) (hi : P.underlying ti = some (.int .i64)) (h0 : f0.type = ti) (h1 : f1.type = ti) (o0 : f0.offset = 0) (o1 : f1.offset = 1) (n0 : f0.name ≠ "_") (n1 : f1.name ≠ "_") (hh : P.stoodInHeld t = false) (hgd : P.eqGuardType P.depth t = false)
  (hx:ev σ x=some (.agg #[.int .i64 a,.int .i64 b])) (hy:ev σ y=some (.agg #[.int .i64 c,.int .i64 d])):Does P (.binOp .neq t x y u) σ g η (.bool (decide ((a,b)≠(c,d)))) η:=.run fun o ρ w ho hk=>by
 have h:=run_equalDot ht hi h0 h1 o0 o1 n0 n1 hh (a,b) (c,d) w;simp only [enc2] at h
 simp [execOp,ho,hk x _ hx,hk y _ hy,eqGuard,Go.binOp,h,hgd]
end
theorem take_same {α:Type} {xs ys:List α} {i:Nat} (hi:i<xs.length) (hi2:i<ys.length) (h:xs.take i=ys.take i) (e:xs[i]=ys[i]):xs.take (i+1)=ys.take (i+1):=by
 rw [List.take_succ_eq_append_getElem hi,List.take_succ_eq_append_getElem hi2,h,e]
theorem not_same {α:Type} {xs ys:List α} {i:Nat} (hi:i<xs.length) (hi2:i<ys.length) (e:¬ xs[i]=ys[i]):¬ xs=ys:=fun h=>e (by subst h;rfl)
theorem str_eqL {a b:List UInt8} (h:(str a).toList=(str b).toList):a=b:=by simpa using h
set_option synthInstance.maxSize 2000
set_option synthInstance.maxHeartbeats 400000
instance decDot:DecidableEq DotT:=inferInstance
instance decRec:DecidableEq RecT:=inferInstance
instance decLeaf:DecidableEq LeafT:=inferInstance
instance decStub:DecidableEq StubT:=inferInstance
instance decNode:DecidableEq NodeT:=inferInstance
instance decPrf:DecidableEq PrfT:=inferInstance
instance decRoot:DecidableEq RootT:=inferInstance
instance decEvd:DecidableEq EvdT:=inferInstance
instance decHeld:DecidableEq HeldT:=inferInstance
end Go.Sp
end
section
/- Texts of this proof, one behind the other. -/
section
/- Texts of this proof. -/
namespace Go.Sp
theorem Does.geqS {P:Program} {σ:List (Nat × Value)} {g:Gr} {η:List SProp} {t u:TypeId} {x y:Operand} {a b:ByteArray} (hx:ev σ x=some (.string a)) (hy:ev σ y=some (.string b)) :
  Does P (.binOp .geq t x y u) σ g η (.bool !(Op.bytesLess a.toList b.toList)) η :=
 .run fun o ρ w ho hk=>by simp [execOp,ho,hk x _ hx,hk y _ hy,eqGuard,Go.binOp,Op.stringOp]
theorem geqS_eq (x y:List UInt8):(!Op.bytesLess (str x).toList (str y).toList)=decide (¬ x<y):=by rw [lssS_eq,decide_not]
end Go.Sp
end
section
/- Texts of this proof. -/
namespace Go.Sp
section
variable {ro:Option Nat} {P:Program} {fn:Func} {n:Nat} {R:Ending→World→Prop} {k:List Item} {σ:List (Nat × Value)} {D:List Deferred} {g:Gr} {η ζ:List SProp} {ops:Array Oper} {t e e' :TypeId} {x:Operand} {v:Value} {xs:List UInt8}
theorem Does.toE {op:Op} {η' :List SProp} {u:Value} (h:Does P op σ g η u η'):DoesE P op σ g η fun v η'' =>v=u∧η'' =η' :=
 fun o ρ w h1 h2 h3=>let ⟨w',a,b⟩:=h o ρ w h1 h2 h3;⟨u,w',η',⟨rfl,rfl⟩,a,b⟩
theorem DoesE.toStrO {t2:TypeId} (ht:P.underlying t=some (.slice e)) (he:P.underlying e=some (.int .u8)) (ht2:P.underlying t2=some .string) (hx:ev σ x=some v) :
  DoesE P (.convert t t2 x) σ g (OwnP Rp.u8 e' v xs::η) fun u η' =>∃ η₁,(u=.string (str xs)∧η₁=η)∧η' =OwnP Rp.u8 e' v xs::η₁ :=
 DoesE.borrow fun m hm hd=>Does.toE (Does.toStr (g:=g.add m) ht he ht2 hx (hm.arr.right hd))
theorem ODg.toStrO {fl:Bool} {i d:Nat} {t2:TypeId} {l:List Nat} (ho:Fires ops i n σ d (.convert t t2 x)) (hd:hdOk fl ops i l=true) (ht:P.underlying t=some (.slice e)) (he:P.underlying e=some (.int .u8)) (ht2:P.underlying t2=some .string) (hx:ev σ x=some v)
  (hs:Sel η (OwnP Rp.u8 e' v xs) ζ) (h:OD P fn n R ops k D g l ((d,.string (str xs))::σ) η):ODx P fn n R ops k D g fl (i::l) σ η :=
 ODx.perm hs.perm (ODg.loudE (η:=OwnP Rp.u8 e' v xs::ζ) (K:=fun u η' =>u=.string (str xs)∧η' =OwnP Rp.u8 e' v xs::ζ) ho rfl hd
  (fun θ=>(DoesE.toStrO (η:=ζ++θ) ht he ht2 hx).imp fun _ _ ⟨_,⟨a,b⟩,c⟩=>⟨_,⟨a,rfl⟩,by rw [c,b];rfl⟩) (by rintro _ _ ⟨rfl,rfl⟩;exact ODx.perm hs.perm.symm h))
theorem OD.toStrO {i d:Nat} {t2:TypeId} {l:List Nat} (ho:Fires ops i n σ d (.convert t t2 x)) (hd:descOk ops [i] l=true) (ht:P.underlying t=some (.slice e)) (he:P.underlying e=some (.int .u8)) (ht2:P.underlying t2=some .string) (hx:ev σ x=some v)
  (hs:Sel η (OwnP Rp.u8 e' v xs) ζ) (h:OD P fn n R ops k D g l ((d,.string (str xs))::σ) η):OD P fn n R ops k D g (i::l) σ η:=ODg.toStrO (fl:=false) ho (by simpa [hdOk] using hd) ht he ht2 hx hs h
theorem ODt.toStrO {i d:Nat} {t2:TypeId} {l:List Nat} (ho:Fires ops i n σ d (.convert t t2 x)) (_:true=true) (ht:P.underlying t=some (.slice e)) (he:P.underlying e=some (.int .u8)) (ht2:P.underlying t2=some .string) (hx:ev σ x=some v)
  (hs:Sel η (OwnP Rp.u8 e' v xs) ζ) (h:OD P fn n R ops k D g l ((d,.string (str xs))::σ) η):ODx P fn n R ops k D g true (i::l) σ η:=ODg.toStrO (fl:=true) ho rfl ht he ht2 hx hs h
end
end Go.Sp
end
end
end
end
section
/- Texts of this proof, one behind the other. -/
section
/- Texts of this proof. -/
namespace Go.Sp
def w64s (l:List U64):List Value:=l.map w64
@[simp] theorem w64s_length (l:List U64):(w64s l).length=l.length:=by simp [w64s]
theorem w64s_get {l:List U64} {j:Nat} (h:j<l.length):(w64s l)[j]?=some (w64 (l.getD j 0)):=by
 simp [w64s,h,List.getD_eq_getElem?_getD]
theorem w64s_set (l:List U64) (j:Nat) (x:U64):(w64s l).set j (w64 x)=w64s (l.set j x):=by simp [w64s,List.map_set]
theorem w64s_one (l:List U64):∀ v∈w64s l,v.oneCell' =true:=fun v hv=>by
 obtain ⟨x,_,rfl⟩:=List.mem_map.1 hv;rfl
theorem w64s_all (l:List U64):(w64s l).all (·.oneCell')=true:=List.all_eq_true.2 (w64s_one l)
section
variable {P:Program} {σ:List (Nat × Value)} {g:Gr} {η ζ:List SProp} {t e:TypeId} {x y:Operand}
theorem Does.indexArr {kd:IntKind} {zi:Int} {j len:Nat} {cs:Array Value} {v:Value} (ht:P.underlying t=some (.array len e)) (he:(P.info? e).map (·.size)=some 1) (hf:flat1 P e=true) (hx:ev σ x=some (.agg cs)) (hy:ev σ y=some (.int kd zi)) (hz:zi=(j:Int)) (hj:j<len) (hv:cs[j]?=some v) :
  Does P (.index t x y) σ g η v η:=.run fun o ρ w ho hk=>by
 subst hz
 simp [execOp,ho,hk x _ hx,hk y _ hy,Instr.index,part,asIntOf,run_underlying ht,hj,run_sizeOf he,run_isAgg_flat (flat1_flat hf),hv]
theorem Does.sliceArrFrom {kd:IntKind} {z:Int} {a len b:Nat} (ht:P.underlying t=some (.array len e)) (he:(P.info? e).map (·.size)=some 1) (hx:ev σ x=some (.pointer (some ⟨b,0,none⟩))) (hy:ev σ y=some (.int kd z)) (hz:z=(a:Int)) (ha:a<len) (h0:0<a) :
  Does P (.slice t x (some y) none none) σ g η (.slice (some ⟨b,a,none⟩) (len - a) (len - a)) η:=.run fun o ρ w ho hk=>by
 subst hz;have h1:a≤len:=by omega
 have h2:¬ len=a:=by omega
 have h3:¬ a=0:=by omega
 simp [execOp,ho,hk x _ hx,hk y _ hy,Instr.sliceAt,Instr.sureAddr,Instr.sliceBounds,Instr.sliceBound,asIntOf,run_underlying ht,h1,h2,run_sizeOf he,Addr.add,h3]
theorem Does.sliceArrTo {kd:IntKind} {z:Int} {a len b:Nat} (ht:P.underlying t=some (.array len e)) (he:(P.info? e).map (·.size)=some 1) (hx:ev σ x=some (.pointer (some ⟨b,0,none⟩))) (hy:ev σ y=some (.int kd z)) (hz:z=(a:Int)) (ha:a≤len) (h0:0<len) :
  Does P (.slice t x none (some y) none) σ g η (.slice (some ⟨b,0,none⟩) a len) η:=.run fun o ρ w ho hk=>by
 subst hz;have h2:¬ len=0:=by omega
 simp [execOp,ho,hk x _ hx,hk y _ hy,Instr.sliceAt,Instr.sureAddr,Instr.sliceBounds,Instr.sliceBound,asIntOf,run_underlying ht,ha,h2,run_sizeOf he,Addr.add]
theorem DoesE.copyObj {T te:TypeId} {b i j m n c n' c' :Nat} {cs:List Value} (ht:P.underlying t=some (.slice e)) (he:(P.info? e).map (·.size)=some 1) (hx:ev σ x=some (.slice (some ⟨b,i,none⟩) n c)) (hy:ev σ y=some (.slice (some ⟨b,j,none⟩) n' c')) (hs:Sel η (obj b T cs) ζ)
  (hm:m=min n' n) (h1:i+m≤cs.length) (h2:j+m≤cs.length) (hone:∀ v∈cs,v.oneCell' =true) :
  DoesE P (.call ⟨.builtin .copy,#[x,y],#[t,te]⟩) σ g η fun v η' =>v=.int .i64 (m:Int)∧η' =obj b T (cs.take i++(cs.drop j).take m++cs.drop (i+m))::ζ :=
 fun o ρ w ho hk hw=>by
  have hw1:=hw.sel hs;have hlen:((cs.drop j).take m).length=m:=by simp;omega
  have hr:=run_loadCells_list (P:=P) w ⟨b,j,none⟩ ((cs.drop j).take m) fun q v hq=>by
   rw [add_lit];refine hw1.obj_cell ?_;have hql:q<((cs.drop j).take m).length:=(List.getElem?_eq_some_iff.1 hq).1;rw [List.getElem?_take_of_lt (by omega),List.getElem?_drop] at hq;exact hq
  rw [hlen] at hr;have hst:=run_storeCells_at P b i T ((cs.drop j).take m) 0 cs.toArray w hw1.block (by simp;omega) (by
   intro v hv
   exact hone v (List.mem_of_mem_drop (List.mem_of_mem_take hv)))
  simp only [Nat.add_zero,hlen] at hst;refine ⟨_,w.setRow b (cs.take i++(cs.drop j).take m++cs.drop (i+m)).toArray,_,⟨rfl,rfl⟩,?_,hw1.setRow⟩;have hmin:Nat.min n' n=m:=hm.symm
  simp [execOp,ho,hk x _ hx,hk y _ hy,resolve,invoke,builtin,Builtin.copy_,run_underlying ht,Builtin.lenOf,Builtin.firstCells,run_sizeOf he,hmin,hr,hst,goInt]
variable {fn:Func} {n:Nat} {R:Ending→World→Prop} {k:List Item} {D:List Deferred} {ops:Array Oper}
theorem OD.copyObj {q d:Nat} {l:List Nat} {T te:TypeId} {b i j m n1 c n' c' :Nat} {cs:List Value} (ho:Fires ops q n σ d (.call ⟨.builtin .copy,#[x,y],#[t,te]⟩)) (hd:descOk ops [q] l=true) (ht:P.underlying t=some (.slice e)) (he:(P.info? e).map (·.size)=some 1) (hx:ev σ x=some (.slice (some ⟨b,i,none⟩) n1 c))
  (hy:ev σ y=some (.slice (some ⟨b,j,none⟩) n' c')) (hs:Sel η (obj b T cs) ζ) (hm:m=min n' n1) (h1:i+m≤cs.length) (h2:j+m≤cs.length) (hone:∀ v∈cs,v.oneCell' =true)
  (h:OD P fn n R ops k D g l ((d,.int .i64 (m:Int))::σ) (obj b T (cs.take i++(cs.drop j).take m++cs.drop (i+m))::ζ)):OD P fn n R ops k D g (q::l) σ η :=
 ODx.perm hs.perm (ODg.loudE (fl:=false) (η:=obj b T cs::ζ) (K:=fun u η' =>u=.int .i64 (m:Int)∧η' =obj b T (cs.take i++(cs.drop j).take m++cs.drop (i+m))::ζ) ho rfl (by simpa [hdOk] using hd)
  (fun θ=>(DoesE.copyObj (ζ:=ζ++θ) ht he hx hy .here hm h1 h2 hone).imp fun _ _ ⟨a,b⟩=>⟨_,⟨a,rfl⟩,by rw [b];rfl⟩) (by rintro _ _ ⟨rfl,rfl⟩;exact h))
end
def schM (b:List UInt8) (t:Nat):List U64:=sched b t++List.replicate (80 - t) 0
theorem schM_len {b:List UInt8} {t:Nat} (h:t≤80):(schM b t).length=80:=by simp [schM,sched_len];omega
theorem schM_80 (b:List UInt8):schM b 80=sched b 80:=by simp [schM]
theorem schM_put {b:List UInt8} {t:Nat} (h:t<80) (x:U64):(schM b t).set t x=sched b t++x::List.replicate (79 - t) 0:=by
 have hl:=sched_len b t;rw [schM,List.set_append_right _ _ (by omega),hl,Nat.sub_self,show 80 - t=(79 - t)+1 by omega,List.replicate_succ,List.set_cons_zero]
theorem schM_zero {b:List UInt8} {t:Nat} (h:t<80):(schM b t).set t 0=schM b t:=by
 rw [schM_put h,schM,show 80 - t=(79 - t)+1 by omega,List.replicate_succ]
theorem schM_set {b:List UInt8} {t:Nat} (h:t<80):(schM b t).set t (schedAt b (sched b t) t)=schM b (t+1):=by
 rw [schM_put h,schM,sched,List.append_assoc,List.singleton_append,show 80 - (t+1)=79 - t by omega]
theorem schM_get {b:List UInt8} {t i:Nat} (h:i<t):(schM b t).getD i 0=(sched b t).getD i 0:=by
 have hl:=sched_len b t;rw [List.getD_eq_getElem?_getD,List.getD_eq_getElem?_getD,schM,List.getElem?_append_left (by omega)]
theorem getD_set_self {l:List U64} {t:Nat} {x:U64} (h:t<l.length):(l.set t x).getD t 0=x:=by simp [List.getD_eq_getElem?_getD,h]
theorem beW_take {l : List UInt8} {j : Nat} (h : j < l.length) : beW (l.take (j + 1)) = beW (l.take j) <<< 8 ||| UInt64.ofNat l[j].toNat := by
 unfold beW;rw [List.take_succ_eq_append_getElem h,List.foldl_append];rfl
theorem w_u8 (c:UInt8):IntKind.u64.wrap (c.toNat:Int)=((UInt64.ofNat c.toNat).toNat:Int):=by
 have:=c.toNat_lt;rw [wrapN (by omega),UInt64.toNat_ofNat'];omega
theorem list8 {l:List U64} (h:l.length=8):∃ a b c d e f g i,l=[a,b,c,d,e,f,g,i]:=by
 match l,h with
 |[a,b,c,d,e,f,g,i],_=>exact ⟨a,b,c,d,e,f,g,i,rfl⟩
def addT (v u:List U64) (i:Nat):List U64:=(List.zipWith (·+·) v u).take i++v.drop i
theorem addT_len {v u:List U64} (hv:v.length=8) (hu:u.length=8) {i:Nat} (h:i≤8):(addT v u i).length=8:=by simp [addT,hv,hu];omega
theorem addT_8 {v u:List U64} (hv:v.length=8) (hu:u.length=8):addT v u 8=List.zipWith (·+·) v u:=by
 rw [addT,List.drop_eq_nil_of_le (by omega),List.append_nil,List.take_of_length_le (by simp [hv,hu])]
theorem addT_get {v u:List U64} (hv:v.length=8) (hu:u.length=8) {i:Nat} (h:i<8):(addT v u i).getD i 0=v.getD i 0:=by
 have hl:((List.zipWith (·+·) v u).take i).length=i:=by simp [hv,hu];omega
 rw [List.getD_eq_getElem?_getD,List.getD_eq_getElem?_getD,addT,List.getElem?_append_right (by omega),hl,Nat.sub_self,List.getElem?_drop,Nat.add_zero]
theorem addT_set {v u:List U64} (hv:v.length=8) (hu:u.length=8) {i:Nat} (h:i<8):(addT v u i).set i (v.getD i 0+u.getD i 0)=addT v u (i+1):=by
 have hl:((List.zipWith (·+·) v u).take i).length=i:=by simp [hv,hu];omega
 have hz:i<(List.zipWith (·+·) v u).length:=by simp [hv,hu];omega
 have e1:v.drop i=v[i]::v.drop (i+1):=List.drop_eq_getElem_cons (by omega);rw [addT,List.set_append_right _ _ (by omega),hl,Nat.sub_self,e1,List.set_cons_zero,addT,List.take_succ_eq_append_getElem hz,List.append_assoc,List.singleton_append,List.getElem_zipWith]
 simp [List.getD_eq_getElem?_getD,hv,hu,h]
end Go.Sp
end
section
/- Texts of this proof. -/
namespace Go.Sp
theorem laidVars_mem {P:Program} {w:World} {n:String} {d:DataW Unit}:∀ {l:List (String × DataW Unit)} {ps:List MemPlace},DataW.LaidVars P w l ps→(n,d)∈l →
  ∃ g t cs fuel p,P.globalNamed n=some g∧(P.globals[g]?).map (·.type)=some t∧w.var? P n=some cs∧DataW.trod (fun _=>()) P w 0 (fun _=>true) false fuel t cs.toList=some (d,p)
 |[],_,_,hm=>by cases hm
 |(n',d')::r,ps,h,hm=>by
  obtain ⟨g,t,cs,fuel,p,q,e1,e2,e3,e4,hr,_⟩:=h
  rcases List.mem_cons.1 hm with hm|hm
  ·cases hm;exact ⟨g,t,cs,fuel,p,e1,e2,e3,e4⟩
  ·exact laidVars_mem hr hm
theorem laid_at {P:Program} {w:World} {l:List (String × DataW Unit)} {n:String} {vs:List U64} {g t e:Nat} (h:laidMetH P l w) (hm:(n,DataW.agg (vs.map fun x=>.lit (.int .u64 (x.toNat:Int))))∈l) (hg:P.globalNamed n=some g)
  (ht:(P.globals[g]?).map (·.type)=some t) (hu:P.underlying t=some (.array vs.length e)) (he:P.underlying e=some (.int .u64)) (hc:P.cellsOf e=1) (hct:P.cellsOf t=vs.length):At w.fr ⟨g,0,none⟩ (w64s vs):=by
 obtain ⟨ps,hl,_⟩:=(laidMetH_iff.1 h).1;obtain ⟨g',t',cs,fuel,p,e1,e2,e3,e4⟩:=laidVars_mem hl (List.mem_filter.2 ⟨hm,rfl⟩);rw [hg] at e1;obtain rfl:=Option.some.inj e1;rw [ht] at e2;obtain rfl:=Option.some.inj e2;obtain ⟨xs,m,_,hx,hlen,hxl,hi⟩:=DataW.trod_array hu e4;have hx1:=(Prod.mk.inj hx).1
 injection hx1 with hx1
 have hcs:cs.toList=w64s vs:=by
  refine List.ext_getElem (by rw [hlen,hct,w64s_length]) fun i h1 h2=>?_;have h2' :i<vs.length:=by simpa using h2
  have hq:=hi i h2';rw [hc,Nat.mul_one] at hq;have hxi:xs[i]?=some xs[i]:=List.getElem?_eq_getElem (by omega);rw [hxi] at hq;obtain ⟨z,hz,hz2,_⟩:=DataW.trod_int he hq;have h3:(xs[i]).1=.lit (.int .u64 z):=by rw [hz2]
  have h4:=congrArg (fun l:List (DataW Unit)=>l[i]?) hx1;simp only [List.getElem?_map,hxi,List.getElem?_eq_getElem h2',Option.map_some,Option.some.injEq] at h4;rw [h3] at h4
  injection h4 with h4
  injection h4 with _ h4
  have h5:cs.toList[i]=.int .u64 z:=by
   have:(cs.toList.drop i).take 1=[cs.toList[i]]:=by rw [List.drop_eq_getElem_cons h1];rfl
   rw [this] at hz;exact (List.cons.inj hz).1
  rw [h5,← h4]
  simp [w64s,w64]
 intro j hj
 rw [fr_cell,← List.getElem?_eq_getElem hj,← hcs];unfold World.var? at e3;rw [hg] at e3;simp only [Option.bind_some] at e3;have e0:(Addr.mk g 0 none).add j=⟨g,j,none⟩:=by rw [add_lit,Nat.zero_add]
 rw [e0];unfold World.cell?
 simp only
 split at e3
 ·rename_i cs' _ _ hh
  obtain rfl:=Option.some.inj e3
  simp [hh]
 ·cases e3
end Go.Sp
end
end
end
