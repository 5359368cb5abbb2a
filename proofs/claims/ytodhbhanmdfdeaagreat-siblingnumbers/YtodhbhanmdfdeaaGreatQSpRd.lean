/- Texts of this proof. -/
import Derived.Test.YtodhbhanmdfdeaaGreatQSpGo
namespace Go.Sp
def ofBe (xs:List UInt8):Int:=s64 (beVal (xs.take 8))
theorem ofBe_in (xs:List UInt8):InI64 (ofBe xs):=s64_in _ (Nat.lt_of_lt_of_le (beVal_lt xs 8) (by decide))
def rByte (good:Bool) (rest:List UInt8):UInt8 × List UInt8 × Bool:=if good then (match rest with|[]=>(0,[],true)|x::xs=>(x,xs,false)) else (0,rest,false)
def rNum (good:Bool) (rest:List UInt8):Int × List UInt8 × Bool:=if good then (if 8≤rest.length then (ofBe rest,rest.drop 8,false) else (0,rest,true)) else (0,rest,false)
def rCount (most:Int) (good:Bool) (rest:List UInt8):Int × List UInt8 × Bool :=
 if good then (if 8≤rest.length then (if 0≤ofBe rest∧ofBe rest≤most then (ofBe rest,rest.drop 8,false) else (0,rest.drop 8,true)) else (0,rest,true)) else (0,rest,false)
def rBytes (most:Int) (good:Bool) (rest:List UInt8):List UInt8 × List UInt8 × Bool :=
 if good then (if 8≤rest.length then (if 0≤ofBe rest∧ofBe rest≤most then (if (ofBe rest).toNat≤(rest.drop 8).length then ((rest.drop 8).take (ofBe rest).toNat,(rest.drop 8).drop (ofBe rest).toNat,false) else ([],rest.drop 8,true)) else ([],rest.drop 8,true)) else ([],rest,true)) else ([],rest,false)
structure RS where
 good:Bool
 rest:List UInt8
namespace RS
def of {α:Type} (s:RS) (x:α × List UInt8 × Bool):α × RS:=(x.1,⟨s.good && !x.2.2,x.2.1⟩)
def byte (s:RS):UInt8 × RS:=s.of (rByte s.good s.rest)
def num (s:RS):Int × RS:=s.of (rNum s.good s.rest)
def count (most:Int) (s:RS):Int × RS:=s.of (rCount most s.good s.rest)
def bytes (most:Int) (s:RS):List UInt8 × RS:=s.of (rBytes most s.good s.rest)
def done (s:RS):Bool:=s.good && decide (s.rest.length=0)
theorem ofBe_be {n:Int} (h:InI64 n) (t:List UInt8):ofBe (be n++t)=n:=by
 unfold ofBe;rw [List.take_append_of_le_length (by simp),show (be n).take 8=be n from rfl,s64_be n h]
theorem be_drop (n:Int) (t:List UInt8):(be n++t).drop 8=t:=by
 rw [List.drop_append_of_le_length (by simp),show (be n).drop 8=[] from rfl,List.nil_append]
theorem byte_cons (x:UInt8) (t:List UInt8):byte ⟨true,x::t⟩=(x,⟨true,t⟩):=rfl
theorem num_be {n:Int} (h:InI64 n) (t:List UInt8):num ⟨true,be n++t⟩=(n,⟨true,t⟩):=by
 unfold num of rNum;rw [if_pos rfl,if_pos (by simp),ofBe_be h,be_drop];rfl
theorem count_be {n most:Int} (h:InI64 n) (h0:0≤n) (hm:n≤most) (t:List UInt8):count most ⟨true,be n++t⟩=(n,⟨true,t⟩):=by
 unfold count of rCount;rw [if_pos rfl,if_pos (by simp),ofBe_be h,if_pos ⟨h0,hm⟩,be_drop];rfl
theorem bytes_of {xs:List UInt8} {most:Int} (hm:(xs.length:Int)≤most) (hx:(xs.length:Int)≤9223372036854775807) (t:List UInt8):bytes most ⟨true,bytesOf xs++t⟩=(xs,⟨true,t⟩):=by
 unfold bytes of rBytes bytesOf;have h1:InI64 (xs.length:Int):=by constructor<;>omega
 rw [List.append_assoc];simp only [if_true];rw [if_pos (by simp),ofBe_be h1,if_pos ⟨by omega,hm⟩,be_drop,if_pos (by simp)]
 simp
theorem be_beVal:∀ {xs:List UInt8},xs.length=8→be (s64 (beVal xs))=xs:=by
 intro xs h
 match xs,h with
 |[a,b,c,d,e,f,g,i],_ =>
  have ha:=a.toNat_lt;have hb:=b.toNat_lt;have hc:=c.toNat_lt;have hd:=d.toNat_lt;have he:=e.toNat_lt;have hf:=f.toNat_lt;have hg:=g.toNat_lt;have hi:=i.toNat_lt;have hv:beVal [a,b,c,d,e,f,g,i]=((((((a.toNat*256+b.toNat)*256+c.toNat)*256+d.toNat)*256+e.toNat)*256+f.toNat)*256+g.toNat)*256+i.toNat:=by simp [beVal]
  have hu:u64 (s64 (beVal [a,b,c,d,e,f,g,i]))=beVal [a,b,c,d,e,f,g,i]:=by
   unfold u64 s64;rw [hv]
   split<;>omega
  have key:∀ (j:Nat) (x:UInt8),beVal [a,b,c,d,e,f,g,i] / 256 ^ j % 256=x.toNat→beAt (s64 (beVal [a,b,c,d,e,f,g,i])) j=x:=by
   intro j x hx
   unfold beAt;rw [hu]
   apply UInt8.toNat.inj
   rw [UInt8.toNat_ofNat'];exact hx
  unfold be;rw [key 7 a,key 6 b,key 5 c,key 4 d,key 3 e,key 2 f,key 1 g,key 0 i] <;>
   (rw [hv];simp only [show (256:Nat)^7=72057594037927936 from rfl,show (256:Nat)^6=281474976710656 from rfl,show (256:Nat)^5=1099511627776 from rfl,show (256:Nat)^4=4294967296 from rfl,show (256:Nat)^3=16777216 from rfl,show (256:Nat)^2=65536 from rfl,show (256:Nat)^1=256 from rfl,show (256:Nat)^0=1 from rfl];omega)
theorem be_ofBe {xs:List UInt8} (h:8≤xs.length):be (ofBe xs)++xs.drop 8=xs:=by
 unfold ofBe;rw [be_beVal (by rw [List.length_take];omega),List.take_append_drop]
theorem byte_good {s:RS} (h:s.byte.2.good=true):s.good=true∧s.rest=s.byte.1::s.byte.2.rest:=by
 obtain ⟨g,r⟩:=s
 cases g with
 |false=>simp [byte,of,rByte] at h
 |true=>cases r with
  |nil=>simp [byte,of,rByte] at h
  |cons x xs=>exact ⟨rfl,rfl⟩
theorem num_good {s:RS} (h:s.num.2.good=true):s.good=true∧InI64 s.num.1∧s.rest=be s.num.1++s.num.2.rest:=by
 obtain ⟨g,r⟩:=s
 cases g with
 |false=>simp [num,of,rNum] at h
 |true =>
  by_cases h8:8≤r.length
  ·have e:num ⟨true,r⟩=(ofBe r,⟨true,r.drop 8⟩):=by simp [num,of,rNum,h8]
   rw [e];exact ⟨rfl,ofBe_in r,(be_ofBe h8).symm⟩
  ·simp [num,of,rNum,h8] at h
theorem count_good {most:Int} {s:RS} (h:(s.count most).2.good=true):s.good=true∧(0≤(s.count most).1∧(s.count most).1≤most)∧InI64 (s.count most).1∧s.rest=be (s.count most).1++(s.count most).2.rest:=by
 obtain ⟨g,r⟩:=s
 cases g with
 |false=>simp [count,of,rCount] at h
 |true =>
  by_cases h8:8≤r.length
  ·by_cases hm:0≤ofBe r∧ofBe r≤most
   ·have e:count most ⟨true,r⟩=(ofBe r,⟨true,r.drop 8⟩):=by simp only [count,of,rCount,h8,hm];rfl
    rw [e];exact ⟨rfl,hm,ofBe_in r,(be_ofBe h8).symm⟩
   ·have e:count most ⟨true,r⟩=(0,⟨false,r.drop 8⟩):=by simp only [count,of,rCount,h8,hm];rfl
    rw [e] at h;cases h
  ·simp [count,of,rCount,h8] at h
theorem bytes_good {most:Int} {s:RS} (h:(s.bytes most).2.good=true):s.good=true∧((s.bytes most).1.length:Int)≤most∧s.rest=bytesOf (s.bytes most).1++(s.bytes most).2.rest:=by
 obtain ⟨g,r⟩:=s
 cases g with
 |false=>simp [bytes,of,rBytes] at h
 |true =>
  by_cases h8:8≤r.length
  ·by_cases hm:0≤ofBe r∧ofBe r≤most
   ·by_cases hl:(ofBe r).toNat≤(r.drop 8).length
    ·have e:bytes most ⟨true,r⟩=((r.drop 8).take (ofBe r).toNat,⟨true,(r.drop 8).drop (ofBe r).toNat⟩):=by simp only [bytes,of,rBytes,h8,hm,hl];rfl
     rw [e];have hlen:((r.drop 8).take (ofBe r).toNat).length=(ofBe r).toNat:=by rw [List.length_take];omega
     have hz:(((r.drop 8).take (ofBe r).toNat).length:Int)=ofBe r:=by rw [hlen];omega
     refine ⟨rfl,by rw [hz];exact hm.2,?_⟩
     show r=be (((r.drop 8).take (ofBe r).toNat).length:Int)++(r.drop 8).take (ofBe r).toNat++(r.drop 8).drop (ofBe r).toNat
     rw [hz,List.append_assoc,List.take_append_drop,be_ofBe h8]
    ·have e:bytes most ⟨true,r⟩=([],⟨false,r.drop 8⟩):=by simp only [bytes,of,rBytes,h8,hm,hl];rfl
     rw [e] at h;cases h
   ·have e:bytes most ⟨true,r⟩=([],⟨false,r.drop 8⟩):=by simp only [bytes,of,rBytes,h8,hm];rfl
    rw [e] at h;cases h
  ·simp [bytes,of,rBytes,h8] at h
theorem byte_len (s:RS):s.byte.2.rest.length≤s.rest.length:=by
 obtain ⟨g,r⟩:=s
 cases g<;>cases r<;>simp [byte,of,rByte]
theorem num_len (s:RS):s.num.2.rest.length≤s.rest.length:=by
 unfold num of rNum;split<;>(try split)<;>simp
theorem count_len (most:Int) (s:RS):(s.count most).2.rest.length≤s.rest.length:=by
 unfold count of rCount;split<;>(try split)<;>(try split)<;>simp
theorem bytes_len (most:Int) (s:RS):(s.bytes most).2.rest.length≤s.rest.length:=by
 unfold bytes of rBytes;split<;>(try split)<;>(try split)<;>(try split)<;>simp<;>omega
theorem bytes_out (most:Int) (s:RS):(s.bytes most).1.length≤s.rest.length:=by
 unfold bytes of rBytes;split<;>(try split)<;>(try split)<;>(try split)<;>simp<;>omega
theorem zero64:InI64 0:=⟨by decide,by decide⟩
theorem num_in (s:RS):InI64 s.num.1:=by
 unfold num of rNum;split<;>(try split)<;>first|exact ofBe_in _|exact zero64
theorem count_bd (most:Int) (s:RS) (h:0≤most):0≤(s.count most).1∧(s.count most).1≤most:=by
 unfold count of rCount;split<;>(try split)<;>(try split)<;>first|assumption|exact ⟨Int.le_refl _,h⟩
theorem bytes_bad {most:Int} {s:RS} (h:s.good=false):s.bytes most=([],s):=by obtain ⟨g,r⟩:=s;subst h;rfl
theorem done_iff {s:RS}:s.done=true↔s.good=true∧s.rest=[]:=by unfold done;simp
end RS
def byteP:Nat→RS→List UInt8 × RS
 |0,s=>([],s)
 |n+1,s=>((byteP n s).1++[(byteP n s).2.byte.1],(byteP n s).2.byte.2)
@[simp] theorem byteP_length (n:Nat) (s:RS):(byteP n s).1.length=n:=by induction n<;>simp [byteP, *]
theorem byteP_app (xs t:List UInt8):byteP xs.length ⟨true,xs++t⟩=(xs,⟨true,t⟩):=by
 have key:∀ k,k≤xs.length→byteP k ⟨true,xs++t⟩=(xs.take k,⟨true,xs.drop k++t⟩):=by
  intro k
  induction k with
  |zero=>intro _;simp [byteP]
  |succ k ih =>
   intro hk
   rw [byteP,ih (by omega)]
   simp only
   rw [List.drop_eq_getElem_cons (by omega:k<xs.length),List.cons_append,RS.byte_cons,List.take_succ_eq_append_getElem (by omega)]
 rw [key _ (Nat.le_refl _)];simp
theorem byteP_good {n:Nat} {s:RS} (h:(byteP n s).2.good=true):s.good=true∧s.rest=(byteP n s).1++(byteP n s).2.rest:=by
 induction n with
 |zero=>exact ⟨h,by simp [byteP]⟩
 |succ n ih =>
  obtain ⟨h1,e1⟩:=RS.byte_good (s:=(byteP n s).2) h;obtain ⟨h2,e2⟩:=ih h1;refine ⟨h2,?_⟩;rw [e2,e1]
  simp [byteP]
def ArrW (v:Value) (xs:List UInt8):SProp:=fun m=>Arr Rp.u8 m v xs
def RdP (T b:Nat) (s:RS):SProp:=fun m=>∃ p:Value × Bool × Bool,(p.2.1 && !p.2.2)=s.good∧Sat [obj b T [p.1,.bool p.2.1,.bool p.2.2],ArrW p.1 s.rest] m
def RfP (T b:Nat) (s:RS):SProp:=fun m=>∃ p:Value × List UInt8 × Nat × Bool,((!p.2.2.2)=s.good∧p.2.2.1≤p.2.1.length∧p.2.1.length≤1000000000∧p.2.1.drop p.2.2.1=s.rest)∧Sat [obj b T [p.1,.int .i64 (p.2.2.1:Int),.bool p.2.2.2],ArrW p.1 p.2.1] m
section
variable {P:Program} {f:FuncId} {args:Array Value} {r:Fr} {T b:Nat} {s:RS} {Q:Value→RS→List SProp→Prop} {w:World} {g:Gr} {η:List SProp}
theorem Holds.open1 {ι:Type} {F:ι→Prop} {ws:ι→List SProp} (h:Holds w g ((fun m=>∃ i,F i∧Sat (ws i) m)::η)):∃ i,F i∧Holds w g (ws i++η):=by
 obtain ⟨i,hi⟩:=Holds.exi h;obtain ⟨q1,q2,q3,k,d,s1,s2,k1,k2,kd,t1,t2,⟨h1,hx⟩,y⟩:=hi;exact ⟨i,h1,q1,q2,q3,k,d,s1,s2,Sat.mono (Fr.add_sub t1 t2) (Sat.append kd hx y)⟩
theorem RdP.fold {v:Value} {made bad:Bool} (h1:(made && !bad)=s.good) (h:Holds w g (obj b T [v,.bool made,.bool bad]::ArrW v s.rest::η)):Holds w g (RdP T b s::η) :=
 h.imp fun _ h=>Sat.join2 (A:=obj b T [v,.bool made,.bool bad]) (B:=ArrW v s.rest) (fun _ x=>⟨(v,made,bad),h1,x⟩) h
theorem RfP.fold {v:Value} {xs:List UInt8} {p:Nat} {bad:Bool} (h1:(!bad)=s.good∧p≤xs.length∧xs.length≤1000000000∧xs.drop p=s.rest) (h:Holds w g (obj b T [v,.int .i64 (p:Int),.bool bad]::ArrW v xs::η)):Holds w g (RfP T b s::η) :=
 h.imp fun _ h=>Sat.join2 (A:=obj b T [v,.int .i64 (p:Int),.bool bad]) (B:=ArrW v xs) (fun _ x=>⟨(v,xs,p,bad),h1,x⟩) h
theorem Con.rd (h:∀ (m:Fr) v made bad,(made && !bad)=s.good→Arr Rp.u8 m v s.rest→Con P f args m [obj b T [v,.bool made,.bool bad]] (Ret fun u η=>∃ v' bad' s' ζ,Q u s' ζ∧(made && !bad')=s'.good∧Arr Rp.u8 m v' s'.rest∧η=obj b T [v',.bool made,.bool bad']::ζ)) :
  Con P f args r [RdP T b s] (Ret fun u η=>∃ s' ζ,Q u s' ζ∧η=RdP T b s' ::ζ):=fun g hr w hw=>by
 obtain ⟨p,h1,hw1⟩:=Holds.open1 (F:=fun p:Value × Bool × Bool=>(p.2.1 && !p.2.2)=s.good) (ws:=fun p=>[obj b T [p.1,.bool p.2.1,.bool p.2.2],ArrW p.1 s.rest]) hw;obtain ⟨k,hk,hd,hw2⟩:=Holds.freeze (hw1.perm (List.Perm.swap _ _ _));refine (h k p.1 p.2.1 p.2.2 h1 hk (g.add k) (Fr.sub_add_right hd) w hw2).mono fun e w' ⟨η',hp,hw'⟩=>?_
 cases e with
 |returned u =>
  obtain ⟨v',bad',s',ζ,hQ,h3,h4,rfl⟩:=hp;exact ⟨_,⟨s',ζ,hQ,rfl⟩,RdP.fold h3 ((hw'.thaw (A:=ArrW v' s'.rest) h4 hd).perm (List.Perm.swap _ _ _))⟩
 |panicked _=>exact hp.elim
 |outgrown=>exact hp.elim
theorem Con.rf (h:∀ (m:Fr) v xs p bad,(!bad)=s.good→Arr Rp.u8 m v xs→p≤xs.length→xs.length≤1000000000→xs.drop p=s.rest→Con P f args m [obj b T [v,.int .i64 (p:Int),.bool bad]] (Ret fun u η=>∃ (p' :Nat) (bad' :Bool) (s' :RS) (ζ:List SProp),Q u s' ζ∧((!bad')=s'.good∧p' ≤xs.length∧xs.drop p' =s'.rest)∧η=obj b T [v,.int .i64 (p' :Int),.bool bad']::ζ)) :
  Con P f args r [RfP T b s] (Ret fun u η=>∃ s' ζ,Q u s' ζ∧η=RfP T b s' ::ζ):=fun g hr w hw=>by
 obtain ⟨p,⟨h1,h2,h3,h4⟩,hw1⟩:=Holds.open1 (F:=fun p:Value × List UInt8 × Nat × Bool=>(!p.2.2.2)=s.good∧p.2.2.1≤p.2.1.length∧p.2.1.length≤1000000000∧p.2.1.drop p.2.2.1=s.rest) (ws:=fun p=>[obj b T [p.1,.int .i64 (p.2.2.1:Int),.bool p.2.2.2],ArrW p.1 p.2.1]) hw;obtain ⟨k,hk,hd,hw2⟩:=Holds.freeze (hw1.perm (List.Perm.swap _ _ _));refine (h k p.1 p.2.1 p.2.2.1 p.2.2.2 h1 hk h2 h3 h4 (g.add k) (Fr.sub_add_right hd) w hw2).mono fun e w' ⟨η',hp,hw'⟩=>?_
 cases e with
 |returned u =>
  obtain ⟨p',bad',s',ζ,hQ,⟨h5,h6,h7⟩,rfl⟩:=hp;exact ⟨_,⟨s',ζ,hQ,rfl⟩,RfP.fold ⟨h5,h6,h3,h7⟩ ((hw'.thaw (A:=ArrW p.1 p.2.1) hk hd).perm (List.Perm.swap _ _ _))⟩
 |panicked _=>exact hp.elim
 |outgrown=>exact hp.elim
theorem good_or {made bad f g:Bool} (h:(made && !bad)=g):(made && !(bad ||f))=(g && !f):=by subst h;cases made<;>cases bad<;>cases f<;>rfl
theorem good_or' {bad f g:Bool} (h:(!bad)=g):(!(bad ||f))=(g && !f):=by subst h;cases bad<;>cases f<;>rfl
theorem rd_sat {e:TypeId} {v:Value} {xs:List UInt8} {m:Fr} (h:Sat (obj b T [v,.bool true,.bool false]::OwnP Rp.u8 e v xs::η) m):Sat (RdP T b ⟨true,xs⟩::η) m :=
 Sat.join2 (A:=obj b T [v,.bool true,.bool false]) (B:=ArrW v xs) (fun _ x=>⟨(v,true,false),rfl,x⟩) (Sat.cons_imp (fun _ x=>x) (fun _ y=>Sat.cons_imp (fun _ x=>x.arr) (fun _ y=>y) y) h)
theorem rf_sat {e:TypeId} {v:Value} {xs:List UInt8} {m:Fr} (hl:xs.length≤1000000000) (h:Sat (obj b T [v,.int .i64 0,.bool false]::OwnP Rp.u8 e v xs::η) m):Sat (RfP T b ⟨true,xs⟩::η) m :=
 Sat.join2 (A:=obj b T [v,.int .i64 0,.bool false]) (B:=ArrW v xs) (fun _ x=>⟨(v,xs,0,false),⟨rfl,Nat.zero_le _,hl,rfl⟩,x⟩) (Sat.cons_imp (fun _ x=>x) (fun _ y=>Sat.cons_imp (fun _ x=>x.arr) (fun _ y=>y) y) h)
end
end Go.Sp
