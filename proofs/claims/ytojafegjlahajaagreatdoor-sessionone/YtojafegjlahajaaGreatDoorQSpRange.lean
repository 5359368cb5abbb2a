/- Texts of this proof, one behind the other. -/
import Derived.Test.YtojafegjlahajaaGreatDoorQSpOwn3
import Derived.Lib.ConvBytes
import Derived.RangeFuncRecord
set_option linter.unusedSectionVars false
section
/- Texts of this proof, one behind the other. -/
section
/- Texts of this proof, one behind the other. -/
section
/- Texts of this proof, one behind the other. -/
section
/- Texts of this proof, one behind the other. -/
section
/- Texts of this proof. -/
namespace Go.Sp
section
variable {P:Program} {σ:List (Nat × Value)} {g:bh} {U ζ aN:List az}
def V6 {α:Type} (T:ag α) (e:TypeId) (v:Value) (xs:List α) (u:Value) (ys:List α):az:=fun h =>
 (∃ a c,v=.slice a xs.length c∧u=.slice a (xs.length+ys.length) c∧av T e u (xs++ys) h)∨Sat [av T e u (xs++ys),av T e v xs] h
theorem av.take {α:Type} {T:ag α} {e:TypeId} {a:Option Addr} {n m c:Nat} {xs ys:List α} {h:Fr} (hn:n=xs.length) (x:av T e (.slice a m c) (xs++ys) h):av T e (.slice a n c) xs h:=by
 subst hn;obtain ⟨ak,h1,h2,h3⟩:=x;have hl:ak.length=xs.length+ys.length:=by rw [h1.length];simp
 have ht:=h1.take xs.length;rw [List.take_left'] at ht
 ·refine ⟨ak.take xs.length,ht,?_,?_⟩
  ·rw [← h1.sM,List.length_take,h2,List.length_append];exact Nat.min_eq_left (Nat.mul_le_mul_right _ (by omega))
  ·rcases h3 with ⟨h4,h5⟩|⟨b,cap,cur,h4,h5,h6,h7,h8,h9⟩
   ·cases h4
    simp at h5
    exact .inl ⟨by rw [h5.1];rfl,by rw [h5.1];rfl⟩
   ·cases h4
    refine .inr ⟨b,c,cur,rfl,h5,?_,h7,h8,?_⟩
    ·rw [List.length_append] at h6;omega
    ·rw [← h1.sM,← h9,List.take_take,List.length_append,Nat.min_eq_left (Nat.mul_le_mul_right _ (by omega))]
 ·rfl
end
end Go.Sp
end
section
/- Texts of this proof. -/
namespace Go.Sp
theorem b5.len {β α:Type} {A:β→α→az}:∀ {bs:List β} {as:List α} {h:Fr},b5 A bs as h→bs.length=as.length
 |[],[],_,_=>rfl
 |[],_::_,_,h=>h.elim
 |_::_,[],_,h=>h.elim
 |_::_,_::_,_,h=>by
  have h' :Sat [_,b5 _ _ _] _:=h;obtain ⟨_,_,_,_,_,_,_,_,_,_,_,q,_⟩:=h'
  simp [b5.len q]
theorem Sat.DQ {A B C:az} {aN:List az} (hs:∀ m,Sat [A,B] m→C m):∀ {m:Fr},Sat (A::B::aN) m→Sat (C::aN) m:=by
 rintro m ⟨h1,h2,d,s1,s2,x,k1,k2,kd,t1,t2,y,z⟩;refine ⟨h1.add k1,k2,Fr.pJ (Fr.fH d (Fr.bW _) t2) kd,Fr.hG s1 (Fr.aI t1 s2),Fr.aI t2 s2,hs _ ?_,z⟩;have d2:h1.cI k1:=Fr.fH d (Fr.bW _) t1;exact ⟨h1,k1,d2,Fr.cw _ _,Fr.dA d2,x,k1,Fr.emp,Fr.eX (Fr.dW _),Fr.bW _,Fr.c4 _,y,trivial⟩
section
variable {ro:Option Nat} {P:Program} {fn:Func} {n:Nat} {R:Ending→World→Prop} {k:List Item} {σ:List (Nat × Value)} {D:List Deferred} {g:bh} {U ζ aN:List az} {ops:Array Oper} {L:List Nat} {β α:Type} {A:β→α→az} {todo:List Item}
theorem S.conv {B C:az} (s:bf U B ζ) (hc:∀ m,B m→∃ h:Fr,h.sub m∧C h) (h:S ro P fn n R todo σ D g (C::ζ)):S ro P fn n R todo σ D g U :=
 S.cu s (S.imp' (U:=B::ζ) (ζ:=C::ζ) (fun _ ⟨_,h2,d,s1,s2,x,y⟩=>let ⟨h3,u,z⟩:=hc _ x;⟨h3,h2,Fr.fH d u (Fr.bW _),Fr.aI u s1,s2,z,y⟩) h)
theorem S.lF {B:az} {p:Prop} (s:bf U B ζ) (hs:∀ m,B m→p) (h:p→S ro P fn n R todo σ D g U):S ro P fn n R todo σ D g U :=
 fun a w hf hd hw=>by
  obtain ⟨_,_,_,_,_,_,_,_,_,_,_,_,hB,_⟩:=hw.cu s;exact h (hs _ hB) a w hf hd hw
end
end Go.Sp
end
end
section
/- Texts of this proof. -/
namespace Go.Sp
section
variable {P:Program} {σ:List (Nat × Value)} {g:bh} {U ζ:List az} {t e:TypeId} {x:Operand}
theorem JX (P:Program) (w:World) (f:Value→ByteArray→Sem (ForInStep ByteArray)) (hf:∀ (b:UInt8) s,f (bH b) s=.pure (.yield (s.push b))):∀ (xs:List UInt8) (s:ByteArray),
  (forIn (xs.map bH) s f:Sem ByteArray).run P w=.ok (⟨s.data++xs.toArray⟩) w
 |[],s=>by simp [forIn]
 |b::xs,s=>by
  have:=JX P w f hf xs (s.push b);rw [List.map_cons,List.forIn_cons,hf];simp only [Sem.run_bind,Sem.run,Result.andThen_ok];rw [this];simp
theorem aD.toStr {v:Value} {xs:List UInt8} (ht:P.underlying t=some (.slice e)) (he:P.underlying e=some (.int .u8)) {t2:TypeId} (ht2:P.underlying t2=some .string) (hx:aA σ x=some v) (hs:aj ag.u8 g.h v xs) :
  aD P (.convert t t2 x) σ g U (.string (str xs)) U :=
 fun o ρ w ho hk hw=>by
  refine ⟨w,?_,hw⟩;obtain ⟨ak,ha,a,cap,rfl,h1,h2,h3,h4⟩:=hs
  cases a with
  |none =>
   obtain ⟨rfl,_⟩:=aj.xF (T:=ag.u8) (xs:=xs) (by decide) ⟨ak,ha,none,cap,rfl,h1,h2,h3,h4⟩
   simp [execOp,ho,hk x _ hx,convert,run_underlying ht,run_underlying he,run_underlying ht2,Conv.bytesToString]
   rfl
  |some a =>
   have hcs:ak.flatten=xs.map bH:=by
    clear h1 h2 h3 h4 hx
    induction ak generalizing xs with
    |nil=>cases xs with
     |nil=>rfl
     |cons _ _=>exact ha.elim
    |cons c ak ih=>cases xs with
     |nil=>exact ha.elim
     |cons b xs=>rw [List.flatten_cons,ih ha.2,show c=[bH b] from ha.1];rfl
   have hr:=run_loadCells_list (P:=P) w a ak.flatten fun j v hj=>by
    obtain ⟨hj',rfl⟩:=List.getElem?_eq_some_iff.1 hj;obtain ⟨p,hp,hc⟩:=h4 j hj'
    cases hp
    exact Fr.qf hw.ground hc
   have hlen:ak.flatten.length=xs.length:=by rw [hcs];simp
   rw [hlen] at hr
   simp [execOp,ho,hk x _ hx,convert,run_underlying ht,run_underlying he,run_underlying ht2,Conv.bytesToString,hr]
   rw [hcs,JX P w _ (fun b s=>by simp [bH];rfl)];have e0:(⟨ByteArray.empty.data++xs.toArray⟩:ByteArray)=str xs:=by
    show (⟨#[]++xs.toArray⟩:ByteArray)=_
    simp [str]
   rw [e0];rfl
end
end Go.Sp
end
end
section
/- Texts of this proof. -/
namespace Go.Sp
def u64 (n:Int):Nat:=(n % 18446744073709551616).toNat
def jx (n:Int) (i:Nat):UInt8:=UInt8.ofNat (u64 n / 256 ^ i)
def be (n:Int):List UInt8:=[jx n 7,jx n 6,jx n 5,jx n 4,jx n 3,jx n 2,jx n 1,jx n 0]
@[simp] theorem yq (n:Int):(be n).length=8:=rfl
theorem Vz (n:Int):u64 n<18446744073709551616:=by unfold u64;omega
theorem t_ (n:Int):IntKind.u64.wrap n=(u64 n:Int):=by
 have:IntKind.u64.wrap n=n % 18446744073709551616:=by simp [IntKind.wrap,IntKind.bits,IntKind.signed]
 rw [this];unfold u64;omega
theorem KV (n:Int):IntKind.u8.wrap n=n % 256:=by simp [IntKind.wrap,IntKind.bits,IntKind.signed]
theorem Kh (n:Int) (i:Nat) (h:i<8) (z:Int) (hz:z=8*(i:Int)):IntKind.u8.wrap ((IntKind.u64.wrap n).fdiv (2 ^ min z.toNat IntKind.u64.bits))=((jx n i).toNat:Int):=by
 subst hz;have e1:min (8*(i:Int)).toNat IntKind.u64.bits=8*i:=by simp [IntKind.bits];omega
 rw [e1,t_,KV];have e2:((2:Int) ^ (8*i))=((256 ^ i:Nat):Int):=by
  rw [Int.pow_mul,Int.natCast_pow];rfl
 rw [e2];have b6:((u64 n:Nat):Int).fdiv ((256 ^ i:Nat):Int)=((u64 n / 256 ^ i:Nat):Int):=by
  rw [Int.fdiv_eq_ediv_of_nonneg _ (Int.natCast_nonneg _)];rfl
 rw [b6];unfold jx;have:(UInt8.ofNat (u64 n / 256 ^ i)).toNat=u64 n / 256 ^ i % 256:=by simp
 rw [this];omega
def mX (xs:List UInt8):Nat:=xs.foldl (fun n c=>n*256+c.toNat) 0
theorem LA (xs:List UInt8) (c:UInt8):mX (xs++[c])=mX xs*256+c.toNat:=by simp [mX]
theorem Jw (n:Nat):256 ^ (n+1)=256 ^ n*256:=Nat.pow_succ ..
theorem F3 (xs:List UInt8) (i:Nat) (h:i<xs.length):mX (xs.take (i+1))=mX (xs.take i)*256+xs[i].toNat:=by
 rw [List.take_succ_eq_append_getElem h,LA]
theorem Bm (xs:List UInt8) (i:Nat):mX (xs.take i)<256 ^ i:=by
 induction i with
 |zero=>simp [mX]
 |succ i ih =>
  by_cases h:i<xs.length
  ·rw [F3 xs i h,Jw]
   have:=xs[i].toNat_lt
   omega
  ·have e:xs.take (i+1)=xs.take i:=by rw [List.take_of_length_le (by omega),List.take_of_length_le (by omega)]
   rw [e,Jw];omega
theorem Lz (xs:List UInt8) (i:Nat) (hi:i<8):mX (xs.take i)<72057594037927936 :=
 Nat.lt_of_lt_of_le (Bm xs i) (Nat.le_trans (Nat.pow_le_pow_right (by decide) (show i≤7 by omega)) (by decide))
theorem Sx (n:Nat) (c:UInt8) (hn:n<72057594037927936) :
  bitsOf .or .u64 (IntKind.u64.wrap ((n:Int)*2 ^ min (8:Int).toNat IntKind.u64.bits)) (IntKind.u64.wrap (c.toNat:Int))=((n*256+c.toNat:Nat):Int):=by
 have hc:=c.toNat_lt;have e0:((n:Int)*2 ^ min (8:Int).toNat IntKind.u64.bits)=((n*256:Nat):Int):=by simp [IntKind.bits]
 have w:∀ k:Nat,k<18446744073709551616→IntKind.u64.wrap (k:Int)=k:=fun k h=>by rw [t_];unfold u64;omega
 rw [e0, w _ (by omega), w _ (by omega)];have e1 : (n * 256) ||| c.toNat = n * 256 + c.toNat := by
  have:=Nat.shiftLeft_add_eq_or_of_lt (b:=c.toNat) (i:=8) (by omega) n;rw [Nat.shiftLeft_eq] at this;exact this.symm
 have e2:∀ k:Nat,k<18446744073709551616→(BitVec.ofInt IntKind.u64.bits (k:Int)).toNat=k:=fun k h=>by rw [BitVec.toNat_ofInt];simp only [IntKind.bits];omega
 simp only [bitsOf,BitVec.toNat_or];rw [e2 _ (by omega),e2 _ (by omega),e1,w _ (by omega)]
def tN (n:Nat):Int:=if n<9223372036854775808 then n else n - 18446744073709551616
theorem VQ (n:Nat) (h:n<18446744073709551616):IntKind.i64.wrap (n:Int)=tN n:=by
 rw [IntKind.wrap_i64];unfold tN;split<;>omega
theorem T2 (n:Nat) (h:n<18446744073709551616):cE (tN n):=by unfold tN cE;split<;>omega
theorem Lx (n:Int):mX (be n)=u64 n:=by
 have h:=Vz n;simp only [mX,be,List.foldl_cons,List.foldl_nil,jx,UInt8.toNat_ofNat'];generalize u64 n=k at h ⊢;simp only [show (256:Nat)^7=72057594037927936 from rfl,show (256:Nat)^6=281474976710656 from rfl,show (256:Nat)^5=1099511627776 from rfl,show (256:Nat)^4=4294967296 from rfl,show (256:Nat)^3=16777216 from rfl,show (256:Nat)^2=65536 from rfl,show (256:Nat)^1=256 from rfl,show (256:Nat)^0=1 from rfl]
 omega
theorem T1 (n:Int) (h:cE n):tN (mX (be n))=n:=by
 rw [Lx];unfold tN u64;unfold cE at h;split<;>omega
def bytesOf (xs:List UInt8):List UInt8:=be xs.length++xs
@[simp] theorem Gc (xs:List UInt8):(bytesOf xs).length=8+xs.length:=by simp [bytesOf]
end Go.Sp
end
end
section
/- Texts of this proof. -/
namespace Go.Sp
section
variable {ro:Option Nat} {P:Program} {fn:Func} {n:Nat} {R:Ending→World→Prop} {k:List Item} {σ:List (Nat × Value)} {D:List Deferred} {g:bh} {U ζ aN:List az} {ops:Array Oper} {L l:List Nat} {i d:Nat} {t e:TypeId} {x y z:Operand} {α:Type} {T:ag α}
theorem S.KO {c:Code} (h:S ro P fn n R (.code c::.inLoop c::k) σ D g U):S ro P fn n R (.code (.loop c)::k) σ D g U :=
 S.loop (fun _:Unit=>True) (fun _=>σ) (fun _=>U) (fun _=>0) () trivial Sub.refl rfl fun _ _ _=>h
theorem aD.UF {kb:IntKind} {a:Option Addr} {m c q:Nat} {nG:Int} (ht:P.underlying t=some (.slice e)) (he:(P.info? e).map (·.size)=some T.k) (hx:aA σ x=some (.slice a m c)) (hy:aA σ y=some (.int kb nG)) (hz:nG=(q:Int)) (hq:q≤c) :
  aD P (.slice t x none (some y) none) σ g U (.slice a q c) U :=
 fun o ρ w ho hk hw=>⟨w,by
  subst hz
  cases a<;>simp [execOp,ho,hk x _ hx,hk y _ hy,Instr.sliceAt,run_underlying ht,Instr.slice,Instr.sliceBounds,Instr.sliceBound,asIntOf,hq,run_sizeOf he,Addr.add],hw⟩
theorem aD.min2 {kd:IntKind} {a b:Int} (hx:aA σ x=some (.int kd a)) (hy:aA σ y=some (.int kd b)) :
  aD P (.call ⟨.builtin .min,#[x,y],#[t,t]⟩) σ g U (.int kd (if b<a then b else a)) U :=
 fun o ρ w ho hk hw=>⟨w,by
  simp [execOp,ho,hk x _ hx,hk y _ hy,resolve,invoke,builtin,Builtin.min_,Builtin.min2],hw⟩
theorem bf.app {U ζ aN:List az} {A:az} (s:bf U A ζ):bf (U++aN) A (ζ++aN):=by
 induction s with
 |here=>exact .here
 |there _ ih=>exact .there ih
theorem cL.cn {fl:Bool} {ck len:Nat} {z:List Value} {parts:Array (Nat × Operand)} {vs:List Value} {ys:List α} (ho:bJ ops i n σ d (.buildSlice t len parts)) (hd:d_ fl ops i l=true) (ht:P.underlying t=some (.slice e)) (he:dy P e T.k ck z) (hk:0<T.k)
  (hp:partsOf σ parts.toList 0=some vs) (hlen:parts.toList.length=len) (hvs:bY (T.rel Fr.emp) (vs.map (·.cells.toList)) ys) (jX:len*T.k≤16777216)
  (h:∀ a c,af P fn n R ops k D g l ((d,.slice a len c)::σ) (av T e (.slice a len c) ys::U)):aK P fn n R ops k D g fl (i::l) σ U :=
 cL.fU (K:=fun v ax =>∃ a c,v=.slice a len c∧ax =av T e v ys::U) ho rfl hd (fun _=>(bE.cn ht he hk hp hlen hvs jX).imp fun _ _ ⟨a,c,h1,h2⟩=>⟨_,⟨a,c,h1,rfl⟩,h2⟩)
  fun _ _ ⟨a,c,h1,h2⟩=>by subst h1;subst h2;exact h a c
theorem af.cn {ck len:Nat} {z:List Value} {parts:Array (Nat × Operand)} {vs:List Value} {ys:List α} (ho:bJ ops i n σ d (.buildSlice t len parts)) (hd:eu ops [i] l=true) (ht:P.underlying t=some (.slice e)) (he:dy P e T.k ck z) (hk:0<T.k) (hp:partsOf σ parts.toList 0=some vs) (hlen:parts.toList.length=len) (hvs:bY (T.rel Fr.emp) (vs.map (·.cells.toList)) ys) (jX:len*T.k≤16777216) (h:∀ a c,af P fn n R ops k D g l ((d,.slice a len c)::σ) (av T e (.slice a len c) ys::U)):af P fn n R ops k D g (i::l) σ U:=cL.cn (fl:=false) ho (by simpa [d_] using hd) ht he hk hp hlen hvs jX h
theorem bO.cn {ck len:Nat} {z:List Value} {parts:Array (Nat × Operand)} {vs:List Value} {ys:List α} (ho:bJ ops i n σ d (.buildSlice t len parts)) (_:true=true) (ht:P.underlying t=some (.slice e)) (he:dy P e T.k ck z) (hk:0<T.k) (hp:partsOf σ parts.toList 0=some vs) (hlen:parts.toList.length=len) (hvs:bY (T.rel Fr.emp) (vs.map (·.cells.toList)) ys) (jX:len*T.k≤16777216) (h:∀ a c,af P fn n R ops k D g l ((d,.slice a len c)::σ) (av T e (.slice a len c) ys::U)):aK P fn n R ops k D g true (i::l) σ U:=cL.cn (fl:=true) ho rfl ht he hk hp hlen hvs jX h
theorem cL.gJ {fl:Bool} {ck:Nat} {z:List Value} {v u:Value} {xs ys:List α} (ho:bJ ops i n σ d (.call ⟨.builtin .append,#[x,y],#[t,t]⟩)) (hd:d_ fl ops i l=true) (ht:P.underlying t=some (.slice e)) (he:dy P e T.k ck z) (hk:0<T.k) (hx:aA σ x=some v) (hy:aA σ y=some u)
  (hl:bf U (av T e u ys) aN) (hs:bf aN (av T e v xs) ζ) (hb:(xs.length+ys.length)*ck≤140737488355328) (h63:xs.length+ys.length≤9223372036854775807)
  (h:∀ a c,af P fn n R ops k D g l ((d,.slice a (xs.length+ys.length) c)::σ) (av T e (.slice a (xs.length+ys.length) c) (xs++ys)::ζ)):aK P fn n R ops k D g fl (i::l) σ U :=
 cL.fU (K:=fun v' ax =>∃ a c,v' =.slice a (xs.length+ys.length) c∧ax =av T e v' (xs++ys)::ζ) ho rfl hd (fun _=>(bE.gJ ht he hk hx hy hl.app hs.app hb h63).imp fun _ _ ⟨a,c,h1,h2⟩=>⟨_,⟨a,c,h1,rfl⟩,h2⟩)
  fun _ _ ⟨a,c,h1,h2⟩=>by subst h1;subst h2;exact h a c
theorem af.gJ {ck:Nat} {z:List Value} {v u:Value} {xs ys:List α} (ho:bJ ops i n σ d (.call ⟨.builtin .append,#[x,y],#[t,t]⟩)) (hd:eu ops [i] l=true) (ht:P.underlying t=some (.slice e)) (he:dy P e T.k ck z) (hk:0<T.k) (hx:aA σ x=some v) (hy:aA σ y=some u) (hl:bf U (av T e u ys) aN) (hs:bf aN (av T e v xs) ζ) (hb:(xs.length+ys.length)*ck≤140737488355328) (h63:xs.length+ys.length≤9223372036854775807) (h:∀ a c,af P fn n R ops k D g l ((d,.slice a (xs.length+ys.length) c)::σ) (av T e (.slice a (xs.length+ys.length) c) (xs++ys)::ζ)):af P fn n R ops k D g (i::l) σ U:=cL.gJ (fl:=false) ho (by simpa [d_] using hd) ht he hk hx hy hl hs hb h63 h
theorem cL.pH {fl:Bool} {ck:Nat} {z:List Value} {v u:Value} {xs ys:List α} (ho:bJ ops i n σ d (.call ⟨.builtin .append,#[x,y],#[t,t]⟩)) (hd:d_ fl ops i l=true) (hT:T.Pure) (ht:P.underlying t=some (.slice e)) (he:dy P e T.k ck z) (hk:0<T.k) (hx:aA σ x=some v) (hy:aA σ y=some u)
  (hs:bf U (av T e v xs) ζ) (hu:aj T g.h u ys) (hb:(xs.length+ys.length)*ck≤140737488355328) (h63:xs.length+ys.length≤9223372036854775807)
  (h:∀ a c,af P fn n R ops k D g l ((d,.slice a (xs.length+ys.length) c)::σ) (av T e (.slice a (xs.length+ys.length) c) (xs++ys)::ζ)):aK P fn n R ops k D g fl (i::l) σ U :=
 cL.fU (K:=fun v' ax =>∃ a c,v' =.slice a (xs.length+ys.length) c∧ax =av T e v' (xs++ys)::ζ) ho rfl hd (fun _=>(bE.pH hT ht he hk hx hy hs.app hu hb h63).imp fun _ _ ⟨a,c,h1,h2⟩=>⟨_,⟨a,c,h1,rfl⟩,h2⟩)
  fun _ _ ⟨a,c,h1,h2⟩=>by subst h1;subst h2;exact h a c
theorem af.pH {ck:Nat} {z:List Value} {v u:Value} {xs ys:List α} (ho:bJ ops i n σ d (.call ⟨.builtin .append,#[x,y],#[t,t]⟩)) (hd:eu ops [i] l=true) (hT:T.Pure) (ht:P.underlying t=some (.slice e)) (he:dy P e T.k ck z) (hk:0<T.k) (hx:aA σ x=some v) (hy:aA σ y=some u) (hs:bf U (av T e v xs) ζ) (hu:aj T g.h u ys) (hb:(xs.length+ys.length)*ck≤140737488355328) (h63:xs.length+ys.length≤9223372036854775807) (h:∀ a c,af P fn n R ops k D g l ((d,.slice a (xs.length+ys.length) c)::σ) (av T e (.slice a (xs.length+ys.length) c) (xs++ys)::ζ)):af P fn n R ops k D g (i::l) σ U:=cL.pH (fl:=false) ho (by simpa [d_] using hd) hT ht he hk hx hy hs hu hb h63 h
theorem cL.oZ {v:Value} {xs:List α} {j:Nat} {kd:IntKind} (ho:bJ ops i n σ d (.indexAddr t x y)) {fl:Bool} (hd:d_ fl ops i l=true) (ht:P.underlying t=some (.slice e)) (he:(P.info? e).map (·.size)=some T.k) (hx:aA σ x=some v) {cA:Int} (hy:aA σ y=some (.int kd cA)) (ev:cA=(j:Int))
  (hs:bf U (av T e v xs) ζ) (hj:j<xs.length) (h:∀ p,pF v T.k j p→af P fn n R ops k D g l ((d,.pointer (some p))::σ) U):aK P fn n R ops k D g fl (i::l) σ U :=
 aK.perm hs.perm (cL.fU (U:=av T e v xs::ζ) (K:=fun u ax =>∃ p,u=.pointer (some p)∧pF v T.k j p∧ax =av T e v xs::ζ) ho rfl hd
  (fun _=>(bE.oZ ht he hx hy ev bf.here hj).imp fun _ _ ⟨p,a,b,c⟩=>⟨_,⟨p,a,b,rfl⟩,c⟩) fun _ _ ⟨p,a,b,c⟩=>by subst a;subst c;exact aK.perm hs.perm.symm (h p b))
theorem af.oZ {v:Value} {xs:List α} {j:Nat} {kd:IntKind} (ho:bJ ops i n σ d (.indexAddr t x y)) (hd:eu ops [i] l=true) (ht:P.underlying t=some (.slice e)) (he:(P.info? e).map (·.size)=some T.k) (hx:aA σ x=some v) {cA:Int} (hy:aA σ y=some (.int kd cA)) (ev:cA=(j:Int)) (hs:bf U (av T e v xs) ζ) (hj:j<xs.length) (h:∀ p,pF v T.k j p→af P fn n R ops k D g l ((d,.pointer (some p))::σ) U):af P fn n R ops k D g (i::l) σ U:=cL.oZ (fl:=false) ho (by simpa [d_] using hd) ht he hx hy ev hs hj h
theorem cL.qR {v u:Value} {xs:List α} {j q:Nat} {p:Addr} {a:α} (ho:j5 ops q=some (.store t x y)) {fl:Bool} (hd:d_ fl ops q l=true) (hsz:(P.info? t).map (·.size)=some T.k) (hx:aA σ x=some (.pointer (some p))) (hp:pF v T.k j p) (hy:aA σ y=some u)
  (hs:bf U (av T e v xs) ζ) (hj:j<xs.length) (hu:T.rel Fr.emp u.cells.toList a) (h:af P fn n R ops k D g l σ (av T e v (xs.set j a)::ζ)):aK P fn n R ops k D g fl (q::l) σ U :=
 aK.perm hs.perm (cL.mE (U:=av T e v xs::ζ) (ax :=av T e v (xs.set j a)::ζ) ho rfl hd (fun _=>.qR hsz hx hp hy bf.here hj hu) h)
theorem af.qR {v u:Value} {xs:List α} {j q:Nat} {p:Addr} {a:α} (ho:j5 ops q=some (.store t x y)) (hd:eu ops [q] l=true) (hsz:(P.info? t).map (·.size)=some T.k) (hx:aA σ x=some (.pointer (some p))) (hp:pF v T.k j p) (hy:aA σ y=some u) (hs:bf U (av T e v xs) ζ) (hj:j<xs.length) (hu:T.rel Fr.emp u.cells.toList a) (h:af P fn n R ops k D g l σ (av T e v (xs.set j a)::ζ)):af P fn n R ops k D g (q::l) σ U:=cL.qR (fl:=false) ho (by simpa [d_] using hd) hsz hx hp hy hs hj hu h
theorem af.slot {v v' :Value} (q:Nat) (hl:look σ q=some v) (h0:v=v') (h:af P fn n R ops k D g L ((q,v')::σ) U):af P fn n R ops k D g L σ U:=af.weaken h (Sub.BQ hl h0 Sub.refl)
end
theorem KN {a b:UInt8} (h:(a.toNat:Int)=b.toNat):a=b:=UInt8.toNat_inj.mp (by omega)
end Go.Sp
end
end
section
/- Texts of this proof. -/
namespace Go.Sp
theorem Holds.putObj {w:World} {g:bh} {U:List az} {b:Nat} {o:Obj} (o' :Obj) (h:Holds w g (blk b o::U)):Holds (w.putObj b o') g (blk b o' ::U):=by
 have hb:=h.block;have hlt:=(Array.getElem?_eq_some_iff.1 hb).1;exact h.setBlock (World.putObj_heap_same hlt) (fun i hi=>World.putObj_heap_other hi) rfl rfl rfl
def pE (l:Nat):Value:=.func (.yield l) #[] #[]
def gC (P:Program) (l:Nat) (args:Array Value) (r:Fr) (U:List az) (Post:Ending→List az→Prop):Prop :=
 ∀ g:bh,r.sub g.h→∀ w,Holds w g U→∃ f tmps assign body,(Instr.yield l args).run P w=.ok (.round l f tmps assign body) w ∧
  RoundIn Fence.wide 0 P l f tmps assign body w fun e w' =>∃ ax,Post e ax ∧Holds w' g ax
section ycon
variable {P:Program} {l:Nat} {args:Array Value} {r:Fr} {U:List az} {Post:Ending→List az→Prop}
theorem gC.sub {r' :Fr} (h:gC P l args r U Post) (hs:r.sub r'):gC P l args r' U Post:=fun g hr w hw=>h g (Fr.aI hs hr) w hw
theorem gC.frame {ζ:List az} (h:gC P l args r U Post):gC P l args r (U++ζ) fun e ax =>∃ cN,Post e cN∧ax =cN++ζ :=
 fun g hr w hw=>by
  obtain ⟨k,hk,hd,hw'⟩:=hw.y3;obtain ⟨f,t,a,b,h1,h2⟩:=h (g.add k) (Fr.aI hr (Fr.cw _ _)) w hw';exact ⟨f,t,a,b,h1,h2.mono fun _ _ ⟨ax,x,y⟩=>⟨ax ++ζ,⟨ax,x,rfl⟩,y.E1 hk hd⟩⟩
theorem gC.perm {ax :List az} (p:ax.Perm U) (h:gC P l args r U Post):gC P l args r ax Post:=fun g hr w hw=>h g hr w (hw.perm p)
end ycon
theorem TQ {P:Program} {ρ:Operand→Value} {o:Oper} {x:Operand} {xs:Array Operand} {ts:Array TypeId} {l:Nat} (ho:o.op=.call ⟨.value x,xs,ts⟩) (hx:ρ x=pE l) (w:World) :
  (execOp ρ o).run P w=(Instr.yield l (xs.map ρ)).run P w:=by
 have:(#[]:Array Value)++xs.map ρ=xs.map ρ:=by simp
 simp [execOp,ho,resolve,hx,Deferred.ofValue,invoke,pE]
section
variable {ro:Option Nat} {P:Program} {fn:Func} {n:Nat} {R:Ending→World→Prop} {k:List Item} {σ:List (Nat × Value)} {D:List Deferred} {g:bh} {U ζ aN:List az}
 {ops:Array Oper} {i d l:Nat} {ls:List Nat} {f:FuncId} {x y:Operand} {xs:Array Operand} {ts:Array TypeId} {bG:List Value} {K:Value→List az→Prop}
theorem O.yield (ho:bJ ops i n σ d (.call ⟨.value x,xs,ts⟩)) (hx:aA σ x=some (pE l)) (hv:dQ σ xs.toList=some bG) {args:Array Value} (hargs:bG.toArray=args) (con:gC P l args g.h U (aM K))
  (h:∀ v ax,K v ax →O ro P fn n R ops ls k ((d,v)::σ) D g (ax ++ζ)):O ro P fn n R ops (i::ls) k σ D g (U++ζ):=by
 intro a w hf hd hw
 obtain ⟨o,hi,ek,hop,hg,hb⟩:=ho.spec;have hm:xs.map a.eval=bG.toArray:=by rw [← ql hf.j3 hv,← Array.toList_map]
 obtain ⟨f,tm,as,bd,h1,h2⟩:=(con.frame (ζ:=ζ)) g (Fr.bW _) w hw;have hrun:(execOp a.eval o).run P w=.ok (.round l f tm as bd) w:=by
  rw [TQ hop (hf.j3 x _ hx) w,hm,hargs];exact h1
 refine O.mi hi (hg a hf) (by rw [hop];intro c hc;cases hc) hrun ?_;rw [Oper.uponIn_round];refine ⟨fun h=>(by cases h),RoundIn.mono h2 fun e w' hh=>?_⟩;obtain ⟨ax,⟨cN,hp,rfl⟩,hw'⟩:=hh
 cases e with
 |returned v =>
  show wpOpsIn (mT ro) 0 P ops _ ls (a.put o.dst v) w'
  rw [ek];exact h v cN hp _ _ (hf.put hb) hd hw'
 |panicked _=>exact hp.elim
 |outgrown=>exact hp.elim
theorem Sat.pack {ws:List az} {A:az} {ζ:List az} (hA:∀ m,Sat ws m→A m) {m:Fr} (h:Sat (ws++ζ) m):Sat (A::ζ) m:=by
 obtain ⟨h1,h2,d,s1,s2,x,y⟩:=Sat.split h;exact ⟨h1,h2,d,s1,s2,hA _ x,y⟩
theorem Holds.pack {w:World} {ws:List az} {A:az} (hA:∀ m,Sat ws m→A m) (h:Holds w g (ws++ζ)):Holds w g (A::ζ):=h.imp fun _=>Sat.pack hA
theorem gC.imp {args:Array Value} {r:Fr} {Post:Ending→List az→Prop} (hs:∀ m,Sat U m→Sat ζ m) (h:gC P l args r ζ Post):gC P l args r U Post:=fun g hr w hw=>h g hr w (hw.imp hs)
theorem gC.sK {args:Array Value} {r:Fr} {Post:Ending→List az→Prop} {α:Type} {A:α→az} (h:∀ x,gC P l args r (A x::U) Post):gC P l args r ((fun m=>∃ x,A x m)::U) Post:=fun g hr w hw=>by
 obtain ⟨p,q,rr,k,d,s1,s2,k1,k2,kd,t1,t2,⟨x,hx⟩,y⟩:=hw;exact h x g hr w ⟨p,q,rr,k,d,s1,s2,k1,k2,kd,t1,t2,hx,y⟩
theorem O.VZ (ho:bJ ops i n σ d (.call ⟨.value x,xs,ts⟩)) (hx:aA σ x=some (pE l)) (hv:dQ σ xs.toList=some bG) {args:Array Value} (hargs:bG.toArray=args) {bs:List az} (hb:jw U bs ζ) (con:gC P l args g.h bs (aM K))
  (h:∀ v ax,K v ax →O ro P fn n R ops ls k ((d,v)::σ) D g (ax ++ζ)):O ro P fn n R ops (i::ls) k σ D g U :=
 fun a w hf hd hw=>O.yield ho hx hv hargs con h a w hf hd (hw.perm hb.perm)
theorem S.beginRound {L:Loop} (hs:bf U (blk l (.loop L)) ζ) (hr:L.state=.ready) (h:S (some l) P fn n R k σ D g (blk l (.loop { L with state:=.busy })::ζ)):S (some l) P fn n R (.beginRound::k) σ D g U:=by
 intro a w hf hd hw b cs hb hfn
 have hw1:=hw.cu hs;obtain ⟨e,a',w',q,r⟩:=h a _ hf hd (hw1.putObj (.loop { L with state:=.busy })) b cs hb hfn;exact ⟨e,a',w',q,.of_steps (.one (fenced_wide P _) (stepR_beginRound hb (run_beginRound hw1.block hr))) r⟩
theorem S.TO {L:Loop} (hs:bf U (blk l (.loop L)) ζ) (h:∀ w,Holds w g (blk l (.loop { L with state:=.ready,pending:=none })::ζ)→R (.returned (.bool true)) w):S (some l) P fn n R [] σ D g U:=by
 intro a w hf hd hw
 have hw1:=hw.cu hs;exact .nil ⟨_,_,run_endRound none hw1.block,h _ (hw1.putObj _)⟩
def under:List Nat→List Value→List (Nat × Value)→List (Nat × Value)
 |p::ps,v::vs,σ=>under ps vs ((p,v)::σ)
 |_,_,σ=>σ
theorem GV:∀ (ps:List Nat) (vs:List Value) (tm:Array Value) (σ:List (Nat × Value)),(∀ p∈ps,Nat.blt p n=true)→Fits { tmps:=tm,defers:=[] } n σ →
  Fits { tmps:=(ps.zip vs).foldl (fun tmps (x:Nat × Value)=>tmps.setIfInBounds x.1 x.2) tm,defers:=[] } n (under ps vs σ)
 |[],_,_,_,_,h=>h
 |_::_,[],_,_,_,h=>h
 |p::ps,v::vs,tm,σ,hb,h=>by
  have:=h.put (v:=v) (hb p (List.mem_cons_self ..));exact GV ps vs _ _ (fun q hq=>hb q (List.mem_cons_of_mem _ hq)) this
theorem gC.of {L:Loop} {args:Array Value} {r:Fr} {U:List az} {Post:Ending→List az→Prop} (vs:List Value) (ps:List Nat) (ha:args=vs.toArray) (hps:L.params=ps.toArray) (mv:vs.length=ps.length)
  (hb:ps.all (fun p=>Nat.blt p n)=true) (hfn:∃ f,P.funcs[L.fn]?=some f) (hfit:Fits { tmps:=L.tmps,defers:=[] } n σ)
  (h:∀ g:bh,r.sub g.h→∀ R:Ending→World→Prop,(∀ e ax w',Post e ax →Holds w' g ax →R e w')→S (some l) P fn n R [.code L.assign,.beginRound,.code L.body] (under ps vs σ) [] g (blk l (.loop L)::U)) :
  gC P l args r (blk l (.loop L)::U) Post:=by
 intro g hr w hw
 subst ha;refine ⟨_,_,_,_,run_yield hw.block (by simp [hps,mv]),TP (fn:=fn) hfn ?_⟩;refine h g hr _ (fun e ax w' hp hh=>⟨ax,hp,hh⟩) _ w ?_ rfl hw;have:=GV ps vs L.tmps σ (fun p hp=>List.all_eq_true.1 hb p hp) hfit;have e:L.params.zip vs.toArray=(ps.zip vs).toArray:=by rw [hps];simp
 rw [e,List.foldl_toArray];exact this
def pR (oF:FuncId) (tm:Array Value) (ps:Array Tmp) (assign body:Code) (iT:Nat):Loop:={ state:=.ready,pending:=none,fn:=oF,tmps:=tm,params:=ps,assign,body,defers:=iT }
theorem S.rangeFunc {first cap:Array Value} {ps:Array Tmp} {assign body:Code} {J:Option Code→List az→Prop} (hx:aA σ x=some (.func (.func f) first cap)) (hc:dr P f=true)
  (con:∀ (l iT oF:Nat) (tm:Array Value),(∃ fn',P.funcs[oF]?=some fn')→Fits { tmps:=tm,defers:=[] } n σ →
   ay P f (first++#[pE l]++cap) g.h (blk l (.loop (pR oF tm ps assign body iT))::U) (aM fun _ ax =>∃ L ζ,L.state≠.busy∧J L.pending ζ∧ax =blk l (.loop L)::ζ))
  (h:∀ iT jump ζ,J jump ζ→S none P fn n R ((jump.map Item.code).toList++k) σ (⟨.collected iT,#[]⟩::D) g (blk iT (.deferred (some []))::ζ)) :
  S none P fn n R (.code (.rangeFunc x ps assign body)::k) σ D g U:=by
 intro a w hf hd hw b cs hb hfn
 have he:=run_enterLoop_outer (P:=P) (w:=w) b.fn a.tmps ps assign body;rw [← hb] at he;have hres:(resolve a.eval (rangeCall x (w.heap.size+1)) 0).run P ((w.alloc (.deferred (some []))).alloc (.loop (pR b.fn a.tmps ps assign body w.heap.size))) =
   .ok ⟨.fn (.func f) cap,first++#[pE (w.heap.size+1)]⟩ ((w.alloc (.deferred (some []))).alloc (.loop (pR b.fn a.tmps ps assign body w.heap.size))):=by
  have hce:∀ v,a.eval (.const v)=v:=fun _=>rfl
  simp [rangeCall,resolve,hf.eval hx,Deferred.ofValue,pE,hce]
 have hinv:(invoke (Target.fn (.func f) cap) (first++#[pE (w.heap.size+1)])).run P ((w.alloc (.deferred (some []))).alloc (.loop (pR b.fn a.tmps ps assign body w.heap.size))) =
   .ok (.enter f (first++#[pE (w.heap.size+1)]++cap)) ((w.alloc (.deferred (some []))).alloc (.loop (pR b.fn a.tmps ps assign body w.heap.size))):=by
  simp only [invoke];exact As hc _ _
 have wL:=stepR_rangeFunc (P:=P) (b:=b) (a:=a) (k:=k) (cs:=cs) (w:=w) he hres hinv;have hw1:=(hw.alloc (.deferred (some []))).alloc (.loop (pR b.fn a.tmps ps assign body w.heap.size));have hsz:(w.alloc (.deferred (some []))).heap.size=w.heap.size+1:=by simp
 rw [hsz] at hw1;have hc1:=(con (w.heap.size+1) w.heap.size b.fn a.tmps hfn ⟨hf.1,hf.2⟩).frame (ζ:=[blk w.heap.size (.deferred (some []))]) g (Fr.bW _) _
  (hw1.perm (List.Perm.cons _ (List.perm_append_comm (l₁:=[_]) (l₂:=U))))
 obtain ⟨e,w₃,fr,hR,qz,nW,hleave⟩:=hc1 (b.atR { a with defers:=[⟨.collected w.heap.size,#[]⟩]++a.defers } (.inRangeFunc (w.heap.size+1)::k)::cs);obtain ⟨ax,⟨cN,hp,rfl⟩,Ih⟩:=hR
 cases e with
 |panicked _=>exact hp.elim
 |outgrown=>exact hp.elim
 |returned v =>
  obtain ⟨L,ζ,N4,hJ,rfl⟩:=hp;have Ps:=Ih.putObj (o:=.loop L) (.loop { L with state:=.exhausted });have hend:=run_endLoop (P:=P) Ih.block N4;have Pt:Holds (w₃.putObj (w.heap.size+1) (.loop { L with state:=.exhausted })) g (blk w.heap.size (.deferred (some []))::ζ):=(Holds.drop Ps).perm List.perm_append_comm;have Ug:StepsIn (Machine.fenced P Fence.wide) P (lone (b.atR a (.code (.rangeFunc x ps assign body)::k)) cs w)
    (lone (b.atR { a with defers:=[⟨.collected w.heap.size,#[]⟩]++a.defers } ((L.pending.map Item.code).toList++k)) cs (w₃.putObj (w.heap.size+1) (.loop { L with state:=.exhausted }))):=by
   refine .head (fenced_wide P _) wL (StepsIn.trans (stepsIn_wide.2 qz) (.head (fenced_wide P _) ?_ (.one (fenced_wide P _) (stepR_endRangeFunc hend))));rw [← finish_atR_inRangeFunc (w.heap.size+1) v];exact step_leave_returned hleave
  obtain ⟨e,a',w',q,r⟩:=h w.heap.size L.pending ζ hJ { a with defers:=[⟨.collected w.heap.size,#[]⟩]++a.defers } _ ⟨hf.1,hf.2⟩ (by simp [hd]) Pt b cs hb hfn;exact ⟨e,a',w',q,.of_steps Ug r⟩
inductive Marks:List Deferred→List az→List az→Prop
 |nil {U:List az}:Marks [] U U
 |cons {iT:Nat} {D:List Deferred} {U ζ aN:List az} (hs:bf U (blk iT (.deferred (some []))) aN) (h:Marks D aN ζ):Marks (⟨.collected iT,#[]⟩::D) U ζ
theorem Marks.lv {tmps:Array Value} (m:Marks D U ζ):∀ {w:World},Holds w g U→(∀ w',Holds w' g ζ→Leaves P fn tmps R [] .returning w')→eG P fn tmps R D .returning w:=by
 induction m with
 |nil=>exact fun hw h=>h _ hw
 |cons hs m ih =>
  intro w hw h
  have hw1:=hw.cu hs;exact ⟨by simp,.inl ⟨_,_,rfl,run_takeDeferred hw1.block,ih (hw1.putObj _).drop h⟩⟩
def EH (tmps:Array Value):ResultVar→Sem Value
 |.tmp t=>pure (tmps.getD t undef)
 |.cell a t=>do loadVar t (← asAddr (tmps.getD a undef))
def yf (P:Program) (n:Nat) (σ:List (Nat × Value)) (g:bh) (ζ:List az) (r:ResultVar) (v:Value):Prop:=∀ a w,Fits a n σ→Holds w g ζ→(EH a.tmps r).run P w=.ok v w
theorem yf.tmp {t:Nat} {v:Value} (hl:look σ t=some v):yf P n σ g ζ (.tmp t) v:=fun a w hf hw=>by
 have:=hf.2 t v hl
 simp [EH,Array.getD_eq_getD_getElem?,this]
theorem TE (tmps:Array Value):results fn tmps=(do
  let vs ← fn.results.mapM (EH tmps)
  pure (if h:vs.size=1 then vs[0] else .tuple vs)):=rfl
theorem results1 {a:Act} {w:World} {r:ResultVar} {v:Value} (hr:fn.results=#[r]) (h:yf P n σ g ζ r v) (hf:Fits a n σ) (hw:Holds w g ζ):(results fn a.tmps).run P w=.ok v w:=by
 rw [TE];simp [hr,Sem.run_bind,h a w hf hw,Result.andThen]
def Fv (todo:List Item):Prop:=todo=[]∨∃ k,todo=.code .ret::k
theorem S.off {todo:List Item} (ht:Fv todo) (h:∀ a w,Fits a n σ→a.defers=D→Holds w g U→eG P fn a.tmps R D .returning w):S none P fn n R todo σ D g U:=by
 rcases ht with rfl|⟨k,rfl⟩
 ·intro a w hf hd hw;refine .nil ?_;show eG P fn a.tmps R a.defers .returning w;rw [hd];exact h a w hf hd hw
 ·intro a w hf hd hw;refine .ret ?_;show eG P fn a.tmps R a.defers .returning w;rw [hd];exact h a w hf hd hw
theorem S.TH {todo:List Item} {r1:ResultVar} {v1:Value} (ht:Fv todo) (m:Marks D U ζ) (hr:fn.results=#[r1]) (h1:yf P n σ g ζ r1 v1) (h:∀ w,Holds w g ζ→R (.returned v1) w):S none P fn n R todo σ D g U :=
 S.off ht fun _ _ hf _ hw=>m.lv hw fun w' hw' =>⟨_,results1 hr h1 hf hw',h w' hw'⟩
theorem S.c7 {todo:List Item} {b:Nat} {T:TypeId} {cs cs' :List Value} (s:bf U (obj b T cs) ζ) (e:cs=cs') (h:S ro P fn n R todo σ D g (obj b T cs' ::ζ)):S ro P fn n R todo σ D g U:=S.cu s (e ▸ h)
end
end Go.Sp
end
