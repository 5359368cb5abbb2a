/- Texts of this proof, one behind the other. -/
import Derived.Test.YtodhbhanmdfdeaaGreatQSpOwn3
import Derived.Lib.ConvBytes
import Derived.RangeFuncRecord
import Derived.ChangeArms
import Derived.DataReads
import GoSem.ClaimJoined
import Derived.Laws.Strings2
import Derived.Laws.IdiomRangeMap
import Derived.Laws.Externs
import Derived.KernelRfl
section
/- Texts of this proof, one behind the other. -/
section
/- Texts of this proof, one behind the other. -/
section
/- Texts of this proof, one behind the other. -/
section
/- Texts of this proof, one behind the other. -/
section
/- Texts of this proof, one behind the other. -/
section
/- Texts of this proof, one behind the other. -/
section
/- Texts of this proof. -/
namespace Go.Sp
section
variable {P:Program} {σ:List (Nat × Value)} {g:Gr} {η ζ θ:List SProp}
def Two {α:Type} (T:Rp α) (e:TypeId) (v:Value) (xs:List α) (u:Value) (ys:List α):SProp:=fun h =>
 (∃ a c,v=.slice a xs.length c∧u=.slice a (xs.length+ys.length) c∧OwnP T e u (xs++ys) h)∨Sat [OwnP T e u (xs++ys),OwnP T e v xs] h
theorem OwnP.take {α:Type} {T:Rp α} {e:TypeId} {a:Option Addr} {n m c:Nat} {xs ys:List α} {h:Fr} (hn:n=xs.length) (x:OwnP T e (.slice a m c) (xs++ys) h):OwnP T e (.slice a n c) xs h:=by
 subst hn;obtain ⟨css,h1,h2,h3⟩:=x;have hl:css.length=xs.length+ys.length:=by rw [h1.length];simp
 have ht:=h1.take xs.length;rw [List.take_left'] at ht
 ·refine ⟨css.take xs.length,ht,?_,?_⟩
  ·rw [← h1.flat_take,List.length_take,h2,List.length_append];exact Nat.min_eq_left (Nat.mul_le_mul_right _ (by omega))
  ·rcases h3 with ⟨h4,h5⟩|⟨b,cap,cur,h4,h5,h6,h7,h8,h9⟩
   ·cases h4
    simp at h5
    exact .inl ⟨by rw [h5.1];rfl,by rw [h5.1];rfl⟩
   ·cases h4
    refine .inr ⟨b,c,cur,rfl,h5,?_,h7,h8,?_⟩
    ·rw [List.length_append] at h6;omega
    ·rw [← h1.flat_take,← h9,List.take_take,List.length_append,Nat.min_eq_left (Nat.mul_le_mul_right _ (by omega))]
 ·rfl
end
end Go.Sp
end
section
/- Texts of this proof. -/
namespace Go.Sp
theorem EachP.len {β α:Type} {A:β→α→SProp}:∀ {bs:List β} {as:List α} {h:Fr},EachP A bs as h→bs.length=as.length
 |[],[],_,_=>rfl
 |[],_::_,_,h=>h.elim
 |_::_,[],_,h=>h.elim
 |_::_,_::_,_,h=>by
  have h' :Sat [_,EachP _ _ _] _:=h;obtain ⟨_,_,_,_,_,_,_,_,_,_,_,q,_⟩:=h'
  simp [EachP.len q]
theorem Sat.join2 {A B C:SProp} {θ:List SProp} (hs:∀ m,Sat [A,B] m→C m):∀ {m:Fr},Sat (A::B::θ) m→Sat (C::θ) m:=by
 rintro m ⟨h1,h2,d,s1,s2,x,k1,k2,kd,t1,t2,y,z⟩;refine ⟨h1.add k1,k2,Fr.disj_add (Fr.disj_sub d (Fr.sub_refl _) t2) kd,Fr.add_sub s1 (Fr.sub_trans t1 s2),Fr.sub_trans t2 s2,hs _ ?_,z⟩;have d2:h1.disj k1:=Fr.disj_sub d (Fr.sub_refl _) t1;exact ⟨h1,k1,d2,Fr.sub_add_left _ _,Fr.sub_add_right d2,x,k1,Fr.emp,Fr.disj_symm (Fr.emp_disj _),Fr.sub_refl _,Fr.emp_sub _,y,trivial⟩
section
variable {ro:Option Nat} {P:Program} {fn:Func} {n:Nat} {R:Ending→World→Prop} {k:List Item} {σ:List (Nat × Value)} {D:List Deferred} {g:Gr} {η ζ θ:List SProp} {ops:Array Oper} {L:List Nat} {β α:Type} {A:β→α→SProp} {todo:List Item}
theorem S.conv {B C:SProp} (s:Sel η B ζ) (hc:∀ m,B m→∃ h:Fr,h.sub m∧C h) (h:S ro P fn n R todo σ D g (C::ζ)):S ro P fn n R todo σ D g η :=
 S.sel s (S.imp' (η:=B::ζ) (ζ:=C::ζ) (fun _ ⟨_,h2,d,s1,s2,x,y⟩=>let ⟨h3,u,z⟩:=hc _ x;⟨h3,h2,Fr.disj_sub d u (Fr.sub_refl _),Fr.sub_trans u s1,s2,z,y⟩) h)
theorem S.factS {B:SProp} {p:Prop} (s:Sel η B ζ) (hs:∀ m,B m→p) (h:p→S ro P fn n R todo σ D g η):S ro P fn n R todo σ D g η :=
 fun a w hf hd hw=>by
  obtain ⟨_,_,_,_,_,_,_,_,_,_,_,_,hB,_⟩:=hw.sel s;exact h (hs _ hB) a w hf hd hw
end
end Go.Sp
end
end
section
/- Texts of this proof. -/
namespace Go.Sp
section
variable {P:Program} {σ:List (Nat × Value)} {g:Gr} {η ζ:List SProp} {t e:TypeId} {x:Operand}
theorem run_byteLoop (P:Program) (w:World) (f:Value→ByteArray→Sem (ForInStep ByteArray)) (hf:∀ (b:UInt8) s,f (byteV b) s=.pure (.yield (s.push b))):∀ (xs:List UInt8) (s:ByteArray),
  (forIn (xs.map byteV) s f:Sem ByteArray).run P w=.ok (⟨s.data++xs.toArray⟩) w
 |[],s=>by simp [forIn]
 |b::xs,s=>by
  have:=run_byteLoop P w f hf xs (s.push b);rw [List.map_cons,List.forIn_cons,hf];simp only [Sem.run_bind,Sem.run,Result.andThen_ok];rw [this];simp
theorem Does.toStr {v:Value} {xs:List UInt8} (ht:P.underlying t=some (.slice e)) (he:P.underlying e=some (.int .u8)) {t2:TypeId} (ht2:P.underlying t2=some .string) (hx:ev σ x=some v) (hs:Arr Rp.u8 g.h v xs) :
  Does P (.convert t t2 x) σ g η (.string (str xs)) η :=
 fun o ρ w ho hk hw=>by
  refine ⟨w,?_,hw⟩;obtain ⟨css,ha,a,cap,rfl,h1,h2,h3,h4⟩:=hs
  cases a with
  |none =>
   obtain ⟨rfl,_⟩:=Arr.nil_of (T:=Rp.u8) (xs:=xs) (by decide) ⟨css,ha,none,cap,rfl,h1,h2,h3,h4⟩
   simp [execOp,ho,hk x _ hx,convert,run_underlying ht,run_underlying he,run_underlying ht2,Conv.bytesToString]
   rfl
  |some a =>
   have hcs:css.flatten=xs.map byteV:=by
    clear h1 h2 h3 h4 hx
    induction css generalizing xs with
    |nil=>cases xs with
     |nil=>rfl
     |cons _ _=>exact ha.elim
    |cons c css ih=>cases xs with
     |nil=>exact ha.elim
     |cons b xs=>rw [List.flatten_cons,ih ha.2,show c=[byteV b] from ha.1];rfl
   have hr:=run_loadCells_list (P:=P) w a css.flatten fun j v hj=>by
    obtain ⟨hj',rfl⟩:=List.getElem?_eq_some_iff.1 hj;obtain ⟨p,hp,hc⟩:=h4 j hj'
    cases hp
    exact Fr.cell_mono hw.ground hc
   have hlen:css.flatten.length=xs.length:=by rw [hcs];simp
   rw [hlen] at hr
   simp [execOp,ho,hk x _ hx,convert,run_underlying ht,run_underlying he,run_underlying ht2,Conv.bytesToString,hr]
   rw [hcs,run_byteLoop P w _ (fun b s=>by simp [byteV];rfl)];have e0:(⟨ByteArray.empty.data++xs.toArray⟩:ByteArray)=str xs:=by
    show (⟨#[]++xs.toArray⟩:ByteArray)=_
    simp [str]
   rw [e0];rfl
end
end Go.Sp
end
end
section
/- Texts of this proof. -/
namespace Go.Sp
def u64 (n:Int):Nat:=(n % 18446744073709551616).toNat
def beAt (n:Int) (i:Nat):UInt8:=UInt8.ofNat (u64 n / 256 ^ i)
def be (n:Int):List UInt8:=[beAt n 7,beAt n 6,beAt n 5,beAt n 4,beAt n 3,beAt n 2,beAt n 1,beAt n 0]
@[simp] theorem be_length (n:Int):(be n).length=8:=rfl
theorem u64_lt (n:Int):u64 n<18446744073709551616:=by unfold u64;omega
theorem wrap_u64_eq (n:Int):IntKind.u64.wrap n=(u64 n:Int):=by
 have:IntKind.u64.wrap n=n % 18446744073709551616:=by simp [IntKind.wrap,IntKind.bits,IntKind.signed]
 rw [this];unfold u64;omega
theorem wrap_u8_eq (n:Int):IntKind.u8.wrap n=n % 256:=by simp [IntKind.wrap,IntKind.bits,IntKind.signed]
theorem shift_byte (n:Int) (i:Nat) (h:i<8) (z:Int) (hz:z=8*(i:Int)):IntKind.u8.wrap ((IntKind.u64.wrap n).fdiv (2 ^ min z.toNat IntKind.u64.bits))=((beAt n i).toNat:Int):=by
 subst hz;have e1:min (8*(i:Int)).toNat IntKind.u64.bits=8*i:=by simp [IntKind.bits];omega
 rw [e1,wrap_u64_eq,wrap_u8_eq];have e2:((2:Int) ^ (8*i))=((256 ^ i:Nat):Int):=by
  rw [Int.pow_mul,Int.natCast_pow];rfl
 rw [e2];have e3:((u64 n:Nat):Int).fdiv ((256 ^ i:Nat):Int)=((u64 n / 256 ^ i:Nat):Int):=by
  rw [Int.fdiv_eq_ediv_of_nonneg _ (Int.natCast_nonneg _)];rfl
 rw [e3];unfold beAt;have:(UInt8.ofNat (u64 n / 256 ^ i)).toNat=u64 n / 256 ^ i % 256:=by simp
 rw [this];omega
def beVal (xs:List UInt8):Nat:=xs.foldl (fun n c=>n*256+c.toNat) 0
theorem beVal_snoc (xs:List UInt8) (c:UInt8):beVal (xs++[c])=beVal xs*256+c.toNat:=by simp [beVal]
theorem pow256_succ (n:Nat):256 ^ (n+1)=256 ^ n*256:=Nat.pow_succ ..
theorem beVal_take (xs:List UInt8) (i:Nat) (h:i<xs.length):beVal (xs.take (i+1))=beVal (xs.take i)*256+xs[i].toNat:=by
 rw [List.take_succ_eq_append_getElem h,beVal_snoc]
theorem beVal_lt (xs:List UInt8) (i:Nat):beVal (xs.take i)<256 ^ i:=by
 induction i with
 |zero=>simp [beVal]
 |succ i ih =>
  by_cases h:i<xs.length
  ·rw [beVal_take xs i h,pow256_succ]
   have:=xs[i].toNat_lt
   omega
  ·have e:xs.take (i+1)=xs.take i:=by rw [List.take_of_length_le (by omega),List.take_of_length_le (by omega)]
   rw [e,pow256_succ];omega
theorem beVal_lt7 (xs:List UInt8) (i:Nat) (hi:i<8):beVal (xs.take i)<72057594037927936 :=
 Nat.lt_of_lt_of_le (beVal_lt xs i) (Nat.le_trans (Nat.pow_le_pow_right (by decide) (show i≤7 by omega)) (by decide))
theorem or_byte (n:Nat) (c:UInt8) (hn:n<72057594037927936) :
  bitsOf .or .u64 (IntKind.u64.wrap ((n:Int)*2 ^ min (8:Int).toNat IntKind.u64.bits)) (IntKind.u64.wrap (c.toNat:Int))=((n*256+c.toNat:Nat):Int):=by
 have hc:=c.toNat_lt;have e0:((n:Int)*2 ^ min (8:Int).toNat IntKind.u64.bits)=((n*256:Nat):Int):=by simp [IntKind.bits]
 have w:∀ k:Nat,k<18446744073709551616→IntKind.u64.wrap (k:Int)=k:=fun k h=>by rw [wrap_u64_eq];unfold u64;omega
 rw [e0,w _ (by omega),w _ (by omega)];have e1:(n*256) |||c.toNat=n*256+c.toNat:=by
  have:=Nat.shiftLeft_add_eq_or_of_lt (b:=c.toNat) (i:=8) (by omega) n;rw [Nat.shiftLeft_eq] at this;exact this.symm
 have e2:∀ k:Nat,k<18446744073709551616→(BitVec.ofInt IntKind.u64.bits (k:Int)).toNat=k:=fun k h=>by rw [BitVec.toNat_ofInt];simp only [IntKind.bits];omega
 simp only [bitsOf,BitVec.toNat_or];rw [e2 _ (by omega),e2 _ (by omega),e1,w _ (by omega)]
def s64 (n:Nat):Int:=if n<9223372036854775808 then n else n - 18446744073709551616
theorem wrap_i64_eq (n:Nat) (h:n<18446744073709551616):IntKind.i64.wrap (n:Int)=s64 n:=by
 rw [IntKind.wrap_i64];unfold s64;split<;>omega
theorem s64_in (n:Nat) (h:n<18446744073709551616):InI64 (s64 n):=by unfold s64 InI64;split<;>omega
theorem beVal_be (n:Int):beVal (be n)=u64 n:=by
 have h:=u64_lt n;simp only [beVal,be,List.foldl_cons,List.foldl_nil,beAt,UInt8.toNat_ofNat'];generalize u64 n=k at h ⊢;simp only [show (256:Nat)^7=72057594037927936 from rfl,show (256:Nat)^6=281474976710656 from rfl,show (256:Nat)^5=1099511627776 from rfl,show (256:Nat)^4=4294967296 from rfl,show (256:Nat)^3=16777216 from rfl,show (256:Nat)^2=65536 from rfl,show (256:Nat)^1=256 from rfl,show (256:Nat)^0=1 from rfl]
 omega
theorem s64_be (n:Int) (h:InI64 n):s64 (beVal (be n))=n:=by
 rw [beVal_be];unfold s64 u64;unfold InI64 at h;split<;>omega
def bytesOf (xs:List UInt8):List UInt8:=be xs.length++xs
@[simp] theorem bytesOf_length (xs:List UInt8):(bytesOf xs).length=8+xs.length:=by simp [bytesOf]
end Go.Sp
end
end
section
/- Texts of this proof, one behind the other. -/
section
/- Texts of this proof. -/
namespace Go.Sp
section
variable {ro:Option Nat} {P:Program} {fn:Func} {n:Nat} {R:Ending→World→Prop} {k:List Item} {σ:List (Nat × Value)} {D:List Deferred} {g:Gr} {η ζ θ:List SProp} {ops:Array Oper} {L l:List Nat} {i d:Nat} {t e:TypeId} {x y z:Operand} {α:Type} {T:Rp α}
theorem Does.min2 {kd:IntKind} {a b:Int} (hx:ev σ x=some (.int kd a)) (hy:ev σ y=some (.int kd b)) :
  Does P (.call ⟨.builtin .min,#[x,y],#[t,t]⟩) σ g η (.int kd (if b<a then b else a)) η :=
 fun o ρ w ho hk hw=>⟨w,by
  simp [execOp,ho,hk x _ hx,hk y _ hy,resolve,invoke,builtin,Builtin.min_,Builtin.min2],hw⟩
theorem Sel.app {η ζ θ:List SProp} {A:SProp} (s:Sel η A ζ):Sel (η++θ) A (ζ++θ):=by
 induction s with
 |here=>exact .here
 |there _ ih=>exact .there ih
theorem ODg.litP {fl:Bool} {by_ len:Nat} {z:List Value} {parts:Array (Nat × Operand)} {vs:List Value} {ys:List α} (ho:Fires ops i n σ d (.buildSlice t len parts)) (hd:hdOk fl ops i l=true) (ht:P.underlying t=some (.slice e)) (he:elemIs P e T.k by_ z) (hk:0<T.k)
  (hp:partsOf σ parts.toList 0=some vs) (hlen:parts.toList.length=len) (hvs:All2 (T.rel Fr.emp) (vs.map (·.cells.toList)) ys) (h24:len*T.k≤16777216)
  (h:∀ a c,OD P fn n R ops k D g l ((d,.slice a len c)::σ) (OwnP T e (.slice a len c) ys::η)):ODx P fn n R ops k D g fl (i::l) σ η :=
 ODg.loudE (K:=fun v η' =>∃ a c,v=.slice a len c∧η' =OwnP T e v ys::η) ho rfl hd (fun _=>(DoesE.litP ht he hk hp hlen hvs h24).imp fun _ _ ⟨a,c,h1,h2⟩=>⟨_,⟨a,c,h1,rfl⟩,h2⟩)
  fun _ _ ⟨a,c,h1,h2⟩=>by subst h1;subst h2;exact h a c
theorem OD.litP {by_ len:Nat} {z:List Value} {parts:Array (Nat × Operand)} {vs:List Value} {ys:List α} (ho:Fires ops i n σ d (.buildSlice t len parts)) (hd:descOk ops [i] l=true) (ht:P.underlying t=some (.slice e)) (he:elemIs P e T.k by_ z) (hk:0<T.k) (hp:partsOf σ parts.toList 0=some vs) (hlen:parts.toList.length=len) (hvs:All2 (T.rel Fr.emp) (vs.map (·.cells.toList)) ys) (h24:len*T.k≤16777216) (h:∀ a c,OD P fn n R ops k D g l ((d,.slice a len c)::σ) (OwnP T e (.slice a len c) ys::η)):OD P fn n R ops k D g (i::l) σ η:=ODg.litP (fl:=false) ho (by simpa [hdOk] using hd) ht he hk hp hlen hvs h24 h
theorem ODt.litP {by_ len:Nat} {z:List Value} {parts:Array (Nat × Operand)} {vs:List Value} {ys:List α} (ho:Fires ops i n σ d (.buildSlice t len parts)) (_:true=true) (ht:P.underlying t=some (.slice e)) (he:elemIs P e T.k by_ z) (hk:0<T.k) (hp:partsOf σ parts.toList 0=some vs) (hlen:parts.toList.length=len) (hvs:All2 (T.rel Fr.emp) (vs.map (·.cells.toList)) ys) (h24:len*T.k≤16777216) (h:∀ a c,OD P fn n R ops k D g l ((d,.slice a len c)::σ) (OwnP T e (.slice a len c) ys::η)):ODx P fn n R ops k D g true (i::l) σ η:=ODg.litP (fl:=true) ho rfl ht he hk hp hlen hvs h24 h
theorem ODg.appendO {fl:Bool} {by_:Nat} {z:List Value} {v u:Value} {xs ys:List α} (ho:Fires ops i n σ d (.call ⟨.builtin .append,#[x,y],#[t,t]⟩)) (hd:hdOk fl ops i l=true) (ht:P.underlying t=some (.slice e)) (he:elemIs P e T.k by_ z) (hk:0<T.k) (hx:ev σ x=some v) (hy:ev σ y=some u)
  (hl:Sel η (OwnP T e u ys) θ) (hs:Sel θ (OwnP T e v xs) ζ) (hb:(xs.length+ys.length)*by_≤140737488355328) (h63:xs.length+ys.length≤9223372036854775807)
  (h:∀ a c,OD P fn n R ops k D g l ((d,.slice a (xs.length+ys.length) c)::σ) (OwnP T e (.slice a (xs.length+ys.length) c) (xs++ys)::ζ)):ODx P fn n R ops k D g fl (i::l) σ η :=
 ODg.loudE (K:=fun v' η' =>∃ a c,v' =.slice a (xs.length+ys.length) c∧η' =OwnP T e v' (xs++ys)::ζ) ho rfl hd (fun _=>(DoesE.appendO ht he hk hx hy hl.app hs.app hb h63).imp fun _ _ ⟨a,c,h1,h2⟩=>⟨_,⟨a,c,h1,rfl⟩,h2⟩)
  fun _ _ ⟨a,c,h1,h2⟩=>by subst h1;subst h2;exact h a c
theorem OD.appendO {by_:Nat} {z:List Value} {v u:Value} {xs ys:List α} (ho:Fires ops i n σ d (.call ⟨.builtin .append,#[x,y],#[t,t]⟩)) (hd:descOk ops [i] l=true) (ht:P.underlying t=some (.slice e)) (he:elemIs P e T.k by_ z) (hk:0<T.k) (hx:ev σ x=some v) (hy:ev σ y=some u) (hl:Sel η (OwnP T e u ys) θ) (hs:Sel θ (OwnP T e v xs) ζ) (hb:(xs.length+ys.length)*by_≤140737488355328) (h63:xs.length+ys.length≤9223372036854775807) (h:∀ a c,OD P fn n R ops k D g l ((d,.slice a (xs.length+ys.length) c)::σ) (OwnP T e (.slice a (xs.length+ys.length) c) (xs++ys)::ζ)):OD P fn n R ops k D g (i::l) σ η:=ODg.appendO (fl:=false) ho (by simpa [hdOk] using hd) ht he hk hx hy hl hs hb h63 h
theorem OD.slot {v v' :Value} (q:Nat) (hl:look σ q=some v) (h0:v=v') (h:OD P fn n R ops k D g L ((q,v')::σ) η):OD P fn n R ops k D g L σ η:=OD.weaken h (Sub.consE hl h0 Sub.refl)
end
end Go.Sp
end
section
/- Texts of this proof. -/
namespace Go.Sp
section ycon
variable {P:Program} {l:Nat} {args:Array Value} {r:Fr} {η:List SProp} {Post:Ending→List SProp→Prop}
end ycon
section
variable {ro:Option Nat} {P:Program} {fn:Func} {n:Nat} {R:Ending→World→Prop} {k:List Item} {σ:List (Nat × Value)} {D:List Deferred} {g:Gr} {η ζ θ:List SProp}
 {ops:Array Oper} {i d l:Nat} {ls:List Nat} {f:FuncId} {x y:Operand} {xs:Array Operand} {ts:Array TypeId} {vals:List Value} {K:Value→List SProp→Prop}
def under:List Nat→List Value→List (Nat × Value)→List (Nat × Value)
 |p::ps,v::vs,σ=>under ps vs ((p,v)::σ)
 |_,_,σ=>σ
theorem S.objIs {todo:List Item} {b:Nat} {T:TypeId} {cs cs' :List Value} (s:Sel η (obj b T cs) ζ) (e:cs=cs') (h:S ro P fn n R todo σ D g (obj b T cs' ::ζ)):S ro P fn n R todo σ D g η:=S.sel s (e ▸ h)
end
end Go.Sp
end
end
end
section
/- Texts of this proof. -/
namespace Go.Sp
open Go.ChangeShapes
theorem fr_cell (w:World) (a:Addr):Fr.cell w.fr a=w.cell? a:=by
 unfold Fr.cell World.cell? World.fr
 cases w.heap[a.block]? with
 |none=>rfl
 |some o=>cases o<;>rfl
def Rp.unit:Rp Unit:={ k:=0,rel:=fun _ cs _=>cs=[],len:=fun h=>by rw [h];rfl,mono:=fun _ h=>h,one:=fun h c hc=>by subst h;simp at hc }
def Rp.prod {α β:Type} (T:Rp α) (U:Rp β):Rp (α × β) :=
 {k:=T.k+U.k,rel:=fun h cs x=>∃ c1 c2,cs=c1++c2∧T.rel h c1 x.1∧U.rel h c2 x.2,len:=fun ⟨c1,c2,h,a,b⟩=>by rw [h,List.length_append,T.len a,U.len b]
  mono:=fun s ⟨c1,c2,h,a,b⟩=>⟨c1,c2,h,T.mono s a,U.mono s b⟩
  one:=fun ⟨c1,c2,h,a,b⟩ c hc=>by
   subst h
   rcases List.mem_append.1 hc with x|x
   ·exact T.one a c x
   ·exact U.one b c x }
def light {H:Type} (P:Program) (t:TypeId) (d:DataW H):Prop:=∀ n∈d.weights P t,n≤reachBytes
theorem light_all {H:Type} {P:Program} {e:TypeId}:∀ {ds:List (DataW H)} (_:∀ n∈DataW.weightsAll P e ds,n≤reachBytes) (i:Nat) (hi:i<ds.length),light P e ds[i]
 |d::ds,h,0,_=>fun n hn=>h n (by simp [DataW.weightsAll];exact .inl hn)
 |d::ds,h,i+1,hi=>light_all (ds:=ds) (fun n hn=>h n (by simp [DataW.weightsAll];exact .inr hn)) i (by simpa using hi)
theorem light_each {H:Type} {P:Program}:∀ {ts:List TypeId} {ds:List (DataW H)} (_:∀ n∈DataW.weightsEach P ts ds,n≤reachBytes) (i:Nat) (ht:i<ts.length) (hi:i<ds.length),light P ts[i] ds[i]
 |t::ts,d::ds,h,0,_,_=>fun n hn=>h n (by simp [DataW.weightsEach];exact .inl hn)
 |t::ts,d::ds,h,i+1,ht,hi=>light_each (ts:=ts) (ds:=ds) (fun n hn=>h n (by simp [DataW.weightsEach];exact .inr hn)) i (by simpa using ht) (by simpa using hi)
def Opens (P:Program) (t:TypeId) {α:Type} (T:Rp α) (Q:α→Prop):Prop :=
 ∀ (H:Type) (enc:TypeId × Value→H) (w:World) (base:Nat) (spare:Nat→Bool) (held:Bool) (fuel:Nat) (cs:List Value) (x:DataW H × List MemPlace),
  DataW.trod enc P w base spare held fuel t cs=some x→light P t x.1→∃ a,T.rel w.fr cs a∧Q a
def Within {α:Type} (Q:α→Prop) (xs:List α):Prop:=xs.length≤140737488351232∧∀ x∈xs,Q x
def Anyv {α:Type} (_:α):Prop:=True
theorem Opens.u8 {P:Program} {t:TypeId} (ht:P.underlying t=some (.int .u8)):Opens P t Rp.u8 Anyv:=fun _ _ _ _ _ _ _ _ _ h _=>by
 obtain ⟨n,rfl,_,hw⟩:=DataW.trod_int ht h;have:0≤n∧n≤255:=by simpa [Lit.wf,IntKind.min,IntKind.max,IntKind.wrap,IntKind.bits,IntKind.signed] using hw
 refine ⟨UInt8.ofNat n.toNat,?_,trivial⟩
 show _=_
 have e:((UInt8.ofNat n.toNat).toNat:Int)=n:=by
  have:(UInt8.ofNat n.toNat).toNat=n.toNat % 256:=by simp
  omega
 rw [byteV,e]
theorem Opens.i64 {P:Program} {t:TypeId} (ht:P.underlying t=some (.int .i64)):Opens P t Rp.i64 InI64:=fun _ _ _ _ _ _ _ _ _ h _=>by
 obtain ⟨n,rfl,_,hw⟩:=DataW.trod_int ht h;have:InI64 n:=by unfold InI64;simpa [Lit.wf,IntKind.min,IntKind.max,IntKind.wrap,IntKind.bits,IntKind.signed] using hw
 exact ⟨n,⟨rfl,this⟩,this⟩
theorem Opens.bool {P:Program} {t:TypeId} (ht:P.underlying t=some .bool):Opens P t Rp.bool Anyv:=fun _ _ _ _ _ _ _ _ _ h _=>by
 obtain ⟨n,rfl,_⟩:=DataW.trod_bool ht h;exact ⟨n,rfl,trivial⟩
theorem str_data (s:ByteArray):str s.data.toList=s:=by cases s;rfl
theorem Opens.str {P:Program} {t:TypeId} (ht:P.underlying t=some .string):Opens P t Rp.str (fun s=>s.length≤140737488351232):=fun _ _ _ _ _ _ _ _ _ h hl=>by
 obtain ⟨s,rfl,rfl,hs⟩:=DataW.trod_string ht h;exact ⟨s.data.toList,⟨by rw [str_data],by unfold maxLen at hs;rw [Array.length_toList];exact Nat.le_trans hs (by decide)⟩,hl _ (by simp [DataW.weights])⟩
theorem choose_list {α:Type} {p:Nat→α→Prop}:∀ {n:Nat} (_:∀ i,i<n→∃ x,p i x),∃ l:List α,l.length=n∧∀ i (hi:i<l.length),p i l[i]
 |0,_=>⟨[],rfl,fun i hi=>absurd hi (by simp)⟩
 |n+1,h=>by
  obtain ⟨l,h1,h2⟩:=choose_list (n:=n) (fun i hi=>h i (by omega));obtain ⟨x,hx⟩:=h n (by omega);refine ⟨l++[x],by simp [h1],fun i hi=>?_⟩
  by_cases hi' :i<l.length
  ·rw [List.getElem_append_left hi'];exact h2 i hi'
  ·have:i=n:=by simp at hi;omega
   subst this;rw [List.getElem_append_right (by omega)];simpa using hx
theorem All2.of_get {α β:Type} {R:β→α→Prop}:∀ {bs:List β} {as:List α},bs.length=as.length→(∀ i (hb:i<bs.length) (ha:i<as.length),R bs[i] as[i])→All2 R bs as
 |[],[],_,_=>trivial
 |_::_,[],h,_=>by simp at h
 |[],_::_,h,_=>by simp at h
 |b::bs,a::as,h,hr=>⟨hr 0 (by simp) (by simp),All2.of_get (by simpa using h) fun i hb ha=>hr (i+1) (by simp;omega) (by simp;omega)⟩
theorem flat_len_k {α:Type} {k:Nat}:∀ {css:List (List α)},(∀ c∈css,c.length=k)→css.flatten.length=css.length*k
 |[],_=>by simp
 |c::css,h=>by
  rw [List.flatten_cons,List.length_append,flat_len_k (fun d hd=>h d (by simp [hd])),h c (by simp)];simp [Nat.succ_mul];omega
theorem flat_get_k {α:Type} {k:Nat} (hk:0<k):∀ {css:List (List α)} (_:∀ c∈css,c.length=k) (j:Nat),css.flatten[j]?=(css[j / k]?).bind fun c=>c[j % k]?
 |[],_,j=>by simp
 |c::css,h,j=>by
  have hc:=h c (by simp)
  by_cases hj:j<k
  ·rw [List.flatten_cons,List.getElem?_append_left (by omega),Nat.div_eq_of_lt hj,Nat.mod_eq_of_lt hj];simp
  ·have hj' :k≤j:=by omega
   rw [List.flatten_cons,List.getElem?_append_right (by omega),hc,flat_get_k hk (fun d hd=>h d (by simp [hd]))];have e1:j / k=(j - k) / k+1:=by rw [Nat.div_eq_sub_div hk hj']
   have e2:j % k=(j - k) % k:=by rw [Nat.mod_eq_sub_mod hj']
   rw [e1,e2];simp
theorem Opens.slice {P:Program} {t e:TypeId} {α:Type} {T:Rp α} {Q:α→Prop} (ho:Opens P e T Q) (ht:P.underlying t=some (.slice e)) (hc:P.cellsOf e=T.k) (hy:0<P.bytesOf e) (hk:0<T.k):Opens P t (Rp.slice T) (Within Q):=fun H enc w base spare held fuel cs x h hlt=>by
 rcases DataW.trod_slice ht h with ⟨rfl,_⟩|⟨a,len,cap,elems,rest,n,_,rfl,rfl,hb,hl,hm,hlen,hel,_,_⟩
 ·exact ⟨[],⟨_,rfl,Arr.nil⟩,by simp,by simp⟩
 have hw:len*P.bytesOf e≤reachBytes∧∀ n∈DataW.weightsAll P e (elems.map (·.1)),n≤reachBytes:=by
  unfold light at hlt;simp only [DataW.weights,ht,List.length_map,List.mem_cons,List.mem_append] at hlt;exact ⟨Nat.le_trans (Nat.mul_le_mul_right _ (by omega)) (hlt _ (.inl rfl)),fun n hn=>hlt n (.inr (.inl hn))⟩
 have hlen2:len≤140737488351232:=by
  have:=Nat.le_trans (Nat.le_mul_of_pos_right len hy) hw.1;unfold reachBytes at this;omega
 have each:∀ i,i<len→∃ y:List Value × α,y.1.length=T.k∧(T.rel w.fr y.1 y.2∧Q y.2)∧∀ q,q<T.k→w.cell? ((a.add (i*T.k)).add q)=y.1[q]?:=by
  intro i hi
  have h1:=hel i hi;rw [List.getElem?_eq_getElem (by omega),hc,Option.bind_eq_some_iff] at h1;obtain ⟨ds,h2,h3⟩:=h1;obtain ⟨b,hb⟩:=ho _ enc w base spare held n ds _ h3 (by have h9:=light_all hw.2 i (by simp;omega);rw [List.getElem_map] at h9;exact h9);obtain ⟨_,h4,h5⟩:=World.cells?_some h2;exact ⟨(ds,b),h4,hb,h5⟩
 obtain ⟨l,h1,h2⟩:=choose_list each;have hQ:Within Q (l.map (·.2)):=by
  refine ⟨by simp;omega,fun y hy=>?_⟩;obtain ⟨z,hz,rfl⟩:=List.mem_map.1 hy;obtain ⟨i,hi,rfl⟩:=List.mem_iff_getElem.1 hz;exact (h2 i hi).2.1.2
 refine ⟨l.map (·.2),⟨_,rfl,l.map (·.1),?_,some a,cap,?_,?_,⟨?_,fun h=>by cases h⟩,?_,?_⟩,hQ⟩
 ·refine All2.of_get (by simp) fun i hb ha=>?_
  simp only [List.getElem_map];exact (h2 i (by simpa using hb)).2.1.1
 ·simp [h1]
 ·simp [h1];omega
 ·simpa [maxLen] using hm
 ·rw [flat_len_k (k:=T.k)]
  ·simp
  ·intro c hc
   obtain ⟨y,hy,rfl⟩:=List.mem_map.1 hc;obtain ⟨i,hi,rfl⟩:=List.mem_iff_getElem.1 hy;exact (h2 i hi).1
 ·intro j hj
  refine ⟨a,rfl,?_⟩;have hall:∀ c∈l.map (·.1),c.length=T.k:=by
   intro c hc
   obtain ⟨y,hy,rfl⟩:=List.mem_map.1 hc;obtain ⟨i,hi,rfl⟩:=List.mem_iff_getElem.1 hy;exact (h2 i hi).1
  rw [fr_cell,← List.getElem?_eq_getElem hj,flat_get_k hk hall];have hj2:j<l.length*T.k:=by rw [flat_len_k hall] at hj;simpa using hj
  have hi:j / T.k<l.length:=by rw [Nat.div_lt_iff_lt_mul hk];exact hj2
  have hq:j % T.k<T.k:=Nat.mod_lt _ hk;have:=(h2 _ hi).2.2 _ hq;rw [Addr.add_add,show j / T.k*T.k+j % T.k=j from by rw [Nat.mul_comm];exact Nat.div_add_mod j T.k] at this;rw [this]
  simp [List.getElem?_eq_getElem hi]
theorem Opens.arr {P:Program} {t:TypeId} {α:Type} {T:Rp α} {Q:List α→Prop} (ho:Opens P t (Rp.slice T) Q) {H:Type} {enc:TypeId × Value→H} {w:World} {base:Nat} {spare:Nat→Bool} {held:Bool} {fuel:Nat} {v:Value} {x:DataW H × List MemPlace}
  (h:DataW.trod enc P w base spare held fuel t [v]=some x) (hl:light P t x.1):∃ a,Arr T w.fr v a∧Q a:=by
 obtain ⟨a,⟨u,h1,h2⟩,hq⟩:=ho _ enc w base spare held fuel _ x h hl
 cases h1
 exact ⟨a,h2,hq⟩
def OpensF (P:Program) (fs:List Field) (off:Nat) {α:Type} (T:Rp α) (Q:α→Prop):Prop :=
 ∀ (H:Type) (enc:TypeId × Value→H) (w:World) (base:Nat) (spare:Nat→Bool) (held:Bool) (fuel:Nat) (cs:List Value),
  (∀ f∈fs,∃ x,DataW.trod enc P w base spare held fuel f.type ((cs.drop f.offset).take (P.cellsOf f.type))=some x∧light P f.type x.1)→cs.length=off+T.k→∃ a,T.rel w.fr (cs.drop off) a∧Q a
theorem OpensF.nil {P:Program} {off:Nat}:OpensF P [] off Rp.unit Anyv:=fun _ _ _ _ _ _ _ cs _ h=>⟨(),by show cs.drop off=[];rw [List.drop_eq_nil_of_le];simp [Rp.unit] at h;omega,trivial⟩
theorem OpensF.cons {P:Program} {f:Field} {fs:List Field} {off:Nat} {α β:Type} {T:Rp α} {U:Rp β} {Q:α→Prop} {R:β→Prop} (ho:f.offset=off) (hc:P.cellsOf f.type=T.k) (h1:Opens P f.type T Q) (h2:OpensF P fs (off+T.k) U R):OpensF P (f::fs) off (Rp.prod T U) (fun x=>Q x.1∧R x.2) :=
 fun H enc w base spare held fuel cs h hl=>by
  obtain ⟨x,hx,hx'⟩:=h f (by simp);rw [ho,hc] at hx;obtain ⟨a,ha,qa⟩:=h1 _ _ _ _ _ _ _ _ _ hx hx';obtain ⟨b,hb,qb⟩:=h2 _ enc w base spare held fuel cs (fun g hg=>h g (by simp [hg])) (by rw [hl];simp [Rp.prod];omega);exact ⟨(a,b),⟨_,_,(by rw [← List.drop_drop,List.take_append_drop]:cs.drop off=(cs.drop off).take T.k++cs.drop (off+T.k)),ha,hb⟩,qa,qb⟩
theorem Opens.struct {P:Program} {t:TypeId} {fs:List Field} {α:Type} {T:Rp α} {Q:α→Prop} (ho:OpensF P fs 0 T Q) (ht:P.underlying t=some (.struct fs.toArray)) (hc:P.cellsOf t=T.k):Opens P t T Q:=fun H enc w base spare held fuel cs x h hlt=>by
 obtain ⟨xs,n,_,rfl,hl,hn,hf⟩:=DataW.trod_struct ht h;unfold light at hlt;simp only [DataW.weights,ht] at hlt;have:=ho _ enc w base spare held n cs (fun f hf' =>by
  obtain ⟨i,hi,rfl⟩:=List.mem_iff_getElem.1 hf';have:=hf i fs[i] (by simp [hi]);have hi2:i<xs.length:=by simp at hn;omega
  rw [List.getElem?_eq_getElem hi2] at this;refine ⟨_,by simpa using this,?_⟩;have:=light_each hlt i (by simpa using hi) (by simpa using hi2)
  simpa using this) (by rw [hl,hc];simp)
 simpa using this
end Go.Sp
end
end
section
/- Texts of this proof, one behind the other. -/
section
/- Texts of this proof, one behind the other. -/
section
/- Texts of this proof. -/
namespace Go.Sp
structure Gp (α:Type) where
 rp:Rp α
 own:List Value→α→SProp
 rel:∀ {cs:List Value} {a:α} {m:Fr},own cs a m→rp.rel m cs a
theorem All2.len2 {α β:Type} {R:β→α→Prop}:∀ {bs:List β} {as:List α},All2 R bs as→bs.length=as.length
 |[],[],_=>rfl
 |[],_::_,h=>h.elim
 |_::_,[],h=>h.elim
 |_::_,_::_,h=>congrArg Nat.succ (All2.len2 h.2)
theorem all2_cells {k:Nat} {h:Fr}:∀ {cs:List (List Value)} {ds:List (List Value)},All2 ((Rp.cells k).rel h) cs ds→cs=ds
 |[],[],_=>rfl
 |[],_::_,h=>h.elim
 |_::_,[],h=>h.elim
 |_::_,_::_,h=>by rw [h.1.1,all2_cells h.2]
theorem Arr.ofCells {α:Type} {T:Rp α} {k:Nat} {h:Fr} {v:Value} {css:List (List Value)} {xs:List α} (h1:Arr (Rp.cells k) h v css) (h2:All2 (T.rel h) css xs) (hk:k=T.k):Arr T h v xs:=by
 obtain ⟨ds,p,q⟩:=h1;obtain rfl:=all2_cells p;subst hk;exact ⟨ds,h2,by rw [← h2.len2];exact q⟩
def ListP {α:Type} (G:Gp α) (e:TypeId) (v:Value) (xs:List α):SProp:=fun m=>∃ css,Sat [OwnP (Rp.cells G.rp.k) e v css,EachP G.own css xs] m
theorem ListP.arr {α:Type} {G:Gp α} {e:TypeId} {v:Value} {xs:List α} {m:Fr}:ListP G e v xs m→Arr G.rp m v xs:=by
 rintro ⟨css,h1,h2,_,s1,s2,⟨ds,p,q⟩,h3,_,_,t,_,y,_⟩;have hd:=all2_cells p;have hy:=EachP.all2 (R:=fun cs a=>G.rp.rel m cs a) (k:=m) (fun b a m' z s=>G.rp.mono s (G.rel z)) y (Fr.sub_trans t s2);refine ⟨css,hy,?_⟩;rw [← hy.len2];subst hd;exact (q.sl).mono s1
def Gp.pure {α:Type} (T:Rp α):Gp α:={ rp:=T,own:=fun cs a _=>T.rel Fr.emp cs a,rel:=fun h=>T.mono (Fr.emp_sub _) h }
def Gp.row {α:Type} (T:Rp α) (e:TypeId):Gp (List α):={ rp:=Rp.slice T,own:=fun cs xs m=>∃ v,cs=[v]∧OwnP T e v xs m,rel:=fun ⟨v,h,x⟩=>⟨v,h,x.arr⟩ }
def Gp.prod {α β:Type} (A:Gp α) (B:Gp β):Gp (α × β) :=
 {rp:=Rp.prod A.rp B.rp,own:=fun cs x m=>∃ c d,cs=c++d∧Sat [A.own c x.1,B.own d x.2] m
  rel:=fun ⟨c,d,h,z⟩=>by
   obtain ⟨h1,h2,_,s1,s2,p,q⟩:=Sat.two.1 z;obtain ⟨h3,t,u⟩:=q;exact ⟨c,d,h,A.rp.mono s1 (A.rel p),B.rp.mono (Fr.sub_trans t s2) (B.rel u)⟩ }
def Gp.unit:Gp Unit:={ rp:=Rp.unit,own:=fun cs _ _=>cs=[],rel:=fun h=>h }
theorem Gp.own_pure_prod {α β:Type} {T:Rp α} {B:Gp β} {c d:List Value} {x:α} {y:β} {m:Fr} (h:T.rel Fr.emp c x) (h2:B.own d y m):(Gp.prod (Gp.pure T) B).own (c++d) (x,y) m :=
 ⟨c,d,rfl,Fr.emp,m,Fr.emp_disj _,Fr.emp_sub _,Fr.sub_refl _,h,m,Fr.emp,Fr.disj_symm (Fr.emp_disj _),Fr.sub_refl _,Fr.emp_sub _,h2,trivial⟩
section
variable {ro:Option Nat} {P:Program} {fn:Func} {n:Nat} {R:Ending→World→Prop} {k:List Item} {σ:List (Nat × Value)} {D:List Deferred} {g:Gr} {η ζ θ:List SProp} {ops:Array Oper} {L:List Nat} {todo:List Item}
 {α:Type} {G:Gp α} {e:TypeId} {v:Value} {xs:List α}
theorem sat_listNil {m:Fr} (h:Sat η m):Sat (ListP G e (.slice none 0 0) []::η) m:=by
 refine ⟨Fr.emp,m,Fr.emp_disj _,Fr.emp_sub _,Fr.sub_refl _,⟨[],Fr.emp,Fr.emp,Fr.emp_disj _,Fr.emp_sub _,Fr.emp_sub _,?_,Fr.emp,Fr.emp,Fr.emp_disj _,Fr.emp_sub _,Fr.emp_sub _,trivial,trivial⟩,h⟩;exact ownP_nil _
theorem S.listNil (G:Gp α) (e:TypeId) (h:S ro P fn n R todo σ D g (ListP G e (.slice none 0 0) []::η)):S ro P fn n R todo σ D g η:=S.imp' (fun _=>sat_listNil) h
theorem S.listOpen {k' :Nat} (hk:G.rp.k=k') (s:Sel η (ListP G e v xs) ζ) (h:∀ css,css.length=xs.length→S ro P fn n R todo σ D g (OwnP (Rp.cells k') e v css::EachP G.own css xs::ζ)):S ro P fn n R todo σ D g η:=by
 subst hk;exact S.sel s (S.exi (A:=fun css m=>Sat [OwnP (Rp.cells G.rp.k) e v css,EachP G.own css xs] m) fun css =>
  S.entail (fun _ x=>x) (S.factS (B:=EachP G.own css xs) (.there .here) (p:=css.length=xs.length) (fun _ x=>x.len) fun hl=>h css hl))
theorem sat_list {k' :Nat} (hk:G.rp.k=k') {css:List (List Value)} (s1:Sel η (OwnP (Rp.cells k') e v css) ζ) (s2:Sel ζ (EachP G.own css xs) θ) {m:Fr} (h:Sat η m):Sat (ListP G e v xs::θ) m:=by
 subst hk;exact Sat.join2 (A:=OwnP (Rp.cells G.rp.k) e v css) (B:=EachP G.own css xs) (fun _ x=>⟨css,x⟩) (Sat.cons_imp (fun _ y=>y) (fun _ y=>Sat.perm s2.perm y) (Sat.perm s1.perm h))
theorem S.listShut {k' :Nat} (hk:G.rp.k=k') {css:List (List Value)} (s1:Sel η (OwnP (Rp.cells k') e v css) ζ) (s2:Sel ζ (EachP G.own css xs) θ) (h:S ro P fn n R todo σ D g (ListP G e v xs::θ)):S ro P fn n R todo σ D g η :=
 S.imp' (fun _=>sat_list hk s1 s2) h
theorem S.listPut {k' :Nat} (hk:G.rp.k=k') {css:List (List Value)} {cs:List Value} {a:α} {η₁ η₂:List SProp} (s1:Sel η (OwnP (Rp.cells k') e v (css++[cs])) ζ) (s2:Sel ζ (EachP G.own css xs) η₁) (s3:Sel η₁ (G.own cs a) η₂) (h:S ro P fn n R todo σ D g (ListP G e v (xs++[a])::η₂)):S ro P fn n R todo σ D g η :=
 S.sel s1 (S.each (.there s2) (.there s3) (S.listShut hk (.there .here) .here h))
theorem S.frzG {T:Rp α} (hT:G.rp=T) (s:Sel η (ListP G e v xs) ζ) (h:∀ g' :Gr,g.h.sub g'.h→(∀ w ζ,Holds w g' ζ→Holds w g ζ)→Arr T g'.h v xs→S ro P fn n R todo σ D g' ζ):S ro P fn n R todo σ D g η :=
 S.frz s fun g' h1 h2 ⟨_,h3,h4⟩=>h g' h1 h2 (hT ▸ h3.arr.mono h4)
end
theorem Con.post {P:Program} {f:FuncId} {args:Array Value} {r:Fr} {η:List SProp} {Post Post' :Ending→List SProp→Prop} (h:Con P f args r η Post) (hp:∀ e η',Post e η' →∀ w g,Holds w g η' →∃ η'',Post' e η'' ∧Holds w g η''):Con P f args r η Post' :=
 fun g hr w hw=>(h g hr w hw).mono fun e w' ⟨η',x,y⟩=>hp e η' x w' g y
theorem Ret.imp {K K' :Value→List SProp→Prop} (h:∀ v η,K v η→K' v η):∀ e η,Ret K e η→Ret K' e η
 |.returned v,η,x=>h v η x
 |.panicked _,_,x=>x.elim
 |.outgrown,_,x=>x.elim
theorem Holds.exi {w:World} {g:Gr} {ζ:List SProp} {α:Type} {A:α→SProp} (h:Holds w g ((fun m=>∃ x,A x m)::ζ)):∃ x,Holds w g (A x::ζ):=by
 obtain ⟨p,q,rr,k,d,s1,s2,k1,k2,kd,t1,t2,⟨x,hx⟩,y⟩:=h;exact ⟨x,p,q,rr,k,d,s1,s2,k1,k2,kd,t1,t2,hx,y⟩
end Go.Sp
end
section
/- Texts of this proof, one behind the other. -/
section
/- Texts of this proof. -/
namespace Go.Sp
section marks
variable {α:Type} (f:Int→Int→α)
def mkL (k n:Nat):List α:=(List.range n).map fun (i:Nat)=>f (k:Int) (i:Int)
@[simp] theorem mkL_length (k n:Nat):(mkL f k n).length=n:=by simp [mkL]
def mkX (k n i:Nat):List α:=(List.range i).map fun (q:Nat)=>f (k:Int) ((n:Int)+(q:Int))
@[simp] theorem mkX_length (k n i:Nat):(mkX f k n i).length=i:=by simp [mkX]
def mkM (j n i:Nat):List α:=(List.range i).map fun (q:Nat)=>f ((j:Int)+(n:Int)) (q:Int)
@[simp] theorem mkM_length (j n i:Nat):(mkM f j n i).length=i:=by simp [mkM]
def mkAll (ns:List Nat) (k:Nat):List (List α):=(List.range k).map fun j=>mkL f j (ns[j]?.getD 0)
@[simp] theorem mkAll_length (ns:List Nat) (k:Nat):(mkAll f ns k).length=k:=by simp [mkAll]
end marks
section
variable {ro:Option Nat} {P:Program} {fn:Func} {n:Nat} {R:Ending→World→Prop} {todo:List Item} {σ:List (Nat × Value)} {D:List Deferred} {g:Gr} {η ζ θ ξ:List SProp} {α:Type} {T:Rp α} {K:Nat} {e:TypeId} {v u:Value} {xs ys:List α}
end
end Go.Sp
end
section
/- Texts of this proof. -/
namespace Go.Sp
theorem Rp.rel.mono {α:Type} {T:Rp α} {h k:Fr} {cs:List Value} {x:α} (r:T.rel h cs x) (s:h.sub k):T.rel k cs x:=T.mono s r
def mks {α:Type} (f:Int→α) (n:Nat):List α:=(List.range n).map fun (i:Nat)=>f (i:Int)
@[simp] theorem mks_length {α:Type} (f:Int→α) (n:Nat):(mks f n).length=n:=by simp [mks]
end Go.Sp
end
end
end
section
/- Texts of this proof. -/
set_option linter.unusedVariables false
namespace Go.Sp
structure Tys where
 u8:TypeId
 int:TypeId
 bytes:TypeId
 dot:TypeId
 recd:TypeId
 leaf:TypeId
 stub:TypeId
 node:TypeId
 prf:TypeId
 root:TypeId
 evd:TypeId
 frm:TypeId
 held:TypeId
def byteOf (z:Int):UInt8:=UInt8.ofNat (z % 256).toNat
def markZ (k i:Int):Int:=1000003*(k+7)+i
def markB (k i:Int):UInt8:=byteOf ((IntKind.u64.wrap (IntKind.u64.wrap (markZ k i)*11400714819323198485)).fdiv (2 ^ min (56:Int).toNat IntKind.u64.bits))
def markT (k i:Int):List UInt8:=[35,byteOf k,byteOf (k.fdiv (2 ^ min (8:Int).toNat IntKind.i64.bits)),byteOf (k.fdiv (2 ^ min (16:Int).toNat IntKind.i64.bits)),47,byteOf i,byteOf (i.fdiv (2 ^ min (8:Int).toNat IntKind.i64.bits)),byteOf (i.fdiv (2 ^ min (16:Int).toNat IntKind.i64.bits))]
@[simp] theorem markT_length (k i:Int):(markT k i).length=8:=rfl
abbrev DotT:Type:=Int × Int × Unit
abbrev DotRp:Rp DotT:=Rp.prod Rp.i64 (Rp.prod Rp.i64 (Rp.unit))
theorem DotRp.open {h:Fr} {cs:List Value} {x:DotT} (r:DotRp.rel h cs x):cs=[.int .i64 x.1,.int .i64 x.2.1]∧InI64 x.1∧InI64 x.2.1:=by
 obtain ⟨c0,d0,rfl,r0,r⟩:=r;obtain ⟨c1,d1,rfl,r1,r⟩:=r;obtain rfl:d1=[]:=r;obtain ⟨rfl,h0⟩:=r0;obtain ⟨rfl,h1⟩:=r1;exact ⟨rfl,h0,h1⟩
theorem DotRp.mk {h:Fr} {x0:Int} {x1:Int} (h0:InI64 x0) (h1:InI64 x1):DotRp.rel h [.int .i64 x0,.int .i64 x1] (x0,x1,()) :=
 ⟨[.int .i64 x0],[.int .i64 x1],rfl,⟨rfl,h0⟩,⟨[.int .i64 x1],[],rfl,⟨rfl,h1⟩,rfl⟩⟩
abbrev RecT:Type:=(List UInt8) × Int × Int × (List DotT) × Bool × (List UInt8) × (List UInt8) × Unit
abbrev RecRp:Rp RecT:=Rp.prod Rp.str (Rp.prod Rp.i64 (Rp.prod Rp.i64 (Rp.prod (Rp.slice DotRp) (Rp.prod Rp.bool (Rp.prod (Rp.slice Rp.u8) (Rp.prod (Rp.slice Rp.u8) (Rp.unit)))))))
theorem RecRp.open {h:Fr} {cs:List Value} {x:RecT} (r:RecRp.rel h cs x):∃ v3 v5 v6,cs=[.string (str x.1),.int .i64 x.2.1,.int .i64 x.2.2.1,v3,.bool x.2.2.2.2.1,v5,v6]∧x.1.length≤9223372036854775807∧InI64 x.2.1∧InI64 x.2.2.1∧Arr DotRp h v3 x.2.2.2.1∧Arr Rp.u8 h v5 x.2.2.2.2.2.1∧Arr Rp.u8 h v6 x.2.2.2.2.2.2.1:=by
 obtain ⟨c0,d0,rfl,r0,r⟩:=r;obtain ⟨c1,d1,rfl,r1,r⟩:=r;obtain ⟨c2,d2,rfl,r2,r⟩:=r;obtain ⟨c3,d3,rfl,r3,r⟩:=r;obtain ⟨c4,d4,rfl,r4,r⟩:=r;obtain ⟨c5,d5,rfl,r5,r⟩:=r;obtain ⟨c6,d6,rfl,r6,r⟩:=r;obtain rfl:d6=[]:=r;obtain ⟨rfl,h0⟩:=r0;obtain ⟨rfl,h1⟩:=r1;obtain ⟨rfl,h2⟩:=r2;obtain ⟨v3,rfl,h3⟩:=r3;obtain rfl:c4=[.bool x.2.2.2.2.1]:=r4;obtain ⟨v5,rfl,h5⟩:=r5;obtain ⟨v6,rfl,h6⟩:=r6;exact ⟨v3,v5,v6,rfl,h0,h1,h2,h3,h5,h6⟩
theorem RecRp.sh {h:Fr} {cs:List Value} {x:RecT} (r:RecRp.rel h cs x):∃ a3 a5 a6 c3 c5 c6,cs=[.string (str x.1),.int .i64 x.2.1,.int .i64 x.2.2.1,.slice a3 x.2.2.2.1.length c3,.bool x.2.2.2.2.1,.slice a5 x.2.2.2.2.2.1.length c5,.slice a6 x.2.2.2.2.2.2.1.length c6]∧x.1.length≤9223372036854775807∧InI64 x.2.1∧InI64 x.2.2.1∧Arr DotRp h (.slice a3 x.2.2.2.1.length c3) x.2.2.2.1∧Arr Rp.u8 h (.slice a5 x.2.2.2.2.2.1.length c5) x.2.2.2.2.2.1∧Arr Rp.u8 h (.slice a6 x.2.2.2.2.2.2.1.length c6) x.2.2.2.2.2.2.1:=by
 obtain ⟨v3,v5,v6,rfl,h0,h1,h2,h3,h5,h6⟩:=RecRp.open r;obtain ⟨a3,c3,rfl⟩:=h3.shape;obtain ⟨a5,c5,rfl⟩:=h5.shape;obtain ⟨a6,c6,rfl⟩:=h6.shape;exact ⟨a3,a5,a6,c3,c5,c6,rfl,h0,h1,h2,h3,h5,h6⟩
theorem RecRp.mk {h:Fr} {x0:List UInt8} {x1:Int} {x2:Int} {x3:List DotT} {v3:Value} {x4:Bool} {x5:List UInt8} {v5:Value} {x6:List UInt8} {v6:Value} (h0:x0.length≤9223372036854775807) (h1:InI64 x1) (h2:InI64 x2) (h3:Arr DotRp h v3 x3) (h5:Arr Rp.u8 h v5 x5) (h6:Arr Rp.u8 h v6 x6):RecRp.rel h [.string (str x0),.int .i64 x1,.int .i64 x2,v3,.bool x4,v5,v6] (x0,x1,x2,x3,x4,x5,x6,()) :=
 ⟨[.string (str x0)],[.int .i64 x1,.int .i64 x2,v3,.bool x4,v5,v6],rfl,⟨rfl,h0⟩,⟨[.int .i64 x1],[.int .i64 x2,v3,.bool x4,v5,v6],rfl,⟨rfl,h1⟩,⟨[.int .i64 x2],[v3,.bool x4,v5,v6],rfl,⟨rfl,h2⟩,⟨[v3],[.bool x4,v5,v6],rfl,⟨v3,rfl,h3⟩,⟨[.bool x4],[v5,v6],rfl,rfl,⟨[v5],[v6],rfl,⟨v5,rfl,h5⟩,⟨[v6],[],rfl,⟨v6,rfl,h6⟩,rfl⟩⟩⟩⟩⟩⟩⟩
abbrev RecG (τ:Tys):Gp RecT:=Gp.prod (Gp.pure Rp.str) (Gp.prod (Gp.pure Rp.i64) (Gp.prod (Gp.pure Rp.i64) (Gp.prod (Gp.row DotRp τ.dot) (Gp.prod (Gp.pure Rp.bool) (Gp.prod (Gp.row Rp.u8 τ.u8) (Gp.prod (Gp.row Rp.u8 τ.u8) (Gp.unit)))))))
theorem RecG.mk7 {τ:Tys} {m:Fr}   (s:Sat [] m):(Gp.unit).own [] () m:=by
 exact rfl
theorem RecG.mk6 {τ:Tys} {m:Fr} {x6:List UInt8} {v6:Value}  (s:Sat [OwnP Rp.u8 τ.u8 v6 x6] m):(Gp.prod (Gp.row Rp.u8 τ.u8) (Gp.unit)).own [v6] (x6,()) m:=by
 obtain ⟨k1,k2,dj,s1,s2,o,st⟩:=s;exact ⟨[v6],[],rfl,k1,k2,dj,s1,s2,⟨v6,rfl,o⟩,k2,Fr.emp,Fr.disj_symm (Fr.emp_disj _),Fr.sub_refl _,Fr.emp_sub _,RecG.mk7 (τ:=τ)  st,trivial⟩
theorem RecG.mk5 {τ:Tys} {m:Fr} {x5:List UInt8} {v5:Value} {x6:List UInt8} {v6:Value}  (s:Sat [OwnP Rp.u8 τ.u8 v5 x5,OwnP Rp.u8 τ.u8 v6 x6] m):(Gp.prod (Gp.row Rp.u8 τ.u8) (Gp.prod (Gp.row Rp.u8 τ.u8) (Gp.unit))).own [v5,v6] (x5,x6,()) m:=by
 obtain ⟨k1,k2,dj,s1,s2,o,st⟩:=s;exact ⟨[v5],[v6],rfl,k1,k2,dj,s1,s2,⟨v5,rfl,o⟩,k2,Fr.emp,Fr.disj_symm (Fr.emp_disj _),Fr.sub_refl _,Fr.emp_sub _,RecG.mk6 (τ:=τ)  st,trivial⟩
theorem RecG.mk4 {τ:Tys} {m:Fr} {x4:Bool} {x5:List UInt8} {v5:Value} {x6:List UInt8} {v6:Value}  (s:Sat [OwnP Rp.u8 τ.u8 v5 x5,OwnP Rp.u8 τ.u8 v6 x6] m):(Gp.prod (Gp.pure Rp.bool) (Gp.prod (Gp.row Rp.u8 τ.u8) (Gp.prod (Gp.row Rp.u8 τ.u8) (Gp.unit)))).own [.bool x4,v5,v6] (x4,x5,x6,()) m:=by
 exact Gp.own_pure_prod (T:=Rp.bool) (c:=[.bool x4]) rfl (RecG.mk5 (τ:=τ)  s)
theorem RecG.mk3 {τ:Tys} {m:Fr} {x3:List DotT} {v3:Value} {x4:Bool} {x5:List UInt8} {v5:Value} {x6:List UInt8} {v6:Value}  (s:Sat [OwnP DotRp τ.dot v3 x3,OwnP Rp.u8 τ.u8 v5 x5,OwnP Rp.u8 τ.u8 v6 x6] m):(Gp.prod (Gp.row DotRp τ.dot) (Gp.prod (Gp.pure Rp.bool) (Gp.prod (Gp.row Rp.u8 τ.u8) (Gp.prod (Gp.row Rp.u8 τ.u8) (Gp.unit))))).own [v3,.bool x4,v5,v6] (x3,x4,x5,x6,()) m:=by
 obtain ⟨k1,k2,dj,s1,s2,o,st⟩:=s;exact ⟨[v3],[.bool x4,v5,v6],rfl,k1,k2,dj,s1,s2,⟨v3,rfl,o⟩,k2,Fr.emp,Fr.disj_symm (Fr.emp_disj _),Fr.sub_refl _,Fr.emp_sub _,RecG.mk4 (τ:=τ)  st,trivial⟩
theorem RecG.mk2 {τ:Tys} {m:Fr} {x2:Int} {x3:List DotT} {v3:Value} {x4:Bool} {x5:List UInt8} {v5:Value} {x6:List UInt8} {v6:Value} (h2:InI64 x2) (s:Sat [OwnP DotRp τ.dot v3 x3,OwnP Rp.u8 τ.u8 v5 x5,OwnP Rp.u8 τ.u8 v6 x6] m):(Gp.prod (Gp.pure Rp.i64) (Gp.prod (Gp.row DotRp τ.dot) (Gp.prod (Gp.pure Rp.bool) (Gp.prod (Gp.row Rp.u8 τ.u8) (Gp.prod (Gp.row Rp.u8 τ.u8) (Gp.unit)))))).own [.int .i64 x2,v3,.bool x4,v5,v6] (x2,x3,x4,x5,x6,()) m:=by
 exact Gp.own_pure_prod (T:=Rp.i64) (c:=[.int .i64 x2]) ⟨rfl,h2⟩ (RecG.mk3 (τ:=τ)  s)
theorem RecG.mk1 {τ:Tys} {m:Fr} {x1:Int} {x2:Int} {x3:List DotT} {v3:Value} {x4:Bool} {x5:List UInt8} {v5:Value} {x6:List UInt8} {v6:Value} (h1:InI64 x1) (h2:InI64 x2) (s:Sat [OwnP DotRp τ.dot v3 x3,OwnP Rp.u8 τ.u8 v5 x5,OwnP Rp.u8 τ.u8 v6 x6] m):(Gp.prod (Gp.pure Rp.i64) (Gp.prod (Gp.pure Rp.i64) (Gp.prod (Gp.row DotRp τ.dot) (Gp.prod (Gp.pure Rp.bool) (Gp.prod (Gp.row Rp.u8 τ.u8) (Gp.prod (Gp.row Rp.u8 τ.u8) (Gp.unit))))))).own [.int .i64 x1,.int .i64 x2,v3,.bool x4,v5,v6] (x1,x2,x3,x4,x5,x6,()) m:=by
 exact Gp.own_pure_prod (T:=Rp.i64) (c:=[.int .i64 x1]) ⟨rfl,h1⟩ (RecG.mk2 (τ:=τ) h2 s)
theorem RecG.mk {τ:Tys} {m:Fr} {x0:List UInt8} {x1:Int} {x2:Int} {x3:List DotT} {v3:Value} {x4:Bool} {x5:List UInt8} {v5:Value} {x6:List UInt8} {v6:Value} (h0:x0.length≤9223372036854775807) (h1:InI64 x1) (h2:InI64 x2) (s:Sat [OwnP DotRp τ.dot v3 x3,OwnP Rp.u8 τ.u8 v5 x5,OwnP Rp.u8 τ.u8 v6 x6] m):(Gp.prod (Gp.pure Rp.str) (Gp.prod (Gp.pure Rp.i64) (Gp.prod (Gp.pure Rp.i64) (Gp.prod (Gp.row DotRp τ.dot) (Gp.prod (Gp.pure Rp.bool) (Gp.prod (Gp.row Rp.u8 τ.u8) (Gp.prod (Gp.row Rp.u8 τ.u8) (Gp.unit)))))))).own [.string (str x0),.int .i64 x1,.int .i64 x2,v3,.bool x4,v5,v6] (x0,x1,x2,x3,x4,x5,x6,()) m:=by
 exact Gp.own_pure_prod (T:=Rp.str) (c:=[.string (str x0)]) ⟨rfl,h0⟩ (RecG.mk1 (τ:=τ) h1 h2 s)
def RecOk (N:Nat) (x:RecT):Prop:=x.1.length≤N∧x.2.2.2.1.length≤N∧x.2.2.2.2.2.1.length≤N∧x.2.2.2.2.2.2.1.length≤N
abbrev LeafT:Type:=(List UInt8) × (List RecT) × Unit
abbrev StubT:Type:=(List UInt8) × (List UInt8) × Unit
abbrev NodeT:Type:=UInt8 × (List UInt8) × (List UInt8) × (List LeafT) × Unit
abbrev PrfT:Type:=(List (List UInt8)) × (List StubT) × Unit
abbrev RootT:Type:=Int × Int × Int × (List UInt8) × (List UInt8) × Unit
abbrev EvdT:Type:=RootT × RootT × Unit
abbrev HeldT:Type:=(List LeafT) × (List RootT) × (List EvdT) × (List Int) × Unit
end Go.Sp
end
end
end
section
/- Texts of this proof, one behind the other. -/
section
/- Texts of this proof, one behind the other. -/
section
/- Texts of this proof, one behind the other. -/
section
/- Texts of this proof, one behind the other. -/
section
/- Texts of this proof. -/
namespace Go.Sp
abbrev SEnt:=List UInt8 × Value × Nat
section
variable {ro:Option Nat} {P:Program} {fn:Func} {n:Nat} {R:Ending→World→Prop} {k:List Item} {σ:List (Nat × Value)} {D:List Deferred} {g:Gr} {η ζ θ:List SProp} {ops:Array Oper} {i d:Nat} {ls:List Nat}
 {t tk te:TypeId} {x y z:Operand} {b c:Nat} {l:List SEnt} {key:List UInt8} {w:World}
end
end Go.Sp
end
section
/- Texts of this proof, one behind the other. -/
section
/- Texts of this proof. -/
namespace Go.Sp
section
variable {ro:Option Nat} {P:Program} {fn:Func} {n:Nat} {R:Ending→World→Prop} {k:List Item} {σ:List (Nat × Value)} {D:List Deferred} {g:Gr} {η ζ θ:List SProp} {ops:Array Oper} {i d:Nat} {ls:List Nat}
 {t tk te e:TypeId} {x y z:Operand} {b c:Nat} {l:List SEnt} {w:World}
def setV (cs:List UInt8):List Value:=(List.range 256).map fun i=>.bool (decide (i∈cs.map (·.toNat)))
@[simp] theorem setV_length (cs:List UInt8):(setV cs).length=256:=by simp [setV]
end
end Go.Sp
end
section
/- Texts of this proof. -/
namespace Go.Sp
abbrev SS:=List (List UInt8 × List UInt8 × Nat)
section
variable {ro:Option Nat} {P:Program} {fn:Func} {n:Nat} {R:Ending→World→Prop} {k:List Item} {σ:List (Nat × Value)} {D:List Deferred} {g:Gr} {η ζ θ:List SProp} {ops:Array Oper} {i d:Nat} {ls:List Nat}
 {t tk te:TypeId} {x y z:Operand} {b c:Nat} {m:SS} {key v:List UInt8} {w:World}
end
end Go.Sp
end
end
end
section
/- Texts of this proof. -/
namespace Go.Sp
section
variable {ro:Option Nat} {P:Program} {fn:Func} {n:Nat} {R:Ending→World→Prop} {ops:Array Oper} {k:List Item} {σ:List (Nat × Value)} {D:List Deferred} {g:Gr} {η ζ θ:List SProp} {t e:TypeId} {x y:Operand}
theorem S.frzH {todo:List Item} {B:SProp} (s:Sel η B ζ) (h:∀ g' :Gr,g.h.sub g'.h→(∃ m:Fr,B m∧m.sub g'.h)→(∀ {w:World} {θ:List SProp},Holds w g' θ→Holds w g (B::θ))→S ro P fn n R todo σ D g' ζ):S ro P fn n R todo σ D g η :=
 S.sel s (S.freeze fun m hm hd=>h (g.add m) (Fr.sub_add_left _ _) ⟨m,hm,Fr.sub_add_right hd⟩ fun hw=>hw.thaw hm hd)
theorem OD.last1 {g0:Gr} {T:TypeId} {b i j:Nat} {cs:List Value} {v:Value} (ho:opAtU ops j=some (.store t x y)) (hl:lastOk ops j=true) (hth:∀ w,Holds w g η→Holds w g0 ζ) (ht:flat1 P t=true) (hx:ev σ x=some (.pointer (some ⟨b,i,none⟩))) (hy:ev σ y=some v)
  (h1:v.oneCell' =true) (hs:Sel ζ (obj b T cs) θ) (hc:i<cs.length) (h:S none P fn n R k σ D g0 (obj b T (cs.set i v)::θ)):OD P fn n R ops k D g [j] σ η :=
 .one rfl (.lastU ho rfl hl (fun o ρ w q1 q2 q3=>let ⟨w',a,b⟩:=DoesU.store1 ht hx hy h1 hs hc o ρ w q1 q2 (hth w q3);⟨w',.skip,a,.inl rfl,b⟩) h)
theorem S.fold {todo:List Item} {A:SProp} {bs:List SProp} (hA:∀ m,Sat bs m→A m) (h:S ro P fn n R todo σ D g (A::ζ)):S ro P fn n R todo σ D g (bs++ζ) :=
 S.imp' (η:=bs++ζ) (ζ:=A::ζ) (fun m hm=>by
  obtain ⟨m1,m2,d,s1,s2,x,y⟩:=Sat.split hm;exact ⟨m1,m2,d,s1,s2,hA _ x,y⟩) h
theorem S.open {todo:List Item} {α:Type} {A:SProp} {bs:α→List SProp} (s:Sel η A ζ) (hA:∀ m,A m→∃ x,Sat (bs x) m) (h:∀ x,S ro P fn n R todo σ D g (bs x++ζ)):S ro P fn n R todo σ D g η :=
 S.sel s (S.entail (ζ:=[fun m=>∃ x,Sat (bs x) m]) (fun m hm=>⟨m,Fr.emp,Fr.disj_symm (Fr.emp_disj _),Fr.sub_refl _,Fr.emp_sub _,hA m hm,trivial⟩) (S.exi fun x=>S.entail (fun _ q=>q) (h x)))
theorem S.ownIs {todo:List Item} {α:Type} {T:Rp α} {e:TypeId} {v v' :Value} {xs xs' :List α} (s:Sel η (OwnP T e v xs) ζ) (hv:v=v') (hx:xs=xs') (h:S ro P fn n R todo σ D g (OwnP T e v' xs' ::ζ)):S ro P fn n R todo σ D g η:=by
 subst hv hx;exact S.sel s h
theorem look_app (a b:List (Nat × Value)) (t:Nat):look (a++b) t=match look a t with|some v=>some v|none=>look b t:=by
 induction a with
 |nil=>rfl
 |cons x a ih =>
  cases hq:x.1.beq t
  ·simp only [List.cons_append,look,hq];exact ih
  ·simp only [List.cons_append,look,hq]
theorem Sub.app {a b σ:List (Nat × Value)} (ha:Sub a σ) (hb:Sub b σ):Sub (a++b) σ:=fun t v h=>by
 rw [look_app] at h
 cases hq:look a t with
 |some u=>rw [hq] at h;exact ha t v (by rw [hq];exact h)
 |none=>rw [hq] at h;exact hb t v h
theorem S.regionJ {α:Type} {L:List Nat} {id:Nat} (lv:α→List (Nat × Value)) (σ0:List (Nat × Value)) (η' :α→List SProp) (_:Sub σ0 σ) (hm:P.follows .mixedOrders=true) (hok:orderOk P n ops L=true)
  (h1:∀ kk,(∀ x,S none P fn n R kk (lv x++σ0) D g (η' x))→OD P fn n R ops kk D g L σ η) (h2:∀ x,S none P fn n R k (lv x++σ0) D g (η' x)):S none P fn n R (.code (.region id ops true)::k) σ D g η :=
 S.regionD hm hok (h1 k h2)
theorem S.cut2 {ro:Option Nat} {α:Type} {i0 i1:Item} {kk:List Item} (φ:α→Prop) (lv:α→List (Nat × Value)) (σ0:List (Nat × Value)) (η' :α→List SProp) (_:Sub σ0 σ)
  (h1:(∀ x,φ x→S ro P fn n R kk (lv x++σ0) D g (η' x))→S ro P fn n R (i0::i1::kk) σ D g η) (h2:∀ x,φ x→S ro P fn n R kk (lv x++σ0) D g (η' x)):S ro P fn n R (i0::i1::kk) σ D g η:=h1 h2
theorem DoesE.strBytesO {t2:TypeId} {xs:List UInt8} (ht:P.underlying t=some .string) (ht2:P.underlying t2=some (.slice e)) (he:P.underlying e=some (.int .u8)) (hx:ev σ x=some (.string (str xs))) (hl:xs.length≤9223372036854775807) :
  DoesE P (.convert t t2 x) σ g η fun u η' =>∃ a c,u=.slice a xs.length c∧η' =OwnP Rp.u8 e u xs::η :=
 fun o ρ w ho hk hw=>by
  have hr:=Lib.run_convert_string_bytes (P:=P) w t t2 e (str xs) ht ht2 he;have ho' :(execOp ρ o).run P w=.ok (.value (.slice (some ⟨w.heap.size,0,none⟩) (str xs).size (grownCap w (str xs).size 0 e))) (Lib.bytesWorld w e (str xs)):=by
   simp [execOp,ho,hk x _ hx,hr]
  have hge:=grownCap_ge w (str xs).size 0 e;have hcm:=grownCap_le_maxLen w (str xs).size 0 e (by simpa [maxLen] using hl);rw [str_size] at hge hcm;have hh:Holds (Lib.bytesWorld w e (str xs)) g (blk w.heap.size (.cells (Lib.bytesCells w e (str xs)) e ((Lib.bytesCells w e (str xs)).size,(Lib.bytesCells w e (str xs)).size+1))::η):=by
   have h1:Holds (w.drew.alloc (.cells (Lib.bytesCells w e (str xs)) e)) g (blk w.heap.size (.cells (Lib.bytesCells w e (str xs)) e)::η):=(hw.drewN (w.drawn+1) (Nat.le_add_right _ _)).alloc _;refine h1.setBlock (Lib.bytesWorld_at_new w e (str xs)) ?_ rfl rfl rfl
   intro i hi
   have:w.heap.size≠i:=fun h=>hi h.symm
   simp [Lib.bytesWorld,World.freeze,Array.getElem?_modify,this]
  have hsz:(Lib.bytesCells w e (str xs)).size=grownCap w xs.length 0 e:=by
   simp only [Lib.bytesCells,Array.size_append,Array.size_map,Array.size_replicate,str_size]
   simp [str];omega
  have e1:(xs.map (fun b=>[byteV b])).flatten=xs.map byteV:=by
   clear hx hl hr ho' hge hcm hh hsz
   induction xs with
   |nil=>rfl
   |cons a xs ih=>simp [ih]
  refine ⟨_,_,_,⟨some ⟨w.heap.size,0,none⟩,grownCap w xs.length 0 e,by rw [str_size],rfl⟩,ho',?_⟩;rw [str_size];refine (hh.ownF (k:=1) (m:=xs.length) (cap:=grownCap w xs.length 0 e) (cs:=(xs.map (fun b=>[byteV b])).flatten) (fun j hj h=>by have h1:=h.1;simp only [hsz] at h1;omega) hge (by simpa [maxLen] using hcm) (by rw [hsz];simp) ?_).imp fun _ =>
   Sat.cons_imp (OwnP.of (T:=Rp.u8) (css:=xs.map fun b=>[byteV b]) (all2_map (fun _=>rfl) xs) rfl rfl rfl) fun _ q=>q
  rw [e1];simp only [Lib.bytesCells,Nat.mul_one]
  simp [str,byteV]
theorem ODg.strBytesO {fl:Bool} {i d:Nat} {t2:TypeId} {xs:List UInt8} {l:List Nat} (ho:Fires ops i n σ d (.convert t t2 x)) (hd:hdOk fl ops i l=true) (ht:P.underlying t=some .string) (ht2:P.underlying t2=some (.slice e)) (he:P.underlying e=some (.int .u8)) (hx:ev σ x=some (.string (str xs))) (hl:xs.length≤9223372036854775807)
  (h:∀ a c,OD P fn n R ops k D g l ((d,.slice a xs.length c)::σ) (OwnP Rp.u8 e (.slice a xs.length c) xs::η)):ODx P fn n R ops k D g fl (i::l) σ η :=
 ODg.loudE (K:=fun u η' =>∃ a c,u=.slice a xs.length c∧η' =OwnP Rp.u8 e u xs::η) ho rfl hd
  (fun ζ=>(DoesE.strBytesO (η:=η++ζ) ht ht2 he hx hl).imp fun v η' ⟨a,c,h1,h2⟩=>⟨_,⟨a,c,h1,rfl⟩,h2⟩) (by rintro v _ ⟨a,c,rfl,rfl⟩;exact h a c)
theorem OD.strBytesO {i d:Nat} {t2:TypeId} {xs:List UInt8} {l:List Nat} (ho:Fires ops i n σ d (.convert t t2 x)) (hd:descOk ops [i] l=true) (ht:P.underlying t=some .string) (ht2:P.underlying t2=some (.slice e)) (he:P.underlying e=some (.int .u8)) (hx:ev σ x=some (.string (str xs))) (hl:xs.length≤9223372036854775807)
  (h:∀ a c,OD P fn n R ops k D g l ((d,.slice a xs.length c)::σ) (OwnP Rp.u8 e (.slice a xs.length c) xs::η)):OD P fn n R ops k D g (i::l) σ η:=ODg.strBytesO (fl:=false) ho (by simpa [hdOk] using hd) ht ht2 he hx hl h
theorem ODt.strBytesO {i d:Nat} {t2:TypeId} {xs:List UInt8} {l:List Nat} (ho:Fires ops i n σ d (.convert t t2 x)) (_:true=true) (ht:P.underlying t=some .string) (ht2:P.underlying t2=some (.slice e)) (he:P.underlying e=some (.int .u8)) (hx:ev σ x=some (.string (str xs))) (hl:xs.length≤9223372036854775807)
  (h:∀ a c,OD P fn n R ops k D g l ((d,.slice a xs.length c)::σ) (OwnP Rp.u8 e (.slice a xs.length c) xs::η)):ODx P fn n R ops k D g true (i::l) σ η:=ODg.strBytesO (fl:=true) ho rfl ht ht2 he hx hl h
end
end Go.Sp
end
end
section
/- Texts of this proof, one behind the other. -/
section
/- Texts of this proof. -/
namespace Go.Sp
theorem EachP.of_sat {β α:Type} {A:β→α→SProp}:∀ {bs:List β} {as:List α} {m:Fr},bs.length=as.length→Sat (List.zipWith A bs as) m→EachP A bs as m
 |[],[],_,_,_=>trivial
 |[],_::_,_,h,_=>by cases h
 |_::_,[],_,h,_=>by cases h
 |b::bs,a::as,m,hl,h=>by
  obtain ⟨h1,h2,d,s1,s2,x,y⟩:=h;exact ⟨h1,h2,d,s1,s2,x,h2,Fr.emp,Fr.disj_symm (Fr.emp_disj _),Fr.sub_refl _,Fr.emp_sub _,EachP.of_sat (by simpa using hl) y,trivial⟩
section
variable {ro:Option Nat} {P:Program} {fn:Func} {n:Nat} {R:Ending→World→Prop} {σ:List (Nat × Value)} {D:List Deferred} {g:Gr} {η ζ:List SProp} {todo:List Item} {ops:Array Oper} {L:List Nat} {k:List Item}
theorem S.foldS {A:SProp} {bs:List SProp} (hb:Sels η bs ζ) (hA:∀ m,Sat bs m→A m) (h:S ro P fn n R todo σ D g (A::ζ)):S ro P fn n R todo σ D g η :=
 S.perm hb.perm (S.fold hA h)
theorem S.eachOf {β α:Type} (A:β→α→SProp) {bs:List β} {ys:List α} (hb:Sels η (List.zipWith A bs ys) ζ) (hl:bs.length=ys.length) (h:S ro P fn n R todo σ D g (EachP A bs ys::ζ)):S ro P fn n R todo σ D g η :=
 S.foldS hb (fun _ z=>EachP.of_sat hl z) h
end
theorem S.back {ro:Option Nat} {P:Program} {fn:Func} {n:Nat} {R:Ending→World→Prop} {σ:List (Nat × Value)} {D:List Deferred} {g g' :Gr} {η:List SProp} {todo:List Item} {B:SProp} (hb:∀ {w:World} {θ:List SProp},Holds w g' θ→Holds w g (B::θ)) (h:S ro P fn n R todo σ D g (B::η)):S ro P fn n R todo σ D g' η :=
 fun a w hf hd hw=>h a w hf hd (hb hw)
theorem backR {g g' :Gr} {B:SProp} {Post:Ending→List SProp→Prop} {R:Ending→World→Prop} (hR:∀ e η' w',Post e η' →Holds w' g η' →R e w') (hb:∀ {w:World} {θ:List SProp},Holds w g' θ→Holds w g (B::θ)) :
  ∀ e η' w',Post e η' →Holds w' g' η' →R e w' :=fun e η' w' p h=>hR e η' w' p (hb h).drop
def Rp.comap {α β:Type} (f:α→β) (T:Rp β):Rp α:={ k:=T.k,rel:=fun h cs a=>T.rel h cs (f a),len:=fun h=>T.len h,mono:=fun s h=>T.mono s h,one:=fun h=>T.one h }
section
variable {ro:Option Nat} {P:Program} {fn:Func} {n:Nat} {R:Ending→World→Prop} {ops:Array Oper} {K:List Item} {σ:List (Nat × Value)} {D:List Deferred} {g:Gr} {η:List SProp} {i d:Nat} {l:List Nat} {t e:TypeId} {x y:Operand} {v:Value} {kd:IntKind} {j:Nat} {r:Fr}
theorem idx_doesR {α:Type} {T:Rp α} {xs:List α} (ht:P.underlying t=some (.slice e)) (he:(P.info? e).map (·.size)=some T.k) (hx:ev σ x=some v) {zi:Int} (hy:ev σ y=some (.int kd zi)) (hzi:zi=(j:Int))
  (hs:Arr T r v xs) (hk0:0<T.k) (hm:j<xs.length):∃ p cs,(∀ η,Does P (.indexAddr t x y) σ g η (.pointer (some p)) η)∧At r p cs∧T.rel r cs xs[j]:=by
 subst hzi;obtain ⟨css,ha,hsl⟩:=hs;obtain ⟨a,cap,rfl,h1,h2,h3,h4⟩:=hsl
 cases a with
 |none =>
  have:0<css.flatten.length:=by rw [h3];exact Nat.mul_pos (by omega) hk0
  obtain ⟨p,hp,_⟩:=h4 0 this
  cases hp
 |some a =>
  have hj:j<css.length:=by rw [ha.length];exact hm
  refine ⟨a.add (j*T.k),css[j],fun η=>.run fun o ρ w ho hk=>?_,?_,ha.get j hj hm⟩
  ·have hij:(j:Int)<(xs.length:Int):=by omega
   simp [execOp,ho,hk x _ hx,hk y _ hy,Instr.indexAt,asIntOf,run_underlying ht,hm,run_sizeOf he]
  ·rw [← ha.flat_get j hj]
   intro q hq
   rw [Addr.add_add];have hq' :j*T.k+q<css.flatten.length:=by simp only [List.length_take,List.length_drop] at hq;omega
   obtain ⟨p,hp,hc⟩:=h4 _ hq'
   cases hp
   rw [hc];simp
theorem O.idxR {α:Type} {T:Rp α} {xs:List α} (ho:Fires ops i n σ d (.indexAddr t x y)) (ht:P.underlying t=some (.slice e)) (he:(P.info? e).map (·.size)=some T.k) (hx:ev σ x=some v)
  {zi:Int} (hy:ev σ y=some (.int kd zi)) (hzi:zi=(j:Int)) (hs:Arr T r v xs) (hr:r.sub g.h) (hk0:0<T.k) (hm:j<xs.length)
  (h:∀ p cs,At g.h p cs→T.rel r cs xs[j]→O ro P fn n R ops l K ((d,.pointer (some p))::σ) D g η):O ro P fn n R ops (i::l) K σ D g η:=by
 obtain ⟨p,cs,h1,h2,h3⟩:=idx_doesR (g:=g) ht he hx hy hzi hs hk0 hm;exact O.op ho (h1 η) (h p cs (h2.mono hr) h3)
theorem OD.idxR {α:Type} {T:Rp α} {xs:List α} (ho:Fires ops i n σ d (.indexAddr t x y)) (ht:P.underlying t=some (.slice e)) (he:(P.info? e).map (·.size)=some T.k) (hx:ev σ x=some v)
  {zi:Int} (hy:ev σ y=some (.int kd zi)) (hzi:zi=(j:Int)) (hs:Arr T r v xs) (hr:r.sub g.h) (hk0:0<T.k) (hm:j<xs.length)
  (h:∀ p cs,At g.h p cs→T.rel r cs xs[j]→OD P fn n R ops K D g l ((d,.pointer (some p))::σ) η):OD P fn n R ops K D g (i::l) σ η:=by
 obtain ⟨p,cs,h1,h2,h3⟩:=idx_doesR (g:=g) ht he hx hy hzi hs hk0 hm;exact .quiet ho rfl h1 (h p cs (h2.mono hr) h3)
end
end Go.Sp
end
section
/- Texts of this proof. -/
namespace Go.Sp
theorem pk {η η' :List SProp} {Q:List SProp→Prop} (h:Q η') (hp:Picks η η' :=by repeat (first|exact zpa|exact zpn|(apply zpc;focus (repeat (first|exact zh|apply zt)))|apply zps)):∃ η',Q η' ∧Picks η η' :=⟨η',h,hp⟩
section
variable {ro:Option Nat} {P:Program} {fn:Func} {n:Nat} {R:Ending→World→Prop} {k:List Item} {σ σ' :List (Nat × Value)} {D:List Deferred} {g:Gr} {η ζ:List SProp} {ops:Array Oper} {L l:List Nat} {todo:List Item} {t e:TypeId} {x y:Operand} {v:Value}
theorem S.rt {s:Tmp} {Post:Ending→List SProp→Prop} {η' :List SProp} (hr:fn.results=#[.tmp s]) (hl:look σ s=some v) (hR:∀ e η' w',Post e η' →Holds w' g η' →R e w') (h:Post (.returned v) η')
  (hp:Picks η η' :=by repeat (first|exact zpa|exact zpn|(apply zpc;focus (repeat (first|exact zh|apply zt)))|apply zps)):S none P fn n R (.code .ret::k) σ [] g η :=
 S.ret hr hl fun _ hw=>Holds.end_ hR hw ⟨η',h,hp⟩
theorem S.pw (h:S ro P fn n R todo σ' D g ζ) (hs:Sub σ' σ:=by repeat (first|exact Sub.nil|refine Sub.cons rfl ?_))
  (hp:Picks η ζ:=by repeat (first|exact zpa|exact zpn|(apply zpc;focus (repeat (first|exact zh|apply zt)))|apply zps)):S ro P fn n R todo σ D g η:=S.pk hp (S.weaken hs h)
theorem S.wk (h:S ro P fn n R todo σ' D g η) (hs:Sub σ' σ:=by repeat (first|exact Sub.nil|refine Sub.cons rfl ?_)):S ro P fn n R todo σ D g η:=S.weaken hs h
theorem O.sT {b:Bool} (s:Nat) (hl:look σ s=some (.bool b)) (e:b=true) (h:O ro P fn n R ops L k ((s,.bool true)::σ) D g η):O ro P fn n R ops L k σ D g η:=O.slot s hl (congrArg Value.bool e) h
theorem O.sF {b:Bool} (s:Nat) (hl:look σ s=some (.bool b)) (e:b=false) (h:O ro P fn n R ops L k ((s,.bool false)::σ) D g η):O ro P fn n R ops L k σ D g η:=O.slot s hl (congrArg Value.bool e) h
theorem OD.sT {b:Bool} (s:Nat) (hl:look σ s=some (.bool b)) (e:b=true) (h:OD P fn n R ops k D g L ((s,.bool true)::σ) η):OD P fn n R ops k D g L σ η:=OD.slot s hl (congrArg Value.bool e) h
theorem OD.sF {b:Bool} (s:Nat) (hl:look σ s=some (.bool b)) (e:b=false) (h:OD P fn n R ops k D g L ((s,.bool false)::σ) η):OD P fn n R ops k D g L σ η:=OD.slot s hl (congrArg Value.bool e) h
theorem Does.lo {T:TypeId} {b j:Nat} {cs:List Value} (ht:flat1 P t=true) (hx:ev σ x=some (.pointer (some ⟨b,j,none⟩)):=by exact rfl) (hs:Sel η (obj b T cs) ζ:=by repeat (first|exact zh|apply zt)) (hj:cs[j]?=some v:=by exact rfl):Does P (.load t x) σ g η v η:=.loadObj ht hx hs hj
theorem Does.loA {T:TypeId} {b i:Nat} {cs news:List Value} (ht:∀ w,(isAgg t).run P w=.ok true w) (hsz:(P.info? t).map (·.size)=some news.length:=by kernel_rfl) (hx:ev σ x=some (.pointer (some ⟨b,i,none⟩)):=by exact rfl)
  (hs:Sel η (obj b T cs) ζ:=by repeat (first|exact zh|apply zt)) (hn:(cs.drop i).take news.length=news:=by exact rfl):Does P (.load t x) σ g η (.agg news.toArray) η:=.loadObjAgg ht hsz hx hs hn
theorem O.ia {α:Type} {T:Rp α} {xs:List α} {i d j:Nat} {kd:IntKind} {zi:Int} (ho:Fires ops i n σ d (.indexAddr t x y)) (ht:P.underlying t=some (.slice e)) (he:(P.info? e).map (·.size)=some T.k) (hx:ev σ x=some v) (hy:ev σ y=some (.int kd zi)) (hzi:zi=(j:Int)) (hs:Arr T g.h v xs)
  (hk0:0<T.k:=by decide) (hm:j<xs.length:=by first|omega|(simp;done)|(simp;omega)|decide) (h:∀ p cs,At g.h p cs→T.rel g.h cs xs[j]→O ro P fn n R ops l k ((d,.pointer (some p))::σ) D g η):O ro P fn n R ops (i::l) k σ D g η:=O.idx' ho ht he hx hy hzi hs hk0 hm h
theorem OD.ia {α:Type} {T:Rp α} {xs:List α} {i d j:Nat} {kd:IntKind} {zi:Int} (ho:Fires ops i n σ d (.indexAddr t x y)) (ht:P.underlying t=some (.slice e)) (he:(P.info? e).map (·.size)=some T.k) (hx:ev σ x=some v) (hy:ev σ y=some (.int kd zi)) (hzi:zi=(j:Int)) (hs:Arr T g.h v xs)
  (hk0:0<T.k:=by decide) (hm:j<xs.length:=by first|omega|(simp;done)|(simp;omega)|decide) (h:∀ p cs,At g.h p cs→T.rel g.h cs xs[j]→OD P fn n R ops k D g l ((d,.pointer (some p))::σ) η):OD P fn n R ops k D g (i::l) σ η:=OD.idx' ho ht he hx hy hzi hs hk0 hm h
theorem O.ib {α:Type} {T:Rp α} {xs:List α} {r:Fr} {i d j:Nat} {kd:IntKind} {zi:Int} (ho:Fires ops i n σ d (.indexAddr t x y)) (ht:P.underlying t=some (.slice e)) (he:(P.info? e).map (·.size)=some T.k) (hx:ev σ x=some v) (hy:ev σ y=some (.int kd zi)) (hzi:zi=(j:Int)) (hs:Arr T r v xs) (hr:r.sub g.h)
  (hk0:0<T.k:=by decide) (hm:j<xs.length:=by first|omega|(simp;done)|(simp;omega)|decide) (h:∀ p cs,At g.h p cs→T.rel r cs xs[j]→O ro P fn n R ops l k ((d,.pointer (some p))::σ) D g η):O ro P fn n R ops (i::l) k σ D g η:=O.idxR ho ht he hx hy hzi hs hr hk0 hm h
theorem OD.ib {α:Type} {T:Rp α} {xs:List α} {r:Fr} {i d j:Nat} {kd:IntKind} {zi:Int} (ho:Fires ops i n σ d (.indexAddr t x y)) (ht:P.underlying t=some (.slice e)) (he:(P.info? e).map (·.size)=some T.k) (hx:ev σ x=some v) (hy:ev σ y=some (.int kd zi)) (hzi:zi=(j:Int)) (hs:Arr T r v xs) (hr:r.sub g.h)
  (hk0:0<T.k:=by decide) (hm:j<xs.length:=by first|omega|(simp;done)|(simp;omega)|decide) (h:∀ p cs,At g.h p cs→T.rel r cs xs[j]→OD P fn n R ops k D g l ((d,.pointer (some p))::σ) η):OD P fn n R ops k D g (i::l) σ η:=OD.idxR ho ht he hx hy hzi hs hr hk0 hm h
end
end Go.Sp
end
end
end
section
/- Texts of this proof. -/
namespace Go.Sp
class CSl (P:Program) (t:TypeId) (e:outParam TypeId):Prop where h:P.underlying t=some (.slice e)
class CStr (P:Program) (t:TypeId):Prop where h:P.underlying t=some .string
class CFl (P:Program) (t:TypeId):Prop where h:flat1 P t=true
class CFo (P:Program) (s f:Nat) (o:outParam Nat):Prop where h:fieldOff P s f=some o
theorem zsl {P:Program} {t e:TypeId} [i:CSl P t e]:P.underlying t=some (.slice e):=i.h
theorem zst {P:Program} {t:TypeId} [i:CStr P t]:P.underlying t=some .string:=i.h
theorem zfl {P:Program} {t:TypeId} [i:CFl P t]:flat1 P t=true:=i.h
theorem zfo {P:Program} {s f o:Nat} [i:CFo P s f o]:fieldOff P s f=some o:=i.h
section
variable {P:Program} {σ:List (Nat × Value)} {g:Gr} {η:List SProp}
theorem Does.len1 {t:TypeId} {x:Operand} {e:TypeId} [CSl P t e] {a:Option Addr} {m c:Nat} (hx:ev σ x=some (.slice a m c)):Does P (.call ⟨.builtin .len,#[x],#[t]⟩) σ g η (.int .i64 (m:Int)) η:=.len (t:=t) rfl zsl hx
theorem Does.loadK {t:TypeId} {x:Operand} {p:Addr} {j:Nat} {cs:List Value} {v:Value} (ht:flat1 P t=true) (hx:ev σ x=some (.pointer (some (p.add j)))) (hp:At g.h p cs) (hv:cs[j]?=some v):Does P (.load t x) σ g η v η:=.loadAt ht hx (hp.drop j) (by rw [List.getElem?_drop];exact hv)
theorem Does.loadKK {t:TypeId} {x:Operand} {p:Addr} {i j:Nat} {cs:List Value} {v:Value} (ht:flat1 P t=true) (hx:ev σ x=some (.pointer (some ((p.add i).add j)))) (hp:At g.h p cs) (hv:cs[i+j]?=some v):Does P (.load t x) σ g η v η:=.loadK ht (p:=p) (j:=i+j) (by rw [hx,Addr.add_add]) hp hv
class CAg (P:Program) (t:TypeId) (k:outParam Nat):Prop where
 h:∀ w,(isAgg t).run P w=.ok true w
 s:(P.info? t).map (·.size)=some k
def nrm {α:Type}:List α→Option (List α)
 |[]=>some []
 |a::l=>(nrm l).map (a::·)
theorem nrm_eq {α:Type}:∀ {l m:List α},nrm l=some m→l=m
 |[],_,h=>by cases h;rfl
 |a::l,m,h=>by
  obtain ⟨q,h1,h2⟩:=Option.map_eq_some_iff.1 h;rw [nrm_eq h1];exact h2
theorem Does.loZ {t:TypeId} {x:Operand} {T:TypeId} {b i K:Nat} {cs news:List Value} {ζ:List SProp} [c:CAg P t K] (hx:ev σ x=some (.pointer (some ⟨b,i,none⟩))) (hs:Sel η (obj b T cs) ζ) (hn:nrm ((cs.drop i).take K)=some news) (hl:news.length=K):Does P (.load t x) σ g η (.agg news.toArray) η :=
 .loadObjAgg c.h (by rw [hl];exact c.s) hx hs (by rw [hl];exact nrm_eq hn)
theorem Does.lenS1 {t:TypeId} {x:Operand} [CStr P t] {s:ByteArray} (hx:ev σ x=some (.string s)):Does P (.call ⟨.builtin .len,#[x],#[t]⟩) σ g η (.int .i64 (s.size:Int)) η:=.lenS (t:=t) rfl zst hx
end
inductive Steps:Nat→Prop→Prop→Prop
 |z {A:Prop}:Steps 0 A A
 |s {n:Nat} {A B C:Prop} (f:C→A) (k:Steps n B C):Steps (n+1) B A
theorem Steps.run {n:Nat} {A B:Prop} (h:Steps n B A):B→A:=by
 induction h with
 |z=>exact id
 |s f _ ih=>exact fun b=>f (ih b)
theorem zz {A B:Prop} (n:Nat) (h:B) (f:Steps n B A:=by repeat (first|exact Steps.z|(apply Steps.s;focus (first|(with_reducible exact S.seq)|((with_reducible apply O.q 1);exact rfl)|(with_reducible exact O.nil)|((with_reducible apply S.region);exact rfl)|((with_reducible apply OD.q 1);exact rfl)|(with_reducible exact S.skip)|(with_reducible exact S.block)|(with_reducible exact S.inBlock)|((with_reducible apply S.exit);exact rfl)|((with_reducible apply S.condT);exact rfl)|((with_reducible apply S.condF);exact rfl)|(with_reducible exact S.unroll)|(with_reducible exact S.reloop)|(with_reducible exact ODx.nil)|(apply O.op;exact .p rfl;(first|exact Does.len1 rfl|exact Does.lss rfl rfl|exact Does.fieldObj zfo rfl|exact Does.lo zfl|exact Does.loZ rfl (by repeat (first|exact zh|apply zt)) (by exact rfl) (by exact rfl)|exact Does.loadAt zfl rfl (by assumption) (by exact rfl)|exact Does.loadK zfl rfl (by assumption) (by exact rfl)|exact Does.loadKK zfl rfl (by assumption) (by exact rfl)|exact Does.add rfl rfl (IntWalk.i64_in _ (by omega))|exact Does.not rfl|exact Does.nilCheck rfl|exact Does.eql rfl rfl|exact Does.neq rfl rfl|exact Does.gtr rfl rfl|exact Does.leq rfl rfl|exact Does.geq rfl rfl|exact Does.lenS1 rfl|exact Does.mkFunc rfl rfl))|(apply O.op;exact .g rfl rfl;(first|exact Does.len1 rfl|exact Does.lss rfl rfl|exact Does.fieldObj zfo rfl|exact Does.lo zfl|exact Does.loZ rfl (by repeat (first|exact zh|apply zt)) (by exact rfl) (by exact rfl)|exact Does.loadAt zfl rfl (by assumption) (by exact rfl)|exact Does.loadK zfl rfl (by assumption) (by exact rfl)|exact Does.loadKK zfl rfl (by assumption) (by exact rfl)|exact Does.add rfl rfl (IntWalk.i64_in _ (by omega))|exact Does.not rfl|exact Does.nilCheck rfl|exact Does.eql rfl rfl|exact Does.neq rfl rfl|exact Does.gtr rfl rfl|exact Does.leq rfl rfl|exact Does.geq rfl rfl|exact Does.lenS1 rfl|exact Does.mkFunc rfl rfl))|(apply O.opU;exact rfl;(first|exact DoesU.store1 zfl rfl rfl (by first|rfl|assumption) (by repeat (first|exact zh|apply zt)) (by first|(simp;done)|(simp [Value.cells];done))|exact DoesU.storeObj (by kernel_rfl) rfl rfl rfl rfl (by repeat (first|exact zh|apply zt)) (by first|(simp;done)|(simp [Value.cells];done))))|(apply ODx.quiet;exact .p rfl;exact rfl;(intro _;first|exact Does.fieldAddr zfo rfl|exact Does.loadAt zfl rfl (by assumption) (by exact rfl)|exact Does.loadK zfl rfl (by assumption) (by exact rfl)|exact Does.loadKK zfl rfl (by assumption) (by exact rfl)|exact Does.len1 rfl|exact Does.lss rfl rfl|exact Does.not rfl|exact Does.nilCheck rfl|exact Does.eql rfl rfl|exact Does.neq rfl rfl|exact Does.gtr rfl rfl|exact Does.leq rfl rfl|exact Does.geq rfl rfl|exact Does.add rfl rfl (IntWalk.i64_in _ (by omega))|exact Does.sub rfl rfl (IntWalk.i64_in _ (by omega))|exact Does.lenS1 rfl))|(apply ODx.quiet;exact .g rfl rfl;exact rfl;(intro _;first|exact Does.fieldAddr zfo rfl|exact Does.loadAt zfl rfl (by assumption) (by exact rfl)|exact Does.loadK zfl rfl (by assumption) (by exact rfl)|exact Does.loadKK zfl rfl (by assumption) (by exact rfl)|exact Does.len1 rfl|exact Does.lss rfl rfl|exact Does.not rfl|exact Does.nilCheck rfl|exact Does.eql rfl rfl|exact Does.neq rfl rfl|exact Does.gtr rfl rfl|exact Does.leq rfl rfl|exact Does.geq rfl rfl|exact Does.add rfl rfl (IntWalk.i64_in _ (by omega))|exact Does.sub rfl rfl (IntWalk.i64_in _ (by omega))|exact Does.lenS1 rfl)))))):A:=f.run h
class Tf (b:Bool) (p q:outParam Prop):Prop where
 t:b=true→p
 f:b=false→q
instance (priority:=high) {p:Prop} [Decidable p]:Tf (decide p) p (¬p):=⟨of_decide_eq_true,of_decide_eq_false⟩
instance (priority:=low) {b:Bool}:Tf b (b=true) (b=false):=⟨id,id⟩
section
variable {ro:Option Nat} {P:Program} {fn:Func} {n:Nat} {R:Ending→World→Prop} {k:List Item} {σ:List (Nat × Value)} {D:List Deferred} {g:Gr} {η ζ:List SProp} {ops:Array Oper} {i d:Nat} {l:List Nat} {x:Operand}
theorem S.cd {c:Operand} {x y:Code} {b:Bool} {p q:Prop} [tf:Tf b p q] (hc:ev σ c=some (.bool b)) (ht:p→S ro P fn n R (.code x::k) σ D g η) (hf:q→S ro P fn n R (.code y::k) σ D g η):S ro P fn n R (.code (.cond c x y)::k) σ D g η :=
 S.condB hc (fun h=>ht (tf.t h)) fun h=>hf (tf.f h)
theorem O.v0 {f:FuncId} {xs:Array Operand} {ts:Array TypeId} {vals:List Value} {V:Value} {first cap:Array Value} (ho:Fires ops i n σ d (.call ⟨.value x,xs,ts⟩)) (hx:ev σ x=some (.func (.func f) first cap)) (hc:callable P f=true)
  (hv:evs σ xs.toList=some vals) {args:Array Value} (hargs:first++vals.toArray++cap=args) (con:Con P f args g.h [] (Ret fun v η=>v=V∧η=[]))
  (h:O ro P fn n R ops l k ((d,V)::σ) D g η):O ro P fn n R ops (i::l) k σ D g η:=O.call0 ho hx hc hv hargs con fun _ _ ⟨e1,e2⟩=>by subst e1 e2;exact h
theorem O.vS {f:FuncId} {xs:Array Operand} {ts:Array TypeId} {vals:List Value} {V:Value} {bs:List SProp} {first cap:Array Value} {A:SProp} (ho:Fires ops i n σ d (.call ⟨.value x,xs,ts⟩)) (hx:ev σ x=some (.func (.func f) first cap)) (hc:callable P f=true)
  (hv:evs σ xs.toList=some vals) {args:Array Value} (hargs:first++vals.toArray++cap=args) (hs:Sel η A ζ) (con:Con P f args g.h [A] (Ret fun v η=>v=V∧η=bs))
  (h:O ro P fn n R ops l k ((d,V)::σ) D g (bs++ζ)):O ro P fn n R ops (i::l) k σ D g η:=O.callS ho hx hc hv hargs hs con fun _ _ ⟨e1,e2⟩=>by subst e1 e2;exact h
theorem OD.v0 {f:FuncId} {xs:Array Operand} {ts:Array TypeId} {vals:List Value} {V:Value} {first cap:Array Value} (ho:Fires ops i n σ d (.call ⟨.value x,xs,ts⟩)) (hd:descOk ops [i] l=true) (hx:ev σ x=some (.func (.func f) first cap)) (hc:callable P f=true)
  (hv:evs σ xs.toList=some vals) {args:Array Value} (hargs:first++vals.toArray++cap=args) (con:Con P f args g.h [] (Ret fun v η=>v=V∧η=[]))
  (h:OD P fn n R ops k D g l ((d,V)::σ) η):OD P fn n R ops k D g (i::l) σ η:=OD.call0 ho hd hx hc hv hargs con fun _ _ ⟨e1,e2⟩=>by subst e1 e2;exact h
variable {t e:TypeId} {y:Operand} {v:Value} {kd:IntKind}
class CSz (P:Program) (e:TypeId) (k:outParam Nat):Prop where h:(P.info? e).map (·.size)=some k
theorem zsz {k:Nat} [i:CSz P e k]:(P.info? e).map (·.size)=some k:=i.h
theorem O.iz {α:Type} {T:Rp α} {xs:List α} {i d j:Nat} {zi:Int} (hs:Arr T g.h v xs) (ho:Fires ops i n σ d (.indexAddr t x y):=by first|exact .p rfl|exact .g rfl rfl) (ht:P.underlying t=some (.slice e):=by exact zsl) (he:(P.info? e).map (·.size)=some T.k:=by exact zsz) (hx:ev σ x=some v:=by exact rfl) (hy:ev σ y=some (.int kd zi):=by exact rfl) (hzi:zi=(j:Int):=by exact rfl)
  (hk0:0<T.k:=by decide) (hm:j<xs.length:=by first|omega|(simp;done)|(simp;omega)|decide) (h:∀ p cs,At g.h p cs→T.rel g.h cs xs[j]→O ro P fn n R ops l k ((d,.pointer (some p))::σ) D g η):O ro P fn n R ops (i::l) k σ D g η:=O.idx' ho ht he hx hy hzi hs hk0 hm h
theorem OD.iz {α:Type} {T:Rp α} {xs:List α} {i d j:Nat} {zi:Int} (hs:Arr T g.h v xs) (ho:Fires ops i n σ d (.indexAddr t x y):=by first|exact .p rfl|exact .g rfl rfl) (ht:P.underlying t=some (.slice e):=by exact zsl) (he:(P.info? e).map (·.size)=some T.k:=by exact zsz) (hx:ev σ x=some v:=by exact rfl) (hy:ev σ y=some (.int kd zi):=by exact rfl) (hzi:zi=(j:Int):=by exact rfl)
  (hk0:0<T.k:=by decide) (hm:j<xs.length:=by first|omega|(simp;done)|(simp;omega)|decide) (h:∀ p cs,At g.h p cs→T.rel g.h cs xs[j]→OD P fn n R ops k D g l ((d,.pointer (some p))::σ) η):OD P fn n R ops k D g (i::l) σ η:=OD.idx' ho ht he hx hy hzi hs hk0 hm h
theorem O.iy {α:Type} {T:Rp α} {xs:List α} {r:Fr} {i d j:Nat} {zi:Int} (hs:Arr T r v xs) (hr:r.sub g.h) (ho:Fires ops i n σ d (.indexAddr t x y):=by first|exact .p rfl|exact .g rfl rfl) (ht:P.underlying t=some (.slice e):=by exact zsl) (he:(P.info? e).map (·.size)=some T.k:=by exact zsz) (hx:ev σ x=some v:=by exact rfl) (hy:ev σ y=some (.int kd zi):=by exact rfl) (hzi:zi=(j:Int):=by exact rfl)
  (hk0:0<T.k:=by decide) (hm:j<xs.length:=by first|omega|(simp;done)|(simp;omega)|decide) (h:∀ p cs,At g.h p cs→T.rel r cs xs[j]→O ro P fn n R ops l k ((d,.pointer (some p))::σ) D g η):O ro P fn n R ops (i::l) k σ D g η:=O.idxR ho ht he hx hy hzi hs hr hk0 hm h
theorem OD.iy {α:Type} {T:Rp α} {xs:List α} {r:Fr} {i d j:Nat} {zi:Int} (hs:Arr T r v xs) (hr:r.sub g.h) (ho:Fires ops i n σ d (.indexAddr t x y):=by first|exact .p rfl|exact .g rfl rfl) (ht:P.underlying t=some (.slice e):=by exact zsl) (he:(P.info? e).map (·.size)=some T.k:=by exact zsz) (hx:ev σ x=some v:=by exact rfl) (hy:ev σ y=some (.int kd zi):=by exact rfl) (hzi:zi=(j:Int):=by exact rfl)
  (hk0:0<T.k:=by decide) (hm:j<xs.length:=by first|omega|(simp;done)|(simp;omega)|decide) (h:∀ p cs,At g.h p cs→T.rel r cs xs[j]→OD P fn n R ops k D g l ((d,.pointer (some p))::σ) η):OD P fn n R ops k D g (i::l) σ η:=OD.idxR ho ht he hx hy hzi hs hr hk0 hm h
theorem zA {α:Type} {T:Rp α} {h:Fr} {v:Value} {xs:List α} (q:Arr T h v xs:=by first|assumption|exact Arr.mono hg (by assumption)|exact Arr.left (by assumption)|exact Arr.left (Arr.mono hg (by assumption))):Arr T h v xs:=q
theorem zq {σ' σ:List (Nat × Value)} (h:Sub σ' σ:=by repeat (first|exact Sub.nil|refine Sub.cons rfl ?_)):Sub σ' σ:=h
theorem Con.o {f:FuncId} {args:Array Value} {r:Fr} {Post:Ending→List SProp→Prop} {c:Code} {vs:List Value} (hf:P.funcs[f]?=some fn) (h:∀ g:Gr,r.sub g.h→∀ R:Ending→World→Prop,(∀ e η' w',Post e η' →Holds w' g η' →R e w')→S none P fn n R [.code c] (slots vs 0) [] g η)
  (ha:args=vs.toArray:=by exact rfl) (hb:fn.body=some c:=by exact rfl) (hn:fn.ntmps=n:=by exact rfl) (hle:Nat.ble vs.length n=true:=by exact rfl):Con P f args r η Post:=Con.of vs ha hf hb hn hle h
end
theorem zB {p:Prop} (h:p:=by kernel_rfl):p:=h
theorem zC {p:Prop} (h:p:=by repeat (first|exact zh|apply zt)):p:=h
theorem zD {p:Prop} (h:p:=by assumption):p:=h
theorem zE {p:Prop} (h:p:=by omega):p:=h
theorem zF {p:Prop} (h:p:=by decide):p:=h
theorem zG {p:Prop} (h:p:=by first|assumption|exact Arr.mono hg (by assumption)|exact Arr.left (by assumption)|exact Arr.left (Arr.mono hg (by assumption))):p:=h
theorem zH {p:Prop} (h:p:=by first|(simp;done)|(simp [Value.cells];done)):p:=h
theorem zI {p:Prop} (h:p:=by first|omega|(simp;done)|(simp;omega)|decide):p:=h
theorem zJ {p:Prop} (h:p:=by simp):p:=h
theorem zK {p:Prop} (h:p:=by first|rfl|assumption):p:=h
theorem zL {p:Prop} (h:p:=by simp;omega):p:=h
theorem zM {p:Prop} (h:p:=by repeat (first|exact zsn|(apply zsc;focus (repeat (first|exact zh|apply zt))))):p:=h
theorem zN {p:Prop} (h:p:=by repeat (first|exact zpa|exact zpn|(apply zpc;focus (repeat (first|exact zh|apply zt)))|apply zps)):p:=h
theorem zO {p:Prop} (h:p:=by exact decide_eq_true (by omega)):p:=h
theorem zP {p:Prop} (h:p:=by exact decide_eq_false (by omega)):p:=h
theorem zQ {p:Prop} (h:p:=by constructor<;>decide):p:=h
theorem zR {p:Prop} (h:p:=by first|omega|(simp;done)|(simp;omega)):p:=h
end Go.Sp
end
end
