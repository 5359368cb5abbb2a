/- Texts of this proof, one behind the other. -/
import Derived.Test.YtojafegjlahajaaGreatDoorQSpGo
section
/- Texts of this proof. -/
namespace Go.Sp
abbrev bZ:=UInt64
abbrev pZ (x:bZ):Value:=.int .u64 (x.toNat:Int)
theorem AK (x:bZ):x.toNat<18446744073709551616:=x.toNat_lt
theorem qU {k:Nat} (h:k<18446744073709551616):IntKind.u64.wrap (k:Int)=k:=by rw [t_];unfold u64;omega
theorem ph (x y:bZ):IntKind.u64.wrap ((x.toNat:Int)+(y.toNat:Int))=((x+y).toNat:Int):=by
 rw [← Int.natCast_add,t_,UInt64.toNat_add];unfold u64;omega
theorem uw (x:bZ):BitVec.ofInt IntKind.u64.bits (x.toNat:Int)=x.toBitVec:=by
 have:=AK x
 apply BitVec.eq_of_toNat_eq
 rw [BitVec.toNat_ofInt];simp only [IntKind.bits]
 show _=x.toNat
 omega
theorem sn (x y:bZ):bitsOf .xor .u64 (x.toNat:Int) (y.toNat:Int)=((x ^^^ y).toNat:Int):=by
 simp only [bitsOf];rw [uw,uw];exact qU (AK (x ^^^ y))
theorem vt (x y:bZ):bitsOf .and .u64 (x.toNat:Int) (y.toNat:Int)=((x &&& y).toNat:Int):=by
 simp only [bitsOf];rw [uw,uw];exact qU (AK (x &&& y))
theorem KR (x y : bZ) : bitsOf .or .u64 (x.toNat : Int) (y.toNat : Int) = ((x ||| y).toNat : Int) := by
 simp only [bitsOf]; rw [uw, uw];exact qU (AK (x ||| y))
theorem VM (x : bZ) : bitsOf .xor .u64 18446744073709551615 (x.toNat : Int) = ((~~~x).toNat : Int) := by
 have e : (18446744073709551615 : Int) = ((18446744073709551615 : bZ).toNat : Int) := rfl;rw [e, sn];have : (18446744073709551615 : bZ) ^^^ x = ~~~x := by
  apply UInt64.toBitVec_inj.1
  show (18446744073709551615 : bZ).toBitVec ^^^ x.toBitVec = ~~~x.toBitVec
  rw [show (18446744073709551615:bZ).toBitVec=BitVec.allOnes 64 from rfl,BitVec.allOnes_xor]
 rw [this]
theorem KS (x:bZ) {n:Nat} (h:n<64):IntKind.u64.wrap ((x.toNat:Int)*2 ^ min n IntKind.u64.bits)=((x <<<UInt64.ofNat n).toNat:Int):=by
 have e:min n IntKind.u64.bits=n:=by simp only [IntKind.bits];omega
 rw [e,show ((x.toNat:Int)*2 ^ n)=((x.toNat*2 ^ n:Nat):Int) from by simp,t_,UInt64.toNat_shiftLeft];have:(UInt64.ofNat n).toNat % 64=n:=by rw [UInt64.toNat_ofNat'];omega
 rw [this,Nat.shiftLeft_eq];unfold u64;omega
theorem KT (x:bZ) {n:Nat} (h:n<64):((x.toNat:Int).fdiv (2 ^ min n IntKind.u64.bits))=((x >>>UInt64.ofNat n).toNat:Int):=by
 have e:min n IntKind.u64.bits=n:=by simp only [IntKind.bits];omega
 have e2:((2:Int) ^ n)=((2 ^ n:Nat):Int):=by simp
 rw [e,e2,Int.fdiv_eq_ediv_of_nonneg _ (Int.natCast_nonneg _),UInt64.toNat_shiftRight];have:(UInt64.ofNat n).toNat % 64=n:=by rw [UInt64.toNat_ofNat'];omega
 rw [this,Nat.shiftRight_eq_div_pow];rfl
theorem RR {a:Nat} {z:Int} (hz:z=0 - (a:Int)) (h0:0<a) (h:a<64):bitsOf .and .u64 (IntKind.u64.wrap z) 63=((64 - a:Nat):Int):=by
 have e1:IntKind.u64.wrap z=((UInt64.ofNat (18446744073709551616 - a)).toNat:Int):=by
  rw [t_,hz];unfold u64;rw [UInt64.toNat_ofNat'];omega
 have e2:(63:Int)=((63:bZ).toNat:Int):=rfl;rw [e1,e2,vt];have b6:(UInt64.ofNat (18446744073709551616 - a) &&& 63).toNat=64 - a:=by
  rw [UInt64.toNat_and,show (63:bZ).toNat=2 ^ 6 - 1 from rfl,Nat.and_two_pow_sub_one_eq_mod];rw [UInt64.toNat_ofNat'];omega
 rw [b6]
def o8 (x : bZ) (n : Nat) : bZ := x >>> UInt64.ofNat n ||| x <<< UInt64.ofNat (64 - n)
def ob (x:bZ) (a b c:Nat):bZ:=o8 x a ^^^ o8 x b ^^^ o8 x c
def qQ (x:bZ) (a b s:Nat):bZ:=o8 x a ^^^ o8 x b ^^^ x >>>UInt64.ofNat s
def fZ:List bZ:=[
 0x428a2f98d728ae22,0x7137449123ef65cd,0xb5c0fbcfec4d3b2f,0xe9b5dba58189dbbc,
 0x3956c25bf348b538,0x59f111f1b605d019,0x923f82a4af194f9b,0xab1c5ed5da6d8118,
 0xd807aa98a3030242,0x12835b0145706fbe,0x243185be4ee4b28c,0x550c7dc3d5ffb4e2,
 0x72be5d74f27b896f,0x80deb1fe3b1696b1,0x9bdc06a725c71235,0xc19bf174cf692694,
 0xe49b69c19ef14ad2,0xefbe4786384f25e3,0x0fc19dc68b8cd5b5,0x240ca1cc77ac9c65,
 0x2de92c6f592b0275,0x4a7484aa6ea6e483,0x5cb0a9dcbd41fbd4,0x76f988da831153b5,
 0x983e5152ee66dfab,0xa831c66d2db43210,0xb00327c898fb213f,0xbf597fc7beef0ee4,
 0xc6e00bf33da88fc2,0xd5a79147930aa725,0x06ca6351e003826f,0x142929670a0e6e70,
 0x27b70a8546d22ffc,0x2e1b21385c26c926,0x4d2c6dfc5ac42aed,0x53380d139d95b3df,
 0x650a73548baf63de,0x766a0abb3c77b2a8,0x81c2c92e47edaee6,0x92722c851482353b,
 0xa2bfe8a14cf10364,0xa81a664bbc423001,0xc24b8b70d0f89791,0xc76c51a30654be30,
 0xd192e819d6ef5218,0xd69906245565a910,0xf40e35855771202a,0x106aa07032bbd1b8,
 0x19a4c116b8d2d0c8,0x1e376c085141ab53,0x2748774cdf8eeb99,0x34b0bcb5e19b48a8,
 0x391c0cb3c5c95a63,0x4ed8aa4ae3418acb,0x5b9cca4f7763e373,0x682e6ff3d6b2b8a3,
 0x748f82ee5defb2fc,0x78a5636f43172f60,0x84c87814a1f0ab72,0x8cc702081a6439ec,
 0x90befffa23631e28,0xa4506cebde82bde9,0xbef9a3f7b2c67915,0xc67178f2e372532b,
 0xca273eceea26619c,0xd186b8c721c0c207,0xeada7dd6cde0eb1e,0xf57d4f7fee6ed178,
 0x06f067aa72176fba,0x0a637dc5a2c898a6,0x113f9804bef90dae,0x1b710b35131c471b,
 0x28db77f523047d84,0x32caab7b40c72493,0x3c9ebe0a15c9bebc,0x431d67c49c100d4c,
 0x4cc5d4becb3e42b6,0x597f299cfc657e2a,0x5fcb6fab3ad6faec,0x6c44198c4a475817]
def ed:List bZ:=[
 0x6a09e667f3bcc908,0xbb67ae8584caa73b,0x3c6ef372fe94f82b,0xa54ff53a5f1d36f1,
 0x510e527fade682d1,0x9b05688c2b3e6c1f,0x1f83d9abfb41bd6b,0x5be0cd19137e2179]
def mg (l : List UInt8) : bZ := l.foldl (fun n c => n <<< 8 ||| UInt64.ofNat c.toNat) 0
def qO (b:List UInt8) (m:List bZ) (t:Nat):bZ :=
 if t<16 then mg ((b.drop (8*t)).take 8)
 else qQ (m.getD (t - 2) 0) 19 61 6+m.getD (t - 7) 0+qQ (m.getD (t - 15) 0) 1 8 7+m.getD (t - 16) 0
def sched (b:List UInt8):Nat→List bZ
 |0=>[]
 |t+1=>sched b t++[qO b (sched b t) t]
theorem xZ (b:List UInt8):∀ t,(sched b t).length=t
 |0=>rfl
 |t+1=>by rw [sched,List.length_append,xZ b t];rfl
def JT (v:List bZ) (k x:bZ):List bZ :=
 let a:=v.getD 0 0;let b:=v.getD 1 0;let c:=v.getD 2 0;let d:=v.getD 3 0;let e:=v.getD 4 0;let f:=v.getD 5 0;let g:=v.getD 6 0;let h:=v.getD 7 0
 let one := h + ob e 14 18 41 + (e &&& f ^^^ ~~~e &&& g) + k + x
 let two:=ob a 28 34 39+(a &&& b ^^^ a &&& c ^^^ b &&& c)
 [one+two,a,b,c,d+one,e,f,g]
def qN (v:List bZ) (m:List bZ):Nat→List bZ
 |0=>v
 |t+1=>JT (qN v m t) (fZ.getD t 0) (m.getD t 0)
theorem EK (v m:List bZ) (h:v.length=8):∀ t,(qN v m t).length=8
 |0=>h
 |_+1=>rfl
def qP (h:List bZ) (b:List UInt8):List bZ:=List.zipWith (·+·) h (qN h (sched b 80) 80)
theorem Ke (h:List bZ) (b:List UInt8) (hl:h.length=8):(qP h b).length=8:=by
 rw [qP,List.length_zipWith,EK _ _ hl,hl];rfl
def kW (h:List bZ) (b:List UInt8):Nat→List bZ
 |0=>h
 |n+1=>qP (kW h b n) ((b.drop (128*n)).take 128)
def feed (h:List bZ) (b:List UInt8):List bZ:=kW h b (b.length / 128)
def bS (b:List UInt8):List UInt8:=b.drop (128*(b.length / 128))
theorem Ao (b:List UInt8):(bS b).length=b.length % 128:=by rw [bS,List.length_drop];omega
theorem B6 (h:List bZ) (b:List UInt8) (hl:h.length=8):∀ n,(kW h b n).length=8
 |0=>hl
 |n+1=>Ke _ _ (B6 h b hl n)
theorem wk (h:List bZ) (b:List UInt8) (hl:h.length=8):(feed h b).length=8:=B6 h b hl _
theorem GN (h:List bZ) (b c:List UInt8):∀ n,128*n≤b.length→kW h (b++c) n=kW h b n
 |0,_=>rfl
 |n+1,hn=>by
  rw [kW,kW,GN h b c n (by omega),List.drop_append_of_le_length (by omega),List.take_append_of_le_length (by rw [List.length_drop];omega)]
theorem B5 (h:List bZ) (b:List UInt8) (k:Nat):∀ n,kW h b (k+n)=kW (kW h b k) (b.drop (128*k)) n
 |0=>rfl
 |n+1=>by
  rw [← Nat.add_assoc,kW,kW,B5 h b k n,List.drop_drop,show 128*k+128*n=128*(k+n) by omega]
theorem B7 (h:List bZ) (b c:List UInt8):feed h (b++c)=feed (feed h b) (bS b++c)∧bS (b++c)=bS (bS b++c):=by
 have hb:b.length=128*(b.length / 128)+(bS b).length:=by rw [Ao];omega
 have e1:(b++c).length / 128=b.length / 128+(bS b++c).length / 128:=by
  rw [List.length_append,List.length_append];omega
 have e2:(b++c).drop (128*(b.length / 128))=bS b++c:=by
  rw [bS,List.drop_append_of_le_length (by omega)]
 constructor
 ·rw [feed,e1,B5,e2,GN h b c _ (by omega)];rfl
 ·rw [bS,e1,Nat.mul_add,← List.drop_drop,e2];rfl
theorem GO (h:List bZ) {b:List UInt8} (hb:b.length<128):feed h b=h∧bS b=b:=by
 have:b.length / 128=0:=by omega
 constructor
 ·rw [feed,this];rfl
 ·rw [bS,this];rfl
theorem MX (h:List bZ) {b:List UInt8} (hb:128≤b.length):feed h b=feed (qP h (b.take 128)) (b.drop 128)∧bS b=bS (b.drop 128):=by
 have e:b.length / 128=1+(b.drop 128).length / 128:=by rw [List.length_drop];omega
 constructor
 ·rw [feed,e,B5];rfl
 ·rw [bS,e,Nat.mul_add,← List.drop_drop];rfl
theorem M0 (h:List bZ) {b c:List UInt8} (hb:bS b=[]):feed h (b++c)=feed (feed h b) c∧bS (b++c)=bS c:=by
 have:=B7 h b c
 rwa [hb,List.nil_append] at this
theorem MZ (h:List bZ) {b c:List UInt8} (hb:(bS b++c).length<128):feed h (b++c)=feed h b∧bS (b++c)=bS b++c:=by
 obtain ⟨h1,h2⟩:=B7 h b c;obtain ⟨h3,h4⟩:=GO (feed h b) hb;exact ⟨h1.trans h3,h2.trans h4⟩
theorem MY (h:List bZ) {b c:List UInt8} (hb:(bS b++c).length=128):feed h (b++c)=qP (feed h b) (bS b++c)∧bS (b++c)=[]:=by
 obtain ⟨h1,h2⟩:=B7 h b c;obtain ⟨h3,h4⟩:=MX (feed h b) (b:=bS b++c) (by omega);have hd:(bS b++c).drop 128=[]:=List.drop_eq_nil_of_le (by omega);have ht:(bS b++c).take 128=bS b++c:=List.take_of_length_le (by omega);obtain ⟨h5,h6⟩:=GO (qP (feed h b) (bS b++c)) (b:=[]) (by decide);rw [hd,ht,h5] at h3;rw [hd,h6] at h4;exact ⟨h1.trans h3,h2.trans h4⟩
def kC (n:Nat):Nat:=(239 - n % 128) % 128
def nB (n:Nat):List UInt8:=128::List.replicate (kC n) 0++List.replicate 8 0++be (8*(n:Int))
def od (x:bZ):List UInt8:=be (x.toNat:Int)
def nA (h:List bZ):List UInt8:=(h.map od).flatten
def gY (b:List UInt8):List UInt8:=nA (feed ed (b++nB b.length))
theorem El:∀ h:List bZ,(nA h).length=8*h.length
 |[]=>rfl
 |x::h=>by
  have:=El h;rw [nA,List.map_cons,List.flatten_cons,List.length_append,List.length_cons];rw [nA] at this;rw [this,od,yq];omega
theorem o9 (b:List UInt8):(gY b).length=64:=by rw [gY,El,wk _ _ rfl]
end Go.Sp
end
section
/- Texts of this proof, one behind the other. -/
section
/- Texts of this proof, one behind the other. -/
section
/- Texts of this proof. -/
namespace Go.Sp
def mh (d:dn):Bool:=decide (1≤d.1∧d.1≤8∧1≤d.2.1∧d.2.1≤1073741824)
theorem wh {d:dn}:mh d=true↔1≤d.1∧d.1≤8∧1≤d.2.1∧d.2.1≤1073741824:=decide_eq_true_iff
def sy (v:List dn):Prop:=v.Pairwise fun a b=>a.1<b.1
instance (v:List dn):Decidable (sy v):=inferInstanceAs (Decidable (v.Pairwise fun a b=>a.1<b.1))
def jL (v:List dn):Bool:=v.all mh && decide (sy v)
theorem tX {v:List dn}:jL v=true↔(∀ d∈v,mh d=true)∧sy v:=by
 unfold jL;rw [Bool.and_eq_true,List.all_eq_true,decide_eq_true_iff]
theorem VH {v:List dn} {i:Nat} (h:i<v.length) (o:jL (v.take i)=true):jL (v.take (i+1))=true↔mh v[i]=true∧(∀ h0:0<i,v[i - 1].1<v[i].1):=by
 rw [tX] at o ⊢;rw [List.take_succ_eq_append_getElem h]
 constructor
 ·rintro ⟨h1,h2⟩
  refine ⟨h1 _ (List.mem_append_right _ (List.mem_singleton.2 rfl)),fun h0=>?_⟩;have h3:=(List.pairwise_append.1 h2).2.2;exact h3 v[i - 1] (List.mem_iff_getElem.2 ⟨i - 1,by simp;omega,by simp⟩) v[i] (List.mem_singleton.2 rfl)
 ·rintro ⟨h1,h2⟩
  refine ⟨fun d hd=>?_,List.pairwise_append.2 ⟨o.2,List.pairwise_singleton ..,fun a ha b hb=>?_⟩⟩
  ·rcases List.mem_append.1 hd with hd|hd
   ·exact o.1 d hd
   ·rw [List.mem_singleton.1 hd];exact h1
  ·rw [List.mem_singleton.1 hb]
   obtain ⟨j,hj,rfl⟩:=List.mem_iff_getElem.1 ha;rw [List.length_take] at hj;rw [List.getElem_take];have h3:=h2 (by omega)
   by_cases hji:j=i - 1
   ·subst hji;exact h3
   ·have h5:=List.pairwise_iff_getElem.1 o.2 j (i - 1) (by simp;omega) (by simp;omega) (by omega)
    rw [List.getElem_take,List.getElem_take] at h5;exact Int.lt_trans h5 h3
theorem VI {v:List dn} (i:Nat) (o:jL v=true):jL (v.take i)=true:=by
 rw [tX] at o ⊢;exact ⟨fun d hd=>o.1 d (List.mem_of_mem_take hd),o.2.sublist (List.take_sublist ..)⟩
theorem KQ {v:List dn} {i:Nat} (h:jL (v.take i)=false):jL v=false:=by
 cases e:jL v with
 |false=>rfl
 |true=>rw [VI i e] at h;cases h
def uR (v:List dn) (d:dn):Bool:=v.any fun x=>decide (x.1=d.1∧d.2.1≤x.2.1)
def rG (v:List dn) (d:dn):Bool:=jL v && mh d && uR v d
theorem NT {v:List dn} {d:dn} (o:sy v) {k:Nat} (h:k<v.length) (hk:v[k].1=d.1):uR v d=decide (d.2.1≤v[k].2.1):=by
 unfold uR
 by_cases e:d.2.1≤v[k].2.1
 ·rw [decide_eq_true e,List.any_eq_true]
  exact ⟨v[k],List.getElem_mem h,decide_eq_true ⟨hk,e⟩⟩
 ·rw [decide_eq_false e,List.any_eq_false]
  intro x hx
  obtain ⟨j,hj,rfl⟩:=List.mem_iff_getElem.1 hx;rw [decide_eq_true_iff];rintro ⟨h1,h2⟩
  rcases Nat.lt_trichotomy j k with h3|h3|h3
  ·have:=List.pairwise_iff_getElem.1 o j k hj h h3;omega
  ·subst h3;exact e h2
  ·have:=List.pairwise_iff_getElem.1 o k j h hj h3;omega
theorem NU {v:List dn} {d:dn} (h:∀ i (hi:i<v.length),v[i].1≠d.1):uR v d=false:=by
 unfold uR;rw [List.any_eq_false]
 intro x hx
 obtain ⟨j,hj,rfl⟩:=List.mem_iff_getElem.1 hx;rw [decide_eq_true_iff];exact fun q=>h j hj q.1
theorem xS {v:List dn} (h:jL v=true):v.length≤8:=by
 obtain ⟨h1,h2⟩:=tX.1 h;have key:∀ i (hi:i<v.length),(i:Int)+1≤v[i].1:=by
  intro i
  induction i with
  |zero=>intro hi;have:=wh.1 (h1 _ (List.getElem_mem hi));omega
  |succ i ih =>
   intro hi
   have a:=ih (by omega);have b:=List.pairwise_iff_getElem.1 h2 i (i+1) (by omega) hi (by omega)
   omega
 rcases Nat.lt_or_ge 8 v.length with q|q
 ·have a:=key (v.length - 1) (by omega)
  have b:=wh.1 (h1 _ (List.getElem_mem (show v.length - 1<v.length by omega)))
  omega
 ·exact q
end Go.Sp
end
section
/- Texts of this proof. -/
namespace Go.Sp
abbrev iu (x:aQ):dn:=(x.2.1,x.2.2.1,())
def shaped (x:aQ):Bool:=decide (1≤x.1.length) && (decide (x.1.length≤64) && (mh (iu x) && (jL x.2.2.2.1 && (!rG x.2.2.2.1 (iu x) && (decide (x.2.2.2.2.2.1.length≤1024) && (!x.2.2.2.2.1 ||decide (x.2.2.2.2.2.1.length=0)))))))
theorem x2 {x:aQ}:shaped x=true↔1≤x.1.length∧x.1.length≤64∧mh (iu x)=true∧jL x.2.2.2.1=true∧rG x.2.2.2.1 (iu x)=false∧x.2.2.2.2.2.1.length≤1024∧(x.2.2.2.2.1=true→x.2.2.2.2.2.1.length=0):=by
 unfold shaped;simp only [Bool.and_eq_true,decide_eq_true_eq,Bool.not_eq_true',Bool.or_eq_true];refine ⟨fun ⟨a,b,c,d,e,f,g⟩=>⟨a,b,c,d,e,f,fun h=>?_⟩,fun ⟨a,b,c,d,e,f,g⟩=>⟨a,b,c,d,e,f,?_⟩⟩
 ·rcases g with g|g
  ·rw [h] at g;cases g
  ·exact g
 ·cases h:x.2.2.2.2.1
  ·exact .inl rfl
  ·exact .inr (g h)
def ea (x:aQ):Bool:=shaped x && decide (x.2.2.2.2.2.2.1.length=64)
theorem vm {x:aQ}:ea x=true↔shaped x=true∧x.2.2.2.2.2.2.1.length=64:=by unfold ea;rw [Bool.and_eq_true,decide_eq_true_iff]
def oD (l:List dn):List UInt8:=(l.map fun d=>be d.1++be d.2.1).flatten
@[simp] theorem WI:oD []=[]:=rfl
@[simp] theorem B0 (d:dn) (l:List dn):oD (d::l)=be d.1++(be d.2.1++oD l):=by simp [oD]
theorem MK (l:List dn):(oD l).length=16*l.length:=by
 induction l with
 |nil=>rfl
 |cons d l ih=>rw [B0];simp [ih];omega
def nj (b:Bool):UInt8:=if b then 1 else 0
def ja (x:aQ):List UInt8:=[1]++(bytesOf x.1++(be x.2.1++(be x.2.2.1++(be x.2.2.2.1.length++(oD x.2.2.2.1++([nj x.2.2.2.2.1]++bytesOf x.2.2.2.2.2.1))))))
def b7 (x:aQ):List UInt8:=ja x++x.2.2.2.2.2.2.1
theorem Tw (x:aQ):(ja x).length=42+x.1.length+16*x.2.2.2.1.length+x.2.2.2.2.2.1.length:=by simp [ja,MK];omega
theorem JQ {x:aQ} (h:shaped x=true):(ja x).length≤1300:=by
 obtain ⟨_,h1,_,h2,_,h3,_⟩:=x2.1 h;have:=xS h2;rw [Tw];omega
theorem Aj {x:aQ} (h:ea x=true):(b7 x).length≤1400:=by
 obtain ⟨h1,h2⟩:=vm.1 h;have:=JQ h1
 simp [b7];omega
def over (a b:aQ):Bool:=decide (a.1=b.1) && (shaped a && (shaped b && rG a.2.2.2.1 (iu b)))
end Go.Sp
end
end
section
/- Texts of this proof. -/
namespace Go.Sp
def kj (x y:Int):Int:=if x<y then -1 else if y<x then 1 else 0
theorem BK (x y:Int):cE (kj x y):=by unfold kj;split<;>(try split)<;>(constructor<;>omega)
theorem Gt {x y:Int}:kj x y<0↔x<y:=by unfold kj;split<;>(try split)<;>omega
theorem vZ {x y:Int}:kj x y=0↔x=y:=by unfold kj;split<;>(try split)<;>omega
def dN (a b:aQ):Int:=if kj a.2.1 b.2.1≠0 then kj a.2.1 b.2.1 else kj a.2.2.1 b.2.2.1
theorem Gq (a b:aQ):cE (dN a b):=by unfold dN;split<;>exact BK _ _
theorem BJ {a b:aQ}:dN a b=0↔iu a=iu b:=by
 unfold dN iu
 split
 ·rename_i h
  refine ⟨fun q=>absurd q h,fun q=>absurd (vZ.2 (Prod.mk.inj q).1) h⟩
 ·rename_i h
  have h1:a.2.1=b.2.1:=vZ.1 (Classical.not_not.1 h);rw [vZ,h1];exact ⟨fun q=>by rw [q],fun q=>(Prod.mk.inj (Prod.mk.inj q).2).1⟩
theorem uB {a b:aQ}:dN a b<0↔a.2.1<b.2.1∨a.2.1=b.2.1∧a.2.2.1<b.2.2.1:=by
 unfold dN
 split
 ·rename_i h
  have h1:a.2.1≠b.2.1:=fun q=>h (vZ.2 q);rw [Gt];exact ⟨.inl,fun q=>q.elim id fun q=>absurd q.1 h1⟩
 ·rename_i h
  have h1:a.2.1=b.2.1:=vZ.1 (Classical.not_not.1 h);rw [Gt];exact ⟨fun q=>.inr ⟨h1,q⟩,fun q=>q.elim (fun q=>absurd q (by omega)) fun q=>q.2⟩
def gZ (l:List aQ) (x:aQ):Bool:=l.any fun y=>decide (dN x y≠0) && over y x
def gV (l:List aQ):Bool:=l.all fun x=>ea x && decide (x.1=(l.headD x).1)
theorem xL {l:List aQ}:gV l=true↔∀ i (h:i<l.length),ea l[i]=true∧l[i].1=(l[0]'(by omega)).1:=by
 unfold gV;rw [List.all_eq_true]
 constructor
 ·intro h i hi
  have:=h l[i] (List.getElem_mem hi);rw [Bool.and_eq_true,decide_eq_true_iff] at this
  cases l with
  |nil=>cases hi
  |cons a l=>exact this
 ·intro h x hx
  obtain ⟨i,hi,rfl⟩:=List.mem_iff_getElem.1 hx;have:=h i hi;rw [Bool.and_eq_true,decide_eq_true_iff]
  cases l with
  |nil=>cases hi
  |cons a l=>exact this
theorem Ei {l:List aQ} (i:Nat) (h:gV l=true):gV (l.take i)=true:=by
 rw [xL] at h ⊢
 intro j hj
 have hj' :j<l.length:=by simp at hj;omega
 have:=h j hj';simp only [List.getElem_take];exact this
theorem Se {l:List aQ} {x:aQ} (h:gV l=true):gV (l++[x])=true↔ea x=true∧(∀ h0:0<l.length,x.1=l[0].1):=by
 rw [xL] at h ⊢
 constructor
 ·intro q
  have h1:=q l.length (by simp);rw [List.getElem_append_right (Nat.le_refl _)] at h1;simp only [Nat.sub_self,List.getElem_cons_zero] at h1;refine ⟨h1.1,fun h0=>?_⟩;rw [h1.2,List.getElem_append_left h0]
 ·rintro ⟨h1,h2⟩ j hj
  by_cases hl:j<l.length
  ·rw [List.getElem_append_left hl,List.getElem_append_left (by omega)]
   exact h j hl
  ·have hj2:j=l.length:=by simp at hj;omega
   subst hj2;rw [List.getElem_append_right (Nat.le_refl _)];simp only [Nat.sub_self,List.getElem_cons_zero];refine ⟨h1,?_⟩
   by_cases h0:0<l.length
   ·rw [List.getElem_append_left h0];exact h2 h0
   ·have:l=[]:=List.eq_nil_of_length_eq_zero (by omega)
    subst this;rfl
def fG (l:List aQ):Prop:=gV l=true∧∀ j (h:j<l.length),(∀ h0:0<j,dN l[j-1] l[j]<0)∧gZ l l[j]=false
instance (l:List aQ):Decidable (fG l):=by unfold fG;infer_instance
def bK:ag aQ:=ag.Gu (fun x=>(x,b7 x,())) (ag.prod dc (ag.prod (ag.slice ag.u8) ag.unit))
theorem bK.open {h:Fr} {cs:List Value} {x:aQ} (r:bK.rel h cs x):∃ cs' a c,cs=cs' ++[.slice a (b7 x).length c]∧dc.rel h cs' x∧aj ag.u8 h (.slice a (b7 x).length c) (b7 x):=by
 obtain ⟨c1,c2,rfl,r1,c3,gL,rfl,⟨v,rfl,r2⟩,r3⟩:=r;obtain rfl:gL=[]:=r3;obtain ⟨a,c,rfl⟩:=r2.shape;exact ⟨c1,a,c,rfl,r1,r2⟩
theorem bK.sh {h:Fr} {cs:List Value} {x:aQ} (r:bK.rel h cs x):∃ a3 a5 a6 a7 c3 dM dD ia,cs=[.string (str x.1),.int .i64 x.2.1,.int .i64 x.2.2.1,.slice a3 x.2.2.2.1.length c3,.bool x.2.2.2.2.1,.slice a5 x.2.2.2.2.2.1.length dM,.slice a6 x.2.2.2.2.2.2.1.length dD,.slice a7 (b7 x).length ia] ∧
  dc.rel h [.string (str x.1),.int .i64 x.2.1,.int .i64 x.2.2.1,.slice a3 x.2.2.2.1.length c3,.bool x.2.2.2.2.1,.slice a5 x.2.2.2.2.2.1.length dM,.slice a6 x.2.2.2.2.2.2.1.length dD] x∧aj ag.u8 h (.slice a7 (b7 x).length ia) (b7 x):=by
 obtain ⟨cs',a7,ia,rfl,h1,h2⟩:=bK.open r;obtain ⟨a3,a5,a6,c3,dM,dD,rfl,_⟩:=dc.sh h1;exact ⟨a3,a5,a6,a7,c3,dM,dD,ia,rfl,h1,h2⟩
theorem bK.mk {h:Fr} {cs:List Value} {x:aQ} {v:Value} (h1:dc.rel h cs x) (h2:aj ag.u8 h v (b7 x)):bK.rel h (cs++[v]) x :=
 ⟨cs,[v],rfl,h1,[v],[],rfl,⟨v,rfl,h2⟩,rfl⟩
def lq (r:Fr) (e:TypeId) (cs:List Value) (x:aQ):az:=fun m=>∃ cs' a c,cs=cs' ++[.slice a (b7 x).length c]∧dc.rel r cs' x∧av ag.u8 e (.slice a (b7 x).length c) (b7 x) m
theorem lq.rel {r h:Fr} {e:TypeId} {cs:List Value} {x:aQ} {m:Fr} (hr:r.sub h) (hm:m.sub h):lq r e cs x m→bK.rel h cs x
 |⟨cs',a,c,h1,h2,h3⟩=>by subst h1;exact bK.mk (h2.mono hr) (h3.arr.mono hm)
def e_ (r:Fr) (tR x6 e:TypeId) (b:Nat) (xs:List aQ):az:=fun m=>∃ p:(Option Addr × Nat) × List (List Value),Sat [obj b tR [.slice p.1.1 xs.length p.1.2],av (ag.cells 8) x6 (.slice p.1.1 xs.length p.1.2) p.2,b5 (lq r e) p.2 xs] m
def q3 (h:Fr) (b:Nat) (xs:List aQ):Prop:=∃ a c,At h ⟨b,0,none⟩ [.slice a xs.length c]∧aj bK h (.slice a xs.length c) xs
theorem e_.read {r h:Fr} {tR x6 e:TypeId} {b:Nat} {xs:List aQ} {m:Fr} (hr:r.sub h) (hm:m.sub h):e_ r tR x6 e b xs m→q3 h b xs
 |⟨p,m1,k1,_,s1,t1,y1,m2,k2,_,s2,t2,Fe,m3,aR,_,s3,_,Ff,_⟩=>by
  refine ⟨p.1.1,p.1.2,(fK y1).mono (Fr.aI s1 hm),?_⟩;have ha:=Fe.arr.mono (Fr.aI s2 (Fr.aI t1 hm));refine aj.j4 (k:=8) ha (b5.sB (fun cs a m' z q=>lq.rel hr q z) Ff (Fr.aI s3 (Fr.aI t2 (Fr.aI t1 hm)))) rfl
theorem e_.nil {r:Fr} {tR x6 e:TypeId} {b:Nat} {m:Fr} (x:obj b tR [.slice none 0 0] m):e_ r tR x6 e b [] m :=
 ⟨((none,0),[]),m,Fr.emp,Fr.eX (Fr.dW _),Fr.bW _,Fr.c4 _,x,Fr.emp,Fr.emp,Fr.dW _,Fr.c4 _,Fr.c4 _,zZ _,Fr.emp,Fr.emp,Fr.dW _,Fr.c4 _,Fr.c4 _,trivial,trivial⟩
theorem q3.mono {h k:Fr} (s:h.sub k) {b:Nat} {xs:List aQ}:q3 h b xs→q3 k b xs
 |⟨a,c,h1,h2⟩=>⟨a,c,h1.mono s,h2.mono s⟩
def jI (l:List aQ):List UInt8:=(l.map fun x=>bytesOf (b7 x)).flatten
def kE (l:List aQ):List UInt8:=be l.length++jI l
theorem Ua (l:List aQ) (x:aQ):jI (l++[x])=jI l++bytesOf (b7 x):=by simp [jI]
theorem ES (l:List aQ) (h:∀ x∈l,ea x=true):(jI l).length≤1408*l.length:=by
 induction l with
 |nil=>simp [jI]
 |cons a l ih =>
  have h1:=Aj (h a (List.mem_cons_self ..));have h2:=ih fun x hx=>h x (List.mem_cons_of_mem _ hx);simp only [jI,List.map_cons,List.flatten_cons,List.length_append,Gc,List.length_cons] at h2 ⊢
  omega
theorem qL {l:List aQ} (h:gV l=true):∀ x∈l,ea x=true:=fun x hx=>by
 obtain ⟨i,hi,rfl⟩:=List.mem_iff_getElem.1 hx;exact (xL.1 h i hi).1
theorem J2 {l:List aQ} (h:gV l=true):(kE l).length≤8+1408*l.length:=by
 have:=ES l (qL h)
 simp [kE];omega
end Go.Sp
end
end
