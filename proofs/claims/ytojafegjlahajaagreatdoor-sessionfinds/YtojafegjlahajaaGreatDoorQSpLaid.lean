/- Texts of this proof, one behind the other. -/
import Derived.Test.YtojafegjlahajaaGreatDoorQSpGo
import Derived.Lib.Bytealg
import Derived.Laws.Externs
import Derived.OpenShut
import Derived.LaidSub
set_option linter.unusedSectionVars false
section
/- Texts of this proof, one behind the other. -/
section
/- Texts of this proof. -/
namespace Go.Sp
abbrev b6:=UInt64
abbrev qp (x:b6):Value:=.int .u64 (x.toNat:Int)
theorem Br (x:b6):x.toNat<18446744073709551616:=x.toNat_lt
theorem rz {k:Nat} (h:k<18446744073709551616):IntKind.u64.wrap (k:Int)=k:=by rw [uG];unfold u64;omega
theorem pT (x y:b6):IntKind.u64.wrap ((x.toNat:Int)+(y.toNat:Int))=((x+y).toNat:Int):=by
 rw [← Int.natCast_add,uG,UInt64.toNat_add];unfold u64;omega
theorem u3 (x:b6):BitVec.ofInt IntKind.u64.bits (x.toNat:Int)=x.toBitVec:=by
 have:=Br x
 apply BitVec.eq_of_toNat_eq
 rw [BitVec.toNat_ofInt];simp only [IntKind.bits]
 show _=x.toNat
 omega
theorem sM (x y:b6):bitsOf .xor .u64 (x.toNat:Int) (y.toNat:Int)=((x ^^^ y).toNat:Int):=by
 simp only [bitsOf];rw [u3,u3];exact rz (Br (x ^^^ y))
theorem we (x y:b6):bitsOf .and .u64 (x.toNat:Int) (y.toNat:Int)=((x &&& y).toNat:Int):=by
 simp only [bitsOf];rw [u3,u3];exact rz (Br (x &&& y))
theorem L3 (x y : b6) : bitsOf .or .u64 (x.toNat : Int) (y.toNat : Int) = ((x ||| y).toNat : Int) := by
 simp only [bitsOf]; rw [u3, u3];exact rz (Br (x ||| y))
theorem Yf (x : b6) : bitsOf .xor .u64 18446744073709551615 (x.toNat : Int) = ((~~~x).toNat : Int) := by
 have e : (18446744073709551615 : Int) = ((18446744073709551615 : b6).toNat : Int) := rfl;rw [e, sM];have : (18446744073709551615 : b6) ^^^ x = ~~~x := by
  apply UInt64.toBitVec_inj.1
  show (18446744073709551615 : b6).toBitVec ^^^ x.toBitVec = ~~~x.toBitVec
  rw [show (18446744073709551615:b6).toBitVec=BitVec.allOnes 64 from rfl,BitVec.allOnes_xor]
 rw [this]
theorem L4 (x:b6) {n:Nat} (h:n<64):IntKind.u64.wrap ((x.toNat:Int)*2 ^ min n IntKind.u64.bits)=((x <<<UInt64.ofNat n).toNat:Int):=by
 have e:min n IntKind.u64.bits=n:=by simp only [IntKind.bits];omega
 rw [e,show ((x.toNat:Int)*2 ^ n)=((x.toNat*2 ^ n:Nat):Int) from by simp,uG,UInt64.toNat_shiftLeft];have:(UInt64.ofNat n).toNat % 64=n:=by rw [UInt64.toNat_ofNat'];omega
 rw [this,Nat.shiftLeft_eq];unfold u64;omega
theorem L5 (x:b6) {n:Nat} (h:n<64):((x.toNat:Int).fdiv (2 ^ min n IntKind.u64.bits))=((x >>>UInt64.ofNat n).toNat:Int):=by
 have e:min n IntKind.u64.bits=n:=by simp only [IntKind.bits];omega
 have e2:((2:Int) ^ n)=((2 ^ n:Nat):Int):=by simp
 rw [e,e2,Int.fdiv_eq_ediv_of_nonneg _ (Int.natCast_nonneg _),UInt64.toNat_shiftRight];have:(UInt64.ofNat n).toNat % 64=n:=by rw [UInt64.toNat_ofNat'];omega
 rw [this,Nat.shiftRight_eq_div_pow];rfl
theorem TS {a:Nat} {z:Int} (hz:z=0 - (a:Int)) (h0:0<a) (h:a<64):bitsOf .and .u64 (IntKind.u64.wrap z) 63=((64 - a:Nat):Int):=by
 have e1:IntKind.u64.wrap z=((UInt64.ofNat (18446744073709551616 - a)).toNat:Int):=by
  rw [uG,hz];unfold u64;rw [UInt64.toNat_ofNat'];omega
 have e2:(63:Int)=((63:b6).toNat:Int):=rfl;rw [e1,e2,we];have ck:(UInt64.ofNat (18446744073709551616 - a) &&& 63).toNat=64 - a:=by
  rw [UInt64.toNat_and,show (63:b6).toNat=2 ^ 6 - 1 from rfl,Nat.and_two_pow_sub_one_eq_mod];rw [UInt64.toNat_ofNat'];omega
 rw [ck]
def pO (x : b6) (n : Nat) : b6 := x >>> UInt64.ofNat n ||| x <<< UInt64.ofNat (64 - n)
def oA (x:b6) (a b c:Nat):b6:=pO x a ^^^ pO x b ^^^ pO x c
def rq (x:b6) (a b s:Nat):b6:=pO x a ^^^ pO x b ^^^ x >>>UInt64.ofNat s
def gq:List b6:=[
 0x428a2f98d728ae22,0x7137449123ef65cd,0xb5c0fbcfec4d3b2f,0xe9b5dba58189dbbc,
 0x3956c25bf348b538,0x59f111f1b605d019,0x923f82a4af194f9b,0xab1c5ed5da6d8118,
 0xd807aa98a3030242,0x12835b0145706fbe,0x243185be4ee4b28c,0x550c7dc3d5ffb4e2,
 0x72be5d74f27b896f,0x80deb1fe3b1696b1,0x9bdc06a725c71235,0xc19bf174cf692694,
 0xe49b69c19ef14ad2,0xefbe4786384f25e3,0x0fc19dc68b8cd5b5,0x240ca1cc77ac9c65,
 0x2de92c6f592b0275,0x4a7484aa6ea6e483,0x5cb0a9dcbd41fbd4,0x76f988da831153b5,
 0x983e5152ee66dfab,0xa831c66d2db43210,0xb00327c898fb213f,0xbf597fc7beef0ee4,
 0xc6e00bf33da88fc2,0xd5a79147930aa725,0x06ca6351e003826f,0x142929670a0e6e70,
 0x27b70a8546d22ffc,0x2e1b21385c26c926,0x4d2c6dfc5ac42aed,0x53380d139d95b3df,
 0x650a73548baf63de,0x766a0abb3c77b2a8,0x81c2c92e47edaee6,0x92722c851482353b,
 0xa2bfe8a14cf10364,0xa81a664bbc423001,0xc24b8b70d0f89791,0xc76c51a30654be30,
 0xd192e819d6ef5218,0xd69906245565a910,0xf40e35855771202a,0x106aa07032bbd1b8,
 0x19a4c116b8d2d0c8,0x1e376c085141ab53,0x2748774cdf8eeb99,0x34b0bcb5e19b48a8,
 0x391c0cb3c5c95a63,0x4ed8aa4ae3418acb,0x5b9cca4f7763e373,0x682e6ff3d6b2b8a3,
 0x748f82ee5defb2fc,0x78a5636f43172f60,0x84c87814a1f0ab72,0x8cc702081a6439ec,
 0x90befffa23631e28,0xa4506cebde82bde9,0xbef9a3f7b2c67915,0xc67178f2e372532b,
 0xca273eceea26619c,0xd186b8c721c0c207,0xeada7dd6cde0eb1e,0xf57d4f7fee6ed178,
 0x06f067aa72176fba,0x0a637dc5a2c898a6,0x113f9804bef90dae,0x1b710b35131c471b,
 0x28db77f523047d84,0x32caab7b40c72493,0x3c9ebe0a15c9bebc,0x431d67c49c100d4c,
 0x4cc5d4becb3e42b6,0x597f299cfc657e2a,0x5fcb6fab3ad6faec,0x6c44198c4a475817]
def ev:List b6:=[
 0x6a09e667f3bcc908,0xbb67ae8584caa73b,0x3c6ef372fe94f82b,0xa54ff53a5f1d36f1,
 0x510e527fade682d1,0x9b05688c2b3e6c1f,0x1f83d9abfb41bd6b,0x5be0cd19137e2179]
def mH (l : List UInt8) : b6 := l.foldl (fun n c => n <<< 8 ||| UInt64.ofNat c.toNat) 0
def rj (b:List UInt8) (m:List b6) (t:Nat):b6 :=
 if t<16 then mH ((b.drop (8*t)).take 8)
 else rq (m.getD (t - 2) 0) 19 61 6+m.getD (t - 7) 0+rq (m.getD (t - 15) 0) 1 8 7+m.getD (t - 16) 0
def sched (b:List UInt8):Nat→List b6
 |0=>[]
 |t+1=>sched b t++[rj b (sched b t) t]
theorem yy (b:List UInt8):∀ t,(sched b t).length=t
 |0=>rfl
 |t+1=>by rw [sched,List.length_append,yy b t];rfl
def K5 (v:List b6) (k x:b6):List b6 :=
 let a:=v.getD 0 0;let b:=v.getD 1 0;let c:=v.getD 2 0;let d:=v.getD 3 0;let e:=v.getD 4 0;let f:=v.getD 5 0;let g:=v.getD 6 0;let h:=v.getD 7 0
 let one := h + oA e 14 18 41 + (e &&& f ^^^ ~~~e &&& g) + k + x
 let two:=oA a 28 34 39+(a &&& b ^^^ a &&& c ^^^ b &&& c)
 [one+two,a,b,c,d+one,e,f,g]
def rf (v:List b6) (m:List b6):Nat→List b6
 |0=>v
 |t+1=>K5 (rf v m t) (gq.getD t 0) (m.getD t 0)
theorem FR (v m:List b6) (h:v.length=8):∀ t,(rf v m t).length=8
 |0=>h
 |_+1=>rfl
def rp (h:List b6) (b:List UInt8):List b6:=List.zipWith (·+·) h (rf h (sched b 80) 80)
theorem Lt (h:List b6) (b:List UInt8) (hl:h.length=8):(rp h b).length=8:=by
 rw [rp,List.length_zipWith,FR _ _ hl,hl];rfl
def lp (h:List b6) (b:List UInt8):Nat→List b6
 |0=>h
 |n+1=>rp (lp h b n) ((b.drop (128*n)).take 128)
def feed (h:List b6) (b:List UInt8):List b6:=lp h b (b.length / 128)
def bV (b:List UInt8):List UInt8:=b.drop (128*(b.length / 128))
theorem A4 (b:List UInt8):(bV b).length=b.length % 128:=by rw [bV,List.length_drop];omega
theorem CP (h:List b6) (b:List UInt8) (hl:h.length=8):∀ n,(lp h b n).length=8
 |0=>hl
 |n+1=>Lt _ _ (CP h b hl n)
theorem wV (h:List b6) (b:List UInt8) (hl:h.length=8):(feed h b).length=8:=CP h b hl _
theorem HV (h:List b6) (b c:List UInt8):∀ n,128*n≤b.length→lp h (b++c) n=lp h b n
 |0,_=>rfl
 |n+1,hn=>by
  rw [lp,lp,HV h b c n (by omega),List.drop_append_of_le_length (by omega),List.take_append_of_le_length (by rw [List.length_drop];omega)]
theorem CO (h:List b6) (b:List UInt8) (k:Nat):∀ n,lp h b (k+n)=lp (lp h b k) (b.drop (128*k)) n
 |0=>rfl
 |n+1=>by
  rw [← Nat.add_assoc,lp,lp,CO h b k n,List.drop_drop,show 128*k+128*n=128*(k+n) by omega]
theorem CQ (h:List b6) (b c:List UInt8):feed h (b++c)=feed (feed h b) (bV b++c)∧bV (b++c)=bV (bV b++c):=by
 have hb:b.length=128*(b.length / 128)+(bV b).length:=by rw [A4];omega
 have e1:(b++c).length / 128=b.length / 128+(bV b++c).length / 128:=by
  rw [List.length_append,List.length_append];omega
 have e2:(b++c).drop (128*(b.length / 128))=bV b++c:=by
  rw [bV,List.drop_append_of_le_length (by omega)]
 constructor
 ·rw [feed,e1,CO,e2,HV h b c _ (by omega)];rfl
 ·rw [bV,e1,Nat.mul_add,← List.drop_drop,e2];rfl
theorem HW (h:List b6) {b:List UInt8} (hb:b.length<128):feed h b=h∧bV b=b:=by
 have:b.length / 128=0:=by omega
 constructor
 ·rw [feed,this];rfl
 ·rw [bV,this];rfl
theorem Ol (h:List b6) {b:List UInt8} (hb:128≤b.length):feed h b=feed (rp h (b.take 128)) (b.drop 128)∧bV b=bV (b.drop 128):=by
 have e:b.length / 128=1+(b.drop 128).length / 128:=by rw [List.length_drop];omega
 constructor
 ·rw [feed,e,CO];rfl
 ·rw [bV,e,Nat.mul_add,← List.drop_drop];rfl
theorem Oo (h:List b6) {b c:List UInt8} (hb:bV b=[]):feed h (b++c)=feed (feed h b) c∧bV (b++c)=bV c:=by
 have:=CQ h b c
 rwa [hb,List.nil_append] at this
theorem On (h:List b6) {b c:List UInt8} (hb:(bV b++c).length<128):feed h (b++c)=feed h b∧bV (b++c)=bV b++c:=by
 obtain ⟨h1,h2⟩:=CQ h b c;obtain ⟨h3,h4⟩:=HW (feed h b) hb;exact ⟨h1.trans h3,h2.trans h4⟩
theorem Om (h:List b6) {b c:List UInt8} (hb:(bV b++c).length=128):feed h (b++c)=rp (feed h b) (bV b++c)∧bV (b++c)=[]:=by
 obtain ⟨h1,h2⟩:=CQ h b c;obtain ⟨h3,h4⟩:=Ol (feed h b) (b:=bV b++c) (by omega);have hd:(bV b++c).drop 128=[]:=List.drop_eq_nil_of_le (by omega);have ht:(bV b++c).take 128=bV b++c:=List.take_of_length_le (by omega);obtain ⟨h5,h6⟩:=HW (rp (feed h b) (bV b++c)) (b:=[]) (by decide);rw [hd,ht,h5] at h3;rw [hd,h6] at h4;exact ⟨h1.trans h3,h2.trans h4⟩
def kM (n:Nat):Nat:=(239 - n % 128) % 128
def nS (n:Nat):List UInt8:=128::List.replicate (kM n) 0++List.replicate 8 0++be (8*(n:Int))
def oC (x:b6):List UInt8:=be (x.toNat:Int)
def nR (h:List b6):List UInt8:=(h.map oC).flatten
def lK (b:List UInt8):List UInt8:=nR (feed ev (b++nS b.length))
theorem Fq:∀ h:List b6,(nR h).length=8*h.length
 |[]=>rfl
 |x::h=>by
  have:=Fq h;rw [nR,List.map_cons,List.flatten_cons,List.length_append,List.length_cons];rw [nR] at this;rw [this,oC,y5];omega
theorem qi (b:List UInt8):(lK b).length=64:=by rw [lK,Fq,wV _ _ rfl]
end Go.Sp
end
section
/- Texts of this proof, one behind the other. -/
section
/- Texts of this proof, one behind the other. -/
section
/- Texts of this proof. -/
namespace Go.Sp
def mJ (d:dz):Bool:=decide (1≤d.1∧d.1≤8∧1≤d.2.1∧d.2.1≤1073741824)
theorem wR {d:dz}:mJ d=true↔1≤d.1∧d.1≤8∧1≤d.2.1∧d.2.1≤1073741824:=decide_eq_true_iff
def sW (v:List dz):Prop:=v.Pairwise fun a b=>a.1<b.1
instance (v:List dz):Decidable (sW v):=inferInstanceAs (Decidable (v.Pairwise fun a b=>a.1<b.1))
def jS (v:List dz):Bool:=v.all mJ && decide (sW v)
theorem uD {v:List dz}:jS v=true↔(∀ d∈v,mJ d=true)∧sW v:=by
 unfold jS;rw [Bool.and_eq_true,List.all_eq_true,decide_eq_true_iff]
theorem Ya {v:List dz} {i:Nat} (h:i<v.length) (o:jS (v.take i)=true):jS (v.take (i+1))=true↔mJ v[i]=true∧(∀ h0:0<i,v[i - 1].1<v[i].1):=by
 rw [uD] at o ⊢;rw [List.take_succ_eq_append_getElem h]
 constructor
 ·rintro ⟨h1,h2⟩
  refine ⟨h1 _ (List.mem_append_right _ (List.mem_singleton.2 rfl)),fun h0=>?_⟩;have h3:=(List.pairwise_append.1 h2).2.2;exact h3 v[i - 1] (List.mem_iff_getElem.2 ⟨i - 1,by simp;omega,by simp⟩) v[i] (List.mem_singleton.2 rfl)
 ·rintro ⟨h1,h2⟩
  refine ⟨fun d hd=>?_,List.pairwise_append.2 ⟨o.2,List.pairwise_singleton ..,fun a ha b hb=>?_⟩⟩
  ·rcases List.mem_append.1 hd with hd|hd
   ·exact o.1 d hd
   ·rw [List.mem_singleton.1 hd];exact h1
  ·rw [List.mem_singleton.1 hb]
   obtain ⟨j,hj,rfl⟩:=List.mem_iff_getElem.1 ha;rw [List.length_take] at hj;rw [List.getElem_take];have h3:=h2 (by omega)
   by_cases hji:j=i - 1
   ·subst hji;exact h3
   ·have h5:=List.pairwise_iff_getElem.1 o.2 j (i - 1) (by simp;omega) (by simp;omega) (by omega)
    rw [List.getElem_take,List.getElem_take] at h5;exact Int.lt_trans h5 h3
theorem Yb {v:List dz} (i:Nat) (o:jS v=true):jS (v.take i)=true:=by
 rw [uD] at o ⊢;exact ⟨fun d hd=>o.1 d (List.mem_of_mem_take hd),o.2.sublist (List.take_sublist ..)⟩
theorem L2 {v:List dz} {i:Nat} (h:jS (v.take i)=false):jS v=false:=by
 cases e:jS v with
 |false=>rfl
 |true=>rw [Yb i e] at h;cases h
def vv (v:List dz) (d:dz):Bool:=v.any fun x=>decide (x.1=d.1∧d.2.1≤x.2.1)
def rU (v:List dz) (d:dz):Bool:=jS v && mJ d && vv v d
theorem Pw {v:List dz} {d:dz} (o:sW v) {k:Nat} (h:k<v.length) (hk:v[k].1=d.1):vv v d=decide (d.2.1≤v[k].2.1):=by
 unfold vv
 by_cases e:d.2.1≤v[k].2.1
 ·rw [decide_eq_true e,List.any_eq_true]
  exact ⟨v[k],List.getElem_mem h,decide_eq_true ⟨hk,e⟩⟩
 ·rw [decide_eq_false e,List.any_eq_false]
  intro x hx
  obtain ⟨j,hj,rfl⟩:=List.mem_iff_getElem.1 hx;rw [decide_eq_true_iff];rintro ⟨h1,h2⟩
  rcases Nat.lt_trichotomy j k with h3|h3|h3
  ·have:=List.pairwise_iff_getElem.1 o j k hj h h3;omega
  ·subst h3;exact e h2
  ·have:=List.pairwise_iff_getElem.1 o k j h hj h3;omega
theorem Px {v:List dz} {d:dz} (h:∀ i (hi:i<v.length),v[i].1≠d.1):vv v d=false:=by
 unfold vv;rw [List.any_eq_false]
 intro x hx
 obtain ⟨j,hj,rfl⟩:=List.mem_iff_getElem.1 hx;rw [decide_eq_true_iff];exact fun q=>h j hj q.1
theorem yq {v:List dz} (h:jS v=true):v.length≤8:=by
 obtain ⟨h1,h2⟩:=uD.1 h;have key:∀ i (hi:i<v.length),(i:Int)+1≤v[i].1:=by
  intro i
  induction i with
  |zero=>intro hi;have:=wR.1 (h1 _ (List.getElem_mem hi));omega
  |succ i ih =>
   intro hi
   have a:=ih (by omega);have b:=List.pairwise_iff_getElem.1 h2 i (i+1) (by omega) hi (by omega)
   omega
 rcases Nat.lt_or_ge 8 v.length with q|q
 ·have a:=key (v.length - 1) (by omega)
  have b:=wR.1 (h1 _ (List.getElem_mem (show v.length - 1<v.length by omega)))
  omega
 ·exact q
end Go.Sp
end
section
/- Texts of this proof. -/
namespace Go.Sp
abbrev iE (x:aP):dz:=(x.2.1,x.2.2.1,())
def shaped (x:aP):Bool:=decide (1≤x.1.length) && (decide (x.1.length≤64) && (mJ (iE x) && (jS x.2.2.2.1 && (!rU x.2.2.2.1 (iE x) && (decide (x.2.2.2.2.2.1.length≤1024) && (!x.2.2.2.2.1 ||decide (x.2.2.2.2.2.1.length=0)))))))
theorem yA {x:aP}:shaped x=true↔1≤x.1.length∧x.1.length≤64∧mJ (iE x)=true∧jS x.2.2.2.1=true∧rU x.2.2.2.1 (iE x)=false∧x.2.2.2.2.2.1.length≤1024∧(x.2.2.2.2.1=true→x.2.2.2.2.2.1.length=0):=by
 unfold shaped;simp only [Bool.and_eq_true,decide_eq_true_eq,Bool.not_eq_true',Bool.or_eq_true];refine ⟨fun ⟨a,b,c,d,e,f,g⟩=>⟨a,b,c,d,e,f,fun h=>?_⟩,fun ⟨a,b,c,d,e,f,g⟩=>⟨a,b,c,d,e,f,?_⟩⟩
 ·rcases g with g|g
  ·rw [h] at g;cases g
  ·exact g
 ·cases h:x.2.2.2.2.1
  ·exact .inl rfl
  ·exact .inr (g h)
def ej (x:aP):Bool:=shaped x && decide (x.2.2.2.2.2.2.1.length=64)
theorem vW {x:aP}:ej x=true↔shaped x=true∧x.2.2.2.2.2.2.1.length=64:=by unfold ej;rw [Bool.and_eq_true,decide_eq_true_iff]
def o3 (l:List dz):List UInt8:=(l.map fun d=>be d.1++be d.2.1).flatten
@[simp] theorem Zh:o3 []=[]:=rfl
@[simp] theorem CJ (d:dz) (l:List dz):o3 (d::l)=be d.1++(be d.2.1++o3 l):=by simp [o3]
theorem N7 (l:List dz):(o3 l).length=16*l.length:=by
 induction l with
 |nil=>rfl
 |cons d l ih=>rw [CJ];simp [ih];omega
def nF (b:Bool):UInt8:=if b then 1 else 0
def jm (x:aP):List UInt8:=[1]++(bytesOf x.1++(be x.2.1++(be x.2.2.1++(be x.2.2.2.1.length++(o3 x.2.2.2.1++([nF x.2.2.2.2.1]++bytesOf x.2.2.2.2.2.1))))))
def cn (x:aP):List UInt8:=jm x++x.2.2.2.2.2.2.1
theorem VR (x:aP):(jm x).length=42+x.1.length+16*x.2.2.2.1.length+x.2.2.2.2.2.1.length:=by simp [jm,N7];omega
theorem K1 {x:aP} (h:shaped x=true):(jm x).length≤1300:=by
 obtain ⟨_,h1,_,h2,_,h3,_⟩:=yA.1 h;have:=yq h2;rw [VR];omega
theorem A0 {x:aP} (h:ej x=true):(cn x).length≤1400:=by
 obtain ⟨h1,h2⟩:=vW.1 h;have:=K1 h1
 simp [cn];omega
def over (a b:aP):Bool:=decide (a.1=b.1) && (shaped a && (shaped b && rU a.2.2.2.1 (iE b)))
end Go.Sp
end
end
section
/- Texts of this proof. -/
namespace Go.Sp
def kC (x y:Int):Int:=if x<y then -1 else if y<x then 1 else 0
theorem Ct (x y:Int):cK (kC x y):=by unfold kC;split<;>(try split)<;>(constructor<;>omega)
theorem HA {x y:Int}:kC x y<0↔x<y:=by unfold kC;split<;>(try split)<;>omega
theorem wM {x y:Int}:kC x y=0↔x=y:=by unfold kC;split<;>(try split)<;>omega
def dU (a b:aP):Int:=if kC a.2.1 b.2.1≠0 then kC a.2.1 b.2.1 else kC a.2.2.1 b.2.2.1
theorem Hx (a b:aP):cK (dU a b):=by unfold dU;split<;>exact Ct _ _
theorem Cs {a b:aP}:dU a b=0↔iE a=iE b:=by
 unfold dU iE
 split
 ·rename_i h
  refine ⟨fun q=>absurd q h,fun q=>absurd (wM.2 (Prod.mk.inj q).1) h⟩
 ·rename_i h
  have h1:a.2.1=b.2.1:=wM.1 (Classical.not_not.1 h);rw [wM,h1];exact ⟨fun q=>by rw [q],fun q=>(Prod.mk.inj (Prod.mk.inj q).2).1⟩
theorem u9 {a b:aP}:dU a b<0↔a.2.1<b.2.1∨a.2.1=b.2.1∧a.2.2.1<b.2.2.1:=by
 unfold dU
 split
 ·rename_i h
  have h1:a.2.1≠b.2.1:=fun q=>h (wM.2 q);rw [HA];exact ⟨.inl,fun q=>q.elim id fun q=>absurd q.1 h1⟩
 ·rename_i h
  have h1:a.2.1=b.2.1:=wM.1 (Classical.not_not.1 h);rw [HA];exact ⟨fun q=>.inr ⟨h1,q⟩,fun q=>q.elim (fun q=>absurd q (by omega)) fun q=>q.2⟩
def hM (l:List aP) (x:aP):Bool:=l.any fun y=>decide (dU x y≠0) && over y x
def gI (l:List aP):Bool:=l.all fun x=>ej x && decide (x.1=(l.headD x).1)
theorem vR {l:List aP}:gI l=true↔∀ i (h:i<l.length),ej l[i]=true∧l[i].1=(l[0]'(by omega)).1:=by
 unfold gI;rw [List.all_eq_true]
 constructor
 ·intro h i hi
  have:=h l[i] (List.getElem_mem hi);rw [Bool.and_eq_true,decide_eq_true_iff] at this
  cases l with
  |nil=>cases hi
  |cons a l=>exact this
 ·intro h x hx
  obtain ⟨i,hi,rfl⟩:=List.mem_iff_getElem.1 hx;have:=h i hi;rw [Bool.and_eq_true,decide_eq_true_iff]
  cases l with
  |nil=>cases hi
  |cons a l=>exact this
theorem Fp {l:List aP} (i:Nat) (h:gI l=true):gI (l.take i)=true:=by
 rw [vR] at h ⊢
 intro j hj
 have hj' :j<l.length:=by simp at hj;omega
 have:=h j hj';simp only [List.getElem_take];exact this
theorem Ug {l:List aP} {x:aP} (h:gI l=true):gI (l++[x])=true↔ej x=true∧(∀ h0:0<l.length,x.1=l[0].1):=by
 rw [vR] at h ⊢
 constructor
 ·intro q
  have h1:=q l.length (by simp);rw [List.getElem_append_right (Nat.le_refl _)] at h1;simp only [Nat.sub_self,List.getElem_cons_zero] at h1;refine ⟨h1.1,fun h0=>?_⟩;rw [h1.2,List.getElem_append_left h0]
 ·rintro ⟨h1,h2⟩ j hj
  by_cases hl:j<l.length
  ·rw [List.getElem_append_left hl,List.getElem_append_left (by omega)]
   exact h j hl
  ·have hj2:j=l.length:=by simp at hj;omega
   subst hj2;rw [List.getElem_append_right (Nat.le_refl _)];simp only [Nat.sub_self,List.getElem_cons_zero];refine ⟨h1,?_⟩
   by_cases h0:0<l.length
   ·rw [List.getElem_append_left h0];exact h2 h0
   ·have:l=[]:=List.eq_nil_of_length_eq_zero (by omega)
    subst this;rfl
def fJ (l:List aP):Prop:=gI l=true∧∀ j (h:j<l.length),(∀ h0:0<j,dU l[j-1] l[j]<0)∧hM l l[j]=false
instance (l:List aP):Decidable (fJ l):=by unfold fJ;infer_instance
def bO:ag aP:=ag.HB (fun x=>(x,cn x,())) (ag.prod cv (ag.prod (ag.slice ag.u8) ag.unit))
theorem bO.open {h:Fr} {cs:List Value} {x:aP} (r:bO.rel h cs x):∃ cs' a c,cs=cs' ++[.slice a (cn x).length c]∧cv.rel h cs' x∧aj ag.u8 h (.slice a (cn x).length c) (cn x):=by
 obtain ⟨c1,c2,rfl,r1,c3,gO,rfl,⟨v,rfl,r2⟩,r3⟩:=r;obtain rfl:gO=[]:=r3;obtain ⟨a,c,rfl⟩:=r2.shape;exact ⟨c1,a,c,rfl,r1,r2⟩
theorem bO.sh {h:Fr} {cs:List Value} {x:aP} (r:bO.rel h cs x):∃ a3 a5 a6 a7 c3 dS dH ir,cs=[.string (str x.1),.int .i64 x.2.1,.int .i64 x.2.2.1,.slice a3 x.2.2.2.1.length c3,.bool x.2.2.2.2.1,.slice a5 x.2.2.2.2.2.1.length dS,.slice a6 x.2.2.2.2.2.2.1.length dH,.slice a7 (cn x).length ir] ∧
  cv.rel h [.string (str x.1),.int .i64 x.2.1,.int .i64 x.2.2.1,.slice a3 x.2.2.2.1.length c3,.bool x.2.2.2.2.1,.slice a5 x.2.2.2.2.2.1.length dS,.slice a6 x.2.2.2.2.2.2.1.length dH] x∧aj ag.u8 h (.slice a7 (cn x).length ir) (cn x):=by
 obtain ⟨cs',a7,ir,rfl,h1,h2⟩:=bO.open r;obtain ⟨a3,a5,a6,c3,dS,dH,rfl,_⟩:=cv.sh h1;exact ⟨a3,a5,a6,a7,c3,dS,dH,ir,rfl,h1,h2⟩
theorem bO.mk {h:Fr} {cs:List Value} {x:aP} {v:Value} (h1:cv.rel h cs x) (h2:aj ag.u8 h v (cn x)):bO.rel h (cs++[v]) x :=
 ⟨cs,[v],rfl,h1,[v],[],rfl,⟨v,rfl,h2⟩,rfl⟩
def lN (r:Fr) (e:TypeId) (cs:List Value) (x:aP):az:=fun m=>∃ cs' a c,cs=cs' ++[.slice a (cn x).length c]∧cv.rel r cs' x∧av ag.u8 e (.slice a (cn x).length c) (cn x) m
theorem lN.rel {r h:Fr} {e:TypeId} {cs:List Value} {x:aP} {m:Fr} (hr:r.sub h) (hm:m.sub h):lN r e cs x m→bO.rel h cs x
 |⟨cs',a,c,h1,h2,h3⟩=>by subst h1;exact bO.mk (h2.mono hr) (h3.arr.mono hm)
def ff (r:Fr) (tR yD e:TypeId) (b:Nat) (xs:List aP):az:=fun m=>∃ p:(Option Addr × Nat) × List (List Value),Sat [obj b tR [.slice p.1.1 xs.length p.1.2],av (ag.cells 8) yD (.slice p.1.1 xs.length p.1.2) p.2,bX (lN r e) p.2 xs] m
def rB (h:Fr) (b:Nat) (xs:List aP):Prop:=∃ a c,At h ⟨b,0,none⟩ [.slice a xs.length c]∧aj bO h (.slice a xs.length c) xs
theorem ff.read {r h:Fr} {tR yD e:TypeId} {b:Nat} {xs:List aP} {m:Fr} (hr:r.sub h) (hm:m.sub h):ff r tR yD e b xs m→rB h b xs
 |⟨p,m1,k1,_,s1,t1,y1,m2,k2,_,s2,t2,Gn,m3,bk,_,s3,_,wh,_⟩=>by
  refine ⟨p.1.1,p.1.2,(ga y1).mono (Fr.aI s1 hm),?_⟩;have ha:=Gn.arr.mono (Fr.aI s2 (Fr.aI t1 hm));refine aj.kL (k:=8) ha (bX.sZ (fun cs a m' z q=>lN.rel hr q z) wh (Fr.aI s3 (Fr.aI t2 (Fr.aI t1 hm)))) rfl
theorem ff.nil {r:Fr} {tR yD e:TypeId} {b:Nat} {m:Fr} (x:obj b tR [.slice none 0 0] m):ff r tR yD e b [] m :=
 ⟨((none,0),[]),m,Fr.emp,Fr.e5 (Fr.ea _),Fr.bY _,Fr.c6 _,x,Fr.emp,Fr.emp,Fr.ea _,Fr.c6 _,Fr.c6 _,AL _,Fr.emp,Fr.emp,Fr.ea _,Fr.c6 _,Fr.c6 _,trivial,trivial⟩
theorem rB.mono {h k:Fr} (s:h.sub k) {b:Nat} {xs:List aP}:rB h b xs→rB k b xs
 |⟨a,c,h1,h2⟩=>⟨a,c,h1.mono s,h2.mono s⟩
def jQ (l:List aP):List UInt8:=(l.map fun x=>bytesOf (cn x)).flatten
def kN (l:List aP):List UInt8:=be l.length++jQ l
theorem Wz (l:List aP) (x:aP):jQ (l++[x])=jQ l++bytesOf (cn x):=by simp [jQ]
theorem FX (l:List aP) (h:∀ x∈l,ej x=true):(jQ l).length≤1408*l.length:=by
 induction l with
 |nil=>simp [jQ]
 |cons a l ih =>
  have h1:=A0 (h a (List.mem_cons_self ..));have h2:=ih fun x hx=>h x (List.mem_cons_of_mem _ hx);simp only [jQ,List.map_cons,List.flatten_cons,List.length_append,Ho,List.length_cons] at h2 ⊢
  omega
theorem q9 {l:List aP} (h:gI l=true):∀ x∈l,ej x=true:=fun x hx=>by
 obtain ⟨i,hi,rfl⟩:=List.mem_iff_getElem.1 hx;exact (vR.1 h i hi).1
theorem Le {l:List aP} (h:gI l=true):(kN l).length≤8+1408*l.length:=by
 have:=FX l (q9 h)
 simp [kN];omega
end Go.Sp
end
end
end
section
/- Texts of this proof, one behind the other. -/
section
/- Texts of this proof, one behind the other. -/
section
/- Texts of this proof, one behind the other. -/
section
/- Texts of this proof, one behind the other. -/
section
/- Texts of this proof, one behind the other. -/
section
/- Texts of this proof. -/
namespace Go.Sp
theorem run_loadBytes (P:Program):∀ (xs:List UInt8) (a:Addr) (acc:ByteArray) (w:World),(∀ j (h:j<xs.length),w.cell? (a.add j)=some (bK xs[j])) →
  (Extern.Bytes.loadBytes a xs.length acc).run P w=.ok ⟨acc.data++xs.toArray⟩ w
 |[],a,acc,w,_=>by simp [Extern.Bytes.loadBytes]
 |x::xs,a,acc,w,h=>by
  have h0:=h 0 (by simp);rw [Addr.add_zero] at h0;have ih:=run_loadBytes P xs (a.add 1) (acc.push x) w fun j hj=>by
   have:=h (j+1) (by simp;omega);rw [Addr.add_add,Nat.add_comm 1 j]
   simpa using this
  have hx:(x.toNat:Int).toNat.toUInt8=x:=by simp
  simp only [List.getElem_cons_zero,bK] at h0;simp only [List.length_cons,Extern.Bytes.loadBytes,Sem.run_bind,run_load,h0,Result.andThen,hx,ih]
  congr 2
  simp [ByteArray.push]
theorem La {P:Program} {h:Fr} {v:Value} {xs:List UInt8} (ha:aj ag.u8 h v xs) {w:World} (hw:h.sub w.fr):(Extern.Bytes.bytesOf v).run P w=.ok (str xs) w:=by
 obtain ⟨ak,hc,a,cap,rfl,h1,h2,h3,h4⟩:=ha;have hcs:ak.flatten=xs.map bK:=by
  clear h3 h4 h1 h2
  induction ak generalizing xs with
  |nil=>cases xs with
   |nil=>rfl
   |cons _ _=>exact hc.elim
  |cons c ak ih=>cases xs with
   |nil=>exact hc.elim
   |cons x xs=>rw [List.flatten_cons,ih hc.2,show c=[bK x] from hc.1];rfl
 cases a with
 |none =>
  have:xs=[]:=by
   cases xs with
   |nil=>rfl
   |cons x xs=>obtain ⟨p,hp,_⟩:=h4 0 (by rw [hcs];simp);cases hp
  subst this
  simp [Extern.Bytes.bytesOf];rfl
 |some a =>
  have:=run_loadBytes P xs a .empty w fun j hj=>by
   obtain ⟨p,hp,hq⟩:=h4 j (by rw [hcs];simpa using hj)
   cases hp
   have:=Fr.qA hw hq;simp only [hcs,List.getElem_map] at this;exact this
  simp only [Extern.Bytes.bytesOf,this]
  congr 1
  simp [str,ByteArray.empty,ByteArray.emptyWithCapacity]
  rfl
theorem Wf {P:Program} {h:Fr} {v u:Value} {xs ys:List UInt8} (ha:aj ag.u8 h v xs) (hb:aj ag.u8 h u ys) {w:World} (hw:h.sub w.fr) :
  (Extern.BytealgCompare.compare #[v,u]).run P w=.ok (.int .i64 (Lib.compareBytes xs ys)) w:=by
 change Sem.run P (do pure (goInt (Extern.BytealgCompare.cmp (← Extern.Bytes.bytesOf v) (← Extern.Bytes.bytesOf u)))) w=_
 simp only [Sem.run_bind,La ha hw,La hb hw,Sem.run_pure,Result.andThen];rw [Lib.cmp_eq]
 rfl
section
variable {P:Program} {σ:List (Nat × Value)} {g:bn} {U:List az}
theorem aG.Ny {f : FuncId} {fn : Func} {x y z : Operand} {ts : Array TypeId} {v u : Value} {xs ys : List UInt8} (hf : P.funcs[f]? = some fn) (h1 : (fn.name == "runtime.NumGoroutine") = false) (h2 : fn.body.isNone = true) (h3 : Extern.findNext fn = none) (h4 : Extern.find fn = some Extern.BytealgCompare.compare)
  (hx:aA σ x=some (.func (.func f) #[] #[])) (hy:aA σ y=some v) (hz:aA σ z=some u) (ha:aj ag.u8 g.h v xs) (hb:aj ag.u8 g.h u ys):aG P (.call ⟨.value x,#[y,z],ts⟩) σ g U (.int .i64 (Lib.compareBytes xs ys)) U:=by
 intro o ρ w ho hk hw
 refine ⟨w,?_,hw⟩;have e1:=run_callFunc_extern (P:=P) hf h1 h2 h3 h4 #[v,u] w;rw [Wf ha hb hw.ground] at e1;simp only [Result.andThen] at e1
 simp [execOp,ho,resolve,hk x _ hx,hk y _ hy,hk z _ hz,Deferred.ofValue,invoke,e1]
end
theorem Cx:∀ {a b:List UInt8},Lib.compareBytes a b<0↔a<b
 |[],[]=>by simp [Lib.compareBytes]
 |[],b::bs=>by simp [Lib.compareBytes]
 |a::as,[]=>by simp [Lib.compareBytes]
 |a::as,b::bs=>by
  rw [Lib.compareBytes,List.cons_lt_cons_iff]
  by_cases h:a<b
  ·simp [h]
  ·by_cases h2:b<a
   ·have:a≠b:=fun e=>by subst e;exact UInt8.lt_irrefl _ h2
    simp [h,h2,this]
   ·have e:a=b:=UInt8.le_antisymm (UInt8.not_lt.1 h2) (UInt8.not_lt.1 h)
    subst e;rw [if_neg h,if_neg h2,Cx]
    simp [UInt8.lt_irrefl]
theorem HI:∀ {a b:List UInt8},Lib.compareBytes a b=0↔a=b
 |[],[]=>by simp [Lib.compareBytes]
 |[],b::bs=>by simp [Lib.compareBytes]
 |a::as,[]=>by simp [Lib.compareBytes]
 |a::as,b::bs=>by
  rw [Lib.compareBytes]
  by_cases h:a<b
  ·have:a≠b:=fun e=>by subst e;exact UInt8.lt_irrefl _ h
   simp [h,this]
  ·by_cases h2:b<a
   ·have:a≠b:=fun e=>by subst e;exact UInt8.lt_irrefl _ h2
    simp [h,h2,this]
   ·have e:a=b:=UInt8.le_antisymm (UInt8.not_lt.1 h2) (UInt8.not_lt.1 h)
    subst e;rw [if_neg h,if_neg h2,HI]
    simp
theorem Nx (a b:List UInt8):cK (Lib.compareBytes a b):=by
 have:Lib.compareBytes a b= -1∨Lib.compareBytes a b=0∨Lib.compareBytes a b=1:=by
  induction a generalizing b with
  |nil=>cases b<;>simp [Lib.compareBytes]
  |cons x a ih=>cases b with
   |nil=>simp [Lib.compareBytes]
   |cons y b =>
    rw [Lib.compareBytes]
    split
    ·simp
    ·split
     ·simp
     ·exact ih b
 rcases this with h|h|h<;>rw [h]<;>constructor<;>decide
end Go.Sp
end
section
/- Texts of this proof. -/
namespace Go.Sp
def yt (x:jX):Bool:=decide (1≤x.1∧x.1≤7∧0≤x.2.1∧x.2.1<4∧1≤x.2.2.1∧x.2.2.1≤1073741824∧x.2.2.2.1.length=64)
def oF (x:jX):Bool:=yt x && decide (x.2.2.2.2.1.length=64)
theorem A8 {x:jX}:yt x=true↔1≤x.1∧x.1≤7∧0≤x.2.1∧x.2.1<4∧1≤x.2.2.1∧x.2.2.1≤1073741824∧x.2.2.2.1.length=64:=decide_eq_true_iff
theorem A7 {x:jX}:oF x=true↔yt x=true∧x.2.2.2.2.1.length=64:=by unfold oF;rw [Bool.and_eq_true,decide_eq_true_iff]
end Go.Sp
end
end
section
/- Texts of this proof. -/
namespace Go.Sp
def eX (xs:List UInt8):Int:=ux (nu (xs.take 8))
theorem Uc (xs:List UInt8):cK (eX xs):=Wp _ (Nat.lt_of_lt_of_le (B9 xs 8) (by decide))
def mU (good:Bool) (rest:List UInt8):UInt8 × List UInt8 × Bool:=if good then (match rest with|[]=>(0,[],true)|x::xs=>(x,xs,false)) else (0,rest,false)
def lI (good:Bool) (rest:List UInt8):Int × List UInt8 × Bool:=if good then (if 8≤rest.length then (eX rest,rest.drop 8,false) else (0,rest,true)) else (0,rest,false)
def kg (most:Int) (good:Bool) (rest:List UInt8):Int × List UInt8 × Bool :=
 if good then (if 8≤rest.length then (if 0≤eX rest∧eX rest≤most then (eX rest,rest.drop 8,false) else (0,rest.drop 8,true)) else (0,rest,true)) else (0,rest,false)
def lH (most:Int) (good:Bool) (rest:List UInt8):List UInt8 × List UInt8 × Bool :=
 if good then (if 8≤rest.length then (if 0≤eX rest∧eX rest≤most then (if (eX rest).toNat≤(rest.drop 8).length then ((rest.drop 8).take (eX rest).toNat,(rest.drop 8).drop (eX rest).toNat,false) else ([],rest.drop 8,true)) else ([],rest.drop 8,true)) else ([],rest,true)) else ([],rest,false)
structure RS where
 good:Bool
 rest:List UInt8
namespace RS
def of {α:Type} (s:RS) (x:α × List UInt8 × Bool):α × RS:=(x.1,⟨s.good && !x.2.2,x.2.1⟩)
def byte (s:RS):UInt8 × RS:=s.of (mU s.good s.rest)
def num (s:RS):Int × RS:=s.of (lI s.good s.rest)
def count (most:Int) (s:RS):Int × RS:=s.of (kg most s.good s.rest)
def bytes (most:Int) (s:RS):List UInt8 × RS:=s.of (lH most s.good s.rest)
def done (s:RS):Bool:=s.good && decide (s.rest.length=0)
theorem Fl {n:Int} (h:cK n) (t:List UInt8):eX (be n++t)=n:=by
 unfold eX;rw [List.take_append_of_le_length (by simp),show (be n).take 8=be n from rfl,Wo n h]
theorem B_ (n:Int) (t:List UInt8):(be n++t).drop 8=t:=by
 rw [List.drop_append_of_le_length (by simp),show (be n).drop 8=[] from rfl,List.nil_append]
theorem Hj (x:UInt8) (t:List UInt8):byte ⟨true,x::t⟩=(x,⟨true,t⟩):=rfl
theorem AG {n:Int} (h:cK n) (t:List UInt8):num ⟨true,be n++t⟩=(n,⟨true,t⟩):=by
 unfold num of lI;rw [if_pos rfl,if_pos (by simp),Fl h,B_];rfl
theorem NL {n most:Int} (h:cK n) (h0:0≤n) (hm:n≤most) (t:List UInt8):count most ⟨true,be n++t⟩=(n,⟨true,t⟩):=by
 unfold count of kg;rw [if_pos rfl,if_pos (by simp),Fl h,if_pos ⟨h0,hm⟩,B_];rfl
theorem Hp {xs:List UInt8} {most:Int} (hm:(xs.length:Int)≤most) (hx:(xs.length:Int)≤9223372036854775807) (t:List UInt8):bytes most ⟨true,bytesOf xs++t⟩=(xs,⟨true,t⟩):=by
 unfold bytes of lH bytesOf;have h1:cK (xs.length:Int):=by constructor<;>omega
 rw [List.append_assoc];simp only [if_true];rw [if_pos (by simp),Fl h1,if_pos ⟨by omega,hm⟩,B_,if_pos (by simp)]
 simp
theorem Hl (s:RS):s.byte.2.rest.length≤s.rest.length:=by
 obtain ⟨g,r⟩:=s
 cases g<;>cases r<;>simp [byte,of,mU]
theorem AH (s:RS):s.num.2.rest.length≤s.rest.length:=by
 unfold num of lI;split<;>(try split)<;>simp
theorem NM (most:Int) (s:RS):(s.count most).2.rest.length≤s.rest.length:=by
 unfold count of kg;split<;>(try split)<;>(try split)<;>simp
theorem M6 (most:Int) (s:RS):(s.bytes most).2.rest.length≤s.rest.length:=by
 unfold bytes of lH;split<;>(try split)<;>(try split)<;>(try split)<;>simp<;>omega
theorem M7 (most:Int) (s:RS):(s.bytes most).1.length≤s.rest.length:=by
 unfold bytes of lH;split<;>(try split)<;>(try split)<;>(try split)<;>simp<;>omega
theorem Yv:cK 0:=⟨by decide,by decide⟩
theorem vO (s:RS):cK s.num.1:=by
 unfold num of lI;split<;>(try split)<;>first|exact Uc _|exact Yv
theorem NK (most:Int) (s:RS) (h:0≤most):0≤(s.count most).1∧(s.count most).1≤most:=by
 unfold count of kg;split<;>(try split)<;>(try split)<;>first|assumption|exact ⟨Int.le_refl _,h⟩
theorem N2 {s:RS}:s.done=true↔s.good=true∧s.rest=[]:=by unfold done;simp
end RS
def wF:Nat→RS→List UInt8 × RS
 |0,s=>([],s)
 |n+1,s=>((wF n s).1++[(wF n s).2.byte.1],(wF n s).2.byte.2)
@[simp] theorem YL (n:Nat) (s:RS):(wF n s).1.length=n:=by induction n<;>simp [wF, *]
def uQ (v:Value) (xs:List UInt8):az:=fun m=>aj ag.u8 m v xs
def jW (T b:Nat) (s:RS):az:=fun m=>∃ p:Value × Bool × Bool,(p.2.1 && !p.2.2)=s.good∧Sat [obj b T [p.1,.bool p.2.1,.bool p.2.2],uQ p.1 s.rest] m
section
variable {P:Program} {f:FuncId} {args:Array Value} {r:Fr} {T b:Nat} {s:RS} {Q:Value→RS→List az→Prop} {w:World} {g:bn} {U:List az}
theorem Holds.Um {ι:Type} {F:ι→Prop} {ws:ι→List az} (h:Holds w g ((fun m=>∃ i,F i∧Sat (ws i) m)::U)):∃ i,F i∧Holds w g (ws i++U):=by
 obtain ⟨i,hi⟩:=Holds.th h;obtain ⟨q1,q2,cM,k,d,s1,s2,k1,k2,kd,t1,t2,⟨h1,hx⟩,y⟩:=hi;exact ⟨i,h1,q1,q2,cM,k,d,s1,s2,Sat.mono (Fr.ia t1 t2) (Sat.append kd hx y)⟩
theorem jW.fold {v:Value} {made bad:Bool} (h1:(made && !bad)=s.good) (h:Holds w g (obj b T [v,.bool made,.bool bad]::uQ v s.rest::U)):Holds w g (jW T b s::U) :=
 h.imp fun _ h=>Sat.EX (A:=obj b T [v,.bool made,.bool bad]) (B:=uQ v s.rest) (fun _ x=>⟨(v,made,bad),h1,x⟩) h
theorem ay.rd (h:∀ (m:Fr) v made bad,(made && !bad)=s.good→aj ag.u8 m v s.rest→ay P f args m [obj b T [v,.bool made,.bool bad]] (aL fun u U=>∃ v' B8 s' ζ,Q u s' ζ∧(made && !B8)=s'.good∧aj ag.u8 m v' s'.rest∧U=obj b T [v',.bool made,.bool B8]::ζ)) :
  ay P f args r [jW T b s] (aL fun u U=>∃ s' ζ,Q u s' ζ∧U=jW T b s' ::ζ):=fun g hr w hw=>by
 obtain ⟨p,h1,hw1⟩:=Holds.Um (F:=fun p:Value × Bool × Bool=>(p.2.1 && !p.2.2)=s.good) (ws:=fun p=>[obj b T [p.1,.bool p.2.1,.bool p.2.2],uQ p.1 s.rest]) hw;obtain ⟨k,hk,hd,qW⟩:=Holds.freeze (hw1.perm (List.Perm.swap _ _ _));refine (h k p.1 p.2.1 p.2.2 h1 hk (g.add k) (Fr.dB hd) w qW).mono fun e w' ⟨ax,hp,hw'⟩=>?_
 cases e with
 |returned u =>
  obtain ⟨v',B8,s',ζ,hQ,h3,h4,rfl⟩:=hp;exact ⟨_,⟨s',ζ,hQ,rfl⟩,jW.fold h3 ((hw'.oH (A:=uQ v' s'.rest) h4 hd).perm (List.Perm.swap _ _ _))⟩
 |panicked _=>exact hp.elim
 |outgrown=>exact hp.elim
theorem zK {made bad f g:Bool} (h:(made && !bad)=g):(made && !(bad ||f))=(g && !f):=by subst h;cases made<;>cases bad<;>cases f<;>rfl
theorem VJ {e:TypeId} {v:Value} {xs:List UInt8} {m:Fr} (h:Sat (obj b T [v,.bool true,.bool false]::av ag.u8 e v xs::U) m):Sat (jW T b ⟨true,xs⟩::U) m :=
 Sat.EX (A:=obj b T [v,.bool true,.bool false]) (B:=uQ v xs) (fun _ x=>⟨(v,true,false),rfl,x⟩) (Sat.fk (fun _ x=>x) (fun _ y=>Sat.fk (fun _ x=>x.arr) (fun _ y=>y) y) h)
end
end Go.Sp
end
end
section
/- Texts of this proof. -/
namespace Go.Sp
def kD:Nat→RS→List dz × RS
 |0,s=>([],s)
 |n+1,s=>((kD n s).1++[((kD n s).2.num.1,(kD n s).2.num.2.num.1,())],(kD n s).2.num.2.num.2)
@[simp] theorem HQ (n:Nat) (s:RS):(kD n s).1.length=n:=by induction n<;>simp [kD, *]
def wQ (d:dz):Prop:=cK d.1∧cK d.2.1
theorem N9 (n:Nat) (s:RS):∀ d∈(kD n s).1,wQ d:=by
 induction n with
 |zero=>intro d hd;simp [kD] at hd
 |succ n ih =>
  intro d hd
  simp only [kD,List.mem_append,List.mem_singleton] at hd
  rcases hd with hd|rfl
  ·exact ih d hd
  ·exact ⟨RS.vO _,RS.vO _⟩
theorem N_ (n:Nat) (s:RS):(kD n s).2.rest.length≤s.rest.length:=by
 induction n with
 |zero=>exact Nat.le_refl _
 |succ n ih=>exact Nat.le_trans (RS.AH _) (Nat.le_trans (RS.AH _) ih)
theorem N8:∀ (l:List dz) (t:List UInt8),(∀ d∈l,wQ d)→kD l.length ⟨true,o3 l++t⟩=(l,⟨true,t⟩):=by
 have key:∀ (k:Nat) (l:List dz) (t:List UInt8),(∀ d∈l,wQ d)→k≤l.length→kD k ⟨true,o3 l++t⟩=(l.take k,⟨true,o3 (l.drop k)++t⟩):=by
  intro k
  induction k with
  |zero=>intro l t _ _;simp [kD]
  |succ k ih =>
   intro l t hl hk
   have h1:=ih l t hl (by omega);have hd:l.drop k=l[k]::l.drop (k+1):=List.drop_eq_getElem_cons hk;have hq:=hl _ (List.getElem_mem (l:=l) (n:=k) (by omega));rw [kD,h1]
   simp only
   rw [hd,CJ,List.append_assoc,RS.AG hq.1]
   simp only
   rw [List.append_assoc,RS.AG hq.2,List.take_succ_eq_append_getElem hk]
 intro l t hl
 rw [key l.length l t hl (Nat.le_refl _)];simp
structure wq where
 kind:UInt8
 key:List UInt8
 client:Int
 seq:Int
 N6:List dz
 gone:UInt8
 value:List UInt8
 s:RS
def FL (b:List UInt8):wq :=
 let k:=(RS.mk true b).byte
 let y:=k.2.bytes 64
 let c:=y.2.num
 let q:=c.2.num
 let n:=q.2.count 8
 let d:=kD n.1.toNat n.2
 let g:=d.2.byte
 let v:=g.2.bytes 1024
 ⟨k.1,y.1,c.1,q.1,d.1,g.1,v.1,v.2⟩
def wq.make (q:wq) (g:Bool) (sig:List UInt8):aP:=(q.key,q.client,q.seq,q.N6,g,q.value,sig,())
theorem X_ {l:List dz} (h:jS l=true):∀ d∈l,wQ d:=fun d hd=>by
 have:=wR.1 ((uD.1 h).1 d hd);exact ⟨⟨by omega,by omega⟩,⟨by omega,by omega⟩⟩
theorem VQ {x:aP} (h:shaped x=true) (t:List UInt8):FL (jm x++t)=⟨1,x.1,x.2.1,x.2.2.1,x.2.2.2.1,nF x.2.2.2.2.1,x.2.2.2.2.2.1,⟨true,t⟩⟩:=by
 obtain ⟨h1,h2,h3,h4,h5,h6,h7⟩:=yA.1 h;have hd:=wR.1 h3;simp only [iE] at hd;have hl:=yq h4;have i1:cK x.2.1:=⟨by omega,by omega⟩;have i2:cK x.2.2.1:=⟨by omega,by omega⟩;have i3:cK (x.2.2.2.1.length:Int):=⟨by omega,by omega⟩;have e0:jm x++t=(1:UInt8)::(bytesOf x.1++(be x.2.1++(be x.2.2.1++(be x.2.2.2.1.length++(o3 x.2.2.2.1++(nF x.2.2.2.2.1::(bytesOf x.2.2.2.2.2.1++t))))))):=by
  simp [jm]
 unfold FL;rw [e0];simp only [RS.Hj];rw [RS.Hp (by omega) (by omega)]
 simp only
 rw [RS.AG i1]
 simp only
 rw [RS.AG i2]
 simp only
 rw [RS.NL i3 (by omega) (by omega)];simp only [Int.toNat_natCast];rw [N8 _ _ (X_ h4)];simp only [RS.Hj];rw [RS.Hp (by omega) (by omega)]
noncomputable def mv (b:List UInt8):Option aP:=by
 classical exact if h:∃ x,ej x=true∧cn x=b then some h.choose else none
theorem A1 {b:List UInt8} {x:aP} (h:mv b=some x):ej x=true∧cn x=b:=by
 unfold mv at h
 split at h
 ·rename_i c;cases h;exact c.choose_spec
 ·cases h
def uv (b:List UInt8):wq:=FL (b.take (b.length - 64))
def sB (b:List UInt8):aP:=(uv b).make (decide ((uv b).gone≠0)) (b.drop (b.length - 64))
theorem OM (g:Bool):decide (nF g≠0)=g:=by cases g<;>rfl
theorem A2 {x:aP} (h:ej x=true):sB (cn x)=x∧(uv (cn x)).s=⟨true,[]⟩∧64≤(cn x).length:=by
 obtain ⟨h1,h2⟩:=vW.1 h;have e1:(cn x).length - 64=(jm x).length:=by unfold cn;rw [List.length_append,h2];omega
 have e2:(cn x).take ((cn x).length - 64)=jm x:=by rw [e1];unfold cn;rw [List.take_append_of_le_length (Nat.le_refl _),List.take_length]
 have ck:(cn x).drop ((cn x).length - 64)=x.2.2.2.2.2.2.1:=by rw [e1];unfold cn;rw [List.drop_append_of_le_length (Nat.le_refl _),List.drop_length,List.nil_append]
 have fm:=VQ h1 [];rw [List.append_nil] at fm;refine ⟨?_,?_,?_⟩
 ·unfold sB uv
  rw [e2,ck,fm];simp only [wq.make,OM]
 ·unfold uv;rw [e2,fm]
 ·unfold cn;rw [List.length_append,h2];omega
theorem FK {x y:aP} (hx:ej x=true) (hy:ej y=true) (h:cn x=cn y):x=y:=by
 rw [← (A2 hx).1,h,(A2 hy).1]
theorem VO {x:aP} (h:ej x=true):mv (cn x)=some x:=by
 cases e:mv (cn x) with
 |some y=>obtain ⟨h1,h2⟩:=A1 e;rw [FK h1 h h2]
 |none =>
  unfold mv at e
  split at e
  ·cases e
  ·rename_i c;exact absurd ⟨x,h,rfl⟩ c
theorem KY {b:List UInt8} {x:aP}:mv b=some x↔ej x=true∧cn x=b :=
 ⟨A1,fun ⟨h1,h2⟩=>by rw [← h2];exact VO h1⟩
theorem KZ {b:List UInt8} (h:∀ x,ej x=true→cn x≠b):mv b=none:=by
 cases e:mv b with
 |none=>rfl
 |some x=>exact absurd (A1 e).2 (h x (A1 e).1)
theorem VN {b:List UInt8} (h:b.length<64):mv b=none :=
 KZ fun x hx e=>by have:=(A2 hx).2.2;rw [e] at this;omega
theorem VP {b:List UInt8} (h2:ej (sB b)=true) (h3:cn (sB b)=b):mv b=some (sB b):=KY.2 ⟨h2,h3⟩
theorem VL {b:List UInt8} (h:¬((uv b).s.done=true∧ej (sB b)=true∧cn (sB b)=b)):mv b=none :=
 KZ fun x hx e=>h (by subst e;obtain ⟨h1,h2,_⟩:=A2 hx;rw [h1,h2];exact ⟨rfl,hx,rfl⟩)
end Go.Sp
end
end
section
/- Texts of this proof. -/
namespace Go.Sp
variable {K:Type} [DecidableEq K] {enc:K→Value}
abbrev cr (K:Type):=K × Value × Nat
def gX {K:Type} (enc:K→Value) (x:cr K):MapEntry:={ key:=enc (x.1),val:=x.2.1,born:=x.2.2 }
def fc {K:Type} (enc:K→Value) (l:List (cr K)):Array MapEntry:=(l.map (gX enc)).toArray
def cL:List (cr K)→K→Option Value
 |[],_=>none
 |x::l,k=>if x.1=k then some x.2.1 else cL l k
def mY:List (cr K)→K→Value→List (cr K)
 |[],_,_=>[]
 |x::l,k,v=>if x.1=k then (k,v,x.2.2)::l else x::mY l k v
def iD (l:List (cr K)) (c:Nat) (k:K) (v:Value):List (cr K):=if (cL l k).isSome then mY l k v else l++[(k,v,c)]
def kR (l:List (cr K)) (c:Nat) (k:K):Nat:=if (cL l k).isSome then c else c+1
def gQ:List (cr K)→K→List (cr K)
 |[],_=>[]
 |x::l,k=>if x.1=k then l else x::gQ l k
structure oN (P:Program) (tk:TypeId) (enc:K→Value):Prop where
 find:∀ (k:K) (l:List (cr K)) (w:World),(Instr.findKey tk (enc k) (fc enc l).toList).run P w=.ok ((cL l k).map fun v=>(l.findIdx fun x=>x.1 ==k,v)) w
 check:∀ (e:Bool) (k:K) (w:World),(Instr.checkKey e 10000 tk (enc k)).run P w=.ok () w
 same:∀ k:K,Instr.sameBits 10000 (enc k) (enc k)=true
def cu (enc:K→Value) (b:Nat) (l:List (cr K)) (c:Nat):az:=blk b (.map (fc enc l) c)
section
variable {ro:Option Nat} {P:Program} {fn:Func} {n:Nat} {R:Ending→World→Prop} {k:List Item} {σ:List (Nat × Value)} {D:List Deferred} {g:bn} {U ζ aO:List az} {ops:Array Oper} {i d:Nat} {ls:List Nat}
 {t tk te:TypeId} {x y z:Operand} {b c:Nat} {l:List (cr K)} {key:K} {w:World}
theorem Wn (ht:P.underlying t=some (.map tk te)) (hk:oN P tk enc) {cE:Value} (hz:(zeroValue te).run P w=.ok cE w) (hb:w.heap[b]?=some (.map (fc enc l) c)) (ok:Bool) :
  (Instr.lookup t (.map (some b)) (enc (key)) ok).run P w=.ok (if ok then .tuple #[(cL l key).getD cE,.bool (cL l key).isSome] else (cL l key).getD cE) w:=by
 have h1:=fun e=>hk.check e key w;have h2:=hk.find key l w;simp only [Instr.lookup,Sem.run_bind,run_underlying ht,Result.andThen,MapKept.run_getObj_map hb,Sem.run_pure];rw [h1]
 simp only
 rw [h2]
 cases cL l key with
 |none=>simp [hz]
 |some v=>simp
omit [DecidableEq K] in
theorem cu.block (h:Holds w g (cu enc b l c::U)):w.heap[b]?=some (.map (fc enc l) c):=Holds.block h
theorem aG.pJ {kb:Bool} {cE:Value} (ht:P.underlying t=some (.map tk te)) (hk:oN P tk enc) (hz:∀ w,(zeroValue te).run P w=.ok cE w) (hx:aA σ x=some (.map (some b))) (hy:aA σ y=some (enc (key))) (hs:bg U (cu enc b l c) ζ) :
  aG P (.lookup t x y kb) σ g U (if kb then .tuple #[(cL l key).getD cE,.bool (cL l key).isSome] else (cL l key).getD cE) U :=
 fun o ρ w ho hkn hw=>⟨w,by
  have:=Wn (P:=P) (key:=key) ht hk (hz w) (hw.cB hs).block kb
  simp [execOp,ho,hkn x _ hx,hkn y _ hy,this],hw⟩
theorem Ip:∀ (l:List (cr K)) (k:K) (v:Value),cL l k=some v→∃ x,l[l.findIdx fun x=>x.1 ==k]?=some x∧x.1=k
 |[],_,_,h=>by cases h
 |x::l,k,v,h=>by
  by_cases e:x.1=k
  ·exact ⟨x,by simp [List.findIdx_cons,e],e⟩
  ·have e2:(x.1 ==k)=false:=by simpa using e
   rw [cL,if_neg e] at h;obtain ⟨y,h1,h2⟩:=Ip l k v h;exact ⟨y,by simp [List.findIdx_cons,e2,h1],h2⟩
theorem J' (k:K) (v:Value):∀ (l:List (cr K)),(l.map (gX enc)).modify (l.findIdx fun x=>x.1 ==k) (fun e=>{ e with key:=enc (k),val:=v })=(mY l k v).map (gX enc)
 |[]=>by simp [mY]
 |x::l=>by
  by_cases e:x.1=k
  ·simp [List.findIdx_cons,e,mY,gX]
  ·have e2:(x.1 ==k)=false:=by simpa using e
   have ih:=J' k v l
   simp [List.findIdx_cons,e2,mY,e,ih]
theorem HT (k:K):∀ (l:List (cr K)),(l.map (gX enc)).eraseIdx (l.findIdx fun x=>x.1 ==k)=(gQ l k).map (gX enc)
 |[]=>rfl
 |x::l=>by
  by_cases e:x.1=k
  ·simp [List.findIdx_cons,e,gQ]
  ·have e2:(x.1 ==k)=false:=by simpa using e
   have ih:=HT k l
   simp [List.findIdx_cons,e2,gQ,e,ih]
theorem Tb (l:List (cr K)) (k:K) (v:Value):(fc enc l).modify (l.findIdx fun x=>x.1 ==k) (fun e=>{ e with key:=enc (k),val:=v })=fc enc (mY l k v):=by
 apply Array.toList_inj.1
 rw [Array.toList_modify];exact J' k v l
theorem Ta (l:List (cr K)) (k:K):(fc enc l).eraseIdxIfInBounds (l.findIdx fun x=>x.1 ==k)=fc enc (gQ l k):=by
 apply Array.toList_inj.1
 rw [Array.toList_eraseIdxIfInBounds];exact HT k l
omit [DecidableEq K] in
theorem Bb (o:Obj) (hb:w.heap[b]?=some (.map (fc enc l) c)):(setObj b o).run P w=.ok () (w.putObj b o):=by
 have:=MapKept.run_setObj_map (P:=P) o hb;rw [this];rfl
theorem Lb {v:Value} (ht:P.underlying t=some (.map tk te)) (hk:oN P tk enc) (hb:w.heap[b]?=some (.map (fc enc l) c)) :
  (Instr.mapUpdate t (.map (some b)) (enc (key)) v).run P w=.ok () (w.putObj b (.map (fc enc (iD l c key v)) (kR l c key))):=by
 have h1:=fun e=>hk.check e key w;have h2:=hk.find key l w;simp only [Instr.mapUpdate,Sem.run_bind,run_underlying ht,Result.andThen,MapKept.run_getObj_map hb];rw [h1]
 simp only
 rw [h2]
 cases hg:cL l key with
 |none =>
  simp only [Option.map_none,Bb _ hb,iD,kR,hg,Option.isSome_none,Bool.false_eq_true,if_false]
  simp [fc,gX]
 |some u =>
  obtain ⟨y,hy,Rz⟩:=Ip l key u hg;have hy2:(fc enc l)[l.findIdx fun x=>x.1 ==key]?=some (gX enc y):=by simp [fc,hy]
  have hkey:(((fc enc l)[l.findIdx fun x=>x.1 ==key]?).map (·.key)).getD (enc (key))=enc (key):=by rw [hy2];simp [gX,Rz]
  have hsame:Instr.sameBits 10000 (enc (key)) (enc (key))=true:=hk.same key;simp only [Option.map_some,hkey,Instr.keyThatStays,hsame,if_true,Sem.run_bind,Sem.run_pure,Result.andThen,Bb _ hb,iD,kR,hg,Option.isSome_some,Tb]
theorem Wh (ht:P.underlying t=some (.map tk te)) (hk:oN P tk enc) {t2 ty:TypeId} (hb:w.heap[b]?=some (.map (fc enc l) c)) :
  (Builtin.delete_ #[t,t2] ty #[.map (some b),enc (key)]).run P w=.ok (.tuple #[]) (w.putObj b (.map (fc enc (gQ l key)) c)):=by
 have h1:=fun e=>hk.check e key w;have h2:=hk.find key l w;have q0:(#[t,t2]:Array TypeId)[0]?=some t:=rfl;have q1:(#[Value.map (some b),enc (key)]:Array Value)[0]?=some (.map (some b)):=rfl;have q2:(#[Value.map (some b),enc (key)]:Array Value)[1]?=some (enc (key)):=rfl;simp only [Builtin.delete_,q0,q1,q2,Sem.run_bind,run_underlying ht,Result.andThen,MapKept.run_getObj_map hb];rw [h1]
 simp only
 rw [h2]
 cases hg:cL l key with
 |none =>
  have hd:gQ l key=l:=by
   clear hb h2
   induction l with
   |nil=>rfl
   |cons x l ih =>
    by_cases e:x.1=key
    ·simp [cL,e] at hg
    ·simp only [cL,if_neg e] at hg
     simp only [gQ,if_neg e,ih hg]
  simp only [Option.map_none,Sem.run_bind,Bb _ hb,hd,Sem.run_pure,Result.andThen]
 |some u =>
  simp only [Option.map_some,Sem.run_bind,Bb _ hb,Ta,Sem.run_pure,Result.andThen]
omit [DecidableEq K] in
theorem bF.TL {v:Value→List az→Prop} (hv:∀ b,v (.map (some b)) (cu enc b [] 0::U)):bF P (.makeMap t none) σ g U v :=
 fun o ρ w ho hkn hw=>⟨_,_,_,hv w.heap.size,by simp [execOp,ho,Instr.makeMap,newObj,Sem.run];rfl,hw.alloc _⟩
omit [DecidableEq K] in
theorem bF.pK :bF P (.makeMap t none) σ g U fun v ax =>∃ b,v=.map (some b)∧ax =cu enc b [] 0::U:=bF.TL (enc:=enc) fun b=>⟨b,rfl,rfl⟩
theorem kn.sn {v:Value} (ht:P.underlying t=some (.map tk te)) (hk:oN P tk enc) (hx:aA σ x=some (.map (some b))) (hy:aA σ y=some (enc (key))) (hz:aA σ z=some v) (hs:bg U (cu enc b l c) ζ) :
  kn P (.mapUpdate t x y z) σ g U (cu enc b (iD l c key v) (kR l c key)::ζ) :=
 fun o ρ w ho hkn hw=>by
  have hw1:=hw.cB hs;refine ⟨_,?_,hw1.putObj _⟩;have:=Lb (P:=P) (key:=key) (v:=v) ht hk hw1.block
  simp [execOp,ho,hkn x _ hx,hkn y _ hy,hkn z _ hz,this]
theorem O.HP {t2:TypeId} (ho:kf ops i=some (.call ⟨.builtin .delete,#[x,y],#[t,t2]⟩)) (ht:P.underlying t=some (.map tk te)) (hk:oN P tk enc) (hx:aA σ x=some (.map (some b))) (hy:aA σ y=some (enc (key))) (hs:bg U (cu enc b l c) ζ)
  (h:O ro P fn n R ops ls k σ D g (cu enc b (gQ l key) c::ζ)):O ro P fn n R ops (i::ls) k σ D g U:=by
 intro a w hf hd hw
 obtain ⟨o,hi,eB,hop,hg⟩:=pM ho;have hw1:=hw.cB hs;have hrun:(execOp a.eval o).run P w=.ok (.value (.tuple #[])) (w.putObj b (.map (fc enc (gQ l key)) c)):=by
  have:=Wh (P:=P) (key:=key) (t2:=t2) (ty:=o.type) ht hk hw1.block
  simp [execOp,hop,resolve,invoke,builtin,hf.j_ x _ hx,hf.j_ y _ hy,this]
 refine O.mK hi (by simp [Region.wanted,hg]) (by rw [hop];intro c hc;cases hc) hrun ?_;rw [Oper.uponIn_value,eB];exact h _ _ hf hd (hw1.putObj _)
def gE (l:List (cr K)) (c:Nat):Prop:=(l.map (·.2.2)).Nodup∧(∀ x∈l,x.2.2<c)∧(l.map (·.1)).Nodup
def jr (it b c:Nat) (done:List (cr K)):az:=blk it (.mapIter (some b) c (done.map (·.2.2)).toArray c)
omit [DecidableEq K] in
theorem bF.FI (ht:P.underlying t=some (.map tk te)) (hx:aA σ x=some (.map (some b))) (hs:bg U (cu enc b l c) ζ):bF P (.range t x) σ g U fun v ax =>∃ it,v=.pointer (some ⟨it,0,none⟩)∧ax =jr (K:=K) it b c []::U :=
 fun o ρ w ho hkn hw=>by
  have hb:=(hw.cB hs).block;exact ⟨_,_,_,⟨w.heap.size,rfl,rfl⟩,by simp [execOp,ho,hkn x _ hx,Instr.range,run_underlying ht,MapKept.run_getObj_map hb,newObj,Sem.run],hw.alloc _⟩
omit [DecidableEq K] in
theorem AA {seen:List Nat} {e:MapEntry}:e∈(leftOf (fc enc l) seen.toArray).toList↔∃ x∈l,e=gX enc x∧x.2.2 ∉ seen:=by
 unfold leftOf;simp only [Array.toList_filter,List.mem_filter,fc,List.mem_map]
 constructor
 ·rintro ⟨⟨x,hx,rfl⟩,h⟩
  exact ⟨x,hx,rfl,by simpa [gX] using h⟩
 ·rintro ⟨x,hx,rfl,h⟩
  exact ⟨⟨x,hx,rfl⟩,by simpa [gX] using h⟩
omit [DecidableEq K] in
theorem O.Kf {done todo:List (cr K)} {it:Nat} (ho:bJ ops i n σ d (.next x false)) (hx:aA σ x=some (.pointer (some ⟨it,0,none⟩))) (hwf:gE l c) (hp:l.Perm (done++todo)) (s1:bg U (jr it b c done) ζ) (s2:bg ζ (cu enc b l c) aO)
  (h0:todo=[]→O ro P fn n R ops ls k ((d,.tuple #[.bool false])::σ) D g (jr it b c done::cu enc b l c::aO))
  (h1:∀ x t1 t2,todo=t1++x::t2→O ro P fn n R ops ls k ((d,.tuple #[.bool true,enc (x.1),x.2.1])::σ) D g (jr it b c (done++[x])::cu enc b l c::aO)):O ro P fn n R ops (i::ls) k σ D g U:=by
 intro a w hf hd hw
 obtain ⟨o,hi,eB,hop,hg,hb⟩:=ho.spec;have hw1:Holds w g (jr it b c done::cu enc b l c::aO):=(hw.cB s1).imp fun _ h=>Sat.fk (fun _ y=>y) (fun _ y=>Sat.perm s2.perm y) h;have hr:=Holds.block hw1;have hm:=cu.block (hw1.cB (.there .here));have dy:((done++todo).map (·.2.2)).Nodup:=(hp.map _).nodup_iff.1 hwf.1;rw [List.map_append,List.nodup_append] at dy;have hold:∀ x∈(fc enc l).toList,x.born<c:=fun e he=>by
  simp only [fc,List.mem_map] at he;obtain ⟨y,hy,rfl⟩:=he;exact hwf.2.1 y hy
 rcases run_next_at (P:=P) (ty:=o.type) hr hm hold (Nat.le_refl _) with ⟨hz,hrun⟩|⟨e,he,m,hmn,hrun⟩
 ·have EM:todo=[]:=by
   cases todo with
   |nil=>rfl
   |cons y ys =>
    have mO:y∈l:=hp.mem_iff.2 (by simp);have:gX enc y∈(leftOf (fc enc l) (done.map (·.2.2)).toArray).toList:=AA.2 ⟨y,mO,rfl,fun h=>dy.2.2 _ h _ (by simp) rfl⟩;rw [Array.eq_empty_of_size_eq_zero hz] at this
    cases this
  have pG :(execOp a.eval o).run P w=.ok (.value (.tuple #[.bool false])) w:=by simp [execOp,hop,hf.j_ x _ hx,hrun]
  refine O.mK hi (hg a hf) (vN pG) pG ?_;rw [Oper.uponIn_value,eB];exact h0 EM _ _ (hf.put hb) hd hw1
 ·obtain ⟨y,hy,rfl,qR⟩:=AA.1 he
  have ET:y∈todo:=by
   rcases List.mem_append.1 (hp.mem_iff.1 hy) with h|h
   ·exact absurd (List.mem_map.2 ⟨y,h,rfl⟩) qR
   ·exact h
  obtain ⟨t1,t2,EN⟩:=List.append_of_mem ET;have pG :(execOp a.eval o).run P w=.ok (.value (.tuple #[.bool true,enc (y.1),y.2.1])) (({ w with drawn:=m }:World).putObj it (.mapIter (some b) c ((done.map (·.2.2)).toArray.push y.2.2) c)):=by
   simp [execOp,hop,hf.j_ x _ hx,hrun,gX]
  refine O.mK hi (hg a hf) (vN pG) pG ?_;rw [Oper.uponIn_value,eB];have qW:=(hw1.drewN m hmn).putObj (.mapIter (some b) c ((done.map (·.2.2)).toArray.push y.2.2) c);have DQ:jr it b c (done++[y])=blk it (.mapIter (some b) c ((done.map (·.2.2)).toArray.push y.2.2) c):=by simp [jr]
  rw [← DQ] at qW;exact h1 y t1 t2 EN _ _ (hf.put hb) hd qW
omit [DecidableEq K] in
theorem aG.CM {done:List (cr K)} {y:cr K} {it:Nat} (hx:aA σ x=some (.pointer (some ⟨it,0,none⟩))) (hwf:gE l c) (hy:y∈l) (s1:bg U (jr it b c (done++[y])) ζ) (s2:bg ζ (cu enc b l c) aO) :
  aG P (.entry x) σ g U (.tuple #[enc (y.1),y.2.1]) U:=fun o ρ w ho hkn hw=>by
 have hw1:Holds w g (jr it b c (done++[y])::cu enc b l c::aO):=(hw.cB s1).imp fun _ h=>Sat.fk (fun _ y=>y) (fun _ y=>Sat.perm s2.perm y) h;have hr:=Holds.block hw1;have hm:=cu.block (hw1.cB (.there .here));have hfind:(fc enc l).toList.find? (·.born ==(gX enc y).born)=some (gX enc y):=find_born _ _ (by simpa [fc,gX,Function.comp_def] using hwf.1) (show gX enc y∈(fc enc l).toList from List.mem_map.2 ⟨y,hy,rfl⟩);have PT:(fc enc l).find? (fun e=>e.born ==y.2.2)=some (gX enc y):=by rw [← Array.find?_toList];exact hfind
 have PG:(((done++[y]).map (·.2.2)).toArray).back?=some y.2.2:=by simp
 refine ⟨w,?_,hw⟩;have:(Instr.entry (.pointer (some ⟨it,0,none⟩))).run P w=.ok (.tuple #[enc (y.1),y.2.1]) w:=by
  simp only [Instr.entry,getObj,Sem.run_bind,Sem.run,hr,Result.andThen,PG,hm,bne_self_eq_false,Bool.false_eq_true,if_false,PT]
  rfl
 simp [execOp,ho,hkn x _ hx,this]
end
def ve (a:Int × Int):Value:=.agg #[.int .i64 a.1,.int .i64 a.2]
theorem Ba {P:Program} {ti:TypeId} (hi:P.underlying ti=some (.int .i64)) (cs:Array Value) (off:Nat) (v:Value) (hv:cs[off]?=some v) (w:World):(part ti cs off).run P w=.ok v w:=by
 simp [part,isAgg,run_underlying hi,hv]
theorem zv (a:Int × Int):(#[Value.int .i64 a.1,.int .i64 a.2]:Array Value)[0]?=some (.int .i64 a.1)∧(#[Value.int .i64 a.1,.int .i64 a.2]:Array Value)[1]?=some (.int .i64 a.2):=⟨rfl,rfl⟩
omit [DecidableEq K] in
theorem gE.nil:gE ([]:List (cr K)) 0:=⟨.nil,by simp,.nil⟩
theorem zJ {m:List (cr K)} {k:K}:cL m k=none↔k ∉ m.map (·.1):=by
 induction m with
 |nil=>simp [cL]
 |cons x m ih =>
  simp only [cL,List.map_cons,List.mem_cons]
  split
  ·rename_i h;subst h;simp
  ·rename_i h;rw [ih];constructor
   ·rintro h1 (h2|h2)
    ·exact h h2.symm
    ·exact h1 h2
   ·exact fun h1 h2=>h1 (.inr h2)
theorem C3 {m:List (cr K)} {k:K} {v:Value} (h:cL m k=some v):∃ n,(k,v,n)∈m:=by
 induction m with
 |nil=>cases h
 |cons x m ih =>
  simp only [cL] at h
  split at h
  ·rename_i e;cases h;subst e;exact ⟨_,List.mem_cons_self ..⟩
  ·obtain ⟨n,hn⟩:=ih h;exact ⟨n,List.mem_cons_of_mem _ hn⟩
theorem vm {m:List (cr K)} (h:(m.map (·.1)).Nodup) {x:cr K} (hx:x∈m):cL m x.1=some x.2.1:=by
 induction m with
 |nil=>cases hx
 |cons y m ih =>
  rw [List.map_cons,List.nodup_cons] at h;simp only [cL]
  rcases List.mem_cons.1 hx with rfl|hx
  ·simp
  ·rw [if_neg (fun e:y.1=x.1=>h.1 (by rw [e];exact List.mem_map.2 ⟨x,hx,rfl⟩)),ih h.2 hx]
theorem Lq (k:K) (v:Value):∀ m:List (cr K),(mY m k v).map (·.1)=m.map (·.1)∧(mY m k v).map (·.2.2)=m.map (·.2.2)
 |[]=>⟨rfl,rfl⟩
 |x::m=>by
  have ih:=Lq k v m;simp only [mY]
  split
  ·rename_i h;simp [h]
  ·simp [ih.1,ih.2]
theorem Ir (k:K) (v:Value) (j:K):∀ m:List (cr K),cL (mY m k v) j=if j=k then (cL m k).map fun _=>v else cL m j
 |[]=>by simp [mY,cL]
 |x::m=>by
  have ih:=Ir k v j m;simp only [mY]
  by_cases e:x.1=k
  ·rw [if_pos e]
   simp only [cL]
   by_cases e2:j=k
   ·subst e2;simp [e]
   ·rw [if_neg (fun h=>e2 h.symm),if_neg e2,if_neg (fun h=>e2 (h.symm.trans e))]
  ·rw [if_neg e]
   simp only [cL]
   by_cases e2:j=k
   ·subst e2;rw [if_neg e,if_pos rfl,if_neg e,ih,if_pos rfl]
   ·rw [if_neg e2,ih,if_neg e2]
theorem OK (m:List (cr K)) (k:K) (v:Value) (c:Nat) (j:K) (h:cL m k=none):cL (m++[(k,v,c)]) j=if j=k then some v else cL m j:=by
 induction m with
 |nil =>
  simp only [List.nil_append,cL]
  by_cases e:j=k
  ·subst e;rw [if_pos rfl]
  ·rw [if_neg (fun q=>e q.symm),if_neg e]
 |cons x m ih =>
  simp only [cL] at h ⊢
  split at h
  ·cases h
  ·rename_i e
   simp only [List.cons_append,cL]
   by_cases e2:j=k
   ·subst e2;rw [if_neg e,ih h];simp
   ·by_cases ck:x.1=j
    ·rw [if_pos ck,if_neg e2,if_pos ck]
    ·rw [if_neg ck,ih h,if_neg e2,if_neg e2,if_neg ck]
theorem Iq (m:List (cr K)) (c:Nat) (k:K) (v:Value) (j:K):cL (iD m c k v) j=if j=k then some v else cL m j:=by
 unfold iD
 split
 ·rename_i h
  rw [Ir]
  split
  ·cases hg:cL m k with
   |none=>rw [hg] at h;cases h
   |some u=>rfl
  ·rfl
 ·rename_i h
  exact OK m k v c j (by simpa using h)
theorem AX {m:List (cr K)} {c:Nat} (h:gE m c) (k:K) (v:Value):gE (iD m c k v) (kR m c k):=by
 unfold iD kR
 split
 ·rename_i hs
  obtain ⟨h1,h2⟩:=Lq k v m;refine ⟨by rw [h2];exact h.1,fun x hx=>?_,by rw [h1];exact h.2.2⟩;have:x.2.2∈(mY m k v).map (·.2.2):=List.mem_map.2 ⟨x,hx,rfl⟩;rw [h2] at this;obtain ⟨y,hy,e⟩:=List.mem_map.1 this;have:=h.2.1 y hy
  omega
 ·rename_i hs
  have hn:cL m k=none:=by simpa using hs
  refine ⟨?_,fun x hx=>?_,?_⟩
  ·rw [List.map_append,List.nodup_append]
   refine ⟨h.1,by simp,fun a ha b hb=>?_⟩;obtain ⟨y,hy,rfl⟩:=List.mem_map.1 ha;have:=h.2.1 y hy
   simp at hb;subst hb;omega
  ·rcases List.mem_append.1 hx with hx|hx
   ·have:=h.2.1 x hx;omega
   ·simp at hx;subst hx;simp
  ·rw [List.map_append,List.nodup_append]
   refine ⟨h.2.2,by simp,fun a ha b hb=>?_⟩
   simp at hb;subst hb
   intro e;subst e
   exact zJ.1 hn ha
theorem tc (k:K):∀ m:List (cr K),(gQ m k).Sublist m
 |[]=>.slnil
 |x::m=>by
  simp only [gQ];split
  ·exact List.sublist_cons_self _ _
  ·exact (tc k m).cons_cons _
theorem CF {m:List (cr K)} {c:Nat} (h:gE m c) (k:K):gE (gQ m k) c :=
 ⟨((tc k m).map _).nodup h.1,fun x hx=>h.2.1 x ((tc k m).subset hx),((tc k m).map _).nodup h.2.2⟩
theorem C2 {m:List (cr K)} (h:(m.map (·.1)).Nodup) (k j:K):cL (gQ m k) j=if j=k then none else cL m j:=by
 induction m with
 |nil=>simp [gQ,cL]
 |cons x m ih =>
  rw [List.map_cons,List.nodup_cons] at h;simp only [gQ]
  by_cases e:x.1=k
  ·rw [if_pos e]
   by_cases e2:j=k
   ·subst e2;rw [if_pos rfl];exact zJ.2 (e ▸ h.1)
   ·rw [if_neg e2];simp only [cL];rw [if_neg (fun q=>e2 (q.symm.trans e))]
  ·rw [if_neg e]
   simp only [cL]
   by_cases e2:j=k
   ·subst e2;rw [if_neg e,ih h.2,if_pos rfl,if_pos rfl]
   ·rw [ih h.2,if_neg e2,if_neg e2]
section
variable {ro:Option Nat} {P:Program} {fn:Func} {n:Nat} {R:Ending→World→Prop} {k:List Item} {σ:List (Nat × Value)} {D:List Deferred} {g:bn} {U ζ aO:List az} {ops:Array Oper} {i d:Nat} {ls:List Nat}
 {t tk te:TypeId} {x y z:Operand} {b c c' :Nat} {l:List (cr K)} {key:K} {w:World} {v cE:Value}
theorem cO.sn {fl:Bool} {j:Nat} {l' :List Nat} (ho:kf ops j=some (.mapUpdate t x y z)) (hd:ei fl ops j l' =true) (ht:P.underlying t=some (.map tk te)) (hk:oN P tk enc) (hx:aA σ x=some (.map (some b))) (hy:aA σ y=some (enc key)) (hz:aA σ z=some v) (hs:bg U (cu enc b l c) ζ)
  (h:af P fn n R ops k D g l' σ (cu enc b (iD l c key v) (kR l c key)::ζ)):aJ P fn n R ops k D g fl (j::l') σ U :=
 aJ.perm hs.perm (cO.mS (U:=cu enc b l c::ζ) (ax :=cu enc b (iD l c key v) (kR l c key)::ζ) ho rfl hd (fun _=>.sn ht hk hx hy hz bg.here) h)
theorem af.sn {j:Nat} {l' :List Nat} (ho:kf ops j=some (.mapUpdate t x y z)) (hd:eH ops [j] l' =true) (ht:P.underlying t=some (.map tk te)) (hk:oN P tk enc) (hx:aA σ x=some (.map (some b))) (hy:aA σ y=some (enc key)) (hz:aA σ z=some v) (hs:bg U (cu enc b l c) ζ)
  (h:af P fn n R ops k D g l' σ (cu enc b (iD l c key v) (kR l c key)::ζ)):af P fn n R ops k D g (j::l') σ U:=cO.sn (fl:=false) ho (by simpa [ei] using hd) ht hk hx hy hz hs h
end
def encS (k:List UInt8):Value:=.string (str k)
theorem H7 (k:List UInt8):∀ (l:List (cr (List UInt8))) (i:Nat),Instr.findNow .string (encS k) (l.map (gX encS)) i=some ((cL l k).map fun v=>(i+(l.findIdx fun x=>@BEq.beq _ instBEqOfDecidableEq x.1 k),v))
 |[],_=>rfl
 |x::l,i=>by
  have ih:=H7 k l (i+1);simp only [List.map_cons,Instr.findNow,gX,encS,Instr.sameNow] at ih ⊢
  by_cases h:x.1=k
  ·subst h;simp [cL,F3,List.findIdx_cons]
  ·have hne:(str k ==str x.1)=false:=by
    rw [F3];exact decide_eq_false fun e=>h e.symm
   rw [hne]
   simp only
   rw [ih];have h2:(@BEq.beq _ instBEqOfDecidableEq x.1 k)=false:=by simpa using h
   simp only [cL,if_neg h,List.findIdx_cons,h2]
   cases cL l k with
   |none=>rfl
   |some v=>simp;omega
theorem q3 {P:Program} {tk:TypeId} (hk:P.underlying tk=some .string):oN P tk encS where
 find k l w:=by
  have h:=H7 k l 0;simp only [fc,Instr.findKey,Sem.run_bind,run_underlying hk,Result.andThen,h,Nat.zero_add,Sem.run_pure]
 check e k w:=We hk e 9999
 same k:=by
  show (str k ==str k)=true
  rw [F3];simp
end Go.Sp
end
end
section
/- Texts of this proof, one behind the other. -/
section
/- Texts of this proof, one behind the other. -/
section
/- Texts of this proof. -/
namespace Go.Sp
def fP (P:Program) (ty:TypeId) (cs:List Value) (v:Value):Prop:=∀ (w:World) (b:Nat),(∀ j u,cs[j]?=some u→w.cell? ⟨b,j,none⟩=some u)→(loadVar ty ⟨b,0,none⟩).run P w=.ok v w
theorem fP.flat {P:Program} {ty:TypeId} {v:Value} (h:dY P ty=true):fP P ty [v] v:=fun w b hc=>by
 simp [loadVar,sD (rO h),hc 0 v rfl]
theorem fP.agg {P:Program} {ty:TypeId} {cs:List Value} (h:∀ w,(isAgg ty).run P w=.ok true w) (hs:(P.info? ty).map (·.size)=some cs.length):fP P ty cs (.agg cs.toArray):=fun w b hc=>by
 have hr:=run_loadCells_list (P:=P) w ⟨b,0,none⟩ cs fun j v hj=>by rw [add_lit,Nat.zero_add];exact hc j v hj
 simp [loadVar,h,run_sizeOf hs,hr]
section
variable {P:Program} {fn:Func} {n:Nat} {R:Ending→World→Prop} {k:List Item} {σ:List (Nat × Value)} {D:List Deferred} {g:bn} {U ζ aO:List az} {f:FuncId}
theorem Holds.Fk {w:World} {b:Nat} {T:TypeId} {cs:List Value} (h:Holds w g (obj b T cs::U)):∀ j u,cs[j]?=some u→w.cell? ⟨b,j,none⟩=some u:=fun _ _ hj=>h.uk hj
def sV (P:Program) (g:bn) (b1 b2:Nat) (t1 t2:TypeId) (R:Ending→World→Prop) (e:Ending) (u:FrameMode) (w:World):Prop :=
 (∃ v,e=.returned v)∧settle u=.returning∧∃ eF eZ kS mI v1 v2 U,Holds w g (obj b1 eF kS::obj b2 eZ mI::U)∧fP P t1 kS v1∧fP P t2 mI v2∧R (.returned (.tuple #[v1,v2])) w
theorem V3 {a:Act} {w:World} {s1 s2 b1 b2:Nat} {t1 t2 eF eZ:TypeId} {kS mI:List Value} {v1 v2:Value} (hr:fn.results=#[.cell s1 t1,.cell s2 t2]) (hf:Fits a n σ) (rX:look σ s1=some (.pointer (some ⟨b1,0,none⟩))) (xw:look σ s2=some (.pointer (some ⟨b2,0,none⟩)))
  (hw:Holds w g (obj b1 eF kS::obj b2 eZ mI::U)) (h1:fP P t1 kS v1) (h2:fP P t2 mI v2):(results fn a.tmps).run P w=.ok (.tuple #[v1,v2]) w:=by
 have e1:=h1 w b1 hw.Fk;have e2:=h2 w b2 (hw.drop).Fk;have l1:=hf.2 s1 _ rX;have l2:=hf.2 s2 _ xw
 simp [results,hr,Array.getD_eq_getD_getElem?,l1,l2,asAddr,e1,e2]
theorem vI {a:Act} {w:World} {u:FrameMode} {s1 s2 b1 b2:Nat} {t1 t2:TypeId} {cap args:Array Value} (hr:fn.results=#[.cell s1 t1,.cell s2 t2]) (hf:Fits a n σ) (rX:look σ s1=some (.pointer (some ⟨b1,0,none⟩))) (xw:look σ s2=some (.pointer (some ⟨b2,0,none⟩)))
  (hu:u≠.run) (hc:dG P f=true) (tH:CallsD P f (args++cap) u w (sV P g b1 b2 t1 t2 R)):eS P fn a.tmps R [⟨.fn (.func f) cap,args⟩] u w:=by
 refine eS.of (leaves_cons hu (by simp [invoke,A_ hc]) (tH.mono ?_));rintro e u' w' ⟨⟨v,rfl⟩,hs,eF,eZ,kS,mI,v1,v2,ax,hw,h1,h2,hR⟩
 show Leaves P fn a.tmps R [] (settle u') w'
 rw [hs];exact ⟨_,V3 hr hf rX xw hw h1 h2,hR⟩
theorem S.sC {s1 s2 b1:Nat} {t1 eF:TypeId} {kS:List Value} {v1 v2:Value} (hr:fn.results=#[.cell s1 t1,.tmp s2]) (rX:look σ s1=some (.pointer (some ⟨b1,0,none⟩))) (xw:look σ s2=some v2)
  (s:bg U (obj b1 eF kS) ζ) (h1:fP P t1 kS v1) (h:∀ w,Holds w g (obj b1 eF kS::ζ)→R (.returned (.tuple #[v1,v2])) w):S none P fn n R (.code .ret::k) σ [] g U:=by
 refine S.q_ fun a w hf hd hw=>?_;have hw' :=hw.cB s;refine ⟨.tuple #[v1,v2],?_,h w hw'⟩;have e1:=h1 w b1 hw'.Fk;have l1:=hf.2 s1 _ rX;have l2:=hf.2 s2 _ xw
 simp [results,hr,Array.getD_eq_getD_getElem?,l1,l2,asAddr,e1]
end
def o4 (t:TypeId) (z:Int):List PanicEntry:=[{ v:=.iface t (.int .i64 z),recovered:=false }]
end Go.Sp
end
section
/- Texts of this proof, one behind the other. -/
section
/- Texts of this proof. -/
namespace Go.Sp
theorem Wi {P : Program} {t ti : TypeId} {f0 f1 : Field} (ht : P.underlying t = some (.struct #[f0, f1])) (hi : P.underlying ti = some (.int .i64)) (h0 : f0.type = ti) (h1 : f1.type = ti) (o0 : f0.offset = 0) (o1 : f1.offset = 1) (n0 : f0.name ≠ "_") (n1 : f1.name ≠ "_") (hh : P.stoodInHeld t = false)
  (a b:Int × Int) (w:World):(Op.equal t (ve a) (ve b)).run P w=.ok (decide (a=b)) w:=by
 have Ad:=fun w=>Ba hi _ 0 _ (zv a).1 w;have Em:=fun w=>Ba hi _ 1 _ (zv a).2 w;have En:=fun w=>Ba hi _ 0 _ (zv b).1 w;have Jc:=fun w=>Ba hi _ 1 _ (zv b).2 w;have heq:∀ (x y:Int) (w:World),(Op.equalIn 9999 ti (.int .i64 x) (.int .i64 y)).run P w=.ok (x ==y) w:=fun x y w=>by
  show (Op.equalIn (9998+1) ti (.int .i64 x) (.int .i64 y)).run P w=_
  unfold Op.equalIn
  simp [run_underlying hi]
 show (Op.equalIn (9999+1) t (ve a) (ve b)).run P w=_
 unfold Op.equalIn ve;simp only [Sem.run_bind,run_underlying ht,Result.andThen];obtain ⟨a1,a2⟩:=a;obtain ⟨b1,b2⟩:=b;simp only at Ad Em En Jc
 by_cases c1:a1=b1
 ·by_cases c2:a2=b2
  ·subst c1;subst c2
   simp [hh,h0,h1,o0,o1,n0,n1,Ad,Em,heq]
  ·subst c1
   have:(a2 ==b2)=false:=by simpa using c2
   simp [hh,h0,h1,o0,o1,n0,n1,Ad,Em,En,Jc,heq,c2]
 ·have:(a1 ==b1)=false:=by simpa using c1
  simp [hh,h0,h1,o0,o1,n0,n1,Ad,En,heq,c1]
section
variable {P:Program} {σ:List (Nat × Value)} {g:bn} {U:List az} {t ti u:TypeId} {x y:Operand} {a b c d:Int} {f0 f1:Field}
theorem aG.Kb (ht : P.underlying t = some (.struct #[f0, f1])) (hi : P.underlying ti = some (.int .i64)) (h0 : f0.type = ti) (h1 : f1.type = ti) (o0 : f0.offset = 0) (o1 : f1.offset = 1) (n0 : f0.name ≠ "_") (n1 : f1.name ≠ "_") (hh : P.stoodInHeld t = false) (hgd : P.eqGuardType P.depth t = false)
  (hx:aA σ x=some (.agg #[.int .i64 a,.int .i64 b])) (hy:aA σ y=some (.agg #[.int .i64 c,.int .i64 d])):aG P (.binOp .neq t x y u) σ g U (.bool (decide ((a,b)≠(c,d)))) U:=.run fun o ρ w ho hk=>by
 have h:=Wi ht hi h0 h1 o0 o1 n0 n1 hh (a,b) (c,d) w;simp only [ve] at h
 simp [execOp,ho,hk x _ hx,hk y _ hy,eqGuard,Go.binOp,h,hgd]
end
theorem F_ {α:Type} {xs ys:List α} {i:Nat} (hi:i<xs.length) (hi2:i<ys.length) (h:xs.take i=ys.take i) (e:xs[i]=ys[i]):xs.take (i+1)=ys.take (i+1):=by
 rw [List.take_succ_eq_append_getElem hi,List.take_succ_eq_append_getElem hi2,h,e]
theorem Fi {α:Type} {xs ys:List α} {i:Nat} (hi:i<xs.length) (hi2:i<ys.length) (e:¬ xs[i]=ys[i]):¬ xs=ys:=fun h=>e (by subst h;rfl)
theorem nV {a b:List UInt8} (h:(str a).toList=(str b).toList):a=b:=by simpa using h
set_option synthInstance.maxSize 2000
set_option synthInstance.maxHeartbeats 400000
instance Y9:DecidableEq dz:=inferInstance
instance Ze:DecidableEq aP:=inferInstance
instance Zb:DecidableEq aD:=inferInstance
instance Zg:DecidableEq GN:=inferInstance
instance Zc:DecidableEq ed:=inferInstance
instance Zd:DecidableEq Mp:=inferInstance
instance Zf:DecidableEq jX:=inferInstance
instance Y_:DecidableEq Gx:=inferInstance
instance Za:DecidableEq Ml:=inferInstance
end Go.Sp
end
section
/- Texts of this proof, one behind the other. -/
section
/- Texts of this proof. -/
namespace Go.Sp
theorem aG.Im {P:Program} {σ:List (Nat × Value)} {g:bn} {U:List az} {t u:TypeId} {x y:Operand} {a b:ByteArray} (hx:aA σ x=some (.string a)) (hy:aA σ y=some (.string b)) :
  aG P (.binOp .geq t x y u) σ g U (.bool !(Op.bytesLess a.toList b.toList)) U :=
 .run fun o ρ w ho hk=>by simp [execOp,ho,hk x _ hx,hk y _ hy,eqGuard,Go.binOp,Op.stringOp]
theorem Io (x y:List UInt8):(!Op.bytesLess (str x).toList (str y).toList)=decide (¬ x<y):=by rw [TF,decide_not]
end Go.Sp
end
section
/- Texts of this proof. -/
namespace Go.Sp
section
variable {ro:Option Nat} {P:Program} {fn:Func} {n:Nat} {R:Ending→World→Prop} {k:List Item} {σ:List (Nat × Value)} {D:List Deferred} {g:bn} {U ζ:List az} {ops:Array Oper} {t e e' :TypeId} {x:Operand} {v:Value} {xs:List UInt8}
theorem aG.toE {op:Op} {ax :List az} {u:Value} (h:aG P op σ g U u ax):bF P op σ g U fun v BD =>v=u∧BD =ax :=
 fun o ρ w h1 h2 h3=>let ⟨w',a,b⟩:=h o ρ w h1 h2 h3;⟨u,w',ax,⟨rfl,rfl⟩,a,b⟩
theorem bF.toStrO {t2:TypeId} (ht:P.underlying t=some (.slice e)) (he:P.underlying e=some (.int .u8)) (ht2:P.underlying t2=some .string) (hx:aA σ x=some v) :
  bF P (.convert t t2 x) σ g (av ag.u8 e' v xs::U) fun u ax =>∃ cW,(u=.string (str xs)∧cW=U)∧ax =av ag.u8 e' v xs::cW :=
 bF.borrow fun m hm hd=>aG.toE (aG.toStr (g:=g.add m) ht he ht2 hx (hm.arr.right hd))
theorem cO.toStrO {fl:Bool} {i d:Nat} {t2:TypeId} {l:List Nat} (ho:bJ ops i n σ d (.convert t t2 x)) (hd:ei fl ops i l=true) (ht:P.underlying t=some (.slice e)) (he:P.underlying e=some (.int .u8)) (ht2:P.underlying t2=some .string) (hx:aA σ x=some v)
  (hs:bg U (av ag.u8 e' v xs) ζ) (h:af P fn n R ops k D g l ((d,.string (str xs))::σ) U):aJ P fn n R ops k D g fl (i::l) σ U :=
 aJ.perm hs.perm (cO.f_ (U:=av ag.u8 e' v xs::ζ) (K:=fun u ax =>u=.string (str xs)∧ax =av ag.u8 e' v xs::ζ) ho rfl hd
  (fun aO=>(bF.toStrO (U:=ζ++aO) ht he ht2 hx).imp fun _ _ ⟨_,⟨a,b⟩,c⟩=>⟨_,⟨a,rfl⟩,by rw [c,b];rfl⟩) (by rintro _ _ ⟨rfl,rfl⟩;exact aJ.perm hs.perm.symm h))
theorem af.toStrO {i d:Nat} {t2:TypeId} {l:List Nat} (ho:bJ ops i n σ d (.convert t t2 x)) (hd:eH ops [i] l=true) (ht:P.underlying t=some (.slice e)) (he:P.underlying e=some (.int .u8)) (ht2:P.underlying t2=some .string) (hx:aA σ x=some v)
  (hs:bg U (av ag.u8 e' v xs) ζ) (h:af P fn n R ops k D g l ((d,.string (str xs))::σ) U):af P fn n R ops k D g (i::l) σ U:=cO.toStrO (fl:=false) ho (by simpa [ei] using hd) ht he ht2 hx hs h
theorem bT.toStrO {i d:Nat} {t2:TypeId} {l:List Nat} (ho:bJ ops i n σ d (.convert t t2 x)) (_:true=true) (ht:P.underlying t=some (.slice e)) (he:P.underlying e=some (.int .u8)) (ht2:P.underlying t2=some .string) (hx:aA σ x=some v)
  (hs:bg U (av ag.u8 e' v xs) ζ) (h:af P fn n R ops k D g l ((d,.string (str xs))::σ) U):aJ P fn n R ops k D g true (i::l) σ U:=cO.toStrO (fl:=true) ho rfl ht he ht2 hx hs h
end
end Go.Sp
end
end
end
end
section
/- Texts of this proof, one behind the other. -/
section
/- Texts of this proof. -/
namespace Go.Sp
def bW (l:List b6):List Value:=l.map qp
@[simp] theorem nc (l:List b6):(bW l).length=l.length:=by simp [bW]
theorem qq {l:List b6} {j:Nat} (h:j<l.length):(bW l)[j]?=some (qp (l.getD j 0)):=by
 simp [bW,h,List.getD_eq_getElem?_getD]
theorem Gj (l:List b6) (j:Nat) (x:b6):(bW l).set j (qp x)=bW (l.set j x):=by simp [bW,List.map_set]
theorem Yd (l:List b6):∀ v∈bW l,v.oneCell' =true:=fun v hv=>by
 obtain ⟨x,_,rfl⟩:=List.mem_map.1 hv;rfl
theorem Yc (l:List b6):(bW l).all (·.oneCell')=true:=List.all_eq_true.2 (Yd l)
section
variable {P:Program} {σ:List (Nat × Value)} {g:bn} {U ζ:List az} {t e:TypeId} {x y:Operand}
theorem aG.JB {kd:IntKind} {cq:Int} {j len:Nat} {cs:Array Value} {v:Value} (ht:P.underlying t=some (.array len e)) (he:(P.info? e).map (·.size)=some 1) (hf:dY P e=true) (hx:aA σ x=some (.agg cs)) (hy:aA σ y=some (.int kd cq)) (hz:cq=(j:Int)) (hj:j<len) (hv:cs[j]?=some v) :
  aG P (.index t x y) σ g U v U:=.run fun o ρ w ho hk=>by
 subst hz
 simp [execOp,ho,hk x _ hx,hk y _ hy,Instr.index,part,asIntOf,run_underlying ht,hj,run_sizeOf he,sD (rO hf),hv]
theorem aG.W1 {kd:IntKind} {z:Int} {a len b:Nat} (ht:P.underlying t=some (.array len e)) (he:(P.info? e).map (·.size)=some 1) (hx:aA σ x=some (.pointer (some ⟨b,0,none⟩))) (hy:aA σ y=some (.int kd z)) (hz:z=(a:Int)) (ha:a<len) (h0:0<a) :
  aG P (.slice t x (some y) none none) σ g U (.slice (some ⟨b,a,none⟩) (len - a) (len - a)) U:=.run fun o ρ w ho hk=>by
 subst hz;have h1:a≤len:=by omega
 have h2:¬ len=a:=by omega
 have h3:¬ a=0:=by omega
 simp [execOp,ho,hk x _ hx,hk y _ hy,Instr.sliceAt,Instr.sureAddr,Instr.sliceBounds,Instr.sliceBound,asIntOf,run_underlying ht,h1,h2,run_sizeOf he,Addr.add,h3]
theorem aG.W2 {kd:IntKind} {z:Int} {a len b:Nat} (ht:P.underlying t=some (.array len e)) (he:(P.info? e).map (·.size)=some 1) (hx:aA σ x=some (.pointer (some ⟨b,0,none⟩))) (hy:aA σ y=some (.int kd z)) (hz:z=(a:Int)) (ha:a≤len) (h0:0<len) :
  aG P (.slice t x none (some y) none) σ g U (.slice (some ⟨b,0,none⟩) a len) U:=.run fun o ρ w ho hk=>by
 subst hz;have h2:¬ len=0:=by omega
 simp [execOp,ho,hk x _ hx,hk y _ hy,Instr.sliceAt,Instr.sureAddr,Instr.sliceBounds,Instr.sliceBound,asIntOf,run_underlying ht,ha,h2,run_sizeOf he,Addr.add]
theorem bF.CB {T te:TypeId} {b i j m n c n' c' :Nat} {cs:List Value} (ht:P.underlying t=some (.slice e)) (he:(P.info? e).map (·.size)=some 1) (hx:aA σ x=some (.slice (some ⟨b,i,none⟩) n c)) (hy:aA σ y=some (.slice (some ⟨b,j,none⟩) n' c')) (hs:bg U (obj b T cs) ζ)
  (hm:m=min n' n) (h1:i+m≤cs.length) (h2:j+m≤cs.length) (hone:∀ v∈cs,v.oneCell' =true) :
  bF P (.call ⟨.builtin .copy,#[x,y],#[t,te]⟩) σ g U fun v ax =>v=.int .i64 (m:Int)∧ax =obj b T (cs.take i++(cs.drop j).take m++cs.drop (i+m))::ζ :=
 fun o ρ w ho hk hw=>by
  have hw1:=hw.cB hs;have hlen:((cs.drop j).take m).length=m:=by simp;omega
  have hr:=run_loadCells_list (P:=P) w ⟨b,j,none⟩ ((cs.drop j).take m) fun q v hq=>by
   rw [add_lit];refine hw1.uk ?_;have Et:q<((cs.drop j).take m).length:=(List.getElem?_eq_some_iff.1 hq).1;rw [List.getElem?_take_of_lt (by omega),List.getElem?_drop] at hq;exact hq
  rw [hlen] at hr;have hst:=run_storeCells_at P b i T ((cs.drop j).take m) 0 cs.toArray w hw1.block (by simp;omega) (by
   intro v hv
   exact hone v (List.mem_of_mem_drop (List.mem_of_mem_take hv)))
  simp only [Nat.add_zero,hlen] at hst;refine ⟨_,w.setRow b (cs.take i++(cs.drop j).take m++cs.drop (i+m)).toArray,_,⟨rfl,rfl⟩,?_,hw1.setRow⟩;have hmin:Nat.min n' n=m:=hm.symm
  simp [execOp,ho,hk x _ hx,hk y _ hy,resolve,invoke,builtin,Builtin.copy_,run_underlying ht,Builtin.lenOf,Builtin.firstCells,run_sizeOf he,hmin,hr,hst,goInt]
variable {fn:Func} {n:Nat} {R:Ending→World→Prop} {k:List Item} {D:List Deferred} {ops:Array Oper}
theorem af.CB {q d:Nat} {l:List Nat} {T te:TypeId} {b i j m n1 c n' c' :Nat} {cs:List Value} (ho:bJ ops q n σ d (.call ⟨.builtin .copy,#[x,y],#[t,te]⟩)) (hd:eH ops [q] l=true) (ht:P.underlying t=some (.slice e)) (he:(P.info? e).map (·.size)=some 1) (hx:aA σ x=some (.slice (some ⟨b,i,none⟩) n1 c))
  (hy:aA σ y=some (.slice (some ⟨b,j,none⟩) n' c')) (hs:bg U (obj b T cs) ζ) (hm:m=min n' n1) (h1:i+m≤cs.length) (h2:j+m≤cs.length) (hone:∀ v∈cs,v.oneCell' =true)
  (h:af P fn n R ops k D g l ((d,.int .i64 (m:Int))::σ) (obj b T (cs.take i++(cs.drop j).take m++cs.drop (i+m))::ζ)):af P fn n R ops k D g (q::l) σ U :=
 aJ.perm hs.perm (cO.f_ (fl:=false) (U:=obj b T cs::ζ) (K:=fun u ax =>u=.int .i64 (m:Int)∧ax =obj b T (cs.take i++(cs.drop j).take m++cs.drop (i+m))::ζ) ho rfl (by simpa [ei] using hd)
  (fun aO=>(bF.CB (ζ:=ζ++aO) ht he hx hy .here hm h1 h2 hone).imp fun _ _ ⟨a,b⟩=>⟨_,⟨a,rfl⟩,by rw [b];rfl⟩) (by rintro _ _ ⟨rfl,rfl⟩;exact h))
end
def jo (b:List UInt8) (t:Nat):List b6:=sched b t++List.replicate (80 - t) 0
theorem WJ {b:List UInt8} {t:Nat} (h:t≤80):(jo b t).length=80:=by simp [jo,yy];omega
theorem WI (b:List UInt8):jo b 80=sched b 80:=by simp [jo]
theorem Lo {b:List UInt8} {t:Nat} (h:t<80) (x:b6):(jo b t).set t x=sched b t++x::List.replicate (79 - t) 0:=by
 have hl:=yy b t;rw [jo,List.set_append_right _ _ (by omega),hl,Nat.sub_self,show 80 - t=(79 - t)+1 by omega,List.replicate_succ,List.set_cons_zero]
theorem WK {b:List UInt8} {t:Nat} (h:t<80):(jo b t).set t 0=jo b t:=by
 rw [Lo h,jo,show 80 - t=(79 - t)+1 by omega,List.replicate_succ]
theorem Lp {b:List UInt8} {t:Nat} (h:t<80):(jo b t).set t (rj b (sched b t) t)=jo b (t+1):=by
 rw [Lo h,jo,sched,List.append_assoc,List.singleton_append,show 80 - (t+1)=79 - t by omega]
theorem Be {b:List UInt8} {t i:Nat} (h:i<t):(jo b t).getD i 0=(sched b t).getD i 0:=by
 have hl:=yy b t;rw [List.getD_eq_getElem?_getD,List.getD_eq_getElem?_getD,jo,List.getElem?_append_left (by omega)]
theorem OJ {l:List b6} {t:Nat} {x:b6} (h:t<l.length):(l.set t x).getD t 0=x:=by simp [List.getD_eq_getElem?_getD,h]
theorem MS {l : List UInt8} {j : Nat} (h : j < l.length) : mH (l.take (j + 1)) = mH (l.take j) <<< 8 ||| UInt64.ofNat l[j].toNat := by
 unfold mH;rw [List.take_succ_eq_append_getElem h,List.foldl_append];rfl
theorem Yg (c:UInt8):IntKind.u64.wrap (c.toNat:Int)=((UInt64.ofNat c.toNat).toNat:Int):=by
 have:=c.toNat_lt;rw [rz (by omega),UInt64.toNat_ofNat'];omega
theorem JY {l:List b6} (h:l.length=8):∃ a b c d e f g i,l=[a,b,c,d,e,f,g,i]:=by
 match l,h with
 |[a,b,c,d,e,f,g,i],_=>exact ⟨a,b,c,d,e,f,g,i,rfl⟩
def mE (v u:List b6) (i:Nat):List b6:=(List.zipWith (·+·) v u).take i++v.drop i
theorem Mz {v u:List b6} (hv:v.length=8) (hu:u.length=8) {i:Nat} (h:i≤8):(mE v u i).length=8:=by simp [mE,hv,hu];omega
theorem Mx {v u:List b6} (hv:v.length=8) (hu:u.length=8):mE v u 8=List.zipWith (·+·) v u:=by
 rw [mE,List.drop_eq_nil_of_le (by omega),List.append_nil,List.take_of_length_le (by simp [hv,hu])]
theorem My {v u:List b6} (hv:v.length=8) (hu:u.length=8) {i:Nat} (h:i<8):(mE v u i).getD i 0=v.getD i 0:=by
 have hl:((List.zipWith (·+·) v u).take i).length=i:=by simp [hv,hu];omega
 rw [List.getD_eq_getElem?_getD,List.getD_eq_getElem?_getD,mE,List.getElem?_append_right (by omega),hl,Nat.sub_self,List.getElem?_drop,Nat.add_zero]
theorem MA {v u:List b6} (hv:v.length=8) (hu:u.length=8) {i:Nat} (h:i<8):(mE v u i).set i (v.getD i 0+u.getD i 0)=mE v u (i+1):=by
 have hl:((List.zipWith (·+·) v u).take i).length=i:=by simp [hv,hu];omega
 have hz:i<(List.zipWith (·+·) v u).length:=by simp [hv,hu];omega
 have e1:v.drop i=v[i]::v.drop (i+1):=List.drop_eq_getElem_cons (by omega);rw [mE,List.set_append_right _ _ (by omega),hl,Nat.sub_self,e1,List.set_cons_zero,mE,List.take_succ_eq_append_getElem hz,List.append_assoc,List.singleton_append,List.getElem_zipWith]
 simp [List.getD_eq_getElem?_getD,hv,hu,h]
end Go.Sp
end
section
/- Texts of this proof. -/
namespace Go.Sp
theorem JK {P:Program} {w:World} {n:String} {d:DataW Unit}:∀ {l:List (String × DataW Unit)} {ps:List MemPlace},DataW.LaidVars P w l ps→(n,d)∈l →
  ∃ g t cs fuel p,P.globalNamed n=some g∧(P.globals[g]?).map (·.type)=some t∧w.var? P n=some cs∧DataW.trod (fun _=>()) P w 0 (fun _=>true) false fuel t cs.toList=some (d,p)
 |[],_,_,hm=>by cases hm
 |(n',d')::r,ps,h,hm=>by
  obtain ⟨g,t,cs,fuel,p,q,e1,e2,ck,fm,hr,_⟩:=h
  rcases List.mem_cons.1 hm with hm|hm
  ·cases hm;exact ⟨g,t,cs,fuel,p,e1,e2,ck,fm⟩
  ·exact JK hr hm
theorem JM {P:Program} {w:World} {l:List (String × DataW Unit)} {n:String} {vs:List b6} {g t e:Nat} (h:laidMetH P l w) (hm:(n,DataW.agg (vs.map fun x=>.lit (.int .u64 (x.toNat:Int))))∈l) (hg:P.globalNamed n=some g)
  (ht:(P.globals[g]?).map (·.type)=some t) (hu:P.underlying t=some (.array vs.length e)) (he:P.underlying e=some (.int .u64)) (hc:P.cellsOf e=1) (PK:P.cellsOf t=vs.length):At w.fr ⟨g,0,none⟩ (bW vs):=by
 obtain ⟨ps,hl,_⟩:=(laidMetH_iff.1 h).1;obtain ⟨g',t',cs,fuel,p,e1,e2,ck,fm⟩:=JK hl (List.mem_filter.2 ⟨hm,rfl⟩);rw [hg] at e1;obtain rfl:=Option.some.inj e1;rw [ht] at e2;obtain rfl:=Option.some.inj e2;obtain ⟨xs,m,_,hx,hlen,hxl,hi⟩:=DataW.trod_array hu fm;have hx1:=(Prod.mk.inj hx).1
 injection hx1 with hx1
 have hcs:cs.toList=bW vs:=by
  refine List.ext_getElem (by rw [hlen,PK,nc]) fun i h1 h2=>?_;have qJ :i<vs.length:=by simpa using h2
  have hq:=hi i qJ;rw [hc,Nat.mul_one] at hq;have qX:xs[i]?=some xs[i]:=List.getElem?_eq_getElem (by omega);rw [qX] at hq;obtain ⟨z,hz,RB,_⟩:=DataW.trod_int he hq;have h3:(xs[i]).1=.lit (.int .u64 z):=by rw [RB]
  have h4:=congrArg (fun l:List (DataW Unit)=>l[i]?) hx1;simp only [List.getElem?_map,qX,List.getElem?_eq_getElem qJ,Option.map_some,Option.some.injEq] at h4;rw [h3] at h4
  injection h4 with h4
  injection h4 with _ h4
  have h5:cs.toList[i]=.int .u64 z:=by
   have:(cs.toList.drop i).take 1=[cs.toList[i]]:=by rw [List.drop_eq_getElem_cons h1];rfl
   rw [this] at hz;exact (List.cons.inj hz).1
  rw [h5,← h4]
  simp [bW,qp]
 intro j hj
 rw [Ii,← List.getElem?_eq_getElem hj,← hcs];unfold World.var? at ck;rw [hg] at ck;simp only [Option.bind_some] at ck;have e0:(Addr.mk g 0 none).add j=⟨g,j,none⟩:=by rw [add_lit,Nat.zero_add]
 rw [e0];unfold World.cell?
 simp only
 split at ck
 ·rename_i cs' _ _ hh
  obtain rfl:=Option.some.inj ck
  simp [hh]
 ·cases ck
end Go.Sp
end
end
end
end
