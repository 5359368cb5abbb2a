/- Texts of this proof, one behind the other. -/
import Derived.Test.YtojafegjlahajaaGreatDoorQSpGo
section
/- Texts of this proof. -/
namespace Go.Sp
abbrev bX:=UInt64
abbrev qp (x:bX):Value:=.int .u64 (x.toNat:Int)
theorem Bh (x:bX):x.toNat<18446744073709551616:=x.toNat_lt
theorem rp {k:Nat} (h:k<18446744073709551616):IntKind.u64.wrap (k:Int)=k:=by rw [uz];unfold u64;omega
theorem pS (x y:bX):IntKind.u64.wrap ((x.toNat:Int)+(y.toNat:Int))=((x+y).toNat:Int):=by
 rw [← Int.natCast_add,uz,UInt64.toNat_add];unfold u64;omega
theorem uY (x:bX):BitVec.ofInt IntKind.u64.bits (x.toNat:Int)=x.toBitVec:=by
 have:=Bh x
 apply BitVec.eq_of_toNat_eq
 rw [BitVec.toNat_ofInt];simp only [IntKind.bits]
 show _=x.toNat
 omega
theorem sE (x y:bX):bitsOf .xor .u64 (x.toNat:Int) (y.toNat:Int)=((x ^^^ y).toNat:Int):=by
 simp only [bitsOf];rw [uY,uY];exact rp (Bh (x ^^^ y))
theorem we (x y:bX):bitsOf .and .u64 (x.toNat:Int) (y.toNat:Int)=((x &&& y).toNat:Int):=by
 simp only [bitsOf];rw [uY,uY];exact rp (Bh (x &&& y))
theorem LB (x y : bX) : bitsOf .or .u64 (x.toNat : Int) (y.toNat : Int) = ((x ||| y).toNat : Int) := by
 simp only [bitsOf]; rw [uY, uY];exact rp (Bh (x ||| y))
theorem Xy (x : bX) : bitsOf .xor .u64 18446744073709551615 (x.toNat : Int) = ((~~~x).toNat : Int) := by
 have e : (18446744073709551615 : Int) = ((18446744073709551615 : bX).toNat : Int) := rfl;rw [e, sE];have : (18446744073709551615 : bX) ^^^ x = ~~~x := by
  apply UInt64.toBitVec_inj.1
  show (18446744073709551615 : bX).toBitVec ^^^ x.toBitVec = ~~~x.toBitVec
  rw [show (18446744073709551615:bX).toBitVec=BitVec.allOnes 64 from rfl,BitVec.allOnes_xor]
 rw [this]
theorem LC (x:bX) {n:Nat} (h:n<64):IntKind.u64.wrap ((x.toNat:Int)*2 ^ min n IntKind.u64.bits)=((x <<<UInt64.ofNat n).toNat:Int):=by
 have e:min n IntKind.u64.bits=n:=by simp only [IntKind.bits];omega
 rw [e,show ((x.toNat:Int)*2 ^ n)=((x.toNat*2 ^ n:Nat):Int) from by simp,uz,UInt64.toNat_shiftLeft];have:(UInt64.ofNat n).toNat % 64=n:=by rw [UInt64.toNat_ofNat'];omega
 rw [this,Nat.shiftLeft_eq];unfold u64;omega
theorem LD (x:bX) {n:Nat} (h:n<64):((x.toNat:Int).fdiv (2 ^ min n IntKind.u64.bits))=((x >>>UInt64.ofNat n).toNat:Int):=by
 have e:min n IntKind.u64.bits=n:=by simp only [IntKind.bits];omega
 have e2:((2:Int) ^ n)=((2 ^ n:Nat):Int):=by simp
 rw [e,e2,Int.fdiv_eq_ediv_of_nonneg _ (Int.natCast_nonneg _),UInt64.toNat_shiftRight];have:(UInt64.ofNat n).toNat % 64=n:=by rw [UInt64.toNat_ofNat'];omega
 rw [this,Nat.shiftRight_eq_div_pow];rfl
theorem Tl {a:Nat} {z:Int} (hz:z=0 - (a:Int)) (h0:0<a) (h:a<64):bitsOf .and .u64 (IntKind.u64.wrap z) 63=((64 - a:Nat):Int):=by
 have e1:IntKind.u64.wrap z=((UInt64.ofNat (18446744073709551616 - a)).toNat:Int):=by
  rw [uz,hz];unfold u64;rw [UInt64.toNat_ofNat'];omega
 have e2:(63:Int)=((63:bX).toNat:Int):=rfl;rw [e1,e2,we];have bY:(UInt64.ofNat (18446744073709551616 - a) &&& 63).toNat=64 - a:=by
  rw [UInt64.toNat_and,show (63:bX).toNat=2 ^ 6 - 1 from rfl,Nat.and_two_pow_sub_one_eq_mod];rw [UInt64.toNat_ofNat'];omega
 rw [bY]
def pN (x : bX) (n : Nat) : bX := x >>> UInt64.ofNat n ||| x <<< UInt64.ofNat (64 - n)
def ox (x:bX) (a b c:Nat):bX:=pN x a ^^^ pN x b ^^^ pN x c
def ri (x:bX) (a b s:Nat):bX:=pN x a ^^^ pN x b ^^^ x >>>UInt64.ofNat s
def gr:List bX:=[
 0x428a2f98d728ae22,0x7137449123ef65cd,0xb5c0fbcfec4d3b2f,0xe9b5dba58189dbbc,
 0x3956c25bf348b538,0x59f111f1b605d019,0x923f82a4af194f9b,0xab1c5ed5da6d8118,
 0xd807aa98a3030242,0x12835b0145706fbe,0x243185be4ee4b28c,0x550c7dc3d5ffb4e2,
 0x72be5d74f27b896f,0x80deb1fe3b1696b1,0x9bdc06a725c71235,0xc19bf174cf692694,
 0xe49b69c19ef14ad2,0xefbe4786384f25e3,0x0fc19dc68b8cd5b5,0x240ca1cc77ac9c65,
 0x2de92c6f592b0275,0x4a7484aa6ea6e483,0x5cb0a9dcbd41fbd4,0x76f988da831153b5,
 0x983e5152ee66dfab,0xa831c66d2db43210,0xb00327c898fb213f,0xbf597fc7beef0ee4,
 0xc6e00bf33da88fc2,0xd5a79147930aa725,0x06ca6351e003826f,0x142929670a0e6e70,
 0x27b70a8546d22ffc,0x2e1b21385c26c926,0x4d2c6dfc5ac42aed,0x53380d139d95b3df,
 0x650a73548baf63de,0x766a0abb3c77b2a8,0x81c2c92e47edaee6,0x92722c851482353b,
 0xa2bfe8a14cf10364,0xa81a664bbc423001,0xc24b8b70d0f89791,0xc76c51a30654be30,
 0xd192e819d6ef5218,0xd69906245565a910,0xf40e35855771202a,0x106aa07032bbd1b8,
 0x19a4c116b8d2d0c8,0x1e376c085141ab53,0x2748774cdf8eeb99,0x34b0bcb5e19b48a8,
 0x391c0cb3c5c95a63,0x4ed8aa4ae3418acb,0x5b9cca4f7763e373,0x682e6ff3d6b2b8a3,
 0x748f82ee5defb2fc,0x78a5636f43172f60,0x84c87814a1f0ab72,0x8cc702081a6439ec,
 0x90befffa23631e28,0xa4506cebde82bde9,0xbef9a3f7b2c67915,0xc67178f2e372532b,
 0xca273eceea26619c,0xd186b8c721c0c207,0xeada7dd6cde0eb1e,0xf57d4f7fee6ed178,
 0x06f067aa72176fba,0x0a637dc5a2c898a6,0x113f9804bef90dae,0x1b710b35131c471b,
 0x28db77f523047d84,0x32caab7b40c72493,0x3c9ebe0a15c9bebc,0x431d67c49c100d4c,
 0x4cc5d4becb3e42b6,0x597f299cfc657e2a,0x5fcb6fab3ad6faec,0x6c44198c4a475817]
def er:List bX:=[
 0x6a09e667f3bcc908,0xbb67ae8584caa73b,0x3c6ef372fe94f82b,0xa54ff53a5f1d36f1,
 0x510e527fade682d1,0x9b05688c2b3e6c1f,0x1f83d9abfb41bd6b,0x5be0cd19137e2179]
def mH (l : List UInt8) : bX := l.foldl (fun n c => n <<< 8 ||| UInt64.ofNat c.toNat) 0
def q_ (b:List UInt8) (m:List bX) (t:Nat):bX :=
 if t<16 then mH ((b.drop (8*t)).take 8)
 else ri (m.getD (t - 2) 0) 19 61 6+m.getD (t - 7) 0+ri (m.getD (t - 15) 0) 1 8 7+m.getD (t - 16) 0
def sched (b:List UInt8):Nat→List bX
 |0=>[]
 |t+1=>sched b t++[q_ b (sched b t) t]
theorem yx (b:List UInt8):∀ t,(sched b t).length=t
 |0=>rfl
 |t+1=>by rw [sched,List.length_append,yx b t];rfl
def Kz (v:List bX) (k x:bX):List bX :=
 let a:=v.getD 0 0;let b:=v.getD 1 0;let c:=v.getD 2 0;let d:=v.getD 3 0;let e:=v.getD 4 0;let f:=v.getD 5 0;let g:=v.getD 6 0;let h:=v.getD 7 0
 let one := h + ox e 14 18 41 + (e &&& f ^^^ ~~~e &&& g) + k + x
 let two:=ox a 28 34 39+(a &&& b ^^^ a &&& c ^^^ b &&& c)
 [one+two,a,b,c,d+one,e,f,g]
def q9 (v:List bX) (m:List bX):Nat→List bX
 |0=>v
 |t+1=>Kz (q9 v m t) (gr.getD t 0) (m.getD t 0)
theorem Fx (v m:List bX) (h:v.length=8):∀ t,(q9 v m t).length=8
 |0=>h
 |_+1=>rfl
def rf (h:List bX) (b:List UInt8):List bX:=List.zipWith (·+·) h (q9 h (sched b 80) 80)
theorem KX (h:List bX) (b:List UInt8) (hl:h.length=8):(rf h b).length=8:=by
 rw [rf,List.length_zipWith,Fx _ _ hl,hl];rfl
def lq (h:List bX) (b:List UInt8):Nat→List bX
 |0=>h
 |n+1=>rf (lq h b n) ((b.drop (128*n)).take 128)
def feed (h:List bX) (b:List UInt8):List bX:=lq h b (b.length / 128)
def bQ (b:List UInt8):List UInt8:=b.drop (128*(b.length / 128))
theorem AU (b:List UInt8):(bQ b).length=b.length % 128:=by rw [bQ,List.length_drop];omega
theorem Cw (h:List bX) (b:List UInt8) (hl:h.length=8):∀ n,(lq h b n).length=8
 |0=>hl
 |n+1=>KX _ _ (Cw h b hl n)
theorem wW (h:List bX) (b:List UInt8) (hl:h.length=8):(feed h b).length=8:=Cw h b hl _
theorem Hw (h:List bX) (b c:List UInt8):∀ n,128*n≤b.length→lq h (b++c) n=lq h b n
 |0,_=>rfl
 |n+1,hn=>by
  rw [lq,lq,Hw h b c n (by omega),List.drop_append_of_le_length (by omega),List.take_append_of_le_length (by rw [List.length_drop];omega)]
theorem Cv (h:List bX) (b:List UInt8) (k:Nat):∀ n,lq h b (k+n)=lq (lq h b k) (b.drop (128*k)) n
 |0=>rfl
 |n+1=>by
  rw [← Nat.add_assoc,lq,lq,Cv h b k n,List.drop_drop,show 128*k+128*n=128*(k+n) by omega]
theorem Cx (h:List bX) (b c:List UInt8):feed h (b++c)=feed (feed h b) (bQ b++c)∧bQ (b++c)=bQ (bQ b++c):=by
 have hb:b.length=128*(b.length / 128)+(bQ b).length:=by rw [AU];omega
 have e1:(b++c).length / 128=b.length / 128+(bQ b++c).length / 128:=by
  rw [List.length_append,List.length_append];omega
 have e2:(b++c).drop (128*(b.length / 128))=bQ b++c:=by
  rw [bQ,List.drop_append_of_le_length (by omega)]
 constructor
 ·rw [feed,e1,Cv,e2,Hw h b c _ (by omega)];rfl
 ·rw [bQ,e1,Nat.mul_add,← List.drop_drop,e2];rfl
theorem Hx (h:List bX) {b:List UInt8} (hb:b.length<128):feed h b=h∧bQ b=b:=by
 have:b.length / 128=0:=by omega
 constructor
 ·rw [feed,this];rfl
 ·rw [bQ,this];rfl
theorem NV (h:List bX) {b:List UInt8} (hb:128≤b.length):feed h b=feed (rf h (b.take 128)) (b.drop 128)∧bQ b=bQ (b.drop 128):=by
 have e:b.length / 128=1+(b.drop 128).length / 128:=by rw [List.length_drop];omega
 constructor
 ·rw [feed,e,Cv];rfl
 ·rw [bQ,e,Nat.mul_add,← List.drop_drop];rfl
theorem NY (h:List bX) {b c:List UInt8} (hb:bQ b=[]):feed h (b++c)=feed (feed h b) c∧bQ (b++c)=bQ c:=by
 have:=Cx h b c
 rwa [hb,List.nil_append] at this
theorem NX (h:List bX) {b c:List UInt8} (hb:(bQ b++c).length<128):feed h (b++c)=feed h b∧bQ (b++c)=bQ b++c:=by
 obtain ⟨h1,h2⟩:=Cx h b c;obtain ⟨h3,h4⟩:=Hx (feed h b) hb;exact ⟨h1.trans h3,h2.trans h4⟩
theorem NW (h:List bX) {b c:List UInt8} (hb:(bQ b++c).length=128):feed h (b++c)=rf (feed h b) (bQ b++c)∧bQ (b++c)=[]:=by
 obtain ⟨h1,h2⟩:=Cx h b c;obtain ⟨h3,h4⟩:=NV (feed h b) (b:=bQ b++c) (by omega);have hd:(bQ b++c).drop 128=[]:=List.drop_eq_nil_of_le (by omega);have ht:(bQ b++c).take 128=bQ b++c:=List.take_of_length_le (by omega);obtain ⟨h5,h6⟩:=Hx (rf (feed h b) (bQ b++c)) (b:=[]) (by decide);rw [hd,ht,h5] at h3;rw [hd,h6] at h4;exact ⟨h1.trans h3,h2.trans h4⟩
def kP (n:Nat):Nat:=(239 - n % 128) % 128
def nO (n:Nat):List UInt8:=128::List.replicate (kP n) 0++List.replicate 8 0++be (8*(n:Int))
def oz (x:bX):List UInt8:=be (x.toNat:Int)
def nN (h:List bX):List UInt8:=(h.map oz).flatten
def lM (b:List UInt8):List UInt8:=nN (feed er (b++nO b.length))
theorem E5:∀ h:List bX,(nN h).length=8*h.length
 |[]=>rfl
 |x::h=>by
  have:=E5 h;rw [nN,List.map_cons,List.flatten_cons,List.length_append,List.length_cons];rw [nN] at this;rw [this,oz,yY];omega
theorem qj (b:List UInt8):(lM b).length=64:=by rw [lM,E5,wW _ _ rfl]
end Go.Sp
end
section
/- Texts of this proof, one behind the other. -/
section
/- Texts of this proof, one behind the other. -/
section
/- Texts of this proof. -/
namespace Go.Sp
def mI (d:dn):Bool:=decide (1≤d.1∧d.1≤8∧1≤d.2.1∧d.2.1≤1073741824)
theorem wT {d:dn}:mI d=true↔1≤d.1∧d.1≤8∧1≤d.2.1∧d.2.1≤1073741824:=decide_eq_true_iff
def sR (v:List dn):Prop:=v.Pairwise fun a b=>a.1<b.1
instance (v:List dn):Decidable (sR v):=inferInstanceAs (Decidable (v.Pairwise fun a b=>a.1<b.1))
def jZ (v:List dn):Bool:=v.all mI && decide (sR v)
theorem uw {v:List dn}:jZ v=true↔(∀ d∈v,mI d=true)∧sR v:=by
 unfold jZ;rw [Bool.and_eq_true,List.all_eq_true,decide_eq_true_iff]
theorem Xt {v:List dn} {i:Nat} (h:i<v.length) (o:jZ (v.take i)=true):jZ (v.take (i+1))=true↔mI v[i]=true∧(∀ h0:0<i,v[i - 1].1<v[i].1):=by
 rw [uw] at o ⊢;rw [List.take_succ_eq_append_getElem h]
 constructor
 ·rintro ⟨h1,h2⟩
  refine ⟨h1 _ (List.mem_append_right _ (List.mem_singleton.2 rfl)),fun h0=>?_⟩;have h3:=(List.pairwise_append.1 h2).2.2;exact h3 v[i - 1] (List.mem_iff_getElem.2 ⟨i - 1,by simp;omega,by simp⟩) v[i] (List.mem_singleton.2 rfl)
 ·rintro ⟨h1,h2⟩
  refine ⟨fun d hd=>?_,List.pairwise_append.2 ⟨o.2,List.pairwise_singleton ..,fun a ha b hb=>?_⟩⟩
  ·rcases List.mem_append.1 hd with hd|hd
   ·exact o.1 d hd
   ·rw [List.mem_singleton.1 hd];exact h1
  ·rw [List.mem_singleton.1 hb]
   obtain ⟨j,hj,rfl⟩:=List.mem_iff_getElem.1 ha;rw [List.length_take] at hj;rw [List.getElem_take];have h3:=h2 (by omega)
   by_cases hji:j=i - 1
   ·subst hji;exact h3
   ·have h5:=List.pairwise_iff_getElem.1 o.2 j (i - 1) (by simp;omega) (by simp;omega) (by omega)
    rw [List.getElem_take,List.getElem_take] at h5;exact Int.lt_trans h5 h3
theorem Xu {v:List dn} (i:Nat) (o:jZ v=true):jZ (v.take i)=true:=by
 rw [uw] at o ⊢;exact ⟨fun d hd=>o.1 d (List.mem_of_mem_take hd),o.2.sublist (List.take_sublist ..)⟩
theorem LA {v:List dn} {i:Nat} (h:jZ (v.take i)=false):jZ v=false:=by
 cases e:jZ v with
 |false=>rfl
 |true=>rw [Xu i e] at h;cases h
def vt (v:List dn) (d:dn):Bool:=v.any fun x=>decide (x.1=d.1∧d.2.1≤x.2.1)
def rS (v:List dn) (d:dn):Bool:=jZ v && mI d && vt v d
theorem O2 {v:List dn} {d:dn} (o:sR v) {k:Nat} (h:k<v.length) (hk:v[k].1=d.1):vt v d=decide (d.2.1≤v[k].2.1):=by
 unfold vt
 by_cases e:d.2.1≤v[k].2.1
 ·rw [decide_eq_true e,List.any_eq_true]
  exact ⟨v[k],List.getElem_mem h,decide_eq_true ⟨hk,e⟩⟩
 ·rw [decide_eq_false e,List.any_eq_false]
  intro x hx
  obtain ⟨j,hj,rfl⟩:=List.mem_iff_getElem.1 hx;rw [decide_eq_true_iff];rintro ⟨h1,h2⟩
  rcases Nat.lt_trichotomy j k with h3|h3|h3
  ·have:=List.pairwise_iff_getElem.1 o j k hj h h3;omega
  ·subst h3;exact e h2
  ·have:=List.pairwise_iff_getElem.1 o k j h hj h3;omega
theorem O3 {v:List dn} {d:dn} (h:∀ i (hi:i<v.length),v[i].1≠d.1):vt v d=false:=by
 unfold vt;rw [List.any_eq_false]
 intro x hx
 obtain ⟨j,hj,rfl⟩:=List.mem_iff_getElem.1 hx;rw [decide_eq_true_iff];exact fun q=>h j hj q.1
theorem yp {v:List dn} (h:jZ v=true):v.length≤8:=by
 obtain ⟨h1,h2⟩:=uw.1 h;have key:∀ i (hi:i<v.length),(i:Int)+1≤v[i].1:=by
  intro i
  induction i with
  |zero=>intro hi;have:=wT.1 (h1 _ (List.getElem_mem hi));omega
  |succ i ih =>
   intro hi
   have a:=ih (by omega);have b:=List.pairwise_iff_getElem.1 h2 i (i+1) (by omega) hi (by omega)
   omega
 rcases Nat.lt_or_ge 8 v.length with q|q
 ·have a:=key (v.length - 1) (by omega)
  have b:=wT.1 (h1 _ (List.getElem_mem (show v.length - 1<v.length by omega)))
  omega
 ·exact q
end Go.Sp
end
section
/- Texts of this proof. -/
namespace Go.Sp
abbrev iJ (x:aP):dn:=(x.2.1,x.2.2.1,())
def shaped (x:aP):Bool:=decide (1≤x.1.length) && (decide (x.1.length≤64) && (mI (iJ x) && (jZ x.2.2.2.1 && (!rS x.2.2.2.1 (iJ x) && (decide (x.2.2.2.2.2.1.length≤1024) && (!x.2.2.2.2.1 ||decide (x.2.2.2.2.2.1.length=0)))))))
theorem yz {x:aP}:shaped x=true↔1≤x.1.length∧x.1.length≤64∧mI (iJ x)=true∧jZ x.2.2.2.1=true∧rS x.2.2.2.1 (iJ x)=false∧x.2.2.2.2.2.1.length≤1024∧(x.2.2.2.2.1=true→x.2.2.2.2.2.1.length=0):=by
 unfold shaped;simp only [Bool.and_eq_true,decide_eq_true_eq,Bool.not_eq_true',Bool.or_eq_true];refine ⟨fun ⟨a,b,c,d,e,f,g⟩=>⟨a,b,c,d,e,f,fun h=>?_⟩,fun ⟨a,b,c,d,e,f,g⟩=>⟨a,b,c,d,e,f,?_⟩⟩
 ·rcases g with g|g
  ·rw [h] at g;cases g
  ·exact g
 ·cases h:x.2.2.2.2.1
  ·exact .inl rfl
  ·exact .inr (g h)
def ee (x:aP):Bool:=shaped x && decide (x.2.2.2.2.2.2.1.length=64)
theorem vW {x:aP}:ee x=true↔shaped x=true∧x.2.2.2.2.2.2.1.length=64:=by unfold ee;rw [Bool.and_eq_true,decide_eq_true_iff]
def o5 (l:List dn):List UInt8:=(l.map fun d=>be d.1++be d.2.1).flatten
@[simp] theorem Yv:o5 []=[]:=rfl
@[simp] theorem Cq (d:dn) (l:List dn):o5 (d::l)=be d.1++(be d.2.1++o5 l):=by simp [o5]
theorem NH (l:List dn):(o5 l).length=16*l.length:=by
 induction l with
 |nil=>rfl
 |cons d l ih=>rw [Cq];simp [ih];omega
def nC (b:Bool):UInt8:=if b then 1 else 0
def jv (x:aP):List UInt8:=[1]++(bytesOf x.1++(be x.2.1++(be x.2.2.1++(be x.2.2.2.1.length++(o5 x.2.2.2.1++([nC x.2.2.2.2.1]++bytesOf x.2.2.2.2.2.1))))))
def b9 (x:aP):List UInt8:=jv x++x.2.2.2.2.2.2.1
theorem Vc (x:aP):(jv x).length=42+x.1.length+16*x.2.2.2.1.length+x.2.2.2.2.2.1.length:=by simp [jv,NH];omega
theorem Kv {x:aP} (h:shaped x=true):(jv x).length≤1300:=by
 obtain ⟨_,h1,_,h2,_,h3,_⟩:=yz.1 h;have:=yp h2;rw [Vc];omega
theorem AQ {x:aP} (h:ee x=true):(b9 x).length≤1400:=by
 obtain ⟨h1,h2⟩:=vW.1 h;have:=Kv h1
 simp [b9];omega
def over (a b:aP):Bool:=decide (a.1=b.1) && (shaped a && (shaped b && rS a.2.2.2.1 (iJ b)))
end Go.Sp
end
end
section
/- Texts of this proof. -/
namespace Go.Sp
def kF (x y:Int):Int:=if x<y then -1 else if y<x then 1 else 0
theorem Ca (x y:Int):cG (kF x y):=by unfold kF;split<;>(try split)<;>(constructor<;>omega)
theorem G7 {x y:Int}:kF x y<0↔x<y:=by unfold kF;split<;>(try split)<;>omega
theorem wO {x y:Int}:kF x y=0↔x=y:=by unfold kF;split<;>(try split)<;>omega
def dQ (a b:aP):Int:=if kF a.2.1 b.2.1≠0 then kF a.2.1 b.2.1 else kF a.2.2.1 b.2.2.1
theorem G4 (a b:aP):cG (dQ a b):=by unfold dQ;split<;>exact Ca _ _
theorem B_ {a b:aP}:dQ a b=0↔iJ a=iJ b:=by
 unfold dQ iJ
 split
 ·rename_i h
  refine ⟨fun q=>absurd q h,fun q=>absurd (wO.2 (Prod.mk.inj q).1) h⟩
 ·rename_i h
  have h1:a.2.1=b.2.1:=wO.1 (Classical.not_not.1 h);rw [wO,h1];exact ⟨fun q=>by rw [q],fun q=>(Prod.mk.inj (Prod.mk.inj q).2).1⟩
theorem u6 {a b:aP}:dQ a b<0↔a.2.1<b.2.1∨a.2.1=b.2.1∧a.2.2.1<b.2.2.1:=by
 unfold dQ
 split
 ·rename_i h
  have h1:a.2.1≠b.2.1:=fun q=>h (wO.2 q);rw [G7];exact ⟨.inl,fun q=>q.elim id fun q=>absurd q.1 h1⟩
 ·rename_i h
  have h1:a.2.1=b.2.1:=wO.1 (Classical.not_not.1 h);rw [G7];exact ⟨fun q=>.inr ⟨h1,q⟩,fun q=>q.elim (fun q=>absurd q (by omega)) fun q=>q.2⟩
def iq (l:List aP) (x:aP):Bool:=l.any fun y=>decide (dQ x y≠0) && over y x
def gP (l:List aP):Bool:=l.all fun x=>ee x && decide (x.1=(l.headD x).1)
theorem vQ {l:List aP}:gP l=true↔∀ i (h:i<l.length),ee l[i]=true∧l[i].1=(l[0]'(by omega)).1:=by
 unfold gP;rw [List.all_eq_true]
 constructor
 ·intro h i hi
  have:=h l[i] (List.getElem_mem hi);rw [Bool.and_eq_true,decide_eq_true_iff] at this
  cases l with
  |nil=>cases hi
  |cons a l=>exact this
 ·intro h x hx
  obtain ⟨i,hi,rfl⟩:=List.mem_iff_getElem.1 hx;have:=h i hi;rw [Bool.and_eq_true,decide_eq_true_iff]
  cases l with
  |nil=>cases hi
  |cons a l=>exact this
theorem E3 {l:List aP} (i:Nat) (h:gP l=true):gP (l.take i)=true:=by
 rw [vQ] at h ⊢
 intro j hj
 have hj' :j<l.length:=by simp at hj;omega
 have:=h j hj';simp only [List.getElem_take];exact this
theorem TJ {l:List aP} {x:aP} (h:gP l=true):gP (l++[x])=true↔ee x=true∧(∀ h0:0<l.length,x.1=l[0].1):=by
 rw [vQ] at h ⊢
 constructor
 ·intro q
  have h1:=q l.length (by simp);rw [List.getElem_append_right (Nat.le_refl _)] at h1;simp only [Nat.sub_self,List.getElem_cons_zero] at h1;refine ⟨h1.1,fun h0=>?_⟩;rw [h1.2,List.getElem_append_left h0]
 ·rintro ⟨h1,h2⟩ j hj
  by_cases hl:j<l.length
  ·rw [List.getElem_append_left hl,List.getElem_append_left (by omega)]
   exact h j hl
  ·have hj2:j=l.length:=by simp at hj;omega
   subst hj2;rw [List.getElem_append_right (Nat.le_refl _)];simp only [Nat.sub_self,List.getElem_cons_zero];refine ⟨h1,?_⟩
   by_cases h0:0<l.length
   ·rw [List.getElem_append_left h0];exact h2 h0
   ·have:l=[]:=List.eq_nil_of_length_eq_zero (by omega)
    subst this;rfl
def fJ (l:List aP):Prop:=gP l=true∧∀ j (h:j<l.length),(∀ h0:0<j,dQ l[j-1] l[j]<0)∧iq l l[j]=false
instance (l:List aP):Decidable (fJ l):=by unfold fJ;infer_instance
def bK:ag aP:=ag.G8 (fun x=>(x,b9 x,())) (ag.prod cq (ag.prod (ag.slice ag.u8) ag.unit))
theorem bK.open {h:Fr} {cs:List Value} {x:aP} (r:bK.rel h cs x):∃ cs' a c,cs=cs' ++[.slice a (b9 x).length c]∧cq.rel h cs' x∧aj ag.u8 h (.slice a (b9 x).length c) (b9 x):=by
 obtain ⟨c1,c2,rfl,r1,c3,gV,rfl,⟨v,rfl,r2⟩,r3⟩:=r;obtain rfl:gV=[]:=r3;obtain ⟨a,c,rfl⟩:=r2.shape;exact ⟨c1,a,c,rfl,r1,r2⟩
theorem bK.sh {h:Fr} {cs:List Value} {x:aP} (r:bK.rel h cs x):∃ a3 a5 a6 a7 c3 dP dF iB,cs=[.string (str x.1),.int .i64 x.2.1,.int .i64 x.2.2.1,.slice a3 x.2.2.2.1.length c3,.bool x.2.2.2.2.1,.slice a5 x.2.2.2.2.2.1.length dP,.slice a6 x.2.2.2.2.2.2.1.length dF,.slice a7 (b9 x).length iB] ∧
  cq.rel h [.string (str x.1),.int .i64 x.2.1,.int .i64 x.2.2.1,.slice a3 x.2.2.2.1.length c3,.bool x.2.2.2.2.1,.slice a5 x.2.2.2.2.2.1.length dP,.slice a6 x.2.2.2.2.2.2.1.length dF] x∧aj ag.u8 h (.slice a7 (b9 x).length iB) (b9 x):=by
 obtain ⟨cs',a7,iB,rfl,h1,h2⟩:=bK.open r;obtain ⟨a3,a5,a6,c3,dP,dF,rfl,_⟩:=cq.sh h1;exact ⟨a3,a5,a6,a7,c3,dP,dF,iB,rfl,h1,h2⟩
theorem bK.mk {h:Fr} {cs:List Value} {x:aP} {v:Value} (h1:cq.rel h cs x) (h2:aj ag.u8 h v (b9 x)):bK.rel h (cs++[v]) x :=
 ⟨cs,[v],rfl,h1,[v],[],rfl,⟨v,rfl,h2⟩,rfl⟩
def lP (r:Fr) (e:TypeId) (cs:List Value) (x:aP):az:=fun m=>∃ cs' a c,cs=cs' ++[.slice a (b9 x).length c]∧cq.rel r cs' x∧av ag.u8 e (.slice a (b9 x).length c) (b9 x) m
theorem lP.rel {r h:Fr} {e:TypeId} {cs:List Value} {x:aP} {m:Fr} (hr:r.sub h) (hm:m.sub h):lP r e cs x m→bK.rel h cs x
 |⟨cs',a,c,h1,h2,h3⟩=>by subst h1;exact bK.mk (h2.mono hr) (h3.arr.mono hm)
def ff (r:Fr) (tR yB e:TypeId) (b:Nat) (xs:List aP):az:=fun m=>∃ p:(Option Addr × Nat) × List (List Value),Sat [obj b tR [.slice p.1.1 xs.length p.1.2],av (ag.cells 8) yB (.slice p.1.1 xs.length p.1.2) p.2,b6 (lP r e) p.2 xs] m
def ru (h:Fr) (b:Nat) (xs:List aP):Prop:=∃ a c,At h ⟨b,0,none⟩ [.slice a xs.length c]∧aj bK h (.slice a xs.length c) xs
theorem ff.read {r h:Fr} {tR yB e:TypeId} {b:Nat} {xs:List aP} {m:Fr} (hr:r.sub h) (hm:m.sub h):ff r tR yB e b xs m→ru h b xs
 |⟨p,m1,k1,_,s1,t1,y1,m2,k2,_,s2,t2,F3,m3,bg,_,s3,_,Bm,_⟩=>by
  refine ⟨p.1.1,p.1.2,(gf y1).mono (Fr.aH s1 hm),?_⟩;have ha:=F3.arr.mono (Fr.aH s2 (Fr.aH t1 hm));refine aj.kO (k:=8) ha (b6.sU (fun cs a m' z q=>lP.rel hr q z) Bm (Fr.aH s3 (Fr.aH t2 (Fr.aH t1 hm)))) rfl
theorem ff.nil {r:Fr} {tR yB e:TypeId} {b:Nat} {m:Fr} (x:obj b tR [.slice none 0 0] m):ff r tR yB e b [] m :=
 ⟨((none,0),[]),m,Fr.emp,Fr.eZ (Fr.dZ _),Fr.bU _,Fr.cV _,x,Fr.emp,Fr.emp,Fr.dZ _,Fr.cV _,Fr.cV _,AB _,Fr.emp,Fr.emp,Fr.dZ _,Fr.cV _,Fr.cV _,trivial,trivial⟩
theorem ru.mono {h k:Fr} (s:h.sub k) {b:Nat} {xs:List aP}:ru h b xs→ru k b xs
 |⟨a,c,h1,h2⟩=>⟨a,c,h1.mono s,h2.mono s⟩
def jW (l:List aP):List UInt8:=(l.map fun x=>bytesOf (b9 x)).flatten
def kQ (l:List aP):List UInt8:=be l.length++jW l
theorem VT (l:List aP) (x:aP):jW (l++[x])=jW l++bytesOf (b9 x):=by simp [jW]
theorem FC (l:List aP) (h:∀ x∈l,ee x=true):(jW l).length≤1408*l.length:=by
 induction l with
 |nil=>simp [jW]
 |cons a l ih =>
  have h1:=AQ (h a (List.mem_cons_self ..));have h2:=ih fun x hx=>h x (List.mem_cons_of_mem _ hx);simp only [jW,List.map_cons,List.flatten_cons,List.length_append,GU,List.length_cons] at h2 ⊢
  omega
theorem q7 {l:List aP} (h:gP l=true):∀ x∈l,ee x=true:=fun x hx=>by
 obtain ⟨i,hi,rfl⟩:=List.mem_iff_getElem.1 hx;exact (vQ.1 h i hi).1
theorem KH {l:List aP} (h:gP l=true):(kQ l).length≤8+1408*l.length:=by
 have:=FC l (q7 h)
 simp [kQ];omega
end Go.Sp
end
end
