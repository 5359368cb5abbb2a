/- Texts of this proof, one behind the other. -/
import Derived.Test.YtdjoggpacmpfnaaGreatDoorQSpGo
import Derived.Lib.Bytealg
import Derived.Laws.Externs
import Derived.OpenShut
import Derived.LaidSub
section
/- Texts of this proof, one behind the other. -/
section
/- Texts of this proof, one behind the other. -/
section
/- Texts of this proof, one behind the other. -/
section
/- Texts of this proof. -/
namespace Go.Sp
abbrev cJ:=UInt64
abbrev so (x:cJ):Value:=.int .u64 (x.toNat:Int)
theorem D8 (x:cJ):x.toNat<18446744073709551616:=x.toNat_lt
theorem uh {k:Nat} (h:k<18446744073709551616):IntKind.u64.wrap (k:Int)=k:=by rw [uj];unfold u64;omega
theorem ri (x y:cJ):IntKind.u64.wrap ((x.toNat:Int)+(y.toNat:Int))=((x+y).toNat:Int):=by
 rw [← Int.natCast_add,uj,UInt64.toNat_add];unfold u64;omega
theorem xQ (x:cJ):BitVec.ofInt IntKind.u64.bits (x.toNat:Int)=x.toBitVec:=by
 have:=D8 x
 apply BitVec.eq_of_toNat_eq
 rw [BitVec.toNat_ofInt];simp only [IntKind.bits]
 show _=x.toNat
 omega
theorem vl (x y:cJ):bitsOf .xor .u64 (x.toNat:Int) (y.toNat:Int)=((x ^^^ y).toNat:Int):=by
 simp only [bitsOf];rw [xQ,xQ];exact uh (D8 (x ^^^ y))
theorem yS (x y:cJ):bitsOf .and .u64 (x.toNat:Int) (y.toNat:Int)=((x &&& y).toNat:Int):=by
 simp only [bitsOf];rw [xQ,xQ];exact uh (D8 (x &&& y))
theorem Qg (x y : cJ) : bitsOf .or .u64 (x.toNat : Int) (y.toNat : Int) = ((x ||| y).toNat : Int) := by
 simp only [bitsOf]; rw [xQ, xQ];exact uh (D8 (x ||| y))
theorem adP (x : cJ) : bitsOf .xor .u64 18446744073709551615 (x.toNat : Int) = ((~~~x).toNat : Int) := by
 have e : (18446744073709551615 : Int) = ((18446744073709551615 : cJ).toNat : Int) := rfl;rw [e, vl];have : (18446744073709551615 : cJ) ^^^ x = ~~~x := by
  apply UInt64.toBitVec_inj.1
  show (18446744073709551615 : cJ).toBitVec ^^^ x.toBitVec = ~~~x.toBitVec
  rw [show (18446744073709551615:cJ).toBitVec=BitVec.allOnes 64 from rfl,BitVec.allOnes_xor]
 rw [this]
theorem Qh (x:cJ) {n:Nat} (h:n<64):IntKind.u64.wrap ((x.toNat:Int)*2 ^ min n IntKind.u64.bits)=((x <<<UInt64.ofNat n).toNat:Int):=by
 have e:min n IntKind.u64.bits=n:=by simp only [IntKind.bits];omega
 rw [e,show ((x.toNat:Int)*2 ^ n)=((x.toNat*2 ^ n:Nat):Int) from by simp,uj,UInt64.toNat_shiftLeft];have:(UInt64.ofNat n).toNat % 64=n:=by rw [UInt64.toNat_ofNat'];omega
 rw [this,Nat.shiftLeft_eq];unfold u64;omega
theorem Qi (x:cJ) {n:Nat} (h:n<64):((x.toNat:Int).fdiv (2 ^ min n IntKind.u64.bits))=((x >>>UInt64.ofNat n).toNat:Int):=by
 have e:min n IntKind.u64.bits=n:=by simp only [IntKind.bits];omega
 have e2:((2:Int) ^ n)=((2 ^ n:Nat):Int):=by simp
 rw [e,e2,Int.fdiv_eq_ediv_of_nonneg _ (Int.natCast_nonneg _),UInt64.toNat_shiftRight];have:(UInt64.ofNat n).toNat % 64=n:=by rw [UInt64.toNat_ofNat'];omega
 rw [this,Nat.shiftRight_eq_div_pow];rfl
theorem Za {a:Nat} {z:Int} (hz:z=0 - (a:Int)) (h0:0<a) (h:a<64):bitsOf .and .u64 (IntKind.u64.wrap z) 63=((64 - a:Nat):Int):=by
 have e1:IntKind.u64.wrap z=((UInt64.ofNat (18446744073709551616 - a)).toNat:Int):=by
  rw [uj,hz];unfold u64;rw [UInt64.toNat_ofNat'];omega
 have e2:(63:Int)=((63:cJ).toNat:Int):=rfl;rw [e1,e2,yS];have cZ:(UInt64.ofNat (18446744073709551616 - a) &&& 63).toNat=64 - a:=by
  rw [UInt64.toNat_and,show (63:cJ).toNat=2 ^ 6 - 1 from rfl,Nat.and_two_pow_sub_one_eq_mod];rw [UInt64.toNat_ofNat'];omega
 rw [cZ]
def q4 (x : cJ) (n : Nat) : cJ := x >>> UInt64.ofNat n ||| x <<< UInt64.ofNat (64 - n)
def pX (x:cJ) (a b c:Nat):cJ:=q4 x a ^^^ q4 x b ^^^ q4 x c
def uc (x:cJ) (a b s:Nat):cJ:=q4 x a ^^^ q4 x b ^^^ x >>>UInt64.ofNat s
def gW:List cJ:=[
 0x428a2f98d728ae22,0x7137449123ef65cd,0xb5c0fbcfec4d3b2f,0xe9b5dba58189dbbc,
 0x3956c25bf348b538,0x59f111f1b605d019,0x923f82a4af194f9b,0xab1c5ed5da6d8118,
 0xd807aa98a3030242,0x12835b0145706fbe,0x243185be4ee4b28c,0x550c7dc3d5ffb4e2,
 0x72be5d74f27b896f,0x80deb1fe3b1696b1,0x9bdc06a725c71235,0xc19bf174cf692694,
 0xe49b69c19ef14ad2,0xefbe4786384f25e3,0x0fc19dc68b8cd5b5,0x240ca1cc77ac9c65,
 0x2de92c6f592b0275,0x4a7484aa6ea6e483,0x5cb0a9dcbd41fbd4,0x76f988da831153b5,
 0x983e5152ee66dfab,0xa831c66d2db43210,0xb00327c898fb213f,0xbf597fc7beef0ee4,
 0xc6e00bf33da88fc2,0xd5a79147930aa725,0x06ca6351e003826f,0x142929670a0e6e70,
 0x27b70a8546d22ffc,0x2e1b21385c26c926,0x4d2c6dfc5ac42aed,0x53380d139d95b3df,
 0x650a73548baf63de,0x766a0abb3c77b2a8,0x81c2c92e47edaee6,0x92722c851482353b,
 0xa2bfe8a14cf10364,0xa81a664bbc423001,0xc24b8b70d0f89791,0xc76c51a30654be30,
 0xd192e819d6ef5218,0xd69906245565a910,0xf40e35855771202a,0x106aa07032bbd1b8,
 0x19a4c116b8d2d0c8,0x1e376c085141ab53,0x2748774cdf8eeb99,0x34b0bcb5e19b48a8,
 0x391c0cb3c5c95a63,0x4ed8aa4ae3418acb,0x5b9cca4f7763e373,0x682e6ff3d6b2b8a3,
 0x748f82ee5defb2fc,0x78a5636f43172f60,0x84c87814a1f0ab72,0x8cc702081a6439ec,
 0x90befffa23631e28,0xa4506cebde82bde9,0xbef9a3f7b2c67915,0xc67178f2e372532b,
 0xca273eceea26619c,0xd186b8c721c0c207,0xeada7dd6cde0eb1e,0xf57d4f7fee6ed178,
 0x06f067aa72176fba,0x0a637dc5a2c898a6,0x113f9804bef90dae,0x1b710b35131c471b,
 0x28db77f523047d84,0x32caab7b40c72493,0x3c9ebe0a15c9bebc,0x431d67c49c100d4c,
 0x4cc5d4becb3e42b6,0x597f299cfc657e2a,0x5fcb6fab3ad6faec,0x6c44198c4a475817]
def fq:List cJ:=[
 0x6a09e667f3bcc908,0xbb67ae8584caa73b,0x3c6ef372fe94f82b,0xa54ff53a5f1d36f1,
 0x510e527fade682d1,0x9b05688c2b3e6c1f,0x1f83d9abfb41bd6b,0x5be0cd19137e2179]
def n7 (l : List UInt8) : cJ := l.foldl (fun n c => n <<< 8 ||| UInt64.ofNat c.toNat) 0
def t_ (b:List UInt8) (m:List cJ) (t:Nat):cJ :=
 if t<16 then n7 ((b.drop (8*t)).take 8)
 else uc (m.getD (t - 2) 0) 19 61 6+m.getD (t - 7) 0+uc (m.getD (t - 15) 0) 1 8 7+m.getD (t - 16) 0
def sched (b:List UInt8):Nat→List cJ
 |0=>[]
 |t+1=>sched b t++[t_ b (sched b t) t]
theorem Bg (b:List UInt8):∀ t,(sched b t).length=t
 |0=>rfl
 |t+1=>by rw [sched,List.length_append,Bg b t];rfl
def O7 (v:List cJ) (k x:cJ):List cJ :=
 let a:=v.getD 0 0;let b:=v.getD 1 0;let c:=v.getD 2 0;let d:=v.getD 3 0;let e:=v.getD 4 0;let f:=v.getD 5 0;let g:=v.getD 6 0;let h:=v.getD 7 0
 let one := h + pX e 14 18 41 + (e &&& f ^^^ ~~~e &&& g) + k + x
 let two:=pX a 28 34 39+(a &&& b ^^^ a &&& c ^^^ b &&& c)
 [one+two,a,b,c,d+one,e,f,g]
def tZ (v:List cJ) (m:List cJ):Nat→List cJ
 |0=>v
 |t+1=>O7 (tZ v m t) (gW.getD t 0) (m.getD t 0)
theorem JG (v m:List cJ) (h:v.length=8):∀ t,(tZ v m t).length=8
 |0=>h
 |_+1=>rfl
def ua (h:List cJ) (b:List UInt8):List cJ:=List.zipWith (·+·) h (tZ h (sched b 80) 80)
theorem PS (h:List cJ) (b:List UInt8) (hl:h.length=8):(ua h b).length=8:=by
 rw [ua,List.length_zipWith,JG _ _ hl,hl];rfl
def mJ (h:List cJ) (b:List UInt8):Nat→List cJ
 |0=>h
 |n+1=>ua (mJ h b n) ((b.drop (128*n)).take 128)
def feed (h:List cJ) (b:List UInt8):List cJ:=mJ h b (b.length / 128)
def cC (b:List UInt8):List UInt8:=b.drop (128*(b.length / 128))
theorem DJ (b:List UInt8):(cC b).length=b.length % 128:=by rw [cC,List.length_drop];omega
theorem FL (h:List cJ) (b:List UInt8) (hl:h.length=8):∀ n,(mJ h b n).length=8
 |0=>hl
 |n+1=>PS _ _ (FL h b hl n)
theorem zR (h:List cJ) (b:List UInt8) (hl:h.length=8):(feed h b).length=8:=FL h b hl _
theorem LK (h:List cJ) (b c:List UInt8):∀ n,128*n≤b.length→mJ h (b++c) n=mJ h b n
 |0,_=>rfl
 |n+1,hn=>by
  rw [mJ,mJ,LK h b c n (by omega),List.drop_append_of_le_length (by omega),List.take_append_of_le_length (by rw [List.length_drop];omega)]
theorem FK (h:List cJ) (b:List UInt8) (k:Nat):∀ n,mJ h b (k+n)=mJ (mJ h b k) (b.drop (128*k)) n
 |0=>rfl
 |n+1=>by
  rw [← Nat.add_assoc,mJ,mJ,FK h b k n,List.drop_drop,show 128*k+128*n=128*(k+n) by omega]
theorem FM (h:List cJ) (b c:List UInt8):feed h (b++c)=feed (feed h b) (cC b++c)∧cC (b++c)=cC (cC b++c):=by
 have hb:b.length=128*(b.length / 128)+(cC b).length:=by rw [DJ];omega
 have e1:(b++c).length / 128=b.length / 128+(cC b++c).length / 128:=by
  rw [List.length_append,List.length_append];omega
 have e2:(b++c).drop (128*(b.length / 128))=cC b++c:=by
  rw [cC,List.drop_append_of_le_length (by omega)]
 constructor
 ·rw [feed,e1,FK,e2,LK h b c _ (by omega)];rfl
 ·rw [cC,e1,Nat.mul_add,← List.drop_drop,e2];rfl
theorem LL (h:List cJ) {b:List UInt8} (hb:b.length<128):feed h b=h∧cC b=b:=by
 have:b.length / 128=0:=by omega
 constructor
 ·rw [feed,this];rfl
 ·rw [cC,this];rfl
theorem SV (h:List cJ) {b:List UInt8} (hb:128≤b.length):feed h b=feed (ua h (b.take 128)) (b.drop 128)∧cC b=cC (b.drop 128):=by
 have e:b.length / 128=1+(b.drop 128).length / 128:=by rw [List.length_drop];omega
 constructor
 ·rw [feed,e,FK];rfl
 ·rw [cC,e,Nat.mul_add,← List.drop_drop];rfl
theorem SY (h:List cJ) {b c:List UInt8} (hb:cC b=[]):feed h (b++c)=feed (feed h b) c∧cC (b++c)=cC c:=by
 have:=FM h b c
 rwa [hb,List.nil_append] at this
theorem SX (h:List cJ) {b c:List UInt8} (hb:(cC b++c).length<128):feed h (b++c)=feed h b∧cC (b++c)=cC b++c:=by
 obtain ⟨h1,h2⟩:=FM h b c;obtain ⟨h3,h4⟩:=LL (feed h b) hb;exact ⟨h1.trans h3,h2.trans h4⟩
theorem SW (h:List cJ) {b c:List UInt8} (hb:(cC b++c).length=128):feed h (b++c)=ua (feed h b) (cC b++c)∧cC (b++c)=[]:=by
 obtain ⟨h1,h2⟩:=FM h b c;obtain ⟨h3,h4⟩:=SV (feed h b) (b:=cC b++c) (by omega);have hd:(cC b++c).drop 128=[]:=List.drop_eq_nil_of_le (by omega);have ht:(cC b++c).take 128=cC b++c:=List.take_of_length_le (by omega);obtain ⟨h5,h6⟩:=LL (ua (feed h b) (cC b++c)) (b:=[]) (by decide);rw [hd,ht,h5] at h3;rw [hd,h6] at h4;exact ⟨h1.trans h3,h2.trans h4⟩
def lP (n:Nat):Nat:=(239 - n % 128) % 128
def pg (n:Nat):List UInt8:=128::List.replicate (lP n) 0++List.replicate 8 0++be (8*(n:Int))
def p0 (x:cJ):List UInt8:=be (x.toNat:Int)
def pe (h:List cJ):List UInt8:=(h.map p0).flatten
def sb (b:List UInt8):List UInt8:=pe (feed fq (b++pg b.length))
theorem Jb:∀ h:List cJ,(pe h).length=8*h.length
 |[]=>rfl
 |x::h=>by
  have:=Jb h;rw [pe,List.map_cons,List.flatten_cons,List.length_append,List.length_cons];rw [pe] at this;rw [this,p0,ga];omega
theorem JT (b:List UInt8):(sb b).length=64:=by rw [sb,Jb,zR _ _ rfl]
end Go.Sp
end
section
/- Texts of this proof, one behind the other. -/
section
/- Texts of this proof. -/
namespace Go.Sp
def k4 (d:dB):Bool:=decide (1≤d.1∧d.1≤8∧1≤d.2.1∧d.2.1≤1073741824)
theorem zM {d:dB}:k4 d=true↔1≤d.1∧d.1≤8∧1≤d.2.1∧d.2.1≤1073741824:=decide_eq_true_iff
def vB (v:List dB):Prop:=v.Pairwise fun a b=>a.1<b.1
instance (v:List dB):Decidable (vB v):=inferInstanceAs (Decidable (v.Pairwise fun a b=>a.1<b.1))
def jd (v:List dB):Bool:=v.all k4 && decide (vB v)
theorem vj {v:List dB}:jd v=true↔(∀ d∈v,k4 d=true)∧vB v:=by
 unfold jd;rw [Bool.and_eq_true,List.all_eq_true,decide_eq_true_iff]
theorem Qf {v:List dB} {i:Nat} (h:i<v.length) (o:jd (v.take i)=true):jd (v.take (i+1))=true↔k4 v[i]=true∧(∀ h0:0<i,v[i - 1].1<v[i].1):=by
 rw [vj] at o ⊢;rw [List.take_succ_eq_append_getElem h]
 constructor
 ·rintro ⟨h1,h2⟩
  refine ⟨h1 _ (List.mem_append_right _ (List.mem_singleton.2 rfl)),fun h0=>?_⟩;have h3:=(List.pairwise_append.1 h2).2.2;exact h3 v[i - 1] (List.mem_iff_getElem.2 ⟨i - 1,by simp;omega,by simp⟩) v[i] (List.mem_singleton.2 rfl)
 ·rintro ⟨h1,h2⟩
  refine ⟨fun d hd=>?_,List.pairwise_append.2 ⟨o.2,List.pairwise_singleton ..,fun a ha b hb=>?_⟩⟩
  ·rcases List.mem_append.1 hd with hd|hd
   ·exact o.1 d hd
   ·rw [List.mem_singleton.1 hd];exact h1
  ·rw [List.mem_singleton.1 hb]
   obtain ⟨j,hj,rfl⟩:=List.mem_iff_getElem.1 ha;rw [List.length_take] at hj;rw [List.getElem_take];have h3:=h2 (by omega)
   by_cases hji:j=i - 1
   ·subst hji;exact h3
   ·have h5:=List.pairwise_iff_getElem.1 o.2 j (i - 1) (by simp;omega) (by simp;omega) (by omega)
    rw [List.getElem_take,List.getElem_take] at h5;exact Int.lt_trans h5 h3
theorem adL {v:List dB} (i:Nat) (o:jd v=true):jd (v.take i)=true:=by
 rw [vj] at o ⊢;exact ⟨fun d hd=>o.1 d (List.mem_of_mem_take hd),o.2.sublist (List.take_sublist ..)⟩
theorem D7 {v:List dB} {i:Nat} (h:jd (v.take i)=false):jd v=false:=by
 cases e:jd v with
 |false=>rfl
 |true=>rw [adL i e] at h;cases h
def vS (v:List dB) (d:dB):Bool:=v.any fun x=>decide (x.1=d.1∧d.2.1≤x.2.1)
def oX (v:List dB) (d:dB):Bool:=jd v && k4 d && vS v d
theorem Mp {v:List dB} {d:dB} (o:vB v) {k:Nat} (h:k<v.length) (hk:v[k].1=d.1):vS v d=decide (d.2.1≤v[k].2.1):=by
 unfold vS
 by_cases e:d.2.1≤v[k].2.1
 ·rw [decide_eq_true e,List.any_eq_true]
  exact ⟨v[k],List.getElem_mem h,decide_eq_true ⟨hk,e⟩⟩
 ·rw [decide_eq_false e,List.any_eq_false]
  intro x hx
  obtain ⟨j,hj,rfl⟩:=List.mem_iff_getElem.1 hx;rw [decide_eq_true_iff];rintro ⟨h1,h2⟩
  rcases Nat.lt_trichotomy j k with h3|h3|h3
  ·have:=List.pairwise_iff_getElem.1 o j k hj h h3;omega
  ·subst h3;exact e h2
  ·have:=List.pairwise_iff_getElem.1 o k j h hj h3;omega
theorem UT {v:List dB} {d:dB} (h:∀ i (hi:i<v.length),v[i].1≠d.1):vS v d=false:=by
 unfold vS;rw [List.any_eq_false]
 intro x hx
 obtain ⟨j,hj,rfl⟩:=List.mem_iff_getElem.1 hx;rw [decide_eq_true_iff];exact fun q=>h j hj q.1
theorem A9 {v:List dB} (h:jd v=true):v.length≤8:=by
 obtain ⟨h1,h2⟩:=vj.1 h;have key:∀ i (hi:i<v.length),(i:Int)+1≤v[i].1:=by
  intro i
  induction i with
  |zero=>intro hi;have:=zM.1 (h1 _ (List.getElem_mem hi));omega
  |succ i ih =>
   intro hi
   have a:=ih (by omega);have b:=List.pairwise_iff_getElem.1 h2 i (i+1) (by omega) hi (by omega)
   omega
 rcases Nat.lt_or_ge 8 v.length with q|q
 ·have a:=key (v.length - 1) (by omega)
  have b:=zM.1 (h1 _ (List.getElem_mem (show v.length - 1<v.length by omega)))
  omega
 ·exact q
end Go.Sp
end
section
/- Texts of this proof. -/
namespace Go.Sp
abbrev fP (x:aV):dB:=(x.2.1,x.2.2.1,())
def shaped (x:aV):Bool:=decide (1≤x.1.length) && (decide (x.1.length≤64) && (k4 (fP x) && (jd x.2.2.2.1 && (!oX x.2.2.2.1 (fP x) && (decide (x.2.2.2.2.2.1.length≤1024) && (!x.2.2.2.2.1 ||decide (x.2.2.2.2.2.1.length=0)))))))
theorem oB {x:aV}:shaped x=true↔1≤x.1.length∧x.1.length≤64∧k4 (fP x)=true∧jd x.2.2.2.1=true∧oX x.2.2.2.1 (fP x)=false∧x.2.2.2.2.2.1.length≤1024∧(x.2.2.2.2.1=true→x.2.2.2.2.2.1.length=0):=by
 unfold shaped;simp only [Bool.and_eq_true,decide_eq_true_eq,Bool.not_eq_true',Bool.or_eq_true];refine ⟨fun ⟨a,b,c,d,e,f,g⟩=>⟨a,b,c,d,e,f,fun h=>?_⟩,fun ⟨a,b,c,d,e,f,g⟩=>⟨a,b,c,d,e,f,?_⟩⟩
 ·rcases g with g|g
  ·rw [h] at g;cases g
  ·exact g
 ·cases h:x.2.2.2.2.1
  ·exact .inl rfl
  ·exact .inr (g h)
def fF (x:aV):Bool:=shaped x && decide (x.2.2.2.2.2.2.1.length=64)
theorem DH {x:aV}:fF x=true↔shaped x=true∧x.2.2.2.2.2.2.1.length=64:=by unfold fF;rw [Bool.and_eq_true,decide_eq_true_iff]
def iM (l:List dB):List UInt8:=(l.map fun d=>be d.1++be d.2.1).flatten
@[simp] theorem af1:iM []=[]:=rfl
theorem Sg (l:List dB) (d:dB):iM (l++[d])=iM l++(be d.1++be d.2.1):=by simp [iM]
@[simp] theorem FD (d:dB) (l:List dB):iM (d::l)=be d.1++(be d.2.1++iM l):=by simp [iM]
theorem FE (l:List dB):(iM l).length=16*l.length:=by
 induction l with
 |nil=>rfl
 |cons d l ih=>rw [FD];simp [ih];omega
def kM (b:Bool):UInt8:=if b then 1 else 0
def fY (x:aV):List UInt8:=[1]++(bytesOf x.1++(be x.2.1++(be x.2.2.1++(be x.2.2.2.1.length++(iM x.2.2.2.1++([kM x.2.2.2.2.1]++bytesOf x.2.2.2.2.2.1))))))
def cm (x:aV):List UInt8:=fY x++x.2.2.2.2.2.2.1
theorem DI (x:aV):(fY x).length=42+x.1.length+16*x.2.2.2.1.length+x.2.2.2.2.2.1.length:=by simp [fY,FE];omega
theorem JD {x:aV} (h:shaped x=true):(fY x).length≤1300:=by
 obtain ⟨_,h1,_,h2,_,h3,_⟩:=oB.1 h;have:=A9 h2;rw [DI];omega
theorem q3 {x:aV} (h:fF x=true):(cm x).length≤1400:=by
 obtain ⟨h1,h2⟩:=DH.1 h;have:=JD h1
 simp [cm];omega
def over (a b:aV):Bool:=decide (a.1=b.1) && (shaped a && (shaped b && oX a.2.2.2.1 (fP b)))
end Go.Sp
end
end
end
section
/- Texts of this proof, one behind the other. -/
section
/- Texts of this proof. -/
namespace Go.Sp
def lD (x y:Int):Int:=if x<y then -1 else if y<x then 1 else 0
theorem Lq (x y:Int):aS (lD x y):=by unfold lD;split<;>(try split)<;>(constructor<;>omega)
theorem Lr {x y:Int}:lD x y<0↔x<y:=by unfold lD;split<;>(try split)<;>omega
theorem zG {x y:Int}:lD x y=0↔x=y:=by unfold lD;split<;>(try split)<;>omega
def ko (a b:aV):Int:=if lD a.2.1 b.2.1≠0 then lD a.2.1 b.2.1 else lD a.2.2.1 b.2.2.1
theorem Lp {a b:aV}:ko a b=0↔fP a=fP b:=by
 unfold ko fP
 split
 ·rename_i h
  refine ⟨fun q=>absurd q h,fun q=>absurd (zG.2 (Prod.mk.inj q).1) h⟩
 ·rename_i h
  have h1:a.2.1=b.2.1:=zG.1 (Classical.not_not.1 h);rw [zG,h1];exact ⟨fun q=>by rw [q],fun q=>(Prod.mk.inj (Prod.mk.inj q).2).1⟩
theorem RM {a b:aV}:ko a b<0↔a.2.1<b.2.1∨a.2.1=b.2.1∧a.2.2.1<b.2.2.1:=by
 unfold ko
 split
 ·rename_i h
  have h1:a.2.1≠b.2.1:=fun q=>h (zG.2 q);rw [Lr];exact ⟨.inl,fun q=>q.elim id fun q=>absurd q.1 h1⟩
 ·rename_i h
  have h1:a.2.1=b.2.1:=zG.1 (Classical.not_not.1 h);rw [Lr];exact ⟨fun q=>.inr ⟨h1,q⟩,fun q=>q.elim (fun q=>absurd q (by omega)) fun q=>q.2⟩
def ue (l:List aV) (x:aV):Bool:=l.any fun y=>decide (ko x y≠0) && over y x
def hO (l:List aV):Bool:=l.all fun x=>fF x && decide (x.1=(l.headD x).1)
theorem I_ {l:List aV}:hO l=true↔∀ i (h:i<l.length),fF l[i]=true∧l[i].1=(l[0]'(by omega)).1:=by
 unfold hO;rw [List.all_eq_true]
 constructor
 ·intro h i hi
  have:=h l[i] (List.getElem_mem hi);rw [Bool.and_eq_true,decide_eq_true_iff] at this
  cases l with
  |nil=>cases hi
  |cons a l=>exact this
 ·intro h x hx
  obtain ⟨i,hi,rfl⟩:=List.mem_iff_getElem.1 hx;have:=h i hi;rw [Bool.and_eq_true,decide_eq_true_iff]
  cases l with
  |nil=>cases hi
  |cons a l=>exact this
theorem Dp {l:List aV} (i:Nat) (h:hO l=true):hO (l.take i)=true:=by
 rw [I_] at h ⊢
 intro j hj
 have hj' :j<l.length:=by simp at hj;omega
 have:=h j hj';simp only [List.getElem_take];exact this
theorem Ou {l:List aV} {x:aV} (h:hO l=true):hO (l++[x])=true↔fF x=true∧(∀ h0:0<l.length,x.1=l[0].1):=by
 rw [I_] at h ⊢
 constructor
 ·intro q
  have h1:=q l.length (by simp);rw [List.getElem_append_right (Nat.le_refl _)] at h1;simp only [Nat.sub_self,List.getElem_cons_zero] at h1;refine ⟨h1.1,fun h0=>?_⟩;rw [h1.2,List.getElem_append_left h0]
 ·rintro ⟨h1,h2⟩ j hj
  by_cases hl:j<l.length
  ·rw [List.getElem_append_left hl,List.getElem_append_left (by omega)]
   exact h j hl
  ·have hj2:j=l.length:=by simp at hj;omega
   subst hj2;rw [List.getElem_append_right (Nat.le_refl _)];simp only [Nat.sub_self,List.getElem_cons_zero];refine ⟨h1,?_⟩
   by_cases h0:0<l.length
   ·rw [List.getElem_append_left h0];exact h2 h0
   ·have:l=[]:=List.eq_nil_of_length_eq_zero (by omega)
    subst this;rfl
def ez (l:List aV):Prop:=hO l=true∧∀ j (h:j<l.length),(∀ h0:0<j,ko l[j-1] l[j]<0)∧ue l l[j]=false
instance (l:List aV):Decidable (ez l):=by unfold ez;infer_instance
def gb:ag aV:=ag.RN (fun x=>(x,cm x,())) (ag.prod bu (ag.prod (ag.slice ag.u8) ag.unit))
theorem gb.open {h:Fr} {cs:List Value} {x:aV} (r:gb.rel h cs x):∃ cs' a c,cs=cs' ++[.slice a (cm x).length c]∧bu.rel h cs' x∧av ag.u8 h (.slice a (cm x).length c) (cm x):=by
 obtain ⟨c1,c2,rfl,r1,c3,bR,rfl,⟨v,rfl,r2⟩,gV⟩:=r;obtain rfl:bR=[]:=gV;obtain ⟨a,c,rfl⟩:=r2.shape;exact ⟨c1,a,c,rfl,r1,r2⟩
theorem gb.sh {h:Fr} {cs:List Value} {x:aV} (r:gb.rel h cs x):∃ a3 a5 a6 a7 c3 cD cB c9,cs=[.string (str x.1),.int .i64 x.2.1,.int .i64 x.2.2.1,.slice a3 x.2.2.2.1.length c3,.bool x.2.2.2.2.1,.slice a5 x.2.2.2.2.2.1.length cD,.slice a6 x.2.2.2.2.2.2.1.length cB,.slice a7 (cm x).length c9] ∧
  bu.rel h [.string (str x.1),.int .i64 x.2.1,.int .i64 x.2.2.1,.slice a3 x.2.2.2.1.length c3,.bool x.2.2.2.2.1,.slice a5 x.2.2.2.2.2.1.length cD,.slice a6 x.2.2.2.2.2.2.1.length cB] x∧av ag.u8 h (.slice a7 (cm x).length c9) (cm x):=by
 obtain ⟨cs',a7,c9,rfl,h1,h2⟩:=gb.open r;obtain ⟨a3,a5,a6,c3,cD,cB,rfl,_⟩:=bu.sh h1;exact ⟨a3,a5,a6,a7,c3,cD,cB,c9,rfl,h1,h2⟩
theorem gb.mk {h:Fr} {cs:List Value} {x:aV} {v:Value} (h1:bu.rel h cs x) (h2:av ag.u8 h v (cm x)):gb.rel h (cs++[v]) x :=
 ⟨cs,[v],rfl,h1,[v],[],rfl,⟨v,rfl,h2⟩,rfl⟩
def px (r:Fr) (e:TypeId) (cs:List Value) (x:aV):az:=fun m=>∃ cs' a c,cs=cs' ++[.slice a (cm x).length c]∧bu.rel r cs' x∧ak ag.u8 e (.slice a (cm x).length c) (cm x) m
theorem px.rel {r h:Fr} {e:TypeId} {cs:List Value} {x:aV} {m:Fr} (hr:r.sub h) (hm:m.sub h):px r e cs x m→gb.rel h cs x
 |⟨cs',a,c,h1,h2,h3⟩=>by subst h1;exact gb.mk (h2.mono hr) (h3.arr.mono hm)
def g6 (r:Fr) (jN Bk e:TypeId) (b:Nat) (xs:List aV):az:=fun m=>∃ p:(Option Addr × Nat) × List (List Value),Sat [obj b jN [.slice p.1.1 xs.length p.1.2],ak (ag.cells 8) Bk (.slice p.1.1 xs.length p.1.2) p.2,aZ (px r e) p.2 xs] m
def zg (h:Fr) (b:Nat) (xs:List aV):Prop:=∃ a c,cg h ⟨b,0,none⟩ [.slice a xs.length c]∧av gb h (.slice a xs.length c) xs
theorem g6.read {r h:Fr} {jN Bk e:TypeId} {b:Nat} {xs:List aV} {m:Fr} (hr:r.sub h) (hm:m.sub h):g6 r jN Bk e b xs m→zg h b xs
 |⟨p,m1,k1,_,s1,t1,y1,m2,k2,_,s2,t2,rj,uZ,aI,_,q6,_,rm,_⟩=>by
  refine ⟨p.1.1,p.1.2,(qY y1).mono (Fr.bQ s1 hm),?_⟩;have ha:=rj.arr.mono (Fr.bQ s2 (Fr.bQ t1 hm));refine av.pZ (k:=8) ha (aZ.sW (fun cs a m' z q=>px.rel hr q z) rm (Fr.bQ q6 (Fr.bQ t2 (Fr.bQ t1 hm)))) rfl
theorem g6.nil {r:Fr} {jN Bk e:TypeId} {b:Nat} {m:Fr} (x:obj b jN [.slice none 0 0] m):g6 r jN Bk e b [] m :=
 ⟨((none,0),[]),m,Fr.emp,Fr.e7 (Fr.eA _),Fr.bH _,Fr.dY _,x,Fr.emp,Fr.emp,Fr.eA _,Fr.dY _,Fr.dY _,yA _,Fr.emp,Fr.emp,Fr.eA _,Fr.dY _,Fr.dY _,trivial,trivial⟩
theorem zg.mono {h k:Fr} (s:h.sub k) {b:Nat} {xs:List aV}:zg h b xs→zg k b xs
 |⟨a,c,h1,h2⟩=>⟨a,c,h1.mono s,h2.mono s⟩
def dS (l:List aV):List UInt8:=(l.map fun x=>bytesOf (cm x)).flatten
def dc (l:List aV):List UInt8:=be l.length++dS l
theorem JQ (l:List aV) (x:aV):dS (l++[x])=dS l++bytesOf (cm x):=by simp [dS]
theorem DT (l:List aV) (h:∀ x∈l,fF x=true):(dS l).length≤1408*l.length:=by
 induction l with
 |nil=>simp [dS]
 |cons a l ih =>
  have h1:=q3 (h a (List.mem_cons_self ..));have h2:=ih fun x hx=>h x (List.mem_cons_of_mem _ hx);simp only [dS,List.map_cons,List.flatten_cons,List.length_append,fI,List.length_cons] at h2 ⊢
  omega
theorem wM {l:List aV} (h:hO l=true):∀ x∈l,fF x=true:=fun x hx=>by
 obtain ⟨i,hi,rfl⟩:=List.mem_iff_getElem.1 hx;exact (I_.1 h i hi).1
theorem q7 {l:List aV} (h:hO l=true):(dc l).length≤8+1408*l.length:=by
 have:=DT l (wM h)
 simp [dc];omega
end Go.Sp
end
section
/- Texts of this proof, one behind the other. -/
section
/- Texts of this proof. -/
namespace Go.Sp
theorem run_loadBytes (P:Program):∀ (xs:List UInt8) (a:Addr) (acc:ByteArray) (w:World),(∀ j (h:j<xs.length),w.cell? (a.add j)=some (aT xs[j])) →
  (Extern.Bytes.loadBytes a xs.length acc).run P w=.ok ⟨acc.data++xs.toArray⟩ w
 |[],a,acc,w,_=>by simp [Extern.Bytes.loadBytes]
 |x::xs,a,acc,w,h=>by
  have h0:=h 0 (by simp);rw [Addr.add_zero] at h0;have ih:=run_loadBytes P xs (a.add 1) (acc.push x) w fun j hj=>by
   have:=h (j+1) (by simp;omega);rw [Addr.add_add,Nat.add_comm 1 j]
   simpa using this
  have hx:(x.toNat:Int).toNat.toUInt8=x:=by simp
  simp only [List.getElem_cons_zero,aT] at h0;simp only [List.length_cons,Extern.Bytes.loadBytes,Sem.run_bind,run_load,h0,Result.andThen,hx,ih]
  congr 2
  simp [ByteArray.push]
theorem Pc {P:Program} {h:Fr} {v:Value} {xs:List UInt8} (ha:av ag.u8 h v xs) {w:World} (hw:h.sub w.fr):(Extern.Bytes.bytesOf v).run P w=.ok (str xs) w:=by
 obtain ⟨aG,hc,a,cap,rfl,h1,h2,h3,h4⟩:=ha;have hcs:aG.flatten=xs.map aT:=by
  clear h3 h4 h1 h2
  induction aG generalizing xs with
  |nil=>cases xs with
   |nil=>rfl
   |cons _ _=>exact hc.elim
  |cons c aG ih=>cases xs with
   |nil=>exact hc.elim
   |cons x xs=>rw [List.flatten_cons,ih hc.2,show c=[aT x] from hc.1];rfl
 cases a with
 |none =>
  have:xs=[]:=by
   cases xs with
   |nil=>rfl
   |cons x xs=>obtain ⟨p,hp,_⟩:=h4 0 (by rw [hcs];simp);cases hp
  subst this
  simp [Extern.Bytes.bytesOf];rfl
 |some a =>
  have:=run_loadBytes P xs a .empty w fun j hj=>by
   obtain ⟨p,hp,hq⟩:=h4 j (by rw [hcs];simpa using hj)
   cases hp
   have:=Fr.uC hw hq;simp only [hcs,List.getElem_map] at this;exact this
  simp only [Extern.Bytes.bytesOf,this]
  congr 1
  simp [str,ByteArray.empty,ByteArray.emptyWithCapacity]
  rfl
theorem abN {P:Program} {h:Fr} {v u:Value} {xs ys:List UInt8} (ha:av ag.u8 h v xs) (hb:av ag.u8 h u ys) {w:World} (hw:h.sub w.fr) :
  (Extern.BytealgCompare.compare #[v,u]).run P w=.ok (.int .i64 (Lib.compareBytes xs ys)) w:=by
 change Sem.run P (do pure (goInt (Extern.BytealgCompare.cmp (← Extern.Bytes.bytesOf v) (← Extern.Bytes.bytesOf u)))) w=_
 simp only [Sem.run_bind,Pc ha hw,Pc hb hw,Sem.run_pure,Result.andThen];rw [Lib.cmp_eq]
 rfl
section
variable {P:Program} {σ:List (Nat × Value)} {g:bp} {aa:List az}
theorem aK.RO {f : FuncId} {fn : Func} {x y z : Operand} {ts : Array TypeId} {v u : Value} {xs ys : List UInt8} (hf : P.funcs[f]? = some fn) (h1 : (fn.name == "runtime.NumGoroutine") = false) (h2 : fn.body.isNone = true) (h3 : Extern.findNext fn = none) (h4 : Extern.find fn = some Extern.BytealgCompare.compare)
  (hx:aE σ x=some (.func (.func f) #[] #[])) (hy:aE σ y=some v) (hz:aE σ z=some u) (ha:av ag.u8 g.h v xs) (hb:av ag.u8 g.h u ys):aK P (.call ⟨.value x,#[y,z],ts⟩) σ g aa (.int .i64 (Lib.compareBytes xs ys)) aa:=by
 intro o ρ w ho hk hw
 refine ⟨w,?_,hw⟩;have e1:=run_callFunc_extern (P:=P) hf h1 h2 h3 h4 #[v,u] w;rw [abN ha hb hw.ground] at e1;simp only [Result.andThen] at e1
 simp [execOp,ho,resolve,hk x _ hx,hk y _ hy,hk z _ hz,Deferred.ofValue,invoke,e1]
end
theorem Ls:∀ {a b:List UInt8},Lib.compareBytes a b<0↔a<b
 |[],[]=>by simp [Lib.compareBytes]
 |[],b::bs=>by simp [Lib.compareBytes]
 |a::as,[]=>by simp [Lib.compareBytes]
 |a::as,b::bs=>by
  rw [Lib.compareBytes,List.cons_lt_cons_iff]
  by_cases h:a<b
  ·simp [h]
  ·by_cases h2:b<a
   ·have:a≠b:=fun e=>by subst e;exact UInt8.lt_irrefl _ h2
    simp [h,h2,this]
   ·have e:a=b:=UInt8.le_antisymm (UInt8.not_lt.1 h2) (UInt8.not_lt.1 h)
    subst e;rw [if_neg h,if_neg h2,Ls]
    simp [UInt8.lt_irrefl]
end Go.Sp
end
section
/- Texts of this proof. -/
namespace Go.Sp
def r7 (x:dD):Bool:=decide (1≤x.1∧x.1≤7∧0≤x.2.1∧x.2.1<4∧1≤x.2.2.1∧x.2.2.1≤1073741824∧x.2.2.2.1.length=64)
def dR (x:dD):Bool:=r7 x && decide (x.2.2.2.2.1.length=64)
theorem Ba {x:dD}:r7 x=true↔1≤x.1∧x.1≤7∧0≤x.2.1∧x.2.1<4∧1≤x.2.2.1∧x.2.2.1≤1073741824∧x.2.2.2.1.length=64:=decide_eq_true_iff
theorem vc {x:dD}:dR x=true↔r7 x=true∧x.2.2.2.2.1.length=64:=by unfold dR;rw [Bool.and_eq_true,decide_eq_true_iff]
def iV (x:dD):List UInt8:=[2]++((be x.1++(be x.2.1++be x.2.2.1))++x.2.2.2.1)
def bM (x:dD):List UInt8:=iV x++x.2.2.2.2.1
theorem DN {x:dD} (h:r7 x=true):(iV x).length=89:=by
 have:=(Ba.1 h).2.2.2.2.2.2
 simp [iV];omega
theorem lZ {x:dD} (h:dR x=true):(bM x).length=153:=by
 obtain ⟨h1,h2⟩:=vc.1 h;have:=DN h1
 simp [bM];omega
def fZ (x:dD):List UInt8:=if dR x then bM x else []
def mw (x:dD):Int:=if dR x then 0 else 4
def kJ (a b:dD):Int:=if dR a=true∧dR b=true∧a.1=b.1∧a.2.1=b.2.1∧a.2.2.1=b.2.2.1 then Lib.compareBytes a.2.2.2.1 b.2.2.2.1 else 0
def k6 (e:gh):Bool:=decide (kJ e.1 e.2.1<0)
theorem xY {e:gh}:k6 e=true↔dR e.1=true∧dR e.2.1=true∧e.1.1=e.2.1.1∧e.1.2.1=e.2.1.2.1∧e.1.2.2.1=e.2.1.2.2.1∧e.1.2.2.2.1<e.2.1.2.2.2.1:=by
 unfold k6 kJ;rw [decide_eq_true_iff]
 split
 ·rename_i h;rw [Ls];exact ⟨fun q=>⟨h.1,h.2.1,h.2.2.1,h.2.2.2.1,h.2.2.2.2,q⟩,fun q=>q.2.2.2.2.2⟩
 ·rename_i h;exact ⟨fun q=>absurd q (by decide),fun q=>absurd ⟨q.1,q.2.1,q.2.2.1,q.2.2.2.1,q.2.2.2.2.1⟩ h⟩
def j0 (e:gh):List UInt8:=bytesOf (bM e.1)++bytesOf (bM e.2.1)
theorem xX {e:gh} (h:k6 e=true):(j0 e).length=322:=by
 obtain ⟨h1,h2,_⟩:=xY.1 h
 simp [j0,lZ h1,lZ h2]
def kK (e:gh):List UInt8:=if k6 e then j0 e else []
def n_ (e:gh):Int:=if k6 e then 0 else 4
end Go.Sp
end
end
end
end
section
/- Texts of this proof, one behind the other. -/
section
/- Texts of this proof. -/
namespace Go.Sp
def gp (xs:List UInt8):Int:=p9 (kH (xs.take 8))
theorem I8 (xs:List UInt8):aS (gp xs):=ab3 _ (Nat.lt_of_lt_of_le (Fa xs 8) (by decide))
def oy (good:Bool) (rest:List UInt8):UInt8 × List UInt8 × Bool:=if good then (match rest with|[]=>(0,[],true)|x::xs=>(x,xs,false)) else (0,rest,false)
def kR (good:Bool) (rest:List UInt8):Int × List UInt8 × Bool:=if good then (if 8≤rest.length then (gp rest,rest.drop 8,false) else (0,rest,true)) else (0,rest,false)
def u_ (most:Int) (good:Bool) (rest:List UInt8):Int × List UInt8 × Bool :=
 if good then (if 8≤rest.length then (if 0≤gp rest∧gp rest≤most then (gp rest,rest.drop 8,false) else (0,rest.drop 8,true)) else (0,rest,true)) else (0,rest,false)
def tY (most:Int) (good:Bool) (rest:List UInt8):List UInt8 × List UInt8 × Bool :=
 if good then (if 8≤rest.length then (if 0≤gp rest∧gp rest≤most then (if (gp rest).toNat≤(rest.drop 8).length then ((rest.drop 8).take (gp rest).toNat,(rest.drop 8).drop (gp rest).toNat,false) else ([],rest.drop 8,true)) else ([],rest.drop 8,true)) else ([],rest,true)) else ([],rest,false)
structure RS where
 good:Bool
 rest:List UInt8
namespace RS
def of {α:Type} (s:RS) (x:α × List UInt8 × Bool):α × RS:=(x.1,⟨s.good && !x.2.2,x.2.1⟩)
def byte (s:RS):UInt8 × RS:=s.of (oy s.good s.rest)
def num (s:RS):Int × RS:=s.of (kR s.good s.rest)
def count (most:Int) (s:RS):Int × RS:=s.of (u_ most s.good s.rest)
def bytes (most:Int) (s:RS):List UInt8 × RS:=s.of (tY most s.good s.rest)
def done (s:RS):Bool:=s.good && decide (s.rest.length=0)
theorem I7 {n:Int} (h:aS n) (t:List UInt8):gp (be n++t)=n:=by
 unfold gp;rw [List.take_append_of_le_length (by simp),show (be n).take 8=be n from rfl,ab2 n h]
theorem Fb (n:Int) (t:List UInt8):(be n++t).drop 8=t:=by
 rw [List.drop_append_of_le_length (by simp),show (be n).drop 8=[] from rfl,List.nil_append]
theorem Fe (x:UInt8) (t:List UInt8):byte ⟨true,x::t⟩=(x,⟨true,t⟩):=rfl
theorem r3 {n:Int} (h:aS n) (t:List UInt8):num ⟨true,be n++t⟩=(n,⟨true,t⟩):=by
 unfold num of kR;rw [if_pos rfl,if_pos (by simp),I7 h,Fb];rfl
theorem Ch {n most:Int} (h:aS n) (h0:0≤n) (hm:n≤most) (t:List UInt8):count most ⟨true,be n++t⟩=(n,⟨true,t⟩):=by
 unfold count of u_;rw [if_pos rfl,if_pos (by simp),I7 h,if_pos ⟨h0,hm⟩,Fb];rfl
theorem ki {xs:List UInt8} {most:Int} (hm:(xs.length:Int)≤most) (hx:(xs.length:Int)≤9223372036854775807) (t:List UInt8):bytes most ⟨true,bytesOf xs++t⟩=(xs,⟨true,t⟩):=by
 unfold bytes of tY bytesOf;have h1:aS (xs.length:Int):=by constructor<;>omega
 rw [List.append_assoc];simp only [if_true];rw [if_pos (by simp),I7 h1,if_pos ⟨by omega,hm⟩,Fb,if_pos (by simp)]
 simp
theorem Rj:∀ {xs:List UInt8},xs.length=8→be (p9 (kH xs))=xs:=by
 intro xs h
 match xs,h with
 |[a,b,c,d,e,f,g,i],_ =>
  have ha:=a.toNat_lt;have hb:=b.toNat_lt;have hc:=c.toNat_lt;have hd:=d.toNat_lt;have he:=e.toNat_lt;have hf:=f.toNat_lt;have hg:=g.toNat_lt;have hi:=i.toNat_lt;have hv:kH [a,b,c,d,e,f,g,i]=((((((a.toNat*256+b.toNat)*256+c.toNat)*256+d.toNat)*256+e.toNat)*256+f.toNat)*256+g.toNat)*256+i.toNat:=by simp [kH]
  have hu:u64 (p9 (kH [a,b,c,d,e,f,g,i]))=kH [a,b,c,d,e,f,g,i]:=by
   unfold u64 p9;rw [hv]
   split<;>omega
  have key:∀ (j:Nat) (x:UInt8),kH [a,b,c,d,e,f,g,i] / 256 ^ j % 256=x.toNat→jh (p9 (kH [a,b,c,d,e,f,g,i])) j=x:=by
   intro j x hx
   unfold jh;rw [hu]
   apply UInt8.toNat.inj
   rw [UInt8.toNat_ofNat'];exact hx
  unfold be;rw [key 7 a,key 6 b,key 5 c,key 4 d,key 3 e,key 2 f,key 1 g,key 0 i] <;>
   (rw [hv];simp only [show (256:Nat)^7=72057594037927936 from rfl,show (256:Nat)^6=281474976710656 from rfl,show (256:Nat)^5=1099511627776 from rfl,show (256:Nat)^4=4294967296 from rfl,show (256:Nat)^3=16777216 from rfl,show (256:Nat)^2=65536 from rfl,show (256:Nat)^1=256 from rfl,show (256:Nat)^0=1 from rfl];omega)
theorem Fc {xs:List UInt8} (h:8≤xs.length):be (gp xs)++xs.drop 8=xs:=by
 unfold gp;rw [Rj (by rw [List.length_take];omega),List.take_append_drop]
theorem IT {s:RS} (h:s.num.2.good=true):s.good=true∧aS s.num.1∧s.rest=be s.num.1++s.num.2.rest:=by
 obtain ⟨g,r⟩:=s
 cases g with
 |false=>simp [num,of,kR] at h
 |true =>
  by_cases h8:8≤r.length
  ·have e:num ⟨true,r⟩=(gp r,⟨true,r.drop 8⟩):=by simp [num,of,kR,h8]
   rw [e];exact ⟨rfl,I8 r,(Fc h8).symm⟩
  ·simp [num,of,kR,h8] at h
theorem RY {most:Int} {s:RS} (h:(s.count most).2.good=true):s.good=true∧(0≤(s.count most).1∧(s.count most).1≤most)∧aS (s.count most).1∧s.rest=be (s.count most).1++(s.count most).2.rest:=by
 obtain ⟨g,r⟩:=s
 cases g with
 |false=>simp [count,of,u_] at h
 |true =>
  by_cases h8:8≤r.length
  ·by_cases hm:0≤gp r∧gp r≤most
   ·have e:count most ⟨true,r⟩=(gp r,⟨true,r.drop 8⟩):=by simp only [count,of,u_,h8,hm];rfl
    rw [e];exact ⟨rfl,hm,I8 r,(Fc h8).symm⟩
   ·have e:count most ⟨true,r⟩=(0,⟨false,r.drop 8⟩):=by simp only [count,of,u_,h8,hm];rfl
    rw [e] at h;cases h
  ·simp [count,of,u_,h8] at h
theorem Ff {most:Int} {s:RS} (h:(s.bytes most).2.good=true):s.good=true∧((s.bytes most).1.length:Int)≤most∧s.rest=bytesOf (s.bytes most).1++(s.bytes most).2.rest:=by
 obtain ⟨g,r⟩:=s
 cases g with
 |false=>simp [bytes,of,tY] at h
 |true =>
  by_cases h8:8≤r.length
  ·by_cases hm:0≤gp r∧gp r≤most
   ·by_cases hl:(gp r).toNat≤(r.drop 8).length
    ·have e:bytes most ⟨true,r⟩=((r.drop 8).take (gp r).toNat,⟨true,(r.drop 8).drop (gp r).toNat⟩):=by simp only [bytes,of,tY,h8,hm,hl];rfl
     rw [e];have hlen:((r.drop 8).take (gp r).toNat).length=(gp r).toNat:=by rw [List.length_take];omega
     have hz:(((r.drop 8).take (gp r).toNat).length:Int)=gp r:=by rw [hlen];omega
     refine ⟨rfl,by rw [hz];exact hm.2,?_⟩
     show r=be (((r.drop 8).take (gp r).toNat).length:Int)++(r.drop 8).take (gp r).toNat++(r.drop 8).drop (gp r).toNat
     rw [hz,List.append_assoc,List.take_append_drop,Fc h8]
    ·have e:bytes most ⟨true,r⟩=([],⟨false,r.drop 8⟩):=by simp only [bytes,of,tY,h8,hm,hl];rfl
     rw [e] at h;cases h
   ·have e:bytes most ⟨true,r⟩=([],⟨false,r.drop 8⟩):=by simp only [bytes,of,tY,h8,hm];rfl
    rw [e] at h;cases h
  ·simp [bytes,of,tY,h8] at h
theorem Lg (s:RS):s.byte.2.rest.length≤s.rest.length:=by
 obtain ⟨g,r⟩:=s
 cases g<;>cases r<;>simp [byte,of,oy]
theorem On (s:RS):s.num.2.rest.length≤s.rest.length:=by
 unfold num of kR;split<;>(try split)<;>simp
theorem Lt (most:Int) (s:RS):(s.count most).2.rest.length≤s.rest.length:=by
 unfold count of u_;split<;>(try split)<;>(try split)<;>simp
theorem pI (most:Int) (s:RS):(s.bytes most).2.rest.length≤s.rest.length:=by
 unfold bytes of tY;split<;>(try split)<;>(try split)<;>(try split)<;>simp<;>omega
theorem rG (most:Int) (s:RS):(s.bytes most).1.length≤s.rest.length:=by
 unfold bytes of tY;split<;>(try split)<;>(try split)<;>(try split)<;>simp<;>omega
theorem cW:aS 0:=⟨by decide,by decide⟩
theorem IU (s:RS):aS s.num.1:=by
 unfold num of kR;split<;>(try split)<;>first|exact I8 _|exact cW
theorem RX (most:Int) (s:RS) (h:0≤most):0≤(s.count most).1∧(s.count most).1≤most:=by
 unfold count of u_;split<;>(try split)<;>(try split)<;>first|assumption|exact ⟨Int.le_refl _,h⟩
theorem FB {s:RS}:s.done=true↔s.good=true∧s.rest=[]:=by unfold done;simp
end RS
def zy:Nat→RS→List UInt8 × RS
 |0,s=>([],s)
 |n+1,s=>((zy n s).1++[(zy n s).2.byte.1],(zy n s).2.byte.2)
@[simp] theorem afj (n:Nat) (s:RS):(zy n s).1.length=n:=by induction n<;>simp [zy, *]
def xw (v:Value) (xs:List UInt8):az:=fun m=>av ag.u8 m v xs
def l7 (T b:Nat) (s:RS):az:=fun m=>∃ p:Value × Bool × Bool,(p.2.1 && !p.2.2)=s.good∧Sat [obj b T [p.1,.bool p.2.1,.bool p.2.2],xw p.1 s.rest] m
section
variable {P:Program} {f:FuncId} {args:Array Value} {r:Fr} {T b:Nat} {s:RS} {Q:Value→RS→List az→Prop} {w:World} {g:bp} {aa:List az}
theorem ax.Zw {ι:Type} {F:ι→Prop} {ws:ι→List az} (h:ax w g ((fun m=>∃ i,F i∧Sat (ws i) m)::aa)):∃ i,F i∧ax w g (ws i++aa):=by
 obtain ⟨i,hi⟩:=ax.FJ h;obtain ⟨q1,bg,ei,k,d,s1,s2,k1,k2,kd,t1,t2,⟨h1,hx⟩,y⟩:=hi;exact ⟨i,h1,q1,bg,ei,k,d,s1,s2,Sat.mono (Fr.iK t1 t2) (Sat.append kd hx y)⟩
theorem l7.fold {v:Value} {made bad:Bool} (h1:(made && !bad)=s.good) (h:ax w g (obj b T [v,.bool made,.bool bad]::xw v s.rest::aa)):ax w g (l7 T b s::aa) :=
 h.imp fun _ h=>Sat.H7 (A:=obj b T [v,.bool made,.bool bad]) (B:=xw v s.rest) (fun _ x=>⟨(v,made,bad),h1,x⟩) h
theorem aj.rd (h:∀ (m:Fr) v made bad,(made && !bad)=s.good→av ag.u8 m v s.rest→aj P f args m [obj b T [v,.bool made,.bool bad]] (aF fun u aa=>∃ v' E1 s' ζ,Q u s' ζ∧(made && !E1)=s'.good∧av ag.u8 m v' s'.rest∧aa=obj b T [v',.bool made,.bool E1]::ζ)) :
  aj P f args r [l7 T b s] (aF fun u aa=>∃ s' ζ,Q u s' ζ∧aa=l7 T b s' ::ζ):=fun g hr w hw=>by
 obtain ⟨p,h1,hw1⟩:=ax.Zw (F:=fun p:Value × Bool × Bool=>(p.2.1 && !p.2.2)=s.good) (ws:=fun p=>[obj b T [p.1,.bool p.2.1,.bool p.2.2],xw p.1 s.rest]) hw;obtain ⟨k,hk,hd,WO⟩:=ax.freeze (hw1.perm (List.Perm.swap _ _ _));refine (h k p.1 p.2.1 p.2.2 h1 hk (g.add k) (Fr.jw hd) w WO).mono fun e w' ⟨au,hp,hw'⟩=>?_
 cases e with
 |returned u =>
  obtain ⟨v',E1,s',ζ,hQ,h3,h4,rfl⟩:=hp;exact ⟨_,⟨s',ζ,hQ,rfl⟩,l7.fold h3 ((hw'.wY (A:=xw v' s'.rest) h4 hd).perm (List.Perm.swap _ _ _))⟩
 |panicked _=>exact hp.elim
 |outgrown=>exact hp.elim
theorem Mg {made bad f g:Bool} (h:(made && !bad)=g):(made && !(bad ||f))=(g && !f):=by subst h;cases made<;>cases bad<;>cases f<;>rfl
theorem abm {e:TypeId} {v:Value} {xs:List UInt8} {m:Fr} (h:Sat (obj b T [v,.bool true,.bool false]::ak ag.u8 e v xs::aa) m):Sat (l7 T b ⟨true,xs⟩::aa) m :=
 Sat.H7 (A:=obj b T [v,.bool true,.bool false]) (B:=xw v xs) (fun _ x=>⟨(v,true,false),rfl,x⟩) (Sat.g9 (fun _ x=>x) (fun _ y=>Sat.g9 (fun _ x=>x.arr) (fun _ y=>y) y) h)
end
end Go.Sp
end
section
/- Texts of this proof. -/
namespace Go.Sp
def qu:Nat→RS→List dB × RS
 |0,s=>([],s)
 |n+1,s=>((qu n s).1++[((qu n s).2.num.1,(qu n s).2.num.2.num.1,())],(qu n s).2.num.2.num.2)
@[simp] theorem af2 (n:Nat) (s:RS):(qu n s).1.length=n:=by induction n<;>simp [qu, *]
def FC (d:dB):Prop:=aS d.1∧aS d.2.1
theorem Sh:∀ (l:List dB) (t:List UInt8),(∀ d∈l,FC d)→qu l.length ⟨true,iM l++t⟩=(l,⟨true,t⟩):=by
 have key:∀ (k:Nat) (l:List dB) (t:List UInt8),(∀ d∈l,FC d)→k≤l.length→qu k ⟨true,iM l++t⟩=(l.take k,⟨true,iM (l.drop k)++t⟩):=by
  intro k
  induction k with
  |zero=>intro l t _ _;simp [qu]
  |succ k ih =>
   intro l t hl hk
   have h1:=ih l t hl (by omega);have hd:l.drop k=l[k]::l.drop (k+1):=List.drop_eq_getElem_cons hk;have hq:=hl _ (List.getElem_mem (l:=l) (n:=k) (by omega));rw [qu,h1]
   simp only
   rw [hd,FD,List.append_assoc,RS.r3 hq.1]
   simp only
   rw [List.append_assoc,RS.r3 hq.2,List.take_succ_eq_append_getElem hk]
 intro l t hl
 rw [key l.length l t hl (Nat.le_refl _)];simp
structure zf where
 kind:UInt8
 key:List UInt8
 client:Int
 seq:Int
 Sf:List dB
 gone:UInt8
 value:List UInt8
 s:RS
def JC (b:List UInt8):zf :=
 let k:=(RS.mk true b).byte
 let y:=k.2.bytes 64
 let c:=y.2.num
 let q:=c.2.num
 let n:=q.2.count 8
 let d:=qu n.1.toNat n.2
 let g:=d.2.byte
 let v:=g.2.bytes 1024
 ⟨k.1,y.1,c.1,q.1,d.1,g.1,v.1,v.2⟩
def zf.make (q:zf) (g:Bool) (sig:List UInt8):aV:=(q.key,q.client,q.seq,q.Sf,g,q.value,sig,())
theorem adK {l:List dB} (h:jd l=true):∀ d∈l,FC d:=fun d hd=>by
 have:=zM.1 ((vj.1 h).1 d hd);exact ⟨⟨by omega,by omega⟩,⟨by omega,by omega⟩⟩
theorem abr {x:aV} (h:shaped x=true) (t:List UInt8):JC (fY x++t)=⟨1,x.1,x.2.1,x.2.2.1,x.2.2.2.1,kM x.2.2.2.2.1,x.2.2.2.2.2.1,⟨true,t⟩⟩:=by
 obtain ⟨h1,h2,h3,h4,h5,h6,h7⟩:=oB.1 h;have hd:=zM.1 h3;simp only [fP] at hd;have hl:=A9 h4;have i1:aS x.2.1:=⟨by omega,by omega⟩;have i2:aS x.2.2.1:=⟨by omega,by omega⟩;have i3:aS (x.2.2.2.1.length:Int):=⟨by omega,by omega⟩;have e0:fY x++t=(1:UInt8)::(bytesOf x.1++(be x.2.1++(be x.2.2.1++(be x.2.2.2.1.length++(iM x.2.2.2.1++(kM x.2.2.2.2.1::(bytesOf x.2.2.2.2.2.1++t))))))):=by
  simp [fY]
 unfold JC;rw [e0];simp only [RS.Fe];rw [RS.ki (by omega) (by omega)]
 simp only
 rw [RS.r3 i1]
 simp only
 rw [RS.r3 i2]
 simp only
 rw [RS.Ch i3 (by omega) (by omega)];simp only [Int.toNat_natCast];rw [Sh _ _ (adK h4)];simp only [RS.Fe];rw [RS.ki (by omega) (by omega)]
noncomputable def vb (b:List UInt8):Option aV:=by
 classical exact if h:∃ x,fF x=true∧cm x=b then some h.choose else none
theorem O0 {b:List UInt8} {x:aV} (h:vb b=some x):fF x=true∧cm x=b:=by
 unfold vb at h
 split at h
 ·rename_i c;cases h;exact c.choose_spec
 ·cases h
def A8 (b:List UInt8):zf:=JC (b.take (b.length - 64))
def O1 (b:List UInt8):aV:=(A8 b).make (decide ((A8 b).gone≠0)) (b.drop (b.length - 64))
theorem TU (g:Bool):decide (kM g≠0)=g:=by cases g<;>rfl
theorem O2 {x:aV} (h:fF x=true):O1 (cm x)=x∧(A8 (cm x)).s=⟨true,[]⟩∧64≤(cm x).length:=by
 obtain ⟨h1,h2⟩:=DH.1 h;have e1:(cm x).length - 64=(fY x).length:=by unfold cm;rw [List.length_append,h2];omega
 have e2:(cm x).take ((cm x).length - 64)=fY x:=by rw [e1];unfold cm;rw [List.take_append_of_le_length (Nat.le_refl _),List.take_length]
 have cZ:(cm x).drop ((cm x).length - 64)=x.2.2.2.2.2.2.1:=by rw [e1];unfold cm;rw [List.drop_append_of_le_length (Nat.le_refl _),List.drop_length,List.nil_append]
 have fV:=abr h1 [];rw [List.append_nil] at fV;refine ⟨?_,?_,?_⟩
 ·unfold O1 A8
  rw [e2,cZ,fV];simp only [zf.make,TU]
 ·unfold A8;rw [e2,fV]
 ·unfold cm;rw [List.length_append,h2];omega
theorem abo {x y:aV} (hx:fF x=true) (hy:fF y=true) (h:cm x=cm y):x=y:=by
 rw [← (O2 hx).1,h,(O2 hy).1]
theorem JB {x:aV} (h:fF x=true):vb (cm x)=some x:=by
 cases e:vb (cm x) with
 |some y=>obtain ⟨h1,h2⟩:=O0 e;rw [abo h1 h h2]
 |none =>
  unfold vb at e
  split at e
  ·cases e
  ·rename_i c;exact absurd ⟨x,h,rfl⟩ c
theorem OZ {b:List UInt8} {x:aV}:vb b=some x↔fF x=true∧cm x=b :=
 ⟨O0,fun ⟨h1,h2⟩=>by rw [← h2];exact JB h1⟩
def yM (b:List UInt8):dD :=
 let a:=(RS.mk true ((b.drop 1).take 24)).num
 let c:=a.2.num
 let q:=c.2.num
 (a.1,c.1,q.1,(b.drop 25).take 64,b.drop 89,())
theorem IV {s:RS} (hg:s.good=true) (h:8≤s.rest.length):s.num.2.good=true∧s.num.2.rest.length=s.rest.length - 8:=by
 obtain ⟨g,r⟩:=s;simp only at hg h;subst hg
 simp [RS.num,RS.of,kR,h]
theorem abE {b:List UInt8} (hl:b.length=153) (h0:b.head?=some 2):bM (yM b)=b:=by
 unfold yM
 simp only
 generalize hS:RS.mk true ((b.drop 1).take 24)=s;have sl:s.rest.length=24:=by rw [← hS];simp;omega
 have acA:s.good=true:=by rw [← hS]
 obtain ⟨a1,l1⟩:=IV acA (by omega);obtain ⟨a2,l2⟩:=IV a1 (by omega);obtain ⟨a3,l3⟩:=IV a2 (by omega);obtain ⟨_,_,e1⟩:=RS.IT a1;obtain ⟨_,_,e2⟩:=RS.IT a2;obtain ⟨_,_,cZ⟩:=RS.IT a3;have fV:s.num.2.num.2.num.2.rest=[]:=List.eq_nil_of_length_eq_zero (by omega);rw [fV,List.append_nil] at cZ;rw [cZ] at e2;rw [e2] at e1;have lE:(b.drop 1).take 24=be s.num.1++(be s.num.2.num.1++be s.num.2.num.2.num.1):=by rw [← e1,← hS]
 have xV:b=2::b.drop 1:=by
  cases b with
  |nil=>cases h0
  |cons c b=>simp at h0;subst h0;rfl
 have uF:b.drop 1=(b.drop 1).take 24++b.drop 25:=by
  have:=(List.take_append_drop 24 (b.drop 1)).symm;rw [List.drop_drop] at this;exact this
 have lF:b.drop 25=(b.drop 25).take 64++b.drop 89:=by
  have:=(List.take_append_drop 64 (b.drop 25)).symm;rw [List.drop_drop] at this;exact this
 show [2]++((be s.num.1++(be s.num.2.num.1++be s.num.2.num.2.num.1))++(b.drop 25).take 64)++b.drop 89=b
 rw [← lE]
 conv=>rhs;rw [xV,uF,lF]
 simp
theorem abD {x:dD} (h:dR x=true):yM (bM x)=x∧(bM x).head?=some 2:=by
 obtain ⟨h1,h2⟩:=vc.1 h;obtain ⟨r1,r2,gV,qZ,q2,p6,wR⟩:=Ba.1 h1;have e0:bM x=2::(be x.1++(be x.2.1++(be x.2.2.1++(x.2.2.2.1++x.2.2.2.2.1)))):=by simp [bM,iV]
 have e1:((bM x).drop 1).take 24=be x.1++(be x.2.1++be x.2.2.1):=by
  rw [e0,List.drop_succ_cons,List.drop_zero,← List.append_assoc,← List.append_assoc,List.append_assoc (be x.1),List.take_append_of_le_length (by simp),List.take_of_length_le (by simp)]
 have e2:(bM x).drop 25=x.2.2.2.1++x.2.2.2.2.1:=by
  rw [e0,show 25=24+1 from rfl,List.drop_succ_cons,← List.append_assoc,← List.append_assoc,List.append_assoc (be x.1),List.drop_append_of_le_length (by simp),List.drop_of_length_le (by simp),List.nil_append]
 have cZ:(bM x).drop 89=x.2.2.2.2.1:=by
  rw [show 89=25+64 from rfl,← List.drop_drop,e2,List.drop_append_of_le_length (by omega),List.drop_of_length_le (by omega),List.nil_append]
 refine ⟨?_,by rw [e0];rfl⟩;unfold yM;rw [e1,e2,cZ]
 simp only
 rw [RS.r3 ⟨by omega,by omega⟩]
 simp only
 rw [RS.r3 ⟨by omega,by omega⟩]
 simp only
 have fV:=RS.r3 (n:=x.2.2.1) ⟨by omega,by omega⟩ [];rw [List.append_nil] at fV;rw [fV,List.take_append_of_le_length (by omega),List.take_of_length_le (by omega)]
noncomputable def yL (b:List UInt8):Option dD:=if b.length=153∧b.head?=some 2∧dR (yM b)=true then some (yM b) else none
theorem A_ {b:List UInt8} {x:dD}:yL b=some x↔dR x=true∧bM x=b:=by
 unfold yL
 constructor
 ·intro h
  split at h
  ·rename_i c;cases h;exact ⟨c.2.2,abE c.1 c.2.1⟩
  ·cases h
 ·rintro ⟨h1,rfl⟩
  obtain ⟨h2,h3⟩:=abD h1;rw [if_pos ⟨lZ h1,h3,by rw [h2];exact h1⟩,h2]
theorem JH {x:dD} (h:dR x=true):yL (bM x)=some x:=A_.2 ⟨h,rfl⟩
noncomputable def FH (b:List UInt8):Option gh :=
 let y:=(RS.mk true b).bytes 153
 let z:=y.2.bytes 153
 (yL y.1).bind fun a=>(yL z.1).bind fun c=>if z.2.done=true∧k6 (a,c,())=true then some (a,c,()) else none
theorem LI {b:List UInt8} {x:gh}:FH b=some x↔k6 x=true∧j0 x=b:=by
 unfold FH
 simp only
 constructor
 ·intro h
  obtain ⟨a,ha,h⟩:=Option.bind_eq_some_iff.1 h;obtain ⟨c,hc,h⟩:=Option.bind_eq_some_iff.1 h
  split at h
  ·rename_i q
   cases h
   refine ⟨q.2,?_⟩;obtain ⟨g1,g2⟩:=RS.FB.1 q.1;obtain ⟨g3,_,e2⟩:=RS.Ff g1;obtain ⟨_,_,e1⟩:=RS.Ff g3;have a2:=(A_.1 ha).2;have c2:=(A_.1 hc).2;rw [← a2] at e1;rw [← c2,g2,List.append_nil] at e2;rw [e2] at e1;exact e1.symm
  ·cases h
 ·rintro ⟨h1,rfl⟩
  obtain ⟨o1,o2,_⟩:=xY.1 h1;have l1:=lZ o1;have l2:=lZ o2;have e1:(RS.mk true (j0 x)).bytes 153=(bM x.1,⟨true,bytesOf (bM x.2.1)⟩):=RS.ki (by omega) (by omega) _;have e2:(RS.mk true (bytesOf (bM x.2.1))).bytes 153=(bM x.2.1,⟨true,[]⟩):=by
   have:=RS.ki (xs:=bM x.2.1) (most:=153) (by omega) (by omega) []
   rwa [List.append_nil] at this
  rw [e1]
  simp only
  rw [e2,JH o1,JH o2];simp only [Option.bind_some];rw [if_pos ⟨rfl,h1⟩]
noncomputable def vg (most:Int):Nat→RS→Option (List aV × RS)
 |0,s=>some ([],s)
 |n+1,s=>(vg most n s).bind fun p=>(vb (p.2.bytes most).1).map fun x=>(p.1++[x],(p.2.bytes most).2)
theorem PM {most:Int}:∀ {n:Nat} {s:RS} {p:List aV × RS},vg most n s=some p→p.2.good=true→s.good=true∧p.1.length=n∧s.rest=dS p.1++p.2.rest
 |0,s,p,h,hg=>by cases h;exact ⟨hg,rfl,rfl⟩
 |n+1,s,p,h,hg=>by
  obtain ⟨q,hq,h⟩:=Option.bind_eq_some_iff.1 h;obtain ⟨x,hx,rfl⟩:=Option.map_eq_some_iff.1 h;obtain ⟨g1,_,e1⟩:=RS.Ff hg;obtain ⟨g2,l2,e2⟩:=PM hq g1;refine ⟨g2,by simp [l2],?_⟩;rw [e2,e1,← (OZ.1 hx).2,JQ,List.append_assoc]
theorem ab5 (x:aV) (l:List aV):dS (x::l)=bytesOf (cm x)++dS l:=by simp [dS]
theorem acs {most:Int} (l:List aV) (t:List UInt8) (hl:∀ x∈l,fF x=true∧((cm x).length:Int)≤most):vg most l.length ⟨true,dS l++t⟩=some (l,⟨true,t⟩):=by
 have key:∀ k,k≤l.length→vg most k ⟨true,dS l++t⟩=some (l.take k,⟨true,dS (l.drop k)++t⟩):=by
  intro k
  induction k with
  |zero=>intro _;simp [vg]
  |succ k ih =>
   intro hk
   obtain ⟨h1,h2⟩:=hl _ (List.getElem_mem (l:=l) (n:=k) (by omega));have h3:=q3 h1;have hd:l.drop k=l[k]::l.drop (k+1):=List.drop_eq_getElem_cons hk;have hb:=RS.ki (xs:=cm l[k]) (most:=most) h2 (by omega) (dS (l.drop (k+1))++t);have e:dS (l.drop k)++t=bytesOf (cm l[k])++(dS (l.drop (k+1))++t):=by rw [hd,ab5,List.append_assoc]
   rw [vg,ih (by omega),Option.bind_some,e]
   simp only
   rw [hb]
   simp only
   rw [JB h1,Option.map_some,List.take_succ_eq_append_getElem (by omega)]
 rw [key _ (Nat.le_refl _)];simp [dS]
noncomputable def yP (b:List UInt8):Option (List aV) :=
 let c:=(RS.mk true b).count ((b.length / 8:Nat):Int)
 (vg b.length c.1.toNat c.2).bind fun p=>if p.2.done=true∧ez p.1 then some p.1 else none
theorem ab7 (l:List aV):8*l.length≤(dS l).length:=by
 induction l with
 |nil=>simp [dS]
 |cons x l ih=>simp only [dS,List.map_cons,List.flatten_cons,List.length_append,fI,List.length_cons] at ih ⊢;omega
theorem abt {l:List aV} {x:aV} (h:x∈l):(cm x).length≤(dS l).length:=by
 induction l with
 |nil=>cases h
 |cons y l ih =>
  simp only [dS,List.map_cons,List.flatten_cons,List.length_append,fI] at ih ⊢
  rcases List.mem_cons.1 h with rfl|h
  ·omega
  ·have:=ih h;omega
theorem JP {b:List UInt8} (hb:b.length≤9223372036854775807) {l:List aV}:yP b=some l↔ez l∧dc l=b:=by
 unfold yP
 simp only
 constructor
 ·intro h
  obtain ⟨p,hp,h⟩:=Option.bind_eq_some_iff.1 h
  split at h
  ·rename_i q
   cases h
   refine ⟨q.2,?_⟩;obtain ⟨g1,g2⟩:=RS.FB.1 q.1;obtain ⟨g3,l3,cZ⟩:=PM hp g1;obtain ⟨_,b4,_,fV⟩:=RS.RY g3;rw [g2,List.append_nil] at cZ;rw [cZ] at fV;have lE:((RS.mk true b).count ((b.length / 8:Nat):Int)).1=(p.1.length:Int):=by rw [l3];omega
   rw [lE] at fV;exact fV.symm
  ·cases h
 ·rintro ⟨h1,rfl⟩
  have hlen:(dc l).length=8+(dS l).length:=by simp [dc]
  have hmin:=ab7 l;have e1:(RS.mk true (dc l)).count (((dc l).length / 8:Nat):Int)=((l.length:Int),⟨true,dS l⟩):=RS.Ch ⟨by omega,by omega⟩ (by omega) (by omega) _;rw [e1];simp only [Int.toNat_natCast];have e2:=acs (most:=((dc l).length:Int)) l [] fun x hx=>⟨wM h1.1 x hx,by have:=abt hx;omega⟩;rw [List.append_nil] at e2;rw [e2];simp only [Option.bind_some];rw [if_pos ⟨rfl,h1⟩]
end Go.Sp
end
end
end
section
/- Texts of this proof, one behind the other. -/
section
/- Texts of this proof, one behind the other. -/
section
/- Texts of this proof. -/
namespace Go.Sp
variable {K:Type} [DecidableEq K] {enc:K→Value}
abbrev kE (K:Type):=K × Value × Nat
def tI {K:Type} (enc:K→Value) (x:kE K):MapEntry:={ key:=enc (x.1),val:=x.2.1,born:=x.2.2 }
def o4 {K:Type} (enc:K→Value) (l:List (kE K)):Array MapEntry:=(l.map (tI enc)).toArray
def fN:List (kE K)→K→Option Value
 |[],_=>none
 |x::l,k=>if x.1=k then some x.2.1 else fN l k
def r_:List (kE K)→K→Value→List (kE K)
 |[],_,_=>[]
 |x::l,k,v=>if x.1=k then (k,v,x.2.2)::l else x::r_ l k v
def u6 (l:List (kE K)) (c:Nat) (k:K) (v:Value):List (kE K):=if (fN l k).isSome then r_ l k v else l++[(k,v,c)]
def Cf (l:List (kE K)) (c:Nat) (k:K):Nat:=if (fN l k).isSome then c else c+1
structure y6 (P:Program) (tk:TypeId) (enc:K→Value):Prop where
 find:∀ (k:K) (l:List (kE K)) (w:World),(Instr.findKey tk (enc k) (o4 enc l).toList).run P w=.ok ((fN l k).map fun v=>(l.findIdx fun x=>x.1 ==k,v)) w
 check:∀ (e:Bool) (k:K) (w:World),(Instr.checkKey e 10000 tk (enc k)).run P w=.ok () w
 same:∀ k:K,Instr.sameBits 10000 (enc k) (enc k)=true
def xz (enc:K→Value) (b:Nat) (l:List (kE K)) (c:Nat):az:=kg b (.map (o4 enc l) c)
section
variable {ro:Option Nat} {P:Program} {fn:Func} {n:Nat} {R:Ending→World→Prop} {k:List Item} {σ:List (Nat × Value)} {D:List Deferred} {g:bp} {aa ζ cL:List az} {ops:Array Oper} {i d:Nat} {ls:List Nat}
 {t tk te:TypeId} {x y z:Operand} {b c:Nat} {l:List (kE K)} {key:K} {w:World}
theorem abR (ht:P.underlying t=some (.map tk te)) (hk:y6 P tk enc) {ej:Value} (hz:(zeroValue te).run P w=.ok ej w) (hb:w.heap[b]?=some (.map (o4 enc l) c)) (ok:Bool) :
  (Instr.lookup t (.map (some b)) (enc (key)) ok).run P w=.ok (if ok then .tuple #[(fN l key).getD ej,.bool (fN l key).isSome] else (fN l key).getD ej) w:=by
 have h1:=fun e=>hk.check e key w;have h2:=hk.find key l w;simp only [Instr.lookup,Sem.run_bind,run_underlying ht,Result.andThen,MapKept.run_getObj_map hb,Sem.run_pure];rw [h1]
 simp only
 rw [h2]
 cases fN l key with
 |none=>simp [hz]
 |some v=>simp
theorem aK.o6 {kb:Bool} {ej:Value} (ht:P.underlying t=some (.map tk te)) (hk:y6 P tk enc) (hz:∀ w,(zeroValue te).run P w=.ok ej w) (hx:aE σ x=some (.map (some b))) (hy:aE σ y=some (enc (key))) (hs:bA aa (xz enc b l c) ζ) :
  aK P (.lookup t x y kb) σ g aa (if kb then .tuple #[(fN l key).getD ej,.bool (fN l key).isSome] else (fN l key).getD ej) aa :=
 fun o ρ w ho hkn hw=>⟨w,by
  have:=abR (P:=P) (key:=key) ht hk (hz w) (hw.eJ hs).block kb
  simp [execOp,ho,hkn x _ hx,hkn y _ hy,this],hw⟩
theorem Me:∀ (l:List (kE K)) (k:K) (v:Value),fN l k=some v→∃ x,l[l.findIdx fun x=>x.1 ==k]?=some x∧x.1=k
 |[],_,_,h=>by cases h
 |x::l,k,v,h=>by
  by_cases e:x.1=k
  ·exact ⟨x,by simp [List.findIdx_cons,e],e⟩
  ·have e2:(x.1 ==k)=false:=by simpa using e
   rw [fN,if_neg e] at h;obtain ⟨y,h1,h2⟩:=Me l k v h;exact ⟨y,by simp [List.findIdx_cons,e2,h1],h2⟩
theorem N8 (k:K) (v:Value):∀ (l:List (kE K)),(l.map (tI enc)).modify (l.findIdx fun x=>x.1 ==k) (fun e=>{ e with key:=enc (k),val:=v })=(r_ l k v).map (tI enc)
 |[]=>by simp [r_]
 |x::l=>by
  by_cases e:x.1=k
  ·simp [List.findIdx_cons,e,r_,tI]
  ·have e2:(x.1 ==k)=false:=by simpa using e
   have ih:=N8 k v l
   simp [List.findIdx_cons,e2,r_,e,ih]
theorem XX (l:List (kE K)) (k:K) (v:Value):(o4 enc l).modify (l.findIdx fun x=>x.1 ==k) (fun e=>{ e with key:=enc (k),val:=v })=o4 enc (r_ l k v):=by
 apply Array.toList_inj.1
 rw [Array.toList_modify];exact N8 k v l
omit [DecidableEq K] in
theorem Pe (o:Obj) (hb:w.heap[b]?=some (.map (o4 enc l) c)):(setObj b o).run P w=.ok () (w.putObj b o):=by
 have:=MapKept.run_setObj_map (P:=P) o hb;rw [this];rfl
theorem abS {v:Value} (ht:P.underlying t=some (.map tk te)) (hk:y6 P tk enc) (hb:w.heap[b]?=some (.map (o4 enc l) c)) :
  (Instr.mapUpdate t (.map (some b)) (enc (key)) v).run P w=.ok () (w.putObj b (.map (o4 enc (u6 l c key v)) (Cf l c key))):=by
 have h1:=fun e=>hk.check e key w;have h2:=hk.find key l w;simp only [Instr.mapUpdate,Sem.run_bind,run_underlying ht,Result.andThen,MapKept.run_getObj_map hb];rw [h1]
 simp only
 rw [h2]
 cases hg:fN l key with
 |none =>
  simp only [Option.map_none,Pe _ hb,u6,Cf,hg,Option.isSome_none,Bool.false_eq_true,if_false]
  simp [o4,tI]
 |some u =>
  obtain ⟨y,hy,WT⟩:=Me l key u hg;have AD:(o4 enc l)[l.findIdx fun x=>x.1 ==key]?=some (tI enc y):=by simp [o4,hy]
  have hkey:(((o4 enc l)[l.findIdx fun x=>x.1 ==key]?).map (·.key)).getD (enc (key))=enc (key):=by rw [AD];simp [tI,WT]
  have hsame:Instr.sameBits 10000 (enc (key)) (enc (key))=true:=hk.same key;simp only [Option.map_some,hkey,Instr.keyThatStays,hsame,if_true,Sem.run_bind,Sem.run_pure,Result.andThen,Pe _ hb,u6,Cf,hg,Option.isSome_some,XX]
omit [DecidableEq K] in
theorem dj.YW {v:Value→List az→Prop} (hv:∀ b,v (.map (some b)) (xz enc b [] 0::aa)):dj P (.makeMap t none) σ g aa v :=
 fun o ρ w ho hkn hw=>⟨_,_,_,hv w.heap.size,by simp [execOp,ho,Instr.makeMap,newObj,Sem.run];rfl,hw.alloc _⟩
omit [DecidableEq K] in
theorem dj.tN :dj P (.makeMap t none) σ g aa fun v au =>∃ b,v=.map (some b)∧au =xz enc b [] 0::aa:=dj.YW (enc:=enc) fun b=>⟨b,rfl,rfl⟩
end
def vK (a:Int × Int):Value:=.agg #[.int .i64 a.1,.int .i64 a.2]
theorem DP {P:Program} {ti:TypeId} (hi:P.underlying ti=some (.int .i64)) (cs:Array Value) (off:Nat) (v:Value) (hv:cs[off]?=some v) (w:World):(part ti cs off).run P w=.ok v w:=by
 simp [part,isAgg,run_underlying hi,hv]
theorem Cx (a:Int × Int):(#[Value.int .i64 a.1,.int .i64 a.2]:Array Value)[0]?=some (.int .i64 a.1)∧(#[Value.int .i64 a.1,.int .i64 a.2]:Array Value)[1]?=some (.int .i64 a.2):=⟨rfl,rfl⟩
theorem Mf (k:K) (v:Value) (j:K):∀ m:List (kE K),fN (r_ m k v) j=if j=k then (fN m k).map fun _=>v else fN m j
 |[]=>by simp [r_,fN]
 |x::m=>by
  have ih:=Mf k v j m;simp only [r_]
  by_cases e:x.1=k
  ·rw [if_pos e]
   simp only [fN]
   by_cases e2:j=k
   ·subst e2;simp [e]
   ·rw [if_neg (fun h=>e2 h.symm),if_neg e2,if_neg (fun h=>e2 (h.symm.trans e))]
  ·rw [if_neg e]
   simp only [fN]
   by_cases e2:j=k
   ·subst e2;rw [if_neg e,if_pos rfl,if_neg e,ih,if_pos rfl]
   ·rw [if_neg e2,ih,if_neg e2]
theorem TR (m:List (kE K)) (k:K) (v:Value) (c:Nat) (j:K) (h:fN m k=none):fN (m++[(k,v,c)]) j=if j=k then some v else fN m j:=by
 induction m with
 |nil =>
  simp only [List.nil_append,fN]
  by_cases e:j=k
  ·subst e;rw [if_pos rfl]
  ·rw [if_neg (fun q=>e q.symm),if_neg e]
 |cons x m ih =>
  simp only [fN] at h ⊢
  split at h
  ·cases h
  ·rename_i e
   simp only [List.cons_append,fN]
   by_cases e2:j=k
   ·subst e2;rw [if_neg e,ih h];simp
   ·by_cases cZ:x.1=j
    ·rw [if_pos cZ,if_neg e2,if_pos cZ]
    ·rw [if_neg cZ,ih h,if_neg e2,if_neg e2,if_neg cZ]
theorem TS (m:List (kE K)) (c:Nat) (k:K) (v:Value) (j:K):fN (u6 m c k v) j=if j=k then some v else fN m j:=by
 unfold u6
 split
 ·rename_i h
  rw [Mf]
  split
  ·cases hg:fN m k with
   |none=>rw [hg] at h;cases h
   |some u=>rfl
  ·rfl
 ·rename_i h
  exact TR m k v c j (by simpa using h)
section
variable {ro:Option Nat} {P:Program} {fn:Func} {n:Nat} {R:Ending→World→Prop} {k:List Item} {σ:List (Nat × Value)} {D:List Deferred} {g:bp} {aa ζ cL:List az} {ops:Array Oper} {i d:Nat} {ls:List Nat}
 {t tk te:TypeId} {x y z:Operand} {b c c' :Nat} {l:List (kE K)} {key:K} {w:World} {v ej:Value}
end
end Go.Sp
end
section
/- Texts of this proof, one behind the other. -/
section
/- Texts of this proof. -/
namespace Go.Sp
def gi (P:Program) (ty:TypeId) (cs:List Value) (v:Value):Prop:=∀ (w:World) (b:Nat),(∀ j u,cs[j]?=some u→w.cell? ⟨b,j,none⟩=some u)→(loadVar ty ⟨b,0,none⟩).run P w=.ok v w
theorem gi.flat {P:Program} {ty:TypeId} {v:Value} (h:gd P ty=true):gi P ty [v] v:=fun w b hc=>by
 simp [loadVar,ve (uK h),hc 0 v rfl]
theorem gi.agg {P:Program} {ty:TypeId} {cs:List Value} (h:∀ w,(isAgg ty).run P w=.ok true w) (hs:(P.info? ty).map (·.size)=some cs.length):gi P ty cs (.agg cs.toArray):=fun w b hc=>by
 have hr:=run_loadCells_list (P:=P) w ⟨b,0,none⟩ cs fun j v hj=>by rw [add_lit,Nat.zero_add];exact hc j v hj
 simp [loadVar,h,run_sizeOf hs,hr]
section
variable {P:Program} {fn:Func} {n:Nat} {R:Ending→World→Prop} {k:List Item} {σ:List (Nat × Value)} {D:List Deferred} {g:bp} {aa ζ cL:List az} {f:FuncId}
theorem ax.I6 {w:World} {b:Nat} {T:TypeId} {cs:List Value} (h:ax w g (obj b T cs::aa)):∀ j u,cs[j]?=some u→w.cell? ⟨b,j,none⟩=some u:=fun _ _ hj=>h.wL hj
def qj (P:Program) (g:bp) (b1 b2:Nat) (t1 t2:TypeId) (R:Ending→World→Prop) (e:Ending) (u:FrameMode) (w:World):Prop :=
 (∃ v,e=.returned v)∧settle u=.returning∧∃ dP d_ rL xU v1 v2 aa,ax w g (obj b1 dP rL::obj b2 d_ xU::aa)∧gi P t1 rL v1∧gi P t2 xU v2∧R (.returned (.tuple #[v1,v2])) w
theorem abA {a:Act} {w:World} {s1 s2 b1 b2:Nat} {t1 t2 dP d_:TypeId} {rL xU:List Value} {v1 v2:Value} (hr:fn.results=#[.cell s1 t1,.cell s2 t2]) (hf:Fits a n σ) (uS:look σ s1=some (.pointer (some ⟨b1,0,none⟩))) (qK:look σ s2=some (.pointer (some ⟨b2,0,none⟩)))
  (hw:ax w g (obj b1 dP rL::obj b2 d_ xU::aa)) (h1:gi P t1 rL v1) (h2:gi P t2 xU v2):(results fn a.tmps).run P w=.ok (.tuple #[v1,v2]) w:=by
 have e1:=h1 w b1 hw.I6;have e2:=h2 w b2 (hw.drop).I6;have l1:=hf.2 s1 _ uS;have l2:=hf.2 s2 _ qK
 simp [results,hr,Array.getD_eq_getD_getElem?,l1,l2,asAddr,e1,e2]
theorem rZ {a:Act} {w:World} {u:FrameMode} {s1 s2 b1 b2:Nat} {t1 t2:TypeId} {cap args:Array Value} (hr:fn.results=#[.cell s1 t1,.cell s2 t2]) (hf:Fits a n σ) (uS:look σ s1=some (.pointer (some ⟨b1,0,none⟩))) (qK:look σ s2=some (.pointer (some ⟨b2,0,none⟩)))
  (hu:u≠.run) (hc:ed P f=true) (vU:CallsD P f (args++cap) u w (qj P g b1 b2 t1 t2 R)):gE P fn a.tmps R [⟨.fn (.func f) cap,args⟩] u w:=by
 refine gE.of (leaves_cons hu (by simp [invoke,JO hc]) (vU.mono ?_));rintro e u' w' ⟨⟨v,rfl⟩,hs,dP,d_,rL,xU,v1,v2,au,hw,h1,h2,hR⟩
 show Leaves P fn a.tmps R [] (settle u') w'
 rw [hs];exact ⟨_,abA hr hf uS qK hw h1 h2,hR⟩
theorem S.JF {s1 s2 b1:Nat} {t1 dP:TypeId} {rL:List Value} {v1 v2:Value} (hr:fn.results=#[.cell s1 t1,.tmp s2]) (uS:look σ s1=some (.pointer (some ⟨b1,0,none⟩))) (qK:look σ s2=some v2)
  (s:bA aa (obj b1 dP rL) ζ) (h1:gi P t1 rL v1) (h:∀ w,ax w g (obj b1 dP rL::ζ)→R (.returned (.tuple #[v1,v2])) w):S none P fn n R (.code .ret::k) σ [] g aa:=by
 refine S.r6 fun a w hf hd hw=>?_;have hw' :=hw.eJ s;refine ⟨.tuple #[v1,v2],?_,h w hw'⟩;have e1:=h1 w b1 hw'.I6;have l1:=hf.2 s1 _ uS;have l2:=hf.2 s2 _ qK
 simp [results,hr,Array.getD_eq_getD_getElem?,l1,l2,asAddr,e1]
end
def fJ (t:TypeId) (z:Int):List PanicEntry:=[{ v:=.iface t (.int .i64 z),recovered:=false }]
end Go.Sp
end
section
/- Texts of this proof. -/
namespace Go.Sp
section
variable {P:Program} {fn:Func} {n:Nat} {R:Ending→World→Prop} {ro:Option Nat} {σ:List (Nat × Value)} {D:List Deferred} {g:bp} {aa:List az}
end
def p7 (x:aV):Nat:=1+x.2.2.2.1.length+(x.1.length+x.2.2.2.2.2.1.length+x.2.2.2.2.2.2.1.length) / 8
def p8 (x:dD):Nat:=1+(x.2.2.2.1.length+x.2.2.2.2.1.length) / 8
def c4:Nat:=140737488351232
def xA (n:Nat) (l:List aV):Prop:=l.length≤n∧∀ x∈l,p7 x≤n
def y7 (n:Nat) (x:eL):Prop:=x.1.length / 8≤n∧xA n x.2.1
def yI (l:List eL):Nat:=(l.map fun x=>x.2.1.length).sum
theorem abw {l:List eL} {i:Nat} (h:i<l.length):yI (l.take (i+1))=yI (l.take i)+l[i].2.1.length:=by
 unfold yI;rw [List.take_succ_eq_append_getElem h,List.map_append,List.sum_append];simp
def y8 (n:Nat) (l:List eL):Prop:=(l.length≤n∧yI l≤n)∧∀ x∈l,y7 n x
theorem xA.mono {n m:Nat} {l:List aV} (hm:n≤m) (h:xA n l):xA m l:=⟨by have:=h.1;omega,fun x hx=>by have:=h.2 x hx;omega⟩
theorem y7.mono {n m:Nat} {x:eL} (hm:n≤m) (h:y7 n x):y7 m x:=⟨by have:=h.1;omega,h.2.mono hm⟩
theorem y8.mono {n m:Nat} {l:List eL} (hm:n≤m) (h:y8 n l):y8 m l:=⟨by have:=h.1;exact ⟨by omega,by omega⟩,fun x hx=>(h.2 x hx).mono hm⟩
theorem AM {α:Type} {l:List α} {i:Nat} (hi:i<l.length) {p:α→Prop} (h:∀ x∈l.take i,p x) (h' :p l[i]):∀ x∈l.take (i+1),p x:=fun x hx=>by
 rw [List.take_succ_eq_append_getElem hi,List.mem_append,List.mem_singleton] at hx
 rcases hx with hx|rfl
 ·exact h x hx
 ·exact h'
theorem abp {x:aV} (h:lB c4 x):p7 x≤3*c4:=by
 obtain ⟨h0,h1,h2,h3⟩:=h;unfold p7 c4 at *
 omega
theorem JI {x:dD} (h:pz c4 x):p8 x≤3*c4:=by
 obtain ⟨h0,h1⟩:=h;unfold p8 c4 at *
 omega
end Go.Sp
end
end
end
section
/- Texts of this proof, one behind the other. -/
section
/- Texts of this proof, one behind the other. -/
section
/- Texts of this proof, one behind the other. -/
section
/- Texts of this proof. -/
namespace Go.Sp
theorem Pd {P : Program} {t ti : TypeId} {f0 f1 : Field} (ht : P.underlying t = some (.struct #[f0, f1])) (hi : P.underlying ti = some (.int .i64)) (h0 : f0.type = ti) (h1 : f1.type = ti) (o0 : f0.offset = 0) (o1 : f1.offset = 1) (n0 : f0.name ≠ "_") (n1 : f1.name ≠ "_") (hh : P.stoodInHeld t = false)
  (a b:Int × Int) (w:World):(Op.equal t (vK a) (vK b)).run P w=.ok (decide (a=b)) w:=by
 have C5:=fun w=>DP hi _ 0 _ (Cx a).1 w;have Hq:=fun w=>DP hi _ 1 _ (Cx a).2 w;have Hr:=fun w=>DP hi _ 0 _ (Cx b).1 w;have MV:=fun w=>DP hi _ 1 _ (Cx b).2 w;have heq:∀ (x y:Int) (w:World),(Op.equalIn 9999 ti (.int .i64 x) (.int .i64 y)).run P w=.ok (x ==y) w:=fun x y w=>by
  show (Op.equalIn (9998+1) ti (.int .i64 x) (.int .i64 y)).run P w=_
  unfold Op.equalIn
  simp [run_underlying hi]
 show (Op.equalIn (9999+1) t (vK a) (vK b)).run P w=_
 unfold Op.equalIn vK;simp only [Sem.run_bind,run_underlying ht,Result.andThen];obtain ⟨a1,a2⟩:=a;obtain ⟨b1,b2⟩:=b;simp only at C5 Hq Hr MV
 by_cases c1:a1=b1
 ·by_cases c2:a2=b2
  ·subst c1;subst c2
   simp [hh,h0,h1,o0,o1,n0,n1,C5,Hq,heq]
  ·subst c1
   have:(a2 ==b2)=false:=by simpa using c2
   simp [hh,h0,h1,o0,o1,n0,n1,C5,Hq,Hr,MV,heq,c2]
 ·have:(a1 ==b1)=false:=by simpa using c1
  simp [hh,h0,h1,o0,o1,n0,n1,C5,Hr,heq,c1]
section
variable {P:Program} {σ:List (Nat × Value)} {g:bp} {aa:List az} {t ti u:TypeId} {x y:Operand} {a b c d:Int} {f0 f1:Field}
theorem aK.LG (ht : P.underlying t = some (.struct #[f0, f1])) (hi : P.underlying ti = some (.int .i64)) (h0 : f0.type = ti) (h1 : f1.type = ti) (o0 : f0.offset = 0) (o1 : f1.offset = 1) (n0 : f0.name ≠ "_") (n1 : f1.name ≠ "_") (hh : P.stoodInHeld t = false) (hgd : P.eqGuardType P.depth t = false)
  (hx:aE σ x=some (.agg #[.int .i64 a,.int .i64 b])) (hy:aE σ y=some (.agg #[.int .i64 c,.int .i64 d])):aK P (.binOp .eql t x y u) σ g aa (.bool (decide ((a,b)=(c,d)))) aa:=.run fun o ρ w ho hk=>by
 have h:=Pd ht hi h0 h1 o0 o1 n0 n1 hh (a,b) (c,d) w;simp only [vK] at h
 simp [execOp,ho,hk x _ hx,hk y _ hy,eqGuard,Go.binOp,h,hgd]
theorem aK.Ob (ht : P.underlying t = some (.struct #[f0, f1])) (hi : P.underlying ti = some (.int .i64)) (h0 : f0.type = ti) (h1 : f1.type = ti) (o0 : f0.offset = 0) (o1 : f1.offset = 1) (n0 : f0.name ≠ "_") (n1 : f1.name ≠ "_") (hh : P.stoodInHeld t = false) (hgd : P.eqGuardType P.depth t = false)
  (hx:aE σ x=some (.agg #[.int .i64 a,.int .i64 b])) (hy:aE σ y=some (.agg #[.int .i64 c,.int .i64 d])):aK P (.binOp .neq t x y u) σ g aa (.bool (decide ((a,b)≠(c,d)))) aa:=.run fun o ρ w ho hk=>by
 have h:=Pd ht hi h0 h1 o0 o1 n0 n1 hh (a,b) (c,d) w;simp only [vK] at h
 simp [execOp,ho,hk x _ hx,hk y _ hy,eqGuard,Go.binOp,h,hgd]
end
theorem yR {α:Type} {xs ys:List α} {i:Nat} (hi:i<xs.length) (hi2:i<ys.length) (h:xs.take i=ys.take i) (e:xs[i]=ys[i]):xs.take (i+1)=ys.take (i+1):=by
 rw [List.take_succ_eq_append_getElem hi,List.take_succ_eq_append_getElem hi2,h,e]
theorem AV {α:Type} {xs ys:List α} {i:Nat} (hi:i<xs.length) (hi2:i<ys.length) (e:¬ xs[i]=ys[i]):¬ xs=ys:=fun h=>e (by subst h;rfl)
theorem eO {a b:List UInt8} (h:(str a).toList=(str b).toList):a=b:=by simpa using h
set_option synthInstance.maxSize 2000
set_option synthInstance.maxHeartbeats 400000
instance afS:DecidableEq dB:=inferInstance
instance afY:DecidableEq aV:=inferInstance
instance afV:DecidableEq eL:=inferInstance
instance af0:DecidableEq gv:=inferInstance
instance afW:DecidableEq eY:=inferInstance
instance afX:DecidableEq fT:=inferInstance
instance afZ:DecidableEq dD:=inferInstance
instance afT:DecidableEq gh:=inferInstance
instance afU:DecidableEq QC:=inferInstance
end Go.Sp
end
section
/- Texts of this proof. -/
namespace Go.Sp
theorem Ow {x y:aV} (h:over y x=true):ko x y≠0:=fun e=>by
 rw [Lp] at e;unfold over at h;simp only [Bool.and_eq_true] at h;have h1:=(oB.1 h.2.1).2.2.2.2.1;have h2:=h.2.2.2;rw [e,h1] at h2
 cases h2
theorem over_self (x:aV):over x x=false:=by
 cases h:over x x with
 |false=>rfl
 |true=>exact absurd (Lp.2 rfl) (Ow h)
theorem Qa (l:List aV) (x:aV):ue l x=l.any fun y=>over y x:=by
 unfold ue
 congr 1
 funext y
 cases h:over y x with
 |false=>simp
 |true=>simp [Ow h]
theorem QI {l:List aV}:ez l↔hO l=true∧∀ j (h:j<l.length),(∀ h0:0<j,ko l[j-1] l[j]<0)∧∀ k (hk:k<l.length),over l[j] l[k]=false:=by
 unfold ez;refine and_congr_right fun _=>⟨fun q j h=>⟨(q j h).1,fun k hk=>?_⟩,fun q j h=>⟨(q j h).1,?_⟩⟩
 ·have h1:=(q k hk).2
  rw [Qa,List.any_eq_false] at h1
  simpa using h1 l[j] (List.getElem_mem h)
 ·rw [Qa,List.any_eq_false]
  intro y hy
  obtain ⟨i,hi,rfl⟩:=List.mem_iff_getElem.1 hy
  simp [(q i hi).2 j h]
theorem Zr {l:List aV} {i:Nat} (h:i<l.length) (o:hO (l.take i)=true):hO (l.take (i+1))=true↔fF l[i]=true∧l[i].1=(l[0]'(by omega)).1:=by
 rw [List.take_succ_eq_append_getElem h,Ou o];refine and_congr_right fun _=>⟨fun q=>?_,fun q h0=>?_⟩
 ·by_cases h0:i=0
  ·subst h0;rfl
  ·have:=q (by rw [List.length_take];omega)
   rw [List.getElem_take] at this;exact this
 ·rw [List.getElem_take];exact q
theorem Ot {l:List aV} {i:Nat} (h:hO (l.take i)=false):hO l=false:=by
 cases e:hO l with
 |false=>rfl
 |true=>rw [Dp i e] at h;cases h
theorem NP:∀ {xs ys:List UInt8} {i:Nat} (hi:i<xs.length) (hi2:i<ys.length),xs.take i=ys.take i→xs[i]≠ys[i]→(xs<ys↔xs[i].toNat<ys[i].toNat)
 |a::xs,b::ys,0,_,_,_,hne=>by
  simp only [List.getElem_cons_zero] at hne ⊢;rw [List.cons_lt_cons_iff,← UInt8.lt_iff_toNat_lt];exact ⟨fun h=>h.elim id fun q=>absurd q.1 hne,.inl⟩
 |a::xs,b::ys,i+1,hi,hi2,h,hne=>by
  simp only [List.take_succ_cons,List.cons.injEq] at h;obtain ⟨rfl,h⟩:=h;rw [List.cons_lt_cons_iff];have ih:=NP (Nat.lt_of_succ_lt_succ hi) (Nat.lt_of_succ_lt_succ hi2) h (by simpa using hne);simp only [List.getElem_cons_succ];rw [← ih];exact ⟨fun q=>q.elim (fun q=>absurd q (UInt8.lt_irrefl a)) fun q=>q.2,fun q=>.inr ⟨by trivial,q⟩⟩
theorem IG {n k:Nat} {P:∀ j,j<n→Prop} (h:∀ j (hj:j<n),j<k→P j hj) (hk:∀ hk:k<n,P k hk):∀ j (hj:j<n),j<k+1→P j hj:=fun j hj q=>by
 rcases Nat.lt_or_ge j k with q1|q1
 ·exact h j hj q1
 ·have:j=k:=by omega
  subst this;exact hk hj
end Go.Sp
end
end
section
/- Texts of this proof, one behind the other. -/
section
/- Texts of this proof, one behind the other. -/
section
/- Texts of this proof. -/
namespace Go.Sp
theorem aK.uL {P:Program} {σ:List (Nat × Value)} {g:bp} {aa:List az} {t u:TypeId} {x y:Operand} {a b:ByteArray} (hx:aE σ x=some (.string a)) (hy:aE σ y=some (.string b)) :
  aK P (.binOp .geq t x y u) σ g aa (.bool !(Op.bytesLess a.toList b.toList)) aa :=
 .run fun o ρ w ho hk=>by simp [execOp,ho,hk x _ hx,hk y _ hy,eqGuard,Go.binOp,Op.stringOp]
theorem Md (x y:List UInt8):(!Op.bytesLess (str x).toList (str y).toList)=decide (¬ x<y):=by rw [YQ,decide_not]
end Go.Sp
end
section
/- Texts of this proof. -/
namespace Go.Sp
def eB (f:eL):List UInt8:=bytesOf f.1++bytesOf (dc f.2.1)
def bh {α:Type} (b:α→List UInt8) (l:List α):List UInt8:=(l.map b).flatten
theorem ain {α:Type} (b:α→List UInt8) (l:List α) (i:Nat) (h:i<l.length):bh b (l.take (i+1))=bh b (l.take i)++b l[i]:=by
 unfold bh;rw [List.take_succ_eq_append_getElem h,List.map_append,List.flatten_append];simp
theorem r8 {α:Type} (b:α→List UInt8) (M:Nat) (l:List α) (h:∀ x∈l,(b x).length≤M):(bh b l).length≤M*l.length:=by
 induction l with
 |nil=>simp [bh]
 |cons a l ih =>
  have h1:=h a (List.mem_cons_self ..);have h2:=ih fun x hx=>h x (List.mem_cons_of_mem _ hx);simp only [bh,List.map_cons,List.flatten_cons,List.length_append,List.length_cons] at h2 ⊢;rw [Nat.mul_add,Nat.mul_one];omega
theorem aM.rd.mono {α:Type} {L:aM α} {h k:Fr} {cs:List Value} {a:α} (r:L.rd h cs a) (s:h.sub k):L.rd k cs a:=L.mono s r
end Go.Sp
end
end
section
/- Texts of this proof. -/
namespace Go.Sp
abbrev c5:Int:=9223372036854775807
def si {α:Type} (one:RS→Option (α × RS)):Nat→RS→Option (List α × RS)
 |0,s=>some ([],s)
 |n+1,s=>(si one n s).bind fun p=>if p.2.good=true then (one p.2).map fun q=>(p.1++[q.1],q.2) else none
noncomputable def Dd (s:RS):Option (eL × RS):=(yP ((s.bytes c5).2.bytes c5).1).map fun l=>(((s.bytes c5).1,l,()),((s.bytes c5).2.bytes c5).2)
noncomputable def Ds (s:RS):Option (dD × RS):=(yL (s.bytes c5).1).map fun x=>(x,(s.bytes c5).2)
noncomputable def Jf (s:RS):Option (gh × RS):=(FH (s.bytes c5).1).map fun x=>(x,(s.bytes c5).2)
def Reads {α:Type} (one:RS→Option (α × RS)) (enc:α→List UInt8) (x:α):Prop:=∀ t,one ⟨true,enc x++t⟩=some (x,⟨true,t⟩)
theorem O9 {α:Type} (b:α→List UInt8) (x:α) (l:List α):bh b (x::l)=b x++bh b l:=by simp [bh]
theorem acI {α:Type} {one:RS→Option (α × RS)} {enc:α→List UInt8} (l:List α) (t:List UInt8) (h:∀ x∈l,Reads one enc x):si one l.length ⟨true,bh enc l++t⟩=some (l,⟨true,t⟩):=by
 have key:∀ k,k≤l.length→si one k ⟨true,bh enc l++t⟩=some (l.take k,⟨true,bh enc (l.drop k)++t⟩):=by
  intro k
  induction k with
  |zero=>intro _;simp [si]
  |succ k ih =>
   intro hk
   have hd:l.drop k=l[k]::l.drop (k+1):=List.drop_eq_getElem_cons hk;have h1:=h _ (List.getElem_mem (l:=l) (n:=k) (by omega)) (bh enc (l.drop (k+1))++t);rw [si,ih (by omega),Option.bind_some,hd,O9,List.append_assoc]
   simp only
   rw [if_pos trivial,h1,Option.map_some,List.take_succ_eq_append_getElem (by omega)]
 rw [key _ (Nat.le_refl _)];simp [bh]
theorem Yl {x:eL} (hk:x.1.length≤64) (hs:ez x.2.1) (hl:(dc x.2.1).length≤9223372036854775807):Reads Dd eB x:=fun t=>by
 unfold Dd eB;rw [List.append_assoc,RS.ki (by unfold c5;omega) (by omega)]
 simp only
 rw [RS.ki (by unfold c5;omega) (by omega)]
 simp only
 rw [(JP (by omega)).2 ⟨hs,rfl⟩];rfl
theorem Oy {x:dD} (h:dR x=true):Reads Ds (fun x=>bytesOf (bM x)) x:=fun t=>by
 have:=lZ h;unfold Ds;rw [RS.ki (by unfold c5;omega) (by omega)]
 simp only
 rw [JH h];rfl
theorem aac {x:gh} (h:k6 x=true):Reads Jf (fun x=>bytesOf (j0 x)) x:=fun t=>by
 have:=xX h;unfold Jf;rw [RS.ki (by unfold c5;omega) (by omega)]
 simp only
 rw [LI.2 ⟨h,rfl⟩];rfl
def dL:dD:=(0,0,0,[],[],())
end Go.Sp
end
end
end
section
/- Texts of this proof, one behind the other. -/
section
/- Texts of this proof. -/
namespace Go.Sp
def cz (l:List cJ):List Value:=l.map so
@[simp] theorem oE (l:List cJ):(cz l).length=l.length:=by simp [cz]
theorem sq {l:List cJ} {j:Nat} (h:j<l.length):(cz l)[j]?=some (so (l.getD j 0)):=by
 simp [cz,h,List.getD_eq_getElem?_getD]
theorem J5 (l:List cJ) (j:Nat) (x:cJ):(cz l).set j (so x)=cz (l.set j x):=by simp [cz,List.map_set]
theorem adN (l:List cJ):∀ v∈cz l,v.oneCell' =true:=fun v hv=>by
 obtain ⟨x,_,rfl⟩:=List.mem_map.1 hv;rfl
theorem adM (l:List cJ):(cz l).all (·.oneCell')=true:=List.all_eq_true.2 (adN l)
section
variable {P:Program} {σ:List (Nat × Value)} {g:bp} {aa ζ:List az} {t e:TypeId} {x y:Operand}
theorem aK.Ng {kd:IntKind} {de:Int} {j len:Nat} {cs:Array Value} {v:Value} (ht:P.underlying t=some (.array len e)) (he:(P.info? e).map (·.size)=some 1) (hf:gd P e=true) (hx:aE σ x=some (.agg cs)) (hy:aE σ y=some (.int kd de)) (hz:de=(j:Int)) (hj:j<len) (hv:cs[j]?=some v) :
  aK P (.index t x y) σ g aa v aa:=.run fun o ρ w ho hk=>by
 subst hz
 simp [execOp,ho,hk x _ hx,hk y _ hy,Instr.index,part,asIntOf,run_underlying ht,hj,run_sizeOf he,ve (uK hf),hv]
theorem aK.acE {kd:IntKind} {z:Int} {a len b:Nat} (ht:P.underlying t=some (.array len e)) (he:(P.info? e).map (·.size)=some 1) (hx:aE σ x=some (.pointer (some ⟨b,0,none⟩))) (hy:aE σ y=some (.int kd z)) (hz:z=(a:Int)) (ha:a<len) (h0:0<a) :
  aK P (.slice t x (some y) none none) σ g aa (.slice (some ⟨b,a,none⟩) (len - a) (len - a)) aa:=.run fun o ρ w ho hk=>by
 subst hz;have h1:a≤len:=by omega
 have h2:¬ len=a:=by omega
 have h3:¬ a=0:=by omega
 simp [execOp,ho,hk x _ hx,hk y _ hy,Instr.sliceAt,Instr.sureAddr,Instr.sliceBounds,Instr.sliceBound,asIntOf,run_underlying ht,h1,h2,run_sizeOf he,Addr.add,h3]
theorem aK.acF {kd:IntKind} {z:Int} {a len b:Nat} (ht:P.underlying t=some (.array len e)) (he:(P.info? e).map (·.size)=some 1) (hx:aE σ x=some (.pointer (some ⟨b,0,none⟩))) (hy:aE σ y=some (.int kd z)) (hz:z=(a:Int)) (ha:a≤len) (h0:0<len) :
  aK P (.slice t x none (some y) none) σ g aa (.slice (some ⟨b,0,none⟩) a len) aa:=.run fun o ρ w ho hk=>by
 subst hz;have h2:¬ len=0:=by omega
 simp [execOp,ho,hk x _ hx,hk y _ hy,Instr.sliceAt,Instr.sureAddr,Instr.sliceBounds,Instr.sliceBound,asIntOf,run_underlying ht,ha,h2,run_sizeOf he,Addr.add]
theorem dj.Fv {T te:TypeId} {b i j m n c n' c' :Nat} {cs:List Value} (ht:P.underlying t=some (.slice e)) (he:(P.info? e).map (·.size)=some 1) (hx:aE σ x=some (.slice (some ⟨b,i,none⟩) n c)) (hy:aE σ y=some (.slice (some ⟨b,j,none⟩) n' c')) (hs:bA aa (obj b T cs) ζ)
  (hm:m=min n' n) (h1:i+m≤cs.length) (h2:j+m≤cs.length) (hone:∀ v∈cs,v.oneCell' =true) :
  dj P (.call ⟨.builtin .copy,#[x,y],#[t,te]⟩) σ g aa fun v au =>v=.int .i64 (m:Int)∧au =obj b T (cs.take i++(cs.drop j).take m++cs.drop (i+m))::ζ :=
 fun o ρ w ho hk hw=>by
  have hw1:=hw.eJ hs;have hlen:((cs.drop j).take m).length=m:=by simp;omega
  have hr:=run_loadCells_list (P:=P) w ⟨b,j,none⟩ ((cs.drop j).take m) fun q v hq=>by
   rw [add_lit];refine hw1.wL ?_;have V7:q<((cs.drop j).take m).length:=(List.getElem?_eq_some_iff.1 hq).1;rw [List.getElem?_take_of_lt (by omega),List.getElem?_drop] at hq;exact hq
  rw [hlen] at hr;have hst:=run_storeCells_at P b i T ((cs.drop j).take m) 0 cs.toArray w hw1.block (by simp;omega) (by
   intro v hv
   exact hone v (List.mem_of_mem_drop (List.mem_of_mem_take hv)))
  simp only [Nat.add_zero,hlen] at hst;refine ⟨_,w.setRow b (cs.take i++(cs.drop j).take m++cs.drop (i+m)).toArray,_,⟨rfl,rfl⟩,?_,hw1.setRow⟩;have hmin:Nat.min n' n=m:=hm.symm
  simp [execOp,ho,hk x _ hx,hk y _ hy,resolve,invoke,builtin,Builtin.copy_,run_underlying ht,Builtin.lenOf,Builtin.firstCells,run_sizeOf he,hmin,hr,hst,goInt]
variable {fn:Func} {n:Nat} {R:Ending→World→Prop} {k:List Item} {D:List Deferred} {ops:Array Oper}
theorem ah.Fv {q d:Nat} {l:List Nat} {T te:TypeId} {b i j m n1 c n' c' :Nat} {cs:List Value} (ho:cA ops q n σ d (.call ⟨.builtin .copy,#[x,y],#[t,te]⟩)) (hd:gG ops [q] l=true) (ht:P.underlying t=some (.slice e)) (he:(P.info? e).map (·.size)=some 1) (hx:aE σ x=some (.slice (some ⟨b,i,none⟩) n1 c))
  (hy:aE σ y=some (.slice (some ⟨b,j,none⟩) n' c')) (hs:bA aa (obj b T cs) ζ) (hm:m=min n' n1) (h1:i+m≤cs.length) (h2:j+m≤cs.length) (hone:∀ v∈cs,v.oneCell' =true)
  (h:ah P fn n R ops k D g l ((d,.int .i64 (m:Int))::σ) (obj b T (cs.take i++(cs.drop j).take m++cs.drop (i+m))::ζ)):ah P fn n R ops k D g (q::l) σ aa :=
 bt.perm hs.perm (eo.kQ (bZ:=false) (aa:=obj b T cs::ζ) (K:=fun u au =>u=.int .i64 (m:Int)∧au =obj b T (cs.take i++(cs.drop j).take m++cs.drop (i+m))::ζ) ho rfl (by simpa [fX] using hd)
  (fun cL=>(dj.Fv (ζ:=ζ++cL) ht he hx hy .here hm h1 h2 hone).imp fun _ _ ⟨a,b⟩=>⟨_,⟨a,rfl⟩,by rw [b];rfl⟩) (by rintro _ _ ⟨rfl,rfl⟩;exact h))
end
def j7 (b:List UInt8) (t:Nat):List cJ:=sched b t++List.replicate (80 - t) 0
theorem aco {b:List UInt8} {t:Nat} (h:t≤80):(j7 b t).length=80:=by simp [j7,Bg];omega
theorem acn (b:List UInt8):j7 b 80=sched b 80:=by simp [j7]
theorem PJ {b:List UInt8} {t:Nat} (h:t<80) (x:cJ):(j7 b t).set t x=sched b t++x::List.replicate (79 - t) 0:=by
 have hl:=Bg b t;rw [j7,List.set_append_right _ _ (by omega),hl,Nat.sub_self,show 80 - t=(79 - t)+1 by omega,List.replicate_succ,List.set_cons_zero]
theorem acp {b:List UInt8} {t:Nat} (h:t<80):(j7 b t).set t 0=j7 b t:=by
 rw [PJ h,j7,show 80 - t=(79 - t)+1 by omega,List.replicate_succ]
theorem PK {b:List UInt8} {t:Nat} (h:t<80):(j7 b t).set t (t_ b (sched b t) t)=j7 b (t+1):=by
 rw [PJ h,j7,sched,List.append_assoc,List.singleton_append,show 80 - (t+1)=79 - t by omega]
theorem D0 {b:List UInt8} {t i:Nat} (h:i<t):(j7 b t).getD i 0=(sched b t).getD i 0:=by
 have hl:=Bg b t;rw [List.getD_eq_getElem?_getD,List.getD_eq_getElem?_getD,j7,List.getElem?_append_left (by omega)]
theorem TQ {l:List cJ} {t:Nat} {x:cJ} (h:t<l.length):(l.set t x).getD t 0=x:=by simp [List.getD_eq_getElem?_getD,h]
theorem Ri {l : List UInt8} {j : Nat} (h : j < l.length) : n7 (l.take (j + 1)) = n7 (l.take j) <<< 8 ||| UInt64.ofNat l[j].toNat := by
 unfold n7;rw [List.take_succ_eq_append_getElem h,List.foldl_append];rfl
theorem adQ (c:UInt8):IntKind.u64.wrap (c.toNat:Int)=((UInt64.ofNat c.toNat).toNat:Int):=by
 have:=c.toNat_lt;rw [uh (by omega),UInt64.toNat_ofNat'];omega
theorem NN {l:List cJ} (h:l.length=8):∃ a b c d e f g i,l=[a,b,c,d,e,f,g,i]:=by
 match l,h with
 |[a,b,c,d,e,f,g,i],_=>exact ⟨a,b,c,d,e,f,g,i,rfl⟩
def n3 (v u:List cJ) (i:Nat):List cJ:=(List.zipWith (·+·) v u).take i++v.drop i
theorem QZ {v u:List cJ} (hv:v.length=8) (hu:u.length=8) {i:Nat} (h:i≤8):(n3 v u i).length=8:=by simp [n3,hv,hu];omega
theorem QX {v u:List cJ} (hv:v.length=8) (hu:u.length=8):n3 v u 8=List.zipWith (·+·) v u:=by
 rw [n3,List.drop_eq_nil_of_le (by omega),List.append_nil,List.take_of_length_le (by simp [hv,hu])]
theorem QY {v u:List cJ} (hv:v.length=8) (hu:u.length=8) {i:Nat} (h:i<8):(n3 v u i).getD i 0=v.getD i 0:=by
 have hl:((List.zipWith (·+·) v u).take i).length=i:=by simp [hv,hu];omega
 rw [List.getD_eq_getElem?_getD,List.getD_eq_getElem?_getD,n3,List.getElem?_append_right (by omega),hl,Nat.sub_self,List.getElem?_drop,Nat.add_zero]
theorem Q0 {v u:List cJ} (hv:v.length=8) (hu:u.length=8) {i:Nat} (h:i<8):(n3 v u i).set i (v.getD i 0+u.getD i 0)=n3 v u (i+1):=by
 have hl:((List.zipWith (·+·) v u).take i).length=i:=by simp [hv,hu];omega
 have hz:i<(List.zipWith (·+·) v u).length:=by simp [hv,hu];omega
 have e1:v.drop i=v[i]::v.drop (i+1):=List.drop_eq_getElem_cons (by omega);rw [n3,List.set_append_right _ _ (by omega),hl,Nat.sub_self,e1,List.set_cons_zero,n3,List.take_succ_eq_append_getElem hz,List.append_assoc,List.singleton_append,List.getElem_zipWith]
 simp [List.getD_eq_getElem?_getD,hv,hu,h]
end Go.Sp
end
section
/- Texts of this proof. -/
namespace Go.Sp
theorem NB {P:Program} {w:World} {n:String} {d:DataW Unit}:∀ {l:List (String × DataW Unit)} {ps:List MemPlace},DataW.LaidVars P w l ps→(n,d)∈l →
  ∃ g t cs fuel p,P.globalNamed n=some g∧(P.globals[g]?).map (·.type)=some t∧w.var? P n=some cs∧DataW.trod (fun _=>()) P w 0 (fun _=>true) false fuel t cs.toList=some (d,p)
 |[],_,_,hm=>by cases hm
 |(n',d')::r,ps,h,hm=>by
  obtain ⟨g,t,cs,fuel,p,q,e1,e2,cZ,fV,hr,_⟩:=h
  rcases List.mem_cons.1 hm with hm|hm
  ·cases hm;exact ⟨g,t,cs,fuel,p,e1,e2,cZ,fV⟩
  ·exact NB hr hm
theorem ND {P:Program} {w:World} {l:List (String × DataW Unit)} {n:String} {vs:List cJ} {g t e:Nat} (h:laidMetH P l w) (hm:(n,DataW.agg (vs.map fun x=>.lit (.int .u64 (x.toNat:Int))))∈l) (hg:P.globalNamed n=some g)
  (ht:(P.globals[g]?).map (·.type)=some t) (hu:P.underlying t=some (.array vs.length e)) (he:P.underlying e=some (.int .u64)) (hc:P.cellsOf e=1) (U5:P.cellsOf t=vs.length):cg w.fr ⟨g,0,none⟩ (cz vs):=by
 obtain ⟨ps,hl,_⟩:=(laidMetH_iff.1 h).1;obtain ⟨g',t',cs,fuel,p,e1,e2,cZ,fV⟩:=NB hl (List.mem_filter.2 ⟨hm,rfl⟩);rw [hg] at e1;obtain rfl:=Option.some.inj e1;rw [ht] at e2;obtain rfl:=Option.some.inj e2;obtain ⟨xs,m,_,hx,hlen,hxl,hi⟩:=DataW.trod_array hu fV;have hx1:=(Prod.mk.inj hx).1
 injection hx1 with hx1
 have hcs:cs.toList=cz vs:=by
  refine List.ext_getElem (by rw [hlen,U5,oE]) fun i h1 h2=>?_;have s_ :i<vs.length:=by simpa using h2
  have hq:=hi i s_;rw [hc,Nat.mul_one] at hq;have AB:xs[i]?=some xs[i]:=List.getElem?_eq_getElem (by omega);rw [AB] at hq;obtain ⟨z,hz,pV,_⟩:=DataW.trod_int he hq;have h3:(xs[i]).1=.lit (.int .u64 z):=by rw [pV]
  have h4:=congrArg (fun l:List (DataW Unit)=>l[i]?) hx1;simp only [List.getElem?_map,AB,List.getElem?_eq_getElem s_,Option.map_some,Option.some.injEq] at h4;rw [h3] at h4
  injection h4 with h4
  injection h4 with _ h4
  have h5:cs.toList[i]=.int .u64 z:=by
   have:(cs.toList.drop i).take 1=[cs.toList[i]]:=by rw [List.drop_eq_getElem_cons h1];rfl
   rw [this] at hz;exact (List.cons.inj hz).1
  rw [h5,← h4]
  simp [cz,so]
 intro j hj
 rw [L6,← List.getElem?_eq_getElem hj,← hcs];unfold World.var? at cZ;rw [hg] at cZ;simp only [Option.bind_some] at cZ;have e0:(Addr.mk g 0 none).add j=⟨g,j,none⟩:=by rw [add_lit,Nat.zero_add]
 rw [e0];unfold World.cell?
 simp only
 split at cZ
 ·rename_i cs' _ _ hh
  obtain rfl:=Option.some.inj cZ
  simp [hh]
 ·cases cZ
end Go.Sp
end
end
end
end
