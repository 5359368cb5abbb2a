/- Texts of this proof, one behind the other. -/
import Derived.Test.YtojafegjlahajaaGreatDoorQSpGo
import Derived.Lib.Bytealg
import Derived.Laws.Externs
import Derived.OpenShut
import Derived.LaidSub
set_option linter.unusedSectionVars false
section
/- Texts of this proof, one behind the other. -/
section
/- Texts of this proof. -/
namespace Go.Sp
abbrev U64:=UInt64
abbrev w64 (x:U64):Value:=.int .u64 (x.toNat:Int)
theorem w64_lt (x:U64):x.toNat<18446744073709551616:=x.toNat_lt
theorem wrapN {k:Nat} (h:k<18446744073709551616):IntKind.u64.wrap (k:Int)=k:=by rw [wrap_u64_eq];unfold u64;omega
theorem w_add (x y:U64):IntKind.u64.wrap ((x.toNat:Int)+(y.toNat:Int))=((x+y).toNat:Int):=by
 rw [← Int.natCast_add,wrap_u64_eq,UInt64.toNat_add];unfold u64;omega
theorem bv_of (x:U64):BitVec.ofInt IntKind.u64.bits (x.toNat:Int)=x.toBitVec:=by
 have:=w64_lt x
 apply BitVec.eq_of_toNat_eq
 rw [BitVec.toNat_ofInt];simp only [IntKind.bits]
 show _=x.toNat
 omega
theorem w_xor (x y:U64):bitsOf .xor .u64 (x.toNat:Int) (y.toNat:Int)=((x ^^^ y).toNat:Int):=by
 simp only [bitsOf];rw [bv_of,bv_of];exact wrapN (w64_lt (x ^^^ y))
theorem w_and (x y:U64):bitsOf .and .u64 (x.toNat:Int) (y.toNat:Int)=((x &&& y).toNat:Int):=by
 simp only [bitsOf];rw [bv_of,bv_of];exact wrapN (w64_lt (x &&& y))
theorem w_or (x y : U64) : bitsOf .or .u64 (x.toNat : Int) (y.toNat : Int) = ((x ||| y).toNat : Int) := by
 simp only [bitsOf]; rw [bv_of, bv_of];exact wrapN (w64_lt (x ||| y))
theorem w_not (x : U64) : bitsOf .xor .u64 18446744073709551615 (x.toNat : Int) = ((~~~x).toNat : Int) := by
 have e : (18446744073709551615 : Int) = ((18446744073709551615 : U64).toNat : Int) := rfl;rw [e, w_xor];have : (18446744073709551615 : U64) ^^^ x = ~~~x := by
  apply UInt64.toBitVec_inj.1
  show (18446744073709551615 : U64).toBitVec ^^^ x.toBitVec = ~~~x.toBitVec
  rw [show (18446744073709551615:U64).toBitVec=BitVec.allOnes 64 from rfl,BitVec.allOnes_xor]
 rw [this]
theorem w_shl (x:U64) {n:Nat} (h:n<64):IntKind.u64.wrap ((x.toNat:Int)*2 ^ min n IntKind.u64.bits)=((x <<<UInt64.ofNat n).toNat:Int):=by
 have e:min n IntKind.u64.bits=n:=by simp only [IntKind.bits];omega
 rw [e,show ((x.toNat:Int)*2 ^ n)=((x.toNat*2 ^ n:Nat):Int) from by simp,wrap_u64_eq,UInt64.toNat_shiftLeft];have:(UInt64.ofNat n).toNat % 64=n:=by rw [UInt64.toNat_ofNat'];omega
 rw [this,Nat.shiftLeft_eq];unfold u64;omega
theorem w_shr (x:U64) {n:Nat} (h:n<64):((x.toNat:Int).fdiv (2 ^ min n IntKind.u64.bits))=((x >>>UInt64.ofNat n).toNat:Int):=by
 have e:min n IntKind.u64.bits=n:=by simp only [IntKind.bits];omega
 have e2:((2:Int) ^ n)=((2 ^ n:Nat):Int):=by simp
 rw [e,e2,Int.fdiv_eq_ediv_of_nonneg _ (Int.natCast_nonneg _),UInt64.toNat_shiftRight];have:(UInt64.ofNat n).toNat % 64=n:=by rw [UInt64.toNat_ofNat'];omega
 rw [this,Nat.shiftRight_eq_div_pow];rfl
theorem neg63 {a:Nat} {z:Int} (hz:z=0 - (a:Int)) (h0:0<a) (h:a<64):bitsOf .and .u64 (IntKind.u64.wrap z) 63=((64 - a:Nat):Int):=by
 have e1:IntKind.u64.wrap z=((UInt64.ofNat (18446744073709551616 - a)).toNat:Int):=by
  rw [wrap_u64_eq,hz];unfold u64;rw [UInt64.toNat_ofNat'];omega
 have e2:(63:Int)=((63:U64).toNat:Int):=rfl;rw [e1,e2,w_and];have e3:(UInt64.ofNat (18446744073709551616 - a) &&& 63).toNat=64 - a:=by
  rw [UInt64.toNat_and,show (63:U64).toNat=2 ^ 6 - 1 from rfl,Nat.and_two_pow_sub_one_eq_mod];rw [UInt64.toNat_ofNat'];omega
 rw [e3]
def rotR (x : U64) (n : Nat) : U64 := x >>> UInt64.ofNat n ||| x <<< UInt64.ofNat (64 - n)
def mixW (x:U64) (a b c:Nat):U64:=rotR x a ^^^ rotR x b ^^^ rotR x c
def smallW (x:U64) (a b s:Nat):U64:=rotR x a ^^^ rotR x b ^^^ x >>>UInt64.ofNat s
def shaK:List U64:=[
 0x428a2f98d728ae22,0x7137449123ef65cd,0xb5c0fbcfec4d3b2f,0xe9b5dba58189dbbc,
 0x3956c25bf348b538,0x59f111f1b605d019,0x923f82a4af194f9b,0xab1c5ed5da6d8118,
 0xd807aa98a3030242,0x12835b0145706fbe,0x243185be4ee4b28c,0x550c7dc3d5ffb4e2,
 0x72be5d74f27b896f,0x80deb1fe3b1696b1,0x9bdc06a725c71235,0xc19bf174cf692694,
 0xe49b69c19ef14ad2,0xefbe4786384f25e3,0x0fc19dc68b8cd5b5,0x240ca1cc77ac9c65,
 0x2de92c6f592b0275,0x4a7484aa6ea6e483,0x5cb0a9dcbd41fbd4,0x76f988da831153b5,
 0x983e5152ee66dfab,0xa831c66d2db43210,0xb00327c898fb213f,0xbf597fc7beef0ee4,
 0xc6e00bf33da88fc2,0xd5a79147930aa725,0x06ca6351e003826f,0x142929670a0e6e70,
 0x27b70a8546d22ffc,0x2e1b21385c26c926,0x4d2c6dfc5ac42aed,0x53380d139d95b3df,
 0x650a73548baf63de,0x766a0abb3c77b2a8,0x81c2c92e47edaee6,0x92722c851482353b,
 0xa2bfe8a14cf10364,0xa81a664bbc423001,0xc24b8b70d0f89791,0xc76c51a30654be30,
 0xd192e819d6ef5218,0xd69906245565a910,0xf40e35855771202a,0x106aa07032bbd1b8,
 0x19a4c116b8d2d0c8,0x1e376c085141ab53,0x2748774cdf8eeb99,0x34b0bcb5e19b48a8,
 0x391c0cb3c5c95a63,0x4ed8aa4ae3418acb,0x5b9cca4f7763e373,0x682e6ff3d6b2b8a3,
 0x748f82ee5defb2fc,0x78a5636f43172f60,0x84c87814a1f0ab72,0x8cc702081a6439ec,
 0x90befffa23631e28,0xa4506cebde82bde9,0xbef9a3f7b2c67915,0xc67178f2e372532b,
 0xca273eceea26619c,0xd186b8c721c0c207,0xeada7dd6cde0eb1e,0xf57d4f7fee6ed178,
 0x06f067aa72176fba,0x0a637dc5a2c898a6,0x113f9804bef90dae,0x1b710b35131c471b,
 0x28db77f523047d84,0x32caab7b40c72493,0x3c9ebe0a15c9bebc,0x431d67c49c100d4c,
 0x4cc5d4becb3e42b6,0x597f299cfc657e2a,0x5fcb6fab3ad6faec,0x6c44198c4a475817]
def shaH:List U64:=[
 0x6a09e667f3bcc908,0xbb67ae8584caa73b,0x3c6ef372fe94f82b,0xa54ff53a5f1d36f1,
 0x510e527fade682d1,0x9b05688c2b3e6c1f,0x1f83d9abfb41bd6b,0x5be0cd19137e2179]
def beW (l : List UInt8) : U64 := l.foldl (fun n c => n <<< 8 ||| UInt64.ofNat c.toNat) 0
def schedAt (b:List UInt8) (m:List U64) (t:Nat):U64 :=
 if t<16 then beW ((b.drop (8*t)).take 8)
 else smallW (m.getD (t - 2) 0) 19 61 6+m.getD (t - 7) 0+smallW (m.getD (t - 15) 0) 1 8 7+m.getD (t - 16) 0
def sched (b:List UInt8):Nat→List U64
 |0=>[]
 |t+1=>sched b t++[schedAt b (sched b t) t]
theorem sched_len (b:List UInt8):∀ t,(sched b t).length=t
 |0=>rfl
 |t+1=>by rw [sched,List.length_append,sched_len b t];rfl
def rnd (v:List U64) (k x:U64):List U64 :=
 let a:=v.getD 0 0;let b:=v.getD 1 0;let c:=v.getD 2 0;let d:=v.getD 3 0;let e:=v.getD 4 0;let f:=v.getD 5 0;let g:=v.getD 6 0;let h:=v.getD 7 0
 let one := h + mixW e 14 18 41 + (e &&& f ^^^ ~~~e &&& g) + k + x
 let two:=mixW a 28 34 39+(a &&& b ^^^ a &&& c ^^^ b &&& c)
 [one+two,a,b,c,d+one,e,f,g]
def rnds (v:List U64) (m:List U64):Nat→List U64
 |0=>v
 |t+1=>rnd (rnds v m t) (shaK.getD t 0) (m.getD t 0)
theorem rnds_len (v m:List U64) (h:v.length=8):∀ t,(rnds v m t).length=8
 |0=>h
 |_+1=>rfl
def shaBlk (h:List U64) (b:List UInt8):List U64:=List.zipWith (·+·) h (rnds h (sched b 80) 80)
theorem shaBlk_len (h:List U64) (b:List UInt8) (hl:h.length=8):(shaBlk h b).length=8:=by
 rw [shaBlk,List.length_zipWith,rnds_len _ _ hl,hl];rfl
def feedN (h:List U64) (b:List UInt8):Nat→List U64
 |0=>h
 |n+1=>shaBlk (feedN h b n) ((b.drop (128*n)).take 128)
def feed (h:List U64) (b:List UInt8):List U64:=feedN h b (b.length / 128)
def remB (b:List UInt8):List UInt8:=b.drop (128*(b.length / 128))
theorem remB_len (b:List UInt8):(remB b).length=b.length % 128:=by rw [remB,List.length_drop];omega
theorem feedN_len (h:List U64) (b:List UInt8) (hl:h.length=8):∀ n,(feedN h b n).length=8
 |0=>hl
 |n+1=>shaBlk_len _ _ (feedN_len h b hl n)
theorem feed_len (h:List U64) (b:List UInt8) (hl:h.length=8):(feed h b).length=8:=feedN_len h b hl _
theorem feedN_app (h:List U64) (b c:List UInt8):∀ n,128*n≤b.length→feedN h (b++c) n=feedN h b n
 |0,_=>rfl
 |n+1,hn=>by
  rw [feedN,feedN,feedN_app h b c n (by omega),List.drop_append_of_le_length (by omega),List.take_append_of_le_length (by rw [List.length_drop];omega)]
theorem feedN_add (h:List U64) (b:List UInt8) (k:Nat):∀ n,feedN h b (k+n)=feedN (feedN h b k) (b.drop (128*k)) n
 |0=>rfl
 |n+1=>by
  rw [← Nat.add_assoc,feedN,feedN,feedN_add h b k n,List.drop_drop,show 128*k+128*n=128*(k+n) by omega]
theorem feed_app (h:List U64) (b c:List UInt8):feed h (b++c)=feed (feed h b) (remB b++c)∧remB (b++c)=remB (remB b++c):=by
 have hb:b.length=128*(b.length / 128)+(remB b).length:=by rw [remB_len];omega
 have e1:(b++c).length / 128=b.length / 128+(remB b++c).length / 128:=by
  rw [List.length_append,List.length_append];omega
 have e2:(b++c).drop (128*(b.length / 128))=remB b++c:=by
  rw [remB,List.drop_append_of_le_length (by omega)]
 constructor
 ·rw [feed,e1,feedN_add,e2,feedN_app h b c _ (by omega)];rfl
 ·rw [remB,e1,Nat.mul_add,← List.drop_drop,e2];rfl
theorem feed_small (h:List U64) {b:List UInt8} (hb:b.length<128):feed h b=h∧remB b=b:=by
 have:b.length / 128=0:=by omega
 constructor
 ·rw [feed,this];rfl
 ·rw [remB,this];rfl
theorem feed_blk (h:List U64) {b:List UInt8} (hb:128≤b.length):feed h b=feed (shaBlk h (b.take 128)) (b.drop 128)∧remB b=remB (b.drop 128):=by
 have e:b.length / 128=1+(b.drop 128).length / 128:=by rw [List.length_drop];omega
 constructor
 ·rw [feed,e,feedN_add];rfl
 ·rw [remB,e,Nat.mul_add,← List.drop_drop];rfl
theorem feed_zero (h:List U64) {b c:List UInt8} (hb:remB b=[]):feed h (b++c)=feed (feed h b) c∧remB (b++c)=remB c:=by
 have:=feed_app h b c
 rwa [hb,List.nil_append] at this
theorem feed_part (h:List U64) {b c:List UInt8} (hb:(remB b++c).length<128):feed h (b++c)=feed h b∧remB (b++c)=remB b++c:=by
 obtain ⟨h1,h2⟩:=feed_app h b c;obtain ⟨h3,h4⟩:=feed_small (feed h b) hb;exact ⟨h1.trans h3,h2.trans h4⟩
theorem feed_full (h:List U64) {b c:List UInt8} (hb:(remB b++c).length=128):feed h (b++c)=shaBlk (feed h b) (remB b++c)∧remB (b++c)=[]:=by
 obtain ⟨h1,h2⟩:=feed_app h b c;obtain ⟨h3,h4⟩:=feed_blk (feed h b) (b:=remB b++c) (by omega);have hd:(remB b++c).drop 128=[]:=List.drop_eq_nil_of_le (by omega);have ht:(remB b++c).take 128=remB b++c:=List.take_of_length_le (by omega);obtain ⟨h5,h6⟩:=feed_small (shaBlk (feed h b) (remB b++c)) (b:=[]) (by decide);rw [hd,ht,h5] at h3;rw [hd,h6] at h4;exact ⟨h1.trans h3,h2.trans h4⟩
def padN (n:Nat):Nat:=(239 - n % 128) % 128
def padB (n:Nat):List UInt8:=128::List.replicate (padN n) 0++List.replicate 8 0++be (8*(n:Int))
def outW (x:U64):List UInt8:=be (x.toNat:Int)
def outB (h:List U64):List UInt8:=(h.map outW).flatten
def shaSum (b:List UInt8):List UInt8:=outB (feed shaH (b++padB b.length))
theorem outB_len:∀ h:List U64,(outB h).length=8*h.length
 |[]=>rfl
 |x::h=>by
  have:=outB_len h;rw [outB,List.map_cons,List.flatten_cons,List.length_append,List.length_cons];rw [outB] at this;rw [this,outW,be_length];omega
theorem shaSum_len (b:List UInt8):(shaSum b).length=64:=by rw [shaSum,outB_len,feed_len _ _ rfl]
end Go.Sp
end
section
/- Texts of this proof, one behind the other. -/
section
/- Texts of this proof, one behind the other. -/
section
/- Texts of this proof. -/
namespace Go.Sp
def dotOk (d:DotT):Bool:=decide (1≤d.1∧d.1≤8∧1≤d.2.1∧d.2.1≤1073741824)
theorem dotOk_iff {d:DotT}:dotOk d=true↔1≤d.1∧d.1≤8∧1≤d.2.1∧d.2.1≤1073741824:=decide_eq_true_iff
def Rises (v:List DotT):Prop:=v.Pairwise fun a b=>a.1<b.1
instance (v:List DotT):Decidable (Rises v):=inferInstanceAs (Decidable (v.Pairwise fun a b=>a.1<b.1))
def vecOk (v:List DotT):Bool:=v.all dotOk && decide (Rises v)
theorem vecOk_iff {v:List DotT}:vecOk v=true↔(∀ d∈v,dotOk d=true)∧Rises v:=by
 unfold vecOk;rw [Bool.and_eq_true,List.all_eq_true,decide_eq_true_iff]
theorem vecOk_step {v:List DotT} {i:Nat} (h:i<v.length) (o:vecOk (v.take i)=true):vecOk (v.take (i+1))=true↔dotOk v[i]=true∧(∀ h0:0<i,v[i - 1].1<v[i].1):=by
 rw [vecOk_iff] at o ⊢;rw [List.take_succ_eq_append_getElem h]
 constructor
 ·rintro ⟨h1,h2⟩
  refine ⟨h1 _ (List.mem_append_right _ (List.mem_singleton.2 rfl)),fun h0=>?_⟩;have h3:=(List.pairwise_append.1 h2).2.2;exact h3 v[i - 1] (List.mem_iff_getElem.2 ⟨i - 1,by simp;omega,by simp⟩) v[i] (List.mem_singleton.2 rfl)
 ·rintro ⟨h1,h2⟩
  refine ⟨fun d hd=>?_,List.pairwise_append.2 ⟨o.2,List.pairwise_singleton ..,fun a ha b hb=>?_⟩⟩
  ·rcases List.mem_append.1 hd with hd|hd
   ·exact o.1 d hd
   ·rw [List.mem_singleton.1 hd];exact h1
  ·rw [List.mem_singleton.1 hb]
   obtain ⟨j,hj,rfl⟩:=List.mem_iff_getElem.1 ha;rw [List.length_take] at hj;rw [List.getElem_take];have h3:=h2 (by omega)
   by_cases hji:j=i - 1
   ·subst hji;exact h3
   ·have h5:=List.pairwise_iff_getElem.1 o.2 j (i - 1) (by simp;omega) (by simp;omega) (by omega)
    rw [List.getElem_take,List.getElem_take] at h5;exact Int.lt_trans h5 h3
theorem vecOk_take {v:List DotT} (i:Nat) (o:vecOk v=true):vecOk (v.take i)=true:=by
 rw [vecOk_iff] at o ⊢;exact ⟨fun d hd=>o.1 d (List.mem_of_mem_take hd),o.2.sublist (List.take_sublist ..)⟩
theorem vecOk_none {v:List DotT} {i:Nat} (h:vecOk (v.take i)=false):vecOk v=false:=by
 cases e:vecOk v with
 |false=>rfl
 |true=>rw [vecOk_take i e] at h;cases h
def hasM (v:List DotT) (d:DotT):Bool:=v.any fun x=>decide (x.1=d.1∧d.2.1≤x.2.1)
def hasR (v:List DotT) (d:DotT):Bool:=vecOk v && dotOk d && hasM v d
theorem hasM_at {v:List DotT} {d:DotT} (o:Rises v) {k:Nat} (h:k<v.length) (hk:v[k].1=d.1):hasM v d=decide (d.2.1≤v[k].2.1):=by
 unfold hasM
 by_cases e:d.2.1≤v[k].2.1
 ·rw [decide_eq_true e,List.any_eq_true]
  exact ⟨v[k],List.getElem_mem h,decide_eq_true ⟨hk,e⟩⟩
 ·rw [decide_eq_false e,List.any_eq_false]
  intro x hx
  obtain ⟨j,hj,rfl⟩:=List.mem_iff_getElem.1 hx;rw [decide_eq_true_iff];rintro ⟨h1,h2⟩
  rcases Nat.lt_trichotomy j k with h3|h3|h3
  ·have:=List.pairwise_iff_getElem.1 o j k hj h h3;omega
  ·subst h3;exact e h2
  ·have:=List.pairwise_iff_getElem.1 o k j h hj h3;omega
theorem hasM_no {v:List DotT} {d:DotT} (h:∀ i (hi:i<v.length),v[i].1≠d.1):hasM v d=false:=by
 unfold hasM;rw [List.any_eq_false]
 intro x hx
 obtain ⟨j,hj,rfl⟩:=List.mem_iff_getElem.1 hx;rw [decide_eq_true_iff];exact fun q=>h j hj q.1
theorem rises_len {v:List DotT} (h:vecOk v=true):v.length≤8:=by
 obtain ⟨h1,h2⟩:=vecOk_iff.1 h;have key:∀ i (hi:i<v.length),(i:Int)+1≤v[i].1:=by
  intro i
  induction i with
  |zero=>intro hi;have:=dotOk_iff.1 (h1 _ (List.getElem_mem hi));omega
  |succ i ih =>
   intro hi
   have a:=ih (by omega);have b:=List.pairwise_iff_getElem.1 h2 i (i+1) (by omega) hi (by omega)
   omega
 rcases Nat.lt_or_ge 8 v.length with q|q
 ·have a:=key (v.length - 1) (by omega)
  have b:=dotOk_iff.1 (h1 _ (List.getElem_mem (show v.length - 1<v.length by omega)))
  omega
 ·exact q
end Go.Sp
end
section
/- Texts of this proof. -/
namespace Go.Sp
abbrev rDot (x:RecT):DotT:=(x.2.1,x.2.2.1,())
def shaped (x:RecT):Bool:=decide (1≤x.1.length) && (decide (x.1.length≤64) && (dotOk (rDot x) && (vecOk x.2.2.2.1 && (!hasR x.2.2.2.1 (rDot x) && (decide (x.2.2.2.2.2.1.length≤1024) && (!x.2.2.2.2.1 ||decide (x.2.2.2.2.2.1.length=0)))))))
theorem shaped_iff {x:RecT}:shaped x=true↔1≤x.1.length∧x.1.length≤64∧dotOk (rDot x)=true∧vecOk x.2.2.2.1=true∧hasR x.2.2.2.1 (rDot x)=false∧x.2.2.2.2.2.1.length≤1024∧(x.2.2.2.2.1=true→x.2.2.2.2.2.1.length=0):=by
 unfold shaped;simp only [Bool.and_eq_true,decide_eq_true_eq,Bool.not_eq_true',Bool.or_eq_true];refine ⟨fun ⟨a,b,c,d,e,f,g⟩=>⟨a,b,c,d,e,f,fun h=>?_⟩,fun ⟨a,b,c,d,e,f,g⟩=>⟨a,b,c,d,e,f,?_⟩⟩
 ·rcases g with g|g
  ·rw [h] at g;cases g
  ·exact g
 ·cases h:x.2.2.2.2.1
  ·exact .inl rfl
  ·exact .inr (g h)
def recOk (x:RecT):Bool:=shaped x && decide (x.2.2.2.2.2.2.1.length=64)
theorem recOk_iff {x:RecT}:recOk x=true↔shaped x=true∧x.2.2.2.2.2.2.1.length=64:=by unfold recOk;rw [Bool.and_eq_true,decide_eq_true_iff]
def dotsB (l:List DotT):List UInt8:=(l.map fun d=>be d.1++be d.2.1).flatten
@[simp] theorem dotsB_nil:dotsB []=[]:=rfl
@[simp] theorem dotsB_cons (d:DotT) (l:List DotT):dotsB (d::l)=be d.1++(be d.2.1++dotsB l):=by simp [dotsB]
theorem dotsB_length (l:List DotT):(dotsB l).length=16*l.length:=by
 induction l with
 |nil=>rfl
 |cons d l ih=>rw [dotsB_cons];simp [ih];omega
def goneB (b:Bool):UInt8:=if b then 1 else 0
def recText (x:RecT):List UInt8:=[1]++(bytesOf x.1++(be x.2.1++(be x.2.2.1++(be x.2.2.2.1.length++(dotsB x.2.2.2.1++([goneB x.2.2.2.2.1]++bytesOf x.2.2.2.2.2.1))))))
def recB (x:RecT):List UInt8:=recText x++x.2.2.2.2.2.2.1
theorem recText_length (x:RecT):(recText x).length=42+x.1.length+16*x.2.2.2.1.length+x.2.2.2.2.2.1.length:=by simp [recText,dotsB_length];omega
theorem recText_le {x:RecT} (h:shaped x=true):(recText x).length≤1300:=by
 obtain ⟨_,h1,_,h2,_,h3,_⟩:=shaped_iff.1 h;have:=rises_len h2;rw [recText_length];omega
theorem recB_le {x:RecT} (h:recOk x=true):(recB x).length≤1400:=by
 obtain ⟨h1,h2⟩:=recOk_iff.1 h;have:=recText_le h1
 simp [recB];omega
def over (a b:RecT):Bool:=decide (a.1=b.1) && (shaped a && (shaped b && hasR a.2.2.2.1 (rDot b)))
end Go.Sp
end
end
section
/- Texts of this proof. -/
namespace Go.Sp
def cmpZ (x y:Int):Int:=if x<y then -1 else if y<x then 1 else 0
theorem cmpZ_in (x y:Int):InI64 (cmpZ x y):=by unfold cmpZ;split<;>(try split)<;>(constructor<;>omega)
theorem cmpZ_lt {x y:Int}:cmpZ x y<0↔x<y:=by unfold cmpZ;split<;>(try split)<;>omega
theorem cmpZ_eq {x y:Int}:cmpZ x y=0↔x=y:=by unfold cmpZ;split<;>(try split)<;>omega
def cmpR (a b:RecT):Int:=if cmpZ a.2.1 b.2.1≠0 then cmpZ a.2.1 b.2.1 else cmpZ a.2.2.1 b.2.2.1
theorem cmpR_in (a b:RecT):InI64 (cmpR a b):=by unfold cmpR;split<;>exact cmpZ_in _ _
theorem cmpR_eq {a b:RecT}:cmpR a b=0↔rDot a=rDot b:=by
 unfold cmpR rDot
 split
 ·rename_i h
  refine ⟨fun q=>absurd q h,fun q=>absurd (cmpZ_eq.2 (Prod.mk.inj q).1) h⟩
 ·rename_i h
  have h1:a.2.1=b.2.1:=cmpZ_eq.1 (Classical.not_not.1 h);rw [cmpZ_eq,h1];exact ⟨fun q=>by rw [q],fun q=>(Prod.mk.inj (Prod.mk.inj q).2).1⟩
theorem cmpR_lt {a b:RecT}:cmpR a b<0↔a.2.1<b.2.1∨a.2.1=b.2.1∧a.2.2.1<b.2.2.1:=by
 unfold cmpR
 split
 ·rename_i h
  have h1:a.2.1≠b.2.1:=fun q=>h (cmpZ_eq.2 q);rw [cmpZ_lt];exact ⟨.inl,fun q=>q.elim id fun q=>absurd q.1 h1⟩
 ·rename_i h
  have h1:a.2.1=b.2.1:=cmpZ_eq.1 (Classical.not_not.1 h);rw [cmpZ_lt];exact ⟨fun q=>.inr ⟨h1,q⟩,fun q=>q.elim (fun q=>absurd q (by omega)) fun q=>q.2⟩
def underR (l:List RecT) (x:RecT):Bool:=l.any fun y=>decide (cmpR x y≠0) && over y x
def oneK (l:List RecT):Bool:=l.all fun x=>recOk x && decide (x.1=(l.headD x).1)
theorem oneK_iff {l:List RecT}:oneK l=true↔∀ i (h:i<l.length),recOk l[i]=true∧l[i].1=(l[0]'(by omega)).1:=by
 unfold oneK;rw [List.all_eq_true]
 constructor
 ·intro h i hi
  have:=h l[i] (List.getElem_mem hi);rw [Bool.and_eq_true,decide_eq_true_iff] at this
  cases l with
  |nil=>cases hi
  |cons a l=>exact this
 ·intro h x hx
  obtain ⟨i,hi,rfl⟩:=List.mem_iff_getElem.1 hx;have:=h i hi;rw [Bool.and_eq_true,decide_eq_true_iff]
  cases l with
  |nil=>cases hi
  |cons a l=>exact this
theorem oneK_take {l:List RecT} (i:Nat) (h:oneK l=true):oneK (l.take i)=true:=by
 rw [oneK_iff] at h ⊢
 intro j hj
 have hj' :j<l.length:=by simp at hj;omega
 have:=h j hj';simp only [List.getElem_take];exact this
theorem oneK_snoc {l:List RecT} {x:RecT} (h:oneK l=true):oneK (l++[x])=true↔recOk x=true∧(∀ h0:0<l.length,x.1=l[0].1):=by
 rw [oneK_iff] at h ⊢
 constructor
 ·intro q
  have h1:=q l.length (by simp);rw [List.getElem_append_right (Nat.le_refl _)] at h1;simp only [Nat.sub_self,List.getElem_cons_zero] at h1;refine ⟨h1.1,fun h0=>?_⟩;rw [h1.2,List.getElem_append_left h0]
 ·rintro ⟨h1,h2⟩ j hj
  by_cases hl:j<l.length
  ·rw [List.getElem_append_left hl,List.getElem_append_left (by omega)]
   exact h j hl
  ·have hj2:j=l.length:=by simp at hj;omega
   subst hj2;rw [List.getElem_append_right (Nat.le_refl _)];simp only [Nat.sub_self,List.getElem_cons_zero];refine ⟨h1,?_⟩
   by_cases h0:0<l.length
   ·rw [List.getElem_append_left h0];exact h2 h0
   ·have:l=[]:=List.eq_nil_of_length_eq_zero (by omega)
    subst this;rfl
def SRight (l:List RecT):Prop:=oneK l=true∧∀ j (h:j<l.length),(∀ h0:0<j,cmpR l[j-1] l[j]<0)∧underR l l[j]=false
instance (l:List RecT):Decidable (SRight l):=by unfold SRight;infer_instance
def ItRp:Rp RecT:=Rp.comap (fun x=>(x,recB x,())) (Rp.prod RecRp (Rp.prod (Rp.slice Rp.u8) Rp.unit))
theorem ItRp.open {h:Fr} {cs:List Value} {x:RecT} (r:ItRp.rel h cs x):∃ cs' a c,cs=cs' ++[.slice a (recB x).length c]∧RecRp.rel h cs' x∧Arr Rp.u8 h (.slice a (recB x).length c) (recB x):=by
 obtain ⟨c1,c2,rfl,r1,c3,c4,rfl,⟨v,rfl,r2⟩,r3⟩:=r;obtain rfl:c4=[]:=r3;obtain ⟨a,c,rfl⟩:=r2.shape;exact ⟨c1,a,c,rfl,r1,r2⟩
theorem ItRp.sh {h:Fr} {cs:List Value} {x:RecT} (r:ItRp.rel h cs x):∃ a3 a5 a6 a7 c3 c5 c6 c7,cs=[.string (str x.1),.int .i64 x.2.1,.int .i64 x.2.2.1,.slice a3 x.2.2.2.1.length c3,.bool x.2.2.2.2.1,.slice a5 x.2.2.2.2.2.1.length c5,.slice a6 x.2.2.2.2.2.2.1.length c6,.slice a7 (recB x).length c7] ∧
  RecRp.rel h [.string (str x.1),.int .i64 x.2.1,.int .i64 x.2.2.1,.slice a3 x.2.2.2.1.length c3,.bool x.2.2.2.2.1,.slice a5 x.2.2.2.2.2.1.length c5,.slice a6 x.2.2.2.2.2.2.1.length c6] x∧Arr Rp.u8 h (.slice a7 (recB x).length c7) (recB x):=by
 obtain ⟨cs',a7,c7,rfl,h1,h2⟩:=ItRp.open r;obtain ⟨a3,a5,a6,c3,c5,c6,rfl,_⟩:=RecRp.sh h1;exact ⟨a3,a5,a6,a7,c3,c5,c6,c7,rfl,h1,h2⟩
theorem ItRp.mk {h:Fr} {cs:List Value} {x:RecT} {v:Value} (h1:RecRp.rel h cs x) (h2:Arr Rp.u8 h v (recB x)):ItRp.rel h (cs++[v]) x :=
 ⟨cs,[v],rfl,h1,[v],[],rfl,⟨v,rfl,h2⟩,rfl⟩
def ItO (r:Fr) (e:TypeId) (cs:List Value) (x:RecT):SProp:=fun m=>∃ cs' a c,cs=cs' ++[.slice a (recB x).length c]∧RecRp.rel r cs' x∧OwnP Rp.u8 e (.slice a (recB x).length c) (recB x) m
theorem ItO.rel {r h:Fr} {e:TypeId} {cs:List Value} {x:RecT} {m:Fr} (hr:r.sub h) (hm:m.sub h):ItO r e cs x m→ItRp.rel h cs x
 |⟨cs',a,c,h1,h2,h3⟩=>by subst h1;exact ItRp.mk (h2.mono hr) (h3.arr.mono hm)
def RowP (r:Fr) (tR tI e:TypeId) (b:Nat) (xs:List RecT):SProp:=fun m=>∃ p:(Option Addr × Nat) × List (List Value),Sat [obj b tR [.slice p.1.1 xs.length p.1.2],OwnP (Rp.cells 8) tI (.slice p.1.1 xs.length p.1.2) p.2,EachP (ItO r e) p.2 xs] m
def RowA (h:Fr) (b:Nat) (xs:List RecT):Prop:=∃ a c,At h ⟨b,0,none⟩ [.slice a xs.length c]∧Arr ItRp h (.slice a xs.length c) xs
theorem RowP.read {r h:Fr} {tR tI e:TypeId} {b:Nat} {xs:List RecT} {m:Fr} (hr:r.sub h) (hm:m.sub h):RowP r tR tI e b xs m→RowA h b xs
 |⟨p,m1,k1,_,s1,t1,y1,m2,k2,_,s2,t2,y2,m3,k3,_,s3,_,y3,_⟩=>by
  refine ⟨p.1.1,p.1.2,(obj_at y1).mono (Fr.sub_trans s1 hm),?_⟩;have ha:=y2.arr.mono (Fr.sub_trans s2 (Fr.sub_trans t1 hm));refine Arr.ofCells (k:=8) ha (EachP.all2 (fun cs a m' z q=>ItO.rel hr q z) y3 (Fr.sub_trans s3 (Fr.sub_trans t2 (Fr.sub_trans t1 hm)))) rfl
theorem RowP.nil {r:Fr} {tR tI e:TypeId} {b:Nat} {m:Fr} (x:obj b tR [.slice none 0 0] m):RowP r tR tI e b [] m :=
 ⟨((none,0),[]),m,Fr.emp,Fr.disj_symm (Fr.emp_disj _),Fr.sub_refl _,Fr.emp_sub _,x,Fr.emp,Fr.emp,Fr.emp_disj _,Fr.emp_sub _,Fr.emp_sub _,ownP_nil _,Fr.emp,Fr.emp,Fr.emp_disj _,Fr.emp_sub _,Fr.emp_sub _,trivial,trivial⟩
theorem RowA.mono {h k:Fr} (s:h.sub k) {b:Nat} {xs:List RecT}:RowA h b xs→RowA k b xs
 |⟨a,c,h1,h2⟩=>⟨a,c,h1.mono s,h2.mono s⟩
def sRows (l:List RecT):List UInt8:=(l.map fun x=>bytesOf (recB x)).flatten
def sB (l:List RecT):List UInt8:=be l.length++sRows l
theorem sRows_snoc (l:List RecT) (x:RecT):sRows (l++[x])=sRows l++bytesOf (recB x):=by simp [sRows]
theorem sRows_le (l:List RecT) (h:∀ x∈l,recOk x=true):(sRows l).length≤1408*l.length:=by
 induction l with
 |nil=>simp [sRows]
 |cons a l ih =>
  have h1:=recB_le (h a (List.mem_cons_self ..));have h2:=ih fun x hx=>h x (List.mem_cons_of_mem _ hx);simp only [sRows,List.map_cons,List.flatten_cons,List.length_append,bytesOf_length,List.length_cons] at h2 ⊢
  omega
theorem oneK_all {l:List RecT} (h:oneK l=true):∀ x∈l,recOk x=true:=fun x hx=>by
 obtain ⟨i,hi,rfl⟩:=List.mem_iff_getElem.1 hx;exact (oneK_iff.1 h i hi).1
theorem sB_le {l:List RecT} (h:oneK l=true):(sB l).length≤8+1408*l.length:=by
 have:=sRows_le l (oneK_all h)
 simp [sB];omega
end Go.Sp
end
end
end
section
/- Texts of this proof, one behind the other. -/
section
/- Texts of this proof, one behind the other. -/
section
/- Texts of this proof, one behind the other. -/
section
/- Texts of this proof, one behind the other. -/
section
/- Texts of this proof. -/
namespace Go.Sp
theorem run_loadBytes (P:Program):∀ (xs:List UInt8) (a:Addr) (acc:ByteArray) (w:World),(∀ j (h:j<xs.length),w.cell? (a.add j)=some (byteV xs[j])) →
  (Extern.Bytes.loadBytes a xs.length acc).run P w=.ok ⟨acc.data++xs.toArray⟩ w
 |[],a,acc,w,_=>by simp [Extern.Bytes.loadBytes]
 |x::xs,a,acc,w,h=>by
  have h0:=h 0 (by simp);rw [Addr.add_zero] at h0;have ih:=run_loadBytes P xs (a.add 1) (acc.push x) w fun j hj=>by
   have:=h (j+1) (by simp;omega);rw [Addr.add_add,Nat.add_comm 1 j]
   simpa using this
  have hx:(x.toNat:Int).toNat.toUInt8=x:=by simp
  simp only [List.getElem_cons_zero,byteV] at h0;simp only [List.length_cons,Extern.Bytes.loadBytes,Sem.run_bind,run_load,h0,Result.andThen,hx,ih]
  congr 2
  simp [ByteArray.push]
theorem run_bytesOf {P:Program} {h:Fr} {v:Value} {xs:List UInt8} (ha:Arr Rp.u8 h v xs) {w:World} (hw:h.sub w.fr):(Extern.Bytes.bytesOf v).run P w=.ok (str xs) w:=by
 obtain ⟨css,hc,a,cap,rfl,h1,h2,h3,h4⟩:=ha;have hcs:css.flatten=xs.map byteV:=by
  clear h3 h4 h1 h2
  induction css generalizing xs with
  |nil=>cases xs with
   |nil=>rfl
   |cons _ _=>exact hc.elim
  |cons c css ih=>cases xs with
   |nil=>exact hc.elim
   |cons x xs=>rw [List.flatten_cons,ih hc.2,show c=[byteV x] from hc.1];rfl
 cases a with
 |none =>
  have:xs=[]:=by
   cases xs with
   |nil=>rfl
   |cons x xs=>obtain ⟨p,hp,_⟩:=h4 0 (by rw [hcs];simp);cases hp
  subst this
  simp [Extern.Bytes.bytesOf];rfl
 |some a =>
  have:=run_loadBytes P xs a .empty w fun j hj=>by
   obtain ⟨p,hp,hq⟩:=h4 j (by rw [hcs];simpa using hj)
   cases hp
   have:=Fr.cell_mono hw hq;simp only [hcs,List.getElem_map] at this;exact this
  simp only [Extern.Bytes.bytesOf,this]
  congr 1
  simp [str,ByteArray.empty,ByteArray.emptyWithCapacity]
  rfl
theorem run_compareSlices {P:Program} {h:Fr} {v u:Value} {xs ys:List UInt8} (ha:Arr Rp.u8 h v xs) (hb:Arr Rp.u8 h u ys) {w:World} (hw:h.sub w.fr) :
  (Extern.BytealgCompare.compare #[v,u]).run P w=.ok (.int .i64 (Lib.compareBytes xs ys)) w:=by
 change Sem.run P (do pure (goInt (Extern.BytealgCompare.cmp (← Extern.Bytes.bytesOf v) (← Extern.Bytes.bytesOf u)))) w=_
 simp only [Sem.run_bind,run_bytesOf ha hw,run_bytesOf hb hw,Sem.run_pure,Result.andThen];rw [Lib.cmp_eq]
 rfl
section
variable {P:Program} {σ:List (Nat × Value)} {g:Gr} {η:List SProp}
theorem Does.compareExt {f : FuncId} {fn : Func} {x y z : Operand} {ts : Array TypeId} {v u : Value} {xs ys : List UInt8} (hf : P.funcs[f]? = some fn) (h1 : (fn.name == "runtime.NumGoroutine") = false) (h2 : fn.body.isNone = true) (h3 : Extern.findNext fn = none) (h4 : Extern.find fn = some Extern.BytealgCompare.compare)
  (hx:ev σ x=some (.func (.func f) #[] #[])) (hy:ev σ y=some v) (hz:ev σ z=some u) (ha:Arr Rp.u8 g.h v xs) (hb:Arr Rp.u8 g.h u ys):Does P (.call ⟨.value x,#[y,z],ts⟩) σ g η (.int .i64 (Lib.compareBytes xs ys)) η:=by
 intro o ρ w ho hk hw
 refine ⟨w,?_,hw⟩;have e1:=run_callFunc_extern (P:=P) hf h1 h2 h3 h4 #[v,u] w;rw [run_compareSlices ha hb hw.ground] at e1;simp only [Result.andThen] at e1
 simp [execOp,ho,resolve,hk x _ hx,hk y _ hy,hk z _ hz,Deferred.ofValue,invoke,e1]
end
theorem compareBytes_lt:∀ {a b:List UInt8},Lib.compareBytes a b<0↔a<b
 |[],[]=>by simp [Lib.compareBytes]
 |[],b::bs=>by simp [Lib.compareBytes]
 |a::as,[]=>by simp [Lib.compareBytes]
 |a::as,b::bs=>by
  rw [Lib.compareBytes,List.cons_lt_cons_iff]
  by_cases h:a<b
  ·simp [h]
  ·by_cases h2:b<a
   ·have:a≠b:=fun e=>by subst e;exact UInt8.lt_irrefl _ h2
    simp [h,h2,this]
   ·have e:a=b:=UInt8.le_antisymm (UInt8.not_lt.1 h2) (UInt8.not_lt.1 h)
    subst e;rw [if_neg h,if_neg h2,compareBytes_lt]
    simp [UInt8.lt_irrefl]
theorem compareBytes_in (a b:List UInt8):InI64 (Lib.compareBytes a b):=by
 have:Lib.compareBytes a b= -1∨Lib.compareBytes a b=0∨Lib.compareBytes a b=1:=by
  induction a generalizing b with
  |nil=>cases b<;>simp [Lib.compareBytes]
  |cons x a ih=>cases b with
   |nil=>simp [Lib.compareBytes]
   |cons y b =>
    rw [Lib.compareBytes]
    split
    ·simp
    ·split
     ·simp
     ·exact ih b
 rcases this with h|h|h<;>rw [h]<;>constructor<;>decide
end Go.Sp
end
section
/- Texts of this proof. -/
namespace Go.Sp
def ofBe (xs:List UInt8):Int:=s64 (beVal (xs.take 8))
theorem ofBe_in (xs:List UInt8):InI64 (ofBe xs):=s64_in _ (Nat.lt_of_lt_of_le (beVal_lt xs 8) (by decide))
def rByte (good:Bool) (rest:List UInt8):UInt8 × List UInt8 × Bool:=if good then (match rest with|[]=>(0,[],true)|x::xs=>(x,xs,false)) else (0,rest,false)
def rNum (good:Bool) (rest:List UInt8):Int × List UInt8 × Bool:=if good then (if 8≤rest.length then (ofBe rest,rest.drop 8,false) else (0,rest,true)) else (0,rest,false)
def rCount (most:Int) (good:Bool) (rest:List UInt8):Int × List UInt8 × Bool :=
 if good then (if 8≤rest.length then (if 0≤ofBe rest∧ofBe rest≤most then (ofBe rest,rest.drop 8,false) else (0,rest.drop 8,true)) else (0,rest,true)) else (0,rest,false)
def rBytes (most:Int) (good:Bool) (rest:List UInt8):List UInt8 × List UInt8 × Bool :=
 if good then (if 8≤rest.length then (if 0≤ofBe rest∧ofBe rest≤most then (if (ofBe rest).toNat≤(rest.drop 8).length then ((rest.drop 8).take (ofBe rest).toNat,(rest.drop 8).drop (ofBe rest).toNat,false) else ([],rest.drop 8,true)) else ([],rest.drop 8,true)) else ([],rest,true)) else ([],rest,false)
structure RS where
 good:Bool
 rest:List UInt8
namespace RS
def of {α:Type} (s:RS) (x:α × List UInt8 × Bool):α × RS:=(x.1,⟨s.good && !x.2.2,x.2.1⟩)
def byte (s:RS):UInt8 × RS:=s.of (rByte s.good s.rest)
def num (s:RS):Int × RS:=s.of (rNum s.good s.rest)
def count (most:Int) (s:RS):Int × RS:=s.of (rCount most s.good s.rest)
def bytes (most:Int) (s:RS):List UInt8 × RS:=s.of (rBytes most s.good s.rest)
def done (s:RS):Bool:=s.good && decide (s.rest.length=0)
theorem ofBe_be {n:Int} (h:InI64 n) (t:List UInt8):ofBe (be n++t)=n:=by
 unfold ofBe;rw [List.take_append_of_le_length (by simp),show (be n).take 8=be n from rfl,s64_be n h]
theorem be_drop (n:Int) (t:List UInt8):(be n++t).drop 8=t:=by
 rw [List.drop_append_of_le_length (by simp),show (be n).drop 8=[] from rfl,List.nil_append]
theorem byte_cons (x:UInt8) (t:List UInt8):byte ⟨true,x::t⟩=(x,⟨true,t⟩):=rfl
theorem num_be {n:Int} (h:InI64 n) (t:List UInt8):num ⟨true,be n++t⟩=(n,⟨true,t⟩):=by
 unfold num of rNum;rw [if_pos rfl,if_pos (by simp),ofBe_be h,be_drop];rfl
theorem count_be {n most:Int} (h:InI64 n) (h0:0≤n) (hm:n≤most) (t:List UInt8):count most ⟨true,be n++t⟩=(n,⟨true,t⟩):=by
 unfold count of rCount;rw [if_pos rfl,if_pos (by simp),ofBe_be h,if_pos ⟨h0,hm⟩,be_drop];rfl
theorem bytes_of {xs:List UInt8} {most:Int} (hm:(xs.length:Int)≤most) (hx:(xs.length:Int)≤9223372036854775807) (t:List UInt8):bytes most ⟨true,bytesOf xs++t⟩=(xs,⟨true,t⟩):=by
 unfold bytes of rBytes bytesOf;have h1:InI64 (xs.length:Int):=by constructor<;>omega
 rw [List.append_assoc];simp only [if_true];rw [if_pos (by simp),ofBe_be h1,if_pos ⟨by omega,hm⟩,be_drop,if_pos (by simp)]
 simp
theorem byte_len (s:RS):s.byte.2.rest.length≤s.rest.length:=by
 obtain ⟨g,r⟩:=s
 cases g<;>cases r<;>simp [byte,of,rByte]
theorem num_len (s:RS):s.num.2.rest.length≤s.rest.length:=by
 unfold num of rNum;split<;>(try split)<;>simp
theorem count_len (most:Int) (s:RS):(s.count most).2.rest.length≤s.rest.length:=by
 unfold count of rCount;split<;>(try split)<;>(try split)<;>simp
theorem bytes_len (most:Int) (s:RS):(s.bytes most).2.rest.length≤s.rest.length:=by
 unfold bytes of rBytes;split<;>(try split)<;>(try split)<;>(try split)<;>simp<;>omega
theorem bytes_out (most:Int) (s:RS):(s.bytes most).1.length≤s.rest.length:=by
 unfold bytes of rBytes;split<;>(try split)<;>(try split)<;>(try split)<;>simp<;>omega
theorem zero64:InI64 0:=⟨by decide,by decide⟩
theorem num_in (s:RS):InI64 s.num.1:=by
 unfold num of rNum;split<;>(try split)<;>first|exact ofBe_in _|exact zero64
theorem count_bd (most:Int) (s:RS) (h:0≤most):0≤(s.count most).1∧(s.count most).1≤most:=by
 unfold count of rCount;split<;>(try split)<;>(try split)<;>first|assumption|exact ⟨Int.le_refl _,h⟩
theorem done_iff {s:RS}:s.done=true↔s.good=true∧s.rest=[]:=by unfold done;simp
end RS
def byteP:Nat→RS→List UInt8 × RS
 |0,s=>([],s)
 |n+1,s=>((byteP n s).1++[(byteP n s).2.byte.1],(byteP n s).2.byte.2)
@[simp] theorem byteP_length (n:Nat) (s:RS):(byteP n s).1.length=n:=by induction n<;>simp [byteP, *]
def ArrW (v:Value) (xs:List UInt8):SProp:=fun m=>Arr Rp.u8 m v xs
def RdP (T b:Nat) (s:RS):SProp:=fun m=>∃ p:Value × Bool × Bool,(p.2.1 && !p.2.2)=s.good∧Sat [obj b T [p.1,.bool p.2.1,.bool p.2.2],ArrW p.1 s.rest] m
section
variable {P:Program} {f:FuncId} {args:Array Value} {r:Fr} {T b:Nat} {s:RS} {Q:Value→RS→List SProp→Prop} {w:World} {g:Gr} {η:List SProp}
theorem Holds.open1 {ι:Type} {F:ι→Prop} {ws:ι→List SProp} (h:Holds w g ((fun m=>∃ i,F i∧Sat (ws i) m)::η)):∃ i,F i∧Holds w g (ws i++η):=by
 obtain ⟨i,hi⟩:=Holds.exi h;obtain ⟨q1,q2,q3,k,d,s1,s2,k1,k2,kd,t1,t2,⟨h1,hx⟩,y⟩:=hi;exact ⟨i,h1,q1,q2,q3,k,d,s1,s2,Sat.mono (Fr.add_sub t1 t2) (Sat.append kd hx y)⟩
theorem RdP.fold {v:Value} {made bad:Bool} (h1:(made && !bad)=s.good) (h:Holds w g (obj b T [v,.bool made,.bool bad]::ArrW v s.rest::η)):Holds w g (RdP T b s::η) :=
 h.imp fun _ h=>Sat.join2 (A:=obj b T [v,.bool made,.bool bad]) (B:=ArrW v s.rest) (fun _ x=>⟨(v,made,bad),h1,x⟩) h
theorem Con.rd (h:∀ (m:Fr) v made bad,(made && !bad)=s.good→Arr Rp.u8 m v s.rest→Con P f args m [obj b T [v,.bool made,.bool bad]] (Ret fun u η=>∃ v' bad' s' ζ,Q u s' ζ∧(made && !bad')=s'.good∧Arr Rp.u8 m v' s'.rest∧η=obj b T [v',.bool made,.bool bad']::ζ)) :
  Con P f args r [RdP T b s] (Ret fun u η=>∃ s' ζ,Q u s' ζ∧η=RdP T b s' ::ζ):=fun g hr w hw=>by
 obtain ⟨p,h1,hw1⟩:=Holds.open1 (F:=fun p:Value × Bool × Bool=>(p.2.1 && !p.2.2)=s.good) (ws:=fun p=>[obj b T [p.1,.bool p.2.1,.bool p.2.2],ArrW p.1 s.rest]) hw;obtain ⟨k,hk,hd,hw2⟩:=Holds.freeze (hw1.perm (List.Perm.swap _ _ _));refine (h k p.1 p.2.1 p.2.2 h1 hk (g.add k) (Fr.sub_add_right hd) w hw2).mono fun e w' ⟨η',hp,hw'⟩=>?_
 cases e with
 |returned u =>
  obtain ⟨v',bad',s',ζ,hQ,h3,h4,rfl⟩:=hp;exact ⟨_,⟨s',ζ,hQ,rfl⟩,RdP.fold h3 ((hw'.thaw (A:=ArrW v' s'.rest) h4 hd).perm (List.Perm.swap _ _ _))⟩
 |panicked _=>exact hp.elim
 |outgrown=>exact hp.elim
theorem good_or {made bad f g:Bool} (h:(made && !bad)=g):(made && !(bad ||f))=(g && !f):=by subst h;cases made<;>cases bad<;>cases f<;>rfl
theorem rd_sat {e:TypeId} {v:Value} {xs:List UInt8} {m:Fr} (h:Sat (obj b T [v,.bool true,.bool false]::OwnP Rp.u8 e v xs::η) m):Sat (RdP T b ⟨true,xs⟩::η) m :=
 Sat.join2 (A:=obj b T [v,.bool true,.bool false]) (B:=ArrW v xs) (fun _ x=>⟨(v,true,false),rfl,x⟩) (Sat.cons_imp (fun _ x=>x) (fun _ y=>Sat.cons_imp (fun _ x=>x.arr) (fun _ y=>y) y) h)
end
end Go.Sp
end
end
section
/- Texts of this proof. -/
namespace Go.Sp
def dotsP:Nat→RS→List DotT × RS
 |0,s=>([],s)
 |n+1,s=>((dotsP n s).1++[((dotsP n s).2.num.1,(dotsP n s).2.num.2.num.1,())],(dotsP n s).2.num.2.num.2)
@[simp] theorem dotsP_length (n:Nat) (s:RS):(dotsP n s).1.length=n:=by induction n<;>simp [dotsP, *]
def dot64 (d:DotT):Prop:=InI64 d.1∧InI64 d.2.1
theorem dotsP_in (n:Nat) (s:RS):∀ d∈(dotsP n s).1,dot64 d:=by
 induction n with
 |zero=>intro d hd;simp [dotsP] at hd
 |succ n ih =>
  intro d hd
  simp only [dotsP,List.mem_append,List.mem_singleton] at hd
  rcases hd with hd|rfl
  ·exact ih d hd
  ·exact ⟨RS.num_in _,RS.num_in _⟩
theorem dotsP_len (n:Nat) (s:RS):(dotsP n s).2.rest.length≤s.rest.length:=by
 induction n with
 |zero=>exact Nat.le_refl _
 |succ n ih=>exact Nat.le_trans (RS.num_len _) (Nat.le_trans (RS.num_len _) ih)
theorem dotsP_be:∀ (l:List DotT) (t:List UInt8),(∀ d∈l,dot64 d)→dotsP l.length ⟨true,dotsB l++t⟩=(l,⟨true,t⟩):=by
 have key:∀ (k:Nat) (l:List DotT) (t:List UInt8),(∀ d∈l,dot64 d)→k≤l.length→dotsP k ⟨true,dotsB l++t⟩=(l.take k,⟨true,dotsB (l.drop k)++t⟩):=by
  intro k
  induction k with
  |zero=>intro l t _ _;simp [dotsP]
  |succ k ih =>
   intro l t hl hk
   have h1:=ih l t hl (by omega);have hd:l.drop k=l[k]::l.drop (k+1):=List.drop_eq_getElem_cons hk;have hq:=hl _ (List.getElem_mem (l:=l) (n:=k) (by omega));rw [dotsP,h1]
   simp only
   rw [hd,dotsB_cons,List.append_assoc,RS.num_be hq.1]
   simp only
   rw [List.append_assoc,RS.num_be hq.2,List.take_succ_eq_append_getElem hk]
 intro l t hl
 rw [key l.length l t hl (Nat.le_refl _)];simp
structure RecQ where
 kind:UInt8
 key:List UInt8
 client:Int
 seq:Int
 dots:List DotT
 gone:UInt8
 value:List UInt8
 s:RS
def recQ (b:List UInt8):RecQ :=
 let k:=(RS.mk true b).byte
 let y:=k.2.bytes 64
 let c:=y.2.num
 let q:=c.2.num
 let n:=q.2.count 8
 let d:=dotsP n.1.toNat n.2
 let g:=d.2.byte
 let v:=g.2.bytes 1024
 ⟨k.1,y.1,c.1,q.1,d.1,g.1,v.1,v.2⟩
def RecQ.make (q:RecQ) (g:Bool) (sig:List UInt8):RecT:=(q.key,q.client,q.seq,q.dots,g,q.value,sig,())
theorem vec64 {l:List DotT} (h:vecOk l=true):∀ d∈l,dot64 d:=fun d hd=>by
 have:=dotOk_iff.1 ((vecOk_iff.1 h).1 d hd);exact ⟨⟨by omega,by omega⟩,⟨by omega,by omega⟩⟩
theorem recQ_text {x:RecT} (h:shaped x=true) (t:List UInt8):recQ (recText x++t)=⟨1,x.1,x.2.1,x.2.2.1,x.2.2.2.1,goneB x.2.2.2.2.1,x.2.2.2.2.2.1,⟨true,t⟩⟩:=by
 obtain ⟨h1,h2,h3,h4,h5,h6,h7⟩:=shaped_iff.1 h;have hd:=dotOk_iff.1 h3;simp only [rDot] at hd;have hl:=rises_len h4;have i1:InI64 x.2.1:=⟨by omega,by omega⟩;have i2:InI64 x.2.2.1:=⟨by omega,by omega⟩;have i3:InI64 (x.2.2.2.1.length:Int):=⟨by omega,by omega⟩;have e0:recText x++t=(1:UInt8)::(bytesOf x.1++(be x.2.1++(be x.2.2.1++(be x.2.2.2.1.length++(dotsB x.2.2.2.1++(goneB x.2.2.2.2.1::(bytesOf x.2.2.2.2.2.1++t))))))):=by
  simp [recText]
 unfold recQ;rw [e0];simp only [RS.byte_cons];rw [RS.bytes_of (by omega) (by omega)]
 simp only
 rw [RS.num_be i1]
 simp only
 rw [RS.num_be i2]
 simp only
 rw [RS.count_be i3 (by omega) (by omega)];simp only [Int.toNat_natCast];rw [dotsP_be _ _ (vec64 h4)];simp only [RS.byte_cons];rw [RS.bytes_of (by omega) (by omega)]
noncomputable def recGet (b:List UInt8):Option RecT:=by
 classical exact if h:∃ x,recOk x=true∧recB x=b then some h.choose else none
theorem recGet_iff' {b:List UInt8} {x:RecT} (h:recGet b=some x):recOk x=true∧recB x=b:=by
 unfold recGet at h
 split at h
 ·rename_i c;cases h;exact c.choose_spec
 ·cases h
def recHd (b:List UInt8):RecQ:=recQ (b.take (b.length - 64))
def recIn (b:List UInt8):RecT:=(recHd b).make (decide ((recHd b).gone≠0)) (b.drop (b.length - 64))
theorem goneB_ne (g:Bool):decide (goneB g≠0)=g:=by cases g<;>rfl
theorem recIn_ok {x:RecT} (h:recOk x=true):recIn (recB x)=x∧(recHd (recB x)).s=⟨true,[]⟩∧64≤(recB x).length:=by
 obtain ⟨h1,h2⟩:=recOk_iff.1 h;have e1:(recB x).length - 64=(recText x).length:=by unfold recB;rw [List.length_append,h2];omega
 have e2:(recB x).take ((recB x).length - 64)=recText x:=by rw [e1];unfold recB;rw [List.take_append_of_le_length (Nat.le_refl _),List.take_length]
 have e3:(recB x).drop ((recB x).length - 64)=x.2.2.2.2.2.2.1:=by rw [e1];unfold recB;rw [List.drop_append_of_le_length (Nat.le_refl _),List.drop_length,List.nil_append]
 have e4:=recQ_text h1 [];rw [List.append_nil] at e4;refine ⟨?_,?_,?_⟩
 ·unfold recIn recHd
  rw [e2,e3,e4];simp only [RecQ.make,goneB_ne]
 ·unfold recHd;rw [e2,e4]
 ·unfold recB;rw [List.length_append,h2];omega
theorem recB_inj {x y:RecT} (hx:recOk x=true) (hy:recOk y=true) (h:recB x=recB y):x=y:=by
 rw [← (recIn_ok hx).1,h,(recIn_ok hy).1]
theorem recGet_some {x:RecT} (h:recOk x=true):recGet (recB x)=some x:=by
 cases e:recGet (recB x) with
 |some y=>obtain ⟨h1,h2⟩:=recGet_iff' e;rw [recB_inj h1 h h2]
 |none =>
  unfold recGet at e
  split at e
  ·cases e
  ·rename_i c;exact absurd ⟨x,h,rfl⟩ c
theorem recGet_iff {b:List UInt8} {x:RecT}:recGet b=some x↔recOk x=true∧recB x=b :=
 ⟨recGet_iff',fun ⟨h1,h2⟩=>by rw [← h2];exact recGet_some h1⟩
theorem recGet_none {b:List UInt8} (h:∀ x,recOk x=true→recB x≠b):recGet b=none:=by
 cases e:recGet b with
 |none=>rfl
 |some x=>exact absurd (recGet_iff' e).2 (h x (recGet_iff' e).1)
theorem recGet_short {b:List UInt8} (h:b.length<64):recGet b=none :=
 recGet_none fun x hx e=>by have:=(recIn_ok hx).2.2;rw [e] at this;omega
theorem recGet_yes {b:List UInt8} (h2:recOk (recIn b)=true) (h3:recB (recIn b)=b):recGet b=some (recIn b):=recGet_iff.2 ⟨h2,h3⟩
theorem recGet_no {b:List UInt8} (h:¬((recHd b).s.done=true∧recOk (recIn b)=true∧recB (recIn b)=b)):recGet b=none :=
 recGet_none fun x hx e=>h (by subst e;obtain ⟨h1,h2,_⟩:=recIn_ok hx;rw [h1,h2];exact ⟨rfl,hx,rfl⟩)
end Go.Sp
end
end
section
/- Texts of this proof. -/
namespace Go.Sp
variable {K:Type} [DecidableEq K] {enc:K→Value}
abbrev KEnt (K:Type):=K × Value × Nat
def kEnt {K:Type} (enc:K→Value) (x:KEnt K):MapEntry:={ key:=enc (x.1),val:=x.2.1,born:=x.2.2 }
def kEs {K:Type} (enc:K→Value) (l:List (KEnt K)):Array MapEntry:=(l.map (kEnt enc)).toArray
def getK:List (KEnt K)→K→Option Value
 |[],_=>none
 |x::l,k=>if x.1=k then some x.2.1 else getK l k
def setK:List (KEnt K)→K→Value→List (KEnt K)
 |[],_,_=>[]
 |x::l,k,v=>if x.1=k then (k,v,x.2.2)::l else x::setK l k v
def putK (l:List (KEnt K)) (c:Nat) (k:K) (v:Value):List (KEnt K):=if (getK l k).isSome then setK l k v else l++[(k,v,c)]
def clkK (l:List (KEnt K)) (c:Nat) (k:K):Nat:=if (getK l k).isSome then c else c+1
structure KeyOk (P:Program) (tk:TypeId) (enc:K→Value):Prop where
 find:∀ (k:K) (l:List (KEnt K)) (w:World),(Instr.findKey tk (enc k) (kEs enc l).toList).run P w=.ok ((getK l k).map fun v=>(l.findIdx fun x=>x.1 ==k,v)) w
 check:∀ (e:Bool) (k:K) (w:World),(Instr.checkKey e 10000 tk (enc k)).run P w=.ok () w
 same:∀ k:K,Instr.sameBits 10000 (enc k) (enc k)=true
def MapK (enc:K→Value) (b:Nat) (l:List (KEnt K)) (c:Nat):SProp:=blk b (.map (kEs enc l) c)
section
variable {ro:Option Nat} {P:Program} {fn:Func} {n:Nat} {R:Ending→World→Prop} {k:List Item} {σ:List (Nat × Value)} {D:List Deferred} {g:Gr} {η ζ θ:List SProp} {ops:Array Oper} {i d:Nat} {ls:List Nat}
 {t tk te:TypeId} {x y z:Operand} {b c:Nat} {l:List (KEnt K)} {key:K} {w:World}
theorem run_lookup_key (ht:P.underlying t=some (.map tk te)) (hk:KeyOk P tk enc) {zv:Value} (hz:(zeroValue te).run P w=.ok zv w) (hb:w.heap[b]?=some (.map (kEs enc l) c)) (ok:Bool) :
  (Instr.lookup t (.map (some b)) (enc (key)) ok).run P w=.ok (if ok then .tuple #[(getK l key).getD zv,.bool (getK l key).isSome] else (getK l key).getD zv) w:=by
 have h1:=fun e=>hk.check e key w;have h2:=hk.find key l w;simp only [Instr.lookup,Sem.run_bind,run_underlying ht,Result.andThen,MapKept.run_getObj_map hb,Sem.run_pure];rw [h1]
 simp only
 rw [h2]
 cases getK l key with
 |none=>simp [hz]
 |some v=>simp
theorem Does.lookupK {kb:Bool} {zv:Value} (ht:P.underlying t=some (.map tk te)) (hk:KeyOk P tk enc) (hz:∀ w,(zeroValue te).run P w=.ok zv w) (hx:ev σ x=some (.map (some b))) (hy:ev σ y=some (enc (key))) (hs:Sel η (MapK enc b l c) ζ) :
  Does P (.lookup t x y kb) σ g η (if kb then .tuple #[(getK l key).getD zv,.bool (getK l key).isSome] else (getK l key).getD zv) η :=
 fun o ρ w ho hkn hw=>⟨w,by
  have:=run_lookup_key (P:=P) (key:=key) ht hk (hz w) (hw.sel hs).block kb
  simp [execOp,ho,hkn x _ hx,hkn y _ hy,this],hw⟩
theorem getK_idx:∀ (l:List (KEnt K)) (k:K) (v:Value),getK l k=some v→∃ x,l[l.findIdx fun x=>x.1 ==k]?=some x∧x.1=k
 |[],_,_,h=>by cases h
 |x::l,k,v,h=>by
  by_cases e:x.1=k
  ·exact ⟨x,by simp [List.findIdx_cons,e],e⟩
  ·have e2:(x.1 ==k)=false:=by simpa using e
   rw [getK,if_neg e] at h;obtain ⟨y,h1,h2⟩:=getK_idx l k v h;exact ⟨y,by simp [List.findIdx_cons,e2,h1],h2⟩
theorem modify_setK (k:K) (v:Value):∀ (l:List (KEnt K)),(l.map (kEnt enc)).modify (l.findIdx fun x=>x.1 ==k) (fun e=>{ e with key:=enc (k),val:=v })=(setK l k v).map (kEnt enc)
 |[]=>by simp [setK]
 |x::l=>by
  by_cases e:x.1=k
  ·simp [List.findIdx_cons,e,setK,kEnt]
  ·have e2:(x.1 ==k)=false:=by simpa using e
   have ih:=modify_setK k v l
   simp [List.findIdx_cons,e2,setK,e,ih]
theorem kEs_modify (l:List (KEnt K)) (k:K) (v:Value):(kEs enc l).modify (l.findIdx fun x=>x.1 ==k) (fun e=>{ e with key:=enc (k),val:=v })=kEs enc (setK l k v):=by
 apply Array.toList_inj.1
 rw [Array.toList_modify];exact modify_setK k v l
omit [DecidableEq K] in
theorem run_setObj_mapK (o:Obj) (hb:w.heap[b]?=some (.map (kEs enc l) c)):(setObj b o).run P w=.ok () (w.putObj b o):=by
 have:=MapKept.run_setObj_map (P:=P) o hb;rw [this];rfl
theorem run_mapUpdate_key {v:Value} (ht:P.underlying t=some (.map tk te)) (hk:KeyOk P tk enc) (hb:w.heap[b]?=some (.map (kEs enc l) c)) :
  (Instr.mapUpdate t (.map (some b)) (enc (key)) v).run P w=.ok () (w.putObj b (.map (kEs enc (putK l c key v)) (clkK l c key))):=by
 have h1:=fun e=>hk.check e key w;have h2:=hk.find key l w;simp only [Instr.mapUpdate,Sem.run_bind,run_underlying ht,Result.andThen,MapKept.run_getObj_map hb];rw [h1]
 simp only
 rw [h2]
 cases hg:getK l key with
 |none =>
  simp only [Option.map_none,run_setObj_mapK _ hb,putK,clkK,hg,Option.isSome_none,Bool.false_eq_true,if_false]
  simp [kEs,kEnt]
 |some u =>
  obtain ⟨y,hy,hyk⟩:=getK_idx l key u hg;have hy2:(kEs enc l)[l.findIdx fun x=>x.1 ==key]?=some (kEnt enc y):=by simp [kEs,hy]
  have hkey:(((kEs enc l)[l.findIdx fun x=>x.1 ==key]?).map (·.key)).getD (enc (key))=enc (key):=by rw [hy2];simp [kEnt,hyk]
  have hsame:Instr.sameBits 10000 (enc (key)) (enc (key))=true:=hk.same key;simp only [Option.map_some,hkey,Instr.keyThatStays,hsame,if_true,Sem.run_bind,Sem.run_pure,Result.andThen,run_setObj_mapK _ hb,putK,clkK,hg,Option.isSome_some,kEs_modify]
omit [DecidableEq K] in
theorem DoesE.makeMapK {v:Value→List SProp→Prop} (hv:∀ b,v (.map (some b)) (MapK enc b [] 0::η)):DoesE P (.makeMap t none) σ g η v :=
 fun o ρ w ho hkn hw=>⟨_,_,_,hv w.heap.size,by simp [execOp,ho,Instr.makeMap,newObj,Sem.run];rfl,hw.alloc _⟩
omit [DecidableEq K] in
theorem DoesE.makeMapK' :DoesE P (.makeMap t none) σ g η fun v η' =>∃ b,v=.map (some b)∧η' =MapK enc b [] 0::η:=DoesE.makeMapK (enc:=enc) fun b=>⟨b,rfl,rfl⟩
theorem DoesU.mapUpdateK {v:Value} (ht:P.underlying t=some (.map tk te)) (hk:KeyOk P tk enc) (hx:ev σ x=some (.map (some b))) (hy:ev σ y=some (enc (key))) (hz:ev σ z=some v) (hs:Sel η (MapK enc b l c) ζ) :
  DoesU P (.mapUpdate t x y z) σ g η (MapK enc b (putK l c key v) (clkK l c key)::ζ) :=
 fun o ρ w ho hkn hw=>by
  have hw1:=hw.sel hs;refine ⟨_,?_,hw1.putObj _⟩;have:=run_mapUpdate_key (P:=P) (key:=key) (v:=v) ht hk hw1.block
  simp [execOp,ho,hkn x _ hx,hkn y _ hy,hkn z _ hz,this]
def WfK (l:List (KEnt K)) (c:Nat):Prop:=(l.map (·.2.2)).Nodup∧(∀ x∈l,x.2.2<c)∧(l.map (·.1)).Nodup
end
omit [DecidableEq K] in
theorem WfK.nil:WfK ([]:List (KEnt K)) 0:=⟨.nil,by simp,.nil⟩
theorem getK_none {m:List (KEnt K)} {k:K}:getK m k=none↔k ∉ m.map (·.1):=by
 induction m with
 |nil=>simp [getK]
 |cons x m ih =>
  simp only [getK,List.map_cons,List.mem_cons]
  split
  ·rename_i h;subst h;simp
  ·rename_i h;rw [ih];constructor
   ·rintro h1 (h2|h2)
    ·exact h h2.symm
    ·exact h1 h2
   ·exact fun h1 h2=>h1 (.inr h2)
theorem setK_keys (k:K) (v:Value):∀ m:List (KEnt K),(setK m k v).map (·.1)=m.map (·.1)∧(setK m k v).map (·.2.2)=m.map (·.2.2)
 |[]=>⟨rfl,rfl⟩
 |x::m=>by
  have ih:=setK_keys k v m;simp only [setK]
  split
  ·rename_i h;simp [h]
  ·simp [ih.1,ih.2]
theorem getK_set (k:K) (v:Value) (j:K):∀ m:List (KEnt K),getK (setK m k v) j=if j=k then (getK m k).map fun _=>v else getK m j
 |[]=>by simp [setK,getK]
 |x::m=>by
  have ih:=getK_set k v j m;simp only [setK]
  by_cases e:x.1=k
  ·rw [if_pos e]
   simp only [getK]
   by_cases e2:j=k
   ·subst e2;simp [e]
   ·rw [if_neg (fun h=>e2 h.symm),if_neg e2,if_neg (fun h=>e2 (h.symm.trans e))]
  ·rw [if_neg e]
   simp only [getK]
   by_cases e2:j=k
   ·subst e2;rw [if_neg e,if_pos rfl,if_neg e,ih,if_pos rfl]
   ·rw [if_neg e2,ih,if_neg e2]
theorem getK_append (m:List (KEnt K)) (k:K) (v:Value) (c:Nat) (j:K) (h:getK m k=none):getK (m++[(k,v,c)]) j=if j=k then some v else getK m j:=by
 induction m with
 |nil =>
  simp only [List.nil_append,getK]
  by_cases e:j=k
  ·subst e;rw [if_pos rfl]
  ·rw [if_neg (fun q=>e q.symm),if_neg e]
 |cons x m ih =>
  simp only [getK] at h ⊢
  split at h
  ·cases h
  ·rename_i e
   simp only [List.cons_append,getK]
   by_cases e2:j=k
   ·subst e2;rw [if_neg e,ih h];simp
   ·by_cases e3:x.1=j
    ·rw [if_pos e3,if_neg e2,if_pos e3]
    ·rw [if_neg e3,ih h,if_neg e2,if_neg e2,if_neg e3]
theorem getK_put (m:List (KEnt K)) (c:Nat) (k:K) (v:Value) (j:K):getK (putK m c k v) j=if j=k then some v else getK m j:=by
 unfold putK
 split
 ·rename_i h
  rw [getK_set]
  split
  ·cases hg:getK m k with
   |none=>rw [hg] at h;cases h
   |some u=>rfl
  ·rfl
 ·rename_i h
  exact getK_append m k v c j (by simpa using h)
theorem putK_wf {m:List (KEnt K)} {c:Nat} (h:WfK m c) (k:K) (v:Value):WfK (putK m c k v) (clkK m c k):=by
 unfold putK clkK
 split
 ·rename_i hs
  obtain ⟨h1,h2⟩:=setK_keys k v m;refine ⟨by rw [h2];exact h.1,fun x hx=>?_,by rw [h1];exact h.2.2⟩;have:x.2.2∈(setK m k v).map (·.2.2):=List.mem_map.2 ⟨x,hx,rfl⟩;rw [h2] at this;obtain ⟨y,hy,e⟩:=List.mem_map.1 this;have:=h.2.1 y hy
  omega
 ·rename_i hs
  have hn:getK m k=none:=by simpa using hs
  refine ⟨?_,fun x hx=>?_,?_⟩
  ·rw [List.map_append,List.nodup_append]
   refine ⟨h.1,by simp,fun a ha b hb=>?_⟩;obtain ⟨y,hy,rfl⟩:=List.mem_map.1 ha;have:=h.2.1 y hy
   simp at hb;subst hb;omega
  ·rcases List.mem_append.1 hx with hx|hx
   ·have:=h.2.1 x hx;omega
   ·simp at hx;subst hx;simp
  ·rw [List.map_append,List.nodup_append]
   refine ⟨h.2.2,by simp,fun a ha b hb=>?_⟩
   simp at hb;subst hb
   intro e;subst e
   exact getK_none.1 hn ha
section
variable {ro:Option Nat} {P:Program} {fn:Func} {n:Nat} {R:Ending→World→Prop} {k:List Item} {σ:List (Nat × Value)} {D:List Deferred} {g:Gr} {η ζ θ:List SProp} {ops:Array Oper} {i d:Nat} {ls:List Nat}
 {t tk te:TypeId} {x y z:Operand} {b c c' :Nat} {l:List (KEnt K)} {key:K} {w:World} {v zv:Value}
theorem ODg.mapUpdateK {fl:Bool} {j:Nat} {l' :List Nat} (ho:opAtU ops j=some (.mapUpdate t x y z)) (hd:hdOk fl ops j l' =true) (ht:P.underlying t=some (.map tk te)) (hk:KeyOk P tk enc) (hx:ev σ x=some (.map (some b))) (hy:ev σ y=some (enc key)) (hz:ev σ z=some v) (hs:Sel η (MapK enc b l c) ζ)
  (h:OD P fn n R ops k D g l' σ (MapK enc b (putK l c key v) (clkK l c key)::ζ)):ODx P fn n R ops k D g fl (j::l') σ η :=
 ODx.perm hs.perm (ODg.loudU (η:=MapK enc b l c::ζ) (η' :=MapK enc b (putK l c key v) (clkK l c key)::ζ) ho rfl hd (fun _=>.mapUpdateK ht hk hx hy hz Sel.here) h)
theorem OD.mapUpdateK {j:Nat} {l' :List Nat} (ho:opAtU ops j=some (.mapUpdate t x y z)) (hd:descOk ops [j] l' =true) (ht:P.underlying t=some (.map tk te)) (hk:KeyOk P tk enc) (hx:ev σ x=some (.map (some b))) (hy:ev σ y=some (enc key)) (hz:ev σ z=some v) (hs:Sel η (MapK enc b l c) ζ)
  (h:OD P fn n R ops k D g l' σ (MapK enc b (putK l c key v) (clkK l c key)::ζ)):OD P fn n R ops k D g (j::l') σ η:=ODg.mapUpdateK (fl:=false) ho (by simpa [hdOk] using hd) ht hk hx hy hz hs h
end
def encS (k:List UInt8):Value:=.string (str k)
theorem findNow_keyS (k:List UInt8):∀ (l:List (KEnt (List UInt8))) (i:Nat),Instr.findNow .string (encS k) (l.map (kEnt encS)) i=some ((getK l k).map fun v=>(i+(l.findIdx fun x=>@BEq.beq _ instBEqOfDecidableEq x.1 k),v))
 |[],_=>rfl
 |x::l,i=>by
  have ih:=findNow_keyS k l (i+1);simp only [List.map_cons,Instr.findNow,kEnt,encS,Instr.sameNow] at ih ⊢
  by_cases h:x.1=k
  ·subst h;simp [getK,str_beq,List.findIdx_cons]
  ·have hne:(str k ==str x.1)=false:=by
    rw [str_beq];exact decide_eq_false fun e=>h e.symm
   rw [hne]
   simp only
   rw [ih];have h2:(@BEq.beq _ instBEqOfDecidableEq x.1 k)=false:=by simpa using h
   simp only [getK,if_neg h,List.findIdx_cons,h2]
   cases getK l k with
   |none=>rfl
   |some v=>simp;omega
theorem keyOkS {P:Program} {tk:TypeId} (hk:P.underlying tk=some .string):KeyOk P tk encS where
 find k l w:=by
  have h:=findNow_keyS k l 0;simp only [kEs,Instr.findKey,Sem.run_bind,run_underlying hk,Result.andThen,h,Nat.zero_add,Sem.run_pure]
 check e k w:=run_checkKey_str hk e 9999
 same k:=by
  show (str k ==str k)=true
  rw [str_beq];simp
end Go.Sp
end
end
section
/- Texts of this proof, one behind the other. -/
section
/- Texts of this proof, one behind the other. -/
section
/- Texts of this proof. -/
namespace Go.Sp
def LoadsAs (P:Program) (ty:TypeId) (cs:List Value) (v:Value):Prop:=∀ (w:World) (b:Nat),(∀ j u,cs[j]?=some u→w.cell? ⟨b,j,none⟩=some u)→(loadVar ty ⟨b,0,none⟩).run P w=.ok v w
theorem LoadsAs.flat {P:Program} {ty:TypeId} {v:Value} (h:flat1 P ty=true):LoadsAs P ty [v] v:=fun w b hc=>by
 simp [loadVar,run_isAgg_flat (flat1_flat h),hc 0 v rfl]
theorem LoadsAs.agg {P:Program} {ty:TypeId} {cs:List Value} (h:∀ w,(isAgg ty).run P w=.ok true w) (hs:(P.info? ty).map (·.size)=some cs.length):LoadsAs P ty cs (.agg cs.toArray):=fun w b hc=>by
 have hr:=run_loadCells_list (P:=P) w ⟨b,0,none⟩ cs fun j v hj=>by rw [add_lit,Nat.zero_add];exact hc j v hj
 simp [loadVar,h,run_sizeOf hs,hr]
section
variable {P:Program} {fn:Func} {n:Nat} {R:Ending→World→Prop} {k:List Item} {σ:List (Nat × Value)} {D:List Deferred} {g:Gr} {η ζ θ:List SProp} {f:FuncId}
theorem Holds.obj_cells {w:World} {b:Nat} {T:TypeId} {cs:List Value} (h:Holds w g (obj b T cs::η)):∀ j u,cs[j]?=some u→w.cell? ⟨b,j,none⟩=some u:=fun _ _ hj=>h.obj_cell hj
def DPost2 (P:Program) (g:Gr) (b1 b2:Nat) (t1 t2:TypeId) (R:Ending→World→Prop) (e:Ending) (u:FrameMode) (w:World):Prop :=
 (∃ v,e=.returned v)∧settle u=.returning∧∃ T1 T2 cs1 cs2 v1 v2 η,Holds w g (obj b1 T1 cs1::obj b2 T2 cs2::η)∧LoadsAs P t1 cs1 v1∧LoadsAs P t2 cs2 v2∧R (.returned (.tuple #[v1,v2])) w
theorem results_two {a:Act} {w:World} {s1 s2 b1 b2:Nat} {t1 t2 T1 T2:TypeId} {cs1 cs2:List Value} {v1 v2:Value} (hr:fn.results=#[.cell s1 t1,.cell s2 t2]) (hf:Fits a n σ) (hl1:look σ s1=some (.pointer (some ⟨b1,0,none⟩))) (hl2:look σ s2=some (.pointer (some ⟨b2,0,none⟩)))
  (hw:Holds w g (obj b1 T1 cs1::obj b2 T2 cs2::η)) (h1:LoadsAs P t1 cs1 v1) (h2:LoadsAs P t2 cs2 v2):(results fn a.tmps).run P w=.ok (.tuple #[v1,v2]) w:=by
 have e1:=h1 w b1 hw.obj_cells;have e2:=h2 w b2 (hw.drop).obj_cells;have l1:=hf.2 s1 _ hl1;have l2:=hf.2 s2 _ hl2
 simp [results,hr,Array.getD_eq_getD_getElem?,l1,l2,asAddr,e1,e2]
theorem leavesCell2 {a:Act} {w:World} {u:FrameMode} {s1 s2 b1 b2:Nat} {t1 t2:TypeId} {cap args:Array Value} (hr:fn.results=#[.cell s1 t1,.cell s2 t2]) (hf:Fits a n σ) (hl1:look σ s1=some (.pointer (some ⟨b1,0,none⟩))) (hl2:look σ s2=some (.pointer (some ⟨b2,0,none⟩)))
  (hu:u≠.run) (hc:callable P f=true) (hcall:CallsD P f (args++cap) u w (DPost2 P g b1 b2 t1 t2 R)):Lv P fn a.tmps R [⟨.fn (.func f) cap,args⟩] u w:=by
 refine Lv.of (leaves_cons hu (by simp [invoke,run_callFunc hc]) (hcall.mono ?_));rintro e u' w' ⟨⟨v,rfl⟩,hs,T1,T2,cs1,cs2,v1,v2,η',hw,h1,h2,hR⟩
 show Leaves P fn a.tmps R [] (settle u') w'
 rw [hs];exact ⟨_,results_two hr hf hl1 hl2 hw h1 h2,hR⟩
theorem S.retCellT {s1 s2 b1:Nat} {t1 T1:TypeId} {cs1:List Value} {v1 v2:Value} (hr:fn.results=#[.cell s1 t1,.tmp s2]) (hl1:look σ s1=some (.pointer (some ⟨b1,0,none⟩))) (hl2:look σ s2=some v2)
  (s:Sel η (obj b1 T1 cs1) ζ) (h1:LoadsAs P t1 cs1 v1) (h:∀ w,Holds w g (obj b1 T1 cs1::ζ)→R (.returned (.tuple #[v1,v2])) w):S none P fn n R (.code .ret::k) σ [] g η:=by
 refine S.retL fun a w hf hd hw=>?_;have hw' :=hw.sel s;refine ⟨.tuple #[v1,v2],?_,h w hw'⟩;have e1:=h1 w b1 hw'.obj_cells;have l1:=hf.2 s1 _ hl1;have l2:=hf.2 s2 _ hl2
 simp [results,hr,Array.getD_eq_getD_getElem?,l1,l2,asAddr,e1]
end
def errP (t:TypeId) (z:Int):List PanicEntry:=[{ v:=.iface t (.int .i64 z),recovered:=false }]
end Go.Sp
end
section
/- Texts of this proof, one behind the other. -/
section
/- Texts of this proof, one behind the other. -/
section
/- Texts of this proof. -/
namespace Go.Sp
section
variable {P:Program} {σ:List (Nat × Value)} {g:Gr} {η:List SProp} {t ti u:TypeId} {x y:Operand} {a b c d:Int} {f0 f1:Field}
end
theorem str_eqL {a b:List UInt8} (h:(str a).toList=(str b).toList):a=b:=by simpa using h
set_option synthInstance.maxSize 2000
set_option synthInstance.maxHeartbeats 400000
instance decDot:DecidableEq DotT:=inferInstance
instance decRec:DecidableEq RecT:=inferInstance
instance decLeaf:DecidableEq LeafT:=inferInstance
instance decStub:DecidableEq StubT:=inferInstance
instance decNode:DecidableEq NodeT:=inferInstance
instance decPrf:DecidableEq PrfT:=inferInstance
instance decRoot:DecidableEq RootT:=inferInstance
instance decEvd:DecidableEq EvdT:=inferInstance
instance decHeld:DecidableEq HeldT:=inferInstance
end Go.Sp
end
section
/- Texts of this proof. -/
namespace Go.Sp
theorem Does.geqS {P:Program} {σ:List (Nat × Value)} {g:Gr} {η:List SProp} {t u:TypeId} {x y:Operand} {a b:ByteArray} (hx:ev σ x=some (.string a)) (hy:ev σ y=some (.string b)) :
  Does P (.binOp .geq t x y u) σ g η (.bool !(Op.bytesLess a.toList b.toList)) η :=
 .run fun o ρ w ho hk=>by simp [execOp,ho,hk x _ hx,hk y _ hy,eqGuard,Go.binOp,Op.stringOp]
theorem geqS_eq (x y:List UInt8):(!Op.bytesLess (str x).toList (str y).toList)=decide (¬ x<y):=by rw [lssS_eq,decide_not]
end Go.Sp
end
end
section
/- Texts of this proof. -/
namespace Go.Sp
section
variable {ro:Option Nat} {P:Program} {fn:Func} {n:Nat} {R:Ending→World→Prop} {k:List Item} {σ:List (Nat × Value)} {D:List Deferred} {g:Gr} {η ζ:List SProp} {ops:Array Oper} {t e e' :TypeId} {x:Operand} {v:Value} {xs:List UInt8}
theorem Does.toE {op:Op} {η' :List SProp} {u:Value} (h:Does P op σ g η u η'):DoesE P op σ g η fun v η'' =>v=u∧η'' =η' :=
 fun o ρ w h1 h2 h3=>let ⟨w',a,b⟩:=h o ρ w h1 h2 h3;⟨u,w',η',⟨rfl,rfl⟩,a,b⟩
theorem DoesE.toStrO {t2:TypeId} (ht:P.underlying t=some (.slice e)) (he:P.underlying e=some (.int .u8)) (ht2:P.underlying t2=some .string) (hx:ev σ x=some v) :
  DoesE P (.convert t t2 x) σ g (OwnP Rp.u8 e' v xs::η) fun u η' =>∃ η₁,(u=.string (str xs)∧η₁=η)∧η' =OwnP Rp.u8 e' v xs::η₁ :=
 DoesE.borrow fun m hm hd=>Does.toE (Does.toStr (g:=g.add m) ht he ht2 hx (hm.arr.right hd))
theorem ODg.toStrO {fl:Bool} {i d:Nat} {t2:TypeId} {l:List Nat} (ho:Fires ops i n σ d (.convert t t2 x)) (hd:hdOk fl ops i l=true) (ht:P.underlying t=some (.slice e)) (he:P.underlying e=some (.int .u8)) (ht2:P.underlying t2=some .string) (hx:ev σ x=some v)
  (hs:Sel η (OwnP Rp.u8 e' v xs) ζ) (h:OD P fn n R ops k D g l ((d,.string (str xs))::σ) η):ODx P fn n R ops k D g fl (i::l) σ η :=
 ODx.perm hs.perm (ODg.loudE (η:=OwnP Rp.u8 e' v xs::ζ) (K:=fun u η' =>u=.string (str xs)∧η' =OwnP Rp.u8 e' v xs::ζ) ho rfl hd
  (fun θ=>(DoesE.toStrO (η:=ζ++θ) ht he ht2 hx).imp fun _ _ ⟨_,⟨a,b⟩,c⟩=>⟨_,⟨a,rfl⟩,by rw [c,b];rfl⟩) (by rintro _ _ ⟨rfl,rfl⟩;exact ODx.perm hs.perm.symm h))
theorem OD.toStrO {i d:Nat} {t2:TypeId} {l:List Nat} (ho:Fires ops i n σ d (.convert t t2 x)) (hd:descOk ops [i] l=true) (ht:P.underlying t=some (.slice e)) (he:P.underlying e=some (.int .u8)) (ht2:P.underlying t2=some .string) (hx:ev σ x=some v)
  (hs:Sel η (OwnP Rp.u8 e' v xs) ζ) (h:OD P fn n R ops k D g l ((d,.string (str xs))::σ) η):OD P fn n R ops k D g (i::l) σ η:=ODg.toStrO (fl:=false) ho (by simpa [hdOk] using hd) ht he ht2 hx hs h
theorem ODt.toStrO {i d:Nat} {t2:TypeId} {l:List Nat} (ho:Fires ops i n σ d (.convert t t2 x)) (_:true=true) (ht:P.underlying t=some (.slice e)) (he:P.underlying e=some (.int .u8)) (ht2:P.underlying t2=some .string) (hx:ev σ x=some v)
  (hs:Sel η (OwnP Rp.u8 e' v xs) ζ) (h:OD P fn n R ops k D g l ((d,.string (str xs))::σ) η):ODx P fn n R ops k D g true (i::l) σ η:=ODg.toStrO (fl:=true) ho rfl ht he ht2 hx hs h
end
end Go.Sp
end
end
end
section
/- Texts of this proof, one behind the other. -/
section
/- Texts of this proof. -/
namespace Go.Sp
def w64s (l:List U64):List Value:=l.map w64
@[simp] theorem w64s_length (l:List U64):(w64s l).length=l.length:=by simp [w64s]
theorem w64s_get {l:List U64} {j:Nat} (h:j<l.length):(w64s l)[j]?=some (w64 (l.getD j 0)):=by
 simp [w64s,h,List.getD_eq_getElem?_getD]
theorem w64s_set (l:List U64) (j:Nat) (x:U64):(w64s l).set j (w64 x)=w64s (l.set j x):=by simp [w64s,List.map_set]
theorem w64s_one (l:List U64):∀ v∈w64s l,v.oneCell' =true:=fun v hv=>by
 obtain ⟨x,_,rfl⟩:=List.mem_map.1 hv;rfl
theorem w64s_all (l:List U64):(w64s l).all (·.oneCell')=true:=List.all_eq_true.2 (w64s_one l)
section
variable {P:Program} {σ:List (Nat × Value)} {g:Gr} {η ζ:List SProp} {t e:TypeId} {x y:Operand}
theorem Does.indexArr {kd:IntKind} {zi:Int} {j len:Nat} {cs:Array Value} {v:Value} (ht:P.underlying t=some (.array len e)) (he:(P.info? e).map (·.size)=some 1) (hf:flat1 P e=true) (hx:ev σ x=some (.agg cs)) (hy:ev σ y=some (.int kd zi)) (hz:zi=(j:Int)) (hj:j<len) (hv:cs[j]?=some v) :
  Does P (.index t x y) σ g η v η:=.run fun o ρ w ho hk=>by
 subst hz
 simp [execOp,ho,hk x _ hx,hk y _ hy,Instr.index,part,asIntOf,run_underlying ht,hj,run_sizeOf he,run_isAgg_flat (flat1_flat hf),hv]
theorem Does.sliceArrFrom {kd:IntKind} {z:Int} {a len b:Nat} (ht:P.underlying t=some (.array len e)) (he:(P.info? e).map (·.size)=some 1) (hx:ev σ x=some (.pointer (some ⟨b,0,none⟩))) (hy:ev σ y=some (.int kd z)) (hz:z=(a:Int)) (ha:a<len) (h0:0<a) :
  Does P (.slice t x (some y) none none) σ g η (.slice (some ⟨b,a,none⟩) (len - a) (len - a)) η:=.run fun o ρ w ho hk=>by
 subst hz;have h1:a≤len:=by omega
 have h2:¬ len=a:=by omega
 have h3:¬ a=0:=by omega
 simp [execOp,ho,hk x _ hx,hk y _ hy,Instr.sliceAt,Instr.sureAddr,Instr.sliceBounds,Instr.sliceBound,asIntOf,run_underlying ht,h1,h2,run_sizeOf he,Addr.add,h3]
theorem Does.sliceArrTo {kd:IntKind} {z:Int} {a len b:Nat} (ht:P.underlying t=some (.array len e)) (he:(P.info? e).map (·.size)=some 1) (hx:ev σ x=some (.pointer (some ⟨b,0,none⟩))) (hy:ev σ y=some (.int kd z)) (hz:z=(a:Int)) (ha:a≤len) (h0:0<len) :
  Does P (.slice t x none (some y) none) σ g η (.slice (some ⟨b,0,none⟩) a len) η:=.run fun o ρ w ho hk=>by
 subst hz;have h2:¬ len=0:=by omega
 simp [execOp,ho,hk x _ hx,hk y _ hy,Instr.sliceAt,Instr.sureAddr,Instr.sliceBounds,Instr.sliceBound,asIntOf,run_underlying ht,ha,h2,run_sizeOf he,Addr.add]
theorem DoesE.copyObj {T te:TypeId} {b i j m n c n' c' :Nat} {cs:List Value} (ht:P.underlying t=some (.slice e)) (he:(P.info? e).map (·.size)=some 1) (hx:ev σ x=some (.slice (some ⟨b,i,none⟩) n c)) (hy:ev σ y=some (.slice (some ⟨b,j,none⟩) n' c')) (hs:Sel η (obj b T cs) ζ)
  (hm:m=min n' n) (h1:i+m≤cs.length) (h2:j+m≤cs.length) (hone:∀ v∈cs,v.oneCell' =true) :
  DoesE P (.call ⟨.builtin .copy,#[x,y],#[t,te]⟩) σ g η fun v η' =>v=.int .i64 (m:Int)∧η' =obj b T (cs.take i++(cs.drop j).take m++cs.drop (i+m))::ζ :=
 fun o ρ w ho hk hw=>by
  have hw1:=hw.sel hs;have hlen:((cs.drop j).take m).length=m:=by simp;omega
  have hr:=run_loadCells_list (P:=P) w ⟨b,j,none⟩ ((cs.drop j).take m) fun q v hq=>by
   rw [add_lit];refine hw1.obj_cell ?_;have hql:q<((cs.drop j).take m).length:=(List.getElem?_eq_some_iff.1 hq).1;rw [List.getElem?_take_of_lt (by omega),List.getElem?_drop] at hq;exact hq
  rw [hlen] at hr;have hst:=run_storeCells_at P b i T ((cs.drop j).take m) 0 cs.toArray w hw1.block (by simp;omega) (by
   intro v hv
   exact hone v (List.mem_of_mem_drop (List.mem_of_mem_take hv)))
  simp only [Nat.add_zero,hlen] at hst;refine ⟨_,w.setRow b (cs.take i++(cs.drop j).take m++cs.drop (i+m)).toArray,_,⟨rfl,rfl⟩,?_,hw1.setRow⟩;have hmin:Nat.min n' n=m:=hm.symm
  simp [execOp,ho,hk x _ hx,hk y _ hy,resolve,invoke,builtin,Builtin.copy_,run_underlying ht,Builtin.lenOf,Builtin.firstCells,run_sizeOf he,hmin,hr,hst,goInt]
variable {fn:Func} {n:Nat} {R:Ending→World→Prop} {k:List Item} {D:List Deferred} {ops:Array Oper}
theorem OD.copyObj {q d:Nat} {l:List Nat} {T te:TypeId} {b i j m n1 c n' c' :Nat} {cs:List Value} (ho:Fires ops q n σ d (.call ⟨.builtin .copy,#[x,y],#[t,te]⟩)) (hd:descOk ops [q] l=true) (ht:P.underlying t=some (.slice e)) (he:(P.info? e).map (·.size)=some 1) (hx:ev σ x=some (.slice (some ⟨b,i,none⟩) n1 c))
  (hy:ev σ y=some (.slice (some ⟨b,j,none⟩) n' c')) (hs:Sel η (obj b T cs) ζ) (hm:m=min n' n1) (h1:i+m≤cs.length) (h2:j+m≤cs.length) (hone:∀ v∈cs,v.oneCell' =true)
  (h:OD P fn n R ops k D g l ((d,.int .i64 (m:Int))::σ) (obj b T (cs.take i++(cs.drop j).take m++cs.drop (i+m))::ζ)):OD P fn n R ops k D g (q::l) σ η :=
 ODx.perm hs.perm (ODg.loudE (fl:=false) (η:=obj b T cs::ζ) (K:=fun u η' =>u=.int .i64 (m:Int)∧η' =obj b T (cs.take i++(cs.drop j).take m++cs.drop (i+m))::ζ) ho rfl (by simpa [hdOk] using hd)
  (fun θ=>(DoesE.copyObj (ζ:=ζ++θ) ht he hx hy .here hm h1 h2 hone).imp fun _ _ ⟨a,b⟩=>⟨_,⟨a,rfl⟩,by rw [b];rfl⟩) (by rintro _ _ ⟨rfl,rfl⟩;exact h))
end
def schM (b:List UInt8) (t:Nat):List U64:=sched b t++List.replicate (80 - t) 0
theorem schM_len {b:List UInt8} {t:Nat} (h:t≤80):(schM b t).length=80:=by simp [schM,sched_len];omega
theorem schM_80 (b:List UInt8):schM b 80=sched b 80:=by simp [schM]
theorem schM_put {b:List UInt8} {t:Nat} (h:t<80) (x:U64):(schM b t).set t x=sched b t++x::List.replicate (79 - t) 0:=by
 have hl:=sched_len b t;rw [schM,List.set_append_right _ _ (by omega),hl,Nat.sub_self,show 80 - t=(79 - t)+1 by omega,List.replicate_succ,List.set_cons_zero]
theorem schM_zero {b:List UInt8} {t:Nat} (h:t<80):(schM b t).set t 0=schM b t:=by
 rw [schM_put h,schM,show 80 - t=(79 - t)+1 by omega,List.replicate_succ]
theorem schM_set {b:List UInt8} {t:Nat} (h:t<80):(schM b t).set t (schedAt b (sched b t) t)=schM b (t+1):=by
 rw [schM_put h,schM,sched,List.append_assoc,List.singleton_append,show 80 - (t+1)=79 - t by omega]
theorem schM_get {b:List UInt8} {t i:Nat} (h:i<t):(schM b t).getD i 0=(sched b t).getD i 0:=by
 have hl:=sched_len b t;rw [List.getD_eq_getElem?_getD,List.getD_eq_getElem?_getD,schM,List.getElem?_append_left (by omega)]
theorem getD_set_self {l:List U64} {t:Nat} {x:U64} (h:t<l.length):(l.set t x).getD t 0=x:=by simp [List.getD_eq_getElem?_getD,h]
theorem beW_take {l : List UInt8} {j : Nat} (h : j < l.length) : beW (l.take (j + 1)) = beW (l.take j) <<< 8 ||| UInt64.ofNat l[j].toNat := by
 unfold beW;rw [List.take_succ_eq_append_getElem h,List.foldl_append];rfl
theorem w_u8 (c:UInt8):IntKind.u64.wrap (c.toNat:Int)=((UInt64.ofNat c.toNat).toNat:Int):=by
 have:=c.toNat_lt;rw [wrapN (by omega),UInt64.toNat_ofNat'];omega
theorem list8 {l:List U64} (h:l.length=8):∃ a b c d e f g i,l=[a,b,c,d,e,f,g,i]:=by
 match l,h with
 |[a,b,c,d,e,f,g,i],_=>exact ⟨a,b,c,d,e,f,g,i,rfl⟩
def addT (v u:List U64) (i:Nat):List U64:=(List.zipWith (·+·) v u).take i++v.drop i
theorem addT_len {v u:List U64} (hv:v.length=8) (hu:u.length=8) {i:Nat} (h:i≤8):(addT v u i).length=8:=by simp [addT,hv,hu];omega
theorem addT_8 {v u:List U64} (hv:v.length=8) (hu:u.length=8):addT v u 8=List.zipWith (·+·) v u:=by
 rw [addT,List.drop_eq_nil_of_le (by omega),List.append_nil,List.take_of_length_le (by simp [hv,hu])]
theorem addT_get {v u:List U64} (hv:v.length=8) (hu:u.length=8) {i:Nat} (h:i<8):(addT v u i).getD i 0=v.getD i 0:=by
 have hl:((List.zipWith (·+·) v u).take i).length=i:=by simp [hv,hu];omega
 rw [List.getD_eq_getElem?_getD,List.getD_eq_getElem?_getD,addT,List.getElem?_append_right (by omega),hl,Nat.sub_self,List.getElem?_drop,Nat.add_zero]
theorem addT_set {v u:List U64} (hv:v.length=8) (hu:u.length=8) {i:Nat} (h:i<8):(addT v u i).set i (v.getD i 0+u.getD i 0)=addT v u (i+1):=by
 have hl:((List.zipWith (·+·) v u).take i).length=i:=by simp [hv,hu];omega
 have hz:i<(List.zipWith (·+·) v u).length:=by simp [hv,hu];omega
 have e1:v.drop i=v[i]::v.drop (i+1):=List.drop_eq_getElem_cons (by omega);rw [addT,List.set_append_right _ _ (by omega),hl,Nat.sub_self,e1,List.set_cons_zero,addT,List.take_succ_eq_append_getElem hz,List.append_assoc,List.singleton_append,List.getElem_zipWith]
 simp [List.getD_eq_getElem?_getD,hv,hu,h]
end Go.Sp
end
section
/- Texts of this proof. -/
namespace Go.Sp
theorem laidVars_mem {P:Program} {w:World} {n:String} {d:DataW Unit}:∀ {l:List (String × DataW Unit)} {ps:List MemPlace},DataW.LaidVars P w l ps→(n,d)∈l →
  ∃ g t cs fuel p,P.globalNamed n=some g∧(P.globals[g]?).map (·.type)=some t∧w.var? P n=some cs∧DataW.trod (fun _=>()) P w 0 (fun _=>true) false fuel t cs.toList=some (d,p)
 |[],_,_,hm=>by cases hm
 |(n',d')::r,ps,h,hm=>by
  obtain ⟨g,t,cs,fuel,p,q,e1,e2,e3,e4,hr,_⟩:=h
  rcases List.mem_cons.1 hm with hm|hm
  ·cases hm;exact ⟨g,t,cs,fuel,p,e1,e2,e3,e4⟩
  ·exact laidVars_mem hr hm
theorem laid_at {P:Program} {w:World} {l:List (String × DataW Unit)} {n:String} {vs:List U64} {g t e:Nat} (h:laidMetH P l w) (hm:(n,DataW.agg (vs.map fun x=>.lit (.int .u64 (x.toNat:Int))))∈l) (hg:P.globalNamed n=some g)
  (ht:(P.globals[g]?).map (·.type)=some t) (hu:P.underlying t=some (.array vs.length e)) (he:P.underlying e=some (.int .u64)) (hc:P.cellsOf e=1) (hct:P.cellsOf t=vs.length):At w.fr ⟨g,0,none⟩ (w64s vs):=by
 obtain ⟨ps,hl,_⟩:=(laidMetH_iff.1 h).1;obtain ⟨g',t',cs,fuel,p,e1,e2,e3,e4⟩:=laidVars_mem hl (List.mem_filter.2 ⟨hm,rfl⟩);rw [hg] at e1;obtain rfl:=Option.some.inj e1;rw [ht] at e2;obtain rfl:=Option.some.inj e2;obtain ⟨xs,m,_,hx,hlen,hxl,hi⟩:=DataW.trod_array hu e4;have hx1:=(Prod.mk.inj hx).1
 injection hx1 with hx1
 have hcs:cs.toList=w64s vs:=by
  refine List.ext_getElem (by rw [hlen,hct,w64s_length]) fun i h1 h2=>?_;have h2' :i<vs.length:=by simpa using h2
  have hq:=hi i h2';rw [hc,Nat.mul_one] at hq;have hxi:xs[i]?=some xs[i]:=List.getElem?_eq_getElem (by omega);rw [hxi] at hq;obtain ⟨z,hz,hz2,_⟩:=DataW.trod_int he hq;have h3:(xs[i]).1=.lit (.int .u64 z):=by rw [hz2]
  have h4:=congrArg (fun l:List (DataW Unit)=>l[i]?) hx1;simp only [List.getElem?_map,hxi,List.getElem?_eq_getElem h2',Option.map_some,Option.some.injEq] at h4;rw [h3] at h4
  injection h4 with h4
  injection h4 with _ h4
  have h5:cs.toList[i]=.int .u64 z:=by
   have:(cs.toList.drop i).take 1=[cs.toList[i]]:=by rw [List.drop_eq_getElem_cons h1];rfl
   rw [this] at hz;exact (List.cons.inj hz).1
  rw [h5,← h4]
  simp [w64s,w64]
 intro j hj
 rw [fr_cell,← List.getElem?_eq_getElem hj,← hcs];unfold World.var? at e3;rw [hg] at e3;simp only [Option.bind_some] at e3;have e0:(Addr.mk g 0 none).add j=⟨g,j,none⟩:=by rw [add_lit,Nat.zero_add]
 rw [e0];unfold World.cell?
 simp only
 split at e3
 ·rename_i cs' _ _ hh
  obtain rfl:=Option.some.inj e3
  simp [hh]
 ·cases e3
end Go.Sp
end
end
end
end
