/- Texts of this proof. -/
import Derived.Test.YtojafegjlahajaaGreatDoorQTrim2
import Derived.Test.YtojafegjlahajaaGreatDoorQSpClone
open Go Go.Sp Go.Proofs.Tryz
set_option maxRecDepth 100000
set_option maxHeartbeats 1000000
attribute [local irreducible] obj Own OwnP
namespace Go.Proofs.YtojafegjlahajaaGreatDoor
theorem pre_dec {s p:List UInt8}:decide ((str (s.take p.length)).toList=(str p).toList)=p.isPrefixOf s:=by
 by_cases h:p <+:s
 ·rw [List.isPrefixOf_iff_prefix.2 h]
  exact decide_eq_true (by rw [← List.prefix_iff_eq_take.1 h])
 ·rw [Bool.eq_false_iff.2 fun q=>h (List.isPrefixOf_iff_prefix.1 q)]
  exact decide_eq_false fun q=>h (List.prefix_iff_eq_take.2 (str_eqL q).symm)
theorem pre_short {s p:List UInt8} (h:¬ p.length≤s.length):p.isPrefixOf s=false:=Bool.eq_false_iff.2 fun q=>h (List.isPrefixOf_iff_prefix.1 q).length_le
theorem hasPre_c {r:Fr} {s p:List UInt8} (hs:s.length≤9223372036854775807) (hp:p.length≤9223372036854775807):Con prog 162 #[.string (str s),.string (str p)] r [] (Ret fun v η=>v=.bool (p.isPrefixOf s)∧η=[]):=by
 refine Con.of (n:=18) _ rfl func162 rfl rfl rfl fun g hg R hR=>?_
 by_cases h1:p.length≤s.length
 ·
  refine S.seq<|S.region rfl<|O.q 1 rfl<|O.nil<|S.seq<|S.region rfl<|O.q 1 rfl<|O.op (.p rfl) (.lenS rfl underlying9 rfl)<|O.q 1 rfl<|O.op (.p rfl) (.lenS rfl underlying9 rfl)<|O.op (.p rfl) (.geq rfl rfl)<|O.sT 9 rfl (by exact decide_eq_true zK) ?_;refine O.q 3 rfl<|O.op (.g rfl rfl) (.lenS rfl underlying9 rfl)<|O.slot 13 (v' :=.int .i64 (p.length:Int)) rfl zI ?_;refine O.strTo (b:=p.length) (.g rfl rfl) underlying9 rfl rfl (show _=(((p.length):Nat):Int) by omega) zG ?_;refine O.q 1 rfl<|O.op (.g rfl rfl) (.eqlS rfl rfl)<|O.slot 16 (v' :=.bool (p.isPrefixOf s)) rfl (by exact congrArg Value.bool pre_dec) ?_;refine O.q 2 rfl<|O.nil ?_;exact S.rt results162 rfl hR ⟨rfl,rfl⟩
 ·have e:=pre_short h1
  refine S.seq<|S.region rfl<|O.q 1 rfl<|O.nil<|S.seq<|S.region rfl<|O.q 1 rfl<|O.op (.p rfl) (.lenS rfl underlying9 rfl)<|O.q 1 rfl<|O.op (.p rfl) (.lenS rfl underlying9 rfl)<|O.op (.p rfl) (.geq rfl rfl)<|O.sF 9 rfl (by exact decide_eq_false zK) ?_;refine O.q 9 rfl<|O.nil ?_;exact S.rt results162 rfl hR ⟨congrArg Value.bool e.symm,rfl⟩
theorem hasPrefix_c {r:Fr} {s p:List UInt8} (hs:s.length≤9223372036854775807) (hp:p.length≤9223372036854775807):Con prog 93 #[.string (str s),.string (str p)] r [] (Ret fun v η=>v=.bool (p.isPrefixOf s)∧η=[]):=by
 refine Con.of (n:=8) _ rfl func93 rfl rfl rfl fun g hg R hR=>?_;refine S.seq<|S.region rfl<|O.q 1 rfl<|O.nil<|S.seq<|S.region rfl<|O.q 2 rfl<|O.call0 (.p rfl) rfl zC rfl rfl ((hasPre_c zG zG)) ?_;rintro _ _ ⟨rfl,rfl⟩
 try simp only [zx1,zx2,zx3]
 refine O.q 1 rfl<|O.nil ?_;exact S.rt results93 rfl hR ⟨rfl,rfl⟩
theorem lClone_c {r:Fr} {s:List UInt8} (hs:s.length≤100000000000):Con prog 160 #[.string (str s)] r [] (Ret fun v η=>v=.string (str s)∧η=[]):=by
 refine Con.of (n:=18) _ rfl func160 rfl rfl rfl fun g hg R hR=>?_
 by_cases h0:s.length=0
 ·have e:s=[]:=List.eq_nil_of_length_eq_zero h0
  refine S.seq<|S.region rfl<|O.q 1 rfl<|O.nil<|S.seq<|S.seq<|S.region rfl<|O.q 1 rfl<|O.op (.p rfl) (.lenS rfl underlying9 rfl)<|O.op (.p rfl) (.eql rfl rfl)<|O.sT 6 rfl (by exact decide_eq_true zK) ?_;refine O.nil<|S.condT rfl<|S.seq<|S.region rfl<|O.q 1 rfl<|O.nil ?_;exact S.rt results160 rfl hR ⟨by rw [e];rfl,rfl⟩
 ·
  refine S.seq<|S.region rfl<|O.q 1 rfl<|O.nil<|S.seq<|S.seq<|S.region rfl<|O.q 1 rfl<|O.op (.p rfl) (.lenS rfl underlying9 rfl)<|O.op (.p rfl) (.eql rfl rfl)<|O.sF 6 rfl (by exact decide_eq_false (by intro q;simp at q;exact h0 (by simp [q]))) ?_;refine O.nil<|S.condF rfl<|S.skip<|S.seq<|S.region rfl<|O.q 1 rfl<|O.op (.p rfl) (.lenS rfl underlying9 rfl)<|O.slot 8 (v' :=.int .i64 (s.length:Int)) rfl zI ?_;refine O.opE (.p rfl) (.makeP (T:=Rp.u8) 0 (m:=s.length) underlying24 elem5 zF rfl rfl rfl rfl rfl zB zB) ?_;rintro _ _ ⟨a9,c9,rfl,rfl⟩;refine O.q 1 rfl<|O.nil<|S.seq<|S.region rfl<|O.q 2 rfl<|O.opE (.p rfl) (.copyStr (s:=s) underlying24 size5 rfl rfl zD rfl zI zB) ?_;rintro _ _ ⟨rfl,rfl⟩;refine O.nil<|S.seq<|S.region rfl<|O.q 1 rfl<|O.opE (.p rfl) (.idxOwn (T:=Rp.u8) underlying24 size5 rfl rfl (show _=(((0):Nat):Int) by omega) zD zT) ?_;rintro _ _ ⟨p14,rfl,hp14,rfl⟩;refine O.q 1 rfl<|O.op (.p rfl) (.len rfl underlying24 rfl)<|O.opE (.p rfl) (.unsafeStr (n:=s.length) underlying239 zC rfl hp14 rfl zD rfl zB) ?_;rintro _ _ ⟨rfl,rfl⟩;refine O.q 1 rfl<|O.nil ?_;exact S.rt results160 rfl hR ⟨rfl,rfl⟩
theorem sClone_c {r:Fr} {s:List UInt8} (hs:s.length≤100000000000):Con prog 91 #[.string (str s)] r [] (Ret fun v η=>v=.string (str s)∧η=[]):=by
 refine Con.of (n:=5) _ rfl func91 rfl rfl rfl fun g hg R hR=>?_;refine S.seq<|S.region rfl<|O.q 1 rfl<|O.nil<|S.seq<|S.region rfl<|O.q 1 rfl<|O.call0 (.p rfl) rfl zC rfl rfl ((lClone_c zG)) ?_;rintro _ _ ⟨rfl,rfl⟩
 try simp only [zx1,zx2,zx3]
 refine O.q 1 rfl<|O.nil ?_;exact S.rt results91 rfl hR ⟨rfl,rfl⟩
theorem mpath_c {r:Fr} {s:List UInt8} (hl:s.length≤9223372036854775807):Con prog 94 #[.string (str s)] r [] (Ret fun v η=>v=.bool (decide (pathOk s))∧η=[]):=by
 refine Con.of (n:=11) _ rfl func94 rfl rfl rfl fun g hg R hR=>?_
 by_cases h1:s.length≤510
 ·by_cases h2:∀ c∈s,c=48∨c=49
  ·have e:decide (pathOk s)=true:=decide_eq_true ⟨h1,h2⟩
   refine S.seq<|S.region rfl<|O.q 1 rfl<|O.nil<|S.seq<|S.region rfl<|O.q 1 rfl<|O.op (.p rfl) (.lenS rfl underlying9 rfl)<|O.op (.p rfl) (.leq rfl rfl)<|O.sT 5 rfl (by exact decide_eq_true zK) ?_;refine O.q 2 rfl<|O.call0 (.g rfl rfl) rfl zC rfl rfl ((trim_c zB)) ?_;rintro v8 _ ⟨t,rfl,ht,rfl⟩
   try simp only [zx1,zx2,zx3]
   refine O.op (.g rfl rfl) (.eqlS rfl rfl)<|O.sT 9 rfl (by rw [ht.2 h2];simp) ?_;refine O.q 2 rfl<|O.nil ?_;exact S.rt results94 rfl hR ⟨congrArg Value.bool e.symm,rfl⟩
  ·have e:decide (pathOk s)=false:=decide_eq_false fun w=>h2 w.2
   refine S.seq<|S.region rfl<|O.q 1 rfl<|O.nil<|S.seq<|S.region rfl<|O.q 1 rfl<|O.op (.p rfl) (.lenS rfl underlying9 rfl)<|O.op (.p rfl) (.leq rfl rfl)<|O.sT 5 rfl (by exact decide_eq_true zK) ?_;refine O.q 2 rfl<|O.call0 (.g rfl rfl) rfl zC rfl rfl ((trim_c zB)) ?_;rintro v8 _ ⟨t,rfl,ht,rfl⟩
   try simp only [zx1,zx2,zx3]
   refine O.op (.g rfl rfl) (.eqlS rfl rfl)<|O.sF 9 rfl (by exact decide_eq_false (fun q=>h2 (ht.1 (str_eqL q)))) ?_;refine O.q 2 rfl<|O.nil ?_;exact S.rt results94 rfl hR ⟨congrArg Value.bool e.symm,rfl⟩
 ·have e:decide (pathOk s)=false:=decide_eq_false fun w=>h1 w.1
  refine S.seq<|S.region rfl<|O.q 1 rfl<|O.nil<|S.seq<|S.region rfl<|O.q 1 rfl<|O.op (.p rfl) (.lenS rfl underlying9 rfl)<|O.op (.p rfl) (.leq rfl rfl)<|O.sF 5 rfl (by exact decide_eq_false zK) ?_;refine O.q 6 rfl<|O.nil ?_;exact S.rt results94 rfl hR ⟨congrArg Value.bool e.symm,rfl⟩
theorem there_yes {r:Fr} {b s:Nat} {L:List LeafT} (h:TreeA r b s L):Con prog 87 #[.pointer (some ⟨b,0,none⟩)] r [] (Ret fun v η=>v=.bool true∧η=[]):=by
 obtain ⟨aL,cL,aW,cW,mid,h,_,_⟩:=h;refine Con.of (n:=12) _ rfl func87 rfl rfl rfl fun g hg R hR=>?_;have h:=h.mono hg;refine S.seq<|S.region rfl<|O.q 1 rfl<|O.nil<|S.seq<|S.region rfl<|O.q 1 rfl<|O.op (.p rfl) (.neqP underlying42 rfl rfl)<|O.sT 4 rfl zP ?_;refine O.q 2 rfl<|O.op (.g rfl rfl) (.nilCheck rfl)<|O.op (.g rfl rfl) (.fieldAddr fld77x2 rfl)<|O.op (.g rfl rfl) (.loadAt flat75 rfl (h.drop 3) rfl) ?_;refine O.op (.g rfl rfl) (.neqM underlying75 rfl rfl)<|O.sT 10 rfl zP ?_;refine O.q 2 rfl<|O.nil ?_;exact S.rt results87 rfl hR ⟨rfl,rfl⟩
theorem all_c {r:Fr} {b s:Nat} {L:List LeafT} (h:TreeA r b s L) (hl:L.length≤10000000):Con prog 98 #[.pointer (some ⟨b,0,none⟩)] r [] (Ret fun v η=>∃ a c,v=.slice a L.length c∧η=[OwnP Rp.nat 3 (.slice a L.length c) (List.range L.length)]):=by
 obtain ⟨aL,cL,aW,cW,mid,h,hL,_⟩:=h;have hb:=hL.bound;refine Con.of (n:=22) _ rfl func98 rfl rfl rfl fun g hg R hR=>?_;have h:=h.mono hg;have hL:=hL.mono hg;refine S.seq<|S.region rfl<|O.q 1 rfl<|O.nil<|S.seq<|S.region rfl<|O.q 1 rfl<|O.op (.p rfl) (.nilCheck rfl)<|O.op (.p rfl) (.fieldAddr fld74x0 rfl)<|O.op (.p rfl) (.loadAt flat25 rfl h rfl) ?_;refine O.op (.p rfl) (.len rfl underlying25 rfl)<|O.opE (.p rfl) (.makeP (T:=Rp.nat) 0 (m:=L.length) underlying104 elem3 zF ⟨rfl,(⟨by decide,by decide⟩:InI64 ((0:Nat):Int))⟩ rfl rfl rfl rfl zB zB) ?_;rintro _ _ ⟨a10,c10,rfl,rfl⟩;refine O.q 1 rfl<|O.nil<|S.seq<|S.seq<|S.region rfl<|O.q 1 rfl<|O.op (.p rfl) (.len rfl underlying104 rfl)<|O.q 1 rfl<|O.nil<|S.block<|S.ownIs (T:=Rp.nat) (e:=3) (v' :=.slice a10 L.length c10) (xs' :=List.range 0++List.replicate (L.length - 0) 0) zD rfl zI ?_;refine S.loopK (ι:=Nat) (fun i=>i≤L.length) (fun i=>[(13,.int .i64 (i:Int))]) [(3,_),(12,_)] (fun i=>[OwnP Rp.nat 3 (.slice a10 L.length c10) (List.range i++List.replicate (L.length - i) 0)]) (fun i=>L.length - i) (0) zI (.cons rfl (.nil)) (.cons rfl (.cons rfl (.nil))) rfl fun i hx ih=>?_;have hm1:=meltRefl (g:=g);refine S.seq<|S.region rfl<|O.op (.p rfl) (.lss rfl rfl)<|O.nil (S.seq ?_)
 first|refine S.condD rfl (fun h14=>?_) (fun h14=>?_)|refine S.condB rfl (fun h14=>?_) (fun h14=>?_)
 ·have hi:i<L.length:=by omega
  have e:(List.range i++List.replicate (L.length - i) 0).set i i=List.range (i+1)++List.replicate (L.length - (i+1)) 0:=by
   rw [show L.length - i=(L.length - (i+1))+1 by omega,List.replicate_succ,List.set_append_right _ _ zI,List.range_succ]
   simp
  refine S.skip<|S.seq<|S.block<|S.seq<|S.region rfl<|O.q 2 rfl<|O.nil<|S.region rfl<|O.q 3 rfl<|O.opE (.p rfl) (.idxOwn (T:=Rp.nat) underlying104 size3 rfl rfl (show _=(((i):Nat):Int) by omega) zD zT) ?_;rintro _ _ ⟨p19,rfl,hp19,rfl⟩;refine O.opU rfl (.storeOwn size3 rfl hp19 rfl zD zT (by exact ⟨rfl,(⟨by omega,by omega⟩:InI64 ((i:Nat):Int))⟩:Rp.rel _ _ _ (i))) ?_;refine O.nil<|S.inBlock<|S.region rfl<|O.op (.p rfl) (.add rfl rfl (IntWalk.i64_in _ zB))<|O.q 1 rfl<|O.nil ?_;rw [e];exact S.wk (ih (i+1) zB zB)
 ·clear ih
  have hi:i=L.length:=by omega
  subst hi;rw [Nat.sub_self,List.replicate_zero,List.append_nil];refine S.exit rfl<|S.seq<|S.region rfl<|O.q 2 rfl<|O.nil ?_;exact S.rt results98 rfl hR ⟨a10,c10,rfl,rfl⟩
theorem under_c {r:Fr} {b s:Nat} {L:List LeafT} {p:List UInt8} {va:Value} {a:List Nat} (h:TreeA r b s L) (ha:Arr Rp.nat r va a) (hat:∀ i∈a,i<L.length) (hp:p.length≤9223372036854775807) (hal:a.length≤10000000) :
  Con prog 97 #[.pointer (some ⟨b,0,none⟩),.string (str p),va] r [] (Ret fun v η=>∃ a1 c1,v=.slice a1 (underI L p a).length c1∧η=[OwnP Rp.nat 3 (.slice a1 (underI L p a).length c1) (underI L p a)]):=by
 obtain ⟨aL,cL,aW,cW,mid,h,hL,hW⟩:=h;have hbd:=ha.bound;obtain ⟨a1,c1,rfl⟩:=ha.shape;refine Con.of (n:=31) _ rfl func97 rfl rfl rfl fun g hg R hR=>?_;have h:=h.mono hg;have hL:=hL.mono hg;have hW:=hW.mono hg;have ha:=ha.mono hg;refine S.addNil (T:=Rp.nat) (e:=3) ?_;refine S.seq<|S.region rfl<|O.q 1 rfl<|O.nil<|S.seq<|S.region rfl<|O.q 1 rfl<|O.nil<|S.seq<|S.seq<|S.region rfl<|O.q 1 rfl<|O.op (.p rfl) (.len rfl underlying104 rfl)<|O.q 1 rfl<|O.nil<|S.block<|S.loopK2 (ι:=Nat) (κ:=Option Addr × Nat) (fun k u=>k≤a.length) (fun k u=>[(12,.int .i64 (k:Int)),(7,.slice u.1 (underI L p (a.take k)).length u.2)]) [(0,_),(1,_),(10,_),(11,_)] (fun k u=>[OwnP Rp.nat 3 (.slice u.1 (underI L p (a.take k)).length u.2) (underI L p (a.take k))]) (fun k u=>a.length - k) (0) ((none,0)) zI (.cons rfl (.cons rfl (.nil))) (.cons rfl (.cons rfl (.cons rfl (.cons rfl (.nil))))) rfl fun k u hx ih=>?_;have hm1:=meltRefl (g:=g);refine S.seq<|S.region rfl<|O.op (.p rfl) (.lss rfl rfl)<|O.nil (S.seq ?_)
 first|refine S.condD rfl (fun h13=>?_) (fun h13=>?_)|refine S.condB rfl (fun h13=>?_) (fun h13=>?_)
 ·have hk:k<a.length:=by omega
  have hi:=hat _ (List.getElem_mem hk);have hsn:=underI_snoc (L:=L) (p:=p) hk hat;have hul:=underI_len L p (a.take k);have htl:(a.take k).length≤k:=by simp;omega
  have hml:(L.map fun x=>wayOf x.1).length=L.length:=List.length_map ..;have hi64:InI64 ((a[k]:Nat):Int):=⟨by omega,by have:=hL.bound;omega⟩
  by_cases q:p.isPrefixOf (wayOf (L[a[k]]'hi).1)=true
  ·rw [if_pos q] at hsn
   refine S.skip<|S.seq<|S.block<|S.seq<|S.region rfl<|O.ia (.p rfl) underlying104 size3 rfl rfl rfl (by first|assumption|exact Arr.mono hg zE|exact Arr.left zE|exact Arr.left (Arr.mono hg zE)) (h:=fun p14 cs14 hp14 hr14=>?_);obtain ⟨rfl,hz14⟩:=hr14;refine O.op (.p rfl) (.loadAt flat3 rfl hp14 rfl) ?_;refine O.slot 15 (v' :=.int .i64 ((a[k]:Nat):Int)) rfl zP ?_;refine O.q 1 rfl<|O.nil<|S.seq<|S.region rfl<|O.q 1 rfl<|O.op (.p rfl) (.nilCheck rfl)<|O.op (.p rfl) (.fieldAddr fld74x1 rfl)<|O.op (.p rfl) (.loadAt flat53 rfl (h.drop 1) rfl) ?_;refine O.q 1 rfl<|O.ia (.p rfl) underlying53 size9 rfl rfl (show _=(((a[k]):Nat):Int) by omega) (by first|assumption|exact Arr.mono hg zE|exact Arr.left zE|exact Arr.left (Arr.mono hg zE)) (h:=fun p21 cs21 hp21 hr21=>?_);obtain ⟨rfl,hz21⟩:=hr21;refine O.op (.p rfl) (.loadAt flat9 rfl hp21 rfl) ?_;refine O.slot 22 (v' :=.string (str (wayOf (L[a[k]]'hi).1))) rfl (by rw [List.getElem_map]) ?_;refine O.q 1 rfl<|O.call0 (.p rfl) rfl zC rfl rfl ((hasPrefix_c zI hp)) ?_;rintro _ _ ⟨rfl,rfl⟩
   try simp only [zx1,zx2,zx3]
   refine O.sT 24 rfl (by exact q) ?_;refine O.nil<|S.condT rfl<|S.region rfl<|O.q 2 rfl<|O.opE (.p rfl) (.litP (T:=Rp.nat) (ys:=[a[k]]) underlying104 elem3 zF rfl rfl ⟨⟨rfl,hi64⟩,trivial⟩ zF) ?_;rintro _ _ ⟨a27,c27,rfl,rfl⟩;refine O.opE (.p rfl) (.appendO (T:=Rp.nat) underlying104 elem3 zF rfl rfl zD zD zG zG) ?_;rintro _ _ ⟨a28,c28,rfl,rfl⟩;refine O.q 1 rfl<|O.nil<|S.inBlock<|S.region rfl<|O.op (.p rfl) (.add rfl rfl (IntWalk.i64_in _ zB))<|O.q 1 rfl<|O.nil ?_;rw [← hsn];rw [show (underI L p (a.take k)).length+[a[k]].length=(underI L p (a.take (k+1))).length from by rw [hsn];simp];exact S.pw (ih (k+1) ((a28,c28)) zB zB)
  ·rw [if_neg q] at hsn
   refine S.skip<|S.seq<|S.block<|S.seq<|S.region rfl<|O.ia (.p rfl) underlying104 size3 rfl rfl rfl (by first|assumption|exact Arr.mono hg zE|exact Arr.left zE|exact Arr.left (Arr.mono hg zE)) (h:=fun p14 cs14 hp14 hr14=>?_);obtain ⟨rfl,hz14⟩:=hr14;refine O.op (.p rfl) (.loadAt flat3 rfl hp14 rfl) ?_;refine O.slot 15 (v' :=.int .i64 ((a[k]:Nat):Int)) rfl zP ?_;refine O.q 1 rfl<|O.nil<|S.seq<|S.region rfl<|O.q 1 rfl<|O.op (.p rfl) (.nilCheck rfl)<|O.op (.p rfl) (.fieldAddr fld74x1 rfl)<|O.op (.p rfl) (.loadAt flat53 rfl (h.drop 1) rfl) ?_;refine O.q 1 rfl<|O.ia (.p rfl) underlying53 size9 rfl rfl (show _=(((a[k]):Nat):Int) by omega) (by first|assumption|exact Arr.mono hg zE|exact Arr.left zE|exact Arr.left (Arr.mono hg zE)) (h:=fun p21 cs21 hp21 hr21=>?_);obtain ⟨rfl,hz21⟩:=hr21;refine O.op (.p rfl) (.loadAt flat9 rfl hp21 rfl) ?_;refine O.slot 22 (v' :=.string (str (wayOf (L[a[k]]'hi).1))) rfl (by rw [List.getElem_map]) ?_;refine O.q 1 rfl<|O.call0 (.p rfl) rfl zC rfl rfl ((hasPrefix_c zI hp)) ?_;rintro _ _ ⟨rfl,rfl⟩
   try simp only [zx1,zx2,zx3]
   refine O.sF 24 rfl (by exact Bool.eq_false_iff.2 q) ?_;refine O.nil<|S.condF rfl<|S.skip<|S.inBlock<|S.region rfl<|O.op (.p rfl) (.add rfl rfl (IntWalk.i64_in _ zB))<|O.q 1 rfl<|O.nil ?_;rw [← hsn];exact S.pw (ih (k+1) (u) zB zB)
 ·clear ih
  have hk:k=a.length:=by omega
  subst hk;rw [List.take_length];refine S.exit rfl<|S.seq<|S.region rfl<|O.q 2 rfl<|O.nil ?_;exact S.rt results97 rfl hR ⟨u.1,u.2,rfl,rfl⟩
end Go.Proofs.YtojafegjlahajaaGreatDoor
