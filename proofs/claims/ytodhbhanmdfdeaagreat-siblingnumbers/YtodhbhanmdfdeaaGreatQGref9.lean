/- Texts of this proof. -/
import Derived.Test.YtodhbhanmdfdeaaGreatQRef8b
open Go Go.Sp Go.Proofs.Tryz
set_option maxRecDepth 100000
set_option maxHeartbeats 1000000
attribute [local irreducible] obj Own OwnP
namespace Go.Proofs.YtodhbhanmdfdeaaGreat
def recZ:RecT:=([],0,0,[],false,[],[],())
noncomputable def recO (b:List UInt8):RecT:=(recGet b).getD recZ
noncomputable def recE (b:List UInt8):Int:=if (recGet b).isSome then 0 else 4
theorem r8get_c {r:Fr} {va:Value} {b:List UInt8} (ha:Arr Rp.u8 r va b) (hl:b.length≤1000000000) :
  Con prog 135 #[va] r [] (Ret fun v η=>∃ a3 c3 a5 c5 a6 c6,v=.tuple #[.agg (recV (recO b) (.slice a3 (recO b).2.2.2.1.length c3) (.slice a5 (recO b).2.2.2.2.2.1.length c5) (.slice a6 (recO b).2.2.2.2.2.2.1.length c6)).toArray,.int .i64 (recE b)]∧η=recWs (recO b) (.slice a3 (recO b).2.2.2.1.length c3) (.slice a5 (recO b).2.2.2.2.2.1.length c5) (.slice a6 (recO b).2.2.2.2.2.2.1.length c6)):=by
 refine Con.o func135 fun g hg R hR=>?_;have ha:=ha.mono hg;have hbd:=ha.bound;obtain ⟨a1,c1,rfl⟩:=ha.shape;refine S.seq<|S.region rfl<|O.opE (.p rfl) (.alloc (cs:=[.string ⟨#[]⟩,.int .i64 0,.int .i64 0,.slice none 0 0,.bool false,.slice none 0 0,.slice none 0 0]) zeroValue74 rfl) ?_;rintro _ _ ⟨b2,rfl,rfl⟩;refine zz 5 ?_;refine O.call0 (.p rfl) rfl zC rfl rfl (rfNew_c zA zI) ?_;rintro _ _ ⟨b16,rfl,rfl⟩;refine zz 4 ?_;refine O.opE (.p rfl) (.alloc (cs:=[.string ⟨#[]⟩,.int .i64 0,.int .i64 0,.slice none 0 0,.bool false,.slice none 0 0,.slice none 0 0]) zeroValue74 rfl) ?_;rintro _ _ ⟨b5,rfl,rfl⟩;refine zz 4 ?_;refine O.vS (.p rfl) rfl zC rfl rfl zB rfByte_c ?_;refine zz 3 ?_;generalize hk:(RS.mk true b).byte=k;have lk:k.2.rest.length≤1000000000:=by rw [← hk];exact Nat.le_trans (RS.byte_len _) hl
 have ly:=RS.bytes_out 64 k.2;refine zz 2 ?_;refine O.callS (.p rfl) rfl zC rfl rfl zB (rfBytes_c _) ?_;rintro _ _ ⟨a20,c20,rfl,rfl⟩;refine zz 5 ?_;refine O.toStrO (.p rfl) underlying31 underlying5 underlying9 rfl zB ?_;refine zz 4 ?_;generalize hy:k.2.bytes 64=y at ly ⊢;have ly2:y.2.rest.length≤1000000000:=by rw [← hy];exact Nat.le_trans (RS.bytes_len _ _) lk
 refine zz 2 ?_;refine O.vS (.p rfl) rfl zC rfl rfl zB rfNumber_c ?_;refine zz 4 ?_;generalize hc:y.2.num=c;have lc:c.2.rest.length≤1000000000:=by rw [← hc];exact Nat.le_trans (RS.num_len _) ly2
 have ic:InI64 c.1:=by rw [← hc];exact RS.num_in _
 refine zz 2 ?_;refine O.vS (.p rfl) rfl zC rfl rfl zB rfNumber_c ?_;refine zz 4 ?_;generalize hq:c.2.num=q;have lq:q.2.rest.length≤1000000000:=by rw [← hq];exact Nat.le_trans (RS.num_len _) lc
 have iq:InI64 q.1:=by rw [← hq];exact RS.num_in _
 refine zz 2 ?_;refine O.vS (.p rfl) rfl zC rfl rfl zB (rfCount_c _) ?_;refine O.q 1 rfl<|O.nil (S.seq (S.seq ?_));generalize hn:q.2.count 8=n;have ln:n.2.rest.length≤1000000000:=by rw [← hn];exact Nat.le_trans (RS.count_len _ _) lq
 obtain ⟨n0,n8⟩:0≤n.1∧n.1≤8:=by rw [← hn];exact RS.count_bd _ _ zE
 refine S.objIs (b:=b5) (cs' :=[.string (str y.1),.int .i64 c.1,.int .i64 q.1,.slice none 0 0,.bool false,.slice none 0 0,.slice none 0 0]) zB rfl ?_;refine S.addNil (T:=DotRp) (e:=166) ?_;refine zz 4 ?_;refine S.keep [OwnP DotRp 166 (.slice none 0 0) [],RfP 254 b16 n.2,obj b5 74 [.string (str y.1),.int .i64 c.1,.int .i64 q.1,.slice none 0 0,.bool false,.slice none 0 0,.slice none 0 0],obj b2 74 rec0] zS ?_;refine S.loopK2 (ι:=Nat) (κ:=Option Addr × Nat) (fun i a=>i≤n.1.toNat) (fun i a=>[(9,.int .i64 (i:Int))]) [(2,_),(4,_),(5,_),(6,_),(8,_)] (fun i a=>[OwnP DotRp 166 (.slice a.1 i a.2) (dotsP i n.2).1,RfP 254 b16 (dotsP i n.2).2,obj b5 74 [.string (str y.1),.int .i64 c.1,.int .i64 q.1,.slice a.1 i a.2,.bool false,.slice none 0 0,.slice none 0 0],obj b2 74 rec0]) (fun i a=>n.1.toNat - i) (0) ((none,0)) zG zq zq rfl fun i a hx ih=>?_;have hm1:=meltRefl (g:=g);refine zz 7 ?_;refine S.cd rfl (fun h34=>?_) fun h34=>?_
 ·have hi:i<n.1.toNat:=by omega
  refine zz 6 ?_;refine O.vS (.p rfl) rfl zC rfl rfl zB rfNumber_c ?_;refine zz 5 ?_;refine O.vS (.p rfl) rfl zC rfl rfl zB rfNumber_c ?_;refine zz 5 ?_;refine O.q 2 rfl<|O.op (.p rfl) (.build (cs:=[_,_]) underlying166 rfl rfl rfl rfl rfl)<|O.opE (.p rfl) (.litP (T:=DotRp) (ys:=[_]) underlying72 elem166 zE rfl rfl ⟨(DotRp.mk (RS.num_in _) (RS.num_in _)),trivial⟩ zE) ?_;rintro _ _ ⟨a46,c46,rfl,rfl⟩;refine O.opE (.p rfl) (.appendO (T:=DotRp) underlying72 elem166 zE rfl rfl zB zB zI zI) ?_;rintro _ _ ⟨a47,c47,rfl,rfl⟩;refine zz 9 ?_;simp only [dotsP_length,List.length_singleton];exact S.pw (ih (i+1) ((a47,c47)) zD zD)
 ·clear ih
  have hi:i=n.1.toNat:=by omega
  subst hi;generalize hd:dotsP n.1.toNat n.2=d;have ld:d.2.rest.length≤1000000000:=by rw [← hd];exact Nat.le_trans (dotsP_len _ _) ln
  have ldn:d.1.length=n.1.toNat:=by rw [← hd];exact dotsP_length _ _
  rw [← ldn];obtain ⟨ad,had⟩:∃ ad,a=ad:=⟨_,rfl⟩;subst had;refine zz 4 ?_;refine O.vS (.p rfl) rfl zC rfl rfl zB rfByte_c ?_;refine zz 3 ?_;generalize hg2:d.2.byte=g2;have lg2:g2.2.rest.length≤1000000000:=by rw [← hg2];exact Nat.le_trans (RS.byte_len _) ld
  refine zz 3 ?_;refine O.slot 52 (v' :=.bool (decide (g2.1=1))) rfl (by (simp [← UInt8.toNat_inj];omega)) ?_;refine zz 6 ?_;refine O.callS (.p rfl) rfl zC rfl rfl zB (rfBytes_c _) ?_;rintro _ _ ⟨a55,c55,rfl,rfl⟩;refine zz 2 ?_;refine O.nil (S.seq (S.seq ?_));generalize hv:g2.2.bytes 1024=v;have lv:v.2.rest.length≤1000000000:=by rw [← hv];exact Nat.le_trans (RS.bytes_len _ _) lg2
  refine S.objIs (b:=b5) (cs' :=[.string (str y.1),.int .i64 c.1,.int .i64 q.1,.slice a.1 d.1.length a.2,.bool (decide (g2.1=1)),.slice a55 v.1.length c55,.slice none 0 0]) zB rfl ?_;refine S.addNil (T:=Rp.u8) (e:=5) ?_;generalize had:a=ad;refine zz 4 ?_;refine S.keep [OwnP Rp.u8 5 (.slice none 0 0) [],RfP 254 b16 v.2,obj b5 74 [.string (str y.1),.int .i64 c.1,.int .i64 q.1,.slice ad.1 d.1.length ad.2,.bool (decide (g2.1=1)),.slice a55 v.1.length c55,.slice none 0 0],OwnP DotRp 166 (.slice ad.1 d.1.length ad.2) d.1,OwnP Rp.u8 5 (.slice a55 v.1.length c55) v.1,obj b2 74 rec0] zS ?_;refine S.loopK2 (ι:=Nat) (κ:=Option Addr × Nat) (fun i a=>i≤64) (fun i a=>[(13,.int .i64 (i:Int))]) [(2,_),(4,_),(5,_),(6,_),(12,_)] (fun i a=>[OwnP Rp.u8 5 (.slice a.1 i a.2) (byteP i v.2).1,RfP 254 b16 (byteP i v.2).2,obj b5 74 [.string (str y.1),.int .i64 c.1,.int .i64 q.1,.slice ad.1 d.1.length ad.2,.bool (decide (g2.1=1)),.slice a55 v.1.length c55,.slice a.1 i a.2],OwnP DotRp 166 (.slice ad.1 d.1.length ad.2) d.1,OwnP Rp.u8 5 (.slice a55 v.1.length c55) v.1,obj b2 74 rec0]) (fun i a=>64 - i) (0) ((none,0)) zG zq zq rfl fun i a hx ih=>?_;have hm2:=meltRefl (g:=g);refine zz 6 ?_;refine S.cd rfl (fun h58=>?_) fun h58=>?_
  ·have hi:i<64:=by omega
   refine zz 6 ?_;refine O.vS (.p rfl) rfl zC rfl rfl zB rfByte_c ?_;refine zz 5 ?_;refine O.q 1 rfl<|O.opE (.p rfl) (.litP (T:=Rp.u8) (ys:=[_]) underlying31 elem5 zE rfl rfl ⟨rfl,trivial⟩ zE) ?_;rintro _ _ ⟨a66,c66,rfl,rfl⟩;refine O.opE (.p rfl) (.appendO (T:=Rp.u8) underlying31 elem5 zE rfl rfl zB zB zI zI) ?_;rintro _ _ ⟨a67,c67,rfl,rfl⟩;refine zz 9 ?_;simp only [byteP_length,List.length_singleton];exact S.pw (ih (i+1) ((a67,c67)) zD zD)
  ·clear ih
   have hi:i=64:=by omega
   subst hi;generalize hs:byteP 64 v.2=s;have lsn:s.1.length=64:=by rw [← hs];exact byteP_length _ _
   rw [← lsn];have hX:recIn2 b=(y.1,c.1,q.1,d.1,decide (g2.1=1),v.1,s.1,()):=by subst hs hv hg2 hd hn hq hc hy hk;rfl
   have hS:(recQ2 b).2=s.2:=by subst hs hv hg2 hd hn hq hc hy hk;rfl
   have hK:(recQ b).kind=k.1:=by subst hs hv hg2 hd hn hq hc hy hk;rfl
   have hG:(recQ b).gone=g2.1:=by subst hs hv hg2 hd hn hq hc hy hk;rfl
   have hyes:=recGet_yes2 (b:=b);have hno:=recGet_no2 (b:=b);rw [hX,hS,hK,hG] at hyes hno;have hrel:∀ {m:Fr} (v3 v5 v6:Value),Arr DotRp m v3 d.1→Arr Rp.u8 m v5 v.1→Arr Rp.u8 m v6 s.1→RecRp.rel m [.string (str y.1),.int .i64 c.1,.int .i64 q.1,v3,.bool (decide (g2.1=1)),v5,v6] (y.1,c.1,q.1,d.1,decide (g2.1=1),v.1,s.1,()):=fun v3 v5 v6 h3 h5 h6=>RecRp.mk zD ic iq h3 h5 h6;generalize hXX:((y.1,c.1,q.1,d.1,decide (g2.1=1),v.1,s.1,()):RecT)=X at hyes hno hrel
   cases e0:s.2.done with
   |false =>
    have g1:recGet b=none:=hno fun q=>by rw [e0] at q;exact absurd q.1 zE
    have o1:recO b=recZ:=by simp [recO,g1]
    have o2:recE b=4:=by simp [recE,g1]
    refine S.addNil (T:=DotRp) (e:=166) ?_;refine S.addNil (T:=Rp.u8) (e:=5) ?_;refine S.addNil (T:=Rp.u8) (e:=5) ?_;refine zz 5 ?_;refine O.vS (.p rfl) rfl zC rfl rfl zB rfDone_c ?_;refine O.sF 70 rfl (by exact e0) ?_;refine zz 18 ?_;refine O.op (.p rfl) (.build (cs:=[_,_,_,_,_,_,_]) underlying74 rfl rfl rfl rfl rfl) ?_;refine zz 1 ?_;refine O.q 1 rfl<|O.nil<|S.retCellT results135 rfl rfl zB (LoadsAs.agg isAgg74 zC) fun w hw=>Holds.end_ hR hw ?_;exact ⟨_,⟨none,0,none,0,none,0,by rw [o1,o2];rfl,rfl⟩,by rw [o1];exact by repeat (first|exact zpa|exact zpn|(apply zpc;focus (repeat (first|exact zh|apply zt)))|apply zps)⟩
   |true =>
    by_cases e1:k.1=1
    ·by_cases e2:1<g2.1.toNat
     ·skip
      have g1:recGet b=none:=hno fun q=>q.2.2.1 e2;have o1:recO b=recZ:=by simp [recO,g1]
      have o2:recE b=4:=by simp [recE,g1]
      refine S.addNil (T:=DotRp) (e:=166) ?_;refine S.addNil (T:=Rp.u8) (e:=5) ?_;refine S.addNil (T:=Rp.u8) (e:=5) ?_;refine zz 5 ?_;refine O.vS (.p rfl) rfl zC rfl rfl zB rfDone_c ?_;refine O.sT 70 rfl (by exact e0) ?_;refine zz 4 ?_;refine O.sF 74 rfl (by simp [e1]) ?_;refine zz 4 ?_;refine O.sT 78 rfl zJ ?_;refine zz 10 ?_;refine O.op (.p rfl) (.build (cs:=[_,_,_,_,_,_,_]) underlying74 rfl rfl rfl rfl rfl) ?_;refine zz 1 ?_;refine O.q 1 rfl<|O.nil<|S.retCellT results135 rfl rfl zB (LoadsAs.agg isAgg74 zC) fun w hw=>Holds.end_ hR hw ?_;exact ⟨_,⟨none,0,none,0,none,0,by rw [o1,o2];rfl,rfl⟩,by rw [o1];exact by repeat (first|exact zpa|exact zpn|(apply zpc;focus (repeat (first|exact zh|apply zt)))|apply zps)⟩
     ·cases e3:recOk X with
      |false =>
       have g1:recGet b=none:=hno fun q=>by rw [e3] at q;exact absurd q.2.2.2 zE
       have o1:recO b=recZ:=by simp [recO,g1]
       have o2:recE b=4:=by simp [recE,g1]
       refine S.addNil (T:=DotRp) (e:=166) ?_;refine S.addNil (T:=Rp.u8) (e:=5) ?_;refine S.addNil (T:=Rp.u8) (e:=5) ?_;refine zz 5 ?_;refine O.vS (.p rfl) rfl zC rfl rfl zB rfDone_c ?_;refine O.sT 70 rfl (by exact e0) ?_;refine zz 4 ?_;refine O.sF 74 rfl (by simp [e1]) ?_;refine zz 4 ?_;refine O.sF 78 rfl zJ ?_;refine zz 3 ?_;refine O.callB (.g rfl rfl) rfl zC rfl rfl (bs:=[OwnP DotRp 166 (.slice ad.1 d.1.length ad.2) d.1,OwnP Rp.u8 5 (.slice a55 v.1.length c55) v.1,OwnP Rp.u8 5 (.slice a.1 s.1.length a.2) s.1]) zK (fun m hm hd' =>r8right_c (x:=X) (hrel _ _ _ (hm.arr.right hd') (hm.tail.arr.right hd') (hm.tail.tail.arr.right hd'))) ?_;rintro _ _ ⟨rfl,rfl⟩;refine O.sF 82 rfl (by exact e3) ?_;refine zz 6 ?_;refine O.op (.p rfl) (.build (cs:=[_,_,_,_,_,_,_]) underlying74 rfl rfl rfl rfl rfl) ?_;refine zz 1 ?_;refine O.q 1 rfl<|O.nil<|S.retCellT results135 rfl rfl zB (LoadsAs.agg isAgg74 zC) fun w hw=>Holds.end_ hR hw ?_;exact ⟨_,⟨none,0,none,0,none,0,by rw [o1,o2];rfl,rfl⟩,by rw [o1];exact by repeat (first|exact zpa|exact zpn|(apply zpc;focus (repeat (first|exact zh|apply zt)))|apply zps)⟩
      |true =>
       have g1:=hyes e0 e1 e2 e3;subst hXX;have o1:recO b=(y.1,c.1,q.1,d.1,decide (g2.1=1),v.1,s.1,()):=by simp [recO,g1]
       have o2:recE b=0:=by simp [recE,g1]
       refine zz 5 ?_;refine O.vS (.p rfl) rfl zC rfl rfl zB rfDone_c ?_;refine O.sT 70 rfl (by exact e0) ?_;refine zz 4 ?_;refine O.sF 74 rfl (by simp [e1]) ?_;refine zz 4 ?_;refine O.sF 78 rfl zJ ?_;refine zz 3 ?_;refine O.callB (.g rfl rfl) rfl zC rfl rfl (bs:=[OwnP DotRp 166 (.slice ad.1 d.1.length ad.2) d.1,OwnP Rp.u8 5 (.slice a55 v.1.length c55) v.1,OwnP Rp.u8 5 (.slice a.1 s.1.length a.2) s.1]) zK (fun m hm hd' =>r8right_c (hrel _ _ _ (hm.arr.right hd') (hm.tail.arr.right hd') (hm.tail.tail.arr.right hd'))) ?_;rintro _ _ ⟨rfl,rfl⟩;refine O.sT 82 rfl (by exact e3) ?_;refine zz 9 ?_;refine O.q 1 rfl<|O.nil<|S.retCellT results135 rfl rfl zB (LoadsAs.agg isAgg74 zC) fun w hw=>Holds.end_ hR hw ?_;exact ⟨_,⟨ad.1,ad.2,a55,c55,a.1,a.2,by rw [o1,o2];rfl,rfl⟩,by rw [o1];exact by repeat (first|exact zpa|exact zpn|(apply zpc;focus (repeat (first|exact zh|apply zt)))|apply zps)⟩
    ·skip
     have g1:recGet b=none:=hno fun q=>e1 q.2.1;have o1:recO b=recZ:=by simp [recO,g1]
     have o2:recE b=4:=by simp [recE,g1]
     refine S.addNil (T:=DotRp) (e:=166) ?_;refine S.addNil (T:=Rp.u8) (e:=5) ?_;refine S.addNil (T:=Rp.u8) (e:=5) ?_;refine zz 5 ?_;refine O.vS (.p rfl) rfl zC rfl rfl zB rfDone_c ?_;refine O.sT 70 rfl (by exact e0) ?_;refine zz 4 ?_;refine O.sT 74 rfl (by simp;intro q;exact e1 (UInt8.toNat.inj (by have:(1:UInt8).toNat=1:=rfl;omega))) ?_;refine zz 14 ?_;refine O.op (.p rfl) (.build (cs:=[_,_,_,_,_,_,_]) underlying74 rfl rfl rfl rfl rfl) ?_;refine zz 1 ?_;refine O.q 1 rfl<|O.nil<|S.retCellT results135 rfl rfl zB (LoadsAs.agg isAgg74 zC) fun w hw=>Holds.end_ hR hw ?_;exact ⟨_,⟨none,0,none,0,none,0,by rw [o1,o2];rfl,rfl⟩,by rw [o1];exact by repeat (first|exact zpa|exact zpn|(apply zpc;focus (repeat (first|exact zh|apply zt)))|apply zps)⟩
theorem r9ahead_c {r:Fr} {cs ds:List Value} {x y:RecT} (h:RecRp.rel r cs x) (h' :RecRp.rel r ds y):Con prog 110 #[.agg cs.toArray,.agg ds.toArray] r [] (Ret fun v η=>v=.bool (decide (cmpR x y<0))∧η=[]):=by
 obtain ⟨xa3,xa5,xa6,xc3,xc5,xc6,rfl,k0,k1,k2,k3,k5,k6⟩:=RecRp.sh h;obtain ⟨ya3,ya5,ya6,yc3,yc5,yc6,rfl,j0,j1,j2,j3,j5,j6⟩:=RecRp.sh h';have hc:=cmpR_lt (a:=x) (b:=y);refine Con.o func110 fun g hg R hR=>?_;refine S.seq<|S.region rfl<|O.opE (.p rfl) (.box (cs:=[_,_,_,_,_,_,_]) rfl rfl) ?_;rintro _ _ ⟨b2,rfl,rfl⟩;refine O.opE (.p rfl) (.box (cs:=[_,_,_,_,_,_,_]) rfl rfl) ?_;rintro _ _ ⟨b3,rfl,rfl⟩;refine zz 10 ?_
 first|refine O.caseD 10 rfl (fun h10=>?_) (fun h10=>?_)|refine O.caseB 10 rfl (fun h10=>?_) (fun h10=>?_)
 ·refine O.q 14 rfl<|O.nil<|S.ret results110 rfl fun w hw=>Holds.end_ hR hw ?_
  first|exact ⟨_,⟨congrArg _ (decide_eq_true (hc.2 zD)).symm,rfl⟩,by repeat (first|exact zpa|exact zpn|(apply zpc;focus (repeat (first|exact zh|apply zt)))|apply zps)⟩|exact ⟨_,⟨congrArg _ (decide_eq_false (fun q=>absurd (hc.1 q) zD)).symm,rfl⟩,by repeat (first|exact zpa|exact zpn|(apply zpc;focus (repeat (first|exact zh|apply zt)))|apply zps)⟩|exact ⟨_,⟨congrArg _ (decide_eq_decide.2 (by rw [hc];omega)),rfl⟩,by repeat (first|exact zpa|exact zpn|(apply zpc;focus (repeat (first|exact zh|apply zt)))|apply zps)⟩
 ·refine zz 6 ?_
  first|refine O.caseD 16 rfl (fun h16=>?_) (fun h16=>?_)|refine O.caseB 16 rfl (fun h16=>?_) (fun h16=>?_)
  ·refine zz 9 ?_
   refine S.ret results110 rfl fun w hw=>Holds.end_ hR hw ?_
   first|exact ⟨_,⟨congrArg _ (decide_eq_true (hc.2 zD)).symm,rfl⟩,by repeat (first|exact zpa|exact zpn|(apply zpc;focus (repeat (first|exact zh|apply zt)))|apply zps)⟩|exact ⟨_,⟨congrArg _ (decide_eq_false (fun q=>absurd (hc.1 q) zD)).symm,rfl⟩,by repeat (first|exact zpa|exact zpn|(apply zpc;focus (repeat (first|exact zh|apply zt)))|apply zps)⟩|exact ⟨_,⟨congrArg _ (decide_eq_decide.2 (by rw [hc];omega)),rfl⟩,by repeat (first|exact zpa|exact zpn|(apply zpc;focus (repeat (first|exact zh|apply zt)))|apply zps)⟩
  ·refine O.q 8 rfl<|O.nil<|S.ret results110 rfl fun w hw=>Holds.end_ hR hw ?_
   first|exact ⟨_,⟨congrArg _ (decide_eq_true (hc.2 zD)).symm,rfl⟩,by repeat (first|exact zpa|exact zpn|(apply zpc;focus (repeat (first|exact zh|apply zt)))|apply zps)⟩|exact ⟨_,⟨congrArg _ (decide_eq_false (fun q=>absurd (hc.1 q) zD)).symm,rfl⟩,by repeat (first|exact zpa|exact zpn|(apply zpc;focus (repeat (first|exact zh|apply zt)))|apply zps)⟩|exact ⟨_,⟨congrArg _ (decide_eq_decide.2 (by rw [hc];omega)),rfl⟩,by repeat (first|exact zpa|exact zpn|(apply zpc;focus (repeat (first|exact zh|apply zt)))|apply zps)⟩
theorem r9one_c {r:Fr} {va:Value} {l:List RecT} (ha:Arr RecRp r va l):Con prog 107 #[va] r [] (Ret fun v η=>v=.bool (oneK l)∧η=[]):=by
 have har:=ha;refine Con.o func107 fun g hg R hR=>?_;have ha:=ha.mono hg;have hbd:=ha.bound;obtain ⟨a1,c1,rfl⟩:=ha.shape;refine zz 10 ?_;refine S.loopK (ι:=Nat) (fun i=>i≤l.length∧oneK (l.take i)=true) (fun i=>[(3,.int .i64 (i:Int))]) [(0,_)] (fun i=>[]) (fun i=>l.length - i) (0) zO zq zq rfl fun i hx ih=>?_;have hm1:=meltRefl (g:=g);obtain ⟨hx1,hx2⟩:=hx;refine zz 8 ?_;refine S.cd rfl (fun h7=>?_) fun h7=>?_
 ·have hi:i<l.length:=by omega
  have h0:0<l.length:=by omega
  have hst:=oneK_step hi hx2
  cases e1:recOk l[i] with
  |false =>
   have hno:oneK l=false:=oneK_none (i:=i+1) (Bool.eq_false_iff.2 fun q=>by rw [e1] at hst;exact absurd (hst.1 q).1 zG);refine S.skip<|S.seq<|S.block<|S.seq<|S.regionD (L:=.range 18) F.mixed zC<|OD.q 2 rfl<|OD.iy har hg (h:=fun p12 cs12 hp12 hrr12=>?_);have hr12:=Rp.rel.mono hrr12 hg;obtain ⟨ra3_12,ra5_12,ra6_12,rc3_12,rc5_12,rc6_12,rfl,ho0_12,ho1_12,ho2_12,ha3_12,ha5_12,ha6_12⟩:=RecRp.sh hr12;refine .quiet (.p rfl) rfl (fun _=>.loadAgg isAgg74 zC rfl hp12) ?_;refine OD.v0 (.p rfl) zC rfl zC rfl rfl ((r8right_c hr12)) ?_;refine OD.sF 14 rfl (by exact e1) ?_;refine zz 19 ?_;exact S.rt results107 rfl hR ⟨by rw [hno],rfl⟩
  |true =>
   by_cases e2:l[i].1=l[0].1
   ·
    refine S.skip<|S.seq<|S.block<|S.seq<|S.regionD (L:=.range 18) F.mixed zC<|OD.q 2 rfl<|OD.iy har hg (h:=fun p12 cs12 hp12 hrr12=>?_);have hr12:=Rp.rel.mono hrr12 hg;obtain ⟨ra3_12,ra5_12,ra6_12,rc3_12,rc5_12,rc6_12,rfl,ho0_12,ho1_12,ho2_12,ha3_12,ha5_12,ha6_12⟩:=RecRp.sh hr12;refine .quiet (.p rfl) rfl (fun _=>.loadAgg isAgg74 zC rfl hp12) ?_;refine OD.v0 (.p rfl) zC rfl zC rfl rfl ((r8right_c hr12)) ?_;refine OD.sT 14 rfl (by exact e1) ?_;refine zz 4 ?_;refine OD.iy har hg (h:=fun p19 cs19 hp19 hrr19=>?_);have hr19:=Rp.rel.mono hrr19 hg;obtain ⟨ra3_19,ra5_19,ra6_19,rc3_19,rc5_19,rc6_19,rfl,ho0_19,ho1_19,ho2_19,ha3_19,ha5_19,ha6_19⟩:=RecRp.sh hr19;refine zz 2 ?_;refine OD.q 1 rfl<|OD.ib (.g rfl rfl) underlying47 size74 rfl rfl (show _=(((0):Nat):Int) by omega) har hg (h:=fun p23 cs23 hp23 hrr23=>?_);have hr23:=Rp.rel.mono hrr23 hg;obtain ⟨ra3_23,ra5_23,ra6_23,rc3_23,rc5_23,rc6_23,rfl,ho0_23,ho1_23,ho2_23,ha3_23,ha5_23,ha6_23⟩:=RecRp.sh hr23;refine zz 2 ?_;refine .quiet (.g rfl rfl) rfl (fun _=>.neqS rfl rfl)<|OD.sF 26 rfl (by simp [e2]) ?_;refine zz 10 ?_;exact S.wk (ih (i+1) (by exact ⟨by omega,hst.2 ⟨e1,e2⟩⟩) zD)
   ·have hno:oneK l=false:=oneK_none (i:=i+1) (Bool.eq_false_iff.2 fun q=>e2 (hst.1 q).2)
    refine S.skip<|S.seq<|S.block<|S.seq<|S.regionD (L:=.range 18) F.mixed zC<|OD.q 2 rfl<|OD.iy har hg (h:=fun p12 cs12 hp12 hrr12=>?_);have hr12:=Rp.rel.mono hrr12 hg;obtain ⟨ra3_12,ra5_12,ra6_12,rc3_12,rc5_12,rc6_12,rfl,ho0_12,ho1_12,ho2_12,ha3_12,ha5_12,ha6_12⟩:=RecRp.sh hr12;refine .quiet (.p rfl) rfl (fun _=>.loadAgg isAgg74 zC rfl hp12) ?_;refine OD.v0 (.p rfl) zC rfl zC rfl rfl ((r8right_c hr12)) ?_;refine OD.sT 14 rfl (by exact e1) ?_;refine zz 4 ?_;refine OD.iy har hg (h:=fun p19 cs19 hp19 hrr19=>?_);have hr19:=Rp.rel.mono hrr19 hg;obtain ⟨ra3_19,ra5_19,ra6_19,rc3_19,rc5_19,rc6_19,rfl,ho0_19,ho1_19,ho2_19,ha3_19,ha5_19,ha6_19⟩:=RecRp.sh hr19;refine zz 2 ?_;refine OD.q 1 rfl<|OD.ib (.g rfl rfl) underlying47 size74 rfl rfl (show _=(((0):Nat):Int) by omega) har hg (h:=fun p23 cs23 hp23 hrr23=>?_);have hr23:=Rp.rel.mono hrr23 hg;obtain ⟨ra3_23,ra5_23,ra6_23,rc3_23,rc5_23,rc6_23,rfl,ho0_23,ho1_23,ho2_23,ha3_23,ha5_23,ha6_23⟩:=RecRp.sh hr23;refine zz 2 ?_;refine .quiet (.g rfl rfl) rfl (fun _=>.neqS rfl rfl)<|OD.sT 26 rfl (by simp [e2]) ?_;refine zz 7 ?_;exact S.rt results107 rfl hR ⟨by rw [hno],rfl⟩
 ·clear ih
  have hi:i=l.length:=by omega
  subst hi;rw [List.take_length] at hx2;refine zz 5 ?_;exact S.rt results107 rfl hR ⟨by rw [hx2],rfl⟩
theorem r9right_c {r:Fr} {va:Value} {l:List RecT} (ha:Arr RecRp r va l):Con prog 46 #[va] r [] (Ret fun v η=>v=.bool (decide (SRight l))∧η=[]):=by
 have har:=ha;have hS:=SRight_iff (l:=l);refine Con.o func46 fun g hg R hR=>?_;have ha:=ha.mono hg;have hbd:=ha.bound;obtain ⟨a1,c1,rfl⟩:=ha.shape
 cases e0:oneK l with
 |false =>
  refine zz 8 ?_;refine O.v0 (.p rfl) rfl zC rfl rfl ((r9one_c ha)) ?_;refine O.sF 6 rfl (by exact e0) ?_;refine zz 7 ?_;exact S.rt results46 rfl hR ⟨congrArg _ (decide_eq_false fun q=>by rw [e0] at hS;exact absurd (hS.1 q).1 zG).symm,rfl⟩
 |true =>
  refine zz 8 ?_;refine O.v0 (.p rfl) rfl zC rfl rfl ((r9one_c ha)) ?_;refine O.sT 6 rfl (by exact e0) ?_;refine zz 10 ?_;refine S.loopK (ι:=Nat) (fun i=>i≤l.length∧∀ j (h:j<l.length),j<i→(∀ h0:0<j,cmpR l[j-1] l[j]<0)∧∀ k (hk:k<l.length),over l[j] l[k]=false) (fun i=>[(3,.int .i64 (i:Int))]) [(0,_)] (fun i=>[]) (fun i=>l.length - i) (0) (by exact ⟨by simp,fun j h q=>absurd q zD⟩) zq zq rfl fun i hx ih=>?_;have hm1:=meltRefl (g:=g);obtain ⟨hx1,hx2⟩:=hx;refine zz 8 ?_;refine S.cd rfl (fun h11=>?_) fun h11=>?_
  ·have hi:i<l.length:=by omega
   by_cases c1:0<i∧∃ hk:i - 1<l.length,¬ cmpR l[i - 1] l[i]<0
   ·obtain ⟨c2,hk,c3⟩:=c1
    refine zz 5 ?_;refine S.regionD (L:=.range 15) F.mixed zC ?_;refine zz 2 ?_;refine OD.sT 15 rfl (by exact decide_eq_true zD) ?_;refine zz 4 ?_;refine OD.ib (.g rfl rfl) underlying47 size74 rfl rfl (show _=(((i - 1):Nat):Int) by omega) har hg (h:=fun p20 cs20 hp20 hrr20=>?_);have hr20:=Rp.rel.mono hrr20 hg;obtain ⟨ra3_20,ra5_20,ra6_20,rc3_20,rc5_20,rc6_20,rfl,ho0_20,ho1_20,ho2_20,ha3_20,ha5_20,ha6_20⟩:=RecRp.sh hr20;refine .quiet (.g rfl rfl) rfl (fun _=>.loadAgg isAgg74 zC rfl hp20) ?_;refine OD.q 2 rfl<|OD.iy har hg (h:=fun p24 cs24 hp24 hrr24=>?_);have hr24:=Rp.rel.mono hrr24 hg;obtain ⟨ra3_24,ra5_24,ra6_24,rc3_24,rc5_24,rc6_24,rfl,ho0_24,ho1_24,ho2_24,ha3_24,ha5_24,ha6_24⟩:=RecRp.sh hr24;refine .quiet (.g rfl rfl) rfl (fun _=>.loadAgg isAgg74 zC rfl hp24) ?_;refine OD.v0 (.g rfl rfl) zC rfl zC rfl rfl ((r9ahead_c hr20 hr24)) ?_;refine OD.sF 26 rfl (by exact decide_eq_false c3) ?_;refine zz 8 ?_;exact S.rt results46 rfl hR ⟨congrArg _ (decide_eq_false fun q=>c3 (((hS.1 q).2 i hi).1 c2)).symm,rfl⟩
   ·have hup:∀ h0:0<i,cmpR l[i - 1] l[i]<0:=fun h0=>Classical.byContradiction fun q=>c1 ⟨h0,by omega,q⟩
    have hk:i - 1<l.length:=by omega
    refine zz 5 ?_;refine S.cut2 (fun (u:Unit)=>True) (fun (u:Unit)=>[]) [(0,_),(3,_)] (fun (u:Unit)=>[]) zq (fun key=>?_) (fun u hx=>?_)
    ·have hm2:=meltRefl (g:=g)
     by_cases c2:0<i
     ·
      refine S.regionD (L:=.range 15) F.mixed zC ?_;refine zz 2 ?_;refine OD.sT 15 rfl (by exact decide_eq_true zD) ?_;refine zz 4 ?_;refine OD.ib (.g rfl rfl) underlying47 size74 rfl rfl (show _=(((i - 1):Nat):Int) by omega) har hg (h:=fun p20 cs20 hp20 hrr20=>?_);have hr20:=Rp.rel.mono hrr20 hg;obtain ⟨ra3_20,ra5_20,ra6_20,rc3_20,rc5_20,rc6_20,rfl,ho0_20,ho1_20,ho2_20,ha3_20,ha5_20,ha6_20⟩:=RecRp.sh hr20;refine .quiet (.g rfl rfl) rfl (fun _=>.loadAgg isAgg74 zC rfl hp20) ?_;refine OD.q 2 rfl<|OD.iy har hg (h:=fun p24 cs24 hp24 hrr24=>?_);have hr24:=Rp.rel.mono hrr24 hg;obtain ⟨ra3_24,ra5_24,ra6_24,rc3_24,rc5_24,rc6_24,rfl,ho0_24,ho1_24,ho2_24,ha3_24,ha5_24,ha6_24⟩:=RecRp.sh hr24;refine .quiet (.g rfl rfl) rfl (fun _=>.loadAgg isAgg74 zC rfl hp24) ?_;refine OD.v0 (.g rfl rfl) zC rfl zC rfl rfl ((r9ahead_c hr20 hr24)) ?_;refine OD.sT 26 rfl (by exact decide_eq_true (hup c2)) ?_;refine zz 5 ?_;refine S.pk ?_ (S.weaken ?_ (key (()) (by trivial)))
      ·repeat (first|exact zpa|exact zpn|(apply zpc;focus (repeat (first|exact zh|apply zt)))|apply zps)
      repeat (first|exact Sub.nil|refine Sub.cons rfl ?_)
     ·
      refine S.regionD (L:=.range 15) F.mixed zC ?_;refine zz 2 ?_;refine OD.sF 15 rfl (by exact decide_eq_false zD) ?_;refine zz 16 ?_;refine S.pk ?_ (S.weaken ?_ (key (()) (by trivial)))
      ·repeat (first|exact zpa|exact zpn|(apply zpc;focus (repeat (first|exact zh|apply zt)))|apply zps)
      repeat (first|exact Sub.nil|refine Sub.cons rfl ?_)
    ·refine zz 5 ?_
     refine S.loopK (ι:=Nat) (fun k=>k≤l.length∧∀ j (h:j<l.length),j<k→over l[i] l[j]=false) (fun k=>[(4,.int .i64 (k:Int))]) [(0,_),(3,_)] (fun k=>[]) (fun k=>l.length - k) (0) (by exact ⟨by simp,fun j h q=>absurd q zD⟩) zq zq rfl fun k hx ih=>?_;have hm2:=meltRefl (g:=g);obtain ⟨hy1,hy2⟩:=hx;refine zz 8 ?_;refine S.cd rfl (fun h32=>?_) fun h32=>?_
     ·have hkk:k<l.length:=by omega
      by_cases d1:i=k
      ·have hself:over l[i] l[k]=false:=by subst d1;exact over_self _
       refine zz 4 ?_;refine S.regionD (L:=.range 14) F.mixed zC ?_;refine zz 3 ?_;refine OD.sF 37 rfl (by exact decide_eq_false zD) ?_;refine zz 20 ?_;exact S.wk (ih (k+1) (by exact ⟨by omega,lt_step hy2 fun _=>hself⟩) zD)
      ·cases d2:over l[i] l[k] with
       |true =>
        refine zz 4 ?_;refine S.regionD (L:=.range 14) F.mixed zC ?_;refine zz 3 ?_;refine OD.sT 37 rfl (by exact decide_eq_true zD) ?_;refine OD.q 3 rfl<|OD.iy har hg (h:=fun p41 cs41 hp41 hrr41=>?_);have hr41:=Rp.rel.mono hrr41 hg;obtain ⟨ra3_41,ra5_41,ra6_41,rc3_41,rc5_41,rc6_41,rfl,ho0_41,ho1_41,ho2_41,ha3_41,ha5_41,ha6_41⟩:=RecRp.sh hr41;refine .quiet (.g rfl rfl) rfl (fun _=>.loadAgg isAgg74 zC rfl hp41) ?_;refine OD.q 2 rfl<|OD.iy har hg (h:=fun p45 cs45 hp45 hrr45=>?_);have hr45:=Rp.rel.mono hrr45 hg;obtain ⟨ra3_45,ra5_45,ra6_45,rc3_45,rc5_45,rc6_45,rfl,ho0_45,ho1_45,ho2_45,ha3_45,ha5_45,ha6_45⟩:=RecRp.sh hr45;refine .quiet (.g rfl rfl) rfl (fun _=>.loadAgg isAgg74 zC rfl hp45) ?_;refine OD.v0 (.g rfl rfl) zC rfl zC rfl rfl ((r8over_c hr41 hr45)) ?_;refine OD.sT 47 rfl (by exact d2) ?_;refine zz 7 ?_;exact S.rt results46 rfl hR ⟨congrArg _ (decide_eq_false fun q=>by rw [((hS.1 q).2 i hi).2 k hkk] at d2;cases d2).symm,rfl⟩
       |false =>
        refine zz 4 ?_;refine S.regionD (L:=.range 14) F.mixed zC ?_;refine zz 3 ?_;refine OD.sT 37 rfl (by exact decide_eq_true zD) ?_;refine OD.q 3 rfl<|OD.iy har hg (h:=fun p41 cs41 hp41 hrr41=>?_);have hr41:=Rp.rel.mono hrr41 hg;obtain ⟨ra3_41,ra5_41,ra6_41,rc3_41,rc5_41,rc6_41,rfl,ho0_41,ho1_41,ho2_41,ha3_41,ha5_41,ha6_41⟩:=RecRp.sh hr41;refine .quiet (.g rfl rfl) rfl (fun _=>.loadAgg isAgg74 zC rfl hp41) ?_;refine OD.q 2 rfl<|OD.iy har hg (h:=fun p45 cs45 hp45 hrr45=>?_);have hr45:=Rp.rel.mono hrr45 hg;obtain ⟨ra3_45,ra5_45,ra6_45,rc3_45,rc5_45,rc6_45,rfl,ho0_45,ho1_45,ho2_45,ha3_45,ha5_45,ha6_45⟩:=RecRp.sh hr45;refine .quiet (.g rfl rfl) rfl (fun _=>.loadAgg isAgg74 zC rfl hp45) ?_;refine OD.v0 (.g rfl rfl) zC rfl zC rfl rfl ((r8over_c hr41 hr45)) ?_;refine OD.sF 47 rfl (by exact d2) ?_;refine zz 10 ?_;exact S.wk (ih (k+1) (by exact ⟨by omega,lt_step hy2 fun _=>d2⟩) zD)
     ·clear ih
      have hkk:k=l.length:=by omega
      refine zz 7 ?_;exact S.wk (ih (i+1) (by exact ⟨by omega,lt_step hx2 fun _=>⟨hup,fun k hk=>hy2 k hk zD⟩⟩) zD)
  ·clear ih
   have hi:i=l.length:=by omega
   subst hi;refine zz 5 ?_;exact S.rt results46 rfl hR ⟨congrArg _ (decide_eq_true (hS.2 ⟨e0,fun j h=>hx2 j h h⟩)).symm,rfl⟩
theorem r9text_c {r:Fr} {cs:List Value} {x:RecT} (h:RecRp.rel r cs x):Con prog 108 #[.agg cs.toArray] r [] (Ret fun v η=>v=.string (str (recOut x))∧η=[]):=by
 obtain ⟨xa3,xa5,xa6,xc3,xc5,xc6,rfl,k0,k1,k2,k3,k5,k6⟩:=RecRp.sh h;refine Con.o func108 fun g hg R hR=>?_;have h:=h.mono hg;refine S.seq<|S.region rfl<|O.opE (.p rfl) (.box (cs:=[_,_,_,_,_,_,_]) rfl rfl) ?_;rintro _ _ ⟨b1,rfl,rfl⟩;refine zz 3 ?_;refine S.frzO zB fun g hs hm hb1=>?_;replace hg:=Fr.sub_trans hg hs;replace hR:=melted hR hm
 try replace h:=h.mono hs
 clear hs hm;refine S.region rfl<|O.op (.p rfl) (.loadAgg isAgg74 zC rfl hb1) ?_;refine O.call0 (.p rfl) rfl zC rfl rfl ((r8put_c h)) ?_;rintro _ _ ⟨a7,c7,rfl,rfl⟩;refine zz 7 ?_;refine S.frzA zB fun g hs hm hz=>?_;replace hg:=Fr.sub_trans hg hs;replace hR:=melted hR hm
 try replace h:=h.mono hs
 try replace hb1:=hb1.mono hs
 clear hs hm;refine zz 2 ?_;refine O.op (.p rfl) (.toStr underlying31 underlying5 underlying9 rfl zA) ?_;refine zz 2 ?_;exact S.rt results108 rfl hR ⟨rfl,rfl⟩
theorem r9put_c {r:Fr} {va:Value} {l:List RecT} (ha:Arr RecRp r va l) (hn:l.length≤1000000) :
  Con prog 44 #[va] r [] (Ret fun v η=>∃ a c,v=.tuple #[.slice a (sOut l).length c,.int .i64 (sErr l)]∧η=[OwnP Rp.u8 5 (.slice a (sOut l).length c) (sOut l)]):=by
 have har:=ha;refine Con.o func44 fun g hg R hR=>?_;have ha:=ha.mono hg;have hbd:=ha.bound;obtain ⟨a1,c1,rfl⟩:=ha.shape
 by_cases e:¬ SRight l
 ·have e1:sOut l=[]:=if_neg e
  have e2:sErr l=4:=if_neg e;rw [e1,e2] at hR;refine zz 9 ?_;refine O.v0 (.p rfl) rfl zC rfl rfl ((r9right_c ha)) ?_;refine O.sF 7 rfl (by exact decide_eq_false e) ?_;refine zz 8 ?_;refine S.addNil (T:=Rp.u8) (e:=5) ?_;refine S.ret2 results44 rfl rfl fun w hw=>Holds.end_ hR hw ?_;exact pk ⟨none,0,rfl,rfl⟩
 replace e:=Classical.not_not.1 e;have e1:sOut l=sB l:=if_pos e;have e2:sErr l=0:=if_pos e;have hok:=oneK_all e.1;rw [e1,e2] at hR;refine zz 9 ?_;refine O.v0 (.p rfl) rfl zC rfl rfl ((r9right_c ha)) ?_;refine O.sT 7 rfl (by exact decide_eq_true e) ?_;refine zz 8 ?_;refine O.call0 (.p rfl) rfl zC rfl rfl (refNumber_c _) ?_;rintro _ _ ⟨a11,c11,rfl,rfl⟩;refine zz 4 ?_;refine S.ownIs (T:=Rp.u8) (e:=5) (v' :=.slice a11 (be l.length++sRows (l.take 0)).length c11) (xs' :=be l.length++sRows (l.take 0)) zB (by simp [sRows]) (by simp [sRows]) ?_;refine S.slot 4 (v' :=.slice a11 (be l.length++sRows (l.take 0)).length c11) rfl (by simp [sRows]) ?_;refine zz 4 ?_;refine S.loopK2 (ι:=Nat) (κ:=Option Addr × Nat) (fun i q=>i≤l.length) (fun i q=>[(4,.slice q.1 (be l.length++sRows (l.take i)).length q.2),(5,.int .i64 (i:Int))]) [(0,_)] (fun i q=>[OwnP Rp.u8 5 (.slice q.1 (be l.length++sRows (l.take i)).length q.2) (be l.length++sRows (l.take i))]) (fun i q=>l.length - i) (0) ((a11,c11)) zG zq zq rfl fun i q hx ih=>?_;have hm1:=meltRefl (g:=g);refine zz 8 ?_;refine S.cd rfl (fun h15=>?_) fun h15=>?_
 ·have hi:i<l.length:=by omega
  have hoi:=hok _ (List.getElem_mem hi);have ho1:recOut l[i]=recB l[i]:=by simp [recOut,hoi]
  have hbl:=recB_le hoi;have hle:=sRows_le (l.take i) fun x hx=>hok x (List.mem_of_mem_take hx);have hlt:(l.take i).length≤1000000:=by rw [List.length_take];omega
  have htk:be l.length++sRows (l.take i)++bytesOf (recB l[i])=be l.length++sRows (l.take (i+1)):=by rw [List.take_succ_eq_append_getElem hi,sRows_snoc,List.append_assoc]
  have hln:(be l.length++sRows (l.take i)).length≤2000000000:=by rw [List.length_append,be_length];omega
  generalize be l.length++sRows (l.take i)=so at htk hln ⊢;refine zz 7 ?_;refine O.iy har hg (h:=fun p21 cs21 hp21 hrr21=>?_);have hr21:=Rp.rel.mono hrr21 hg;obtain ⟨ra3_21,ra5_21,ra6_21,rc3_21,rc5_21,rc6_21,rfl,ho0_21,ho1_21,ho2_21,ha3_21,ha5_21,ha6_21⟩:=RecRp.sh hr21;refine O.op (.p rfl) (.loadAgg isAgg74 zC rfl hp21) ?_;refine O.v0 (.p rfl) rfl zC rfl rfl ((r9text_c hr21)) ?_;rw [ho1];refine O.opE (.p rfl) (.strBytesO underlying9 underlying31 underlying5 rfl zW) ?_;rintro _ _ ⟨a24,c24,rfl,rfl⟩;refine O.callB (.p rfl) rfl zC rfl rfl (bs:=[OwnP Rp.u8 5 (.slice a24 (recB l[i]).length c24) (recB l[i])]) zK (fun m hm hd=>refBytes_c (hm.arr.right hd) zD) ?_;rintro _ _ ⟨a25,c25,rfl,rfl⟩;refine O.frzA zB fun g hs hm ha25=>?_;replace hg:=Fr.sub_trans hg hs;replace hR:=melted hR hm
  try replace hp21:=hp21.mono hs
  try replace hr21:=hr21.mono hs
  try replace ha3_21:=ha3_21.mono hs
  try replace ha5_21:=ha5_21.mono hs
  try replace ha6_21:=ha6_21.mono hs
  replace hm1:=meltTrans hm1 hm;clear hs hm;refine O.opE (.p rfl) (.appendP (T:=Rp.u8) pure_u8 underlying31 elem5 zE rfl rfl zB zA zI zI) ?_;rintro _ _ ⟨a26,c26,rfl,rfl⟩;refine zz 8 ?_;rw [htk];rw [← List.length_append,htk];exact S.melt hm1 (S.pw (ih (i+1) ((a26,c26)) zD zD))
 ·clear ih
  have hi:i=l.length:=by omega
  subst hi;rw [List.take_length];refine zz 7 ?_;refine S.ret2 results44 rfl rfl fun w hw=>Holds.end_ hR hw ?_;exact pk ⟨q.1,q.2,rfl,rfl⟩
noncomputable def setO (b:List UInt8):List RecT:=(sGet b).getD []
noncomputable def setE (b:List UInt8):Int:=if (sGet b).isSome then 0 else 4
theorem setP_badR {most:Int} {s:RS} {i:Nat} {p:List RecT × RS} (h:setP most i s=some p) (hg:p.2.good=false):setP most (i+1) s=none:=by
 exact setP_stop h (recGet_short (by rw [RS.bytes_bad hg];exact Nat.zero_lt_succ _))
theorem r9get_c {r:Fr} {va:Value} {b:List UInt8} (ha:Arr Rp.u8 r va b) (hl:b.length≤1000000000) :
  Con prog 51 #[va] r [] (Ret fun v η=>∃ a c,v=.tuple #[.slice a (setO b).length c,.int .i64 (setE b)]∧η=[ListP (RecG tys) 74 (.slice a (setO b).length c) (setO b)]):=by
 refine Con.o func51 fun g hg R hR=>?_;have ha:=ha.mono hg;have hbd:=ha.bound;obtain ⟨a1,c1,rfl⟩:=ha.shape;refine zz 8 ?_;refine O.call0 (.p rfl) rfl zC rfl rfl (rfNew_c zA zI) ?_;rintro _ _ ⟨b12,rfl,rfl⟩;refine zz 11 ?_;refine O.op (.p rfl) (.quo rfl rfl zD)<|O.slot 16 (v' :=.int .i64 ((b.length / 8:Nat):Int)) rfl (by rw [Int.tdiv_eq_ediv_of_nonneg zD,IntWalk.i64_in _ zD];rfl) ?_;refine O.vS (.p rfl) rfl zC rfl rfl zB (rfCount_c _) ?_;refine O.q 1 rfl<|O.nil (S.seq (S.seq ?_));obtain ⟨c,hc⟩:∃ c,(RS.mk true b).count ((b.length / 8:Nat):Int)=c:=⟨_,rfl⟩;rw [hc];have lc:c.2.rest.length≤1000000000:=by rw [← hc];exact Nat.le_trans (RS.count_len _ _) hl
 obtain ⟨n0,n8⟩:0≤c.1∧c.1≤((b.length / 8:Nat):Int):=by rw [← hc];exact RS.count_bd _ _ zD
 refine S.listNil (RecG tys) 74 ?_;refine zz 4 ?_;refine S.loopK3 (ι:=Nat) (κ:=List RecT × RS) (υ:=Option Addr × Nat) (fun i x a=>i≤c.1.toNat∧setP b.length i c.2=some x) (fun i x a=>[(7,.int .i64 (i:Int)),(5,.slice a.1 x.1.length a.2)]) [(0,_),(4,_),(6,_)] (fun i x a=>[ListP (RecG tys) 74 (.slice a.1 x.1.length a.2) x.1,RfP 254 b12 x.2]) (fun i x a=>c.1.toNat - i) (0) (([],c.2)) ((none,0)) (by exact ⟨by omega,rfl⟩) zq zq rfl fun i x a hx ih=>?_;have hm1:=meltRefl (g:=g);obtain ⟨hx1,hx2⟩:=hx;have hxl:=(setP_bad hx2).2;have hxr:=setP_len hx2;have hlast:sGet b=none→True:=fun _=>trivial;refine zz 7 ?_
 first|refine O.caseD 21 rfl (fun h21=>?_) (fun h21=>?_)|refine O.caseB 21 rfl (fun h21=>?_) (fun h21=>?_)
 ·have hi:i<c.1.toNat:=by omega
  cases eg:x.2.good with
  |false =>
   have g1:sGet b=none:=sGet_none hc (k:=i+1) zD (setP_badR hx2 eg);have o1:setO b=[]:=by simp [setO,g1]
   have o2:setE b=4:=by simp [setE,g1]
   refine O.q 1 rfl<|O.vS (.g rfl rfl) rfl zC rfl rfl zB rfGood_c ?_;refine O.sF 23 rfl (by exact eg) ?_;refine zz 6 ?_;refine S.listNil (RecG tys) 74 ?_;refine zz 2 ?_;refine O.vS (.p rfl) rfl zC rfl rfl zB rfDone_c ?_;refine O.sF 43 rfl (by (simp [RS.done,eg])) ?_;refine zz 13 ?_;refine S.ret2 results51 rfl rfl fun w hw=>Holds.end_ hR hw ?_;exact ⟨_,⟨none,0,by rw [o1,o2];rfl,rfl⟩,by rw [o1];exact by repeat (first|exact zpa|exact zpn|(apply zpc;focus (repeat (first|exact zh|apply zt)))|apply zps)⟩
  |true =>
   have hout:=RS.bytes_out (b.length:Int) x.2
   cases e:recGet (x.2.bytes b.length).1 with
   |none =>
    have E1:recE (x.2.bytes b.length).1=4:=by simp [recE,e]
    have g1:sGet b=none:=sGet_none hc (k:=i+1) zD (setP_stop hx2 e);have o1:setO b=[]:=by simp [setO,g1]
    have o2:setE b=4:=by simp [setE,g1]
    refine O.q 1 rfl<|O.vS (.g rfl rfl) rfl zC rfl rfl zB rfGood_c ?_;refine O.sT 23 rfl (by exact eg) ?_;refine zz 11 ?_;refine O.callS (.p rfl) rfl zC rfl rfl zB (rfBytes_c _) ?_;rintro _ _ ⟨a30,c30,rfl,rfl⟩;refine O.frzA zB fun g hs hm ha30=>?_;replace hg:=Fr.sub_trans hg hs;replace hR:=melted hR hm
    try replace ha:=ha.mono hs
    replace hm1:=meltTrans hm1 hm;clear hs hm;refine zz 5 ?_;refine O.call0 (.p rfl) rfl zC rfl rfl ((r8get_c ha30 zD)) ?_;rintro _ _ ⟨a3_33,c3_33,a5_33,c5_33,a6_33,c6_33,rfl,rfl⟩;rw [E1];refine O.q 3 rfl<|O.opE (.p rfl) (.alloc (cs:=[.string ⟨#[]⟩,.int .i64 0,.int .i64 0,.slice none 0 0,.bool false,.slice none 0 0,.slice none 0 0]) zeroValue74 rfl) ?_;rintro _ _ ⟨b9,rfl,rfl⟩;refine zz 8 ?_;refine O.sT 37 rfl zE ?_;refine zz 3 ?_;refine S.listNil (RecG tys) 74 ?_;refine zz 4 ?_;refine S.ret2 results51 rfl rfl fun w hw=>Holds.end_ hR hw ?_;exact ⟨_,⟨none,0,by rw [o1,o2];rfl,rfl⟩,by rw [o1];exact by repeat (first|exact zpa|exact zpn|(apply zpc;focus (repeat (first|exact zh|apply zt)))|apply zps)⟩
   |some z =>
    have E1:recE (x.2.bytes b.length).1=0:=by simp [recE,e]
    have O1:recO (x.2.bytes b.length).1=z:=by simp [recO,e]
    have hok:=(recGet_iff.1 e).1;refine O.q 1 rfl<|O.vS (.g rfl rfl) rfl zC rfl rfl zB rfGood_c ?_;refine O.sT 23 rfl (by exact eg) ?_;refine zz 11 ?_;refine O.callS (.p rfl) rfl zC rfl rfl zB (rfBytes_c _) ?_;rintro _ _ ⟨a30,c30,rfl,rfl⟩;refine O.frzA zB fun g hs hm ha30=>?_;replace hg:=Fr.sub_trans hg hs;replace hR:=melted hR hm
    try replace ha:=ha.mono hs
    replace hm1:=meltTrans hm1 hm;clear hs hm;refine zz 5 ?_;refine O.call0 (.p rfl) rfl zC rfl rfl ((r8get_c ha30 zD)) ?_;rintro _ _ ⟨a3_33,c3_33,a5_33,c5_33,a6_33,c6_33,rfl,rfl⟩;rw [E1,O1];refine O.q 3 rfl<|O.opE (.p rfl) (.alloc (cs:=[.string ⟨#[]⟩,.int .i64 0,.int .i64 0,.slice none 0 0,.bool false,.slice none 0 0,.slice none 0 0]) zeroValue74 rfl) ?_;rintro _ _ ⟨b9,rfl,rfl⟩;refine zz 8 ?_;refine O.sF 37 rfl zE ?_;refine zz 3 ?_;refine S.objIs (b:=b9) (cs' :=recV z (.slice a3_33 z.2.2.2.1.length c3_33) (.slice a5_33 z.2.2.2.2.2.1.length c5_33) (.slice a6_33 z.2.2.2.2.2.2.1.length c6_33)) zB rfl ?_;refine S.listOpen (k' :=7) rfl zB fun css hcl=>?_;rw [← hcl];refine zz 3 ?_;refine O.opE (.p rfl) (.litP (T:=(Rp.cells 7)) (ys:=[_]) underlying47 elem74 zE rfl rfl ⟨⟨rfl,rfl,by first|(simp;done)|(intro v hv;simp [Value.cells] at hv;rcases hv with rfl|rfl<;>rfl)|(refine List.forall_mem_cons.2 ⟨rfl,?_⟩;repeat (first|exact (fun _ h=>absurd h List.not_mem_nil)|refine List.forall_mem_cons.2 ⟨rfl,?_⟩))⟩,trivial⟩ zE) ?_;rintro _ _ ⟨a40,c40,rfl,rfl⟩;refine O.opE (.p rfl) (.appendO (T:=(Rp.cells 7)) underlying47 elem74 zE rfl rfl zB zB zI zI) ?_;rintro _ _ ⟨a41,c41,rfl,rfl⟩;refine zz 8 ?_
    refine S.foldS (A:=(RecG tys).own (recV z (.slice a3_33 z.2.2.2.1.length c3_33) (.slice a5_33 z.2.2.2.2.2.1.length c5_33) (.slice a6_33 z.2.2.2.2.2.2.1.length c6_33)) z) (bs:=recWs z (.slice a3_33 z.2.2.2.1.length c3_33) (.slice a5_33 z.2.2.2.2.2.1.length c5_33) (.slice a6_33 z.2.2.2.2.2.2.1.length c6_33)) zK (fun m h=>recG_sat hok h) ?_;refine S.listPut (G:=RecG tys) (k' :=7) rfl zB zB zB ?_;simp only [List.length_singleton];rw [show css.length+1=(x.1++[z]).length from by simp [hcl]];exact S.melt hm1 (S.pw (ih (i+1) ((x.1++[z],(x.2.bytes b.length).2)) ((a41,c41)) (by exact ⟨by omega,setP_next hx2 e⟩) zD))
 ·clear ih
  have hi:i=c.1.toNat:=by omega
  subst hi;have hgt:=sGet_eq hc hx2;obtain ⟨l,s⟩:=x
  cases e1:s.done with
  |false =>
   have g1:sGet b=none:=by rw [hgt,if_neg (fun q=>by rw [e1] at q;exact absurd q.1 zE)]
   have o1:setO b=[]:=by simp [setO,g1]
   have o2:setE b=4:=by simp [setE,g1]
   refine zz 8 ?_;refine S.listNil (RecG tys) 74 ?_;refine zz 2 ?_;refine O.vS (.p rfl) rfl zC rfl rfl zB rfDone_c ?_;refine O.sF 43 rfl (by exact e1) ?_;refine zz 13 ?_;refine S.ret2 results51 rfl rfl fun w hw=>Holds.end_ hR hw ?_;exact ⟨_,⟨none,0,by rw [o1,o2];rfl,rfl⟩,by rw [o1];exact by repeat (first|exact zpa|exact zpn|(apply zpc;focus (repeat (first|exact zh|apply zt)))|apply zps)⟩
  |true =>
   by_cases hR1:SRight l
   ·have g1:sGet b=some l:=by rw [hgt,if_pos ⟨e1,hR1⟩]
    have o1:setO b=l:=by simp [setO,g1]
    have o2:setE b=0:=by simp [setE,g1]
    refine zz 8 ?_;have hg_q:=hg;have hR_q:=hR
    try have ha_q:=ha
    refine S.frzH (B:=ListP (RecG tys) 74 (.slice a.1 l.length a.2) l) zB fun gq hsq ⟨mq,hmq,hsmq⟩ hbq=>?_;replace hg:=Fr.sub_trans hg hsq;replace hR:=backR hR hbq
    try replace ha:=ha.mono hsq
    have hlr:Arr RecRp gq.h (.slice a.1 l.length a.2) l:=(ListP.arr hmq).mono hsmq;refine zz 2 ?_;refine O.vS (.p rfl) rfl zC rfl rfl zB rfDone_c ?_;refine O.sT 43 rfl (by exact e1) ?_;refine zz 3 ?_;refine O.v0 (.g rfl rfl) rfl zC rfl rfl ((r9right_c hlr)) ?_;refine O.sT 47 rfl (by exact decide_eq_true hR1) ?_;refine zz 6 ?_;refine S.back hbq ?_;replace hg:=hg_q;replace hR:=hR_q
    try replace ha:=ha_q
    clear hg_q hR_q;refine zz 5 ?_;refine S.ret2 results51 rfl rfl fun w hw=>Holds.end_ hR hw ?_;exact ⟨_,⟨a.1,a.2,by rw [o1,o2],rfl⟩,by rw [o1];exact by repeat (first|exact zpa|exact zpn|(apply zpc;focus (repeat (first|exact zh|apply zt)))|apply zps)⟩
   ·have g1:sGet b=none:=by rw [hgt,if_neg (fun q=>hR1 q.2)]
    have o1:setO b=[]:=by simp [setO,g1]
    have o2:setE b=4:=by simp [setE,g1]
    refine zz 8 ?_;have hg_q:=hg;have hR_q:=hR
    try have ha_q:=ha
    refine S.frzH (B:=ListP (RecG tys) 74 (.slice a.1 l.length a.2) l) zB fun gq hsq ⟨mq,hmq,hsmq⟩ hbq=>?_;replace hg:=Fr.sub_trans hg hsq;replace hR:=backR hR hbq
    try replace ha:=ha.mono hsq
    have hlr:Arr RecRp gq.h (.slice a.1 l.length a.2) l:=(ListP.arr hmq).mono hsmq;refine S.listNil (RecG tys) 74 ?_;refine zz 2 ?_;refine O.vS (.p rfl) rfl zC rfl rfl zB rfDone_c ?_;refine O.sT 43 rfl (by exact e1) ?_;refine zz 3 ?_;refine O.v0 (.g rfl rfl) rfl zC rfl rfl ((r9right_c hlr)) ?_;refine O.sF 47 rfl (by exact decide_eq_false hR1) ?_;refine zz 5 ?_;refine S.back hbq ?_;replace hg:=hg_q;replace hR:=hR_q
    try replace ha:=ha_q
    clear hg_q hR_q;refine zz 4 ?_;refine S.ret2 results51 rfl rfl fun w hw=>Holds.end_ hR hw ?_;exact ⟨_,⟨none,0,by rw [o1,o2];rfl,rfl⟩,by rw [o1];exact by repeat (first|exact zpa|exact zpn|(apply zpc;focus (repeat (first|exact zh|apply zt)))|apply zps)⟩
end Go.Proofs.YtodhbhanmdfdeaaGreat
