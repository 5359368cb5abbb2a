/- Texts of this proof. -/
import Derived.Test.YtodhbhanmdfdeaaGreatQRef20
open Go Go.Sp Go.Proofs.Tryz
set_option maxRecDepth 100000
set_option maxHeartbeats 1000000
attribute [local irreducible] obj Own OwnP
namespace Go.Proofs.YtodhbhanmdfdeaaGreat
theorem r20evd_c {r:Fr} {va:Value} {l:List EvdT} (ha:Arr EvdRp r va l):Con prog 70 #[va] r [] (Ret fun v η=>v=.bool (l.foldlM fE []).isSome∧η=[]):=by
 have har:=ha;have hE:=evRow_iff (l:=l);refine Con.o func70 fun g hg R hR=>?_;have ha:=ha.mono hg;have hbd:=ha.bound;obtain ⟨a1,c1,rfl⟩:=ha.shape;refine zz 10 ?_;refine S.loopK (ι:=Nat) (fun i=>i≤l.length∧∀ j (h:j<l.length),j<i→(evdOk l[j]=true∧∀ k (hk:k<j),l[k]≠l[j])) (fun i=>[(3,.int .i64 (i:Int))]) [(0,_)] (fun i=>[]) (fun i=>l.length - i) (0) (by exact ⟨by simp,fun j h q=>absurd q zD⟩) zq zq rfl fun i hx ih=>?_;have hm1:=meltRefl (g:=g);obtain ⟨hx1,hx2⟩:=hx;refine zz 8 ?_;refine S.cd rfl (fun h8=>?_) fun h8=>?_
 ·have hi:i<l.length:=by omega
  cases e1:evdOk l[i] with
  |false =>
   refine zz 8 ?_;refine O.iy har hg (h:=fun p13 cs13 hp13 hrr13=>?_);have hr13:=Rp.rel.mono hrr13 hg;obtain ⟨ea3_13,ea4_13,ea8_13,ea9_13,ec3_13,ec4_13,ec8_13,ec9_13,rfl,ho0_13,ho1_13,ho2_13,ha3_13,ha4_13,ho5_13,ho6_13,ho7_13,ha8_13,ha9_13⟩:=EvdRp.sh hr13;refine O.op (.p rfl) (.loadAgg isAgg55 zB rfl hp13) ?_;refine O.v0 (.p rfl) rfl zB rfl rfl ((r16right_c hr13)) ?_;refine O.sF 15 rfl (by exact e1) ?_;refine zz 7 ?_;exact S.rt results70 rfl hR ⟨congrArg _ (Bool.eq_false_iff.2 fun q=>by have:=((hE.1 q).1 i hi).1;rw [e1] at this;cases this).symm,rfl⟩
  |true =>
   refine zz 8 ?_;refine O.iy har hg (h:=fun p13 cs13 hp13 hrr13=>?_);have hr13:=Rp.rel.mono hrr13 hg;obtain ⟨ea3_13,ea4_13,ea8_13,ea9_13,ec3_13,ec4_13,ec8_13,ec9_13,rfl,ho0_13,ho1_13,ho2_13,ha3_13,ha4_13,ho5_13,ho6_13,ho7_13,ha8_13,ha9_13⟩:=EvdRp.sh hr13;refine O.op (.p rfl) (.loadAgg isAgg55 zB rfl hp13) ?_;refine O.v0 (.p rfl) rfl zB rfl rfl ((r16right_c hr13)) ?_;refine O.sT 15 rfl (by exact e1) ?_;refine zz 9 ?_;refine S.loopK (ι:=Nat) (fun k=>k≤i∧∀ j (h:j<l.length),j<k→l[j]≠l[i]) (fun k=>[(4,.int .i64 (k:Int))]) [(0,_),(3,_)] (fun k=>[]) (fun k=>i - k) (0) (by exact ⟨by simp,fun j h q=>absurd q zD⟩) zq zq rfl fun k hx ih=>?_;have hm2:=meltRefl (g:=g);obtain ⟨hy1,hy2⟩:=hx;refine zz 7 ?_;refine S.cd rfl (fun h19=>?_) fun h19=>?_
   ·have hk:k<i:=by omega
    have hkl:k<l.length:=by omega
    by_cases e2:l[k]=l[i]
    ·
     refine S.skip<|S.seq<|S.block<|S.seq<|S.regionD (L:=.range 9) F.mixed zB<|OD.q 2 rfl<|OD.iy har hg (h:=fun p24 cs24 hp24 hrr24=>?_);have hr24:=Rp.rel.mono hrr24 hg;obtain ⟨ea3_24,ea4_24,ea8_24,ea9_24,ec3_24,ec4_24,ec8_24,ec9_24,rfl,ho0_24,ho1_24,ho2_24,ha3_24,ha4_24,ho5_24,ho6_24,ho7_24,ha8_24,ha9_24⟩:=EvdRp.sh hr24;refine .quiet (.p rfl) rfl (fun _=>.loadAgg isAgg55 zB rfl hp24) ?_;refine OD.q 2 rfl<|OD.iy har hg (h:=fun p28 cs28 hp28 hrr28=>?_);have hr28:=Rp.rel.mono hrr28 hg;obtain ⟨ea3_28,ea4_28,ea8_28,ea9_28,ec3_28,ec4_28,ec8_28,ec9_28,rfl,ho0_28,ho1_28,ho2_28,ha3_28,ha4_28,ho5_28,ho6_28,ho7_28,ha8_28,ha9_28⟩:=EvdRp.sh hr28;refine .quiet (.p rfl) rfl (fun _=>.loadAgg isAgg55 zB rfl hp28) ?_;refine OD.v0 (.p rfl) zB rfl zB rfl rfl ((sameEvidence_c hr24 hr28)) ?_;refine OD.sT 30 rfl (by exact decide_eq_true e2) ?_;refine zz 6 ?_;exact S.rt results70 rfl hR ⟨congrArg _ (Bool.eq_false_iff.2 fun q=>((hE.1 q).1 i hi).2 k hk e2).symm,rfl⟩
    ·
     refine S.skip<|S.seq<|S.block<|S.seq<|S.regionD (L:=.range 9) F.mixed zB<|OD.q 2 rfl<|OD.iy har hg (h:=fun p24 cs24 hp24 hrr24=>?_);have hr24:=Rp.rel.mono hrr24 hg;obtain ⟨ea3_24,ea4_24,ea8_24,ea9_24,ec3_24,ec4_24,ec8_24,ec9_24,rfl,ho0_24,ho1_24,ho2_24,ha3_24,ha4_24,ho5_24,ho6_24,ho7_24,ha8_24,ha9_24⟩:=EvdRp.sh hr24;refine .quiet (.p rfl) rfl (fun _=>.loadAgg isAgg55 zB rfl hp24) ?_;refine OD.q 2 rfl<|OD.iy har hg (h:=fun p28 cs28 hp28 hrr28=>?_);have hr28:=Rp.rel.mono hrr28 hg;obtain ⟨ea3_28,ea4_28,ea8_28,ea9_28,ec3_28,ec4_28,ec8_28,ec9_28,rfl,ho0_28,ho1_28,ho2_28,ha3_28,ha4_28,ho5_28,ho6_28,ho7_28,ha8_28,ha9_28⟩:=EvdRp.sh hr28;refine .quiet (.p rfl) rfl (fun _=>.loadAgg isAgg55 zB rfl hp28) ?_;refine OD.v0 (.p rfl) zB rfl zB rfl rfl ((sameEvidence_c hr24 hr28)) ?_;refine OD.sF 30 rfl (by exact decide_eq_false e2) ?_;refine zz 9 ?_;exact S.wk (ih (k+1) (by exact ⟨by omega,lt_step hy2 fun _=>e2⟩) zD)
   ·clear ih
    have hk:k=i:=by omega
    refine zz 7 ?_;exact S.wk (ih (i+1) (by exact ⟨by omega,lt_step hx2 fun _=>⟨e1,fun k' hk' =>hy2 k' zD zD⟩⟩) zD)
 ·clear ih
  have hi:i=l.length:=by omega
  subst hi;refine zz 8 ?_;exact S.rt results70 rfl hR ⟨congrArg _ (by rw [Bool.eq_iff_iff,decide_eq_true_iff,hE];exact ⟨fun q=>⟨fun j h=>hx2 j h h,by omega⟩,fun q=>by have:=q.2;omega⟩),rfl⟩
theorem r20right_c {r:Fr} {cs:List Value} {h:HeldT} (hr:HeldRp.rel r cs h):Con prog 21 #[.agg cs.toArray] r [] (Ret fun v η=>v=.bool (imgW h).isSome∧η=[]):=by
 obtain ⟨xa0,xa1,xa2,xa3,xc0,xc1,xc2,xc3,rfl,k0,k1,k2,k3⟩:=HeldRp.sh hr;rw [imgW_isSome];refine Con.o func21 fun g hg R hR=>?_;have k0:=k0.mono hg;have k1:=k1.mono hg;have k2:=k2.mono hg;have k3:=k3.mono hg;refine S.seq<|S.region rfl<|O.opE (.p rfl) (.box (cs:=[_,_,_,_]) rfl rfl) ?_;rintro _ _ ⟨b1,rfl,rfl⟩;refine zz 3 ?_
 cases e0:(h.1.foldlM fL []).isSome with
 |false =>
  refine zz 3 ?_;refine O.v0 (.p rfl) rfl zB rfl rfl ((r20leaves_c k0)) ?_;refine O.sF 5 rfl (by exact e0) ?_;refine zz 17 ?_;exact S.rt results21 rfl hR ⟨by simp [e0],rfl⟩
 |true =>
  cases e1:(h.2.1.foldlM fR (0,0)).isSome with
  |false =>
   refine zz 3 ?_;refine O.v0 (.p rfl) rfl zB rfl rfl ((r20leaves_c k0)) ?_;refine O.sT 5 rfl (by exact e0) ?_;refine zz 3 ?_;refine O.v0 (.g rfl rfl) rfl zB rfl rfl ((r20roots_c k1)) ?_;refine O.sF 9 rfl (by exact e1) ?_;refine zz 13 ?_;exact S.rt results21 rfl hR ⟨by simp [e1],rfl⟩
  |true =>
   cases e2:(h.2.2.1.foldlM fE []).isSome with
   |false =>
    refine zz 3 ?_;refine O.v0 (.p rfl) rfl zB rfl rfl ((r20leaves_c k0)) ?_;refine O.sT 5 rfl (by exact e0) ?_;refine zz 3 ?_;refine O.v0 (.g rfl rfl) rfl zB rfl rfl ((r20roots_c k1)) ?_;refine O.sT 9 rfl (by exact e1) ?_;refine zz 4 ?_;refine O.v0 (.g rfl rfl) rfl zB rfl rfl ((r20evd_c k2)) ?_;refine O.sF 14 rfl (by exact e2) ?_;refine zz 8 ?_;exact S.rt results21 rfl hR ⟨by simp [e2],rfl⟩
   |true =>
    refine zz 3 ?_;refine O.v0 (.p rfl) rfl zB rfl rfl ((r20leaves_c k0)) ?_;refine O.sT 5 rfl (by exact e0) ?_;refine zz 3 ?_;refine O.v0 (.g rfl rfl) rfl zB rfl rfl ((r20roots_c k1)) ?_;refine O.sT 9 rfl (by exact e1) ?_;refine zz 4 ?_;refine O.v0 (.g rfl rfl) rfl zB rfl rfl ((r20evd_c k2)) ?_;refine O.sT 14 rfl (by exact e2) ?_;refine zz 4 ?_;refine O.v0 (.g rfl rfl) rfl zB rfl rfl ((r20quar_c k3)) ?_;refine zz 3 ?_;exact S.rt results21 rfl hR ⟨by simp [e0,e1,e2],rfl⟩
theorem r20put_c {r:Fr} {cs:List Value} {h:HeldT} (hr:HeldRp.rel r cs h) (hB:HeldB h) :
  Con prog 18 #[.agg cs.toArray] r [] (Ret fun v η=>∃ a c,v=.tuple #[.slice a (imgOut h).length c,.int .i64 (imgErr h)]∧η=[OwnP Rp.u8 5 (.slice a (imgOut h).length c) (imgOut h)]):=by
 obtain ⟨xa0,xa1,xa2,xa3,xc0,xc1,xc2,xc3,rfl,k0,k1,k2,k3⟩:=HeldRp.sh hr;have kr0:=k0;have kr1:=k1;have kr2:=k2;refine Con.o func18 fun g hg R hR=>?_;have hr:=hr.mono hg;have k3:=k3.mono hg;refine S.seq<|S.region rfl<|O.opE (.p rfl) (.box (cs:=[_,_,_,_]) rfl rfl) ?_;rintro _ _ ⟨b1,rfl,rfl⟩;refine zz 5 ?_;refine S.frzO zC fun g hs hm hb1=>?_;replace hg:=Fr.sub_trans hg hs;replace hR:=melted hR hm
 try replace hr:=hr.mono hs
 try replace k3:=k3.mono hs
 clear hs hm
 cases e:(imgW h).isSome with
 |false =>
  have e0:imgW h=none:=by simpa using e
  have e1:imgOut h=[]:=by simp [imgOut,e0]
  have e2:imgErr h=4:=by simp [imgErr,e0]
  rw [e1,e2] at hR;refine S.region rfl<|O.op (.p rfl) (.loadAgg isAgg27 zB rfl hb1) ?_;refine O.v0 (.p rfl) rfl zB rfl rfl ((r20right_c hr)) ?_;refine O.sF 16 rfl (by exact e) ?_;refine zz 8 ?_;refine S.addNil (T:=Rp.u8) (e:=5) ?_;refine S.ret2 results18 rfl rfl fun w hw=>Holds.end_ hR hw ?_;exact pk ⟨none,0,rfl,rfl⟩
 |true =>
  obtain ⟨ob,e0⟩:=Option.isSome_iff_exists.1 e;have e1:imgOut h=heldB h:=by rw [← imgW_out e0];simp [imgOut,e0]
  have e2:imgErr h=0:=by simp [imgErr,e0]
  obtain ⟨p0,p1,p2⟩:=imgW_all e;obtain ⟨⟨m0,m0'⟩,m1,m2,m3⟩:=hB;have y0:∀ x∈h.1,(leafB x).length≤5000000:=fun x hx=>by
   have:=m0' x hx;have:=(p0 x hx).1;have:=sB_le (p0 x hx).2.1;simp [leafB];omega
  have y1:∀ x∈h.2.1,(bytesOf (rootB x)).length≤161:=fun x hx=>by have:=rootB_length (p1 x hx);simp;omega
  have y2:∀ x∈h.2.2.1,(bytesOf (evdB x)).length≤330:=fun x hx=>by have:=evdB_length (p2 x hx);simp;omega
  rw [e1,e2] at hR;refine S.region rfl<|O.op (.p rfl) (.loadAgg isAgg27 zB rfl hb1) ?_;refine O.v0 (.p rfl) rfl zB rfl rfl ((r20right_c hr)) ?_;refine O.sT 16 rfl (by exact e) ?_;refine zz 6 ?_;refine O.op (.p rfl) (.fieldAddr fld27x0 rfl) ?_;refine zz 2 ?_;refine O.call0 (.p rfl) rfl zB rfl rfl (refNumber_c _) ?_;rintro _ _ ⟨a21,c21,rfl,rfl⟩;refine O.q 1 rfl<|O.nil (S.seq (S.seq ?_));generalize hz0:be h.1.length=z0;have hzl0:z0.length=8:=by rw [← hz0];rfl
  refine S.ownIs (T:=Rp.u8) (e:=5) (v' :=.slice a21 (z0++rowsB leafB (h.1.take 0)).length c21) (xs' :=(z0++rowsB leafB (h.1.take 0))) zC (by simp [rowsB,hzl0]) (by simp [rowsB,hzl0]) ?_;refine S.slot 4 (v' :=.slice a21 (z0++rowsB leafB (h.1.take 0)).length c21) rfl (by simp [rowsB,hzl0]) ?_;refine zz 4 ?_;refine S.loopK2 (ι:=Nat) (κ:=Option Addr × Nat) (fun i q=>i≤h.1.length) (fun i q=>[(4,.slice q.1 (z0++rowsB leafB (h.1.take i)).length q.2),(5,.int .i64 (i:Int))]) [(1,_)] (fun i q=>[OwnP Rp.u8 5 (.slice q.1 (z0++rowsB leafB (h.1.take i)).length q.2) (z0++rowsB leafB (h.1.take i))]) (fun i q=>h.1.length - i) (0) ((a21,c21)) zG zq zq rfl fun i q hx ih=>?_;have hm1:=meltRefl (g:=g);refine zz 4 ?_;refine O.op (.p rfl) (.fieldAddr fld27x0 rfl) ?_;refine zz 4 ?_;refine S.cd rfl (fun h26=>?_) fun h26=>?_
  ·have hi:i<h.1.length:=by omega
   have hle:=rowsB_le leafB 5000000 (h.1.take i) fun x hx=>y0 x (List.mem_of_mem_take hx);have hlt:(h.1.take i).length≤3000:=by rw [List.length_take];omega
   have htk:(z0++rowsB leafB (h.1.take i))++(bytesOf h.1[i].1++bytesOf (sB h.1[i].2.1))=(z0++rowsB leafB (h.1.take (i+1))):=by rw [rowsB_snoc _ _ _ hi,List.append_assoc];rfl
   have hln:(z0++rowsB leafB (h.1.take i)).length≤20000000000:=by rw [List.length_append];omega
   generalize (z0++rowsB leafB (h.1.take i))=so at htk hln ⊢;have hp:=p0 _ (List.getElem_mem hi);have hm:=m0' _ (List.getElem_mem hi);have hso:sOut h.1[i].2.1=sB h.1[i].2.1:=if_pos hp.2;have hbl:=sB_le hp.2.1;have hfl:[so,bytesOf h.1[i].1,bytesOf (sB h.1[i].2.1)].flatten=z0++rowsB leafB (h.1.take (i+1)):=by rw [← htk];simp
   have hfl2:(so++(bytesOf h.1[i].1++bytesOf (sB h.1[i].2.1))).length≤100000000000:=by simp;omega
   rw [htk] at hfl2;refine zz 5 ?_;refine O.op (.p rfl) (.fieldAddr fld27x0 rfl) ?_;refine zz 1 ?_;refine O.q 1 rfl<|O.iy kr0 hg (h:=fun p33 cs33 hp33 hrr33=>?_);have hr33:=Rp.rel.mono hrr33 hg;obtain ⟨la1_33,lc1_33,rfl,ho0_33,ha1_33⟩:=LeafRp.sh hr33;refine O.op (.p rfl) (.fieldAddr fld49x1 rfl) ?_;refine zz 1 ?_;refine O.call0 (.p rfl) rfl zB rfl rfl ((r9put_c ha1_33 zD)) ?_;rintro _ _ ⟨a36,c36,rfl,rfl⟩;rw [hso];refine zz 8 ?_;refine O.op (.p rfl) (.fieldAddr fld27x0 rfl) ?_;refine zz 1 ?_;refine O.q 1 rfl<|O.iy kr0 hg (h:=fun p43 cs43 hp43 hrr43=>?_);have hr43:=Rp.rel.mono hrr43 hg;obtain ⟨la1_43,lc1_43,rfl,ho0_43,ha1_43⟩:=LeafRp.sh hr43;refine O.op (.p rfl) (.fieldAddr fld49x0 rfl) ?_;refine zz 1 ?_;refine O.opE (.p rfl) (.strBytesO underlying9 underlying31 underlying5 rfl zY) ?_;rintro _ _ ⟨a46,c46,rfl,rfl⟩;generalize h.1[i]=ft at hp hm hso hbl hfl hfl2 htk ⊢;refine O.callB (.p rfl) rfl zB rfl rfl (bs:=[OwnP Rp.u8 5 (.slice a46 ft.1.length c46) ft.1]) zI (fun m hm hd=>refBytes_c (hm.arr.right hd) zD) ?_;rintro _ _ ⟨a47,c47,rfl,rfl⟩;refine O.q 1 rfl<|O.callB (.p rfl) rfl zB rfl rfl (bs:=[OwnP Rp.u8 5 (.slice a36 (sB ft.2.1).length c36) (sB ft.2.1)]) zI (fun m hm hd=>refBytes_c (hm.arr.right hd) zD) ?_;rintro _ _ ⟨a49,c49,rfl,rfl⟩;refine O.opE (.p rfl) (.litP (T:=Rp.val) (ys:=[_,_,_]) underlying39 elem31 zE rfl rfl ⟨⟨rfl,rfl⟩,⟨rfl,rfl⟩,⟨rfl,rfl⟩,trivial⟩ zE) ?_
   rintro _ _ ⟨a50,c50,rfl,rfl⟩;refine O.callB (.p rfl) rfl zB rfl rfl (bs:=[OwnP Rp.val 31 (.slice a50 3 c50) [.slice q.1 so.length q.2,.slice a47 (bytesOf ft.1).length c47,.slice a49 (bytesOf (sB ft.2.1)).length c49],OwnP Rp.u8 5 (.slice q.1 so.length q.2) so,OwnP Rp.u8 5 (.slice a47 (bytesOf ft.1).length c47) (bytesOf ft.1),OwnP Rp.u8 5 (.slice a49 (bytesOf (sB ft.2.1)).length c49) (bytesOf (sB ft.2.1))]) zI (fun m hm hd=>refJoin_c (xss:=[so,bytesOf ft.1,bytesOf (sB ft.2.1)]) ((hm.arr.right hd).rows ⟨hm.tail.arr.right hd,hm.tail.tail.arr.right hd,hm.tail.tail.tail.arr.right hd,trivial⟩) (by rw [hfl];omega)) ?_;rintro _ _ ⟨a51,c51,rfl,rfl⟩;rw [hfl];refine zz 8 ?_;exact S.pw (ih (i+1) ((a51,c51)) zD zD)
  ·clear ih
   have hi:i=h.1.length:=by omega
   subst hi;rw [List.take_length];have hq0:=rowsB_le leafB 5000000 h.1 y0;have hw0:(z0++rowsB leafB h.1).length≤20000000000:=by rw [List.length_append];omega
   generalize hu0:z0++rowsB leafB h.1=u0 at hw0 ⊢;refine zz 4 ?_;refine O.op (.p rfl) (.fieldAddr fld27x1 rfl) ?_;refine zz 2 ?_;refine O.call0 (.p rfl) rfl zB rfl rfl ((refNumber_c _)) ?_;rintro _ _ ⟨a56,c56,rfl,rfl⟩;refine O.frzA zC fun g hs hm ha56=>?_;replace hg:=Fr.sub_trans hg hs;replace hR:=melted hR hm
   try replace hr:=hr.mono hs
   try replace k3:=k3.mono hs
   try replace hb1:=hb1.mono hs
   replace hm1:=meltTrans hm1 hm;clear hs hm;refine O.opE (.p rfl) (.appendP (T:=Rp.u8) pure_u8 underlying31 elem5 zE rfl rfl zC zA zH zH) ?_;rintro _ _ ⟨a57,c57,rfl,rfl⟩;refine O.q 1 rfl<|O.nil (S.seq (S.seq ?_));generalize hz1:u0++be h.2.1.length=z1;have hzl1:z1.length=u0.length+8:=by rw [← hz1];simp
   refine S.ownIs (T:=Rp.u8) (e:=5) (v' :=.slice a57 (z1++rowsB (fun x=>bytesOf (rootB x)) (h.2.1.take 0)).length c57) (xs' :=(z1++rowsB (fun x=>bytesOf (rootB x)) (h.2.1.take 0))) zC (by simp [rowsB,hzl1]) (by simp [rowsB,hzl1]) ?_;refine S.slot 4 (v' :=.slice a57 (z1++rowsB (fun x=>bytesOf (rootB x)) (h.2.1.take 0)).length c57) rfl (by simp [rowsB,hzl1]) ?_;refine zz 4 ?_;refine S.loopK2 (ι:=Nat) (κ:=Option Addr × Nat) (fun i q=>i≤h.2.1.length) (fun i q=>[(4,.slice q.1 (z1++rowsB (fun x=>bytesOf (rootB x)) (h.2.1.take i)).length q.2),(8,.int .i64 (i:Int))]) [(1,_)] (fun i q=>[OwnP Rp.u8 5 (.slice q.1 (z1++rowsB (fun x=>bytesOf (rootB x)) (h.2.1.take i)).length q.2) (z1++rowsB (fun x=>bytesOf (rootB x)) (h.2.1.take i))]) (fun i q=>h.2.1.length - i) (0) ((a57,c57)) zG zq zq rfl fun i q hx ih=>?_;have hm2:=meltRefl (g:=g);refine zz 4 ?_;refine O.op (.p rfl) (.fieldAddr fld27x1 rfl) ?_;refine zz 4 ?_;refine S.cd rfl (fun h62=>?_) fun h62=>?_
   ·have hi:i<h.2.1.length:=by omega
    have hle:=rowsB_le (fun x=>bytesOf (rootB x)) 161 (h.2.1.take i) fun x hx=>y1 x (List.mem_of_mem_take hx);have hlt:(h.2.1.take i).length≤3000:=by rw [List.length_take];omega
    have htk:(z1++rowsB (fun x=>bytesOf (rootB x)) (h.2.1.take i))++bytesOf (rootB h.2.1[i])=(z1++rowsB (fun x=>bytesOf (rootB x)) (h.2.1.take (i+1))):=by rw [rowsB_snoc _ _ _ hi,List.append_assoc]
    have hln:(z1++rowsB (fun x=>bytesOf (rootB x)) (h.2.1.take i)).length≤21000000000:=by rw [List.length_append];omega
    generalize (z1++rowsB (fun x=>bytesOf (rootB x)) (h.2.1.take i))=so at htk hln ⊢;have hp:=p1 _ (List.getElem_mem hi);have hbl:=rootB_length hp;have hro:rootOut h.2.1[i]=rootB h.2.1[i]:=by simp [rootOut,hp]
    refine zz 5 ?_;refine O.op (.p rfl) (.fieldAddr fld27x1 rfl) ?_;refine zz 1 ?_;refine O.q 1 rfl<|O.iy kr1 hg (h:=fun p69 cs69 hp69 hrr69=>?_);have hr69:=Rp.rel.mono hrr69 hg;obtain ⟨ta3_69,ta4_69,tc3_69,tc4_69,rfl,ho0_69,ho1_69,ho2_69,ha3_69,ha4_69⟩:=RootRp.sh hr69;refine O.op (.p rfl) (.loadAgg isAgg52 zB rfl hp69) ?_;refine O.call0 (.p rfl) rfl zB rfl rfl ((r15put_c hr69)) ?_;rintro _ _ ⟨a71,c71,rfl,rfl⟩;rw [hro];refine zz 9 ?_;refine O.callB (.p rfl) rfl zB rfl rfl (bs:=[OwnP Rp.u8 5 (.slice a71 (rootB h.2.1[i]).length c71) (rootB h.2.1[i])]) zI (fun m hm hd=>refBytes_c (hm.arr.right hd) zD) ?_;rintro _ _ ⟨a76,c76,rfl,rfl⟩;refine O.frzA zC fun g hs hm ha76=>?_;replace hg:=Fr.sub_trans hg hs;replace hR:=melted hR hm
    try replace hr:=hr.mono hs
    try replace k3:=k3.mono hs
    try replace hb1:=hb1.mono hs
    try replace ha56:=ha56.mono hs
    try replace hp69:=hp69.mono hs
    try replace hr69:=hr69.mono hs
    try replace ha3_69:=ha3_69.mono hs
    try replace ha4_69:=ha4_69.mono hs
    replace hm1:=meltTrans hm1 hm;replace hm2:=meltTrans hm2 hm;clear hs hm;refine O.opE (.p rfl) (.appendP (T:=Rp.u8) pure_u8 underlying31 elem5 zE rfl rfl zC zA zH zH) ?_;rintro _ _ ⟨a77,c77,rfl,rfl⟩;refine zz 8 ?_;rw [htk];rw [← List.length_append,htk];exact S.melt hm2 (S.pw (ih (i+1) ((a77,c77)) zD zD))
   ·clear ih
    have hi:i=h.2.1.length:=by omega
    subst hi;rw [List.take_length];have hq1:=rowsB_le (fun x=>bytesOf (rootB x)) 161 h.2.1 y1;have hw1:(z1++rowsB (fun x=>bytesOf (rootB x)) h.2.1).length≤21000000000:=by rw [List.length_append];omega
    generalize hu1:z1++rowsB (fun x=>bytesOf (rootB x)) h.2.1=u1 at hw1 ⊢;refine zz 4 ?_;refine O.op (.p rfl) (.fieldAddr fld27x2 rfl) ?_;refine zz 2 ?_;refine O.call0 (.p rfl) rfl zB rfl rfl ((refNumber_c _)) ?_;rintro _ _ ⟨a82,c82,rfl,rfl⟩;refine O.frzA zC fun g hs hm ha82=>?_;replace hg:=Fr.sub_trans hg hs;replace hR:=melted hR hm
    try replace hr:=hr.mono hs
    try replace k3:=k3.mono hs
    try replace hb1:=hb1.mono hs
    try replace ha56:=ha56.mono hs
    replace hm1:=meltTrans hm1 hm;replace hm2:=meltTrans hm2 hm;clear hs hm;refine O.opE (.p rfl) (.appendP (T:=Rp.u8) pure_u8 underlying31 elem5 zE rfl rfl zC zA zH zH) ?_;rintro _ _ ⟨a83,c83,rfl,rfl⟩;refine O.q 1 rfl<|O.nil (S.seq (S.seq ?_));generalize hz2:u1++be h.2.2.1.length=z2;have hzl2:z2.length=u1.length+8:=by rw [← hz2];simp
    refine S.ownIs (T:=Rp.u8) (e:=5) (v' :=.slice a83 (z2++rowsB (fun x=>bytesOf (evdB x)) (h.2.2.1.take 0)).length c83) (xs' :=(z2++rowsB (fun x=>bytesOf (evdB x)) (h.2.2.1.take 0))) zC (by simp [rowsB,hzl2]) (by simp [rowsB,hzl2]) ?_;refine S.slot 4 (v' :=.slice a83 (z2++rowsB (fun x=>bytesOf (evdB x)) (h.2.2.1.take 0)).length c83) rfl (by simp [rowsB,hzl2]) ?_;refine zz 4 ?_;refine S.loopK2 (ι:=Nat) (κ:=Option Addr × Nat) (fun i q=>i≤h.2.2.1.length) (fun i q=>[(4,.slice q.1 (z2++rowsB (fun x=>bytesOf (evdB x)) (h.2.2.1.take i)).length q.2),(11,.int .i64 (i:Int))]) [(1,_)] (fun i q=>[OwnP Rp.u8 5 (.slice q.1 (z2++rowsB (fun x=>bytesOf (evdB x)) (h.2.2.1.take i)).length q.2) (z2++rowsB (fun x=>bytesOf (evdB x)) (h.2.2.1.take i))]) (fun i q=>h.2.2.1.length - i) (0) ((a83,c83)) zG zq zq rfl fun i q hx ih=>?_;have hm3:=meltRefl (g:=g);refine zz 4 ?_;refine O.op (.p rfl) (.fieldAddr fld27x2 rfl) ?_;refine zz 4 ?_;refine S.cd rfl (fun h88=>?_) fun h88=>?_
    ·have hi:i<h.2.2.1.length:=by omega
     have hle:=rowsB_le (fun x=>bytesOf (evdB x)) 330 (h.2.2.1.take i) fun x hx=>y2 x (List.mem_of_mem_take hx);have hlt:(h.2.2.1.take i).length≤3000:=by rw [List.length_take];omega
     have htk:(z2++rowsB (fun x=>bytesOf (evdB x)) (h.2.2.1.take i))++bytesOf (evdB h.2.2.1[i])=(z2++rowsB (fun x=>bytesOf (evdB x)) (h.2.2.1.take (i+1))):=by rw [rowsB_snoc _ _ _ hi,List.append_assoc]
     have hln:(z2++rowsB (fun x=>bytesOf (evdB x)) (h.2.2.1.take i)).length≤22000000000:=by rw [List.length_append];omega
     generalize (z2++rowsB (fun x=>bytesOf (evdB x)) (h.2.2.1.take i))=so at htk hln ⊢;have hp:=p2 _ (List.getElem_mem hi);have hbl:=evdB_length hp;have hro:evdOut h.2.2.1[i]=evdB h.2.2.1[i]:=by simp [evdOut,hp]
     refine zz 5 ?_;refine O.op (.p rfl) (.fieldAddr fld27x2 rfl) ?_;refine zz 1 ?_;refine O.q 1 rfl<|O.iy kr2 hg (h:=fun p95 cs95 hp95 hrr95=>?_);have hr95:=Rp.rel.mono hrr95 hg;obtain ⟨ea3_95,ea4_95,ea8_95,ea9_95,ec3_95,ec4_95,ec8_95,ec9_95,rfl,ho0_95,ho1_95,ho2_95,ha3_95,ha4_95,ho5_95,ho6_95,ho7_95,ha8_95,ha9_95⟩:=EvdRp.sh hr95;refine O.op (.p rfl) (.loadAgg isAgg55 zB rfl hp95) ?_;refine O.call0 (.p rfl) rfl zB rfl rfl ((r16put_c hr95)) ?_;rintro _ _ ⟨a97,c97,rfl,rfl⟩;rw [hro];refine zz 9 ?_;refine O.callB (.p rfl) rfl zB rfl rfl (bs:=[OwnP Rp.u8 5 (.slice a97 (evdB h.2.2.1[i]).length c97) (evdB h.2.2.1[i])]) zI (fun m hm hd=>refBytes_c (hm.arr.right hd) zD) ?_;rintro _ _ ⟨a102,c102,rfl,rfl⟩;refine O.frzA zC fun g hs hm ha102=>?_;replace hg:=Fr.sub_trans hg hs;replace hR:=melted hR hm
     try replace hr:=hr.mono hs
     try replace k3:=k3.mono hs
     try replace hb1:=hb1.mono hs
     try replace ha56:=ha56.mono hs
     try replace ha82:=ha82.mono hs
     try replace hp95:=hp95.mono hs
     try replace hr95:=hr95.mono hs
     try replace ha3_95:=ha3_95.mono hs
     try replace ha4_95:=ha4_95.mono hs
     try replace ha8_95:=ha8_95.mono hs
     try replace ha9_95:=ha9_95.mono hs
     replace hm1:=meltTrans hm1 hm;replace hm2:=meltTrans hm2 hm;replace hm3:=meltTrans hm3 hm;clear hs hm;refine O.opE (.p rfl) (.appendP (T:=Rp.u8) pure_u8 underlying31 elem5 zE rfl rfl zC zA zH zH) ?_;rintro _ _ ⟨a103,c103,rfl,rfl⟩;refine zz 8 ?_;rw [htk];rw [← List.length_append,htk];exact S.melt hm3 (S.pw (ih (i+1) ((a103,c103)) zD zD))
    ·clear ih
     have hi:i=h.2.2.1.length:=by omega
     subst hi;rw [List.take_length];have hq2:=rowsB_le (fun x=>bytesOf (evdB x)) 330 h.2.2.1 y2;have hw2:(z2++rowsB (fun x=>bytesOf (evdB x)) h.2.2.1).length≤22000000000:=by rw [List.length_append];omega
     generalize hu2:z2++rowsB (fun x=>bytesOf (evdB x)) h.2.2.1=u2 at hw2 ⊢;refine zz 4 ?_;refine O.op (.p rfl) (.fieldAddr fld27x3 rfl) ?_;refine zz 2 ?_;refine O.call0 (.p rfl) rfl zB rfl rfl ((refNumber_c _)) ?_;rintro _ _ ⟨a108,c108,rfl,rfl⟩;refine O.frzA zC fun g hs hm ha108=>?_;replace hg:=Fr.sub_trans hg hs;replace hR:=melted hR hm
     try replace hr:=hr.mono hs
     try replace k3:=k3.mono hs
     try replace hb1:=hb1.mono hs
     try replace ha56:=ha56.mono hs
     try replace ha82:=ha82.mono hs
     replace hm1:=meltTrans hm1 hm;replace hm2:=meltTrans hm2 hm;replace hm3:=meltTrans hm3 hm;clear hs hm;refine O.opE (.p rfl) (.appendP (T:=Rp.u8) pure_u8 underlying31 elem5 zE rfl rfl zC zA zH zH) ?_;rintro _ _ ⟨a109,c109,rfl,rfl⟩;refine O.q 1 rfl<|O.nil (S.seq (S.seq ?_));generalize hz3:u2++be h.2.2.2.1.length=z3;have hzl3:z3.length=u2.length+8:=by rw [← hz3];simp
     have y3:∀ x∈h.2.2.2.1,(be x).length≤8:=fun x _=>by simp
     refine S.ownIs (T:=Rp.u8) (e:=5) (v' :=.slice a109 (z3++rowsB be (h.2.2.2.1.take 0)).length c109) (xs' :=(z3++rowsB be (h.2.2.2.1.take 0))) zC (by simp [rowsB,hzl3]) (by simp [rowsB,hzl3]) ?_;refine S.slot 4 (v' :=.slice a109 (z3++rowsB be (h.2.2.2.1.take 0)).length c109) rfl (by simp [rowsB,hzl3]) ?_;refine zz 4 ?_;refine S.loopK2 (ι:=Nat) (κ:=Option Addr × Nat) (fun i q=>i≤h.2.2.2.1.length) (fun i q=>[(4,.slice q.1 (z3++rowsB be (h.2.2.2.1.take i)).length q.2),(14,.int .i64 (i:Int))]) [(1,_)] (fun i q=>[OwnP Rp.u8 5 (.slice q.1 (z3++rowsB be (h.2.2.2.1.take i)).length q.2) (z3++rowsB be (h.2.2.2.1.take i))]) (fun i q=>h.2.2.2.1.length - i) (0) ((a109,c109)) zG zq zq rfl fun i q hx ih=>?_;have hm4:=meltRefl (g:=g);refine zz 4 ?_;refine O.op (.p rfl) (.fieldAddr fld27x3 rfl) ?_;refine zz 4 ?_;refine S.cd rfl (fun h114=>?_) fun h114=>?_
     ·have hi:i<h.2.2.2.1.length:=by omega
      have hle:=rowsB_le be 8 (h.2.2.2.1.take i) fun x hx=>y3 x (List.mem_of_mem_take hx);have hlt:(h.2.2.2.1.take i).length≤3000:=by rw [List.length_take];omega
      have htk:(z3++rowsB be (h.2.2.2.1.take i))++be h.2.2.2.1[i]=(z3++rowsB be (h.2.2.2.1.take (i+1))):=by rw [rowsB_snoc _ _ _ hi,List.append_assoc]
      have hln:(z3++rowsB be (h.2.2.2.1.take i)).length≤23000000000:=by rw [List.length_append];omega
      generalize (z3++rowsB be (h.2.2.2.1.take i))=so at htk hln ⊢;refine zz 5 ?_;refine O.op (.p rfl) (.fieldAddr fld27x3 rfl) ?_;refine zz 1 ?_;refine O.q 1 rfl<|O.iz (k3) (h:=fun p121 cs121 hp121 hr121=>?_);obtain ⟨rfl,_⟩:=hr121;refine zz 1 ?_;refine O.call0 (.p rfl) rfl zB rfl rfl ((refNumber_c _)) ?_;rintro _ _ ⟨a123,c123,rfl,rfl⟩;refine O.frzA zC fun g hs hm ha123=>?_;replace hg:=Fr.sub_trans hg hs;replace hR:=melted hR hm
      try replace hr:=hr.mono hs
      try replace k3:=k3.mono hs
      try replace hb1:=hb1.mono hs
      try replace ha56:=ha56.mono hs
      try replace ha82:=ha82.mono hs
      try replace ha108:=ha108.mono hs
      try replace hp121:=hp121.mono hs
      replace hm1:=meltTrans hm1 hm;replace hm2:=meltTrans hm2 hm;replace hm3:=meltTrans hm3 hm;replace hm4:=meltTrans hm4 hm;clear hs hm;refine O.opE (.p rfl) (.appendP (T:=Rp.u8) pure_u8 underlying31 elem5 zE rfl rfl zC zA zH zH) ?_;rintro _ _ ⟨a124,c124,rfl,rfl⟩;refine zz 8 ?_;rw [htk];rw [← List.length_append,htk];exact S.melt hm4 (S.pw (ih (i+1) ((a124,c124)) zD zD))
     ·clear ih
      have hi:i=h.2.2.2.1.length:=by omega
      subst hi;rw [List.take_length];have hfin:z3++rowsB be h.2.2.2.1=heldB h:=by rw [← hz3,← hu2,← hz2,← hu1,← hz1,← hu0,← hz0];rfl
      rw [hfin];refine zz 7 ?_;refine S.ret2 results18 rfl rfl fun w hw=>Holds.end_ hR hw ?_;exact pk ⟨q.1,q.2,rfl,rfl⟩
theorem CopyBytes_c {r:Fr} {va:Value} {xs:List UInt8} (ha:Arr Rp.u8 r va xs) (hl:xs.length≤140737488355328) :
  Con prog 32 #[va] r [] (Ret fun v η=>∃ a c,v=.slice a xs.length c∧η=[OwnP Rp.u8 5 v xs]):=by
 refine Con.o func32 fun g hg R hR=>?_;obtain ⟨a1,c1,rfl⟩:=ha.shape;refine S.addNil (T:=Rp.u8) (e:=5) ?_;refine zz 12 ?_;refine O.opE (.p rfl) (.appendP (T:=Rp.u8) pure_u8 underlying31 elem5 zE rfl rfl zC zA zH zH) ?_;rintro _ _ ⟨a6,c6,rfl,rfl⟩;refine O.q 1 rfl<|O.nil<|S.ret results32 rfl fun w hw=>hR _ _ w ?_ hw;exact ⟨a6,c6,by simp,rfl⟩
def pick (x n:Int):Int:=if n<1 then 0 else if x.tmod n<0 then x.tmod n+n else x.tmod n
theorem flatLimbs_0 {r:Fr}:Con prog 162 #[.slice none 0 0] r [] (Ret fun v η=>v=.bool true∧η=[]):=by
 refine Con.o func162 fun g hg R hR=>?_;refine zz 19 ?_;refine S.cd rfl (fun h19=>?_) fun h19=>?_
 ·exact absurd zF zG
 refine zz 5 ?_;refine O.opE (.p rfl) (.makeP (T:=Rp.val) (.slice none 0 0) (m:=0) underlying100 elem260 zE ⟨rfl,rfl⟩ rfl rfl rfl rfl zE zE) ?_;rintro _ _ ⟨a43,c43,rfl,rfl⟩;refine zz 17 ?_;refine S.cd rfl (fun h47=>?_) fun h47=>?_
 ·exact absurd zF zG
 refine zz 16 ?_;refine S.cd rfl (fun h78=>?_) fun h78=>?_
 ·exact absurd zF zG
 refine zz 16 ?_;refine S.cd rfl (fun h130=>?_) fun h130=>?_
 ·exact absurd zF zG
 refine zz 16 ?_;refine S.cd rfl (fun h160=>?_) fun h160=>?_
 ·exact absurd zF zG
 refine zz 5 ?_;exact S.rt results162 rfl hR ⟨rfl,rfl⟩
theorem flatWords_0 {r:Fr}:Con prog 163 #[.slice none 0 0] r [] (Ret fun v η=>v=.bool true∧η=[]):=by
 refine Con.o func163 fun g hg R hR=>?_;refine zz 19 ?_;refine S.cd rfl (fun h19=>?_) fun h19=>?_
 ·exact absurd zF zG
 refine zz 5 ?_;refine O.opE (.p rfl) (.makeP (T:=Rp.val) (.slice none 0 0) (m:=0) underlying101 elem262 zE ⟨rfl,rfl⟩ rfl rfl rfl rfl zE zE) ?_;rintro _ _ ⟨a43,c43,rfl,rfl⟩;refine zz 17 ?_;refine S.cd rfl (fun h47=>?_) fun h47=>?_
 ·exact absurd zF zG
 refine zz 16 ?_;refine S.cd rfl (fun h78=>?_) fun h78=>?_
 ·exact absurd zF zG
 refine zz 16 ?_;refine S.cd rfl (fun h130=>?_) fun h130=>?_
 ·exact absurd zF zG
 refine zz 16 ?_;refine S.cd rfl (fun h160=>?_) fun h160=>?_
 ·exact absurd zF zG
 refine zz 5 ?_;exact S.rt results163 rfl hR ⟨rfl,rfl⟩
theorem flatInts_0 {r:Fr}:Con prog 164 #[.slice none 0 0] r [] (Ret fun v η=>v=.bool true∧η=[]):=by
 refine Con.o func164 fun g hg R hR=>?_;refine zz 19 ?_;refine S.cd rfl (fun h19=>?_) fun h19=>?_
 ·exact absurd zF zG
 refine zz 5 ?_;refine O.opE (.p rfl) (.makeP (T:=Rp.val) (.slice none 0 0) (m:=0) underlying102 elem25 zE ⟨rfl,rfl⟩ rfl rfl rfl rfl zE zE) ?_;rintro _ _ ⟨a42,c42,rfl,rfl⟩;refine zz 17 ?_;refine S.cd rfl (fun h46=>?_) fun h46=>?_
 ·exact absurd zF zG
 refine zz 16 ?_;refine S.cd rfl (fun h76=>?_) fun h76=>?_
 ·exact absurd zF zG
 refine zz 16 ?_;refine S.cd rfl (fun h126=>?_) fun h126=>?_
 ·exact absurd zF zG
 refine zz 16 ?_;refine S.cd rfl (fun h155=>?_) fun h155=>?_
 ·exact absurd zF zG
 refine zz 5 ?_;exact S.rt results164 rfl hR ⟨rfl,rfl⟩
theorem flatLongs_0 {r:Fr}:Con prog 165 #[.slice none 0 0] r [] (Ret fun v η=>v=.bool true∧η=[]):=by
 refine Con.o func165 fun g hg R hR=>?_;refine zz 19 ?_;refine S.cd rfl (fun h19=>?_) fun h19=>?_
 ·exact absurd zF zG
 refine zz 5 ?_;refine O.opE (.p rfl) (.makeP (T:=Rp.val) (.slice none 0 0) (m:=0) underlying103 elem263 zE ⟨rfl,rfl⟩ rfl rfl rfl rfl zE zE) ?_;rintro _ _ ⟨a42,c42,rfl,rfl⟩;refine zz 17 ?_;refine S.cd rfl (fun h46=>?_) fun h46=>?_
 ·exact absurd zF zG
 refine zz 16 ?_;refine S.cd rfl (fun h76=>?_) fun h76=>?_
 ·exact absurd zF zG
 refine zz 16 ?_;refine S.cd rfl (fun h126=>?_) fun h126=>?_
 ·exact absurd zF zG
 refine zz 16 ?_;refine S.cd rfl (fun h155=>?_) fun h155=>?_
 ·exact absurd zF zG
 refine zz 5 ?_;exact S.rt results165 rfl hR ⟨rfl,rfl⟩
theorem flatTexts_0 {r:Fr}:Con prog 166 #[.slice none 0 0] r [] (Ret fun v η=>v=.bool true∧η=[]):=by
 refine Con.o func166 fun g hg R hR=>?_;refine zz 19 ?_;refine S.cd rfl (fun h19=>?_) fun h19=>?_
 ·exact absurd zF zG
 refine zz 5 ?_;refine O.opE (.p rfl) (.makeP (T:=Rp.val) (.slice none 0 0) (m:=0) underlying104 elem184 zE ⟨rfl,rfl⟩ rfl rfl rfl rfl zE zE) ?_;rintro _ _ ⟨a42,c42,rfl,rfl⟩;refine zz 17 ?_;refine S.cd rfl (fun h46=>?_) fun h46=>?_
 ·exact absurd zF zG
 refine zz 16 ?_;refine S.cd rfl (fun h76=>?_) fun h76=>?_
 ·exact absurd zF zG
 refine zz 16 ?_;refine S.cd rfl (fun h126=>?_) fun h126=>?_
 ·exact absurd zF zG
 refine zz 16 ?_;refine S.cd rfl (fun h155=>?_) fun h155=>?_
 ·exact absurd zF zG
 refine zz 5 ?_;exact S.rt results166 rfl hR ⟨rfl,rfl⟩
theorem flatTruths_0 {r:Fr}:Con prog 168 #[.slice none 0 0] r [] (Ret fun v η=>v=.bool true∧η=[]):=by
 refine Con.o func168 fun g hg R hR=>?_;refine zz 19 ?_;refine S.cd rfl (fun h19=>?_) fun h19=>?_
 ·exact absurd zF zG
 refine zz 5 ?_;refine O.opE (.p rfl) (.makeP (T:=Rp.val) (.slice none 0 0) (m:=0) underlying105 elem264 zE ⟨rfl,rfl⟩ rfl rfl rfl rfl zE zE) ?_;rintro _ _ ⟨a44,c44,rfl,rfl⟩;refine zz 17 ?_;refine S.cd rfl (fun h48=>?_) fun h48=>?_
 ·exact absurd zF zG
 refine zz 16 ?_;refine S.cd rfl (fun h80=>?_) fun h80=>?_
 ·exact absurd zF zG
 refine zz 16 ?_;refine S.cd rfl (fun h134=>?_) fun h134=>?_
 ·exact absurd zF zG
 refine zz 16 ?_;refine S.cd rfl (fun h165=>?_) fun h165=>?_
 ·exact absurd zF zG
 refine zz 5 ?_;exact S.rt results168 rfl hR ⟨rfl,rfl⟩
theorem flatRows_0 {r:Fr}:Con prog 169 #[.slice none 0 0] r [] (Ret fun v η=>v=.bool true∧η=[]):=by
 refine Con.o func169 fun g hg R hR=>?_;refine zz 19 ?_;refine S.cd rfl (fun h19=>?_) fun h19=>?_
 ·exact absurd zF zG
 refine zz 5 ?_;refine O.opE (.p rfl) (.makeP (T:=Rp.val) (.slice none 0 0) (m:=0) underlying106 elem39 zE ⟨rfl,rfl⟩ rfl rfl rfl rfl zE zE) ?_;rintro _ _ ⟨a42,c42,rfl,rfl⟩;refine zz 17 ?_;refine S.cd rfl (fun h46=>?_) fun h46=>?_
 ·exact absurd zF zG
 refine zz 16 ?_;refine S.cd rfl (fun h76=>?_) fun h76=>?_
 ·exact absurd zF zG
 refine zz 16 ?_;refine S.cd rfl (fun h126=>?_) fun h126=>?_
 ·exact absurd zF zG
 refine zz 16 ?_;refine S.cd rfl (fun h155=>?_) fun h155=>?_
 ·exact absurd zF zG
 refine zz 5 ?_;exact S.rt results169 rfl hR ⟨rfl,rfl⟩
theorem flatDots_0 {r:Fr}:Con prog 170 #[.slice none 0 0] r [] (Ret fun v η=>v=.bool true∧η=[]):=by
 refine Con.o func170 fun g hg R hR=>?_;refine zz 19 ?_;refine S.cd rfl (fun h19=>?_) fun h19=>?_
 ·exact absurd zF zG
 refine zz 5 ?_;refine O.opE (.p rfl) (.makeP (T:=Rp.val) (.slice none 0 0) (m:=0) underlying107 elem72 zE ⟨rfl,rfl⟩ rfl rfl rfl rfl zE zE) ?_;rintro _ _ ⟨a42,c42,rfl,rfl⟩;refine zz 17 ?_;refine S.cd rfl (fun h46=>?_) fun h46=>?_
 ·exact absurd zF zG
 refine zz 16 ?_;refine S.cd rfl (fun h76=>?_) fun h76=>?_
 ·exact absurd zF zG
 refine zz 16 ?_;refine S.cd rfl (fun h126=>?_) fun h126=>?_
 ·exact absurd zF zG
 refine zz 16 ?_;refine S.cd rfl (fun h155=>?_) fun h155=>?_
 ·exact absurd zF zG
 refine zz 5 ?_;exact S.rt results170 rfl hR ⟨rfl,rfl⟩
theorem flatRecords_0 {r:Fr}:Con prog 171 #[.slice none 0 0] r [] (Ret fun v η=>v=.bool true∧η=[]):=by
 refine Con.o func171 fun g hg R hR=>?_;refine zz 19 ?_;refine S.cd rfl (fun h19=>?_) fun h19=>?_
 ·exact absurd zF zG
 refine zz 5 ?_;refine O.opE (.p rfl) (.makeP (T:=Rp.val) (.slice none 0 0) (m:=0) underlying65 elem47 zE ⟨rfl,rfl⟩ rfl rfl rfl rfl zE zE) ?_;rintro _ _ ⟨a42,c42,rfl,rfl⟩;refine zz 17 ?_;refine S.cd rfl (fun h46=>?_) fun h46=>?_
 ·exact absurd zF zG
 refine zz 16 ?_;refine S.cd rfl (fun h76=>?_) fun h76=>?_
 ·exact absurd zF zG
 refine zz 16 ?_;refine S.cd rfl (fun h126=>?_) fun h126=>?_
 ·exact absurd zF zG
 refine zz 16 ?_;refine S.cd rfl (fun h155=>?_) fun h155=>?_
 ·exact absurd zF zG
 refine zz 5 ?_;exact S.rt results171 rfl hR ⟨rfl,rfl⟩
theorem flatLeaves_0 {r:Fr}:Con prog 172 #[.slice none 0 0] r [] (Ret fun v η=>v=.bool true∧η=[]):=by
 refine Con.o func172 fun g hg R hR=>?_;refine zz 19 ?_;refine S.cd rfl (fun h19=>?_) fun h19=>?_
 ·exact absurd zF zG
 refine zz 5 ?_;refine O.opE (.p rfl) (.makeP (T:=Rp.val) (.slice none 0 0) (m:=0) underlying108 elem22 zE ⟨rfl,rfl⟩ rfl rfl rfl rfl zE zE) ?_;rintro _ _ ⟨a42,c42,rfl,rfl⟩;refine zz 17 ?_;refine S.cd rfl (fun h46=>?_) fun h46=>?_
 ·exact absurd zF zG
 refine zz 16 ?_;refine S.cd rfl (fun h76=>?_) fun h76=>?_
 ·exact absurd zF zG
 refine zz 16 ?_;refine S.cd rfl (fun h126=>?_) fun h126=>?_
 ·exact absurd zF zG
 refine zz 16 ?_;refine S.cd rfl (fun h155=>?_) fun h155=>?_
 ·exact absurd zF zG
 refine zz 5 ?_;exact S.rt results172 rfl hR ⟨rfl,rfl⟩
theorem flatGrants_0 {r:Fr}:Con prog 173 #[.slice none 0 0] r [] (Ret fun v η=>v=.bool true∧η=[]):=by
 refine Con.o func173 fun g hg R hR=>?_;refine zz 19 ?_;refine S.cd rfl (fun h19=>?_) fun h19=>?_
 ·exact absurd zF zG
 refine zz 5 ?_;refine O.opE (.p rfl) (.makeP (T:=Rp.val) (.slice none 0 0) (m:=0) underlying109 elem267 zE ⟨rfl,rfl⟩ rfl rfl rfl rfl zE zE) ?_;rintro _ _ ⟨a42,c42,rfl,rfl⟩;refine zz 17 ?_;refine S.cd rfl (fun h46=>?_) fun h46=>?_
 ·exact absurd zF zG
 refine zz 16 ?_;refine S.cd rfl (fun h76=>?_) fun h76=>?_
 ·exact absurd zF zG
 refine zz 16 ?_;refine S.cd rfl (fun h126=>?_) fun h126=>?_
 ·exact absurd zF zG
 refine zz 16 ?_;refine S.cd rfl (fun h155=>?_) fun h155=>?_
 ·exact absurd zF zG
 refine zz 5 ?_;exact S.rt results173 rfl hR ⟨rfl,rfl⟩
theorem flatNodes_0 {r:Fr}:Con prog 174 #[.slice none 0 0] r [] (Ret fun v η=>v=.bool true∧η=[]):=by
 refine Con.o func174 fun g hg R hR=>?_;refine zz 19 ?_;refine S.cd rfl (fun h19=>?_) fun h19=>?_
 ·exact absurd zF zG
 refine zz 5 ?_;refine O.opE (.p rfl) (.makeP (T:=Rp.val) (.slice none 0 0) (m:=0) underlying110 elem272 zE ⟨rfl,rfl⟩ rfl rfl rfl rfl zE zE) ?_;rintro _ _ ⟨a42,c42,rfl,rfl⟩;refine zz 17 ?_;refine S.cd rfl (fun h46=>?_) fun h46=>?_
 ·exact absurd zF zG
 refine zz 16 ?_;refine S.cd rfl (fun h76=>?_) fun h76=>?_
 ·exact absurd zF zG
 refine zz 16 ?_;refine S.cd rfl (fun h126=>?_) fun h126=>?_
 ·exact absurd zF zG
 refine zz 16 ?_;refine S.cd rfl (fun h155=>?_) fun h155=>?_
 ·exact absurd zF zG
 refine zz 5 ?_;exact S.rt results174 rfl hR ⟨rfl,rfl⟩
theorem flatStubs_0 {r:Fr}:Con prog 175 #[.slice none 0 0] r [] (Ret fun v η=>v=.bool true∧η=[]):=by
 refine Con.o func175 fun g hg R hR=>?_;refine zz 19 ?_;refine S.cd rfl (fun h19=>?_) fun h19=>?_
 ·exact absurd zF zG
 refine zz 5 ?_;refine O.opE (.p rfl) (.makeP (T:=Rp.val) (.slice none 0 0) (m:=0) underlying111 elem278 zE ⟨rfl,rfl⟩ rfl rfl rfl rfl zE zE) ?_;rintro _ _ ⟨a42,c42,rfl,rfl⟩;refine zz 17 ?_;refine S.cd rfl (fun h46=>?_) fun h46=>?_
 ·exact absurd zF zG
 refine zz 16 ?_;refine S.cd rfl (fun h76=>?_) fun h76=>?_
 ·exact absurd zF zG
 refine zz 16 ?_;refine S.cd rfl (fun h126=>?_) fun h126=>?_
 ·exact absurd zF zG
 refine zz 16 ?_;refine S.cd rfl (fun h155=>?_) fun h155=>?_
 ·exact absurd zF zG
 refine zz 5 ?_;exact S.rt results175 rfl hR ⟨rfl,rfl⟩
theorem flatProofs_0 {r:Fr}:Con prog 176 #[.slice none 0 0] r [] (Ret fun v η=>v=.bool true∧η=[]):=by
 refine Con.o func176 fun g hg R hR=>?_;refine zz 19 ?_;refine S.cd rfl (fun h19=>?_) fun h19=>?_
 ·exact absurd zF zG
 refine zz 5 ?_;refine O.opE (.p rfl) (.makeP (T:=Rp.val) (.slice none 0 0) (m:=0) underlying112 elem283 zE ⟨rfl,rfl⟩ rfl rfl rfl rfl zE zE) ?_;rintro _ _ ⟨a42,c42,rfl,rfl⟩;refine zz 17 ?_;refine S.cd rfl (fun h46=>?_) fun h46=>?_
 ·exact absurd zF zG
 refine zz 16 ?_;refine S.cd rfl (fun h76=>?_) fun h76=>?_
 ·exact absurd zF zG
 refine zz 16 ?_;refine S.cd rfl (fun h126=>?_) fun h126=>?_
 ·exact absurd zF zG
 refine zz 16 ?_;refine S.cd rfl (fun h155=>?_) fun h155=>?_
 ·exact absurd zF zG
 refine zz 5 ?_;exact S.rt results176 rfl hR ⟨rfl,rfl⟩
theorem flatRoots_0 {r:Fr}:Con prog 177 #[.slice none 0 0] r [] (Ret fun v η=>v=.bool true∧η=[]):=by
 refine Con.o func177 fun g hg R hR=>?_;refine zz 19 ?_;refine S.cd rfl (fun h19=>?_) fun h19=>?_
 ·exact absurd zF zG
 refine zz 5 ?_;refine O.opE (.p rfl) (.makeP (T:=Rp.val) (.slice none 0 0) (m:=0) underlying113 elem23 zE ⟨rfl,rfl⟩ rfl rfl rfl rfl zE zE) ?_;rintro _ _ ⟨a42,c42,rfl,rfl⟩;refine zz 17 ?_;refine S.cd rfl (fun h46=>?_) fun h46=>?_
 ·exact absurd zF zG
 refine zz 16 ?_;refine S.cd rfl (fun h76=>?_) fun h76=>?_
 ·exact absurd zF zG
 refine zz 16 ?_;refine S.cd rfl (fun h126=>?_) fun h126=>?_
 ·exact absurd zF zG
 refine zz 16 ?_;refine S.cd rfl (fun h155=>?_) fun h155=>?_
 ·exact absurd zF zG
 refine zz 5 ?_;exact S.rt results177 rfl hR ⟨rfl,rfl⟩
theorem flatEvidenceRow_0 {r:Fr}:Con prog 178 #[.slice none 0 0] r [] (Ret fun v η=>v=.bool true∧η=[]):=by
 refine Con.o func178 fun g hg R hR=>?_;refine zz 19 ?_;refine S.cd rfl (fun h19=>?_) fun h19=>?_
 ·exact absurd zF zG
 refine zz 5 ?_;refine O.opE (.p rfl) (.makeP (T:=Rp.val) (.slice none 0 0) (m:=0) underlying114 elem24 zE ⟨rfl,rfl⟩ rfl rfl rfl rfl zE zE) ?_;rintro _ _ ⟨a42,c42,rfl,rfl⟩;refine zz 17 ?_;refine S.cd rfl (fun h46=>?_) fun h46=>?_
 ·exact absurd zF zG
 refine zz 16 ?_;refine S.cd rfl (fun h76=>?_) fun h76=>?_
 ·exact absurd zF zG
 refine zz 16 ?_;refine S.cd rfl (fun h126=>?_) fun h126=>?_
 ·exact absurd zF zG
 refine zz 16 ?_;refine S.cd rfl (fun h155=>?_) fun h155=>?_
 ·exact absurd zF zG
 refine zz 5 ?_;exact S.rt results178 rfl hR ⟨rfl,rfl⟩
theorem flatFrames_0 {r:Fr}:Con prog 179 #[.slice none 0 0] r [] (Ret fun v η=>v=.bool true∧η=[]):=by
 refine Con.o func179 fun g hg R hR=>?_;refine zz 19 ?_;refine S.cd rfl (fun h19=>?_) fun h19=>?_
 ·exact absurd zF zG
 refine zz 5 ?_;refine O.opE (.p rfl) (.makeP (T:=Rp.val) (.slice none 0 0) (m:=0) underlying115 elem288 zE ⟨rfl,rfl⟩ rfl rfl rfl rfl zE zE) ?_;rintro _ _ ⟨a42,c42,rfl,rfl⟩;refine zz 17 ?_;refine S.cd rfl (fun h46=>?_) fun h46=>?_
 ·exact absurd zF zG
 refine zz 16 ?_;refine S.cd rfl (fun h76=>?_) fun h76=>?_
 ·exact absurd zF zG
 refine zz 16 ?_;refine S.cd rfl (fun h126=>?_) fun h126=>?_
 ·exact absurd zF zG
 refine zz 16 ?_;refine S.cd rfl (fun h155=>?_) fun h155=>?_
 ·exact absurd zF zG
 refine zz 5 ?_;exact S.rt results179 rfl hR ⟨rfl,rfl⟩
theorem flatPackets_0 {r:Fr}:Con prog 180 #[.slice none 0 0] r [] (Ret fun v η=>v=.bool true∧η=[]):=by
 refine Con.o func180 fun g hg R hR=>?_;refine zz 19 ?_;refine S.cd rfl (fun h19=>?_) fun h19=>?_
 ·exact absurd zF zG
 refine zz 5 ?_;refine O.opE (.p rfl) (.makeP (T:=Rp.val) (.slice none 0 0) (m:=0) underlying116 elem294 zE ⟨rfl,rfl⟩ rfl rfl rfl rfl zE zE) ?_;rintro _ _ ⟨a42,c42,rfl,rfl⟩;refine zz 17 ?_;refine S.cd rfl (fun h46=>?_) fun h46=>?_
 ·exact absurd zF zG
 refine zz 16 ?_;refine S.cd rfl (fun h76=>?_) fun h76=>?_
 ·exact absurd zF zG
 refine zz 16 ?_;refine S.cd rfl (fun h126=>?_) fun h126=>?_
 ·exact absurd zF zG
 refine zz 16 ?_;refine S.cd rfl (fun h155=>?_) fun h155=>?_
 ·exact absurd zF zG
 refine zz 5 ?_;exact S.rt results180 rfl hR ⟨rfl,rfl⟩
theorem flatEntries_0 {r:Fr}:Con prog 181 #[.slice none 0 0] r [] (Ret fun v η=>v=.bool true∧η=[]):=by
 refine Con.o func181 fun g hg R hR=>?_;refine zz 19 ?_;refine S.cd rfl (fun h19=>?_) fun h19=>?_
 ·exact absurd zF zG
 refine zz 5 ?_;refine O.opE (.p rfl) (.makeP (T:=Rp.val) (.slice none 0 0) (m:=0) underlying117 elem299 zE ⟨rfl,rfl⟩ rfl rfl rfl rfl zE zE) ?_;rintro _ _ ⟨a42,c42,rfl,rfl⟩;refine zz 17 ?_;refine S.cd rfl (fun h46=>?_) fun h46=>?_
 ·exact absurd zF zG
 refine zz 16 ?_;refine S.cd rfl (fun h76=>?_) fun h76=>?_
 ·exact absurd zF zG
 refine zz 16 ?_;refine S.cd rfl (fun h126=>?_) fun h126=>?_
 ·exact absurd zF zG
 refine zz 16 ?_;refine S.cd rfl (fun h155=>?_) fun h155=>?_
 ·exact absurd zF zG
 refine zz 5 ?_;exact S.rt results181 rfl hR ⟨rfl,rfl⟩
theorem flatHeldRow_0 {r:Fr}:Con prog 182 #[.slice none 0 0] r [] (Ret fun v η=>v=.bool true∧η=[]):=by
 refine Con.o func182 fun g hg R hR=>?_;refine zz 19 ?_;refine S.cd rfl (fun h19=>?_) fun h19=>?_
 ·exact absurd zF zG
 refine zz 5 ?_;refine O.opE (.p rfl) (.makeP (T:=Rp.val) (.slice none 0 0) (m:=0) underlying46 elem45 zE ⟨rfl,rfl⟩ rfl rfl rfl rfl zE zE) ?_;rintro _ _ ⟨a42,c42,rfl,rfl⟩;refine zz 17 ?_;refine S.cd rfl (fun h46=>?_) fun h46=>?_
 ·exact absurd zF zG
 refine zz 16 ?_;refine S.cd rfl (fun h76=>?_) fun h76=>?_
 ·exact absurd zF zG
 refine zz 16 ?_;refine S.cd rfl (fun h126=>?_) fun h126=>?_
 ·exact absurd zF zG
 refine zz 16 ?_;refine S.cd rfl (fun h155=>?_) fun h155=>?_
 ·exact absurd zF zG
 refine zz 5 ?_;exact S.rt results182 rfl hR ⟨rfl,rfl⟩
theorem flatConfigs_0 {r:Fr}:Con prog 183 #[.slice none 0 0] r [] (Ret fun v η=>v=.bool true∧η=[]):=by
 refine Con.o func183 fun g hg R hR=>?_;refine zz 19 ?_;refine S.cd rfl (fun h19=>?_) fun h19=>?_
 ·exact absurd zF zG
 refine zz 5 ?_;refine O.opE (.p rfl) (.makeP (T:=Rp.val) (.slice none 0 0) (m:=0) underlying118 elem306 zE ⟨rfl,rfl⟩ rfl rfl rfl rfl zE zE) ?_;rintro _ _ ⟨a42,c42,rfl,rfl⟩;refine zz 17 ?_;refine S.cd rfl (fun h46=>?_) fun h46=>?_
 ·exact absurd zF zG
 refine zz 16 ?_;refine S.cd rfl (fun h76=>?_) fun h76=>?_
 ·exact absurd zF zG
 refine zz 16 ?_;refine S.cd rfl (fun h126=>?_) fun h126=>?_
 ·exact absurd zF zG
 refine zz 16 ?_;refine S.cd rfl (fun h155=>?_) fun h155=>?_
 ·exact absurd zF zG
 refine zz 5 ?_;exact S.rt results183 rfl hR ⟨rfl,rfl⟩
theorem flatSteps_0 {r:Fr}:Con prog 184 #[.slice none 0 0] r [] (Ret fun v η=>v=.bool true∧η=[]):=by
 refine Con.o func184 fun g hg R hR=>?_;refine zz 19 ?_;refine S.cd rfl (fun h19=>?_) fun h19=>?_
 ·exact absurd zF zG
 refine zz 5 ?_;refine O.opE (.p rfl) (.makeP (T:=Rp.val) (.slice none 0 0) (m:=0) underlying119 elem311 zE ⟨rfl,rfl⟩ rfl rfl rfl rfl zE zE) ?_;rintro _ _ ⟨a42,c42,rfl,rfl⟩;refine zz 17 ?_;refine S.cd rfl (fun h46=>?_) fun h46=>?_
 ·exact absurd zF zG
 refine zz 16 ?_;refine S.cd rfl (fun h76=>?_) fun h76=>?_
 ·exact absurd zF zG
 refine zz 16 ?_;refine S.cd rfl (fun h126=>?_) fun h126=>?_
 ·exact absurd zF zG
 refine zz 16 ?_;refine S.cd rfl (fun h155=>?_) fun h155=>?_
 ·exact absurd zF zG
 refine zz 5 ?_;exact S.rt results184 rfl hR ⟨rfl,rfl⟩
theorem flatTales_0 {r:Fr}:Con prog 185 #[.slice none 0 0] r [] (Ret fun v η=>v=.bool true∧η=[]):=by
 refine Con.o func185 fun g hg R hR=>?_;refine zz 19 ?_;refine S.cd rfl (fun h19=>?_) fun h19=>?_
 ·exact absurd zF zG
 refine zz 5 ?_;refine O.opE (.p rfl) (.makeP (T:=Rp.val) (.slice none 0 0) (m:=0) underlying120 elem317 zE ⟨rfl,rfl⟩ rfl rfl rfl rfl zE zE) ?_;rintro _ _ ⟨a42,c42,rfl,rfl⟩;refine zz 17 ?_;refine S.cd rfl (fun h46=>?_) fun h46=>?_
 ·exact absurd zF zG
 refine zz 16 ?_;refine S.cd rfl (fun h76=>?_) fun h76=>?_
 ·exact absurd zF zG
 refine zz 16 ?_;refine S.cd rfl (fun h126=>?_) fun h126=>?_
 ·exact absurd zF zG
 refine zz 16 ?_;refine S.cd rfl (fun h155=>?_) fun h155=>?_
 ·exact absurd zF zG
 refine zz 5 ?_;exact S.rt results185 rfl hR ⟨rfl,rfl⟩
def markL (k n:Nat):List UInt8:=(List.range n).map fun (i:Nat)=>markB (k:Int) (i:Int)
@[simp] theorem markL_length (k n:Nat):(markL k n).length=n:=by simp [markL]
theorem markL_succ (k n:Nat):markL k n++[markB (k:Int) (n:Int)]=markL k (n+1):=by simp [markL,List.range_succ]
theorem markL_set (k:Nat) (zs:List UInt8) (i:Nat) (h:i<zs.length):(markL k i++zs.drop i).set i (markB (k:Int) (i:Int))=markL k (i+1)++zs.drop (i+1):=by
 rw [List.set_append_right _ _ zG,markL_length,Nat.sub_self,List.drop_eq_getElem_cons h,List.set_cons_zero,← markL_succ];simp
def markX (k n i:Nat):List UInt8:=(List.range i).map fun (q:Nat)=>markB (k:Int) ((n:Int)+(q:Int))
@[simp] theorem markX_length (k n i:Nat):(markX k n i).length=i:=by simp [markX]
theorem markX_succ (k n i:Nat):markX k n i++[markB (k:Int) ((n:Int)+(i:Int))]=markX k n (i+1):=by simp [markX,List.range_succ]
theorem markLX (k n i:Nat):markL k n++markX k n i=markL k (n+i):=by
 induction i with
 |zero=>simp [markX]
 |succ i ih=>rw [← markX_succ,← List.append_assoc,ih,← Nat.add_assoc,← markL_succ];simp
def Marked (xss:List (List UInt8)) (k:Nat) (ws:List (List UInt8)):Prop:=ws.map List.length=xss.map List.length∧∀ (j:Nat) (h:j<ws.length),j<k→ws[j]=markL j ws[j].length
theorem Marked.len {xss ws:List (List UInt8)} {k:Nat} (h:Marked xss k ws):ws.length=xss.length:=by simpa using congrArg List.length h.1
theorem Marked.bd {xss ws:List (List UInt8)} {k b:Nat} (h:Marked xss k ws) (hb:∀ x∈xss,x.length≤b) (j:Nat) (hj:j<ws.length):ws[j].length≤b:=by
 have h1:(ws.map List.length)[j]'(by simpa using hj)=(xss.map List.length)[j]'(by simpa [← h.len] using hj):=getElem_congr_coll h.1;simp only [List.getElem_map] at h1;rw [h1];exact hb _ (List.getElem_mem _)
theorem Marked.set {xss ws:List (List UInt8)} {k:Nat} (h:Marked xss k ws) (hk:k<ws.length):Marked xss (k+1) (ws.set k (markL k ws[k].length)):=by
 refine ⟨?_,fun j hj hjk=>?_⟩
 ·rw [← h.1]
  refine List.ext_getElem zG fun i h1 h2=>?_;simp only [List.getElem_map,List.getElem_set]
  split
  ·rename_i e;subst e;simp
  ·rfl
 ·rw [List.getElem_set]
  split
  ·rename_i e;subst e;simp
  ·exact h.2 j (by simpa using hj) zD
def TwoE (e:TypeId) (p:Value × Value) (x:List UInt8 × List UInt8):SProp:=Two Rp.u8 e p.1 x.1 p.2 x.2
def pairsX (ws:List (List UInt8)) (k:Nat):List (List UInt8 × List UInt8):=(List.range k).map fun j=>(ws[j]?.getD [],markX j (ws[j]?.getD []).length 64)
theorem pairsX_succ (ws:List (List UInt8)) (k:Nat) (h:k<ws.length):pairsX ws k++[(ws[k],markX k ws[k].length 64)]=pairsX ws (k+1):=by simp [pairsX,List.range_succ,h]
def markM (j n i:Nat):List UInt8:=(List.range i).map fun (q:Nat)=>markB ((j:Int)+(n:Int)) (q:Int)
@[simp] theorem markM_length (j n i:Nat):(markM j n i).length=i:=by simp [markM]
theorem markM_succ (j n i:Nat):markM j n i++[markB ((j:Int)+(n:Int)) (i:Int)]=markM j n (i+1):=by simp [markM,List.range_succ]
def pairsM (ws:List (List UInt8)) (n k:Nat):List (List UInt8 × List UInt8):=(List.range k).map fun j=>(ws[j]?.getD [],markM j n 64)
theorem pairsM_succ (ws:List (List UInt8)) (n k:Nat) (h:k<ws.length):pairsM ws n k++[(ws[k],markM k n 64)]=pairsM ws n (k+1):=by simp [pairsM,List.range_succ,h]
theorem zip_snoc {vs us:List Value} {k:Nat} {v u:Value} (hk:k<vs.length) (hu:us.length=k) (hv:vs[k]=v):(vs.take k).zip us++[(v,u)]=(vs.take (k+1)).zip (us++[u]):=by
 rw [List.take_succ_eq_append_getElem hk,List.zip_append zJ,hv];rfl
theorem set_fill {α:Type} {us:List α} {z u:α} {n k:Nat} (hu:us.length=k) (hk:k<n):(us++List.replicate (n - k) z).set k u=(us++[u])++List.replicate (n - (k+1)) z:=by
 rw [List.set_append_right _ _ zD,hu,Nat.sub_self];obtain ⟨m,hm⟩:∃ m,n - k=m+1:=⟨n - k - 1,by omega⟩;rw [hm,List.replicate_succ,List.set_cons_zero,show n - (k+1)=m from by omega];simp
theorem set_over {α:Type} {us us2:List α} {u:α} {k:Nat} (hu:us.length=k) (hk:k<us2.length):(us++us2.drop k).set k u=(us++[u])++us2.drop (k+1):=by
 rw [List.set_append_right _ _ zD,hu,Nat.sub_self,List.drop_eq_getElem_cons hk,List.set_cons_zero];simp
theorem two_at {g:Fr} {vs us:List Value} {ws:List (List UInt8)} {n:Nat} {f:Nat→List UInt8} {m:Fr} {e:TypeId} (hm:EachP (TwoE e) (vs.zip us) ((List.range n).map fun j=>(ws[j]?.getD [],f j)) m) (hs:m.sub g) (hv:vs.length=n) (hu:us.length=n) (ha:ws.length=n)
  (k:Nat) (h1:k<vs.length) (h2:k<us.length) (h3:k<ws.length):Arr Rp.u8 g vs[k] ws[k]∧Arr Rp.u8 g us[k] (ws[k]++f k):=by
 have h:=EachP.all2 (R:=fun (p:Value × Value) (x:List UInt8 × List UInt8)=>Arr Rp.u8 g p.1 x.1∧Arr Rp.u8 g p.2 (x.1++x.2)) (fun b a m' (x:Two _ _ _ _ _ _ m') s=>⟨(Two.arr x).1.mono s,(Two.arr x).2.mono s⟩) hm hs;have h4:=h.get k zJ zJ
 simpa [h3] using h4
theorem flatBytes_c {r:Fr} {va:Value} {vs:List Value} {xss:List (List UInt8)} (hls:Arr Rp.val r va vs) (hq:∀ x∈xss,x.length≤100000000) (hb:xss.length≤100000000) :
  Con prog 167 #[va] r [RowsP Rp.u8 5 vs xss] (Ret fun v η=>v=.bool true∧η=[]):=by
 refine Con.o func167 fun g hg R hR=>?_;have hls:=hls.mono hg;obtain ⟨a1,c1,rfl⟩:=hls.shape;refine S.factS Sel.here (fun _ x=>EachP.len x) fun hlen=>?_;refine zz 10 ?_;refine S.loopK2 (ι:=Nat) (κ:=List (List UInt8)) (fun k ws=>k≤vs.length∧Marked xss k ws) (fun k ws=>[(3,.int .i64 (k:Int))]) [(0,_)] (fun k ws=>[RowsP Rp.u8 5 vs ws]) (fun k ws=>vs.length - k) (0) (xss) (by exact ⟨by simp,rfl,fun j _ h=>absurd h zD⟩) zq zq rfl fun k ws hx ih=>?_;have hm1:=meltRefl (g:=g);obtain ⟨hx1,hm⟩:=hx;have hal:=hm.len;refine zz 8 ?_;refine S.cd rfl (fun h19=>?_) fun h19=>?_
 ·have hk:k<vs.length:=by omega
  have hka:k<ws.length:=by omega
  have hrow:=hm.bd hq k hka;refine S.eachAt k hk hka zC ?_;refine S.factS Sel.here (fun _ x=>OwnP.shape x) fun ⟨ak,ck,hvk⟩=>?_;refine zz 8 ?_;refine S.conv (B:=OwnP Rp.u8 5 vs[k] ws[k]) (C:=OwnP Rp.u8 5 vs[k] (markL k 0++ws[k].drop 0)) zC (fun m x=>⟨m,Fr.sub_refl _,by simpa [markL] using x⟩) ?_;refine S.loopK (ι:=Nat) (fun i=>i≤ws[k].length) (fun i=>[(4,.int .i64 (i:Int))]) [(0,_),(3,_)] (fun i=>[OwnP Rp.u8 5 vs[k] (markL k i++ws[k].drop i),EachP (OwnP Rp.u8 5) (vs.eraseIdx k) (ws.eraseIdx k)]) (fun i=>ws[k].length - i) (0) zG zq zq rfl fun i hx ih=>?_;have hm2:=meltRefl (g:=g);refine zz 6 ?_;refine O.iz (hls) (h:=fun p25 cs25 hp25 hr25=>?_);obtain ⟨rfl,_⟩:=hr25;refine zz 1 ?_;refine O.slot 26 (v' :=.slice ak ws[k].length ck) rfl (by exact hvk) ?_;refine zz 3 ?_;refine S.cd rfl (fun h28=>?_) fun h28=>?_
  ·have hi:i<ws[k].length:=by omega
   refine S.skip<|S.seq<|S.block<|S.regionD (L:=.range 10) F.mixed zB<|OD.q 2 rfl<|OD.iz (hls) (h:=fun p33 cs33 hp33 hr33=>?_);obtain ⟨rfl,_⟩:=hr33;refine zz 1 ?_;refine OD.q 3 rfl<|OD.v0 (.p rfl) zB rfl zB rfl rfl (markByte_c _ _ zN zN) ?_;refine OD.idxOwn (T:=Rp.u8) (.p rfl) zB underlying31 size5 rfl rfl rfl zC zR (fun p39 hp39=>?_);refine OD.storeOwn rfl zB size5 rfl hp39 rfl zC zR (show _=_ by rfl:Rp.rel _ _ _ (markB (k:Int) (i:Int))) ?_;refine zz 7 ?_;rw [markL_set k ws[k] i hi];exact S.wk (ih (i+1) zD zD)
  ·clear ih
   have hi:i=ws[k].length:=by omega
   subst hi;rw [List.drop_length,List.append_nil];refine S.eachPut k hk hka (a' :=markL k ws[k].length) zC zC ?_;refine zz 7 ?_;exact S.wk (ih (k+1) (ws.set k (markL k ws[k].length)) (by exact ⟨by omega,hm.set hka⟩) zD)
 ·have hk:k=vs.length:=by omega
  subst hk;have hall:∀ (j:Nat) (h:j<ws.length),ws[j]=markL j ws[j].length:=fun j h=>hm.2 j h zD;have hbd:=hm.bd hq;clear ih hm;refine zz 5 ?_;refine O.opE (.p rfl) (.makeP (T:=Rp.val) (.slice none 0 0) (m:=vs.length) underlying39 elem31 zE ⟨rfl,rfl⟩ rfl rfl rfl rfl zD zD) ?_;rintro _ _ ⟨a42,c42,rfl,rfl⟩;refine zz 8 ?_;refine S.each0 (TwoE 5) ?_;refine S.loopK2 (ι:=Nat) (κ:=List Value) (fun k us=>k≤vs.length∧us.length=k) (fun k us=>[(6,.int .i64 (k:Int))]) [(0,_),(5,_)] (fun k us=>[EachP (TwoE 5) ((vs.take k).zip us) (pairsX ws k),OwnP Rp.val 31 (.slice a42 vs.length c42) (us++List.replicate (vs.length - k) (.slice none 0 0)),EachP (OwnP Rp.u8 5) (vs.drop k) (ws.drop k)]) (fun k us=>vs.length - k) (0) ([]) zX zq zq rfl fun k us hx ih=>?_;have hm2:=meltRefl (g:=g);obtain ⟨hx1,hus⟩:=hx;refine zz 8 ?_;refine S.cd rfl (fun h46=>?_) fun h46=>?_
  ·have hk:k<vs.length:=by omega
   have hka:k<ws.length:=by omega
   have hrow:=hbd k hka;rw [List.drop_eq_getElem_cons hk,List.drop_eq_getElem_cons hka];refine S.eachPop zC ?_;refine S.factS Sel.here (fun _ x=>OwnP.shape x) fun ⟨ak,ck,hvk⟩=>?_;rw [hvk];refine S.twoStart Sel.here ?_;refine zz 7 ?_;refine O.iz (hls) (h:=fun p51 cs51 hp51 hr51=>?_);obtain ⟨rfl,_⟩:=hr51;refine zz 1 ?_;refine O.slot 52 (v' :=.slice ak ws[k].length ck) rfl (by exact hvk) ?_;refine zz 8 ?_;refine S.loopK3 (ι:=Nat) (κ:=Option Addr) (υ:=Nat) (fun i a c=>i≤64) (fun i a c=>[(8,.int .i64 (i:Int)),(7,.slice a (ws[k].length+i) c)]) [(0,_),(5,_),(6,_)] (fun i a c=>[Two Rp.u8 5 (.slice ak ws[k].length ck) ws[k] (.slice a (ws[k].length+i) c) (markX k ws[k].length i),EachP (OwnP Rp.u8 5) (vs.drop (k+1)) (ws.drop (k+1)),EachP (TwoE 5) ((vs.take k).zip us) (pairsX ws k),OwnP Rp.val 31 (.slice a42 vs.length c42) (us++List.replicate (vs.length - k) (.slice none 0 0))]) (fun i a c=>64 - i) (0) (ak) (ck) zG zq zq rfl fun i a c hx ih=>?_;have hm3:=meltRefl (g:=g);refine zz 6 ?_;refine S.cd rfl (fun h54=>?_) fun h54=>?_
   ·have hi:i<64:=by omega
    refine zz 8 ?_;refine O.iz (hls) (h:=fun p61 cs61 hp61 hr61=>?_);obtain ⟨rfl,_⟩:=hr61;refine zz 1 ?_;refine O.slot 62 (v' :=.slice ak ws[k].length ck) rfl (by exact hvk) ?_;refine zz 3 ?_;refine O.v0 (.p rfl) rfl zB rfl rfl (markByte_c _ _ zN zN) ?_;refine O.opE (.p rfl) (.litP (T:=Rp.u8) (ys:=[_]) underlying31 elem5 zE rfl rfl ⟨rfl,trivial⟩ zE) ?_;rintro _ _ ⟨a67,c67,rfl,rfl⟩;refine O.frzA zC fun g hs hm ha67=>?_;replace hg:=Fr.sub_trans hg hs;replace hR:=melted hR hm
    try replace hls:=hls.mono hs
    try replace hp51:=hp51.mono hs
    try replace hp61:=hp61.mono hs
    replace hm1:=meltTrans hm1 hm;replace hm2:=meltTrans hm2 hm;replace hm3:=meltTrans hm3 hm;clear hs hm;refine O.opE (.p rfl) (.appendTwo pure_u8 underlying31 elem5 zE rfl rfl zC ha67 zJ zJ) ?_;rintro _ _ ⟨a68,c68,rfl,rfl⟩;refine zz 8 ?_;rw [markX_succ];simp only [markX_length];exact S.melt hm3 (S.wk (ih (i+1) (a68) (c68) zD zD))
   ·clear ih
    have hi:i=64:=by omega
    subst hi;refine zz 5 ?_;refine O.opE (.p rfl) (.idxOwn (T:=Rp.val) underlying39 size31 rfl rfl rfl zC zR) ?_;rintro _ _ ⟨p72,rfl,hp72,rfl⟩;refine O.opU rfl (.storeOwn size31 rfl hp72 rfl zC zR (⟨rfl,rfl⟩:Rp.rel Rp.val _ _ (.slice a (ws[k].length+64) c))) ?_;refine zz 7 ?_;rw [set_fill hus hk];refine S.conv (B:=Two Rp.u8 5 (.slice ak ws[k].length ck) ws[k] (.slice a (ws[k].length+64) c) (markX k ws[k].length 64)) (C:=TwoE 5 (.slice ak ws[k].length ck,.slice a (ws[k].length+64) c) (ws[k],markX k ws[k].length 64)) zC (fun m x=>⟨m,Fr.sub_refl _,x⟩) ?_;refine S.each (A:=TwoE 5) zC zC ?_;rw [pairsX_succ ws k hka,zip_snoc hk hus hvk];exact S.pw (ih (k+1) (us++[.slice a (ws[k].length+64) c]) zb26 zD)
  ·clear ih
   have hk:k=vs.length:=by omega
   subst hk;rw [List.take_length,Nat.sub_self,List.replicate_zero,List.append_nil,List.drop_length];refine zz 7 ?_;refine S.frzT (B:=OwnP Rp.val 31 (.slice a42 vs.length c42) us) zC fun g1 hs1 ⟨m1,hm1',hsm1⟩ th1=>?_;refine S.frzT (B:=EachP (TwoE 5) (vs.zip us) (pairsX ws vs.length)) zC fun g2 hs2 ⟨m2,hm2',hsm2⟩ th2=>?_;have hgs:Arr Rp.val g2.h (.slice a42 vs.length c42) us:=hm1'.arr.mono (Fr.sub_trans hsm1 hs2);have hls0:=hls;replace hls:=hls.mono (Fr.sub_trans hs1 hs2);have htw:=fun k h1 h2 h3=>two_at hm2' hsm2 rfl hus zD k h1 h2 h3;refine S.loopK (ι:=Nat) (fun k=>k≤vs.length) (fun k=>[(9,.int .i64 (k:Int))]) [(0,_),(5,_)] (fun k=>[EachP (OwnP Rp.u8 5) [] (ws.drop vs.length)]) (fun k=>vs.length - k) (0) zG zq zq rfl fun k hx ih=>?_;have hm3:=meltRefl (g:=g);refine zz 8 ?_;refine S.cd rfl (fun h76=>?_) fun h76=>?_
   ·have hk:k<vs.length:=by omega
    have hka:k<ws.length:=by omega
    have hku:k<us.length:=by omega
    have hrow:=hbd k hka;obtain ⟨hA,hB⟩:=htw k hk hku hka;rw [show (ws[k]?.getD [])=ws[k] from by simp [hka]] at hB;have hB0:=hall k hka;obtain ⟨nk,hnk⟩:∃ nk,ws[k].length=nk:=⟨_,rfl⟩;simp only [hnk] at hB0 hrow hB;rw [hB0] at hA hB;rw [markLX] at hB;obtain ⟨ak,ck,hvk⟩:=hA.shape;obtain ⟨au,cu,huk⟩:=hB.shape;rw [hvk] at hA;rw [huk] at hB;rw [markL_length] at hvk huk hA hB;refine zz 8 ?_;refine S.loopK (ι:=Nat) (fun i=>i≤nk+64) (fun i=>[(10,.int .i64 (i:Int))]) [(0,_),(5,_),(9,_)] (fun i=>[EachP (OwnP Rp.u8 5) [] (ws.drop vs.length)]) (fun i=>nk+64 - i) (0) zG zq zq rfl fun i hx ih=>?_;have hm4:=meltRefl (g:=g);refine zz 6 ?_;refine O.iz (hgs) (h:=fun p82 cs82 hp82 hr82=>?_);obtain ⟨rfl,_⟩:=hr82;refine zz 1 ?_;refine O.slot 83 (v' :=.slice au (nk+64) cu) rfl (by exact huk) ?_;refine zz 3 ?_;refine S.cd rfl (fun h85=>?_) fun h85=>?_
    ·have hi:i<nk+64:=by omega
     refine S.skip<|S.seq<|S.block<|S.seq<|S.regionD (L:=.range 35) F.mixed zB<|OD.q 2 rfl<|OD.iz (hgs) (h:=fun p90 cs90 hp90 hr90=>?_);obtain ⟨rfl,_⟩:=hr90;refine zz 1 ?_;refine OD.slot 91 (v' :=.slice au (nk+64) cu) rfl (by exact huk) ?_;refine OD.q 1 rfl<|OD.iz (hB) (h:=fun p93 cs93 hp93 hr93=>?_);obtain ⟨rfl,_⟩:=hr93;refine zz 1 ?_;refine OD.q 2 rfl<|OD.v0 (.p rfl) zB rfl zB rfl rfl (markByte_c _ _ zN zN) ?_;refine zz 1 ?_;refine OD.sT 98 rfl (by simp [markL]) ?_;refine zz 5 ?_;refine OD.iz (hls) (h:=fun p104 cs104 hp104 hr104=>?_);obtain ⟨rfl,_⟩:=hr104;refine zz 1 ?_;refine OD.slot 105 (v' :=.slice ak nk ck) rfl (by exact hvk) ?_;refine zz 3 ?_
     first|refine OD.caseD 108 rfl (fun h108=>?_) (fun h108=>?_)|refine OD.caseB 108 rfl (fun h108=>?_) (fun h108=>?_)
     ·have hi2:i<nk:=by omega
      refine OD.q 2 rfl<|OD.iz (hls) (h:=fun p111 cs111 hp111 hr111=>?_);obtain ⟨rfl,_⟩:=hr111;refine zz 1 ?_;refine OD.slot 112 (v' :=.slice ak nk ck) rfl (by exact hvk) ?_;refine OD.q 1 rfl<|OD.iz (hA) (h:=fun p114 cs114 hp114 hr114=>?_);obtain ⟨rfl,_⟩:=hr114;refine zz 1 ?_;refine OD.q 2 rfl<|OD.v0 (.g rfl rfl) zB rfl zB rfl rfl (markByte_c _ _ zN zN) ?_;refine zz 1 ?_;refine OD.sT 119 rfl (by simp [markL]) ?_;refine zz 12 ?_;exact S.wk (ih (i+1) zD zD)
     ·refine zz 23 ?_
      exact S.wk (ih (i+1) zD zD)
    ·clear ih
     refine zz 7 ?_;exact S.wk (ih (k+1) zD zD)
   ·clear ih
    refine zz 7 ?_;refine th2 (th1 ?_);replace hls:=hls0;clear htw hgs hls0;refine S.each0 (TwoE 5) ?_;refine S.loopK2 (ι:=Nat) (κ:=List Value) (fun k vs2=>k≤vs.length∧vs2.length=k) (fun k vs2=>[(11,.int .i64 (k:Int))]) [(0,_),(5,_)] (fun k vs2=>[EachP (TwoE 5) ((vs.take k).zip vs2) (pairsM ws vs.length k),OwnP Rp.val 31 (.slice a42 vs.length c42) (vs2++us.drop k),EachP (TwoE 5) ((vs.zip us).drop k) ((pairsX ws vs.length).drop k),EachP (OwnP Rp.u8 5) [] (ws.drop vs.length)]) (fun k vs2=>vs.length - k) (0) ([]) zX zq zq rfl fun k vs2 hx ih=>?_;have hm4:=meltRefl (g:=g);obtain ⟨hx1,hvs2⟩:=hx;refine zz 8 ?_;refine S.cd rfl (fun h126=>?_) fun h126=>?_
    ·have hk:k<vs.length:=by omega
     have hka:k<ws.length:=by omega
     have hku:k<us.length:=by omega
     have hrow:=hbd k hka;have hz:(vs.zip us).drop k=(vs[k],us[k])::(vs.zip us).drop (k+1):=by rw [List.drop_eq_getElem_cons zJ,List.getElem_zip]
     have hp:(pairsX ws vs.length).drop k=(ws[k],markX k ws[k].length 64)::(pairsX ws vs.length).drop (k+1):=by rw [List.drop_eq_getElem_cons (by simp [pairsX];omega)];simp [pairsX,hka]
     rw [hz,hp];refine S.eachPop zC ?_;refine S.conv (B:=TwoE 5 (vs[k],us[k]) (ws[k],markX k ws[k].length 64)) (C:=OwnP Rp.u8 5 vs[k] ws[k]) zC (fun _ x=>Two.own x) ?_;refine S.factS Sel.here (fun _ x=>OwnP.shape x) fun ⟨ak,ck,hvk⟩=>?_;rw [hvk];refine S.twoStart Sel.here ?_;refine zz 5 ?_;refine O.opE (.p rfl) (.makeP (T:=Rp.u8) (0:UInt8) (m:=64) underlying31 elem5 zE rfl rfl rfl rfl rfl zE zE) ?_;rintro _ _ ⟨a129,c129,rfl,rfl⟩;refine zz 8 ?_;refine S.loopK (ι:=Nat) (fun i=>i≤64) (fun i=>[(13,.int .i64 (i:Int))]) [(0,_),(5,_),(11,_),(12,_)] (fun i=>[OwnP Rp.u8 5 (.slice a129 64 c129) (markM k vs.length i++List.replicate (64 - i) 0),Two Rp.u8 5 (.slice ak ws[k].length ck) ws[k] (.slice ak ws[k].length ck) [],EachP (TwoE 5) ((vs.zip us).drop (k+1)) ((pairsX ws vs.length).drop (k+1)),EachP (TwoE 5) ((vs.take k).zip vs2) (pairsM ws vs.length k),OwnP Rp.val 31 (.slice a42 vs.length c42) (vs2++us.drop k),EachP (OwnP Rp.u8 5) [] (ws.drop vs.length)]) (fun i=>64 - i) (0) zG zq zq rfl fun i hx ih=>?_;have hm5:=meltRefl (g:=g);refine zz 6 ?_;refine S.cd rfl (fun h131=>?_) fun h131=>?_
     ·have hi:i<64:=by omega
      refine zz 11 ?_;refine O.v0 (.p rfl) rfl zB rfl rfl (markByte_c _ _ zN zN) ?_;refine O.opE (.p rfl) (.idxOwn (T:=Rp.u8) underlying31 size5 rfl rfl rfl zC zR) ?_;rintro _ _ ⟨p142,rfl,hp142,rfl⟩;refine O.opU rfl (.storeOwn size5 rfl hp142 rfl zC zR (show _=_ by rfl:Rp.rel _ _ _ (markB ((k:Int)+(vs.length:Int)) (i:Int)))) ?_;refine zz 7 ?_;rw [set_fill zG hi,markM_succ];exact S.wk (ih (i+1) zD zD)
     ·clear ih
      have hi:i=64:=by omega
      subst hi;rw [Nat.sub_self,List.replicate_zero,List.append_nil];refine S.frzA zC fun g hs hm hmany=>?_;replace hg:=Fr.sub_trans hg hs;replace hR:=melted hR hm
      try replace hls:=hls.mono hs
      try replace hgs:=hgs.mono hs
      replace hm1:=meltTrans hm1 hm;replace hm2:=meltTrans hm2 hm;replace hm3:=meltTrans hm3 hm;replace hm4:=meltTrans hm4 hm;replace hm5:=meltTrans hm5 hm;clear hs hm;refine zz 6 ?_;refine O.iz (hls) (h:=fun p147 cs147 hp147 hr147=>?_);obtain ⟨rfl,_⟩:=hr147;refine zz 1 ?_;refine O.slot 148 (v' :=.slice ak ws[k].length ck) rfl (by exact hvk) ?_;refine O.q 1 rfl<|O.opE (.p rfl) (.appendTwo pure_u8 underlying31 elem5 zE rfl rfl zC hmany zJ zJ) ?_;rintro _ _ ⟨a150,c150,rfl,rfl⟩;refine O.opE (.p rfl) (.idxOwn (T:=Rp.val) underlying39 size31 rfl rfl rfl zC zR) ?_;rintro _ _ ⟨p151,rfl,hp151,rfl⟩;refine O.opU rfl (.storeOwn size31 rfl hp151 rfl zC zR (⟨rfl,rfl⟩:Rp.rel Rp.val _ _ (.slice a150 (ws[k].length+0+(markM k vs.length 64).length) c150))) ?_;refine zz 7 ?_;rw [set_over hvs2 hku];simp only [List.nil_append];refine S.conv (B:=Two Rp.u8 5 (.slice ak ws[k].length ck) ws[k] (.slice a150 (ws[k].length+0+(markM k vs.length 64).length) c150) (markM k vs.length 64)) (C:=TwoE 5 (.slice ak ws[k].length ck,.slice a150 (ws[k].length+0+(markM k vs.length 64).length) c150) (ws[k],markM k vs.length 64)) zC (fun m x=>⟨m,Fr.sub_refl _,x⟩) ?_;refine S.each (A:=TwoE 5) (bs:=(vs.take k).zip vs2) zC zC ?_;rw [pairsM_succ ws vs.length k hka,zip_snoc hk hvs2 hvk];exact S.melt hm4 (S.pw (ih (k+1) (vs2++[.slice a150 (ws[k].length+0+(markM k vs.length 64).length) c150]) zb26 zD))
    ·clear ih
     have hk:k=vs.length:=by omega
     subst hk;rw [List.take_length,show us.drop vs.length=[] from by rw [← hus,List.drop_length],List.append_nil];refine S.frz (A:=OwnP Rp.val 31 (.slice a42 vs.length c42) vs2) zC fun g1 hs1 hme1 ⟨m1,hm1',hsm1⟩=>?_;refine S.frz (A:=EachP (TwoE 5) (vs.zip vs2) (pairsM ws vs.length vs.length)) zC fun g2 hs2 hme2 ⟨m2,hm2',hsm2⟩=>?_;have hgs:Arr Rp.val g2.h (.slice a42 vs.length c42) vs2:=hm1'.arr.mono (Fr.sub_trans hsm1 hs2);replace hls:=hls.mono (Fr.sub_trans hs1 hs2);replace hR:=melted (melted hR hme1) hme2;have htw:=fun k h1 h2 h3=>two_at hm2' hsm2 rfl hvs2 zD k h1 h2 h3;refine S.pk Picks.nil ?_;refine zz 7 ?_;refine S.loopK (ι:=Nat) (fun k=>k≤vs.length) (fun k=>[(14,.int .i64 (k:Int))]) [(0,_),(5,_)] (fun k=>[]) (fun k=>vs.length - k) (0) zG zq zq rfl fun k hx ih=>?_;have hm5:=meltRefl (g:=g);refine zz 8 ?_;refine S.cd rfl (fun h155=>?_) fun h155=>?_
     ·have hk:k<vs.length:=by omega
      have hka:k<ws.length:=by omega
      have hku:k<vs2.length:=by omega
      have hrow:=hbd k hka;obtain ⟨hA,hB⟩:=htw k hk hku hka;have hB0:=hall k hka;obtain ⟨nk,hnk⟩:∃ nk,ws[k].length=nk:=⟨_,rfl⟩;simp only [hnk] at hB0 hrow;rw [hB0] at hA hB;obtain ⟨ak,ck,hvk⟩:=hA.shape;obtain ⟨au,cu,huk⟩:=hB.shape;rw [hvk] at hA;rw [huk] at hB;simp only [List.length_append,markL_length,markM_length] at hvk huk hA hB;refine zz 8 ?_;refine S.loopK (ι:=Nat) (fun i=>i≤nk) (fun i=>[(15,.int .i64 (i:Int))]) [(0,_),(5,_),(14,_)] (fun i=>[]) (fun i=>nk - i) (0) zG zq zq rfl fun i hx ih=>?_;have hm6:=meltRefl (g:=g);refine zz 6 ?_;refine O.iz (hls) (h:=fun p161 cs161 hp161 hr161=>?_);obtain ⟨rfl,_⟩:=hr161;refine zz 1 ?_;refine O.slot 162 (v' :=.slice ak nk ck) rfl (by exact hvk) ?_;refine zz 3 ?_;refine S.cd rfl (fun h164=>?_) fun h164=>?_
      ·have hi:i<nk:=by omega
       refine S.skip<|S.seq<|S.block<|S.seq<|S.regionD (L:=.range 26) F.mixed zB<|OD.q 2 rfl<|OD.iz (hls) (h:=fun p169 cs169 hp169 hr169=>?_);obtain ⟨rfl,_⟩:=hr169;refine zz 1 ?_;refine OD.slot 170 (v' :=.slice ak nk ck) rfl (by exact hvk) ?_;refine OD.q 1 rfl<|OD.iz (hA) (h:=fun p172 cs172 hp172 hr172=>?_);obtain ⟨rfl,_⟩:=hr172;refine zz 1 ?_;refine OD.q 2 rfl<|OD.v0 (.p rfl) zB rfl zB rfl rfl (markByte_c _ _ zN zN) ?_;refine zz 1 ?_;refine OD.sT 177 rfl (by simp [markL]) ?_;refine zz 4 ?_;refine OD.iz (hgs) (h:=fun p182 cs182 hp182 hr182=>?_);obtain ⟨rfl,_⟩:=hr182;refine zz 1 ?_;refine OD.slot 183 (v' :=.slice au (nk+64) cu) rfl (by exact huk) ?_;refine OD.q 1 rfl<|OD.iz (hB) (h:=fun p185 cs185 hp185 hr185=>?_);obtain ⟨rfl,_⟩:=hr185;refine zz 1 ?_;refine OD.q 2 rfl<|OD.v0 (.g rfl rfl) zB rfl zB rfl rfl (markByte_c _ _ zN zN) ?_;refine zz 1 ?_;refine OD.sT 190 rfl (by rw [List.getElem_append_left zJ];simp [markL]) ?_;refine zz 11 ?_;exact S.wk (ih (i+1) zD zD)
      ·clear ih
       refine zz 7 ?_;exact S.wk (ih (k+1) zD zD)
     ·clear ih
      refine zz 5 ?_;exact S.rt results167 rfl hR ⟨rfl,rfl⟩
def bagB (u:Value):List Value:=[.slice none 0 0,.slice none 0 0,.slice none 0 0,.slice none 0 0,.slice none 0 0,u,.slice none 0 0,.slice none 0 0,.slice none 0 0,.slice none 0 0,.slice none 0 0,.slice none 0 0,.slice none 0 0,.slice none 0 0,.slice none 0 0,.slice none 0 0,.slice none 0 0,.slice none 0 0,.slice none 0 0,.slice none 0 0,.slice none 0 0,.slice none 0 0,.slice none 0 0,.slice none 0 0]
theorem putBytes_c {r:Fr} {b:Nat} {a a1:Option Addr} {c m1 c1:Nat} {ws:List Value} (hb:ws.length≤1000000000) :
  Con prog 76 #[.pointer (some ⟨b,0,none⟩),.slice a1 m1 c1] r [obj b 122 (bagB (.slice a ws.length c)),OwnP Rp.val 31 (.slice a ws.length c) ws]
   (Ret fun v η=>∃ a' c',v=.tuple #[]∧η=[obj b 122 (bagB (.slice a' (ws.length+1) c')),OwnP Rp.val 31 (.slice a' (ws.length+1) c') (ws++[.slice a1 m1 c1])]):=by
 refine Con.o func76 fun g hg R hR=>?_;unfold bagB;refine zz 6 ?_;refine O.q 1 rfl<|O.opE (.p rfl) (.litP (T:=Rp.val) (ys:=[_]) underlying39 elem31 zE rfl rfl ⟨⟨rfl,rfl⟩,trivial⟩ zE) ?_;rintro _ _ ⟨a10,c10,rfl,rfl⟩;refine O.opE (.p rfl) (.appendO (T:=Rp.val) underlying39 elem31 zE rfl rfl zC zC zH zH) ?_;rintro _ _ ⟨a11,c11,rfl,rfl⟩;refine zz 3 ?_;refine O.nil<|S.end0 results76 fun w hw=>Holds.end_ hR hw ?_;exact pk ⟨a11,c11,rfl,rfl⟩
theorem apartB_c {r:Fr} {b:Nat} {u:Value} {vs:List Value} {xss:List (List UInt8)} (hls:Arr Rp.val r u vs) (hq:∀ x∈xss,x.length≤100000000) (hb:xss.length≤100000000) :
  Con prog 77 #[.pointer (some ⟨b,0,none⟩)] r [obj b 122 (bagB u),RowsP Rp.u8 5 vs xss] (Ret fun v η=>v=.bool true∧η=[]):=by
 refine Con.o func77 fun g hg R hR=>?_;have hls:=hls.mono hg;unfold bagB;refine zz 10 ?_;refine O.v0 (.p rfl) rfl zB rfl rfl (flatLimbs_0) ?_;refine O.sT 7 rfl zP ?_;refine zz 5 ?_;refine O.v0 (.g rfl rfl) rfl zB rfl rfl (flatWords_0) ?_;refine O.sT 13 rfl zP ?_;refine zz 6 ?_;refine O.v0 (.g rfl rfl) rfl zB rfl rfl (flatInts_0) ?_;refine O.sT 20 rfl zP ?_;refine zz 6 ?_;refine O.v0 (.g rfl rfl) rfl zB rfl rfl (flatLongs_0) ?_;refine O.sT 27 rfl zP ?_;refine zz 6 ?_;refine O.v0 (.g rfl rfl) rfl zB rfl rfl (flatTexts_0) ?_;refine O.sT 34 rfl zP ?_;refine zz 6 ?_;refine O.vS (.g rfl rfl) rfl zB rfl rfl zC (flatBytes_c hls hq hb) ?_;refine O.sT 41 rfl zP ?_;refine zz 6 ?_;refine O.v0 (.g rfl rfl) rfl zB rfl rfl (flatTruths_0) ?_;refine O.sT 48 rfl zP ?_;refine zz 6 ?_;refine O.v0 (.g rfl rfl) rfl zB rfl rfl (flatRows_0) ?_;refine O.sT 55 rfl zP ?_;refine zz 6 ?_;refine O.v0 (.g rfl rfl) rfl zB rfl rfl (flatDots_0) ?_;refine O.sT 62 rfl zP ?_;refine zz 6 ?_;refine O.v0 (.g rfl rfl) rfl zB rfl rfl (flatRecords_0) ?_;refine O.sT 69 rfl zP ?_;refine zz 6 ?_;refine O.v0 (.g rfl rfl) rfl zB rfl rfl (flatLeaves_0) ?_;refine O.sT 76 rfl zP ?_;refine zz 6 ?_;refine O.v0 (.g rfl rfl) rfl zB rfl rfl (flatGrants_0) ?_;refine O.sT 83 rfl zP ?_;refine zz 6 ?_;refine O.v0 (.g rfl rfl) rfl zB rfl rfl (flatNodes_0) ?_;refine O.sT 90 rfl zP ?_;refine zz 6 ?_;refine O.v0 (.g rfl rfl) rfl zB rfl rfl (flatStubs_0) ?_
 refine O.sT 97 rfl zP ?_;refine zz 6 ?_;refine O.v0 (.g rfl rfl) rfl zB rfl rfl (flatProofs_0) ?_;refine O.sT 104 rfl zP ?_;refine zz 6 ?_;refine O.v0 (.g rfl rfl) rfl zB rfl rfl (flatRoots_0) ?_;refine O.sT 111 rfl zP ?_;refine zz 6 ?_;refine O.v0 (.g rfl rfl) rfl zB rfl rfl (flatEvidenceRow_0) ?_;refine O.sT 118 rfl zP ?_;refine zz 6 ?_;refine O.v0 (.g rfl rfl) rfl zB rfl rfl (flatFrames_0) ?_;refine O.sT 125 rfl zP ?_;refine zz 6 ?_;refine O.v0 (.g rfl rfl) rfl zB rfl rfl (flatPackets_0) ?_;refine O.sT 132 rfl zP ?_;refine zz 6 ?_;refine O.v0 (.g rfl rfl) rfl zB rfl rfl (flatEntries_0) ?_;refine O.sT 139 rfl zP ?_;refine zz 6 ?_;refine O.v0 (.g rfl rfl) rfl zB rfl rfl (flatHeldRow_0) ?_;refine O.sT 146 rfl zP ?_;refine zz 6 ?_;refine O.v0 (.g rfl rfl) rfl zB rfl rfl (flatConfigs_0) ?_;refine O.sT 153 rfl zP ?_;refine zz 6 ?_;refine O.v0 (.g rfl rfl) rfl zB rfl rfl (flatSteps_0) ?_;refine O.sT 160 rfl zP ?_;refine zz 6 ?_;refine O.v0 (.g rfl rfl) rfl zB rfl rfl (flatTales_0) ?_;refine O.sT 167 rfl zP ?_;refine zz 3 ?_;exact S.rt results77 rfl hR ⟨rfl,rfl⟩
theorem ApartBytes_c {r:Fr} {va:Value} {vs:List Value} {xss:List (List UInt8)} (hls:Arr Rp.val r va vs) (hq:∀ x∈xss,x.length≤100000000) (hb:xss.length≤100000000) :
  Con prog 23 #[va] r [RowsP Rp.u8 5 vs xss] (Ret fun v η=>v=.bool true∧η=[]):=by
 refine Con.o func23 fun g hg R hR=>?_;have hls:=hls.mono hg;obtain ⟨a1,c1,rfl⟩:=hls.shape;refine S.factS Sel.here (fun _ x=>EachP.len x) fun hlen=>?_;refine S.factS Sel.here (fun _ x=>EachP.all2 (R:=fun v x=>∃ a c,v=.slice a x.length c) (fun _ _ _ y _=>OwnP.shape y) x (Fr.sub_refl _)) fun hsh=>?_;refine zz 6 ?_;refine O.op (.p rfl) (.build (cs:=[_,_,_,_,_,_,_,_,_,_,_,_,_,_,_,_,_,_,_,_,_,_,_,_]) underlying122 rfl rfl rfl rfl rfl)<|O.opE (.p rfl) (.box (cs:=[_,_,_,_,_,_,_,_,_,_,_,_,_,_,_,_,_,_,_,_,_,_,_,_]) rfl rfl) ?_;rintro _ _ ⟨b6,rfl,rfl⟩;refine zz 8 ?_;refine S.addNil (T:=Rp.val) (e:=31) ?_;refine S.loopK3 (ι:=Nat) (κ:=Option Addr) (υ:=Nat) (fun k a c=>k≤vs.length) (fun k a c=>[(4,.int .i64 (k:Int))]) [(0,_),(3,_)] (fun k a c=>[OwnP Rp.val 31 (.slice a (vs.take k).length c) (vs.take k),obj b6 122 (bagB (.slice a (vs.take k).length c)),RowsP Rp.u8 5 vs xss]) (fun k a c=>vs.length - k) (0) (none) (0) zG zq zq rfl fun k a c hx ih=>?_;have hm1:=meltRefl (g:=g);refine zz 8 ?_;refine S.cd rfl (fun h10=>?_) fun h10=>?_
 ·have hk:k<vs.length:=by omega
  obtain ⟨ak,ck,hvk⟩:=hsh.get k hk zD;have hl:(vs.take k).length=k:=by simp;omega
  refine zz 7 ?_;refine O.iz (hls) (h:=fun p16 cs16 hp16 hr16=>?_);obtain ⟨rfl,_⟩:=hr16;refine zz 1 ?_;refine O.slot 17 (v' :=.slice ak xss[k].length ck) rfl (by exact hvk) ?_;refine O.callSs (.p rfl) rfl zB rfl rfl zI (putBytes_c zD) ?_;rintro _ _ ⟨a18,c18,rfl,rfl⟩;refine zz 7 ?_;rw [← hvk,← List.take_succ_eq_append_getElem hk];have hl2:(vs.take k).length+1=(vs.take (k+1)).length:=by simp;omega
  rw [hl2];exact S.pw (ih (k+1) (a18) (c18) zD zD)
 ·have hk:k=vs.length:=by omega
  subst hk;rw [List.take_length];refine S.frzA zC fun g hs hm hbag=>?_;replace hg:=Fr.sub_trans hg hs;replace hR:=melted hR hm
  try replace hls:=hls.mono hs
  replace hm1:=meltTrans hm1 hm;clear hs hm;refine zz 4 ?_;refine O.callSs (.p rfl) rfl zB rfl rfl zI (apartB_c hbag hq hb) ?_;rintro _ _ ⟨rfl,rfl⟩;refine zz 2 ?_;exact S.rt results23 rfl hR ⟨rfl,rfl⟩
theorem heldOk_of {n:Nat} {h:HeldT} (hn:n≤3000) (hc:HeldC n h) (ho:HeldOk big h):HeldOk 100000000000 h:=by
 obtain ⟨⟨⟨a1,_⟩,a2⟩,⟨b1,b2⟩,⟨c1,c2⟩,d⟩:=hc;refine ⟨⟨by omega,fun y hy=>?_⟩,⟨by omega,fun y hy=>?_⟩,⟨by omega,fun y hy=>?_⟩,by omega⟩
 ·obtain ⟨e1,e2,e3⟩:=a2 y hy
  refine ⟨by omega,by omega,fun z hz=>?_⟩;have:=e3 z hz;unfold recN at this;exact ⟨by omega,by omega,by omega,by omega⟩
 ·have:=b2 y hy
  unfold rootN at this;exact ⟨by omega,by omega⟩
 ·have:=c2 y hy
  unfold rootN at this;exact ⟨by omega,by omega,by omega,by omega⟩
theorem imgOut_le {n:Nat} {h:HeldT} (hn:n≤3000) (hc:HeldC n h):(imgOut h).length≤10000000:=by
 cases e:imgW h with
 |none=>simp [imgOut,e]
 |some ob =>
  have e1:imgOut h=heldB h:=by rw [← imgW_out e];simp [imgOut,e]
  obtain ⟨p0,p1,p2⟩:=imgW_all (h:=h) (by rw [e];rfl);obtain ⟨⟨⟨m0,m0'⟩,_⟩,⟨m1,_⟩,⟨m2,_⟩,m3⟩:=hc;have q0:=leafRows_le p0;have q1:=rowsB_le (fun x=>bytesOf (rootB x)) 161 h.2.1 fun x hx=>by have:=rootB_length (p1 x hx);simp;omega
  have q2:=rowsB_le (fun x=>bytesOf (evdB x)) 330 h.2.2.1 fun x hx=>by have:=evdB_length (p2 x hx);simp;omega
  have q3:=rowsB_le be 8 h.2.2.2.1 fun x _=>by simp
  rw [e1];simp only [heldB,List.length_append,be_length]
  omega
theorem rows_first {e:TypeId} {v w:Value} {xs ys:List UInt8} {m:Fr} (h:Sat [RowsP Rp.u8 e [v,w] [xs,ys]] m):Arr Rp.u8 m v xs:=by
 obtain ⟨m1,_,_,s1,_,x,_⟩:=h;obtain ⟨m2,_,_,s2,_,y,_⟩:=x;exact y.arr.mono (Fr.sub_trans s2 s1)
theorem imagePuts_c {r:Fr} {cs:List Value} {h:HeldT} (hr:HeldRp.rel r cs h) (ho:HeldOk big h) :
  Con prog 3 #[.agg cs.toArray] r [] (Ret fun v η=>v=.bool true∧η=[]):=by
 obtain ⟨xa0,xa1,xa2,xa3,xc0,xc1,xc2,xc3,rfl,k0,k1,k2,k3⟩:=HeldRp.sh hr;refine Con.o func3 fun g hg R hR=>?_;have hr:=hr.mono hg;refine S.seq<|S.region rfl<|O.opE (.p rfl) (.box (cs:=[_,_,_,_]) rfl rfl) ?_;rintro _ _ ⟨b1,rfl,rfl⟩;refine zz 4 ?_;refine S.frzO zC fun g hs hm hb1=>?_;replace hg:=Fr.sub_trans hg hs;replace hR:=melted hR hm
 try replace hr:=hr.mono hs
 clear hs hm;refine S.region rfl<|O.op (.p rfl) (.loadAgg isAgg27 zB rfl hb1) ?_;refine O.call0 (.p rfl) rfl zB rfl rfl ((heldOf_c hr ho ⟨by decide,by decide⟩)) ?_;rintro v11 _ ⟨n,rfl,hn,rfl⟩;refine zz 2 ?_;refine S.cd rfl (fun h12=>?_) fun h12=>?_
 ·refine S.seq<|S.region rfl<|O.v0 (.p rfl) rfl zB rfl rfl (awake_c) ?_
  refine zz 2 ?_;exact S.rt results3 rfl hR ⟨rfl,rfl⟩
 ·have hc:=hn zD
  have hB:=(hc.mono (by omega:n≤3000)).b;have hk:=heldOk_of zD hc ho;have hol:=imgOut_le zD hc;refine zz 3 ?_;refine O.op (.p rfl) (.loadAgg isAgg27 zB rfl hb1) ?_;refine O.call0 (.p rfl) rfl zB rfl rfl ((lentHeld_c hr hk)) ?_;rintro _ _ ⟨a0,c0,a1,c1,a2,c2,a3,c3,rfl,rfl⟩;refine O.opE (.p rfl) (.alloc (cs:=[.slice none 0 0,.slice none 0 0,.slice none 0 0,.slice none 0 0]) zeroValue27 rfl) ?_;rintro _ _ ⟨b3,rfl,rfl⟩;refine zz 1 ?_;refine O.nil<|S.seq<|S.objIs (b:=b3) (cs' :=[.slice a0 h.1.length c0,.slice a1 h.2.1.length c1,.slice a2 h.2.2.1.length c2,.slice a3 h.2.2.2.1.length c3]) zC rfl ?_;refine S.frzO zC fun g hs hm hb3=>?_;replace hg:=Fr.sub_trans hg hs;replace hR:=melted hR hm
  try replace hr:=hr.mono hs
  try replace hb1:=hb1.mono hs
  clear hs hm;refine S.frz (A:=(HeldL tys).own [.slice a0 h.1.length c0,.slice a1 h.2.1.length c1,.slice a2 h.2.2.1.length c2,.slice a3 h.2.2.2.1.length c3] h) zC fun g hs hm ⟨_,x',s'⟩=>?_;have hL:=(fun s x=>(HeldL tys).mono s ((HeldL tys).read x)) s' x';clear x' s';replace hg:=Fr.sub_trans hg hs;replace hR:=melted hR hm
  try replace hr:=hr.mono hs
  try replace hb1:=hb1.mono hs
  try replace hb3:=hb3.mono hs
  clear hs hm;have hLr:=(HeldL tys).rel hL;refine S.region rfl<|O.op (.p rfl) (.loadAgg isAgg27 zB rfl hb3) ?_;refine O.call0 (.p rfl) rfl zB rfl rfl ((iPut_c hLr hB)) ?_;rintro _ _ ⟨a18,c18,rfl,rfl⟩;refine zz 8 ?_;refine O.op (.p rfl) (.loadAgg isAgg27 zB rfl hb3) ?_;refine O.call0 (.p rfl) rfl zB rfl rfl ((iPut_c hLr hB)) ?_;rintro _ _ ⟨a23,c23,rfl,rfl⟩;refine zz 8 ?_;refine O.op (.p rfl) (.loadAgg isAgg27 zB rfl hb1) ?_;refine O.call0 (.p rfl) rfl zB rfl rfl ((r20put_c hr hB)) ?_;rintro _ _ ⟨a28,c28,rfl,rfl⟩;refine zz 7 ?_;refine S.each0 (OwnP Rp.u8 5) ?_;refine S.each (A:=OwnP Rp.u8 5) (b:=.slice a18 (imgOut h).length c18) (a:=imgOut h) zC zC ?_;refine S.each (A:=OwnP Rp.u8 5) (b:=.slice a23 (imgOut h).length c23) (a:=imgOut h) zC zC ?_;simp only [List.nil_append,List.cons_append];refine S.frzA zC fun g hs hm hb=>?_;replace hg:=Fr.sub_trans hg hs;replace hR:=melted hR hm
  try replace hr:=hr.mono hs
  try replace hb1:=hb1.mono hs
  try replace hb3:=hb3.mono hs
  try replace hL:=hL.mono hs
  try replace hLr:=hLr.mono hs
  clear hs hm;refine S.regionD (L:=[0,1,2,3,4,5,6,7,8,9,11,10,12,13,14,15,16,17,18,19,20,21,22,23,24,25,26,27,28,29,30,31,32,33,34]) F.mixed zB ?_;refine zz 3 ?_;refine OD.sT 33 rfl zG ?_;refine OD.q 3 rfl<|OD.callB (.g rfl rfl) zB rfl zB rfl rfl (bs:=[RowsP Rp.u8 5 [.slice a18 (imgOut h).length c18,.slice a23 (imgOut h).length c23] [imgOut h,imgOut h]]) zI (fun m hm hd=>SameBytes_c ((rows_first hm).right hd) hb.left) ?_;rintro _ _ ⟨rfl,rfl⟩;refine OD.sT 37 rfl zG ?_;refine OD.q 2 rfl<|.quiet (.g rfl rfl) rfl (fun _=>.loadAgg isAgg27 zB rfl hb3) ?_;refine .quiet (.g rfl rfl) rfl (fun _=>.loadAgg isAgg27 zB rfl hb1) ?_;refine OD.v0 (.g rfl rfl) zB rfl zB rfl rfl ((iRight_c hLr hB)) ?_;refine OD.v0 (.g rfl rfl) zB rfl zB rfl rfl ((r20right_c hr)) ?_;refine .quiet (.g rfl rfl) rfl (fun _=>.eqlB underlying4 rfl rfl)<|OD.sT 44 rfl zG ?_;refine OD.q 2 rfl<|.quiet (.g rfl rfl) rfl (fun _=>.loadAgg isAgg27 zB rfl hb3) ?_;refine .quiet (.g rfl rfl) rfl (fun _=>.loadAgg isAgg27 zB rfl hb1) ?_;refine OD.v0 (.g rfl rfl) zB rfl zB rfl rfl ((keptHeld_c hL hr hk)) ?_;refine OD.q 4 rfl<|OD.litP (T:=Rp.val) (ys:=[_,_]) (.g rfl rfl) zB underlying39 elem31 zE rfl rfl ⟨⟨rfl,rfl⟩,⟨rfl,rfl⟩,trivial⟩ zE (fun a54 c54=>?_)
  refine OD.callSs (.g rfl rfl) zB rfl zB rfl rfl zI (Con.lentW (η:=[RowsP Rp.u8 5 [.slice a18 (imgOut h).length c18,.slice a23 (imgOut h).length c23] [imgOut h,imgOut h]]) (bs:=[OwnP Rp.val 31 (.slice a54 2 c54) [.slice a18 (imgOut h).length c18,.slice a23 (imgOut h).length c23]]) (fun m hm hd=>ApartBytes_c (hm.arr.right hd) zJ zG)) ?_;rintro v55 _ ⟨_,⟨rfl,rfl⟩,rfl⟩;refine OD.q 2 rfl<|.quiet (.g rfl rfl) rfl (fun _=>.loadAgg isAgg27 zB rfl hb3) ?_;refine .quiet (.g rfl rfl) rfl (fun _=>.loadAgg isAgg27 zB rfl hb1) ?_;refine OD.v0 (.g rfl rfl) zB rfl zB rfl rfl ((keptHeld_c hL hr hk)) ?_;refine OD.q 2 rfl<|OD.v0 (.g rfl rfl) zB rfl zB rfl rfl (awake_c) ?_;refine zz 3 ?_;exact S.rt results3 rfl hR ⟨rfl,rfl⟩
noncomputable def hOut (b:List UInt8):HeldT:=(hGet b).getD ([],[],[],[],())
noncomputable def hErr (b:List UInt8):Int:=if (hGet b).isSome then 0 else 4
theorem hGetU_c {r:Fr} {va:Value} {b:List UInt8} (ha:Arr Rp.u8 r va b) (hl:b.length≤1000000000) (hB:GetB b) :
  Con prog 25 #[va] r [] (Ret fun v η=>∃ a0 c0 a1 c1 a2 c2 a3 c3,v=.tuple #[.agg (heldV (.slice a0 (hOut b).1.length c0) (.slice a1 (hOut b).2.1.length c1) (.slice a2 (hOut b).2.2.1.length c2) (.slice a3 (hOut b).2.2.2.1.length c3)).toArray,.int .i64 (hErr b)]∧η=heldWs (hOut b) (.slice a0 (hOut b).1.length c0) (.slice a1 (hOut b).2.1.length c1) (.slice a2 (hOut b).2.2.1.length c2) (.slice a3 (hOut b).2.2.2.1.length c3)) :=
 (hGet_c ha hl hB).post fun e η h w g hw=>by
  cases e with
  |returned v =>
   cases e:hGet b with
   |some x =>
    obtain ⟨a0,c0,a1,c1,a2,c2,a3,c3,rfl,rfl⟩:=held_tY e h;have e1:hOut b=x:=by simp [hOut,e]
    have e2:hErr b=0:=by simp [hErr,e]
    exact ⟨_,⟨a0,c0,a1,c1,a2,c2,a3,c3,by rw [e1,e2],rfl⟩,by rw [e1];exact hw⟩
   |none =>
    obtain ⟨rfl,rfl⟩:=held_tN e h;have e1:hOut b=([],[],[],[],()):=by simp [hOut,e]
    have e2:hErr b=4:=by simp [hErr,e]
    exact ⟨_,⟨none,0,none,0,none,0,none,0,by rw [e1,e2];rfl,rfl⟩,by rw [e1];exact hw.imp fun m x=>sat_listNil (sat_listNil (sat_listNil ⟨Fr.emp,m,Fr.emp_disj _,Fr.emp_sub _,Fr.sub_refl _,ownP_nil _,x⟩))⟩
  |panicked _=>exact h.elim
  |outgrown=>exact h.elim
end Go.Proofs.YtodhbhanmdfdeaaGreat
