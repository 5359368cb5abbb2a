/- Texts of this proof. -/
import Derived.Test.YtdjoggpacmpfnaaGreatDoorQFrame14
open Go Go.Sp Go.Proofs.Tryz
set_option maxRecDepth 100000
set_option maxHeartbeats 1000000
attribute [local irreducible] obj Own OwnP
namespace Go.Proofs.YtdjoggpacmpfnaaGreatDoor
theorem recordOf_c {r:Fr} {cs:List Value} {x:RecT} (h:RecRp.rel r cs x) (ho:RecOk big x) :
  Con prog 107 #[.agg cs.toArray] r [] (Ret fun v η=>v=.int .i64 (recN x:Int)∧η=[]):=by
 obtain ⟨xa3,xa5,xa6,xc3,xc5,xc6,rfl,k0,k1,k2,k3,k5,k6⟩:=RecRp.sh h;obtain ⟨o0,o1,o2,o3⟩:=ho;unfold big at o0 o1 o2 o3;have hz0:=str_size x.1;refine Con.o func107 fun g hg R hR=>?_;refine S.seq<|S.region rfl<|O.opE (.p rfl) (.box (cs:=[_,_,_,_,_,_,_]) rfl rfl) ?_;rintro _ _ ⟨b1,rfl,rfl⟩;refine zz 19 ?_;refine O.op (.p rfl) (.quo rfl rfl zC)<|O.slot 18 (v' :=.int .i64 (((x.1.length+x.2.2.2.2.2.1.length+x.2.2.2.2.2.2.1.length) / 8:Nat):Int)) rfl (by rw [hz0,Int.tdiv_eq_ediv_of_nonneg zC,IntWalk.i64_in _ zC];rfl) ?_;refine zz 1 ?_;refine O.slot 19 (v' :=.int .i64 (recN x:Int)) rfl (by unfold recN;exact congrArg _ zC) ?_;refine zz 2 ?_;exact S.rt results107 rfl hR ⟨rfl,rfl⟩
theorem rootOf_c {r:Fr} {cs:List Value} {x:RootT} (h:RootRp.rel r cs x) (ho:RootOk big x) :
  Con prog 39 #[.agg cs.toArray] r [] (Ret fun v η=>v=.int .i64 (rootN x:Int)∧η=[]):=by
 obtain ⟨xa3,xa4,xc3,xc4,rfl,k0,k1,k2,k3,k4⟩:=RootRp.sh h;obtain ⟨o0,o1⟩:=ho;unfold big at o0 o1;refine Con.o func39 fun g hg R hR=>?_;refine S.seq<|S.region rfl<|O.opE (.p rfl) (.box (cs:=[_,_,_,_,_]) rfl rfl) ?_;rintro _ _ ⟨b1,rfl,rfl⟩;refine zz 11 ?_;refine O.op (.p rfl) (.quo rfl rfl zC)<|O.slot 10 (v' :=.int .i64 (((x.2.2.2.1.length+x.2.2.2.2.1.length) / 8:Nat):Int)) rfl (by rw [Int.tdiv_eq_ediv_of_nonneg zC,IntWalk.i64_in _ zC];rfl) ?_;refine zz 1 ?_;refine O.slot 11 (v' :=.int .i64 (rootN x:Int)) rfl (by unfold rootN;exact congrArg _ zC) ?_;refine zz 2 ?_;exact S.rt results39 rfl hR ⟨rfl,rfl⟩
theorem recordsOf_c {r:Fr} {va:Value} {l:List RecT} {most:Int} (ha:Arr RecRp r va l) (ho:∀ x∈l,RecOk big x) (hl:l.length≤big) (hm:0≤most∧most≤1000000000) :
  Con prog 42 #[va,.int .i64 most] r [] (Ret fun v η=>∃ n:Nat,v=.int .i64 (n:Int)∧(n:Int)≤1000000000000000∧((n:Int)≤most→RecsC n l)∧η=[]):=by
 unfold big at hl;obtain ⟨hm0,hm1⟩:=hm;have har:=ha;refine Con.o func42 fun g hg R hR=>?_;have ha:=ha.mono hg;have hbd:=ha.bound;obtain ⟨a1,c1,rfl⟩:=ha.shape;refine zz 14 ?_;refine S.loopK2 (ι:=Nat) (κ:=Nat) (fun i n=>i≤l.length∧i≤n∧(n:Int)≤1000000000000000∧∀ x∈l.take i,recN x≤n) (fun i n=>[(5,.int .i64 (n:Int)),(6,.int .i64 (i:Int))]) [(0,_),(1,_)] (fun i n=>[]) (fun i n=>l.length - i) (0) (0) (by exact ⟨by simp,by simp,by omega,by simp⟩) zq zq rfl fun i n hx ih=>?_;have hm1:=meltRefl (g:=g);obtain ⟨hx1,hx2,hx3,hx4⟩:=hx
 by_cases q1:¬ i<l.length
 ·clear ih
  have hi:i=l.length:=by omega
  rw [hi,List.take_length] at hx4;refine zz 7 ?_;refine O.sF 10 rfl (by exact zdf zC) ?_;refine zz 13 ?_;exact S.rt results42 rfl hR ⟨n,rfl,hx3,fun _=>⟨by omega,hx4⟩,rfl⟩
 have hi:i<l.length:=Classical.not_not.1 q1
 by_cases q2:¬ (n:Int)≤most
 ·clear ih
  refine zz 7 ?_;refine O.sT 10 rfl (by exact zdt zC)<|zz 4 ?_;refine O.sF 14 rfl (by exact zdf q2)<|zz 9 ?_;exact S.rt results42 rfl hR ⟨n,rfl,hx3,fun h=>absurd h q2,rfl⟩
 replace q2:=Classical.not_not.1 q2;have hoi:=ho _ (List.getElem_mem hi);have hri:=recN_le hoi;unfold big at hri;have hrp:1≤recN l[i]:=by unfold recN;omega
 refine zz 7 ?_;refine O.sT 10 rfl (by exact zdt zC)<|zz 4 ?_;refine O.sT 14 rfl (by exact zdt q2)<|zz 10 ?_;refine O.iy har hg (h:=fun p21 cs21 hp21 hrr21=>?_);have hr21:=Rp.rel.mono hrr21 hg;obtain ⟨ra3_21,ra5_21,ra6_21,rc3_21,rc5_21,rc6_21,rfl,ho0_21,ho1_21,ho2_21,ha3_21,ha5_21,ha6_21⟩:=RecRp.sh hr21;refine O.op (.p rfl) (.loadAgg isAgg118 zB rfl hp21) ?_;refine O.v0 (.p rfl) rfl zB rfl rfl (recordOf_c (by first|assumption|exact Rp.rel.mono zF hg) zF)<|zz 1 ?_;refine O.slot 24 (v' :=.int .i64 ((n+recN l[i]:Nat):Int)) rfl (by rw [Int.natCast_add])<|zz 8 ?_;exact S.wk (ih (i+1) (n+recN l[i]) (by exact ⟨by omega,by omega,by omega,mem_take_succ hi (fun x hx=>by have:=hx4 x hx;omega) zC⟩) zC)
theorem leavesOf_c {r:Fr} {va:Value} {l:List LeafT} {most:Int} (ha:Arr LeafRp r va l) (ho:∀ x∈l,LeafOk big x) (hl:l.length≤big) (hm:0≤most∧most≤1000000000) :
  Con prog 106 #[va,.int .i64 most] r [] (Ret fun v η=>∃ n:Nat,v=.int .i64 (n:Int)∧(n:Int)≤3000000000000000∧((n:Int)≤most→LeavesC n l)∧η=[]):=by
 unfold big at hl;obtain ⟨hm0,hm1⟩:=hm;have har:=ha;refine Con.o func106 fun g hg R hR=>?_;have ha:=ha.mono hg;have hbd:=ha.bound;obtain ⟨a1,c1,rfl⟩:=ha.shape;refine zz 14 ?_;refine S.loopK2 (ι:=Nat) (κ:=Nat) (fun i n=>i≤l.length∧i≤n∧(n:Int)≤3000000000000000∧((n:Int)≤most→recsIn (l.take i)≤n∧∀ x∈l.take i,LeafC n x)) (fun i n=>[(5,.int .i64 (n:Int)),(6,.int .i64 (i:Int))]) [(0,_),(1,_)] (fun i n=>[]) (fun i n=>l.length - i) (0) (0) (by exact ⟨by simp,by simp,by omega,fun _=>⟨by simp [recsIn],by simp⟩⟩) zq zq rfl fun i n hx ih=>?_;have hm1:=meltRefl (g:=g);obtain ⟨hx1,hx2,hx3,hx4⟩:=hx
 by_cases q1:¬ i<l.length
 ·clear ih
  have hi:i=l.length:=by omega
  rw [hi,List.take_length] at hx4;refine zz 7 ?_;refine O.sF 10 rfl (by exact zdf zC) ?_;refine zz 13 ?_;exact S.rt results106 rfl hR ⟨n,rfl,hx3,fun q=>⟨⟨by omega,(hx4 q).1⟩,(hx4 q).2⟩,rfl⟩
 have hi:i<l.length:=Classical.not_not.1 q1
 by_cases q2:¬ (n:Int)≤most
 ·clear ih
  refine zz 7 ?_;refine O.sT 10 rfl (by exact zdt zC)<|zz 4 ?_;refine O.sF 14 rfl (by exact zdf q2)<|zz 9 ?_;exact S.rt results106 rfl hR ⟨n,rfl,hx3,fun h=>absurd h q2,rfl⟩
 replace q2:=Classical.not_not.1 q2;have hoi:=ho _ (List.getElem_mem hi);obtain ⟨ho1,ho2,ho3⟩:=hoi;have hz0:=str_size l[i].1;have ho1' :l[i].1.length≤140737488351232:=ho1;refine zz 7 ?_;refine O.sT 10 rfl (by exact zdt zC) ?_;refine zz 4 ?_;refine O.sT 14 rfl (by exact zdt q2) ?_;refine zz 6 ?_;refine S.regionD (L:=.range 21) F.mixed zB ?_;refine zz 4 ?_;refine OD.iy har hg (h:=fun p22 cs22 hp22 hrr22=>?_);have hr22:=Rp.rel.mono hrr22 hg;obtain ⟨la1_22,lc1_22,rfl,ho0_22,ha1_22⟩:=LeafRp.sh hr22;refine zz 3 ?_;refine .quiet (.p rfl) rfl (fun _=>.quo rfl rfl zC)<|OD.slot 26 (v' :=.int .i64 ((l[i].1.length / 8:Nat):Int)) rfl (by rw [hz0,Int.tdiv_eq_ediv_of_nonneg zC,IntWalk.i64_in _ zC];rfl) ?_;refine zz 3 ?_;refine OD.iy har hg (h:=fun p30 cs30 hp30 hrr30=>?_);have hr30:=Rp.rel.mono hrr30 hg;obtain ⟨la1_30,lc1_30,rfl,ho0_30,ha1_30⟩:=LeafRp.sh hr30;refine zz 5 ?_;refine OD.call0 (.p rfl) zB rfl zB rfl rfl ((recordsOf_c ha1_30 ho3 ho2 ⟨by omega,by omega⟩)) ?_;rintro v36 _ ⟨m,rfl,hm2,hm3,rfl⟩;refine zz 1 ?_;refine OD.slot 37 (v' :=.int .i64 ((n+1+l[i].1.length / 8+m:Nat):Int)) rfl (by exact congrArg _ zC) ?_;refine zz 8 ?_
 exact S.wk (ih (i+1) (n+1+l[i].1.length / 8+m) (by exact ⟨by omega,by omega,by omega,fun q=>⟨by have h7:=(hx4 zC).1;have h8:=(hm3 zC).1;rw [recsIn_succ hi];omega,mem_take_succ hi (fun x hx=>((hx4 zC).2 x hx).mono zC) ⟨by omega,(hm3 zC).mono zC⟩⟩⟩) zC)
def RowsC (n:Nat) (l:List (List UInt8)):Prop:=l.length≤n∧∀ x∈l,x.length / 8≤n
theorem rowsOf_c {r:Fr} {va:Value} {l:List (List UInt8)} {most:Int} (ha:Arr (Rp.slice Rp.u8) r va l) (ho:l.length≤big∧∀ x∈l,x.length≤big) (hm:0≤most∧most≤1000000000) :
  Con prog 105 #[va,.int .i64 most] r [] (Ret fun v η=>∃ n:Nat,v=.int .i64 (n:Int)∧(n:Int)≤1000000000000000∧((n:Int)≤most→RowsC n l)∧η=[]):=by
 obtain ⟨hl,ho⟩:=ho;unfold big at hl;obtain ⟨hm0,hm1⟩:=hm;refine Con.o func105 fun g hg R hR=>?_;have ha:=ha.mono hg;have hbd:=ha.bound;obtain ⟨a1,c1,rfl⟩:=ha.shape;refine zz 16 ?_;refine S.loopK2 (ι:=Nat) (κ:=Nat) (fun i n=>i≤l.length∧l.length≤n∧(n:Int)≤1000000000000000∧∀ x∈l.take i,x.length / 8≤n) (fun i n=>[(5,.int .i64 (n:Int)),(6,.int .i64 (i:Int))]) [(0,_),(1,_)] (fun i n=>[]) (fun i n=>l.length - i) (0) (l.length) (by exact ⟨by simp,by simp,by omega,by simp⟩) zq zq rfl fun i n hx ih=>?_;have hm1:=meltRefl (g:=g);obtain ⟨hx1,hx2,hx3,hx4⟩:=hx
 by_cases q1:¬ i<l.length
 ·clear ih
  have hi:i=l.length:=by omega
  rw [hi,List.take_length] at hx4;refine zz 7 ?_;refine O.sF 12 rfl (by exact zdf zC) ?_;refine zz 13 ?_;exact S.rt results105 rfl hR ⟨n,rfl,hx3,fun _=>⟨hx2,hx4⟩,rfl⟩
 have hi:i<l.length:=Classical.not_not.1 q1
 by_cases q2:¬ (n:Int)≤most
 ·clear ih
  refine zz 7 ?_;refine O.sT 12 rfl (by exact zdt zC)<|zz 4 ?_;refine O.sF 16 rfl (by exact zdf q2)<|zz 9 ?_;exact S.rt results105 rfl hR ⟨n,rfl,hx3,fun h=>absurd h q2,rfl⟩
 replace q2:=Classical.not_not.1 q2;have hoi:=ho _ (List.getElem_mem hi);unfold big at hoi;refine zz 7 ?_;refine O.sT 12 rfl (by exact zdt zC) ?_;refine zz 4 ?_;refine O.sT 16 rfl (by exact zdt q2) ?_;refine zz 10 ?_;refine O.iz (ha) (h:=fun p23 cs23 hp23 hr23=>?_);obtain ⟨v23,rfl,ha23⟩:=hr23;obtain ⟨a23,c23,rfl⟩:=ha23.shape;refine zz 2 ?_;refine O.op (.p rfl) (.quo rfl rfl zC)<|O.slot 26 (v' :=.int .i64 ((l[i].length / 8:Nat):Int)) rfl (by rw [Int.tdiv_eq_ediv_of_nonneg zC,IntWalk.i64_in _ zC];rfl) ?_;refine zz 1 ?_;refine O.slot 27 (v' :=.int .i64 ((n+l[i].length / 8:Nat):Int)) rfl (by exact congrArg _ zC) ?_;refine zz 8 ?_;exact S.wk (ih (i+1) (n+l[i].length / 8) (by exact ⟨by omega,by omega,by omega,mem_take_succ hi (fun x hx=>by have:=hx4 x hx;omega) zC⟩) zC)
def PrfC (n:Nat) (p:PrfT):Prop:=RowsC n p.1∧p.2.1.length≤n∧∀ x∈p.2.1,(x.1.length+x.2.1.length) / 8≤n
theorem RowsC.mono {n m:Nat} {l:List (List UInt8)} (h:n≤m) (x:RowsC n l):RowsC m l:=⟨Nat.le_trans x.1 h,fun y hy=>Nat.le_trans (x.2 y hy) h⟩
def PrfOk' (p:PrfT):Prop:=(p.1.length≤big∧∀ x∈p.1,x.length≤big)∧p.2.1.length≤big∧∀ x∈p.2.1,x.1.length≤big∧x.2.1.length≤big
theorem proofOf_c {r:Fr} {cs:List Value} {p:PrfT} {most:Int} (h:PrfRp.rel r cs p) (ho:PrfOk' p) (hm:0≤most∧most≤1000000000) :
  Con prog 40 #[.agg cs.toArray,.int .i64 most] r [] (Ret fun v η=>∃ n:Nat,v=.int .i64 (n:Int)∧(n:Int)≤3000000000000000∧((n:Int)≤most→PrfC n p)∧η=[]):=by
 obtain ⟨x1,x2,y1,y2,rfl,k1,k2⟩:=PrfRp.sh h;obtain ⟨o1,hl,o2⟩:=ho;unfold big at hl;obtain ⟨hm0,hm1⟩:=id hm;refine Con.o func40 fun g hg R hR=>?_;have k1:=k1.mono hg;have k2:=k2.mono hg;have hb2:=k2.bound;have k2r:=k2;refine S.seq<|S.region rfl<|O.opE (.p rfl) (.box (cs:=[_,_]) rfl rfl) ?_;rintro _ _ ⟨b2,rfl,rfl⟩;refine zz 3 ?_;refine S.frzO zD fun g hs hm h2=>?_;replace hg:=zfs hg hs;replace hR:=melted hR hm
 try replace k1:=k1.mono hs
 try replace k2:=k2.mono hs
 clear hs hm;refine zz 1 ?_;refine O.op (.p rfl) (.fieldAddr fld31x0 rfl) ?_;refine zz 1 ?_;refine O.q 1 rfl<|O.call0 (.p rfl) rfl zB rfl rfl ((rowsOf_c k1 o1 hm)) ?_;rintro v10 _ ⟨n1,rfl,hn1,hm10,rfl⟩;refine zz 1 ?_;refine O.slot 11 (v' :=.int .i64 ((1+n1:Nat):Int)) rfl (by exact congrArg _ zC) ?_;refine zz 8 ?_;refine S.loopK2 (ι:=Nat) (κ:=Nat) (fun i n=>i≤p.2.1.length∧i≤n∧1+n1≤n∧(n:Int)≤3000000000000000∧∀ x∈p.2.1.take i,(x.1.length+x.2.1.length) / 8≤n) (fun i n=>[(5,.int .i64 (n:Int)),(6,.int .i64 (i:Int))]) [(1,_),(2,_)] (fun i n=>[]) (fun i n=>p.2.1.length - i) (0) (1+n1) (by exact ⟨by simp,by simp,by omega,by omega,by simp⟩) zq zq rfl fun i n hx ih=>?_;have hm1:=meltRefl (g:=g);obtain ⟨hx1,hx2,hx3,hx4,hx5⟩:=hx
 by_cases q1:¬ i<p.2.1.length
 ·clear ih
  have hi:i=p.2.1.length:=by omega
  rw [hi,List.take_length] at hx5;refine zz 4 ?_;refine O.op (.p rfl) (.fieldAddr fld31x1 rfl) ?_;refine zz 3 ?_;refine O.sF 16 rfl (by exact zdf zC) ?_;refine zz 13 ?_;exact S.rt results40 rfl hR ⟨n,rfl,hx4,fun q=>⟨(hm10 zC).mono zC,by omega,hx5⟩,rfl⟩
 have hi:i<p.2.1.length:=Classical.not_not.1 q1
 by_cases q2:¬ (n:Int)≤most
 ·clear ih
  refine zz 4 ?_;refine O.op (.p rfl) (.fieldAddr fld31x1 rfl)<|zz 3 ?_;refine O.sT 16 rfl (by exact zdt zC)<|zz 4 ?_;refine O.sF 20 rfl (by exact zdf q2)<|zz 9 ?_;exact S.rt results40 rfl hR ⟨n,rfl,hx4,fun h=>absurd h q2,rfl⟩
 replace q2:=Classical.not_not.1 q2;obtain ⟨ho1,ho2⟩:=o2 _ (List.getElem_mem hi);have hz0:=str_size p.2.1[i].1;unfold big at ho1 ho2;refine zz 4 ?_;refine O.op (.p rfl) (.fieldAddr fld31x1 rfl) ?_;refine zz 3 ?_;refine O.sT 16 rfl (by exact zdt zC) ?_;refine zz 4 ?_;refine O.sT 20 rfl (by exact zdt q2) ?_;refine zz 6 ?_;refine S.regionD (L:=.range 20) F.mixed zB ?_;refine zz 4 ?_;refine OD.q 1 rfl<|OD.iz (k2) (h:=fun p29 cs29 hp29 hr29=>?_);obtain ⟨l1,m1,rfl,l2,l3⟩:=StubRp.sh hr29;refine zz 5 ?_;refine OD.q 1 rfl<|OD.iz (k2) (h:=fun p36 cs36 hp36 hr36=>?_);obtain ⟨n1',n2',rfl,n3,n4⟩:=StubRp.sh hr36;refine zz 4 ?_;refine .quiet (.p rfl) rfl (fun _=>.quo rfl rfl zC)<|OD.slot 41 (v' :=.int .i64 (((p.2.1[i].1.length+p.2.1[i].2.1.length) / 8:Nat):Int)) rfl (by rw [hz0,Int.tdiv_eq_ediv_of_nonneg zC,IntWalk.i64_in _ zC];rfl) ?_;refine zz 1 ?_;refine OD.slot 42 (v' :=.int .i64 ((n+1+(p.2.1[i].1.length+p.2.1[i].2.1.length) / 8:Nat):Int)) rfl (by exact congrArg _ zC) ?_;refine zz 8 ?_;exact S.wk (ih (i+1) (n+1+(p.2.1[i].1.length+p.2.1[i].2.1.length) / 8) (by exact ⟨by omega,by omega,by omega,by omega,mem_take_succ hi (fun x hx=>by have:=hx5 x hx;omega) zC⟩) zC)
def NodeC (n:Nat) (x:NodeT):Prop:=(x.2.1.length+x.2.2.1.length) / 8≤n∧LeavesC n x.2.2.2.1
theorem nodeOf_c {r:Fr} {cs:List Value} {x:NodeT} {most:Int} (h:NodeRp.rel r cs x) (ho:x.2.1.length≤big∧x.2.2.1.length≤big∧x.2.2.2.1.length≤big∧∀ y∈x.2.2.2.1,LeafOk big y) (hm:0≤most∧most≤1000000000) :
  Con prog 41 #[.agg cs.toArray,.int .i64 most] r [] (Ret fun v η=>∃ n:Nat,v=.int .i64 (n:Int)∧(n:Int)≤4000000000000000∧((n:Int)≤most→NodeC n x)∧η=[]):=by
 obtain ⟨x1,x2,x3,y1,y2,y3,rfl,k1,k2,k3⟩:=NodeRp.sh h;obtain ⟨o1,o2,o3,o4⟩:=ho;unfold big at o1 o2;refine Con.o func41 fun g hg R hR=>?_;have k1:=k1.mono hg;have k2:=k2.mono hg;have k3:=k3.mono hg;refine S.seq<|S.region rfl<|O.opE (.p rfl) (.box (cs:=[_,_,_,_]) rfl rfl) ?_;rintro _ _ ⟨b2,rfl,rfl⟩;refine zz 3 ?_;refine S.frzO zD fun g hs hm h2=>?_;replace hg:=zfs hg hs;replace hR:=melted hR hm
 try replace k1:=k1.mono hs
 try replace k2:=k2.mono hs
 try replace k3:=k3.mono hs
 clear hs hm;refine S.regionD (L:=.range 15) F.mixed zB ?_;refine zz 7 ?_;refine .quiet (.p rfl) rfl (fun _=>.quo rfl rfl zC)<|OD.slot 12 (v' :=.int .i64 (((x.2.1.length+x.2.2.1.length) / 8:Nat):Int)) rfl (by rw [Int.tdiv_eq_ediv_of_nonneg zC,IntWalk.i64_in _ zC];rfl) ?_;refine zz 3 ?_;refine OD.q 1 rfl<|OD.call0 (.p rfl) zB rfl zB rfl rfl ((leavesOf_c k3 o4 o3 hm)) ?_;rintro v17 _ ⟨m,rfl,hm2,hm3,rfl⟩;refine zz 1 ?_;refine OD.slot 18 (v' :=.int .i64 ((1+(x.2.1.length+x.2.2.1.length) / 8+m:Nat):Int)) rfl (by exact congrArg _ zC) ?_;refine zz 2 ?_;exact S.rt results41 rfl hR ⟨1+(x.2.1.length+x.2.2.1.length) / 8+m,rfl,by omega,fun q=>⟨by omega,(hm3 zC).mono zC⟩,rfl⟩
def FrmSm (f:FrmT):Prop:=FrmOk 60000 f∧(f.2.2.2.2.2.2.2.2.1.2.2.2.1.length≤5000∧∀ y∈f.2.2.2.2.2.2.2.2.1.2.2.2.1,y.2.1.length≤5000)∧f.2.2.2.2.2.2.2.2.2.1.length≤5000
theorem recs_small {n:Nat} {l:List RecT} (hn:n≤5000) (h:RecsC n l):l.length≤5000∧∀ y∈l,RecOk 60000 y:=⟨Nat.le_trans h.1 hn,fun y hy=>by
 have:=h.2 y hy;unfold recN at this;exact ⟨by omega,by omega,by omega,by omega⟩⟩
theorem FrmOk.mono' {N M:Nat} {x:FrmT} (hM:N≤M) (h:FrmOk N x):FrmOk M x:=by
 obtain ⟨h1,h2,h3,h4,h5,h6,h7,h8,h9,h10,h11,h12,h13,h14,h15⟩:=h;exact ⟨by omega,by omega,by omega,by omega,by omega,⟨by omega,fun y hy=>Nat.le_trans (h6.2 y hy) hM⟩,⟨by omega,fun y hy=>(h7.2 y hy).mono hM⟩,by omega,by omega,⟨by omega,fun y hy=>(h10.2 y hy).mono hM⟩,⟨by omega,fun y hy=>(h11.2 y hy).mono hM⟩,by omega,by omega,by omega,by omega⟩
theorem FrmSm.sz {f:FrmT} (h:FrmSm f):FrmSz f:=by
 obtain ⟨h1,h2,h3⟩:=h;obtain ⟨_,_,_,_,_,_,g7,g8,g9,_⟩:=id h1;exact ⟨FrmOk.mono' (N:=60000) zE h1,⟨⟨by omega,by omega⟩,by omega,fun y hy=>by have:=h2.2 y hy;omega⟩,by have:=g7.1;omega,by omega⟩
theorem frameOf_c {r:Fr} {cs:List Value} {f:FrmT} (hf:FrmRp.rel r cs f) (ho:FrmOk big f) :
  Con prog 14 #[.agg cs.toArray,.int .i64 5000] r [] (Ret fun v η=>∃ n:Nat,v=.int .i64 (n:Int)∧((n:Int)≤5000→FrmSm f)∧η=[]):=by
 have hf0:=hf;obtain ⟨a8,a9,a10,a11,a12,a14,a15,a16,a17,a21,a22,a26,a27,c8,c9,c10,c11,c12,c14,c15,c16,c17,c21,c22,c26,c27,rfl,p1,p2,p3,p4,p5,p6,p7,p8,p9,p10,p11,p12,p14,p15,p16,p17,p18,p19,p20,p21,p22,p23,p24,p25,p26,p27,p28⟩:=FrmRp.sh hf0;obtain ⟨b1',b2',b3',b4',b5',b6',b7',b8',b9',b10',b11',b12',b13',b14',b15'⟩:=ho;have z1:=str_size f.2.2.2.1;have z2:=str_size f.2.2.2.2.1;have g1:=rootN_le (x:=f.2.2.2.2.2.1) ⟨b3',b4'⟩;have g2:=rootN_le (x:=f.2.2.2.2.2.2.2.2.2.2.1.1) ⟨b12',b13'⟩;have g3:=rootN_le (x:=f.2.2.2.2.2.2.2.2.2.2.1.2.1) ⟨b14',b15'⟩;unfold big at g1 g2 g3;refine Con.o func14 fun g hg R hR=>?_;have hf:=hf.mono hg;have p8:=p8.mono hg;have p9:=p9.mono hg;have p10:=p10.mono hg;have p11:=p11.mono hg;have p12:=p12.mono hg;have p14:=p14.mono hg;have p15:=p15.mono hg;have p16:=p16.mono hg;have p17:=p17.mono hg;have p21:=p21.mono hg;have p22:=p22.mono hg;have p26:=p26.mono hg;have p27:=p27.mono hg;have t1:RootRp.rel g.h [.int .i64 f.2.2.2.2.2.1.1,.int .i64 f.2.2.2.2.2.1.2.1,.int .i64 f.2.2.2.2.2.1.2.2.1,.slice a8 f.2.2.2.2.2.1.2.2.2.1.length c8,.slice a9 f.2.2.2.2.2.1.2.2.2.2.1.length c9] f.2.2.2.2.2.1:=RootRp.mk p5 p6 p7 p8 p9
 have t2:RootRp.rel g.h [.int .i64 f.2.2.2.2.2.2.2.2.2.2.1.1.1,.int .i64 f.2.2.2.2.2.2.2.2.2.2.1.1.2.1,.int .i64 f.2.2.2.2.2.2.2.2.2.2.1.1.2.2.1,.slice a21 f.2.2.2.2.2.2.2.2.2.2.1.1.2.2.2.1.length c21,.slice a22 f.2.2.2.2.2.2.2.2.2.2.1.1.2.2.2.2.1.length c22] f.2.2.2.2.2.2.2.2.2.2.1.1:=RootRp.mk p18 p19 p20 p21 p22;have t3:RootRp.rel g.h [.int .i64 f.2.2.2.2.2.2.2.2.2.2.1.2.1.1,.int .i64 f.2.2.2.2.2.2.2.2.2.2.1.2.1.2.1,.int .i64 f.2.2.2.2.2.2.2.2.2.2.1.2.1.2.2.1,.slice a26 f.2.2.2.2.2.2.2.2.2.2.1.2.1.2.2.2.1.length c26,.slice a27 f.2.2.2.2.2.2.2.2.2.2.1.2.1.2.2.2.2.1.length c27] f.2.2.2.2.2.2.2.2.2.2.1.2.1:=RootRp.mk p23 p24 p25 p26 p27;have hprf:PrfRp.rel g.h [.slice a11 f.2.2.2.2.2.2.2.1.1.length c11,.slice a12 f.2.2.2.2.2.2.2.1.2.1.length c12] f.2.2.2.2.2.2.2.1:=PrfRp.mk p11 p12;have hnode:NodeRp.rel g.h [byteV f.2.2.2.2.2.2.2.2.1.1,.slice a14 f.2.2.2.2.2.2.2.2.1.2.1.length c14,.slice a15 f.2.2.2.2.2.2.2.2.1.2.2.1.length c15,.slice a16 f.2.2.2.2.2.2.2.2.1.2.2.2.1.length c16] f.2.2.2.2.2.2.2.2.1:=NodeRp.mk p14 p15 p16;have o1:RootOk big f.2.2.2.2.2.1:=⟨b3',b4'⟩;have o2:RootOk big f.2.2.2.2.2.2.2.2.2.2.1.1:=⟨b12',b13'⟩;have o3:RootOk big f.2.2.2.2.2.2.2.2.2.2.1.2.1:=⟨b14',b15'⟩;have op:PrfOk' f.2.2.2.2.2.2.2.1:=⟨b6',b7'⟩;have on:f.2.2.2.2.2.2.2.2.1.2.1.length≤big∧f.2.2.2.2.2.2.2.2.1.2.2.1.length≤big∧f.2.2.2.2.2.2.2.2.1.2.2.2.1.length≤big∧∀ y∈f.2.2.2.2.2.2.2.2.1.2.2.2.1,LeafOk big y:=⟨b8',b9',b10'⟩
 have w1:f.2.2.2.1.length≤140737488351232:=b1';have w2:f.2.2.2.2.1.length≤140737488351232:=b2';have w3:f.2.2.2.2.2.2.1.length≤140737488351232:=b5';refine S.seq<|S.region rfl<|O.opE (.p rfl) (.box (cs:=[_,_,_,_,_,_,_,_,_,_,_,_,_,_,_,_,_,_,_,_,_,_,_,_,_,_,_,_,_]) rfl rfl) ?_;rintro _ _ ⟨b2,rfl,rfl⟩;refine zz 3 ?_;refine S.frzO zD fun g hs hm h2=>?_;replace hg:=zfs hg hs;replace hR:=melted hR hm
 try replace hf:=hf.mono hs
 try replace p8:=p8.mono hs
 try replace p9:=p9.mono hs
 try replace p10:=p10.mono hs
 try replace p11:=p11.mono hs
 try replace p12:=p12.mono hs
 try replace p14:=p14.mono hs
 try replace p15:=p15.mono hs
 try replace p16:=p16.mono hs
 try replace p17:=p17.mono hs
 try replace p21:=p21.mono hs
 try replace p22:=p22.mono hs
 try replace p26:=p26.mono hs
 try replace p27:=p27.mono hs
 try replace t1:=t1.mono hs
 try replace t2:=t2.mono hs
 try replace t3:=t3.mono hs
 try replace hprf:=hprf.mono hs
 try replace hnode:=hnode.mono hs
 clear hs hm;refine S.regionD (L:=[0,1,2,3,4,5,6,7,8,9,10,11,12,13,14,17,18,19,22,23,24,15,16,20,21,25,26,27]) F.mixed zB ?_;refine zz 11 ?_;refine .quiet (.p rfl) rfl (fun _=>.quo rfl rfl zC)<|OD.slot 17 (v' :=.int .i64 (((f.2.2.2.1.length+f.2.2.2.2.1.length+f.2.2.2.2.2.2.1.length) / 8:Nat):Int)) rfl (by rw [z1,z2,Int.tdiv_eq_ediv_of_nonneg zC,IntWalk.i64_in _ zC];rfl) ?_;refine zz 2 ?_;refine .quiet (.p rfl) rfl (fun _=>.loadAgg (cs:=[_,_,_,_,_]) isAgg27 zB rfl ((h2.drop 5).take 5)) ?_;refine zz 2 ?_;refine .quiet (.p rfl) rfl (fun _=>.loadAgg (cs:=[_,_,_,_,_]) isAgg27 zB rfl ((h2.drop 18).take 5)) ?_;refine zz 2 ?_;refine .quiet (.p rfl) rfl (fun _=>.loadAgg (cs:=[_,_,_,_,_]) isAgg27 zB rfl ((h2.drop 23).take 5)) ?_;refine OD.v0 (.p rfl) zB rfl zB rfl rfl ((rootOf_c t1 o1)) ?_;refine zz 1 ?_;refine OD.v0 (.p rfl) zB rfl zB rfl rfl ((rootOf_c t2 o2)) ?_;refine zz 1 ?_;refine OD.v0 (.p rfl) zB rfl zB rfl rfl ((rootOf_c t3 o3)) ?_;refine zz 1 ?_;refine OD.slot 32 (v' :=.int .i64 ((1+(f.2.2.2.1.length+f.2.2.2.2.1.length+f.2.2.2.2.2.2.1.length) / 8+rootN f.2.2.2.2.2.1+rootN f.2.2.2.2.2.2.2.2.2.2.1.1+rootN f.2.2.2.2.2.2.2.2.2.2.1.2.1:Nat):Int)) rfl (by exact congrArg _ zC) ?_;refine OD.q 1 rfl<|ODx.nil (S.seq (S.seq ?_))
 generalize hn1:1+(f.2.2.2.1.length+f.2.2.2.2.1.length+f.2.2.2.2.2.2.1.length) / 8+rootN f.2.2.2.2.2.1+rootN f.2.2.2.2.2.2.2.2.2.2.1.1+rootN f.2.2.2.2.2.2.2.2.2.2.1.2.1=n1;refine zz 5 ?_;refine S.cd rfl (fun h35=>?_) fun h35=>?_
 ·refine zz 5 ?_
  exact S.rt results14 rfl hR ⟨n1,rfl,fun q=>by omega,rfl⟩
 ·refine zz 4 ?_
  refine O.op (.p rfl) (.fieldAddr fld41x7 rfl)<|O.op (.p rfl) (.loadAgg (cs:=[_,_]) isAgg31 zB rfl ((h2.drop 11).take 2)) ?_;refine O.q 2 rfl<|O.op (.p rfl) (.sub rfl rfl (IntWalk.i64_in _ zC))<|O.slot 42 (v' :=.int .i64 (5000 - (n1:Int))) rfl zL ?_;refine O.call0 (.p rfl) rfl zB rfl rfl ((proofOf_c hprf op ⟨by omega,by omega⟩)) ?_;rintro v43 _ ⟨n2,rfl,hn2,hm2,rfl⟩;refine zz 1 ?_;refine O.slot 44 (v' :=.int .i64 ((n1+n2:Nat):Int)) rfl (by exact congrArg _ zC)<|zz 9 ?_;refine S.cd rfl (fun h47=>?_) fun h47=>?_
  ·refine zz 5 ?_
   exact S.rt results14 rfl hR ⟨n1+n2,rfl,fun q=>by omega,rfl⟩
  ·refine zz 4 ?_
   refine O.op (.p rfl) (.fieldAddr fld41x8 rfl)<|O.op (.p rfl) (.loadAgg (cs:=[_,_,_,_]) isAgg35 zB rfl ((h2.drop 13).take 4)) ?_;refine O.q 2 rfl<|O.op (.p rfl) (.sub rfl rfl (IntWalk.i64_in _ zC))<|O.call0 (.p rfl) rfl zB rfl rfl ((nodeOf_c hnode on ⟨by omega,by omega⟩)) ?_;rintro v55 _ ⟨n3,rfl,hn3,hm3,rfl⟩;refine zz 1 ?_;refine O.slot 56 (v' :=.int .i64 ((n1+n2+n3:Nat):Int)) rfl (by exact congrArg _ zC)<|zz 9 ?_;refine S.cd rfl (fun h59=>?_) fun h59=>?_
   ·refine zz 5 ?_
    exact S.rt results14 rfl hR ⟨n1+n2+n3,rfl,fun q=>by omega,rfl⟩
   ·refine zz 4 ?_
    refine O.op (.p rfl) (.fieldAddr fld41x9 rfl)<|zz 1 ?_;refine O.q 2 rfl<|O.op (.p rfl) (.sub rfl rfl (IntWalk.i64_in _ zC))<|O.call0 (.p rfl) rfl zB rfl rfl ((recordsOf_c p17 b11'.2 b11'.1 ⟨by omega,by omega⟩)) ?_;rintro v67 _ ⟨n4,rfl,hn4,hm4,rfl⟩;refine zz 1 ?_;refine O.slot 68 (v' :=.int .i64 ((n1+n2+n3+n4:Nat):Int)) rfl (by exact congrArg _ zC) ?_;refine O.q 1 rfl<|O.nil<|S.ret results14 rfl fun w hw=>Holds.end_ hR hw ?_;refine ⟨_,⟨n1+n2+n3+n4,rfl,fun q=>?_,rfl⟩,zN⟩;obtain ⟨⟨u1,u2⟩,u3,u4⟩:=hm2 zC;obtain ⟨⟨v1,v1'⟩,v2⟩:=(hm3 zC).2;have v3:=(hm3 zC).1;obtain ⟨x1,x2⟩:=recs_small zC (hm4 zC);unfold rootN at hn1;refine ⟨⟨by omega,by omega,by omega,by omega,by omega,⟨by omega,fun y hy=>by have:=u2 y hy;omega⟩,⟨by omega,fun y hy=>by have:=u4 y hy;exact ⟨by omega,by omega⟩⟩,by omega,by omega,⟨by omega,fun y hy=>?_⟩,⟨by omega,x2⟩,by omega,by omega,by omega,by omega⟩,⟨by omega,fun y hy=>?_⟩,x1⟩
    ·obtain ⟨w1,w2⟩:=v2 y hy
     have w3:=recs_small zC w2;exact ⟨by omega,by omega,w3.2⟩
    ·exact (recs_small zC (v2 y hy).2).1
def markL (k n:Nat):List UInt8:=(List.range n).map fun (i:Nat)=>markB (k:Int) (i:Int)
@[simp] theorem markL_length (k n:Nat):(markL k n).length=n:=by simp [markL]
def markX (k n i:Nat):List UInt8:=(List.range i).map fun (q:Nat)=>markB (k:Int) ((n:Int)+(q:Int))
@[simp] theorem markX_length (k n i:Nat):(markX k n i).length=i:=by simp [markX]
def markM (j n i:Nat):List UInt8:=(List.range i).map fun (q:Nat)=>markB ((j:Int)+(n:Int)) (q:Int)
@[simp] theorem markM_length (j n i:Nat):(markM j n i).length=i:=by simp [markM]
theorem CopyBytes_c {r:Fr} {va:Value} {xs:List UInt8} (ha:Arr Rp.u8 r va xs) (hl:xs.length≤140737488355328) :
  Con prog 26 #[va] r [] (Ret fun v η=>∃ a c,v=.slice a xs.length c∧η=[OwnP Rp.u8 5 v xs]):=by
 refine Con.o func26 fun g hg R hR=>?_;obtain ⟨a1,c1,rfl⟩:=ha.shape;refine S.addNil (T:=Rp.u8) (e:=5) ?_;refine zz 12 ?_;refine O.opE (.p rfl) (.appendP (T:=Rp.u8) pure_u8 underlying22 elem5 zE rfl rfl zD zA zH zH) ?_;rintro _ _ ⟨a6,c6,rfl,rfl⟩;refine O.q 1 rfl<|O.nil<|S.ret results26 rfl fun w hw=>hR _ _ w ?_ hw;exact ⟨a6,c6,by simp,rfl⟩
def pick (x n:Int):Int:=if n<1 then 0 else if x.tmod n<0 then x.tmod n+n else x.tmod n
theorem Pick_c {r:Fr} (x n:Int) (hn:InI64 n):Con prog 16 #[.int .i64 x,.int .i64 n] r [] (Ret fun v η=>v=.int .i64 (pick x n)∧η=[]):=by
 refine Con.o func16 fun g hg R hR=>?_;unfold InI64 at hn;refine zz 10 ?_;refine S.cd rfl (fun h6=>?_) fun h6=>?_
 ·refine zz 4 ?_
  refine S.ret results16 rfl fun w hw=>hR _ _ w ?_ hw;exact ⟨by simp [pick,h6],rfl⟩
 ·have b1:=Int.tmod_lt_of_pos x (show 0<n by omega)
  have b2:=Int.lt_tmod_of_pos x (show 0<n by omega);refine zz 5 ?_;refine O.op (.p rfl) (.rem rfl rfl zC) ?_;refine zz 8 ?_;refine S.cd rfl (fun h11=>?_) fun h11=>?_
  ·refine zz 11 ?_
   refine S.ret results16 rfl fun w hw=>hR _ _ w ?_ hw;exact ⟨by simp [pick,h6,h11],rfl⟩
  ·refine zz 6 ?_
   refine S.ret results16 rfl fun w hw=>hR _ _ w ?_ hw;exact ⟨by simp [pick,h6,h11],rfl⟩
theorem frmErr_0 {f:FrmT}:frmErr f=0↔frmOk f∧(frmB f).length≤262144:=by
 unfold frmErr
 constructor
 ·intro h
  split at h
  ·rename_i q
   split at h
   ·rename_i q2;exact ⟨q,q2⟩
   ·cases h
  ·cases h
 ·rintro ⟨h1,h2⟩;rw [if_pos h1,if_pos h2]
theorem frmOut_0 {f:FrmT} (h:frmErr f=0):frmOut f=frmB f:=by unfold frmOut;rw [if_pos (frmErr_0.1 h)]
def aw1:FrmT:=(1,5,3,[],[],rootZ,[],prfZ,nodeZ,[],evdZ,0,())
def aw2:FrmT:=(6,0,0,[],[],rootZ,[],prfZ,nodeZ,[],evdZ,6,())
def aw3:FrmT:=(3,0,0,[],[48,49,50],rootZ,[],prfZ,nodeZ,[],evdZ,0,())
theorem aw1_ok:frmOk aw1∧(frmB aw1).length≤262144:=⟨⟨⟨.inl ⟨rfl,by decide,by decide⟩,by decide,by decide⟩,rfl⟩,by rw [frmB_length,frmP_1 rfl,be_length];decide⟩
theorem aw2_ok:frmOk aw2∧(frmB aw2).length≤262144:=⟨⟨⟨.inr (.inr (.inr (.inr (.inr (.inl ⟨rfl,by decide,by decide⟩))))),by decide,by decide⟩,rfl⟩,by rw [frmB_length,frmP_6 rfl,be_length];decide⟩
theorem aw3_no:frmErr aw3=4:=by
 unfold frmErr;rw [if_neg fun h=>?_];have h2:=((kindOk_3 (f:=aw3) rfl).1 h.1.1).2 50 zE;exact absurd h2 zE
theorem aw1_out:frmOut aw1=[1,0,0,0,0,0,0,0,5,0,0,0,0,0,0,0,3]:=by
 unfold frmOut;rw [if_pos aw1_ok];unfold frmB;rw [frmP_1 rfl];rfl
theorem aw2_out:frmOut aw2=[6,0,0,0,0,0,0,0,0,0,0,0,0,0,0,0,6]:=by
 unfold frmOut;rw [if_pos aw2_ok];unfold frmB;rw [frmP_6 rfl];rfl
theorem aw1_get:frmGot ([1,0,0,0,0,0,0,0,5,0,0,0,0,0,0,0,3]++[0])=none∧frmGE [1,0,0,0,0,0,0,0,5,0,0,0,0,0,0,0,3,0]=4:=by
 refine ⟨?_,by unfold frmGE;rw [if_pos zE]⟩;have e:frmB aw1=[1,0,0,0,0,0,0,0,5,0,0,0,0,0,0,0,3]:=by rw [← aw1_out,frmOut_0 (frmErr_0.2 aw1_ok)]
 unfold frmGot;rw [if_pos zE,← e];exact frmGet_more aw1_ok.1 (by rw [e];decide) zE
theorem sz1:FrmSz aw1:=sz_of zE zE zRoot zE zPrf zNode zSet zEvd
theorem sz2:FrmSz aw2:=sz_of zE zE zRoot zE zPrf zNode zSet zEvd
theorem sz3:FrmSz aw3:=sz_of zE zE zRoot zE zPrf zNode zSet zEvd
theorem awake_c {r:Fr} (hH:At r ⟨0,0,none⟩ (w64s shaH)) (hK:At r ⟨1,0,none⟩ (w64s shaK)):Con prog 8 #[] r [] (Ret fun v η=>v=.bool true∧η=[]):=by
 refine Con.of (n:=68) _ rfl func8 rfl rfl rfl fun g hg R hR=>?_;have hH:=hH.mono hg;have hK:=hK.mono hg;have r1:FrmRp.rel g.h [byteV 1,.int .i64 5,.int .i64 3,.string ⟨#[]⟩,.string ⟨#[]⟩,.int .i64 0,.int .i64 0,.int .i64 0,.slice none 0 0,.slice none 0 0,.slice none 0 0,.slice none 0 0,.slice none 0 0,.int .u8 0,.slice none 0 0,.slice none 0 0,.slice none 0 0,.slice none 0 0,.int .i64 0,.int .i64 0,.int .i64 0,.slice none 0 0,.slice none 0 0,.int .i64 0,.int .i64 0,.int .i64 0,.slice none 0 0,.slice none 0 0,.int .i64 0] aw1:=FrmRp.mk (x0:=1) (x13:=0) (⟨by decide,by decide⟩:InI64 5) (⟨by decide,by decide⟩:InI64 3) (show ([]:List UInt8).length≤9223372036854775807 by decide) (show ([]:List UInt8).length≤9223372036854775807 by decide) RS.zero64 RS.zero64 RS.zero64 Arr.nil Arr.nil Arr.nil Arr.nil Arr.nil Arr.nil Arr.nil Arr.nil Arr.nil RS.zero64 RS.zero64 RS.zero64 Arr.nil Arr.nil RS.zero64 RS.zero64 RS.zero64 Arr.nil Arr.nil RS.zero64
 have r2:FrmRp.rel g.h [byteV 6,.int .i64 0,.int .i64 0,.string ⟨#[]⟩,.string ⟨#[]⟩,.int .i64 0,.int .i64 0,.int .i64 0,.slice none 0 0,.slice none 0 0,.slice none 0 0,.slice none 0 0,.slice none 0 0,.int .u8 0,.slice none 0 0,.slice none 0 0,.slice none 0 0,.slice none 0 0,.int .i64 0,.int .i64 0,.int .i64 0,.slice none 0 0,.slice none 0 0,.int .i64 0,.int .i64 0,.int .i64 0,.slice none 0 0,.slice none 0 0,.int .i64 6] aw2:=FrmRp.mk (x0:=6) (x13:=0) RS.zero64 RS.zero64 (show ([]:List UInt8).length≤9223372036854775807 by decide) (show ([]:List UInt8).length≤9223372036854775807 by decide) RS.zero64 RS.zero64 RS.zero64 Arr.nil Arr.nil Arr.nil Arr.nil Arr.nil Arr.nil Arr.nil Arr.nil Arr.nil RS.zero64 RS.zero64 RS.zero64 Arr.nil Arr.nil RS.zero64 RS.zero64 RS.zero64 Arr.nil Arr.nil (⟨by decide,by decide⟩:InI64 6)
 have r3:FrmRp.rel g.h [byteV 3,.int .i64 0,.int .i64 0,.string ⟨#[]⟩,.string (str [48,49,50]),.int .i64 0,.int .i64 0,.int .i64 0,.slice none 0 0,.slice none 0 0,.slice none 0 0,.slice none 0 0,.slice none 0 0,.int .u8 0,.slice none 0 0,.slice none 0 0,.slice none 0 0,.slice none 0 0,.int .i64 0,.int .i64 0,.int .i64 0,.slice none 0 0,.slice none 0 0,.int .i64 0,.int .i64 0,.int .i64 0,.slice none 0 0,.slice none 0 0,.int .i64 0] aw3:=FrmRp.mk (x0:=3) (x13:=0) RS.zero64 RS.zero64 (show ([]:List UInt8).length≤9223372036854775807 by decide) (show ([48,49,50]:List UInt8).length≤9223372036854775807 by decide) RS.zero64 RS.zero64 RS.zero64 Arr.nil Arr.nil Arr.nil Arr.nil Arr.nil Arr.nil Arr.nil Arr.nil Arr.nil RS.zero64 RS.zero64 RS.zero64 Arr.nil Arr.nil RS.zero64 RS.zero64 RS.zero64 Arr.nil Arr.nil RS.zero64;refine S.seq<|S.region rfl<|O.q 1 rfl<|O.nil<|S.seq<|S.region rfl<|O.op (.p rfl) (.build (cs:=[_,_,_,_,_,_,_,_,_,_,_,_,_,_,_,_,_,_,_,_,_,_,_,_,_,_,_,_,_]) underlying41 rfl rfl rfl rfl rfl)<|O.call0 (.p rfl) rfl zB rfl rfl ((fPut_c r1 sz1 hH hK)) ?_;rintro _ _ ⟨a11,c11,rfl,rfl⟩
 try simp only [zx1,zx2,zx3]
 rw [aw1_out,frmErr_0.2 aw1_ok];refine O.frzA zD fun g hs hm ha11=>?_;replace hg:=Fr.sub_trans hg hs;replace hR:=melted hR hm
 try replace hH:=hH.mono hs
 try replace hK:=hK.mono hs
 try replace r1:=r1.mono hs
 try replace r2:=r2.mono hs
 try replace r3:=r3.mono hs
 clear hs hm;refine O.q 5 rfl<|O.nil<|S.seq<|S.region rfl<|O.op (.p rfl) (.build (cs:=[_,_,_,_,_,_,_,_,_,_,_,_,_,_,_,_,_,_,_,_,_,_,_,_,_,_,_,_,_]) underlying41 rfl rfl rfl rfl rfl)<|O.call0 (.p rfl) rfl zB rfl rfl ((fPut_c r2 sz2 hH hK)) ?_;rintro _ _ ⟨a16,c16,rfl,rfl⟩
 try simp only [zx1,zx2,zx3]
 rw [aw2_out,frmErr_0.2 aw2_ok];refine O.frzA zD fun g hs hm ha16=>?_;replace hg:=Fr.sub_trans hg hs;replace hR:=melted hR hm
 try replace hH:=hH.mono hs
 try replace hK:=hK.mono hs
 try replace r1:=r1.mono hs
 try replace r2:=r2.mono hs
 try replace r3:=r3.mono hs
 try replace ha11:=ha11.mono hs
 clear hs hm;refine O.q 5 rfl<|O.nil<|S.seq<|S.region rfl<|O.q 1 rfl<|O.call0 (.p rfl) rfl zB rfl rfl ((CopyBytes_c ha11 zE)) ?_;rintro _ _ ⟨a21,c21,rfl,rfl⟩
 try simp only [zx1,zx2,zx3]
 refine O.opE (.p rfl) (.litP (T:=Rp.u8) (ys:=[0]) underlying22 elem5 zE rfl rfl ⟨rfl,trivial⟩ zE) ?_;rintro _ _ ⟨a22,c22,rfl,rfl⟩;refine O.opE (.p rfl) (.appendO (T:=Rp.u8) underlying22 elem5 zE rfl rfl zD zD zH zH) ?_;rintro _ _ ⟨a23,c23,rfl,rfl⟩;refine O.frzA zD fun g hs hm ha23=>?_;replace hg:=Fr.sub_trans hg hs;replace hR:=melted hR hm
 try replace hH:=hH.mono hs
 try replace hK:=hK.mono hs
 try replace r1:=r1.mono hs
 try replace r2:=r2.mono hs
 try replace r3:=r3.mono hs
 try replace ha11:=ha11.mono hs
 try replace ha16:=ha16.mono hs
 clear hs hm;refine O.call0 (.p rfl) rfl zB rfl rfl (((fGetP_c ha23 zE rfl hH hK).mono (Ret.imp fun _ _ h=>frm_tN aw1_get.1 h))) ?_;rintro _ _ ⟨rfl,rfl⟩
 try simp only [zx1,zx2,zx3]
 rw [aw1_get.2];refine O.q 3 rfl<|O.opE (.p rfl) (.alloc (cs:=[.int .u8 0,.int .i64 0,.int .i64 0,.string ⟨#[]⟩,.string ⟨#[]⟩,.int .i64 0,.int .i64 0,.int .i64 0,.slice none 0 0,.slice none 0 0,.slice none 0 0,.slice none 0 0,.slice none 0 0,.int .u8 0,.slice none 0 0,.slice none 0 0,.slice none 0 0,.slice none 0 0,.int .i64 0,.int .i64 0,.int .i64 0,.slice none 0 0,.slice none 0 0,.int .i64 0,.int .i64 0,.int .i64 0,.slice none 0 0,.slice none 0 0,.int .i64 0]) zeroValue41 rfl) ?_;rintro _ _ ⟨b5,rfl,rfl⟩;refine O.opU rfl (.storeObj zB rfl rfl rfl rfl zD zO) ?_;refine O.q 1 rfl<|O.nil<|S.seq<|S.region rfl<|O.op (.p rfl) (.build (cs:=[_,_,_,_,_,_,_,_,_,_,_,_,_,_,_,_,_,_,_,_,_,_,_,_,_,_,_,_,_]) underlying41 rfl rfl rfl rfl rfl)<|O.call0 (.p rfl) rfl zB rfl rfl ((fPut_c r3 sz3 hH hK)) ?_;rintro _ _ ⟨a29,c29,rfl,rfl⟩
 try simp only [zx1,zx2,zx3]
 rw [aw3_no];refine O.q 5 rfl<|O.nil<|S.seq<|S.region rfl<|O.q 1 rfl<|O.op (.p rfl) (.eql rfl rfl)<|O.sT 33 rfl zL ?_;refine O.q 2 rfl<|O.opE (.g rfl rfl) (.litP (T:=Rp.u8) (ys:=[1,0,0,0,0,0,0,0,5,0,0,0,0,0,0,0,3]) underlying22 elem5 zE rfl rfl ⟨rfl,rfl,rfl,rfl,rfl,rfl,rfl,rfl,rfl,rfl,rfl,rfl,rfl,rfl,rfl,rfl,rfl,trivial⟩ zE) ?_;rintro _ _ ⟨a36,c36,rfl,rfl⟩;refine O.callB (.g rfl rfl) rfl zB rfl rfl (bs:=[OwnP Rp.u8 5 (.slice a36 17 c36) [1,0,0,0,0,0,0,0,5,0,0,0,0,0,0,0,3]]) zK (fun m hm hd=>SameBytes_c ha11.left (hm.arr.right hd)) ?_;rintro _ _ ⟨rfl,rfl⟩
 try simp only [zx1,zx2,zx3]
 refine O.sT 37 rfl zL ?_;refine O.q 3 rfl<|O.op (.g rfl rfl) (.eql rfl rfl)<|O.sT 41 rfl zL ?_;refine O.q 3 rfl<|O.op (.g rfl rfl) (.len rfl underlying22 rfl)<|O.op (.g rfl rfl) (.eql rfl rfl)<|O.sT 46 rfl zL ?_;refine O.q 3 rfl<|O.ia (.g rfl rfl) underlying22 size5 rfl rfl (show _=(((0):Nat):Int) by omega) (ha16) (h:=fun p50 cs50 hp50 hr50=>?_)
 cases hr50
 refine O.op (.g rfl rfl) (.loadAt flat5 rfl hp50 rfl) ?_;refine O.op (.g rfl rfl) (.eql rfl rfl)<|O.sT 52 rfl zL ?_;refine O.q 3 rfl<|O.ia (.g rfl rfl) underlying22 size5 rfl rfl (show _=(((16):Nat):Int) by omega) (ha16) (h:=fun p56 cs56 hp56 hr56=>?_)
 cases hr56
 refine O.op (.g rfl rfl) (.loadAt flat5 rfl hp56 rfl) ?_;refine O.op (.g rfl rfl) (.eql rfl rfl)<|O.sT 58 rfl zL ?_;refine O.q 3 rfl<|O.op (.g rfl rfl) (.eql rfl rfl)<|O.sT 62 rfl zL ?_;refine O.q 3 rfl<|O.op (.g rfl rfl) (.eql rfl rfl)<|O.sT 66 rfl zL ?_;refine O.q 2 rfl<|O.nil ?_;exact S.rt results8 rfl hR ⟨rfl,rfl⟩
theorem frmOut_le {f:FrmT} (hl:FrmSz f):(frmOut f).length≤262144:=by
 unfold frmOut
 split
 ·rename_i h;exact h.2
 ·simp
theorem FrmRp.nonce {h:Fr} {cs:List Value} {x:FrmT} {k:Int} (r:FrmRp.rel h cs x) (hk:InI64 k):FrmRp.rel h (cs.set 1 (.int .i64 k)) (x.1,k,x.2.2):=by
 obtain ⟨za8,za9,za10,za11,za12,za14,za15,za16,za17,za21,za22,za26,za27,zc8,zc9,zc10,zc11,zc12,zc14,zc15,zc16,zc17,zc21,zc22,zc26,zc27,rfl,zp1,zp2,zp3,zp4,zp5,zp6,zp7,zp8,zp9,zp10,zp11,zp12,zp14,zp15,zp16,zp17,zp18,zp19,zp20,zp21,zp22,zp23,zp24,zp25,zp26,zp27,zp28⟩:=FrmRp.sh r;exact FrmRp.mk (x0:=x.1) (x13:=x.2.2.2.2.2.2.2.2.1.1) hk zp2 zp3 zp4 zp5 zp6 zp7 zp8 zp9 zp10 zp11 zp12 zp14 zp15 zp16 zp17 zp18 zp19 zp20 zp21 zp22 zp23 zp24 zp25 zp26 zp27 zp28
theorem bareF_nonce {f:FrmT} {k:Int}:bareF (f.1,k,f.2.2)=((bareF f).1,k,(bareF f).2.2):=by
 unfold bareF
 dsimp only
 by_cases c1:f.1=1
 ·rw [if_pos c1,if_pos c1]
 rw [if_neg c1,if_neg c1]
 by_cases c2:f.1=2
 ·rw [if_pos c2,if_pos c2]
 rw [if_neg c2,if_neg c2]
 by_cases c3:f.1=3
 ·rw [if_pos c3,if_pos c3]
 rw [if_neg c3,if_neg c3]
 by_cases c4:f.1=4
 ·rw [if_pos c4,if_pos c4]
 rw [if_neg c4,if_neg c4]
 by_cases c5:f.1=5
 ·rw [if_pos c5,if_pos c5]
 rw [if_neg c5,if_neg c5]
 by_cases c6:f.1=6
 ·rw [if_pos c6,if_pos c6]
 rw [if_neg c6,if_neg c6]
 by_cases c7:f.1=7
 ·rw [if_pos c7,if_pos c7]
 rw [if_neg c7,if_neg c7]
 by_cases c8:f.1=8
 ·rw [if_pos c8,if_pos c8]
 rw [if_neg c8,if_neg c8]
 by_cases c9:f.1=9
 ·rw [if_pos c9,if_pos c9]
 ·rw [if_neg c9,if_neg c9]
theorem frm_nonce {f:FrmT} {k:Int} (h:frmErr f=0) (h1:0≤k) (h2:k<1073741824):frmErr (f.1,k,f.2.2)=0∧(∃ p q:List UInt8,frmOut f=f.1::p∧frmOut (f.1,k,f.2.2)=f.1::q∧q.length=p.length∧8≤p.length∧q.drop 8=p.drop 8∧p.length≤262144):=by
 obtain ⟨ho,hl⟩:=frmErr_0.1 h;have hp:frmP (f.1,k,f.2.2)=frmP f:=rfl;have hk:Sp.kindOk (f.1,k,f.2.2):=ho.1.1;have hb:((f.1,k,f.2.2):FrmT)=bareF (f.1,k,f.2.2):=by rw [bareF_nonce,← ho.2]
 have ho' :frmOk (f.1,k,f.2.2):=⟨⟨hk,h1,by show k≤1073741824;omega⟩,hb⟩;have hl' :(frmB (f.1,k,f.2.2)).length≤262144:=by rw [frmB_length,hp,← frmB_length];exact hl
 have h' :=frmErr_0.2 ⟨ho',hl'⟩;refine ⟨h',be f.2.1++frmP f,be k++frmP f,by rw [frmOut_0 h];rfl,by rw [frmOut_0 h'];rfl,by simp,by simp,?_,?_⟩
 ·rw [List.drop_left' (be_length _),List.drop_left' (be_length _)]
 ·rw [frmB_length] at hl;rw [List.length_append,be_length];omega
theorem pick_nat17 (x:Int) {n:Nat} (hn:0<n):∃ k:Nat,pick x n=(k:Int)∧k<n:=by
 have b1:=Int.tmod_lt_of_pos x (show 0<(n:Int) by omega);have b2:=Int.lt_tmod_of_pos x (show 0<(n:Int) by omega);have b3:0≤pick x n∧pick x n<n:=by
  unfold pick;rw [if_neg zC];split<;>omega
 exact ⟨(pick x n).toNat,by omega,by omega⟩
theorem frameOne_c {r:Fr} {cs ds:List Value} {x y:FrmT} {nn:Int} (hx:FrmRp.rel r cs x) (hy:FrmRp.rel r ds y) (ox:FrmOk big x) (oy:FrmOk big y) (hH:At r ⟨0,0,none⟩ (w64s shaH)) (hK:At r ⟨1,0,none⟩ (w64s shaK)) :
  Con prog 4 #[.agg cs.toArray,.agg ds.toArray,.int .i64 nn] r [] (Ret fun v η=>v=.bool true∧η=[]):=by
 have hx0:=hx;have hy0:=hy;obtain ⟨xa8,xa9,xa10,xa11,xa12,xa14,xa15,xa16,xa17,xa21,xa22,xa26,xa27,xc8,xc9,xc10,xc11,xc12,xc14,xc15,xc16,xc17,xc21,xc22,xc26,xc27,rfl,xp1,xp2,xp3,xp4,xp5,xp6,xp7,xp8,xp9,xp10,xp11,xp12,xp14,xp15,xp16,xp17,xp18,xp19,xp20,xp21,xp22,xp23,xp24,xp25,xp26,xp27,xp28⟩:=FrmRp.sh hx0;obtain ⟨ya8,ya9,ya10,ya11,ya12,ya14,ya15,ya16,ya17,ya21,ya22,ya26,ya27,yc8,yc9,yc10,yc11,yc12,yc14,yc15,yc16,yc17,yc21,yc22,yc26,yc27,rfl,yp1,yp2,yp3,yp4,yp5,yp6,yp7,yp8,yp9,yp10,yp11,yp12,yp14,yp15,yp16,yp17,yp18,yp19,yp20,yp21,yp22,yp23,yp24,yp25,yp26,yp27,yp28⟩:=FrmRp.sh hy0;refine Con.of (n:=83) _ rfl func4 rfl rfl rfl fun g hg R hR=>?_;have hx:=hx.mono hg;have hy:=hy.mono hg;have hH:=hH.mono hg;have hK:=hK.mono hg;refine S.seq<|S.region rfl<|O.opE (.p rfl) (.box (cs:=[_,_,_,_,_,_,_,_,_,_,_,_,_,_,_,_,_,_,_,_,_,_,_,_,_,_,_,_,_]) rfl rfl) ?_;rintro _ _ ⟨b3,rfl,rfl⟩;refine O.opE (.p rfl) (.box (cs:=[_,_,_,_,_,_,_,_,_,_,_,_,_,_,_,_,_,_,_,_,_,_,_,_,_,_,_,_,_]) rfl rfl) ?_;rintro _ _ ⟨b4,rfl,rfl⟩;refine O.q 1 rfl<|O.nil<|S.seq<|S.seq<|S.frzO zD fun g hs hm hb4=>?_;replace hg:=Fr.sub_trans hg hs;replace hR:=melted hR hm
 try replace hx:=hx.mono hs
 try replace hy:=hy.mono hs
 try replace hH:=hH.mono hs
 try replace hK:=hK.mono hs
 clear hs hm;refine S.frzO zD fun g hs hm hb3=>?_;replace hg:=Fr.sub_trans hg hs;replace hR:=melted hR hm
 try replace hx:=hx.mono hs
 try replace hy:=hy.mono hs
 try replace hH:=hH.mono hs
 try replace hK:=hK.mono hs
 try replace hb4:=hb4.mono hs
 clear hs hm;refine S.region rfl<|O.call0 (.p rfl) rfl zB rfl rfl ((awake_c hH hK)) ?_;rintro _ _ ⟨rfl,rfl⟩
 try simp only [zx1,zx2,zx3]
 refine O.sT 14 rfl (by first|decide|simp) ?_;refine O.op (.p rfl) (.not rfl)<|O.nil<|S.condF rfl<|S.skip<|S.seq<|S.seq<|S.region rfl<|O.op (.p rfl) (.loadAgg isAgg41 zB rfl hb3) ?_;refine O.call0 (.p rfl) rfl zB rfl rfl ((frameOf_c hx ox)) ?_;rintro v17 _ ⟨n1,rfl,hn1,rfl⟩
 try simp only [zx1,zx2,zx3]
 refine O.op (.p rfl) (.gtr rfl rfl)<|O.q 1 rfl ?_
 first|refine O.caseD 19 rfl (fun h19=>?_) (fun h19=>?_)|refine O.caseB 19 rfl (fun h19=>?_) (fun h19=>?_)
 ·refine O.q 4 rfl<|O.nil<|S.condT rfl<|S.seq<|S.region rfl<|O.q 1 rfl<|O.nil ?_
  exact S.rt results4 rfl hR ⟨rfl,rfl⟩
 ·have hcx:=hn1 zC
  have hsx:=hcx.sz;refine O.op (.g rfl rfl) (.loadAgg isAgg41 zB rfl hb4) ?_;refine O.call0 (.g rfl rfl) rfl zB rfl rfl ((frameOf_c hy oy)) ?_;rintro v21 _ ⟨n2,rfl,hn2,rfl⟩
  try simp only [zx1,zx2,zx3]
  refine O.op (.g rfl rfl) (.gtr rfl rfl)<|O.q 1 rfl<|O.nil ?_
  first|refine S.condD rfl (fun h23=>?_) (fun h23=>?_)|refine S.condB rfl (fun h23=>?_) (fun h23=>?_)
  ·refine S.seq<|S.region rfl<|O.q 1 rfl<|O.nil ?_
   exact S.rt results4 rfl hR ⟨rfl,rfl⟩
  ·have hcy:=hn2 zC
   have hsy:=hcy.sz;have hox:=frmOut_le hsx;have hoy:=frmOut_le hsy
   by_cases ex:frmErr x=0
   ·by_cases ey:frmErr y=0
    ·have hk1:0≤pick nn 1073741824∧pick nn 1073741824<1073741824:=by
      obtain ⟨k,h1,h2⟩:=pick_nat17 nn (n:=1073741824) zE;rw [show ((1073741824:Nat):Int)=1073741824 from rfl] at h1
      omega
     generalize hkk:pick nn 1073741824=k at hk1;have hkI:InI64 k:=by unfold InI64;omega
     obtain ⟨ez,p,q,e1,e2,e3,e4,e5,e6⟩:=frm_nonce ex hk1.1 hk1.2;have hsz:FrmSz (x.1,k,x.2.2):=hsx;have hpl:9≤(x.1::p).length:=by rw [List.length_cons];omega
     have hql:9≤(x.1::q).length:=by rw [List.length_cons];omega
     have hpm:(x.1::p).length≤262145:=by rw [List.length_cons];omega
     have hqm:(x.1::q).length≤262145:=by rw [List.length_cons];omega
     have hlen:(x.1::q).length=(x.1::p).length:=by rw [List.length_cons,List.length_cons,e3]
     have hdr:(x.1::q).drop 9=(x.1::p).drop 9:=e5;have hin:decide (x.1::p=frmOut y)=decide (x=y):=by
      rw [← e1,frmOut_0 ex,frmOut_0 ey]
      by_cases hh:x=y
      ·subst hh;simp
      ·rw [decide_eq_false hh,decide_eq_false fun w=>hh (frmB_inj (frmErr_0.1 ex).1 (frmErr_0.1 ey).1 (frmErr_0.1 ex).2 w)]
     have hz:FrmRp.rel g.h [byteV x.1,.int .i64 k,.int .i64 x.2.2.1,.string (str x.2.2.2.1),.string (str x.2.2.2.2.1),.int .i64 x.2.2.2.2.2.1.1,.int .i64 x.2.2.2.2.2.1.2.1,.int .i64 x.2.2.2.2.2.1.2.2.1,.slice xa8 x.2.2.2.2.2.1.2.2.2.1.length xc8,.slice xa9 x.2.2.2.2.2.1.2.2.2.2.1.length xc9,.slice xa10 x.2.2.2.2.2.2.1.length xc10,.slice xa11 x.2.2.2.2.2.2.2.1.1.length xc11,.slice xa12 x.2.2.2.2.2.2.2.1.2.1.length xc12,byteV x.2.2.2.2.2.2.2.2.1.1,.slice xa14 x.2.2.2.2.2.2.2.2.1.2.1.length xc14,.slice xa15 x.2.2.2.2.2.2.2.2.1.2.2.1.length xc15,.slice xa16 x.2.2.2.2.2.2.2.2.1.2.2.2.1.length xc16,.slice xa17 x.2.2.2.2.2.2.2.2.2.1.length xc17,.int .i64 x.2.2.2.2.2.2.2.2.2.2.1.1.1,.int .i64 x.2.2.2.2.2.2.2.2.2.2.1.1.2.1,.int .i64 x.2.2.2.2.2.2.2.2.2.2.1.1.2.2.1,.slice xa21 x.2.2.2.2.2.2.2.2.2.2.1.1.2.2.2.1.length xc21,.slice xa22 x.2.2.2.2.2.2.2.2.2.2.1.1.2.2.2.2.1.length xc22,.int .i64 x.2.2.2.2.2.2.2.2.2.2.1.2.1.1,.int .i64 x.2.2.2.2.2.2.2.2.2.2.1.2.1.2.1,.int .i64 x.2.2.2.2.2.2.2.2.2.2.1.2.1.2.2.1,.slice xa26 x.2.2.2.2.2.2.2.2.2.2.1.2.1.2.2.2.1.length xc26,.slice xa27 x.2.2.2.2.2.2.2.2.2.2.1.2.1.2.2.2.2.1.length xc27,.int .i64 x.2.2.2.2.2.2.2.2.2.2.2.1] (x.1,k,x.2.2):=FrmRp.nonce hx hkI;refine S.skip<|S.seq<|S.region rfl<|O.op (.p rfl) (.loadAgg isAgg41 zB rfl hb3) ?_;refine O.call0 (.p rfl) rfl zB rfl rfl ((fPut_c hx hsx hH hK)) ?_;rintro _ _ ⟨a26,c26,rfl,rfl⟩
     try simp only [zx1,zx2,zx3]
     rw [e1,ex];refine O.frzA zD fun g hs hm ha26=>?_;replace hg:=Fr.sub_trans hg hs;replace hR:=melted hR hm
     try replace hx:=hx.mono hs
     try replace hy:=hy.mono hs
     try replace hH:=hH.mono hs
     try replace hK:=hK.mono hs
     try replace hb4:=hb4.mono hs
     try replace hb3:=hb3.mono hs
     try replace hz:=hz.mono hs
     clear hs hm;refine O.q 5 rfl<|O.nil<|S.seq<|S.region rfl<|O.op (.p rfl) (.loadAgg isAgg41 zB rfl hb4) ?_;refine O.call0 (.p rfl) rfl zB rfl rfl ((fPut_c hy hsy hH hK)) ?_;rintro _ _ ⟨a31,c31,rfl,rfl⟩
     try simp only [zx1,zx2,zx3]
     rw [ey];refine O.frzA zD fun g hs hm ha31=>?_;replace hg:=Fr.sub_trans hg hs;replace hR:=melted hR hm
     try replace hx:=hx.mono hs
     try replace hy:=hy.mono hs
     try replace hH:=hH.mono hs
     try replace hK:=hK.mono hs
     try replace hb4:=hb4.mono hs
     try replace hb3:=hb3.mono hs
     try replace hz:=hz.mono hs
     try replace ha26:=ha26.mono hs
     clear hs hm;refine O.q 5 rfl<|O.nil<|S.seq<|S.seq<|S.region rfl<|O.q 1 rfl<|O.op (.p rfl) (.neq rfl rfl)<|O.sF 35 rfl zE ?_;refine O.q 2 rfl<|O.op (.g rfl rfl) (.neq rfl rfl)<|O.sF 38 rfl zE ?_;refine O.q 1 rfl<|O.nil<|S.condF rfl<|S.skip<|S.seq<|S.region rfl<|O.op (.p rfl) (.loadAgg isAgg41 zB rfl hb3) ?_;refine O.opE (.p rfl) (.alloc (cs:=[.int .u8 0,.int .i64 0,.int .i64 0,.string ⟨#[]⟩,.string ⟨#[]⟩,.int .i64 0,.int .i64 0,.int .i64 0,.slice none 0 0,.slice none 0 0,.slice none 0 0,.slice none 0 0,.slice none 0 0,.int .u8 0,.slice none 0 0,.slice none 0 0,.slice none 0 0,.slice none 0 0,.int .i64 0,.int .i64 0,.int .i64 0,.slice none 0 0,.slice none 0 0,.int .i64 0,.int .i64 0,.int .i64 0,.slice none 0 0,.slice none 0 0,.int .i64 0]) zeroValue41 rfl) ?_;rintro _ _ ⟨b11,rfl,rfl⟩;refine O.opU rfl (.storeObj zB rfl rfl rfl rfl zD zO) ?_;refine O.nil<|S.seq<|S.region rfl<|O.q 1 rfl<|O.call0 (.p rfl) rfl zB rfl rfl (Pick_c _ _ (by first|assumption|(constructor<;>omega))) ?_;rintro _ _ ⟨rfl,rfl⟩
     try simp only [zx1,zx2,zx3]
     rw [hkk];refine O.op (.p rfl) (.fieldObj fld41x1 rfl)<|O.opU rfl (.store1 flat3 rfl rfl zQ zD zO) ?_;refine O.nil<|S.seq<|S.region rfl<|O.op (.p rfl) (.loA (news:=[_,_,_,_,_,_,_,_,_,_,_,_,_,_,_,_,_,_,_,_,_,_,_,_,_,_,_,_,_]) isAgg41) ?_;refine O.call0 (.p rfl) rfl zB rfl rfl ((fPut_c hz hsz hH hK)) ?_;rintro _ _ ⟨a46,c46,rfl,rfl⟩
     try simp only [zx1,zx2,zx3]
     rw [e2,ez];refine O.frzA zD fun g hs hm ha46=>?_;replace hg:=Fr.sub_trans hg hs;replace hR:=melted hR hm
     try replace hx:=hx.mono hs
     try replace hy:=hy.mono hs
     try replace hH:=hH.mono hs
     try replace hK:=hK.mono hs
     try replace hb4:=hb4.mono hs
     try replace hb3:=hb3.mono hs
     try replace hz:=hz.mono hs
     try replace ha26:=ha26.mono hs
     try replace ha31:=ha31.mono hs
     clear hs hm;refine O.q 5 rfl<|O.nil<|S.seq<|S.regionD (L:=[0,1,3,4,2,5,6,7,8,9,10,11,12,13,14,15,16,17,18,19,20,21,22,23,24,25,26,27,28,29,30,31,32,33,34]) F.mixed zB<|OD.q 2 rfl<|.quiet (.p rfl) rfl (fun _=>.loadAgg isAgg41 zB rfl hb3) ?_;refine .quiet (.p rfl) rfl (fun _=>.loadAgg isAgg41 zB rfl hb4) ?_;refine OD.call0 (.p rfl) zB rfl zB rfl rfl ((SameBytes_c ha26 ha31)) ?_;rintro _ _ ⟨rfl,rfl⟩
     try simp only [zx1,zx2,zx3]
     refine OD.call0 (.p rfl) zB rfl zB rfl rfl ((sameFrame_c hx hy)) ?_;rintro _ _ ⟨rfl,rfl⟩
     try simp only [zx1,zx2,zx3]
     refine .quiet (.p rfl) rfl (fun _=>.eqlB underlying4 rfl rfl)<|OD.sT 55 rfl (by (rw [hin];simp)) ?_;refine OD.q 2 rfl<|.quiet (.g rfl rfl) rfl (fun _=>.eql rfl rfl)<|OD.sT 58 rfl zE ?_;refine OD.q 3 rfl<|.quiet (.g rfl rfl) rfl (fun _=>.len rfl underlying22 rfl)<|OD.q 1 rfl<|.quiet (.g rfl rfl) rfl (fun _=>.len rfl underlying22 rfl)<|.quiet (.g rfl rfl) rfl (fun _=>.eql rfl rfl)<|OD.sT 65 rfl (by exact decide_eq_true zC) ?_;refine OD.q 3 rfl<|OD.sliceFrom (a:=9) (.g rfl rfl) underlying22 size5 rfl rfl zF zH zH (fun u69 ha69=>?_);obtain ⟨a69,c69,rfl⟩:=ha69.shape;refine OD.q 1 rfl<|OD.sliceFrom (a:=9) (.g rfl rfl) underlying22 size5 rfl rfl zF zH zH (fun u71 ha71=>?_);obtain ⟨a71,c71,rfl⟩:=ha71.shape;refine OD.call0 (.g rfl rfl) zB rfl zB rfl rfl ((SameBytes_c ha69 ha71)) ?_;rintro _ _ ⟨rfl,rfl⟩
     try simp only [zx1,zx2,zx3]
     refine OD.sT 72 rfl (by exact decide_eq_true hdr) ?_;refine OD.q 3 rfl<|OD.ia (.g rfl rfl) underlying22 size5 rfl rfl (show _=(((0):Nat):Int) by omega) (ha46) (h:=fun p76 cs76 hp76 hr76=>?_)
     cases hr76
     refine .quiet (.g rfl rfl) rfl (fun _=>.loadAt flat5 rfl hp76 rfl) ?_;refine OD.q 1 rfl<|OD.ia (.g rfl rfl) underlying22 size5 rfl rfl (show _=(((0):Nat):Int) by omega) (ha26) (h:=fun p79 cs79 hp79 hr79=>?_)
     cases hr79
     refine .quiet (.g rfl rfl) rfl (fun _=>.loadAt flat5 rfl hp79 rfl) ?_;refine .quiet (.g rfl rfl) rfl (fun _=>.eql rfl rfl)<|OD.sT 81 rfl zG ?_;refine OD.q 2 rfl<|ODx.nil ?_;exact S.rt results4 rfl hR ⟨rfl,rfl⟩
    ·
     refine S.skip<|S.seq<|S.region rfl<|O.op (.p rfl) (.loadAgg isAgg41 zB rfl hb3) ?_;refine O.call0 (.p rfl) rfl zB rfl rfl ((fPut_c hx hsx hH hK)) ?_;rintro _ _ ⟨a26,c26,rfl,rfl⟩
     try simp only [zx1,zx2,zx3]
     refine O.frzA zD fun g hs hm ha26=>?_;replace hg:=Fr.sub_trans hg hs;replace hR:=melted hR hm
     try replace hx:=hx.mono hs
     try replace hy:=hy.mono hs
     try replace hH:=hH.mono hs
     try replace hK:=hK.mono hs
     try replace hb4:=hb4.mono hs
     try replace hb3:=hb3.mono hs
     clear hs hm;refine O.q 5 rfl<|O.nil<|S.seq<|S.region rfl<|O.op (.p rfl) (.loadAgg isAgg41 zB rfl hb4) ?_;refine O.call0 (.p rfl) rfl zB rfl rfl ((fPut_c hy hsy hH hK)) ?_;rintro _ _ ⟨a31,c31,rfl,rfl⟩
     try simp only [zx1,zx2,zx3]
     refine O.frzA zD fun g hs hm ha31=>?_;replace hg:=Fr.sub_trans hg hs;replace hR:=melted hR hm
     try replace hx:=hx.mono hs
     try replace hy:=hy.mono hs
     try replace hH:=hH.mono hs
     try replace hK:=hK.mono hs
     try replace hb4:=hb4.mono hs
     try replace hb3:=hb3.mono hs
     try replace ha26:=ha26.mono hs
     clear hs hm;refine O.q 5 rfl<|O.nil<|S.seq<|S.seq<|S.region rfl<|O.q 1 rfl<|O.op (.p rfl) (.neq rfl rfl)<|O.sF 35 rfl (by (rw [ex];rfl)) ?_;refine O.q 2 rfl<|O.op (.g rfl rfl) (.neq rfl rfl)<|O.sT 38 rfl (by simp [ey]) ?_;refine O.q 1 rfl<|O.nil<|S.condT rfl<|S.seq<|S.region rfl<|O.q 1 rfl<|O.nil ?_;exact S.rt results4 rfl hR ⟨rfl,rfl⟩
   ·
    refine S.skip<|S.seq<|S.region rfl<|O.op (.p rfl) (.loadAgg isAgg41 zB rfl hb3) ?_;refine O.call0 (.p rfl) rfl zB rfl rfl ((fPut_c hx hsx hH hK)) ?_;rintro _ _ ⟨a26,c26,rfl,rfl⟩
    try simp only [zx1,zx2,zx3]
    refine O.frzA zD fun g hs hm ha26=>?_;replace hg:=Fr.sub_trans hg hs;replace hR:=melted hR hm
    try replace hx:=hx.mono hs
    try replace hy:=hy.mono hs
    try replace hH:=hH.mono hs
    try replace hK:=hK.mono hs
    try replace hb4:=hb4.mono hs
    try replace hb3:=hb3.mono hs
    clear hs hm;refine O.q 5 rfl<|O.nil<|S.seq<|S.region rfl<|O.op (.p rfl) (.loadAgg isAgg41 zB rfl hb4) ?_;refine O.call0 (.p rfl) rfl zB rfl rfl ((fPut_c hy hsy hH hK)) ?_;rintro _ _ ⟨a31,c31,rfl,rfl⟩
    try simp only [zx1,zx2,zx3]
    refine O.frzA zD fun g hs hm ha31=>?_;replace hg:=Fr.sub_trans hg hs;replace hR:=melted hR hm
    try replace hx:=hx.mono hs
    try replace hy:=hy.mono hs
    try replace hH:=hH.mono hs
    try replace hK:=hK.mono hs
    try replace hb4:=hb4.mono hs
    try replace hb3:=hb3.mono hs
    try replace ha26:=ha26.mono hs
    clear hs hm;refine O.q 5 rfl<|O.nil<|S.seq<|S.seq<|S.region rfl<|O.q 1 rfl<|O.op (.p rfl) (.neq rfl rfl)<|O.sT 35 rfl (by simp [ex]) ?_;refine O.q 4 rfl<|O.nil<|S.condT rfl<|S.seq<|S.region rfl<|O.q 1 rfl<|O.nil ?_;exact S.rt results4 rfl hR ⟨rfl,rfl⟩
end Go.Proofs.YtdjoggpacmpfnaaGreatDoor
