/- Texts of this proof. -/
import Derived.Test.YtdjoggpacmpfnaaGreatDoorQFrame14
open Go Go.Sp Go.Proofs.Tryz
set_option maxRecDepth 100000
set_option maxHeartbeats 1000000
attribute [local irreducible] obj Own OwnP
namespace Go.Proofs.YtdjoggpacmpfnaaGreatDoor
theorem recordOf_c {r:Fr} {cs:List Value} {x:RecT} (h:RecRp.rel r cs x) (ho:RecOk big x) :
  Con prog 107 #[.agg cs.toArray] r [] (Ret fun v η=>v=.int .i64 (recN x:Int)∧η=[]):=by
 obtain ⟨xa3,xa5,xa6,xc3,xc5,xc6,rfl,k0,k1,k2,k3,k5,k6⟩:=RecRp.sh h;obtain ⟨o0,o1,o2,o3⟩:=ho;unfold big at o0 o1 o2 o3;have hz0:=str_size x.1;refine Con.o func107 fun g hg R hR=>?_;refine S.seq<|S.region rfl<|O.opE (.p rfl) (.box (cs:=[_,_,_,_,_,_,_]) rfl rfl) ?_;rintro _ _ ⟨b1,rfl,rfl⟩;refine zz 19 ?_;refine O.op (.p rfl) (.quo rfl rfl zD)<|O.slot 18 (v' :=.int .i64 (((x.1.length+x.2.2.2.2.2.1.length+x.2.2.2.2.2.2.1.length) / 8:Nat):Int)) rfl (by rw [hz0,Int.tdiv_eq_ediv_of_nonneg zD,IntWalk.i64_in _ zD];rfl) ?_;refine zz 1 ?_;refine O.slot 19 (v' :=.int .i64 (recN x:Int)) rfl (by unfold recN;exact congrArg _ zD) ?_;refine zz 2 ?_;exact S.rt results107 rfl hR ⟨rfl,rfl⟩
theorem rootOf_c {r:Fr} {cs:List Value} {x:RootT} (h:RootRp.rel r cs x) (ho:RootOk big x) :
  Con prog 39 #[.agg cs.toArray] r [] (Ret fun v η=>v=.int .i64 (rootN x:Int)∧η=[]):=by
 obtain ⟨xa3,xa4,xc3,xc4,rfl,k0,k1,k2,k3,k4⟩:=RootRp.sh h;obtain ⟨o0,o1⟩:=ho;unfold big at o0 o1;refine Con.o func39 fun g hg R hR=>?_;refine S.seq<|S.region rfl<|O.opE (.p rfl) (.box (cs:=[_,_,_,_,_]) rfl rfl) ?_;rintro _ _ ⟨b1,rfl,rfl⟩;refine zz 11 ?_;refine O.op (.p rfl) (.quo rfl rfl zD)<|O.slot 10 (v' :=.int .i64 (((x.2.2.2.1.length+x.2.2.2.2.1.length) / 8:Nat):Int)) rfl (by rw [Int.tdiv_eq_ediv_of_nonneg zD,IntWalk.i64_in _ zD];rfl) ?_;refine zz 1 ?_;refine O.slot 11 (v' :=.int .i64 (rootN x:Int)) rfl (by unfold rootN;exact congrArg _ zD) ?_;refine zz 2 ?_;exact S.rt results39 rfl hR ⟨rfl,rfl⟩
theorem recordsOf_c {r:Fr} {va:Value} {l:List RecT} {most:Int} (ha:Arr RecRp r va l) (ho:∀ x∈l,RecOk big x) (hl:l.length≤big) (hm:0≤most∧most≤1000000000) :
  Con prog 42 #[va,.int .i64 most] r [] (Ret fun v η=>∃ n:Nat,v=.int .i64 (n:Int)∧(n:Int)≤1000000000000000∧((n:Int)≤most→RecsC n l)∧η=[]):=by
 unfold big at hl;obtain ⟨hm0,hm1⟩:=hm;have har:=ha;refine Con.o func42 fun g hg R hR=>?_;have ha:=ha.mono hg;have hbd:=ha.bound;obtain ⟨a1,c1,rfl⟩:=ha.shape;refine zz 14 ?_;refine S.loopK2 (ι:=Nat) (κ:=Nat) (fun i n=>i≤l.length∧i≤n∧(n:Int)≤1000000000000000∧∀ x∈l.take i,recN x≤n) (fun i n=>[(5,.int .i64 (n:Int)),(6,.int .i64 (i:Int))]) [(0,_),(1,_)] (fun i n=>[]) (fun i n=>l.length - i) (0) (0) (by exact ⟨by simp,by simp,by omega,by simp⟩) zq zq rfl fun i n hx ih=>?_;have hm1:=meltRefl (g:=g);obtain ⟨hx1,hx2,hx3,hx4⟩:=hx
 by_cases q1:¬ i<l.length
 ·clear ih
  have hi:i=l.length:=by omega
  rw [hi,List.take_length] at hx4;refine zz 7 ?_;refine O.sF 10 rfl (by exact zdf zD) ?_;refine zz 13 ?_;exact S.rt results42 rfl hR ⟨n,rfl,hx3,fun _=>⟨by omega,hx4⟩,rfl⟩
 have hi:i<l.length:=Classical.not_not.1 q1
 by_cases q2:¬ (n:Int)≤most
 ·clear ih
  refine zz 7 ?_;refine O.sT 10 rfl (by exact zdt zD)<|zz 4 ?_;refine O.sF 14 rfl (by exact zdf q2)<|zz 9 ?_;exact S.rt results42 rfl hR ⟨n,rfl,hx3,fun h=>absurd h q2,rfl⟩
 replace q2:=Classical.not_not.1 q2;have hoi:=ho _ (List.getElem_mem hi);have hri:=recN_le hoi;unfold big at hri;have hrp:1≤recN l[i]:=by unfold recN;omega
 refine zz 7 ?_;refine O.sT 10 rfl (by exact zdt zD)<|zz 4 ?_;refine O.sT 14 rfl (by exact zdt q2)<|zz 10 ?_;refine O.iy har hg (h:=fun p21 cs21 hp21 hrr21=>?_);have hr21:=Rp.rel.mono hrr21 hg;obtain ⟨ra3_21,ra5_21,ra6_21,rc3_21,rc5_21,rc6_21,rfl,ho0_21,ho1_21,ho2_21,ha3_21,ha5_21,ha6_21⟩:=RecRp.sh hr21;refine O.op (.p rfl) (.loadAgg isAgg118 zB rfl hp21) ?_;refine O.v0 (.p rfl) rfl zB rfl rfl (recordOf_c (by first|assumption|exact Rp.rel.mono zF hg) zF)<|zz 1 ?_;refine O.slot 24 (v' :=.int .i64 ((n+recN l[i]:Nat):Int)) rfl (by rw [Int.natCast_add])<|zz 8 ?_;exact S.wk (ih (i+1) (n+recN l[i]) (by exact ⟨by omega,by omega,by omega,mem_take_succ hi (fun x hx=>by have:=hx4 x hx;omega) zD⟩) zD)
theorem leavesOf_c {r:Fr} {va:Value} {l:List LeafT} {most:Int} (ha:Arr LeafRp r va l) (ho:∀ x∈l,LeafOk big x) (hl:l.length≤big) (hm:0≤most∧most≤1000000000) :
  Con prog 106 #[va,.int .i64 most] r [] (Ret fun v η=>∃ n:Nat,v=.int .i64 (n:Int)∧(n:Int)≤3000000000000000∧((n:Int)≤most→LeavesC n l)∧η=[]):=by
 unfold big at hl;obtain ⟨hm0,hm1⟩:=hm;have har:=ha;refine Con.o func106 fun g hg R hR=>?_;have ha:=ha.mono hg;have hbd:=ha.bound;obtain ⟨a1,c1,rfl⟩:=ha.shape;refine zz 14 ?_;refine S.loopK2 (ι:=Nat) (κ:=Nat) (fun i n=>i≤l.length∧i≤n∧(n:Int)≤3000000000000000∧((n:Int)≤most→recsIn (l.take i)≤n∧∀ x∈l.take i,LeafC n x)) (fun i n=>[(5,.int .i64 (n:Int)),(6,.int .i64 (i:Int))]) [(0,_),(1,_)] (fun i n=>[]) (fun i n=>l.length - i) (0) (0) (by exact ⟨by simp,by simp,by omega,fun _=>⟨by simp [recsIn],by simp⟩⟩) zq zq rfl fun i n hx ih=>?_;have hm1:=meltRefl (g:=g);obtain ⟨hx1,hx2,hx3,hx4⟩:=hx
 by_cases q1:¬ i<l.length
 ·clear ih
  have hi:i=l.length:=by omega
  rw [hi,List.take_length] at hx4;refine zz 7 ?_;refine O.sF 10 rfl (by exact zdf zD) ?_;refine zz 13 ?_;exact S.rt results106 rfl hR ⟨n,rfl,hx3,fun q=>⟨⟨by omega,(hx4 q).1⟩,(hx4 q).2⟩,rfl⟩
 have hi:i<l.length:=Classical.not_not.1 q1
 by_cases q2:¬ (n:Int)≤most
 ·clear ih
  refine zz 7 ?_;refine O.sT 10 rfl (by exact zdt zD)<|zz 4 ?_;refine O.sF 14 rfl (by exact zdf q2)<|zz 9 ?_;exact S.rt results106 rfl hR ⟨n,rfl,hx3,fun h=>absurd h q2,rfl⟩
 replace q2:=Classical.not_not.1 q2;have hoi:=ho _ (List.getElem_mem hi);obtain ⟨ho1,ho2,ho3⟩:=hoi;have hz0:=str_size l[i].1;have ho1' :l[i].1.length≤140737488351232:=ho1;refine zz 7 ?_;refine O.sT 10 rfl (by exact zdt zD) ?_;refine zz 4 ?_;refine O.sT 14 rfl (by exact zdt q2) ?_;refine zz 6 ?_;refine S.regionD (L:=.range 21) F.mixed zB ?_;refine zz 4 ?_;refine OD.iy har hg (h:=fun p22 cs22 hp22 hrr22=>?_);have hr22:=Rp.rel.mono hrr22 hg;obtain ⟨la1_22,lc1_22,rfl,ho0_22,ha1_22⟩:=LeafRp.sh hr22;refine zz 3 ?_;refine .quiet (.p rfl) rfl (fun _=>.quo rfl rfl zD)<|OD.slot 26 (v' :=.int .i64 ((l[i].1.length / 8:Nat):Int)) rfl (by rw [hz0,Int.tdiv_eq_ediv_of_nonneg zD,IntWalk.i64_in _ zD];rfl) ?_;refine zz 3 ?_;refine OD.iy har hg (h:=fun p30 cs30 hp30 hrr30=>?_);have hr30:=Rp.rel.mono hrr30 hg;obtain ⟨la1_30,lc1_30,rfl,ho0_30,ha1_30⟩:=LeafRp.sh hr30;refine zz 5 ?_;refine OD.call0 (.p rfl) zB rfl zB rfl rfl ((recordsOf_c ha1_30 ho3 ho2 ⟨by omega,by omega⟩)) ?_;rintro v36 _ ⟨m,rfl,hm2,hm3,rfl⟩;refine zz 1 ?_;refine OD.slot 37 (v' :=.int .i64 ((n+1+l[i].1.length / 8+m:Nat):Int)) rfl (by exact congrArg _ zD) ?_;refine zz 8 ?_
 exact S.wk (ih (i+1) (n+1+l[i].1.length / 8+m) (by exact ⟨by omega,by omega,by omega,fun q=>⟨by have h7:=(hx4 zD).1;have h8:=(hm3 zD).1;rw [recsIn_succ hi];omega,mem_take_succ hi (fun x hx=>((hx4 zD).2 x hx).mono zD) ⟨by omega,(hm3 zD).mono zD⟩⟩⟩) zD)
def RowsC (n:Nat) (l:List (List UInt8)):Prop:=l.length≤n∧∀ x∈l,x.length / 8≤n
theorem rowsOf_c {r:Fr} {va:Value} {l:List (List UInt8)} {most:Int} (ha:Arr (Rp.slice Rp.u8) r va l) (ho:l.length≤big∧∀ x∈l,x.length≤big) (hm:0≤most∧most≤1000000000) :
  Con prog 105 #[va,.int .i64 most] r [] (Ret fun v η=>∃ n:Nat,v=.int .i64 (n:Int)∧(n:Int)≤1000000000000000∧((n:Int)≤most→RowsC n l)∧η=[]):=by
 obtain ⟨hl,ho⟩:=ho;unfold big at hl;obtain ⟨hm0,hm1⟩:=hm;refine Con.o func105 fun g hg R hR=>?_;have ha:=ha.mono hg;have hbd:=ha.bound;obtain ⟨a1,c1,rfl⟩:=ha.shape;refine zz 16 ?_;refine S.loopK2 (ι:=Nat) (κ:=Nat) (fun i n=>i≤l.length∧l.length≤n∧(n:Int)≤1000000000000000∧∀ x∈l.take i,x.length / 8≤n) (fun i n=>[(5,.int .i64 (n:Int)),(6,.int .i64 (i:Int))]) [(0,_),(1,_)] (fun i n=>[]) (fun i n=>l.length - i) (0) (l.length) (by exact ⟨by simp,by simp,by omega,by simp⟩) zq zq rfl fun i n hx ih=>?_;have hm1:=meltRefl (g:=g);obtain ⟨hx1,hx2,hx3,hx4⟩:=hx
 by_cases q1:¬ i<l.length
 ·clear ih
  have hi:i=l.length:=by omega
  rw [hi,List.take_length] at hx4;refine zz 7 ?_;refine O.sF 12 rfl (by exact zdf zD) ?_;refine zz 13 ?_;exact S.rt results105 rfl hR ⟨n,rfl,hx3,fun _=>⟨hx2,hx4⟩,rfl⟩
 have hi:i<l.length:=Classical.not_not.1 q1
 by_cases q2:¬ (n:Int)≤most
 ·clear ih
  refine zz 7 ?_;refine O.sT 12 rfl (by exact zdt zD)<|zz 4 ?_;refine O.sF 16 rfl (by exact zdf q2)<|zz 9 ?_;exact S.rt results105 rfl hR ⟨n,rfl,hx3,fun h=>absurd h q2,rfl⟩
 replace q2:=Classical.not_not.1 q2;have hoi:=ho _ (List.getElem_mem hi);unfold big at hoi;refine zz 7 ?_;refine O.sT 12 rfl (by exact zdt zD) ?_;refine zz 4 ?_;refine O.sT 16 rfl (by exact zdt q2) ?_;refine zz 10 ?_;refine O.iz (ha) (h:=fun p23 cs23 hp23 hr23=>?_);obtain ⟨v23,rfl,ha23⟩:=hr23;obtain ⟨a23,c23,rfl⟩:=ha23.shape;refine zz 2 ?_;refine O.op (.p rfl) (.quo rfl rfl zD)<|O.slot 26 (v' :=.int .i64 ((l[i].length / 8:Nat):Int)) rfl (by rw [Int.tdiv_eq_ediv_of_nonneg zD,IntWalk.i64_in _ zD];rfl) ?_;refine zz 1 ?_;refine O.slot 27 (v' :=.int .i64 ((n+l[i].length / 8:Nat):Int)) rfl (by exact congrArg _ zD) ?_;refine zz 8 ?_;exact S.wk (ih (i+1) (n+l[i].length / 8) (by exact ⟨by omega,by omega,by omega,mem_take_succ hi (fun x hx=>by have:=hx4 x hx;omega) zD⟩) zD)
def PrfC (n:Nat) (p:PrfT):Prop:=RowsC n p.1∧p.2.1.length≤n∧∀ x∈p.2.1,(x.1.length+x.2.1.length) / 8≤n
theorem RowsC.mono {n m:Nat} {l:List (List UInt8)} (h:n≤m) (x:RowsC n l):RowsC m l:=⟨Nat.le_trans x.1 h,fun y hy=>Nat.le_trans (x.2 y hy) h⟩
def PrfOk' (p:PrfT):Prop:=(p.1.length≤big∧∀ x∈p.1,x.length≤big)∧p.2.1.length≤big∧∀ x∈p.2.1,x.1.length≤big∧x.2.1.length≤big
theorem proofOf_c {r:Fr} {cs:List Value} {p:PrfT} {most:Int} (h:PrfRp.rel r cs p) (ho:PrfOk' p) (hm:0≤most∧most≤1000000000) :
  Con prog 40 #[.agg cs.toArray,.int .i64 most] r [] (Ret fun v η=>∃ n:Nat,v=.int .i64 (n:Int)∧(n:Int)≤3000000000000000∧((n:Int)≤most→PrfC n p)∧η=[]):=by
 obtain ⟨x1,x2,y1,y2,rfl,k1,k2⟩:=PrfRp.sh h;obtain ⟨o1,hl,o2⟩:=ho;unfold big at hl;obtain ⟨hm0,hm1⟩:=id hm;refine Con.o func40 fun g hg R hR=>?_;have k1:=k1.mono hg;have k2:=k2.mono hg;have hb2:=k2.bound;have k2r:=k2;refine S.seq<|S.region rfl<|O.opE (.p rfl) (.box (cs:=[_,_]) rfl rfl) ?_;rintro _ _ ⟨b2,rfl,rfl⟩;refine zz 3 ?_;refine S.frzO zC fun g hs hm h2=>?_;replace hg:=zfs hg hs;replace hR:=melted hR hm
 try replace k1:=k1.mono hs
 try replace k2:=k2.mono hs
 clear hs hm;refine zz 1 ?_;refine O.op (.p rfl) (.fieldAddr fld31x0 rfl) ?_;refine zz 1 ?_;refine O.q 1 rfl<|O.call0 (.p rfl) rfl zB rfl rfl ((rowsOf_c k1 o1 hm)) ?_;rintro v10 _ ⟨n1,rfl,hn1,hm10,rfl⟩;refine zz 1 ?_;refine O.slot 11 (v' :=.int .i64 ((1+n1:Nat):Int)) rfl (by exact congrArg _ zD) ?_;refine zz 8 ?_;refine S.loopK2 (ι:=Nat) (κ:=Nat) (fun i n=>i≤p.2.1.length∧i≤n∧1+n1≤n∧(n:Int)≤3000000000000000∧∀ x∈p.2.1.take i,(x.1.length+x.2.1.length) / 8≤n) (fun i n=>[(5,.int .i64 (n:Int)),(6,.int .i64 (i:Int))]) [(1,_),(2,_)] (fun i n=>[]) (fun i n=>p.2.1.length - i) (0) (1+n1) (by exact ⟨by simp,by simp,by omega,by omega,by simp⟩) zq zq rfl fun i n hx ih=>?_;have hm1:=meltRefl (g:=g);obtain ⟨hx1,hx2,hx3,hx4,hx5⟩:=hx
 by_cases q1:¬ i<p.2.1.length
 ·clear ih
  have hi:i=p.2.1.length:=by omega
  rw [hi,List.take_length] at hx5;refine zz 4 ?_;refine O.op (.p rfl) (.fieldAddr fld31x1 rfl) ?_;refine zz 3 ?_;refine O.sF 16 rfl (by exact zdf zD) ?_;refine zz 13 ?_;exact S.rt results40 rfl hR ⟨n,rfl,hx4,fun q=>⟨(hm10 zD).mono zD,by omega,hx5⟩,rfl⟩
 have hi:i<p.2.1.length:=Classical.not_not.1 q1
 by_cases q2:¬ (n:Int)≤most
 ·clear ih
  refine zz 4 ?_;refine O.op (.p rfl) (.fieldAddr fld31x1 rfl)<|zz 3 ?_;refine O.sT 16 rfl (by exact zdt zD)<|zz 4 ?_;refine O.sF 20 rfl (by exact zdf q2)<|zz 9 ?_;exact S.rt results40 rfl hR ⟨n,rfl,hx4,fun h=>absurd h q2,rfl⟩
 replace q2:=Classical.not_not.1 q2;obtain ⟨ho1,ho2⟩:=o2 _ (List.getElem_mem hi);have hz0:=str_size p.2.1[i].1;unfold big at ho1 ho2;refine zz 4 ?_;refine O.op (.p rfl) (.fieldAddr fld31x1 rfl) ?_;refine zz 3 ?_;refine O.sT 16 rfl (by exact zdt zD) ?_;refine zz 4 ?_;refine O.sT 20 rfl (by exact zdt q2) ?_;refine zz 6 ?_;refine S.regionD (L:=.range 20) F.mixed zB ?_;refine zz 4 ?_;refine OD.q 1 rfl<|OD.iz (k2) (h:=fun p29 cs29 hp29 hr29=>?_);obtain ⟨l1,m1,rfl,l2,l3⟩:=StubRp.sh hr29;refine zz 5 ?_;refine OD.q 1 rfl<|OD.iz (k2) (h:=fun p36 cs36 hp36 hr36=>?_);obtain ⟨n1',n2',rfl,n3,n4⟩:=StubRp.sh hr36;refine zz 4 ?_;refine .quiet (.p rfl) rfl (fun _=>.quo rfl rfl zD)<|OD.slot 41 (v' :=.int .i64 (((p.2.1[i].1.length+p.2.1[i].2.1.length) / 8:Nat):Int)) rfl (by rw [hz0,Int.tdiv_eq_ediv_of_nonneg zD,IntWalk.i64_in _ zD];rfl) ?_;refine zz 1 ?_;refine OD.slot 42 (v' :=.int .i64 ((n+1+(p.2.1[i].1.length+p.2.1[i].2.1.length) / 8:Nat):Int)) rfl (by exact congrArg _ zD) ?_;refine zz 8 ?_;exact S.wk (ih (i+1) (n+1+(p.2.1[i].1.length+p.2.1[i].2.1.length) / 8) (by exact ⟨by omega,by omega,by omega,by omega,mem_take_succ hi (fun x hx=>by have:=hx5 x hx;omega) zD⟩) zD)
def NodeC (n:Nat) (x:NodeT):Prop:=(x.2.1.length+x.2.2.1.length) / 8≤n∧LeavesC n x.2.2.2.1
theorem nodeOf_c {r:Fr} {cs:List Value} {x:NodeT} {most:Int} (h:NodeRp.rel r cs x) (ho:x.2.1.length≤big∧x.2.2.1.length≤big∧x.2.2.2.1.length≤big∧∀ y∈x.2.2.2.1,LeafOk big y) (hm:0≤most∧most≤1000000000) :
  Con prog 41 #[.agg cs.toArray,.int .i64 most] r [] (Ret fun v η=>∃ n:Nat,v=.int .i64 (n:Int)∧(n:Int)≤4000000000000000∧((n:Int)≤most→NodeC n x)∧η=[]):=by
 obtain ⟨x1,x2,x3,y1,y2,y3,rfl,k1,k2,k3⟩:=NodeRp.sh h;obtain ⟨o1,o2,o3,o4⟩:=ho;unfold big at o1 o2;refine Con.o func41 fun g hg R hR=>?_;have k1:=k1.mono hg;have k2:=k2.mono hg;have k3:=k3.mono hg;refine S.seq<|S.region rfl<|O.opE (.p rfl) (.box (cs:=[_,_,_,_]) rfl rfl) ?_;rintro _ _ ⟨b2,rfl,rfl⟩;refine zz 3 ?_;refine S.frzO zC fun g hs hm h2=>?_;replace hg:=zfs hg hs;replace hR:=melted hR hm
 try replace k1:=k1.mono hs
 try replace k2:=k2.mono hs
 try replace k3:=k3.mono hs
 clear hs hm;refine S.regionD (L:=.range 15) F.mixed zB ?_;refine zz 7 ?_;refine .quiet (.p rfl) rfl (fun _=>.quo rfl rfl zD)<|OD.slot 12 (v' :=.int .i64 (((x.2.1.length+x.2.2.1.length) / 8:Nat):Int)) rfl (by rw [Int.tdiv_eq_ediv_of_nonneg zD,IntWalk.i64_in _ zD];rfl) ?_;refine zz 3 ?_;refine OD.q 1 rfl<|OD.call0 (.p rfl) zB rfl zB rfl rfl ((leavesOf_c k3 o4 o3 hm)) ?_;rintro v17 _ ⟨m,rfl,hm2,hm3,rfl⟩;refine zz 1 ?_;refine OD.slot 18 (v' :=.int .i64 ((1+(x.2.1.length+x.2.2.1.length) / 8+m:Nat):Int)) rfl (by exact congrArg _ zD) ?_;refine zz 2 ?_;exact S.rt results41 rfl hR ⟨1+(x.2.1.length+x.2.2.1.length) / 8+m,rfl,by omega,fun q=>⟨by omega,(hm3 zD).mono zD⟩,rfl⟩
def FrmSm (f:FrmT):Prop:=FrmOk 60000 f∧(f.2.2.2.2.2.2.2.2.1.2.2.2.1.length≤5000∧∀ y∈f.2.2.2.2.2.2.2.2.1.2.2.2.1,y.2.1.length≤5000)∧f.2.2.2.2.2.2.2.2.2.1.length≤5000
theorem recs_small {n:Nat} {l:List RecT} (hn:n≤5000) (h:RecsC n l):l.length≤5000∧∀ y∈l,RecOk 60000 y:=⟨Nat.le_trans h.1 hn,fun y hy=>by
 have:=h.2 y hy;unfold recN at this;exact ⟨by omega,by omega,by omega,by omega⟩⟩
theorem FrmOk.mono' {N M:Nat} {x:FrmT} (hM:N≤M) (h:FrmOk N x):FrmOk M x:=by
 obtain ⟨h1,h2,h3,h4,h5,h6,h7,h8,h9,h10,h11,h12,h13,h14,h15⟩:=h;exact ⟨by omega,by omega,by omega,by omega,by omega,⟨by omega,fun y hy=>Nat.le_trans (h6.2 y hy) hM⟩,⟨by omega,fun y hy=>(h7.2 y hy).mono hM⟩,by omega,by omega,⟨by omega,fun y hy=>(h10.2 y hy).mono hM⟩,⟨by omega,fun y hy=>(h11.2 y hy).mono hM⟩,by omega,by omega,by omega,by omega⟩
theorem FrmSm.sz {f:FrmT} (h:FrmSm f):FrmSz f:=by
 obtain ⟨h1,h2,h3⟩:=h;obtain ⟨_,_,_,_,_,_,g7,g8,g9,_⟩:=id h1;exact ⟨FrmOk.mono' (N:=60000) zE h1,⟨⟨by omega,by omega⟩,by omega,fun y hy=>by have:=h2.2 y hy;omega⟩,by have:=g7.1;omega,by omega⟩
theorem frameOf_c {r:Fr} {cs:List Value} {f:FrmT} (hf:FrmRp.rel r cs f) (ho:FrmOk big f) :
  Con prog 14 #[.agg cs.toArray,.int .i64 5000] r [] (Ret fun v η=>∃ n:Nat,v=.int .i64 (n:Int)∧((n:Int)≤5000→FrmSm f)∧η=[]):=by
 have hf0:=hf;obtain ⟨a8,a9,a10,a11,a12,a14,a15,a16,a17,a21,a22,a26,a27,c8,c9,c10,c11,c12,c14,c15,c16,c17,c21,c22,c26,c27,rfl,p1,p2,p3,p4,p5,p6,p7,p8,p9,p10,p11,p12,p14,p15,p16,p17,p18,p19,p20,p21,p22,p23,p24,p25,p26,p27,p28⟩:=FrmRp.sh hf0;obtain ⟨b1',b2',b3',b4',b5',b6',b7',b8',b9',b10',b11',b12',b13',b14',b15'⟩:=ho;have z1:=str_size f.2.2.2.1;have z2:=str_size f.2.2.2.2.1;have g1:=rootN_le (x:=f.2.2.2.2.2.1) ⟨b3',b4'⟩;have g2:=rootN_le (x:=f.2.2.2.2.2.2.2.2.2.2.1.1) ⟨b12',b13'⟩;have g3:=rootN_le (x:=f.2.2.2.2.2.2.2.2.2.2.1.2.1) ⟨b14',b15'⟩;unfold big at g1 g2 g3;refine Con.o func14 fun g hg R hR=>?_;have hf:=hf.mono hg;have p8:=p8.mono hg;have p9:=p9.mono hg;have p10:=p10.mono hg;have p11:=p11.mono hg;have p12:=p12.mono hg;have p14:=p14.mono hg;have p15:=p15.mono hg;have p16:=p16.mono hg;have p17:=p17.mono hg;have p21:=p21.mono hg;have p22:=p22.mono hg;have p26:=p26.mono hg;have p27:=p27.mono hg;have t1:RootRp.rel g.h [.int .i64 f.2.2.2.2.2.1.1,.int .i64 f.2.2.2.2.2.1.2.1,.int .i64 f.2.2.2.2.2.1.2.2.1,.slice a8 f.2.2.2.2.2.1.2.2.2.1.length c8,.slice a9 f.2.2.2.2.2.1.2.2.2.2.1.length c9] f.2.2.2.2.2.1:=RootRp.mk p5 p6 p7 p8 p9
 have t2:RootRp.rel g.h [.int .i64 f.2.2.2.2.2.2.2.2.2.2.1.1.1,.int .i64 f.2.2.2.2.2.2.2.2.2.2.1.1.2.1,.int .i64 f.2.2.2.2.2.2.2.2.2.2.1.1.2.2.1,.slice a21 f.2.2.2.2.2.2.2.2.2.2.1.1.2.2.2.1.length c21,.slice a22 f.2.2.2.2.2.2.2.2.2.2.1.1.2.2.2.2.1.length c22] f.2.2.2.2.2.2.2.2.2.2.1.1:=RootRp.mk p18 p19 p20 p21 p22;have t3:RootRp.rel g.h [.int .i64 f.2.2.2.2.2.2.2.2.2.2.1.2.1.1,.int .i64 f.2.2.2.2.2.2.2.2.2.2.1.2.1.2.1,.int .i64 f.2.2.2.2.2.2.2.2.2.2.1.2.1.2.2.1,.slice a26 f.2.2.2.2.2.2.2.2.2.2.1.2.1.2.2.2.1.length c26,.slice a27 f.2.2.2.2.2.2.2.2.2.2.1.2.1.2.2.2.2.1.length c27] f.2.2.2.2.2.2.2.2.2.2.1.2.1:=RootRp.mk p23 p24 p25 p26 p27;have hprf:PrfRp.rel g.h [.slice a11 f.2.2.2.2.2.2.2.1.1.length c11,.slice a12 f.2.2.2.2.2.2.2.1.2.1.length c12] f.2.2.2.2.2.2.2.1:=PrfRp.mk p11 p12;have hnode:NodeRp.rel g.h [byteV f.2.2.2.2.2.2.2.2.1.1,.slice a14 f.2.2.2.2.2.2.2.2.1.2.1.length c14,.slice a15 f.2.2.2.2.2.2.2.2.1.2.2.1.length c15,.slice a16 f.2.2.2.2.2.2.2.2.1.2.2.2.1.length c16] f.2.2.2.2.2.2.2.2.1:=NodeRp.mk p14 p15 p16;have o1:RootOk big f.2.2.2.2.2.1:=⟨b3',b4'⟩;have o2:RootOk big f.2.2.2.2.2.2.2.2.2.2.1.1:=⟨b12',b13'⟩;have o3:RootOk big f.2.2.2.2.2.2.2.2.2.2.1.2.1:=⟨b14',b15'⟩;have op:PrfOk' f.2.2.2.2.2.2.2.1:=⟨b6',b7'⟩;have on:f.2.2.2.2.2.2.2.2.1.2.1.length≤big∧f.2.2.2.2.2.2.2.2.1.2.2.1.length≤big∧f.2.2.2.2.2.2.2.2.1.2.2.2.1.length≤big∧∀ y∈f.2.2.2.2.2.2.2.2.1.2.2.2.1,LeafOk big y:=⟨b8',b9',b10'⟩
 have w1:f.2.2.2.1.length≤140737488351232:=b1';have w2:f.2.2.2.2.1.length≤140737488351232:=b2';have w3:f.2.2.2.2.2.2.1.length≤140737488351232:=b5';refine S.seq<|S.region rfl<|O.opE (.p rfl) (.box (cs:=[_,_,_,_,_,_,_,_,_,_,_,_,_,_,_,_,_,_,_,_,_,_,_,_,_,_,_,_,_]) rfl rfl) ?_;rintro _ _ ⟨b2,rfl,rfl⟩;refine zz 3 ?_;refine S.frzO zC fun g hs hm h2=>?_;replace hg:=zfs hg hs;replace hR:=melted hR hm
 try replace hf:=hf.mono hs
 try replace p8:=p8.mono hs
 try replace p9:=p9.mono hs
 try replace p10:=p10.mono hs
 try replace p11:=p11.mono hs
 try replace p12:=p12.mono hs
 try replace p14:=p14.mono hs
 try replace p15:=p15.mono hs
 try replace p16:=p16.mono hs
 try replace p17:=p17.mono hs
 try replace p21:=p21.mono hs
 try replace p22:=p22.mono hs
 try replace p26:=p26.mono hs
 try replace p27:=p27.mono hs
 try replace t1:=t1.mono hs
 try replace t2:=t2.mono hs
 try replace t3:=t3.mono hs
 try replace hprf:=hprf.mono hs
 try replace hnode:=hnode.mono hs
 clear hs hm;refine S.regionD (L:=[0,1,2,3,4,5,6,7,8,9,10,11,12,13,14,17,18,19,22,23,24,15,16,20,21,25,26,27]) F.mixed zB ?_;refine zz 11 ?_;refine .quiet (.p rfl) rfl (fun _=>.quo rfl rfl zD)<|OD.slot 17 (v' :=.int .i64 (((f.2.2.2.1.length+f.2.2.2.2.1.length+f.2.2.2.2.2.2.1.length) / 8:Nat):Int)) rfl (by rw [z1,z2,Int.tdiv_eq_ediv_of_nonneg zD,IntWalk.i64_in _ zD];rfl) ?_;refine zz 2 ?_;refine .quiet (.p rfl) rfl (fun _=>.loadAgg (cs:=[_,_,_,_,_]) isAgg27 zB rfl ((h2.drop 5).take 5)) ?_;refine zz 2 ?_;refine .quiet (.p rfl) rfl (fun _=>.loadAgg (cs:=[_,_,_,_,_]) isAgg27 zB rfl ((h2.drop 18).take 5)) ?_;refine zz 2 ?_;refine .quiet (.p rfl) rfl (fun _=>.loadAgg (cs:=[_,_,_,_,_]) isAgg27 zB rfl ((h2.drop 23).take 5)) ?_;refine OD.v0 (.p rfl) zB rfl zB rfl rfl ((rootOf_c t1 o1)) ?_;refine zz 1 ?_;refine OD.v0 (.p rfl) zB rfl zB rfl rfl ((rootOf_c t2 o2)) ?_;refine zz 1 ?_;refine OD.v0 (.p rfl) zB rfl zB rfl rfl ((rootOf_c t3 o3)) ?_;refine zz 1 ?_;refine OD.slot 32 (v' :=.int .i64 ((1+(f.2.2.2.1.length+f.2.2.2.2.1.length+f.2.2.2.2.2.2.1.length) / 8+rootN f.2.2.2.2.2.1+rootN f.2.2.2.2.2.2.2.2.2.2.1.1+rootN f.2.2.2.2.2.2.2.2.2.2.1.2.1:Nat):Int)) rfl (by exact congrArg _ zD) ?_;refine OD.q 1 rfl<|ODx.nil (S.seq (S.seq ?_))
 generalize hn1:1+(f.2.2.2.1.length+f.2.2.2.2.1.length+f.2.2.2.2.2.2.1.length) / 8+rootN f.2.2.2.2.2.1+rootN f.2.2.2.2.2.2.2.2.2.2.1.1+rootN f.2.2.2.2.2.2.2.2.2.2.1.2.1=n1;refine zz 5 ?_;refine S.cd rfl (fun h35=>?_) fun h35=>?_
 ·refine zz 5 ?_
  exact S.rt results14 rfl hR ⟨n1,rfl,fun q=>by omega,rfl⟩
 ·refine zz 4 ?_
  refine O.op (.p rfl) (.fieldAddr fld41x7 rfl)<|O.op (.p rfl) (.loadAgg (cs:=[_,_]) isAgg31 zB rfl ((h2.drop 11).take 2)) ?_;refine O.q 2 rfl<|O.op (.p rfl) (.sub rfl rfl (IntWalk.i64_in _ zD))<|O.slot 42 (v' :=.int .i64 (5000 - (n1:Int))) rfl zN ?_;refine O.call0 (.p rfl) rfl zB rfl rfl ((proofOf_c hprf op ⟨by omega,by omega⟩)) ?_;rintro v43 _ ⟨n2,rfl,hn2,hm2,rfl⟩;refine zz 1 ?_;refine O.slot 44 (v' :=.int .i64 ((n1+n2:Nat):Int)) rfl (by exact congrArg _ zD)<|zz 9 ?_;refine S.cd rfl (fun h47=>?_) fun h47=>?_
  ·refine zz 5 ?_
   exact S.rt results14 rfl hR ⟨n1+n2,rfl,fun q=>by omega,rfl⟩
  ·refine zz 4 ?_
   refine O.op (.p rfl) (.fieldAddr fld41x8 rfl)<|O.op (.p rfl) (.loadAgg (cs:=[_,_,_,_]) isAgg35 zB rfl ((h2.drop 13).take 4)) ?_;refine O.q 2 rfl<|O.op (.p rfl) (.sub rfl rfl (IntWalk.i64_in _ zD))<|O.call0 (.p rfl) rfl zB rfl rfl ((nodeOf_c hnode on ⟨by omega,by omega⟩)) ?_;rintro v55 _ ⟨n3,rfl,hn3,hm3,rfl⟩;refine zz 1 ?_;refine O.slot 56 (v' :=.int .i64 ((n1+n2+n3:Nat):Int)) rfl (by exact congrArg _ zD)<|zz 9 ?_;refine S.cd rfl (fun h59=>?_) fun h59=>?_
   ·refine zz 5 ?_
    exact S.rt results14 rfl hR ⟨n1+n2+n3,rfl,fun q=>by omega,rfl⟩
   ·refine zz 4 ?_
    refine O.op (.p rfl) (.fieldAddr fld41x9 rfl)<|zz 1 ?_;refine O.q 2 rfl<|O.op (.p rfl) (.sub rfl rfl (IntWalk.i64_in _ zD))<|O.call0 (.p rfl) rfl zB rfl rfl ((recordsOf_c p17 b11'.2 b11'.1 ⟨by omega,by omega⟩)) ?_;rintro v67 _ ⟨n4,rfl,hn4,hm4,rfl⟩;refine zz 1 ?_;refine O.slot 68 (v' :=.int .i64 ((n1+n2+n3+n4:Nat):Int)) rfl (by exact congrArg _ zD) ?_;refine O.q 1 rfl<|O.nil<|S.ret results14 rfl fun w hw=>Holds.end_ hR hw ?_;refine ⟨_,⟨n1+n2+n3+n4,rfl,fun q=>?_,rfl⟩,zM⟩;obtain ⟨⟨u1,u2⟩,u3,u4⟩:=hm2 zD;obtain ⟨⟨v1,v1'⟩,v2⟩:=(hm3 zD).2;have v3:=(hm3 zD).1;obtain ⟨x1,x2⟩:=recs_small zD (hm4 zD);unfold rootN at hn1;refine ⟨⟨by omega,by omega,by omega,by omega,by omega,⟨by omega,fun y hy=>by have:=u2 y hy;omega⟩,⟨by omega,fun y hy=>by have:=u4 y hy;exact ⟨by omega,by omega⟩⟩,by omega,by omega,⟨by omega,fun y hy=>?_⟩,⟨by omega,x2⟩,by omega,by omega,by omega,by omega⟩,⟨by omega,fun y hy=>?_⟩,x1⟩
    ·obtain ⟨w1,w2⟩:=v2 y hy
     have w3:=recs_small zD w2;exact ⟨by omega,by omega,w3.2⟩
    ·exact (recs_small zD (v2 y hy).2).1
def markL (k n:Nat):List UInt8:=(List.range n).map fun (i:Nat)=>markB (k:Int) (i:Int)
@[simp] theorem markL_length (k n:Nat):(markL k n).length=n:=by simp [markL]
def markX (k n i:Nat):List UInt8:=(List.range i).map fun (q:Nat)=>markB (k:Int) ((n:Int)+(q:Int))
@[simp] theorem markX_length (k n i:Nat):(markX k n i).length=i:=by simp [markX]
def markM (j n i:Nat):List UInt8:=(List.range i).map fun (q:Nat)=>markB ((j:Int)+(n:Int)) (q:Int)
@[simp] theorem markM_length (j n i:Nat):(markM j n i).length=i:=by simp [markM]
theorem CopyBytes_c {r:Fr} {va:Value} {xs:List UInt8} (ha:Arr Rp.u8 r va xs) (hl:xs.length≤140737488355328) :
  Con prog 26 #[va] r [] (Ret fun v η=>∃ a c,v=.slice a xs.length c∧η=[OwnP Rp.u8 5 v xs]):=by
 refine Con.o func26 fun g hg R hR=>?_;obtain ⟨a1,c1,rfl⟩:=ha.shape;refine S.addNil (T:=Rp.u8) (e:=5) ?_;refine zz 12 ?_;refine O.opE (.p rfl) (.appendP (T:=Rp.u8) pure_u8 underlying22 elem5 zE rfl rfl zC zA zH zH) ?_;rintro _ _ ⟨a6,c6,rfl,rfl⟩;refine O.q 1 rfl<|O.nil<|S.ret results26 rfl fun w hw=>hR _ _ w ?_ hw;exact ⟨a6,c6,by simp,rfl⟩
def pick (x n:Int):Int:=if n<1 then 0 else if x.tmod n<0 then x.tmod n+n else x.tmod n
theorem Pick_c {r:Fr} (x n:Int) (hn:InI64 n):Con prog 16 #[.int .i64 x,.int .i64 n] r [] (Ret fun v η=>v=.int .i64 (pick x n)∧η=[]):=by
 refine Con.o func16 fun g hg R hR=>?_;unfold InI64 at hn;refine zz 10 ?_;refine S.cd rfl (fun h6=>?_) fun h6=>?_
 ·refine zz 4 ?_
  refine S.ret results16 rfl fun w hw=>hR _ _ w ?_ hw;exact ⟨by simp [pick,h6],rfl⟩
 ·have b1:=Int.tmod_lt_of_pos x (show 0<n by omega)
  have b2:=Int.lt_tmod_of_pos x (show 0<n by omega);refine zz 5 ?_;refine O.op (.p rfl) (.rem rfl rfl zD) ?_;refine zz 8 ?_;refine S.cd rfl (fun h11=>?_) fun h11=>?_
  ·refine zz 11 ?_
   refine S.ret results16 rfl fun w hw=>hR _ _ w ?_ hw;exact ⟨by simp [pick,h6,h11],rfl⟩
  ·refine zz 6 ?_
   refine S.ret results16 rfl fun w hw=>hR _ _ w ?_ hw;exact ⟨by simp [pick,h6,h11],rfl⟩
theorem frmErr_0 {f:FrmT}:frmErr f=0↔frmOk f∧(frmB f).length≤262144:=by
 unfold frmErr
 constructor
 ·intro h
  split at h
  ·rename_i q
   split at h
   ·rename_i q2;exact ⟨q,q2⟩
   ·cases h
  ·cases h
 ·rintro ⟨h1,h2⟩;rw [if_pos h1,if_pos h2]
theorem frmOut_0 {f:FrmT} (h:frmErr f=0):frmOut f=frmB f:=by unfold frmOut;rw [if_pos (frmErr_0.1 h)]
theorem frmErr_n {f:FrmT} (h:frmErr f≠0):frmOut f=[]∧(frmErr f=4∨frmErr f=3):=by
 refine ⟨by unfold frmOut;rw [if_neg fun q=>h (frmErr_0.2 q)],?_⟩;unfold frmErr at h ⊢
 split
 ·rename_i q
  rw [if_pos q] at h
  split
  ·rename_i q2;rw [if_pos q2] at h;exact absurd rfl h
  ·exact .inr rfl
 ·exact .inl rfl
def aw1:FrmT:=(1,5,3,[],[],rootZ,[],prfZ,nodeZ,[],evdZ,0,())
def aw2:FrmT:=(6,0,0,[],[],rootZ,[],prfZ,nodeZ,[],evdZ,6,())
def aw3:FrmT:=(3,0,0,[],[48,49,50],rootZ,[],prfZ,nodeZ,[],evdZ,0,())
def frmZ:FrmT:=(0,0,0,[],[],rootZ,[],prfZ,nodeZ,[],evdZ,0,())
theorem aw1_ok:frmOk aw1∧(frmB aw1).length≤262144:=⟨⟨⟨.inl ⟨rfl,by decide,by decide⟩,by decide,by decide⟩,rfl⟩,by rw [frmB_length,frmP_1 rfl,be_length];decide⟩
theorem aw2_ok:frmOk aw2∧(frmB aw2).length≤262144:=⟨⟨⟨.inr (.inr (.inr (.inr (.inr (.inl ⟨rfl,by decide,by decide⟩))))),by decide,by decide⟩,rfl⟩,by rw [frmB_length,frmP_6 rfl,be_length];decide⟩
theorem aw3_no:frmErr aw3=4:=by
 unfold frmErr;rw [if_neg fun h=>?_];have h2:=((kindOk_3 (f:=aw3) rfl).1 h.1.1).2 50 zE;exact absurd h2 zE
theorem aw1_out:frmOut aw1=[1,0,0,0,0,0,0,0,5,0,0,0,0,0,0,0,3]:=by
 unfold frmOut;rw [if_pos aw1_ok];unfold frmB;rw [frmP_1 rfl];rfl
theorem aw2_out:frmOut aw2=[6,0,0,0,0,0,0,0,0,0,0,0,0,0,0,0,6]:=by
 unfold frmOut;rw [if_pos aw2_ok];unfold frmB;rw [frmP_6 rfl];rfl
theorem aw1_get:frmGot ([1,0,0,0,0,0,0,0,5,0,0,0,0,0,0,0,3]++[0])=none∧frmGE [1,0,0,0,0,0,0,0,5,0,0,0,0,0,0,0,3,0]=4:=by
 refine ⟨?_,by unfold frmGE;rw [if_pos zE]⟩;have e:frmB aw1=[1,0,0,0,0,0,0,0,5,0,0,0,0,0,0,0,3]:=by rw [← aw1_out,frmOut_0 (frmErr_0.2 aw1_ok)]
 unfold frmGot;rw [if_pos zE,← e];exact frmGet_more aw1_ok.1 (by rw [e];decide) zE
theorem frmZ_rel {h:Fr}:FrmRp.rel h [byteV 0,.int .i64 0,.int .i64 0,.string ⟨#[]⟩,.string ⟨#[]⟩,.int .i64 0,.int .i64 0,.int .i64 0,.slice none 0 0,.slice none 0 0,.slice none 0 0,.slice none 0 0,.slice none 0 0,.int .u8 0,.slice none 0 0,.slice none 0 0,.slice none 0 0,.slice none 0 0,.int .i64 0,.int .i64 0,.int .i64 0,.slice none 0 0,.slice none 0 0,.int .i64 0,.int .i64 0,.int .i64 0,.slice none 0 0,.slice none 0 0,.int .i64 0] frmZ:=FrmRp.mk (x0:=0) (x13:=0) RS.zero64 RS.zero64 (show ([]:List UInt8).length≤9223372036854775807 by decide) (show ([]:List UInt8).length≤9223372036854775807 by decide) RS.zero64 RS.zero64 RS.zero64 Arr.nil Arr.nil Arr.nil Arr.nil Arr.nil Arr.nil Arr.nil Arr.nil Arr.nil RS.zero64 RS.zero64 RS.zero64 Arr.nil Arr.nil RS.zero64 RS.zero64 RS.zero64 Arr.nil Arr.nil RS.zero64
theorem sz1:FrmSz aw1:=sz_of zE zE zRoot zE zPrf zNode zSet zEvd
theorem sz2:FrmSz aw2:=sz_of zE zE zRoot zE zPrf zNode zSet zEvd
theorem sz3:FrmSz aw3:=sz_of zE zE zRoot zE zPrf zNode zSet zEvd
theorem awake_c {r:Fr} (hH:At r ⟨0,0,none⟩ (w64s shaH)) (hK:At r ⟨1,0,none⟩ (w64s shaK)):Con prog 8 #[] r [] (Ret fun v η=>v=.bool true∧η=[]):=by
 refine Con.of (n:=68) _ rfl func8 rfl rfl rfl fun g hg R hR=>?_;have hH:=hH.mono hg;have hK:=hK.mono hg;have r1:FrmRp.rel g.h [byteV 1,.int .i64 5,.int .i64 3,.string ⟨#[]⟩,.string ⟨#[]⟩,.int .i64 0,.int .i64 0,.int .i64 0,.slice none 0 0,.slice none 0 0,.slice none 0 0,.slice none 0 0,.slice none 0 0,.int .u8 0,.slice none 0 0,.slice none 0 0,.slice none 0 0,.slice none 0 0,.int .i64 0,.int .i64 0,.int .i64 0,.slice none 0 0,.slice none 0 0,.int .i64 0,.int .i64 0,.int .i64 0,.slice none 0 0,.slice none 0 0,.int .i64 0] aw1:=FrmRp.mk (x0:=1) (x13:=0) (⟨by decide,by decide⟩:InI64 5) (⟨by decide,by decide⟩:InI64 3) (show ([]:List UInt8).length≤9223372036854775807 by decide) (show ([]:List UInt8).length≤9223372036854775807 by decide) RS.zero64 RS.zero64 RS.zero64 Arr.nil Arr.nil Arr.nil Arr.nil Arr.nil Arr.nil Arr.nil Arr.nil Arr.nil RS.zero64 RS.zero64 RS.zero64 Arr.nil Arr.nil RS.zero64 RS.zero64 RS.zero64 Arr.nil Arr.nil RS.zero64
 have r2:FrmRp.rel g.h [byteV 6,.int .i64 0,.int .i64 0,.string ⟨#[]⟩,.string ⟨#[]⟩,.int .i64 0,.int .i64 0,.int .i64 0,.slice none 0 0,.slice none 0 0,.slice none 0 0,.slice none 0 0,.slice none 0 0,.int .u8 0,.slice none 0 0,.slice none 0 0,.slice none 0 0,.slice none 0 0,.int .i64 0,.int .i64 0,.int .i64 0,.slice none 0 0,.slice none 0 0,.int .i64 0,.int .i64 0,.int .i64 0,.slice none 0 0,.slice none 0 0,.int .i64 6] aw2:=FrmRp.mk (x0:=6) (x13:=0) RS.zero64 RS.zero64 (show ([]:List UInt8).length≤9223372036854775807 by decide) (show ([]:List UInt8).length≤9223372036854775807 by decide) RS.zero64 RS.zero64 RS.zero64 Arr.nil Arr.nil Arr.nil Arr.nil Arr.nil Arr.nil Arr.nil Arr.nil Arr.nil RS.zero64 RS.zero64 RS.zero64 Arr.nil Arr.nil RS.zero64 RS.zero64 RS.zero64 Arr.nil Arr.nil (⟨by decide,by decide⟩:InI64 6)
 have r3:FrmRp.rel g.h [byteV 3,.int .i64 0,.int .i64 0,.string ⟨#[]⟩,.string (str [48,49,50]),.int .i64 0,.int .i64 0,.int .i64 0,.slice none 0 0,.slice none 0 0,.slice none 0 0,.slice none 0 0,.slice none 0 0,.int .u8 0,.slice none 0 0,.slice none 0 0,.slice none 0 0,.slice none 0 0,.int .i64 0,.int .i64 0,.int .i64 0,.slice none 0 0,.slice none 0 0,.int .i64 0,.int .i64 0,.int .i64 0,.slice none 0 0,.slice none 0 0,.int .i64 0] aw3:=FrmRp.mk (x0:=3) (x13:=0) RS.zero64 RS.zero64 (show ([]:List UInt8).length≤9223372036854775807 by decide) (show ([48,49,50]:List UInt8).length≤9223372036854775807 by decide) RS.zero64 RS.zero64 RS.zero64 Arr.nil Arr.nil Arr.nil Arr.nil Arr.nil Arr.nil Arr.nil Arr.nil Arr.nil RS.zero64 RS.zero64 RS.zero64 Arr.nil Arr.nil RS.zero64 RS.zero64 RS.zero64 Arr.nil Arr.nil RS.zero64;refine S.seq<|S.region rfl<|O.q 1 rfl<|O.nil<|S.seq<|S.region rfl<|O.op (.p rfl) (.build (cs:=[_,_,_,_,_,_,_,_,_,_,_,_,_,_,_,_,_,_,_,_,_,_,_,_,_,_,_,_,_]) underlying41 rfl rfl rfl rfl rfl)<|O.call0 (.p rfl) rfl zB rfl rfl ((fPut_c r1 sz1 hH hK)) ?_;rintro _ _ ⟨a11,c11,rfl,rfl⟩
 try simp only [zx1,zx2,zx3]
 rw [aw1_out,frmErr_0.2 aw1_ok];refine O.frzA zC fun g hs hm ha11=>?_;replace hg:=Fr.sub_trans hg hs;replace hR:=melted hR hm
 try replace hH:=hH.mono hs
 try replace hK:=hK.mono hs
 try replace r1:=r1.mono hs
 try replace r2:=r2.mono hs
 try replace r3:=r3.mono hs
 clear hs hm;refine O.q 5 rfl<|O.nil<|S.seq<|S.region rfl<|O.op (.p rfl) (.build (cs:=[_,_,_,_,_,_,_,_,_,_,_,_,_,_,_,_,_,_,_,_,_,_,_,_,_,_,_,_,_]) underlying41 rfl rfl rfl rfl rfl)<|O.call0 (.p rfl) rfl zB rfl rfl ((fPut_c r2 sz2 hH hK)) ?_;rintro _ _ ⟨a16,c16,rfl,rfl⟩
 try simp only [zx1,zx2,zx3]
 rw [aw2_out,frmErr_0.2 aw2_ok];refine O.frzA zC fun g hs hm ha16=>?_;replace hg:=Fr.sub_trans hg hs;replace hR:=melted hR hm
 try replace hH:=hH.mono hs
 try replace hK:=hK.mono hs
 try replace r1:=r1.mono hs
 try replace r2:=r2.mono hs
 try replace r3:=r3.mono hs
 try replace ha11:=ha11.mono hs
 clear hs hm;refine O.q 5 rfl<|O.nil<|S.seq<|S.region rfl<|O.q 1 rfl<|O.call0 (.p rfl) rfl zB rfl rfl ((CopyBytes_c ha11 zE)) ?_;rintro _ _ ⟨a21,c21,rfl,rfl⟩
 try simp only [zx1,zx2,zx3]
 refine O.opE (.p rfl) (.litP (T:=Rp.u8) (ys:=[0]) underlying22 elem5 zE rfl rfl ⟨rfl,trivial⟩ zE) ?_;rintro _ _ ⟨a22,c22,rfl,rfl⟩;refine O.opE (.p rfl) (.appendO (T:=Rp.u8) underlying22 elem5 zE rfl rfl zC zC zH zH) ?_;rintro _ _ ⟨a23,c23,rfl,rfl⟩;refine O.frzA zC fun g hs hm ha23=>?_;replace hg:=Fr.sub_trans hg hs;replace hR:=melted hR hm
 try replace hH:=hH.mono hs
 try replace hK:=hK.mono hs
 try replace r1:=r1.mono hs
 try replace r2:=r2.mono hs
 try replace r3:=r3.mono hs
 try replace ha11:=ha11.mono hs
 try replace ha16:=ha16.mono hs
 clear hs hm;refine O.call0 (.p rfl) rfl zB rfl rfl (((fGetP_c ha23 zE rfl hH hK).mono (Ret.imp fun _ _ h=>frm_tN aw1_get.1 h))) ?_;rintro _ _ ⟨rfl,rfl⟩
 try simp only [zx1,zx2,zx3]
 rw [aw1_get.2];refine O.q 3 rfl<|O.opE (.p rfl) (.alloc (cs:=[.int .u8 0,.int .i64 0,.int .i64 0,.string ⟨#[]⟩,.string ⟨#[]⟩,.int .i64 0,.int .i64 0,.int .i64 0,.slice none 0 0,.slice none 0 0,.slice none 0 0,.slice none 0 0,.slice none 0 0,.int .u8 0,.slice none 0 0,.slice none 0 0,.slice none 0 0,.slice none 0 0,.int .i64 0,.int .i64 0,.int .i64 0,.slice none 0 0,.slice none 0 0,.int .i64 0,.int .i64 0,.int .i64 0,.slice none 0 0,.slice none 0 0,.int .i64 0]) zeroValue41 rfl) ?_;rintro _ _ ⟨b5,rfl,rfl⟩;refine O.opU rfl (.storeObj zB rfl rfl rfl rfl zC zO) ?_;refine O.q 1 rfl<|O.nil<|S.seq<|S.region rfl<|O.op (.p rfl) (.build (cs:=[_,_,_,_,_,_,_,_,_,_,_,_,_,_,_,_,_,_,_,_,_,_,_,_,_,_,_,_,_]) underlying41 rfl rfl rfl rfl rfl)<|O.call0 (.p rfl) rfl zB rfl rfl ((fPut_c r3 sz3 hH hK)) ?_;rintro _ _ ⟨a29,c29,rfl,rfl⟩
 try simp only [zx1,zx2,zx3]
 rw [aw3_no];refine O.q 5 rfl<|O.nil<|S.seq<|S.region rfl<|O.q 1 rfl<|O.op (.p rfl) (.eql rfl rfl)<|O.sT 33 rfl zN ?_;refine O.q 2 rfl<|O.opE (.g rfl rfl) (.litP (T:=Rp.u8) (ys:=[1,0,0,0,0,0,0,0,5,0,0,0,0,0,0,0,3]) underlying22 elem5 zE rfl rfl ⟨rfl,rfl,rfl,rfl,rfl,rfl,rfl,rfl,rfl,rfl,rfl,rfl,rfl,rfl,rfl,rfl,rfl,trivial⟩ zE) ?_;rintro _ _ ⟨a36,c36,rfl,rfl⟩;refine O.callB (.g rfl rfl) rfl zB rfl rfl (bs:=[OwnP Rp.u8 5 (.slice a36 17 c36) [1,0,0,0,0,0,0,0,5,0,0,0,0,0,0,0,3]]) zI (fun m hm hd=>SameBytes_c ha11.left (hm.arr.right hd)) ?_;rintro _ _ ⟨rfl,rfl⟩
 try simp only [zx1,zx2,zx3]
 refine O.sT 37 rfl zN ?_;refine O.q 3 rfl<|O.op (.g rfl rfl) (.eql rfl rfl)<|O.sT 41 rfl zN ?_;refine O.q 3 rfl<|O.op (.g rfl rfl) (.len rfl underlying22 rfl)<|O.op (.g rfl rfl) (.eql rfl rfl)<|O.sT 46 rfl zN ?_;refine O.q 3 rfl<|O.ia (.g rfl rfl) underlying22 size5 rfl rfl (show _=(((0):Nat):Int) by omega) (ha16) (h:=fun p50 cs50 hp50 hr50=>?_)
 cases hr50
 refine O.op (.g rfl rfl) (.loadAt flat5 rfl hp50 rfl) ?_;refine O.op (.g rfl rfl) (.eql rfl rfl)<|O.sT 52 rfl zN ?_;refine O.q 3 rfl<|O.ia (.g rfl rfl) underlying22 size5 rfl rfl (show _=(((16):Nat):Int) by omega) (ha16) (h:=fun p56 cs56 hp56 hr56=>?_)
 cases hr56
 refine O.op (.g rfl rfl) (.loadAt flat5 rfl hp56 rfl) ?_;refine O.op (.g rfl rfl) (.eql rfl rfl)<|O.sT 58 rfl zN ?_;refine O.q 3 rfl<|O.op (.g rfl rfl) (.eql rfl rfl)<|O.sT 62 rfl zN ?_;refine O.q 3 rfl<|O.op (.g rfl rfl) (.eql rfl rfl)<|O.sT 66 rfl zN ?_;refine O.q 2 rfl<|O.nil ?_;exact S.rt results8 rfl hR ⟨rfl,rfl⟩
noncomputable def frmOf (b:List UInt8):FrmT:=(frmGot b).getD frmZ
noncomputable def frmGErr (b:List UInt8):Int:=if (frmGot b).isSome=true then 0 else frmGE b
def FrmW (cs:List Value) (f:FrmT):SProp:=fun m=>FrmRp.rel m cs f
theorem frmOf_s {b:List UInt8} {f:FrmT} (h:frmGot b=some f):frmOf b=f∧frmGErr b=0:=by unfold frmOf frmGErr;rw [h];exact ⟨rfl,rfl⟩
theorem frmOf_n {b:List UInt8} (h:frmGot b=none):frmOf b=frmZ∧frmGErr b=frmGE b:=by unfold frmOf frmGErr;rw [h];exact ⟨rfl,rfl⟩
theorem fGetT_c {r:Fr} {va:Value} {bs:List UInt8} (ha:Arr Rp.u8 r va bs) (hbl:bs.length≤1000000000) (hH:At r ⟨0,0,none⟩ (w64s shaH)) (hK:At r ⟨1,0,none⟩ (w64s shaK)):Con prog 10 #[va] r []
  (Ret fun v η=>∃ A:FA,v=.tuple #[.agg (frmV (frmOf bs) A).toArray,.int .i64 (frmGErr bs)]∧η=[FrmW (frmV (frmOf bs) A) (frmOf bs)]):=by
 refine (fGet_c ha hbl hH hK).post fun e η h w g hw=>?_
 cases e with
 |returned v =>
  rcases h with ⟨f,A,e1,rfl,rfl⟩|⟨e1,rfl,rfl⟩
  ·obtain ⟨o1,o2⟩:=frmOf_s e1
   rw [o1,o2];refine ⟨_,⟨A,rfl,rfl⟩,hw.imp fun k hk=>?_⟩;obtain ⟨h1,h2,d,s1,s2,x,y⟩:=hk;exact ⟨h1,h2,d,s1,s2,(FrmG tys).rel x,y⟩
  ·obtain ⟨o1,o2⟩:=frmOf_n e1
   rw [o1,o2];refine ⟨_,⟨fun _=>(none,0),rfl,rfl⟩,hw.imp fun k hk=>?_⟩;exact ⟨Fr.emp,Fr.emp,Fr.emp_disj _,Fr.emp_sub _,Fr.emp_sub _,frmZ_rel,trivial⟩
 |panicked _=>exact h.elim
 |outgrown=>exact h.elim
theorem pick_nat17 (x:Int) {n:Nat} (hn:0<n):∃ k:Nat,pick x n=(k:Int)∧k<n:=by
 have b1:=Int.tmod_lt_of_pos x (show 0<(n:Int) by omega);have b2:=Int.lt_tmod_of_pos x (show 0<(n:Int) by omega);have b3:0≤pick x n∧pick x n<n:=by
  unfold pick;rw [if_neg zD];split<;>omega
 exact ⟨(pick x n).toNat,by omega,by omega⟩
theorem frmGot_some {b:List UInt8} {x:FrmT} (h:frmGot b=some x):frmOk x∧frmB x=b∧FrmSz x:=by
 unfold frmGot at h
 split at h
 ·rename_i hh
  obtain ⟨h1,h2⟩:=(frmGet_iff hh).1 h;refine ⟨h1,h2,?_⟩;unfold frmGet at h;obtain ⟨p,hp,h3⟩:=Option.bind_eq_some_iff.1 h
  split at h3
  ·obtain rfl:=Option.some.inj h3
   exact frmRd_size hh hp
  ·cases h3
 ·cases h
theorem frameBack_c {r:Fr} {cs:List Value} {f:FrmT} {vb:Value} {b:List UInt8} {cut:Int} (hf:FrmRp.rel r cs f) (ho:FrmOk big f) (hb:Arr Rp.u8 r vb b) (hH:At r ⟨0,0,none⟩ (w64s shaH)) (hK:At r ⟨1,0,none⟩ (w64s shaK)) :
  Con prog 7 #[.agg cs.toArray,vb,.int .i64 cut] r [] (Ret fun v η=>v=.bool true∧η=[]):=by
 have hf0:=hf;obtain ⟨a8,a9,a10,a11,a12,a14,a15,a16,a17,a21,a22,a26,a27,c8,c9,c10,c11,c12,c14,c15,c16,c17,c21,c22,c26,c27,rfl,p1,p2,p3,p4,p5,p6,p7,p8,p9,p10,p11,p12,p14,p15,p16,p17,p18,p19,p20,p21,p22,p23,p24,p25,p26,p27,p28⟩:=FrmRp.sh hf0;have hbd:=hb.bound;obtain ⟨ax,cx,rfl⟩:=hb.shape;refine Con.of (n:=128) _ rfl func7 rfl rfl rfl fun g hg R hR=>?_;have hf:=hf.mono hg;have hb:=hb.mono hg;have hH:=hH.mono hg;have hK:=hK.mono hg;refine S.seq<|S.region rfl<|O.opE (.p rfl) (.box (cs:=[_,_,_,_,_,_,_,_,_,_,_,_,_,_,_,_,_,_,_,_,_,_,_,_,_,_,_,_,_]) rfl rfl) ?_;rintro _ _ ⟨b3,rfl,rfl⟩;refine O.q 1 rfl<|O.nil<|S.seq<|S.seq<|S.frzO zC fun g hs hm hb3=>?_;replace hg:=Fr.sub_trans hg hs;replace hR:=melted hR hm
 try replace hf:=hf.mono hs
 try replace hb:=hb.mono hs
 try replace hH:=hH.mono hs
 try replace hK:=hK.mono hs
 clear hs hm;refine S.region rfl<|O.call0 (.p rfl) rfl zB rfl rfl ((awake_c hH hK)) ?_;rintro _ _ ⟨rfl,rfl⟩
 try simp only [zx1,zx2,zx3]
 refine O.sT 19 rfl (by first|decide|simp) ?_;refine O.op (.p rfl) (.not rfl)<|O.nil<|S.condF rfl<|S.skip<|S.seq<|S.seq<|S.region rfl<|O.op (.p rfl) (.loadAgg isAgg41 zB rfl hb3) ?_;refine O.call0 (.p rfl) rfl zB rfl rfl ((frameOf_c hf ho)) ?_;rintro v22 _ ⟨n,rfl,hn,rfl⟩
 try simp only [zx1,zx2,zx3]
 refine O.op (.p rfl) (.gtr rfl rfl)<|O.q 1 rfl ?_
 first|refine O.caseD 24 rfl (fun h24=>?_) (fun h24=>?_)|refine O.caseB 24 rfl (fun h24=>?_) (fun h24=>?_)
 ·refine O.q 4 rfl<|O.nil<|S.condT rfl<|S.seq<|S.region rfl<|O.q 1 rfl<|O.nil ?_
  exact S.rt results7 rfl hR ⟨rfl,rfl⟩
 ·have hc:=hn zD
  have hsz:=hc.sz;refine O.q 1 rfl<|O.op (.g rfl rfl) (.len rfl underlying22 rfl)<|O.op (.g rfl rfl) (.gtr rfl rfl)<|O.q 1 rfl<|O.nil ?_
  first|refine S.condD rfl (fun h28=>?_) (fun h28=>?_)|refine S.condB rfl (fun h28=>?_) (fun h28=>?_)
  ·refine S.seq<|S.region rfl<|O.q 1 rfl<|O.nil ?_
   exact S.rt results7 rfl hR ⟨rfl,rfl⟩
  ·have hsm:b.length≤40000:=by omega
   refine S.skip<|S.seq<|S.region rfl<|O.q 1 rfl<|O.call0 (.p rfl) rfl zB rfl rfl ((fGetT_c hb zD hH hK)) ?_;rintro _ _ ⟨A,rfl,rfl⟩
   try simp only [zx1,zx2,zx3]
   refine O.q 3 rfl<|O.opE (.p rfl) (.alloc (cs:=[.int .u8 0,.int .i64 0,.int .i64 0,.string ⟨#[]⟩,.string ⟨#[]⟩,.int .i64 0,.int .i64 0,.int .i64 0,.slice none 0 0,.slice none 0 0,.slice none 0 0,.slice none 0 0,.slice none 0 0,.int .u8 0,.slice none 0 0,.slice none 0 0,.slice none 0 0,.slice none 0 0,.int .i64 0,.int .i64 0,.int .i64 0,.slice none 0 0,.slice none 0 0,.int .i64 0,.int .i64 0,.int .i64 0,.slice none 0 0,.slice none 0 0,.int .i64 0]) zeroValue41 rfl) ?_;rintro _ _ ⟨b7,rfl,rfl⟩;refine O.opU rfl (.storeObj zB rfl rfl rfl rfl zC zO) ?_
   refine O.q 1 rfl<|O.nil<|S.seq<|S.seq<|S.objIs (b:=b7) (cs' :=[byteV (frmOf b).1,.int .i64 (frmOf b).2.1,.int .i64 (frmOf b).2.2.1,.string (str (frmOf b).2.2.2.1),.string (str (frmOf b).2.2.2.2.1),.int .i64 (frmOf b).2.2.2.2.2.1.1,.int .i64 (frmOf b).2.2.2.2.2.1.2.1,.int .i64 (frmOf b).2.2.2.2.2.1.2.2.1,.slice (A 8).1 (frmOf b).2.2.2.2.2.1.2.2.2.1.length (A 8).2,.slice (A 9).1 (frmOf b).2.2.2.2.2.1.2.2.2.2.1.length (A 9).2,.slice (A 10).1 (frmOf b).2.2.2.2.2.2.1.length (A 10).2,.slice (A 11).1 (frmOf b).2.2.2.2.2.2.2.1.1.length (A 11).2,.slice (A 12).1 (frmOf b).2.2.2.2.2.2.2.1.2.1.length (A 12).2,byteV (frmOf b).2.2.2.2.2.2.2.2.1.1,.slice (A 14).1 (frmOf b).2.2.2.2.2.2.2.2.1.2.1.length (A 14).2,.slice (A 15).1 (frmOf b).2.2.2.2.2.2.2.2.1.2.2.1.length (A 15).2,.slice (A 16).1 (frmOf b).2.2.2.2.2.2.2.2.1.2.2.2.1.length (A 16).2,.slice (A 17).1 (frmOf b).2.2.2.2.2.2.2.2.2.1.length (A 17).2,.int .i64 (frmOf b).2.2.2.2.2.2.2.2.2.2.1.1.1,.int .i64 (frmOf b).2.2.2.2.2.2.2.2.2.2.1.1.2.1,.int .i64 (frmOf b).2.2.2.2.2.2.2.2.2.2.1.1.2.2.1,.slice (A 21).1 (frmOf b).2.2.2.2.2.2.2.2.2.2.1.1.2.2.2.1.length (A 21).2,.slice (A 22).1 (frmOf b).2.2.2.2.2.2.2.2.2.2.1.1.2.2.2.2.1.length (A 22).2,.int .i64 (frmOf b).2.2.2.2.2.2.2.2.2.2.1.2.1.1,.int .i64 (frmOf b).2.2.2.2.2.2.2.2.2.2.1.2.1.2.1,.int .i64 (frmOf b).2.2.2.2.2.2.2.2.2.2.1.2.1.2.2.1,.slice (A 26).1 (frmOf b).2.2.2.2.2.2.2.2.2.2.1.2.1.2.2.2.1.length (A 26).2,.slice (A 27).1 (frmOf b).2.2.2.2.2.2.2.2.2.2.1.2.1.2.2.2.2.1.length (A 27).2,.int .i64 (frmOf b).2.2.2.2.2.2.2.2.2.2.2.1]) zC rfl ?_
   refine S.frzO zC fun g hs hm h7=>?_;replace hg:=Fr.sub_trans hg hs;replace hR:=melted hR hm
   try replace hf:=hf.mono hs
   try replace hb:=hb.mono hs
   try replace hH:=hH.mono hs
   try replace hK:=hK.mono hs
   try replace hb3:=hb3.mono hs
   clear hs hm;refine S.frz (A:=FrmW (frmV (frmOf b) A) (frmOf b)) zC fun g hs hm ⟨_,x',s'⟩=>?_;have f7:=(fun s x=>FrmRp.mono s x) s' x';clear x' s';replace hg:=Fr.sub_trans hg hs;replace hR:=melted hR hm
   try replace hf:=hf.mono hs
   try replace hb:=hb.mono hs
   try replace hH:=hH.mono hs
   try replace hK:=hK.mono hs
   try replace hb3:=hb3.mono hs
   try replace h7:=h7.mono hs
   clear hs hm;refine S.cut2 (fun (u:Unit)=>True) (fun (u:Unit)=>[]) [(1,_),(2,_),(3,_)] (fun (u:Unit)=>[]) (.cons rfl (.cons rfl (.cons rfl (.nil)))) (fun key=>?_) (fun u hx=>?_)
   ·have hm1:=meltRefl (g:=g)
    cases eg:frmGot b with
    |some x =>
     obtain ⟨gx1,gx2,gx3⟩:=frmGot_some eg;obtain ⟨o1,r1⟩:=frmOf_s eg;rw [← o1] at gx1 gx2 gx3;have ge:frmErr (frmOf b)=0:=frmErr_0.2 ⟨gx1,by rw [gx2];omega⟩;have gou:frmOut (frmOf b)=b:=by rw [frmOut_0 ge,gx2]
     rw [r1];refine S.region rfl<|O.q 1 rfl<|O.op (.p rfl) (.eql rfl rfl)<|O.sT 35 rfl zE ?_;refine O.nil<|S.condT rfl<|S.seq<|S.region rfl<|O.op (.p rfl) (.loadAgg isAgg41 zB rfl h7) ?_;refine O.call0 (.p rfl) rfl zB rfl rfl ((fPut_c f7 gx3 hH hK)) ?_;rintro _ _ ⟨a38,c38,rfl,rfl⟩
     try simp only [zx1,zx2,zx3]
     rw [gou,ge];refine O.frzA zC fun g hs hm ha38=>?_;replace hg:=Fr.sub_trans hg hs;replace hR:=melted hR hm
     try replace hf:=hf.mono hs
     try replace hb:=hb.mono hs
     try replace hH:=hH.mono hs
     try replace hK:=hK.mono hs
     try replace hb3:=hb3.mono hs
     try replace h7:=h7.mono hs
     try replace f7:=f7.mono hs
     try replace f7:=f7.mono hs
     replace hm1:=meltTrans hm1 hm;clear hs hm;refine O.q 5 rfl<|O.nil<|S.seq<|S.region rfl<|O.q 1 rfl<|O.op (.p rfl) (.neq rfl rfl)<|O.sF 42 rfl zE ?_;refine O.q 1 rfl<|O.op (.g rfl rfl) (.loadAgg isAgg41 zB rfl h7) ?_;refine O.call0 (.g rfl rfl) rfl zB rfl rfl ((fRight_c f7 gx3 hH hK)) ?_;rintro _ _ ⟨rfl,rfl⟩
     try simp only [zx1,zx2,zx3]
     refine O.sT 45 rfl (by exact decide_eq_true ge) ?_;refine O.op (.g rfl rfl) (.not rfl)<|O.q 4 rfl<|O.call0 (.g rfl rfl) rfl zB rfl rfl ((SameBytes_c hb ha38)) ?_;rintro _ _ ⟨rfl,rfl⟩
     try simp only [zx1,zx2,zx3]
     refine O.sT 51 rfl zG ?_;refine O.op (.g rfl rfl) (.not rfl)<|O.q 1 rfl<|O.nil<|S.condF rfl<|S.skip<|S.pk ?_ (S.melt hm1 (S.weaken ?_ (key (()) (by trivial))))
     ·repeat (first|exact zpa|exact zpn|(apply zpc;focus (repeat (first|exact zh|apply zt)))|apply zps)
     repeat (first|exact Sub.nil|refine Sub.cons rfl ?_)
    |none =>
     obtain ⟨o1,r1⟩:=frmOf_n eg;have e2:frmGE b=4:=by unfold frmGE;rw [if_pos zD]
     rw [r1,e2];refine S.region rfl<|O.q 1 rfl<|O.op (.p rfl) (.eql rfl rfl)<|O.sF 35 rfl zE ?_;refine O.nil<|S.condF rfl<|S.seq<|S.region rfl<|O.q 1 rfl<|O.op (.p rfl) (.neq rfl rfl)<|O.sF 55 rfl zE ?_;refine O.q 1 rfl<|O.op (.g rfl rfl) (.loadAgg isAgg41 zB rfl h7) ?_;refine O.op (.g rfl rfl) (.build (cs:=[_,_,_,_,_,_,_,_,_,_,_,_,_,_,_,_,_,_,_,_,_,_,_,_,_,_,_,_,_]) underlying41 rfl rfl rfl rfl rfl)<|O.call0 (.g rfl rfl) rfl zB rfl rfl ((sameFrame_c (y:=frmZ) f7 frmZ_rel)) ?_;rintro _ _ ⟨rfl,rfl⟩
     try simp only [zx1,zx2,zx3]
     refine O.sT 59 rfl (by (rw [o1];exact decide_eq_true rfl)) ?_;refine O.op (.g rfl rfl) (.not rfl)<|O.q 1 rfl<|O.nil<|S.condF rfl<|S.skip<|S.pk ?_ (S.weaken ?_ (key (()) (by trivial)))
     ·repeat (first|exact zpa|exact zpn|(apply zpc;focus (repeat (first|exact zh|apply zt)))|apply zps)
     repeat (first|exact Sub.nil|refine Sub.cons rfl ?_)
   ·
    by_cases ew:frmErr f=0
    ·obtain ⟨fk,fl⟩:=frmErr_0.1 ew
     have fo:=frmOut_0 ew;have hp0:0<(frmB f).length:=by rw [frmB_length];omega
     obtain ⟨k,hk1,hk2⟩:=pick_nat17 cut hp0;have g1:frmGot (frmB f)=some f:=by unfold frmGot;rw [if_pos fl];exact frmGet_self fk fl
     have g2:frmGot ((frmB f).take k)=none:=by unfold frmGot;rw [if_pos (by rw [List.length_take];omega)];exact frmGet_cut fk fl hk2
     have g2e:frmGE ((frmB f).take k)=4:=by unfold frmGE;rw [if_pos (by rw [List.length_take];omega)]
     have g3:b.length≠0→frmGot (frmB f++b)=none:=fun q=>by
      unfold frmGot
      split
      ·rename_i hh;exact frmGet_more fk hh fun w=>q (by rw [w];rfl)
      ·rfl
     have g3e:frmGE (frmB f++b)=4∨frmGE (frmB f++b)=3:=by unfold frmGE;split<;>simp
     have hla:(frmB f++b).length≤1000000000:=by rw [List.length_append];omega
     have hlt:((frmB f).take k).length≤1000000000:=by rw [List.length_take];omega
     generalize hpp:frmB f=p at *;obtain ⟨o1,r1⟩:=frmOf_s g1;obtain ⟨o2,r2⟩:=frmOf_n g2;rw [g2e] at r2;refine S.seq<|S.region rfl<|O.op (.p rfl) (.loadAgg isAgg41 zB rfl hb3) ?_;refine O.call0 (.p rfl) rfl zB rfl rfl ((fPut_c hf hsz hH hK)) ?_;rintro _ _ ⟨a64,c64,rfl,rfl⟩
     try simp only [zx1,zx2,zx3]
     rw [fo,ew];refine O.frzA zC fun g hs hm ha64=>?_;replace hg:=Fr.sub_trans hg hs;replace hR:=melted hR hm
     try replace hf:=hf.mono hs
     try replace hb:=hb.mono hs
     try replace hH:=hH.mono hs
     try replace hK:=hK.mono hs
     try replace hb3:=hb3.mono hs
     try replace h7:=h7.mono hs
     try replace f7:=f7.mono hs
     try replace f7:=f7.mono hs
     clear hs hm;refine O.q 5 rfl<|O.nil<|S.seq<|S.seq<|S.region rfl<|O.q 1 rfl<|O.op (.p rfl) (.eql rfl rfl)<|O.sT 68 rfl zE ?_;refine O.op (.p rfl) (.loadAgg isAgg41 zB rfl hb3) ?_;refine O.call0 (.p rfl) rfl zB rfl rfl ((fRight_c hf hsz hH hK)) ?_;rintro _ _ ⟨rfl,rfl⟩
     try simp only [zx1,zx2,zx3]
     refine O.sT 70 rfl (by exact decide_eq_true ew) ?_;refine O.op (.p rfl) (.neqB underlying4 rfl rfl)<|O.sF 71 rfl zE ?_;refine O.nil<|S.condF rfl<|S.skip<|S.seq<|S.seq<|S.region rfl<|O.q 1 rfl<|O.op (.p rfl) (.neq rfl rfl)<|O.sF 73 rfl zE ?_;refine O.nil<|S.condF rfl<|S.skip<|S.seq<|S.region rfl<|O.q 1 rfl<|O.call0 (.p rfl) rfl zB rfl rfl ((fGetT_c ha64 zD hH hK)) ?_;rintro _ _ ⟨A1,rfl,rfl⟩
     try simp only [zx1,zx2,zx3]
     rw [o1,r1];refine O.q 3 rfl<|O.opE (.p rfl) (.alloc (cs:=[.int .u8 0,.int .i64 0,.int .i64 0,.string ⟨#[]⟩,.string ⟨#[]⟩,.int .i64 0,.int .i64 0,.int .i64 0,.slice none 0 0,.slice none 0 0,.slice none 0 0,.slice none 0 0,.slice none 0 0,.int .u8 0,.slice none 0 0,.slice none 0 0,.slice none 0 0,.slice none 0 0,.int .i64 0,.int .i64 0,.int .i64 0,.slice none 0 0,.slice none 0 0,.int .i64 0,.int .i64 0,.int .i64 0,.slice none 0 0,.slice none 0 0,.int .i64 0]) zeroValue41 rfl) ?_;rintro _ _ ⟨b13,rfl,rfl⟩;refine O.opU rfl (.storeObj zB rfl rfl rfl rfl zC zO) ?_
     refine O.q 1 rfl<|O.nil<|S.seq<|S.objIs (b:=b13) (cs' :=[byteV f.1,.int .i64 f.2.1,.int .i64 f.2.2.1,.string (str f.2.2.2.1),.string (str f.2.2.2.2.1),.int .i64 f.2.2.2.2.2.1.1,.int .i64 f.2.2.2.2.2.1.2.1,.int .i64 f.2.2.2.2.2.1.2.2.1,.slice (A1 8).1 f.2.2.2.2.2.1.2.2.2.1.length (A1 8).2,.slice (A1 9).1 f.2.2.2.2.2.1.2.2.2.2.1.length (A1 9).2,.slice (A1 10).1 f.2.2.2.2.2.2.1.length (A1 10).2,.slice (A1 11).1 f.2.2.2.2.2.2.2.1.1.length (A1 11).2,.slice (A1 12).1 f.2.2.2.2.2.2.2.1.2.1.length (A1 12).2,byteV f.2.2.2.2.2.2.2.2.1.1,.slice (A1 14).1 f.2.2.2.2.2.2.2.2.1.2.1.length (A1 14).2,.slice (A1 15).1 f.2.2.2.2.2.2.2.2.1.2.2.1.length (A1 15).2,.slice (A1 16).1 f.2.2.2.2.2.2.2.2.1.2.2.2.1.length (A1 16).2,.slice (A1 17).1 f.2.2.2.2.2.2.2.2.2.1.length (A1 17).2,.int .i64 f.2.2.2.2.2.2.2.2.2.2.1.1.1,.int .i64 f.2.2.2.2.2.2.2.2.2.2.1.1.2.1,.int .i64 f.2.2.2.2.2.2.2.2.2.2.1.1.2.2.1,.slice (A1 21).1 f.2.2.2.2.2.2.2.2.2.2.1.1.2.2.2.1.length (A1 21).2,.slice (A1 22).1 f.2.2.2.2.2.2.2.2.2.2.1.1.2.2.2.2.1.length (A1 22).2,.int .i64 f.2.2.2.2.2.2.2.2.2.2.1.2.1.1,.int .i64 f.2.2.2.2.2.2.2.2.2.2.1.2.1.2.1,.int .i64 f.2.2.2.2.2.2.2.2.2.2.1.2.1.2.2.1,.slice (A1 26).1 f.2.2.2.2.2.2.2.2.2.2.1.2.1.2.2.2.1.length (A1 26).2,.slice (A1 27).1 f.2.2.2.2.2.2.2.2.2.2.1.2.1.2.2.2.2.1.length (A1 27).2,.int .i64 f.2.2.2.2.2.2.2.2.2.2.2.1]) zC rfl ?_;refine S.frzO zC fun g hs hm h13=>?_;replace hg:=Fr.sub_trans hg hs;replace hR:=melted hR hm
     try replace hf:=hf.mono hs
     try replace hb:=hb.mono hs
     try replace hH:=hH.mono hs
     try replace hK:=hK.mono hs
     try replace hb3:=hb3.mono hs
     try replace h7:=h7.mono hs
     try replace f7:=f7.mono hs
     try replace f7:=f7.mono hs
     try replace ha64:=ha64.mono hs
     clear hs hm;refine S.frz (A:=FrmW (frmV f A1) f) zC fun g hs hm ⟨_,x',s'⟩=>?_;have f13:=(fun s x=>FrmRp.mono s x) s' x';clear x' s';replace hg:=Fr.sub_trans hg hs;replace hR:=melted hR hm
     try replace hf:=hf.mono hs
     try replace hb:=hb.mono hs
     try replace hH:=hH.mono hs
     try replace hK:=hK.mono hs
     try replace hb3:=hb3.mono hs
     try replace h7:=h7.mono hs
     try replace f7:=f7.mono hs
     try replace f7:=f7.mono hs
     try replace ha64:=ha64.mono hs
     try replace h13:=h13.mono hs
     clear hs hm;refine S.region rfl<|O.q 3 rfl<|O.op (.p rfl) (.len rfl underlying22 rfl)<|O.call0 (.p rfl) rfl zB rfl rfl (Pick_c _ _ (by first|assumption|(constructor<;>omega))) ?_;rintro _ _ ⟨rfl,rfl⟩
     try simp only [zx1,zx2,zx3]
     refine O.slot 95 (v' :=.int .i64 (k:Int)) rfl (by (rw [hk1])) ?_;refine O.sliceTo (b:=k) (.p rfl) underlying22 size5 rfl rfl zF zH zH (fun u96 ha96=>?_);obtain ⟨a96,c96,rfl⟩:=ha96.shape;refine O.call0 (.p rfl) rfl zB rfl rfl ((fGetT_c (bs:=p.take k) (by first|assumption|exact Arr.mono hg zF|exact Arr.left zF|exact Arr.left (Arr.mono hg zF)) hlt hH hK)) ?_;rintro _ _ ⟨A2,rfl,rfl⟩
     try simp only [zx1,zx2,zx3]
     rw [r2];refine O.q 3 rfl<|O.opE (.p rfl) (.alloc (cs:=[.int .u8 0,.int .i64 0,.int .i64 0,.string ⟨#[]⟩,.string ⟨#[]⟩,.int .i64 0,.int .i64 0,.int .i64 0,.slice none 0 0,.slice none 0 0,.slice none 0 0,.slice none 0 0,.slice none 0 0,.int .u8 0,.slice none 0 0,.slice none 0 0,.slice none 0 0,.slice none 0 0,.int .i64 0,.int .i64 0,.int .i64 0,.slice none 0 0,.slice none 0 0,.int .i64 0,.int .i64 0,.int .i64 0,.slice none 0 0,.slice none 0 0,.int .i64 0]) zeroValue41 rfl) ?_;rintro _ _ ⟨b15,rfl,rfl⟩;refine O.opU rfl (.storeObj zB rfl rfl rfl rfl zC zO) ?_;refine O.q 1 rfl<|O.nil<|S.seq<|S.region rfl<|O.q 1 rfl<|O.call0 (.p rfl) rfl zB rfl rfl (CopyBytes_c (by first|assumption|exact Arr.mono hg zF|exact Arr.left zF|exact Arr.left (Arr.mono hg zF)) zH) ?_;rintro _ _ ⟨a102,c102,rfl,rfl⟩
     try simp only [zx1,zx2,zx3]
     refine O.q 1 rfl<|O.opE (.p rfl) (.appendP (T:=Rp.u8) pure_u8 underlying22 elem5 zE rfl rfl zC (by first|assumption|exact Arr.mono hg zF|exact Arr.left zF|exact Arr.left (Arr.mono hg zF)) zH zH) ?_;rintro _ _ ⟨a104,c104,rfl,rfl⟩;refine O.frzA zC fun g hs hm ha104=>?_;replace hg:=Fr.sub_trans hg hs;replace hR:=melted hR hm
     try replace hf:=hf.mono hs
     try replace hb:=hb.mono hs
     try replace hH:=hH.mono hs
     try replace hK:=hK.mono hs
     try replace hb3:=hb3.mono hs
     try replace h7:=h7.mono hs
     try replace f7:=f7.mono hs
     try replace f7:=f7.mono hs
     try replace ha64:=ha64.mono hs
     try replace h13:=h13.mono hs
     try replace f13:=f13.mono hs
     try replace f13:=f13.mono hs
     try replace ha96:=ha96.mono hs
     clear hs hm;refine O.call0 (.p rfl) rfl zB rfl rfl ((fGetT_c (bs:=p++b) ha104 hla hH hK)) ?_;rintro _ _ ⟨A3,rfl,rfl⟩
     try simp only [zx1,zx2,zx3]
     refine O.q 3 rfl<|O.opE (.p rfl) (.alloc (cs:=[.int .u8 0,.int .i64 0,.int .i64 0,.string ⟨#[]⟩,.string ⟨#[]⟩,.int .i64 0,.int .i64 0,.int .i64 0,.slice none 0 0,.slice none 0 0,.slice none 0 0,.slice none 0 0,.slice none 0 0,.int .u8 0,.slice none 0 0,.slice none 0 0,.slice none 0 0,.slice none 0 0,.int .i64 0,.int .i64 0,.int .i64 0,.slice none 0 0,.slice none 0 0,.int .i64 0,.int .i64 0,.int .i64 0,.slice none 0 0,.slice none 0 0,.int .i64 0]) zeroValue41 rfl) ?_;rintro _ _ ⟨b17,rfl,rfl⟩;refine O.opU rfl (.storeObj zB rfl rfl rfl rfl zC zO) ?_;refine O.q 1 rfl<|O.nil (S.seq ?_)
     by_cases h0:b.length=0
     ·
      refine S.region rfl<|O.q 1 rfl<|O.op (.p rfl) (.eql rfl rfl)<|O.sT 109 rfl zE ?_;refine O.q 1 rfl<|O.op (.g rfl rfl) (.loadAgg isAgg41 zB rfl h13) ?_;refine O.op (.g rfl rfl) (.loadAgg isAgg41 zB rfl hb3) ?_;refine O.call0 (.g rfl rfl) rfl zB rfl rfl ((sameFrame_c f13 hf)) ?_;rintro _ _ ⟨rfl,rfl⟩
      try simp only [zx1,zx2,zx3]
      refine O.sT 113 rfl zG ?_;refine O.q 3 rfl<|O.op (.g rfl rfl) (.eql rfl rfl)<|O.sT 117 rfl zE ?_;refine O.q 3 rfl<|O.op (.g rfl rfl) (.len rfl underlying22 rfl)<|O.op (.g rfl rfl) (.eql rfl rfl)<|O.sT 122 rfl (by simp [h0]) ?_;refine O.q 6 rfl<|O.nil ?_;exact S.rt results7 rfl hR ⟨rfl,rfl⟩
     ·have r3:=(frmOf_n (g3 h0)).2
      have g5:frmGErr (p++b)≠0:=by rw [r3];rcases g3e with h|h<;>rw [h]<;>decide
      refine S.region rfl<|O.q 1 rfl<|O.op (.p rfl) (.eql rfl rfl)<|O.sT 109 rfl zE ?_;refine O.q 1 rfl<|O.op (.g rfl rfl) (.loadAgg isAgg41 zB rfl h13) ?_;refine O.op (.g rfl rfl) (.loadAgg isAgg41 zB rfl hb3) ?_;refine O.call0 (.g rfl rfl) rfl zB rfl rfl ((sameFrame_c f13 hf)) ?_;rintro _ _ ⟨rfl,rfl⟩
      try simp only [zx1,zx2,zx3]
      refine O.sT 113 rfl zG ?_;refine O.q 3 rfl<|O.op (.g rfl rfl) (.eql rfl rfl)<|O.sT 117 rfl zE ?_;refine O.q 3 rfl<|O.op (.g rfl rfl) (.len rfl underlying22 rfl)<|O.op (.g rfl rfl) (.eql rfl rfl)<|O.sF 122 rfl (by simp [h0]) ?_;refine O.q 2 rfl<|O.op (.g rfl rfl) (.neq rfl rfl)<|O.sT 125 rfl (by simp [g5]) ?_;refine O.q 3 rfl<|O.nil ?_;exact S.rt results7 rfl hR ⟨rfl,rfl⟩
    ·obtain ⟨w1,w2⟩:=frmErr_n ew
     rcases w2 with w2|w2
     ·
      refine S.seq<|S.region rfl<|O.op (.p rfl) (.loadAgg isAgg41 zB rfl hb3) ?_;refine O.call0 (.p rfl) rfl zB rfl rfl ((fPut_c hf hsz hH hK)) ?_;rintro _ _ ⟨a64,c64,rfl,rfl⟩
      try simp only [zx1,zx2,zx3]
      rw [w1,w2];refine O.q 5 rfl<|O.nil<|S.seq<|S.seq<|S.region rfl<|O.q 1 rfl<|O.op (.p rfl) (.eql rfl rfl)<|O.sF 68 rfl zE ?_;refine O.op (.p rfl) (.loadAgg isAgg41 zB rfl hb3) ?_;refine O.call0 (.p rfl) rfl zB rfl rfl ((fRight_c hf hsz hH hK)) ?_;rintro _ _ ⟨rfl,rfl⟩
      try simp only [zx1,zx2,zx3]
      refine O.sF 70 rfl (by (rw [w2];rfl)) ?_;refine O.op (.p rfl) (.neqB underlying4 rfl rfl)<|O.sF 71 rfl zE ?_;refine O.nil<|S.condF rfl<|S.skip<|S.seq<|S.seq<|S.region rfl<|O.q 1 rfl<|O.op (.p rfl) (.neq rfl rfl)<|O.sT 73 rfl zE ?_;refine O.nil<|S.condT rfl<|S.seq<|S.region rfl<|O.q 1 rfl<|O.op (.p rfl) (.len rfl underlying22 rfl)<|O.op (.p rfl) (.eql rfl rfl)<|O.sT 76 rfl zE ?_;refine O.q 2 rfl<|O.op (.g rfl rfl) (.eql rfl rfl)<|O.sT 79 rfl zE ?_;refine O.q 6 rfl<|O.nil ?_;exact S.rt results7 rfl hR ⟨rfl,rfl⟩
     ·
      refine S.seq<|S.region rfl<|O.op (.p rfl) (.loadAgg isAgg41 zB rfl hb3) ?_;refine O.call0 (.p rfl) rfl zB rfl rfl ((fPut_c hf hsz hH hK)) ?_;rintro _ _ ⟨a64,c64,rfl,rfl⟩
      try simp only [zx1,zx2,zx3]
      rw [w1,w2];refine O.q 5 rfl<|O.nil<|S.seq<|S.seq<|S.region rfl<|O.q 1 rfl<|O.op (.p rfl) (.eql rfl rfl)<|O.sF 68 rfl zE ?_;refine O.op (.p rfl) (.loadAgg isAgg41 zB rfl hb3) ?_;refine O.call0 (.p rfl) rfl zB rfl rfl ((fRight_c hf hsz hH hK)) ?_;rintro _ _ ⟨rfl,rfl⟩
      try simp only [zx1,zx2,zx3]
      refine O.sF 70 rfl (by (rw [w2];rfl)) ?_;refine O.op (.p rfl) (.neqB underlying4 rfl rfl)<|O.sF 71 rfl zE ?_;refine O.nil<|S.condF rfl<|S.skip<|S.seq<|S.seq<|S.region rfl<|O.q 1 rfl<|O.op (.p rfl) (.neq rfl rfl)<|O.sT 73 rfl zE ?_;refine O.nil<|S.condT rfl<|S.seq<|S.region rfl<|O.q 1 rfl<|O.op (.p rfl) (.len rfl underlying22 rfl)<|O.op (.p rfl) (.eql rfl rfl)<|O.sT 76 rfl zE ?_;refine O.q 2 rfl<|O.op (.g rfl rfl) (.eql rfl rfl)<|O.sF 79 rfl zE ?_;refine O.q 2 rfl<|O.op (.g rfl rfl) (.eql rfl rfl)<|O.sT 82 rfl zE ?_;refine O.q 3 rfl<|O.nil ?_;exact S.rt results7 rfl hR ⟨rfl,rfl⟩
end Go.Proofs.YtdjoggpacmpfnaaGreatDoor
