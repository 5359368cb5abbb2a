/- Texts of this proof. -/
import Derived.Test.YtodhbhanmdfdeaaGreatQSlaw8
open Go Go.Sp Go.Proofs.Tryz
set_option maxRecDepth 100000
set_option maxHeartbeats 1000000
attribute [local irreducible] obj Own OwnP
namespace Go.Proofs.YtodhbhanmdfdeaaGreat
def TameP (l:List RecT) (i k:Nat):Prop:=∀ (hi:i<l.length) (hk:k<l.length),(cmpR l[i] l[k]=0→l[i]=l[k])∧(over l[i] l[k]=true→over l[k] l[i]=false)∧∀ n (hn:n<l.length),over l[i] l[k]=true→over l[k] l[n]=true→over l[i] l[n]=true
theorem tame_of {l:List RecT} (h:∀ i k,i<l.length→k<l.length→TameP l i k):Tame l:=by
 refine ⟨fun x hx y hy=>?_,fun x hx y hy=>?_,fun x hx y hy z hz=>?_⟩
 ·obtain ⟨i,hi,rfl⟩:=List.mem_iff_getElem.1 hx
  obtain ⟨k,hk,rfl⟩:=List.mem_iff_getElem.1 hy;exact (h i k hi hk hi hk).1
 ·obtain ⟨i,hi,rfl⟩:=List.mem_iff_getElem.1 hx
  obtain ⟨k,hk,rfl⟩:=List.mem_iff_getElem.1 hy;exact (h i k hi hk hi hk).2.1
 ·obtain ⟨i,hi,rfl⟩:=List.mem_iff_getElem.1 hx
  obtain ⟨k,hk,rfl⟩:=List.mem_iff_getElem.1 hy;obtain ⟨n,hn,rfl⟩:=List.mem_iff_getElem.1 hz;exact (h i k hi hk hi hk).2.2 n hn
theorem lt_step {p:Nat→Prop} {k:Nat} (h:∀ a,a<k→p a) (hk:p k):∀ a,a<k+1→p a:=fun a ha=>(Nat.lt_or_eq_of_le (Nat.le_of_lt_succ ha)).elim (h a) (fun e=>by rw [e];exact hk)
theorem steps_ex {xs ys zs:List RecT} (h:oneK (xs++ys++zs)=true):∃ L,joinO [xs,ys,zs].flatten=L∧joinE [xs,ys,zs].flatten=0∧joinO [zs,ys,xs].flatten=L∧joinE [zs,ys,xs].flatten=0∧SRight L∧L.length≤(xs++ys++zs).length ∧
  (Tame (xs++ys++zs)→∃ p q,joinO [xs,ys].flatten=p∧joinE [xs,ys].flatten=0∧joinO [zs,ys].flatten=q∧joinE [zs,ys].flatten=0∧p.length≤(xs++ys++zs).length∧q.length≤(xs++ys++zs).length ∧
   joinO [p,zs].flatten=L∧joinE [p,zs].flatten=0∧joinO [xs,q].flatten=L∧joinE [xs,q].flatten=0∧joinO [L,xs++ys++zs].flatten=L∧joinE [L,xs++ys++zs].flatten=0∧∀ x∈xs++ys++zs,∃ z∈L,z=x∨over z x=true):=by
 have f2:∀ a b:List RecT,[a,b].flatten=a++b:=fun a b=>by simp
 have f3:∀ a b c:List RecT,[a,b,c].flatten=a++b++c:=fun a b c=>by simp
 simp only [f2,f3];have hok:=oneK_all h;have sub:∀ {m:List RecT},(∀ x∈m,x∈xs++ys++zs)→oneK m=true:=fun q=>oneK_of h q;have m3:∀ x:RecT,x∈zs++ys++xs↔x∈xs++ys++zs:=fun x=>by simp only [List.mem_append];exact ⟨fun q=>by rcases q with (q|q)|q<;>simp [q],fun q=>by rcases q with (q|q)|q<;>simp [q]⟩
 have o1:=jGetY h;have o2:=jGetY (sub fun x hx=>(m3 x).1 hx);have c2:joinL (zs++ys++xs)=joinL (xs++ys++zs):=joinL_congr (fun x hx=>hok x ((m3 x).1 hx)) m3;refine ⟨joinL (xs++ys++zs),o1.1,o1.2,by rw [o2.1,c2],o2.2,joinL_right h,joinL_le _,fun ht=>?_⟩;have sxy:∀ x∈xs++ys,x∈xs++ys++zs:=fun x hx=>List.mem_append_left _ hx;have szy:∀ x∈zs++ys,x∈xs++ys++zs:=fun x hx=>(m3 x).1 (List.mem_append_left _ hx);have oxy:=jGetY (sub sxy);have ozy:=jGetY (sub szy);have pxy:∀ x∈joinL (xs++ys),x∈xs++ys++zs:=fun x hx=>sxy x (joinL_sub (fun y hy=>hok y (sxy y hy)) x hx);have pzy:∀ x∈joinL (zs++ys),x∈xs++ys++zs:=fun x hx=>szy x (joinL_sub (fun y hy=>hok y (szy y hy)) x hx);have pl:∀ x∈joinL (xs++ys++zs),x∈xs++ys++zs:=joinL_sub hok;have s1:∀ x∈joinL (xs++ys)++zs,x∈xs++ys++zs:=fun x hx=>(List.mem_append.1 hx).elim (pxy x) (fun q=>List.mem_append_right _ q);have s2:∀ x∈joinL (zs++ys)++xs,x∈xs++ys++zs:=fun x hx=>(List.mem_append.1 hx).elim (pzy x) (fun q=>List.mem_append_left _ (List.mem_append_left _ q));have s2' :∀ x:RecT,x∈xs++joinL (zs++ys)↔x∈joinL (zs++ys)++xs:=fun x=>by simp only [List.mem_append];exact or_comm
 have s3:∀ x∈joinL (xs++ys++zs)++(xs++ys++zs),x∈xs++ys++zs:=fun x hx=>(List.mem_append.1 hx).elim (pl x) id;have t1:=jGetY (sub s1);have t2:=jGetY (sub fun x hx=>s2 x ((s2' x).1 hx));have t3:=jGetY (sub s3);have e1:joinL (joinL (xs++ys)++zs)=joinL (xs++ys++zs):=joinL_step ht hok;have e2:joinL (xs++joinL (zs++ys))=joinL (xs++ys++zs):=by
  rw [joinL_congr (fun x hx=>hok x (s2 x ((s2' x).1 hx))) s2',joinL_step (ht.sub fun x hx=>(m3 x).1 hx) (fun x hx=>hok x ((m3 x).1 hx)),c2]
 have e3:joinL (joinL (xs++ys++zs)++(xs++ys++zs))=joinL (xs++ys++zs):=joinL_again ht hok;have l1:=joinL_le (xs++ys);have l2:=joinL_le (zs++ys);simp only [List.length_append] at l1 l2;exact ⟨joinL (xs++ys),joinL (zs++ys),oxy.1,oxy.2,ozy.1,ozy.2,by simp only [List.length_append];omega,by simp only [List.length_append];omega,by rw [t1.1,e1],t1.2,by rw [t2.1,e2],t2.2,by rw [t3.1,e3],t3.2,fun x hx=>joinL_dom ht hok hx⟩
theorem tame_c {r:Fr} {va:Value} {l:List RecT} (ha:Arr RecRp r va l):Con prog 47 #[va] r [] (Ret fun v η=>∃ b:Bool,v=.bool b∧(b=true→Tame l)∧η=[]):=by
 refine Con.of (n:=114) _ rfl func47 rfl rfl rfl fun g hg R hR=>?_;have ha:=ha.mono hg;have hbd:=ha.bound;obtain ⟨a1,c1,rfl⟩:=ha.shape;refine S.seq<|S.region rfl<|O.q 1 rfl<|O.nil<|S.seq<|S.seq<|S.region rfl<|O.q 1 rfl<|O.nil<|S.block<|S.loopK (ι:=Nat) (fun i=>i≤l.length∧∀ a,a<i→∀ b,b<l.length→TameP l a b) (fun i=>[(3,.int .i64 (i:Int))]) [(0,_)] (fun i=>[]) (fun i=>l.length - i) (0) (by exact ⟨by simp,fun _ q=>absurd q zE⟩) (.cons rfl (.nil)) (.cons rfl (.nil)) rfl fun i hx ih=>?_;have hm1:=meltRefl (g:=g);obtain ⟨hx1,hx2⟩:=hx;refine S.seq<|S.seq<|S.region rfl<|O.q 2 rfl<|O.op (.p rfl) (.len rfl underlying47 rfl)<|O.op (.p rfl) (.lss rfl rfl)<|O.nil ?_
 first|refine S.condD rfl (fun h9=>?_) (fun h9=>?_)|refine S.condB rfl (fun h9=>?_) (fun h9=>?_)
 ·have hi:i<l.length:=by omega
  refine S.skip<|S.seq<|S.block<|S.seq<|S.region rfl<|O.q 1 rfl<|O.nil<|S.block<|S.loopK (ι:=Nat) (fun k=>k≤l.length∧∀ b,b<k→TameP l i b) (fun k=>[(4,.int .i64 (k:Int))]) [(0,_),(3,_)] (fun k=>[]) (fun k=>l.length - k) (0) (by exact ⟨by simp,fun _ q=>absurd q zE⟩) (.cons rfl (.nil)) (.cons rfl (.cons rfl (.nil))) rfl fun k hx ih=>?_;have hm2:=meltRefl (g:=g);obtain ⟨hy1,hy2⟩:=hx;refine S.seq<|S.seq<|S.region rfl<|O.q 2 rfl<|O.op (.p rfl) (.len rfl underlying47 rfl)<|O.op (.p rfl) (.lss rfl rfl)<|O.nil ?_
  first|refine S.condD rfl (fun h15=>?_) (fun h15=>?_)|refine S.condB rfl (fun h15=>?_) (fun h15=>?_)
  ·have hk:k<l.length:=by omega
   refine S.skip<|S.seq<|S.block<|S.seq<|S.seq<|S.cut2 (fun (u:Unit)=>(cmpR l[i] l[k]=0→l[i]=l[k])∧(over l[i] l[k]=true→over l[k] l[i]=false)) (fun (u:Unit)=>[]) [(0,_),(3,_),(4,_)] (fun (u:Unit)=>[]) (.cons rfl (.cons rfl (.cons rfl (.nil)))) (fun key=>?_) (fun u hx=>?_)
   ·have hm3:=meltRefl (g:=g)
    by_cases c1:l[i].2.1=l[k].2.1
    ·by_cases c2:l[i].2.2.1=l[k].2.2.1
     ·by_cases e0:l[i]=l[k]
      ·skip
       cases o1:over l[i] l[k] with
       |false =>
        refine S.regionD (L:=[0,1,2,3,4,5,6,7,8,9,10,11,12,13,14,15,16,17,18,19,20,21,22,23,24,25,26,27,28,29,30,31,32,33,34,35,36,37,38,39,40,41,42,43,44,45,46,47,48,49,50,51,52,53,54,55,56,57]) F.mixed zC ?_;refine OD.q 2 rfl<|OD.ia (.p rfl) underlying47 size74 rfl rfl rfl (by first|assumption|exact Arr.mono hg zB|exact Arr.left zB|exact Arr.left (Arr.mono hg zB)) (h:=fun p20 cs20 hp20 hr20=>?_);obtain ⟨ra3_20,ra5_20,ra6_20,rc3_20,rc5_20,rc6_20,rfl,ho0_20,ho1_20,ho2_20,ha3_20,ha5_20,ha6_20⟩:=RecRp.sh hr20;refine .quiet (.p rfl) rfl (fun _=>.fieldAddr fld74x1 rfl)<|.quiet (.p rfl) rfl (fun _=>.loadAt flat3 rfl (hp20.drop 1) rfl) ?_;refine OD.q 2 rfl<|OD.ia (.p rfl) underlying47 size74 rfl rfl rfl (by first|assumption|exact Arr.mono hg zB|exact Arr.left zB|exact Arr.left (Arr.mono hg zB)) (h:=fun p25 cs25 hp25 hr25=>?_);obtain ⟨ra3_25,ra5_25,ra6_25,rc3_25,rc5_25,rc6_25,rfl,ho0_25,ho1_25,ho2_25,ha3_25,ha5_25,ha6_25⟩:=RecRp.sh hr25;refine .quiet (.p rfl) rfl (fun _=>.fieldAddr fld74x1 rfl)<|.quiet (.p rfl) rfl (fun _=>.loadAt flat3 rfl (hp25.drop 1) rfl) ?_;refine .quiet (.p rfl) rfl (fun _=>.eql rfl rfl)<|OD.sT 28 rfl (by exact decide_eq_true c1) ?_
        refine OD.q 3 rfl<|OD.ia (.g rfl rfl) underlying47 size74 rfl rfl rfl (by first|assumption|exact Arr.mono hg zB|exact Arr.left zB|exact Arr.left (Arr.mono hg zB)) (h:=fun p32 cs32 hp32 hr32=>?_);obtain ⟨ra3_32,ra5_32,ra6_32,rc3_32,rc5_32,rc6_32,rfl,ho0_32,ho1_32,ho2_32,ha3_32,ha5_32,ha6_32⟩:=RecRp.sh hr32;refine .quiet (.g rfl rfl) rfl (fun _=>.fieldAddr fld74x2 rfl)<|.quiet (.g rfl rfl) rfl (fun _=>.loadAt flat3 rfl (hp32.drop 2) rfl) ?_;refine OD.q 2 rfl<|OD.ia (.g rfl rfl) underlying47 size74 rfl rfl rfl (by first|assumption|exact Arr.mono hg zB|exact Arr.left zB|exact Arr.left (Arr.mono hg zB)) (h:=fun p37 cs37 hp37 hr37=>?_);obtain ⟨ra3_37,ra5_37,ra6_37,rc3_37,rc5_37,rc6_37,rfl,ho0_37,ho1_37,ho2_37,ha3_37,ha5_37,ha6_37⟩:=RecRp.sh hr37;refine .quiet (.g rfl rfl) rfl (fun _=>.fieldAddr fld74x2 rfl)<|.quiet (.g rfl rfl) rfl (fun _=>.loadAt flat3 rfl (hp37.drop 2) rfl) ?_;refine .quiet (.g rfl rfl) rfl (fun _=>.eql rfl rfl)<|OD.sT 40 rfl (by exact decide_eq_true c2) ?_;refine OD.q 4 rfl<|OD.ia (.g rfl rfl) underlying47 size74 rfl rfl rfl (by first|assumption|exact Arr.mono hg zB|exact Arr.left zB|exact Arr.left (Arr.mono hg zB)) (h:=fun p45 cs45 hp45 hr45=>?_);obtain ⟨ra3_45,ra5_45,ra6_45,rc3_45,rc5_45,rc6_45,rfl,ho0_45,ho1_45,ho2_45,ha3_45,ha5_45,ha6_45⟩:=RecRp.sh hr45
        refine .quiet (.g rfl rfl) rfl (fun _=>.loadAgg isAgg74 zC rfl hp45) ?_;refine OD.q 2 rfl<|OD.ia (.g rfl rfl) underlying47 size74 rfl rfl rfl (by first|assumption|exact Arr.mono hg zB|exact Arr.left zB|exact Arr.left (Arr.mono hg zB)) (h:=fun p49 cs49 hp49 hr49=>?_);obtain ⟨ra3_49,ra5_49,ra6_49,rc3_49,rc5_49,rc6_49,rfl,ho0_49,ho1_49,ho2_49,ha3_49,ha5_49,ha6_49⟩:=RecRp.sh hr49;refine .quiet (.g rfl rfl) rfl (fun _=>.loadAgg isAgg74 zC rfl hp49) ?_;refine OD.call0 (.g rfl rfl) zC rfl zC rfl rfl (sameRecord_c (by first|assumption|exact Rp.rel.mono zB hg) (by first|assumption|exact Rp.rel.mono zB hg)) ?_;rintro _ _ ⟨rfl,rfl⟩
        try simp only [zx1,zx2,zx3]
        refine OD.sT 51 rfl (by exact decide_eq_true e0) ?_;refine .quiet (.g rfl rfl) rfl (fun _=>.not rfl)<|OD.q 4 rfl<|OD.ia (.g rfl rfl) underlying47 size74 rfl rfl rfl (by first|assumption|exact Arr.mono hg zB|exact Arr.left zB|exact Arr.left (Arr.mono hg zB)) (h:=fun p57 cs57 hp57 hr57=>?_);obtain ⟨ra3_57,ra5_57,ra6_57,rc3_57,rc5_57,rc6_57,rfl,ho0_57,ho1_57,ho2_57,ha3_57,ha5_57,ha6_57⟩:=RecRp.sh hr57;refine .quiet (.g rfl rfl) rfl (fun _=>.loadAgg isAgg74 zC rfl hp57) ?_;refine OD.q 2 rfl<|OD.ia (.g rfl rfl) underlying47 size74 rfl rfl rfl (by first|assumption|exact Arr.mono hg zB|exact Arr.left zB|exact Arr.left (Arr.mono hg zB)) (h:=fun p61 cs61 hp61 hr61=>?_);obtain ⟨ra3_61,ra5_61,ra6_61,rc3_61,rc5_61,rc6_61,rfl,ho0_61,ho1_61,ho2_61,ha3_61,ha5_61,ha6_61⟩:=RecRp.sh hr61;refine .quiet (.g rfl rfl) rfl (fun _=>.loadAgg isAgg74 zC rfl hp61) ?_;refine OD.call0 (.g rfl rfl) zC rfl zC rfl rfl (rOver_c (by first|assumption|exact Rp.rel.mono zB hg) (by first|assumption|exact Rp.rel.mono zB hg)) ?_;rintro _ _ ⟨rfl,rfl⟩
        try simp only [zx1,zx2,zx3]
        refine OD.sF 63 rfl (by exact o1) ?_;refine OD.q 12 rfl<|ODx.nil<|S.condF rfl<|S.skip<|S.pk ?_ (S.weaken ?_ (key (()) (by exact ⟨fun _=>e0,fun q=>(by rw [o1] at q;cases q)⟩)))
        ·repeat (first|exact zpa|exact zpn|(apply zpc;focus (repeat (first|exact zh|apply zt)))|apply zps)
        repeat (first|exact Sub.nil|refine Sub.cons rfl ?_)
       |true =>
        cases o2:over l[k] l[i] with
        |true =>
         refine S.regionD (L:=[0,1,2,3,4,5,6,7,8,9,10,11,12,13,14,15,16,17,18,19,20,21,22,23,24,25,26,27,28,29,30,31,32,33,34,35,36,37,38,39,40,41,42,43,44,45,46,47,48,49,50,51,52,53,54,55,56,57]) F.mixed zC ?_;refine OD.q 2 rfl<|OD.ia (.p rfl) underlying47 size74 rfl rfl rfl (by first|assumption|exact Arr.mono hg zB|exact Arr.left zB|exact Arr.left (Arr.mono hg zB)) (h:=fun p20 cs20 hp20 hr20=>?_);obtain ⟨ra3_20,ra5_20,ra6_20,rc3_20,rc5_20,rc6_20,rfl,ho0_20,ho1_20,ho2_20,ha3_20,ha5_20,ha6_20⟩:=RecRp.sh hr20;refine .quiet (.p rfl) rfl (fun _=>.fieldAddr fld74x1 rfl)<|.quiet (.p rfl) rfl (fun _=>.loadAt flat3 rfl (hp20.drop 1) rfl) ?_;refine OD.q 2 rfl<|OD.ia (.p rfl) underlying47 size74 rfl rfl rfl (by first|assumption|exact Arr.mono hg zB|exact Arr.left zB|exact Arr.left (Arr.mono hg zB)) (h:=fun p25 cs25 hp25 hr25=>?_);obtain ⟨ra3_25,ra5_25,ra6_25,rc3_25,rc5_25,rc6_25,rfl,ho0_25,ho1_25,ho2_25,ha3_25,ha5_25,ha6_25⟩:=RecRp.sh hr25;refine .quiet (.p rfl) rfl (fun _=>.fieldAddr fld74x1 rfl)<|.quiet (.p rfl) rfl (fun _=>.loadAt flat3 rfl (hp25.drop 1) rfl) ?_;refine .quiet (.p rfl) rfl (fun _=>.eql rfl rfl)<|OD.sT 28 rfl (by exact decide_eq_true c1) ?_
         refine OD.q 3 rfl<|OD.ia (.g rfl rfl) underlying47 size74 rfl rfl rfl (by first|assumption|exact Arr.mono hg zB|exact Arr.left zB|exact Arr.left (Arr.mono hg zB)) (h:=fun p32 cs32 hp32 hr32=>?_);obtain ⟨ra3_32,ra5_32,ra6_32,rc3_32,rc5_32,rc6_32,rfl,ho0_32,ho1_32,ho2_32,ha3_32,ha5_32,ha6_32⟩:=RecRp.sh hr32;refine .quiet (.g rfl rfl) rfl (fun _=>.fieldAddr fld74x2 rfl)<|.quiet (.g rfl rfl) rfl (fun _=>.loadAt flat3 rfl (hp32.drop 2) rfl) ?_;refine OD.q 2 rfl<|OD.ia (.g rfl rfl) underlying47 size74 rfl rfl rfl (by first|assumption|exact Arr.mono hg zB|exact Arr.left zB|exact Arr.left (Arr.mono hg zB)) (h:=fun p37 cs37 hp37 hr37=>?_);obtain ⟨ra3_37,ra5_37,ra6_37,rc3_37,rc5_37,rc6_37,rfl,ho0_37,ho1_37,ho2_37,ha3_37,ha5_37,ha6_37⟩:=RecRp.sh hr37;refine .quiet (.g rfl rfl) rfl (fun _=>.fieldAddr fld74x2 rfl)<|.quiet (.g rfl rfl) rfl (fun _=>.loadAt flat3 rfl (hp37.drop 2) rfl) ?_;refine .quiet (.g rfl rfl) rfl (fun _=>.eql rfl rfl)<|OD.sT 40 rfl (by exact decide_eq_true c2) ?_;refine OD.q 4 rfl<|OD.ia (.g rfl rfl) underlying47 size74 rfl rfl rfl (by first|assumption|exact Arr.mono hg zB|exact Arr.left zB|exact Arr.left (Arr.mono hg zB)) (h:=fun p45 cs45 hp45 hr45=>?_);obtain ⟨ra3_45,ra5_45,ra6_45,rc3_45,rc5_45,rc6_45,rfl,ho0_45,ho1_45,ho2_45,ha3_45,ha5_45,ha6_45⟩:=RecRp.sh hr45
         refine .quiet (.g rfl rfl) rfl (fun _=>.loadAgg isAgg74 zC rfl hp45) ?_;refine OD.q 2 rfl<|OD.ia (.g rfl rfl) underlying47 size74 rfl rfl rfl (by first|assumption|exact Arr.mono hg zB|exact Arr.left zB|exact Arr.left (Arr.mono hg zB)) (h:=fun p49 cs49 hp49 hr49=>?_);obtain ⟨ra3_49,ra5_49,ra6_49,rc3_49,rc5_49,rc6_49,rfl,ho0_49,ho1_49,ho2_49,ha3_49,ha5_49,ha6_49⟩:=RecRp.sh hr49;refine .quiet (.g rfl rfl) rfl (fun _=>.loadAgg isAgg74 zC rfl hp49) ?_;refine OD.call0 (.g rfl rfl) zC rfl zC rfl rfl (sameRecord_c (by first|assumption|exact Rp.rel.mono zB hg) (by first|assumption|exact Rp.rel.mono zB hg)) ?_;rintro _ _ ⟨rfl,rfl⟩
         try simp only [zx1,zx2,zx3]
         refine OD.sT 51 rfl (by exact decide_eq_true e0) ?_;refine .quiet (.g rfl rfl) rfl (fun _=>.not rfl)<|OD.q 4 rfl<|OD.ia (.g rfl rfl) underlying47 size74 rfl rfl rfl (by first|assumption|exact Arr.mono hg zB|exact Arr.left zB|exact Arr.left (Arr.mono hg zB)) (h:=fun p57 cs57 hp57 hr57=>?_);obtain ⟨ra3_57,ra5_57,ra6_57,rc3_57,rc5_57,rc6_57,rfl,ho0_57,ho1_57,ho2_57,ha3_57,ha5_57,ha6_57⟩:=RecRp.sh hr57;refine .quiet (.g rfl rfl) rfl (fun _=>.loadAgg isAgg74 zC rfl hp57) ?_;refine OD.q 2 rfl<|OD.ia (.g rfl rfl) underlying47 size74 rfl rfl rfl (by first|assumption|exact Arr.mono hg zB|exact Arr.left zB|exact Arr.left (Arr.mono hg zB)) (h:=fun p61 cs61 hp61 hr61=>?_);obtain ⟨ra3_61,ra5_61,ra6_61,rc3_61,rc5_61,rc6_61,rfl,ho0_61,ho1_61,ho2_61,ha3_61,ha5_61,ha6_61⟩:=RecRp.sh hr61;refine .quiet (.g rfl rfl) rfl (fun _=>.loadAgg isAgg74 zC rfl hp61) ?_;refine OD.call0 (.g rfl rfl) zC rfl zC rfl rfl (rOver_c (by first|assumption|exact Rp.rel.mono zB hg) (by first|assumption|exact Rp.rel.mono zB hg)) ?_;rintro _ _ ⟨rfl,rfl⟩
         try simp only [zx1,zx2,zx3]
         refine OD.sT 63 rfl (by exact o1) ?_;refine OD.q 3 rfl<|OD.ia (.g rfl rfl) underlying47 size74 rfl rfl rfl (by first|assumption|exact Arr.mono hg zB|exact Arr.left zB|exact Arr.left (Arr.mono hg zB)) (h:=fun p67 cs67 hp67 hr67=>?_);obtain ⟨ra3_67,ra5_67,ra6_67,rc3_67,rc5_67,rc6_67,rfl,ho0_67,ho1_67,ho2_67,ha3_67,ha5_67,ha6_67⟩:=RecRp.sh hr67;refine .quiet (.g rfl rfl) rfl (fun _=>.loadAgg isAgg74 zC rfl hp67) ?_;refine OD.q 2 rfl<|OD.ia (.g rfl rfl) underlying47 size74 rfl rfl rfl (by first|assumption|exact Arr.mono hg zB|exact Arr.left zB|exact Arr.left (Arr.mono hg zB)) (h:=fun p71 cs71 hp71 hr71=>?_);obtain ⟨ra3_71,ra5_71,ra6_71,rc3_71,rc5_71,rc6_71,rfl,ho0_71,ho1_71,ho2_71,ha3_71,ha5_71,ha6_71⟩:=RecRp.sh hr71;refine .quiet (.g rfl rfl) rfl (fun _=>.loadAgg isAgg74 zC rfl hp71) ?_;refine OD.call0 (.g rfl rfl) zC rfl zC rfl rfl (rOver_c (by first|assumption|exact Rp.rel.mono zB hg) (by first|assumption|exact Rp.rel.mono zB hg)) ?_;rintro _ _ ⟨rfl,rfl⟩
         try simp only [zx1,zx2,zx3]
         refine OD.sT 73 rfl (by exact o2) ?_;refine OD.q 2 rfl<|ODx.nil<|S.condT rfl<|S.seq<|S.region rfl<|O.q 1 rfl<|O.nil ?_;exact S.rt results47 rfl hR ⟨false,rfl,fun q=>(by cases q),rfl⟩
        |false =>
         refine S.regionD (L:=[0,1,2,3,4,5,6,7,8,9,10,11,12,13,14,15,16,17,18,19,20,21,22,23,24,25,26,27,28,29,30,31,32,33,34,35,36,37,38,39,40,41,42,43,44,45,46,47,48,49,50,51,52,53,54,55,56,57]) F.mixed zC ?_;refine OD.q 2 rfl<|OD.ia (.p rfl) underlying47 size74 rfl rfl rfl (by first|assumption|exact Arr.mono hg zB|exact Arr.left zB|exact Arr.left (Arr.mono hg zB)) (h:=fun p20 cs20 hp20 hr20=>?_);obtain ⟨ra3_20,ra5_20,ra6_20,rc3_20,rc5_20,rc6_20,rfl,ho0_20,ho1_20,ho2_20,ha3_20,ha5_20,ha6_20⟩:=RecRp.sh hr20;refine .quiet (.p rfl) rfl (fun _=>.fieldAddr fld74x1 rfl)<|.quiet (.p rfl) rfl (fun _=>.loadAt flat3 rfl (hp20.drop 1) rfl) ?_;refine OD.q 2 rfl<|OD.ia (.p rfl) underlying47 size74 rfl rfl rfl (by first|assumption|exact Arr.mono hg zB|exact Arr.left zB|exact Arr.left (Arr.mono hg zB)) (h:=fun p25 cs25 hp25 hr25=>?_);obtain ⟨ra3_25,ra5_25,ra6_25,rc3_25,rc5_25,rc6_25,rfl,ho0_25,ho1_25,ho2_25,ha3_25,ha5_25,ha6_25⟩:=RecRp.sh hr25;refine .quiet (.p rfl) rfl (fun _=>.fieldAddr fld74x1 rfl)<|.quiet (.p rfl) rfl (fun _=>.loadAt flat3 rfl (hp25.drop 1) rfl) ?_;refine .quiet (.p rfl) rfl (fun _=>.eql rfl rfl)<|OD.sT 28 rfl (by exact decide_eq_true c1) ?_
         refine OD.q 3 rfl<|OD.ia (.g rfl rfl) underlying47 size74 rfl rfl rfl (by first|assumption|exact Arr.mono hg zB|exact Arr.left zB|exact Arr.left (Arr.mono hg zB)) (h:=fun p32 cs32 hp32 hr32=>?_);obtain ⟨ra3_32,ra5_32,ra6_32,rc3_32,rc5_32,rc6_32,rfl,ho0_32,ho1_32,ho2_32,ha3_32,ha5_32,ha6_32⟩:=RecRp.sh hr32;refine .quiet (.g rfl rfl) rfl (fun _=>.fieldAddr fld74x2 rfl)<|.quiet (.g rfl rfl) rfl (fun _=>.loadAt flat3 rfl (hp32.drop 2) rfl) ?_;refine OD.q 2 rfl<|OD.ia (.g rfl rfl) underlying47 size74 rfl rfl rfl (by first|assumption|exact Arr.mono hg zB|exact Arr.left zB|exact Arr.left (Arr.mono hg zB)) (h:=fun p37 cs37 hp37 hr37=>?_);obtain ⟨ra3_37,ra5_37,ra6_37,rc3_37,rc5_37,rc6_37,rfl,ho0_37,ho1_37,ho2_37,ha3_37,ha5_37,ha6_37⟩:=RecRp.sh hr37;refine .quiet (.g rfl rfl) rfl (fun _=>.fieldAddr fld74x2 rfl)<|.quiet (.g rfl rfl) rfl (fun _=>.loadAt flat3 rfl (hp37.drop 2) rfl) ?_;refine .quiet (.g rfl rfl) rfl (fun _=>.eql rfl rfl)<|OD.sT 40 rfl (by exact decide_eq_true c2) ?_;refine OD.q 4 rfl<|OD.ia (.g rfl rfl) underlying47 size74 rfl rfl rfl (by first|assumption|exact Arr.mono hg zB|exact Arr.left zB|exact Arr.left (Arr.mono hg zB)) (h:=fun p45 cs45 hp45 hr45=>?_);obtain ⟨ra3_45,ra5_45,ra6_45,rc3_45,rc5_45,rc6_45,rfl,ho0_45,ho1_45,ho2_45,ha3_45,ha5_45,ha6_45⟩:=RecRp.sh hr45
         refine .quiet (.g rfl rfl) rfl (fun _=>.loadAgg isAgg74 zC rfl hp45) ?_;refine OD.q 2 rfl<|OD.ia (.g rfl rfl) underlying47 size74 rfl rfl rfl (by first|assumption|exact Arr.mono hg zB|exact Arr.left zB|exact Arr.left (Arr.mono hg zB)) (h:=fun p49 cs49 hp49 hr49=>?_);obtain ⟨ra3_49,ra5_49,ra6_49,rc3_49,rc5_49,rc6_49,rfl,ho0_49,ho1_49,ho2_49,ha3_49,ha5_49,ha6_49⟩:=RecRp.sh hr49;refine .quiet (.g rfl rfl) rfl (fun _=>.loadAgg isAgg74 zC rfl hp49) ?_;refine OD.call0 (.g rfl rfl) zC rfl zC rfl rfl (sameRecord_c (by first|assumption|exact Rp.rel.mono zB hg) (by first|assumption|exact Rp.rel.mono zB hg)) ?_;rintro _ _ ⟨rfl,rfl⟩
         try simp only [zx1,zx2,zx3]
         refine OD.sT 51 rfl (by exact decide_eq_true e0) ?_;refine .quiet (.g rfl rfl) rfl (fun _=>.not rfl)<|OD.q 4 rfl<|OD.ia (.g rfl rfl) underlying47 size74 rfl rfl rfl (by first|assumption|exact Arr.mono hg zB|exact Arr.left zB|exact Arr.left (Arr.mono hg zB)) (h:=fun p57 cs57 hp57 hr57=>?_);obtain ⟨ra3_57,ra5_57,ra6_57,rc3_57,rc5_57,rc6_57,rfl,ho0_57,ho1_57,ho2_57,ha3_57,ha5_57,ha6_57⟩:=RecRp.sh hr57;refine .quiet (.g rfl rfl) rfl (fun _=>.loadAgg isAgg74 zC rfl hp57) ?_;refine OD.q 2 rfl<|OD.ia (.g rfl rfl) underlying47 size74 rfl rfl rfl (by first|assumption|exact Arr.mono hg zB|exact Arr.left zB|exact Arr.left (Arr.mono hg zB)) (h:=fun p61 cs61 hp61 hr61=>?_);obtain ⟨ra3_61,ra5_61,ra6_61,rc3_61,rc5_61,rc6_61,rfl,ho0_61,ho1_61,ho2_61,ha3_61,ha5_61,ha6_61⟩:=RecRp.sh hr61;refine .quiet (.g rfl rfl) rfl (fun _=>.loadAgg isAgg74 zC rfl hp61) ?_;refine OD.call0 (.g rfl rfl) zC rfl zC rfl rfl (rOver_c (by first|assumption|exact Rp.rel.mono zB hg) (by first|assumption|exact Rp.rel.mono zB hg)) ?_;rintro _ _ ⟨rfl,rfl⟩
         try simp only [zx1,zx2,zx3]
         refine OD.sT 63 rfl (by exact o1) ?_;refine OD.q 3 rfl<|OD.ia (.g rfl rfl) underlying47 size74 rfl rfl rfl (by first|assumption|exact Arr.mono hg zB|exact Arr.left zB|exact Arr.left (Arr.mono hg zB)) (h:=fun p67 cs67 hp67 hr67=>?_);obtain ⟨ra3_67,ra5_67,ra6_67,rc3_67,rc5_67,rc6_67,rfl,ho0_67,ho1_67,ho2_67,ha3_67,ha5_67,ha6_67⟩:=RecRp.sh hr67;refine .quiet (.g rfl rfl) rfl (fun _=>.loadAgg isAgg74 zC rfl hp67) ?_;refine OD.q 2 rfl<|OD.ia (.g rfl rfl) underlying47 size74 rfl rfl rfl (by first|assumption|exact Arr.mono hg zB|exact Arr.left zB|exact Arr.left (Arr.mono hg zB)) (h:=fun p71 cs71 hp71 hr71=>?_);obtain ⟨ra3_71,ra5_71,ra6_71,rc3_71,rc5_71,rc6_71,rfl,ho0_71,ho1_71,ho2_71,ha3_71,ha5_71,ha6_71⟩:=RecRp.sh hr71;refine .quiet (.g rfl rfl) rfl (fun _=>.loadAgg isAgg74 zC rfl hp71) ?_;refine OD.call0 (.g rfl rfl) zC rfl zC rfl rfl (rOver_c (by first|assumption|exact Rp.rel.mono zB hg) (by first|assumption|exact Rp.rel.mono zB hg)) ?_;rintro _ _ ⟨rfl,rfl⟩
         try simp only [zx1,zx2,zx3]
         refine OD.sF 73 rfl (by exact o2) ?_;refine OD.q 2 rfl<|ODx.nil<|S.condF rfl<|S.skip<|S.pk ?_ (S.weaken ?_ (key (()) (by exact ⟨fun _=>e0,fun _=>o2⟩)))
         ·repeat (first|exact zpa|exact zpn|(apply zpc;focus (repeat (first|exact zh|apply zt)))|apply zps)
         repeat (first|exact Sub.nil|refine Sub.cons rfl ?_)
      ·skip
       refine S.regionD (L:=[0,1,2,3,4,5,6,7,8,9,10,11,12,13,14,15,16,17,18,19,20,21,22,23,24,25,26,27,28,29,30,31,32,33,34,35,36,37,38,39,40,41,42,43,44,45,46,47,48,49,50,51,52,53,54,55,56,57]) F.mixed zC ?_;refine OD.q 2 rfl<|OD.ia (.p rfl) underlying47 size74 rfl rfl rfl (by first|assumption|exact Arr.mono hg zB|exact Arr.left zB|exact Arr.left (Arr.mono hg zB)) (h:=fun p20 cs20 hp20 hr20=>?_);obtain ⟨ra3_20,ra5_20,ra6_20,rc3_20,rc5_20,rc6_20,rfl,ho0_20,ho1_20,ho2_20,ha3_20,ha5_20,ha6_20⟩:=RecRp.sh hr20;refine .quiet (.p rfl) rfl (fun _=>.fieldAddr fld74x1 rfl)<|.quiet (.p rfl) rfl (fun _=>.loadAt flat3 rfl (hp20.drop 1) rfl) ?_;refine OD.q 2 rfl<|OD.ia (.p rfl) underlying47 size74 rfl rfl rfl (by first|assumption|exact Arr.mono hg zB|exact Arr.left zB|exact Arr.left (Arr.mono hg zB)) (h:=fun p25 cs25 hp25 hr25=>?_);obtain ⟨ra3_25,ra5_25,ra6_25,rc3_25,rc5_25,rc6_25,rfl,ho0_25,ho1_25,ho2_25,ha3_25,ha5_25,ha6_25⟩:=RecRp.sh hr25;refine .quiet (.p rfl) rfl (fun _=>.fieldAddr fld74x1 rfl)<|.quiet (.p rfl) rfl (fun _=>.loadAt flat3 rfl (hp25.drop 1) rfl) ?_;refine .quiet (.p rfl) rfl (fun _=>.eql rfl rfl)<|OD.sT 28 rfl (by exact decide_eq_true c1) ?_
       refine OD.q 3 rfl<|OD.ia (.g rfl rfl) underlying47 size74 rfl rfl rfl (by first|assumption|exact Arr.mono hg zB|exact Arr.left zB|exact Arr.left (Arr.mono hg zB)) (h:=fun p32 cs32 hp32 hr32=>?_);obtain ⟨ra3_32,ra5_32,ra6_32,rc3_32,rc5_32,rc6_32,rfl,ho0_32,ho1_32,ho2_32,ha3_32,ha5_32,ha6_32⟩:=RecRp.sh hr32;refine .quiet (.g rfl rfl) rfl (fun _=>.fieldAddr fld74x2 rfl)<|.quiet (.g rfl rfl) rfl (fun _=>.loadAt flat3 rfl (hp32.drop 2) rfl) ?_;refine OD.q 2 rfl<|OD.ia (.g rfl rfl) underlying47 size74 rfl rfl rfl (by first|assumption|exact Arr.mono hg zB|exact Arr.left zB|exact Arr.left (Arr.mono hg zB)) (h:=fun p37 cs37 hp37 hr37=>?_);obtain ⟨ra3_37,ra5_37,ra6_37,rc3_37,rc5_37,rc6_37,rfl,ho0_37,ho1_37,ho2_37,ha3_37,ha5_37,ha6_37⟩:=RecRp.sh hr37;refine .quiet (.g rfl rfl) rfl (fun _=>.fieldAddr fld74x2 rfl)<|.quiet (.g rfl rfl) rfl (fun _=>.loadAt flat3 rfl (hp37.drop 2) rfl) ?_;refine .quiet (.g rfl rfl) rfl (fun _=>.eql rfl rfl)<|OD.sT 40 rfl (by exact decide_eq_true c2) ?_;refine OD.q 4 rfl<|OD.ia (.g rfl rfl) underlying47 size74 rfl rfl rfl (by first|assumption|exact Arr.mono hg zB|exact Arr.left zB|exact Arr.left (Arr.mono hg zB)) (h:=fun p45 cs45 hp45 hr45=>?_);obtain ⟨ra3_45,ra5_45,ra6_45,rc3_45,rc5_45,rc6_45,rfl,ho0_45,ho1_45,ho2_45,ha3_45,ha5_45,ha6_45⟩:=RecRp.sh hr45
       refine .quiet (.g rfl rfl) rfl (fun _=>.loadAgg isAgg74 zC rfl hp45) ?_;refine OD.q 2 rfl<|OD.ia (.g rfl rfl) underlying47 size74 rfl rfl rfl (by first|assumption|exact Arr.mono hg zB|exact Arr.left zB|exact Arr.left (Arr.mono hg zB)) (h:=fun p49 cs49 hp49 hr49=>?_);obtain ⟨ra3_49,ra5_49,ra6_49,rc3_49,rc5_49,rc6_49,rfl,ho0_49,ho1_49,ho2_49,ha3_49,ha5_49,ha6_49⟩:=RecRp.sh hr49;refine .quiet (.g rfl rfl) rfl (fun _=>.loadAgg isAgg74 zC rfl hp49) ?_;refine OD.call0 (.g rfl rfl) zC rfl zC rfl rfl (sameRecord_c (by first|assumption|exact Rp.rel.mono zB hg) (by first|assumption|exact Rp.rel.mono zB hg)) ?_;rintro _ _ ⟨rfl,rfl⟩
       try simp only [zx1,zx2,zx3]
       refine OD.sF 51 rfl (by exact decide_eq_false e0) ?_;refine .quiet (.g rfl rfl) rfl (fun _=>.not rfl)<|OD.q 23 rfl<|ODx.nil<|S.condT rfl<|S.seq<|S.region rfl<|O.q 1 rfl<|O.nil ?_;exact S.rt results47 rfl hR ⟨false,rfl,fun q=>(by cases q),rfl⟩
     ·skip
      cases o1:over l[i] l[k] with
      |false =>
       refine S.regionD (L:=[0,1,2,3,4,5,6,7,8,9,10,11,12,13,14,15,16,17,18,19,20,21,22,23,24,25,26,27,28,29,30,31,32,33,34,35,36,37,38,39,40,41,42,43,44,45,46,47,48,49,50,51,52,53,54,55,56,57]) F.mixed zC ?_;refine OD.q 2 rfl<|OD.ia (.p rfl) underlying47 size74 rfl rfl rfl (by first|assumption|exact Arr.mono hg zB|exact Arr.left zB|exact Arr.left (Arr.mono hg zB)) (h:=fun p20 cs20 hp20 hr20=>?_);obtain ⟨ra3_20,ra5_20,ra6_20,rc3_20,rc5_20,rc6_20,rfl,ho0_20,ho1_20,ho2_20,ha3_20,ha5_20,ha6_20⟩:=RecRp.sh hr20;refine .quiet (.p rfl) rfl (fun _=>.fieldAddr fld74x1 rfl)<|.quiet (.p rfl) rfl (fun _=>.loadAt flat3 rfl (hp20.drop 1) rfl) ?_;refine OD.q 2 rfl<|OD.ia (.p rfl) underlying47 size74 rfl rfl rfl (by first|assumption|exact Arr.mono hg zB|exact Arr.left zB|exact Arr.left (Arr.mono hg zB)) (h:=fun p25 cs25 hp25 hr25=>?_);obtain ⟨ra3_25,ra5_25,ra6_25,rc3_25,rc5_25,rc6_25,rfl,ho0_25,ho1_25,ho2_25,ha3_25,ha5_25,ha6_25⟩:=RecRp.sh hr25;refine .quiet (.p rfl) rfl (fun _=>.fieldAddr fld74x1 rfl)<|.quiet (.p rfl) rfl (fun _=>.loadAt flat3 rfl (hp25.drop 1) rfl) ?_;refine .quiet (.p rfl) rfl (fun _=>.eql rfl rfl)<|OD.sT 28 rfl (by exact decide_eq_true c1) ?_
       refine OD.q 3 rfl<|OD.ia (.g rfl rfl) underlying47 size74 rfl rfl rfl (by first|assumption|exact Arr.mono hg zB|exact Arr.left zB|exact Arr.left (Arr.mono hg zB)) (h:=fun p32 cs32 hp32 hr32=>?_);obtain ⟨ra3_32,ra5_32,ra6_32,rc3_32,rc5_32,rc6_32,rfl,ho0_32,ho1_32,ho2_32,ha3_32,ha5_32,ha6_32⟩:=RecRp.sh hr32;refine .quiet (.g rfl rfl) rfl (fun _=>.fieldAddr fld74x2 rfl)<|.quiet (.g rfl rfl) rfl (fun _=>.loadAt flat3 rfl (hp32.drop 2) rfl) ?_;refine OD.q 2 rfl<|OD.ia (.g rfl rfl) underlying47 size74 rfl rfl rfl (by first|assumption|exact Arr.mono hg zB|exact Arr.left zB|exact Arr.left (Arr.mono hg zB)) (h:=fun p37 cs37 hp37 hr37=>?_);obtain ⟨ra3_37,ra5_37,ra6_37,rc3_37,rc5_37,rc6_37,rfl,ho0_37,ho1_37,ho2_37,ha3_37,ha5_37,ha6_37⟩:=RecRp.sh hr37;refine .quiet (.g rfl rfl) rfl (fun _=>.fieldAddr fld74x2 rfl)<|.quiet (.g rfl rfl) rfl (fun _=>.loadAt flat3 rfl (hp37.drop 2) rfl) ?_;refine .quiet (.g rfl rfl) rfl (fun _=>.eql rfl rfl)<|OD.sF 40 rfl (by exact decide_eq_false c2) ?_;refine OD.q 16 rfl<|OD.ia (.g rfl rfl) underlying47 size74 rfl rfl rfl (by first|assumption|exact Arr.mono hg zB|exact Arr.left zB|exact Arr.left (Arr.mono hg zB)) (h:=fun p57 cs57 hp57 hr57=>?_);obtain ⟨ra3_57,ra5_57,ra6_57,rc3_57,rc5_57,rc6_57,rfl,ho0_57,ho1_57,ho2_57,ha3_57,ha5_57,ha6_57⟩:=RecRp.sh hr57
       refine .quiet (.g rfl rfl) rfl (fun _=>.loadAgg isAgg74 zC rfl hp57) ?_;refine OD.q 2 rfl<|OD.ia (.g rfl rfl) underlying47 size74 rfl rfl rfl (by first|assumption|exact Arr.mono hg zB|exact Arr.left zB|exact Arr.left (Arr.mono hg zB)) (h:=fun p61 cs61 hp61 hr61=>?_);obtain ⟨ra3_61,ra5_61,ra6_61,rc3_61,rc5_61,rc6_61,rfl,ho0_61,ho1_61,ho2_61,ha3_61,ha5_61,ha6_61⟩:=RecRp.sh hr61;refine .quiet (.g rfl rfl) rfl (fun _=>.loadAgg isAgg74 zC rfl hp61) ?_;refine OD.call0 (.g rfl rfl) zC rfl zC rfl rfl (rOver_c (by first|assumption|exact Rp.rel.mono zB hg) (by first|assumption|exact Rp.rel.mono zB hg)) ?_;rintro _ _ ⟨rfl,rfl⟩
       try simp only [zx1,zx2,zx3]
       refine OD.sF 63 rfl (by exact o1) ?_;refine OD.q 12 rfl<|ODx.nil<|S.condF rfl<|S.skip<|S.pk ?_ (S.weaken ?_ (key (()) (by exact ⟨fun q=>absurd (cmpR_z.1 q).2 c2,fun q=>(by rw [o1] at q;cases q)⟩)))
       ·repeat (first|exact zpa|exact zpn|(apply zpc;focus (repeat (first|exact zh|apply zt)))|apply zps)
       repeat (first|exact Sub.nil|refine Sub.cons rfl ?_)
      |true =>
       cases o2:over l[k] l[i] with
       |true =>
        refine S.regionD (L:=[0,1,2,3,4,5,6,7,8,9,10,11,12,13,14,15,16,17,18,19,20,21,22,23,24,25,26,27,28,29,30,31,32,33,34,35,36,37,38,39,40,41,42,43,44,45,46,47,48,49,50,51,52,53,54,55,56,57]) F.mixed zC ?_;refine OD.q 2 rfl<|OD.ia (.p rfl) underlying47 size74 rfl rfl rfl (by first|assumption|exact Arr.mono hg zB|exact Arr.left zB|exact Arr.left (Arr.mono hg zB)) (h:=fun p20 cs20 hp20 hr20=>?_);obtain ⟨ra3_20,ra5_20,ra6_20,rc3_20,rc5_20,rc6_20,rfl,ho0_20,ho1_20,ho2_20,ha3_20,ha5_20,ha6_20⟩:=RecRp.sh hr20;refine .quiet (.p rfl) rfl (fun _=>.fieldAddr fld74x1 rfl)<|.quiet (.p rfl) rfl (fun _=>.loadAt flat3 rfl (hp20.drop 1) rfl) ?_;refine OD.q 2 rfl<|OD.ia (.p rfl) underlying47 size74 rfl rfl rfl (by first|assumption|exact Arr.mono hg zB|exact Arr.left zB|exact Arr.left (Arr.mono hg zB)) (h:=fun p25 cs25 hp25 hr25=>?_);obtain ⟨ra3_25,ra5_25,ra6_25,rc3_25,rc5_25,rc6_25,rfl,ho0_25,ho1_25,ho2_25,ha3_25,ha5_25,ha6_25⟩:=RecRp.sh hr25;refine .quiet (.p rfl) rfl (fun _=>.fieldAddr fld74x1 rfl)<|.quiet (.p rfl) rfl (fun _=>.loadAt flat3 rfl (hp25.drop 1) rfl) ?_;refine .quiet (.p rfl) rfl (fun _=>.eql rfl rfl)<|OD.sT 28 rfl (by exact decide_eq_true c1) ?_
        refine OD.q 3 rfl<|OD.ia (.g rfl rfl) underlying47 size74 rfl rfl rfl (by first|assumption|exact Arr.mono hg zB|exact Arr.left zB|exact Arr.left (Arr.mono hg zB)) (h:=fun p32 cs32 hp32 hr32=>?_);obtain ⟨ra3_32,ra5_32,ra6_32,rc3_32,rc5_32,rc6_32,rfl,ho0_32,ho1_32,ho2_32,ha3_32,ha5_32,ha6_32⟩:=RecRp.sh hr32;refine .quiet (.g rfl rfl) rfl (fun _=>.fieldAddr fld74x2 rfl)<|.quiet (.g rfl rfl) rfl (fun _=>.loadAt flat3 rfl (hp32.drop 2) rfl) ?_;refine OD.q 2 rfl<|OD.ia (.g rfl rfl) underlying47 size74 rfl rfl rfl (by first|assumption|exact Arr.mono hg zB|exact Arr.left zB|exact Arr.left (Arr.mono hg zB)) (h:=fun p37 cs37 hp37 hr37=>?_);obtain ⟨ra3_37,ra5_37,ra6_37,rc3_37,rc5_37,rc6_37,rfl,ho0_37,ho1_37,ho2_37,ha3_37,ha5_37,ha6_37⟩:=RecRp.sh hr37;refine .quiet (.g rfl rfl) rfl (fun _=>.fieldAddr fld74x2 rfl)<|.quiet (.g rfl rfl) rfl (fun _=>.loadAt flat3 rfl (hp37.drop 2) rfl) ?_;refine .quiet (.g rfl rfl) rfl (fun _=>.eql rfl rfl)<|OD.sF 40 rfl (by exact decide_eq_false c2) ?_;refine OD.q 16 rfl<|OD.ia (.g rfl rfl) underlying47 size74 rfl rfl rfl (by first|assumption|exact Arr.mono hg zB|exact Arr.left zB|exact Arr.left (Arr.mono hg zB)) (h:=fun p57 cs57 hp57 hr57=>?_);obtain ⟨ra3_57,ra5_57,ra6_57,rc3_57,rc5_57,rc6_57,rfl,ho0_57,ho1_57,ho2_57,ha3_57,ha5_57,ha6_57⟩:=RecRp.sh hr57
        refine .quiet (.g rfl rfl) rfl (fun _=>.loadAgg isAgg74 zC rfl hp57) ?_;refine OD.q 2 rfl<|OD.ia (.g rfl rfl) underlying47 size74 rfl rfl rfl (by first|assumption|exact Arr.mono hg zB|exact Arr.left zB|exact Arr.left (Arr.mono hg zB)) (h:=fun p61 cs61 hp61 hr61=>?_);obtain ⟨ra3_61,ra5_61,ra6_61,rc3_61,rc5_61,rc6_61,rfl,ho0_61,ho1_61,ho2_61,ha3_61,ha5_61,ha6_61⟩:=RecRp.sh hr61;refine .quiet (.g rfl rfl) rfl (fun _=>.loadAgg isAgg74 zC rfl hp61) ?_;refine OD.call0 (.g rfl rfl) zC rfl zC rfl rfl (rOver_c (by first|assumption|exact Rp.rel.mono zB hg) (by first|assumption|exact Rp.rel.mono zB hg)) ?_;rintro _ _ ⟨rfl,rfl⟩
        try simp only [zx1,zx2,zx3]
        refine OD.sT 63 rfl (by exact o1) ?_;refine OD.q 3 rfl<|OD.ia (.g rfl rfl) underlying47 size74 rfl rfl rfl (by first|assumption|exact Arr.mono hg zB|exact Arr.left zB|exact Arr.left (Arr.mono hg zB)) (h:=fun p67 cs67 hp67 hr67=>?_);obtain ⟨ra3_67,ra5_67,ra6_67,rc3_67,rc5_67,rc6_67,rfl,ho0_67,ho1_67,ho2_67,ha3_67,ha5_67,ha6_67⟩:=RecRp.sh hr67;refine .quiet (.g rfl rfl) rfl (fun _=>.loadAgg isAgg74 zC rfl hp67) ?_;refine OD.q 2 rfl<|OD.ia (.g rfl rfl) underlying47 size74 rfl rfl rfl (by first|assumption|exact Arr.mono hg zB|exact Arr.left zB|exact Arr.left (Arr.mono hg zB)) (h:=fun p71 cs71 hp71 hr71=>?_);obtain ⟨ra3_71,ra5_71,ra6_71,rc3_71,rc5_71,rc6_71,rfl,ho0_71,ho1_71,ho2_71,ha3_71,ha5_71,ha6_71⟩:=RecRp.sh hr71;refine .quiet (.g rfl rfl) rfl (fun _=>.loadAgg isAgg74 zC rfl hp71) ?_;refine OD.call0 (.g rfl rfl) zC rfl zC rfl rfl (rOver_c (by first|assumption|exact Rp.rel.mono zB hg) (by first|assumption|exact Rp.rel.mono zB hg)) ?_;rintro _ _ ⟨rfl,rfl⟩
        try simp only [zx1,zx2,zx3]
        refine OD.sT 73 rfl (by exact o2) ?_;refine OD.q 2 rfl<|ODx.nil<|S.condT rfl<|S.seq<|S.region rfl<|O.q 1 rfl<|O.nil ?_;exact S.rt results47 rfl hR ⟨false,rfl,fun q=>(by cases q),rfl⟩
       |false =>
        refine S.regionD (L:=[0,1,2,3,4,5,6,7,8,9,10,11,12,13,14,15,16,17,18,19,20,21,22,23,24,25,26,27,28,29,30,31,32,33,34,35,36,37,38,39,40,41,42,43,44,45,46,47,48,49,50,51,52,53,54,55,56,57]) F.mixed zC ?_;refine OD.q 2 rfl<|OD.ia (.p rfl) underlying47 size74 rfl rfl rfl (by first|assumption|exact Arr.mono hg zB|exact Arr.left zB|exact Arr.left (Arr.mono hg zB)) (h:=fun p20 cs20 hp20 hr20=>?_);obtain ⟨ra3_20,ra5_20,ra6_20,rc3_20,rc5_20,rc6_20,rfl,ho0_20,ho1_20,ho2_20,ha3_20,ha5_20,ha6_20⟩:=RecRp.sh hr20;refine .quiet (.p rfl) rfl (fun _=>.fieldAddr fld74x1 rfl)<|.quiet (.p rfl) rfl (fun _=>.loadAt flat3 rfl (hp20.drop 1) rfl) ?_;refine OD.q 2 rfl<|OD.ia (.p rfl) underlying47 size74 rfl rfl rfl (by first|assumption|exact Arr.mono hg zB|exact Arr.left zB|exact Arr.left (Arr.mono hg zB)) (h:=fun p25 cs25 hp25 hr25=>?_);obtain ⟨ra3_25,ra5_25,ra6_25,rc3_25,rc5_25,rc6_25,rfl,ho0_25,ho1_25,ho2_25,ha3_25,ha5_25,ha6_25⟩:=RecRp.sh hr25;refine .quiet (.p rfl) rfl (fun _=>.fieldAddr fld74x1 rfl)<|.quiet (.p rfl) rfl (fun _=>.loadAt flat3 rfl (hp25.drop 1) rfl) ?_;refine .quiet (.p rfl) rfl (fun _=>.eql rfl rfl)<|OD.sT 28 rfl (by exact decide_eq_true c1) ?_
        refine OD.q 3 rfl<|OD.ia (.g rfl rfl) underlying47 size74 rfl rfl rfl (by first|assumption|exact Arr.mono hg zB|exact Arr.left zB|exact Arr.left (Arr.mono hg zB)) (h:=fun p32 cs32 hp32 hr32=>?_);obtain ⟨ra3_32,ra5_32,ra6_32,rc3_32,rc5_32,rc6_32,rfl,ho0_32,ho1_32,ho2_32,ha3_32,ha5_32,ha6_32⟩:=RecRp.sh hr32;refine .quiet (.g rfl rfl) rfl (fun _=>.fieldAddr fld74x2 rfl)<|.quiet (.g rfl rfl) rfl (fun _=>.loadAt flat3 rfl (hp32.drop 2) rfl) ?_;refine OD.q 2 rfl<|OD.ia (.g rfl rfl) underlying47 size74 rfl rfl rfl (by first|assumption|exact Arr.mono hg zB|exact Arr.left zB|exact Arr.left (Arr.mono hg zB)) (h:=fun p37 cs37 hp37 hr37=>?_);obtain ⟨ra3_37,ra5_37,ra6_37,rc3_37,rc5_37,rc6_37,rfl,ho0_37,ho1_37,ho2_37,ha3_37,ha5_37,ha6_37⟩:=RecRp.sh hr37;refine .quiet (.g rfl rfl) rfl (fun _=>.fieldAddr fld74x2 rfl)<|.quiet (.g rfl rfl) rfl (fun _=>.loadAt flat3 rfl (hp37.drop 2) rfl) ?_;refine .quiet (.g rfl rfl) rfl (fun _=>.eql rfl rfl)<|OD.sF 40 rfl (by exact decide_eq_false c2) ?_;refine OD.q 16 rfl<|OD.ia (.g rfl rfl) underlying47 size74 rfl rfl rfl (by first|assumption|exact Arr.mono hg zB|exact Arr.left zB|exact Arr.left (Arr.mono hg zB)) (h:=fun p57 cs57 hp57 hr57=>?_);obtain ⟨ra3_57,ra5_57,ra6_57,rc3_57,rc5_57,rc6_57,rfl,ho0_57,ho1_57,ho2_57,ha3_57,ha5_57,ha6_57⟩:=RecRp.sh hr57
        refine .quiet (.g rfl rfl) rfl (fun _=>.loadAgg isAgg74 zC rfl hp57) ?_;refine OD.q 2 rfl<|OD.ia (.g rfl rfl) underlying47 size74 rfl rfl rfl (by first|assumption|exact Arr.mono hg zB|exact Arr.left zB|exact Arr.left (Arr.mono hg zB)) (h:=fun p61 cs61 hp61 hr61=>?_);obtain ⟨ra3_61,ra5_61,ra6_61,rc3_61,rc5_61,rc6_61,rfl,ho0_61,ho1_61,ho2_61,ha3_61,ha5_61,ha6_61⟩:=RecRp.sh hr61;refine .quiet (.g rfl rfl) rfl (fun _=>.loadAgg isAgg74 zC rfl hp61) ?_;refine OD.call0 (.g rfl rfl) zC rfl zC rfl rfl (rOver_c (by first|assumption|exact Rp.rel.mono zB hg) (by first|assumption|exact Rp.rel.mono zB hg)) ?_;rintro _ _ ⟨rfl,rfl⟩
        try simp only [zx1,zx2,zx3]
        refine OD.sT 63 rfl (by exact o1) ?_;refine OD.q 3 rfl<|OD.ia (.g rfl rfl) underlying47 size74 rfl rfl rfl (by first|assumption|exact Arr.mono hg zB|exact Arr.left zB|exact Arr.left (Arr.mono hg zB)) (h:=fun p67 cs67 hp67 hr67=>?_);obtain ⟨ra3_67,ra5_67,ra6_67,rc3_67,rc5_67,rc6_67,rfl,ho0_67,ho1_67,ho2_67,ha3_67,ha5_67,ha6_67⟩:=RecRp.sh hr67;refine .quiet (.g rfl rfl) rfl (fun _=>.loadAgg isAgg74 zC rfl hp67) ?_;refine OD.q 2 rfl<|OD.ia (.g rfl rfl) underlying47 size74 rfl rfl rfl (by first|assumption|exact Arr.mono hg zB|exact Arr.left zB|exact Arr.left (Arr.mono hg zB)) (h:=fun p71 cs71 hp71 hr71=>?_);obtain ⟨ra3_71,ra5_71,ra6_71,rc3_71,rc5_71,rc6_71,rfl,ho0_71,ho1_71,ho2_71,ha3_71,ha5_71,ha6_71⟩:=RecRp.sh hr71;refine .quiet (.g rfl rfl) rfl (fun _=>.loadAgg isAgg74 zC rfl hp71) ?_;refine OD.call0 (.g rfl rfl) zC rfl zC rfl rfl (rOver_c (by first|assumption|exact Rp.rel.mono zB hg) (by first|assumption|exact Rp.rel.mono zB hg)) ?_;rintro _ _ ⟨rfl,rfl⟩
        try simp only [zx1,zx2,zx3]
        refine OD.sF 73 rfl (by exact o2) ?_;refine OD.q 2 rfl<|ODx.nil<|S.condF rfl<|S.skip<|S.pk ?_ (S.weaken ?_ (key (()) (by exact ⟨fun q=>absurd (cmpR_z.1 q).2 c2,fun _=>o2⟩)))
        ·repeat (first|exact zpa|exact zpn|(apply zpc;focus (repeat (first|exact zh|apply zt)))|apply zps)
        repeat (first|exact Sub.nil|refine Sub.cons rfl ?_)
    ·skip
     cases o1:over l[i] l[k] with
     |false =>
      refine S.regionD (L:=[0,1,2,3,4,5,6,7,8,9,10,11,12,13,14,15,16,17,18,19,20,21,22,23,24,25,26,27,28,29,30,31,32,33,34,35,36,37,38,39,40,41,42,43,44,45,46,47,48,49,50,51,52,53,54,55,56,57]) F.mixed zC ?_;refine OD.q 2 rfl<|OD.ia (.p rfl) underlying47 size74 rfl rfl rfl (by first|assumption|exact Arr.mono hg zB|exact Arr.left zB|exact Arr.left (Arr.mono hg zB)) (h:=fun p20 cs20 hp20 hr20=>?_);obtain ⟨ra3_20,ra5_20,ra6_20,rc3_20,rc5_20,rc6_20,rfl,ho0_20,ho1_20,ho2_20,ha3_20,ha5_20,ha6_20⟩:=RecRp.sh hr20;refine .quiet (.p rfl) rfl (fun _=>.fieldAddr fld74x1 rfl)<|.quiet (.p rfl) rfl (fun _=>.loadAt flat3 rfl (hp20.drop 1) rfl) ?_;refine OD.q 2 rfl<|OD.ia (.p rfl) underlying47 size74 rfl rfl rfl (by first|assumption|exact Arr.mono hg zB|exact Arr.left zB|exact Arr.left (Arr.mono hg zB)) (h:=fun p25 cs25 hp25 hr25=>?_);obtain ⟨ra3_25,ra5_25,ra6_25,rc3_25,rc5_25,rc6_25,rfl,ho0_25,ho1_25,ho2_25,ha3_25,ha5_25,ha6_25⟩:=RecRp.sh hr25;refine .quiet (.p rfl) rfl (fun _=>.fieldAddr fld74x1 rfl)<|.quiet (.p rfl) rfl (fun _=>.loadAt flat3 rfl (hp25.drop 1) rfl) ?_;refine .quiet (.p rfl) rfl (fun _=>.eql rfl rfl)<|OD.sF 28 rfl (by exact decide_eq_false c1) ?_
      refine OD.q 28 rfl<|OD.ia (.g rfl rfl) underlying47 size74 rfl rfl rfl (by first|assumption|exact Arr.mono hg zB|exact Arr.left zB|exact Arr.left (Arr.mono hg zB)) (h:=fun p57 cs57 hp57 hr57=>?_);obtain ⟨ra3_57,ra5_57,ra6_57,rc3_57,rc5_57,rc6_57,rfl,ho0_57,ho1_57,ho2_57,ha3_57,ha5_57,ha6_57⟩:=RecRp.sh hr57;refine .quiet (.g rfl rfl) rfl (fun _=>.loadAgg isAgg74 zC rfl hp57) ?_;refine OD.q 2 rfl<|OD.ia (.g rfl rfl) underlying47 size74 rfl rfl rfl (by first|assumption|exact Arr.mono hg zB|exact Arr.left zB|exact Arr.left (Arr.mono hg zB)) (h:=fun p61 cs61 hp61 hr61=>?_);obtain ⟨ra3_61,ra5_61,ra6_61,rc3_61,rc5_61,rc6_61,rfl,ho0_61,ho1_61,ho2_61,ha3_61,ha5_61,ha6_61⟩:=RecRp.sh hr61;refine .quiet (.g rfl rfl) rfl (fun _=>.loadAgg isAgg74 zC rfl hp61) ?_;refine OD.call0 (.g rfl rfl) zC rfl zC rfl rfl (rOver_c (by first|assumption|exact Rp.rel.mono zB hg) (by first|assumption|exact Rp.rel.mono zB hg)) ?_;rintro _ _ ⟨rfl,rfl⟩
      try simp only [zx1,zx2,zx3]
      refine OD.sF 63 rfl (by exact o1) ?_;refine OD.q 12 rfl<|ODx.nil<|S.condF rfl<|S.skip<|S.pk ?_ (S.weaken ?_ (key (()) (by exact ⟨fun q=>absurd (cmpR_z.1 q).1 c1,fun q=>(by rw [o1] at q;cases q)⟩)))
      ·repeat (first|exact zpa|exact zpn|(apply zpc;focus (repeat (first|exact zh|apply zt)))|apply zps)
      repeat (first|exact Sub.nil|refine Sub.cons rfl ?_)
     |true =>
      cases o2:over l[k] l[i] with
      |true =>
       refine S.regionD (L:=[0,1,2,3,4,5,6,7,8,9,10,11,12,13,14,15,16,17,18,19,20,21,22,23,24,25,26,27,28,29,30,31,32,33,34,35,36,37,38,39,40,41,42,43,44,45,46,47,48,49,50,51,52,53,54,55,56,57]) F.mixed zC ?_;refine OD.q 2 rfl<|OD.ia (.p rfl) underlying47 size74 rfl rfl rfl (by first|assumption|exact Arr.mono hg zB|exact Arr.left zB|exact Arr.left (Arr.mono hg zB)) (h:=fun p20 cs20 hp20 hr20=>?_);obtain ⟨ra3_20,ra5_20,ra6_20,rc3_20,rc5_20,rc6_20,rfl,ho0_20,ho1_20,ho2_20,ha3_20,ha5_20,ha6_20⟩:=RecRp.sh hr20;refine .quiet (.p rfl) rfl (fun _=>.fieldAddr fld74x1 rfl)<|.quiet (.p rfl) rfl (fun _=>.loadAt flat3 rfl (hp20.drop 1) rfl) ?_;refine OD.q 2 rfl<|OD.ia (.p rfl) underlying47 size74 rfl rfl rfl (by first|assumption|exact Arr.mono hg zB|exact Arr.left zB|exact Arr.left (Arr.mono hg zB)) (h:=fun p25 cs25 hp25 hr25=>?_);obtain ⟨ra3_25,ra5_25,ra6_25,rc3_25,rc5_25,rc6_25,rfl,ho0_25,ho1_25,ho2_25,ha3_25,ha5_25,ha6_25⟩:=RecRp.sh hr25;refine .quiet (.p rfl) rfl (fun _=>.fieldAddr fld74x1 rfl)<|.quiet (.p rfl) rfl (fun _=>.loadAt flat3 rfl (hp25.drop 1) rfl) ?_;refine .quiet (.p rfl) rfl (fun _=>.eql rfl rfl)<|OD.sF 28 rfl (by exact decide_eq_false c1) ?_
       refine OD.q 28 rfl<|OD.ia (.g rfl rfl) underlying47 size74 rfl rfl rfl (by first|assumption|exact Arr.mono hg zB|exact Arr.left zB|exact Arr.left (Arr.mono hg zB)) (h:=fun p57 cs57 hp57 hr57=>?_);obtain ⟨ra3_57,ra5_57,ra6_57,rc3_57,rc5_57,rc6_57,rfl,ho0_57,ho1_57,ho2_57,ha3_57,ha5_57,ha6_57⟩:=RecRp.sh hr57;refine .quiet (.g rfl rfl) rfl (fun _=>.loadAgg isAgg74 zC rfl hp57) ?_;refine OD.q 2 rfl<|OD.ia (.g rfl rfl) underlying47 size74 rfl rfl rfl (by first|assumption|exact Arr.mono hg zB|exact Arr.left zB|exact Arr.left (Arr.mono hg zB)) (h:=fun p61 cs61 hp61 hr61=>?_);obtain ⟨ra3_61,ra5_61,ra6_61,rc3_61,rc5_61,rc6_61,rfl,ho0_61,ho1_61,ho2_61,ha3_61,ha5_61,ha6_61⟩:=RecRp.sh hr61;refine .quiet (.g rfl rfl) rfl (fun _=>.loadAgg isAgg74 zC rfl hp61) ?_;refine OD.call0 (.g rfl rfl) zC rfl zC rfl rfl (rOver_c (by first|assumption|exact Rp.rel.mono zB hg) (by first|assumption|exact Rp.rel.mono zB hg)) ?_;rintro _ _ ⟨rfl,rfl⟩
       try simp only [zx1,zx2,zx3]
       refine OD.sT 63 rfl (by exact o1) ?_;refine OD.q 3 rfl<|OD.ia (.g rfl rfl) underlying47 size74 rfl rfl rfl (by first|assumption|exact Arr.mono hg zB|exact Arr.left zB|exact Arr.left (Arr.mono hg zB)) (h:=fun p67 cs67 hp67 hr67=>?_);obtain ⟨ra3_67,ra5_67,ra6_67,rc3_67,rc5_67,rc6_67,rfl,ho0_67,ho1_67,ho2_67,ha3_67,ha5_67,ha6_67⟩:=RecRp.sh hr67;refine .quiet (.g rfl rfl) rfl (fun _=>.loadAgg isAgg74 zC rfl hp67) ?_;refine OD.q 2 rfl<|OD.ia (.g rfl rfl) underlying47 size74 rfl rfl rfl (by first|assumption|exact Arr.mono hg zB|exact Arr.left zB|exact Arr.left (Arr.mono hg zB)) (h:=fun p71 cs71 hp71 hr71=>?_);obtain ⟨ra3_71,ra5_71,ra6_71,rc3_71,rc5_71,rc6_71,rfl,ho0_71,ho1_71,ho2_71,ha3_71,ha5_71,ha6_71⟩:=RecRp.sh hr71;refine .quiet (.g rfl rfl) rfl (fun _=>.loadAgg isAgg74 zC rfl hp71) ?_;refine OD.call0 (.g rfl rfl) zC rfl zC rfl rfl (rOver_c (by first|assumption|exact Rp.rel.mono zB hg) (by first|assumption|exact Rp.rel.mono zB hg)) ?_;rintro _ _ ⟨rfl,rfl⟩
       try simp only [zx1,zx2,zx3]
       refine OD.sT 73 rfl (by exact o2) ?_;refine OD.q 2 rfl<|ODx.nil<|S.condT rfl<|S.seq<|S.region rfl<|O.q 1 rfl<|O.nil ?_;exact S.rt results47 rfl hR ⟨false,rfl,fun q=>(by cases q),rfl⟩
      |false =>
       refine S.regionD (L:=[0,1,2,3,4,5,6,7,8,9,10,11,12,13,14,15,16,17,18,19,20,21,22,23,24,25,26,27,28,29,30,31,32,33,34,35,36,37,38,39,40,41,42,43,44,45,46,47,48,49,50,51,52,53,54,55,56,57]) F.mixed zC ?_;refine OD.q 2 rfl<|OD.ia (.p rfl) underlying47 size74 rfl rfl rfl (by first|assumption|exact Arr.mono hg zB|exact Arr.left zB|exact Arr.left (Arr.mono hg zB)) (h:=fun p20 cs20 hp20 hr20=>?_);obtain ⟨ra3_20,ra5_20,ra6_20,rc3_20,rc5_20,rc6_20,rfl,ho0_20,ho1_20,ho2_20,ha3_20,ha5_20,ha6_20⟩:=RecRp.sh hr20;refine .quiet (.p rfl) rfl (fun _=>.fieldAddr fld74x1 rfl)<|.quiet (.p rfl) rfl (fun _=>.loadAt flat3 rfl (hp20.drop 1) rfl) ?_;refine OD.q 2 rfl<|OD.ia (.p rfl) underlying47 size74 rfl rfl rfl (by first|assumption|exact Arr.mono hg zB|exact Arr.left zB|exact Arr.left (Arr.mono hg zB)) (h:=fun p25 cs25 hp25 hr25=>?_);obtain ⟨ra3_25,ra5_25,ra6_25,rc3_25,rc5_25,rc6_25,rfl,ho0_25,ho1_25,ho2_25,ha3_25,ha5_25,ha6_25⟩:=RecRp.sh hr25;refine .quiet (.p rfl) rfl (fun _=>.fieldAddr fld74x1 rfl)<|.quiet (.p rfl) rfl (fun _=>.loadAt flat3 rfl (hp25.drop 1) rfl) ?_;refine .quiet (.p rfl) rfl (fun _=>.eql rfl rfl)<|OD.sF 28 rfl (by exact decide_eq_false c1) ?_
       refine OD.q 28 rfl<|OD.ia (.g rfl rfl) underlying47 size74 rfl rfl rfl (by first|assumption|exact Arr.mono hg zB|exact Arr.left zB|exact Arr.left (Arr.mono hg zB)) (h:=fun p57 cs57 hp57 hr57=>?_);obtain ⟨ra3_57,ra5_57,ra6_57,rc3_57,rc5_57,rc6_57,rfl,ho0_57,ho1_57,ho2_57,ha3_57,ha5_57,ha6_57⟩:=RecRp.sh hr57;refine .quiet (.g rfl rfl) rfl (fun _=>.loadAgg isAgg74 zC rfl hp57) ?_;refine OD.q 2 rfl<|OD.ia (.g rfl rfl) underlying47 size74 rfl rfl rfl (by first|assumption|exact Arr.mono hg zB|exact Arr.left zB|exact Arr.left (Arr.mono hg zB)) (h:=fun p61 cs61 hp61 hr61=>?_);obtain ⟨ra3_61,ra5_61,ra6_61,rc3_61,rc5_61,rc6_61,rfl,ho0_61,ho1_61,ho2_61,ha3_61,ha5_61,ha6_61⟩:=RecRp.sh hr61;refine .quiet (.g rfl rfl) rfl (fun _=>.loadAgg isAgg74 zC rfl hp61) ?_;refine OD.call0 (.g rfl rfl) zC rfl zC rfl rfl (rOver_c (by first|assumption|exact Rp.rel.mono zB hg) (by first|assumption|exact Rp.rel.mono zB hg)) ?_;rintro _ _ ⟨rfl,rfl⟩
       try simp only [zx1,zx2,zx3]
       refine OD.sT 63 rfl (by exact o1) ?_;refine OD.q 3 rfl<|OD.ia (.g rfl rfl) underlying47 size74 rfl rfl rfl (by first|assumption|exact Arr.mono hg zB|exact Arr.left zB|exact Arr.left (Arr.mono hg zB)) (h:=fun p67 cs67 hp67 hr67=>?_);obtain ⟨ra3_67,ra5_67,ra6_67,rc3_67,rc5_67,rc6_67,rfl,ho0_67,ho1_67,ho2_67,ha3_67,ha5_67,ha6_67⟩:=RecRp.sh hr67;refine .quiet (.g rfl rfl) rfl (fun _=>.loadAgg isAgg74 zC rfl hp67) ?_;refine OD.q 2 rfl<|OD.ia (.g rfl rfl) underlying47 size74 rfl rfl rfl (by first|assumption|exact Arr.mono hg zB|exact Arr.left zB|exact Arr.left (Arr.mono hg zB)) (h:=fun p71 cs71 hp71 hr71=>?_);obtain ⟨ra3_71,ra5_71,ra6_71,rc3_71,rc5_71,rc6_71,rfl,ho0_71,ho1_71,ho2_71,ha3_71,ha5_71,ha6_71⟩:=RecRp.sh hr71;refine .quiet (.g rfl rfl) rfl (fun _=>.loadAgg isAgg74 zC rfl hp71) ?_;refine OD.call0 (.g rfl rfl) zC rfl zC rfl rfl (rOver_c (by first|assumption|exact Rp.rel.mono zB hg) (by first|assumption|exact Rp.rel.mono zB hg)) ?_;rintro _ _ ⟨rfl,rfl⟩
       try simp only [zx1,zx2,zx3]
       refine OD.sF 73 rfl (by exact o2) ?_;refine OD.q 2 rfl<|ODx.nil<|S.condF rfl<|S.skip<|S.pk ?_ (S.weaken ?_ (key (()) (by exact ⟨fun q=>absurd (cmpR_z.1 q).1 c1,fun _=>o2⟩)))
       ·repeat (first|exact zpa|exact zpn|(apply zpc;focus (repeat (first|exact zh|apply zt)))|apply zps)
       repeat (first|exact Sub.nil|refine Sub.cons rfl ?_)
   ·obtain ⟨hz1,hz2⟩:=hx
    refine S.seq<|S.region rfl<|O.q 1 rfl<|O.nil<|S.block<|S.loopK (ι:=Nat) (fun n=>n≤l.length∧∀ m,m<n→∀ hm:m<l.length,over l[k] l[m]=true→over l[i] l[m]=true) (fun n=>[(5,.int .i64 (n:Int))]) [(0,_),(3,_),(4,_)] (fun n=>[]) (fun n=>l.length - n) (0) (by exact ⟨by simp,fun _ q=>absurd q zE⟩) (.cons rfl (.nil)) (.cons rfl (.cons rfl (.cons rfl (.nil)))) rfl fun n hx ih=>?_;have hm3:=meltRefl (g:=g);obtain ⟨hw1,hw2⟩:=hx
    by_cases hn:n<l.length
    ·cases o1:over l[i] l[k] with
     |false =>
      clear ih;have hp:TameP l i k:=fun _ _=>⟨hz1,hz2,fun _ _ q=>by rw [o1] at q;cases q⟩;refine S.seq<|S.seq<|S.regionD (L:=[0,1,2,3,4,5,6,7,8,9,10,11,12,13,14]) F.mixed zC<|OD.q 2 rfl<|.quiet (.p rfl) rfl (fun _=>.len rfl underlying47 rfl)<|.quiet (.p rfl) rfl (fun _=>.lss rfl rfl)<|OD.sT 79 rfl (by exact decide_eq_true zE) ?_;refine OD.q 3 rfl<|OD.ia (.g rfl rfl) underlying47 size74 rfl rfl rfl (by first|assumption|exact Arr.mono hg zB|exact Arr.left zB|exact Arr.left (Arr.mono hg zB)) (h:=fun p83 cs83 hp83 hr83=>?_);obtain ⟨ra3_83,ra5_83,ra6_83,rc3_83,rc5_83,rc6_83,rfl,ho0_83,ho1_83,ho2_83,ha3_83,ha5_83,ha6_83⟩:=RecRp.sh hr83;refine .quiet (.g rfl rfl) rfl (fun _=>.loadAgg isAgg74 zC rfl hp83) ?_;refine OD.q 2 rfl<|OD.ia (.g rfl rfl) underlying47 size74 rfl rfl rfl (by first|assumption|exact Arr.mono hg zB|exact Arr.left zB|exact Arr.left (Arr.mono hg zB)) (h:=fun p87 cs87 hp87 hr87=>?_);obtain ⟨ra3_87,ra5_87,ra6_87,rc3_87,rc5_87,rc6_87,rfl,ho0_87,ho1_87,ho2_87,ha3_87,ha5_87,ha6_87⟩:=RecRp.sh hr87;refine .quiet (.g rfl rfl) rfl (fun _=>.loadAgg isAgg74 zC rfl hp87) ?_;refine OD.call0 (.g rfl rfl) zC rfl zC rfl rfl (rOver_c (by first|assumption|exact Rp.rel.mono zB hg) (by first|assumption|exact Rp.rel.mono zB hg)) ?_;rintro _ _ ⟨rfl,rfl⟩
      try simp only [zx1,zx2,zx3]
      refine OD.sF 89 rfl (by exact o1) ?_;refine OD.q 1 rfl<|ODx.nil<|S.condF rfl<|S.exit rfl<|S.inBlock<|S.region rfl<|O.q 1 rfl<|O.op (.p rfl) (.add rfl rfl (IntWalk.i64_in _ zE))<|O.q 1 rfl<|O.nil ?_;exact S.wk (ih (k+1) (by exact ⟨by omega,lt_step hy2 hp⟩) zE)
     |true =>
      cases o2:over l[k] l[n] with
      |false =>
       refine S.seq<|S.seq<|S.regionD (L:=[0,1,2,3,4,5,6,7,8,9,10,11,12,13,14]) F.mixed zC<|OD.q 2 rfl<|.quiet (.p rfl) rfl (fun _=>.len rfl underlying47 rfl)<|.quiet (.p rfl) rfl (fun _=>.lss rfl rfl)<|OD.sT 79 rfl (by exact decide_eq_true zE) ?_;refine OD.q 3 rfl<|OD.ia (.g rfl rfl) underlying47 size74 rfl rfl rfl (by first|assumption|exact Arr.mono hg zB|exact Arr.left zB|exact Arr.left (Arr.mono hg zB)) (h:=fun p83 cs83 hp83 hr83=>?_);obtain ⟨ra3_83,ra5_83,ra6_83,rc3_83,rc5_83,rc6_83,rfl,ho0_83,ho1_83,ho2_83,ha3_83,ha5_83,ha6_83⟩:=RecRp.sh hr83;refine .quiet (.g rfl rfl) rfl (fun _=>.loadAgg isAgg74 zC rfl hp83) ?_;refine OD.q 2 rfl<|OD.ia (.g rfl rfl) underlying47 size74 rfl rfl rfl (by first|assumption|exact Arr.mono hg zB|exact Arr.left zB|exact Arr.left (Arr.mono hg zB)) (h:=fun p87 cs87 hp87 hr87=>?_);obtain ⟨ra3_87,ra5_87,ra6_87,rc3_87,rc5_87,rc6_87,rfl,ho0_87,ho1_87,ho2_87,ha3_87,ha5_87,ha6_87⟩:=RecRp.sh hr87;refine .quiet (.g rfl rfl) rfl (fun _=>.loadAgg isAgg74 zC rfl hp87) ?_;refine OD.call0 (.g rfl rfl) zC rfl zC rfl rfl (rOver_c (by first|assumption|exact Rp.rel.mono zB hg) (by first|assumption|exact Rp.rel.mono zB hg)) ?_;rintro _ _ ⟨rfl,rfl⟩
       try simp only [zx1,zx2,zx3]
       refine OD.sT 89 rfl (by exact o1) ?_;refine OD.q 1 rfl<|ODx.nil<|S.condT rfl<|S.skip<|S.seq<|S.block<|S.seq<|S.regionD (L:=[0,1,2,3,4,5,6,7,8,9,10,11,12,13,14,15,16,17,18,19,20]) F.mixed zC<|OD.q 2 rfl<|OD.ia (.p rfl) underlying47 size74 rfl rfl rfl (by first|assumption|exact Arr.mono hg zB|exact Arr.left zB|exact Arr.left (Arr.mono hg zB)) (h:=fun p95 cs95 hp95 hr95=>?_);obtain ⟨ra3_95,ra5_95,ra6_95,rc3_95,rc5_95,rc6_95,rfl,ho0_95,ho1_95,ho2_95,ha3_95,ha5_95,ha6_95⟩:=RecRp.sh hr95;refine .quiet (.p rfl) rfl (fun _=>.loadAgg isAgg74 zC rfl hp95) ?_;refine OD.q 2 rfl<|OD.ia (.p rfl) underlying47 size74 rfl rfl rfl (by first|assumption|exact Arr.mono hg zB|exact Arr.left zB|exact Arr.left (Arr.mono hg zB)) (h:=fun p99 cs99 hp99 hr99=>?_);obtain ⟨ra3_99,ra5_99,ra6_99,rc3_99,rc5_99,rc6_99,rfl,ho0_99,ho1_99,ho2_99,ha3_99,ha5_99,ha6_99⟩:=RecRp.sh hr99;refine .quiet (.p rfl) rfl (fun _=>.loadAgg isAgg74 zC rfl hp99) ?_;refine OD.call0 (.p rfl) zC rfl zC rfl rfl (rOver_c (by first|assumption|exact Rp.rel.mono zB hg) (by first|assumption|exact Rp.rel.mono zB hg)) ?_;rintro _ _ ⟨rfl,rfl⟩
       try simp only [zx1,zx2,zx3]
       refine OD.sF 101 rfl (by exact o2) ?_;refine OD.q 12 rfl<|ODx.nil<|S.condF rfl<|S.skip<|S.inBlock<|S.region rfl<|O.q 1 rfl<|O.op (.p rfl) (.add rfl rfl (IntWalk.i64_in _ zE))<|O.q 1 rfl<|O.nil ?_;exact S.wk (ih (n+1) (by exact ⟨by omega,lt_step hw2 fun _ q=>by rw [o2] at q;cases q⟩) zE)
      |true =>
       cases o3:over l[i] l[n] with
       |true =>
        refine S.seq<|S.seq<|S.regionD (L:=[0,1,2,3,4,5,6,7,8,9,10,11,12,13,14]) F.mixed zC<|OD.q 2 rfl<|.quiet (.p rfl) rfl (fun _=>.len rfl underlying47 rfl)<|.quiet (.p rfl) rfl (fun _=>.lss rfl rfl)<|OD.sT 79 rfl (by exact decide_eq_true zE) ?_;refine OD.q 3 rfl<|OD.ia (.g rfl rfl) underlying47 size74 rfl rfl rfl (by first|assumption|exact Arr.mono hg zB|exact Arr.left zB|exact Arr.left (Arr.mono hg zB)) (h:=fun p83 cs83 hp83 hr83=>?_);obtain ⟨ra3_83,ra5_83,ra6_83,rc3_83,rc5_83,rc6_83,rfl,ho0_83,ho1_83,ho2_83,ha3_83,ha5_83,ha6_83⟩:=RecRp.sh hr83;refine .quiet (.g rfl rfl) rfl (fun _=>.loadAgg isAgg74 zC rfl hp83) ?_;refine OD.q 2 rfl<|OD.ia (.g rfl rfl) underlying47 size74 rfl rfl rfl (by first|assumption|exact Arr.mono hg zB|exact Arr.left zB|exact Arr.left (Arr.mono hg zB)) (h:=fun p87 cs87 hp87 hr87=>?_);obtain ⟨ra3_87,ra5_87,ra6_87,rc3_87,rc5_87,rc6_87,rfl,ho0_87,ho1_87,ho2_87,ha3_87,ha5_87,ha6_87⟩:=RecRp.sh hr87;refine .quiet (.g rfl rfl) rfl (fun _=>.loadAgg isAgg74 zC rfl hp87) ?_;refine OD.call0 (.g rfl rfl) zC rfl zC rfl rfl (rOver_c (by first|assumption|exact Rp.rel.mono zB hg) (by first|assumption|exact Rp.rel.mono zB hg)) ?_;rintro _ _ ⟨rfl,rfl⟩
        try simp only [zx1,zx2,zx3]
        refine OD.sT 89 rfl (by exact o1) ?_;refine OD.q 1 rfl<|ODx.nil<|S.condT rfl<|S.skip<|S.seq<|S.block<|S.seq<|S.regionD (L:=[0,1,2,3,4,5,6,7,8,9,10,11,12,13,14,15,16,17,18,19,20]) F.mixed zC<|OD.q 2 rfl<|OD.ia (.p rfl) underlying47 size74 rfl rfl rfl (by first|assumption|exact Arr.mono hg zB|exact Arr.left zB|exact Arr.left (Arr.mono hg zB)) (h:=fun p95 cs95 hp95 hr95=>?_);obtain ⟨ra3_95,ra5_95,ra6_95,rc3_95,rc5_95,rc6_95,rfl,ho0_95,ho1_95,ho2_95,ha3_95,ha5_95,ha6_95⟩:=RecRp.sh hr95;refine .quiet (.p rfl) rfl (fun _=>.loadAgg isAgg74 zC rfl hp95) ?_;refine OD.q 2 rfl<|OD.ia (.p rfl) underlying47 size74 rfl rfl rfl (by first|assumption|exact Arr.mono hg zB|exact Arr.left zB|exact Arr.left (Arr.mono hg zB)) (h:=fun p99 cs99 hp99 hr99=>?_);obtain ⟨ra3_99,ra5_99,ra6_99,rc3_99,rc5_99,rc6_99,rfl,ho0_99,ho1_99,ho2_99,ha3_99,ha5_99,ha6_99⟩:=RecRp.sh hr99;refine .quiet (.p rfl) rfl (fun _=>.loadAgg isAgg74 zC rfl hp99) ?_;refine OD.call0 (.p rfl) zC rfl zC rfl rfl (rOver_c (by first|assumption|exact Rp.rel.mono zB hg) (by first|assumption|exact Rp.rel.mono zB hg)) ?_;rintro _ _ ⟨rfl,rfl⟩
        try simp only [zx1,zx2,zx3]
        refine OD.sT 101 rfl (by exact o2) ?_;refine OD.q 3 rfl<|OD.ia (.g rfl rfl) underlying47 size74 rfl rfl rfl (by first|assumption|exact Arr.mono hg zB|exact Arr.left zB|exact Arr.left (Arr.mono hg zB)) (h:=fun p105 cs105 hp105 hr105=>?_);obtain ⟨ra3_105,ra5_105,ra6_105,rc3_105,rc5_105,rc6_105,rfl,ho0_105,ho1_105,ho2_105,ha3_105,ha5_105,ha6_105⟩:=RecRp.sh hr105;refine .quiet (.g rfl rfl) rfl (fun _=>.loadAgg isAgg74 zC rfl hp105) ?_;refine OD.q 2 rfl<|OD.ia (.g rfl rfl) underlying47 size74 rfl rfl rfl (by first|assumption|exact Arr.mono hg zB|exact Arr.left zB|exact Arr.left (Arr.mono hg zB)) (h:=fun p109 cs109 hp109 hr109=>?_);obtain ⟨ra3_109,ra5_109,ra6_109,rc3_109,rc5_109,rc6_109,rfl,ho0_109,ho1_109,ho2_109,ha3_109,ha5_109,ha6_109⟩:=RecRp.sh hr109;refine .quiet (.g rfl rfl) rfl (fun _=>.loadAgg isAgg74 zC rfl hp109) ?_;refine OD.call0 (.g rfl rfl) zC rfl zC rfl rfl (rOver_c (by first|assumption|exact Rp.rel.mono zB hg) (by first|assumption|exact Rp.rel.mono zB hg)) ?_;rintro _ _ ⟨rfl,rfl⟩
        try simp only [zx1,zx2,zx3]
        refine OD.sT 111 rfl (by exact o3) ?_;refine .quiet (.g rfl rfl) rfl (fun _=>.not rfl)<|OD.q 1 rfl<|ODx.nil<|S.condF rfl<|S.skip<|S.inBlock<|S.region rfl<|O.q 1 rfl<|O.op (.p rfl) (.add rfl rfl (IntWalk.i64_in _ zE))<|O.q 1 rfl<|O.nil ?_;exact S.wk (ih (n+1) (by exact ⟨by omega,lt_step hw2 fun _ _=>o3⟩) zE)
       |false =>
        refine S.seq<|S.seq<|S.regionD (L:=[0,1,2,3,4,5,6,7,8,9,10,11,12,13,14]) F.mixed zC<|OD.q 2 rfl<|.quiet (.p rfl) rfl (fun _=>.len rfl underlying47 rfl)<|.quiet (.p rfl) rfl (fun _=>.lss rfl rfl)<|OD.sT 79 rfl (by exact decide_eq_true zE) ?_;refine OD.q 3 rfl<|OD.ia (.g rfl rfl) underlying47 size74 rfl rfl rfl (by first|assumption|exact Arr.mono hg zB|exact Arr.left zB|exact Arr.left (Arr.mono hg zB)) (h:=fun p83 cs83 hp83 hr83=>?_);obtain ⟨ra3_83,ra5_83,ra6_83,rc3_83,rc5_83,rc6_83,rfl,ho0_83,ho1_83,ho2_83,ha3_83,ha5_83,ha6_83⟩:=RecRp.sh hr83;refine .quiet (.g rfl rfl) rfl (fun _=>.loadAgg isAgg74 zC rfl hp83) ?_;refine OD.q 2 rfl<|OD.ia (.g rfl rfl) underlying47 size74 rfl rfl rfl (by first|assumption|exact Arr.mono hg zB|exact Arr.left zB|exact Arr.left (Arr.mono hg zB)) (h:=fun p87 cs87 hp87 hr87=>?_);obtain ⟨ra3_87,ra5_87,ra6_87,rc3_87,rc5_87,rc6_87,rfl,ho0_87,ho1_87,ho2_87,ha3_87,ha5_87,ha6_87⟩:=RecRp.sh hr87;refine .quiet (.g rfl rfl) rfl (fun _=>.loadAgg isAgg74 zC rfl hp87) ?_;refine OD.call0 (.g rfl rfl) zC rfl zC rfl rfl (rOver_c (by first|assumption|exact Rp.rel.mono zB hg) (by first|assumption|exact Rp.rel.mono zB hg)) ?_;rintro _ _ ⟨rfl,rfl⟩
        try simp only [zx1,zx2,zx3]
        refine OD.sT 89 rfl (by exact o1) ?_;refine OD.q 1 rfl<|ODx.nil<|S.condT rfl<|S.skip<|S.seq<|S.block<|S.seq<|S.regionD (L:=[0,1,2,3,4,5,6,7,8,9,10,11,12,13,14,15,16,17,18,19,20]) F.mixed zC<|OD.q 2 rfl<|OD.ia (.p rfl) underlying47 size74 rfl rfl rfl (by first|assumption|exact Arr.mono hg zB|exact Arr.left zB|exact Arr.left (Arr.mono hg zB)) (h:=fun p95 cs95 hp95 hr95=>?_);obtain ⟨ra3_95,ra5_95,ra6_95,rc3_95,rc5_95,rc6_95,rfl,ho0_95,ho1_95,ho2_95,ha3_95,ha5_95,ha6_95⟩:=RecRp.sh hr95;refine .quiet (.p rfl) rfl (fun _=>.loadAgg isAgg74 zC rfl hp95) ?_;refine OD.q 2 rfl<|OD.ia (.p rfl) underlying47 size74 rfl rfl rfl (by first|assumption|exact Arr.mono hg zB|exact Arr.left zB|exact Arr.left (Arr.mono hg zB)) (h:=fun p99 cs99 hp99 hr99=>?_);obtain ⟨ra3_99,ra5_99,ra6_99,rc3_99,rc5_99,rc6_99,rfl,ho0_99,ho1_99,ho2_99,ha3_99,ha5_99,ha6_99⟩:=RecRp.sh hr99;refine .quiet (.p rfl) rfl (fun _=>.loadAgg isAgg74 zC rfl hp99) ?_;refine OD.call0 (.p rfl) zC rfl zC rfl rfl (rOver_c (by first|assumption|exact Rp.rel.mono zB hg) (by first|assumption|exact Rp.rel.mono zB hg)) ?_;rintro _ _ ⟨rfl,rfl⟩
        try simp only [zx1,zx2,zx3]
        refine OD.sT 101 rfl (by exact o2) ?_;refine OD.q 3 rfl<|OD.ia (.g rfl rfl) underlying47 size74 rfl rfl rfl (by first|assumption|exact Arr.mono hg zB|exact Arr.left zB|exact Arr.left (Arr.mono hg zB)) (h:=fun p105 cs105 hp105 hr105=>?_);obtain ⟨ra3_105,ra5_105,ra6_105,rc3_105,rc5_105,rc6_105,rfl,ho0_105,ho1_105,ho2_105,ha3_105,ha5_105,ha6_105⟩:=RecRp.sh hr105;refine .quiet (.g rfl rfl) rfl (fun _=>.loadAgg isAgg74 zC rfl hp105) ?_;refine OD.q 2 rfl<|OD.ia (.g rfl rfl) underlying47 size74 rfl rfl rfl (by first|assumption|exact Arr.mono hg zB|exact Arr.left zB|exact Arr.left (Arr.mono hg zB)) (h:=fun p109 cs109 hp109 hr109=>?_);obtain ⟨ra3_109,ra5_109,ra6_109,rc3_109,rc5_109,rc6_109,rfl,ho0_109,ho1_109,ho2_109,ha3_109,ha5_109,ha6_109⟩:=RecRp.sh hr109;refine .quiet (.g rfl rfl) rfl (fun _=>.loadAgg isAgg74 zC rfl hp109) ?_;refine OD.call0 (.g rfl rfl) zC rfl zC rfl rfl (rOver_c (by first|assumption|exact Rp.rel.mono zB hg) (by first|assumption|exact Rp.rel.mono zB hg)) ?_;rintro _ _ ⟨rfl,rfl⟩
        try simp only [zx1,zx2,zx3]
        refine OD.sF 111 rfl (by exact o3) ?_;refine .quiet (.g rfl rfl) rfl (fun _=>.not rfl)<|OD.q 1 rfl<|ODx.nil<|S.condT rfl<|S.seq<|S.region rfl<|O.q 1 rfl<|O.nil ?_;exact S.rt results47 rfl hR ⟨false,rfl,fun q=>(by cases q),rfl⟩
    ·clear ih
     have hp:TameP l i k:=fun _ _=>⟨hz1,hz2,fun m hm _ q=>hw2 m zE hm q⟩;refine S.seq<|S.seq<|S.regionD (L:=[0,1,2,3,4,5,6,7,8,9,10,11,12,13,14]) F.mixed zC<|OD.q 2 rfl<|.quiet (.p rfl) rfl (fun _=>.len rfl underlying47 rfl)<|.quiet (.p rfl) rfl (fun _=>.lss rfl rfl)<|OD.sF 79 rfl (by exact decide_eq_false zE) ?_;refine OD.q 11 rfl<|ODx.nil<|S.condF rfl<|S.exit rfl<|S.inBlock<|S.region rfl<|O.q 1 rfl<|O.op (.p rfl) (.add rfl rfl (IntWalk.i64_in _ zE))<|O.q 1 rfl<|O.nil ?_;exact S.wk (ih (k+1) (by exact ⟨by omega,lt_step hy2 hp⟩) zE)
  ·clear ih
   refine S.exit rfl<|S.inBlock<|S.region rfl<|O.q 1 rfl<|O.op (.p rfl) (.add rfl rfl (IntWalk.i64_in _ zE))<|O.q 1 rfl<|O.nil ?_;exact S.wk (ih (i+1) (by exact ⟨by omega,lt_step hx2 fun b hb=>hy2 b zE⟩) zE)
 ·clear ih
  refine S.exit rfl<|S.seq<|S.region rfl<|O.q 1 rfl<|O.nil ?_;exact S.rt results47 rfl hR ⟨true,rfl,fun _=>tame_of fun a b ha hb=>hx2 a zE b hb,rfl⟩
theorem siblingSteps_c {r:Fr} {va vb vc:Value} {xs ys zs:List RecT} (ha:Arr RecRp r va xs) (ho:xs.length≤big∧∀ x∈xs,RecOk big x) (hb:Arr RecRp r vb ys) (ho' :ys.length≤big∧∀ x∈ys,RecOk big x) (hc:Arr RecRp r vc zs) (ho2:zs.length≤big∧∀ x∈zs,RecOk big x) :
  Con prog 9 #[va,vb,vc] r [] (Ret fun v η=>v=.bool true∧η=[]):=by
 obtain ⟨ax,cx,rfl⟩:=ha.shape;obtain ⟨ay,cy,rfl⟩:=hb.shape;obtain ⟨az,cz,rfl⟩:=hc.shape;refine Con.of (n:=195) _ rfl func9 rfl rfl rfl fun g hg R hR=>?_;have ha:=ha.mono hg;have hb:=hb.mono hg;have hc:=hc.mono hg;refine S.seq<|S.region rfl<|O.q 1 rfl<|O.nil<|S.seq<|S.seq<|S.region rfl<|O.call0 (.p rfl) rfl zC rfl rfl (sawake_c) ?_;rintro _ _ ⟨rfl,rfl⟩
 try simp only [zx1,zx2,zx3]
 refine O.sT 25 rfl (by first|decide|simp) ?_;refine O.op (.p rfl) (.not rfl)<|O.nil<|S.condF rfl<|S.skip<|S.seq<|S.seq<|S.region rfl<|O.q 3 rfl<|O.opE (.p rfl) (.litP (T:=Rp.cells 1) (ys:=[[.slice ax xs.length cx],[.slice ay ys.length cy],[.slice az zs.length cz]]) underlying65 elem47 zF rfl rfl ⟨⟨rfl,rfl,by first|(simp;done)|(intro v hv;simp [Value.cells] at hv;rcases hv with rfl|rfl<;>rfl)|(refine List.forall_mem_cons.2 ⟨rfl,?_⟩;repeat (first|exact (fun _ h=>absurd h List.not_mem_nil)|refine List.forall_mem_cons.2 ⟨rfl,?_⟩))⟩,⟨rfl,rfl,by first|(simp;done)|(intro v hv;simp [Value.cells] at hv;rcases hv with rfl|rfl<;>rfl)|(refine List.forall_mem_cons.2 ⟨rfl,?_⟩;repeat (first|exact (fun _ h=>absurd h List.not_mem_nil)|refine List.forall_mem_cons.2 ⟨rfl,?_⟩))⟩,⟨rfl,rfl,by first|(simp;done)|(intro v hv;simp [Value.cells] at hv;rcases hv with rfl|rfl<;>rfl)|(refine List.forall_mem_cons.2 ⟨rfl,?_⟩;repeat (first|exact (fun _ h=>absurd h List.not_mem_nil)|refine List.forall_mem_cons.2 ⟨rfl,?_⟩))⟩,trivial⟩ zF) ?_;rintro _ _ ⟨a30,c30,rfl,rfl⟩;refine O.frzA zD fun g hs hm ha30=>?_;replace hg:=Fr.sub_trans hg hs;replace hR:=melted hR hm
 try replace ha:=ha.mono hs
 try replace hb:=hb.mono hs
 try replace hc:=hc.mono hs
 clear hs hm;refine O.call0 (.p rfl) rfl zC rfl rfl ((great_c (ss:=[xs,ys,zs]) (Arr.ofCells ha30 ⟨⟨_,rfl,ha⟩,⟨_,rfl,hb⟩,⟨_,rfl,hc⟩,trivial⟩ rfl) (fun l hl=>by rcases List.mem_cons.1 hl with h|h;rw [h];exact ho;rcases List.mem_cons.1 h with h|h;rw [h];exact ho' ;rw [List.mem_singleton.1 h];exact ho2) zI)) ?_;rintro v31 _ ⟨gr,rfl,hgr,rfl⟩
 try simp only [zx1,zx2,zx3]
 refine O.q 1 rfl ?_
 first|refine O.caseD 32 rfl (fun h32=>?_) (fun h32=>?_)|refine O.caseB 32 rfl (fun h32=>?_) (fun h32=>?_)
 ·refine O.q 10 rfl<|O.nil<|S.condT rfl<|S.seq<|S.region rfl<|O.q 1 rfl<|O.nil ?_
  exact S.rt results9 rfl hR ⟨rfl,rfl⟩
 ·have hgf:gr=false:=by simpa using h32
  obtain ⟨hl,hk⟩:=recsOk_of (Nat.le_refl _) (hgr hgf xs List.mem_cons_self);obtain ⟨hl',hk'⟩:=recsOk_of (Nat.le_refl _) (hgr hgf ys (List.mem_cons_of_mem _ List.mem_cons_self));obtain ⟨hl2,hk2⟩:=recsOk_of (Nat.le_refl _) (hgr hgf zs (List.mem_cons_of_mem _ (List.mem_cons_of_mem _ List.mem_cons_self)));refine O.q 1 rfl<|O.op (.g rfl rfl) (.len rfl underlying47 rfl)<|O.q 1 rfl<|O.op (.g rfl rfl) (.len rfl underlying47 rfl)<|O.op (.g rfl rfl) (.add rfl rfl (IntWalk.i64_in _ zE))<|O.q 1 rfl<|O.op (.g rfl rfl) (.len rfl underlying47 rfl)<|O.op (.g rfl rfl) (.add rfl rfl (IntWalk.i64_in _ zE))<|O.op (.g rfl rfl) (.gtr rfl rfl)<|O.q 1 rfl<|O.nil ?_
  first|refine S.condD rfl (fun h42=>?_) (fun h42=>?_)|refine S.condB rfl (fun h42=>?_) (fun h42=>?_)
  ·refine S.seq<|S.region rfl<|O.q 1 rfl<|O.nil ?_
   exact S.rt results9 rfl hR ⟨rfl,rfl⟩
  ·obtain ⟨csx,hcx,hrx⟩:=Arr.cellsOf ha
   obtain ⟨csy,hcy,hry⟩:=Arr.cellsOf hb;obtain ⟨csz,hcz,hrz⟩:=Arr.cellsOf hc;have hlx:=hrx.length;have hly:=hry.length;have hlz:=hrz.length;rw [show RecRp.k=7 from rfl] at hcx hcy hcz;have hg0:=Fr.sub_refl g.h;refine S.skip<|S.seq<|S.region rfl<|O.opE (.p rfl) (.litP (T:=Rp.cells 7) (ys:=[]) underlying47 elem74 zF rfl rfl trivial zF) ?_;rintro _ _ ⟨a43,c43,rfl,rfl⟩;refine O.q 1 rfl<|O.opE (.p rfl) (.appendP (T:=(Rp.cells 7)) (pure_cells 7) underlying47 elem74 zF rfl rfl zD (by first|assumption|exact Arr.mono hg zB|exact Arr.left zB|exact Arr.left (Arr.mono hg zB)) zJ zJ) ?_;rintro _ _ ⟨a45,c45,rfl,rfl⟩;refine O.q 1 rfl<|O.opE (.p rfl) (.appendP (T:=(Rp.cells 7)) (pure_cells 7) underlying47 elem74 zF rfl rfl zD (by first|assumption|exact Arr.mono hg zB|exact Arr.left zB|exact Arr.left (Arr.mono hg zB)) zJ zJ) ?_;rintro _ _ ⟨a47,c47,rfl,rfl⟩;refine O.q 1 rfl<|O.opE (.p rfl) (.appendP (T:=(Rp.cells 7)) (pure_cells 7) underlying47 elem74 zF rfl rfl zD (by first|assumption|exact Arr.mono hg zB|exact Arr.left zB|exact Arr.left (Arr.mono hg zB)) zJ zJ) ?_;rintro _ _ ⟨a49,c49,rfl,rfl⟩;refine O.q 1 rfl<|O.nil<|S.seq<|S.frz (A:=OwnP (Rp.cells 7) 74 (.slice a49 ((([]++csx)++csy).length+csz.length) c49) ((([]++csx)++csy)++csz)) zD fun g hs hm ⟨_,x',s'⟩=>?_
   have hall:=(fun s x=>Arr.ofCells (T:=RecRp) (xs:=xs++ys++zs) ((OwnP.arr x).mono s) (All2.appR (All2.appR (All2.imp (fun _ _ q=>Rp.mono RecRp (Fr.sub_trans hg0 hs) q) hrx) (All2.imp (fun _ _ q=>Rp.mono RecRp (Fr.sub_trans hg0 hs) q) hry)) (All2.imp (fun _ _ q=>Rp.mono RecRp (Fr.sub_trans hg0 hs) q) hrz)) rfl) s' x';clear x' s';replace hg:=Fr.sub_trans hg hs;replace hR:=melted hR hm
   try replace ha:=ha.mono hs
   try replace hb:=hb.mono hs
   try replace hc:=hc.mono hs
   try replace ha30:=ha30.mono hs
   try replace hcx:=hcx.mono hs
   try replace hcy:=hcy.mono hs
   try replace hcz:=hcz.mono hs
   try replace hg0:=hg0.mono hs
   clear hs hm;have hln:(([]++csx)++csy).length+csz.length=(xs++ys++zs).length:=by rw [List.nil_append,List.length_append,List.length_append,List.length_append,hlx,hly,hlz]
   rw [hln] at hall ⊢;have hlA:(xs++ys++zs).length≤60:=by rw [List.length_append,List.length_append];omega
   have f2:∀ a b:List RecT,[a,b].flatten.length=a.length+b.length:=fun a b=>by simp
   have f3:∀ a b c:List RecT,[a,b,c].flatten.length=a.length+(b.length+c.length):=fun a b c=>by simp
   clear hln hlx hly hlz hrx hry hrz
   by_cases e1:¬ oneK (xs++ys++zs)=true
   ·have e2:[xs,ys,zs].flatten=xs++ys++zs:=by simp
    obtain ⟨o1,o2⟩:=jGetN e1;rw [← e2] at o1 o2;refine S.region rfl<|O.q 3 rfl<|O.opE (.p rfl) (.litP (T:=Rp.cells 1) (ys:=[[.slice ax xs.length cx],[.slice ay ys.length cy],[.slice az zs.length cz]]) underlying65 elem47 zF rfl rfl ⟨⟨rfl,rfl,by first|(simp;done)|(intro v hv;simp [Value.cells] at hv;rcases hv with rfl|rfl<;>rfl)|(refine List.forall_mem_cons.2 ⟨rfl,?_⟩;repeat (first|exact (fun _ h=>absurd h List.not_mem_nil)|refine List.forall_mem_cons.2 ⟨rfl,?_⟩))⟩,⟨rfl,rfl,by first|(simp;done)|(intro v hv;simp [Value.cells] at hv;rcases hv with rfl|rfl<;>rfl)|(refine List.forall_mem_cons.2 ⟨rfl,?_⟩;repeat (first|exact (fun _ h=>absurd h List.not_mem_nil)|refine List.forall_mem_cons.2 ⟨rfl,?_⟩))⟩,⟨rfl,rfl,by first|(simp;done)|(intro v hv;simp [Value.cells] at hv;rcases hv with rfl|rfl<;>rfl)|(refine List.forall_mem_cons.2 ⟨rfl,?_⟩;repeat (first|exact (fun _ h=>absurd h List.not_mem_nil)|refine List.forall_mem_cons.2 ⟨rfl,?_⟩))⟩,trivial⟩ zF) ?_;rintro _ _ ⟨a54,c54,rfl,rfl⟩;refine O.frzA zD fun g hs hm ha54=>?_;replace hg:=Fr.sub_trans hg hs;replace hR:=melted hR hm
    try replace ha:=ha.mono hs
    try replace hb:=hb.mono hs
    try replace hc:=hc.mono hs
    try replace ha30:=ha30.mono hs
    try replace hcx:=hcx.mono hs
    try replace hcy:=hcy.mono hs
    try replace hcz:=hcz.mono hs
    try replace hg0:=hg0.mono hs
    try replace hall:=hall.mono hs
    try replace hall:=hall.mono hs
    clear hs hm;refine O.call0 (.p rfl) rfl zC rfl rfl ((sJoin_c (ss:=[xs,ys,zs]) (Arr.ofCells ha54 ⟨⟨_,rfl,ha⟩,⟨_,rfl,hb⟩,⟨_,rfl,hc⟩,trivial⟩ rfl) (by rw [f3];omega))) ?_;rintro _ _ ⟨a55,c55,rfl,rfl⟩
    try simp only [zx1,zx2,zx3]
    rw [o1,o2];refine O.q 5 rfl<|O.nil<|S.seq<|S.seq<|S.region rfl<|O.q 1 rfl<|O.op (.p rfl) (.neq rfl rfl)<|O.sT 59 rfl zF ?_;refine O.nil<|S.condT rfl<|S.seq<|S.region rfl<|O.q 1 rfl<|O.op (.p rfl) (.len rfl underlying47 rfl)<|O.op (.p rfl) (.eql rfl rfl)<|O.sT 62 rfl zF ?_;refine O.q 1 rfl<|O.nil ?_;exact S.rt results9 rfl hR ⟨rfl,rfl⟩
   ·obtain ⟨L,o1,o2,o3,o4,hLr,hLl,hT⟩:=steps_ex (Classical.not_not.1 e1)
    generalize xs++ys++zs=A at *;refine S.region rfl<|O.q 3 rfl<|O.opE (.p rfl) (.litP (T:=Rp.cells 1) (ys:=[[.slice ax xs.length cx],[.slice ay ys.length cy],[.slice az zs.length cz]]) underlying65 elem47 zF rfl rfl ⟨⟨rfl,rfl,by first|(simp;done)|(intro v hv;simp [Value.cells] at hv;rcases hv with rfl|rfl<;>rfl)|(refine List.forall_mem_cons.2 ⟨rfl,?_⟩;repeat (first|exact (fun _ h=>absurd h List.not_mem_nil)|refine List.forall_mem_cons.2 ⟨rfl,?_⟩))⟩,⟨rfl,rfl,by first|(simp;done)|(intro v hv;simp [Value.cells] at hv;rcases hv with rfl|rfl<;>rfl)|(refine List.forall_mem_cons.2 ⟨rfl,?_⟩;repeat (first|exact (fun _ h=>absurd h List.not_mem_nil)|refine List.forall_mem_cons.2 ⟨rfl,?_⟩))⟩,⟨rfl,rfl,by first|(simp;done)|(intro v hv;simp [Value.cells] at hv;rcases hv with rfl|rfl<;>rfl)|(refine List.forall_mem_cons.2 ⟨rfl,?_⟩;repeat (first|exact (fun _ h=>absurd h List.not_mem_nil)|refine List.forall_mem_cons.2 ⟨rfl,?_⟩))⟩,trivial⟩ zF) ?_;rintro _ _ ⟨a54,c54,rfl,rfl⟩;refine O.frzA zD fun g hs hm ha54=>?_;replace hg:=Fr.sub_trans hg hs;replace hR:=melted hR hm
    try replace ha:=ha.mono hs
    try replace hb:=hb.mono hs
    try replace hc:=hc.mono hs
    try replace ha30:=ha30.mono hs
    try replace hcx:=hcx.mono hs
    try replace hcy:=hcy.mono hs
    try replace hcz:=hcz.mono hs
    try replace hg0:=hg0.mono hs
    try replace hall:=hall.mono hs
    try replace hall:=hall.mono hs
    clear hs hm;refine O.call0 (.p rfl) rfl zC rfl rfl ((sJoin_c (ss:=[xs,ys,zs]) (Arr.ofCells ha54 ⟨⟨_,rfl,ha⟩,⟨_,rfl,hb⟩,⟨_,rfl,hc⟩,trivial⟩ rfl) (by rw [f3];omega))) ?_;rintro _ _ ⟨a55,c55,rfl,rfl⟩
    try simp only [zx1,zx2,zx3]
    rw [o1,o2];refine O.q 5 rfl<|O.nil<|S.seq<|S.seq<|S.frzG (T:=RecRp) rfl zD fun g hs hm hL=>?_;replace hg:=Fr.sub_trans hg hs;replace hR:=melted hR hm
    try replace ha:=ha.mono hs
    try replace hb:=hb.mono hs
    try replace hc:=hc.mono hs
    try replace ha30:=ha30.mono hs
    try replace hcx:=hcx.mono hs
    try replace hcy:=hcy.mono hs
    try replace hcz:=hcz.mono hs
    try replace hg0:=hg0.mono hs
    try replace hall:=hall.mono hs
    try replace hall:=hall.mono hs
    try replace ha54:=ha54.mono hs
    clear hs hm;refine S.region rfl<|O.q 1 rfl<|O.op (.p rfl) (.neq rfl rfl)<|O.sF 59 rfl zF ?_;refine O.nil<|S.condF rfl<|S.skip<|S.seq<|S.region rfl<|O.q 3 rfl<|O.opE (.p rfl) (.litP (T:=Rp.cells 1) (ys:=[[.slice az zs.length cz],[.slice ay ys.length cy],[.slice ax xs.length cx]]) underlying65 elem47 zF rfl rfl ⟨⟨rfl,rfl,by first|(simp;done)|(intro v hv;simp [Value.cells] at hv;rcases hv with rfl|rfl<;>rfl)|(refine List.forall_mem_cons.2 ⟨rfl,?_⟩;repeat (first|exact (fun _ h=>absurd h List.not_mem_nil)|refine List.forall_mem_cons.2 ⟨rfl,?_⟩))⟩,⟨rfl,rfl,by first|(simp;done)|(intro v hv;simp [Value.cells] at hv;rcases hv with rfl|rfl<;>rfl)|(refine List.forall_mem_cons.2 ⟨rfl,?_⟩;repeat (first|exact (fun _ h=>absurd h List.not_mem_nil)|refine List.forall_mem_cons.2 ⟨rfl,?_⟩))⟩,⟨rfl,rfl,by first|(simp;done)|(intro v hv;simp [Value.cells] at hv;rcases hv with rfl|rfl<;>rfl)|(refine List.forall_mem_cons.2 ⟨rfl,?_⟩;repeat (first|exact (fun _ h=>absurd h List.not_mem_nil)|refine List.forall_mem_cons.2 ⟨rfl,?_⟩))⟩,trivial⟩ zF) ?_;rintro _ _ ⟨a67,c67,rfl,rfl⟩;refine O.frzA zD fun g hs hm ha67=>?_;replace hg:=Fr.sub_trans hg hs;replace hR:=melted hR hm
    try replace ha:=ha.mono hs
    try replace hb:=hb.mono hs
    try replace hc:=hc.mono hs
    try replace ha30:=ha30.mono hs
    try replace hcx:=hcx.mono hs
    try replace hcy:=hcy.mono hs
    try replace hcz:=hcz.mono hs
    try replace hg0:=hg0.mono hs
    try replace hall:=hall.mono hs
    try replace hall:=hall.mono hs
    try replace ha54:=ha54.mono hs
    try replace hL:=hL.mono hs
    try replace hL:=hL.mono hs
    clear hs hm;refine O.call0 (.p rfl) rfl zC rfl rfl ((sJoin_c (ss:=[zs,ys,xs]) (Arr.ofCells ha67 ⟨⟨_,rfl,hc⟩,⟨_,rfl,hb⟩,⟨_,rfl,ha⟩,trivial⟩ rfl) (by rw [f3];omega))) ?_;rintro _ _ ⟨a68,c68,rfl,rfl⟩
    try simp only [zx1,zx2,zx3]
    rw [o3,o4];refine O.q 5 rfl<|O.nil<|S.seq<|S.seq<|S.frzG (T:=RecRp) rfl zD fun g hs hm hU=>?_;replace hg:=Fr.sub_trans hg hs;replace hR:=melted hR hm
    try replace ha:=ha.mono hs
    try replace hb:=hb.mono hs
    try replace hc:=hc.mono hs
    try replace ha30:=ha30.mono hs
    try replace hcx:=hcx.mono hs
    try replace hcy:=hcy.mono hs
    try replace hcz:=hcz.mono hs
    try replace hg0:=hg0.mono hs
    try replace hall:=hall.mono hs
    try replace hall:=hall.mono hs
    try replace ha54:=ha54.mono hs
    try replace hL:=hL.mono hs
    try replace hL:=hL.mono hs
    try replace ha67:=ha67.mono hs
    clear hs hm;refine S.region rfl<|O.q 1 rfl<|O.op (.p rfl) (.neq rfl rfl)<|O.sF 72 rfl zF ?_;refine O.q 3 rfl<|O.call0 (.g rfl rfl) rfl zC rfl rfl ((sameRecords_c hL hU)) ?_;rintro _ _ ⟨rfl,rfl⟩
    try simp only [zx1,zx2,zx3]
    refine O.sT 76 rfl zI ?_;refine O.op (.g rfl rfl) (.not rfl)<|O.q 3 rfl<|O.call0 (.g rfl rfl) rfl zC rfl rfl ((sRight_c hL zE)) ?_;rintro _ _ ⟨rfl,rfl⟩
    try simp only [zx1,zx2,zx3]
    refine O.sT 81 rfl (by exact decide_eq_true hLr) ?_;refine O.op (.g rfl rfl) (.not rfl)<|O.q 1 rfl<|O.nil<|S.condF rfl<|S.skip<|S.seq<|S.seq<|S.region rfl<|O.q 1 rfl<|O.call0 (.p rfl) rfl zC rfl rfl ((tame_c hall)) ?_;rintro v85 _ ⟨tm,rfl,htm,rfl⟩
    try simp only [zx1,zx2,zx3]
    refine O.op (.p rfl) ((by first|exact .notD rfl|exact .not rfl)) ?_;refine O.nil ?_
    first|refine S.condD rfl (fun h86=>?_) (fun h86=>?_)|refine S.condB rfl (fun h86=>?_) (fun h86=>?_)
    ·refine S.seq<|S.region rfl<|O.q 1 rfl<|O.nil ?_
     exact S.rt results9 rfl hR ⟨rfl,rfl⟩
    ·obtain ⟨p,q,p1,p2,q1,q2,p3,q3,u1,u2,u3,u4,u5,u6,hdom⟩:=hT (htm (by simpa using h86))
     refine S.skip<|S.seq<|S.region rfl<|O.q 2 rfl<|O.opE (.p rfl) (.litP (T:=Rp.cells 1) (ys:=[[.slice ax xs.length cx],[.slice ay ys.length cy]]) underlying65 elem47 zF rfl rfl ⟨⟨rfl,rfl,by first|(simp;done)|(intro v hv;simp [Value.cells] at hv;rcases hv with rfl|rfl<;>rfl)|(refine List.forall_mem_cons.2 ⟨rfl,?_⟩;repeat (first|exact (fun _ h=>absurd h List.not_mem_nil)|refine List.forall_mem_cons.2 ⟨rfl,?_⟩))⟩,⟨rfl,rfl,by first|(simp;done)|(intro v hv;simp [Value.cells] at hv;rcases hv with rfl|rfl<;>rfl)|(refine List.forall_mem_cons.2 ⟨rfl,?_⟩;repeat (first|exact (fun _ h=>absurd h List.not_mem_nil)|refine List.forall_mem_cons.2 ⟨rfl,?_⟩))⟩,trivial⟩ zF) ?_;rintro _ _ ⟨a90,c90,rfl,rfl⟩;refine O.frzA zD fun g hs hm ha90=>?_;replace hg:=Fr.sub_trans hg hs;replace hR:=melted hR hm
     try replace ha:=ha.mono hs
     try replace hb:=hb.mono hs
     try replace hc:=hc.mono hs
     try replace ha30:=ha30.mono hs
     try replace hcx:=hcx.mono hs
     try replace hcy:=hcy.mono hs
     try replace hcz:=hcz.mono hs
     try replace hg0:=hg0.mono hs
     try replace hall:=hall.mono hs
     try replace hall:=hall.mono hs
     try replace ha54:=ha54.mono hs
     try replace hL:=hL.mono hs
     try replace hL:=hL.mono hs
     try replace ha67:=ha67.mono hs
     try replace hU:=hU.mono hs
     try replace hU:=hU.mono hs
     clear hs hm;refine O.call0 (.p rfl) rfl zC rfl rfl ((sJoin_c (ss:=[xs,ys]) (Arr.ofCells ha90 ⟨⟨_,rfl,ha⟩,⟨_,rfl,hb⟩,trivial⟩ rfl) (by rw [f2];omega))) ?_;rintro _ _ ⟨a91,c91,rfl,rfl⟩
     try simp only [zx1,zx2,zx3]
     rw [p1,p2];refine O.q 5 rfl<|O.nil<|S.seq<|S.frzG (T:=RecRp) rfl zD fun g hs hm hP=>?_;replace hg:=Fr.sub_trans hg hs;replace hR:=melted hR hm
     try replace ha:=ha.mono hs
     try replace hb:=hb.mono hs
     try replace hc:=hc.mono hs
     try replace ha30:=ha30.mono hs
     try replace hcx:=hcx.mono hs
     try replace hcy:=hcy.mono hs
     try replace hcz:=hcz.mono hs
     try replace hg0:=hg0.mono hs
     try replace hall:=hall.mono hs
     try replace hall:=hall.mono hs
     try replace ha54:=ha54.mono hs
     try replace hL:=hL.mono hs
     try replace hL:=hL.mono hs
     try replace ha67:=ha67.mono hs
     try replace hU:=hU.mono hs
     try replace hU:=hU.mono hs
     try replace ha90:=ha90.mono hs
     clear hs hm;refine S.region rfl<|O.q 2 rfl<|O.opE (.p rfl) (.litP (T:=Rp.cells 1) (ys:=[[.slice az zs.length cz],[.slice ay ys.length cy]]) underlying65 elem47 zF rfl rfl ⟨⟨rfl,rfl,by first|(simp;done)|(intro v hv;simp [Value.cells] at hv;rcases hv with rfl|rfl<;>rfl)|(refine List.forall_mem_cons.2 ⟨rfl,?_⟩;repeat (first|exact (fun _ h=>absurd h List.not_mem_nil)|refine List.forall_mem_cons.2 ⟨rfl,?_⟩))⟩,⟨rfl,rfl,by first|(simp;done)|(intro v hv;simp [Value.cells] at hv;rcases hv with rfl|rfl<;>rfl)|(refine List.forall_mem_cons.2 ⟨rfl,?_⟩;repeat (first|exact (fun _ h=>absurd h List.not_mem_nil)|refine List.forall_mem_cons.2 ⟨rfl,?_⟩))⟩,trivial⟩ zF) ?_;rintro _ _ ⟨a97,c97,rfl,rfl⟩;refine O.frzA zD fun g hs hm ha97=>?_;replace hg:=Fr.sub_trans hg hs;replace hR:=melted hR hm
     try replace ha:=ha.mono hs
     try replace hb:=hb.mono hs
     try replace hc:=hc.mono hs
     try replace ha30:=ha30.mono hs
     try replace hcx:=hcx.mono hs
     try replace hcy:=hcy.mono hs
     try replace hcz:=hcz.mono hs
     try replace hg0:=hg0.mono hs
     try replace hall:=hall.mono hs
     try replace hall:=hall.mono hs
     try replace ha54:=ha54.mono hs
     try replace hL:=hL.mono hs
     try replace hL:=hL.mono hs
     try replace ha67:=ha67.mono hs
     try replace hU:=hU.mono hs
     try replace hU:=hU.mono hs
     try replace ha90:=ha90.mono hs
     try replace hP:=hP.mono hs
     try replace hP:=hP.mono hs
     clear hs hm;refine O.call0 (.p rfl) rfl zC rfl rfl ((sJoin_c (ss:=[zs,ys]) (Arr.ofCells ha97 ⟨⟨_,rfl,hc⟩,⟨_,rfl,hb⟩,trivial⟩ rfl) (by rw [f2];omega))) ?_;rintro _ _ ⟨a98,c98,rfl,rfl⟩
     try simp only [zx1,zx2,zx3]
     rw [q1,q2];refine O.q 5 rfl<|O.nil<|S.seq<|S.frzG (T:=RecRp) rfl zD fun g hs hm hQ=>?_;replace hg:=Fr.sub_trans hg hs;replace hR:=melted hR hm
     try replace ha:=ha.mono hs
     try replace hb:=hb.mono hs
     try replace hc:=hc.mono hs
     try replace ha30:=ha30.mono hs
     try replace hcx:=hcx.mono hs
     try replace hcy:=hcy.mono hs
     try replace hcz:=hcz.mono hs
     try replace hg0:=hg0.mono hs
     try replace hall:=hall.mono hs
     try replace hall:=hall.mono hs
     try replace ha54:=ha54.mono hs
     try replace hL:=hL.mono hs
     try replace hL:=hL.mono hs
     try replace ha67:=ha67.mono hs
     try replace hU:=hU.mono hs
     try replace hU:=hU.mono hs
     try replace ha90:=ha90.mono hs
     try replace hP:=hP.mono hs
     try replace hP:=hP.mono hs
     try replace ha97:=ha97.mono hs
     clear hs hm;refine S.region rfl<|O.q 2 rfl<|O.opE (.p rfl) (.litP (T:=Rp.cells 1) (ys:=[[.slice a91 p.length c91],[.slice az zs.length cz]]) underlying65 elem47 zF rfl rfl ⟨⟨rfl,rfl,by first|(simp;done)|(intro v hv;simp [Value.cells] at hv;rcases hv with rfl|rfl<;>rfl)|(refine List.forall_mem_cons.2 ⟨rfl,?_⟩;repeat (first|exact (fun _ h=>absurd h List.not_mem_nil)|refine List.forall_mem_cons.2 ⟨rfl,?_⟩))⟩,⟨rfl,rfl,by first|(simp;done)|(intro v hv;simp [Value.cells] at hv;rcases hv with rfl|rfl<;>rfl)|(refine List.forall_mem_cons.2 ⟨rfl,?_⟩;repeat (first|exact (fun _ h=>absurd h List.not_mem_nil)|refine List.forall_mem_cons.2 ⟨rfl,?_⟩))⟩,trivial⟩ zF) ?_;rintro _ _ ⟨a104,c104,rfl,rfl⟩;refine O.frzA zD fun g hs hm ha104=>?_;replace hg:=Fr.sub_trans hg hs;replace hR:=melted hR hm
     try replace ha:=ha.mono hs
     try replace hb:=hb.mono hs
     try replace hc:=hc.mono hs
     try replace ha30:=ha30.mono hs
     try replace hcx:=hcx.mono hs
     try replace hcy:=hcy.mono hs
     try replace hcz:=hcz.mono hs
     try replace hg0:=hg0.mono hs
     try replace hall:=hall.mono hs
     try replace hall:=hall.mono hs
     try replace ha54:=ha54.mono hs
     try replace hL:=hL.mono hs
     try replace hL:=hL.mono hs
     try replace ha67:=ha67.mono hs
     try replace hU:=hU.mono hs
     try replace hU:=hU.mono hs
     try replace ha90:=ha90.mono hs
     try replace hP:=hP.mono hs
     try replace hP:=hP.mono hs
     try replace ha97:=ha97.mono hs
     try replace hQ:=hQ.mono hs
     try replace hQ:=hQ.mono hs
     clear hs hm;refine O.call0 (.p rfl) rfl zC rfl rfl ((sJoin_c (ss:=[p,zs]) (Arr.ofCells ha104 ⟨⟨_,rfl,hP⟩,⟨_,rfl,hc⟩,trivial⟩ rfl) (by rw [f2];omega))) ?_;rintro _ _ ⟨a105,c105,rfl,rfl⟩
     try simp only [zx1,zx2,zx3]
     rw [u1,u2];refine O.q 5 rfl<|O.nil<|S.seq<|S.frzG (T:=RecRp) rfl zD fun g hs hm hS=>?_;replace hg:=Fr.sub_trans hg hs;replace hR:=melted hR hm
     try replace ha:=ha.mono hs
     try replace hb:=hb.mono hs
     try replace hc:=hc.mono hs
     try replace ha30:=ha30.mono hs
     try replace hcx:=hcx.mono hs
     try replace hcy:=hcy.mono hs
     try replace hcz:=hcz.mono hs
     try replace hg0:=hg0.mono hs
     try replace hall:=hall.mono hs
     try replace hall:=hall.mono hs
     try replace ha54:=ha54.mono hs
     try replace hL:=hL.mono hs
     try replace hL:=hL.mono hs
     try replace ha67:=ha67.mono hs
     try replace hU:=hU.mono hs
     try replace hU:=hU.mono hs
     try replace ha90:=ha90.mono hs
     try replace hP:=hP.mono hs
     try replace hP:=hP.mono hs
     try replace ha97:=ha97.mono hs
     try replace hQ:=hQ.mono hs
     try replace hQ:=hQ.mono hs
     try replace ha104:=ha104.mono hs
     clear hs hm;refine S.region rfl<|O.q 2 rfl<|O.opE (.p rfl) (.litP (T:=Rp.cells 1) (ys:=[[.slice ax xs.length cx],[.slice a98 q.length c98]]) underlying65 elem47 zF rfl rfl ⟨⟨rfl,rfl,by first|(simp;done)|(intro v hv;simp [Value.cells] at hv;rcases hv with rfl|rfl<;>rfl)|(refine List.forall_mem_cons.2 ⟨rfl,?_⟩;repeat (first|exact (fun _ h=>absurd h List.not_mem_nil)|refine List.forall_mem_cons.2 ⟨rfl,?_⟩))⟩,⟨rfl,rfl,by first|(simp;done)|(intro v hv;simp [Value.cells] at hv;rcases hv with rfl|rfl<;>rfl)|(refine List.forall_mem_cons.2 ⟨rfl,?_⟩;repeat (first|exact (fun _ h=>absurd h List.not_mem_nil)|refine List.forall_mem_cons.2 ⟨rfl,?_⟩))⟩,trivial⟩ zF) ?_;rintro _ _ ⟨a111,c111,rfl,rfl⟩;refine O.frzA zD fun g hs hm ha111=>?_;replace hg:=Fr.sub_trans hg hs;replace hR:=melted hR hm
     try replace ha:=ha.mono hs
     try replace hb:=hb.mono hs
     try replace hc:=hc.mono hs
     try replace ha30:=ha30.mono hs
     try replace hcx:=hcx.mono hs
     try replace hcy:=hcy.mono hs
     try replace hcz:=hcz.mono hs
     try replace hg0:=hg0.mono hs
     try replace hall:=hall.mono hs
     try replace hall:=hall.mono hs
     try replace ha54:=ha54.mono hs
     try replace hL:=hL.mono hs
     try replace hL:=hL.mono hs
     try replace ha67:=ha67.mono hs
     try replace hU:=hU.mono hs
     try replace hU:=hU.mono hs
     try replace ha90:=ha90.mono hs
     try replace hP:=hP.mono hs
     try replace hP:=hP.mono hs
     try replace ha97:=ha97.mono hs
     try replace hQ:=hQ.mono hs
     try replace hQ:=hQ.mono hs
     try replace ha104:=ha104.mono hs
     try replace hS:=hS.mono hs
     try replace hS:=hS.mono hs
     clear hs hm;refine O.call0 (.p rfl) rfl zC rfl rfl ((sJoin_c (ss:=[xs,q]) (Arr.ofCells ha111 ⟨⟨_,rfl,ha⟩,⟨_,rfl,hQ⟩,trivial⟩ rfl) (by rw [f2];omega))) ?_;rintro _ _ ⟨a112,c112,rfl,rfl⟩
     try simp only [zx1,zx2,zx3]
     rw [u3,u4];refine O.q 5 rfl<|O.nil<|S.seq<|S.frzG (T:=RecRp) rfl zD fun g hs hm hV=>?_;replace hg:=Fr.sub_trans hg hs;replace hR:=melted hR hm
     try replace ha:=ha.mono hs
     try replace hb:=hb.mono hs
     try replace hc:=hc.mono hs
     try replace ha30:=ha30.mono hs
     try replace hcx:=hcx.mono hs
     try replace hcy:=hcy.mono hs
     try replace hcz:=hcz.mono hs
     try replace hg0:=hg0.mono hs
     try replace hall:=hall.mono hs
     try replace hall:=hall.mono hs
     try replace ha54:=ha54.mono hs
     try replace hL:=hL.mono hs
     try replace hL:=hL.mono hs
     try replace ha67:=ha67.mono hs
     try replace hU:=hU.mono hs
     try replace hU:=hU.mono hs
     try replace ha90:=ha90.mono hs
     try replace hP:=hP.mono hs
     try replace hP:=hP.mono hs
     try replace ha97:=ha97.mono hs
     try replace hQ:=hQ.mono hs
     try replace hQ:=hQ.mono hs
     try replace ha104:=ha104.mono hs
     try replace hS:=hS.mono hs
     try replace hS:=hS.mono hs
     try replace ha111:=ha111.mono hs
     clear hs hm;refine S.region rfl<|O.q 2 rfl<|O.opE (.p rfl) (.litP (T:=Rp.cells 1) (ys:=[[.slice a55 L.length c55],[.slice a49 A.length c49]]) underlying65 elem47 zF rfl rfl ⟨⟨rfl,rfl,by first|(simp;done)|(intro v hv;simp [Value.cells] at hv;rcases hv with rfl|rfl<;>rfl)|(refine List.forall_mem_cons.2 ⟨rfl,?_⟩;repeat (first|exact (fun _ h=>absurd h List.not_mem_nil)|refine List.forall_mem_cons.2 ⟨rfl,?_⟩))⟩,⟨rfl,rfl,by first|(simp;done)|(intro v hv;simp [Value.cells] at hv;rcases hv with rfl|rfl<;>rfl)|(refine List.forall_mem_cons.2 ⟨rfl,?_⟩;repeat (first|exact (fun _ h=>absurd h List.not_mem_nil)|refine List.forall_mem_cons.2 ⟨rfl,?_⟩))⟩,trivial⟩ zF) ?_;rintro _ _ ⟨a118,c118,rfl,rfl⟩;refine O.frzA zD fun g hs hm ha118=>?_;replace hg:=Fr.sub_trans hg hs;replace hR:=melted hR hm
     try replace ha:=ha.mono hs
     try replace hb:=hb.mono hs
     try replace hc:=hc.mono hs
     try replace ha30:=ha30.mono hs
     try replace hcx:=hcx.mono hs
     try replace hcy:=hcy.mono hs
     try replace hcz:=hcz.mono hs
     try replace hg0:=hg0.mono hs
     try replace hall:=hall.mono hs
     try replace hall:=hall.mono hs
     try replace ha54:=ha54.mono hs
     try replace hL:=hL.mono hs
     try replace hL:=hL.mono hs
     try replace ha67:=ha67.mono hs
     try replace hU:=hU.mono hs
     try replace hU:=hU.mono hs
     try replace ha90:=ha90.mono hs
     try replace hP:=hP.mono hs
     try replace hP:=hP.mono hs
     try replace ha97:=ha97.mono hs
     try replace hQ:=hQ.mono hs
     try replace hQ:=hQ.mono hs
     try replace ha104:=ha104.mono hs
     try replace hS:=hS.mono hs
     try replace hS:=hS.mono hs
     try replace ha111:=ha111.mono hs
     try replace hV:=hV.mono hs
     try replace hV:=hV.mono hs
     clear hs hm;refine O.call0 (.p rfl) rfl zC rfl rfl ((sJoin_c (ss:=[L,A]) (Arr.ofCells ha118 ⟨⟨_,rfl,hL⟩,⟨_,rfl,hall⟩,trivial⟩ rfl) (by rw [f2];omega))) ?_;rintro _ _ ⟨a119,c119,rfl,rfl⟩
     try simp only [zx1,zx2,zx3]
     rw [u5,u6];refine O.q 5 rfl<|O.nil<|S.seq<|S.seq<|S.frzG (T:=RecRp) rfl zD fun g hs hm hW=>?_;replace hg:=Fr.sub_trans hg hs;replace hR:=melted hR hm
     try replace ha:=ha.mono hs
     try replace hb:=hb.mono hs
     try replace hc:=hc.mono hs
     try replace ha30:=ha30.mono hs
     try replace hcx:=hcx.mono hs
     try replace hcy:=hcy.mono hs
     try replace hcz:=hcz.mono hs
     try replace hg0:=hg0.mono hs
     try replace hall:=hall.mono hs
     try replace hall:=hall.mono hs
     try replace ha54:=ha54.mono hs
     try replace hL:=hL.mono hs
     try replace hL:=hL.mono hs
     try replace ha67:=ha67.mono hs
     try replace hU:=hU.mono hs
     try replace hU:=hU.mono hs
     try replace ha90:=ha90.mono hs
     try replace hP:=hP.mono hs
     try replace hP:=hP.mono hs
     try replace ha97:=ha97.mono hs
     try replace hQ:=hQ.mono hs
     try replace hQ:=hQ.mono hs
     try replace ha104:=ha104.mono hs
     try replace hS:=hS.mono hs
     try replace hS:=hS.mono hs
     try replace ha111:=ha111.mono hs
     try replace hV:=hV.mono hs
     try replace hV:=hV.mono hs
     try replace ha118:=ha118.mono hs
     clear hs hm;refine S.region rfl<|O.q 1 rfl<|O.op (.p rfl) (.neq rfl rfl)<|O.sF 123 rfl zF ?_;refine O.q 2 rfl<|O.op (.g rfl rfl) (.neq rfl rfl)<|O.sF 126 rfl zF ?_;refine O.q 3 rfl<|O.op (.g rfl rfl) (.neq rfl rfl)<|O.sF 130 rfl zF ?_;refine O.q 3 rfl<|O.op (.g rfl rfl) (.neq rfl rfl)<|O.sF 134 rfl zF ?_;refine O.q 3 rfl<|O.op (.g rfl rfl) (.neq rfl rfl)<|O.sF 138 rfl zF ?_;refine O.q 4 rfl<|O.call0 (.g rfl rfl) rfl zC rfl rfl ((sameRecords_c hS hL)) ?_;rintro _ _ ⟨rfl,rfl⟩
     try simp only [zx1,zx2,zx3]
     refine O.sT 143 rfl zI ?_;refine O.op (.g rfl rfl) (.not rfl)<|O.q 4 rfl<|O.call0 (.g rfl rfl) rfl zC rfl rfl ((sameRecords_c hV hL)) ?_;rintro _ _ ⟨rfl,rfl⟩
     try simp only [zx1,zx2,zx3]
     refine O.sT 149 rfl zI ?_;refine O.op (.g rfl rfl) (.not rfl)<|O.q 4 rfl<|O.call0 (.g rfl rfl) rfl zC rfl rfl ((sameRecords_c hW hL)) ?_;rintro _ _ ⟨rfl,rfl⟩
     try simp only [zx1,zx2,zx3]
     refine O.sT 155 rfl zI ?_;refine O.op (.g rfl rfl) (.not rfl)<|O.q 1 rfl<|O.nil<|S.condF rfl<|S.skip<|S.seq<|S.seq<|S.region rfl<|O.q 1 rfl<|O.nil<|S.block<|S.loopK (ι:=Nat) (fun n=>n≤A.length) (fun n=>[(22,.int .i64 (n:Int))]) [(7,_),(8,_)] (fun n=>[]) (fun n=>A.length - n) (0) zE (.cons rfl (.nil)) (.cons rfl (.cons rfl (.nil))) rfl fun n hx ih=>?_;have hm1:=meltRefl (g:=g);refine S.seq<|S.seq<|S.region rfl<|O.q 2 rfl<|O.op (.p rfl) (.len rfl underlying47 rfl)<|O.op (.p rfl) (.lss rfl rfl)<|O.nil ?_
     first|refine S.condD rfl (fun h161=>?_) (fun h161=>?_)|refine S.condB rfl (fun h161=>?_) (fun h161=>?_)
     ·have hn:n<A.length:=by omega
      have hdn:(L.any fun z=>Bool.or (over z A[n]) (decide (z=A[n])))=true:=by
       obtain ⟨z,hz,e⟩:=hdom _ (List.getElem_mem hn);refine List.any_eq_true.2 ⟨z,hz,?_⟩
       rcases e with e|e
       ·simp [e]
       ·simp [e]
      refine S.skip<|S.seq<|S.block<|S.seq<|S.region rfl<|O.q 1 rfl<|O.nil<|S.seq<|S.seq<|S.region rfl<|O.q 1 rfl<|O.nil<|S.block<|S.loopK2 (ι:=Nat) (κ:=Bool) (fun m f=>m≤L.length∧f=((L.take m).any fun z=>Bool.or (over z A[n]) (decide (z=A[n])))) (fun m f=>[(24,.int .i64 (m:Int)),(23,.bool f)]) [(7,_),(8,_),(22,_)] (fun m f=>[]) (fun m f=>L.length - m) (0) (false) (by exact ⟨by omega,rfl⟩) (.cons rfl (.cons rfl (.nil))) (.cons rfl (.cons rfl (.cons rfl (.nil)))) rfl fun m f hx ih=>?_;have hm2:=meltRefl (g:=g);obtain ⟨hm1',hf⟩:=hx;refine S.seq<|S.seq<|S.region rfl<|O.q 2 rfl<|O.op (.p rfl) (.len rfl underlying47 rfl)<|O.op (.p rfl) (.lss rfl rfl)<|O.nil ?_
      first|refine S.condD rfl (fun h167=>?_) (fun h167=>?_)|refine S.condB rfl (fun h167=>?_) (fun h167=>?_)
      ·have hm:m<L.length:=by omega
       have hnx:((L.take (m+1)).any fun z=>Bool.or (over z A[n]) (decide (z=A[n])))=(f ||(over L[m] A[n] ||decide (L[m]=A[n]))):=by rw [List.take_succ_eq_append_getElem hm,List.any_append,← hf];simp
       cases f with
       |true =>
        refine S.skip<|S.seq<|S.block<|S.regionD (L:=[0,1,2,3,4,5,6,7,8,9,10,11,12,13,14,15,16,17,18,19,20,21,22,23]) F.mixed zC<|OD.q 1 rfl<|OD.sT 170 rfl (by rfl) ?_;refine OD.q 23 rfl<|ODx.nil<|S.inBlock<|S.region rfl<|O.q 1 rfl<|O.op (.p rfl) (.add rfl rfl (IntWalk.i64_in _ zE))<|O.q 1 rfl<|O.nil ?_;exact S.wk (ih (m+1) (true) (by exact ⟨by omega,by rw [hnx];rfl⟩) zE)
       |false =>
        cases o9:over L[m] A[n] with
        |true =>
         refine S.skip<|S.seq<|S.block<|S.regionD (L:=[0,1,2,3,4,5,6,7,8,9,10,11,12,13,14,15,16,17,18,19,20,21,22,23]) F.mixed zC<|OD.q 1 rfl<|OD.sF 170 rfl (by rfl) ?_;refine OD.q 3 rfl<|OD.ia (.g rfl rfl) underlying47 size74 rfl rfl rfl (by first|assumption|exact Arr.mono hg zB|exact Arr.left zB|exact Arr.left (Arr.mono hg zB)) (h:=fun p174 cs174 hp174 hr174=>?_);obtain ⟨ra3_174,ra5_174,ra6_174,rc3_174,rc5_174,rc6_174,rfl,ho0_174,ho1_174,ho2_174,ha3_174,ha5_174,ha6_174⟩:=RecRp.sh hr174;refine .quiet (.g rfl rfl) rfl (fun _=>.loadAgg isAgg74 zC rfl hp174) ?_;refine OD.q 2 rfl<|OD.ia (.g rfl rfl) underlying47 size74 rfl rfl rfl (by first|assumption|exact Arr.mono hg zB|exact Arr.left zB|exact Arr.left (Arr.mono hg zB)) (h:=fun p178 cs178 hp178 hr178=>?_);obtain ⟨ra3_178,ra5_178,ra6_178,rc3_178,rc5_178,rc6_178,rfl,ho0_178,ho1_178,ho2_178,ha3_178,ha5_178,ha6_178⟩:=RecRp.sh hr178;refine .quiet (.g rfl rfl) rfl (fun _=>.loadAgg isAgg74 zC rfl hp178) ?_;refine OD.call0 (.g rfl rfl) zC rfl zC rfl rfl (rOver_c (by first|assumption|exact Rp.rel.mono zB hg) (by first|assumption|exact Rp.rel.mono zB hg)) ?_;rintro _ _ ⟨rfl,rfl⟩
         try simp only [zx1,zx2,zx3]
         refine OD.sT 180 rfl (by exact o9) ?_;refine OD.q 13 rfl<|ODx.nil<|S.inBlock<|S.region rfl<|O.q 1 rfl<|O.op (.p rfl) (.add rfl rfl (IntWalk.i64_in _ zE))<|O.q 1 rfl<|O.nil ?_;exact S.wk (ih (m+1) (true) (by exact ⟨by omega,by rw [hnx,o9];rfl⟩) zE)
        |false =>
         refine S.skip<|S.seq<|S.block<|S.regionD (L:=[0,1,2,3,4,5,6,7,8,9,10,11,12,13,14,15,16,17,18,19,20,21,22,23]) F.mixed zC<|OD.q 1 rfl<|OD.sF 170 rfl (by rfl) ?_;refine OD.q 3 rfl<|OD.ia (.g rfl rfl) underlying47 size74 rfl rfl rfl (by first|assumption|exact Arr.mono hg zB|exact Arr.left zB|exact Arr.left (Arr.mono hg zB)) (h:=fun p174 cs174 hp174 hr174=>?_);obtain ⟨ra3_174,ra5_174,ra6_174,rc3_174,rc5_174,rc6_174,rfl,ho0_174,ho1_174,ho2_174,ha3_174,ha5_174,ha6_174⟩:=RecRp.sh hr174;refine .quiet (.g rfl rfl) rfl (fun _=>.loadAgg isAgg74 zC rfl hp174) ?_;refine OD.q 2 rfl<|OD.ia (.g rfl rfl) underlying47 size74 rfl rfl rfl (by first|assumption|exact Arr.mono hg zB|exact Arr.left zB|exact Arr.left (Arr.mono hg zB)) (h:=fun p178 cs178 hp178 hr178=>?_);obtain ⟨ra3_178,ra5_178,ra6_178,rc3_178,rc5_178,rc6_178,rfl,ho0_178,ho1_178,ho2_178,ha3_178,ha5_178,ha6_178⟩:=RecRp.sh hr178;refine .quiet (.g rfl rfl) rfl (fun _=>.loadAgg isAgg74 zC rfl hp178) ?_;refine OD.call0 (.g rfl rfl) zC rfl zC rfl rfl (rOver_c (by first|assumption|exact Rp.rel.mono zB hg) (by first|assumption|exact Rp.rel.mono zB hg)) ?_;rintro _ _ ⟨rfl,rfl⟩
         try simp only [zx1,zx2,zx3]
         refine OD.sF 180 rfl (by exact o9) ?_;refine OD.q 4 rfl<|OD.ia (.g rfl rfl) underlying47 size74 rfl rfl rfl (by first|assumption|exact Arr.mono hg zB|exact Arr.left zB|exact Arr.left (Arr.mono hg zB)) (h:=fun p185 cs185 hp185 hr185=>?_);obtain ⟨ra3_185,ra5_185,ra6_185,rc3_185,rc5_185,rc6_185,rfl,ho0_185,ho1_185,ho2_185,ha3_185,ha5_185,ha6_185⟩:=RecRp.sh hr185;refine .quiet (.g rfl rfl) rfl (fun _=>.loadAgg isAgg74 zC rfl hp185) ?_;refine OD.q 2 rfl<|OD.ia (.g rfl rfl) underlying47 size74 rfl rfl rfl (by first|assumption|exact Arr.mono hg zB|exact Arr.left zB|exact Arr.left (Arr.mono hg zB)) (h:=fun p189 cs189 hp189 hr189=>?_);obtain ⟨ra3_189,ra5_189,ra6_189,rc3_189,rc5_189,rc6_189,rfl,ho0_189,ho1_189,ho2_189,ha3_189,ha5_189,ha6_189⟩:=RecRp.sh hr189;refine .quiet (.g rfl rfl) rfl (fun _=>.loadAgg isAgg74 zC rfl hp189) ?_;refine OD.call0 (.g rfl rfl) zC rfl zC rfl rfl (sameRecord_c (by first|assumption|exact Rp.rel.mono zB hg) (by first|assumption|exact Rp.rel.mono zB hg)) ?_;rintro _ _ ⟨rfl,rfl⟩
         try simp only [zx1,zx2,zx3]
         refine OD.q 2 rfl<|ODx.nil<|S.inBlock<|S.region rfl<|O.q 1 rfl<|O.op (.p rfl) (.add rfl rfl (IntWalk.i64_in _ zE))<|O.q 1 rfl<|O.nil ?_;exact S.wk (ih (m+1) (decide (L[m]=A[n])) (by exact ⟨by omega,by rw [hnx,o9];rfl⟩) zE)
      ·clear ih
       have hm:m=L.length:=by omega
       subst hm;rw [List.take_length,hdn] at hf;subst hf;refine S.exit rfl<|S.seq<|S.region rfl<|O.q 1 rfl<|O.sT 193 rfl (by rfl) ?_;refine O.op (.p rfl) (.not rfl)<|O.nil<|S.condF rfl<|S.skip<|S.inBlock<|S.region rfl<|O.q 1 rfl<|O.op (.p rfl) (.add rfl rfl (IntWalk.i64_in _ zE))<|O.q 1 rfl<|O.nil ?_;exact S.wk (ih (n+1) zE zE)
     ·clear ih
      refine S.exit rfl<|S.seq<|S.region rfl<|O.q 1 rfl<|O.nil ?_;exact S.rt results9 rfl hR ⟨rfl,rfl⟩
end Go.Proofs.YtodhbhanmdfdeaaGreat
