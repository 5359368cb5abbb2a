/- Texts of this proof. -/
import Derived.Test.YtodhbhanmdfdeaaGreatQEvid2
import Derived.Test.YtodhbhanmdfdeaaGreatQSpImg
open Go Go.Sp Go.Proofs.Tryz
set_option maxRecDepth 100000
set_option maxHeartbeats 1000000
attribute [local irreducible] obj Own OwnP
namespace Go.Proofs.YtodhbhanmdfdeaaGreat
theorem imust_c {r:Fr} (b:Bool):Con prog 90 #[.bool b] r [] (RetP (fun v η=>b=true∧v=.tuple #[]∧η=[]) (fun ch η=>b=false∧ch=errP 32 4∧η=[])):=by
 refine Con.o func90 fun g hg R hR=>?_;refine zz 3 ?_;refine O.op (.p rfl) ((by first|exact .notD rfl|exact .not rfl)) ?_;refine zz 1 ?_;refine S.cd rfl (fun h3=>?_) fun h3=>?_
 ·refine S.region rfl<|O.op (.p rfl) (.mkIface underlying32 rfl)<|O.panic rfl rfl (fun w hw=>?_)
  exact hR _ [] w ⟨by simpa using h3,rfl,rfl⟩ hw
 ·refine S.skip<|S.end0 results90 fun w hw=>hR _ _ w ?_ hw
  exact ⟨by simpa using h3,rfl,rfl⟩
theorem told_c {r:Fr} {a:Option Addr} {n c:Nat} {z:Int}:Con prog 237 #[.slice a n c,.int .i64 z] r [] (RetP (fun v η=>z=0∧v=.slice a n c∧η=[]) (fun ch η=>z≠0∧ch=errP 32 4∧η=[])):=by
 refine Con.o func237 fun g hg R hR=>?_;refine zz 8 ?_;refine O.callP0 (.p rfl) rfl zB rfl rfl (imust_c _) (fun ch η' w hX hW=>by (obtain ⟨hb,rfl,rfl⟩:=hX;exact hR _ _ w ⟨of_decide_eq_false hb,rfl,rfl⟩ hW.drop_all)) ?_;rintro _ _ ⟨hb7,rfl,rfl⟩;refine zz 6 ?_;exact S.rt results237 rfl hR ⟨of_decide_eq_true hb7,rfl,rfl⟩
theorem bput_c {r:Fr} {b T:Nat} {va:Value} {a:Option Addr} {c n:Nat} {cs:List Value} {out:List UInt8} {xss:List (List UInt8)} (ha:Arr (Rp.slice Rp.u8) r va xss) (hl:out.length+xss.flatten.length≤140737488355328) (hn:n=out.length) :
  Con prog 236 #[.pointer (some ⟨b,0,none⟩),va] r [obj b T (.slice a n c::cs),OwnP Rp.u8 5 (.slice a n c) out]
   (Ret fun v η=>∃ a' c',v=.tuple #[]∧η=[obj b T (.slice a' (out++xss.flatten).length c' ::cs),OwnP Rp.u8 5 (.slice a' (out++xss.flatten).length c') (out++xss.flatten)]):=by
 subst hn;refine Con.o func236 fun g hg R hR=>?_;have ha:=ha.mono hg;have hbd:=ha.bound;obtain ⟨a1,c1,rfl⟩:=ha.shape;refine zz 7 ?_;refine S.conv (B:=OwnP Rp.u8 5 (.slice a out.length c) out) (C:=OwnP Rp.u8 5 (.slice a (out++(xss.take 0).flatten).length c) (out++(xss.take 0).flatten)) zC (fun m x=>⟨m,Fr.sub_refl _,by simpa using x⟩) ?_;refine S.objIs (b:=b) (cs' :=.slice a (out++(xss.take 0).flatten).length c::cs) zC zG ?_;refine S.loopK2 (ι:=Nat) (κ:=Option Addr × Nat) (fun i p=>i≤xss.length) (fun i p=>[(8,.int .i64 (i:Int))]) [(0,_),(6,_),(7,_)] (fun i p=>[obj b T (.slice p.1 (out++(xss.take i).flatten).length p.2::cs),OwnP Rp.u8 5 (.slice p.1 (out++(xss.take i).flatten).length p.2) (out++(xss.take i).flatten)]) (fun i p=>xss.length - i) (0) ((a,c)) zG zq zq rfl fun i p hx ih=>?_;have hm1:=meltRefl (g:=g);refine zz 5 ?_;refine S.cd rfl (fun h9=>?_) fun h9=>?_
 ·have hi:i<xss.length:=by omega
  have h1:=flat_len xss i hi;have h2:=flat_le xss (i+1);have h3:(xss.take (i+1)).flatten.length=(xss.take i).flatten.length+xss[i].length:=by rw [h1,List.length_append]
  have h4:(out++(xss.take i).flatten).length=out.length+(xss.take i).flatten.length:=List.length_append;have htk:out++(xss.take i).flatten++xss[i]=out++(xss.take (i+1)).flatten:=by rw [h1,List.append_assoc]
  generalize hso:out++(xss.take i).flatten=so at htk h4 ⊢;refine zz 5 ?_;refine O.ia (.p rfl) underlying39 size31 rfl rfl rfl zA (h:=fun p10 cs10 hp10 hr10=>?_);obtain ⟨v10,rfl,ha10⟩:=hr10;obtain ⟨a10,c10,rfl⟩:=ha10.shape;refine zz 9 ?_;refine O.q 1 rfl<|O.opE (.p rfl) (.appendP (T:=Rp.u8) pure_u8 underlying31 elem5 zE rfl rfl zC zA zH zH) ?_;rintro _ _ ⟨a18,c18,rfl,rfl⟩;refine zz 9 ?_;rw [htk];refine S.objIs (b:=b) (cs' :=.slice a18 (out++(xss.take (i+1)).flatten).length c18::cs) zC (by rw [← htk,List.length_append];rfl) ?_;rw [← List.length_append,htk];exact S.pw (ih (i+1) ((a18,c18)) zD zD)
 ·clear ih
  have hi:i=xss.length:=by omega
  subst hi;rw [List.take_length];refine S.exit rfl<|S.end0 results236 fun w hw=>Holds.end_ hR hw ?_;exact pk ⟨p.1,p.2,rfl,rfl⟩
theorem indexS_c {r:Fr} {va:Value} {l:List (List UInt8)} (x:List UInt8) (ha:Arr Rp.str r va l) :
  Con prog 301 #[va,.string (str x)] r [] (Ret fun v η=>∃ k:Int,v=.int .i64 k∧(0≤k↔x∈l)∧η=[]):=by
 refine Con.o func301 fun g hg R hR=>?_;have ha:=ha.mono hg;have hbd:=ha.bound;obtain ⟨a1,c1,rfl⟩:=ha.shape;refine zz 12 ?_;refine S.loopK (ι:=Nat) (fun i=>i≤l.length∧x ∉ l.take i) (fun i=>[(8,.int .i64 (i:Int))]) [(0,_),(1,_),(7,_)] (fun i=>[]) (fun i=>l.length - i) (0) zb25 zq zq rfl fun i hx ih=>?_;have hm1:=meltRefl (g:=g);obtain ⟨hx1,hx2⟩:=hx;refine zz 5 ?_;refine S.cd rfl (fun h9=>?_) fun h9=>?_
 ·have hi:i<l.length:=by omega
  by_cases e:x=l[i]
  ·
   clear ih;refine zz 13 ?_;refine O.ia (.p rfl) underlying184 size9 rfl rfl rfl zA (h:=fun p14 cs14 hp14 hr14=>?_);obtain ⟨rfl,hz14⟩:=hr14;refine zz 1 ?_;refine O.op (.p rfl) (.eqlS rfl rfl)<|O.sT 16 rfl (by simp [e]) ?_;refine zz 7 ?_;exact S.rt results301 rfl hR ⟨(i:Int),rfl,⟨fun _=>e ▸ List.getElem_mem hi,fun _=>by omega⟩,rfl⟩
  ·
   refine zz 13 ?_;refine O.ia (.p rfl) underlying184 size9 rfl rfl rfl zA (h:=fun p14 cs14 hp14 hr14=>?_);obtain ⟨rfl,hz14⟩:=hr14;refine zz 1 ?_;refine O.op (.p rfl) (.eqlS rfl rfl)<|O.sF 16 rfl (by simp [e]) ?_;refine zz 8 ?_;exact S.wk (ih (i+1) (by exact ⟨by omega,by rw [List.take_succ_eq_append_getElem hi,List.mem_append,List.mem_singleton];exact fun q=>q.elim hx2 e⟩) zD)
 ·clear ih
  have hi:i=l.length:=by omega
  subst hi;rw [List.take_length] at hx2;refine zz 5 ?_;exact S.rt results301 rfl hR ⟨-1,rfl,⟨fun h=>absurd h zE,fun h=>absurd h hx2⟩,rfl⟩
theorem containsS_c {r:Fr} {va:Value} {l:List (List UInt8)} (x:List UInt8) (ha:Arr Rp.str r va l) :
  Con prog 240 #[va,.string (str x)] r [] (Ret fun v η=>v=.bool (decide (x∈l))∧η=[]):=by
 refine Con.o func240 fun g hg R hR=>?_;have ha:=ha.mono hg;obtain ⟨a1,c1,rfl⟩:=ha.shape;refine zz 8 ?_;refine O.call0 (.p rfl) rfl zB rfl rfl ((indexS_c x ha)) ?_;rintro v7 _ ⟨k7,rfl,hk7,rfl⟩;refine zz 3 ?_;exact S.rt results240 rfl hR ⟨congrArg _ (decide_eq_decide.2 hk7),rfl⟩
abbrev WrB (b:Nat) (s:WSt):SProp:=WrP 186 5 9 b s
def StepP {α:Type} (step:WSt→α→Option WSt) (b:Nat) (s:WSt) (x:α):Ending→List SProp→Prop :=
 RetP (fun v η=>v=.tuple #[]∧∃ s',step s x=some s' ∧η=[WrB b s']) (fun ch η=>step s x=none∧ch=errP 32 4∧η=[])
theorem leaf_c {r:Fr} {b:Nat} {s:WSt} {cs:List Value} {f:LeafT} (h:LeafRp.rel r cs f) (hl:f.2.1.length≤100000) (hb:s.out.length≤140000000000000) :
  Con prog 146 #[.pointer (some ⟨b,0,none⟩),.agg cs.toArray] r [WrB b s] (StepP leafStep b s f):=by
 obtain ⟨xa1,xc1,rfl,k0,k1⟩:=LeafRp.sh h;have hset:=k1;refine Con.o func146 fun g hg R hR=>?_;have k1:=k1.mono hg;refine S.seq<|S.region rfl<|O.opE (.p rfl) (.box (cs:=[_,_]) rfl rfl) ?_;rintro _ _ ⟨b3,rfl,rfl⟩;refine O.nil<|S.seq<|S.frzO zC fun g hs hm hb3=>?_;replace hg:=Fr.sub_trans hg hs;replace hR:=melted hR hm
 try replace k1:=k1.mono hs
 clear hs hm;refine S.open (A:=WrB b s) zC (fun m x=>x) fun p=>?_;simp only [List.cons_append,List.nil_append];have hg_o:=hg;have hR_o:=hR
 try have k1_o:=k1
 try have hb3_o:=hb3
 refine S.frzH (B:=obj b 186 [.slice p.1.1.1 s.out.length p.1.1.2,.string (str s.key),.int .i64 s.rep,.int .i64 s.shard,.int .i64 p.2.1,.slice p.2.2.1.1 p.2.2.1.2.1 p.2.2.1.2.2,.slice p.2.2.2.1 p.2.2.2.2.1 p.2.2.2.2.2,.int .i64 s.last,.slice p.1.2.1 s.seen.length p.1.2.2]) zC fun go hso ⟨mo,hmo,hsmo⟩ hbo=>?_;replace hg:=Fr.sub_trans hg hso;replace hR:=backR hR hbo
 try replace k1:=k1.mono hso
 try replace hb3:=hb3.mono hso
 have hat:=(obj_at hmo).mono hsmo
 by_cases c1:¬ s.key<f.1
 ·have hno:leafStep s f=none:=if_neg fun q=>c1 q.1
  refine S.regionD (L:=.range 30) F.mixed zB ?_;refine zz 6 ?_;refine .quiet (.p rfl) rfl (fun _=>.gtrS rfl rfl)<|OD.sF 10 rfl (by rw [gtrS_eq];exact decide_eq_false c1) ?_;refine OD.q 22 rfl<|OD.callP0 (.p rfl) zB rfl zB rfl rfl (imust_c _) (fun ch η' w hX hW=>by (obtain ⟨hb,rfl,rfl⟩:=hX;exact hR _ _ w ⟨hno,rfl,rfl⟩ hW.drop_all)) ?_;rintro _ _ ⟨hb33,rfl,rfl⟩;exact absurd hb33 zG
 replace c1:=Classical.not_not.1 c1
 by_cases c2:64<f.1.length
 ·have hno:leafStep s f=none:=if_neg fun q=>by have:=q.2.1;omega
  refine S.regionD (L:=.range 30) F.mixed zB ?_;refine zz 6 ?_;refine .quiet (.p rfl) rfl (fun _=>.gtrS rfl rfl)<|OD.sT 10 rfl (by rw [gtrS_eq];exact decide_eq_true c1) ?_;refine zz 5 ?_;refine OD.sF 15 rfl zJ ?_;refine OD.q 17 rfl<|OD.callP0 (.p rfl) zB rfl zB rfl rfl (imust_c _) (fun ch η' w hX hW=>by (obtain ⟨hb,rfl,rfl⟩:=hX;exact hR _ _ w ⟨hno,rfl,rfl⟩ hW.drop_all)) ?_;rintro _ _ ⟨hb33,rfl,rfl⟩;exact absurd hb33 zG
 by_cases c3:f.2.1.length=0
 ·have hno:leafStep s f=none:=if_neg fun q=>by obtain ⟨q,_⟩:=q.2.2.1;omega
  refine S.regionD (L:=.range 30) F.mixed zB ?_;refine zz 6 ?_;refine .quiet (.p rfl) rfl (fun _=>.gtrS rfl rfl)<|OD.sT 10 rfl (by rw [gtrS_eq];exact decide_eq_true c1) ?_;refine zz 5 ?_;refine OD.sT 15 rfl zJ ?_;refine zz 6 ?_;refine OD.sF 21 rfl (by exact decide_eq_false zD) ?_;refine OD.q 11 rfl<|OD.callP0 (.p rfl) zB rfl zB rfl rfl (imust_c _) (fun ch η' w hX hW=>by (obtain ⟨hb,rfl,rfl⟩:=hX;exact hR _ _ w ⟨hno,rfl,rfl⟩ hW.drop_all)) ?_;rintro _ _ ⟨hb33,rfl,rfl⟩;exact absurd hb33 zG
 have h0:0<f.2.1.length:=by omega
 by_cases c4:¬ f.2.1[0].1=f.1
 ·have hno:leafStep s f=none:=if_neg fun q=>by obtain ⟨_,q⟩:=q.2.2.1;exact c4 q
  refine S.regionD (L:=.range 30) F.mixed zB ?_;refine zz 6 ?_;refine .quiet (.p rfl) rfl (fun _=>.gtrS rfl rfl)<|OD.sT 10 rfl (by rw [gtrS_eq];exact decide_eq_true c1) ?_;refine zz 5 ?_;refine OD.sT 15 rfl zJ ?_;refine zz 6 ?_;refine OD.sT 21 rfl (by exact decide_eq_true zD) ?_;refine zz 4 ?_;refine OD.ia (.g rfl rfl) underlying47 size74 rfl rfl (show _=(((0):Nat):Int) by omega) zA (h:=fun p26 cs26 hp26 hr26=>?_);obtain ⟨ra3_26,ra5_26,ra6_26,rc3_26,rc5_26,rc6_26,rfl,ho0_26,ho1_26,ho2_26,ha3_26,ha5_26,ha6_26⟩:=RecRp.sh hr26;refine zz 4 ?_;refine .quiet (.g rfl rfl) rfl (fun _=>.eqlS rfl rfl)<|OD.sF 31 rfl (by simp;exact c4) ?_;refine OD.q 1 rfl<|OD.callP0 (.p rfl) zB rfl zB rfl rfl (imust_c _) (fun ch η' w hX hW=>by (obtain ⟨hb,rfl,rfl⟩:=hX;exact hR _ _ w ⟨hno,rfl,rfl⟩ hW.drop_all)) ?_;rintro _ _ ⟨hb33,rfl,rfl⟩;exact absurd hb33 zG
 replace c4:=Classical.not_not.1 c4;refine S.regionD (L:=.range 30) F.mixed zB ?_;refine zz 6 ?_;refine .quiet (.p rfl) rfl (fun _=>.gtrS rfl rfl)<|OD.sT 10 rfl (by rw [gtrS_eq];exact decide_eq_true c1) ?_;refine zz 5 ?_;refine OD.sT 15 rfl zJ ?_;refine zz 6 ?_;refine OD.sT 21 rfl (by exact decide_eq_true zD) ?_;refine zz 4 ?_;refine OD.ia (.g rfl rfl) underlying47 size74 rfl rfl (show _=(((0):Nat):Int) by omega) zA (h:=fun p26 cs26 hp26 hr26=>?_);obtain ⟨ra3_26,ra5_26,ra6_26,rc3_26,rc5_26,rc6_26,rfl,ho0_26,ho1_26,ho2_26,ha3_26,ha5_26,ha6_26⟩:=RecRp.sh hr26;refine zz 4 ?_;refine .quiet (.g rfl rfl) rfl (fun _=>.eqlS rfl rfl)<|OD.sT 31 rfl (by simp [c4]) ?_;refine OD.q 1 rfl<|OD.callP0 (.p rfl) zB rfl zB rfl rfl (imust_c _) (fun ch η' w hX hW=>by (exact absurd hX.1 zG)) ?_;rintro _ _ ⟨hb33,rfl,rfl⟩;refine ODx.nil<|S.seq<|S.back hbo ?_;replace hg:=hg_o;replace hR:=hR_o
 try replace k1:=k1_o
 try replace hb3:=hb3_o
 clear hg_o hR_o;refine zz 2 ?_;refine O.op (.p rfl) (.fieldAddr fld49x0 rfl) ?_;refine zz 5 ?_
 by_cases c5:¬ SRight f.2.1
 ·have hno:leafStep s f=none:=if_neg fun q=>c5 q.2.2.2
  have e5:sErr f.2.1=4:=if_neg c5;refine S.regionD (L:=[0,1,2,3,4,7,8,5,6,9,10,11,12,13,14,15]) F.mixed zB ?_;refine zz 2 ?_;refine .quiet (.p rfl) rfl (fun _=>.fieldObj fld186x0 rfl) ?_;refine zz 4 ?_;refine OD.strBytesO (.p rfl) zB underlying9 underlying31 underlying5 rfl zY (fun a44 c44=>?_);refine OD.callB (.p rfl) zB rfl zB rfl rfl (bs:=[OwnP Rp.u8 5 (.slice a44 f.1.length c44) f.1]) zI (fun m hm hd=>wBytes_c (hm.arr.right hd) zD) ?_;rintro _ _ ⟨a45,c45,rfl,rfl⟩;refine OD.call0 (.p rfl) zB rfl zB rfl rfl (sPut_c zA zH) ?_;rintro _ _ ⟨a48,c48,rfl,rfl⟩;refine OD.q 2 rfl<|OD.callP0 (.p rfl) zB rfl zB rfl rfl (told_c) (fun ch η' w hX hW=>by (obtain ⟨hb,rfl,rfl⟩:=hX;exact hR _ _ w ⟨hno,rfl,rfl⟩ hW.drop_all)) ?_;rintro _ _ ⟨hb51,rfl,rfl⟩;exact absurd hb51 (by rw [e5];decide)
 replace c5:=Classical.not_not.1 c5;have e5:sOut f.2.1=sB f.2.1:=if_pos c5;have hyes:leafStep s f=some { s with key:=f.1,out:=s.out++(bytesOf f.1++bytesOf (sB f.2.1)) }:=if_pos ⟨c1,by omega,⟨h0,c4⟩,c5⟩;have hbd:=sB_le c5.1;have hfl:[bytesOf f.1,bytesOf (sB f.2.1)].flatten=bytesOf f.1++bytesOf (sB f.2.1):=by simp
 refine S.regionD (L:=[0,1,2,3,4,7,8,5,6,9,10,11,12,13,14,15]) F.mixed zB ?_;refine zz 2 ?_;refine .quiet (.p rfl) rfl (fun _=>.fieldObj fld186x0 rfl) ?_;refine zz 4 ?_;refine OD.strBytesO (.p rfl) zB underlying9 underlying31 underlying5 rfl zY (fun a44 c44=>?_);refine OD.callB (.p rfl) zB rfl zB rfl rfl (bs:=[OwnP Rp.u8 5 (.slice a44 f.1.length c44) f.1]) zI (fun m hm hd=>wBytes_c (hm.arr.right hd) zD) ?_;rintro _ _ ⟨a45,c45,rfl,rfl⟩;refine OD.call0 (.p rfl) zB rfl zB rfl rfl ((sPut_c k1 zD)) ?_;rintro _ _ ⟨a48,c48,rfl,rfl⟩;rw [e5];refine OD.q 2 rfl<|OD.callP0 (.p rfl) zB rfl zB rfl rfl (told_c) (fun ch η' w hX hW=>by (exact absurd (if_pos c5) hX.1)) ?_;rintro _ _ ⟨hb51,rfl,rfl⟩;refine OD.callB (.p rfl) zB rfl zB rfl rfl (bs:=[OwnP Rp.u8 5 (.slice a48 (sB f.2.1).length c48) (sB f.2.1)]) zI (fun m hm hd=>wBytes_c (hm.arr.right hd) zD) ?_;rintro _ _ ⟨a52,c52,rfl,rfl⟩;refine OD.litP (T:=Rp.val) (ys:=[_,_]) (.p rfl) zB underlying39 elem31 zE rfl rfl ⟨⟨rfl,rfl⟩,⟨rfl,rfl⟩,trivial⟩ zE (fun a53 c53=>?_)
 refine OD.callSs (.p rfl) zB rfl zB rfl rfl zI (Con.lentW (η:=[obj b 186 [.slice p.1.1.1 s.out.length p.1.1.2,.string (str f.1),.int .i64 s.rep,.int .i64 s.shard,.int .i64 p.2.1,.slice p.2.2.1.1 p.2.2.1.2.1 p.2.2.1.2.2,.slice p.2.2.2.1 p.2.2.2.2.1 p.2.2.2.2.2,.int .i64 s.last,.slice p.1.2.1 s.seen.length p.1.2.2],OwnP Rp.u8 5 (.slice p.1.1.1 s.out.length p.1.1.2) s.out]) (bs:=[OwnP Rp.val 31 (.slice a53 2 c53) [.slice a45 (bytesOf f.1).length c45,.slice a52 (bytesOf (sB f.2.1)).length c52],OwnP Rp.u8 5 (.slice a45 (bytesOf f.1).length c45) (bytesOf f.1),OwnP Rp.u8 5 (.slice a52 (bytesOf (sB f.2.1)).length c52) (bytesOf (sB f.2.1))]) (fun m hm hd=>bput_c (xss:=[bytesOf f.1,bytesOf (sB f.2.1)]) ((hm.arr.right hd).rows ⟨hm.tail.arr.right hd,hm.tail.tail.arr.right hd,trivial⟩) (by rw [hfl];simp;omega) rfl)) ?_;rintro v54 _ ⟨_,⟨a54,c54,rfl,rfl⟩,rfl⟩;rw [hfl]
 refine ODx.nil<|S.foldS (A:=WrB b { s with key:=f.1,out:=s.out++(bytesOf f.1++bytesOf (sB f.2.1)) }) (bs:=[obj b 186 [.slice a54 (s.out++(bytesOf f.1++bytesOf (sB f.2.1))).length c54,.string (str f.1),.int .i64 s.rep,.int .i64 s.shard,.int .i64 p.2.1,.slice p.2.2.1.1 p.2.2.1.2.1 p.2.2.1.2.2,.slice p.2.2.2.1 p.2.2.2.2.1 p.2.2.2.2.2,.int .i64 s.last,.slice p.1.2.1 s.seen.length p.1.2.2],OwnP Rp.u8 5 (.slice a54 (s.out++(bytesOf f.1++bytesOf (sB f.2.1))).length c54) (s.out++(bytesOf f.1++bytesOf (sB f.2.1))),OwnP Rp.str 9 (.slice p.1.2.1 s.seen.length p.1.2.2) s.seen]) zI (fun m x=>⟨(((a54,c54),p.1.2),p.2),x⟩) ?_;refine S.end0 results146 fun w hw=>Holds.end_ hR hw ?_;exact pk ⟨rfl,_,hyes,rfl⟩
theorem wown_c {r:Fr} {b:Nat} {s:WSt} {cs:List Value} {x:RootT} (h:RootRp.rel r cs x) (hb:s.out.length≤140000000000000) :
  Con prog 148 #[.pointer (some ⟨b,0,none⟩),.agg cs.toArray] r [WrB b s] (StepP rootStep b s x):=by
 obtain ⟨xa3,xa4,xc3,xc4,rfl,k0,k1,k2,k3,k4⟩:=RootRp.sh h;refine Con.o func148 fun g hg R hR=>?_;have h:=h.mono hg;refine S.seq<|S.region rfl<|O.opE (.p rfl) (.box (cs:=[_,_,_,_,_]) rfl rfl) ?_;rintro _ _ ⟨b3,rfl,rfl⟩;refine O.nil<|S.seq<|S.frzO zC fun g hs hm hb3=>?_;replace hg:=Fr.sub_trans hg hs;replace hR:=melted hR hm
 try replace h:=h.mono hs
 clear hs hm;refine S.open (A:=WrB b s) zC (fun m x=>x) fun p=>?_;simp only [List.cons_append,List.nil_append];refine zz 10 ?_;have hg_o:=hg;have hR_o:=hR
 try have h_o:=h
 try have hb3_o:=hb3
 refine S.frzH (B:=obj b 186 [.slice p.1.1.1 s.out.length p.1.1.2,.string (str s.key),.int .i64 s.rep,.int .i64 s.shard,.int .i64 p.2.1,.slice p.2.2.1.1 p.2.2.1.2.1 p.2.2.1.2.2,.slice p.2.2.2.1 p.2.2.2.2.1 p.2.2.2.2.2,.int .i64 s.last,.slice p.1.2.1 s.seen.length p.1.2.2]) zC fun go hso ⟨mo,hmo,hsmo⟩ hbo=>?_;replace hg:=Fr.sub_trans hg hso;replace hR:=backR hR hbo
 try replace h:=h.mono hso
 try replace hb3:=hb3.mono hso
 have hat:=(obj_at hmo).mono hsmo
 by_cases n0:¬ (s.rep=0∨x.1=s.rep∧s.shard<x.2.1)
 ·have hno:rootStep s x=none:=if_neg fun q=>n0 q.1
  by_cases c1:x.1=s.rep
  ·
   refine S.regionD (L:=.range 22) F.mixed zB ?_;refine OD.q 1 rfl<|OD.sF 11 rfl (by exact decide_eq_false (fun q=>n0 (.inl q))) ?_;refine zz 9 ?_;refine OD.sT 20 rfl (by exact decide_eq_true c1) ?_;refine zz 9 ?_;refine OD.sF 29 rfl (by exact decide_eq_false (fun q=>n0 (.inr ⟨c1,by omega⟩))) ?_;refine OD.q 2 rfl<|OD.callP0 (.p rfl) zB rfl zB rfl rfl (imust_c _) (fun ch η' w hX hW=>by (obtain ⟨hb,rfl,rfl⟩:=hX;exact hR _ _ w ⟨hno,rfl,rfl⟩ hW.drop_all)) ?_;rintro _ _ ⟨hb32,rfl,rfl⟩;exact absurd hb32 zG
  ·
   refine S.regionD (L:=.range 22) F.mixed zB ?_;refine OD.q 1 rfl<|OD.sF 11 rfl (by exact decide_eq_false (fun q=>n0 (.inl q))) ?_;refine zz 9 ?_;refine OD.sF 20 rfl (by exact decide_eq_false c1) ?_;refine OD.q 11 rfl<|OD.callP0 (.p rfl) zB rfl zB rfl rfl (imust_c _) (fun ch η' w hX hW=>by (obtain ⟨hb,rfl,rfl⟩:=hX;exact hR _ _ w ⟨hno,rfl,rfl⟩ hW.drop_all)) ?_;rintro _ _ ⟨hb32,rfl,rfl⟩;exact absurd hb32 zG
 have c0:=Classical.not_not.1 n0;refine S.cut1 (fun (u:Unit)=>True) (fun (u:Unit)=>[]) [(0,_),(3,_)] (fun (u:Unit)=>[OwnP Rp.u8 5 (.slice p.1.1.1 s.out.length p.1.1.2) s.out,OwnP Rp.str 9 (.slice p.1.2.1 s.seen.length p.1.2.2) s.seen]) zq (fun key=>?_) (fun u hx=>?_)
 ·have hm1:=meltRefl (g:=g)
  rcases c0 with c0|c0
  ·refine S.regionD (L:=.range 22) F.mixed zB ?_
   refine OD.q 1 rfl<|OD.sT 11 rfl (by exact decide_eq_true c0) ?_;refine OD.q 20 rfl<|OD.callP0 (.p rfl) zB rfl zB rfl rfl (imust_c _) (fun ch η' w hX hW=>by (exact absurd hX.1 zG)) ?_;rintro _ _ ⟨hb32,rfl,rfl⟩;refine ODx.nil<|S.pk ?_ (S.weaken ?_ (key (()) zT))
   ·repeat (first|exact zpa|exact zpn|(apply zpc;focus (repeat (first|exact zh|apply zt)))|apply zps)
   repeat (first|exact Sub.nil|refine Sub.cons rfl ?_)
  ·by_cases c1:s.rep=0
   ·
    refine S.regionD (L:=.range 22) F.mixed zB ?_;refine OD.q 1 rfl<|OD.sT 11 rfl (by exact decide_eq_true c1) ?_;refine OD.q 20 rfl<|OD.callP0 (.p rfl) zB rfl zB rfl rfl (imust_c _) (fun ch η' w hX hW=>by (exact absurd hX.1 zG)) ?_;rintro _ _ ⟨hb32,rfl,rfl⟩;refine ODx.nil<|S.pk ?_ (S.weaken ?_ (key (()) zT))
    ·repeat (first|exact zpa|exact zpn|(apply zpc;focus (repeat (first|exact zh|apply zt)))|apply zps)
    repeat (first|exact Sub.nil|refine Sub.cons rfl ?_)
   ·
    refine S.regionD (L:=.range 22) F.mixed zB ?_;refine OD.q 1 rfl<|OD.sF 11 rfl (by exact decide_eq_false c1) ?_;refine zz 9 ?_;refine OD.sT 20 rfl (by exact decide_eq_true c0.1) ?_;refine zz 9 ?_;refine OD.sT 29 rfl (by exact decide_eq_true (by have:=c0.2;omega)) ?_;refine OD.q 2 rfl<|OD.callP0 (.p rfl) zB rfl zB rfl rfl (imust_c _) (fun ch η' w hX hW=>by (exact absurd hX.1 zG)) ?_;rintro _ _ ⟨hb32,rfl,rfl⟩;refine ODx.nil<|S.pk ?_ (S.weaken ?_ (key (()) zT))
    ·repeat (first|exact zpa|exact zpn|(apply zpc;focus (repeat (first|exact zh|apply zt)))|apply zps)
    repeat (first|exact Sub.nil|refine Sub.cons rfl ?_)
 ·refine S.back hbo ?_
  replace hg:=hg_o;replace hR:=hR_o
  try replace h:=h_o
  try replace hb3:=hb3_o
  clear hg_o hR_o;refine zz 1 ?_
  cases c5:rootOk x with
  |false =>
   have hno:rootStep s x=none:=if_neg fun q=>by rw [c5] at q;exact absurd q.2 zG
   have e5:rootErr x=4:=by simp [rootErr,c5]
   refine S.regionD (L:=.range 11) F.mixed zB ?_;refine zz 2 ?_;refine .quiet (.p rfl) rfl (fun _=>.fieldObj fld186x0 rfl)<|.quiet (.p rfl) rfl (fun _=>.loadAgg isAgg52 zB rfl hb3) ?_;refine OD.call0 (.p rfl) zB rfl zB rfl rfl (tPut_c h) ?_;rintro _ _ ⟨a37,c37,rfl,rfl⟩;refine OD.q 2 rfl<|OD.callP0 (.p rfl) zB rfl zB rfl rfl (told_c) (fun ch η' w hX hW=>by (obtain ⟨hb,rfl,rfl⟩:=hX;exact hR _ _ w ⟨hno,rfl,rfl⟩ hW.drop_all)) ?_;rintro _ _ ⟨hb40,rfl,rfl⟩;exact absurd hb40 (by rw [e5];decide)
  |true =>
   have e5:rootOut x=rootB x:=by simp [rootOut,c5]
   have e6:rootErr x=0:=by simp [rootErr,c5]
   have hyes:rootStep s x=some { s with rep:=x.1,shard:=x.2.1,out:=s.out++bytesOf (rootB x) }:=if_pos ⟨c0,c5⟩;have hbd:=rootB_length c5;have hfl:[bytesOf (rootB x)].flatten=bytesOf (rootB x):=by simp
   refine S.regionD (L:=.range 11) F.mixed zB ?_;refine zz 2 ?_;refine .quiet (.p rfl) rfl (fun _=>.fieldObj fld186x0 rfl)<|.quiet (.p rfl) rfl (fun _=>.loadAgg isAgg52 zB rfl hb3) ?_;refine OD.call0 (.p rfl) zB rfl zB rfl rfl (tPut_c h) ?_;rintro _ _ ⟨a37,c37,rfl,rfl⟩;rw [e5];refine OD.q 2 rfl<|OD.callP0 (.p rfl) zB rfl zB rfl rfl (told_c) (fun ch η' w hX hW=>by (exact absurd e6 hX.1)) ?_;rintro _ _ ⟨hb40,rfl,rfl⟩;refine OD.callB (.p rfl) zB rfl zB rfl rfl (bs:=[OwnP Rp.u8 5 (.slice a37 (rootB x).length c37) (rootB x)]) zI (fun m hm hd=>wBytes_c (hm.arr.right hd) zD) ?_;rintro _ _ ⟨a41,c41,rfl,rfl⟩;refine OD.litP (T:=Rp.val) (ys:=[_]) (.p rfl) zB underlying39 elem31 zE rfl rfl ⟨⟨rfl,rfl⟩,trivial⟩ zE (fun a42 c42=>?_);refine OD.callSs (.p rfl) zB rfl zB rfl rfl zI (Con.lentW (η:=[obj b 186 [.slice p.1.1.1 s.out.length p.1.1.2,.string (str s.key),.int .i64 s.rep,.int .i64 s.shard,.int .i64 p.2.1,.slice p.2.2.1.1 p.2.2.1.2.1 p.2.2.1.2.2,.slice p.2.2.2.1 p.2.2.2.2.1 p.2.2.2.2.2,.int .i64 s.last,.slice p.1.2.1 s.seen.length p.1.2.2],OwnP Rp.u8 5 (.slice p.1.1.1 s.out.length p.1.1.2) s.out]) (bs:=[OwnP Rp.val 31 (.slice a42 1 c42) [.slice a41 (bytesOf (rootB x)).length c41],OwnP Rp.u8 5 (.slice a41 (bytesOf (rootB x)).length c41) (bytesOf (rootB x))]) (fun m hm hd=>bput_c (xss:=[bytesOf (rootB x)]) ((hm.arr.right hd).rows ⟨hm.tail.arr.right hd,trivial⟩) (by rw [hfl];simp;omega) rfl)) ?_
   rintro v43 _ ⟨_,⟨a43,c43,rfl,rfl⟩,rfl⟩;rw [hfl];refine zz 3 ?_;refine O.op (.p rfl) (.loadAgg isAgg52 zB rfl hb3) ?_;refine zz 3 ?_;refine O.nil<|S.objIs (b:=b) (cs' :=[.slice a43 (s.out++bytesOf (rootB x)).length c43,.string (str s.key),.int .i64 x.1,.int .i64 x.2.1,.int .i64 x.2.2.1,.slice xa3 x.2.2.2.1.length xc3,.slice xa4 x.2.2.2.2.1.length xc4,.int .i64 s.last,.slice p.1.2.1 s.seen.length p.1.2.2]) zC rfl ?_;refine S.foldS (A:=WrB b { s with rep:=x.1,shard:=x.2.1,out:=s.out++bytesOf (rootB x) }) (bs:=[obj b 186 [.slice a43 (s.out++bytesOf (rootB x)).length c43,.string (str s.key),.int .i64 x.1,.int .i64 x.2.1,.int .i64 x.2.2.1,.slice xa3 x.2.2.2.1.length xc3,.slice xa4 x.2.2.2.2.1.length xc4,.int .i64 s.last,.slice p.1.2.1 s.seen.length p.1.2.2],OwnP Rp.u8 5 (.slice a43 (s.out++bytesOf (rootB x)).length c43) (s.out++bytesOf (rootB x)),OwnP Rp.str 9 (.slice p.1.2.1 s.seen.length p.1.2.2) s.seen]) zI (fun m y=>⟨(((a43,c43),p.1.2),(x.2.2.1,(xa3,x.2.2.2.1.length,xc3),(xa4,x.2.2.2.2.1.length,xc4))),y⟩) ?_;refine S.end0 results148 fun w hw=>Holds.end_ hR hw ?_;exact pk ⟨rfl,_,hyes,rfl⟩
theorem wproof_c {r:Fr} {b:Nat} {s:WSt} {cs:List Value} {v:EvdT} (h:EvdRp.rel r cs v) (hb:s.out.length≤140000000000000) (hseen:s.seen.length≤1000000) :
  Con prog 150 #[.pointer (some ⟨b,0,none⟩),.agg cs.toArray] r [WrB b s] (StepP evdStep b s v):=by
 obtain ⟨xa3,xa4,xa8,xa9,xc3,xc4,xc8,xc9,rfl,_⟩:=EvdRp.sh h;refine Con.o func150 fun g hg R hR=>?_;have h:=h.mono hg
 cases c5:evdOk v with
 |false =>
  have hno:evdStep s v=none:=if_neg fun q=>by rw [c5] at q;exact absurd q.1 zG
  have e5:evdErr v=4:=by simp [evdErr,c5]
  refine S.seq<|S.region rfl<|O.opE (.p rfl) (.box (cs:=[_,_,_,_,_,_,_,_,_,_]) rfl rfl) ?_;rintro _ _ ⟨b3,rfl,rfl⟩;refine zz 4 ?_;refine O.call0 (.p rfl) rfl zB rfl rfl (ePut_c h) ?_;rintro _ _ ⟨a6,c6,rfl,rfl⟩;refine O.q 2 rfl<|O.callP0 (.p rfl) rfl zB rfl rfl (told_c) (fun ch η' w hX hW=>by (obtain ⟨hb,rfl,rfl⟩:=hX;exact hR _ _ w ⟨hno,rfl,rfl⟩ hW.drop_all)) ?_;rintro _ _ ⟨hb9,rfl,rfl⟩;exact absurd hb9 (by rw [e5];decide)
 |true =>
  have e5:evdOut v=evdB v:=by simp [evdOut,c5]
  have e6:evdErr v=0:=by simp [evdErr,c5]
  have hbd:=evdB_length c5;have hfl:[bytesOf (evdB v)].flatten=bytesOf (evdB v):=by simp
  refine S.seq<|S.region rfl<|O.opE (.p rfl) (.box (cs:=[_,_,_,_,_,_,_,_,_,_]) rfl rfl) ?_;rintro _ _ ⟨b3,rfl,rfl⟩;refine zz 4 ?_;refine O.call0 (.p rfl) rfl zB rfl rfl (ePut_c h) ?_;rintro _ _ ⟨a6,c6,rfl,rfl⟩;rw [e5];refine O.q 2 rfl<|O.callP0 (.p rfl) rfl zB rfl rfl (told_c) (fun ch η' w hX hW=>by (exact absurd e6 hX.1)) ?_;rintro _ _ ⟨hb9,rfl,rfl⟩;refine zz 3 ?_;refine S.frzA zC fun g hs hm hby=>?_;replace hg:=Fr.sub_trans hg hs;replace hR:=melted hR hm
  try replace h:=h.mono hs
  clear hs hm;refine S.open (A:=WrB b s) zC (fun m x=>x) fun p=>?_;simp only [List.cons_append,List.nil_append];have hg_o:=hg;have hR_o:=hR
  try have h_o:=h
  try have hby_o:=hby
  refine S.frzH (B:=obj b 186 [.slice p.1.1.1 s.out.length p.1.1.2,.string (str s.key),.int .i64 s.rep,.int .i64 s.shard,.int .i64 p.2.1,.slice p.2.2.1.1 p.2.2.1.2.1 p.2.2.1.2.2,.slice p.2.2.2.1 p.2.2.2.2.1 p.2.2.2.2.2,.int .i64 s.last,.slice p.1.2.1 s.seen.length p.1.2.2]) zC fun go hso ⟨mo,hmo,hsmo⟩ hbo=>?_;replace hg:=Fr.sub_trans hg hso;replace hR:=backR hR hbo
  try replace h:=h.mono hso
  try replace hby:=hby.mono hso
  have hat:=(obj_at hmo).mono hsmo;have hg_q:=hg;have hR_q:=hR
  try have h_q:=h
  try have hby_q:=hby
  try have hat_q:=hat
  refine S.frzH (B:=OwnP Rp.str 9 (.slice p.1.2.1 s.seen.length p.1.2.2) s.seen) zC fun gq hsq ⟨mq,hmq,hsmq⟩ hbq=>?_;replace hg:=Fr.sub_trans hg hsq;replace hR:=backR hR hbq
  try replace h:=h.mono hsq
  try replace hby:=hby.mono hsq
  try replace hat:=hat.mono hsq
  have hsn:=hmq.arr.mono hsmq
  by_cases n1:evdB v∈s.seen
  ·have hno:evdStep s v=none:=if_neg fun q=>q.2.1 n1
   refine S.regionD (L:=.range 17) F.mixed zB ?_;refine zz 4 ?_;refine OD.q 1 rfl<|.quiet (.p rfl) rfl (fun _=>.toStr underlying31 underlying5 underlying9 rfl zA) ?_;refine OD.v0 (.p rfl) zB rfl zB rfl rfl (containsS_c _ hsn) ?_;refine OD.sT 16 rfl (by exact decide_eq_true n1) ?_;refine zz 9 ?_;refine OD.callP0 (.p rfl) zB rfl zB rfl rfl (imust_c _) (fun ch η' w hX hW=>by (obtain ⟨hb,rfl,rfl⟩:=hX;exact hR _ _ w ⟨hno,rfl,rfl⟩ hW.drop_all)) ?_;rintro _ _ ⟨hb26,rfl,rfl⟩;exact absurd hb26 zG
  by_cases n2:32≤s.seen.length
  ·have hno:evdStep s v=none:=if_neg fun q=>by have:=q.2.2;omega
   refine S.regionD (L:=.range 17) F.mixed zB ?_;refine zz 4 ?_;refine OD.q 1 rfl<|.quiet (.p rfl) rfl (fun _=>.toStr underlying31 underlying5 underlying9 rfl zA) ?_;refine OD.v0 (.p rfl) zB rfl zB rfl rfl (containsS_c _ hsn) ?_;refine OD.sF 16 rfl (by exact decide_eq_false n1) ?_;refine zz 8 ?_;refine OD.sF 24 rfl (by exact decide_eq_false zD) ?_;refine OD.q 1 rfl<|OD.callP0 (.p rfl) zB rfl zB rfl rfl (imust_c _) (fun ch η' w hX hW=>by (obtain ⟨hb,rfl,rfl⟩:=hX;exact hR _ _ w ⟨hno,rfl,rfl⟩ hW.drop_all)) ?_;rintro _ _ ⟨hb26,rfl,rfl⟩;exact absurd hb26 zG
  have hyes:evdStep s v=some { s with seen:=s.seen++[evdB v],out:=s.out++bytesOf (evdB v) }:=if_pos ⟨c5,n1,by omega⟩;refine S.regionD (L:=.range 17) F.mixed zB ?_;refine zz 4 ?_;refine OD.q 1 rfl<|.quiet (.p rfl) rfl (fun _=>.toStr underlying31 underlying5 underlying9 rfl zA) ?_;refine OD.v0 (.p rfl) zB rfl zB rfl rfl (containsS_c _ hsn) ?_;refine OD.sF 16 rfl (by exact decide_eq_false n1) ?_;refine zz 8 ?_;refine OD.sT 24 rfl (by exact decide_eq_true zD) ?_;refine OD.q 1 rfl<|OD.callP0 (.p rfl) zB rfl zB rfl rfl (imust_c _) (fun ch η' w hX hW=>by (exact absurd hX.1 zG)) ?_;rintro _ _ ⟨hb26,rfl,rfl⟩;refine ODx.nil<|S.seq<|S.back hbq ?_;replace hg:=hg_q;replace hR:=hR_q
  try replace h:=h_q
  try replace hby:=hby_q
  try replace hat:=hat_q
  clear hg_q hR_q;refine S.regionD (L:=.range 12) F.mixed zB ?_;refine zz 5 ?_;refine OD.q 1 rfl<|.quiet (.p rfl) rfl (fun _=>.toStr underlying31 underlying5 underlying9 rfl zA) ?_;refine OD.litP (T:=Rp.str) (ys:=[_]) (.p rfl) zB underlying184 elem9 zE rfl rfl ⟨⟨rfl,by first|omega|(simp;done)|(simp;omega)|decide⟩,trivial⟩ zE (fun a34 c34=>?_);refine OD.appendO (.p rfl) zB (T:=Rp.str) underlying184 elem9 zE rfl rfl zC zC zH zH (fun a35 c35=>?_);refine zz 2 ?_;refine OD.last1 rfl zB (fun _ hw=>hbo hw) flat184 rfl rfl zZ zC (by first|(simp;done)|(simp;omega)) ?_;replace hg:=hg_o;replace hR:=hR_o
  try replace h:=h_o
  try replace hby:=hby_o
  clear hg_o hR_o;refine S.objIs (b:=b) (cs' :=[.slice p.1.1.1 s.out.length p.1.1.2,.string (str s.key),.int .i64 s.rep,.int .i64 s.shard,.int .i64 p.2.1,.slice p.2.2.1.1 p.2.2.1.2.1 p.2.2.1.2.2,.slice p.2.2.2.1 p.2.2.2.2.1 p.2.2.2.2.2,.int .i64 s.last,.slice a35 (s.seen++[evdB v]).length c35]) zC zG ?_;refine S.regionD (L:=.range 7) F.mixed zB ?_;refine zz 2 ?_;refine .quiet (.p rfl) rfl (fun _=>.fieldObj fld186x0 rfl) ?_;refine zz 1 ?_;refine OD.call0 (.p rfl) zB rfl zB rfl rfl (wBytes_c zA zH) ?_;rintro _ _ ⟨a42,c42,rfl,rfl⟩;refine OD.litP (T:=Rp.val) (ys:=[_]) (.p rfl) zB underlying39 elem31 zE rfl rfl ⟨⟨rfl,rfl⟩,trivial⟩ zE (fun a43 c43=>?_);refine OD.callSs (.p rfl) zB rfl zB rfl rfl zI (Con.lentW (η:=[obj b 186 [.slice p.1.1.1 s.out.length p.1.1.2,.string (str s.key),.int .i64 s.rep,.int .i64 s.shard,.int .i64 p.2.1,.slice p.2.2.1.1 p.2.2.1.2.1 p.2.2.1.2.2,.slice p.2.2.2.1 p.2.2.2.2.1 p.2.2.2.2.2,.int .i64 s.last,.slice a35 (s.seen++[evdB v]).length c35],OwnP Rp.u8 5 (.slice p.1.1.1 s.out.length p.1.1.2) s.out]) (bs:=[OwnP Rp.val 31 (.slice a43 1 c43) [.slice a42 (bytesOf (evdB v)).length c42],OwnP Rp.u8 5 (.slice a42 (bytesOf (evdB v)).length c42) (bytesOf (evdB v))]) (fun m hm hd=>bput_c (xss:=[bytesOf (evdB v)]) ((hm.arr.right hd).rows ⟨hm.tail.arr.right hd,trivial⟩) (by rw [hfl];simp;omega) rfl)) ?_;rintro v44 _ ⟨_,⟨a44,c44,rfl,rfl⟩,rfl⟩;rw [hfl]
  refine ODx.nil<|S.ownIs (T:=Rp.str) (e:=9) (v' :=.slice a35 (s.seen++[evdB v]).length c35) (xs' :=s.seen++[evdB v]) zC zG rfl ?_;refine S.foldS (A:=WrB b { s with seen:=s.seen++[evdB v],out:=s.out++bytesOf (evdB v) }) (bs:=[obj b 186 [.slice a44 (s.out++bytesOf (evdB v)).length c44,.string (str s.key),.int .i64 s.rep,.int .i64 s.shard,.int .i64 p.2.1,.slice p.2.2.1.1 p.2.2.1.2.1 p.2.2.1.2.2,.slice p.2.2.2.1 p.2.2.2.2.1 p.2.2.2.2.2,.int .i64 s.last,.slice a35 (s.seen++[evdB v]).length c35],OwnP Rp.u8 5 (.slice a44 (s.out++bytesOf (evdB v)).length c44) (s.out++bytesOf (evdB v)),OwnP Rp.str 9 (.slice a35 (s.seen++[evdB v]).length c35) (s.seen++[evdB v])]) zI (fun m y=>⟨(((a44,c44),(a35,c35)),p.2),y⟩) ?_;refine S.end0 results150 fun w hw=>Holds.end_ hR hw ?_;exact pk ⟨rfl,_,hyes,rfl⟩
theorem wshut_c {r:Fr} {b:Nat} {s:WSt} (n:Int) (hb:s.out.length≤140000000000000) :
  Con prog 152 #[.pointer (some ⟨b,0,none⟩),.int .i64 n] r [WrB b s] (StepP shutStep b s n):=by
 refine Con.o func152 fun g hg R hR=>?_;have hfl:[be n].flatten=be n:=by simp
 refine S.open (A:=WrB b s) zC (fun m x=>x) fun p=>?_;simp only [List.cons_append,List.nil_append]
 by_cases n1:¬ s.last<n
 ·have hno:shutStep s n=none:=if_neg fun q=>n1 q.1
  refine zz 8 ?_;refine O.sF 9 rfl (by exact decide_eq_false zD) ?_;refine O.q 4 rfl<|O.callP0 (.p rfl) rfl zB rfl rfl (imust_c _) (fun ch η' w hX hW=>by (obtain ⟨hb,rfl,rfl⟩:=hX;exact hR _ _ w ⟨hno,rfl,rfl⟩ hW.drop_all)) ?_;rintro _ _ ⟨hb14,rfl,rfl⟩;exact absurd hb14 zG
 by_cases n2:¬ n≤7
 ·have hno:shutStep s n=none:=if_neg fun q=>n2 q.2
  refine zz 8 ?_;refine O.sT 9 rfl (by exact decide_eq_true zD) ?_;refine zz 3 ?_;refine O.sF 12 rfl (by exact decide_eq_false zD) ?_;refine O.q 1 rfl<|O.callP0 (.p rfl) rfl zB rfl rfl (imust_c _) (fun ch η' w hX hW=>by (obtain ⟨hb,rfl,rfl⟩:=hX;exact hR _ _ w ⟨hno,rfl,rfl⟩ hW.drop_all)) ?_;rintro _ _ ⟨hb14,rfl,rfl⟩;exact absurd hb14 zG
 have hyes:shutStep s n=some { s with last:=n,out:=s.out++be n }:=if_pos ⟨Classical.not_not.1 n1,Classical.not_not.1 n2⟩;refine zz 8 ?_;refine O.sT 9 rfl (by exact decide_eq_true zD) ?_;refine zz 3 ?_;refine O.sT 12 rfl (by exact decide_eq_true zD) ?_;refine O.q 1 rfl<|O.callP0 (.p rfl) rfl zB rfl rfl (imust_c _) (fun ch η' w hX hW=>by (exact absurd hX.1 zG)) ?_;rintro _ _ ⟨hb14,rfl,rfl⟩;refine zz 8 ?_;refine O.nil<|S.objIs (b:=b) (cs' :=[.slice p.1.1.1 s.out.length p.1.1.2,.string (str s.key),.int .i64 s.rep,.int .i64 s.shard,.int .i64 p.2.1,.slice p.2.2.1.1 p.2.2.1.2.1 p.2.2.1.2.2,.slice p.2.2.2.1 p.2.2.2.2.1 p.2.2.2.2.2,.int .i64 n,.slice p.1.2.1 s.seen.length p.1.2.2]) zC rfl ?_;refine S.regionD (L:=.range 7) F.mixed zB ?_;refine zz 2 ?_;refine .quiet (.p rfl) rfl (fun _=>.fieldObj fld186x0 rfl) ?_;refine zz 1 ?_;refine OD.call0 (.p rfl) zB rfl zB rfl rfl (wNumber_c _) ?_;rintro _ _ ⟨a23,c23,rfl,rfl⟩;refine OD.litP (T:=Rp.val) (ys:=[_]) (.p rfl) zB underlying39 elem31 zE rfl rfl ⟨⟨rfl,rfl⟩,trivial⟩ zE (fun a24 c24=>?_)
 refine OD.callSs (.p rfl) zB rfl zB rfl rfl zI (Con.lentW (η:=[obj b 186 [.slice p.1.1.1 s.out.length p.1.1.2,.string (str s.key),.int .i64 s.rep,.int .i64 s.shard,.int .i64 p.2.1,.slice p.2.2.1.1 p.2.2.1.2.1 p.2.2.1.2.2,.slice p.2.2.2.1 p.2.2.2.2.1 p.2.2.2.2.2,.int .i64 n,.slice p.1.2.1 s.seen.length p.1.2.2],OwnP Rp.u8 5 (.slice p.1.1.1 s.out.length p.1.1.2) s.out]) (bs:=[OwnP Rp.val 31 (.slice a24 1 c24) [.slice a23 8 c23],OwnP Rp.u8 5 (.slice a23 8 c23) (be n)]) (fun m hm hd=>bput_c (xss:=[be n]) ((hm.arr.right hd).rows ⟨hm.tail.arr.right hd,trivial⟩) (by rw [hfl];simp;omega) rfl)) ?_;rintro v25 _ ⟨_,⟨a25,c25,rfl,rfl⟩,rfl⟩;rw [hfl];refine ODx.nil<|S.foldS (A:=WrB b { s with last:=n,out:=s.out++be n }) (bs:=[obj b 186 [.slice a25 (s.out++be n).length c25,.string (str s.key),.int .i64 s.rep,.int .i64 s.shard,.int .i64 p.2.1,.slice p.2.2.1.1 p.2.2.1.2.1 p.2.2.1.2.2,.slice p.2.2.2.1 p.2.2.2.2.1 p.2.2.2.2.2,.int .i64 n,.slice p.1.2.1 s.seen.length p.1.2.2],OwnP Rp.u8 5 (.slice a25 (s.out++be n).length c25) (s.out++be n),OwnP Rp.str 9 (.slice p.1.2.1 s.seen.length p.1.2.2) s.seen]) zI (fun m y=>⟨(((a25,c25),p.1.2),p.2),y⟩) ?_;refine S.end0 results152 fun w hw=>Holds.end_ hR hw ?_;exact pk ⟨rfl,_,hyes,rfl⟩
theorem rowsL_c {r:Fr} {b:Nat} {s:WSt} {va:Value} {l:List LeafT} (ha:Arr LeafRp r va l) (hx:∀ x∈l,x.2.1.length≤3000) (hn:l.length≤3000) (hb:s.out.length≤100000000000000) (hs:s.seen.length≤10000) :
  Con prog 145 #[.pointer (some ⟨b,0,none⟩),va,.func (.func 146) #[.pointer (some ⟨b,0,none⟩)] #[]] r [WrB b s] (RetP (fun v η=>v=.tuple #[]∧∃ s',rowSteps leafStep s l=some s' ∧η=[WrB b s']) (fun ch η=>rowSteps leafStep s l=none∧ch=errP 32 4∧η=[])):=by
 have har:=ha;refine Con.o func145 fun g hg R hR=>?_;have ha:=ha.mono hg;have hbd:=ha.bound;obtain ⟨a1,c1,rfl⟩:=ha.shape;have hfl:[be l.length].flatten=be l.length:=by simp
 refine S.open (A:=WrB b s) zC (fun m x=>x) fun p=>?_;simp only [List.cons_append,List.nil_append];refine zz 1 ?_;refine S.regionD (L:=.range 8) F.mixed zB ?_;refine zz 2 ?_;refine .quiet (.p rfl) rfl (fun _=>.fieldObj fld186x0 rfl) ?_;refine zz 2 ?_;refine OD.call0 (.p rfl) zB rfl zB rfl rfl (wNumber_c _) ?_;rintro _ _ ⟨a13,c13,rfl,rfl⟩;refine OD.litP (T:=Rp.val) (ys:=[_]) (.p rfl) zB underlying39 elem31 zE rfl rfl ⟨⟨rfl,rfl⟩,trivial⟩ zE (fun a14 c14=>?_);refine OD.callSs (.p rfl) zB rfl zB rfl rfl zI (Con.lentW (η:=[obj b 186 [.slice p.1.1.1 s.out.length p.1.1.2,.string (str s.key),.int .i64 s.rep,.int .i64 s.shard,.int .i64 p.2.1,.slice p.2.2.1.1 p.2.2.1.2.1 p.2.2.1.2.2,.slice p.2.2.2.1 p.2.2.2.2.1 p.2.2.2.2.2,.int .i64 s.last,.slice p.1.2.1 s.seen.length p.1.2.2],OwnP Rp.u8 5 (.slice p.1.1.1 s.out.length p.1.1.2) s.out]) (bs:=[OwnP Rp.val 31 (.slice a14 1 c14) [.slice a13 8 c13],OwnP Rp.u8 5 (.slice a13 8 c13) (be l.length)]) (fun m hm hd=>bput_c (xss:=[be l.length]) ((hm.arr.right hd).rows ⟨hm.tail.arr.right hd,trivial⟩) (by rw [hfl];simp;omega) rfl)) ?_;rintro v15 _ ⟨_,⟨a15,c15,rfl,rfl⟩,rfl⟩;rw [hfl];refine zz 2 ?_;generalize hs0:({ s with out:=s.out++be l.length }:WSt)=s0;have hs1:s0.out.length=s.out.length+8:=by rw [← hs0];simp
 have hs2:s0.seen.length=s.seen.length:=by rw [← hs0]
 refine S.foldS (A:=WrB b s0) (bs:=[obj b 186 [.slice a15 (s.out++be l.length).length c15,.string (str s.key),.int .i64 s.rep,.int .i64 s.shard,.int .i64 p.2.1,.slice p.2.2.1.1 p.2.2.1.2.1 p.2.2.1.2.2,.slice p.2.2.2.1 p.2.2.2.2.1 p.2.2.2.2.2,.int .i64 s.last,.slice p.1.2.1 s.seen.length p.1.2.2],OwnP Rp.u8 5 (.slice a15 (s.out++be l.length).length c15) (s.out++be l.length),OwnP Rp.str 9 (.slice p.1.2.1 s.seen.length p.1.2.2) s.seen]) zI (fun m x=>⟨(((a15,c15),p.1.2),p.2),by rw [← hs0];exact x⟩) ?_;refine S.keep [WrB b s0] zO ?_;have hle:∀ i (s' :WSt),(l.take i).foldlM leafStep s0=some s' →s'.out.length≤s0.out.length+5000000*(l.take i).length∧s'.seen.length≤s0.seen.length+(l.take i).length :=
  fun i s' h=>steps_le leafStep _ _ _ (fun x hm t t' e=>leafStep_le (hx _ (List.mem_of_mem_take hm)) e) h
 have hgo:rowSteps leafStep s l=l.foldlM leafStep s0:=by rw [← hs0];rfl
 refine zz 6 ?_;refine S.loopK2 (ι:=Nat) (κ:=WSt) (fun i t=>i≤l.length∧(l.take i).foldlM leafStep s0=some t) (fun i t=>[(18,.int .i64 (i:Int))]) [(2,_),(16,_),(17,_)] (fun i t=>[WrB b t]) (fun i t=>l.length - i) (0) (s0) zb25 zq zq rfl fun i t hx ih=>?_;have hm1:=meltRefl (g:=g);obtain ⟨hx1,hx2⟩:=hx;have hle1:=hle i t hx2;have hle2:(l.take i).length≤3000:=by rw [List.length_take];omega
 refine zz 5 ?_;refine S.cd rfl (fun h19=>?_) fun h19=>?_
 ·have hi:i<l.length:=by omega
  have hnx:=foldlM_next leafStep s0 t l i hi hx2;refine zz 5 ?_;refine O.iy har hg (h:=fun p20 cs20 hp20 hrr20=>?_);have hr20:=Rp.rel.mono hrr20 hg;obtain ⟨la1_20,lc1_20,rfl,ho0_20,ha1_20⟩:=LeafRp.sh hr20;refine O.op (.p rfl) (.loadAgg isAgg49 zB rfl hp20) ?_;refine O.opE (.p rfl) (.alloc (cs:=[.string ⟨#[]⟩,.slice none 0 0]) zeroValue49 rfl) ?_;rintro _ _ ⟨b7,rfl,rfl⟩;refine zz 5 ?_;refine O.callPS (.p rfl) rfl zB rfl rfl zC (leaf_c hr20 (by have:=hx _ (List.getElem_mem hi);omega) zD) (fun ch η' w hX hW=>by (obtain ⟨hb,rfl,rfl⟩:=hX;exact hR _ _ w ⟨hgo.trans (foldlM_take leafStep s0 l (i+1) (hnx.trans hb)),rfl,rfl⟩ hW.drop_all)) ?_;rintro v24 _ ⟨rfl,t24,hst,rfl⟩;refine zz 6 ?_;exact S.pw (ih (i+1) (t24) (by exact ⟨by omega,hnx.trans hst⟩) zD)
 ·clear ih
  have hi:i=l.length:=by omega
  subst hi;rw [List.take_length] at hx2;refine S.exit rfl<|S.end0 results145 fun w hw=>Holds.end_ hR hw ?_;exact pk ⟨rfl,t,hgo.trans hx2,rfl⟩
theorem rowsR_c {r:Fr} {b:Nat} {s:WSt} {va:Value} {l:List RootT} (ha:Arr RootRp r va l)  (hn:l.length≤3000) (hb:s.out.length≤100000000000000) (hs:s.seen.length≤10000) :
  Con prog 147 #[.pointer (some ⟨b,0,none⟩),va,.func (.func 148) #[.pointer (some ⟨b,0,none⟩)] #[]] r [WrB b s] (RetP (fun v η=>v=.tuple #[]∧∃ s',rowSteps rootStep s l=some s' ∧η=[WrB b s']) (fun ch η=>rowSteps rootStep s l=none∧ch=errP 32 4∧η=[])):=by
 have har:=ha;refine Con.o func147 fun g hg R hR=>?_;have ha:=ha.mono hg;have hbd:=ha.bound;obtain ⟨a1,c1,rfl⟩:=ha.shape;have hfl:[be l.length].flatten=be l.length:=by simp
 refine S.open (A:=WrB b s) zC (fun m x=>x) fun p=>?_;simp only [List.cons_append,List.nil_append];refine zz 1 ?_;refine S.regionD (L:=.range 8) F.mixed zB ?_;refine zz 2 ?_;refine .quiet (.p rfl) rfl (fun _=>.fieldObj fld186x0 rfl) ?_;refine zz 2 ?_;refine OD.call0 (.p rfl) zB rfl zB rfl rfl (wNumber_c _) ?_;rintro _ _ ⟨a13,c13,rfl,rfl⟩;refine OD.litP (T:=Rp.val) (ys:=[_]) (.p rfl) zB underlying39 elem31 zE rfl rfl ⟨⟨rfl,rfl⟩,trivial⟩ zE (fun a14 c14=>?_);refine OD.callSs (.p rfl) zB rfl zB rfl rfl zI (Con.lentW (η:=[obj b 186 [.slice p.1.1.1 s.out.length p.1.1.2,.string (str s.key),.int .i64 s.rep,.int .i64 s.shard,.int .i64 p.2.1,.slice p.2.2.1.1 p.2.2.1.2.1 p.2.2.1.2.2,.slice p.2.2.2.1 p.2.2.2.2.1 p.2.2.2.2.2,.int .i64 s.last,.slice p.1.2.1 s.seen.length p.1.2.2],OwnP Rp.u8 5 (.slice p.1.1.1 s.out.length p.1.1.2) s.out]) (bs:=[OwnP Rp.val 31 (.slice a14 1 c14) [.slice a13 8 c13],OwnP Rp.u8 5 (.slice a13 8 c13) (be l.length)]) (fun m hm hd=>bput_c (xss:=[be l.length]) ((hm.arr.right hd).rows ⟨hm.tail.arr.right hd,trivial⟩) (by rw [hfl];simp;omega) rfl)) ?_;rintro v15 _ ⟨_,⟨a15,c15,rfl,rfl⟩,rfl⟩;rw [hfl];refine zz 2 ?_;generalize hs0:({ s with out:=s.out++be l.length }:WSt)=s0;have hs1:s0.out.length=s.out.length+8:=by rw [← hs0];simp
 have hs2:s0.seen.length=s.seen.length:=by rw [← hs0]
 refine S.foldS (A:=WrB b s0) (bs:=[obj b 186 [.slice a15 (s.out++be l.length).length c15,.string (str s.key),.int .i64 s.rep,.int .i64 s.shard,.int .i64 p.2.1,.slice p.2.2.1.1 p.2.2.1.2.1 p.2.2.1.2.2,.slice p.2.2.2.1 p.2.2.2.2.1 p.2.2.2.2.2,.int .i64 s.last,.slice p.1.2.1 s.seen.length p.1.2.2],OwnP Rp.u8 5 (.slice a15 (s.out++be l.length).length c15) (s.out++be l.length),OwnP Rp.str 9 (.slice p.1.2.1 s.seen.length p.1.2.2) s.seen]) zI (fun m x=>⟨(((a15,c15),p.1.2),p.2),by rw [← hs0];exact x⟩) ?_;refine S.keep [WrB b s0] zO ?_;have hle:∀ i (s' :WSt),(l.take i).foldlM rootStep s0=some s' →s'.out.length≤s0.out.length+5000000*(l.take i).length∧s'.seen.length≤s0.seen.length+(l.take i).length :=
  fun i s' h=>steps_le rootStep _ _ _ (fun x hm t t' e=>rootStep_le e) h
 have hgo:rowSteps rootStep s l=l.foldlM rootStep s0:=by rw [← hs0];rfl
 refine zz 6 ?_;refine S.loopK2 (ι:=Nat) (κ:=WSt) (fun i t=>i≤l.length∧(l.take i).foldlM rootStep s0=some t) (fun i t=>[(18,.int .i64 (i:Int))]) [(2,_),(16,_),(17,_)] (fun i t=>[WrB b t]) (fun i t=>l.length - i) (0) (s0) zb25 zq zq rfl fun i t hx ih=>?_;have hm1:=meltRefl (g:=g);obtain ⟨hx1,hx2⟩:=hx;have hle1:=hle i t hx2;have hle2:(l.take i).length≤3000:=by rw [List.length_take];omega
 refine zz 5 ?_;refine S.cd rfl (fun h19=>?_) fun h19=>?_
 ·have hi:i<l.length:=by omega
  have hnx:=foldlM_next rootStep s0 t l i hi hx2;refine zz 5 ?_;refine O.iy har hg (h:=fun p20 cs20 hp20 hrr20=>?_);have hr20:=Rp.rel.mono hrr20 hg;obtain ⟨ta3_20,ta4_20,tc3_20,tc4_20,rfl,ho0_20,ho1_20,ho2_20,ha3_20,ha4_20⟩:=RootRp.sh hr20;refine O.op (.p rfl) (.loadAgg isAgg52 zB rfl hp20) ?_;refine O.opE (.p rfl) (.alloc (cs:=[.int .i64 0,.int .i64 0,.int .i64 0,.slice none 0 0,.slice none 0 0]) zeroValue52 rfl) ?_;rintro _ _ ⟨b7,rfl,rfl⟩;refine zz 5 ?_;refine O.callPS (.p rfl) rfl zB rfl rfl zC (wown_c hr20 zD) (fun ch η' w hX hW=>by (obtain ⟨hb,rfl,rfl⟩:=hX;exact hR _ _ w ⟨hgo.trans (foldlM_take rootStep s0 l (i+1) (hnx.trans hb)),rfl,rfl⟩ hW.drop_all)) ?_;rintro v24 _ ⟨rfl,t24,hst,rfl⟩;refine zz 6 ?_;exact S.pw (ih (i+1) (t24) (by exact ⟨by omega,hnx.trans hst⟩) zD)
 ·clear ih
  have hi:i=l.length:=by omega
  subst hi;rw [List.take_length] at hx2;refine S.exit rfl<|S.end0 results147 fun w hw=>Holds.end_ hR hw ?_;exact pk ⟨rfl,t,hgo.trans hx2,rfl⟩
theorem rowsE_c {r:Fr} {b:Nat} {s:WSt} {va:Value} {l:List EvdT} (ha:Arr EvdRp r va l)  (hn:l.length≤3000) (hb:s.out.length≤100000000000000) (hs:s.seen.length≤10000) :
  Con prog 149 #[.pointer (some ⟨b,0,none⟩),va,.func (.func 150) #[.pointer (some ⟨b,0,none⟩)] #[]] r [WrB b s] (RetP (fun v η=>v=.tuple #[]∧∃ s',rowSteps evdStep s l=some s' ∧η=[WrB b s']) (fun ch η=>rowSteps evdStep s l=none∧ch=errP 32 4∧η=[])):=by
 have har:=ha;refine Con.o func149 fun g hg R hR=>?_;have ha:=ha.mono hg;have hbd:=ha.bound;obtain ⟨a1,c1,rfl⟩:=ha.shape;have hfl:[be l.length].flatten=be l.length:=by simp
 refine S.open (A:=WrB b s) zC (fun m x=>x) fun p=>?_;simp only [List.cons_append,List.nil_append];refine zz 1 ?_;refine S.regionD (L:=.range 8) F.mixed zB ?_;refine zz 2 ?_;refine .quiet (.p rfl) rfl (fun _=>.fieldObj fld186x0 rfl) ?_;refine zz 2 ?_;refine OD.call0 (.p rfl) zB rfl zB rfl rfl (wNumber_c _) ?_;rintro _ _ ⟨a13,c13,rfl,rfl⟩;refine OD.litP (T:=Rp.val) (ys:=[_]) (.p rfl) zB underlying39 elem31 zE rfl rfl ⟨⟨rfl,rfl⟩,trivial⟩ zE (fun a14 c14=>?_);refine OD.callSs (.p rfl) zB rfl zB rfl rfl zI (Con.lentW (η:=[obj b 186 [.slice p.1.1.1 s.out.length p.1.1.2,.string (str s.key),.int .i64 s.rep,.int .i64 s.shard,.int .i64 p.2.1,.slice p.2.2.1.1 p.2.2.1.2.1 p.2.2.1.2.2,.slice p.2.2.2.1 p.2.2.2.2.1 p.2.2.2.2.2,.int .i64 s.last,.slice p.1.2.1 s.seen.length p.1.2.2],OwnP Rp.u8 5 (.slice p.1.1.1 s.out.length p.1.1.2) s.out]) (bs:=[OwnP Rp.val 31 (.slice a14 1 c14) [.slice a13 8 c13],OwnP Rp.u8 5 (.slice a13 8 c13) (be l.length)]) (fun m hm hd=>bput_c (xss:=[be l.length]) ((hm.arr.right hd).rows ⟨hm.tail.arr.right hd,trivial⟩) (by rw [hfl];simp;omega) rfl)) ?_;rintro v15 _ ⟨_,⟨a15,c15,rfl,rfl⟩,rfl⟩;rw [hfl];refine zz 2 ?_;generalize hs0:({ s with out:=s.out++be l.length }:WSt)=s0;have hs1:s0.out.length=s.out.length+8:=by rw [← hs0];simp
 have hs2:s0.seen.length=s.seen.length:=by rw [← hs0]
 refine S.foldS (A:=WrB b s0) (bs:=[obj b 186 [.slice a15 (s.out++be l.length).length c15,.string (str s.key),.int .i64 s.rep,.int .i64 s.shard,.int .i64 p.2.1,.slice p.2.2.1.1 p.2.2.1.2.1 p.2.2.1.2.2,.slice p.2.2.2.1 p.2.2.2.2.1 p.2.2.2.2.2,.int .i64 s.last,.slice p.1.2.1 s.seen.length p.1.2.2],OwnP Rp.u8 5 (.slice a15 (s.out++be l.length).length c15) (s.out++be l.length),OwnP Rp.str 9 (.slice p.1.2.1 s.seen.length p.1.2.2) s.seen]) zI (fun m x=>⟨(((a15,c15),p.1.2),p.2),by rw [← hs0];exact x⟩) ?_;refine S.keep [WrB b s0] zO ?_;have hle:∀ i (s' :WSt),(l.take i).foldlM evdStep s0=some s' →s'.out.length≤s0.out.length+5000000*(l.take i).length∧s'.seen.length≤s0.seen.length+(l.take i).length :=
  fun i s' h=>steps_le evdStep _ _ _ (fun x hm t t' e=>evdStep_le e) h
 have hgo:rowSteps evdStep s l=l.foldlM evdStep s0:=by rw [← hs0];rfl
 refine zz 6 ?_;refine S.loopK2 (ι:=Nat) (κ:=WSt) (fun i t=>i≤l.length∧(l.take i).foldlM evdStep s0=some t) (fun i t=>[(18,.int .i64 (i:Int))]) [(2,_),(16,_),(17,_)] (fun i t=>[WrB b t]) (fun i t=>l.length - i) (0) (s0) zb25 zq zq rfl fun i t hx ih=>?_;have hm1:=meltRefl (g:=g);obtain ⟨hx1,hx2⟩:=hx;have hle1:=hle i t hx2;have hle2:(l.take i).length≤3000:=by rw [List.length_take];omega
 refine zz 5 ?_;refine S.cd rfl (fun h19=>?_) fun h19=>?_
 ·have hi:i<l.length:=by omega
  have hnx:=foldlM_next evdStep s0 t l i hi hx2;refine zz 5 ?_;refine O.iy har hg (h:=fun p20 cs20 hp20 hrr20=>?_);have hr20:=Rp.rel.mono hrr20 hg;obtain ⟨ea3_20,ea4_20,ea8_20,ea9_20,ec3_20,ec4_20,ec8_20,ec9_20,rfl,ho0_20,ho1_20,ho2_20,ha3_20,ha4_20,ho5_20,ho6_20,ho7_20,ha8_20,ha9_20⟩:=EvdRp.sh hr20;refine O.op (.p rfl) (.loadAgg isAgg55 zB rfl hp20) ?_;refine O.opE (.p rfl) (.alloc (cs:=[.int .i64 0,.int .i64 0,.int .i64 0,.slice none 0 0,.slice none 0 0,.int .i64 0,.int .i64 0,.int .i64 0,.slice none 0 0,.slice none 0 0]) zeroValue55 rfl) ?_;rintro _ _ ⟨b7,rfl,rfl⟩;refine zz 5 ?_;refine O.callPS (.p rfl) rfl zB rfl rfl zC (wproof_c hr20 zD zD) (fun ch η' w hX hW=>by (obtain ⟨hb,rfl,rfl⟩:=hX;exact hR _ _ w ⟨hgo.trans (foldlM_take evdStep s0 l (i+1) (hnx.trans hb)),rfl,rfl⟩ hW.drop_all)) ?_;rintro v24 _ ⟨rfl,t24,hst,rfl⟩;refine zz 6 ?_;exact S.pw (ih (i+1) (t24) (by exact ⟨by omega,hnx.trans hst⟩) zD)
 ·clear ih
  have hi:i=l.length:=by omega
  subst hi;rw [List.take_length] at hx2;refine S.exit rfl<|S.end0 results149 fun w hw=>Holds.end_ hR hw ?_;exact pk ⟨rfl,t,hgo.trans hx2,rfl⟩
theorem rowsS_c {r:Fr} {b:Nat} {s:WSt} {va:Value} {l:List Int} (ha:Arr Rp.i64 r va l)  (hn:l.length≤3000) (hb:s.out.length≤100000000000000) (hs:s.seen.length≤10000) :
  Con prog 151 #[.pointer (some ⟨b,0,none⟩),va,.func (.func 152) #[.pointer (some ⟨b,0,none⟩)] #[]] r [WrB b s] (RetP (fun v η=>v=.tuple #[]∧∃ s',rowSteps shutStep s l=some s' ∧η=[WrB b s']) (fun ch η=>rowSteps shutStep s l=none∧ch=errP 32 4∧η=[])):=by
 have har:=ha;refine Con.o func151 fun g hg R hR=>?_;have ha:=ha.mono hg;have hbd:=ha.bound;obtain ⟨a1,c1,rfl⟩:=ha.shape;have hfl:[be l.length].flatten=be l.length:=by simp
 refine S.open (A:=WrB b s) zC (fun m x=>x) fun p=>?_;simp only [List.cons_append,List.nil_append];refine zz 1 ?_;refine S.regionD (L:=.range 8) F.mixed zB ?_;refine zz 2 ?_;refine .quiet (.p rfl) rfl (fun _=>.fieldObj fld186x0 rfl) ?_;refine zz 2 ?_;refine OD.call0 (.p rfl) zB rfl zB rfl rfl (wNumber_c _) ?_;rintro _ _ ⟨a13,c13,rfl,rfl⟩;refine OD.litP (T:=Rp.val) (ys:=[_]) (.p rfl) zB underlying39 elem31 zE rfl rfl ⟨⟨rfl,rfl⟩,trivial⟩ zE (fun a14 c14=>?_);refine OD.callSs (.p rfl) zB rfl zB rfl rfl zI (Con.lentW (η:=[obj b 186 [.slice p.1.1.1 s.out.length p.1.1.2,.string (str s.key),.int .i64 s.rep,.int .i64 s.shard,.int .i64 p.2.1,.slice p.2.2.1.1 p.2.2.1.2.1 p.2.2.1.2.2,.slice p.2.2.2.1 p.2.2.2.2.1 p.2.2.2.2.2,.int .i64 s.last,.slice p.1.2.1 s.seen.length p.1.2.2],OwnP Rp.u8 5 (.slice p.1.1.1 s.out.length p.1.1.2) s.out]) (bs:=[OwnP Rp.val 31 (.slice a14 1 c14) [.slice a13 8 c13],OwnP Rp.u8 5 (.slice a13 8 c13) (be l.length)]) (fun m hm hd=>bput_c (xss:=[be l.length]) ((hm.arr.right hd).rows ⟨hm.tail.arr.right hd,trivial⟩) (by rw [hfl];simp;omega) rfl)) ?_;rintro v15 _ ⟨_,⟨a15,c15,rfl,rfl⟩,rfl⟩;rw [hfl];refine zz 2 ?_;generalize hs0:({ s with out:=s.out++be l.length }:WSt)=s0;have hs1:s0.out.length=s.out.length+8:=by rw [← hs0];simp
 have hs2:s0.seen.length=s.seen.length:=by rw [← hs0]
 refine S.foldS (A:=WrB b s0) (bs:=[obj b 186 [.slice a15 (s.out++be l.length).length c15,.string (str s.key),.int .i64 s.rep,.int .i64 s.shard,.int .i64 p.2.1,.slice p.2.2.1.1 p.2.2.1.2.1 p.2.2.1.2.2,.slice p.2.2.2.1 p.2.2.2.2.1 p.2.2.2.2.2,.int .i64 s.last,.slice p.1.2.1 s.seen.length p.1.2.2],OwnP Rp.u8 5 (.slice a15 (s.out++be l.length).length c15) (s.out++be l.length),OwnP Rp.str 9 (.slice p.1.2.1 s.seen.length p.1.2.2) s.seen]) zI (fun m x=>⟨(((a15,c15),p.1.2),p.2),by rw [← hs0];exact x⟩) ?_;refine S.keep [WrB b s0] zO ?_;have hle:∀ i (s' :WSt),(l.take i).foldlM shutStep s0=some s' →s'.out.length≤s0.out.length+5000000*(l.take i).length∧s'.seen.length≤s0.seen.length+(l.take i).length :=
  fun i s' h=>steps_le shutStep _ _ _ (fun x hm t t' e=>shutStep_le e) h
 have hgo:rowSteps shutStep s l=l.foldlM shutStep s0:=by rw [← hs0];rfl
 refine zz 6 ?_;refine S.loopK2 (ι:=Nat) (κ:=WSt) (fun i t=>i≤l.length∧(l.take i).foldlM shutStep s0=some t) (fun i t=>[(18,.int .i64 (i:Int))]) [(2,_),(16,_),(17,_)] (fun i t=>[WrB b t]) (fun i t=>l.length - i) (0) (s0) zb25 zq zq rfl fun i t hx ih=>?_;have hm1:=meltRefl (g:=g);obtain ⟨hx1,hx2⟩:=hx;have hle1:=hle i t hx2;have hle2:(l.take i).length≤3000:=by rw [List.length_take];omega
 refine zz 5 ?_;refine S.cd rfl (fun h19=>?_) fun h19=>?_
 ·have hi:i<l.length:=by omega
  have hnx:=foldlM_next shutStep s0 t l i hi hx2;refine zz 5 ?_;refine O.iz (ha) (h:=fun p20 cs20 hp20 hr20=>?_);obtain ⟨rfl,hz20⟩:=hr20;refine zz 6 ?_;refine O.callPS (.p rfl) rfl zB rfl rfl zC (wshut_c _ zD) (fun ch η' w hX hW=>by (obtain ⟨hb,rfl,rfl⟩:=hX;exact hR _ _ w ⟨hgo.trans (foldlM_take shutStep s0 l (i+1) (hnx.trans hb)),rfl,rfl⟩ hW.drop_all)) ?_;rintro v24 _ ⟨rfl,t24,hst,rfl⟩;refine zz 6 ?_;exact S.pw (ih (i+1) (t24) (by exact ⟨by omega,hnx.trans hst⟩) zD)
 ·clear ih
  have hi:i=l.length:=by omega
  subst hi;rw [List.take_length] at hx2;refine S.exit rfl<|S.end0 results151 fun w hw=>Holds.end_ hR hw ?_;exact pk ⟨rfl,t,hgo.trans hx2,rfl⟩
theorem written_c {r:Fr} {cs:List Value} {h:HeldT} (hr:HeldRp.rel r cs h) (hh:HeldB h) :
  Con prog 62 #[.agg cs.toArray] r [] (RetP (fun v η=>∃ out a c,imgW h=some out∧v=.slice a out.length c∧η=[OwnP Rp.u8 5 (.slice a out.length c) out]) (fun ch η=>imgW h=none∧ch=errP 32 4∧η=[])):=by
 obtain ⟨xa0,xa1,xa2,xa3,xc0,xc1,xc2,xc3,rfl,k0,k1,k2,k3⟩:=HeldRp.sh hr;obtain ⟨⟨m0,m0'⟩,m1,m2,m3⟩:=hh;refine Con.o func62 fun g hg R hR=>?_;have k0:=k0.mono hg;have k1:=k1.mono hg;have k2:=k2.mono hg;have k3:=k3.mono hg;refine S.seq<|S.region rfl<|O.opE (.p rfl) (.box (cs:=[_,_,_,_]) rfl rfl) ?_;rintro _ _ ⟨b1,rfl,rfl⟩;refine zz 3 ?_;refine S.frzO zC fun g hs hm hb1=>?_;replace hg:=Fr.sub_trans hg hs;replace hR:=melted hR hm
 try replace k0:=k0.mono hs
 try replace k1:=k1.mono hs
 try replace k2:=k2.mono hs
 try replace k3:=k3.mono hs
 clear hs hm;refine S.region rfl<|O.op (.p rfl) (.build (cs:=[_,_,_,_,_,_,_,_,_]) underlying186 rfl rfl rfl rfl rfl)<|O.opE (.p rfl) (.box (cs:=[_,_,_,_,_,_,_,_,_]) rfl rfl) ?_;rintro _ _ ⟨b5,rfl,rfl⟩;refine zz 3 ?_;refine S.foldS (A:=WrB b5 WSt.zero) (bs:=[obj b5 186 [.slice none 0 0,.string (str []),.int .i64 0,.int .i64 0,.int .i64 0,.slice none 0 0,.slice none 0 0,.int .i64 0,.slice none 0 0]]) zI (fun m x=>let ⟨h1,h2,d,s1,s2,ho,he⟩:=x;⟨(((none,0),(none,0)),(0,(none,0,0),(none,0,0))),h1,h2,d,s1,s2,ho,Fr.emp,h2,Fr.emp_disj _,Fr.emp_sub _,Fr.sub_refl _,ownP_nil _,Fr.emp,h2,Fr.emp_disj _,Fr.emp_sub _,Fr.sub_refl _,ownP_nil _,he⟩) ?_;refine zz 2 ?_;refine O.op (.p rfl) (.fieldAddr fld27x0 rfl) ?_;refine zz 3 ?_;refine O.callPS (.p rfl) rfl zB rfl rfl zC (rowsL_c k0 m0' m0 (by simp [WSt.zero]) (by simp [WSt.zero])) (fun ch η' w hX hW=>by (obtain ⟨hb,rfl,rfl⟩:=hX;exact hR _ _ w ⟨by simp [imgW,hb],rfl,rfl⟩ hW.drop_all)) ?_;rintro v11 _ ⟨rfl,s1,e1,rfl⟩;have q1:=rowsL_le m0' e1;simp only [WSt.zero,List.length_nil] at q1;refine zz 4 ?_;refine O.op (.p rfl) (.fieldAddr fld27x1 rfl) ?_;refine zz 3 ?_;refine O.callPS (.p rfl) rfl zB rfl rfl zC (rowsR_c k1 m1 zD zD) (fun ch η' w hX hW=>by (obtain ⟨hb,rfl,rfl⟩:=hX;exact hR _ _ w ⟨by simp [imgW,e1,hb],rfl,rfl⟩ hW.drop_all)) ?_;rintro v17 _ ⟨rfl,s2,e2,rfl⟩;have q2:=rowsR_le e2;refine zz 4 ?_
 refine O.op (.p rfl) (.fieldAddr fld27x2 rfl) ?_;refine zz 3 ?_;refine O.callPS (.p rfl) rfl zB rfl rfl zC (rowsE_c k2 m2 zD zD) (fun ch η' w hX hW=>by (obtain ⟨hb,rfl,rfl⟩:=hX;exact hR _ _ w ⟨by simp [imgW,e1,e2,hb],rfl,rfl⟩ hW.drop_all)) ?_;rintro v23 _ ⟨rfl,s3,e3,rfl⟩;have q3:=rowsE_le e3;refine zz 4 ?_;refine O.op (.p rfl) (.fieldAddr fld27x3 rfl) ?_;refine zz 3 ?_;refine O.callPS (.p rfl) rfl zB rfl rfl zC (rowsS_c k3 m3 zD zD) (fun ch η' w hX hW=>by (obtain ⟨hb,rfl,rfl⟩:=hX;exact hR _ _ w ⟨by simp [imgW,e1,e2,e3,hb],rfl,rfl⟩ hW.drop_all)) ?_;rintro v29 _ ⟨rfl,s,e4,rfl⟩;refine O.nil<|S.seq<|S.open (A:=WrB b5 s) zC (fun m x=>x) fun p=>?_;simp only [List.cons_append,List.nil_append];refine zz 8 ?_;exact S.rt results62 rfl hR ⟨s.out,p.1.1.1,p.1.1.2,by simp [imgW,e1,e2,e3,e4],rfl,rfl⟩
theorem iput1_c {r:Fr} {b:Nat} {cs:List Value} {x:HeldT} (hb:At r ⟨b,0,none⟩ cs) (h:HeldRp.rel r cs x) (hh:HeldB x) :
  Con prog 61 (#[]++#[]++#[.pointer (some ⟨b,0,none⟩)]) r [] (RetP (fun v η=>∃ out a c,imgW x=some out∧v=.slice a out.length c∧η=[OwnP Rp.u8 5 (.slice a out.length c) out]) (fun ch η=>∃ z,ch=errP 32 z∧(imgW x=none∧z=4)∧η=[])):=by
 obtain ⟨xa0,xa1,xa2,xa3,xc0,xc1,xc2,xc3,rfl,k0,k1,k2,k3⟩:=HeldRp.sh h;refine Con.of (n:=4) [.pointer (some ⟨b,0,none⟩)] rfl func61 rfl rfl rfl fun g hg R hR=>?_;have hb:=hb.mono hg;have h:=h.mono hg;refine zz 6 ?_;refine O.op (.p rfl) (.loadAgg isAgg27 zB rfl hb) ?_;refine O.callP0 (.p rfl) rfl zB rfl rfl (written_c h hh) (fun ch η' w hX hW=>by (obtain ⟨hb,rfl,rfl⟩:=hX;exact hR _ _ w ⟨4,rfl,⟨hb,rfl⟩,rfl⟩ hW.drop_all)) ?_;rintro _ _ ⟨out,a3,c3,e,rfl,rfl⟩;refine zz 2 ?_;exact S.rt results61 rfl hR ⟨out,a3,c3,e,rfl,rfl⟩
theorem iTried_c {r:Fr} {first cap:Array Value} {x:HeldT} (con:Con prog 61 (first++#[]++cap) r [] (RetP (fun v η=>∃ out a c,imgW x=some out∧v=.slice a out.length c∧η=[OwnP Rp.u8 5 (.slice a out.length c) out]) (fun ch η=>∃ z,ch=errP 32 z∧(imgW x=none∧z=4)∧η=[]))) (h1:(Value.func (.func 61) first cap).oneCell' =true:=by rfl) :
  Con prog 60 #[.func (.func 61) first cap] r [] (Ret fun v η=>∃ a c,v=.tuple #[.slice a (imgOut x).length c,.int .i64 (imgErr x)]∧η=[OwnP Rp.u8 5 (.slice a (imgOut x).length c) (imgOut x)]) :=
 (triedIB_c zB h1 (fun _ _ h=>by obtain ⟨_,_,_,_,rfl,_⟩:=h;rfl) con).post fun e η h w g hw=>by
  cases e with
  |returned v =>
   rcases h with ⟨u,⟨out,a,c,hs,rfl,rfl⟩,rfl⟩|⟨z,⟨hs,rfl⟩,rfl,rfl⟩
   ·exact ⟨_,⟨a,c,by simp [imgOut,imgErr,hs],rfl⟩,by simpa [imgOut,hs] using hw⟩
   ·exact ⟨_,⟨none,0,by simp [imgOut,imgErr,hs],rfl⟩,by simp only [imgOut,hs];exact hw.imp fun m x=>⟨Fr.emp,m,Fr.emp_disj _,Fr.emp_sub _,Fr.sub_refl _,ownP_nil _,x⟩⟩
  |panicked _=>exact h.elim
  |outgrown=>exact h.elim
theorem iPut_c {r:Fr} {cs:List Value} {x:HeldT} (h:HeldRp.rel r cs x) (hh:HeldB x) :
  Con prog 17 #[.agg cs.toArray] r [] (Ret fun v η=>∃ a c,v=.tuple #[.slice a (imgOut x).length c,.int .i64 (imgErr x)]∧η=[OwnP Rp.u8 5 (.slice a (imgOut x).length c) (imgOut x)]):=by
 obtain ⟨xa0,xa1,xa2,xa3,xc0,xc1,xc2,xc3,rfl,k0,k1,k2,k3⟩:=HeldRp.sh h;refine Con.o func17 fun g hg R hR=>?_;have h:=h.mono hg;refine S.seq<|S.region rfl<|O.opE (.p rfl) (.box (cs:=[_,_,_,_]) rfl rfl) ?_;rintro _ _ ⟨b1,rfl,rfl⟩;refine zz 4 ?_;refine S.frzO zC fun g hs hm hb1=>?_;replace hg:=Fr.sub_trans hg hs;replace hR:=melted hR hm
 try replace h:=h.mono hs
 clear hs hm;refine zz 2 ?_;refine O.call0 (.p rfl) rfl zB rfl rfl ((iTried_c (iput1_c hb1 h hh))) ?_;rintro _ _ ⟨a5,c5,rfl,rfl⟩;refine O.q 4 rfl<|O.nil<|S.ret2 results17 rfl rfl fun w hw=>Holds.end_ hR hw ?_;exact pk ⟨a5,c5,rfl,rfl⟩
theorem iRight_c {r:Fr} {cs:List Value} {x:HeldT} (h:HeldRp.rel r cs x) (hh:HeldB x) :
  Con prog 20 #[.agg cs.toArray] r [] (Ret fun v η=>v=.bool (imgW x).isSome∧η=[]):=by
 obtain ⟨xa0,xa1,xa2,xa3,xc0,xc1,xc2,xc3,rfl,k0,k1,k2,k3⟩:=HeldRp.sh h;refine Con.o func20 fun g hg R hR=>?_;have h:=h.mono hg;refine S.seq<|S.region rfl<|O.opE (.p rfl) (.box (cs:=[_,_,_,_]) rfl rfl) ?_;rintro _ _ ⟨b1,rfl,rfl⟩;refine zz 5 ?_;refine O.call0 (.p rfl) rfl zB rfl rfl ((iPut_c h hh)) ?_;rintro _ _ ⟨a7,c7,rfl,rfl⟩;refine zz 12 ?_;exact S.rt results20 rfl hR ⟨by cases e:imgW x<;>simp [imgErr,e],rfl⟩
theorem recordOf_c {r:Fr} {cs:List Value} {x:RecT} (h:RecRp.rel r cs x) (ho:RecOk big x) :
  Con prog 201 #[.agg cs.toArray] r [] (Ret fun v η=>v=.int .i64 (recN x:Int)∧η=[]):=by
 obtain ⟨xa3,xa5,xa6,xc3,xc5,xc6,rfl,k0,k1,k2,k3,k5,k6⟩:=RecRp.sh h;obtain ⟨o0,o1,o2,o3⟩:=ho;unfold big at o0 o1 o2 o3;have hz0:=str_size x.1;refine Con.o func201 fun g hg R hR=>?_;refine S.seq<|S.region rfl<|O.opE (.p rfl) (.box (cs:=[_,_,_,_,_,_,_]) rfl rfl) ?_;rintro _ _ ⟨b1,rfl,rfl⟩;refine zz 19 ?_;refine O.op (.p rfl) (.quo rfl rfl zD)<|O.slot 18 (v' :=.int .i64 (((x.1.length+x.2.2.2.2.2.1.length+x.2.2.2.2.2.2.1.length) / 8:Nat):Int)) rfl (by rw [hz0,Int.tdiv_eq_ediv_of_nonneg zD,IntWalk.i64_in _ zD];rfl) ?_;refine zz 1 ?_;refine O.slot 19 (v' :=.int .i64 (recN x:Int)) rfl (by unfold recN;exact congrArg _ zD) ?_;refine zz 2 ?_;exact S.rt results201 rfl hR ⟨rfl,rfl⟩
theorem rootOf_c {r:Fr} {cs:List Value} {x:RootT} (h:RootRp.rel r cs x) (ho:RootOk big x) :
  Con prog 55 #[.agg cs.toArray] r [] (Ret fun v η=>v=.int .i64 (rootN x:Int)∧η=[]):=by
 obtain ⟨xa3,xa4,xc3,xc4,rfl,k0,k1,k2,k3,k4⟩:=RootRp.sh h;obtain ⟨o0,o1⟩:=ho;unfold big at o0 o1;refine Con.o func55 fun g hg R hR=>?_;refine S.seq<|S.region rfl<|O.opE (.p rfl) (.box (cs:=[_,_,_,_,_]) rfl rfl) ?_;rintro _ _ ⟨b1,rfl,rfl⟩;refine zz 11 ?_;refine O.op (.p rfl) (.quo rfl rfl zD)<|O.slot 10 (v' :=.int .i64 (((x.2.2.2.1.length+x.2.2.2.2.1.length) / 8:Nat):Int)) rfl (by rw [Int.tdiv_eq_ediv_of_nonneg zD,IntWalk.i64_in _ zD];rfl) ?_;refine zz 1 ?_;refine O.slot 11 (v' :=.int .i64 (rootN x:Int)) rfl (by unfold rootN;exact congrArg _ zD) ?_;refine zz 2 ?_;exact S.rt results55 rfl hR ⟨rfl,rfl⟩
theorem recordsOf_c {r:Fr} {va:Value} {l:List RecT} {most:Int} (ha:Arr RecRp r va l) (ho:∀ x∈l,RecOk big x) (hl:l.length≤big) (hm:0≤most∧most≤1000000000) :
  Con prog 99 #[va,.int .i64 most] r [] (Ret fun v η=>∃ n:Nat,v=.int .i64 (n:Int)∧(n:Int)≤1000000000000000∧((n:Int)≤most→RecsC n l)∧η=[]):=by
 unfold big at hl;obtain ⟨hm0,hm1⟩:=hm;have har:=ha;refine Con.o func99 fun g hg R hR=>?_;have ha:=ha.mono hg;have hbd:=ha.bound;obtain ⟨a1,c1,rfl⟩:=ha.shape;refine zz 14 ?_;refine S.loopK2 (ι:=Nat) (κ:=Nat) (fun i n=>i≤l.length∧i≤n∧(n:Int)≤1000000000000000∧∀ x∈l.take i,recN x≤n) (fun i n=>[(5,.int .i64 (n:Int)),(6,.int .i64 (i:Int))]) [(0,_),(1,_)] (fun i n=>[]) (fun i n=>l.length - i) (0) (0) (by exact ⟨by simp,by simp,by omega,by simp⟩) zq zq rfl fun i n hx ih=>?_;have hm1:=meltRefl (g:=g);obtain ⟨hx1,hx2,hx3,hx4⟩:=hx
 by_cases q1:¬ i<l.length
 ·clear ih
  have hi:i=l.length:=by omega
  rw [hi,List.take_length] at hx4;refine zz 7 ?_;refine O.sF 10 rfl (by exact decide_eq_false zD) ?_;refine zz 13 ?_;exact S.rt results99 rfl hR ⟨n,rfl,hx3,fun _=>⟨by omega,hx4⟩,rfl⟩
 have hi:i<l.length:=Classical.not_not.1 q1
 by_cases q2:¬ (n:Int)≤most
 ·clear ih
  refine zz 7 ?_;refine O.sT 10 rfl (by exact decide_eq_true zD) ?_;refine zz 4 ?_;refine O.sF 14 rfl (by exact decide_eq_false q2) ?_;refine zz 9 ?_;exact S.rt results99 rfl hR ⟨n,rfl,hx3,fun h=>absurd h q2,rfl⟩
 replace q2:=Classical.not_not.1 q2;have hoi:=ho _ (List.getElem_mem hi);have hri:=recN_le hoi;unfold big at hri;have hrp:1≤recN l[i]:=by unfold recN;omega
 refine zz 7 ?_;refine O.sT 10 rfl (by exact decide_eq_true zD) ?_;refine zz 4 ?_;refine O.sT 14 rfl (by exact decide_eq_true q2) ?_;refine zz 10 ?_;refine O.iy har hg (h:=fun p21 cs21 hp21 hrr21=>?_);have hr21:=Rp.rel.mono hrr21 hg;obtain ⟨ra3_21,ra5_21,ra6_21,rc3_21,rc5_21,rc6_21,rfl,ho0_21,ho1_21,ho2_21,ha3_21,ha5_21,ha6_21⟩:=RecRp.sh hr21;refine O.op (.p rfl) (.loadAgg isAgg74 zB rfl hp21) ?_;refine O.v0 (.p rfl) rfl zB rfl rfl (recordOf_c (by first|assumption|exact Rp.rel.mono zF hg) zF) ?_;refine zz 1 ?_;refine O.slot 24 (v' :=.int .i64 ((n+recN l[i]:Nat):Int)) rfl (by rw [Int.natCast_add]) ?_;refine zz 8 ?_;exact S.wk (ih (i+1) (n+recN l[i]) (by exact ⟨by omega,by omega,by omega,mem_take_succ hi (fun x hx=>by have:=hx4 x hx;omega) zD⟩) zD)
theorem leavesOf_c {r:Fr} {va:Value} {l:List LeafT} {most:Int} (ha:Arr LeafRp r va l) (ho:∀ x∈l,LeafOk big x) (hl:l.length≤big) (hm:0≤most∧most≤1000000000) :
  Con prog 54 #[va,.int .i64 most] r [] (Ret fun v η=>∃ n:Nat,v=.int .i64 (n:Int)∧(n:Int)≤3000000000000000∧((n:Int)≤most→LeavesC n l)∧η=[]):=by
 unfold big at hl;obtain ⟨hm0,hm1⟩:=hm;have har:=ha;refine Con.o func54 fun g hg R hR=>?_;have ha:=ha.mono hg;have hbd:=ha.bound;obtain ⟨a1,c1,rfl⟩:=ha.shape;refine zz 14 ?_;refine S.loopK2 (ι:=Nat) (κ:=Nat) (fun i n=>i≤l.length∧i≤n∧(n:Int)≤3000000000000000∧((n:Int)≤most→recsIn (l.take i)≤n∧∀ x∈l.take i,LeafC n x)) (fun i n=>[(5,.int .i64 (n:Int)),(6,.int .i64 (i:Int))]) [(0,_),(1,_)] (fun i n=>[]) (fun i n=>l.length - i) (0) (0) (by exact ⟨by simp,by simp,by omega,fun _=>⟨by simp [recsIn],by simp⟩⟩) zq zq rfl fun i n hx ih=>?_;have hm1:=meltRefl (g:=g);obtain ⟨hx1,hx2,hx3,hx4⟩:=hx
 by_cases q1:¬ i<l.length
 ·clear ih
  have hi:i=l.length:=by omega
  rw [hi,List.take_length] at hx4;refine zz 7 ?_;refine O.sF 10 rfl (by exact decide_eq_false zD) ?_;refine zz 13 ?_;exact S.rt results54 rfl hR ⟨n,rfl,hx3,fun q=>⟨⟨by omega,(hx4 q).1⟩,(hx4 q).2⟩,rfl⟩
 have hi:i<l.length:=Classical.not_not.1 q1
 by_cases q2:¬ (n:Int)≤most
 ·clear ih
  refine zz 7 ?_;refine O.sT 10 rfl (by exact decide_eq_true zD) ?_;refine zz 4 ?_;refine O.sF 14 rfl (by exact decide_eq_false q2) ?_;refine zz 9 ?_;exact S.rt results54 rfl hR ⟨n,rfl,hx3,fun h=>absurd h q2,rfl⟩
 replace q2:=Classical.not_not.1 q2;have hoi:=ho _ (List.getElem_mem hi);obtain ⟨ho1,ho2,ho3⟩:=hoi;have hz0:=str_size l[i].1;have ho1' :l[i].1.length≤140737488351232:=ho1;refine zz 7 ?_;refine O.sT 10 rfl (by exact decide_eq_true zD) ?_;refine zz 4 ?_;refine O.sT 14 rfl (by exact decide_eq_true q2) ?_;refine zz 6 ?_;refine S.regionD (L:=.range 21) F.mixed zB ?_;refine zz 4 ?_;refine OD.iy har hg (h:=fun p22 cs22 hp22 hrr22=>?_);have hr22:=Rp.rel.mono hrr22 hg;obtain ⟨la1_22,lc1_22,rfl,ho0_22,ha1_22⟩:=LeafRp.sh hr22;refine zz 3 ?_;refine .quiet (.p rfl) rfl (fun _=>.quo rfl rfl zD)<|OD.slot 26 (v' :=.int .i64 ((l[i].1.length / 8:Nat):Int)) rfl (by rw [hz0,Int.tdiv_eq_ediv_of_nonneg zD,IntWalk.i64_in _ zD];rfl) ?_;refine zz 3 ?_;refine OD.iy har hg (h:=fun p30 cs30 hp30 hrr30=>?_);have hr30:=Rp.rel.mono hrr30 hg;obtain ⟨la1_30,lc1_30,rfl,ho0_30,ha1_30⟩:=LeafRp.sh hr30;refine zz 5 ?_;refine OD.call0 (.p rfl) zB rfl zB rfl rfl ((recordsOf_c ha1_30 ho3 ho2 ⟨by omega,by omega⟩)) ?_;rintro v36 _ ⟨m,rfl,hm2,hm3,rfl⟩;refine zz 1 ?_;refine OD.slot 37 (v' :=.int .i64 ((n+1+l[i].1.length / 8+m:Nat):Int)) rfl (by exact congrArg _ zD) ?_;refine zz 8 ?_
 exact S.wk (ih (i+1) (n+1+l[i].1.length / 8+m) (by exact ⟨by omega,by omega,by omega,fun q=>⟨by have h7:=(hx4 zD).1;have h8:=(hm3 zD).1;rw [recsIn_succ hi];omega,mem_take_succ hi (fun x hx=>((hx4 zD).2 x hx).mono zD) ⟨by omega,(hm3 zD).mono zD⟩⟩⟩) zD)
theorem heldOf_c {r:Fr} {cs:List Value} {h:HeldT} {most:Int} (hr:HeldRp.rel r cs h) (ho:HeldOk big h) (hm:0≤most∧most≤1000000000) :
  Con prog 14 #[.agg cs.toArray,.int .i64 most] r [] (Ret fun v η=>∃ n:Nat,v=.int .i64 (n:Int)∧((n:Int)≤most→HeldC n h)∧η=[]):=by
 obtain ⟨xa0,xa1,xa2,xa3,xc0,xc1,xc2,xc3,rfl,k0,k1,k2,k3⟩:=HeldRp.sh hr;obtain ⟨⟨o0,o0'⟩,⟨o1,o1'⟩,⟨o2,o2'⟩,o3⟩:=ho;have o1b:=o1;have o2b:=o2;unfold big at o1b o2b o3;obtain ⟨hm0,hm1⟩:=hm;have kr1:=k1;have kr2:=k2;refine Con.o func14 fun g hg R hR=>?_;have k0:=k0.mono hg;have k1:=k1.mono hg;have k2:=k2.mono hg;have k3:=k3.mono hg;refine S.seq<|S.region rfl<|O.opE (.p rfl) (.box (cs:=[_,_,_,_]) rfl rfl) ?_;rintro _ _ ⟨b2,rfl,rfl⟩;refine zz 3 ?_;refine S.frzO zC fun g hs hm hb2=>?_;replace hg:=Fr.sub_trans hg hs;replace hR:=melted hR hm
 try replace k0:=k0.mono hs
 try replace k1:=k1.mono hs
 try replace k2:=k2.mono hs
 try replace k3:=k3.mono hs
 clear hs hm;refine S.regionD (L:=.range 10) F.mixed zB ?_;refine zz 6 ?_;refine OD.q 1 rfl<|OD.call0 (.p rfl) zB rfl zB rfl rfl ((leavesOf_c k0 o0' o0 ⟨hm0,hm1⟩)) ?_;rintro v15 _ ⟨m,rfl,hm2,hm3,rfl⟩;refine zz 1 ?_;refine OD.slot 16 (v' :=.int .i64 ((1+h.2.2.2.1.length+m:Nat):Int)) rfl (by exact congrArg _ zD) ?_;refine OD.q 1 rfl<|ODx.nil (S.seq (S.seq ?_));generalize hn:1+h.2.2.2.1.length+m=n0;refine zz 4 ?_;refine S.loopK2 (ι:=Nat) (κ:=Nat) (fun i n=>i≤h.2.1.length∧i≤n∧n0≤n∧(n:Int)≤4000000000000000∧((n:Int)≤most→∀ x∈h.2.1.take i,rootN x≤n)) (fun i n=>[(5,.int .i64 (n:Int)),(6,.int .i64 (i:Int))]) [(1,_),(2,_)] (fun i n=>[]) (fun i n=>h.2.1.length - i) (0) (n0) (by exact ⟨by simp,by simp,by omega,by omega,by simp⟩) zq zq rfl fun i n hx ih=>?_;have hm1:=meltRefl (g:=g);obtain ⟨hx1,hx2,hx3,hx4,hx5⟩:=hx
 by_cases q:i<h.2.1.length∧(n:Int)≤most
 ·obtain ⟨hi,q2⟩:=q
  have hoi:=o1' _ (List.getElem_mem hi);have hri:=rootN_le hoi;unfold big at hri;have hrp:1≤rootN h.2.1[i]:=by unfold rootN;omega
  refine zz 4 ?_;refine O.op (.p rfl) (.fieldAddr fld27x1 rfl) ?_;refine zz 3 ?_;refine O.sT 21 rfl (by exact decide_eq_true zD) ?_;refine zz 4 ?_;refine O.sT 25 rfl (by exact decide_eq_true q2) ?_;refine zz 8 ?_;refine O.op (.p rfl) (.fieldAddr fld27x1 rfl) ?_;refine zz 1 ?_;refine O.q 1 rfl<|O.iy kr1 hg (h:=fun p33 cs33 hp33 hrr33=>?_);have hr33:=Rp.rel.mono hrr33 hg;obtain ⟨ta3_33,ta4_33,tc3_33,tc4_33,rfl,ho0_33,ho1_33,ho2_33,ha3_33,ha4_33⟩:=RootRp.sh hr33;refine O.op (.p rfl) (.loadAgg isAgg52 zB rfl hp33) ?_;refine O.v0 (.p rfl) rfl zB rfl rfl (rootOf_c (by first|assumption|exact Rp.rel.mono zF hg) zF) ?_;refine zz 1 ?_;refine O.slot 36 (v' :=.int .i64 ((n+rootN h.2.1[i]:Nat):Int)) rfl (by rw [Int.natCast_add]) ?_;refine zz 8 ?_;exact S.wk (ih (i+1) (n+rootN h.2.1[i]) (by exact ⟨by omega,by omega,by omega,by omega,fun q=>mem_take_succ hi (fun x hx=>by have:=hx5 zD x hx;omega) zD⟩) zD)
 ·clear ih
  have hx5' :(n:Int)≤most→RootsC n h.2.1:=fun q' =>by
   have hi:i=h.2.1.length:=by
    by_cases q3:i<h.2.1.length
    ·exact absurd ⟨q3,q'⟩ q
    ·omega
   have:=hx5 q';rw [hi,List.take_length] at this;exact ⟨by omega,this⟩
  clear hx5;refine S.cut3 (fun (u:Unit)=>True) (fun (u:Unit)=>[(5,.int .i64 (n:Int))]) [(1,_),(2,_)] (fun (u:Unit)=>[]) zq (fun key=>?_) (fun u hx=>?_)
  ·have hm2:=meltRefl (g:=g)
   by_cases q1:i<h.2.1.length
   ·
    refine zz 4 ?_;refine O.op (.p rfl) (.fieldAddr fld27x1 rfl) ?_;refine zz 3 ?_;refine O.sT 21 rfl (by exact decide_eq_true zD) ?_;refine zz 4 ?_;refine O.sF 25 rfl (by exact decide_eq_false (fun q2=>q ⟨q1,q2⟩)) ?_;refine zz 4 ?_;refine S.pk ?_ (S.weaken ?_ (key (()) zT))
    ·repeat (first|exact zpa|exact zpn|(apply zpc;focus (repeat (first|exact zh|apply zt)))|apply zps)
    repeat (first|exact Sub.nil|refine Sub.cons rfl ?_)
   ·
    refine zz 4 ?_;refine O.op (.p rfl) (.fieldAddr fld27x1 rfl) ?_;refine zz 3 ?_;refine O.sF 21 rfl (by exact decide_eq_false zD) ?_;refine zz 8 ?_;refine S.pk ?_ (S.weaken ?_ (key (()) zT))
    ·repeat (first|exact zpa|exact zpn|(apply zpc;focus (repeat (first|exact zh|apply zt)))|apply zps)
    repeat (first|exact Sub.nil|refine Sub.cons rfl ?_)
  ·clear q
   generalize n=n1 at hx3 hx4 hx5' ⊢;refine zz 6 ?_;refine S.loopK2 (ι:=Nat) (κ:=Nat) (fun i n=>i≤h.2.2.1.length∧i≤n∧n1≤n∧(n:Int)≤5000000000000000∧((n:Int)≤most→∀ x∈h.2.2.1.take i,rootN x.1≤n∧rootN x.2.1≤n)) (fun i n=>[(5,.int .i64 (n:Int)),(7,.int .i64 (i:Int))]) [(1,_),(2,_)] (fun i n=>[]) (fun i n=>h.2.2.1.length - i) (0) (n1) (by exact ⟨by simp,by simp,by omega,by omega,by simp⟩) zq zq rfl fun i n hx ih=>?_;have hm2:=meltRefl (g:=g);obtain ⟨hy1,hy2,hy3,hy4,hy5⟩:=hx
   by_cases q:i<h.2.2.1.length∧(n:Int)≤most
   ·obtain ⟨hi,q2⟩:=q
    obtain ⟨ho3,ho4,ho5,ho6⟩:=o2' _ (List.getElem_mem hi);have hoi1:RootOk big h.2.2.1[i].1:=⟨ho3,ho4⟩;have hoi2:RootOk big h.2.2.1[i].2.1:=⟨ho5,ho6⟩;have hri1:=rootN_le hoi1;have hri2:=rootN_le hoi2;unfold big at hri1 hri2;have hrp1:1≤rootN h.2.2.1[i].1:=by unfold rootN;omega
    have hrp2:1≤rootN h.2.2.1[i].2.1:=by unfold rootN;omega
    refine zz 4 ?_;refine O.op (.p rfl) (.fieldAddr fld27x2 rfl) ?_;refine zz 3 ?_;refine O.sT 41 rfl (by exact decide_eq_true zD) ?_;refine zz 4 ?_;refine O.sT 45 rfl (by exact decide_eq_true q2) ?_;refine zz 6 ?_;refine S.regionD (L:=[0,1,2,3,4,5,6,9,10,11,12,13,14,7,8,15,16,17]) F.mixed zB ?_;refine zz 3 ?_;refine OD.q 1 rfl<|OD.iy kr2 hg (h:=fun p53 cs53 hp53 hrr53=>?_);have hr53:=Rp.rel.mono hrr53 hg;obtain ⟨ea3_53,ea4_53,ea8_53,ea9_53,ec3_53,ec4_53,ec8_53,ec9_53,rfl,ho0_53,ho1_53,ho2_53,ha3_53,ha4_53,ho5_53,ho6_53,ho7_53,ha8_53,ha9_53⟩:=EvdRp.sh hr53;refine zz 1 ?_;refine .quiet (.p rfl) rfl (fun _=>.loadAgg (cs:=[_,_,_,_,_]) isAgg52 zB rfl (hp53.take 5)) ?_;refine zz 2 ?_;refine OD.q 1 rfl<|OD.iy kr2 hg (h:=fun p61 cs61 hp61 hrr61=>?_);have hr61:=Rp.rel.mono hrr61 hg;obtain ⟨ea3_61,ea4_61,ea8_61,ea9_61,ec3_61,ec4_61,ec8_61,ec9_61,rfl,ho0_61,ho1_61,ho2_61,ha3_61,ha4_61,ho5_61,ho6_61,ho7_61,ha8_61,ha9_61⟩:=EvdRp.sh hr61;refine zz 1 ?_;refine .quiet (.p rfl) rfl (fun _=>.loadAgg (cs:=[_,_,_,_,_]) isAgg52 zB rfl ((hp61.drop 5).take 5)) ?_;refine OD.v0 (.p rfl) zB rfl zB rfl rfl ((rootOf_c (x:=h.2.2.1[i].1) (RootRp.mk ho0_53 ho1_53 ho2_53 ha3_53 ha4_53) hoi1)) ?_;refine zz 1 ?_;refine OD.v0 (.p rfl) zB rfl zB rfl rfl ((rootOf_c (x:=h.2.2.1[i].2.1) (RootRp.mk ho5_61 ho6_61 ho7_61 ha8_61 ha9_61) hoi2)) ?_;refine zz 1 ?_
    refine OD.slot 65 (v' :=.int .i64 ((n+rootN h.2.2.1[i].1+rootN h.2.2.1[i].2.1:Nat):Int)) rfl (by exact congrArg _ zD) ?_;refine zz 8 ?_;exact S.wk (ih (i+1) (n+rootN h.2.2.1[i].1+rootN h.2.2.1[i].2.1) (by exact ⟨by omega,by omega,by omega,by omega,fun q=>mem_take_succ hi (fun x hx=>by have:=hy5 zD x hx;omega) zD⟩) zD)
   ·clear ih
    have hy5' :(n:Int)≤most→EvdsC n h.2.2.1:=fun q' =>by
     have hi:i=h.2.2.1.length:=by
      by_cases q3:i<h.2.2.1.length
      ·exact absurd ⟨q3,q'⟩ q
      ·omega
     have:=hy5 q';rw [hi,List.take_length] at this;exact ⟨by omega,this⟩
    clear hy5;have fin:(n:Int)≤most→HeldC n h:=fun q' =>⟨(hm3 zD).mono zD,(hx5' zD).mono hy3,hy5' q',by omega⟩
    by_cases q1:i<h.2.2.1.length
    ·
     refine zz 4 ?_;refine O.op (.p rfl) (.fieldAddr fld27x2 rfl) ?_;refine zz 3 ?_;refine O.sT 41 rfl (by exact decide_eq_true zD) ?_;refine zz 4 ?_;refine O.sF 45 rfl (by exact decide_eq_false (fun q2=>q ⟨q1,q2⟩)) ?_;refine zz 9 ?_;exact S.rt results14 rfl hR ⟨n,rfl,fin,rfl⟩
    ·
     refine zz 4 ?_;refine O.op (.p rfl) (.fieldAddr fld27x2 rfl) ?_;refine zz 3 ?_;refine O.sF 41 rfl (by exact decide_eq_false zD) ?_;refine zz 13 ?_;exact S.rt results14 rfl hR ⟨n,rfl,fin,rfl⟩
theorem img0:imgW ([],[],[],[],())=some (List.replicate 32 0):=by simp [imgW,rowSteps,WSt.zero];decide
theorem img1:imgW ([],[],[],[2],())=some (List.replicate 31 0++[1]++(List.replicate 7 0++[2])):=by simp [imgW,rowSteps,WSt.zero,shutStep];decide
theorem img2:imgW ([],[],[],[2,1],())=none:=by simp [imgW,rowSteps,WSt.zero,shutStep]
theorem imgOut0:imgOut ([],[],[],[],())=List.replicate 32 0:=by simp only [imgOut,img0];rfl
theorem imgErr0:imgErr ([],[],[],[],())=0:=by simp [imgErr,img0]
theorem imgOut1:imgOut ([],[],[],[2],())=List.replicate 31 0++[1]++(List.replicate 7 0++[2]):=by simp only [imgOut,img1];rfl
theorem imgErr1:imgErr ([],[],[],[2],())=0:=by simp [imgErr,img1]
theorem imgErr2:imgErr ([],[],[],[2,1],())=4:=by simp [imgErr,img2]
theorem heldB0 (l:List Int) (h:l.length≤3000):HeldB ([],[],[],l,()):=⟨⟨by simp,by simp⟩,by simp,by simp,h⟩
theorem awake_c {r:Fr}:Con prog 15 #[] r [] (Ret fun v η=>v=.bool true∧η=[]):=by
 refine Con.o func15 fun g hg R hR=>?_;refine zz 6 ?_;refine O.op (.p rfl) (.build (cs:=[_,_,_,_]) underlying27 rfl rfl rfl rfl rfl)<|O.call0 (.p rfl) rfl zB rfl rfl ((iPut_c (HeldRp.mk Arr.nil Arr.nil Arr.nil Arr.nil) (heldB0 [] zE))) ?_;rintro _ _ ⟨a9,c9,rfl,rfl⟩;rw [imgOut0,imgErr0];refine zz 7 ?_;refine S.frzA zC fun g hs hm hz1=>?_;replace hg:=Fr.sub_trans hg hs;replace hR:=melted hR hm;clear hs hm;refine S.region rfl<|O.opE (.p rfl) (.litP (T:=Rp.i64) (ys:=[2]) underlying25 elem3 zE rfl rfl ⟨⟨rfl,by first|assumption|(constructor<;>omega)⟩,trivial⟩ zE) ?_;rintro _ _ ⟨a13,c13,rfl,rfl⟩;refine O.op (.p rfl) (.build (cs:=[_,_,_,_]) underlying27 rfl rfl rfl rfl rfl)<|O.callB (.p rfl) rfl zB rfl rfl (bs:=[OwnP Rp.i64 3 (.slice a13 1 c13) [2]]) zI (fun m hm hd=>iPut_c (HeldRp.mk Arr.nil Arr.nil Arr.nil (hm.arr.right hd)) (heldB0 [2] zE)) ?_;rintro _ _ ⟨a15,c15,rfl,rfl⟩;rw [imgOut1,imgErr1];refine zz 7 ?_;refine S.frzA zC fun g hs hm hz2=>?_;replace hg:=Fr.sub_trans hg hs;replace hR:=melted hR hm
 try replace hz1:=hz1.mono hs
 clear hs hm;refine S.region rfl<|O.opE (.p rfl) (.litP (T:=Rp.i64) (ys:=[2,1]) underlying25 elem3 zE rfl rfl ⟨⟨rfl,by first|assumption|(constructor<;>omega)⟩,⟨rfl,by first|assumption|(constructor<;>omega)⟩,trivial⟩ zE) ?_;rintro _ _ ⟨a19,c19,rfl,rfl⟩;refine O.op (.p rfl) (.build (cs:=[_,_,_,_]) underlying27 rfl rfl rfl rfl rfl)<|O.callB (.p rfl) rfl zB rfl rfl (bs:=[OwnP Rp.i64 3 (.slice a19 2 c19) [2,1]]) zI (fun m hm hd=>iPut_c (HeldRp.mk Arr.nil Arr.nil Arr.nil (hm.arr.right hd)) (heldB0 [2,1] zE)) ?_;rintro _ _ ⟨a21,c21,rfl,rfl⟩;rw [imgErr2];refine zz 10 ?_;refine O.sT 25 rfl (by rfl) ?_;refine O.q 2 rfl<|O.opE (.g rfl rfl) (.makeP (T:=Rp.u8) (0:UInt8) (m:=32) underlying31 elem5 zE rfl rfl rfl rfl rfl zE zE) ?_;rintro _ _ ⟨a28,c28,rfl,rfl⟩;refine O.callB (.g rfl rfl) rfl zB rfl rfl (bs:=[OwnP Rp.u8 5 (.slice a28 32 c28) (List.replicate 32 0)]) zI (fun m hm hd=>SameBytes_c hz1.left (hm.arr.right hd)) ?_;rintro _ _ ⟨rfl,rfl⟩;refine O.sT 29 rfl (by rfl) ?_;refine zz 4 ?_;refine O.sT 33 rfl (by rfl) ?_;refine zz 5 ?_;refine O.sT 38 rfl (by rfl) ?_;refine O.q 3 rfl<|O.ia (.g rfl rfl) underlying31 size5 rfl rfl (show _=(((31):Nat):Int) by omega) (hz2) (h:=fun p42 cs42 hp42 hr42=>?_)
 cases hr42
 refine zz 2 ?_;refine O.sT 44 rfl (by rfl) ?_;refine O.q 3 rfl<|O.ia (.g rfl rfl) underlying31 size5 rfl rfl (show _=(((39):Nat):Int) by omega) (hz2) (h:=fun p48 cs48 hp48 hr48=>?_)
 cases hr48
 refine zz 2 ?_;refine O.sT 50 rfl (by rfl) ?_;refine zz 4 ?_;refine O.sT 54 rfl (by rfl) ?_;refine zz 3 ?_;exact S.rt results15 rfl hR ⟨rfl,rfl⟩
theorem triedB_ret {g:Gr} {bt bx:Nat} {x:Value} {T' :TypeId} {w:World} {R:Ending→World→Prop} {η:List SProp} (hw:Holds w g (obj bx T' [x]::η)) (hR:∀ w,Holds w g (obj bx T' [x]::η)→R (.returned x) w) :
  CallsD prog 326 #[.pointer (some ⟨bt,0,none⟩),.pointer (some ⟨bx,0,none⟩)] .returning w (DPost g bx R):=by
 refine (callsD_rec (R:=fun e w=>(∃ v,e=.returned v)∧Holds w g (obj bx T' [x]::η)) [.pointer (some ⟨bt,0,none⟩),.pointer (some ⟨bx,0,none⟩)] rfl func326 rfl rfl rfl rfl hw ?_).mono ?_
 rotate_left
 ·rintro e u' w' ⟨rfl,⟨v,rfl⟩,h⟩
  exact ⟨⟨v,rfl⟩,rfl,T',x,η,h,hR w' h⟩
 refine S.seq<|S.region rfl<|O.q 1 rfl<|O.op (.p rfl) (.neqIN underlying20 rfl)<|O.nil<|S.condF rfl<|S.skip<|S.end0 results326 fun w hw=>?_;exact ⟨⟨_,rfl⟩,hw⟩
theorem triedB_pan {g:Gr} {bt bx b:Nat} {v x:Value} {made bad:Bool} {T' Tt:TypeId} {w:World} {R:Ending→World→Prop} {η:List SProp} (hw:Holds w g (obj bx T' [x]::obj bt Tt [.pointer (some ⟨b,0,none⟩)]::obj b 226 [v,.bool made,.bool bad]::η))
  (hR:∀ w,Holds w g (obj bx T' [.int .u8 0]::obj b 226 [v,.bool made,.bool true]::η)→R (.returned (.int .u8 0)) w) :
  CallsD prog 326 #[.pointer (some ⟨bt,0,none⟩),.pointer (some ⟨bx,0,none⟩)] (.panicking missing) w (DPost g bx R):=by
 refine (callsD_rec (R:=fun e w=>(∃ v,e=.returned v)∧Holds w g (obj bx T' [.int .u8 0]::obj b 226 [v,.bool made,.bool true]::η)) [.pointer (some ⟨bt,0,none⟩),.pointer (some ⟨bx,0,none⟩)] rfl func326 rfl rfl rfl rfl hw ?_).mono ?_
 rotate_left
 ·rintro e u' w' ⟨rfl,⟨v,rfl⟩,h⟩
  exact ⟨⟨v,rfl⟩,rfl,T',_,_,h,hR w' h⟩
 refine zz 3 ?_;refine O.op (.p rfl) (.neqIV underlying20 rfl) ?_;refine zz 6 ?_;refine O.op (.p rfl) (.assertYes underlying326 rfl) ?_;refine zz 3 ?_;refine O.opE (.p rfl) (.alloc (cs:=[]) zeroValue326 rfl) ?_;rintro _ _ ⟨b3,rfl,rfl⟩;refine zz 24 ?_;refine O.nil<|S.end0 results326 fun w hw=>?_;exact ⟨⟨_,rfl⟩,hw.picks zO⟩
theorem triedB_c {r:Fr} {b f:Nat} {v:Value} {made bad:Bool} {first cap:Array Value} {K:Value→Value→List SProp→Prop} {X:Value→Prop} (hc:callable prog f=true) (hK1:∀ u v' ζ,K u v' ζ→u.oneCell' =true)
  (con:made=true→bad=false→Con prog f (first++#[]++cap) r [obj b 226 [v,.bool true,.bool false]] (RetP (fun u η=>∃ v' ζ,K u v' ζ∧η=obj b 226 [v',.bool true,.bool false]::ζ) (fun ch η=>ch=missing∧∃ v',X v' ∧η=[obj b 226 [v',.bool true,.bool false]]))) :
  Con prog 294 #[.pointer (some ⟨b,0,none⟩),.func (.func f) first cap] r [obj b 226 [v,.bool made,.bool bad]] (Ret fun u η =>
   ((made && !bad)=false∧u=.int .u8 0∧η=[obj b 226 [v,.bool made,.bool bad]])∨(made=true∧bad=false∧∃ v' ζ,K u v' ζ∧η=obj b 226 [v',.bool true,.bool false]::ζ) ∨
   (made=true∧bad=false∧∃ v',X v' ∧u=.int .u8 0∧η=[obj b 226 [v',.bool true,.bool true]])):=by
 refine Con.of (n:=12) [.pointer (some ⟨b,0,none⟩),.func (.func f) first cap] rfl func294 rfl rfl rfl fun g hg R hR=>?_;refine S.seq<|S.region rfl<|O.opE (.p rfl) (.box (cs:=[_]) rfl rfl) ?_;rintro _ _ ⟨b2,rfl,rfl⟩;refine O.opE (.p rfl) (.alloc (cs:=[.int .u8 0]) zeroValue5 rfl) ?_;rintro _ _ ⟨b4,rfl,rfl⟩;refine zz 5 ?_;refine O.vS (.p rfl) rfl zB rfl rfl zC rGood_c ?_;refine O.op (.p rfl) ((by first|exact .notD rfl|exact .not rfl)) ?_;refine zz 1 ?_;refine S.cd rfl (fun h7=>?_) fun h7=>?_
 ·refine zz 4 ?_
  refine O.nil<|S.retCell results294 flat5 rfl zC fun w hw=>Holds.end_ hR hw ?_;exact pk (.inl ⟨by revert h7;cases made<;>cases bad<;>simp,rfl,rfl⟩)
 ·obtain ⟨rfl,rfl⟩:made=true∧bad=false:=by revert h7;cases made<;>cases bad<;>simp
  refine zz 4 ?_;refine O.defer rfl rfl rfl rfl ?_;refine zz 4 ?_;refine O.callPSD (.p rfl) rfl hc rfl rfl zC ((con rfl rfl).sub hg) (fun a ch η' w hF hX hW=>by (obtain ⟨rfl,v',hX',rfl⟩:=hX;exact leavesCell results294 flat5 hF rfl zG zB (triedB_pan (hW.picks zO) fun w hw=>Holds.end_ hR hw ⟨_,.inr (.inr ⟨rfl,rfl,v',hX',rfl,rfl⟩),by repeat (first|exact zpa|exact zpn|(apply zpc;focus (repeat (first|exact zh|apply zt)))|apply zps)⟩))) ?_;rintro v11 _ ⟨v',ζ,hK,rfl⟩;have hone:=hK1 _ _ _ hK;refine O.perm (List.Perm.cons _ List.perm_append_comm) ?_;simp only [List.cons_append,List.nil_append];refine zz 1 ?_;refine O.nil<|S.retL fun a w hf hd hw=>?_;exact leavesCell results294 flat5 hf rfl zG zB (triedB_ret hw fun w hw=>Holds.end_ hR hw ⟨_,.inr (.inl ⟨rfl,rfl,v',ζ,hK,rfl⟩),by repeat (first|exact zpa|exact zpn|(apply zpc;focus (repeat (first|exact zh|apply zt)))|apply zps)⟩)
theorem triedI_ret {g:Gr} {bt bx:Nat} {x:Value} {T' :TypeId} {w:World} {R:Ending→World→Prop} {η:List SProp} (hw:Holds w g (obj bx T' [x]::η)) (hR:∀ w,Holds w g (obj bx T' [x]::η)→R (.returned x) w) :
  CallsD prog 272 #[.pointer (some ⟨bt,0,none⟩),.pointer (some ⟨bx,0,none⟩)] .returning w (DPost g bx R):=by
 refine (callsD_rec (R:=fun e w=>(∃ v,e=.returned v)∧Holds w g (obj bx T' [x]::η)) [.pointer (some ⟨bt,0,none⟩),.pointer (some ⟨bx,0,none⟩)] rfl func272 rfl rfl rfl rfl hw ?_).mono ?_
 rotate_left
 ·rintro e u' w' ⟨rfl,⟨v,rfl⟩,h⟩
  exact ⟨⟨v,rfl⟩,rfl,T',x,η,h,hR w' h⟩
 refine S.seq<|S.region rfl<|O.q 1 rfl<|O.op (.p rfl) (.neqIN underlying20 rfl)<|O.nil<|S.condF rfl<|S.skip<|S.end0 results272 fun w hw=>?_;exact ⟨⟨_,rfl⟩,hw⟩
theorem triedI_pan {g:Gr} {bt bx b:Nat} {v x:Value} {made bad:Bool} {T' Tt:TypeId} {w:World} {R:Ending→World→Prop} {η:List SProp} (hw:Holds w g (obj bx T' [x]::obj bt Tt [.pointer (some ⟨b,0,none⟩)]::obj b 226 [v,.bool made,.bool bad]::η))
  (hR:∀ w,Holds w g (obj bx T' [.int .i64 0]::obj b 226 [v,.bool made,.bool true]::η)→R (.returned (.int .i64 0)) w) :
  CallsD prog 272 #[.pointer (some ⟨bt,0,none⟩),.pointer (some ⟨bx,0,none⟩)] (.panicking missing) w (DPost g bx R):=by
 refine (callsD_rec (R:=fun e w=>(∃ v,e=.returned v)∧Holds w g (obj bx T' [.int .i64 0]::obj b 226 [v,.bool made,.bool true]::η)) [.pointer (some ⟨bt,0,none⟩),.pointer (some ⟨bx,0,none⟩)] rfl func272 rfl rfl rfl rfl hw ?_).mono ?_
 rotate_left
 ·rintro e u' w' ⟨rfl,⟨v,rfl⟩,h⟩
  exact ⟨⟨v,rfl⟩,rfl,T',_,_,h,hR w' h⟩
 refine zz 3 ?_;refine O.op (.p rfl) (.neqIV underlying20 rfl) ?_;refine zz 6 ?_;refine O.op (.p rfl) (.assertYes underlying326 rfl) ?_;refine zz 3 ?_;refine O.opE (.p rfl) (.alloc (cs:=[]) zeroValue326 rfl) ?_;rintro _ _ ⟨b3,rfl,rfl⟩;refine zz 24 ?_;refine O.nil<|S.end0 results272 fun w hw=>?_;exact ⟨⟨_,rfl⟩,hw.picks zO⟩
theorem triedI_c {r:Fr} {b f:Nat} {v:Value} {made bad:Bool} {first cap:Array Value} {K:Value→Value→List SProp→Prop} {X:Value→Prop} (hc:callable prog f=true) (hK1:∀ u v' ζ,K u v' ζ→u.oneCell' =true)
  (con:made=true→bad=false→Con prog f (first++#[]++cap) r [obj b 226 [v,.bool true,.bool false]] (RetP (fun u η=>∃ v' ζ,K u v' ζ∧η=obj b 226 [v',.bool true,.bool false]::ζ) (fun ch η=>ch=missing∧∃ v',X v' ∧η=[obj b 226 [v',.bool true,.bool false]]))) :
  Con prog 195 #[.pointer (some ⟨b,0,none⟩),.func (.func f) first cap] r [obj b 226 [v,.bool made,.bool bad]] (Ret fun u η =>
   ((made && !bad)=false∧u=.int .i64 0∧η=[obj b 226 [v,.bool made,.bool bad]])∨(made=true∧bad=false∧∃ v' ζ,K u v' ζ∧η=obj b 226 [v',.bool true,.bool false]::ζ) ∨
   (made=true∧bad=false∧∃ v',X v' ∧u=.int .i64 0∧η=[obj b 226 [v',.bool true,.bool true]])):=by
 refine Con.of (n:=12) [.pointer (some ⟨b,0,none⟩),.func (.func f) first cap] rfl func195 rfl rfl rfl fun g hg R hR=>?_;refine S.seq<|S.region rfl<|O.opE (.p rfl) (.box (cs:=[_]) rfl rfl) ?_;rintro _ _ ⟨b2,rfl,rfl⟩;refine O.opE (.p rfl) (.alloc (cs:=[.int .i64 0]) zeroValue3 rfl) ?_;rintro _ _ ⟨b4,rfl,rfl⟩;refine zz 5 ?_;refine O.vS (.p rfl) rfl zB rfl rfl zC rGood_c ?_;refine O.op (.p rfl) ((by first|exact .notD rfl|exact .not rfl)) ?_;refine zz 1 ?_;refine S.cd rfl (fun h7=>?_) fun h7=>?_
 ·refine zz 4 ?_
  refine O.nil<|S.retCell results195 flat3 rfl zC fun w hw=>Holds.end_ hR hw ?_;exact pk (.inl ⟨by revert h7;cases made<;>cases bad<;>simp,rfl,rfl⟩)
 ·obtain ⟨rfl,rfl⟩:made=true∧bad=false:=by revert h7;cases made<;>cases bad<;>simp
  refine zz 4 ?_;refine O.defer rfl rfl rfl rfl ?_;refine zz 4 ?_;refine O.callPSD (.p rfl) rfl hc rfl rfl zC ((con rfl rfl).sub hg) (fun a ch η' w hF hX hW=>by (obtain ⟨rfl,v',hX',rfl⟩:=hX;exact leavesCell results195 flat3 hF rfl zG zB (triedI_pan (hW.picks zO) fun w hw=>Holds.end_ hR hw ⟨_,.inr (.inr ⟨rfl,rfl,v',hX',rfl,rfl⟩),by repeat (first|exact zpa|exact zpn|(apply zpc;focus (repeat (first|exact zh|apply zt)))|apply zps)⟩))) ?_;rintro v11 _ ⟨v',ζ,hK,rfl⟩;have hone:=hK1 _ _ _ hK;refine O.perm (List.Perm.cons _ List.perm_append_comm) ?_;simp only [List.cons_append,List.nil_append];refine zz 1 ?_;refine O.nil<|S.retL fun a w hf hd hw=>?_;exact leavesCell results195 flat3 hf rfl zG zB (triedI_ret hw fun w hw=>Holds.end_ hR hw ⟨_,.inr (.inl ⟨rfl,rfl,v',ζ,hK,rfl⟩),by repeat (first|exact zpa|exact zpn|(apply zpc;focus (repeat (first|exact zh|apply zt)))|apply zps)⟩)
theorem triedS_ret {g:Gr} {bt bx:Nat} {x:Value} {T' :TypeId} {w:World} {R:Ending→World→Prop} {η:List SProp} (hw:Holds w g (obj bx T' [x]::η)) (hR:∀ w,Holds w g (obj bx T' [x]::η)→R (.returned x) w) :
  CallsD prog 296 #[.pointer (some ⟨bt,0,none⟩),.pointer (some ⟨bx,0,none⟩)] .returning w (DPost g bx R):=by
 refine (callsD_rec (R:=fun e w=>(∃ v,e=.returned v)∧Holds w g (obj bx T' [x]::η)) [.pointer (some ⟨bt,0,none⟩),.pointer (some ⟨bx,0,none⟩)] rfl func296 rfl rfl rfl rfl hw ?_).mono ?_
 rotate_left
 ·rintro e u' w' ⟨rfl,⟨v,rfl⟩,h⟩
  exact ⟨⟨v,rfl⟩,rfl,T',x,η,h,hR w' h⟩
 refine S.seq<|S.region rfl<|O.q 1 rfl<|O.op (.p rfl) (.neqIN underlying20 rfl)<|O.nil<|S.condF rfl<|S.skip<|S.end0 results296 fun w hw=>?_;exact ⟨⟨_,rfl⟩,hw⟩
theorem triedS_pan {g:Gr} {bt bx b:Nat} {v x:Value} {made bad:Bool} {T' Tt:TypeId} {w:World} {R:Ending→World→Prop} {η:List SProp} (hw:Holds w g (obj bx T' [x]::obj bt Tt [.pointer (some ⟨b,0,none⟩)]::obj b 226 [v,.bool made,.bool bad]::η))
  (hR:∀ w,Holds w g (obj bx T' [.slice none 0 0]::obj b 226 [v,.bool made,.bool true]::η)→R (.returned (.slice none 0 0)) w) :
  CallsD prog 296 #[.pointer (some ⟨bt,0,none⟩),.pointer (some ⟨bx,0,none⟩)] (.panicking missing) w (DPost g bx R):=by
 refine (callsD_rec (R:=fun e w=>(∃ v,e=.returned v)∧Holds w g (obj bx T' [.slice none 0 0]::obj b 226 [v,.bool made,.bool true]::η)) [.pointer (some ⟨bt,0,none⟩),.pointer (some ⟨bx,0,none⟩)] rfl func296 rfl rfl rfl rfl hw ?_).mono ?_
 rotate_left
 ·rintro e u' w' ⟨rfl,⟨v,rfl⟩,h⟩
  exact ⟨⟨v,rfl⟩,rfl,T',_,_,h,hR w' h⟩
 refine zz 3 ?_;refine O.op (.p rfl) (.neqIV underlying20 rfl) ?_;refine zz 6 ?_;refine O.op (.p rfl) (.assertYes underlying326 rfl) ?_;refine zz 3 ?_;refine O.opE (.p rfl) (.alloc (cs:=[]) zeroValue326 rfl) ?_;rintro _ _ ⟨b3,rfl,rfl⟩;refine zz 24 ?_;refine O.nil<|S.end0 results296 fun w hw=>?_;exact ⟨⟨_,rfl⟩,hw.picks zO⟩
theorem triedS_c {r:Fr} {b f:Nat} {v:Value} {made bad:Bool} {first cap:Array Value} {K:Value→Value→List SProp→Prop} {X:Value→Prop} (hc:callable prog f=true) (hK1:∀ u v' ζ,K u v' ζ→u.oneCell' =true)
  (con:made=true→bad=false→Con prog f (first++#[]++cap) r [obj b 226 [v,.bool true,.bool false]] (RetP (fun u η=>∃ v' ζ,K u v' ζ∧η=obj b 226 [v',.bool true,.bool false]::ζ) (fun ch η=>ch=missing∧∃ v',X v' ∧η=[obj b 226 [v',.bool true,.bool false]]))) :
  Con prog 230 #[.pointer (some ⟨b,0,none⟩),.func (.func f) first cap] r [obj b 226 [v,.bool made,.bool bad]] (Ret fun u η =>
   ((made && !bad)=false∧u=.slice none 0 0∧η=[obj b 226 [v,.bool made,.bool bad]])∨(made=true∧bad=false∧∃ v' ζ,K u v' ζ∧η=obj b 226 [v',.bool true,.bool false]::ζ) ∨
   (made=true∧bad=false∧∃ v',X v' ∧u=.slice none 0 0∧η=[obj b 226 [v',.bool true,.bool true]])):=by
 refine Con.of (n:=12) [.pointer (some ⟨b,0,none⟩),.func (.func f) first cap] rfl func230 rfl rfl rfl fun g hg R hR=>?_;refine S.seq<|S.region rfl<|O.opE (.p rfl) (.box (cs:=[_]) rfl rfl) ?_;rintro _ _ ⟨b2,rfl,rfl⟩;refine O.opE (.p rfl) (.alloc (cs:=[.slice none 0 0]) zeroValue31 rfl) ?_;rintro _ _ ⟨b4,rfl,rfl⟩;refine zz 5 ?_;refine O.vS (.p rfl) rfl zB rfl rfl zC rGood_c ?_;refine O.op (.p rfl) ((by first|exact .notD rfl|exact .not rfl)) ?_;refine zz 1 ?_;refine S.cd rfl (fun h7=>?_) fun h7=>?_
 ·refine zz 4 ?_
  refine O.nil<|S.retCell results230 flat31 rfl zC fun w hw=>Holds.end_ hR hw ?_;exact pk (.inl ⟨by revert h7;cases made<;>cases bad<;>simp,rfl,rfl⟩)
 ·obtain ⟨rfl,rfl⟩:made=true∧bad=false:=by revert h7;cases made<;>cases bad<;>simp
  refine zz 4 ?_;refine O.defer rfl rfl rfl rfl ?_;refine zz 4 ?_;refine O.callPSD (.p rfl) rfl hc rfl rfl zC ((con rfl rfl).sub hg) (fun a ch η' w hF hX hW=>by (obtain ⟨rfl,v',hX',rfl⟩:=hX;exact leavesCell results230 flat31 hF rfl zG zB (triedS_pan (hW.picks zO) fun w hw=>Holds.end_ hR hw ⟨_,.inr (.inr ⟨rfl,rfl,v',hX',rfl,rfl⟩),by repeat (first|exact zpa|exact zpn|(apply zpc;focus (repeat (first|exact zh|apply zt)))|apply zps)⟩))) ?_;rintro v11 _ ⟨v',ζ,hK,rfl⟩;have hone:=hK1 _ _ _ hK;refine O.perm (List.Perm.cons _ List.perm_append_comm) ?_;simp only [List.cons_append,List.nil_append];refine zz 1 ?_;refine O.nil<|S.retL fun a w hf hd hw=>?_;exact leavesCell results230 flat31 hf rfl zG zB (triedS_ret hw fun w hw=>Holds.end_ hR hw ⟨_,.inr (.inl ⟨rfl,rfl,v',ζ,hK,rfl⟩),by repeat (first|exact zpa|exact zpn|(apply zpc;focus (repeat (first|exact zh|apply zt)))|apply zps)⟩)
theorem count_c {r:Fr} {b T:Nat} {v:Value} {cs:List Value} {rest:List UInt8} (most:Int) (ha:Arr Rp.u8 r v rest) :
  Con prog 227 #[.pointer (some ⟨b,0,none⟩),.int .i64 most] r [obj b T (v::cs)]
   (RetP (fun u η=>8≤rest.length∧(0≤ofBe rest∧ofBe rest≤most)∧∃ v',u=.int .i64 (ofBe rest)∧Arr Rp.u8 r v' (rest.drop 8)∧η=[obj b T (v' ::cs)])
    (fun ch η=>ch=missing∧∃ v',(rest.length<8∧v' =v∨8≤rest.length∧¬(0≤ofBe rest∧ofBe rest≤most)∧Arr Rp.u8 r v' (rest.drop 8))∧η=[obj b T (v' ::cs)])):=by
 refine Con.o func227 fun g hg R hR=>?_;refine zz 7 ?_;refine O.callPS (.p rfl) rfl zB rfl rfl zC ((number_c ha).sub hg) (fun ch η' w hX hW=>by (obtain ⟨hb,rfl,rfl⟩:=hX;exact hR _ _ w ⟨rfl,v,.inl ⟨hb,rfl⟩,rfl⟩ hW)) ?_;rintro v7 _ ⟨hl7,v7,rfl,ha7,rfl⟩;refine zz 7 ?_
 first|refine O.caseD 10 rfl (fun h10=>?_) (fun h10=>?_)|refine O.caseB 10 rfl (fun h10=>?_) (fun h10=>?_)
 ·refine zz 4 ?_
  refine O.callP0 (.p rfl) rfl zB rfl rfl (must_c _) (fun ch η' w hX hW=>by (obtain ⟨hb,rfl,rfl⟩:=hX;exact hR _ _ w ⟨rfl,v7,.inr ⟨hl7,by simp at hb;omega,ha7⟩,rfl⟩ hW)) ?_;rintro _ _ ⟨hb15,rfl,rfl⟩;refine zz 6 ?_;refine S.ret results227 rfl fun w hw=>hR _ _ w ?_ hw;exact ⟨hl7,by simp at hb15;omega,v7,rfl,ha7,rfl⟩
 ·refine O.q 4 rfl<|O.callP0 (.p rfl) rfl zB rfl rfl (must_c _) (fun ch η' w hX hW=>by (obtain ⟨hb,rfl,rfl⟩:=hX;exact hR _ _ w ⟨rfl,v7,.inr ⟨hl7,by omega,ha7⟩,rfl⟩ hW)) ?_
  rintro _ _ ⟨hb15,rfl,rfl⟩;exact absurd hb15 zG
def KNum (r:Fr) (rest:List UInt8) (u v' :Value) (ζ:List SProp):Prop:=8≤rest.length∧u=.int .i64 (ofBe rest)∧Arr Rp.u8 r v' (rest.drop 8)∧ζ=[]
theorem numberR {r:Fr} {b:Nat} {v:Value} {rest:List UInt8} (ha:Arr Rp.u8 r v rest) :
  Con prog 196 (#[.pointer (some ⟨b,0,none⟩)]++#[]++#[]) r [obj b 226 [v,.bool true,.bool false]]
   (RetP (fun u η=>∃ v' ζ,KNum r rest u v' ζ∧η=obj b 226 [v',.bool true,.bool false]::ζ) (fun ch η=>ch=missing∧∃ v',(rest.length<8∧v' =v)∧η=[obj b 226 [v',.bool true,.bool false]])) :=
 (number_c (T:=226) (cs:=[.bool true,.bool false]) ha).mono fun e η h=>by
  cases e with
  |returned u=>obtain ⟨h1,v',h2,h3,h4⟩:=h;exact ⟨v',[],⟨h1,h2,h3,rfl⟩,h4⟩
  |panicked ch=>obtain ⟨h1,h2,h3⟩:=h;exact ⟨h2,v,⟨h1,rfl⟩,h3⟩
  |outgrown=>exact h.elim
theorem rNumber_c {r:Fr} {b:Nat} {v:Value} {rest:List UInt8} {made bad:Bool} (ha:Arr Rp.u8 r v rest) :
  Con prog 89 #[.pointer (some ⟨b,0,none⟩)] r [obj b 226 [v,.bool made,.bool bad]]
   (Ret fun u η=>∃ v',u=.int .i64 (rNum (made && !bad) rest).1∧Arr Rp.u8 r v' (rNum (made && !bad) rest).2.1∧η=[obj b 226 [v',.bool made,.bool (bad ||(rNum (made && !bad) rest).2.2)]]):=by
 refine Con.o func89 fun g hg R hR=>?_;refine zz 8 ?_;refine O.op (.p rfl) (.eqlP underlying126 rfl rfl) ?_;refine zz 8 ?_;refine O.op (.p rfl) (.fieldAddr fld226x0 rfl) ?_;refine zz 1 ?_;refine O.callS (.p rfl) rfl zB rfl rfl zC ((triedI_c zB (K:=KNum r rest) (fun _ _ _ h=>by obtain ⟨_,rfl,_⟩:=h;rfl) fun _ _=>numberR ha).sub hg) ?_;rintro v10 _ h10;refine O.q 1 rfl<|O.nil<|S.ret results89 rfl fun w hw=>hR _ _ w ?_ hw
 rcases h10 with ⟨h1,rfl,rfl⟩|⟨rfl,rfl,v',ζ,⟨h1,rfl,h2,rfl⟩,rfl⟩|⟨rfl,rfl,v',⟨h1,rfl⟩,rfl,rfl⟩
 ·exact ⟨v,by simp [rNum,h1],by simpa [rNum,h1] using ha,by simp [rNum,h1]⟩
 ·exact ⟨v',by simp [rNum,h1],by simpa [rNum,h1] using h2,by simp [rNum,h1]⟩
 ·have h1:¬ 8≤rest.length:=by omega
  exact ⟨_,by simp [rNum,h1],by simpa [rNum,h1] using ha,by simp [rNum,h1]⟩
def KByte (r:Fr) (rest:List UInt8) (u v' :Value) (ζ:List SProp):Prop:=∃ x xs,rest=x::xs∧u=byteV x∧Arr Rp.u8 r v' xs∧ζ=[]
theorem oneR {r:Fr} {b:Nat} {v:Value} {rest:List UInt8} (ha:Arr Rp.u8 r v rest) :
  Con prog 295 (#[.pointer (some ⟨b,0,none⟩)]++#[]++#[]) r [obj b 226 [v,.bool true,.bool false]]
   (RetP (fun u η=>∃ v' ζ,KByte r rest u v' ζ∧η=obj b 226 [v',.bool true,.bool false]::ζ) (fun ch η=>ch=missing∧∃ v',(rest=[]∧v' =v)∧η=[obj b 226 [v',.bool true,.bool false]])) :=
 (one_c (T:=226) (cs:=[.bool true,.bool false]) ha).mono fun e η h=>by
  cases e with
  |returned u=>obtain ⟨x,xs,v',h1,h2,h3,h4⟩:=h;exact ⟨v',[],⟨x,xs,h1,h2,h3,rfl⟩,h4⟩
  |panicked ch=>obtain ⟨h1,h2,h3⟩:=h;exact ⟨h2,v,⟨h1,rfl⟩,h3⟩
  |outgrown=>exact h.elim
theorem rByte_c {r:Fr} {b:Nat} {v:Value} {rest:List UInt8} {made bad:Bool} (ha:Arr Rp.u8 r v rest) :
  Con prog 228 #[.pointer (some ⟨b,0,none⟩)] r [obj b 226 [v,.bool made,.bool bad]]
   (Ret fun u η=>∃ v',u=byteV (rByte (made && !bad) rest).1∧Arr Rp.u8 r v' (rByte (made && !bad) rest).2.1∧η=[obj b 226 [v',.bool made,.bool (bad ||(rByte (made && !bad) rest).2.2)]]):=by
 refine Con.o func228 fun g hg R hR=>?_;refine zz 8 ?_;refine O.op (.p rfl) (.eqlP underlying126 rfl rfl) ?_;refine zz 8 ?_;refine O.op (.p rfl) (.fieldAddr fld226x0 rfl) ?_;refine zz 1 ?_;refine O.callS (.p rfl) rfl zB rfl rfl zC ((triedB_c zB (K:=KByte r rest) (fun _ _ _ h=>by obtain ⟨_,_,_,rfl,_⟩:=h;rfl) fun _ _=>oneR ha).sub hg) ?_;rintro v10 _ h10;refine O.q 1 rfl<|O.nil<|S.ret results228 rfl fun w hw=>hR _ _ w ?_ hw
 rcases h10 with ⟨h1,rfl,rfl⟩|⟨rfl,rfl,v',ζ,⟨x,xs,rfl,rfl,h2,rfl⟩,rfl⟩|⟨rfl,rfl,v',⟨rfl,rfl⟩,rfl,rfl⟩
 ·exact ⟨v,by simp [rByte,h1,byteV],by simpa [rByte,h1] using ha,by simp [rByte,h1]⟩
 ·exact ⟨v',by simp [rByte],by simpa [rByte] using h2,by simp [rByte]⟩
 ·exact ⟨_,by simp [rByte,byteV],by simpa [rByte] using ha,by simp [rByte]⟩
def KCount (r:Fr) (most:Int) (rest:List UInt8) (u v' :Value) (ζ:List SProp):Prop:=8≤rest.length∧(0≤ofBe rest∧ofBe rest≤most)∧u=.int .i64 (ofBe rest)∧Arr Rp.u8 r v' (rest.drop 8)∧ζ=[]
def XCount (r:Fr) (most:Int) (v:Value) (rest:List UInt8) (v' :Value):Prop:=rest.length<8∧v' =v∨8≤rest.length∧¬(0≤ofBe rest∧ofBe rest≤most)∧Arr Rp.u8 r v' (rest.drop 8)
theorem count1_c {r0 r:Fr} {b bt bm:Nat} {v:Value} {rest:List UInt8} {most:Int} (hs:r0.sub r) (ha:Arr Rp.u8 r0 v rest) (ht:At r ⟨bt,0,none⟩ [.pointer (some ⟨b,0,none⟩)]) (hm:At r ⟨bm,0,none⟩ [.int .i64 most]) :
  Con prog 226 (#[]++#[]++#[.pointer (some ⟨bt,0,none⟩),.pointer (some ⟨bm,0,none⟩)]) r [obj b 226 [v,.bool true,.bool false]]
   (RetP (fun u η=>∃ v' ζ,KCount r0 most rest u v' ζ∧η=obj b 226 [v',.bool true,.bool false]::ζ) (fun ch η=>ch=missing∧∃ v',XCount r0 most v rest v' ∧η=[obj b 226 [v',.bool true,.bool false]])):=by
 refine Con.of (n:=8) [.pointer (some ⟨bt,0,none⟩),.pointer (some ⟨bm,0,none⟩)] rfl func226 rfl rfl rfl fun g hg R hR=>?_;have ht:=ht.mono hg;have hm:=hm.mono hg;refine zz 5 ?_;refine S.regionD (L:=.range 6) F.mixed zB ?_;refine zz 4 ?_;refine OD.callPS (.p rfl) zB rfl zB rfl rfl zC ((count_c most ha).sub (Fr.sub_trans hs hg)) (fun ch η' w hX hW=>by (obtain ⟨rfl,v',hx,rfl⟩:=hX;exact hR _ _ w ⟨rfl,v',hx,rfl⟩ hW)) ?_;rintro v7 _ ⟨hl7,hm7,v7,rfl,ha7,rfl⟩;refine OD.q 1 rfl<|ODx.nil<|S.ret results226 rfl fun w hw=>hR _ _ w ?_ hw;exact ⟨v7,[],⟨hl7,hm7,rfl,ha7,rfl⟩,rfl⟩
theorem rCount_c {r:Fr} {b:Nat} {v:Value} {rest:List UInt8} {made bad:Bool} (most:Int) (ha:Arr Rp.u8 r v rest) :
  Con prog 127 #[.pointer (some ⟨b,0,none⟩),.int .i64 most] r [obj b 226 [v,.bool made,.bool bad]]
   (Ret fun u η=>∃ v',u=.int .i64 (rCount most (made && !bad) rest).1∧Arr Rp.u8 r v' (rCount most (made && !bad) rest).2.1∧η=[obj b 226 [v',.bool made,.bool (bad ||(rCount most (made && !bad) rest).2.2)]]):=by
 refine Con.o func127 fun g hg R hR=>?_;refine S.seq<|S.region rfl<|O.opE (.p rfl) (.box (cs:=[_]) rfl rfl) ?_;rintro _ _ ⟨b2,rfl,rfl⟩;refine O.opE (.p rfl) (.box (cs:=[_]) rfl rfl) ?_;rintro _ _ ⟨b3,rfl,rfl⟩;refine zz 6 ?_;refine O.freeze fun m1 hm1 hd1=>?_;refine O.freeze fun m2 hm2 hd2=>?_;have hg2:r.sub ((g.add m1).add m2).h:=Fr.sub_trans hg (Fr.sub_trans (Fr.sub_add_left _ _) (Fr.sub_add_left _ _));refine O.callS (.p rfl) rfl zB rfl rfl zC (triedI_c zB (K:=KCount r most rest) (X:=XCount r most v rest) (fun _ _ _ h=>by obtain ⟨_,_,rfl,_⟩:=h;rfl) fun _ _=>count1_c hg2 ha (obj_atR hm2 hd2) (obj_atR hm1 hd1).left) ?_;rintro v7 _ h7;refine O.q 1 rfl<|O.nil<|S.thaw (A:=fun _=>True) trivial hd2 (S.drop (S.thaw (A:=fun _=>True) trivial hd1 (S.drop ?_)));refine S.ret results127 rfl fun w hw=>hR _ _ w ?_ hw
 rcases h7 with ⟨h1,rfl,rfl⟩|⟨rfl,rfl,v',ζ,⟨h1,h3,rfl,h2,rfl⟩,rfl⟩|⟨rfl,rfl,v',h1,rfl,rfl⟩
 ·exact ⟨v,by simp [rCount,h1],by simpa [rCount,h1] using ha,by simp [rCount,h1]⟩
 ·exact ⟨v',by simp [rCount,h1,h3],by simpa [rCount,h1,h3] using h2,by simp [rCount,h1,h3]⟩
 ·rcases h1 with ⟨h1,rfl⟩|⟨h1,h3,h4⟩
  ·have h1:¬ 8≤rest.length:=by omega
   exact ⟨_,by simp [rCount,h1],by simpa [rCount,h1] using ha,by simp [rCount,h1]⟩
  ·exact ⟨v',by simp [rCount,h1,h3],by simpa [rCount,h1,h3] using h4,by simp [rCount,h1,h3]⟩
def KBytes (r:Fr) (e:TypeId) (most:Int) (rest:List UInt8) (u v' :Value) (ζ:List SProp):Prop :=
 8≤rest.length∧(0≤ofBe rest∧ofBe rest≤most)∧(ofBe rest).toNat≤(rest.drop 8).length∧Arr Rp.u8 r v' ((rest.drop 8).drop (ofBe rest).toNat) ∧
 ∃ a c,u=.slice a ((rest.drop 8).take (ofBe rest).toNat).length c∧ζ=[OwnP Rp.u8 e u ((rest.drop 8).take (ofBe rest).toNat)]
def XBytes (r:Fr) (most:Int) (v:Value) (rest:List UInt8) (v' :Value):Prop:=XCount r most v rest v' ∨8≤rest.length∧(0≤ofBe rest∧ofBe rest≤most)∧¬(ofBe rest).toNat≤(rest.drop 8).length∧Arr Rp.u8 r v' (rest.drop 8)
theorem bytes1_c {r0 r:Fr} {b bt bm:Nat} {v:Value} {rest:List UInt8} {most:Int} (hs:r0.sub r) (ha:Arr Rp.u8 r0 v rest) (hl:rest.length≤140737488355328) (ht:At r ⟨bt,0,none⟩ [.pointer (some ⟨b,0,none⟩)]) (hm:At r ⟨bm,0,none⟩ [.int .i64 most]) :
  Con prog 231 (#[]++#[]++#[.pointer (some ⟨bt,0,none⟩),.pointer (some ⟨bm,0,none⟩)]) r [obj b 226 [v,.bool true,.bool false]]
   (RetP (fun u η=>∃ v' ζ,KBytes r0 5 most rest u v' ζ∧η=obj b 226 [v',.bool true,.bool false]::ζ) (fun ch η=>ch=missing∧∃ v',XBytes r0 most v rest v' ∧η=[obj b 226 [v',.bool true,.bool false]])):=by
 refine Con.of (n:=13) [.pointer (some ⟨bt,0,none⟩),.pointer (some ⟨bm,0,none⟩)] rfl func231 rfl rfl rfl fun g hg R hR=>?_;have ht:=ht.mono hg;have hm:=hm.mono hg;refine zz 5 ?_;refine S.regionD (L:=.range 11) F.mixed zB ?_;refine zz 7 ?_;refine OD.callPS (.p rfl) zB rfl zB rfl rfl zC ((count_c most ha).sub (Fr.sub_trans hs hg)) (fun ch η' w hX hW=>by (obtain ⟨rfl,v',hx,rfl⟩:=hX;exact hR _ _ w ⟨rfl,v',.inl hx,rfl⟩ hW)) ?_;rintro v10 _ ⟨hl10,hm10,v10,rfl,ha10,rfl⟩;refine OD.callPS (.p rfl) zB rfl zB rfl rfl zC ((take_c _ ha10).sub (Fr.sub_trans hs hg)) (fun ch η' w hX hW=>by (obtain ⟨hb,rfl,rfl⟩:=hX;exact hR _ _ w ⟨rfl,v10,.inr ⟨hl10,hm10,by omega,ha10⟩,rfl⟩ hW)) ?_;rintro v11 _ ⟨hb11,a11,c11,v11,rfl,ha11,ha11',rfl⟩;refine OD.call0 (.p rfl) zB rfl zB rfl rfl ((cloneB_c (ha11.mono (Fr.sub_trans hs hg)) zJ)) ?_;rintro _ _ ⟨a12,c12,rfl,rfl⟩;refine zz 2 ?_;exact S.rt results231 rfl hR ⟨v11,_,⟨hl10,hm10,by omega,ha11',a12,c12,rfl,rfl⟩,rfl⟩
theorem rBytes_c {r:Fr} {b:Nat} {v:Value} {rest:List UInt8} {made bad:Bool} (most:Int) (ha:Arr Rp.u8 r v rest) (hl:rest.length≤140737488355328) :
  Con prog 129 #[.pointer (some ⟨b,0,none⟩),.int .i64 most] r [obj b 226 [v,.bool made,.bool bad]]
   (Ret fun u η=>∃ a c v',u=.slice a (rBytes most (made && !bad) rest).1.length c∧Arr Rp.u8 r v' (rBytes most (made && !bad) rest).2.1 ∧
    η=[obj b 226 [v',.bool made,.bool (bad ||(rBytes most (made && !bad) rest).2.2)],OwnP Rp.u8 5 u (rBytes most (made && !bad) rest).1]):=by
 refine Con.o func129 fun g hg R hR=>?_;refine S.seq<|S.region rfl<|O.opE (.p rfl) (.box (cs:=[_]) rfl rfl) ?_;rintro _ _ ⟨b2,rfl,rfl⟩;refine O.opE (.p rfl) (.box (cs:=[_]) rfl rfl) ?_;rintro _ _ ⟨b3,rfl,rfl⟩;refine zz 6 ?_;refine O.freeze fun m1 hm1 hd1=>?_;refine O.freeze fun m2 hm2 hd2=>?_;have hg2:r.sub ((g.add m1).add m2).h:=Fr.sub_trans hg (Fr.sub_trans (Fr.sub_add_left _ _) (Fr.sub_add_left _ _));refine O.callS (.p rfl) rfl zB rfl rfl zC (triedS_c zB (K:=KBytes r 5 most rest) (X:=XBytes r most v rest) (fun _ _ _ h=>by obtain ⟨_,_,_,_,_,_,rfl,_⟩:=h;rfl) fun _ _=>bytes1_c hg2 ha hl (obj_atR hm2 hd2) (obj_atR hm1 hd1).left) ?_;rintro v7 _ h7;refine O.q 1 rfl<|O.nil<|S.thaw (A:=fun _=>True) trivial hd2 (S.drop (S.thaw (A:=fun _=>True) trivial hd1 (S.drop ?_)));refine S.addNil (T:=Rp.u8) (e:=5) ?_;refine S.ret results129 rfl fun w hw=>Holds.end_ hR hw ?_
 rcases h7 with ⟨h1,rfl,rfl⟩|⟨rfl,rfl,v',ζ,⟨h1,h3,h4,h5,a,c,rfl,rfl⟩,rfl⟩|⟨rfl,rfl,v',h1,rfl,rfl⟩
 ·have e:rBytes most (made && !bad) rest=([],rest,false):=by simp [rBytes,h1]
  rw [e];simp only [Bool.or_false];exact pk ⟨none,0,v,rfl,ha,rfl⟩
 ·have e:rBytes most (true && !false) rest=((rest.drop 8).take (ofBe rest).toNat,(rest.drop 8).drop (ofBe rest).toNat,false):=by
   simp only [rBytes,h1,h3,h4];rfl
  rw [e];simp only [Bool.or_false];exact pk ⟨a,c,v',rfl,h5,rfl⟩
 ·obtain ⟨rest',e,hr'⟩:∃ rest',rBytes most (true && !false) rest=([],rest',true)∧Arr Rp.u8 r v' rest' :=by
   rcases h1 with (⟨h1,rfl⟩|⟨h1,h3,h4⟩)|⟨h1,h3,h4,h5⟩
   ·have h1:¬ 8≤rest.length:=by omega
    exact ⟨_,by simp only [rBytes,h1];rfl,ha⟩
   ·exact ⟨_,by simp only [rBytes,h1,h3];rfl,h4⟩
   ·exact ⟨_,by simp only [rBytes,h1,h3,h4];rfl,h5⟩
  rw [e];simp only [Bool.false_or];exact pk ⟨none,0,v',rfl,hr',rfl⟩
theorem rdNew_c {r:Fr} {va:Value} {xs:List UInt8} (ha:Arr Rp.u8 r va xs) (hl:xs.length≤140737488355328):Con prog 81 #[va] r [] (Ret fun v η=>∃ b,v=.pointer (some ⟨b,0,none⟩)∧η=[RdP 226 b ⟨true,xs⟩]) :=
 (wNewReader_c ha hl).post fun e η' h w g hw=>by
  cases e with
  |returned u =>
   obtain ⟨b,a,c,rfl,rfl⟩:=h;exact ⟨_,⟨b,rfl,rfl⟩,hw.imp fun _ x=>rd_sat x⟩
  |panicked _=>exact h.elim
  |outgrown=>exact h.elim
theorem rdNumber_c {r:Fr} {b:Nat} {s:RS}:Con prog 89 #[.pointer (some ⟨b,0,none⟩)] r [RdP 226 b s] (Ret fun u η=>u=.int .i64 s.num.1∧η=[RdP 226 b s.num.2]) :=
 (Con.rd (Q:=fun u s' ζ=>u=.int .i64 s.num.1∧s' =s.num.2∧ζ=[]) fun m v made bad h1 h2=>(rNumber_c h2).mono (Ret.imp fun u η h=>by
  obtain ⟨v',rfl,h3,rfl⟩:=h;simp only [h1] at h3 ⊢;exact ⟨v',_,s.num.2,_,⟨rfl,rfl,rfl⟩,good_or h1,h3,rfl⟩)).mono (Ret.imp fun u η h=>by obtain ⟨s',ζ,⟨rfl,rfl,rfl⟩,rfl⟩:=h;exact ⟨rfl,rfl⟩)
theorem rdByte_c {r:Fr} {b:Nat} {s:RS}:Con prog 228 #[.pointer (some ⟨b,0,none⟩)] r [RdP 226 b s] (Ret fun u η=>u=byteV s.byte.1∧η=[RdP 226 b s.byte.2]) :=
 (Con.rd (Q:=fun u s' ζ=>u=byteV s.byte.1∧s' =s.byte.2∧ζ=[]) fun m v made bad h1 h2=>(rByte_c h2).mono (Ret.imp fun u η h=>by
  obtain ⟨v',rfl,h3,rfl⟩:=h;simp only [h1] at h3 ⊢;exact ⟨v',_,s.byte.2,_,⟨rfl,rfl,rfl⟩,good_or h1,h3,rfl⟩)).mono (Ret.imp fun u η h=>by obtain ⟨s',ζ,⟨rfl,rfl,rfl⟩,rfl⟩:=h;exact ⟨rfl,rfl⟩)
theorem rdCount_c {r:Fr} {b:Nat} {s:RS} (most:Int):Con prog 127 #[.pointer (some ⟨b,0,none⟩),.int .i64 most] r [RdP 226 b s] (Ret fun u η=>u=.int .i64 (s.count most).1∧η=[RdP 226 b (s.count most).2]) :=
 (Con.rd (Q:=fun u s' ζ=>u=.int .i64 (s.count most).1∧s' =(s.count most).2∧ζ=[]) fun m v made bad h1 h2=>(rCount_c most h2).mono (Ret.imp fun u η h=>by
  obtain ⟨v',rfl,h3,rfl⟩:=h;simp only [h1] at h3 ⊢;exact ⟨v',_,(s.count most).2,_,⟨rfl,rfl,rfl⟩,good_or h1,h3,rfl⟩)).mono (Ret.imp fun u η h=>by obtain ⟨s',ζ,⟨rfl,rfl,rfl⟩,rfl⟩:=h;exact ⟨rfl,rfl⟩)
theorem rdBytes_c {r:Fr} {b:Nat} {s:RS} (most:Int) (hl:s.rest.length≤140737488355328):Con prog 129 #[.pointer (some ⟨b,0,none⟩),.int .i64 most] r [RdP 226 b s] (Ret fun u η=>∃ a c,u=.slice a (s.bytes most).1.length c∧η=[RdP 226 b (s.bytes most).2,OwnP Rp.u8 5 (.slice a (s.bytes most).1.length c) (s.bytes most).1]) :=
 (Con.rd (Q:=fun u s' ζ=>∃ a c,u=.slice a (s.bytes most).1.length c∧s' =(s.bytes most).2∧ζ=[OwnP Rp.u8 5 (.slice a (s.bytes most).1.length c) (s.bytes most).1]) fun m v made bad h1 h2=>(rBytes_c most h2 hl).mono (Ret.imp fun u η h=>by
  obtain ⟨a,c,v',rfl,h3,rfl⟩:=h;simp only [h1] at h3 ⊢;exact ⟨v',_,(s.bytes most).2,_,⟨a,c,rfl,rfl,rfl⟩,good_or h1,h3,rfl⟩)).mono (Ret.imp fun u η h=>by obtain ⟨s',ζ,⟨a,c,rfl,rfl,rfl⟩,rfl⟩:=h;exact ⟨a,c,rfl,rfl⟩)
theorem rdGood_c {r:Fr} {b:Nat} {s:RS}:Con prog 188 #[.pointer (some ⟨b,0,none⟩)] r [RdP 226 b s] (Ret fun u η=>u=.bool s.good∧η=[RdP 226 b s]) :=
 (Con.rd (Q:=fun u s' ζ=>u=.bool s.good∧s' =s∧ζ=[]) fun m v made bad h1 h2=>rGood_c.mono (Ret.imp fun u η h=>by
  obtain ⟨rfl,rfl⟩:=h;rw [h1];exact ⟨v,bad,s,[],⟨rfl,rfl,rfl⟩,h1,h2,rfl⟩)).mono (Ret.imp fun u η h=>by obtain ⟨s',ζ,⟨rfl,rfl,rfl⟩,rfl⟩:=h;exact ⟨rfl,rfl⟩)
theorem rdDone_c {r:Fr} {b:Nat} {s:RS}:Con prog 91 #[.pointer (some ⟨b,0,none⟩)] r [RdP 226 b s] (Ret fun u η=>u=.bool s.done∧η=[RdP 226 b s]) :=
 (Con.rd (Q:=fun u s' ζ=>u=.bool s.done∧s' =s∧ζ=[]) fun m v made bad h1 h2=>(rDone_c h2).mono (Ret.imp fun u η h=>by
  obtain ⟨rfl,rfl⟩:=h;rw [h1];exact ⟨v,bad,s,[],⟨congrArg _ (by rw [Bool.eq_iff_iff,decide_eq_true_iff,RS.done_iff]),rfl,rfl⟩,h1,h2,rfl⟩)).mono (Ret.imp fun u η h=>by obtain ⟨s',ζ,⟨rfl,rfl,rfl⟩,rfl⟩:=h;exact ⟨rfl,rfl⟩)
theorem bclone_c {r:Fr} {va:Value} {xs:List UInt8} (ha:Arr Rp.u8 r va xs) (hl:xs.length≤140737488355328) :
  Con prog 269 #[va] r [] (Ret fun v η=>∃ a c,v=.slice a xs.length c∧η=[OwnP Rp.u8 5 v xs]):=by
 refine Con.o func269 fun g hg R hR=>?_;have ha:=ha.mono hg;obtain ⟨a1,c1,rfl⟩:=ha.shape
 cases a1 with
 |none =>
  refine zz 8 ?_;refine O.op (.p rfl) (.eqlNil underlying31 rfl rfl) ?_;refine zz 6 ?_;obtain ⟨rfl,_,rfl⟩:=Arr.nil_of zE ha;refine S.addNil (T:=Rp.u8) (e:=5) ?_;refine S.ret results269 rfl fun w hw=>hR _ _ w ?_ hw;exact ⟨none,0,rfl,rfl⟩
 |some a1 =>
  refine zz 8 ?_;refine O.op (.p rfl) (.eqlNil underlying31 rfl rfl) ?_;refine zz 5 ?_;refine O.opE (.p rfl) (.litP (T:=Rp.u8) (ys:=[]) underlying31 elem5 zE rfl rfl trivial zE) ?_;rintro _ _ ⟨a5,c5,rfl,rfl⟩;refine O.q 1 rfl<|O.opE (.p rfl) (.appendP (T:=Rp.u8) pure_u8 underlying31 elem5 zE rfl rfl zC zA zH zH) ?_;rintro _ _ ⟨a7,c7,rfl,rfl⟩;refine O.q 1 rfl<|O.nil<|S.ret results269 rfl fun w hw=>hR _ _ w ?_ hw;exact ⟨a7,c7,by simp,by simp⟩
theorem bequal_c {r:Fr} {va vb:Value} {xs ys:List UInt8} (ha:Arr Rp.u8 r va xs) (hb:Arr Rp.u8 r vb ys) :
  Con prog 229 #[va,vb] r [] (Ret fun v η=>v=.bool (decide (xs=ys))∧η=[]):=by
 refine Con.o func229 fun g hg R hR=>?_;have ha:=ha.mono hg;have hb:=hb.mono hg;refine zz 7 ?_;refine O.op (.p rfl) (.toStr underlying31 underlying5 underlying9 rfl zA) ?_;refine O.q 1 rfl<|O.op (.p rfl) (.toStr underlying31 underlying5 underlying9 rfl zA) ?_;refine O.op (.p rfl) (.eqlS rfl rfl)<|O.q 1 rfl<|O.nil<|S.ret results229 rfl fun w hw=>hR _ _ w ?_ hw;exact ⟨by simp,rfl⟩
end Go.Proofs.YtodhbhanmdfdeaaGreat
