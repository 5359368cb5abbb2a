/- Texts of this proof. -/
import Derived.Test.YtdjoggpacmpfnaaGreatDoorQTrim1
open Go Go.Sp Go.Proofs.Tryz
set_option maxRecDepth 100000
set_option maxHeartbeats 1000000
attribute [local irreducible] obj Own OwnP
namespace Go.Proofs.YtdjoggpacmpfnaaGreatDoor
theorem bits01_len:bits01.length=256:=by simp [bits01]
theorem bits01_all:∀ v∈bits01,v.oneCell' =true:=fun v hv=>by
 obtain ⟨i,_,rfl⟩:=List.mem_map.1 hv;rfl
theorem mset_c {r:Fr}:Con prog 307 #[.string (str [48,49])] r [] (Ret fun v η=>v=.tuple #[.agg bits01.toArray,.bool true]∧η=[]):=by
 refine Con.o func307 fun g hg R hR=>?_
 refine S.seq<|S.region rfl<|O.opE (.p rfl) (.alloc (cs:=[.bool false,.bool false,.bool false,.bool false,.bool false,.bool false,.bool false,.bool false,.bool false,.bool false,.bool false,.bool false,.bool false,.bool false,.bool false,.bool false,.bool false,.bool false,.bool false,.bool false,.bool false,.bool false,.bool false,.bool false,.bool false,.bool false,.bool false,.bool false,.bool false,.bool false,.bool false,.bool false,.bool false,.bool false,.bool false,.bool false,.bool false,.bool false,.bool false,.bool false,.bool false,.bool false,.bool false,.bool false,.bool false,.bool false,.bool false,.bool false,.bool false,.bool false,.bool false,.bool false,.bool false,.bool false,.bool false,.bool false,.bool false,.bool false,.bool false,.bool false,.bool false,.bool false,.bool false,.bool false,.bool false,.bool false,.bool false,.bool false,.bool false,.bool false,.bool false,.bool false,.bool false,.bool false,.bool false,.bool false,.bool false,.bool false,.bool false,.bool false,.bool false,.bool false,.bool false,.bool false,.bool false,.bool false,.bool false,.bool false,.bool false,.bool false,.bool false,.bool false,.bool false,.bool false,.bool false,.bool false,.bool false,.bool false,.bool false,.bool false,.bool false,.bool false,.bool false,.bool false,.bool false,.bool false,.bool false,.bool false,.bool false,.bool false,.bool false,.bool false,.bool false,.bool false,.bool false,.bool false,.bool false,.bool false,.bool false,.bool false,.bool false,.bool false,.bool false,.bool false,.bool false,.bool false,.bool false,.bool false,.bool false,.bool false,.bool false,.bool false,.bool false,.bool false,.bool false,.bool false,.bool false,.bool false,.bool false,.bool false,.bool false,.bool false,.bool false,.bool false,.bool false,.bool false,.bool false,.bool false,.bool false,.bool false,.bool false,.bool false,.bool false,.bool false,.bool false,.bool false,.bool false,.bool false,.bool false,.bool false,.bool false,.bool false,.bool false,.bool false,.bool false,.bool false,.bool false,.bool false,.bool false,.bool false,.bool false,.bool false,.bool false,.bool false,.bool false,.bool false,.bool false,.bool false,.bool false,.bool false,.bool false,.bool false,.bool false,.bool false,.bool false,.bool false,.bool false,.bool false,.bool false,.bool false,.bool false,.bool false,.bool false,.bool false,.bool false,.bool false,.bool false,.bool false,.bool false,.bool false,.bool false,.bool false,.bool false,.bool false,.bool false,.bool false,.bool false,.bool false,.bool false,.bool false,.bool false,.bool false,.bool false,.bool false,.bool false,.bool false,.bool false,.bool false,.bool false,.bool false,.bool false,.bool false,.bool false,.bool false,.bool false,.bool false,.bool false,.bool false,.bool false,.bool false,.bool false,.bool false,.bool false,.bool false,.bool false,.bool false,.bool false,.bool false,.bool false,.bool false,.bool false,.bool false,.bool false,.bool false,.bool false,.bool false,.bool false,.bool false,.bool false,.bool false,.bool false,.bool false,.bool false,.bool false,.bool false,.bool false]) zeroValue329 rfl) ?_
 rintro _ _ ⟨b2,rfl,rfl⟩;refine zz 8 ?_;refine S.objIs (b:=b2) (cs' :=List.replicate 256 (.bool false)) zC rfl ?_;refine zz 8 ?_;refine O.sT 9 rfl zN ?_;refine zz 9 ?_;refine O.op (.p rfl) (.indexS (j:=0) underlying9 rfl rfl zU zH) ?_;refine O.slot 14 (v' :=.int .u8 48) rfl zN ?_;refine zz 7 ?_;refine O.sF 16 rfl zN ?_;refine zz 5 ?_;refine O.op (.p rfl) (.idxArr (j:=48) underlying329 size4 rfl rfl (show _=(((48):Nat):Int) by omega) zD) ?_;refine zz 8 ?_;refine S.objIs (b:=b2) (cs' :=(List.replicate 256 (.bool false)).set 48 (.bool true)) zC rfl ?_;refine zz 8 ?_;refine O.sT 9 rfl zN ?_;refine zz 9 ?_;refine O.op (.p rfl) (.indexS (j:=1) underlying9 rfl rfl zU zH) ?_;refine O.slot 14 (v' :=.int .u8 49) rfl zN ?_;refine zz 7 ?_;refine O.sF 16 rfl zN ?_;refine zz 5 ?_;refine O.op (.p rfl) (.idxArr (j:=49) underlying329 size4 rfl rfl (show _=(((49):Nat):Int) by omega) zD) ?_;refine zz 8 ?_;refine S.objIs (b:=b2) (cs' :=bits01) zC rfl ?_;refine zz 8 ?_;refine O.sF 9 rfl zN ?_;refine zz 5 ?_;refine O.op (.p rfl) (.loadObjAgg (news:=bits01) isAgg329 (by rw [bits01_len];kernel_rfl) rfl zC (by rw [List.drop_zero,List.take_length])) ?_;refine O.opU rfl (.storeObj (news:=bits01) (by rw [bits01_len];kernel_rfl) rfl rfl zS (List.all_eq_true.2 bits01_all) zC (by rw [bits01_len];decide)) ?_
 refine O.q 1 rfl<|O.nil<|S.objIs (b:=b2) (cs' :=bits01) zC (by rw [List.take_zero,List.nil_append,List.drop_eq_nil_of_le (by rw [bits01_len];decide),List.append_nil]) ?_;refine S.retCellT results307 rfl rfl zC (LoadsAs.agg isAgg329 (by rw [bits01_len];kernel_rfl)) fun w hw=>Holds.end_ hR hw ?_;exact pk ⟨rfl,rfl⟩
theorem trim_none {s:List UInt8} {k m:Nat} (hk:k≤s.length) (h1:∀ j (q:j<s.length),k≤j→bit01 s[j]=true) (h2:∀ q:k - 1<s.length,0<k→bit01 s[k - 1]=false)
  (hm:m≤(s.take k).length) (h3:∀ j (q:j<(s.take k).length),j<m→bit01 (s.take k)[j]=true) (h4:∀ q:m<(s.take k).length,bit01 (s.take k)[m]=false):(s.take k).drop m=[]↔∀ c∈s,c=48∨c=49:=by
 have hl:(s.take k).length=k:=by rw [zlt];omega
 constructor
 ·intro e c hc
  have hmk:m=k:=by have:=congrArg List.length e;rw [List.length_drop,hl] at this;simp at this;omega
  obtain ⟨j,q,rfl⟩:=List.mem_iff_getElem.1 hc;rw [← bit01_iff]
  rcases Nat.lt_or_ge j k with w|w
  ·have:=h3 j zD zD
   rw [List.getElem_take] at this;exact this
  ·exact h1 j q w
 ·intro w
  have h0:k=0:=Nat.eq_zero_of_not_pos fun hp=>by
   have q:k - 1<s.length:=by omega
   have:=h2 q hp;rw [bit01_iff.2 (w _ (List.getElem_mem q))] at this;cases this
  subst h0;simp
theorem trim_c {r:Fr} {s:List UInt8} (hl:s.length≤1000000000000):Con prog 276 #[.string (str s),.string (str [48,49])] r [] (Ret fun v η=>∃ t,v=.string (str t)∧(t=[]↔∀ c∈s,c=48∨c=49)∧η=[]):=by
 refine Con.o func276 fun g hg R hR=>?_
 by_cases h0:s=[]
 ·
  refine zz 8 ?_;refine O.op (.p rfl) (.eqlS rfl rfl)<|O.sT 8 rfl (by simp [h0])<|zz 11 ?_;exact S.rt results276 rfl hR ⟨s,rfl,⟨fun _=>by rw [h0];exact fun _ h=>(by cases h),fun _=>h0⟩,rfl⟩
 ·
  refine zz 8 ?_;refine O.op (.p rfl) (.eqlS rfl rfl)<|O.sF 8 rfl (by exact zdf (fun q=>h0 (str_eqL q))) ?_;refine O.q 2 rfl<|O.op (.g rfl rfl) (.eqlS rfl rfl)<|O.sF 11 rfl zG<|zz 10 ?_;refine O.sF 16 rfl zN<|zz 12 ?_;refine O.v0 (.p rfl) rfl zB rfl rfl (mset_c) ?_
  refine O.q 3 rfl<|O.opE (.p rfl) (.alloc (cs:=[.bool false,.bool false,.bool false,.bool false,.bool false,.bool false,.bool false,.bool false,.bool false,.bool false,.bool false,.bool false,.bool false,.bool false,.bool false,.bool false,.bool false,.bool false,.bool false,.bool false,.bool false,.bool false,.bool false,.bool false,.bool false,.bool false,.bool false,.bool false,.bool false,.bool false,.bool false,.bool false,.bool false,.bool false,.bool false,.bool false,.bool false,.bool false,.bool false,.bool false,.bool false,.bool false,.bool false,.bool false,.bool false,.bool false,.bool false,.bool false,.bool false,.bool false,.bool false,.bool false,.bool false,.bool false,.bool false,.bool false,.bool false,.bool false,.bool false,.bool false,.bool false,.bool false,.bool false,.bool false,.bool false,.bool false,.bool false,.bool false,.bool false,.bool false,.bool false,.bool false,.bool false,.bool false,.bool false,.bool false,.bool false,.bool false,.bool false,.bool false,.bool false,.bool false,.bool false,.bool false,.bool false,.bool false,.bool false,.bool false,.bool false,.bool false,.bool false,.bool false,.bool false,.bool false,.bool false,.bool false,.bool false,.bool false,.bool false,.bool false,.bool false,.bool false,.bool false,.bool false,.bool false,.bool false,.bool false,.bool false,.bool false,.bool false,.bool false,.bool false,.bool false,.bool false,.bool false,.bool false,.bool false,.bool false,.bool false,.bool false,.bool false,.bool false,.bool false,.bool false,.bool false,.bool false,.bool false,.bool false,.bool false,.bool false,.bool false,.bool false,.bool false,.bool false,.bool false,.bool false,.bool false,.bool false,.bool false,.bool false,.bool false,.bool false,.bool false,.bool false,.bool false,.bool false,.bool false,.bool false,.bool false,.bool false,.bool false,.bool false,.bool false,.bool false,.bool false,.bool false,.bool false,.bool false,.bool false,.bool false,.bool false,.bool false,.bool false,.bool false,.bool false,.bool false,.bool false,.bool false,.bool false,.bool false,.bool false,.bool false,.bool false,.bool false,.bool false,.bool false,.bool false,.bool false,.bool false,.bool false,.bool false,.bool false,.bool false,.bool false,.bool false,.bool false,.bool false,.bool false,.bool false,.bool false,.bool false,.bool false,.bool false,.bool false,.bool false,.bool false,.bool false,.bool false,.bool false,.bool false,.bool false,.bool false,.bool false,.bool false,.bool false,.bool false,.bool false,.bool false,.bool false,.bool false,.bool false,.bool false,.bool false,.bool false,.bool false,.bool false,.bool false,.bool false,.bool false,.bool false,.bool false,.bool false,.bool false,.bool false,.bool false,.bool false,.bool false,.bool false,.bool false,.bool false,.bool false,.bool false,.bool false,.bool false,.bool false,.bool false,.bool false,.bool false,.bool false,.bool false,.bool false,.bool false,.bool false,.bool false,.bool false,.bool false,.bool false,.bool false,.bool false,.bool false,.bool false,.bool false,.bool false,.bool false,.bool false,.bool false]) zeroValue329 rfl) ?_
  rintro _ _ ⟨b5,rfl,rfl⟩;refine O.opU rfl (.storeObj (news:=bits01) (by rw [bits01_len];kernel_rfl) rfl rfl zS (List.all_eq_true.2 bits01_all) zC (by rw [bits01_len];decide)) ?_;refine zz 3 ?_;refine S.objIs (b:=b5) (cs' :=bits01) zC (by rw [List.take_zero,List.nil_append,List.drop_eq_nil_of_le (by rw [bits01_len];decide),List.append_nil]) ?_;refine S.frzO zC fun g hs hm h5=>?_;replace hg:=zfs hg hs;replace hR:=melted hR hm;clear hs hm;refine zz 2 ?_;refine O.sT 34 rfl zN ?_;refine zz 5 ?_;refine O.call0 (.p rfl) rfl zB rfl rfl ((trimR_c h5 hl)) ?_;rintro v36 _ ⟨k,hk,rfl,h1,h2,rfl⟩;refine O.call0 (.p rfl) rfl zB rfl rfl ((trimL_c h5 (by rw [zlt];omega))) ?_;rintro v37 _ ⟨m,hm,rfl,h3,h4,rfl⟩;refine zz 2 ?_;exact S.rt results276 rfl hR ⟨(s.take k).drop m,rfl,trim_none hk h1 h2 hm h3 h4,rfl⟩
theorem fpath_c {r:Fr} {s:List UInt8} (hl:s.length≤9223372036854775807):Con prog 237 #[.string (str s)] r [] (RetP (fun v η=>pathOk s∧∃ a c,v=.slice a (bytesOf s).length c∧η=[OwnP Rp.u8 5 (.slice a (bytesOf s).length c) (bytesOf s)]) (fun ch η=>¬ pathOk s∧ch=errP 39 4∧η=[])):=by
 refine Con.o func237 fun g hg R hR=>?_
 by_cases h1:s.length≤510
 ·by_cases h2:∀ c∈s,c=48∨c=49
  ·
   refine zz 9 ?_;refine O.sT 5 rfl (by exact zdt zL) ?_;refine O.q 2 rfl<|O.call0 (.g rfl rfl) rfl zB rfl rfl ((trim_c zD)) ?_;rintro v8 _ ⟨t,rfl,ht,rfl⟩;refine O.op (.g rfl rfl) (.eqlS rfl rfl)<|O.sT 9 rfl (by rw [ht.2 h2];simp) ?_;refine O.q 1 rfl<|O.callP0 (.p rfl) rfl zB rfl rfl (fright_c _) (fun ch η' w hX hW=>by (exact absurd hX.1 zG)) ?_;rintro _ _ ⟨hb11,rfl,rfl⟩;refine zz 4 ?_;refine O.call0 (.p rfl) rfl zB rfl rfl ((ftext_c zD)) ?_;rintro _ _ ⟨a13,c13,rfl,rfl⟩;refine zz 2 ?_;exact S.rt results237 rfl hR ⟨⟨h1,h2⟩,a13,c13,rfl,rfl⟩
  ·have hn:¬ pathOk s:=fun w=>h2 w.2
   refine zz 9 ?_;refine O.sT 5 rfl (by exact zdt zL) ?_;refine O.q 2 rfl<|O.call0 (.g rfl rfl) rfl zB rfl rfl ((trim_c zD)) ?_;rintro v8 _ ⟨t,rfl,ht,rfl⟩;refine O.op (.g rfl rfl) (.eqlS rfl rfl)<|O.sF 9 rfl (by exact zdf (fun q=>h2 (ht.1 (str_eqL q)))) ?_;refine O.q 1 rfl<|O.callP0 (.p rfl) rfl zB rfl rfl (fright_c _) (fun ch η' w hX hW=>by (obtain ⟨hb,rfl,rfl⟩:=hX;exact hR _ _ w ⟨hn,rfl,rfl⟩ hW)) ?_;rintro _ _ ⟨hb11,rfl,rfl⟩;exact absurd hb11 zG
 ·have hn:¬ pathOk s:=fun w=>h1 w.1
  refine zz 9 ?_;refine O.sF 5 rfl (by exact zdf zL) ?_;refine O.q 5 rfl<|O.callP0 (.p rfl) rfl zB rfl rfl (fright_c _) (fun ch η' w hX hW=>by (obtain ⟨hb,rfl,rfl⟩:=hX;exact hR _ _ w ⟨hn,rfl,rfl⟩ hW)) ?_;rintro _ _ ⟨hb11,rfl,rfl⟩;exact absurd hb11 zG
theorem putPull_c {r:Fr} {b:Nat} {cs:List Value} {y:Value} {f:FrmT} (hf:FrmRp.rel r cs f) (h:At r ⟨b,0,none⟩ (cs++[y])) (hl:FrmOk big f):Con prog 144 #[.pointer (some ⟨b,0,none⟩)] r []
  (RetP (fun v η=>(0≤f.2.2.1∧f.2.2.1<4)∧∃ a c,v=.slice a (be f.2.2.1).length c∧η=[OwnP Rp.u8 5 (.slice a (be f.2.2.1).length c) (be f.2.2.1)]) (fun ch η=>¬ (0≤f.2.2.1∧f.2.2.1<4)∧ch=errP 39 4∧η=[])):=by
 obtain ⟨b1,b2,b3,b4,b5,b6,b7,b8,b9,b10,b11,b12,b13,b14,b15⟩:=hl;obtain ⟨a8,a9,a10,a11,a12,a14,a15,a16,a17,a21,a22,a26,a27,c8,c9,c10,c11,c12,c14,c15,c16,c17,c21,c22,c26,c27,rfl,p1,p2,p3,p4,p5,p6,p7,p8,p9,p10,p11,p12,p14,p15,p16,p17,p18,p19,p20,p21,p22,p23,p24,p25,p26,p27,p28⟩:=FrmRp.sh hf;refine Con.o func144 fun g hg R hR=>?_;have h:=h.mono hg;have hf:=hf.mono hg;have p8:=p8.mono hg;have p9:=p9.mono hg;have p10:=p10.mono hg;have p11:=p11.mono hg;have p12:=p12.mono hg;have p14:=p14.mono hg;have p15:=p15.mono hg;have p16:=p16.mono hg;have p17:=p17.mono hg;have p21:=p21.mono hg;have p22:=p22.mono hg;have p26:=p26.mono hg;have p27:=p27.mono hg
 by_cases q1:0≤f.2.2.1
 ·by_cases q2:f.2.2.1<4
  ·
   refine zz 8 ?_;refine O.op (.p rfl) (.fieldAddr fld129x0 rfl)<|O.op (.p rfl) (.fieldAddr fld41x2 rfl)<|zz 2 ?_;refine O.sT 8 rfl (by exact zdt zD)<|zz 3 ?_;refine O.op (.g rfl rfl) (.fieldAddr fld129x0 rfl)<|O.op (.g rfl rfl) (.fieldAddr fld41x2 rfl)<|zz 2 ?_;refine O.sT 15 rfl (by exact zdt zD) ?_;refine O.q 1 rfl<|O.callP0 (.p rfl) rfl zB rfl rfl (fright_c _) (fun ch η' w hX hW=>by (exact absurd hX.1 zG)) ?_;rintro _ _ ⟨hbr,rfl,rfl⟩;refine zz 5 ?_;refine O.op (.p rfl) (.fieldAddr fld129x0 rfl)<|O.op (.p rfl) (.fieldAddr fld41x2 rfl)<|zz 1 ?_;refine O.call0 (.p rfl) rfl zB rfl rfl ((wNumber_c _)) ?_;rintro _ _ ⟨a23,c23,rfl,rfl⟩;refine zz 2 ?_;exact S.rt results144 rfl hR ⟨⟨q1,q2⟩,a23,c23,rfl,rfl⟩
  ·have hn:¬ (0≤f.2.2.1∧f.2.2.1<4):=fun w=>q2 w.2
   refine zz 8 ?_;refine O.op (.p rfl) (.fieldAddr fld129x0 rfl)<|O.op (.p rfl) (.fieldAddr fld41x2 rfl)<|zz 2 ?_;refine O.sT 8 rfl (by exact zdt zD)<|zz 3 ?_;refine O.op (.g rfl rfl) (.fieldAddr fld129x0 rfl)<|O.op (.g rfl rfl) (.fieldAddr fld41x2 rfl)<|zz 2 ?_;refine O.sF 15 rfl (by exact zdf zD) ?_;refine O.q 1 rfl<|O.callP0 (.p rfl) rfl zB rfl rfl (fright_c _) (fun ch η' w hX hW=>by (obtain ⟨hb,rfl,rfl⟩:=hX;exact hR _ _ w ⟨hn,rfl,rfl⟩ hW)) ?_;rintro _ _ ⟨hbr,rfl,rfl⟩;exact absurd hbr zG
 ·have hn:¬ (0≤f.2.2.1∧f.2.2.1<4):=fun w=>q1 w.1
  refine zz 8 ?_;refine O.op (.p rfl) (.fieldAddr fld129x0 rfl)<|O.op (.p rfl) (.fieldAddr fld41x2 rfl)<|zz 2 ?_;refine O.sF 8 rfl (by exact zdf zD) ?_;refine O.q 8 rfl<|O.callP0 (.p rfl) rfl zB rfl rfl (fright_c _) (fun ch η' w hX hW=>by (obtain ⟨hb,rfl,rfl⟩:=hX;exact hR _ _ w ⟨hn,rfl,rfl⟩ hW)) ?_;rintro _ _ ⟨hbr,rfl,rfl⟩;exact absurd hbr zG
theorem putAck_c {r:Fr} {b:Nat} {cs:List Value} {y:Value} {f:FrmT} (hf:FrmRp.rel r cs f) (h:At r ⟨b,0,none⟩ (cs++[y])) (hl:FrmOk big f):Con prog 159 #[.pointer (some ⟨b,0,none⟩)] r []
  (RetP (fun v η=>(0≤f.2.2.2.2.2.2.2.2.2.2.2.1∧f.2.2.2.2.2.2.2.2.2.2.2.1≤255)∧∃ a c,v=.slice a (be f.2.2.2.2.2.2.2.2.2.2.2.1).length c∧η=[OwnP Rp.u8 5 (.slice a (be f.2.2.2.2.2.2.2.2.2.2.2.1).length c) (be f.2.2.2.2.2.2.2.2.2.2.2.1)]) (fun ch η=>¬ (0≤f.2.2.2.2.2.2.2.2.2.2.2.1∧f.2.2.2.2.2.2.2.2.2.2.2.1≤255)∧ch=errP 39 4∧η=[])):=by
 obtain ⟨b1,b2,b3,b4,b5,b6,b7,b8,b9,b10,b11,b12,b13,b14,b15⟩:=hl;obtain ⟨a8,a9,a10,a11,a12,a14,a15,a16,a17,a21,a22,a26,a27,c8,c9,c10,c11,c12,c14,c15,c16,c17,c21,c22,c26,c27,rfl,p1,p2,p3,p4,p5,p6,p7,p8,p9,p10,p11,p12,p14,p15,p16,p17,p18,p19,p20,p21,p22,p23,p24,p25,p26,p27,p28⟩:=FrmRp.sh hf;refine Con.o func159 fun g hg R hR=>?_;have h:=h.mono hg;have hf:=hf.mono hg;have p8:=p8.mono hg;have p9:=p9.mono hg;have p10:=p10.mono hg;have p11:=p11.mono hg;have p12:=p12.mono hg;have p14:=p14.mono hg;have p15:=p15.mono hg;have p16:=p16.mono hg;have p17:=p17.mono hg;have p21:=p21.mono hg;have p22:=p22.mono hg;have p26:=p26.mono hg;have p27:=p27.mono hg
 by_cases q1:0≤f.2.2.2.2.2.2.2.2.2.2.2.1
 ·by_cases q2:f.2.2.2.2.2.2.2.2.2.2.2.1≤255
  ·
   refine zz 8 ?_;refine O.op (.p rfl) (.fieldAddr fld129x0 rfl)<|O.op (.p rfl) (.fieldAddr fld41x11 rfl)<|zz 2 ?_;refine O.sT 8 rfl (by exact zdt zD)<|zz 3 ?_;refine O.op (.g rfl rfl) (.fieldAddr fld129x0 rfl)<|O.op (.g rfl rfl) (.fieldAddr fld41x11 rfl)<|zz 2 ?_;refine O.sT 15 rfl (by exact zdt zD) ?_;refine O.q 1 rfl<|O.callP0 (.p rfl) rfl zB rfl rfl (fright_c _) (fun ch η' w hX hW=>by (exact absurd hX.1 zG)) ?_;rintro _ _ ⟨hbr,rfl,rfl⟩;refine zz 5 ?_;refine O.op (.p rfl) (.fieldAddr fld129x0 rfl)<|O.op (.p rfl) (.fieldAddr fld41x11 rfl)<|zz 1 ?_;refine O.call0 (.p rfl) rfl zB rfl rfl ((wNumber_c _)) ?_;rintro _ _ ⟨a23,c23,rfl,rfl⟩;refine zz 2 ?_;exact S.rt results159 rfl hR ⟨⟨q1,q2⟩,a23,c23,rfl,rfl⟩
  ·have hn:¬ (0≤f.2.2.2.2.2.2.2.2.2.2.2.1∧f.2.2.2.2.2.2.2.2.2.2.2.1≤255):=fun w=>q2 w.2
   refine zz 8 ?_;refine O.op (.p rfl) (.fieldAddr fld129x0 rfl)<|O.op (.p rfl) (.fieldAddr fld41x11 rfl)<|zz 2 ?_;refine O.sT 8 rfl (by exact zdt zD)<|zz 3 ?_;refine O.op (.g rfl rfl) (.fieldAddr fld129x0 rfl)<|O.op (.g rfl rfl) (.fieldAddr fld41x11 rfl)<|zz 2 ?_;refine O.sF 15 rfl (by exact zdf zD) ?_;refine O.q 1 rfl<|O.callP0 (.p rfl) rfl zB rfl rfl (fright_c _) (fun ch η' w hX hW=>by (obtain ⟨hb,rfl,rfl⟩:=hX;exact hR _ _ w ⟨hn,rfl,rfl⟩ hW)) ?_;rintro _ _ ⟨hbr,rfl,rfl⟩;exact absurd hbr zG
 ·have hn:¬ (0≤f.2.2.2.2.2.2.2.2.2.2.2.1∧f.2.2.2.2.2.2.2.2.2.2.2.1≤255):=fun w=>q1 w.1
  refine zz 8 ?_;refine O.op (.p rfl) (.fieldAddr fld129x0 rfl)<|O.op (.p rfl) (.fieldAddr fld41x11 rfl)<|zz 2 ?_;refine O.sF 8 rfl (by exact zdf zD) ?_;refine O.q 8 rfl<|O.callP0 (.p rfl) rfl zB rfl rfl (fright_c _) (fun ch η' w hX hW=>by (obtain ⟨hb,rfl,rfl⟩:=hX;exact hR _ _ w ⟨hn,rfl,rfl⟩ hW)) ?_;rintro _ _ ⟨hbr,rfl,rfl⟩;exact absurd hbr zG
theorem putAsk_c {r:Fr} {b:Nat} {cs:List Value} {y:Value} {f:FrmT} (hf:FrmRp.rel r cs f) (h:At r ⟨b,0,none⟩ (cs++[y])) (hl:FrmOk big f):Con prog 150 #[.pointer (some ⟨b,0,none⟩)] r []
  (RetP (fun v η=>pathOk f.2.2.2.2.1∧∃ a c,v=.slice a (bytesOf f.2.2.2.2.1).length c∧η=[OwnP Rp.u8 5 (.slice a (bytesOf f.2.2.2.2.1).length c) (bytesOf f.2.2.2.2.1)]) (fun ch η=>¬ pathOk f.2.2.2.2.1∧ch=errP 39 4∧η=[])):=by
 obtain ⟨b1,b2,b3,b4,b5,b6,b7,b8,b9,b10,b11,b12,b13,b14,b15⟩:=hl;obtain ⟨a8,a9,a10,a11,a12,a14,a15,a16,a17,a21,a22,a26,a27,c8,c9,c10,c11,c12,c14,c15,c16,c17,c21,c22,c26,c27,rfl,p1,p2,p3,p4,p5,p6,p7,p8,p9,p10,p11,p12,p14,p15,p16,p17,p18,p19,p20,p21,p22,p23,p24,p25,p26,p27,p28⟩:=FrmRp.sh hf;refine Con.o func150 fun g hg R hR=>?_;have h:=h.mono hg;have hf:=hf.mono hg;have p8:=p8.mono hg;have p9:=p9.mono hg;have p10:=p10.mono hg;have p11:=p11.mono hg;have p12:=p12.mono hg;have p14:=p14.mono hg;have p15:=p15.mono hg;have p16:=p16.mono hg;have p17:=p17.mono hg;have p21:=p21.mono hg;have p22:=p22.mono hg;have p26:=p26.mono hg;have p27:=p27.mono hg;refine zz 8 ?_;refine O.op (.p rfl) (.fieldAddr fld129x0 rfl)<|O.op (.p rfl) (.fieldAddr fld41x4 rfl) ?_;refine zz 1 ?_;refine O.callP0 (.p rfl) rfl zB rfl rfl ((fpath_c (by unfold big at *;omega))) (fun ch η' w hX hW=>by (obtain ⟨hb,rfl,rfl⟩:=hX;exact hR _ _ w ⟨hb,rfl,rfl⟩ hW)) ?_;rintro _ _ ⟨hb8,a8,c8,rfl,rfl⟩;refine zz 2 ?_;exact S.rt results150 rfl hR ⟨hb8,a8,c8,rfl,rfl⟩
theorem putGet_c {r:Fr} {b:Nat} {cs:List Value} {y:Value} {f:FrmT} (hf:FrmRp.rel r cs f) (h:At r ⟨b,0,none⟩ (cs++[y])) (hl:FrmOk big f):Con prog 162 #[.pointer (some ⟨b,0,none⟩)] r []
  (RetP (fun v η=>keyOk f.2.2.2.1∧∃ a c,v=.slice a (bytesOf f.2.2.2.1).length c∧η=[OwnP Rp.u8 5 (.slice a (bytesOf f.2.2.2.1).length c) (bytesOf f.2.2.2.1)]) (fun ch η=>¬ keyOk f.2.2.2.1∧ch=errP 39 4∧η=[])):=by
 obtain ⟨b1,b2,b3,b4,b5,b6,b7,b8,b9,b10,b11,b12,b13,b14,b15⟩:=hl;obtain ⟨a8,a9,a10,a11,a12,a14,a15,a16,a17,a21,a22,a26,a27,c8,c9,c10,c11,c12,c14,c15,c16,c17,c21,c22,c26,c27,rfl,p1,p2,p3,p4,p5,p6,p7,p8,p9,p10,p11,p12,p14,p15,p16,p17,p18,p19,p20,p21,p22,p23,p24,p25,p26,p27,p28⟩:=FrmRp.sh hf;refine Con.o func162 fun g hg R hR=>?_;have h:=h.mono hg;have hf:=hf.mono hg;have p8:=p8.mono hg;have p9:=p9.mono hg;have p10:=p10.mono hg;have p11:=p11.mono hg;have p12:=p12.mono hg;have p14:=p14.mono hg;have p15:=p15.mono hg;have p16:=p16.mono hg;have p17:=p17.mono hg;have p21:=p21.mono hg;have p22:=p22.mono hg;have p26:=p26.mono hg;have p27:=p27.mono hg;refine zz 8 ?_;refine O.op (.p rfl) (.fieldAddr fld129x0 rfl)<|O.op (.p rfl) (.fieldAddr fld41x3 rfl) ?_;refine zz 1 ?_;refine O.callP0 (.p rfl) rfl zB rfl rfl ((fkey_c (by unfold big at *;omega))) (fun ch η' w hX hW=>by (obtain ⟨hb,rfl,rfl⟩:=hX;exact hR _ _ w ⟨hb,rfl,rfl⟩ hW)) ?_;rintro _ _ ⟨hb8,a8,c8,rfl,rfl⟩;refine zz 2 ?_;exact S.rt results162 rfl hR ⟨hb8,a8,c8,rfl,rfl⟩
theorem ftoldS_c {r:Fr} {va:Value} {b:List UInt8} {z:Int} (hl:b.length≤1000000000000):Con prog 232 #[va,.int .i64 z] r [OwnP Rp.u8 5 va b] (RetP (fun v η=>z=0∧∃ a c,v=.slice a (bytesOf b).length c∧η=[OwnP Rp.u8 5 (.slice a (bytesOf b).length c) (bytesOf b),OwnP Rp.u8 5 va b]) (fun ch η=>z≠0∧ch=errP 39 4∧η=[OwnP Rp.u8 5 va b])) :=
 (Con.lent (bs:=[OwnP Rp.u8 5 va b]) fun m hm hd=>ftold_c ((owned_one hm).right hd) hl).mono fun e η' ⟨η₁,a,q⟩=>by
  subst q
  cases e with
  |returned v=>obtain ⟨h1,a1,c1,rfl,rfl⟩:=a;exact ⟨h1,a1,c1,rfl,rfl⟩
  |panicked ch=>obtain ⟨h1,h2,rfl⟩:=a;exact ⟨h1,h2,rfl⟩
  |outgrown=>exact a.elim
theorem putPut_c {r:Fr} {b:Nat} {cs:List Value} {y:Value} {f:FrmT} (hf:FrmRp.rel r cs f) (h:At r ⟨b,0,none⟩ (cs++[y])) (hl:FrmOk big f):Con prog 156 #[.pointer (some ⟨b,0,none⟩)] r []
  (RetP (fun v η=>(∃ x,f.2.2.2.2.2.2.2.2.2.1=[x]∧recOk x=true)∧∃ a c,v=.slice a (bytesOf (f.2.2.2.2.2.2.2.2.2.1.map recB).flatten).length c∧η=[OwnP Rp.u8 5 (.slice a (bytesOf (f.2.2.2.2.2.2.2.2.2.1.map recB).flatten).length c) (bytesOf (f.2.2.2.2.2.2.2.2.2.1.map recB).flatten)]) (fun ch η=>¬ (∃ x,f.2.2.2.2.2.2.2.2.2.1=[x]∧recOk x=true)∧ch=errP 39 4∧η=[])):=by
 obtain ⟨b1,b2,b3,b4,b5,b6,b7,b8,b9,b10,b11,b12,b13,b14,b15⟩:=hl;obtain ⟨a8,a9,a10,a11,a12,a14,a15,a16,a17,a21,a22,a26,a27,c8,c9,c10,c11,c12,c14,c15,c16,c17,c21,c22,c26,c27,rfl,p1,p2,p3,p4,p5,p6,p7,p8,p9,p10,p11,p12,p14,p15,p16,p17,p18,p19,p20,p21,p22,p23,p24,p25,p26,p27,p28⟩:=FrmRp.sh hf;refine Con.o func156 fun g hg R hR=>?_;have h:=h.mono hg;have hf:=hf.mono hg;have p8:=p8.mono hg;have p9:=p9.mono hg;have p10:=p10.mono hg;have p11:=p11.mono hg;have p12:=p12.mono hg;have p14:=p14.mono hg;have p15:=p15.mono hg;have p16:=p16.mono hg;have p17:=p17.mono hg;have p21:=p21.mono hg;have p22:=p22.mono hg;have p26:=p26.mono hg;have p27:=p27.mono hg
 by_cases q1:f.2.2.2.2.2.2.2.2.2.1.length=1
 ·obtain ⟨x,hx⟩:=List.length_eq_one_iff.1 q1
  have h0:0<f.2.2.2.2.2.2.2.2.2.1.length:=by omega
  have hx0:f.2.2.2.2.2.2.2.2.2.1[0]=x:=by simp only [hx,List.getElem_cons_zero]
  have hrl:=recOut_le x
  by_cases q2:recOk x=true
  ·have hro:recOut x=recB x∧recErr x=0:=⟨by unfold recOut;rw [if_pos q2],by unfold recErr;rw [if_pos q2]⟩
   refine zz 8 ?_;refine O.op (.p rfl) (.fieldAddr fld129x0 rfl)<|O.op (.p rfl) (.fieldAddr fld41x9 rfl)<|zz 3 ?_;refine O.sT 9 rfl (by exact zdt zD) ?_;refine O.callP0 (.p rfl) rfl zB rfl rfl (fright_c _) (fun ch η' w hX hW=>by (exact absurd hX.1 zG)) ?_;rintro _ _ ⟨hbr,rfl,rfl⟩;refine zz 5 ?_;refine O.op (.p rfl) (.fieldAddr fld129x0 rfl)<|O.op (.p rfl) (.fieldAddr fld41x9 rfl)<|zz 1 ?_;refine O.ia (.p rfl) underlying36 size118 rfl rfl (show _=(((0):Nat):Int) by omega) (p17) (h:=fun p16 cs16 hp16 hr16=>?_);have hr:=hr16;obtain ⟨ra3_16,ra5_16,ra6_16,rc3_16,rc5_16,rc6_16,rfl, -⟩:=RecRp.sh hr16;refine O.op (.p rfl) (.loadAgg isAgg118 zB rfl hp16) ?_;refine O.call0 (.p rfl) rfl zB rfl rfl ((rPut_c (x:=x) (hx0 ▸ hr))) ?_;rintro _ _ ⟨a18,c18,rfl,rfl⟩;refine O.q 2 rfl<|O.callPS (.p rfl) rfl zB rfl rfl zC (ftoldS_c zD) (fun ch η' w hX hW=>by (exact absurd hro.2 hX.1)) ?_;rintro _ _ ⟨hb21,a21,c21,rfl,rfl⟩;refine zz 2 ?_;have e1:bytesOf (f.2.2.2.2.2.2.2.2.2.1.map recB).flatten=bytesOf (recOut x):=by rw [hx,hro.1];simp
   exact S.rt results156 rfl hR ⟨⟨x,hx,q2⟩,a21,c21,by rw [e1],by rw [e1]⟩
  ·have hro:recErr x=4:=by unfold recErr;rw [if_neg q2]
   have hn:¬ (∃ x,f.2.2.2.2.2.2.2.2.2.1=[x]∧recOk x=true):=fun ⟨z,w,w2⟩=>q2 (by rw [hx] at w;injection w with w;rw [w];exact w2);refine zz 8 ?_;refine O.op (.p rfl) (.fieldAddr fld129x0 rfl)<|O.op (.p rfl) (.fieldAddr fld41x9 rfl) ?_;refine zz 3 ?_;refine O.sT 9 rfl (by exact zdt zD) ?_;refine O.callP0 (.p rfl) rfl zB rfl rfl (fright_c _) (fun ch η' w hX hW=>by (exact absurd hX.1 zG)) ?_;rintro _ _ ⟨hbr,rfl,rfl⟩;refine zz 5 ?_;refine O.op (.p rfl) (.fieldAddr fld129x0 rfl)<|O.op (.p rfl) (.fieldAddr fld41x9 rfl) ?_;refine zz 1 ?_;refine O.ia (.p rfl) underlying36 size118 rfl rfl (show _=(((0):Nat):Int) by omega) (p17) (h:=fun p16 cs16 hp16 hr16=>?_);have hr:=hr16;obtain ⟨ra3_16,ra5_16,ra6_16,rc3_16,rc5_16,rc6_16,rfl, -⟩:=RecRp.sh hr16;refine O.op (.p rfl) (.loadAgg isAgg118 zB rfl hp16) ?_;refine O.call0 (.p rfl) rfl zB rfl rfl ((rPut_c (x:=x) (hx0 ▸ hr))) ?_;rintro _ _ ⟨a18,c18,rfl,rfl⟩;refine O.q 2 rfl<|O.callPS (.p rfl) rfl zB rfl rfl zC (ftoldS_c zD) (fun ch η' w hX hW=>by (obtain ⟨hb,rfl,rfl⟩:=hX;exact hR _ _ w ⟨hn,rfl,rfl⟩ hW.drop_all)) ?_;rintro _ _ ⟨hb21,a21,c21,rfl,rfl⟩;exact absurd hb21 (by rw [hro];decide)
 ·have hn:¬ (∃ x,f.2.2.2.2.2.2.2.2.2.1=[x]∧recOk x=true):=fun ⟨x,w,_⟩=>q1 (by rw [w];rfl)
  refine zz 8 ?_;refine O.op (.p rfl) (.fieldAddr fld129x0 rfl)<|O.op (.p rfl) (.fieldAddr fld41x9 rfl)<|zz 3 ?_;refine O.sF 9 rfl (by exact zdf zD) ?_;refine O.callP0 (.p rfl) rfl zB rfl rfl (fright_c _) (fun ch η' w hX hW=>by (obtain ⟨hb,rfl,rfl⟩:=hX;exact hR _ _ w ⟨hn,rfl,rfl⟩ hW)) ?_;rintro _ _ ⟨hbr,rfl,rfl⟩;exact absurd hbr zG
theorem putOffer_c {r:Fr} {b:Nat} {cs:List Value} {y:Value} {f:FrmT} (hf:FrmRp.rel r cs f) (h:At r ⟨b,0,none⟩ (cs++[y])) (hl:FrmOk big f):Con prog 147 #[.pointer (some ⟨b,0,none⟩)] r []
  (RetP (fun v η=>(rootOk f.2.2.2.2.2.1=true∧f.2.2.2.2.2.2.1.length=64)∧∃ a c,v=.slice a (bytesOf (rootB f.2.2.2.2.2.1)++bytesOf f.2.2.2.2.2.2.1).length c∧η=[OwnP Rp.u8 5 (.slice a (bytesOf (rootB f.2.2.2.2.2.1)++bytesOf f.2.2.2.2.2.2.1).length c) (bytesOf (rootB f.2.2.2.2.2.1)++bytesOf f.2.2.2.2.2.2.1)]) (fun ch η=>¬ (rootOk f.2.2.2.2.2.1=true∧f.2.2.2.2.2.2.1.length=64)∧ch=errP 39 4∧η=[])):=by
 obtain ⟨b1,b2,b3,b4,b5,b6,b7,b8,b9,b10,b11,b12,b13,b14,b15⟩:=hl;obtain ⟨a8,a9,a10,a11,a12,a14,a15,a16,a17,a21,a22,a26,a27,c8,c9,c10,c11,c12,c14,c15,c16,c17,c21,c22,c26,c27,rfl,p1,p2,p3,p4,p5,p6,p7,p8,p9,p10,p11,p12,p14,p15,p16,p17,p18,p19,p20,p21,p22,p23,p24,p25,p26,p27,p28⟩:=FrmRp.sh hf;refine Con.o func147 fun g hg R hR=>?_;have h:=h.mono hg;have hf:=hf.mono hg;have p8:=p8.mono hg;have p9:=p9.mono hg;have p10:=p10.mono hg;have p11:=p11.mono hg;have p12:=p12.mono hg;have p14:=p14.mono hg;have p15:=p15.mono hg;have p16:=p16.mono hg;have p17:=p17.mono hg;have p21:=p21.mono hg;have p22:=p22.mono hg;have p26:=p26.mono hg;have p27:=p27.mono hg;have hrt:RootRp.rel g.h [.int .i64 f.2.2.2.2.2.1.1,.int .i64 f.2.2.2.2.2.1.2.1,.int .i64 f.2.2.2.2.2.1.2.2.1,.slice a8 f.2.2.2.2.2.1.2.2.2.1.length c8,.slice a9 f.2.2.2.2.2.1.2.2.2.2.1.length c9] f.2.2.2.2.2.1:=RootRp.mk p5 p6 p7 p8 p9
 by_cases q2:f.2.2.2.2.2.2.1.length=64
 ·by_cases q1:rootOk f.2.2.2.2.2.1=true
  ·have hro:rootOut f.2.2.2.2.2.1=rootB f.2.2.2.2.2.1∧rootErr f.2.2.2.2.2.1=0:=⟨by unfold rootOut;rw [if_pos q1],by unfold rootErr;rw [if_pos q1]⟩
   have hrl:=rootB_length q1;refine zz 8 ?_;refine O.op (.p rfl) (.fieldAddr fld129x0 rfl)<|O.op (.p rfl) (.fieldAddr fld41x6 rfl) ?_;refine zz 3 ?_;refine O.sT 9 rfl (by exact zdt zD) ?_;refine O.callP0 (.p rfl) rfl zB rfl rfl (fright_c _) (fun ch η' w hX hW=>by (exact absurd hX.1 zG)) ?_;rintro _ _ ⟨hbr,rfl,rfl⟩;refine zz 2 ?_;refine S.regionD (L:=[0,1,2,3,4,9,10,11,12,13,5,6,7,8,14,15,16,17]) F.mixed zB ?_;refine zz 4 ?_;refine .quiet (.p rfl) rfl (fun _=>.loadAgg (cs:=[_,_,_,_,_]) isAgg27 zB rfl ((h.drop 5).take 5)) ?_;refine zz 5 ?_;refine OD.call0 (.p rfl) zB rfl zB rfl rfl ((tPut_c hrt)) ?_;rintro _ _ ⟨a16,c16,rfl,rfl⟩;rw [hro.1,hro.2];refine OD.q 2 rfl<|OD.callPS (.p rfl) zB rfl zB rfl rfl zC (ftoldS_c zD) (fun ch η' w hX hW=>by (exact absurd rfl hX.1)) ?_;rintro _ _ ⟨hb19,a19,c19,rfl,rfl⟩;refine OD.call0 (.p rfl) zB rfl zB rfl rfl ((wBytes_c p10 zD)) ?_;rintro _ _ ⟨a25,c25,rfl,rfl⟩;refine OD.litP (.p rfl) zB (T:=Rp.val) (ys:=[.slice a19 (bytesOf (rootB f.2.2.2.2.2.1)).length c19,.slice a25 (bytesOf f.2.2.2.2.2.2.1).length c25]) underlying28 elem22 zE rfl rfl ⟨⟨rfl,rfl⟩,⟨rfl,rfl⟩,trivial⟩ zE (fun a26 c26=>?_)
   refine OD.callB (.p rfl) zB rfl zB rfl rfl (bs:=[OwnP Rp.val 22 (.slice a26 2 c26) [.slice a19 (bytesOf (rootB f.2.2.2.2.2.1)).length c19,.slice a25 (bytesOf f.2.2.2.2.2.2.1).length c25],OwnP Rp.u8 5 (.slice a19 (bytesOf (rootB f.2.2.2.2.2.1)).length c19) (bytesOf (rootB f.2.2.2.2.2.1)),OwnP Rp.u8 5 (.slice a25 (bytesOf f.2.2.2.2.2.2.1).length c25) (bytesOf f.2.2.2.2.2.2.1)]) zI (fun m hm hd=>wJoin_c (xss:=[bytesOf (rootB f.2.2.2.2.2.1),bytesOf f.2.2.2.2.2.2.1]) ((hm.arr.right hd).rows ⟨hm.tail.arr.right hd,hm.tail.tail.arr.right hd,trivial⟩) (by simp only [zfc,List.flatten_nil,List.append_nil,zla,bytesOf_length];omega)) ?_;rintro _ _ ⟨a27,c27,rfl,rfl⟩;refine zz 2 ?_;have e1:[bytesOf (rootB f.2.2.2.2.2.1),bytesOf f.2.2.2.2.2.2.1].flatten=bytesOf (rootB f.2.2.2.2.2.1)++bytesOf f.2.2.2.2.2.2.1:=by simp
   exact S.rt results147 rfl hR ⟨⟨q1,q2⟩,a27,c27,by rw [← e1],by rw [← e1]⟩
  ·have hro:rootErr f.2.2.2.2.2.1=4:=by unfold rootErr;rw [if_neg q1]
   have hol:(rootOut f.2.2.2.2.2.1).length=0:=by unfold rootOut;rw [if_neg q1];rfl
   have hn:¬ (rootOk f.2.2.2.2.2.1=true∧f.2.2.2.2.2.2.1.length=64):=fun w=>q1 w.1;refine zz 8 ?_;refine O.op (.p rfl) (.fieldAddr fld129x0 rfl)<|O.op (.p rfl) (.fieldAddr fld41x6 rfl) ?_;refine zz 3 ?_;refine O.sT 9 rfl (by exact zdt zD) ?_;refine O.callP0 (.p rfl) rfl zB rfl rfl (fright_c _) (fun ch η' w hX hW=>by (exact absurd hX.1 zG)) ?_;rintro _ _ ⟨hbr,rfl,rfl⟩;refine zz 2 ?_;refine S.regionD (L:=[0,1,2,3,4,9,10,11,12,13,5,6,7,8,14,15,16,17]) F.mixed zB ?_;refine zz 4 ?_;refine .quiet (.p rfl) rfl (fun _=>.loadAgg (cs:=[_,_,_,_,_]) isAgg27 zB rfl ((h.drop 5).take 5)) ?_;refine zz 5 ?_;refine OD.call0 (.p rfl) zB rfl zB rfl rfl ((tPut_c hrt)) ?_;rintro _ _ ⟨a16,c16,rfl,rfl⟩;rw [hro];refine OD.q 2 rfl<|OD.callPS (.p rfl) zB rfl zB rfl rfl zC (ftoldS_c zD) (fun ch η' w hX hW=>by (obtain ⟨hb,rfl,rfl⟩:=hX;exact hR _ _ w ⟨hn,rfl,rfl⟩ hW.drop_all)) ?_;rintro _ _ ⟨hb19,a19,c19,rfl,rfl⟩;exact absurd hb19 zE
 ·have hn:¬ (rootOk f.2.2.2.2.2.1=true∧f.2.2.2.2.2.2.1.length=64):=fun w=>q2 w.2
  refine zz 8 ?_;refine O.op (.p rfl) (.fieldAddr fld129x0 rfl)<|O.op (.p rfl) (.fieldAddr fld41x6 rfl)<|zz 3 ?_;refine O.sF 9 rfl (by exact zdf zD) ?_;refine O.callP0 (.p rfl) rfl zB rfl rfl (fright_c _) (fun ch η' w hX hW=>by (obtain ⟨hb,rfl,rfl⟩:=hX;exact hR _ _ w ⟨hn,rfl,rfl⟩ hW)) ?_;rintro _ _ ⟨hbr,rfl,rfl⟩;exact absurd hbr zG
theorem putEvidence_c {r:Fr} {b:Nat} {cs:List Value} {y:Value} {f:FrmT} (hf:FrmRp.rel r cs f) (h:At r ⟨b,0,none⟩ (cs++[y])) (hl:FrmOk big f):Con prog 168 #[.pointer (some ⟨b,0,none⟩)] r []
  (RetP (fun v η=>evdOk f.2.2.2.2.2.2.2.2.2.2.1=true∧∃ a c,v=.slice a (bytesOf (evdB f.2.2.2.2.2.2.2.2.2.2.1)).length c∧η=[OwnP Rp.u8 5 (.slice a (bytesOf (evdB f.2.2.2.2.2.2.2.2.2.2.1)).length c) (bytesOf (evdB f.2.2.2.2.2.2.2.2.2.2.1))]) (fun ch η=>¬ evdOk f.2.2.2.2.2.2.2.2.2.2.1=true∧ch=errP 39 4∧η=[])):=by
 obtain ⟨b1,b2,b3,b4,b5,b6,b7,b8,b9,b10,b11,b12,b13,b14,b15⟩:=hl;obtain ⟨a8,a9,a10,a11,a12,a14,a15,a16,a17,a21,a22,a26,a27,c8,c9,c10,c11,c12,c14,c15,c16,c17,c21,c22,c26,c27,rfl,p1,p2,p3,p4,p5,p6,p7,p8,p9,p10,p11,p12,p14,p15,p16,p17,p18,p19,p20,p21,p22,p23,p24,p25,p26,p27,p28⟩:=FrmRp.sh hf;refine Con.o func168 fun g hg R hR=>?_;have h:=h.mono hg;have hf:=hf.mono hg;have p8:=p8.mono hg;have p9:=p9.mono hg;have p10:=p10.mono hg;have p11:=p11.mono hg;have p12:=p12.mono hg;have p14:=p14.mono hg;have p15:=p15.mono hg;have p16:=p16.mono hg;have p17:=p17.mono hg;have p21:=p21.mono hg;have p22:=p22.mono hg;have p26:=p26.mono hg;have p27:=p27.mono hg;have hrt:EvdRp.rel g.h [.int .i64 f.2.2.2.2.2.2.2.2.2.2.1.1.1,.int .i64 f.2.2.2.2.2.2.2.2.2.2.1.1.2.1,.int .i64 f.2.2.2.2.2.2.2.2.2.2.1.1.2.2.1,.slice a21 f.2.2.2.2.2.2.2.2.2.2.1.1.2.2.2.1.length c21,.slice a22 f.2.2.2.2.2.2.2.2.2.2.1.1.2.2.2.2.1.length c22,.int .i64 f.2.2.2.2.2.2.2.2.2.2.1.2.1.1,.int .i64 f.2.2.2.2.2.2.2.2.2.2.1.2.1.2.1,.int .i64 f.2.2.2.2.2.2.2.2.2.2.1.2.1.2.2.1,.slice a26 f.2.2.2.2.2.2.2.2.2.2.1.2.1.2.2.2.1.length c26,.slice a27 f.2.2.2.2.2.2.2.2.2.2.1.2.1.2.2.2.2.1.length c27] f.2.2.2.2.2.2.2.2.2.2.1:=EvdRp.mk p18 p19 p20 p21 p22 p23 p24 p25 p26 p27
 by_cases q1:evdOk f.2.2.2.2.2.2.2.2.2.2.1=true
 ·have hro:evdOut f.2.2.2.2.2.2.2.2.2.2.1=evdB f.2.2.2.2.2.2.2.2.2.2.1∧evdErr f.2.2.2.2.2.2.2.2.2.2.1=0:=⟨by unfold evdOut;rw [if_pos q1],by unfold evdErr;rw [if_pos q1]⟩
  have hrl:=evdB_length q1;refine zz 8 ?_;refine O.op (.p rfl) (.fieldAddr fld129x0 rfl)<|O.op (.p rfl) (.fieldAddr fld41x10 rfl)<|O.op (.p rfl) (.loadAgg (cs:=[_,_,_,_,_,_,_,_,_,_]) isAgg38 zB rfl ((h.drop 18).take 10)) ?_;refine O.call0 (.p rfl) rfl zB rfl rfl ((ePut_c hrt)) ?_;rintro v8 _ ⟨a8',c8',rfl,rfl⟩;rw [hro.1,hro.2];refine O.q 2 rfl<|O.callPS (.p rfl) rfl zB rfl rfl zC (ftoldS_c zD) (fun ch η' w hX hW=>by (exact absurd rfl hX.1)) ?_;rintro v11 _ ⟨hb11,a11',c11',rfl,rfl⟩;refine zz 2 ?_;exact S.rt results168 rfl hR ⟨q1,a11',c11',rfl,rfl⟩
 ·have hro:evdErr f.2.2.2.2.2.2.2.2.2.2.1=4:=by unfold evdErr;rw [if_neg q1]
  have hol:(evdOut f.2.2.2.2.2.2.2.2.2.2.1).length=0:=by unfold evdOut;rw [if_neg q1];rfl
  have hn:=q1;refine zz 8 ?_;refine O.op (.p rfl) (.fieldAddr fld129x0 rfl)<|O.op (.p rfl) (.fieldAddr fld41x10 rfl)<|O.op (.p rfl) (.loadAgg (cs:=[_,_,_,_,_,_,_,_,_,_]) isAgg38 zB rfl ((h.drop 18).take 10)) ?_;refine O.call0 (.p rfl) rfl zB rfl rfl ((ePut_c hrt)) ?_;rintro v8 _ ⟨a8',c8',rfl,rfl⟩;rw [hro];refine O.q 2 rfl<|O.callPS (.p rfl) rfl zB rfl rfl zC (ftoldS_c zD) (fun ch η' w hX hW=>by (obtain ⟨hb,rfl,rfl⟩:=hX;exact hR _ _ w ⟨hn,rfl,rfl⟩ hW.drop_all)) ?_;rintro v11 _ ⟨hb11,a11',c11',rfl,rfl⟩;exact absurd hb11 zE
theorem wrapB_q (k:UInt8):IntKind.i64.wrap (k.toNat:Int)=(k.toNat:Int):=by
 have:=k.toNat_lt;rw [wrap_i64_eq _ zD,s64,if_pos zD]
theorem rowsB_snoc_q {α:Type} {b:α→List UInt8} {l:List α} {k:Nat} (h:k<l.length):rowsB b (l.take k)++b l[k]=rowsB b (l.take (k+1)):=by
 rw [ztg h];unfold rowsB;rw [List.map_append,List.flatten_append];simp
theorem putNode_c {r:Fr} {b:Nat} {cs:List Value} {y:Value} {f:FrmT} (hf:FrmRp.rel r cs f) (h:At r ⟨b,0,none⟩ (cs++[y])) (hl:FrmOk big f) (hN:(f.2.2.2.2.2.2.2.2.1.2.1.length≤1000000000000∧f.2.2.2.2.2.2.2.2.1.2.2.1.length≤1000000000000)∧(f.2.2.2.2.2.2.2.2.1.2.2.2.1.length≤20000∧∀ y∈f.2.2.2.2.2.2.2.2.1.2.2.2.1,y.2.1.length≤10000)) (hH:At r ⟨0,0,none⟩ (w64s shaH)) (hK:At r ⟨1,0,none⟩ (w64s shaK)):Con prog 153 #[.pointer (some ⟨b,0,none⟩)] r []
  (RetP (fun v η=>(pathOk f.2.2.2.2.1∧nodeOk f.2.2.2.2.2.2.2.2.1)∧∃ a c,v=.slice a (bytesOf f.2.2.2.2.1++nodeB f.2.2.2.2.2.2.2.2.1).length c∧η=[OwnP Rp.u8 5 (.slice a (bytesOf f.2.2.2.2.1++nodeB f.2.2.2.2.2.2.2.2.1).length c) (bytesOf f.2.2.2.2.1++nodeB f.2.2.2.2.2.2.2.2.1)]) (fun ch η=>¬ (pathOk f.2.2.2.2.1∧nodeOk f.2.2.2.2.2.2.2.2.1)∧ch=errP 39 4∧η=[])):=by
 obtain ⟨b1,b2,b3,b4,b5,b6,b7,b8,b9,b10,b11,b12,b13,b14,b15⟩:=hl;obtain ⟨a8,a9,a10,a11,a12,a14,a15,a16,a17,a21,a22,a26,a27,c8,c9,c10,c11,c12,c14,c15,c16,c17,c21,c22,c26,c27,rfl,p1,p2,p3,p4,p5,p6,p7,p8,p9,p10,p11,p12,p14,p15,p16,p17,p18,p19,p20,p21,p22,p23,p24,p25,p26,p27,p28⟩:=FrmRp.sh hf;refine Con.o func153 fun g hg R hR=>?_;have hH:=hH.mono hg;have hK:=hK.mono hg;have h:=h.mono hg;have hf:=hf.mono hg;have p8:=p8.mono hg;have p9:=p9.mono hg;have p10:=p10.mono hg;have p11:=p11.mono hg;have p12:=p12.mono hg;have p14:=p14.mono hg;have p15:=p15.mono hg;have p16:=p16.mono hg;have p17:=p17.mono hg;have p21:=p21.mono hg;have p22:=p22.mono hg;have p26:=p26.mono hg;have p27:=p27.mono hg;have hrn:NodeRp.rel g.h [byteV f.2.2.2.2.2.2.2.2.1.1,.slice a14 f.2.2.2.2.2.2.2.2.1.2.1.length c14,.slice a15 f.2.2.2.2.2.2.2.2.1.2.2.1.length c15,.slice a16 f.2.2.2.2.2.2.2.2.1.2.2.2.1.length c16] f.2.2.2.2.2.2.2.2.1:=NodeRp.mk p14 p15 p16;refine zz 8 ?_;refine O.op (.p rfl) (.fieldAddr fld129x0 rfl)<|O.op (.p rfl) (.fieldAddr fld41x8 rfl)<|O.op (.p rfl) (.loadAgg (cs:=[_,_,_,_]) isAgg35 zB rfl ((h.drop 13).take 4)) ?_;refine O.opE (.p rfl) (.alloc (cs:=[.int .u8 0,.slice none 0 0,.slice none 0 0,.slice none 0 0]) zeroValue35 rfl) ?_;rintro _ _ ⟨b3,rfl,rfl⟩;refine zz 1 ?_
 refine O.nil<|S.seq<|S.objIs (b:=b3) (cs' :=[byteV f.2.2.2.2.2.2.2.2.1.1,.slice a14 f.2.2.2.2.2.2.2.2.1.2.1.length c14,.slice a15 f.2.2.2.2.2.2.2.2.1.2.2.1.length c15,.slice a16 f.2.2.2.2.2.2.2.2.1.2.2.2.1.length c16]) zC rfl ?_;refine S.frzO zC fun g hs hm h3=>?_;replace hg:=zfs hg hs;replace hR:=melted hR hm
 try replace hH:=hH.mono hs
 try replace hK:=hK.mono hs
 try replace h:=h.mono hs
 try replace hf:=hf.mono hs
 try replace p8:=p8.mono hs
 try replace p9:=p9.mono hs
 try replace p10:=p10.mono hs
 try replace p11:=p11.mono hs
 try replace p12:=p12.mono hs
 try replace p14:=p14.mono hs
 try replace p15:=p15.mono hs
 try replace p16:=p16.mono hs
 try replace p17:=p17.mono hs
 try replace p21:=p21.mono hs
 try replace p22:=p22.mono hs
 try replace p26:=p26.mono hs
 try replace p27:=p27.mono hs
 try replace hrn:=hrn.mono hs
 clear hs hm
 by_cases q1:nodeOk f.2.2.2.2.2.2.2.2.1
 ·have hs:=(nodeSum_64 f.2.2.2.2.2.2.2.2.1).2 q1
  refine S.region rfl<|O.op (.p rfl) (.loadAgg isAgg35 zB rfl h3) ?_;refine O.call0 (.p rfl) rfl zB rfl rfl ((nodeSum_c hrn hN.1 ⟨by have:=hN.2.1;omega,fun y hy=>by have:=hN.2.2 y hy;omega⟩ hH hK)) ?_;rintro _ _ ⟨a13,c13,rfl,rfl⟩;rw [hs];refine zz 2 ?_;refine O.sT 15 rfl zN ?_;refine O.callP0 (.p rfl) rfl zB rfl rfl (fright_c _) (fun ch η' w hX hW=>by (exact absurd hX.1 zG)) ?_;rintro _ _ ⟨hbr,rfl,rfl⟩;refine O.nil<|S.seq<|S.frzA zC fun g hs hm hsum=>?_;replace hg:=zfs hg hs;replace hR:=melted hR hm
  try replace hH:=hH.mono hs
  try replace hK:=hK.mono hs
  try replace h:=h.mono hs
  try replace hf:=hf.mono hs
  try replace p8:=p8.mono hs
  try replace p9:=p9.mono hs
  try replace p10:=p10.mono hs
  try replace p11:=p11.mono hs
  try replace p12:=p12.mono hs
  try replace p14:=p14.mono hs
  try replace p15:=p15.mono hs
  try replace p16:=p16.mono hs
  try replace p17:=p17.mono hs
  try replace p21:=p21.mono hs
  try replace p22:=p22.mono hs
  try replace p26:=p26.mono hs
  try replace p27:=p27.mono hs
  try replace hrn:=hrn.mono hs
  try replace h3:=h3.mono hs
  clear hs hm
  by_cases q2:pathOk f.2.2.2.2.1
  ·
   refine S.regionD (L:=[0,1,2,3,4,6,7,8,10,11,13,14,16,17,18,5,9,12,15,19,20,21,22]) F.mixed zB ?_;refine zz 7 ?_;refine .quiet (.p rfl) rfl (fun _=>.cvt underlying32 underlying3 rfl)<|OD.slot 25 (v' :=.int .i64 (f.2.2.2.2.2.2.2.2.1.1.toNat:Int)) rfl (by exact congrArg (Value.int .i64) (wrapB_q f.2.2.2.2.2.2.2.2.1.1)) ?_;refine zz 7 ?_;refine OD.callP0 (.p rfl) zB rfl zB rfl rfl ((fpath_c p4)) (fun ch η' w hX hW=>by (exact absurd q2 hX.1)) ?_;rintro _ _ ⟨hb22,a22,c22,rfl,rfl⟩;refine OD.call0 (.p rfl) zB rfl zB rfl rfl ((wNumber_c _)) ?_;rintro v26 _ ⟨a26',c26',rfl,rfl⟩;refine OD.call0 (.p rfl) zB rfl zB rfl rfl ((wBytes_c p14 zD)) ?_;rintro _ _ ⟨a29,c29,rfl,rfl⟩;refine OD.call0 (.p rfl) zB rfl zB rfl rfl ((wBytes_c p15 zD)) ?_;rintro _ _ ⟨a32,c32,rfl,rfl⟩;refine OD.call0 (.p rfl) zB rfl zB rfl rfl ((wNumber_c _)) ?_;rintro _ _ ⟨a36,c36,rfl,rfl⟩;refine OD.litP (.p rfl) zB (T:=Rp.val) (ys:=[.slice a22 (bytesOf f.2.2.2.2.1).length c22,.slice a26' 8 c26',.slice a29 (bytesOf f.2.2.2.2.2.2.2.2.1.2.1).length c29,.slice a32 (bytesOf f.2.2.2.2.2.2.2.2.1.2.2.1).length c32,.slice a36 8 c36]) underlying28 elem22 zE rfl rfl ⟨⟨rfl,rfl⟩,⟨rfl,rfl⟩,⟨rfl,rfl⟩,⟨rfl,rfl⟩,⟨rfl,rfl⟩,trivial⟩ zE (fun a37 c37=>?_)
   refine OD.callB (.p rfl) zB rfl zB rfl rfl (bs:=[OwnP Rp.val 22 (.slice a37 5 c37) [.slice a22 (bytesOf f.2.2.2.2.1).length c22,.slice a26' 8 c26',.slice a29 (bytesOf f.2.2.2.2.2.2.2.2.1.2.1).length c29,.slice a32 (bytesOf f.2.2.2.2.2.2.2.2.1.2.2.1).length c32,.slice a36 8 c36],OwnP Rp.u8 5 (.slice a22 (bytesOf f.2.2.2.2.1).length c22) (bytesOf f.2.2.2.2.1),OwnP Rp.u8 5 (.slice a26' 8 c26') (be ↑(f.2.2.2.2.2.2.2.2.1.1.toNat)),OwnP Rp.u8 5 (.slice a29 (bytesOf f.2.2.2.2.2.2.2.2.1.2.1).length c29) (bytesOf f.2.2.2.2.2.2.2.2.1.2.1),OwnP Rp.u8 5 (.slice a32 (bytesOf f.2.2.2.2.2.2.2.2.1.2.2.1).length c32) (bytesOf f.2.2.2.2.2.2.2.2.1.2.2.1),OwnP Rp.u8 5 (.slice a36 8 c36) (be ↑(f.2.2.2.2.2.2.2.2.1.2.2.2.1.length))]) zI (fun m hm hd=>wJoin_c (xss:=[bytesOf f.2.2.2.2.1,be ↑(f.2.2.2.2.2.2.2.2.1.1.toNat),bytesOf f.2.2.2.2.2.2.2.2.1.2.1,bytesOf f.2.2.2.2.2.2.2.2.1.2.2.1,be ↑(f.2.2.2.2.2.2.2.2.1.2.2.2.1.length)]) ((hm.arr.right hd).rows ⟨hm.tail.arr.right hd,hm.tail.tail.arr.right hd,hm.tail.tail.tail.arr.right hd,hm.tail.tail.tail.tail.arr.right hd,hm.tail.tail.tail.tail.tail.arr.right hd,trivial⟩) (by have:=hb22.1;simp only [zfc,List.flatten_nil,List.append_nil,zla,bytesOf_length,be_length];omega)) ?_;rintro _ _ ⟨a38,c38,rfl,rfl⟩;refine OD.q 1 rfl<|ODx.nil (S.seq (S.seq ?_))
   have e1:[bytesOf f.2.2.2.2.1,be ↑(f.2.2.2.2.2.2.2.2.1.1.toNat),bytesOf f.2.2.2.2.2.2.2.2.1.2.1,bytesOf f.2.2.2.2.2.2.2.2.1.2.2.1,be ↑(f.2.2.2.2.2.2.2.2.1.2.2.2.1.length)].flatten=bytesOf f.2.2.2.2.1++(be ↑(f.2.2.2.2.2.2.2.2.1.1.toNat)++(bytesOf f.2.2.2.2.2.2.2.2.1.2.1++(bytesOf f.2.2.2.2.2.2.2.2.1.2.2.1++be ↑(f.2.2.2.2.2.2.2.2.1.2.2.2.1.length)))):=by simp
   rw [e1];have hhl:(bytesOf f.2.2.2.2.1++(be ↑(f.2.2.2.2.2.2.2.2.1.1.toNat)++(bytesOf f.2.2.2.2.2.2.2.2.1.2.1++(bytesOf f.2.2.2.2.2.2.2.2.1.2.2.1++be ↑(f.2.2.2.2.2.2.2.2.1.2.2.2.1.length))))).length≤100000000000000:=by have:=hb22.1;simp only [zla,bytesOf_length,be_length];omega
   generalize (bytesOf f.2.2.2.2.1++(be ↑(f.2.2.2.2.2.2.2.2.1.1.toNat)++(bytesOf f.2.2.2.2.2.2.2.2.1.2.1++(bytesOf f.2.2.2.2.2.2.2.2.1.2.2.1++be ↑(f.2.2.2.2.2.2.2.2.1.2.2.2.1.length)))))=H at e1 hhl ⊢;refine S.frz (A:=OwnP Rp.val 22 (.slice a37 5 c37) [.slice a22 (bytesOf f.2.2.2.2.1).length c22,.slice a26' 8 c26',.slice a29 (bytesOf f.2.2.2.2.2.2.2.2.1.2.1).length c29,.slice a32 (bytesOf f.2.2.2.2.2.2.2.2.1.2.2.1).length c32,.slice a36 8 c36]) zC fun g hs hm ⟨_,x',s'⟩=>?_;have y1:=(fun s x=>Arr.mono s (OwnP.arr x)) s' x';clear x' s';replace hg:=zfs hg hs;replace hR:=melted hR hm
   try replace hH:=hH.mono hs
   try replace hK:=hK.mono hs
   try replace h:=h.mono hs
   try replace hf:=hf.mono hs
   try replace p8:=p8.mono hs
   try replace p9:=p9.mono hs
   try replace p10:=p10.mono hs
   try replace p11:=p11.mono hs
   try replace p12:=p12.mono hs
   try replace p14:=p14.mono hs
   try replace p15:=p15.mono hs
   try replace p16:=p16.mono hs
   try replace p17:=p17.mono hs
   try replace p21:=p21.mono hs
   try replace p22:=p22.mono hs
   try replace p26:=p26.mono hs
   try replace p27:=p27.mono hs
   try replace hrn:=hrn.mono hs
   try replace h3:=h3.mono hs
   try replace hsum:=hsum.mono hs
   clear hs hm;refine S.frz (A:=OwnP Rp.u8 5 (.slice a22 (bytesOf f.2.2.2.2.1).length c22) (bytesOf f.2.2.2.2.1)) zC fun g hs hm ⟨_,x',s'⟩=>?_;have z0:=(fun s x=>Arr.mono s (OwnP.arr x)) s' x';clear x' s';replace hg:=zfs hg hs;replace hR:=melted hR hm
   try replace hH:=hH.mono hs
   try replace hK:=hK.mono hs
   try replace h:=h.mono hs
   try replace hf:=hf.mono hs
   try replace p8:=p8.mono hs
   try replace p9:=p9.mono hs
   try replace p10:=p10.mono hs
   try replace p11:=p11.mono hs
   try replace p12:=p12.mono hs
   try replace p14:=p14.mono hs
   try replace p15:=p15.mono hs
   try replace p16:=p16.mono hs
   try replace p17:=p17.mono hs
   try replace p21:=p21.mono hs
   try replace p22:=p22.mono hs
   try replace p26:=p26.mono hs
   try replace p27:=p27.mono hs
   try replace hrn:=hrn.mono hs
   try replace h3:=h3.mono hs
   try replace hsum:=hsum.mono hs
   try replace y1:=y1.mono hs
   clear hs hm;refine S.frz (A:=OwnP Rp.u8 5 (.slice a26' 8 c26') (be ↑(f.2.2.2.2.2.2.2.2.1.1.toNat))) zC fun g hs hm ⟨_,x',s'⟩=>?_;have z1:=(fun s x=>Arr.mono s (OwnP.arr x)) s' x';clear x' s';replace hg:=zfs hg hs;replace hR:=melted hR hm
   try replace hH:=hH.mono hs
   try replace hK:=hK.mono hs
   try replace h:=h.mono hs
   try replace hf:=hf.mono hs
   try replace p8:=p8.mono hs
   try replace p9:=p9.mono hs
   try replace p10:=p10.mono hs
   try replace p11:=p11.mono hs
   try replace p12:=p12.mono hs
   try replace p14:=p14.mono hs
   try replace p15:=p15.mono hs
   try replace p16:=p16.mono hs
   try replace p17:=p17.mono hs
   try replace p21:=p21.mono hs
   try replace p22:=p22.mono hs
   try replace p26:=p26.mono hs
   try replace p27:=p27.mono hs
   try replace hrn:=hrn.mono hs
   try replace h3:=h3.mono hs
   try replace hsum:=hsum.mono hs
   try replace y1:=y1.mono hs
   try replace z0:=z0.mono hs
   clear hs hm;refine S.frz (A:=OwnP Rp.u8 5 (.slice a29 (bytesOf f.2.2.2.2.2.2.2.2.1.2.1).length c29) (bytesOf f.2.2.2.2.2.2.2.2.1.2.1)) zC fun g hs hm ⟨_,x',s'⟩=>?_;have z2:=(fun s x=>Arr.mono s (OwnP.arr x)) s' x';clear x' s';replace hg:=zfs hg hs;replace hR:=melted hR hm
   try replace hH:=hH.mono hs
   try replace hK:=hK.mono hs
   try replace h:=h.mono hs
   try replace hf:=hf.mono hs
   try replace p8:=p8.mono hs
   try replace p9:=p9.mono hs
   try replace p10:=p10.mono hs
   try replace p11:=p11.mono hs
   try replace p12:=p12.mono hs
   try replace p14:=p14.mono hs
   try replace p15:=p15.mono hs
   try replace p16:=p16.mono hs
   try replace p17:=p17.mono hs
   try replace p21:=p21.mono hs
   try replace p22:=p22.mono hs
   try replace p26:=p26.mono hs
   try replace p27:=p27.mono hs
   try replace hrn:=hrn.mono hs
   try replace h3:=h3.mono hs
   try replace hsum:=hsum.mono hs
   try replace y1:=y1.mono hs
   try replace z0:=z0.mono hs
   try replace z1:=z1.mono hs
   clear hs hm;refine S.frz (A:=OwnP Rp.u8 5 (.slice a32 (bytesOf f.2.2.2.2.2.2.2.2.1.2.2.1).length c32) (bytesOf f.2.2.2.2.2.2.2.2.1.2.2.1)) zC fun g hs hm ⟨_,x',s'⟩=>?_;have z3:=(fun s x=>Arr.mono s (OwnP.arr x)) s' x';clear x' s';replace hg:=zfs hg hs;replace hR:=melted hR hm
   try replace hH:=hH.mono hs
   try replace hK:=hK.mono hs
   try replace h:=h.mono hs
   try replace hf:=hf.mono hs
   try replace p8:=p8.mono hs
   try replace p9:=p9.mono hs
   try replace p10:=p10.mono hs
   try replace p11:=p11.mono hs
   try replace p12:=p12.mono hs
   try replace p14:=p14.mono hs
   try replace p15:=p15.mono hs
   try replace p16:=p16.mono hs
   try replace p17:=p17.mono hs
   try replace p21:=p21.mono hs
   try replace p22:=p22.mono hs
   try replace p26:=p26.mono hs
   try replace p27:=p27.mono hs
   try replace hrn:=hrn.mono hs
   try replace h3:=h3.mono hs
   try replace hsum:=hsum.mono hs
   try replace y1:=y1.mono hs
   try replace z0:=z0.mono hs
   try replace z1:=z1.mono hs
   try replace z2:=z2.mono hs
   clear hs hm;refine S.frz (A:=OwnP Rp.u8 5 (.slice a36 8 c36) (be ↑(f.2.2.2.2.2.2.2.2.1.2.2.2.1.length))) zC fun g hs hm ⟨_,x',s'⟩=>?_;have z4:=(fun s x=>Arr.mono s (OwnP.arr x)) s' x';clear x' s';replace hg:=zfs hg hs;replace hR:=melted hR hm
   try replace hH:=hH.mono hs
   try replace hK:=hK.mono hs
   try replace h:=h.mono hs
   try replace hf:=hf.mono hs
   try replace p8:=p8.mono hs
   try replace p9:=p9.mono hs
   try replace p10:=p10.mono hs
   try replace p11:=p11.mono hs
   try replace p12:=p12.mono hs
   try replace p14:=p14.mono hs
   try replace p15:=p15.mono hs
   try replace p16:=p16.mono hs
   try replace p17:=p17.mono hs
   try replace p21:=p21.mono hs
   try replace p22:=p22.mono hs
   try replace p26:=p26.mono hs
   try replace p27:=p27.mono hs
   try replace hrn:=hrn.mono hs
   try replace h3:=h3.mono hs
   try replace hsum:=hsum.mono hs
   try replace y1:=y1.mono hs
   try replace z0:=z0.mono hs
   try replace z1:=z1.mono hs
   try replace z2:=z2.mono hs
   try replace z3:=z3.mono hs
   clear hs hm;refine S.ownIs (T:=Rp.u8) (e:=5) (v' :=.slice a38 (H++rowsB leafB (f.2.2.2.2.2.2.2.2.1.2.2.2.1.take 0)).length c38) (xs' :=H++rowsB leafB (f.2.2.2.2.2.2.2.2.1.2.2.2.1.take 0)) zC (by simp [rowsB]) (by simp [rowsB]) ?_;refine S.slot 4 (v' :=.slice a38 (H++rowsB leafB (f.2.2.2.2.2.2.2.2.1.2.2.2.1.take 0)).length c38) rfl (by simp [rowsB]) ?_;refine zz 1 ?_;refine O.op (.p rfl) (.fieldAddr fld35x3 rfl) ?_;refine zz 5 ?_;refine S.loopK2 (ι:=Nat) (κ:=Option Addr × Nat) (fun k s=>k≤f.2.2.2.2.2.2.2.2.1.2.2.2.1.length) (fun k s=>[(42,.int .i64 (k:Int)),(4,.slice s.1 (H++rowsB leafB (f.2.2.2.2.2.2.2.2.1.2.2.2.1.take k)).length s.2)]) [(40,_),(41,_)] (fun k s=>[OwnP Rp.u8 5 (.slice s.1 (H++rowsB leafB (f.2.2.2.2.2.2.2.2.1.2.2.2.1.take k)).length s.2) (H++rowsB leafB (f.2.2.2.2.2.2.2.2.1.2.2.2.1.take k))]) (fun k s=>f.2.2.2.2.2.2.2.2.1.2.2.2.1.length - k) (0) ((a38,c38)) zG zq zq rfl fun k s hx ih=>?_;have hm1:=meltRefl (g:=g);refine zz 5 ?_;refine S.cd rfl (fun h43=>?_) fun h43=>?_
   ·have hk:k<f.2.2.2.2.2.2.2.2.1.2.2.2.1.length:=by omega
    have hset:=hN.2.2 _ (List.getElem_mem hk);have hlf:=q1.1.1 _ (List.getElem_mem hk);have hsn:=rowsB_snoc_q (b:=leafB) hk;have hrk:(rowsB leafB (f.2.2.2.2.2.2.2.2.1.2.2.2.1.take k)).length≤14080096*(f.2.2.2.2.2.2.2.2.1.2.2.2.1.take k).length:=rowsB_le leafB 14080096 _ fun z hz=>by
     have hz' :=List.mem_of_mem_take hz;have h1:=(q1.1.1 z hz').1.2;have h2:=sB_le (q1.1.1 z hz').2.1.1;have h3:=hN.2.2 z hz';simp only [leafB,zla,bytesOf_length];omega
    have htk:(f.2.2.2.2.2.2.2.2.1.2.2.2.1.take k).length=k:=by rw [zlt];omega
    have hN1:=hN.2.1;refine zz 5 ?_;refine O.iz (p16) (h:=fun p44 cs44 hp44 hr44=>?_);obtain ⟨l1,m1,rfl,l2,l3⟩:=LeafRp.sh hr44;have l3:=l3;refine O.op (.p rfl) (.loadAgg isAgg120 zB rfl hp44) ?_;refine O.opE (.p rfl) (.alloc (cs:=[.string ⟨#[]⟩,.slice none 0 0]) zeroValue120 rfl) ?_;rintro _ _ ⟨b6,rfl,rfl⟩;refine zz 2 ?_;generalize f.2.2.2.2.2.2.2.2.1.2.2.2.1[k]=z at *;have hz1:=hlf.1.2;obtain ⟨_,hz3,hz4⟩:=setPY hlf.2.1;have hz2:=sB_le hlf.2.1.1;refine S.objIs (b:=b6) (cs' :=[.string (str z.1),.slice l1 z.2.1.length m1]) zC rfl ?_;refine S.frzO zC fun g hs hm h6=>?_;replace hg:=zfs hg hs;replace hR:=melted hR hm
    try replace hH:=hH.mono hs
    try replace hK:=hK.mono hs
    try replace h:=h.mono hs
    try replace hf:=hf.mono hs
    try replace p8:=p8.mono hs
    try replace p9:=p9.mono hs
    try replace p10:=p10.mono hs
    try replace p11:=p11.mono hs
    try replace p12:=p12.mono hs
    try replace p14:=p14.mono hs
    try replace p15:=p15.mono hs
    try replace p16:=p16.mono hs
    try replace p17:=p17.mono hs
    try replace p21:=p21.mono hs
    try replace p22:=p22.mono hs
    try replace p26:=p26.mono hs
    try replace p27:=p27.mono hs
    try replace hrn:=hrn.mono hs
    try replace h3:=h3.mono hs
    try replace hsum:=hsum.mono hs
    try replace y1:=y1.mono hs
    try replace z0:=z0.mono hs
    try replace z1:=z1.mono hs
    try replace z2:=z2.mono hs
    try replace z3:=z3.mono hs
    try replace z4:=z4.mono hs
    try replace hp44:=hp44.mono hs
    try replace l3:=l3.mono hs
    replace hm1:=meltTrans hm1 hm;clear hs hm;generalize hO:H++rowsB leafB (f.2.2.2.2.2.2.2.2.1.2.2.2.1.take k)=Oz at hsn ⊢;have hOl:Oz.length≤110000000000000:=by rw [← hO,zla];rw [htk] at hrk;omega
    refine S.regionD (L:=[0,1,2,4,5,3,6,7,8,9,10,11,12]) F.mixed zB ?_;refine zz 5 ?_;refine OD.call0 (.p rfl) zB rfl zB rfl rfl ((ftext_c zD)) ?_;rintro _ _ ⟨a49,c49,rfl,rfl⟩;refine OD.call0 (.p rfl) zB rfl zB rfl rfl ((sPut_c l3 zD)) ?_;rintro _ _ ⟨a52,c52,rfl,rfl⟩;rw [hz3,hz4];refine OD.q 2 rfl<|OD.callPS (.p rfl) zB rfl zB rfl rfl zC (ftoldS_c zD) (fun ch η' w hX hW=>by (exact absurd rfl hX.1)) ?_;rintro _ _ ⟨hb55,a55,c55,rfl,rfl⟩;refine OD.litP (.p rfl) zB (T:=Rp.val) (ys:=[.slice s.1 Oz.length s.2,.slice a49 (bytesOf z.1).length c49,.slice a55 (bytesOf (sB z.2.1)).length c55]) underlying28 elem22 zE rfl rfl ⟨⟨rfl,rfl⟩,⟨rfl,rfl⟩,⟨rfl,rfl⟩,trivial⟩ zE (fun a56 c56=>?_);refine OD.callB (.p rfl) zB rfl zB rfl rfl (bs:=[OwnP Rp.val 22 (.slice a56 3 c56) [.slice s.1 Oz.length s.2,.slice a49 (bytesOf z.1).length c49,.slice a55 (bytesOf (sB z.2.1)).length c55],OwnP Rp.u8 5 (.slice s.1 Oz.length s.2) Oz,OwnP Rp.u8 5 (.slice a49 (bytesOf z.1).length c49) (bytesOf z.1),OwnP Rp.u8 5 (.slice a55 (bytesOf (sB z.2.1)).length c55) (bytesOf (sB z.2.1))]) zI (fun m hm hd=>wJoin_c (xss:=[Oz,bytesOf z.1,bytesOf (sB z.2.1)]) ((hm.arr.right hd).rows ⟨hm.tail.arr.right hd,hm.tail.tail.arr.right hd,hm.tail.tail.tail.arr.right hd,trivial⟩) (by simp only [zfc,List.flatten_nil,List.append_nil,zla,bytesOf_length];omega)) ?_;rintro _ _ ⟨a57,c57,rfl,rfl⟩;refine zz 3 ?_
    have e2:[Oz,bytesOf z.1,bytesOf (sB z.2.1)].flatten=H++rowsB leafB (f.2.2.2.2.2.2.2.2.1.2.2.2.1.take (k+1)):=by rw [← hsn,← zaa,hO];simp [leafB]
    refine S.ownIs (T:=Rp.u8) (e:=5) (v' :=.slice a57 (H++rowsB leafB (f.2.2.2.2.2.2.2.2.1.2.2.2.1.take (k+1))).length c57) (xs' :=H++rowsB leafB (f.2.2.2.2.2.2.2.2.1.2.2.2.1.take (k+1))) zC (by rw [e2]) e2 ?_;refine S.slot 4 (v' :=.slice a57 (H++rowsB leafB (f.2.2.2.2.2.2.2.2.1.2.2.2.1.take (k+1))).length c57) rfl (by rw [e2]) ?_;refine S.frz (A:=OwnP Rp.val 22 (.slice a56 3 c56) [.slice s.1 Oz.length s.2,.slice a49 (bytesOf z.1).length c49,.slice a55 (bytesOf (sB z.2.1)).length c55]) zC fun g hs hm ⟨_,x',s'⟩=>?_;have g1:=(fun s x=>Arr.mono s (OwnP.arr x)) s' x';clear x' s';replace hg:=zfs hg hs;replace hR:=melted hR hm
    try replace hH:=hH.mono hs
    try replace hK:=hK.mono hs
    try replace h:=h.mono hs
    try replace hf:=hf.mono hs
    try replace p8:=p8.mono hs
    try replace p9:=p9.mono hs
    try replace p10:=p10.mono hs
    try replace p11:=p11.mono hs
    try replace p12:=p12.mono hs
    try replace p14:=p14.mono hs
    try replace p15:=p15.mono hs
    try replace p16:=p16.mono hs
    try replace p17:=p17.mono hs
    try replace p21:=p21.mono hs
    try replace p22:=p22.mono hs
    try replace p26:=p26.mono hs
    try replace p27:=p27.mono hs
    try replace hrn:=hrn.mono hs
    try replace h3:=h3.mono hs
    try replace hsum:=hsum.mono hs
    try replace y1:=y1.mono hs
    try replace z0:=z0.mono hs
    try replace z1:=z1.mono hs
    try replace z2:=z2.mono hs
    try replace z3:=z3.mono hs
    try replace z4:=z4.mono hs
    try replace hp44:=hp44.mono hs
    try replace l3:=l3.mono hs
    try replace h6:=h6.mono hs
    replace hm1:=meltTrans hm1 hm;clear hs hm;refine S.frz (A:=OwnP Rp.u8 5 (.slice s.1 Oz.length s.2) Oz) zC fun g hs hm ⟨_,x',s'⟩=>?_;have g2:=(fun s x=>Arr.mono s (OwnP.arr x)) s' x';clear x' s';replace hg:=zfs hg hs;replace hR:=melted hR hm
    try replace hH:=hH.mono hs
    try replace hK:=hK.mono hs
    try replace h:=h.mono hs
    try replace hf:=hf.mono hs
    try replace p8:=p8.mono hs
    try replace p9:=p9.mono hs
    try replace p10:=p10.mono hs
    try replace p11:=p11.mono hs
    try replace p12:=p12.mono hs
    try replace p14:=p14.mono hs
    try replace p15:=p15.mono hs
    try replace p16:=p16.mono hs
    try replace p17:=p17.mono hs
    try replace p21:=p21.mono hs
    try replace p22:=p22.mono hs
    try replace p26:=p26.mono hs
    try replace p27:=p27.mono hs
    try replace hrn:=hrn.mono hs
    try replace h3:=h3.mono hs
    try replace hsum:=hsum.mono hs
    try replace y1:=y1.mono hs
    try replace z0:=z0.mono hs
    try replace z1:=z1.mono hs
    try replace z2:=z2.mono hs
    try replace z3:=z3.mono hs
    try replace z4:=z4.mono hs
    try replace hp44:=hp44.mono hs
    try replace l3:=l3.mono hs
    try replace h6:=h6.mono hs
    try replace g1:=g1.mono hs
    replace hm1:=meltTrans hm1 hm;clear hs hm;refine S.frz (A:=OwnP Rp.u8 5 (.slice a49 (bytesOf z.1).length c49) (bytesOf z.1)) zC fun g hs hm ⟨_,x',s'⟩=>?_;have g3:=(fun s x=>Arr.mono s (OwnP.arr x)) s' x';clear x' s';replace hg:=zfs hg hs;replace hR:=melted hR hm
    try replace hH:=hH.mono hs
    try replace hK:=hK.mono hs
    try replace h:=h.mono hs
    try replace hf:=hf.mono hs
    try replace p8:=p8.mono hs
    try replace p9:=p9.mono hs
    try replace p10:=p10.mono hs
    try replace p11:=p11.mono hs
    try replace p12:=p12.mono hs
    try replace p14:=p14.mono hs
    try replace p15:=p15.mono hs
    try replace p16:=p16.mono hs
    try replace p17:=p17.mono hs
    try replace p21:=p21.mono hs
    try replace p22:=p22.mono hs
    try replace p26:=p26.mono hs
    try replace p27:=p27.mono hs
    try replace hrn:=hrn.mono hs
    try replace h3:=h3.mono hs
    try replace hsum:=hsum.mono hs
    try replace y1:=y1.mono hs
    try replace z0:=z0.mono hs
    try replace z1:=z1.mono hs
    try replace z2:=z2.mono hs
    try replace z3:=z3.mono hs
    try replace z4:=z4.mono hs
    try replace hp44:=hp44.mono hs
    try replace l3:=l3.mono hs
    try replace h6:=h6.mono hs
    try replace g1:=g1.mono hs
    try replace g2:=g2.mono hs
    replace hm1:=meltTrans hm1 hm;clear hs hm;refine S.frz (A:=OwnP Rp.u8 5 (.slice a55 (bytesOf (sB z.2.1)).length c55) (bytesOf (sB z.2.1))) zC fun g hs hm ⟨_,x',s'⟩=>?_;have g4:=(fun s x=>Arr.mono s (OwnP.arr x)) s' x';clear x' s';replace hg:=zfs hg hs;replace hR:=melted hR hm
    try replace hH:=hH.mono hs
    try replace hK:=hK.mono hs
    try replace h:=h.mono hs
    try replace hf:=hf.mono hs
    try replace p8:=p8.mono hs
    try replace p9:=p9.mono hs
    try replace p10:=p10.mono hs
    try replace p11:=p11.mono hs
    try replace p12:=p12.mono hs
    try replace p14:=p14.mono hs
    try replace p15:=p15.mono hs
    try replace p16:=p16.mono hs
    try replace p17:=p17.mono hs
    try replace p21:=p21.mono hs
    try replace p22:=p22.mono hs
    try replace p26:=p26.mono hs
    try replace p27:=p27.mono hs
    try replace hrn:=hrn.mono hs
    try replace h3:=h3.mono hs
    try replace hsum:=hsum.mono hs
    try replace y1:=y1.mono hs
    try replace z0:=z0.mono hs
    try replace z1:=z1.mono hs
    try replace z2:=z2.mono hs
    try replace z3:=z3.mono hs
    try replace z4:=z4.mono hs
    try replace hp44:=hp44.mono hs
    try replace l3:=l3.mono hs
    try replace h6:=h6.mono hs
    try replace g1:=g1.mono hs
    try replace g2:=g2.mono hs
    try replace g3:=g3.mono hs
    replace hm1:=meltTrans hm1 hm;clear hs hm;refine S.frz (A:=OwnP Rp.u8 5 (.slice a52 (sB z.2.1).length c52) (sB z.2.1)) zC fun g hs hm ⟨_,x',s'⟩=>?_;have g5:=(fun s x=>Arr.mono s (OwnP.arr x)) s' x';clear x' s';replace hg:=zfs hg hs;replace hR:=melted hR hm
    try replace hH:=hH.mono hs
    try replace hK:=hK.mono hs
    try replace h:=h.mono hs
    try replace hf:=hf.mono hs
    try replace p8:=p8.mono hs
    try replace p9:=p9.mono hs
    try replace p10:=p10.mono hs
    try replace p11:=p11.mono hs
    try replace p12:=p12.mono hs
    try replace p14:=p14.mono hs
    try replace p15:=p15.mono hs
    try replace p16:=p16.mono hs
    try replace p17:=p17.mono hs
    try replace p21:=p21.mono hs
    try replace p22:=p22.mono hs
    try replace p26:=p26.mono hs
    try replace p27:=p27.mono hs
    try replace hrn:=hrn.mono hs
    try replace h3:=h3.mono hs
    try replace hsum:=hsum.mono hs
    try replace y1:=y1.mono hs
    try replace z0:=z0.mono hs
    try replace z1:=z1.mono hs
    try replace z2:=z2.mono hs
    try replace z3:=z3.mono hs
    try replace z4:=z4.mono hs
    try replace hp44:=hp44.mono hs
    try replace l3:=l3.mono hs
    try replace h6:=h6.mono hs
    try replace g1:=g1.mono hs
    try replace g2:=g2.mono hs
    try replace g3:=g3.mono hs
    try replace g4:=g4.mono hs
    replace hm1:=meltTrans hm1 hm;clear hs hm;refine zz 4 ?_;exact S.melt hm1 (S.pw (ih (k+1) ((a57,c57)) zD zD))
   ·clear ih
    have hk:k=f.2.2.2.2.2.2.2.2.1.2.2.2.1.length:=by omega
    subst hk;rw [List.take_length];have e3:H++rowsB leafB f.2.2.2.2.2.2.2.2.1.2.2.2.1=bytesOf f.2.2.2.2.1++nodeB f.2.2.2.2.2.2.2.2.1:=by rw [← e1];simp [nodeB]
    rw [e3];refine zz 6 ?_;exact S.rt results153 rfl hR ⟨⟨q2,q1⟩,s.1,s.2,rfl,rfl⟩
  ·have hn:¬ (pathOk f.2.2.2.2.1∧nodeOk f.2.2.2.2.2.2.2.2.1):=fun w=>q2 w.1
   refine S.regionD (L:=[0,1,2,3,4,6,7,8,10,11,13,14,16,17,18,5,9,12,15,19,20,21,22]) F.mixed zB ?_;refine zz 7 ?_;refine .quiet (.p rfl) rfl (fun _=>.cvt underlying32 underlying3 rfl) ?_;refine zz 7 ?_;refine OD.callP0 (.p rfl) zB rfl zB rfl rfl ((fpath_c p4)) (fun ch η' w hX hW=>by (obtain ⟨hb,rfl,rfl⟩:=hX;exact hR _ _ w ⟨hn,rfl,rfl⟩ hW.drop_all)) ?_;rintro _ _ ⟨hb22,a22,c22,rfl,rfl⟩;exact absurd hb22 q2
 ·have hn:¬ (pathOk f.2.2.2.2.1∧nodeOk f.2.2.2.2.2.2.2.2.1):=fun w=>q1 w.2
  have hs:=nodeSumN q1;refine S.region rfl<|O.op (.p rfl) (.loadAgg isAgg35 zB rfl h3) ?_;refine O.call0 (.p rfl) rfl zB rfl rfl ((nodeSum_c hrn hN.1 ⟨by have:=hN.2.1;omega,fun y hy=>by have:=hN.2.2 y hy;omega⟩ hH hK)) ?_;rintro _ _ ⟨a13,c13,rfl,rfl⟩;rw [hs];refine zz 2 ?_;refine O.sF 15 rfl zN ?_;refine O.callP0 (.p rfl) rfl zB rfl rfl (fright_c _) (fun ch η' w hX hW=>by (obtain ⟨hb,rfl,rfl⟩:=hX;exact hR _ _ w ⟨hn,rfl,rfl⟩ hW.drop_all)) ?_;rintro _ _ ⟨hbr,rfl,rfl⟩;exact absurd hbr zG
theorem putGot_c {r:Fr} {b:Nat} {cs:List Value} {y:Value} {f:FrmT} (hf:FrmRp.rel r cs f) (h:At r ⟨b,0,none⟩ (cs++[y])) (hl:FrmOk big f) (hE:f.2.2.2.2.2.2.2.1.2.1.length≤1000000000) (hS:f.2.2.2.2.2.2.2.2.2.1.length≤20000):Con prog 165 #[.pointer (some ⟨b,0,none⟩)] r []
  (RetP (fun v η=>(keyOk f.2.2.2.1∧rootOk f.2.2.2.2.2.1=true∧prfOk f.2.2.2.2.2.2.2.1∧SRight f.2.2.2.2.2.2.2.2.2.1∧∀ h:0<f.2.2.2.2.2.2.2.2.2.1.length,f.2.2.2.2.2.2.2.2.2.1[0].1=f.2.2.2.1)∧∃ a c,v=.slice a (bytesOf f.2.2.2.1++(bytesOf (rootB f.2.2.2.2.2.1)++(prfB f.2.2.2.2.2.2.2.1++bytesOf (sB f.2.2.2.2.2.2.2.2.2.1)))).length c∧η=[OwnP Rp.u8 5 (.slice a (bytesOf f.2.2.2.1++(bytesOf (rootB f.2.2.2.2.2.1)++(prfB f.2.2.2.2.2.2.2.1++bytesOf (sB f.2.2.2.2.2.2.2.2.2.1)))).length c) (bytesOf f.2.2.2.1++(bytesOf (rootB f.2.2.2.2.2.1)++(prfB f.2.2.2.2.2.2.2.1++bytesOf (sB f.2.2.2.2.2.2.2.2.2.1))))]) (fun ch η=>¬ (keyOk f.2.2.2.1∧rootOk f.2.2.2.2.2.1=true∧prfOk f.2.2.2.2.2.2.2.1∧SRight f.2.2.2.2.2.2.2.2.2.1∧∀ h:0<f.2.2.2.2.2.2.2.2.2.1.length,f.2.2.2.2.2.2.2.2.2.1[0].1=f.2.2.2.1)∧ch=errP 39 4∧η=[])):=by
 obtain ⟨b1,b2,b3,b4,b5,b6,b7,b8,b9,b10,b11,b12,b13,b14,b15⟩:=hl;obtain ⟨a8,a9,a10,a11,a12,a14,a15,a16,a17,a21,a22,a26,a27,c8,c9,c10,c11,c12,c14,c15,c16,c17,c21,c22,c26,c27,rfl,p1,p2,p3,p4,p5,p6,p7,p8,p9,p10,p11,p12,p14,p15,p16,p17,p18,p19,p20,p21,p22,p23,p24,p25,p26,p27,p28⟩:=FrmRp.sh hf;refine Con.o func165 fun g hg R hR=>?_;have h:=h.mono hg;have hf:=hf.mono hg;have p8:=p8.mono hg;have p9:=p9.mono hg;have p10:=p10.mono hg;have p11:=p11.mono hg;have p12:=p12.mono hg;have p14:=p14.mono hg;have p15:=p15.mono hg;have p16:=p16.mono hg;have p17:=p17.mono hg;have p21:=p21.mono hg;have p22:=p22.mono hg;have p26:=p26.mono hg;have p27:=p27.mono hg;have hrt:RootRp.rel g.h [.int .i64 f.2.2.2.2.2.1.1,.int .i64 f.2.2.2.2.2.1.2.1,.int .i64 f.2.2.2.2.2.1.2.2.1,.slice a8 f.2.2.2.2.2.1.2.2.2.1.length c8,.slice a9 f.2.2.2.2.2.1.2.2.2.2.1.length c9] f.2.2.2.2.2.1:=RootRp.mk p5 p6 p7 p8 p9;have hrp:PrfRp.rel g.h [.slice a11 f.2.2.2.2.2.2.2.1.1.length c11,.slice a12 f.2.2.2.2.2.2.2.1.2.1.length c12] f.2.2.2.2.2.2.2.1:=PrfRp.mk p11 p12;refine zz 5 ?_;refine S.cut1 (fun (u:Unit)=>prfOk f.2.2.2.2.2.2.2.1∧∀ h:0<f.2.2.2.2.2.2.2.2.2.1.length,f.2.2.2.2.2.2.2.2.2.1[0].1=f.2.2.2.1) (fun (u:Unit)=>[]) [(0,_)] (fun (u:Unit)=>[]) zq (fun key=>?_) (fun u hx=>?_)
 ·have hm1:=meltRefl (g:=g)
  by_cases q1:prfOk f.2.2.2.2.2.2.2.1
  ·by_cases q2:0<f.2.2.2.2.2.2.2.2.2.1.length
   ·by_cases q3:f.2.2.2.2.2.2.2.2.2.1[0].1=f.2.2.2.1
    ·
     refine S.regionD (L:=.range 32) F.mixed zB ?_;refine zz 4 ?_;refine .quiet (.p rfl) rfl (fun _=>.loadAgg (cs:=[_,_]) isAgg31 zB rfl ((h.drop 11).take 2)) ?_;refine OD.v0 (.p rfl) zB rfl zB rfl rfl ((pRight_c hrp)) ?_;refine OD.sT 13 rfl (by exact zdt q1)<|zz 8 ?_;refine OD.sF 21 rfl (by exact zdf zD)<|zz 6 ?_;refine OD.iz (p17) (h:=fun p28 cs28 hp28 hr28=>?_);obtain ⟨xa3,xa5,xa6,xc3,xc5,xc6,rfl,k0,k1,k2,k3,k5,k6⟩:=RecRp.sh hr28;refine zz 7 ?_;refine .quiet (.g rfl rfl) rfl (fun _=>.eqlS rfl rfl)<|OD.sT 36 rfl (by exact zdt (congrArg (fun l=>(str l).toList) q3)) ?_;refine OD.q 2 rfl<|OD.callP0 (.p rfl) zB rfl zB rfl rfl (fright_c _) (fun ch η' w hX hW=>by (exact absurd hX.1 zG)) ?_;rintro _ _ ⟨hbr,rfl,rfl⟩;refine ODx.nil<|S.pk ?_ (S.weaken ?_ (key (()) (by exact ⟨q1,fun _=>q3⟩)))
     ·exact zM
     repeat (first|exact Sub.nil|refine Sub.cons rfl ?_)
    ·have hn:¬ (keyOk f.2.2.2.1∧rootOk f.2.2.2.2.2.1=true∧prfOk f.2.2.2.2.2.2.2.1∧SRight f.2.2.2.2.2.2.2.2.2.1∧∀ h:0<f.2.2.2.2.2.2.2.2.2.1.length,f.2.2.2.2.2.2.2.2.2.1[0].1=f.2.2.2.1):=fun w=>q3 (w.2.2.2.2 q2)
     refine S.regionD (L:=.range 32) F.mixed zB ?_;refine zz 4 ?_;refine .quiet (.p rfl) rfl (fun _=>.loadAgg (cs:=[_,_]) isAgg31 zB rfl ((h.drop 11).take 2)) ?_;refine OD.v0 (.p rfl) zB rfl zB rfl rfl ((pRight_c hrp)) ?_;refine OD.sT 13 rfl (by exact zdt q1)<|zz 8 ?_;refine OD.sF 21 rfl (by exact zdf zD)<|zz 6 ?_;refine OD.iz (p17) (h:=fun p28 cs28 hp28 hr28=>?_);obtain ⟨xa3,xa5,xa6,xc3,xc5,xc6,rfl,k0,k1,k2,k3,k5,k6⟩:=RecRp.sh hr28;refine zz 7 ?_;refine .quiet (.g rfl rfl) rfl (fun _=>.eqlS rfl rfl)<|OD.sF 36 rfl (by exact zdf (fun w=>q3 (str_eqL w))) ?_;refine OD.q 2 rfl<|OD.callP0 (.p rfl) zB rfl zB rfl rfl (fright_c _) (fun ch η' w hX hW=>by (obtain ⟨hb,rfl,rfl⟩:=hX;exact hR _ _ w ⟨hn,rfl,rfl⟩ hW.drop_all)) ?_;rintro _ _ ⟨hbr,rfl,rfl⟩;exact absurd hbr zG
   ·
    refine S.regionD (L:=.range 32) F.mixed zB ?_;refine zz 4 ?_;refine .quiet (.p rfl) rfl (fun _=>.loadAgg (cs:=[_,_]) isAgg31 zB rfl ((h.drop 11).take 2)) ?_;refine OD.v0 (.p rfl) zB rfl zB rfl rfl ((pRight_c hrp)) ?_;refine OD.sT 13 rfl (by exact zdt q1)<|zz 8 ?_;refine OD.sT 21 rfl (by exact zdt zD) ?_;refine OD.q 17 rfl<|OD.callP0 (.p rfl) zB rfl zB rfl rfl (fright_c _) (fun ch η' w hX hW=>by (exact absurd hX.1 zG)) ?_;rintro _ _ ⟨hbr,rfl,rfl⟩;refine ODx.nil<|S.pk ?_ (S.weaken ?_ (key (()) (by exact ⟨q1,fun w=>absurd w q2⟩)))
    ·exact zM
    repeat (first|exact Sub.nil|refine Sub.cons rfl ?_)
  ·have hn:¬ (keyOk f.2.2.2.1∧rootOk f.2.2.2.2.2.1=true∧prfOk f.2.2.2.2.2.2.2.1∧SRight f.2.2.2.2.2.2.2.2.2.1∧∀ h:0<f.2.2.2.2.2.2.2.2.2.1.length,f.2.2.2.2.2.2.2.2.2.1[0].1=f.2.2.2.1):=fun w=>q1 w.2.2.1
   refine S.regionD (L:=.range 32) F.mixed zB ?_;refine zz 4 ?_;refine .quiet (.p rfl) rfl (fun _=>.loadAgg (cs:=[_,_]) isAgg31 zB rfl ((h.drop 11).take 2)) ?_;refine OD.v0 (.p rfl) zB rfl zB rfl rfl ((pRight_c hrp)) ?_;refine OD.sF 13 rfl (by exact zdf q1) ?_;refine OD.q 25 rfl<|OD.callP0 (.p rfl) zB rfl zB rfl rfl (fright_c _) (fun ch η' w hX hW=>by (obtain ⟨hb,rfl,rfl⟩:=hX;exact hR _ _ w ⟨hn,rfl,rfl⟩ hW.drop_all)) ?_;rintro _ _ ⟨hbr,rfl,rfl⟩;exact absurd hbr zG
 ·obtain ⟨q1,q2⟩:=hx
  by_cases qk:keyOk f.2.2.2.1
  ·by_cases qr:rootOk f.2.2.2.2.2.1=true
   ·have hro:rootOut f.2.2.2.2.2.1=rootB f.2.2.2.2.2.1∧rootErr f.2.2.2.2.2.1=0:=⟨by unfold rootOut;rw [if_pos qr],by unfold rootErr;rw [if_pos qr]⟩
    have hrl:=rootB_length qr;have hkl:=qk.2;obtain ⟨⟨g1,_⟩,g2,g3,_⟩:=id q1;refine zz 1 ?_;refine S.regionD (L:=[0,1,2,3,4,6,7,8,9,10,15,16,17,18,19,20,21,5,11,12,13,14,22,23,24,25]) F.mixed zB ?_;refine zz 9 ?_;refine .quiet (.p rfl) rfl (fun _=>.loadAgg (cs:=[_,_,_,_,_]) isAgg27 zB rfl ((h.drop 5).take 5)) ?_;refine zz 7 ?_;refine OD.callP0 (.p rfl) zB rfl zB rfl rfl ((fkey_c zD)) (fun ch η' w hX hW=>by (exact absurd qk hX.1)) ?_;rintro _ _ ⟨hb45,a45,c45,rfl,rfl⟩;refine OD.call0 (.p rfl) zB rfl zB rfl rfl ((tPut_c hrt)) ?_;rintro _ _ ⟨a51,c51,rfl,rfl⟩;rw [hro.1,hro.2];refine OD.q 2 rfl<|OD.callPS (.p rfl) zB rfl zB rfl rfl zC (ftoldS_c zD) (fun ch η' w hX hW=>by (exact absurd rfl hX.1)) ?_;rintro _ _ ⟨hb54,a54,c54,rfl,rfl⟩;refine OD.call0 (.p rfl) zB rfl zB rfl rfl ((wNumber_c _)) ?_;rintro _ _ ⟨a62,c62,rfl,rfl⟩;refine OD.litP (.p rfl) zB (T:=Rp.val) (ys:=[.slice a45 (bytesOf f.2.2.2.1).length c45,.slice a54 (bytesOf (rootB f.2.2.2.2.2.1)).length c54,.slice a62 8 c62]) underlying28 elem22 zE rfl rfl ⟨⟨rfl,rfl⟩,⟨rfl,rfl⟩,⟨rfl,rfl⟩,trivial⟩ zE (fun a63 c63=>?_)
    refine OD.callB (.p rfl) zB rfl zB rfl rfl (bs:=[OwnP Rp.val 22 (.slice a63 3 c63) [.slice a45 (bytesOf f.2.2.2.1).length c45,.slice a54 (bytesOf (rootB f.2.2.2.2.2.1)).length c54,.slice a62 8 c62],OwnP Rp.u8 5 (.slice a45 (bytesOf f.2.2.2.1).length c45) (bytesOf f.2.2.2.1),OwnP Rp.u8 5 (.slice a54 (bytesOf (rootB f.2.2.2.2.2.1)).length c54) (bytesOf (rootB f.2.2.2.2.2.1)),OwnP Rp.u8 5 (.slice a62 8 c62) (be ↑(f.2.2.2.2.2.2.2.1.1.length))]) zI (fun m hm hd=>wJoin_c (xss:=[bytesOf f.2.2.2.1,bytesOf (rootB f.2.2.2.2.2.1),be ↑(f.2.2.2.2.2.2.2.1.1.length)]) ((hm.arr.right hd).rows ⟨hm.tail.arr.right hd,hm.tail.tail.arr.right hd,hm.tail.tail.tail.arr.right hd,trivial⟩) (by simp only [zfc,List.flatten_nil,List.append_nil,zla,bytesOf_length,be_length];omega)) ?_;rintro _ _ ⟨a64,c64,rfl,rfl⟩;refine OD.q 1 rfl<|ODx.nil (S.seq (S.seq ?_));have e1:[bytesOf f.2.2.2.1,bytesOf (rootB f.2.2.2.2.2.1),be ↑(f.2.2.2.2.2.2.2.1.1.length)].flatten=bytesOf f.2.2.2.1++(bytesOf (rootB f.2.2.2.2.2.1)++be ↑(f.2.2.2.2.2.2.2.1.1.length)):=by simp
    rw [e1];have hhl:(bytesOf f.2.2.2.1++(bytesOf (rootB f.2.2.2.2.2.1)++be ↑(f.2.2.2.2.2.2.2.1.1.length))).length≤100000000:=by simp only [zla,bytesOf_length,be_length];omega
    generalize hHH:bytesOf f.2.2.2.1++(bytesOf (rootB f.2.2.2.2.2.1)++be ↑(f.2.2.2.2.2.2.2.1.1.length))=H at e1 hhl ⊢;refine S.frz (A:=OwnP Rp.val 22 (.slice a63 3 c63) [.slice a45 (bytesOf f.2.2.2.1).length c45,.slice a54 (bytesOf (rootB f.2.2.2.2.2.1)).length c54,.slice a62 8 c62]) zC fun g hs hm ⟨_,x',s'⟩=>?_;have y1:=(fun s x=>Arr.mono s (OwnP.arr x)) s' x';clear x' s';replace hg:=zfs hg hs;replace hR:=melted hR hm
    try replace h:=h.mono hs
    try replace hf:=hf.mono hs
    try replace p8:=p8.mono hs
    try replace p9:=p9.mono hs
    try replace p10:=p10.mono hs
    try replace p11:=p11.mono hs
    try replace p12:=p12.mono hs
    try replace p14:=p14.mono hs
    try replace p15:=p15.mono hs
    try replace p16:=p16.mono hs
    try replace p17:=p17.mono hs
    try replace p21:=p21.mono hs
    try replace p22:=p22.mono hs
    try replace p26:=p26.mono hs
    try replace p27:=p27.mono hs
    try replace hrt:=hrt.mono hs
    try replace hrp:=hrp.mono hs
    clear hs hm;refine S.frz (A:=OwnP Rp.u8 5 (.slice a45 (bytesOf f.2.2.2.1).length c45) (bytesOf f.2.2.2.1)) zC fun g hs hm ⟨_,x',s'⟩=>?_;have z0:=(fun s x=>Arr.mono s (OwnP.arr x)) s' x';clear x' s';replace hg:=zfs hg hs;replace hR:=melted hR hm
    try replace h:=h.mono hs
    try replace hf:=hf.mono hs
    try replace p8:=p8.mono hs
    try replace p9:=p9.mono hs
    try replace p10:=p10.mono hs
    try replace p11:=p11.mono hs
    try replace p12:=p12.mono hs
    try replace p14:=p14.mono hs
    try replace p15:=p15.mono hs
    try replace p16:=p16.mono hs
    try replace p17:=p17.mono hs
    try replace p21:=p21.mono hs
    try replace p22:=p22.mono hs
    try replace p26:=p26.mono hs
    try replace p27:=p27.mono hs
    try replace hrt:=hrt.mono hs
    try replace hrp:=hrp.mono hs
    try replace y1:=y1.mono hs
    clear hs hm;refine S.frz (A:=OwnP Rp.u8 5 (.slice a54 (bytesOf (rootB f.2.2.2.2.2.1)).length c54) (bytesOf (rootB f.2.2.2.2.2.1))) zC fun g hs hm ⟨_,x',s'⟩=>?_;have z1:=(fun s x=>Arr.mono s (OwnP.arr x)) s' x';clear x' s';replace hg:=zfs hg hs;replace hR:=melted hR hm
    try replace h:=h.mono hs
    try replace hf:=hf.mono hs
    try replace p8:=p8.mono hs
    try replace p9:=p9.mono hs
    try replace p10:=p10.mono hs
    try replace p11:=p11.mono hs
    try replace p12:=p12.mono hs
    try replace p14:=p14.mono hs
    try replace p15:=p15.mono hs
    try replace p16:=p16.mono hs
    try replace p17:=p17.mono hs
    try replace p21:=p21.mono hs
    try replace p22:=p22.mono hs
    try replace p26:=p26.mono hs
    try replace p27:=p27.mono hs
    try replace hrt:=hrt.mono hs
    try replace hrp:=hrp.mono hs
    try replace y1:=y1.mono hs
    try replace z0:=z0.mono hs
    clear hs hm;refine S.frz (A:=OwnP Rp.u8 5 (.slice a62 8 c62) (be ↑(f.2.2.2.2.2.2.2.1.1.length))) zC fun g hs hm ⟨_,x',s'⟩=>?_;have z2:=(fun s x=>Arr.mono s (OwnP.arr x)) s' x';clear x' s';replace hg:=zfs hg hs;replace hR:=melted hR hm
    try replace h:=h.mono hs
    try replace hf:=hf.mono hs
    try replace p8:=p8.mono hs
    try replace p9:=p9.mono hs
    try replace p10:=p10.mono hs
    try replace p11:=p11.mono hs
    try replace p12:=p12.mono hs
    try replace p14:=p14.mono hs
    try replace p15:=p15.mono hs
    try replace p16:=p16.mono hs
    try replace p17:=p17.mono hs
    try replace p21:=p21.mono hs
    try replace p22:=p22.mono hs
    try replace p26:=p26.mono hs
    try replace p27:=p27.mono hs
    try replace hrt:=hrt.mono hs
    try replace hrp:=hrp.mono hs
    try replace y1:=y1.mono hs
    try replace z0:=z0.mono hs
    try replace z1:=z1.mono hs
    clear hs hm;refine S.frz (A:=OwnP Rp.u8 5 (.slice a51 (rootB f.2.2.2.2.2.1).length c51) (rootB f.2.2.2.2.2.1)) zC fun g hs hm ⟨_,x',s'⟩=>?_;have z9:=(fun s x=>Arr.mono s (OwnP.arr x)) s' x';clear x' s';replace hg:=zfs hg hs;replace hR:=melted hR hm
    try replace h:=h.mono hs
    try replace hf:=hf.mono hs
    try replace p8:=p8.mono hs
    try replace p9:=p9.mono hs
    try replace p10:=p10.mono hs
    try replace p11:=p11.mono hs
    try replace p12:=p12.mono hs
    try replace p14:=p14.mono hs
    try replace p15:=p15.mono hs
    try replace p16:=p16.mono hs
    try replace p17:=p17.mono hs
    try replace p21:=p21.mono hs
    try replace p22:=p22.mono hs
    try replace p26:=p26.mono hs
    try replace p27:=p27.mono hs
    try replace hrt:=hrt.mono hs
    try replace hrp:=hrp.mono hs
    try replace y1:=y1.mono hs
    try replace z0:=z0.mono hs
    try replace z1:=z1.mono hs
    try replace z2:=z2.mono hs
    clear hs hm;refine S.ownIs (T:=Rp.u8) (e:=5) (v' :=.slice a64 (H++rowsB bytesOf (f.2.2.2.2.2.2.2.1.1.take 0)).length c64) (xs' :=H++rowsB bytesOf (f.2.2.2.2.2.2.2.1.1.take 0)) zC (by simp [rowsB]) (by simp [rowsB]) ?_;refine S.slot 3 (v' :=.slice a64 (H++rowsB bytesOf (f.2.2.2.2.2.2.2.1.1.take 0)).length c64) rfl (by simp [rowsB]) ?_;refine zz 3 ?_;refine O.op (.p rfl) (.fieldAddr fld129x0 rfl)<|O.op (.p rfl) (.fieldAddr fld41x7 rfl)<|O.op (.p rfl) (.fieldAddr fld31x0 rfl) ?_;refine zz 5 ?_;refine S.loopK2 (ι:=Nat) (κ:=Option Addr × Nat) (fun k s=>k≤f.2.2.2.2.2.2.2.1.1.length) (fun k s=>[(72,.int .i64 (k:Int)),(3,.slice s.1 (H++rowsB bytesOf (f.2.2.2.2.2.2.2.1.1.take k)).length s.2)]) [(0,_),(70,_),(71,_)] (fun k s=>[OwnP Rp.u8 5 (.slice s.1 (H++rowsB bytesOf (f.2.2.2.2.2.2.2.1.1.take k)).length s.2) (H++rowsB bytesOf (f.2.2.2.2.2.2.2.1.1.take k))]) (fun k s=>f.2.2.2.2.2.2.2.1.1.length - k) (0) ((a64,c64)) zG zq zq rfl fun k s hx ih=>?_;have hm1:=meltRefl (g:=g);refine zz 5 ?_;refine S.cd rfl (fun h73=>?_) fun h73=>?_
    ·have hk:k<f.2.2.2.2.2.2.2.1.1.length:=by omega
     have hz:=g2 _ (List.getElem_mem hk);have hsn:=rowsB_snoc_q (b:=bytesOf) hk;have hrk:(rowsB bytesOf (f.2.2.2.2.2.2.2.1.1.take k)).length≤72*(f.2.2.2.2.2.2.2.1.1.take k).length:=rowsB_le bytesOf 72 _ fun z hz=>by
      have:=g2 z (List.mem_of_mem_take hz);simp only [bytesOf_length];omega
     have htk:(f.2.2.2.2.2.2.2.1.1.take k).length=k:=by rw [zlt];omega
     have hol:(H++rowsB bytesOf (f.2.2.2.2.2.2.2.1.1.take k)).length≤200000000:=by rw [zla];omega
     refine zz 5 ?_;refine O.iz (p11) (h:=fun p74 cs74 hp74 hr74=>?_);obtain ⟨v74,rfl,ha74⟩:=hr74;obtain ⟨a74,c74,rfl⟩:=ha74.shape;refine zz 6 ?_;have ha74:=ha74;refine O.call0 (.p rfl) rfl zB rfl rfl ((wBytes_c ha74 zD)) ?_;rintro _ _ ⟨a78,c78,rfl,rfl⟩;refine O.opE (.p rfl) (.appendO (T:=Rp.u8) underlying22 elem5 zE rfl rfl zC zC zH zH) ?_;rintro _ _ ⟨a79,c79,rfl,rfl⟩;refine zz 3 ?_;refine S.ownIs (T:=Rp.u8) (e:=5) (v' :=.slice a79 (H++rowsB bytesOf (f.2.2.2.2.2.2.2.1.1.take (k+1))).length c79) (xs' :=H++rowsB bytesOf (f.2.2.2.2.2.2.2.1.1.take (k+1))) zC (by rw [← hsn];simp only [zla,Nat.add_assoc]) (by rw [← hsn,zaa]) ?_;refine S.slot 3 (v' :=.slice a79 (H++rowsB bytesOf (f.2.2.2.2.2.2.2.1.1.take (k+1))).length c79) rfl (by rw [← hsn];simp only [zla,Nat.add_assoc]) ?_;refine zz 4 ?_;exact S.pw (ih (k+1) ((a79,c79)) zD zD)
    ·clear ih
     have hk:k=f.2.2.2.2.2.2.2.1.1.length:=by omega
     subst hk;rw [List.take_length];have hrk:(rowsB bytesOf f.2.2.2.2.2.2.2.1.1).length≤72*f.2.2.2.2.2.2.2.1.1.length:=rowsB_le bytesOf 72 _ fun z hz=>by
      have:=g2 z hz;simp only [bytesOf_length];omega
     have hol:(H++rowsB bytesOf f.2.2.2.2.2.2.2.1.1).length≤200000000:=by rw [zla];omega
     generalize hX1:H++rowsB bytesOf f.2.2.2.2.2.2.2.1.1=X1 at hol ⊢;refine zz 6 ?_;refine O.op (.p rfl) (.fieldAddr fld129x0 rfl)<|O.op (.p rfl) (.fieldAddr fld41x7 rfl)<|O.op (.p rfl) (.fieldAddr fld31x1 rfl) ?_;refine zz 2 ?_;refine O.call0 (.p rfl) rfl zB rfl rfl ((wNumber_c _)) ?_;rintro _ _ ⟨a89,c89,rfl,rfl⟩;refine O.opE (.p rfl) (.appendO (T:=Rp.u8) underlying22 elem5 zE rfl rfl zC zC zH zH) ?_;rintro _ _ ⟨a90,c90,rfl,rfl⟩;refine O.q 1 rfl<|O.nil (S.seq (S.seq ?_));have hX2l:(X1++be ↑(f.2.2.2.2.2.2.2.1.2.1.length)).length=X1.length+8:=by rw [zla,be_length]
     refine S.ownIs (T:=Rp.u8) (e:=5) (v' :=.slice a90 ((X1++be ↑(f.2.2.2.2.2.2.2.1.2.1.length))++rowsB stubB (f.2.2.2.2.2.2.2.1.2.1.take 0)).length c90) (xs' :=(X1++be ↑(f.2.2.2.2.2.2.2.1.2.1.length))++rowsB stubB (f.2.2.2.2.2.2.2.1.2.1.take 0)) zC (by simp [rowsB]) (by simp [rowsB]) ?_;refine S.slot 3 (v' :=.slice a90 ((X1++be ↑(f.2.2.2.2.2.2.2.1.2.1.length))++rowsB stubB (f.2.2.2.2.2.2.2.1.2.1.take 0)).length c90) rfl (by simp [rowsB]) ?_;generalize hX2:X1++be ↑(f.2.2.2.2.2.2.2.1.2.1.length)=X2 at hX2l ⊢;refine zz 3 ?_;refine O.op (.p rfl) (.fieldAddr fld129x0 rfl)<|O.op (.p rfl) (.fieldAddr fld41x7 rfl)<|O.op (.p rfl) (.fieldAddr fld31x1 rfl)<|zz 5 ?_;refine S.loopK2 (ι:=Nat) (κ:=Option Addr × Nat) (fun k s=>k≤f.2.2.2.2.2.2.2.1.2.1.length) (fun k s=>[(98,.int .i64 (k:Int)),(3,.slice s.1 (X2++rowsB stubB (f.2.2.2.2.2.2.2.1.2.1.take k)).length s.2)]) [(0,_),(96,_),(97,_)] (fun k s=>[OwnP Rp.u8 5 (.slice s.1 (X2++rowsB stubB (f.2.2.2.2.2.2.2.1.2.1.take k)).length s.2) (X2++rowsB stubB (f.2.2.2.2.2.2.2.1.2.1.take k))]) (fun k s=>f.2.2.2.2.2.2.2.1.2.1.length - k) (0) ((a90,c90)) zG zq zq rfl fun k s hx ih=>?_;have hm2:=meltRefl (g:=g);refine zz 5 ?_;refine S.cd rfl (fun h99=>?_) fun h99=>?_
     ·have hk:k<f.2.2.2.2.2.2.2.1.2.1.length:=by omega
      have hz:=g3 _ (List.getElem_mem hk);have hz1:=hz.1.2;have hz2:=hz.2;have hsn:=rowsB_snoc_q (b:=stubB) hk;have hrk:(rowsB stubB (f.2.2.2.2.2.2.2.1.2.1.take k)).length≤144*(f.2.2.2.2.2.2.2.1.2.1.take k).length:=rowsB_le stubB 144 _ fun z hz=>by
       have h1:=(g3 z (List.mem_of_mem_take hz)).1.2;have h2:=(g3 z (List.mem_of_mem_take hz)).2;simp only [stubB,zla,bytesOf_length];omega
      have htk:(f.2.2.2.2.2.2.2.1.2.1.take k).length=k:=by rw [zlt];omega
      have hol2:(X2++rowsB stubB (f.2.2.2.2.2.2.2.1.2.1.take k)).length≤200000000000:=by rw [zla];omega
      refine zz 5 ?_;refine O.iz (p12) (h:=fun p100 cs100 hp100 hr100=>?_);obtain ⟨l1,m1,rfl,l2,l3⟩:=StubRp.sh hr100;have l3:=l3;refine O.op (.p rfl) (.loadAgg isAgg122 zB rfl hp100) ?_;refine O.opE (.p rfl) (.alloc (cs:=[.string ⟨#[]⟩,.slice none 0 0]) zeroValue122 rfl) ?_;rintro _ _ ⟨b7,rfl,rfl⟩;refine zz 2 ?_;generalize f.2.2.2.2.2.2.2.1.2.1[k]=z at *;refine S.objIs (b:=b7) (cs' :=[.string (str z.1),.slice l1 z.2.1.length m1]) zC rfl ?_;refine S.frzO zC fun g hs hm h7=>?_;replace hg:=zfs hg hs;replace hR:=melted hR hm
      try replace h:=h.mono hs
      try replace hf:=hf.mono hs
      try replace p8:=p8.mono hs
      try replace p9:=p9.mono hs
      try replace p10:=p10.mono hs
      try replace p11:=p11.mono hs
      try replace p12:=p12.mono hs
      try replace p14:=p14.mono hs
      try replace p15:=p15.mono hs
      try replace p16:=p16.mono hs
      try replace p17:=p17.mono hs
      try replace p21:=p21.mono hs
      try replace p22:=p22.mono hs
      try replace p26:=p26.mono hs
      try replace p27:=p27.mono hs
      try replace hrt:=hrt.mono hs
      try replace hrp:=hrp.mono hs
      try replace y1:=y1.mono hs
      try replace z0:=z0.mono hs
      try replace z1:=z1.mono hs
      try replace z2:=z2.mono hs
      try replace z9:=z9.mono hs
      try replace hp100:=hp100.mono hs
      try replace l3:=l3.mono hs
      replace hm1:=meltTrans hm1 hm;replace hm2:=meltTrans hm2 hm;clear hs hm;generalize hO:X2++rowsB stubB (f.2.2.2.2.2.2.2.1.2.1.take k)=Oz at hsn hol2 ⊢;refine S.regionD (L:=[0,1,2,5,6,3,4,7,8,9]) F.mixed zB ?_;refine zz 5 ?_;refine OD.call0 (.p rfl) zB rfl zB rfl rfl ((ftext_c zD)) ?_;rintro _ _ ⟨a105,c105,rfl,rfl⟩;refine OD.appendO (T:=Rp.u8) (.p rfl) zB underlying22 elem5 zE rfl rfl zC zC zH zH (fun a106 c106=>?_);refine OD.call0 (.p rfl) zB rfl zB rfl rfl ((wBytes_c l3 zD)) ?_;rintro _ _ ⟨a109,c109,rfl,rfl⟩;refine OD.appendO (T:=Rp.u8) (.p rfl) zB underlying22 elem5 zE rfl rfl zC zC zH zH (fun a110 c110=>?_);refine zz 3 ?_;have e3:Oz++bytesOf z.1++bytesOf z.2.1=X2++rowsB stubB (f.2.2.2.2.2.2.2.1.2.1.take (k+1)):=by rw [← hsn,← zaa,hO];simp [stubB]
      refine S.ownIs (T:=Rp.u8) (e:=5) (v' :=.slice a110 (X2++rowsB stubB (f.2.2.2.2.2.2.2.1.2.1.take (k+1))).length c110) (xs' :=X2++rowsB stubB (f.2.2.2.2.2.2.2.1.2.1.take (k+1))) zC (by rw [← e3];simp only [zla]) e3 ?_;refine S.slot 3 (v' :=.slice a110 (X2++rowsB stubB (f.2.2.2.2.2.2.2.1.2.1.take (k+1))).length c110) rfl (by rw [← e3];simp only [zla]) ?_;refine zz 4 ?_;exact S.melt hm2 (S.pw (ih (k+1) ((a110,c110)) zD zD))
     ·clear ih
      have hk:k=f.2.2.2.2.2.2.2.1.2.1.length:=by omega
      subst hk;rw [List.take_length];have hrk:(rowsB stubB f.2.2.2.2.2.2.2.1.2.1).length≤144*f.2.2.2.2.2.2.2.1.2.1.length:=rowsB_le stubB 144 _ fun z hz=>by
       have h1:=(g3 z hz).1.2;have h2:=(g3 z hz).2;simp only [stubB,zla,bytesOf_length];omega
      have hol2:(X2++rowsB stubB f.2.2.2.2.2.2.2.1.2.1).length≤200000000000:=by rw [zla];omega
      have hfin:X2++rowsB stubB f.2.2.2.2.2.2.2.1.2.1++bytesOf (sB f.2.2.2.2.2.2.2.2.2.1)=bytesOf f.2.2.2.1++(bytesOf (rootB f.2.2.2.2.2.1)++(prfB f.2.2.2.2.2.2.2.1++bytesOf (sB f.2.2.2.2.2.2.2.2.2.1))):=by rw [← hX2,← hX1,← hHH];simp [prfB]
      generalize hX3:X2++rowsB stubB f.2.2.2.2.2.2.2.1.2.1=X3 at hol2 hfin ⊢
      by_cases qs:SRight f.2.2.2.2.2.2.2.2.2.1
      ·obtain ⟨_,hz3,hz4⟩:=setPY qs
       have hz2:=sB_le qs.1;refine zz 6 ?_;refine O.op (.p rfl) (.fieldAddr fld129x0 rfl)<|O.op (.p rfl) (.fieldAddr fld41x9 rfl) ?_;refine zz 1 ?_;refine O.call0 (.p rfl) rfl zB rfl rfl ((sPut_c p17 zD)) ?_;rintro _ _ ⟨a118,c118,rfl,rfl⟩;rw [hz3,hz4];refine O.q 2 rfl<|O.callPS (.p rfl) rfl zB rfl rfl zC (ftoldS_c zD) (fun ch η' w hX hW=>by (exact absurd rfl hX.1)) ?_;rintro _ _ ⟨hb121,a121,c121,rfl,rfl⟩;refine O.opE (.p rfl) (.litP (T:=Rp.val) (ys:=[.slice s.1 X3.length s.2,.slice a121 (bytesOf (sB f.2.2.2.2.2.2.2.2.2.1)).length c121]) underlying28 elem22 zE rfl rfl ⟨⟨rfl,rfl⟩,⟨rfl,rfl⟩,trivial⟩ zE) ?_;rintro _ _ ⟨a122,c122,rfl,rfl⟩;refine O.callB (.p rfl) rfl zB rfl rfl (bs:=[OwnP Rp.val 22 (.slice a122 2 c122) [.slice s.1 X3.length s.2,.slice a121 (bytesOf (sB f.2.2.2.2.2.2.2.2.2.1)).length c121],OwnP Rp.u8 5 (.slice s.1 X3.length s.2) (X3),OwnP Rp.u8 5 (.slice a121 (bytesOf (sB f.2.2.2.2.2.2.2.2.2.1)).length c121) (bytesOf (sB f.2.2.2.2.2.2.2.2.2.1))]) zI (fun m hm hd=>wJoin_c (xss:=[X3,bytesOf (sB f.2.2.2.2.2.2.2.2.2.1)]) ((hm.arr.right hd).rows ⟨hm.tail.arr.right hd,hm.tail.tail.arr.right hd,trivial⟩) (by simp only [zfc,List.flatten_nil,List.append_nil,zla,bytesOf_length,be_length];omega)) ?_;rintro _ _ ⟨a123,c123,rfl,rfl⟩;refine zz 2 ?_
       have e4:[X3,bytesOf (sB f.2.2.2.2.2.2.2.2.2.1)].flatten=bytesOf f.2.2.2.1++(bytesOf (rootB f.2.2.2.2.2.1)++(prfB f.2.2.2.2.2.2.2.1++bytesOf (sB f.2.2.2.2.2.2.2.2.2.1))):=by rw [← hfin];simp
       exact S.rt results165 rfl hR ⟨⟨qk,qr,q1,qs,q2⟩,a123,c123,by rw [← e4],by rw [← e4]⟩
      ·have hn:¬ (keyOk f.2.2.2.1∧rootOk f.2.2.2.2.2.1=true∧prfOk f.2.2.2.2.2.2.2.1∧SRight f.2.2.2.2.2.2.2.2.2.1∧∀ h:0<f.2.2.2.2.2.2.2.2.2.1.length,f.2.2.2.2.2.2.2.2.2.1[0].1=f.2.2.2.1):=fun w=>qs w.2.2.2.1
       obtain ⟨_,hz3,hz4⟩:=setPN qs;have hol9:(sOut f.2.2.2.2.2.2.2.2.2.1).length=0:=by rw [hz3];rfl
       refine zz 6 ?_;refine O.op (.p rfl) (.fieldAddr fld129x0 rfl)<|O.op (.p rfl) (.fieldAddr fld41x9 rfl)<|zz 1 ?_;refine O.call0 (.p rfl) rfl zB rfl rfl ((sPut_c p17 zD)) ?_;rintro _ _ ⟨a118,c118,rfl,rfl⟩;rw [hz4];refine O.q 2 rfl<|O.callPS (.p rfl) rfl zB rfl rfl zC (ftoldS_c zD) (fun ch η' w hX hW=>by (obtain ⟨hb,rfl,rfl⟩:=hX;exact hR _ _ w ⟨hn,rfl,rfl⟩ hW.drop_all)) ?_;rintro _ _ ⟨hb121,a121,c121,rfl,rfl⟩;exact absurd hb121 zE
   ·have hro:rootErr f.2.2.2.2.2.1=4:=by unfold rootErr;rw [if_neg qr]
    have hol:(rootOut f.2.2.2.2.2.1).length=0:=by unfold rootOut;rw [if_neg qr];rfl
    have hn:¬ (keyOk f.2.2.2.1∧rootOk f.2.2.2.2.2.1=true∧prfOk f.2.2.2.2.2.2.2.1∧SRight f.2.2.2.2.2.2.2.2.2.1∧∀ h:0<f.2.2.2.2.2.2.2.2.2.1.length,f.2.2.2.2.2.2.2.2.2.1[0].1=f.2.2.2.1):=fun w=>qr w.2.1;refine zz 1 ?_;refine S.regionD (L:=[0,1,2,3,4,6,7,8,9,10,15,16,17,18,19,20,21,5,11,12,13,14,22,23,24,25]) F.mixed zB ?_;refine zz 9 ?_;refine .quiet (.p rfl) rfl (fun _=>.loadAgg (cs:=[_,_,_,_,_]) isAgg27 zB rfl ((h.drop 5).take 5)) ?_;refine zz 7 ?_;refine OD.callP0 (.p rfl) zB rfl zB rfl rfl ((fkey_c (by have:=qk.2;omega))) (fun ch η' w hX hW=>by (exact absurd qk hX.1)) ?_;rintro _ _ ⟨hb45,a45,c45,rfl,rfl⟩;refine OD.call0 (.p rfl) zB rfl zB rfl rfl ((tPut_c hrt)) ?_;rintro _ _ ⟨a51,c51,rfl,rfl⟩;rw [hro];refine OD.q 2 rfl<|OD.callPS (.p rfl) zB rfl zB rfl rfl zC (ftoldS_c zD) (fun ch η' w hX hW=>by (obtain ⟨hb,rfl,rfl⟩:=hX;exact hR _ _ w ⟨hn,rfl,rfl⟩ hW.drop_all)) ?_;rintro _ _ ⟨hb54,a54,c54,rfl,rfl⟩;exact absurd hb54 zE
  ·have hn:¬ (keyOk f.2.2.2.1∧rootOk f.2.2.2.2.2.1=true∧prfOk f.2.2.2.2.2.2.2.1∧SRight f.2.2.2.2.2.2.2.2.2.1∧∀ h:0<f.2.2.2.2.2.2.2.2.2.1.length,f.2.2.2.2.2.2.2.2.2.1[0].1=f.2.2.2.1):=fun w=>qk w.1
   refine zz 1 ?_;refine S.regionD (L:=[0,1,2,3,4,6,7,8,9,10,15,16,17,18,19,20,21,5,11,12,13,14,22,23,24,25]) F.mixed zB ?_;refine zz 9 ?_;refine .quiet (.p rfl) rfl (fun _=>.loadAgg (cs:=[_,_,_,_,_]) isAgg27 zB rfl ((h.drop 5).take 5)) ?_;refine zz 7 ?_;refine OD.callP0 (.p rfl) zB rfl zB rfl rfl ((fkey_c p3)) (fun ch η' w hX hW=>by (obtain ⟨hb,rfl,rfl⟩:=hX;exact hR _ _ w ⟨hn,rfl,rfl⟩ hW.drop_all)) ?_;rintro _ _ ⟨hb45,a45,c45,rfl,rfl⟩;exact absurd hb45 qk
end Go.Proofs.YtdjoggpacmpfnaaGreatDoor
