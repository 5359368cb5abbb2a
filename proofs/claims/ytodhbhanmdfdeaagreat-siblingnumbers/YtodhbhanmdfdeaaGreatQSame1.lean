/- Texts of this proof. -/
import Derived.Test.YtodhbhanmdfdeaaGreatQBytesx
import Derived.Test.YtodhbhanmdfdeaaGreatQSpGet
open Go Go.Sp Go.Proofs.Tryz
set_option maxRecDepth 100000
set_option maxHeartbeats 1000000
attribute [local irreducible] obj Own OwnP
namespace Go.Proofs.YtodhbhanmdfdeaaGreat
abbrev recV (x:RecT) (v3 v5 v6:Value):List Value:=[.string (str x.1),.int .i64 x.2.1,.int .i64 x.2.2.1,v3,.bool x.2.2.2.2.1,v5,v6]
abbrev recWs (x:RecT) (v3 v5 v6:Value):List SProp:=[OwnP DotRp 166 v3 x.2.2.2.1,OwnP Rp.u8 5 v5 x.2.2.2.2.2.1,OwnP Rp.u8 5 v6 x.2.2.2.2.2.2.1]
abbrev rec0:List Value:=[.string (str []),.int .i64 0,.int .i64 0,.slice none 0 0,.bool false,.slice none 0 0,.slice none 0 0]
theorem rGet_c {r:Fr} {va:Value} {b:List UInt8} (ha:Arr Rp.u8 r va b) (hl:b.length≤1000000000) :
  Con prog 128 #[va] r [] (Ret fun v η=>(∃ x a3 c3 a5 c5 a6 c6,recGet b=some x∧v=.tuple #[.agg (recV x (.slice a3 x.2.2.2.1.length c3) (.slice a5 x.2.2.2.2.2.1.length c5) (.slice a6 x.2.2.2.2.2.2.1.length c6)).toArray,.int .i64 0]∧η=recWs x (.slice a3 x.2.2.2.1.length c3) (.slice a5 x.2.2.2.2.2.1.length c5) (.slice a6 x.2.2.2.2.2.2.1.length c6))∨(recGet b=none∧v=.tuple #[.agg rec0.toArray,.int .i64 4]∧η=[])):=by
 refine Con.o func128 fun g hg R hR=>?_;have ha:=ha.mono hg;have hbd:=ha.bound;obtain ⟨a1,c1,rfl⟩:=ha.shape;refine S.seq<|S.region rfl<|O.opE (.p rfl) (.alloc (cs:=[.string ⟨#[]⟩,.int .i64 0,.int .i64 0,.slice none 0 0,.bool false,.slice none 0 0,.slice none 0 0]) zeroValue74 rfl) ?_;rintro _ _ ⟨b2,rfl,rfl⟩;refine zz 6 ?_;refine O.op (.p rfl) (.sub rfl rfl (IntWalk.i64_in _ zD)) ?_;refine zz 8 ?_;refine S.cd rfl (fun h13=>?_) fun h13=>?_
 ·refine zz 2 ?_
  refine O.op (.p rfl) (.build (cs:=[_,_,_,_,_,_,_]) underlying74 rfl rfl rfl rfl rfl) ?_;refine zz 1 ?_;refine O.q 1 rfl<|O.nil<|S.retCellT results128 rfl rfl zB (LoadsAs.agg isAgg74 zC) fun w hw=>Holds.end_ hR hw ?_;exact pk (.inr ⟨recGet_short zD,rfl,rfl⟩)
 ·have h64:64≤b.length:=by omega
  have htl:(b.take (b.length - 64)).length≤1000000000:=by rw [List.length_take];omega
  refine zz 5 ?_;refine O.sliceTo (b:=b.length - 64) (.p rfl) underlying31 size5 rfl rfl zF zI zI (fun u17 ha17=>?_);obtain ⟨a17,c17,rfl⟩:=ha17.shape;refine O.call0 (.p rfl) rfl zC rfl rfl (rdNew_c zA zI) ?_;rintro _ _ ⟨b18,rfl,rfl⟩;refine zz 5 ?_;refine O.vS (.p rfl) rfl zC rfl rfl zB rdByte_c ?_;refine zz 2 ?_;generalize hk:(RS.mk true (b.take (b.length - 64))).byte=k;have lk:k.2.rest.length≤1000000000:=by rw [← hk];exact Nat.le_trans (RS.byte_len _) htl
  have ly:=RS.bytes_out 64 k.2;refine S.regionJ (L:=[0,3,5,1,2,4,6,7,8,9]) (fun (p:Nat)=>[(6,.pointer (some ⟨p,0,none⟩))]) [(0,_),(2,_),(4,_),(5,_)] (fun (p:Nat)=>[RdP 226 b18 (k.2.bytes 64).2.num.2.num.2,obj p 74 [.string (str (k.2.bytes 64).1),.int .i64 (k.2.bytes 64).2.num.1,.int .i64 (k.2.bytes 64).2.num.2.num.1,.slice none 0 0,.bool false,.slice none 0 0,.slice none 0 0],obj b2 74 rec0]) zq F.mixed zC (fun kk key=>?_) (fun p=>?_)
  ·refine OD.q 3 rfl<|OD.callS (.p rfl) zC rfl zC rfl rfl zB (rdBytes_c _ zI) ?_
   rintro _ _ ⟨a22,c22,rfl,rfl⟩;refine OD.alt2 2 4 [4,6,7,8,9] [2,6,7,8,9] zC rfl rfl ?_ ?_
   ·refine ODt.toStrO (.p rfl) zC underlying31 underlying5 underlying9 rfl zB ?_
    refine OD.callS (.p rfl) zC rfl zC rfl rfl zB rdNumber_c ?_;rintro _ _ ⟨rfl,rfl⟩;refine OD.callS (.p rfl) zC rfl zC rfl rfl zB rdNumber_c ?_;rintro _ _ ⟨rfl,rfl⟩;refine .quiet (.p rfl) rfl (fun _=>.build (cs:=[_,_,_,_,_,_,_]) underlying74 rfl rfl rfl rfl rfl)<|.lazy rfl zC rfl fun b6=>?_;refine OD.storeObj rfl zC zC rfl rfl rfl rfl zB zT ?_;refine ODx.nil<|S.pk ?_ (S.weaken (Sub.app zq zq) (key b6))
    try dsimp only
    repeat (first|exact zpa|exact zpn|(apply zpc;focus (repeat (first|exact zh|apply zt)))|apply zps)
   ·refine ODt.callS (.p rfl) zC rfl zC rfl rfl zB rdNumber_c ?_
    rintro _ _ ⟨rfl,rfl⟩;refine OD.alt2 2 6 [6,7,8,9] [2,7,8,9] zC rfl rfl ?_ ?_
    ·refine ODt.toStrO (.p rfl) zC underlying31 underlying5 underlying9 rfl zB ?_
     refine OD.callS (.p rfl) zC rfl zC rfl rfl zB rdNumber_c ?_;rintro _ _ ⟨rfl,rfl⟩;refine .quiet (.p rfl) rfl (fun _=>.build (cs:=[_,_,_,_,_,_,_]) underlying74 rfl rfl rfl rfl rfl)<|.lazy rfl zC rfl fun b6=>?_;refine OD.storeObj rfl zC zC rfl rfl rfl rfl zB zT ?_;refine ODx.nil<|S.pk ?_ (S.weaken (Sub.app zq zq) (key b6))
     try dsimp only
     repeat (first|exact zpa|exact zpn|(apply zpc;focus (repeat (first|exact zh|apply zt)))|apply zps)
    ·refine ODt.callS (.p rfl) zC rfl zC rfl rfl zB rdNumber_c ?_
     rintro _ _ ⟨rfl,rfl⟩;refine OD.toStrO (.p rfl) zC underlying31 underlying5 underlying9 rfl zB ?_;refine .quiet (.p rfl) rfl (fun _=>.build (cs:=[_,_,_,_,_,_,_]) underlying74 rfl rfl rfl rfl rfl)<|.lazy rfl zC rfl fun b6=>?_;refine OD.storeObj rfl zC zC rfl rfl rfl rfl zB zT ?_;refine ODx.nil<|S.pk ?_ (S.weaken (Sub.app zq zq) (key b6))
     try dsimp only
     repeat (first|exact zpa|exact zpn|(apply zpc;focus (repeat (first|exact zh|apply zt)))|apply zps)
  generalize hy:k.2.bytes 64=y at ly ⊢;have ly2:y.2.rest.length≤1000000000:=by rw [← hy];exact Nat.le_trans (RS.bytes_len _ _) lk
  generalize hc:y.2.num=c;have lc:c.2.rest.length≤1000000000:=by rw [← hc];exact Nat.le_trans (RS.num_len _) ly2
  have ic:InI64 c.1:=by rw [← hc];exact RS.num_in _
  generalize hq:c.2.num=q;have lq:q.2.rest.length≤1000000000:=by rw [← hq];exact Nat.le_trans (RS.num_len _) lc
  have iq:InI64 q.1:=by rw [← hq];exact RS.num_in _
  refine zz 4 ?_;refine O.vS (.p rfl) rfl zC rfl rfl zB (rdCount_c _) ?_;refine zz 3 ?_;generalize hn:q.2.count 8=n;have ln:n.2.rest.length≤1000000000:=by rw [← hn];exact Nat.le_trans (RS.count_len _ _) lq
  obtain ⟨n0,n8⟩:0≤n.1∧n.1≤8:=by rw [← hn];exact RS.count_bd _ _ zE
  refine S.addNil (T:=DotRp) (e:=166) ?_;refine S.loopK2 (ι:=Nat) (κ:=Option Addr × Nat) (fun i a=>i≤n.1.toNat) (fun i a=>[(31,.int .i64 (i:Int))]) [(0,_),(2,_),(4,_),(5,_),(6,_),(30,_)] (fun i a=>[OwnP DotRp 166 (.slice a.1 i a.2) (dotsP i n.2).1,RdP 226 b18 (dotsP i n.2).2,obj p 74 [.string (str y.1),.int .i64 c.1,.int .i64 q.1,.slice a.1 i a.2,.bool false,.slice none 0 0,.slice none 0 0],obj b2 74 rec0]) (fun i a=>n.1.toNat - i) (0) ((none,0)) zG zq zq rfl fun i a hx ih=>?_;have hm1:=meltRefl (g:=g);refine zz 5 ?_;refine S.cd rfl (fun h32=>?_) fun h32=>?_
  ·have hi:i<n.1.toNat:=by omega
   have hg_o:=hg;have hR_o:=hR
   try have ha_o:=ha
   try have ha17_o:=ha17
   refine S.frzH (B:=obj p 74 [.string (str y.1),.int .i64 c.1,.int .i64 q.1,.slice a.1 i a.2,.bool false,.slice none 0 0,.slice none 0 0]) zB fun go hso ⟨mo,hmo,hsmo⟩ hbo=>?_;replace hg:=Fr.sub_trans hg hso;replace hR:=backR hR hbo
   try replace ha:=ha.mono hso
   try replace ha17:=ha17.mono hso
   have hat:=(obj_at hmo).mono hsmo;refine zz 3 ?_;refine S.regionD (L:=[0,1,2,4,3,5,6,7,8,9,10]) F.mixed zC ?_;refine zz 2 ?_;refine OD.q 2 rfl<|OD.callS (.p rfl) zC rfl zC rfl rfl zB rdNumber_c ?_;rintro _ _ ⟨rfl,rfl⟩;refine OD.callS (.p rfl) zC rfl zC rfl rfl zB rdNumber_c ?_;rintro _ _ ⟨rfl,rfl⟩;refine .quiet (.p rfl) rfl (fun _=>.build (cs:=[_,_]) underlying166 rfl rfl rfl rfl rfl)<|OD.litP (T:=DotRp) (ys:=[_]) (.p rfl) zC underlying72 elem166 zE rfl rfl ⟨(DotRp.mk (RS.num_in _) (RS.num_in _)),trivial⟩ zE (fun a40 c40=>?_);refine OD.appendO (.p rfl) zC (T:=DotRp) underlying72 elem166 zE rfl rfl zB zB zI zI (fun a41 c41=>?_);refine zz 1 ?_;refine OD.last1 rfl zC (fun _ hw=>hbo hw) flat72 rfl rfl zU zB (by first|(simp;done)|(simp;omega)) ?_;replace hg:=hg_o;replace hR:=hR_o
   try replace ha:=ha_o
   try replace ha17:=ha17_o
   clear hg_o hR_o;refine zz 5 ?_;simp only [dotsP_length,List.length_singleton];exact S.pw (ih (i+1) ((a41,c41)) zD zD)
  ·clear ih
   have hi:i=n.1.toNat:=by omega
   subst hi;generalize hd:dotsP n.1.toNat n.2=d;have ld:d.2.rest.length≤1000000000:=by rw [← hd];exact Nat.le_trans (dotsP_len _ _) ln
   have ldn:d.1.length=n.1.toNat:=by rw [← hd];exact dotsP_length _ _
   have id:∀ z∈d.1,dot64 z:=by rw [← hd];exact dotsP_in _ _
   rw [← ldn];refine zz 4 ?_;refine O.vS (.p rfl) rfl zC rfl rfl zB rdByte_c ?_;refine zz 1 ?_;refine O.slot 46 (v' :=.bool (decide (d.2.byte.1≠0))) rfl (by simp [← UInt8.toNat_inj]) ?_;refine zz 4 ?_;generalize hg2:d.2.byte=g2;have lg2:g2.2.rest.length≤1000000000:=by rw [← hg2];exact Nat.le_trans (RS.byte_len _) ld
   refine S.regionD (L:=[0,2,3,4,1,6,5,7,8,9]) F.mixed zC ?_;refine OD.q 3 rfl<|OD.sliceFrom (a:=b.length - 64) (.p rfl) underlying31 size5 rfl rfl zF zI zI (fun u52 ha52=>?_);obtain ⟨a52,c52,rfl⟩:=ha52.shape;refine OD.callS (.p rfl) zC rfl zC rfl rfl zB (rdBytes_c _ zI) ?_;rintro _ _ ⟨a49,c49,rfl,rfl⟩;refine .quiet (.p rfl) rfl (fun _=>.fieldObj fld74x5 rfl)<|OD.call0 (.p rfl) zC rfl zC rfl rfl (cloneB_c zA zI) ?_;rintro _ _ ⟨a53,c53,rfl,rfl⟩;refine OD.store1 rfl zC flat31 rfl rfl zU zB zT ?_;refine .quiet (.p rfl) rfl (fun _=>.fieldObj fld74x6 rfl)<|OD.store1 rfl zC flat31 rfl rfl zU zB zT ?_;refine zz 2 ?_;generalize hv:g2.2.bytes 1024=v;have hX:recIn b=(y.1,c.1,q.1,d.1,decide (g2.1≠0),v.1,b.drop (b.length - 64),()):=by subst hv hg2 hd hn hq hc hy hk;rfl
   have hS:(recHd b).s=v.2:=by subst hv hg2 hd hn hq hc hy hk;rfl
   have hyes:=recGet_yes (b:=b);have hno:=recGet_no (b:=b);rw [hX] at hyes hno;rw [hS] at hno;have hrel:∀ {m:Fr} (v3 v5 v6:Value),Arr DotRp m v3 d.1→Arr Rp.u8 m v5 v.1→Arr Rp.u8 m v6 (b.drop (b.length - 64))→RecRp.rel m [.string (str y.1),.int .i64 c.1,.int .i64 q.1,v3,.bool (decide (g2.1≠0)),v5,v6] (y.1,c.1,q.1,d.1,decide (g2.1≠0),v.1,b.drop (b.length - 64),()):=fun v3 v5 v6 h3 h5 h6=>RecRp.mk zD ic iq h3 h5 h6;clear hX hS;generalize hXX:((y.1,c.1,q.1,d.1,decide (g2.1≠0),v.1,b.drop (b.length - 64),()):RecT)=X at hyes hno hrel;refine zz 2 ?_;refine O.callB (.p rfl) rfl zC rfl rfl (bs:=[OwnP DotRp 166 (.slice a.1 d.1.length a.2) d.1,OwnP Rp.u8 5 (.slice a49 v.1.length c49) v.1,OwnP Rp.u8 5 (.slice a53 (b.drop (b.length - 64)).length c53) (b.drop (b.length - 64))]) zK (fun m hm hd' =>rPut_c (x:=X) (hrel _ _ _ (hm.arr.right hd') (hm.tail.arr.right hd') (hm.tail.tail.arr.right hd'))) ?_;rintro _ _ ⟨a58,c58,rfl,rfl⟩;refine O.q 5 rfl<|O.nil (S.seq (S.seq ?_))
   cases e1:v.2.done with
   |false =>
    refine zz 2 ?_;refine O.vS (.p rfl) rfl zC rfl rfl zB rdDone_c ?_;refine O.sF 62 rfl (by exact e1) ?_;refine zz 15 ?_;refine O.op (.p rfl) (.build (cs:=[_,_,_,_,_,_,_]) underlying74 rfl rfl rfl rfl rfl) ?_;refine zz 1 ?_;refine O.q 1 rfl<|O.nil<|S.retCellT results128 rfl rfl zB (LoadsAs.agg isAgg74 zC) fun w hw=>Holds.end_ hR hw ?_;exact pk (.inr ⟨hno fun q=>by rw [e1] at q;exact absurd q.1 zE,rfl,rfl⟩)
   |true =>
    cases e2:recOk X with
    |false =>
     refine zz 2 ?_;refine O.vS (.p rfl) rfl zC rfl rfl zB rdDone_c ?_;refine O.sT 62 rfl (by exact e1) ?_;refine zz 4 ?_;refine O.sT 66 rfl (by simp [recErr,e2]) ?_;refine zz 11 ?_;refine O.op (.p rfl) (.build (cs:=[_,_,_,_,_,_,_]) underlying74 rfl rfl rfl rfl rfl) ?_;refine zz 1 ?_;refine O.q 1 rfl<|O.nil<|S.retCellT results128 rfl rfl zB (LoadsAs.agg isAgg74 zC) fun w hw=>Holds.end_ hR hw ?_;exact pk (.inr ⟨hno fun q=>by rw [e2] at q;exact absurd q.2.1 zE,rfl,rfl⟩)
    |true =>
     by_cases e3:recB X=b
     ·
      refine zz 2 ?_;refine O.vS (.p rfl) rfl zC rfl rfl zB rdDone_c ?_;refine O.sT 62 rfl (by exact e1) ?_;refine zz 4 ?_;refine O.sF 66 rfl (by simp [recErr,e2]) ?_;refine O.q 4 rfl<|O.callB (.g rfl rfl) rfl zC rfl rfl (bs:=[OwnP Rp.u8 5 (.slice a58 (recOut X).length c58) (recOut X)]) zK (fun m hm hd' =>bequal_c (hm.arr.right hd') ha.left) ?_;rintro _ _ ⟨rfl,rfl⟩;refine O.sT 71 rfl (by exact decide_eq_true (by rw [recOut,if_pos e2];exact e3)) ?_;refine zz 9 ?_;refine O.q 1 rfl<|O.nil<|S.retCellT results128 rfl rfl zB (LoadsAs.agg isAgg74 zC) fun w hw=>Holds.end_ hR hw ?_;have hy' :=hyes e2 e3;subst hXX;exact pk (.inl ⟨_,a.1,a.2,a49,c49,a53,c53,hy',rfl,rfl⟩)
     ·
      refine zz 2 ?_;refine O.vS (.p rfl) rfl zC rfl rfl zB rdDone_c ?_;refine O.sT 62 rfl (by exact e1) ?_;refine zz 4 ?_;refine O.sF 66 rfl (by simp [recErr,e2]) ?_;refine O.q 4 rfl<|O.callB (.g rfl rfl) rfl zC rfl rfl (bs:=[OwnP Rp.u8 5 (.slice a58 (recOut X).length c58) (recOut X)]) zK (fun m hm hd' =>bequal_c (hm.arr.right hd') ha.left) ?_;rintro _ _ ⟨rfl,rfl⟩;refine O.sF 71 rfl (by exact decide_eq_false (by rw [recOut,if_pos e2];exact e3)) ?_;refine zz 6 ?_;refine O.op (.p rfl) (.build (cs:=[_,_,_,_,_,_,_]) underlying74 rfl rfl rfl rfl rfl) ?_;refine zz 1 ?_;refine O.q 1 rfl<|O.nil<|S.retCellT results128 rfl rfl zB (LoadsAs.agg isAgg74 zC) fun w hw=>Holds.end_ hR hw ?_;exact pk (.inr ⟨hno fun q=>e3 q.2.2,rfl,rfl⟩)
theorem rGetY_c {r:Fr} {va:Value} {b:List UInt8} {x:RecT} (e:recGet b=some x) (ha:Arr Rp.u8 r va b) (hl:b.length≤1000000000) :
  Con prog 128 #[va] r [] (Ret fun v η=>∃ a3 c3 a5 c5 a6 c6,v=.tuple #[.agg (recV x (.slice a3 x.2.2.2.1.length c3) (.slice a5 x.2.2.2.2.2.1.length c5) (.slice a6 x.2.2.2.2.2.2.1.length c6)).toArray,.int .i64 0]∧η=recWs x (.slice a3 x.2.2.2.1.length c3) (.slice a5 x.2.2.2.2.2.1.length c5) (.slice a6 x.2.2.2.2.2.2.1.length c6)) :=
 (rGet_c ha hl).mono (Ret.imp fun v η h=>by
  rcases h with ⟨y,a3,c3,a5,c5,a6,c6,h1,h2,h3⟩|⟨h1,_⟩
  ·rw [e] at h1;obtain rfl:=Option.some.inj h1;exact ⟨a3,c3,a5,c5,a6,c6,h2,h3⟩
  ·rw [e] at h1;cases h1)
theorem rGetN_c {r:Fr} {va:Value} {b:List UInt8} (e:recGet b=none) (ha:Arr Rp.u8 r va b) (hl:b.length≤1000000000) :
  Con prog 128 #[va] r [] (Ret fun v η=>v=.tuple #[.agg rec0.toArray,.int .i64 4]∧η=[]) :=
 (rGet_c ha hl).mono (Ret.imp fun v η h=>by
  rcases h with ⟨y,a3,c3,a5,c5,a6,c6,h1,_⟩|⟨_,h2,h3⟩
  ·rw [e] at h1;cases h1
  ·exact ⟨h2,h3⟩)
theorem triedSS_ret {g:Gr} {be bx:Nat} {x:Value} {z:Int} {T1 T2:TypeId} {w:World} {R:Ending→World→Prop} {η:List SProp} (hw:Holds w g (obj bx T1 [x]::obj be T2 [.int .i64 z]::η)) (hR:∀ w,Holds w g (obj bx T1 [x]::obj be T2 [.int .i64 z]::η)→R (.returned (.tuple #[x,.int .i64 z])) w) :
  CallsD prog 203 #[.pointer (some ⟨be,0,none⟩),.pointer (some ⟨bx,0,none⟩)] .returning w (DPost2 prog g bx be 47 32 R):=by
 refine (callsD_rec (R:=fun e w=>(∃ v,e=.returned v)∧Holds w g (obj bx T1 [x]::obj be T2 [.int .i64 z]::η)) [.pointer (some ⟨be,0,none⟩),.pointer (some ⟨bx,0,none⟩)] rfl func203 rfl rfl rfl rfl hw ?_).mono ?_
 rotate_left
 ·rintro e u' w' ⟨rfl,⟨v,rfl⟩,h⟩
  exact ⟨⟨v,rfl⟩,rfl,T1,T2,_,_,_,_,η,h,LoadsAs.flat flat47,LoadsAs.flat flat32,hR w' h⟩
 refine S.seq<|S.region rfl<|O.q 1 rfl<|O.op (.p rfl) (.neqIN underlying20 rfl)<|O.nil<|S.condF rfl<|S.skip<|S.end0 results203 fun w hw=>?_;exact ⟨⟨_,rfl⟩,hw⟩
theorem triedSS_pan {g:Gr} {be bx:Nat} {x:Value} {z z' :Int} {T1 T2:TypeId} {w:World} {R:Ending→World→Prop} {η:List SProp} (hw:Holds w g (obj bx T1 [x]::obj be T2 [.int .i64 z']::η))
  (hR:∀ w,Holds w g (obj bx T1 [.slice none 0 0]::obj be T2 [.int .i64 z]::η)→R (.returned (.tuple #[.slice none 0 0,.int .i64 z])) w) :
  CallsD prog 203 #[.pointer (some ⟨be,0,none⟩),.pointer (some ⟨bx,0,none⟩)] (.panicking (errP 32 z)) w (DPost2 prog g bx be 47 32 R):=by
 refine (callsD_rec (R:=fun e w=>(∃ v,e=.returned v)∧Holds w g (obj bx T1 [.slice none 0 0]::obj be T2 [.int .i64 z]::η)) [.pointer (some ⟨be,0,none⟩),.pointer (some ⟨bx,0,none⟩)] rfl func203 rfl rfl rfl rfl hw ?_).mono ?_
 rotate_left
 ·rintro e u' w' ⟨rfl,⟨v,rfl⟩,h⟩
  exact ⟨⟨v,rfl⟩,rfl,T1,T2,_,_,_,_,η,h,LoadsAs.flat flat47,LoadsAs.flat flat32,hR w' h⟩
 refine zz 3 ?_;refine O.op (.p rfl) (.neqIV underlying20 rfl) ?_;refine zz 10 ?_;refine O.op (.p rfl) (.assertYes underlying32 rfl) ?_;refine zz 20 ?_;refine O.nil<|S.end0 results203 fun w hw=>?_;exact ⟨⟨_,rfl⟩,hw.picks zS⟩
theorem triedSS_c {r:Fr} {f:Nat} {first cap:Array Value} {K:Value→List SProp→Prop} {X:Int→Prop} (hc:callable prog f=true) (hf1:(Value.func (.func f) first cap).oneCell' =true) (hK1:∀ u ζ,K u ζ→u.oneCell' =true)
  (con:Con prog f (first++#[]++cap) r [] (RetP K (fun ch η=>∃ z,ch=errP 32 z∧X z∧η=[]))) :
  Con prog 102 #[.func (.func f) first cap] r [] (Ret fun v η=>(∃ u,K u η∧v=.tuple #[u,.int .i64 0])∨(∃ z,X z∧η=[]∧v=.tuple #[.slice none 0 0,.int .i64 z])):=by
 refine Con.of (n:=7) [.func (.func f) first cap] rfl func102 rfl rfl rfl fun g hg R hR=>?_;refine S.seq<|S.region rfl<|O.opE (.p rfl) (.alloc (cs:=[.slice none 0 0]) zeroValue47 rfl) ?_;rintro _ _ ⟨b2,rfl,rfl⟩;refine O.opE (.p rfl) (.alloc (cs:=[.int .i64 0]) zeroValue32 rfl) ?_;rintro _ _ ⟨b3,rfl,rfl⟩;refine zz 4 ?_;refine O.defer rfl rfl rfl rfl ?_;refine zz 4 ?_;refine O.callP0D (.p rfl) rfl hc rfl rfl (con.sub hg) (fun a ch η' w hF hX hW=>by (obtain ⟨z,rfl,hx,rfl⟩:=hX;exact leavesCell2 results102 hF rfl rfl zG zC (triedSS_pan (hW.picks zS) fun w hw=>Holds.end_ hR hw ⟨_,.inr ⟨z,hx,rfl,rfl⟩,by repeat (first|exact zpa|exact zpn|(apply zpc;focus (repeat (first|exact zh|apply zt)))|apply zps)⟩))) ?_;rintro v6 _ hk6;have hone:=hK1 _ _ hk6;refine O.perm (List.perm_append_comm) ?_;simp only [List.cons_append,List.nil_append];refine zz 2 ?_;refine O.nil<|S.retL fun a w hf hd hw=>?_;exact leavesCell2 results102 hf rfl rfl zG zC (triedSS_ret (hw.picks zS) fun w hw=>Holds.end_ hR hw ⟨_,.inl ⟨_,hk6,rfl⟩,by repeat (first|exact zpa|exact zpn|(apply zpc;focus (repeat (first|exact zh|apply zt)))|apply zps)⟩)
theorem dot_eq {x y:DotT} (h:(x.1,x.2.1)=(y.1,y.2.1)):x=y:=by
 obtain ⟨a,b,⟨⟩⟩:=x;obtain ⟨c,d,⟨⟩⟩:=y
 simp_all
theorem sameDots_c {r:Fr} {va vb:Value} {xs ys:List DotT} (ha:Arr DotRp r va xs) (hb:Arr DotRp r vb ys) :
  Con prog 125 #[va,vb] r [] (Ret fun v η=>v=.bool (decide (xs=ys))∧η=[]):=by
 have har:=ha;have hbr:=hb;refine Con.o func125 fun g hg R hR=>?_;have ha:=ha.mono hg;have hb:=hb.mono hg;have hbd:=ha.bound;obtain ⟨a1,c1,rfl⟩:=ha.shape;obtain ⟨a2,c2,rfl⟩:=hb.shape
 by_cases e0:xs.length=ys.length
 ·
  refine zz 12 ?_;refine O.sF 10 rfl (by exact decide_eq_false zD) ?_;refine zz 9 ?_;refine S.loopK (ι:=Nat) (fun i=>i≤xs.length∧xs.take i=ys.take i) (fun i=>[(5,.int .i64 (i:Int))]) [(0,_),(1,_)] (fun i=>[]) (fun i=>xs.length - i) (0) zG zq zq rfl fun i hx ih=>?_;have hm1:=meltRefl (g:=g);obtain ⟨hx1,hx2⟩:=hx;refine zz 8 ?_;refine S.cd rfl (fun h14=>?_) fun h14=>?_
  ·have hi:i<xs.length:=by omega
   have hi2:i<ys.length:=by omega
   by_cases e:xs[i]=ys[i]
   ·
    refine S.skip<|S.seq<|S.block<|S.seq<|S.regionD (L:=.range 9) F.mixed zC<|OD.q 2 rfl<|OD.iy har hg (h:=fun p19 cs19 hp19 hrr19=>?_);have hr19:=Rp.rel.mono hrr19 hg;obtain ⟨rfl,hi19,hj19⟩:=DotRp.open hr19;refine .quiet (.p rfl) rfl (fun _=>.loadAgg isAgg166 zC rfl hp19) ?_;refine OD.q 2 rfl<|OD.iy hbr hg (h:=fun p23 cs23 hp23 hrr23=>?_);have hr23:=Rp.rel.mono hrr23 hg;obtain ⟨rfl,hi23,hj23⟩:=DotRp.open hr23;refine .quiet (.p rfl) rfl (fun _=>.loadAgg isAgg166 zC rfl hp23) ?_;refine .quiet (.p rfl) rfl (fun _=>.neqDot underlying166 underlying3 rfl rfl rfl rfl zE zE zC zC rfl rfl)<|OD.sF 25 rfl (by exact decide_eq_false (not_not_intro (by rw [e]))) ?_;refine zz 9 ?_;exact S.wk (ih (i+1) (by exact ⟨by omega,take_same hi hi2 hx2 e⟩) zD)
   ·
    refine S.skip<|S.seq<|S.block<|S.seq<|S.regionD (L:=.range 9) F.mixed zC<|OD.q 2 rfl<|OD.iy har hg (h:=fun p19 cs19 hp19 hrr19=>?_);have hr19:=Rp.rel.mono hrr19 hg;obtain ⟨rfl,hi19,hj19⟩:=DotRp.open hr19;refine .quiet (.p rfl) rfl (fun _=>.loadAgg isAgg166 zC rfl hp19) ?_;refine OD.q 2 rfl<|OD.iy hbr hg (h:=fun p23 cs23 hp23 hrr23=>?_);have hr23:=Rp.rel.mono hrr23 hg;obtain ⟨rfl,hi23,hj23⟩:=DotRp.open hr23;refine .quiet (.p rfl) rfl (fun _=>.loadAgg isAgg166 zC rfl hp23) ?_;refine .quiet (.p rfl) rfl (fun _=>.neqDot underlying166 underlying3 rfl rfl rfl rfl zE zE zC zC rfl rfl)<|OD.sT 25 rfl (by exact decide_eq_true (fun q=>e (dot_eq q))) ?_;refine zz 6 ?_;exact S.rt results125 rfl hR ⟨congrArg _ (decide_eq_false (not_same hi hi2 e)).symm,rfl⟩
  ·have hi:i=xs.length:=by omega
   clear ih;subst hi;rw [List.take_length,e0,List.take_length] at hx2;refine zz 5 ?_;exact S.rt results125 rfl hR ⟨by simp [hx2],rfl⟩
 ·
  refine zz 12 ?_;refine O.sT 10 rfl (by exact decide_eq_true zD) ?_;refine zz 6 ?_;exact S.rt results125 rfl hR ⟨congrArg _ (decide_eq_false (fun h=>e0 (by rw [h]))).symm,rfl⟩
theorem sameInts_c {r:Fr} {va vb:Value} {xs ys:List Int} (ha:Arr Rp.i64 r va xs) (hb:Arr Rp.i64 r vb ys) :
  Con prog 98 #[va,vb] r [] (Ret fun v η=>v=.bool (decide (xs=ys))∧η=[]):=by
 have har:=ha;have hbr:=hb;refine Con.o func98 fun g hg R hR=>?_;have ha:=ha.mono hg;have hb:=hb.mono hg;have hbd:=ha.bound;obtain ⟨a1,c1,rfl⟩:=ha.shape;obtain ⟨a2,c2,rfl⟩:=hb.shape
 by_cases e0:xs.length=ys.length
 ·
  refine zz 12 ?_;refine O.sF 10 rfl (by exact decide_eq_false zD) ?_;refine zz 9 ?_;refine S.loopK (ι:=Nat) (fun i=>i≤xs.length∧xs.take i=ys.take i) (fun i=>[(5,.int .i64 (i:Int))]) [(0,_),(1,_)] (fun i=>[]) (fun i=>xs.length - i) (0) zG zq zq rfl fun i hx ih=>?_;have hm1:=meltRefl (g:=g);obtain ⟨hx1,hx2⟩:=hx;refine zz 8 ?_;refine S.cd rfl (fun h14=>?_) fun h14=>?_
  ·have hi:i<xs.length:=by omega
   have hi2:i<ys.length:=by omega
   by_cases e:xs[i]=ys[i]
   ·
    refine S.skip<|S.seq<|S.block<|S.seq<|S.regionD (L:=.range 9) F.mixed zC<|OD.q 2 rfl<|OD.ia (.p rfl) underlying25 size3 rfl rfl rfl zA (h:=fun p19 cs19 hp19 hr19=>?_);obtain ⟨rfl,hz19⟩:=hr19;refine zz 1 ?_;refine OD.q 2 rfl<|OD.ia (.p rfl) underlying25 size3 rfl rfl rfl zA (h:=fun p23 cs23 hp23 hr23=>?_);obtain ⟨rfl,hz23⟩:=hr23;refine zz 2 ?_;refine OD.sF 25 rfl (by exact decide_eq_false (not_not_intro e)) ?_;refine zz 9 ?_;exact S.wk (ih (i+1) (by exact ⟨by omega,take_same hi hi2 hx2 e⟩) zD)
   ·
    refine S.skip<|S.seq<|S.block<|S.seq<|S.regionD (L:=.range 9) F.mixed zC<|OD.q 2 rfl<|OD.ia (.p rfl) underlying25 size3 rfl rfl rfl zA (h:=fun p19 cs19 hp19 hr19=>?_);obtain ⟨rfl,hz19⟩:=hr19;refine zz 1 ?_;refine OD.q 2 rfl<|OD.ia (.p rfl) underlying25 size3 rfl rfl rfl zA (h:=fun p23 cs23 hp23 hr23=>?_);obtain ⟨rfl,hz23⟩:=hr23;refine zz 2 ?_;refine OD.sT 25 rfl (by exact decide_eq_true e) ?_;refine zz 6 ?_;exact S.rt results98 rfl hR ⟨congrArg _ (decide_eq_false (not_same hi hi2 e)).symm,rfl⟩
  ·have hi:i=xs.length:=by omega
   clear ih;subst hi;rw [List.take_length,e0,List.take_length] at hx2;refine zz 5 ?_;exact S.rt results98 rfl hR ⟨by simp [hx2],rfl⟩
 ·
  refine zz 12 ?_;refine O.sT 10 rfl (by exact decide_eq_true zD) ?_;refine zz 6 ?_;exact S.rt results98 rfl hR ⟨congrArg _ (decide_eq_false (fun h=>e0 (by rw [h]))).symm,rfl⟩
theorem sameRecord_eq {x y:RecT} (h0:x.1=y.1) (h1:x.2.1=y.2.1) (h2:x.2.2.1=y.2.2.1) (h3:x.2.2.2.1=y.2.2.2.1) (h4:x.2.2.2.2.1=y.2.2.2.2.1) (h5:x.2.2.2.2.2.1=y.2.2.2.2.2.1) (h6:x.2.2.2.2.2.2.1=y.2.2.2.2.2.2.1):x=y:=by
 obtain ⟨a0,a1,a2,a3,a4,a5,a6,⟨⟩⟩:=x;obtain ⟨b0,b1,b2,b3,b4,b5,b6,⟨⟩⟩:=y
 simp_all
theorem sameRecord_c {r:Fr} {cs ds:List Value} {x y:RecT} (hx:RecRp.rel r cs x) (hy:RecRp.rel r ds y) :
  Con prog 49 #[.agg cs.toArray,.agg ds.toArray] r [] (Ret fun v η=>v=.bool (decide (x=y))∧η=[]):=by
 obtain ⟨xa3,xa5,xa6,xc3,xc5,xc6,rfl,xk0,xk1,xk2,xk3,xk5,xk6⟩:=RecRp.sh hx;obtain ⟨ya3,ya5,ya6,yc3,yc5,yc6,rfl,yk0,yk1,yk2,yk3,yk5,yk6⟩:=RecRp.sh hy;refine Con.o func49 fun g hg R hR=>?_;have xk3:=xk3.mono hg;have xk5:=xk5.mono hg;have xk6:=xk6.mono hg;have yk3:=yk3.mono hg;have yk5:=yk5.mono hg;have yk6:=yk6.mono hg;refine S.seq<|S.region rfl<|O.opE (.p rfl) (.box (cs:=[_,_,_,_,_,_,_]) rfl rfl) ?_;rintro _ _ ⟨b2,rfl,rfl⟩;refine O.opE (.p rfl) (.box (cs:=[_,_,_,_,_,_,_]) rfl rfl) ?_;rintro _ _ ⟨b3,rfl,rfl⟩;refine zz 8 ?_;refine O.op (.p rfl) (.eqlS rfl rfl)<|O.q 1 rfl ?_
 first|refine O.caseD 10 rfl (fun h10=>?_) (fun h10=>?_)|refine O.caseB 10 rfl (fun h10=>?_) (fun h10=>?_)
 ·refine zz 7 ?_
  first|refine O.caseD 17 rfl (fun h17=>?_) (fun h17=>?_)|refine O.caseB 17 rfl (fun h17=>?_) (fun h17=>?_)
  ·refine zz 7 ?_
   first|refine O.caseD 24 rfl (fun h24=>?_) (fun h24=>?_)|refine O.caseB 24 rfl (fun h24=>?_) (fun h24=>?_)
   ·refine zz 4 ?_
    refine O.v0 (.g rfl rfl) rfl zC rfl rfl (sameDots_c zA zA) ?_;refine zz 2 ?_
    first|refine O.caseD 31 rfl (fun h31=>?_) (fun h31=>?_)|refine O.caseB 31 rfl (fun h31=>?_) (fun h31=>?_)
    ·refine zz 4 ?_
     refine O.op (.g rfl rfl) (.eqlB underlying4 rfl rfl)<|O.q 2 rfl ?_
     first|refine O.caseD 38 rfl (fun h38=>?_) (fun h38=>?_)|refine O.caseB 38 rfl (fun h38=>?_) (fun h38=>?_)
     ·refine zz 4 ?_
      refine O.v0 (.g rfl rfl) rfl zC rfl rfl (SameBytes_c zA zA) ?_;refine zz 2 ?_
      first|refine O.caseD 45 rfl (fun h45=>?_) (fun h45=>?_)|refine O.caseB 45 rfl (fun h45=>?_) (fun h45=>?_)
      ·refine zz 4 ?_
       refine O.v0 (.g rfl rfl) rfl zC rfl rfl (SameBytes_c zA zA) ?_;refine O.q 2 rfl<|O.nil<|S.ret results49 rfl fun w hw=>Holds.end_ hR hw ?_
       first|exact ⟨_,⟨congrArg _ (decide_eq_false (fun e=>by subst e;exact absurd rfl zF)).symm,rfl⟩,by repeat (first|exact zpa|exact zpn|(apply zpc;focus (repeat (first|exact zh|apply zt)))|apply zps)⟩|exact ⟨_,⟨congrArg _ (decide_eq_decide.2 ⟨fun e=>sameRecord_eq (str_eqL zF) zF zF zF zF zF e,fun e=>by rw [e]⟩),rfl⟩,by repeat (first|exact zpa|exact zpn|(apply zpc;focus (repeat (first|exact zh|apply zt)))|apply zps)⟩
      ·refine O.q 7 rfl<|O.nil<|S.ret results49 rfl fun w hw=>Holds.end_ hR hw ?_
       first|exact ⟨_,⟨congrArg _ (decide_eq_false (fun e=>by subst e;exact absurd rfl zF)).symm,rfl⟩,by repeat (first|exact zpa|exact zpn|(apply zpc;focus (repeat (first|exact zh|apply zt)))|apply zps)⟩|exact ⟨_,⟨congrArg _ (decide_eq_decide.2 ⟨fun e=>sameRecord_eq (str_eqL zF) zF zF zF zF zF e,fun e=>by rw [e]⟩),rfl⟩,by repeat (first|exact zpa|exact zpn|(apply zpc;focus (repeat (first|exact zh|apply zt)))|apply zps)⟩
     ·refine O.q 14 rfl<|O.nil<|S.ret results49 rfl fun w hw=>Holds.end_ hR hw ?_
      first|exact ⟨_,⟨congrArg _ (decide_eq_false (fun e=>by subst e;exact absurd rfl zF)).symm,rfl⟩,by repeat (first|exact zpa|exact zpn|(apply zpc;focus (repeat (first|exact zh|apply zt)))|apply zps)⟩|exact ⟨_,⟨congrArg _ (decide_eq_decide.2 ⟨fun e=>sameRecord_eq (str_eqL zF) zF zF zF zF zF e,fun e=>by rw [e]⟩),rfl⟩,by repeat (first|exact zpa|exact zpn|(apply zpc;focus (repeat (first|exact zh|apply zt)))|apply zps)⟩
    ·refine O.q 21 rfl<|O.nil<|S.ret results49 rfl fun w hw=>Holds.end_ hR hw ?_
     first|exact ⟨_,⟨congrArg _ (decide_eq_false (fun e=>by subst e;exact absurd rfl zF)).symm,rfl⟩,by repeat (first|exact zpa|exact zpn|(apply zpc;focus (repeat (first|exact zh|apply zt)))|apply zps)⟩|exact ⟨_,⟨congrArg _ (decide_eq_decide.2 ⟨fun e=>sameRecord_eq (str_eqL zF) zF zF zF zF zF e,fun e=>by rw [e]⟩),rfl⟩,by repeat (first|exact zpa|exact zpn|(apply zpc;focus (repeat (first|exact zh|apply zt)))|apply zps)⟩
   ·refine O.q 28 rfl<|O.nil<|S.ret results49 rfl fun w hw=>Holds.end_ hR hw ?_
    first|exact ⟨_,⟨congrArg _ (decide_eq_false (fun e=>by subst e;exact absurd rfl zF)).symm,rfl⟩,by repeat (first|exact zpa|exact zpn|(apply zpc;focus (repeat (first|exact zh|apply zt)))|apply zps)⟩|exact ⟨_,⟨congrArg _ (decide_eq_decide.2 ⟨fun e=>sameRecord_eq (str_eqL zF) zF zF zF zF zF e,fun e=>by rw [e]⟩),rfl⟩,by repeat (first|exact zpa|exact zpn|(apply zpc;focus (repeat (first|exact zh|apply zt)))|apply zps)⟩
  ·refine O.q 35 rfl<|O.nil<|S.ret results49 rfl fun w hw=>Holds.end_ hR hw ?_
   first|exact ⟨_,⟨congrArg _ (decide_eq_false (fun e=>by subst e;exact absurd rfl zF)).symm,rfl⟩,by repeat (first|exact zpa|exact zpn|(apply zpc;focus (repeat (first|exact zh|apply zt)))|apply zps)⟩|exact ⟨_,⟨congrArg _ (decide_eq_decide.2 ⟨fun e=>sameRecord_eq (str_eqL zF) zF zF zF zF zF e,fun e=>by rw [e]⟩),rfl⟩,by repeat (first|exact zpa|exact zpn|(apply zpc;focus (repeat (first|exact zh|apply zt)))|apply zps)⟩
 ·refine O.q 42 rfl<|O.nil<|S.ret results49 rfl fun w hw=>Holds.end_ hR hw ?_
  first|exact ⟨_,⟨congrArg _ (decide_eq_false (fun e=>by subst e;exact absurd rfl zF)).symm,rfl⟩,by repeat (first|exact zpa|exact zpn|(apply zpc;focus (repeat (first|exact zh|apply zt)))|apply zps)⟩|exact ⟨_,⟨congrArg _ (decide_eq_decide.2 ⟨fun e=>sameRecord_eq (str_eqL zF) zF zF zF zF zF e,fun e=>by rw [e]⟩),rfl⟩,by repeat (first|exact zpa|exact zpn|(apply zpc;focus (repeat (first|exact zh|apply zt)))|apply zps)⟩
theorem sameRecords_c {r:Fr} {va vb:Value} {xs ys:List RecT} (ha:Arr RecRp r va xs) (hb:Arr RecRp r vb ys) :
  Con prog 40 #[va,vb] r [] (Ret fun v η=>v=.bool (decide (xs=ys))∧η=[]):=by
 have har:=ha;have hbr:=hb;refine Con.o func40 fun g hg R hR=>?_;have ha:=ha.mono hg;have hb:=hb.mono hg;have hbd:=ha.bound;obtain ⟨a1,c1,rfl⟩:=ha.shape;obtain ⟨a2,c2,rfl⟩:=hb.shape
 by_cases e0:xs.length=ys.length
 ·
  refine zz 12 ?_;refine O.sF 10 rfl (by exact decide_eq_false zD) ?_;refine zz 9 ?_;refine S.loopK (ι:=Nat) (fun i=>i≤xs.length∧xs.take i=ys.take i) (fun i=>[(5,.int .i64 (i:Int))]) [(0,_),(1,_)] (fun i=>[]) (fun i=>xs.length - i) (0) zG zq zq rfl fun i hx ih=>?_;have hm1:=meltRefl (g:=g);obtain ⟨hx1,hx2⟩:=hx;refine zz 8 ?_;refine S.cd rfl (fun h14=>?_) fun h14=>?_
  ·have hi:i<xs.length:=by omega
   have hi2:i<ys.length:=by omega
   by_cases e:xs[i]=ys[i]
   ·
    refine S.skip<|S.seq<|S.block<|S.seq<|S.regionD (L:=.range 10) F.mixed zC<|OD.q 2 rfl<|OD.iy har hg (h:=fun p19 cs19 hp19 hrr19=>?_);have hr19:=Rp.rel.mono hrr19 hg;obtain ⟨ra3_19,ra5_19,ra6_19,rc3_19,rc5_19,rc6_19,rfl,ho0_19,ho1_19,ho2_19,ha3_19,ha5_19,ha6_19⟩:=RecRp.sh hr19;refine .quiet (.p rfl) rfl (fun _=>.loadAgg isAgg74 zC rfl hp19) ?_;refine OD.q 2 rfl<|OD.iy hbr hg (h:=fun p23 cs23 hp23 hrr23=>?_);have hr23:=Rp.rel.mono hrr23 hg;obtain ⟨ra3_23,ra5_23,ra6_23,rc3_23,rc5_23,rc6_23,rfl,ho0_23,ho1_23,ho2_23,ha3_23,ha5_23,ha6_23⟩:=RecRp.sh hr23;refine .quiet (.p rfl) rfl (fun _=>.loadAgg isAgg74 zC rfl hp23) ?_;refine OD.v0 (.p rfl) zC rfl zC rfl rfl ((sameRecord_c hr19 hr23)) ?_;refine OD.sT 25 rfl (by exact decide_eq_true e) ?_;refine zz 10 ?_;exact S.wk (ih (i+1) (by exact ⟨by omega,take_same hi hi2 hx2 e⟩) zD)
   ·
    refine S.skip<|S.seq<|S.block<|S.seq<|S.regionD (L:=.range 10) F.mixed zC<|OD.q 2 rfl<|OD.iy har hg (h:=fun p19 cs19 hp19 hrr19=>?_);have hr19:=Rp.rel.mono hrr19 hg;obtain ⟨ra3_19,ra5_19,ra6_19,rc3_19,rc5_19,rc6_19,rfl,ho0_19,ho1_19,ho2_19,ha3_19,ha5_19,ha6_19⟩:=RecRp.sh hr19;refine .quiet (.p rfl) rfl (fun _=>.loadAgg isAgg74 zC rfl hp19) ?_;refine OD.q 2 rfl<|OD.iy hbr hg (h:=fun p23 cs23 hp23 hrr23=>?_);have hr23:=Rp.rel.mono hrr23 hg;obtain ⟨ra3_23,ra5_23,ra6_23,rc3_23,rc5_23,rc6_23,rfl,ho0_23,ho1_23,ho2_23,ha3_23,ha5_23,ha6_23⟩:=RecRp.sh hr23;refine .quiet (.p rfl) rfl (fun _=>.loadAgg isAgg74 zC rfl hp23) ?_;refine OD.v0 (.p rfl) zC rfl zC rfl rfl ((sameRecord_c hr19 hr23)) ?_;refine OD.sF 25 rfl (by exact decide_eq_false e) ?_;refine zz 7 ?_;exact S.rt results40 rfl hR ⟨congrArg _ (decide_eq_false (not_same hi hi2 e)).symm,rfl⟩
  ·have hi:i=xs.length:=by omega
   clear ih;subst hi;rw [List.take_length,e0,List.take_length] at hx2;refine zz 5 ?_;exact S.rt results40 rfl hR ⟨by simp [hx2],rfl⟩
 ·
  refine zz 12 ?_;refine O.sT 10 rfl (by exact decide_eq_true zD) ?_;refine zz 6 ?_;exact S.rt results40 rfl hR ⟨congrArg _ (decide_eq_false (fun h=>e0 (by rw [h]))).symm,rfl⟩
theorem sameLeaf_eq {x y:LeafT} (h0:x.1=y.1) (h1:x.2.1=y.2.1):x=y:=by
 obtain ⟨a0,a1,⟨⟩⟩:=x;obtain ⟨b0,b1,⟨⟩⟩:=y
 simp_all
theorem sameLeaf_c {r:Fr} {cs ds:List Value} {x y:LeafT} (hx:LeafRp.rel r cs x) (hy:LeafRp.rel r ds y) :
  Con prog 158 #[.agg cs.toArray,.agg ds.toArray] r [] (Ret fun v η=>v=.bool (decide (x=y))∧η=[]):=by
 obtain ⟨xa1,xc1,rfl,xk0,xk1⟩:=LeafRp.sh hx;obtain ⟨ya1,yc1,rfl,yk0,yk1⟩:=LeafRp.sh hy;refine Con.o func158 fun g hg R hR=>?_;have xk1:=xk1.mono hg;have yk1:=yk1.mono hg;refine S.seq<|S.region rfl<|O.opE (.p rfl) (.box (cs:=[_,_]) rfl rfl) ?_;rintro _ _ ⟨b2,rfl,rfl⟩;refine O.opE (.p rfl) (.box (cs:=[_,_]) rfl rfl) ?_;rintro _ _ ⟨b3,rfl,rfl⟩;refine zz 8 ?_;refine O.op (.p rfl) (.eqlS rfl rfl)<|O.q 1 rfl ?_
 first|refine O.caseD 10 rfl (fun h10=>?_) (fun h10=>?_)|refine O.caseB 10 rfl (fun h10=>?_) (fun h10=>?_)
 ·refine zz 4 ?_
  refine O.v0 (.g rfl rfl) rfl zC rfl rfl (sameRecords_c zA zA) ?_;refine O.q 2 rfl<|O.nil<|S.ret results158 rfl fun w hw=>Holds.end_ hR hw ?_
  first|exact ⟨_,⟨congrArg _ (decide_eq_false (fun e=>by subst e;exact absurd rfl zF)).symm,rfl⟩,by repeat (first|exact zpa|exact zpn|(apply zpc;focus (repeat (first|exact zh|apply zt)))|apply zps)⟩|exact ⟨_,⟨congrArg _ (decide_eq_decide.2 ⟨fun e=>sameLeaf_eq (str_eqL zF) e,fun e=>by rw [e]⟩),rfl⟩,by repeat (first|exact zpa|exact zpn|(apply zpc;focus (repeat (first|exact zh|apply zt)))|apply zps)⟩
 ·refine O.q 7 rfl<|O.nil<|S.ret results158 rfl fun w hw=>Holds.end_ hR hw ?_
  first|exact ⟨_,⟨congrArg _ (decide_eq_false (fun e=>by subst e;exact absurd rfl zF)).symm,rfl⟩,by repeat (first|exact zpa|exact zpn|(apply zpc;focus (repeat (first|exact zh|apply zt)))|apply zps)⟩|exact ⟨_,⟨congrArg _ (decide_eq_decide.2 ⟨fun e=>sameLeaf_eq (str_eqL zF) e,fun e=>by rw [e]⟩),rfl⟩,by repeat (first|exact zpa|exact zpn|(apply zpc;focus (repeat (first|exact zh|apply zt)))|apply zps)⟩
theorem sameLeaves_c {r:Fr} {va vb:Value} {xs ys:List LeafT} (ha:Arr LeafRp r va xs) (hb:Arr LeafRp r vb ys) :
  Con prog 95 #[va,vb] r [] (Ret fun v η=>v=.bool (decide (xs=ys))∧η=[]):=by
 have har:=ha;have hbr:=hb;refine Con.o func95 fun g hg R hR=>?_;have ha:=ha.mono hg;have hb:=hb.mono hg;have hbd:=ha.bound;obtain ⟨a1,c1,rfl⟩:=ha.shape;obtain ⟨a2,c2,rfl⟩:=hb.shape
 by_cases e0:xs.length=ys.length
 ·
  refine zz 12 ?_;refine O.sF 10 rfl (by exact decide_eq_false zD) ?_;refine zz 9 ?_;refine S.loopK (ι:=Nat) (fun i=>i≤xs.length∧xs.take i=ys.take i) (fun i=>[(5,.int .i64 (i:Int))]) [(0,_),(1,_)] (fun i=>[]) (fun i=>xs.length - i) (0) zG zq zq rfl fun i hx ih=>?_;have hm1:=meltRefl (g:=g);obtain ⟨hx1,hx2⟩:=hx;refine zz 8 ?_;refine S.cd rfl (fun h14=>?_) fun h14=>?_
  ·have hi:i<xs.length:=by omega
   have hi2:i<ys.length:=by omega
   by_cases e:xs[i]=ys[i]
   ·
    refine S.skip<|S.seq<|S.block<|S.seq<|S.regionD (L:=.range 10) F.mixed zC<|OD.q 2 rfl<|OD.iy har hg (h:=fun p19 cs19 hp19 hrr19=>?_);have hr19:=Rp.rel.mono hrr19 hg;obtain ⟨la1_19,lc1_19,rfl,ho0_19,ha1_19⟩:=LeafRp.sh hr19;refine .quiet (.p rfl) rfl (fun _=>.loadAgg isAgg49 zC rfl hp19) ?_;refine OD.q 2 rfl<|OD.iy hbr hg (h:=fun p23 cs23 hp23 hrr23=>?_);have hr23:=Rp.rel.mono hrr23 hg;obtain ⟨la1_23,lc1_23,rfl,ho0_23,ha1_23⟩:=LeafRp.sh hr23;refine .quiet (.p rfl) rfl (fun _=>.loadAgg isAgg49 zC rfl hp23) ?_;refine OD.v0 (.p rfl) zC rfl zC rfl rfl ((sameLeaf_c hr19 hr23)) ?_;refine OD.sT 25 rfl (by exact decide_eq_true e) ?_;refine zz 10 ?_;exact S.wk (ih (i+1) (by exact ⟨by omega,take_same hi hi2 hx2 e⟩) zD)
   ·
    refine S.skip<|S.seq<|S.block<|S.seq<|S.regionD (L:=.range 10) F.mixed zC<|OD.q 2 rfl<|OD.iy har hg (h:=fun p19 cs19 hp19 hrr19=>?_);have hr19:=Rp.rel.mono hrr19 hg;obtain ⟨la1_19,lc1_19,rfl,ho0_19,ha1_19⟩:=LeafRp.sh hr19;refine .quiet (.p rfl) rfl (fun _=>.loadAgg isAgg49 zC rfl hp19) ?_;refine OD.q 2 rfl<|OD.iy hbr hg (h:=fun p23 cs23 hp23 hrr23=>?_);have hr23:=Rp.rel.mono hrr23 hg;obtain ⟨la1_23,lc1_23,rfl,ho0_23,ha1_23⟩:=LeafRp.sh hr23;refine .quiet (.p rfl) rfl (fun _=>.loadAgg isAgg49 zC rfl hp23) ?_;refine OD.v0 (.p rfl) zC rfl zC rfl rfl ((sameLeaf_c hr19 hr23)) ?_;refine OD.sF 25 rfl (by exact decide_eq_false e) ?_;refine zz 7 ?_;exact S.rt results95 rfl hR ⟨congrArg _ (decide_eq_false (not_same hi hi2 e)).symm,rfl⟩
  ·have hi:i=xs.length:=by omega
   clear ih;subst hi;rw [List.take_length,e0,List.take_length] at hx2;refine zz 5 ?_;exact S.rt results95 rfl hR ⟨by simp [hx2],rfl⟩
 ·
  refine zz 12 ?_;refine O.sT 10 rfl (by exact decide_eq_true zD) ?_;refine zz 6 ?_;exact S.rt results95 rfl hR ⟨congrArg _ (decide_eq_false (fun h=>e0 (by rw [h]))).symm,rfl⟩
end Go.Proofs.YtodhbhanmdfdeaaGreat
