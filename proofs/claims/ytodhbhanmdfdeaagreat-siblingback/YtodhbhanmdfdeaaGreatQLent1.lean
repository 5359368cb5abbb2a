/- Texts of this proof. -/
import Derived.Test.YtodhbhanmdfdeaaGreatQBytesx
import Derived.Test.YtodhbhanmdfdeaaGreatQSpGet
open Go Go.Sp Go.Proofs.Tryz
set_option maxRecDepth 100000
set_option maxHeartbeats 1000000
attribute [local irreducible] obj Own OwnP
namespace Go.Proofs.YtodhbhanmdfdeaaGreat
abbrev recV (x:RecT) (v3 v5 v6:Value):List Value:=[.string (str x.1),.int .i64 x.2.1,.int .i64 x.2.2.1,v3,.bool x.2.2.2.2.1,v5,v6]
abbrev recWs (x:RecT) (v3 v5 v6:Value):List SProp:=[OwnP DotRp 166 v3 x.2.2.2.1,OwnP Rp.u8 5 v5 x.2.2.2.2.2.1,OwnP Rp.u8 5 v6 x.2.2.2.2.2.2.1]
abbrev rec0:List Value:=[.string (str []),.int .i64 0,.int .i64 0,.slice none 0 0,.bool false,.slice none 0 0,.slice none 0 0]
theorem rGet_c {r:Fr} {va:Value} {b:List UInt8} (ha:Arr Rp.u8 r va b) (hl:b.length≤1000000000) :
  Con prog 128 #[va] r [] (Ret fun v η=>(∃ x a3 c3 a5 c5 a6 c6,recGet b=some x∧v=.tuple #[.agg (recV x (.slice a3 x.2.2.2.1.length c3) (.slice a5 x.2.2.2.2.2.1.length c5) (.slice a6 x.2.2.2.2.2.2.1.length c6)).toArray,.int .i64 0]∧η=recWs x (.slice a3 x.2.2.2.1.length c3) (.slice a5 x.2.2.2.2.2.1.length c5) (.slice a6 x.2.2.2.2.2.2.1.length c6))∨(recGet b=none∧v=.tuple #[.agg rec0.toArray,.int .i64 4]∧η=[])):=by
 refine Con.of (n:=76) _ rfl func128 rfl rfl rfl fun g hg R hR=>?_;have ha:=ha.mono hg;have hbd:=ha.bound;obtain ⟨a1,c1,rfl⟩:=ha.shape;refine S.seq<|S.region rfl<|O.opE (.p rfl) (.alloc (cs:=[.string ⟨#[]⟩,.int .i64 0,.int .i64 0,.slice none 0 0,.bool false,.slice none 0 0,.slice none 0 0]) zeroValue74 rfl) ?_;rintro _ _ ⟨b2,rfl,rfl⟩;refine O.q 1 rfl<|O.nil<|S.seq<|S.region rfl<|O.q 1 rfl<|O.op (.p rfl) (.len rfl underlying31 rfl)<|O.op (.p rfl) (.sub rfl rfl (IntWalk.i64_in _ zE))<|O.q 1 rfl<|O.nil<|S.seq<|S.seq<|S.region rfl<|O.q 1 rfl<|O.op (.p rfl) (.lss rfl rfl)<|O.nil ?_
 first|refine S.condD rfl (fun h13=>?_) (fun h13=>?_)|refine S.condB rfl (fun h13=>?_) (fun h13=>?_)
 ·refine S.seq<|S.region rfl<|O.op (.p rfl) (.build (cs:=[_,_,_,_,_,_,_]) underlying74 rfl rfl rfl rfl rfl)<|O.opU rfl (.storeObj zB rfl rfl rfl rfl zC zH) ?_
  refine O.q 1 rfl<|O.nil<|S.retCellT results128 rfl rfl zC (LoadsAs.agg isAgg74 zB) fun w hw=>Holds.end_ hR hw ?_;exact pk (.inr ⟨recGet_short zE,rfl,rfl⟩)
 ·have h64:64≤b.length:=by omega
  have htl:(b.take (b.length - 64)).length≤1000000000:=by rw [List.length_take];omega
  refine S.skip<|S.seq<|S.region rfl<|O.q 2 rfl<|O.sliceTo (b:=b.length - 64) (.p rfl) underlying31 size5 rfl rfl zD zI zI (fun u17 ha17=>?_);obtain ⟨a17,c17,rfl⟩:=ha17.shape;refine O.call0 (.p rfl) rfl zB rfl rfl (rdNew_c (by first|assumption|exact Arr.mono hg zD|exact Arr.left zD|exact Arr.left (Arr.mono hg zD)) zI) ?_;rintro _ _ ⟨b18,rfl,rfl⟩
  try simp only [zx1,zx2,zx3]
  refine O.q 1 rfl<|O.nil<|S.seq<|S.region rfl<|O.q 1 rfl<|O.callS (.p rfl) rfl zB rfl rfl zC rdByte_c ?_;rintro _ _ ⟨rfl,rfl⟩
  try simp only [zx1,zx2,zx3]
  refine O.nil (S.seq ?_);generalize hk:(RS.mk true (b.take (b.length - 64))).byte=k;have lk:k.2.rest.length≤1000000000:=by rw [← hk];exact Nat.le_trans (RS.byte_len _) htl
  have ly:=RS.bytes_out 64 k.2;refine S.regionJ (L:=[0,3,5,1,2,4,6,7,8,9]) (fun (p:Nat)=>[(6,.pointer (some ⟨p,0,none⟩))]) [(0,_),(2,_),(4,_),(5,_)] (fun (p:Nat)=>[RdP 226 b18 (k.2.bytes 64).2.num.2.num.2,obj p 74 [.string (str (k.2.bytes 64).1),.int .i64 (k.2.bytes 64).2.num.1,.int .i64 (k.2.bytes 64).2.num.2.num.1,.slice none 0 0,.bool false,.slice none 0 0,.slice none 0 0],obj b2 74 rec0]) (.cons rfl (.cons rfl (.cons rfl (.cons rfl (.nil))))) F.mixed zB (fun kk key=>?_) (fun p=>?_)
  ·refine OD.q 3 rfl<|OD.callS (.p rfl) zB rfl zB rfl rfl zC (rdBytes_c _ zI) ?_
   rintro _ _ ⟨a22,c22,rfl,rfl⟩
   try simp only [zx1,zx2,zx3]
   refine OD.alt2 2 4 [4,6,7,8,9] [2,6,7,8,9] zB rfl rfl ?_ ?_
   ·refine ODt.toStrO (.p rfl) zB underlying31 underlying5 underlying9 rfl zC ?_
    refine OD.callS (.p rfl) zB rfl zB rfl rfl zC rdNumber_c ?_;rintro _ _ ⟨rfl,rfl⟩
    try simp only [zx1,zx2,zx3]
    refine OD.callS (.p rfl) zB rfl zB rfl rfl zC rdNumber_c ?_;rintro _ _ ⟨rfl,rfl⟩
    try simp only [zx1,zx2,zx3]
    refine .quiet (.p rfl) rfl (fun _=>.build (cs:=[_,_,_,_,_,_,_]) underlying74 rfl rfl rfl rfl rfl)<|.lazy rfl zB rfl fun b6=>?_;refine OD.storeObj rfl zB zB rfl rfl rfl rfl zC zH ?_;refine ODx.nil<|S.pk ?_ (S.weaken (Sub.app (.cons rfl (.nil)) (.cons rfl (.cons rfl (.cons rfl (.cons rfl (.nil)))))) (key b6))
    try dsimp only
    repeat (first|exact zpa|exact zpn|(apply zpc;focus (repeat (first|exact zh|apply zt)))|apply zps)
   ·refine ODt.callS (.p rfl) zB rfl zB rfl rfl zC rdNumber_c ?_
    rintro _ _ ⟨rfl,rfl⟩
    try simp only [zx1,zx2,zx3]
    refine OD.alt2 2 6 [6,7,8,9] [2,7,8,9] zB rfl rfl ?_ ?_
    ·refine ODt.toStrO (.p rfl) zB underlying31 underlying5 underlying9 rfl zC ?_
     refine OD.callS (.p rfl) zB rfl zB rfl rfl zC rdNumber_c ?_;rintro _ _ ⟨rfl,rfl⟩
     try simp only [zx1,zx2,zx3]
     refine .quiet (.p rfl) rfl (fun _=>.build (cs:=[_,_,_,_,_,_,_]) underlying74 rfl rfl rfl rfl rfl)<|.lazy rfl zB rfl fun b6=>?_;refine OD.storeObj rfl zB zB rfl rfl rfl rfl zC zH ?_;refine ODx.nil<|S.pk ?_ (S.weaken (Sub.app (.cons rfl (.nil)) (.cons rfl (.cons rfl (.cons rfl (.cons rfl (.nil)))))) (key b6))
     try dsimp only
     repeat (first|exact zpa|exact zpn|(apply zpc;focus (repeat (first|exact zh|apply zt)))|apply zps)
    ·refine ODt.callS (.p rfl) zB rfl zB rfl rfl zC rdNumber_c ?_
     rintro _ _ ⟨rfl,rfl⟩
     try simp only [zx1,zx2,zx3]
     refine OD.toStrO (.p rfl) zB underlying31 underlying5 underlying9 rfl zC ?_;refine .quiet (.p rfl) rfl (fun _=>.build (cs:=[_,_,_,_,_,_,_]) underlying74 rfl rfl rfl rfl rfl)<|.lazy rfl zB rfl fun b6=>?_;refine OD.storeObj rfl zB zB rfl rfl rfl rfl zC zH ?_;refine ODx.nil<|S.pk ?_ (S.weaken (Sub.app (.cons rfl (.nil)) (.cons rfl (.cons rfl (.cons rfl (.cons rfl (.nil)))))) (key b6))
     try dsimp only
     repeat (first|exact zpa|exact zpn|(apply zpc;focus (repeat (first|exact zh|apply zt)))|apply zps)
  generalize hy:k.2.bytes 64=y at ly ⊢;have ly2:y.2.rest.length≤1000000000:=by rw [← hy];exact Nat.le_trans (RS.bytes_len _ _) lk
  generalize hc:y.2.num=c;have lc:c.2.rest.length≤1000000000:=by rw [← hc];exact Nat.le_trans (RS.num_len _) ly2
  have ic:InI64 c.1:=by rw [← hc];exact RS.num_in _
  generalize hq:c.2.num=q;have lq:q.2.rest.length≤1000000000:=by rw [← hq];exact Nat.le_trans (RS.num_len _) lc
  have iq:InI64 q.1:=by rw [← hq];exact RS.num_in _
  refine S.seq<|S.seq<|S.region rfl<|O.q 1 rfl<|O.callS (.p rfl) rfl zB rfl rfl zC (rdCount_c _) ?_;rintro _ _ ⟨rfl,rfl⟩
  try simp only [zx1,zx2,zx3]
  refine O.q 1 rfl<|O.nil (S.block ?_);generalize hn:q.2.count 8=n;have ln:n.2.rest.length≤1000000000:=by rw [← hn];exact Nat.le_trans (RS.count_len _ _) lq
  obtain ⟨n0,n8⟩:0≤n.1∧n.1≤8:=by rw [← hn];exact RS.count_bd _ _ zF
  refine S.addNil (T:=DotRp) (e:=166) ?_;refine S.loopK2 (ι:=Nat) (κ:=Option Addr × Nat) (fun i a=>i≤n.1.toNat) (fun i a=>[(31,.int .i64 (i:Int))]) [(0,_),(2,_),(4,_),(5,_),(6,_),(30,_)] (fun i a=>[OwnP DotRp 166 (.slice a.1 i a.2) (dotsP i n.2).1,RdP 226 b18 (dotsP i n.2).2,obj p 74 [.string (str y.1),.int .i64 c.1,.int .i64 q.1,.slice a.1 i a.2,.bool false,.slice none 0 0,.slice none 0 0],obj b2 74 rec0]) (fun i a=>n.1.toNat - i) (0) ((none,0)) zJ (.cons rfl (.nil)) (.cons rfl (.cons rfl (.cons rfl (.cons rfl (.cons rfl (.cons rfl (.nil))))))) rfl fun i a hx ih=>?_;have hm1:=meltRefl (g:=g);refine S.seq<|S.region rfl<|O.op (.p rfl) (.lss rfl rfl)<|O.nil (S.seq ?_)
  first|refine S.condD rfl (fun h32=>?_) (fun h32=>?_)|refine S.condB rfl (fun h32=>?_) (fun h32=>?_)
  ·have hi:i<n.1.toNat:=by omega
   have hg_o:=hg;have hR_o:=hR
   try have ha_o:=ha
   try have ha17_o:=ha17
   refine S.frzH (B:=obj p 74 [.string (str y.1),.int .i64 c.1,.int .i64 q.1,.slice a.1 i a.2,.bool false,.slice none 0 0,.slice none 0 0]) zC fun go hso ⟨mo,hmo,hsmo⟩ hbo=>?_;replace hg:=Fr.sub_trans hg hso;replace hR:=backR hR hbo
   try replace ha:=ha.mono hso
   try replace ha17:=ha17.mono hso
   have hat:=(obj_at hmo).mono hsmo;refine S.skip<|S.seq<|S.block<|S.regionD (L:=[0,1,2,4,3,5,6,7,8,9,10]) F.mixed zB<|.quiet (.p rfl) rfl (fun _=>.fieldAddr fld74x3 rfl)<|.quiet (.p rfl) rfl (fun _=>.loadAt flat72 rfl (hat.drop 3) rfl) ?_;refine OD.q 2 rfl<|OD.callS (.p rfl) zB rfl zB rfl rfl zC rdNumber_c ?_;rintro _ _ ⟨rfl,rfl⟩
   try simp only [zx1,zx2,zx3]
   refine OD.callS (.p rfl) zB rfl zB rfl rfl zC rdNumber_c ?_;rintro _ _ ⟨rfl,rfl⟩
   try simp only [zx1,zx2,zx3]
   refine .quiet (.p rfl) rfl (fun _=>.build (cs:=[_,_]) underlying166 rfl rfl rfl rfl rfl)<|OD.litP (T:=DotRp) (ys:=[_]) (.p rfl) zB underlying72 elem166 zF rfl rfl ⟨(DotRp.mk (RS.num_in _) (RS.num_in _)),trivial⟩ zF (fun a40 c40=>?_);refine OD.appendO (.p rfl) zB (T:=DotRp) underlying72 elem166 zF rfl rfl zC zC zI zI (fun a41 c41=>?_);refine .quiet (.p rfl) rfl (fun _=>.fieldAddr fld74x3 rfl)<|OD.last1 rfl zB (fun _ hw=>hbo hw) flat72 rfl rfl zK zC (by first|(simp;done)|(simp;omega)) ?_;replace hg:=hg_o;replace hR:=hR_o
   try replace ha:=ha_o
   try replace ha17:=ha17_o
   clear hg_o hR_o;refine S.inBlock<|S.region rfl<|O.op (.p rfl) (.add rfl rfl (IntWalk.i64_in _ zE))<|O.q 1 rfl<|O.nil ?_;simp only [dotsP_length,List.length_singleton];exact S.pw (ih (i+1) ((a41,c41)) zE zE)
  ·clear ih
   have hi:i=n.1.toNat:=by omega
   subst hi;generalize hd:dotsP n.1.toNat n.2=d;have ld:d.2.rest.length≤1000000000:=by rw [← hd];exact Nat.le_trans (dotsP_len _ _) ln
   have ldn:d.1.length=n.1.toNat:=by rw [← hd];exact dotsP_length _ _
   have id:∀ z∈d.1,dot64 z:=by rw [← hd];exact dotsP_in _ _
   rw [← ldn];refine S.exit rfl<|S.seq<|S.region rfl<|O.q 1 rfl<|O.callS (.p rfl) rfl zB rfl rfl zC rdByte_c ?_;rintro _ _ ⟨rfl,rfl⟩
   try simp only [zx1,zx2,zx3]
   refine O.op (.p rfl) (.neq rfl rfl)<|O.slot 46 (v' :=.bool (decide (d.2.byte.1≠0))) rfl (by simp [← UInt8.toNat_inj]) ?_;refine O.op (.p rfl) (.fieldObj fld74x4 rfl)<|O.opU rfl (.store1 flat4 rfl rfl zK zC zH) ?_;refine O.nil (S.seq ?_);generalize hg2:d.2.byte=g2;have lg2:g2.2.rest.length≤1000000000:=by rw [← hg2];exact Nat.le_trans (RS.byte_len _) ld
   refine S.regionD (L:=[0,2,3,4,1,6,5,7,8,9]) F.mixed zB ?_;refine OD.q 3 rfl<|OD.sliceFrom (a:=b.length - 64) (.p rfl) underlying31 size5 rfl rfl zD zI zI (fun u52 ha52=>?_);obtain ⟨a52,c52,rfl⟩:=ha52.shape;refine OD.callS (.p rfl) zB rfl zB rfl rfl zC (rdBytes_c _ zI) ?_;rintro _ _ ⟨a49,c49,rfl,rfl⟩
   try simp only [zx1,zx2,zx3]
   refine .quiet (.p rfl) rfl (fun _=>.fieldObj fld74x5 rfl)<|OD.call0 (.p rfl) zB rfl zB rfl rfl (cloneB_c (by first|assumption|exact Arr.mono hg zD|exact Arr.left zD|exact Arr.left (Arr.mono hg zD)) zI) ?_;rintro _ _ ⟨a53,c53,rfl,rfl⟩
   try simp only [zx1,zx2,zx3]
   refine OD.store1 rfl zB flat31 rfl rfl zK zC zH ?_;refine .quiet (.p rfl) rfl (fun _=>.fieldObj fld74x6 rfl)<|OD.store1 rfl zB flat31 rfl rfl zK zC zH ?_;refine ODx.nil (S.seq ?_);generalize hv:g2.2.bytes 1024=v;have hX:recIn b=(y.1,c.1,q.1,d.1,decide (g2.1≠0),v.1,b.drop (b.length - 64),()):=by subst hv hg2 hd hn hq hc hy hk;rfl
   have hS:(recHd b).s=v.2:=by subst hv hg2 hd hn hq hc hy hk;rfl
   have hyes:=recGet_yes (b:=b);have hno:=recGet_no (b:=b);rw [hX] at hyes hno;rw [hS] at hno;have hrel:∀ {m:Fr} (v3 v5 v6:Value),Arr DotRp m v3 d.1→Arr Rp.u8 m v5 v.1→Arr Rp.u8 m v6 (b.drop (b.length - 64))→RecRp.rel m [.string (str y.1),.int .i64 c.1,.int .i64 q.1,v3,.bool (decide (g2.1≠0)),v5,v6] (y.1,c.1,q.1,d.1,decide (g2.1≠0),v.1,b.drop (b.length - 64),()):=fun v3 v5 v6 h3 h5 h6=>RecRp.mk zE ic iq h3 h5 h6;clear hX hS;generalize hXX:((y.1,c.1,q.1,d.1,decide (g2.1≠0),v.1,b.drop (b.length - 64),()):RecT)=X at hyes hno hrel;refine S.region rfl<|O.op (.p rfl) (.loA (news:=[_,_,_,_,_,_,_]) isAgg74) ?_;refine O.callB (.p rfl) rfl zB rfl rfl (bs:=[OwnP DotRp 166 (.slice a.1 d.1.length a.2) d.1,OwnP Rp.u8 5 (.slice a49 v.1.length c49) v.1,OwnP Rp.u8 5 (.slice a53 (b.drop (b.length - 64)).length c53) (b.drop (b.length - 64))]) zM (fun m hm hd' =>rPut_c (x:=X) (hrel _ _ _ (hm.arr.right hd') (hm.tail.arr.right hd') (hm.tail.tail.arr.right hd'))) ?_;rintro _ _ ⟨a58,c58,rfl,rfl⟩
   try simp only [zx1,zx2,zx3]
   refine O.q 5 rfl<|O.nil (S.seq (S.seq ?_))
   cases e1:v.2.done with
   |false =>
    refine S.region rfl<|O.q 1 rfl<|O.callS (.p rfl) rfl zB rfl rfl zC rdDone_c ?_;rintro _ _ ⟨rfl,rfl⟩
    try simp only [zx1,zx2,zx3]
    refine O.sF 62 rfl (by exact e1) ?_;refine O.op (.p rfl) (.not rfl)<|O.q 10 rfl<|O.nil<|S.condT rfl<|S.seq<|S.region rfl<|O.op (.p rfl) (.build (cs:=[_,_,_,_,_,_,_]) underlying74 rfl rfl rfl rfl rfl)<|O.opU rfl (.storeObj zB rfl rfl rfl rfl zC zH) ?_;refine O.q 1 rfl<|O.nil<|S.retCellT results128 rfl rfl zC (LoadsAs.agg isAgg74 zB) fun w hw=>Holds.end_ hR hw ?_;exact pk (.inr ⟨hno fun q=>by rw [e1] at q;exact absurd q.1 zF,rfl,rfl⟩)
   |true =>
    cases e2:recOk X with
    |false =>
     refine S.region rfl<|O.q 1 rfl<|O.callS (.p rfl) rfl zB rfl rfl zC rdDone_c ?_;rintro _ _ ⟨rfl,rfl⟩
     try simp only [zx1,zx2,zx3]
     refine O.sT 62 rfl (by exact e1) ?_;refine O.op (.p rfl) (.not rfl)<|O.q 2 rfl<|O.op (.g rfl rfl) (.neq rfl rfl)<|O.sT 66 rfl (by simp [recErr,e2]) ?_;refine O.q 7 rfl<|O.nil<|S.condT rfl<|S.seq<|S.region rfl<|O.op (.p rfl) (.build (cs:=[_,_,_,_,_,_,_]) underlying74 rfl rfl rfl rfl rfl)<|O.opU rfl (.storeObj zB rfl rfl rfl rfl zC zH) ?_;refine O.q 1 rfl<|O.nil<|S.retCellT results128 rfl rfl zC (LoadsAs.agg isAgg74 zB) fun w hw=>Holds.end_ hR hw ?_;exact pk (.inr ⟨hno fun q=>by rw [e2] at q;exact absurd q.2.1 zF,rfl,rfl⟩)
    |true =>
     by_cases e3:recB X=b
     ·
      refine S.region rfl<|O.q 1 rfl<|O.callS (.p rfl) rfl zB rfl rfl zC rdDone_c ?_;rintro _ _ ⟨rfl,rfl⟩
      try simp only [zx1,zx2,zx3]
      refine O.sT 62 rfl (by exact e1) ?_;refine O.op (.p rfl) (.not rfl)<|O.q 2 rfl<|O.op (.g rfl rfl) (.neq rfl rfl)<|O.sF 66 rfl (by simp [recErr,e2]) ?_;refine O.q 4 rfl<|O.callB (.g rfl rfl) rfl zB rfl rfl (bs:=[OwnP Rp.u8 5 (.slice a58 (recOut X).length c58) (recOut X)]) zM (fun m hm hd' =>bequal_c (hm.arr.right hd') ha.left) ?_;rintro _ _ ⟨rfl,rfl⟩
      try simp only [zx1,zx2,zx3]
      refine O.sT 71 rfl (by exact decide_eq_true (by rw [recOut,if_pos e2];exact e3)) ?_;refine O.op (.g rfl rfl) (.not rfl)<|O.q 1 rfl<|O.nil<|S.condF rfl<|S.skip<|S.seq<|S.region rfl<|O.op (.p rfl) (.loA (news:=[_,_,_,_,_,_,_]) isAgg74) ?_;refine O.opU rfl (.storeObj zB rfl rfl rfl rfl zC zH) ?_;refine O.q 1 rfl<|O.nil<|S.retCellT results128 rfl rfl zC (LoadsAs.agg isAgg74 zB) fun w hw=>Holds.end_ hR hw ?_;have hy' :=hyes e2 e3;subst hXX;exact pk (.inl ⟨_,a.1,a.2,a49,c49,a53,c53,hy',rfl,rfl⟩)
     ·
      refine S.region rfl<|O.q 1 rfl<|O.callS (.p rfl) rfl zB rfl rfl zC rdDone_c ?_;rintro _ _ ⟨rfl,rfl⟩
      try simp only [zx1,zx2,zx3]
      refine O.sT 62 rfl (by exact e1) ?_;refine O.op (.p rfl) (.not rfl)<|O.q 2 rfl<|O.op (.g rfl rfl) (.neq rfl rfl)<|O.sF 66 rfl (by simp [recErr,e2]) ?_;refine O.q 4 rfl<|O.callB (.g rfl rfl) rfl zB rfl rfl (bs:=[OwnP Rp.u8 5 (.slice a58 (recOut X).length c58) (recOut X)]) zM (fun m hm hd' =>bequal_c (hm.arr.right hd') ha.left) ?_;rintro _ _ ⟨rfl,rfl⟩
      try simp only [zx1,zx2,zx3]
      refine O.sF 71 rfl (by exact decide_eq_false (by rw [recOut,if_pos e2];exact e3)) ?_;refine O.op (.g rfl rfl) (.not rfl)<|O.q 1 rfl<|O.nil<|S.condT rfl<|S.seq<|S.region rfl<|O.op (.p rfl) (.build (cs:=[_,_,_,_,_,_,_]) underlying74 rfl rfl rfl rfl rfl)<|O.opU rfl (.storeObj zB rfl rfl rfl rfl zC zH) ?_;refine O.q 1 rfl<|O.nil<|S.retCellT results128 rfl rfl zC (LoadsAs.agg isAgg74 zB) fun w hw=>Holds.end_ hR hw ?_;exact pk (.inr ⟨hno fun q=>e3 q.2.2,rfl,rfl⟩)
theorem rGetY_c {r:Fr} {va:Value} {b:List UInt8} {x:RecT} (e:recGet b=some x) (ha:Arr Rp.u8 r va b) (hl:b.length≤1000000000) :
  Con prog 128 #[va] r [] (Ret fun v η=>∃ a3 c3 a5 c5 a6 c6,v=.tuple #[.agg (recV x (.slice a3 x.2.2.2.1.length c3) (.slice a5 x.2.2.2.2.2.1.length c5) (.slice a6 x.2.2.2.2.2.2.1.length c6)).toArray,.int .i64 0]∧η=recWs x (.slice a3 x.2.2.2.1.length c3) (.slice a5 x.2.2.2.2.2.1.length c5) (.slice a6 x.2.2.2.2.2.2.1.length c6)) :=
 (rGet_c ha hl).mono (Ret.imp fun v η h=>by
  rcases h with ⟨y,a3,c3,a5,c5,a6,c6,h1,h2,h3⟩|⟨h1,_⟩
  ·rw [e] at h1;obtain rfl:=Option.some.inj h1;exact ⟨a3,c3,a5,c5,a6,c6,h2,h3⟩
  ·rw [e] at h1;cases h1)
theorem rGetN_c {r:Fr} {va:Value} {b:List UInt8} (e:recGet b=none) (ha:Arr Rp.u8 r va b) (hl:b.length≤1000000000) :
  Con prog 128 #[va] r [] (Ret fun v η=>v=.tuple #[.agg rec0.toArray,.int .i64 4]∧η=[]) :=
 (rGet_c ha hl).mono (Ret.imp fun v η h=>by
  rcases h with ⟨y,a3,c3,a5,c5,a6,c6,h1,_⟩|⟨_,h2,h3⟩
  ·rw [e] at h1;cases h1
  ·exact ⟨h2,h3⟩)
theorem triedSS_ret {g:Gr} {be bx:Nat} {x:Value} {z:Int} {T1 T2:TypeId} {w:World} {R:Ending→World→Prop} {η:List SProp} (hw:Holds w g (obj bx T1 [x]::obj be T2 [.int .i64 z]::η)) (hR:∀ w,Holds w g (obj bx T1 [x]::obj be T2 [.int .i64 z]::η)→R (.returned (.tuple #[x,.int .i64 z])) w) :
  CallsD prog 203 #[.pointer (some ⟨be,0,none⟩),.pointer (some ⟨bx,0,none⟩)] .returning w (DPost2 prog g bx be 47 32 R):=by
 refine (callsD_rec (R:=fun e w=>(∃ v,e=.returned v)∧Holds w g (obj bx T1 [x]::obj be T2 [.int .i64 z]::η)) [.pointer (some ⟨be,0,none⟩),.pointer (some ⟨bx,0,none⟩)] rfl func203 rfl rfl rfl rfl hw ?_).mono ?_
 rotate_left
 ·rintro e u' w' ⟨rfl,⟨v,rfl⟩,h⟩
  exact ⟨⟨v,rfl⟩,rfl,T1,T2,_,_,_,_,η,h,LoadsAs.flat flat47,LoadsAs.flat flat32,hR w' h⟩
 refine S.seq<|S.region rfl<|O.q 1 rfl<|O.op (.p rfl) (.neqIN underlying20 rfl)<|O.nil<|S.condF rfl<|S.skip<|S.end0 results203 fun w hw=>?_;exact ⟨⟨_,rfl⟩,hw⟩
theorem triedSS_pan {g:Gr} {be bx:Nat} {x:Value} {z z' :Int} {T1 T2:TypeId} {w:World} {R:Ending→World→Prop} {η:List SProp} (hw:Holds w g (obj bx T1 [x]::obj be T2 [.int .i64 z']::η))
  (hR:∀ w,Holds w g (obj bx T1 [.slice none 0 0]::obj be T2 [.int .i64 z]::η)→R (.returned (.tuple #[.slice none 0 0,.int .i64 z])) w) :
  CallsD prog 203 #[.pointer (some ⟨be,0,none⟩),.pointer (some ⟨bx,0,none⟩)] (.panicking (errP 32 z)) w (DPost2 prog g bx be 47 32 R):=by
 refine (callsD_rec (R:=fun e w=>(∃ v,e=.returned v)∧Holds w g (obj bx T1 [.slice none 0 0]::obj be T2 [.int .i64 z]::η)) [.pointer (some ⟨be,0,none⟩),.pointer (some ⟨bx,0,none⟩)] rfl func203 rfl rfl rfl rfl hw ?_).mono ?_
 rotate_left
 ·rintro e u' w' ⟨rfl,⟨v,rfl⟩,h⟩
  exact ⟨⟨v,rfl⟩,rfl,T1,T2,_,_,_,_,η,h,LoadsAs.flat flat47,LoadsAs.flat flat32,hR w' h⟩
 refine S.seq<|S.region rfl<|O.q 1 rfl<|O.op (.p rfl) (.neqIV underlying20 rfl)<|O.nil<|S.condT rfl<|S.seq<|S.region rfl<|O.q 1 rfl<|O.nil<|S.seq<|S.seq<|S.region rfl<|O.q 1 rfl<|O.op (.p rfl) (.assertYes underlying32 rfl)<|O.q 3 rfl<|O.opU rfl (.store1 flat32 rfl rfl zK zC zH) ?_;refine O.q 1 rfl<|O.nil<|S.seq<|S.region rfl<|O.q 1 rfl<|O.op (.p rfl) (.not rfl)<|O.nil<|S.condF rfl<|S.skip<|S.seq<|S.region rfl<|O.q 1 rfl<|O.nil<|S.region rfl<|O.q 1 rfl<|O.opU rfl (.store1 flat47 rfl rfl zK zC zH) ?_;refine O.nil<|S.end0 results203 fun w hw=>?_;exact ⟨⟨_,rfl⟩,hw.picks zN⟩
theorem triedSS_c {r:Fr} {f:Nat} {first cap:Array Value} {K:Value→List SProp→Prop} {X:Int→Prop} (hc:callable prog f=true) (hf1:(Value.func (.func f) first cap).oneCell' =true) (hK1:∀ u ζ,K u ζ→u.oneCell' =true)
  (con:Con prog f (first++#[]++cap) r [] (RetP K (fun ch η=>∃ z,ch=errP 32 z∧X z∧η=[]))) :
  Con prog 102 #[.func (.func f) first cap] r [] (Ret fun v η=>(∃ u,K u η∧v=.tuple #[u,.int .i64 0])∨(∃ z,X z∧η=[]∧v=.tuple #[.slice none 0 0,.int .i64 z])):=by
 refine Con.of (n:=7) [.func (.func f) first cap] rfl func102 rfl rfl rfl fun g hg R hR=>?_;refine S.seq<|S.region rfl<|O.opE (.p rfl) (.alloc (cs:=[.slice none 0 0]) zeroValue47 rfl) ?_;rintro _ _ ⟨b2,rfl,rfl⟩;refine O.opE (.p rfl) (.alloc (cs:=[.int .i64 0]) zeroValue32 rfl) ?_;rintro _ _ ⟨b3,rfl,rfl⟩;refine O.nil<|S.seq<|S.region rfl<|O.op (.p rfl) (.mkFunc rfl rfl)<|O.defer rfl rfl rfl rfl ?_;refine O.nil<|S.seq<|S.region rfl<|O.q 1 rfl<|O.callP0D (.p rfl) rfl hc rfl rfl (con.sub hg) (fun a ch η' w hF hX hW=>by (obtain ⟨z,rfl,hx,rfl⟩:=hX;exact leavesCell2 results102 hF rfl rfl zJ zB (triedSS_pan (hW.picks zN) fun w hw=>Holds.end_ hR hw ⟨_,.inr ⟨z,hx,rfl,rfl⟩,by repeat (first|exact zpa|exact zpn|(apply zpc;focus (repeat (first|exact zh|apply zt)))|apply zps)⟩))) ?_;rintro v6 _ hk6
 try simp only [zx1,zx2,zx3]
 have hone:=hK1 _ _ hk6;refine O.perm (List.perm_append_comm) ?_;simp only [List.cons_append,List.nil_append];refine O.opU rfl (.store1 flat47 rfl rfl zK zC zH) ?_;refine O.opU rfl (.store1 flat32 rfl rfl zK zC zH) ?_;refine O.nil<|S.retL fun a w hf hd hw=>?_;exact leavesCell2 results102 hf rfl rfl zJ zB (triedSS_ret (hw.picks zN) fun w hw=>Holds.end_ hR hw ⟨_,.inl ⟨_,hk6,rfl⟩,by repeat (first|exact zpa|exact zpn|(apply zpc;focus (repeat (first|exact zh|apply zt)))|apply zps)⟩)
theorem dot_eq {x y:DotT} (h:(x.1,x.2.1)=(y.1,y.2.1)):x=y:=by
 obtain ⟨a,b,⟨⟩⟩:=x;obtain ⟨c,d,⟨⟩⟩:=y
 simp_all
theorem sameDots_c {r:Fr} {va vb:Value} {xs ys:List DotT} (ha:Arr DotRp r va xs) (hb:Arr DotRp r vb ys) :
  Con prog 125 #[va,vb] r [] (Ret fun v η=>v=.bool (decide (xs=ys))∧η=[]):=by
 have har:=ha;have hbr:=hb;refine Con.of (n:=26) _ rfl func125 rfl rfl rfl fun g hg R hR=>?_;have ha:=ha.mono hg;have hb:=hb.mono hg;have hbd:=ha.bound;obtain ⟨a1,c1,rfl⟩:=ha.shape;obtain ⟨a2,c2,rfl⟩:=hb.shape
 by_cases e0:xs.length=ys.length
 ·
  refine S.seq<|S.region rfl<|O.q 1 rfl<|O.nil<|S.seq<|S.seq<|S.region rfl<|O.q 1 rfl<|O.op (.p rfl) (.len rfl underlying72 rfl)<|O.q 1 rfl<|O.op (.p rfl) (.len rfl underlying72 rfl)<|O.op (.p rfl) (.neq rfl rfl)<|O.sF 10 rfl (by exact decide_eq_false zE) ?_;refine O.nil<|S.condF rfl<|S.skip<|S.seq<|S.seq<|S.region rfl<|O.q 1 rfl<|O.nil<|S.block<|S.loopK (ι:=Nat) (fun i=>i≤xs.length∧xs.take i=ys.take i) (fun i=>[(5,.int .i64 (i:Int))]) [(0,_),(1,_)] (fun i=>[]) (fun i=>xs.length - i) (0) zJ (.cons rfl (.nil)) (.cons rfl (.cons rfl (.nil))) rfl fun i hx ih=>?_;have hm1:=meltRefl (g:=g);obtain ⟨hx1,hx2⟩:=hx;refine S.seq<|S.seq<|S.region rfl<|O.q 2 rfl<|O.op (.p rfl) (.len rfl underlying72 rfl)<|O.op (.p rfl) (.lss rfl rfl)<|O.nil ?_
  first|refine S.condD rfl (fun h14=>?_) (fun h14=>?_)|refine S.condB rfl (fun h14=>?_) (fun h14=>?_)
  ·have hi:i<xs.length:=by omega
   have hi2:i<ys.length:=by omega
   by_cases e:xs[i]=ys[i]
   ·
    refine S.skip<|S.seq<|S.block<|S.seq<|S.regionD (L:=[0,1,2,3,4,5,6,7,8]) F.mixed zB<|OD.q 2 rfl<|OD.ib (.p rfl) underlying72 size166 rfl rfl rfl har hg (h:=fun p19 cs19 hp19 hrr19=>?_);have hr19:=Rp.rel.mono hrr19 hg;obtain ⟨rfl,hi19,hj19⟩:=DotRp.open hr19;refine .quiet (.p rfl) rfl (fun _=>.loadAgg isAgg166 zB rfl hp19) ?_;refine OD.q 2 rfl<|OD.ib (.p rfl) underlying72 size166 rfl rfl rfl hbr hg (h:=fun p23 cs23 hp23 hrr23=>?_);have hr23:=Rp.rel.mono hrr23 hg;obtain ⟨rfl,hi23,hj23⟩:=DotRp.open hr23;refine .quiet (.p rfl) rfl (fun _=>.loadAgg isAgg166 zB rfl hp23) ?_;refine .quiet (.p rfl) rfl (fun _=>.neqDot underlying166 underlying3 rfl rfl rfl rfl zF zF zB zB rfl rfl)<|OD.sF 25 rfl (by exact decide_eq_false (not_not_intro (by rw [e]))) ?_;refine ODx.nil<|S.condF rfl<|S.skip<|S.inBlock<|S.region rfl<|O.q 1 rfl<|O.op (.p rfl) (.add rfl rfl (IntWalk.i64_in _ zE))<|O.q 1 rfl<|O.nil ?_;exact S.wk (ih (i+1) (by exact ⟨by omega,take_same hi hi2 hx2 e⟩) zE)
   ·
    refine S.skip<|S.seq<|S.block<|S.seq<|S.regionD (L:=[0,1,2,3,4,5,6,7,8]) F.mixed zB<|OD.q 2 rfl<|OD.ib (.p rfl) underlying72 size166 rfl rfl rfl har hg (h:=fun p19 cs19 hp19 hrr19=>?_);have hr19:=Rp.rel.mono hrr19 hg;obtain ⟨rfl,hi19,hj19⟩:=DotRp.open hr19;refine .quiet (.p rfl) rfl (fun _=>.loadAgg isAgg166 zB rfl hp19) ?_;refine OD.q 2 rfl<|OD.ib (.p rfl) underlying72 size166 rfl rfl rfl hbr hg (h:=fun p23 cs23 hp23 hrr23=>?_);have hr23:=Rp.rel.mono hrr23 hg;obtain ⟨rfl,hi23,hj23⟩:=DotRp.open hr23;refine .quiet (.p rfl) rfl (fun _=>.loadAgg isAgg166 zB rfl hp23) ?_;refine .quiet (.p rfl) rfl (fun _=>.neqDot underlying166 underlying3 rfl rfl rfl rfl zF zF zB zB rfl rfl)<|OD.sT 25 rfl (by exact decide_eq_true (fun q=>e (dot_eq q))) ?_;refine ODx.nil<|S.condT rfl<|S.seq<|S.region rfl<|O.q 1 rfl<|O.nil ?_;exact S.rt results125 rfl hR ⟨congrArg _ (decide_eq_false (not_same hi hi2 e)).symm,rfl⟩
  ·have hi:i=xs.length:=by omega
   clear ih;subst hi;rw [List.take_length,e0,List.take_length] at hx2;refine S.exit rfl<|S.seq<|S.region rfl<|O.q 1 rfl<|O.nil ?_;exact S.rt results125 rfl hR ⟨by simp [hx2],rfl⟩
 ·
  refine S.seq<|S.region rfl<|O.q 1 rfl<|O.nil<|S.seq<|S.seq<|S.region rfl<|O.q 1 rfl<|O.op (.p rfl) (.len rfl underlying72 rfl)<|O.q 1 rfl<|O.op (.p rfl) (.len rfl underlying72 rfl)<|O.op (.p rfl) (.neq rfl rfl)<|O.sT 10 rfl (by exact decide_eq_true zE) ?_;refine O.nil<|S.condT rfl<|S.seq<|S.region rfl<|O.q 1 rfl<|O.nil ?_;exact S.rt results125 rfl hR ⟨congrArg _ (decide_eq_false (fun h=>e0 (by rw [h]))).symm,rfl⟩
theorem sameRecord_eq {x y:RecT} (h0:x.1=y.1) (h1:x.2.1=y.2.1) (h2:x.2.2.1=y.2.2.1) (h3:x.2.2.2.1=y.2.2.2.1) (h4:x.2.2.2.2.1=y.2.2.2.2.1) (h5:x.2.2.2.2.2.1=y.2.2.2.2.2.1) (h6:x.2.2.2.2.2.2.1=y.2.2.2.2.2.2.1):x=y:=by
 obtain ⟨a0,a1,a2,a3,a4,a5,a6,⟨⟩⟩:=x;obtain ⟨b0,b1,b2,b3,b4,b5,b6,⟨⟩⟩:=y
 simp_all
theorem sameRecord_c {r:Fr} {cs ds:List Value} {x y:RecT} (hx:RecRp.rel r cs x) (hy:RecRp.rel r ds y) :
  Con prog 49 #[.agg cs.toArray,.agg ds.toArray] r [] (Ret fun v η=>v=.bool (decide (x=y))∧η=[]):=by
 obtain ⟨xa3,xa5,xa6,xc3,xc5,xc6,rfl,xk0,xk1,xk2,xk3,xk5,xk6⟩:=RecRp.sh hx;obtain ⟨ya3,ya5,ya6,yc3,yc5,yc6,rfl,yk0,yk1,yk2,yk3,yk5,yk6⟩:=RecRp.sh hy;refine Con.of (n:=52) _ rfl func49 rfl rfl rfl fun g hg R hR=>?_;have xk3:=xk3.mono hg;have xk5:=xk5.mono hg;have xk6:=xk6.mono hg;have yk3:=yk3.mono hg;have yk5:=yk5.mono hg;have yk6:=yk6.mono hg;refine S.seq<|S.region rfl<|O.opE (.p rfl) (.box (cs:=[_,_,_,_,_,_,_]) rfl rfl) ?_;rintro _ _ ⟨b2,rfl,rfl⟩;refine O.opE (.p rfl) (.box (cs:=[_,_,_,_,_,_,_]) rfl rfl) ?_;rintro _ _ ⟨b3,rfl,rfl⟩;refine O.q 1 rfl<|O.nil<|S.seq<|S.region rfl<|O.op (.p rfl) (.fieldObj fld74x0 rfl)<|O.op (.p rfl) (.lo flat9) ?_;refine O.op (.p rfl) (.fieldObj fld74x0 rfl)<|O.op (.p rfl) (.lo flat9) ?_;refine O.op (.p rfl) (.eqlS rfl rfl)<|O.q 1 rfl ?_
 first|refine O.caseD 10 rfl (fun h10=>?_) (fun h10=>?_)|refine O.caseB 10 rfl (fun h10=>?_) (fun h10=>?_)
 ·refine O.op (.g rfl rfl) (.fieldObj fld74x1 rfl)<|O.op (.g rfl rfl) (.lo flat3) ?_
  refine O.op (.g rfl rfl) (.fieldObj fld74x1 rfl)<|O.op (.g rfl rfl) (.lo flat3) ?_;refine O.op (.g rfl rfl) (.eql rfl rfl)<|O.q 2 rfl ?_
  first|refine O.caseD 17 rfl (fun h17=>?_) (fun h17=>?_)|refine O.caseB 17 rfl (fun h17=>?_) (fun h17=>?_)
  ·refine O.op (.g rfl rfl) (.fieldObj fld74x2 rfl)<|O.op (.g rfl rfl) (.lo flat3) ?_
   refine O.op (.g rfl rfl) (.fieldObj fld74x2 rfl)<|O.op (.g rfl rfl) (.lo flat3) ?_;refine O.op (.g rfl rfl) (.eql rfl rfl)<|O.q 2 rfl ?_
   first|refine O.caseD 24 rfl (fun h24=>?_) (fun h24=>?_)|refine O.caseB 24 rfl (fun h24=>?_) (fun h24=>?_)
   ·refine O.op (.g rfl rfl) (.fieldObj fld74x3 rfl)<|O.op (.g rfl rfl) (.lo flat72) ?_
    refine O.op (.g rfl rfl) (.fieldObj fld74x3 rfl)<|O.op (.g rfl rfl) (.lo flat72) ?_;refine O.call0 (.g rfl rfl) rfl zB rfl rfl (sameDots_c (by first|assumption|exact Arr.mono hg zD|exact Arr.left zD|exact Arr.left (Arr.mono hg zD)) (by first|assumption|exact Arr.mono hg zD|exact Arr.left zD|exact Arr.left (Arr.mono hg zD))) ?_;rintro _ _ ⟨rfl,rfl⟩
    try simp only [zx1,zx2,zx3]
    refine O.q 2 rfl ?_
    first|refine O.caseD 31 rfl (fun h31=>?_) (fun h31=>?_)|refine O.caseB 31 rfl (fun h31=>?_) (fun h31=>?_)
    ·refine O.op (.g rfl rfl) (.fieldObj fld74x4 rfl)<|O.op (.g rfl rfl) (.lo flat4) ?_
     refine O.op (.g rfl rfl) (.fieldObj fld74x4 rfl)<|O.op (.g rfl rfl) (.lo flat4) ?_;refine O.op (.g rfl rfl) (.eqlB underlying4 rfl rfl)<|O.q 2 rfl ?_
     first|refine O.caseD 38 rfl (fun h38=>?_) (fun h38=>?_)|refine O.caseB 38 rfl (fun h38=>?_) (fun h38=>?_)
     ·refine O.op (.g rfl rfl) (.fieldObj fld74x5 rfl)<|O.op (.g rfl rfl) (.lo flat31) ?_
      refine O.op (.g rfl rfl) (.fieldObj fld74x5 rfl)<|O.op (.g rfl rfl) (.lo flat31) ?_;refine O.call0 (.g rfl rfl) rfl zB rfl rfl (SameBytes_c (by first|assumption|exact Arr.mono hg zD|exact Arr.left zD|exact Arr.left (Arr.mono hg zD)) (by first|assumption|exact Arr.mono hg zD|exact Arr.left zD|exact Arr.left (Arr.mono hg zD))) ?_;rintro _ _ ⟨rfl,rfl⟩
      try simp only [zx1,zx2,zx3]
      refine O.q 2 rfl ?_
      first|refine O.caseD 45 rfl (fun h45=>?_) (fun h45=>?_)|refine O.caseB 45 rfl (fun h45=>?_) (fun h45=>?_)
      ·refine O.op (.g rfl rfl) (.fieldObj fld74x6 rfl)<|O.op (.g rfl rfl) (.lo flat31) ?_
       refine O.op (.g rfl rfl) (.fieldObj fld74x6 rfl)<|O.op (.g rfl rfl) (.lo flat31) ?_;refine O.call0 (.g rfl rfl) rfl zB rfl rfl (SameBytes_c (by first|assumption|exact Arr.mono hg zD|exact Arr.left zD|exact Arr.left (Arr.mono hg zD)) (by first|assumption|exact Arr.mono hg zD|exact Arr.left zD|exact Arr.left (Arr.mono hg zD))) ?_;rintro _ _ ⟨rfl,rfl⟩
       try simp only [zx1,zx2,zx3]
       refine O.q 2 rfl<|O.nil<|S.ret results49 rfl fun w hw=>Holds.end_ hR hw ?_
       first|exact ⟨_,⟨congrArg _ (decide_eq_false (fun e=>by subst e;exact absurd rfl zD)).symm,rfl⟩,by repeat (first|exact zpa|exact zpn|(apply zpc;focus (repeat (first|exact zh|apply zt)))|apply zps)⟩|exact ⟨_,⟨congrArg _ (decide_eq_decide.2 ⟨fun e=>sameRecord_eq (str_eqL zD) zD zD zD zD zD e,fun e=>by rw [e]⟩),rfl⟩,by repeat (first|exact zpa|exact zpn|(apply zpc;focus (repeat (first|exact zh|apply zt)))|apply zps)⟩
      ·refine O.q 7 rfl<|O.nil<|S.ret results49 rfl fun w hw=>Holds.end_ hR hw ?_
       first|exact ⟨_,⟨congrArg _ (decide_eq_false (fun e=>by subst e;exact absurd rfl zD)).symm,rfl⟩,by repeat (first|exact zpa|exact zpn|(apply zpc;focus (repeat (first|exact zh|apply zt)))|apply zps)⟩|exact ⟨_,⟨congrArg _ (decide_eq_decide.2 ⟨fun e=>sameRecord_eq (str_eqL zD) zD zD zD zD zD e,fun e=>by rw [e]⟩),rfl⟩,by repeat (first|exact zpa|exact zpn|(apply zpc;focus (repeat (first|exact zh|apply zt)))|apply zps)⟩
     ·refine O.q 14 rfl<|O.nil<|S.ret results49 rfl fun w hw=>Holds.end_ hR hw ?_
      first|exact ⟨_,⟨congrArg _ (decide_eq_false (fun e=>by subst e;exact absurd rfl zD)).symm,rfl⟩,by repeat (first|exact zpa|exact zpn|(apply zpc;focus (repeat (first|exact zh|apply zt)))|apply zps)⟩|exact ⟨_,⟨congrArg _ (decide_eq_decide.2 ⟨fun e=>sameRecord_eq (str_eqL zD) zD zD zD zD zD e,fun e=>by rw [e]⟩),rfl⟩,by repeat (first|exact zpa|exact zpn|(apply zpc;focus (repeat (first|exact zh|apply zt)))|apply zps)⟩
    ·refine O.q 21 rfl<|O.nil<|S.ret results49 rfl fun w hw=>Holds.end_ hR hw ?_
     first|exact ⟨_,⟨congrArg _ (decide_eq_false (fun e=>by subst e;exact absurd rfl zD)).symm,rfl⟩,by repeat (first|exact zpa|exact zpn|(apply zpc;focus (repeat (first|exact zh|apply zt)))|apply zps)⟩|exact ⟨_,⟨congrArg _ (decide_eq_decide.2 ⟨fun e=>sameRecord_eq (str_eqL zD) zD zD zD zD zD e,fun e=>by rw [e]⟩),rfl⟩,by repeat (first|exact zpa|exact zpn|(apply zpc;focus (repeat (first|exact zh|apply zt)))|apply zps)⟩
   ·refine O.q 28 rfl<|O.nil<|S.ret results49 rfl fun w hw=>Holds.end_ hR hw ?_
    first|exact ⟨_,⟨congrArg _ (decide_eq_false (fun e=>by subst e;exact absurd rfl zD)).symm,rfl⟩,by repeat (first|exact zpa|exact zpn|(apply zpc;focus (repeat (first|exact zh|apply zt)))|apply zps)⟩|exact ⟨_,⟨congrArg _ (decide_eq_decide.2 ⟨fun e=>sameRecord_eq (str_eqL zD) zD zD zD zD zD e,fun e=>by rw [e]⟩),rfl⟩,by repeat (first|exact zpa|exact zpn|(apply zpc;focus (repeat (first|exact zh|apply zt)))|apply zps)⟩
  ·refine O.q 35 rfl<|O.nil<|S.ret results49 rfl fun w hw=>Holds.end_ hR hw ?_
   first|exact ⟨_,⟨congrArg _ (decide_eq_false (fun e=>by subst e;exact absurd rfl zD)).symm,rfl⟩,by repeat (first|exact zpa|exact zpn|(apply zpc;focus (repeat (first|exact zh|apply zt)))|apply zps)⟩|exact ⟨_,⟨congrArg _ (decide_eq_decide.2 ⟨fun e=>sameRecord_eq (str_eqL zD) zD zD zD zD zD e,fun e=>by rw [e]⟩),rfl⟩,by repeat (first|exact zpa|exact zpn|(apply zpc;focus (repeat (first|exact zh|apply zt)))|apply zps)⟩
 ·refine O.q 42 rfl<|O.nil<|S.ret results49 rfl fun w hw=>Holds.end_ hR hw ?_
  first|exact ⟨_,⟨congrArg _ (decide_eq_false (fun e=>by subst e;exact absurd rfl zD)).symm,rfl⟩,by repeat (first|exact zpa|exact zpn|(apply zpc;focus (repeat (first|exact zh|apply zt)))|apply zps)⟩|exact ⟨_,⟨congrArg _ (decide_eq_decide.2 ⟨fun e=>sameRecord_eq (str_eqL zD) zD zD zD zD zD e,fun e=>by rw [e]⟩),rfl⟩,by repeat (first|exact zpa|exact zpn|(apply zpc;focus (repeat (first|exact zh|apply zt)))|apply zps)⟩
theorem sameRecords_c {r:Fr} {va vb:Value} {xs ys:List RecT} (ha:Arr RecRp r va xs) (hb:Arr RecRp r vb ys) :
  Con prog 40 #[va,vb] r [] (Ret fun v η=>v=.bool (decide (xs=ys))∧η=[]):=by
 have har:=ha;have hbr:=hb;refine Con.of (n:=27) _ rfl func40 rfl rfl rfl fun g hg R hR=>?_;have ha:=ha.mono hg;have hb:=hb.mono hg;have hbd:=ha.bound;obtain ⟨a1,c1,rfl⟩:=ha.shape;obtain ⟨a2,c2,rfl⟩:=hb.shape
 by_cases e0:xs.length=ys.length
 ·
  refine S.seq<|S.region rfl<|O.q 1 rfl<|O.nil<|S.seq<|S.seq<|S.region rfl<|O.q 1 rfl<|O.op (.p rfl) (.len rfl underlying47 rfl)<|O.q 1 rfl<|O.op (.p rfl) (.len rfl underlying47 rfl)<|O.op (.p rfl) (.neq rfl rfl)<|O.sF 10 rfl (by exact decide_eq_false zE) ?_;refine O.nil<|S.condF rfl<|S.skip<|S.seq<|S.seq<|S.region rfl<|O.q 1 rfl<|O.nil<|S.block<|S.loopK (ι:=Nat) (fun i=>i≤xs.length∧xs.take i=ys.take i) (fun i=>[(5,.int .i64 (i:Int))]) [(0,_),(1,_)] (fun i=>[]) (fun i=>xs.length - i) (0) zJ (.cons rfl (.nil)) (.cons rfl (.cons rfl (.nil))) rfl fun i hx ih=>?_;have hm1:=meltRefl (g:=g);obtain ⟨hx1,hx2⟩:=hx;refine S.seq<|S.seq<|S.region rfl<|O.q 2 rfl<|O.op (.p rfl) (.len rfl underlying47 rfl)<|O.op (.p rfl) (.lss rfl rfl)<|O.nil ?_
  first|refine S.condD rfl (fun h14=>?_) (fun h14=>?_)|refine S.condB rfl (fun h14=>?_) (fun h14=>?_)
  ·have hi:i<xs.length:=by omega
   have hi2:i<ys.length:=by omega
   by_cases e:xs[i]=ys[i]
   ·
    refine S.skip<|S.seq<|S.block<|S.seq<|S.regionD (L:=[0,1,2,3,4,5,6,7,8,9]) F.mixed zB<|OD.q 2 rfl<|OD.ib (.p rfl) underlying47 size74 rfl rfl rfl har hg (h:=fun p19 cs19 hp19 hrr19=>?_);have hr19:=Rp.rel.mono hrr19 hg;obtain ⟨ra3_19,ra5_19,ra6_19,rc3_19,rc5_19,rc6_19,rfl,ho0_19,ho1_19,ho2_19,ha3_19,ha5_19,ha6_19⟩:=RecRp.sh hr19;refine .quiet (.p rfl) rfl (fun _=>.loadAgg isAgg74 zB rfl hp19) ?_;refine OD.q 2 rfl<|OD.ib (.p rfl) underlying47 size74 rfl rfl rfl hbr hg (h:=fun p23 cs23 hp23 hrr23=>?_);have hr23:=Rp.rel.mono hrr23 hg;obtain ⟨ra3_23,ra5_23,ra6_23,rc3_23,rc5_23,rc6_23,rfl,ho0_23,ho1_23,ho2_23,ha3_23,ha5_23,ha6_23⟩:=RecRp.sh hr23;refine .quiet (.p rfl) rfl (fun _=>.loadAgg isAgg74 zB rfl hp23) ?_;refine OD.call0 (.p rfl) zB rfl zB rfl rfl ((sameRecord_c hr19 hr23)) ?_;rintro _ _ ⟨rfl,rfl⟩
    try simp only [zx1,zx2,zx3]
    refine OD.sT 25 rfl (by exact decide_eq_true e) ?_;refine .quiet (.p rfl) rfl (fun _=>.not rfl)<|ODx.nil<|S.condF rfl<|S.skip<|S.inBlock<|S.region rfl<|O.q 1 rfl<|O.op (.p rfl) (.add rfl rfl (IntWalk.i64_in _ zE))<|O.q 1 rfl<|O.nil ?_;exact S.wk (ih (i+1) (by exact ⟨by omega,take_same hi hi2 hx2 e⟩) zE)
   ·
    refine S.skip<|S.seq<|S.block<|S.seq<|S.regionD (L:=[0,1,2,3,4,5,6,7,8,9]) F.mixed zB<|OD.q 2 rfl<|OD.ib (.p rfl) underlying47 size74 rfl rfl rfl har hg (h:=fun p19 cs19 hp19 hrr19=>?_);have hr19:=Rp.rel.mono hrr19 hg;obtain ⟨ra3_19,ra5_19,ra6_19,rc3_19,rc5_19,rc6_19,rfl,ho0_19,ho1_19,ho2_19,ha3_19,ha5_19,ha6_19⟩:=RecRp.sh hr19;refine .quiet (.p rfl) rfl (fun _=>.loadAgg isAgg74 zB rfl hp19) ?_;refine OD.q 2 rfl<|OD.ib (.p rfl) underlying47 size74 rfl rfl rfl hbr hg (h:=fun p23 cs23 hp23 hrr23=>?_);have hr23:=Rp.rel.mono hrr23 hg;obtain ⟨ra3_23,ra5_23,ra6_23,rc3_23,rc5_23,rc6_23,rfl,ho0_23,ho1_23,ho2_23,ha3_23,ha5_23,ha6_23⟩:=RecRp.sh hr23;refine .quiet (.p rfl) rfl (fun _=>.loadAgg isAgg74 zB rfl hp23) ?_;refine OD.call0 (.p rfl) zB rfl zB rfl rfl ((sameRecord_c hr19 hr23)) ?_;rintro _ _ ⟨rfl,rfl⟩
    try simp only [zx1,zx2,zx3]
    refine OD.sF 25 rfl (by exact decide_eq_false e) ?_;refine .quiet (.p rfl) rfl (fun _=>.not rfl)<|ODx.nil<|S.condT rfl<|S.seq<|S.region rfl<|O.q 1 rfl<|O.nil ?_;exact S.rt results40 rfl hR ⟨congrArg _ (decide_eq_false (not_same hi hi2 e)).symm,rfl⟩
  ·have hi:i=xs.length:=by omega
   clear ih;subst hi;rw [List.take_length,e0,List.take_length] at hx2;refine S.exit rfl<|S.seq<|S.region rfl<|O.q 1 rfl<|O.nil ?_;exact S.rt results40 rfl hR ⟨by simp [hx2],rfl⟩
 ·
  refine S.seq<|S.region rfl<|O.q 1 rfl<|O.nil<|S.seq<|S.seq<|S.region rfl<|O.q 1 rfl<|O.op (.p rfl) (.len rfl underlying47 rfl)<|O.q 1 rfl<|O.op (.p rfl) (.len rfl underlying47 rfl)<|O.op (.p rfl) (.neq rfl rfl)<|O.sT 10 rfl (by exact decide_eq_true zE) ?_;refine O.nil<|S.condT rfl<|S.seq<|S.region rfl<|O.q 1 rfl<|O.nil ?_;exact S.rt results40 rfl hR ⟨congrArg _ (decide_eq_false (fun h=>e0 (by rw [h]))).symm,rfl⟩
def marks2 (n:Nat):List UInt8:=(List.range n).map fun (i:Nat)=>markB 2 (i:Int)
@[simp] theorem marks2_length (n:Nat):(marks2 n).length=n:=by simp [marks2]
def rowMarks (n:Nat):List (List UInt8):=(List.range n).map fun (i:Nat)=>markT 1 (i:Int)
@[simp] theorem rowMarks_length (n:Nat):(rowMarks n).length=n:=by simp [rowMarks]
def ArrW (v:Value) (xs:List UInt8):SProp:=fun m=>Arr Rp.u8 m v xs
abbrev tys:Tys:=⟨5,3,31,166,74,49,280,275,285,52,55,291,27⟩
end Go.Proofs.YtodhbhanmdfdeaaGreat
