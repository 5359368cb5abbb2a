/- Texts of this proof. -/
import Derived.Test.YtodhbhanmdfdeaaGreatQBytesx
import Derived.Test.YtodhbhanmdfdeaaGreatQSpGet
open Go Go.Sp Go.Proofs.Tryz
set_option maxRecDepth 100000
set_option maxHeartbeats 1000000
attribute [local irreducible] obj Own OwnP
namespace Go.Proofs.YtodhbhanmdfdeaaGreat
abbrev recV (x:RecT) (v3 v5 v6:Value):List Value:=[.string (str x.1),.int .i64 x.2.1,.int .i64 x.2.2.1,v3,.bool x.2.2.2.2.1,v5,v6]
abbrev recWs (x:RecT) (v3 v5 v6:Value):List SProp:=[OwnP DotRp 166 v3 x.2.2.2.1,OwnP Rp.u8 5 v5 x.2.2.2.2.2.1,OwnP Rp.u8 5 v6 x.2.2.2.2.2.2.1]
abbrev rec0:List Value:=[.string (str []),.int .i64 0,.int .i64 0,.slice none 0 0,.bool false,.slice none 0 0,.slice none 0 0]
theorem rGet_c {r:Fr} {va:Value} {b:List UInt8} (ha:Arr Rp.u8 r va b) (hl:b.length≤1000000000) :
  Con prog 128 #[va] r [] (Ret fun v η=>(∃ x a3 c3 a5 c5 a6 c6,recGet b=some x∧v=.tuple #[.agg (recV x (.slice a3 x.2.2.2.1.length c3) (.slice a5 x.2.2.2.2.2.1.length c5) (.slice a6 x.2.2.2.2.2.2.1.length c6)).toArray,.int .i64 0]∧η=recWs x (.slice a3 x.2.2.2.1.length c3) (.slice a5 x.2.2.2.2.2.1.length c5) (.slice a6 x.2.2.2.2.2.2.1.length c6))∨(recGet b=none∧v=.tuple #[.agg rec0.toArray,.int .i64 4]∧η=[])):=by
 refine Con.of (n:=76) _ rfl func128 rfl rfl rfl fun g hg R hR=>?_;have ha:=ha.mono hg;have hbd:=ha.bound;obtain ⟨a1,c1,rfl⟩:=ha.shape;refine S.seq<|S.region rfl<|O.opE (.p rfl) (.alloc (cs:=[.string ⟨#[]⟩,.int .i64 0,.int .i64 0,.slice none 0 0,.bool false,.slice none 0 0,.slice none 0 0]) zeroValue74 rfl) ?_;rintro _ _ ⟨b2,rfl,rfl⟩;refine O.q 1 rfl<|O.nil<|S.seq<|S.region rfl<|O.q 1 rfl<|O.op (.p rfl) (.len rfl underlying31 rfl)<|O.op (.p rfl) (.sub rfl rfl (IntWalk.i64_in _ zD))<|O.q 1 rfl<|O.nil<|S.seq<|S.seq<|S.region rfl<|O.q 1 rfl<|O.op (.p rfl) (.lss rfl rfl)<|O.nil ?_
 first|refine S.condD rfl (fun h13=>?_) (fun h13=>?_)|refine S.condB rfl (fun h13=>?_) (fun h13=>?_)
 ·refine S.seq<|S.region rfl<|O.op (.p rfl) (.build (cs:=[_,_,_,_,_,_,_]) underlying74 rfl rfl rfl rfl rfl)<|O.opU rfl (.storeObj zB rfl rfl rfl rfl zE zI) ?_
  refine O.q 1 rfl<|O.nil<|S.retCellT results128 rfl rfl zE (LoadsAs.agg isAgg74 zB) fun w hw=>Holds.end_ hR hw ?_;exact pk (.inr ⟨recGet_short zD,rfl,rfl⟩)
 ·have h64:64≤b.length:=by omega
  have htl:(b.take (b.length - 64)).length≤1000000000:=by rw [List.length_take];omega
  refine S.skip<|S.seq<|S.region rfl<|O.q 2 rfl<|O.sliceTo (b:=b.length - 64) (.p rfl) underlying31 size5 rfl rfl zC zJ zJ (fun u17 ha17=>?_);obtain ⟨a17,c17,rfl⟩:=ha17.shape;refine O.call0 (.p rfl) rfl zB rfl rfl (rdNew_c (by first|assumption|exact Arr.mono hg zC|exact Arr.left zC|exact Arr.left (Arr.mono hg zC)) zJ) ?_;rintro _ _ ⟨b18,rfl,rfl⟩
  try simp only [zx1,zx2,zx3]
  refine O.q 1 rfl<|O.nil<|S.seq<|S.region rfl<|O.q 1 rfl<|O.callS (.p rfl) rfl zB rfl rfl zE rdByte_c ?_;rintro _ _ ⟨rfl,rfl⟩
  try simp only [zx1,zx2,zx3]
  refine O.nil (S.seq ?_);generalize hk:(RS.mk true (b.take (b.length - 64))).byte=k;have lk:k.2.rest.length≤1000000000:=by rw [← hk];exact Nat.le_trans (RS.byte_len _) htl
  have ly:=RS.bytes_out 64 k.2;refine S.regionJ (L:=[0,3,5,1,2,4,6,7,8,9]) (fun (p:Nat)=>[(6,.pointer (some ⟨p,0,none⟩))]) [(0,_),(2,_),(4,_),(5,_)] (fun (p:Nat)=>[RdP 226 b18 (k.2.bytes 64).2.num.2.num.2,obj p 74 [.string (str (k.2.bytes 64).1),.int .i64 (k.2.bytes 64).2.num.1,.int .i64 (k.2.bytes 64).2.num.2.num.1,.slice none 0 0,.bool false,.slice none 0 0,.slice none 0 0],obj b2 74 rec0]) (.cons rfl (.cons rfl (.cons rfl (.cons rfl (.nil))))) F.mixed zB (fun kk key=>?_) (fun p=>?_)
  ·refine OD.q 3 rfl<|OD.callS (.p rfl) zB rfl zB rfl rfl zE (rdBytes_c _ zJ) ?_
   rintro _ _ ⟨a22,c22,rfl,rfl⟩
   try simp only [zx1,zx2,zx3]
   refine OD.alt2 2 4 [4,6,7,8,9] [2,6,7,8,9] zB rfl rfl ?_ ?_
   ·refine ODt.toStrO (.p rfl) zB underlying31 underlying5 underlying9 rfl zE ?_
    refine OD.callS (.p rfl) zB rfl zB rfl rfl zE rdNumber_c ?_;rintro _ _ ⟨rfl,rfl⟩
    try simp only [zx1,zx2,zx3]
    refine OD.callS (.p rfl) zB rfl zB rfl rfl zE rdNumber_c ?_;rintro _ _ ⟨rfl,rfl⟩
    try simp only [zx1,zx2,zx3]
    refine .quiet (.p rfl) rfl (fun _=>.build (cs:=[_,_,_,_,_,_,_]) underlying74 rfl rfl rfl rfl rfl)<|.lazy rfl zB rfl fun b6=>?_;refine OD.storeObj rfl zB zB rfl rfl rfl rfl zE zI ?_;refine ODx.nil<|S.pk ?_ (S.weaken (Sub.app (.cons rfl (.nil)) (.cons rfl (.cons rfl (.cons rfl (.cons rfl (.nil)))))) (key b6))
    try dsimp only
    repeat (first|exact zpa|exact zpn|(apply zpc;focus (repeat (first|exact zh|apply zt)))|apply zps)
   ·refine ODt.callS (.p rfl) zB rfl zB rfl rfl zE rdNumber_c ?_
    rintro _ _ ⟨rfl,rfl⟩
    try simp only [zx1,zx2,zx3]
    refine OD.alt2 2 6 [6,7,8,9] [2,7,8,9] zB rfl rfl ?_ ?_
    ·refine ODt.toStrO (.p rfl) zB underlying31 underlying5 underlying9 rfl zE ?_
     refine OD.callS (.p rfl) zB rfl zB rfl rfl zE rdNumber_c ?_;rintro _ _ ⟨rfl,rfl⟩
     try simp only [zx1,zx2,zx3]
     refine .quiet (.p rfl) rfl (fun _=>.build (cs:=[_,_,_,_,_,_,_]) underlying74 rfl rfl rfl rfl rfl)<|.lazy rfl zB rfl fun b6=>?_;refine OD.storeObj rfl zB zB rfl rfl rfl rfl zE zI ?_;refine ODx.nil<|S.pk ?_ (S.weaken (Sub.app (.cons rfl (.nil)) (.cons rfl (.cons rfl (.cons rfl (.cons rfl (.nil)))))) (key b6))
     try dsimp only
     repeat (first|exact zpa|exact zpn|(apply zpc;focus (repeat (first|exact zh|apply zt)))|apply zps)
    ·refine ODt.callS (.p rfl) zB rfl zB rfl rfl zE rdNumber_c ?_
     rintro _ _ ⟨rfl,rfl⟩
     try simp only [zx1,zx2,zx3]
     refine OD.toStrO (.p rfl) zB underlying31 underlying5 underlying9 rfl zE ?_;refine .quiet (.p rfl) rfl (fun _=>.build (cs:=[_,_,_,_,_,_,_]) underlying74 rfl rfl rfl rfl rfl)<|.lazy rfl zB rfl fun b6=>?_;refine OD.storeObj rfl zB zB rfl rfl rfl rfl zE zI ?_;refine ODx.nil<|S.pk ?_ (S.weaken (Sub.app (.cons rfl (.nil)) (.cons rfl (.cons rfl (.cons rfl (.cons rfl (.nil)))))) (key b6))
     try dsimp only
     repeat (first|exact zpa|exact zpn|(apply zpc;focus (repeat (first|exact zh|apply zt)))|apply zps)
  generalize hy:k.2.bytes 64=y at ly ⊢;have ly2:y.2.rest.length≤1000000000:=by rw [← hy];exact Nat.le_trans (RS.bytes_len _ _) lk
  generalize hc:y.2.num=c;have lc:c.2.rest.length≤1000000000:=by rw [← hc];exact Nat.le_trans (RS.num_len _) ly2
  have ic:InI64 c.1:=by rw [← hc];exact RS.num_in _
  generalize hq:c.2.num=q;have lq:q.2.rest.length≤1000000000:=by rw [← hq];exact Nat.le_trans (RS.num_len _) lc
  have iq:InI64 q.1:=by rw [← hq];exact RS.num_in _
  refine S.seq<|S.seq<|S.region rfl<|O.q 1 rfl<|O.callS (.p rfl) rfl zB rfl rfl zE (rdCount_c _) ?_;rintro _ _ ⟨rfl,rfl⟩
  try simp only [zx1,zx2,zx3]
  refine O.q 1 rfl<|O.nil (S.block ?_);generalize hn:q.2.count 8=n;have ln:n.2.rest.length≤1000000000:=by rw [← hn];exact Nat.le_trans (RS.count_len _ _) lq
  obtain ⟨n0,n8⟩:0≤n.1∧n.1≤8:=by rw [← hn];exact RS.count_bd _ _ zF
  refine S.addNil (T:=DotRp) (e:=166) ?_;refine S.loopK2 (ι:=Nat) (κ:=Option Addr × Nat) (fun i a=>i≤n.1.toNat) (fun i a=>[(31,.int .i64 (i:Int))]) [(0,_),(2,_),(4,_),(5,_),(6,_),(30,_)] (fun i a=>[OwnP DotRp 166 (.slice a.1 i a.2) (dotsP i n.2).1,RdP 226 b18 (dotsP i n.2).2,obj p 74 [.string (str y.1),.int .i64 c.1,.int .i64 q.1,.slice a.1 i a.2,.bool false,.slice none 0 0,.slice none 0 0],obj b2 74 rec0]) (fun i a=>n.1.toNat - i) (0) ((none,0)) zG (.cons rfl (.nil)) (.cons rfl (.cons rfl (.cons rfl (.cons rfl (.cons rfl (.cons rfl (.nil))))))) rfl fun i a hx ih=>?_;have hm1:=meltRefl (g:=g);refine S.seq<|S.region rfl<|O.op (.p rfl) (.lss rfl rfl)<|O.nil (S.seq ?_)
  first|refine S.condD rfl (fun h32=>?_) (fun h32=>?_)|refine S.condB rfl (fun h32=>?_) (fun h32=>?_)
  ·have hi:i<n.1.toNat:=by omega
   have hg_o:=hg;have hR_o:=hR
   try have ha_o:=ha
   try have ha17_o:=ha17
   refine S.frzH (B:=obj p 74 [.string (str y.1),.int .i64 c.1,.int .i64 q.1,.slice a.1 i a.2,.bool false,.slice none 0 0,.slice none 0 0]) zE fun go hso ⟨mo,hmo,hsmo⟩ hbo=>?_;replace hg:=Fr.sub_trans hg hso;replace hR:=backR hR hbo
   try replace ha:=ha.mono hso
   try replace ha17:=ha17.mono hso
   have hat:=(obj_at hmo).mono hsmo;refine S.skip<|S.seq<|S.block<|S.regionD (L:=[0,1,2,4,3,5,6,7,8,9,10]) F.mixed zB<|.quiet (.p rfl) rfl (fun _=>.fieldAddr fld74x3 rfl)<|.quiet (.p rfl) rfl (fun _=>.loadAt flat72 rfl (hat.drop 3) rfl) ?_;refine OD.q 2 rfl<|OD.callS (.p rfl) zB rfl zB rfl rfl zE rdNumber_c ?_;rintro _ _ ⟨rfl,rfl⟩
   try simp only [zx1,zx2,zx3]
   refine OD.callS (.p rfl) zB rfl zB rfl rfl zE rdNumber_c ?_;rintro _ _ ⟨rfl,rfl⟩
   try simp only [zx1,zx2,zx3]
   refine .quiet (.p rfl) rfl (fun _=>.build (cs:=[_,_]) underlying166 rfl rfl rfl rfl rfl)<|OD.litP (T:=DotRp) (ys:=[_]) (.p rfl) zB underlying72 elem166 zF rfl rfl ⟨(DotRp.mk (RS.num_in _) (RS.num_in _)),trivial⟩ zF (fun a40 c40=>?_);refine OD.appendO (.p rfl) zB (T:=DotRp) underlying72 elem166 zF rfl rfl zE zE zJ zJ (fun a41 c41=>?_);refine .quiet (.p rfl) rfl (fun _=>.fieldAddr fld74x3 rfl)<|OD.last1 rfl zB (fun _ hw=>hbo hw) flat72 rfl rfl zM zE (by first|(simp;done)|(simp;omega)) ?_;replace hg:=hg_o;replace hR:=hR_o
   try replace ha:=ha_o
   try replace ha17:=ha17_o
   clear hg_o hR_o;refine S.inBlock<|S.region rfl<|O.op (.p rfl) (.add rfl rfl (IntWalk.i64_in _ zD))<|O.q 1 rfl<|O.nil ?_;simp only [dotsP_length,List.length_singleton];exact S.pw (ih (i+1) ((a41,c41)) zD zD)
  ·clear ih
   have hi:i=n.1.toNat:=by omega
   subst hi;generalize hd:dotsP n.1.toNat n.2=d;have ld:d.2.rest.length≤1000000000:=by rw [← hd];exact Nat.le_trans (dotsP_len _ _) ln
   have ldn:d.1.length=n.1.toNat:=by rw [← hd];exact dotsP_length _ _
   have id:∀ z∈d.1,dot64 z:=by rw [← hd];exact dotsP_in _ _
   rw [← ldn];refine S.exit rfl<|S.seq<|S.region rfl<|O.q 1 rfl<|O.callS (.p rfl) rfl zB rfl rfl zE rdByte_c ?_;rintro _ _ ⟨rfl,rfl⟩
   try simp only [zx1,zx2,zx3]
   refine O.op (.p rfl) (.neq rfl rfl)<|O.slot 46 (v' :=.bool (decide (d.2.byte.1≠0))) rfl (by simp [← UInt8.toNat_inj]) ?_;refine O.op (.p rfl) (.fieldObj fld74x4 rfl)<|O.opU rfl (.store1 flat4 rfl rfl zM zE zI) ?_;refine O.nil (S.seq ?_);generalize hg2:d.2.byte=g2;have lg2:g2.2.rest.length≤1000000000:=by rw [← hg2];exact Nat.le_trans (RS.byte_len _) ld
   refine S.regionD (L:=[0,2,3,4,1,6,5,7,8,9]) F.mixed zB ?_;refine OD.q 3 rfl<|OD.sliceFrom (a:=b.length - 64) (.p rfl) underlying31 size5 rfl rfl zC zJ zJ (fun u52 ha52=>?_);obtain ⟨a52,c52,rfl⟩:=ha52.shape;refine OD.callS (.p rfl) zB rfl zB rfl rfl zE (rdBytes_c _ zJ) ?_;rintro _ _ ⟨a49,c49,rfl,rfl⟩
   try simp only [zx1,zx2,zx3]
   refine .quiet (.p rfl) rfl (fun _=>.fieldObj fld74x5 rfl)<|OD.call0 (.p rfl) zB rfl zB rfl rfl (cloneB_c (by first|assumption|exact Arr.mono hg zC|exact Arr.left zC|exact Arr.left (Arr.mono hg zC)) zJ) ?_;rintro _ _ ⟨a53,c53,rfl,rfl⟩
   try simp only [zx1,zx2,zx3]
   refine OD.store1 rfl zB flat31 rfl rfl zM zE zI ?_;refine .quiet (.p rfl) rfl (fun _=>.fieldObj fld74x6 rfl)<|OD.store1 rfl zB flat31 rfl rfl zM zE zI ?_;refine ODx.nil (S.seq ?_);generalize hv:g2.2.bytes 1024=v;have hX:recIn b=(y.1,c.1,q.1,d.1,decide (g2.1≠0),v.1,b.drop (b.length - 64),()):=by subst hv hg2 hd hn hq hc hy hk;rfl
   have hS:(recHd b).s=v.2:=by subst hv hg2 hd hn hq hc hy hk;rfl
   have hyes:=recGet_yes (b:=b);have hno:=recGet_no (b:=b);rw [hX] at hyes hno;rw [hS] at hno;have hrel:∀ {m:Fr} (v3 v5 v6:Value),Arr DotRp m v3 d.1→Arr Rp.u8 m v5 v.1→Arr Rp.u8 m v6 (b.drop (b.length - 64))→RecRp.rel m [.string (str y.1),.int .i64 c.1,.int .i64 q.1,v3,.bool (decide (g2.1≠0)),v5,v6] (y.1,c.1,q.1,d.1,decide (g2.1≠0),v.1,b.drop (b.length - 64),()):=fun v3 v5 v6 h3 h5 h6=>RecRp.mk zD ic iq h3 h5 h6;clear hX hS;generalize hXX:((y.1,c.1,q.1,d.1,decide (g2.1≠0),v.1,b.drop (b.length - 64),()):RecT)=X at hyes hno hrel;refine S.region rfl<|O.op (.p rfl) (.loA (news:=[_,_,_,_,_,_,_]) isAgg74) ?_;refine O.callB (.p rfl) rfl zB rfl rfl (bs:=[OwnP DotRp 166 (.slice a.1 d.1.length a.2) d.1,OwnP Rp.u8 5 (.slice a49 v.1.length c49) v.1,OwnP Rp.u8 5 (.slice a53 (b.drop (b.length - 64)).length c53) (b.drop (b.length - 64))]) zL (fun m hm hd' =>rPut_c (x:=X) (hrel _ _ _ (hm.arr.right hd') (hm.tail.arr.right hd') (hm.tail.tail.arr.right hd'))) ?_;rintro _ _ ⟨a58,c58,rfl,rfl⟩
   try simp only [zx1,zx2,zx3]
   refine O.q 5 rfl<|O.nil (S.seq (S.seq ?_))
   cases e1:v.2.done with
   |false =>
    refine S.region rfl<|O.q 1 rfl<|O.callS (.p rfl) rfl zB rfl rfl zE rdDone_c ?_;rintro _ _ ⟨rfl,rfl⟩
    try simp only [zx1,zx2,zx3]
    refine O.sF 62 rfl (by exact e1) ?_;refine O.op (.p rfl) (.not rfl)<|O.q 10 rfl<|O.nil<|S.condT rfl<|S.seq<|S.region rfl<|O.op (.p rfl) (.build (cs:=[_,_,_,_,_,_,_]) underlying74 rfl rfl rfl rfl rfl)<|O.opU rfl (.storeObj zB rfl rfl rfl rfl zE zI) ?_;refine O.q 1 rfl<|O.nil<|S.retCellT results128 rfl rfl zE (LoadsAs.agg isAgg74 zB) fun w hw=>Holds.end_ hR hw ?_;exact pk (.inr ⟨hno fun q=>by rw [e1] at q;exact absurd q.1 zF,rfl,rfl⟩)
   |true =>
    cases e2:recOk X with
    |false =>
     refine S.region rfl<|O.q 1 rfl<|O.callS (.p rfl) rfl zB rfl rfl zE rdDone_c ?_;rintro _ _ ⟨rfl,rfl⟩
     try simp only [zx1,zx2,zx3]
     refine O.sT 62 rfl (by exact e1) ?_;refine O.op (.p rfl) (.not rfl)<|O.q 2 rfl<|O.op (.g rfl rfl) (.neq rfl rfl)<|O.sT 66 rfl (by simp [recErr,e2]) ?_;refine O.q 7 rfl<|O.nil<|S.condT rfl<|S.seq<|S.region rfl<|O.op (.p rfl) (.build (cs:=[_,_,_,_,_,_,_]) underlying74 rfl rfl rfl rfl rfl)<|O.opU rfl (.storeObj zB rfl rfl rfl rfl zE zI) ?_;refine O.q 1 rfl<|O.nil<|S.retCellT results128 rfl rfl zE (LoadsAs.agg isAgg74 zB) fun w hw=>Holds.end_ hR hw ?_;exact pk (.inr ⟨hno fun q=>by rw [e2] at q;exact absurd q.2.1 zF,rfl,rfl⟩)
    |true =>
     by_cases e3:recB X=b
     ·
      refine S.region rfl<|O.q 1 rfl<|O.callS (.p rfl) rfl zB rfl rfl zE rdDone_c ?_;rintro _ _ ⟨rfl,rfl⟩
      try simp only [zx1,zx2,zx3]
      refine O.sT 62 rfl (by exact e1) ?_;refine O.op (.p rfl) (.not rfl)<|O.q 2 rfl<|O.op (.g rfl rfl) (.neq rfl rfl)<|O.sF 66 rfl (by simp [recErr,e2]) ?_;refine O.q 4 rfl<|O.callB (.g rfl rfl) rfl zB rfl rfl (bs:=[OwnP Rp.u8 5 (.slice a58 (recOut X).length c58) (recOut X)]) zL (fun m hm hd' =>bequal_c (hm.arr.right hd') ha.left) ?_;rintro _ _ ⟨rfl,rfl⟩
      try simp only [zx1,zx2,zx3]
      refine O.sT 71 rfl (by exact decide_eq_true (by rw [recOut,if_pos e2];exact e3)) ?_;refine O.op (.g rfl rfl) (.not rfl)<|O.q 1 rfl<|O.nil<|S.condF rfl<|S.skip<|S.seq<|S.region rfl<|O.op (.p rfl) (.loA (news:=[_,_,_,_,_,_,_]) isAgg74) ?_;refine O.opU rfl (.storeObj zB rfl rfl rfl rfl zE zI) ?_;refine O.q 1 rfl<|O.nil<|S.retCellT results128 rfl rfl zE (LoadsAs.agg isAgg74 zB) fun w hw=>Holds.end_ hR hw ?_;have hy' :=hyes e2 e3;subst hXX;exact pk (.inl ⟨_,a.1,a.2,a49,c49,a53,c53,hy',rfl,rfl⟩)
     ·
      refine S.region rfl<|O.q 1 rfl<|O.callS (.p rfl) rfl zB rfl rfl zE rdDone_c ?_;rintro _ _ ⟨rfl,rfl⟩
      try simp only [zx1,zx2,zx3]
      refine O.sT 62 rfl (by exact e1) ?_;refine O.op (.p rfl) (.not rfl)<|O.q 2 rfl<|O.op (.g rfl rfl) (.neq rfl rfl)<|O.sF 66 rfl (by simp [recErr,e2]) ?_;refine O.q 4 rfl<|O.callB (.g rfl rfl) rfl zB rfl rfl (bs:=[OwnP Rp.u8 5 (.slice a58 (recOut X).length c58) (recOut X)]) zL (fun m hm hd' =>bequal_c (hm.arr.right hd') ha.left) ?_;rintro _ _ ⟨rfl,rfl⟩
      try simp only [zx1,zx2,zx3]
      refine O.sF 71 rfl (by exact decide_eq_false (by rw [recOut,if_pos e2];exact e3)) ?_;refine O.op (.g rfl rfl) (.not rfl)<|O.q 1 rfl<|O.nil<|S.condT rfl<|S.seq<|S.region rfl<|O.op (.p rfl) (.build (cs:=[_,_,_,_,_,_,_]) underlying74 rfl rfl rfl rfl rfl)<|O.opU rfl (.storeObj zB rfl rfl rfl rfl zE zI) ?_;refine O.q 1 rfl<|O.nil<|S.retCellT results128 rfl rfl zE (LoadsAs.agg isAgg74 zB) fun w hw=>Holds.end_ hR hw ?_;exact pk (.inr ⟨hno fun q=>e3 q.2.2,rfl,rfl⟩)
theorem rGetY_c {r:Fr} {va:Value} {b:List UInt8} {x:RecT} (e:recGet b=some x) (ha:Arr Rp.u8 r va b) (hl:b.length≤1000000000) :
  Con prog 128 #[va] r [] (Ret fun v η=>∃ a3 c3 a5 c5 a6 c6,v=.tuple #[.agg (recV x (.slice a3 x.2.2.2.1.length c3) (.slice a5 x.2.2.2.2.2.1.length c5) (.slice a6 x.2.2.2.2.2.2.1.length c6)).toArray,.int .i64 0]∧η=recWs x (.slice a3 x.2.2.2.1.length c3) (.slice a5 x.2.2.2.2.2.1.length c5) (.slice a6 x.2.2.2.2.2.2.1.length c6)) :=
 (rGet_c ha hl).mono (Ret.imp fun v η h=>by
  rcases h with ⟨y,a3,c3,a5,c5,a6,c6,h1,h2,h3⟩|⟨h1,_⟩
  ·rw [e] at h1;obtain rfl:=Option.some.inj h1;exact ⟨a3,c3,a5,c5,a6,c6,h2,h3⟩
  ·rw [e] at h1;cases h1)
theorem triedSS_ret {g:Gr} {be bx:Nat} {x:Value} {z:Int} {T1 T2:TypeId} {w:World} {R:Ending→World→Prop} {η:List SProp} (hw:Holds w g (obj bx T1 [x]::obj be T2 [.int .i64 z]::η)) (hR:∀ w,Holds w g (obj bx T1 [x]::obj be T2 [.int .i64 z]::η)→R (.returned (.tuple #[x,.int .i64 z])) w) :
  CallsD prog 203 #[.pointer (some ⟨be,0,none⟩),.pointer (some ⟨bx,0,none⟩)] .returning w (DPost2 prog g bx be 47 32 R):=by
 refine (callsD_rec (R:=fun e w=>(∃ v,e=.returned v)∧Holds w g (obj bx T1 [x]::obj be T2 [.int .i64 z]::η)) [.pointer (some ⟨be,0,none⟩),.pointer (some ⟨bx,0,none⟩)] rfl func203 rfl rfl rfl rfl hw ?_).mono ?_
 rotate_left
 ·rintro e u' w' ⟨rfl,⟨v,rfl⟩,h⟩
  exact ⟨⟨v,rfl⟩,rfl,T1,T2,_,_,_,_,η,h,LoadsAs.flat flat47,LoadsAs.flat flat32,hR w' h⟩
 refine S.seq<|S.region rfl<|O.q 1 rfl<|O.op (.p rfl) (.neqIN underlying20 rfl)<|O.nil<|S.condF rfl<|S.skip<|S.end0 results203 fun w hw=>?_;exact ⟨⟨_,rfl⟩,hw⟩
theorem triedSS_pan {g:Gr} {be bx:Nat} {x:Value} {z z' :Int} {T1 T2:TypeId} {w:World} {R:Ending→World→Prop} {η:List SProp} (hw:Holds w g (obj bx T1 [x]::obj be T2 [.int .i64 z']::η))
  (hR:∀ w,Holds w g (obj bx T1 [.slice none 0 0]::obj be T2 [.int .i64 z]::η)→R (.returned (.tuple #[.slice none 0 0,.int .i64 z])) w) :
  CallsD prog 203 #[.pointer (some ⟨be,0,none⟩),.pointer (some ⟨bx,0,none⟩)] (.panicking (errP 32 z)) w (DPost2 prog g bx be 47 32 R):=by
 refine (callsD_rec (R:=fun e w=>(∃ v,e=.returned v)∧Holds w g (obj bx T1 [.slice none 0 0]::obj be T2 [.int .i64 z]::η)) [.pointer (some ⟨be,0,none⟩),.pointer (some ⟨bx,0,none⟩)] rfl func203 rfl rfl rfl rfl hw ?_).mono ?_
 rotate_left
 ·rintro e u' w' ⟨rfl,⟨v,rfl⟩,h⟩
  exact ⟨⟨v,rfl⟩,rfl,T1,T2,_,_,_,_,η,h,LoadsAs.flat flat47,LoadsAs.flat flat32,hR w' h⟩
 refine S.seq<|S.region rfl<|O.q 1 rfl<|O.op (.p rfl) (.neqIV underlying20 rfl)<|O.nil<|S.condT rfl<|S.seq<|S.region rfl<|O.q 1 rfl<|O.nil<|S.seq<|S.seq<|S.region rfl<|O.q 1 rfl<|O.op (.p rfl) (.assertYes underlying32 rfl)<|O.q 3 rfl<|O.opU rfl (.store1 flat32 rfl rfl zM zE zI) ?_;refine O.q 1 rfl<|O.nil<|S.seq<|S.region rfl<|O.q 1 rfl<|O.op (.p rfl) (.not rfl)<|O.nil<|S.condF rfl<|S.skip<|S.seq<|S.region rfl<|O.q 1 rfl<|O.nil<|S.region rfl<|O.q 1 rfl<|O.opU rfl (.store1 flat47 rfl rfl zM zE zI) ?_;refine O.nil<|S.end0 results203 fun w hw=>?_;exact ⟨⟨_,rfl⟩,hw.picks zR⟩
theorem triedSS_c {r:Fr} {f:Nat} {first cap:Array Value} {K:Value→List SProp→Prop} {X:Int→Prop} (hc:callable prog f=true) (hf1:(Value.func (.func f) first cap).oneCell' =true) (hK1:∀ u ζ,K u ζ→u.oneCell' =true)
  (con:Con prog f (first++#[]++cap) r [] (RetP K (fun ch η=>∃ z,ch=errP 32 z∧X z∧η=[]))) :
  Con prog 102 #[.func (.func f) first cap] r [] (Ret fun v η=>(∃ u,K u η∧v=.tuple #[u,.int .i64 0])∨(∃ z,X z∧η=[]∧v=.tuple #[.slice none 0 0,.int .i64 z])):=by
 refine Con.of (n:=7) [.func (.func f) first cap] rfl func102 rfl rfl rfl fun g hg R hR=>?_;refine S.seq<|S.region rfl<|O.opE (.p rfl) (.alloc (cs:=[.slice none 0 0]) zeroValue47 rfl) ?_;rintro _ _ ⟨b2,rfl,rfl⟩;refine O.opE (.p rfl) (.alloc (cs:=[.int .i64 0]) zeroValue32 rfl) ?_;rintro _ _ ⟨b3,rfl,rfl⟩;refine O.nil<|S.seq<|S.region rfl<|O.op (.p rfl) (.mkFunc rfl rfl)<|O.defer rfl rfl rfl rfl ?_;refine O.nil<|S.seq<|S.region rfl<|O.q 1 rfl<|O.callP0D (.p rfl) rfl hc rfl rfl (con.sub hg) (fun a ch η' w hF hX hW=>by (obtain ⟨z,rfl,hx,rfl⟩:=hX;exact leavesCell2 results102 hF rfl rfl zG zB (triedSS_pan (hW.picks zR) fun w hw=>Holds.end_ hR hw ⟨_,.inr ⟨z,hx,rfl,rfl⟩,by repeat (first|exact zpa|exact zpn|(apply zpc;focus (repeat (first|exact zh|apply zt)))|apply zps)⟩))) ?_;rintro v6 _ hk6
 try simp only [zx1,zx2,zx3]
 have hone:=hK1 _ _ hk6;refine O.perm (List.perm_append_comm) ?_;simp only [List.cons_append,List.nil_append];refine O.opU rfl (.store1 flat47 rfl rfl zM zE zI) ?_;refine O.opU rfl (.store1 flat32 rfl rfl zM zE zI) ?_;refine O.nil<|S.retL fun a w hf hd hw=>?_;exact leavesCell2 results102 hf rfl rfl zG zB (triedSS_ret (hw.picks zR) fun w hw=>Holds.end_ hR hw ⟨_,.inl ⟨_,hk6,rfl⟩,by repeat (first|exact zpa|exact zpn|(apply zpc;focus (repeat (first|exact zh|apply zt)))|apply zps)⟩)
theorem dot_eq {x y:DotT} (h:(x.1,x.2.1)=(y.1,y.2.1)):x=y:=by
 obtain ⟨a,b,⟨⟩⟩:=x;obtain ⟨c,d,⟨⟩⟩:=y
 simp_all
theorem sameDots_c {r:Fr} {va vb:Value} {xs ys:List DotT} (ha:Arr DotRp r va xs) (hb:Arr DotRp r vb ys) :
  Con prog 125 #[va,vb] r [] (Ret fun v η=>v=.bool (decide (xs=ys))∧η=[]):=by
 have har:=ha;have hbr:=hb;refine Con.of (n:=26) _ rfl func125 rfl rfl rfl fun g hg R hR=>?_;have ha:=ha.mono hg;have hb:=hb.mono hg;have hbd:=ha.bound;obtain ⟨a1,c1,rfl⟩:=ha.shape;obtain ⟨a2,c2,rfl⟩:=hb.shape
 by_cases e0:xs.length=ys.length
 ·
  refine S.seq<|S.region rfl<|O.q 1 rfl<|O.nil<|S.seq<|S.seq<|S.region rfl<|O.q 1 rfl<|O.op (.p rfl) (.len rfl underlying72 rfl)<|O.q 1 rfl<|O.op (.p rfl) (.len rfl underlying72 rfl)<|O.op (.p rfl) (.neq rfl rfl)<|O.sF 10 rfl (by exact decide_eq_false zD) ?_;refine O.nil<|S.condF rfl<|S.skip<|S.seq<|S.seq<|S.region rfl<|O.q 1 rfl<|O.nil<|S.block<|S.loopK (ι:=Nat) (fun i=>i≤xs.length∧xs.take i=ys.take i) (fun i=>[(5,.int .i64 (i:Int))]) [(0,_),(1,_)] (fun i=>[]) (fun i=>xs.length - i) (0) zG (.cons rfl (.nil)) (.cons rfl (.cons rfl (.nil))) rfl fun i hx ih=>?_;have hm1:=meltRefl (g:=g);obtain ⟨hx1,hx2⟩:=hx;refine S.seq<|S.seq<|S.region rfl<|O.q 2 rfl<|O.op (.p rfl) (.len rfl underlying72 rfl)<|O.op (.p rfl) (.lss rfl rfl)<|O.nil ?_
  first|refine S.condD rfl (fun h14=>?_) (fun h14=>?_)|refine S.condB rfl (fun h14=>?_) (fun h14=>?_)
  ·have hi:i<xs.length:=by omega
   have hi2:i<ys.length:=by omega
   by_cases e:xs[i]=ys[i]
   ·
    refine S.skip<|S.seq<|S.block<|S.seq<|S.regionD (L:=[0,1,2,3,4,5,6,7,8]) F.mixed zB<|OD.q 2 rfl<|OD.ib (.p rfl) underlying72 size166 rfl rfl rfl har hg (h:=fun p19 cs19 hp19 hrr19=>?_);have hr19:=Rp.rel.mono hrr19 hg;obtain ⟨rfl,hi19,hj19⟩:=DotRp.open hr19;refine .quiet (.p rfl) rfl (fun _=>.loadAgg isAgg166 zB rfl hp19) ?_;refine OD.q 2 rfl<|OD.ib (.p rfl) underlying72 size166 rfl rfl rfl hbr hg (h:=fun p23 cs23 hp23 hrr23=>?_);have hr23:=Rp.rel.mono hrr23 hg;obtain ⟨rfl,hi23,hj23⟩:=DotRp.open hr23;refine .quiet (.p rfl) rfl (fun _=>.loadAgg isAgg166 zB rfl hp23) ?_;refine .quiet (.p rfl) rfl (fun _=>.neqDot underlying166 underlying3 rfl rfl rfl rfl zF zF zB zB rfl rfl)<|OD.sF 25 rfl (by exact decide_eq_false (not_not_intro (by rw [e]))) ?_;refine ODx.nil<|S.condF rfl<|S.skip<|S.inBlock<|S.region rfl<|O.q 1 rfl<|O.op (.p rfl) (.add rfl rfl (IntWalk.i64_in _ zD))<|O.q 1 rfl<|O.nil ?_;exact S.wk (ih (i+1) (by exact ⟨by omega,take_same hi hi2 hx2 e⟩) zD)
   ·
    refine S.skip<|S.seq<|S.block<|S.seq<|S.regionD (L:=[0,1,2,3,4,5,6,7,8]) F.mixed zB<|OD.q 2 rfl<|OD.ib (.p rfl) underlying72 size166 rfl rfl rfl har hg (h:=fun p19 cs19 hp19 hrr19=>?_);have hr19:=Rp.rel.mono hrr19 hg;obtain ⟨rfl,hi19,hj19⟩:=DotRp.open hr19;refine .quiet (.p rfl) rfl (fun _=>.loadAgg isAgg166 zB rfl hp19) ?_;refine OD.q 2 rfl<|OD.ib (.p rfl) underlying72 size166 rfl rfl rfl hbr hg (h:=fun p23 cs23 hp23 hrr23=>?_);have hr23:=Rp.rel.mono hrr23 hg;obtain ⟨rfl,hi23,hj23⟩:=DotRp.open hr23;refine .quiet (.p rfl) rfl (fun _=>.loadAgg isAgg166 zB rfl hp23) ?_;refine .quiet (.p rfl) rfl (fun _=>.neqDot underlying166 underlying3 rfl rfl rfl rfl zF zF zB zB rfl rfl)<|OD.sT 25 rfl (by exact decide_eq_true (fun q=>e (dot_eq q))) ?_;refine ODx.nil<|S.condT rfl<|S.seq<|S.region rfl<|O.q 1 rfl<|O.nil ?_;exact S.rt results125 rfl hR ⟨congrArg _ (decide_eq_false (not_same hi hi2 e)).symm,rfl⟩
  ·have hi:i=xs.length:=by omega
   clear ih;subst hi;rw [List.take_length,e0,List.take_length] at hx2;refine S.exit rfl<|S.seq<|S.region rfl<|O.q 1 rfl<|O.nil ?_;exact S.rt results125 rfl hR ⟨by simp [hx2],rfl⟩
 ·
  refine S.seq<|S.region rfl<|O.q 1 rfl<|O.nil<|S.seq<|S.seq<|S.region rfl<|O.q 1 rfl<|O.op (.p rfl) (.len rfl underlying72 rfl)<|O.q 1 rfl<|O.op (.p rfl) (.len rfl underlying72 rfl)<|O.op (.p rfl) (.neq rfl rfl)<|O.sT 10 rfl (by exact decide_eq_true zD) ?_;refine O.nil<|S.condT rfl<|S.seq<|S.region rfl<|O.q 1 rfl<|O.nil ?_;exact S.rt results125 rfl hR ⟨congrArg _ (decide_eq_false (fun h=>e0 (by rw [h]))).symm,rfl⟩
theorem sameRecord_eq {x y:RecT} (h0:x.1=y.1) (h1:x.2.1=y.2.1) (h2:x.2.2.1=y.2.2.1) (h3:x.2.2.2.1=y.2.2.2.1) (h4:x.2.2.2.2.1=y.2.2.2.2.1) (h5:x.2.2.2.2.2.1=y.2.2.2.2.2.1) (h6:x.2.2.2.2.2.2.1=y.2.2.2.2.2.2.1):x=y:=by
 obtain ⟨a0,a1,a2,a3,a4,a5,a6,⟨⟩⟩:=x;obtain ⟨b0,b1,b2,b3,b4,b5,b6,⟨⟩⟩:=y
 simp_all
theorem sameRecord_c {r:Fr} {cs ds:List Value} {x y:RecT} (hx:RecRp.rel r cs x) (hy:RecRp.rel r ds y) :
  Con prog 49 #[.agg cs.toArray,.agg ds.toArray] r [] (Ret fun v η=>v=.bool (decide (x=y))∧η=[]):=by
 obtain ⟨xa3,xa5,xa6,xc3,xc5,xc6,rfl,xk0,xk1,xk2,xk3,xk5,xk6⟩:=RecRp.sh hx;obtain ⟨ya3,ya5,ya6,yc3,yc5,yc6,rfl,yk0,yk1,yk2,yk3,yk5,yk6⟩:=RecRp.sh hy;refine Con.of (n:=52) _ rfl func49 rfl rfl rfl fun g hg R hR=>?_;have xk3:=xk3.mono hg;have xk5:=xk5.mono hg;have xk6:=xk6.mono hg;have yk3:=yk3.mono hg;have yk5:=yk5.mono hg;have yk6:=yk6.mono hg;refine S.seq<|S.region rfl<|O.opE (.p rfl) (.box (cs:=[_,_,_,_,_,_,_]) rfl rfl) ?_;rintro _ _ ⟨b2,rfl,rfl⟩;refine O.opE (.p rfl) (.box (cs:=[_,_,_,_,_,_,_]) rfl rfl) ?_;rintro _ _ ⟨b3,rfl,rfl⟩;refine O.q 1 rfl<|O.nil<|S.seq<|S.region rfl<|O.op (.p rfl) (.fieldObj fld74x0 rfl)<|O.op (.p rfl) (.lo flat9) ?_;refine O.op (.p rfl) (.fieldObj fld74x0 rfl)<|O.op (.p rfl) (.lo flat9) ?_;refine O.op (.p rfl) (.eqlS rfl rfl)<|O.q 1 rfl ?_
 first|refine O.caseD 10 rfl (fun h10=>?_) (fun h10=>?_)|refine O.caseB 10 rfl (fun h10=>?_) (fun h10=>?_)
 ·refine O.op (.g rfl rfl) (.fieldObj fld74x1 rfl)<|O.op (.g rfl rfl) (.lo flat3) ?_
  refine O.op (.g rfl rfl) (.fieldObj fld74x1 rfl)<|O.op (.g rfl rfl) (.lo flat3) ?_;refine O.op (.g rfl rfl) (.eql rfl rfl)<|O.q 2 rfl ?_
  first|refine O.caseD 17 rfl (fun h17=>?_) (fun h17=>?_)|refine O.caseB 17 rfl (fun h17=>?_) (fun h17=>?_)
  ·refine O.op (.g rfl rfl) (.fieldObj fld74x2 rfl)<|O.op (.g rfl rfl) (.lo flat3) ?_
   refine O.op (.g rfl rfl) (.fieldObj fld74x2 rfl)<|O.op (.g rfl rfl) (.lo flat3) ?_;refine O.op (.g rfl rfl) (.eql rfl rfl)<|O.q 2 rfl ?_
   first|refine O.caseD 24 rfl (fun h24=>?_) (fun h24=>?_)|refine O.caseB 24 rfl (fun h24=>?_) (fun h24=>?_)
   ·refine O.op (.g rfl rfl) (.fieldObj fld74x3 rfl)<|O.op (.g rfl rfl) (.lo flat72) ?_
    refine O.op (.g rfl rfl) (.fieldObj fld74x3 rfl)<|O.op (.g rfl rfl) (.lo flat72) ?_;refine O.call0 (.g rfl rfl) rfl zB rfl rfl (sameDots_c (by first|assumption|exact Arr.mono hg zC|exact Arr.left zC|exact Arr.left (Arr.mono hg zC)) (by first|assumption|exact Arr.mono hg zC|exact Arr.left zC|exact Arr.left (Arr.mono hg zC))) ?_;rintro _ _ ⟨rfl,rfl⟩
    try simp only [zx1,zx2,zx3]
    refine O.q 2 rfl ?_
    first|refine O.caseD 31 rfl (fun h31=>?_) (fun h31=>?_)|refine O.caseB 31 rfl (fun h31=>?_) (fun h31=>?_)
    ·refine O.op (.g rfl rfl) (.fieldObj fld74x4 rfl)<|O.op (.g rfl rfl) (.lo flat4) ?_
     refine O.op (.g rfl rfl) (.fieldObj fld74x4 rfl)<|O.op (.g rfl rfl) (.lo flat4) ?_;refine O.op (.g rfl rfl) (.eqlB underlying4 rfl rfl)<|O.q 2 rfl ?_
     first|refine O.caseD 38 rfl (fun h38=>?_) (fun h38=>?_)|refine O.caseB 38 rfl (fun h38=>?_) (fun h38=>?_)
     ·refine O.op (.g rfl rfl) (.fieldObj fld74x5 rfl)<|O.op (.g rfl rfl) (.lo flat31) ?_
      refine O.op (.g rfl rfl) (.fieldObj fld74x5 rfl)<|O.op (.g rfl rfl) (.lo flat31) ?_;refine O.call0 (.g rfl rfl) rfl zB rfl rfl (SameBytes_c (by first|assumption|exact Arr.mono hg zC|exact Arr.left zC|exact Arr.left (Arr.mono hg zC)) (by first|assumption|exact Arr.mono hg zC|exact Arr.left zC|exact Arr.left (Arr.mono hg zC))) ?_;rintro _ _ ⟨rfl,rfl⟩
      try simp only [zx1,zx2,zx3]
      refine O.q 2 rfl ?_
      first|refine O.caseD 45 rfl (fun h45=>?_) (fun h45=>?_)|refine O.caseB 45 rfl (fun h45=>?_) (fun h45=>?_)
      ·refine O.op (.g rfl rfl) (.fieldObj fld74x6 rfl)<|O.op (.g rfl rfl) (.lo flat31) ?_
       refine O.op (.g rfl rfl) (.fieldObj fld74x6 rfl)<|O.op (.g rfl rfl) (.lo flat31) ?_;refine O.call0 (.g rfl rfl) rfl zB rfl rfl (SameBytes_c (by first|assumption|exact Arr.mono hg zC|exact Arr.left zC|exact Arr.left (Arr.mono hg zC)) (by first|assumption|exact Arr.mono hg zC|exact Arr.left zC|exact Arr.left (Arr.mono hg zC))) ?_;rintro _ _ ⟨rfl,rfl⟩
       try simp only [zx1,zx2,zx3]
       refine O.q 2 rfl<|O.nil<|S.ret results49 rfl fun w hw=>Holds.end_ hR hw ?_
       first|exact ⟨_,⟨congrArg _ (decide_eq_false (fun e=>by subst e;exact absurd rfl zC)).symm,rfl⟩,by repeat (first|exact zpa|exact zpn|(apply zpc;focus (repeat (first|exact zh|apply zt)))|apply zps)⟩|exact ⟨_,⟨congrArg _ (decide_eq_decide.2 ⟨fun e=>sameRecord_eq (str_eqL zC) zC zC zC zC zC e,fun e=>by rw [e]⟩),rfl⟩,by repeat (first|exact zpa|exact zpn|(apply zpc;focus (repeat (first|exact zh|apply zt)))|apply zps)⟩
      ·refine O.q 7 rfl<|O.nil<|S.ret results49 rfl fun w hw=>Holds.end_ hR hw ?_
       first|exact ⟨_,⟨congrArg _ (decide_eq_false (fun e=>by subst e;exact absurd rfl zC)).symm,rfl⟩,by repeat (first|exact zpa|exact zpn|(apply zpc;focus (repeat (first|exact zh|apply zt)))|apply zps)⟩|exact ⟨_,⟨congrArg _ (decide_eq_decide.2 ⟨fun e=>sameRecord_eq (str_eqL zC) zC zC zC zC zC e,fun e=>by rw [e]⟩),rfl⟩,by repeat (first|exact zpa|exact zpn|(apply zpc;focus (repeat (first|exact zh|apply zt)))|apply zps)⟩
     ·refine O.q 14 rfl<|O.nil<|S.ret results49 rfl fun w hw=>Holds.end_ hR hw ?_
      first|exact ⟨_,⟨congrArg _ (decide_eq_false (fun e=>by subst e;exact absurd rfl zC)).symm,rfl⟩,by repeat (first|exact zpa|exact zpn|(apply zpc;focus (repeat (first|exact zh|apply zt)))|apply zps)⟩|exact ⟨_,⟨congrArg _ (decide_eq_decide.2 ⟨fun e=>sameRecord_eq (str_eqL zC) zC zC zC zC zC e,fun e=>by rw [e]⟩),rfl⟩,by repeat (first|exact zpa|exact zpn|(apply zpc;focus (repeat (first|exact zh|apply zt)))|apply zps)⟩
    ·refine O.q 21 rfl<|O.nil<|S.ret results49 rfl fun w hw=>Holds.end_ hR hw ?_
     first|exact ⟨_,⟨congrArg _ (decide_eq_false (fun e=>by subst e;exact absurd rfl zC)).symm,rfl⟩,by repeat (first|exact zpa|exact zpn|(apply zpc;focus (repeat (first|exact zh|apply zt)))|apply zps)⟩|exact ⟨_,⟨congrArg _ (decide_eq_decide.2 ⟨fun e=>sameRecord_eq (str_eqL zC) zC zC zC zC zC e,fun e=>by rw [e]⟩),rfl⟩,by repeat (first|exact zpa|exact zpn|(apply zpc;focus (repeat (first|exact zh|apply zt)))|apply zps)⟩
   ·refine O.q 28 rfl<|O.nil<|S.ret results49 rfl fun w hw=>Holds.end_ hR hw ?_
    first|exact ⟨_,⟨congrArg _ (decide_eq_false (fun e=>by subst e;exact absurd rfl zC)).symm,rfl⟩,by repeat (first|exact zpa|exact zpn|(apply zpc;focus (repeat (first|exact zh|apply zt)))|apply zps)⟩|exact ⟨_,⟨congrArg _ (decide_eq_decide.2 ⟨fun e=>sameRecord_eq (str_eqL zC) zC zC zC zC zC e,fun e=>by rw [e]⟩),rfl⟩,by repeat (first|exact zpa|exact zpn|(apply zpc;focus (repeat (first|exact zh|apply zt)))|apply zps)⟩
  ·refine O.q 35 rfl<|O.nil<|S.ret results49 rfl fun w hw=>Holds.end_ hR hw ?_
   first|exact ⟨_,⟨congrArg _ (decide_eq_false (fun e=>by subst e;exact absurd rfl zC)).symm,rfl⟩,by repeat (first|exact zpa|exact zpn|(apply zpc;focus (repeat (first|exact zh|apply zt)))|apply zps)⟩|exact ⟨_,⟨congrArg _ (decide_eq_decide.2 ⟨fun e=>sameRecord_eq (str_eqL zC) zC zC zC zC zC e,fun e=>by rw [e]⟩),rfl⟩,by repeat (first|exact zpa|exact zpn|(apply zpc;focus (repeat (first|exact zh|apply zt)))|apply zps)⟩
 ·refine O.q 42 rfl<|O.nil<|S.ret results49 rfl fun w hw=>Holds.end_ hR hw ?_
  first|exact ⟨_,⟨congrArg _ (decide_eq_false (fun e=>by subst e;exact absurd rfl zC)).symm,rfl⟩,by repeat (first|exact zpa|exact zpn|(apply zpc;focus (repeat (first|exact zh|apply zt)))|apply zps)⟩|exact ⟨_,⟨congrArg _ (decide_eq_decide.2 ⟨fun e=>sameRecord_eq (str_eqL zC) zC zC zC zC zC e,fun e=>by rw [e]⟩),rfl⟩,by repeat (first|exact zpa|exact zpn|(apply zpc;focus (repeat (first|exact zh|apply zt)))|apply zps)⟩
theorem sameRecords_c {r:Fr} {va vb:Value} {xs ys:List RecT} (ha:Arr RecRp r va xs) (hb:Arr RecRp r vb ys) :
  Con prog 40 #[va,vb] r [] (Ret fun v η=>v=.bool (decide (xs=ys))∧η=[]):=by
 have har:=ha;have hbr:=hb;refine Con.of (n:=27) _ rfl func40 rfl rfl rfl fun g hg R hR=>?_;have ha:=ha.mono hg;have hb:=hb.mono hg;have hbd:=ha.bound;obtain ⟨a1,c1,rfl⟩:=ha.shape;obtain ⟨a2,c2,rfl⟩:=hb.shape
 by_cases e0:xs.length=ys.length
 ·
  refine S.seq<|S.region rfl<|O.q 1 rfl<|O.nil<|S.seq<|S.seq<|S.region rfl<|O.q 1 rfl<|O.op (.p rfl) (.len rfl underlying47 rfl)<|O.q 1 rfl<|O.op (.p rfl) (.len rfl underlying47 rfl)<|O.op (.p rfl) (.neq rfl rfl)<|O.sF 10 rfl (by exact decide_eq_false zD) ?_;refine O.nil<|S.condF rfl<|S.skip<|S.seq<|S.seq<|S.region rfl<|O.q 1 rfl<|O.nil<|S.block<|S.loopK (ι:=Nat) (fun i=>i≤xs.length∧xs.take i=ys.take i) (fun i=>[(5,.int .i64 (i:Int))]) [(0,_),(1,_)] (fun i=>[]) (fun i=>xs.length - i) (0) zG (.cons rfl (.nil)) (.cons rfl (.cons rfl (.nil))) rfl fun i hx ih=>?_;have hm1:=meltRefl (g:=g);obtain ⟨hx1,hx2⟩:=hx;refine S.seq<|S.seq<|S.region rfl<|O.q 2 rfl<|O.op (.p rfl) (.len rfl underlying47 rfl)<|O.op (.p rfl) (.lss rfl rfl)<|O.nil ?_
  first|refine S.condD rfl (fun h14=>?_) (fun h14=>?_)|refine S.condB rfl (fun h14=>?_) (fun h14=>?_)
  ·have hi:i<xs.length:=by omega
   have hi2:i<ys.length:=by omega
   by_cases e:xs[i]=ys[i]
   ·
    refine S.skip<|S.seq<|S.block<|S.seq<|S.regionD (L:=[0,1,2,3,4,5,6,7,8,9]) F.mixed zB<|OD.q 2 rfl<|OD.ib (.p rfl) underlying47 size74 rfl rfl rfl har hg (h:=fun p19 cs19 hp19 hrr19=>?_);have hr19:=Rp.rel.mono hrr19 hg;obtain ⟨ra3_19,ra5_19,ra6_19,rc3_19,rc5_19,rc6_19,rfl,ho0_19,ho1_19,ho2_19,ha3_19,ha5_19,ha6_19⟩:=RecRp.sh hr19;refine .quiet (.p rfl) rfl (fun _=>.loadAgg isAgg74 zB rfl hp19) ?_;refine OD.q 2 rfl<|OD.ib (.p rfl) underlying47 size74 rfl rfl rfl hbr hg (h:=fun p23 cs23 hp23 hrr23=>?_);have hr23:=Rp.rel.mono hrr23 hg;obtain ⟨ra3_23,ra5_23,ra6_23,rc3_23,rc5_23,rc6_23,rfl,ho0_23,ho1_23,ho2_23,ha3_23,ha5_23,ha6_23⟩:=RecRp.sh hr23;refine .quiet (.p rfl) rfl (fun _=>.loadAgg isAgg74 zB rfl hp23) ?_;refine OD.call0 (.p rfl) zB rfl zB rfl rfl ((sameRecord_c hr19 hr23)) ?_;rintro _ _ ⟨rfl,rfl⟩
    try simp only [zx1,zx2,zx3]
    refine OD.sT 25 rfl (by exact decide_eq_true e) ?_;refine .quiet (.p rfl) rfl (fun _=>.not rfl)<|ODx.nil<|S.condF rfl<|S.skip<|S.inBlock<|S.region rfl<|O.q 1 rfl<|O.op (.p rfl) (.add rfl rfl (IntWalk.i64_in _ zD))<|O.q 1 rfl<|O.nil ?_;exact S.wk (ih (i+1) (by exact ⟨by omega,take_same hi hi2 hx2 e⟩) zD)
   ·
    refine S.skip<|S.seq<|S.block<|S.seq<|S.regionD (L:=[0,1,2,3,4,5,6,7,8,9]) F.mixed zB<|OD.q 2 rfl<|OD.ib (.p rfl) underlying47 size74 rfl rfl rfl har hg (h:=fun p19 cs19 hp19 hrr19=>?_);have hr19:=Rp.rel.mono hrr19 hg;obtain ⟨ra3_19,ra5_19,ra6_19,rc3_19,rc5_19,rc6_19,rfl,ho0_19,ho1_19,ho2_19,ha3_19,ha5_19,ha6_19⟩:=RecRp.sh hr19;refine .quiet (.p rfl) rfl (fun _=>.loadAgg isAgg74 zB rfl hp19) ?_;refine OD.q 2 rfl<|OD.ib (.p rfl) underlying47 size74 rfl rfl rfl hbr hg (h:=fun p23 cs23 hp23 hrr23=>?_);have hr23:=Rp.rel.mono hrr23 hg;obtain ⟨ra3_23,ra5_23,ra6_23,rc3_23,rc5_23,rc6_23,rfl,ho0_23,ho1_23,ho2_23,ha3_23,ha5_23,ha6_23⟩:=RecRp.sh hr23;refine .quiet (.p rfl) rfl (fun _=>.loadAgg isAgg74 zB rfl hp23) ?_;refine OD.call0 (.p rfl) zB rfl zB rfl rfl ((sameRecord_c hr19 hr23)) ?_;rintro _ _ ⟨rfl,rfl⟩
    try simp only [zx1,zx2,zx3]
    refine OD.sF 25 rfl (by exact decide_eq_false e) ?_;refine .quiet (.p rfl) rfl (fun _=>.not rfl)<|ODx.nil<|S.condT rfl<|S.seq<|S.region rfl<|O.q 1 rfl<|O.nil ?_;exact S.rt results40 rfl hR ⟨congrArg _ (decide_eq_false (not_same hi hi2 e)).symm,rfl⟩
  ·have hi:i=xs.length:=by omega
   clear ih;subst hi;rw [List.take_length,e0,List.take_length] at hx2;refine S.exit rfl<|S.seq<|S.region rfl<|O.q 1 rfl<|O.nil ?_;exact S.rt results40 rfl hR ⟨by simp [hx2],rfl⟩
 ·
  refine S.seq<|S.region rfl<|O.q 1 rfl<|O.nil<|S.seq<|S.seq<|S.region rfl<|O.q 1 rfl<|O.op (.p rfl) (.len rfl underlying47 rfl)<|O.q 1 rfl<|O.op (.p rfl) (.len rfl underlying47 rfl)<|O.op (.p rfl) (.neq rfl rfl)<|O.sT 10 rfl (by exact decide_eq_true zD) ?_;refine O.nil<|S.condT rfl<|S.seq<|S.region rfl<|O.q 1 rfl<|O.nil ?_;exact S.rt results40 rfl hR ⟨congrArg _ (decide_eq_false (fun h=>e0 (by rw [h]))).symm,rfl⟩
theorem mark_c {r:Fr} (k i:Int) (hk:Mk k) (hi:Mk i):Con prog 143 #[.int .i64 k,.int .i64 i] r [] (Ret fun v η=>v=.int .i64 (markZ k i)∧η=[]):=by
 refine Con.of (n:=10) _ rfl func143 rfl rfl rfl fun g hg R hR=>?_;obtain ⟨hk1,hk2⟩:=hk;obtain ⟨hi1,hi2⟩:=hi;refine S.seq<|S.region rfl<|O.q 1 rfl<|O.nil<|S.seq<|S.region rfl<|O.q 1 rfl<|O.op (.p rfl) (.add rfl rfl (IntWalk.i64_in _ zD))<|O.op (.p rfl) (.mul rfl rfl (IntWalk.i64_in _ zD))<|O.q 1 rfl<|O.op (.p rfl) (.add rfl rfl (IntWalk.i64_in _ zD))<|O.q 1 rfl<|O.nil<|S.ret results143 rfl fun w hw=>hR _ _ w ?_ hw;exact ⟨rfl,rfl⟩
theorem markByte_c {r:Fr} (k i:Int) (hk:Mk k) (hi:Mk i):Con prog 78 #[.int .i64 k,.int .i64 i] r [] (Ret fun v η=>v=byteV (markB k i)∧η=[]):=by
 refine Con.of (n:=12) _ rfl func78 rfl rfl rfl fun g hg R hR=>?_;refine S.seq<|S.region rfl<|O.q 1 rfl<|O.nil<|S.seq<|S.region rfl<|O.q 2 rfl<|O.call0 (.p rfl) rfl zB rfl rfl ((mark_c _ _ hk hi)) ?_;rintro _ _ ⟨rfl,rfl⟩
 try simp only [zx1,zx2,zx3]
 refine O.op (.p rfl) (.cvt underlying3 underlying195 rfl)<|O.op (.p rfl) (.mulW rfl rfl)<|O.op (.p rfl) (.shr rfl rfl zD)<|O.op (.p rfl) (.cvt underlying195 underlying5 rfl)<|O.q 1 rfl<|O.nil<|S.ret results78 rfl fun w hw=>hR _ _ w ?_ hw;exact ⟨wrapB _,rfl⟩
theorem LentBytes_c {r:Fr} {va:Value} {xs:List UInt8} (ha:Arr Rp.u8 r va xs) (hl:xs.length≤100000000000000) :
  Con prog 24 #[va] r [] (Ret fun v η=>∃ a c,v=.slice a xs.length c∧η=[LentP 5 v xs]):=by
 refine Con.of (n:=25) _ rfl func24 rfl rfl rfl fun g hg R hR=>?_;have ha:=ha.mono hg;obtain ⟨a1,c1,rfl⟩:=ha.shape;refine S.seq<|S.region rfl<|O.q 1 rfl<|O.nil<|S.seq<|S.region rfl<|O.q 1 rfl<|O.op (.p rfl) (.len rfl underlying31 rfl)<|O.op (.p rfl) (.add rfl rfl (IntWalk.i64_in _ zD))<|O.opE (.p rfl) (.makeP0 (T:=Rp.u8) (c:=xs.length+12) underlying31 elem5 rfl rfl rfl rfl zD zD) ?_;rintro _ _ ⟨a8,c8,rfl,rfl⟩;refine O.q 1 rfl<|O.nil<|S.seq<|S.region rfl<|O.q 2 rfl<|O.opE (.p rfl) (.appendP (T:=Rp.u8) pure_u8 underlying31 elem5 zF rfl rfl zE (by first|assumption|exact Arr.mono hg zC|exact Arr.left zC|exact Arr.left (Arr.mono hg zC)) zJ zJ) ?_;rintro _ _ ⟨a11,c11,rfl,rfl⟩;refine O.q 1 rfl<|O.nil<|S.seq<|S.seq<|S.region rfl<|O.q 1 rfl<|O.nil (S.block ?_);simp only [List.length_nil,Nat.zero_add,List.nil_append];refine S.conv (C:=OwnP Rp.u8 5 (.slice a11 (xs.length+0) c11) (xs++marks1 0)) Sel.here (fun m x=>⟨m,Fr.sub_refl _,by simpa [marks1,mks] using x⟩) ?_;refine S.loopK3 (ι:=Nat) (κ:=Option Addr) (υ:=Nat) (fun i a c=>i≤12) (fun i a c=>[(4,.int .i64 (i:Int)),(3,.slice a (xs.length+i) c)]) [(0,_)] (fun i a c=>[OwnP Rp.u8 5 (.slice a (xs.length+i) c) (xs++marks1 i)]) (fun i a c=>12 - i) (0) (a11) (c11) zG (.cons rfl (.cons rfl (.nil))) (.cons rfl (.nil)) rfl fun i a c hx ih=>?_;have hm1:=meltRefl (g:=g)
 refine S.seq<|S.seq<|S.region rfl<|O.q 1 rfl<|O.op (.p rfl) (.lss rfl rfl)<|O.nil ?_
 first|refine S.condD rfl (fun h13=>?_) (fun h13=>?_)|refine S.condB rfl (fun h13=>?_) (fun h13=>?_)
 ·refine S.skip<|S.seq<|S.block<|S.region rfl<|O.q 2 rfl<|O.call0 (.p rfl) rfl zB rfl rfl (markByte_c _ _ zN zN) ?_
  rintro _ _ ⟨rfl,rfl⟩
  try simp only [zx1,zx2,zx3]
  refine O.opE (.p rfl) (.litP (T:=Rp.u8) (ys:=[_]) underlying31 elem5 zF rfl rfl ⟨rfl,trivial⟩ zF) ?_;rintro _ _ ⟨a19,c19,rfl,rfl⟩;refine O.opE (.p rfl) (.appendO (T:=Rp.u8) underlying31 elem5 zF rfl rfl zE zE zJ zJ) ?_;rintro _ _ ⟨a20,c20,rfl,rfl⟩;refine O.q 1 rfl<|O.nil<|S.inBlock<|S.region rfl<|O.q 1 rfl<|O.op (.p rfl) (.add rfl rfl (IntWalk.i64_in _ zD))<|O.q 1 rfl<|O.nil ?_;simp only [List.length_append,marks1_length];rw [List.append_assoc,marks1_succ];exact S.wk (ih (i+1) (a20) (c20) zD zD)
 ·have hi:i=12:=by omega
  subst hi;refine S.factS Sel.here (fun _ x=>OwnP.room x) fun hroom=>?_;refine S.exit rfl<|S.seq<|S.region rfl<|O.q 2 rfl<|O.op (.p rfl) (.len rfl underlying31 rfl)<|O.slice0 (q:=xs.length) Rp.u8 (.p rfl) underlying31 size5 rfl rfl rfl zD ?_;refine O.q 1 rfl<|O.nil<|S.conv (C:=LentP 5 (.slice a xs.length c) xs) Sel.here (fun m x=>⟨m,Fr.sub_refl _,a,c,hroom.2,rfl,x⟩) ?_;refine S.ret results24 rfl fun w hw=>hR _ _ w ?_ hw;exact ⟨a,c,rfl,rfl⟩
theorem kept_step {α:Type} {zs ys:List α} {i:Nat} (hl:zs.length=ys.length) (hx:∀ (j:Nat) (hj:j<zs.length),j<i→zs[j]=ys[j]) (he:∀ (hi:i<zs.length),zs[i]=ys[i]):∀ (j:Nat) (hj:j<zs.length),j<i+1→zs[j]=ys[j]:=by
 intro j hj h
 by_cases hji:j<i
 ·exact hx j hj hji
 ·have:j=i:=by omega
  subst this;exact he hj
theorem kept_get (xs zs:List UInt8) (hz:zs.length=xs.length+12) (h:∀ (i:Nat) (hi:i<zs.length),zs[i]=(xs++marks1 12)[i]'zK):zs=xs++marks1 12 :=
 List.ext_getElem zK fun i h1 h2=>h i h1
theorem KeptBytes_c {r:Fr} {a:Option Addr} {c:Nat} {vl:Value} {xs zs:List UInt8} (hz:Arr Rp.u8 r (.slice a (xs.length+12) c) zs) (hl:Arr Rp.u8 r vl xs) (hb:xs.length≤100000000000000) :
  Con prog 27 #[.slice a xs.length c,vl] r [] (Ret fun v η=>v=.bool (decide (zs=xs++marks1 12))∧η=[]):=by
 refine Con.of (n:=58) _ rfl func27 rfl rfl rfl fun g hg R hR=>?_;have hz:=hz.mono hg;have hl:=hl.mono hg;obtain ⟨hzl,hzc⟩:=hz.room;rw [hzl] at hz hzc;obtain ⟨a1,c1,rfl⟩:=hl.shape;refine S.seq<|S.region rfl<|O.q 1 rfl<|O.nil<|S.seq<|S.seq<|S.region rfl<|O.q 1 rfl<|O.op (.p rfl) (.len rfl underlying31 rfl)<|O.q 1 rfl<|O.op (.p rfl) (.len rfl underlying31 rfl)<|O.op (.p rfl) (.neq rfl rfl)<|O.nil ?_
 first|refine S.condD rfl (fun h11=>?_) (fun h11=>?_)|refine S.condB rfl (fun h11=>?_) (fun h11=>?_)
 ·exact absurd rfl zC
 ·refine S.skip<|S.seq<|S.region rfl<|O.q 2 rfl<|O.op (.p rfl) (.len rfl underlying31 rfl)<|O.op (.p rfl) (.add rfl rfl (IntWalk.i64_in _ zD))<|O.slice0 (q:=zs.length) Rp.u8 (.p rfl) underlying31 size5 rfl rfl zD zD ?_
  refine O.q 1 rfl<|O.nil<|S.seq<|S.seq<|S.region rfl<|O.q 1 rfl<|O.nil<|S.block<|S.loopK (ι:=Nat) (fun i=>i≤zs.length∧∀ (j:Nat) (hj:j<zs.length),j<i→zs[j]=(xs++marks1 12)[j]'zK) (fun i=>[(6,.int .i64 (i:Int))]) [(1,_),(5,_)] (fun i=>[]) (fun i=>zs.length - i) (0) (by exact ⟨by simp,fun j hj h=>absurd h zD⟩) (.cons rfl (.nil)) (.cons rfl (.cons rfl (.nil))) rfl fun i hx ih=>?_;have hm1:=meltRefl (g:=g);obtain ⟨hx1,hx⟩:=hx;refine S.seq<|S.seq<|S.region rfl<|O.q 2 rfl<|O.op (.p rfl) (.len rfl underlying31 rfl)<|O.op (.p rfl) (.lss rfl rfl)<|O.nil ?_
  first|refine S.condD rfl (fun h20=>?_) (fun h20=>?_)|refine S.condB rfl (fun h20=>?_) (fun h20=>?_)
  ·have hi:i<zs.length:=by omega
   refine S.skip<|S.seq<|S.block<|S.seq<|S.regionD (L:=[0,1,2,3,4,5,6,7,8,9,10,11,12,13,14,15,16,17,18,19,20,21,22,23,24,25,26,27,28,29,30,31,32,33,34]) F.mixed zB<|OD.q 2 rfl<|.quiet (.p rfl) rfl (fun _=>.len rfl underlying31 rfl)<|.quiet (.p rfl) rfl (fun _=>.lss rfl rfl)<|OD.q 1 rfl ?_
   first|refine OD.caseD 27 rfl (fun h27=>?_) (fun h27=>?_)|refine OD.caseB 27 rfl (fun h27=>?_) (fun h27=>?_)
   ·have hi2:i<xs.length:=by omega
    have hget:(xs++marks1 12)[i]'zK=xs[i]:=List.getElem_append_left hi2;refine OD.q 2 rfl<|OD.ia (.g rfl rfl) underlying31 size5 rfl rfl rfl (by first|assumption|exact Arr.mono hg zC|exact Arr.left zC|exact Arr.left (Arr.mono hg zC)) (h:=fun p30 cs30 hp30 hr30=>?_)
    cases hr30
    refine .quiet (.g rfl rfl) rfl (fun _=>.loadAt flat5 rfl hp30 rfl) ?_;refine OD.q 2 rfl<|OD.ia (.g rfl rfl) underlying31 size5 rfl rfl rfl (by first|assumption|exact Arr.mono hg zC|exact Arr.left zC|exact Arr.left (Arr.mono hg zC)) (h:=fun p34 cs34 hp34 hr34=>?_)
    cases hr34
    refine .quiet (.g rfl rfl) rfl (fun _=>.loadAt flat5 rfl hp34 rfl) ?_;refine .quiet (.g rfl rfl) rfl (fun _=>.eql rfl rfl)<|.quiet (.g rfl rfl) rfl (fun _=>(by first|exact .notD rfl|exact .not rfl)) ?_;refine OD.q 2 rfl ?_
    first|refine OD.caseD 39 rfl (fun h39=>?_) (fun h39=>?_)|refine OD.caseB 39 rfl (fun h39=>?_) (fun h39=>?_)
    ·refine OD.q 18 rfl<|ODx.nil<|S.condT rfl<|S.seq<|S.region rfl<|O.q 1 rfl<|O.nil<|S.ret results27 rfl fun w hw=>hR _ _ w ?_ hw
     refine ⟨?_,rfl⟩;have hne:¬ zs=xs++marks1 12:=by
      intro e
      have h1:zs[i]=xs[i]:=by rw [← hget];exact getElem_congr_coll e
      have:=u8_toNat h1
      omega
     simp [hne]
    ·refine OD.q 2 rfl<|.quiet (.g rfl rfl) rfl (fun _=>.len rfl underlying31 rfl)<|.quiet (.g rfl rfl) rfl (fun _=>.geq rfl rfl)<|OD.sF 43 rfl zK ?_
     refine OD.q 14 rfl<|ODx.nil<|S.condF rfl<|S.skip<|S.inBlock<|S.region rfl<|O.q 1 rfl<|O.op (.p rfl) (.add rfl rfl (IntWalk.i64_in _ zD))<|O.q 1 rfl<|O.nil ?_;exact S.wk (ih (i+1) (by exact ⟨by omega,kept_step zK hx fun _=>by rw [hget];exact u8_inj zD⟩) zD)
   ·have hi2:xs.length≤i:=by omega
    have hget:(xs++marks1 12)[i]'zK=markB 1 ((i:Int) - (xs.length:Int)):=by
     rw [List.getElem_append_right hi2];simp [marks1,mks];congr 1;omega
    refine OD.q 14 rfl<|.quiet (.g rfl rfl) rfl (fun _=>.len rfl underlying31 rfl)<|.quiet (.g rfl rfl) rfl (fun _=>.geq rfl rfl)<|OD.sT 43 rfl zK ?_;refine OD.q 3 rfl<|OD.ia (.g rfl rfl) underlying31 size5 rfl rfl rfl (by first|assumption|exact Arr.mono hg zC|exact Arr.left zC|exact Arr.left (Arr.mono hg zC)) (h:=fun p47 cs47 hp47 hr47=>?_)
    cases hr47
    refine .quiet (.g rfl rfl) rfl (fun _=>.loadAt flat5 rfl hp47 rfl) ?_;refine OD.q 2 rfl<|.quiet (.g rfl rfl) rfl (fun _=>.len rfl underlying31 rfl)<|.quiet (.g rfl rfl) rfl (fun _=>.sub rfl rfl (IntWalk.i64_in _ zD))<|OD.call0 (.g rfl rfl) zB rfl zB rfl rfl (markByte_c _ _ zN zN) ?_;rintro _ _ ⟨rfl,rfl⟩
    try simp only [zx1,zx2,zx3]
    refine .quiet (.g rfl rfl) rfl (fun _=>.eql rfl rfl)<|.quiet (.g rfl rfl) rfl (fun _=>(by first|exact .notD rfl|exact .not rfl)) ?_;refine OD.q 2 rfl<|ODx.nil ?_
    first|refine S.condD rfl (fun h57=>?_) (fun h57=>?_)|refine S.condB rfl (fun h57=>?_) (fun h57=>?_)
    ·refine S.seq<|S.region rfl<|O.q 1 rfl<|O.nil<|S.ret results27 rfl fun w hw=>hR _ _ w ?_ hw
     refine ⟨?_,rfl⟩;have hne:¬ zs=xs++marks1 12:=by
      intro e
      have h1:zs[i]=markB 1 ((i:Int) - (xs.length:Int)):=by rw [← hget];exact getElem_congr_coll e
      have:=u8_toNat h1
      omega
     simp [hne]
    ·refine S.skip<|S.inBlock<|S.region rfl<|O.q 1 rfl<|O.op (.p rfl) (.add rfl rfl (IntWalk.i64_in _ zD))<|O.q 1 rfl<|O.nil ?_
     exact S.wk (ih (i+1) (by exact ⟨by omega,kept_step zK hx fun _=>by rw [hget];exact u8_inj zD⟩) zD)
  ·have hi:i=zs.length:=by omega
   refine S.exit rfl<|S.seq<|S.region rfl<|O.q 1 rfl<|O.nil<|S.ret results27 rfl fun w hw=>hR _ _ w ?_ hw;exact ⟨by rw [kept_get xs zs hzl.symm (fun j hj=>hx j hj zD)];simp,rfl⟩
def marks2 (n:Nat):List UInt8:=(List.range n).map fun (i:Nat)=>markB 2 (i:Int)
@[simp] theorem marks2_length (n:Nat):(marks2 n).length=n:=by simp [marks2]
def rowMarks (n:Nat):List (List UInt8):=(List.range n).map fun (i:Nat)=>markT 1 (i:Int)
@[simp] theorem rowMarks_length (n:Nat):(rowMarks n).length=n:=by simp [rowMarks]
def ArrW (v:Value) (xs:List UInt8):SProp:=fun m=>Arr Rp.u8 m v xs
abbrev tys:Tys:=⟨5,3,31,166,74,49,280,275,285,52,55,291,27⟩
theorem markDot_c {r:Fr} (k i:Int) (hk:Mk k) (hi:Mk i):Con prog 244 #[.int .i64 k,.int .i64 i] r [] (Ret fun v η=>v=.agg #[.int .i64 0,.int .i64 (markZ k i)]∧η=[]):=by
 refine Con.of (n:=9) _ rfl func244 rfl rfl rfl fun g hg R hR=>?_;refine S.seq<|S.region rfl<|O.opE (.p rfl) (.alloc (cs:=[.int .i64 0,.int .i64 0]) zeroValue166 rfl) ?_;rintro _ _ ⟨b4,rfl,rfl⟩;refine O.nil<|S.seq<|S.region rfl<|O.q 2 rfl<|O.call0 (.p rfl) rfl zB rfl rfl ((mark_c _ _ hk hi)) ?_;rintro _ _ ⟨rfl,rfl⟩
 try simp only [zx1,zx2,zx3]
 refine O.op (.p rfl) (.build (cs:=[_,_]) underlying166 rfl rfl rfl rfl rfl)<|O.opU rfl (.storeObj zB rfl rfl rfl rfl zE zI) ?_;refine O.nil<|S.retCellAgg results244 isAgg166 zB rfl zE fun w hw=>Holds.end_ hR hw ?_;exact pk ⟨rfl,rfl⟩
theorem markDot_rel {h:Fr} {k i:Int} (hk:Mk k) (hi:Mk i):DotRp.rel h [.int .i64 0,.int .i64 (markZ k i)] (markDot k i):=DotRp.mk zT (markZ64 hk hi)
theorem lentDots_c {r:Fr} {va:Value} {xs:List DotT} (ha:Arr DotRp r va xs) (hl:xs.length≤100000000000) :
  Con prog 202 #[va] r [] (Ret fun v η=>∃ a c,v=.slice a xs.length c∧η=[LentQ DotRp 166 (markDot 1) v xs]):=by
 refine Con.of (n:=25) _ rfl func202 rfl rfl rfl fun g hg R hR=>?_;have ha:=ha.mono hg;obtain ⟨a1,c1,rfl⟩:=ha.shape;refine S.seq<|S.region rfl<|O.q 1 rfl<|O.nil<|S.seq<|S.region rfl<|O.q 1 rfl<|O.op (.p rfl) (.len rfl underlying72 rfl)<|O.op (.p rfl) (.add rfl rfl (IntWalk.i64_in _ zD))<|O.opE (.p rfl) (.makeP0 (T:=DotRp) (c:=xs.length+12) underlying72 elem166 rfl rfl rfl rfl zD zD) ?_;rintro _ _ ⟨a8,c8,rfl,rfl⟩;refine O.q 1 rfl<|O.nil<|S.seq<|S.region rfl<|O.q 2 rfl<|O.opE (.p rfl) (.appendP (T:=DotRp) pure_Dot underlying72 elem166 zF rfl rfl zE (by first|assumption|exact Arr.mono hg zC|exact Arr.left zC|exact Arr.left (Arr.mono hg zC)) zJ zJ) ?_;rintro _ _ ⟨a11,c11,rfl,rfl⟩;refine O.q 1 rfl<|O.nil<|S.seq<|S.seq<|S.region rfl<|O.q 1 rfl<|O.nil (S.block ?_);simp only [List.length_nil,Nat.zero_add,List.nil_append];refine S.conv (C:=OwnP DotRp 166 (.slice a11 (xs.length+0) c11) (xs++mks (markDot 1) 0)) Sel.here (fun m x=>⟨m,Fr.sub_refl _,by simpa [mks] using x⟩) ?_;refine S.loopK3 (ι:=Nat) (κ:=Option Addr) (υ:=Nat) (fun i a c=>i≤12) (fun i a c=>[(4,.int .i64 (i:Int)),(3,.slice a (xs.length+i) c)]) [(0,_)] (fun i a c=>[OwnP DotRp 166 (.slice a (xs.length+i) c) (xs++mks (markDot 1) i)]) (fun i a c=>12 - i) (0) (a11) (c11) zG (.cons rfl (.cons rfl (.nil))) (.cons rfl (.nil)) rfl fun i a c hx ih=>?_;have hm1:=meltRefl (g:=g)
 refine S.seq<|S.seq<|S.region rfl<|O.q 1 rfl<|O.op (.p rfl) (.lss rfl rfl)<|O.nil ?_
 first|refine S.condD rfl (fun h13=>?_) (fun h13=>?_)|refine S.condB rfl (fun h13=>?_) (fun h13=>?_)
 ·refine S.skip<|S.seq<|S.block<|S.region rfl<|O.q 2 rfl<|O.call0 (.p rfl) rfl zB rfl rfl (markDot_c _ _ zN zN) ?_
  rintro _ _ ⟨rfl,rfl⟩
  try simp only [zx1,zx2,zx3]
  refine O.opE (.p rfl) (.litP (T:=DotRp) (ys:=[markDot 1 (i:Int)]) underlying72 elem166 zF rfl rfl ⟨markDot_rel zN zN,trivial⟩ zF) ?_;rintro _ _ ⟨a19,c19,rfl,rfl⟩;refine O.opE (.p rfl) (.appendO (T:=DotRp) underlying72 elem166 zF rfl rfl zE zE zJ zJ) ?_;rintro _ _ ⟨a20,c20,rfl,rfl⟩;refine O.q 1 rfl<|O.nil<|S.inBlock<|S.region rfl<|O.q 1 rfl<|O.op (.p rfl) (.add rfl rfl (IntWalk.i64_in _ zD))<|O.q 1 rfl<|O.nil ?_;simp only [List.length_append,mks_length];rw [List.append_assoc,mks_succ];exact S.pw (ih (i+1) (a20) (c20) zD zD)
 ·have hi:i=12:=by omega
  subst hi;refine S.factS Sel.here (fun _ x=>OwnP.room x) fun hroom=>?_;refine S.exit rfl<|S.seq<|S.region rfl<|O.q 2 rfl<|O.op (.p rfl) (.len rfl underlying72 rfl)<|O.slice0 (q:=xs.length) DotRp (.p rfl) underlying72 size166 rfl rfl rfl zD ?_;refine O.q 1 rfl<|O.nil<|S.conv (C:=LentQ DotRp 166 (markDot 1) (.slice a xs.length c) xs) Sel.here (fun m x=>⟨m,Fr.sub_refl _,a,c,hroom.2,rfl,x⟩) ?_;refine S.ret results202 rfl fun w hw=>hR _ _ w ?_ hw;exact ⟨a,c,rfl,rfl⟩
theorem keptDots_c {r:Fr} {va vl:Value} {xs:List DotT} (hz:LentQA DotRp (markDot 1) r va xs) (hl:Arr DotRp r vl xs) (hb:xs.length≤100000000000) :
  Con prog 218 #[va,vl] r [] (Ret fun v η=>v=.bool true∧η=[]):=by
 obtain ⟨a,c,hrm,rfl,hz⟩:=hz;refine Con.of (n:=58) _ rfl func218 rfl rfl rfl fun g hg R hR=>?_;have hz:=hz.mono hg;have hl:=hl.mono hg;obtain ⟨a1,c1,rfl⟩:=hl.shape;refine S.seq<|S.region rfl<|O.q 1 rfl<|O.nil<|S.seq<|S.seq<|S.region rfl<|O.q 1 rfl<|O.op (.p rfl) (.len rfl underlying72 rfl)<|O.q 1 rfl<|O.op (.p rfl) (.len rfl underlying72 rfl)<|O.op (.p rfl) (.neq rfl rfl)<|O.nil ?_
 first|refine S.condD rfl (fun h11=>?_) (fun h11=>?_)|refine S.condB rfl (fun h11=>?_) (fun h11=>?_)
 ·exact absurd rfl zC
 ·refine S.skip<|S.seq<|S.region rfl<|O.q 2 rfl<|O.op (.p rfl) (.len rfl underlying72 rfl)<|O.op (.p rfl) (.add rfl rfl (IntWalk.i64_in _ zD))<|O.slice0 (q:=xs.length+12) DotRp (.p rfl) underlying72 size166 rfl rfl rfl zD ?_
  refine O.q 1 rfl<|O.nil<|S.seq<|S.seq<|S.region rfl<|O.q 1 rfl<|O.nil<|S.block<|S.loopK (ι:=Nat) (fun i=>i≤xs.length+12) (fun i=>[(6,.int .i64 (i:Int))]) [(1,_),(5,_)] (fun i=>[]) (fun i=>xs.length+12 - i) (0) zG (.cons rfl (.nil)) (.cons rfl (.cons rfl (.nil))) rfl fun i hx ih=>?_;have hm1:=meltRefl (g:=g);refine S.seq<|S.seq<|S.region rfl<|O.q 2 rfl<|O.op (.p rfl) (.len rfl underlying72 rfl)<|O.op (.p rfl) (.lss rfl rfl)<|O.nil ?_
  first|refine S.condD rfl (fun h20=>?_) (fun h20=>?_)|refine S.condB rfl (fun h20=>?_) (fun h20=>?_)
  ·have hi:i<xs.length+12:=by omega
   have hlz:i<(xs++mks (markDot 1) 12).length:=by simp;omega
   refine S.skip<|S.seq<|S.block<|S.seq<|S.regionD (L:=[0,1,2,3,4,5,6,7,8,9,10,11,12,13,14,15,16,17,18,19,20,21,22,23,24,25,26,27,28,29,30,31,32,33,34]) F.mixed zB<|OD.q 2 rfl<|.quiet (.p rfl) rfl (fun _=>.len rfl underlying72 rfl)<|.quiet (.p rfl) rfl (fun _=>.lss rfl rfl)<|OD.q 1 rfl ?_
   first|refine OD.caseD 27 rfl (fun h27=>?_) (fun h27=>?_)|refine OD.caseB 27 rfl (fun h27=>?_) (fun h27=>?_)
   ·have hi2:i<xs.length:=by omega
    have hget:(xs++mks (markDot 1) 12)[i]=xs[i]:=List.getElem_append_left hi2;refine OD.q 2 rfl<|OD.ia (.g rfl rfl) underlying72 size166 rfl rfl rfl (hz) (h:=fun p30 cs30 hp30 hr30=>?_);obtain ⟨rfl,_,_⟩:=DotRp.open hr30;rw [hget] at hp30;refine .quiet (.g rfl rfl) rfl (fun _=>.loadAgg isAgg166 zB rfl hp30) ?_;refine OD.q 2 rfl<|OD.ia (.g rfl rfl) underlying72 size166 rfl rfl rfl (hl) (h:=fun p34 cs34 hp34 hr34=>?_);obtain ⟨rfl,_,_⟩:=DotRp.open hr34;refine .quiet (.g rfl rfl) rfl (fun _=>.loadAgg isAgg166 zB rfl hp34) ?_;refine .quiet (.g rfl rfl) rfl (fun _=>.eqlDot underlying166 underlying3 rfl rfl rfl rfl zF zF zB zB rfl rfl)<|OD.sT 36 rfl zG ?_;refine .quiet (.g rfl rfl) rfl (fun _=>.not rfl)<|OD.q 4 rfl<|.quiet (.g rfl rfl) rfl (fun _=>.len rfl underlying72 rfl)<|.quiet (.g rfl rfl) rfl (fun _=>.geq rfl rfl)<|OD.sF 43 rfl zK ?_;refine OD.q 14 rfl<|ODx.nil<|S.condF rfl<|S.skip<|S.inBlock<|S.region rfl<|O.q 1 rfl<|O.op (.p rfl) (.add rfl rfl (IntWalk.i64_in _ zD))<|O.q 1 rfl<|O.nil ?_;exact S.wk (ih (i+1) zD zD)
   ·have hi2:xs.length≤i:=by omega
    have hget:(xs++mks (markDot 1) 12)[i]=markDot 1 ((i:Int) - (xs.length:Int)):=by
     rw [List.getElem_append_right hi2,mks_get];congr 1;omega
    refine OD.q 14 rfl<|.quiet (.g rfl rfl) rfl (fun _=>.len rfl underlying72 rfl)<|.quiet (.g rfl rfl) rfl (fun _=>.geq rfl rfl)<|OD.sT 43 rfl zK ?_;refine OD.q 3 rfl<|OD.ia (.g rfl rfl) underlying72 size166 rfl rfl rfl (hz) (h:=fun p47 cs47 hp47 hr47=>?_);obtain ⟨rfl,_,_⟩:=DotRp.open hr47;rw [hget] at hp47;refine .quiet (.g rfl rfl) rfl (fun _=>.loadAgg isAgg166 zB rfl hp47) ?_;refine OD.q 2 rfl<|.quiet (.g rfl rfl) rfl (fun _=>.len rfl underlying72 rfl)<|.quiet (.g rfl rfl) rfl (fun _=>.sub rfl rfl (IntWalk.i64_in _ zD))<|OD.call0 (.g rfl rfl) zB rfl zB rfl rfl (markDot_c _ _ zN zN) ?_;rintro _ _ ⟨rfl,rfl⟩
    try simp only [zx1,zx2,zx3]
    refine .quiet (.g rfl rfl) rfl (fun _=>.eqlDot underlying166 underlying3 rfl rfl rfl rfl zF zF zB zB rfl rfl)<|OD.sT 54 rfl (by simp [markDot]) ?_;refine .quiet (.g rfl rfl) rfl (fun _=>.not rfl)<|OD.q 2 rfl<|ODx.nil<|S.condF rfl<|S.skip<|S.inBlock<|S.region rfl<|O.q 1 rfl<|O.op (.p rfl) (.add rfl rfl (IntWalk.i64_in _ zD))<|O.q 1 rfl<|O.nil ?_;exact S.wk (ih (i+1) zD zD)
  ·refine S.exit rfl<|S.seq<|S.region rfl<|O.q 1 rfl<|O.nil ?_
   exact S.rt results218 rfl hR ⟨rfl,rfl⟩
theorem keptBytes_l {r:Fr} {va vl:Value} {xs:List UInt8} (hz:LentQA Rp.u8 (markB 1) r va xs) (hl:Arr Rp.u8 r vl xs) (hb:xs.length≤1000000000000) :
  Con prog 27 #[va,vl] r [] (Ret fun v η=>v=.bool true∧η=[]):=by
 obtain ⟨a,c,hrm,rfl,hz⟩:=hz;exact (KeptBytes_c hz hl zD).post fun e η h w g hw=>by
  cases e with
  |returned v =>
   obtain ⟨rfl,rfl⟩:=h;exact ⟨_,⟨by simp,rfl⟩,hw⟩
  |panicked _=>exact h.elim
  |outgrown=>exact h.elim
theorem markRecord_c {r:Fr} (k i:Int) (hk:Mk k) (hi:Mk i):Con prog 101 #[.int .i64 k,.int .i64 i] r [] (Ret fun v η=>v=.agg #[.string (str []),.int .i64 0,.int .i64 (markZ k i),.slice none 0 0,.bool false,.slice none 0 0,.slice none 0 0]∧η=[]):=by
 refine Con.of (n:=9) _ rfl func101 rfl rfl rfl fun g hg R hR=>?_;refine S.seq<|S.region rfl<|O.opE (.p rfl) (.alloc (cs:=[.string ⟨#[]⟩,.int .i64 0,.int .i64 0,.slice none 0 0,.bool false,.slice none 0 0,.slice none 0 0]) zeroValue74 rfl) ?_;rintro _ _ ⟨b4,rfl,rfl⟩;refine O.nil<|S.seq<|S.region rfl<|O.q 2 rfl<|O.call0 (.p rfl) rfl zB rfl rfl ((mark_c _ _ hk hi)) ?_;rintro _ _ ⟨rfl,rfl⟩
 try simp only [zx1,zx2,zx3]
 refine O.op (.p rfl) (.build (cs:=[_,_,_,_,_,_,_]) underlying74 rfl rfl rfl rfl rfl)<|O.opU rfl (.storeObj zB rfl rfl rfl rfl zE zI) ?_;refine O.nil<|S.retCellAgg results101 isAgg74 zB rfl zE fun w hw=>Holds.end_ hR hw ?_;exact pk ⟨rfl,rfl⟩
theorem markRecord_rel {h:Fr} {k i:Int} (hk:Mk k) (hi:Mk i):RecRp.rel h [.string (str []),.int .i64 0,.int .i64 (markZ k i),.slice none 0 0,.bool false,.slice none 0 0,.slice none 0 0] (markRec k i):=RecRp.mk zG zT (markZ64 hk hi) Arr.nil Arr.nil Arr.nil
theorem lentRecord_c {r:Fr} {cs:List Value} {x:RecT} (h:RecRp.rel r cs x) (hb:RecOk 100000000000 x) :
  Con prog 100 #[.agg cs.toArray] r [] (Ret fun v η=>∃ a3 c3 a5 c5 a6 c6,v=.agg #[.string (str x.1),.int .i64 x.2.1,.int .i64 x.2.2.1,.slice a3 x.2.2.2.1.length c3,.bool x.2.2.2.2.1,.slice a5 x.2.2.2.2.2.1.length c5,.slice a6 x.2.2.2.2.2.2.1.length c6]∧η=[(RecL tys).own [.string (str x.1),.int .i64 x.2.1,.int .i64 x.2.2.1,.slice a3 x.2.2.2.1.length c3,.bool x.2.2.2.2.1,.slice a5 x.2.2.2.2.2.1.length c5,.slice a6 x.2.2.2.2.2.2.1.length c6] x]):=by
 obtain ⟨xa3,xa5,xa6,xc3,xc5,xc6,rfl,k0,k1,k2,k3,k5,k6⟩:=RecRp.sh h;obtain ⟨ob0,ob3,ob5,ob6⟩:=hb;refine Con.of (n:=16) _ rfl func100 rfl rfl rfl fun g hg R hR=>?_;have k3:=k3.mono hg;have k5:=k5.mono hg;have k6:=k6.mono hg;refine S.seq<|S.region rfl<|O.opE (.p rfl) (.box (cs:=[_,_,_,_,_,_,_]) rfl rfl) ?_;rintro _ _ ⟨b1,rfl,rfl⟩;refine O.opE (.p rfl) (.alloc (cs:=[.string ⟨#[]⟩,.int .i64 0,.int .i64 0,.slice none 0 0,.bool false,.slice none 0 0,.slice none 0 0]) zeroValue74 rfl) ?_;rintro _ _ ⟨b2,rfl,rfl⟩;refine O.nil<|S.seq<|S.region rfl<|O.op (.p rfl) (.fieldObj fld74x3 rfl)<|O.op (.p rfl) (.lo flat72) ?_;refine O.call0 (.p rfl) rfl zB rfl rfl ((lentDots_c k3 zD)) ?_;rintro _ _ ⟨a3,c3,rfl,rfl⟩
 try simp only [zx1,zx2,zx3]
 refine O.op (.p rfl) (.fieldObj fld74x3 rfl)<|O.opU rfl (.store1 flat72 rfl rfl zM zE zI) ?_;refine O.nil<|S.seq<|S.region rfl<|O.op (.p rfl) (.fieldObj fld74x5 rfl)<|O.op (.p rfl) (.lo flat31) ?_;refine O.call0 (.p rfl) rfl zB rfl rfl ((LentBytes_c k5 zD)) ?_;rintro _ _ ⟨a5,c5,rfl,rfl⟩
 try simp only [zx1,zx2,zx3]
 refine O.op (.p rfl) (.fieldObj fld74x5 rfl)<|O.opU rfl (.store1 flat31 rfl rfl zM zE zI) ?_;refine O.nil<|S.seq<|S.region rfl<|O.op (.p rfl) (.fieldObj fld74x6 rfl)<|O.op (.p rfl) (.lo flat31) ?_;refine O.call0 (.p rfl) rfl zB rfl rfl ((LentBytes_c k6 zD)) ?_;rintro _ _ ⟨a6,c6,rfl,rfl⟩
 try simp only [zx1,zx2,zx3]
 refine O.op (.p rfl) (.fieldObj fld74x6 rfl)<|O.opU rfl (.store1 flat31 rfl rfl zM zE zI) ?_;refine O.nil<|S.seq<|S.region rfl<|O.op (.p rfl) (.loA (news:=[_,_,_,_,_,_,_]) isAgg74) ?_;refine O.opU rfl (.storeObj zB rfl rfl rfl rfl zE zI) ?_;refine O.nil<|S.foldS (A:=(RecL tys).own [.string (str x.1),.int .i64 x.2.1,.int .i64 x.2.2.1,.slice a3 x.2.2.2.1.length c3,.bool x.2.2.2.2.1,.slice a5 x.2.2.2.2.2.1.length c5,.slice a6 x.2.2.2.2.2.2.1.length c6] x) (bs:=[LentQ DotRp tys.dot (markDot 1) (.slice a3 x.2.2.2.1.length c3) x.2.2.2.1,LentQ Rp.u8 tys.u8 (markB 1) (.slice a5 x.2.2.2.2.2.1.length c5) x.2.2.2.2.2.1,LentQ Rp.u8 tys.u8 (markB 1) (.slice a6 x.2.2.2.2.2.2.1.length c6) x.2.2.2.2.2.2.1]) zL (fun m y=>RecL.mk k0 k1 k2 y) ?_;refine S.retCellAgg results100 isAgg74 zB rfl zE fun w hw=>Holds.end_ hR hw ?_;exact pk ⟨a3,c3,a5,c5,a6,c6,rfl,rfl⟩
theorem keptRecord_c {r:Fr} {cs ds:List Value} {x:RecT} (h:(RecL tys).rd r cs x) (hy:RecRp.rel r ds x) (hb:RecOk 100000000000 x) :
  Con prog 112 #[.agg cs.toArray,.agg ds.toArray] r [] (Ret fun v η=>v=.bool true∧η=[]):=by
 have hx:=(RecL tys).rel h;obtain ⟨v3,v5,v6,rfl,k0,k1,k2,q3,q5,q6⟩:=RecL.opn h;obtain ⟨ya3,ya5,ya6,yc3,yc5,yc6,rfl,yk0,yk1,yk2,yk3,yk5,yk6⟩:=RecRp.sh hy;obtain ⟨ob0,ob3,ob5,ob6⟩:=hb;refine Con.of (n:=29) _ rfl func112 rfl rfl rfl fun g hg R hR=>?_;have hx:=hx.mono hg;have hy:=hy.mono hg;have yk3:=yk3.mono hg;have yk5:=yk5.mono hg;have yk6:=yk6.mono hg;replace q3:=q3.mono hg;replace q5:=q5.mono hg;replace q6:=q6.mono hg;refine S.seq<|S.region rfl<|O.opE (.p rfl) (.box (cs:=[_,_,_,_,_,_,_]) rfl rfl) ?_;rintro _ _ ⟨b2,rfl,rfl⟩;refine O.opE (.p rfl) (.box (cs:=[_,_,_,_,_,_,_]) rfl rfl) ?_;rintro _ _ ⟨b3,rfl,rfl⟩;refine O.q 1 rfl<|O.nil<|S.seq<|S.region rfl<|O.op (.p rfl) (.loA (news:=[_,_,_,_,_,_,_]) isAgg74) ?_;refine O.op (.p rfl) (.loA (news:=[_,_,_,_,_,_,_]) isAgg74) ?_;refine O.call0 (.p rfl) rfl zB rfl rfl ((sameRecord_c hx hy)) ?_;rintro _ _ ⟨rfl,rfl⟩
 try simp only [zx1,zx2,zx3]
 refine O.sT 7 rfl zG ?_;refine O.q 1 rfl<|O.op (.g rfl rfl) (.fieldObj fld74x3 rfl)<|O.op (.g rfl rfl) (.lo flat72) ?_;refine O.op (.g rfl rfl) (.fieldObj fld74x3 rfl)<|O.op (.g rfl rfl) (.lo flat72) ?_;refine O.call0 (.g rfl rfl) rfl zB rfl rfl ((keptDots_c q3 yk3 zD)) ?_;rintro _ _ ⟨rfl,rfl⟩
 try simp only [zx1,zx2,zx3]
 refine O.q 2 rfl<|O.op (.g rfl rfl) (.fieldObj fld74x5 rfl)<|O.op (.g rfl rfl) (.lo flat31) ?_;refine O.op (.g rfl rfl) (.fieldObj fld74x5 rfl)<|O.op (.g rfl rfl) (.lo flat31) ?_;refine O.call0 (.g rfl rfl) rfl zB rfl rfl ((keptBytes_l q5 yk5 zD)) ?_;rintro _ _ ⟨rfl,rfl⟩
 try simp only [zx1,zx2,zx3]
 refine O.q 2 rfl<|O.op (.g rfl rfl) (.fieldObj fld74x6 rfl)<|O.op (.g rfl rfl) (.lo flat31) ?_;refine O.op (.g rfl rfl) (.fieldObj fld74x6 rfl)<|O.op (.g rfl rfl) (.lo flat31) ?_;refine O.call0 (.g rfl rfl) rfl zB rfl rfl ((keptBytes_l q6 yk6 zD)) ?_;rintro _ _ ⟨rfl,rfl⟩
 try simp only [zx1,zx2,zx3]
 refine O.q 2 rfl<|O.nil ?_;exact S.rt results112 rfl hR ⟨rfl,rfl⟩
theorem lentRecords_c {r:Fr} {va:Value} {es:List RecT} (ha:Arr RecRp r va es) (hq:∀ x∈es,RecOk 100000000000 x) (hl:es.length≤100000000000) :
  Con prog 37 #[va] r [] (Ret fun v η=>∃ a c,v=.slice a es.length c∧η=[LentL (RecL tys) tys.recd (markRec 1) (.slice a es.length c) es]):=by
 have har:=ha;refine Con.of (n:=39) _ rfl func37 rfl rfl rfl fun g hg R hR=>?_;have ha:=ha.mono hg;obtain ⟨a1,c1,rfl⟩:=ha.shape;refine S.seq<|S.region rfl<|O.q 1 rfl<|O.nil<|S.seq<|S.region rfl<|O.q 1 rfl<|O.op (.p rfl) (.len rfl underlying47 rfl)<|O.op (.p rfl) (.add rfl rfl (IntWalk.i64_in _ zD))<|O.opE (.p rfl) (.makeP0 (T:=Rp.cells 7) (c:=es.length+12) underlying47 elem74 rfl rfl rfl rfl zD zD) ?_;rintro _ _ ⟨a10,c10,rfl,rfl⟩;refine O.q 1 rfl<|O.nil<|S.seq<|S.seq<|S.region rfl<|O.q 1 rfl<|O.nil<|S.block<|S.each0 (RecL tys).own ?_;refine S.loopK4 (ι:=Nat) (κ:=Option Addr) (υ:=Nat) (τ:=List (List Value)) (fun i a c css=>i≤es.length∧css.length=i) (fun i a c css=>[(4,.int .i64 (i:Int)),(3,.slice a i c)]) [(0,_)] (fun i a c css=>[EachP (RecL tys).own css (es.take i),OwnP (Rp.cells 7) 74 (.slice a i c) css]) (fun i a c css=>es.length - i) (0) (a10) (c10) ([]) zV (.cons rfl (.cons rfl (.nil))) (.cons rfl (.nil)) rfl fun i a c css hx ih=>?_;have hm1:=meltRefl (g:=g);obtain ⟨hx1,hvs⟩:=hx;refine S.seq<|S.seq<|S.region rfl<|O.q 2 rfl<|O.op (.p rfl) (.len rfl underlying47 rfl)<|O.op (.p rfl) (.lss rfl rfl)<|O.nil ?_
 first|refine S.condD rfl (fun h14=>?_) (fun h14=>?_)|refine S.condB rfl (fun h14=>?_) (fun h14=>?_)
 ·have hi:i<es.length:=by omega
  have hrow:=hq es[i] (List.getElem_mem hi);refine S.skip<|S.seq<|S.block<|S.seq<|S.region rfl<|O.q 2 rfl<|O.ib (.p rfl) underlying47 size74 rfl rfl rfl har hg (h:=fun p19 cs19 hp19 hrr19=>?_);have hr19:=Rp.rel.mono hrr19 hg;obtain ⟨ra3_19,ra5_19,ra6_19,rc3_19,rc5_19,rc6_19,rfl,ho0_19,ho1_19,ho2_19,ha3_19,ha5_19,ha6_19⟩:=RecRp.sh hr19;refine O.op (.p rfl) (.loadAgg isAgg74 zB rfl hp19) ?_;refine O.call0 (.p rfl) rfl zB rfl rfl ((lentRecord_c hr19 hrow)) ?_;rintro _ _ ⟨a3_21,c3_21,a5_21,c5_21,a6_21,c6_21,rfl,rfl⟩
  try simp only [zx1,zx2,zx3]
  refine O.opE (.p rfl) (.alloc (cs:=[.string ⟨#[]⟩,.int .i64 0,.int .i64 0,.slice none 0 0,.bool false,.slice none 0 0,.slice none 0 0]) zeroValue74 rfl) ?_;rintro _ _ ⟨b5,rfl,rfl⟩;refine O.opU rfl (.storeObj zB rfl rfl rfl rfl zE zI) ?_;refine O.nil<|S.region rfl<|O.q 1 rfl<|O.op (.p rfl) (.loA (news:=[_,_,_,_,_,_,_]) isAgg74) ?_;refine O.opE (.p rfl) (.litP (T:=(Rp.cells 7)) (ys:=[_]) underlying47 elem74 zF rfl rfl ⟨⟨rfl,rfl,by first|(simp;done)|(intro v hv;simp [Value.cells] at hv;rcases hv with rfl|rfl<;>rfl)|(refine List.forall_mem_cons.2 ⟨rfl,?_⟩;repeat (first|exact (fun _ h=>absurd h List.not_mem_nil)|refine List.forall_mem_cons.2 ⟨rfl,?_⟩))⟩,trivial⟩ zF) ?_;rintro _ _ ⟨a24,c24,rfl,rfl⟩;refine O.opE (.p rfl) (.appendO (T:=(Rp.cells 7)) underlying47 elem74 zF rfl rfl zE zE zJ zJ) ?_;rintro _ _ ⟨a25,c25,rfl,rfl⟩;refine O.q 1 rfl<|O.nil<|S.inBlock<|S.region rfl<|O.q 1 rfl<|O.op (.p rfl) (.add rfl rfl (IntWalk.i64_in _ zD))<|O.q 1 rfl<|O.nil ?_
  have hcs:(Value.agg #[.string (str es[i].1),.int .i64 es[i].2.1,.int .i64 es[i].2.2.1,.slice a3_21 es[i].2.2.2.1.length c3_21,.bool es[i].2.2.2.2.1,.slice a5_21 es[i].2.2.2.2.2.1.length c5_21,.slice a6_21 es[i].2.2.2.2.2.2.1.length c6_21]).cells.toList=[.string (str es[i].1),.int .i64 es[i].2.1,.int .i64 es[i].2.2.1,.slice a3_21 es[i].2.2.2.1.length c3_21,.bool es[i].2.2.2.2.1,.slice a5_21 es[i].2.2.2.2.2.1.length c5_21,.slice a6_21 es[i].2.2.2.2.2.2.1.length c6_21]:=by simp [Value.cells]
  simp only [hcs];refine S.each (A:=(RecL tys).own) (bs:=css) (b:=[.string (str es[i].1),.int .i64 es[i].2.1,.int .i64 es[i].2.2.1,.slice a3_21 es[i].2.2.2.1.length c3_21,.bool es[i].2.2.2.2.1,.slice a5_21 es[i].2.2.2.2.2.1.length c5_21,.slice a6_21 es[i].2.2.2.2.2.2.1.length c6_21]) (a:=es[i]) zE zE ?_;rw [← List.take_succ_eq_append_getElem hi,hvs];exact S.pw (ih (i+1) (a25) (c25) (css++[[.string (str es[i].1),.int .i64 es[i].2.1,.int .i64 es[i].2.2.1,.slice a3_21 es[i].2.2.2.1.length c3_21,.bool es[i].2.2.2.2.1,.slice a5_21 es[i].2.2.2.2.2.1.length c5_21,.slice a6_21 es[i].2.2.2.2.2.2.1.length c6_21]]) (by exact ⟨by omega,by simp;omega⟩) zD)
 ·have hi:i=es.length:=by omega
  subst hi;rw [List.take_length];refine S.exit rfl<|S.seq<|S.seq<|S.region rfl<|O.q 1 rfl<|O.nil<|S.block<|S.conv (B:=OwnP (Rp.cells 7) 74 (.slice a es.length c) css) (C:=OwnP (Rp.cells 7) 74 (.slice a es.length c) (css++[])) zE (fun m x=>⟨m,Fr.sub_refl _,by rw [List.append_nil];exact x⟩) ?_;refine S.loopK4 (ι:=Nat) (κ:=Option Addr) (υ:=Nat) (τ:=List (List Value)) (fun i a c dss=>i≤12∧All2 (RecRp.rel Fr.emp) dss (mks (markRec 1) i)) (fun i a c dss=>[(6,.int .i64 (i:Int)),(3,.slice a (es.length+i) c)]) [(0,_)] (fun i a c dss=>[OwnP (Rp.cells 7) 74 (.slice a (es.length+i) c) (css++dss),EachP (RecL tys).own css es]) (fun i a c dss=>12 - i) (0) (a) (c) ([]) (by exact ⟨by simp,trivial⟩) (.cons rfl (.cons rfl (.nil))) (.cons rfl (.nil)) rfl fun i a c dss hx ih=>?_;have hm2:=meltRefl (g:=g);obtain ⟨hx1,hus⟩:=hx;have hul:=hus.len2;rw [mks_length] at hul;refine S.seq<|S.seq<|S.region rfl<|O.q 1 rfl<|O.op (.p rfl) (.lss rfl rfl)<|O.nil ?_
  first|refine S.condD rfl (fun h27=>?_) (fun h27=>?_)|refine S.condB rfl (fun h27=>?_) (fun h27=>?_)
  ·refine S.skip<|S.seq<|S.block<|S.region rfl<|O.q 2 rfl<|O.call0 (.p rfl) rfl zB rfl rfl (markRecord_c _ _ zN zN) ?_
   rintro _ _ ⟨rfl,rfl⟩
   try simp only [zx1,zx2,zx3]
   refine O.opE (.p rfl) (.litP (T:=(Rp.cells 7)) (ys:=[_]) underlying47 elem74 zF rfl rfl ⟨⟨rfl,rfl,by first|(simp;done)|(intro v hv;simp [Value.cells] at hv;rcases hv with rfl|rfl<;>rfl)|(refine List.forall_mem_cons.2 ⟨rfl,?_⟩;repeat (first|exact (fun _ h=>absurd h List.not_mem_nil)|refine List.forall_mem_cons.2 ⟨rfl,?_⟩))⟩,trivial⟩ zF) ?_;rintro _ _ ⟨a33,c33,rfl,rfl⟩;refine O.opE (.p rfl) (.appendO (T:=(Rp.cells 7)) underlying47 elem74 zF rfl rfl zE zE zJ zJ) ?_;rintro _ _ ⟨a34,c34,rfl,rfl⟩;refine O.q 1 rfl<|O.nil<|S.inBlock<|S.region rfl<|O.q 1 rfl<|O.op (.p rfl) (.add rfl rfl (IntWalk.i64_in _ zD))<|O.q 1 rfl<|O.nil ?_;have hcs:(Value.agg #[.string (str []),.int .i64 0,.int .i64 (markZ 1 (i:Int)),.slice none 0 0,.bool false,.slice none 0 0,.slice none 0 0]).cells.toList=[.string (str []),.int .i64 0,.int .i64 (markZ 1 (i:Int)),.slice none 0 0,.bool false,.slice none 0 0,.slice none 0 0]:=by simp [Value.cells]
   simp only [hcs];rw [List.append_assoc];simp only [List.length_append,hvs,hul];exact S.pw (ih (i+1) (a34) (c34) ((dss++[[.string (str []),.int .i64 0,.int .i64 (markZ 1 (i:Int)),.slice none 0 0,.bool false,.slice none 0 0,.slice none 0 0]])) (by exact ⟨by omega,by rw [← mks_succ];exact All2.append hus ⟨markRecord_rel zN zN,trivial⟩⟩) zD)
  ·have hi:i=12:=by omega
   subst hi;refine S.factS zE (fun _ x=>OwnP.room (T:=Rp.cells 7) (e:=74) (xs:=css++dss) (a:=a) (c:=c) (m:=es.length+12) x) fun hroom=>?_;refine S.exit rfl<|S.seq<|S.region rfl<|O.q 2 rfl<|O.op (.p rfl) (.len rfl underlying47 rfl)<|O.slice0 (q:=es.length) (Rp.cells 7) (.p rfl) underlying47 size74 rfl rfl rfl zD ?_;refine O.q 1 rfl<|O.nil<|S.pk (ζ:=[OwnP (Rp.cells 7) 74 (.slice a (es.length+12) c) (css++dss),EachP (RecL tys).own css es]) zR ?_;refine S.fold (A:=LentL (RecL tys) tys.recd (markRec 1) (.slice a es.length c) es) (bs:=[OwnP (Rp.cells 7) 74 (.slice a (es.length+12) c) (css++dss),EachP (RecL tys).own css es]) (fun m x=>LentL.fold (L:=RecL tys) hroom.2 hvs hus x) ?_;exact S.rt results37 rfl hR ⟨a,c,rfl,rfl⟩
theorem keptRecords_c {r:Fr} {va vl:Value} {es:List RecT} (hz:LentLA (RecL tys) (markRec 1) r va es) (hl:Arr RecRp r vl es) (hq:∀ x∈es,RecOk 100000000000 x) (hb:es.length≤100000000000) :
  Con prog 41 #[va,vl] r [] (Ret fun v η=>v=.bool true∧η=[]):=by
 obtain ⟨a,c,css,dss,rfl,hrm,hin,hv,hu⟩:=hz;have hlr:=hl;refine Con.of (n:=58) _ rfl func41 rfl rfl rfl fun g hg R hR=>?_;have hin:=hin.mono hg;have hl:=hl.mono hg;replace hv:=hv.imp fun _ _=>(RecL tys).mono hg;replace hu:=hu.imp fun _ _=>RecRp.mono hg;have hvl:=hv.len2;have hul:=hu.len2;rw [mks_length] at hul;obtain ⟨a1,c1,rfl⟩:=hl.shape;have hal:(css++dss).length=es.length+12:=by simp;omega
 refine S.seq<|S.region rfl<|O.q 1 rfl<|O.nil<|S.seq<|S.seq<|S.region rfl<|O.q 1 rfl<|O.op (.p rfl) (.len rfl underlying47 rfl)<|O.q 1 rfl<|O.op (.p rfl) (.len rfl underlying47 rfl)<|O.op (.p rfl) (.neq rfl rfl)<|O.nil ?_
 first|refine S.condD rfl (fun h11=>?_) (fun h11=>?_)|refine S.condB rfl (fun h11=>?_) (fun h11=>?_)
 ·exact absurd rfl zC
 ·refine S.skip<|S.seq<|S.region rfl<|O.q 2 rfl<|O.op (.p rfl) (.len rfl underlying47 rfl)<|O.op (.p rfl) (.add rfl rfl (IntWalk.i64_in _ zD))<|O.slice0 (q:=es.length+12) (Rp.cells 7) (.p rfl) underlying47 size74 rfl rfl rfl zD ?_
  refine O.q 1 rfl<|O.nil<|S.seq<|S.seq<|S.region rfl<|O.q 1 rfl<|O.nil<|S.block<|S.loopK (ι:=Nat) (fun i=>i≤es.length+12) (fun i=>[(6,.int .i64 (i:Int))]) [(1,_),(5,_)] (fun i=>[]) (fun i=>es.length+12 - i) (0) zG (.cons rfl (.nil)) (.cons rfl (.cons rfl (.nil))) rfl fun i hx ih=>?_;have hm1:=meltRefl (g:=g);refine S.seq<|S.seq<|S.region rfl<|O.q 2 rfl<|O.op (.p rfl) (.len rfl underlying47 rfl)<|O.op (.p rfl) (.lss rfl rfl)<|O.nil ?_
  first|refine S.condD rfl (fun h20=>?_) (fun h20=>?_)|refine S.condB rfl (fun h20=>?_) (fun h20=>?_)
  ·have hi:i<(css++dss).length:=by omega
   refine S.skip<|S.seq<|S.block<|S.seq<|S.regionD (L:=[0,1,2,3,4,5,6,7,8,9,10,11,12,13,14,15,16,17,18,19,20,21,22,23,24,25,26,27,28,29,30,31,32,33,34]) F.mixed zB<|OD.q 2 rfl<|.quiet (.p rfl) rfl (fun _=>.len rfl underlying47 rfl)<|.quiet (.p rfl) rfl (fun _=>.lss rfl rfl)<|OD.q 1 rfl ?_
   first|refine OD.caseD 27 rfl (fun h27=>?_) (fun h27=>?_)|refine OD.caseB 27 rfl (fun h27=>?_) (fun h27=>?_)
   ·have hi2:i<es.length:=by omega
    have hget:(css++dss)[i]=css[i]:=List.getElem_append_left zD;have hA:=hv.at2 i zD hi2;have hA2:=(RecL tys).rel hA;have hrow:=hq es[i] (List.getElem_mem hi2);refine OD.q 2 rfl<|OD.ia (.g rfl rfl) underlying47 size74 rfl rfl rfl (hin) (h:=fun p30 cs30 hp30 hr30=>?_);obtain ⟨rfl,_,_⟩:=hr30;rw [hget] at hp30;generalize css[i]=cz at hp30 hA hA2;obtain ⟨za3_30,za5_30,za6_30,zc3_30,zc5_30,zc6_30,rfl,zk0_30,zk1_30,zk2_30,zk3_30,zk5_30,zk6_30⟩:=RecRp.sh hA2;refine .quiet (.g rfl rfl) rfl (fun _=>.loadAgg isAgg74 zB rfl hp30) ?_;refine OD.q 2 rfl<|OD.ib (.g rfl rfl) underlying47 size74 rfl rfl rfl hlr hg (h:=fun p34 cs34 hp34 hrr34=>?_);have hr34:=Rp.rel.mono hrr34 hg;obtain ⟨ra3_34,ra5_34,ra6_34,rc3_34,rc5_34,rc6_34,rfl,ho0_34,ho1_34,ho2_34,ha3_34,ha5_34,ha6_34⟩:=RecRp.sh hr34;refine .quiet (.g rfl rfl) rfl (fun _=>.loadAgg isAgg74 zB rfl hp34) ?_;refine OD.call0 (.g rfl rfl) zB rfl zB rfl rfl ((keptRecord_c hA hr34 hrow)) ?_;rintro _ _ ⟨rfl,rfl⟩
    try simp only [zx1,zx2,zx3]
    refine .quiet (.g rfl rfl) rfl (fun _=>.not rfl)<|OD.q 4 rfl<|.quiet (.g rfl rfl) rfl (fun _=>.len rfl underlying47 rfl)<|.quiet (.g rfl rfl) rfl (fun _=>.geq rfl rfl)<|OD.sF 43 rfl zK ?_;refine OD.q 14 rfl<|ODx.nil<|S.condF rfl<|S.skip<|S.inBlock<|S.region rfl<|O.q 1 rfl<|O.op (.p rfl) (.add rfl rfl (IntWalk.i64_in _ zD))<|O.q 1 rfl<|O.nil ?_;exact S.wk (ih (i+1) zD zD)
   ·have hi2:es.length≤i:=by omega
    have hid:i - css.length<dss.length:=by omega
    have hget:(css++dss)[i]=dss[i - css.length]:=List.getElem_append_right zD;have hA2:=hu.at2 (i - css.length) hid zK;rw [mks_get] at hA2;have hmk:Mk ((i:Int) - (es.length:Int)):=by constructor<;>omega
    have hci:((i - css.length:Nat):Int)=(i:Int) - (es.length:Int):=by omega
    rw [hci] at hA2;refine OD.q 14 rfl<|.quiet (.g rfl rfl) rfl (fun _=>.len rfl underlying47 rfl)<|.quiet (.g rfl rfl) rfl (fun _=>.geq rfl rfl)<|OD.sT 43 rfl zK ?_;refine OD.q 3 rfl<|OD.ia (.g rfl rfl) underlying47 size74 rfl rfl rfl (hin) (h:=fun p47 cs47 hp47 hr47=>?_);obtain ⟨rfl,_,_⟩:=hr47;rw [hget] at hp47;generalize dss[i - css.length]=cz at hp47 hA2;obtain ⟨za3_47,za5_47,za6_47,zc3_47,zc5_47,zc6_47,rfl,zk0_47,zk1_47,zk2_47,zk3_47,zk5_47,zk6_47⟩:=RecRp.sh hA2;refine .quiet (.g rfl rfl) rfl (fun _=>.loadAgg isAgg74 zB rfl hp47) ?_;refine OD.q 2 rfl<|.quiet (.g rfl rfl) rfl (fun _=>.len rfl underlying47 rfl)<|.quiet (.g rfl rfl) rfl (fun _=>.sub rfl rfl (IntWalk.i64_in _ zD))<|OD.call0 (.g rfl rfl) zB rfl zB rfl rfl ((markRecord_c _ _ zN hmk)) ?_;rintro _ _ ⟨rfl,rfl⟩
    try simp only [zx1,zx2,zx3]
    refine OD.call0 (.g rfl rfl) zB rfl zB rfl rfl ((sameRecord_c hA2 (markRecord_rel zN hmk))) ?_;rintro _ _ ⟨rfl,rfl⟩
    try simp only [zx1,zx2,zx3]
    refine OD.sT 54 rfl zG ?_;refine .quiet (.g rfl rfl) rfl (fun _=>.not rfl)<|OD.q 2 rfl<|ODx.nil<|S.condF rfl<|S.skip<|S.inBlock<|S.region rfl<|O.q 1 rfl<|O.op (.p rfl) (.add rfl rfl (IntWalk.i64_in _ zD))<|O.q 1 rfl<|O.nil ?_;exact S.wk (ih (i+1) zD zD)
  ·refine S.exit rfl<|S.seq<|S.region rfl<|O.q 1 rfl<|O.nil ?_
   exact S.rt results41 rfl hR ⟨rfl,rfl⟩
theorem recG_sat {x:RecT} {v3 v5 v6:Value} {m:Fr} (h:recOk x=true) (hs:Sat (recWs x v3 v5 v6) m):(RecG tys).own (recV x v3 v5 v6) x m:=by
 have h1:=shaped_iff.1 (recOk_iff.1 h).1;have hd:=dotOk_iff.1 h1.2.2.1;simp only [rDot] at hd;exact RecG.mk zD ⟨by omega,by omega⟩ ⟨by omega,by omega⟩ hs
end Go.Proofs.YtodhbhanmdfdeaaGreat
