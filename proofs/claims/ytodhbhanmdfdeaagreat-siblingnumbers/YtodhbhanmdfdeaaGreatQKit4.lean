/- Texts of this proof. -/
import Derived.Test.YtodhbhanmdfdeaaGreatQRef7
import Derived.Test.YtodhbhanmdfdeaaGreatQJoin3
import Derived.Test.YtodhbhanmdfdeaaGreatQSpJoin3
open Go Go.Sp Go.Proofs.Tryz
set_option maxRecDepth 100000
set_option maxHeartbeats 1000000
attribute [local irreducible] obj Own OwnP
namespace Go.Proofs.YtodhbhanmdfdeaaGreat
def jGet (l:List RecT):Option (List RecT):=if oneK l=true then some (joinL l) else none
theorem zip_it {h:Fr}:∀ {css:List (List Value)} {xs:List RecT},All2 (ItRp.rel h) css xs→∃ ps:List ItP,ps.map (·.1)=css∧ps.map (·.2)=xs∧∀ q∈ps,ItRp.rel h q.1 q.2
 |[],[],_=>⟨[],rfl,rfl,fun _ h=>by cases h⟩
 |c::css,x::xs,⟨h1,h2⟩=>by
  obtain ⟨ps,e1,e2,e3⟩:=zip_it h2;exact ⟨(c,x)::ps,by rw [← e1];rfl,by rw [← e2];rfl,fun q hq=>by
   rcases List.mem_cons.1 hq with rfl|hq
   ·exact h1
   ·exact e3 q hq⟩
theorem recGet_self {x:RecT} (h:recOk x=true):recGet (recB x)=some x:=recGet_iff.2 ⟨h,rfl⟩
theorem sown_c {r:Fr} {b:Nat} {xs:List RecT} (hrow:RowA r b xs) (ho:∀ x∈xs,recOk x=true) (hl:xs.length≤100000000000) :
  Con prog 106 #[.pointer (some ⟨b,0,none⟩)] r [] (Ret fun v η=>∃ a c,v=.slice a xs.length c∧η=[ListP (RecG tys) 74 (.slice a xs.length c) xs]):=by
 obtain ⟨qa,qc,hqat,hqar⟩:=hrow;refine Con.o func106 fun g hg R hR=>?_;have hqat:=hqat.mono hg;have hqar:=hqar.mono hg;refine zz 10 ?_;refine S.listNil (RecG tys) 74 ?_;refine zz 3 ?_;refine O.op (.p rfl) (.fieldAddr fld148x0 rfl) ?_;refine zz 5 ?_;refine S.loopK2 (ι:=Nat) (κ:=Option Addr × Nat) (fun i s=>i≤xs.length) (fun i s=>[(13,.int .i64 (i:Int)),(3,.slice s.1 (xs.take i).length s.2)]) [(11,_),(12,_)] (fun i s=>[ListP (RecG tys) 74 (.slice s.1 (xs.take i).length s.2) (xs.take i)]) (fun i s=>xs.length - i) (0) ((none,0)) zG zq zq rfl fun i s hx ih=>?_;have hm1:=meltRefl (g:=g);refine zz 5 ?_;refine S.cd rfl (fun h14=>?_) fun h14=>?_
 ·have hi:i<xs.length:=by omega
  have hok:=ho _ (List.getElem_mem hi);have hbl:=recB_le hok;have hti:(xs.take i).length=i:=by simp;omega
  refine zz 5 ?_;refine O.ia (.p rfl) underlying146 size158 rfl rfl rfl zA (h:=fun p15 cs15 hp15 hr15=>?_);obtain ⟨ia3_15,ia5_15,ia6_15,ia7_15,ic3_15,ic5_15,ic6_15,ic7_15,rfl,hr1_15,ha7_15⟩:=ItRp.sh hr15;refine O.op (.p rfl) (.loadAgg isAgg158 zC rfl hp15) ?_;refine O.opE (.p rfl) (.alloc (cs:=[.string ⟨#[]⟩,.int .i64 0,.int .i64 0,.slice none 0 0,.bool false,.slice none 0 0,.slice none 0 0,.slice none 0 0]) zeroValue158 rfl) ?_;rintro _ _ ⟨b5,rfl,rfl⟩;refine zz 1 ?_;refine O.nil<|S.seq<|S.objIs (b:=b5) (cs' :=[.string (str xs[i].1),.int .i64 xs[i].2.1,.int .i64 xs[i].2.2.1,.slice ia3_15 xs[i].2.2.2.1.length ic3_15,.bool xs[i].2.2.2.2.1,.slice ia5_15 xs[i].2.2.2.2.2.1.length ic5_15,.slice ia6_15 xs[i].2.2.2.2.2.2.1.length ic6_15,.slice ia7_15 (recB xs[i]).length ic7_15]) zB rfl ?_;refine S.frzO zB fun g hs hm hb5=>?_;replace hg:=Fr.sub_trans hg hs;replace hR:=melted hR hm
  try replace hqat:=hqat.mono hs
  try replace hqar:=hqar.mono hs
  try replace hp15:=hp15.mono hs
  try replace ha7_15:=ha7_15.mono hs
  try replace hr15:=hr15.mono hs
  try replace hr1_15:=hr1_15.mono hs
  replace hm1:=meltTrans hm1 hm;clear hs hm;refine zz 1 ?_;refine O.op (.p rfl) (.fieldAddr fld158x1 rfl) ?_;refine zz 1 ?_;refine O.call0 (.p rfl) rfl zC rfl rfl ((rGetY_c (recGet_self hok) ha7_15 zD)) ?_;rintro _ _ ⟨a3,c3,a5,c5,a6,c6,rfl,rfl⟩;refine O.q 3 rfl<|O.opE (.p rfl) (.alloc (cs:=[.string ⟨#[]⟩,.int .i64 0,.int .i64 0,.slice none 0 0,.bool false,.slice none 0 0,.slice none 0 0]) zeroValue74 rfl) ?_;rintro _ _ ⟨b6,rfl,rfl⟩;refine zz 7 ?_;refine O.sT 24 rfl zE ?_;refine O.callP0 (.p rfl) rfl zC rfl rfl (smust_c _) (fun ch η' w hX hW=>by (exact absurd hX.1 zG)) ?_;rintro _ _ ⟨hb25,rfl,rfl⟩;refine O.nil<|S.listOpen (k' :=7) rfl zB fun css hcl=>?_;rw [← hcl];refine zz 3 ?_;refine O.opE (.p rfl) (.litP (T:=(Rp.cells 7)) (ys:=[_]) underlying47 elem74 zE rfl rfl ⟨⟨rfl,rfl,by first|(simp;done)|(intro v hv;simp [Value.cells] at hv;rcases hv with rfl|rfl<;>rfl)|(refine List.forall_mem_cons.2 ⟨rfl,?_⟩;repeat (first|exact (fun _ h=>absurd h List.not_mem_nil)|refine List.forall_mem_cons.2 ⟨rfl,?_⟩))⟩,trivial⟩ zE) ?_;rintro _ _ ⟨a28,c28,rfl,rfl⟩;refine O.opE (.p rfl) (.appendO (T:=(Rp.cells 7)) underlying47 elem74 zE rfl rfl zB zB zI zI) ?_;rintro _ _ ⟨a29,c29,rfl,rfl⟩;refine zz 7 ?_
  refine S.foldS (A:=(RecG tys).own (recV xs[i] (.slice a3 xs[i].2.2.2.1.length c3) (.slice a5 xs[i].2.2.2.2.2.1.length c5) (.slice a6 xs[i].2.2.2.2.2.2.1.length c6)) xs[i]) (bs:=recWs xs[i] (.slice a3 xs[i].2.2.2.1.length c3) (.slice a5 xs[i].2.2.2.2.2.1.length c5) (.slice a6 xs[i].2.2.2.2.2.2.1.length c6)) zK (fun m h=>recG_sat hok h) ?_;refine S.listPut (G:=RecG tys) (k' :=7) rfl zB zB zB ?_;rw [show xs.take i++[xs[i]]=xs.take (i+1) from (List.take_succ_eq_append_getElem hi).symm];simp only [List.length_singleton];rw [show css.length+1=(xs.take (i+1)).length from by rw [hcl];simp;omega];exact S.melt hm1 (S.pw (ih (i+1) ((a29,c29)) zD zD))
 ·clear ih
  have hi:i=xs.length:=by omega
  subst hi;rw [List.take_length];refine zz 6 ?_;exact S.rt results106 rfl hR ⟨s.1,s.2,rfl,rfl⟩
theorem jGet_none {ss:List (List RecT)} {i:Nat} (h:oneK (ss.take i).flatten=false):jGet ss.flatten=none:=by
 have:oneK ss.flatten≠true:=fun q=>by
  rw [show oneK (ss.take i).flatten=true from oneK_of q fun x hx=>by
   obtain ⟨l,h1,h2⟩:=List.mem_flatten.1 hx;exact List.mem_flatten.2 ⟨l,List.mem_of_mem_take h1,h2⟩] at h
  cases h
 rw [jGet,if_neg this]
def JoinK (l:List RecT) (v:Value) (η:List SProp):Prop:=∃ o a c,jGet l=some o∧v=.slice a o.length c∧η=[ListP (RecG tys) 74 (.slice a o.length c) o]
theorem flat_take {ss:List (List RecT)} {i:Nat} (hi:i<ss.length):(ss.take (i+1)).flatten=(ss.take i).flatten++ss[i]:=by
 rw [List.take_succ_eq_append_getElem hi,List.flatten_append];simp
theorem flats_le {ss:List (List RecT)} (i:Nat):(ss.take i).flatten.length≤ss.flatten.length:=by
 have h:=congrArg (fun l=>(List.flatten l).length) (List.take_append_drop i ss);simp only [List.flatten_append,List.length_append] at h
 omega
theorem joinL_le (l:List RecT):(joinL l).length≤l.length:=by
 unfold joinL joinS compR;exact Nat.le_trans (List.length_filter_le ..) (Nat.le_trans (compF_sub ..) (Nat.le_of_eq (sortF_length ..)))
theorem sjoin1_c {r:Fr} {p:Nat} {va:Value} {ss:List (List RecT)} (hp:At r ⟨p,0,none⟩ [va]) (ha:Arr (Rp.slice RecRp) r va ss) (hl:ss.flatten.length≤100000000000) :
  Con prog 103 (#[]++#[]++#[.pointer (some ⟨p,0,none⟩)]) r [] (RetP (fun v η=>JoinK ss.flatten v η) (fun ch η=>∃ z,ch=errP 32 z∧(jGet ss.flatten=none∧z=4)∧η=[])):=by
 have har:=ha;refine Con.of (n:=25) [.pointer (some ⟨p,0,none⟩)] rfl func103 rfl rfl rfl fun g hg R hR=>?_;have hp:=hp.mono hg;have ha:=ha.mono hg;have hbd:=ha.bound;obtain ⟨a1,c1,rfl⟩:=ha.shape;refine zz 6 ?_;refine O.op (.p rfl) (.build (cs:=[_]) underlying150 rfl rfl rfl rfl rfl)<|O.opE (.p rfl) (.box (cs:=[_]) rfl rfl) ?_;rintro _ _ ⟨b6,rfl,rfl⟩;refine zz 4 ?_;refine S.conv (B:=obj b6 150 [.slice none 0 0]) (C:=RowP r 150 158 5 b6 (ss.take 0).flatten) zB (fun m x=>⟨m,Fr.sub_refl _,RowP.nil x⟩) ?_;refine zz 6 ?_;refine S.loopK (ι:=Nat) (fun i=>i≤ss.length∧oneK (ss.take i).flatten=true) (fun i=>[(9,.int .i64 (i:Int))]) [(2,_),(7,_),(8,_)] (fun i=>[RowP r 150 158 5 b6 (ss.take i).flatten]) (fun i=>ss.length - i) (0) zO zq zq rfl fun i hx ih=>?_;have hm1:=meltRefl (g:=g);obtain ⟨hx1,hx2⟩:=hx;refine zz 5 ?_;refine S.cd rfl (fun h10=>?_) fun h10=>?_
 ·have hi:i<ss.length:=by omega
  have hst:=flat_take hi;have hf1:=flats_le (ss:=ss) (i+1);have hf2:(ss.take i).flatten.length+ss[i].length≤100000000000:=by rw [hst,List.length_append] at hf1;omega
  refine zz 5 ?_;refine O.iy har hg (h:=fun p11 cs11 hp11 hrr11=>?_);have hr11:=Rp.rel.mono hrr11 hg;obtain ⟨v11,rfl,ha11⟩:=hrr11;refine zz 8 ?_;refine O.callPS (.p rfl) rfl zC rfl rfl zB ((sadd_c ha11 hx2 hf2).sub hg) (fun ch η' w hX hW=>by (obtain ⟨hb,rfl,rfl⟩:=hX;exact hR _ _ w ⟨4,rfl,⟨jGet_none (i:=i+1) (by rw [hst];exact hb),rfl⟩,rfl⟩ hW.drop_all)) ?_;rintro _ _ ⟨hone,rfl,rfl⟩;refine zz 2 ?_;rw [← hst] at hone ⊢;refine zz 4 ?_;exact S.wk (ih (i+1) (by exact ⟨by omega,hone⟩) zD)
 ·clear ih
  have hi:i=ss.length:=by omega
  subst hi;rw [List.take_length] at hx2 ⊢;generalize hxs:ss.flatten=xs at hx2 hl ⊢;have hok:=oneK_all hx2;have hyes:jGet xs=some (joinL xs):=by rw [jGet,if_pos hx2]
  refine S.open (A:=RowP r 150 158 5 b6 xs) zB (fun m x=>x) fun q=>?_;simp only [List.cons_append,List.nil_append];refine S.frz (A:=EachP (ItO r 5) q.2 xs) zB fun g hs hm ⟨_,x',s'⟩=>?_;have hea:=(fun s x=>EachP.all2 (A:=ItO r 5) (fun cs a m' z w=>ItO.rel (Fr.sub_trans hg hs) w z) x s) s' x';clear x' s';replace hg:=Fr.sub_trans hg hs;replace hR:=melted hR hm
  try replace hp:=hp.mono hs
  try replace ha:=ha.mono hs
  replace hm1:=meltTrans hm1 hm;clear hs hm;obtain ⟨ps,hp1,hp2,hps⟩:=zip_it hea;have hpl:xs.length=ps.length:=by rw [← hp2,List.length_map]
  rw [← hp1,hpl];have hpo:∀ p∈ps,recOk p.2=true:=fun p hp=>hok _ (by rw [← hp2];exact List.mem_map.2 ⟨p,hp,rfl⟩);refine zz 4 ?_;refine O.callSs (.p rfl) rfl zC rfl rfl zK (ujoin_c hps hpo zD) ?_;rintro v20 _ ⟨qs,a20,c20,rfl,hq20,hr20,rfl⟩;refine zz 2 ?_;have hjm:qs.map (·.2)=joinL xs:=by rw [hq20,hp2]
  have hjo:∀ x∈joinL xs,recOk x=true:=fun x hx=>hok x (joinL_sub hok x hx);have hjl:qs.length=(joinL xs).length:=by rw [← hjm,List.length_map]
  have hjb:(joinL xs).length≤100000000000:=Nat.le_trans (joinL_le xs) hl;refine S.frz (A:=OwnP (Rp.cells 8) 158 (.slice a20 qs.length c20) (qs.map (·.1))) zB fun g hs hm ⟨_,x',s'⟩=>?_;have hqi:=(fun s x=>Arr.ofCells (T:=ItRp) ((OwnP.arr x).mono s) (it_all2 fun p hp=>Rp.mono ItRp hs (hr20 p hp)) rfl) s' x';clear x' s';replace hg:=Fr.sub_trans hg hs;replace hR:=melted hR hm
  try replace hp:=hp.mono hs
  try replace ha:=ha.mono hs
  try replace hea:=hea.mono hs
  replace hm1:=meltTrans hm1 hm;clear hs hm;refine S.frzO zB fun g hs hm hbo=>?_;replace hg:=Fr.sub_trans hg hs;replace hR:=melted hR hm
  try replace hp:=hp.mono hs
  try replace ha:=ha.mono hs
  try replace hea:=hea.mono hs
  try replace hqi:=hqi.mono hs
  try replace hqi:=hqi.mono hs
  replace hm1:=meltTrans hm1 hm;clear hs hm;have hrow:RowA g.h b6 (joinL xs):=⟨a20,c20,by rw [← hjl];exact hbo,by rw [← hjl,← hjm];exact hqi⟩;refine zz 4 ?_;refine O.call0 (.p rfl) rfl zC rfl rfl ((sown_c hrow hjo hjb)) ?_;rintro _ _ ⟨a24,c24,rfl,rfl⟩;refine zz 2 ?_;exact S.rt results103 rfl hR ⟨joinL xs,a24,c24,by rw [hxs];exact hyes,rfl,rfl⟩
def join_t (l:List RecT) (v:Value) (η:List SProp):Prop:=(∃ u,JoinK l u η∧v=.tuple #[u,.int .i64 0])∨(jGet l=none∧v=.tuple #[.slice none 0 0,.int .i64 4]∧η=[])
theorem sTriedJ_c {r:Fr} {first cap:Array Value} {l:List RecT} (con:Con prog 103 (first++#[]++cap) r [] (RetP (fun v η=>JoinK l v η) (fun ch η=>∃ z,ch=errP 32 z∧(jGet l=none∧z=4)∧η=[]))) (h1:(Value.func (.func 103) first cap).oneCell' =true:=by rfl) :
  Con prog 102 #[.func (.func 103) first cap] r [] (Ret fun v η=>join_t l v η) :=
 (triedSS_c zC h1 (fun _ _ h=>by obtain ⟨l,a,c,_,rfl,_⟩:=h;rfl) con).mono (Ret.imp fun v η h=>by
  rcases h with ⟨u,h2,h3⟩|⟨z,⟨h2,rfl⟩,h3,h4⟩
  ·exact .inl ⟨u,h2,h3⟩
  ·exact .inr ⟨h2,h4,h3⟩)
theorem join_tY {l o:List RecT} {v:Value} {η:List SProp} (e:jGet l=some o) (h:join_t l v η):∃ a c,v=.tuple #[.slice a o.length c,.int .i64 0]∧η=[ListP (RecG tys) 74 (.slice a o.length c) o]:=by
 rcases h with ⟨_,⟨y,a,c,h1,rfl,rfl⟩,rfl⟩|⟨h1,_⟩
 ·rw [e] at h1;obtain rfl:=Option.some.inj h1;exact ⟨a,c,rfl,rfl⟩
 ·rw [e] at h1;cases h1
theorem join_tN {l:List RecT} {v:Value} {η:List SProp} (e:jGet l=none) (h:join_t l v η):v=.tuple #[.slice none 0 0,.int .i64 4]∧η=[]:=by
 rcases h with ⟨_,⟨y,a,c,h1,_⟩,_⟩|⟨_,h1,h2⟩
 ·rw [e] at h1;cases h1
 ·exact ⟨h1,h2⟩
def joinO (l:List RecT):List RecT:=(jGet l).getD []
def joinE (l:List RecT):Int:=if (jGet l).isSome then 0 else 4
theorem sJoin_c {r:Fr} {va:Value} {ss:List (List RecT)} (ha:Arr (Rp.slice RecRp) r va ss) (hl:ss.flatten.length≤100000000000):Con prog 38 #[va] r [] (Ret fun v η=>∃ a c,v=.tuple #[.slice a (joinO ss.flatten).length c,.int .i64 (joinE ss.flatten)]∧η=[ListP (RecG tys) 74 (.slice a (joinO ss.flatten).length c) (joinO ss.flatten)]):=by
 refine Con.o func38 fun g hg R hR=>?_;have ha:=ha.mono hg;obtain ⟨a1,c1,rfl⟩:=ha.shape
 cases e:jGet ss.flatten with
 |some x =>
  have e1:joinO ss.flatten=x:=by simp [joinO,e]
  have e2:joinE ss.flatten=0:=by simp [joinE,e]
  rw [e1,e2] at hR;refine S.seq<|S.region rfl<|O.opE (.p rfl) (.box (cs:=[_]) rfl rfl) ?_;rintro _ _ ⟨b1,rfl,rfl⟩;refine O.frzO zB fun g hs hm hb1=>?_;replace hg:=Fr.sub_trans hg hs;replace hR:=melted hR hm
  try replace ha:=ha.mono hs
  clear hs hm;refine zz 6 ?_;refine O.call0 (.p rfl) rfl zC rfl rfl (((sTriedJ_c (sjoin1_c hb1 ha hl)).mono (Ret.imp fun _ _ h=>join_tY e h))) ?_;rintro _ _ ⟨a5,c5,rfl,rfl⟩;refine O.q 4 rfl<|O.nil<|S.ret2 results38 rfl rfl fun w hw=>Holds.end_ hR hw ?_;exact pk ⟨a5,c5,rfl,rfl⟩
 |none =>
  have e1:joinO ss.flatten=[]:=by simp [joinO,e]
  have e2:joinE ss.flatten=4:=by simp [joinE,e]
  rw [e1,e2] at hR;refine S.seq<|S.region rfl<|O.opE (.p rfl) (.box (cs:=[_]) rfl rfl) ?_;rintro _ _ ⟨b1,rfl,rfl⟩;refine O.frzO zB fun g hs hm hb1=>?_;replace hg:=Fr.sub_trans hg hs;replace hR:=melted hR hm
  try replace ha:=ha.mono hs
  clear hs hm;refine zz 6 ?_;refine O.v0 (.p rfl) rfl zC rfl rfl (((sTriedJ_c (sjoin1_c hb1 ha hl)).mono (Ret.imp fun _ _ h=>join_tN e h))) ?_;refine O.q 4 rfl<|O.nil<|S.listNil (RecG tys) 74 ?_;refine S.ret2 results38 rfl rfl fun w hw=>Holds.end_ hR hw ?_;exact pk ⟨none,0,rfl,rfl⟩
def ctxK:List Int→List DotT
 |a::b::l=>(a,b,())::ctxK l
 |_=>[]
theorem ctxK_len:∀ (n:Nat) (l:List Int),l.length≤n→(ctxK l).length=l.length / 2
 |_,[],_=>by simp [ctxK]
 |_,[_],_=>by simp [ctxK]
 |0,_::_::_,h=>absurd h zG
 |n+1,_::_::l,h=>by
  have:=ctxK_len n l (by simp at h;omega)
  simp [ctxK,this];omega
theorem ctxK_at:∀ (k:Nat) (l:List Int) (h:2*k+1<l.length) (h' :k<(ctxK l).length),(ctxK l)[k]=(l[2*k],l[2*k+1],())
 |_,[],h,_=>absurd h zG
 |_,[_],h,_=>absurd h zG
 |0,_::_::_,_,_=>by simp [ctxK]
 |k+1,_::_::l,h,h' =>by
  have:=ctxK_at k l (by simp at h;omega) (by simp [ctxK] at h';omega);simp only [ctxK,List.getElem_cons_succ,show 2*(k+1)=2*k+1+1 by omega];exact this
def recF (c s:Int) (l:List Int):RecT:=([107],c,s,ctxK l,false,[],List.replicate 64 0,())
theorem recF_rel {c s:Int} {l:List Int} {v3 v6:Value} {m:Fr} (hc:InI64 c) (hs:InI64 s) (st:Sat [OwnP DotRp 166 v3 (ctxK l),OwnP Rp.u8 5 v6 (List.replicate 64 0)] m):RecRp.rel m [.string (str [107]),.int .i64 c,.int .i64 s,v3,.bool false,.slice none 0 0,v6] (recF c s l):=by
 obtain ⟨m1,k1,_,s1,t1,o1,m2,_,_,s2,_,o2,_⟩:=st;exact RecRp.mk zE hc hs (o1.arr.mono s1) Arr.nil (o2.arr.mono (Fr.sub_trans s2 t1))
theorem ofF_c {r:Fr} {c s:Int} {va:Value} {l:List Int} (hc:InI64 c) (hs:InI64 s) (ha:Arr Rp.i64 r va l) (hl:l.length≤1000) :
  Con prog 52 #[.int .i64 c,.int .i64 s,va] r [] (Ret fun v η=>∃ a q a' q',v=.agg #[.string (str [107]),.int .i64 c,.int .i64 s,.slice a (ctxK l).length q,.bool false,.slice none 0 0,.slice a' 64 q']∧η=[fun m=>RecRp.rel m [.string (str [107]),.int .i64 c,.int .i64 s,.slice a (ctxK l).length q,.bool false,.slice none 0 0,.slice a' 64 q'] (recF c s l)]):=by
 refine Con.o func52 fun g hg R hR=>?_;have ha:=ha.mono hg;obtain ⟨a1,c1,rfl⟩:=ha.shape;have hkl:=ctxK_len l.length l (Nat.le_refl _);refine S.seq<|S.region rfl<|O.opE (.p rfl) (.alloc (cs:=[.string ⟨#[]⟩,.int .i64 0,.int .i64 0,.slice none 0 0,.bool false,.slice none 0 0,.slice none 0 0]) zeroValue74 rfl) ?_;rintro _ _ ⟨b6,rfl,rfl⟩;refine zz 5 ?_;refine O.opE (.p rfl) (.makeP (T:=Rp.u8) (0:UInt8) (m:=64) underlying31 elem5 zE rfl rfl rfl rfl rfl zE zE) ?_;rintro _ _ ⟨a11,c11,rfl,rfl⟩;refine O.op (.p rfl) (.build (cs:=[_,_,_,_,_,_,_]) underlying74 rfl rfl rfl rfl rfl)<|O.opE (.p rfl) (.alloc (cs:=[.string ⟨#[]⟩,.int .i64 0,.int .i64 0,.slice none 0 0,.bool false,.slice none 0 0,.slice none 0 0]) zeroValue74 rfl) ?_;rintro _ _ ⟨b7,rfl,rfl⟩;refine zz 1 ?_;refine O.nil<|S.seq<|S.seq<|S.addNil (T:=DotRp) (e:=166) ?_;refine zz 4 ?_;refine S.loopK2 (ι:=Nat) (κ:=Option Addr × Nat) (fun k a=>k≤l.length / 2) (fun k a=>[(8,.int .i64 ((2*k:Nat):Int))]) [(2,_),(6,_),(7,_)] (fun k a=>[OwnP DotRp 166 (.slice a.1 k a.2) ((ctxK l).take k),obj b7 74 [.string (str [107]),.int .i64 c,.int .i64 s,.slice a.1 k a.2,.bool false,.slice none 0 0,.slice a11 64 c11],OwnP Rp.u8 5 (.slice a11 64 c11) (List.replicate 64 0),obj b6 74 rec0]) (fun k a=>l.length / 2 - k) (0) ((none,0)) zG zq zq rfl fun k a hx ih=>?_;have hm1:=meltRefl (g:=g);refine zz 9 ?_
 refine S.cd rfl (fun h17=>?_) fun h17=>?_
 ·have hk:2*k+1<l.length:=by omega
  have hget:=ctxK_at k l hk zD;have hg_o:=hg;have hR_o:=hR
  try have ha_o:=ha
  refine S.frzH (B:=obj b7 74 [.string (str [107]),.int .i64 c,.int .i64 s,.slice a.1 k a.2,.bool false,.slice none 0 0,.slice a11 64 c11]) zB fun go hso ⟨mo,hmo,hsmo⟩ hbo=>?_;replace hg:=Fr.sub_trans hg hso;replace hR:=backR hR hbo
  try replace ha:=ha.mono hso
  have hat:=(obj_at hmo).mono hsmo;refine zz 3 ?_;refine S.regionD (L:=.range 16) F.mixed zC ?_;refine zz 2 ?_;refine OD.q 2 rfl<|OD.ia (.p rfl) underlying25 size3 rfl rfl (show _=(((2*k):Nat):Int) by omega) zA (h:=fun p24 cs24 hp24 hr24=>?_);obtain ⟨rfl,hz24⟩:=hr24;refine zz 4 ?_;refine OD.ia (.p rfl) underlying25 size3 rfl rfl (show _=(((2*k+1):Nat):Int) by omega) zA (h:=fun p29 cs29 hp29 hr29=>?_);obtain ⟨rfl,hz29⟩:=hr29;refine zz 1 ?_;refine .quiet (.p rfl) rfl (fun _=>.build (cs:=[_,_]) underlying166 rfl rfl rfl rfl rfl)<|OD.litP (T:=DotRp) (ys:=[_]) (.p rfl) zC underlying72 elem166 zE rfl rfl ⟨(DotRp.mk zF zF),trivial⟩ zE (fun a32 c32=>?_);refine OD.appendO (.p rfl) zC (T:=DotRp) underlying72 elem166 zE rfl rfl zB zB zI zI (fun a33 c33=>?_);refine zz 1 ?_;refine OD.last1 rfl zC (fun _ hw=>hbo hw) flat72 rfl rfl zU zB (by first|(simp;done)|(simp;omega)) ?_;replace hg:=hg_o;replace hR:=hR_o
  try replace ha:=ha_o
  clear hg_o hR_o;refine zz 1 ?_;rw [show (ctxK l).take k++[(l[2*k],l[2*k+1],())]=(ctxK l).take (k+1) from by rw [List.take_succ_eq_append_getElem zD,hget]];have htk:((ctxK l).take k).length=k:=by simp;omega
  simp only [htk,List.length_singleton];refine zz 3 ?_;refine O.slot 19 (v' :=.int .i64 ((2*(k+1):Nat):Int)) rfl (by exact congrArg (Value.int .i64) zD) ?_;refine zz 2 ?_;exact S.pw (ih (k+1) ((a33,c33)) zD zD)
 ·clear ih
  have hk:k=l.length / 2:=by omega
  rw [← hkl] at hk;subst hk;rw [List.take_length];refine S.foldS (A:=fun m=>RecRp.rel m [.string (str [107]),.int .i64 c,.int .i64 s,.slice a.1 (ctxK l).length a.2,.bool false,.slice none 0 0,.slice a11 64 c11] (recF c s l)) (bs:=[OwnP DotRp 166 (.slice a.1 (ctxK l).length a.2) (ctxK l),OwnP Rp.u8 5 (.slice a11 64 c11) (List.replicate 64 0)]) zK (fun m x=>recF_rel hc hs x) ?_;refine zz 5 ?_;refine O.nil<|S.retCellAgg results52 isAgg74 zC rfl zB fun w hw=>Holds.end_ hR hw ?_;exact pk ⟨a.1,a.2,a11,c11,rfl,rfl⟩
theorem great_c {r:Fr} {va:Value} {ss:List (List RecT)} (ha:Arr (Rp.slice RecRp) r va ss) (ho:∀ l∈ss,l.length≤big∧∀ x∈l,RecOk big x) (hl:ss.length≤1000) :
  Con prog 35 #[va] r [] (Ret fun v η=>∃ g:Bool,v=.bool g∧(g=false→∀ l∈ss,RecsC 2500 l)∧η=[]):=by
 have har:=ha;refine Con.o func35 fun g hg R hR=>?_;have ha:=ha.mono hg;have hbd:=ha.bound;obtain ⟨a1,c1,rfl⟩:=ha.shape;refine zz 16 ?_;refine S.loopK2 (ι:=Nat) (κ:=Nat) (fun i n=>i≤ss.length∧(n:Int)≤1000000000000000+2500∧(n≤2500→∀ l∈ss.take i,RecsC n l)) (fun i n=>[(3,.int .i64 (n:Int)),(4,.int .i64 (i:Int))]) [(0,_)] (fun i n=>[]) (fun i n=>ss.length - i) (0) (ss.length) (by exact ⟨by simp,by omega,fun _=>by simp⟩) zq zq rfl fun i n hx ih=>?_;have hm1:=meltRefl (g:=g);obtain ⟨hx1,hx2,hx3⟩:=hx
 by_cases q2:n≤2500
 ·by_cases q1:i<ss.length
  ·
   refine zz 7 ?_;refine O.sT 10 rfl (by exact decide_eq_true zD) ?_;refine zz 3 ?_;refine O.sT 13 rfl (by exact decide_eq_true zD) ?_;refine zz 10 ?_;refine O.iy har hg (h:=fun p20 cs20 hp20 hrr20=>?_);have hr20:=Rp.rel.mono hrr20 hg;obtain ⟨v20,rfl,ha20⟩:=hrr20;obtain ⟨ho1,ho2⟩:=ho _ (List.getElem_mem q1);refine zz 1 ?_;refine O.q 1 rfl<|O.op (.p rfl) (.min2 rfl rfl)<|O.slot 23 (v' :=.int .i64 (n:Int)) rfl (by exact congrArg _ zD) ?_;refine O.op (.p rfl) (.sub rfl rfl (IntWalk.i64_in _ zD))<|O.call0 (.p rfl) rfl zC rfl rfl (((recordsOf_c ha20 ho2 ho1 ⟨by omega,by omega⟩).sub hg)) ?_;rintro v25 _ ⟨m,rfl,hm2,hm3,rfl⟩;refine zz 1 ?_;refine O.slot 26 (v' :=.int .i64 ((n+m:Nat):Int)) rfl (by exact congrArg _ zD) ?_;refine zz 8 ?_;exact S.wk (ih (i+1) (n+m) (by exact ⟨by omega,by omega,fun q=>mem_take_succ q1 (fun x hx=>(hx3 q2 x hx).mono zD) ((hm3 zD).mono zD)⟩) zD)
  ·clear ih
   have hi:i=ss.length:=by omega
   rw [hi,List.take_length] at hx3;refine zz 7 ?_;refine O.sF 10 rfl (by exact decide_eq_false zD) ?_;refine zz 13 ?_;exact S.rt results35 rfl hR ⟨_,rfl,fun _ l hl=>(hx3 q2 l hl).mono q2,rfl⟩
 ·clear ih
  by_cases q1:i<ss.length
  ·
   refine zz 7 ?_;refine O.sT 10 rfl (by exact decide_eq_true zD) ?_;refine zz 3 ?_;refine O.sF 13 rfl (by exact decide_eq_false zD) ?_;refine zz 8 ?_;refine O.sT 28 rfl (by exact decide_eq_true zD) ?_;refine zz 2 ?_;exact S.rt results35 rfl hR ⟨true,rfl,fun h=>absurd h zE,rfl⟩
  ·
   refine zz 7 ?_;refine O.sF 10 rfl (by exact decide_eq_false zD) ?_;refine zz 11 ?_;refine O.sT 28 rfl (by exact decide_eq_true zD) ?_;refine zz 2 ?_;exact S.rt results35 rfl hR ⟨true,rfl,fun h=>absurd h zE,rfl⟩
theorem joinL_is {l o:List RecT} (ho:∀ x∈l,recOk x=true) (hd:∀ x∈l,∀ y∈l,cmpR x y=0→x=y) (hr:RisesR o) (h1:∀ x∈o,x∈l∧∀ y∈l,cmpR x y≠0→over y x=false) (h2:∀ x∈l,(∀ y∈l,cmpR x y≠0→over y x=false)→x∈o):joinL l=o:=by
 have hm:∀ x,isMin l x↔x∈l:=fun x=>⟨fun h=>h.1,fun h=>⟨h,fun y hy e=>by rw [hd x h y hy e];exact List.lt_irrefl _⟩⟩;refine (joinL_of ho hr fun x=>?_).symm
 constructor
 ·intro h
  exact ⟨(hm x).2 (h1 x h).1,fun y hy=>(h1 x h).2 y ((hm y).1 hy)⟩
 ·intro h
  exact h2 x ((hm x).1 h.1) fun y hy=>h.2 y ((hm y).2 hy)
theorem joinO_is {l o:List RecT} (h:oneK l=true) (e:joinL l=o):joinO l=o∧joinE l=0:=by
 have:jGet l=some o:=by rw [jGet,if_pos h,e]
 exact ⟨by simp [joinO,this],by simp [joinE,this]⟩
theorem ja:joinO [recF 2 1 [],recF 1 1 [],recF 1 1 []]=[recF 1 1 [],recF 2 1 []]∧joinE [recF 2 1 [],recF 1 1 [],recF 1 1 []]=0:=joinO_is (by decide) (joinL_is (by decide) (by decide) (by decide) (by decide) (by decide))
theorem jb:joinO [recF 1 1 [],recF 2 2 [1,1,2,1],recF 2 1 []]=[recF 2 2 [1,1,2,1]]∧joinE [recF 1 1 [],recF 2 2 [1,1,2,1],recF 2 1 []]=0:=joinO_is (by decide) (joinL_is (by decide) (by decide) (by decide) (by decide) (by decide))
theorem jc:joinO [recF 1 5 [2,6],recF 2 6 [1,5]]=[]∧joinE [recF 1 5 [2,6],recF 2 6 [1,5]]=0:=joinO_is (by decide) (joinL_is (by decide) (by decide) (by decide) (by decide) (by decide))
theorem sawake_c {r:Fr}:Con prog 36 #[] r [] (Ret fun v η=>v=.bool true∧η=[]):=by
 refine Con.of (n:=87) _ rfl func36 rfl rfl rfl fun g hg R hR=>?_;refine S.seq<|S.region rfl<|O.q 1 rfl<|O.nil<|S.seq<|S.region rfl<|O.call0 (.p rfl) rfl zC rfl rfl ((ofF_c (c:=1) (s:=1) (l:=[]) zN zN Arr.nil zE)) ?_;rintro _ _ ⟨a12,c12,d12,e12,rfl,rfl⟩
 try simp only [zx1,zx2,zx3]
 refine O.call0 (.p rfl) rfl zC rfl rfl ((ofF_c (c:=2) (s:=1) (l:=[]) zN zN Arr.nil zE)) ?_;rintro _ _ ⟨a13,c13,d13,e13,rfl,rfl⟩
 try simp only [zx1,zx2,zx3]
 refine O.opE (.p rfl) (.litP (T:=Rp.i64) (ys:=[1,1,2,1]) underlying25 elem3 zE rfl rfl ⟨⟨rfl,by first|assumption|(constructor<;>omega)⟩,⟨rfl,by first|assumption|(constructor<;>omega)⟩,⟨rfl,by first|assumption|(constructor<;>omega)⟩,⟨rfl,by first|assumption|(constructor<;>omega)⟩,trivial⟩ zE) ?_;rintro _ _ ⟨a14,c14,rfl,rfl⟩;refine O.frzA zB fun g hs hm ha14=>?_;replace hg:=Fr.sub_trans hg hs;replace hR:=melted hR hm;clear hs hm;refine O.call0 (.p rfl) rfl zC rfl rfl ((ofF_c (c:=2) (s:=2) (l:=[1,1,2,1]) zN zN ha14 zE)) ?_;rintro _ _ ⟨a15,c15,d15,e15,rfl,rfl⟩
 try simp only [zx1,zx2,zx3]
 refine O.opE (.p rfl) (.alloc (cs:=[.string ⟨#[]⟩,.int .i64 0,.int .i64 0,.slice none 0 0,.bool false,.slice none 0 0,.slice none 0 0]) zeroValue74 rfl) ?_;rintro _ _ ⟨b1,rfl,rfl⟩;refine O.opE (.p rfl) (.alloc (cs:=[.string ⟨#[]⟩,.int .i64 0,.int .i64 0,.slice none 0 0,.bool false,.slice none 0 0,.slice none 0 0]) zeroValue74 rfl) ?_;rintro _ _ ⟨b2,rfl,rfl⟩;refine O.opE (.p rfl) (.alloc (cs:=[.string ⟨#[]⟩,.int .i64 0,.int .i64 0,.slice none 0 0,.bool false,.slice none 0 0,.slice none 0 0]) zeroValue74 rfl) ?_;rintro _ _ ⟨b3,rfl,rfl⟩;refine O.opU rfl (.storeObj zC rfl rfl rfl rfl zB zT) ?_;refine O.opU rfl (.storeObj zC rfl rfl rfl rfl zB zT) ?_;refine O.opU rfl (.storeObj zC rfl rfl rfl rfl zB zT) ?_;refine O.nil<|S.seq<|S.frz (A:=(fun m=>RecRp.rel m [.string (str [107]),.int .i64 1,.int .i64 1,.slice a12 0 c12,.bool false,.slice none 0 0,.slice d12 64 e12] (recF 1 1 []))) zB fun g hs hm ⟨_,x',s'⟩=>?_;have hA:=(fun s x=>Rp.mono RecRp s x) s' x';clear x' s';replace hg:=Fr.sub_trans hg hs;replace hR:=melted hR hm
 try replace ha14:=ha14.mono hs
 clear hs hm;refine S.frz (A:=(fun m=>RecRp.rel m [.string (str [107]),.int .i64 2,.int .i64 1,.slice a13 0 c13,.bool false,.slice none 0 0,.slice d13 64 e13] (recF 2 1 []))) zB fun g hs hm ⟨_,x',s'⟩=>?_;have hB:=(fun s x=>Rp.mono RecRp s x) s' x';clear x' s';replace hg:=Fr.sub_trans hg hs;replace hR:=melted hR hm
 try replace ha14:=ha14.mono hs
 try replace hA:=hA.mono hs
 try replace hA:=hA.mono hs
 clear hs hm;refine S.frz (A:=(fun m=>RecRp.rel m [.string (str [107]),.int .i64 2,.int .i64 2,.slice a15 2 c15,.bool false,.slice none 0 0,.slice d15 64 e15] (recF 2 2 [1,1,2,1]))) zB fun g hs hm ⟨_,x',s'⟩=>?_;have hC:=(fun s x=>Rp.mono RecRp s x) s' x';clear x' s';replace hg:=Fr.sub_trans hg hs;replace hR:=melted hR hm
 try replace ha14:=ha14.mono hs
 try replace hA:=hA.mono hs
 try replace hA:=hA.mono hs
 try replace hB:=hB.mono hs
 try replace hB:=hB.mono hs
 clear hs hm;refine S.objIs (b:=b1) (cs' :=[.string (str [107]),.int .i64 1,.int .i64 1,.slice a12 0 c12,.bool false,.slice none 0 0,.slice d12 64 e12]) zB rfl ?_;refine S.objIs (b:=b2) (cs' :=[.string (str [107]),.int .i64 2,.int .i64 1,.slice a13 0 c13,.bool false,.slice none 0 0,.slice d13 64 e13]) zB rfl ?_;refine S.objIs (b:=b3) (cs' :=[.string (str [107]),.int .i64 2,.int .i64 2,.slice a15 2 c15,.bool false,.slice none 0 0,.slice d15 64 e15]) zB rfl ?_;refine S.frzO zB fun g hs hm hb3=>?_;replace hg:=Fr.sub_trans hg hs;replace hR:=melted hR hm
 try replace ha14:=ha14.mono hs
 try replace hA:=hA.mono hs
 try replace hA:=hA.mono hs
 try replace hB:=hB.mono hs
 try replace hB:=hB.mono hs
 try replace hC:=hC.mono hs
 try replace hC:=hC.mono hs
 clear hs hm;refine S.frzO zB fun g hs hm hb2=>?_;replace hg:=Fr.sub_trans hg hs;replace hR:=melted hR hm
 try replace ha14:=ha14.mono hs
 try replace hA:=hA.mono hs
 try replace hA:=hA.mono hs
 try replace hB:=hB.mono hs
 try replace hB:=hB.mono hs
 try replace hC:=hC.mono hs
 try replace hC:=hC.mono hs
 try replace hb3:=hb3.mono hs
 try replace hb3:=hb3.mono hs
 clear hs hm;refine S.frzO zB fun g hs hm hb1=>?_;replace hg:=Fr.sub_trans hg hs;replace hR:=melted hR hm
 try replace ha14:=ha14.mono hs
 try replace hA:=hA.mono hs
 try replace hA:=hA.mono hs
 try replace hB:=hB.mono hs
 try replace hB:=hB.mono hs
 try replace hC:=hC.mono hs
 try replace hC:=hC.mono hs
 try replace hb3:=hb3.mono hs
 try replace hb3:=hb3.mono hs
 try replace hb2:=hb2.mono hs
 try replace hb2:=hb2.mono hs
 clear hs hm;refine S.region rfl<|O.op (.p rfl) (.loadAgg isAgg74 zC rfl hb2) ?_;refine O.opE (.p rfl) (.litP (T:=Rp.cells 7) (ys:=[[.string (str [107]),.int .i64 2,.int .i64 1,.slice a13 0 c13,.bool false,.slice none 0 0,.slice d13 64 e13]]) underlying47 elem74 zE rfl rfl ⟨⟨rfl,rfl,by first|(simp;done)|(intro v hv;simp [Value.cells] at hv;rcases hv with rfl|rfl<;>rfl)|(refine List.forall_mem_cons.2 ⟨rfl,?_⟩;repeat (first|exact (fun _ h=>absurd h List.not_mem_nil)|refine List.forall_mem_cons.2 ⟨rfl,?_⟩))⟩,trivial⟩ zE) ?_;rintro _ _ ⟨a18,c18,rfl,rfl⟩;refine O.frzA zB fun g hs hm ha18=>?_;replace hg:=Fr.sub_trans hg hs;replace hR:=melted hR hm
 try replace ha14:=ha14.mono hs
 try replace hA:=hA.mono hs
 try replace hA:=hA.mono hs
 try replace hB:=hB.mono hs
 try replace hB:=hB.mono hs
 try replace hC:=hC.mono hs
 try replace hC:=hC.mono hs
 try replace hb3:=hb3.mono hs
 try replace hb3:=hb3.mono hs
 try replace hb2:=hb2.mono hs
 try replace hb2:=hb2.mono hs
 try replace hb1:=hb1.mono hs
 try replace hb1:=hb1.mono hs
 clear hs hm;refine O.op (.p rfl) (.loadAgg isAgg74 zC rfl hb1) ?_;refine O.op (.p rfl) (.loadAgg isAgg74 zC rfl hb1) ?_;refine O.opE (.p rfl) (.litP (T:=Rp.cells 7) (ys:=[[.string (str [107]),.int .i64 1,.int .i64 1,.slice a12 0 c12,.bool false,.slice none 0 0,.slice d12 64 e12],[.string (str [107]),.int .i64 1,.int .i64 1,.slice a12 0 c12,.bool false,.slice none 0 0,.slice d12 64 e12]]) underlying47 elem74 zE rfl rfl ⟨⟨rfl,rfl,by first|(simp;done)|(intro v hv;simp [Value.cells] at hv;rcases hv with rfl|rfl<;>rfl)|(refine List.forall_mem_cons.2 ⟨rfl,?_⟩;repeat (first|exact (fun _ h=>absurd h List.not_mem_nil)|refine List.forall_mem_cons.2 ⟨rfl,?_⟩))⟩,⟨rfl,rfl,by first|(simp;done)|(intro v hv;simp [Value.cells] at hv;rcases hv with rfl|rfl<;>rfl)|(refine List.forall_mem_cons.2 ⟨rfl,?_⟩;repeat (first|exact (fun _ h=>absurd h List.not_mem_nil)|refine List.forall_mem_cons.2 ⟨rfl,?_⟩))⟩,trivial⟩ zE) ?_;rintro _ _ ⟨a21,c21,rfl,rfl⟩;refine O.frzA zB fun g hs hm ha21=>?_;replace hg:=Fr.sub_trans hg hs;replace hR:=melted hR hm
 try replace ha14:=ha14.mono hs
 try replace hA:=hA.mono hs
 try replace hA:=hA.mono hs
 try replace hB:=hB.mono hs
 try replace hB:=hB.mono hs
 try replace hC:=hC.mono hs
 try replace hC:=hC.mono hs
 try replace hb3:=hb3.mono hs
 try replace hb3:=hb3.mono hs
 try replace hb2:=hb2.mono hs
 try replace hb2:=hb2.mono hs
 try replace hb1:=hb1.mono hs
 try replace hb1:=hb1.mono hs
 try replace ha18:=ha18.mono hs
 clear hs hm;refine O.opE (.p rfl) (.litP (T:=Rp.cells 1) (ys:=[[.slice a18 1 c18],[.slice a21 2 c21]]) underlying65 elem47 zE rfl rfl ⟨⟨rfl,rfl,by first|(simp;done)|(intro v hv;simp [Value.cells] at hv;rcases hv with rfl|rfl<;>rfl)|(refine List.forall_mem_cons.2 ⟨rfl,?_⟩;repeat (first|exact (fun _ h=>absurd h List.not_mem_nil)|refine List.forall_mem_cons.2 ⟨rfl,?_⟩))⟩,⟨rfl,rfl,by first|(simp;done)|(intro v hv;simp [Value.cells] at hv;rcases hv with rfl|rfl<;>rfl)|(refine List.forall_mem_cons.2 ⟨rfl,?_⟩;repeat (first|exact (fun _ h=>absurd h List.not_mem_nil)|refine List.forall_mem_cons.2 ⟨rfl,?_⟩))⟩,trivial⟩ zE) ?_;rintro _ _ ⟨a22,c22,rfl,rfl⟩;refine O.frzA zB fun g hs hm ha22=>?_;replace hg:=Fr.sub_trans hg hs;replace hR:=melted hR hm
 try replace ha14:=ha14.mono hs
 try replace hA:=hA.mono hs
 try replace hA:=hA.mono hs
 try replace hB:=hB.mono hs
 try replace hB:=hB.mono hs
 try replace hC:=hC.mono hs
 try replace hC:=hC.mono hs
 try replace hb3:=hb3.mono hs
 try replace hb3:=hb3.mono hs
 try replace hb2:=hb2.mono hs
 try replace hb2:=hb2.mono hs
 try replace hb1:=hb1.mono hs
 try replace hb1:=hb1.mono hs
 try replace ha18:=ha18.mono hs
 try replace ha21:=ha21.mono hs
 clear hs hm;refine O.call0 (.p rfl) rfl zC rfl rfl ((sJoin_c (ss:=[[recF 2 1 []],[recF 1 1 [],recF 1 1 []]]) (Arr.ofCells ha22 ⟨⟨_,rfl,Arr.ofCells ha18 ⟨hB,trivial⟩ rfl⟩,⟨_,rfl,Arr.ofCells ha21 ⟨hA,hA,trivial⟩ rfl⟩,trivial⟩ rfl) zE)) ?_;rintro _ _ ⟨a23,c23,rfl,rfl⟩
 try simp only [zx1,zx2,zx3]
 rw [show joinO [[recF 2 1 []],[recF 1 1 [],recF 1 1 []]].flatten=_ from ja.1,show joinE [[recF 2 1 []],[recF 1 1 [],recF 1 1 []]].flatten=_ from ja.2];refine O.q 5 rfl<|O.nil<|S.seq<|S.frzG (T:=RecRp) rfl zB fun g hs hm hX=>?_;replace hg:=Fr.sub_trans hg hs;replace hR:=melted hR hm
 try replace ha14:=ha14.mono hs
 try replace hA:=hA.mono hs
 try replace hA:=hA.mono hs
 try replace hB:=hB.mono hs
 try replace hB:=hB.mono hs
 try replace hC:=hC.mono hs
 try replace hC:=hC.mono hs
 try replace hb3:=hb3.mono hs
 try replace hb3:=hb3.mono hs
 try replace hb2:=hb2.mono hs
 try replace hb2:=hb2.mono hs
 try replace hb1:=hb1.mono hs
 try replace hb1:=hb1.mono hs
 try replace ha18:=ha18.mono hs
 try replace ha21:=ha21.mono hs
 try replace ha22:=ha22.mono hs
 clear hs hm;refine S.region rfl<|O.op (.p rfl) (.loadAgg isAgg74 zC rfl hb1) ?_;refine O.op (.p rfl) (.loadAgg isAgg74 zC rfl hb3) ?_;refine O.opE (.p rfl) (.litP (T:=Rp.cells 7) (ys:=[[.string (str [107]),.int .i64 1,.int .i64 1,.slice a12 0 c12,.bool false,.slice none 0 0,.slice d12 64 e12],[.string (str [107]),.int .i64 2,.int .i64 2,.slice a15 2 c15,.bool false,.slice none 0 0,.slice d15 64 e15]]) underlying47 elem74 zE rfl rfl ⟨⟨rfl,rfl,by first|(simp;done)|(intro v hv;simp [Value.cells] at hv;rcases hv with rfl|rfl<;>rfl)|(refine List.forall_mem_cons.2 ⟨rfl,?_⟩;repeat (first|exact (fun _ h=>absurd h List.not_mem_nil)|refine List.forall_mem_cons.2 ⟨rfl,?_⟩))⟩,⟨rfl,rfl,by first|(simp;done)|(intro v hv;simp [Value.cells] at hv;rcases hv with rfl|rfl<;>rfl)|(refine List.forall_mem_cons.2 ⟨rfl,?_⟩;repeat (first|exact (fun _ h=>absurd h List.not_mem_nil)|refine List.forall_mem_cons.2 ⟨rfl,?_⟩))⟩,trivial⟩ zE) ?_;rintro _ _ ⟨a29,c29,rfl,rfl⟩;refine O.frzA zB fun g hs hm ha29=>?_;replace hg:=Fr.sub_trans hg hs;replace hR:=melted hR hm
 try replace ha14:=ha14.mono hs
 try replace hA:=hA.mono hs
 try replace hA:=hA.mono hs
 try replace hB:=hB.mono hs
 try replace hB:=hB.mono hs
 try replace hC:=hC.mono hs
 try replace hC:=hC.mono hs
 try replace hb3:=hb3.mono hs
 try replace hb3:=hb3.mono hs
 try replace hb2:=hb2.mono hs
 try replace hb2:=hb2.mono hs
 try replace hb1:=hb1.mono hs
 try replace hb1:=hb1.mono hs
 try replace ha18:=ha18.mono hs
 try replace ha21:=ha21.mono hs
 try replace ha22:=ha22.mono hs
 try replace hX:=hX.mono hs
 try replace hX:=hX.mono hs
 clear hs hm;refine O.op (.p rfl) (.loadAgg isAgg74 zC rfl hb2) ?_;refine O.opE (.p rfl) (.litP (T:=Rp.cells 7) (ys:=[[.string (str [107]),.int .i64 2,.int .i64 1,.slice a13 0 c13,.bool false,.slice none 0 0,.slice d13 64 e13]]) underlying47 elem74 zE rfl rfl ⟨⟨rfl,rfl,by first|(simp;done)|(intro v hv;simp [Value.cells] at hv;rcases hv with rfl|rfl<;>rfl)|(refine List.forall_mem_cons.2 ⟨rfl,?_⟩;repeat (first|exact (fun _ h=>absurd h List.not_mem_nil)|refine List.forall_mem_cons.2 ⟨rfl,?_⟩))⟩,trivial⟩ zE) ?_;rintro _ _ ⟨a31,c31,rfl,rfl⟩;refine O.frzA zB fun g hs hm ha31=>?_;replace hg:=Fr.sub_trans hg hs;replace hR:=melted hR hm
 try replace ha14:=ha14.mono hs
 try replace hA:=hA.mono hs
 try replace hA:=hA.mono hs
 try replace hB:=hB.mono hs
 try replace hB:=hB.mono hs
 try replace hC:=hC.mono hs
 try replace hC:=hC.mono hs
 try replace hb3:=hb3.mono hs
 try replace hb3:=hb3.mono hs
 try replace hb2:=hb2.mono hs
 try replace hb2:=hb2.mono hs
 try replace hb1:=hb1.mono hs
 try replace hb1:=hb1.mono hs
 try replace ha18:=ha18.mono hs
 try replace ha21:=ha21.mono hs
 try replace ha22:=ha22.mono hs
 try replace hX:=hX.mono hs
 try replace hX:=hX.mono hs
 try replace ha29:=ha29.mono hs
 clear hs hm;refine O.opE (.p rfl) (.litP (T:=Rp.cells 1) (ys:=[[.slice a29 2 c29],[.slice a31 1 c31]]) underlying65 elem47 zE rfl rfl ⟨⟨rfl,rfl,by first|(simp;done)|(intro v hv;simp [Value.cells] at hv;rcases hv with rfl|rfl<;>rfl)|(refine List.forall_mem_cons.2 ⟨rfl,?_⟩;repeat (first|exact (fun _ h=>absurd h List.not_mem_nil)|refine List.forall_mem_cons.2 ⟨rfl,?_⟩))⟩,⟨rfl,rfl,by first|(simp;done)|(intro v hv;simp [Value.cells] at hv;rcases hv with rfl|rfl<;>rfl)|(refine List.forall_mem_cons.2 ⟨rfl,?_⟩;repeat (first|exact (fun _ h=>absurd h List.not_mem_nil)|refine List.forall_mem_cons.2 ⟨rfl,?_⟩))⟩,trivial⟩ zE) ?_;rintro _ _ ⟨a32,c32,rfl,rfl⟩;refine O.frzA zB fun g hs hm ha32=>?_;replace hg:=Fr.sub_trans hg hs;replace hR:=melted hR hm
 try replace ha14:=ha14.mono hs
 try replace hA:=hA.mono hs
 try replace hA:=hA.mono hs
 try replace hB:=hB.mono hs
 try replace hB:=hB.mono hs
 try replace hC:=hC.mono hs
 try replace hC:=hC.mono hs
 try replace hb3:=hb3.mono hs
 try replace hb3:=hb3.mono hs
 try replace hb2:=hb2.mono hs
 try replace hb2:=hb2.mono hs
 try replace hb1:=hb1.mono hs
 try replace hb1:=hb1.mono hs
 try replace ha18:=ha18.mono hs
 try replace ha21:=ha21.mono hs
 try replace ha22:=ha22.mono hs
 try replace hX:=hX.mono hs
 try replace hX:=hX.mono hs
 try replace ha29:=ha29.mono hs
 try replace ha31:=ha31.mono hs
 clear hs hm;refine O.call0 (.p rfl) rfl zC rfl rfl ((sJoin_c (ss:=[[recF 1 1 [],recF 2 2 [1,1,2,1]],[recF 2 1 []]]) (Arr.ofCells ha32 ⟨⟨_,rfl,Arr.ofCells ha29 ⟨hA,hC,trivial⟩ rfl⟩,⟨_,rfl,Arr.ofCells ha31 ⟨hB,trivial⟩ rfl⟩,trivial⟩ rfl) zE)) ?_;rintro _ _ ⟨a33,c33,rfl,rfl⟩
 try simp only [zx1,zx2,zx3]
 rw [show joinO [[recF 1 1 [],recF 2 2 [1,1,2,1]],[recF 2 1 []]].flatten=_ from jb.1,show joinE [[recF 1 1 [],recF 2 2 [1,1,2,1]],[recF 2 1 []]].flatten=_ from jb.2];refine O.q 5 rfl<|O.nil<|S.seq<|S.frzG (T:=RecRp) rfl zB fun g hs hm hY=>?_;replace hg:=Fr.sub_trans hg hs;replace hR:=melted hR hm
 try replace ha14:=ha14.mono hs
 try replace hA:=hA.mono hs
 try replace hA:=hA.mono hs
 try replace hB:=hB.mono hs
 try replace hB:=hB.mono hs
 try replace hC:=hC.mono hs
 try replace hC:=hC.mono hs
 try replace hb3:=hb3.mono hs
 try replace hb3:=hb3.mono hs
 try replace hb2:=hb2.mono hs
 try replace hb2:=hb2.mono hs
 try replace hb1:=hb1.mono hs
 try replace hb1:=hb1.mono hs
 try replace ha18:=ha18.mono hs
 try replace ha21:=ha21.mono hs
 try replace ha22:=ha22.mono hs
 try replace hX:=hX.mono hs
 try replace hX:=hX.mono hs
 try replace ha29:=ha29.mono hs
 try replace ha31:=ha31.mono hs
 try replace ha32:=ha32.mono hs
 clear hs hm;refine S.region rfl<|O.opE (.p rfl) (.litP (T:=Rp.i64) (ys:=[2,6]) underlying25 elem3 zE rfl rfl ⟨⟨rfl,by first|assumption|(constructor<;>omega)⟩,⟨rfl,by first|assumption|(constructor<;>omega)⟩,trivial⟩ zE) ?_;rintro _ _ ⟨a37,c37,rfl,rfl⟩;refine O.frzA zB fun g hs hm ha37=>?_;replace hg:=Fr.sub_trans hg hs;replace hR:=melted hR hm
 try replace ha14:=ha14.mono hs
 try replace hA:=hA.mono hs
 try replace hA:=hA.mono hs
 try replace hB:=hB.mono hs
 try replace hB:=hB.mono hs
 try replace hC:=hC.mono hs
 try replace hC:=hC.mono hs
 try replace hb3:=hb3.mono hs
 try replace hb3:=hb3.mono hs
 try replace hb2:=hb2.mono hs
 try replace hb2:=hb2.mono hs
 try replace hb1:=hb1.mono hs
 try replace hb1:=hb1.mono hs
 try replace ha18:=ha18.mono hs
 try replace ha21:=ha21.mono hs
 try replace ha22:=ha22.mono hs
 try replace hX:=hX.mono hs
 try replace hX:=hX.mono hs
 try replace ha29:=ha29.mono hs
 try replace ha31:=ha31.mono hs
 try replace ha32:=ha32.mono hs
 try replace hY:=hY.mono hs
 try replace hY:=hY.mono hs
 clear hs hm;refine O.call0 (.p rfl) rfl zC rfl rfl ((ofF_c (c:=1) (s:=5) (l:=[2,6]) zN zN ha37 zE)) ?_;rintro _ _ ⟨a38,c38,d38,e38,rfl,rfl⟩
 try simp only [zx1,zx2,zx3]
 refine O.opE (.p rfl) (.litP (T:=Rp.i64) (ys:=[1,5]) underlying25 elem3 zE rfl rfl ⟨⟨rfl,by first|assumption|(constructor<;>omega)⟩,⟨rfl,by first|assumption|(constructor<;>omega)⟩,trivial⟩ zE) ?_;rintro _ _ ⟨a39,c39,rfl,rfl⟩;refine O.frzA zB fun g hs hm ha39=>?_;replace hg:=Fr.sub_trans hg hs;replace hR:=melted hR hm
 try replace ha14:=ha14.mono hs
 try replace hA:=hA.mono hs
 try replace hA:=hA.mono hs
 try replace hB:=hB.mono hs
 try replace hB:=hB.mono hs
 try replace hC:=hC.mono hs
 try replace hC:=hC.mono hs
 try replace hb3:=hb3.mono hs
 try replace hb3:=hb3.mono hs
 try replace hb2:=hb2.mono hs
 try replace hb2:=hb2.mono hs
 try replace hb1:=hb1.mono hs
 try replace hb1:=hb1.mono hs
 try replace ha18:=ha18.mono hs
 try replace ha21:=ha21.mono hs
 try replace ha22:=ha22.mono hs
 try replace hX:=hX.mono hs
 try replace hX:=hX.mono hs
 try replace ha29:=ha29.mono hs
 try replace ha31:=ha31.mono hs
 try replace ha32:=ha32.mono hs
 try replace hY:=hY.mono hs
 try replace hY:=hY.mono hs
 try replace ha37:=ha37.mono hs
 clear hs hm;refine O.call0 (.p rfl) rfl zC rfl rfl ((ofF_c (c:=2) (s:=6) (l:=[1,5]) zN zN ha39 zE)) ?_;rintro _ _ ⟨a40,c40,d40,e40,rfl,rfl⟩
 try simp only [zx1,zx2,zx3]
 refine O.frz (A:=(fun m=>RecRp.rel m [.string (str [107]),.int .i64 1,.int .i64 5,.slice a38 1 c38,.bool false,.slice none 0 0,.slice d38 64 e38] (recF 1 5 [2,6]))) zB fun g hs hm ⟨_,x',s'⟩=>?_;have hD:=(fun s x=>Rp.mono RecRp s x) s' x';clear x' s';replace hg:=Fr.sub_trans hg hs;replace hR:=melted hR hm
 try replace ha14:=ha14.mono hs
 try replace hA:=hA.mono hs
 try replace hA:=hA.mono hs
 try replace hB:=hB.mono hs
 try replace hB:=hB.mono hs
 try replace hC:=hC.mono hs
 try replace hC:=hC.mono hs
 try replace hb3:=hb3.mono hs
 try replace hb3:=hb3.mono hs
 try replace hb2:=hb2.mono hs
 try replace hb2:=hb2.mono hs
 try replace hb1:=hb1.mono hs
 try replace hb1:=hb1.mono hs
 try replace ha18:=ha18.mono hs
 try replace ha21:=ha21.mono hs
 try replace ha22:=ha22.mono hs
 try replace hX:=hX.mono hs
 try replace hX:=hX.mono hs
 try replace ha29:=ha29.mono hs
 try replace ha31:=ha31.mono hs
 try replace ha32:=ha32.mono hs
 try replace hY:=hY.mono hs
 try replace hY:=hY.mono hs
 try replace ha37:=ha37.mono hs
 try replace ha39:=ha39.mono hs
 clear hs hm;refine O.frz (A:=(fun m=>RecRp.rel m [.string (str [107]),.int .i64 2,.int .i64 6,.slice a40 1 c40,.bool false,.slice none 0 0,.slice d40 64 e40] (recF 2 6 [1,5]))) zB fun g hs hm ⟨_,x',s'⟩=>?_;have hE:=(fun s x=>Rp.mono RecRp s x) s' x';clear x' s';replace hg:=Fr.sub_trans hg hs;replace hR:=melted hR hm
 try replace ha14:=ha14.mono hs
 try replace hA:=hA.mono hs
 try replace hA:=hA.mono hs
 try replace hB:=hB.mono hs
 try replace hB:=hB.mono hs
 try replace hC:=hC.mono hs
 try replace hC:=hC.mono hs
 try replace hb3:=hb3.mono hs
 try replace hb3:=hb3.mono hs
 try replace hb2:=hb2.mono hs
 try replace hb2:=hb2.mono hs
 try replace hb1:=hb1.mono hs
 try replace hb1:=hb1.mono hs
 try replace ha18:=ha18.mono hs
 try replace ha21:=ha21.mono hs
 try replace ha22:=ha22.mono hs
 try replace hX:=hX.mono hs
 try replace hX:=hX.mono hs
 try replace ha29:=ha29.mono hs
 try replace ha31:=ha31.mono hs
 try replace ha32:=ha32.mono hs
 try replace hY:=hY.mono hs
 try replace hY:=hY.mono hs
 try replace ha37:=ha37.mono hs
 try replace ha39:=ha39.mono hs
 try replace hD:=hD.mono hs
 clear hs hm;refine O.opE (.p rfl) (.litP (T:=Rp.cells 7) (ys:=[[.string (str [107]),.int .i64 1,.int .i64 5,.slice a38 1 c38,.bool false,.slice none 0 0,.slice d38 64 e38],[.string (str [107]),.int .i64 2,.int .i64 6,.slice a40 1 c40,.bool false,.slice none 0 0,.slice d40 64 e40]]) underlying47 elem74 zE rfl rfl ⟨⟨rfl,rfl,by first|(simp;done)|(intro v hv;simp [Value.cells] at hv;rcases hv with rfl|rfl<;>rfl)|(refine List.forall_mem_cons.2 ⟨rfl,?_⟩;repeat (first|exact (fun _ h=>absurd h List.not_mem_nil)|refine List.forall_mem_cons.2 ⟨rfl,?_⟩))⟩,⟨rfl,rfl,by first|(simp;done)|(intro v hv;simp [Value.cells] at hv;rcases hv with rfl|rfl<;>rfl)|(refine List.forall_mem_cons.2 ⟨rfl,?_⟩;repeat (first|exact (fun _ h=>absurd h List.not_mem_nil)|refine List.forall_mem_cons.2 ⟨rfl,?_⟩))⟩,trivial⟩ zE) ?_;rintro _ _ ⟨a41,c41,rfl,rfl⟩;refine O.frzA zB fun g hs hm ha41=>?_;replace hg:=Fr.sub_trans hg hs;replace hR:=melted hR hm
 try replace ha14:=ha14.mono hs
 try replace hA:=hA.mono hs
 try replace hA:=hA.mono hs
 try replace hB:=hB.mono hs
 try replace hB:=hB.mono hs
 try replace hC:=hC.mono hs
 try replace hC:=hC.mono hs
 try replace hb3:=hb3.mono hs
 try replace hb3:=hb3.mono hs
 try replace hb2:=hb2.mono hs
 try replace hb2:=hb2.mono hs
 try replace hb1:=hb1.mono hs
 try replace hb1:=hb1.mono hs
 try replace ha18:=ha18.mono hs
 try replace ha21:=ha21.mono hs
 try replace ha22:=ha22.mono hs
 try replace hX:=hX.mono hs
 try replace hX:=hX.mono hs
 try replace ha29:=ha29.mono hs
 try replace ha31:=ha31.mono hs
 try replace ha32:=ha32.mono hs
 try replace hY:=hY.mono hs
 try replace hY:=hY.mono hs
 try replace ha37:=ha37.mono hs
 try replace ha39:=ha39.mono hs
 try replace hD:=hD.mono hs
 try replace hE:=hE.mono hs
 clear hs hm;refine O.opE (.p rfl) (.litP (T:=Rp.cells 1) (ys:=[[.slice a41 2 c41]]) underlying65 elem47 zE rfl rfl ⟨⟨rfl,rfl,by first|(simp;done)|(intro v hv;simp [Value.cells] at hv;rcases hv with rfl|rfl<;>rfl)|(refine List.forall_mem_cons.2 ⟨rfl,?_⟩;repeat (first|exact (fun _ h=>absurd h List.not_mem_nil)|refine List.forall_mem_cons.2 ⟨rfl,?_⟩))⟩,trivial⟩ zE) ?_;rintro _ _ ⟨a42,c42,rfl,rfl⟩;refine O.frzA zB fun g hs hm ha42=>?_;replace hg:=Fr.sub_trans hg hs;replace hR:=melted hR hm
 try replace ha14:=ha14.mono hs
 try replace hA:=hA.mono hs
 try replace hA:=hA.mono hs
 try replace hB:=hB.mono hs
 try replace hB:=hB.mono hs
 try replace hC:=hC.mono hs
 try replace hC:=hC.mono hs
 try replace hb3:=hb3.mono hs
 try replace hb3:=hb3.mono hs
 try replace hb2:=hb2.mono hs
 try replace hb2:=hb2.mono hs
 try replace hb1:=hb1.mono hs
 try replace hb1:=hb1.mono hs
 try replace ha18:=ha18.mono hs
 try replace ha21:=ha21.mono hs
 try replace ha22:=ha22.mono hs
 try replace hX:=hX.mono hs
 try replace hX:=hX.mono hs
 try replace ha29:=ha29.mono hs
 try replace ha31:=ha31.mono hs
 try replace ha32:=ha32.mono hs
 try replace hY:=hY.mono hs
 try replace hY:=hY.mono hs
 try replace ha37:=ha37.mono hs
 try replace ha39:=ha39.mono hs
 try replace hD:=hD.mono hs
 try replace hE:=hE.mono hs
 try replace ha41:=ha41.mono hs
 clear hs hm;refine O.call0 (.p rfl) rfl zC rfl rfl ((sJoin_c (ss:=[[recF 1 5 [2,6],recF 2 6 [1,5]]]) (Arr.ofCells ha42 ⟨⟨_,rfl,Arr.ofCells ha41 ⟨hD,hE,trivial⟩ rfl⟩,trivial⟩ rfl) zE)) ?_;rintro _ _ ⟨a43,c43,rfl,rfl⟩
 try simp only [zx1,zx2,zx3]
 rw [show joinO [[recF 1 5 [2,6],recF 2 6 [1,5]]].flatten=_ from jc.1,show joinE [[recF 1 5 [2,6],recF 2 6 [1,5]]].flatten=_ from jc.2];refine O.q 5 rfl<|O.nil<|S.seq<|S.frzG (T:=RecRp) rfl zB fun g hs hm hZ=>?_;replace hg:=Fr.sub_trans hg hs;replace hR:=melted hR hm
 try replace ha14:=ha14.mono hs
 try replace hA:=hA.mono hs
 try replace hA:=hA.mono hs
 try replace hB:=hB.mono hs
 try replace hB:=hB.mono hs
 try replace hC:=hC.mono hs
 try replace hC:=hC.mono hs
 try replace hb3:=hb3.mono hs
 try replace hb3:=hb3.mono hs
 try replace hb2:=hb2.mono hs
 try replace hb2:=hb2.mono hs
 try replace hb1:=hb1.mono hs
 try replace hb1:=hb1.mono hs
 try replace ha18:=ha18.mono hs
 try replace ha21:=ha21.mono hs
 try replace ha22:=ha22.mono hs
 try replace hX:=hX.mono hs
 try replace hX:=hX.mono hs
 try replace ha29:=ha29.mono hs
 try replace ha31:=ha31.mono hs
 try replace ha32:=ha32.mono hs
 try replace hY:=hY.mono hs
 try replace hY:=hY.mono hs
 try replace ha37:=ha37.mono hs
 try replace ha39:=ha39.mono hs
 try replace hD:=hD.mono hs
 try replace hE:=hE.mono hs
 try replace ha41:=ha41.mono hs
 try replace ha42:=ha42.mono hs
 clear hs hm;refine S.region rfl<|O.call0 (.p rfl) rfl zC rfl rfl ((sPut_c (xs:=[]) Arr.nil zE)) ?_;rintro _ _ ⟨a47,c47,rfl,rfl⟩
 try simp only [zx1,zx2,zx3]
 rw [show sOut []=List.replicate 8 0 from by decide,show sErr []=0 from by decide];refine O.q 5 rfl<|O.nil<|S.seq<|S.frzA zB fun g hs hm hP=>?_;replace hg:=Fr.sub_trans hg hs;replace hR:=melted hR hm
 try replace ha14:=ha14.mono hs
 try replace hA:=hA.mono hs
 try replace hA:=hA.mono hs
 try replace hB:=hB.mono hs
 try replace hB:=hB.mono hs
 try replace hC:=hC.mono hs
 try replace hC:=hC.mono hs
 try replace hb3:=hb3.mono hs
 try replace hb3:=hb3.mono hs
 try replace hb2:=hb2.mono hs
 try replace hb2:=hb2.mono hs
 try replace hb1:=hb1.mono hs
 try replace hb1:=hb1.mono hs
 try replace ha18:=ha18.mono hs
 try replace ha21:=ha21.mono hs
 try replace ha22:=ha22.mono hs
 try replace hX:=hX.mono hs
 try replace hX:=hX.mono hs
 try replace ha29:=ha29.mono hs
 try replace ha31:=ha31.mono hs
 try replace ha32:=ha32.mono hs
 try replace hY:=hY.mono hs
 try replace hY:=hY.mono hs
 try replace ha37:=ha37.mono hs
 try replace ha39:=ha39.mono hs
 try replace hD:=hD.mono hs
 try replace hE:=hE.mono hs
 try replace ha41:=ha41.mono hs
 try replace ha42:=ha42.mono hs
 try replace hZ:=hZ.mono hs
 try replace hZ:=hZ.mono hs
 clear hs hm;refine S.region rfl<|O.q 1 rfl<|O.op (.p rfl) (.eql rfl rfl)<|O.sT 51 rfl (by rfl) ?_;refine O.q 2 rfl<|O.op (.g rfl rfl) (.loadAgg isAgg74 zC rfl hb1) ?_;refine O.op (.g rfl rfl) (.loadAgg isAgg74 zC rfl hb2) ?_;refine O.opE (.g rfl rfl) (.litP (T:=Rp.cells 7) (ys:=[[.string (str [107]),.int .i64 1,.int .i64 1,.slice a12 0 c12,.bool false,.slice none 0 0,.slice d12 64 e12],[.string (str [107]),.int .i64 2,.int .i64 1,.slice a13 0 c13,.bool false,.slice none 0 0,.slice d13 64 e13]]) underlying47 elem74 zE rfl rfl ⟨⟨rfl,rfl,by first|(simp;done)|(intro v hv;simp [Value.cells] at hv;rcases hv with rfl|rfl<;>rfl)|(refine List.forall_mem_cons.2 ⟨rfl,?_⟩;repeat (first|exact (fun _ h=>absurd h List.not_mem_nil)|refine List.forall_mem_cons.2 ⟨rfl,?_⟩))⟩,⟨rfl,rfl,by first|(simp;done)|(intro v hv;simp [Value.cells] at hv;rcases hv with rfl|rfl<;>rfl)|(refine List.forall_mem_cons.2 ⟨rfl,?_⟩;repeat (first|exact (fun _ h=>absurd h List.not_mem_nil)|refine List.forall_mem_cons.2 ⟨rfl,?_⟩))⟩,trivial⟩ zE) ?_;rintro _ _ ⟨a56,c56,rfl,rfl⟩;refine O.frzA zB fun g hs hm ha56=>?_;replace hg:=Fr.sub_trans hg hs;replace hR:=melted hR hm
 try replace ha14:=ha14.mono hs
 try replace hA:=hA.mono hs
 try replace hA:=hA.mono hs
 try replace hB:=hB.mono hs
 try replace hB:=hB.mono hs
 try replace hC:=hC.mono hs
 try replace hC:=hC.mono hs
 try replace hb3:=hb3.mono hs
 try replace hb3:=hb3.mono hs
 try replace hb2:=hb2.mono hs
 try replace hb2:=hb2.mono hs
 try replace hb1:=hb1.mono hs
 try replace hb1:=hb1.mono hs
 try replace ha18:=ha18.mono hs
 try replace ha21:=ha21.mono hs
 try replace ha22:=ha22.mono hs
 try replace hX:=hX.mono hs
 try replace hX:=hX.mono hs
 try replace ha29:=ha29.mono hs
 try replace ha31:=ha31.mono hs
 try replace ha32:=ha32.mono hs
 try replace hY:=hY.mono hs
 try replace hY:=hY.mono hs
 try replace ha37:=ha37.mono hs
 try replace ha39:=ha39.mono hs
 try replace hD:=hD.mono hs
 try replace hE:=hE.mono hs
 try replace ha41:=ha41.mono hs
 try replace ha42:=ha42.mono hs
 try replace hZ:=hZ.mono hs
 try replace hZ:=hZ.mono hs
 try replace hP:=hP.mono hs
 try replace hP:=hP.mono hs
 clear hs hm;refine O.call0 (.g rfl rfl) rfl zC rfl rfl ((sameRecords_c (ys:=[recF 1 1 [],recF 2 1 []]) hX (Arr.ofCells ha56 ⟨hA,hB,trivial⟩ rfl))) ?_;rintro _ _ ⟨rfl,rfl⟩
 try simp only [zx1,zx2,zx3]
 refine O.sT 57 rfl (by exact decide_eq_true trivial) ?_;refine O.q 3 rfl<|O.op (.g rfl rfl) (.eql rfl rfl)<|O.sT 61 rfl (by rfl) ?_;refine O.q 3 rfl<|O.op (.g rfl rfl) (.loadAgg isAgg74 zC rfl hb3) ?_;refine O.opE (.g rfl rfl) (.litP (T:=Rp.cells 7) (ys:=[[.string (str [107]),.int .i64 2,.int .i64 2,.slice a15 2 c15,.bool false,.slice none 0 0,.slice d15 64 e15]]) underlying47 elem74 zE rfl rfl ⟨⟨rfl,rfl,by first|(simp;done)|(intro v hv;simp [Value.cells] at hv;rcases hv with rfl|rfl<;>rfl)|(refine List.forall_mem_cons.2 ⟨rfl,?_⟩;repeat (first|exact (fun _ h=>absurd h List.not_mem_nil)|refine List.forall_mem_cons.2 ⟨rfl,?_⟩))⟩,trivial⟩ zE) ?_;rintro _ _ ⟨a66,c66,rfl,rfl⟩;refine O.frzA zB fun g hs hm ha66=>?_;replace hg:=Fr.sub_trans hg hs;replace hR:=melted hR hm
 try replace ha14:=ha14.mono hs
 try replace hA:=hA.mono hs
 try replace hA:=hA.mono hs
 try replace hB:=hB.mono hs
 try replace hB:=hB.mono hs
 try replace hC:=hC.mono hs
 try replace hC:=hC.mono hs
 try replace hb3:=hb3.mono hs
 try replace hb3:=hb3.mono hs
 try replace hb2:=hb2.mono hs
 try replace hb2:=hb2.mono hs
 try replace hb1:=hb1.mono hs
 try replace hb1:=hb1.mono hs
 try replace ha18:=ha18.mono hs
 try replace ha21:=ha21.mono hs
 try replace ha22:=ha22.mono hs
 try replace hX:=hX.mono hs
 try replace hX:=hX.mono hs
 try replace ha29:=ha29.mono hs
 try replace ha31:=ha31.mono hs
 try replace ha32:=ha32.mono hs
 try replace hY:=hY.mono hs
 try replace hY:=hY.mono hs
 try replace ha37:=ha37.mono hs
 try replace ha39:=ha39.mono hs
 try replace hD:=hD.mono hs
 try replace hE:=hE.mono hs
 try replace ha41:=ha41.mono hs
 try replace ha42:=ha42.mono hs
 try replace hZ:=hZ.mono hs
 try replace hZ:=hZ.mono hs
 try replace hP:=hP.mono hs
 try replace hP:=hP.mono hs
 try replace ha56:=ha56.mono hs
 clear hs hm;refine O.call0 (.g rfl rfl) rfl zC rfl rfl ((sameRecords_c (ys:=[recF 2 2 [1,1,2,1]]) hY (Arr.ofCells ha66 ⟨hC,trivial⟩ rfl))) ?_;rintro _ _ ⟨rfl,rfl⟩
 try simp only [zx1,zx2,zx3]
 refine O.sT 67 rfl (by exact decide_eq_true trivial) ?_;refine O.q 3 rfl<|O.op (.g rfl rfl) (.eql rfl rfl)<|O.sT 71 rfl (by rfl) ?_;refine O.q 3 rfl<|O.op (.g rfl rfl) (.len rfl underlying47 rfl)<|O.op (.g rfl rfl) (.eql rfl rfl)<|O.sT 76 rfl (by rfl) ?_;refine O.q 3 rfl<|O.op (.g rfl rfl) (.eql rfl rfl)<|O.sT 80 rfl (by rfl) ?_;refine O.q 3 rfl<|O.opE (.g rfl rfl) (.makeP (T:=Rp.u8) (0:UInt8) (m:=8) underlying31 elem5 zE rfl rfl rfl rfl rfl zE zE) ?_;rintro _ _ ⟨a84,c84,rfl,rfl⟩;refine O.frzA zB fun g hs hm ha84=>?_;replace hg:=Fr.sub_trans hg hs;replace hR:=melted hR hm
 try replace ha14:=ha14.mono hs
 try replace hA:=hA.mono hs
 try replace hA:=hA.mono hs
 try replace hB:=hB.mono hs
 try replace hB:=hB.mono hs
 try replace hC:=hC.mono hs
 try replace hC:=hC.mono hs
 try replace hb3:=hb3.mono hs
 try replace hb3:=hb3.mono hs
 try replace hb2:=hb2.mono hs
 try replace hb2:=hb2.mono hs
 try replace hb1:=hb1.mono hs
 try replace hb1:=hb1.mono hs
 try replace ha18:=ha18.mono hs
 try replace ha21:=ha21.mono hs
 try replace ha22:=ha22.mono hs
 try replace hX:=hX.mono hs
 try replace hX:=hX.mono hs
 try replace ha29:=ha29.mono hs
 try replace ha31:=ha31.mono hs
 try replace ha32:=ha32.mono hs
 try replace hY:=hY.mono hs
 try replace hY:=hY.mono hs
 try replace ha37:=ha37.mono hs
 try replace ha39:=ha39.mono hs
 try replace hD:=hD.mono hs
 try replace hE:=hE.mono hs
 try replace ha41:=ha41.mono hs
 try replace ha42:=ha42.mono hs
 try replace hZ:=hZ.mono hs
 try replace hZ:=hZ.mono hs
 try replace hP:=hP.mono hs
 try replace hP:=hP.mono hs
 try replace ha56:=ha56.mono hs
 try replace ha66:=ha66.mono hs
 clear hs hm;refine O.call0 (.g rfl rfl) rfl zC rfl rfl ((SameBytes_c hP ha84)) ?_;rintro _ _ ⟨rfl,rfl⟩
 try simp only [zx1,zx2,zx3]
 refine O.sT 85 rfl (by exact decide_eq_true trivial) ?_;refine O.q 2 rfl<|O.nil ?_;exact S.rt results36 rfl hR ⟨rfl,rfl⟩
theorem Sat.w1 {A:SProp} {B:Fr→Prop} {m:Fr} (hs:∀ {h k:Fr},h.sub k→B h→B k) (hA:∀ h,A h→B h):Sat [A] m→B m:=fun ⟨_,_,_,s,_,x,_⟩=>hs s (hA _ x)
theorem flatLimbs_0 {r:Fr}:Con prog 162 #[.slice none 0 0] r [] (Ret fun v η=>v=.bool true∧η=[]):=by
 refine Con.o func162 fun g hg R hR=>?_;refine zz 19 ?_;refine S.cd rfl (fun h19=>?_) fun h19=>?_
 ·exact absurd zF zG
 refine zz 5 ?_;refine O.opE (.p rfl) (.makeP (T:=Rp.val) (.slice none 0 0) (m:=0) underlying100 elem260 zE ⟨rfl,rfl⟩ rfl rfl rfl rfl zE zE) ?_;rintro _ _ ⟨a43,c43,rfl,rfl⟩;refine zz 17 ?_;refine S.cd rfl (fun h47=>?_) fun h47=>?_
 ·exact absurd zF zG
 refine zz 16 ?_;refine S.cd rfl (fun h78=>?_) fun h78=>?_
 ·exact absurd zF zG
 refine zz 16 ?_;refine S.cd rfl (fun h130=>?_) fun h130=>?_
 ·exact absurd zF zG
 refine zz 16 ?_;refine S.cd rfl (fun h160=>?_) fun h160=>?_
 ·exact absurd zF zG
 refine zz 5 ?_;exact S.rt results162 rfl hR ⟨rfl,rfl⟩
theorem flatWords_0 {r:Fr}:Con prog 163 #[.slice none 0 0] r [] (Ret fun v η=>v=.bool true∧η=[]):=by
 refine Con.o func163 fun g hg R hR=>?_;refine zz 19 ?_;refine S.cd rfl (fun h19=>?_) fun h19=>?_
 ·exact absurd zF zG
 refine zz 5 ?_;refine O.opE (.p rfl) (.makeP (T:=Rp.val) (.slice none 0 0) (m:=0) underlying101 elem262 zE ⟨rfl,rfl⟩ rfl rfl rfl rfl zE zE) ?_;rintro _ _ ⟨a43,c43,rfl,rfl⟩;refine zz 17 ?_;refine S.cd rfl (fun h47=>?_) fun h47=>?_
 ·exact absurd zF zG
 refine zz 16 ?_;refine S.cd rfl (fun h78=>?_) fun h78=>?_
 ·exact absurd zF zG
 refine zz 16 ?_;refine S.cd rfl (fun h130=>?_) fun h130=>?_
 ·exact absurd zF zG
 refine zz 16 ?_;refine S.cd rfl (fun h160=>?_) fun h160=>?_
 ·exact absurd zF zG
 refine zz 5 ?_;exact S.rt results163 rfl hR ⟨rfl,rfl⟩
theorem flatInts_0 {r:Fr}:Con prog 164 #[.slice none 0 0] r [] (Ret fun v η=>v=.bool true∧η=[]):=by
 refine Con.o func164 fun g hg R hR=>?_;refine zz 19 ?_;refine S.cd rfl (fun h19=>?_) fun h19=>?_
 ·exact absurd zF zG
 refine zz 5 ?_;refine O.opE (.p rfl) (.makeP (T:=Rp.val) (.slice none 0 0) (m:=0) underlying102 elem25 zE ⟨rfl,rfl⟩ rfl rfl rfl rfl zE zE) ?_;rintro _ _ ⟨a42,c42,rfl,rfl⟩;refine zz 17 ?_;refine S.cd rfl (fun h46=>?_) fun h46=>?_
 ·exact absurd zF zG
 refine zz 16 ?_;refine S.cd rfl (fun h76=>?_) fun h76=>?_
 ·exact absurd zF zG
 refine zz 16 ?_;refine S.cd rfl (fun h126=>?_) fun h126=>?_
 ·exact absurd zF zG
 refine zz 16 ?_;refine S.cd rfl (fun h155=>?_) fun h155=>?_
 ·exact absurd zF zG
 refine zz 5 ?_;exact S.rt results164 rfl hR ⟨rfl,rfl⟩
theorem flatLongs_0 {r:Fr}:Con prog 165 #[.slice none 0 0] r [] (Ret fun v η=>v=.bool true∧η=[]):=by
 refine Con.o func165 fun g hg R hR=>?_;refine zz 19 ?_;refine S.cd rfl (fun h19=>?_) fun h19=>?_
 ·exact absurd zF zG
 refine zz 5 ?_;refine O.opE (.p rfl) (.makeP (T:=Rp.val) (.slice none 0 0) (m:=0) underlying103 elem263 zE ⟨rfl,rfl⟩ rfl rfl rfl rfl zE zE) ?_;rintro _ _ ⟨a42,c42,rfl,rfl⟩;refine zz 17 ?_;refine S.cd rfl (fun h46=>?_) fun h46=>?_
 ·exact absurd zF zG
 refine zz 16 ?_;refine S.cd rfl (fun h76=>?_) fun h76=>?_
 ·exact absurd zF zG
 refine zz 16 ?_;refine S.cd rfl (fun h126=>?_) fun h126=>?_
 ·exact absurd zF zG
 refine zz 16 ?_;refine S.cd rfl (fun h155=>?_) fun h155=>?_
 ·exact absurd zF zG
 refine zz 5 ?_;exact S.rt results165 rfl hR ⟨rfl,rfl⟩
theorem flatTexts_0 {r:Fr}:Con prog 166 #[.slice none 0 0] r [] (Ret fun v η=>v=.bool true∧η=[]):=by
 refine Con.o func166 fun g hg R hR=>?_;refine zz 19 ?_;refine S.cd rfl (fun h19=>?_) fun h19=>?_
 ·exact absurd zF zG
 refine zz 5 ?_;refine O.opE (.p rfl) (.makeP (T:=Rp.val) (.slice none 0 0) (m:=0) underlying104 elem184 zE ⟨rfl,rfl⟩ rfl rfl rfl rfl zE zE) ?_;rintro _ _ ⟨a42,c42,rfl,rfl⟩;refine zz 17 ?_;refine S.cd rfl (fun h46=>?_) fun h46=>?_
 ·exact absurd zF zG
 refine zz 16 ?_;refine S.cd rfl (fun h76=>?_) fun h76=>?_
 ·exact absurd zF zG
 refine zz 16 ?_;refine S.cd rfl (fun h126=>?_) fun h126=>?_
 ·exact absurd zF zG
 refine zz 16 ?_;refine S.cd rfl (fun h155=>?_) fun h155=>?_
 ·exact absurd zF zG
 refine zz 5 ?_;exact S.rt results166 rfl hR ⟨rfl,rfl⟩
theorem flatTruths_0 {r:Fr}:Con prog 168 #[.slice none 0 0] r [] (Ret fun v η=>v=.bool true∧η=[]):=by
 refine Con.o func168 fun g hg R hR=>?_;refine zz 19 ?_;refine S.cd rfl (fun h19=>?_) fun h19=>?_
 ·exact absurd zF zG
 refine zz 5 ?_;refine O.opE (.p rfl) (.makeP (T:=Rp.val) (.slice none 0 0) (m:=0) underlying105 elem264 zE ⟨rfl,rfl⟩ rfl rfl rfl rfl zE zE) ?_;rintro _ _ ⟨a44,c44,rfl,rfl⟩;refine zz 17 ?_;refine S.cd rfl (fun h48=>?_) fun h48=>?_
 ·exact absurd zF zG
 refine zz 16 ?_;refine S.cd rfl (fun h80=>?_) fun h80=>?_
 ·exact absurd zF zG
 refine zz 16 ?_;refine S.cd rfl (fun h134=>?_) fun h134=>?_
 ·exact absurd zF zG
 refine zz 16 ?_;refine S.cd rfl (fun h165=>?_) fun h165=>?_
 ·exact absurd zF zG
 refine zz 5 ?_;exact S.rt results168 rfl hR ⟨rfl,rfl⟩
theorem flatRows_0 {r:Fr}:Con prog 169 #[.slice none 0 0] r [] (Ret fun v η=>v=.bool true∧η=[]):=by
 refine Con.o func169 fun g hg R hR=>?_;refine zz 19 ?_;refine S.cd rfl (fun h19=>?_) fun h19=>?_
 ·exact absurd zF zG
 refine zz 5 ?_;refine O.opE (.p rfl) (.makeP (T:=Rp.val) (.slice none 0 0) (m:=0) underlying106 elem39 zE ⟨rfl,rfl⟩ rfl rfl rfl rfl zE zE) ?_;rintro _ _ ⟨a42,c42,rfl,rfl⟩;refine zz 17 ?_;refine S.cd rfl (fun h46=>?_) fun h46=>?_
 ·exact absurd zF zG
 refine zz 16 ?_;refine S.cd rfl (fun h76=>?_) fun h76=>?_
 ·exact absurd zF zG
 refine zz 16 ?_;refine S.cd rfl (fun h126=>?_) fun h126=>?_
 ·exact absurd zF zG
 refine zz 16 ?_;refine S.cd rfl (fun h155=>?_) fun h155=>?_
 ·exact absurd zF zG
 refine zz 5 ?_;exact S.rt results169 rfl hR ⟨rfl,rfl⟩
theorem flatDots_0 {r:Fr}:Con prog 170 #[.slice none 0 0] r [] (Ret fun v η=>v=.bool true∧η=[]):=by
 refine Con.o func170 fun g hg R hR=>?_;refine zz 19 ?_;refine S.cd rfl (fun h19=>?_) fun h19=>?_
 ·exact absurd zF zG
 refine zz 5 ?_;refine O.opE (.p rfl) (.makeP (T:=Rp.val) (.slice none 0 0) (m:=0) underlying107 elem72 zE ⟨rfl,rfl⟩ rfl rfl rfl rfl zE zE) ?_;rintro _ _ ⟨a42,c42,rfl,rfl⟩;refine zz 17 ?_;refine S.cd rfl (fun h46=>?_) fun h46=>?_
 ·exact absurd zF zG
 refine zz 16 ?_;refine S.cd rfl (fun h76=>?_) fun h76=>?_
 ·exact absurd zF zG
 refine zz 16 ?_;refine S.cd rfl (fun h126=>?_) fun h126=>?_
 ·exact absurd zF zG
 refine zz 16 ?_;refine S.cd rfl (fun h155=>?_) fun h155=>?_
 ·exact absurd zF zG
 refine zz 5 ?_;exact S.rt results170 rfl hR ⟨rfl,rfl⟩
theorem flatRecords_0 {r:Fr}:Con prog 171 #[.slice none 0 0] r [] (Ret fun v η=>v=.bool true∧η=[]):=by
 refine Con.o func171 fun g hg R hR=>?_;refine zz 19 ?_;refine S.cd rfl (fun h19=>?_) fun h19=>?_
 ·exact absurd zF zG
 refine zz 5 ?_;refine O.opE (.p rfl) (.makeP (T:=Rp.val) (.slice none 0 0) (m:=0) underlying65 elem47 zE ⟨rfl,rfl⟩ rfl rfl rfl rfl zE zE) ?_;rintro _ _ ⟨a42,c42,rfl,rfl⟩;refine zz 17 ?_;refine S.cd rfl (fun h46=>?_) fun h46=>?_
 ·exact absurd zF zG
 refine zz 16 ?_;refine S.cd rfl (fun h76=>?_) fun h76=>?_
 ·exact absurd zF zG
 refine zz 16 ?_;refine S.cd rfl (fun h126=>?_) fun h126=>?_
 ·exact absurd zF zG
 refine zz 16 ?_;refine S.cd rfl (fun h155=>?_) fun h155=>?_
 ·exact absurd zF zG
 refine zz 5 ?_;exact S.rt results171 rfl hR ⟨rfl,rfl⟩
theorem flatLeaves_0 {r:Fr}:Con prog 172 #[.slice none 0 0] r [] (Ret fun v η=>v=.bool true∧η=[]):=by
 refine Con.o func172 fun g hg R hR=>?_;refine zz 19 ?_;refine S.cd rfl (fun h19=>?_) fun h19=>?_
 ·exact absurd zF zG
 refine zz 5 ?_;refine O.opE (.p rfl) (.makeP (T:=Rp.val) (.slice none 0 0) (m:=0) underlying108 elem22 zE ⟨rfl,rfl⟩ rfl rfl rfl rfl zE zE) ?_;rintro _ _ ⟨a42,c42,rfl,rfl⟩;refine zz 17 ?_;refine S.cd rfl (fun h46=>?_) fun h46=>?_
 ·exact absurd zF zG
 refine zz 16 ?_;refine S.cd rfl (fun h76=>?_) fun h76=>?_
 ·exact absurd zF zG
 refine zz 16 ?_;refine S.cd rfl (fun h126=>?_) fun h126=>?_
 ·exact absurd zF zG
 refine zz 16 ?_;refine S.cd rfl (fun h155=>?_) fun h155=>?_
 ·exact absurd zF zG
 refine zz 5 ?_;exact S.rt results172 rfl hR ⟨rfl,rfl⟩
theorem flatGrants_0 {r:Fr}:Con prog 173 #[.slice none 0 0] r [] (Ret fun v η=>v=.bool true∧η=[]):=by
 refine Con.o func173 fun g hg R hR=>?_;refine zz 19 ?_;refine S.cd rfl (fun h19=>?_) fun h19=>?_
 ·exact absurd zF zG
 refine zz 5 ?_;refine O.opE (.p rfl) (.makeP (T:=Rp.val) (.slice none 0 0) (m:=0) underlying109 elem267 zE ⟨rfl,rfl⟩ rfl rfl rfl rfl zE zE) ?_;rintro _ _ ⟨a42,c42,rfl,rfl⟩;refine zz 17 ?_;refine S.cd rfl (fun h46=>?_) fun h46=>?_
 ·exact absurd zF zG
 refine zz 16 ?_;refine S.cd rfl (fun h76=>?_) fun h76=>?_
 ·exact absurd zF zG
 refine zz 16 ?_;refine S.cd rfl (fun h126=>?_) fun h126=>?_
 ·exact absurd zF zG
 refine zz 16 ?_;refine S.cd rfl (fun h155=>?_) fun h155=>?_
 ·exact absurd zF zG
 refine zz 5 ?_;exact S.rt results173 rfl hR ⟨rfl,rfl⟩
theorem flatNodes_0 {r:Fr}:Con prog 174 #[.slice none 0 0] r [] (Ret fun v η=>v=.bool true∧η=[]):=by
 refine Con.o func174 fun g hg R hR=>?_;refine zz 19 ?_;refine S.cd rfl (fun h19=>?_) fun h19=>?_
 ·exact absurd zF zG
 refine zz 5 ?_;refine O.opE (.p rfl) (.makeP (T:=Rp.val) (.slice none 0 0) (m:=0) underlying110 elem272 zE ⟨rfl,rfl⟩ rfl rfl rfl rfl zE zE) ?_;rintro _ _ ⟨a42,c42,rfl,rfl⟩;refine zz 17 ?_;refine S.cd rfl (fun h46=>?_) fun h46=>?_
 ·exact absurd zF zG
 refine zz 16 ?_;refine S.cd rfl (fun h76=>?_) fun h76=>?_
 ·exact absurd zF zG
 refine zz 16 ?_;refine S.cd rfl (fun h126=>?_) fun h126=>?_
 ·exact absurd zF zG
 refine zz 16 ?_;refine S.cd rfl (fun h155=>?_) fun h155=>?_
 ·exact absurd zF zG
 refine zz 5 ?_;exact S.rt results174 rfl hR ⟨rfl,rfl⟩
theorem flatStubs_0 {r:Fr}:Con prog 175 #[.slice none 0 0] r [] (Ret fun v η=>v=.bool true∧η=[]):=by
 refine Con.o func175 fun g hg R hR=>?_;refine zz 19 ?_;refine S.cd rfl (fun h19=>?_) fun h19=>?_
 ·exact absurd zF zG
 refine zz 5 ?_;refine O.opE (.p rfl) (.makeP (T:=Rp.val) (.slice none 0 0) (m:=0) underlying111 elem278 zE ⟨rfl,rfl⟩ rfl rfl rfl rfl zE zE) ?_;rintro _ _ ⟨a42,c42,rfl,rfl⟩;refine zz 17 ?_;refine S.cd rfl (fun h46=>?_) fun h46=>?_
 ·exact absurd zF zG
 refine zz 16 ?_;refine S.cd rfl (fun h76=>?_) fun h76=>?_
 ·exact absurd zF zG
 refine zz 16 ?_;refine S.cd rfl (fun h126=>?_) fun h126=>?_
 ·exact absurd zF zG
 refine zz 16 ?_;refine S.cd rfl (fun h155=>?_) fun h155=>?_
 ·exact absurd zF zG
 refine zz 5 ?_;exact S.rt results175 rfl hR ⟨rfl,rfl⟩
theorem flatProofs_0 {r:Fr}:Con prog 176 #[.slice none 0 0] r [] (Ret fun v η=>v=.bool true∧η=[]):=by
 refine Con.o func176 fun g hg R hR=>?_;refine zz 19 ?_;refine S.cd rfl (fun h19=>?_) fun h19=>?_
 ·exact absurd zF zG
 refine zz 5 ?_;refine O.opE (.p rfl) (.makeP (T:=Rp.val) (.slice none 0 0) (m:=0) underlying112 elem283 zE ⟨rfl,rfl⟩ rfl rfl rfl rfl zE zE) ?_;rintro _ _ ⟨a42,c42,rfl,rfl⟩;refine zz 17 ?_;refine S.cd rfl (fun h46=>?_) fun h46=>?_
 ·exact absurd zF zG
 refine zz 16 ?_;refine S.cd rfl (fun h76=>?_) fun h76=>?_
 ·exact absurd zF zG
 refine zz 16 ?_;refine S.cd rfl (fun h126=>?_) fun h126=>?_
 ·exact absurd zF zG
 refine zz 16 ?_;refine S.cd rfl (fun h155=>?_) fun h155=>?_
 ·exact absurd zF zG
 refine zz 5 ?_;exact S.rt results176 rfl hR ⟨rfl,rfl⟩
theorem flatRoots_0 {r:Fr}:Con prog 177 #[.slice none 0 0] r [] (Ret fun v η=>v=.bool true∧η=[]):=by
 refine Con.o func177 fun g hg R hR=>?_;refine zz 19 ?_;refine S.cd rfl (fun h19=>?_) fun h19=>?_
 ·exact absurd zF zG
 refine zz 5 ?_;refine O.opE (.p rfl) (.makeP (T:=Rp.val) (.slice none 0 0) (m:=0) underlying113 elem23 zE ⟨rfl,rfl⟩ rfl rfl rfl rfl zE zE) ?_;rintro _ _ ⟨a42,c42,rfl,rfl⟩;refine zz 17 ?_;refine S.cd rfl (fun h46=>?_) fun h46=>?_
 ·exact absurd zF zG
 refine zz 16 ?_;refine S.cd rfl (fun h76=>?_) fun h76=>?_
 ·exact absurd zF zG
 refine zz 16 ?_;refine S.cd rfl (fun h126=>?_) fun h126=>?_
 ·exact absurd zF zG
 refine zz 16 ?_;refine S.cd rfl (fun h155=>?_) fun h155=>?_
 ·exact absurd zF zG
 refine zz 5 ?_;exact S.rt results177 rfl hR ⟨rfl,rfl⟩
theorem flatEvidenceRow_0 {r:Fr}:Con prog 178 #[.slice none 0 0] r [] (Ret fun v η=>v=.bool true∧η=[]):=by
 refine Con.o func178 fun g hg R hR=>?_;refine zz 19 ?_;refine S.cd rfl (fun h19=>?_) fun h19=>?_
 ·exact absurd zF zG
 refine zz 5 ?_;refine O.opE (.p rfl) (.makeP (T:=Rp.val) (.slice none 0 0) (m:=0) underlying114 elem24 zE ⟨rfl,rfl⟩ rfl rfl rfl rfl zE zE) ?_;rintro _ _ ⟨a42,c42,rfl,rfl⟩;refine zz 17 ?_;refine S.cd rfl (fun h46=>?_) fun h46=>?_
 ·exact absurd zF zG
 refine zz 16 ?_;refine S.cd rfl (fun h76=>?_) fun h76=>?_
 ·exact absurd zF zG
 refine zz 16 ?_;refine S.cd rfl (fun h126=>?_) fun h126=>?_
 ·exact absurd zF zG
 refine zz 16 ?_;refine S.cd rfl (fun h155=>?_) fun h155=>?_
 ·exact absurd zF zG
 refine zz 5 ?_;exact S.rt results178 rfl hR ⟨rfl,rfl⟩
theorem flatFrames_0 {r:Fr}:Con prog 179 #[.slice none 0 0] r [] (Ret fun v η=>v=.bool true∧η=[]):=by
 refine Con.o func179 fun g hg R hR=>?_;refine zz 19 ?_;refine S.cd rfl (fun h19=>?_) fun h19=>?_
 ·exact absurd zF zG
 refine zz 5 ?_;refine O.opE (.p rfl) (.makeP (T:=Rp.val) (.slice none 0 0) (m:=0) underlying115 elem288 zE ⟨rfl,rfl⟩ rfl rfl rfl rfl zE zE) ?_;rintro _ _ ⟨a42,c42,rfl,rfl⟩;refine zz 17 ?_;refine S.cd rfl (fun h46=>?_) fun h46=>?_
 ·exact absurd zF zG
 refine zz 16 ?_;refine S.cd rfl (fun h76=>?_) fun h76=>?_
 ·exact absurd zF zG
 refine zz 16 ?_;refine S.cd rfl (fun h126=>?_) fun h126=>?_
 ·exact absurd zF zG
 refine zz 16 ?_;refine S.cd rfl (fun h155=>?_) fun h155=>?_
 ·exact absurd zF zG
 refine zz 5 ?_;exact S.rt results179 rfl hR ⟨rfl,rfl⟩
theorem flatPackets_0 {r:Fr}:Con prog 180 #[.slice none 0 0] r [] (Ret fun v η=>v=.bool true∧η=[]):=by
 refine Con.o func180 fun g hg R hR=>?_;refine zz 19 ?_;refine S.cd rfl (fun h19=>?_) fun h19=>?_
 ·exact absurd zF zG
 refine zz 5 ?_;refine O.opE (.p rfl) (.makeP (T:=Rp.val) (.slice none 0 0) (m:=0) underlying116 elem294 zE ⟨rfl,rfl⟩ rfl rfl rfl rfl zE zE) ?_;rintro _ _ ⟨a42,c42,rfl,rfl⟩;refine zz 17 ?_;refine S.cd rfl (fun h46=>?_) fun h46=>?_
 ·exact absurd zF zG
 refine zz 16 ?_;refine S.cd rfl (fun h76=>?_) fun h76=>?_
 ·exact absurd zF zG
 refine zz 16 ?_;refine S.cd rfl (fun h126=>?_) fun h126=>?_
 ·exact absurd zF zG
 refine zz 16 ?_;refine S.cd rfl (fun h155=>?_) fun h155=>?_
 ·exact absurd zF zG
 refine zz 5 ?_;exact S.rt results180 rfl hR ⟨rfl,rfl⟩
theorem flatEntries_0 {r:Fr}:Con prog 181 #[.slice none 0 0] r [] (Ret fun v η=>v=.bool true∧η=[]):=by
 refine Con.o func181 fun g hg R hR=>?_;refine zz 19 ?_;refine S.cd rfl (fun h19=>?_) fun h19=>?_
 ·exact absurd zF zG
 refine zz 5 ?_;refine O.opE (.p rfl) (.makeP (T:=Rp.val) (.slice none 0 0) (m:=0) underlying117 elem299 zE ⟨rfl,rfl⟩ rfl rfl rfl rfl zE zE) ?_;rintro _ _ ⟨a42,c42,rfl,rfl⟩;refine zz 17 ?_;refine S.cd rfl (fun h46=>?_) fun h46=>?_
 ·exact absurd zF zG
 refine zz 16 ?_;refine S.cd rfl (fun h76=>?_) fun h76=>?_
 ·exact absurd zF zG
 refine zz 16 ?_;refine S.cd rfl (fun h126=>?_) fun h126=>?_
 ·exact absurd zF zG
 refine zz 16 ?_;refine S.cd rfl (fun h155=>?_) fun h155=>?_
 ·exact absurd zF zG
 refine zz 5 ?_;exact S.rt results181 rfl hR ⟨rfl,rfl⟩
theorem flatHeldRow_0 {r:Fr}:Con prog 182 #[.slice none 0 0] r [] (Ret fun v η=>v=.bool true∧η=[]):=by
 refine Con.o func182 fun g hg R hR=>?_;refine zz 19 ?_;refine S.cd rfl (fun h19=>?_) fun h19=>?_
 ·exact absurd zF zG
 refine zz 5 ?_;refine O.opE (.p rfl) (.makeP (T:=Rp.val) (.slice none 0 0) (m:=0) underlying46 elem45 zE ⟨rfl,rfl⟩ rfl rfl rfl rfl zE zE) ?_;rintro _ _ ⟨a42,c42,rfl,rfl⟩;refine zz 17 ?_;refine S.cd rfl (fun h46=>?_) fun h46=>?_
 ·exact absurd zF zG
 refine zz 16 ?_;refine S.cd rfl (fun h76=>?_) fun h76=>?_
 ·exact absurd zF zG
 refine zz 16 ?_;refine S.cd rfl (fun h126=>?_) fun h126=>?_
 ·exact absurd zF zG
 refine zz 16 ?_;refine S.cd rfl (fun h155=>?_) fun h155=>?_
 ·exact absurd zF zG
 refine zz 5 ?_;exact S.rt results182 rfl hR ⟨rfl,rfl⟩
theorem flatConfigs_0 {r:Fr}:Con prog 183 #[.slice none 0 0] r [] (Ret fun v η=>v=.bool true∧η=[]):=by
 refine Con.o func183 fun g hg R hR=>?_;refine zz 19 ?_;refine S.cd rfl (fun h19=>?_) fun h19=>?_
 ·exact absurd zF zG
 refine zz 5 ?_;refine O.opE (.p rfl) (.makeP (T:=Rp.val) (.slice none 0 0) (m:=0) underlying118 elem306 zE ⟨rfl,rfl⟩ rfl rfl rfl rfl zE zE) ?_;rintro _ _ ⟨a42,c42,rfl,rfl⟩;refine zz 17 ?_;refine S.cd rfl (fun h46=>?_) fun h46=>?_
 ·exact absurd zF zG
 refine zz 16 ?_;refine S.cd rfl (fun h76=>?_) fun h76=>?_
 ·exact absurd zF zG
 refine zz 16 ?_;refine S.cd rfl (fun h126=>?_) fun h126=>?_
 ·exact absurd zF zG
 refine zz 16 ?_;refine S.cd rfl (fun h155=>?_) fun h155=>?_
 ·exact absurd zF zG
 refine zz 5 ?_;exact S.rt results183 rfl hR ⟨rfl,rfl⟩
theorem flatSteps_0 {r:Fr}:Con prog 184 #[.slice none 0 0] r [] (Ret fun v η=>v=.bool true∧η=[]):=by
 refine Con.o func184 fun g hg R hR=>?_;refine zz 19 ?_;refine S.cd rfl (fun h19=>?_) fun h19=>?_
 ·exact absurd zF zG
 refine zz 5 ?_;refine O.opE (.p rfl) (.makeP (T:=Rp.val) (.slice none 0 0) (m:=0) underlying119 elem311 zE ⟨rfl,rfl⟩ rfl rfl rfl rfl zE zE) ?_;rintro _ _ ⟨a42,c42,rfl,rfl⟩;refine zz 17 ?_;refine S.cd rfl (fun h46=>?_) fun h46=>?_
 ·exact absurd zF zG
 refine zz 16 ?_;refine S.cd rfl (fun h76=>?_) fun h76=>?_
 ·exact absurd zF zG
 refine zz 16 ?_;refine S.cd rfl (fun h126=>?_) fun h126=>?_
 ·exact absurd zF zG
 refine zz 16 ?_;refine S.cd rfl (fun h155=>?_) fun h155=>?_
 ·exact absurd zF zG
 refine zz 5 ?_;exact S.rt results184 rfl hR ⟨rfl,rfl⟩
theorem flatTales_0 {r:Fr}:Con prog 185 #[.slice none 0 0] r [] (Ret fun v η=>v=.bool true∧η=[]):=by
 refine Con.o func185 fun g hg R hR=>?_;refine zz 19 ?_;refine S.cd rfl (fun h19=>?_) fun h19=>?_
 ·exact absurd zF zG
 refine zz 5 ?_;refine O.opE (.p rfl) (.makeP (T:=Rp.val) (.slice none 0 0) (m:=0) underlying120 elem317 zE ⟨rfl,rfl⟩ rfl rfl rfl rfl zE zE) ?_;rintro _ _ ⟨a42,c42,rfl,rfl⟩;refine zz 17 ?_;refine S.cd rfl (fun h46=>?_) fun h46=>?_
 ·exact absurd zF zG
 refine zz 16 ?_;refine S.cd rfl (fun h76=>?_) fun h76=>?_
 ·exact absurd zF zG
 refine zz 16 ?_;refine S.cd rfl (fun h126=>?_) fun h126=>?_
 ·exact absurd zF zG
 refine zz 16 ?_;refine S.cd rfl (fun h155=>?_) fun h155=>?_
 ·exact absurd zF zG
 refine zz 5 ?_;exact S.rt results185 rfl hR ⟨rfl,rfl⟩
end Go.Proofs.YtodhbhanmdfdeaaGreat
