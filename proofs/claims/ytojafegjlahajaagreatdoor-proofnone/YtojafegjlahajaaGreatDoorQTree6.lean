/- Texts of this proof. -/
import Derived.Test.YtojafegjlahajaaGreatDoorQSpJoin3
import Derived.Test.YtojafegjlahajaaGreatDoorQTree2
open Go Go.Sp Go.Proofs.Tryz
set_option maxRecDepth 100000
set_option maxHeartbeats 1000000
attribute [local irreducible] obj Own OwnP
namespace Go.Proofs.YtojafegjlahajaaGreatDoor
def jGet (l:List RecT):Option (List RecT):=if oneK l=true then some (joinL l) else none
theorem zip_it {h:Fr}:∀ {css:List (List Value)} {xs:List RecT},All2 (ItRp.rel h) css xs→∃ ps:List ItP,ps.map (·.1)=css∧ps.map (·.2)=xs∧∀ q∈ps,ItRp.rel h q.1 q.2
 |[],[],_=>⟨[],rfl,rfl,fun _ h=>by cases h⟩
 |c::css,x::xs,⟨h1,h2⟩=>by
  obtain ⟨ps,e1,e2,e3⟩:=zip_it h2;exact ⟨(c,x)::ps,by rw [← e1];rfl,by rw [← e2];rfl,fun q hq=>by
   rcases List.mem_cons.1 hq with rfl|hq
   ·exact h1
   ·exact e3 q hq⟩
theorem recGet_self {x:RecT} (h:recOk x=true):recGet (recB x)=some x:=recGet_iff.2 ⟨h,rfl⟩
theorem sown_c {r:Fr} {b:Nat} {xs:List RecT} (hrow:RowA r b xs) (ho:∀ x∈xs,recOk x=true) (hl:xs.length≤100000000000) :
  Con prog 242 #[.pointer (some ⟨b,0,none⟩)] r [] (Ret fun v η=>∃ a c,v=.slice a xs.length c∧η=[ListP (RecG tys) 102 (.slice a xs.length c) xs]):=by
 obtain ⟨qa,qc,hqat,hqar⟩:=hrow;refine Con.of (n:=32) _ rfl func242 rfl rfl rfl fun g hg R hR=>?_;have hqat:=hqat.mono hg;have hqar:=hqar.mono hg;refine S.seq<|S.region rfl<|O.q 1 rfl<|O.nil<|S.seq<|S.region rfl<|O.q 1 rfl<|O.nil<|S.seq<|S.seq<|S.listNil (RecG tys) 102 ?_;refine S.region rfl<|O.q 1 rfl<|O.op (.p rfl) (.nilCheck rfl)<|O.op (.p rfl) (.fieldAddr fld218x0 rfl)<|O.op (.p rfl) (.loadAt flat216 rfl hqat rfl) ?_;refine O.op (.p rfl) (.len rfl underlying216 rfl)<|O.q 1 rfl<|O.nil<|S.block<|S.loopK2 (ι:=Nat) (κ:=Option Addr × Nat) (fun i s=>i≤xs.length) (fun i s=>[(13,.int .i64 (i:Int)),(3,.slice s.1 (xs.take i).length s.2)]) [(11,_),(12,_)] (fun i s=>[ListP (RecG tys) 102 (.slice s.1 (xs.take i).length s.2) (xs.take i)]) (fun i s=>xs.length - i) (0) ((none,0)) zL (.cons rfl (.cons rfl (.nil))) (.cons rfl (.cons rfl (.nil))) rfl fun i s hx ih=>?_;have hm1:=meltRefl (g:=g);refine S.seq<|S.region rfl<|O.op (.p rfl) (.lss rfl rfl)<|O.nil (S.seq ?_)
 first|refine S.condD rfl (fun h14=>?_) (fun h14=>?_)|refine S.condB rfl (fun h14=>?_) (fun h14=>?_)
 ·have hi:i<xs.length:=by omega
  have hok:=ho _ (List.getElem_mem hi);have hbl:=recB_le hok;have hti:(xs.take i).length=i:=by simp;omega
  refine S.skip<|S.seq<|S.block<|S.seq<|S.region rfl<|O.ia (.p rfl) underlying216 size220 rfl rfl rfl (by first|assumption|exact Arr.mono hg zE|exact Arr.left zE|exact Arr.left (Arr.mono hg zE)) (h:=fun p15 cs15 hp15 hr15=>?_);obtain ⟨ia3_15,ia5_15,ia6_15,ia7_15,ic3_15,ic5_15,ic6_15,ic7_15,rfl,hr1_15,ha7_15⟩:=ItRp.sh hr15;refine O.op (.p rfl) (.loadAgg isAgg220 zD rfl hp15) ?_;refine O.opE (.p rfl) (.alloc (cs:=[.string ⟨#[]⟩,.int .i64 0,.int .i64 0,.slice none 0 0,.bool false,.slice none 0 0,.slice none 0 0,.slice none 0 0]) zeroValue220 rfl) ?_;rintro _ _ ⟨b5,rfl,rfl⟩;refine O.opU rfl (.storeObj zD rfl rfl rfl rfl zB zH) ?_;refine O.nil<|S.seq<|S.objIs (b:=b5) (cs' :=[.string (str xs[i].1),.int .i64 xs[i].2.1,.int .i64 xs[i].2.2.1,.slice ia3_15 xs[i].2.2.2.1.length ic3_15,.bool xs[i].2.2.2.2.1,.slice ia5_15 xs[i].2.2.2.2.2.1.length ic5_15,.slice ia6_15 xs[i].2.2.2.2.2.2.1.length ic6_15,.slice ia7_15 (recB xs[i]).length ic7_15]) zB rfl ?_;refine S.frzO zB fun g hs hm hb5=>?_;replace hg:=Fr.sub_trans hg hs;replace hR:=melted hR hm
  try replace hqat:=hqat.mono hs
  try replace hqar:=hqar.mono hs
  try replace hp15:=hp15.mono hs
  try replace ha7_15:=ha7_15.mono hs
  try replace hr15:=hr15.mono hs
  try replace hr1_15:=hr1_15.mono hs
  replace hm1:=meltTrans hm1 hm;clear hs hm;refine S.region rfl<|O.op (.p rfl) (.fieldAddr fld220x1 rfl)<|O.op (.p rfl) (.loadAt flat24 rfl (hb5.drop 7) rfl) ?_;refine O.call0 (.p rfl) rfl zD rfl rfl ((rGetY_c (recGet_self hok) ha7_15 zC)) ?_;rintro _ _ ⟨a3,c3,a5,c5,a6,c6,rfl,rfl⟩
  try simp only [zx1,zx2,zx3]
  refine O.q 3 rfl<|O.opE (.p rfl) (.alloc (cs:=[.string ⟨#[]⟩,.int .i64 0,.int .i64 0,.slice none 0 0,.bool false,.slice none 0 0,.slice none 0 0]) zeroValue102 rfl) ?_;rintro _ _ ⟨b6,rfl,rfl⟩;refine O.opU rfl (.storeObj zD rfl rfl rfl rfl zB zH) ?_;refine O.q 1 rfl<|O.nil<|S.seq<|S.region rfl<|O.q 1 rfl<|O.op (.p rfl) (.eql rfl rfl)<|O.sT 24 rfl zF ?_;refine O.callP0 (.p rfl) rfl zD rfl rfl (smust_c _) (fun ch η' w hX hW=>by (exact absurd hX.1 zL)) ?_;rintro _ _ ⟨hb25,rfl,rfl⟩
  try simp only [zx1,zx2,zx3]
  refine O.nil<|S.listOpen (k' :=7) rfl zB fun css hcl=>?_;rw [← hcl];refine S.region rfl<|O.q 1 rfl<|O.op (.p rfl) (.loA (news:=[_,_,_,_,_,_,_]) isAgg102) ?_;refine O.opE (.p rfl) (.litP (T:=(Rp.cells 7)) (ys:=[_]) underlying22 elem102 zF rfl rfl ⟨⟨rfl,rfl,by first|(simp;done)|(intro v hv;simp [Value.cells] at hv;rcases hv with rfl|rfl<;>rfl)|(refine List.forall_mem_cons.2 ⟨rfl,?_⟩;repeat (first|exact (fun _ h=>absurd h List.not_mem_nil)|refine List.forall_mem_cons.2 ⟨rfl,?_⟩))⟩,trivial⟩ zF) ?_;rintro _ _ ⟨a28,c28,rfl,rfl⟩;refine O.opE (.p rfl) (.appendO (T:=(Rp.cells 7)) underlying22 elem102 zF rfl rfl zB zB zI zI) ?_;rintro _ _ ⟨a29,c29,rfl,rfl⟩;refine O.q 1 rfl<|O.nil<|S.inBlock<|S.region rfl<|O.op (.p rfl) (.add rfl rfl (IntWalk.i64_in _ zC))<|O.q 1 rfl<|O.nil<|S.foldS (A:=(RecG tys).own (recV xs[i] (.slice a3 xs[i].2.2.2.1.length c3) (.slice a5 xs[i].2.2.2.2.2.1.length c5) (.slice a6 xs[i].2.2.2.2.2.2.1.length c6)) xs[i]) (bs:=recWs xs[i] (.slice a3 xs[i].2.2.2.1.length c3) (.slice a5 xs[i].2.2.2.2.2.1.length c5) (.slice a6 xs[i].2.2.2.2.2.2.1.length c6)) zJ (fun m h=>recG_sat hok h) ?_;refine S.listPut (G:=RecG tys) (k' :=7) rfl zB zB zB ?_;rw [show xs.take i++[xs[i]]=xs.take (i+1) from (List.take_succ_eq_append_getElem hi).symm];simp only [List.length_singleton];rw [show css.length+1=(xs.take (i+1)).length from by rw [hcl];simp;omega]
  exact S.melt hm1 (S.pw (ih (i+1) ((a29,c29)) zC zC))
 ·clear ih
  have hi:i=xs.length:=by omega
  subst hi;rw [List.take_length];refine S.exit rfl<|S.seq<|S.region rfl<|O.q 2 rfl<|O.nil ?_;exact S.rt results242 rfl hR ⟨s.1,s.2,rfl,rfl⟩
theorem jGet_none {ss:List (List RecT)} {i:Nat} (h:oneK (ss.take i).flatten=false):jGet ss.flatten=none:=by
 have:oneK ss.flatten≠true:=fun q=>by
  rw [show oneK (ss.take i).flatten=true from oneK_of q fun x hx=>by
   obtain ⟨l,h1,h2⟩:=List.mem_flatten.1 hx;exact List.mem_flatten.2 ⟨l,List.mem_of_mem_take h1,h2⟩] at h
  cases h
 rw [jGet,if_neg this]
def JoinK (l:List RecT) (v:Value) (η:List SProp):Prop:=∃ o a c,jGet l=some o∧v=.slice a o.length c∧η=[ListP (RecG tys) 102 (.slice a o.length c) o]
theorem flat_take {ss:List (List RecT)} {i:Nat} (hi:i<ss.length):(ss.take (i+1)).flatten=(ss.take i).flatten++ss[i]:=by
 rw [List.take_succ_eq_append_getElem hi,List.flatten_append];simp
theorem flats_le {ss:List (List RecT)} (i:Nat):(ss.take i).flatten.length≤ss.flatten.length:=by
 have h:=congrArg (fun l=>(List.flatten l).length) (List.take_append_drop i ss);simp only [List.flatten_append,List.length_append] at h
 omega
theorem joinL_le (l:List RecT):(joinL l).length≤l.length:=by
 unfold joinL joinS compR;exact Nat.le_trans (List.length_filter_le ..) (Nat.le_trans (compF_sub ..) (Nat.le_of_eq (sortF_length ..)))
theorem sjoin1_c {r:Fr} {p:Nat} {va:Value} {ss:List (List RecT)} (hp:At r ⟨p,0,none⟩ [va]) (ha:Arr (Rp.slice RecRp) r va ss) (hl:ss.flatten.length≤100000000000) :
  Con prog 240 (#[]++#[]++#[.pointer (some ⟨p,0,none⟩)]) r [] (RetP (fun v η=>JoinK ss.flatten v η) (fun ch η=>∃ z,ch=errP 44 z∧(jGet ss.flatten=none∧z=4)∧η=[])):=by
 have har:=ha;refine Con.of (n:=25) [.pointer (some ⟨p,0,none⟩)] rfl func240 rfl rfl rfl fun g hg R hR=>?_;have hp:=hp.mono hg;have ha:=ha.mono hg;have hbd:=ha.bound;obtain ⟨a1,c1,rfl⟩:=ha.shape;refine S.seq<|S.region rfl<|O.q 1 rfl<|O.nil<|S.seq<|S.region rfl<|O.op (.p rfl) (.build (cs:=[_]) underlying306 rfl rfl rfl rfl rfl)<|O.opE (.p rfl) (.box (cs:=[_]) rfl rfl) ?_;rintro _ _ ⟨b6,rfl,rfl⟩;refine O.q 1 rfl<|O.nil<|S.seq<|S.seq<|S.conv (B:=obj b6 306 [.slice none 0 0]) (C:=RowP r 306 220 5 b6 (ss.take 0).flatten) zB (fun m x=>⟨m,Fr.sub_refl _,RowP.nil x⟩) ?_;refine S.region rfl<|O.op (.p rfl) (.loadAt flat169 rfl hp rfl) ?_;refine O.op (.p rfl) (.len rfl underlying169 rfl)<|O.q 1 rfl<|O.nil<|S.block<|S.loopK (ι:=Nat) (fun i=>i≤ss.length∧oneK (ss.take i).flatten=true) (fun i=>[(9,.int .i64 (i:Int))]) [(2,_),(7,_),(8,_)] (fun i=>[RowP r 306 220 5 b6 (ss.take i).flatten]) (fun i=>ss.length - i) (0) (by exact ⟨by simp,rfl⟩) (.cons rfl (.nil)) (.cons rfl (.cons rfl (.cons rfl (.nil)))) rfl fun i hx ih=>?_;have hm1:=meltRefl (g:=g);obtain ⟨hx1,hx2⟩:=hx;refine S.seq<|S.region rfl<|O.op (.p rfl) (.lss rfl rfl)<|O.nil (S.seq ?_)
 first|refine S.condD rfl (fun h10=>?_) (fun h10=>?_)|refine S.condB rfl (fun h10=>?_) (fun h10=>?_)
 ·have hi:i<ss.length:=by omega
  have hst:=flat_take hi;have hf1:=flats_le (ss:=ss) (i+1);have hf2:(ss.take i).flatten.length+ss[i].length≤100000000000:=by rw [hst,List.length_append] at hf1;omega
  refine S.skip<|S.seq<|S.block<|S.seq<|S.region rfl<|O.ib (.p rfl) underlying169 size22 rfl rfl rfl har hg (h:=fun p11 cs11 hp11 hrr11=>?_);have hr11:=Rp.rel.mono hrr11 hg;obtain ⟨v11,rfl,ha11⟩:=hrr11;refine O.op (.p rfl) (.loadAt flat22 rfl hp11 rfl) ?_;refine O.q 1 rfl<|O.nil<|S.region rfl<|O.q 1 rfl<|O.op (.p rfl) (.nilCheck rfl)<|O.op (.p rfl) (.fieldObj fld306x0 rfl)<|O.q 1 rfl<|O.callPS (.p rfl) rfl zD rfl rfl zB ((sadd_c ha11 hx2 hf2).sub hg) (fun ch η' w hX hW=>by (obtain ⟨hb,rfl,rfl⟩:=hX;exact hR _ _ w ⟨4,rfl,⟨jGet_none (i:=i+1) (by rw [hst];exact hb),rfl⟩,rfl⟩ hW.drop_all)) ?_;rintro _ _ ⟨hone,rfl,rfl⟩
  try simp only [zx1,zx2,zx3]
  refine O.nil (S.inBlock ?_);rw [← hst] at hone ⊢;refine S.region rfl<|O.op (.p rfl) (.add rfl rfl (IntWalk.i64_in _ zC))<|O.q 1 rfl<|O.nil ?_;exact S.wk (ih (i+1) (by exact ⟨by omega,hone⟩) zC)
 ·clear ih
  have hi:i=ss.length:=by omega
  subst hi;rw [List.take_length] at hx2 ⊢;generalize hxs:ss.flatten=xs at hx2 hl ⊢;have hok:=oneK_all hx2;have hyes:jGet xs=some (joinL xs):=by rw [jGet,if_pos hx2]
  refine S.open (A:=RowP r 306 220 5 b6 xs) zB (fun m x=>x) fun q=>?_;simp only [List.cons_append,List.nil_append];refine S.frz (A:=EachP (ItO r 5) q.2 xs) zB fun g hs hm ⟨_,x',s'⟩=>?_;have hea:=(fun s x=>EachP.all2 (A:=ItO r 5) (fun cs a m' z w=>ItO.rel (Fr.sub_trans hg hs) w z) x s) s' x';clear x' s';replace hg:=Fr.sub_trans hg hs;replace hR:=melted hR hm
  try replace hp:=hp.mono hs
  try replace ha:=ha.mono hs
  replace hm1:=meltTrans hm1 hm;clear hs hm;obtain ⟨ps,hp1,hp2,hps⟩:=zip_it hea;have hpl:xs.length=ps.length:=by rw [← hp2,List.length_map]
  rw [← hp1,hpl];have hpo:∀ p∈ps,recOk p.2=true:=fun p hp=>hok _ (by rw [← hp2];exact List.mem_map.2 ⟨p,hp,rfl⟩);refine S.exit rfl<|S.seq<|S.region rfl<|O.q 1 rfl<|O.callSs (.p rfl) rfl zD rfl rfl zJ (ujoin_c hps hpo zC) ?_;rintro v20 _ ⟨qs,a20,c20,rfl,hq20,hr20,rfl⟩
  try simp only [zx1,zx2,zx3]
  refine O.nil (S.seq ?_);have hjm:qs.map (·.2)=joinL xs:=by rw [hq20,hp2]
  have hjo:∀ x∈joinL xs,recOk x=true:=fun x hx=>hok x (joinL_sub hok x hx);have hjl:qs.length=(joinL xs).length:=by rw [← hjm,List.length_map]
  have hjb:(joinL xs).length≤100000000000:=Nat.le_trans (joinL_le xs) hl;refine S.frz (A:=OwnP (Rp.cells 8) 220 (.slice a20 qs.length c20) (qs.map (·.1))) zB fun g hs hm ⟨_,x',s'⟩=>?_;have hqi:=(fun s x=>Arr.ofCells (T:=ItRp) ((OwnP.arr x).mono s) (it_all2 fun p hp=>Rp.mono ItRp hs (hr20 p hp)) rfl) s' x';clear x' s';replace hg:=Fr.sub_trans hg hs;replace hR:=melted hR hm
  try replace hp:=hp.mono hs
  try replace ha:=ha.mono hs
  try replace hea:=hea.mono hs
  replace hm1:=meltTrans hm1 hm;clear hs hm;refine S.frzO zB fun g hs hm hbo=>?_;replace hg:=Fr.sub_trans hg hs;replace hR:=melted hR hm
  try replace hp:=hp.mono hs
  try replace ha:=ha.mono hs
  try replace hea:=hea.mono hs
  try replace hqi:=hqi.mono hs
  try replace hqi:=hqi.mono hs
  replace hm1:=meltTrans hm1 hm;clear hs hm;have hrow:RowA g.h b6 (joinL xs):=⟨a20,c20,by rw [← hjl];exact hbo,by rw [← hjl,← hjm];exact hqi⟩;refine S.region rfl<|O.q 1 rfl<|O.op (.p rfl) (.nilCheck rfl)<|O.op (.p rfl) (.fieldObj fld306x0 rfl)<|O.call0 (.p rfl) rfl zD rfl rfl ((sown_c hrow hjo hjb)) ?_;rintro _ _ ⟨a24,c24,rfl,rfl⟩
  try simp only [zx1,zx2,zx3]
  refine O.q 1 rfl<|O.nil ?_;exact S.rt results240 rfl hR ⟨joinL xs,a24,c24,by rw [hxs];exact hyes,rfl,rfl⟩
def join_t (l:List RecT) (v:Value) (η:List SProp):Prop:=(∃ u,JoinK l u η∧v=.tuple #[u,.int .i64 0])∨(jGet l=none∧v=.tuple #[.slice none 0 0,.int .i64 4]∧η=[])
theorem sTriedJ_c {r:Fr} {first cap:Array Value} {l:List RecT} (con:Con prog 240 (first++#[]++cap) r [] (RetP (fun v η=>JoinK l v η) (fun ch η=>∃ z,ch=errP 44 z∧(jGet l=none∧z=4)∧η=[]))) (h1:(Value.func (.func 240) first cap).oneCell' =true:=by rfl) :
  Con prog 239 #[.func (.func 240) first cap] r [] (Ret fun v η=>join_t l v η) :=
 (triedSS_c zD h1 (fun _ _ h=>by obtain ⟨l,a,c,_,rfl,_⟩:=h;rfl) con).mono (Ret.imp fun v η h=>by
  rcases h with ⟨u,h2,h3⟩|⟨z,⟨h2,rfl⟩,h3,h4⟩
  ·exact .inl ⟨u,h2,h3⟩
  ·exact .inr ⟨h2,h4,h3⟩)
theorem join_tY {l o:List RecT} {v:Value} {η:List SProp} (e:jGet l=some o) (h:join_t l v η):∃ a c,v=.tuple #[.slice a o.length c,.int .i64 0]∧η=[ListP (RecG tys) 102 (.slice a o.length c) o]:=by
 rcases h with ⟨_,⟨y,a,c,h1,rfl,rfl⟩,rfl⟩|⟨h1,_⟩
 ·rw [e] at h1;obtain rfl:=Option.some.inj h1;exact ⟨a,c,rfl,rfl⟩
 ·rw [e] at h1;cases h1
theorem join_tN {l:List RecT} {v:Value} {η:List SProp} (e:jGet l=none) (h:join_t l v η):v=.tuple #[.slice none 0 0,.int .i64 4]∧η=[]:=by
 rcases h with ⟨_,⟨y,a,c,h1,_⟩,_⟩|⟨_,h1,h2⟩
 ·rw [e] at h1;cases h1
 ·exact ⟨h1,h2⟩
def joinO (l:List RecT):List RecT:=(jGet l).getD []
def joinE (l:List RecT):Int:=if (jGet l).isSome then 0 else 4
theorem sJoin_c {r:Fr} {va:Value} {ss:List (List RecT)} (ha:Arr (Rp.slice RecRp) r va ss) (hl:ss.flatten.length≤100000000000):Con prog 161 #[va] r [] (Ret fun v η=>∃ a c,v=.tuple #[.slice a (joinO ss.flatten).length c,.int .i64 (joinE ss.flatten)]∧η=[ListP (RecG tys) 102 (.slice a (joinO ss.flatten).length c) (joinO ss.flatten)]):=by
 refine Con.of (n:=8) _ rfl func161 rfl rfl rfl fun g hg R hR=>?_;have ha:=ha.mono hg;obtain ⟨a1,c1,rfl⟩:=ha.shape
 cases e:jGet ss.flatten with
 |some x =>
  have e1:joinO ss.flatten=x:=by simp [joinO,e]
  have e2:joinE ss.flatten=0:=by simp [joinE,e]
  rw [e1,e2] at hR;refine S.seq<|S.region rfl<|O.opE (.p rfl) (.box (cs:=[_]) rfl rfl) ?_;rintro _ _ ⟨b1,rfl,rfl⟩;refine O.frzO zB fun g hs hm hb1=>?_;replace hg:=Fr.sub_trans hg hs;replace hR:=melted hR hm
  try replace ha:=ha.mono hs
  clear hs hm;refine O.q 2 rfl<|O.nil<|S.seq<|S.region rfl<|O.op (.p rfl) (.mkFunc rfl rfl)<|O.call0 (.p rfl) rfl zD rfl rfl (((sTriedJ_c (sjoin1_c hb1 ha hl)).mono (Ret.imp fun _ _ h=>join_tY e h))) ?_;rintro _ _ ⟨a5,c5,rfl,rfl⟩
  try simp only [zx1,zx2,zx3]
  refine O.q 4 rfl<|O.nil<|S.ret2 results161 rfl rfl fun w hw=>Holds.end_ hR hw ?_;exact pk ⟨a5,c5,rfl,rfl⟩
 |none =>
  have e1:joinO ss.flatten=[]:=by simp [joinO,e]
  have e2:joinE ss.flatten=4:=by simp [joinE,e]
  rw [e1,e2] at hR;refine S.seq<|S.region rfl<|O.opE (.p rfl) (.box (cs:=[_]) rfl rfl) ?_;rintro _ _ ⟨b1,rfl,rfl⟩;refine O.frzO zB fun g hs hm hb1=>?_;replace hg:=Fr.sub_trans hg hs;replace hR:=melted hR hm
  try replace ha:=ha.mono hs
  clear hs hm;refine O.q 2 rfl<|O.nil<|S.seq<|S.region rfl<|O.op (.p rfl) (.mkFunc rfl rfl)<|O.call0 (.p rfl) rfl zD rfl rfl (((sTriedJ_c (sjoin1_c hb1 ha hl)).mono (Ret.imp fun _ _ h=>join_tN e h))) ?_;rintro _ _ ⟨rfl,rfl⟩
  try simp only [zx1,zx2,zx3]
  refine O.q 4 rfl<|O.nil<|S.listNil (RecG tys) 102 ?_;refine S.ret2 results161 rfl rfl fun w hw=>Holds.end_ hR hw ?_;exact pk ⟨none,0,rfl,rfl⟩
theorem joinL_me {a:List RecT} (h:SRight a):joinL a=a:=(joinL_congr (oneK_all h.1) fun x=>by simp).trans (joinL_self h)
theorem joinO_me {a:List RecT} (h:SRight a):joinO [a].flatten=a:=by
 have:[a].flatten=a:=by simp
 rw [this,joinO,jGet,if_pos h.1,joinL_me h];rfl
theorem own_c {r:Fr} {va:Value} {xs:List RecT} (ha:Arr RecRp r va xs) (h:SRight xs) (hl:xs.length≤100000000000) :
  Con prog 92 #[va] r [] (Ret fun v η=>∃ a c,v=.slice a xs.length c∧η=[ListP (RecG tys) 102 (.slice a xs.length c) xs]):=by
 obtain ⟨a1,c1,rfl⟩:=ha.shape;refine Con.of (n:=10) _ rfl func92 rfl rfl rfl fun g hg R hR=>?_;have ha:=ha.mono hg;have e:=joinO_me h;refine S.seq<|S.region rfl<|O.q 1 rfl<|O.nil<|S.seq<|S.region rfl<|O.q 1 rfl<|O.opE (.p rfl) (.litP (T:=Rp.cells 1) (ys:=[[.slice a1 xs.length c1]]) underlying169 elem22 zF rfl rfl ⟨⟨rfl,rfl,by first|(simp;done)|(intro v hv;simp [Value.cells] at hv;rcases hv with rfl|rfl<;>rfl)|(refine List.forall_mem_cons.2 ⟨rfl,?_⟩;repeat (first|exact (fun _ h=>absurd h List.not_mem_nil)|refine List.forall_mem_cons.2 ⟨rfl,?_⟩))⟩,trivial⟩ zF) ?_;rintro _ _ ⟨a5,c5,rfl,rfl⟩;refine O.frzA zB fun g hs hm ha5=>?_;replace hg:=Fr.sub_trans hg hs;replace hR:=melted hR hm
 try replace ha:=ha.mono hs
 clear hs hm;refine O.call0 (.p rfl) rfl zD rfl rfl ((sJoin_c (ss:=[xs]) (Arr.ofCells ha5 ⟨⟨_,rfl,ha⟩,trivial⟩ rfl) zK)) ?_;rintro _ _ ⟨a6,c6,rfl,rfl⟩
 try simp only [zx1,zx2,zx3]
 rw [e];refine O.q 4 rfl<|O.nil<|S.seq<|S.region rfl<|O.q 2 rfl<|O.nil ?_;exact S.rt results92 rfl hR ⟨a6,c6,rfl,rfl⟩
theorem topSum_c {r:Fr} {va:Value} {n:List UInt8} {z:Int} (ha:Arr Rp.u8 r va n) (hz:InI64 z) (hH:At r ⟨0,0,none⟩ (w64s shaH)) (hK:At r ⟨1,0,none⟩ (w64s shaK)) (hl:n.length≤1000000000000) :
  Con prog 24 #[.int .i64 z,va] r [] (Ret fun v η=>∃ a c,v=.slice a (topP z n).length c∧η=[OwnP Rp.u8 5 (.slice a (topP z n).length c) (topP z n)]):=by
 obtain ⟨a1,c1,rfl⟩:=ha.shape;refine Con.of (n:=22) _ rfl func24 rfl rfl rfl fun g hg R hR=>?_;have ha:=ha.mono hg;have hH:=hH.mono hg;have hK:=hK.mono hg
 by_cases h1:0≤z∧z<4
 ·by_cases h2:n.length=64
  ·have e:topP z n=shaSum (4::Sp.byteOf z::n):=by unfold topP;rw [if_pos ⟨h1.1,h1.2,h2⟩]
   have e2:(topP z n).length=64:=by rw [e,shaSum_len]
   refine S.seq<|S.region rfl<|O.q 1 rfl<|O.nil<|S.seq<|S.seq<|S.region rfl<|O.q 1 rfl<|O.op (.p rfl) (.lss rfl rfl)<|O.sF 6 rfl (by exact decide_eq_false zC) ?_;refine O.q 2 rfl<|O.op (.g rfl rfl) (.geq rfl rfl)<|O.sF 9 rfl (by exact decide_eq_false zC) ?_;refine O.q 3 rfl<|O.op (.g rfl rfl) (.len rfl underlying24 rfl)<|O.op (.g rfl rfl) (.neq rfl rfl)<|O.sF 14 rfl (by exact decide_eq_false zC) ?_;refine O.q 1 rfl<|O.nil<|S.condF rfl<|S.skip<|S.seq<|S.region rfl<|O.q 1 rfl<|O.op (.p rfl) (.cvt underlying3 underlying5 rfl)<|O.slot 17 (v' :=byteV (Sp.byteOf z)) rfl (by exact wrapB z) ?_;refine O.opE (.p rfl) (.litP (T:=Rp.u8) (ys:=[4,Sp.byteOf z]) underlying24 elem5 zF rfl rfl ⟨rfl,rfl,trivial⟩ zF) ?_;rintro _ _ ⟨a18,c18,rfl,rfl⟩;refine O.frzA zB fun g hs hm ha18=>?_;replace hg:=Fr.sub_trans hg hs;replace hR:=melted hR hm
   try replace ha:=ha.mono hs
   try replace hH:=hH.mono hs
   try replace hK:=hK.mono hs
   clear hs hm;refine O.q 1 rfl<|O.opE (.p rfl) (.litP (T:=Rp.cells 1) (ys:=[[.slice a18 2 c18],[.slice a1 n.length c1]]) underlying109 elem24 zF rfl rfl ⟨⟨rfl,rfl,by first|(simp;done)|(intro v hv;simp [Value.cells] at hv;rcases hv with rfl|rfl<;>rfl)|(refine List.forall_mem_cons.2 ⟨rfl,?_⟩;repeat (first|exact (fun _ h=>absurd h List.not_mem_nil)|refine List.forall_mem_cons.2 ⟨rfl,?_⟩))⟩,⟨rfl,rfl,by first|(simp;done)|(intro v hv;simp [Value.cells] at hv;rcases hv with rfl|rfl<;>rfl)|(refine List.forall_mem_cons.2 ⟨rfl,?_⟩;repeat (first|exact (fun _ h=>absurd h List.not_mem_nil)|refine List.forall_mem_cons.2 ⟨rfl,?_⟩))⟩,trivial⟩ zF) ?_;rintro _ _ ⟨a20,c20,rfl,rfl⟩;refine O.frzA zB fun g hs hm ha20=>?_;replace hg:=Fr.sub_trans hg hs;replace hR:=melted hR hm
   try replace ha:=ha.mono hs
   try replace hH:=hH.mono hs
   try replace hK:=hK.mono hs
   try replace ha18:=ha18.mono hs
   clear hs hm;refine O.call0 (.p rfl) rfl zD rfl rfl ((shaSum_c (ps:=[[4,Sp.byteOf z],n]) (Arr.ofCells ha20 ⟨⟨_,rfl,ha18⟩,⟨_,rfl,ha⟩,trivial⟩ rfl) hH hK zK)) ?_;rintro _ _ ⟨a21,c21,rfl,rfl⟩
   try simp only [zx1,zx2,zx3]
   refine O.q 1 rfl<|O.nil<|S.ownIs (T:=Rp.u8) (e:=5) (v' :=.slice a21 (topP z n).length c21) (xs' :=topP z n) zB (by rw [e2]) (by rw [e];simp) ?_;exact S.rt results24 rfl hR ⟨a21,c21,by rw [e2],rfl⟩
  ·have e:topP z n=[]:=by unfold topP;rw [if_neg fun q=>h2 q.2.2]
   refine S.seq<|S.region rfl<|O.q 1 rfl<|O.nil<|S.seq<|S.seq<|S.region rfl<|O.q 1 rfl<|O.op (.p rfl) (.lss rfl rfl)<|O.sF 6 rfl (by exact decide_eq_false zC) ?_;refine O.q 2 rfl<|O.op (.g rfl rfl) (.geq rfl rfl)<|O.sF 9 rfl (by exact decide_eq_false zC) ?_;refine O.q 3 rfl<|O.op (.g rfl rfl) (.len rfl underlying24 rfl)<|O.op (.g rfl rfl) (.neq rfl rfl)<|O.sT 14 rfl (by exact decide_eq_true zC) ?_;refine O.q 1 rfl<|O.nil<|S.condT rfl<|S.seq<|S.region rfl<|O.q 1 rfl<|O.nil<|S.addNil (T:=Rp.u8) (e:=5) ?_;refine S.ownIs (T:=Rp.u8) (e:=5) (v' :=.slice none (topP z n).length 0) (xs' :=topP z n) zB (by rw [e];rfl) e.symm ?_;exact S.rt results24 rfl hR ⟨none,0,by rw [e];rfl,rfl⟩
 ·have e:topP z n=[]:=by unfold topP;rw [if_neg fun q=>h1 ⟨q.1,q.2.1⟩]
  by_cases h3:z<0
  ·
   refine S.seq<|S.region rfl<|O.q 1 rfl<|O.nil<|S.seq<|S.seq<|S.region rfl<|O.q 1 rfl<|O.op (.p rfl) (.lss rfl rfl)<|O.sT 6 rfl (by exact decide_eq_true h3) ?_;refine O.q 9 rfl<|O.nil<|S.condT rfl<|S.seq<|S.region rfl<|O.q 1 rfl<|O.nil<|S.addNil (T:=Rp.u8) (e:=5) ?_;refine S.ownIs (T:=Rp.u8) (e:=5) (v' :=.slice none (topP z n).length 0) (xs' :=topP z n) zB (by rw [e];rfl) e.symm ?_;exact S.rt results24 rfl hR ⟨none,0,by rw [e];rfl,rfl⟩
  ·
   refine S.seq<|S.region rfl<|O.q 1 rfl<|O.nil<|S.seq<|S.seq<|S.region rfl<|O.q 1 rfl<|O.op (.p rfl) (.lss rfl rfl)<|O.sF 6 rfl (by exact decide_eq_false h3) ?_;refine O.q 2 rfl<|O.op (.g rfl rfl) (.geq rfl rfl)<|O.sT 9 rfl (by exact decide_eq_true zC) ?_;refine O.q 6 rfl<|O.nil<|S.condT rfl<|S.seq<|S.region rfl<|O.q 1 rfl<|O.nil<|S.addNil (T:=Rp.u8) (e:=5) ?_;refine S.ownIs (T:=Rp.u8) (e:=5) (v' :=.slice none (topP z n).length 0) (xs' :=topP z n) zB (by rw [e];rfl) e.symm ?_;exact S.rt results24 rfl hR ⟨none,0,by rw [e];rfl,rfl⟩
theorem new_yes {r:Fr} {s:Nat} (hs:s<4):Con prog 29 #[.int .i64 (s:Int)] r [] (Ret fun v η=>∃ b,v=.pointer (some ⟨b,0,none⟩)∧η=[TreeX tt Fr.emp b s []]):=by
 refine Con.of (n:=13) _ rfl func29 rfl rfl rfl fun g hg R hR=>?_;refine S.seq<|S.region rfl<|O.q 1 rfl<|O.nil<|S.seq<|S.seq<|S.region rfl<|O.q 1 rfl<|O.op (.p rfl) (.lss rfl rfl)<|O.sF 4 rfl (by exact decide_eq_false zC) ?_;refine O.q 2 rfl<|O.op (.g rfl rfl) (.geq rfl rfl)<|O.sF 7 rfl (by exact decide_eq_false zC) ?_;refine O.q 1 rfl<|O.nil<|S.condF rfl<|S.skip<|S.seq<|S.region rfl<|O.q 1 rfl<|O.opE (.p rfl) (.makeMapK' (enc:=encS)) ?_;rintro _ _ ⟨b10,rfl,rfl⟩;refine O.op (.p rfl) (.build (cs:=[_,_,_,_]) underlying77 rfl rfl rfl rfl rfl)<|O.opE (.p rfl) (.box (cs:=[_,_,_,_]) rfl rfl) ?_;rintro _ _ ⟨b12,rfl,rfl⟩;refine O.q 1 rfl<|O.nil<|S.foldS (A:=TreeX tt Fr.emp b12 s []) (bs:=[obj b12 77 [.slice none 0 0,.slice none 0 0,.int .i64 (s:Int),.map (some b10)],MapK encS b10 [] 0]) zJ (fun m h=>tree_new h) ?_;exact S.rt results29 rfl hR ⟨b12,rfl,rfl⟩
attribute [local irreducible] treeNode treeSum
structure TreeH (r d:Fr) (s:Nat) (L:List LeafT):Prop where
 hd:d.sub r
 ok:TreeOk s L
 small:L.length≤10000000∧∀ y∈L,y.2.1.length≤10000000
 hH:At r ⟨0,0,none⟩ (w64s shaH)
 hK:At r ⟨1,0,none⟩ (w64s shaK)
theorem TreeH.mono {r r' d:Fr} {s:Nat} {L:List LeafT} (h:TreeH r d s L) (e:r.sub r'):TreeH r' d s L:=⟨Fr.sub_trans h.hd e,h.ok,h.small,h.hH.mono e,h.hK.mono e⟩
def NodeK (d:Fr) (b s:Nat) (L:List LeafT) (x:NodeT) (v:Value) (η:List SProp):Prop:=∃ a1 k1 a2 k2 a3 k3,v=.agg #[byteV x.1,.slice a1 x.2.1.length k1,.slice a2 x.2.2.1.length k2,.slice a3 x.2.2.2.1.length k3] ∧
 η=[TreeX tt d b s L,OwnP Rp.u8 5 (.slice a1 x.2.1.length k1) x.2.1,OwnP Rp.u8 5 (.slice a2 x.2.2.1.length k2) x.2.2.1,ListP (LeafG tys) 31 (.slice a3 x.2.2.2.1.length k3) x.2.2.2.1]
def NodeC (d:Fr) (s:Nat) (L:List LeafT) (n:Nat):Prop:=∀ ⦃r:Fr⦄ ⦃b:Nat⦄ ⦃p:List UInt8⦄ ⦃va:Value⦄ ⦃a:List Nat⦄,TreeH r d s L→p.length+n=510→pathOk p→Arr Rp.nat r va a→(∀ i∈a,i<L.length)→a.length≤10000000→atL L a=underL p L →
 Con prog 99 #[.pointer (some ⟨b,0,none⟩),.string (str p),va] r [TreeX tt d b s L] (Ret (NodeK d b s L (treeNode L p)))
def SumC (d:Fr) (s:Nat) (L:List LeafT) (n:Nat):Prop:=∀ ⦃r:Fr⦄ ⦃b:Nat⦄ ⦃p:List UInt8⦄ ⦃va:Value⦄ ⦃a:List Nat⦄,TreeH r d s L→p.length+n=510→pathOk p→Arr Rp.nat r va a→(∀ i∈a,i<L.length)→a.length≤10000000→atL L a=underL p L →
 Con prog 96 #[.pointer (some ⟨b,0,none⟩),.string (str p),va] r [TreeX tt d b s L] (Ret fun v η=>∃ a1 c1,v=.slice a1 64 c1∧η=[TreeV tt d b s L (.slice a1 64 c1) (treeSum L p)])
theorem node_rel {m:Fr} {k:UInt8} {v1 v2 v3:Value} {l r:List UInt8} {lv:List LeafT} (h:Sat [OwnP Rp.u8 5 v1 l,OwnP Rp.u8 5 v2 r,ListP (LeafG tys) 31 v3 lv] m):NodeRp.rel m [byteV k,v1,v2,v3] (k,l,r,lv,()):=by
 obtain ⟨m1,m2,_,s1,s2,o1,m3,m4,_,s3,s4,o2,m5,_,_,s5,_,o3,_⟩:=h;have t3:=Fr.sub_trans s3 s2;have t5:=Fr.sub_trans s5 (Fr.sub_trans s4 s2);exact NodeRp.mk (o1.arr.mono s1) (o2.arr.mono t3) ((ListP.arr o3).mono t5)
theorem sum_of {d:Fr} {s:Nat} {L:List LeafT} {n:Nat} (hn:NodeC d s L n):SumC d s L n:=by
 intro r b p va a hT hpn hp ha hat hal hau
 obtain ⟨a1,c1,rfl⟩:=ha.shape;have h64:=treeSum_len hT.ok p;refine Con.of (n:=33) _ rfl func96 rfl rfl rfl fun g hg R hR=>?_;have hT:=hT.mono hg;have ha:=ha.mono hg;refine S.open (bs:=TreeO.ws tt b s) zB (fun m x=>TreeX.opn x) fun x=>?_;simp only [TreeO.ws,List.cons_append,List.nil_append]
 cases e:getK x.M p with
 |some v =>
  obtain ⟨q,_,hv⟩:=(x.ok p v e).2;obtain ⟨a7,c7,hvs⟩:=hv.shape;rw [h64] at hvs;subst hvs;refine S.seq<|S.region rfl<|O.q 1 rfl<|O.nil<|S.seq<|S.region rfl<|O.q 1 rfl<|O.op (.p rfl) (.nilCheck rfl)<|O.op (.p rfl) (.fieldObj fld77x2 rfl)<|O.op (.p rfl) (.lo flat75) ?_;refine O.q 1 rfl<|O.op (.p rfl) (.lookupK underlying75 (keyOkS underlying9) zeroValue24 rfl rfl zB) ?_;refine O.slot 15 (v' :=.tuple #[.slice a7 64 c7,.bool true]) rfl (by rw [e];rfl) ?_;refine O.q 3 rfl<|O.sT 17 rfl zG ?_;refine O.q 2 rfl<|O.nil<|S.seq<|S.seq<|S.region rfl<|O.q 1 rfl<|O.op (.p rfl) (.not rfl)<|O.nil<|S.condF rfl<|S.skip<|S.seq<|S.region rfl<|O.q 2 rfl<|O.nil<|S.foldS (A:=TreeV tt d b s L (.slice a7 64 c7) (treeSum L p)) (bs:=x.ws tt b s) zJ (fun m h=>TreeV.fold x e h) ?_;exact S.rt results96 rfl hR ⟨a7,c7,rfl,rfl⟩
 |none =>
  refine S.seq<|S.region rfl<|O.q 1 rfl<|O.nil<|S.seq<|S.region rfl<|O.q 1 rfl<|O.op (.p rfl) (.nilCheck rfl)<|O.op (.p rfl) (.fieldObj fld77x2 rfl)<|O.op (.p rfl) (.lo flat75) ?_;refine O.q 1 rfl<|O.op (.p rfl) (.lookupK underlying75 (keyOkS underlying9) zeroValue24 rfl rfl zB) ?_;refine O.slot 15 (v' :=.tuple #[.slice none 0 0,.bool false]) rfl (by rw [e];rfl) ?_;refine O.q 3 rfl<|O.sF 17 rfl zG ?_;refine O.q 2 rfl<|O.nil<|S.seq<|S.seq<|S.region rfl<|O.q 1 rfl<|O.op (.p rfl) (.not rfl)<|O.nil<|S.condT rfl<|S.seq<|S.foldS (A:=TreeX tt d b s L) (bs:=x.ws tt b s) zJ (fun m h=>TreeX.fold x h) ?_;have hok:=treeNode_ok hT.ok p;have hsm:=treeNode_small hT.small p;have h12:=node_64 hok;have hsum:nodeSumP (treeNode L p)=treeSum L p:=treeSum_eq L p;have hbt:p.length≤510:=hp.1;refine S.region rfl<|O.q 3 rfl<|O.callS (.p rfl) rfl zD rfl rfl zB (hn hT hpn hp ha hat hal hau) ?_;rintro _ _ ⟨q1,d1,q2,d2,q3,d3,rfl,rfl⟩
  try simp only [zx1,zx2,zx3]
  refine O.callB (.p rfl) rfl zD rfl rfl (bs:=[OwnP Rp.u8 5 (.slice q1 (treeNode L p).2.1.length d1) (treeNode L p).2.1,OwnP Rp.u8 5 (.slice q2 (treeNode L p).2.2.1.length d2) (treeNode L p).2.2.1,ListP (LeafG tys) 31 (.slice q3 (treeNode L p).2.2.2.1.length d3) (treeNode L p).2.2.2.1]) zJ (fun m hm hd=>nodeSum_c (Rp.rel.mono (node_rel hm) (Fr.sub_add_right hd)) h12 hsm (hT.hH.mono (Fr.sub_add_left _ _)) (hT.hK.mono (Fr.sub_add_left _ _))) ?_;rintro _ _ ⟨a24,c24,rfl,rfl⟩
  try simp only [zx1,zx2,zx3]
  refine O.q 1 rfl<|O.nil ?_;rw [hsum,h64];refine S.open (bs:=TreeO.ws tt b s) zB (fun m x=>TreeX.opn x) fun y=>?_;simp only [TreeO.ws,List.cons_append,List.nil_append];have hg_o:=hg;have hR_o:=hR
  try have hT_o:=hT
  try have ha_o:=ha
  refine S.frzH (B:=obj b 77 [y.vL,y.vW,.int .i64 (s:Int),.map (some y.mid)]) zB fun go hso ⟨mo,hmo,hsmo⟩ hbo=>?_;replace hg:=Fr.sub_trans hg hso;replace hR:=backR hR hbo
  try replace hT:=hT.mono hso
  try replace ha:=ha.mono hso
  have hat:=(obj_at hmo).mono hsmo;refine S.regionD (L:=[0,1,2,3,4,6,5,7]) mixedF zD ?_;refine OD.q 1 rfl<|.quiet (.p rfl) rfl (fun _=>.nilCheck rfl)<|.quiet (.p rfl) rfl (fun _=>.fieldAddr fld77x2 rfl)<|.quiet (.p rfl) rfl (fun _=>.loadAt flat75 rfl (hat.drop 3) rfl) ?_;refine OD.q 2 rfl<|OD.call0 (.p rfl) zD rfl zD rfl rfl ((sClone_c zC)) ?_;rintro _ _ ⟨rfl,rfl⟩
  try simp only [zx1,zx2,zx3]
  refine OD.mapUpdateK rfl zD underlying75 (keyOkS underlying9) rfl rfl rfl zB ?_;refine ODx.nil<|S.seq<|S.back hbo ?_;replace hg:=hg_o;replace hR:=hR_o
  try replace hT:=hT_o
  try replace ha:=ha_o
  clear hg_o hR_o;refine S.foldS (A:=TreeV tt d b s L (.slice a24 64 c24) (treeSum L p)) (bs:=y.wsP tt b s 5 (.slice a24 64 c24) p (treeSum L p)) zJ (fun m h=>TreeV.put y hp rfl h) ?_;refine S.region rfl<|O.q 2 rfl<|O.nil ?_;exact S.rt results96 rfl hR ⟨a24,c24,rfl,rfl⟩
theorem str_add (p q:List UInt8):str p++str q=str (p++q):=by apply ByteArray.ext;simp [str]
theorem half_of {d:Fr} {s:Nat} {L:List LeafT} {n:Nat} (hs:SumC d s L n) {r:Fr} {b b3 b4 b5:Nat} {p:List UInt8} {va:Value} {a:List Nat} {z:UInt8} (hz:z=48∨z=49) (hT:TreeH r d s L) (hpn:p.length+(n+1)=510) (hp:pathOk p) (ha:Arr Rp.nat r va a) (hat:∀ i∈a,i<L.length) (hal:a.length≤10000000) (hau:atL L a=underL p L)
  (h3:At r ⟨b3,0,none⟩ [.pointer (some ⟨b,0,none⟩)]) (h4:At r ⟨b4,0,none⟩ [.string (str p)]) (h5:At r ⟨b5,0,none⟩ [va]) :
  Con prog 164 (#[]++#[.string (str [z])]++#[.pointer (some ⟨b3,0,none⟩),.pointer (some ⟨b4,0,none⟩),.pointer (some ⟨b5,0,none⟩)]) r [TreeX tt d b s L] (Ret fun v η=>∃ a1 c1,v=.slice a1 64 c1∧η=[TreeX tt d b s L,OwnP Rp.u8 5 (.slice a1 64 c1) (treeSum L (p++[z]))]):=by
 obtain ⟨a1,c1,rfl⟩:=ha.shape;have h64:=treeSum_len hT.ok (p++[z]);have hlen:(p++[z]).length=p.length+1:=by simp
 have hp2:pathOk (p++[z]):=⟨by omega,fun c hc=>by
  rcases List.mem_append.1 hc with q|q
  ·exact hp.2 c q
  ·rw [List.mem_singleton.1 q];exact hz⟩
 have hau2:atL L (underI L (p++[z]) a)=underL (p++[z]) L:=by rw [atL_under L _ a hat,hau,underL_under]
 have hs1:(str p).size=p.length:=str_size_q p;have hs2:(str [z]).size=1:=str_size_q [z];have hat2:=underI_lt (p:=p++[z]) hat;have hal2:=underI_len L (p++[z]) a;refine Con.of (n:=20) [.string (str [z]),.pointer (some ⟨b3,0,none⟩),.pointer (some ⟨b4,0,none⟩),.pointer (some ⟨b5,0,none⟩)] rfl func164 rfl rfl rfl fun g hg R hR=>?_;have hT:=hT.mono hg;have ha:=ha.mono hg;have h3:=h3.mono hg;have h4:=h4.mono hg;have h5:=h5.mono hg;refine S.seq<|S.region rfl<|O.q 1 rfl<|O.nil<|S.seq<|S.regionD (L:=[0,1,2,3,4,5,6,7,8,9,10,11,12,13,14]) mixedF zD<|.quiet (.p rfl) rfl (fun _=>.loadAt flat42 rfl h3 rfl) ?_;refine .quiet (.p rfl) rfl (fun _=>.loadAt flat9 rfl h4 rfl) ?_;refine OD.q 1 rfl<|.quiet (.p rfl) rfl (fun _=>.addS rfl rfl zC)<|OD.slot 9 (v' :=.string (str (p++[z]))) rfl (by rw [str_add]) ?_;refine .quiet (.p rfl) rfl (fun _=>.loadAt flat42 rfl h3 rfl) ?_;refine .quiet (.p rfl) rfl (fun _=>.nilCheck rfl)<|.quiet (.p rfl) rfl (fun _=>.fieldAddr fld77x0 rfl)<|.quiet (.p rfl) rfl (fun _=>.loadAt flat9 rfl h4 rfl) ?_;refine OD.q 1 rfl<|.quiet (.p rfl) rfl (fun _=>.addS rfl rfl zC)<|OD.slot 15 (v' :=.string (str (p++[z]))) rfl (by rw [str_add]) ?_;refine .quiet (.p rfl) rfl (fun _=>.loadAt flat104 rfl h5 rfl) ?_
 refine OD.callB (.p rfl) zD rfl zD rfl rfl (bs:=[TreeX tt d b s L]) zJ (fun m hm hd=>under_c (TreeX.lent hT.hd hd hm) (ha.mono (Fr.sub_add_left _ _)) hat zC hal) ?_;rintro _ _ ⟨a17,c17,rfl,rfl⟩
 try simp only [zx1,zx2,zx3]
 refine OD.callSs (.p rfl) zD rfl zD rfl rfl (bs:=[TreeX tt d b s L,OwnP Rp.nat 3 (.slice a17 (underI L (p++[z]) a).length c17) (underI L (p++[z]) a)]) zJ (Con.lentD (η:=[TreeX tt d b s L]) (bs:=[OwnP Rp.nat 3 (.slice a17 (underI L (p++[z]) a).length c17) (underI L (p++[z]) a)]) (fun m hm hd=>hs (hT.mono (Fr.sub_add_left _ _)) zC hp2 ((owned_one hm).mono (Fr.sub_add_right hd)) hat2 zC hau2)) ?_;rintro _ _ ⟨a18,c18,rfl,rfl⟩
 try simp only [zx1,zx2,zx3]
 refine OD.callB (.p rfl) zD rfl zD rfl rfl (bs:=[TreeV tt d b s L (.slice a18 64 c18) (treeSum L (p++[z]))]) zJ (fun m hm hd=>cloneB_c (TreeV.lent hT.hd hd hm) zC) ?_;rintro _ _ ⟨a19,c19,rfl,rfl⟩
 try simp only [zx1,zx2,zx3]
 refine OD.q 1 rfl<|ODx.nil ?_;rw [h64];refine S.foldS (A:=TreeX tt d b s L) (bs:=[TreeV tt d b s L (.slice a18 64 c18) (treeSum L (p++[z]))]) zJ (fun m h=>TreeV.toX h) ?_;exact S.rt results164 rfl hR ⟨a19,c19,rfl,rfl⟩
theorem node_of {d:Fr} {s:Nat} {L:List LeafT} {n:Nat} (hs:∀ k,n=k+1→SumC d s L k):NodeC d s L n:=by
 intro r b p va a hT hpn hp ha hat hal hau
 obtain ⟨a1,c1,rfl⟩:=ha.shape;have hlen:(underL p L).length=a.length:=by rw [← hau];exact atL_len hat
 refine Con.of (n:=73) _ rfl func99 rfl rfl rfl fun g hg R hR=>?_;have hT:=hT.mono hg;have ha:=ha.mono hg;have hps:(str p).size=p.length:=str_size_q p;refine S.seq<|S.region rfl<|O.opE (.p rfl) (.box (cs:=[_]) rfl rfl) ?_;rintro _ _ ⟨b3,rfl,rfl⟩;refine O.opE (.p rfl) (.box (cs:=[_]) rfl rfl) ?_;rintro _ _ ⟨b4,rfl,rfl⟩;refine O.opE (.p rfl) (.box (cs:=[_]) rfl rfl) ?_;rintro _ _ ⟨b5,rfl,rfl⟩;refine O.opE (.p rfl) (.alloc (cs:=[.int .u8 0,.slice none 0 0,.slice none 0 0,.slice none 0 0]) zeroValue27 rfl) ?_;rintro _ _ ⟨b6,rfl,rfl⟩;refine O.nil<|S.seq<|S.frz (A:=obj b3 42 [.pointer (some ⟨b,0,none⟩)]) zB fun g hs hm ⟨_,x',s'⟩=>?_;have h3:=(fun s x=>(obj_at x).mono s) s' x';clear x' s';replace hg:=Fr.sub_trans hg hs;replace hR:=melted hR hm
 try replace hT:=hT.mono hs
 try replace ha:=ha.mono hs
 clear hs hm;refine S.frz (A:=obj b4 9 [.string (str p)]) zB fun g hs hm ⟨_,x',s'⟩=>?_;have h4:=(fun s x=>(obj_at x).mono s) s' x';clear x' s';replace hg:=Fr.sub_trans hg hs;replace hR:=melted hR hm
 try replace hT:=hT.mono hs
 try replace ha:=ha.mono hs
 try replace h3:=h3.mono hs
 clear hs hm;refine S.frz (A:=obj b5 104 [.slice a1 a.length c1]) zB fun g hs hm ⟨_,x',s'⟩=>?_;have h5:=(fun s x=>(obj_at x).mono s) s' x';clear x' s';replace hg:=Fr.sub_trans hg hs;replace hR:=melted hR hm
 try replace hT:=hT.mono hs
 try replace ha:=ha.mono hs
 try replace h3:=h3.mono hs
 try replace h4:=h4.mono hs
 clear hs hm;refine S.region rfl<|O.opE (.p rfl) (.makeP0 (T:=Rp.cells 2) (c:=2) underlying25 elem31 rfl rfl rfl rfl zF zF) ?_;rintro _ _ ⟨a11,c11,rfl,rfl⟩;refine O.q 1 rfl<|O.nil<|S.seq<|S.seq<|S.foldS (A:=ListP (LeafG tys) 31 (.slice a11 0 c11) []) (bs:=[OwnP (Rp.cells 2) 31 (.slice a11 0 c11) []]) zJ (fun m h=>list_none rfl h) ?_
 by_cases h2:2≤a.length∧p.length<510
 ·obtain ⟨k,hk⟩:∃ k,n=k+1:=⟨n - 1,by omega⟩
  have hsk:SumC d s L k:=hs k hk;have hx:=treeNode_split (L:=L) (p:=p) zC h2.2;have h480:=treeSum_len hT.ok (p++[48]);have h490:=treeSum_len hT.ok (p++[49]);rw [hx] at hR;refine S.region rfl<|O.op (.p rfl) (.loadAt flat104 rfl h5 rfl) ?_;refine O.op (.p rfl) (.len rfl underlying104 rfl)<|O.op (.p rfl) (.lss rfl rfl)<|O.sF 14 rfl (by exact decide_eq_false zC) ?_;refine O.q 1 rfl<|O.op (.g rfl rfl) (.loadAt flat9 rfl h4 rfl) ?_;refine O.op (.g rfl rfl) (.lenS rfl underlying9 rfl)<|O.op (.g rfl rfl) (.eql rfl rfl)<|O.sF 18 rfl (by exact decide_eq_false zC) ?_;refine O.q 1 rfl<|O.nil<|S.condF rfl<|S.skip<|S.seq<|S.block<|S.seq<|S.region rfl<|O.op (.p rfl) (.loadAt flat104 rfl h5 rfl) ?_;refine O.op (.p rfl) (.len rfl underlying104 rfl)<|O.op (.p rfl) (.eql rfl rfl)<|O.sF 53 rfl (by exact decide_eq_false zC) ?_;refine O.q 1 rfl<|O.nil<|S.condF rfl<|S.seq<|S.region rfl<|O.op (.p rfl) (.loadAt flat104 rfl h5 rfl) ?_;refine O.op (.p rfl) (.len rfl underlying104 rfl)<|O.op (.p rfl) (.eql rfl rfl)<|O.sF 58 rfl (by exact decide_eq_false zC) ?_;refine O.q 1 rfl<|O.nil<|S.condF rfl<|S.seq<|S.region rfl<|O.op (.p rfl) (.loadAt flat9 rfl h4 rfl) ?_;refine O.op (.p rfl) (.lenS rfl underlying9 rfl)<|O.op (.p rfl) (.eql rfl rfl)<|O.sF 64 rfl (by exact decide_eq_false zC) ?_
  refine O.q 1 rfl<|O.nil<|S.condF rfl<|S.skip<|S.inBlock<|S.seq<|S.region rfl<|O.op (.p rfl) (.mkFunc rfl rfl)<|O.q 1 rfl<|O.nil<|S.seq<|S.region rfl<|O.q 1 rfl<|O.callS (.p rfl) rfl zD rfl rfl zB (half_of hsk (.inl rfl) hT zC hp ha hat hal hau h3 h4 h5) ?_;rintro _ _ ⟨a69,c69,rfl,rfl⟩
  try simp only [zx1,zx2,zx3]
  refine O.q 1 rfl<|O.callS (.p rfl) rfl zD rfl rfl zB (half_of hsk (.inr rfl) hT zC hp ha hat hal hau h3 h4 h5) ?_;rintro _ _ ⟨a71,c71,rfl,rfl⟩
  try simp only [zx1,zx2,zx3]
  refine O.op (.p rfl) (.build (cs:=[_,_,_,_]) underlying27 rfl rfl rfl rfl rfl)<|O.opU rfl (.storeObj zD rfl rfl rfl rfl zB zH) ?_;refine O.nil<|S.listNil (LeafG tys) 31 ?_;refine S.retCellAgg results99 isAgg27 zD rfl zB fun w hw=>Holds.end_ hR hw ?_;exact pk ⟨a69,c69,a71,c71,none,0,by rw [h480,h490];rfl,by rw [h480,h490]⟩
 ·have hall:a.length<2∨p.length=510:=by omega
  obtain ⟨lv,hlv⟩:∃ lv,lv=atL L a:=⟨_,rfl⟩;have hal2:lv.length=a.length:=by rw [hlv];exact atL_len hat
  have hget:∀ i (h:i<a.length) (h' :i<lv.length),lv[i]=L[a[i]]'(hat _ (List.getElem_mem h)):=by subst hlv;exact fun i h h' =>atL_get hat i h
  have hul:underL p L=lv:=by rw [hlv,hau]
  refine S.cut2 (fun (v:Option Addr × Nat)=>True) (fun (v:Option Addr × Nat)=>[(7,.slice v.1 lv.length v.2)]) [(3,_),(4,_),(5,_),(6,_)] (fun (v:Option Addr × Nat)=>[ListP (LeafG tys) 31 (.slice v.1 lv.length v.2) lv,obj b6 27 [.int .u8 0,.slice none 0 0,.slice none 0 0,.slice none 0 0],TreeX tt d b s L]) (.cons rfl (.cons rfl (.cons rfl (.cons rfl (.nil))))) (fun key=>?_) (fun v hx=>?_)
  ·have hm1:=meltRefl (g:=g)
   by_cases q2:a.length<2
   ·
    refine S.region rfl<|O.op (.p rfl) (.loadAt flat104 rfl h5 rfl) ?_;refine O.op (.p rfl) (.len rfl underlying104 rfl)<|O.op (.p rfl) (.lss rfl rfl)<|O.sT 14 rfl (by exact decide_eq_true zC) ?_;refine O.q 5 rfl<|O.nil<|S.condT rfl<|S.seq<|S.region rfl<|O.op (.p rfl) (.loadAt flat104 rfl h5 rfl) ?_;refine O.op (.p rfl) (.len rfl underlying104 rfl)<|O.q 1 rfl<|O.nil<|S.block<|S.loopK2 (ι:=Nat) (κ:=Option Addr × Nat) (fun i u=>i≤a.length) (fun i u=>[(22,.int .i64 (i:Int)),(7,.slice u.1 (lv.take i).length u.2)]) [(3,_),(4,_),(5,_),(6,_),(20,_),(21,_)] (fun i u=>[ListP (LeafG tys) 31 (.slice u.1 (lv.take i).length u.2) (lv.take i),obj b6 27 [.int .u8 0,.slice none 0 0,.slice none 0 0,.slice none 0 0],TreeX tt d b s L]) (fun i u=>a.length - i) (0) ((a11,c11)) zL (.cons rfl (.cons rfl (.nil))) (.cons rfl (.cons rfl (.cons rfl (.cons rfl (.cons rfl (.cons rfl (.nil))))))) rfl fun i u hx ih=>?_;have hm2:=meltRefl (g:=g);refine S.seq<|S.region rfl<|O.op (.p rfl) (.lss rfl rfl)<|O.nil (S.seq ?_)
    first|refine S.condD rfl (fun h23=>?_) (fun h23=>?_)|refine S.condB rfl (fun h23=>?_) (fun h23=>?_)
    ·have hi:i<a.length:=by omega
     have hil:i<lv.length:=by omega
     have haL:=hat _ (List.getElem_mem hi);have hbL:L.length≤10000000:=hT.small.1;have hset:=hT.small.2 _ (List.getElem_mem haL);have hleaf:=(hT.ok.1 _ (List.getElem_mem haL)).1;have hi64:InI64 ((a[i]:Nat):Int):=⟨by omega,by omega⟩;have hgi:=hget i hi hil;have hsn:lv.take i++[lv[i]]=lv.take (i+1):=(List.take_succ_eq_append_getElem hil).symm;have htl:(lv.take i).length=i:=by simp;omega
     have htl2:(lv.take (i+1)).length=i+1:=by simp;omega
     have hg_o:=hg;have hR_o:=hR
     try have hT_o:=hT
     try have ha_o:=ha
     try have h3_o:=h3
     try have h4_o:=h4
     try have h5_o:=h5
     refine S.frzH (B:=TreeX tt d b s L) zB fun go hso ⟨mo,hmo,hsmo⟩ hbo=>?_;replace hg:=Fr.sub_trans hg hso;replace hR:=backR hR hbo
     try replace hT:=hT.mono hso
     try replace ha:=ha.mono hso
     try replace h3:=h3.mono hso
     try replace h4:=h4.mono hso
     try replace h5:=h5.mono hso
     have hA:=TreeX.a hT.hd hsmo hmo;obtain ⟨aL,cL,aW,cW,mid,hat0,hL0,hW0⟩:=hA;refine S.listOpen (G:=LeafG tys) (k' :=2) rfl zB fun css hcl=>?_;refine S.skip<|S.seq<|S.block<|S.seq<|S.region rfl<|O.ia (.p rfl) underlying104 size3 rfl rfl rfl (by first|assumption|exact Arr.mono hg zE|exact Arr.left zE|exact Arr.left (Arr.mono hg zE)) (h:=fun p24 cs24 hp24 hr24=>?_);obtain ⟨rfl,hz24⟩:=hr24;refine O.op (.p rfl) (.loadAt flat3 rfl hp24 rfl) ?_;refine O.slot 25 (v' :=.int .i64 ((a[i]:Nat):Int)) rfl zG ?_;refine O.q 1 rfl<|O.nil ?_;rw [← hcl];refine S.regionD (L:=[0,1,2,3,4,5,6,7,8,9,10,11,12,13,14,15,16,17,18,19,20,21,22,23]) mixedF zD ?_;refine OD.q 1 rfl<|.quiet (.p rfl) rfl (fun _=>.loadAt flat42 rfl h3 rfl) ?_;refine .quiet (.p rfl) rfl (fun _=>.nilCheck rfl)<|.quiet (.p rfl) rfl (fun _=>.fieldAddr fld77x0 rfl)<|.quiet (.p rfl) rfl (fun _=>.fieldAddr fld74x0 rfl)<|.quiet (.p rfl) rfl (fun _=>.loadAt flat25 rfl hat0 rfl) ?_;refine OD.q 1 rfl<|OD.ia (.p rfl) underlying25 size31 rfl rfl (show _=(((a[i]):Nat):Int) by omega) (hL0) (h:=fun p33 cs33 hp33 hr33=>?_);obtain ⟨l1,m1,rfl,l2,l3⟩:=LeafRp.sh hr33;refine .quiet (.p rfl) rfl (fun _=>.fieldAddr fld31x0 rfl)<|.quiet (.p rfl) rfl (fun _=>.loadAt flat9 rfl hp33 rfl) ?_;refine .quiet (.p rfl) rfl (fun _=>.loadAt flat42 rfl h3 rfl) ?_
     refine .quiet (.p rfl) rfl (fun _=>.nilCheck rfl)<|.quiet (.p rfl) rfl (fun _=>.fieldAddr fld77x0 rfl)<|.quiet (.p rfl) rfl (fun _=>.fieldAddr fld74x0 rfl)<|.quiet (.p rfl) rfl (fun _=>.loadAt flat25 rfl hat0 rfl) ?_;refine OD.q 1 rfl<|OD.ia (.p rfl) underlying25 size31 rfl rfl (show _=(((a[i]):Nat):Int) by omega) (hL0) (h:=fun p42 cs42 hp42 hr42=>?_);obtain ⟨l4,m4,rfl,l5,l6⟩:=LeafRp.sh hr42;refine .quiet (.p rfl) rfl (fun _=>.fieldAddr fld31x1 rfl)<|.quiet (.p rfl) rfl (fun _=>.loadAt flat22 rfl (hp42.drop 1) rfl) ?_;refine OD.call0 (.p rfl) zD rfl zD rfl rfl ((own_c l6 hleaf.2.1 zC)) ?_;rintro _ _ ⟨a45,c45,rfl,rfl⟩
     try simp only [zx1,zx2,zx3]
     refine .quiet (.p rfl) rfl (fun _=>.build (cs:=[_,_]) underlying31 rfl rfl rfl rfl rfl)<|OD.litP (T:=(Rp.cells 2)) (ys:=[_]) (.p rfl) zD underlying25 elem31 zF rfl rfl ⟨⟨rfl,rfl,by first|(simp;done)|(intro v hv;simp [Value.cells] at hv;rcases hv with rfl|rfl<;>rfl)|(refine List.forall_mem_cons.2 ⟨rfl,?_⟩;repeat (first|exact (fun _ h=>absurd h List.not_mem_nil)|refine List.forall_mem_cons.2 ⟨rfl,?_⟩))⟩,trivial⟩ zF (fun a47 c47=>?_);refine OD.appendO (.p rfl) zD (T:=(Rp.cells 2)) underlying25 elem31 zF rfl rfl zB zB zI zI (fun a48 c48=>?_);refine OD.q 1 rfl<|ODx.nil<|S.inBlock<|S.back hbo ?_;replace hg:=hg_o;replace hR:=hR_o
     try replace hT:=hT_o
     try replace ha:=ha_o
     try replace h3:=h3_o
     try replace h4:=h4_o
     try replace h5:=h5_o
     clear hg_o hR_o;rw [hgi] at hsn;refine S.foldS (A:=(LeafG tys).own [.string (str (L[a[i]]'haL).1),.slice a45 (L[a[i]]'haL).2.1.length c45] ((L[a[i]]'haL).1,(L[a[i]]'haL).2.1,())) (bs:=[ListP (RecG tys) 102 (.slice a45 (L[a[i]]'haL).2.1.length c45) (L[a[i]]'haL).2.1]) zJ (fun m h=>LeafG.mk (by have:=hleaf.1.2;omega) h) ?_;refine S.listPut (G:=LeafG tys) (k' :=2) rfl zB zB zB ?_;rw [show ((L[a[i]]'haL).1,(L[a[i]]'haL).2.1,())=L[a[i]]'haL from rfl,hsn];refine S.slot 7 (v' :=.slice a48 (lv.take (i+1)).length c48) rfl (by rw [hcl,htl,htl2];rfl) ?_;simp only [List.length_singleton];rw [show css.length+1=(lv.take (i+1)).length by omega];refine S.region rfl<|O.op (.p rfl) (.add rfl rfl (IntWalk.i64_in _ zC))<|O.q 1 rfl<|O.nil ?_;exact S.pw (ih (i+1) ((a48,c48)) zC zC)
    ·clear ih
     have hi:i=a.length:=by omega
     subst hi;rw [List.take_of_length_le zC];refine S.exit rfl<|S.pk ?_ (S.weaken ?_ (key (u) (by trivial)))
     ·repeat (first|exact zpa|exact zpn|(apply zpc;focus (repeat (first|exact zh|apply zt)))|apply zps)
     repeat (first|exact Sub.nil|refine Sub.cons rfl ?_)
   ·
    refine S.region rfl<|O.op (.p rfl) (.loadAt flat104 rfl h5 rfl) ?_;refine O.op (.p rfl) (.len rfl underlying104 rfl)<|O.op (.p rfl) (.lss rfl rfl)<|O.sF 14 rfl (by exact decide_eq_false zC) ?_;refine O.q 1 rfl<|O.op (.g rfl rfl) (.loadAt flat9 rfl h4 rfl) ?_;refine O.op (.g rfl rfl) (.lenS rfl underlying9 rfl)<|O.op (.g rfl rfl) (.eql rfl rfl)<|O.sT 18 rfl (by exact decide_eq_true zC) ?_;refine O.q 1 rfl<|O.nil<|S.condT rfl<|S.seq<|S.region rfl<|O.op (.p rfl) (.loadAt flat104 rfl h5 rfl) ?_;refine O.op (.p rfl) (.len rfl underlying104 rfl)<|O.q 1 rfl<|O.nil<|S.block<|S.loopK2 (ι:=Nat) (κ:=Option Addr × Nat) (fun i u=>i≤a.length) (fun i u=>[(22,.int .i64 (i:Int)),(7,.slice u.1 (lv.take i).length u.2)]) [(3,_),(4,_),(5,_),(6,_),(20,_),(21,_)] (fun i u=>[ListP (LeafG tys) 31 (.slice u.1 (lv.take i).length u.2) (lv.take i),obj b6 27 [.int .u8 0,.slice none 0 0,.slice none 0 0,.slice none 0 0],TreeX tt d b s L]) (fun i u=>a.length - i) (0) ((a11,c11)) zL (.cons rfl (.cons rfl (.nil))) (.cons rfl (.cons rfl (.cons rfl (.cons rfl (.cons rfl (.cons rfl (.nil))))))) rfl fun i u hx ih=>?_;have hm2:=meltRefl (g:=g);refine S.seq<|S.region rfl<|O.op (.p rfl) (.lss rfl rfl)<|O.nil (S.seq ?_)
    first|refine S.condD rfl (fun h23=>?_) (fun h23=>?_)|refine S.condB rfl (fun h23=>?_) (fun h23=>?_)
    ·have hi:i<a.length:=by omega
     have hil:i<lv.length:=by omega
     have haL:=hat _ (List.getElem_mem hi);have hbL:L.length≤10000000:=hT.small.1;have hset:=hT.small.2 _ (List.getElem_mem haL);have hleaf:=(hT.ok.1 _ (List.getElem_mem haL)).1;have hi64:InI64 ((a[i]:Nat):Int):=⟨by omega,by omega⟩;have hgi:=hget i hi hil;have hsn:lv.take i++[lv[i]]=lv.take (i+1):=(List.take_succ_eq_append_getElem hil).symm;have htl:(lv.take i).length=i:=by simp;omega
     have htl2:(lv.take (i+1)).length=i+1:=by simp;omega
     have hg_o:=hg;have hR_o:=hR
     try have hT_o:=hT
     try have ha_o:=ha
     try have h3_o:=h3
     try have h4_o:=h4
     try have h5_o:=h5
     refine S.frzH (B:=TreeX tt d b s L) zB fun go hso ⟨mo,hmo,hsmo⟩ hbo=>?_;replace hg:=Fr.sub_trans hg hso;replace hR:=backR hR hbo
     try replace hT:=hT.mono hso
     try replace ha:=ha.mono hso
     try replace h3:=h3.mono hso
     try replace h4:=h4.mono hso
     try replace h5:=h5.mono hso
     have hA:=TreeX.a hT.hd hsmo hmo;obtain ⟨aL,cL,aW,cW,mid,hat0,hL0,hW0⟩:=hA;refine S.listOpen (G:=LeafG tys) (k' :=2) rfl zB fun css hcl=>?_;refine S.skip<|S.seq<|S.block<|S.seq<|S.region rfl<|O.ia (.p rfl) underlying104 size3 rfl rfl rfl (by first|assumption|exact Arr.mono hg zE|exact Arr.left zE|exact Arr.left (Arr.mono hg zE)) (h:=fun p24 cs24 hp24 hr24=>?_);obtain ⟨rfl,hz24⟩:=hr24;refine O.op (.p rfl) (.loadAt flat3 rfl hp24 rfl) ?_;refine O.slot 25 (v' :=.int .i64 ((a[i]:Nat):Int)) rfl zG ?_;refine O.q 1 rfl<|O.nil ?_;rw [← hcl];refine S.regionD (L:=[0,1,2,3,4,5,6,7,8,9,10,11,12,13,14,15,16,17,18,19,20,21,22,23]) mixedF zD ?_;refine OD.q 1 rfl<|.quiet (.p rfl) rfl (fun _=>.loadAt flat42 rfl h3 rfl) ?_;refine .quiet (.p rfl) rfl (fun _=>.nilCheck rfl)<|.quiet (.p rfl) rfl (fun _=>.fieldAddr fld77x0 rfl)<|.quiet (.p rfl) rfl (fun _=>.fieldAddr fld74x0 rfl)<|.quiet (.p rfl) rfl (fun _=>.loadAt flat25 rfl hat0 rfl) ?_;refine OD.q 1 rfl<|OD.ia (.p rfl) underlying25 size31 rfl rfl (show _=(((a[i]):Nat):Int) by omega) (hL0) (h:=fun p33 cs33 hp33 hr33=>?_);obtain ⟨l1,m1,rfl,l2,l3⟩:=LeafRp.sh hr33;refine .quiet (.p rfl) rfl (fun _=>.fieldAddr fld31x0 rfl)<|.quiet (.p rfl) rfl (fun _=>.loadAt flat9 rfl hp33 rfl) ?_;refine .quiet (.p rfl) rfl (fun _=>.loadAt flat42 rfl h3 rfl) ?_
     refine .quiet (.p rfl) rfl (fun _=>.nilCheck rfl)<|.quiet (.p rfl) rfl (fun _=>.fieldAddr fld77x0 rfl)<|.quiet (.p rfl) rfl (fun _=>.fieldAddr fld74x0 rfl)<|.quiet (.p rfl) rfl (fun _=>.loadAt flat25 rfl hat0 rfl) ?_;refine OD.q 1 rfl<|OD.ia (.p rfl) underlying25 size31 rfl rfl (show _=(((a[i]):Nat):Int) by omega) (hL0) (h:=fun p42 cs42 hp42 hr42=>?_);obtain ⟨l4,m4,rfl,l5,l6⟩:=LeafRp.sh hr42;refine .quiet (.p rfl) rfl (fun _=>.fieldAddr fld31x1 rfl)<|.quiet (.p rfl) rfl (fun _=>.loadAt flat22 rfl (hp42.drop 1) rfl) ?_;refine OD.call0 (.p rfl) zD rfl zD rfl rfl ((own_c l6 hleaf.2.1 zC)) ?_;rintro _ _ ⟨a45,c45,rfl,rfl⟩
     try simp only [zx1,zx2,zx3]
     refine .quiet (.p rfl) rfl (fun _=>.build (cs:=[_,_]) underlying31 rfl rfl rfl rfl rfl)<|OD.litP (T:=(Rp.cells 2)) (ys:=[_]) (.p rfl) zD underlying25 elem31 zF rfl rfl ⟨⟨rfl,rfl,by first|(simp;done)|(intro v hv;simp [Value.cells] at hv;rcases hv with rfl|rfl<;>rfl)|(refine List.forall_mem_cons.2 ⟨rfl,?_⟩;repeat (first|exact (fun _ h=>absurd h List.not_mem_nil)|refine List.forall_mem_cons.2 ⟨rfl,?_⟩))⟩,trivial⟩ zF (fun a47 c47=>?_);refine OD.appendO (.p rfl) zD (T:=(Rp.cells 2)) underlying25 elem31 zF rfl rfl zB zB zI zI (fun a48 c48=>?_);refine OD.q 1 rfl<|ODx.nil<|S.inBlock<|S.back hbo ?_;replace hg:=hg_o;replace hR:=hR_o
     try replace hT:=hT_o
     try replace ha:=ha_o
     try replace h3:=h3_o
     try replace h4:=h4_o
     try replace h5:=h5_o
     clear hg_o hR_o;rw [hgi] at hsn;refine S.foldS (A:=(LeafG tys).own [.string (str (L[a[i]]'haL).1),.slice a45 (L[a[i]]'haL).2.1.length c45] ((L[a[i]]'haL).1,(L[a[i]]'haL).2.1,())) (bs:=[ListP (RecG tys) 102 (.slice a45 (L[a[i]]'haL).2.1.length c45) (L[a[i]]'haL).2.1]) zJ (fun m h=>LeafG.mk (by have:=hleaf.1.2;omega) h) ?_;refine S.listPut (G:=LeafG tys) (k' :=2) rfl zB zB zB ?_;rw [show ((L[a[i]]'haL).1,(L[a[i]]'haL).2.1,())=L[a[i]]'haL from rfl,hsn];refine S.slot 7 (v' :=.slice a48 (lv.take (i+1)).length c48) rfl (by rw [hcl,htl,htl2];rfl) ?_;simp only [List.length_singleton];rw [show css.length+1=(lv.take (i+1)).length by omega];refine S.region rfl<|O.op (.p rfl) (.add rfl rfl (IntWalk.i64_in _ zC))<|O.q 1 rfl<|O.nil ?_;exact S.pw (ih (i+1) ((a48,c48)) zC zC)
    ·clear ih
     have hi:i=a.length:=by omega
     subst hi;rw [List.take_of_length_le zC];refine S.exit rfl<|S.pk ?_ (S.weaken ?_ (key (u) (by trivial)))
     ·repeat (first|exact zpa|exact zpn|(apply zpc;focus (repeat (first|exact zh|apply zt)))|apply zps)
     repeat (first|exact Sub.nil|refine Sub.cons rfl ?_)
  ·
   by_cases q0:a.length=0
   ·have hx:=treeNode_0 (L:=L) (p:=p) (List.eq_nil_of_length_eq_zero zC)
    have hl0:lv=[]:=List.eq_nil_of_length_eq_zero zC;rw [hx] at hR;refine S.seq<|S.block<|S.seq<|S.region rfl<|O.op (.p rfl) (.loadAt flat104 rfl h5 rfl) ?_;refine O.op (.p rfl) (.len rfl underlying104 rfl)<|O.op (.p rfl) (.eql rfl rfl)<|O.sT 53 rfl (by exact decide_eq_true zC) ?_;refine O.q 1 rfl<|O.nil<|S.condT rfl<|S.seq<|S.region rfl<|O.op (.p rfl) (.build (cs:=[_,_,_,_]) underlying27 rfl rfl rfl rfl rfl)<|O.opU rfl (.storeObj zD rfl rfl rfl rfl zB zH) ?_;refine O.nil<|S.listNil (LeafG tys) 31 ?_;refine S.addNil (T:=Rp.u8) (e:=5) ?_;refine S.addNil (T:=Rp.u8) (e:=5) ?_;refine S.retCellAgg results99 isAgg27 zD rfl zB fun w hw=>Holds.end_ hR hw ?_;exact pk ⟨none,0,none,0,none,0,rfl,rfl⟩
   ·by_cases q1:a.length=1
    ·obtain ⟨x,hx1⟩:=List.length_eq_one_iff.1 (show lv.length=1 by omega)
     have hx:=treeNode_1 (L:=L) (p:=p) (x:=x) (by rw [hul,hx1]);subst hx1;rw [hx] at hR;refine S.seq<|S.block<|S.seq<|S.region rfl<|O.op (.p rfl) (.loadAt flat104 rfl h5 rfl) ?_;refine O.op (.p rfl) (.len rfl underlying104 rfl)<|O.op (.p rfl) (.eql rfl rfl)<|O.sF 53 rfl (by exact decide_eq_false zC) ?_;refine O.q 1 rfl<|O.nil<|S.condF rfl<|S.seq<|S.region rfl<|O.op (.p rfl) (.loadAt flat104 rfl h5 rfl) ?_;refine O.op (.p rfl) (.len rfl underlying104 rfl)<|O.op (.p rfl) (.eql rfl rfl)<|O.sT 58 rfl (by exact decide_eq_true zC) ?_;refine O.q 1 rfl<|O.nil<|S.condT rfl<|S.seq<|S.region rfl<|O.q 1 rfl<|O.op (.p rfl) (.build (cs:=[_,_,_,_]) underlying27 rfl rfl rfl rfl rfl)<|O.opU rfl (.storeObj zD rfl rfl rfl rfl zB zH) ?_;refine O.nil<|S.addNil (T:=Rp.u8) (e:=5) ?_;refine S.addNil (T:=Rp.u8) (e:=5) ?_;refine S.retCellAgg results99 isAgg27 zD rfl zB fun w hw=>Holds.end_ hR hw ?_;exact pk ⟨none,0,none,0,v.1,v.2,rfl,rfl⟩
    ·have hx:=treeNode_many (L:=L) (p:=p) zC zC
     rw [hul] at hx;rw [hx] at hR;refine S.seq<|S.block<|S.seq<|S.region rfl<|O.op (.p rfl) (.loadAt flat104 rfl h5 rfl) ?_;refine O.op (.p rfl) (.len rfl underlying104 rfl)<|O.op (.p rfl) (.eql rfl rfl)<|O.sF 53 rfl (by exact decide_eq_false zC) ?_;refine O.q 1 rfl<|O.nil<|S.condF rfl<|S.seq<|S.region rfl<|O.op (.p rfl) (.loadAt flat104 rfl h5 rfl) ?_;refine O.op (.p rfl) (.len rfl underlying104 rfl)<|O.op (.p rfl) (.eql rfl rfl)<|O.sF 58 rfl (by exact decide_eq_false zC) ?_;refine O.q 1 rfl<|O.nil<|S.condF rfl<|S.seq<|S.region rfl<|O.op (.p rfl) (.loadAt flat9 rfl h4 rfl) ?_;refine O.op (.p rfl) (.lenS rfl underlying9 rfl)<|O.op (.p rfl) (.eql rfl rfl)<|O.sT 64 rfl (by exact decide_eq_true zC) ?_;refine O.q 1 rfl<|O.nil<|S.condT rfl<|S.seq<|S.region rfl<|O.q 1 rfl<|O.op (.p rfl) (.build (cs:=[_,_,_,_]) underlying27 rfl rfl rfl rfl rfl)<|O.opU rfl (.storeObj zD rfl rfl rfl rfl zB zH) ?_;refine O.nil<|S.addNil (T:=Rp.u8) (e:=5) ?_;refine S.addNil (T:=Rp.u8) (e:=5) ?_;refine S.retCellAgg results99 isAgg27 zD rfl zB fun w hw=>Holds.end_ hR hw ?_;exact pk ⟨none,0,none,0,v.1,v.2,rfl,rfl⟩
end Go.Proofs.YtojafegjlahajaaGreatDoor
