/- Texts of this proof. -/
import Derived.Test.YtodhbhanmdfdeaaGreatQGref9
import Derived.Test.YtodhbhanmdfdeaaGreatQJoin3
import Derived.Test.YtodhbhanmdfdeaaGreatQSpJoin3
open Go Go.Sp Go.Proofs.Tryz
set_option maxRecDepth 100000
set_option maxHeartbeats 1000000
attribute [local irreducible] obj Own OwnP
namespace Go.Proofs.YtodhbhanmdfdeaaGreat
def jGet (l:List RecT):Option (List RecT):=if oneK l=true then some (joinL l) else none
theorem zip_it {h:Fr}:∀ {css:List (List Value)} {xs:List RecT},All2 (ItRp.rel h) css xs→∃ ps:List ItP,ps.map (·.1)=css∧ps.map (·.2)=xs∧∀ q∈ps,ItRp.rel h q.1 q.2
 |[],[],_=>⟨[],rfl,rfl,fun _ h=>by cases h⟩
 |c::css,x::xs,⟨h1,h2⟩=>by
  obtain ⟨ps,e1,e2,e3⟩:=zip_it h2;exact ⟨(c,x)::ps,by rw [← e1];rfl,by rw [← e2];rfl,fun q hq=>by
   rcases List.mem_cons.1 hq with rfl|hq
   ·exact h1
   ·exact e3 q hq⟩
theorem recGet_self {x:RecT} (h:recOk x=true):recGet (recB x)=some x:=recGet_iff.2 ⟨h,rfl⟩
theorem sown_c {r:Fr} {b:Nat} {xs:List RecT} (hrow:RowA r b xs) (ho:∀ x∈xs,recOk x=true) (hl:xs.length≤100000000000) :
  Con prog 106 #[.pointer (some ⟨b,0,none⟩)] r [] (Ret fun v η=>∃ a c,v=.slice a xs.length c∧η=[ListP (RecG tys) 74 (.slice a xs.length c) xs]):=by
 obtain ⟨qa,qc,hqat,hqar⟩:=hrow;refine Con.of (n:=32) _ rfl func106 rfl rfl rfl fun g hg R hR=>?_;have hqat:=hqat.mono hg;have hqar:=hqar.mono hg;refine S.seq<|S.region rfl<|O.q 1 rfl<|O.nil<|S.seq<|S.region rfl<|O.q 1 rfl<|O.nil<|S.seq<|S.seq<|S.listNil (RecG tys) 74 ?_;refine S.region rfl<|O.q 1 rfl<|O.op (.p rfl) (.nilCheck rfl)<|O.op (.p rfl) (.fieldAddr fld148x0 rfl)<|O.op (.p rfl) (.loadAt flat146 rfl hqat rfl) ?_;refine O.op (.p rfl) (.len rfl underlying146 rfl)<|O.q 1 rfl<|O.nil<|S.block<|S.loopK2 (ι:=Nat) (κ:=Option Addr × Nat) (fun i s=>i≤xs.length) (fun i s=>[(13,.int .i64 (i:Int)),(3,.slice s.1 (xs.take i).length s.2)]) [(11,_),(12,_)] (fun i s=>[ListP (RecG tys) 74 (.slice s.1 (xs.take i).length s.2) (xs.take i)]) (fun i s=>xs.length - i) (0) ((none,0)) zG (.cons rfl (.cons rfl (.nil))) (.cons rfl (.cons rfl (.nil))) rfl fun i s hx ih=>?_;have hm1:=meltRefl (g:=g);refine S.seq<|S.region rfl<|O.op (.p rfl) (.lss rfl rfl)<|O.nil (S.seq ?_)
 first|refine S.condD rfl (fun h14=>?_) (fun h14=>?_)|refine S.condB rfl (fun h14=>?_) (fun h14=>?_)
 ·have hi:i<xs.length:=by omega
  have hok:=ho _ (List.getElem_mem hi);have hbl:=recB_le hok;have hti:(xs.take i).length=i:=by simp;omega
  refine S.skip<|S.seq<|S.block<|S.seq<|S.region rfl<|O.ia (.p rfl) underlying146 size158 rfl rfl rfl (by first|assumption|exact Arr.mono hg zE|exact Arr.left zE|exact Arr.left (Arr.mono hg zE)) (h:=fun p15 cs15 hp15 hr15=>?_);obtain ⟨ia3_15,ia5_15,ia6_15,ia7_15,ic3_15,ic5_15,ic6_15,ic7_15,rfl,hr1_15,ha7_15⟩:=ItRp.sh hr15;refine O.op (.p rfl) (.loadAgg isAgg158 zD rfl hp15) ?_;refine O.opE (.p rfl) (.alloc (cs:=[.string ⟨#[]⟩,.int .i64 0,.int .i64 0,.slice none 0 0,.bool false,.slice none 0 0,.slice none 0 0,.slice none 0 0]) zeroValue158 rfl) ?_;rintro _ _ ⟨b5,rfl,rfl⟩;refine O.opU rfl (.storeObj zD rfl rfl rfl rfl zB zK) ?_;refine O.nil<|S.seq<|S.objIs (b:=b5) (cs' :=[.string (str xs[i].1),.int .i64 xs[i].2.1,.int .i64 xs[i].2.2.1,.slice ia3_15 xs[i].2.2.2.1.length ic3_15,.bool xs[i].2.2.2.2.1,.slice ia5_15 xs[i].2.2.2.2.2.1.length ic5_15,.slice ia6_15 xs[i].2.2.2.2.2.2.1.length ic6_15,.slice ia7_15 (recB xs[i]).length ic7_15]) zB rfl ?_;refine S.frzO zB fun g hs hm hb5=>?_;replace hg:=Fr.sub_trans hg hs;replace hR:=melted hR hm
  try replace hqat:=hqat.mono hs
  try replace hqar:=hqar.mono hs
  try replace hp15:=hp15.mono hs
  try replace ha7_15:=ha7_15.mono hs
  try replace hr15:=hr15.mono hs
  try replace hr1_15:=hr1_15.mono hs
  replace hm1:=meltTrans hm1 hm;clear hs hm;refine S.region rfl<|O.op (.p rfl) (.fieldAddr fld158x1 rfl)<|O.op (.p rfl) (.loadAt flat31 rfl (hb5.drop 7) rfl) ?_;refine O.call0 (.p rfl) rfl zD rfl rfl ((rGetY_c (recGet_self hok) ha7_15 zC)) ?_;rintro _ _ ⟨a3,c3,a5,c5,a6,c6,rfl,rfl⟩
  try simp only [zx1,zx2,zx3]
  refine O.q 3 rfl<|O.opE (.p rfl) (.alloc (cs:=[.string ⟨#[]⟩,.int .i64 0,.int .i64 0,.slice none 0 0,.bool false,.slice none 0 0,.slice none 0 0]) zeroValue74 rfl) ?_;rintro _ _ ⟨b6,rfl,rfl⟩;refine O.opU rfl (.storeObj zD rfl rfl rfl rfl zB zK) ?_;refine O.q 1 rfl<|O.nil<|S.seq<|S.region rfl<|O.q 1 rfl<|O.op (.p rfl) (.eql rfl rfl)<|O.sT 24 rfl zF ?_;refine O.callP0 (.p rfl) rfl zD rfl rfl (smust_c _) (fun ch η' w hX hW=>by (exact absurd hX.1 zG)) ?_;rintro _ _ ⟨hb25,rfl,rfl⟩
  try simp only [zx1,zx2,zx3]
  refine O.nil<|S.listOpen (k' :=7) rfl zB fun css hcl=>?_;rw [← hcl];refine S.region rfl<|O.q 1 rfl<|O.op (.p rfl) (.loA (news:=[_,_,_,_,_,_,_]) isAgg74) ?_;refine O.opE (.p rfl) (.litP (T:=(Rp.cells 7)) (ys:=[_]) underlying47 elem74 zF rfl rfl ⟨⟨rfl,rfl,by first|(simp;done)|(intro v hv;simp [Value.cells] at hv;rcases hv with rfl|rfl<;>rfl)|(refine List.forall_mem_cons.2 ⟨rfl,?_⟩;repeat (first|exact (fun _ h=>absurd h List.not_mem_nil)|refine List.forall_mem_cons.2 ⟨rfl,?_⟩))⟩,trivial⟩ zF) ?_;rintro _ _ ⟨a28,c28,rfl,rfl⟩;refine O.opE (.p rfl) (.appendO (T:=(Rp.cells 7)) underlying47 elem74 zF rfl rfl zB zB zL zL) ?_;rintro _ _ ⟨a29,c29,rfl,rfl⟩;refine O.q 1 rfl<|O.nil<|S.inBlock<|S.region rfl<|O.op (.p rfl) (.add rfl rfl (IntWalk.i64_in _ zC))<|O.q 1 rfl<|O.nil<|S.foldS (A:=(RecG tys).own (recV xs[i] (.slice a3 xs[i].2.2.2.1.length c3) (.slice a5 xs[i].2.2.2.2.2.1.length c5) (.slice a6 xs[i].2.2.2.2.2.2.1.length c6)) xs[i]) (bs:=recWs xs[i] (.slice a3 xs[i].2.2.2.1.length c3) (.slice a5 xs[i].2.2.2.2.2.1.length c5) (.slice a6 xs[i].2.2.2.2.2.2.1.length c6)) zN (fun m h=>recG_sat hok h) ?_;refine S.listPut (G:=RecG tys) (k' :=7) rfl zB zB zB ?_;rw [show xs.take i++[xs[i]]=xs.take (i+1) from (List.take_succ_eq_append_getElem hi).symm];simp only [List.length_singleton];rw [show css.length+1=(xs.take (i+1)).length from by rw [hcl];simp;omega]
  exact S.melt hm1 (S.pw (ih (i+1) ((a29,c29)) zC zC))
 ·clear ih
  have hi:i=xs.length:=by omega
  subst hi;rw [List.take_length];refine S.exit rfl<|S.seq<|S.region rfl<|O.q 2 rfl<|O.nil ?_;exact S.rt results106 rfl hR ⟨s.1,s.2,rfl,rfl⟩
theorem jGet_none {ss:List (List RecT)} {i:Nat} (h:oneK (ss.take i).flatten=false):jGet ss.flatten=none:=by
 have:oneK ss.flatten≠true:=fun q=>by
  rw [show oneK (ss.take i).flatten=true from oneK_of q fun x hx=>by
   obtain ⟨l,h1,h2⟩:=List.mem_flatten.1 hx;exact List.mem_flatten.2 ⟨l,List.mem_of_mem_take h1,h2⟩] at h
  cases h
 rw [jGet,if_neg this]
def JoinK (l:List RecT) (v:Value) (η:List SProp):Prop:=∃ o a c,jGet l=some o∧v=.slice a o.length c∧η=[ListP (RecG tys) 74 (.slice a o.length c) o]
theorem flat_take {ss:List (List RecT)} {i:Nat} (hi:i<ss.length):(ss.take (i+1)).flatten=(ss.take i).flatten++ss[i]:=by
 rw [List.take_succ_eq_append_getElem hi,List.flatten_append];simp
theorem flats_le {ss:List (List RecT)} (i:Nat):(ss.take i).flatten.length≤ss.flatten.length:=by
 have h:=congrArg (fun l=>(List.flatten l).length) (List.take_append_drop i ss);simp only [List.flatten_append,List.length_append] at h
 omega
theorem joinL_le (l:List RecT):(joinL l).length≤l.length:=by
 unfold joinL joinS compR;exact Nat.le_trans (List.length_filter_le ..) (Nat.le_trans (compF_sub ..) (Nat.le_of_eq (sortF_length ..)))
theorem sjoin1_c {r:Fr} {p:Nat} {va:Value} {ss:List (List RecT)} (hp:At r ⟨p,0,none⟩ [va]) (ha:Arr (Rp.slice RecRp) r va ss) (hl:ss.flatten.length≤100000000000) :
  Con prog 103 (#[]++#[]++#[.pointer (some ⟨p,0,none⟩)]) r [] (RetP (fun v η=>JoinK ss.flatten v η) (fun ch η=>∃ z,ch=errP 32 z∧(jGet ss.flatten=none∧z=4)∧η=[])):=by
 have har:=ha;refine Con.of (n:=25) [.pointer (some ⟨p,0,none⟩)] rfl func103 rfl rfl rfl fun g hg R hR=>?_;have hp:=hp.mono hg;have ha:=ha.mono hg;have hbd:=ha.bound;obtain ⟨a1,c1,rfl⟩:=ha.shape;refine S.seq<|S.region rfl<|O.q 1 rfl<|O.nil<|S.seq<|S.region rfl<|O.op (.p rfl) (.build (cs:=[_]) underlying150 rfl rfl rfl rfl rfl)<|O.opE (.p rfl) (.box (cs:=[_]) rfl rfl) ?_;rintro _ _ ⟨b6,rfl,rfl⟩;refine O.q 1 rfl<|O.nil<|S.seq<|S.seq<|S.conv (B:=obj b6 150 [.slice none 0 0]) (C:=RowP r 150 158 5 b6 (ss.take 0).flatten) zB (fun m x=>⟨m,Fr.sub_refl _,RowP.nil x⟩) ?_;refine S.region rfl<|O.op (.p rfl) (.loadAt flat65 rfl hp rfl) ?_;refine O.op (.p rfl) (.len rfl underlying65 rfl)<|O.q 1 rfl<|O.nil<|S.block<|S.loopK (ι:=Nat) (fun i=>i≤ss.length∧oneK (ss.take i).flatten=true) (fun i=>[(9,.int .i64 (i:Int))]) [(2,_),(7,_),(8,_)] (fun i=>[RowP r 150 158 5 b6 (ss.take i).flatten]) (fun i=>ss.length - i) (0) zP (.cons rfl (.nil)) (.cons rfl (.cons rfl (.cons rfl (.nil)))) rfl fun i hx ih=>?_;have hm1:=meltRefl (g:=g);obtain ⟨hx1,hx2⟩:=hx;refine S.seq<|S.region rfl<|O.op (.p rfl) (.lss rfl rfl)<|O.nil (S.seq ?_)
 first|refine S.condD rfl (fun h10=>?_) (fun h10=>?_)|refine S.condB rfl (fun h10=>?_) (fun h10=>?_)
 ·have hi:i<ss.length:=by omega
  have hst:=flat_take hi;have hf1:=flats_le (ss:=ss) (i+1);have hf2:(ss.take i).flatten.length+ss[i].length≤100000000000:=by rw [hst,List.length_append] at hf1;omega
  refine S.skip<|S.seq<|S.block<|S.seq<|S.region rfl<|O.ib (.p rfl) underlying65 size47 rfl rfl rfl har hg (h:=fun p11 cs11 hp11 hrr11=>?_);have hr11:=Rp.rel.mono hrr11 hg;obtain ⟨v11,rfl,ha11⟩:=hrr11;refine O.op (.p rfl) (.loadAt flat47 rfl hp11 rfl) ?_;refine O.q 1 rfl<|O.nil<|S.region rfl<|O.q 1 rfl<|O.op (.p rfl) (.nilCheck rfl)<|O.op (.p rfl) (.fieldObj fld150x0 rfl)<|O.q 1 rfl<|O.callPS (.p rfl) rfl zD rfl rfl zB ((sadd_c ha11 hx2 hf2).sub hg) (fun ch η' w hX hW=>by (obtain ⟨hb,rfl,rfl⟩:=hX;exact hR _ _ w ⟨4,rfl,⟨jGet_none (i:=i+1) (by rw [hst];exact hb),rfl⟩,rfl⟩ hW.drop_all)) ?_;rintro _ _ ⟨hone,rfl,rfl⟩
  try simp only [zx1,zx2,zx3]
  refine O.nil (S.inBlock ?_);rw [← hst] at hone ⊢;refine S.region rfl<|O.op (.p rfl) (.add rfl rfl (IntWalk.i64_in _ zC))<|O.q 1 rfl<|O.nil ?_;exact S.wk (ih (i+1) (by exact ⟨by omega,hone⟩) zC)
 ·clear ih
  have hi:i=ss.length:=by omega
  subst hi;rw [List.take_length] at hx2 ⊢;generalize hxs:ss.flatten=xs at hx2 hl ⊢;have hok:=oneK_all hx2;have hyes:jGet xs=some (joinL xs):=by rw [jGet,if_pos hx2]
  refine S.open (A:=RowP r 150 158 5 b6 xs) zB (fun m x=>x) fun q=>?_;simp only [List.cons_append,List.nil_append];refine S.frz (A:=EachP (ItO r 5) q.2 xs) zB fun g hs hm ⟨_,x',s'⟩=>?_;have hea:=(fun s x=>EachP.all2 (A:=ItO r 5) (fun cs a m' z w=>ItO.rel (Fr.sub_trans hg hs) w z) x s) s' x';clear x' s';replace hg:=Fr.sub_trans hg hs;replace hR:=melted hR hm
  try replace hp:=hp.mono hs
  try replace ha:=ha.mono hs
  replace hm1:=meltTrans hm1 hm;clear hs hm;obtain ⟨ps,hp1,hp2,hps⟩:=zip_it hea;have hpl:xs.length=ps.length:=by rw [← hp2,List.length_map]
  rw [← hp1,hpl];have hpo:∀ p∈ps,recOk p.2=true:=fun p hp=>hok _ (by rw [← hp2];exact List.mem_map.2 ⟨p,hp,rfl⟩);refine S.exit rfl<|S.seq<|S.region rfl<|O.q 1 rfl<|O.callSs (.p rfl) rfl zD rfl rfl zN (ujoin_c hps hpo zC) ?_;rintro v20 _ ⟨qs,a20,c20,rfl,hq20,hr20,rfl⟩
  try simp only [zx1,zx2,zx3]
  refine O.nil (S.seq ?_);have hjm:qs.map (·.2)=joinL xs:=by rw [hq20,hp2]
  have hjo:∀ x∈joinL xs,recOk x=true:=fun x hx=>hok x (joinL_sub hok x hx);have hjl:qs.length=(joinL xs).length:=by rw [← hjm,List.length_map]
  have hjb:(joinL xs).length≤100000000000:=Nat.le_trans (joinL_le xs) hl;refine S.frz (A:=OwnP (Rp.cells 8) 158 (.slice a20 qs.length c20) (qs.map (·.1))) zB fun g hs hm ⟨_,x',s'⟩=>?_;have hqi:=(fun s x=>Arr.ofCells (T:=ItRp) ((OwnP.arr x).mono s) (it_all2 fun p hp=>Rp.mono ItRp hs (hr20 p hp)) rfl) s' x';clear x' s';replace hg:=Fr.sub_trans hg hs;replace hR:=melted hR hm
  try replace hp:=hp.mono hs
  try replace ha:=ha.mono hs
  try replace hea:=hea.mono hs
  replace hm1:=meltTrans hm1 hm;clear hs hm;refine S.frzO zB fun g hs hm hbo=>?_;replace hg:=Fr.sub_trans hg hs;replace hR:=melted hR hm
  try replace hp:=hp.mono hs
  try replace ha:=ha.mono hs
  try replace hea:=hea.mono hs
  try replace hqi:=hqi.mono hs
  try replace hqi:=hqi.mono hs
  replace hm1:=meltTrans hm1 hm;clear hs hm;have hrow:RowA g.h b6 (joinL xs):=⟨a20,c20,by rw [← hjl];exact hbo,by rw [← hjl,← hjm];exact hqi⟩;refine S.region rfl<|O.q 1 rfl<|O.op (.p rfl) (.nilCheck rfl)<|O.op (.p rfl) (.fieldObj fld150x0 rfl)<|O.call0 (.p rfl) rfl zD rfl rfl ((sown_c hrow hjo hjb)) ?_;rintro _ _ ⟨a24,c24,rfl,rfl⟩
  try simp only [zx1,zx2,zx3]
  refine O.q 1 rfl<|O.nil ?_;exact S.rt results103 rfl hR ⟨joinL xs,a24,c24,by rw [hxs];exact hyes,rfl,rfl⟩
def join_t (l:List RecT) (v:Value) (η:List SProp):Prop:=(∃ u,JoinK l u η∧v=.tuple #[u,.int .i64 0])∨(jGet l=none∧v=.tuple #[.slice none 0 0,.int .i64 4]∧η=[])
theorem sTriedJ_c {r:Fr} {first cap:Array Value} {l:List RecT} (con:Con prog 103 (first++#[]++cap) r [] (RetP (fun v η=>JoinK l v η) (fun ch η=>∃ z,ch=errP 32 z∧(jGet l=none∧z=4)∧η=[]))) (h1:(Value.func (.func 103) first cap).oneCell' =true:=by rfl) :
  Con prog 102 #[.func (.func 103) first cap] r [] (Ret fun v η=>join_t l v η) :=
 (triedSS_c zD h1 (fun _ _ h=>by obtain ⟨l,a,c,_,rfl,_⟩:=h;rfl) con).mono (Ret.imp fun v η h=>by
  rcases h with ⟨u,h2,h3⟩|⟨z,⟨h2,rfl⟩,h3,h4⟩
  ·exact .inl ⟨u,h2,h3⟩
  ·exact .inr ⟨h2,h4,h3⟩)
theorem join_tY {l o:List RecT} {v:Value} {η:List SProp} (e:jGet l=some o) (h:join_t l v η):∃ a c,v=.tuple #[.slice a o.length c,.int .i64 0]∧η=[ListP (RecG tys) 74 (.slice a o.length c) o]:=by
 rcases h with ⟨_,⟨y,a,c,h1,rfl,rfl⟩,rfl⟩|⟨h1,_⟩
 ·rw [e] at h1;obtain rfl:=Option.some.inj h1;exact ⟨a,c,rfl,rfl⟩
 ·rw [e] at h1;cases h1
theorem join_tN {l:List RecT} {v:Value} {η:List SProp} (e:jGet l=none) (h:join_t l v η):v=.tuple #[.slice none 0 0,.int .i64 4]∧η=[]:=by
 rcases h with ⟨_,⟨y,a,c,h1,_⟩,_⟩|⟨_,h1,h2⟩
 ·rw [e] at h1;cases h1
 ·exact ⟨h1,h2⟩
def joinO (l:List RecT):List RecT:=(jGet l).getD []
def joinE (l:List RecT):Int:=if (jGet l).isSome then 0 else 4
theorem sJoin_c {r:Fr} {va:Value} {ss:List (List RecT)} (ha:Arr (Rp.slice RecRp) r va ss) (hl:ss.flatten.length≤100000000000):Con prog 38 #[va] r [] (Ret fun v η=>∃ a c,v=.tuple #[.slice a (joinO ss.flatten).length c,.int .i64 (joinE ss.flatten)]∧η=[ListP (RecG tys) 74 (.slice a (joinO ss.flatten).length c) (joinO ss.flatten)]):=by
 refine Con.of (n:=8) _ rfl func38 rfl rfl rfl fun g hg R hR=>?_;have ha:=ha.mono hg;obtain ⟨a1,c1,rfl⟩:=ha.shape
 cases e:jGet ss.flatten with
 |some x =>
  have e1:joinO ss.flatten=x:=by simp [joinO,e]
  have e2:joinE ss.flatten=0:=by simp [joinE,e]
  rw [e1,e2] at hR;refine S.seq<|S.region rfl<|O.opE (.p rfl) (.box (cs:=[_]) rfl rfl) ?_;rintro _ _ ⟨b1,rfl,rfl⟩;refine O.frzO zB fun g hs hm hb1=>?_;replace hg:=Fr.sub_trans hg hs;replace hR:=melted hR hm
  try replace ha:=ha.mono hs
  clear hs hm;refine O.q 2 rfl<|O.nil<|S.seq<|S.region rfl<|O.op (.p rfl) (.mkFunc rfl rfl)<|O.call0 (.p rfl) rfl zD rfl rfl (((sTriedJ_c (sjoin1_c hb1 ha hl)).mono (Ret.imp fun _ _ h=>join_tY e h))) ?_;rintro _ _ ⟨a5,c5,rfl,rfl⟩
  try simp only [zx1,zx2,zx3]
  refine O.q 4 rfl<|O.nil<|S.ret2 results38 rfl rfl fun w hw=>Holds.end_ hR hw ?_;exact pk ⟨a5,c5,rfl,rfl⟩
 |none =>
  have e1:joinO ss.flatten=[]:=by simp [joinO,e]
  have e2:joinE ss.flatten=4:=by simp [joinE,e]
  rw [e1,e2] at hR;refine S.seq<|S.region rfl<|O.opE (.p rfl) (.box (cs:=[_]) rfl rfl) ?_;rintro _ _ ⟨b1,rfl,rfl⟩;refine O.frzO zB fun g hs hm hb1=>?_;replace hg:=Fr.sub_trans hg hs;replace hR:=melted hR hm
  try replace ha:=ha.mono hs
  clear hs hm;refine O.q 2 rfl<|O.nil<|S.seq<|S.region rfl<|O.op (.p rfl) (.mkFunc rfl rfl)<|O.call0 (.p rfl) rfl zD rfl rfl (((sTriedJ_c (sjoin1_c hb1 ha hl)).mono (Ret.imp fun _ _ h=>join_tN e h))) ?_;rintro _ _ ⟨rfl,rfl⟩
  try simp only [zx1,zx2,zx3]
  refine O.q 4 rfl<|O.nil<|S.listNil (RecG tys) 74 ?_;refine S.ret2 results38 rfl rfl fun w hw=>Holds.end_ hR hw ?_;exact pk ⟨none,0,rfl,rfl⟩
def ctxK:List Int→List DotT
 |a::b::l=>(a,b,())::ctxK l
 |_=>[]
theorem ctxK_len:∀ (n:Nat) (l:List Int),l.length≤n→(ctxK l).length=l.length / 2
 |_,[],_=>by simp [ctxK]
 |_,[_],_=>by simp [ctxK]
 |0,_::_::_,h=>absurd h zG
 |n+1,_::_::l,h=>by
  have:=ctxK_len n l (by simp at h;omega)
  simp [ctxK,this];omega
theorem ctxK_at:∀ (k:Nat) (l:List Int) (h:2*k+1<l.length) (h' :k<(ctxK l).length),(ctxK l)[k]=(l[2*k],l[2*k+1],())
 |_,[],h,_=>absurd h zG
 |_,[_],h,_=>absurd h zG
 |0,_::_::_,_,_=>by simp [ctxK]
 |k+1,_::_::l,h,h' =>by
  have:=ctxK_at k l (by simp at h;omega) (by simp [ctxK] at h';omega);simp only [ctxK,List.getElem_cons_succ,show 2*(k+1)=2*k+1+1 by omega];exact this
def recF (c s:Int) (l:List Int):RecT:=([107],c,s,ctxK l,false,[],List.replicate 64 0,())
theorem recF_rel {c s:Int} {l:List Int} {v3 v6:Value} {m:Fr} (hc:InI64 c) (hs:InI64 s) (st:Sat [OwnP DotRp 166 v3 (ctxK l),OwnP Rp.u8 5 v6 (List.replicate 64 0)] m):RecRp.rel m [.string (str [107]),.int .i64 c,.int .i64 s,v3,.bool false,.slice none 0 0,v6] (recF c s l):=by
 obtain ⟨m1,k1,_,s1,t1,o1,m2,_,_,s2,_,o2,_⟩:=st;exact RecRp.mk zF hc hs (o1.arr.mono s1) Arr.nil (o2.arr.mono (Fr.sub_trans s2 t1))
theorem ofF_c {r:Fr} {c s:Int} {va:Value} {l:List Int} (hc:InI64 c) (hs:InI64 s) (ha:Arr Rp.i64 r va l) (hl:l.length≤1000) :
  Con prog 52 #[.int .i64 c,.int .i64 s,va] r [] (Ret fun v η=>∃ a q a' q',v=.agg #[.string (str [107]),.int .i64 c,.int .i64 s,.slice a (ctxK l).length q,.bool false,.slice none 0 0,.slice a' 64 q']∧η=[fun m=>RecRp.rel m [.string (str [107]),.int .i64 c,.int .i64 s,.slice a (ctxK l).length q,.bool false,.slice none 0 0,.slice a' 64 q'] (recF c s l)]):=by
 refine Con.of (n:=36) _ rfl func52 rfl rfl rfl fun g hg R hR=>?_;have ha:=ha.mono hg;obtain ⟨a1,c1,rfl⟩:=ha.shape;have hkl:=ctxK_len l.length l (Nat.le_refl _);refine S.seq<|S.region rfl<|O.opE (.p rfl) (.alloc (cs:=[.string ⟨#[]⟩,.int .i64 0,.int .i64 0,.slice none 0 0,.bool false,.slice none 0 0,.slice none 0 0]) zeroValue74 rfl) ?_;rintro _ _ ⟨b6,rfl,rfl⟩;refine O.nil<|S.seq<|S.region rfl<|O.q 2 rfl<|O.opE (.p rfl) (.makeP (T:=Rp.u8) (0:UInt8) (m:=64) underlying31 elem5 zF rfl rfl rfl rfl rfl zF zF) ?_;rintro _ _ ⟨a11,c11,rfl,rfl⟩;refine O.op (.p rfl) (.build (cs:=[_,_,_,_,_,_,_]) underlying74 rfl rfl rfl rfl rfl)<|O.opE (.p rfl) (.alloc (cs:=[.string ⟨#[]⟩,.int .i64 0,.int .i64 0,.slice none 0 0,.bool false,.slice none 0 0,.slice none 0 0]) zeroValue74 rfl) ?_;rintro _ _ ⟨b7,rfl,rfl⟩;refine O.opU rfl (.storeObj zD rfl rfl rfl rfl zB zK) ?_;refine O.nil<|S.seq<|S.seq<|S.addNil (T:=DotRp) (e:=166) ?_
 refine S.region rfl<|O.q 1 rfl<|O.nil<|S.block<|S.loopK2 (ι:=Nat) (κ:=Option Addr × Nat) (fun k a=>k≤l.length / 2) (fun k a=>[(8,.int .i64 ((2*k:Nat):Int))]) [(2,_),(6,_),(7,_)] (fun k a=>[OwnP DotRp 166 (.slice a.1 k a.2) ((ctxK l).take k),obj b7 74 [.string (str [107]),.int .i64 c,.int .i64 s,.slice a.1 k a.2,.bool false,.slice none 0 0,.slice a11 64 c11],OwnP Rp.u8 5 (.slice a11 64 c11) (List.replicate 64 0),obj b6 74 rec0]) (fun k a=>l.length / 2 - k) (0) ((none,0)) zG (.cons rfl (.nil)) (.cons rfl (.cons rfl (.cons rfl (.nil)))) rfl fun k a hx ih=>?_;have hm1:=meltRefl (g:=g);refine S.seq<|S.seq<|S.region rfl<|O.q 1 rfl<|O.op (.p rfl) (.add rfl rfl (IntWalk.i64_in _ zC))<|O.q 1 rfl<|O.op (.p rfl) (.len rfl underlying25 rfl)<|O.op (.p rfl) (.lss rfl rfl)<|O.nil ?_
 first|refine S.condD rfl (fun h17=>?_) (fun h17=>?_)|refine S.condB rfl (fun h17=>?_) (fun h17=>?_)
 ·have hk:2*k+1<l.length:=by omega
  have hget:=ctxK_at k l hk zC;have hg_o:=hg;have hR_o:=hR
  try have ha_o:=ha
  refine S.frzH (B:=obj b7 74 [.string (str [107]),.int .i64 c,.int .i64 s,.slice a.1 k a.2,.bool false,.slice none 0 0,.slice a11 64 c11]) zB fun go hso ⟨mo,hmo,hsmo⟩ hbo=>?_;replace hg:=Fr.sub_trans hg hso;replace hR:=backR hR hbo
  try replace ha:=ha.mono hso
  have hat:=(obj_at hmo).mono hsmo;refine S.skip<|S.seq<|S.block<|S.regionD (L:=[0,1,2,3,4,5,6,7,8,9,10,11,12,13,14,15]) F.mixed zD<|.quiet (.p rfl) rfl (fun _=>.fieldAddr fld74x3 rfl)<|.quiet (.p rfl) rfl (fun _=>.loadAt flat72 rfl (hat.drop 3) rfl) ?_;refine OD.q 2 rfl<|OD.ia (.p rfl) underlying25 size3 rfl rfl (show _=(((2*k):Nat):Int) by omega) (by first|assumption|exact Arr.mono hg zE|exact Arr.left zE|exact Arr.left (Arr.mono hg zE)) (h:=fun p24 cs24 hp24 hr24=>?_);obtain ⟨rfl,hz24⟩:=hr24;refine .quiet (.p rfl) rfl (fun _=>.loadAt flat3 rfl hp24 rfl) ?_;refine OD.q 2 rfl<|.quiet (.p rfl) rfl (fun _=>.add rfl rfl (IntWalk.i64_in _ zC))<|OD.ia (.p rfl) underlying25 size3 rfl rfl (show _=(((2*k+1):Nat):Int) by omega) (by first|assumption|exact Arr.mono hg zE|exact Arr.left zE|exact Arr.left (Arr.mono hg zE)) (h:=fun p29 cs29 hp29 hr29=>?_);obtain ⟨rfl,hz29⟩:=hr29;refine .quiet (.p rfl) rfl (fun _=>.loadAt flat3 rfl hp29 rfl) ?_;refine .quiet (.p rfl) rfl (fun _=>.build (cs:=[_,_]) underlying166 rfl rfl rfl rfl rfl)<|OD.litP (T:=DotRp) (ys:=[_]) (.p rfl) zD underlying72 elem166 zF rfl rfl ⟨(DotRp.mk zE zE),trivial⟩ zF (fun a32 c32=>?_);refine OD.appendO (.p rfl) zD (T:=DotRp) underlying72 elem166 zF rfl rfl zB zB zL zL (fun a33 c33=>?_)
  refine .quiet (.p rfl) rfl (fun _=>.fieldAddr fld74x3 rfl)<|OD.last1 rfl zD (fun _ hw=>hbo hw) flat72 rfl rfl zO zB (by first|(simp;done)|(simp;omega)) ?_;replace hg:=hg_o;replace hR:=hR_o
  try replace ha:=ha_o
  clear hg_o hR_o;refine S.inBlock ?_;rw [show (ctxK l).take k++[(l[2*k],l[2*k+1],())]=(ctxK l).take (k+1) from by rw [List.take_succ_eq_append_getElem zC,hget]];have htk:((ctxK l).take k).length=k:=by simp;omega
  simp only [htk,List.length_singleton];refine S.region rfl<|O.q 1 rfl<|O.op (.p rfl) (.add rfl rfl (IntWalk.i64_in _ zC))<|O.slot 19 (v' :=.int .i64 ((2*(k+1):Nat):Int)) rfl (by exact congrArg (Value.int .i64) zC) ?_;refine O.q 1 rfl<|O.nil ?_;exact S.pw (ih (k+1) ((a33,c33)) zC zC)
 ·clear ih
  have hk:k=l.length / 2:=by omega
  rw [← hkl] at hk;subst hk;rw [List.take_length];refine S.foldS (A:=fun m=>RecRp.rel m [.string (str [107]),.int .i64 c,.int .i64 s,.slice a.1 (ctxK l).length a.2,.bool false,.slice none 0 0,.slice a11 64 c11] (recF c s l)) (bs:=[OwnP DotRp 166 (.slice a.1 (ctxK l).length a.2) (ctxK l),OwnP Rp.u8 5 (.slice a11 64 c11) (List.replicate 64 0)]) zN (fun m x=>recF_rel hc hs x) ?_;refine S.exit rfl<|S.seq<|S.region rfl<|O.op (.p rfl) (.loA (news:=[_,_,_,_,_,_,_]) isAgg74) ?_;refine O.opU rfl (.storeObj zD rfl rfl rfl rfl zB zK) ?_;refine O.nil<|S.retCellAgg results52 isAgg74 zD rfl zB fun w hw=>Holds.end_ hR hw ?_;exact pk ⟨a.1,a.2,a11,c11,rfl,rfl⟩
theorem joinL_is {l o:List RecT} (ho:∀ x∈l,recOk x=true) (hd:∀ x∈l,∀ y∈l,cmpR x y=0→x=y) (hr:RisesR o) (h1:∀ x∈o,x∈l∧∀ y∈l,cmpR x y≠0→over y x=false) (h2:∀ x∈l,(∀ y∈l,cmpR x y≠0→over y x=false)→x∈o):joinL l=o:=by
 have hm:∀ x,isMin l x↔x∈l:=fun x=>⟨fun h=>h.1,fun h=>⟨h,fun y hy e=>by rw [hd x h y hy e];exact List.lt_irrefl _⟩⟩;refine (joinL_of ho hr fun x=>?_).symm
 constructor
 ·intro h
  exact ⟨(hm x).2 (h1 x h).1,fun y hy=>(h1 x h).2 y ((hm y).1 hy)⟩
 ·intro h
  exact h2 x ((hm x).1 h.1) fun y hy=>h.2 y ((hm y).2 hy)
theorem joinO_is {l o:List RecT} (h:oneK l=true) (e:joinL l=o):joinO l=o∧joinE l=0:=by
 have:jGet l=some o:=by rw [jGet,if_pos h,e]
 exact ⟨by simp [joinO,this],by simp [joinE,this]⟩
theorem ja:joinO [recF 2 1 [],recF 1 1 [],recF 1 1 []]=[recF 1 1 [],recF 2 1 []]∧joinE [recF 2 1 [],recF 1 1 [],recF 1 1 []]=0:=joinO_is zF (joinL_is zF zF zF zF zF)
theorem jb:joinO [recF 1 1 [],recF 2 2 [1,1,2,1],recF 2 1 []]=[recF 2 2 [1,1,2,1]]∧joinE [recF 1 1 [],recF 2 2 [1,1,2,1],recF 2 1 []]=0:=joinO_is zF (joinL_is zF zF zF zF zF)
theorem jc:joinO [recF 1 5 [2,6],recF 2 6 [1,5]]=[]∧joinE [recF 1 5 [2,6],recF 2 6 [1,5]]=0:=joinO_is zF (joinL_is zF zF zF zF zF)
theorem sawake_c {r:Fr}:Con prog 36 #[] r [] (Ret fun v η=>v=.bool true∧η=[]):=by
 refine Con.of (n:=87) _ rfl func36 rfl rfl rfl fun g hg R hR=>?_;refine S.seq<|S.region rfl<|O.q 1 rfl<|O.nil<|S.seq<|S.region rfl<|O.call0 (.p rfl) rfl zD rfl rfl ((ofF_c (c:=1) (s:=1) (l:=[]) zU zU Arr.nil zF)) ?_;rintro _ _ ⟨a12,c12,d12,e12,rfl,rfl⟩
 try simp only [zx1,zx2,zx3]
 refine O.call0 (.p rfl) rfl zD rfl rfl ((ofF_c (c:=2) (s:=1) (l:=[]) zU zU Arr.nil zF)) ?_;rintro _ _ ⟨a13,c13,d13,e13,rfl,rfl⟩
 try simp only [zx1,zx2,zx3]
 refine O.opE (.p rfl) (.litP (T:=Rp.i64) (ys:=[1,1,2,1]) underlying25 elem3 zF rfl rfl ⟨⟨rfl,by first|assumption|(constructor<;>omega)⟩,⟨rfl,by first|assumption|(constructor<;>omega)⟩,⟨rfl,by first|assumption|(constructor<;>omega)⟩,⟨rfl,by first|assumption|(constructor<;>omega)⟩,trivial⟩ zF) ?_;rintro _ _ ⟨a14,c14,rfl,rfl⟩;refine O.frzA zB fun g hs hm ha14=>?_;replace hg:=Fr.sub_trans hg hs;replace hR:=melted hR hm;clear hs hm;refine O.call0 (.p rfl) rfl zD rfl rfl ((ofF_c (c:=2) (s:=2) (l:=[1,1,2,1]) zU zU ha14 zF)) ?_;rintro _ _ ⟨a15,c15,d15,e15,rfl,rfl⟩
 try simp only [zx1,zx2,zx3]
 refine O.opE (.p rfl) (.alloc (cs:=[.string ⟨#[]⟩,.int .i64 0,.int .i64 0,.slice none 0 0,.bool false,.slice none 0 0,.slice none 0 0]) zeroValue74 rfl) ?_;rintro _ _ ⟨b1,rfl,rfl⟩;refine O.opE (.p rfl) (.alloc (cs:=[.string ⟨#[]⟩,.int .i64 0,.int .i64 0,.slice none 0 0,.bool false,.slice none 0 0,.slice none 0 0]) zeroValue74 rfl) ?_;rintro _ _ ⟨b2,rfl,rfl⟩;refine O.opE (.p rfl) (.alloc (cs:=[.string ⟨#[]⟩,.int .i64 0,.int .i64 0,.slice none 0 0,.bool false,.slice none 0 0,.slice none 0 0]) zeroValue74 rfl) ?_;rintro _ _ ⟨b3,rfl,rfl⟩;refine O.opU rfl (.storeObj zD rfl rfl rfl rfl zB zK) ?_;refine O.opU rfl (.storeObj zD rfl rfl rfl rfl zB zK) ?_;refine O.opU rfl (.storeObj zD rfl rfl rfl rfl zB zK) ?_;refine O.nil<|S.seq<|S.frz (A:=(fun m=>RecRp.rel m [.string (str [107]),.int .i64 1,.int .i64 1,.slice a12 0 c12,.bool false,.slice none 0 0,.slice d12 64 e12] (recF 1 1 []))) zB fun g hs hm ⟨_,x',s'⟩=>?_;have hA:=(fun s x=>Rp.mono RecRp s x) s' x';clear x' s';replace hg:=Fr.sub_trans hg hs;replace hR:=melted hR hm
 try replace ha14:=ha14.mono hs
 clear hs hm;refine S.frz (A:=(fun m=>RecRp.rel m [.string (str [107]),.int .i64 2,.int .i64 1,.slice a13 0 c13,.bool false,.slice none 0 0,.slice d13 64 e13] (recF 2 1 []))) zB fun g hs hm ⟨_,x',s'⟩=>?_;have hB:=(fun s x=>Rp.mono RecRp s x) s' x';clear x' s';replace hg:=Fr.sub_trans hg hs;replace hR:=melted hR hm
 try replace ha14:=ha14.mono hs
 try replace hA:=hA.mono hs
 try replace hA:=hA.mono hs
 clear hs hm;refine S.frz (A:=(fun m=>RecRp.rel m [.string (str [107]),.int .i64 2,.int .i64 2,.slice a15 2 c15,.bool false,.slice none 0 0,.slice d15 64 e15] (recF 2 2 [1,1,2,1]))) zB fun g hs hm ⟨_,x',s'⟩=>?_;have hC:=(fun s x=>Rp.mono RecRp s x) s' x';clear x' s';replace hg:=Fr.sub_trans hg hs;replace hR:=melted hR hm
 try replace ha14:=ha14.mono hs
 try replace hA:=hA.mono hs
 try replace hA:=hA.mono hs
 try replace hB:=hB.mono hs
 try replace hB:=hB.mono hs
 clear hs hm;refine S.objIs (b:=b1) (cs' :=[.string (str [107]),.int .i64 1,.int .i64 1,.slice a12 0 c12,.bool false,.slice none 0 0,.slice d12 64 e12]) zB rfl ?_;refine S.objIs (b:=b2) (cs' :=[.string (str [107]),.int .i64 2,.int .i64 1,.slice a13 0 c13,.bool false,.slice none 0 0,.slice d13 64 e13]) zB rfl ?_;refine S.objIs (b:=b3) (cs' :=[.string (str [107]),.int .i64 2,.int .i64 2,.slice a15 2 c15,.bool false,.slice none 0 0,.slice d15 64 e15]) zB rfl ?_;refine S.frzO zB fun g hs hm hb3=>?_;replace hg:=Fr.sub_trans hg hs;replace hR:=melted hR hm
 try replace ha14:=ha14.mono hs
 try replace hA:=hA.mono hs
 try replace hA:=hA.mono hs
 try replace hB:=hB.mono hs
 try replace hB:=hB.mono hs
 try replace hC:=hC.mono hs
 try replace hC:=hC.mono hs
 clear hs hm;refine S.frzO zB fun g hs hm hb2=>?_;replace hg:=Fr.sub_trans hg hs;replace hR:=melted hR hm
 try replace ha14:=ha14.mono hs
 try replace hA:=hA.mono hs
 try replace hA:=hA.mono hs
 try replace hB:=hB.mono hs
 try replace hB:=hB.mono hs
 try replace hC:=hC.mono hs
 try replace hC:=hC.mono hs
 try replace hb3:=hb3.mono hs
 try replace hb3:=hb3.mono hs
 clear hs hm;refine S.frzO zB fun g hs hm hb1=>?_;replace hg:=Fr.sub_trans hg hs;replace hR:=melted hR hm
 try replace ha14:=ha14.mono hs
 try replace hA:=hA.mono hs
 try replace hA:=hA.mono hs
 try replace hB:=hB.mono hs
 try replace hB:=hB.mono hs
 try replace hC:=hC.mono hs
 try replace hC:=hC.mono hs
 try replace hb3:=hb3.mono hs
 try replace hb3:=hb3.mono hs
 try replace hb2:=hb2.mono hs
 try replace hb2:=hb2.mono hs
 clear hs hm;refine S.region rfl<|O.op (.p rfl) (.loadAgg isAgg74 zD rfl hb2) ?_;refine O.opE (.p rfl) (.litP (T:=Rp.cells 7) (ys:=[[.string (str [107]),.int .i64 2,.int .i64 1,.slice a13 0 c13,.bool false,.slice none 0 0,.slice d13 64 e13]]) underlying47 elem74 zF rfl rfl ⟨⟨rfl,rfl,by first|(simp;done)|(intro v hv;simp [Value.cells] at hv;rcases hv with rfl|rfl<;>rfl)|(refine List.forall_mem_cons.2 ⟨rfl,?_⟩;repeat (first|exact (fun _ h=>absurd h List.not_mem_nil)|refine List.forall_mem_cons.2 ⟨rfl,?_⟩))⟩,trivial⟩ zF) ?_;rintro _ _ ⟨a18,c18,rfl,rfl⟩;refine O.frzA zB fun g hs hm ha18=>?_;replace hg:=Fr.sub_trans hg hs;replace hR:=melted hR hm
 try replace ha14:=ha14.mono hs
 try replace hA:=hA.mono hs
 try replace hA:=hA.mono hs
 try replace hB:=hB.mono hs
 try replace hB:=hB.mono hs
 try replace hC:=hC.mono hs
 try replace hC:=hC.mono hs
 try replace hb3:=hb3.mono hs
 try replace hb3:=hb3.mono hs
 try replace hb2:=hb2.mono hs
 try replace hb2:=hb2.mono hs
 try replace hb1:=hb1.mono hs
 try replace hb1:=hb1.mono hs
 clear hs hm;refine O.op (.p rfl) (.loadAgg isAgg74 zD rfl hb1) ?_;refine O.op (.p rfl) (.loadAgg isAgg74 zD rfl hb1) ?_;refine O.opE (.p rfl) (.litP (T:=Rp.cells 7) (ys:=[[.string (str [107]),.int .i64 1,.int .i64 1,.slice a12 0 c12,.bool false,.slice none 0 0,.slice d12 64 e12],[.string (str [107]),.int .i64 1,.int .i64 1,.slice a12 0 c12,.bool false,.slice none 0 0,.slice d12 64 e12]]) underlying47 elem74 zF rfl rfl ⟨⟨rfl,rfl,by first|(simp;done)|(intro v hv;simp [Value.cells] at hv;rcases hv with rfl|rfl<;>rfl)|(refine List.forall_mem_cons.2 ⟨rfl,?_⟩;repeat (first|exact (fun _ h=>absurd h List.not_mem_nil)|refine List.forall_mem_cons.2 ⟨rfl,?_⟩))⟩,⟨rfl,rfl,by first|(simp;done)|(intro v hv;simp [Value.cells] at hv;rcases hv with rfl|rfl<;>rfl)|(refine List.forall_mem_cons.2 ⟨rfl,?_⟩;repeat (first|exact (fun _ h=>absurd h List.not_mem_nil)|refine List.forall_mem_cons.2 ⟨rfl,?_⟩))⟩,trivial⟩ zF) ?_;rintro _ _ ⟨a21,c21,rfl,rfl⟩;refine O.frzA zB fun g hs hm ha21=>?_;replace hg:=Fr.sub_trans hg hs;replace hR:=melted hR hm
 try replace ha14:=ha14.mono hs
 try replace hA:=hA.mono hs
 try replace hA:=hA.mono hs
 try replace hB:=hB.mono hs
 try replace hB:=hB.mono hs
 try replace hC:=hC.mono hs
 try replace hC:=hC.mono hs
 try replace hb3:=hb3.mono hs
 try replace hb3:=hb3.mono hs
 try replace hb2:=hb2.mono hs
 try replace hb2:=hb2.mono hs
 try replace hb1:=hb1.mono hs
 try replace hb1:=hb1.mono hs
 try replace ha18:=ha18.mono hs
 clear hs hm;refine O.opE (.p rfl) (.litP (T:=Rp.cells 1) (ys:=[[.slice a18 1 c18],[.slice a21 2 c21]]) underlying65 elem47 zF rfl rfl ⟨⟨rfl,rfl,by first|(simp;done)|(intro v hv;simp [Value.cells] at hv;rcases hv with rfl|rfl<;>rfl)|(refine List.forall_mem_cons.2 ⟨rfl,?_⟩;repeat (first|exact (fun _ h=>absurd h List.not_mem_nil)|refine List.forall_mem_cons.2 ⟨rfl,?_⟩))⟩,⟨rfl,rfl,by first|(simp;done)|(intro v hv;simp [Value.cells] at hv;rcases hv with rfl|rfl<;>rfl)|(refine List.forall_mem_cons.2 ⟨rfl,?_⟩;repeat (first|exact (fun _ h=>absurd h List.not_mem_nil)|refine List.forall_mem_cons.2 ⟨rfl,?_⟩))⟩,trivial⟩ zF) ?_;rintro _ _ ⟨a22,c22,rfl,rfl⟩;refine O.frzA zB fun g hs hm ha22=>?_;replace hg:=Fr.sub_trans hg hs;replace hR:=melted hR hm
 try replace ha14:=ha14.mono hs
 try replace hA:=hA.mono hs
 try replace hA:=hA.mono hs
 try replace hB:=hB.mono hs
 try replace hB:=hB.mono hs
 try replace hC:=hC.mono hs
 try replace hC:=hC.mono hs
 try replace hb3:=hb3.mono hs
 try replace hb3:=hb3.mono hs
 try replace hb2:=hb2.mono hs
 try replace hb2:=hb2.mono hs
 try replace hb1:=hb1.mono hs
 try replace hb1:=hb1.mono hs
 try replace ha18:=ha18.mono hs
 try replace ha21:=ha21.mono hs
 clear hs hm;refine O.call0 (.p rfl) rfl zD rfl rfl ((sJoin_c (ss:=[[recF 2 1 []],[recF 1 1 [],recF 1 1 []]]) (Arr.ofCells ha22 ⟨⟨_,rfl,Arr.ofCells ha18 ⟨hB,trivial⟩ rfl⟩,⟨_,rfl,Arr.ofCells ha21 ⟨hA,hA,trivial⟩ rfl⟩,trivial⟩ rfl) zF)) ?_;rintro _ _ ⟨a23,c23,rfl,rfl⟩
 try simp only [zx1,zx2,zx3]
 rw [show joinO [[recF 2 1 []],[recF 1 1 [],recF 1 1 []]].flatten=_ from ja.1,show joinE [[recF 2 1 []],[recF 1 1 [],recF 1 1 []]].flatten=_ from ja.2];refine O.q 5 rfl<|O.nil<|S.seq<|S.frzG (T:=RecRp) rfl zB fun g hs hm hX=>?_;replace hg:=Fr.sub_trans hg hs;replace hR:=melted hR hm
 try replace ha14:=ha14.mono hs
 try replace hA:=hA.mono hs
 try replace hA:=hA.mono hs
 try replace hB:=hB.mono hs
 try replace hB:=hB.mono hs
 try replace hC:=hC.mono hs
 try replace hC:=hC.mono hs
 try replace hb3:=hb3.mono hs
 try replace hb3:=hb3.mono hs
 try replace hb2:=hb2.mono hs
 try replace hb2:=hb2.mono hs
 try replace hb1:=hb1.mono hs
 try replace hb1:=hb1.mono hs
 try replace ha18:=ha18.mono hs
 try replace ha21:=ha21.mono hs
 try replace ha22:=ha22.mono hs
 clear hs hm;refine S.region rfl<|O.op (.p rfl) (.loadAgg isAgg74 zD rfl hb1) ?_;refine O.op (.p rfl) (.loadAgg isAgg74 zD rfl hb3) ?_;refine O.opE (.p rfl) (.litP (T:=Rp.cells 7) (ys:=[[.string (str [107]),.int .i64 1,.int .i64 1,.slice a12 0 c12,.bool false,.slice none 0 0,.slice d12 64 e12],[.string (str [107]),.int .i64 2,.int .i64 2,.slice a15 2 c15,.bool false,.slice none 0 0,.slice d15 64 e15]]) underlying47 elem74 zF rfl rfl ⟨⟨rfl,rfl,by first|(simp;done)|(intro v hv;simp [Value.cells] at hv;rcases hv with rfl|rfl<;>rfl)|(refine List.forall_mem_cons.2 ⟨rfl,?_⟩;repeat (first|exact (fun _ h=>absurd h List.not_mem_nil)|refine List.forall_mem_cons.2 ⟨rfl,?_⟩))⟩,⟨rfl,rfl,by first|(simp;done)|(intro v hv;simp [Value.cells] at hv;rcases hv with rfl|rfl<;>rfl)|(refine List.forall_mem_cons.2 ⟨rfl,?_⟩;repeat (first|exact (fun _ h=>absurd h List.not_mem_nil)|refine List.forall_mem_cons.2 ⟨rfl,?_⟩))⟩,trivial⟩ zF) ?_;rintro _ _ ⟨a29,c29,rfl,rfl⟩;refine O.frzA zB fun g hs hm ha29=>?_;replace hg:=Fr.sub_trans hg hs;replace hR:=melted hR hm
 try replace ha14:=ha14.mono hs
 try replace hA:=hA.mono hs
 try replace hA:=hA.mono hs
 try replace hB:=hB.mono hs
 try replace hB:=hB.mono hs
 try replace hC:=hC.mono hs
 try replace hC:=hC.mono hs
 try replace hb3:=hb3.mono hs
 try replace hb3:=hb3.mono hs
 try replace hb2:=hb2.mono hs
 try replace hb2:=hb2.mono hs
 try replace hb1:=hb1.mono hs
 try replace hb1:=hb1.mono hs
 try replace ha18:=ha18.mono hs
 try replace ha21:=ha21.mono hs
 try replace ha22:=ha22.mono hs
 try replace hX:=hX.mono hs
 try replace hX:=hX.mono hs
 clear hs hm;refine O.op (.p rfl) (.loadAgg isAgg74 zD rfl hb2) ?_;refine O.opE (.p rfl) (.litP (T:=Rp.cells 7) (ys:=[[.string (str [107]),.int .i64 2,.int .i64 1,.slice a13 0 c13,.bool false,.slice none 0 0,.slice d13 64 e13]]) underlying47 elem74 zF rfl rfl ⟨⟨rfl,rfl,by first|(simp;done)|(intro v hv;simp [Value.cells] at hv;rcases hv with rfl|rfl<;>rfl)|(refine List.forall_mem_cons.2 ⟨rfl,?_⟩;repeat (first|exact (fun _ h=>absurd h List.not_mem_nil)|refine List.forall_mem_cons.2 ⟨rfl,?_⟩))⟩,trivial⟩ zF) ?_;rintro _ _ ⟨a31,c31,rfl,rfl⟩;refine O.frzA zB fun g hs hm ha31=>?_;replace hg:=Fr.sub_trans hg hs;replace hR:=melted hR hm
 try replace ha14:=ha14.mono hs
 try replace hA:=hA.mono hs
 try replace hA:=hA.mono hs
 try replace hB:=hB.mono hs
 try replace hB:=hB.mono hs
 try replace hC:=hC.mono hs
 try replace hC:=hC.mono hs
 try replace hb3:=hb3.mono hs
 try replace hb3:=hb3.mono hs
 try replace hb2:=hb2.mono hs
 try replace hb2:=hb2.mono hs
 try replace hb1:=hb1.mono hs
 try replace hb1:=hb1.mono hs
 try replace ha18:=ha18.mono hs
 try replace ha21:=ha21.mono hs
 try replace ha22:=ha22.mono hs
 try replace hX:=hX.mono hs
 try replace hX:=hX.mono hs
 try replace ha29:=ha29.mono hs
 clear hs hm;refine O.opE (.p rfl) (.litP (T:=Rp.cells 1) (ys:=[[.slice a29 2 c29],[.slice a31 1 c31]]) underlying65 elem47 zF rfl rfl ⟨⟨rfl,rfl,by first|(simp;done)|(intro v hv;simp [Value.cells] at hv;rcases hv with rfl|rfl<;>rfl)|(refine List.forall_mem_cons.2 ⟨rfl,?_⟩;repeat (first|exact (fun _ h=>absurd h List.not_mem_nil)|refine List.forall_mem_cons.2 ⟨rfl,?_⟩))⟩,⟨rfl,rfl,by first|(simp;done)|(intro v hv;simp [Value.cells] at hv;rcases hv with rfl|rfl<;>rfl)|(refine List.forall_mem_cons.2 ⟨rfl,?_⟩;repeat (first|exact (fun _ h=>absurd h List.not_mem_nil)|refine List.forall_mem_cons.2 ⟨rfl,?_⟩))⟩,trivial⟩ zF) ?_;rintro _ _ ⟨a32,c32,rfl,rfl⟩;refine O.frzA zB fun g hs hm ha32=>?_;replace hg:=Fr.sub_trans hg hs;replace hR:=melted hR hm
 try replace ha14:=ha14.mono hs
 try replace hA:=hA.mono hs
 try replace hA:=hA.mono hs
 try replace hB:=hB.mono hs
 try replace hB:=hB.mono hs
 try replace hC:=hC.mono hs
 try replace hC:=hC.mono hs
 try replace hb3:=hb3.mono hs
 try replace hb3:=hb3.mono hs
 try replace hb2:=hb2.mono hs
 try replace hb2:=hb2.mono hs
 try replace hb1:=hb1.mono hs
 try replace hb1:=hb1.mono hs
 try replace ha18:=ha18.mono hs
 try replace ha21:=ha21.mono hs
 try replace ha22:=ha22.mono hs
 try replace hX:=hX.mono hs
 try replace hX:=hX.mono hs
 try replace ha29:=ha29.mono hs
 try replace ha31:=ha31.mono hs
 clear hs hm;refine O.call0 (.p rfl) rfl zD rfl rfl ((sJoin_c (ss:=[[recF 1 1 [],recF 2 2 [1,1,2,1]],[recF 2 1 []]]) (Arr.ofCells ha32 ⟨⟨_,rfl,Arr.ofCells ha29 ⟨hA,hC,trivial⟩ rfl⟩,⟨_,rfl,Arr.ofCells ha31 ⟨hB,trivial⟩ rfl⟩,trivial⟩ rfl) zF)) ?_;rintro _ _ ⟨a33,c33,rfl,rfl⟩
 try simp only [zx1,zx2,zx3]
 rw [show joinO [[recF 1 1 [],recF 2 2 [1,1,2,1]],[recF 2 1 []]].flatten=_ from jb.1,show joinE [[recF 1 1 [],recF 2 2 [1,1,2,1]],[recF 2 1 []]].flatten=_ from jb.2];refine O.q 5 rfl<|O.nil<|S.seq<|S.frzG (T:=RecRp) rfl zB fun g hs hm hY=>?_;replace hg:=Fr.sub_trans hg hs;replace hR:=melted hR hm
 try replace ha14:=ha14.mono hs
 try replace hA:=hA.mono hs
 try replace hA:=hA.mono hs
 try replace hB:=hB.mono hs
 try replace hB:=hB.mono hs
 try replace hC:=hC.mono hs
 try replace hC:=hC.mono hs
 try replace hb3:=hb3.mono hs
 try replace hb3:=hb3.mono hs
 try replace hb2:=hb2.mono hs
 try replace hb2:=hb2.mono hs
 try replace hb1:=hb1.mono hs
 try replace hb1:=hb1.mono hs
 try replace ha18:=ha18.mono hs
 try replace ha21:=ha21.mono hs
 try replace ha22:=ha22.mono hs
 try replace hX:=hX.mono hs
 try replace hX:=hX.mono hs
 try replace ha29:=ha29.mono hs
 try replace ha31:=ha31.mono hs
 try replace ha32:=ha32.mono hs
 clear hs hm;refine S.region rfl<|O.opE (.p rfl) (.litP (T:=Rp.i64) (ys:=[2,6]) underlying25 elem3 zF rfl rfl ⟨⟨rfl,by first|assumption|(constructor<;>omega)⟩,⟨rfl,by first|assumption|(constructor<;>omega)⟩,trivial⟩ zF) ?_;rintro _ _ ⟨a37,c37,rfl,rfl⟩;refine O.frzA zB fun g hs hm ha37=>?_;replace hg:=Fr.sub_trans hg hs;replace hR:=melted hR hm
 try replace ha14:=ha14.mono hs
 try replace hA:=hA.mono hs
 try replace hA:=hA.mono hs
 try replace hB:=hB.mono hs
 try replace hB:=hB.mono hs
 try replace hC:=hC.mono hs
 try replace hC:=hC.mono hs
 try replace hb3:=hb3.mono hs
 try replace hb3:=hb3.mono hs
 try replace hb2:=hb2.mono hs
 try replace hb2:=hb2.mono hs
 try replace hb1:=hb1.mono hs
 try replace hb1:=hb1.mono hs
 try replace ha18:=ha18.mono hs
 try replace ha21:=ha21.mono hs
 try replace ha22:=ha22.mono hs
 try replace hX:=hX.mono hs
 try replace hX:=hX.mono hs
 try replace ha29:=ha29.mono hs
 try replace ha31:=ha31.mono hs
 try replace ha32:=ha32.mono hs
 try replace hY:=hY.mono hs
 try replace hY:=hY.mono hs
 clear hs hm;refine O.call0 (.p rfl) rfl zD rfl rfl ((ofF_c (c:=1) (s:=5) (l:=[2,6]) zU zU ha37 zF)) ?_;rintro _ _ ⟨a38,c38,d38,e38,rfl,rfl⟩
 try simp only [zx1,zx2,zx3]
 refine O.opE (.p rfl) (.litP (T:=Rp.i64) (ys:=[1,5]) underlying25 elem3 zF rfl rfl ⟨⟨rfl,by first|assumption|(constructor<;>omega)⟩,⟨rfl,by first|assumption|(constructor<;>omega)⟩,trivial⟩ zF) ?_;rintro _ _ ⟨a39,c39,rfl,rfl⟩;refine O.frzA zB fun g hs hm ha39=>?_;replace hg:=Fr.sub_trans hg hs;replace hR:=melted hR hm
 try replace ha14:=ha14.mono hs
 try replace hA:=hA.mono hs
 try replace hA:=hA.mono hs
 try replace hB:=hB.mono hs
 try replace hB:=hB.mono hs
 try replace hC:=hC.mono hs
 try replace hC:=hC.mono hs
 try replace hb3:=hb3.mono hs
 try replace hb3:=hb3.mono hs
 try replace hb2:=hb2.mono hs
 try replace hb2:=hb2.mono hs
 try replace hb1:=hb1.mono hs
 try replace hb1:=hb1.mono hs
 try replace ha18:=ha18.mono hs
 try replace ha21:=ha21.mono hs
 try replace ha22:=ha22.mono hs
 try replace hX:=hX.mono hs
 try replace hX:=hX.mono hs
 try replace ha29:=ha29.mono hs
 try replace ha31:=ha31.mono hs
 try replace ha32:=ha32.mono hs
 try replace hY:=hY.mono hs
 try replace hY:=hY.mono hs
 try replace ha37:=ha37.mono hs
 clear hs hm;refine O.call0 (.p rfl) rfl zD rfl rfl ((ofF_c (c:=2) (s:=6) (l:=[1,5]) zU zU ha39 zF)) ?_;rintro _ _ ⟨a40,c40,d40,e40,rfl,rfl⟩
 try simp only [zx1,zx2,zx3]
 refine O.frz (A:=(fun m=>RecRp.rel m [.string (str [107]),.int .i64 1,.int .i64 5,.slice a38 1 c38,.bool false,.slice none 0 0,.slice d38 64 e38] (recF 1 5 [2,6]))) zB fun g hs hm ⟨_,x',s'⟩=>?_;have hD:=(fun s x=>Rp.mono RecRp s x) s' x';clear x' s';replace hg:=Fr.sub_trans hg hs;replace hR:=melted hR hm
 try replace ha14:=ha14.mono hs
 try replace hA:=hA.mono hs
 try replace hA:=hA.mono hs
 try replace hB:=hB.mono hs
 try replace hB:=hB.mono hs
 try replace hC:=hC.mono hs
 try replace hC:=hC.mono hs
 try replace hb3:=hb3.mono hs
 try replace hb3:=hb3.mono hs
 try replace hb2:=hb2.mono hs
 try replace hb2:=hb2.mono hs
 try replace hb1:=hb1.mono hs
 try replace hb1:=hb1.mono hs
 try replace ha18:=ha18.mono hs
 try replace ha21:=ha21.mono hs
 try replace ha22:=ha22.mono hs
 try replace hX:=hX.mono hs
 try replace hX:=hX.mono hs
 try replace ha29:=ha29.mono hs
 try replace ha31:=ha31.mono hs
 try replace ha32:=ha32.mono hs
 try replace hY:=hY.mono hs
 try replace hY:=hY.mono hs
 try replace ha37:=ha37.mono hs
 try replace ha39:=ha39.mono hs
 clear hs hm;refine O.frz (A:=(fun m=>RecRp.rel m [.string (str [107]),.int .i64 2,.int .i64 6,.slice a40 1 c40,.bool false,.slice none 0 0,.slice d40 64 e40] (recF 2 6 [1,5]))) zB fun g hs hm ⟨_,x',s'⟩=>?_;have hE:=(fun s x=>Rp.mono RecRp s x) s' x';clear x' s';replace hg:=Fr.sub_trans hg hs;replace hR:=melted hR hm
 try replace ha14:=ha14.mono hs
 try replace hA:=hA.mono hs
 try replace hA:=hA.mono hs
 try replace hB:=hB.mono hs
 try replace hB:=hB.mono hs
 try replace hC:=hC.mono hs
 try replace hC:=hC.mono hs
 try replace hb3:=hb3.mono hs
 try replace hb3:=hb3.mono hs
 try replace hb2:=hb2.mono hs
 try replace hb2:=hb2.mono hs
 try replace hb1:=hb1.mono hs
 try replace hb1:=hb1.mono hs
 try replace ha18:=ha18.mono hs
 try replace ha21:=ha21.mono hs
 try replace ha22:=ha22.mono hs
 try replace hX:=hX.mono hs
 try replace hX:=hX.mono hs
 try replace ha29:=ha29.mono hs
 try replace ha31:=ha31.mono hs
 try replace ha32:=ha32.mono hs
 try replace hY:=hY.mono hs
 try replace hY:=hY.mono hs
 try replace ha37:=ha37.mono hs
 try replace ha39:=ha39.mono hs
 try replace hD:=hD.mono hs
 clear hs hm;refine O.opE (.p rfl) (.litP (T:=Rp.cells 7) (ys:=[[.string (str [107]),.int .i64 1,.int .i64 5,.slice a38 1 c38,.bool false,.slice none 0 0,.slice d38 64 e38],[.string (str [107]),.int .i64 2,.int .i64 6,.slice a40 1 c40,.bool false,.slice none 0 0,.slice d40 64 e40]]) underlying47 elem74 zF rfl rfl ⟨⟨rfl,rfl,by first|(simp;done)|(intro v hv;simp [Value.cells] at hv;rcases hv with rfl|rfl<;>rfl)|(refine List.forall_mem_cons.2 ⟨rfl,?_⟩;repeat (first|exact (fun _ h=>absurd h List.not_mem_nil)|refine List.forall_mem_cons.2 ⟨rfl,?_⟩))⟩,⟨rfl,rfl,by first|(simp;done)|(intro v hv;simp [Value.cells] at hv;rcases hv with rfl|rfl<;>rfl)|(refine List.forall_mem_cons.2 ⟨rfl,?_⟩;repeat (first|exact (fun _ h=>absurd h List.not_mem_nil)|refine List.forall_mem_cons.2 ⟨rfl,?_⟩))⟩,trivial⟩ zF) ?_;rintro _ _ ⟨a41,c41,rfl,rfl⟩;refine O.frzA zB fun g hs hm ha41=>?_;replace hg:=Fr.sub_trans hg hs;replace hR:=melted hR hm
 try replace ha14:=ha14.mono hs
 try replace hA:=hA.mono hs
 try replace hA:=hA.mono hs
 try replace hB:=hB.mono hs
 try replace hB:=hB.mono hs
 try replace hC:=hC.mono hs
 try replace hC:=hC.mono hs
 try replace hb3:=hb3.mono hs
 try replace hb3:=hb3.mono hs
 try replace hb2:=hb2.mono hs
 try replace hb2:=hb2.mono hs
 try replace hb1:=hb1.mono hs
 try replace hb1:=hb1.mono hs
 try replace ha18:=ha18.mono hs
 try replace ha21:=ha21.mono hs
 try replace ha22:=ha22.mono hs
 try replace hX:=hX.mono hs
 try replace hX:=hX.mono hs
 try replace ha29:=ha29.mono hs
 try replace ha31:=ha31.mono hs
 try replace ha32:=ha32.mono hs
 try replace hY:=hY.mono hs
 try replace hY:=hY.mono hs
 try replace ha37:=ha37.mono hs
 try replace ha39:=ha39.mono hs
 try replace hD:=hD.mono hs
 try replace hE:=hE.mono hs
 clear hs hm;refine O.opE (.p rfl) (.litP (T:=Rp.cells 1) (ys:=[[.slice a41 2 c41]]) underlying65 elem47 zF rfl rfl ⟨⟨rfl,rfl,by first|(simp;done)|(intro v hv;simp [Value.cells] at hv;rcases hv with rfl|rfl<;>rfl)|(refine List.forall_mem_cons.2 ⟨rfl,?_⟩;repeat (first|exact (fun _ h=>absurd h List.not_mem_nil)|refine List.forall_mem_cons.2 ⟨rfl,?_⟩))⟩,trivial⟩ zF) ?_;rintro _ _ ⟨a42,c42,rfl,rfl⟩;refine O.frzA zB fun g hs hm ha42=>?_;replace hg:=Fr.sub_trans hg hs;replace hR:=melted hR hm
 try replace ha14:=ha14.mono hs
 try replace hA:=hA.mono hs
 try replace hA:=hA.mono hs
 try replace hB:=hB.mono hs
 try replace hB:=hB.mono hs
 try replace hC:=hC.mono hs
 try replace hC:=hC.mono hs
 try replace hb3:=hb3.mono hs
 try replace hb3:=hb3.mono hs
 try replace hb2:=hb2.mono hs
 try replace hb2:=hb2.mono hs
 try replace hb1:=hb1.mono hs
 try replace hb1:=hb1.mono hs
 try replace ha18:=ha18.mono hs
 try replace ha21:=ha21.mono hs
 try replace ha22:=ha22.mono hs
 try replace hX:=hX.mono hs
 try replace hX:=hX.mono hs
 try replace ha29:=ha29.mono hs
 try replace ha31:=ha31.mono hs
 try replace ha32:=ha32.mono hs
 try replace hY:=hY.mono hs
 try replace hY:=hY.mono hs
 try replace ha37:=ha37.mono hs
 try replace ha39:=ha39.mono hs
 try replace hD:=hD.mono hs
 try replace hE:=hE.mono hs
 try replace ha41:=ha41.mono hs
 clear hs hm;refine O.call0 (.p rfl) rfl zD rfl rfl ((sJoin_c (ss:=[[recF 1 5 [2,6],recF 2 6 [1,5]]]) (Arr.ofCells ha42 ⟨⟨_,rfl,Arr.ofCells ha41 ⟨hD,hE,trivial⟩ rfl⟩,trivial⟩ rfl) zF)) ?_;rintro _ _ ⟨a43,c43,rfl,rfl⟩
 try simp only [zx1,zx2,zx3]
 rw [show joinO [[recF 1 5 [2,6],recF 2 6 [1,5]]].flatten=_ from jc.1,show joinE [[recF 1 5 [2,6],recF 2 6 [1,5]]].flatten=_ from jc.2];refine O.q 5 rfl<|O.nil<|S.seq<|S.frzG (T:=RecRp) rfl zB fun g hs hm hZ=>?_;replace hg:=Fr.sub_trans hg hs;replace hR:=melted hR hm
 try replace ha14:=ha14.mono hs
 try replace hA:=hA.mono hs
 try replace hA:=hA.mono hs
 try replace hB:=hB.mono hs
 try replace hB:=hB.mono hs
 try replace hC:=hC.mono hs
 try replace hC:=hC.mono hs
 try replace hb3:=hb3.mono hs
 try replace hb3:=hb3.mono hs
 try replace hb2:=hb2.mono hs
 try replace hb2:=hb2.mono hs
 try replace hb1:=hb1.mono hs
 try replace hb1:=hb1.mono hs
 try replace ha18:=ha18.mono hs
 try replace ha21:=ha21.mono hs
 try replace ha22:=ha22.mono hs
 try replace hX:=hX.mono hs
 try replace hX:=hX.mono hs
 try replace ha29:=ha29.mono hs
 try replace ha31:=ha31.mono hs
 try replace ha32:=ha32.mono hs
 try replace hY:=hY.mono hs
 try replace hY:=hY.mono hs
 try replace ha37:=ha37.mono hs
 try replace ha39:=ha39.mono hs
 try replace hD:=hD.mono hs
 try replace hE:=hE.mono hs
 try replace ha41:=ha41.mono hs
 try replace ha42:=ha42.mono hs
 clear hs hm;refine S.region rfl<|O.call0 (.p rfl) rfl zD rfl rfl ((sPut_c (xs:=[]) Arr.nil zF)) ?_;rintro _ _ ⟨a47,c47,rfl,rfl⟩
 try simp only [zx1,zx2,zx3]
 rw [show sOut []=List.replicate 8 0 from by decide,show sErr []=0 from by decide];refine O.q 5 rfl<|O.nil<|S.seq<|S.frzA zB fun g hs hm hP=>?_;replace hg:=Fr.sub_trans hg hs;replace hR:=melted hR hm
 try replace ha14:=ha14.mono hs
 try replace hA:=hA.mono hs
 try replace hA:=hA.mono hs
 try replace hB:=hB.mono hs
 try replace hB:=hB.mono hs
 try replace hC:=hC.mono hs
 try replace hC:=hC.mono hs
 try replace hb3:=hb3.mono hs
 try replace hb3:=hb3.mono hs
 try replace hb2:=hb2.mono hs
 try replace hb2:=hb2.mono hs
 try replace hb1:=hb1.mono hs
 try replace hb1:=hb1.mono hs
 try replace ha18:=ha18.mono hs
 try replace ha21:=ha21.mono hs
 try replace ha22:=ha22.mono hs
 try replace hX:=hX.mono hs
 try replace hX:=hX.mono hs
 try replace ha29:=ha29.mono hs
 try replace ha31:=ha31.mono hs
 try replace ha32:=ha32.mono hs
 try replace hY:=hY.mono hs
 try replace hY:=hY.mono hs
 try replace ha37:=ha37.mono hs
 try replace ha39:=ha39.mono hs
 try replace hD:=hD.mono hs
 try replace hE:=hE.mono hs
 try replace ha41:=ha41.mono hs
 try replace ha42:=ha42.mono hs
 try replace hZ:=hZ.mono hs
 try replace hZ:=hZ.mono hs
 clear hs hm;refine S.region rfl<|O.q 1 rfl<|O.op (.p rfl) (.eql rfl rfl)<|O.sT 51 rfl (by rfl) ?_;refine O.q 2 rfl<|O.op (.g rfl rfl) (.loadAgg isAgg74 zD rfl hb1) ?_;refine O.op (.g rfl rfl) (.loadAgg isAgg74 zD rfl hb2) ?_;refine O.opE (.g rfl rfl) (.litP (T:=Rp.cells 7) (ys:=[[.string (str [107]),.int .i64 1,.int .i64 1,.slice a12 0 c12,.bool false,.slice none 0 0,.slice d12 64 e12],[.string (str [107]),.int .i64 2,.int .i64 1,.slice a13 0 c13,.bool false,.slice none 0 0,.slice d13 64 e13]]) underlying47 elem74 zF rfl rfl ⟨⟨rfl,rfl,by first|(simp;done)|(intro v hv;simp [Value.cells] at hv;rcases hv with rfl|rfl<;>rfl)|(refine List.forall_mem_cons.2 ⟨rfl,?_⟩;repeat (first|exact (fun _ h=>absurd h List.not_mem_nil)|refine List.forall_mem_cons.2 ⟨rfl,?_⟩))⟩,⟨rfl,rfl,by first|(simp;done)|(intro v hv;simp [Value.cells] at hv;rcases hv with rfl|rfl<;>rfl)|(refine List.forall_mem_cons.2 ⟨rfl,?_⟩;repeat (first|exact (fun _ h=>absurd h List.not_mem_nil)|refine List.forall_mem_cons.2 ⟨rfl,?_⟩))⟩,trivial⟩ zF) ?_;rintro _ _ ⟨a56,c56,rfl,rfl⟩;refine O.frzA zB fun g hs hm ha56=>?_;replace hg:=Fr.sub_trans hg hs;replace hR:=melted hR hm
 try replace ha14:=ha14.mono hs
 try replace hA:=hA.mono hs
 try replace hA:=hA.mono hs
 try replace hB:=hB.mono hs
 try replace hB:=hB.mono hs
 try replace hC:=hC.mono hs
 try replace hC:=hC.mono hs
 try replace hb3:=hb3.mono hs
 try replace hb3:=hb3.mono hs
 try replace hb2:=hb2.mono hs
 try replace hb2:=hb2.mono hs
 try replace hb1:=hb1.mono hs
 try replace hb1:=hb1.mono hs
 try replace ha18:=ha18.mono hs
 try replace ha21:=ha21.mono hs
 try replace ha22:=ha22.mono hs
 try replace hX:=hX.mono hs
 try replace hX:=hX.mono hs
 try replace ha29:=ha29.mono hs
 try replace ha31:=ha31.mono hs
 try replace ha32:=ha32.mono hs
 try replace hY:=hY.mono hs
 try replace hY:=hY.mono hs
 try replace ha37:=ha37.mono hs
 try replace ha39:=ha39.mono hs
 try replace hD:=hD.mono hs
 try replace hE:=hE.mono hs
 try replace ha41:=ha41.mono hs
 try replace ha42:=ha42.mono hs
 try replace hZ:=hZ.mono hs
 try replace hZ:=hZ.mono hs
 try replace hP:=hP.mono hs
 try replace hP:=hP.mono hs
 clear hs hm;refine O.call0 (.g rfl rfl) rfl zD rfl rfl ((sameRecords_c (ys:=[recF 1 1 [],recF 2 1 []]) hX (Arr.ofCells ha56 ⟨hA,hB,trivial⟩ rfl))) ?_;rintro _ _ ⟨rfl,rfl⟩
 try simp only [zx1,zx2,zx3]
 refine O.sT 57 rfl (by exact decide_eq_true trivial) ?_;refine O.q 3 rfl<|O.op (.g rfl rfl) (.eql rfl rfl)<|O.sT 61 rfl (by rfl) ?_;refine O.q 3 rfl<|O.op (.g rfl rfl) (.loadAgg isAgg74 zD rfl hb3) ?_;refine O.opE (.g rfl rfl) (.litP (T:=Rp.cells 7) (ys:=[[.string (str [107]),.int .i64 2,.int .i64 2,.slice a15 2 c15,.bool false,.slice none 0 0,.slice d15 64 e15]]) underlying47 elem74 zF rfl rfl ⟨⟨rfl,rfl,by first|(simp;done)|(intro v hv;simp [Value.cells] at hv;rcases hv with rfl|rfl<;>rfl)|(refine List.forall_mem_cons.2 ⟨rfl,?_⟩;repeat (first|exact (fun _ h=>absurd h List.not_mem_nil)|refine List.forall_mem_cons.2 ⟨rfl,?_⟩))⟩,trivial⟩ zF) ?_;rintro _ _ ⟨a66,c66,rfl,rfl⟩;refine O.frzA zB fun g hs hm ha66=>?_;replace hg:=Fr.sub_trans hg hs;replace hR:=melted hR hm
 try replace ha14:=ha14.mono hs
 try replace hA:=hA.mono hs
 try replace hA:=hA.mono hs
 try replace hB:=hB.mono hs
 try replace hB:=hB.mono hs
 try replace hC:=hC.mono hs
 try replace hC:=hC.mono hs
 try replace hb3:=hb3.mono hs
 try replace hb3:=hb3.mono hs
 try replace hb2:=hb2.mono hs
 try replace hb2:=hb2.mono hs
 try replace hb1:=hb1.mono hs
 try replace hb1:=hb1.mono hs
 try replace ha18:=ha18.mono hs
 try replace ha21:=ha21.mono hs
 try replace ha22:=ha22.mono hs
 try replace hX:=hX.mono hs
 try replace hX:=hX.mono hs
 try replace ha29:=ha29.mono hs
 try replace ha31:=ha31.mono hs
 try replace ha32:=ha32.mono hs
 try replace hY:=hY.mono hs
 try replace hY:=hY.mono hs
 try replace ha37:=ha37.mono hs
 try replace ha39:=ha39.mono hs
 try replace hD:=hD.mono hs
 try replace hE:=hE.mono hs
 try replace ha41:=ha41.mono hs
 try replace ha42:=ha42.mono hs
 try replace hZ:=hZ.mono hs
 try replace hZ:=hZ.mono hs
 try replace hP:=hP.mono hs
 try replace hP:=hP.mono hs
 try replace ha56:=ha56.mono hs
 clear hs hm;refine O.call0 (.g rfl rfl) rfl zD rfl rfl ((sameRecords_c (ys:=[recF 2 2 [1,1,2,1]]) hY (Arr.ofCells ha66 ⟨hC,trivial⟩ rfl))) ?_;rintro _ _ ⟨rfl,rfl⟩
 try simp only [zx1,zx2,zx3]
 refine O.sT 67 rfl (by exact decide_eq_true trivial) ?_;refine O.q 3 rfl<|O.op (.g rfl rfl) (.eql rfl rfl)<|O.sT 71 rfl (by rfl) ?_;refine O.q 3 rfl<|O.op (.g rfl rfl) (.len rfl underlying47 rfl)<|O.op (.g rfl rfl) (.eql rfl rfl)<|O.sT 76 rfl (by rfl) ?_;refine O.q 3 rfl<|O.op (.g rfl rfl) (.eql rfl rfl)<|O.sT 80 rfl (by rfl) ?_;refine O.q 3 rfl<|O.opE (.g rfl rfl) (.makeP (T:=Rp.u8) (0:UInt8) (m:=8) underlying31 elem5 zF rfl rfl rfl rfl rfl zF zF) ?_;rintro _ _ ⟨a84,c84,rfl,rfl⟩;refine O.frzA zB fun g hs hm ha84=>?_;replace hg:=Fr.sub_trans hg hs;replace hR:=melted hR hm
 try replace ha14:=ha14.mono hs
 try replace hA:=hA.mono hs
 try replace hA:=hA.mono hs
 try replace hB:=hB.mono hs
 try replace hB:=hB.mono hs
 try replace hC:=hC.mono hs
 try replace hC:=hC.mono hs
 try replace hb3:=hb3.mono hs
 try replace hb3:=hb3.mono hs
 try replace hb2:=hb2.mono hs
 try replace hb2:=hb2.mono hs
 try replace hb1:=hb1.mono hs
 try replace hb1:=hb1.mono hs
 try replace ha18:=ha18.mono hs
 try replace ha21:=ha21.mono hs
 try replace ha22:=ha22.mono hs
 try replace hX:=hX.mono hs
 try replace hX:=hX.mono hs
 try replace ha29:=ha29.mono hs
 try replace ha31:=ha31.mono hs
 try replace ha32:=ha32.mono hs
 try replace hY:=hY.mono hs
 try replace hY:=hY.mono hs
 try replace ha37:=ha37.mono hs
 try replace ha39:=ha39.mono hs
 try replace hD:=hD.mono hs
 try replace hE:=hE.mono hs
 try replace ha41:=ha41.mono hs
 try replace ha42:=ha42.mono hs
 try replace hZ:=hZ.mono hs
 try replace hZ:=hZ.mono hs
 try replace hP:=hP.mono hs
 try replace hP:=hP.mono hs
 try replace ha56:=ha56.mono hs
 try replace ha66:=ha66.mono hs
 clear hs hm;refine O.call0 (.g rfl rfl) rfl zD rfl rfl ((SameBytes_c hP ha84)) ?_;rintro _ _ ⟨rfl,rfl⟩
 try simp only [zx1,zx2,zx3]
 refine O.sT 85 rfl (by exact decide_eq_true trivial) ?_;refine O.q 2 rfl<|O.nil ?_;exact S.rt results36 rfl hR ⟨rfl,rfl⟩
theorem Sat.w1 {A:SProp} {B:Fr→Prop} {m:Fr} (hs:∀ {h k:Fr},h.sub k→B h→B k) (hA:∀ h,A h→B h):Sat [A] m→B m:=fun ⟨_,_,_,s,_,x,_⟩=>hs s (hA _ x)
theorem flatLimbs_0 {r:Fr}:Con prog 162 #[.slice none 0 0] r [] (Ret fun v η=>v=.bool true∧η=[]):=by
 refine Con.of (n:=200) _ rfl func162 rfl rfl rfl fun g hg R hR=>?_;refine S.seq<|S.region rfl<|O.q 1 rfl<|O.nil<|S.seq<|S.seq<|S.region rfl<|O.q 1 rfl<|O.nil<|S.block<|S.unroll<|S.seq<|S.seq<|S.region rfl<|O.q 2 rfl<|O.op (.p rfl) (.len rfl underlying100 rfl)<|O.op (.p rfl) (.lss rfl rfl)<|O.nil ?_
 first|refine S.condD rfl (fun h19=>?_) (fun h19=>?_)|refine S.condB rfl (fun h19=>?_) (fun h19=>?_)
 ·exact absurd zE zG
 refine S.exit rfl<|S.seq<|S.region rfl<|O.q 1 rfl<|O.op (.p rfl) (.len rfl underlying100 rfl)<|O.opE (.p rfl) (.makeP (T:=Rp.val) (.slice none 0 0) (m:=0) underlying100 elem260 zF ⟨rfl,rfl⟩ rfl rfl rfl rfl zF zF) ?_;rintro _ _ ⟨a43,c43,rfl,rfl⟩;refine O.q 1 rfl<|O.nil<|S.seq<|S.seq<|S.region rfl<|O.q 1 rfl<|O.nil<|S.block<|S.unroll<|S.seq<|S.seq<|S.region rfl<|O.q 2 rfl<|O.op (.p rfl) (.len rfl underlying100 rfl)<|O.op (.p rfl) (.lss rfl rfl)<|O.nil ?_
 first|refine S.condD rfl (fun h47=>?_) (fun h47=>?_)|refine S.condB rfl (fun h47=>?_) (fun h47=>?_)
 ·exact absurd zE zG
 refine S.exit rfl<|S.seq<|S.seq<|S.region rfl<|O.q 1 rfl<|O.nil<|S.block<|S.unroll<|S.seq<|S.seq<|S.region rfl<|O.q 2 rfl<|O.op (.p rfl) (.len rfl underlying100 rfl)<|O.op (.p rfl) (.lss rfl rfl)<|O.nil ?_
 first|refine S.condD rfl (fun h78=>?_) (fun h78=>?_)|refine S.condB rfl (fun h78=>?_) (fun h78=>?_)
 ·exact absurd zE zG
 refine S.exit rfl<|S.seq<|S.seq<|S.region rfl<|O.q 1 rfl<|O.nil<|S.block<|S.unroll<|S.seq<|S.seq<|S.region rfl<|O.q 2 rfl<|O.op (.p rfl) (.len rfl underlying100 rfl)<|O.op (.p rfl) (.lss rfl rfl)<|O.nil ?_
 first|refine S.condD rfl (fun h130=>?_) (fun h130=>?_)|refine S.condB rfl (fun h130=>?_) (fun h130=>?_)
 ·exact absurd zE zG
 refine S.exit rfl<|S.seq<|S.seq<|S.region rfl<|O.q 1 rfl<|O.nil<|S.block<|S.unroll<|S.seq<|S.seq<|S.region rfl<|O.q 2 rfl<|O.op (.p rfl) (.len rfl underlying100 rfl)<|O.op (.p rfl) (.lss rfl rfl)<|O.nil ?_
 first|refine S.condD rfl (fun h160=>?_) (fun h160=>?_)|refine S.condB rfl (fun h160=>?_) (fun h160=>?_)
 ·exact absurd zE zG
 refine S.exit rfl<|S.seq<|S.region rfl<|O.q 1 rfl<|O.nil ?_;exact S.rt results162 rfl hR ⟨rfl,rfl⟩
theorem flatWords_0 {r:Fr}:Con prog 163 #[.slice none 0 0] r [] (Ret fun v η=>v=.bool true∧η=[]):=by
 refine Con.of (n:=200) _ rfl func163 rfl rfl rfl fun g hg R hR=>?_;refine S.seq<|S.region rfl<|O.q 1 rfl<|O.nil<|S.seq<|S.seq<|S.region rfl<|O.q 1 rfl<|O.nil<|S.block<|S.unroll<|S.seq<|S.seq<|S.region rfl<|O.q 2 rfl<|O.op (.p rfl) (.len rfl underlying101 rfl)<|O.op (.p rfl) (.lss rfl rfl)<|O.nil ?_
 first|refine S.condD rfl (fun h19=>?_) (fun h19=>?_)|refine S.condB rfl (fun h19=>?_) (fun h19=>?_)
 ·exact absurd zE zG
 refine S.exit rfl<|S.seq<|S.region rfl<|O.q 1 rfl<|O.op (.p rfl) (.len rfl underlying101 rfl)<|O.opE (.p rfl) (.makeP (T:=Rp.val) (.slice none 0 0) (m:=0) underlying101 elem262 zF ⟨rfl,rfl⟩ rfl rfl rfl rfl zF zF) ?_;rintro _ _ ⟨a43,c43,rfl,rfl⟩;refine O.q 1 rfl<|O.nil<|S.seq<|S.seq<|S.region rfl<|O.q 1 rfl<|O.nil<|S.block<|S.unroll<|S.seq<|S.seq<|S.region rfl<|O.q 2 rfl<|O.op (.p rfl) (.len rfl underlying101 rfl)<|O.op (.p rfl) (.lss rfl rfl)<|O.nil ?_
 first|refine S.condD rfl (fun h47=>?_) (fun h47=>?_)|refine S.condB rfl (fun h47=>?_) (fun h47=>?_)
 ·exact absurd zE zG
 refine S.exit rfl<|S.seq<|S.seq<|S.region rfl<|O.q 1 rfl<|O.nil<|S.block<|S.unroll<|S.seq<|S.seq<|S.region rfl<|O.q 2 rfl<|O.op (.p rfl) (.len rfl underlying101 rfl)<|O.op (.p rfl) (.lss rfl rfl)<|O.nil ?_
 first|refine S.condD rfl (fun h78=>?_) (fun h78=>?_)|refine S.condB rfl (fun h78=>?_) (fun h78=>?_)
 ·exact absurd zE zG
 refine S.exit rfl<|S.seq<|S.seq<|S.region rfl<|O.q 1 rfl<|O.nil<|S.block<|S.unroll<|S.seq<|S.seq<|S.region rfl<|O.q 2 rfl<|O.op (.p rfl) (.len rfl underlying101 rfl)<|O.op (.p rfl) (.lss rfl rfl)<|O.nil ?_
 first|refine S.condD rfl (fun h130=>?_) (fun h130=>?_)|refine S.condB rfl (fun h130=>?_) (fun h130=>?_)
 ·exact absurd zE zG
 refine S.exit rfl<|S.seq<|S.seq<|S.region rfl<|O.q 1 rfl<|O.nil<|S.block<|S.unroll<|S.seq<|S.seq<|S.region rfl<|O.q 2 rfl<|O.op (.p rfl) (.len rfl underlying101 rfl)<|O.op (.p rfl) (.lss rfl rfl)<|O.nil ?_
 first|refine S.condD rfl (fun h160=>?_) (fun h160=>?_)|refine S.condB rfl (fun h160=>?_) (fun h160=>?_)
 ·exact absurd zE zG
 refine S.exit rfl<|S.seq<|S.region rfl<|O.q 1 rfl<|O.nil ?_;exact S.rt results163 rfl hR ⟨rfl,rfl⟩
theorem flatLongs_0 {r:Fr}:Con prog 165 #[.slice none 0 0] r [] (Ret fun v η=>v=.bool true∧η=[]):=by
 refine Con.of (n:=193) _ rfl func165 rfl rfl rfl fun g hg R hR=>?_;refine S.seq<|S.region rfl<|O.q 1 rfl<|O.nil<|S.seq<|S.seq<|S.region rfl<|O.q 1 rfl<|O.nil<|S.block<|S.unroll<|S.seq<|S.seq<|S.region rfl<|O.q 2 rfl<|O.op (.p rfl) (.len rfl underlying103 rfl)<|O.op (.p rfl) (.lss rfl rfl)<|O.nil ?_
 first|refine S.condD rfl (fun h19=>?_) (fun h19=>?_)|refine S.condB rfl (fun h19=>?_) (fun h19=>?_)
 ·exact absurd zE zG
 refine S.exit rfl<|S.seq<|S.region rfl<|O.q 1 rfl<|O.op (.p rfl) (.len rfl underlying103 rfl)<|O.opE (.p rfl) (.makeP (T:=Rp.val) (.slice none 0 0) (m:=0) underlying103 elem263 zF ⟨rfl,rfl⟩ rfl rfl rfl rfl zF zF) ?_;rintro _ _ ⟨a42,c42,rfl,rfl⟩;refine O.q 1 rfl<|O.nil<|S.seq<|S.seq<|S.region rfl<|O.q 1 rfl<|O.nil<|S.block<|S.unroll<|S.seq<|S.seq<|S.region rfl<|O.q 2 rfl<|O.op (.p rfl) (.len rfl underlying103 rfl)<|O.op (.p rfl) (.lss rfl rfl)<|O.nil ?_
 first|refine S.condD rfl (fun h46=>?_) (fun h46=>?_)|refine S.condB rfl (fun h46=>?_) (fun h46=>?_)
 ·exact absurd zE zG
 refine S.exit rfl<|S.seq<|S.seq<|S.region rfl<|O.q 1 rfl<|O.nil<|S.block<|S.unroll<|S.seq<|S.seq<|S.region rfl<|O.q 2 rfl<|O.op (.p rfl) (.len rfl underlying103 rfl)<|O.op (.p rfl) (.lss rfl rfl)<|O.nil ?_
 first|refine S.condD rfl (fun h76=>?_) (fun h76=>?_)|refine S.condB rfl (fun h76=>?_) (fun h76=>?_)
 ·exact absurd zE zG
 refine S.exit rfl<|S.seq<|S.seq<|S.region rfl<|O.q 1 rfl<|O.nil<|S.block<|S.unroll<|S.seq<|S.seq<|S.region rfl<|O.q 2 rfl<|O.op (.p rfl) (.len rfl underlying103 rfl)<|O.op (.p rfl) (.lss rfl rfl)<|O.nil ?_
 first|refine S.condD rfl (fun h126=>?_) (fun h126=>?_)|refine S.condB rfl (fun h126=>?_) (fun h126=>?_)
 ·exact absurd zE zG
 refine S.exit rfl<|S.seq<|S.seq<|S.region rfl<|O.q 1 rfl<|O.nil<|S.block<|S.unroll<|S.seq<|S.seq<|S.region rfl<|O.q 2 rfl<|O.op (.p rfl) (.len rfl underlying103 rfl)<|O.op (.p rfl) (.lss rfl rfl)<|O.nil ?_
 first|refine S.condD rfl (fun h155=>?_) (fun h155=>?_)|refine S.condB rfl (fun h155=>?_) (fun h155=>?_)
 ·exact absurd zE zG
 refine S.exit rfl<|S.seq<|S.region rfl<|O.q 1 rfl<|O.nil ?_;exact S.rt results165 rfl hR ⟨rfl,rfl⟩
theorem flatTexts_0 {r:Fr}:Con prog 166 #[.slice none 0 0] r [] (Ret fun v η=>v=.bool true∧η=[]):=by
 refine Con.of (n:=193) _ rfl func166 rfl rfl rfl fun g hg R hR=>?_;refine S.seq<|S.region rfl<|O.q 1 rfl<|O.nil<|S.seq<|S.seq<|S.region rfl<|O.q 1 rfl<|O.nil<|S.block<|S.unroll<|S.seq<|S.seq<|S.region rfl<|O.q 2 rfl<|O.op (.p rfl) (.len rfl underlying104 rfl)<|O.op (.p rfl) (.lss rfl rfl)<|O.nil ?_
 first|refine S.condD rfl (fun h19=>?_) (fun h19=>?_)|refine S.condB rfl (fun h19=>?_) (fun h19=>?_)
 ·exact absurd zE zG
 refine S.exit rfl<|S.seq<|S.region rfl<|O.q 1 rfl<|O.op (.p rfl) (.len rfl underlying104 rfl)<|O.opE (.p rfl) (.makeP (T:=Rp.val) (.slice none 0 0) (m:=0) underlying104 elem184 zF ⟨rfl,rfl⟩ rfl rfl rfl rfl zF zF) ?_;rintro _ _ ⟨a42,c42,rfl,rfl⟩;refine O.q 1 rfl<|O.nil<|S.seq<|S.seq<|S.region rfl<|O.q 1 rfl<|O.nil<|S.block<|S.unroll<|S.seq<|S.seq<|S.region rfl<|O.q 2 rfl<|O.op (.p rfl) (.len rfl underlying104 rfl)<|O.op (.p rfl) (.lss rfl rfl)<|O.nil ?_
 first|refine S.condD rfl (fun h46=>?_) (fun h46=>?_)|refine S.condB rfl (fun h46=>?_) (fun h46=>?_)
 ·exact absurd zE zG
 refine S.exit rfl<|S.seq<|S.seq<|S.region rfl<|O.q 1 rfl<|O.nil<|S.block<|S.unroll<|S.seq<|S.seq<|S.region rfl<|O.q 2 rfl<|O.op (.p rfl) (.len rfl underlying104 rfl)<|O.op (.p rfl) (.lss rfl rfl)<|O.nil ?_
 first|refine S.condD rfl (fun h76=>?_) (fun h76=>?_)|refine S.condB rfl (fun h76=>?_) (fun h76=>?_)
 ·exact absurd zE zG
 refine S.exit rfl<|S.seq<|S.seq<|S.region rfl<|O.q 1 rfl<|O.nil<|S.block<|S.unroll<|S.seq<|S.seq<|S.region rfl<|O.q 2 rfl<|O.op (.p rfl) (.len rfl underlying104 rfl)<|O.op (.p rfl) (.lss rfl rfl)<|O.nil ?_
 first|refine S.condD rfl (fun h126=>?_) (fun h126=>?_)|refine S.condB rfl (fun h126=>?_) (fun h126=>?_)
 ·exact absurd zE zG
 refine S.exit rfl<|S.seq<|S.seq<|S.region rfl<|O.q 1 rfl<|O.nil<|S.block<|S.unroll<|S.seq<|S.seq<|S.region rfl<|O.q 2 rfl<|O.op (.p rfl) (.len rfl underlying104 rfl)<|O.op (.p rfl) (.lss rfl rfl)<|O.nil ?_
 first|refine S.condD rfl (fun h155=>?_) (fun h155=>?_)|refine S.condB rfl (fun h155=>?_) (fun h155=>?_)
 ·exact absurd zE zG
 refine S.exit rfl<|S.seq<|S.region rfl<|O.q 1 rfl<|O.nil ?_;exact S.rt results166 rfl hR ⟨rfl,rfl⟩
theorem flatTruths_0 {r:Fr}:Con prog 168 #[.slice none 0 0] r [] (Ret fun v η=>v=.bool true∧η=[]):=by
 refine Con.of (n:=207) _ rfl func168 rfl rfl rfl fun g hg R hR=>?_;refine S.seq<|S.region rfl<|O.q 1 rfl<|O.nil<|S.seq<|S.seq<|S.region rfl<|O.q 1 rfl<|O.nil<|S.block<|S.unroll<|S.seq<|S.seq<|S.region rfl<|O.q 2 rfl<|O.op (.p rfl) (.len rfl underlying105 rfl)<|O.op (.p rfl) (.lss rfl rfl)<|O.nil ?_
 first|refine S.condD rfl (fun h19=>?_) (fun h19=>?_)|refine S.condB rfl (fun h19=>?_) (fun h19=>?_)
 ·exact absurd zE zG
 refine S.exit rfl<|S.seq<|S.region rfl<|O.q 1 rfl<|O.op (.p rfl) (.len rfl underlying105 rfl)<|O.opE (.p rfl) (.makeP (T:=Rp.val) (.slice none 0 0) (m:=0) underlying105 elem264 zF ⟨rfl,rfl⟩ rfl rfl rfl rfl zF zF) ?_;rintro _ _ ⟨a44,c44,rfl,rfl⟩;refine O.q 1 rfl<|O.nil<|S.seq<|S.seq<|S.region rfl<|O.q 1 rfl<|O.nil<|S.block<|S.unroll<|S.seq<|S.seq<|S.region rfl<|O.q 2 rfl<|O.op (.p rfl) (.len rfl underlying105 rfl)<|O.op (.p rfl) (.lss rfl rfl)<|O.nil ?_
 first|refine S.condD rfl (fun h48=>?_) (fun h48=>?_)|refine S.condB rfl (fun h48=>?_) (fun h48=>?_)
 ·exact absurd zE zG
 refine S.exit rfl<|S.seq<|S.seq<|S.region rfl<|O.q 1 rfl<|O.nil<|S.block<|S.unroll<|S.seq<|S.seq<|S.region rfl<|O.q 2 rfl<|O.op (.p rfl) (.len rfl underlying105 rfl)<|O.op (.p rfl) (.lss rfl rfl)<|O.nil ?_
 first|refine S.condD rfl (fun h80=>?_) (fun h80=>?_)|refine S.condB rfl (fun h80=>?_) (fun h80=>?_)
 ·exact absurd zE zG
 refine S.exit rfl<|S.seq<|S.seq<|S.region rfl<|O.q 1 rfl<|O.nil<|S.block<|S.unroll<|S.seq<|S.seq<|S.region rfl<|O.q 2 rfl<|O.op (.p rfl) (.len rfl underlying105 rfl)<|O.op (.p rfl) (.lss rfl rfl)<|O.nil ?_
 first|refine S.condD rfl (fun h134=>?_) (fun h134=>?_)|refine S.condB rfl (fun h134=>?_) (fun h134=>?_)
 ·exact absurd zE zG
 refine S.exit rfl<|S.seq<|S.seq<|S.region rfl<|O.q 1 rfl<|O.nil<|S.block<|S.unroll<|S.seq<|S.seq<|S.region rfl<|O.q 2 rfl<|O.op (.p rfl) (.len rfl underlying105 rfl)<|O.op (.p rfl) (.lss rfl rfl)<|O.nil ?_
 first|refine S.condD rfl (fun h165=>?_) (fun h165=>?_)|refine S.condB rfl (fun h165=>?_) (fun h165=>?_)
 ·exact absurd zE zG
 refine S.exit rfl<|S.seq<|S.region rfl<|O.q 1 rfl<|O.nil ?_;exact S.rt results168 rfl hR ⟨rfl,rfl⟩
theorem flatRows_0 {r:Fr}:Con prog 169 #[.slice none 0 0] r [] (Ret fun v η=>v=.bool true∧η=[]):=by
 refine Con.of (n:=193) _ rfl func169 rfl rfl rfl fun g hg R hR=>?_;refine S.seq<|S.region rfl<|O.q 1 rfl<|O.nil<|S.seq<|S.seq<|S.region rfl<|O.q 1 rfl<|O.nil<|S.block<|S.unroll<|S.seq<|S.seq<|S.region rfl<|O.q 2 rfl<|O.op (.p rfl) (.len rfl underlying106 rfl)<|O.op (.p rfl) (.lss rfl rfl)<|O.nil ?_
 first|refine S.condD rfl (fun h19=>?_) (fun h19=>?_)|refine S.condB rfl (fun h19=>?_) (fun h19=>?_)
 ·exact absurd zE zG
 refine S.exit rfl<|S.seq<|S.region rfl<|O.q 1 rfl<|O.op (.p rfl) (.len rfl underlying106 rfl)<|O.opE (.p rfl) (.makeP (T:=Rp.val) (.slice none 0 0) (m:=0) underlying106 elem39 zF ⟨rfl,rfl⟩ rfl rfl rfl rfl zF zF) ?_;rintro _ _ ⟨a42,c42,rfl,rfl⟩;refine O.q 1 rfl<|O.nil<|S.seq<|S.seq<|S.region rfl<|O.q 1 rfl<|O.nil<|S.block<|S.unroll<|S.seq<|S.seq<|S.region rfl<|O.q 2 rfl<|O.op (.p rfl) (.len rfl underlying106 rfl)<|O.op (.p rfl) (.lss rfl rfl)<|O.nil ?_
 first|refine S.condD rfl (fun h46=>?_) (fun h46=>?_)|refine S.condB rfl (fun h46=>?_) (fun h46=>?_)
 ·exact absurd zE zG
 refine S.exit rfl<|S.seq<|S.seq<|S.region rfl<|O.q 1 rfl<|O.nil<|S.block<|S.unroll<|S.seq<|S.seq<|S.region rfl<|O.q 2 rfl<|O.op (.p rfl) (.len rfl underlying106 rfl)<|O.op (.p rfl) (.lss rfl rfl)<|O.nil ?_
 first|refine S.condD rfl (fun h76=>?_) (fun h76=>?_)|refine S.condB rfl (fun h76=>?_) (fun h76=>?_)
 ·exact absurd zE zG
 refine S.exit rfl<|S.seq<|S.seq<|S.region rfl<|O.q 1 rfl<|O.nil<|S.block<|S.unroll<|S.seq<|S.seq<|S.region rfl<|O.q 2 rfl<|O.op (.p rfl) (.len rfl underlying106 rfl)<|O.op (.p rfl) (.lss rfl rfl)<|O.nil ?_
 first|refine S.condD rfl (fun h126=>?_) (fun h126=>?_)|refine S.condB rfl (fun h126=>?_) (fun h126=>?_)
 ·exact absurd zE zG
 refine S.exit rfl<|S.seq<|S.seq<|S.region rfl<|O.q 1 rfl<|O.nil<|S.block<|S.unroll<|S.seq<|S.seq<|S.region rfl<|O.q 2 rfl<|O.op (.p rfl) (.len rfl underlying106 rfl)<|O.op (.p rfl) (.lss rfl rfl)<|O.nil ?_
 first|refine S.condD rfl (fun h155=>?_) (fun h155=>?_)|refine S.condB rfl (fun h155=>?_) (fun h155=>?_)
 ·exact absurd zE zG
 refine S.exit rfl<|S.seq<|S.region rfl<|O.q 1 rfl<|O.nil ?_;exact S.rt results169 rfl hR ⟨rfl,rfl⟩
theorem flatGrants_0 {r:Fr}:Con prog 173 #[.slice none 0 0] r [] (Ret fun v η=>v=.bool true∧η=[]):=by
 refine Con.of (n:=193) _ rfl func173 rfl rfl rfl fun g hg R hR=>?_;refine S.seq<|S.region rfl<|O.q 1 rfl<|O.nil<|S.seq<|S.seq<|S.region rfl<|O.q 1 rfl<|O.nil<|S.block<|S.unroll<|S.seq<|S.seq<|S.region rfl<|O.q 2 rfl<|O.op (.p rfl) (.len rfl underlying109 rfl)<|O.op (.p rfl) (.lss rfl rfl)<|O.nil ?_
 first|refine S.condD rfl (fun h19=>?_) (fun h19=>?_)|refine S.condB rfl (fun h19=>?_) (fun h19=>?_)
 ·exact absurd zE zG
 refine S.exit rfl<|S.seq<|S.region rfl<|O.q 1 rfl<|O.op (.p rfl) (.len rfl underlying109 rfl)<|O.opE (.p rfl) (.makeP (T:=Rp.val) (.slice none 0 0) (m:=0) underlying109 elem267 zF ⟨rfl,rfl⟩ rfl rfl rfl rfl zF zF) ?_;rintro _ _ ⟨a42,c42,rfl,rfl⟩;refine O.q 1 rfl<|O.nil<|S.seq<|S.seq<|S.region rfl<|O.q 1 rfl<|O.nil<|S.block<|S.unroll<|S.seq<|S.seq<|S.region rfl<|O.q 2 rfl<|O.op (.p rfl) (.len rfl underlying109 rfl)<|O.op (.p rfl) (.lss rfl rfl)<|O.nil ?_
 first|refine S.condD rfl (fun h46=>?_) (fun h46=>?_)|refine S.condB rfl (fun h46=>?_) (fun h46=>?_)
 ·exact absurd zE zG
 refine S.exit rfl<|S.seq<|S.seq<|S.region rfl<|O.q 1 rfl<|O.nil<|S.block<|S.unroll<|S.seq<|S.seq<|S.region rfl<|O.q 2 rfl<|O.op (.p rfl) (.len rfl underlying109 rfl)<|O.op (.p rfl) (.lss rfl rfl)<|O.nil ?_
 first|refine S.condD rfl (fun h76=>?_) (fun h76=>?_)|refine S.condB rfl (fun h76=>?_) (fun h76=>?_)
 ·exact absurd zE zG
 refine S.exit rfl<|S.seq<|S.seq<|S.region rfl<|O.q 1 rfl<|O.nil<|S.block<|S.unroll<|S.seq<|S.seq<|S.region rfl<|O.q 2 rfl<|O.op (.p rfl) (.len rfl underlying109 rfl)<|O.op (.p rfl) (.lss rfl rfl)<|O.nil ?_
 first|refine S.condD rfl (fun h126=>?_) (fun h126=>?_)|refine S.condB rfl (fun h126=>?_) (fun h126=>?_)
 ·exact absurd zE zG
 refine S.exit rfl<|S.seq<|S.seq<|S.region rfl<|O.q 1 rfl<|O.nil<|S.block<|S.unroll<|S.seq<|S.seq<|S.region rfl<|O.q 2 rfl<|O.op (.p rfl) (.len rfl underlying109 rfl)<|O.op (.p rfl) (.lss rfl rfl)<|O.nil ?_
 first|refine S.condD rfl (fun h155=>?_) (fun h155=>?_)|refine S.condB rfl (fun h155=>?_) (fun h155=>?_)
 ·exact absurd zE zG
 refine S.exit rfl<|S.seq<|S.region rfl<|O.q 1 rfl<|O.nil ?_;exact S.rt results173 rfl hR ⟨rfl,rfl⟩
theorem flatNodes_0 {r:Fr}:Con prog 174 #[.slice none 0 0] r [] (Ret fun v η=>v=.bool true∧η=[]):=by
 refine Con.of (n:=193) _ rfl func174 rfl rfl rfl fun g hg R hR=>?_;refine S.seq<|S.region rfl<|O.q 1 rfl<|O.nil<|S.seq<|S.seq<|S.region rfl<|O.q 1 rfl<|O.nil<|S.block<|S.unroll<|S.seq<|S.seq<|S.region rfl<|O.q 2 rfl<|O.op (.p rfl) (.len rfl underlying110 rfl)<|O.op (.p rfl) (.lss rfl rfl)<|O.nil ?_
 first|refine S.condD rfl (fun h19=>?_) (fun h19=>?_)|refine S.condB rfl (fun h19=>?_) (fun h19=>?_)
 ·exact absurd zE zG
 refine S.exit rfl<|S.seq<|S.region rfl<|O.q 1 rfl<|O.op (.p rfl) (.len rfl underlying110 rfl)<|O.opE (.p rfl) (.makeP (T:=Rp.val) (.slice none 0 0) (m:=0) underlying110 elem272 zF ⟨rfl,rfl⟩ rfl rfl rfl rfl zF zF) ?_;rintro _ _ ⟨a42,c42,rfl,rfl⟩;refine O.q 1 rfl<|O.nil<|S.seq<|S.seq<|S.region rfl<|O.q 1 rfl<|O.nil<|S.block<|S.unroll<|S.seq<|S.seq<|S.region rfl<|O.q 2 rfl<|O.op (.p rfl) (.len rfl underlying110 rfl)<|O.op (.p rfl) (.lss rfl rfl)<|O.nil ?_
 first|refine S.condD rfl (fun h46=>?_) (fun h46=>?_)|refine S.condB rfl (fun h46=>?_) (fun h46=>?_)
 ·exact absurd zE zG
 refine S.exit rfl<|S.seq<|S.seq<|S.region rfl<|O.q 1 rfl<|O.nil<|S.block<|S.unroll<|S.seq<|S.seq<|S.region rfl<|O.q 2 rfl<|O.op (.p rfl) (.len rfl underlying110 rfl)<|O.op (.p rfl) (.lss rfl rfl)<|O.nil ?_
 first|refine S.condD rfl (fun h76=>?_) (fun h76=>?_)|refine S.condB rfl (fun h76=>?_) (fun h76=>?_)
 ·exact absurd zE zG
 refine S.exit rfl<|S.seq<|S.seq<|S.region rfl<|O.q 1 rfl<|O.nil<|S.block<|S.unroll<|S.seq<|S.seq<|S.region rfl<|O.q 2 rfl<|O.op (.p rfl) (.len rfl underlying110 rfl)<|O.op (.p rfl) (.lss rfl rfl)<|O.nil ?_
 first|refine S.condD rfl (fun h126=>?_) (fun h126=>?_)|refine S.condB rfl (fun h126=>?_) (fun h126=>?_)
 ·exact absurd zE zG
 refine S.exit rfl<|S.seq<|S.seq<|S.region rfl<|O.q 1 rfl<|O.nil<|S.block<|S.unroll<|S.seq<|S.seq<|S.region rfl<|O.q 2 rfl<|O.op (.p rfl) (.len rfl underlying110 rfl)<|O.op (.p rfl) (.lss rfl rfl)<|O.nil ?_
 first|refine S.condD rfl (fun h155=>?_) (fun h155=>?_)|refine S.condB rfl (fun h155=>?_) (fun h155=>?_)
 ·exact absurd zE zG
 refine S.exit rfl<|S.seq<|S.region rfl<|O.q 1 rfl<|O.nil ?_;exact S.rt results174 rfl hR ⟨rfl,rfl⟩
theorem flatStubs_0 {r:Fr}:Con prog 175 #[.slice none 0 0] r [] (Ret fun v η=>v=.bool true∧η=[]):=by
 refine Con.of (n:=193) _ rfl func175 rfl rfl rfl fun g hg R hR=>?_;refine S.seq<|S.region rfl<|O.q 1 rfl<|O.nil<|S.seq<|S.seq<|S.region rfl<|O.q 1 rfl<|O.nil<|S.block<|S.unroll<|S.seq<|S.seq<|S.region rfl<|O.q 2 rfl<|O.op (.p rfl) (.len rfl underlying111 rfl)<|O.op (.p rfl) (.lss rfl rfl)<|O.nil ?_
 first|refine S.condD rfl (fun h19=>?_) (fun h19=>?_)|refine S.condB rfl (fun h19=>?_) (fun h19=>?_)
 ·exact absurd zE zG
 refine S.exit rfl<|S.seq<|S.region rfl<|O.q 1 rfl<|O.op (.p rfl) (.len rfl underlying111 rfl)<|O.opE (.p rfl) (.makeP (T:=Rp.val) (.slice none 0 0) (m:=0) underlying111 elem278 zF ⟨rfl,rfl⟩ rfl rfl rfl rfl zF zF) ?_;rintro _ _ ⟨a42,c42,rfl,rfl⟩;refine O.q 1 rfl<|O.nil<|S.seq<|S.seq<|S.region rfl<|O.q 1 rfl<|O.nil<|S.block<|S.unroll<|S.seq<|S.seq<|S.region rfl<|O.q 2 rfl<|O.op (.p rfl) (.len rfl underlying111 rfl)<|O.op (.p rfl) (.lss rfl rfl)<|O.nil ?_
 first|refine S.condD rfl (fun h46=>?_) (fun h46=>?_)|refine S.condB rfl (fun h46=>?_) (fun h46=>?_)
 ·exact absurd zE zG
 refine S.exit rfl<|S.seq<|S.seq<|S.region rfl<|O.q 1 rfl<|O.nil<|S.block<|S.unroll<|S.seq<|S.seq<|S.region rfl<|O.q 2 rfl<|O.op (.p rfl) (.len rfl underlying111 rfl)<|O.op (.p rfl) (.lss rfl rfl)<|O.nil ?_
 first|refine S.condD rfl (fun h76=>?_) (fun h76=>?_)|refine S.condB rfl (fun h76=>?_) (fun h76=>?_)
 ·exact absurd zE zG
 refine S.exit rfl<|S.seq<|S.seq<|S.region rfl<|O.q 1 rfl<|O.nil<|S.block<|S.unroll<|S.seq<|S.seq<|S.region rfl<|O.q 2 rfl<|O.op (.p rfl) (.len rfl underlying111 rfl)<|O.op (.p rfl) (.lss rfl rfl)<|O.nil ?_
 first|refine S.condD rfl (fun h126=>?_) (fun h126=>?_)|refine S.condB rfl (fun h126=>?_) (fun h126=>?_)
 ·exact absurd zE zG
 refine S.exit rfl<|S.seq<|S.seq<|S.region rfl<|O.q 1 rfl<|O.nil<|S.block<|S.unroll<|S.seq<|S.seq<|S.region rfl<|O.q 2 rfl<|O.op (.p rfl) (.len rfl underlying111 rfl)<|O.op (.p rfl) (.lss rfl rfl)<|O.nil ?_
 first|refine S.condD rfl (fun h155=>?_) (fun h155=>?_)|refine S.condB rfl (fun h155=>?_) (fun h155=>?_)
 ·exact absurd zE zG
 refine S.exit rfl<|S.seq<|S.region rfl<|O.q 1 rfl<|O.nil ?_;exact S.rt results175 rfl hR ⟨rfl,rfl⟩
theorem flatProofs_0 {r:Fr}:Con prog 176 #[.slice none 0 0] r [] (Ret fun v η=>v=.bool true∧η=[]):=by
 refine Con.of (n:=193) _ rfl func176 rfl rfl rfl fun g hg R hR=>?_;refine S.seq<|S.region rfl<|O.q 1 rfl<|O.nil<|S.seq<|S.seq<|S.region rfl<|O.q 1 rfl<|O.nil<|S.block<|S.unroll<|S.seq<|S.seq<|S.region rfl<|O.q 2 rfl<|O.op (.p rfl) (.len rfl underlying112 rfl)<|O.op (.p rfl) (.lss rfl rfl)<|O.nil ?_
 first|refine S.condD rfl (fun h19=>?_) (fun h19=>?_)|refine S.condB rfl (fun h19=>?_) (fun h19=>?_)
 ·exact absurd zE zG
 refine S.exit rfl<|S.seq<|S.region rfl<|O.q 1 rfl<|O.op (.p rfl) (.len rfl underlying112 rfl)<|O.opE (.p rfl) (.makeP (T:=Rp.val) (.slice none 0 0) (m:=0) underlying112 elem283 zF ⟨rfl,rfl⟩ rfl rfl rfl rfl zF zF) ?_;rintro _ _ ⟨a42,c42,rfl,rfl⟩;refine O.q 1 rfl<|O.nil<|S.seq<|S.seq<|S.region rfl<|O.q 1 rfl<|O.nil<|S.block<|S.unroll<|S.seq<|S.seq<|S.region rfl<|O.q 2 rfl<|O.op (.p rfl) (.len rfl underlying112 rfl)<|O.op (.p rfl) (.lss rfl rfl)<|O.nil ?_
 first|refine S.condD rfl (fun h46=>?_) (fun h46=>?_)|refine S.condB rfl (fun h46=>?_) (fun h46=>?_)
 ·exact absurd zE zG
 refine S.exit rfl<|S.seq<|S.seq<|S.region rfl<|O.q 1 rfl<|O.nil<|S.block<|S.unroll<|S.seq<|S.seq<|S.region rfl<|O.q 2 rfl<|O.op (.p rfl) (.len rfl underlying112 rfl)<|O.op (.p rfl) (.lss rfl rfl)<|O.nil ?_
 first|refine S.condD rfl (fun h76=>?_) (fun h76=>?_)|refine S.condB rfl (fun h76=>?_) (fun h76=>?_)
 ·exact absurd zE zG
 refine S.exit rfl<|S.seq<|S.seq<|S.region rfl<|O.q 1 rfl<|O.nil<|S.block<|S.unroll<|S.seq<|S.seq<|S.region rfl<|O.q 2 rfl<|O.op (.p rfl) (.len rfl underlying112 rfl)<|O.op (.p rfl) (.lss rfl rfl)<|O.nil ?_
 first|refine S.condD rfl (fun h126=>?_) (fun h126=>?_)|refine S.condB rfl (fun h126=>?_) (fun h126=>?_)
 ·exact absurd zE zG
 refine S.exit rfl<|S.seq<|S.seq<|S.region rfl<|O.q 1 rfl<|O.nil<|S.block<|S.unroll<|S.seq<|S.seq<|S.region rfl<|O.q 2 rfl<|O.op (.p rfl) (.len rfl underlying112 rfl)<|O.op (.p rfl) (.lss rfl rfl)<|O.nil ?_
 first|refine S.condD rfl (fun h155=>?_) (fun h155=>?_)|refine S.condB rfl (fun h155=>?_) (fun h155=>?_)
 ·exact absurd zE zG
 refine S.exit rfl<|S.seq<|S.region rfl<|O.q 1 rfl<|O.nil ?_;exact S.rt results176 rfl hR ⟨rfl,rfl⟩
theorem flatFrames_0 {r:Fr}:Con prog 179 #[.slice none 0 0] r [] (Ret fun v η=>v=.bool true∧η=[]):=by
 refine Con.of (n:=193) _ rfl func179 rfl rfl rfl fun g hg R hR=>?_;refine S.seq<|S.region rfl<|O.q 1 rfl<|O.nil<|S.seq<|S.seq<|S.region rfl<|O.q 1 rfl<|O.nil<|S.block<|S.unroll<|S.seq<|S.seq<|S.region rfl<|O.q 2 rfl<|O.op (.p rfl) (.len rfl underlying115 rfl)<|O.op (.p rfl) (.lss rfl rfl)<|O.nil ?_
 first|refine S.condD rfl (fun h19=>?_) (fun h19=>?_)|refine S.condB rfl (fun h19=>?_) (fun h19=>?_)
 ·exact absurd zE zG
 refine S.exit rfl<|S.seq<|S.region rfl<|O.q 1 rfl<|O.op (.p rfl) (.len rfl underlying115 rfl)<|O.opE (.p rfl) (.makeP (T:=Rp.val) (.slice none 0 0) (m:=0) underlying115 elem288 zF ⟨rfl,rfl⟩ rfl rfl rfl rfl zF zF) ?_;rintro _ _ ⟨a42,c42,rfl,rfl⟩;refine O.q 1 rfl<|O.nil<|S.seq<|S.seq<|S.region rfl<|O.q 1 rfl<|O.nil<|S.block<|S.unroll<|S.seq<|S.seq<|S.region rfl<|O.q 2 rfl<|O.op (.p rfl) (.len rfl underlying115 rfl)<|O.op (.p rfl) (.lss rfl rfl)<|O.nil ?_
 first|refine S.condD rfl (fun h46=>?_) (fun h46=>?_)|refine S.condB rfl (fun h46=>?_) (fun h46=>?_)
 ·exact absurd zE zG
 refine S.exit rfl<|S.seq<|S.seq<|S.region rfl<|O.q 1 rfl<|O.nil<|S.block<|S.unroll<|S.seq<|S.seq<|S.region rfl<|O.q 2 rfl<|O.op (.p rfl) (.len rfl underlying115 rfl)<|O.op (.p rfl) (.lss rfl rfl)<|O.nil ?_
 first|refine S.condD rfl (fun h76=>?_) (fun h76=>?_)|refine S.condB rfl (fun h76=>?_) (fun h76=>?_)
 ·exact absurd zE zG
 refine S.exit rfl<|S.seq<|S.seq<|S.region rfl<|O.q 1 rfl<|O.nil<|S.block<|S.unroll<|S.seq<|S.seq<|S.region rfl<|O.q 2 rfl<|O.op (.p rfl) (.len rfl underlying115 rfl)<|O.op (.p rfl) (.lss rfl rfl)<|O.nil ?_
 first|refine S.condD rfl (fun h126=>?_) (fun h126=>?_)|refine S.condB rfl (fun h126=>?_) (fun h126=>?_)
 ·exact absurd zE zG
 refine S.exit rfl<|S.seq<|S.seq<|S.region rfl<|O.q 1 rfl<|O.nil<|S.block<|S.unroll<|S.seq<|S.seq<|S.region rfl<|O.q 2 rfl<|O.op (.p rfl) (.len rfl underlying115 rfl)<|O.op (.p rfl) (.lss rfl rfl)<|O.nil ?_
 first|refine S.condD rfl (fun h155=>?_) (fun h155=>?_)|refine S.condB rfl (fun h155=>?_) (fun h155=>?_)
 ·exact absurd zE zG
 refine S.exit rfl<|S.seq<|S.region rfl<|O.q 1 rfl<|O.nil ?_;exact S.rt results179 rfl hR ⟨rfl,rfl⟩
theorem flatPackets_0 {r:Fr}:Con prog 180 #[.slice none 0 0] r [] (Ret fun v η=>v=.bool true∧η=[]):=by
 refine Con.of (n:=193) _ rfl func180 rfl rfl rfl fun g hg R hR=>?_;refine S.seq<|S.region rfl<|O.q 1 rfl<|O.nil<|S.seq<|S.seq<|S.region rfl<|O.q 1 rfl<|O.nil<|S.block<|S.unroll<|S.seq<|S.seq<|S.region rfl<|O.q 2 rfl<|O.op (.p rfl) (.len rfl underlying116 rfl)<|O.op (.p rfl) (.lss rfl rfl)<|O.nil ?_
 first|refine S.condD rfl (fun h19=>?_) (fun h19=>?_)|refine S.condB rfl (fun h19=>?_) (fun h19=>?_)
 ·exact absurd zE zG
 refine S.exit rfl<|S.seq<|S.region rfl<|O.q 1 rfl<|O.op (.p rfl) (.len rfl underlying116 rfl)<|O.opE (.p rfl) (.makeP (T:=Rp.val) (.slice none 0 0) (m:=0) underlying116 elem294 zF ⟨rfl,rfl⟩ rfl rfl rfl rfl zF zF) ?_;rintro _ _ ⟨a42,c42,rfl,rfl⟩;refine O.q 1 rfl<|O.nil<|S.seq<|S.seq<|S.region rfl<|O.q 1 rfl<|O.nil<|S.block<|S.unroll<|S.seq<|S.seq<|S.region rfl<|O.q 2 rfl<|O.op (.p rfl) (.len rfl underlying116 rfl)<|O.op (.p rfl) (.lss rfl rfl)<|O.nil ?_
 first|refine S.condD rfl (fun h46=>?_) (fun h46=>?_)|refine S.condB rfl (fun h46=>?_) (fun h46=>?_)
 ·exact absurd zE zG
 refine S.exit rfl<|S.seq<|S.seq<|S.region rfl<|O.q 1 rfl<|O.nil<|S.block<|S.unroll<|S.seq<|S.seq<|S.region rfl<|O.q 2 rfl<|O.op (.p rfl) (.len rfl underlying116 rfl)<|O.op (.p rfl) (.lss rfl rfl)<|O.nil ?_
 first|refine S.condD rfl (fun h76=>?_) (fun h76=>?_)|refine S.condB rfl (fun h76=>?_) (fun h76=>?_)
 ·exact absurd zE zG
 refine S.exit rfl<|S.seq<|S.seq<|S.region rfl<|O.q 1 rfl<|O.nil<|S.block<|S.unroll<|S.seq<|S.seq<|S.region rfl<|O.q 2 rfl<|O.op (.p rfl) (.len rfl underlying116 rfl)<|O.op (.p rfl) (.lss rfl rfl)<|O.nil ?_
 first|refine S.condD rfl (fun h126=>?_) (fun h126=>?_)|refine S.condB rfl (fun h126=>?_) (fun h126=>?_)
 ·exact absurd zE zG
 refine S.exit rfl<|S.seq<|S.seq<|S.region rfl<|O.q 1 rfl<|O.nil<|S.block<|S.unroll<|S.seq<|S.seq<|S.region rfl<|O.q 2 rfl<|O.op (.p rfl) (.len rfl underlying116 rfl)<|O.op (.p rfl) (.lss rfl rfl)<|O.nil ?_
 first|refine S.condD rfl (fun h155=>?_) (fun h155=>?_)|refine S.condB rfl (fun h155=>?_) (fun h155=>?_)
 ·exact absurd zE zG
 refine S.exit rfl<|S.seq<|S.region rfl<|O.q 1 rfl<|O.nil ?_;exact S.rt results180 rfl hR ⟨rfl,rfl⟩
theorem flatEntries_0 {r:Fr}:Con prog 181 #[.slice none 0 0] r [] (Ret fun v η=>v=.bool true∧η=[]):=by
 refine Con.of (n:=193) _ rfl func181 rfl rfl rfl fun g hg R hR=>?_;refine S.seq<|S.region rfl<|O.q 1 rfl<|O.nil<|S.seq<|S.seq<|S.region rfl<|O.q 1 rfl<|O.nil<|S.block<|S.unroll<|S.seq<|S.seq<|S.region rfl<|O.q 2 rfl<|O.op (.p rfl) (.len rfl underlying117 rfl)<|O.op (.p rfl) (.lss rfl rfl)<|O.nil ?_
 first|refine S.condD rfl (fun h19=>?_) (fun h19=>?_)|refine S.condB rfl (fun h19=>?_) (fun h19=>?_)
 ·exact absurd zE zG
 refine S.exit rfl<|S.seq<|S.region rfl<|O.q 1 rfl<|O.op (.p rfl) (.len rfl underlying117 rfl)<|O.opE (.p rfl) (.makeP (T:=Rp.val) (.slice none 0 0) (m:=0) underlying117 elem299 zF ⟨rfl,rfl⟩ rfl rfl rfl rfl zF zF) ?_;rintro _ _ ⟨a42,c42,rfl,rfl⟩;refine O.q 1 rfl<|O.nil<|S.seq<|S.seq<|S.region rfl<|O.q 1 rfl<|O.nil<|S.block<|S.unroll<|S.seq<|S.seq<|S.region rfl<|O.q 2 rfl<|O.op (.p rfl) (.len rfl underlying117 rfl)<|O.op (.p rfl) (.lss rfl rfl)<|O.nil ?_
 first|refine S.condD rfl (fun h46=>?_) (fun h46=>?_)|refine S.condB rfl (fun h46=>?_) (fun h46=>?_)
 ·exact absurd zE zG
 refine S.exit rfl<|S.seq<|S.seq<|S.region rfl<|O.q 1 rfl<|O.nil<|S.block<|S.unroll<|S.seq<|S.seq<|S.region rfl<|O.q 2 rfl<|O.op (.p rfl) (.len rfl underlying117 rfl)<|O.op (.p rfl) (.lss rfl rfl)<|O.nil ?_
 first|refine S.condD rfl (fun h76=>?_) (fun h76=>?_)|refine S.condB rfl (fun h76=>?_) (fun h76=>?_)
 ·exact absurd zE zG
 refine S.exit rfl<|S.seq<|S.seq<|S.region rfl<|O.q 1 rfl<|O.nil<|S.block<|S.unroll<|S.seq<|S.seq<|S.region rfl<|O.q 2 rfl<|O.op (.p rfl) (.len rfl underlying117 rfl)<|O.op (.p rfl) (.lss rfl rfl)<|O.nil ?_
 first|refine S.condD rfl (fun h126=>?_) (fun h126=>?_)|refine S.condB rfl (fun h126=>?_) (fun h126=>?_)
 ·exact absurd zE zG
 refine S.exit rfl<|S.seq<|S.seq<|S.region rfl<|O.q 1 rfl<|O.nil<|S.block<|S.unroll<|S.seq<|S.seq<|S.region rfl<|O.q 2 rfl<|O.op (.p rfl) (.len rfl underlying117 rfl)<|O.op (.p rfl) (.lss rfl rfl)<|O.nil ?_
 first|refine S.condD rfl (fun h155=>?_) (fun h155=>?_)|refine S.condB rfl (fun h155=>?_) (fun h155=>?_)
 ·exact absurd zE zG
 refine S.exit rfl<|S.seq<|S.region rfl<|O.q 1 rfl<|O.nil ?_;exact S.rt results181 rfl hR ⟨rfl,rfl⟩
theorem flatConfigs_0 {r:Fr}:Con prog 183 #[.slice none 0 0] r [] (Ret fun v η=>v=.bool true∧η=[]):=by
 refine Con.of (n:=193) _ rfl func183 rfl rfl rfl fun g hg R hR=>?_;refine S.seq<|S.region rfl<|O.q 1 rfl<|O.nil<|S.seq<|S.seq<|S.region rfl<|O.q 1 rfl<|O.nil<|S.block<|S.unroll<|S.seq<|S.seq<|S.region rfl<|O.q 2 rfl<|O.op (.p rfl) (.len rfl underlying118 rfl)<|O.op (.p rfl) (.lss rfl rfl)<|O.nil ?_
 first|refine S.condD rfl (fun h19=>?_) (fun h19=>?_)|refine S.condB rfl (fun h19=>?_) (fun h19=>?_)
 ·exact absurd zE zG
 refine S.exit rfl<|S.seq<|S.region rfl<|O.q 1 rfl<|O.op (.p rfl) (.len rfl underlying118 rfl)<|O.opE (.p rfl) (.makeP (T:=Rp.val) (.slice none 0 0) (m:=0) underlying118 elem306 zF ⟨rfl,rfl⟩ rfl rfl rfl rfl zF zF) ?_;rintro _ _ ⟨a42,c42,rfl,rfl⟩;refine O.q 1 rfl<|O.nil<|S.seq<|S.seq<|S.region rfl<|O.q 1 rfl<|O.nil<|S.block<|S.unroll<|S.seq<|S.seq<|S.region rfl<|O.q 2 rfl<|O.op (.p rfl) (.len rfl underlying118 rfl)<|O.op (.p rfl) (.lss rfl rfl)<|O.nil ?_
 first|refine S.condD rfl (fun h46=>?_) (fun h46=>?_)|refine S.condB rfl (fun h46=>?_) (fun h46=>?_)
 ·exact absurd zE zG
 refine S.exit rfl<|S.seq<|S.seq<|S.region rfl<|O.q 1 rfl<|O.nil<|S.block<|S.unroll<|S.seq<|S.seq<|S.region rfl<|O.q 2 rfl<|O.op (.p rfl) (.len rfl underlying118 rfl)<|O.op (.p rfl) (.lss rfl rfl)<|O.nil ?_
 first|refine S.condD rfl (fun h76=>?_) (fun h76=>?_)|refine S.condB rfl (fun h76=>?_) (fun h76=>?_)
 ·exact absurd zE zG
 refine S.exit rfl<|S.seq<|S.seq<|S.region rfl<|O.q 1 rfl<|O.nil<|S.block<|S.unroll<|S.seq<|S.seq<|S.region rfl<|O.q 2 rfl<|O.op (.p rfl) (.len rfl underlying118 rfl)<|O.op (.p rfl) (.lss rfl rfl)<|O.nil ?_
 first|refine S.condD rfl (fun h126=>?_) (fun h126=>?_)|refine S.condB rfl (fun h126=>?_) (fun h126=>?_)
 ·exact absurd zE zG
 refine S.exit rfl<|S.seq<|S.seq<|S.region rfl<|O.q 1 rfl<|O.nil<|S.block<|S.unroll<|S.seq<|S.seq<|S.region rfl<|O.q 2 rfl<|O.op (.p rfl) (.len rfl underlying118 rfl)<|O.op (.p rfl) (.lss rfl rfl)<|O.nil ?_
 first|refine S.condD rfl (fun h155=>?_) (fun h155=>?_)|refine S.condB rfl (fun h155=>?_) (fun h155=>?_)
 ·exact absurd zE zG
 refine S.exit rfl<|S.seq<|S.region rfl<|O.q 1 rfl<|O.nil ?_;exact S.rt results183 rfl hR ⟨rfl,rfl⟩
theorem flatSteps_0 {r:Fr}:Con prog 184 #[.slice none 0 0] r [] (Ret fun v η=>v=.bool true∧η=[]):=by
 refine Con.of (n:=193) _ rfl func184 rfl rfl rfl fun g hg R hR=>?_;refine S.seq<|S.region rfl<|O.q 1 rfl<|O.nil<|S.seq<|S.seq<|S.region rfl<|O.q 1 rfl<|O.nil<|S.block<|S.unroll<|S.seq<|S.seq<|S.region rfl<|O.q 2 rfl<|O.op (.p rfl) (.len rfl underlying119 rfl)<|O.op (.p rfl) (.lss rfl rfl)<|O.nil ?_
 first|refine S.condD rfl (fun h19=>?_) (fun h19=>?_)|refine S.condB rfl (fun h19=>?_) (fun h19=>?_)
 ·exact absurd zE zG
 refine S.exit rfl<|S.seq<|S.region rfl<|O.q 1 rfl<|O.op (.p rfl) (.len rfl underlying119 rfl)<|O.opE (.p rfl) (.makeP (T:=Rp.val) (.slice none 0 0) (m:=0) underlying119 elem311 zF ⟨rfl,rfl⟩ rfl rfl rfl rfl zF zF) ?_;rintro _ _ ⟨a42,c42,rfl,rfl⟩;refine O.q 1 rfl<|O.nil<|S.seq<|S.seq<|S.region rfl<|O.q 1 rfl<|O.nil<|S.block<|S.unroll<|S.seq<|S.seq<|S.region rfl<|O.q 2 rfl<|O.op (.p rfl) (.len rfl underlying119 rfl)<|O.op (.p rfl) (.lss rfl rfl)<|O.nil ?_
 first|refine S.condD rfl (fun h46=>?_) (fun h46=>?_)|refine S.condB rfl (fun h46=>?_) (fun h46=>?_)
 ·exact absurd zE zG
 refine S.exit rfl<|S.seq<|S.seq<|S.region rfl<|O.q 1 rfl<|O.nil<|S.block<|S.unroll<|S.seq<|S.seq<|S.region rfl<|O.q 2 rfl<|O.op (.p rfl) (.len rfl underlying119 rfl)<|O.op (.p rfl) (.lss rfl rfl)<|O.nil ?_
 first|refine S.condD rfl (fun h76=>?_) (fun h76=>?_)|refine S.condB rfl (fun h76=>?_) (fun h76=>?_)
 ·exact absurd zE zG
 refine S.exit rfl<|S.seq<|S.seq<|S.region rfl<|O.q 1 rfl<|O.nil<|S.block<|S.unroll<|S.seq<|S.seq<|S.region rfl<|O.q 2 rfl<|O.op (.p rfl) (.len rfl underlying119 rfl)<|O.op (.p rfl) (.lss rfl rfl)<|O.nil ?_
 first|refine S.condD rfl (fun h126=>?_) (fun h126=>?_)|refine S.condB rfl (fun h126=>?_) (fun h126=>?_)
 ·exact absurd zE zG
 refine S.exit rfl<|S.seq<|S.seq<|S.region rfl<|O.q 1 rfl<|O.nil<|S.block<|S.unroll<|S.seq<|S.seq<|S.region rfl<|O.q 2 rfl<|O.op (.p rfl) (.len rfl underlying119 rfl)<|O.op (.p rfl) (.lss rfl rfl)<|O.nil ?_
 first|refine S.condD rfl (fun h155=>?_) (fun h155=>?_)|refine S.condB rfl (fun h155=>?_) (fun h155=>?_)
 ·exact absurd zE zG
 refine S.exit rfl<|S.seq<|S.region rfl<|O.q 1 rfl<|O.nil ?_;exact S.rt results184 rfl hR ⟨rfl,rfl⟩
theorem flatTales_0 {r:Fr}:Con prog 185 #[.slice none 0 0] r [] (Ret fun v η=>v=.bool true∧η=[]):=by
 refine Con.of (n:=193) _ rfl func185 rfl rfl rfl fun g hg R hR=>?_;refine S.seq<|S.region rfl<|O.q 1 rfl<|O.nil<|S.seq<|S.seq<|S.region rfl<|O.q 1 rfl<|O.nil<|S.block<|S.unroll<|S.seq<|S.seq<|S.region rfl<|O.q 2 rfl<|O.op (.p rfl) (.len rfl underlying120 rfl)<|O.op (.p rfl) (.lss rfl rfl)<|O.nil ?_
 first|refine S.condD rfl (fun h19=>?_) (fun h19=>?_)|refine S.condB rfl (fun h19=>?_) (fun h19=>?_)
 ·exact absurd zE zG
 refine S.exit rfl<|S.seq<|S.region rfl<|O.q 1 rfl<|O.op (.p rfl) (.len rfl underlying120 rfl)<|O.opE (.p rfl) (.makeP (T:=Rp.val) (.slice none 0 0) (m:=0) underlying120 elem317 zF ⟨rfl,rfl⟩ rfl rfl rfl rfl zF zF) ?_;rintro _ _ ⟨a42,c42,rfl,rfl⟩;refine O.q 1 rfl<|O.nil<|S.seq<|S.seq<|S.region rfl<|O.q 1 rfl<|O.nil<|S.block<|S.unroll<|S.seq<|S.seq<|S.region rfl<|O.q 2 rfl<|O.op (.p rfl) (.len rfl underlying120 rfl)<|O.op (.p rfl) (.lss rfl rfl)<|O.nil ?_
 first|refine S.condD rfl (fun h46=>?_) (fun h46=>?_)|refine S.condB rfl (fun h46=>?_) (fun h46=>?_)
 ·exact absurd zE zG
 refine S.exit rfl<|S.seq<|S.seq<|S.region rfl<|O.q 1 rfl<|O.nil<|S.block<|S.unroll<|S.seq<|S.seq<|S.region rfl<|O.q 2 rfl<|O.op (.p rfl) (.len rfl underlying120 rfl)<|O.op (.p rfl) (.lss rfl rfl)<|O.nil ?_
 first|refine S.condD rfl (fun h76=>?_) (fun h76=>?_)|refine S.condB rfl (fun h76=>?_) (fun h76=>?_)
 ·exact absurd zE zG
 refine S.exit rfl<|S.seq<|S.seq<|S.region rfl<|O.q 1 rfl<|O.nil<|S.block<|S.unroll<|S.seq<|S.seq<|S.region rfl<|O.q 2 rfl<|O.op (.p rfl) (.len rfl underlying120 rfl)<|O.op (.p rfl) (.lss rfl rfl)<|O.nil ?_
 first|refine S.condD rfl (fun h126=>?_) (fun h126=>?_)|refine S.condB rfl (fun h126=>?_) (fun h126=>?_)
 ·exact absurd zE zG
 refine S.exit rfl<|S.seq<|S.seq<|S.region rfl<|O.q 1 rfl<|O.nil<|S.block<|S.unroll<|S.seq<|S.seq<|S.region rfl<|O.q 2 rfl<|O.op (.p rfl) (.len rfl underlying120 rfl)<|O.op (.p rfl) (.lss rfl rfl)<|O.nil ?_
 first|refine S.condD rfl (fun h155=>?_) (fun h155=>?_)|refine S.condB rfl (fun h155=>?_) (fun h155=>?_)
 ·exact absurd zE zG
 refine S.exit rfl<|S.seq<|S.region rfl<|O.q 1 rfl<|O.nil ?_;exact S.rt results185 rfl hR ⟨rfl,rfl⟩
def markL (k n:Nat):List UInt8:=(List.range n).map fun (i:Nat)=>markB (k:Int) (i:Int)
@[simp] theorem markL_length (k n:Nat):(markL k n).length=n:=by simp [markL]
theorem markL_succ (k n:Nat):markL k n++[markB (k:Int) (n:Int)]=markL k (n+1):=by simp [markL,List.range_succ]
theorem markL_set (k:Nat) (zs:List UInt8) (i:Nat) (h:i<zs.length):(markL k i++zs.drop i).set i (markB (k:Int) (i:Int))=markL k (i+1)++zs.drop (i+1):=by
 rw [List.set_append_right _ _ zG,markL_length,Nat.sub_self,List.drop_eq_getElem_cons h,List.set_cons_zero,← markL_succ];simp
def markX (k n i:Nat):List UInt8:=(List.range i).map fun (q:Nat)=>markB (k:Int) ((n:Int)+(q:Int))
@[simp] theorem markX_length (k n i:Nat):(markX k n i).length=i:=by simp [markX]
theorem markX_succ (k n i:Nat):markX k n i++[markB (k:Int) ((n:Int)+(i:Int))]=markX k n (i+1):=by simp [markX,List.range_succ]
theorem markLX (k n i:Nat):markL k n++markX k n i=markL k (n+i):=by
 induction i with
 |zero=>simp [markX]
 |succ i ih=>rw [← markX_succ,← List.append_assoc,ih,← Nat.add_assoc,← markL_succ];simp
def Marked (xss:List (List UInt8)) (k:Nat) (ws:List (List UInt8)):Prop:=ws.map List.length=xss.map List.length∧∀ (j:Nat) (h:j<ws.length),j<k→ws[j]=markL j ws[j].length
theorem Marked.len {xss ws:List (List UInt8)} {k:Nat} (h:Marked xss k ws):ws.length=xss.length:=by simpa using congrArg List.length h.1
theorem Marked.bd {xss ws:List (List UInt8)} {k b:Nat} (h:Marked xss k ws) (hb:∀ x∈xss,x.length≤b) (j:Nat) (hj:j<ws.length):ws[j].length≤b:=by
 have h1:(ws.map List.length)[j]'(by simpa using hj)=(xss.map List.length)[j]'(by simpa [← h.len] using hj):=getElem_congr_coll h.1;simp only [List.getElem_map] at h1;rw [h1];exact hb _ (List.getElem_mem _)
theorem Marked.set {xss ws:List (List UInt8)} {k:Nat} (h:Marked xss k ws) (hk:k<ws.length):Marked xss (k+1) (ws.set k (markL k ws[k].length)):=by
 refine ⟨?_,fun j hj hjk=>?_⟩
 ·rw [← h.1]
  refine List.ext_getElem zG fun i h1 h2=>?_;simp only [List.getElem_map,List.getElem_set]
  split
  ·rename_i e;subst e;simp
  ·rfl
 ·rw [List.getElem_set]
  split
  ·rename_i e;subst e;simp
  ·exact h.2 j (by simpa using hj) zC
def TwoE (e:TypeId) (p:Value × Value) (x:List UInt8 × List UInt8):SProp:=Two Rp.u8 e p.1 x.1 p.2 x.2
def pairsX (ws:List (List UInt8)) (k:Nat):List (List UInt8 × List UInt8):=(List.range k).map fun j=>(ws[j]?.getD [],markX j (ws[j]?.getD []).length 64)
theorem pairsX_succ (ws:List (List UInt8)) (k:Nat) (h:k<ws.length):pairsX ws k++[(ws[k],markX k ws[k].length 64)]=pairsX ws (k+1):=by simp [pairsX,List.range_succ,h]
def markM (j n i:Nat):List UInt8:=(List.range i).map fun (q:Nat)=>markB ((j:Int)+(n:Int)) (q:Int)
@[simp] theorem markM_length (j n i:Nat):(markM j n i).length=i:=by simp [markM]
theorem markM_succ (j n i:Nat):markM j n i++[markB ((j:Int)+(n:Int)) (i:Int)]=markM j n (i+1):=by simp [markM,List.range_succ]
def pairsM (ws:List (List UInt8)) (n k:Nat):List (List UInt8 × List UInt8):=(List.range k).map fun j=>(ws[j]?.getD [],markM j n 64)
theorem pairsM_succ (ws:List (List UInt8)) (n k:Nat) (h:k<ws.length):pairsM ws n k++[(ws[k],markM k n 64)]=pairsM ws n (k+1):=by simp [pairsM,List.range_succ,h]
theorem zip_snoc {vs us:List Value} {k:Nat} {v u:Value} (hk:k<vs.length) (hu:us.length=k) (hv:vs[k]=v):(vs.take k).zip us++[(v,u)]=(vs.take (k+1)).zip (us++[u]):=by
 rw [List.take_succ_eq_append_getElem hk,List.zip_append zI,hv];rfl
theorem set_fill {α:Type} {us:List α} {z u:α} {n k:Nat} (hu:us.length=k) (hk:k<n):(us++List.replicate (n - k) z).set k u=(us++[u])++List.replicate (n - (k+1)) z:=by
 rw [List.set_append_right _ _ zC,hu,Nat.sub_self];obtain ⟨m,hm⟩:∃ m,n - k=m+1:=⟨n - k - 1,by omega⟩;rw [hm,List.replicate_succ,List.set_cons_zero,show n - (k+1)=m from by omega];simp
theorem set_over {α:Type} {us us2:List α} {u:α} {k:Nat} (hu:us.length=k) (hk:k<us2.length):(us++us2.drop k).set k u=(us++[u])++us2.drop (k+1):=by
 rw [List.set_append_right _ _ zC,hu,Nat.sub_self,List.drop_eq_getElem_cons hk,List.set_cons_zero];simp
theorem two_at {g:Fr} {vs us:List Value} {ws:List (List UInt8)} {n:Nat} {f:Nat→List UInt8} {m:Fr} {e:TypeId} (hm:EachP (TwoE e) (vs.zip us) ((List.range n).map fun j=>(ws[j]?.getD [],f j)) m) (hs:m.sub g) (hv:vs.length=n) (hu:us.length=n) (ha:ws.length=n)
  (k:Nat) (h1:k<vs.length) (h2:k<us.length) (h3:k<ws.length):Arr Rp.u8 g vs[k] ws[k]∧Arr Rp.u8 g us[k] (ws[k]++f k):=by
 have h:=EachP.all2 (R:=fun (p:Value × Value) (x:List UInt8 × List UInt8)=>Arr Rp.u8 g p.1 x.1∧Arr Rp.u8 g p.2 (x.1++x.2)) (fun b a m' (x:Two _ _ _ _ _ _ m') s=>⟨(Two.arr x).1.mono s,(Two.arr x).2.mono s⟩) hm hs;have h4:=h.get k zI zI
 simpa [h3] using h4
theorem flatBytes_c {r:Fr} {va:Value} {vs:List Value} {xss:List (List UInt8)} (hls:Arr Rp.val r va vs) (hq:∀ x∈xss,x.length≤100000000) (hb:xss.length≤100000000) :
  Con prog 167 #[va] r [RowsP Rp.u8 5 vs xss] (Ret fun v η=>v=.bool true∧η=[]):=by
 refine Con.of (n:=193) _ rfl func167 rfl rfl rfl fun g hg R hR=>?_;have hls:=hls.mono hg;obtain ⟨a1,c1,rfl⟩:=hls.shape;refine S.factS Sel.here (fun _ x=>EachP.len x) fun hlen=>?_;refine S.seq<|S.region rfl<|O.q 1 rfl<|O.nil<|S.seq<|S.seq<|S.region rfl<|O.q 1 rfl<|O.nil (S.block ?_);refine S.loopK2 (ι:=Nat) (κ:=List (List UInt8)) (fun k ws=>k≤vs.length∧Marked xss k ws) (fun k ws=>[(3,.int .i64 (k:Int))]) [(0,_)] (fun k ws=>[RowsP Rp.u8 5 vs ws]) (fun k ws=>vs.length - k) (0) (xss) (by exact ⟨by simp,rfl,fun j _ h=>absurd h zC⟩) (.cons rfl (.nil)) (.cons rfl (.nil)) rfl fun k ws hx ih=>?_;have hm1:=meltRefl (g:=g);obtain ⟨hx1,hm⟩:=hx;have hal:=hm.len;refine S.seq<|S.seq<|S.region rfl<|O.q 2 rfl<|O.op (.p rfl) (.len rfl underlying39 rfl)<|O.op (.p rfl) (.lss rfl rfl)<|O.nil ?_
 first|refine S.condD rfl (fun h19=>?_) (fun h19=>?_)|refine S.condB rfl (fun h19=>?_) (fun h19=>?_)
 ·have hk:k<vs.length:=by omega
  have hka:k<ws.length:=by omega
  have hrow:=hm.bd hq k hka;refine S.eachAt k hk hka zB ?_;refine S.factS Sel.here (fun _ x=>OwnP.shape x) fun ⟨ak,ck,hvk⟩=>?_;refine S.skip<|S.seq<|S.block<|S.seq<|S.region rfl<|O.q 1 rfl<|O.nil<|S.block<|S.conv (B:=OwnP Rp.u8 5 vs[k] ws[k]) (C:=OwnP Rp.u8 5 vs[k] (markL k 0++ws[k].drop 0)) zB (fun m x=>⟨m,Fr.sub_refl _,by simpa [markL] using x⟩) ?_;refine S.loopK (ι:=Nat) (fun i=>i≤ws[k].length) (fun i=>[(4,.int .i64 (i:Int))]) [(0,_),(3,_)] (fun i=>[OwnP Rp.u8 5 vs[k] (markL k i++ws[k].drop i),EachP (OwnP Rp.u8 5) (vs.eraseIdx k) (ws.eraseIdx k)]) (fun i=>ws[k].length - i) (0) zG (.cons rfl (.nil)) (.cons rfl (.cons rfl (.nil))) rfl fun i hx ih=>?_;have hm2:=meltRefl (g:=g);refine S.seq<|S.seq<|S.region rfl<|O.q 3 rfl<|O.ia (.p rfl) underlying39 size31 rfl rfl rfl (hls) (h:=fun p25 cs25 hp25 hr25=>?_);obtain ⟨rfl,_⟩:=hr25;refine O.op (.p rfl) (.loadAt flat31 rfl hp25 rfl) ?_;refine O.slot 26 (v' :=.slice ak ws[k].length ck) rfl (by exact hvk) ?_;refine O.op (.p rfl) (.len rfl underlying31 rfl)<|O.op (.p rfl) (.lss rfl rfl)<|O.nil ?_
  first|refine S.condD rfl (fun h28=>?_) (fun h28=>?_)|refine S.condB rfl (fun h28=>?_) (fun h28=>?_)
  ·have hi:i<ws[k].length:=by omega
   refine S.skip<|S.seq<|S.block<|S.regionD (L:=[0,1,2,3,4,5,6,7,8,9]) F.mixed zD<|OD.q 2 rfl<|OD.ia (.p rfl) underlying39 size31 rfl rfl rfl (hls) (h:=fun p33 cs33 hp33 hr33=>?_);obtain ⟨rfl,_⟩:=hr33;refine .quiet (.p rfl) rfl (fun _=>.loadAt flat31 rfl hp33 rfl) ?_;refine OD.q 3 rfl<|OD.call0 (.p rfl) zD rfl zD rfl rfl (markByte_c _ _ zH zH) ?_;rintro _ _ ⟨rfl,rfl⟩
   try simp only [zx1,zx2,zx3]
   refine OD.idxOwn (T:=Rp.u8) (.p rfl) zD underlying31 size5 rfl rfl rfl zB zM (fun p39 hp39=>?_);refine OD.storeOwn rfl zD size5 rfl hp39 rfl zB zM (show _=_ by rfl:Rp.rel _ _ _ (markB (k:Int) (i:Int))) ?_;refine ODx.nil<|S.inBlock<|S.region rfl<|O.q 1 rfl<|O.op (.p rfl) (.add rfl rfl (IntWalk.i64_in _ zC))<|O.q 1 rfl<|O.nil ?_;rw [markL_set k ws[k] i hi];exact S.wk (ih (i+1) zC zC)
  ·clear ih
   have hi:i=ws[k].length:=by omega
   subst hi;rw [List.drop_length,List.append_nil];refine S.eachPut k hk hka (a' :=markL k ws[k].length) zB zB ?_;refine S.exit rfl<|S.inBlock<|S.region rfl<|O.q 1 rfl<|O.op (.p rfl) (.add rfl rfl (IntWalk.i64_in _ zC))<|O.q 1 rfl<|O.nil ?_;exact S.wk (ih (k+1) (ws.set k (markL k ws[k].length)) (by exact ⟨by omega,hm.set hka⟩) zC)
 ·have hk:k=vs.length:=by omega
  subst hk;have hall:∀ (j:Nat) (h:j<ws.length),ws[j]=markL j ws[j].length:=fun j h=>hm.2 j h zC;have hbd:=hm.bd hq;clear ih hm;refine S.exit rfl<|S.seq<|S.region rfl<|O.q 1 rfl<|O.op (.p rfl) (.len rfl underlying39 rfl)<|O.opE (.p rfl) (.makeP (T:=Rp.val) (.slice none 0 0) (m:=vs.length) underlying39 elem31 zF ⟨rfl,rfl⟩ rfl rfl rfl rfl zC zC) ?_;rintro _ _ ⟨a42,c42,rfl,rfl⟩;refine O.q 1 rfl<|O.nil<|S.seq<|S.seq<|S.region rfl<|O.q 1 rfl<|O.nil<|S.block<|S.each0 (TwoE 5) ?_;refine S.loopK2 (ι:=Nat) (κ:=List Value) (fun k us=>k≤vs.length∧us.length=k) (fun k us=>[(6,.int .i64 (k:Int))]) [(0,_),(5,_)] (fun k us=>[EachP (TwoE 5) ((vs.take k).zip us) (pairsX ws k),OwnP Rp.val 31 (.slice a42 vs.length c42) (us++List.replicate (vs.length - k) (.slice none 0 0)),EachP (OwnP Rp.u8 5) (vs.drop k) (ws.drop k)]) (fun k us=>vs.length - k) (0) ([]) zP (.cons rfl (.nil)) (.cons rfl (.cons rfl (.nil))) rfl fun k us hx ih=>?_;have hm2:=meltRefl (g:=g);obtain ⟨hx1,hus⟩:=hx;refine S.seq<|S.seq<|S.region rfl<|O.q 2 rfl<|O.op (.p rfl) (.len rfl underlying39 rfl)<|O.op (.p rfl) (.lss rfl rfl)<|O.nil ?_
  first|refine S.condD rfl (fun h46=>?_) (fun h46=>?_)|refine S.condB rfl (fun h46=>?_) (fun h46=>?_)
  ·have hk:k<vs.length:=by omega
   have hka:k<ws.length:=by omega
   have hrow:=hbd k hka;rw [List.drop_eq_getElem_cons hk,List.drop_eq_getElem_cons hka];refine S.eachPop zB ?_;refine S.factS Sel.here (fun _ x=>OwnP.shape x) fun ⟨ak,ck,hvk⟩=>?_;rw [hvk];refine S.twoStart Sel.here ?_;refine S.skip<|S.seq<|S.block<|S.seq<|S.region rfl<|O.q 2 rfl<|O.ia (.p rfl) underlying39 size31 rfl rfl rfl (hls) (h:=fun p51 cs51 hp51 hr51=>?_);obtain ⟨rfl,_⟩:=hr51;refine O.op (.p rfl) (.loadAt flat31 rfl hp51 rfl) ?_;refine O.slot 52 (v' :=.slice ak ws[k].length ck) rfl (by exact hvk) ?_;refine O.q 1 rfl<|O.nil<|S.seq<|S.seq<|S.region rfl<|O.q 1 rfl<|O.nil<|S.block<|S.loopK3 (ι:=Nat) (κ:=Option Addr) (υ:=Nat) (fun i a c=>i≤64) (fun i a c=>[(8,.int .i64 (i:Int)),(7,.slice a (ws[k].length+i) c)]) [(0,_),(5,_),(6,_)] (fun i a c=>[Two Rp.u8 5 (.slice ak ws[k].length ck) ws[k] (.slice a (ws[k].length+i) c) (markX k ws[k].length i),EachP (OwnP Rp.u8 5) (vs.drop (k+1)) (ws.drop (k+1)),EachP (TwoE 5) ((vs.take k).zip us) (pairsX ws k),OwnP Rp.val 31 (.slice a42 vs.length c42) (us++List.replicate (vs.length - k) (.slice none 0 0))]) (fun i a c=>64 - i) (0) (ak) (ck) zG (.cons rfl (.cons rfl (.nil))) (.cons rfl (.cons rfl (.cons rfl (.nil)))) rfl fun i a c hx ih=>?_;have hm3:=meltRefl (g:=g);refine S.seq<|S.seq<|S.region rfl<|O.q 1 rfl<|O.op (.p rfl) (.lss rfl rfl)<|O.nil ?_
   first|refine S.condD rfl (fun h54=>?_) (fun h54=>?_)|refine S.condB rfl (fun h54=>?_) (fun h54=>?_)
   ·have hi:i<64:=by omega
    refine S.skip<|S.seq<|S.block<|S.region rfl<|O.q 4 rfl<|O.ia (.p rfl) underlying39 size31 rfl rfl rfl (hls) (h:=fun p61 cs61 hp61 hr61=>?_);obtain ⟨rfl,_⟩:=hr61;refine O.op (.p rfl) (.loadAt flat31 rfl hp61 rfl) ?_;refine O.slot 62 (v' :=.slice ak ws[k].length ck) rfl (by exact hvk) ?_;refine O.op (.p rfl) (.len rfl underlying31 rfl)<|O.q 1 rfl<|O.op (.p rfl) (.add rfl rfl (IntWalk.i64_in _ zC))<|O.call0 (.p rfl) rfl zD rfl rfl (markByte_c _ _ zH zH) ?_;rintro _ _ ⟨rfl,rfl⟩
    try simp only [zx1,zx2,zx3]
    refine O.opE (.p rfl) (.litP (T:=Rp.u8) (ys:=[_]) underlying31 elem5 zF rfl rfl ⟨rfl,trivial⟩ zF) ?_;rintro _ _ ⟨a67,c67,rfl,rfl⟩;refine O.frzA zB fun g hs hm ha67=>?_;replace hg:=Fr.sub_trans hg hs;replace hR:=melted hR hm
    try replace hls:=hls.mono hs
    try replace hp51:=hp51.mono hs
    try replace hp61:=hp61.mono hs
    replace hm1:=meltTrans hm1 hm;replace hm2:=meltTrans hm2 hm;replace hm3:=meltTrans hm3 hm;clear hs hm;refine O.opE (.p rfl) (.appendTwo pure_u8 underlying31 elem5 zF rfl rfl zB ha67 zI zI) ?_;rintro _ _ ⟨a68,c68,rfl,rfl⟩;refine O.q 1 rfl<|O.nil<|S.inBlock<|S.region rfl<|O.q 1 rfl<|O.op (.p rfl) (.add rfl rfl (IntWalk.i64_in _ zC))<|O.q 1 rfl<|O.nil ?_;rw [markX_succ];simp only [markX_length];exact S.melt hm3 (S.wk (ih (i+1) (a68) (c68) zC zC))
   ·clear ih
    have hi:i=64:=by omega
    subst hi;refine S.exit rfl<|S.region rfl<|O.q 3 rfl<|O.opE (.p rfl) (.idxOwn (T:=Rp.val) underlying39 size31 rfl rfl rfl zB zM) ?_;rintro _ _ ⟨p72,rfl,hp72,rfl⟩;refine O.opU rfl (.storeOwn size31 rfl hp72 rfl zB zM (⟨rfl,rfl⟩:Rp.rel Rp.val _ _ (.slice a (ws[k].length+64) c))) ?_;refine O.nil<|S.inBlock<|S.region rfl<|O.q 1 rfl<|O.op (.p rfl) (.add rfl rfl (IntWalk.i64_in _ zC))<|O.q 1 rfl<|O.nil ?_;rw [set_fill hus hk];refine S.conv (B:=Two Rp.u8 5 (.slice ak ws[k].length ck) ws[k] (.slice a (ws[k].length+64) c) (markX k ws[k].length 64)) (C:=TwoE 5 (.slice ak ws[k].length ck,.slice a (ws[k].length+64) c) (ws[k],markX k ws[k].length 64)) zB (fun m x=>⟨m,Fr.sub_refl _,x⟩) ?_;refine S.each (A:=TwoE 5) zB zB ?_;rw [pairsX_succ ws k hka,zip_snoc hk hus hvk];exact S.pw (ih (k+1) (us++[.slice a (ws[k].length+64) c]) zQ zC)
  ·clear ih
   have hk:k=vs.length:=by omega
   subst hk;rw [List.take_length,Nat.sub_self,List.replicate_zero,List.append_nil,List.drop_length];refine S.exit rfl<|S.seq<|S.seq<|S.region rfl<|O.q 1 rfl<|O.nil (S.block ?_);refine S.frzT (B:=OwnP Rp.val 31 (.slice a42 vs.length c42) us) zB fun g1 hs1 ⟨m1,hm1',hsm1⟩ th1=>?_;refine S.frzT (B:=EachP (TwoE 5) (vs.zip us) (pairsX ws vs.length)) zB fun g2 hs2 ⟨m2,hm2',hsm2⟩ th2=>?_;have hgs:Arr Rp.val g2.h (.slice a42 vs.length c42) us:=hm1'.arr.mono (Fr.sub_trans hsm1 hs2);have hls0:=hls;replace hls:=hls.mono (Fr.sub_trans hs1 hs2);have htw:=fun k h1 h2 h3=>two_at hm2' hsm2 rfl hus zC k h1 h2 h3;refine S.loopK (ι:=Nat) (fun k=>k≤vs.length) (fun k=>[(9,.int .i64 (k:Int))]) [(0,_),(5,_)] (fun k=>[EachP (OwnP Rp.u8 5) [] (ws.drop vs.length)]) (fun k=>vs.length - k) (0) zG (.cons rfl (.nil)) (.cons rfl (.cons rfl (.nil))) rfl fun k hx ih=>?_;have hm3:=meltRefl (g:=g);refine S.seq<|S.seq<|S.region rfl<|O.q 2 rfl<|O.op (.p rfl) (.len rfl underlying39 rfl)<|O.op (.p rfl) (.lss rfl rfl)<|O.nil ?_
   first|refine S.condD rfl (fun h76=>?_) (fun h76=>?_)|refine S.condB rfl (fun h76=>?_) (fun h76=>?_)
   ·have hk:k<vs.length:=by omega
    have hka:k<ws.length:=by omega
    have hku:k<us.length:=by omega
    have hrow:=hbd k hka;obtain ⟨hA,hB⟩:=htw k hk hku hka;rw [show (ws[k]?.getD [])=ws[k] from by simp [hka]] at hB;have hB0:=hall k hka;obtain ⟨nk,hnk⟩:∃ nk,ws[k].length=nk:=⟨_,rfl⟩;simp only [hnk] at hB0 hrow hB;rw [hB0] at hA hB;rw [markLX] at hB;obtain ⟨ak,ck,hvk⟩:=hA.shape;obtain ⟨au,cu,huk⟩:=hB.shape;rw [hvk] at hA;rw [huk] at hB;rw [markL_length] at hvk huk hA hB;refine S.skip<|S.seq<|S.block<|S.seq<|S.region rfl<|O.q 1 rfl<|O.nil<|S.block<|S.loopK (ι:=Nat) (fun i=>i≤nk+64) (fun i=>[(10,.int .i64 (i:Int))]) [(0,_),(5,_),(9,_)] (fun i=>[EachP (OwnP Rp.u8 5) [] (ws.drop vs.length)]) (fun i=>nk+64 - i) (0) zG (.cons rfl (.nil)) (.cons rfl (.cons rfl (.cons rfl (.nil)))) rfl fun i hx ih=>?_;have hm4:=meltRefl (g:=g);refine S.seq<|S.seq<|S.region rfl<|O.q 3 rfl<|O.ia (.p rfl) underlying39 size31 rfl rfl rfl (hgs) (h:=fun p82 cs82 hp82 hr82=>?_);obtain ⟨rfl,_⟩:=hr82;refine O.op (.p rfl) (.loadAt flat31 rfl hp82 rfl) ?_;refine O.slot 83 (v' :=.slice au (nk+64) cu) rfl (by exact huk) ?_;refine O.op (.p rfl) (.len rfl underlying31 rfl)<|O.op (.p rfl) (.lss rfl rfl)<|O.nil ?_
    first|refine S.condD rfl (fun h85=>?_) (fun h85=>?_)|refine S.condB rfl (fun h85=>?_) (fun h85=>?_)
    ·have hi:i<nk+64:=by omega
     refine S.skip<|S.seq<|S.block<|S.seq<|S.regionD (L:=[0,1,2,3,4,5,6,7,8,9,10,11,12,13,14,15,16,17,18,19,20,21,22,23,24,25,26,27,28,29,30,31,32,33,34]) F.mixed zD<|OD.q 2 rfl<|OD.ia (.p rfl) underlying39 size31 rfl rfl rfl (hgs) (h:=fun p90 cs90 hp90 hr90=>?_);obtain ⟨rfl,_⟩:=hr90;refine .quiet (.p rfl) rfl (fun _=>.loadAt flat31 rfl hp90 rfl) ?_;refine OD.slot 91 (v' :=.slice au (nk+64) cu) rfl (by exact huk) ?_;refine OD.q 1 rfl<|OD.ia (.p rfl) underlying31 size5 rfl rfl rfl (hB) (h:=fun p93 cs93 hp93 hr93=>?_);obtain ⟨rfl,_⟩:=hr93;refine .quiet (.p rfl) rfl (fun _=>.loadAt flat5 rfl hp93 rfl) ?_;refine OD.q 2 rfl<|OD.call0 (.p rfl) zD rfl zD rfl rfl (markByte_c _ _ zH zH) ?_;rintro _ _ ⟨rfl,rfl⟩
     try simp only [zx1,zx2,zx3]
     refine .quiet (.p rfl) rfl (fun _=>.eql rfl rfl)<|OD.sT 98 rfl (by simp [markL]) ?_;refine .quiet (.p rfl) rfl (fun _=>.not rfl)<|OD.q 4 rfl<|OD.ia (.g rfl rfl) underlying39 size31 rfl rfl rfl (hls) (h:=fun p104 cs104 hp104 hr104=>?_);obtain ⟨rfl,_⟩:=hr104;refine .quiet (.g rfl rfl) rfl (fun _=>.loadAt flat31 rfl hp104 rfl) ?_;refine OD.slot 105 (v' :=.slice ak nk ck) rfl (by exact hvk) ?_;refine .quiet (.g rfl rfl) rfl (fun _=>.len rfl underlying31 rfl)<|.quiet (.g rfl rfl) rfl (fun _=>.lss rfl rfl)<|OD.q 1 rfl ?_
     first|refine OD.caseD 108 rfl (fun h108=>?_) (fun h108=>?_)|refine OD.caseB 108 rfl (fun h108=>?_) (fun h108=>?_)
     ·have hi2:i<nk:=by omega
      refine OD.q 2 rfl<|OD.ia (.g rfl rfl) underlying39 size31 rfl rfl rfl (hls) (h:=fun p111 cs111 hp111 hr111=>?_);obtain ⟨rfl,_⟩:=hr111;refine .quiet (.g rfl rfl) rfl (fun _=>.loadAt flat31 rfl hp111 rfl) ?_;refine OD.slot 112 (v' :=.slice ak nk ck) rfl (by exact hvk) ?_;refine OD.q 1 rfl<|OD.ia (.g rfl rfl) underlying31 size5 rfl rfl rfl (hA) (h:=fun p114 cs114 hp114 hr114=>?_);obtain ⟨rfl,_⟩:=hr114;refine .quiet (.g rfl rfl) rfl (fun _=>.loadAt flat5 rfl hp114 rfl) ?_;refine OD.q 2 rfl<|OD.call0 (.g rfl rfl) zD rfl zD rfl rfl (markByte_c _ _ zH zH) ?_;rintro _ _ ⟨rfl,rfl⟩
      try simp only [zx1,zx2,zx3]
      refine .quiet (.g rfl rfl) rfl (fun _=>.eql rfl rfl)<|OD.sT 119 rfl (by simp [markL]) ?_;refine .quiet (.g rfl rfl) rfl (fun _=>.not rfl)<|OD.q 2 rfl<|ODx.nil<|S.condF rfl<|S.skip<|S.inBlock<|S.region rfl<|O.q 1 rfl<|O.op (.p rfl) (.add rfl rfl (IntWalk.i64_in _ zC))<|O.q 1 rfl<|O.nil ?_;exact S.wk (ih (i+1) zC zC)
     ·refine OD.q 14 rfl<|ODx.nil<|S.condF rfl<|S.skip<|S.inBlock<|S.region rfl<|O.q 1 rfl<|O.op (.p rfl) (.add rfl rfl (IntWalk.i64_in _ zC))<|O.q 1 rfl<|O.nil ?_
      exact S.wk (ih (i+1) zC zC)
    ·clear ih
     refine S.exit rfl<|S.inBlock<|S.region rfl<|O.q 1 rfl<|O.op (.p rfl) (.add rfl rfl (IntWalk.i64_in _ zC))<|O.q 1 rfl<|O.nil ?_;exact S.wk (ih (k+1) zC zC)
   ·clear ih
    refine S.exit rfl<|S.seq<|S.seq<|S.region rfl<|O.q 1 rfl<|O.nil<|S.block<|th2 (th1 ?_);replace hls:=hls0;clear htw hgs hls0;refine S.each0 (TwoE 5) ?_;refine S.loopK2 (ι:=Nat) (κ:=List Value) (fun k vs2=>k≤vs.length∧vs2.length=k) (fun k vs2=>[(11,.int .i64 (k:Int))]) [(0,_),(5,_)] (fun k vs2=>[EachP (TwoE 5) ((vs.take k).zip vs2) (pairsM ws vs.length k),OwnP Rp.val 31 (.slice a42 vs.length c42) (vs2++us.drop k),EachP (TwoE 5) ((vs.zip us).drop k) ((pairsX ws vs.length).drop k),EachP (OwnP Rp.u8 5) [] (ws.drop vs.length)]) (fun k vs2=>vs.length - k) (0) ([]) zP (.cons rfl (.nil)) (.cons rfl (.cons rfl (.nil))) rfl fun k vs2 hx ih=>?_;have hm4:=meltRefl (g:=g);obtain ⟨hx1,hvs2⟩:=hx;refine S.seq<|S.seq<|S.region rfl<|O.q 2 rfl<|O.op (.p rfl) (.len rfl underlying39 rfl)<|O.op (.p rfl) (.lss rfl rfl)<|O.nil ?_
    first|refine S.condD rfl (fun h126=>?_) (fun h126=>?_)|refine S.condB rfl (fun h126=>?_) (fun h126=>?_)
    ·have hk:k<vs.length:=by omega
     have hka:k<ws.length:=by omega
     have hku:k<us.length:=by omega
     have hrow:=hbd k hka;have hz:(vs.zip us).drop k=(vs[k],us[k])::(vs.zip us).drop (k+1):=by rw [List.drop_eq_getElem_cons zI,List.getElem_zip]
     have hp:(pairsX ws vs.length).drop k=(ws[k],markX k ws[k].length 64)::(pairsX ws vs.length).drop (k+1):=by rw [List.drop_eq_getElem_cons (by simp [pairsX];omega)];simp [pairsX,hka]
     rw [hz,hp];refine S.eachPop zB ?_;refine S.conv (B:=TwoE 5 (vs[k],us[k]) (ws[k],markX k ws[k].length 64)) (C:=OwnP Rp.u8 5 vs[k] ws[k]) zB (fun _ x=>Two.own x) ?_;refine S.factS Sel.here (fun _ x=>OwnP.shape x) fun ⟨ak,ck,hvk⟩=>?_;rw [hvk];refine S.twoStart Sel.here ?_;refine S.skip<|S.seq<|S.block<|S.seq<|S.region rfl<|O.opE (.p rfl) (.makeP (T:=Rp.u8) (0:UInt8) (m:=64) underlying31 elem5 zF rfl rfl rfl rfl rfl zF zF) ?_;rintro _ _ ⟨a129,c129,rfl,rfl⟩;refine O.q 1 rfl<|O.nil<|S.seq<|S.seq<|S.region rfl<|O.q 1 rfl<|O.nil<|S.block<|S.loopK (ι:=Nat) (fun i=>i≤64) (fun i=>[(13,.int .i64 (i:Int))]) [(0,_),(5,_),(11,_),(12,_)] (fun i=>[OwnP Rp.u8 5 (.slice a129 64 c129) (markM k vs.length i++List.replicate (64 - i) 0),Two Rp.u8 5 (.slice ak ws[k].length ck) ws[k] (.slice ak ws[k].length ck) [],EachP (TwoE 5) ((vs.zip us).drop (k+1)) ((pairsX ws vs.length).drop (k+1)),EachP (TwoE 5) ((vs.take k).zip vs2) (pairsM ws vs.length k),OwnP Rp.val 31 (.slice a42 vs.length c42) (vs2++us.drop k),EachP (OwnP Rp.u8 5) [] (ws.drop vs.length)]) (fun i=>64 - i) (0) zG (.cons rfl (.nil)) (.cons rfl (.cons rfl (.cons rfl (.cons rfl (.nil))))) rfl fun i hx ih=>?_;have hm5:=meltRefl (g:=g);refine S.seq<|S.seq<|S.region rfl<|O.q 1 rfl<|O.op (.p rfl) (.lss rfl rfl)<|O.nil ?_
     first|refine S.condD rfl (fun h131=>?_) (fun h131=>?_)|refine S.condB rfl (fun h131=>?_) (fun h131=>?_)
     ·have hi:i<64:=by omega
      refine S.skip<|S.seq<|S.block<|S.region rfl<|O.q 4 rfl<|O.op (.p rfl) (.len rfl underlying39 rfl)<|O.op (.p rfl) (.add rfl rfl (IntWalk.i64_in _ zC))<|O.q 1 rfl<|O.call0 (.p rfl) rfl zD rfl rfl (markByte_c _ _ zH zH) ?_;rintro _ _ ⟨rfl,rfl⟩
      try simp only [zx1,zx2,zx3]
      refine O.opE (.p rfl) (.idxOwn (T:=Rp.u8) underlying31 size5 rfl rfl rfl zB zM) ?_;rintro _ _ ⟨p142,rfl,hp142,rfl⟩;refine O.opU rfl (.storeOwn size5 rfl hp142 rfl zB zM (show _=_ by rfl:Rp.rel _ _ _ (markB ((k:Int)+(vs.length:Int)) (i:Int)))) ?_;refine O.nil<|S.inBlock<|S.region rfl<|O.q 1 rfl<|O.op (.p rfl) (.add rfl rfl (IntWalk.i64_in _ zC))<|O.q 1 rfl<|O.nil ?_;rw [set_fill zG hi,markM_succ];exact S.wk (ih (i+1) zC zC)
     ·clear ih
      have hi:i=64:=by omega
      subst hi;rw [Nat.sub_self,List.replicate_zero,List.append_nil];refine S.frzA zB fun g hs hm hmany=>?_;replace hg:=Fr.sub_trans hg hs;replace hR:=melted hR hm
      try replace hls:=hls.mono hs
      try replace hgs:=hgs.mono hs
      replace hm1:=meltTrans hm1 hm;replace hm2:=meltTrans hm2 hm;replace hm3:=meltTrans hm3 hm;replace hm4:=meltTrans hm4 hm;replace hm5:=meltTrans hm5 hm;clear hs hm;refine S.exit rfl<|S.region rfl<|O.q 4 rfl<|O.ia (.p rfl) underlying39 size31 rfl rfl rfl (hls) (h:=fun p147 cs147 hp147 hr147=>?_);obtain ⟨rfl,_⟩:=hr147;refine O.op (.p rfl) (.loadAt flat31 rfl hp147 rfl) ?_;refine O.slot 148 (v' :=.slice ak ws[k].length ck) rfl (by exact hvk) ?_;refine O.q 1 rfl<|O.opE (.p rfl) (.appendTwo pure_u8 underlying31 elem5 zF rfl rfl zB hmany zI zI) ?_;rintro _ _ ⟨a150,c150,rfl,rfl⟩;refine O.opE (.p rfl) (.idxOwn (T:=Rp.val) underlying39 size31 rfl rfl rfl zB zM) ?_;rintro _ _ ⟨p151,rfl,hp151,rfl⟩;refine O.opU rfl (.storeOwn size31 rfl hp151 rfl zB zM (⟨rfl,rfl⟩:Rp.rel Rp.val _ _ (.slice a150 (ws[k].length+0+(markM k vs.length 64).length) c150))) ?_;refine O.nil<|S.inBlock<|S.region rfl<|O.q 1 rfl<|O.op (.p rfl) (.add rfl rfl (IntWalk.i64_in _ zC))<|O.q 1 rfl<|O.nil ?_;rw [set_over hvs2 hku];simp only [List.nil_append];refine S.conv (B:=Two Rp.u8 5 (.slice ak ws[k].length ck) ws[k] (.slice a150 (ws[k].length+0+(markM k vs.length 64).length) c150) (markM k vs.length 64)) (C:=TwoE 5 (.slice ak ws[k].length ck,.slice a150 (ws[k].length+0+(markM k vs.length 64).length) c150) (ws[k],markM k vs.length 64)) zB (fun m x=>⟨m,Fr.sub_refl _,x⟩) ?_
      refine S.each (A:=TwoE 5) (bs:=(vs.take k).zip vs2) zB zB ?_;rw [pairsM_succ ws vs.length k hka,zip_snoc hk hvs2 hvk];exact S.melt hm4 (S.pw (ih (k+1) (vs2++[.slice a150 (ws[k].length+0+(markM k vs.length 64).length) c150]) zQ zC))
    ·clear ih
     have hk:k=vs.length:=by omega
     subst hk;rw [List.take_length,show us.drop vs.length=[] from by rw [← hus,List.drop_length],List.append_nil];refine S.frz (A:=OwnP Rp.val 31 (.slice a42 vs.length c42) vs2) zB fun g1 hs1 hme1 ⟨m1,hm1',hsm1⟩=>?_;refine S.frz (A:=EachP (TwoE 5) (vs.zip vs2) (pairsM ws vs.length vs.length)) zB fun g2 hs2 hme2 ⟨m2,hm2',hsm2⟩=>?_;have hgs:Arr Rp.val g2.h (.slice a42 vs.length c42) vs2:=hm1'.arr.mono (Fr.sub_trans hsm1 hs2);replace hls:=hls.mono (Fr.sub_trans hs1 hs2);replace hR:=melted (melted hR hme1) hme2;have htw:=fun k h1 h2 h3=>two_at hm2' hsm2 rfl hvs2 zC k h1 h2 h3;refine S.pk Picks.nil ?_;refine S.exit rfl<|S.seq<|S.seq<|S.region rfl<|O.q 1 rfl<|O.nil<|S.block<|S.loopK (ι:=Nat) (fun k=>k≤vs.length) (fun k=>[(14,.int .i64 (k:Int))]) [(0,_),(5,_)] (fun k=>[]) (fun k=>vs.length - k) (0) zG (.cons rfl (.nil)) (.cons rfl (.cons rfl (.nil))) rfl fun k hx ih=>?_;have hm5:=meltRefl (g:=g);refine S.seq<|S.seq<|S.region rfl<|O.q 2 rfl<|O.op (.p rfl) (.len rfl underlying39 rfl)<|O.op (.p rfl) (.lss rfl rfl)<|O.nil ?_
     first|refine S.condD rfl (fun h155=>?_) (fun h155=>?_)|refine S.condB rfl (fun h155=>?_) (fun h155=>?_)
     ·have hk:k<vs.length:=by omega
      have hka:k<ws.length:=by omega
      have hku:k<vs2.length:=by omega
      have hrow:=hbd k hka;obtain ⟨hA,hB⟩:=htw k hk hku hka;have hB0:=hall k hka;obtain ⟨nk,hnk⟩:∃ nk,ws[k].length=nk:=⟨_,rfl⟩;simp only [hnk] at hB0 hrow;rw [hB0] at hA hB;obtain ⟨ak,ck,hvk⟩:=hA.shape;obtain ⟨au,cu,huk⟩:=hB.shape;rw [hvk] at hA;rw [huk] at hB;simp only [List.length_append,markL_length,markM_length] at hvk huk hA hB;refine S.skip<|S.seq<|S.block<|S.seq<|S.region rfl<|O.q 1 rfl<|O.nil<|S.block<|S.loopK (ι:=Nat) (fun i=>i≤nk) (fun i=>[(15,.int .i64 (i:Int))]) [(0,_),(5,_),(14,_)] (fun i=>[]) (fun i=>nk - i) (0) zG (.cons rfl (.nil)) (.cons rfl (.cons rfl (.cons rfl (.nil)))) rfl fun i hx ih=>?_;have hm6:=meltRefl (g:=g);refine S.seq<|S.seq<|S.region rfl<|O.q 3 rfl<|O.ia (.p rfl) underlying39 size31 rfl rfl rfl (hls) (h:=fun p161 cs161 hp161 hr161=>?_);obtain ⟨rfl,_⟩:=hr161;refine O.op (.p rfl) (.loadAt flat31 rfl hp161 rfl) ?_;refine O.slot 162 (v' :=.slice ak nk ck) rfl (by exact hvk) ?_;refine O.op (.p rfl) (.len rfl underlying31 rfl)<|O.op (.p rfl) (.lss rfl rfl)<|O.nil ?_
      first|refine S.condD rfl (fun h164=>?_) (fun h164=>?_)|refine S.condB rfl (fun h164=>?_) (fun h164=>?_)
      ·have hi:i<nk:=by omega
       refine S.skip<|S.seq<|S.block<|S.seq<|S.regionD (L:=[0,1,2,3,4,5,6,7,8,9,10,11,12,13,14,15,16,17,18,19,20,21,22,23,24,25]) F.mixed zD<|OD.q 2 rfl<|OD.ia (.p rfl) underlying39 size31 rfl rfl rfl (hls) (h:=fun p169 cs169 hp169 hr169=>?_);obtain ⟨rfl,_⟩:=hr169;refine .quiet (.p rfl) rfl (fun _=>.loadAt flat31 rfl hp169 rfl) ?_;refine OD.slot 170 (v' :=.slice ak nk ck) rfl (by exact hvk) ?_;refine OD.q 1 rfl<|OD.ia (.p rfl) underlying31 size5 rfl rfl rfl (hA) (h:=fun p172 cs172 hp172 hr172=>?_);obtain ⟨rfl,_⟩:=hr172;refine .quiet (.p rfl) rfl (fun _=>.loadAt flat5 rfl hp172 rfl) ?_;refine OD.q 2 rfl<|OD.call0 (.p rfl) zD rfl zD rfl rfl (markByte_c _ _ zH zH) ?_;rintro _ _ ⟨rfl,rfl⟩
       try simp only [zx1,zx2,zx3]
       refine .quiet (.p rfl) rfl (fun _=>.eql rfl rfl)<|OD.sT 177 rfl (by simp [markL]) ?_;refine .quiet (.p rfl) rfl (fun _=>.not rfl)<|OD.q 3 rfl<|OD.ia (.g rfl rfl) underlying39 size31 rfl rfl rfl (hgs) (h:=fun p182 cs182 hp182 hr182=>?_);obtain ⟨rfl,_⟩:=hr182;refine .quiet (.g rfl rfl) rfl (fun _=>.loadAt flat31 rfl hp182 rfl) ?_;refine OD.slot 183 (v' :=.slice au (nk+64) cu) rfl (by exact huk) ?_;refine OD.q 1 rfl<|OD.ia (.g rfl rfl) underlying31 size5 rfl rfl rfl (hB) (h:=fun p185 cs185 hp185 hr185=>?_);obtain ⟨rfl,_⟩:=hr185;refine .quiet (.g rfl rfl) rfl (fun _=>.loadAt flat5 rfl hp185 rfl) ?_;refine OD.q 2 rfl<|OD.call0 (.g rfl rfl) zD rfl zD rfl rfl (markByte_c _ _ zH zH) ?_;rintro _ _ ⟨rfl,rfl⟩
       try simp only [zx1,zx2,zx3]
       refine .quiet (.g rfl rfl) rfl (fun _=>.eql rfl rfl)<|OD.sT 190 rfl (by rw [List.getElem_append_left zI];simp [markL]) ?_;refine .quiet (.g rfl rfl) rfl (fun _=>.not rfl)<|OD.q 1 rfl<|ODx.nil<|S.condF rfl<|S.skip<|S.inBlock<|S.region rfl<|O.q 1 rfl<|O.op (.p rfl) (.add rfl rfl (IntWalk.i64_in _ zC))<|O.q 1 rfl<|O.nil ?_;exact S.wk (ih (i+1) zC zC)
      ·clear ih
       refine S.exit rfl<|S.inBlock<|S.region rfl<|O.q 1 rfl<|O.op (.p rfl) (.add rfl rfl (IntWalk.i64_in _ zC))<|O.q 1 rfl<|O.nil ?_;exact S.wk (ih (k+1) zC zC)
     ·clear ih
      refine S.exit rfl<|S.seq<|S.region rfl<|O.q 1 rfl<|O.nil ?_;exact S.rt results167 rfl hR ⟨rfl,rfl⟩
theorem markDot_w {r:Fr} (k i:Int) (hk:Mk k) (hi:Mk i):Con prog 244 #[.int .i64 k,.int .i64 i] r [] (Ret fun v η=>∃ cs,v=.agg cs.toArray∧(cs.length=2∧∀ c∈cs,c.oneCell' =true)∧η=[RdW DotRp cs (markDot k i)]) :=
 (markDot_c k i hk hi).post fun e η' h w g hw=>by
  cases e with
  |returned v =>
   obtain ⟨rfl,rfl⟩:=h;exact ⟨_,⟨[.int .i64 0,.int .i64 (markZ k i)],rfl,⟨rfl,by intro c hc;simp only [List.mem_cons,List.not_mem_nil,or_false] at hc;rcases hc with rfl|rfl<;>rfl⟩,rfl⟩,hw.imp fun m x=>⟨Fr.emp,m,Fr.emp_disj _,Fr.emp_sub _,Fr.sub_refl _,markDot_rel hk hi,x⟩⟩
  |panicked _=>exact h.elim
  |outgrown=>exact h.elim
theorem markRecord_w {r:Fr} (k i:Int) (hk:Mk k) (hi:Mk i):Con prog 101 #[.int .i64 k,.int .i64 i] r [] (Ret fun v η=>∃ cs,v=.agg cs.toArray∧(cs.length=7∧∀ c∈cs,c.oneCell' =true)∧η=[RdW RecRp cs (markRec k i)]) :=
 (markRecord_c k i hk hi).post fun e η' h w g hw=>by
  cases e with
  |returned v =>
   obtain ⟨rfl,rfl⟩:=h;exact ⟨_,⟨[.string (str []),.int .i64 0,.int .i64 (markZ k i),.slice none 0 0,.bool false,.slice none 0 0,.slice none 0 0],rfl,⟨rfl,by intro c hc;simp only [List.mem_cons,List.not_mem_nil,or_false] at hc;rcases hc with rfl|rfl|rfl|rfl|rfl|rfl|rfl<;>rfl⟩,rfl⟩,hw.imp fun m x=>⟨Fr.emp,m,Fr.emp_disj _,Fr.emp_sub _,Fr.sub_refl _,markRecord_rel hk hi,x⟩⟩
  |panicked _=>exact h.elim
  |outgrown=>exact h.elim
theorem sameRecord_w {r:Fr} {cs ds:List Value} {x y:RecT} (h:RecRp.rel r cs x) :
  Con prog 49 #[.agg cs.toArray,.agg ds.toArray] r [RdW RecRp ds y] (Ret fun v η=>v=.bool (decide (x=y))∧η=[]) :=
 Con.lentD (η:=[]) (bs:=[_]) fun _ hm hd=>sameRecord_c (RecRp.mono (Fr.sub_add_left _ _) h) (RecRp.mono (Fr.sub_add_right hd) (Sat.w1 (B:=fun m=>RecRp.rel m ds y) RecRp.mono (fun _ x=>x) hm))
theorem markLeaf_w {r:Fr} (k i:Int) (hk:Mk k) (hi:Mk i):Con prog 138 #[.int .i64 k,.int .i64 i] r [] (Ret fun v η=>∃ cs,v=.agg cs.toArray∧(cs.length=2∧∀ c∈cs,c.oneCell' =true)∧η=[RdW LeafRp cs (markLeaf k i)]) :=
 (markLeaf_c k i hk hi).post fun e η' h w g hw=>by
  cases e with
  |returned v =>
   obtain ⟨rfl,rfl⟩:=h;exact ⟨_,⟨[.string (str (markT k i)),.slice none 0 0],rfl,⟨rfl,by intro c hc;simp only [List.mem_cons,List.not_mem_nil,or_false] at hc;rcases hc with rfl|rfl<;>rfl⟩,rfl⟩,hw.imp fun m x=>⟨Fr.emp,m,Fr.emp_disj _,Fr.emp_sub _,Fr.sub_refl _,markLeaf_rel hk hi,x⟩⟩
  |panicked _=>exact h.elim
  |outgrown=>exact h.elim
theorem sameLeaf_w {r:Fr} {cs ds:List Value} {x y:LeafT} (h:LeafRp.rel r cs x) :
  Con prog 158 #[.agg cs.toArray,.agg ds.toArray] r [RdW LeafRp ds y] (Ret fun v η=>v=.bool (decide (x=y))∧η=[]) :=
 Con.lentD (η:=[]) (bs:=[_]) fun _ hm hd=>sameLeaf_c (LeafRp.mono (Fr.sub_add_left _ _) h) (LeafRp.mono (Fr.sub_add_right hd) (Sat.w1 (B:=fun m=>LeafRp.rel m ds y) LeafRp.mono (fun _ x=>x) hm))
theorem markRoot_w {r:Fr} (k i:Int) (hk:Mk k) (hi:Mk i):Con prog 140 #[.int .i64 k,.int .i64 i] r [] (Ret fun v η=>∃ cs,v=.agg cs.toArray∧(cs.length=5∧∀ c∈cs,c.oneCell' =true)∧η=[RdW RootRp cs (markRoot k i)]) :=
 (markRoot_c k i hk hi).post fun e η' h w g hw=>by
  cases e with
  |returned v =>
   obtain ⟨rfl,rfl⟩:=h;exact ⟨_,⟨[.int .i64 0,.int .i64 0,.int .i64 (markZ k i),.slice none 0 0,.slice none 0 0],rfl,⟨rfl,by intro c hc;simp only [List.mem_cons,List.not_mem_nil,or_false] at hc;rcases hc with rfl|rfl|rfl|rfl|rfl<;>rfl⟩,rfl⟩,hw.imp fun m x=>⟨Fr.emp,m,Fr.emp_disj _,Fr.emp_sub _,Fr.sub_refl _,markRoot_rel hk hi,x⟩⟩
  |panicked _=>exact h.elim
  |outgrown=>exact h.elim
theorem sameRoot_w {r:Fr} {cs ds:List Value} {x y:RootT} (h:RootRp.rel r cs x) :
  Con prog 160 #[.agg cs.toArray,.agg ds.toArray] r [RdW RootRp ds y] (Ret fun v η=>v=.bool (decide (x=y))∧η=[]) :=
 Con.lentD (η:=[]) (bs:=[_]) fun _ hm hd=>sameRoot_c (RootRp.mono (Fr.sub_add_left _ _) h) (RootRp.mono (Fr.sub_add_right hd) (Sat.w1 (B:=fun m=>RootRp.rel m ds y) RootRp.mono (fun _ x=>x) hm))
theorem markEvidence_w {r:Fr} (k i:Int) (hk:Mk k) (hi:Mk i):Con prog 142 #[.int .i64 k,.int .i64 i] r [] (Ret fun v η=>∃ cs,v=.agg cs.toArray∧(cs.length=10∧∀ c∈cs,c.oneCell' =true)∧η=[RdW EvdRp cs (markEvd k i)]) :=
 (markEvidence_c k i hk hi).post fun e η' h w g hw=>by
  cases e with
  |returned v =>
   obtain ⟨rfl,rfl⟩:=h;exact ⟨_,⟨[.int .i64 0,.int .i64 0,.int .i64 (markZ k i),.slice none 0 0,.slice none 0 0,.int .i64 0,.int .i64 0,.int .i64 0,.slice none 0 0,.slice none 0 0],rfl,⟨rfl,by intro c hc;simp only [List.mem_cons,List.not_mem_nil,or_false] at hc;rcases hc with rfl|rfl|rfl|rfl|rfl|rfl|rfl|rfl|rfl|rfl<;>rfl⟩,rfl⟩,hw.imp fun m x=>⟨Fr.emp,m,Fr.emp_disj _,Fr.emp_sub _,Fr.sub_refl _,markEvidence_rel hk hi,x⟩⟩
  |panicked _=>exact h.elim
  |outgrown=>exact h.elim
theorem sameEvidence_w {r:Fr} {cs ds:List Value} {x y:EvdT} (h:EvdRp.rel r cs x) :
  Con prog 156 #[.agg cs.toArray,.agg ds.toArray] r [RdW EvdRp ds y] (Ret fun v η=>v=.bool (decide (x=y))∧η=[]) :=
 Con.lentD (η:=[]) (bs:=[_]) fun _ hm hd=>sameEvidence_c (EvdRp.mono (Fr.sub_add_left _ _) h) (EvdRp.mono (Fr.sub_add_right hd) (Sat.w1 (B:=fun m=>EvdRp.rel m ds y) EvdRp.mono (fun _ x=>x) hm))
def markHld (k i:Int):HeldT:=([],[],[],[markZ k i],())
theorem markHeld_c {r:Fr} (k i:Int) (hk:Mk k) (hi:Mk i):Con prog 259 #[.int .i64 k,.int .i64 i] r [] (Ret fun v η=>∃ a c,v=.agg #[.slice none 0 0,.slice none 0 0,.slice none 0 0,.slice a 1 c]∧η=[OwnP Rp.i64 3 (.slice a 1 c) [markZ k i]]):=by
 have h64:=markZ64 hk hi;unfold InI64 at h64;refine Con.of (n:=10) _ rfl func259 rfl rfl rfl fun g hg R hR=>?_;refine S.seq<|S.region rfl<|O.opE (.p rfl) (.alloc (cs:=[.slice none 0 0,.slice none 0 0,.slice none 0 0,.slice none 0 0]) zeroValue27 rfl) ?_;rintro _ _ ⟨b4,rfl,rfl⟩;refine O.nil<|S.seq<|S.region rfl<|O.q 2 rfl<|O.call0 (.p rfl) rfl zD rfl rfl ((mark_c _ _ hk hi)) ?_;rintro _ _ ⟨rfl,rfl⟩
 try simp only [zx1,zx2,zx3]
 refine O.opE (.p rfl) (.litP (T:=Rp.i64) (ys:=[_]) underlying25 elem3 zF rfl rfl ⟨⟨rfl,by first|assumption|(constructor<;>omega)⟩,trivial⟩ zF) ?_;rintro _ _ ⟨a8,c8,rfl,rfl⟩;refine O.op (.p rfl) (.build (cs:=[_,_,_,_]) underlying27 rfl rfl rfl rfl rfl)<|O.opU rfl (.storeObj zD rfl rfl rfl rfl zB zK) ?_;refine O.nil<|S.retCellAgg results259 isAgg27 zD rfl zB fun w hw=>Holds.end_ hR hw ?_;exact pk ⟨a8,c8,rfl,rfl⟩
theorem markHeld_w {r:Fr} (k i:Int) (hk:Mk k) (hi:Mk i):Con prog 259 #[.int .i64 k,.int .i64 i] r [] (Ret fun v η=>∃ cs,v=.agg cs.toArray∧(cs.length=4∧∀ c∈cs,c.oneCell' =true)∧η=[RdW HeldRp cs (markHld k i)]) :=
 (markHeld_c k i hk hi).post fun e η' h w g hw=>by
  cases e with
  |returned v =>
   obtain ⟨a,c,rfl,rfl⟩:=h;exact ⟨_,⟨[.slice none 0 0,.slice none 0 0,.slice none 0 0,.slice a 1 c],rfl,⟨rfl,by intro c hc;simp only [List.mem_cons,List.not_mem_nil,or_false] at hc;rcases hc with rfl|rfl|rfl|rfl<;>rfl⟩,rfl⟩,hw.imp fun m x=>by
    obtain ⟨h1,h2,d,s1,s2,ho,he⟩:=x;exact ⟨h1,h2,d,s1,s2,HeldRp.mk Arr.nil Arr.nil Arr.nil ho.arr,he⟩⟩
  |panicked _=>exact h.elim
  |outgrown=>exact h.elim
theorem sameHeld_w {r:Fr} {cs ds:List Value} {x y:HeldT} (h:HeldRp.rel r cs x) :
  Con prog 33 #[.agg cs.toArray,.agg ds.toArray] r [RdW HeldRp ds y] (Ret fun v η=>v=.bool (decide (x=y))∧η=[]) :=
 Con.lentD (η:=[]) (bs:=[_]) fun _ hm hd=>sameHeld_c (HeldRp.mono (Fr.sub_add_left _ _) h) (HeldRp.mono (Fr.sub_add_right hd) (Sat.w1 (B:=fun m=>HeldRp.rel m ds y) HeldRp.mono (fun _ x=>x) hm))
end Go.Proofs.YtodhbhanmdfdeaaGreat
