/- Texts of this proof. -/
import Derived.Test.YtodhbhanmdfdeaaGreatQSlaw7
import Derived.Test.YtodhbhanmdfdeaaGreatQSpDrawF
open Go Go.Sp Go.Proofs.Tryz
set_option maxRecDepth 100000
set_option maxHeartbeats 1000000
attribute [local irreducible] obj Own OwnP
namespace Go.Proofs.YtodhbhanmdfdeaaGreat
def otherK:RecT:=([108],1,1,[],false,[],List.replicate 64 0,())
def valueK:RecT:=([107],1,1,[],false,[1],List.replicate 64 0,())
def wrongK:RecT:=([107],3,1,[],false,[],[],())
def recsK:List RecT:=[recF 1 1 [],recF 1 2 [1,1],recF 1 2 [],recF 2 1 [1,1],recF 2 1 [1,2],recF 2 3 [2,1],recF 3 1 [1,9,2,9],recF 1 9 [3,1],otherK,valueK,wrongK,recF 8 1073741824 [1,2,2,1,3,1]]
def putK:List RecT:=[recF 1 1 [],recF 2 7 [],recF 3 2 [2,6]]
theorem quoK {i k:Nat} (h:i≤2000) (hk:0<k):Value.int .i64 (IntKind.i64.wrap ((i:Int).tdiv (k:Int)))=.int .i64 ((i / k:Nat):Int):=by
 have e:(i:Int).tdiv (k:Int)=((i / k:Nat):Int):=by rw [Int.tdiv_eq_ediv_of_nonneg zD];rfl
 have:=Nat.div_le_self i k;rw [e,wrap_i64_eq _ zD,s64,if_pos zD]
theorem small_ok {x:RecT} (h:x.1.length≤64∧x.2.2.2.1.length≤64∧x.2.2.2.2.2.1.length≤64∧x.2.2.2.2.2.2.1.length≤64):RecOk big x:=by
 unfold RecOk big;omega
theorem recsK_ok:∀ x∈recsK,RecOk big x:=fun x hx=>small_ok (by revert x;decide)
theorem rec_parts {h:Fr} {s0 s1 s2 v3 s4 v5 v6:Value} {x:RecT} (r:RecRp.rel h [s0,s1,s2,v3,s4,v5,v6] x):Arr DotRp h v3 x.2.2.2.1∧Arr Rp.u8 h v5 x.2.2.2.2.2.1∧Arr Rp.u8 h v6 x.2.2.2.2.2.2.1:=by
 obtain ⟨_,_,_,_,_,_,q,_,_,_,p3,p5,p6⟩:=RecRp.sh r;simp only [List.cons.injEq] at q;obtain ⟨_,_,_,e3,_,e5,e6,_⟩:=q;rw [e3,e5,e6];exact ⟨p3,p5,p6⟩
theorem lit_arr {b n:Nat} {l:List Int} {cs:List Value} {r m:Fr} (hm:Sat [obj b 3 cs] m) (hd:r.disj m) (hc:All2 (Rp.i64.rel Fr.emp) (cs.map fun c=>[c]) l) (hl:l.length=n) (hn:n≤1000):Arr Rp.i64 (r.add m) (.slice (some ⟨b,0,none⟩) n n) l:=by
 obtain ⟨m1,_,_,s1,_,o1,_⟩:=hm;exact ((F.own_of (T:=Rp.i64) rfl hc hl zD o1).arr.mono s1).right hd
theorem putK_right:SRight putK:=by decide
theorem sOut_put:sOut putK=sB putK∧sErr putK=0:=sOutY putK_right
theorem putK_len:(sB putK).length≤2000:=by decide
theorem two_okK {Ls:List RecT} (h:∀ x∈Ls,RecOk big x) {i j:Nat} (hi:i<Ls.length) (hj:j<Ls.length):[Ls[i],Ls[j]].length≤big∧∀ x∈[Ls[i],Ls[j]],RecOk big x :=
 ⟨by unfold big;simp,fun x hx=>by
  simp only [List.mem_cons,List.not_mem_nil,or_false] at hx
  rcases hx with rfl|rfl
  ·exact h _ (List.getElem_mem hi)
  ·exact h _ (List.getElem_mem hj)⟩
theorem three_okK {Ls:List RecT} (h:∀ x∈Ls,RecOk big x) {i j k:Nat} (hi:i<Ls.length) (hj:j<Ls.length) (hk:k<Ls.length):[Ls[i],Ls[j],Ls[k]].length≤big∧∀ x∈[Ls[i],Ls[j],Ls[k]],RecOk big x :=
 ⟨by unfold big;simp,fun x hx=>by
  simp only [List.mem_cons,List.not_mem_nil,or_false] at hx
  rcases hx with rfl|rfl|rfl
  ·exact h _ (List.getElem_mem hi)
  ·exact h _ (List.getElem_mem hj)
  ·exact h _ (List.getElem_mem hk)⟩
theorem siblingNumbers_c {r:Fr}:Con prog 12 #[] r [] (Ret fun v η=>v=.bool true∧η=[]):=by
 refine Con.of (n:=186) _ rfl func12 rfl rfl rfl fun g hg R hR=>?_;refine S.seq<|S.region rfl<|O.q 1 rfl<|O.nil<|S.seq<|S.region rfl<|O.call0 (.p rfl) rfl zC rfl rfl ((ofF_c (c:=1) (s:=1) (l:=[]) zN zN Arr.nil zE)) ?_;rintro _ _ ⟨a21,c21,d21,e21,rfl,rfl⟩
 try simp only [zx1,zx2,zx3]
 refine O.opE (.p rfl) (.alloc (cs:=[.string ⟨#[]⟩,.int .i64 0,.int .i64 0,.slice none 0 0,.bool false,.slice none 0 0,.slice none 0 0]) zeroValue74 rfl) ?_;rintro _ _ ⟨b1,rfl,rfl⟩;refine O.opU rfl (.storeObj zC rfl rfl rfl rfl zB zT) ?_;refine O.nil<|S.seq<|S.frz (A:=(fun m=>RecRp.rel m [.string (str [107]),.int .i64 1,.int .i64 1,.slice a21 0 c21,.bool false,.slice none 0 0,.slice d21 64 e21] (recF 1 1 []))) zB fun g hs hm ⟨_,x',s'⟩=>?_;have h1:=(fun s x=>Rp.mono RecRp s x) s' x';clear x' s';replace hg:=Fr.sub_trans hg hs;replace hR:=melted hR hm;clear hs hm;have hA:RecRp.rel g.h [.string (str [108]),.int .i64 1,.int .i64 1,.slice a21 0 c21,.bool false,.slice none 0 0,.slice d21 64 e21] otherK:=RecRp.mk zE zN zN (rec_parts h1).1 Arr.nil (rec_parts h1).2.2;clear h1;refine S.objIs (b:=b1) (cs' :=[.string (str [107]),.int .i64 1,.int .i64 1,.slice a21 0 c21,.bool false,.slice none 0 0,.slice d21 64 e21]) zB rfl ?_;refine S.region rfl<|O.op (.p rfl) (.fieldObj fld74x0 rfl)<|O.opU rfl (.store1 flat9 rfl rfl zU zB zT) ?_;refine O.nil<|S.seq<|S.region rfl<|O.call0 (.p rfl) rfl zC rfl rfl ((ofF_c (c:=1) (s:=1) (l:=[]) zN zN Arr.nil zE)) ?_;rintro _ _ ⟨a23,c23,d23,e23,rfl,rfl⟩
 try simp only [zx1,zx2,zx3]
 refine O.opE (.p rfl) (.alloc (cs:=[.string ⟨#[]⟩,.int .i64 0,.int .i64 0,.slice none 0 0,.bool false,.slice none 0 0,.slice none 0 0]) zeroValue74 rfl) ?_;rintro _ _ ⟨b2,rfl,rfl⟩;refine O.opU rfl (.storeObj zC rfl rfl rfl rfl zB zT) ?_;refine O.nil<|S.seq<|S.frz (A:=(fun m=>RecRp.rel m [.string (str [107]),.int .i64 1,.int .i64 1,.slice a23 0 c23,.bool false,.slice none 0 0,.slice d23 64 e23] (recF 1 1 []))) zB fun g hs hm ⟨_,x',s'⟩=>?_;have h2:=(fun s x=>Rp.mono RecRp s x) s' x';clear x' s';replace hg:=Fr.sub_trans hg hs;replace hR:=melted hR hm
 try replace h1:=h1.mono hs
 try replace hA:=hA.mono hs
 clear hs hm;refine S.objIs (b:=b2) (cs' :=[.string (str [107]),.int .i64 1,.int .i64 1,.slice a23 0 c23,.bool false,.slice none 0 0,.slice d23 64 e23]) zB rfl ?_;refine S.region rfl<|O.opE (.p rfl) (.litP (T:=Rp.u8) (ys:=[1]) underlying31 elem5 zE rfl rfl ⟨rfl,trivial⟩ zE) ?_;rintro _ _ ⟨a24,c24,rfl,rfl⟩;refine O.op (.p rfl) (.fieldObj fld74x5 rfl)<|O.opU rfl (.store1 flat31 rfl rfl zU zB zT) ?_;refine O.nil<|S.seq<|S.region rfl<|O.call0 (.p rfl) rfl zC rfl rfl ((ofF_c (c:=3) (s:=1) (l:=[]) zN zN Arr.nil zE)) ?_;rintro _ _ ⟨a26,c26,d26,e26,rfl,rfl⟩
 try simp only [zx1,zx2,zx3]
 refine O.opE (.p rfl) (.alloc (cs:=[.string ⟨#[]⟩,.int .i64 0,.int .i64 0,.slice none 0 0,.bool false,.slice none 0 0,.slice none 0 0]) zeroValue74 rfl) ?_;rintro _ _ ⟨b3,rfl,rfl⟩;refine O.opU rfl (.storeObj zC rfl rfl rfl rfl zB zT) ?_;refine O.nil<|S.seq<|S.frzA zB fun g hs hm h24=>?_;replace hg:=Fr.sub_trans hg hs;replace hR:=melted hR hm
 try replace h1:=h1.mono hs
 try replace hA:=hA.mono hs
 try replace h2:=h2.mono hs
 clear hs hm;refine S.frz (A:=(fun m=>RecRp.rel m [.string (str [107]),.int .i64 3,.int .i64 1,.slice a26 0 c26,.bool false,.slice none 0 0,.slice d26 64 e26] (recF 3 1 []))) zB fun g hs hm ⟨_,x',s'⟩=>?_;have h3:=(fun s x=>Rp.mono RecRp s x) s' x';clear x' s';replace hg:=Fr.sub_trans hg hs;replace hR:=melted hR hm
 try replace h1:=h1.mono hs
 try replace hA:=hA.mono hs
 try replace h2:=h2.mono hs
 try replace h24:=h24.mono hs
 clear hs hm;refine S.objIs (b:=b3) (cs' :=[.string (str [107]),.int .i64 3,.int .i64 1,.slice a26 0 c26,.bool false,.slice none 0 0,.slice d26 64 e26]) zB rfl ?_;have hB:RecRp.rel g.h [.string (str [107]),.int .i64 1,.int .i64 1,.slice a23 0 c23,.bool false,.slice a24 1 c24,.slice d23 64 e23] valueK:=RecRp.mk zE zN zN (rec_parts h2).1 h24 (rec_parts h2).2.2;have hC:RecRp.rel g.h [.string (str [107]),.int .i64 3,.int .i64 1,.slice a26 0 c26,.bool false,.slice none 0 0,.slice none 0 0] wrongK:=RecRp.mk zE zN zN (rec_parts h3).1 Arr.nil Arr.nil;clear h2 h3;refine S.region rfl<|O.op (.p rfl) (.fieldObj fld74x6 rfl)<|O.opU rfl (.store1 flat31 rfl rfl zU zB zT) ?_;refine O.nil<|S.seq<|S.frzO zB fun g hs hm q1=>?_;replace hg:=Fr.sub_trans hg hs;replace hR:=melted hR hm
 try replace h1:=h1.mono hs
 try replace hA:=hA.mono hs
 try replace h2:=h2.mono hs
 try replace h24:=h24.mono hs
 try replace h3:=h3.mono hs
 try replace hB:=hB.mono hs
 try replace hC:=hC.mono hs
 clear hs hm;refine S.frzO zB fun g hs hm q2=>?_;replace hg:=Fr.sub_trans hg hs;replace hR:=melted hR hm
 try replace h1:=h1.mono hs
 try replace hA:=hA.mono hs
 try replace h2:=h2.mono hs
 try replace h24:=h24.mono hs
 try replace h3:=h3.mono hs
 try replace hB:=hB.mono hs
 try replace hC:=hC.mono hs
 try replace q1:=q1.mono hs
 clear hs hm;refine S.frzO zB fun g hs hm q3=>?_;replace hg:=Fr.sub_trans hg hs;replace hR:=melted hR hm
 try replace h1:=h1.mono hs
 try replace hA:=hA.mono hs
 try replace h2:=h2.mono hs
 try replace h24:=h24.mono hs
 try replace h3:=h3.mono hs
 try replace hB:=hB.mono hs
 try replace hC:=hC.mono hs
 try replace q1:=q1.mono hs
 try replace q2:=q2.mono hs
 clear hs hm;have p1:At g.h ⟨b1,0,none⟩ [.string (str [108]),.int .i64 1,.int .i64 1,.slice a21 0 c21,.bool false,.slice none 0 0,.slice d21 64 e21]:=by assumption
 have p2:At g.h ⟨b2,0,none⟩ [.string (str [107]),.int .i64 1,.int .i64 1,.slice a23 0 c23,.bool false,.slice a24 1 c24,.slice d23 64 e23]:=by assumption
 have p3:At g.h ⟨b3,0,none⟩ [.string (str [107]),.int .i64 3,.int .i64 1,.slice a26 0 c26,.bool false,.slice none 0 0,.slice none 0 0]:=by assumption
 clear q1 q2 q3;refine F.S.regionD (L:=[14,15,16,0,1,2,3,4,5,6,7,8,9,10,11,12,13,17,18,19,20]) F.mixed zC ?_;refine .quiet (.p rfl) rfl (fun _=>.loadAgg isAgg74 zC rfl p1) ?_;refine .quiet (.p rfl) rfl (fun _=>.loadAgg isAgg74 zC rfl p2) ?_;refine .quiet (.p rfl) rfl (fun _=>.loadAgg isAgg74 zC rfl p3) ?_;refine F.OD.call0 (.p rfl) zC rfl zC rfl rfl ((ofF_c (c:=1) (s:=1) (l:=[]) zN zN Arr.nil zE)) ?_;rintro _ _ ⟨a28,c28,d28,e28,rfl,rfl⟩
 try simp only [zx1,zx2,zx3]
 refine F.OD.litF (cs:=[.int .i64 1,.int .i64 1]) rfl zC zC underlying25 elem3 rfl rfl rfl (fun b29=>?_);refine F.OD.callB (.p rfl) zC rfl zC rfl rfl (bs:=[obj b29 3 [.int .i64 1,.int .i64 1]]) zK (fun m hm hd=>ofF_c (c:=1) (s:=2) (l:=[1,1]) zN zN (lit_arr hm hd ⟨⟨rfl,by constructor<;>decide⟩,⟨rfl,by constructor<;>decide⟩,trivial⟩ rfl zE) zE) ?_;rintro _ _ ⟨a30,c30,d30,e30,rfl,rfl⟩
 try simp only [zx1,zx2,zx3]
 refine F.OD.call0 (.p rfl) zC rfl zC rfl rfl ((ofF_c (c:=1) (s:=2) (l:=[]) zN zN Arr.nil zE)) ?_;rintro _ _ ⟨a31,c31,d31,e31,rfl,rfl⟩
 try simp only [zx1,zx2,zx3]
 refine F.OD.litF (cs:=[.int .i64 1,.int .i64 1]) rfl zC zC underlying25 elem3 rfl rfl rfl (fun b32=>?_);refine F.OD.callB (.p rfl) zC rfl zC rfl rfl (bs:=[obj b32 3 [.int .i64 1,.int .i64 1]]) zK (fun m hm hd=>ofF_c (c:=2) (s:=1) (l:=[1,1]) zN zN (lit_arr hm hd ⟨⟨rfl,by constructor<;>decide⟩,⟨rfl,by constructor<;>decide⟩,trivial⟩ rfl zE) zE) ?_;rintro _ _ ⟨a33,c33,d33,e33,rfl,rfl⟩
 try simp only [zx1,zx2,zx3]
 refine F.OD.litF (cs:=[.int .i64 1,.int .i64 2]) rfl zC zC underlying25 elem3 rfl rfl rfl (fun b34=>?_);refine F.OD.callB (.p rfl) zC rfl zC rfl rfl (bs:=[obj b34 3 [.int .i64 1,.int .i64 2]]) zK (fun m hm hd=>ofF_c (c:=2) (s:=1) (l:=[1,2]) zN zN (lit_arr hm hd ⟨⟨rfl,by constructor<;>decide⟩,⟨rfl,by constructor<;>decide⟩,trivial⟩ rfl zE) zE) ?_;rintro _ _ ⟨a35,c35,d35,e35,rfl,rfl⟩
 try simp only [zx1,zx2,zx3]
 refine F.OD.litF (cs:=[.int .i64 2,.int .i64 1]) rfl zC zC underlying25 elem3 rfl rfl rfl (fun b36=>?_);refine F.OD.callB (.p rfl) zC rfl zC rfl rfl (bs:=[obj b36 3 [.int .i64 2,.int .i64 1]]) zK (fun m hm hd=>ofF_c (c:=2) (s:=3) (l:=[2,1]) zN zN (lit_arr hm hd ⟨⟨rfl,by constructor<;>decide⟩,⟨rfl,by constructor<;>decide⟩,trivial⟩ rfl zE) zE) ?_;rintro _ _ ⟨a37,c37,d37,e37,rfl,rfl⟩
 try simp only [zx1,zx2,zx3]
 refine F.OD.litF (cs:=[.int .i64 1,.int .i64 9,.int .i64 2,.int .i64 9]) rfl zC zC underlying25 elem3 rfl rfl rfl (fun b38=>?_);refine F.OD.callB (.p rfl) zC rfl zC rfl rfl (bs:=[obj b38 3 [.int .i64 1,.int .i64 9,.int .i64 2,.int .i64 9]]) zK (fun m hm hd=>ofF_c (c:=3) (s:=1) (l:=[1,9,2,9]) zN zN (lit_arr hm hd ⟨⟨rfl,by constructor<;>decide⟩,⟨rfl,by constructor<;>decide⟩,⟨rfl,by constructor<;>decide⟩,⟨rfl,by constructor<;>decide⟩,trivial⟩ rfl zE) zE) ?_;rintro _ _ ⟨a39,c39,d39,e39,rfl,rfl⟩
 try simp only [zx1,zx2,zx3]
 refine F.OD.litF (cs:=[.int .i64 3,.int .i64 1]) rfl zC zC underlying25 elem3 rfl rfl rfl (fun b40=>?_);refine F.OD.callB (.p rfl) zC rfl zC rfl rfl (bs:=[obj b40 3 [.int .i64 3,.int .i64 1]]) zK (fun m hm hd=>ofF_c (c:=1) (s:=9) (l:=[3,1]) zN zN (lit_arr hm hd ⟨⟨rfl,by constructor<;>decide⟩,⟨rfl,by constructor<;>decide⟩,trivial⟩ rfl zE) zE) ?_;rintro _ _ ⟨a41,c41,d41,e41,rfl,rfl⟩
 try simp only [zx1,zx2,zx3]
 refine F.OD.litF (cs:=[.int .i64 1,.int .i64 2,.int .i64 2,.int .i64 1,.int .i64 3,.int .i64 1]) rfl zC zC underlying25 elem3 rfl rfl rfl (fun b45=>?_);refine F.OD.callB (.p rfl) zC rfl zC rfl rfl (bs:=[obj b45 3 [.int .i64 1,.int .i64 2,.int .i64 2,.int .i64 1,.int .i64 3,.int .i64 1]]) zK (fun m hm hd=>ofF_c (c:=8) (s:=1073741824) (l:=[1,2,2,1,3,1]) zN zN (lit_arr hm hd ⟨⟨rfl,by constructor<;>decide⟩,⟨rfl,by constructor<;>decide⟩,⟨rfl,by constructor<;>decide⟩,⟨rfl,by constructor<;>decide⟩,⟨rfl,by constructor<;>decide⟩,⟨rfl,by constructor<;>decide⟩,trivial⟩ rfl zE) zE) ?_;rintro _ _ ⟨a46,c46,d46,e46,rfl,rfl⟩
 try simp only [zx1,zx2,zx3]
 refine F.OD.litP (.p rfl) zC zC (T:=Rp.cells 7) (ys:=[[.string (str [107]),.int .i64 1,.int .i64 1,.slice a28 0 c28,.bool false,.slice none 0 0,.slice d28 64 e28],[.string (str [107]),.int .i64 1,.int .i64 2,.slice a30 1 c30,.bool false,.slice none 0 0,.slice d30 64 e30],[.string (str [107]),.int .i64 1,.int .i64 2,.slice a31 0 c31,.bool false,.slice none 0 0,.slice d31 64 e31],[.string (str [107]),.int .i64 2,.int .i64 1,.slice a33 1 c33,.bool false,.slice none 0 0,.slice d33 64 e33],[.string (str [107]),.int .i64 2,.int .i64 1,.slice a35 1 c35,.bool false,.slice none 0 0,.slice d35 64 e35],[.string (str [107]),.int .i64 2,.int .i64 3,.slice a37 1 c37,.bool false,.slice none 0 0,.slice d37 64 e37],[.string (str [107]),.int .i64 3,.int .i64 1,.slice a39 2 c39,.bool false,.slice none 0 0,.slice d39 64 e39],[.string (str [107]),.int .i64 1,.int .i64 9,.slice a41 1 c41,.bool false,.slice none 0 0,.slice d41 64 e41],[.string (str [108]),.int .i64 1,.int .i64 1,.slice a21 0 c21,.bool false,.slice none 0 0,.slice d21 64 e21],[.string (str [107]),.int .i64 1,.int .i64 1,.slice a23 0 c23,.bool false,.slice a24 1 c24,.slice d23 64 e23],[.string (str [107]),.int .i64 3,.int .i64 1,.slice a26 0 c26,.bool false,.slice none 0 0,.slice none 0 0],[.string (str [107]),.int .i64 8,.int .i64 1073741824,.slice a46 3 c46,.bool false,.slice none 0 0,.slice d46 64 e46]]) underlying47 elem74 zE rfl rfl ⟨⟨rfl,rfl,by first|(simp;done)|(intro v hv;simp [Value.cells] at hv;rcases hv with rfl|rfl<;>rfl)|(refine List.forall_mem_cons.2 ⟨rfl,?_⟩;repeat (first|exact (fun _ h=>absurd h List.not_mem_nil)|refine List.forall_mem_cons.2 ⟨rfl,?_⟩))⟩,⟨rfl,rfl,by first|(simp;done)|(intro v hv;simp [Value.cells] at hv;rcases hv with rfl|rfl<;>rfl)|(refine List.forall_mem_cons.2 ⟨rfl,?_⟩;repeat (first|exact (fun _ h=>absurd h List.not_mem_nil)|refine List.forall_mem_cons.2 ⟨rfl,?_⟩))⟩,⟨rfl,rfl,by first|(simp;done)|(intro v hv;simp [Value.cells] at hv;rcases hv with rfl|rfl<;>rfl)|(refine List.forall_mem_cons.2 ⟨rfl,?_⟩;repeat (first|exact (fun _ h=>absurd h List.not_mem_nil)|refine List.forall_mem_cons.2 ⟨rfl,?_⟩))⟩,⟨rfl,rfl,by first|(simp;done)|(intro v hv;simp [Value.cells] at hv;rcases hv with rfl|rfl<;>rfl)|(refine List.forall_mem_cons.2 ⟨rfl,?_⟩;repeat (first|exact (fun _ h=>absurd h List.not_mem_nil)|refine List.forall_mem_cons.2 ⟨rfl,?_⟩))⟩,⟨rfl,rfl,by first|(simp;done)|(intro v hv;simp [Value.cells] at hv;rcases hv with rfl|rfl<;>rfl)|(refine List.forall_mem_cons.2 ⟨rfl,?_⟩;repeat (first|exact (fun _ h=>absurd h List.not_mem_nil)|refine List.forall_mem_cons.2 ⟨rfl,?_⟩))⟩,⟨rfl,rfl,by first|(simp;done)|(intro v hv;simp [Value.cells] at hv;rcases hv with rfl|rfl<;>rfl)|(refine List.forall_mem_cons.2 ⟨rfl,?_⟩;repeat (first|exact (fun _ h=>absurd h List.not_mem_nil)|refine List.forall_mem_cons.2 ⟨rfl,?_⟩))⟩,⟨rfl,rfl,by first|(simp;done)|(intro v hv;simp [Value.cells] at hv;rcases hv with rfl|rfl<;>rfl)|(refine List.forall_mem_cons.2 ⟨rfl,?_⟩;repeat (first|exact (fun _ h=>absurd h List.not_mem_nil)|refine List.forall_mem_cons.2 ⟨rfl,?_⟩))⟩,⟨rfl,rfl,by first|(simp;done)|(intro v hv;simp [Value.cells] at hv;rcases hv with rfl|rfl<;>rfl)|(refine List.forall_mem_cons.2 ⟨rfl,?_⟩;repeat (first|exact (fun _ h=>absurd h List.not_mem_nil)|refine List.forall_mem_cons.2 ⟨rfl,?_⟩))⟩,⟨rfl,rfl,by first|(simp;done)|(intro v hv;simp [Value.cells] at hv;rcases hv with rfl|rfl<;>rfl)|(refine List.forall_mem_cons.2 ⟨rfl,?_⟩;repeat (first|exact (fun _ h=>absurd h List.not_mem_nil)|refine List.forall_mem_cons.2 ⟨rfl,?_⟩))⟩,⟨rfl,rfl,by first|(simp;done)|(intro v hv;simp [Value.cells] at hv;rcases hv with rfl|rfl<;>rfl)|(refine List.forall_mem_cons.2 ⟨rfl,?_⟩;repeat (first|exact (fun _ h=>absurd h List.not_mem_nil)|refine List.forall_mem_cons.2 ⟨rfl,?_⟩))⟩,⟨rfl,rfl,by first|(simp;done)|(intro v hv;simp [Value.cells] at hv;rcases hv with rfl|rfl<;>rfl)|(refine List.forall_mem_cons.2 ⟨rfl,?_⟩;repeat (first|exact (fun _ h=>absurd h List.not_mem_nil)|refine List.forall_mem_cons.2 ⟨rfl,?_⟩))⟩,⟨rfl,rfl,by first|(simp;done)|(intro v hv;simp [Value.cells] at hv;rcases hv with rfl|rfl<;>rfl)|(refine List.forall_mem_cons.2 ⟨rfl,?_⟩;repeat (first|exact (fun _ h=>absurd h List.not_mem_nil)|refine List.forall_mem_cons.2 ⟨rfl,?_⟩))⟩,trivial⟩ zE (fun a47 c47=>?_)
 refine .quiet (.p rfl) rfl (fun _=>.as rfl)<|F.ODx.nil (S.seq (S.seq ?_));refine S.frz (A:=(fun m=>RecRp.rel m [.string (str [107]),.int .i64 1,.int .i64 1,.slice a28 0 c28,.bool false,.slice none 0 0,.slice d28 64 e28] (recF 1 1 []))) zB fun g hs hm ⟨_,x',s'⟩=>?_;have r0:=(fun s x=>Rp.mono RecRp s x) s' x';clear x' s';replace hg:=Fr.sub_trans hg hs;replace hR:=melted hR hm
 try replace h1:=h1.mono hs
 try replace hA:=hA.mono hs
 try replace h2:=h2.mono hs
 try replace h24:=h24.mono hs
 try replace h3:=h3.mono hs
 try replace hB:=hB.mono hs
 try replace hC:=hC.mono hs
 try replace q1:=q1.mono hs
 try replace q2:=q2.mono hs
 try replace q3:=q3.mono hs
 try replace p1:=p1.mono hs
 try replace p2:=p2.mono hs
 try replace p3:=p3.mono hs
 clear hs hm;refine S.frz (A:=(fun m=>RecRp.rel m [.string (str [107]),.int .i64 1,.int .i64 2,.slice a30 1 c30,.bool false,.slice none 0 0,.slice d30 64 e30] (recF 1 2 [1,1]))) zB fun g hs hm ⟨_,x',s'⟩=>?_;have r1:=(fun s x=>Rp.mono RecRp s x) s' x';clear x' s';replace hg:=Fr.sub_trans hg hs;replace hR:=melted hR hm
 try replace h1:=h1.mono hs
 try replace hA:=hA.mono hs
 try replace h2:=h2.mono hs
 try replace h24:=h24.mono hs
 try replace h3:=h3.mono hs
 try replace hB:=hB.mono hs
 try replace hC:=hC.mono hs
 try replace q1:=q1.mono hs
 try replace q2:=q2.mono hs
 try replace q3:=q3.mono hs
 try replace p1:=p1.mono hs
 try replace p2:=p2.mono hs
 try replace p3:=p3.mono hs
 try replace r0:=r0.mono hs
 clear hs hm;refine S.frz (A:=(fun m=>RecRp.rel m [.string (str [107]),.int .i64 1,.int .i64 2,.slice a31 0 c31,.bool false,.slice none 0 0,.slice d31 64 e31] (recF 1 2 []))) zB fun g hs hm ⟨_,x',s'⟩=>?_;have r2:=(fun s x=>Rp.mono RecRp s x) s' x';clear x' s';replace hg:=Fr.sub_trans hg hs;replace hR:=melted hR hm
 try replace h1:=h1.mono hs
 try replace hA:=hA.mono hs
 try replace h2:=h2.mono hs
 try replace h24:=h24.mono hs
 try replace h3:=h3.mono hs
 try replace hB:=hB.mono hs
 try replace hC:=hC.mono hs
 try replace q1:=q1.mono hs
 try replace q2:=q2.mono hs
 try replace q3:=q3.mono hs
 try replace p1:=p1.mono hs
 try replace p2:=p2.mono hs
 try replace p3:=p3.mono hs
 try replace r0:=r0.mono hs
 try replace r1:=r1.mono hs
 clear hs hm;refine S.frz (A:=(fun m=>RecRp.rel m [.string (str [107]),.int .i64 2,.int .i64 1,.slice a33 1 c33,.bool false,.slice none 0 0,.slice d33 64 e33] (recF 2 1 [1,1]))) zB fun g hs hm ⟨_,x',s'⟩=>?_;have r3:=(fun s x=>Rp.mono RecRp s x) s' x';clear x' s';replace hg:=Fr.sub_trans hg hs;replace hR:=melted hR hm
 try replace h1:=h1.mono hs
 try replace hA:=hA.mono hs
 try replace h2:=h2.mono hs
 try replace h24:=h24.mono hs
 try replace h3:=h3.mono hs
 try replace hB:=hB.mono hs
 try replace hC:=hC.mono hs
 try replace q1:=q1.mono hs
 try replace q2:=q2.mono hs
 try replace q3:=q3.mono hs
 try replace p1:=p1.mono hs
 try replace p2:=p2.mono hs
 try replace p3:=p3.mono hs
 try replace r0:=r0.mono hs
 try replace r1:=r1.mono hs
 try replace r2:=r2.mono hs
 clear hs hm;refine S.frz (A:=(fun m=>RecRp.rel m [.string (str [107]),.int .i64 2,.int .i64 1,.slice a35 1 c35,.bool false,.slice none 0 0,.slice d35 64 e35] (recF 2 1 [1,2]))) zB fun g hs hm ⟨_,x',s'⟩=>?_;have r4:=(fun s x=>Rp.mono RecRp s x) s' x';clear x' s';replace hg:=Fr.sub_trans hg hs;replace hR:=melted hR hm
 try replace h1:=h1.mono hs
 try replace hA:=hA.mono hs
 try replace h2:=h2.mono hs
 try replace h24:=h24.mono hs
 try replace h3:=h3.mono hs
 try replace hB:=hB.mono hs
 try replace hC:=hC.mono hs
 try replace q1:=q1.mono hs
 try replace q2:=q2.mono hs
 try replace q3:=q3.mono hs
 try replace p1:=p1.mono hs
 try replace p2:=p2.mono hs
 try replace p3:=p3.mono hs
 try replace r0:=r0.mono hs
 try replace r1:=r1.mono hs
 try replace r2:=r2.mono hs
 try replace r3:=r3.mono hs
 clear hs hm;refine S.frz (A:=(fun m=>RecRp.rel m [.string (str [107]),.int .i64 2,.int .i64 3,.slice a37 1 c37,.bool false,.slice none 0 0,.slice d37 64 e37] (recF 2 3 [2,1]))) zB fun g hs hm ⟨_,x',s'⟩=>?_;have r5:=(fun s x=>Rp.mono RecRp s x) s' x';clear x' s';replace hg:=Fr.sub_trans hg hs;replace hR:=melted hR hm
 try replace h1:=h1.mono hs
 try replace hA:=hA.mono hs
 try replace h2:=h2.mono hs
 try replace h24:=h24.mono hs
 try replace h3:=h3.mono hs
 try replace hB:=hB.mono hs
 try replace hC:=hC.mono hs
 try replace q1:=q1.mono hs
 try replace q2:=q2.mono hs
 try replace q3:=q3.mono hs
 try replace p1:=p1.mono hs
 try replace p2:=p2.mono hs
 try replace p3:=p3.mono hs
 try replace r0:=r0.mono hs
 try replace r1:=r1.mono hs
 try replace r2:=r2.mono hs
 try replace r3:=r3.mono hs
 try replace r4:=r4.mono hs
 clear hs hm;refine S.frz (A:=(fun m=>RecRp.rel m [.string (str [107]),.int .i64 3,.int .i64 1,.slice a39 2 c39,.bool false,.slice none 0 0,.slice d39 64 e39] (recF 3 1 [1,9,2,9]))) zB fun g hs hm ⟨_,x',s'⟩=>?_;have r6:=(fun s x=>Rp.mono RecRp s x) s' x';clear x' s';replace hg:=Fr.sub_trans hg hs;replace hR:=melted hR hm
 try replace h1:=h1.mono hs
 try replace hA:=hA.mono hs
 try replace h2:=h2.mono hs
 try replace h24:=h24.mono hs
 try replace h3:=h3.mono hs
 try replace hB:=hB.mono hs
 try replace hC:=hC.mono hs
 try replace q1:=q1.mono hs
 try replace q2:=q2.mono hs
 try replace q3:=q3.mono hs
 try replace p1:=p1.mono hs
 try replace p2:=p2.mono hs
 try replace p3:=p3.mono hs
 try replace r0:=r0.mono hs
 try replace r1:=r1.mono hs
 try replace r2:=r2.mono hs
 try replace r3:=r3.mono hs
 try replace r4:=r4.mono hs
 try replace r5:=r5.mono hs
 clear hs hm;refine S.frz (A:=(fun m=>RecRp.rel m [.string (str [107]),.int .i64 1,.int .i64 9,.slice a41 1 c41,.bool false,.slice none 0 0,.slice d41 64 e41] (recF 1 9 [3,1]))) zB fun g hs hm ⟨_,x',s'⟩=>?_;have r7:=(fun s x=>Rp.mono RecRp s x) s' x';clear x' s';replace hg:=Fr.sub_trans hg hs;replace hR:=melted hR hm
 try replace h1:=h1.mono hs
 try replace hA:=hA.mono hs
 try replace h2:=h2.mono hs
 try replace h24:=h24.mono hs
 try replace h3:=h3.mono hs
 try replace hB:=hB.mono hs
 try replace hC:=hC.mono hs
 try replace q1:=q1.mono hs
 try replace q2:=q2.mono hs
 try replace q3:=q3.mono hs
 try replace p1:=p1.mono hs
 try replace p2:=p2.mono hs
 try replace p3:=p3.mono hs
 try replace r0:=r0.mono hs
 try replace r1:=r1.mono hs
 try replace r2:=r2.mono hs
 try replace r3:=r3.mono hs
 try replace r4:=r4.mono hs
 try replace r5:=r5.mono hs
 try replace r6:=r6.mono hs
 clear hs hm;refine S.frz (A:=(fun m=>RecRp.rel m [.string (str [107]),.int .i64 8,.int .i64 1073741824,.slice a46 3 c46,.bool false,.slice none 0 0,.slice d46 64 e46] (recF 8 1073741824 [1,2,2,1,3,1]))) zB fun g hs hm ⟨_,x',s'⟩=>?_;have r8:=(fun s x=>Rp.mono RecRp s x) s' x';clear x' s';replace hg:=Fr.sub_trans hg hs;replace hR:=melted hR hm
 try replace h1:=h1.mono hs
 try replace hA:=hA.mono hs
 try replace h2:=h2.mono hs
 try replace h24:=h24.mono hs
 try replace h3:=h3.mono hs
 try replace hB:=hB.mono hs
 try replace hC:=hC.mono hs
 try replace q1:=q1.mono hs
 try replace q2:=q2.mono hs
 try replace q3:=q3.mono hs
 try replace p1:=p1.mono hs
 try replace p2:=p2.mono hs
 try replace p3:=p3.mono hs
 try replace r0:=r0.mono hs
 try replace r1:=r1.mono hs
 try replace r2:=r2.mono hs
 try replace r3:=r3.mono hs
 try replace r4:=r4.mono hs
 try replace r5:=r5.mono hs
 try replace r6:=r6.mono hs
 try replace r7:=r7.mono hs
 clear hs hm;refine S.frzO zB fun g hs hm y0=>?_;replace hg:=Fr.sub_trans hg hs;replace hR:=melted hR hm
 try replace h1:=h1.mono hs
 try replace hA:=hA.mono hs
 try replace h2:=h2.mono hs
 try replace h24:=h24.mono hs
 try replace h3:=h3.mono hs
 try replace hB:=hB.mono hs
 try replace hC:=hC.mono hs
 try replace q1:=q1.mono hs
 try replace q2:=q2.mono hs
 try replace q3:=q3.mono hs
 try replace p1:=p1.mono hs
 try replace p2:=p2.mono hs
 try replace p3:=p3.mono hs
 try replace r0:=r0.mono hs
 try replace r1:=r1.mono hs
 try replace r2:=r2.mono hs
 try replace r3:=r3.mono hs
 try replace r4:=r4.mono hs
 try replace r5:=r5.mono hs
 try replace r6:=r6.mono hs
 try replace r7:=r7.mono hs
 try replace r8:=r8.mono hs
 clear hs hm;refine S.frzO zB fun g hs hm y1=>?_;replace hg:=Fr.sub_trans hg hs;replace hR:=melted hR hm
 try replace h1:=h1.mono hs
 try replace hA:=hA.mono hs
 try replace h2:=h2.mono hs
 try replace h24:=h24.mono hs
 try replace h3:=h3.mono hs
 try replace hB:=hB.mono hs
 try replace hC:=hC.mono hs
 try replace q1:=q1.mono hs
 try replace q2:=q2.mono hs
 try replace q3:=q3.mono hs
 try replace p1:=p1.mono hs
 try replace p2:=p2.mono hs
 try replace p3:=p3.mono hs
 try replace r0:=r0.mono hs
 try replace r1:=r1.mono hs
 try replace r2:=r2.mono hs
 try replace r3:=r3.mono hs
 try replace r4:=r4.mono hs
 try replace r5:=r5.mono hs
 try replace r6:=r6.mono hs
 try replace r7:=r7.mono hs
 try replace r8:=r8.mono hs
 try replace y0:=y0.mono hs
 clear hs hm;refine S.frzO zB fun g hs hm y2=>?_;replace hg:=Fr.sub_trans hg hs;replace hR:=melted hR hm
 try replace h1:=h1.mono hs
 try replace hA:=hA.mono hs
 try replace h2:=h2.mono hs
 try replace h24:=h24.mono hs
 try replace h3:=h3.mono hs
 try replace hB:=hB.mono hs
 try replace hC:=hC.mono hs
 try replace q1:=q1.mono hs
 try replace q2:=q2.mono hs
 try replace q3:=q3.mono hs
 try replace p1:=p1.mono hs
 try replace p2:=p2.mono hs
 try replace p3:=p3.mono hs
 try replace r0:=r0.mono hs
 try replace r1:=r1.mono hs
 try replace r2:=r2.mono hs
 try replace r3:=r3.mono hs
 try replace r4:=r4.mono hs
 try replace r5:=r5.mono hs
 try replace r6:=r6.mono hs
 try replace r7:=r7.mono hs
 try replace r8:=r8.mono hs
 try replace y0:=y0.mono hs
 try replace y1:=y1.mono hs
 clear hs hm;refine S.frzO zB fun g hs hm y3=>?_;replace hg:=Fr.sub_trans hg hs;replace hR:=melted hR hm
 try replace h1:=h1.mono hs
 try replace hA:=hA.mono hs
 try replace h2:=h2.mono hs
 try replace h24:=h24.mono hs
 try replace h3:=h3.mono hs
 try replace hB:=hB.mono hs
 try replace hC:=hC.mono hs
 try replace q1:=q1.mono hs
 try replace q2:=q2.mono hs
 try replace q3:=q3.mono hs
 try replace p1:=p1.mono hs
 try replace p2:=p2.mono hs
 try replace p3:=p3.mono hs
 try replace r0:=r0.mono hs
 try replace r1:=r1.mono hs
 try replace r2:=r2.mono hs
 try replace r3:=r3.mono hs
 try replace r4:=r4.mono hs
 try replace r5:=r5.mono hs
 try replace r6:=r6.mono hs
 try replace r7:=r7.mono hs
 try replace r8:=r8.mono hs
 try replace y0:=y0.mono hs
 try replace y1:=y1.mono hs
 try replace y2:=y2.mono hs
 clear hs hm;refine S.frzO zB fun g hs hm y4=>?_;replace hg:=Fr.sub_trans hg hs;replace hR:=melted hR hm
 try replace h1:=h1.mono hs
 try replace hA:=hA.mono hs
 try replace h2:=h2.mono hs
 try replace h24:=h24.mono hs
 try replace h3:=h3.mono hs
 try replace hB:=hB.mono hs
 try replace hC:=hC.mono hs
 try replace q1:=q1.mono hs
 try replace q2:=q2.mono hs
 try replace q3:=q3.mono hs
 try replace p1:=p1.mono hs
 try replace p2:=p2.mono hs
 try replace p3:=p3.mono hs
 try replace r0:=r0.mono hs
 try replace r1:=r1.mono hs
 try replace r2:=r2.mono hs
 try replace r3:=r3.mono hs
 try replace r4:=r4.mono hs
 try replace r5:=r5.mono hs
 try replace r6:=r6.mono hs
 try replace r7:=r7.mono hs
 try replace r8:=r8.mono hs
 try replace y0:=y0.mono hs
 try replace y1:=y1.mono hs
 try replace y2:=y2.mono hs
 try replace y3:=y3.mono hs
 clear hs hm;refine S.frzO zB fun g hs hm y5=>?_;replace hg:=Fr.sub_trans hg hs;replace hR:=melted hR hm
 try replace h1:=h1.mono hs
 try replace hA:=hA.mono hs
 try replace h2:=h2.mono hs
 try replace h24:=h24.mono hs
 try replace h3:=h3.mono hs
 try replace hB:=hB.mono hs
 try replace hC:=hC.mono hs
 try replace q1:=q1.mono hs
 try replace q2:=q2.mono hs
 try replace q3:=q3.mono hs
 try replace p1:=p1.mono hs
 try replace p2:=p2.mono hs
 try replace p3:=p3.mono hs
 try replace r0:=r0.mono hs
 try replace r1:=r1.mono hs
 try replace r2:=r2.mono hs
 try replace r3:=r3.mono hs
 try replace r4:=r4.mono hs
 try replace r5:=r5.mono hs
 try replace r6:=r6.mono hs
 try replace r7:=r7.mono hs
 try replace r8:=r8.mono hs
 try replace y0:=y0.mono hs
 try replace y1:=y1.mono hs
 try replace y2:=y2.mono hs
 try replace y3:=y3.mono hs
 try replace y4:=y4.mono hs
 clear hs hm;refine S.frzO zB fun g hs hm y6=>?_;replace hg:=Fr.sub_trans hg hs;replace hR:=melted hR hm
 try replace h1:=h1.mono hs
 try replace hA:=hA.mono hs
 try replace h2:=h2.mono hs
 try replace h24:=h24.mono hs
 try replace h3:=h3.mono hs
 try replace hB:=hB.mono hs
 try replace hC:=hC.mono hs
 try replace q1:=q1.mono hs
 try replace q2:=q2.mono hs
 try replace q3:=q3.mono hs
 try replace p1:=p1.mono hs
 try replace p2:=p2.mono hs
 try replace p3:=p3.mono hs
 try replace r0:=r0.mono hs
 try replace r1:=r1.mono hs
 try replace r2:=r2.mono hs
 try replace r3:=r3.mono hs
 try replace r4:=r4.mono hs
 try replace r5:=r5.mono hs
 try replace r6:=r6.mono hs
 try replace r7:=r7.mono hs
 try replace r8:=r8.mono hs
 try replace y0:=y0.mono hs
 try replace y1:=y1.mono hs
 try replace y2:=y2.mono hs
 try replace y3:=y3.mono hs
 try replace y4:=y4.mono hs
 try replace y5:=y5.mono hs
 clear hs hm;clear y0 y1 y2 y3 y4 y5 y6;refine S.frzA zB fun g hs hm z47=>?_;replace hg:=Fr.sub_trans hg hs;replace hR:=melted hR hm
 try replace h1:=h1.mono hs
 try replace hA:=hA.mono hs
 try replace h2:=h2.mono hs
 try replace h24:=h24.mono hs
 try replace h3:=h3.mono hs
 try replace hB:=hB.mono hs
 try replace hC:=hC.mono hs
 try replace q1:=q1.mono hs
 try replace q2:=q2.mono hs
 try replace q3:=q3.mono hs
 try replace p1:=p1.mono hs
 try replace p2:=p2.mono hs
 try replace p3:=p3.mono hs
 try replace r0:=r0.mono hs
 try replace r1:=r1.mono hs
 try replace r2:=r2.mono hs
 try replace r3:=r3.mono hs
 try replace r4:=r4.mono hs
 try replace r5:=r5.mono hs
 try replace r6:=r6.mono hs
 try replace r7:=r7.mono hs
 try replace r8:=r8.mono hs
 try replace y0:=y0.mono hs
 try replace y1:=y1.mono hs
 try replace y2:=y2.mono hs
 try replace y3:=y3.mono hs
 try replace y4:=y4.mono hs
 try replace y5:=y5.mono hs
 try replace y6:=y6.mono hs
 clear hs hm;have hL:Arr RecRp g.h (.slice a47 12 c47) recsK:=Arr.ofCells z47 ⟨r0,r1,r2,r3,r4,r5,r6,r7,hA,hB,hC,r8,trivial⟩ rfl;clear z47 hA hB hC p1 p2 p3 r0 r1 r2 r3 r4 r5 r6 r7 r8;have hok:=recsK_ok;have nL:recsK.length=12:=rfl;generalize recsK=Ls at hL hok nL;refine S.region rfl<|O.q 1 rfl<|O.nil<|S.block<|S.loopK (ι:=Nat) (fun n=>n≤1728) (fun n=>[(5,.int .i64 (n:Int))]) [(4,_)] (fun n=>[]) (fun n=>1728 - n) (0) zG (.cons rfl (.nil)) (.cons rfl (.nil)) rfl fun n hx ih=>?_;have hm1:=meltRefl (g:=g);refine S.seq<|S.seq<|S.region rfl<|O.q 1 rfl<|O.op (.p rfl) (.lss rfl rfl)<|O.nil ?_
 first|refine S.condD rfl (fun h49=>?_) (fun h49=>?_)|refine S.condB rfl (fun h49=>?_) (fun h49=>?_)
 ·have hn:n<1728:=by omega
  have i1:n % 12<Ls.length:=by omega
  have i2:n / 12 % 12<Ls.length:=by omega
  have i3:n / 144<Ls.length:=by omega
  refine S.skip<|S.seq<|S.block<|S.seq<|S.regionD (L:=[0,1,2,3,4,5,6,7,8,9,10,11,12,13,14,15,16,17,18,19,20,21]) F.mixed zC<|OD.q 2 rfl<|.quiet (.p rfl) rfl (fun _=>.rem rfl rfl zD)<|OD.slot 54 (v' :=.int .i64 ((n % 12:Nat):Int)) rfl (by exact congrArg (Value.int .i64) (by rw [Int.tmod_eq_emod_of_nonneg zD];omega)) ?_;refine OD.ia (.p rfl) underlying47 size74 rfl rfl rfl (hL) (h:=fun p55 cs55 hp55 hr55=>?_);obtain ⟨ra3_55,ra5_55,ra6_55,rc3_55,rc5_55,rc6_55,rfl, -⟩:=RecRp.sh hr55;refine .quiet (.p rfl) rfl (fun _=>.loadAgg isAgg74 zC rfl hp55) ?_;refine OD.q 2 rfl<|.quiet (.p rfl) rfl (fun _=>.quo rfl rfl zD)<|OD.slot 59 (v' :=.int .i64 ((n / 12:Nat):Int)) rfl (by exact quoK (k:=12) zD zE) ?_;refine .quiet (.p rfl) rfl (fun _=>.rem rfl rfl zD)<|OD.slot 60 (v' :=.int .i64 ((n / 12 % 12:Nat):Int)) rfl (by exact congrArg (Value.int .i64) (by rw [Int.tmod_eq_emod_of_nonneg zD];omega)) ?_;refine OD.ia (.p rfl) underlying47 size74 rfl rfl rfl (hL) (h:=fun p61 cs61 hp61 hr61=>?_);obtain ⟨ra3_61,ra5_61,ra6_61,rc3_61,rc5_61,rc6_61,rfl, -⟩:=RecRp.sh hr61;refine .quiet (.p rfl) rfl (fun _=>.loadAgg isAgg74 zC rfl hp61) ?_;refine OD.q 2 rfl<|.quiet (.p rfl) rfl (fun _=>.quo rfl rfl zD)<|OD.slot 65 (v' :=.int .i64 ((n / 144:Nat):Int)) rfl (by exact quoK (k:=144) zD zE) ?_
  refine OD.ia (.p rfl) underlying47 size74 rfl rfl rfl (hL) (h:=fun p66 cs66 hp66 hr66=>?_);obtain ⟨ra3_66,ra5_66,ra6_66,rc3_66,rc5_66,rc6_66,rfl, -⟩:=RecRp.sh hr66;refine .quiet (.p rfl) rfl (fun _=>.loadAgg isAgg74 zC rfl hp66) ?_;refine .lazy rfl zC rfl fun b6=>?_;refine .lazy rfl zC rfl fun b7=>?_;refine .lazy rfl zC rfl fun b8=>?_;refine OD.storeObj rfl zC zC rfl rfl rfl rfl zB zT ?_;refine OD.storeObj rfl zC zC rfl rfl rfl rfl zB zT ?_;refine OD.storeObj rfl zC zC rfl rfl rfl rfl zB zT ?_;refine ODx.nil<|S.seq<|S.seq<|S.objIs (b:=b6) (cs' :=[.string (str Ls[n % 12].1),.int .i64 Ls[n % 12].2.1,.int .i64 Ls[n % 12].2.2.1,.slice ra3_55 Ls[n % 12].2.2.2.1.length rc3_55,.bool Ls[n % 12].2.2.2.2.1,.slice ra5_55 Ls[n % 12].2.2.2.2.2.1.length rc5_55,.slice ra6_55 Ls[n % 12].2.2.2.2.2.2.1.length rc6_55]) zB rfl ?_;refine S.objIs (b:=b7) (cs' :=[.string (str Ls[n / 12 % 12].1),.int .i64 Ls[n / 12 % 12].2.1,.int .i64 Ls[n / 12 % 12].2.2.1,.slice ra3_61 Ls[n / 12 % 12].2.2.2.1.length rc3_61,.bool Ls[n / 12 % 12].2.2.2.2.1,.slice ra5_61 Ls[n / 12 % 12].2.2.2.2.2.1.length rc5_61,.slice ra6_61 Ls[n / 12 % 12].2.2.2.2.2.2.1.length rc6_61]) zB rfl ?_
  refine S.objIs (b:=b8) (cs' :=[.string (str Ls[n / 144].1),.int .i64 Ls[n / 144].2.1,.int .i64 Ls[n / 144].2.2.1,.slice ra3_66 Ls[n / 144].2.2.2.1.length rc3_66,.bool Ls[n / 144].2.2.2.2.1,.slice ra5_66 Ls[n / 144].2.2.2.2.2.1.length rc5_66,.slice ra6_66 Ls[n / 144].2.2.2.2.2.2.1.length rc6_66]) zB rfl ?_;refine S.frzO zB fun g hs hm q1=>?_;replace hg:=Fr.sub_trans hg hs;replace hR:=melted hR hm
  try replace h1:=h1.mono hs
  try replace hA:=hA.mono hs
  try replace h2:=h2.mono hs
  try replace h24:=h24.mono hs
  try replace h3:=h3.mono hs
  try replace hB:=hB.mono hs
  try replace hC:=hC.mono hs
  try replace q1:=q1.mono hs
  try replace q2:=q2.mono hs
  try replace q3:=q3.mono hs
  try replace p1:=p1.mono hs
  try replace p2:=p2.mono hs
  try replace p3:=p3.mono hs
  try replace r0:=r0.mono hs
  try replace r1:=r1.mono hs
  try replace r2:=r2.mono hs
  try replace r3:=r3.mono hs
  try replace r4:=r4.mono hs
  try replace r5:=r5.mono hs
  try replace r6:=r6.mono hs
  try replace r7:=r7.mono hs
  try replace r8:=r8.mono hs
  try replace y0:=y0.mono hs
  try replace y1:=y1.mono hs
  try replace y2:=y2.mono hs
  try replace y3:=y3.mono hs
  try replace y4:=y4.mono hs
  try replace y5:=y5.mono hs
  try replace y6:=y6.mono hs
  try replace z47:=z47.mono hs
  try replace hL:=hL.mono hs
  try replace hp55:=hp55.mono hs
  try replace hp61:=hp61.mono hs
  try replace hp66:=hp66.mono hs
  try replace hr55:=hr55.mono hs
  try replace hr61:=hr61.mono hs
  try replace hr66:=hr66.mono hs
  replace hm1:=meltTrans hm1 hm;clear hs hm;refine S.frzO zB fun g hs hm q2=>?_;replace hg:=Fr.sub_trans hg hs;replace hR:=melted hR hm
  try replace h1:=h1.mono hs
  try replace hA:=hA.mono hs
  try replace h2:=h2.mono hs
  try replace h24:=h24.mono hs
  try replace h3:=h3.mono hs
  try replace hB:=hB.mono hs
  try replace hC:=hC.mono hs
  try replace q1:=q1.mono hs
  try replace q2:=q2.mono hs
  try replace q3:=q3.mono hs
  try replace p1:=p1.mono hs
  try replace p2:=p2.mono hs
  try replace p3:=p3.mono hs
  try replace r0:=r0.mono hs
  try replace r1:=r1.mono hs
  try replace r2:=r2.mono hs
  try replace r3:=r3.mono hs
  try replace r4:=r4.mono hs
  try replace r5:=r5.mono hs
  try replace r6:=r6.mono hs
  try replace r7:=r7.mono hs
  try replace r8:=r8.mono hs
  try replace y0:=y0.mono hs
  try replace y1:=y1.mono hs
  try replace y2:=y2.mono hs
  try replace y3:=y3.mono hs
  try replace y4:=y4.mono hs
  try replace y5:=y5.mono hs
  try replace y6:=y6.mono hs
  try replace z47:=z47.mono hs
  try replace hL:=hL.mono hs
  try replace hp55:=hp55.mono hs
  try replace hp61:=hp61.mono hs
  try replace hp66:=hp66.mono hs
  try replace hr55:=hr55.mono hs
  try replace hr61:=hr61.mono hs
  try replace hr66:=hr66.mono hs
  replace hm1:=meltTrans hm1 hm;clear hs hm;refine S.frzO zB fun g hs hm q3=>?_;replace hg:=Fr.sub_trans hg hs;replace hR:=melted hR hm
  try replace h1:=h1.mono hs
  try replace hA:=hA.mono hs
  try replace h2:=h2.mono hs
  try replace h24:=h24.mono hs
  try replace h3:=h3.mono hs
  try replace hB:=hB.mono hs
  try replace hC:=hC.mono hs
  try replace q1:=q1.mono hs
  try replace q2:=q2.mono hs
  try replace q3:=q3.mono hs
  try replace p1:=p1.mono hs
  try replace p2:=p2.mono hs
  try replace p3:=p3.mono hs
  try replace r0:=r0.mono hs
  try replace r1:=r1.mono hs
  try replace r2:=r2.mono hs
  try replace r3:=r3.mono hs
  try replace r4:=r4.mono hs
  try replace r5:=r5.mono hs
  try replace r6:=r6.mono hs
  try replace r7:=r7.mono hs
  try replace r8:=r8.mono hs
  try replace y0:=y0.mono hs
  try replace y1:=y1.mono hs
  try replace y2:=y2.mono hs
  try replace y3:=y3.mono hs
  try replace y4:=y4.mono hs
  try replace y5:=y5.mono hs
  try replace y6:=y6.mono hs
  try replace z47:=z47.mono hs
  try replace hL:=hL.mono hs
  try replace hp55:=hp55.mono hs
  try replace hp61:=hp61.mono hs
  try replace hp66:=hp66.mono hs
  try replace hr55:=hr55.mono hs
  try replace hr61:=hr61.mono hs
  try replace hr66:=hr66.mono hs
  replace hm1:=meltTrans hm1 hm;clear hs hm;have p6:At g.h ⟨b6,0,none⟩ [.string (str Ls[n % 12].1),.int .i64 Ls[n % 12].2.1,.int .i64 Ls[n % 12].2.2.1,.slice ra3_55 Ls[n % 12].2.2.2.1.length rc3_55,.bool Ls[n % 12].2.2.2.2.1,.slice ra5_55 Ls[n % 12].2.2.2.2.2.1.length rc5_55,.slice ra6_55 Ls[n % 12].2.2.2.2.2.2.1.length rc6_55]:=by assumption
  have p7:At g.h ⟨b7,0,none⟩ [.string (str Ls[n / 12 % 12].1),.int .i64 Ls[n / 12 % 12].2.1,.int .i64 Ls[n / 12 % 12].2.2.1,.slice ra3_61 Ls[n / 12 % 12].2.2.2.1.length rc3_61,.bool Ls[n / 12 % 12].2.2.2.2.1,.slice ra5_61 Ls[n / 12 % 12].2.2.2.2.2.1.length rc5_61,.slice ra6_61 Ls[n / 12 % 12].2.2.2.2.2.2.1.length rc6_61]:=by assumption
  have p8:At g.h ⟨b8,0,none⟩ [.string (str Ls[n / 144].1),.int .i64 Ls[n / 144].2.1,.int .i64 Ls[n / 144].2.2.1,.slice ra3_66 Ls[n / 144].2.2.2.1.length rc3_66,.bool Ls[n / 144].2.2.2.2.1,.slice ra5_66 Ls[n / 144].2.2.2.2.2.1.length rc5_66,.slice ra6_66 Ls[n / 144].2.2.2.2.2.2.1.length rc6_66]:=by assumption
  clear q1 q2 q3;refine S.region rfl<|O.op (.p rfl) (.loadAgg isAgg74 zC rfl p6) ?_;refine O.op (.p rfl) (.loadAgg isAgg74 zC rfl p7) ?_;refine O.opE (.p rfl) (.litP (T:=Rp.cells 7) (ys:=[[.string (str Ls[n % 12].1),.int .i64 Ls[n % 12].2.1,.int .i64 Ls[n % 12].2.2.1,.slice ra3_55 Ls[n % 12].2.2.2.1.length rc3_55,.bool Ls[n % 12].2.2.2.2.1,.slice ra5_55 Ls[n % 12].2.2.2.2.2.1.length rc5_55,.slice ra6_55 Ls[n % 12].2.2.2.2.2.2.1.length rc6_55],[.string (str Ls[n / 12 % 12].1),.int .i64 Ls[n / 12 % 12].2.1,.int .i64 Ls[n / 12 % 12].2.2.1,.slice ra3_61 Ls[n / 12 % 12].2.2.2.1.length rc3_61,.bool Ls[n / 12 % 12].2.2.2.2.1,.slice ra5_61 Ls[n / 12 % 12].2.2.2.2.2.1.length rc5_61,.slice ra6_61 Ls[n / 12 % 12].2.2.2.2.2.2.1.length rc6_61]]) underlying47 elem74 zE rfl rfl ⟨⟨rfl,rfl,by first|(simp;done)|(intro v hv;simp [Value.cells] at hv;rcases hv with rfl|rfl<;>rfl)|(refine List.forall_mem_cons.2 ⟨rfl,?_⟩;repeat (first|exact (fun _ h=>absurd h List.not_mem_nil)|refine List.forall_mem_cons.2 ⟨rfl,?_⟩))⟩,⟨rfl,rfl,by first|(simp;done)|(intro v hv;simp [Value.cells] at hv;rcases hv with rfl|rfl<;>rfl)|(refine List.forall_mem_cons.2 ⟨rfl,?_⟩;repeat (first|exact (fun _ h=>absurd h List.not_mem_nil)|refine List.forall_mem_cons.2 ⟨rfl,?_⟩))⟩,trivial⟩ zE) ?_;rintro _ _ ⟨a70,c70,rfl,rfl⟩;refine O.frzA zB fun g hs hm ha70=>?_;replace hg:=Fr.sub_trans hg hs;replace hR:=melted hR hm
  try replace h1:=h1.mono hs
  try replace hA:=hA.mono hs
  try replace h2:=h2.mono hs
  try replace h24:=h24.mono hs
  try replace h3:=h3.mono hs
  try replace hB:=hB.mono hs
  try replace hC:=hC.mono hs
  try replace q1:=q1.mono hs
  try replace q2:=q2.mono hs
  try replace q3:=q3.mono hs
  try replace p1:=p1.mono hs
  try replace p2:=p2.mono hs
  try replace p3:=p3.mono hs
  try replace r0:=r0.mono hs
  try replace r1:=r1.mono hs
  try replace r2:=r2.mono hs
  try replace r3:=r3.mono hs
  try replace r4:=r4.mono hs
  try replace r5:=r5.mono hs
  try replace r6:=r6.mono hs
  try replace r7:=r7.mono hs
  try replace r8:=r8.mono hs
  try replace y0:=y0.mono hs
  try replace y1:=y1.mono hs
  try replace y2:=y2.mono hs
  try replace y3:=y3.mono hs
  try replace y4:=y4.mono hs
  try replace y5:=y5.mono hs
  try replace y6:=y6.mono hs
  try replace z47:=z47.mono hs
  try replace hL:=hL.mono hs
  try replace hp55:=hp55.mono hs
  try replace hp61:=hp61.mono hs
  try replace hp66:=hp66.mono hs
  try replace hr55:=hr55.mono hs
  try replace hr61:=hr61.mono hs
  try replace hr66:=hr66.mono hs
  try replace p6:=p6.mono hs
  try replace p7:=p7.mono hs
  try replace p8:=p8.mono hs
  replace hm1:=meltTrans hm1 hm;clear hs hm;refine O.op (.p rfl) (.loadAgg isAgg74 zC rfl p8) ?_;refine O.opE (.p rfl) (.litP (T:=Rp.cells 7) (ys:=[[.string (str Ls[n / 144].1),.int .i64 Ls[n / 144].2.1,.int .i64 Ls[n / 144].2.2.1,.slice ra3_66 Ls[n / 144].2.2.2.1.length rc3_66,.bool Ls[n / 144].2.2.2.2.1,.slice ra5_66 Ls[n / 144].2.2.2.2.2.1.length rc5_66,.slice ra6_66 Ls[n / 144].2.2.2.2.2.2.1.length rc6_66]]) underlying47 elem74 zE rfl rfl ⟨⟨rfl,rfl,by first|(simp;done)|(intro v hv;simp [Value.cells] at hv;rcases hv with rfl|rfl<;>rfl)|(refine List.forall_mem_cons.2 ⟨rfl,?_⟩;repeat (first|exact (fun _ h=>absurd h List.not_mem_nil)|refine List.forall_mem_cons.2 ⟨rfl,?_⟩))⟩,trivial⟩ zE) ?_;rintro _ _ ⟨a72,c72,rfl,rfl⟩;refine O.frzA zB fun g hs hm ha72=>?_;replace hg:=Fr.sub_trans hg hs;replace hR:=melted hR hm
  try replace h1:=h1.mono hs
  try replace hA:=hA.mono hs
  try replace h2:=h2.mono hs
  try replace h24:=h24.mono hs
  try replace h3:=h3.mono hs
  try replace hB:=hB.mono hs
  try replace hC:=hC.mono hs
  try replace q1:=q1.mono hs
  try replace q2:=q2.mono hs
  try replace q3:=q3.mono hs
  try replace p1:=p1.mono hs
  try replace p2:=p2.mono hs
  try replace p3:=p3.mono hs
  try replace r0:=r0.mono hs
  try replace r1:=r1.mono hs
  try replace r2:=r2.mono hs
  try replace r3:=r3.mono hs
  try replace r4:=r4.mono hs
  try replace r5:=r5.mono hs
  try replace r6:=r6.mono hs
  try replace r7:=r7.mono hs
  try replace r8:=r8.mono hs
  try replace y0:=y0.mono hs
  try replace y1:=y1.mono hs
  try replace y2:=y2.mono hs
  try replace y3:=y3.mono hs
  try replace y4:=y4.mono hs
  try replace y5:=y5.mono hs
  try replace y6:=y6.mono hs
  try replace z47:=z47.mono hs
  try replace hL:=hL.mono hs
  try replace hp55:=hp55.mono hs
  try replace hp61:=hp61.mono hs
  try replace hp66:=hp66.mono hs
  try replace hr55:=hr55.mono hs
  try replace hr61:=hr61.mono hs
  try replace hr66:=hr66.mono hs
  try replace p6:=p6.mono hs
  try replace p7:=p7.mono hs
  try replace p8:=p8.mono hs
  try replace ha70:=ha70.mono hs
  replace hm1:=meltTrans hm1 hm;clear hs hm;refine O.opE (.p rfl) (.litP (T:=Rp.cells 1) (ys:=[[.slice a70 2 c70],[.slice a72 1 c72]]) underlying65 elem47 zE rfl rfl ⟨⟨rfl,rfl,by first|(simp;done)|(intro v hv;simp [Value.cells] at hv;rcases hv with rfl|rfl<;>rfl)|(refine List.forall_mem_cons.2 ⟨rfl,?_⟩;repeat (first|exact (fun _ h=>absurd h List.not_mem_nil)|refine List.forall_mem_cons.2 ⟨rfl,?_⟩))⟩,⟨rfl,rfl,by first|(simp;done)|(intro v hv;simp [Value.cells] at hv;rcases hv with rfl|rfl<;>rfl)|(refine List.forall_mem_cons.2 ⟨rfl,?_⟩;repeat (first|exact (fun _ h=>absurd h List.not_mem_nil)|refine List.forall_mem_cons.2 ⟨rfl,?_⟩))⟩,trivial⟩ zE) ?_;rintro _ _ ⟨a73,c73,rfl,rfl⟩;refine O.frzA zB fun g hs hm ha73=>?_;replace hg:=Fr.sub_trans hg hs;replace hR:=melted hR hm
  try replace h1:=h1.mono hs
  try replace hA:=hA.mono hs
  try replace h2:=h2.mono hs
  try replace h24:=h24.mono hs
  try replace h3:=h3.mono hs
  try replace hB:=hB.mono hs
  try replace hC:=hC.mono hs
  try replace q1:=q1.mono hs
  try replace q2:=q2.mono hs
  try replace q3:=q3.mono hs
  try replace p1:=p1.mono hs
  try replace p2:=p2.mono hs
  try replace p3:=p3.mono hs
  try replace r0:=r0.mono hs
  try replace r1:=r1.mono hs
  try replace r2:=r2.mono hs
  try replace r3:=r3.mono hs
  try replace r4:=r4.mono hs
  try replace r5:=r5.mono hs
  try replace r6:=r6.mono hs
  try replace r7:=r7.mono hs
  try replace r8:=r8.mono hs
  try replace y0:=y0.mono hs
  try replace y1:=y1.mono hs
  try replace y2:=y2.mono hs
  try replace y3:=y3.mono hs
  try replace y4:=y4.mono hs
  try replace y5:=y5.mono hs
  try replace y6:=y6.mono hs
  try replace z47:=z47.mono hs
  try replace hL:=hL.mono hs
  try replace hp55:=hp55.mono hs
  try replace hp61:=hp61.mono hs
  try replace hp66:=hp66.mono hs
  try replace hr55:=hr55.mono hs
  try replace hr61:=hr61.mono hs
  try replace hr66:=hr66.mono hs
  try replace p6:=p6.mono hs
  try replace p7:=p7.mono hs
  try replace p8:=p8.mono hs
  try replace ha70:=ha70.mono hs
  try replace ha72:=ha72.mono hs
  replace hm1:=meltTrans hm1 hm;clear hs hm;refine O.call0 (.p rfl) rfl zC rfl rfl ((joins_c (ss:=[[Ls[n % 12],Ls[n / 12 % 12]],[Ls[n / 144]]]) (Arr.ofCells ha73 ⟨⟨_,rfl,Arr.ofCells ha70 ⟨hr55,hr61,trivial⟩ rfl⟩,⟨_,rfl,Arr.ofCells ha72 ⟨hr66,trivial⟩ rfl⟩,trivial⟩ rfl) zG)) ?_;rintro _ _ ⟨rfl,rfl⟩
  try simp only [zx1,zx2,zx3]
  refine O.op (.p rfl) (.not rfl)<|O.nil<|S.condF rfl<|S.skip<|S.seq<|S.region rfl<|O.q 1 rfl<|O.op (.p rfl) (.rem rfl rfl zD)<|O.slot 77 (v' :=.int .i64 ((n % 5:Nat):Int)) rfl (by exact congrArg (Value.int .i64) (by rw [Int.tmod_eq_emod_of_nonneg zD];omega)) ?_;refine O.op (.p rfl) (.eql rfl rfl)<|O.q 1 rfl ?_
  first|refine O.caseD 79 rfl (fun h79=>?_) (fun h79=>?_)|refine O.caseB 79 rfl (fun h79=>?_) (fun h79=>?_)
  ·refine O.op (.g rfl rfl) (.loadAgg isAgg74 zC rfl p6) ?_
   refine O.op (.g rfl rfl) (.loadAgg isAgg74 zC rfl p7) ?_;refine O.op (.g rfl rfl) (.loadAgg isAgg74 zC rfl p8) ?_
   refine O.opE (.g rfl rfl) (.litP (T:=Rp.cells 7) (ys:=[[.string (str Ls[n % 12].1),.int .i64 Ls[n % 12].2.1,.int .i64 Ls[n % 12].2.2.1,.slice ra3_55 Ls[n % 12].2.2.2.1.length rc3_55,.bool Ls[n % 12].2.2.2.2.1,.slice ra5_55 Ls[n % 12].2.2.2.2.2.1.length rc5_55,.slice ra6_55 Ls[n % 12].2.2.2.2.2.2.1.length rc6_55],[.string (str Ls[n / 12 % 12].1),.int .i64 Ls[n / 12 % 12].2.1,.int .i64 Ls[n / 12 % 12].2.2.1,.slice ra3_61 Ls[n / 12 % 12].2.2.2.1.length rc3_61,.bool Ls[n / 12 % 12].2.2.2.2.1,.slice ra5_61 Ls[n / 12 % 12].2.2.2.2.2.1.length rc5_61,.slice ra6_61 Ls[n / 12 % 12].2.2.2.2.2.2.1.length rc6_61],[.string (str Ls[n / 144].1),.int .i64 Ls[n / 144].2.1,.int .i64 Ls[n / 144].2.2.1,.slice ra3_66 Ls[n / 144].2.2.2.1.length rc3_66,.bool Ls[n / 144].2.2.2.2.1,.slice ra5_66 Ls[n / 144].2.2.2.2.2.1.length rc5_66,.slice ra6_66 Ls[n / 144].2.2.2.2.2.2.1.length rc6_66]]) underlying47 elem74 zE rfl rfl ⟨⟨rfl,rfl,by first|(simp;done)|(intro v hv;simp [Value.cells] at hv;rcases hv with rfl|rfl<;>rfl)|(refine List.forall_mem_cons.2 ⟨rfl,?_⟩;repeat (first|exact (fun _ h=>absurd h List.not_mem_nil)|refine List.forall_mem_cons.2 ⟨rfl,?_⟩))⟩,⟨rfl,rfl,by first|(simp;done)|(intro v hv;simp [Value.cells] at hv;rcases hv with rfl|rfl<;>rfl)|(refine List.forall_mem_cons.2 ⟨rfl,?_⟩;repeat (first|exact (fun _ h=>absurd h List.not_mem_nil)|refine List.forall_mem_cons.2 ⟨rfl,?_⟩))⟩,⟨rfl,rfl,by first|(simp;done)|(intro v hv;simp [Value.cells] at hv;rcases hv with rfl|rfl<;>rfl)|(refine List.forall_mem_cons.2 ⟨rfl,?_⟩;repeat (first|exact (fun _ h=>absurd h List.not_mem_nil)|refine List.forall_mem_cons.2 ⟨rfl,?_⟩))⟩,trivial⟩ zE) ?_
   rintro _ _ ⟨a83,c83,rfl,rfl⟩;refine O.frzA zB fun g hs hm ha83=>?_;replace hg:=Fr.sub_trans hg hs;replace hR:=melted hR hm
   try replace h1:=h1.mono hs
   try replace hA:=hA.mono hs
   try replace h2:=h2.mono hs
   try replace h24:=h24.mono hs
   try replace h3:=h3.mono hs
   try replace hB:=hB.mono hs
   try replace hC:=hC.mono hs
   try replace q1:=q1.mono hs
   try replace q2:=q2.mono hs
   try replace q3:=q3.mono hs
   try replace p1:=p1.mono hs
   try replace p2:=p2.mono hs
   try replace p3:=p3.mono hs
   try replace r0:=r0.mono hs
   try replace r1:=r1.mono hs
   try replace r2:=r2.mono hs
   try replace r3:=r3.mono hs
   try replace r4:=r4.mono hs
   try replace r5:=r5.mono hs
   try replace r6:=r6.mono hs
   try replace r7:=r7.mono hs
   try replace r8:=r8.mono hs
   try replace y0:=y0.mono hs
   try replace y1:=y1.mono hs
   try replace y2:=y2.mono hs
   try replace y3:=y3.mono hs
   try replace y4:=y4.mono hs
   try replace y5:=y5.mono hs
   try replace y6:=y6.mono hs
   try replace z47:=z47.mono hs
   try replace hL:=hL.mono hs
   try replace hp55:=hp55.mono hs
   try replace hp61:=hp61.mono hs
   try replace hp66:=hp66.mono hs
   try replace hr55:=hr55.mono hs
   try replace hr61:=hr61.mono hs
   try replace hr66:=hr66.mono hs
   try replace p6:=p6.mono hs
   try replace p7:=p7.mono hs
   try replace p8:=p8.mono hs
   try replace ha70:=ha70.mono hs
   try replace ha72:=ha72.mono hs
   try replace ha73:=ha73.mono hs
   replace hm1:=meltTrans hm1 hm;clear hs hm;refine O.call0 (.g rfl rfl) rfl zC rfl rfl ((siblingPuts_c (xs:=[Ls[n % 12],Ls[n / 12 % 12],Ls[n / 144]]) (Arr.ofCells ha83 ⟨hr55,hr61,hr66,trivial⟩ rfl) (three_okK hok i1 i2 i3))) ?_;rintro _ _ ⟨rfl,rfl⟩
   try simp only [zx1,zx2,zx3]
   refine O.op (.g rfl rfl) (.not rfl)<|O.q 1 rfl<|O.op (.g rfl rfl) (.loadAgg isAgg74 zC rfl p6) ?_;refine O.op (.g rfl rfl) (.loadAgg isAgg74 zC rfl p7) ?_;refine O.opE (.g rfl rfl) (.litP (T:=Rp.cells 7) (ys:=[[.string (str Ls[n % 12].1),.int .i64 Ls[n % 12].2.1,.int .i64 Ls[n % 12].2.2.1,.slice ra3_55 Ls[n % 12].2.2.2.1.length rc3_55,.bool Ls[n % 12].2.2.2.2.1,.slice ra5_55 Ls[n % 12].2.2.2.2.2.1.length rc5_55,.slice ra6_55 Ls[n % 12].2.2.2.2.2.2.1.length rc6_55],[.string (str Ls[n / 12 % 12].1),.int .i64 Ls[n / 12 % 12].2.1,.int .i64 Ls[n / 12 % 12].2.2.1,.slice ra3_61 Ls[n / 12 % 12].2.2.2.1.length rc3_61,.bool Ls[n / 12 % 12].2.2.2.2.1,.slice ra5_61 Ls[n / 12 % 12].2.2.2.2.2.1.length rc5_61,.slice ra6_61 Ls[n / 12 % 12].2.2.2.2.2.2.1.length rc6_61]]) underlying47 elem74 zE rfl rfl ⟨⟨rfl,rfl,by first|(simp;done)|(intro v hv;simp [Value.cells] at hv;rcases hv with rfl|rfl<;>rfl)|(refine List.forall_mem_cons.2 ⟨rfl,?_⟩;repeat (first|exact (fun _ h=>absurd h List.not_mem_nil)|refine List.forall_mem_cons.2 ⟨rfl,?_⟩))⟩,⟨rfl,rfl,by first|(simp;done)|(intro v hv;simp [Value.cells] at hv;rcases hv with rfl|rfl<;>rfl)|(refine List.forall_mem_cons.2 ⟨rfl,?_⟩;repeat (first|exact (fun _ h=>absurd h List.not_mem_nil)|refine List.forall_mem_cons.2 ⟨rfl,?_⟩))⟩,trivial⟩ zE) ?_;rintro _ _ ⟨a89,c89,rfl,rfl⟩;refine O.frzA zB fun g hs hm ha89=>?_;replace hg:=Fr.sub_trans hg hs
   replace hR:=melted hR hm
   try replace h1:=h1.mono hs
   try replace hA:=hA.mono hs
   try replace h2:=h2.mono hs
   try replace h24:=h24.mono hs
   try replace h3:=h3.mono hs
   try replace hB:=hB.mono hs
   try replace hC:=hC.mono hs
   try replace q1:=q1.mono hs
   try replace q2:=q2.mono hs
   try replace q3:=q3.mono hs
   try replace p1:=p1.mono hs
   try replace p2:=p2.mono hs
   try replace p3:=p3.mono hs
   try replace r0:=r0.mono hs
   try replace r1:=r1.mono hs
   try replace r2:=r2.mono hs
   try replace r3:=r3.mono hs
   try replace r4:=r4.mono hs
   try replace r5:=r5.mono hs
   try replace r6:=r6.mono hs
   try replace r7:=r7.mono hs
   try replace r8:=r8.mono hs
   try replace y0:=y0.mono hs
   try replace y1:=y1.mono hs
   try replace y2:=y2.mono hs
   try replace y3:=y3.mono hs
   try replace y4:=y4.mono hs
   try replace y5:=y5.mono hs
   try replace y6:=y6.mono hs
   try replace z47:=z47.mono hs
   try replace hL:=hL.mono hs
   try replace hp55:=hp55.mono hs
   try replace hp61:=hp61.mono hs
   try replace hp66:=hp66.mono hs
   try replace hr55:=hr55.mono hs
   try replace hr61:=hr61.mono hs
   try replace hr66:=hr66.mono hs
   try replace p6:=p6.mono hs
   try replace p7:=p7.mono hs
   try replace p8:=p8.mono hs
   try replace ha70:=ha70.mono hs
   try replace ha72:=ha72.mono hs
   try replace ha73:=ha73.mono hs
   try replace ha83:=ha83.mono hs
   replace hm1:=meltTrans hm1 hm;clear hs hm;refine O.call0 (.g rfl rfl) rfl zC rfl rfl ((siblingPuts_c (xs:=[Ls[n % 12],Ls[n / 12 % 12]]) (Arr.ofCells ha89 ⟨hr55,hr61,trivial⟩ rfl) (two_okK hok i1 i2))) ?_;rintro _ _ ⟨rfl,rfl⟩
   try simp only [zx1,zx2,zx3]
   refine O.op (.g rfl rfl) (.not rfl)<|O.q 2 rfl<|O.nil<|S.condF rfl<|S.skip<|S.inBlock<|S.region rfl<|O.q 1 rfl<|O.op (.p rfl) (.add rfl rfl (IntWalk.i64_in _ zD))<|O.q 1 rfl<|O.nil ?_;exact S.melt hm1 (S.wk (ih (n+1) zD zD))
  ·refine O.q 14 rfl<|O.nil<|S.condF rfl<|S.skip<|S.inBlock<|S.region rfl<|O.q 1 rfl<|O.op (.p rfl) (.add rfl rfl (IntWalk.i64_in _ zD))<|O.q 1 rfl<|O.nil ?_
   exact S.melt hm1 (S.wk (ih (n+1) zD zD))
 ·clear ih
  refine S.exit rfl<|S.seq<|S.region rfl<|O.call0 (.p rfl) rfl zC rfl rfl ((ofF_c (c:=1) (s:=1) (l:=[]) zN zN Arr.nil zE)) ?_;rintro _ _ ⟨a95,c95,d95,e95,rfl,rfl⟩
  try simp only [zx1,zx2,zx3]
  refine O.call0 (.p rfl) rfl zC rfl rfl ((ofF_c (c:=2) (s:=7) (l:=[]) zN zN Arr.nil zE)) ?_;rintro _ _ ⟨a96,c96,d96,e96,rfl,rfl⟩
  try simp only [zx1,zx2,zx3]
  refine O.opE (.p rfl) (.litP (T:=Rp.i64) (ys:=[2,6]) underlying25 elem3 zE rfl rfl ⟨⟨rfl,by first|assumption|(constructor<;>omega)⟩,⟨rfl,by first|assumption|(constructor<;>omega)⟩,trivial⟩ zE) ?_;rintro _ _ ⟨a97,c97,rfl,rfl⟩;refine O.frzA zB fun g hs hm ha97=>?_;replace hg:=Fr.sub_trans hg hs;replace hR:=melted hR hm
  try replace h1:=h1.mono hs
  try replace hA:=hA.mono hs
  try replace h2:=h2.mono hs
  try replace h24:=h24.mono hs
  try replace h3:=h3.mono hs
  try replace hB:=hB.mono hs
  try replace hC:=hC.mono hs
  try replace q1:=q1.mono hs
  try replace q2:=q2.mono hs
  try replace q3:=q3.mono hs
  try replace p1:=p1.mono hs
  try replace p2:=p2.mono hs
  try replace p3:=p3.mono hs
  try replace r0:=r0.mono hs
  try replace r1:=r1.mono hs
  try replace r2:=r2.mono hs
  try replace r3:=r3.mono hs
  try replace r4:=r4.mono hs
  try replace r5:=r5.mono hs
  try replace r6:=r6.mono hs
  try replace r7:=r7.mono hs
  try replace r8:=r8.mono hs
  try replace y0:=y0.mono hs
  try replace y1:=y1.mono hs
  try replace y2:=y2.mono hs
  try replace y3:=y3.mono hs
  try replace y4:=y4.mono hs
  try replace y5:=y5.mono hs
  try replace y6:=y6.mono hs
  try replace z47:=z47.mono hs
  try replace hL:=hL.mono hs
  replace hm1:=meltTrans hm1 hm;clear hs hm;refine O.call0 (.p rfl) rfl zC rfl rfl ((ofF_c (c:=3) (s:=2) (l:=[2,6]) zN zN ha97 zE)) ?_;rintro _ _ ⟨a98,c98,d98,e98,rfl,rfl⟩
  try simp only [zx1,zx2,zx3]
  refine O.frz (A:=(fun m=>RecRp.rel m [.string (str [107]),.int .i64 1,.int .i64 1,.slice a95 0 c95,.bool false,.slice none 0 0,.slice d95 64 e95] (recF 1 1 []))) zB fun g hs hm ⟨_,x',s'⟩=>?_;have z1:=(fun s x=>Rp.mono RecRp s x) s' x';clear x' s';replace hg:=Fr.sub_trans hg hs;replace hR:=melted hR hm
  try replace h1:=h1.mono hs
  try replace hA:=hA.mono hs
  try replace h2:=h2.mono hs
  try replace h24:=h24.mono hs
  try replace h3:=h3.mono hs
  try replace hB:=hB.mono hs
  try replace hC:=hC.mono hs
  try replace q1:=q1.mono hs
  try replace q2:=q2.mono hs
  try replace q3:=q3.mono hs
  try replace p1:=p1.mono hs
  try replace p2:=p2.mono hs
  try replace p3:=p3.mono hs
  try replace r0:=r0.mono hs
  try replace r1:=r1.mono hs
  try replace r2:=r2.mono hs
  try replace r3:=r3.mono hs
  try replace r4:=r4.mono hs
  try replace r5:=r5.mono hs
  try replace r6:=r6.mono hs
  try replace r7:=r7.mono hs
  try replace r8:=r8.mono hs
  try replace y0:=y0.mono hs
  try replace y1:=y1.mono hs
  try replace y2:=y2.mono hs
  try replace y3:=y3.mono hs
  try replace y4:=y4.mono hs
  try replace y5:=y5.mono hs
  try replace y6:=y6.mono hs
  try replace z47:=z47.mono hs
  try replace hL:=hL.mono hs
  try replace ha97:=ha97.mono hs
  replace hm1:=meltTrans hm1 hm;clear hs hm;refine O.frz (A:=(fun m=>RecRp.rel m [.string (str [107]),.int .i64 2,.int .i64 7,.slice a96 0 c96,.bool false,.slice none 0 0,.slice d96 64 e96] (recF 2 7 []))) zB fun g hs hm ⟨_,x',s'⟩=>?_;have z2:=(fun s x=>Rp.mono RecRp s x) s' x';clear x' s';replace hg:=Fr.sub_trans hg hs;replace hR:=melted hR hm
  try replace h1:=h1.mono hs
  try replace hA:=hA.mono hs
  try replace h2:=h2.mono hs
  try replace h24:=h24.mono hs
  try replace h3:=h3.mono hs
  try replace hB:=hB.mono hs
  try replace hC:=hC.mono hs
  try replace q1:=q1.mono hs
  try replace q2:=q2.mono hs
  try replace q3:=q3.mono hs
  try replace p1:=p1.mono hs
  try replace p2:=p2.mono hs
  try replace p3:=p3.mono hs
  try replace r0:=r0.mono hs
  try replace r1:=r1.mono hs
  try replace r2:=r2.mono hs
  try replace r3:=r3.mono hs
  try replace r4:=r4.mono hs
  try replace r5:=r5.mono hs
  try replace r6:=r6.mono hs
  try replace r7:=r7.mono hs
  try replace r8:=r8.mono hs
  try replace y0:=y0.mono hs
  try replace y1:=y1.mono hs
  try replace y2:=y2.mono hs
  try replace y3:=y3.mono hs
  try replace y4:=y4.mono hs
  try replace y5:=y5.mono hs
  try replace y6:=y6.mono hs
  try replace z47:=z47.mono hs
  try replace hL:=hL.mono hs
  try replace ha97:=ha97.mono hs
  try replace z1:=z1.mono hs
  replace hm1:=meltTrans hm1 hm;clear hs hm;refine O.frz (A:=(fun m=>RecRp.rel m [.string (str [107]),.int .i64 3,.int .i64 2,.slice a98 1 c98,.bool false,.slice none 0 0,.slice d98 64 e98] (recF 3 2 [2,6]))) zB fun g hs hm ⟨_,x',s'⟩=>?_;have z3:=(fun s x=>Rp.mono RecRp s x) s' x';clear x' s';replace hg:=Fr.sub_trans hg hs;replace hR:=melted hR hm
  try replace h1:=h1.mono hs
  try replace hA:=hA.mono hs
  try replace h2:=h2.mono hs
  try replace h24:=h24.mono hs
  try replace h3:=h3.mono hs
  try replace hB:=hB.mono hs
  try replace hC:=hC.mono hs
  try replace q1:=q1.mono hs
  try replace q2:=q2.mono hs
  try replace q3:=q3.mono hs
  try replace p1:=p1.mono hs
  try replace p2:=p2.mono hs
  try replace p3:=p3.mono hs
  try replace r0:=r0.mono hs
  try replace r1:=r1.mono hs
  try replace r2:=r2.mono hs
  try replace r3:=r3.mono hs
  try replace r4:=r4.mono hs
  try replace r5:=r5.mono hs
  try replace r6:=r6.mono hs
  try replace r7:=r7.mono hs
  try replace r8:=r8.mono hs
  try replace y0:=y0.mono hs
  try replace y1:=y1.mono hs
  try replace y2:=y2.mono hs
  try replace y3:=y3.mono hs
  try replace y4:=y4.mono hs
  try replace y5:=y5.mono hs
  try replace y6:=y6.mono hs
  try replace z47:=z47.mono hs
  try replace hL:=hL.mono hs
  try replace ha97:=ha97.mono hs
  try replace z1:=z1.mono hs
  try replace z2:=z2.mono hs
  replace hm1:=meltTrans hm1 hm;clear hs hm;refine O.opE (.p rfl) (.litP (T:=Rp.cells 7) (ys:=[[.string (str [107]),.int .i64 1,.int .i64 1,.slice a95 0 c95,.bool false,.slice none 0 0,.slice d95 64 e95],[.string (str [107]),.int .i64 2,.int .i64 7,.slice a96 0 c96,.bool false,.slice none 0 0,.slice d96 64 e96],[.string (str [107]),.int .i64 3,.int .i64 2,.slice a98 1 c98,.bool false,.slice none 0 0,.slice d98 64 e98]]) underlying47 elem74 zE rfl rfl ⟨⟨rfl,rfl,by first|(simp;done)|(intro v hv;simp [Value.cells] at hv;rcases hv with rfl|rfl<;>rfl)|(refine List.forall_mem_cons.2 ⟨rfl,?_⟩;repeat (first|exact (fun _ h=>absurd h List.not_mem_nil)|refine List.forall_mem_cons.2 ⟨rfl,?_⟩))⟩,⟨rfl,rfl,by first|(simp;done)|(intro v hv;simp [Value.cells] at hv;rcases hv with rfl|rfl<;>rfl)|(refine List.forall_mem_cons.2 ⟨rfl,?_⟩;repeat (first|exact (fun _ h=>absurd h List.not_mem_nil)|refine List.forall_mem_cons.2 ⟨rfl,?_⟩))⟩,⟨rfl,rfl,by first|(simp;done)|(intro v hv;simp [Value.cells] at hv;rcases hv with rfl|rfl<;>rfl)|(refine List.forall_mem_cons.2 ⟨rfl,?_⟩;repeat (first|exact (fun _ h=>absurd h List.not_mem_nil)|refine List.forall_mem_cons.2 ⟨rfl,?_⟩))⟩,trivial⟩ zE) ?_;rintro _ _ ⟨a99,c99,rfl,rfl⟩;refine O.frzA zB fun g hs hm ha99=>?_;replace hg:=Fr.sub_trans hg hs;replace hR:=melted hR hm
  try replace h1:=h1.mono hs
  try replace hA:=hA.mono hs
  try replace h2:=h2.mono hs
  try replace h24:=h24.mono hs
  try replace h3:=h3.mono hs
  try replace hB:=hB.mono hs
  try replace hC:=hC.mono hs
  try replace q1:=q1.mono hs
  try replace q2:=q2.mono hs
  try replace q3:=q3.mono hs
  try replace p1:=p1.mono hs
  try replace p2:=p2.mono hs
  try replace p3:=p3.mono hs
  try replace r0:=r0.mono hs
  try replace r1:=r1.mono hs
  try replace r2:=r2.mono hs
  try replace r3:=r3.mono hs
  try replace r4:=r4.mono hs
  try replace r5:=r5.mono hs
  try replace r6:=r6.mono hs
  try replace r7:=r7.mono hs
  try replace r8:=r8.mono hs
  try replace y0:=y0.mono hs
  try replace y1:=y1.mono hs
  try replace y2:=y2.mono hs
  try replace y3:=y3.mono hs
  try replace y4:=y4.mono hs
  try replace y5:=y5.mono hs
  try replace y6:=y6.mono hs
  try replace z47:=z47.mono hs
  try replace hL:=hL.mono hs
  try replace ha97:=ha97.mono hs
  try replace z1:=z1.mono hs
  try replace z2:=z2.mono hs
  try replace z3:=z3.mono hs
  replace hm1:=meltTrans hm1 hm;clear hs hm;refine O.call0 (.p rfl) rfl zC rfl rfl ((sPut_c (xs:=putK) (Arr.ofCells ha99 ⟨z1,z2,z3,trivial⟩ rfl) (by decide))) ?_;rintro _ _ ⟨a100,c100,rfl,rfl⟩
  try simp only [zx1,zx2,zx3]
  rw [sOut_put.1,sOut_put.2];refine O.q 5 rfl<|O.nil (S.seq (S.seq ?_));have hpl:=putK_len;generalize sB putK=p at hpl ⊢;have hg_o:=hg;have hR_o:=hR
  try have h1_o:=h1
  try have hA_o:=hA
  try have h2_o:=h2
  try have h24_o:=h24
  try have h3_o:=h3
  try have hB_o:=hB
  try have hC_o:=hC
  try have q1_o:=q1
  try have q2_o:=q2
  try have q3_o:=q3
  try have p1_o:=p1
  try have p2_o:=p2
  try have p3_o:=p3
  try have r0_o:=r0
  try have r1_o:=r1
  try have r2_o:=r2
  try have r3_o:=r3
  try have r4_o:=r4
  try have r5_o:=r5
  try have r6_o:=r6
  try have r7_o:=r7
  try have r8_o:=r8
  try have y0_o:=y0
  try have y1_o:=y1
  try have y2_o:=y2
  try have y3_o:=y3
  try have y4_o:=y4
  try have y5_o:=y5
  try have y6_o:=y6
  try have z47_o:=z47
  try have hL_o:=hL
  try have ha97_o:=ha97
  try have z1_o:=z1
  try have z2_o:=z2
  try have z3_o:=z3
  try have ha99_o:=ha99
  refine S.frzH (B:=OwnP Rp.u8 5 (.slice a100 p.length c100) p) zB fun go hso ⟨mo,hmo,hsmo⟩ hbo=>?_;replace hg:=Fr.sub_trans hg hso;replace hR:=backR hR hbo
  try replace h1:=h1.mono hso
  try replace hA:=hA.mono hso
  try replace h2:=h2.mono hso
  try replace h24:=h24.mono hso
  try replace h3:=h3.mono hso
  try replace hB:=hB.mono hso
  try replace hC:=hC.mono hso
  try replace q1:=q1.mono hso
  try replace q2:=q2.mono hso
  try replace q3:=q3.mono hso
  try replace p1:=p1.mono hso
  try replace p2:=p2.mono hso
  try replace p3:=p3.mono hso
  try replace r0:=r0.mono hso
  try replace r1:=r1.mono hso
  try replace r2:=r2.mono hso
  try replace r3:=r3.mono hso
  try replace r4:=r4.mono hso
  try replace r5:=r5.mono hso
  try replace r6:=r6.mono hso
  try replace r7:=r7.mono hso
  try replace r8:=r8.mono hso
  try replace y0:=y0.mono hso
  try replace y1:=y1.mono hso
  try replace y2:=y2.mono hso
  try replace y3:=y3.mono hso
  try replace y4:=y4.mono hso
  try replace y5:=y5.mono hso
  try replace y6:=y6.mono hso
  try replace z47:=z47.mono hso
  try replace hL:=hL.mono hso
  try replace ha97:=ha97.mono hso
  try replace z1:=z1.mono hso
  try replace z2:=z2.mono hso
  try replace z3:=z3.mono hso
  try replace ha99:=ha99.mono hso
  have hp:Arr Rp.u8 go.h (.slice a100 p.length c100) p:=(OwnP.arr hmo).mono hsmo;refine S.region rfl<|O.q 1 rfl<|O.op (.p rfl) (.neq rfl rfl)<|O.sF 104 rfl (by rfl) ?_;refine O.nil<|S.condF rfl<|S.skip<|S.seq<|S.seq<|S.region rfl<|O.q 1 rfl<|O.nil<|S.block<|S.loopK (ι:=Nat) (fun i=>i≤p.length) (fun i=>[(11,.int .i64 (i:Int))]) [(9,_)] (fun i=>[]) (fun i=>p.length - i) (0) zG (.cons rfl (.nil)) (.cons rfl (.nil)) rfl fun i hx ih=>?_;have hm1:=meltRefl (g:=go);refine S.seq<|S.seq<|S.region rfl<|O.q 2 rfl<|O.op (.p rfl) (.len rfl underlying31 rfl)<|O.op (.p rfl) (.lss rfl rfl)<|O.nil ?_
  first|refine S.condD rfl (fun h108=>?_) (fun h108=>?_)|refine S.condB rfl (fun h108=>?_) (fun h108=>?_)
  ·have hi:i<p.length:=by omega
   refine S.skip<|S.seq<|S.block<|S.seq<|S.region rfl<|O.q 1 rfl<|O.call0 (.p rfl) rfl zC rfl rfl ((CopyBytes_c hp zD)) ?_;rintro _ _ ⟨a112,c112,rfl,rfl⟩
   try simp only [zx1,zx2,zx3]
   refine O.q 1 rfl<|O.nil<|S.seq<|S.region rfl<|O.q 4 rfl<|O.opE (.p rfl) (.idxOwn (T:=Rp.u8) underlying31 size5 rfl rfl rfl zB zL) ?_;rintro _ _ ⟨p117,rfl,hp117,rfl⟩;refine O.op (.p rfl) (.loadOwn flat5 rfl hp117 rfl zB zL ((by rintro _ rfl;rfl))) ?_;obtain ⟨x,hxx⟩:=bits_byte .xor (p[i].toNat:Int) 1;refine O.op (.p rfl) (.xor rfl rfl)<|O.slot 119 (v' :=byteV x) rfl (by exact congrArg _ hxx) ?_;refine O.opE (.p rfl) (.idxOwn (T:=Rp.u8) underlying31 size5 rfl rfl rfl zB zL) ?_;rintro _ _ ⟨p120,rfl,hp120,rfl⟩;refine O.opU rfl (.storeOwn size5 rfl hp120 rfl zB zL (show _=_ by rfl:Rp.rel _ _ _ (x))) ?_;refine O.nil<|S.seq<|S.frzA zB fun g hs hm hcp=>?_;replace hg:=Fr.sub_trans hg hs;replace hR:=melted hR hm
   try replace h1:=h1.mono hs
   try replace hA:=hA.mono hs
   try replace h2:=h2.mono hs
   try replace h24:=h24.mono hs
   try replace h3:=h3.mono hs
   try replace hB:=hB.mono hs
   try replace hC:=hC.mono hs
   try replace q1:=q1.mono hs
   try replace q2:=q2.mono hs
   try replace q3:=q3.mono hs
   try replace p1:=p1.mono hs
   try replace p2:=p2.mono hs
   try replace p3:=p3.mono hs
   try replace r0:=r0.mono hs
   try replace r1:=r1.mono hs
   try replace r2:=r2.mono hs
   try replace r3:=r3.mono hs
   try replace r4:=r4.mono hs
   try replace r5:=r5.mono hs
   try replace r6:=r6.mono hs
   try replace r7:=r7.mono hs
   try replace r8:=r8.mono hs
   try replace y0:=y0.mono hs
   try replace y1:=y1.mono hs
   try replace y2:=y2.mono hs
   try replace y3:=y3.mono hs
   try replace y4:=y4.mono hs
   try replace y5:=y5.mono hs
   try replace y6:=y6.mono hs
   try replace z47:=z47.mono hs
   try replace hL:=hL.mono hs
   try replace ha97:=ha97.mono hs
   try replace z1:=z1.mono hs
   try replace z2:=z2.mono hs
   try replace z3:=z3.mono hs
   try replace ha99:=ha99.mono hs
   try replace hp:=hp.mono hs
   replace hm1:=meltTrans hm1 hm;clear hs hm;refine S.region rfl<|O.q 1 rfl<|O.call0 (.p rfl) rfl zC rfl rfl ((sGetU_c hcp zJ)) ?_;rintro _ _ ⟨a123,c123,rfl,rfl⟩
   try simp only [zx1,zx2,zx3]
   refine O.q 5 rfl<|O.nil<|S.seq<|S.frzG (T:=RecRp) rfl zB fun g hs hm hX=>?_;replace hg:=Fr.sub_trans hg hs;replace hR:=melted hR hm
   try replace h1:=h1.mono hs
   try replace hA:=hA.mono hs
   try replace h2:=h2.mono hs
   try replace h24:=h24.mono hs
   try replace h3:=h3.mono hs
   try replace hB:=hB.mono hs
   try replace hC:=hC.mono hs
   try replace q1:=q1.mono hs
   try replace q2:=q2.mono hs
   try replace q3:=q3.mono hs
   try replace p1:=p1.mono hs
   try replace p2:=p2.mono hs
   try replace p3:=p3.mono hs
   try replace r0:=r0.mono hs
   try replace r1:=r1.mono hs
   try replace r2:=r2.mono hs
   try replace r3:=r3.mono hs
   try replace r4:=r4.mono hs
   try replace r5:=r5.mono hs
   try replace r6:=r6.mono hs
   try replace r7:=r7.mono hs
   try replace r8:=r8.mono hs
   try replace y0:=y0.mono hs
   try replace y1:=y1.mono hs
   try replace y2:=y2.mono hs
   try replace y3:=y3.mono hs
   try replace y4:=y4.mono hs
   try replace y5:=y5.mono hs
   try replace y6:=y6.mono hs
   try replace z47:=z47.mono hs
   try replace hL:=hL.mono hs
   try replace ha97:=ha97.mono hs
   try replace z1:=z1.mono hs
   try replace z2:=z2.mono hs
   try replace z3:=z3.mono hs
   try replace ha99:=ha99.mono hs
   try replace hp:=hp.mono hs
   try replace hcp:=hcp.mono hs
   replace hm1:=meltTrans hm1 hm;clear hs hm;refine S.region rfl<|O.q 1 rfl<|O.call0 (.p rfl) rfl zC rfl rfl ((r9get_c hcp zJ)) ?_;rintro _ _ ⟨a128,c128,rfl,rfl⟩
   try simp only [zx1,zx2,zx3]
   refine O.q 5 rfl<|O.nil<|S.seq<|S.frzG (T:=RecRp) rfl zB fun g hs hm hY=>?_;replace hg:=Fr.sub_trans hg hs;replace hR:=melted hR hm
   try replace h1:=h1.mono hs
   try replace hA:=hA.mono hs
   try replace h2:=h2.mono hs
   try replace h24:=h24.mono hs
   try replace h3:=h3.mono hs
   try replace hB:=hB.mono hs
   try replace hC:=hC.mono hs
   try replace q1:=q1.mono hs
   try replace q2:=q2.mono hs
   try replace q3:=q3.mono hs
   try replace p1:=p1.mono hs
   try replace p2:=p2.mono hs
   try replace p3:=p3.mono hs
   try replace r0:=r0.mono hs
   try replace r1:=r1.mono hs
   try replace r2:=r2.mono hs
   try replace r3:=r3.mono hs
   try replace r4:=r4.mono hs
   try replace r5:=r5.mono hs
   try replace r6:=r6.mono hs
   try replace r7:=r7.mono hs
   try replace r8:=r8.mono hs
   try replace y0:=y0.mono hs
   try replace y1:=y1.mono hs
   try replace y2:=y2.mono hs
   try replace y3:=y3.mono hs
   try replace y4:=y4.mono hs
   try replace y5:=y5.mono hs
   try replace y6:=y6.mono hs
   try replace z47:=z47.mono hs
   try replace hL:=hL.mono hs
   try replace ha97:=ha97.mono hs
   try replace z1:=z1.mono hs
   try replace z2:=z2.mono hs
   try replace z3:=z3.mono hs
   try replace ha99:=ha99.mono hs
   try replace hp:=hp.mono hs
   try replace hcp:=hcp.mono hs
   try replace hX:=hX.mono hs
   replace hm1:=meltTrans hm1 hm;clear hs hm;refine S.region rfl<|O.q 2 rfl<|O.sliceTo (b:=i) (.p rfl) underlying31 size5 rfl rfl zF zI zI (fun u134 ha134=>?_);obtain ⟨a134,c134,rfl⟩:=ha134.shape;refine O.call0 (.p rfl) rfl zC rfl rfl ((sGetU_c ha134 zJ)) ?_;rintro _ _ ⟨a135,c135,rfl,rfl⟩
   try simp only [zx1,zx2,zx3]
   refine O.q 5 rfl<|O.nil<|S.seq<|S.frzG (T:=RecRp) rfl zB fun g hs hm hU=>?_;replace hg:=Fr.sub_trans hg hs;replace hR:=melted hR hm
   try replace h1:=h1.mono hs
   try replace hA:=hA.mono hs
   try replace h2:=h2.mono hs
   try replace h24:=h24.mono hs
   try replace h3:=h3.mono hs
   try replace hB:=hB.mono hs
   try replace hC:=hC.mono hs
   try replace q1:=q1.mono hs
   try replace q2:=q2.mono hs
   try replace q3:=q3.mono hs
   try replace p1:=p1.mono hs
   try replace p2:=p2.mono hs
   try replace p3:=p3.mono hs
   try replace r0:=r0.mono hs
   try replace r1:=r1.mono hs
   try replace r2:=r2.mono hs
   try replace r3:=r3.mono hs
   try replace r4:=r4.mono hs
   try replace r5:=r5.mono hs
   try replace r6:=r6.mono hs
   try replace r7:=r7.mono hs
   try replace r8:=r8.mono hs
   try replace y0:=y0.mono hs
   try replace y1:=y1.mono hs
   try replace y2:=y2.mono hs
   try replace y3:=y3.mono hs
   try replace y4:=y4.mono hs
   try replace y5:=y5.mono hs
   try replace y6:=y6.mono hs
   try replace z47:=z47.mono hs
   try replace hL:=hL.mono hs
   try replace ha97:=ha97.mono hs
   try replace z1:=z1.mono hs
   try replace z2:=z2.mono hs
   try replace z3:=z3.mono hs
   try replace ha99:=ha99.mono hs
   try replace hp:=hp.mono hs
   try replace hcp:=hcp.mono hs
   try replace hX:=hX.mono hs
   try replace hY:=hY.mono hs
   try replace ha134:=ha134.mono hs
   replace hm1:=meltTrans hm1 hm;clear hs hm;refine S.region rfl<|O.q 2 rfl<|O.sliceTo (b:=i) (.p rfl) underlying31 size5 rfl rfl zF zI zI (fun u141 ha141=>?_);obtain ⟨a141,c141,rfl⟩:=ha141.shape;refine O.call0 (.p rfl) rfl zC rfl rfl ((r9get_c ha141 zJ)) ?_;rintro _ _ ⟨a142,c142,rfl,rfl⟩
   try simp only [zx1,zx2,zx3]
   refine O.q 5 rfl<|O.nil<|S.seq<|S.frzG (T:=RecRp) rfl zB fun g hs hm hV=>?_;replace hg:=Fr.sub_trans hg hs;replace hR:=melted hR hm
   try replace h1:=h1.mono hs
   try replace hA:=hA.mono hs
   try replace h2:=h2.mono hs
   try replace h24:=h24.mono hs
   try replace h3:=h3.mono hs
   try replace hB:=hB.mono hs
   try replace hC:=hC.mono hs
   try replace q1:=q1.mono hs
   try replace q2:=q2.mono hs
   try replace q3:=q3.mono hs
   try replace p1:=p1.mono hs
   try replace p2:=p2.mono hs
   try replace p3:=p3.mono hs
   try replace r0:=r0.mono hs
   try replace r1:=r1.mono hs
   try replace r2:=r2.mono hs
   try replace r3:=r3.mono hs
   try replace r4:=r4.mono hs
   try replace r5:=r5.mono hs
   try replace r6:=r6.mono hs
   try replace r7:=r7.mono hs
   try replace r8:=r8.mono hs
   try replace y0:=y0.mono hs
   try replace y1:=y1.mono hs
   try replace y2:=y2.mono hs
   try replace y3:=y3.mono hs
   try replace y4:=y4.mono hs
   try replace y5:=y5.mono hs
   try replace y6:=y6.mono hs
   try replace z47:=z47.mono hs
   try replace hL:=hL.mono hs
   try replace ha97:=ha97.mono hs
   try replace z1:=z1.mono hs
   try replace z2:=z2.mono hs
   try replace z3:=z3.mono hs
   try replace ha99:=ha99.mono hs
   try replace hp:=hp.mono hs
   try replace hcp:=hcp.mono hs
   try replace hX:=hX.mono hs
   try replace hY:=hY.mono hs
   try replace ha134:=ha134.mono hs
   try replace hU:=hU.mono hs
   try replace ha141:=ha141.mono hs
   replace hm1:=meltTrans hm1 hm;clear hs hm;refine S.region rfl<|O.q 2 rfl<|O.op (.p rfl) (.neq rfl rfl)<|O.sF 147 rfl zG ?_;refine O.q 3 rfl<|O.op (.g rfl rfl) (.neq rfl rfl)<|O.sF 151 rfl zG ?_;refine O.q 4 rfl<|O.call0 (.g rfl rfl) rfl zC rfl rfl ((sameRecords_c hX hY)) ?_;rintro _ _ ⟨rfl,rfl⟩
   try simp only [zx1,zx2,zx3]
   refine O.op (.g rfl rfl) (.not rfl)<|O.q 4 rfl<|O.call0 (.g rfl rfl) rfl zC rfl rfl ((sameRecords_c hU hV)) ?_;rintro _ _ ⟨rfl,rfl⟩
   try simp only [zx1,zx2,zx3]
   refine O.op (.g rfl rfl) (.not rfl)<|O.q 1 rfl<|O.nil<|S.condF rfl<|S.skip<|S.inBlock<|S.region rfl<|O.q 1 rfl<|O.op (.p rfl) (.add rfl rfl (IntWalk.i64_in _ zD))<|O.q 1 rfl<|O.nil ?_;exact S.melt hm1 (S.wk (ih (i+1) zD zD))
  ·clear ih
   refine S.exit rfl<|S.seq<|S.back hbo ?_;replace hg:=hg_o;replace hR:=hR_o
   try replace h1:=h1_o
   try replace hA:=hA_o
   try replace h2:=h2_o
   try replace h24:=h24_o
   try replace h3:=h3_o
   try replace hB:=hB_o
   try replace hC:=hC_o
   try replace q1:=q1_o
   try replace q2:=q2_o
   try replace q3:=q3_o
   try replace p1:=p1_o
   try replace p2:=p2_o
   try replace p3:=p3_o
   try replace r0:=r0_o
   try replace r1:=r1_o
   try replace r2:=r2_o
   try replace r3:=r3_o
   try replace r4:=r4_o
   try replace r5:=r5_o
   try replace r6:=r6_o
   try replace r7:=r7_o
   try replace r8:=r8_o
   try replace y0:=y0_o
   try replace y1:=y1_o
   try replace y2:=y2_o
   try replace y3:=y3_o
   try replace y4:=y4_o
   try replace y5:=y5_o
   try replace y6:=y6_o
   try replace z47:=z47_o
   try replace hL:=hL_o
   try replace ha97:=ha97_o
   try replace z1:=z1_o
   try replace z2:=z2_o
   try replace z3:=z3_o
   try replace ha99:=ha99_o
   clear hg_o hR_o;refine S.region rfl<|O.call0 (.p rfl) rfl zC rfl rfl ((joins_c (ss:=[]) Arr.nil zE)) ?_;rintro _ _ ⟨rfl,rfl⟩
   try simp only [zx1,zx2,zx3]
   refine O.q 1 rfl<|O.opE (.g rfl rfl) (.litP (T:=Rp.cells 1) (ys:=[[.slice none 0 0],[.slice none 0 0]]) underlying65 elem47 zE rfl rfl ⟨⟨rfl,rfl,by first|(simp;done)|(intro v hv;simp [Value.cells] at hv;rcases hv with rfl|rfl<;>rfl)|(refine List.forall_mem_cons.2 ⟨rfl,?_⟩;repeat (first|exact (fun _ h=>absurd h List.not_mem_nil)|refine List.forall_mem_cons.2 ⟨rfl,?_⟩))⟩,⟨rfl,rfl,by first|(simp;done)|(intro v hv;simp [Value.cells] at hv;rcases hv with rfl|rfl<;>rfl)|(refine List.forall_mem_cons.2 ⟨rfl,?_⟩;repeat (first|exact (fun _ h=>absurd h List.not_mem_nil)|refine List.forall_mem_cons.2 ⟨rfl,?_⟩))⟩,trivial⟩ zE) ?_;rintro _ _ ⟨a167,c167,rfl,rfl⟩;refine O.frzA zB fun g hs hm ha167=>?_;replace hg:=Fr.sub_trans hg hs;replace hR:=melted hR hm
   try replace h1:=h1.mono hs
   try replace hA:=hA.mono hs
   try replace h2:=h2.mono hs
   try replace h24:=h24.mono hs
   try replace h3:=h3.mono hs
   try replace hB:=hB.mono hs
   try replace hC:=hC.mono hs
   try replace q1:=q1.mono hs
   try replace q2:=q2.mono hs
   try replace q3:=q3.mono hs
   try replace p1:=p1.mono hs
   try replace p2:=p2.mono hs
   try replace p3:=p3.mono hs
   try replace r0:=r0.mono hs
   try replace r1:=r1.mono hs
   try replace r2:=r2.mono hs
   try replace r3:=r3.mono hs
   try replace r4:=r4.mono hs
   try replace r5:=r5.mono hs
   try replace r6:=r6.mono hs
   try replace r7:=r7.mono hs
   try replace r8:=r8.mono hs
   try replace y0:=y0.mono hs
   try replace y1:=y1.mono hs
   try replace y2:=y2.mono hs
   try replace y3:=y3.mono hs
   try replace y4:=y4.mono hs
   try replace y5:=y5.mono hs
   try replace y6:=y6.mono hs
   try replace z47:=z47.mono hs
   try replace hL:=hL.mono hs
   try replace ha97:=ha97.mono hs
   try replace z1:=z1.mono hs
   try replace z2:=z2.mono hs
   try replace z3:=z3.mono hs
   try replace ha99:=ha99.mono hs
   clear hs hm;refine O.call0 (.g rfl rfl) rfl zC rfl rfl ((joins_c (ss:=[[],[]]) (Arr.ofCells ha167 ⟨⟨_,rfl,Arr.nil⟩,⟨_,rfl,Arr.nil⟩,trivial⟩ rfl) zE)) ?_;rintro _ _ ⟨rfl,rfl⟩
   try simp only [zx1,zx2,zx3]
   refine O.q 3 rfl<|O.opE (.g rfl rfl) (.litP (T:=Rp.u8) (ys:=[0]) underlying31 elem5 zE rfl rfl ⟨rfl,trivial⟩ zE) ?_;rintro _ _ ⟨a172,c172,rfl,rfl⟩;refine O.opE (.g rfl rfl) (.appendO (T:=Rp.u8) underlying31 elem5 zE rfl rfl zB zB zI zI) ?_;rintro _ _ ⟨a173,c173,rfl,rfl⟩;refine O.frzA zB fun g hs hm ha173=>?_;replace hg:=Fr.sub_trans hg hs;replace hR:=melted hR hm
   try replace h1:=h1.mono hs
   try replace hA:=hA.mono hs
   try replace h2:=h2.mono hs
   try replace h24:=h24.mono hs
   try replace h3:=h3.mono hs
   try replace hB:=hB.mono hs
   try replace hC:=hC.mono hs
   try replace q1:=q1.mono hs
   try replace q2:=q2.mono hs
   try replace q3:=q3.mono hs
   try replace p1:=p1.mono hs
   try replace p2:=p2.mono hs
   try replace p3:=p3.mono hs
   try replace r0:=r0.mono hs
   try replace r1:=r1.mono hs
   try replace r2:=r2.mono hs
   try replace r3:=r3.mono hs
   try replace r4:=r4.mono hs
   try replace r5:=r5.mono hs
   try replace r6:=r6.mono hs
   try replace r7:=r7.mono hs
   try replace r8:=r8.mono hs
   try replace y0:=y0.mono hs
   try replace y1:=y1.mono hs
   try replace y2:=y2.mono hs
   try replace y3:=y3.mono hs
   try replace y4:=y4.mono hs
   try replace y5:=y5.mono hs
   try replace y6:=y6.mono hs
   try replace z47:=z47.mono hs
   try replace hL:=hL.mono hs
   try replace ha97:=ha97.mono hs
   try replace z1:=z1.mono hs
   try replace z2:=z2.mono hs
   try replace z3:=z3.mono hs
   try replace ha99:=ha99.mono hs
   try replace ha167:=ha167.mono hs
   clear hs hm;refine O.call0 (.g rfl rfl) rfl zC rfl rfl ((siblingGets_c ha173)) ?_;rintro _ _ ⟨rfl,rfl⟩
   try simp only [zx1,zx2,zx3]
   refine O.q 2 rfl<|O.opE (.g rfl rfl) (.makeP (T:=Rp.u8) (0:UInt8) (m:=8) underlying31 elem5 zE rfl rfl rfl rfl rfl zE zE) ?_;rintro _ _ ⟨a177,c177,rfl,rfl⟩;refine O.frzA zB fun g hs hm ha177=>?_;replace hg:=Fr.sub_trans hg hs;replace hR:=melted hR hm
   try replace h1:=h1.mono hs
   try replace hA:=hA.mono hs
   try replace h2:=h2.mono hs
   try replace h24:=h24.mono hs
   try replace h3:=h3.mono hs
   try replace hB:=hB.mono hs
   try replace hC:=hC.mono hs
   try replace q1:=q1.mono hs
   try replace q2:=q2.mono hs
   try replace q3:=q3.mono hs
   try replace p1:=p1.mono hs
   try replace p2:=p2.mono hs
   try replace p3:=p3.mono hs
   try replace r0:=r0.mono hs
   try replace r1:=r1.mono hs
   try replace r2:=r2.mono hs
   try replace r3:=r3.mono hs
   try replace r4:=r4.mono hs
   try replace r5:=r5.mono hs
   try replace r6:=r6.mono hs
   try replace r7:=r7.mono hs
   try replace r8:=r8.mono hs
   try replace y0:=y0.mono hs
   try replace y1:=y1.mono hs
   try replace y2:=y2.mono hs
   try replace y3:=y3.mono hs
   try replace y4:=y4.mono hs
   try replace y5:=y5.mono hs
   try replace y6:=y6.mono hs
   try replace z47:=z47.mono hs
   try replace hL:=hL.mono hs
   try replace ha97:=ha97.mono hs
   try replace z1:=z1.mono hs
   try replace z2:=z2.mono hs
   try replace z3:=z3.mono hs
   try replace ha99:=ha99.mono hs
   try replace ha167:=ha167.mono hs
   try replace ha173:=ha173.mono hs
   clear hs hm;refine O.call0 (.g rfl rfl) rfl zC rfl rfl ((siblingGets_c ha177)) ?_;rintro _ _ ⟨rfl,rfl⟩
   try simp only [zx1,zx2,zx3]
   refine O.q 2 rfl<|O.call0 (.g rfl rfl) rfl zC rfl rfl ((siblingGets_c (b:=[]) Arr.nil)) ?_;rintro _ _ ⟨rfl,rfl⟩
   try simp only [zx1,zx2,zx3]
   refine O.q 2 rfl<|O.call0 (.g rfl rfl) rfl zC rfl rfl (sawake_c) ?_;rintro _ _ ⟨rfl,rfl⟩
   try simp only [zx1,zx2,zx3]
   refine O.q 2 rfl<|O.nil ?_;exact S.rt results12 rfl hR ⟨rfl,rfl⟩
end Go.Proofs.YtodhbhanmdfdeaaGreat
