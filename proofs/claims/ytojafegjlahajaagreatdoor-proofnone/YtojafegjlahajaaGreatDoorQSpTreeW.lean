/- Texts of this proof. -/
import Derived.Test.YtojafegjlahajaaGreatDoorQSpBuilder
set_option linter.unusedSectionVars false
open Go
namespace Go.Sp
def Cov (q d k:Fr):Prop:=∀ i o,q i=some o→d i=some o∨k i=some o
theorem Cov.own (d k:Fr):Cov k d k:=fun _ _ h=>.inr h
theorem Cov.mono {q d k k' :Fr} (s:k.sub k') (h:Cov q d k):Cov q d k' :=fun i o e=>(h i o e).imp id (s i o)
theorem Cov.sub {q d k g:Fr} (hd:d.sub g) (hk:k.sub g) (h:Cov q d k):q.sub g:=fun i o e=>(h i o e).elim (hd i o) (hk i o)
section
variable {α:Type}
def Rp.cv (d k:Fr) (T:Rp α):Rp α:={ k:=T.k,rel:=fun _ cs a=>∃ q,Cov q d k∧T.rel q cs a,len:=fun ⟨_,_,h⟩=>T.len h,mono:=fun _ h=>h,one:=fun ⟨_,_,h⟩=>T.one h }
theorem Rp.cv_off {T:Rp α} {d k h g:Fr} {cs:List Value} {a:α} (hd:d.sub g) (hk:k.sub g):(Rp.cv d k T).rel h cs a→T.rel g cs a:=fun ⟨_,c,x⟩=>T.mono (c.sub hd hk) x
theorem Rp.cv_mono {T:Rp α} {d k k' h h' :Fr} {cs:List Value} {a:α} (s:k.sub k'):(Rp.cv d k T).rel h cs a→(Rp.cv d k' T).rel h' cs a:=fun ⟨q,c,x⟩=>⟨q,c.mono s,x⟩
theorem OwnP.imp {T U:Rp α} {e:TypeId} {v:Value} {xs:List α} {m:Fr} (hk:T.k=U.k) (h:∀ cs a,T.rel Fr.emp cs a→U.rel Fr.emp cs a):OwnP T e v xs m→OwnP U e v xs m:=fun ⟨css,a,o⟩=>⟨css,a.imp fun _ _=>h _ _,by rw [← hk];exact o⟩
theorem OwnP.cv_mono {T:Rp α} {e:TypeId} {d k k' :Fr} {v:Value} {xs:List α} {m:Fr} (s:k.sub k') (x:OwnP (Rp.cv d k T) e v xs m):OwnP (Rp.cv d k' T) e v xs m:=OwnP.imp (T:=Rp.cv d k T) (U:=Rp.cv d k' T) rfl (fun _ _=>Rp.cv_mono s) x
theorem Arr.cv_off {T:Rp α} {d k h:Fr} {v:Value} {xs:List α} (hd:d.sub h) (hk:k.sub h):Arr (Rp.cv d k T) h v xs→Arr T h v xs:=fun ⟨css,a,b⟩=>⟨css,a.imp fun _ _ x=>Rp.cv_off hd hk x,b⟩
end
def SumsOk (d k:Fr) (L:List LeafT) (M:List (KEnt (List UInt8))):Prop:=∀ p v,getK M p=some v→pathOk p∧∃ q,Cov q d k∧Arr Rp.u8 q v (treeSum L p)
theorem SumsOk.mono {d k k' :Fr} {L:List LeafT} {M:List (KEnt (List UInt8))} (s:k.sub k') (h:SumsOk d k L M):SumsOk d k' L M:=fun p v e=>⟨(h p v e).1,(h p v e).2.elim fun q x=>⟨q,x.1.mono s,x.2⟩⟩
theorem SumsOk.nil (d k:Fr) (L:List LeafT):SumsOk d k L []:=fun p v h=>by cases h
theorem SumsOk.put {d k:Fr} {L:List LeafT} {M:List (KEnt (List UInt8))} {c:Nat} {p:List UInt8} {v:Value} (h:SumsOk d k L M) (hp:pathOk p) (hv:∃ q,Cov q d k∧Arr Rp.u8 q v (treeSum L p)):SumsOk d k L (putK M c p v):=fun j u e=>by
 rw [getK_put] at e
 split at e
 ·rename_i q;subst q;cases e;exact ⟨hp,hv⟩
 ·exact h j u e
structure TTys where
 tree:TypeId
 leaf:TypeId
 str:TypeId
def TreeP (θ:TTys) (d k:Fr) (b:Nat) (s:Nat) (L:List LeafT):SProp:=fun m=>∃ vL vW mid M c,(WfK M c∧SumsOk d k L M) ∧
 Sat [obj b θ.tree [vL,vW,.int .i64 (s:Int),.map (some mid)],OwnP (Rp.cv d k LeafRp) θ.leaf vL L,OwnP Rp.str θ.str vW (L.map fun y=>wayOf y.1),MapK encS mid M c] m
def IsP (k:Fr):SProp:=fun m=>m=k
def TreeX (θ:TTys) (d:Fr) (b:Nat) (s:Nat) (L:List LeafT):SProp:=fun m=>∃ k,Sat [IsP k,TreeP θ d k b s L] m
def TreeV (θ:TTys) (d:Fr) (b:Nat) (s:Nat) (L:List LeafT) (v:Value) (xs:List UInt8):SProp:=fun m=>∃ k,(∃ q,Cov q d k∧Arr Rp.u8 q v xs)∧Sat [IsP k,TreeP θ d k b s L] m
abbrev Rp.nat:Rp Nat:=Rp.comap (fun n:Nat=>(n:Int)) Rp.i64
def TreeA (h:Fr) (b:Nat) (s:Nat) (L:List LeafT):Prop:=∃ aL cL aW cW mid,At h ⟨b,0,none⟩ [.slice aL L.length cL,.slice aW L.length cW,.int .i64 (s:Int),.map (some mid)]∧Arr LeafRp h (.slice aL L.length cL) L∧Arr Rp.str h (.slice aW L.length cW) (L.map fun y=>wayOf y.1)
theorem TreeA.mono {h h' :Fr} {b s:Nat} {L:List LeafT} (e:h.sub h'):TreeA h b s L→TreeA h' b s L:=fun ⟨a,c,x,y,mid,h1,h2,h3⟩=>⟨a,c,x,y,mid,h1.mono e,h2.mono e,h3.mono e⟩
theorem TreeP.a {θ:TTys} {d k g:Fr} {b s:Nat} {L:List LeafT} {m:Fr} (hd:d.sub g) (hk:k.sub g) (hm:m.sub g):TreeP θ d k b s L m→TreeA g b s L:=fun ⟨vL,vW,mid,M,c,_,hs⟩=>by
 obtain ⟨m1,_,_,s1,t1,o,m2,_,_,s2,t2,xL,m3,_,_,s3,_,xW,_⟩:=hs;have h1:m2.sub m:=Fr.sub_trans s2 t1;have h2:m3.sub m:=Fr.sub_trans s3 (Fr.sub_trans t2 t1);obtain ⟨aL,cL,rfl⟩:=xL.shape;obtain ⟨aW,cW,hw⟩:=xW.shape;rw [List.length_map] at hw;subst hw;refine ⟨aL,cL,aW,cW,mid,((obj_at o).mono s1).mono hm,?_,(xW.arr.mono h2).mono hm⟩;exact ((xL.arr.mono h1).mono hm).cv_off hd hk
theorem TreeX.a {θ:TTys} {d g:Fr} {b s:Nat} {L:List LeafT} {m:Fr} (hd:d.sub g) (hm:m.sub g):TreeX θ d b s L m→TreeA g b s L:=fun ⟨k,h⟩=>by
 obtain ⟨m1,_,_,s1,t1,o,m2,_,_,s2,t2,xL,_⟩:=h
 cases (o:m1=k)
 exact TreeP.a hd (Fr.sub_trans s1 hm) (Fr.sub_trans (Fr.sub_trans s2 t1) hm) xL
theorem own_none {α:Type} {T:Rp α} {e:TypeId}:OwnP T e (.slice none 0 0) ([]:List α) Fr.emp:=⟨[],trivial,(Nat.zero_mul _).symm,.inl ⟨rfl,rfl⟩⟩
theorem tree_new {θ:TTys} {b mid s:Nat} {m:Fr} (h:Sat [obj b θ.tree [.slice none 0 0,.slice none 0 0,.int .i64 (s:Int),.map (some mid)],MapK encS mid [] 0] m):TreeX θ Fr.emp b s [] m:=by
 obtain ⟨m1,m2,d,s1,s2,o,m3,m4,d2,s3,s4,x,_⟩:=h;refine ⟨Fr.emp,Fr.emp,m,Fr.emp_disj _,Fr.emp_sub _,Fr.sub_refl _,rfl,m,Fr.emp,Fr.disj_symm (Fr.emp_disj _),Fr.sub_refl _,Fr.emp_sub _,⟨.slice none 0 0,.slice none 0 0,mid,[],0,⟨WfK.nil,SumsOk.nil _ _ _⟩,?_⟩,trivial⟩;exact ⟨m1,m2,d,s1,s2,o,Fr.emp,m2,Fr.emp_disj _,Fr.emp_sub _,Fr.sub_refl _,own_none,Fr.emp,m2,Fr.emp_disj _,Fr.emp_sub _,Fr.sub_refl _,own_none,m3,m4,d2,s3,s4,x,trivial⟩
structure TreeO (d:Fr) (L:List LeafT) where
 k:Fr
 vL:Value
 vW:Value
 mid:Nat
 M:List (KEnt (List UInt8))
 c:Nat
 wf:WfK M c
 ok:SumsOk d k L M
abbrev TreeO.ws {d:Fr} {L:List LeafT} (θ:TTys) (b s:Nat) (x:TreeO d L):List SProp :=
 [IsP x.k,obj b θ.tree [x.vL,x.vW,.int .i64 (s:Int),.map (some x.mid)],OwnP (Rp.cv d x.k LeafRp) θ.leaf x.vL L,OwnP Rp.str θ.str x.vW (L.map fun y=>wayOf y.1),MapK encS x.mid x.M x.c]
theorem TreeX.opn {θ:TTys} {d:Fr} {b s:Nat} {L:List LeafT} {m:Fr}:TreeX θ d b s L m→∃ x:TreeO d L,Sat (x.ws θ b s) m
 |⟨k,m1,m2,d1,s1,s2,o,_,_,_,s3,_,⟨vL,vW,mid,M,c,⟨h1,h2⟩,hs⟩,_⟩=>⟨⟨k,vL,vW,mid,M,c,h1,h2⟩,m1,m2,d1,s1,s2,o,Sat.mono s3 hs⟩
theorem TreeX.fold {θ:TTys} {d:Fr} {b s:Nat} {L:List LeafT} {m:Fr} (x:TreeO d L):Sat (x.ws θ b s) m→TreeX θ d b s L m
 |⟨m1,m2,d1,s1,s2,o,hs⟩=>⟨x.k,m1,m2,d1,s1,s2,o,m2,Fr.emp,Fr.disj_symm (Fr.emp_disj _),Fr.sub_refl _,Fr.emp_sub _,⟨x.vL,x.vW,x.mid,x.M,x.c,⟨x.wf,x.ok⟩,hs⟩,trivial⟩
theorem TreeV.fold {θ:TTys} {d:Fr} {b s:Nat} {L:List LeafT} {m:Fr} (x:TreeO d L) {p:List UInt8} {v:Value} (e:getK x.M p=some v):Sat (x.ws θ b s) m→TreeV θ d b s L v (treeSum L p) m
 |⟨m1,m2,d1,s1,s2,o,hs⟩=>⟨x.k,(x.ok p v e).2,m1,m2,d1,s1,s2,o,m2,Fr.emp,Fr.disj_symm (Fr.emp_disj _),Fr.sub_refl _,Fr.emp_sub _,⟨x.vL,x.vW,x.mid,x.M,x.c,⟨x.wf,x.ok⟩,hs⟩,trivial⟩
attribute [local irreducible] treeSum
abbrev TreeO.wsP {d:Fr} {L:List LeafT} (θ:TTys) (b s:Nat) (x:TreeO d L) (e:TypeId) (v:Value) (p xs:List UInt8):List SProp :=
 [IsP x.k,OwnP Rp.u8 e v xs,obj b θ.tree [x.vL,x.vW,.int .i64 (s:Int),.map (some x.mid)],OwnP (Rp.cv d x.k LeafRp) θ.leaf x.vL L,OwnP Rp.str θ.str x.vW (L.map fun y=>wayOf y.1),MapK encS x.mid (putK x.M x.c p v) (clkK x.M x.c p)]
theorem TreeV.put {θ:TTys} {d:Fr} {b s:Nat} {L:List LeafT} {m:Fr} {e:TypeId} (x:TreeO d L) {p:List UInt8} {v:Value} {xs:List UInt8} (hp:pathOk p) (hx:xs=treeSum L p)
  (h:Sat (x.wsP θ b s e v p xs) m) :
  TreeV θ d b s L v (treeSum L p) m:=by
 subst hx;obtain ⟨n1,r1,d1,s1,s2,o1,n2,m2,d2,t1,t2,o2,hs⟩:=h;have e1:n1=x.k:=o1;have dm:(n1.add n2).disj m2:=Fr.disj_add (fun i=>(d1 i).imp id fun q=>by
  cases c:m2 i with
  |none=>rfl
  |some o=>rw [t2 i o c] at q;cases q) d2
 have d12:n1.disj n2:=fun i=>(d1 i).imp id fun q=>by
  cases c:n2 i with
  |none=>rfl
  |some o=>rw [t1 i o c] at q;cases q
 have sm:(n1.add n2).sub m:=Fr.add_sub s1 (Fr.sub_trans t1 s2);have hk:x.k.sub (n1.add n2):=e1 ▸ Fr.sub_add_left n1 n2;have hv:∃ q,Cov q d (n1.add n2)∧Arr Rp.u8 q v (treeSum L p):=⟨n1.add n2,Cov.own _ _,o2.arr.mono (Fr.sub_add_right d12)⟩;have hs' :TreeP θ d (n1.add n2) b s L m2:=by
  obtain ⟨a1,a2,da,sa,sb,q1,b1,b2,db,sc,sd,q2,q3⟩:=hs;exact ⟨x.vL,x.vW,x.mid,putK x.M x.c p v,clkK x.M x.c p,⟨putK_wf x.wf p v,(x.ok.mono hk).put (c:=x.c) hp hv⟩,a1,a2,da,sa,sb,q1,b1,b2,db,sc,sd,q2.cv_mono hk,q3⟩
 exact ⟨n1.add n2,hv,n1.add n2,m2,dm,sm,Fr.sub_trans t2 s2,rfl,m2,Fr.emp,Fr.disj_symm (Fr.emp_disj _),Fr.sub_refl _,Fr.emp_sub _,hs',trivial⟩
theorem TreeX.lent {θ:TTys} {d g:Fr} {b s:Nat} {L:List LeafT} {m:Fr} {η:List SProp} (hd:d.sub g) (hm:g.disj m):Sat (TreeX θ d b s L::η) m→TreeA (g.add m) b s L
 |⟨_,_,_,s1,_,o,_⟩=>TreeX.a (Fr.sub_trans hd (Fr.sub_add_left _ _)) (Fr.sub_trans s1 (Fr.sub_add_right hm)) o
theorem TreeV.lent {θ:TTys} {d g:Fr} {b s:Nat} {L:List LeafT} {v:Value} {xs:List UInt8} {m:Fr} (hd:d.sub g) (hm:g.disj m):Sat [TreeV θ d b s L v xs] m→Arr Rp.u8 (g.add m) v xs
 |⟨_,_,_,s1,_,⟨k,⟨q,c,a⟩,n1,_,_,t1,_,o,_⟩,_⟩=>a.mono (c.sub (Fr.sub_trans hd (Fr.sub_add_left _ _)) (by
  have e:n1=k:=o;exact e ▸ Fr.sub_trans t1 (Fr.sub_trans s1 (Fr.sub_add_right hm))))
theorem TreeV.toX {θ:TTys} {d:Fr} {b s:Nat} {L:List LeafT} {v:Value} {xs:List UInt8} {m:Fr}:Sat [TreeV θ d b s L v xs] m→TreeX θ d b s L m
 |⟨_,_,_,s1,_,⟨k,_,n1,n2,dn,t1,t2,o,hs⟩,_⟩=>⟨k,n1,n2,dn,Fr.sub_trans t1 s1,Fr.sub_trans t2 s1,o,hs⟩
theorem list_none {α:Type} {G:Gp α} {e:TypeId} {v:Value} {m:Fr} {k:Nat} (hk:G.rp.k=k):Sat [OwnP (Rp.cells k) e v []] m→ListP G e v [] m
 |⟨m1,m2,d,s1,s2,o,_⟩=>by subst hk;exact ⟨[],m1,m2,d,s1,s2,o,m2,Fr.emp,Fr.disj_symm (Fr.emp_disj _),Fr.sub_refl _,Fr.emp_sub _,trivial,trivial⟩
theorem owned_snd {α:Type} {A:SProp} {T:Rp α} {e:TypeId} {v:Value} {xs:List α} {m:Fr} {η:List SProp} (h:Sat (A::OwnP T e v xs::η) m):Arr T m v xs:=by
 obtain ⟨_,_,_,_,s2,_,m3,_,_,s3,_,o,_⟩:=h;exact o.arr.mono (Fr.sub_trans s3 s2)
theorem Does.treeShard {P:Program} {σ:List (Nat × Value)} {g:Gr} {η ζ:List SProp} {t:TypeId} {x:Operand} {θ:TTys} {d:Fr} {b s:Nat} {L:List LeafT} (ht:flat1 P t=true) (hx:ev σ x=some (.pointer (some ⟨b,2,none⟩))) (hs:Sel η (TreeX θ d b s L) ζ) :
  Does P (.load t x) σ g η (.int .i64 (s:Int)) η:=fun o ρ w ho hk hw=>⟨w,by
 obtain ⟨_,_,_,k,_,_,s2,k1,_,_,t1,_,xk,_⟩:=hw.sel hs;obtain ⟨y,m1,m2,_,_,u2,_,m3,_,_,u3,_,o,_⟩:=TreeX.opn xk;have hb:w.heap[b]?=some (.cells [y.vL,y.vW,.int .i64 (s:Int),.map (some y.mid)].toArray θ.tree (0,0)):=s2 _ _ (t1 _ _ (u2 _ _ (u3 _ _ o)));have hc:w.cell? ⟨b,2,none⟩=some (.int .i64 (s:Int)):=by simp [World.cell?,hb]
 simp [execOp,ho,hk x _ hx,Instr.loadAt,Instr.sureAddr,loadVar,run_isAgg_flat (flat1_flat ht),hc],hw⟩
theorem ODt.loadL {P:Program} {fn:Func} {n:Nat} {R:Ending→World→Prop} {k:List Item} {σ:List (Nat × Value)} {D:List Deferred} {g:Gr} {η:List SProp} {ops:Array Oper} {l:List Nat} {i d:Nat} {t:TypeId} {x:Operand} {v:Value}
  (ho:Fires ops i n σ d (.load t x)) (_:true=true) (hdo:∀ ζ,Does P (.load t x) σ g (η++ζ) v (η++ζ)) (h:OD P fn n R ops k D g l ((d,v)::σ) η):ODx P fn n R ops k D g true (i::l) σ η :=
 ODt.loudE (K:=fun v' η' =>v' =v∧η' =η) ho rfl rfl (fun ζ o ρ w h1 h2 h3=>let ⟨w',a,b⟩:=hdo ζ o ρ w h1 h2 h3;⟨v,w',η++ζ,⟨η,⟨rfl,rfl⟩,rfl⟩,a,b⟩) (by rintro _ _ ⟨rfl,rfl⟩;exact h)
end Go.Sp
