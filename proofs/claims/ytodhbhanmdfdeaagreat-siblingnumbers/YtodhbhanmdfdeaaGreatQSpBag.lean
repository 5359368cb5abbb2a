/- Texts of this proof. -/
import Derived.Test.YtodhbhanmdfdeaaGreatQSpGo
namespace Go.Sp
theorem OwnP.toCells {α:Type} {T:Rp α} {e:TypeId} {v:Value} {xs:List α} {m:Fr} {k:Nat} (hk:T.k=k) (h:OwnP T e v xs m):∃ css,css.length=xs.length∧OwnP (Rp.cells k) e v css m:=by
 subst hk;obtain ⟨css,a,o⟩:=h;have hs:∀ {cs:List (List Value)} {xs:List α},All2 (T.rel Fr.emp) cs xs→All2 ((Rp.cells T.k).rel Fr.emp) cs cs:=by
  intro cs
  induction cs with
  |nil=>intro xs _;trivial
  |cons c cs ih =>
   intro xs h
   cases xs with
   |nil=>exact h.elim
   |cons x xs=>exact ⟨⟨rfl,T.len h.1,T.one h.1⟩,ih h.2⟩
 exact ⟨css,a.len2,css,hs a,by rw [a.len2];exact o⟩
def EachI {α:Type} (A:α→SProp):List α→SProp
 |[]=>fun _=>True
 |x::xs=>fun m=>Sat [A x,EachI A xs] m
theorem EachI.mono {α:Type} {A:α→SProp}:∀ {xs:List α} {h k:Fr},h.sub k→EachI A xs h→EachI A xs k
 |[],_,_,_,_=>trivial
 |_::_,_,_,s,x=>Sat.mono s x
theorem EachI.app {α:Type} {A:α→SProp}:∀ {xs ys:List α} {h1 h2:Fr},h1.disj h2→EachI A xs h1→EachI A ys h2→EachI A (xs++ys) (h1.add h2)
 |[],_,_,_,d,_,y=>EachI.mono (Fr.sub_add_right d) y
 |x::xs,ys,h1,h2,d,⟨k1,k2,kd,s1,s2,a,k3,_,_,t1,_,b,_⟩,y=>by
  have d2:k2.disj h2:=Fr.disj_sub d s2 (Fr.sub_refl _);have r:=EachI.app d2 (EachI.mono t1 b) y;exact ⟨k1,k2.add h2,Fr.disj_add_right kd (Fr.disj_sub d s1 (Fr.sub_refl _)),Fr.sub_trans s1 (Fr.sub_add_left _ _),Fr.add_sub (Fr.sub_trans s2 (Fr.sub_add_left _ _)) (Fr.sub_add_right d),a,k2.add h2,Fr.emp,Fr.disj_symm (Fr.emp_disj _),Fr.sub_refl _,Fr.emp_sub _,r,trivial⟩
theorem EachI.cons {α:Type} {A:α→SProp} {x:α} {xs:List α} {h1 h2:Fr} (d:h1.disj h2) (a:A x h1) (b:EachI A xs h2):EachI A (x::xs) (h1.add h2) :=
 ⟨h1,h2,d,Fr.sub_add_left _ _,Fr.sub_add_right d,a,h2,Fr.emp,Fr.disj_symm (Fr.emp_disj _),Fr.sub_refl _,Fr.emp_sub _,b,trivial⟩
theorem EachI.out {α:Type} {A:α→SProp} {x:α} {xs:List α} {m:Fr} (h:EachI A (x::xs) m):∃ h1 h2:Fr,h1.disj h2∧h1.sub m∧h2.sub m∧A x h1∧EachI A xs h2:=by
 obtain ⟨k1,k2,kd,s1,s2,a,k3,_,_,t1,_,b,_⟩:=h;exact ⟨k1,k2,kd,s1,s2,a,EachI.mono t1 b⟩
theorem EachI.of {α:Type} {A:α→SProp}:∀ {xs:List α} {m:Fr},Sat (xs.map A) m→EachI A xs m
 |[],_,_=>trivial
 |_::_,_,⟨k1,k2,kd,s1,s2,a,b⟩=>EachI.mono (Fr.add_sub s1 s2) (EachI.cons kd a (EachI.of b))
theorem EachI.part {α:Type} {A:α→SProp} (p:α→Bool):∀ {xs:List α} {m:Fr},EachI A xs m→∃ h1 h2:Fr,h1.disj h2∧h1.sub m∧h2.sub m∧EachI A (xs.filter p) h1∧EachI A (xs.filter fun x=>!p x) h2
 |[],m,_=>⟨Fr.emp,m,Fr.emp_disj _,Fr.emp_sub _,Fr.sub_refl _,trivial,trivial⟩
 |x::xs,m,h=>by
  obtain ⟨k1,k2,kd,s1,s2,a,b⟩:=EachI.out h;obtain ⟨h1,h2,d,t1,t2,y,z⟩:=EachI.part p b
  cases e:p x with
  |true =>
   rw [List.filter_cons_of_pos (by exact e),List.filter_cons_of_neg (by rw [e];decide)];have d1:k1.disj h1:=Fr.disj_sub kd (Fr.sub_refl _) t1;have d2:k1.disj h2:=Fr.disj_sub kd (Fr.sub_refl _) t2;exact ⟨k1.add h1,h2,Fr.disj_add d2 d,Fr.add_sub s1 (Fr.sub_trans t1 s2),Fr.sub_trans t2 s2,EachI.cons d1 a y,z⟩
  |false =>
   rw [List.filter_cons_of_neg (by rw [e];decide),List.filter_cons_of_pos (by rw [e];rfl)];have d1:k1.disj h1:=Fr.disj_sub kd (Fr.sub_refl _) t1;have d2:k1.disj h2:=Fr.disj_sub kd (Fr.sub_refl _) t2;exact ⟨h1,k1.add h2,Fr.disj_add_right (Fr.disj_symm d1) d,Fr.sub_trans t1 s2,Fr.add_sub s1 (Fr.sub_trans t2 s2),y,EachI.cons d2 a z⟩
abbrev BI:Type:=Nat × Value
def kOf:Nat→Nat|7=>1|8=>2|9=>7|10=>2|12=>4|13=>2|14=>2|15=>5|16=>10|17=>29|20=>4|_=>1
def tOf (τ:Tys):Nat→TypeId|7=>τ.bytes|8=>τ.dot|9=>τ.recd|10=>τ.leaf|12=>τ.node|13=>τ.stub|14=>τ.prf|15=>τ.root|16=>τ.evd|17=>τ.frm|20=>τ.held|_=>τ.u8
def ItemW (τ:Tys) (N:Nat) (i:BI):SProp:=fun m =>
 if i.1=5 then ∃ xs:List UInt8,xs.length≤N∧OwnP Rp.u8 τ.u8 i.2 xs m
 else if i.1=2 then ∃ xs:List Int,xs.length≤N∧OwnP Rp.i64 τ.int i.2 xs m
 else ∃ css:List (List Value),css.length≤N∧OwnP (Rp.cells (kOf i.1)) (tOf τ i.1) i.2 css m
theorem ItemW.bytes {τ:Tys} {N:Nat} {v:Value} {xs:List UInt8} {m:Fr} (hl:xs.length≤N) (h:OwnP Rp.u8 τ.u8 v xs m):ItemW τ N (5,v) m:=by
 unfold ItemW;rw [if_pos rfl];exact ⟨xs,hl,h⟩
theorem ItemW.cells {τ:Tys} {N k K:Nat} {e:TypeId} {v:Value} {css:List (List Value)} {m:Fr} (h5:k≠5) (h2:k≠2) (hK:kOf k=K) (he:tOf τ k=e) (hl:css.length≤N) (h:OwnP (Rp.cells K) e v css m):ItemW τ N (k,v) m:=by
 subst hK he;unfold ItemW;rw [if_neg h5,if_neg h2];exact ⟨css,hl,h⟩
def ofK (s:List BI) (k:Nat):List Value:=(s.filter fun i=>decide (i.1=k)).map (·.2)
theorem ofK_app (s t:List BI) (k:Nat):ofK (s++t) k=ofK s k++ofK t k:=by simp [ofK]
theorem ofK_same (v:Value) (k:Nat):ofK [(k,v)] k=[v]:=by simp [ofK]
theorem ofK_ne {j k:Nat} (v:Value) (h:j≠k):ofK [(j,v)] k=[]:=by simp [ofK,h]
theorem ofK_len (s:List BI) (k:Nat):(ofK s k).length≤s.length:=by unfold ofK;rw [List.length_map];exact List.length_filter_le ..
def KindB (τ:Tys) (N:Nat) (vs:List Value):SProp:=fun m=>∃ xss:List (List UInt8),((∀ x∈xss,x.length≤N)∧xss.length=vs.length)∧RowsP Rp.u8 τ.u8 vs xss m
def KindI (τ:Tys) (N:Nat) (vs:List Value):SProp:=fun m=>∃ xss:List (List Int),((∀ x∈xss,x.length≤N)∧xss.length=vs.length)∧RowsP Rp.i64 τ.int vs xss m
def KindW (e K N:Nat) (vs:List Value):SProp:=fun m=>∃ csss:List (List (List Value)),((∀ x∈csss,x.length≤N)∧csss.length=vs.length)∧EachP (OwnP (Rp.cells K) e) vs csss m
theorem EachI.toEach {α β:Type} {A:α→SProp} {f:α→Value} {B:Value→β→SProp} {Q:β→Prop} (hA:∀ x m,A x m→∃ y,Q y∧B (f x) y m):∀ {xs:List α} {m:Fr},EachI A xs m→∃ ys:List β,((∀ y∈ys,Q y)∧ys.length=xs.length)∧EachP B (xs.map f) ys m
 |[],_,_=>⟨[],⟨fun _ h=>(by cases h),rfl⟩,trivial⟩
 |x::xs,m,h=>by
  obtain ⟨k1,k2,kd,s1,s2,a,b⟩:=EachI.out h;obtain ⟨y,hy,hb⟩:=hA _ _ a;obtain ⟨ys,⟨h1,h2⟩,h3⟩:=EachI.toEach hA b;refine ⟨y::ys,⟨fun z hz=>?_,by simp [h2]⟩,k1,k2,kd,s1,s2,hb,k2,Fr.emp,Fr.disj_symm (Fr.emp_disj _),Fr.sub_refl _,Fr.emp_sub _,h3,trivial⟩
  rcases List.mem_cons.1 hz with rfl|hz
  ·exact hy
  ·exact h1 z hz
theorem EachI.all {α:Type} {A:α→SProp} {B:α→SProp} {p:α→Bool} (h:∀ x m,p x=true→A x m→B x m):∀ {xs:List α} {m:Fr},EachI A (xs.filter p) m→EachI B (xs.filter p) m:=by
 intro xs
 have key:∀ (ys:List α),(∀ y∈ys,p y=true)→∀ m,EachI A ys m→EachI B ys m:=by
  intro ys
  induction ys with
  |nil=>intro _ _ _;trivial
  |cons y ys ih =>
   intro hp m hm
   obtain ⟨k1,k2,kd,s1,s2,a,b⟩:=EachI.out hm;exact EachI.mono (Fr.add_sub s1 s2) (EachI.cons kd (h _ _ (hp y List.mem_cons_self) a) (ih (fun z hz=>hp z (List.mem_cons_of_mem _ hz)) _ b))
 exact fun {m}=>key _ (fun y hy=>(List.mem_filter.1 hy).2) m
abbrev isK (k:Nat) (i:BI):Bool:=decide (i.1=k)
theorem kindB {τ:Tys} {N:Nat} {s:List BI} {m:Fr} (h:EachI (ItemW τ N) (s.filter (isK 5)) m):KindB τ N (ofK s 5) m:=by
 obtain ⟨ys,⟨h1,h2⟩,h3⟩:=EachI.toEach (A:=fun (i:BI) m=>∃ xs:List UInt8,xs.length≤N∧OwnP Rp.u8 τ.u8 i.2 xs m) (f:=(·.2)) (B:=OwnP Rp.u8 τ.u8) (Q:=fun x=>x.length≤N) (fun _ _ x=>x)
  (EachI.all (p:=isK 5) (fun x m hx a=>by unfold ItemW at a;rwa [if_pos (of_decide_eq_true hx)] at a) h)
 exact ⟨ys,⟨h1,by rw [h2];unfold ofK;rw [List.length_map]⟩,h3⟩
theorem kindI {τ:Tys} {N:Nat} {s:List BI} {m:Fr} (h:EachI (ItemW τ N) (s.filter (isK 2)) m):KindI τ N (ofK s 2) m:=by
 obtain ⟨ys,⟨h1,h2⟩,h3⟩:=EachI.toEach (A:=fun (i:BI) m=>∃ xs:List Int,xs.length≤N∧OwnP Rp.i64 τ.int i.2 xs m) (f:=(·.2)) (B:=OwnP Rp.i64 τ.int) (Q:=fun x=>x.length≤N) (fun _ _ x=>x)
  (EachI.all (p:=isK 2) (fun x m hx a=>by unfold ItemW at a;rwa [if_neg (by rw [of_decide_eq_true hx];decide),if_pos (of_decide_eq_true hx)] at a) h)
 exact ⟨ys,⟨h1,by rw [h2];unfold ofK;rw [List.length_map]⟩,h3⟩
theorem kindW {τ:Tys} {N k K:Nat} {e:TypeId} (h5:k≠5) (h2:k≠2) (hK:kOf k=K) (he:tOf τ k=e) {s:List BI} {m:Fr} (h:EachI (ItemW τ N) (s.filter (isK k)) m):KindW e K N (ofK s k) m:=by
 subst hK he;obtain ⟨ys,⟨h1,h2⟩,h3⟩:=EachI.toEach (A:=fun (i:BI) m=>∃ css:List (List Value),css.length≤N∧OwnP (Rp.cells (kOf k)) (tOf τ k) i.2 css m) (f:=(·.2)) (B:=OwnP (Rp.cells (kOf k)) (tOf τ k)) (Q:=fun x=>x.length≤N) (fun _ _ x=>x)
  (EachI.all (p:=isK k) (fun x m hx a=>by have hx:=of_decide_eq_true hx;unfold ItemW at a;rwa [if_neg (by rw [hx];exact h5),if_neg (by rw [hx];exact h2),hx] at a) h)
 exact ⟨ys,⟨h1,by rw [h2];unfold ofK;rw [List.length_map]⟩,h3⟩
theorem EachI.sorts {A:BI→SProp}:∀ {ks:List Nat} {s:List BI} {m:Fr},ks.Nodup→EachI A s m→Sat (ks.map fun k=>EachI A (s.filter (isK k))) m
 |[],_,_,_,_=>trivial
 |k::ks,s,m,hn,h=>by
  obtain ⟨h1,h2,d,s1,s2,y,z⟩:=EachI.part (isK k) h;have hn' :=List.nodup_cons.1 hn;have r:=EachI.sorts (A:=A) (ks:=ks) hn'.2 z;have e:(ks.map fun j=>EachI A ((s.filter fun x=>!isK k x).filter (isK j)))=ks.map fun j=>EachI A (s.filter (isK j)):=by
   refine List.map_congr_left fun j hj=>?_;rw [List.filter_filter]
   congr 1
   refine List.filter_congr fun x _=>?_
   by_cases c:x.1=j
   ·have:x.1≠k:=fun q=>hn'.1 (by rw [← q,c];exact hj)
    simp [isK,c];omega
   ·simp [isK,c]
  rw [e] at r;exact ⟨h1,h2,d,s1,s2,y,r⟩
def CollL {α:Type} (T:Rp α) (K kind:Nat) (one:Fr→List Value→List BI→Prop) (h:Fr) (v:Value) (its:List BI):Prop :=
 ∃ css xs itss,Arr (Rp.cells K) h v css∧Cells T h css xs∧All2 (one h) css itss∧its=(kind,v)::itss.flatten
theorem CollL.mono {α:Type} {T:Rp α} {K kind:Nat} {one:Fr→List Value→List BI→Prop} (hm:∀ h k cs it,h.sub k→one h cs it→one k cs it) {h k:Fr} (s:h.sub k) {v:Value} {its:List BI}:CollL T K kind one h v its→CollL T K kind one k v its
 |⟨css,xs,itss,a,b,c,d⟩=>⟨css,xs,itss,a.mono s,b.mono s,All2.imp (fun _ _=>hm _ _ _ _ s) c,d⟩
abbrev OneF:=Fr→List Value→List BI→Prop
def oneMono (one:OneF):Prop:=∀ h k cs it,h.sub k→one h cs it→one k cs it
def Gathers {α:Type} (τ:Tys) (N:Nat) (own:List Value→α→SProp) (one:OneF) (Q:α→Prop) (cnt:α→Nat):Prop :=
 ∀ cs x m,Q x→own cs x m→∃ it,it.length=cnt x∧one m cs it∧EachI (ItemW τ N) it m
theorem gather_each {α:Type} {τ:Tys} {N:Nat} {G:Gp α} {one:OneF} {Q:α→Prop} {cnt:α→Nat} (hm:oneMono one) (hg:Gathers τ N G.own one Q cnt):∀ {css:List (List Value)} {xs:List α} {m:Fr},(∀ x∈xs,Q x)→EachP G.own css xs m →
  ∃ itss,All2 (one m) css itss∧Cells G.rp m css xs∧itss.flatten.length=(xs.map cnt).sum∧EachI (ItemW τ N) itss.flatten m
 |[],[],_,_,_=>⟨[],trivial,trivial,rfl,trivial⟩
 |[],_::_,_,_,h=>h.elim
 |_::_,[],_,_,h=>h.elim
 |cs::css,x::xs,m,hq,⟨h1,h2,d,s1,s2,a,h3,_,_,t,_,b,_⟩=>by
  obtain ⟨it,i1,i2,i3⟩:=hg _ _ _ (hq x List.mem_cons_self) a;obtain ⟨itss,j1,j2,j3,j4⟩:=gather_each hm hg (fun y hy=>hq y (List.mem_cons_of_mem _ hy)) b;have t2:=Fr.sub_trans t s2;refine ⟨it::itss,⟨hm _ _ _ _ s1 i2,All2.imp (fun _ _=>hm _ _ _ _ t2) j1⟩,⟨G.rp.mono s1 (G.rel a),j2.mono t2⟩,by simp [i1,j3],?_⟩;rw [List.flatten_cons];exact EachI.mono (Fr.add_sub s1 t2) (EachI.app (Fr.disj_sub d (Fr.sub_refl _) t) i3 j4)
theorem gather_list {α:Type} {τ:Tys} {N K kind:Nat} {e:TypeId} {G:Gp α} {one:OneF} {Q:α→Prop} {cnt:α→Nat} (hm:oneMono one) (hg:Gathers τ N G.own one Q cnt) (h5:kind≠5) (h2:kind≠2) (hK:kOf kind=K) (hG:G.rp.k=K) (he:tOf τ kind=e)
  {v:Value} {xs:List α} {m:Fr} (hq:∀ x∈xs,Q x) (hl:xs.length≤N) (h:ListP G e v xs m):∃ it,it.length=1+(xs.map cnt).sum∧CollL G.rp K kind one m v it∧EachI (ItemW τ N) it m:=by
 subst hG;obtain ⟨css,k1,k2,d,s1,s2,o,k3,_,_,t,_,y,_⟩:=h;obtain ⟨itss,j1,j2,j3,j4⟩:=gather_each hm hg hq y;have t2:=Fr.sub_trans t s2;have hcl:css.length=xs.length:=j2.len;refine ⟨(kind,v)::itss.flatten,by simp [j3];omega,⟨css,xs,itss,o.arr.mono s1,j2.mono t2,All2.imp (fun _ _=>hm _ _ _ _ t2) j1,rfl⟩,?_⟩;exact EachI.mono (Fr.add_sub s1 t2) (EachI.cons (Fr.disj_sub d (Fr.sub_refl _) t) (ItemW.cells h5 h2 hK he (by omega) o) j4)
end Go.Sp
