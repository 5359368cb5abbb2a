/- Texts of this proof. -/
import Derived.Test.YtojafegjlahajaaGreatDoorQSpMem2
set_option linter.unusedSectionVars false
namespace Go.Sp
open Region (binds ready)
def jk:Op→Bool
 |.alloc _=>true
 |_=>false
def oP (ops:Array Oper) (i:Nat):Bool:=match ops[i]? with|some o=>jk o.op|none=>false
def zeroOf (P:Program) (T:TypeId):Option Value:=(P.info? T).bind (·.zero)
theorem FU {P:Program} {T:TypeId} {z:Value} (h:zeroOf P T=some z) (w:World):(zeroValue T).run P w=.ok z w:=by
 unfold zeroOf at h
 cases hi:P.info? T with
 |none=>rw [hi] at h;cases h
 |some i=>rw [hi] at h;simp at h;simp [zeroValue,typeInfo,hi,h]
def eH (ops:Array Oper):List Nat→List Nat→Bool
 |_,[]=>true
 |acc,i::l=>match oP ops i with
  |true=>eH ops acc l
  |false=>(match ops[i]? with|some o=>o.after.any fun e=>binds .any e && acc.contains e.on|none=>false) && eH ops (i::acc) l
def tmpsOf (xs:Array Operand):List Nat:=xs.toList.filterMap fun|.tmp t=>some t|_=>none
def pR (ops:Array Oper) (o:Oper):List Nat :=
 tmpsOf o.op.operands++(match o.guard with|some (j,_)=>(match ops[j]? with|some oj=>oj.dst.toList|none=>[])|none=>[])
def yZ (ops:Array Oper):List Nat→List Nat→Bool
 |_,[]=>true
 |bf,i::l=>(match ops[i]? with|some o=>o.after.all fun e=>!binds .any e ||bf.contains e.on|none=>false) && yZ ops (i::bf) l
def VK (ops:Array Oper):Bool :=
 (List.range ops.size).all fun i=>match ops[i]? with
  |some o=>(pR ops o).all fun t=>(List.range ops.size).all fun j=>match ops[j]? with
   |some oj=>match oj.dst with|some d=>d !=t ||o.after.any (fun e=>binds .any e && e.on ==j) ||oj.after.any (fun e=>binds .any e && e.on ==i)|none=>true
   |none=>true
  |none=>false
def nW (ops:Array Oper) (i:Nat):Bool:=match ops[i]? with
 |some oi=>match oi.dst with
  |some d=>(List.range ops.size).all fun j=>match ops[j]? with
   |some o=>!(pR ops o).contains d ||o.after.any (fun e=>binds .any e && e.on ==i)
   |none=>true
  |none=>true
 |none=>true
def Ob (ops:Array Oper):Bool :=
 (List.range ops.size).all fun i=>(List.range ops.size).all fun j=>i ==j ||match ops[i]?,ops[j]? with
  |some oi,some oj=>match oi.dst,oj.dst with|some d,some e=>d !=e|_,_=>true
  |_,_=>false
def GW (P:Program) (n:Nat) (ops:Array Oper):Bool :=
 (List.range ops.size).all (fun i=>!oP ops i ||nW ops i) && ops.all fun o=>match o.op with|.alloc T=>(zeroOf P T).isSome && o.guard.isNone && (match o.dst with|some d=>Nat.blt d n|none=>false)|_=>true
def yd:List Nat→Bool
 |[]=>true
 |i::l=>!l.contains i && yd l
def AK (P:Program) (n:Nat) (ops:Array Oper) (l0:List Nat):Bool :=
 yd l0 && (List.range ops.size).all (fun i=>l0.contains i) && l0.all (·<ops.size) && yZ ops [] l0 && VK ops && Ob ops && Region.noSelect ops && GW P n ops && l0.dropLast.all (nW ops)
section
variable (P:Program) (fn:Func) (n:Nat) (R:Ending→World→Prop) (ops:Array Oper) (k:List Item) (D:List Deferred) (g:bn)
def xb (ops:Array Oper) (j:Nat):Nat→Nat→Bool
 |0,_=>false
 |f+1,i=>match ops[i]? with
  |some o=>o.after.any fun e=>binds .any e && (Nat.beq e.on j ||xb ops j f e.on)
  |none=>false
def JN (ops:Array Oper) (i:Nat):Bool:=(List.range ops.size).all fun j=>Nat.beq j i ||xb ops j 2 i ||xb ops j 10 i
def wD (ops:Array Oper) (jt l:List Nat):Bool :=
 !jt.isEmpty && jt.all (fun i=>l.contains i && !oP ops i && nW ops i && (match ops[i]? with|some o=>o.after.all fun e=>!binds .any e ||!l.contains e.on|none=>false)) && eH ops jt (l.filter fun i=>!jt.contains i)
def yw (ops:Array Oper):List Nat→Bool
 |[]=>true
 |i::l=>(l.all fun j=>match ops[i]? with|some o=>o.after.all fun e=>!binds .any e ||!Nat.beq e.on j|none=>false) && yw ops l
def AS (ops:Array Oper) (l l' :List Nat):Bool:=yd l' && l.all (fun i=>l'.contains i) && l'.all (fun i=>l.contains i) && yw ops l' && (l.getLast? ==l'.getLast?) && (match l' with|[]=>false|_=>true)
inductive aJ:Bool→List Nat→List (Nat × Value)→List az→Prop
 |nil {σ:List (Nat × Value)} {U:List az} (h:S none P fn n R k σ D g U):aJ false [] σ U
 |quiet {fl:Bool} {i d:Nat} {op:Op} {v:Value} {l:List Nat} {σ:List (Nat × Value)} {U:List az} (ho:bJ ops i n σ d op) (hna:jk op=false) (dw:∀ U,aG P op σ g U v U) (h:aJ false l ((d,v)::σ) U):aJ fl (i::l) σ U
 |no {fl:Bool} {i d t:Nat} {op:Op} {b:Bool} {l:List Nat} {σ:List (Nat × Value)} {U:List az} {v:Value} (ho:su ops i n=some (d,op,t,b)) (hna:jk op=false) (hl:look σ t=some v) (hv:q8 b v=true) (h:aJ false l ((d,undef)::σ) U):aJ fl (i::l) σ U
 |lazy {i d:Nat} {T:TypeId} {z:Value} {l:List Nat} {σ:List (Nat × Value)} {U:List az} (ho:yf ops i n=some (d,.alloc T)) (hd:eH ops [i] l=true) (hz:zeroOf P T=some z)
   (h:∀ b,aJ false l ((d,.pointer (some ⟨b,0,none⟩))::σ) (obj b T z.cells.toList::U)):aJ false (i::l) σ U
 |lS {i d:Nat} {l:List Nat} {σ:List (Nat × Value)} {U ζ:List az} {f:FuncId} {x:Operand} {xs:Array Operand} {ts:Array TypeId} {bH:List Value} {K:Value→List az→Prop} {X:List PanicEntry→List az→Prop} {first cap:Array Value} {args:Array Value}
   (ho:bJ ops i n σ d (.call ⟨.value x,xs,ts⟩)) (hx:aA σ x=some (.func (.func f) first cap)) (hc:dG P f=true)
   (hv:dX σ xs.toList=some bH) (hargs:first++bH.toArray++cap=args) (con:ay P f args g.h U (eN K X))
   (hp:∀ (a:Act) ch ax w,X ch ax →Holds w g (ax ++ζ)→eS P fn a.tmps R D (.panicking ch) w) (h:∀ v ax,K v ax →aJ false l ((d,v)::σ) (ax ++ζ)):aJ true (i::l) σ (U++ζ)
 |f_ {i d:Nat} {op:Op} {l:List Nat} {σ:List (Nat × Value)} {U:List az} {K:Value→List az→Prop} (ho:bJ ops i n σ d op) (hna:jk op=false) (dw:∀ ζ,bF P op σ g (U++ζ) fun v ax =>∃ cW,K v cW∧ax =cW++ζ)
   (h:∀ v ax,K v ax →aJ false l ((d,v)::σ) ax):aJ true (i::l) σ U
 |mS {i:Nat} {op:Op} {l:List Nat} {σ:List (Nat × Value)} {U ax :List az} (ho:kf ops i=some op) (hna:jk op=false) (dw:∀ ζ,Gw P op σ g (U++ζ) (ax ++ζ)) (h:aJ false l σ ax):aJ true (i::l) σ U
 |q4 {i:Nat} {op:Op} {σ:List (Nat × Value)} {U ax :List az} {g' :bn} (ho:kf ops i=some op) (hna:jk op=false) (hl:JN ops i=true)
   (dw:∀ (o:Oper) (ρ:Operand→Value) (w:World),o.op=op→ni σ ρ→Holds w g U→∃ w' u,(execOp ρ o).run P w=.ok u w' ∧(u=.skip∨∃ v,u=.value v)∧Holds w' g' ax) (h:S none P fn n R k σ D g' ax):aJ true [i] σ U
 |one {i:Nat} {l:List Nat} {σ:List (Nat × Value)} {U:List az} (hd:eH ops [i] l=true) (h:aJ true (i::l) σ U):aJ false (i::l) σ U
 |swap {l:List Nat} {σ:List (Nat × Value)} {U:List az} (l' :List Nat) (hp:AS ops l l' =true) (h:aJ false l' σ U):aJ false l σ U
 |alt {l:List Nat} {σ:List (Nat × Value)} {U:List az} (jt:List Nat) (hok:wD ops jt l=true) (h:∀ i∈jt,aJ true (i::l.erase i) σ U):aJ false l σ U
abbrev af (l:List Nat) (σ:List (Nat × Value)) (U:List az):Prop:=aJ P fn n R ops k D g false l σ U
end
theorem Holds.HR {w:World} {g:bn}:∀ {ζ U:List az},Holds w g (ζ++U)→Holds w g U
 |[],_,h=>h
 |_::ζ,_,h=>Holds.HR (ζ:=ζ) h.drop
theorem ay.V5 {P:Program} {f:FuncId} {args:Array Value} {r:Fr} {U:List az} {K:Value→List az→Prop} (h:ay P f args r U (aL K)):ay P f args r U (eN K fun _ _=>False) :=
 h.mono fun e ax a=>by
  cases e with
  |returned v=>exact a
  |panicked _=>exact a.elim
  |outgrown=>exact a.elim
section
variable {ro:Option Nat} {P:Program} {fn:Func} {n:Nat} {R:Ending→World→Prop} {ops:Array Oper} {k:List Item} {D:List Deferred} {g:bn}
theorem aJ.weaken {fl:Bool} {l:List Nat} {σ' :List (Nat × Value)} {U:List az} (h:aJ P fn n R ops k D g fl l σ' U):∀ {σ:List (Nat × Value)},Sub σ' σ→aJ P fn n R ops k D g fl l σ U:=by
 have CN:∀ {σ σ' :List (Nat × Value)},Sub σ' σ→∀ {x:Operand} {v:Value},aA σ' x=some v→aA σ x=some v:=by
  intro σ σ' hs x v hx
  cases x with
  |tmp t=>exact hs t v hx
  |const u=>exact hx
  |global g=>exact hx
  |func f=>exact hx
 have Oj:∀ {σ σ' :List (Nat × Value)},Sub σ' σ→∀ {xs:List Operand} {vs:List Value},dX σ' xs=some vs→dX σ xs=some vs:=by
  intro σ σ' hs xs
  induction xs with
  |nil=>intro vs h;exact h
  |cons x xs ih =>
   intro vs h
   simp only [dX] at h ⊢
   split at h
   ·rename_i v us hv qV;cases h;rw [CN hs hv,ih qV]
   ·cases h
 have Ao:∀ {σ σ' :List (Nat × Value)} {ρ:Operand→Value},Sub σ' σ→ni σ ρ→ni σ' ρ:=fun hs hk x v hx=>hk x v (CN hs hx);have C1:∀ {σ σ' :List (Nat × Value)} {i d:Nat} {op:Op},Sub σ' σ→bJ ops i n σ' d op→bJ ops i n σ d op:=by
  intro σ σ' i d op hs hf
  cases hf with
  |p h=>exact .p h
  |g h hl=>exact .g h (hs _ _ hl)
 have ext:∀ {σ σ' :List (Nat × Value)} {d:Nat} {v:Value},Sub σ' σ→Sub ((d,v)::σ') ((d,v)::σ):=by
  intro σ σ' d v hs t u hu
  simp only [look] at hu ⊢
  split at hu
  ·exact hu
  ·exact hs _ _ hu
 induction h with
 |nil h=>intro σ hs;exact .nil (S.weaken hs h)
 |quiet ho hna dw h ih=>intro σ hs;exact .quiet (C1 hs ho) hna (fun U o ρ w h1 h2 h3=>dw U o ρ w h1 (Ao hs h2) h3) (ih (ext hs))
 |no ho hna hl r4 h ih=>intro σ hs;exact .no ho hna (hs _ _ hl) r4 (ih (ext hs))
 |lazy ho hd hz h ih=>intro σ hs;exact .lazy ho hd hz fun b=>ih b (ext hs)
 |lS ho hx hc hv hargs con hp h ih=>intro σ hs;exact .lS (C1 hs ho) (CN hs hx) hc (Oj hs hv) hargs con hp fun v ax hk=>ih v ax hk (ext hs)
 |f_ ho hna dw h ih=>intro σ hs;exact .f_ (C1 hs ho) hna (fun ζ o ρ w h1 h2 h3=>dw ζ o ρ w h1 (Ao hs h2) h3) fun v ax hk=>ih v ax hk (ext hs)
 |mS ho hna dw h ih=>intro σ hs;exact .mS ho hna (fun ζ o ρ w h1 h2 h3=>dw ζ o ρ w h1 (Ao hs h2) h3) (ih hs)
 |q4 ho hna hl dw h=>intro σ hs;exact .q4 ho hna hl (fun o ρ w h1 h2 h3=>dw o ρ w h1 (Ao hs h2) h3) (S.weaken hs h)
 |one hd h ih=>intro σ hs;exact .one hd (ih hs)
 |swap l' hp h ih=>intro σ hs;exact .swap l' hp (ih hs)
 |alt jt hok h ih=>intro σ hs;exact .alt jt hok fun i hi=>ih i hi hs
theorem af.weaken {l:List Nat} {σ' :List (Nat × Value)} {U:List az} (h:af P fn n R ops k D g l σ' U):∀ {σ:List (Nat × Value)},Sub σ' σ→af P fn n R ops k D g l σ U:=aJ.weaken h
def ei (fl:Bool) (ops:Array Oper) (i:Nat) (l:List Nat):Bool:=fl ||eH ops [i] l
theorem aJ.head {fl:Bool} {i:Nat} {l:List Nat} {σ:List (Nat × Value)} {U:List az} (hd:ei fl ops i l=true) (h:aJ P fn n R ops k D g true (i::l) σ U):aJ P fn n R ops k D g fl (i::l) σ U:=by
 cases fl
 ·exact .one (by simpa [ei] using hd) h
 ·exact h
theorem af.e4 {l:List Nat} {σ:List (Nat × Value)} {U:List az} (a b:Nat) (la lb:List Nat) (hok:wD ops [a,b] l=true) (ha:l.erase a=la) (hb:l.erase b=lb)
  (h1:aJ P fn n R ops k D g true (a::la) σ U) (h2:aJ P fn n R ops k D g true (b::lb) σ U):af P fn n R ops k D g l σ U:=by
 subst ha;subst hb;refine .alt [a,b] hok fun i hi=>?_
 rcases List.mem_cons.1 hi with rfl|hi
 ·exact h1
 ·rw [List.mem_singleton.1 hi];exact h2
theorem cO.lS {i d:Nat} {l:List Nat} {σ:List (Nat × Value)} {U ζ:List az} {f:FuncId} {x:Operand} {xs:Array Operand} {ts:Array TypeId} {bH:List Value} {K:Value→List az→Prop} {X:List PanicEntry→List az→Prop} {first cap:Array Value} {args:Array Value}
   (ho:bJ ops i n σ d (.call ⟨.value x,xs,ts⟩)) {fl:Bool} (hd:ei fl ops i l=true) (hx:aA σ x=some (.func (.func f) first cap)) (hc:dG P f=true)
   (hv:dX σ xs.toList=some bH) (hargs:first++bH.toArray++cap=args) (con:ay P f args g.h U (eN K X))
   (hp:∀ (a:Act) ch ax w,X ch ax →Holds w g (ax ++ζ)→eS P fn a.tmps R D (.panicking ch) w) (h:∀ v ax,K v ax →af P fn n R ops k D g l ((d,v)::σ) (ax ++ζ)):aJ P fn n R ops k D g fl (i::l) σ (U++ζ) :=
 aJ.head hd (aJ.lS ho hx hc hv hargs con hp h)
theorem af.lS {i d:Nat} {l:List Nat} {σ:List (Nat × Value)} {U ζ:List az} {f:FuncId} {x:Operand} {xs:Array Operand} {ts:Array TypeId} {bH:List Value} {K:Value→List az→Prop} {X:List PanicEntry→List az→Prop} {first cap:Array Value} {args:Array Value} (ho:bJ ops i n σ d (.call ⟨.value x,xs,ts⟩)) (hd:eH ops [i] l=true) (hx:aA σ x=some (.func (.func f) first cap)) (hc:dG P f=true) (hv:dX σ xs.toList=some bH) (hargs:first++bH.toArray++cap=args) (con:ay P f args g.h U (eN K X)) (hp:∀ (a:Act) ch ax w,X ch ax →Holds w g (ax ++ζ)→eS P fn a.tmps R D (.panicking ch) w) (h:∀ v ax,K v ax →af P fn n R ops k D g l ((d,v)::σ) (ax ++ζ)):af P fn n R ops k D g (i::l) σ (U++ζ):=cO.lS (fl:=false) ho (by simpa [ei] using hd) hx hc hv hargs con hp h
theorem cO.f_ {i d:Nat} {op:Op} {l:List Nat} {σ:List (Nat × Value)} {U:List az} {K:Value→List az→Prop} (ho:bJ ops i n σ d op) (hna:jk op=false) {fl:Bool} (hd:ei fl ops i l=true) (dw:∀ ζ,bF P op σ g (U++ζ) fun v ax =>∃ cW,K v cW∧ax =cW++ζ)
   (h:∀ v ax,K v ax →af P fn n R ops k D g l ((d,v)::σ) ax):aJ P fn n R ops k D g fl (i::l) σ U:=aJ.head hd (aJ.f_ ho hna dw h)
theorem af.f_ {i d:Nat} {op:Op} {l:List Nat} {σ:List (Nat × Value)} {U:List az} {K:Value→List az→Prop} (ho:bJ ops i n σ d op) (hna:jk op=false) (hd:eH ops [i] l=true) (dw:∀ ζ,bF P op σ g (U++ζ) fun v ax =>∃ cW,K v cW∧ax =cW++ζ) (h:∀ v ax,K v ax →af P fn n R ops k D g l ((d,v)::σ) ax):af P fn n R ops k D g (i::l) σ U:=cO.f_ (fl:=false) ho hna (by simpa [ei] using hd) dw h
theorem bT.f_ {i d:Nat} {op:Op} {l:List Nat} {σ:List (Nat × Value)} {U:List az} {K:Value→List az→Prop} (ho:bJ ops i n σ d op) (hna:jk op=false) (_:true=true) (dw:∀ ζ,bF P op σ g (U++ζ) fun v ax =>∃ cW,K v cW∧ax =cW++ζ) (h:∀ v ax,K v ax →af P fn n R ops k D g l ((d,v)::σ) ax):aJ P fn n R ops k D g true (i::l) σ U:=cO.f_ (fl:=true) ho hna rfl dw h
theorem cO.mS {i:Nat} {op:Op} {l:List Nat} {σ:List (Nat × Value)} {U ax :List az} (ho:kf ops i=some op) (hna:jk op=false) {fl:Bool} (hd:ei fl ops i l=true) (dw:∀ ζ,kn P op σ g (U++ζ) (ax ++ζ)) (h:af P fn n R ops k D g l σ ax):aJ P fn n R ops k D g fl (i::l) σ U:=aJ.head hd (aJ.mS ho hna (fun ζ=>(dw ζ).v) h)
theorem cO.call {i d:Nat} {l:List Nat} {σ:List (Nat × Value)} {U ζ:List az} {f:FuncId} {x:Operand} {xs:Array Operand} {ts:Array TypeId} {bH:List Value} {K:Value→List az→Prop} {first cap:Array Value} {args:Array Value}
  (ho:bJ ops i n σ d (.call ⟨.value x,xs,ts⟩)) {fl:Bool} (hd:ei fl ops i l=true) (hx:aA σ x=some (.func (.func f) first cap)) (hc:dG P f=true)
  (hv:dX σ xs.toList=some bH) (hargs:first++bH.toArray++cap=args) (con:ay P f args g.h U (aL K)) (h:∀ v ax,K v ax →af P fn n R ops k D g l ((d,v)::σ) (ax ++ζ)):aJ P fn n R ops k D g fl (i::l) σ (U++ζ) :=
 cO.lS ho hd hx hc hv hargs con.V5 (fun _ _ _ _ hX _=>hX.elim) h
theorem af.dA {l:List Nat} {σ:List (Nat × Value)} {U:List az} {b:Bool} (t:Nat) (hl:look σ t=some (.bool b)) (ht:b=true→af P fn n R ops k D g l ((t,.bool true)::σ) U)
  (hf:b=false→af P fn n R ops k D g l ((t,.bool false)::σ) U):af P fn n R ops k D g l σ U:=by
 cases b
 ·exact (hf rfl).weaken (σ:=σ) (Sub.cons hl Sub.refl)
 ·exact (ht rfl).weaken (σ:=σ) (Sub.cons hl Sub.refl)
theorem af.dK {l:List Nat} {σ:List (Nat × Value)} {U:List az} {p:Prop} [Decidable p] (t:Nat) (hl:look σ t=some (.bool (decide p))) (ht:p→af P fn n R ops k D g l ((t,.bool true)::σ) U)
  (hf:¬p→af P fn n R ops k D g l ((t,.bool false)::σ) U):af P fn n R ops k D g l σ U :=
 af.dA t hl (fun h=>ht (of_decide_eq_true h)) (fun h=>hf (of_decide_eq_false h))
theorem Fg:∀ {l:List Nat},yd l=true→l.Nodup
 |[],_=>.nil
 |i::l,h=>by
  simp only [yd,Bool.and_eq_true,Bool.not_eq_true',List.contains_eq_mem,decide_eq_false_iff_not] at h;exact List.nodup_cons.2 ⟨h.1,Fg h.2⟩
def uR (ops:Array Oper) (listed:Array Bool):Prop :=
 ∀ i o,ops[i]?=some o→listed.getD i true=true→i<ops.size→∀ e∈o.after,binds .any e=true→listed.getD e.on false=true
theorem DF {listed:Array Bool} (hc:uR ops listed) (hs:listed.size=ops.size) (j:Nat):∀ (f i:Nat),(∀ o,ops[i]?=some o→∀ e∈o.after,binds .any e=true→listed.getD e.on false=true)→xb ops j f i=true→listed.getD j false=true
 |0,_,_,h=>by cases h
 |f+1,i,ha,h=>by
  simp only [xb] at h
  cases ho:ops[i]? with
  |none=>rw [ho] at h;cases h
  |some o =>
   rw [ho] at h;obtain ⟨p,hp,hb⟩:=Array.any_eq_true.1 h;simp only [Bool.and_eq_true,Bool.or_eq_true] at hb;have he:=ha o ho o.after[p] (Array.getElem_mem hp) hb.1
   rcases hb.2 with q|q
   ·rwa [Nat.eq_of_beq_eq_true q] at he
   ·refine DF hc hs j f _ (fun o' ho' e' he' hb' =>?_) q
    have hlt:=(Array.getElem?_eq_some_iff.1 ho').1;refine hc _ o' ho' ?_ hlt e' he' hb';simp only [Array.getD_eq_getD_getElem?] at he ⊢;rw [Array.getElem?_eq_getElem (by omega)] at he ⊢
    simpa using he
theorem zo {listed:Array Bool} (hc:uR ops listed) (hs:listed.size=ops.size):∀ (l acc:List Nat),eH ops acc l=true→(∀ c∈acc,listed.getD c false=false) →
  ∀ i∈l,oP ops i=false→i<ops.size→i ∉ ready .any ops listed∧listed.getD i false=false
 |[],_,_,_,_,hi,_,_=>by cases hi
 |j::l,acc,h,hacc,i,hi,hna,hlt=>by
  simp only [eH] at h
  cases hj:oP ops j with
  |true =>
   rw [hj] at h
   rcases List.mem_cons.1 hi with rfl|hi
   ·rw [hj] at hna;cases hna
   ·exact zo hc hs l acc h hacc i hi hna hlt
  |false =>
   rw [hj] at h;simp only [Bool.and_eq_true] at h;obtain ⟨h1,h2⟩:=h
   cases ho:ops[j]? with
   |none=>rw [ho] at h1;cases h1
   |some o =>
    rw [ho] at h1;obtain ⟨p,hp,hb⟩:=Array.any_eq_true.1 h1;have he:o.after[p]∈o.after:=Array.getElem_mem hp;generalize o.after[p]=e at hb he;simp only [Bool.and_eq_true,List.contains_eq_mem,decide_eq_true_eq] at hb;have hun:=hacc e.on hb.2;have tL:j<ops.size:=(Array.getElem?_eq_some_iff.1 ho).1;have key:j ∉ ready .any ops listed∧listed.getD j false=false:=by
     constructor
     ·intro hr
      obtain ⟨_,o',ho',hall⟩:=mem_ready.1 hr;rw [ho] at ho';cases ho';rw [hall e he hb.1] at hun;cases hun
     ·cases hl:listed.getD j false with
      |false=>rfl
      |true =>
       have hl' :listed.getD j true=true:=by
        simp only [Array.getD_eq_getD_getElem?] at hl ⊢
        cases hx:listed[j]? with
        |none=>simp
        |some y=>rw [hx] at hl;simpa using hl
       rw [hc j o ho hl' tL e he hb.1] at hun;cases hun
    rcases List.mem_cons.1 hi with rfl|hi
    ·exact key
    ·refine zo hc hs l (j::acc) h2 ?_ i hi hna hlt
     intro c hcm
     rcases List.mem_cons.1 hcm with rfl|hcm
     ·exact key.2
     ·exact hacc c hcm
def oM (ops:Array Oper) (o:Oper) (σ:List (Nat × Value)) (a:Act):Prop:=∀ t∈pR ops o,∀ u,look σ t=some u→a.tmps[t]?=some u
theorem oM.vY {o:Oper} {σ:List (Nat × Value)} {a:Act} (hs:∀ cs b,o.op≠.select cs b) (h:oM ops o σ a):∃ ρ,ni σ ρ∧execOp a.eval o=execOp ρ o∧∀ x∈o.op.operands,a.eval x=ρ x:=by
 have key:∀ x∈o.op.operands,a.eval x=(aA σ x).getD (a.eval x):=by
  intro x hx
  cases hv:aA σ x with
  |none=>rfl
  |some v =>
   cases x with
   |tmp t =>
    have ht:t∈pR ops o:=List.mem_append_left _ (List.mem_filterMap.2 ⟨.tmp t,by simpa using hx,rfl⟩);have:=h t ht v hv
    simp [Act.eval,Array.getD_eq_getD_getElem?,this]
   |const u=>simpa [aA,Act.eval] using hv
   |global g=>simpa [aA,Act.eval] using hv
   |func f=>simpa [aA,Act.eval] using hv
 exact ⟨fun x=>(aA σ x).getD (a.eval x),fun x v hv=>by simp [hv],execOp_congr o hs key,key⟩
theorem bJ.at {i d:Nat} {σ:List (Nat × Value)} {op:Op} (h:bJ ops i n σ d op) :
  ∃ o,ops[i]?=some o∧o.dst=some d∧o.op=op∧Nat.blt d n=true∧∀ a,oM ops o σ a→Region.wanted o (yielded ops a.tmps)=true:=by
 cases h with
 |p h =>
  obtain ⟨o,h1,h2,h3,h4,h5⟩:=AJ h;exact ⟨o,h1,h2,h3,h5,fun a _=>by simp [Region.wanted,h4]⟩
 |g h hl =>
  obtain ⟨o,j,oj,hi,eB,hop,hg,hj,ht,hb⟩:=sv h;refine ⟨o,hi,eB,hop,hb,fun a ha=>?_⟩;have:=ha _ (List.mem_append_right _ (by simp only [hg,hj,ht];exact List.mem_singleton.2 rfl)) _ hl
  simp [Region.wanted,hg,yielded,hj,ht,this]
def nj (P:Program) (ops:Array Oper) (n:Nat) (_:List Deferred) (g:bn) (σ:List (Nat × Value)) (i:Nat):Prop :=
 ∃ o d v,ops[i]?=some o∧o.dst=some d∧Nat.blt d n=true∧look σ d=some v ∧
  ∀ (a:Act) (w:World) (U:List az) (uS:Act→World→Prop) (Q:Exit→Act→World→Prop),Holds w g U→oM ops o σ a →
   (∀ w',Holds w' g U→uS (a.put (some d) v) w')→wpOp P ops Q i uS a w
theorem vJ {d t:Nat} {v:Value} {σ:List (Nat × Value)} (h:t≠d):look ((d,v)::σ) t=look σ t:=by
 simp only [look]
 split
 ·rename_i hb;exact (h (Nat.eq_of_beq_eq_true hb).symm).elim
 ·rfl
theorem look_eq {d:Nat} {v:Value} {σ:List (Nat × Value)}:look ((d,v)::σ) d=some v:=by simp [look]
theorem oM.ext {o:Oper} {σ:List (Nat × Value)} {a:Act} {d:Nat} {v:Value} (hn:d ∉ pR ops o):oM ops o ((d,v)::σ) a↔oM ops o σ a:=by
 constructor
 ·intro h t ht u hu;exact h t ht u (by rw [vJ (by rintro rfl;exact hn ht)];exact hu)
 ·intro h t ht u hu;exact h t ht u (by rwa [vJ (by rintro rfl;exact hn ht)] at hu)
theorem nj.ext {σ:List (Nat × Value)} {i d:Nat} {v:Value} (h:nj P ops n D g σ i) (hn:∀ o,ops[i]?=some o→d ∉ pR ops o∧o.dst≠some d):nj P ops n D g ((d,v)::σ) i:=by
 obtain ⟨o,d',v',h1,h2,h3,h4,h5⟩:=h;obtain ⟨n1,n2⟩:=hn o h1;have hne:d' ≠d:=by rintro rfl;exact n2 h2
 exact ⟨o,d',v',h1,h2,h3,by rw [vJ hne];exact h4,fun a w U uS Q hw ha hk=>h5 a w U uS Q hw ((oM.ext n1).1 ha) hk⟩
theorem nj.quiet {i d:Nat} {op:Op} {v:Value} {σ:List (Nat × Value)} (hsel:Region.noSelect ops=true) (ho:bJ ops i n σ d op) (dw:∀ U,aG P op σ g U v U)
  (hn:∀ o,ops[i]?=some o→d ∉ pR ops o):nj P ops n D g ((d,v)::σ) i:=by
 obtain ⟨o,hi,eB,hop,hb,hw⟩:=ho.at;refine ⟨o,d,v,hi,eB,hb,look_eq,fun a w U uS Q hh ha hk=>?_⟩;have ha:=(oM.ext (hn o hi)).1 ha;obtain ⟨ρ,hkn,he,_⟩:=ha.vY (fun cs b=>Region.noSelect_spec hsel i o cs b hi);obtain ⟨w',hrun,hw'⟩:=dw U o ρ w hop hkn hh;simp only [wpOp,hi,hw a ha,if_true];refine .inl ?_;unfold Oper.wp;rw [he,hrun,Oper.upon_value,eB];exact hk w' hw'
theorem nj.no {i d t:Nat} {op:Op} {b:Bool} {σ:List (Nat × Value)} {v:Value} (ho:su ops i n=some (d,op,t,b)) (hl:look σ t=some v) (r4:q8 b v=true)
  (hn:∀ o,ops[i]?=some o→d ∉ pR ops o):nj P ops n D g ((d,undef)::σ) i:=by
 obtain ⟨o,j,oj,hi,eB,hop,hg,hj,ht,hb⟩:=sv ho;refine ⟨o,d,undef,hi,eB,hb,look_eq,fun a w U uS Q hh ha hk=>?_⟩;have ha:=(oM.ext (hn o hi)).1 ha;have:=ha _ (List.mem_append_right _ (by simp only [hg,hj,ht];exact List.mem_singleton.2 rfl)) _ hl;have hw:Region.wanted o (yielded ops a.tmps)=false:=by
  cases v<;>simp [Region.wanted,hg,yielded,hj,ht,this]
  cases b<;>simp_all [q8]
 simp only [wpOp,hi,hw,Bool.false_eq_true,if_false,eB];exact hk w hh
def mG (P:Program) (ops:Array Oper) (x:Nat × Nat):az :=
 match ops[x.1]? with
 |some o=>match o.op with|.alloc T=>obj x.2 T (((zeroOf P T).map (·.cells.toList)).getD [])|_=>fun _=>True
 |none=>fun _=>True
structure Inv (P:Program) (ops:Array Oper) (n:Nat) (D:List Deferred) (g:bn) (listed:Array Bool) (bf l0:List Nat) (σ:List (Nat × Value)) (U:List az) (a:Act) (w:World) (X:List (Nat × Nat)):Prop where
 size:listed.size=ops.size
 closed:uR ops listed
 x1:∀ x∈X,x.1∈l0∧listed.getD x.1 false=true∧∃ o d,ops[x.1]?=some o∧jk o.op=true∧o.dst=some d∧a.tmps[d]?=some (.pointer (some ⟨x.2,0,none⟩))
 cI:∀ i∈l0,listed.getD i false=true→∃ b,(i,b)∈X
 xn:(X.map (·.1)).Nodup
 sy:∀ i∈bf,listed.getD i false=false→nj P ops n D g σ i
 len:a.tmps.size=n
 defers:a.defers=D
 dD:∀ j∈bf,listed.getD j false=false→nW ops j=true
 frame:∀ t v,look σ t=some v→(∀ j o,ops[j]?=some o→o.dst=some t→(listed.getD j false=true↔j∈bf))→a.tmps[t]?=some v
 holds:Holds w g (X.map (mG P ops)++U)
structure Ok (P:Program) (n:Nat) (ops:Array Oper) (l0:List Nat):Prop where
 nodup:l0.Nodup
 all:∀ i,i<ops.size→i∈l0
 lt:∀ i∈l0,i<ops.size
 after:∀ (bf:List Nat) (i:Nat) (l:List Nat),l0=bf++i::l→∀ o,ops[i]?=some o→∀ e∈o.after,binds .any e=true→e.on∈bf
 reads:∀ (i:Nat) (o:Oper) (j:Nat) (oj:Oper) (d:Nat),ops[i]?=some o→ops[j]?=some oj→oj.dst=some d→d∈pR ops o→(∃ e∈o.after,binds .any e=true∧e.on=j)∨∃ e∈oj.after,binds .any e=true∧e.on=i
 dst:∀ (i:Nat) (o:Oper) (j:Nat) (oj:Oper) (d:Nat),ops[i]?=some o→ops[j]?=some oj→o.dst=some d→oj.dst=some d→i=j
 cB:Region.noSelect ops=true
 alloc:∀ (i:Nat) (o:Oper) (T:TypeId),ops[i]?=some o→o.op=.alloc T→(∃ z,zeroOf P T=some z)∧o.guard=none∧∃ d,o.dst=some d∧Nat.blt d n=true
 F5:∀ i,oP ops i=true→nW ops i=true
 Bt:∀ (bf:List Nat) (i:Nat) (l:List Nat),l0=bf++i::l→l≠[]→nW ops i=true
theorem GR:∀ (l bf:List Nat),yZ ops bf l=true→∀ pre i post,l=pre++i::post→∀ o,ops[i]?=some o→∀ e∈o.after,binds .any e=true→e.on∈bf∨e.on∈pre
 |[],_,_,pre,i,post,h,_,_,_,_,_=>by cases pre<;>cases h
 |j::l,bf,h,pre,i,post,hl,o,ho,e,he,hb=>by
  simp only [yZ,Bool.and_eq_true] at h
  cases pre with
  |nil =>
   simp only [List.nil_append,List.cons.injEq] at hl;obtain ⟨rfl,rfl⟩:=hl;have h1:=h.1;rw [ho] at h1;have:=Array.all_eq_true_iff_forall_mem.1 h1 e he
   simp [hb] at this
   exact .inl this
  |cons p pre =>
   simp only [List.cons_append,List.cons.injEq] at hl;obtain ⟨rfl,rfl⟩:=hl
   rcases GR _ (j::bf) h.2 pre i post rfl o ho e he hb with h|h
   ·rcases List.mem_cons.1 h with h|h
    ·exact .inr (List.mem_cons.2 (.inl h))
    ·exact .inl h
   ·exact .inr (List.mem_cons_of_mem _ h)
theorem Ux {l0:List Nat} (h:AK P n ops l0=true):Ok P n ops l0:=by
 simp only [AK,Bool.and_eq_true,List.all_eq_true,decide_eq_true_eq] at h;obtain ⟨⟨⟨⟨⟨⟨⟨⟨h1,h2⟩,h3⟩,h4⟩,h5⟩,h6⟩,h7⟩,h8⟩,h9⟩:=h;simp only [GW,Bool.and_eq_true] at h8;obtain ⟨OQ,h8⟩:=h8;have dy:=Fg h1;refine ⟨dy,?_,h3,?_,?_,?_,h7,?_,?_,?_⟩
 ·intro i hi
  simpa using h2 i (List.mem_range.2 hi)
 ·intro bf i l hl o ho e he hb
  rcases GR l0 [] h4 bf i l hl o ho e he hb with h|h
  ·cases h
  ·exact h
 ·intro i o j oj d ho l6 hd hm
  have hi:i<ops.size:=(Array.getElem?_eq_some_iff.1 ho).1;have hj:j<ops.size:=(Array.getElem?_eq_some_iff.1 l6).1;have:=List.all_eq_true.1 h5 i (List.mem_range.2 hi);rw [ho] at this;have:=List.all_eq_true.1 (List.all_eq_true.1 this d hm) j (List.mem_range.2 hj);simp only [l6,hd,bne_self_eq_false,Bool.false_or,Bool.or_eq_true] at this
  rcases this with this|this
  ·obtain ⟨p,hp,hb⟩:=Array.any_eq_true.1 this
   simp only [Bool.and_eq_true,beq_iff_eq] at hb;exact .inl ⟨o.after[p],Array.getElem_mem hp,hb.1,hb.2⟩
  ·obtain ⟨p,hp,hb⟩:=Array.any_eq_true.1 this
   simp only [Bool.and_eq_true,beq_iff_eq] at hb;exact .inr ⟨oj.after[p],Array.getElem_mem hp,hb.1,hb.2⟩
 ·intro i o j oj d ho l6 hd hdj
  have hi:i<ops.size:=(Array.getElem?_eq_some_iff.1 ho).1;have hj:j<ops.size:=(Array.getElem?_eq_some_iff.1 l6).1;have:=List.all_eq_true.1 (List.all_eq_true.1 h6 i (List.mem_range.2 hi)) j (List.mem_range.2 hj);simp only [ho,l6,hd,hdj] at this
  simpa using this
 ·intro i o T ho hT
  have:=Array.all_eq_true_iff_forall_mem.1 h8 o (Array.mem_of_getElem? ho);rw [hT] at this;simp only [Bool.and_eq_true,Option.isSome_iff_exists,Option.isNone_iff_eq_none] at this;obtain ⟨⟨h1,h2⟩,h3⟩:=this;refine ⟨h1,h2,?_⟩
  cases hd:o.dst with
  |none=>rw [hd] at h3;cases h3
  |some d=>rw [hd] at h3;exact ⟨d,rfl,h3⟩
 ·intro i hi
  by_cases hlt:i<ops.size
  ·have:=List.all_eq_true.1 OQ i (List.mem_range.2 hlt)
   simpa [hi] using this
  ·simp [nW,Array.getElem?_eq_none (Nat.le_of_not_lt hlt)]
 ·intro bf i l hl hne
  refine h9 i ?_;rw [hl,List.dropLast_append_of_ne_nil (by simp),List.dropLast_cons_of_ne_nil hne];simp
theorem LH {i:Nat} {oi:Oper} {d:Nat} (h:nW ops i=true) (hi:ops[i]?=some oi) (hd:oi.dst=some d):∀ (j:Nat) (o:Oper),ops[j]?=some o→d∈pR ops o→∃ e∈o.after,binds .any e=true∧e.on=i:=by
 intro j o ho hm
 simp only [nW,hi,hd] at h;have:=List.all_eq_true.1 h j (List.mem_range.2 (Array.getElem?_eq_some_iff.1 ho).1);simp only [ho,List.contains_eq_mem,Bool.or_eq_true,Bool.not_eq_true',decide_eq_false_iff_not,hm,not_true_eq_false,false_or] at this;obtain ⟨p,hp,hb⟩:=Array.any_eq_true.1 this;simp only [Bool.and_eq_true,beq_iff_eq] at hb;exact ⟨o.after[p],Array.getElem_mem hp,hb.1,hb.2⟩
theorem mL {listed:Array Bool} {i:Nat} (hi:i<listed.size) (b c:Bool):listed.getD i b=listed.getD i c:=by
 simp [Array.getD_eq_getD_getElem?,hi]
theorem Ok.fresh {l0 bf l:List Nat} {i:Nat} (hok:Ok P n ops l0) (hst:nW ops i=true) (hl:l0=bf++i::l) {oi:Oper} {d:Nat} (hi:ops[i]?=some oi) (hd:oi.dst=some d) :
  ∀ j o,j∈bf∨j=i→ops[j]?=some o→d ∉ pR ops o:=by
 intro j o hj ho hm
 obtain ⟨e,he,hb,kW⟩:=LH hst hi hd j o ho hm;have dy:=hok.nodup;rw [hl] at dy;have hin:i∈bf:=by
  rcases hj with hj|rfl
  ·obtain ⟨p,q,rfl⟩:=List.append_of_mem hj
   have:=hok.after p j (q++i::l) (by rw [hl];simp) o ho e he hb;rw [kW] at this
   simp [this]
  ·have:=hok.after bf j l hl o ho e he hb
   rwa [kW] at this
 rw [List.nodup_append] at dy;exact dy.2.2 i hin i (by simp) rfl
theorem uR.set {listed:Array Bool} {i:Nat} {o:Oper} (hc:uR ops listed) (ho:ops[i]?=some o) (hr:i∈ready .any ops listed):uR ops (listed.setIfInBounds i true):=by
 intro j oj hj hl hlt e he hb
 by_cases hij:i=j
 ·subst hij
  rw [ho] at hj;cases hj;obtain ⟨_,o',ho',hall⟩:=mem_ready.1 hr;rw [ho] at ho';cases ho';exact getD_set_true (hall e he hb)
 ·rw [getD_set_ne true hij] at hl
  exact getD_set_true (hc j oj hj hl hlt e he hb)
theorem Inv.done {listed:Array Bool} {bf l0:List Nat} {σ:List (Nat × Value)} {U:List az} {a:Act} {w w' :World} {X:List (Nat × Nat)} {i d:Nat} {o:Oper} {v:Value} {L:List Nat} (hok:Ok P n ops L) (hL:L=bf++l0)
  (hv:Inv P ops n D g listed bf l0 σ U a w X) (hr:i∈ready .any ops listed) (hi:ops[i]?=some o) (hd:o.dst=some d) (hb:Nat.blt d n=true) (hm:i∈bf) (hl:look σ d=some v)
  (hw:Holds w' g (X.map (mG P ops)++U)):Inv P ops n D g (listed.setIfInBounds i true) bf l0 σ U (a.put (some d) v) w' X:=by
 have hdn:Nat.blt d n=true:=hb;have hdl:d<a.tmps.size:=by rw [hv.len];exact of_decide_eq_true (by simpa [Nat.blt_eq] using hdn)
 have j7:i<listed.size:=by rw [hv.size];exact (Array.getElem?_eq_some_iff.1 hi).1
 have dy:=hok.nodup;rw [hL,List.nodup_append] at dy;have tJ:∀ t,t≠d→(a.put (some d) v).tmps[t]?=a.tmps[t]?:=fun t ht=>by simp [Act.put,Array.getElem?_setIfInBounds_ne (Ne.symm ht)]
 refine ⟨by simp [hv.size],hv.closed.set hi hr,?_,?_,hv.xn,?_,by simp [Act.put,hv.len],by simpa [Act.put] using hv.defers,?_,?_,hw⟩
 ·intro x hx
  obtain ⟨h1,h2,o',d',h3,h4,h5,h6⟩:=hv.x1 x hx;refine ⟨h1,getD_set_true h2,o',d',h3,h4,h5,?_⟩;rw [tJ d' ?_];exact h6;rintro rfl;have:=hok.dst x.1 o' i o d' h3 hi h5 hd;rw [this] at h1;exact dy.2.2 i hm i h1 rfl
 ·intro j hj hlj
  have hij:i≠j:=by rintro rfl;exact dy.2.2 i hm i hj rfl
  rw [getD_set_ne false hij] at hlj;exact hv.cI j hj hlj
 ·intro j hj hlj
  by_cases hij:i=j
  ·subst hij
   simp [j7] at hlj
  ·rw [getD_set_ne false hij] at hlj
   exact hv.sy j hj hlj
 ·intro j hj hlj
  by_cases hij:i=j
  ·subst hij
   simp [j7] at hlj
  ·rw [getD_set_ne false hij] at hlj
   exact hv.dD j hj hlj
 ·intro t u hu hall
  by_cases ht:t=d
  ·subst ht
   rw [hl] at hu;cases hu
   simp [Act.put,Array.getElem?_setIfInBounds_self_of_lt hdl]
  ·rw [tJ t ht]
   refine hv.frame t u hu fun j oj hj hdj=>?_;have q1:=hall j oj hj hdj;have hij:i≠j:=by rintro rfl;rw [hi] at hj;cases hj;rw [hd] at hdj;cases hdj;exact ht rfl
   rwa [getD_set_ne false hij] at q1
theorem Inv.wait {listed:Array Bool} {bf l:List Nat} {σ:List (Nat × Value)} {U:List az} {a:Act} {w:World} {X:List (Nat × Nat)} {i d:Nat} {o:Oper} {v:Value} {L:List Nat} (hok:Ok P n ops L) (hL:L=bf++i::l)
  (hst:nW ops i=true)
  (hv:Inv P ops n D g listed bf (i::l) σ U a w X) (hi:ops[i]?=some o) (hd:o.dst=some d) (hu:listed.getD i false=false) (hp:nj P ops n D g ((d,v)::σ) i) :
  Inv P ops n D g listed (bf++[i]) l ((d,v)::σ) U a w X:=by
 have hfr:=hok.fresh hst hL hi hd;refine ⟨hv.size,hv.closed,?_,fun j hj=>hv.cI j (List.mem_cons_of_mem _ hj),hv.xn,?_,hv.len,hv.defers,?_,?_,hv.holds⟩
 ·intro x hx
  obtain ⟨h1,h2,h3⟩:=hv.x1 x hx
  rcases List.mem_cons.1 h1 with h|h
  ·rw [h] at h2;rw [hu] at h2;cases h2
  ·exact ⟨h,h2,h3⟩
 ·intro j hj hlj
  rcases List.mem_append.1 hj with hj' |hj
  ·refine (hv.sy j hj' hlj).ext fun oj l6=>⟨hfr j oj (.inl hj') l6,fun h=>?_⟩
   have:=hok.dst j oj i o d l6 hi h hd;subst this;have dy:=hok.nodup;rw [hL,List.nodup_append] at dy;exact dy.2.2 j hj' j (by simp) rfl
  ·rw [List.mem_singleton.1 hj];exact hp
 ·intro j hj hlj
  rcases List.mem_append.1 hj with hj' |hj
  ·exact hv.dD j hj' hlj
  ·rw [List.mem_singleton.1 hj];exact hst
 ·intro t u ht hall
  by_cases me:t=d
  ·subst me
   have:=(hall i o hi hd).2 (by simp);rw [hu] at this;cases this
  ·rw [vJ me] at ht
   refine hv.frame t u ht fun j oj hj hdj=>?_;have q1:=hall j oj hj hdj;have hij:j≠i:=by rintro rfl;rw [hi] at hj;cases hj;rw [hd] at hdj;cases hdj;exact me rfl
   simpa [hij] using q1
theorem Inv.meet {listed:Array Bool} {bf l:List Nat} {σ:List (Nat × Value)} {U:List az} {a:Act} {w:World} {X:List (Nat × Nat)} {i d b:Nat} {o:Oper} {T:TypeId} {z:Value} {L:List Nat} (hok:Ok P n ops L) (hL:L=bf++i::l)
  (hv:Inv P ops n D g listed bf (i::l) σ U a w X) (hi:ops[i]?=some o) (hd:o.dst=some d) (hop:o.op=.alloc T) (hz:zeroOf P T=some z) (hx:(i,b)∈X) :
  ∃ X',Inv P ops n D g listed (bf++[i]) l ((d,.pointer (some ⟨b,0,none⟩))::σ) (obj b T z.cells.toList::U) a w X' :=by
 obtain ⟨GO,GP,rfl⟩:=List.append_of_mem hx;have hfr:=hok.fresh (hok.F5 i (by simp [oP,hi,hop,jk])) hL hi hd;have dy:=hok.nodup;rw [hL,List.nodup_append] at dy;have vE:=hv.xn;simp only [List.map_append,List.map_cons,List.nodup_append,List.nodup_cons] at vE;refine ⟨GO++GP,hv.size,hv.closed,?_,?_,?_,?_,hv.len,hv.defers,?_,?_,?_⟩
 ·intro x ER
  have Rw :x∈GO++(i,b)::GP:=by simp only [List.mem_append,List.mem_cons] at ER ⊢;rcases ER with h|h<;>simp [h]
  obtain ⟨h1,h2,h3⟩:=hv.x1 x Rw;refine ⟨?_,h2,h3⟩
  rcases List.mem_cons.1 h1 with h|h
  ·exfalso
   rcases List.mem_append.1 ER with q|q
   ·exact vE.2.2 _ (List.mem_map.2 ⟨x,q,rfl⟩) i (by simp) h
   ·exact vE.2.1.1 (h ▸ List.mem_map.2 ⟨x,q,rfl⟩)
  ·exact h
 ·intro j hj hlj
  obtain ⟨b',hb'⟩:=hv.cI j (List.mem_cons_of_mem _ hj) hlj;refine ⟨b',?_⟩;simp only [List.mem_append,List.mem_cons] at hb' ⊢
  rcases hb' with h|h|h
  ·exact .inl h
  ·cases h;exact ((List.nodup_cons.1 dy.2.1).1 hj).elim
  ·exact .inr h
 ·simp only [List.map_append,List.nodup_append]
  exact ⟨vE.1,vE.2.1.2,fun p hp q hq=>vE.2.2 p hp q (List.mem_cons_of_mem _ hq)⟩
 ·intro j hj hlj
  rcases List.mem_append.1 hj with hj' |hj
  ·refine (hv.sy j hj' hlj).ext fun oj l6=>⟨hfr j oj (.inl hj') l6,fun h=>?_⟩
   have:=hok.dst j oj i o d l6 hi h hd;subst this;exact dy.2.2 j hj' j (by simp) rfl
  ·rw [List.mem_singleton.1 hj] at hlj
   rw [(hv.x1 _ hx).2.1] at hlj;cases hlj
 ·intro j hj hlj
  rcases List.mem_append.1 hj with hj' |hj
  ·exact hv.dD j hj' hlj
  ·rw [List.mem_singleton.1 hj] at hlj
   rw [(hv.x1 _ hx).2.1] at hlj;cases hlj
 ·intro t u ht hall
  by_cases me:t=d
  ·subst me
   rw [look_eq] at ht;cases ht;obtain ⟨_,_,o',d',h3,_,h5,h6⟩:=hv.x1 _ hx;rw [hi] at h3;cases h3;rw [hd] at h5;cases h5;exact h6
  ·rw [vJ me] at ht
   refine hv.frame t u ht fun j oj hj hdj=>?_;have q1:=hall j oj hj hdj;have hij:j≠i:=by rintro rfl;rw [hi] at hj;cases hj;rw [hd] at hdj;cases hdj;exact me rfl
   simpa [hij] using q1
 ·have e:mG P ops (i,b)=obj b T z.cells.toList:=by simp [mG,hi,hop,hz]
  refine hv.holds.perm ?_;simp only [List.map_append,List.map_cons,e,List.append_assoc,List.cons_append];exact List.Perm.append_left _ List.perm_middle.symm
theorem Inv.step {listed:Array Bool} {bf l:List Nat} {σ σ' :List (Nat × Value)} {U ax :List az} {a a' :Act} {w w' :World} {X:List (Nat × Nat)} {i:Nat} {o:Oper} {L:List Nat} (hok:Ok P n ops L) (hL:L=bf++i::l)
  (hv:Inv P ops n D g listed bf (i::l) σ U a w X) (hr:i∈ready .any ops listed) (hi:ops[i]?=some o)
  (hd:(o.dst=none∧σ' =σ∧a' =a)∨∃ d v,o.dst=some d∧Nat.blt d n=true∧σ' =(d,v)::σ∧a' =a.put (some d) v)
  (hw:Holds w' g (X.map (mG P ops)++ax)):Inv P ops n D g (listed.setIfInBounds i true) (bf++[i]) l σ' ax a' w' X:=by
 have j7:i<listed.size:=by rw [hv.size];exact (Array.getElem?_eq_some_iff.1 hi).1
 have hu:listed.getD i false=false:=by rw [mL j7 false true];exact (mem_ready.1 hr).1
 have dy:=hok.nodup;rw [hL,List.nodup_append] at dy;have hni:i ∉ l:=(List.nodup_cons.1 dy.2.1).1;have hx1:∀ x∈X,x.1∈l:=fun x hx=>by
  obtain ⟨h1,h2,_⟩:=hv.x1 x hx
  rcases List.mem_cons.1 h1 with h|h
  ·rw [h,hu] at h2;cases h2
  ·exact h
 refine ⟨by simp [hv.size],hv.closed.set hi hr,?_,?_,hv.xn,?_,?_,?_,?_,?_,hw⟩
 ·intro x hx
  obtain ⟨h1,h2,o',d',h3,h4,h5,h6⟩:=hv.x1 x hx;refine ⟨hx1 x hx,getD_set_true h2,o',d',h3,h4,h5,?_⟩
  rcases hd with ⟨_,_,rfl⟩|⟨d,v,hd,hb,_,rfl⟩
  ·exact h6
  ·have:d' ≠d:=by
    rintro rfl;have:=hok.dst x.1 o' i o d' h3 hi h5 hd;exact hni (this ▸ hx1 x hx)
   simp only [Act.put,Array.getElem?_setIfInBounds_ne (Ne.symm this)];exact h6
 ·intro j hj hlj
  have hij:i≠j:=by rintro rfl;exact hni hj
  rw [getD_set_ne false hij] at hlj;exact hv.cI j (List.mem_cons_of_mem _ hj) hlj
 ·intro j hj hlj
  have hij:i≠j:=by rintro rfl;simp [j7] at hlj
  rw [getD_set_ne false hij] at hlj;have vA:j∈bf:=by
   rcases List.mem_append.1 hj with h|h
   ·exact h
   ·exact (hij (List.mem_singleton.1 h).symm).elim
  have hp:=hv.sy j vA hlj
  rcases hd with ⟨_,rfl,_⟩|⟨d,v,hd,hb,rfl,_⟩
  ·exact hp
  ·refine hp.ext fun oj l6=>⟨fun hm=>?_,fun h=>?_⟩
   ·rcases hok.reads j oj i o d l6 hi hd hm with ⟨e,he,hb,kW⟩|⟨e,he,hb,kW⟩
    ·obtain ⟨p,q,rfl⟩:=List.append_of_mem vA
     have:=hok.after p j (q++i::l) (by rw [hL];simp) oj l6 e he hb;rw [kW] at this;exact dy.2.2 i (by simp [this]) i (by simp) rfl
    ·obtain ⟨_,o',ho',hall⟩:=mem_ready.1 hr
     rw [hi] at ho';cases ho';have:=hall e he hb;rw [kW,hlj] at this;cases this
   ·have:=hok.dst j oj i o d l6 hi h hd
    exact hij this.symm
 ·rcases hd with ⟨_,_,rfl⟩|⟨d,v,hd,hb,_,rfl⟩
  ·exact hv.len
  ·simp [Act.put,hv.len]
 ·rcases hd with ⟨_,_,rfl⟩|⟨d,v,hd,hb,_,rfl⟩
  ·exact hv.defers
  ·simpa [Act.put] using hv.defers
 ·intro j hj hlj
  have hij:i≠j:=by rintro rfl;simp [j7] at hlj
  rw [getD_set_ne false hij] at hlj
  rcases List.mem_append.1 hj with h|h
  ·exact hv.dD j h hlj
  ·exact (hij (List.mem_singleton.1 h).symm).elim
 ·intro t u ht hall
  have hsub:∀ j oj,ops[j]?=some oj→oj.dst=some t→i≠j→(listed.getD j false=true↔j∈bf):=fun j oj hj hdj hij=>by
   have q1:=hall j oj hj hdj;rw [getD_set_ne false hij] at q1
   simpa [Ne.symm hij] using q1
  rcases hd with ⟨hn,rfl,rfl⟩|⟨d,v,hd,hb,rfl,rfl⟩
  ·exact hv.frame t u ht fun j oj hj hdj=>hsub j oj hj hdj (by rintro rfl;rw [hi] at hj;cases hj;rw [hn] at hdj;cases hdj)
  ·have hdl:d<a.tmps.size:=by rw [hv.len];exact of_decide_eq_true (by simpa [Nat.blt_eq] using hb)
   by_cases me:t=d
   ·subst me
    rw [look_eq] at ht;cases ht
    simp [Act.put,Array.getElem?_setIfInBounds_self_of_lt hdl]
   ·rw [vJ me] at ht
    simp only [Act.put,Array.getElem?_setIfInBounds_ne (Ne.symm me)];exact hv.frame t u ht fun j oj hj hdj=>hsub j oj hj hdj (by rintro rfl;rw [hi] at hj;cases hj;rw [hd] at hdj;cases hdj;exact me rfl)
theorem Inv.early {listed:Array Bool} {bf l0:List Nat} {σ:List (Nat × Value)} {U:List az} {a:Act} {w:World} {X:List (Nat × Nat)} {i d:Nat} {o:Oper} {T:TypeId} {z:Value} {L:List Nat} (hok:Ok P n ops L) (hL:L=bf++l0)
  (hv:Inv P ops n D g listed bf l0 σ U a w X) (hr:i∈ready .any ops listed) (hm:i∈l0) (hi:ops[i]?=some o) (hop:o.op=.alloc T) (hz:zeroOf P T=some z) (hd:o.dst=some d) (hb:Nat.blt d n=true) :
  Inv P ops n D g (listed.setIfInBounds i true) bf l0 σ U (a.put (some d) (.pointer (some ⟨w.heap.size,0,none⟩))) (w.alloc (.cells z.cells T)) ((i,w.heap.size)::X):=by
 have j7:i<listed.size:=by rw [hv.size];exact (Array.getElem?_eq_some_iff.1 hi).1
 have hu:listed.getD i false=false:=by rw [mL j7 false true];exact (mem_ready.1 hr).1
 have hdl:d<a.tmps.size:=by rw [hv.len];exact of_decide_eq_true (by simpa [Nat.blt_eq] using hb)
 have dy:=hok.nodup;rw [hL,List.nodup_append] at dy;have qX:∀ x∈X,x.1≠i:=fun x hx h=>by
  obtain ⟨_,h2,_⟩:=hv.x1 x hx;rw [h,hu] at h2;cases h2
 refine ⟨by simp [hv.size],hv.closed.set hi hr,?_,?_,?_,?_,by simp [Act.put,hv.len],by simpa [Act.put] using hv.defers,?_,?_,?_⟩
 ·intro x hx
  rcases List.mem_cons.1 hx with rfl|hx
  ·exact ⟨hm,by simp [j7],o,d,hi,by simp [hop,jk],hd,by simp [Act.put,Array.getElem?_setIfInBounds_self_of_lt hdl]⟩
  ·obtain ⟨h1,h2,o',d',h3,h4,h5,h6⟩:=hv.x1 x hx
   refine ⟨h1,getD_set_true h2,o',d',h3,h4,h5,?_⟩;have:d' ≠d:=by
    rintro rfl;exact qX x hx (hok.dst x.1 o' i o d' h3 hi h5 hd)
   simp only [Act.put,Array.getElem?_setIfInBounds_ne (Ne.symm this)];exact h6
 ·intro j hj hlj
  by_cases hij:i=j
  ·subst hij;exact ⟨_,List.mem_cons_self ..⟩
  ·rw [getD_set_ne false hij] at hlj
   obtain ⟨b,hb⟩:=hv.cI j hj hlj;exact ⟨b,List.mem_cons_of_mem _ hb⟩
 ·simp only [List.map_cons,List.nodup_cons]
  refine ⟨fun h=>?_,hv.xn⟩;obtain ⟨x,hx,Ru⟩:=List.mem_map.1 h;exact qX x hx Ru
 ·intro j hj hlj
  have hij:i≠j:=by rintro rfl;simp [j7] at hlj
  rw [getD_set_ne false hij] at hlj;exact hv.sy j hj hlj
 ·intro j hj hlj
  have hij:i≠j:=by rintro rfl;simp [j7] at hlj
  rw [getD_set_ne false hij] at hlj;exact hv.dD j hj hlj
 ·intro t u ht hall
  have me:t≠d:=by
   rintro rfl;exact dy.2.2 i ((hall i o hi hd).1 (by simp [j7])) i hm rfl
  simp only [Act.put,Array.getElem?_setIfInBounds_ne (Ne.symm me)];refine hv.frame t u ht fun j oj hj hdj=>?_;have q1:=hall j oj hj hdj;have hij:i≠j:=by rintro rfl;rw [hi] at hj;cases hj;rw [hd] at hdj;cases hdj;exact me rfl
  rwa [getD_set_ne false hij] at q1
 ·have e:mG P ops (i,w.heap.size)=obj w.heap.size T z.cells.toList:=by simp [mG,hi,hop,hz]
  simp only [List.map_cons,e,List.cons_append];exact hv.holds.B5 T z.cells
def left (ops:Array Oper) (listed:Array Bool):Nat:=((List.range ops.size).filter fun i=>!listed.getD i true).length
theorem Tq {listed:Array Bool} {i:Nat} (hs:listed.size=ops.size) (hi:i<ops.size) (hu:listed.getD i true=false):left ops (listed.setIfInBounds i true)<left ops listed:=by
 unfold left;have hsub:((List.range ops.size).filter fun j=>!(listed.setIfInBounds i true).getD j true)=((List.range ops.size).filter fun j=>!listed.getD j true).filter (· !=i):=by
  rw [List.filter_filter]
  apply List.filter_congr
  intro j hj
  by_cases hij:i=j
  ·subst hij
   have:i<listed.size:=by omega
   simp [this]
  ·rw [getD_set_ne true hij]
   have:(j !=i)=true:=by simpa using Ne.symm hij
   simp [this]
 rw [hsub];have hmem:i∈(List.range ops.size).filter fun j=>!listed.getD j true:=List.mem_filter.2 ⟨List.mem_range.2 hi,by rw [hu];rfl⟩;obtain ⟨p,q,hpq⟩:=List.append_of_mem hmem;rw [hpq,List.filter_append,List.filter_cons];simp only [bne_self_eq_false,Bool.false_eq_true,if_false,List.length_append,List.length_cons];have:=List.length_filter_le (· !=i) p;have:=List.length_filter_le (· !=i) q
 omega
theorem Tt {listed:Array Bool} (h:left ops listed=0):∀ i,i<ops.size→listed.getD i true=true:=by
 intro i hi
 cases hl:listed.getD i true with
 |true=>rfl
 |false =>
  have hmem:i∈(List.range ops.size).filter fun j=>!listed.getD j true:=List.mem_filter.2 ⟨List.mem_range.2 hi,by rw [hl];rfl⟩;unfold left at h;rw [List.eq_nil_of_length_eq_zero h] at hmem
  cases hmem
theorem bJ.um {i d:Nat} {σ:List (Nat × Value)} {op:Op} (h:bJ ops i n σ d op):∃ o,ops[i]?=some o∧o.op=op∧o.dst=some d∧Nat.blt d n=true:=by
 obtain ⟨o,h1,h2,h3,h4,_⟩:=h.at;exact ⟨o,h1,h3,h2,h4⟩
theorem Oi {l q r:List Nat} {i j:Nat} (hi:i∈l) (h:l.erase i=q++j::r):∃ p t,l=p++j::t∧∀ x∈p,x=i∨x∈q:=by
 obtain ⟨l1,l2,hn,rfl,he⟩:=List.exists_erase_eq hi;rw [he] at h
 rcases List.append_eq_append_iff.1 h with ⟨t,h1,h2⟩|⟨t,h1,h2⟩
 ·
  refine ⟨l1++i::t,r,by rw [h2];simp,fun x hx=>?_⟩
  rcases List.mem_append.1 hx with hx|hx
  ·exact .inr (by rw [h1];simp [hx])
  ·rcases List.mem_cons.1 hx with rfl|hx
   ·exact .inl rfl
   ·exact .inr (by rw [h1];simp [hx])
 ·
  cases t with
  |nil =>
   simp only [List.nil_append,List.append_nil] at h1 h2;refine ⟨l1++[i],r,by rw [← h2];simp,fun x hx=>?_⟩
   rcases List.mem_append.1 hx with hx|hx
   ·exact .inr (h1 ▸ hx)
   ·exact .inl (List.mem_singleton.1 hx)
  |cons y t =>
   simp only [List.cons_append,List.cons.injEq] at h2;obtain ⟨rfl,rfl⟩:=h2;exact ⟨q,t++i::l2,by rw [h1];simp,fun x hx=>.inr hx⟩
theorem q5 {l1 l2:List Nat} (h:l2≠[]):(l1++l2).getLast?=l2.getLast?:=by
 rw [List.getLast?_append,List.getLast?_eq_some_getLast h];rfl
theorem Ok.move {L bf l:List Nat} {i:Nat} (hok:Ok P n ops L) (hst:nW ops i=true) (hL:L=bf++l) (hi:i∈l) (ha:∀ o,ops[i]?=some o→∀ e∈o.after,binds .any e=true→e.on ∉ l):Ok P n ops (bf++i::l.erase i):=by
 have hp:(bf++i::l.erase i).Perm L:=by rw [hL];exact (List.perm_cons_erase hi).symm.append_left bf
 have dy:=hok.nodup;refine ⟨hp.nodup_iff.2 hok.nodup,fun j hj=>hp.mem_iff.2 (hok.all j hj),fun j hj=>hok.lt j (hp.mem_iff.1 hj),?_,hok.reads,hok.dst,hok.cB,hok.alloc,hok.F5,?_⟩
 rotate_left
 ·intro od j l' h hne
  by_cases hji:j=i
  ·subst hji;exact hst
  have hj:j∈L:=hp.mem_iff.1 (by rw [h];simp);obtain ⟨p,q,hpq⟩:=List.append_of_mem hj
  by_cases hq:q=[]
  ·exfalso
   subst hq;have lC:L.getLast?=some j:=by rw [hpq];simp
   rw [hL] at lC dy;have hjl:j∈l:=by
    have hne:l≠[]:=List.ne_nil_of_mem hi;rw [q5 hne] at lC;exact List.mem_of_getLast? lC
   have hle:(l.erase i).getLast?=some j:=by
    have hne:l≠[]:=List.ne_nil_of_mem hi;rw [q5 hne] at lC;obtain ⟨l1,l2,hn,PN,zW⟩:=List.exists_erase_eq hi;rw [zW];rw [PN] at lC
    cases l2 with
    |nil=>rw [q5 (by simp)] at lC;simp at lC;exact (hji lC.symm).elim
    |cons y l2 =>
     rw [q5 (by simp)] at lC ⊢;rw [List.getLast?_cons_cons] at lC;exact lC
   have h2:(bf++i::l.erase i).getLast?=some j:=by
    have Qd:l.erase i≠[]:=by intro h0;rw [h0] at hle;cases hle
    rw [q5 (by simp)]
    cases hle2:l.erase i with
    |nil=>exact (Qd hle2).elim
    |cons y z=>rw [List.getLast?_cons_cons,← hle2];exact hle
   rw [h,q5 (by simp)] at h2;have h3:j∈l' :=by
    cases l' with
    |nil=>exact (hne rfl).elim
    |cons y z=>rw [List.getLast?_cons_cons] at h2;exact List.mem_of_getLast? h2
   have ph:=hp.nodup_iff.2 hok.nodup;rw [h,List.nodup_append] at ph;exact (List.nodup_cons.1 ph.2.1).1 h3
  ·exact hok.Bt p j q hpq hq
 intro od j l' h o ho e he hb
 have hin:e.on∈L:=by
  have hj:j∈L:=hp.mem_iff.1 (by rw [h];simp);obtain ⟨p,q,hpq⟩:=List.append_of_mem hj;have:=hok.after p j q hpq o ho e he hb;rw [hpq];simp [this]
 rcases List.append_eq_append_iff.1 h with ⟨t,h1,h2⟩|⟨t,h1,h2⟩
 ·
  cases t with
  |nil =>
   simp only [List.nil_append,List.cons.injEq] at h2;obtain ⟨rfl,_⟩:=h2;simp only [List.append_nil] at h1;rw [hL] at hin
   rcases List.mem_append.1 hin with q|q
   ·rw [h1];exact q
   ·exact (ha o ho e he hb q).elim
  |cons y t =>
   simp only [List.cons_append,List.cons.injEq] at h2;obtain ⟨rfl,h2⟩:=h2;obtain ⟨p,u,hl,hx⟩:=Oi hi h2;have:=hok.after (bf++p) j u (by rw [hL,hl];simp) o ho e he hb;rw [h1]
   rcases List.mem_append.1 this with q|q
   ·simp [q]
   ·rcases hx _ q with q|q<;>simp [q]
 ·cases t with
  |nil =>
   simp only [List.nil_append,List.cons.injEq] at h2;obtain ⟨rfl,_⟩:=h2;simp only [List.append_nil] at h1;rw [hL] at hin
   rcases List.mem_append.1 hin with q|q
   ·rw [← h1];exact q
   ·exact (ha o ho e he hb q).elim
  |cons y t =>
   simp only [List.cons_append,List.cons.injEq] at h2;obtain ⟨rfl,_⟩:=h2;exact hok.after od j (t++l) (by rw [hL,h1];simp) o ho e he hb
theorem Inv.move {listed:Array Bool} {bf l:List Nat} {σ:List (Nat × Value)} {U:List az} {a:Act} {w:World} {X:List (Nat × Nat)} {i:Nat} (hv:Inv P ops n D g listed bf l σ U a w X) (hi:i∈l):Inv P ops n D g listed bf (i::l.erase i) σ U a w X:=by
 have hp:=List.perm_cons_erase hi;exact ⟨hv.size,hv.closed,fun x hx=>let ⟨h1,h2⟩:=hv.x1 x hx;⟨hp.mem_iff.1 h1,h2⟩,fun j hj=>hv.cI j (hp.mem_iff.2 hj),hv.xn,hv.sy,hv.len,hv.defers,hv.dD,hv.frame,hv.holds⟩
theorem GX {jt l:List Nat} (h:wD ops jt l=true):jt≠[]∧(∀ i∈jt,i∈l∧oP ops i=false∧nW ops i=true∧∀ o,ops[i]?=some o→∀ e∈o.after,binds .any e=true→e.on ∉ l)∧eH ops jt (l.filter fun i=>!jt.contains i)=true:=by
 simp only [wD,Bool.and_eq_true,List.all_eq_true] at h;obtain ⟨⟨h1,h2⟩,h3⟩:=h;refine ⟨fun h=>by rw [h] at h1;simp at h1,fun i hi=>?_,h3⟩;obtain ⟨⟨⟨h4,h5⟩,h7⟩,h6⟩:=h2 i hi;refine ⟨by simpa using h4,by simpa using h5,h7,fun o ho e he hb hm=>?_⟩;rw [ho] at h6;have:=Array.all_eq_true_iff_forall_mem.1 h6 e he
 simp [hb,hm] at this
theorem FT:∀ {l:List Nat},yw ops l=true→∀ pre i post,l=pre++i::post→∀ o,ops[i]?=some o→∀ e∈o.after,binds .any e=true→e.on ∉ post
 |[],_,pre,i,post,h,_,_,_,_,_=>by cases pre<;>cases h
 |j::l,h,pre,i,post,hl,o,ho,e,he,hb=>by
  simp only [yw,Bool.and_eq_true,List.all_eq_true] at h
  cases pre with
  |nil =>
   simp only [List.nil_append,List.cons.injEq] at hl;obtain ⟨rfl,rfl⟩:=hl
   intro hm
   have h1:=h.1 e.on hm;rw [ho] at h1;have:=Array.all_eq_true_iff_forall_mem.1 h1 e he
   simp [hb] at this
  |cons p pre =>
   simp only [List.cons_append,List.cons.injEq] at hl;obtain ⟨rfl,rfl⟩:=hl;exact FT h.2 pre i post rfl o ho e he hb
theorem Fy {l l' :List Nat} (hn:l.Nodup) (h:AS ops l l' =true):l.Perm l' ∧yw ops l' =true∧l.getLast?=l'.getLast?∧l' ≠[]:=by
 simp only [AS,Bool.and_eq_true,List.all_eq_true,List.contains_eq_mem,decide_eq_true_eq,beq_iff_eq] at h;obtain ⟨⟨⟨⟨⟨h1,h2⟩,h3⟩,h4⟩,h5⟩,h6⟩:=h;refine ⟨(List.perm_ext_iff_of_nodup hn (Fg h1)).2 fun i=>⟨h2 i,h3 i⟩,h4,h5,fun h=>by rw [h] at h6;cases h6⟩
theorem Ok.reorder {L bf l l' :List Nat} (hok:Ok P n ops L) (hL:L=bf++l) (hp:AS ops l l' =true):Ok P n ops (bf++l'):=by
 have dy:=hok.nodup;rw [hL,List.nodup_append] at dy;obtain ⟨p1,p2,p3,AQ⟩:=Fy dy.2.1 hp;have nO:(bf++l').Perm L:=by rw [hL];exact p1.symm.append_left bf
 refine ⟨nO.nodup_iff.2 hok.nodup,fun j hj=>nO.mem_iff.2 (hok.all j hj),fun j hj=>hok.lt j (nO.mem_iff.1 hj),?_,hok.reads,hok.dst,hok.cB,hok.alloc,hok.F5,?_⟩
 ·intro od j t h o ho e he hb
  have DR:j∈L:=nO.mem_iff.1 (by rw [h];simp);obtain ⟨p,q,hpq⟩:=List.append_of_mem DR;have hin:=hok.after p j q hpq o ho e he hb;have IV:e.on∈bf++l' :=nO.mem_iff.2 (by rw [hpq];simp [hin])
  rcases List.append_eq_append_iff.1 h with ⟨u,h1,h2⟩|⟨u,h1,h2⟩
  ·
   rw [h1]
   rcases List.mem_append.1 IV with q1|q1
   ·simp [q1]
   ·have:=FT p2 u j t h2 o ho e he hb
    rw [h2] at q1
    rcases List.mem_append.1 q1 with q1|q1
    ·simp [q1]
    ·rcases List.mem_cons.1 q1 with q1|q1
     ·exfalso
      have ph:=hok.nodup;rw [hpq,List.nodup_append] at ph;exact ph.2.2 e.on hin j (by simp) q1
     ·exact absurd q1 this
  ·
   cases u with
   |nil =>
    simp only [List.append_nil,List.nil_append] at h1 h2;rw [← h1]
    rcases List.mem_append.1 IV with q1|q1
    ·exact q1
    ·rw [← h2] at q1
     have:=FT (l:=l') p2 [] j t (by rw [← h2];rfl) o ho e he hb
     rcases List.mem_cons.1 q1 with q1|q1
     ·exfalso
      have ph:=hok.nodup;rw [hpq,List.nodup_append] at ph;exact ph.2.2 e.on hin j (by simp) q1
     ·exact absurd q1 this
   |cons y u =>
    simp only [List.cons_append,List.cons.injEq] at h2;obtain ⟨rfl,_⟩:=h2;exact hok.after od j (u++l) (by rw [hL,h1];simp) o ho e he hb
 ·intro od j t h hne
  have DR:j∈L:=nO.mem_iff.1 (by rw [h];simp);obtain ⟨p,q,hpq⟩:=List.append_of_mem DR
  by_cases hq:q=[]
  ·exfalso
   subst hq;have lC:L.getLast?=some j:=by rw [hpq];simp
   have hl0:l≠[]:=fun h0=>by subst h0;rw [List.getLast?_nil] at p3;exact AQ (List.getLast?_eq_none_iff.1 p3.symm)
   rw [hL,q5 hl0,p3] at lC;have h2:(bf++l').getLast?=some j:=by rw [q5 AQ];exact lC
   rw [h,q5 (by simp)] at h2;have h3:j∈t:=by
    cases t with
    |nil=>exact (hne rfl).elim
    |cons y z=>rw [List.getLast?_cons_cons] at h2;exact List.mem_of_getLast? h2
   have ph:=nO.nodup_iff.2 hok.nodup;rw [h,List.nodup_append] at ph;exact (List.nodup_cons.1 ph.2.1).1 h3
  ·exact hok.Bt p j q hpq hq
theorem Inv.reorder {listed:Array Bool} {bf l l' :List Nat} {σ:List (Nat × Value)} {U:List az} {a:Act} {w:World} {X:List (Nat × Nat)} (hv:Inv P ops n D g listed bf l σ U a w X) (hp:l.Perm l'):Inv P ops n D g listed bf l' σ U a w X :=
 ⟨hv.size,hv.closed,fun x hx=>let ⟨h1,h2⟩:=hv.x1 x hx;⟨hp.mem_iff.1 h1,h2⟩,fun j hj=>hv.cI j (hp.mem_iff.2 hj),hv.xn,hv.sy,hv.len,hv.defers,hv.dD,hv.frame,hv.holds⟩
theorem af.finish {fl:Bool} {l0:List Nat} {σ:List (Nat × Value)} {U:List az} (h:aJ P fn n R ops k D g fl l0 σ U):∀ {listed:Array Bool} {bf:List Nat} {a:Act} {w:World} {X:List (Nat × Nat)} {L:List Nat},Ok P n ops L→L=bf++l0 →
  Inv P ops n D g listed bf l0 σ U a w X→(∀ i,i<ops.size→listed.getD i true=true)→kq none P k (Post none P fn R) a w:=by
 have absurd:∀ {listed:Array Bool} {bf l:List Nat} {σ:List (Nat × Value)} {U:List az} {a:Act} {w:World} {X:List (Nat × Nat)} {i:Nat} {o:Oper},Inv P ops n D g listed bf (i::l) σ U a w X→(∀ i,i<ops.size→listed.getD i true=true) →
   ops[i]?=some o→jk o.op=false→False:=by
  intro listed bf l σ U a w X i o hv hall ho hna
  have hlt:=(Array.getElem?_eq_some_iff.1 ho).1;obtain ⟨b,hb⟩:=hv.cI i (List.mem_cons_self ..) (by rw [mL (by rw [hv.size];exact hlt) false true];exact hall i hlt);obtain ⟨_,_,o',d',h3,h4,_⟩:=hv.x1 _ hb;rw [ho] at h3;cases h3;rw [hna] at h4;cases h4
 induction h with
 |nil h =>
  intro listed bf a w X L hok hL hv hall
  have hX:X=[]:=by
   cases X with
   |nil=>rfl
   |cons x X=>have:=(hv.x1 x (List.mem_cons_self ..)).1;cases this
  subst hX;refine h a w ⟨hv.len,fun t v ht=>hv.frame t v ht fun j o hj _=>?_⟩ hv.defers (by simpa using hv.holds);have hlt:=(Array.getElem?_eq_some_iff.1 hj).1;refine ⟨fun _=>?_,fun _=>by rw [mL (by rw [hv.size];exact hlt) false true];exact hall j hlt⟩;have:=hok.all j hlt;rw [hL] at this
  simpa using this
 |quiet ho hna dw h ih=>intro listed bf a w X L hok hL hv hall;obtain ⟨o,h1,h2,_⟩:=ho.um;exact (absurd hv hall h1 (by rw [h2];exact hna)).elim
 |no ho hna hl _ h ih=>intro listed bf a w X L hok hL hv hall;obtain ⟨o,j,oj,h1,_,h2,_⟩:=sv ho;exact (absurd hv hall h1 (by rw [h2];exact hna)).elim
 |lS ho hx hc eu hargs con hp h ih=>intro listed bf a w X L hok hL hv hall;obtain ⟨o,h1,h2,_⟩:=ho.um;exact (absurd hv hall h1 (by rw [h2];rfl)).elim
 |f_ ho hna dw h ih=>intro listed bf a w X L hok hL hv hall;obtain ⟨o,h1,h2,_⟩:=ho.um;exact (absurd hv hall h1 (by rw [h2];exact hna)).elim
 |mS ho hna dw h ih=>intro listed bf a w X L hok hL hv hall;obtain ⟨o,h1,_,h2,_⟩:=pM ho;exact (absurd hv hall h1 (by rw [h2];exact hna)).elim
 |q4 ho hna hl dw h=>intro listed bf a w X L hok hL hv hall;obtain ⟨o,h1,_,h2,_⟩:=pM ho;exact (absurd hv hall h1 (by rw [h2];exact hna)).elim
 |one hd h ih=>intro listed bf a w X L hok hL hv hall;exact ih hok hL hv hall
 |swap l' hp h ih =>
  intro listed bf a w X L hok hL hv hall
  have dy:=hok.nodup;rw [hL,List.nodup_append] at dy;exact ih (hok.reorder hL hp) rfl (hv.reorder (Fy dy.2.1 hp).1) hall
 |alt jt hc h ih =>
  intro listed bf a w X L hok hL hv hall
  obtain ⟨hne,zR,hd⟩:=GX hc;obtain ⟨i,hi⟩:=List.exists_mem_of_ne_nil _ hne;obtain ⟨h1,h2,h4,h3⟩:=zR i hi;exact ih i hi (hok.move h4 hL h1 h3) rfl (hv.move h1) hall
 |lazy ho hd hz h ih =>
  intro listed bf a w X L hok hL hv hall
  obtain ⟨o,h1,h2,h3,_,_⟩:=AJ ho;have hlt:=(Array.getElem?_eq_some_iff.1 h1).1;obtain ⟨b,hb⟩:=hv.cI _ (List.mem_cons_self ..) (by rw [mL (by rw [hv.size];exact hlt) false true];exact hall _ hlt);obtain ⟨X',eu⟩:=hv.meet hok hL h1 h2 h3 hz hb;exact ih b hok (by rw [hL];simp) eu hall
theorem af.advance {fl:Bool} {l0:List Nat} {σ:List (Nat × Value)} {U:List az} (h:aJ P fn n R ops k D g fl l0 σ U):fl=false→∀ {listed:Array Bool} {bf:List Nat} {a:Act} {w:World} {X:List (Nat × Nat)} {L:List Nat} {i:Nat} {o:Oper},Ok P n ops L→L=bf++l0 →
  Inv P ops n D g listed bf l0 σ U a w X→i∈ready .any ops listed→i∈l0→ops[i]?=some o→jk o.op=false →
  ∃ L' od l' σ' ax X',Ok P n ops L' ∧L' =od ++i::l' ∧Inv P ops n D g listed od (i::l') σ' ax a w X' ∧aJ P fn n R ops k D g true (i::l') σ' ax :=by
 have Gh:∀ {listed:Array Bool} {bf l:List Nat} {σ:List (Nat × Value)} {U:List az} {a:Act} {w:World} {X:List (Nat × Nat)} {i:Nat} {o:Oper},Inv P ops n D g listed bf (i::l) σ U a w X →
   ops[i]?=some o→jk o.op=false→listed.getD i false=false:=by
  intro listed bf l σ U a w X i o hv ho hna
  cases hl:listed.getD i false with
  |false=>rfl
  |true =>
   obtain ⟨b,hb⟩:=hv.cI i (List.mem_cons_self ..) hl;obtain ⟨_,_,o',d',h3,h4,_⟩:=hv.x1 _ hb;rw [ho] at h3;cases h3;rw [hna] at h4;cases h4
 have stop:∀ {listed:Array Bool} {bf l:List Nat} {σ:List (Nat × Value)} {U:List az} {a:Act} {w:World} {X:List (Nat × Nat)} {j i:Nat} {o:Oper},Inv P ops n D g listed bf (j::l) σ U a w X→eH ops [j] l=true→listed.getD j false=false →
   i∈ready .any ops listed→i∈l→ops[i]?=some o→jk o.op=false→False:=by
  intro listed bf l σ U a w X j i o hv hd hu hr hi ho hna
  refine (zo hv.closed hv.size l [j] hd (fun c hc=>by rw [List.mem_singleton.1 hc];exact hu) i hi (by simp [oP,ho,hna]) (Array.getElem?_eq_some_iff.1 ho).1).1 hr
 induction h with
 |nil h=>intro _ listed bf a w X L i o _ _ _ _ hi;cases hi
 |@quiet fl j d op v l σ U ho hna dw h ih =>
  intro _ listed bf a w X L i o hok hL hv hr hi kH mN
  rcases List.mem_cons.1 hi with rfl|hi
  ·exact ⟨L,bf,l,σ,U,X,hok,hL,hv,.quiet ho hna dw h⟩
  ·obtain ⟨oj,h1,h2,h3,_⟩:=ho.um
   have hst:=hok.Bt bf j l hL (List.ne_nil_of_mem hi);have hp:nj P ops n D g ((d,v)::σ) j:=nj.quiet hok.cB ho dw fun o' ho' =>hok.fresh hst hL h1 h3 j o' (.inr rfl) ho';exact ih rfl hok (by rw [hL];simp) (Inv.wait hok hL hst hv h1 h3 (Gh hv h1 (by rw [h2];exact hna)) hp) hr hi kH mN
 |@no fl j d t op b l σ U v ho hna hl r4 h ih =>
  intro _ listed bf a w X L i o hok hL hv hr hi kH mN
  rcases List.mem_cons.1 hi with rfl|hi
  ·exact ⟨L,bf,l,σ,U,X,hok,hL,hv,.no ho hna hl r4 h⟩
  ·obtain ⟨oj,_,_,h1,h3,h2,_⟩:=sv ho
   have hst:=hok.Bt bf j l hL (List.ne_nil_of_mem hi);have hp:nj P ops n D g ((d,undef)::σ) j:=nj.no ho hl r4 fun o' ho' =>hok.fresh hst hL h1 h3 j o' (.inr rfl) ho';exact ih rfl hok (by rw [hL];simp) (Inv.wait hok hL hst hv h1 h3 (Gh hv h1 (by rw [h2];exact hna)) hp) hr hi kH mN
 |lS=>intro hf;cases hf
 |f_=>intro hf;cases hf
 |mS=>intro hf;cases hf
 |q4=>intro hf;cases hf
 |@one j l σ U hd h ih =>
  intro _ listed bf a w X L i o hok hL hv hr hi kH mN
  rcases List.mem_cons.1 hi with rfl|hi
  ·exact ⟨L,bf,l,σ,U,X,hok,hL,hv,h⟩
  ·have hna:∃ oj,ops[j]?=some oj∧jk oj.op=false:=by
    cases h with
    |quiet ho hna _ _=>obtain ⟨oj,h1,h2,_⟩:=ho.um;exact ⟨oj,h1,by rw [h2];exact hna⟩
    |no ho hna _ _ _=>obtain ⟨oj,_,_,h1,_,h2,_⟩:=sv ho;exact ⟨oj,h1,by rw [h2];exact hna⟩
    |lS ho _ _ _ _ _ _ _=>obtain ⟨oj,h1,h2,_⟩:=ho.um;exact ⟨oj,h1,by rw [h2];rfl⟩
    |f_ ho hna _ _=>obtain ⟨oj,h1,h2,_⟩:=ho.um;exact ⟨oj,h1,by rw [h2];exact hna⟩
    |mS ho hna _ _=>obtain ⟨oj,h1,_,h2,_⟩:=pM ho;exact ⟨oj,h1,by rw [h2];exact hna⟩
    |q4 ho hna _ _ _=>obtain ⟨oj,h1,_,h2,_⟩:=pM ho;exact ⟨oj,h1,by rw [h2];exact hna⟩
   obtain ⟨oj,h1,h2⟩:=hna;exact (stop hv hd (Gh hv h1 h2) hr hi kH mN).elim
 |@swap l σ U l' hp h ih =>
  intro _ listed bf a w X L i o hok hL hv hr hi kH mN
  have dy:=hok.nodup;rw [hL,List.nodup_append] at dy;have nO:=(Fy dy.2.1 hp).1;exact ih rfl (hok.reorder hL hp) rfl (hv.reorder nO) hr (nO.mem_iff.1 hi) kH mN
 |@alt l σ U jt hc h ih =>
  intro _ listed bf a w X L i o hok hL hv hr hi kH mN
  obtain ⟨_,zR,hd⟩:=GX hc
  by_cases hic:i∈jt
  ·obtain ⟨h1,h2,h4,h3⟩:=zR i hic
   exact ⟨_,bf,_,σ,U,X,hok.move h4 hL h1 h3,rfl,hv.move h1,h i hic⟩
  ·refine absurd hr (zo hv.closed hv.size _ jt hd (fun c hcm=>?_) i (List.mem_filter.2 ⟨hi,by simpa using hic⟩) (by simp [oP,kH,mN]) (Array.getElem?_eq_some_iff.1 kH).1).1
   obtain ⟨h1,h2,_,h3⟩:=zR c hcm
   cases hl:listed.getD c false with
   |false=>rfl
   |true =>
    obtain ⟨b,hb⟩:=hv.cI c h1 hl;obtain ⟨_,_,o',d',h4,h5,_⟩:=hv.x1 _ hb
    simp [oP,h4,h5] at h2
 |@lazy j d T z l σ U ho hd hz h ih =>
  intro _ listed bf a w X L i o hok hL hv hr hi kH mN
  obtain ⟨oj,h1,h2,h3,_,_⟩:=AJ ho
  rcases List.mem_cons.1 hi with rfl|hi
  ·rw [h1] at kH;cases kH;rw [h3] at mN;cases mN
  ·cases hlj:listed.getD j false with
   |false=>exact (stop hv hd hlj hr hi kH mN).elim
   |true =>
    obtain ⟨b,hb⟩:=hv.cI j (List.mem_cons_self ..) hlj;obtain ⟨X',eu⟩:=hv.meet hok hL h1 h2 h3 hz hb;exact ih b rfl hok (by rw [hL];simp) eu hr hi kH mN
theorem af.any:∀ (fuel:Nat) (L:List Nat) (listed:Array Bool) (bf l0:List Nat) (σ:List (Nat × Value)) (U:List az) (a:Act) (w:World) (X:List (Nat × Nat)),Ok P n ops L→L=bf++l0→Inv P ops n D g listed bf l0 σ U a w X →
  af P fn n R ops k D g l0 σ U→left ops listed≤fuel→wpAny P .any ops (wm none P k (Post none P fn R)) fuel listed a w:=by
 intro fuel
 induction fuel with
 |zero =>
  intro L listed bf l0 σ U a w X hok hL hv tO hf
  have hall:=Tt (ops:=ops) (listed:=listed) (by omega);refine ⟨?_,af.finish tO hok hL hv hall⟩;refine List.eq_nil_iff_forall_not_mem.2 fun i hi=>?_;obtain ⟨h1,o,ho,_⟩:=mem_ready.1 hi;rw [hall i (Array.getElem?_eq_some_iff.1 ho).1] at h1;cases h1
 |succ fuel ih =>
  intro L listed bf l0 σ U a w X hok hL hv tO hf
  refine ⟨fun hr=>?_,fun i hi=>?_⟩
  ·
   refine af.finish tO hok hL hv ?_;have key:∀ (pre post:List Nat),L=pre++post→∀ i∈pre,listed.getD i false=true:=by
    intro pre
    induction hlen:pre.length generalizing pre with
    |zero=>intro post _ i hi;rw [List.eq_nil_of_length_eq_zero hlen] at hi;cases hi
    |succ m Sf =>
     intro post hp i hi
     rcases List.eq_nil_or_concat pre with rfl|⟨pre',j,rfl⟩
     ·cases hi
     ·simp only [List.concat_eq_append,List.length_append,List.length_singleton,List.append_assoc,List.singleton_append,List.mem_append,List.mem_singleton] at hlen hp hi
      have hpre:=Sf pre' (by omega) (j::post) hp
      rcases hi with hi|rfl
      ·exact hpre i hi
      ·have hlt:=hok.lt i (by rw [hp];simp)
       cases hl:listed.getD i false with
       |true=>rfl
       |false =>
        exfalso
        have:i∈ready .any ops listed:=mem_ready.2 ⟨by rw [mL (by rw [hv.size];exact hlt) true false];exact hl,ops[i],by simp [hlt],fun e he hb=>hpre _ (hok.after pre' i post hp ops[i] (by simp [hlt]) e he hb)⟩;rw [hr] at this;cases this
   intro i hi
   rw [mL (by rw [hv.size];exact hi) true false];exact key L [] (by simp) i (hok.all i hi)
  ·obtain ⟨hun,o,ho,_⟩:=mem_ready.1 hi
   have hlt:=(Array.getElem?_eq_some_iff.1 ho).1;have tI:left ops (listed.setIfInBounds i true)≤fuel:=by
    have:=Tq (ops:=ops) hv.size hlt hun
    omega
   have him:i∈bf∨i∈l0:=by have:=hok.all i hlt;rw [hL] at this;exact List.mem_append.1 this
   rcases him with him|him
   ·
    obtain ⟨o',d,v,h1,h2,h3,h4,h5⟩:=hv.sy i him (by rw [mL (by rw [hv.size];exact hlt) false true];exact hun);rw [ho] at h1;cases h1;refine h5 a w _ _ _ hv.holds ?_ fun w' hw' =>ih L _ bf l0 σ U _ w' X hok hL (hv.done hok hL hi ho h2 h3 him h4 hw') tO tI
    intro t ht u hu
    refine hv.frame t u hu fun j oj hj hdj=>?_;have tL:=(Array.getElem?_eq_some_iff.1 hj).1
    rcases hok.reads i o j oj t ho hj hdj ht with ⟨e,he,hb,kW⟩|⟨e,he,hb,kW⟩
    ·obtain ⟨_,ye,lD,hall⟩:=mem_ready.1 hi
     rw [ho] at lD;cases lD;obtain ⟨p,q,rfl⟩:=List.append_of_mem him;have:=hok.after p i (q++l0) (by rw [hL];simp) o ho e he hb;rw [kW] at this;exact ⟨fun _=>by simp [this],fun _=>kW ▸ hall e he hb⟩
    ·have hnl:listed.getD j false=false:=by
      cases hlj:listed.getD j false with
      |false=>rfl
      |true =>
       have:=hv.closed j oj hj (by rw [mL (by rw [hv.size];exact tL) true false];exact hlj) tL e he hb;rw [kW,mL (by rw [hv.size];exact hlt) false true,hun] at this;cases this
     refine ⟨fun h=>absurd h (by rw [hnl];decide),fun vA=>?_⟩;obtain ⟨e',he',hb',Qt⟩:=LH (hv.dD j vA hnl) hj hdj i o ho ht;obtain ⟨_,ye,lD,hall⟩:=mem_ready.1 hi;rw [ho] at lD;cases lD;have:=hall e' he' hb';rw [Qt] at this;exact this
   ·cases hna:jk o.op with
    |true =>
     cases hop:o.op with
     |alloc T =>
      obtain ⟨⟨z,hz⟩,hgd,d,hd,hb⟩:=hok.alloc i o T ho hop;simp only [wpOp,ho,Region.wanted,hgd,if_true];refine .inl ?_;have hrun:(execOp a.eval o).run P w=.ok (.value (.pointer (some ⟨w.heap.size,0,none⟩))) (w.alloc (.cells z.cells T)):=by
       simp [execOp,hop,Instr.alloc,FU hz,newVar,newRow]
      unfold Oper.wp;rw [hrun,Oper.upon_value,hd];exact ih L _ bf l0 σ U _ _ _ hok hL (hv.early hok hL hi him ho hop hz hd hb) tO tI
     |_=>rw [hop] at hna;cases hna
    |false =>
     obtain ⟨L',od,l',σ',ax,X',Qq,hL',eu,Qp⟩:=af.advance tO rfl hok hL hv hi him ho hna;clear hok hL hv tO him;have hok:=Qq;have qN:oM ops o σ' a:=by
      intro t ht u hu
      refine eu.frame t u hu fun j oj hj hdj=>?_;have tL:=(Array.getElem?_eq_some_iff.1 hj).1
      rcases hok.reads i o j oj t ho hj hdj ht with ⟨e,he,hb,kW⟩|⟨e,he,hb,kW⟩
      ·obtain ⟨_,ye,lD,hall⟩:=mem_ready.1 hi
       rw [ho] at lD;cases lD;exact ⟨fun _=>kW ▸ hok.after od i l' hL' o ho e he hb,fun _=>kW ▸ hall e he hb⟩
      ·have hnl:listed.getD j false=false:=by
        cases hlj:listed.getD j false with
        |false=>rfl
        |true =>
         have:=eu.closed j oj hj (by rw [mL (by rw [eu.size];exact tL) true false];exact hlj) tL e he hb;rw [kW,mL (by rw [eu.size];exact hlt) false true,hun] at this;cases this
       refine ⟨fun h=>absurd h (by rw [hnl];decide),fun vA=>?_⟩
       exfalso
       obtain ⟨p,q,rfl⟩:=List.append_of_mem vA;have:=hok.after p j (q++i::l') (by rw [hL'];simp) oj hj e he hb;rw [kW] at this;have dy:=hok.nodup;rw [hL',List.nodup_append] at dy;exact dy.2.2 i (by simp [this]) i (by simp) rfl
     have w6 :L' =(od ++[i])++l' :=by rw [hL'];simp
     have qR:=fun cs b=>Region.noSelect_spec hok.cB i o cs b ho
     cases Qp with
     |quiet pg z1 dw h =>
      obtain ⟨o',h1,h2,h3,h4,h5⟩:=pg.at;rw [ho] at h1;cases h1;obtain ⟨ρ,hkn,he,_⟩:=qN.vY qR;obtain ⟨w',hrun,hw'⟩:=dw _ o ρ w h3 hkn eu.holds;simp only [wpOp,ho,h5 a qN,if_true];refine .inl ?_;unfold Oper.wp;rw [he,hrun,Oper.upon_value,h2];exact ih _ _ _ _ _ _ _ _ _ hok w6 (eu.step hok hL' hi ho (.inr ⟨_,_,h2,h4,rfl,rfl⟩) hw') h tI
     |no pg z1 hl r4 h =>
      obtain ⟨o',j,oj,h1,h2,h3,hg,hj,ht,hb⟩:=sv pg;rw [ho] at h1;cases h1;have:=qN _ (List.mem_append_right _ (by simp only [hg,hj,ht];exact List.mem_singleton.2 rfl)) _ hl;have hw:Region.wanted o (yielded ops a.tmps)=false:=by
       rename_i b0 _ _ _ v0
       cases v0<;>simp [Region.wanted,hg,yielded,hj,ht,this]
       cases b0<;>simp_all [q8]
      simp only [wpOp,ho,hw,Bool.false_eq_true,if_false,h2];exact ih _ _ _ _ _ _ _ _ _ hok w6 (eu.step hok hL' hi ho (.inr ⟨_,_,h2,hb,rfl,rfl⟩) eu.holds) h tI
     |@lS _ d _ _ cW ζ f x xs ts bH K YD first cap args pg hx hc hvs hargs con hp h =>
      obtain ⟨o',h1,h2,h3,h4,h5⟩:=pg.at;rw [ho] at h1;cases h1;obtain ⟨ρ,hkn,he,hρ⟩:=qN.vY qR;simp only [wpOp,ho,h5 a qN,if_true];refine .inl ?_;unfold Oper.wp;rw [he,A9 h3 (hkn x _ hx) hc,Oper.upon_enter];have hm:xs.map ρ=bH.toArray:=by rw [← qF hkn hvs,← Array.toList_map]
      rw [hm,hargs];have Ae:(X'.map (mG P ops)++(cW++ζ)).Perm (cW++(ζ++X'.map (mG P ops))):=by
       refine List.perm_append_comm.trans ?_
       simp
      refine (con.frame (ζ:=ζ++X'.map (mG P ops)) g (Fr.bY _) w (eu.holds.perm Ae)).mono fun e w' hh=>?_;obtain ⟨Yz,⟨kj,hq,rfl⟩,hw'⟩:=hh
      cases e with
      |returned v =>
       show wpAny P .any ops _ fuel _ (a.put o.dst v) w'
       rw [h2];have QT :(kj++(ζ++X'.map (mG P ops))).Perm (X'.map (mG P ops)++(kj++ζ)):=by
        rw [← List.append_assoc];exact List.perm_append_comm
       exact ih _ _ _ _ _ _ _ _ _ hok w6 (eu.step hok hL' hi ho (.inr ⟨_,_,h2,h4,rfl,rfl⟩) (hw'.perm QT)) (h v kj hq) tI
      |panicked ch =>
       show eS P fn a.tmps R a.defers (.panicking ch) w'
       rw [eu.defers];exact hp a ch kj w' hq ((hw'.perm (by rw [← List.append_assoc];exact List.perm_append_comm)).HR)
      |outgrown=>exact hq.elim
     |f_ pg z1 dw h =>
      obtain ⟨o',h1,h2,h3,h4,h5⟩:=pg.at;rw [ho] at h1;cases h1;obtain ⟨ρ,hkn,he,_⟩:=qN.vY qR;obtain ⟨v,w',Yz,⟨kj,hq,rfl⟩,hrun,hw'⟩:=dw (X'.map (mG P ops)) o ρ w h3 hkn (eu.holds.perm List.perm_append_comm);simp only [wpOp,ho,h5 a qN,if_true];refine .inl ?_;unfold Oper.wp;rw [he,hrun,Oper.upon_value,h2];exact ih _ _ _ _ _ _ _ _ _ hok w6 (eu.step hok hL' hi ho (.inr ⟨_,_,h2,h4,rfl,rfl⟩) (hw'.perm List.perm_append_comm)) (h v kj hq) tI
     |mS pg z1 dw h =>
      obtain ⟨o',h1,h2,h3,h4⟩:=pM pg;rw [ho] at h1;cases h1;obtain ⟨ρ,hkn,he,_⟩:=qN.vY qR;obtain ⟨w',u,hrun,hu,hw'⟩:=dw (X'.map (mG P ops)) o ρ w h3 hkn (eu.holds.perm List.perm_append_comm);simp only [wpOp,ho,Region.wanted,h4,if_true];refine .inl ?_;unfold Oper.wp;have EO:∀ (next:Act→World→Prop) Q,o.upon P a next Q (.ok u w')=next (a.put none undef) w' :=fun next Q=>by
       rcases hu with rfl|⟨v,rfl⟩
       ·rw [Oper.upon_skip,h2]
       ·rw [Oper.upon_value,h2];rfl
      rw [he,hrun,EO];exact ih _ _ _ _ _ _ _ _ _ hok w6 (eu.step hok hL' hi ho (.inl ⟨h2,rfl,rfl⟩) (hw'.perm List.perm_append_comm)) h tI
     |q4 pg z1 lC dw h =>
      obtain ⟨o',h1,h2,h3,h4⟩:=pM pg;rw [ho] at h1;cases h1;obtain ⟨ρ,hkn,he,_⟩:=qN.vY qR;have hX:X' =[]:=by
       cases X' with
       |nil=>rfl
       |cons x YC =>
        obtain ⟨q1,q2,_⟩:=eu.x1 x (List.mem_cons_self ..);rw [List.mem_singleton.1 q1,mL (by rw [eu.size];exact hlt) false true,hun] at q2;cases q2
      subst hX;obtain ⟨w',u,hrun,hu,hw'⟩:=dw o ρ w h3 hkn (by simpa using eu.holds);simp only [wpOp,ho,Region.wanted,h4,if_true];refine .inl ?_;unfold Oper.wp;have EO:∀ (next:Act→World→Prop) Q,o.upon P a next Q (.ok u w')=next (a.put none default) w' :=fun next Q=>by
       rcases hu with rfl|⟨v,rfl⟩
       ·rw [Oper.upon_skip,h2];rfl
       ·rw [Oper.upon_value,h2];rfl
      rw [he,hrun,EO];have Jb:∀ j,j<ops.size→j≠i→listed.getD j false=true:=fun j hj hne=>by
       have:=List.all_eq_true.1 lC j (List.mem_range.2 hj);simp only [Bool.or_eq_true] at this
       rcases this with (this|this)|this
       ·exact (hne (Nat.eq_of_beq_eq_true this)).elim
       ·obtain ⟨_,ye,lD,hall⟩:=mem_ready.1 hi
        rw [ho] at lD;cases lD;exact DF eu.closed eu.size j 2 i (fun o2 tN e he hb=>by rw [ho] at tN;cases tN;exact hall e he hb) this
       ·obtain ⟨_,ye,lD,hall⟩:=mem_ready.1 hi
        rw [ho] at lD;cases lD;exact DF eu.closed eu.size j 10 i (fun o2 tN e he hb=>by rw [ho] at tN;cases tN;exact hall e he hb) this
      have hin:∀ j,j<ops.size→j≠i→j∈od :=fun j hj hne=>by
       have:=hok.all j hj;rw [hL'] at this
       rcases List.mem_append.1 this with h|h
       ·exact h
       ·exact (hne (List.mem_singleton.1 h)).elim
      have Jl:kq none P k (Post none P fn R) (a.put none default) w' :=by
       refine h a w' ⟨eu.len,fun t v ht=>eu.frame t v ht fun j oj hj hdj=>?_⟩ eu.defers hw';have hjl:=(Array.getElem?_eq_some_iff.1 hj).1;have hne:j≠i:=by rintro rfl;rw [ho] at hj;cases hj;rw [h2] at hdj;cases hdj
       exact ⟨fun _=>hin j hjl hne,fun _=>Jb j hjl hne⟩
      have hnone:ready .any ops (listed.setIfInBounds i true)=[]:=by
       refine List.eq_nil_iff_forall_not_mem.2 fun j hj=>?_;obtain ⟨q1,ye,lD,_⟩:=mem_ready.1 hj;have hjl:=(Array.getElem?_eq_some_iff.1 lD).1
       by_cases hne:j=i
       ·subst hne
        simp [eu.size,hlt] at q1
       ·rw [getD_set_ne true (fun h=>hne h.symm),mL (by rw [eu.size];exact hjl) true false,Jb j hjl hne] at q1;cases q1
      cases fuel with
      |zero=>exact ⟨hnone,Jl⟩
      |succ fuel=>exact ⟨fun _=>Jl,fun j hj=>by rw [hnone] at hj;cases hj⟩
theorem S.bC {L:List Nat} {id:Nat} {σ:List (Nat × Value)} {U:List az} (hm:P.follows .mixedOrders=true) (hok:AK P n ops L=true) (h:af P fn n R ops k D g L σ U) :
  S none P fn n R (.code (.region id ops true)::k) σ D g U:=by
 intro a w hf hd hw
 intro b cs hb hf'
 have hinv:Inv P ops n D g (Array.replicate ops.size false) [] L σ U a { w with drawn:=w.drawn+1 } []:=by
  refine ⟨by simp,?_,?_,?_,by simp,?_,hf.1,hd,(fun j hj=>by cases hj),fun t v ht _=>hf.2 t v ht,by simpa using hw.drewN (w.drawn+1) (Nat.le_succ _)⟩
  ·intro i o _ hl hlt
   simp [Array.getD_eq_getD_getElem?,hlt] at hl
  ·intro x hx;cases hx
  ·intro i _ hl
   simp only [Array.getD_eq_getD_getElem?,Array.getElem?_replicate] at hl
   split at hl<;>simp at hl
  ·intro i hi;cases hi
 have hleft:left ops (Array.replicate ops.size false)≤ops.size:=by
  unfold left;exact Nat.le_trans (List.length_filter_le _ _) (by simp)
 have xd:=af.any ops.size L _ [] L σ U a _ [] (Ux hok) (by simp) hinv h hleft;have D6:∀ t,wpOps P ops (wm none P k (Post none P fn R)) (Region.schedule (P.follows .mixedOrders) ops t) a { w with drawn:=w.drawn+1 }:=fun t=>by
  simp only [Region.schedule,hm,Bool.true_or,if_true];exact wpAny_sound ops.size t _ a _ xd
 obtain ⟨e,a',w',q,r⟩:=kq.Uv (D6 (w.tape w.drawn (.order b.fn id))) b cs hb hf';exact ⟨e,a',w',q,.of_steps (.one (fenced_wide P _) stepR_region_draw) r⟩
end
end Go.Sp
