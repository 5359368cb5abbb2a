/- Texts of this proof. -/
import Derived.Test.YtdjoggpacmpfnaaGreatDoorQSpMem2
namespace Go.Sp
open Region (binds ready)
def jK:Op→Bool
 |.alloc _=>true
 |_=>false
def qp (ops:Array Oper) (i:Nat):Bool:=match ops[i]? with|some o=>jK o.op|none=>false
def zeroOf (P:Program) (T:TypeId):Option Value:=(P.info? T).bind (·.zero)
theorem Pf {P:Program} {T:TypeId} {z:Value} (h:zeroOf P T=some z) (w:World):(zeroValue T).run P w=.ok z w:=by
 unfold zeroOf at h
 cases hi:P.info? T with
 |none=>rw [hi] at h;cases h
 |some i=>rw [hi] at h;simp at h;simp [zeroValue,typeInfo,hi,h]
def gG (ops:Array Oper):List Nat→List Nat→Bool
 |_,[]=>true
 |acc,i::l=>match qp ops i with
  |true=>gG ops acc l
  |false=>(match ops[i]? with|some o=>o.after.any fun e=>binds .any e && acc.contains e.on|none=>false) && gG ops (i::acc) l
def tmpsOf (xs:Array Operand):List Nat:=xs.toList.filterMap fun|.tmp t=>some t|_=>none
def q_ (ops:Array Oper) (o:Oper):List Nat :=
 tmpsOf o.op.operands++(match o.guard with|some (j,_)=>(match ops[j]? with|some oj=>oj.dst.toList|none=>[])|none=>[])
def BW (ops:Array Oper):List Nat→List Nat→Bool
 |_,[]=>true
 |bz,i::l=>(match ops[i]? with|some o=>o.after.all fun e=>!binds .any e ||bz.contains e.on|none=>false) && BW ops (i::bz) l
def abn (ops:Array Oper):Bool :=
 (List.range ops.size).all fun i=>match ops[i]? with
  |some o=>(q_ ops o).all fun t=>(List.range ops.size).all fun j=>match ops[j]? with
   |some oj=>match oj.dst with|some d=>d !=t ||o.after.any (fun e=>binds .any e && e.on ==j) ||oj.after.any (fun e=>binds .any e && e.on ==i)|none=>true
   |none=>true
  |none=>false
def pn (ops:Array Oper) (i:Nat):Bool:=match ops[i]? with
 |some oi=>match oi.dst with
  |some d=>(List.range ops.size).all fun j=>match ops[j]? with
   |some o=>!(q_ ops o).contains d ||o.after.any (fun e=>binds .any e && e.on ==i)
   |none=>true
  |none=>true
 |none=>true
def Sk (ops:Array Oper):Bool :=
 (List.range ops.size).all fun i=>(List.range ops.size).all fun j=>i ==j ||match ops[i]?,ops[j]? with
  |some oi,some oj=>match oi.dst,oj.dst with|some d,some e=>d !=e|_,_=>true
  |_,_=>false
def K1 (P:Program) (n:Nat) (ops:Array Oper):Bool :=
 (List.range ops.size).all (fun i=>!qp ops i ||pn ops i) && ops.all fun o=>match o.op with|.alloc T=>(zeroOf P T).isSome && o.guard.isNone && (match o.dst with|some d=>Nat.blt d n|none=>false)|_=>true
def AU:List Nat→Bool
 |[]=>true
 |i::l=>!l.contains i && AU l
def Dr (P:Program) (n:Nat) (ops:Array Oper) (l0:List Nat):Bool :=
 AU l0 && (List.range ops.size).all (fun i=>l0.contains i) && l0.all (·<ops.size) && BW ops [] l0 && abn ops && Sk ops && Region.noSelect ops && K1 P n ops && l0.dropLast.all (pn ops)
section
variable (P:Program) (fn:Func) (n:Nat) (R:Ending→World→Prop) (ops:Array Oper) (k:List Item) (D:List Deferred) (g:bp)
def Ac (ops:Array Oper) (j:Nat):Nat→Nat→Bool
 |0,_=>false
 |f+1,i=>match ops[i]? with
  |some o=>o.after.any fun e=>binds .any e && (Nat.beq e.on j ||Ac ops j f e.on)
  |none=>false
def NF (ops:Array Oper) (i:Nat):Bool:=(List.range ops.size).all fun j=>Nat.beq j i ||Ac ops j 2 i ||Ac ops j 10 i
def BY (ops:Array Oper) (kn l:List Nat):Bool :=
 !kn.isEmpty && kn.all (fun i=>l.contains i && !qp ops i && pn ops i && (match ops[i]? with|some o=>o.after.all fun e=>!binds .any e ||!l.contains e.on|none=>false)) && gG ops kn (l.filter fun i=>!kn.contains i)
def Bc (ops:Array Oper):List Nat→Bool
 |[]=>true
 |i::l=>(l.all fun j=>match ops[i]? with|some o=>o.after.all fun e=>!binds .any e ||!Nat.beq e.on j|none=>false) && Bc ops l
def Dx (ops:Array Oper) (l l' :List Nat):Bool:=AU l' && l.all (fun i=>l'.contains i) && l'.all (fun i=>l.contains i) && Bc ops l' && (l.getLast? ==l'.getLast?) && (match l' with|[]=>false|_=>true)
inductive bt:Bool→List Nat→List (Nat × Value)→List az→Prop
 |nil {σ:List (Nat × Value)} {aa:List az} (h:S none P fn n R k σ D g aa):bt false [] σ aa
 |quiet {bZ:Bool} {i d:Nat} {op:Op} {v:Value} {l:List Nat} {σ:List (Nat × Value)} {aa:List az} (ho:cA ops i n σ d op) (hna:jK op=false) (eb:∀ aa,aK P op σ g aa v aa) (h:bt false l ((d,v)::σ) aa):bt bZ (i::l) σ aa
 |no {bZ:Bool} {i d t:Nat} {op:Op} {b:Bool} {l:List Nat} {σ:List (Nat × Value)} {aa:List az} {v:Value} (ho:u0 ops i n=some (d,op,t,b)) (hna:jK op=false) (hl:look σ t=some v) (hv:tQ b v=true) (h:bt false l ((d,undef)::σ) aa):bt bZ (i::l) σ aa
 |lazy {i d:Nat} {T:TypeId} {z:Value} {l:List Nat} {σ:List (Nat × Value)} {aa:List az} (ho:AZ ops i n=some (d,.alloc T)) (hd:gG ops [i] l=true) (hz:zeroOf P T=some z)
   (h:∀ b,bt false l ((d,.pointer (some ⟨b,0,none⟩))::σ) (obj b T z.cells.toList::aa)):bt false (i::l) σ aa
 |mI {i d:Nat} {l:List Nat} {σ:List (Nat × Value)} {aa ζ:List az} {f:FuncId} {x:Operand} {xs:Array Operand} {ts:Array TypeId} {b9:List Value} {K:Value→List az→Prop} {X:List PanicEntry→List az→Prop} {first cap:Array Value} {args:Array Value}
   (ho:cA ops i n σ d (.call ⟨.value x,xs,ts⟩)) (hx:aE σ x=some (.func (.func f) first cap)) (hc:ed P f=true)
   (hv:e8 σ xs.toList=some b9) (hargs:first++b9.toArray++cap=args) (con:aj P f args g.h aa (dg K X))
   (hp:∀ (a:Act) ch au w,X ch au →ax w g (au ++ζ)→gE P fn a.tmps R D (.panicking ch) w) (h:∀ v au,K v au →bt false l ((d,v)::σ) (au ++ζ)):bt true (i::l) σ (aa++ζ)
 |kQ {i d:Nat} {op:Op} {l:List Nat} {σ:List (Nat × Value)} {aa:List az} {K:Value→List az→Prop} (ho:cA ops i n σ d op) (hna:jK op=false) (eb:∀ ζ,dj P op σ g (aa++ζ) fun v au =>∃ eX,K v eX∧au =eX++ζ)
   (h:∀ v au,K v au →bt false l ((d,v)::σ) au):bt true (i::l) σ aa
 |o7 {i:Nat} {op:Op} {l:List Nat} {σ:List (Nat × Value)} {aa au :List az} (ho:nN ops i=some op) (hna:jK op=false) (eb:∀ ζ,KD P op σ g (aa++ζ) (au ++ζ)) (h:bt false l σ au):bt true (i::l) σ aa
 |tK {i:Nat} {op:Op} {σ:List (Nat × Value)} {aa au :List az} {g' :bp} (ho:nN ops i=some op) (hna:jK op=false) (hl:NF ops i=true)
   (eb:∀ (o:Oper) (ρ:Operand→Value) (w:World),o.op=op→oN σ ρ→ax w g aa→∃ w' u,(execOp ρ o).run P w=.ok u w' ∧(u=.skip∨∃ v,u=.value v)∧ax w' g' au) (h:S none P fn n R k σ D g' au):bt true [i] σ aa
 |one {i:Nat} {l:List Nat} {σ:List (Nat × Value)} {aa:List az} (hd:gG ops [i] l=true) (h:bt true (i::l) σ aa):bt false (i::l) σ aa
 |swap {l:List Nat} {σ:List (Nat × Value)} {aa:List az} (l' :List Nat) (hp:Dx ops l l' =true) (h:bt false l' σ aa):bt false l σ aa
 |alt {l:List Nat} {σ:List (Nat × Value)} {aa:List az} (kn:List Nat) (hok:BY ops kn l=true) (h:∀ i∈kn,bt true (i::l.erase i) σ aa):bt false l σ aa
abbrev ah (l:List Nat) (σ:List (Nat × Value)) (aa:List az):Prop:=bt P fn n R ops k D g false l σ aa
end
theorem ax.Lz {w:World} {g:bp}:∀ {ζ aa:List az},ax w g (ζ++aa)→ax w g aa
 |[],_,h=>h
 |_::ζ,_,h=>ax.Lz (ζ:=ζ) h.drop
theorem aj.abB {P:Program} {f:FuncId} {args:Array Value} {r:Fr} {aa:List az} {K:Value→List az→Prop} (h:aj P f args r aa (aF K)):aj P f args r aa (dg K fun _ _=>False) :=
 h.mono fun e au a=>by
  cases e with
  |returned v=>exact a
  |panicked _=>exact a.elim
  |outgrown=>exact a.elim
section
variable {ro:Option Nat} {P:Program} {fn:Func} {n:Nat} {R:Ending→World→Prop} {ops:Array Oper} {k:List Item} {D:List Deferred} {g:bp}
theorem bt.weaken {bZ:Bool} {l:List Nat} {σ' :List (Nat × Value)} {aa:List az} (h:bt P fn n R ops k D g bZ l σ' aa):∀ {σ:List (Nat × Value)},Sub σ' σ→bt P fn n R ops k D g bZ l σ aa:=by
 have FI:∀ {σ σ' :List (Nat × Value)},Sub σ' σ→∀ {x:Operand} {v:Value},aE σ' x=some v→aE σ x=some v:=by
  intro σ σ' hs x v hx
  cases x with
  |tmp t=>exact hs t v hx
  |const u=>exact hx
  |global g=>exact hx
  |func f=>exact hx
 have SQ:∀ {σ σ' :List (Nat × Value)},Sub σ' σ→∀ {xs:List Operand} {vs:List Value},e8 σ' xs=some vs→e8 σ xs=some vs:=by
  intro σ σ' hs xs
  induction xs with
  |nil=>intro vs h;exact h
  |cons x xs ih =>
   intro vs h
   simp only [e8] at h ⊢
   split at h
   ·rename_i v us hv gP;cases h;rw [FI hs hv,ih gP]
   ·cases h
 have Db:∀ {σ σ' :List (Nat × Value)} {ρ:Operand→Value},Sub σ' σ→oN σ ρ→oN σ' ρ:=fun hs hk x v hx=>hk x v (FI hs hx);have F6:∀ {σ σ' :List (Nat × Value)} {i d:Nat} {op:Op},Sub σ' σ→cA ops i n σ' d op→cA ops i n σ d op:=by
  intro σ σ' i d op hs hf
  cases hf with
  |p h=>exact .p h
  |g h hl=>exact .g h (hs _ _ hl)
 have ext:∀ {σ σ' :List (Nat × Value)} {d:Nat} {v:Value},Sub σ' σ→Sub ((d,v)::σ') ((d,v)::σ):=by
  intro σ σ' d v hs t u hu
  simp only [look] at hu ⊢
  split at hu
  ·exact hu
  ·exact hs _ _ hu
 induction h with
 |nil h=>intro σ hs;exact .nil (S.weaken hs h)
 |quiet ho hna eb h ih=>intro σ hs;exact .quiet (F6 hs ho) hna (fun aa o ρ w h1 h2 h3=>eb aa o ρ w h1 (Db hs h2) h3) (ih (ext hs))
 |no ho hna hl uV h ih=>intro σ hs;exact .no ho hna (hs _ _ hl) uV (ih (ext hs))
 |lazy ho hd hz h ih=>intro σ hs;exact .lazy ho hd hz fun b=>ih b (ext hs)
 |mI ho hx hc hv hargs con hp h ih=>intro σ hs;exact .mI (F6 hs ho) (FI hs hx) hc (SQ hs hv) hargs con hp fun v au hk=>ih v au hk (ext hs)
 |kQ ho hna eb h ih=>intro σ hs;exact .kQ (F6 hs ho) hna (fun ζ o ρ w h1 h2 h3=>eb ζ o ρ w h1 (Db hs h2) h3) fun v au hk=>ih v au hk (ext hs)
 |o7 ho hna eb h ih=>intro σ hs;exact .o7 ho hna (fun ζ o ρ w h1 h2 h3=>eb ζ o ρ w h1 (Db hs h2) h3) (ih hs)
 |tK ho hna hl eb h=>intro σ hs;exact .tK ho hna hl (fun o ρ w h1 h2 h3=>eb o ρ w h1 (Db hs h2) h3) (S.weaken hs h)
 |one hd h ih=>intro σ hs;exact .one hd (ih hs)
 |swap l' hp h ih=>intro σ hs;exact .swap l' hp (ih hs)
 |alt kn hok h ih=>intro σ hs;exact .alt kn hok fun i hi=>ih i hi hs
theorem ah.weaken {l:List Nat} {σ' :List (Nat × Value)} {aa:List az} (h:ah P fn n R ops k D g l σ' aa):∀ {σ:List (Nat × Value)},Sub σ' σ→ah P fn n R ops k D g l σ aa:=bt.weaken h
def fX (bZ:Bool) (ops:Array Oper) (i:Nat) (l:List Nat):Bool:=bZ ||gG ops [i] l
theorem bt.head {bZ:Bool} {i:Nat} {l:List Nat} {σ:List (Nat × Value)} {aa:List az} (hd:fX bZ ops i l=true) (h:bt P fn n R ops k D g true (i::l) σ aa):bt P fn n R ops k D g bZ (i::l) σ aa:=by
 cases bZ
 ·exact .one (by simpa [fX] using hd) h
 ·exact h
theorem ah.kZ {l:List Nat} {σ:List (Nat × Value)} {aa:List az} (a b:Nat) (la lb:List Nat) (hok:BY ops [a,b] l=true) (ha:l.erase a=la) (hb:l.erase b=lb)
  (h1:bt P fn n R ops k D g true (a::la) σ aa) (h2:bt P fn n R ops k D g true (b::lb) σ aa):ah P fn n R ops k D g l σ aa:=by
 subst ha;subst hb;refine .alt [a,b] hok fun i hi=>?_
 rcases List.mem_cons.1 hi with rfl|hi
 ·exact h1
 ·rw [List.mem_singleton.1 hi];exact h2
theorem eo.mI {i d:Nat} {l:List Nat} {σ:List (Nat × Value)} {aa ζ:List az} {f:FuncId} {x:Operand} {xs:Array Operand} {ts:Array TypeId} {b9:List Value} {K:Value→List az→Prop} {X:List PanicEntry→List az→Prop} {first cap:Array Value} {args:Array Value}
   (ho:cA ops i n σ d (.call ⟨.value x,xs,ts⟩)) {bZ:Bool} (hd:fX bZ ops i l=true) (hx:aE σ x=some (.func (.func f) first cap)) (hc:ed P f=true)
   (hv:e8 σ xs.toList=some b9) (hargs:first++b9.toArray++cap=args) (con:aj P f args g.h aa (dg K X))
   (hp:∀ (a:Act) ch au w,X ch au →ax w g (au ++ζ)→gE P fn a.tmps R D (.panicking ch) w) (h:∀ v au,K v au →ah P fn n R ops k D g l ((d,v)::σ) (au ++ζ)):bt P fn n R ops k D g bZ (i::l) σ (aa++ζ) :=
 bt.head hd (bt.mI ho hx hc hv hargs con hp h)
theorem ah.mI {i d:Nat} {l:List Nat} {σ:List (Nat × Value)} {aa ζ:List az} {f:FuncId} {x:Operand} {xs:Array Operand} {ts:Array TypeId} {b9:List Value} {K:Value→List az→Prop} {X:List PanicEntry→List az→Prop} {first cap:Array Value} {args:Array Value} (ho:cA ops i n σ d (.call ⟨.value x,xs,ts⟩)) (hd:gG ops [i] l=true) (hx:aE σ x=some (.func (.func f) first cap)) (hc:ed P f=true) (hv:e8 σ xs.toList=some b9) (hargs:first++b9.toArray++cap=args) (con:aj P f args g.h aa (dg K X)) (hp:∀ (a:Act) ch au w,X ch au →ax w g (au ++ζ)→gE P fn a.tmps R D (.panicking ch) w) (h:∀ v au,K v au →ah P fn n R ops k D g l ((d,v)::σ) (au ++ζ)):ah P fn n R ops k D g (i::l) σ (aa++ζ):=eo.mI (bZ:=false) ho (by simpa [fX] using hd) hx hc hv hargs con hp h
theorem eo.kQ {i d:Nat} {op:Op} {l:List Nat} {σ:List (Nat × Value)} {aa:List az} {K:Value→List az→Prop} (ho:cA ops i n σ d op) (hna:jK op=false) {bZ:Bool} (hd:fX bZ ops i l=true) (eb:∀ ζ,dj P op σ g (aa++ζ) fun v au =>∃ eX,K v eX∧au =eX++ζ)
   (h:∀ v au,K v au →ah P fn n R ops k D g l ((d,v)::σ) au):bt P fn n R ops k D g bZ (i::l) σ aa:=bt.head hd (bt.kQ ho hna eb h)
theorem ah.kQ {i d:Nat} {op:Op} {l:List Nat} {σ:List (Nat × Value)} {aa:List az} {K:Value→List az→Prop} (ho:cA ops i n σ d op) (hna:jK op=false) (hd:gG ops [i] l=true) (eb:∀ ζ,dj P op σ g (aa++ζ) fun v au =>∃ eX,K v eX∧au =eX++ζ) (h:∀ v au,K v au →ah P fn n R ops k D g l ((d,v)::σ) au):ah P fn n R ops k D g (i::l) σ aa:=eo.kQ (bZ:=false) ho hna (by simpa [fX] using hd) eb h
theorem eo.o7 {i:Nat} {op:Op} {l:List Nat} {σ:List (Nat × Value)} {aa au :List az} (ho:nN ops i=some op) (hna:jK op=false) {bZ:Bool} (hd:fX bZ ops i l=true) (eb:∀ ζ,mB P op σ g (aa++ζ) (au ++ζ)) (h:ah P fn n R ops k D g l σ au):bt P fn n R ops k D g bZ (i::l) σ aa:=bt.head hd (bt.o7 ho hna (fun ζ=>(eb ζ).v) h)
theorem eo.call {i d:Nat} {l:List Nat} {σ:List (Nat × Value)} {aa ζ:List az} {f:FuncId} {x:Operand} {xs:Array Operand} {ts:Array TypeId} {b9:List Value} {K:Value→List az→Prop} {first cap:Array Value} {args:Array Value}
  (ho:cA ops i n σ d (.call ⟨.value x,xs,ts⟩)) {bZ:Bool} (hd:fX bZ ops i l=true) (hx:aE σ x=some (.func (.func f) first cap)) (hc:ed P f=true)
  (hv:e8 σ xs.toList=some b9) (hargs:first++b9.toArray++cap=args) (con:aj P f args g.h aa (aF K)) (h:∀ v au,K v au →ah P fn n R ops k D g l ((d,v)::σ) (au ++ζ)):bt P fn n R ops k D g bZ (i::l) σ (aa++ζ) :=
 eo.mI ho hd hx hc hv hargs con.abB (fun _ _ _ _ hX _=>hX.elim) h
theorem ah.zF {l:List Nat} {σ:List (Nat × Value)} {aa:List az} {b:Bool} (t:Nat) (hl:look σ t=some (.bool b)) (ht:b=true→ah P fn n R ops k D g l ((t,.bool true)::σ) aa)
  (hf:b=false→ah P fn n R ops k D g l ((t,.bool false)::σ) aa):ah P fn n R ops k D g l σ aa:=by
 cases b
 ·exact (hf rfl).weaken (σ:=σ) (Sub.cons hl Sub.refl)
 ·exact (ht rfl).weaken (σ:=σ) (Sub.cons hl Sub.refl)
theorem ah.RD {l:List Nat} {σ:List (Nat × Value)} {aa:List az} {p:Prop} [Decidable p] (t:Nat) (hl:look σ t=some (.bool (decide p))) (ht:p→ah P fn n R ops k D g l ((t,.bool true)::σ) aa)
  (hf:¬p→ah P fn n R ops k D g l ((t,.bool false)::σ) aa):ah P fn n R ops k D g l σ aa :=
 ah.zF t hl (fun h=>ht (of_decide_eq_true h)) (fun h=>hf (of_decide_eq_false h))
theorem IQ:∀ {l:List Nat},AU l=true→l.Nodup
 |[],_=>.nil
 |i::l,h=>by
  simp only [AU,Bool.and_eq_true,Bool.not_eq_true',List.contains_eq_mem,decide_eq_false_iff_not] at h;exact List.nodup_cons.2 ⟨h.1,IQ h.2⟩
def xx (ops:Array Oper) (listed:Array Bool):Prop :=
 ∀ i o,ops[i]?=some o→listed.getD i true=true→i<ops.size→∀ e∈o.after,binds .any e=true→listed.getD e.on false=true
theorem GC {listed:Array Bool} (hc:xx ops listed) (hs:listed.size=ops.size) (j:Nat):∀ (f i:Nat),(∀ o,ops[i]?=some o→∀ e∈o.after,binds .any e=true→listed.getD e.on false=true)→Ac ops j f i=true→listed.getD j false=true
 |0,_,_,h=>by cases h
 |f+1,i,ha,h=>by
  simp only [Ac] at h
  cases ho:ops[i]? with
  |none=>rw [ho] at h;cases h
  |some o =>
   rw [ho] at h;obtain ⟨p,hp,hb⟩:=Array.any_eq_true.1 h;simp only [Bool.and_eq_true,Bool.or_eq_true] at hb;have he:=ha o ho o.after[p] (Array.getElem_mem hp) hb.1
   rcases hb.2 with q|q
   ·rwa [Nat.eq_of_beq_eq_true q] at he
   ·refine GC hc hs j f _ (fun o' ho' e' he' hb' =>?_) q
    have hlt:=(Array.getElem?_eq_some_iff.1 ho').1;refine hc _ o' ho' ?_ hlt e' he' hb';simp only [Array.getD_eq_getD_getElem?] at he ⊢;rw [Array.getElem?_eq_getElem (by omega)] at he ⊢
    simpa using he
theorem Cn {listed:Array Bool} (hc:xx ops listed) (hs:listed.size=ops.size):∀ (l acc:List Nat),gG ops acc l=true→(∀ c∈acc,listed.getD c false=false) →
  ∀ i∈l,qp ops i=false→i<ops.size→i ∉ ready .any ops listed∧listed.getD i false=false
 |[],_,_,_,_,hi,_,_=>by cases hi
 |j::l,acc,h,hacc,i,hi,hna,hlt=>by
  simp only [gG] at h
  cases hj:qp ops j with
  |true =>
   rw [hj] at h
   rcases List.mem_cons.1 hi with rfl|hi
   ·rw [hj] at hna;cases hna
   ·exact Cn hc hs l acc h hacc i hi hna hlt
  |false =>
   rw [hj] at h;simp only [Bool.and_eq_true] at h;obtain ⟨h1,h2⟩:=h
   cases ho:ops[j]? with
   |none=>rw [ho] at h1;cases h1
   |some o =>
    rw [ho] at h1;obtain ⟨p,hp,hb⟩:=Array.any_eq_true.1 h1;have he:o.after[p]∈o.after:=Array.getElem_mem hp;generalize o.after[p]=e at hb he;simp only [Bool.and_eq_true,List.contains_eq_mem,decide_eq_true_eq] at hb;have hun:=hacc e.on hb.2;have vY:j<ops.size:=(Array.getElem?_eq_some_iff.1 ho).1;have key:j ∉ ready .any ops listed∧listed.getD j false=false:=by
     constructor
     ·intro hr
      obtain ⟨_,o',ho',hall⟩:=mem_ready.1 hr;rw [ho] at ho';cases ho';rw [hall e he hb.1] at hun;cases hun
     ·cases hl:listed.getD j false with
      |false=>rfl
      |true =>
       have hl' :listed.getD j true=true:=by
        simp only [Array.getD_eq_getD_getElem?] at hl ⊢
        cases hx:listed[j]? with
        |none=>simp
        |some y=>rw [hx] at hl;simpa using hl
       rw [hc j o ho hl' vY e he hb.1] at hun;cases hun
    rcases List.mem_cons.1 hi with rfl|hi
    ·exact key
    ·refine Cn hc hs l (j::acc) h2 ?_ i hi hna hlt
     intro c j4
     rcases List.mem_cons.1 j4 with rfl|j4
     ·exact key.2
     ·exact hacc c j4
def qi (ops:Array Oper) (o:Oper) (σ:List (Nat × Value)) (a:Act):Prop:=∀ t∈q_ ops o,∀ u,look σ t=some u→a.tmps[t]?=some u
theorem qi.yK {o:Oper} {σ:List (Nat × Value)} {a:Act} (hs:∀ cs b,o.op≠.select cs b) (h:qi ops o σ a):∃ ρ,oN σ ρ∧execOp a.eval o=execOp ρ o∧∀ x∈o.op.operands,a.eval x=ρ x:=by
 have key:∀ x∈o.op.operands,a.eval x=(aE σ x).getD (a.eval x):=by
  intro x hx
  cases hv:aE σ x with
  |none=>rfl
  |some v =>
   cases x with
   |tmp t =>
    have ht:t∈q_ ops o:=List.mem_append_left _ (List.mem_filterMap.2 ⟨.tmp t,by simpa using hx,rfl⟩);have:=h t ht v hv
    simp [Act.eval,Array.getD_eq_getD_getElem?,this]
   |const u=>simpa [aE,Act.eval] using hv
   |global g=>simpa [aE,Act.eval] using hv
   |func f=>simpa [aE,Act.eval] using hv
 exact ⟨fun x=>(aE σ x).getD (a.eval x),fun x v hv=>by simp [hv],execOp_congr o hs key,key⟩
theorem cA.at {i d:Nat} {σ:List (Nat × Value)} {op:Op} (h:cA ops i n σ d op) :
  ∃ o,ops[i]?=some o∧o.dst=some d∧o.op=op∧Nat.blt d n=true∧∀ a,qi ops o σ a→Region.wanted o (yielded ops a.tmps)=true:=by
 cases h with
 |p h =>
  obtain ⟨o,h1,h2,h3,h4,h5⟩:=Dq h;exact ⟨o,h1,h2,h3,h5,fun a _=>by simp [Region.wanted,h4]⟩
 |g h hl =>
  obtain ⟨o,j,oj,hi,iO,hop,hg,hj,ht,hb⟩:=u3 h;refine ⟨o,hi,iO,hop,hb,fun a ha=>?_⟩;have:=ha _ (List.mem_append_right _ (by simp only [hg,hj,ht];exact List.mem_singleton.2 rfl)) _ hl
  simp [Region.wanted,hg,yielded,hj,ht,this]
def oO (P:Program) (ops:Array Oper) (n:Nat) (_:List Deferred) (g:bp) (σ:List (Nat × Value)) (i:Nat):Prop :=
 ∃ o d v,ops[i]?=some o∧o.dst=some d∧Nat.blt d n=true∧look σ d=some v ∧
  ∀ (a:Act) (w:World) (aa:List az) (xy:Act→World→Prop) (Q:Exit→Act→World→Prop),ax w g aa→qi ops o σ a →
   (∀ w',ax w' g aa→xy (a.put (some d) v) w')→wpOp P ops Q i xy a w
theorem yu {d t:Nat} {v:Value} {σ:List (Nat × Value)} (h:t≠d):look ((d,v)::σ) t=look σ t:=by
 simp only [look]
 split
 ·rename_i hb;exact (h (Nat.eq_of_beq_eq_true hb).symm).elim
 ·rfl
theorem look_eq {d:Nat} {v:Value} {σ:List (Nat × Value)}:look ((d,v)::σ) d=some v:=by simp [look]
theorem qi.ext {o:Oper} {σ:List (Nat × Value)} {a:Act} {d:Nat} {v:Value} (hn:d ∉ q_ ops o):qi ops o ((d,v)::σ) a↔qi ops o σ a:=by
 constructor
 ·intro h t ht u hu;exact h t ht u (by rw [yu (by rintro rfl;exact hn ht)];exact hu)
 ·intro h t ht u hu;exact h t ht u (by rwa [yu (by rintro rfl;exact hn ht)] at hu)
theorem oO.ext {σ:List (Nat × Value)} {i d:Nat} {v:Value} (h:oO P ops n D g σ i) (hn:∀ o,ops[i]?=some o→d ∉ q_ ops o∧o.dst≠some d):oO P ops n D g ((d,v)::σ) i:=by
 obtain ⟨o,d',v',h1,h2,h3,h4,h5⟩:=h;obtain ⟨n1,n2⟩:=hn o h1;have hne:d' ≠d:=by rintro rfl;exact n2 h2
 exact ⟨o,d',v',h1,h2,h3,by rw [yu hne];exact h4,fun a w aa xy Q hw ha hk=>h5 a w aa xy Q hw ((qi.ext n1).1 ha) hk⟩
theorem oO.quiet {i d:Nat} {op:Op} {v:Value} {σ:List (Nat × Value)} (hsel:Region.noSelect ops=true) (ho:cA ops i n σ d op) (eb:∀ aa,aK P op σ g aa v aa)
  (hn:∀ o,ops[i]?=some o→d ∉ q_ ops o):oO P ops n D g ((d,v)::σ) i:=by
 obtain ⟨o,hi,iO,hop,hb,hw⟩:=ho.at;refine ⟨o,d,v,hi,iO,hb,look_eq,fun a w aa xy Q hh ha hk=>?_⟩;have ha:=(qi.ext (hn o hi)).1 ha;obtain ⟨ρ,hkn,he,_⟩:=ha.yK (fun cs b=>Region.noSelect_spec hsel i o cs b hi);obtain ⟨w',hrun,hw'⟩:=eb aa o ρ w hop hkn hh;simp only [wpOp,hi,hw a ha,if_true];refine .inl ?_;unfold Oper.wp;rw [he,hrun,Oper.upon_value,iO];exact hk w' hw'
theorem oO.no {i d t:Nat} {op:Op} {b:Bool} {σ:List (Nat × Value)} {v:Value} (ho:u0 ops i n=some (d,op,t,b)) (hl:look σ t=some v) (uV:tQ b v=true)
  (hn:∀ o,ops[i]?=some o→d ∉ q_ ops o):oO P ops n D g ((d,undef)::σ) i:=by
 obtain ⟨o,j,oj,hi,iO,hop,hg,hj,ht,hb⟩:=u3 ho;refine ⟨o,d,undef,hi,iO,hb,look_eq,fun a w aa xy Q hh ha hk=>?_⟩;have ha:=(qi.ext (hn o hi)).1 ha;have:=ha _ (List.mem_append_right _ (by simp only [hg,hj,ht];exact List.mem_singleton.2 rfl)) _ hl;have hw:Region.wanted o (yielded ops a.tmps)=false:=by
  cases v<;>simp [Region.wanted,hg,yielded,hj,ht,this]
  cases b<;>simp_all [tQ]
 simp only [wpOp,hi,hw,Bool.false_eq_true,if_false,iO];exact hk w hh
def n4 (P:Program) (ops:Array Oper) (x:Nat × Nat):az :=
 match ops[x.1]? with
 |some o=>match o.op with|.alloc T=>obj x.2 T (((zeroOf P T).map (·.cells.toList)).getD [])|_=>fun _=>True
 |none=>fun _=>True
structure Inv (P:Program) (ops:Array Oper) (n:Nat) (D:List Deferred) (g:bp) (listed:Array Bool) (bz l0:List Nat) (σ:List (Nat × Value)) (aa:List az) (a:Act) (w:World) (X:List (Nat × Nat)):Prop where
 size:listed.size=ops.size
 closed:xx ops listed
 x1:∀ x∈X,x.1∈l0∧listed.getD x.1 false=true∧∃ o d,ops[x.1]?=some o∧jK o.op=true∧o.dst=some d∧a.tmps[d]?=some (.pointer (some ⟨x.2,0,none⟩))
 bC:∀ i∈l0,listed.getD i false=true→∃ b,(i,b)∈X
 xn:(X.map (·.1)).Nodup
 u5:∀ i∈bz,listed.getD i false=false→oO P ops n D g σ i
 len:a.tmps.size=n
 defers:a.defers=D
 cF:∀ j∈bz,listed.getD j false=false→pn ops j=true
 frame:∀ t v,look σ t=some v→(∀ j o,ops[j]?=some o→o.dst=some t→(listed.getD j false=true↔j∈bz))→a.tmps[t]?=some v
 holds:ax w g (X.map (n4 P ops)++aa)
structure lA (P:Program) (n:Nat) (ops:Array Oper) (l0:List Nat):Prop where
 nodup:l0.Nodup
 all:∀ i,i<ops.size→i∈l0
 lt:∀ i∈l0,i<ops.size
 after:∀ (bz:List Nat) (i:Nat) (l:List Nat),l0=bz++i::l→∀ o,ops[i]?=some o→∀ e∈o.after,binds .any e=true→e.on∈bz
 reads:∀ (i:Nat) (o:Oper) (j:Nat) (oj:Oper) (d:Nat),ops[i]?=some o→ops[j]?=some oj→oj.dst=some d→d∈q_ ops o→(∃ e∈o.after,binds .any e=true∧e.on=j)∨∃ e∈oj.after,binds .any e=true∧e.on=i
 dst:∀ (i:Nat) (o:Oper) (j:Nat) (oj:Oper) (d:Nat),ops[i]?=some o→ops[j]?=some oj→o.dst=some d→oj.dst=some d→i=j
 eJ:Region.noSelect ops=true
 alloc:∀ (i:Nat) (o:Oper) (T:TypeId),ops[i]?=some o→o.op=.alloc T→(∃ z,zeroOf P T=some z)∧o.guard=none∧∃ d,o.dst=some d∧Nat.blt d n=true
 JY:∀ i,qp ops i=true→pn ops i=true
 D9:∀ (bz:List Nat) (i:Nat) (l:List Nat),l0=bz++i::l→l≠[]→pn ops i=true
theorem K0:∀ (l bz:List Nat),BW ops bz l=true→∀ pre i post,l=pre++i::post→∀ o,ops[i]?=some o→∀ e∈o.after,binds .any e=true→e.on∈bz∨e.on∈pre
 |[],_,_,pre,i,post,h,_,_,_,_,_=>by cases pre<;>cases h
 |j::l,bz,h,pre,i,post,hl,o,ho,e,he,hb=>by
  simp only [BW,Bool.and_eq_true] at h
  cases pre with
  |nil =>
   simp only [List.nil_append,List.cons.injEq] at hl;obtain ⟨rfl,rfl⟩:=hl;have h1:=h.1;rw [ho] at h1;have:=Array.all_eq_true_iff_forall_mem.1 h1 e he
   simp [hb] at this
   exact .inl this
  |cons p pre =>
   simp only [List.cons_append,List.cons.injEq] at hl;obtain ⟨rfl,rfl⟩:=hl
   rcases K0 _ (j::bz) h.2 pre i post rfl o ho e he hb with h|h
   ·rcases List.mem_cons.1 h with h|h
    ·exact .inr (List.mem_cons.2 (.inl h))
    ·exact .inl h
   ·exact .inr (List.mem_cons_of_mem _ h)
theorem ZQ {l0:List Nat} (h:Dr P n ops l0=true):lA P n ops l0:=by
 simp only [Dr,Bool.and_eq_true,List.all_eq_true,decide_eq_true_eq] at h;obtain ⟨⟨⟨⟨⟨⟨⟨⟨h1,h2⟩,h3⟩,h4⟩,h5⟩,h6⟩,h7⟩,h8⟩,h9⟩:=h;simp only [K1,Bool.and_eq_true] at h8;obtain ⟨Ud,h8⟩:=h8;have fm:=IQ h1;refine ⟨fm,?_,h3,?_,?_,?_,h7,?_,?_,?_⟩
 ·intro i hi
  simpa using h2 i (List.mem_range.2 hi)
 ·intro bz i l hl o ho e he hb
  rcases K0 l0 [] h4 bz i l hl o ho e he hb with h|h
  ·cases h
  ·exact h
 ·intro i o j oj d ho nB hd hm
  have hi:i<ops.size:=(Array.getElem?_eq_some_iff.1 ho).1;have hj:j<ops.size:=(Array.getElem?_eq_some_iff.1 nB).1;have:=List.all_eq_true.1 h5 i (List.mem_range.2 hi);rw [ho] at this;have:=List.all_eq_true.1 (List.all_eq_true.1 this d hm) j (List.mem_range.2 hj);simp only [nB,hd,bne_self_eq_false,Bool.false_or,Bool.or_eq_true] at this
  rcases this with this|this
  ·obtain ⟨p,hp,hb⟩:=Array.any_eq_true.1 this
   simp only [Bool.and_eq_true,beq_iff_eq] at hb;exact .inl ⟨o.after[p],Array.getElem_mem hp,hb.1,hb.2⟩
  ·obtain ⟨p,hp,hb⟩:=Array.any_eq_true.1 this
   simp only [Bool.and_eq_true,beq_iff_eq] at hb;exact .inr ⟨oj.after[p],Array.getElem_mem hp,hb.1,hb.2⟩
 ·intro i o j oj d ho nB hd eR
  have hi:i<ops.size:=(Array.getElem?_eq_some_iff.1 ho).1;have hj:j<ops.size:=(Array.getElem?_eq_some_iff.1 nB).1;have:=List.all_eq_true.1 (List.all_eq_true.1 h6 i (List.mem_range.2 hi)) j (List.mem_range.2 hj);simp only [ho,nB,hd,eR] at this
  simpa using this
 ·intro i o T ho hT
  have:=Array.all_eq_true_iff_forall_mem.1 h8 o (Array.mem_of_getElem? ho);rw [hT] at this;simp only [Bool.and_eq_true,Option.isSome_iff_exists,Option.isNone_iff_eq_none] at this;obtain ⟨⟨h1,h2⟩,h3⟩:=this;refine ⟨h1,h2,?_⟩
  cases hd:o.dst with
  |none=>rw [hd] at h3;cases h3
  |some d=>rw [hd] at h3;exact ⟨d,rfl,h3⟩
 ·intro i hi
  by_cases hlt:i<ops.size
  ·have:=List.all_eq_true.1 Ud i (List.mem_range.2 hlt)
   simpa [hi] using this
  ·simp [pn,Array.getElem?_eq_none (Nat.le_of_not_lt hlt)]
 ·intro bz i l hl hne
  refine h9 i ?_;rw [hl,List.dropLast_append_of_ne_nil (by simp),List.dropLast_cons_of_ne_nil hne];simp
theorem P2 {i:Nat} {oi:Oper} {d:Nat} (h:pn ops i=true) (hi:ops[i]?=some oi) (hd:oi.dst=some d):∀ (j:Nat) (o:Oper),ops[j]?=some o→d∈q_ ops o→∃ e∈o.after,binds .any e=true∧e.on=i:=by
 intro j o ho hm
 simp only [pn,hi,hd] at h;have:=List.all_eq_true.1 h j (List.mem_range.2 (Array.getElem?_eq_some_iff.1 ho).1);simp only [ho,List.contains_eq_mem,Bool.or_eq_true,Bool.not_eq_true',decide_eq_false_iff_not,hm,not_true_eq_false,false_or] at this;obtain ⟨p,hp,hb⟩:=Array.any_eq_true.1 this;simp only [Bool.and_eq_true,beq_iff_eq] at hb;exact ⟨o.after[p],Array.getElem_mem hp,hb.1,hb.2⟩
theorem od {listed:Array Bool} {i:Nat} (hi:i<listed.size) (b c:Bool):listed.getD i b=listed.getD i c:=by
 simp [Array.getD_eq_getD_getElem?,hi]
theorem lA.fresh {l0 bz l:List Nat} {i:Nat} (hok:lA P n ops l0) (hst:pn ops i=true) (hl:l0=bz++i::l) {oi:Oper} {d:Nat} (hi:ops[i]?=some oi) (hd:oi.dst=some d) :
  ∀ j o,j∈bz∨j=i→ops[j]?=some o→d ∉ q_ ops o:=by
 intro j o hj ho hm
 obtain ⟨e,he,hb,mi⟩:=P2 hst hi hd j o ho hm;have fm:=hok.nodup;rw [hl] at fm;have hin:i∈bz:=by
  rcases hj with hj|rfl
  ·obtain ⟨p,q,rfl⟩:=List.append_of_mem hj
   have:=hok.after p j (q++i::l) (by rw [hl];simp) o ho e he hb;rw [mi] at this
   simp [this]
  ·have:=hok.after bz j l hl o ho e he hb
   rwa [mi] at this
 rw [List.nodup_append] at fm;exact fm.2.2 i hin i (by simp) rfl
theorem xx.set {listed:Array Bool} {i:Nat} {o:Oper} (hc:xx ops listed) (ho:ops[i]?=some o) (hr:i∈ready .any ops listed):xx ops (listed.setIfInBounds i true):=by
 intro j oj hj hl hlt e he hb
 by_cases hij:i=j
 ·subst hij
  rw [ho] at hj;cases hj;obtain ⟨_,o',ho',hall⟩:=mem_ready.1 hr;rw [ho] at ho';cases ho';exact getD_set_true (hall e he hb)
 ·rw [getD_set_ne true hij] at hl
  exact getD_set_true (hc j oj hj hl hlt e he hb)
theorem Inv.done {listed:Array Bool} {bz l0:List Nat} {σ:List (Nat × Value)} {aa:List az} {a:Act} {w w' :World} {X:List (Nat × Nat)} {i d:Nat} {o:Oper} {v:Value} {L:List Nat} (hok:lA P n ops L) (hL:L=bz++l0)
  (hv:Inv P ops n D g listed bz l0 σ aa a w X) (hr:i∈ready .any ops listed) (hi:ops[i]?=some o) (hd:o.dst=some d) (hb:Nat.blt d n=true) (hm:i∈bz) (hl:look σ d=some v)
  (hw:ax w' g (X.map (n4 P ops)++aa)):Inv P ops n D g (listed.setIfInBounds i true) bz l0 σ aa (a.put (some d) v) w' X:=by
 have hdn:Nat.blt d n=true:=hb;have tg:d<a.tmps.size:=by rw [hv.len];exact of_decide_eq_true (by simpa [Nat.blt_eq] using hdn)
 have pQ:i<listed.size:=by rw [hv.size];exact (Array.getElem?_eq_some_iff.1 hi).1
 have fm:=hok.nodup;rw [hL,List.nodup_append] at fm;have jl:∀ t,t≠d→(a.put (some d) v).tmps[t]?=a.tmps[t]?:=fun t ht=>by simp [Act.put,Array.getElem?_setIfInBounds_ne (Ne.symm ht)]
 refine ⟨by simp [hv.size],hv.closed.set hi hr,?_,?_,hv.xn,?_,by simp [Act.put,hv.len],by simpa [Act.put] using hv.defers,?_,?_,hw⟩
 ·intro x hx
  obtain ⟨h1,h2,o',d',h3,h4,h5,h6⟩:=hv.x1 x hx;refine ⟨h1,getD_set_true h2,o',d',h3,h4,h5,?_⟩;rw [jl d' ?_];exact h6;rintro rfl;have:=hok.dst x.1 o' i o d' h3 hi h5 hd;rw [this] at h1;exact fm.2.2 i hm i h1 rfl
 ·intro j hj dA
  have hij:i≠j:=by rintro rfl;exact fm.2.2 i hm i hj rfl
  rw [getD_set_ne false hij] at dA;exact hv.bC j hj dA
 ·intro j hj dA
  by_cases hij:i=j
  ·subst hij
   simp [pQ] at dA
  ·rw [getD_set_ne false hij] at dA
   exact hv.u5 j hj dA
 ·intro j hj dA
  by_cases hij:i=j
  ·subst hij
   simp [pQ] at dA
  ·rw [getD_set_ne false hij] at dA
   exact hv.cF j hj dA
 ·intro t u hu hall
  by_cases ht:t=d
  ·subst ht
   rw [hl] at hu;cases hu
   simp [Act.put,Array.getElem?_setIfInBounds_self_of_lt tg]
  ·rw [jl t ht]
   refine hv.frame t u hu fun j oj hj eR=>?_;have q1:=hall j oj hj eR;have hij:i≠j:=by rintro rfl;rw [hi] at hj;cases hj;rw [hd] at eR;cases eR;exact ht rfl
   rwa [getD_set_ne false hij] at q1
theorem Inv.wait {listed:Array Bool} {bz l:List Nat} {σ:List (Nat × Value)} {aa:List az} {a:Act} {w:World} {X:List (Nat × Nat)} {i d:Nat} {o:Oper} {v:Value} {L:List Nat} (hok:lA P n ops L) (hL:L=bz++i::l)
  (hst:pn ops i=true)
  (hv:Inv P ops n D g listed bz (i::l) σ aa a w X) (hi:ops[i]?=some o) (hd:o.dst=some d) (hu:listed.getD i false=false) (hp:oO P ops n D g ((d,v)::σ) i) :
  Inv P ops n D g listed (bz++[i]) l ((d,v)::σ) aa a w X:=by
 have hfr:=hok.fresh hst hL hi hd;refine ⟨hv.size,hv.closed,?_,fun j hj=>hv.bC j (List.mem_cons_of_mem _ hj),hv.xn,?_,hv.len,hv.defers,?_,?_,hv.holds⟩
 ·intro x hx
  obtain ⟨h1,h2,h3⟩:=hv.x1 x hx
  rcases List.mem_cons.1 h1 with h|h
  ·rw [h] at h2;rw [hu] at h2;cases h2
  ·exact ⟨h,h2,h3⟩
 ·intro j hj dA
  rcases List.mem_append.1 hj with hj' |hj
  ·refine (hv.u5 j hj' dA).ext fun oj nB=>⟨hfr j oj (.inl hj') nB,fun h=>?_⟩
   have:=hok.dst j oj i o d nB hi h hd;subst this;have fm:=hok.nodup;rw [hL,List.nodup_append] at fm;exact fm.2.2 j hj' j (by simp) rfl
  ·rw [List.mem_singleton.1 hj];exact hp
 ·intro j hj dA
  rcases List.mem_append.1 hj with hj' |hj
  ·exact hv.cF j hj' dA
  ·rw [List.mem_singleton.1 hj];exact hst
 ·intro t u ht hall
  by_cases nH:t=d
  ·subst nH
   have:=(hall i o hi hd).2 (by simp);rw [hu] at this;cases this
  ·rw [yu nH] at ht
   refine hv.frame t u ht fun j oj hj eR=>?_;have q1:=hall j oj hj eR;have hij:j≠i:=by rintro rfl;rw [hi] at hj;cases hj;rw [hd] at eR;cases eR;exact nH rfl
   simpa [hij] using q1
theorem Inv.meet {listed:Array Bool} {bz l:List Nat} {σ:List (Nat × Value)} {aa:List az} {a:Act} {w:World} {X:List (Nat × Nat)} {i d b:Nat} {o:Oper} {T:TypeId} {z:Value} {L:List Nat} (hok:lA P n ops L) (hL:L=bz++i::l)
  (hv:Inv P ops n D g listed bz (i::l) σ aa a w X) (hi:ops[i]?=some o) (hd:o.dst=some d) (hop:o.op=.alloc T) (hz:zeroOf P T=some z) (hx:(i,b)∈X) :
  ∃ X',Inv P ops n D g listed (bz++[i]) l ((d,.pointer (some ⟨b,0,none⟩))::σ) (obj b T z.cells.toList::aa) a w X' :=by
 obtain ⟨ng,nh,rfl⟩:=List.append_of_mem hx;have hfr:=hok.fresh (hok.JY i (by simp [qp,hi,hop,jK])) hL hi hd;have fm:=hok.nodup;rw [hL,List.nodup_append] at fm;have yg:=hv.xn;simp only [List.map_append,List.map_cons,List.nodup_append,List.nodup_cons] at yg;refine ⟨ng++nh,hv.size,hv.closed,?_,?_,?_,?_,hv.len,hv.defers,?_,?_,?_⟩
 ·intro x HX
  have WR :x∈ng++(i,b)::nh:=by simp only [List.mem_append,List.mem_cons] at HX ⊢;rcases HX with h|h<;>simp [h]
  obtain ⟨h1,h2,h3⟩:=hv.x1 x WR;refine ⟨?_,h2,h3⟩
  rcases List.mem_cons.1 h1 with h|h
  ·exfalso
   rcases List.mem_append.1 HX with q|q
   ·exact yg.2.2 _ (List.mem_map.2 ⟨x,q,rfl⟩) i (by simp) h
   ·exact yg.2.1.1 (h ▸ List.mem_map.2 ⟨x,q,rfl⟩)
  ·exact h
 ·intro j hj dA
  obtain ⟨b',hb'⟩:=hv.bC j (List.mem_cons_of_mem _ hj) dA;refine ⟨b',?_⟩;simp only [List.mem_append,List.mem_cons] at hb' ⊢
  rcases hb' with h|h|h
  ·exact .inl h
  ·cases h;exact ((List.nodup_cons.1 fm.2.1).1 hj).elim
  ·exact .inr h
 ·simp only [List.map_append,List.nodup_append]
  exact ⟨yg.1,yg.2.1.2,fun p hp q hq=>yg.2.2 p hp q (List.mem_cons_of_mem _ hq)⟩
 ·intro j hj dA
  rcases List.mem_append.1 hj with hj' |hj
  ·refine (hv.u5 j hj' dA).ext fun oj nB=>⟨hfr j oj (.inl hj') nB,fun h=>?_⟩
   have:=hok.dst j oj i o d nB hi h hd;subst this;exact fm.2.2 j hj' j (by simp) rfl
  ·rw [List.mem_singleton.1 hj] at dA
   rw [(hv.x1 _ hx).2.1] at dA;cases dA
 ·intro j hj dA
  rcases List.mem_append.1 hj with hj' |hj
  ·exact hv.cF j hj' dA
  ·rw [List.mem_singleton.1 hj] at dA
   rw [(hv.x1 _ hx).2.1] at dA;cases dA
 ·intro t u ht hall
  by_cases nH:t=d
  ·subst nH
   rw [look_eq] at ht;cases ht;obtain ⟨_,_,o',d',h3,_,h5,h6⟩:=hv.x1 _ hx;rw [hi] at h3;cases h3;rw [hd] at h5;cases h5;exact h6
  ·rw [yu nH] at ht
   refine hv.frame t u ht fun j oj hj eR=>?_;have q1:=hall j oj hj eR;have hij:j≠i:=by rintro rfl;rw [hi] at hj;cases hj;rw [hd] at eR;cases eR;exact nH rfl
   simpa [hij] using q1
 ·have e:n4 P ops (i,b)=obj b T z.cells.toList:=by simp [n4,hi,hop,hz]
  refine hv.holds.perm ?_;simp only [List.map_append,List.map_cons,e,List.append_assoc,List.cons_append];exact List.Perm.append_left _ List.perm_middle.symm
theorem Inv.step {listed:Array Bool} {bz l:List Nat} {σ σ' :List (Nat × Value)} {aa au :List az} {a a' :Act} {w w' :World} {X:List (Nat × Nat)} {i:Nat} {o:Oper} {L:List Nat} (hok:lA P n ops L) (hL:L=bz++i::l)
  (hv:Inv P ops n D g listed bz (i::l) σ aa a w X) (hr:i∈ready .any ops listed) (hi:ops[i]?=some o)
  (hd:(o.dst=none∧σ' =σ∧a' =a)∨∃ d v,o.dst=some d∧Nat.blt d n=true∧σ' =(d,v)::σ∧a' =a.put (some d) v)
  (hw:ax w' g (X.map (n4 P ops)++au)):Inv P ops n D g (listed.setIfInBounds i true) (bz++[i]) l σ' au a' w' X:=by
 have pQ:i<listed.size:=by rw [hv.size];exact (Array.getElem?_eq_some_iff.1 hi).1
 have hu:listed.getD i false=false:=by rw [od pQ false true];exact (mem_ready.1 hr).1
 have fm:=hok.nodup;rw [hL,List.nodup_append] at fm;have hni:i ∉ l:=(List.nodup_cons.1 fm.2.1).1;have hx1:∀ x∈X,x.1∈l:=fun x hx=>by
  obtain ⟨h1,h2,_⟩:=hv.x1 x hx
  rcases List.mem_cons.1 h1 with h|h
  ·rw [h,hu] at h2;cases h2
  ·exact h
 refine ⟨by simp [hv.size],hv.closed.set hi hr,?_,?_,hv.xn,?_,?_,?_,?_,?_,hw⟩
 ·intro x hx
  obtain ⟨h1,h2,o',d',h3,h4,h5,h6⟩:=hv.x1 x hx;refine ⟨hx1 x hx,getD_set_true h2,o',d',h3,h4,h5,?_⟩
  rcases hd with ⟨_,_,rfl⟩|⟨d,v,hd,hb,_,rfl⟩
  ·exact h6
  ·have:d' ≠d:=by
    rintro rfl;have:=hok.dst x.1 o' i o d' h3 hi h5 hd;exact hni (this ▸ hx1 x hx)
   simp only [Act.put,Array.getElem?_setIfInBounds_ne (Ne.symm this)];exact h6
 ·intro j hj dA
  have hij:i≠j:=by rintro rfl;exact hni hj
  rw [getD_set_ne false hij] at dA;exact hv.bC j (List.mem_cons_of_mem _ hj) dA
 ·intro j hj dA
  have hij:i≠j:=by rintro rfl;simp [pQ] at dA
  rw [getD_set_ne false hij] at dA;have x9:j∈bz:=by
   rcases List.mem_append.1 hj with h|h
   ·exact h
   ·exact (hij (List.mem_singleton.1 h).symm).elim
  have hp:=hv.u5 j x9 dA
  rcases hd with ⟨_,rfl,_⟩|⟨d,v,hd,hb,rfl,_⟩
  ·exact hp
  ·refine hp.ext fun oj nB=>⟨fun hm=>?_,fun h=>?_⟩
   ·rcases hok.reads j oj i o d nB hi hd hm with ⟨e,he,hb,mi⟩|⟨e,he,hb,mi⟩
    ·obtain ⟨p,q,rfl⟩:=List.append_of_mem x9
     have:=hok.after p j (q++i::l) (by rw [hL];simp) oj nB e he hb;rw [mi] at this;exact fm.2.2 i (by simp [this]) i (by simp) rfl
    ·obtain ⟨_,o',ho',hall⟩:=mem_ready.1 hr
     rw [hi] at ho';cases ho';have:=hall e he hb;rw [mi,dA] at this;cases this
   ·have:=hok.dst j oj i o d nB hi h hd
    exact hij this.symm
 ·rcases hd with ⟨_,_,rfl⟩|⟨d,v,hd,hb,_,rfl⟩
  ·exact hv.len
  ·simp [Act.put,hv.len]
 ·rcases hd with ⟨_,_,rfl⟩|⟨d,v,hd,hb,_,rfl⟩
  ·exact hv.defers
  ·simpa [Act.put] using hv.defers
 ·intro j hj dA
  have hij:i≠j:=by rintro rfl;simp [pQ] at dA
  rw [getD_set_ne false hij] at dA
  rcases List.mem_append.1 hj with h|h
  ·exact hv.cF j h dA
  ·exact (hij (List.mem_singleton.1 h).symm).elim
 ·intro t u ht hall
  have hsub:∀ j oj,ops[j]?=some oj→oj.dst=some t→i≠j→(listed.getD j false=true↔j∈bz):=fun j oj hj eR hij=>by
   have q1:=hall j oj hj eR;rw [getD_set_ne false hij] at q1
   simpa [Ne.symm hij] using q1
  rcases hd with ⟨hn,rfl,rfl⟩|⟨d,v,hd,hb,rfl,rfl⟩
  ·exact hv.frame t u ht fun j oj hj eR=>hsub j oj hj eR (by rintro rfl;rw [hi] at hj;cases hj;rw [hn] at eR;cases eR)
  ·have tg:d<a.tmps.size:=by rw [hv.len];exact of_decide_eq_true (by simpa [Nat.blt_eq] using hb)
   by_cases nH:t=d
   ·subst nH
    rw [look_eq] at ht;cases ht
    simp [Act.put,Array.getElem?_setIfInBounds_self_of_lt tg]
   ·rw [yu nH] at ht
    simp only [Act.put,Array.getElem?_setIfInBounds_ne (Ne.symm nH)];exact hv.frame t u ht fun j oj hj eR=>hsub j oj hj eR (by rintro rfl;rw [hi] at hj;cases hj;rw [hd] at eR;cases eR;exact nH rfl)
theorem Inv.early {listed:Array Bool} {bz l0:List Nat} {σ:List (Nat × Value)} {aa:List az} {a:Act} {w:World} {X:List (Nat × Nat)} {i d:Nat} {o:Oper} {T:TypeId} {z:Value} {L:List Nat} (hok:lA P n ops L) (hL:L=bz++l0)
  (hv:Inv P ops n D g listed bz l0 σ aa a w X) (hr:i∈ready .any ops listed) (hm:i∈l0) (hi:ops[i]?=some o) (hop:o.op=.alloc T) (hz:zeroOf P T=some z) (hd:o.dst=some d) (hb:Nat.blt d n=true) :
  Inv P ops n D g (listed.setIfInBounds i true) bz l0 σ aa (a.put (some d) (.pointer (some ⟨w.heap.size,0,none⟩))) (w.alloc (.cells z.cells T)) ((i,w.heap.size)::X):=by
 have pQ:i<listed.size:=by rw [hv.size];exact (Array.getElem?_eq_some_iff.1 hi).1
 have hu:listed.getD i false=false:=by rw [od pQ false true];exact (mem_ready.1 hr).1
 have tg:d<a.tmps.size:=by rw [hv.len];exact of_decide_eq_true (by simpa [Nat.blt_eq] using hb)
 have fm:=hok.nodup;rw [hL,List.nodup_append] at fm;have AB:∀ x∈X,x.1≠i:=fun x hx h=>by
  obtain ⟨_,h2,_⟩:=hv.x1 x hx;rw [h,hu] at h2;cases h2
 refine ⟨by simp [hv.size],hv.closed.set hi hr,?_,?_,?_,?_,by simp [Act.put,hv.len],by simpa [Act.put] using hv.defers,?_,?_,?_⟩
 ·intro x hx
  rcases List.mem_cons.1 hx with rfl|hx
  ·exact ⟨hm,by simp [pQ],o,d,hi,by simp [hop,jK],hd,by simp [Act.put,Array.getElem?_setIfInBounds_self_of_lt tg]⟩
  ·obtain ⟨h1,h2,o',d',h3,h4,h5,h6⟩:=hv.x1 x hx
   refine ⟨h1,getD_set_true h2,o',d',h3,h4,h5,?_⟩;have:d' ≠d:=by
    rintro rfl;exact AB x hx (hok.dst x.1 o' i o d' h3 hi h5 hd)
   simp only [Act.put,Array.getElem?_setIfInBounds_ne (Ne.symm this)];exact h6
 ·intro j hj dA
  by_cases hij:i=j
  ·subst hij;exact ⟨_,List.mem_cons_self ..⟩
  ·rw [getD_set_ne false hij] at dA
   obtain ⟨b,hb⟩:=hv.bC j hj dA;exact ⟨b,List.mem_cons_of_mem _ hb⟩
 ·simp only [List.map_cons,List.nodup_cons]
  refine ⟨fun h=>?_,hv.xn⟩;obtain ⟨x,hx,WQ⟩:=List.mem_map.1 h;exact AB x hx WQ
 ·intro j hj dA
  have hij:i≠j:=by rintro rfl;simp [pQ] at dA
  rw [getD_set_ne false hij] at dA;exact hv.u5 j hj dA
 ·intro j hj dA
  have hij:i≠j:=by rintro rfl;simp [pQ] at dA
  rw [getD_set_ne false hij] at dA;exact hv.cF j hj dA
 ·intro t u ht hall
  have nH:t≠d:=by
   rintro rfl;exact fm.2.2 i ((hall i o hi hd).1 (by simp [pQ])) i hm rfl
  simp only [Act.put,Array.getElem?_setIfInBounds_ne (Ne.symm nH)];refine hv.frame t u ht fun j oj hj eR=>?_;have q1:=hall j oj hj eR;have hij:i≠j:=by rintro rfl;rw [hi] at hj;cases hj;rw [hd] at eR;cases eR;exact nH rfl
  rwa [getD_set_ne false hij] at q1
 ·have e:n4 P ops (i,w.heap.size)=obj w.heap.size T z.cells.toList:=by simp [n4,hi,hop,hz]
  simp only [List.map_cons,e,List.cons_append];exact hv.holds.EY T z.cells
def left (ops:Array Oper) (listed:Array Bool):Nat:=((List.range ops.size).filter fun i=>!listed.getD i true).length
theorem Yo {listed:Array Bool} {i:Nat} (hs:listed.size=ops.size) (hi:i<ops.size) (hu:listed.getD i true=false):left ops (listed.setIfInBounds i true)<left ops listed:=by
 unfold left;have hsub:((List.range ops.size).filter fun j=>!(listed.setIfInBounds i true).getD j true)=((List.range ops.size).filter fun j=>!listed.getD j true).filter (· !=i):=by
  rw [List.filter_filter]
  apply List.filter_congr
  intro j hj
  by_cases hij:i=j
  ·subst hij
   have:i<listed.size:=by omega
   simp [this]
  ·rw [getD_set_ne true hij]
   have:(j !=i)=true:=by simpa using Ne.symm hij
   simp [this]
 rw [hsub];have hmem:i∈(List.range ops.size).filter fun j=>!listed.getD j true:=List.mem_filter.2 ⟨List.mem_range.2 hi,by rw [hu];rfl⟩;obtain ⟨p,q,hpq⟩:=List.append_of_mem hmem;rw [hpq,List.filter_append,List.filter_cons];simp only [bne_self_eq_false,Bool.false_eq_true,if_false,List.length_append,List.length_cons];have:=List.length_filter_le (· !=i) p;have:=List.length_filter_le (· !=i) q
 omega
theorem Yp {listed:Array Bool} (h:left ops listed=0):∀ i,i<ops.size→listed.getD i true=true:=by
 intro i hi
 cases hl:listed.getD i true with
 |true=>rfl
 |false =>
  have hmem:i∈(List.range ops.size).filter fun j=>!listed.getD j true:=List.mem_filter.2 ⟨List.mem_range.2 hi,by rw [hl];rfl⟩;unfold left at h;rw [List.eq_nil_of_length_eq_zero h] at hmem
  cases hmem
theorem cA.wN {i d:Nat} {σ:List (Nat × Value)} {op:Op} (h:cA ops i n σ d op):∃ o,ops[i]?=some o∧o.op=op∧o.dst=some d∧Nat.blt d n=true:=by
 obtain ⟨o,h1,h2,h3,h4,_⟩:=h.at;exact ⟨o,h1,h3,h2,h4⟩
theorem SO {l q r:List Nat} {i j:Nat} (hi:i∈l) (h:l.erase i=q++j::r):∃ p t,l=p++j::t∧∀ x∈p,x=i∨x∈q:=by
 obtain ⟨l1,l2,hn,rfl,he⟩:=List.exists_erase_eq hi;rw [he] at h
 rcases List.append_eq_append_iff.1 h with ⟨t,h1,h2⟩|⟨t,h1,h2⟩
 ·
  refine ⟨l1++i::t,r,by rw [h2];simp,fun x hx=>?_⟩
  rcases List.mem_append.1 hx with hx|hx
  ·exact .inr (by rw [h1];simp [hx])
  ·rcases List.mem_cons.1 hx with rfl|hx
   ·exact .inl rfl
   ·exact .inr (by rw [h1];simp [hx])
 ·
  cases t with
  |nil =>
   simp only [List.nil_append,List.append_nil] at h1 h2;refine ⟨l1++[i],r,by rw [← h2];simp,fun x hx=>?_⟩
   rcases List.mem_append.1 hx with hx|hx
   ·exact .inr (h1 ▸ hx)
   ·exact .inl (List.mem_singleton.1 hx)
  |cons y t =>
   simp only [List.cons_append,List.cons.injEq] at h2;obtain ⟨rfl,rfl⟩:=h2;exact ⟨q,t++i::l2,by rw [h1];simp,fun x hx=>.inr hx⟩
theorem tL {l1 l2:List Nat} (h:l2≠[]):(l1++l2).getLast?=l2.getLast?:=by
 rw [List.getLast?_append,List.getLast?_eq_some_getLast h];rfl
theorem lA.move {L bz l:List Nat} {i:Nat} (hok:lA P n ops L) (hst:pn ops i=true) (hL:L=bz++l) (hi:i∈l) (ha:∀ o,ops[i]?=some o→∀ e∈o.after,binds .any e=true→e.on ∉ l):lA P n ops (bz++i::l.erase i):=by
 have hp:(bz++i::l.erase i).Perm L:=by rw [hL];exact (List.perm_cons_erase hi).symm.append_left bz
 have fm:=hok.nodup;refine ⟨hp.nodup_iff.2 hok.nodup,fun j hj=>hp.mem_iff.2 (hok.all j hj),fun j hj=>hok.lt j (hp.mem_iff.1 hj),?_,hok.reads,hok.dst,hok.eJ,hok.alloc,hok.JY,?_⟩
 rotate_left
 ·intro pL j l' h hne
  by_cases hji:j=i
  ·subst hji;exact hst
  have hj:j∈L:=hp.mem_iff.1 (by rw [h];simp);obtain ⟨p,q,hpq⟩:=List.append_of_mem hj
  by_cases hq:q=[]
  ·exfalso
   subst hq;have mO:L.getLast?=some j:=by rw [hpq];simp
   rw [hL] at mO fm;have hjl:j∈l:=by
    have hne:l≠[]:=List.ne_nil_of_mem hi;rw [tL hne] at mO;exact List.mem_of_getLast? mO
   have hle:(l.erase i).getLast?=some j:=by
    have hne:l≠[]:=List.ne_nil_of_mem hi;rw [tL hne] at mO;obtain ⟨l1,l2,hn,U7,U8⟩:=List.exists_erase_eq hi;rw [U8];rw [U7] at mO
    cases l2 with
    |nil=>rw [tL (by simp)] at mO;simp at mO;exact (hji mO.symm).elim
    |cons y l2 =>
     rw [tL (by simp)] at mO ⊢;rw [List.getLast?_cons_cons] at mO;exact mO
   have h2:(bz++i::l.erase i).getLast?=some j:=by
    have Vq:l.erase i≠[]:=by intro h0;rw [h0] at hle;cases hle
    rw [tL (by simp)]
    cases GU:l.erase i with
    |nil=>exact (Vq GU).elim
    |cons y z=>rw [List.getLast?_cons_cons,← GU];exact hle
   rw [h,tL (by simp)] at h2;have h3:j∈l' :=by
    cases l' with
    |nil=>exact (hne rfl).elim
    |cons y z=>rw [List.getLast?_cons_cons] at h2;exact List.mem_of_getLast? h2
   have qM:=hp.nodup_iff.2 hok.nodup;rw [h,List.nodup_append] at qM;exact (List.nodup_cons.1 qM.2.1).1 h3
  ·exact hok.D9 p j q hpq hq
 intro pL j l' h o ho e he hb
 have hin:e.on∈L:=by
  have hj:j∈L:=hp.mem_iff.1 (by rw [h];simp);obtain ⟨p,q,hpq⟩:=List.append_of_mem hj;have:=hok.after p j q hpq o ho e he hb;rw [hpq];simp [this]
 rcases List.append_eq_append_iff.1 h with ⟨t,h1,h2⟩|⟨t,h1,h2⟩
 ·
  cases t with
  |nil =>
   simp only [List.nil_append,List.cons.injEq] at h2;obtain ⟨rfl,_⟩:=h2;simp only [List.append_nil] at h1;rw [hL] at hin
   rcases List.mem_append.1 hin with q|q
   ·rw [h1];exact q
   ·exact (ha o ho e he hb q).elim
  |cons y t =>
   simp only [List.cons_append,List.cons.injEq] at h2;obtain ⟨rfl,h2⟩:=h2;obtain ⟨p,u,hl,hx⟩:=SO hi h2;have:=hok.after (bz++p) j u (by rw [hL,hl];simp) o ho e he hb;rw [h1]
   rcases List.mem_append.1 this with q|q
   ·simp [q]
   ·rcases hx _ q with q|q<;>simp [q]
 ·cases t with
  |nil =>
   simp only [List.nil_append,List.cons.injEq] at h2;obtain ⟨rfl,_⟩:=h2;simp only [List.append_nil] at h1;rw [hL] at hin
   rcases List.mem_append.1 hin with q|q
   ·rw [← h1];exact q
   ·exact (ha o ho e he hb q).elim
  |cons y t =>
   simp only [List.cons_append,List.cons.injEq] at h2;obtain ⟨rfl,_⟩:=h2;exact hok.after pL j (t++l) (by rw [hL,h1];simp) o ho e he hb
theorem Inv.move {listed:Array Bool} {bz l:List Nat} {σ:List (Nat × Value)} {aa:List az} {a:Act} {w:World} {X:List (Nat × Nat)} {i:Nat} (hv:Inv P ops n D g listed bz l σ aa a w X) (hi:i∈l):Inv P ops n D g listed bz (i::l.erase i) σ aa a w X:=by
 have hp:=List.perm_cons_erase hi;exact ⟨hv.size,hv.closed,fun x hx=>let ⟨h1,h2⟩:=hv.x1 x hx;⟨hp.mem_iff.1 h1,h2⟩,fun j hj=>hv.bC j (hp.mem_iff.2 hj),hv.xn,hv.u5,hv.len,hv.defers,hv.cF,hv.frame,hv.holds⟩
theorem K2 {kn l:List Nat} (h:BY ops kn l=true):kn≠[]∧(∀ i∈kn,i∈l∧qp ops i=false∧pn ops i=true∧∀ o,ops[i]?=some o→∀ e∈o.after,binds .any e=true→e.on ∉ l)∧gG ops kn (l.filter fun i=>!kn.contains i)=true:=by
 simp only [BY,Bool.and_eq_true,List.all_eq_true] at h;obtain ⟨⟨h1,h2⟩,h3⟩:=h;refine ⟨fun h=>by rw [h] at h1;simp at h1,fun i hi=>?_,h3⟩;obtain ⟨⟨⟨h4,h5⟩,h7⟩,h6⟩:=h2 i hi;refine ⟨by simpa using h4,by simpa using h5,h7,fun o ho e he hb hm=>?_⟩;rw [ho] at h6;have:=Array.all_eq_true_iff_forall_mem.1 h6 e he
 simp [hb,hm] at this
theorem JM:∀ {l:List Nat},Bc ops l=true→∀ pre i post,l=pre++i::post→∀ o,ops[i]?=some o→∀ e∈o.after,binds .any e=true→e.on ∉ post
 |[],_,pre,i,post,h,_,_,_,_,_=>by cases pre<;>cases h
 |j::l,h,pre,i,post,hl,o,ho,e,he,hb=>by
  simp only [Bc,Bool.and_eq_true,List.all_eq_true] at h
  cases pre with
  |nil =>
   simp only [List.nil_append,List.cons.injEq] at hl;obtain ⟨rfl,rfl⟩:=hl
   intro hm
   have h1:=h.1 e.on hm;rw [ho] at h1;have:=Array.all_eq_true_iff_forall_mem.1 h1 e he
   simp [hb] at this
  |cons p pre =>
   simp only [List.cons_append,List.cons.injEq] at hl;obtain ⟨rfl,rfl⟩:=hl;exact JM h.2 pre i post rfl o ho e he hb
theorem Jd {l l' :List Nat} (hn:l.Nodup) (h:Dx ops l l' =true):l.Perm l' ∧Bc ops l' =true∧l.getLast?=l'.getLast?∧l' ≠[]:=by
 simp only [Dx,Bool.and_eq_true,List.all_eq_true,List.contains_eq_mem,decide_eq_true_eq,beq_iff_eq] at h;obtain ⟨⟨⟨⟨⟨h1,h2⟩,h3⟩,h4⟩,h5⟩,h6⟩:=h;refine ⟨(List.perm_ext_iff_of_nodup hn (IQ h1)).2 fun i=>⟨h2 i,h3 i⟩,h4,h5,fun h=>by rw [h] at h6;cases h6⟩
theorem lA.reorder {L bz l l' :List Nat} (hok:lA P n ops L) (hL:L=bz++l) (hp:Dx ops l l' =true):lA P n ops (bz++l'):=by
 have fm:=hok.nodup;rw [hL,List.nodup_append] at fm;obtain ⟨p1,p2,p3,gT⟩:=Jd fm.2.1 hp;have rV:(bz++l').Perm L:=by rw [hL];exact p1.symm.append_left bz
 refine ⟨rV.nodup_iff.2 hok.nodup,fun j hj=>rV.mem_iff.2 (hok.all j hj),fun j hj=>hok.lt j (rV.mem_iff.1 hj),?_,hok.reads,hok.dst,hok.eJ,hok.alloc,hok.JY,?_⟩
 ·intro pL j t h o ho e he hb
  have GP:j∈L:=rV.mem_iff.1 (by rw [h];simp);obtain ⟨p,q,hpq⟩:=List.append_of_mem GP;have hin:=hok.after p j q hpq o ho e he hb;have MC:e.on∈bz++l' :=rV.mem_iff.2 (by rw [hpq];simp [hin])
  rcases List.append_eq_append_iff.1 h with ⟨u,h1,h2⟩|⟨u,h1,h2⟩
  ·
   rw [h1]
   rcases List.mem_append.1 MC with q1|q1
   ·simp [q1]
   ·have:=JM p2 u j t h2 o ho e he hb
    rw [h2] at q1
    rcases List.mem_append.1 q1 with q1|q1
    ·simp [q1]
    ·rcases List.mem_cons.1 q1 with q1|q1
     ·exfalso
      have qM:=hok.nodup;rw [hpq,List.nodup_append] at qM;exact qM.2.2 e.on hin j (by simp) q1
     ·exact absurd q1 this
  ·
   cases u with
   |nil =>
    simp only [List.append_nil,List.nil_append] at h1 h2;rw [← h1]
    rcases List.mem_append.1 MC with q1|q1
    ·exact q1
    ·rw [← h2] at q1
     have:=JM (l:=l') p2 [] j t (by rw [← h2];rfl) o ho e he hb
     rcases List.mem_cons.1 q1 with q1|q1
     ·exfalso
      have qM:=hok.nodup;rw [hpq,List.nodup_append] at qM;exact qM.2.2 e.on hin j (by simp) q1
     ·exact absurd q1 this
   |cons y u =>
    simp only [List.cons_append,List.cons.injEq] at h2;obtain ⟨rfl,_⟩:=h2;exact hok.after pL j (u++l) (by rw [hL,h1];simp) o ho e he hb
 ·intro pL j t h hne
  have GP:j∈L:=rV.mem_iff.1 (by rw [h];simp);obtain ⟨p,q,hpq⟩:=List.append_of_mem GP
  by_cases hq:q=[]
  ·exfalso
   subst hq;have mO:L.getLast?=some j:=by rw [hpq];simp
   have ML:l≠[]:=fun h0=>by subst h0;rw [List.getLast?_nil] at p3;exact gT (List.getLast?_eq_none_iff.1 p3.symm)
   rw [hL,tL ML,p3] at mO;have h2:(bz++l').getLast?=some j:=by rw [tL gT];exact mO
   rw [h,tL (by simp)] at h2;have h3:j∈t:=by
    cases t with
    |nil=>exact (hne rfl).elim
    |cons y z=>rw [List.getLast?_cons_cons] at h2;exact List.mem_of_getLast? h2
   have qM:=rV.nodup_iff.2 hok.nodup;rw [h,List.nodup_append] at qM;exact (List.nodup_cons.1 qM.2.1).1 h3
  ·exact hok.D9 p j q hpq hq
theorem Inv.reorder {listed:Array Bool} {bz l l' :List Nat} {σ:List (Nat × Value)} {aa:List az} {a:Act} {w:World} {X:List (Nat × Nat)} (hv:Inv P ops n D g listed bz l σ aa a w X) (hp:l.Perm l'):Inv P ops n D g listed bz l' σ aa a w X :=
 ⟨hv.size,hv.closed,fun x hx=>let ⟨h1,h2⟩:=hv.x1 x hx;⟨hp.mem_iff.1 h1,h2⟩,fun j hj=>hv.bC j (hp.mem_iff.2 hj),hv.xn,hv.u5,hv.len,hv.defers,hv.cF,hv.frame,hv.holds⟩
theorem ah.finish {bZ:Bool} {l0:List Nat} {σ:List (Nat × Value)} {aa:List az} (h:bt P fn n R ops k D g bZ l0 σ aa):∀ {listed:Array Bool} {bz:List Nat} {a:Act} {w:World} {X:List (Nat × Nat)} {L:List Nat},lA P n ops L→L=bz++l0 →
  Inv P ops n D g listed bz l0 σ aa a w X→(∀ i,i<ops.size→listed.getD i true=true)→l8 none P k (Post none P fn R) a w:=by
 have absurd:∀ {listed:Array Bool} {bz l:List Nat} {σ:List (Nat × Value)} {aa:List az} {a:Act} {w:World} {X:List (Nat × Nat)} {i:Nat} {o:Oper},Inv P ops n D g listed bz (i::l) σ aa a w X→(∀ i,i<ops.size→listed.getD i true=true) →
   ops[i]?=some o→jK o.op=false→False:=by
  intro listed bz l σ aa a w X i o hv hall ho hna
  have hlt:=(Array.getElem?_eq_some_iff.1 ho).1;obtain ⟨b,hb⟩:=hv.bC i (List.mem_cons_self ..) (by rw [od (by rw [hv.size];exact hlt) false true];exact hall i hlt);obtain ⟨_,_,o',d',h3,h4,_⟩:=hv.x1 _ hb;rw [ho] at h3;cases h3;rw [hna] at h4;cases h4
 induction h with
 |nil h =>
  intro listed bz a w X L hok hL hv hall
  have hX:X=[]:=by
   cases X with
   |nil=>rfl
   |cons x X=>have:=(hv.x1 x (List.mem_cons_self ..)).1;cases this
  subst hX;refine h a w ⟨hv.len,fun t v ht=>hv.frame t v ht fun j o hj _=>?_⟩ hv.defers (by simpa using hv.holds);have hlt:=(Array.getElem?_eq_some_iff.1 hj).1;refine ⟨fun _=>?_,fun _=>by rw [od (by rw [hv.size];exact hlt) false true];exact hall j hlt⟩;have:=hok.all j hlt;rw [hL] at this
  simpa using this
 |quiet ho hna eb h ih=>intro listed bz a w X L hok hL hv hall;obtain ⟨o,h1,h2,_⟩:=ho.wN;exact (absurd hv hall h1 (by rw [h2];exact hna)).elim
 |no ho hna hl _ h ih=>intro listed bz a w X L hok hL hv hall;obtain ⟨o,j,oj,h1,_,h2,_⟩:=u3 ho;exact (absurd hv hall h1 (by rw [h2];exact hna)).elim
 |mI ho hx hc fh hargs con hp h ih=>intro listed bz a w X L hok hL hv hall;obtain ⟨o,h1,h2,_⟩:=ho.wN;exact (absurd hv hall h1 (by rw [h2];rfl)).elim
 |kQ ho hna eb h ih=>intro listed bz a w X L hok hL hv hall;obtain ⟨o,h1,h2,_⟩:=ho.wN;exact (absurd hv hall h1 (by rw [h2];exact hna)).elim
 |o7 ho hna eb h ih=>intro listed bz a w X L hok hL hv hall;obtain ⟨o,h1,_,h2,_⟩:=tS ho;exact (absurd hv hall h1 (by rw [h2];exact hna)).elim
 |tK ho hna hl eb h=>intro listed bz a w X L hok hL hv hall;obtain ⟨o,h1,_,h2,_⟩:=tS ho;exact (absurd hv hall h1 (by rw [h2];exact hna)).elim
 |one hd h ih=>intro listed bz a w X L hok hL hv hall;exact ih hok hL hv hall
 |swap l' hp h ih =>
  intro listed bz a w X L hok hL hv hall
  have fm:=hok.nodup;rw [hL,List.nodup_append] at fm;exact ih (hok.reorder hL hp) rfl (hv.reorder (Jd fm.2.1 hp).1) hall
 |alt kn hc h ih =>
  intro listed bz a w X L hok hL hv hall
  obtain ⟨hne,CS,hd⟩:=K2 hc;obtain ⟨i,hi⟩:=List.exists_mem_of_ne_nil _ hne;obtain ⟨h1,h2,h4,h3⟩:=CS i hi;exact ih i hi (hok.move h4 hL h1 h3) rfl (hv.move h1) hall
 |lazy ho hd hz h ih =>
  intro listed bz a w X L hok hL hv hall
  obtain ⟨o,h1,h2,h3,_,_⟩:=Dq ho;have hlt:=(Array.getElem?_eq_some_iff.1 h1).1;obtain ⟨b,hb⟩:=hv.bC _ (List.mem_cons_self ..) (by rw [od (by rw [hv.size];exact hlt) false true];exact hall _ hlt);obtain ⟨X',fh⟩:=hv.meet hok hL h1 h2 h3 hz hb;exact ih b hok (by rw [hL];simp) fh hall
theorem ah.advance {bZ:Bool} {l0:List Nat} {σ:List (Nat × Value)} {aa:List az} (h:bt P fn n R ops k D g bZ l0 σ aa):bZ=false→∀ {listed:Array Bool} {bz:List Nat} {a:Act} {w:World} {X:List (Nat × Nat)} {L:List Nat} {i:Nat} {o:Oper},lA P n ops L→L=bz++l0 →
  Inv P ops n D g listed bz l0 σ aa a w X→i∈ready .any ops listed→i∈l0→ops[i]?=some o→jK o.op=false →
  ∃ L' pL l' σ' au X',lA P n ops L' ∧L' =pL ++i::l' ∧Inv P ops n D g listed pL (i::l') σ' au a w X' ∧bt P fn n R ops k D g true (i::l') σ' au :=by
 have J2:∀ {listed:Array Bool} {bz l:List Nat} {σ:List (Nat × Value)} {aa:List az} {a:Act} {w:World} {X:List (Nat × Nat)} {i:Nat} {o:Oper},Inv P ops n D g listed bz (i::l) σ aa a w X →
   ops[i]?=some o→jK o.op=false→listed.getD i false=false:=by
  intro listed bz l σ aa a w X i o hv ho hna
  cases hl:listed.getD i false with
  |false=>rfl
  |true =>
   obtain ⟨b,hb⟩:=hv.bC i (List.mem_cons_self ..) hl;obtain ⟨_,_,o',d',h3,h4,_⟩:=hv.x1 _ hb;rw [ho] at h3;cases h3;rw [hna] at h4;cases h4
 have stop:∀ {listed:Array Bool} {bz l:List Nat} {σ:List (Nat × Value)} {aa:List az} {a:Act} {w:World} {X:List (Nat × Nat)} {j i:Nat} {o:Oper},Inv P ops n D g listed bz (j::l) σ aa a w X→gG ops [j] l=true→listed.getD j false=false →
   i∈ready .any ops listed→i∈l→ops[i]?=some o→jK o.op=false→False:=by
  intro listed bz l σ aa a w X j i o hv hd hu hr hi ho hna
  refine (Cn hv.closed hv.size l [j] hd (fun c hc=>by rw [List.mem_singleton.1 hc];exact hu) i hi (by simp [qp,ho,hna]) (Array.getElem?_eq_some_iff.1 ho).1).1 hr
 induction h with
 |nil h=>intro _ listed bz a w X L i o _ _ _ _ hi;cases hi
 |@quiet bZ j d op v l σ aa ho hna eb h ih =>
  intro _ listed bz a w X L i o hok hL hv hr hi jm oo
  rcases List.mem_cons.1 hi with rfl|hi
  ·exact ⟨L,bz,l,σ,aa,X,hok,hL,hv,.quiet ho hna eb h⟩
  ·obtain ⟨oj,h1,h2,h3,_⟩:=ho.wN
   have hst:=hok.D9 bz j l hL (List.ne_nil_of_mem hi);have hp:oO P ops n D g ((d,v)::σ) j:=oO.quiet hok.eJ ho eb fun o' ho' =>hok.fresh hst hL h1 h3 j o' (.inr rfl) ho';exact ih rfl hok (by rw [hL];simp) (Inv.wait hok hL hst hv h1 h3 (J2 hv h1 (by rw [h2];exact hna)) hp) hr hi jm oo
 |@no bZ j d t op b l σ aa v ho hna hl uV h ih =>
  intro _ listed bz a w X L i o hok hL hv hr hi jm oo
  rcases List.mem_cons.1 hi with rfl|hi
  ·exact ⟨L,bz,l,σ,aa,X,hok,hL,hv,.no ho hna hl uV h⟩
  ·obtain ⟨oj,_,_,h1,h3,h2,_⟩:=u3 ho
   have hst:=hok.D9 bz j l hL (List.ne_nil_of_mem hi);have hp:oO P ops n D g ((d,undef)::σ) j:=oO.no ho hl uV fun o' ho' =>hok.fresh hst hL h1 h3 j o' (.inr rfl) ho';exact ih rfl hok (by rw [hL];simp) (Inv.wait hok hL hst hv h1 h3 (J2 hv h1 (by rw [h2];exact hna)) hp) hr hi jm oo
 |mI=>intro hf;cases hf
 |kQ=>intro hf;cases hf
 |o7=>intro hf;cases hf
 |tK=>intro hf;cases hf
 |@one j l σ aa hd h ih =>
  intro _ listed bz a w X L i o hok hL hv hr hi jm oo
  rcases List.mem_cons.1 hi with rfl|hi
  ·exact ⟨L,bz,l,σ,aa,X,hok,hL,hv,h⟩
  ·have hna:∃ oj,ops[j]?=some oj∧jK oj.op=false:=by
    cases h with
    |quiet ho hna _ _=>obtain ⟨oj,h1,h2,_⟩:=ho.wN;exact ⟨oj,h1,by rw [h2];exact hna⟩
    |no ho hna _ _ _=>obtain ⟨oj,_,_,h1,_,h2,_⟩:=u3 ho;exact ⟨oj,h1,by rw [h2];exact hna⟩
    |mI ho _ _ _ _ _ _ _=>obtain ⟨oj,h1,h2,_⟩:=ho.wN;exact ⟨oj,h1,by rw [h2];rfl⟩
    |kQ ho hna _ _=>obtain ⟨oj,h1,h2,_⟩:=ho.wN;exact ⟨oj,h1,by rw [h2];exact hna⟩
    |o7 ho hna _ _=>obtain ⟨oj,h1,_,h2,_⟩:=tS ho;exact ⟨oj,h1,by rw [h2];exact hna⟩
    |tK ho hna _ _ _=>obtain ⟨oj,h1,_,h2,_⟩:=tS ho;exact ⟨oj,h1,by rw [h2];exact hna⟩
   obtain ⟨oj,h1,h2⟩:=hna;exact (stop hv hd (J2 hv h1 h2) hr hi jm oo).elim
 |@swap l σ aa l' hp h ih =>
  intro _ listed bz a w X L i o hok hL hv hr hi jm oo
  have fm:=hok.nodup;rw [hL,List.nodup_append] at fm;have rV:=(Jd fm.2.1 hp).1;exact ih rfl (hok.reorder hL hp) rfl (hv.reorder rV) hr (rV.mem_iff.1 hi) jm oo
 |@alt l σ aa kn hc h ih =>
  intro _ listed bz a w X L i o hok hL hv hr hi jm oo
  obtain ⟨_,CS,hd⟩:=K2 hc
  by_cases hic:i∈kn
  ·obtain ⟨h1,h2,h4,h3⟩:=CS i hic
   exact ⟨_,bz,_,σ,aa,X,hok.move h4 hL h1 h3,rfl,hv.move h1,h i hic⟩
  ·refine absurd hr (Cn hv.closed hv.size _ kn hd (fun c j4=>?_) i (List.mem_filter.2 ⟨hi,by simpa using hic⟩) (by simp [qp,jm,oo]) (Array.getElem?_eq_some_iff.1 jm).1).1
   obtain ⟨h1,h2,_,h3⟩:=CS c j4
   cases hl:listed.getD c false with
   |false=>rfl
   |true =>
    obtain ⟨b,hb⟩:=hv.bC c h1 hl;obtain ⟨_,_,o',d',h4,h5,_⟩:=hv.x1 _ hb
    simp [qp,h4,h5] at h2
 |@lazy j d T z l σ aa ho hd hz h ih =>
  intro _ listed bz a w X L i o hok hL hv hr hi jm oo
  obtain ⟨oj,h1,h2,h3,_,_⟩:=Dq ho
  rcases List.mem_cons.1 hi with rfl|hi
  ·rw [h1] at jm;cases jm;rw [h3] at oo;cases oo
  ·cases dA:listed.getD j false with
   |false=>exact (stop hv hd dA hr hi jm oo).elim
   |true =>
    obtain ⟨b,hb⟩:=hv.bC j (List.mem_cons_self ..) dA;obtain ⟨X',fh⟩:=hv.meet hok hL h1 h2 h3 hz hb;exact ih b rfl hok (by rw [hL];simp) fh hr hi jm oo
theorem ah.any:∀ (fuel:Nat) (L:List Nat) (listed:Array Bool) (bz l0:List Nat) (σ:List (Nat × Value)) (aa:List az) (a:Act) (w:World) (X:List (Nat × Nat)),lA P n ops L→L=bz++l0→Inv P ops n D g listed bz l0 σ aa a w X →
  ah P fn n R ops k D g l0 σ aa→left ops listed≤fuel→wpAny P .any ops (zc none P k (Post none P fn R)) fuel listed a w:=by
 intro fuel
 induction fuel with
 |zero =>
  intro L listed bz l0 σ aa a w X hok hL hv v8 hf
  have hall:=Yp (ops:=ops) (listed:=listed) (by omega);refine ⟨?_,ah.finish v8 hok hL hv hall⟩;refine List.eq_nil_iff_forall_not_mem.2 fun i hi=>?_;obtain ⟨h1,o,ho,_⟩:=mem_ready.1 hi;rw [hall i (Array.getElem?_eq_some_iff.1 ho).1] at h1;cases h1
 |succ fuel ih =>
  intro L listed bz l0 σ aa a w X hok hL hv v8 hf
  refine ⟨fun hr=>?_,fun i hi=>?_⟩
  ·
   refine ah.finish v8 hok hL hv ?_;have key:∀ (pre post:List Nat),L=pre++post→∀ i∈pre,listed.getD i false=true:=by
    intro pre
    induction hlen:pre.length generalizing pre with
    |zero=>intro post _ i hi;rw [List.eq_nil_of_length_eq_zero hlen] at hi;cases hi
    |succ m Xj =>
     intro post hp i hi
     rcases List.eq_nil_or_concat pre with rfl|⟨pre',j,rfl⟩
     ·cases hi
     ·simp only [List.concat_eq_append,List.length_append,List.length_singleton,List.append_assoc,List.singleton_append,List.mem_append,List.mem_singleton] at hlen hp hi
      have hpre:=Xj pre' (by omega) (j::post) hp
      rcases hi with hi|rfl
      ·exact hpre i hi
      ·have hlt:=hok.lt i (by rw [hp];simp)
       cases hl:listed.getD i false with
       |true=>rfl
       |false =>
        exfalso
        have:i∈ready .any ops listed:=mem_ready.2 ⟨by rw [od (by rw [hv.size];exact hlt) true false];exact hl,ops[i],by simp [hlt],fun e he hb=>hpre _ (hok.after pre' i post hp ops[i] (by simp [hlt]) e he hb)⟩;rw [hr] at this;cases this
   intro i hi
   rw [od (by rw [hv.size];exact hi) true false];exact key L [] (by simp) i (hok.all i hi)
  ·obtain ⟨hun,o,ho,_⟩:=mem_ready.1 hi
   have hlt:=(Array.getElem?_eq_some_iff.1 ho).1;have vV:left ops (listed.setIfInBounds i true)≤fuel:=by
    have:=Yo (ops:=ops) hv.size hlt hun
    omega
   have tj:i∈bz∨i∈l0:=by have:=hok.all i hlt;rw [hL] at this;exact List.mem_append.1 this
   rcases tj with tj|tj
   ·
    obtain ⟨o',d,v,h1,h2,h3,h4,h5⟩:=hv.u5 i tj (by rw [od (by rw [hv.size];exact hlt) false true];exact hun);rw [ho] at h1;cases h1;refine h5 a w _ _ _ hv.holds ?_ fun w' hw' =>ih L _ bz l0 σ aa _ w' X hok hL (hv.done hok hL hi ho h2 h3 tj h4 hw') v8 vV
    intro t ht u hu
    refine hv.frame t u hu fun j oj hj eR=>?_;have vY:=(Array.getElem?_eq_some_iff.1 hj).1
    rcases hok.reads i o j oj t ho hj eR ht with ⟨e,he,hb,mi⟩|⟨e,he,hb,mi⟩
    ·obtain ⟨_,AX,mQ,hall⟩:=mem_ready.1 hi
     rw [ho] at mQ;cases mQ;obtain ⟨p,q,rfl⟩:=List.append_of_mem tj;have:=hok.after p i (q++l0) (by rw [hL];simp) o ho e he hb;rw [mi] at this;exact ⟨fun _=>by simp [this],fun _=>mi ▸ hall e he hb⟩
    ·have Al:listed.getD j false=false:=by
      cases dA:listed.getD j false with
      |false=>rfl
      |true =>
       have:=hv.closed j oj hj (by rw [od (by rw [hv.size];exact vY) true false];exact dA) vY e he hb;rw [mi,od (by rw [hv.size];exact hlt) false true,hun] at this;cases this
     refine ⟨fun h=>absurd h (by rw [Al];decide),fun x9=>?_⟩;obtain ⟨e',he',hb',VM⟩:=P2 (hv.cF j x9 Al) hj eR i o ho ht;obtain ⟨_,AX,mQ,hall⟩:=mem_ready.1 hi;rw [ho] at mQ;cases mQ;have:=hall e' he' hb';rw [VM] at this;exact this
   ·cases hna:jK o.op with
    |true =>
     cases hop:o.op with
     |alloc T =>
      obtain ⟨⟨z,hz⟩,hgd,d,hd,hb⟩:=hok.alloc i o T ho hop;simp only [wpOp,ho,Region.wanted,hgd,if_true];refine .inl ?_;have hrun:(execOp a.eval o).run P w=.ok (.value (.pointer (some ⟨w.heap.size,0,none⟩))) (w.alloc (.cells z.cells T)):=by
       simp [execOp,hop,Instr.alloc,Pf hz,newVar,newRow]
      unfold Oper.wp;rw [hrun,Oper.upon_value,hd];exact ih L _ bz l0 σ aa _ _ _ hok hL (hv.early hok hL hi tj ho hop hz hd hb) v8 vV
     |_=>rw [hop] at hna;cases hna
    |false =>
     obtain ⟨L',pL,l',σ',au,X',VL,hL',fh,VK⟩:=ah.advance v8 rfl hok hL hv hi tj ho hna;clear hok hL hv v8 tj;have hok:=VL;have td:qi ops o σ' a:=by
      intro t ht u hu
      refine fh.frame t u hu fun j oj hj eR=>?_;have vY:=(Array.getElem?_eq_some_iff.1 hj).1
      rcases hok.reads i o j oj t ho hj eR ht with ⟨e,he,hb,mi⟩|⟨e,he,hb,mi⟩
      ·obtain ⟨_,AX,mQ,hall⟩:=mem_ready.1 hi
       rw [ho] at mQ;cases mQ;exact ⟨fun _=>mi ▸ hok.after pL i l' hL' o ho e he hb,fun _=>mi ▸ hall e he hb⟩
      ·have Al:listed.getD j false=false:=by
        cases dA:listed.getD j false with
        |false=>rfl
        |true =>
         have:=fh.closed j oj hj (by rw [od (by rw [fh.size];exact vY) true false];exact dA) vY e he hb;rw [mi,od (by rw [fh.size];exact hlt) false true,hun] at this;cases this
       refine ⟨fun h=>absurd h (by rw [Al];decide),fun x9=>?_⟩
       exfalso
       obtain ⟨p,q,rfl⟩:=List.append_of_mem x9;have:=hok.after p j (q++i::l') (by rw [hL'];simp) oj hj e he hb;rw [mi] at this;have fm:=hok.nodup;rw [hL',List.nodup_append] at fm;exact fm.2.2 i (by simp [this]) i (by simp) rfl
     have z5 :L' =(pL ++[i])++l' :=by rw [hL'];simp
     have Am:=fun cs b=>Region.noSelect_spec hok.eJ i o cs b ho
     cases VK with
     |quiet qI CY eb h =>
      obtain ⟨o',h1,h2,h3,h4,h5⟩:=qI.at;rw [ho] at h1;cases h1;obtain ⟨ρ,hkn,he,_⟩:=td.yK Am;obtain ⟨w',hrun,hw'⟩:=eb _ o ρ w h3 hkn fh.holds;simp only [wpOp,ho,h5 a td,if_true];refine .inl ?_;unfold Oper.wp;rw [he,hrun,Oper.upon_value,h2];exact ih _ _ _ _ _ _ _ _ _ hok z5 (fh.step hok hL' hi ho (.inr ⟨_,_,h2,h4,rfl,rfl⟩) hw') h vV
     |no qI CY hl uV h =>
      obtain ⟨o',j,oj,h1,h2,h3,hg,hj,ht,hb⟩:=u3 qI;rw [ho] at h1;cases h1;have:=td _ (List.mem_append_right _ (by simp only [hg,hj,ht];exact List.mem_singleton.2 rfl)) _ hl;have hw:Region.wanted o (yielded ops a.tmps)=false:=by
       rename_i b0 _ _ _ v0
       cases v0<;>simp [Region.wanted,hg,yielded,hj,ht,this]
       cases b0<;>simp_all [tQ]
      simp only [wpOp,ho,hw,Bool.false_eq_true,if_false,h2];exact ih _ _ _ _ _ _ _ _ _ hok z5 (fh.step hok hL' hi ho (.inr ⟨_,_,h2,hb,rfl,rfl⟩) fh.holds) h vV
     |@mI _ d _ _ eX ζ f x xs ts b9 K ae_ first cap args qI hx hc hvs hargs con hp h =>
      obtain ⟨o',h1,h2,h3,h4,h5⟩:=qI.at;rw [ho] at h1;cases h1;obtain ⟨ρ,hkn,he,hρ⟩:=td.yK Am;simp only [wpOp,ho,h5 a td,if_true];refine .inl ?_;unfold Oper.wp;rw [he,DO h3 (hkn x _ hx) hc,Oper.upon_enter];have hm:xs.map ρ=b9.toArray:=by rw [← uJ hkn hvs,← Array.toList_map]
      rw [hm,hargs];have V0:(X'.map (n4 P ops)++(eX++ζ)).Perm (eX++(ζ++X'.map (n4 P ops))):=by
       refine List.perm_append_comm.trans ?_
       simp
      refine (con.frame (ζ:=ζ++X'.map (n4 P ops)) g (Fr.bH _) w (fh.holds.perm V0)).mono fun e w' hh=>?_;obtain ⟨ae8,⟨m7,hq,rfl⟩,hw'⟩:=hh
      cases e with
      |returned v =>
       show wpAny P .any ops _ fuel _ (a.put o.dst v) w'
       rw [h2];have V1 :(m7++(ζ++X'.map (n4 P ops))).Perm (X'.map (n4 P ops)++(m7++ζ)):=by
        rw [← List.append_assoc];exact List.perm_append_comm
       exact ih _ _ _ _ _ _ _ _ _ hok z5 (fh.step hok hL' hi ho (.inr ⟨_,_,h2,h4,rfl,rfl⟩) (hw'.perm V1)) (h v m7 hq) vV
      |panicked ch =>
       show gE P fn a.tmps R a.defers (.panicking ch) w'
       rw [fh.defers];exact hp a ch m7 w' hq ((hw'.perm (by rw [← List.append_assoc];exact List.perm_append_comm)).Lz)
      |outgrown=>exact hq.elim
     |kQ qI CY eb h =>
      obtain ⟨o',h1,h2,h3,h4,h5⟩:=qI.at;rw [ho] at h1;cases h1;obtain ⟨ρ,hkn,he,_⟩:=td.yK Am;obtain ⟨v,w',ae8,⟨m7,hq,rfl⟩,hrun,hw'⟩:=eb (X'.map (n4 P ops)) o ρ w h3 hkn (fh.holds.perm List.perm_append_comm);simp only [wpOp,ho,h5 a td,if_true];refine .inl ?_;unfold Oper.wp;rw [he,hrun,Oper.upon_value,h2];exact ih _ _ _ _ _ _ _ _ _ hok z5 (fh.step hok hL' hi ho (.inr ⟨_,_,h2,h4,rfl,rfl⟩) (hw'.perm List.perm_append_comm)) (h v m7 hq) vV
     |o7 qI CY eb h =>
      obtain ⟨o',h1,h2,h3,h4⟩:=tS qI;rw [ho] at h1;cases h1;obtain ⟨ρ,hkn,he,_⟩:=td.yK Am;obtain ⟨w',u,hrun,hu,hw'⟩:=eb (X'.map (n4 P ops)) o ρ w h3 hkn (fh.holds.perm List.perm_append_comm);simp only [wpOp,ho,Region.wanted,h4,if_true];refine .inl ?_;unfold Oper.wp;have yf:∀ (next:Act→World→Prop) Q,o.upon P a next Q (.ok u w')=next (a.put none undef) w' :=fun next Q=>by
       rcases hu with rfl|⟨v,rfl⟩
       ·rw [Oper.upon_skip,h2]
       ·rw [Oper.upon_value,h2];rfl
      rw [he,hrun,yf];exact ih _ _ _ _ _ _ _ _ _ hok z5 (fh.step hok hL' hi ho (.inl ⟨h2,rfl,rfl⟩) (hw'.perm List.perm_append_comm)) h vV
     |tK qI CY mO eb h =>
      obtain ⟨o',h1,h2,h3,h4⟩:=tS qI;rw [ho] at h1;cases h1;obtain ⟨ρ,hkn,he,_⟩:=td.yK Am;have hX:X' =[]:=by
       cases X' with
       |nil=>rfl
       |cons x ae9 =>
        obtain ⟨q1,bg,_⟩:=fh.x1 x (List.mem_cons_self ..);rw [List.mem_singleton.1 q1,od (by rw [fh.size];exact hlt) false true,hun] at bg;cases bg
      subst hX;obtain ⟨w',u,hrun,hu,hw'⟩:=eb o ρ w h3 hkn (by simpa using fh.holds);simp only [wpOp,ho,Region.wanted,h4,if_true];refine .inl ?_;unfold Oper.wp;have yf:∀ (next:Act→World→Prop) Q,o.upon P a next Q (.ok u w')=next (a.put none default) w' :=fun next Q=>by
       rcases hu with rfl|⟨v,rfl⟩
       ·rw [Oper.upon_skip,h2];rfl
       ·rw [Oper.upon_value,h2];rfl
      rw [he,hrun,yf];have MR:∀ j,j<ops.size→j≠i→listed.getD j false=true:=fun j hj hne=>by
       have:=List.all_eq_true.1 mO j (List.mem_range.2 hj);simp only [Bool.or_eq_true] at this
       rcases this with (this|this)|this
       ·exact (hne (Nat.eq_of_beq_eq_true this)).elim
       ·obtain ⟨_,AX,mQ,hall⟩:=mem_ready.1 hi
        rw [ho] at mQ;cases mQ;exact GC fh.closed fh.size j 2 i (fun o2 o3 e he hb=>by rw [ho] at o3;cases o3;exact hall e he hb) this
       ·obtain ⟨_,AX,mQ,hall⟩:=mem_ready.1 hi
        rw [ho] at mQ;cases mQ;exact GC fh.closed fh.size j 10 i (fun o2 o3 e he hb=>by rw [ho] at o3;cases o3;exact hall e he hb) this
      have hin:∀ j,j<ops.size→j≠i→j∈pL :=fun j hj hne=>by
       have:=hok.all j hj;rw [hL'] at this
       rcases List.mem_append.1 this with h|h
       ·exact h
       ·exact (hne (List.mem_singleton.1 h)).elim
      have M0:l8 none P k (Post none P fn R) (a.put none default) w' :=by
       refine h a w' ⟨fh.len,fun t v ht=>fh.frame t v ht fun j oj hj eR=>?_⟩ fh.defers hw';have hjl:=(Array.getElem?_eq_some_iff.1 hj).1;have hne:j≠i:=by rintro rfl;rw [ho] at hj;cases hj;rw [h2] at eR;cases eR
       exact ⟨fun _=>hin j hjl hne,fun _=>MR j hjl hne⟩
      have hnone:ready .any ops (listed.setIfInBounds i true)=[]:=by
       refine List.eq_nil_iff_forall_not_mem.2 fun j hj=>?_;obtain ⟨q1,AX,mQ,_⟩:=mem_ready.1 hj;have hjl:=(Array.getElem?_eq_some_iff.1 mQ).1
       by_cases hne:j=i
       ·subst hne
        simp [fh.size,hlt] at q1
       ·rw [getD_set_ne true (fun h=>hne h.symm),od (by rw [fh.size];exact hjl) true false,MR j hjl hne] at q1;cases q1
      cases fuel with
      |zero=>exact ⟨hnone,M0⟩
      |succ fuel=>exact ⟨fun _=>M0,fun j hj=>by rw [hnone] at hj;cases hj⟩
theorem S.aY {L:List Nat} {id:Nat} {σ:List (Nat × Value)} {aa:List az} (hm:P.follows .mixedOrders=true) (hok:Dr P n ops L=true) (h:ah P fn n R ops k D g L σ aa) :
  S none P fn n R (.code (.region id ops true)::k) σ D g aa:=by
 intro a w hf hd hw
 intro b cs hb hf'
 have hinv:Inv P ops n D g (Array.replicate ops.size false) [] L σ aa a { w with drawn:=w.drawn+1 } []:=by
  refine ⟨by simp,?_,?_,?_,by simp,?_,hf.1,hd,(fun j hj=>by cases hj),fun t v ht _=>hf.2 t v ht,by simpa using hw.drewN (w.drawn+1) (Nat.le_succ _)⟩
  ·intro i o _ hl hlt
   simp [Array.getD_eq_getD_getElem?,hlt] at hl
  ·intro x hx;cases hx
  ·intro i _ hl
   simp only [Array.getD_eq_getD_getElem?,Array.getElem?_replicate] at hl
   split at hl<;>simp at hl
  ·intro i hi;cases hi
 have hleft:left ops (Array.replicate ops.size false)≤ops.size:=by
  unfold left;exact Nat.le_trans (List.length_filter_le _ _) (by simp)
 have US:=ah.any ops.size L _ [] L σ aa a _ [] (ZQ hok) (by simp) hinv h hleft;have G_:∀ t,wpOps P ops (zc none P k (Post none P fn R)) (Region.schedule (P.follows .mixedOrders) ops t) a { w with drawn:=w.drawn+1 }:=fun t=>by
  simp only [Region.schedule,hm,Bool.true_or,if_true];exact wpAny_sound ops.size t _ a _ US
 obtain ⟨e,a',w',q,r⟩:=l8.ZO (G_ (w.tape w.drawn (.order b.fn id))) b cs hb hf';exact ⟨e,a',w',q,.of_steps (.one (fenced_wide P _) stepR_region_draw) r⟩
end
end Go.Sp
