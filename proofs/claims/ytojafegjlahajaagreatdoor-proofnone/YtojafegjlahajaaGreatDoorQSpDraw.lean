/- Texts of this proof. -/
import Derived.Test.YtojafegjlahajaaGreatDoorQSpMem2
set_option linter.unusedSectionVars false
namespace Go.Sp
open Region (binds ready)
def isAlloc:Op→Bool
 |.alloc _=>true
 |_=>false
def allocAt (ops:Array Oper) (i:Nat):Bool:=match ops[i]? with|some o=>isAlloc o.op|none=>false
def zeroOf (P:Program) (T:TypeId):Option Value:=(P.info? T).bind (·.zero)
theorem run_zeroOf {P:Program} {T:TypeId} {z:Value} (h:zeroOf P T=some z) (w:World):(zeroValue T).run P w=.ok z w:=by
 unfold zeroOf at h
 cases hi:P.info? T with
 |none=>rw [hi] at h;cases h
 |some i=>rw [hi] at h;simp at h;simp [zeroValue,typeInfo,hi,h]
def descOk (ops:Array Oper):List Nat→List Nat→Bool
 |_,[]=>true
 |acc,i::l=>match allocAt ops i with
  |true=>descOk ops acc l
  |false=>(match ops[i]? with|some o=>o.after.any fun e=>binds .any e && acc.contains e.on|none=>false) && descOk ops (i::acc) l
def tmpsOf (xs:Array Operand):List Nat:=xs.toList.filterMap fun|.tmp t=>some t|_=>none
def slotsRead (ops:Array Oper) (o:Oper):List Nat :=
 tmpsOf o.op.operands++(match o.guard with|some (j,_)=>(match ops[j]? with|some oj=>oj.dst.toList|none=>[])|none=>[])
def afterOk (ops:Array Oper):List Nat→List Nat→Bool
 |_,[]=>true
 |dn,i::l=>(match ops[i]? with|some o=>o.after.all fun e=>!binds .any e ||dn.contains e.on|none=>false) && afterOk ops (i::dn) l
def readsOk (ops:Array Oper):Bool :=
 (List.range ops.size).all fun i=>match ops[i]? with
  |some o=>(slotsRead ops o).all fun t=>(List.range ops.size).all fun j=>match ops[j]? with
   |some oj=>match oj.dst with|some d=>d !=t ||o.after.any (fun e=>binds .any e && e.on ==j) ||oj.after.any (fun e=>binds .any e && e.on ==i)|none=>true
   |none=>true
  |none=>false
def strongB (ops:Array Oper) (i:Nat):Bool:=match ops[i]? with
 |some oi=>match oi.dst with
  |some d=>(List.range ops.size).all fun j=>match ops[j]? with
   |some o=>!(slotsRead ops o).contains d ||o.after.any (fun e=>binds .any e && e.on ==i)
   |none=>true
  |none=>true
 |none=>true
def dstOk (ops:Array Oper):Bool :=
 (List.range ops.size).all fun i=>(List.range ops.size).all fun j=>i ==j ||match ops[i]?,ops[j]? with
  |some oi,some oj=>match oi.dst,oj.dst with|some d,some e=>d !=e|_,_=>true
  |_,_=>false
def allocOk (P:Program) (n:Nat) (ops:Array Oper):Bool :=
 (List.range ops.size).all (fun i=>!allocAt ops i ||strongB ops i) && ops.all fun o=>match o.op with|.alloc T=>(zeroOf P T).isSome && o.guard.isNone && (match o.dst with|some d=>Nat.blt d n|none=>false)|_=>true
def nodupOk:List Nat→Bool
 |[]=>true
 |i::l=>!l.contains i && nodupOk l
def orderOk (P:Program) (n:Nat) (ops:Array Oper) (l0:List Nat):Bool :=
 nodupOk l0 && (List.range ops.size).all (fun i=>l0.contains i) && l0.all (·<ops.size) && afterOk ops [] l0 && readsOk ops && dstOk ops && Region.noSelect ops && allocOk P n ops && l0.dropLast.all (strongB ops)
section
variable (P:Program) (fn:Func) (n:Nat) (R:Ending→World→Prop) (ops:Array Oper) (k:List Item) (D:List Deferred) (g:Gr)
def hangsOn (ops:Array Oper) (j:Nat):Nat→Nat→Bool
 |0,_=>false
 |f+1,i=>match ops[i]? with
  |some o=>o.after.any fun e=>binds .any e && (Nat.beq e.on j ||hangsOn ops j f e.on)
  |none=>false
def lastOk (ops:Array Oper) (i:Nat):Bool:=(List.range ops.size).all fun j=>Nat.beq j i ||hangsOn ops j 2 i ||hangsOn ops j 10 i
def altOk (ops:Array Oper) (cands l:List Nat):Bool :=
 !cands.isEmpty && cands.all (fun i=>l.contains i && !allocAt ops i && strongB ops i && (match ops[i]? with|some o=>o.after.all fun e=>!binds .any e ||!l.contains e.on|none=>false)) && descOk ops cands (l.filter fun i=>!cands.contains i)
def rowOk (ops:Array Oper):List Nat→Bool
 |[]=>true
 |i::l=>(l.all fun j=>match ops[i]? with|some o=>o.after.all fun e=>!binds .any e ||!Nat.beq e.on j|none=>false) && rowOk ops l
def permOk (ops:Array Oper) (l l' :List Nat):Bool:=nodupOk l' && l.all (fun i=>l'.contains i) && l'.all (fun i=>l.contains i) && rowOk ops l' && (l.getLast? ==l'.getLast?) && (match l' with|[]=>false|_=>true)
inductive ODx:Bool→List Nat→List (Nat × Value)→List SProp→Prop
 |nil {σ:List (Nat × Value)} {η:List SProp} (h:S none P fn n R k σ D g η):ODx false [] σ η
 |quiet {fl:Bool} {i d:Nat} {op:Op} {v:Value} {l:List Nat} {σ:List (Nat × Value)} {η:List SProp} (ho:Fires ops i n σ d op) (hna:isAlloc op=false) (hdo:∀ η,Does P op σ g η v η) (h:ODx false l ((d,v)::σ) η):ODx fl (i::l) σ η
 |no {fl:Bool} {i d t:Nat} {op:Op} {b:Bool} {l:List Nat} {σ:List (Nat × Value)} {η:List SProp} {v:Value} (ho:opAtG ops i n=some (d,op,t,b)) (hna:isAlloc op=false) (hl:look σ t=some v) (hv:notB b v=true) (h:ODx false l ((d,undef)::σ) η):ODx fl (i::l) σ η
 |lazy {i d:Nat} {T:TypeId} {z:Value} {l:List Nat} {σ:List (Nat × Value)} {η:List SProp} (ho:opAt ops i n=some (d,.alloc T)) (hd:descOk ops [i] l=true) (hz:zeroOf P T=some z)
   (h:∀ b,ODx false l ((d,.pointer (some ⟨b,0,none⟩))::σ) (obj b T z.cells.toList::η)):ODx false (i::l) σ η
 |callT {i d:Nat} {l:List Nat} {σ:List (Nat × Value)} {η ζ:List SProp} {f:FuncId} {x:Operand} {xs:Array Operand} {ts:Array TypeId} {vals:List Value} {K:Value→List SProp→Prop} {X:List PanicEntry→List SProp→Prop} {first cap:Array Value} {args:Array Value}
   (ho:Fires ops i n σ d (.call ⟨.value x,xs,ts⟩)) (hx:ev σ x=some (.func (.func f) first cap)) (hc:callable P f=true)
   (hv:evs σ xs.toList=some vals) (hargs:first++vals.toArray++cap=args) (con:Con P f args g.h η (RetP K X))
   (hp:∀ (a:Act) ch η' w,X ch η' →Holds w g (η' ++ζ)→Lv P fn a.tmps R D (.panicking ch) w) (h:∀ v η',K v η' →ODx false l ((d,v)::σ) (η' ++ζ)):ODx true (i::l) σ (η++ζ)
 |loudE {i d:Nat} {op:Op} {l:List Nat} {σ:List (Nat × Value)} {η:List SProp} {K:Value→List SProp→Prop} (ho:Fires ops i n σ d op) (hna:isAlloc op=false) (hdo:∀ ζ,DoesE P op σ g (η++ζ) fun v η' =>∃ η₁,K v η₁∧η' =η₁++ζ)
   (h:∀ v η',K v η' →ODx false l ((d,v)::σ) η'):ODx true (i::l) σ η
 |loudU {i:Nat} {op:Op} {l:List Nat} {σ:List (Nat × Value)} {η η' :List SProp} (ho:opAtU ops i=some op) (hna:isAlloc op=false) (hdo:∀ ζ,DoesV P op σ g (η++ζ) (η' ++ζ)) (h:ODx false l σ η'):ODx true (i::l) σ η
 |lastU {i:Nat} {op:Op} {σ:List (Nat × Value)} {η η' :List SProp} {g' :Gr} (ho:opAtU ops i=some op) (hna:isAlloc op=false) (hl:lastOk ops i=true)
   (hdo:∀ (o:Oper) (ρ:Operand→Value) (w:World),o.op=op→Knows σ ρ→Holds w g η→∃ w' u,(execOp ρ o).run P w=.ok u w' ∧(u=.skip∨∃ v,u=.value v)∧Holds w' g' η') (h:S none P fn n R k σ D g' η'):ODx true [i] σ η
 |one {i:Nat} {l:List Nat} {σ:List (Nat × Value)} {η:List SProp} (hd:descOk ops [i] l=true) (h:ODx true (i::l) σ η):ODx false (i::l) σ η
 |swap {l:List Nat} {σ:List (Nat × Value)} {η:List SProp} (l' :List Nat) (hp:permOk ops l l' =true) (h:ODx false l' σ η):ODx false l σ η
 |alt {l:List Nat} {σ:List (Nat × Value)} {η:List SProp} (cands:List Nat) (hok:altOk ops cands l=true) (h:∀ i∈cands,ODx true (i::l.erase i) σ η):ODx false l σ η
abbrev OD (l:List Nat) (σ:List (Nat × Value)) (η:List SProp):Prop:=ODx P fn n R ops k D g false l σ η
end
theorem Holds.drop_n {w:World} {g:Gr}:∀ {ζ η:List SProp},Holds w g (ζ++η)→Holds w g η
 |[],_,h=>h
 |_::ζ,_,h=>Holds.drop_n (ζ:=ζ) h.drop
theorem Con.retP {P:Program} {f:FuncId} {args:Array Value} {r:Fr} {η:List SProp} {K:Value→List SProp→Prop} (h:Con P f args r η (Ret K)):Con P f args r η (RetP K fun _ _=>False) :=
 h.mono fun e η' a=>by
  cases e with
  |returned v=>exact a
  |panicked _=>exact a.elim
  |outgrown=>exact a.elim
section
variable {ro:Option Nat} {P:Program} {fn:Func} {n:Nat} {R:Ending→World→Prop} {ops:Array Oper} {k:List Item} {D:List Deferred} {g:Gr}
theorem ODx.weaken {fl:Bool} {l:List Nat} {σ' :List (Nat × Value)} {η:List SProp} (h:ODx P fn n R ops k D g fl l σ' η):∀ {σ:List (Nat × Value)},Sub σ' σ→ODx P fn n R ops k D g fl l σ η:=by
 have evw:∀ {σ σ' :List (Nat × Value)},Sub σ' σ→∀ {x:Operand} {v:Value},ev σ' x=some v→ev σ x=some v:=by
  intro σ σ' hs x v hx
  cases x with
  |tmp t=>exact hs t v hx
  |const u=>exact hx
  |global g=>exact hx
  |func f=>exact hx
 have evsw:∀ {σ σ' :List (Nat × Value)},Sub σ' σ→∀ {xs:List Operand} {vs:List Value},evs σ' xs=some vs→evs σ xs=some vs:=by
  intro σ σ' hs xs
  induction xs with
  |nil=>intro vs h;exact h
  |cons x xs ih =>
   intro vs h
   simp only [evs] at h ⊢
   split at h
   ·rename_i v us hv hus;cases h;rw [evw hs hv,ih hus]
   ·cases h
 have knw:∀ {σ σ' :List (Nat × Value)} {ρ:Operand→Value},Sub σ' σ→Knows σ ρ→Knows σ' ρ:=fun hs hk x v hx=>hk x v (evw hs hx);have fw:∀ {σ σ' :List (Nat × Value)} {i d:Nat} {op:Op},Sub σ' σ→Fires ops i n σ' d op→Fires ops i n σ d op:=by
  intro σ σ' i d op hs hf
  cases hf with
  |p h=>exact .p h
  |g h hl=>exact .g h (hs _ _ hl)
 have ext:∀ {σ σ' :List (Nat × Value)} {d:Nat} {v:Value},Sub σ' σ→Sub ((d,v)::σ') ((d,v)::σ):=by
  intro σ σ' d v hs t u hu
  simp only [look] at hu ⊢
  split at hu
  ·exact hu
  ·exact hs _ _ hu
 induction h with
 |nil h=>intro σ hs;exact .nil (S.weaken hs h)
 |quiet ho hna hdo h ih=>intro σ hs;exact .quiet (fw hs ho) hna (fun η o ρ w h1 h2 h3=>hdo η o ρ w h1 (knw hs h2) h3) (ih (ext hs))
 |no ho hna hl hvb h ih=>intro σ hs;exact .no ho hna (hs _ _ hl) hvb (ih (ext hs))
 |lazy ho hd hz h ih=>intro σ hs;exact .lazy ho hd hz fun b=>ih b (ext hs)
 |callT ho hx hc hv hargs con hp h ih=>intro σ hs;exact .callT (fw hs ho) (evw hs hx) hc (evsw hs hv) hargs con hp fun v η' hk=>ih v η' hk (ext hs)
 |loudE ho hna hdo h ih=>intro σ hs;exact .loudE (fw hs ho) hna (fun ζ o ρ w h1 h2 h3=>hdo ζ o ρ w h1 (knw hs h2) h3) fun v η' hk=>ih v η' hk (ext hs)
 |loudU ho hna hdo h ih=>intro σ hs;exact .loudU ho hna (fun ζ o ρ w h1 h2 h3=>hdo ζ o ρ w h1 (knw hs h2) h3) (ih hs)
 |lastU ho hna hl hdo h=>intro σ hs;exact .lastU ho hna hl (fun o ρ w h1 h2 h3=>hdo o ρ w h1 (knw hs h2) h3) (S.weaken hs h)
 |one hd h ih=>intro σ hs;exact .one hd (ih hs)
 |swap l' hp h ih=>intro σ hs;exact .swap l' hp (ih hs)
 |alt cands hok h ih=>intro σ hs;exact .alt cands hok fun i hi=>ih i hi hs
theorem OD.weaken {l:List Nat} {σ' :List (Nat × Value)} {η:List SProp} (h:OD P fn n R ops k D g l σ' η):∀ {σ:List (Nat × Value)},Sub σ' σ→OD P fn n R ops k D g l σ η:=ODx.weaken h
def hdOk (fl:Bool) (ops:Array Oper) (i:Nat) (l:List Nat):Bool:=fl ||descOk ops [i] l
theorem ODx.head {fl:Bool} {i:Nat} {l:List Nat} {σ:List (Nat × Value)} {η:List SProp} (hd:hdOk fl ops i l=true) (h:ODx P fn n R ops k D g true (i::l) σ η):ODx P fn n R ops k D g fl (i::l) σ η:=by
 cases fl
 ·exact .one (by simpa [hdOk] using hd) h
 ·exact h
theorem OD.alt2 {l:List Nat} {σ:List (Nat × Value)} {η:List SProp} (a b:Nat) (la lb:List Nat) (hok:altOk ops [a,b] l=true) (ha:l.erase a=la) (hb:l.erase b=lb)
  (h1:ODx P fn n R ops k D g true (a::la) σ η) (h2:ODx P fn n R ops k D g true (b::lb) σ η):OD P fn n R ops k D g l σ η:=by
 subst ha;subst hb;refine .alt [a,b] hok fun i hi=>?_
 rcases List.mem_cons.1 hi with rfl|hi
 ·exact h1
 ·rw [List.mem_singleton.1 hi];exact h2
theorem ODg.callT {i d:Nat} {l:List Nat} {σ:List (Nat × Value)} {η ζ:List SProp} {f:FuncId} {x:Operand} {xs:Array Operand} {ts:Array TypeId} {vals:List Value} {K:Value→List SProp→Prop} {X:List PanicEntry→List SProp→Prop} {first cap:Array Value} {args:Array Value}
   (ho:Fires ops i n σ d (.call ⟨.value x,xs,ts⟩)) {fl:Bool} (hd:hdOk fl ops i l=true) (hx:ev σ x=some (.func (.func f) first cap)) (hc:callable P f=true)
   (hv:evs σ xs.toList=some vals) (hargs:first++vals.toArray++cap=args) (con:Con P f args g.h η (RetP K X))
   (hp:∀ (a:Act) ch η' w,X ch η' →Holds w g (η' ++ζ)→Lv P fn a.tmps R D (.panicking ch) w) (h:∀ v η',K v η' →OD P fn n R ops k D g l ((d,v)::σ) (η' ++ζ)):ODx P fn n R ops k D g fl (i::l) σ (η++ζ) :=
 ODx.head hd (ODx.callT ho hx hc hv hargs con hp h)
theorem OD.callT {i d:Nat} {l:List Nat} {σ:List (Nat × Value)} {η ζ:List SProp} {f:FuncId} {x:Operand} {xs:Array Operand} {ts:Array TypeId} {vals:List Value} {K:Value→List SProp→Prop} {X:List PanicEntry→List SProp→Prop} {first cap:Array Value} {args:Array Value} (ho:Fires ops i n σ d (.call ⟨.value x,xs,ts⟩)) (hd:descOk ops [i] l=true) (hx:ev σ x=some (.func (.func f) first cap)) (hc:callable P f=true) (hv:evs σ xs.toList=some vals) (hargs:first++vals.toArray++cap=args) (con:Con P f args g.h η (RetP K X)) (hp:∀ (a:Act) ch η' w,X ch η' →Holds w g (η' ++ζ)→Lv P fn a.tmps R D (.panicking ch) w) (h:∀ v η',K v η' →OD P fn n R ops k D g l ((d,v)::σ) (η' ++ζ)):OD P fn n R ops k D g (i::l) σ (η++ζ):=ODg.callT (fl:=false) ho (by simpa [hdOk] using hd) hx hc hv hargs con hp h
theorem ODg.loudE {i d:Nat} {op:Op} {l:List Nat} {σ:List (Nat × Value)} {η:List SProp} {K:Value→List SProp→Prop} (ho:Fires ops i n σ d op) (hna:isAlloc op=false) {fl:Bool} (hd:hdOk fl ops i l=true) (hdo:∀ ζ,DoesE P op σ g (η++ζ) fun v η' =>∃ η₁,K v η₁∧η' =η₁++ζ)
   (h:∀ v η',K v η' →OD P fn n R ops k D g l ((d,v)::σ) η'):ODx P fn n R ops k D g fl (i::l) σ η:=ODx.head hd (ODx.loudE ho hna hdo h)
theorem OD.loudE {i d:Nat} {op:Op} {l:List Nat} {σ:List (Nat × Value)} {η:List SProp} {K:Value→List SProp→Prop} (ho:Fires ops i n σ d op) (hna:isAlloc op=false) (hd:descOk ops [i] l=true) (hdo:∀ ζ,DoesE P op σ g (η++ζ) fun v η' =>∃ η₁,K v η₁∧η' =η₁++ζ) (h:∀ v η',K v η' →OD P fn n R ops k D g l ((d,v)::σ) η'):OD P fn n R ops k D g (i::l) σ η:=ODg.loudE (fl:=false) ho hna (by simpa [hdOk] using hd) hdo h
theorem ODt.loudE {i d:Nat} {op:Op} {l:List Nat} {σ:List (Nat × Value)} {η:List SProp} {K:Value→List SProp→Prop} (ho:Fires ops i n σ d op) (hna:isAlloc op=false) (_:true=true) (hdo:∀ ζ,DoesE P op σ g (η++ζ) fun v η' =>∃ η₁,K v η₁∧η' =η₁++ζ) (h:∀ v η',K v η' →OD P fn n R ops k D g l ((d,v)::σ) η'):ODx P fn n R ops k D g true (i::l) σ η:=ODg.loudE (fl:=true) ho hna rfl hdo h
theorem ODg.loudU {i:Nat} {op:Op} {l:List Nat} {σ:List (Nat × Value)} {η η' :List SProp} (ho:opAtU ops i=some op) (hna:isAlloc op=false) {fl:Bool} (hd:hdOk fl ops i l=true) (hdo:∀ ζ,DoesU P op σ g (η++ζ) (η' ++ζ)) (h:OD P fn n R ops k D g l σ η'):ODx P fn n R ops k D g fl (i::l) σ η:=ODx.head hd (ODx.loudU ho hna (fun ζ=>(hdo ζ).v) h)
theorem ODg.call {i d:Nat} {l:List Nat} {σ:List (Nat × Value)} {η ζ:List SProp} {f:FuncId} {x:Operand} {xs:Array Operand} {ts:Array TypeId} {vals:List Value} {K:Value→List SProp→Prop} {first cap:Array Value} {args:Array Value}
  (ho:Fires ops i n σ d (.call ⟨.value x,xs,ts⟩)) {fl:Bool} (hd:hdOk fl ops i l=true) (hx:ev σ x=some (.func (.func f) first cap)) (hc:callable P f=true)
  (hv:evs σ xs.toList=some vals) (hargs:first++vals.toArray++cap=args) (con:Con P f args g.h η (Ret K)) (h:∀ v η',K v η' →OD P fn n R ops k D g l ((d,v)::σ) (η' ++ζ)):ODx P fn n R ops k D g fl (i::l) σ (η++ζ) :=
 ODg.callT ho hd hx hc hv hargs con.retP (fun _ _ _ _ hX _=>hX.elim) h
theorem OD.caseB {l:List Nat} {σ:List (Nat × Value)} {η:List SProp} {b:Bool} (t:Nat) (hl:look σ t=some (.bool b)) (ht:b=true→OD P fn n R ops k D g l ((t,.bool true)::σ) η)
  (hf:b=false→OD P fn n R ops k D g l ((t,.bool false)::σ) η):OD P fn n R ops k D g l σ η:=by
 cases b
 ·exact (hf rfl).weaken (σ:=σ) (Sub.cons hl Sub.refl)
 ·exact (ht rfl).weaken (σ:=σ) (Sub.cons hl Sub.refl)
theorem OD.caseD {l:List Nat} {σ:List (Nat × Value)} {η:List SProp} {p:Prop} [Decidable p] (t:Nat) (hl:look σ t=some (.bool (decide p))) (ht:p→OD P fn n R ops k D g l ((t,.bool true)::σ) η)
  (hf:¬p→OD P fn n R ops k D g l ((t,.bool false)::σ) η):OD P fn n R ops k D g l σ η :=
 OD.caseB t hl (fun h=>ht (of_decide_eq_true h)) (fun h=>hf (of_decide_eq_false h))
theorem nodupOk_spec:∀ {l:List Nat},nodupOk l=true→l.Nodup
 |[],_=>.nil
 |i::l,h=>by
  simp only [nodupOk,Bool.and_eq_true,Bool.not_eq_true',List.contains_eq_mem,decide_eq_false_iff_not] at h;exact List.nodup_cons.2 ⟨h.1,nodupOk_spec h.2⟩
def Closed (ops:Array Oper) (listed:Array Bool):Prop :=
 ∀ i o,ops[i]?=some o→listed.getD i true=true→i<ops.size→∀ e∈o.after,binds .any e=true→listed.getD e.on false=true
theorem hangs_listed {listed:Array Bool} (hc:Closed ops listed) (hs:listed.size=ops.size) (j:Nat):∀ (f i:Nat),(∀ o,ops[i]?=some o→∀ e∈o.after,binds .any e=true→listed.getD e.on false=true)→hangsOn ops j f i=true→listed.getD j false=true
 |0,_,_,h=>by cases h
 |f+1,i,ha,h=>by
  simp only [hangsOn] at h
  cases ho:ops[i]? with
  |none=>rw [ho] at h;cases h
  |some o =>
   rw [ho] at h;obtain ⟨p,hp,hb⟩:=Array.any_eq_true.1 h;simp only [Bool.and_eq_true,Bool.or_eq_true] at hb;have he:=ha o ho o.after[p] (Array.getElem_mem hp) hb.1
   rcases hb.2 with q|q
   ·rwa [Nat.eq_of_beq_eq_true q] at he
   ·refine hangs_listed hc hs j f _ (fun o' ho' e' he' hb' =>?_) q
    have hlt:=(Array.getElem?_eq_some_iff.1 ho').1;refine hc _ o' ho' ?_ hlt e' he' hb';simp only [Array.getD_eq_getD_getElem?] at he ⊢;rw [Array.getElem?_eq_getElem (by omega)] at he ⊢
    simpa using he
theorem desc_not {listed:Array Bool} (hc:Closed ops listed) (hs:listed.size=ops.size):∀ (l acc:List Nat),descOk ops acc l=true→(∀ c∈acc,listed.getD c false=false) →
  ∀ i∈l,allocAt ops i=false→i<ops.size→i ∉ ready .any ops listed∧listed.getD i false=false
 |[],_,_,_,_,hi,_,_=>by cases hi
 |j::l,acc,h,hacc,i,hi,hna,hlt=>by
  simp only [descOk] at h
  cases hj:allocAt ops j with
  |true =>
   rw [hj] at h
   rcases List.mem_cons.1 hi with rfl|hi
   ·rw [hj] at hna;cases hna
   ·exact desc_not hc hs l acc h hacc i hi hna hlt
  |false =>
   rw [hj] at h;simp only [Bool.and_eq_true] at h;obtain ⟨h1,h2⟩:=h
   cases ho:ops[j]? with
   |none=>rw [ho] at h1;cases h1
   |some o =>
    rw [ho] at h1;obtain ⟨p,hp,hb⟩:=Array.any_eq_true.1 h1;have he:o.after[p]∈o.after:=Array.getElem_mem hp;generalize o.after[p]=e at hb he;simp only [Bool.and_eq_true,List.contains_eq_mem,decide_eq_true_eq] at hb;have hun:=hacc e.on hb.2;have hjlt:j<ops.size:=(Array.getElem?_eq_some_iff.1 ho).1;have key:j ∉ ready .any ops listed∧listed.getD j false=false:=by
     constructor
     ·intro hr
      obtain ⟨_,o',ho',hall⟩:=mem_ready.1 hr;rw [ho] at ho';cases ho';rw [hall e he hb.1] at hun;cases hun
     ·cases hl:listed.getD j false with
      |false=>rfl
      |true =>
       have hl' :listed.getD j true=true:=by
        simp only [Array.getD_eq_getD_getElem?] at hl ⊢
        cases hx:listed[j]? with
        |none=>simp
        |some y=>rw [hx] at hl;simpa using hl
       rw [hc j o ho hl' hjlt e he hb.1] at hun;cases hun
    rcases List.mem_cons.1 hi with rfl|hi
    ·exact key
    ·refine desc_not hc hs l (j::acc) h2 ?_ i hi hna hlt
     intro c hcm
     rcases List.mem_cons.1 hcm with rfl|hcm
     ·exact key.2
     ·exact hacc c hcm
def Agrees (ops:Array Oper) (o:Oper) (σ:List (Nat × Value)) (a:Act):Prop:=∀ t∈slotsRead ops o,∀ u,look σ t=some u→a.tmps[t]?=some u
theorem Agrees.rho {o:Oper} {σ:List (Nat × Value)} {a:Act} (hs:∀ cs b,o.op≠.select cs b) (h:Agrees ops o σ a):∃ ρ,Knows σ ρ∧execOp a.eval o=execOp ρ o∧∀ x∈o.op.operands,a.eval x=ρ x:=by
 have key:∀ x∈o.op.operands,a.eval x=(ev σ x).getD (a.eval x):=by
  intro x hx
  cases hv:ev σ x with
  |none=>rfl
  |some v =>
   cases x with
   |tmp t =>
    have ht:t∈slotsRead ops o:=List.mem_append_left _ (List.mem_filterMap.2 ⟨.tmp t,by simpa using hx,rfl⟩);have:=h t ht v hv
    simp [Act.eval,Array.getD_eq_getD_getElem?,this]
   |const u=>simpa [ev,Act.eval] using hv
   |global g=>simpa [ev,Act.eval] using hv
   |func f=>simpa [ev,Act.eval] using hv
 exact ⟨fun x=>(ev σ x).getD (a.eval x),fun x v hv=>by simp [hv],execOp_congr o hs key,key⟩
theorem Fires.at {i d:Nat} {σ:List (Nat × Value)} {op:Op} (h:Fires ops i n σ d op) :
  ∃ o,ops[i]?=some o∧o.dst=some d∧o.op=op∧Nat.blt d n=true∧∀ a,Agrees ops o σ a→Region.wanted o (yielded ops a.tmps)=true:=by
 cases h with
 |p h =>
  obtain ⟨o,h1,h2,h3,h4,h5⟩:=opAt_spec h;exact ⟨o,h1,h2,h3,h5,fun a _=>by simp [Region.wanted,h4]⟩
 |g h hl =>
  obtain ⟨o,j,oj,hi,hdst,hop,hg,hj,ht,hb⟩:=opAtG_spec h;refine ⟨o,hi,hdst,hop,hb,fun a ha=>?_⟩;have:=ha _ (List.mem_append_right _ (by simp only [hg,hj,ht];exact List.mem_singleton.2 rfl)) _ hl
  simp [Region.wanted,hg,yielded,hj,ht,this]
def Pend (P:Program) (ops:Array Oper) (n:Nat) (_:List Deferred) (g:Gr) (σ:List (Nat × Value)) (i:Nat):Prop :=
 ∃ o d v,ops[i]?=some o∧o.dst=some d∧Nat.blt d n=true∧look σ d=some v ∧
  ∀ (a:Act) (w:World) (η:List SProp) (Kc:Act→World→Prop) (Q:Exit→Act→World→Prop),Holds w g η→Agrees ops o σ a →
   (∀ w',Holds w' g η→Kc (a.put (some d) v) w')→wpOp P ops Q i Kc a w
theorem look_ne {d t:Nat} {v:Value} {σ:List (Nat × Value)} (h:t≠d):look ((d,v)::σ) t=look σ t:=by
 simp only [look]
 split
 ·rename_i hb;exact (h (Nat.eq_of_beq_eq_true hb).symm).elim
 ·rfl
theorem look_eq {d:Nat} {v:Value} {σ:List (Nat × Value)}:look ((d,v)::σ) d=some v:=by simp [look]
theorem Agrees.ext {o:Oper} {σ:List (Nat × Value)} {a:Act} {d:Nat} {v:Value} (hn:d ∉ slotsRead ops o):Agrees ops o ((d,v)::σ) a↔Agrees ops o σ a:=by
 constructor
 ·intro h t ht u hu;exact h t ht u (by rw [look_ne (by rintro rfl;exact hn ht)];exact hu)
 ·intro h t ht u hu;exact h t ht u (by rwa [look_ne (by rintro rfl;exact hn ht)] at hu)
theorem Pend.ext {σ:List (Nat × Value)} {i d:Nat} {v:Value} (h:Pend P ops n D g σ i) (hn:∀ o,ops[i]?=some o→d ∉ slotsRead ops o∧o.dst≠some d):Pend P ops n D g ((d,v)::σ) i:=by
 obtain ⟨o,d',v',h1,h2,h3,h4,h5⟩:=h;obtain ⟨n1,n2⟩:=hn o h1;have hne:d' ≠d:=by rintro rfl;exact n2 h2
 exact ⟨o,d',v',h1,h2,h3,by rw [look_ne hne];exact h4,fun a w η Kc Q hw ha hk=>h5 a w η Kc Q hw ((Agrees.ext n1).1 ha) hk⟩
theorem Pend.quiet {i d:Nat} {op:Op} {v:Value} {σ:List (Nat × Value)} (hsel:Region.noSelect ops=true) (ho:Fires ops i n σ d op) (hdo:∀ η,Does P op σ g η v η)
  (hn:∀ o,ops[i]?=some o→d ∉ slotsRead ops o):Pend P ops n D g ((d,v)::σ) i:=by
 obtain ⟨o,hi,hdst,hop,hb,hw⟩:=ho.at;refine ⟨o,d,v,hi,hdst,hb,look_eq,fun a w η Kc Q hh ha hk=>?_⟩;have ha:=(Agrees.ext (hn o hi)).1 ha;obtain ⟨ρ,hkn,he,_⟩:=ha.rho (fun cs b=>Region.noSelect_spec hsel i o cs b hi);obtain ⟨w',hrun,hw'⟩:=hdo η o ρ w hop hkn hh;simp only [wpOp,hi,hw a ha,if_true];refine .inl ?_;unfold Oper.wp;rw [he,hrun,Oper.upon_value,hdst];exact hk w' hw'
theorem Pend.no {i d t:Nat} {op:Op} {b:Bool} {σ:List (Nat × Value)} {v:Value} (ho:opAtG ops i n=some (d,op,t,b)) (hl:look σ t=some v) (hvb:notB b v=true)
  (hn:∀ o,ops[i]?=some o→d ∉ slotsRead ops o):Pend P ops n D g ((d,undef)::σ) i:=by
 obtain ⟨o,j,oj,hi,hdst,hop,hg,hj,ht,hb⟩:=opAtG_spec ho;refine ⟨o,d,undef,hi,hdst,hb,look_eq,fun a w η Kc Q hh ha hk=>?_⟩;have ha:=(Agrees.ext (hn o hi)).1 ha;have:=ha _ (List.mem_append_right _ (by simp only [hg,hj,ht];exact List.mem_singleton.2 rfl)) _ hl;have hw:Region.wanted o (yielded ops a.tmps)=false:=by
  cases v<;>simp [Region.wanted,hg,yielded,hj,ht,this]
  cases b<;>simp_all [notB]
 simp only [wpOp,hi,hw,Bool.false_eq_true,if_false,hdst];exact hk w hh
def atomOf (P:Program) (ops:Array Oper) (x:Nat × Nat):SProp :=
 match ops[x.1]? with
 |some o=>match o.op with|.alloc T=>obj x.2 T (((zeroOf P T).map (·.cells.toList)).getD [])|_=>fun _=>True
 |none=>fun _=>True
structure Inv (P:Program) (ops:Array Oper) (n:Nat) (D:List Deferred) (g:Gr) (listed:Array Bool) (dn l0:List Nat) (σ:List (Nat × Value)) (η:List SProp) (a:Act) (w:World) (X:List (Nat × Nat)):Prop where
 size:listed.size=ops.size
 closed:Closed ops listed
 x1:∀ x∈X,x.1∈l0∧listed.getD x.1 false=true∧∃ o d,ops[x.1]?=some o∧isAlloc o.op=true∧o.dst=some d∧a.tmps[d]?=some (.pointer (some ⟨x.2,0,none⟩))
 x2:∀ i∈l0,listed.getD i false=true→∃ b,(i,b)∈X
 xn:(X.map (·.1)).Nodup
 pend:∀ i∈dn,listed.getD i false=false→Pend P ops n D g σ i
 len:a.tmps.size=n
 defers:a.defers=D
 wk:∀ j∈dn,listed.getD j false=false→strongB ops j=true
 frame:∀ t v,look σ t=some v→(∀ j o,ops[j]?=some o→o.dst=some t→(listed.getD j false=true↔j∈dn))→a.tmps[t]?=some v
 holds:Holds w g (X.map (atomOf P ops)++η)
structure Ok (P:Program) (n:Nat) (ops:Array Oper) (l0:List Nat):Prop where
 nodup:l0.Nodup
 all:∀ i,i<ops.size→i∈l0
 lt:∀ i∈l0,i<ops.size
 after:∀ (dn:List Nat) (i:Nat) (l:List Nat),l0=dn++i::l→∀ o,ops[i]?=some o→∀ e∈o.after,binds .any e=true→e.on∈dn
 reads:∀ (i:Nat) (o:Oper) (j:Nat) (oj:Oper) (d:Nat),ops[i]?=some o→ops[j]?=some oj→oj.dst=some d→d∈slotsRead ops o→(∃ e∈o.after,binds .any e=true∧e.on=j)∨∃ e∈oj.after,binds .any e=true∧e.on=i
 dst:∀ (i:Nat) (o:Oper) (j:Nat) (oj:Oper) (d:Nat),ops[i]?=some o→ops[j]?=some oj→o.dst=some d→oj.dst=some d→i=j
 sel:Region.noSelect ops=true
 alloc:∀ (i:Nat) (o:Oper) (T:TypeId),ops[i]?=some o→o.op=.alloc T→(∃ z,zeroOf P T=some z)∧o.guard=none∧∃ d,o.dst=some d∧Nat.blt d n=true
 strongA:∀ i,allocAt ops i=true→strongB ops i=true
 weak:∀ (dn:List Nat) (i:Nat) (l:List Nat),l0=dn++i::l→l≠[]→strongB ops i=true
theorem afterOk_spec:∀ (l dn:List Nat),afterOk ops dn l=true→∀ pre i post,l=pre++i::post→∀ o,ops[i]?=some o→∀ e∈o.after,binds .any e=true→e.on∈dn∨e.on∈pre
 |[],_,_,pre,i,post,h,_,_,_,_,_=>by cases pre<;>cases h
 |j::l,dn,h,pre,i,post,hl,o,ho,e,he,hb=>by
  simp only [afterOk,Bool.and_eq_true] at h
  cases pre with
  |nil =>
   simp only [List.nil_append,List.cons.injEq] at hl;obtain ⟨rfl,rfl⟩:=hl;have h1:=h.1;rw [ho] at h1;have:=Array.all_eq_true_iff_forall_mem.1 h1 e he
   simp [hb] at this
   exact .inl this
  |cons p pre =>
   simp only [List.cons_append,List.cons.injEq] at hl;obtain ⟨rfl,rfl⟩:=hl
   rcases afterOk_spec _ (j::dn) h.2 pre i post rfl o ho e he hb with h|h
   ·rcases List.mem_cons.1 h with h|h
    ·exact .inr (List.mem_cons.2 (.inl h))
    ·exact .inl h
   ·exact .inr (List.mem_cons_of_mem _ h)
theorem orderOk_spec {l0:List Nat} (h:orderOk P n ops l0=true):Ok P n ops l0:=by
 simp only [orderOk,Bool.and_eq_true,List.all_eq_true,decide_eq_true_eq] at h;obtain ⟨⟨⟨⟨⟨⟨⟨⟨h1,h2⟩,h3⟩,h4⟩,h5⟩,h6⟩,h7⟩,h8⟩,h9⟩:=h;simp only [allocOk,Bool.and_eq_true] at h8;obtain ⟨h8a,h8⟩:=h8;have hnd:=nodupOk_spec h1;refine ⟨hnd,?_,h3,?_,?_,?_,h7,?_,?_,?_⟩
 ·intro i hi
  simpa using h2 i (List.mem_range.2 hi)
 ·intro dn i l hl o ho e he hb
  rcases afterOk_spec l0 [] h4 dn i l hl o ho e he hb with h|h
  ·cases h
  ·exact h
 ·intro i o j oj d ho hoj hd hm
  have hi:i<ops.size:=(Array.getElem?_eq_some_iff.1 ho).1;have hj:j<ops.size:=(Array.getElem?_eq_some_iff.1 hoj).1;have:=List.all_eq_true.1 h5 i (List.mem_range.2 hi);rw [ho] at this;have:=List.all_eq_true.1 (List.all_eq_true.1 this d hm) j (List.mem_range.2 hj);simp only [hoj,hd,bne_self_eq_false,Bool.false_or,Bool.or_eq_true] at this
  rcases this with this|this
  ·obtain ⟨p,hp,hb⟩:=Array.any_eq_true.1 this
   simp only [Bool.and_eq_true,beq_iff_eq] at hb;exact .inl ⟨o.after[p],Array.getElem_mem hp,hb.1,hb.2⟩
  ·obtain ⟨p,hp,hb⟩:=Array.any_eq_true.1 this
   simp only [Bool.and_eq_true,beq_iff_eq] at hb;exact .inr ⟨oj.after[p],Array.getElem_mem hp,hb.1,hb.2⟩
 ·intro i o j oj d ho hoj hd hdj
  have hi:i<ops.size:=(Array.getElem?_eq_some_iff.1 ho).1;have hj:j<ops.size:=(Array.getElem?_eq_some_iff.1 hoj).1;have:=List.all_eq_true.1 (List.all_eq_true.1 h6 i (List.mem_range.2 hi)) j (List.mem_range.2 hj);simp only [ho,hoj,hd,hdj] at this
  simpa using this
 ·intro i o T ho hT
  have:=Array.all_eq_true_iff_forall_mem.1 h8 o (Array.mem_of_getElem? ho);rw [hT] at this;simp only [Bool.and_eq_true,Option.isSome_iff_exists,Option.isNone_iff_eq_none] at this;obtain ⟨⟨h1,h2⟩,h3⟩:=this;refine ⟨h1,h2,?_⟩
  cases hd:o.dst with
  |none=>rw [hd] at h3;cases h3
  |some d=>rw [hd] at h3;exact ⟨d,rfl,h3⟩
 ·intro i hi
  by_cases hlt:i<ops.size
  ·have:=List.all_eq_true.1 h8a i (List.mem_range.2 hlt)
   simpa [hi] using this
  ·simp [strongB,Array.getElem?_eq_none (Nat.le_of_not_lt hlt)]
 ·intro dn i l hl hne
  refine h9 i ?_;rw [hl,List.dropLast_append_of_ne_nil (by simp),List.dropLast_cons_of_ne_nil hne];simp
theorem strongB_spec {i:Nat} {oi:Oper} {d:Nat} (h:strongB ops i=true) (hi:ops[i]?=some oi) (hd:oi.dst=some d):∀ (j:Nat) (o:Oper),ops[j]?=some o→d∈slotsRead ops o→∃ e∈o.after,binds .any e=true∧e.on=i:=by
 intro j o ho hm
 simp only [strongB,hi,hd] at h;have:=List.all_eq_true.1 h j (List.mem_range.2 (Array.getElem?_eq_some_iff.1 ho).1);simp only [ho,List.contains_eq_mem,Bool.or_eq_true,Bool.not_eq_true',decide_eq_false_iff_not,hm,not_true_eq_false,false_or] at this;obtain ⟨p,hp,hb⟩:=Array.any_eq_true.1 this;simp only [Bool.and_eq_true,beq_iff_eq] at hb;exact ⟨o.after[p],Array.getElem_mem hp,hb.1,hb.2⟩
theorem getD_bool {listed:Array Bool} {i:Nat} (hi:i<listed.size) (b c:Bool):listed.getD i b=listed.getD i c:=by
 simp [Array.getD_eq_getD_getElem?,hi]
theorem Ok.fresh {l0 dn l:List Nat} {i:Nat} (hok:Ok P n ops l0) (hst:strongB ops i=true) (hl:l0=dn++i::l) {oi:Oper} {d:Nat} (hi:ops[i]?=some oi) (hd:oi.dst=some d) :
  ∀ j o,j∈dn∨j=i→ops[j]?=some o→d ∉ slotsRead ops o:=by
 intro j o hj ho hm
 obtain ⟨e,he,hb,hon⟩:=strongB_spec hst hi hd j o ho hm;have hnd:=hok.nodup;rw [hl] at hnd;have hin:i∈dn:=by
  rcases hj with hj|rfl
  ·obtain ⟨p,q,rfl⟩:=List.append_of_mem hj
   have:=hok.after p j (q++i::l) (by rw [hl];simp) o ho e he hb;rw [hon] at this
   simp [this]
  ·have:=hok.after dn j l hl o ho e he hb
   rwa [hon] at this
 rw [List.nodup_append] at hnd;exact hnd.2.2 i hin i (by simp) rfl
theorem Closed.set {listed:Array Bool} {i:Nat} {o:Oper} (hc:Closed ops listed) (ho:ops[i]?=some o) (hr:i∈ready .any ops listed):Closed ops (listed.setIfInBounds i true):=by
 intro j oj hj hl hlt e he hb
 by_cases hij:i=j
 ·subst hij
  rw [ho] at hj;cases hj;obtain ⟨_,o',ho',hall⟩:=mem_ready.1 hr;rw [ho] at ho';cases ho';exact getD_set_true (hall e he hb)
 ·rw [getD_set_ne true hij] at hl
  exact getD_set_true (hc j oj hj hl hlt e he hb)
theorem Inv.done {listed:Array Bool} {dn l0:List Nat} {σ:List (Nat × Value)} {η:List SProp} {a:Act} {w w' :World} {X:List (Nat × Nat)} {i d:Nat} {o:Oper} {v:Value} {L:List Nat} (hok:Ok P n ops L) (hL:L=dn++l0)
  (hv:Inv P ops n D g listed dn l0 σ η a w X) (hr:i∈ready .any ops listed) (hi:ops[i]?=some o) (hd:o.dst=some d) (hb:Nat.blt d n=true) (hm:i∈dn) (hl:look σ d=some v)
  (hw:Holds w' g (X.map (atomOf P ops)++η)):Inv P ops n D g (listed.setIfInBounds i true) dn l0 σ η (a.put (some d) v) w' X:=by
 have hdn:Nat.blt d n=true:=hb;have hdl:d<a.tmps.size:=by rw [hv.len];exact of_decide_eq_true (by simpa [Nat.blt_eq] using hdn)
 have hil:i<listed.size:=by rw [hv.size];exact (Array.getElem?_eq_some_iff.1 hi).1
 have hnd:=hok.nodup;rw [hL,List.nodup_append] at hnd;have hget:∀ t,t≠d→(a.put (some d) v).tmps[t]?=a.tmps[t]?:=fun t ht=>by simp [Act.put,Array.getElem?_setIfInBounds_ne (Ne.symm ht)]
 refine ⟨by simp [hv.size],hv.closed.set hi hr,?_,?_,hv.xn,?_,by simp [Act.put,hv.len],by simpa [Act.put] using hv.defers,?_,?_,hw⟩
 ·intro x hx
  obtain ⟨h1,h2,o',d',h3,h4,h5,h6⟩:=hv.x1 x hx;refine ⟨h1,getD_set_true h2,o',d',h3,h4,h5,?_⟩;rw [hget d' ?_];exact h6;rintro rfl;have:=hok.dst x.1 o' i o d' h3 hi h5 hd;rw [this] at h1;exact hnd.2.2 i hm i h1 rfl
 ·intro j hj hlj
  have hij:i≠j:=by rintro rfl;exact hnd.2.2 i hm i hj rfl
  rw [getD_set_ne false hij] at hlj;exact hv.x2 j hj hlj
 ·intro j hj hlj
  by_cases hij:i=j
  ·subst hij
   simp [hil] at hlj
  ·rw [getD_set_ne false hij] at hlj
   exact hv.pend j hj hlj
 ·intro j hj hlj
  by_cases hij:i=j
  ·subst hij
   simp [hil] at hlj
  ·rw [getD_set_ne false hij] at hlj
   exact hv.wk j hj hlj
 ·intro t u hu hall
  by_cases ht:t=d
  ·subst ht
   rw [hl] at hu;cases hu
   simp [Act.put,Array.getElem?_setIfInBounds_self_of_lt hdl]
  ·rw [hget t ht]
   refine hv.frame t u hu fun j oj hj hdj=>?_;have q1:=hall j oj hj hdj;have hij:i≠j:=by rintro rfl;rw [hi] at hj;cases hj;rw [hd] at hdj;cases hdj;exact ht rfl
   rwa [getD_set_ne false hij] at q1
theorem Inv.wait {listed:Array Bool} {dn l:List Nat} {σ:List (Nat × Value)} {η:List SProp} {a:Act} {w:World} {X:List (Nat × Nat)} {i d:Nat} {o:Oper} {v:Value} {L:List Nat} (hok:Ok P n ops L) (hL:L=dn++i::l)
  (hst:strongB ops i=true)
  (hv:Inv P ops n D g listed dn (i::l) σ η a w X) (hi:ops[i]?=some o) (hd:o.dst=some d) (hu:listed.getD i false=false) (hp:Pend P ops n D g ((d,v)::σ) i) :
  Inv P ops n D g listed (dn++[i]) l ((d,v)::σ) η a w X:=by
 have hfr:=hok.fresh hst hL hi hd;refine ⟨hv.size,hv.closed,?_,fun j hj=>hv.x2 j (List.mem_cons_of_mem _ hj),hv.xn,?_,hv.len,hv.defers,?_,?_,hv.holds⟩
 ·intro x hx
  obtain ⟨h1,h2,h3⟩:=hv.x1 x hx
  rcases List.mem_cons.1 h1 with h|h
  ·rw [h] at h2;rw [hu] at h2;cases h2
  ·exact ⟨h,h2,h3⟩
 ·intro j hj hlj
  rcases List.mem_append.1 hj with hj' |hj
  ·refine (hv.pend j hj' hlj).ext fun oj hoj=>⟨hfr j oj (.inl hj') hoj,fun h=>?_⟩
   have:=hok.dst j oj i o d hoj hi h hd;subst this;have hnd:=hok.nodup;rw [hL,List.nodup_append] at hnd;exact hnd.2.2 j hj' j (by simp) rfl
  ·rw [List.mem_singleton.1 hj];exact hp
 ·intro j hj hlj
  rcases List.mem_append.1 hj with hj' |hj
  ·exact hv.wk j hj' hlj
  ·rw [List.mem_singleton.1 hj];exact hst
 ·intro t u ht hall
  by_cases htd:t=d
  ·subst htd
   have:=(hall i o hi hd).2 (by simp);rw [hu] at this;cases this
  ·rw [look_ne htd] at ht
   refine hv.frame t u ht fun j oj hj hdj=>?_;have q1:=hall j oj hj hdj;have hij:j≠i:=by rintro rfl;rw [hi] at hj;cases hj;rw [hd] at hdj;cases hdj;exact htd rfl
   simpa [hij] using q1
theorem Inv.meet {listed:Array Bool} {dn l:List Nat} {σ:List (Nat × Value)} {η:List SProp} {a:Act} {w:World} {X:List (Nat × Nat)} {i d b:Nat} {o:Oper} {T:TypeId} {z:Value} {L:List Nat} (hok:Ok P n ops L) (hL:L=dn++i::l)
  (hv:Inv P ops n D g listed dn (i::l) σ η a w X) (hi:ops[i]?=some o) (hd:o.dst=some d) (hop:o.op=.alloc T) (hz:zeroOf P T=some z) (hx:(i,b)∈X) :
  ∃ X',Inv P ops n D g listed (dn++[i]) l ((d,.pointer (some ⟨b,0,none⟩))::σ) (obj b T z.cells.toList::η) a w X' :=by
 obtain ⟨X1,X2,rfl⟩:=List.append_of_mem hx;have hfr:=hok.fresh (hok.strongA i (by simp [allocAt,hi,hop,isAlloc])) hL hi hd;have hnd:=hok.nodup;rw [hL,List.nodup_append] at hnd;have hxn:=hv.xn;simp only [List.map_append,List.map_cons,List.nodup_append,List.nodup_cons] at hxn;refine ⟨X1++X2,hv.size,hv.closed,?_,?_,?_,?_,hv.len,hv.defers,?_,?_,?_⟩
 ·intro x hxm
  have hxm' :x∈X1++(i,b)::X2:=by simp only [List.mem_append,List.mem_cons] at hxm ⊢;rcases hxm with h|h<;>simp [h]
  obtain ⟨h1,h2,h3⟩:=hv.x1 x hxm';refine ⟨?_,h2,h3⟩
  rcases List.mem_cons.1 h1 with h|h
  ·exfalso
   rcases List.mem_append.1 hxm with q|q
   ·exact hxn.2.2 _ (List.mem_map.2 ⟨x,q,rfl⟩) i (by simp) h
   ·exact hxn.2.1.1 (h ▸ List.mem_map.2 ⟨x,q,rfl⟩)
  ·exact h
 ·intro j hj hlj
  obtain ⟨b',hb'⟩:=hv.x2 j (List.mem_cons_of_mem _ hj) hlj;refine ⟨b',?_⟩;simp only [List.mem_append,List.mem_cons] at hb' ⊢
  rcases hb' with h|h|h
  ·exact .inl h
  ·cases h;exact ((List.nodup_cons.1 hnd.2.1).1 hj).elim
  ·exact .inr h
 ·simp only [List.map_append,List.nodup_append]
  exact ⟨hxn.1,hxn.2.1.2,fun p hp q hq=>hxn.2.2 p hp q (List.mem_cons_of_mem _ hq)⟩
 ·intro j hj hlj
  rcases List.mem_append.1 hj with hj' |hj
  ·refine (hv.pend j hj' hlj).ext fun oj hoj=>⟨hfr j oj (.inl hj') hoj,fun h=>?_⟩
   have:=hok.dst j oj i o d hoj hi h hd;subst this;exact hnd.2.2 j hj' j (by simp) rfl
  ·rw [List.mem_singleton.1 hj] at hlj
   rw [(hv.x1 _ hx).2.1] at hlj;cases hlj
 ·intro j hj hlj
  rcases List.mem_append.1 hj with hj' |hj
  ·exact hv.wk j hj' hlj
  ·rw [List.mem_singleton.1 hj] at hlj
   rw [(hv.x1 _ hx).2.1] at hlj;cases hlj
 ·intro t u ht hall
  by_cases htd:t=d
  ·subst htd
   rw [look_eq] at ht;cases ht;obtain ⟨_,_,o',d',h3,_,h5,h6⟩:=hv.x1 _ hx;rw [hi] at h3;cases h3;rw [hd] at h5;cases h5;exact h6
  ·rw [look_ne htd] at ht
   refine hv.frame t u ht fun j oj hj hdj=>?_;have q1:=hall j oj hj hdj;have hij:j≠i:=by rintro rfl;rw [hi] at hj;cases hj;rw [hd] at hdj;cases hdj;exact htd rfl
   simpa [hij] using q1
 ·have e:atomOf P ops (i,b)=obj b T z.cells.toList:=by simp [atomOf,hi,hop,hz]
  refine hv.holds.perm ?_;simp only [List.map_append,List.map_cons,e,List.append_assoc,List.cons_append];exact List.Perm.append_left _ List.perm_middle.symm
theorem Inv.step {listed:Array Bool} {dn l:List Nat} {σ σ' :List (Nat × Value)} {η η' :List SProp} {a a' :Act} {w w' :World} {X:List (Nat × Nat)} {i:Nat} {o:Oper} {L:List Nat} (hok:Ok P n ops L) (hL:L=dn++i::l)
  (hv:Inv P ops n D g listed dn (i::l) σ η a w X) (hr:i∈ready .any ops listed) (hi:ops[i]?=some o)
  (hd:(o.dst=none∧σ' =σ∧a' =a)∨∃ d v,o.dst=some d∧Nat.blt d n=true∧σ' =(d,v)::σ∧a' =a.put (some d) v)
  (hw:Holds w' g (X.map (atomOf P ops)++η')):Inv P ops n D g (listed.setIfInBounds i true) (dn++[i]) l σ' η' a' w' X:=by
 have hil:i<listed.size:=by rw [hv.size];exact (Array.getElem?_eq_some_iff.1 hi).1
 have hu:listed.getD i false=false:=by rw [getD_bool hil false true];exact (mem_ready.1 hr).1
 have hnd:=hok.nodup;rw [hL,List.nodup_append] at hnd;have hni:i ∉ l:=(List.nodup_cons.1 hnd.2.1).1;have hx1:∀ x∈X,x.1∈l:=fun x hx=>by
  obtain ⟨h1,h2,_⟩:=hv.x1 x hx
  rcases List.mem_cons.1 h1 with h|h
  ·rw [h,hu] at h2;cases h2
  ·exact h
 refine ⟨by simp [hv.size],hv.closed.set hi hr,?_,?_,hv.xn,?_,?_,?_,?_,?_,hw⟩
 ·intro x hx
  obtain ⟨h1,h2,o',d',h3,h4,h5,h6⟩:=hv.x1 x hx;refine ⟨hx1 x hx,getD_set_true h2,o',d',h3,h4,h5,?_⟩
  rcases hd with ⟨_,_,rfl⟩|⟨d,v,hd,hb,_,rfl⟩
  ·exact h6
  ·have:d' ≠d:=by
    rintro rfl;have:=hok.dst x.1 o' i o d' h3 hi h5 hd;exact hni (this ▸ hx1 x hx)
   simp only [Act.put,Array.getElem?_setIfInBounds_ne (Ne.symm this)];exact h6
 ·intro j hj hlj
  have hij:i≠j:=by rintro rfl;exact hni hj
  rw [getD_set_ne false hij] at hlj;exact hv.x2 j (List.mem_cons_of_mem _ hj) hlj
 ·intro j hj hlj
  have hij:i≠j:=by rintro rfl;simp [hil] at hlj
  rw [getD_set_ne false hij] at hlj;have hjd:j∈dn:=by
   rcases List.mem_append.1 hj with h|h
   ·exact h
   ·exact (hij (List.mem_singleton.1 h).symm).elim
  have hp:=hv.pend j hjd hlj
  rcases hd with ⟨_,rfl,_⟩|⟨d,v,hd,hb,rfl,_⟩
  ·exact hp
  ·refine hp.ext fun oj hoj=>⟨fun hm=>?_,fun h=>?_⟩
   ·rcases hok.reads j oj i o d hoj hi hd hm with ⟨e,he,hb,hon⟩|⟨e,he,hb,hon⟩
    ·obtain ⟨p,q,rfl⟩:=List.append_of_mem hjd
     have:=hok.after p j (q++i::l) (by rw [hL];simp) oj hoj e he hb;rw [hon] at this;exact hnd.2.2 i (by simp [this]) i (by simp) rfl
    ·obtain ⟨_,o',ho',hall⟩:=mem_ready.1 hr
     rw [hi] at ho';cases ho';have:=hall e he hb;rw [hon,hlj] at this;cases this
   ·have:=hok.dst j oj i o d hoj hi h hd
    exact hij this.symm
 ·rcases hd with ⟨_,_,rfl⟩|⟨d,v,hd,hb,_,rfl⟩
  ·exact hv.len
  ·simp [Act.put,hv.len]
 ·rcases hd with ⟨_,_,rfl⟩|⟨d,v,hd,hb,_,rfl⟩
  ·exact hv.defers
  ·simpa [Act.put] using hv.defers
 ·intro j hj hlj
  have hij:i≠j:=by rintro rfl;simp [hil] at hlj
  rw [getD_set_ne false hij] at hlj
  rcases List.mem_append.1 hj with h|h
  ·exact hv.wk j h hlj
  ·exact (hij (List.mem_singleton.1 h).symm).elim
 ·intro t u ht hall
  have hsub:∀ j oj,ops[j]?=some oj→oj.dst=some t→i≠j→(listed.getD j false=true↔j∈dn):=fun j oj hj hdj hij=>by
   have q1:=hall j oj hj hdj;rw [getD_set_ne false hij] at q1
   simpa [Ne.symm hij] using q1
  rcases hd with ⟨hn,rfl,rfl⟩|⟨d,v,hd,hb,rfl,rfl⟩
  ·exact hv.frame t u ht fun j oj hj hdj=>hsub j oj hj hdj (by rintro rfl;rw [hi] at hj;cases hj;rw [hn] at hdj;cases hdj)
  ·have hdl:d<a.tmps.size:=by rw [hv.len];exact of_decide_eq_true (by simpa [Nat.blt_eq] using hb)
   by_cases htd:t=d
   ·subst htd
    rw [look_eq] at ht;cases ht
    simp [Act.put,Array.getElem?_setIfInBounds_self_of_lt hdl]
   ·rw [look_ne htd] at ht
    simp only [Act.put,Array.getElem?_setIfInBounds_ne (Ne.symm htd)];exact hv.frame t u ht fun j oj hj hdj=>hsub j oj hj hdj (by rintro rfl;rw [hi] at hj;cases hj;rw [hd] at hdj;cases hdj;exact htd rfl)
theorem Inv.early {listed:Array Bool} {dn l0:List Nat} {σ:List (Nat × Value)} {η:List SProp} {a:Act} {w:World} {X:List (Nat × Nat)} {i d:Nat} {o:Oper} {T:TypeId} {z:Value} {L:List Nat} (hok:Ok P n ops L) (hL:L=dn++l0)
  (hv:Inv P ops n D g listed dn l0 σ η a w X) (hr:i∈ready .any ops listed) (hm:i∈l0) (hi:ops[i]?=some o) (hop:o.op=.alloc T) (hz:zeroOf P T=some z) (hd:o.dst=some d) (hb:Nat.blt d n=true) :
  Inv P ops n D g (listed.setIfInBounds i true) dn l0 σ η (a.put (some d) (.pointer (some ⟨w.heap.size,0,none⟩))) (w.alloc (.cells z.cells T)) ((i,w.heap.size)::X):=by
 have hil:i<listed.size:=by rw [hv.size];exact (Array.getElem?_eq_some_iff.1 hi).1
 have hu:listed.getD i false=false:=by rw [getD_bool hil false true];exact (mem_ready.1 hr).1
 have hdl:d<a.tmps.size:=by rw [hv.len];exact of_decide_eq_true (by simpa [Nat.blt_eq] using hb)
 have hnd:=hok.nodup;rw [hL,List.nodup_append] at hnd;have hxi:∀ x∈X,x.1≠i:=fun x hx h=>by
  obtain ⟨_,h2,_⟩:=hv.x1 x hx;rw [h,hu] at h2;cases h2
 refine ⟨by simp [hv.size],hv.closed.set hi hr,?_,?_,?_,?_,by simp [Act.put,hv.len],by simpa [Act.put] using hv.defers,?_,?_,?_⟩
 ·intro x hx
  rcases List.mem_cons.1 hx with rfl|hx
  ·exact ⟨hm,by simp [hil],o,d,hi,by simp [hop,isAlloc],hd,by simp [Act.put,Array.getElem?_setIfInBounds_self_of_lt hdl]⟩
  ·obtain ⟨h1,h2,o',d',h3,h4,h5,h6⟩:=hv.x1 x hx
   refine ⟨h1,getD_set_true h2,o',d',h3,h4,h5,?_⟩;have:d' ≠d:=by
    rintro rfl;exact hxi x hx (hok.dst x.1 o' i o d' h3 hi h5 hd)
   simp only [Act.put,Array.getElem?_setIfInBounds_ne (Ne.symm this)];exact h6
 ·intro j hj hlj
  by_cases hij:i=j
  ·subst hij;exact ⟨_,List.mem_cons_self ..⟩
  ·rw [getD_set_ne false hij] at hlj
   obtain ⟨b,hb⟩:=hv.x2 j hj hlj;exact ⟨b,List.mem_cons_of_mem _ hb⟩
 ·simp only [List.map_cons,List.nodup_cons]
  refine ⟨fun h=>?_,hv.xn⟩;obtain ⟨x,hx,hxe⟩:=List.mem_map.1 h;exact hxi x hx hxe
 ·intro j hj hlj
  have hij:i≠j:=by rintro rfl;simp [hil] at hlj
  rw [getD_set_ne false hij] at hlj;exact hv.pend j hj hlj
 ·intro j hj hlj
  have hij:i≠j:=by rintro rfl;simp [hil] at hlj
  rw [getD_set_ne false hij] at hlj;exact hv.wk j hj hlj
 ·intro t u ht hall
  have htd:t≠d:=by
   rintro rfl;exact hnd.2.2 i ((hall i o hi hd).1 (by simp [hil])) i hm rfl
  simp only [Act.put,Array.getElem?_setIfInBounds_ne (Ne.symm htd)];refine hv.frame t u ht fun j oj hj hdj=>?_;have q1:=hall j oj hj hdj;have hij:i≠j:=by rintro rfl;rw [hi] at hj;cases hj;rw [hd] at hdj;cases hdj;exact htd rfl
  rwa [getD_set_ne false hij] at q1
 ·have e:atomOf P ops (i,w.heap.size)=obj w.heap.size T z.cells.toList:=by simp [atomOf,hi,hop,hz]
  simp only [List.map_cons,e,List.cons_append];exact hv.holds.allocObj T z.cells
def left (ops:Array Oper) (listed:Array Bool):Nat:=((List.range ops.size).filter fun i=>!listed.getD i true).length
theorem left_set {listed:Array Bool} {i:Nat} (hs:listed.size=ops.size) (hi:i<ops.size) (hu:listed.getD i true=false):left ops (listed.setIfInBounds i true)<left ops listed:=by
 unfold left;have hsub:((List.range ops.size).filter fun j=>!(listed.setIfInBounds i true).getD j true)=((List.range ops.size).filter fun j=>!listed.getD j true).filter (· !=i):=by
  rw [List.filter_filter]
  apply List.filter_congr
  intro j hj
  by_cases hij:i=j
  ·subst hij
   have:i<listed.size:=by omega
   simp [this]
  ·rw [getD_set_ne true hij]
   have:(j !=i)=true:=by simpa using Ne.symm hij
   simp [this]
 rw [hsub];have hmem:i∈(List.range ops.size).filter fun j=>!listed.getD j true:=List.mem_filter.2 ⟨List.mem_range.2 hi,by rw [hu];rfl⟩;obtain ⟨p,q,hpq⟩:=List.append_of_mem hmem;rw [hpq,List.filter_append,List.filter_cons];simp only [bne_self_eq_false,Bool.false_eq_true,if_false,List.length_append,List.length_cons];have:=List.length_filter_le (· !=i) p;have:=List.length_filter_le (· !=i) q
 omega
theorem left_zero {listed:Array Bool} (h:left ops listed=0):∀ i,i<ops.size→listed.getD i true=true:=by
 intro i hi
 cases hl:listed.getD i true with
 |true=>rfl
 |false =>
  have hmem:i∈(List.range ops.size).filter fun j=>!listed.getD j true:=List.mem_filter.2 ⟨List.mem_range.2 hi,by rw [hl];rfl⟩;unfold left at h;rw [List.eq_nil_of_length_eq_zero h] at hmem
  cases hmem
theorem Fires.op_at {i d:Nat} {σ:List (Nat × Value)} {op:Op} (h:Fires ops i n σ d op):∃ o,ops[i]?=some o∧o.op=op∧o.dst=some d∧Nat.blt d n=true:=by
 obtain ⟨o,h1,h2,h3,h4,_⟩:=h.at;exact ⟨o,h1,h3,h2,h4⟩
theorem erase_split {l q r:List Nat} {i j:Nat} (hi:i∈l) (h:l.erase i=q++j::r):∃ p t,l=p++j::t∧∀ x∈p,x=i∨x∈q:=by
 obtain ⟨l1,l2,hn,rfl,he⟩:=List.exists_erase_eq hi;rw [he] at h
 rcases List.append_eq_append_iff.1 h with ⟨t,h1,h2⟩|⟨t,h1,h2⟩
 ·
  refine ⟨l1++i::t,r,by rw [h2];simp,fun x hx=>?_⟩
  rcases List.mem_append.1 hx with hx|hx
  ·exact .inr (by rw [h1];simp [hx])
  ·rcases List.mem_cons.1 hx with rfl|hx
   ·exact .inl rfl
   ·exact .inr (by rw [h1];simp [hx])
 ·
  cases t with
  |nil =>
   simp only [List.nil_append,List.append_nil] at h1 h2;refine ⟨l1++[i],r,by rw [← h2];simp,fun x hx=>?_⟩
   rcases List.mem_append.1 hx with hx|hx
   ·exact .inr (h1 ▸ hx)
   ·exact .inl (List.mem_singleton.1 hx)
  |cons y t =>
   simp only [List.cons_append,List.cons.injEq] at h2;obtain ⟨rfl,rfl⟩:=h2;exact ⟨q,t++i::l2,by rw [h1];simp,fun x hx=>.inr hx⟩
theorem last_app {l1 l2:List Nat} (h:l2≠[]):(l1++l2).getLast?=l2.getLast?:=by
 rw [List.getLast?_append,List.getLast?_eq_some_getLast h];rfl
theorem Ok.move {L dn l:List Nat} {i:Nat} (hok:Ok P n ops L) (hst:strongB ops i=true) (hL:L=dn++l) (hi:i∈l) (ha:∀ o,ops[i]?=some o→∀ e∈o.after,binds .any e=true→e.on ∉ l):Ok P n ops (dn++i::l.erase i):=by
 have hp:(dn++i::l.erase i).Perm L:=by rw [hL];exact (List.perm_cons_erase hi).symm.append_left dn
 have hnd:=hok.nodup;refine ⟨hp.nodup_iff.2 hok.nodup,fun j hj=>hp.mem_iff.2 (hok.all j hj),fun j hj=>hok.lt j (hp.mem_iff.1 hj),?_,hok.reads,hok.dst,hok.sel,hok.alloc,hok.strongA,?_⟩
 rotate_left
 ·intro dn' j l' h hne
  by_cases hji:j=i
  ·subst hji;exact hst
  have hj:j∈L:=hp.mem_iff.1 (by rw [h];simp);obtain ⟨p,q,hpq⟩:=List.append_of_mem hj
  by_cases hq:q=[]
  ·exfalso
   subst hq;have hlast:L.getLast?=some j:=by rw [hpq];simp
   rw [hL] at hlast hnd;have hjl:j∈l:=by
    have hne:l≠[]:=List.ne_nil_of_mem hi;rw [last_app hne] at hlast;exact List.mem_of_getLast? hlast
   have hle:(l.erase i).getLast?=some j:=by
    have hne:l≠[]:=List.ne_nil_of_mem hi;rw [last_app hne] at hlast;obtain ⟨l1,l2,hn,he1,he2⟩:=List.exists_erase_eq hi;rw [he2];rw [he1] at hlast
    cases l2 with
    |nil=>rw [last_app (by simp)] at hlast;simp at hlast;exact (hji hlast.symm).elim
    |cons y l2 =>
     rw [last_app (by simp)] at hlast ⊢;rw [List.getLast?_cons_cons] at hlast;exact hlast
   have h2:(dn++i::l.erase i).getLast?=some j:=by
    have hne2:l.erase i≠[]:=by intro h0;rw [h0] at hle;cases hle
    rw [last_app (by simp)]
    cases hle2:l.erase i with
    |nil=>exact (hne2 hle2).elim
    |cons y z=>rw [List.getLast?_cons_cons,← hle2];exact hle
   rw [h,last_app (by simp)] at h2;have h3:j∈l' :=by
    cases l' with
    |nil=>exact (hne rfl).elim
    |cons y z=>rw [List.getLast?_cons_cons] at h2;exact List.mem_of_getLast? h2
   have hnd2:=hp.nodup_iff.2 hok.nodup;rw [h,List.nodup_append] at hnd2;exact (List.nodup_cons.1 hnd2.2.1).1 h3
  ·exact hok.weak p j q hpq hq
 intro dn' j l' h o ho e he hb
 have hin:e.on∈L:=by
  have hj:j∈L:=hp.mem_iff.1 (by rw [h];simp);obtain ⟨p,q,hpq⟩:=List.append_of_mem hj;have:=hok.after p j q hpq o ho e he hb;rw [hpq];simp [this]
 rcases List.append_eq_append_iff.1 h with ⟨t,h1,h2⟩|⟨t,h1,h2⟩
 ·
  cases t with
  |nil =>
   simp only [List.nil_append,List.cons.injEq] at h2;obtain ⟨rfl,_⟩:=h2;simp only [List.append_nil] at h1;rw [hL] at hin
   rcases List.mem_append.1 hin with q|q
   ·rw [h1];exact q
   ·exact (ha o ho e he hb q).elim
  |cons y t =>
   simp only [List.cons_append,List.cons.injEq] at h2;obtain ⟨rfl,h2⟩:=h2;obtain ⟨p,u,hl,hx⟩:=erase_split hi h2;have:=hok.after (dn++p) j u (by rw [hL,hl];simp) o ho e he hb;rw [h1]
   rcases List.mem_append.1 this with q|q
   ·simp [q]
   ·rcases hx _ q with q|q<;>simp [q]
 ·cases t with
  |nil =>
   simp only [List.nil_append,List.cons.injEq] at h2;obtain ⟨rfl,_⟩:=h2;simp only [List.append_nil] at h1;rw [hL] at hin
   rcases List.mem_append.1 hin with q|q
   ·rw [← h1];exact q
   ·exact (ha o ho e he hb q).elim
  |cons y t =>
   simp only [List.cons_append,List.cons.injEq] at h2;obtain ⟨rfl,_⟩:=h2;exact hok.after dn' j (t++l) (by rw [hL,h1];simp) o ho e he hb
theorem Inv.move {listed:Array Bool} {dn l:List Nat} {σ:List (Nat × Value)} {η:List SProp} {a:Act} {w:World} {X:List (Nat × Nat)} {i:Nat} (hv:Inv P ops n D g listed dn l σ η a w X) (hi:i∈l):Inv P ops n D g listed dn (i::l.erase i) σ η a w X:=by
 have hp:=List.perm_cons_erase hi;exact ⟨hv.size,hv.closed,fun x hx=>let ⟨h1,h2⟩:=hv.x1 x hx;⟨hp.mem_iff.1 h1,h2⟩,fun j hj=>hv.x2 j (hp.mem_iff.2 hj),hv.xn,hv.pend,hv.len,hv.defers,hv.wk,hv.frame,hv.holds⟩
theorem altOk_spec {cands l:List Nat} (h:altOk ops cands l=true):cands≠[]∧(∀ i∈cands,i∈l∧allocAt ops i=false∧strongB ops i=true∧∀ o,ops[i]?=some o→∀ e∈o.after,binds .any e=true→e.on ∉ l)∧descOk ops cands (l.filter fun i=>!cands.contains i)=true:=by
 simp only [altOk,Bool.and_eq_true,List.all_eq_true] at h;obtain ⟨⟨h1,h2⟩,h3⟩:=h;refine ⟨fun h=>by rw [h] at h1;simp at h1,fun i hi=>?_,h3⟩;obtain ⟨⟨⟨h4,h5⟩,h7⟩,h6⟩:=h2 i hi;refine ⟨by simpa using h4,by simpa using h5,h7,fun o ho e he hb hm=>?_⟩;rw [ho] at h6;have:=Array.all_eq_true_iff_forall_mem.1 h6 e he
 simp [hb,hm] at this
theorem rowOk_spec:∀ {l:List Nat},rowOk ops l=true→∀ pre i post,l=pre++i::post→∀ o,ops[i]?=some o→∀ e∈o.after,binds .any e=true→e.on ∉ post
 |[],_,pre,i,post,h,_,_,_,_,_=>by cases pre<;>cases h
 |j::l,h,pre,i,post,hl,o,ho,e,he,hb=>by
  simp only [rowOk,Bool.and_eq_true,List.all_eq_true] at h
  cases pre with
  |nil =>
   simp only [List.nil_append,List.cons.injEq] at hl;obtain ⟨rfl,rfl⟩:=hl
   intro hm
   have h1:=h.1 e.on hm;rw [ho] at h1;have:=Array.all_eq_true_iff_forall_mem.1 h1 e he
   simp [hb] at this
  |cons p pre =>
   simp only [List.cons_append,List.cons.injEq] at hl;obtain ⟨rfl,rfl⟩:=hl;exact rowOk_spec h.2 pre i post rfl o ho e he hb
theorem permOk_spec {l l' :List Nat} (hn:l.Nodup) (h:permOk ops l l' =true):l.Perm l' ∧rowOk ops l' =true∧l.getLast?=l'.getLast?∧l' ≠[]:=by
 simp only [permOk,Bool.and_eq_true,List.all_eq_true,List.contains_eq_mem,decide_eq_true_eq,beq_iff_eq] at h;obtain ⟨⟨⟨⟨⟨h1,h2⟩,h3⟩,h4⟩,h5⟩,h6⟩:=h;refine ⟨(List.perm_ext_iff_of_nodup hn (nodupOk_spec h1)).2 fun i=>⟨h2 i,h3 i⟩,h4,h5,fun h=>by rw [h] at h6;cases h6⟩
theorem Ok.reorder {L dn l l' :List Nat} (hok:Ok P n ops L) (hL:L=dn++l) (hp:permOk ops l l' =true):Ok P n ops (dn++l'):=by
 have hnd:=hok.nodup;rw [hL,List.nodup_append] at hnd;obtain ⟨p1,p2,p3,p4⟩:=permOk_spec hnd.2.1 hp;have hpm:(dn++l').Perm L:=by rw [hL];exact p1.symm.append_left dn
 refine ⟨hpm.nodup_iff.2 hok.nodup,fun j hj=>hpm.mem_iff.2 (hok.all j hj),fun j hj=>hok.lt j (hpm.mem_iff.1 hj),?_,hok.reads,hok.dst,hok.sel,hok.alloc,hok.strongA,?_⟩
 ·intro dn' j t h o ho e he hb
  have hjL:j∈L:=hpm.mem_iff.1 (by rw [h];simp);obtain ⟨p,q,hpq⟩:=List.append_of_mem hjL;have hin:=hok.after p j q hpq o ho e he hb;have heL:e.on∈dn++l' :=hpm.mem_iff.2 (by rw [hpq];simp [hin])
  rcases List.append_eq_append_iff.1 h with ⟨u,h1,h2⟩|⟨u,h1,h2⟩
  ·
   rw [h1]
   rcases List.mem_append.1 heL with q1|q1
   ·simp [q1]
   ·have:=rowOk_spec p2 u j t h2 o ho e he hb
    rw [h2] at q1
    rcases List.mem_append.1 q1 with q1|q1
    ·simp [q1]
    ·rcases List.mem_cons.1 q1 with q1|q1
     ·exfalso
      have hnd2:=hok.nodup;rw [hpq,List.nodup_append] at hnd2;exact hnd2.2.2 e.on hin j (by simp) q1
     ·exact absurd q1 this
  ·
   cases u with
   |nil =>
    simp only [List.append_nil,List.nil_append] at h1 h2;rw [← h1]
    rcases List.mem_append.1 heL with q1|q1
    ·exact q1
    ·rw [← h2] at q1
     have:=rowOk_spec (l:=l') p2 [] j t (by rw [← h2];rfl) o ho e he hb
     rcases List.mem_cons.1 q1 with q1|q1
     ·exfalso
      have hnd2:=hok.nodup;rw [hpq,List.nodup_append] at hnd2;exact hnd2.2.2 e.on hin j (by simp) q1
     ·exact absurd q1 this
   |cons y u =>
    simp only [List.cons_append,List.cons.injEq] at h2;obtain ⟨rfl,_⟩:=h2;exact hok.after dn' j (u++l) (by rw [hL,h1];simp) o ho e he hb
 ·intro dn' j t h hne
  have hjL:j∈L:=hpm.mem_iff.1 (by rw [h];simp);obtain ⟨p,q,hpq⟩:=List.append_of_mem hjL
  by_cases hq:q=[]
  ·exfalso
   subst hq;have hlast:L.getLast?=some j:=by rw [hpq];simp
   have hl0:l≠[]:=fun h0=>by subst h0;rw [List.getLast?_nil] at p3;exact p4 (List.getLast?_eq_none_iff.1 p3.symm)
   rw [hL,last_app hl0,p3] at hlast;have h2:(dn++l').getLast?=some j:=by rw [last_app p4];exact hlast
   rw [h,last_app (by simp)] at h2;have h3:j∈t:=by
    cases t with
    |nil=>exact (hne rfl).elim
    |cons y z=>rw [List.getLast?_cons_cons] at h2;exact List.mem_of_getLast? h2
   have hnd2:=hpm.nodup_iff.2 hok.nodup;rw [h,List.nodup_append] at hnd2;exact (List.nodup_cons.1 hnd2.2.1).1 h3
  ·exact hok.weak p j q hpq hq
theorem Inv.reorder {listed:Array Bool} {dn l l' :List Nat} {σ:List (Nat × Value)} {η:List SProp} {a:Act} {w:World} {X:List (Nat × Nat)} (hv:Inv P ops n D g listed dn l σ η a w X) (hp:l.Perm l'):Inv P ops n D g listed dn l' σ η a w X :=
 ⟨hv.size,hv.closed,fun x hx=>let ⟨h1,h2⟩:=hv.x1 x hx;⟨hp.mem_iff.1 h1,h2⟩,fun j hj=>hv.x2 j (hp.mem_iff.2 hj),hv.xn,hv.pend,hv.len,hv.defers,hv.wk,hv.frame,hv.holds⟩
theorem OD.finish {fl:Bool} {l0:List Nat} {σ:List (Nat × Value)} {η:List SProp} (h:ODx P fn n R ops k D g fl l0 σ η):∀ {listed:Array Bool} {dn:List Nat} {a:Act} {w:World} {X:List (Nat × Nat)} {L:List Nat},Ok P n ops L→L=dn++l0 →
  Inv P ops n D g listed dn l0 σ η a w X→(∀ i,i<ops.size→listed.getD i true=true)→Runs none P k (Post none P fn R) a w:=by
 have absurd:∀ {listed:Array Bool} {dn l:List Nat} {σ:List (Nat × Value)} {η:List SProp} {a:Act} {w:World} {X:List (Nat × Nat)} {i:Nat} {o:Oper},Inv P ops n D g listed dn (i::l) σ η a w X→(∀ i,i<ops.size→listed.getD i true=true) →
   ops[i]?=some o→isAlloc o.op=false→False:=by
  intro listed dn l σ η a w X i o hv hall ho hna
  have hlt:=(Array.getElem?_eq_some_iff.1 ho).1;obtain ⟨b,hb⟩:=hv.x2 i (List.mem_cons_self ..) (by rw [getD_bool (by rw [hv.size];exact hlt) false true];exact hall i hlt);obtain ⟨_,_,o',d',h3,h4,_⟩:=hv.x1 _ hb;rw [ho] at h3;cases h3;rw [hna] at h4;cases h4
 induction h with
 |nil h =>
  intro listed dn a w X L hok hL hv hall
  have hX:X=[]:=by
   cases X with
   |nil=>rfl
   |cons x X=>have:=(hv.x1 x (List.mem_cons_self ..)).1;cases this
  subst hX;refine h a w ⟨hv.len,fun t v ht=>hv.frame t v ht fun j o hj _=>?_⟩ hv.defers (by simpa using hv.holds);have hlt:=(Array.getElem?_eq_some_iff.1 hj).1;refine ⟨fun _=>?_,fun _=>by rw [getD_bool (by rw [hv.size];exact hlt) false true];exact hall j hlt⟩;have:=hok.all j hlt;rw [hL] at this
  simpa using this
 |quiet ho hna hdo h ih=>intro listed dn a w X L hok hL hv hall;obtain ⟨o,h1,h2,_⟩:=ho.op_at;exact (absurd hv hall h1 (by rw [h2];exact hna)).elim
 |no ho hna hl _ h ih=>intro listed dn a w X L hok hL hv hall;obtain ⟨o,j,oj,h1,_,h2,_⟩:=opAtG_spec ho;exact (absurd hv hall h1 (by rw [h2];exact hna)).elim
 |callT ho hx hc hv' hargs con hp h ih=>intro listed dn a w X L hok hL hv hall;obtain ⟨o,h1,h2,_⟩:=ho.op_at;exact (absurd hv hall h1 (by rw [h2];rfl)).elim
 |loudE ho hna hdo h ih=>intro listed dn a w X L hok hL hv hall;obtain ⟨o,h1,h2,_⟩:=ho.op_at;exact (absurd hv hall h1 (by rw [h2];exact hna)).elim
 |loudU ho hna hdo h ih=>intro listed dn a w X L hok hL hv hall;obtain ⟨o,h1,_,h2,_⟩:=opAtU_spec ho;exact (absurd hv hall h1 (by rw [h2];exact hna)).elim
 |lastU ho hna hl hdo h=>intro listed dn a w X L hok hL hv hall;obtain ⟨o,h1,_,h2,_⟩:=opAtU_spec ho;exact (absurd hv hall h1 (by rw [h2];exact hna)).elim
 |one hd h ih=>intro listed dn a w X L hok hL hv hall;exact ih hok hL hv hall
 |swap l' hp h ih =>
  intro listed dn a w X L hok hL hv hall
  have hnd:=hok.nodup;rw [hL,List.nodup_append] at hnd;exact ih (hok.reorder hL hp) rfl (hv.reorder (permOk_spec hnd.2.1 hp).1) hall
 |alt cands hc h ih =>
  intro listed dn a w X L hok hL hv hall
  obtain ⟨hne,hall',hd⟩:=altOk_spec hc;obtain ⟨i,hi⟩:=List.exists_mem_of_ne_nil _ hne;obtain ⟨h1,h2,h4,h3⟩:=hall' i hi;exact ih i hi (hok.move h4 hL h1 h3) rfl (hv.move h1) hall
 |lazy ho hd hz h ih =>
  intro listed dn a w X L hok hL hv hall
  obtain ⟨o,h1,h2,h3,_,_⟩:=opAt_spec ho;have hlt:=(Array.getElem?_eq_some_iff.1 h1).1;obtain ⟨b,hb⟩:=hv.x2 _ (List.mem_cons_self ..) (by rw [getD_bool (by rw [hv.size];exact hlt) false true];exact hall _ hlt);obtain ⟨X',hv'⟩:=hv.meet hok hL h1 h2 h3 hz hb;exact ih b hok (by rw [hL];simp) hv' hall
theorem OD.advance {fl:Bool} {l0:List Nat} {σ:List (Nat × Value)} {η:List SProp} (h:ODx P fn n R ops k D g fl l0 σ η):fl=false→∀ {listed:Array Bool} {dn:List Nat} {a:Act} {w:World} {X:List (Nat × Nat)} {L:List Nat} {i:Nat} {o:Oper},Ok P n ops L→L=dn++l0 →
  Inv P ops n D g listed dn l0 σ η a w X→i∈ready .any ops listed→i∈l0→ops[i]?=some o→isAlloc o.op=false →
  ∃ L' dn' l' σ' η' X',Ok P n ops L' ∧L' =dn' ++i::l' ∧Inv P ops n D g listed dn' (i::l') σ' η' a w X' ∧ODx P fn n R ops k D g true (i::l') σ' η' :=by
 have unl:∀ {listed:Array Bool} {dn l:List Nat} {σ:List (Nat × Value)} {η:List SProp} {a:Act} {w:World} {X:List (Nat × Nat)} {i:Nat} {o:Oper},Inv P ops n D g listed dn (i::l) σ η a w X →
   ops[i]?=some o→isAlloc o.op=false→listed.getD i false=false:=by
  intro listed dn l σ η a w X i o hv ho hna
  cases hl:listed.getD i false with
  |false=>rfl
  |true =>
   obtain ⟨b,hb⟩:=hv.x2 i (List.mem_cons_self ..) hl;obtain ⟨_,_,o',d',h3,h4,_⟩:=hv.x1 _ hb;rw [ho] at h3;cases h3;rw [hna] at h4;cases h4
 have stop:∀ {listed:Array Bool} {dn l:List Nat} {σ:List (Nat × Value)} {η:List SProp} {a:Act} {w:World} {X:List (Nat × Nat)} {j i:Nat} {o:Oper},Inv P ops n D g listed dn (j::l) σ η a w X→descOk ops [j] l=true→listed.getD j false=false →
   i∈ready .any ops listed→i∈l→ops[i]?=some o→isAlloc o.op=false→False:=by
  intro listed dn l σ η a w X j i o hv hd hu hr hi ho hna
  refine (desc_not hv.closed hv.size l [j] hd (fun c hc=>by rw [List.mem_singleton.1 hc];exact hu) i hi (by simp [allocAt,ho,hna]) (Array.getElem?_eq_some_iff.1 ho).1).1 hr
 induction h with
 |nil h=>intro _ listed dn a w X L i o _ _ _ _ hi;cases hi
 |@quiet fl j d op v l σ η ho hna hdo h ih =>
  intro _ listed dn a w X L i o hok hL hv hr hi hoi hnai
  rcases List.mem_cons.1 hi with rfl|hi
  ·exact ⟨L,dn,l,σ,η,X,hok,hL,hv,.quiet ho hna hdo h⟩
  ·obtain ⟨oj,h1,h2,h3,_⟩:=ho.op_at
   have hst:=hok.weak dn j l hL (List.ne_nil_of_mem hi);have hp:Pend P ops n D g ((d,v)::σ) j:=Pend.quiet hok.sel ho hdo fun o' ho' =>hok.fresh hst hL h1 h3 j o' (.inr rfl) ho';exact ih rfl hok (by rw [hL];simp) (Inv.wait hok hL hst hv h1 h3 (unl hv h1 (by rw [h2];exact hna)) hp) hr hi hoi hnai
 |@no fl j d t op b l σ η v ho hna hl hvb h ih =>
  intro _ listed dn a w X L i o hok hL hv hr hi hoi hnai
  rcases List.mem_cons.1 hi with rfl|hi
  ·exact ⟨L,dn,l,σ,η,X,hok,hL,hv,.no ho hna hl hvb h⟩
  ·obtain ⟨oj,_,_,h1,h3,h2,_⟩:=opAtG_spec ho
   have hst:=hok.weak dn j l hL (List.ne_nil_of_mem hi);have hp:Pend P ops n D g ((d,undef)::σ) j:=Pend.no ho hl hvb fun o' ho' =>hok.fresh hst hL h1 h3 j o' (.inr rfl) ho';exact ih rfl hok (by rw [hL];simp) (Inv.wait hok hL hst hv h1 h3 (unl hv h1 (by rw [h2];exact hna)) hp) hr hi hoi hnai
 |callT=>intro hf;cases hf
 |loudE=>intro hf;cases hf
 |loudU=>intro hf;cases hf
 |lastU=>intro hf;cases hf
 |@one j l σ η hd h ih =>
  intro _ listed dn a w X L i o hok hL hv hr hi hoi hnai
  rcases List.mem_cons.1 hi with rfl|hi
  ·exact ⟨L,dn,l,σ,η,X,hok,hL,hv,h⟩
  ·have hna:∃ oj,ops[j]?=some oj∧isAlloc oj.op=false:=by
    cases h with
    |quiet ho hna _ _=>obtain ⟨oj,h1,h2,_⟩:=ho.op_at;exact ⟨oj,h1,by rw [h2];exact hna⟩
    |no ho hna _ _ _=>obtain ⟨oj,_,_,h1,_,h2,_⟩:=opAtG_spec ho;exact ⟨oj,h1,by rw [h2];exact hna⟩
    |callT ho _ _ _ _ _ _ _=>obtain ⟨oj,h1,h2,_⟩:=ho.op_at;exact ⟨oj,h1,by rw [h2];rfl⟩
    |loudE ho hna _ _=>obtain ⟨oj,h1,h2,_⟩:=ho.op_at;exact ⟨oj,h1,by rw [h2];exact hna⟩
    |loudU ho hna _ _=>obtain ⟨oj,h1,_,h2,_⟩:=opAtU_spec ho;exact ⟨oj,h1,by rw [h2];exact hna⟩
    |lastU ho hna _ _ _=>obtain ⟨oj,h1,_,h2,_⟩:=opAtU_spec ho;exact ⟨oj,h1,by rw [h2];exact hna⟩
   obtain ⟨oj,h1,h2⟩:=hna;exact (stop hv hd (unl hv h1 h2) hr hi hoi hnai).elim
 |@swap l σ η l' hp h ih =>
  intro _ listed dn a w X L i o hok hL hv hr hi hoi hnai
  have hnd:=hok.nodup;rw [hL,List.nodup_append] at hnd;have hpm:=(permOk_spec hnd.2.1 hp).1;exact ih rfl (hok.reorder hL hp) rfl (hv.reorder hpm) hr (hpm.mem_iff.1 hi) hoi hnai
 |@alt l σ η cands hc h ih =>
  intro _ listed dn a w X L i o hok hL hv hr hi hoi hnai
  obtain ⟨_,hall',hd⟩:=altOk_spec hc
  by_cases hic:i∈cands
  ·obtain ⟨h1,h2,h4,h3⟩:=hall' i hic
   exact ⟨_,dn,_,σ,η,X,hok.move h4 hL h1 h3,rfl,hv.move h1,h i hic⟩
  ·refine absurd hr (desc_not hv.closed hv.size _ cands hd (fun c hcm=>?_) i (List.mem_filter.2 ⟨hi,by simpa using hic⟩) (by simp [allocAt,hoi,hnai]) (Array.getElem?_eq_some_iff.1 hoi).1).1
   obtain ⟨h1,h2,_,h3⟩:=hall' c hcm
   cases hl:listed.getD c false with
   |false=>rfl
   |true =>
    obtain ⟨b,hb⟩:=hv.x2 c h1 hl;obtain ⟨_,_,o',d',h4,h5,_⟩:=hv.x1 _ hb
    simp [allocAt,h4,h5] at h2
 |@lazy j d T z l σ η ho hd hz h ih =>
  intro _ listed dn a w X L i o hok hL hv hr hi hoi hnai
  obtain ⟨oj,h1,h2,h3,_,_⟩:=opAt_spec ho
  rcases List.mem_cons.1 hi with rfl|hi
  ·rw [h1] at hoi;cases hoi;rw [h3] at hnai;cases hnai
  ·cases hlj:listed.getD j false with
   |false=>exact (stop hv hd hlj hr hi hoi hnai).elim
   |true =>
    obtain ⟨b,hb⟩:=hv.x2 j (List.mem_cons_self ..) hlj;obtain ⟨X',hv'⟩:=hv.meet hok hL h1 h2 h3 hz hb;exact ih b rfl hok (by rw [hL];simp) hv' hr hi hoi hnai
theorem OD.any:∀ (fuel:Nat) (L:List Nat) (listed:Array Bool) (dn l0:List Nat) (σ:List (Nat × Value)) (η:List SProp) (a:Act) (w:World) (X:List (Nat × Nat)),Ok P n ops L→L=dn++l0→Inv P ops n D g listed dn l0 σ η a w X →
  OD P fn n R ops k D g l0 σ η→left ops listed≤fuel→wpAny P .any ops (QK none P k (Post none P fn R)) fuel listed a w:=by
 intro fuel
 induction fuel with
 |zero =>
  intro L listed dn l0 σ η a w X hok hL hv hod hf
  have hall:=left_zero (ops:=ops) (listed:=listed) (by omega);refine ⟨?_,OD.finish hod hok hL hv hall⟩;refine List.eq_nil_iff_forall_not_mem.2 fun i hi=>?_;obtain ⟨h1,o,ho,_⟩:=mem_ready.1 hi;rw [hall i (Array.getElem?_eq_some_iff.1 ho).1] at h1;cases h1
 |succ fuel ih =>
  intro L listed dn l0 σ η a w X hok hL hv hod hf
  refine ⟨fun hr=>?_,fun i hi=>?_⟩
  ·
   refine OD.finish hod hok hL hv ?_;have key:∀ (pre post:List Nat),L=pre++post→∀ i∈pre,listed.getD i false=true:=by
    intro pre
    induction hlen:pre.length generalizing pre with
    |zero=>intro post _ i hi;rw [List.eq_nil_of_length_eq_zero hlen] at hi;cases hi
    |succ m ihm =>
     intro post hp i hi
     rcases List.eq_nil_or_concat pre with rfl|⟨pre',j,rfl⟩
     ·cases hi
     ·simp only [List.concat_eq_append,List.length_append,List.length_singleton,List.append_assoc,List.singleton_append,List.mem_append,List.mem_singleton] at hlen hp hi
      have hpre:=ihm pre' (by omega) (j::post) hp
      rcases hi with hi|rfl
      ·exact hpre i hi
      ·have hlt:=hok.lt i (by rw [hp];simp)
       cases hl:listed.getD i false with
       |true=>rfl
       |false =>
        exfalso
        have:i∈ready .any ops listed:=mem_ready.2 ⟨by rw [getD_bool (by rw [hv.size];exact hlt) true false];exact hl,ops[i],by simp [hlt],fun e he hb=>hpre _ (hok.after pre' i post hp ops[i] (by simp [hlt]) e he hb)⟩;rw [hr] at this;cases this
   intro i hi
   rw [getD_bool (by rw [hv.size];exact hi) true false];exact key L [] (by simp) i (hok.all i hi)
  ·obtain ⟨hun,o,ho,_⟩:=mem_ready.1 hi
   have hlt:=(Array.getElem?_eq_some_iff.1 ho).1;have hdec:left ops (listed.setIfInBounds i true)≤fuel:=by
    have:=left_set (ops:=ops) hv.size hlt hun
    omega
   have him:i∈dn∨i∈l0:=by have:=hok.all i hlt;rw [hL] at this;exact List.mem_append.1 this
   rcases him with him|him
   ·
    obtain ⟨o',d,v,h1,h2,h3,h4,h5⟩:=hv.pend i him (by rw [getD_bool (by rw [hv.size];exact hlt) false true];exact hun);rw [ho] at h1;cases h1;refine h5 a w _ _ _ hv.holds ?_ fun w' hw' =>ih L _ dn l0 σ η _ w' X hok hL (hv.done hok hL hi ho h2 h3 him h4 hw') hod hdec
    intro t ht u hu
    refine hv.frame t u hu fun j oj hj hdj=>?_;have hjlt:=(Array.getElem?_eq_some_iff.1 hj).1
    rcases hok.reads i o j oj t ho hj hdj ht with ⟨e,he,hb,hon⟩|⟨e,he,hb,hon⟩
    ·obtain ⟨_,o'',ho'',hall⟩:=mem_ready.1 hi
     rw [ho] at ho'';cases ho'';obtain ⟨p,q,rfl⟩:=List.append_of_mem him;have:=hok.after p i (q++l0) (by rw [hL];simp) o ho e he hb;rw [hon] at this;exact ⟨fun _=>by simp [this],fun _=>hon ▸ hall e he hb⟩
    ·have hnl:listed.getD j false=false:=by
      cases hlj:listed.getD j false with
      |false=>rfl
      |true =>
       have:=hv.closed j oj hj (by rw [getD_bool (by rw [hv.size];exact hjlt) true false];exact hlj) hjlt e he hb;rw [hon,getD_bool (by rw [hv.size];exact hlt) false true,hun] at this;cases this
     refine ⟨fun h=>absurd h (by rw [hnl];decide),fun hjd=>?_⟩;obtain ⟨e',he',hb',hon'⟩:=strongB_spec (hv.wk j hjd hnl) hj hdj i o ho ht;obtain ⟨_,o'',ho'',hall⟩:=mem_ready.1 hi;rw [ho] at ho'';cases ho'';have:=hall e' he' hb';rw [hon'] at this;exact this
   ·cases hna:isAlloc o.op with
    |true =>
     cases hop:o.op with
     |alloc T =>
      obtain ⟨⟨z,hz⟩,hgd,d,hd,hb⟩:=hok.alloc i o T ho hop;simp only [wpOp,ho,Region.wanted,hgd,if_true];refine .inl ?_;have hrun:(execOp a.eval o).run P w=.ok (.value (.pointer (some ⟨w.heap.size,0,none⟩))) (w.alloc (.cells z.cells T)):=by
       simp [execOp,hop,Instr.alloc,run_zeroOf hz,newVar,newRow]
      unfold Oper.wp;rw [hrun,Oper.upon_value,hd];exact ih L _ dn l0 σ η _ _ _ hok hL (hv.early hok hL hi him ho hop hz hd hb) hod hdec
     |_=>rw [hop] at hna;cases hna
    |false =>
     obtain ⟨L',dn',l',σ',η',X',hok',hL',hv',hod'⟩:=OD.advance hod rfl hok hL hv hi him ho hna;clear hok hL hv hod him;have hok:=hok';have hagr:Agrees ops o σ' a:=by
      intro t ht u hu
      refine hv'.frame t u hu fun j oj hj hdj=>?_;have hjlt:=(Array.getElem?_eq_some_iff.1 hj).1
      rcases hok.reads i o j oj t ho hj hdj ht with ⟨e,he,hb,hon⟩|⟨e,he,hb,hon⟩
      ·obtain ⟨_,o'',ho'',hall⟩:=mem_ready.1 hi
       rw [ho] at ho'';cases ho'';exact ⟨fun _=>hon ▸ hok.after dn' i l' hL' o ho e he hb,fun _=>hon ▸ hall e he hb⟩
      ·have hnl:listed.getD j false=false:=by
        cases hlj:listed.getD j false with
        |false=>rfl
        |true =>
         have:=hv'.closed j oj hj (by rw [getD_bool (by rw [hv'.size];exact hjlt) true false];exact hlj) hjlt e he hb;rw [hon,getD_bool (by rw [hv'.size];exact hlt) false true,hun] at this;cases this
       refine ⟨fun h=>absurd h (by rw [hnl];decide),fun hjd=>?_⟩
       exfalso
       obtain ⟨p,q,rfl⟩:=List.append_of_mem hjd;have:=hok.after p j (q++i::l') (by rw [hL'];simp) oj hj e he hb;rw [hon] at this;have hnd:=hok.nodup;rw [hL',List.nodup_append] at hnd;exact hnd.2.2 i (by simp [this]) i (by simp) rfl
     have hL'' :L' =(dn' ++[i])++l' :=by rw [hL'];simp
     have hns:=fun cs b=>Region.noSelect_spec hok.sel i o cs b ho
     cases hod' with
     |quiet hfi hna' hdo h =>
      obtain ⟨o',h1,h2,h3,h4,h5⟩:=hfi.at;rw [ho] at h1;cases h1;obtain ⟨ρ,hkn,he,_⟩:=hagr.rho hns;obtain ⟨w',hrun,hw'⟩:=hdo _ o ρ w h3 hkn hv'.holds;simp only [wpOp,ho,h5 a hagr,if_true];refine .inl ?_;unfold Oper.wp;rw [he,hrun,Oper.upon_value,h2];exact ih _ _ _ _ _ _ _ _ _ hok hL'' (hv'.step hok hL' hi ho (.inr ⟨_,_,h2,h4,rfl,rfl⟩) hw') h hdec
     |no hfi hna' hl hvb h =>
      obtain ⟨o',j,oj,h1,h2,h3,hg,hj,ht,hb⟩:=opAtG_spec hfi;rw [ho] at h1;cases h1;have:=hagr _ (List.mem_append_right _ (by simp only [hg,hj,ht];exact List.mem_singleton.2 rfl)) _ hl;have hw:Region.wanted o (yielded ops a.tmps)=false:=by
       rename_i b0 _ _ _ v0
       cases v0<;>simp [Region.wanted,hg,yielded,hj,ht,this]
       cases b0<;>simp_all [notB]
      simp only [wpOp,ho,hw,Bool.false_eq_true,if_false,h2];exact ih _ _ _ _ _ _ _ _ _ hok hL'' (hv'.step hok hL' hi ho (.inr ⟨_,_,h2,hb,rfl,rfl⟩) hv'.holds) h hdec
     |@callT _ d _ _ η₁ ζ f x xs ts vals K Xp first cap args hfi hx hc hvs hargs con hp h =>
      obtain ⟨o',h1,h2,h3,h4,h5⟩:=hfi.at;rw [ho] at h1;cases h1;obtain ⟨ρ,hkn,he,hρ⟩:=hagr.rho hns;simp only [wpOp,ho,h5 a hagr,if_true];refine .inl ?_;unfold Oper.wp;rw [he,run_call h3 (hkn x _ hx) hc,Oper.upon_enter];have hm:xs.map ρ=vals.toArray:=by rw [← evs_spec hkn hvs,← Array.toList_map]
      rw [hm,hargs];have hperm:(X'.map (atomOf P ops)++(η₁++ζ)).Perm (η₁++(ζ++X'.map (atomOf P ops))):=by
       refine List.perm_append_comm.trans ?_
       simp
      refine (con.frame (ζ:=ζ++X'.map (atomOf P ops)) g (Fr.sub_refl _) w (hv'.holds.perm hperm)).mono fun e w' hh=>?_;obtain ⟨ηx,⟨η₂,hq,rfl⟩,hw'⟩:=hh
      cases e with
      |returned v =>
       show wpAny P .any ops _ fuel _ (a.put o.dst v) w'
       rw [h2];have hperm' :(η₂++(ζ++X'.map (atomOf P ops))).Perm (X'.map (atomOf P ops)++(η₂++ζ)):=by
        rw [← List.append_assoc];exact List.perm_append_comm
       exact ih _ _ _ _ _ _ _ _ _ hok hL'' (hv'.step hok hL' hi ho (.inr ⟨_,_,h2,h4,rfl,rfl⟩) (hw'.perm hperm')) (h v η₂ hq) hdec
      |panicked ch =>
       show Lv P fn a.tmps R a.defers (.panicking ch) w'
       rw [hv'.defers];exact hp a ch η₂ w' hq ((hw'.perm (by rw [← List.append_assoc];exact List.perm_append_comm)).drop_n)
      |outgrown=>exact hq.elim
     |loudE hfi hna' hdo h =>
      obtain ⟨o',h1,h2,h3,h4,h5⟩:=hfi.at;rw [ho] at h1;cases h1;obtain ⟨ρ,hkn,he,_⟩:=hagr.rho hns;obtain ⟨v,w',ηx,⟨η₂,hq,rfl⟩,hrun,hw'⟩:=hdo (X'.map (atomOf P ops)) o ρ w h3 hkn (hv'.holds.perm List.perm_append_comm);simp only [wpOp,ho,h5 a hagr,if_true];refine .inl ?_;unfold Oper.wp;rw [he,hrun,Oper.upon_value,h2];exact ih _ _ _ _ _ _ _ _ _ hok hL'' (hv'.step hok hL' hi ho (.inr ⟨_,_,h2,h4,rfl,rfl⟩) (hw'.perm List.perm_append_comm)) (h v η₂ hq) hdec
     |loudU hfi hna' hdo h =>
      obtain ⟨o',h1,h2,h3,h4⟩:=opAtU_spec hfi;rw [ho] at h1;cases h1;obtain ⟨ρ,hkn,he,_⟩:=hagr.rho hns;obtain ⟨w',u,hrun,hu,hw'⟩:=hdo (X'.map (atomOf P ops)) o ρ w h3 hkn (hv'.holds.perm List.perm_append_comm);simp only [wpOp,ho,Region.wanted,h4,if_true];refine .inl ?_;unfold Oper.wp;have hup:∀ (next:Act→World→Prop) Q,o.upon P a next Q (.ok u w')=next (a.put none undef) w' :=fun next Q=>by
       rcases hu with rfl|⟨v,rfl⟩
       ·rw [Oper.upon_skip,h2]
       ·rw [Oper.upon_value,h2];rfl
      rw [he,hrun,hup];exact ih _ _ _ _ _ _ _ _ _ hok hL'' (hv'.step hok hL' hi ho (.inl ⟨h2,rfl,rfl⟩) (hw'.perm List.perm_append_comm)) h hdec
     |lastU hfi hna' hlast hdo h =>
      obtain ⟨o',h1,h2,h3,h4⟩:=opAtU_spec hfi;rw [ho] at h1;cases h1;obtain ⟨ρ,hkn,he,_⟩:=hagr.rho hns;have hX:X' =[]:=by
       cases X' with
       |nil=>rfl
       |cons x X'' =>
        obtain ⟨q1,q2,_⟩:=hv'.x1 x (List.mem_cons_self ..);rw [List.mem_singleton.1 q1,getD_bool (by rw [hv'.size];exact hlt) false true,hun] at q2;cases q2
      subst hX;obtain ⟨w',u,hrun,hu,hw'⟩:=hdo o ρ w h3 hkn (by simpa using hv'.holds);simp only [wpOp,ho,Region.wanted,h4,if_true];refine .inl ?_;unfold Oper.wp;have hup:∀ (next:Act→World→Prop) Q,o.upon P a next Q (.ok u w')=next (a.put none default) w' :=fun next Q=>by
       rcases hu with rfl|⟨v,rfl⟩
       ·rw [Oper.upon_skip,h2];rfl
       ·rw [Oper.upon_value,h2];rfl
      rw [he,hrun,hup];have hother:∀ j,j<ops.size→j≠i→listed.getD j false=true:=fun j hj hne=>by
       have:=List.all_eq_true.1 hlast j (List.mem_range.2 hj);simp only [Bool.or_eq_true] at this
       rcases this with (this|this)|this
       ·exact (hne (Nat.eq_of_beq_eq_true this)).elim
       ·obtain ⟨_,o'',ho'',hall⟩:=mem_ready.1 hi
        rw [ho] at ho'';cases ho'';exact hangs_listed hv'.closed hv'.size j 2 i (fun o2 ho2 e he hb=>by rw [ho] at ho2;cases ho2;exact hall e he hb) this
       ·obtain ⟨_,o'',ho'',hall⟩:=mem_ready.1 hi
        rw [ho] at ho'';cases ho'';exact hangs_listed hv'.closed hv'.size j 10 i (fun o2 ho2 e he hb=>by rw [ho] at ho2;cases ho2;exact hall e he hb) this
      have hin:∀ j,j<ops.size→j≠i→j∈dn' :=fun j hj hne=>by
       have:=hok.all j hj;rw [hL'] at this
       rcases List.mem_append.1 this with h|h
       ·exact h
       ·exact (hne (List.mem_singleton.1 h)).elim
      have hruns:Runs none P k (Post none P fn R) (a.put none default) w' :=by
       refine h a w' ⟨hv'.len,fun t v ht=>hv'.frame t v ht fun j oj hj hdj=>?_⟩ hv'.defers hw';have hjl:=(Array.getElem?_eq_some_iff.1 hj).1;have hne:j≠i:=by rintro rfl;rw [ho] at hj;cases hj;rw [h2] at hdj;cases hdj
       exact ⟨fun _=>hin j hjl hne,fun _=>hother j hjl hne⟩
      have hnone:ready .any ops (listed.setIfInBounds i true)=[]:=by
       refine List.eq_nil_iff_forall_not_mem.2 fun j hj=>?_;obtain ⟨q1,o'',ho'',_⟩:=mem_ready.1 hj;have hjl:=(Array.getElem?_eq_some_iff.1 ho'').1
       by_cases hne:j=i
       ·subst hne
        simp [hv'.size,hlt] at q1
       ·rw [getD_set_ne true (fun h=>hne h.symm),getD_bool (by rw [hv'.size];exact hjl) true false,hother j hjl hne] at q1;cases q1
      cases fuel with
      |zero=>exact ⟨hnone,hruns⟩
      |succ fuel=>exact ⟨fun _=>hruns,fun j hj=>by rw [hnone] at hj;cases hj⟩
theorem S.regionD {L:List Nat} {id:Nat} {σ:List (Nat × Value)} {η:List SProp} (hm:P.follows .mixedOrders=true) (hok:orderOk P n ops L=true) (h:OD P fn n R ops k D g L σ η) :
  S none P fn n R (.code (.region id ops true)::k) σ D g η:=by
 intro a w hf hd hw
 intro b cs hb hf'
 have hinv:Inv P ops n D g (Array.replicate ops.size false) [] L σ η a { w with drawn:=w.drawn+1 } []:=by
  refine ⟨by simp,?_,?_,?_,by simp,?_,hf.1,hd,(fun j hj=>by cases hj),fun t v ht _=>hf.2 t v ht,by simpa using hw.drewN (w.drawn+1) (Nat.le_succ _)⟩
  ·intro i o _ hl hlt
   simp [Array.getD_eq_getD_getElem?,hlt] at hl
  ·intro x hx;cases hx
  ·intro i _ hl
   simp only [Array.getD_eq_getD_getElem?,Array.getElem?_replicate] at hl
   split at hl<;>simp at hl
  ·intro i hi;cases hi
 have hleft:left ops (Array.replicate ops.size false)≤ops.size:=by
  unfold left;exact Nat.le_trans (List.length_filter_le _ _) (by simp)
 have hany:=OD.any ops.size L _ [] L σ η a _ [] (orderOk_spec hok) (by simp) hinv h hleft;have hops:∀ t,wpOps P ops (QK none P k (Post none P fn R)) (Region.schedule (P.follows .mixedOrders) ops t) a { w with drawn:=w.drawn+1 }:=fun t=>by
  simp only [Region.schedule,hm,Bool.true_or,if_true];exact wpAny_sound ops.size t _ a _ hany
 obtain ⟨e,a',w',q,r⟩:=Runs.opsN (hops (w.tape w.drawn (.order b.fn id))) b cs hb hf';exact ⟨e,a',w',q,.of_steps (.one (fenced_wide P _) stepR_region_draw) r⟩
end
end Go.Sp
