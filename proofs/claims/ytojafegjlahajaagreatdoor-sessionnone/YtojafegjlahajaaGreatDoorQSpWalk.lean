/- Texts of this proof. -/
import Derived.Test.YtojafegjlahajaaGreatDoorQSpCore
import Derived.RangeFuncLeaves
namespace Go.Sp
def Wd (ro:Option Nat):Fence:={ fn:=fun _=>True,depth:=none,alive:=false,round:=ro }
theorem room_wd (ro:Option Nat) (n:Nat):(Wd ro).room n:=fun _ h=>by cases h
def Runs (ro:Option Nat) (P:Program) (todo:List Item) (Q:Exit→Act→World→Prop) (a:Act) (w:World):Prop :=
 ∀ (b:Frame) (cs:List Frame),b.roundOf=ro→(∃ fn,P.funcs[b.fn]?=some fn)→∃ e a' w',Q e a' w' ∧ArrivesIn (Machine.fenced P Fence.wide) P (lone (b.atR a todo) cs w) b [] cs e a' w'
section runs
variable {ro:Option Nat} {P:Program} {Q:Exit→Act→World→Prop} {a:Act} {w:World} {k:List Item}
theorem Runs.step {todo todo' :List Item} {a' :Act} {w' :World} (hs:∀ (b:Frame) (cs:List Frame),step P (lone (b.atR a todo) cs w)=.next (lone (b.atR a' todo') cs w'))
  (h:Runs ro P todo' Q a' w'):Runs ro P todo Q a w:=fun b cs hb hf =>
 let ⟨e,a',w',q,r⟩:=h b cs hb hf;⟨e,a',w',q,.of_steps (.one (fenced_wide P _) (hs b cs)) r⟩
theorem Runs.nil (h:Q .normal a w):Runs ro P [] Q a w:=fun _ _ _ _=>⟨.normal,a,w,h,StepsIn.refl _⟩
theorem Runs.ret (h:Q .ret a w):Runs ro P (.code .ret::k) Q a w:=fun _ _ _ _=>⟨.ret,a,w,h,fun hb=>⟨_,.one (fenced_wide P _) (stepR_ret hb)⟩,fun _=>⟨k,StepsIn.refl _⟩⟩
def QK (ro:Option Nat) (P:Program) (k:List Item) (Q:Exit→Act→World→Prop):Exit→Act→World→Prop
 |.normal,a,w=>Runs ro P k Q a w
 |.panic ch,a,w=>Q (.panic ch) a w
 |.outgrown,a,w=>Q .outgrown a w
 |_,_,_=>False
theorem Runs.ops {ops:Array Oper} {l:List Nat} (h:wpOpsIn (Wd ro) 0 P ops (QK ro P k Q) l a w):Runs ro P (.inRegion ops l::k) Q a w:=by
 intro b cs hb hf
 obtain ⟨e,a',w',hq,harr⟩:=wp_opsIn l a w h b k cs hb trivial (room_wd _ _);have harr:ArrivesIn (Machine.fenced P Fence.wide) P (lone (b.atR a (.inRegion ops l::k)) cs w) b k cs e a' w' :=harr
 cases e with
 |normal =>
  obtain ⟨e,a'',w'',q,r⟩:=hq b cs hb hf;exact ⟨e,a'',w'',q,.of_steps harr r⟩
 |panic ch=>exact ⟨_,a',w',hq,harr⟩
 |outgrown=>exact ⟨.outgrown,a',w',hq,harr⟩
 |exit _=>exact hq.elim
 |goto _=>exact hq.elim
 |ret=>exact hq.elim
theorem Runs.opsN {ops:Array Oper} {l:List Nat} (h:wpOps P ops (QK none P k Q) l a w):Runs none P (.inRegion ops l::k) Q a w:=by
 intro b cs hb hf
 obtain ⟨e,a',w',hq,harr⟩:=wp_ops l a w h b k cs;have harr:=(arrivesIn_iff (I:=Machine.fenced P Fence.wide) (fun _ _=>stepsIn_wide) hb).2 harr;rw [← Frame.atR_of_none hb] at harr
 cases e with
 |normal =>
  obtain ⟨e,a'',w'',q,r⟩:=hq b cs hb hf;exact ⟨e,a'',w'',q,.of_steps harr r⟩
 |panic ch=>exact ⟨_,a',w',hq,harr⟩
 |outgrown=>exact ⟨.outgrown,a',w',hq,harr⟩
 |exit _=>exact hq.elim
 |goto _=>exact hq.elim
 |ret=>exact hq.elim
def Lv (P:Program) (fn:Func) (tmps:Array Value) (R:Ending→World→Prop):List Deferred→FrameMode→World→Prop
 |[],u,w=>Leaves P fn tmps R [] u w
 |d::ds,u,w=>u≠.run∧((∃ r w',d.target=.collected r∧(Instr.takeDeferred r).run P w=.ok [] w' ∧Lv P fn tmps R ds u w') ∨
   ∃ fv cap f args,d.target=.fn fv cap∧(invoke d.target d.args).run P w=.ok (.enter f args) w ∧
   CallsD P f args u w fun
    |.returned _,u',w' =>Lv P fn tmps R ds (settle u') w'
    |.panicked chain,u',w' =>Lv P fn tmps R ds (raised u' chain) w'
    |.outgrown,_,w' =>R .outgrown w')
theorem Lv.of {fn:Func} {tmps:Array Value} {R:Ending→World→Prop}:∀ {ds:List Deferred} {u:FrameMode} {w:World},Leaves P fn tmps R ds u w→Lv P fn tmps R ds u w
 |[],_,_,h=>h
 |d::ds,u,w,h=>by
  obtain ⟨h1,fv,cap,f,args,h2,h3,h4⟩:=h;refine ⟨h1,.inr ⟨fv,cap,f,args,h2,h3,h4.mono fun e u' w' hR=>?_⟩⟩
  cases e with
  |returned v=>exact Lv.of hR
  |panicked ch=>exact Lv.of hR
  |outgrown=>exact hR
theorem lv_steps {fn:Func} {tmps:Array Value} {R:Ending→World→Prop}:∀ (ds:List Deferred) (u:FrameMode) (w:World) (fr:Frame)
  (cs:List Frame),fr.mode=u→fr.defers=ds→fr.tmps=tmps→P.funcs[fr.fn]?=some fn→fr.kind=.normal→Lv P fn tmps R ds u w →
  ∃ e w' fr',R e w' ∧Comes P (lone fr cs w) (lone fr' cs w') e∧fr'.fn=fr.fn∧fr'.leaving P w' e:=by
 intro ds
 induction ds with
 |nil=>exact fun u w fr cs hu hd ht hf hk h=>leaves_steps [] u w fr cs hu hd ht hf hk h
 |cons d ds ih =>
  intro u w fr cs hu hd ht hf hk h
  obtain ⟨hrun,h⟩:=h
  rcases h with ⟨r,w',htar,htake,hrest⟩|⟨fv,cap,f,args,htar,hinv,hcall⟩
  ·have h1:=step_collected (cs:=cs) (hu ▸ hrun) hd htar htake
   obtain ⟨e',w'',fr',hR',hs',hfn',hl'⟩:=ih u w' { fr with defers:=[]++ds } cs hu rfl ht hf hk hrest;exact ⟨e',w'',fr',hR',Comes.of_steps (.one h1) hs',hfn',hl'⟩
  ·have h1:=step_defer (cs:=cs) (hu ▸ hrun) hd htar hinv
   obtain ⟨e,u',w',frX,hR,hsteps,hkX,hgo⟩:=hcall { fr with defers:=ds } cs hu
   cases e with
   |returned v =>
    have h2:=step_going_returned (c:={ { fr with defers:=ds } with mode:=u' }) (cs:=cs) hkX hgo;obtain ⟨e',w'',fr',hR',hs',hfn',hl'⟩:=ih (settle u') w' { { { fr with defers:=ds } with mode:=u' } with mode:=settle u' } cs rfl rfl ht hf hk hR;exact ⟨e',w'',fr',hR',Comes.of_steps (.head h1 (Steps.trans hsteps (.one h2))) hs',hfn',hl'⟩
   |panicked chain =>
    have h2:=step_going_panicked (c:={ { fr with defers:=ds } with mode:=u' }) (cs:=cs) hgo;obtain ⟨e',w'',fr',hR',hs',hfn',hl'⟩:=ih (raised u' chain) w' { { { fr with defers:=ds } with mode:=u' } with mode:=raised u' chain } cs rfl rfl ht hf hk hR;exact ⟨e',w'',fr',hR',Comes.of_steps (.head h1 (Steps.trans hsteps (.one h2))) hs',hfn',hl'⟩
   |outgrown=>exact ⟨.outgrown,w',fr,hR,Outgrown.of_steps (.one h1) hsteps,rfl,trivial⟩
def Post (ro:Option Nat) (P:Program) (fn:Func) (R:Ending→World→Prop):Exit→Act→World→Prop
 |.normal,a,w=>match ro with|none=>Lv P fn a.tmps R a.defers .returning w|some l=>∃ v w',(Instr.endRound l none).run P w=.ok v w' ∧R (.returned v) w'
 |.ret,a,w=>match ro with|none=>Lv P fn a.tmps R a.defers .returning w|some l=>∃ v w',(Instr.endRound l (some .ret)).run P w=.ok v w' ∧R (.returned v) w'
 |.exit id,_,w=>match ro with|none=>False|some l=>∃ v w',(Instr.endRound l (some (.exit id))).run P w=.ok v w' ∧R (.returned v) w'
 |.goto _,_,_=>False
 |.panic ch,a,w=>match ro with|none=>Lv P fn a.tmps R a.defers (.panicking ch) w|some _=>a.defers=[]∧R (.panicked ch) w
 |.outgrown,_,w=>R .outgrown w
theorem Post.panic {fn:Func} {R:Ending→World→Prop} {ch:List PanicEntry} (hd:a.defers=[]) (h:R (.panicked ch) w):Post ro P fn R (.panic ch) a w:=by
 cases ro with
 |none=>show Lv P fn a.tmps R a.defers (.panicking ch) w;rw [hd];exact h
 |some l=>exact ⟨hd,h⟩
theorem calls_of_runs {f:FuncId} {fn:Func} {c:Code} {args:Array Value} {R:Ending→World→Prop}
  (hf:P.funcs[f]?=some fn) (hb:fn.body=some c)
  (h:Runs none P [.code c] (Post none P fn R) { tmps:=args++Array.replicate (fn.ntmps - args.size) undef,defers:=[] } w):Calls P f args w R:=by
 intro cs
 let b:Frame:={ (default:Frame) with fn:=f,kind:=.normal,roundOf:=none }
 have henter:Frame.enter P f args .normal =
   b.atR { tmps:=args++Array.replicate (fn.ntmps - args.size) undef,defers:=[] } [.code c]:=by
  simp [Frame.enter,Frame.atR,hf,hb,b]
 obtain ⟨e,a',w',hq,harr⟩:=h b cs rfl ⟨fn,hf⟩;rw [← henter] at harr
 cases e with
 |normal =>
  obtain ⟨e',w'',fr',hR,hs,hfn,hl⟩:=lv_steps a'.defers .returning w' { b.atR a' [] with mode:=.returning } cs rfl rfl rfl hf rfl hq;exact ⟨e',w'',fr',hR,Comes.of_steps (Steps.trans (StepsIn.steps harr) (.one (stepR_end rfl))) hs,hfn,hl⟩
 |ret =>
  obtain ⟨todo,hs₀⟩:=harr.1 rfl;obtain ⟨e',w'',fr',hR,hs,hfn,hl⟩:=lv_steps a'.defers .returning w' { b.atR a' todo with mode:=.returning } cs rfl rfl rfl hf rfl hq;exact ⟨e',w'',fr',hR,Comes.of_steps hs₀.steps hs,hfn,hl⟩
 |panic chain =>
  obtain ⟨todo,hs₀⟩:=harr;obtain ⟨e',w'',fr',hR,hs,hfn,hl⟩:=lv_steps a'.defers (.panicking chain) w' { b.atR a' todo with mode:=.panicking chain } cs rfl rfl rfl hf rfl hq;exact ⟨e',w'',fr',hR,Comes.of_steps hs₀.steps hs,hfn,hl⟩
 |exit id=>exact hq.elim
 |goto l=>exact hq.elim
 |outgrown=>exact ⟨.outgrown,w',b,hq,harr.resolve_left (by simp [b]),rfl,trivial⟩
end runs
def look:List (Nat × Value)→Nat→Option Value
 |[],_=>none
 |(s,v)::σ,t=>match Nat.beq s t with|true=>some v|false=>look σ t
def ev (σ:List (Nat × Value)):Operand→Option Value
 |.tmp t=>look σ t
 |.const v=>some v
 |.global g=>some (.pointer (some ⟨g,0,none⟩))
 |.func f=>some (.func (.func f) #[] #[])
def Sub (σ' σ:List (Nat × Value)):Prop:=∀ t v,look σ' t=some v→look σ t=some v
theorem Sub.nil {σ:List (Nat × Value)}:Sub [] σ:=fun _ _ h=>by cases h
theorem Sub.refl {σ:List (Nat × Value)}:Sub σ σ:=fun _ _ h=>h
theorem Sub.cons {σ σ' :List (Nat × Value)} {t:Nat} {v:Value} (h:look σ t=some v) (hs:Sub σ' σ):Sub ((t,v)::σ') σ:=fun s u hu=>by
 simp only [look] at hu
 split at hu
 ·rename_i hb;cases hu;rw [← Nat.eq_of_beq_eq_true hb];exact h
 ·exact hs s u hu
def Fits (a:Act) (n:Nat) (σ:List (Nat × Value)):Prop:=a.tmps.size=n∧∀ t v,look σ t=some v→a.tmps[t]?=some v
theorem Fits.sub {a:Act} {n:Nat} {σ σ' :List (Nat × Value)} (h:Fits a n σ) (hs:Sub σ' σ):Fits a n σ' :=⟨h.1,fun t v x=>h.2 t v (hs t v x)⟩
theorem Fits.eval {a:Act} {n:Nat} {σ:List (Nat × Value)} (h:Fits a n σ) {x:Operand} {v:Value} (hx:ev σ x=some v):a.eval x=v:=by
 cases x with
 |tmp t=>have:=h.2 t v hx;simp only [Act.eval,Array.getD_eq_getD_getElem?,this,Option.getD_some]
 |const u=>simpa [ev,Act.eval] using hx
 |global g=>simpa [ev,Act.eval] using hx
 |func f=>simpa [ev,Act.eval] using hx
theorem Fits.put {a:Act} {n d:Nat} {σ:List (Nat × Value)} {v:Value} (h:Fits a n σ) (hd:Nat.blt d n=true):Fits (a.put (some d) v) n ((d,v)::σ):=by
 have hd' :d<a.tmps.size:=by rw [h.1];exact of_decide_eq_true (by simpa [Nat.blt_eq] using hd)
 refine ⟨by simp [Act.put,h.1],fun t u hu=>?_⟩;simp only [look] at hu
 split at hu
 ·rename_i hb;cases hu;have:=Nat.eq_of_beq_eq_true hb;subst this
  simp [Act.put,Array.getElem?_setIfInBounds_self_of_lt hd']
 ·rename_i hb
  have hne:d≠t:=by rintro rfl;simp at hb
  have:=h.2 t u hu;simp only [Act.put,Array.getElem?_setIfInBounds_ne hne,this]
def Knows (σ:List (Nat × Value)) (ρ:Operand→Value):Prop:=∀ x v,ev σ x=some v→ρ x=v
theorem Fits.knows {a:Act} {n:Nat} {σ:List (Nat × Value)} (h:Fits a n σ):Knows σ a.eval:=fun _ _ hx=>h.eval hx
def Does (P:Program) (op:Op) (σ:List (Nat × Value)) (g:Gr) (η:List SProp) (v:Value) (η' :List SProp):Prop :=
 ∀ (o:Oper) (ρ:Operand→Value) (w:World),o.op=op→Knows σ ρ→Holds w g η→∃ w',(execOp ρ o).run P w=.ok (.value v) w' ∧Holds w' g η'
def DoesU (P:Program) (op:Op) (σ:List (Nat × Value)) (g:Gr) (η:List SProp) (η' :List SProp):Prop :=
 ∀ (o:Oper) (ρ:Operand→Value) (w:World),o.op=op→Knows σ ρ→Holds w g η→∃ w',(execOp ρ o).run P w=.ok .skip w' ∧Holds w' g η'
def DoesV (P:Program) (op:Op) (σ:List (Nat × Value)) (g:Gr) (η:List SProp) (η' :List SProp):Prop :=
 ∀ (o:Oper) (ρ:Operand→Value) (w:World),o.op=op→Knows σ ρ→Holds w g η→∃ w' u,(execOp ρ o).run P w=.ok u w' ∧(u=.skip∨∃ v,u=.value v)∧Holds w' g η'
theorem DoesU.v {P:Program} {op:Op} {σ:List (Nat × Value)} {g:Gr} {η η' :List SProp} (h:DoesU P op σ g η η'):DoesV P op σ g η η' :=fun o ρ w h1 h2 h3=>let ⟨w',a,b⟩:=h o ρ w h1 h2 h3;⟨w',.skip,a,.inl rfl,b⟩
def S (ro:Option Nat) (P:Program) (fn:Func) (n:Nat) (R:Ending→World→Prop) (todo:List Item) (σ:List (Nat × Value)) (D:List Deferred) (g:Gr) (η:List SProp):Prop :=
 ∀ a w,Fits a n σ→a.defers=D→Holds w g η→Runs ro P todo (Post ro P fn R) a w
def O (ro:Option Nat) (P:Program) (fn:Func) (n:Nat) (R:Ending→World→Prop) (ops:Array Oper) (l:List Nat) (k:List Item) (σ:List (Nat × Value)) (D:List Deferred) (g:Gr) (η:List SProp):Prop :=
 ∀ a w,Fits a n σ→a.defers=D→Holds w g η→wpOpsIn (Wd ro) 0 P ops (QK ro P k (Post ro P fn R)) l a w
section rules
variable {ro:Option Nat} {P:Program} {fn:Func} {n:Nat} {R:Ending→World→Prop} {k:List Item} {σ σ' :List (Nat × Value)} {D:List Deferred} {g:Gr} {η η' :List SProp}
theorem S.weaken {todo:List Item} (hs:Sub σ' σ) (h:S ro P fn n R todo σ' D g η):S ro P fn n R todo σ D g η:=fun a w hf hd hw=>h a w (hf.sub hs) hd hw
theorem S.perm {todo:List Item} (p:η.Perm η') (h:S ro P fn n R todo σ D g η'):S ro P fn n R todo σ D g η:=fun a w hf hd hw=>h a w hf hd (hw.perm p)
theorem S.sel {todo:List Item} {A:SProp} {ζ:List SProp} (s:Sel η A ζ) (h:S ro P fn n R todo σ D g (A::ζ)):S ro P fn n R todo σ D g η:=S.perm s.perm h
theorem S.drop {todo:List Item} {A:SProp} (h:S ro P fn n R todo σ D g η):S ro P fn n R todo σ D g (A::η):=fun a w hf hd hw=>h a w hf hd hw.drop
theorem S.imp {todo:List Item} (hs:∀ k,Sat η k→Sat η' k) (h:S ro P fn n R todo σ D g η'):S ro P fn n R todo σ D g η:=fun a w hf hd hw=>h a w hf hd (hw.imp hs)
theorem S.entail {todo:List Item} {A:SProp} {ζ:List SProp} (hs:∀ k,A k→Sat ζ k) (h:S ro P fn n R todo σ D g (ζ++η)):S ro P fn n R todo σ D g (A::η) :=
 fun a w hf hd hw=>h a w hf hd (hw.entail hs)
theorem S.exi {todo:List Item} {α:Type} {A:α→SProp} (h:∀ x,S ro P fn n R todo σ D g (A x::η)):S ro P fn n R todo σ D g ((fun k=>∃ x,A x k)::η) :=
 fun a w hf hd hw=>by
  obtain ⟨p,q,r,k,d,s1,s2,k1,k2,kd,t1,t2,⟨x,hx⟩,y⟩:=hw;exact h x a w hf hd ⟨p,q,r,k,d,s1,s2,k1,k2,kd,t1,t2,hx,y⟩
theorem S.freeze {todo:List Item} {A:SProp} (h:∀ k:Fr,A k→g.h.disj k→S ro P fn n R todo σ D (g.add k) η):S ro P fn n R todo σ D g (A::η) :=
 fun a w hf hd hw=>by
  obtain ⟨k,hk,hdj,hw'⟩:=hw.freeze;exact h k hk hdj a w hf hd hw'
theorem S.thaw {todo:List Item} {A:SProp} {k:Fr} (hk:A k) (hdj:g.h.disj k) (h:S ro P fn n R todo σ D g (A::η)):S ro P fn n R todo σ D (g.add k) η :=
 fun a w hf hd hw=>h a w hf hd (hw.thaw hk hdj)
theorem S.seq {x y:Code} (h:S ro P fn n R (.code x::.code y::k) σ D g η):S ro P fn n R (.code (.seq x y)::k) σ D g η :=
 fun a w hf hd hw=>.step (fun _ _=>stepR_seq) (h a w hf hd hw)
theorem S.skip (h:S ro P fn n R k σ D g η):S ro P fn n R (.code .skip::k) σ D g η:=fun a w hf hd hw=>.step (fun _ _=>stepR_skip) (h a w hf hd hw)
theorem S.inBlock {id:Nat} (h:S ro P fn n R k σ D g η):S ro P fn n R (.inBlock id::k) σ D g η:=fun a w hf hd hw=>.step (fun _ _=>stepR_inBlock) (h a w hf hd hw)
theorem S.block {id:Nat} {c:Code} (h:S ro P fn n R (.code c::.inBlock id::k) σ D g η):S ro P fn n R (.code (.block id c)::k) σ D g η :=
 fun a w hf hd hw=>.step (fun _ _=>stepR_block) (h a w hf hd hw)
theorem S.exit {id:Nat} {k' :List Item} (hk:exitTo id k=some k') (h:S ro P fn n R k' σ D g η):S ro P fn n R (.code (.exit id)::k) σ D g η :=
 fun a w hf hd hw=>.step (fun _ _=>stepR_exit hk) (h a w hf hd hw)
theorem S.condT {c:Operand} {x y:Code} (hc:ev σ c=some (.bool true)) (h:S ro P fn n R (.code x::k) σ D g η):S ro P fn n R (.code (.cond c x y)::k) σ D g η :=
 fun a w hf hd hw=>.step (fun _ _=>stepR_cond (hf.eval hc)) (h a w hf hd hw)
theorem S.condF {c:Operand} {x y:Code} (hc:ev σ c=some (.bool false)) (h:S ro P fn n R (.code y::k) σ D g η):S ro P fn n R (.code (.cond c x y)::k) σ D g η :=
 fun a w hf hd hw=>.step (fun _ _=>stepR_cond (hf.eval hc)) (h a w hf hd hw)
theorem S.condB {c:Operand} {x y:Code} {b:Bool} (hc:ev σ c=some (.bool b)) (ht:b=true→S ro P fn n R (.code x::k) σ D g η) (hf:b=false→S ro P fn n R (.code y::k) σ D g η) :
  S ro P fn n R (.code (.cond c x y)::k) σ D g η:=by
 cases b
 ·exact S.condF hc (hf rfl)
 ·exact S.condT hc (ht rfl)
theorem S.condD {c:Operand} {x y:Code} {p:Prop} [Decidable p] (hc:ev σ c=some (.bool (decide p))) (ht:p→S ro P fn n R (.code x::k) σ D g η) (hf:¬p→S ro P fn n R (.code y::k) σ D g η) :
  S ro P fn n R (.code (.cond c x y)::k) σ D g η :=
 S.condB hc (fun h=>ht (of_decide_eq_true h)) (fun h=>hf (of_decide_eq_false h))
theorem S.loop {ι:Type} {c:Code} (φ:ι→Prop) (σs:ι→List (Nat × Value)) (ηs:ι→List SProp) (μ:ι→Nat) (x₀:ι) (h₀:φ x₀) (hσ:Sub (σs x₀) σ) (hη:η=ηs x₀)
  (round:∀ x,φ x→(∀ y,φ y→μ y<μ x→S ro P fn n R (.inLoop c::k) (σs y) D g (ηs y))→S ro P fn n R (.code c::.inLoop c::k) (σs x) D g (ηs x)) :
  S ro P fn n R (.code (.loop c)::k) σ D g η:=by
 have key:∀ m x,μ x=m→φ x→S ro P fn n R (.code c::.inLoop c::k) (σs x) D g (ηs x):=by
  intro m
  induction m using Nat.strongRecOn with
  |_ m ih =>
   intro x hm hx
   refine round x hx fun y hy hlt a w hf hd hw=>.step (fun _ _=>stepR_inLoop) (ih (μ y) (hm ▸ hlt) y rfl hy a w hf hd hw)
 subst hη;exact fun a w hf hd hw=>.step (fun _ _=>stepR_loop) (key _ x₀ rfl h₀ a w (hf.sub hσ) hd hw)
theorem S.region {id:Nat} {ops:Array Oper} {l:List Nat} (hl:List.range ops.size=l) (h:O ro P fn n R ops l k σ D g η):S ro P fn n R (.code (.region id ops false)::k) σ D g η :=
 fun a w hf hd hw=>.step (fun _ _=>stepR_region) (.ops (hl ▸ h a w hf hd hw))
theorem O.nil {ops:Array Oper} (h:S ro P fn n R k σ D g η):O ro P fn n R ops [] k σ D g η:=fun a w hf hd hw=>h a w hf hd hw
theorem O.weaken {ops:Array Oper} {l:List Nat} (hs:Sub σ' σ) (h:O ro P fn n R ops l k σ' D g η):O ro P fn n R ops l k σ D g η:=fun a w hf hd hw=>h a w (hf.sub hs) hd hw
def opAt (ops:Array Oper) (i n:Nat):Option (Nat × Op) :=
 match ops[i]? with
 |some ⟨some d,op,_,_,_,none⟩=>match Nat.blt d n with|true=>some (d,op)|false=>none
 |_=>none
def opAtU (ops:Array Oper) (i:Nat):Option Op :=
 match ops[i]? with
 |some ⟨none,op,_,_,_,none⟩=>some op
 |_=>none
def opAtG (ops:Array Oper) (i n:Nat):Option (Nat × Op × Nat × Bool) :=
 match ops[i]? with
 |some ⟨some d,op,_,_,_,some (j,want)⟩ =>
  match Nat.blt d n,ops[j]? with
  |true,some o=>match o.dst with|some t=>some (d,op,t,want)|none=>none
  |_,_=>none
 |_=>none
theorem opAt_spec {ops:Array Oper} {i n d:Nat} {op:Op} (h:opAt ops i n=some (d,op)) :
  ∃ o,ops[i]?=some o∧o.dst=some d∧o.op=op∧o.guard=none∧Nat.blt d n=true:=by
 unfold opAt at h
 split at h
 ·rename_i d' op' _ _ _ ho
  split at h
  ·rename_i hb;cases h;exact ⟨_,ho,rfl,rfl,rfl,hb⟩
  ·cases h
 ·cases h
theorem opAtU_spec {ops:Array Oper} {i:Nat} {op:Op} (h:opAtU ops i=some op):∃ o,ops[i]?=some o∧o.dst=none∧o.op=op∧o.guard=none:=by
 unfold opAtU at h
 split at h
 ·rename_i op' _ _ _ ho;cases h;exact ⟨_,ho,rfl,rfl,rfl⟩
 ·cases h
theorem opAtG_spec {ops:Array Oper} {i n d t:Nat} {op:Op} {want:Bool} (h:opAtG ops i n=some (d,op,t,want)) :
  ∃ o j oj,ops[i]?=some o∧o.dst=some d∧o.op=op∧o.guard=some (j,want)∧ops[j]?=some oj∧oj.dst=some t∧Nat.blt d n=true:=by
 unfold opAtG at h
 split at h
 ·rename_i d' op' _ _ _ j want' ho
  split at h
  ·rename_i oj hb hj
   split at h
   ·rename_i t' ht;cases h;exact ⟨_,_,_,ho,rfl,rfl,rfl,hj,ht,hb⟩
   ·cases h
  ·cases h
 ·cases h
theorem yielded_of {ops:Array Oper} {a:Act} {σ:List (Nat × Value)} {n j t:Nat} {oj:Oper} {b:Bool} (hf:Fits a n σ) (hj:ops[j]?=some oj) (ht:oj.dst=some t) (hl:look σ t=some (.bool b)) :
  yielded ops a.tmps j=some b:=by
 simp [yielded,hj,ht,hf.2 t _ hl]
inductive Fires (ops:Array Oper) (i n:Nat) (σ:List (Nat × Value)):Nat→Op→Prop
 |p {d:Nat} {op:Op} (h:opAt ops i n=some (d,op)):Fires ops i n σ d op
 |g {d t:Nat} {op:Op} {b:Bool} (h:opAtG ops i n=some (d,op,t,b)) (hl:look σ t=some (.bool b)):Fires ops i n σ d op
theorem Fires.spec {ops:Array Oper} {i n d:Nat} {σ:List (Nat × Value)} {op:Op} (h:Fires ops i n σ d op) :
  ∃ o,ops[i]?=some o∧o.dst=some d∧o.op=op∧(∀ a,Fits a n σ→Region.wanted o (yielded ops a.tmps)=true)∧Nat.blt d n=true:=by
 cases h with
 |p h =>
  obtain ⟨o,a,b,c,d,e⟩:=opAt_spec h;exact ⟨o,a,b,c,fun _ _=>by simp [Region.wanted,d],e⟩
 |g h hl =>
  obtain ⟨o,j,oj,hi,hdst,hop,hg,hj,ht,hb⟩:=opAtG_spec h;exact ⟨o,hi,hdst,hop,fun a hf=>by simp [Region.wanted,hg,yielded_of hf hj ht hl],hb⟩
theorem notDefer_value {P:Program} {o:Oper} {ρ:Operand→Value} {w w' :World} {v:Value} (h:(execOp ρ o).run P w=.ok (.value v) w'):∀ c,o.op≠.defer c:=fun c hc=>by
 simp only [execOp,hc,Sem.run_bind] at h
 cases hr:(resolve ρ c o.type).run P w<;>simp [hr,Result.andThen] at h
theorem notDefer_skip {P:Program} {o:Oper} {ρ:Operand→Value} {w w' :World} (h:(execOp ρ o).run P w=.ok .skip w'):∀ c,o.op≠.defer c:=fun c hc=>by
 simp only [execOp,hc,Sem.run_bind] at h
 cases hr:(resolve ρ c o.type).run P w<;>simp [hr,Result.andThen] at h
theorem O.fire {ro:Option Nat} {P:Program} {ops:Array Oper} {i:Nat} {o:Oper} {l:List Nat} {a:Act} {w:World} {Q:Exit→Act→World→Prop} {r:Result Next} (hi:ops[i]?=some o) (hg:Region.wanted o (yielded ops a.tmps)=true)
  (hnd:∀ c,o.op≠.defer c) (hr:(execOp a.eval o).run P w=r) (h:o.uponIn (Wd ro) 0 P a (wpOpsIn (Wd ro) 0 P ops Q l) Q r):wpOpsIn (Wd ro) 0 P ops Q (i::l) a w:=by
 simp only [wpOpsIn,hi,hg,if_true];exact ⟨fun _ _=>trivial,by rw [Oper.semAt_eq _ _ _ hnd,hr];exact h⟩
theorem calls_wd {ro:Option Nat} {P:Program} {f:FuncId} {args:Array Value} {w:World} {K:Ending→World→Prop} (h:Calls P f args w K):((Wd ro).depth.isSome=true→1≤0)∧CallsIn (Wd ro) (0 - 1) P f args w K :=
 ⟨fun h=>(by cases h),(callsIn_wide (n:=0)).2 h⟩
theorem O.op {ops:Array Oper} {i d:Nat} {l:List Nat} {op:Op} {v:Value} (ho:Fires ops i n σ d op) (hdo:Does P op σ g η v η')
  (h:O ro P fn n R ops l k ((d,v)::σ) D g η'):O ro P fn n R ops (i::l) k σ D g η:=by
 intro a w hf hd hw
 obtain ⟨o,hi,hdst,hop,hg,hb⟩:=ho.spec;obtain ⟨w',hrun,hw'⟩:=hdo o a.eval w hop hf.knows hw;refine O.fire hi (hg a hf) (notDefer_value hrun) hrun ?_;rw [Oper.uponIn_value,hdst];exact h _ _ (hf.put hb) hd hw'
theorem O.opU {ops:Array Oper} {i:Nat} {l:List Nat} {op:Op} (ho:opAtU ops i=some op) (hdo:DoesU P op σ g η η')
  (h:O ro P fn n R ops l k σ D g η'):O ro P fn n R ops (i::l) k σ D g η:=by
 intro a w hf hd hw
 obtain ⟨o,hi,hdst,hop,hg⟩:=opAtU_spec ho;obtain ⟨w',hrun,hw'⟩:=hdo o a.eval w hop hf.knows hw;refine O.fire hi (by simp [Region.wanted,hg]) (notDefer_skip hrun) hrun ?_;rw [Oper.uponIn_skip,hdst];exact h _ _ hf hd hw'
def notB (b:Bool):Value→Bool|.bool c=>c !=b|_=>true
theorem O.opN {ops:Array Oper} {i d t:Nat} {l:List Nat} {op:Op} {b:Bool} {v:Value} (ho:opAtG ops i n=some (d,op,t,b)) (hl:look σ t=some v) (hv:notB b v=true)
  (h:O ro P fn n R ops l k ((d,undef)::σ) D g η):O ro P fn n R ops (i::l) k σ D g η:=by
 intro a w hf hd hw
 obtain ⟨o,j,oj,hi,hdst,hop,hg,hj,ht,hb⟩:=opAtG_spec ho;have hgw:Region.wanted o (yielded ops a.tmps)=false:=by
  have:=hf.2 t _ hl
  cases v<;>simp [Region.wanted,hg,yielded,hj,ht,this]
  cases b<;>simp_all [notB]
 simp only [wpOpsIn,hi,hgw,Bool.false_eq_true,if_false];rw [hdst];exact ⟨fun _ _=>trivial,h _ _ (hf.put hb) hd hw⟩
theorem O.caseB {ops:Array Oper} {l:List Nat} {b:Bool} (t:Nat) (hl:look σ t=some (.bool b)) (ht:b=true→O ro P fn n R ops l k ((t,.bool true)::σ) D g η)
  (hf:b=false→O ro P fn n R ops l k ((t,.bool false)::σ) D g η):O ro P fn n R ops l k σ D g η:=by
 cases b
 ·exact O.weaken (Sub.cons hl Sub.refl) (hf rfl)
 ·exact O.weaken (Sub.cons hl Sub.refl) (ht rfl)
theorem O.caseD {ops:Array Oper} {l:List Nat} {p:Prop} [Decidable p] (t:Nat) (hl:look σ t=some (.bool (decide p))) (ht:p→O ro P fn n R ops l k ((t,.bool true)::σ) D g η)
  (hf:¬p→O ro P fn n R ops l k ((t,.bool false)::σ) D g η):O ro P fn n R ops l k σ D g η :=
 O.caseB t hl (fun h=>ht (of_decide_eq_true h)) (fun h=>hf (of_decide_eq_false h))
theorem results_one {t:Tmp} {v:Value} {a:Act} {w:World} (hr:fn.results=#[.tmp t]) (hf:Fits a n σ) (hl:look σ t=some v):(results fn a.tmps).run P w=.ok v w:=by
 have:=hf.2 t v hl
 simp [results,hr,Array.getD_eq_getD_getElem?,this]
theorem S.ret {t:Tmp} {v:Value} (hr:fn.results=#[.tmp t]) (hl:look σ t=some v) (h:∀ w,Holds w g η→R (.returned v) w):S none P fn n R (.code .ret::k) σ [] g η:=by
 intro a w hf hd hw
 refine .ret ?_;simp only [Post,hd,Lv,Leaves];exact ⟨v,results_one hr hf hl,h w hw⟩
theorem S.end0 (hr:fn.results=#[]) (h:∀ w,Holds w g η→R (.returned (.tuple #[])) w):S none P fn n R [] σ [] g η:=by
 intro a w hf hd hw
 refine .nil ?_;simp only [Post,hd,Lv,Leaves];exact ⟨.tuple #[],by simp [results,hr],h w hw⟩
theorem S.ret2 {t s:Tmp} {v u:Value} (hr:fn.results=#[.tmp t,.tmp s]) (hl:look σ t=some v) (hl' :look σ s=some u) (h:∀ w,Holds w g η→R (.returned (.tuple #[v,u])) w) :
  S none P fn n R (.code .ret::k) σ [] g η:=by
 intro a w hf hd hw
 refine .ret ?_;simp only [Post,hd,Lv,Leaves];refine ⟨.tuple #[v,u],?_,h w hw⟩
 simp [results,hr,Array.getD_eq_getD_getElem?,hf.2 t v hl,hf.2 s u hl']
theorem S.ret3 {t s r:Tmp} {v u x:Value} (hr:fn.results=#[.tmp t,.tmp s,.tmp r]) (hl:look σ t=some v) (hl' :look σ s=some u) (hl'' :look σ r=some x)
  (h:∀ w,Holds w g η→R (.returned (.tuple #[v,u,x])) w):S none P fn n R (.code .ret::k) σ [] g η:=by
 intro a w hf hd hw
 refine .ret ?_;simp only [Post,hd,Lv,Leaves];refine ⟨.tuple #[v,u,x],?_,h w hw⟩
 simp [results,hr,Array.getD_eq_getD_getElem?,hf.2 t v hl,hf.2 s u hl',hf.2 r x hl'']
end rules
def Con (P:Program) (f:FuncId) (args:Array Value) (r:Fr) (η:List SProp) (Post:Ending→List SProp→Prop):Prop :=
 ∀ g:Gr,r.sub g.h→∀ w,Holds w g η→Calls P f args w fun e w' =>∃ η',Post e η' ∧Holds w' g η'
def Ret (K:Value→List SProp→Prop):Ending→List SProp→Prop
 |.returned v,η=>K v η
 |_,_=>False
def RetP (K:Value→List SProp→Prop) (X:List PanicEntry→List SProp→Prop):Ending→List SProp→Prop
 |.returned v,η=>K v η
 |.panicked ch,η=>X ch η
 |.outgrown,_=>False
section con
variable {ro:Option Nat} {P:Program} {fn:Func} {n:Nat} {f:FuncId} {args:Array Value} {r:Fr} {η:List SProp} {Post:Ending→List SProp→Prop}
def slots:List Value→Nat→List (Nat × Value)
 |[],_=>[]
 |v::vs,i=>(i,v)::slots vs (i+1)
theorem look_slots:∀ (vs:List Value) (i t:Nat) (v:Value),look (slots vs i) t=some v→i≤t∧vs[t - i]?=some v
 |[],_,_,_,h=>by cases h
 |u::vs,i,t,v,h=>by
  simp only [slots,look] at h
  split at h
  ·rename_i hb;cases h;have:=Nat.eq_of_beq_eq_true hb;subst this;simp
  ·rename_i hb
   have hne:i≠t:=by rintro rfl;simp at hb
   obtain ⟨h1,h2⟩:=look_slots vs (i+1) t v h;have:t - i=(t - (i+1))+1:=by omega
   exact ⟨by omega,by rw [this];simpa using h2⟩
theorem Con.of {c:Code} (vs:List Value) (ha:args=vs.toArray) (hf:P.funcs[f]?=some fn) (hb:fn.body=some c) (hn:fn.ntmps=n) (hle:Nat.ble vs.length n=true)
  (h:∀ g:Gr,r.sub g.h→∀ R:Ending→World→Prop,(∀ e η' w',Post e η' →Holds w' g η' →R e w')→S none P fn n R [.code c] (slots vs 0) [] g η):Con P f args r η Post:=by
 intro g hr w hw
 subst ha hn;refine calls_of_runs hf hb (h g hr _ (fun e η' w' hp hh=>⟨η',hp,hh⟩) _ w ⟨?_,?_⟩ rfl hw)
 ·have:vs.length≤fn.ntmps:=Nat.le_of_ble_eq_true hle
  simp;omega
 ·intro t v hl
  obtain ⟨_,h2⟩:=look_slots vs 0 t v hl;simp only [Nat.sub_zero] at h2;have:t<vs.length:=by
   rcases Nat.lt_or_ge t vs.length with q|q
   ·exact q
   ·rw [List.getElem?_eq_none q] at h2;cases h2
  rw [Array.getElem?_append_left (by simpa using this)]
  simpa using h2
theorem Con.mono {Post' :Ending→List SProp→Prop} (h:Con P f args r η Post) (hp:∀ e η',Post e η' →Post' e η'):Con P f args r η Post' :=
 fun g hr w hw=>(h g hr w hw).mono fun _ _ ⟨η',x,y⟩=>⟨η',hp _ _ x,y⟩
theorem Con.sub {r' :Fr} (h:Con P f args r η Post) (hs:r.sub r'):Con P f args r' η Post:=fun g hr w hw=>h g (Fr.sub_trans hs hr) w hw
theorem Con.frame {ζ:List SProp} (h:Con P f args r η Post):Con P f args r (η++ζ) fun e η' =>∃ η₁,Post e η₁∧η' =η₁++ζ :=
 fun g hr w hw=>by
  obtain ⟨k,hk,hd,hw'⟩:=hw.freezeAll;exact (h (g.add k) (Fr.sub_trans hr (Fr.sub_add_left _ _)) w hw').mono fun _ _ ⟨η',x,y⟩=>⟨η' ++ζ,⟨η',x,rfl⟩,y.thawAll hk hd⟩
end con
def callable (P:Program) (f:FuncId):Bool :=
 match P.funcs[f]? with
 | some fn => fn.name != "runtime.NumGoroutine" && fn.body.isSome
 |none=>false
def evs (σ:List (Nat × Value)):List Operand→Option (List Value)
 |[]=>some []
 |x::xs=>match ev σ x,evs σ xs with|some v,some vs=>some (v::vs)|_,_=>none
theorem evs_spec {σ:List (Nat × Value)} {ρ:Operand→Value} (hk:Knows σ ρ):∀ {xs:List Operand} {vs:List Value},evs σ xs=some vs→xs.map ρ=vs
 |[],_,h=>by cases h;rfl
 |x::xs,vs,h=>by
  simp only [evs] at h
  split at h
  ·rename_i v us hv hus;cases h;simp [hk x v hv,evs_spec hk hus]
  ·cases h
theorem run_callFunc {P:Program} {f:FuncId} (hc:callable P f=true) (args:Array Value) (w:World):(callFunc f args).run P w=.ok (.enter f args) w:=by
 unfold callable at hc
 split at hc
 ·rename_i fn hf
  simp only [Bool.and_eq_true,bne_iff_ne,ne_eq] at hc;have h2:fn.body≠none:=by intro hb;rw [hb] at hc;simp at hc
  simp [callFunc,hf,hc.1,h2]
 ·cases hc
theorem run_call {P:Program} {f:FuncId} {first cap:Array Value} {ρ:Operand→Value} {o:Oper} {x:Operand} {xs:Array Operand} {ts:Array TypeId} (ho:o.op=.call ⟨.value x,xs,ts⟩)
  (hx:ρ x=.func (.func f) first cap) (hc:callable P f=true) (w:World):(execOp ρ o).run P w=.ok (.enter f (first++xs.map ρ++cap)) w:=by
 simp [execOp,ho,resolve,hx,Deferred.ofValue,invoke,run_callFunc hc]
section calls
variable {ro:Option Nat} {P:Program} {fn:Func} {n:Nat} {R:Ending→World→Prop} {k:List Item} {σ:List (Nat × Value)} {D:List Deferred} {g:Gr} {η ζ:List SProp}
 {ops:Array Oper} {i d:Nat} {l:List Nat} {f:FuncId} {x:Operand} {xs:Array Operand} {ts:Array TypeId} {vals:List Value} {K:Value→List SProp→Prop}
theorem O.call {first cap:Array Value} (ho:Fires ops i n σ d (.call ⟨.value x,xs,ts⟩)) (hx:ev σ x=some (.func (.func f) first cap)) (hc:callable P f=true)
  (hv:evs σ xs.toList=some vals) {args:Array Value} (hargs:first++vals.toArray++cap=args) (con:Con P f args g.h η (Ret K))
  (h:∀ v η',K v η' →O ro P fn n R ops l k ((d,v)::σ) D g (η' ++ζ)):O ro P fn n R ops (i::l) k σ D g (η++ζ):=by
 intro a w hf hd hw
 obtain ⟨o,hi,hdst,hop,hg,hb⟩:=ho.spec;have hm:xs.map a.eval=vals.toArray:=by
  rw [← evs_spec hf.knows hv,← Array.toList_map]
 refine O.fire hi (hg a hf) (by rw [hop];intro c hc;cases hc) (run_call hop (hf.knows x _ hx) hc w) ?_;rw [Oper.uponIn_enter,hm,hargs];refine calls_wd ?_;refine (con.frame (ζ:=ζ) g (Fr.sub_refl _) w hw).mono fun e w' hh=>?_;obtain ⟨η',⟨η₁,hp,rfl⟩,hw'⟩:=hh
 cases e with
 |returned v =>
  show wpOpsIn (Wd ro) 0 P ops _ l (a.put o.dst v) w'
  rw [hdst];exact h v η₁ hp _ _ (hf.put hb) hd hw'
 |panicked _=>exact hp.elim
 |outgrown=>exact hp.elim
theorem O.callP {first cap:Array Value} {X:List PanicEntry→List SProp→Prop} (ho:Fires ops i n σ d (.call ⟨.value x,xs,ts⟩)) (hx:ev σ x=some (.func (.func f) first cap)) (hc:callable P f=true)
  (hv:evs σ xs.toList=some vals) {args:Array Value} (hargs:first++vals.toArray++cap=args) (con:Con P f args g.h η (RetP K X))
  (hp:∀ ch η' w,X ch η' →Holds w g (η' ++ζ)→R (.panicked ch) w)
  (h:∀ v η',K v η' →O ro P fn n R ops l k ((d,v)::σ) [] g (η' ++ζ)):O ro P fn n R ops (i::l) k σ [] g (η++ζ):=by
 intro a w hf hd hw
 obtain ⟨o,hi,hdst,hop,hg,hb⟩:=ho.spec;have hm:xs.map a.eval=vals.toArray:=by
  rw [← evs_spec hf.knows hv,← Array.toList_map]
 refine O.fire hi (hg a hf) (by rw [hop];intro c hc;cases hc) (run_call hop (hf.knows x _ hx) hc w) ?_;rw [Oper.uponIn_enter,hm,hargs];refine calls_wd ?_;refine (con.frame (ζ:=ζ) g (Fr.sub_refl _) w hw).mono fun e w' hh=>?_;obtain ⟨η',⟨η₁,hq,rfl⟩,hw'⟩:=hh
 cases e with
 |returned v =>
  show wpOpsIn (Wd ro) 0 P ops _ l (a.put o.dst v) w'
  rw [hdst];exact h v η₁ hq _ _ (hf.put hb) hd hw'
 |panicked ch =>
  exact Post.panic hd (hp ch η₁ w' hq hw')
 |outgrown=>exact hq.elim
end calls
end Go.Sp
