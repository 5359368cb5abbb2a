/- Texts of this proof, one behind the other. -/
import Derived.Test.YtodhbhanmdfdeaaGreatQSpOwn2
section
/- Texts of this proof. -/
namespace Go.Sp
theorem leaves_going {P:Program} {fn:Func} {tmps:Array Value} {R:Ending→World→Prop}:∀ (ds:List Deferred) (u:FrameMode) (w:World) (fr:Frame)
  (cs:List Frame),fr.mode=u→fr.defers=ds→fr.tmps=tmps→P.funcs[fr.fn]?=some fn→fr.kind=.deferred→Lv P fn tmps R ds u w →
  ∃ e w' fr',R e w' ∧Comes P (lone fr cs w) (lone fr' cs w') e∧fr'.kind=.deferred∧fr'.going P w' e:=by
 intro ds
 induction ds with
 |nil =>
  intro u w fr cs hu hd ht hf hk h
  cases u with
  |run=>exact h.elim
  |returning =>
   obtain ⟨v,hr,hR⟩:=h;exact ⟨.returned v,w,fr,hR,Steps.refl P _,hk,hu,hd,fn,hf,ht ▸ hr⟩
  |panicking chain=>exact ⟨.panicked chain,w,fr,h,Steps.refl P _,hk,hu,hd,fn,hf⟩
 |cons d ds ih =>
  intro u w fr cs hu hd ht hf hk h
  obtain ⟨hrun,h⟩:=h
  rcases h with ⟨r,w',htar,htake,hrest⟩|⟨fv,cap,f,args,htar,hinv,hcall⟩
  ·have h1:=step_collected (cs:=cs) (hu ▸ hrun) hd htar htake
   obtain ⟨e',w'',fr',hR',hs',hfn',hl'⟩:=ih u w' { fr with defers:=[]++ds } cs hu rfl ht hf hk hrest;exact ⟨e',w'',fr',hR',Comes.of_steps (.one h1) hs',hfn',hl'⟩
  have h1:=step_defer (cs:=cs) (hu ▸ hrun) hd htar hinv;obtain ⟨e,u',w',frX,hR,hsteps,hkX,hgo⟩:=hcall { fr with defers:=ds } cs hu
  cases e with
  |returned v =>
   have h2:=step_going_returned (c:={ { fr with defers:=ds } with mode:=u' }) (cs:=cs) hkX hgo;obtain ⟨e',w'',fr',hR',hs',hfn',hl'⟩:=ih (settle u') w' { { { fr with defers:=ds } with mode:=u' } with mode:=settle u' } cs rfl rfl ht hf hk hR;exact ⟨e',w'',fr',hR',Comes.of_steps (.head h1 (Steps.trans hsteps (.one h2))) hs',hfn',hl'⟩
  |panicked chain =>
   have h2:=step_going_panicked (c:={ { fr with defers:=ds } with mode:=u' }) (cs:=cs) hgo;obtain ⟨e',w'',fr',hR',hs',hfn',hl'⟩:=ih (raised u' chain) w' { { { fr with defers:=ds } with mode:=u' } with mode:=raised u' chain } cs rfl rfl ht hf hk hR;exact ⟨e',w'',fr',hR',Comes.of_steps (.head h1 (Steps.trans hsteps (.one h2))) hs',hfn',hl'⟩
  |outgrown=>exact ⟨.outgrown,w',fr,hR,Outgrown.of_steps (.one h1) hsteps,hk,trivial⟩
def recVal:FrameMode→Value
 |.panicking ({ v,recovered:=false,goexit:=false }::_)=>v
 |_=>.nilIface
def recMode:FrameMode→FrameMode
 |.panicking ({ v,recovered:=false,goexit:=false }::older)=>.panicking ({ v,recovered:=true }::older)
 |u=>u
def recOps (ops:Array Oper) (n:Nat):Option (Nat × Nat) :=
 match (ops[0]?:Option Oper),(ops[1]?:Option Oper),(ops[2]?:Option Oper) with
 |some ⟨some d,.call ⟨.builtin .recover,_,_⟩,_,_,_,none⟩,some ⟨some e,.assign (.tmp d'),_,_,_,none⟩,none =>
  match Nat.beq d d',Nat.blt d n,Nat.blt e n with|true,true,true=>some (d,e)|_,_,_=>none
 |_,_,_=>none
theorem recoverD_mode (c:Frame) (cs:List Frame):recoverD (c::cs)=none∧recVal c.mode=.nilIface∧recMode c.mode=c.mode∨recoverD (c::cs)=some (recVal c.mode,{ c with mode:=recMode c.mode }::cs):=by
 obtain ⟨fn,tmps,todo,defers,mode,kind,ro⟩:=c;unfold recoverD recVal recMode
 cases mode with
 |run=>left;simp
 |returning=>left;simp
 |panicking ch =>
  cases ch with
  |nil=>left;simp
  |cons p older =>
   obtain ⟨v,r,ge⟩:=p
   cases r<;>cases ge<;>simp
theorem callsD_rec {P:Program} {f:FuncId} {fn:Func} {id:Nat} {ops:Array Oper} {rest:Code} {args:Array Value} {u:FrameMode} {w:World} {R:Ending→World→Prop} {n d e:Nat} (vs:List Value) (ha:args=vs.toArray)
  (hf:P.funcs[f]?=some fn) (hb:fn.body=some (.seq (.region id ops false) rest)) (hn:fn.ntmps=n) (hle:Nat.ble vs.length n=true) (hrec:recOps ops n=some (d,e))
  {g:Gr} {η:List SProp} (hw:Holds w g η)
  (h:S none P fn n R [.code rest] ((e,recVal u)::(d,recVal u)::slots vs 0) [] g η) :
  CallsD P f args u w fun e' u' w' =>u' =recMode u∧R e' w' :=by
 intro c cs hcu
 let b:Frame:={ (default:Frame) with fn:=f,kind:=.deferred }
 subst ha hn
 let a₀:Act:={ tmps:=vs.toArray++Array.replicate (fn.ntmps - vs.toArray.size) undef,defers:=[] }
 have henter:Frame.enter P f vs.toArray .deferred=b.at a₀ [.code (.seq (.region id ops false) rest)]:=by
  simp [Frame.enter,Frame.at,hf,hb,b,a₀]
 have hfit:Fits a₀ fn.ntmps (slots vs 0):=by
  refine ⟨?_,?_⟩
  ·have:vs.length≤fn.ntmps:=Nat.le_of_ble_eq_true hle
   simp [a₀];omega
  ·intro t v hl
   obtain ⟨_,h2⟩:=look_slots vs 0 t v hl;simp only [Nat.sub_zero] at h2;have:t<vs.length:=by
    rcases Nat.lt_or_ge t vs.length with q|q
    ·exact q
    ·rw [List.getElem?_eq_none q] at h2;cases h2
   simp only [a₀];rw [Array.getElem?_append_left (by simpa using this)]
   simpa using h2
 unfold recOps at hrec
 split at hrec
 case h_2=>cases hrec
 rename_i d1 xs1 tt1 ty1 pos1 af1 e1 d1' ty2 pos2 af2 ho0 ho1 ho2
 split at hrec
 case h_2=>cases hrec
 rename_i hq1 hq2 hq3
 cases hrec
 have:=Nat.eq_of_beq_eq_true hq1;subst this;have hsz:ops.size=2:=by
  have h1:=(Array.getElem?_eq_some_iff.1 ho1).1;have h2:=Array.getElem?_eq_none_iff.1 ho2
  omega
 let a₁:Act:=a₀.put (some d) (recVal u)
 let a₂:Act:=a₁.put (some e) (recVal u)
 have hf1:Fits a₁ fn.ntmps ((d,recVal u)::slots vs 0):=hfit.put hq2;have hf2:Fits a₂ fn.ntmps ((e,recVal u)::(d,recVal u)::slots vs 0):=hf1.put hq3;have hops:wpOpsS P ops (fun x a' cs' w' =>x=.normal∧a' =a₂∧cs' ={ c with mode:=recMode u }::cs∧w' =w) [0,1] a₀ (c::cs) w:=by
  have hev:a₁.eval (.tmp d)=recVal u:=hf1.eval (x:=.tmp d) (by simp [ev,look]);have hcm:{ c with mode:=recMode u }=c∨True:=.inr trivial;simp only [wpOpsS,ho0,ho1,Region.wanted,if_true];have hrun0:∀ o:Oper,o.op=.call ⟨.builtin .recover,xs1,tt1⟩→(execOp a₀.eval o).run P w=.ok .recover w:=fun o ho=>by
   simp [execOp,ho,resolve,invoke,builtin]
  rw [hrun0 _ rfl];subst hcu
  rcases recoverD_mode c cs with ⟨q1,q2,q3⟩|q1
  ·simp only [q1]
   have hrun1:∀ o:Oper,o.op=.assign (.tmp d)→(execOp (a₀.put (some d) .nilIface).eval o).run P w=.ok (.value (recVal c.mode)) w:=fun o ho=>by
    rw [← q2];simp [execOp,ho];exact hev
   rw [hrun1 _ rfl];simp only [Oper.upon_value];refine ⟨trivial,?_,?_,trivial⟩
   ·simp only [a₂,a₁,q2]
   ·rw [q3]
  ·simp only [q1]
   have hrun1:∀ o:Oper,o.op=.assign (.tmp d)→(execOp (a₀.put (some d) (recVal c.mode)).eval o).run P w=.ok (.value (recVal c.mode)) w:=fun o ho=>by
    simp [execOp,ho];exact hev
   rw [hrun1 _ rfl];simp only [Oper.upon_value];exact ⟨trivial,rfl,trivial,trivial⟩
 obtain ⟨x,a',cs',w',⟨rfl,rfl,rfl,rfl⟩,harr⟩:=wp_opsS (P:=P) (Q:=fun x a' cs' w' =>x=.normal∧a' =a₂∧cs' ={ c with mode:=recMode u }::cs∧w' =w) [0,1] a₀ (c::cs) w hops b [.code rest] rfl rfl;have hstart:Steps P (lone (Frame.enter P f vs.toArray .deferred) (c::cs) w') (lone (b.at a₂ [.code rest]) ({ c with mode:=recMode u }::cs) w'):=by
  rw [henter];have hr:List.range ops.size=[0,1]:=by rw [hsz];rfl
  exact .head step_seq (.head step_region (by rw [hr];exact harr))
 obtain ⟨x,a',w'',hq,harr2⟩:=h a₂ w' hf2 rfl hw b ({ c with mode:=recMode u }::cs) rfl ⟨fn,hf⟩;have harr2:=(arrivesIn_iff (I:=Machine.fenced P Fence.wide) (fun _ _=>stepsIn_wide) rfl).1 harr2;rw [Frame.atR_of_none rfl] at harr2
 cases x with
 |normal =>
  obtain ⟨e',w3,fr',hR,hs,hk,hg⟩:=leaves_going a'.defers .returning w'' { b.at a' [] with mode:=.returning } ({ c with mode:=recMode u }::cs) rfl rfl rfl hf rfl hq;exact ⟨e',recMode u,w3,fr',⟨rfl,hR⟩,Comes.of_steps (hstart.trans (Steps.trans harr2 (.one step_end))) hs,hk,hg⟩
 |ret =>
  obtain ⟨todo,hs₀⟩:=harr2;obtain ⟨e',w3,fr',hR,hs,hk,hg⟩:=leaves_going a'.defers .returning w'' { b.at a' todo with mode:=.returning } ({ c with mode:=recMode u }::cs) rfl rfl rfl hf rfl hq;exact ⟨e',recMode u,w3,fr',⟨rfl,hR⟩,Comes.of_steps (hstart.trans hs₀) hs,hk,hg⟩
 |panic chain =>
  obtain ⟨todo,hs₀⟩:=harr2;obtain ⟨e',w3,fr',hR,hs,hk,hg⟩:=leaves_going a'.defers (.panicking chain) w'' { b.at a' todo with mode:=.panicking chain } ({ c with mode:=recMode u }::cs) rfl rfl rfl hf rfl hq;exact ⟨e',recMode u,w3,fr',⟨rfl,hR⟩,Comes.of_steps (hstart.trans hs₀) hs,hk,hg⟩
 |exit _=>exact hq.elim
 |goto _=>exact hq.elim
 |outgrown=>exact ⟨.outgrown,recMode u,w'',b,⟨rfl,hq⟩,Outgrown.of_steps hstart (harr2.resolve_left (by simp [b])),rfl,trivial⟩
section
variable {ro:Option Nat} {P:Program} {fn:Func} {n:Nat} {R:Ending→World→Prop} {k:List Item} {σ:List (Nat × Value)} {D:List Deferred} {g:Gr} {η ζ:List SProp}
 {ops:Array Oper} {i d:Nat} {l:List Nat} {f:FuncId} {x y:Operand} {xs:Array Operand} {ts:Array TypeId} {vals:List Value} {K:Value→List SProp→Prop} {t:TypeId}
theorem O.defer {first cap:Array Value} (ho:opAtU ops i=some (.defer ⟨.value x,xs,ts⟩)) (hx:ev σ x=some (.func (.func f) first cap)) (hv:evs σ xs.toList=some vals) {args:Array Value} (hargs:first++vals.toArray=args)
  (h:O none P fn n R ops l k σ (⟨.fn (.func f) cap,args⟩::D) g η):O none P fn n R ops (i::l) k σ D g η:=by
 intro a w hf hd hw
 obtain ⟨o,hi,hdst,hop,hg⟩:=opAtU_spec ho;simp only [wpOpsIn,hi,Region.wanted,hg,if_true];refine ⟨fun _ _=>trivial,?_⟩;have hm:xs.map a.eval=vals.toArray:=by rw [← evs_spec hf.knows hv,← Array.toList_map]
 have hrun:(execOp a.eval o).run P w=.ok (.defer ⟨.fn (.func f) cap,args⟩) w:=by
  simp [execOp,hop,resolve,hf.eval hx,Deferred.ofValue,hm,hargs]
 show o.uponIn (Wd none) 0 P a _ _ ((o.semAt none a.eval).run P w)
 rw [Oper.semAt_none,hrun,Oper.uponIn_defer,hdst];exact h _ w ⟨hf.1,hf.2⟩ (by simp [Act.put,hd]) hw
def DPost (g:Gr) (b:Nat) (R:Ending→World→Prop) (e:Ending) (u:FrameMode) (w:World):Prop :=
 (∃ v,e=.returned v)∧settle u=.returning∧∃ T v η,Holds w g (obj b T [v]::η)∧R (.returned v) w
theorem leavesCell {a:Act} {w:World} {u:FrameMode} {tt b:Nat} {ty:TypeId} {cap args:Array Value} (hr:fn.results=#[.cell tt ty]) (hty:flat1 P ty=true) (hf:Fits a n σ) (hl:look σ tt=some (.pointer (some ⟨b,0,none⟩)))
  (hu:u≠.run) (hc:callable P f=true) (hcall:CallsD P f (args++cap) u w (DPost g b R)):Lv P fn a.tmps R [⟨.fn (.func f) cap,args⟩] u w:=by
 refine Lv.of (leaves_cons hu (by simp [invoke,run_callFunc hc]) (hcall.mono ?_));rintro e u' w' ⟨⟨v,rfl⟩,hs,T,v',η',hw,hR⟩
 show Leaves P fn a.tmps R [] (settle u') w'
 rw [hs];refine ⟨v',?_,hR⟩;have hc0:w'.cell? ⟨b,0,none⟩=some v' :=hw.obj_cell (by rfl);have hl' :=hf.2 tt _ hl
 simp [results,hr,Array.getD_eq_getD_getElem?,hl',asAddr,loadVar,run_isAgg_flat (flat1_flat hty),hc0]
theorem S.retL (h:∀ a w,Fits a n σ→a.defers=D→Holds w g η→Lv P fn a.tmps R D .returning w):S none P fn n R (.code .ret::k) σ D g η:=by
 intro a w hf hd hw
 refine .ret ?_
 show Lv P fn a.tmps R a.defers .returning w
 rw [hd];exact h a w hf hd hw
theorem S.retCell {tt b:Nat} {ty T:TypeId} {v:Value} (hr:fn.results=#[.cell tt ty]) (hty:flat1 P ty=true) (hl:look σ tt=some (.pointer (some ⟨b,0,none⟩))) (hs:Sel η (obj b T [v]) ζ)
  (h:∀ w,Holds w g (obj b T [v]::ζ)→R (.returned v) w):S none P fn n R (.code .ret::k) σ [] g η:=by
 refine S.retL fun a w hf hd hw=>?_;have hw' :=hw.sel hs;refine ⟨v,?_,h w hw'⟩;have hc0:w.cell? ⟨b,0,none⟩=some v:=hw'.obj_cell (by rfl);have hl' :=hf.2 tt _ hl
 simp [results,hr,Array.getD_eq_getD_getElem?,hl',asAddr,loadVar,run_isAgg_flat (flat1_flat hty),hc0]
theorem O.callPD {first cap:Array Value} {X:List PanicEntry→List SProp→Prop} (ho:Fires ops i n σ d (.call ⟨.value x,xs,ts⟩)) (hx:ev σ x=some (.func (.func f) first cap)) (hc:callable P f=true)
  (hv:evs σ xs.toList=some vals) {args:Array Value} (hargs:first++vals.toArray++cap=args) (con:Con P f args g.h η (RetP K X))
  (hp:∀ a ch η' w,Fits a n σ→X ch η' →Holds w g (η' ++ζ)→Lv P fn a.tmps R D (.panicking ch) w)
  (h:∀ v η',K v η' →O none P fn n R ops l k ((d,v)::σ) D g (η' ++ζ)):O none P fn n R ops (i::l) k σ D g (η++ζ):=by
 intro a w hf hd hw
 obtain ⟨o,hi,hdst,hop,hg,hb⟩:=ho.spec;have hm:xs.map a.eval=vals.toArray:=by rw [← evs_spec hf.knows hv,← Array.toList_map]
 refine O.fire hi (hg a hf) (by rw [hop];intro c hc;cases hc) (run_call hop (hf.knows x _ hx) hc w) ?_;rw [Oper.uponIn_enter,hm,hargs];refine calls_wd ?_;refine (con.frame (ζ:=ζ) g (Fr.sub_refl _) w hw).mono fun e w' hh=>?_;obtain ⟨η',⟨η₁,hq,rfl⟩,hw'⟩:=hh
 cases e with
 |returned v =>
  show wpOpsIn (Wd none) 0 P ops _ l (a.put o.dst v) w'
  rw [hdst];exact h v η₁ hq _ _ (hf.put hb) hd hw'
 |panicked ch =>
  show Lv P fn a.tmps R a.defers (.panicking ch) w'
  rw [hd];exact hp a ch η₁ w' hf hq hw'
 |outgrown=>exact hq.elim
theorem O.callPS {first cap:Array Value} {X:List PanicEntry→List SProp→Prop} {A:SProp} (ho:Fires ops i n σ d (.call ⟨.value x,xs,ts⟩)) (hx:ev σ x=some (.func (.func f) first cap)) (hc:callable P f=true)
  (hv:evs σ xs.toList=some vals) {args:Array Value} (hargs:first++vals.toArray++cap=args) (hs:Sel η A ζ) (con:Con P f args g.h [A] (RetP K X))
  (hp:∀ ch η' w,X ch η' →Holds w g (η' ++ζ)→R (.panicked ch) w)
  (h:∀ v η',K v η' →O ro P fn n R ops l k ((d,v)::σ) [] g (η' ++ζ)):O ro P fn n R ops (i::l) k σ [] g η :=
 fun a w hf hd hw=>O.callP (η:=[A]) (ζ:=ζ) ho hx hc hv hargs con hp h a w hf hd (hw.sel hs)
theorem O.callP0 {first cap:Array Value} {X:List PanicEntry→List SProp→Prop} (ho:Fires ops i n σ d (.call ⟨.value x,xs,ts⟩)) (hx:ev σ x=some (.func (.func f) first cap)) (hc:callable P f=true)
  (hv:evs σ xs.toList=some vals) {args:Array Value} (hargs:first++vals.toArray++cap=args) (con:Con P f args g.h [] (RetP K X))
  (hp:∀ ch η' w,X ch η' →Holds w g (η' ++η)→R (.panicked ch) w)
  (h:∀ v η',K v η' →O ro P fn n R ops l k ((d,v)::σ) [] g (η' ++η)):O ro P fn n R ops (i::l) k σ [] g η :=
 O.callP (η:=[]) (ζ:=η) ho hx hc hv hargs con hp h
theorem O.callPSD {first cap:Array Value} {X:List PanicEntry→List SProp→Prop} {A:SProp} (ho:Fires ops i n σ d (.call ⟨.value x,xs,ts⟩)) (hx:ev σ x=some (.func (.func f) first cap)) (hc:callable P f=true)
  (hv:evs σ xs.toList=some vals) {args:Array Value} (hargs:first++vals.toArray++cap=args) (hs:Sel η A ζ) (con:Con P f args g.h [A] (RetP K X))
  (hp:∀ a ch η' w,Fits a n σ→X ch η' →Holds w g (η' ++ζ)→Lv P fn a.tmps R D (.panicking ch) w)
  (h:∀ v η',K v η' →O none P fn n R ops l k ((d,v)::σ) D g (η' ++ζ)):O none P fn n R ops (i::l) k σ D g η :=
 fun a w hf hd hw=>O.callPD (η:=[A]) (ζ:=ζ) ho hx hc hv hargs con hp h a w hf hd (hw.sel hs)
theorem O.callP0D {first cap:Array Value} {X:List PanicEntry→List SProp→Prop} (ho:Fires ops i n σ d (.call ⟨.value x,xs,ts⟩)) (hx:ev σ x=some (.func (.func f) first cap)) (hc:callable P f=true)
  (hv:evs σ xs.toList=some vals) {args:Array Value} (hargs:first++vals.toArray++cap=args) (con:Con P f args g.h [] (RetP K X))
  (hp:∀ a ch η' w,Fits a n σ→X ch η' →Holds w g (η' ++η)→Lv P fn a.tmps R D (.panicking ch) w)
  (h:∀ v η',K v η' →O none P fn n R ops l k ((d,v)::σ) D g (η' ++η)):O none P fn n R ops (i::l) k σ D g η :=
 O.callPD (η:=[]) (ζ:=η) ho hx hc hv hargs con hp h
theorem OD.callPS {first cap:Array Value} {X:List PanicEntry→List SProp→Prop} {A:SProp} (ho:Fires ops i n σ d (.call ⟨.value x,xs,ts⟩)) (hd:descOk ops [i] l=true) (hx:ev σ x=some (.func (.func f) first cap)) (hc:callable P f=true)
  (hv:evs σ xs.toList=some vals) {args:Array Value} (hargs:first++vals.toArray++cap=args) (hs:Sel η A ζ) (con:Con P f args g.h [A] (RetP K X))
  (hp:∀ ch η' w,X ch η' →Holds w g (η' ++ζ)→R (.panicked ch) w)
  (h:∀ v η',K v η' →OD P fn n R ops k [] g l ((d,v)::σ) (η' ++ζ)):OD P fn n R ops k [] g (i::l) σ η :=
 OD.perm hs.perm (OD.callT (η:=[A]) (ζ:=ζ) ho hd hx hc hv hargs con (fun _ ch η' w hX hW=>hp ch η' w hX hW) h)
theorem OD.callP0 {first cap:Array Value} {X:List PanicEntry→List SProp→Prop} (ho:Fires ops i n σ d (.call ⟨.value x,xs,ts⟩)) (hd:descOk ops [i] l=true) (hx:ev σ x=some (.func (.func f) first cap)) (hc:callable P f=true)
  (hv:evs σ xs.toList=some vals) {args:Array Value} (hargs:first++vals.toArray++cap=args) (con:Con P f args g.h [] (RetP K X))
  (hp:∀ ch η' w,X ch η' →Holds w g (η' ++η)→R (.panicked ch) w)
  (h:∀ v η',K v η' →OD P fn n R ops k [] g l ((d,v)::σ) (η' ++η)):OD P fn n R ops k [] g (i::l) σ η :=
 OD.callT (η:=[]) (ζ:=η) ho hd hx hc hv hargs con (fun _ ch η' w hX hW=>hp ch η' w hX hW) h
theorem run_equal_iface_nil {ms:Array (String × TypeId)} {u:TypeId} {v:Value} (ht:P.underlying t=some (.interface ms)) (w:World):(Op.equal t (.iface u v) .nilIface).run P w=.ok false w:=by
 show (Op.equalIn (9999+1) t (.iface u v) .nilIface).run P w=_
 rw [Op.equalIn];simp [run_underlying ht]
theorem run_equal_nil_iface {ms:Array (String × TypeId)} (ht:P.underlying t=some (.interface ms)) (w:World):(Op.equal t .nilIface .nilIface).run P w=.ok true w:=by
 show (Op.equalIn (9999+1) t .nilIface .nilIface).run P w=_
 rw [Op.equalIn];simp [run_underlying ht]
theorem Does.neqIV {u:TypeId} {ms:Array (String × TypeId)} {v:Value} {tv:TypeId} (ht:P.underlying t=some (.interface ms)) (hx:ev σ x=some (.iface tv v)):Does P (.binOp .neq t x (.const .nilIface) u) σ g η (.bool true) η :=
 .run fun o ρ w ho hk=>by simp [execOp,ho,hk x _ hx,hk (.const .nilIface) _ rfl,eqGuard,Go.binOp,run_equal_iface_nil ht]
theorem Does.neqIN {u:TypeId} {ms:Array (String × TypeId)} (ht:P.underlying t=some (.interface ms)) (hx:ev σ x=some .nilIface):Does P (.binOp .neq t x (.const .nilIface) u) σ g η (.bool false) η :=
 .run fun o ρ w ho hk=>by simp [execOp,ho,hk x _ hx,hk (.const .nilIface) _ rfl,eqGuard,Go.binOp,run_equal_nil_iface ht]
theorem Does.assertYes {ti ta:TypeId} {v:Value} {dd:TypeDesc} (ht:P.underlying ta=some dd) (hx:ev σ x=some (.iface ta v)) (hn:notIface dd=true:=by rfl):Does P (.typeAssert x ti ta true) σ g η (.tuple #[v,.bool true]) η :=
 .run fun o ρ w ho hk=>by
  simp only [execOp,ho,hk x _ hx,Instr.typeAssert,Sem.run_bind,run_underlying ht,Result.andThen_ok]
  cases dd<;>first|(simp;done)|exact Bool.noConfusion hn
end
end Go.Sp
end
section
/- Texts of this proof, one behind the other. -/
section
/- Texts of this proof. -/
namespace Go.Sp
def EachP {β α:Type} (A:β→α→SProp):List β→List α→SProp
 |[],[]=>fun _=>True
 |b::bs,a::as=>fun h=>Sat [A b a,EachP A bs as] h
 |_,_=>fun _=>False
theorem Sat.two {A B:SProp} {m:Fr}:Sat [A,B] m↔∃ h1 h2:Fr,h1.disj h2∧h1.sub m∧h2.sub m∧A h1∧(∃ h3:Fr,h3.sub h2∧B h3):=by
 constructor
 ·rintro ⟨h1,h2,d,s1,s2,x,k1,k2,_,t1,_,y,_⟩
  exact ⟨h1,h2,d,s1,s2,x,k1,t1,y⟩
 ·rintro ⟨h1,h2,d,s1,s2,x,h3,t,y⟩
  exact ⟨h1,h2,d,s1,s2,x,h3,Fr.emp,Fr.disj_symm (Fr.emp_disj _),t,Fr.emp_sub _,y,trivial⟩
theorem EachP.snoc {β α:Type} {A:β→α→SProp} {b:β} {a:α}:∀ {bs:List β} {as:List α} {m:Fr},Sat [EachP A bs as,A b a] m→∃ h:Fr,h.sub m∧EachP A (bs++[b]) (as++[a]) h
 |[],[],m,h=>⟨m,Fr.sub_refl _,by
  have h2:Sat [A b a] m:=h.tail';exact Sat.append (η:=[A b a]) (ζ:=[EachP A [] []]) (Fr.disj_symm (Fr.emp_disj _)) h2 ⟨Fr.emp,Fr.emp,Fr.emp_disj _,Fr.emp_sub _,Fr.emp_sub _,trivial,trivial⟩ |>Sat.mono (Fr.add_sub (Fr.sub_refl _) (Fr.emp_sub _))⟩
 |[],_::_,_,h=>by obtain ⟨_,_,_,_,_,x,_⟩:=h;exact x.elim
 |_::_,[],_,h=>by obtain ⟨_,_,_,_,_,x,_⟩:=h;exact x.elim
 |b' ::bs,a' ::as,m,h=>by
  obtain ⟨h1,h2,d,s1,s2,x,y⟩:=h;have x' :Sat [A b' a',EachP A bs as] h1:=x;obtain ⟨k1,k2,kd,t1,t2,p,q⟩:=x';have hq:Sat [EachP A bs as,A b a] (k2.add h2):=Sat.append (η:=[EachP A bs as]) (ζ:=[A b a]) (Fr.disj_sub d t2 (Fr.sub_refl _)) q y;obtain ⟨h3,u,z⟩:=EachP.snoc hq;refine ⟨m,Fr.sub_refl _,?_⟩
  show Sat [A b' a',EachP A (bs++[b]) (as++[a])] m
  refine ⟨k1,k2.add h2,Fr.disj_add_right kd (Fr.disj_sub d t1 (Fr.sub_refl _)),Fr.sub_trans t1 s1,Fr.add_sub (Fr.sub_trans t2 s1) s2,p,h3,Fr.emp,Fr.disj_symm (Fr.emp_disj _),u,Fr.emp_sub _,z,trivial⟩
theorem EachP.all2 {β α:Type} {A:β→α→SProp} {R:β→α→Prop} {k:Fr} (hA:∀ b a m,A b a m→m.sub k→R b a):∀ {bs:List β} {as:List α} {m:Fr},EachP A bs as m→m.sub k→All2 R bs as
 |[],[],_,_,_=>trivial
 |[],_::_,_,h,_=>h.elim
 |_::_,[],_,h,_=>h.elim
 |b::bs,a::as,m,h,s=>by
  have h' :Sat [A b a,EachP A bs as] m:=h;obtain ⟨k1,k2,_,t1,t2,p,k3,_,_,u,_,q,_⟩:=h';exact ⟨hA b a k1 p (Fr.sub_trans t1 s),EachP.all2 hA q (Fr.sub_trans u (Fr.sub_trans t2 s))⟩
abbrev RowsP {α:Type} (T:Rp α) (e:TypeId) (vs:List Value) (xss:List (List α)):SProp:=EachP (OwnP T e) vs xss
section
variable {ro:Option Nat} {P:Program} {fn:Func} {n:Nat} {R:Ending→World→Prop} {k:List Item} {σ:List (Nat × Value)} {D:List Deferred} {g:Gr} {η ζ θ:List SProp} {ops:Array Oper} {L:List Nat}
theorem Sat.each {β α:Type} {A:β→α→SProp} {b:β} {a:α} {bs:List β} {as:List α} {m:Fr} (h:Sat (EachP A bs as::A b a::θ) m):Sat (EachP A (bs++[b]) (as++[a])::θ) m:=by
 obtain ⟨h1,h2,d,s1,s2,x,k1,k2,kd,t1,t2,y,z⟩:=h;obtain ⟨h3,u,w⟩:=EachP.snoc (Sat.append (η:=[EachP A bs as]) (ζ:=[A b a]) (Fr.disj_sub d (Fr.sub_refl _) t1) ⟨h1,Fr.emp,Fr.disj_symm (Fr.emp_disj _),Fr.sub_refl _,Fr.emp_sub _,x,trivial⟩ ⟨k1,Fr.emp,Fr.disj_symm (Fr.emp_disj _),Fr.sub_refl _,Fr.emp_sub _,y,trivial⟩);exact ⟨h3,k2,Fr.disj_sub (Fr.disj_add (Fr.disj_sub d (Fr.sub_refl _) t2) kd) u (Fr.sub_refl _),Fr.sub_trans u (Fr.add_sub s1 (Fr.sub_trans t1 s2)),Fr.sub_trans t2 s2,w,z⟩
theorem O.each {β α:Type} {A:β→α→SProp} {b:β} {a:α} {bs:List β} {as:List α} (s1:Sel η (EachP A bs as) ζ) (s2:Sel ζ (A b a) θ) (h:O ro P fn n R ops L k σ D g (EachP A (bs++[b]) (as++[a])::θ)):O ro P fn n R ops L k σ D g η :=
 O.sel s1 (O.imp (η:=EachP A bs as::ζ) (fun _ x=>Sat.each (Sat.cons_imp (fun _ y=>y) (fun _ y=>Sat.perm s2.perm y) x)) h)
theorem S.imp' {todo:List Item} (hs:∀ m,Sat η m→Sat ζ m) (h:S ro P fn n R todo σ D g ζ):S ro P fn n R todo σ D g η:=fun a w hf hd hw=>h a w hf hd (hw.imp hs)
theorem S.each {todo:List Item} {β α:Type} {A:β→α→SProp} {b:β} {a:α} {bs:List β} {as:List α} (s1:Sel η (EachP A bs as) ζ) (s2:Sel ζ (A b a) θ) (h:S ro P fn n R todo σ D g (EachP A (bs++[b]) (as++[a])::θ)):S ro P fn n R todo σ D g η :=
 S.sel s1 (S.imp' (η:=EachP A bs as::ζ) (fun _ x=>Sat.each (Sat.cons_imp (fun _ y=>y) (fun _ y=>Sat.perm s2.perm y) x)) h)
theorem sat_each0 {β α:Type} {A:β→α→SProp} {m:Fr} (h:Sat η m):Sat (EachP A [] []::η) m:=⟨Fr.emp,m,Fr.emp_disj _,Fr.emp_sub _,Fr.sub_refl _,trivial,h⟩
theorem S.each0 {todo:List Item} {β α:Type} (A:β→α→SProp) (h:S ro P fn n R todo σ D g (EachP A [] []::η)):S ro P fn n R todo σ D g η:=S.imp' (fun _=>sat_each0) h
theorem Sat.rows {α:Type} {T:Rp α} {e e' :TypeId} {v:Value} {vs:List Value} {xss:List (List α)} {m:Fr} (h:Sat [OwnP Rp.val e v vs,RowsP T e' vs xss] m):Arr (Rp.slice T) m v xss:=by
 obtain ⟨h1,h2,_,s1,s2,x,h3,_,_,t,_,y,_⟩:=h;exact (x.arr.mono s1).rows (EachP.all2 (fun b a m' z s=>z.arr.mono s) y (Fr.sub_trans t s2))
theorem sat_rows {α:Type} {T:Rp α} {e e' :TypeId} {v:Value} {vs:List Value} {xss:List (List α)} (s1:Sel η (OwnP Rp.val e v vs) ζ) (s2:Sel ζ (RowsP T e' vs xss) θ) (m:Fr) (h:Sat η m):Sat ((fun m=>Arr (Rp.slice T) m v xss)::θ) m:=by
 obtain ⟨h1,h2,d,t1,t2,x,y⟩:=Sat.perm s1.perm h;obtain ⟨k1,k2,kd,u1,u2,p,q⟩:=Sat.perm s2.perm y;refine ⟨h1.add k1,k2,Fr.disj_add (Fr.disj_sub d (Fr.sub_refl _) u2) kd,Fr.add_sub t1 (Fr.sub_trans u1 t2),Fr.sub_trans u2 t2,?_,q⟩;exact Sat.rows (Sat.append (η:=[OwnP Rp.val e v vs]) (ζ:=[RowsP T e' vs xss]) (Fr.disj_sub d (Fr.sub_refl _) u1) ⟨h1,Fr.emp,Fr.disj_symm (Fr.emp_disj _),Fr.sub_refl _,Fr.emp_sub _,x,trivial⟩ ⟨k1,Fr.emp,Fr.disj_symm (Fr.emp_disj _),Fr.sub_refl _,Fr.emp_sub _,p,trivial⟩)
theorem S.retCellAgg {tt b:Nat} {ty T:TypeId} {cs:List Value} (hr:fn.results=#[.cell tt ty]) (hty:∀ w,(isAgg ty).run P w=.ok true w) (hsz:(P.info? ty).map (·.size)=some cs.length) (hl:look σ tt=some (.pointer (some ⟨b,0,none⟩))) (hs:Sel η (obj b T cs) ζ)
  (h:∀ w,Holds w g (obj b T cs::ζ)→R (.returned (.agg cs.toArray)) w):S none P fn n R (.code .ret::k) σ [] g η:=by
 refine S.retL fun a w hf hd hw=>?_;have hw' :=hw.sel hs;refine ⟨.agg cs.toArray,?_,h w hw'⟩;have hc0:=run_loadCells_list (P:=P) w ⟨b,0,none⟩ cs fun j v hj=>by
  rw [add_lit];exact hw'.obj_cell (by simpa using hj)
 have hl' :=hf.2 tt _ hl
 simp [results,hr,Array.getD_eq_getD_getElem?,hl',asAddr,loadVar,hty,run_sizeOf hsz,hc0]
theorem O.frzR {α:Type} {T:Rp α} {e e' :TypeId} {v:Value} {vs:List Value} {xss:List (List α)} (s1:Sel η (OwnP Rp.val e v vs) ζ) (s2:Sel ζ (RowsP T e' vs xss) θ) (h:∀ g' :Gr,g.h.sub g'.h→(∀ w ζ,Holds w g' ζ→Holds w g ζ)→Arr (Rp.slice T) g'.h v xss→O ro P fn n R ops L k σ D g' θ):O ro P fn n R ops L k σ D g η :=
 O.imp (sat_rows s1 s2) (O.frzW Sel.here h)
end
section
variable {ro:Option Nat} {P:Program} {σ:List (Nat × Value)} {g:Gr} {η ζ:List SProp} {fn:Func} {n:Nat} {R:Ending→World→Prop} {k:List Item} {D:List Deferred} {ops:Array Oper} {i d:Nat} {l:List Nat}
 {t e:TypeId} {x y z:Operand} {v:Value} {ka kb:IntKind} {za zb:Int} {a b:Nat} {α:Type} {T:Rp α} {xs:List α} {r:Fr}
theorem Con.lentD {f:FuncId} {args:Array Value} {h:Fr} {bs:List SProp} {Post:Ending→List SProp→Prop} (con:∀ m:Fr,Sat bs m→h.disj m→Con P f args (h.add m) η Post) :
  Con P f args h (η++bs) Post:=fun g hg w hw=>by
 obtain ⟨m,hm,hd,hw'⟩:=Holds.freezeAll (η:=η) (ζ:=bs) hw;have hd' :h.disj m:=Fr.disj_sub hd hg (Fr.sub_refl _);exact (con m hm hd' (g.add m) (Fr.add_sub (Fr.sub_trans hg (Fr.sub_add_left _ _)) (Fr.sub_add_right hd)) w hw').mono fun e w' ⟨η',x,y⟩=>⟨η',x,y.melt hd⟩
theorem O.callSs {f:FuncId} {xs:Array Operand} {ts:Array TypeId} {vals:List Value} {K' :Value→List SProp→Prop} {first cap:Array Value} (ho:Fires ops i n σ d (.call ⟨.value x,xs,ts⟩)) (hx:ev σ x=some (.func (.func f) first cap)) (hc:callable P f=true)
  (hv:evs σ xs.toList=some vals) {args:Array Value} (hargs:first++vals.toArray++cap=args) {bs:List SProp} (hb:Sels η bs ζ) (con:Con P f args g.h bs (Ret K'))
  (h:∀ v η',K' v η' →O ro P fn n R ops l k ((d,v)::σ) D g (η' ++ζ)):O ro P fn n R ops (i::l) k σ D g η :=
 fun a w hf hd hw=>O.call (ζ:=ζ) ho hx hc hv hargs con h a w hf hd (hw.perm hb.perm)
theorem OD.sliceFrom (ho:Fires ops i n σ d (.slice t x (some y) none none)) (ht:P.underlying t=some (.slice e)) (he:(P.info? e).map (·.size)=some T.k) (hx:ev σ x=some v) (hy:ev σ y=some (.int ka za)) (hs:Arr T r v xs) (hz:za=(a:Int)) (ha:a≤xs.length)
  (h:∀ u,Arr T r u (xs.drop a)→OD P fn n R ops k D g l ((d,u)::σ) η):OD P fn n R ops k D g (i::l) σ η:=by
 subst hz;obtain ⟨u,h1,h2⟩:=slice_does (g:=g) (a:=a) (b:=xs.length) (kh:=.i64) ht he hx (lo:=some y) (hi:=none) (fun _ h=>by cases h;exact hy) (fun h=>nomatch h) (fun _ h=>nomatch h) (fun _=>rfl) hs ha (Nat.le_refl _);exact .quiet ho rfl h1 (h u (by rw [List.take_length] at h2;exact h2))
theorem ODg.storeObj {t T:TypeId} {x y:Operand} {b i:Nat} {cs news:List Value} {v:Value} {j:Nat} (ho:opAtU ops j=some (.store t x y)) {fl:Bool} (hd:hdOk fl ops j l=true) (hsz:(P.info? t).map (·.size)=some news.length) (hx:ev σ x=some (.pointer (some ⟨b,i,none⟩))) (hy:ev σ y=some v)
  (hv:v.cells.toList=news) (h1:news.all (·.oneCell')=true) (hs:Sel η (obj b T cs) ζ) (hl:i+news.length≤cs.length)
  (h:OD P fn n R ops k D g l σ (obj b T (cs.take i++news++cs.drop (i+news.length))::ζ)):ODx P fn n R ops k D g fl (j::l) σ η :=
 ODx.perm hs.perm (ODg.loudU (η:=obj b T cs::ζ) (η' :=obj b T (cs.take i++news++cs.drop (i+news.length))::ζ) ho rfl hd (fun _=>.storeObj hsz hx hy hv h1 Sel.here hl) h)
theorem OD.storeObj {t T:TypeId} {x y:Operand} {b i:Nat} {cs news:List Value} {v:Value} {j:Nat} (ho:opAtU ops j=some (.store t x y)) (hd:descOk ops [j] l=true) (hsz:(P.info? t).map (·.size)=some news.length) (hx:ev σ x=some (.pointer (some ⟨b,i,none⟩))) (hy:ev σ y=some v) (hv:v.cells.toList=news) (h1:news.all (·.oneCell')=true) (hs:Sel η (obj b T cs) ζ) (hl:i+news.length≤cs.length) (h:OD P fn n R ops k D g l σ (obj b T (cs.take i++news++cs.drop (i+news.length))::ζ)):OD P fn n R ops k D g (j::l) σ η:=ODg.storeObj (fl:=false) ho (by simpa [hdOk] using hd) hsz hx hy hv h1 hs hl h
theorem ODg.store1 {t T:TypeId} {x y:Operand} {b i:Nat} {cs:List Value} {v:Value} {j:Nat} (ho:opAtU ops j=some (.store t x y)) {fl:Bool} (hd:hdOk fl ops j l=true) (ht:flat1 P t=true) (hx:ev σ x=some (.pointer (some ⟨b,i,none⟩))) (hy:ev σ y=some v)
  (h1:v.oneCell' =true) (hs:Sel η (obj b T cs) ζ) (hl:i<cs.length)
  (h:OD P fn n R ops k D g l σ (obj b T (cs.set i v)::ζ)):ODx P fn n R ops k D g fl (j::l) σ η :=
 ODx.perm hs.perm (ODg.loudU (η:=obj b T cs::ζ) (η' :=obj b T (cs.set i v)::ζ) ho rfl hd (fun _=>.store1 ht hx hy h1 Sel.here hl) h)
theorem OD.store1 {t T:TypeId} {x y:Operand} {b i:Nat} {cs:List Value} {v:Value} {j:Nat} (ho:opAtU ops j=some (.store t x y)) (hd:descOk ops [j] l=true) (ht:flat1 P t=true) (hx:ev σ x=some (.pointer (some ⟨b,i,none⟩))) (hy:ev σ y=some v) (h1:v.oneCell' =true) (hs:Sel η (obj b T cs) ζ) (hl:i<cs.length) (h:OD P fn n R ops k D g l σ (obj b T (cs.set i v)::ζ)):OD P fn n R ops k D g (j::l) σ η:=ODg.store1 (fl:=false) ho (by simpa [hdOk] using hd) ht hx hy h1 hs hl h
end
end Go.Sp
end
section
/- Texts of this proof. -/
namespace Go.Sp
section
variable {P:Program} {σ:List (Nat × Value)} {g:Gr} {η ζ θ:List SProp}
theorem DoesE.append2 {t e k by_:Nat} {z:List Value} {x y:Operand} {v u:Value} {m q:Nat} {cs news:List Value} (ht:P.underlying t=some (.slice e)) (he:elemIs P e k by_ z) (hk:0<k)
  (hx:ev σ x=some v) (hy:ev σ y=some u) (hs:Sel η (Own v k e m cs) ζ) (hu:Sl g.h u k q news) (h1:∀ c∈news,c.oneCell' =true) (hb:(m+q)*by_≤140737488355328) (h63:m+q≤9223372036854775807) :
  DoesE P (.call ⟨.builtin .append,#[x,y],#[t,t]⟩) σ g η fun v' η' =>(η' =Own v' k e (m+q) (cs++news)::ζ∧∃ a cap,v=.slice a m cap∧v' =.slice a (m+q) cap∧m+q≤cap)∨η' =Own v' k e (m+q) (cs++news)::Own v k e m cs::ζ :=
 fun o ρ w ho hkn hw=>by
  obtain ⟨i,zv,hi,hz,hsz,hby,hzc,hzl⟩:=he;subst hsz hby hzc;have hzs:zv.cells.size=i.size:=by simpa using hzl
  obtain ⟨a,cap,rfl,c1,c2,c3,c4⟩:=hu;have hw1:=hw.sel hs
  cases a with
  |none =>
   have hq:news=[]:=by
    cases news with
    |nil=>rfl
    |cons c r=>obtain ⟨p,hp,_⟩:=c4 0 (by simp);cases hp
   subst hq;have hq0:q=0:=by
    have:q*i.size=0:=by rw [← c3];rfl
    rcases Nat.mul_eq_zero.1 this with h|h<;>omega
   subst hq0;have hv:∃ a cap,v=.slice a m cap∧m≤cap:=by
    obtain ⟨_,_,_,_,_,_,_,_,_,_,_,_,hA,_⟩:=hw1
    rcases hA with ⟨_,⟨rfl,rfl⟩|⟨b,cap,cur,rfl,_,h1,_⟩⟩
    ·exact ⟨none,0,rfl,Nat.le_refl _⟩
    ·exact ⟨_,cap,rfl,h1⟩
   obtain ⟨a,cp,rfl,hle⟩:=hv;refine ⟨.slice a m cp,w,_,.inl ⟨rfl,a,cp,rfl,rfl,hle⟩,run_append_args ho ?_,by simpa using hw1⟩;rw [hkn x _ hx,hkn y _ hy]
   cases a<;>simp [Builtin.append_,run_underlying ht,sizeOf,typeInfo,hi,Builtin.lenOf,Builtin.firstCells,storeCells,hle]
  |some a =>
   have hnews:∀ j u,news[j]?=some u→w.cell? (a.add j)=some u:=fun j u hj=>by
    obtain ⟨hjl,rfl⟩:=List.getElem?_eq_some_iff.1 hj;obtain ⟨p,hp,hc⟩:=c4 j hjl
    cases hp
    exact Fr.cell_mono hw.ground hc
   have hnx:=hkn x _ hx;have hny:=hkn y _ hy;have fresh:∀ (old:Nat),old<m+q→cs.length=m*i.size→Holds (w.drew.alloc (.cells (cs.toArray++news.toArray++Builtin.zeroCells zv.cells (grownCap w (m+q) old e - (m+q))) e)) g
     (Own (.slice (some ⟨w.heap.size,0,none⟩) (m+q) (grownCap w (m+q) old e)) i.size e (m+q) (cs++news)::Own v i.size e m cs::ζ):=by
    intro old ho hcl
    have hge:=grownCap_ge w (m+q) old e;have hcm:=grownCap_le_maxLen w (m+q) old e (by simpa [maxLen] using h63);have hlen:(cs++news).length=(m+q)*i.size:=by rw [List.length_append,hcl,c3,Nat.add_mul]
    refine ((hw1.drewN _ (Nat.le_add_right _ _)).alloc _).own hge (by simpa [maxLen] using hcm) ?_ ?_
    ·simp only [Array.size_append,List.size_toArray,size_zeroCells,hzs,hcl,c3,← Nat.add_mul]
     congr 1
     omega
    ·simp only [Array.toList_append,List.append_assoc]
     rw [← List.append_assoc,← hlen];exact List.take_left
   obtain ⟨hA,hA'⟩:cs.length=m*i.size∧((v=.slice none 0 0∧m=0)∨∃ b cap cur,v=.slice (some ⟨b,0,none⟩) m cap∧m≤cap∧cap≤9223372036854775807∧cur.size=cap*i.size∧cur.toList.take (m*i.size)=cs ∧
     ∃ fz,Thawed fz (cap*i.size)∧Holds w g (blk b (.cells cur e fz)::ζ)):=by
    obtain ⟨p1,p2,p3,K,hd,s1,s2,k1,k2,kd,t1,t2,⟨hl,hA⟩,hr⟩:=hw1;refine ⟨hl,hA.imp id ?_⟩;rintro ⟨b,cap,cur,rfl,⟨fz,hbk,hz⟩,h1,h2,h3,h4⟩;exact ⟨b,cap,cur,rfl,h1,h2,h3,h4,fz,hz,p1,p2,p3,K,hd,s1,s2,k1,k2,kd,t1,t2,hbk,hr⟩
   rcases hA' with ⟨rfl,rfl⟩|⟨b,cp,cur,rfl,h1',h2',h3',h4',fz,hfz,hwb⟩
   ·have hcs:cs=[]:=List.eq_nil_of_length_eq_zero (by simpa using hA)
    subst hcs
    by_cases hq:q=0
    ·subst hq
     have hn:news=[]:=List.eq_nil_of_length_eq_zero (by simpa using c3);subst hn;refine ⟨.slice none 0 0,w,_,.inl ⟨rfl,none,0,rfl,rfl,Nat.le_refl _⟩,run_append_args ho ?_,by simpa using hw1⟩;rw [hnx,hny]
     simp [Builtin.append_,run_underlying ht,sizeOf,typeInfo,hi,Builtin.lenOf,Builtin.firstCells,loadCells,loadCellsFrom]
    ·have hr:=run_append_nil (P:=P) w t o.type e i zv ht hi hz a q cap news c3 hnews (by omega) (by omega) (by have hb:=hb;simp only [Nat.zero_add] at hb;omega)
     have hf:=fresh 0 (by omega) (by simp);simp only [Nat.zero_add,List.nil_append,Array.empty_append] at hf ⊢;exact ⟨_,_,_,.inr rfl,run_append_args ho (by rw [hnx,hny];exact hr),hf⟩
   ·by_cases hroom:m+q≤cp
    ·have hfit:m*i.size+news.length≤cur.size:=by rw [c3,h3',← Nat.add_mul];exact Nat.mul_le_mul_right _ hroom
     have hr:=run_append_roomZ (P:=P) w t o.type e i ht hi b m cp cur hwb.block (by rw [h3'];exact hfz) a q cap news c3 hnews h1 hroom hfit;refine ⟨_,_,_,.inl ⟨rfl,_,_,rfl,rfl,hroom⟩,run_append_args ho (by rw [hnx,hny];exact hr),hwb.setRow.ownF hfz hroom h2' ?_ ?_⟩
     ·simp only [List.size_toArray,List.length_append,List.length_take,List.length_drop,Array.length_toList]
      omega
     ·have hlen:(cs++news).length=(m+q)*i.size:=by rw [List.length_append,hA,c3,Nat.add_mul]
      rw [h4',← hlen];exact List.take_left
    ·have holds:∀ j u,cs[j]?=some u→w.cell? ((⟨b,0,none⟩:Addr).add j)=some u:=fun j u hj=>by
      have hb0:=hwb.block;rw [add_lit,Nat.zero_add];have hjl:=(List.getElem?_eq_some_iff.1 hj).1;rw [← h4',List.getElem?_take_of_lt (by omega)] at hj
      simpa [World.cell?,hb0] using hj
     have hr:=run_append_grow (P:=P) w t o.type e i zv ht hi hz ⟨b,0,none⟩ m cp cs hA holds a q cap news c3 hnews (by omega) (by omega) (growslice_fits (by omega) hb);exact ⟨_,_,_,.inr rfl,run_append_args ho (by rw [hnx,hny];exact hr),fresh cp (by omega) hA⟩
def Two {α:Type} (T:Rp α) (e:TypeId) (v:Value) (xs:List α) (u:Value) (ys:List α):SProp:=fun h =>
 (∃ a c,v=.slice a xs.length c∧u=.slice a (xs.length+ys.length) c∧OwnP T e u (xs++ys) h)∨Sat [OwnP T e u (xs++ys),OwnP T e v xs] h
theorem Two.start {α:Type} {T:Rp α} {e:TypeId} {v:Value} {xs:List α} {h:Fr} (x:OwnP T e v xs h):Two T e v xs v [] h:=by
 obtain ⟨a,c,hv⟩:=x.shape;exact .inl ⟨a,c,hv,by simpa using hv,by simpa using x⟩
theorem OwnP.take {α:Type} {T:Rp α} {e:TypeId} {a:Option Addr} {n m c:Nat} {xs ys:List α} {h:Fr} (hn:n=xs.length) (x:OwnP T e (.slice a m c) (xs++ys) h):OwnP T e (.slice a n c) xs h:=by
 subst hn;obtain ⟨css,h1,h2,h3⟩:=x;have hl:css.length=xs.length+ys.length:=by rw [h1.length];simp
 have ht:=h1.take xs.length;rw [List.take_left'] at ht
 ·refine ⟨css.take xs.length,ht,?_,?_⟩
  ·rw [← h1.flat_take,List.length_take,h2,List.length_append];exact Nat.min_eq_left (Nat.mul_le_mul_right _ (by omega))
  ·rcases h3 with ⟨h4,h5⟩|⟨b,cap,cur,h4,h5,h6,h7,h8,h9⟩
   ·cases h4
    simp at h5
    exact .inl ⟨by rw [h5.1];rfl,by rw [h5.1];rfl⟩
   ·cases h4
    refine .inr ⟨b,c,cur,rfl,h5,?_,h7,h8,?_⟩
    ·rw [List.length_append] at h6;omega
    ·rw [← h1.flat_take,← h9,List.take_take,List.length_append,Nat.min_eq_left (Nat.mul_le_mul_right _ (by omega))]
 ·rfl
theorem Two.own {α:Type} {T:Rp α} {e:TypeId} {v u:Value} {xs ys:List α} {h:Fr} (x:Two T e v xs u ys h):∃ h' :Fr,h'.sub h∧OwnP T e v xs h' :=by
 rcases x with ⟨a,c,rfl,rfl,x⟩|⟨_,_,_,_,s2,_,_,_,_,t1,_,y,_⟩
 ·exact ⟨h,Fr.sub_refl _,x.take rfl⟩
 ·exact ⟨_,Fr.sub_trans t1 s2,y⟩
theorem Two.arr {α:Type} {T:Rp α} {e:TypeId} {v u:Value} {xs ys:List α} {h:Fr} (x:Two T e v xs u ys h):Arr T h v xs∧Arr T h u (xs++ys):=by
 rcases x with ⟨a,c,rfl,rfl,x⟩|⟨_,_,_,s1,s2,x,_,_,_,t1,_,y,_⟩
 ·exact ⟨(x.take rfl).arr,x.arr⟩
 ·exact ⟨y.arr.mono (Fr.sub_trans t1 s2),x.arr.mono s1⟩
theorem Two.shape {α:Type} {T:Rp α} {e:TypeId} {v u:Value} {xs ys:List α} {h:Fr} (x:Two T e v xs u ys h):∃ a c,u=.slice a (xs.length+ys.length) c:=by
 obtain ⟨a,c,h⟩:=x.arr.2.shape;exact ⟨a,c,by simpa using h⟩
theorem DoesE.appendTwo {α:Type} {T:Rp α} {t e by_:Nat} {z:List Value} {x y:Operand} {v u q:Value} {xs ys zs:List α} (hT:T.Pure) (ht:P.underlying t=some (.slice e)) (he:elemIs P e T.k by_ z) (hk:0<T.k) (hx:ev σ x=some u) (hy:ev σ y=some q)
  (hs:Sel η (Two T e v xs u ys) ζ) (hu:Arr T g.h q zs) (hb:(xs.length+ys.length+zs.length)*by_≤140737488355328) (h63:xs.length+ys.length+zs.length≤9223372036854775807) :
  DoesE P (.call ⟨.builtin .append,#[x,y],#[t,t]⟩) σ g η fun v' η' =>∃ a c,v' =.slice a (xs.length+ys.length+zs.length) c∧η' =Two T e v xs v' (ys++zs)::ζ:=by
 intro o ρ w h1 h2 h3
 have hw:=h3.sel hs;obtain ⟨p1,p2,p3,K,hd,s1,s2,k1,k2,kd,t1,t2,htwo,hr⟩:=hw;obtain ⟨dss,hda,hsl⟩:=hu;have fin:∀ {w' :World} {v' :Value},Holds w' g (Two T e v xs v' (ys++zs)::ζ)→∃ a c,v' =.slice a (xs.length+ys.length+zs.length) c:=by
  intro w' v' hh
  obtain ⟨_,_,_,_,_,_,_,_,_,_,_,_,hA,_⟩:=hh;obtain ⟨a,c,h⟩:=hA.shape;exact ⟨a,c,by rw [h];simp [Nat.add_assoc]⟩
 rcases htwo with ⟨a,c,rfl,rfl,⟨css,ha,hown⟩⟩|⟨m1,m2,md,r1,r2,⟨css,ha,hown⟩,m3,m4,md',r3,r4,hv,_⟩
 ·have hw' :Holds w g (Own (.slice a (xs.length+ys.length) c) T.k e (xs++ys).length css.flatten::ζ):=⟨p1,p2,p3,K,hd,s1,s2,k1,k2,kd,t1,t2,hown,hr⟩
  obtain ⟨v',w',η',hη,hrun,hh⟩:=DoesE.append2 (g:=g) ht he hk hx hy .here hsl (All2.one hda) (by rw [List.length_append];exact hb) (by rw [List.length_append];exact h63) o ρ w h1 h2 hw'
  rcases hη with ⟨rfl,a',cap,hv,rfl,hcap⟩|rfl
  ·have hh' :Holds w' g (Two T e (.slice a xs.length c) xs (.slice a' ((xs++ys).length+zs.length) cap) (ys++zs)::ζ):=hh.imp fun _=>Sat.cons_imp (fun m q=>.inl ⟨a,c,rfl,by injection hv with h8 h9 h10;subst h8 h10;simp [Nat.add_assoc],by
    rw [← List.append_assoc];exact OwnP.of (css:=css++dss) (ha.append (hda.imp fun _ _ q=>hT _ _ _ q)) (by simp [Nat.add_assoc]) (by simp) rfl m q⟩) fun _ q=>q
   exact ⟨_,w',_,⟨a',cap,by simp,rfl⟩,hrun,hh'⟩
  ·have hh' :Holds w' g (Two T e (.slice a xs.length c) xs v' (ys++zs)::ζ):=by
    refine hh.imp fun m hm=>?_;obtain ⟨n1,n2,nd,u1,u2,q1,n3,n4,nd',u3,u4,q2,q3⟩:=hm;refine ⟨n1.add n3,n4,Fr.disj_add (Fr.disj_sub nd (Fr.sub_refl _) u4) nd',Fr.add_sub u1 (Fr.sub_trans u3 u2),Fr.sub_trans u4 u2,.inr ?_,q3⟩;refine ⟨n1,n3,Fr.disj_sub nd (Fr.sub_refl _) u3,Fr.sub_add_left _ _,Fr.sub_add_right (Fr.disj_sub nd (Fr.sub_refl _) u3),?_,n3,Fr.emp,Fr.disj_symm (Fr.emp_disj _),Fr.sub_refl _,Fr.emp_sub _,?_,trivial⟩
    ·rw [← List.append_assoc];exact OwnP.of (css:=css++dss) (ha.append (hda.imp fun _ _ q=>hT _ _ _ q)) (by simp [Nat.add_assoc]) (by simp) rfl _ q1
    ·exact OwnP.take rfl (ys:=ys) (m:=xs.length+ys.length) ⟨css,ha,q2⟩
   obtain ⟨a',c',hv'⟩:=fin hh';exact ⟨v',w',_,⟨a',c',hv',rfl⟩,hrun,hh'⟩
 ·have hw' :Holds w g (Own u T.k e (xs++ys).length css.flatten::OwnP T e v xs::ζ) :=
   ⟨p1,p2,p3,K,hd,s1,s2,m1,m3.add k2,Fr.disj_add_right (Fr.disj_sub md (Fr.sub_refl _) r3) (Fr.disj_sub kd r1 (Fr.sub_refl _)),Fr.sub_trans r1 t1,Fr.add_sub (Fr.sub_trans r3 (Fr.sub_trans r2 t1)) t2,hown,
    m3,k2,Fr.disj_sub kd (Fr.sub_trans r3 r2) (Fr.sub_refl _),Fr.sub_add_left _ _,Fr.sub_add_right (Fr.disj_sub kd (Fr.sub_trans r3 r2) (Fr.sub_refl _)),hv,hr⟩
  obtain ⟨v',w',η',hη,hrun,hh⟩:=DoesE.append (g:=g) ht he hk hx hy .here hsl (All2.one hda) (by rw [List.length_append];exact hb) (by rw [List.length_append];exact h63) o ρ w h1 h2 hw';subst hη;have hh' :Holds w' g (Two T e v xs v' (ys++zs)::ζ):=by
   refine hh.imp fun m hm=>?_;obtain ⟨n1,n2,nd,u1,u2,q1,n3,n4,nd',u3,u4,q2,q3⟩:=hm;refine ⟨n1.add n3,n4,Fr.disj_add (Fr.disj_sub nd (Fr.sub_refl _) u4) nd',Fr.add_sub u1 (Fr.sub_trans u3 u2),Fr.sub_trans u4 u2,.inr ?_,q3⟩;refine ⟨n1,n3,Fr.disj_sub nd (Fr.sub_refl _) u3,Fr.sub_add_left _ _,Fr.sub_add_right (Fr.disj_sub nd (Fr.sub_refl _) u3),?_,n3,Fr.emp,Fr.disj_symm (Fr.emp_disj _),Fr.sub_refl _,Fr.emp_sub _,q2,trivial⟩;rw [← List.append_assoc];exact OwnP.of (css:=css++dss) (ha.append (hda.imp fun _ _ q=>hT _ _ _ q)) (by simp [Nat.add_assoc]) (by simp) rfl _ q1
  obtain ⟨a',c',hv'⟩:=fin hh';exact ⟨v',w',_,⟨a',c',hv',rfl⟩,hrun,hh'⟩
end
end Go.Sp
end
end
