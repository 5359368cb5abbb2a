/- Texts of this proof, one behind the other. -/
import Derived.Test.YtojafegjlahajaaGreatDoorQSpKit
import Derived.RangeFuncRecord
import Derived.ChangeArms
import Derived.DataReads
import GoSem.ClaimJoined
import Derived.Laws.Strings2
import Derived.Laws.IdiomRangeMap
import Derived.Laws.Externs
set_option linter.unusedSectionVars false
section
/- Texts of this proof, one behind the other. -/
section
/- Texts of this proof. -/
namespace Go.Sp
theorem Holds.putObj {w:World} {g:Gr} {η:List SProp} {b:Nat} {o:Obj} (o' :Obj) (h:Holds w g (blk b o::η)):Holds (w.putObj b o') g (blk b o' ::η):=by
 have hb:=h.block;have hlt:=(Array.getElem?_eq_some_iff.1 hb).1;exact h.setBlock (World.putObj_heap_same hlt) (fun i hi=>World.putObj_heap_other hi) rfl rfl rfl
def yieldV (l:Nat):Value:=.func (.yield l) #[] #[]
def YCon (P:Program) (l:Nat) (args:Array Value) (r:Fr) (η:List SProp) (Post:Ending→List SProp→Prop):Prop :=
 ∀ g:Gr,r.sub g.h→∀ w,Holds w g η→∃ f tmps assign body,(Instr.yield l args).run P w=.ok (.round l f tmps assign body) w ∧
  RoundIn Fence.wide 0 P l f tmps assign body w fun e w' =>∃ η',Post e η' ∧Holds w' g η'
section ycon
variable {P:Program} {l:Nat} {args:Array Value} {r:Fr} {η:List SProp} {Post:Ending→List SProp→Prop}
theorem YCon.mono {Post' :Ending→List SProp→Prop} (h:YCon P l args r η Post) (hp:∀ e η',Post e η' →Post' e η'):YCon P l args r η Post' :=
 fun g hr w hw=>let ⟨f,t,a,b,h1,h2⟩:=h g hr w hw;⟨f,t,a,b,h1,h2.mono fun _ _ ⟨η',x,y⟩=>⟨η',hp _ _ x,y⟩⟩
theorem YCon.sub {r' :Fr} (h:YCon P l args r η Post) (hs:r.sub r'):YCon P l args r' η Post:=fun g hr w hw=>h g (Fr.sub_trans hs hr) w hw
theorem YCon.frame {ζ:List SProp} (h:YCon P l args r η Post):YCon P l args r (η++ζ) fun e η' =>∃ η₁,Post e η₁∧η' =η₁++ζ :=
 fun g hr w hw=>by
  obtain ⟨k,hk,hd,hw'⟩:=hw.freezeAll;obtain ⟨f,t,a,b,h1,h2⟩:=h (g.add k) (Fr.sub_trans hr (Fr.sub_add_left _ _)) w hw';exact ⟨f,t,a,b,h1,h2.mono fun _ _ ⟨η',x,y⟩=>⟨η' ++ζ,⟨η',x,rfl⟩,y.thawAll hk hd⟩⟩
theorem YCon.perm {η' :List SProp} (p:η'.Perm η) (h:YCon P l args r η Post):YCon P l args r η' Post:=fun g hr w hw=>h g hr w (hw.perm p)
end ycon
theorem run_callYield {P:Program} {ρ:Operand→Value} {o:Oper} {x:Operand} {xs:Array Operand} {ts:Array TypeId} {l:Nat} (ho:o.op=.call ⟨.value x,xs,ts⟩) (hx:ρ x=yieldV l) (w:World) :
  (execOp ρ o).run P w=(Instr.yield l (xs.map ρ)).run P w:=by
 have:(#[]:Array Value)++xs.map ρ=xs.map ρ:=by simp
 simp [execOp,ho,resolve,hx,Deferred.ofValue,invoke,yieldV]
section
variable {ro:Option Nat} {P:Program} {fn:Func} {n:Nat} {R:Ending→World→Prop} {k:List Item} {σ:List (Nat × Value)} {D:List Deferred} {g:Gr} {η ζ θ:List SProp}
 {ops:Array Oper} {i d l:Nat} {ls:List Nat} {f:FuncId} {x y:Operand} {xs:Array Operand} {ts:Array TypeId} {vals:List Value} {K:Value→List SProp→Prop}
theorem O.yield (ho:Fires ops i n σ d (.call ⟨.value x,xs,ts⟩)) (hx:ev σ x=some (yieldV l)) (hv:evs σ xs.toList=some vals) {args:Array Value} (hargs:vals.toArray=args) (con:YCon P l args g.h η (Ret K))
  (h:∀ v η',K v η' →O ro P fn n R ops ls k ((d,v)::σ) D g (η' ++ζ)):O ro P fn n R ops (i::ls) k σ D g (η++ζ):=by
 intro a w hf hd hw
 obtain ⟨o,hi,hdst,hop,hg,hb⟩:=ho.spec;have hm:xs.map a.eval=vals.toArray:=by rw [← evs_spec hf.knows hv,← Array.toList_map]
 obtain ⟨f,tm,as,bd,h1,h2⟩:=(con.frame (ζ:=ζ)) g (Fr.sub_refl _) w hw;have hrun:(execOp a.eval o).run P w=.ok (.round l f tm as bd) w:=by
  rw [run_callYield hop (hf.knows x _ hx) w,hm,hargs];exact h1
 refine O.fire hi (hg a hf) (by rw [hop];intro c hc;cases hc) hrun ?_;rw [Oper.uponIn_round];refine ⟨fun h=>(by cases h),RoundIn.mono h2 fun e w' hh=>?_⟩;obtain ⟨η',⟨η₁,hp,rfl⟩,hw'⟩:=hh
 cases e with
 |returned v =>
  show wpOpsIn (Wd ro) 0 P ops _ ls (a.put o.dst v) w'
  rw [hdst];exact h v η₁ hp _ _ (hf.put hb) hd hw'
 |panicked _=>exact hp.elim
 |outgrown=>exact hp.elim
theorem Sat.pack {ws:List SProp} {A:SProp} {ζ:List SProp} (hA:∀ m,Sat ws m→A m) {m:Fr} (h:Sat (ws++ζ) m):Sat (A::ζ) m:=by
 obtain ⟨h1,h2,d,s1,s2,x,y⟩:=Sat.split h;exact ⟨h1,h2,d,s1,s2,hA _ x,y⟩
theorem Holds.pack {w:World} {ws:List SProp} {A:SProp} (hA:∀ m,Sat ws m→A m) (h:Holds w g (ws++ζ)):Holds w g (A::ζ):=h.imp fun _=>Sat.pack hA
theorem YCon.imp {args:Array Value} {r:Fr} {Post:Ending→List SProp→Prop} (hs:∀ m,Sat η m→Sat ζ m) (h:YCon P l args r ζ Post):YCon P l args r η Post:=fun g hr w hw=>h g hr w (hw.imp hs)
theorem YCon.exi {args:Array Value} {r:Fr} {Post:Ending→List SProp→Prop} {α:Type} {A:α→SProp} (h:∀ x,YCon P l args r (A x::η) Post):YCon P l args r ((fun m=>∃ x,A x m)::η) Post:=fun g hr w hw=>by
 obtain ⟨p,q,rr,k,d,s1,s2,k1,k2,kd,t1,t2,⟨x,hx⟩,y⟩:=hw;exact h x g hr w ⟨p,q,rr,k,d,s1,s2,k1,k2,kd,t1,t2,hx,y⟩
theorem O.yieldSs (ho:Fires ops i n σ d (.call ⟨.value x,xs,ts⟩)) (hx:ev σ x=some (yieldV l)) (hv:evs σ xs.toList=some vals) {args:Array Value} (hargs:vals.toArray=args) {bs:List SProp} (hb:Sels η bs ζ) (con:YCon P l args g.h bs (Ret K))
  (h:∀ v η',K v η' →O ro P fn n R ops ls k ((d,v)::σ) D g (η' ++ζ)):O ro P fn n R ops (i::ls) k σ D g η :=
 fun a w hf hd hw=>O.yield ho hx hv hargs con h a w hf hd (hw.perm hb.perm)
theorem S.beginRound {L:Loop} (hs:Sel η (blk l (.loop L)) ζ) (hr:L.state=.ready) (h:S (some l) P fn n R k σ D g (blk l (.loop { L with state:=.busy })::ζ)):S (some l) P fn n R (.beginRound::k) σ D g η:=by
 intro a w hf hd hw b cs hb hfn
 have hw1:=hw.sel hs;obtain ⟨e,a',w',q,r⟩:=h a _ hf hd (hw1.putObj (.loop { L with state:=.busy })) b cs hb hfn;exact ⟨e,a',w',q,.of_steps (.one (fenced_wide P _) (stepR_beginRound hb (run_beginRound hw1.block hr))) r⟩
theorem S.roundEnd {L:Loop} (hs:Sel η (blk l (.loop L)) ζ) (h:∀ w,Holds w g (blk l (.loop { L with state:=.ready,pending:=none })::ζ)→R (.returned (.bool true)) w):S (some l) P fn n R [] σ D g η:=by
 intro a w hf hd hw
 have hw1:=hw.sel hs;exact .nil ⟨_,_,run_endRound none hw1.block,h _ (hw1.putObj _)⟩
def under:List Nat→List Value→List (Nat × Value)→List (Nat × Value)
 |p::ps,v::vs,σ=>under ps vs ((p,v)::σ)
 |_,_,σ=>σ
theorem fits_params:∀ (ps:List Nat) (vs:List Value) (tm:Array Value) (σ:List (Nat × Value)),(∀ p∈ps,Nat.blt p n=true)→Fits { tmps:=tm,defers:=[] } n σ →
  Fits { tmps:=(ps.zip vs).foldl (fun tmps (x:Nat × Value)=>tmps.setIfInBounds x.1 x.2) tm,defers:=[] } n (under ps vs σ)
 |[],_,_,_,_,h=>h
 |_::_,[],_,_,_,h=>h
 |p::ps,v::vs,tm,σ,hb,h=>by
  have:=h.put (v:=v) (hb p (List.mem_cons_self ..));exact fits_params ps vs _ _ (fun q hq=>hb q (List.mem_cons_of_mem _ hq)) this
theorem YCon.of {L:Loop} {args:Array Value} {r:Fr} {η:List SProp} {Post:Ending→List SProp→Prop} (vs:List Value) (ps:List Nat) (ha:args=vs.toArray) (hps:L.params=ps.toArray) (hln:vs.length=ps.length)
  (hb:ps.all (fun p=>Nat.blt p n)=true) (hfn:∃ f,P.funcs[L.fn]?=some f) (hfit:Fits { tmps:=L.tmps,defers:=[] } n σ)
  (h:∀ g:Gr,r.sub g.h→∀ R:Ending→World→Prop,(∀ e η' w',Post e η' →Holds w' g η' →R e w')→S (some l) P fn n R [.code L.assign,.beginRound,.code L.body] (under ps vs σ) [] g (blk l (.loop L)::η)) :
  YCon P l args r (blk l (.loop L)::η) Post:=by
 intro g hr w hw
 subst ha;refine ⟨_,_,_,_,run_yield hw.block (by simp [hps,hln]),round_of_runs (fn:=fn) hfn ?_⟩;refine h g hr _ (fun e η' w' hp hh=>⟨η',hp,hh⟩) _ w ?_ rfl hw;have:=fits_params ps vs L.tmps σ (fun p hp=>List.all_eq_true.1 hb p hp) hfit;have e:L.params.zip vs.toArray=(ps.zip vs).toArray:=by rw [hps];simp
 rw [e,List.foldl_toArray];exact this
def loopRec (fid:FuncId) (tm:Array Value) (ps:Array Tmp) (assign body:Code) (D0:Nat):Loop:={ state:=.ready,pending:=none,fn:=fid,tmps:=tm,params:=ps,assign,body,defers:=D0 }
theorem S.rangeFunc {first cap:Array Value} {ps:Array Tmp} {assign body:Code} {J:Option Code→List SProp→Prop} (hx:ev σ x=some (.func (.func f) first cap)) (hc:callable P f=true)
  (con:∀ (l D0 fid:Nat) (tm:Array Value),(∃ fn',P.funcs[fid]?=some fn')→Fits { tmps:=tm,defers:=[] } n σ →
   Con P f (first++#[yieldV l]++cap) g.h (blk l (.loop (loopRec fid tm ps assign body D0))::η) (Ret fun _ η' =>∃ L ζ,L.state≠.busy∧J L.pending ζ∧η' =blk l (.loop L)::ζ))
  (h:∀ D0 jump ζ,J jump ζ→S none P fn n R ((jump.map Item.code).toList++k) σ (⟨.collected D0,#[]⟩::D) g (blk D0 (.deferred (some []))::ζ)) :
  S none P fn n R (.code (.rangeFunc x ps assign body)::k) σ D g η:=by
 intro a w hf hd hw b cs hb hfn
 have he:=run_enterLoop_outer (P:=P) (w:=w) b.fn a.tmps ps assign body;rw [← hb] at he;have hres:(resolve a.eval (rangeCall x (w.heap.size+1)) 0).run P ((w.alloc (.deferred (some []))).alloc (.loop (loopRec b.fn a.tmps ps assign body w.heap.size))) =
   .ok ⟨.fn (.func f) cap,first++#[yieldV (w.heap.size+1)]⟩ ((w.alloc (.deferred (some []))).alloc (.loop (loopRec b.fn a.tmps ps assign body w.heap.size))):=by
  have hce:∀ v,a.eval (.const v)=v:=fun _=>rfl
  simp [rangeCall,resolve,hf.eval hx,Deferred.ofValue,yieldV,hce]
 have hinv:(invoke (Target.fn (.func f) cap) (first++#[yieldV (w.heap.size+1)])).run P ((w.alloc (.deferred (some []))).alloc (.loop (loopRec b.fn a.tmps ps assign body w.heap.size))) =
   .ok (.enter f (first++#[yieldV (w.heap.size+1)]++cap)) ((w.alloc (.deferred (some []))).alloc (.loop (loopRec b.fn a.tmps ps assign body w.heap.size))):=by
  simp only [invoke];exact run_callFunc hc _ _
 have henter:=stepR_rangeFunc (P:=P) (b:=b) (a:=a) (k:=k) (cs:=cs) (w:=w) he hres hinv;have hw1:=(hw.alloc (.deferred (some []))).alloc (.loop (loopRec b.fn a.tmps ps assign body w.heap.size));have hsz:(w.alloc (.deferred (some []))).heap.size=w.heap.size+1:=by simp
 rw [hsz] at hw1;have hc1:=(con (w.heap.size+1) w.heap.size b.fn a.tmps hfn ⟨hf.1,hf.2⟩).frame (ζ:=[blk w.heap.size (.deferred (some []))]) g (Fr.sub_refl _) _
  (hw1.perm (List.Perm.cons _ (List.perm_append_comm (l₁:=[_]) (l₂:=η))))
 obtain ⟨e,w₃,fr,hR,hsteps,hfn',hleave⟩:=hc1 (b.atR { a with defers:=[⟨.collected w.heap.size,#[]⟩]++a.defers } (.inRangeFunc (w.heap.size+1)::k)::cs);obtain ⟨η',⟨η₁,hp,rfl⟩,hw3⟩:=hR
 cases e with
 |panicked _=>exact hp.elim
 |outgrown=>exact hp.elim
 |returned v =>
  obtain ⟨L,ζ,hbusy,hJ,rfl⟩:=hp;have hw4:=hw3.putObj (o:=.loop L) (.loop { L with state:=.exhausted });have hend:=run_endLoop (P:=P) hw3.block hbusy;have hw5:Holds (w₃.putObj (w.heap.size+1) (.loop { L with state:=.exhausted })) g (blk w.heap.size (.deferred (some []))::ζ):=(Holds.drop hw4).perm List.perm_append_comm;have sback:StepsIn (Machine.fenced P Fence.wide) P (lone (b.atR a (.code (.rangeFunc x ps assign body)::k)) cs w)
    (lone (b.atR { a with defers:=[⟨.collected w.heap.size,#[]⟩]++a.defers } ((L.pending.map Item.code).toList++k)) cs (w₃.putObj (w.heap.size+1) (.loop { L with state:=.exhausted }))):=by
   refine .head (fenced_wide P _) henter (StepsIn.trans (stepsIn_wide.2 hsteps) (.head (fenced_wide P _) ?_ (.one (fenced_wide P _) (stepR_endRangeFunc hend))));rw [← finish_atR_inRangeFunc (w.heap.size+1) v];exact step_leave_returned hleave
  obtain ⟨e,a',w',q,r⟩:=h w.heap.size L.pending ζ hJ { a with defers:=[⟨.collected w.heap.size,#[]⟩]++a.defers } _ ⟨hf.1,hf.2⟩ (by simp [hd]) hw5 b cs hb hfn;exact ⟨e,a',w',q,.of_steps sback r⟩
inductive Marks:List Deferred→List SProp→List SProp→Prop
 |nil {η:List SProp}:Marks [] η η
 |cons {D0:Nat} {D:List Deferred} {η ζ θ:List SProp} (hs:Sel η (blk D0 (.deferred (some []))) θ) (h:Marks D θ ζ):Marks (⟨.collected D0,#[]⟩::D) η ζ
theorem Marks.lv {tmps:Array Value} (m:Marks D η ζ):∀ {w:World},Holds w g η→(∀ w',Holds w' g ζ→Leaves P fn tmps R [] .returning w')→Lv P fn tmps R D .returning w:=by
 induction m with
 |nil=>exact fun hw h=>h _ hw
 |cons hs m ih =>
  intro w hw h
  have hw1:=hw.sel hs;exact ⟨by simp,.inl ⟨_,_,rfl,run_takeDeferred hw1.block,ih (hw1.putObj _).drop h⟩⟩
def resRun (tmps:Array Value):ResultVar→Sem Value
 |.tmp t=>pure (tmps.getD t undef)
 |.cell a t=>do loadVar t (← asAddr (tmps.getD a undef))
def RV (P:Program) (n:Nat) (σ:List (Nat × Value)) (g:Gr) (ζ:List SProp) (r:ResultVar) (v:Value):Prop:=∀ a w,Fits a n σ→Holds w g ζ→(resRun a.tmps r).run P w=.ok v w
theorem RV.tmp {t:Nat} {v:Value} (hl:look σ t=some v):RV P n σ g ζ (.tmp t) v:=fun a w hf hw=>by
 have:=hf.2 t v hl
 simp [resRun,Array.getD_eq_getD_getElem?,this]
theorem results_eq (tmps:Array Value):results fn tmps=(do
  let vs ← fn.results.mapM (resRun tmps)
  pure (if h:vs.size=1 then vs[0] else .tuple vs)):=rfl
theorem results1 {a:Act} {w:World} {r:ResultVar} {v:Value} (hr:fn.results=#[r]) (h:RV P n σ g ζ r v) (hf:Fits a n σ) (hw:Holds w g ζ):(results fn a.tmps).run P w=.ok v w:=by
 rw [results_eq];simp [hr,Sem.run_bind,h a w hf hw,Result.andThen]
theorem results2 {a:Act} {w:World} {r s:ResultVar} {v u:Value} (hr:fn.results=#[r,s]) (h:RV P n σ g ζ r v) (h' :RV P n σ g ζ s u) (hf:Fits a n σ) (hw:Holds w g ζ):(results fn a.tmps).run P w=.ok (.tuple #[v,u]) w:=by
 rw [results_eq];simp [hr,Sem.run_bind,h a w hf hw,h' a w hf hw,Result.andThen]
theorem results0 {a:Act} {w:World} (hr:fn.results=#[]):(results fn a.tmps).run P w=.ok (.tuple #[]) w:=by
 rw [results_eq];simp [hr]
def Off (todo:List Item):Prop:=todo=[]∨∃ k,todo=.code .ret::k
theorem S.off {todo:List Item} (ht:Off todo) (h:∀ a w,Fits a n σ→a.defers=D→Holds w g η→Lv P fn a.tmps R D .returning w):S none P fn n R todo σ D g η:=by
 rcases ht with rfl|⟨k,rfl⟩
 ·intro a w hf hd hw;refine .nil ?_;show Lv P fn a.tmps R a.defers .returning w;rw [hd];exact h a w hf hd hw
 ·intro a w hf hd hw;refine .ret ?_;show Lv P fn a.tmps R a.defers .returning w;rw [hd];exact h a w hf hd hw
theorem S.retM0 {todo:List Item} (ht:Off todo) (m:Marks D η ζ) (hr:fn.results=#[]) (h:∀ w,Holds w g ζ→R (.returned (.tuple #[])) w):S none P fn n R todo σ D g η :=
 S.off ht fun _ _ _ _ hw=>m.lv hw fun w' hw' =>⟨_,results0 hr,h w' hw'⟩
theorem S.retM1 {todo:List Item} {r1:ResultVar} {v1:Value} (ht:Off todo) (m:Marks D η ζ) (hr:fn.results=#[r1]) (h1:RV P n σ g ζ r1 v1) (h:∀ w,Holds w g ζ→R (.returned v1) w):S none P fn n R todo σ D g η :=
 S.off ht fun _ _ hf _ hw=>m.lv hw fun w' hw' =>⟨_,results1 hr h1 hf hw',h w' hw'⟩
theorem S.retM2 {todo:List Item} {r1 r2:ResultVar} {v1 v2:Value} (ht:Off todo) (m:Marks D η ζ) (hr:fn.results=#[r1,r2]) (h1:RV P n σ g ζ r1 v1) (h2:RV P n σ g ζ r2 v2) (h:∀ w,Holds w g ζ→R (.returned (.tuple #[v1,v2])) w):S none P fn n R todo σ D g η :=
 S.off ht fun _ _ hf _ hw=>m.lv hw fun w' hw' =>⟨_,results2 hr h1 h2 hf hw',h w' hw'⟩
theorem S.objIs {todo:List Item} {b:Nat} {T:TypeId} {cs cs' :List Value} (s:Sel η (obj b T cs) ζ) (e:cs=cs') (h:S ro P fn n R todo σ D g (obj b T cs' ::ζ)):S ro P fn n R todo σ D g η:=S.sel s (e ▸ h)
end
end Go.Sp
end
section
/- Texts of this proof, one behind the other. -/
section
/- Texts of this proof, one behind the other. -/
section
/- Texts of this proof. -/
namespace Go.Sp
open Go.ChangeShapes
theorem fr_cell (w:World) (a:Addr):Fr.cell w.fr a=w.cell? a:=by
 unfold Fr.cell World.cell? World.fr
 cases w.heap[a.block]? with
 |none=>rfl
 |some o=>cases o<;>rfl
def Rp.unit:Rp Unit:={ k:=0,rel:=fun _ cs _=>cs=[],len:=fun h=>by rw [h];rfl,mono:=fun _ h=>h,one:=fun h c hc=>by subst h;simp at hc }
def Rp.prod {α β:Type} (T:Rp α) (U:Rp β):Rp (α × β) :=
 {k:=T.k+U.k,rel:=fun h cs x=>∃ c1 c2,cs=c1++c2∧T.rel h c1 x.1∧U.rel h c2 x.2,len:=fun ⟨c1,c2,h,a,b⟩=>by rw [h,List.length_append,T.len a,U.len b]
  mono:=fun s ⟨c1,c2,h,a,b⟩=>⟨c1,c2,h,T.mono s a,U.mono s b⟩
  one:=fun ⟨c1,c2,h,a,b⟩ c hc=>by
   subst h
   rcases List.mem_append.1 hc with x|x
   ·exact T.one a c x
   ·exact U.one b c x }
end Go.Sp
end
section
/- Texts of this proof. -/
namespace Go.Sp
structure Gp (α:Type) where
 rp:Rp α
 own:List Value→α→SProp
 rel:∀ {cs:List Value} {a:α} {m:Fr},own cs a m→rp.rel m cs a
theorem All2.len2 {α β:Type} {R:β→α→Prop}:∀ {bs:List β} {as:List α},All2 R bs as→bs.length=as.length
 |[],[],_=>rfl
 |[],_::_,h=>h.elim
 |_::_,[],h=>h.elim
 |_::_,_::_,h=>congrArg Nat.succ (All2.len2 h.2)
theorem all2_cells {k:Nat} {h:Fr}:∀ {cs:List (List Value)} {ds:List (List Value)},All2 ((Rp.cells k).rel h) cs ds→cs=ds
 |[],[],_=>rfl
 |[],_::_,h=>h.elim
 |_::_,[],h=>h.elim
 |_::_,_::_,h=>by rw [h.1.1,all2_cells h.2]
theorem Arr.ofCells {α:Type} {T:Rp α} {k:Nat} {h:Fr} {v:Value} {css:List (List Value)} {xs:List α} (h1:Arr (Rp.cells k) h v css) (h2:All2 (T.rel h) css xs) (hk:k=T.k):Arr T h v xs:=by
 obtain ⟨ds,p,q⟩:=h1;obtain rfl:=all2_cells p;subst hk;exact ⟨ds,h2,by rw [← h2.len2];exact q⟩
def ListP {α:Type} (G:Gp α) (e:TypeId) (v:Value) (xs:List α):SProp:=fun m=>∃ css,Sat [OwnP (Rp.cells G.rp.k) e v css,EachP G.own css xs] m
theorem ListP.arr {α:Type} {G:Gp α} {e:TypeId} {v:Value} {xs:List α} {m:Fr}:ListP G e v xs m→Arr G.rp m v xs:=by
 rintro ⟨css,h1,h2,_,s1,s2,⟨ds,p,q⟩,h3,_,_,t,_,y,_⟩;have hd:=all2_cells p;have hy:=EachP.all2 (R:=fun cs a=>G.rp.rel m cs a) (k:=m) (fun b a m' z s=>G.rp.mono s (G.rel z)) y (Fr.sub_trans t s2);refine ⟨css,hy,?_⟩;rw [← hy.len2];subst hd;exact (q.sl).mono s1
def Gp.pure {α:Type} (T:Rp α):Gp α:={ rp:=T,own:=fun cs a _=>T.rel Fr.emp cs a,rel:=fun h=>T.mono (Fr.emp_sub _) h }
def Gp.row {α:Type} (T:Rp α) (e:TypeId):Gp (List α):={ rp:=Rp.slice T,own:=fun cs xs m=>∃ v,cs=[v]∧OwnP T e v xs m,rel:=fun ⟨v,h,x⟩=>⟨v,h,x.arr⟩ }
def Gp.list {α:Type} (G:Gp α) (e:TypeId):Gp (List α):={ rp:=Rp.slice G.rp,own:=fun cs xs m=>∃ v,cs=[v]∧ListP G e v xs m,rel:=fun ⟨v,h,x⟩=>⟨v,h,x.arr⟩ }
def Gp.prod {α β:Type} (A:Gp α) (B:Gp β):Gp (α × β) :=
 {rp:=Rp.prod A.rp B.rp,own:=fun cs x m=>∃ c d,cs=c++d∧Sat [A.own c x.1,B.own d x.2] m
  rel:=fun ⟨c,d,h,z⟩=>by
   obtain ⟨h1,h2,_,s1,s2,p,q⟩:=Sat.two.1 z;obtain ⟨h3,t,u⟩:=q;exact ⟨c,d,h,A.rp.mono s1 (A.rel p),B.rp.mono (Fr.sub_trans t s2) (B.rel u)⟩ }
def Gp.unit:Gp Unit:={ rp:=Rp.unit,own:=fun cs _ _=>cs=[],rel:=fun h=>h }
theorem Gp.own_pure_prod {α β:Type} {T:Rp α} {B:Gp β} {c d:List Value} {x:α} {y:β} {m:Fr} (h:T.rel Fr.emp c x) (h2:B.own d y m):(Gp.prod (Gp.pure T) B).own (c++d) (x,y) m :=
 ⟨c,d,rfl,Fr.emp,m,Fr.emp_disj _,Fr.emp_sub _,Fr.sub_refl _,h,m,Fr.emp,Fr.disj_symm (Fr.emp_disj _),Fr.sub_refl _,Fr.emp_sub _,h2,trivial⟩
section
variable {ro:Option Nat} {P:Program} {fn:Func} {n:Nat} {R:Ending→World→Prop} {k:List Item} {σ:List (Nat × Value)} {D:List Deferred} {g:Gr} {η ζ θ:List SProp} {ops:Array Oper} {L:List Nat} {todo:List Item}
 {α:Type} {G:Gp α} {e:TypeId} {v:Value} {xs:List α}
theorem sat_listNil {m:Fr} (h:Sat η m):Sat (ListP G e (.slice none 0 0) []::η) m:=by
 refine ⟨Fr.emp,m,Fr.emp_disj _,Fr.emp_sub _,Fr.sub_refl _,⟨[],Fr.emp,Fr.emp,Fr.emp_disj _,Fr.emp_sub _,Fr.emp_sub _,?_,Fr.emp,Fr.emp,Fr.emp_disj _,Fr.emp_sub _,Fr.emp_sub _,trivial,trivial⟩,h⟩;exact ownP_nil _
theorem S.listNil (G:Gp α) (e:TypeId) (h:S ro P fn n R todo σ D g (ListP G e (.slice none 0 0) []::η)):S ro P fn n R todo σ D g η:=S.imp' (fun _=>sat_listNil) h
theorem S.listOpen {k' :Nat} (hk:G.rp.k=k') (s:Sel η (ListP G e v xs) ζ) (h:∀ css,css.length=xs.length→S ro P fn n R todo σ D g (OwnP (Rp.cells k') e v css::EachP G.own css xs::ζ)):S ro P fn n R todo σ D g η:=by
 subst hk;exact S.sel s (S.exi (A:=fun css m=>Sat [OwnP (Rp.cells G.rp.k) e v css,EachP G.own css xs] m) fun css =>
  S.entail (fun _ x=>x) (S.factS (B:=EachP G.own css xs) (.there .here) (p:=css.length=xs.length) (fun _ x=>x.len) fun hl=>h css hl))
theorem sat_list {k' :Nat} (hk:G.rp.k=k') {css:List (List Value)} (s1:Sel η (OwnP (Rp.cells k') e v css) ζ) (s2:Sel ζ (EachP G.own css xs) θ) {m:Fr} (h:Sat η m):Sat (ListP G e v xs::θ) m:=by
 subst hk;exact Sat.join2 (A:=OwnP (Rp.cells G.rp.k) e v css) (B:=EachP G.own css xs) (fun _ x=>⟨css,x⟩) (Sat.cons_imp (fun _ y=>y) (fun _ y=>Sat.perm s2.perm y) (Sat.perm s1.perm h))
theorem S.listShut {k' :Nat} (hk:G.rp.k=k') {css:List (List Value)} (s1:Sel η (OwnP (Rp.cells k') e v css) ζ) (s2:Sel ζ (EachP G.own css xs) θ) (h:S ro P fn n R todo σ D g (ListP G e v xs::θ)):S ro P fn n R todo σ D g η :=
 S.imp' (fun _=>sat_list hk s1 s2) h
theorem S.listPut {k' :Nat} (hk:G.rp.k=k') {css:List (List Value)} {cs:List Value} {a:α} {η₁ η₂:List SProp} (s1:Sel η (OwnP (Rp.cells k') e v (css++[cs])) ζ) (s2:Sel ζ (EachP G.own css xs) η₁) (s3:Sel η₁ (G.own cs a) η₂) (h:S ro P fn n R todo σ D g (ListP G e v (xs++[a])::η₂)):S ro P fn n R todo σ D g η :=
 S.sel s1 (S.each (.there s2) (.there s3) (S.listShut hk (.there .here) .here h))
end
theorem OD.loadL {P:Program} {fn:Func} {n:Nat} {R:Ending→World→Prop} {k:List Item} {σ:List (Nat × Value)} {D:List Deferred} {g:Gr} {η:List SProp} {ops:Array Oper} {l:List Nat} {i d:Nat} {t:TypeId} {x:Operand} {v:Value}
  (ho:Fires ops i n σ d (.load t x)) (hd:descOk ops [i] l=true) (hdo:∀ ζ,Does P (.load t x) σ g (η++ζ) v (η++ζ)) (h:OD P fn n R ops k D g l ((d,v)::σ) η):OD P fn n R ops k D g (i::l) σ η :=
 .loudE (K:=fun v' η' =>v' =v∧η' =η) ho rfl hd (fun ζ o ρ w h1 h2 h3=>let ⟨w',a,b⟩:=hdo ζ o ρ w h1 h2 h3;⟨v,w',η++ζ,⟨η,⟨rfl,rfl⟩,rfl⟩,a,b⟩) (by rintro _ _ ⟨rfl,rfl⟩;exact h)
theorem Con.post {P:Program} {f:FuncId} {args:Array Value} {r:Fr} {η:List SProp} {Post Post' :Ending→List SProp→Prop} (h:Con P f args r η Post) (hp:∀ e η',Post e η' →∀ w g,Holds w g η' →∃ η'',Post' e η'' ∧Holds w g η''):Con P f args r η Post' :=
 fun g hr w hw=>(h g hr w hw).mono fun e w' ⟨η',x,y⟩=>hp e η' x w' g y
theorem Ret.imp {K K' :Value→List SProp→Prop} (h:∀ v η,K v η→K' v η):∀ e η,Ret K e η→Ret K' e η
 |.returned v,η,x=>h v η x
 |.panicked _,_,x=>x.elim
 |.outgrown,_,x=>x.elim
theorem Sat.unpack {ws ζ:List SProp} {A:SProp} (hA:∀ m,A m→Sat ws m) {m:Fr} (h:Sat (A::ζ) m):Sat (ws++ζ) m:=by
 obtain ⟨_,_,d,s1,s2,x,y⟩:=h;exact Sat.mono (Fr.add_sub s1 s2) (Sat.append d (hA _ x) y)
theorem Holds.exi {w:World} {g:Gr} {ζ:List SProp} {α:Type} {A:α→SProp} (h:Holds w g ((fun m=>∃ x,A x m)::ζ)):∃ x,Holds w g (A x::ζ):=by
 obtain ⟨p,q,rr,k,d,s1,s2,k1,k2,kd,t1,t2,⟨x,hx⟩,y⟩:=h;exact ⟨x,p,q,rr,k,d,s1,s2,k1,k2,kd,t1,t2,hx,y⟩
end Go.Sp
end
end
section
/- Texts of this proof, one behind the other. -/
section
/- Texts of this proof. -/
namespace Go.Sp
section
variable {ro:Option Nat} {P:Program} {fn:Func} {n:Nat} {R:Ending→World→Prop} {k:List Item} {σ:List (Nat × Value)} {D:List Deferred} {g:Gr} {η:List SProp} {ops:Array Oper} {i d:Nat} {l:List Nat} {t:TypeId} {x:Operand}
theorem str_extract (xs:List UInt8) (a b:Nat):(str xs).extract a b=str ((xs.take b).drop a):=by
 have:=ByteArray.extract_mk xs a b;unfold str;rw [this,List.drop_take]
theorem str_does {xs:List UInt8} {lo hi:Option Operand} {a b:Nat} {kl kh:IntKind} (ht:P.underlying t=some .string) (hx:ev σ x=some (.string (str xs)))
  (hlo:∀ y,lo=some y→ev σ y=some (.int kl (a:Int))) (hlo' :lo=none→a=0) (hhi:∀ y,hi=some y→ev σ y=some (.int kh (b:Int))) (hhi' :hi=none→b=xs.length)
  (hab:a≤b) (hb:b≤xs.length):∀ η,Does P (.slice t x lo hi none) σ g η (.string (str ((xs.take b).drop a))) η:=fun η=>.run fun o ρ w ho hk=>by
 have hsz:=str_size xs;have e1:(a:Int)≤(b:Int):=by omega
 have hex:=str_extract xs a b
 cases lo with
 |none =>
  have:=hlo' rfl;subst this
  cases hi with
  |none=>have:=hhi' rfl;subst this;simp [execOp,ho,hk x _ hx,Instr.sliceAt,run_underlying ht,Instr.slice,Instr.sliceBounds,hsz,hex]
  |some y =>
   simp [execOp,ho,hk x _ hx,hk y _ (hhi y rfl),Instr.sliceAt,run_underlying ht,Instr.slice,Instr.sliceBounds,Instr.sliceBound,asIntOf,hsz,hb,hex]
 |some z =>
  cases hi with
  |none=>have:=hhi' rfl;subst this;simp [execOp,ho,hk x _ hx,hk z _ (hlo z rfl),Instr.sliceAt,run_underlying ht,Instr.slice,Instr.sliceBounds,Instr.sliceBound,asIntOf,hsz,hab,hex]
  |some y =>
   simp [execOp,ho,hk x _ hx,hk z _ (hlo z rfl),hk y _ (hhi y rfl),Instr.sliceAt,run_underlying ht,Instr.slice,Instr.sliceBounds,Instr.sliceBound,asIntOf,hsz,hab,hb,hex]
theorem O.strTo {xs:List UInt8} {kb:IntKind} {zb:Int} {b:Nat} {y:Operand} (ho:Fires ops i n σ d (.slice t x none (some y) none)) (ht:P.underlying t=some .string) (hx:ev σ x=some (.string (str xs))) (hy:ev σ y=some (.int kb zb)) (hz:zb=(b:Int)) (hb:b≤xs.length)
  (h:O ro P fn n R ops l k ((d,.string (str (xs.take b)))::σ) D g η):O ro P fn n R ops (i::l) k σ D g η:=by
 subst hz;have:=str_does (P:=P) (σ:=σ) (g:=g) (kl:=.i64) (kh:=kb) (a:=0) (b:=b) ht hx (lo:=none) (hi:=some y) (fun _ h=>nomatch h) (fun _=>rfl) (fun _ h=>by cases h;exact hy) (fun h=>nomatch h) (Nat.zero_le _) hb η;exact O.op ho this h
theorem O.strFrom {xs:List UInt8} {ka:IntKind} {za:Int} {a:Nat} {y:Operand} (ho:Fires ops i n σ d (.slice t x (some y) none none)) (ht:P.underlying t=some .string) (hx:ev σ x=some (.string (str xs))) (hy:ev σ y=some (.int ka za)) (hz:za=(a:Int)) (ha:a≤xs.length)
  (h:O ro P fn n R ops l k ((d,.string (str (xs.drop a)))::σ) D g η):O ro P fn n R ops (i::l) k σ D g η:=by
 subst hz;have:=str_does (P:=P) (σ:=σ) (g:=g) (kl:=ka) (kh:=.i64) (a:=a) (b:=xs.length) ht hx (lo:=some y) (hi:=none) (fun _ h=>by cases h;exact hy) (fun h=>nomatch h) (fun _ h=>nomatch h) (fun _=>rfl) ha (Nat.le_refl _) η;rw [List.take_length] at this;exact O.op ho this h
end
end Go.Sp
end
section
/- Texts of this proof, one behind the other. -/
section
/- Texts of this proof. -/
namespace Go.Sp
section marks
variable {α:Type} (f:Int→Int→α)
def mkL (k n:Nat):List α:=(List.range n).map fun (i:Nat)=>f (k:Int) (i:Int)
@[simp] theorem mkL_length (k n:Nat):(mkL f k n).length=n:=by simp [mkL]
def mkX (k n i:Nat):List α:=(List.range i).map fun (q:Nat)=>f (k:Int) ((n:Int)+(q:Int))
@[simp] theorem mkX_length (k n i:Nat):(mkX f k n i).length=i:=by simp [mkX]
def mkM (j n i:Nat):List α:=(List.range i).map fun (q:Nat)=>f ((j:Int)+(n:Int)) (q:Int)
@[simp] theorem mkM_length (j n i:Nat):(mkM f j n i).length=i:=by simp [mkM]
def mkAll (ns:List Nat) (k:Nat):List (List α):=(List.range k).map fun j=>mkL f j (ns[j]?.getD 0)
@[simp] theorem mkAll_length (ns:List Nat) (k:Nat):(mkAll f ns k).length=k:=by simp [mkAll]
end marks
section
variable {ro:Option Nat} {P:Program} {fn:Func} {n:Nat} {R:Ending→World→Prop} {todo:List Item} {σ:List (Nat × Value)} {D:List Deferred} {g:Gr} {η ζ θ ξ:List SProp} {α:Type} {T:Rp α} {K:Nat} {e:TypeId} {v u:Value} {xs ys:List α}
end
theorem EachP.mono {β α:Type} {A:β→α→SProp} {m k:Fr} (s:m.sub k):∀ {bs:List β} {as:List α},EachP A bs as m→EachP A bs as k
 |[],[],_=>trivial
 |[],_::_,h=>h.elim
 |_::_,[],h=>h.elim
 |_::_,_::_,h=>Sat.mono s h
theorem EachP.app {β α:Type} {A:β→α→SProp}:∀ {bs:List β} {as:List α} {bs' :List β} {as' :List α} {m:Fr},Sat [EachP A bs as,EachP A bs' as'] m→EachP A (bs++bs') (as++as') m
 |[],[],bs',as',m,h=>by
  obtain ⟨_,_,_,_,s2,_,h3,_,_,t,_,y,_⟩:=h;exact EachP.mono (Fr.sub_trans t s2) y
 |[],_::_,_,_,_,h=>by obtain ⟨_,_,_,_,_,x,_⟩:=h;exact x.elim
 |_::_,[],_,_,_,h=>by obtain ⟨_,_,_,_,_,x,_⟩:=h;exact x.elim
 |b::bs,a::as,bs',as',m,h=>by
  obtain ⟨h1,h2,d,s1,s2,x,y⟩:=h;have x' :Sat [A b a,EachP A bs as] h1:=x;obtain ⟨k1,k2,kd,t1,t2,p,k3,k4,kd',u1,u2,q,_⟩:=x'
  show Sat [A b a,EachP A (bs++bs') (as++as')] m
  have d1:k3.disj h2:=Fr.disj_sub d (Fr.sub_trans u1 t2) (Fr.sub_refl _);refine ⟨k1,k3.add h2,Fr.disj_add_right (Fr.disj_sub kd (Fr.sub_refl _) u1) (Fr.disj_sub d t1 (Fr.sub_refl _)),Fr.sub_trans t1 s1,Fr.add_sub (Fr.sub_trans (Fr.sub_trans u1 t2) s1) s2,p,k3.add h2,Fr.emp,Fr.disj_symm (Fr.emp_disj _),Fr.sub_refl _,Fr.emp_sub _,?_,trivial⟩;exact EachP.app ⟨k3,h2,d1,Fr.sub_add_left _ _,Fr.sub_add_right d1,q,y⟩
end Go.Sp
end
section
/- Texts of this proof. -/
namespace Go.Sp
theorem Rp.rel.mono {α:Type} {T:Rp α} {h k:Fr} {cs:List Value} {x:α} (r:T.rel h cs x) (s:h.sub k):T.rel k cs x:=T.mono s r
def mks {α:Type} (f:Int→α) (n:Nat):List α:=(List.range n).map fun (i:Nat)=>f (i:Int)
@[simp] theorem mks_length {α:Type} (f:Int→α) (n:Nat):(mks f n).length=n:=by simp [mks]
theorem Gp.mkP {α β:Type} {T:Rp α} {B:Gp β} {c d:List Value} {x:α} {y:β} {W:List SProp} (h:T.rel Fr.emp c x) (hB:∀ m,Sat W m→B.own d y m):∀ m,Sat W m→(Gp.prod (Gp.pure T) B).own (c++d) (x,y) m:=fun m s=>Gp.own_pure_prod h (hB m s)
theorem Gp.mkW {α β:Type} {A:Gp α} {B:Gp β} {c d:List Value} {x:α} {y:β} {w:SProp} {W:List SProp} (hA:∀ m,w m→A.own c x m) (hB:∀ m,Sat W m→B.own d y m):∀ m,Sat (w::W) m→(Gp.prod A B).own (c++d) (x,y) m :=
 fun _ ⟨k1,k2,dj,s1,s2,o,st⟩=>⟨c,d,rfl,k1,k2,dj,s1,s2,hA _ o,k2,Fr.emp,Fr.disj_symm (Fr.emp_disj _),Fr.sub_refl _,Fr.emp_sub _,hB _ st,trivial⟩
end Go.Sp
end
end
end
end
end
section
/- Texts of this proof, one behind the other. -/
section
/- Texts of this proof. -/
set_option linter.unusedVariables false
namespace Go.Sp
structure Tys where
 u8:TypeId
 int:TypeId
 bytes:TypeId
 dot:TypeId
 recd:TypeId
 leaf:TypeId
 stub:TypeId
 node:TypeId
 prf:TypeId
 root:TypeId
 evd:TypeId
 frm:TypeId
 held:TypeId
def byteOf (z:Int):UInt8:=UInt8.ofNat (z % 256).toNat
theorem wrapB (z:Int):Value.int .u8 (IntKind.u8.wrap z)=byteV (byteOf z):=by
 rw [byteV,wrap_u8_eq];have:((byteOf z).toNat:Int)=z % 256:=by simp [byteOf];omega
 rw [this]
def markT (k i:Int):List UInt8:=[35,byteOf k,byteOf (k.fdiv (2 ^ min (8:Int).toNat IntKind.i64.bits)),byteOf (k.fdiv (2 ^ min (16:Int).toNat IntKind.i64.bits)),47,byteOf i,byteOf (i.fdiv (2 ^ min (8:Int).toNat IntKind.i64.bits)),byteOf (i.fdiv (2 ^ min (16:Int).toNat IntKind.i64.bits))]
@[simp] theorem markT_length (k i:Int):(markT k i).length=8:=rfl
abbrev DotT:Type:=Int × Int × Unit
abbrev DotRp:Rp DotT:=Rp.prod Rp.i64 (Rp.prod Rp.i64 (Rp.unit))
theorem DotRp.open {h:Fr} {cs:List Value} {x:DotT} (r:DotRp.rel h cs x):cs=[.int .i64 x.1,.int .i64 x.2.1]∧InI64 x.1∧InI64 x.2.1:=by
 obtain ⟨c0,d0,rfl,r0,r⟩:=r;obtain ⟨c1,d1,rfl,r1,r⟩:=r;obtain rfl:d1=[]:=r;obtain ⟨rfl,h0⟩:=r0;obtain ⟨rfl,h1⟩:=r1;exact ⟨rfl,h0,h1⟩
theorem DotRp.mk {h:Fr} {x0:Int} {x1:Int} (h0:InI64 x0) (h1:InI64 x1):DotRp.rel h [.int .i64 x0,.int .i64 x1] (x0,x1,()) :=
 ⟨[.int .i64 x0],[.int .i64 x1],rfl,⟨rfl,h0⟩,⟨[.int .i64 x1],[],rfl,⟨rfl,h1⟩,rfl⟩⟩
abbrev RecT:Type:=(List UInt8) × Int × Int × (List DotT) × Bool × (List UInt8) × (List UInt8) × Unit
abbrev RecRp:Rp RecT:=Rp.prod Rp.str (Rp.prod Rp.i64 (Rp.prod Rp.i64 (Rp.prod (Rp.slice DotRp) (Rp.prod Rp.bool (Rp.prod (Rp.slice Rp.u8) (Rp.prod (Rp.slice Rp.u8) (Rp.unit)))))))
theorem RecRp.open {h:Fr} {cs:List Value} {x:RecT} (r:RecRp.rel h cs x):∃ v3 v5 v6,cs=[.string (str x.1),.int .i64 x.2.1,.int .i64 x.2.2.1,v3,.bool x.2.2.2.2.1,v5,v6]∧x.1.length≤9223372036854775807∧InI64 x.2.1∧InI64 x.2.2.1∧Arr DotRp h v3 x.2.2.2.1∧Arr Rp.u8 h v5 x.2.2.2.2.2.1∧Arr Rp.u8 h v6 x.2.2.2.2.2.2.1:=by
 obtain ⟨c0,d0,rfl,r0,r⟩:=r;obtain ⟨c1,d1,rfl,r1,r⟩:=r;obtain ⟨c2,d2,rfl,r2,r⟩:=r;obtain ⟨c3,d3,rfl,r3,r⟩:=r;obtain ⟨c4,d4,rfl,r4,r⟩:=r;obtain ⟨c5,d5,rfl,r5,r⟩:=r;obtain ⟨c6,d6,rfl,r6,r⟩:=r;obtain rfl:d6=[]:=r;obtain ⟨rfl,h0⟩:=r0;obtain ⟨rfl,h1⟩:=r1;obtain ⟨rfl,h2⟩:=r2;obtain ⟨v3,rfl,h3⟩:=r3;obtain rfl:c4=[.bool x.2.2.2.2.1]:=r4;obtain ⟨v5,rfl,h5⟩:=r5;obtain ⟨v6,rfl,h6⟩:=r6;exact ⟨v3,v5,v6,rfl,h0,h1,h2,h3,h5,h6⟩
theorem RecRp.sh {h:Fr} {cs:List Value} {x:RecT} (r:RecRp.rel h cs x):∃ a3 a5 a6 c3 c5 c6,cs=[.string (str x.1),.int .i64 x.2.1,.int .i64 x.2.2.1,.slice a3 x.2.2.2.1.length c3,.bool x.2.2.2.2.1,.slice a5 x.2.2.2.2.2.1.length c5,.slice a6 x.2.2.2.2.2.2.1.length c6]∧x.1.length≤9223372036854775807∧InI64 x.2.1∧InI64 x.2.2.1∧Arr DotRp h (.slice a3 x.2.2.2.1.length c3) x.2.2.2.1∧Arr Rp.u8 h (.slice a5 x.2.2.2.2.2.1.length c5) x.2.2.2.2.2.1∧Arr Rp.u8 h (.slice a6 x.2.2.2.2.2.2.1.length c6) x.2.2.2.2.2.2.1:=by
 obtain ⟨v3,v5,v6,rfl,h0,h1,h2,h3,h5,h6⟩:=RecRp.open r;obtain ⟨a3,c3,rfl⟩:=h3.shape;obtain ⟨a5,c5,rfl⟩:=h5.shape;obtain ⟨a6,c6,rfl⟩:=h6.shape;exact ⟨a3,a5,a6,c3,c5,c6,rfl,h0,h1,h2,h3,h5,h6⟩
theorem RecRp.mk {h:Fr} {x0:List UInt8} {x1:Int} {x2:Int} {x3:List DotT} {v3:Value} {x4:Bool} {x5:List UInt8} {v5:Value} {x6:List UInt8} {v6:Value} (h0:x0.length≤9223372036854775807) (h1:InI64 x1) (h2:InI64 x2) (h3:Arr DotRp h v3 x3) (h5:Arr Rp.u8 h v5 x5) (h6:Arr Rp.u8 h v6 x6):RecRp.rel h [.string (str x0),.int .i64 x1,.int .i64 x2,v3,.bool x4,v5,v6] (x0,x1,x2,x3,x4,x5,x6,()) :=
 ⟨[.string (str x0)],[.int .i64 x1,.int .i64 x2,v3,.bool x4,v5,v6],rfl,⟨rfl,h0⟩,⟨[.int .i64 x1],[.int .i64 x2,v3,.bool x4,v5,v6],rfl,⟨rfl,h1⟩,⟨[.int .i64 x2],[v3,.bool x4,v5,v6],rfl,⟨rfl,h2⟩,⟨[v3],[.bool x4,v5,v6],rfl,⟨v3,rfl,h3⟩,⟨[.bool x4],[v5,v6],rfl,rfl,⟨[v5],[v6],rfl,⟨v5,rfl,h5⟩,⟨[v6],[],rfl,⟨v6,rfl,h6⟩,rfl⟩⟩⟩⟩⟩⟩⟩
abbrev RecG (τ:Tys):Gp RecT:=Gp.prod (Gp.pure Rp.str) (Gp.prod (Gp.pure Rp.i64) (Gp.prod (Gp.pure Rp.i64) (Gp.prod (Gp.row DotRp τ.dot) (Gp.prod (Gp.pure Rp.bool) (Gp.prod (Gp.row Rp.u8 τ.u8) (Gp.prod (Gp.row Rp.u8 τ.u8) (Gp.unit)))))))
theorem RecG.mk {τ:Tys} {m:Fr} {x0:List UInt8} {x1:Int} {x2:Int} {x3:List DotT} {v3:Value} {x4:Bool} {x5:List UInt8} {v5:Value} {x6:List UInt8} {v6:Value} (h0:x0.length≤9223372036854775807) (h1:InI64 x1) (h2:InI64 x2) (s:Sat [OwnP DotRp τ.dot v3 x3,OwnP Rp.u8 τ.u8 v5 x5,OwnP Rp.u8 τ.u8 v6 x6] m):(Gp.prod (Gp.pure Rp.str) (Gp.prod (Gp.pure Rp.i64) (Gp.prod (Gp.pure Rp.i64) (Gp.prod (Gp.row DotRp τ.dot) (Gp.prod (Gp.pure Rp.bool) (Gp.prod (Gp.row Rp.u8 τ.u8) (Gp.prod (Gp.row Rp.u8 τ.u8) (Gp.unit)))))))).own [.string (str x0),.int .i64 x1,.int .i64 x2,v3,.bool x4,v5,v6] (x0,x1,x2,x3,x4,x5,x6,()) m :=
 Gp.mkP (T:=Rp.str) (c:=[.string (str x0)]) ⟨rfl,h0⟩ (Gp.mkP (T:=Rp.i64) (c:=[.int .i64 x1]) ⟨rfl,h1⟩<|Gp.mkP (T:=Rp.i64) (c:=[.int .i64 x2]) ⟨rfl,h2⟩<|Gp.mkW (A:=(Gp.row DotRp τ.dot)) (c:=[v3]) (fun _ o=>⟨_,rfl,o⟩)<|Gp.mkP (T:=Rp.bool) (c:=[.bool x4]) rfl<|Gp.mkW (A:=(Gp.row Rp.u8 τ.u8)) (c:=[v5]) (fun _ o=>⟨_,rfl,o⟩)<|Gp.mkW (A:=(Gp.row Rp.u8 τ.u8)) (c:=[v6]) (fun _ o=>⟨_,rfl,o⟩)<|fun _ _=>rfl) m s
abbrev LeafT:Type:=(List UInt8) × (List RecT) × Unit
abbrev LeafRp:Rp LeafT:=Rp.prod Rp.str (Rp.prod (Rp.slice RecRp) (Rp.unit))
theorem LeafRp.open {h:Fr} {cs:List Value} {x:LeafT} (r:LeafRp.rel h cs x):∃ v1,cs=[.string (str x.1),v1]∧x.1.length≤9223372036854775807∧Arr RecRp h v1 x.2.1:=by
 obtain ⟨c0,d0,rfl,r0,r⟩:=r;obtain ⟨c1,d1,rfl,r1,r⟩:=r;obtain rfl:d1=[]:=r;obtain ⟨rfl,h0⟩:=r0;obtain ⟨v1,rfl,h1⟩:=r1;exact ⟨v1,rfl,h0,h1⟩
theorem LeafRp.sh {h:Fr} {cs:List Value} {x:LeafT} (r:LeafRp.rel h cs x):∃ a1 c1,cs=[.string (str x.1),.slice a1 x.2.1.length c1]∧x.1.length≤9223372036854775807∧Arr RecRp h (.slice a1 x.2.1.length c1) x.2.1:=by
 obtain ⟨v1,rfl,h0,h1⟩:=LeafRp.open r;obtain ⟨a1,c1,rfl⟩:=h1.shape;exact ⟨a1,c1,rfl,h0,h1⟩
abbrev LeafG (τ:Tys):Gp LeafT:=Gp.prod (Gp.pure Rp.str) (Gp.prod (Gp.list (RecG τ) τ.recd) (Gp.unit))
theorem LeafG.mk {τ:Tys} {m:Fr} {x0:List UInt8} {x1:List RecT} {v1:Value} (h0:x0.length≤9223372036854775807) (s:Sat [ListP (RecG τ) τ.recd v1 x1] m):(Gp.prod (Gp.pure Rp.str) (Gp.prod (Gp.list (RecG τ) τ.recd) (Gp.unit))).own [.string (str x0),v1] (x0,x1,()) m :=
 Gp.mkP (T:=Rp.str) (c:=[.string (str x0)]) ⟨rfl,h0⟩ (Gp.mkW (A:=(Gp.list (RecG τ) τ.recd)) (c:=[v1]) (fun _ o=>⟨_,rfl,o⟩)<|fun _ _=>rfl) m s
abbrev StubT:Type:=(List UInt8) × (List UInt8) × Unit
abbrev StubRp:Rp StubT:=Rp.prod Rp.str (Rp.prod (Rp.slice Rp.u8) (Rp.unit))
theorem StubRp.open {h:Fr} {cs:List Value} {x:StubT} (r:StubRp.rel h cs x):∃ v1,cs=[.string (str x.1),v1]∧x.1.length≤9223372036854775807∧Arr Rp.u8 h v1 x.2.1:=by
 obtain ⟨c0,d0,rfl,r0,r⟩:=r;obtain ⟨c1,d1,rfl,r1,r⟩:=r;obtain rfl:d1=[]:=r;obtain ⟨rfl,h0⟩:=r0;obtain ⟨v1,rfl,h1⟩:=r1;exact ⟨v1,rfl,h0,h1⟩
theorem StubRp.sh {h:Fr} {cs:List Value} {x:StubT} (r:StubRp.rel h cs x):∃ a1 c1,cs=[.string (str x.1),.slice a1 x.2.1.length c1]∧x.1.length≤9223372036854775807∧Arr Rp.u8 h (.slice a1 x.2.1.length c1) x.2.1:=by
 obtain ⟨v1,rfl,h0,h1⟩:=StubRp.open r;obtain ⟨a1,c1,rfl⟩:=h1.shape;exact ⟨a1,c1,rfl,h0,h1⟩
abbrev NodeT:Type:=UInt8 × (List UInt8) × (List UInt8) × (List LeafT) × Unit
abbrev NodeRp:Rp NodeT:=Rp.prod Rp.u8 (Rp.prod (Rp.slice Rp.u8) (Rp.prod (Rp.slice Rp.u8) (Rp.prod (Rp.slice LeafRp) (Rp.unit))))
theorem NodeRp.open {h:Fr} {cs:List Value} {x:NodeT} (r:NodeRp.rel h cs x):∃ v1 v2 v3,cs=[byteV x.1,v1,v2,v3]∧Arr Rp.u8 h v1 x.2.1∧Arr Rp.u8 h v2 x.2.2.1∧Arr LeafRp h v3 x.2.2.2.1:=by
 obtain ⟨c0,d0,rfl,r0,r⟩:=r;obtain ⟨c1,d1,rfl,r1,r⟩:=r;obtain ⟨c2,d2,rfl,r2,r⟩:=r;obtain ⟨c3,d3,rfl,r3,r⟩:=r;obtain rfl:d3=[]:=r;obtain rfl:c0=[byteV x.1]:=r0;obtain ⟨v1,rfl,h1⟩:=r1;obtain ⟨v2,rfl,h2⟩:=r2;obtain ⟨v3,rfl,h3⟩:=r3;exact ⟨v1,v2,v3,rfl,h1,h2,h3⟩
theorem NodeRp.sh {h:Fr} {cs:List Value} {x:NodeT} (r:NodeRp.rel h cs x):∃ a1 a2 a3 c1 c2 c3,cs=[byteV x.1,.slice a1 x.2.1.length c1,.slice a2 x.2.2.1.length c2,.slice a3 x.2.2.2.1.length c3]∧Arr Rp.u8 h (.slice a1 x.2.1.length c1) x.2.1∧Arr Rp.u8 h (.slice a2 x.2.2.1.length c2) x.2.2.1∧Arr LeafRp h (.slice a3 x.2.2.2.1.length c3) x.2.2.2.1:=by
 obtain ⟨v1,v2,v3,rfl,h1,h2,h3⟩:=NodeRp.open r;obtain ⟨a1,c1,rfl⟩:=h1.shape;obtain ⟨a2,c2,rfl⟩:=h2.shape;obtain ⟨a3,c3,rfl⟩:=h3.shape;exact ⟨a1,a2,a3,c1,c2,c3,rfl,h1,h2,h3⟩
theorem NodeRp.mk {h:Fr} {x0:UInt8} {x1:List UInt8} {v1:Value} {x2:List UInt8} {v2:Value} {x3:List LeafT} {v3:Value} (h1:Arr Rp.u8 h v1 x1) (h2:Arr Rp.u8 h v2 x2) (h3:Arr LeafRp h v3 x3):NodeRp.rel h [byteV x0,v1,v2,v3] (x0,x1,x2,x3,()) :=
 ⟨[byteV x0],[v1,v2,v3],rfl,rfl,⟨[v1],[v2,v3],rfl,⟨v1,rfl,h1⟩,⟨[v2],[v3],rfl,⟨v2,rfl,h2⟩,⟨[v3],[],rfl,⟨v3,rfl,h3⟩,rfl⟩⟩⟩⟩
abbrev PrfT:Type:=(List (List UInt8)) × (List StubT) × Unit
abbrev PrfRp:Rp PrfT:=Rp.prod (Rp.slice (Rp.slice Rp.u8)) (Rp.prod (Rp.slice StubRp) (Rp.unit))
theorem PrfRp.open {h:Fr} {cs:List Value} {x:PrfT} (r:PrfRp.rel h cs x):∃ v0 v1,cs=[v0,v1]∧Arr (Rp.slice Rp.u8) h v0 x.1∧Arr StubRp h v1 x.2.1:=by
 obtain ⟨c0,d0,rfl,r0,r⟩:=r;obtain ⟨c1,d1,rfl,r1,r⟩:=r;obtain rfl:d1=[]:=r;obtain ⟨v0,rfl,h0⟩:=r0;obtain ⟨v1,rfl,h1⟩:=r1;exact ⟨v0,v1,rfl,h0,h1⟩
theorem PrfRp.sh {h:Fr} {cs:List Value} {x:PrfT} (r:PrfRp.rel h cs x):∃ a0 a1 c0 c1,cs=[.slice a0 x.1.length c0,.slice a1 x.2.1.length c1]∧Arr (Rp.slice Rp.u8) h (.slice a0 x.1.length c0) x.1∧Arr StubRp h (.slice a1 x.2.1.length c1) x.2.1:=by
 obtain ⟨v0,v1,rfl,h0,h1⟩:=PrfRp.open r;obtain ⟨a0,c0,rfl⟩:=h0.shape;obtain ⟨a1,c1,rfl⟩:=h1.shape;exact ⟨a0,a1,c0,c1,rfl,h0,h1⟩
theorem PrfRp.mk {h:Fr} {x0:List (List UInt8)} {v0:Value} {x1:List StubT} {v1:Value} (h0:Arr (Rp.slice Rp.u8) h v0 x0) (h1:Arr StubRp h v1 x1):PrfRp.rel h [v0,v1] (x0,x1,()) :=
 ⟨[v0],[v1],rfl,⟨v0,rfl,h0⟩,⟨[v1],[],rfl,⟨v1,rfl,h1⟩,rfl⟩⟩
abbrev RootT:Type:=Int × Int × Int × (List UInt8) × (List UInt8) × Unit
abbrev EvdT:Type:=RootT × RootT × Unit
abbrev HeldT:Type:=(List LeafT) × (List RootT) × (List EvdT) × (List Int) × Unit
end Go.Sp
end
section
/- Texts of this proof, one behind the other. -/
section
/- Texts of this proof, one behind the other. -/
section
/- Texts of this proof. -/
namespace Go.Sp
abbrev SEnt:=List UInt8 × Value × Nat
theorem str_beq (a b:List UInt8):(str a ==str b)=decide (a=b):=by
 show (ByteArray.beq (str a) (str b))=_
 unfold ByteArray.beq
 by_cases h:a=b
 ·subst h;simp
 ·simp [h,str]
section
variable {ro:Option Nat} {P:Program} {fn:Func} {n:Nat} {R:Ending→World→Prop} {k:List Item} {σ:List (Nat × Value)} {D:List Deferred} {g:Gr} {η ζ θ:List SProp} {ops:Array Oper} {i d:Nat} {ls:List Nat}
 {t tk te:TypeId} {x y z:Operand} {b c:Nat} {l:List SEnt} {key:List UInt8} {w:World}
theorem run_checkKey_str (hk:P.underlying tk=some .string) (e:Bool) (n:Nat):(Instr.checkKey e (n+1) tk (.string (str key))).run P w=.ok () w:=by
 simp only [Instr.checkKey,Sem.run_bind,run_underlying hk,Result.andThen]
 rfl
end
end Go.Sp
end
section
/- Texts of this proof, one behind the other. -/
section
/- Texts of this proof. -/
namespace Go.Sp
section
variable {ro:Option Nat} {P:Program} {fn:Func} {n:Nat} {R:Ending→World→Prop} {k:List Item} {σ:List (Nat × Value)} {D:List Deferred} {g:Gr} {η ζ θ:List SProp} {ops:Array Oper} {i d:Nat} {ls:List Nat}
 {t tk te e:TypeId} {x y z:Operand} {b c:Nat} {l:List SEnt} {w:World}
theorem str_get (xs:List UInt8) (j:Nat):(str xs)[j]?=xs[j]?:=by
 by_cases h:j<xs.length
 ·rw [List.getElem?_eq_getElem h,getElem?_pos (str xs) j (by rw [str_size];exact h)]
  rfl
 ·rw [List.getElem?_eq_none (by omega),getElem?_neg (str xs) j (by rw [str_size];exact h)]
theorem Does.indexS {xs:List UInt8} {kd:IntKind} {zi:Int} {j:Nat} (ht:P.underlying t=some .string) (hx:ev σ x=some (.string (str xs))) (hy:ev σ y=some (.int kd zi)) (hz:zi=(j:Int)) (hj:j<xs.length) :
  Does P (.index t x y) σ g η (byteV xs[j]) η:=.run fun o ρ w ho hk=>by
 subst hz;have h:=str_get xs j;rw [List.getElem?_eq_getElem hj] at h
 simp [execOp,ho,hk x _ hx,hk y _ hy,Instr.index,asIntOf,run_underlying ht,h]
 rfl
theorem Does.idxArr {kd:IntKind} {zi:Int} {j len bo off:Nat} (ht:P.underlying t=some (.array len e)) (he:(P.info? e).map (·.size)=some 1) (hx:ev σ x=some (.pointer (some ⟨bo,off,none⟩))) (hy:ev σ y=some (.int kd zi)) (hz:zi=(j:Int)) (hj:j<len) :
  Does P (.indexAddr t x y) σ g η (.pointer (some ⟨bo,off+j,none⟩)) η:=.run fun o ρ w ho hk=>by
 subst hz
 simp [execOp,ho,hk x _ hx,hk y _ hy,Instr.indexAt,Instr.sureAddr,asIntOf,run_underlying ht,hj,run_sizeOf he,Addr.add]
theorem Does.idxArrA {kd:IntKind} {zi:Int} {j len:Nat} {p:Addr} (ht:P.underlying t=some (.array len e)) (he:(P.info? e).map (·.size)=some 1) (hx:ev σ x=some (.pointer (some p))) (hy:ev σ y=some (.int kd zi)) (hz:zi=(j:Int)) (hj:j<len) :
  Does P (.indexAddr t x y) σ g η (.pointer (some (p.add j))) η:=.run fun o ρ w ho hk=>by
 subst hz
 simp [execOp,ho,hk x _ hx,hk y _ hy,Instr.indexAt,Instr.sureAddr,asIntOf,run_underlying ht,hj,run_sizeOf he]
def setV (cs:List UInt8):List Value:=(List.range 256).map fun i=>.bool (decide (i∈cs.map (·.toNat)))
@[simp] theorem setV_length (cs:List UInt8):(setV cs).length=256:=by simp [setV]
theorem run_equal_mapN {m:Option Nat} (ht:P.underlying t=some (.map tk te)):(Op.equal t (.map m) (.map none)).run P w=.ok m.isNone w:=by
 show (Op.equalIn (9999+1) t (.map m) (.map none)).run P w=.ok m.isNone w
 unfold Op.equalIn;simp only [Sem.run_bind,run_underlying ht,Result.andThen]
 cases m<;>rfl
theorem Does.neqM {m:Option Nat} {u:TypeId} (ht:P.underlying t=some (.map tk te)) (hx:ev σ x=some (.map m)) (hy:ev σ y=some (.map none)):Does P (.binOp .neq t x y u) σ g η (.bool m.isSome) η :=
 .run fun o ρ w ho hk=>by
  simp [execOp,ho,hk x _ hx,hk y _ hy,eqGuard,Go.binOp,run_equal_mapN (w:=w) (m:=m) ht]
  try cases m<;>rfl
theorem Does.strTo {xs:List UInt8} {kb:IntKind} {zb:Int} {b:Nat} (ht:P.underlying t=some .string) (hx:ev σ x=some (.string (str xs))) (hy:ev σ y=some (.int kb zb)) (hz:zb=(b:Int)) (hb:b≤xs.length) :
  Does P (.slice t x none (some y) none) σ g η (.string (str (xs.take b))) η:=by
 subst hz;exact str_does (P:=P) (σ:=σ) (g:=g) (kl:=.i64) (kh:=kb) (a:=0) (b:=b) ht hx (lo:=none) (hi:=some y) (fun _ h=>nomatch h) (fun _=>rfl) (fun _ h=>by cases h;exact hy) (fun h=>nomatch h) (Nat.zero_le _) hb η
end
end Go.Sp
end
section
/- Texts of this proof. -/
namespace Go.Sp
abbrev SS:=List (List UInt8 × List UInt8 × Nat)
def sumT (m:SS):Nat:=(m.map fun x=>x.2.1.length).sum
section
variable {ro:Option Nat} {P:Program} {fn:Func} {n:Nat} {R:Ending→World→Prop} {k:List Item} {σ:List (Nat × Value)} {D:List Deferred} {g:Gr} {η ζ θ:List SProp} {ops:Array Oper} {i d:Nat} {ls:List Nat}
 {t tk te:TypeId} {x y z:Operand} {b c:Nat} {m:SS} {key v:List UInt8} {w:World}
end
end Go.Sp
end
end
end
section
/- Texts of this proof. -/
namespace Go.Sp
variable {ro:Option Nat} {P:Program} {fn:Func} {n:Nat} {R:Ending→World→Prop} {k:List Item} {σ:List (Nat × Value)} {D:List Deferred} {g:Gr} {η:List SProp}
theorem S.reloop {c:Code} (h:S ro P fn n R (.code c::.inLoop c::k) σ D g η):S ro P fn n R (.inLoop c::k) σ D g η :=
 fun a w hf hd hw=>.step (fun _ _=>stepR_inLoop) (h a w hf hd hw)
theorem S.rangeAny {P:Program} {fn:Func} {n:Nat} {R:Ending→World→Prop} {k:List Item} {σ:List (Nat × Value)} {D:List Deferred} {g:Gr} {η ζ θ θ' :List SProp} {f:FuncId} {x:Operand} {first cap:Array Value} {ps:Array Tmp} {psl:List Nat} {assign body:Code}
  {β χ τ:Type} {vs:β→χ→List Value} {own:β→χ→List SProp} (Ok Fin:List β→Prop) (W:List β→τ→List SProp) (x0:τ) (hx:ev σ x=some (.func (.func f) first cap)) (hc:callable P f=true) (hps:ps=psl.toArray) (hln:∀ y e,(vs y e).length=psl.length) (hb:psl.all (fun p=>Nat.blt p n)=true)
  (it:∀ (l:Nat) (J:List β→SProp),(∀ done y e,Ok (done++[y])→YCon P l (vs y e).toArray g.h (own y e++[J done]) (Ret fun u η=>u=.bool true∧η=[J (done++[y])])) →
   Con P f (first++#[yieldV l]++cap) g.h (θ++[J []]) (Ret fun _ η=>∃ ys,Fin ys∧η=θ' ++[J ys]))
  (hs:Sels η (θ++W [] x0) ζ)
  (round:∀ (l D0 fid:Nat) (tm:Array Value) (done:List β) (y:β) (e:χ) (t:τ) (_:Ok (done++[y])) (g' :Gr),g.h.sub g'.h→∀ R:Ending→World→Prop,
   (∀ t' w,Holds w g' (blk l (.loop (loopRec fid tm ps assign body D0))::W (done++[y]) t')→R (.returned (.bool true)) w) →
   S (some l) P fn n R [.code assign,.beginRound,.code body] (under psl (vs y e) σ) [] g' (blk l (.loop (loopRec fid tm ps assign body D0))::(W done t++own y e)))
  (h:∀ D0 t ys,Fin ys→S none P fn n R k σ (⟨.collected D0,#[]⟩::D) g (blk D0 (.deferred (some []))::(W ys t++(θ' ++ζ)))) :
  S none P fn n R (.code (.rangeFunc x ps assign body)::k) σ D g η:=by
 refine S.rangeFunc (J:=fun j ζ' =>j=none∧∃ ys t,Fin ys∧ζ' =W ys t++(θ' ++ζ)) hx hc (fun l D0 fid tm hfn hfit=>?_) (fun D0 jump ζ' hJ=>?_)
 ·let L:=loopRec fid tm ps assign body D0
  have hy:∀ done y e,Ok (done++[y])→YCon P l (vs y e).toArray g.h (own y e++[fun m=>∃ t,Sat (blk l (.loop L)::W done t) m]) (Ret fun u η=>u=.bool true∧η=[fun m=>∃ t,Sat (blk l (.loop L)::W (done++[y]) t) m]):=by
   intro done y e hpre
   refine YCon.perm (List.perm_append_comm) (YCon.exi (A:=fun t m=>Sat (blk l (.loop L)::W done t) m) fun t=>?_);refine YCon.imp (ζ:=blk l (.loop L)::(W done t++own y e)) (fun _ z=>Sat.unpack (fun _ u=>u) z) ?_;refine YCon.of (fn:=fn) (n:=n) (σ:=σ) (vs y e) psl rfl hps (hln y e) hb hfn hfit (fun g' hg' R hR=>?_);exact round l D0 fid tm done y e t hpre g' hg' R fun t' w hw=>hR _ _ w ⟨rfl,rfl⟩ (Holds.pack (ζ:=[]) (ws:=blk l (.loop L)::W (done++[y]) t') (A:=fun m=>∃ t,Sat (blk l (.loop L)::W (done++[y]) t) m) (fun _ z=>⟨t',z⟩) (by simpa using hw))
  have hi:=(it l _ hy).frame (ζ:=ζ)
  intro g' hg' w hw
  have hw1:Holds w g' ((θ++[fun m=>∃ t,Sat (blk l (.loop L)::W [] t) m])++ζ):=by
   have hp:(blk l (.loop L)::η).Perm ((blk l (.loop L)::W [] x0)++(θ++ζ)):=by
    refine (List.Perm.cons _ hs.perm).trans ?_;rw [List.cons_append,List.append_assoc];refine List.Perm.cons _ ?_;rw [← List.append_assoc,← List.append_assoc];exact List.Perm.append_right _ List.perm_append_comm
   have h1:=Holds.pack (A:=fun m=>∃ t,Sat (blk l (.loop L)::W [] t) m) (fun _ z=>⟨x0,z⟩) (hw.perm hp);refine h1.perm ?_;rw [← List.cons_append,List.append_assoc];exact (List.perm_append_comm (l₁:=[_]) (l₂:=θ)).append_right ζ |>.trans (by rw [List.append_assoc])
  refine (hi g' hg' w hw1).mono fun e w' hh=>?_;obtain ⟨η',⟨η₁,hp,rfl⟩,hw'⟩:=hh
  cases e with
  |panicked _=>exact hp.elim
  |outgrown=>exact hp.elim
  |returned v =>
   obtain ⟨ys,hfin,rfl⟩:∃ ys,Fin ys∧η₁=_:=hp;have h2:Holds w' g' ((fun m=>∃ t,Sat (blk l (.loop L)::W ys t) m)::(θ' ++ζ)):=hw'.perm (by
    rw [← List.cons_append];exact (List.perm_append_comm (l₁:=θ') (l₂:=[_])).append_right ζ)
   obtain ⟨t,h3⟩:=Holds.exi (A:=fun t m=>Sat (blk l (.loop L)::W ys t) m) h2;exact ⟨_,⟨L,W ys t++(θ' ++ζ),by simp [L,loopRec],⟨rfl,ys,t,hfin,rfl⟩,rfl⟩,h3.imp fun _ z=>Sat.unpack (fun _ u=>u) z⟩
 ·obtain ⟨rfl,ys,t,hfin,rfl⟩:=hJ
  exact h D0 t ys hfin
section
variable {ops:Array Oper} {l:List Nat} {i d:Nat} {T:TypeId} {x:Operand} {v:Value} {cs:List Value}
theorem OD.boxP (ho:Fires ops i n σ d (.box T x)) (hd:descOk ops [i] l=true) (hx:ev σ x=some v) (hc:v.cells.toList=cs) (h:∀ b,OD P fn n R ops k D g l ((d,.pointer (some ⟨b,0,none⟩))::σ) (obj b T cs::η)):OD P fn n R ops k D g (i::l) σ η :=
 OD.loudE (K:=fun v' η' =>∃ b,v' =.pointer (some ⟨b,0,none⟩)∧η' =obj b T cs::η) ho rfl hd (fun _=>(DoesE.box hx hc).imp fun _ _ ⟨b,h1,h2⟩=>⟨_,⟨b,h1,rfl⟩,h2⟩) fun _ _ ⟨b,h1,h2⟩=>by subst h1;subst h2;exact h b
end
end Go.Sp
end
end
end
