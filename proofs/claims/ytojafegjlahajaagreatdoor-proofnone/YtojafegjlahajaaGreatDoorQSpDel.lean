/- Texts of this proof. -/
import Derived.Test.YtojafegjlahajaaGreatDoorQSpGo
set_option linter.unusedSectionVars false
namespace Go.Sp
section
variable {ro:Option Nat} {P:Program} {fn:Func} {n:Nat} {R:Ending→World→Prop} {k:List Item} {σ:List (Nat × Value)} {D:List Deferred} {g:Gr} {η ζ θ:List SProp} {ops:Array Oper} {i d:Nat} {ls:List Nat}
 {t e:TypeId} {x y z u:Operand} {w:World} {a:Option Addr} {m c s:Nat} {p q r:Nat} {kx ky kz:IntKind}
theorem Does.slTo (ht:P.underlying t=some (.slice e)) (he:(P.info? e).map (·.size)=some s) (hx:ev σ x=some (.slice a m c)) (hy:ev σ y=some (.int ky (p:Int))) (hp:p≤c) :
  Does P (.slice t x none (some y) none) σ g η (.slice a p c) η:=.run fun o ρ w ho hk=>by
 simp [execOp,ho,hk x _ hx,hk y _ hy,Instr.sliceAt,run_underlying ht,Instr.slice,Instr.sliceBounds,Instr.sliceBound,asIntOf,hp,run_sizeOf he]
 intro _;cases a<;>simp [Addr.add_zero]
theorem Does.slFrom (ht:P.underlying t=some (.slice e)) (he:(P.info? e).map (·.size)=some s) (hx:ev σ x=some (.slice a m c)) (hy:ev σ y=some (.int ky (p:Int))) (hp:p≤m) :
  Does P (.slice t x (some y) none none) σ g η (.slice (if c=p then a else a.map (·.add (p*s))) (m - p) (c - p)) η:=.run fun o ρ w ho hk=>by
 simp [execOp,ho,hk x _ hx,hk y _ hy,Instr.sliceAt,run_underlying ht,Instr.slice,Instr.sliceBounds,Instr.sliceBound,asIntOf,hp,run_sizeOf he]
theorem OwnP.solid {α:Type} {T:Rp α} {e:TypeId} {xs:List α} {a:Option Addr} {m c:Nat} {h:Fr} (x:OwnP T e (.slice a m c) xs h) (h0:0<xs.length):(∃ b,a=some ⟨b,0,none⟩)∧m=xs.length∧xs.length≤c∧c≤9223372036854775807:=by
 obtain ⟨css,h1,h2,h3|⟨b,cap,cur,h4,h5,h6,h7,h8,h9⟩⟩:=x
 ·omega
 ·injection h4 with e1 e2 e3
  subst e1 e2 e3;exact ⟨⟨b,rfl⟩,rfl,h6,h7⟩
theorem all2_lens {k:Nat}:∀ {css ds:List (List Value)},All2 ((Rp.cells k).rel Fr.emp) css ds→css=ds∧(∀ cs∈css,cs.length=k)∧∀ cs∈css,∀ v∈cs,v.oneCell' =true
 |[],[],_=>⟨rfl,by simp,by simp⟩
 |[],_::_,h=>h.elim
 |_::_,[],h=>h.elim
 |x::css,y::ds,h=>by
  obtain ⟨h1,h2,h3⟩:=h.1;obtain ⟨q1,q2,q3⟩:=all2_lens h.2;subst h1 q1;exact ⟨rfl,List.forall_mem_cons.2 ⟨h2,q2⟩,List.forall_mem_cons.2 ⟨h3,q3⟩⟩
theorem all2_self {k:Nat}:∀ {css:List (List Value)},(∀ cs∈css,cs.length=k)→(∀ cs∈css,∀ v∈cs,v.oneCell' =true)→All2 ((Rp.cells k).rel Fr.emp) css css
 |[],_,_=>trivial
 |x::_,h1,h2=>⟨⟨rfl,h1 x (List.mem_cons_self ..),h2 x (List.mem_cons_self ..)⟩,all2_self (fun cs hc=>h1 cs (List.mem_cons_of_mem _ hc)) fun cs hc=>h2 cs (List.mem_cons_of_mem _ hc)⟩
theorem O.clearTail {K by_:Nat} {zc:List Value} {css:List (List Value)} {b m' :Nat} (ho:opAtU ops i=some (.call ⟨.builtin .clear,#[x],#[t]⟩)) (ht:P.underlying t=some (.slice e)) (he:elemIs P e K by_ zc) (hz1:∀ v∈zc,v.oneCell' =true) (hK:0<K) (h0:css.length<m') (hm:m' ≤c)
  (hx:ev σ x=some (.slice (if c=css.length then some ⟨b,0,none⟩ else (some (⟨b,0,none⟩:Addr)).map (·.add (css.length*K))) (m' - css.length) (c - css.length))) (hs:Sel η (OwnP (Rp.cells K) e (.slice (some ⟨b,0,none⟩) css.length c) css) ζ)
  (h:O ro P fn n R ops ls k σ D g (OwnP (Rp.cells K) e (.slice (some ⟨b,0,none⟩) css.length c) css::ζ)):O ro P fn n R ops (i::ls) k σ D g η:=by
 intro act w hf hd hw
 obtain ⟨o,hi,hdst,hop,hg⟩:=opAtU_spec ho;have hw1:=hw.sel hs;obtain ⟨p1,p2,p3,Kf,hdd,s1,s2,k1,k2,kd,t1,t2,⟨css',ha,hl,hA⟩,hr⟩:=hw1;obtain ⟨rfl,hlen,hone⟩:=all2_lens ha
 rcases hA with ⟨hv,_⟩|⟨b',cap,cur,hv,⟨fz,hb,hz⟩,h1,h2,h3,h4⟩
 ·cases hv
 ·injection hv with e1 _ e3
  injection e1 with e1
  injection e1 with e1
  subst e1 e3;have hkk:(Rp.cells K).k=K:=rfl;rw [hkk] at h3 h4 hz;have hb0:Holds w g (blk b (.cells cur e fz)::ζ):=⟨p1,p2,p3,Kf,hdd,s1,s2,k1,k2,kd,t1,t2,hb,hr⟩;rw [if_neg (by omega:¬ c=css'.length)] at hx;simp only [Option.map_some,add_lit,Nat.zero_add] at hx;obtain ⟨info,zv,hin,hzv,hsz,_,hzc,hzl⟩:=he;have hzr:(Builtin.zeroCells zv.cells (m' - css'.length)).toList=reps zc (m' - css'.length):=by
   have hzs:zv.cells.size=K:=by rw [← hzl,← hzc];simp
   have:=madeCells_reps zv.cells (m' - css'.length) (by omega);rw [hzc] at this;rw [← this];rfl
  have hrl:(reps zc (m' - css'.length)).length=(m' - css'.length)*K:=by rw [length_reps,hzl]
  have hmul:css'.length*K+(m' - css'.length)*K=m' *K:=by rw [← Nat.add_mul];congr 1;omega
  have hmc:m' *K≤c*K:=Nat.mul_le_mul_right K hm;have hro:∀ v∈reps zc (m' - css'.length),v.oneCell' =true:=by
   generalize m' - css'.length=q
   induction q with
   |zero=>simp [reps]
   |succ q ih=>intro v hv;simp only [reps,List.mem_append] at hv;exact hv.elim (hz1 v) (ih v)
  have hst:=run_storeCells_z P b (css'.length*K) e (by rw [h3];exact hz:Thawed fz cur.size) (reps zc (m' - css'.length)) 0 cur w hb0.block (Nat.le_refl _) (by rw [hrl,h3];omega) hro;simp only [Nat.add_zero] at hst;have hzz:(zeroValue e).run P w=.ok zv w:=run_zeroOf (by simp [zeroOf,hin,hzv]) w;obtain ⟨q0,hq0⟩:∃ q0,m' - css'.length=q0+1:=⟨m' - css'.length - 1,by omega⟩;have hclear:(Builtin.clear_ #[t] o.type #[.slice (some ⟨b,css'.length*K,none⟩) (m' - css'.length) (c - css'.length)]).run P w=.ok (.tuple #[]) (w.setRow b (cur.toList.take (css'.length*K)++reps zc (m' - css'.length)++cur.toList.drop (css'.length*K+(reps zc (m' - css'.length)).length)).toArray):=by
   rw [hq0] at hst hzr ⊢;simp only [Builtin.clear_,List.getElem?_toArray,List.getElem?_cons_zero,Sem.run_bind,run_underlying ht,Result.andThen,hzz,hzr,hst,Sem.run_pure]
  have hrun:(execOp act.eval o).run P w=.ok (.value (.tuple #[])) (w.setRow b (cur.toList.take (css'.length*K)++reps zc (m' - css'.length)++cur.toList.drop (css'.length*K+(reps zc (m' - css'.length)).length)).toArray):=by
   simp [execOp,hop,resolve,invoke,builtin,hf.knows x _ hx,hclear]
  refine O.fire hi (by simp [Region.wanted,hg]) (by rw [hop];intro c hc;cases hc) hrun ?_;rw [Oper.uponIn_value,hdst];refine h _ _ hf hd ?_;refine (hb0.setRow (cs:=(cur.toList.take (css'.length*K)++reps zc (m' - css'.length)++cur.toList.drop (css'.length*K+(reps zc (m' - css'.length)).length)).toArray)).imp fun _ x=>Sat.cons_imp (fun m0 hm0=>?_) (fun _ z=>z) x;have hcl:cur.toList.length=c*K:=by simpa using h3
  refine ⟨css',all2_self hlen hone,hl,.inr ⟨b,c,_,rfl,⟨fz,hm0,hz⟩,h1,h2,?_,?_⟩⟩
  ·simp only [List.size_toArray,List.length_append,List.length_take,List.length_drop,hkk]
   rw [hrl,hcl]
   omega
  ·rw [hkk,List.toList_toArray,List.append_assoc,List.take_append,List.length_take,hcl,Nat.min_eq_left (by omega),Nat.sub_self,List.take_zero,List.append_nil,List.take_take,Nat.min_self]
   exact h4
end
end Go.Sp
