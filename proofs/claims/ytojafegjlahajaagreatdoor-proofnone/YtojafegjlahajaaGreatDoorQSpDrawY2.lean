/- Texts of this proof. -/
import Derived.Test.YtojafegjlahajaaGreatDoorQSpDrawY
import Derived.Test.YtojafegjlahajaaGreatDoorQSpTreeW
set_option linter.unusedSectionVars false
open Go
namespace Go.Sp.Y
open Go.Sp
section
variable {ro:Option Nat} {P:Program} {fn:Func} {n:Nat} {R:Ending→World→Prop} {ops:Array Oper} {k:List Item} {D:List Deferred} {g:Gr}
theorem ODg.loudU {i:Nat} {op:Op} {l:List Nat} {σ:List (Nat × Value)} {η η' :List SProp} (ho:opAtU ops i=some op) (hna:isAlloc op=false) {fl:Bool} (hd:hdOk fl ops i l=true) (hdo:∀ ζ,DoesU P op σ g (η++ζ) (η' ++ζ)) (h:OD ro P fn n R ops k D g l σ η'):ODx ro P fn n R ops k D g fl (i::l) σ η:=ODx.head hd (ODx.loudU ho hna (fun ζ=>(hdo ζ).v) h)
end
section
variable {ro:Option Nat} {P:Program} {fn:Func} {n:Nat} {R:Ending→World→Prop} {ops:Array Oper} {k:List Item} {D:List Deferred} {g:Gr}
end
section
variable {ro:Option Nat} {P:Program} {fn:Func} {n:Nat} {R:Ending→World→Prop} {ops:Array Oper} {k:List Item} {D:List Deferred} {g:Gr}
end
section
variable {ro:Option Nat} {P:Program} {fn:Func} {n:Nat} {R:Ending→World→Prop} {ops:Array Oper} {k:List Item} {D:List Deferred} {g:Gr}
end
section
variable {ro:Option Nat} {P:Program} {fn:Func} {n:Nat} {R:Ending→World→Prop} {ops:Array Oper} {k:List Item} {D:List Deferred} {g:Gr}
end
section
variable {ro:Option Nat} {P:Program} {fn:Func} {n:Nat} {R:Ending→World→Prop} {ops:Array Oper} {k:List Item} {D:List Deferred} {g:Gr}
end
section
variable {ro:Option Nat} {P:Program} {fn:Func} {n:Nat} {R:Ending→World→Prop} {ops:Array Oper} {k:List Item} {D:List Deferred} {g:Gr}
theorem ODt.loudE {i d:Nat} {op:Op} {l:List Nat} {σ:List (Nat × Value)} {η:List SProp} {K:Value→List SProp→Prop} (ho:Fires ops i n σ d op) (hna:isAlloc op=false) (_:true=true) (hdo:∀ ζ,DoesE P op σ g (η++ζ) fun v η' =>∃ η₁,K v η₁∧η' =η₁++ζ) (h:∀ v η',K v η' →OD ro P fn n R ops k D g l ((d,v)::σ) η'):ODx ro P fn n R ops k D g true (i::l) σ η:=ODg.loudE (fl:=true) ho hna rfl hdo h
end
section
variable {ro:Option Nat} {P:Program} {fn:Func} {n:Nat} {R:Ending→World→Prop} {ops:Array Oper} {k:List Item} {D:List Deferred} {g:Gr}
end
section
variable {ro:Option Nat} {P:Program} {fn:Func} {n:Nat} {R:Ending→World→Prop} {ops:Array Oper} {k:List Item} {D:List Deferred} {g:Gr}
theorem OD.alt2 {l:List Nat} {σ:List (Nat × Value)} {η:List SProp} (a b:Nat) (la lb:List Nat) (hok:altOk ops [a,b] l=true) (ha:l.erase a=la) (hb:l.erase b=lb)
  (h1:ODx ro P fn n R ops k D g true (a::la) σ η) (h2:ODx ro P fn n R ops k D g true (b::lb) σ η):OD ro P fn n R ops k D g l σ η:=by
 subst ha;subst hb;refine .alt [a,b] hok fun i hi=>?_
 rcases List.mem_cons.1 hi with rfl|hi
 ·exact h1
 ·rw [List.mem_singleton.1 hi];exact h2
end
section
variable {ro:Option Nat} {P:Program} {fn:Func} {n:Nat} {R:Ending→World→Prop} {ops:Array Oper} {k:List Item} {D:List Deferred} {g:Gr}
theorem ODx.weaken {fl:Bool} {l:List Nat} {σ' :List (Nat × Value)} {η:List SProp} (h:ODx ro P fn n R ops k D g fl l σ' η):∀ {σ:List (Nat × Value)},Sub σ' σ→ODx ro P fn n R ops k D g fl l σ η:=by
 have evw:∀ {σ σ' :List (Nat × Value)},Sub σ' σ→∀ {x:Operand} {v:Value},ev σ' x=some v→ev σ x=some v:=by
  intro σ σ' hs x v hx
  cases x with
  |tmp t=>exact hs t v hx
  |const u=>exact hx
  |global g=>exact hx
  |func f=>exact hx
 have evsw:∀ {σ σ' :List (Nat × Value)},Sub σ' σ→∀ {xs:List Operand} {vs:List Value},evs σ' xs=some vs→evs σ xs=some vs:=by
  intro σ σ' hs xs
  induction xs with
  |nil=>intro vs h;exact h
  |cons x xs ih =>
   intro vs h
   simp only [evs] at h ⊢
   split at h
   ·rename_i v us hv hus;cases h;rw [evw hs hv,ih hus]
   ·cases h
 have knw:∀ {σ σ' :List (Nat × Value)} {ρ:Operand→Value},Sub σ' σ→Knows σ ρ→Knows σ' ρ:=fun hs hk x v hx=>hk x v (evw hs hx);have fw:∀ {σ σ' :List (Nat × Value)} {i d:Nat} {op:Op},Sub σ' σ→Fires ops i n σ' d op→Fires ops i n σ d op:=by
  intro σ σ' i d op hs hf
  cases hf with
  |p h=>exact .p h
  |g h hl=>exact .g h (hs _ _ hl)
 have ext:∀ {σ σ' :List (Nat × Value)} {d:Nat} {v:Value},Sub σ' σ→Sub ((d,v)::σ') ((d,v)::σ):=by
  intro σ σ' d v hs t u hu
  simp only [look] at hu ⊢
  split at hu
  ·exact hu
  ·exact hs _ _ hu
 induction h with
 |nil h=>intro σ hs;exact .nil (S.weaken hs h)
 |quiet ho hna hdo h ih=>intro σ hs;exact .quiet (fw hs ho) hna (fun η o ρ w h1 h2 h3=>hdo η o ρ w h1 (knw hs h2) h3) (ih (ext hs))
 |no ho hna hl hvb h ih=>intro σ hs;exact .no ho hna (hs _ _ hl) hvb (ih (ext hs))
 |lazy ho hna hd hz h ih=>intro σ hs;exact .lazy ho hna hd hz fun b=>ih b (ext hs)
 |yieldT ho hx hv hargs con h ih=>intro σ hs;exact .yieldT (fw hs ho) (evw hs hx) (evsw hs hv) hargs con fun v η' q=>ih v η' q (ext hs)
 |yieldU ho hx hv hargs con h ih=>intro σ hs;exact .yieldU ho (evw hs hx) (evsw hs hv) hargs con fun v η' q=>ih v η' q hs
 |callT ho hx hc hv hargs con hp h ih=>intro σ hs;exact .callT (fw hs ho) (evw hs hx) hc (evsw hs hv) hargs con hp fun v η' hk=>ih v η' hk (ext hs)
 |loudE ho hna hdo h ih=>intro σ hs;exact .loudE (fw hs ho) hna (fun ζ o ρ w h1 h2 h3=>hdo ζ o ρ w h1 (knw hs h2) h3) fun v η' hk=>ih v η' hk (ext hs)
 |loudU ho hna hdo h ih=>intro σ hs;exact .loudU ho hna (fun ζ o ρ w h1 h2 h3=>hdo ζ o ρ w h1 (knw hs h2) h3) (ih hs)
 |lastU ho hna hl hdo h=>intro σ hs;exact .lastU ho hna hl (fun o ρ w h1 h2 h3=>hdo o ρ w h1 (knw hs h2) h3) (S.weaken hs h)
 |one hd h ih=>intro σ hs;exact .one hd (ih hs)
 |swap l' hp h ih=>intro σ hs;exact .swap l' hp (ih hs)
 |alt cands hok h ih=>intro σ hs;exact .alt cands hok fun i hi=>ih i hi hs
end
section
variable {ro:Option Nat} {P:Program} {fn:Func} {n:Nat} {R:Ending→World→Prop} {ops:Array Oper} {k:List Item} {D:List Deferred} {g:Gr}
theorem OD.weaken {l:List Nat} {σ' :List (Nat × Value)} {η:List SProp} (h:OD ro P fn n R ops k D g l σ' η):∀ {σ:List (Nat × Value)},Sub σ' σ→OD ro P fn n R ops k D g l σ η:=ODx.weaken h
end
section
variable {ro:Option Nat} {P:Program} {σ σ' :List (Nat × Value)} {g:Gr} {η η' ζ:List SProp} {fn:Func} {n:Nat} {R:Ending→World→Prop} {k K:List Item} {D:List Deferred} {ops:Array Oper} {i d:Nat} {l:List Nat} {t e:TypeId} {x y:Operand} {todo:List Item}
theorem ODt.call0 {f:FuncId} {xs:Array Operand} {ts:Array TypeId} {vals:List Value} {K' :Value→List SProp→Prop} {first cap:Array Value} (ho:Fires ops i n σ d (.call ⟨.value x,xs,ts⟩)) (_:true=true) (hx:ev σ x=some (.func (.func f) first cap)) (hc:callable P f=true) (hv:evs σ xs.toList=some vals) {args:Array Value} (hargs:first++vals.toArray++cap=args) (con:Con P f args g.h [] (Ret K')) (h:∀ v η',K' v η' →OD ro P fn n R ops k D g l ((d,v)::σ) (η' ++η)):ODx ro P fn n R ops k D g true (i::l) σ η:=ODg.call0 (fl:=true) ho rfl hx hc hv hargs con h
end
section
variable {ro:Option Nat} {P:Program} {σ σ' :List (Nat × Value)} {g:Gr} {η η' ζ:List SProp} {fn:Func} {n:Nat} {R:Ending→World→Prop} {k K:List Item} {D:List Deferred} {ops:Array Oper} {i d:Nat} {l:List Nat} {t e:TypeId} {x y:Operand} {todo:List Item}
theorem ODt.callB {f:FuncId} {xs:Array Operand} {ts:Array TypeId} {vals:List Value} {K' :Value→List SProp→Prop} {first cap:Array Value} (ho:Fires ops i n σ d (.call ⟨.value x,xs,ts⟩)) (_:true=true) (hx:ev σ x=some (.func (.func f) first cap)) (hc:callable P f=true) (hv:evs σ xs.toList=some vals) {args:Array Value} (hargs:first++vals.toArray++cap=args) {bs:List SProp} (hb:Sels η bs ζ) (con:∀ m:Fr,Sat bs m→g.h.disj m→Con P f args (g.h.add m) [] (Ret K')) (h:∀ v η',K' v η' →OD ro P fn n R ops k D g l ((d,v)::σ) (η' ++(bs++ζ))):ODx ro P fn n R ops k D g true (i::l) σ η:=ODg.callB (fl:=true) ho rfl hx hc hv hargs hb con h
end
section
variable {ro:Option Nat} {P:Program} {σ σ' :List (Nat × Value)} {g:Gr} {η η' ζ:List SProp} {fn:Func} {n:Nat} {R:Ending→World→Prop} {k K:List Item} {D:List Deferred} {ops:Array Oper} {i d:Nat} {l:List Nat} {t e:TypeId} {x y:Operand} {todo:List Item}
theorem ODg.callS {f:FuncId} {xs:Array Operand} {ts:Array TypeId} {vals:List Value} {K' :Value→List SProp→Prop} {first cap:Array Value} {A:SProp} (ho:Fires ops i n σ d (.call ⟨.value x,xs,ts⟩)) {fl:Bool} (hd:hdOk fl ops i l=true) (hx:ev σ x=some (.func (.func f) first cap)) (hc:callable P f=true)
  (hv:evs σ xs.toList=some vals) {args:Array Value} (hargs:first++vals.toArray++cap=args) (hs:Sel η A ζ) (con:Con P f args g.h [A] (Ret K'))
  (h:∀ v η',K' v η' →OD ro P fn n R ops k D g l ((d,v)::σ) (η' ++ζ)):ODx ro P fn n R ops k D g fl (i::l) σ η :=
 ODx.perm hs.perm (ODg.call (η:=[A]) (ζ:=ζ) ho hd hx hc hv hargs con h)
end
section
variable {ro:Option Nat} {P:Program} {σ σ' :List (Nat × Value)} {g:Gr} {η η' ζ:List SProp} {fn:Func} {n:Nat} {R:Ending→World→Prop} {k K:List Item} {D:List Deferred} {ops:Array Oper} {i d:Nat} {l:List Nat} {t e:TypeId} {x y:Operand} {todo:List Item}
theorem OD.callS {f:FuncId} {xs:Array Operand} {ts:Array TypeId} {vals:List Value} {K' :Value→List SProp→Prop} {first cap:Array Value} {A:SProp} (ho:Fires ops i n σ d (.call ⟨.value x,xs,ts⟩)) (hd:descOk ops [i] l=true) (hx:ev σ x=some (.func (.func f) first cap)) (hc:callable P f=true) (hv:evs σ xs.toList=some vals) {args:Array Value} (hargs:first++vals.toArray++cap=args) (hs:Sel η A ζ) (con:Con P f args g.h [A] (Ret K')) (h:∀ v η',K' v η' →OD ro P fn n R ops k D g l ((d,v)::σ) (η' ++ζ)):OD ro P fn n R ops k D g (i::l) σ η:=ODg.callS (fl:=false) ho (by simpa [hdOk] using hd) hx hc hv hargs hs con h
end
section
variable {ro:Option Nat} {P:Program} {σ σ' :List (Nat × Value)} {g:Gr} {η η' ζ:List SProp} {fn:Func} {n:Nat} {R:Ending→World→Prop} {k K:List Item} {D:List Deferred} {ops:Array Oper} {i d:Nat} {l:List Nat} {t e:TypeId} {x y:Operand} {todo:List Item}
theorem ODt.callS {f:FuncId} {xs:Array Operand} {ts:Array TypeId} {vals:List Value} {K' :Value→List SProp→Prop} {first cap:Array Value} {A:SProp} (ho:Fires ops i n σ d (.call ⟨.value x,xs,ts⟩)) (_:true=true) (hx:ev σ x=some (.func (.func f) first cap)) (hc:callable P f=true) (hv:evs σ xs.toList=some vals) {args:Array Value} (hargs:first++vals.toArray++cap=args) (hs:Sel η A ζ) (con:Con P f args g.h [A] (Ret K')) (h:∀ v η',K' v η' →OD ro P fn n R ops k D g l ((d,v)::σ) (η' ++ζ)):ODx ro P fn n R ops k D g true (i::l) σ η:=ODg.callS (fl:=true) ho rfl hx hc hv hargs hs con h
end
section
variable {ro:Option Nat} {P:Program} {σ:List (Nat × Value)} {g:Gr} {η ζ:List SProp} {fn:Func} {n:Nat} {R:Ending→World→Prop} {k:List Item} {D:List Deferred} {ops:Array Oper} {i d:Nat} {l:List Nat}
 {t e:TypeId} {x y z:Operand} {v:Value} {ka kb:IntKind} {za zb:Int} {a b:Nat} {α:Type} {T:Rp α} {xs:List α} {r:Fr}
theorem ODg.callSs {f:FuncId} {xs:Array Operand} {ts:Array TypeId} {vals:List Value} {K' :Value→List SProp→Prop} {first cap:Array Value} (ho:Fires ops i n σ d (.call ⟨.value x,xs,ts⟩)) {fl:Bool} (hd:hdOk fl ops i l=true) (hx:ev σ x=some (.func (.func f) first cap)) (hc:callable P f=true)
  (hv:evs σ xs.toList=some vals) {args:Array Value} (hargs:first++vals.toArray++cap=args) {bs:List SProp} (hb:Sels η bs ζ) (con:Con P f args g.h bs (Ret K'))
  (h:∀ v η',K' v η' →OD ro P fn n R ops k D g l ((d,v)::σ) (η' ++ζ)):ODx ro P fn n R ops k D g fl (i::l) σ η :=
 ODx.perm hb.perm (ODg.call (ζ:=ζ) ho hd hx hc hv hargs con h)
end
section
variable {ro:Option Nat} {P:Program} {σ:List (Nat × Value)} {g:Gr} {η ζ:List SProp} {fn:Func} {n:Nat} {R:Ending→World→Prop} {k:List Item} {D:List Deferred} {ops:Array Oper} {i d:Nat} {l:List Nat}
 {t e:TypeId} {x y z:Operand} {v:Value} {ka kb:IntKind} {za zb:Int} {a b:Nat} {α:Type} {T:Rp α} {xs:List α} {r:Fr}
theorem OD.callSs {f:FuncId} {xs:Array Operand} {ts:Array TypeId} {vals:List Value} {K' :Value→List SProp→Prop} {first cap:Array Value} (ho:Fires ops i n σ d (.call ⟨.value x,xs,ts⟩)) (hd:descOk ops [i] l=true) (hx:ev σ x=some (.func (.func f) first cap)) (hc:callable P f=true) (hv:evs σ xs.toList=some vals) {args:Array Value} (hargs:first++vals.toArray++cap=args) {bs:List SProp} (hb:Sels η bs ζ) (con:Con P f args g.h bs (Ret K')) (h:∀ v η',K' v η' →OD ro P fn n R ops k D g l ((d,v)::σ) (η' ++ζ)):OD ro P fn n R ops k D g (i::l) σ η:=ODg.callSs (fl:=false) ho (by simpa [hdOk] using hd) hx hc hv hargs hb con h
end
section
variable {ro:Option Nat} {P:Program} {σ:List (Nat × Value)} {g:Gr} {η ζ:List SProp} {fn:Func} {n:Nat} {R:Ending→World→Prop} {k:List Item} {D:List Deferred} {ops:Array Oper} {i d:Nat} {l:List Nat}
 {t e:TypeId} {x y z:Operand} {v:Value} {ka kb:IntKind} {za zb:Int} {a b:Nat} {α:Type} {T:Rp α} {xs:List α} {r:Fr}
end
section
variable {ro:Option Nat} {P:Program} {σ:List (Nat × Value)} {g:Gr} {η ζ:List SProp} {fn:Func} {n:Nat} {R:Ending→World→Prop} {k:List Item} {D:List Deferred} {ops:Array Oper} {i d:Nat} {l:List Nat}
 {t e:TypeId} {x y z:Operand} {v:Value} {ka kb:IntKind} {za zb:Int} {a b:Nat} {α:Type} {T:Rp α} {xs:List α} {r:Fr}
theorem OD.sliceTo (ho:Fires ops i n σ d (.slice t x none (some y) none)) (ht:P.underlying t=some (.slice e)) (he:(P.info? e).map (·.size)=some T.k) (hx:ev σ x=some v) (hy:ev σ y=some (.int kb zb)) (hs:Arr T r v xs) (hz:zb=(b:Int)) (hb:b≤xs.length)
  (h:∀ u,Arr T r u (xs.take b)→OD ro P fn n R ops k D g l ((d,u)::σ) η):OD ro P fn n R ops k D g (i::l) σ η:=by
 subst hz;obtain ⟨u,h1,h2⟩:=slice_does (g:=g) (a:=0) (b:=b) (kl:=.i64) ht he hx (lo:=none) (hi:=some y) (fun _ h=>nomatch h) (fun _=>rfl) (fun _ h=>by cases h;exact hy) (fun h=>nomatch h) hs (Nat.zero_le _) hb;exact .quiet ho rfl h1 (h u h2)
end
section
variable {ro:Option Nat} {P:Program} {σ:List (Nat × Value)} {g:Gr} {η ζ:List SProp} {fn:Func} {n:Nat} {R:Ending→World→Prop} {k:List Item} {D:List Deferred} {ops:Array Oper} {i d:Nat} {l:List Nat}
 {t e:TypeId} {x y z:Operand} {v:Value} {ka kb:IntKind} {za zb:Int} {a b:Nat} {α:Type} {T:Rp α} {xs:List α} {r:Fr}
theorem OD.sliceFrom (ho:Fires ops i n σ d (.slice t x (some y) none none)) (ht:P.underlying t=some (.slice e)) (he:(P.info? e).map (·.size)=some T.k) (hx:ev σ x=some v) (hy:ev σ y=some (.int ka za)) (hs:Arr T r v xs) (hz:za=(a:Int)) (ha:a≤xs.length)
  (h:∀ u,Arr T r u (xs.drop a)→OD ro P fn n R ops k D g l ((d,u)::σ) η):OD ro P fn n R ops k D g (i::l) σ η:=by
 subst hz;obtain ⟨u,h1,h2⟩:=slice_does (g:=g) (a:=a) (b:=xs.length) (kh:=.i64) ht he hx (lo:=some y) (hi:=none) (fun _ h=>by cases h;exact hy) (fun h=>nomatch h) (fun _ h=>nomatch h) (fun _=>rfl) hs ha (Nat.le_refl _);exact .quiet ho rfl h1 (h u (by rw [List.take_length] at h2;exact h2))
end
section
variable {ro:Option Nat} {P:Program} {σ:List (Nat × Value)} {g:Gr} {η ζ:List SProp} {fn:Func} {n:Nat} {R:Ending→World→Prop} {k:List Item} {D:List Deferred} {ops:Array Oper} {i d:Nat} {l:List Nat}
 {t e:TypeId} {x y z:Operand} {v:Value} {ka kb:IntKind} {za zb:Int} {a b:Nat} {α:Type} {T:Rp α} {xs:List α} {r:Fr}
end
section
variable {ro:Option Nat} {P:Program} {σ:List (Nat × Value)} {g:Gr} {η ζ:List SProp} {fn:Func} {n:Nat} {R:Ending→World→Prop} {k:List Item} {D:List Deferred} {ops:Array Oper} {i d:Nat} {l:List Nat}
 {t e:TypeId} {x y z:Operand} {v:Value} {ka kb:IntKind} {za zb:Int} {a b:Nat} {α:Type} {T:Rp α} {xs:List α} {r:Fr}
theorem ODg.storeObj {t T:TypeId} {x y:Operand} {b i:Nat} {cs news:List Value} {v:Value} {j:Nat} (ho:opAtU ops j=some (.store t x y)) {fl:Bool} (hd:hdOk fl ops j l=true) (hsz:(P.info? t).map (·.size)=some news.length) (hx:ev σ x=some (.pointer (some ⟨b,i,none⟩))) (hy:ev σ y=some v)
  (hv:v.cells.toList=news) (h1:news.all (·.oneCell')=true) (hs:Sel η (obj b T cs) ζ) (hl:i+news.length≤cs.length)
  (h:OD ro P fn n R ops k D g l σ (obj b T (cs.take i++news++cs.drop (i+news.length))::ζ)):ODx ro P fn n R ops k D g fl (j::l) σ η :=
 ODx.perm hs.perm (ODg.loudU (η:=obj b T cs::ζ) (η' :=obj b T (cs.take i++news++cs.drop (i+news.length))::ζ) ho rfl hd (fun _=>.storeObj hsz hx hy hv h1 Sel.here hl) h)
end
section
variable {ro:Option Nat} {P:Program} {σ:List (Nat × Value)} {g:Gr} {η ζ:List SProp} {fn:Func} {n:Nat} {R:Ending→World→Prop} {k:List Item} {D:List Deferred} {ops:Array Oper} {i d:Nat} {l:List Nat}
 {t e:TypeId} {x y z:Operand} {v:Value} {ka kb:IntKind} {za zb:Int} {a b:Nat} {α:Type} {T:Rp α} {xs:List α} {r:Fr}
theorem OD.storeObj {t T:TypeId} {x y:Operand} {b i:Nat} {cs news:List Value} {v:Value} {j:Nat} (ho:opAtU ops j=some (.store t x y)) (hd:descOk ops [j] l=true) (hsz:(P.info? t).map (·.size)=some news.length) (hx:ev σ x=some (.pointer (some ⟨b,i,none⟩))) (hy:ev σ y=some v) (hv:v.cells.toList=news) (h1:news.all (·.oneCell')=true) (hs:Sel η (obj b T cs) ζ) (hl:i+news.length≤cs.length) (h:OD ro P fn n R ops k D g l σ (obj b T (cs.take i++news++cs.drop (i+news.length))::ζ)):OD ro P fn n R ops k D g (j::l) σ η:=ODg.storeObj (fl:=false) ho (by simpa [hdOk] using hd) hsz hx hy hv h1 hs hl h
end
section
variable {ro:Option Nat} {P:Program} {σ:List (Nat × Value)} {g:Gr} {η ζ:List SProp} {fn:Func} {n:Nat} {R:Ending→World→Prop} {k:List Item} {D:List Deferred} {ops:Array Oper} {i d:Nat} {l:List Nat}
 {t e:TypeId} {x y z:Operand} {v:Value} {ka kb:IntKind} {za zb:Int} {a b:Nat} {α:Type} {T:Rp α} {xs:List α} {r:Fr}
end
section
variable {ro:Option Nat} {P:Program} {σ:List (Nat × Value)} {g:Gr} {η ζ:List SProp} {fn:Func} {n:Nat} {R:Ending→World→Prop} {k:List Item} {D:List Deferred} {ops:Array Oper} {i d:Nat} {l:List Nat}
 {t e:TypeId} {x y z:Operand} {v:Value} {ka kb:IntKind} {za zb:Int} {a b:Nat} {α:Type} {T:Rp α} {xs:List α} {r:Fr}
theorem ODg.store1 {t T:TypeId} {x y:Operand} {b i:Nat} {cs:List Value} {v:Value} {j:Nat} (ho:opAtU ops j=some (.store t x y)) {fl:Bool} (hd:hdOk fl ops j l=true) (ht:flat1 P t=true) (hx:ev σ x=some (.pointer (some ⟨b,i,none⟩))) (hy:ev σ y=some v)
  (h1:v.oneCell' =true) (hs:Sel η (obj b T cs) ζ) (hl:i<cs.length)
  (h:OD ro P fn n R ops k D g l σ (obj b T (cs.set i v)::ζ)):ODx ro P fn n R ops k D g fl (j::l) σ η :=
 ODx.perm hs.perm (ODg.loudU (η:=obj b T cs::ζ) (η' :=obj b T (cs.set i v)::ζ) ho rfl hd (fun _=>.store1 ht hx hy h1 Sel.here hl) h)
end
section
variable {ro:Option Nat} {P:Program} {σ:List (Nat × Value)} {g:Gr} {η ζ:List SProp} {fn:Func} {n:Nat} {R:Ending→World→Prop} {k:List Item} {D:List Deferred} {ops:Array Oper} {i d:Nat} {l:List Nat}
 {t e:TypeId} {x y z:Operand} {v:Value} {ka kb:IntKind} {za zb:Int} {a b:Nat} {α:Type} {T:Rp α} {xs:List α} {r:Fr}
theorem OD.store1 {t T:TypeId} {x y:Operand} {b i:Nat} {cs:List Value} {v:Value} {j:Nat} (ho:opAtU ops j=some (.store t x y)) (hd:descOk ops [j] l=true) (ht:flat1 P t=true) (hx:ev σ x=some (.pointer (some ⟨b,i,none⟩))) (hy:ev σ y=some v) (h1:v.oneCell' =true) (hs:Sel η (obj b T cs) ζ) (hl:i<cs.length) (h:OD ro P fn n R ops k D g l σ (obj b T (cs.set i v)::ζ)):OD ro P fn n R ops k D g (j::l) σ η:=ODg.store1 (fl:=false) ho (by simpa [hdOk] using hd) ht hx hy h1 hs hl h
end
section
variable {ro:Option Nat} {P:Program} {σ:List (Nat × Value)} {g:Gr} {η ζ:List SProp} {fn:Func} {n:Nat} {R:Ending→World→Prop} {k:List Item} {D:List Deferred} {ops:Array Oper} {i d:Nat} {l:List Nat}
 {t e:TypeId} {x y z:Operand} {v:Value} {ka kb:IntKind} {za zb:Int} {a b:Nat} {α:Type} {T:Rp α} {xs:List α} {r:Fr}
end
section
variable {ro:Option Nat} {P:Program} {fn:Func} {n:Nat} {R:Ending→World→Prop} {k:List Item} {σ:List (Nat × Value)} {D:List Deferred} {g:Gr} {η ζ θ:List SProp} {ops:Array Oper} {L l:List Nat} {i d:Nat} {t e:TypeId} {x y z:Operand} {α:Type} {T:Rp α}
theorem ODg.idxOwn {v:Value} {xs:List α} {j:Nat} {kd:IntKind} (ho:Fires ops i n σ d (.indexAddr t x y)) {fl:Bool} (hd:hdOk fl ops i l=true) (ht:P.underlying t=some (.slice e)) (he:(P.info? e).map (·.size)=some T.k) (hx:ev σ x=some v) {zi:Int} (hy:ev σ y=some (.int kd zi)) (hzi:zi=(j:Int))
  (hs:Sel η (OwnP T e v xs) ζ) (hj:j<xs.length) (h:∀ p,PtrIn v T.k j p→OD ro P fn n R ops k D g l ((d,.pointer (some p))::σ) η):ODx ro P fn n R ops k D g fl (i::l) σ η :=
 ODx.perm hs.perm (ODg.loudE (η:=OwnP T e v xs::ζ) (K:=fun u η' =>∃ p,u=.pointer (some p)∧PtrIn v T.k j p∧η' =OwnP T e v xs::ζ) ho rfl hd
  (fun _=>(DoesE.idxOwn ht he hx hy hzi Sel.here hj).imp fun _ _ ⟨p,a,b,c⟩=>⟨_,⟨p,a,b,rfl⟩,c⟩) fun _ _ ⟨p,a,b,c⟩=>by subst a;subst c;exact ODx.perm hs.perm.symm (h p b))
end
section
variable {ro:Option Nat} {P:Program} {fn:Func} {n:Nat} {R:Ending→World→Prop} {k:List Item} {σ:List (Nat × Value)} {D:List Deferred} {g:Gr} {η ζ θ:List SProp} {ops:Array Oper} {L l:List Nat} {i d:Nat} {t e:TypeId} {x y z:Operand} {α:Type} {T:Rp α}
theorem OD.idxOwn {v:Value} {xs:List α} {j:Nat} {kd:IntKind} (ho:Fires ops i n σ d (.indexAddr t x y)) (hd:descOk ops [i] l=true) (ht:P.underlying t=some (.slice e)) (he:(P.info? e).map (·.size)=some T.k) (hx:ev σ x=some v) {zi:Int} (hy:ev σ y=some (.int kd zi)) (hzi:zi=(j:Int)) (hs:Sel η (OwnP T e v xs) ζ) (hj:j<xs.length) (h:∀ p,PtrIn v T.k j p→OD ro P fn n R ops k D g l ((d,.pointer (some p))::σ) η):OD ro P fn n R ops k D g (i::l) σ η:=ODg.idxOwn (fl:=false) ho (by simpa [hdOk] using hd) ht he hx hy hzi hs hj h
end
section
variable {ro:Option Nat} {P:Program} {fn:Func} {n:Nat} {R:Ending→World→Prop} {k:List Item} {σ:List (Nat × Value)} {D:List Deferred} {g:Gr} {η ζ θ:List SProp} {ops:Array Oper} {L l:List Nat} {i d:Nat} {t e:TypeId} {x y z:Operand} {α:Type} {T:Rp α}
end
section
variable {ro:Option Nat} {P:Program} {fn:Func} {n:Nat} {R:Ending→World→Prop} {k:List Item} {σ:List (Nat × Value)} {D:List Deferred} {g:Gr} {η ζ θ:List SProp} {ops:Array Oper} {L l:List Nat} {i d:Nat} {t e:TypeId} {x y z:Operand} {α:Type} {T:Rp α}
theorem ODg.storeOwn {v u:Value} {xs:List α} {j q:Nat} {p:Addr} {a:α} (ho:opAtU ops q=some (.store t x y)) {fl:Bool} (hd:hdOk fl ops q l=true) (hsz:(P.info? t).map (·.size)=some T.k) (hx:ev σ x=some (.pointer (some p))) (hp:PtrIn v T.k j p) (hy:ev σ y=some u)
  (hs:Sel η (OwnP T e v xs) ζ) (hj:j<xs.length) (hu:T.rel Fr.emp u.cells.toList a) (h:OD ro P fn n R ops k D g l σ (OwnP T e v (xs.set j a)::ζ)):ODx ro P fn n R ops k D g fl (q::l) σ η :=
 ODx.perm hs.perm (ODg.loudU (η:=OwnP T e v xs::ζ) (η' :=OwnP T e v (xs.set j a)::ζ) ho rfl hd (fun _=>.storeOwn hsz hx hp hy Sel.here hj hu) h)
end
section
variable {ro:Option Nat} {P:Program} {fn:Func} {n:Nat} {R:Ending→World→Prop} {k:List Item} {σ:List (Nat × Value)} {D:List Deferred} {g:Gr} {η ζ θ:List SProp} {ops:Array Oper} {L l:List Nat} {i d:Nat} {t e:TypeId} {x y z:Operand} {α:Type} {T:Rp α}
theorem OD.storeOwn {v u:Value} {xs:List α} {j q:Nat} {p:Addr} {a:α} (ho:opAtU ops q=some (.store t x y)) (hd:descOk ops [q] l=true) (hsz:(P.info? t).map (·.size)=some T.k) (hx:ev σ x=some (.pointer (some p))) (hp:PtrIn v T.k j p) (hy:ev σ y=some u) (hs:Sel η (OwnP T e v xs) ζ) (hj:j<xs.length) (hu:T.rel Fr.emp u.cells.toList a) (h:OD ro P fn n R ops k D g l σ (OwnP T e v (xs.set j a)::ζ)):OD ro P fn n R ops k D g (q::l) σ η:=ODg.storeOwn (fl:=false) ho (by simpa [hdOk] using hd) hsz hx hp hy hs hj hu h
end
section
variable {ro:Option Nat} {P:Program} {fn:Func} {n:Nat} {R:Ending→World→Prop} {k:List Item} {σ:List (Nat × Value)} {D:List Deferred} {g:Gr} {η ζ θ:List SProp} {ops:Array Oper} {L l:List Nat} {i d:Nat} {t e:TypeId} {x y z:Operand} {α:Type} {T:Rp α}
end
section
variable {ro:Option Nat} {P:Program} {fn:Func} {n:Nat} {R:Ending→World→Prop} {k:List Item} {σ:List (Nat × Value)} {D:List Deferred} {g:Gr} {η ζ θ:List SProp} {ops:Array Oper} {L l:List Nat} {i d:Nat} {t e:TypeId} {x y z:Operand} {α:Type} {T:Rp α}
theorem OD.slot {v v' :Value} (q:Nat) (hl:look σ q=some v) (h0:v=v') (h:OD ro P fn n R ops k D g L ((q,v')::σ) η):OD ro P fn n R ops k D g L σ η:=OD.weaken h (Sub.consE hl h0 Sub.refl)
end
section
variable {ro:Option Nat} {P:Program} {σ:List (Nat × Value)} {g:Gr} {η ζ:List SProp} {fn:Func} {n:Nat} {R:Ending→World→Prop} {K:List Item} {D:List Deferred} {ops:Array Oper} {i d:Nat} {l:List Nat}
 {t e:TypeId} {x y:Operand} {v:Value} {kd:IntKind} {j:Nat}
theorem OD.idx' {α:Type} {T:Rp α} {xs:List α} (ho:Fires ops i n σ d (.indexAddr t x y)) (ht:P.underlying t=some (.slice e)) (he:(P.info? e).map (·.size)=some T.k) (hx:ev σ x=some v)
  {zi:Int} (hy:ev σ y=some (.int kd zi)) (hzi:zi=(j:Int)) (hs:Arr T g.h v xs) (hk0:0<T.k) (hm:j<xs.length)
  (h:∀ p cs,At g.h p cs→T.rel g.h cs xs[j]→OD ro P fn n R ops K D g l ((d,.pointer (some p))::σ) η):OD ro P fn n R ops K D g (i::l) σ η:=by
 obtain ⟨p,cs,h1,h2,h3⟩:=idx_does ht he hx hy hzi hs hk0 hm;exact .quiet ho rfl h1 (h p cs h2 h3)
end
section
variable {ro:Option Nat} {P:Program} {fn:Func} {n:Nat} {R:Ending→World→Prop} {ops:Array Oper} {K:List Item} {σ:List (Nat × Value)} {D:List Deferred} {g:Gr} {η:List SProp} {i d:Nat} {l:List Nat} {t e:TypeId} {x y:Operand} {v:Value} {kd:IntKind} {j:Nat} {r:Fr}
end
section
variable {ro:Option Nat} {P:Program} {fn:Func} {n:Nat} {R:Ending→World→Prop} {k:List Item} {σ σ' :List (Nat × Value)} {D:List Deferred} {g:Gr} {η ζ:List SProp} {ops:Array Oper} {L l:List Nat} {todo:List Item} {t e:TypeId} {x y:Operand} {v:Value}
theorem OD.sT {b:Bool} (s:Nat) (hl:look σ s=some (.bool b)) (e:b=true) (h:OD ro P fn n R ops k D g L ((s,.bool true)::σ) η):OD ro P fn n R ops k D g L σ η:=OD.slot s hl (congrArg Value.bool e) h
end
section
variable {ro:Option Nat} {P:Program} {fn:Func} {n:Nat} {R:Ending→World→Prop} {k:List Item} {σ σ' :List (Nat × Value)} {D:List Deferred} {g:Gr} {η ζ:List SProp} {ops:Array Oper} {L l:List Nat} {todo:List Item} {t e:TypeId} {x y:Operand} {v:Value}
theorem OD.sF {b:Bool} (s:Nat) (hl:look σ s=some (.bool b)) (e:b=false) (h:OD ro P fn n R ops k D g L ((s,.bool false)::σ) η):OD ro P fn n R ops k D g L σ η:=OD.slot s hl (congrArg Value.bool e) h
end
section
variable {ro:Option Nat} {P:Program} {fn:Func} {n:Nat} {R:Ending→World→Prop} {k:List Item} {σ σ' :List (Nat × Value)} {D:List Deferred} {g:Gr} {η ζ:List SProp} {ops:Array Oper} {L l:List Nat} {todo:List Item} {t e:TypeId} {x y:Operand} {v:Value}
theorem OD.ia {α:Type} {T:Rp α} {xs:List α} {i d j:Nat} {kd:IntKind} {zi:Int} (ho:Fires ops i n σ d (.indexAddr t x y)) (ht:P.underlying t=some (.slice e)) (he:(P.info? e).map (·.size)=some T.k) (hx:ev σ x=some v) (hy:ev σ y=some (.int kd zi)) (hzi:zi=(j:Int)) (hs:Arr T g.h v xs)
  (hk0:0<T.k:=by decide) (hm:j<xs.length:=by first|omega|(simp;done)|(simp;omega)|decide) (h:∀ p cs,At g.h p cs→T.rel g.h cs xs[j]→OD ro P fn n R ops k D g l ((d,.pointer (some p))::σ) η):OD ro P fn n R ops k D g (i::l) σ η:=OD.idx' ho ht he hx hy hzi hs hk0 hm h
end
section
variable {ro:Option Nat} {P:Program} {fn:Func} {n:Nat} {R:Ending→World→Prop} {k:List Item} {σ σ' :List (Nat × Value)} {D:List Deferred} {g:Gr} {η ζ:List SProp} {ops:Array Oper} {L l:List Nat} {todo:List Item} {t e:TypeId} {x y:Operand} {v:Value}
end
section
variable {ro:Option Nat} {P:Program} {fn:Func} {n:Nat} {R:Ending→World→Prop} {ops:Array Oper} {k:List Item} {σ:List (Nat × Value)} {D:List Deferred} {g:Gr} {η ζ θ:List SProp} {t e:TypeId} {x y:Operand}
end
section
theorem OD.loadL {P:Program} {ro:Option Nat} {fn:Func} {n:Nat} {R:Ending→World→Prop} {k:List Item} {σ:List (Nat × Value)} {D:List Deferred} {g:Gr} {η:List SProp} {ops:Array Oper} {l:List Nat} {i d:Nat} {t:TypeId} {x:Operand} {v:Value}
  (ho:Fires ops i n σ d (.load t x)) (hd:descOk ops [i] l=true) (hdo:∀ ζ,Does P (.load t x) σ g (η++ζ) v (η++ζ)) (h:OD ro P fn n R ops k D g l ((d,v)::σ) η):OD ro P fn n R ops k D g (i::l) σ η :=
 .loudE (K:=fun v' η' =>v' =v∧η' =η) ho rfl hd (fun ζ o ρ w h1 h2 h3=>let ⟨w',a,b⟩:=hdo ζ o ρ w h1 h2 h3;⟨v,w',η++ζ,⟨η,⟨rfl,rfl⟩,rfl⟩,a,b⟩) (by rintro _ _ ⟨rfl,rfl⟩;exact h)
end
section
theorem ODt.loadL {P:Program} {ro:Option Nat} {fn:Func} {n:Nat} {R:Ending→World→Prop} {k:List Item} {σ:List (Nat × Value)} {D:List Deferred} {g:Gr} {η:List SProp} {ops:Array Oper} {l:List Nat} {i d:Nat} {t:TypeId} {x:Operand} {v:Value}
  (ho:Fires ops i n σ d (.load t x)) (_:true=true) (hdo:∀ ζ,Does P (.load t x) σ g (η++ζ) v (η++ζ)) (h:OD ro P fn n R ops k D g l ((d,v)::σ) η):ODx ro P fn n R ops k D g true (i::l) σ η :=
 ODt.loudE (K:=fun v' η' =>v' =v∧η' =η) ho rfl rfl (fun ζ o ρ w h1 h2 h3=>let ⟨w',a,b⟩:=hdo ζ o ρ w h1 h2 h3;⟨v,w',η++ζ,⟨η,⟨rfl,rfl⟩,rfl⟩,a,b⟩) (by rintro _ _ ⟨rfl,rfl⟩;exact h)
end
section
variable {ro:Option Nat} {P:Program} {fn:Func} {n:Nat} {R:Ending→World→Prop} {ops:Array Oper} {k:List Item} {D:List Deferred} {g:Gr} {σ:List (Nat × Value)} {η η' ζ:List SProp} {l:List Nat} {i d t e:Nat} {x:Operand} {α:Type} {T:Rp α}
theorem ODt.litP {by_ len:Nat} {z:List Value} {parts:Array (Nat × Operand)} {vs:List Value} {ys:List α} (ho:Fires ops i n σ d (.buildSlice t len parts)) (hna:isAlloc (.buildSlice t len parts)=false) (_:true=true) (ht:P.underlying t=some (.slice e)) (he:elemIs P e T.k by_ z) (hk:0<T.k) (hp:partsOf σ parts.toList 0=some vs) (hlen:parts.toList.length=len) (hvs:All2 (T.rel Fr.emp) (vs.map (·.cells.toList)) ys) (h24:len*T.k≤16777216) (h:∀ a c,OD ro P fn n R ops k D g l ((d,.slice a len c)::σ) (OwnP T e (.slice a len c) ys::η)):ODx ro P fn n R ops k D g true (i::l) σ η:=ODg.litP (fl:=true) ho hna rfl ht he hk hp hlen hvs h24 h
end
end Go.Sp.Y
namespace Go.Sp
theorem OwnP.addr {α:Type} {T:Rp α} {e:TypeId} {a:Option Addr} {n c:Nat} {xs:List α} {m:Fr} (h:OwnP T e (.slice a n c) xs m) (hne:0<xs.length):∃ b,a=some ⟨b,0,none⟩:=by
 obtain ⟨css,_,hl,hA⟩:=h
 rcases hA with ⟨_,h0⟩|⟨b,cap,cur,hv,_⟩
 ·omega
 ·cases hv;exact ⟨b,rfl⟩
theorem Does.idxS {P:Program} {σ:List (Nat × Value)} {g:Gr} {η:List SProp} {t e:TypeId} {x y:Operand} {K b m c j:Nat} {kd:IntKind} (ht:P.underlying t=some (.slice e)) (he:(P.info? e).map (·.size)=some K) (hx:ev σ x=some (.slice (some ⟨b,0,none⟩) m c)) {zi:Int} (hy:ev σ y=some (.int kd zi)) (hzi:zi=(j:Int)) (hj:j<m) :
  Does P (.indexAddr t x y) σ g η (.pointer (some ⟨b,j*K,none⟩)) η:=.run fun o ρ w ho hk=>by
 subst hzi;have e1:(⟨b,0,none⟩:Addr).add (j*K)=⟨b,j*K,none⟩:=by rw [add_lit];simp
 simp [execOp,ho,hk x _ hx,hk y _ hy,Instr.indexAt,asIntOf,run_underlying ht,hj,run_sizeOf he,e1]
end Go.Sp
