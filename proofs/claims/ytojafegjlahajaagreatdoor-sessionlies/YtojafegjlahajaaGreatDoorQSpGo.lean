/- Texts of this proof, one behind the other. -/
import Derived.Test.YtojafegjlahajaaGreatDoorQSpLoop
import Derived.KernelRfl
set_option linter.unusedSectionVars false
section
/- Texts of this proof, one behind the other. -/
section
/- Texts of this proof. -/
namespace Go.Sp
section
variable {ro:Option Nat} {P:Program} {fn:Func} {n:Nat} {R:Ending→World→Prop} {ops:Array Oper} {k:List Item} {σ:List (Nat × Value)} {D:List Deferred} {g:bk} {U ζ aO:List az} {t e:TypeId} {x y:Operand}
theorem S.iD {todo:List Item} {B:az} (s:a_ U B ζ) (h:∀ g' :bk,g.h.sub g'.h→(∃ m:Fr,B m∧m.sub g'.h)→(∀ {w:World} {aO:List az},Holds w g' aO→Holds w g (B::aO))→S ro P fn n R todo σ D g' ζ):S ro P fn n R todo σ D g U :=
 S.cr s (S.freeze fun m hm hd=>h (g.add m) (Fr.de _ _) ⟨m,hm,Fr.dL hd⟩ fun hw=>hw.oH hm hd)
theorem af.xX {g0:bk} {T:TypeId} {b i j:Nat} {cs:List Value} {v:Value} (ho:ko ops j=some (.store t x y)) (hl:Jt ops j=true) (QS:∀ w,Holds w g U→Holds w g0 ζ) (ht:dU P t=true) (hx:aA σ x=some (.pointer (some ⟨b,i,none⟩))) (hy:aA σ y=some v)
  (h1:v.oneCell' =true) (hs:a_ ζ (obj b T cs) aO) (hc:i<cs.length) (h:S none P fn n R k σ D g0 (obj b T (cs.set i v)::aO)):af P fn n R ops k D g [j] σ U :=
 .one rfl (.q3 ho rfl hl (fun o ρ w q1 q2 cF=>let ⟨w',a,b⟩:=ku.bn ht hx hy h1 hs hc o ρ w q1 q2 (QS w cF);⟨w',.skip,a,.inl rfl,b⟩) h)
theorem S.fold {todo:List Item} {A:az} {bs:List az} (hA:∀ m,Sat bs m→A m) (h:S ro P fn n R todo σ D g (A::ζ)):S ro P fn n R todo σ D g (bs++ζ) :=
 S.imp' (U:=bs++ζ) (ζ:=A::ζ) (fun m hm=>by
  obtain ⟨m1,m2,d,s1,s2,x,y⟩:=Sat.split hm;exact ⟨m1,m2,d,s1,s2,hA _ x,y⟩) h
theorem S.open {todo:List Item} {α:Type} {A:az} {bs:α→List az} (s:a_ U A ζ) (hA:∀ m,A m→∃ x,Sat (bs x) m) (h:∀ x,S ro P fn n R todo σ D g (bs x++ζ)):S ro P fn n R todo σ D g U :=
 S.cr s (S.wV (ζ:=[fun m=>∃ x,Sat (bs x) m]) (fun m hm=>⟨m,Fr.emp,Fr.eZ (Fr.dZ _),Fr.bU _,Fr.cV _,hA m hm,trivial⟩) (S.s7 fun x=>S.wV (fun _ q=>q) (h x)))
theorem S.jr {todo:List Item} {α:Type} {T:ag α} {e:TypeId} {v v' :Value} {xs xs' :List α} (s:a_ U (av T e v xs) ζ) (hv:v=v') (hx:xs=xs') (h:S ro P fn n R todo σ D g (av T e v' xs' ::ζ)):S ro P fn n R todo σ D g U:=by
 subst hv hx;exact S.cr s h
theorem S8 (a b:List (Nat × Value)) (t:Nat):look (a++b) t=match look a t with|some v=>some v|none=>look b t:=by
 induction a with
 |nil=>rfl
 |cons x a ih =>
  cases hq:x.1.beq t
  ·simp only [List.cons_append,look,hq];exact ih
  ·simp only [List.cons_append,look,hq]
theorem Sub.app {a b σ:List (Nat × Value)} (ha:Sub a σ) (hb:Sub b σ):Sub (a++b) σ:=fun t v h=>by
 rw [S8] at h
 cases hq:look a t with
 |some u=>rw [hq] at h;exact ha t v (by rw [hq];exact h)
 |none=>rw [hq] at h;exact hb t v h
theorem S.Ft {α:Type} {L:List Nat} {id:Nat} (lv:α→List (Nat × Value)) (uI:List (Nat × Value)) (ax :α→List az) (_:Sub uI σ) (hm:P.follows .mixedOrders=true) (hok:AA P n ops L=true)
  (h1:∀ kk,(∀ x,S none P fn n R kk (lv x++uI) D g (ax x))→af P fn n R ops kk D g L σ U) (h2:∀ x,S none P fn n R k (lv x++uI) D g (ax x)):S none P fn n R (.code (.region id ops true)::k) σ D g U :=
 S.bB hm hok (h1 k h2)
theorem S.zc {ro:Option Nat} {α:Type} {i0 i1:Item} {kk:List Item} (φ:α→Prop) (lv:α→List (Nat × Value)) (uI:List (Nat × Value)) (ax :α→List az) (_:Sub uI σ)
  (h1:(∀ x,φ x→S ro P fn n R kk (lv x++uI) D g (ax x))→S ro P fn n R (i0::i1::kk) σ D g U) (h2:∀ x,φ x→S ro P fn n R kk (lv x++uI) D g (ax x)):S ro P fn n R (i0::i1::kk) σ D g U:=h1 h2
theorem bC.pR {t2:TypeId} {xs:List UInt8} (ht:P.underlying t=some .string) (ht2:P.underlying t2=some (.slice e)) (he:P.underlying e=some (.int .u8)) (hx:aA σ x=some (.string (str xs))) (hl:xs.length≤9223372036854775807) :
  bC P (.convert t t2 x) σ g U fun u ax =>∃ a c,u=.slice a xs.length c∧ax =av ag.u8 e u xs::U :=
 fun o ρ w ho hk hw=>by
  have hr:=Lib.run_convert_string_bytes (P:=P) w t t2 e (str xs) ht ht2 he;have ho' :(execOp ρ o).run P w=.ok (.value (.slice (some ⟨w.heap.size,0,none⟩) (str xs).size (grownCap w (str xs).size 0 e))) (Lib.bytesWorld w e (str xs)):=by
   simp [execOp,ho,hk x _ hx,hr]
  have hge:=grownCap_ge w (str xs).size 0 e;have hcm:=grownCap_le_maxLen w (str xs).size 0 e (by simpa [maxLen] using hl);rw [sB] at hge hcm;have hh:Holds (Lib.bytesWorld w e (str xs)) g (blk w.heap.size (.cells (Lib.bytesCells w e (str xs)) e ((Lib.bytesCells w e (str xs)).size,(Lib.bytesCells w e (str xs)).size+1))::U):=by
   have h1:Holds (w.drew.alloc (.cells (Lib.bytesCells w e (str xs)) e)) g (blk w.heap.size (.cells (Lib.bytesCells w e (str xs)) e)::U):=(hw.drewN (w.drawn+1) (Nat.le_add_right _ _)).alloc _;refine h1.setBlock (Lib.bytesWorld_at_new w e (str xs)) ?_ rfl rfl rfl
   intro i hi
   have:w.heap.size≠i:=fun h=>hi h.symm
   simp [Lib.bytesWorld,World.freeze,Array.getElem?_modify,this]
  have hsz:(Lib.bytesCells w e (str xs)).size=grownCap w xs.length 0 e:=by
   simp only [Lib.bytesCells,Array.size_append,Array.size_map,Array.size_replicate,sB]
   simp [str];omega
  have e1:(xs.map (fun b=>[bD b])).flatten=xs.map bD:=by
   clear hx hl hr ho' hge hcm hh hsz
   induction xs with
   |nil=>rfl
   |cons a xs ih=>simp [ih]
  refine ⟨_,_,_,⟨some ⟨w.heap.size,0,none⟩,grownCap w xs.length 0 e,by rw [sB],rfl⟩,ho',?_⟩;rw [sB];refine (hh.ua (k:=1) (m:=xs.length) (cap:=grownCap w xs.length 0 e) (cs:=(xs.map (fun b=>[bD b])).flatten) (fun j hj h=>by have h1:=h.1;simp only [hsz] at h1;omega) hge (by simpa [maxLen] using hcm) (by rw [hsz];simp) ?_).imp fun _ =>
   Sat.fk (av.of (T:=ag.u8) (ak:=xs.map fun b=>[bD b]) (Gv (fun _=>rfl) xs) rfl rfl rfl) fun _ q=>q
  rw [e1];simp only [Lib.bytesCells,Nat.mul_one]
  simp [str,bD]
theorem af.BO {l:List Nat} (a b c:Nat) (la lb lc:List Nat) (hok:wE ops [a,b,c] l=true) (ha:l.erase a=la) (hb:l.erase b=lb) (hc:l.erase c=lc)
  (h1:aI P fn n R ops k D g true (a::la) σ U) (h2:aI P fn n R ops k D g true (b::lb) σ U) (h3:aI P fn n R ops k D g true (c::lc) σ U):af P fn n R ops k D g l σ U:=by
 subst ha hb hc;refine .alt [a,b,c] hok fun i hi=>?_;simp only [List.mem_cons,List.not_mem_nil,or_false] at hi
 rcases hi with rfl|rfl|rfl
 ·exact h1
 ·exact h2
 ·exact h3
theorem cK.pR {fl:Bool} {i d:Nat} {t2:TypeId} {xs:List UInt8} {l:List Nat} (ho:bG ops i n σ d (.convert t t2 x)) (hd:ed fl ops i l=true) (ht:P.underlying t=some .string) (ht2:P.underlying t2=some (.slice e)) (he:P.underlying e=some (.int .u8)) (hx:aA σ x=some (.string (str xs))) (hl:xs.length≤9223372036854775807)
  (h:∀ a c,af P fn n R ops k D g l ((d,.slice a xs.length c)::σ) (av ag.u8 e (.slice a xs.length c) xs::U)):aI P fn n R ops k D g fl (i::l) σ U :=
 cK.gd (K:=fun u ax =>∃ a c,u=.slice a xs.length c∧ax =av ag.u8 e u xs::U) ho rfl hd
  (fun ζ=>(bC.pR (U:=U++ζ) ht ht2 he hx hl).imp fun v ax ⟨a,c,h1,h2⟩=>⟨_,⟨a,c,h1,rfl⟩,h2⟩) (by rintro v _ ⟨a,c,rfl,rfl⟩;exact h a c)
theorem af.pR {i d:Nat} {t2:TypeId} {xs:List UInt8} {l:List Nat} (ho:bG ops i n σ d (.convert t t2 x)) (hd:eF ops [i] l=true) (ht:P.underlying t=some .string) (ht2:P.underlying t2=some (.slice e)) (he:P.underlying e=some (.int .u8)) (hx:aA σ x=some (.string (str xs))) (hl:xs.length≤9223372036854775807)
  (h:∀ a c,af P fn n R ops k D g l ((d,.slice a xs.length c)::σ) (av ag.u8 e (.slice a xs.length c) xs::U)):af P fn n R ops k D g (i::l) σ U:=cK.pR (fl:=false) ho (by simpa [ed] using hd) ht ht2 he hx hl h
theorem bO.pR {i d:Nat} {t2:TypeId} {xs:List UInt8} {l:List Nat} (ho:bG ops i n σ d (.convert t t2 x)) (_:true=true) (ht:P.underlying t=some .string) (ht2:P.underlying t2=some (.slice e)) (he:P.underlying e=some (.int .u8)) (hx:aA σ x=some (.string (str xs))) (hl:xs.length≤9223372036854775807)
  (h:∀ a c,af P fn n R ops k D g l ((d,.slice a xs.length c)::σ) (av ag.u8 e (.slice a xs.length c) xs::U)):aI P fn n R ops k D g true (i::l) σ U:=cK.pR (fl:=true) ho rfl ht ht2 he hx hl h
end
end Go.Sp
end
section
/- Texts of this proof, one behind the other. -/
section
/- Texts of this proof. -/
namespace Go.Sp
theorem b6.E1 {β α:Type} {A:β→α→az}:∀ {bs:List β} {as:List α} {m:Fr},bs.length=as.length→Sat (List.zipWith A bs as) m→b6 A bs as m
 |[],[],_,_,_=>trivial
 |[],_::_,_,h,_=>by cases h
 |_::_,[],_,h,_=>by cases h
 |b::bs,a::as,m,hl,h=>by
  obtain ⟨h1,h2,d,s1,s2,x,y⟩:=h;exact ⟨h1,h2,d,s1,s2,x,h2,Fr.emp,Fr.eZ (Fr.dZ _),Fr.bU _,Fr.cV _,b6.E1 (by simpa using hl) y,trivial⟩
section
variable {ro:Option Nat} {P:Program} {fn:Func} {n:Nat} {R:Ending→World→Prop} {σ:List (Nat × Value)} {D:List Deferred} {g:bk} {U ζ:List az} {todo:List Item} {ops:Array Oper} {L:List Nat} {k:List Item}
theorem S.cB {A:az} {bs:List az} (hb:jM U bs ζ) (hA:∀ m,Sat bs m→A m) (h:S ro P fn n R todo σ D g (A::ζ)):S ro P fn n R todo σ D g U :=
 S.perm hb.perm (S.fold hA h)
theorem S.u_ {β α:Type} (A:β→α→az) {bs:List β} {ys:List α} (hb:jM U (List.zipWith A bs ys) ζ) (hl:bs.length=ys.length) (h:S ro P fn n R todo σ D g (b6 A bs ys::ζ)):S ro P fn n R todo σ D g U :=
 S.cB hb (fun _ z=>b6.E1 hl z) h
end
theorem JA:∀ x y:List UInt8,Op.bytesLess x y=decide (x<y)
 |x,[]=>by cases x<;>simp [Op.bytesLess]
 |[],_::_=>by simp [Op.bytesLess]
 |a::x,b::y=>by
  rw [Op.bytesLess,JA x y];rw [Bool.eq_iff_iff]
  simp [List.cons_lt_cons_iff]
theorem S_ (x y:List UInt8):Op.bytesLess (str x).toList (str y).toList=decide (x<y):=by rw [K_,K_,JA]
theorem S.back {ro:Option Nat} {P:Program} {fn:Func} {n:Nat} {R:Ending→World→Prop} {σ:List (Nat × Value)} {D:List Deferred} {g g' :bk} {U:List az} {todo:List Item} {B:az} (hb:∀ {w:World} {aO:List az},Holds w g' aO→Holds w g (B::aO)) (h:S ro P fn n R todo σ D g (B::U)):S ro P fn n R todo σ D g' U :=
 fun a w hf hd hw=>h a w hf hd (hb hw)
theorem iy {g g' :bk} {B:az} {Post:Ending→List az→Prop} {R:Ending→World→Prop} (hR:∀ e ax w',Post e ax →Holds w' g ax →R e w') (hb:∀ {w:World} {aO:List az},Holds w g' aO→Holds w g (B::aO)) :
  ∀ e ax w',Post e ax →Holds w' g' ax →R e w' :=fun e ax w' p h=>hR e ax w' p (hb h).drop
def ag.G8 {α β:Type} (f:α→β) (T:ag β):ag α:={ k:=T.k,rel:=fun h cs a=>T.rel h cs (f a),len:=fun h=>T.len h,mono:=fun s h=>T.mono s h,one:=fun h=>T.one h }
theorem Fr.sub.mono {a b c:Fr} (h:a.sub b) (k:b.sub c):a.sub c:=Fr.aH h k
section
variable {ro:Option Nat} {P:Program} {fn:Func} {n:Nat} {R:Ending→World→Prop} {ops:Array Oper} {K:List Item} {σ:List (Nat × Value)} {D:List Deferred} {g:bk} {U:List az} {i d:Nat} {l:List Nat} {t e:TypeId} {x y:Operand} {v:Value} {kd:IntKind} {j:Nat} {r:Fr}
theorem Jf {α:Type} {T:ag α} {xs:List α} (ht:P.underlying t=some (.slice e)) (he:(P.info? e).map (·.size)=some T.k) (hx:aA σ x=some v) {b_:Int} (hy:aA σ y=some (.int kd b_)) (dV:b_=(j:Int))
  (hs:aj T r v xs) (gD:0<T.k) (hm:j<xs.length):∃ p cs,(∀ U,aF P (.indexAddr t x y) σ g U (.pointer (some p)) U)∧At r p cs∧T.rel r cs xs[j]:=by
 subst dV;obtain ⟨ak,ha,fI⟩:=hs;obtain ⟨a,cap,rfl,h1,h2,h3,h4⟩:=fI
 cases a with
 |none =>
  have:0<ak.flatten.length:=by rw [h3];exact Nat.mul_pos (by omega) gD
  obtain ⟨p,hp,_⟩:=h4 0 this
  cases hp
 |some a =>
  have hj:j<ak.length:=by rw [ha.length];exact hm
  refine ⟨a.add (j*T.k),ak[j],fun U=>.run fun o ρ w ho hk=>?_,?_,ha.get j hj hm⟩
  ·have hij:(j:Int)<(xs.length:Int):=by omega
   simp [execOp,ho,hk x _ hx,hk y _ hy,Instr.indexAt,asIntOf,run_underlying ht,hm,run_sizeOf he]
  ·rw [← ha.s8 j hj]
   intro q hq
   rw [Addr.add_add];have xG :j*T.k+q<ak.flatten.length:=by simp only [List.length_take,List.length_drop] at hq;omega
   obtain ⟨p,hp,hc⟩:=h4 _ xG
   cases hp
   rw [hc];simp
theorem O.xS {α:Type} {T:ag α} {xs:List α} (ho:bG ops i n σ d (.indexAddr t x y)) (ht:P.underlying t=some (.slice e)) (he:(P.info? e).map (·.size)=some T.k) (hx:aA σ x=some v)
  {b_:Int} (hy:aA σ y=some (.int kd b_)) (dV:b_=(j:Int)) (hs:aj T r v xs) (hr:r.sub g.h) (gD:0<T.k) (hm:j<xs.length)
  (h:∀ p cs,At g.h p cs→T.rel r cs xs[j]→O ro P fn n R ops l K ((d,.pointer (some p))::σ) D g U):O ro P fn n R ops (i::l) K σ D g U:=by
 obtain ⟨p,cs,h1,h2,h3⟩:=Jf (g:=g) ht he hx hy dV hs gD hm;exact O.op ho (h1 U) (h p cs (h2.mono hr) h3)
theorem af.xS {α:Type} {T:ag α} {xs:List α} (ho:bG ops i n σ d (.indexAddr t x y)) (ht:P.underlying t=some (.slice e)) (he:(P.info? e).map (·.size)=some T.k) (hx:aA σ x=some v)
  {b_:Int} (hy:aA σ y=some (.int kd b_)) (dV:b_=(j:Int)) (hs:aj T r v xs) (hr:r.sub g.h) (gD:0<T.k) (hm:j<xs.length)
  (h:∀ p cs,At g.h p cs→T.rel r cs xs[j]→af P fn n R ops K D g l ((d,.pointer (some p))::σ) U):af P fn n R ops K D g (i::l) σ U:=by
 obtain ⟨p,cs,h1,h2,h3⟩:=Jf (g:=g) ht he hx hy dV hs gD hm;exact .quiet ho rfl h1 (h p cs (h2.mono hr) h3)
end
end Go.Sp
end
section
/- Texts of this proof. -/
namespace Go.Sp
theorem pk {U ax :List az} {Q:List az→Prop} (h:Q ax) (hp:jL U ax :=by repeat (first|exact aS|exact aU|(apply aT;focus (repeat (first|exact aR|apply zt)))|apply aV)):∃ ax,Q ax ∧jL U ax :=⟨ax,h,hp⟩
section
variable {ro:Option Nat} {P:Program} {fn:Func} {n:Nat} {R:Ending→World→Prop} {k:List Item} {σ σ' :List (Nat × Value)} {D:List Deferred} {g:bk} {U ζ:List az} {ops:Array Oper} {L l:List Nat} {todo:List Item} {t e:TypeId} {x y:Operand} {v:Value}
theorem S.rt {s:Tmp} {Post:Ending→List az→Prop} {ax :List az} (hr:fn.results=#[.tmp s]) (hl:look σ s=some v) (hR:∀ e ax w',Post e ax →Holds w' g ax →R e w') (h:Post (.returned v) ax)
  (hp:jL U ax :=by repeat (first|exact aS|exact aU|(apply aT;focus (repeat (first|exact aR|apply zt)))|apply aV)):S none P fn n R (.code .ret::k) σ [] g U :=
 S.ret hr hl fun _ hw=>Holds.end_ hR hw ⟨ax,h,hp⟩
theorem S.pw (h:S ro P fn n R todo σ' D g ζ) (hs:Sub σ' σ:=by repeat (first|exact Sub.nil|refine Sub.cons rfl ?_))
  (hp:jL U ζ:=by repeat (first|exact aS|exact aU|(apply aT;focus (repeat (first|exact aR|apply zt)))|apply aV)):S ro P fn n R todo σ D g U:=S.pk hp (S.weaken hs h)
theorem S.dz (h:S ro P fn n R todo σ' D g U) (hs:Sub σ' σ:=by repeat (first|exact Sub.nil|refine Sub.cons rfl ?_)):S ro P fn n R todo σ D g U:=S.weaken hs h
theorem O.sT {b:Bool} (s:Nat) (hl:look σ s=some (.bool b)) (e:b=true) (h:O ro P fn n R ops L k ((s,.bool true)::σ) D g U):O ro P fn n R ops L k σ D g U:=O.slot s hl (congrArg Value.bool e) h
theorem O.aN {b:Bool} (s:Nat) (hl:look σ s=some (.bool b)) (e:b=false) (h:O ro P fn n R ops L k ((s,.bool false)::σ) D g U):O ro P fn n R ops L k σ D g U:=O.slot s hl (congrArg Value.bool e) h
theorem af.sT {b:Bool} (s:Nat) (hl:look σ s=some (.bool b)) (e:b=true) (h:af P fn n R ops k D g L ((s,.bool true)::σ) U):af P fn n R ops k D g L σ U:=af.slot s hl (congrArg Value.bool e) h
theorem af.aN {b:Bool} (s:Nat) (hl:look σ s=some (.bool b)) (e:b=false) (h:af P fn n R ops k D g L ((s,.bool false)::σ) U):af P fn n R ops k D g L σ U:=af.slot s hl (congrArg Value.bool e) h
theorem aF.lo {T:TypeId} {b j:Nat} {cs:List Value} (ht:dU P t=true) (hx:aA σ x=some (.pointer (some ⟨b,j,none⟩)):=by exact rfl) (hs:a_ U (obj b T cs) ζ:=by repeat (first|exact aR|apply zt)) (hj:cs[j]?=some v:=by exact rfl):aF P (.load t x) σ g U v U:=.cS ht hx hs hj
theorem aF.ia {T:TypeId} {b i:Nat} {cs news:List Value} (ht:∀ w,(isAgg t).run P w=.ok true w) (hsz:(P.info? t).map (·.size)=some news.length:=by kernel_rfl) (hx:aA σ x=some (.pointer (some ⟨b,i,none⟩)):=by exact rfl)
  (hs:a_ U (obj b T cs) ζ:=by repeat (first|exact aR|apply zt)) (hn:(cs.drop i).take news.length=news:=by exact rfl):aF P (.load t x) σ g U (.agg news.toArray) U:=.r_ ht hsz hx hs hn
theorem O.b8 {α:Type} {T:ag α} {xs:List α} {i d j:Nat} {kd:IntKind} {b_:Int} (ho:bG ops i n σ d (.indexAddr t x y)) (ht:P.underlying t=some (.slice e)) (he:(P.info? e).map (·.size)=some T.k) (hx:aA σ x=some v) (hy:aA σ y=some (.int kd b_)) (dV:b_=(j:Int)) (hs:aj T g.h v xs)
  (gD:0<T.k:=by decide) (hm:j<xs.length:=by first|omega|(simp;done)|(simp;omega)|decide) (h:∀ p cs,At g.h p cs→T.rel g.h cs xs[j]→O ro P fn n R ops l k ((d,.pointer (some p))::σ) D g U):O ro P fn n R ops (i::l) k σ D g U:=O.idx' ho ht he hx hy dV hs gD hm h
theorem af.b8 {α:Type} {T:ag α} {xs:List α} {i d j:Nat} {kd:IntKind} {b_:Int} (ho:bG ops i n σ d (.indexAddr t x y)) (ht:P.underlying t=some (.slice e)) (he:(P.info? e).map (·.size)=some T.k) (hx:aA σ x=some v) (hy:aA σ y=some (.int kd b_)) (dV:b_=(j:Int)) (hs:aj T g.h v xs)
  (gD:0<T.k:=by decide) (hm:j<xs.length:=by first|omega|(simp;done)|(simp;omega)|decide) (h:∀ p cs,At g.h p cs→T.rel g.h cs xs[j]→af P fn n R ops k D g l ((d,.pointer (some p))::σ) U):af P fn n R ops k D g (i::l) σ U:=af.idx' ho ht he hx hy dV hs gD hm h
theorem O.ib {α:Type} {T:ag α} {xs:List α} {r:Fr} {i d j:Nat} {kd:IntKind} {b_:Int} (ho:bG ops i n σ d (.indexAddr t x y)) (ht:P.underlying t=some (.slice e)) (he:(P.info? e).map (·.size)=some T.k) (hx:aA σ x=some v) (hy:aA σ y=some (.int kd b_)) (dV:b_=(j:Int)) (hs:aj T r v xs) (hr:r.sub g.h)
  (gD:0<T.k:=by decide) (hm:j<xs.length:=by first|omega|(simp;done)|(simp;omega)|decide) (h:∀ p cs,At g.h p cs→T.rel r cs xs[j]→O ro P fn n R ops l k ((d,.pointer (some p))::σ) D g U):O ro P fn n R ops (i::l) k σ D g U:=O.xS ho ht he hx hy dV hs hr gD hm h
theorem af.ib {α:Type} {T:ag α} {xs:List α} {r:Fr} {i d j:Nat} {kd:IntKind} {b_:Int} (ho:bG ops i n σ d (.indexAddr t x y)) (ht:P.underlying t=some (.slice e)) (he:(P.info? e).map (·.size)=some T.k) (hx:aA σ x=some v) (hy:aA σ y=some (.int kd b_)) (dV:b_=(j:Int)) (hs:aj T r v xs) (hr:r.sub g.h)
  (gD:0<T.k:=by decide) (hm:j<xs.length:=by first|omega|(simp;done)|(simp;omega)|decide) (h:∀ p cs,At g.h p cs→T.rel r cs xs[j]→af P fn n R ops k D g l ((d,.pointer (some p))::σ) U):af P fn n R ops k D g (i::l) σ U:=af.xS ho ht he hx hy dV hs hr gD hm h
end
end Go.Sp
end
end
end
section
/- Texts of this proof. -/
namespace Go.Sp
class F8 (P:Program) (t:TypeId) (e:outParam TypeId):Prop where h:P.underlying t=some (.slice e)
class F9 (P:Program) (t:TypeId):Prop where h:P.underlying t=some .string
class LR (P:Program) (t:TypeId):Prop where h:dU P t=true
class LS (P:Program) (s f:Nat) (o:outParam Nat):Prop where h:c4 P s f=some o
theorem yK {P:Program} {t e:TypeId} [i:F8 P t e]:P.underlying t=some (.slice e):=i.h
theorem XS {P:Program} {t:TypeId} [i:F9 P t]:P.underlying t=some .string:=i.h
theorem mD {P:Program} {t:TypeId} [i:LR P t]:dU P t=true:=i.h
theorem wk {P:Program} {s f o:Nat} [i:LS P s f o]:c4 P s f=some o:=i.h
section
variable {P:Program} {σ:List (Nat × Value)} {g:bk} {U:List az}
theorem aF.Ai {t:TypeId} {x:Operand} {e:TypeId} [F8 P t e] {a:Option Addr} {m c:Nat} (hx:aA σ x=some (.slice a m c)):aF P (.call ⟨.builtin .len,#[x],#[t]⟩) σ g U (.int .i64 (m:Int)) U:=.len (t:=t) rfl yK hx
theorem aF.x5 {t:TypeId} {x:Operand} {p:Addr} {j:Nat} {cs:List Value} {v:Value} (ht:dU P t=true) (hx:aA σ x=some (.pointer (some (p.add j)))) (hp:At g.h p cs) (hv:cs[j]?=some v):aF P (.load t x) σ g U v U:=.loadAt ht hx (hp.drop j) (by rw [List.getElem?_drop];exact hv)
theorem aF.Al {t:TypeId} {x:Operand} {p:Addr} {i j:Nat} {cs:List Value} {v:Value} (ht:dU P t=true) (hx:aA σ x=some (.pointer (some ((p.add i).add j)))) (hp:At g.h p cs) (hv:cs[i+j]?=some v):aF P (.load t x) σ g U v U:=.x5 ht (p:=p) (j:=i+j) (by rw [hx,Addr.add_add]) hp hv
class LQ (P:Program) (t:TypeId) (k:outParam Nat):Prop where
 h:∀ w,(isAgg t).run P w=.ok true w
 s:(P.info? t).map (·.size)=some k
def EY {α:Type}:List α→Option (List α)
 |[]=>some []
 |a::l=>(EY l).map (a::·)
theorem J2 {α:Type}:∀ {l m:List α},EY l=some m→l=m
 |[],_,h=>by cases h;rfl
 |a::l,m,h=>by
  obtain ⟨q,h1,h2⟩:=Option.map_eq_some_iff.1 h;rw [J2 h1];exact h2
theorem aF.JD {t:TypeId} {x:Operand} {T:TypeId} {b i K:Nat} {cs news:List Value} {ζ:List az} [c:LQ P t K] (hx:aA σ x=some (.pointer (some ⟨b,i,none⟩))) (hs:a_ U (obj b T cs) ζ) (hn:EY ((cs.drop i).take K)=some news) (hl:news.length=K):aF P (.load t x) σ g U (.agg news.toArray) U :=
 .r_ c.h (by rw [hl];exact c.s) hx hs (by rw [hl];exact J2 hn)
theorem aF.Aj {t:TypeId} {x:Operand} [F9 P t] {s:ByteArray} (hx:aA σ x=some (.string s)):aF P (.call ⟨.builtin .len,#[x],#[t]⟩) σ g U (.int .i64 (s.size:Int)) U:=.c6 (t:=t) rfl XS hx
end
theorem aF.Hy {P:Program} {σ:List (Nat × Value)} {g:bk} {U ζ:List az} {s f off b i:Nat} {x:Operand} {T:TypeId} {cs:List Value} (h:c4 P s f=some off) (hx:aA σ x=some (.pointer (some ⟨b,i,none⟩))) (_:a_ U (obj b T cs) ζ):aF P (.fieldAddr s x f) σ g U (.pointer (some ⟨b,i+off,none⟩)) U:=.aD h hx
inductive Steps:Nat→Prop→Prop→Prop
 |z {A:Prop}:Steps 0 A A
 |s {n:Nat} {A B C:Prop} (f:C→A) (k:Steps n B C):Steps (n+1) B A
theorem Steps.run {n:Nat} {A B:Prop} (h:Steps n B A):B→A:=by
 induction h with
 |z=>exact id
 |s f _ ih=>exact fun b=>f (ih b)
theorem aa_ {A B:Prop} (n:Nat) (h:B) (f:Steps n B A:=by repeat (first|exact Steps.z|(apply Steps.s;focus (first|(with_reducible exact S.seq)|((with_reducible apply O.q 1);exact rfl)|(with_reducible exact O.nil)|((with_reducible apply S.region);exact rfl)|((with_reducible apply af.q 1);exact rfl)|(with_reducible exact S.skip)|(with_reducible exact S.block)|(with_reducible exact S.inBlock)|((with_reducible apply S.exit);exact rfl)|((with_reducible apply S.bx);exact rfl)|((with_reducible apply S.aQ);exact rfl)|(with_reducible exact S.Lw)|(with_reducible exact S.Fu)|(with_reducible exact aI.nil)|(apply O.op;exact .p rfl;(first|exact aF.Ai rfl|exact aF.lss rfl rfl|exact aF.Hy wk rfl (by repeat (first|exact aR|apply zt))|exact aF.fieldAddr wk rfl|exact aF.lo mD|exact aF.JD rfl (by repeat (first|exact aR|apply zt)) (by exact rfl) (by exact rfl)|exact aF.loadAt mD rfl (by assumption) (by exact rfl)|exact aF.x5 mD rfl (by assumption) (by exact rfl)|exact aF.Al mD rfl (by assumption) (by exact rfl)|exact aF.add rfl rfl (IntWalk.i64_in _ (by omega))|exact aF.not rfl|exact aF.nilCheck rfl|exact aF.eql rfl rfl|exact aF.neq rfl rfl|exact aF.gtr rfl rfl|exact aF.leq rfl rfl|exact aF.geq rfl rfl|exact aF.Aj rfl|exact aF.jc rfl rfl))|(apply O.op;exact .g rfl rfl;(first|exact aF.Ai rfl|exact aF.lss rfl rfl|exact aF.Hy wk rfl (by repeat (first|exact aR|apply zt))|exact aF.fieldAddr wk rfl|exact aF.lo mD|exact aF.JD rfl (by repeat (first|exact aR|apply zt)) (by exact rfl) (by exact rfl)|exact aF.loadAt mD rfl (by assumption) (by exact rfl)|exact aF.x5 mD rfl (by assumption) (by exact rfl)|exact aF.Al mD rfl (by assumption) (by exact rfl)|exact aF.add rfl rfl (IntWalk.i64_in _ (by omega))|exact aF.not rfl|exact aF.nilCheck rfl|exact aF.eql rfl rfl|exact aF.neq rfl rfl|exact aF.gtr rfl rfl|exact aF.leq rfl rfl|exact aF.geq rfl rfl|exact aF.Aj rfl|exact aF.jc rfl rfl))|(apply O.bu;exact rfl;(first|exact ku.bn mD rfl rfl (by first|rfl|assumption) (by repeat (first|exact aR|apply zt)) (by first|(simp;done)|(simp [Value.cells];done))|exact ku.cZ (by kernel_rfl) rfl rfl rfl rfl (by repeat (first|exact aR|apply zt)) (by first|(simp;done)|(simp [Value.cells];done))))|(apply aI.quiet;exact .p rfl;exact rfl;(intro _;first|exact aF.fieldAddr wk rfl|exact aF.loadAt mD rfl (by assumption) (by exact rfl)|exact aF.x5 mD rfl (by assumption) (by exact rfl)|exact aF.Al mD rfl (by assumption) (by exact rfl)|exact aF.Ai rfl|exact aF.lss rfl rfl|exact aF.not rfl|exact aF.nilCheck rfl|exact aF.eql rfl rfl|exact aF.neq rfl rfl|exact aF.gtr rfl rfl|exact aF.leq rfl rfl|exact aF.geq rfl rfl|exact aF.add rfl rfl (IntWalk.i64_in _ (by omega))|exact aF.sub rfl rfl (IntWalk.i64_in _ (by omega))|exact aF.Aj rfl))|(apply aI.quiet;exact .g rfl rfl;exact rfl;(intro _;first|exact aF.fieldAddr wk rfl|exact aF.loadAt mD rfl (by assumption) (by exact rfl)|exact aF.x5 mD rfl (by assumption) (by exact rfl)|exact aF.Al mD rfl (by assumption) (by exact rfl)|exact aF.Ai rfl|exact aF.lss rfl rfl|exact aF.not rfl|exact aF.nilCheck rfl|exact aF.eql rfl rfl|exact aF.neq rfl rfl|exact aF.gtr rfl rfl|exact aF.leq rfl rfl|exact aF.geq rfl rfl|exact aF.add rfl rfl (IntWalk.i64_in _ (by omega))|exact aF.sub rfl rfl (IntWalk.i64_in _ (by omega))|exact aF.Aj rfl)))))):A:=f.run h
class wz (b:Bool) (p q:outParam Prop):Prop where
 t:b=true→p
 f:b=false→q
instance (priority:=high) {p:Prop} [Decidable p]:wz (decide p) p (¬p):=⟨of_decide_eq_true,of_decide_eq_false⟩
instance (priority:=low) {b:Bool}:wz b (b=true) (b=false):=⟨id,id⟩
section
variable {ro:Option Nat} {P:Program} {fn:Func} {n:Nat} {R:Ending→World→Prop} {k:List Item} {σ:List (Nat × Value)} {D:List Deferred} {g:bk} {U ζ:List az} {ops:Array Oper} {i d:Nat} {l:List Nat} {x:Operand}
theorem S.cd {c:Operand} {x y:Code} {b:Bool} {p q:Prop} [sC:wz b p q] (hc:aA σ c=some (.bool b)) (ht:p→S ro P fn n R (.code x::k) σ D g U) (hf:q→S ro P fn n R (.code y::k) σ D g U):S ro P fn n R (.code (.cond c x y)::k) σ D g U :=
 S.b7 hc (fun h=>ht (sC.t h)) fun h=>hf (sC.f h)
theorem O.v0 {f:FuncId} {xs:Array Operand} {ts:Array TypeId} {bF:List Value} {V:Value} {first cap:Array Value} (ho:bG ops i n σ d (.call ⟨.value x,xs,ts⟩)) (hx:aA σ x=some (.func (.func f) first cap)) (hc:dA P f=true)
  (hv:dS σ xs.toList=some bF) {args:Array Value} (hargs:first++bF.toArray++cap=args) (con:ay P f args g.h [] (aL fun v U=>v=V∧U=[]))
  (h:O ro P fn n R ops l k ((d,V)::σ) D g U):O ro P fn n R ops (i::l) k σ D g U:=O.aB ho hx hc hv hargs con fun _ _ ⟨e1,e2⟩=>by subst e1 e2;exact h
theorem O.aaI {f:FuncId} {xs:Array Operand} {ts:Array TypeId} {bF:List Value} {V:Value} {bs:List az} {first cap:Array Value} {A:az} (ho:bG ops i n σ d (.call ⟨.value x,xs,ts⟩)) (hx:aA σ x=some (.func (.func f) first cap)) (hc:dA P f=true)
  (hv:dS σ xs.toList=some bF) {args:Array Value} (hargs:first++bF.toArray++cap=args) (hs:a_ U A ζ) (con:ay P f args g.h [A] (aL fun v U=>v=V∧U=bs))
  (h:O ro P fn n R ops l k ((d,V)::σ) D g (bs++ζ)):O ro P fn n R ops (i::l) k σ D g U:=O.bM ho hx hc hv hargs hs con fun _ _ ⟨e1,e2⟩=>by subst e1 e2;exact h
theorem af.v0 {f:FuncId} {xs:Array Operand} {ts:Array TypeId} {bF:List Value} {V:Value} {first cap:Array Value} (ho:bG ops i n σ d (.call ⟨.value x,xs,ts⟩)) (hd:eF ops [i] l=true) (hx:aA σ x=some (.func (.func f) first cap)) (hc:dA P f=true)
  (hv:dS σ xs.toList=some bF) {args:Array Value} (hargs:first++bF.toArray++cap=args) (con:ay P f args g.h [] (aL fun v U=>v=V∧U=[]))
  (h:af P fn n R ops k D g l ((d,V)::σ) U):af P fn n R ops k D g (i::l) σ U:=af.aB ho hd hx hc hv hargs con fun _ _ ⟨e1,e2⟩=>by subst e1 e2;exact h
variable {t e:TypeId} {y:Operand} {v:Value} {kd:IntKind}
class LU (P:Program) (e:TypeId) (k:outParam Nat):Prop where h:(P.info? e).map (·.size)=some k
theorem Bp {k:Nat} [i:LU P e k]:(P.info? e).map (·.size)=some k:=i.h
theorem O.RN {α:Type} {T:ag α} {xs:List α} {i d j:Nat} {b_:Int} (hs:aj T g.h v xs) (ho:bG ops i n σ d (.indexAddr t x y):=by first|exact .p rfl|exact .g rfl rfl) (ht:P.underlying t=some (.slice e):=by exact yK) (he:(P.info? e).map (·.size)=some T.k:=by exact Bp) (hx:aA σ x=some v:=by exact rfl) (hy:aA σ y=some (.int kd b_):=by exact rfl) (dV:b_=(j:Int):=by exact rfl)
  (gD:0<T.k:=by decide) (hm:j<xs.length:=by first|omega|(simp;done)|(simp;omega)|decide) (h:∀ p cs,At g.h p cs→T.rel g.h cs xs[j]→O ro P fn n R ops l k ((d,.pointer (some p))::σ) D g U):O ro P fn n R ops (i::l) k σ D g U:=O.idx' ho ht he hx hy dV hs gD hm h
theorem af.RN {α:Type} {T:ag α} {xs:List α} {i d j:Nat} {b_:Int} (hs:aj T g.h v xs) (ho:bG ops i n σ d (.indexAddr t x y):=by first|exact .p rfl|exact .g rfl rfl) (ht:P.underlying t=some (.slice e):=by exact yK) (he:(P.info? e).map (·.size)=some T.k:=by exact Bp) (hx:aA σ x=some v:=by exact rfl) (hy:aA σ y=some (.int kd b_):=by exact rfl) (dV:b_=(j:Int):=by exact rfl)
  (gD:0<T.k:=by decide) (hm:j<xs.length:=by first|omega|(simp;done)|(simp;omega)|decide) (h:∀ p cs,At g.h p cs→T.rel g.h cs xs[j]→af P fn n R ops k D g l ((d,.pointer (some p))::σ) U):af P fn n R ops k D g (i::l) σ U:=af.idx' ho ht he hx hy dV hs gD hm h
theorem O.RM {α:Type} {T:ag α} {xs:List α} {r:Fr} {i d j:Nat} {b_:Int} (hs:aj T r v xs) (hr:r.sub g.h) (ho:bG ops i n σ d (.indexAddr t x y):=by first|exact .p rfl|exact .g rfl rfl) (ht:P.underlying t=some (.slice e):=by exact yK) (he:(P.info? e).map (·.size)=some T.k:=by exact Bp) (hx:aA σ x=some v:=by exact rfl) (hy:aA σ y=some (.int kd b_):=by exact rfl) (dV:b_=(j:Int):=by exact rfl)
  (gD:0<T.k:=by decide) (hm:j<xs.length:=by first|omega|(simp;done)|(simp;omega)|decide) (h:∀ p cs,At g.h p cs→T.rel r cs xs[j]→O ro P fn n R ops l k ((d,.pointer (some p))::σ) D g U):O ro P fn n R ops (i::l) k σ D g U:=O.xS ho ht he hx hy dV hs hr gD hm h
theorem af.RM {α:Type} {T:ag α} {xs:List α} {r:Fr} {i d j:Nat} {b_:Int} (hs:aj T r v xs) (hr:r.sub g.h) (ho:bG ops i n σ d (.indexAddr t x y):=by first|exact .p rfl|exact .g rfl rfl) (ht:P.underlying t=some (.slice e):=by exact yK) (he:(P.info? e).map (·.size)=some T.k:=by exact Bp) (hx:aA σ x=some v:=by exact rfl) (hy:aA σ y=some (.int kd b_):=by exact rfl) (dV:b_=(j:Int):=by exact rfl)
  (gD:0<T.k:=by decide) (hm:j<xs.length:=by first|omega|(simp;done)|(simp;omega)|decide) (h:∀ p cs,At g.h p cs→T.rel r cs xs[j]→af P fn n R ops k D g l ((d,.pointer (some p))::σ) U):af P fn n R ops k D g (i::l) σ U:=af.xS ho ht he hx hy dV hs hr gD hm h
theorem aaT {α:Type} {T:ag α} {h:Fr} {v:Value} {xs:List α} (q:aj T h v xs:=by first|assumption|exact aj.mono hg (by assumption)|exact aj.left (by assumption)|exact aj.left (aj.mono hg (by assumption))):aj T h v xs:=q
theorem aa8 {σ' σ:List (Nat × Value)} (h:Sub σ' σ:=by repeat (first|exact Sub.nil|refine Sub.cons rfl ?_)):Sub σ' σ:=h
theorem ay.o {f:FuncId} {args:Array Value} {r:Fr} {Post:Ending→List az→Prop} {c:Code} {vs:List Value} (hf:P.funcs[f]?=some fn) (h:∀ g:bk,r.sub g.h→∀ R:Ending→World→Prop,(∀ e ax w',Post e ax →Holds w' g ax →R e w')→S none P fn n R [.code c] (slots vs 0) [] g U)
  (ha:args=vs.toArray:=by exact rfl) (hb:fn.body=some c:=by exact rfl) (hn:fn.ntmps=n:=by exact rfl) (hle:Nat.ble vs.length n=true:=by exact rfl):ay P f args r U Post:=ay.of vs ha hf hb hn hle h
theorem O.cs {l:List Nat} {b:Bool} {p q:Prop} (t:Nat) [sC:wz b p q] (hl:look σ t=some (.bool b)) (ht:p→O ro P fn n R ops l k ((t,.bool true)::σ) D g U) (hf:q→O ro P fn n R ops l k ((t,.bool false)::σ) D g U):O ro P fn n R ops l k σ D g U:=O.c_ t hl (fun h=>ht (sC.t h)) fun h=>hf (sC.f h)
theorem af.cs {l:List Nat} {b:Bool} {p q:Prop} (t:Nat) [sC:wz b p q] (hl:look σ t=some (.bool b)) (ht:p→af P fn n R ops k D g l ((t,.bool true)::σ) U) (hf:q→af P fn n R ops k D g l ((t,.bool false)::σ) U):af P fn n R ops k D g l σ U:=af.c_ t hl (fun h=>ht (sC.t h)) fun h=>hf (sC.f h)
end
theorem aa0 {p:Prop} [Decidable p] (h:¬p):decide p=false:=decide_eq_false h
theorem zdt {p:Prop} [Decidable p] (h:p):decide p=true:=decide_eq_true h
theorem aa4 {α:Type} {as bs:List α}:(as++bs).length=as.length+bs.length:=List.length_append
theorem aa2 {a b c:Fr} (h:a.sub b) (k:b.sub c):a.sub c:=Fr.aH h k
theorem aa5 {α:Type} {a:α} {as:List α}:(a::as).length=as.length+1:=List.length_cons
theorem aa7 {α:Type} {i:Nat} {as:List α}:(as.take i).length=min i as.length:=List.length_take
theorem aa6 {α:Type}:([]:List α).length=0:=List.length_nil
theorem aa1 {α:Type} {l:List α} {L:List (List α)}:(l::L).flatten=l++L.flatten:=List.flatten_cons
theorem aaZ {α:Type} (as bs cs:List α):as++bs++cs=as++(bs++cs):=List.append_assoc as bs cs
theorem aa3 {α:Type} {as bs:List α} {i:Nat} (h:i<as.length) {h' :i<(as++bs).length}:(as++bs)[i]=as[i]:=List.getElem_append_left h
theorem aa9 {α:Type} {l:List α} {i:Nat} (h:i<l.length):l.take (i+1)=l.take i++[l[i]]:=List.take_succ_eq_append_getElem h
theorem ah {p:Prop} (h:p:=by omega):p:=h
theorem aa {p:Prop} (h:p:=by kernel_rfl):p:=h
theorem ai {p:Prop} (h:p:=by repeat (first|exact aR|apply zt)):p:=h
theorem zE {p:Prop} (h:p:=by assumption):p:=h
theorem aC {p:Prop} (h:p:=by decide):p:=h
theorem aK {p:Prop} (h:p:=by rfl):p:=h
theorem aW {p:Prop} (h:p:=by first|(simp;done)|(simp [Value.cells];done)):p:=h
theorem bf {p:Prop} (h:p:=by repeat (first|exact XR|(apply XQ;focus (repeat (first|exact aR|apply zt))))):p:=h
theorem bq {p:Prop} (h:p:=by first|rfl|assumption):p:=h
theorem aaU {p:Prop} (h:p:=by first|assumption|exact aj.mono hg (by assumption)|exact aj.left (by assumption)|exact aj.left (aj.mono hg (by assumption))):p:=h
theorem bI {p:Prop} (h:p:=by simp):p:=h
theorem bJ {p:Prop} (h:p:=by first|omega|(simp;done)|(simp;omega)|decide):p:=h
theorem b5 {p:Prop} (h:p:=by simp;omega):p:=h
theorem aaV {p:Prop} (h:p:=by exact decide_eq_false (by omega)):p:=h
theorem aaW {p:Prop} (h:p:=by exact decide_eq_true (by omega)):p:=h
theorem jx {p:Prop} (h:p:=by repeat (first|exact aS|exact aU|(apply aT;focus (repeat (first|exact aR|apply zt)))|apply aV)):p:=h
theorem ng {p:Prop} (h:p:=by simp;rfl):p:=h
theorem oM {p:Prop} (h:p:=by first|omega|(simp;done)|(simp;omega)):p:=h
theorem qt {p:Prop} (h:p:=by simp;exact ⟨rfl,rfl⟩):p:=h
theorem aaX {p:Prop} (h:p:=by exact decide_eq_true (by simp;omega)):p:=h
theorem sO {p:Prop} (h:p:=by simp [Value.cells]):p:=h
theorem aaY {p:Prop} (h:p:=by exact decide_eq_false (by simp;omega)):p:=h
theorem wj {p:Prop} (h:p:=by first|rfl|omega):p:=h
theorem yJ {p:Prop} (h:p:=by first|(simp;done)|(simp;omega)):p:=h
end Go.Sp
end
