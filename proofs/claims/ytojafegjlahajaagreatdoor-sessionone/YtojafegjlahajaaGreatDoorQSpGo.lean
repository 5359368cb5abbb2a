/- Texts of this proof, one behind the other. -/
import Derived.Test.YtojafegjlahajaaGreatDoorQSpLoop
import Derived.KernelRfl
set_option linter.unusedSectionVars false
section
/- Texts of this proof, one behind the other. -/
section
/- Texts of this proof. -/
namespace Go.Sp
section
variable {ro:Option Nat} {P:Program} {fn:Func} {n:Nat} {R:Ending→World→Prop} {ops:Array Oper} {k:List Item} {σ:List (Nat × Value)} {D:List Deferred} {g:bh} {U ζ aN:List az} {t e:TypeId} {x y:Operand}
theorem S.iH {todo:List Item} {B:az} (s:bf U B ζ) (h:∀ g' :bh,g.h.sub g'.h→(∃ m:Fr,B m∧m.sub g'.h)→(∀ {w:World} {aN:List az},Holds w g' aN→Holds w g (B::aN))→S ro P fn n R todo σ D g' ζ):S ro P fn n R todo σ D g U :=
 S.cu s (S.freeze fun m hm hd=>h (g.add m) (Fr.cw _ _) ⟨m,hm,Fr.dA hd⟩ fun hw=>hw.oo hm hd)
theorem af.xu {g0:bh} {T:TypeId} {b i j:Nat} {cs:List Value} {v:Value} (ho:j5 ops j=some (.store t x y)) (hl:II ops j=true) (Pq:∀ w,Holds w g U→Holds w g0 ζ) (ht:dR P t=true) (hx:aA σ x=some (.pointer (some ⟨b,i,none⟩))) (hy:aA σ y=some v)
  (h1:v.oneCell' =true) (hs:bf ζ (obj b T cs) aN) (hc:i<cs.length) (h:S none P fn n R k σ D g0 (obj b T (cs.set i v)::aN)):af P fn n R ops k D g [j] σ U :=
 .one rfl (.qG ho rfl hl (fun o ρ w q1 q2 cH=>let ⟨w',a,b⟩:=j9.bk ht hx hy h1 hs hc o ρ w q1 q2 (Pq w cH);⟨w',.skip,a,.inl rfl,b⟩) h)
theorem S.fold {todo:List Item} {A:az} {bs:List az} (hA:∀ m,Sat bs m→A m) (h:S ro P fn n R todo σ D g (A::ζ)):S ro P fn n R todo σ D g (bs++ζ) :=
 S.imp' (U:=bs++ζ) (ζ:=A::ζ) (fun m hm=>by
  obtain ⟨m1,m2,d,s1,s2,x,y⟩:=Sat.split hm;exact ⟨m1,m2,d,s1,s2,hA _ x,y⟩) h
theorem S.open {todo:List Item} {α:Type} {A:az} {bs:α→List az} (s:bf U A ζ) (hA:∀ m,A m→∃ x,Sat (bs x) m) (h:∀ x,S ro P fn n R todo σ D g (bs x++ζ)):S ro P fn n R todo σ D g U :=
 S.cu s (S.wj (ζ:=[fun m=>∃ x,Sat (bs x) m]) (fun m hm=>⟨m,Fr.emp,Fr.eX (Fr.dW _),Fr.bW _,Fr.c4 _,hA m hm,trivial⟩) (S.sK fun x=>S.wj (fun _ q=>q) (h x)))
theorem S.jm {todo:List Item} {α:Type} {T:ag α} {e:TypeId} {v v' :Value} {xs xs' :List α} (s:bf U (av T e v xs) ζ) (hv:v=v') (hx:xs=xs') (h:S ro P fn n R todo σ D g (av T e v' xs' ::ζ)):S ro P fn n R todo σ D g U:=by
 subst hv hx;exact S.cu s h
theorem RD (a b:List (Nat × Value)) (t:Nat):look (a++b) t=match look a t with|some v=>some v|none=>look b t:=by
 induction a with
 |nil=>rfl
 |cons x a ih =>
  cases hq:x.1.beq t
  ·simp only [List.cons_append,look,hq];exact ih
  ·simp only [List.cons_append,look,hq]
theorem Sub.app {a b σ:List (Nat × Value)} (ha:Sub a σ) (hb:Sub b σ):Sub (a++b) σ:=fun t v h=>by
 rw [RD] at h
 cases hq:look a t with
 |some u=>rw [hq] at h;exact ha t v (by rw [hq];exact h)
 |none=>rw [hq] at h;exact hb t v h
theorem S.EF {α:Type} {L:List Nat} {id:Nat} (lv:α→List (Nat × Value)) (ud:List (Nat × Value)) (ax :α→List az) (_:Sub ud σ) (hm:P.follows .mixedOrders=true) (hok:zY P n ops L=true)
  (h1:∀ kk,(∀ x,S none P fn n R kk (lv x++ud) D g (ax x))→af P fn n R ops kk D g L σ U) (h2:∀ x,S none P fn n R k (lv x++ud) D g (ax x)):S none P fn n R (.code (.region id ops true)::k) σ D g U :=
 S.bB hm hok (h1 k h2)
theorem S.yH {ro:Option Nat} {α:Type} {i0 i1:Item} {kk:List Item} (φ:α→Prop) (lv:α→List (Nat × Value)) (ud:List (Nat × Value)) (ax :α→List az) (_:Sub ud σ)
  (h1:(∀ x,φ x→S ro P fn n R kk (lv x++ud) D g (ax x))→S ro P fn n R (i0::i1::kk) σ D g U) (h2:∀ x,φ x→S ro P fn n R kk (lv x++ud) D g (ax x)):S ro P fn n R (i0::i1::kk) σ D g U:=h1 h2
theorem bE.pg {t2:TypeId} {xs:List UInt8} (ht:P.underlying t=some .string) (ht2:P.underlying t2=some (.slice e)) (he:P.underlying e=some (.int .u8)) (hx:aA σ x=some (.string (str xs))) (hl:xs.length≤9223372036854775807) :
  bE P (.convert t t2 x) σ g U fun u ax =>∃ a c,u=.slice a xs.length c∧ax =av ag.u8 e u xs::U :=
 fun o ρ w ho hk hw=>by
  have hr:=Lib.run_convert_string_bytes (P:=P) w t t2 e (str xs) ht ht2 he;have ho' :(execOp ρ o).run P w=.ok (.value (.slice (some ⟨w.heap.size,0,none⟩) (str xs).size (grownCap w (str xs).size 0 e))) (Lib.bytesWorld w e (str xs)):=by
   simp [execOp,ho,hk x _ hx,hr]
  have hge:=grownCap_ge w (str xs).size 0 e;have hcm:=grownCap_le_maxLen w (str xs).size 0 e (by simpa [maxLen] using hl);rw [si] at hge hcm;have hh:Holds (Lib.bytesWorld w e (str xs)) g (blk w.heap.size (.cells (Lib.bytesCells w e (str xs)) e ((Lib.bytesCells w e (str xs)).size,(Lib.bytesCells w e (str xs)).size+1))::U):=by
   have h1:Holds (w.drew.alloc (.cells (Lib.bytesCells w e (str xs)) e)) g (blk w.heap.size (.cells (Lib.bytesCells w e (str xs)) e)::U):=(hw.drewN (w.drawn+1) (Nat.le_add_right _ _)).alloc _;refine h1.setBlock (Lib.bytesWorld_at_new w e (str xs)) ?_ rfl rfl rfl
   intro i hi
   have:w.heap.size≠i:=fun h=>hi h.symm
   simp [Lib.bytesWorld,World.freeze,Array.getElem?_modify,this]
  have hsz:(Lib.bytesCells w e (str xs)).size=grownCap w xs.length 0 e:=by
   simp only [Lib.bytesCells,Array.size_append,Array.size_map,Array.size_replicate,si]
   simp [str];omega
  have e1:(xs.map (fun b=>[bH b])).flatten=xs.map bH:=by
   clear hx hl hr ho' hge hcm hh hsz
   induction xs with
   |nil=>rfl
   |cons a xs ih=>simp [ih]
  refine ⟨_,_,_,⟨some ⟨w.heap.size,0,none⟩,grownCap w xs.length 0 e,by rw [si],rfl⟩,ho',?_⟩;rw [si];refine (hh.tG (k:=1) (m:=xs.length) (cap:=grownCap w xs.length 0 e) (cs:=(xs.map (fun b=>[bH b])).flatten) (fun j hj h=>by have h1:=h.1;simp only [hsz] at h1;omega) hge (by simpa [maxLen] using hcm) (by rw [hsz];simp) ?_).imp fun _ =>
   Sat.fe (av.of (T:=ag.u8) (ak:=xs.map fun b=>[bH b]) (FM (fun _=>rfl) xs) rfl rfl rfl) fun _ q=>q
  rw [e1];simp only [Lib.bytesCells,Nat.mul_one]
  simp [str,bH]
theorem af.Bj {l:List Nat} (a b c:Nat) (la lb lc:List Nat) (hok:vR ops [a,b,c] l=true) (ha:l.erase a=la) (hb:l.erase b=lb) (hc:l.erase c=lc)
  (h1:aK P fn n R ops k D g true (a::la) σ U) (h2:aK P fn n R ops k D g true (b::lb) σ U) (h3:aK P fn n R ops k D g true (c::lc) σ U):af P fn n R ops k D g l σ U:=by
 subst ha hb hc;refine .alt [a,b,c] hok fun i hi=>?_;simp only [List.mem_cons,List.not_mem_nil,or_false] at hi
 rcases hi with rfl|rfl|rfl
 ·exact h1
 ·exact h2
 ·exact h3
theorem cL.pg {fl:Bool} {i d:Nat} {t2:TypeId} {xs:List UInt8} {l:List Nat} (ho:bJ ops i n σ d (.convert t t2 x)) (hd:d_ fl ops i l=true) (ht:P.underlying t=some .string) (ht2:P.underlying t2=some (.slice e)) (he:P.underlying e=some (.int .u8)) (hx:aA σ x=some (.string (str xs))) (hl:xs.length≤9223372036854775807)
  (h:∀ a c,af P fn n R ops k D g l ((d,.slice a xs.length c)::σ) (av ag.u8 e (.slice a xs.length c) xs::U)):aK P fn n R ops k D g fl (i::l) σ U :=
 cL.fU (K:=fun u ax =>∃ a c,u=.slice a xs.length c∧ax =av ag.u8 e u xs::U) ho rfl hd
  (fun ζ=>(bE.pg (U:=U++ζ) ht ht2 he hx hl).imp fun v ax ⟨a,c,h1,h2⟩=>⟨_,⟨a,c,h1,rfl⟩,h2⟩) (by rintro v _ ⟨a,c,rfl,rfl⟩;exact h a c)
theorem af.pg {i d:Nat} {t2:TypeId} {xs:List UInt8} {l:List Nat} (ho:bJ ops i n σ d (.convert t t2 x)) (hd:eu ops [i] l=true) (ht:P.underlying t=some .string) (ht2:P.underlying t2=some (.slice e)) (he:P.underlying e=some (.int .u8)) (hx:aA σ x=some (.string (str xs))) (hl:xs.length≤9223372036854775807)
  (h:∀ a c,af P fn n R ops k D g l ((d,.slice a xs.length c)::σ) (av ag.u8 e (.slice a xs.length c) xs::U)):af P fn n R ops k D g (i::l) σ U:=cL.pg (fl:=false) ho (by simpa [d_] using hd) ht ht2 he hx hl h
theorem bO.pg {i d:Nat} {t2:TypeId} {xs:List UInt8} {l:List Nat} (ho:bJ ops i n σ d (.convert t t2 x)) (_:true=true) (ht:P.underlying t=some .string) (ht2:P.underlying t2=some (.slice e)) (he:P.underlying e=some (.int .u8)) (hx:aA σ x=some (.string (str xs))) (hl:xs.length≤9223372036854775807)
  (h:∀ a c,af P fn n R ops k D g l ((d,.slice a xs.length c)::σ) (av ag.u8 e (.slice a xs.length c) xs::U)):aK P fn n R ops k D g true (i::l) σ U:=cL.pg (fl:=true) ho rfl ht ht2 he hx hl h
end
end Go.Sp
end
section
/- Texts of this proof, one behind the other. -/
section
/- Texts of this proof. -/
namespace Go.Sp
theorem b5.Eg {β α:Type} {A:β→α→az}:∀ {bs:List β} {as:List α} {m:Fr},bs.length=as.length→Sat (List.zipWith A bs as) m→b5 A bs as m
 |[],[],_,_,_=>trivial
 |[],_::_,_,h,_=>by cases h
 |_::_,[],_,h,_=>by cases h
 |b::bs,a::as,m,hl,h=>by
  obtain ⟨h1,h2,d,s1,s2,x,y⟩:=h;exact ⟨h1,h2,d,s1,s2,x,h2,Fr.emp,Fr.eX (Fr.dW _),Fr.bW _,Fr.c4 _,b5.Eg (by simpa using hl) y,trivial⟩
section
variable {ro:Option Nat} {P:Program} {fn:Func} {n:Nat} {R:Ending→World→Prop} {σ:List (Nat × Value)} {D:List Deferred} {g:bh} {U ζ:List az} {todo:List Item} {ops:Array Oper} {L:List Nat} {k:List Item}
theorem S.cg {A:az} {bs:List az} (hb:jw U bs ζ) (hA:∀ m,Sat bs m→A m) (h:S ro P fn n R todo σ D g (A::ζ)):S ro P fn n R todo σ D g U :=
 S.perm hb.perm (S.fold hA h)
theorem S.uD {β α:Type} (A:β→α→az) {bs:List β} {ys:List α} (hb:jw U (List.zipWith A bs ys) ζ) (hl:bs.length=ys.length) (h:S ro P fn n R todo σ D g (b5 A bs ys::ζ)):S ro P fn n R todo σ D g U :=
 S.cg hb (fun _ z=>b5.Eg hl z) h
end
theorem IT:∀ x y:List UInt8,Op.bytesLess x y=decide (x<y)
 |x,[]=>by cases x<;>simp [Op.bytesLess]
 |[],_::_=>by simp [Op.bytesLess]
 |a::x,b::y=>by
  rw [Op.bytesLess,IT x y];rw [Bool.eq_iff_iff]
  simp [List.cons_lt_cons_iff]
theorem RF (x y:List UInt8):Op.bytesLess (str x).toList (str y).toList=decide (x<y):=by rw [Kr,Kr,IT]
theorem S.back {ro:Option Nat} {P:Program} {fn:Func} {n:Nat} {R:Ending→World→Prop} {σ:List (Nat × Value)} {D:List Deferred} {g g' :bh} {U:List az} {todo:List Item} {B:az} (hb:∀ {w:World} {aN:List az},Holds w g' aN→Holds w g (B::aN)) (h:S ro P fn n R todo σ D g (B::U)):S ro P fn n R todo σ D g' U :=
 fun a w hf hd hw=>h a w hf hd (hb hw)
theorem iB {g g' :bh} {B:az} {Post:Ending→List az→Prop} {R:Ending→World→Prop} (hR:∀ e ax w',Post e ax →Holds w' g ax →R e w') (hb:∀ {w:World} {aN:List az},Holds w g' aN→Holds w g (B::aN)) :
  ∀ e ax w',Post e ax →Holds w' g' ax →R e w' :=fun e ax w' p h=>hR e ax w' p (hb h).drop
def ag.Gu {α β:Type} (f:α→β) (T:ag β):ag α:={ k:=T.k,rel:=fun h cs a=>T.rel h cs (f a),len:=fun h=>T.len h,mono:=fun s h=>T.mono s h,one:=fun h=>T.one h }
theorem Fr.sub.mono {a b c:Fr} (h:a.sub b) (k:b.sub c):a.sub c:=Fr.aI h k
section
variable {ro:Option Nat} {P:Program} {fn:Func} {n:Nat} {R:Ending→World→Prop} {ops:Array Oper} {K:List Item} {σ:List (Nat × Value)} {D:List Deferred} {g:bh} {U:List az} {i d:Nat} {l:List Nat} {t e:TypeId} {x y:Operand} {v:Value} {kd:IntKind} {j:Nat} {r:Fr}
theorem Qk {α:Type} {T:ag α} {xs:List α} (ht:P.underlying t=some (.slice e)) (he:(P.info? e).map (·.size)=some T.k) (hx:aA σ x=some v) {cA:Int} (hy:aA σ y=some (.int kd cA)) (ev:cA=(j:Int))
  (hs:aj T r v xs) (jk:0<T.k) (hm:j<xs.length):∃ p cs,(∀ U,aD P (.indexAddr t x y) σ g U (.pointer (some p)) U)∧At r p cs∧T.rel r cs xs[j]:=by
 subst ev;obtain ⟨ak,ha,fD⟩:=hs;obtain ⟨a,cap,rfl,h1,h2,h3,h4⟩:=fD
 cases a with
 |none =>
  have:0<ak.flatten.length:=by rw [h3];exact Nat.mul_pos (by omega) jk
  obtain ⟨p,hp,_⟩:=h4 0 this
  cases hp
 |some a =>
  have hj:j<ak.length:=by rw [ha.length];exact hm
  refine ⟨a.add (j*T.k),ak[j],fun U=>.run fun o ρ w ho hk=>?_,?_,ha.get j hj hm⟩
  ·have hij:(j:Int)<(xs.length:Int):=by omega
   simp [execOp,ho,hk x _ hx,hk y _ hy,Instr.indexAt,asIntOf,run_underlying ht,hm,run_sizeOf he]
  ·rw [← ha.sL j hj]
   intro q hq
   rw [Addr.add_add];have w5 :j*T.k+q<ak.flatten.length:=by simp only [List.length_take,List.length_drop] at hq;omega
   obtain ⟨p,hp,hc⟩:=h4 _ w5
   cases hp
   rw [hc];simp
theorem O.It {α:Type} {T:ag α} {xs:List α} (ho:bJ ops i n σ d (.indexAddr t x y)) (ht:P.underlying t=some (.slice e)) (he:(P.info? e).map (·.size)=some T.k) (hx:aA σ x=some v)
  {cA:Int} (hy:aA σ y=some (.int kd cA)) (ev:cA=(j:Int)) (hs:aj T r v xs) (hr:r.sub g.h) (jk:0<T.k) (hm:j<xs.length)
  (h:∀ p cs,At g.h p cs→T.rel r cs xs[j]→O ro P fn n R ops l K ((d,.pointer (some p))::σ) D g U):O ro P fn n R ops (i::l) K σ D g U:=by
 obtain ⟨p,cs,h1,h2,h3⟩:=Qk (g:=g) ht he hx hy ev hs jk hm;exact O.op ho (h1 U) (h p cs (h2.mono hr) h3)
end
end Go.Sp
end
section
/- Texts of this proof. -/
namespace Go.Sp
theorem pk {U ax :List az} {Q:List az→Prop} (h:Q ax) (hp:jv U ax :=by repeat (first|exact aW|exact aY|(apply aX;focus (repeat (first|exact aU|apply zt)))|apply aZ)):∃ ax,Q ax ∧jv U ax :=⟨ax,h,hp⟩
section
variable {ro:Option Nat} {P:Program} {fn:Func} {n:Nat} {R:Ending→World→Prop} {k:List Item} {σ σ' :List (Nat × Value)} {D:List Deferred} {g:bh} {U ζ:List az} {ops:Array Oper} {L l:List Nat} {todo:List Item} {t e:TypeId} {x y:Operand} {v:Value}
theorem S.rt {s:Tmp} {Post:Ending→List az→Prop} {ax :List az} (hr:fn.results=#[.tmp s]) (hl:look σ s=some v) (hR:∀ e ax w',Post e ax →Holds w' g ax →R e w') (h:Post (.returned v) ax)
  (hp:jv U ax :=by repeat (first|exact aW|exact aY|(apply aX;focus (repeat (first|exact aU|apply zt)))|apply aZ)):S none P fn n R (.code .ret::k) σ [] g U :=
 S.ret hr hl fun _ hw=>Holds.end_ hR hw ⟨ax,h,hp⟩
theorem S.pw (h:S ro P fn n R todo σ' D g ζ) (hs:Sub σ' σ:=by repeat (first|exact Sub.nil|refine Sub.cons rfl ?_))
  (hp:jv U ζ:=by repeat (first|exact aW|exact aY|(apply aX;focus (repeat (first|exact aU|apply zt)))|apply aZ)):S ro P fn n R todo σ D g U:=S.pk hp (S.weaken hs h)
theorem S.dH (h:S ro P fn n R todo σ' D g U) (hs:Sub σ' σ:=by repeat (first|exact Sub.nil|refine Sub.cons rfl ?_)):S ro P fn n R todo σ D g U:=S.weaken hs h
theorem O.sT {b:Bool} (s:Nat) (hl:look σ s=some (.bool b)) (e:b=true) (h:O ro P fn n R ops L k ((s,.bool true)::σ) D g U):O ro P fn n R ops L k σ D g U:=O.slot s hl (congrArg Value.bool e) h
theorem O.aL {b:Bool} (s:Nat) (hl:look σ s=some (.bool b)) (e:b=false) (h:O ro P fn n R ops L k ((s,.bool false)::σ) D g U):O ro P fn n R ops L k σ D g U:=O.slot s hl (congrArg Value.bool e) h
theorem af.sT {b:Bool} (s:Nat) (hl:look σ s=some (.bool b)) (e:b=true) (h:af P fn n R ops k D g L ((s,.bool true)::σ) U):af P fn n R ops k D g L σ U:=af.slot s hl (congrArg Value.bool e) h
theorem af.aL {b:Bool} (s:Nat) (hl:look σ s=some (.bool b)) (e:b=false) (h:af P fn n R ops k D g L ((s,.bool false)::σ) U):af P fn n R ops k D g L σ U:=af.slot s hl (congrArg Value.bool e) h
theorem aD.lo {T:TypeId} {b j:Nat} {cs:List Value} (ht:dR P t=true) (hx:aA σ x=some (.pointer (some ⟨b,j,none⟩)):=by exact rfl) (hs:bf U (obj b T cs) ζ:=by repeat (first|exact aU|apply zt)) (hj:cs[j]?=some v:=by exact rfl):aD P (.load t x) σ g U v U:=.cK ht hx hs hj
theorem aD.gU {T:TypeId} {b i:Nat} {cs news:List Value} (ht:∀ w,(isAgg t).run P w=.ok true w) (hsz:(P.info? t).map (·.size)=some news.length:=by kernel_rfl) (hx:aA σ x=some (.pointer (some ⟨b,i,none⟩)):=by exact rfl)
  (hs:bf U (obj b T cs) ζ:=by repeat (first|exact aU|apply zt)) (hn:(cs.drop i).take news.length=news:=by exact rfl):aD P (.load t x) σ g U (.agg news.toArray) U:=.rU ht hsz hx hs hn
theorem O.b_ {α:Type} {T:ag α} {xs:List α} {i d j:Nat} {kd:IntKind} {cA:Int} (ho:bJ ops i n σ d (.indexAddr t x y)) (ht:P.underlying t=some (.slice e)) (he:(P.info? e).map (·.size)=some T.k) (hx:aA σ x=some v) (hy:aA σ y=some (.int kd cA)) (ev:cA=(j:Int)) (hs:aj T g.h v xs)
  (jk:0<T.k:=by decide) (hm:j<xs.length:=by first|omega|(simp;done)|(simp;omega)|decide) (h:∀ p cs,At g.h p cs→T.rel g.h cs xs[j]→O ro P fn n R ops l k ((d,.pointer (some p))::σ) D g U):O ro P fn n R ops (i::l) k σ D g U:=O.idx' ho ht he hx hy ev hs jk hm h
theorem af.b_ {α:Type} {T:ag α} {xs:List α} {i d j:Nat} {kd:IntKind} {cA:Int} (ho:bJ ops i n σ d (.indexAddr t x y)) (ht:P.underlying t=some (.slice e)) (he:(P.info? e).map (·.size)=some T.k) (hx:aA σ x=some v) (hy:aA σ y=some (.int kd cA)) (ev:cA=(j:Int)) (hs:aj T g.h v xs)
  (jk:0<T.k:=by decide) (hm:j<xs.length:=by first|omega|(simp;done)|(simp;omega)|decide) (h:∀ p cs,At g.h p cs→T.rel g.h cs xs[j]→af P fn n R ops k D g l ((d,.pointer (some p))::σ) U):af P fn n R ops k D g (i::l) σ U:=af.idx' ho ht he hx hy ev hs jk hm h
theorem O.ib {α:Type} {T:ag α} {xs:List α} {r:Fr} {i d j:Nat} {kd:IntKind} {cA:Int} (ho:bJ ops i n σ d (.indexAddr t x y)) (ht:P.underlying t=some (.slice e)) (he:(P.info? e).map (·.size)=some T.k) (hx:aA σ x=some v) (hy:aA σ y=some (.int kd cA)) (ev:cA=(j:Int)) (hs:aj T r v xs) (hr:r.sub g.h)
  (jk:0<T.k:=by decide) (hm:j<xs.length:=by first|omega|(simp;done)|(simp;omega)|decide) (h:∀ p cs,At g.h p cs→T.rel r cs xs[j]→O ro P fn n R ops l k ((d,.pointer (some p))::σ) D g U):O ro P fn n R ops (i::l) k σ D g U:=O.It ho ht he hx hy ev hs hr jk hm h
end
end Go.Sp
end
end
end
section
/- Texts of this proof. -/
namespace Go.Sp
class Fk (P:Program) (t:TypeId) (e:outParam TypeId):Prop where h:P.underlying t=some (.slice e)
class Fl (P:Program) (t:TypeId):Prop where h:P.underlying t=some .string
class K0 (P:Program) (t:TypeId):Prop where h:dR P t=true
class K1 (P:Program) (s f:Nat) (o:outParam Nat):Prop where h:c5 P s f=some o
theorem AR {P:Program} {t e:TypeId} [i:Fk P t e]:P.underlying t=some (.slice e):=i.h
theorem V4 {P:Program} {t:TypeId} [i:Fl P t]:P.underlying t=some .string:=i.h
theorem l_ {P:Program} {t:TypeId} [i:K0 P t]:dR P t=true:=i.h
theorem vE {P:Program} {s f o:Nat} [i:K1 P s f o]:c5 P s f=some o:=i.h
section
variable {P:Program} {σ:List (Nat × Value)} {g:bh} {U:List az}
theorem aD.zH {t:TypeId} {x:Operand} {e:TypeId} [Fk P t e] {a:Option Addr} {m c:Nat} (hx:aA σ x=some (.slice a m c)):aD P (.call ⟨.builtin .len,#[x],#[t]⟩) σ g U (.int .i64 (m:Int)) U:=.len (t:=t) rfl AR hx
theorem aD.xB {t:TypeId} {x:Operand} {p:Addr} {j:Nat} {cs:List Value} {v:Value} (ht:dR P t=true) (hx:aA σ x=some (.pointer (some (p.add j)))) (hp:At g.h p cs) (hv:cs[j]?=some v):aD P (.load t x) σ g U v U:=.loadAt ht hx (hp.drop j) (by rw [List.getElem?_drop];exact hv)
theorem aD.zK {t:TypeId} {x:Operand} {p:Addr} {i j:Nat} {cs:List Value} {v:Value} (ht:dR P t=true) (hx:aA σ x=some (.pointer (some ((p.add i).add j)))) (hp:At g.h p cs) (hv:cs[i+j]?=some v):aD P (.load t x) σ g U v U:=.xB ht (p:=p) (j:=i+j) (by rw [hx,Addr.add_add]) hp hv
class KZ (P:Program) (t:TypeId) (k:outParam Nat):Prop where
 h:∀ w,(isAgg t).run P w=.ok true w
 s:(P.info? t).map (·.size)=some k
def Ed {α:Type}:List α→Option (List α)
 |[]=>some []
 |a::l=>(Ed l).map (a::·)
theorem Jk {α:Type}:∀ {l m:List α},Ed l=some m→l=m
 |[],_,h=>by cases h;rfl
 |a::l,m,h=>by
  obtain ⟨q,h1,h2⟩:=Option.map_eq_some_iff.1 h;rw [Jk h1];exact h2
theorem aD.IW {t:TypeId} {x:Operand} {T:TypeId} {b i K:Nat} {cs news:List Value} {ζ:List az} [c:KZ P t K] (hx:aA σ x=some (.pointer (some ⟨b,i,none⟩))) (hs:bf U (obj b T cs) ζ) (hn:Ed ((cs.drop i).take K)=some news) (hl:news.length=K):aD P (.load t x) σ g U (.agg news.toArray) U :=
 .rU c.h (by rw [hl];exact c.s) hx hs (by rw [hl];exact Jk hn)
theorem aD.zI {t:TypeId} {x:Operand} [Fl P t] {s:ByteArray} (hx:aA σ x=some (.string s)):aD P (.call ⟨.builtin .len,#[x],#[t]⟩) σ g U (.int .i64 (s.size:Int)) U:=.c6 (t:=t) rfl V4 hx
end
theorem aD.GP {P:Program} {σ:List (Nat × Value)} {g:bh} {U ζ:List az} {s f off b i:Nat} {x:Operand} {T:TypeId} {cs:List Value} (h:c5 P s f=some off) (hx:aA σ x=some (.pointer (some ⟨b,i,none⟩))) (_:bf U (obj b T cs) ζ):aD P (.fieldAddr s x f) σ g U (.pointer (some ⟨b,i+off,none⟩)) U:=.aF h hx
inductive Steps:Nat→Prop→Prop→Prop
 |z {A:Prop}:Steps 0 A A
 |s {n:Nat} {A B C:Prop} (f:C→A) (k:Steps n B C):Steps (n+1) B A
theorem Steps.run {n:Nat} {A B:Prop} (h:Steps n B A):B→A:=by
 induction h with
 |z=>exact id
 |s f _ ih=>exact fun b=>f (ih b)
theorem Zg {A B:Prop} (n:Nat) (h:B) (f:Steps n B A:=by repeat (first|exact Steps.z|(apply Steps.s;focus (first|(with_reducible exact S.seq)|((with_reducible apply O.q 1);exact rfl)|(with_reducible exact O.nil)|((with_reducible apply S.region);exact rfl)|((with_reducible apply af.q 1);exact rfl)|(with_reducible exact S.skip)|(with_reducible exact S.block)|(with_reducible exact S.inBlock)|((with_reducible apply S.exit);exact rfl)|((with_reducible apply S.bC);exact rfl)|((with_reducible apply S.aP);exact rfl)|(with_reducible exact S.KO)|(with_reducible exact S.EG)|(with_reducible exact aK.nil)|(apply O.op;exact .p rfl;(first|exact aD.zH rfl|exact aD.lss rfl rfl|exact aD.GP vE rfl (by repeat (first|exact aU|apply zt))|exact aD.fieldAddr vE rfl|exact aD.lo l_|exact aD.IW rfl (by repeat (first|exact aU|apply zt)) (by exact rfl) (by exact rfl)|exact aD.loadAt l_ rfl (by assumption) (by exact rfl)|exact aD.xB l_ rfl (by assumption) (by exact rfl)|exact aD.zK l_ rfl (by assumption) (by exact rfl)|exact aD.add rfl rfl (IntWalk.i64_in _ (by omega))|exact aD.not rfl|exact aD.nilCheck rfl|exact aD.eql rfl rfl|exact aD.neq rfl rfl|exact aD.gtr rfl rfl|exact aD.leq rfl rfl|exact aD.geq rfl rfl|exact aD.zI rfl|exact aD.iS rfl rfl))|(apply O.op;exact .g rfl rfl;(first|exact aD.zH rfl|exact aD.lss rfl rfl|exact aD.GP vE rfl (by repeat (first|exact aU|apply zt))|exact aD.fieldAddr vE rfl|exact aD.lo l_|exact aD.IW rfl (by repeat (first|exact aU|apply zt)) (by exact rfl) (by exact rfl)|exact aD.loadAt l_ rfl (by assumption) (by exact rfl)|exact aD.xB l_ rfl (by assumption) (by exact rfl)|exact aD.zK l_ rfl (by assumption) (by exact rfl)|exact aD.add rfl rfl (IntWalk.i64_in _ (by omega))|exact aD.not rfl|exact aD.nilCheck rfl|exact aD.eql rfl rfl|exact aD.neq rfl rfl|exact aD.gtr rfl rfl|exact aD.leq rfl rfl|exact aD.geq rfl rfl|exact aD.zI rfl|exact aD.iS rfl rfl))|(apply O.bw;exact rfl;(first|exact j9.bk l_ rfl rfl (by first|rfl|assumption) (by repeat (first|exact aU|apply zt)) (by first|(simp;done)|(simp [Value.cells];done))|exact j9.cZ (by kernel_rfl) rfl rfl rfl rfl (by repeat (first|exact aU|apply zt)) (by first|(simp;done)|(simp [Value.cells];done))))|(apply aK.quiet;exact .p rfl;exact rfl;(intro _;first|exact aD.fieldAddr vE rfl|exact aD.loadAt l_ rfl (by assumption) (by exact rfl)|exact aD.xB l_ rfl (by assumption) (by exact rfl)|exact aD.zK l_ rfl (by assumption) (by exact rfl)|exact aD.zH rfl|exact aD.lss rfl rfl|exact aD.not rfl|exact aD.nilCheck rfl|exact aD.eql rfl rfl|exact aD.neq rfl rfl|exact aD.gtr rfl rfl|exact aD.leq rfl rfl|exact aD.geq rfl rfl|exact aD.add rfl rfl (IntWalk.i64_in _ (by omega))|exact aD.sub rfl rfl (IntWalk.i64_in _ (by omega))|exact aD.zI rfl))|(apply aK.quiet;exact .g rfl rfl;exact rfl;(intro _;first|exact aD.fieldAddr vE rfl|exact aD.loadAt l_ rfl (by assumption) (by exact rfl)|exact aD.xB l_ rfl (by assumption) (by exact rfl)|exact aD.zK l_ rfl (by assumption) (by exact rfl)|exact aD.zH rfl|exact aD.lss rfl rfl|exact aD.not rfl|exact aD.nilCheck rfl|exact aD.eql rfl rfl|exact aD.neq rfl rfl|exact aD.gtr rfl rfl|exact aD.leq rfl rfl|exact aD.geq rfl rfl|exact aD.add rfl rfl (IntWalk.i64_in _ (by omega))|exact aD.sub rfl rfl (IntWalk.i64_in _ (by omega))|exact aD.zI rfl)))))):A:=f.run h
class vM (b:Bool) (p q:outParam Prop):Prop where
 t:b=true→p
 f:b=false→q
instance (priority:=high) {p:Prop} [Decidable p]:vM (decide p) p (¬p):=⟨of_decide_eq_true,of_decide_eq_false⟩
instance (priority:=low) {b:Bool}:vM b (b=true) (b=false):=⟨id,id⟩
section
variable {ro:Option Nat} {P:Program} {fn:Func} {n:Nat} {R:Ending→World→Prop} {k:List Item} {σ:List (Nat × Value)} {D:List Deferred} {g:bh} {U ζ:List az} {ops:Array Oper} {i d:Nat} {l:List Nat} {x:Operand}
theorem S.cd {c:Operand} {x y:Code} {b:Bool} {p q:Prop} [sj:vM b p q] (hc:aA σ c=some (.bool b)) (ht:p→S ro P fn n R (.code x::k) σ D g U) (hf:q→S ro P fn n R (.code y::k) σ D g U):S ro P fn n R (.code (.cond c x y)::k) σ D g U :=
 S.cm hc (fun h=>ht (sj.t h)) fun h=>hf (sj.f h)
theorem O.v0 {f:FuncId} {xs:Array Operand} {ts:Array TypeId} {bG:List Value} {V:Value} {first cap:Array Value} (ho:bJ ops i n σ d (.call ⟨.value x,xs,ts⟩)) (hx:aA σ x=some (.func (.func f) first cap)) (hc:dr P f=true)
  (hv:dQ σ xs.toList=some bG) {args:Array Value} (hargs:first++bG.toArray++cap=args) (con:ay P f args g.h [] (aM fun v U=>v=V∧U=[]))
  (h:O ro P fn n R ops l k ((d,V)::σ) D g U):O ro P fn n R ops (i::l) k σ D g U:=O.aC ho hx hc hv hargs con fun _ _ ⟨e1,e2⟩=>by subst e1 e2;exact h
theorem O.YV {f:FuncId} {xs:Array Operand} {ts:Array TypeId} {bG:List Value} {V:Value} {bs:List az} {first cap:Array Value} {A:az} (ho:bJ ops i n σ d (.call ⟨.value x,xs,ts⟩)) (hx:aA σ x=some (.func (.func f) first cap)) (hc:dr P f=true)
  (hv:dQ σ xs.toList=some bG) {args:Array Value} (hargs:first++bG.toArray++cap=args) (hs:bf U A ζ) (con:ay P f args g.h [A] (aM fun v U=>v=V∧U=bs))
  (h:O ro P fn n R ops l k ((d,V)::σ) D g (bs++ζ)):O ro P fn n R ops (i::l) k σ D g U:=O.bD ho hx hc hv hargs hs con fun _ _ ⟨e1,e2⟩=>by subst e1 e2;exact h
theorem af.v0 {f:FuncId} {xs:Array Operand} {ts:Array TypeId} {bG:List Value} {V:Value} {first cap:Array Value} (ho:bJ ops i n σ d (.call ⟨.value x,xs,ts⟩)) (hd:eu ops [i] l=true) (hx:aA σ x=some (.func (.func f) first cap)) (hc:dr P f=true)
  (hv:dQ σ xs.toList=some bG) {args:Array Value} (hargs:first++bG.toArray++cap=args) (con:ay P f args g.h [] (aM fun v U=>v=V∧U=[]))
  (h:af P fn n R ops k D g l ((d,V)::σ) U):af P fn n R ops k D g (i::l) σ U:=af.aC ho hd hx hc hv hargs con fun _ _ ⟨e1,e2⟩=>by subst e1 e2;exact h
variable {t e:TypeId} {y:Operand} {v:Value} {kd:IntKind}
class K2 (P:Program) (e:TypeId) (k:outParam Nat):Prop where h:(P.info? e).map (·.size)=some k
theorem Fh {k:Nat} [i:K2 P e k]:(P.info? e).map (·.size)=some k:=i.h
theorem O.Qq {α:Type} {T:ag α} {xs:List α} {i d j:Nat} {cA:Int} (hs:aj T g.h v xs) (ho:bJ ops i n σ d (.indexAddr t x y):=by first|exact .p rfl|exact .g rfl rfl) (ht:P.underlying t=some (.slice e):=by exact AR) (he:(P.info? e).map (·.size)=some T.k:=by exact Fh) (hx:aA σ x=some v:=by exact rfl) (hy:aA σ y=some (.int kd cA):=by exact rfl) (ev:cA=(j:Int):=by exact rfl)
  (jk:0<T.k:=by decide) (hm:j<xs.length:=by first|omega|(simp;done)|(simp;omega)|decide) (h:∀ p cs,At g.h p cs→T.rel g.h cs xs[j]→O ro P fn n R ops l k ((d,.pointer (some p))::σ) D g U):O ro P fn n R ops (i::l) k σ D g U:=O.idx' ho ht he hx hy ev hs jk hm h
theorem af.Qq {α:Type} {T:ag α} {xs:List α} {i d j:Nat} {cA:Int} (hs:aj T g.h v xs) (ho:bJ ops i n σ d (.indexAddr t x y):=by first|exact .p rfl|exact .g rfl rfl) (ht:P.underlying t=some (.slice e):=by exact AR) (he:(P.info? e).map (·.size)=some T.k:=by exact Fh) (hx:aA σ x=some v:=by exact rfl) (hy:aA σ y=some (.int kd cA):=by exact rfl) (ev:cA=(j:Int):=by exact rfl)
  (jk:0<T.k:=by decide) (hm:j<xs.length:=by first|omega|(simp;done)|(simp;omega)|decide) (h:∀ p cs,At g.h p cs→T.rel g.h cs xs[j]→af P fn n R ops k D g l ((d,.pointer (some p))::σ) U):af P fn n R ops k D g (i::l) σ U:=af.idx' ho ht he hx hy ev hs jk hm h
theorem O.XS {α:Type} {T:ag α} {xs:List α} {r:Fr} {i d j:Nat} {cA:Int} (hs:aj T r v xs) (hr:r.sub g.h) (ho:bJ ops i n σ d (.indexAddr t x y):=by first|exact .p rfl|exact .g rfl rfl) (ht:P.underlying t=some (.slice e):=by exact AR) (he:(P.info? e).map (·.size)=some T.k:=by exact Fh) (hx:aA σ x=some v:=by exact rfl) (hy:aA σ y=some (.int kd cA):=by exact rfl) (ev:cA=(j:Int):=by exact rfl)
  (jk:0<T.k:=by decide) (hm:j<xs.length:=by first|omega|(simp;done)|(simp;omega)|decide) (h:∀ p cs,At g.h p cs→T.rel r cs xs[j]→O ro P fn n R ops l k ((d,.pointer (some p))::σ) D g U):O ro P fn n R ops (i::l) k σ D g U:=O.It ho ht he hx hy ev hs hr jk hm h
theorem Y0 {α:Type} {T:ag α} {h:Fr} {v:Value} {xs:List α} (q:aj T h v xs:=by first|assumption|exact aj.mono hg (by assumption)|exact aj.left (by assumption)|exact aj.left (aj.mono hg (by assumption))):aj T h v xs:=q
theorem Ze {σ' σ:List (Nat × Value)} (h:Sub σ' σ:=by repeat (first|exact Sub.nil|refine Sub.cons rfl ?_)):Sub σ' σ:=h
theorem ay.o {f:FuncId} {args:Array Value} {r:Fr} {Post:Ending→List az→Prop} {c:Code} {vs:List Value} (hf:P.funcs[f]?=some fn) (h:∀ g:bh,r.sub g.h→∀ R:Ending→World→Prop,(∀ e ax w',Post e ax →Holds w' g ax →R e w')→S none P fn n R [.code c] (slots vs 0) [] g U)
  (ha:args=vs.toArray:=by exact rfl) (hb:fn.body=some c:=by exact rfl) (hn:fn.ntmps=n:=by exact rfl) (hle:Nat.ble vs.length n=true:=by exact rfl):ay P f args r U Post:=ay.of vs ha hf hb hn hle h
theorem O.cs {l:List Nat} {b:Bool} {p q:Prop} (t:Nat) [sj:vM b p q] (hl:look σ t=some (.bool b)) (ht:p→O ro P fn n R ops l k ((t,.bool true)::σ) D g U) (hf:q→O ro P fn n R ops l k ((t,.bool false)::σ) D g U):O ro P fn n R ops l k σ D g U:=O.dF t hl (fun h=>ht (sj.t h)) fun h=>hf (sj.f h)
theorem af.cs {l:List Nat} {b:Bool} {p q:Prop} (t:Nat) [sj:vM b p q] (hl:look σ t=some (.bool b)) (ht:p→af P fn n R ops k D g l ((t,.bool true)::σ) U) (hf:q→af P fn n R ops k D g l ((t,.bool false)::σ) U):af P fn n R ops k D g l σ U:=af.dF t hl (fun h=>ht (sj.t h)) fun h=>hf (sj.f h)
end
theorem Y7 {p:Prop} [Decidable p] (h:¬p):decide p=false:=decide_eq_false h
theorem zdt {p:Prop} [Decidable p] (h:p):decide p=true:=decide_eq_true h
theorem Za {α:Type} {as bs:List α}:(as++bs).length=as.length+bs.length:=List.length_append
theorem Y9 {a b c:Fr} (h:a.sub b) (k:b.sub c):a.sub c:=Fr.aI h k
theorem Zb {α:Type} {a:α} {as:List α}:(a::as).length=as.length+1:=List.length_cons
theorem Zd {α:Type} {i:Nat} {as:List α}:(as.take i).length=min i as.length:=List.length_take
theorem Zc {α:Type}:([]:List α).length=0:=List.length_nil
theorem Y8 {α:Type} {l:List α} {L:List (List α)}:(l::L).flatten=l++L.flatten:=List.flatten_cons
theorem Y6 {α:Type} (as bs cs:List α):as++bs++cs=as++(bs++cs):=List.append_assoc as bs cs
theorem Y_ {α:Type} {as bs:List α} {i:Nat} (h:i<as.length) {h' :i<(as++bs).length}:(as++bs)[i]=as[i]:=List.getElem_append_left h
theorem Zf {α:Type} {l:List α} {i:Nat} (h:i<l.length):l.take (i+1)=l.take i++[l[i]]:=List.take_succ_eq_append_getElem h
theorem ah {p:Prop} (h:p:=by omega):p:=h
theorem aa {p:Prop} (h:p:=by kernel_rfl):p:=h
theorem ai {p:Prop} (h:p:=by repeat (first|exact aU|apply zt)):p:=h
theorem zE {p:Prop} (h:p:=by decide):p:=h
theorem aB {p:Prop} (h:p:=by assumption):p:=h
theorem aG {p:Prop} (h:p:=by rfl):p:=h
theorem aT {p:Prop} (h:p:=by first|(simp;done)|(simp [Value.cells];done)):p:=h
theorem aV {p:Prop} (h:p:=by repeat (first|exact V3|(apply V2;focus (repeat (first|exact aU|apply zt))))):p:=h
theorem bn {p:Prop} (h:p:=by first|rfl|assumption):p:=h
theorem bq {p:Prop} (h:p:=by simp):p:=h
theorem Y1 {p:Prop} (h:p:=by first|assumption|exact aj.mono hg (by assumption)|exact aj.left (by assumption)|exact aj.left (aj.mono hg (by assumption))):p:=h
theorem bL {p:Prop} (h:p:=by first|omega|(simp;done)|(simp;omega)|decide):p:=h
theorem bX {p:Prop} (h:p:=by simp;omega):p:=h
theorem Y2 {p:Prop} (h:p:=by exact decide_eq_false (by omega)):p:=h
theorem Y3 {p:Prop} (h:p:=by exact decide_eq_true (by omega)):p:=h
theorem jM {p:Prop} (h:p:=by repeat (first|exact aW|exact aY|(apply aX;focus (repeat (first|exact aU|apply zt)))|apply aZ)):p:=h
theorem mO {p:Prop} (h:p:=by simp;rfl):p:=h
theorem p7 {p:Prop} (h:p:=by first|omega|(simp;done)|(simp;omega)):p:=h
theorem p8 {p:Prop} (h:p:=by simp;exact ⟨rfl,rfl⟩):p:=h
theorem Y4 {p:Prop} (h:p:=by exact decide_eq_true (by simp;omega)):p:=h
theorem sv {p:Prop} (h:p:=by simp [Value.cells]):p:=h
theorem Y5 {p:Prop} (h:p:=by exact decide_eq_false (by simp;omega)):p:=h
theorem vD {p:Prop} (h:p:=by first|rfl|omega):p:=h
theorem yb {p:Prop} (h:p:=by first|(simp;done)|(simp;omega)):p:=h
end Go.Sp
end
