/- Texts of this proof, one behind the other. -/
import Derived.Test.YtojafegjlahajaaGreatDoorQSpMapK
import Derived.OpenShut
import Derived.LaidSub
section
/- Texts of this proof, one behind the other. -/
section
/- Texts of this proof, one behind the other. -/
section
/- Texts of this proof, one behind the other. -/
section
/- Texts of this proof. -/
namespace Go.Sp
def LoadsAs (P:Program) (ty:TypeId) (cs:List Value) (v:Value):Prop:=∀ (w:World) (b:Nat),(∀ j u,cs[j]?=some u→w.cell? ⟨b,j,none⟩=some u)→(loadVar ty ⟨b,0,none⟩).run P w=.ok v w
theorem LoadsAs.flat {P:Program} {ty:TypeId} {v:Value} (h:flat1 P ty=true):LoadsAs P ty [v] v:=fun w b hc=>by
 simp [loadVar,run_isAgg_flat (flat1_flat h),hc 0 v rfl]
theorem LoadsAs.agg {P:Program} {ty:TypeId} {cs:List Value} (h:∀ w,(isAgg ty).run P w=.ok true w) (hs:(P.info? ty).map (·.size)=some cs.length):LoadsAs P ty cs (.agg cs.toArray):=fun w b hc=>by
 have hr:=run_loadCells_list (P:=P) w ⟨b,0,none⟩ cs fun j v hj=>by rw [add_lit,Nat.zero_add];exact hc j v hj
 simp [loadVar,h,run_sizeOf hs,hr]
section
variable {P:Program} {fn:Func} {n:Nat} {R:Ending→World→Prop} {k:List Item} {σ:List (Nat × Value)} {D:List Deferred} {g:Gr} {η ζ θ:List SProp} {f:FuncId}
theorem Holds.obj_cells {w:World} {b:Nat} {T:TypeId} {cs:List Value} (h:Holds w g (obj b T cs::η)):∀ j u,cs[j]?=some u→w.cell? ⟨b,j,none⟩=some u:=fun _ _ hj=>h.obj_cell hj
def DPost2 (P:Program) (g:Gr) (b1 b2:Nat) (t1 t2:TypeId) (R:Ending→World→Prop) (e:Ending) (u:FrameMode) (w:World):Prop :=
 (∃ v,e=.returned v)∧settle u=.returning∧∃ T1 T2 cs1 cs2 v1 v2 η,Holds w g (obj b1 T1 cs1::obj b2 T2 cs2::η)∧LoadsAs P t1 cs1 v1∧LoadsAs P t2 cs2 v2∧R (.returned (.tuple #[v1,v2])) w
theorem results_two {a:Act} {w:World} {s1 s2 b1 b2:Nat} {t1 t2 T1 T2:TypeId} {cs1 cs2:List Value} {v1 v2:Value} (hr:fn.results=#[.cell s1 t1,.cell s2 t2]) (hf:Fits a n σ) (hl1:look σ s1=some (.pointer (some ⟨b1,0,none⟩))) (hl2:look σ s2=some (.pointer (some ⟨b2,0,none⟩)))
  (hw:Holds w g (obj b1 T1 cs1::obj b2 T2 cs2::η)) (h1:LoadsAs P t1 cs1 v1) (h2:LoadsAs P t2 cs2 v2):(results fn a.tmps).run P w=.ok (.tuple #[v1,v2]) w:=by
 have e1:=h1 w b1 hw.obj_cells;have e2:=h2 w b2 (hw.drop).obj_cells;have l1:=hf.2 s1 _ hl1;have l2:=hf.2 s2 _ hl2
 simp [results,hr,Array.getD_eq_getD_getElem?,l1,l2,asAddr,e1,e2]
theorem leavesCell2 {a:Act} {w:World} {u:FrameMode} {s1 s2 b1 b2:Nat} {t1 t2:TypeId} {cap args:Array Value} (hr:fn.results=#[.cell s1 t1,.cell s2 t2]) (hf:Fits a n σ) (hl1:look σ s1=some (.pointer (some ⟨b1,0,none⟩))) (hl2:look σ s2=some (.pointer (some ⟨b2,0,none⟩)))
  (hu:u≠.run) (hc:callable P f=true) (hcall:CallsD P f (args++cap) u w (DPost2 P g b1 b2 t1 t2 R)):Lv P fn a.tmps R [⟨.fn (.func f) cap,args⟩] u w:=by
 refine Lv.of (leaves_cons hu (by simp [invoke,run_callFunc hc]) (hcall.mono ?_));rintro e u' w' ⟨⟨v,rfl⟩,hs,T1,T2,cs1,cs2,v1,v2,η',hw,h1,h2,hR⟩
 show Leaves P fn a.tmps R [] (settle u') w'
 rw [hs];exact ⟨_,results_two hr hf hl1 hl2 hw h1 h2,hR⟩
theorem S.retCellT {s1 s2 b1:Nat} {t1 T1:TypeId} {cs1:List Value} {v1 v2:Value} (hr:fn.results=#[.cell s1 t1,.tmp s2]) (hl1:look σ s1=some (.pointer (some ⟨b1,0,none⟩))) (hl2:look σ s2=some v2)
  (s:Sel η (obj b1 T1 cs1) ζ) (h1:LoadsAs P t1 cs1 v1) (h:∀ w,Holds w g (obj b1 T1 cs1::ζ)→R (.returned (.tuple #[v1,v2])) w):S none P fn n R (.code .ret::k) σ [] g η:=by
 refine S.retL fun a w hf hd hw=>?_;have hw' :=hw.sel s;refine ⟨.tuple #[v1,v2],?_,h w hw'⟩;have e1:=h1 w b1 hw'.obj_cells;have l1:=hf.2 s1 _ hl1;have l2:=hf.2 s2 _ hl2
 simp [results,hr,Array.getD_eq_getD_getElem?,l1,l2,asAddr,e1]
end
def errP (t:TypeId) (z:Int):List PanicEntry:=[{ v:=.iface t (.int .i64 z),recovered:=false }]
end Go.Sp
end
section
/- Texts of this proof. -/
namespace Go.Sp
section
variable {P:Program} {fn:Func} {n:Nat} {R:Ending→World→Prop} {ro:Option Nat} {σ:List (Nat × Value)} {D:List Deferred} {g:Gr} {η:List SProp}
end
theorem mem_take_succ {α:Type} {l:List α} {i:Nat} (hi:i<l.length) {p:α→Prop} (h:∀ x∈l.take i,p x) (h' :p l[i]):∀ x∈l.take (i+1),p x:=fun x hx=>by
 rw [List.take_succ_eq_append_getElem hi,List.mem_append,List.mem_singleton] at hx
 rcases hx with hx|rfl
 ·exact h x hx
 ·exact h'
end Go.Sp
end
end
section
/- Texts of this proof. -/
namespace Go.Sp
theorem run_equalDot {P : Program} {t ti : TypeId} {f0 f1 : Field} (ht : P.underlying t = some (.struct #[f0, f1])) (hi : P.underlying ti = some (.int .i64)) (h0 : f0.type = ti) (h1 : f1.type = ti) (o0 : f0.offset = 0) (o1 : f1.offset = 1) (n0 : f0.name ≠ "_") (n1 : f1.name ≠ "_") (hh : P.stoodInHeld t = false)
  (a b:Int × Int) (w:World):(Op.equal t (enc2 a) (enc2 b)).run P w=.ok (decide (a=b)) w:=by
 have hpa0:=fun w=>run_part_int hi _ 0 _ (enc2_at a).1 w;have hpa1:=fun w=>run_part_int hi _ 1 _ (enc2_at a).2 w;have hpb0:=fun w=>run_part_int hi _ 0 _ (enc2_at b).1 w;have hpb1:=fun w=>run_part_int hi _ 1 _ (enc2_at b).2 w;have heq:∀ (x y:Int) (w:World),(Op.equalIn 9999 ti (.int .i64 x) (.int .i64 y)).run P w=.ok (x ==y) w:=fun x y w=>by
  show (Op.equalIn (9998+1) ti (.int .i64 x) (.int .i64 y)).run P w=_
  unfold Op.equalIn
  simp [run_underlying hi]
 show (Op.equalIn (9999+1) t (enc2 a) (enc2 b)).run P w=_
 unfold Op.equalIn enc2;simp only [Sem.run_bind,run_underlying ht,Result.andThen];obtain ⟨a1,a2⟩:=a;obtain ⟨b1,b2⟩:=b;simp only at hpa0 hpa1 hpb0 hpb1
 by_cases c1:a1=b1
 ·by_cases c2:a2=b2
  ·subst c1;subst c2
   simp [hh,h0,h1,o0,o1,n0,n1,hpa0,hpa1,heq]
  ·subst c1
   have:(a2 ==b2)=false:=by simpa using c2
   simp [hh,h0,h1,o0,o1,n0,n1,hpa0,hpa1,hpb0,hpb1,heq,c2]
 ·have:(a1 ==b1)=false:=by simpa using c1
  simp [hh,h0,h1,o0,o1,n0,n1,hpa0,hpb0,heq,c1]
section
variable {P:Program} {σ:List (Nat × Value)} {g:Gr} {η:List SProp} {t ti u:TypeId} {x y:Operand} {a b c d:Int} {f0 f1:Field}
theorem Does.eqlDot (ht : P.underlying t = some (.struct #[f0, f1])) (hi : P.underlying ti = some (.int .i64)) (h0 : f0.type = ti) (h1 : f1.type = ti) (o0 : f0.offset = 0) (o1 : f1.offset = 1) (n0 : f0.name ≠ "_") (n1 : f1.name ≠ "_") (hh : P.stoodInHeld t = false) (hgd : P.eqGuardType P.depth t = false)
  (hx:ev σ x=some (.agg #[.int .i64 a,.int .i64 b])) (hy:ev σ y=some (.agg #[.int .i64 c,.int .i64 d])):Does P (.binOp .eql t x y u) σ g η (.bool (decide ((a,b)=(c,d)))) η:=.run fun o ρ w ho hk=>by
 have h:=run_equalDot ht hi h0 h1 o0 o1 n0 n1 hh (a,b) (c,d) w;simp only [enc2] at h
 simp [execOp,ho,hk x _ hx,hk y _ hy,eqGuard,Go.binOp,h,hgd]
theorem Does.neqDot (ht : P.underlying t = some (.struct #[f0, f1])) (hi : P.underlying ti = some (.int .i64)) (h0 : f0.type = ti) (h1 : f1.type = ti) (o0 : f0.offset = 0) (o1 : f1.offset = 1) (n0 : f0.name ≠ "_") (n1 : f1.name ≠ "_") (hh : P.stoodInHeld t = false) (hgd : P.eqGuardType P.depth t = false)
  (hx:ev σ x=some (.agg #[.int .i64 a,.int .i64 b])) (hy:ev σ y=some (.agg #[.int .i64 c,.int .i64 d])):Does P (.binOp .neq t x y u) σ g η (.bool (decide ((a,b)≠(c,d)))) η:=.run fun o ρ w ho hk=>by
 have h:=run_equalDot ht hi h0 h1 o0 o1 n0 n1 hh (a,b) (c,d) w;simp only [enc2] at h
 simp [execOp,ho,hk x _ hx,hk y _ hy,eqGuard,Go.binOp,h,hgd]
end
theorem take_same {α:Type} {xs ys:List α} {i:Nat} (hi:i<xs.length) (hi2:i<ys.length) (h:xs.take i=ys.take i) (e:xs[i]=ys[i]):xs.take (i+1)=ys.take (i+1):=by
 rw [List.take_succ_eq_append_getElem hi,List.take_succ_eq_append_getElem hi2,h,e]
theorem not_same {α:Type} {xs ys:List α} {i:Nat} (hi:i<xs.length) (hi2:i<ys.length) (e:¬ xs[i]=ys[i]):¬ xs=ys:=fun h=>e (by subst h;rfl)
theorem str_eqL {a b:List UInt8} (h:(str a).toList=(str b).toList):a=b:=by simpa using h
set_option synthInstance.maxSize 2000
set_option synthInstance.maxHeartbeats 400000
instance decDot:DecidableEq DotT:=inferInstance
instance decRec:DecidableEq RecT:=inferInstance
instance decLeaf:DecidableEq LeafT:=inferInstance
instance decStub:DecidableEq StubT:=inferInstance
instance decNode:DecidableEq NodeT:=inferInstance
instance decPrf:DecidableEq PrfT:=inferInstance
instance decRoot:DecidableEq RootT:=inferInstance
instance decEvd:DecidableEq EvdT:=inferInstance
instance decHeld:DecidableEq HeldT:=inferInstance
end Go.Sp
end
end
section
/- Texts of this proof, one behind the other. -/
section
/- Texts of this proof, one behind the other. -/
section
/- Texts of this proof. -/
namespace Go.Sp
theorem over_dot {x y:RecT} (h:over y x=true):cmpR x y≠0:=fun e=>by
 rw [cmpR_eq] at e;unfold over at h;simp only [Bool.and_eq_true] at h;have h1:=(shaped_iff.1 h.2.1).2.2.2.2.1;have h2:=h.2.2.2;rw [e,h1] at h2
 cases h2
theorem over_self (x:RecT):over x x=false:=by
 cases h:over x x with
 |false=>rfl
 |true=>exact absurd (cmpR_eq.2 rfl) (over_dot h)
theorem underR_eq (l:List RecT) (x:RecT):underR l x=l.any fun y=>over y x:=by
 unfold underR
 congr 1
 funext y
 cases h:over y x with
 |false=>simp
 |true=>simp [over_dot h]
theorem SRight_iff {l:List RecT}:SRight l↔oneK l=true∧∀ j (h:j<l.length),(∀ h0:0<j,cmpR l[j-1] l[j]<0)∧∀ k (hk:k<l.length),over l[j] l[k]=false:=by
 unfold SRight;refine and_congr_right fun _=>⟨fun q j h=>⟨(q j h).1,fun k hk=>?_⟩,fun q j h=>⟨(q j h).1,?_⟩⟩
 ·have h1:=(q k hk).2
  rw [underR_eq,List.any_eq_false] at h1
  simpa using h1 l[j] (List.getElem_mem h)
 ·rw [underR_eq,List.any_eq_false]
  intro y hy
  obtain ⟨i,hi,rfl⟩:=List.mem_iff_getElem.1 hy
  simp [(q i hi).2 j h]
theorem oneK_step {l:List RecT} {i:Nat} (h:i<l.length) (o:oneK (l.take i)=true):oneK (l.take (i+1))=true↔recOk l[i]=true∧l[i].1=(l[0]'(by omega)).1:=by
 rw [List.take_succ_eq_append_getElem h,oneK_snoc o];refine and_congr_right fun _=>⟨fun q=>?_,fun q h0=>?_⟩
 ·by_cases h0:i=0
  ·subst h0;rfl
  ·have:=q (by rw [List.length_take];omega)
   rw [List.getElem_take] at this;exact this
 ·rw [List.getElem_take];exact q
theorem oneK_none {l:List RecT} {i:Nat} (h:oneK (l.take i)=false):oneK l=false:=by
 cases e:oneK l with
 |false=>rfl
 |true=>rw [oneK_take i e] at h;cases h
theorem lt_step {n k:Nat} {P:∀ j,j<n→Prop} (h:∀ j (hj:j<n),j<k→P j hj) (hk:∀ hk:k<n,P k hk):∀ j (hj:j<n),j<k+1→P j hj:=fun j hj q=>by
 rcases Nat.lt_or_ge j k with q1|q1
 ·exact h j hj q1
 ·have:j=k:=by omega
  subst this;exact hk hj
end Go.Sp
end
section
/- Texts of this proof. -/
namespace Go.Sp
theorem Does.geqS {P:Program} {σ:List (Nat × Value)} {g:Gr} {η:List SProp} {t u:TypeId} {x y:Operand} {a b:ByteArray} (hx:ev σ x=some (.string a)) (hy:ev σ y=some (.string b)) :
  Does P (.binOp .geq t x y u) σ g η (.bool !(Op.bytesLess a.toList b.toList)) η :=
 .run fun o ρ w ho hk=>by simp [execOp,ho,hk x _ hx,hk y _ hy,eqGuard,Go.binOp,Op.stringOp]
theorem geqS_eq (x y:List UInt8):(!Op.bytesLess (str x).toList (str y).toList)=decide (¬ x<y):=by rw [lssS_eq,decide_not]
end Go.Sp
end
end
section
/- Texts of this proof. -/
namespace Go.Sp
section
variable {ro:Option Nat} {P:Program} {fn:Func} {n:Nat} {R:Ending→World→Prop} {k:List Item} {σ:List (Nat × Value)} {D:List Deferred} {g:Gr} {η ζ:List SProp} {ops:Array Oper} {t e e' :TypeId} {x:Operand} {v:Value} {xs:List UInt8}
theorem Does.toE {op:Op} {η' :List SProp} {u:Value} (h:Does P op σ g η u η'):DoesE P op σ g η fun v η'' =>v=u∧η'' =η' :=
 fun o ρ w h1 h2 h3=>let ⟨w',a,b⟩:=h o ρ w h1 h2 h3;⟨u,w',η',⟨rfl,rfl⟩,a,b⟩
theorem DoesE.toStrO {t2:TypeId} (ht:P.underlying t=some (.slice e)) (he:P.underlying e=some (.int .u8)) (ht2:P.underlying t2=some .string) (hx:ev σ x=some v) :
  DoesE P (.convert t t2 x) σ g (OwnP Rp.u8 e' v xs::η) fun u η' =>∃ η₁,(u=.string (str xs)∧η₁=η)∧η' =OwnP Rp.u8 e' v xs::η₁ :=
 DoesE.borrow fun m hm hd=>Does.toE (Does.toStr (g:=g.add m) ht he ht2 hx (hm.arr.right hd))
theorem ODg.toStrO {fl:Bool} {i d:Nat} {t2:TypeId} {l:List Nat} (ho:Fires ops i n σ d (.convert t t2 x)) (hd:hdOk fl ops i l=true) (ht:P.underlying t=some (.slice e)) (he:P.underlying e=some (.int .u8)) (ht2:P.underlying t2=some .string) (hx:ev σ x=some v)
  (hs:Sel η (OwnP Rp.u8 e' v xs) ζ) (h:OD P fn n R ops k D g l ((d,.string (str xs))::σ) η):ODx P fn n R ops k D g fl (i::l) σ η :=
 ODx.perm hs.perm (ODg.loudE (η:=OwnP Rp.u8 e' v xs::ζ) (K:=fun u η' =>u=.string (str xs)∧η' =OwnP Rp.u8 e' v xs::ζ) ho rfl hd
  (fun θ=>(DoesE.toStrO (η:=ζ++θ) ht he ht2 hx).imp fun _ _ ⟨_,⟨a,b⟩,c⟩=>⟨_,⟨a,rfl⟩,by rw [c,b];rfl⟩) (by rintro _ _ ⟨rfl,rfl⟩;exact ODx.perm hs.perm.symm h))
theorem OD.toStrO {i d:Nat} {t2:TypeId} {l:List Nat} (ho:Fires ops i n σ d (.convert t t2 x)) (hd:descOk ops [i] l=true) (ht:P.underlying t=some (.slice e)) (he:P.underlying e=some (.int .u8)) (ht2:P.underlying t2=some .string) (hx:ev σ x=some v)
  (hs:Sel η (OwnP Rp.u8 e' v xs) ζ) (h:OD P fn n R ops k D g l ((d,.string (str xs))::σ) η):OD P fn n R ops k D g (i::l) σ η:=ODg.toStrO (fl:=false) ho (by simpa [hdOk] using hd) ht he ht2 hx hs h
theorem ODt.toStrO {i d:Nat} {t2:TypeId} {l:List Nat} (ho:Fires ops i n σ d (.convert t t2 x)) (_:true=true) (ht:P.underlying t=some (.slice e)) (he:P.underlying e=some (.int .u8)) (ht2:P.underlying t2=some .string) (hx:ev σ x=some v)
  (hs:Sel η (OwnP Rp.u8 e' v xs) ζ) (h:OD P fn n R ops k D g l ((d,.string (str xs))::σ) η):ODx P fn n R ops k D g true (i::l) σ η:=ODg.toStrO (fl:=true) ho rfl ht he ht2 hx hs h
end
end Go.Sp
end
end
end
section
/- Texts of this proof, one behind the other. -/
section
/- Texts of this proof. -/
namespace Go.Sp
def w64s (l:List U64):List Value:=l.map w64
@[simp] theorem w64s_length (l:List U64):(w64s l).length=l.length:=by simp [w64s]
theorem w64s_get {l:List U64} {j:Nat} (h:j<l.length):(w64s l)[j]?=some (w64 (l.getD j 0)):=by
 simp [w64s,h,List.getD_eq_getElem?_getD]
theorem w64s_set (l:List U64) (j:Nat) (x:U64):(w64s l).set j (w64 x)=w64s (l.set j x):=by simp [w64s,List.map_set]
theorem w64s_one (l:List U64):∀ v∈w64s l,v.oneCell' =true:=fun v hv=>by
 obtain ⟨x,_,rfl⟩:=List.mem_map.1 hv;rfl
theorem w64s_all (l:List U64):(w64s l).all (·.oneCell')=true:=List.all_eq_true.2 (w64s_one l)
section
variable {P:Program} {σ:List (Nat × Value)} {g:Gr} {η ζ:List SProp} {t e:TypeId} {x y:Operand}
theorem Does.indexArr {kd:IntKind} {zi:Int} {j len:Nat} {cs:Array Value} {v:Value} (ht:P.underlying t=some (.array len e)) (he:(P.info? e).map (·.size)=some 1) (hf:flat1 P e=true) (hx:ev σ x=some (.agg cs)) (hy:ev σ y=some (.int kd zi)) (hz:zi=(j:Int)) (hj:j<len) (hv:cs[j]?=some v) :
  Does P (.index t x y) σ g η v η:=.run fun o ρ w ho hk=>by
 subst hz
 simp [execOp,ho,hk x _ hx,hk y _ hy,Instr.index,part,asIntOf,run_underlying ht,hj,run_sizeOf he,run_isAgg_flat (flat1_flat hf),hv]
theorem Does.sliceArrFrom {kd:IntKind} {z:Int} {a len b:Nat} (ht:P.underlying t=some (.array len e)) (he:(P.info? e).map (·.size)=some 1) (hx:ev σ x=some (.pointer (some ⟨b,0,none⟩))) (hy:ev σ y=some (.int kd z)) (hz:z=(a:Int)) (ha:a<len) (h0:0<a) :
  Does P (.slice t x (some y) none none) σ g η (.slice (some ⟨b,a,none⟩) (len - a) (len - a)) η:=.run fun o ρ w ho hk=>by
 subst hz;have h1:a≤len:=by omega
 have h2:¬ len=a:=by omega
 have h3:¬ a=0:=by omega
 simp [execOp,ho,hk x _ hx,hk y _ hy,Instr.sliceAt,Instr.sureAddr,Instr.sliceBounds,Instr.sliceBound,asIntOf,run_underlying ht,h1,h2,run_sizeOf he,Addr.add,h3]
theorem Does.sliceArrTo {kd:IntKind} {z:Int} {a len b:Nat} (ht:P.underlying t=some (.array len e)) (he:(P.info? e).map (·.size)=some 1) (hx:ev σ x=some (.pointer (some ⟨b,0,none⟩))) (hy:ev σ y=some (.int kd z)) (hz:z=(a:Int)) (ha:a≤len) (h0:0<len) :
  Does P (.slice t x none (some y) none) σ g η (.slice (some ⟨b,0,none⟩) a len) η:=.run fun o ρ w ho hk=>by
 subst hz;have h2:¬ len=0:=by omega
 simp [execOp,ho,hk x _ hx,hk y _ hy,Instr.sliceAt,Instr.sureAddr,Instr.sliceBounds,Instr.sliceBound,asIntOf,run_underlying ht,ha,h2,run_sizeOf he,Addr.add]
theorem DoesE.copyObj {T te:TypeId} {b i j m n c n' c' :Nat} {cs:List Value} (ht:P.underlying t=some (.slice e)) (he:(P.info? e).map (·.size)=some 1) (hx:ev σ x=some (.slice (some ⟨b,i,none⟩) n c)) (hy:ev σ y=some (.slice (some ⟨b,j,none⟩) n' c')) (hs:Sel η (obj b T cs) ζ)
  (hm:m=min n' n) (h1:i+m≤cs.length) (h2:j+m≤cs.length) (hone:∀ v∈cs,v.oneCell' =true) :
  DoesE P (.call ⟨.builtin .copy,#[x,y],#[t,te]⟩) σ g η fun v η' =>v=.int .i64 (m:Int)∧η' =obj b T (cs.take i++(cs.drop j).take m++cs.drop (i+m))::ζ :=
 fun o ρ w ho hk hw=>by
  have hw1:=hw.sel hs;have hlen:((cs.drop j).take m).length=m:=by simp;omega
  have hr:=run_loadCells_list (P:=P) w ⟨b,j,none⟩ ((cs.drop j).take m) fun q v hq=>by
   rw [add_lit];refine hw1.obj_cell ?_;have hql:q<((cs.drop j).take m).length:=(List.getElem?_eq_some_iff.1 hq).1;rw [List.getElem?_take_of_lt (by omega),List.getElem?_drop] at hq;exact hq
  rw [hlen] at hr;have hst:=run_storeCells_at P b i T ((cs.drop j).take m) 0 cs.toArray w hw1.block (by simp;omega) (by
   intro v hv
   exact hone v (List.mem_of_mem_drop (List.mem_of_mem_take hv)))
  simp only [Nat.add_zero,hlen] at hst;refine ⟨_,w.setRow b (cs.take i++(cs.drop j).take m++cs.drop (i+m)).toArray,_,⟨rfl,rfl⟩,?_,hw1.setRow⟩;have hmin:Nat.min n' n=m:=hm.symm
  simp [execOp,ho,hk x _ hx,hk y _ hy,resolve,invoke,builtin,Builtin.copy_,run_underlying ht,Builtin.lenOf,Builtin.firstCells,run_sizeOf he,hmin,hr,hst,goInt]
variable {fn:Func} {n:Nat} {R:Ending→World→Prop} {k:List Item} {D:List Deferred} {ops:Array Oper}
theorem OD.copyObj {q d:Nat} {l:List Nat} {T te:TypeId} {b i j m n1 c n' c' :Nat} {cs:List Value} (ho:Fires ops q n σ d (.call ⟨.builtin .copy,#[x,y],#[t,te]⟩)) (hd:descOk ops [q] l=true) (ht:P.underlying t=some (.slice e)) (he:(P.info? e).map (·.size)=some 1) (hx:ev σ x=some (.slice (some ⟨b,i,none⟩) n1 c))
  (hy:ev σ y=some (.slice (some ⟨b,j,none⟩) n' c')) (hs:Sel η (obj b T cs) ζ) (hm:m=min n' n1) (h1:i+m≤cs.length) (h2:j+m≤cs.length) (hone:∀ v∈cs,v.oneCell' =true)
  (h:OD P fn n R ops k D g l ((d,.int .i64 (m:Int))::σ) (obj b T (cs.take i++(cs.drop j).take m++cs.drop (i+m))::ζ)):OD P fn n R ops k D g (q::l) σ η :=
 ODx.perm hs.perm (ODg.loudE (fl:=false) (η:=obj b T cs::ζ) (K:=fun u η' =>u=.int .i64 (m:Int)∧η' =obj b T (cs.take i++(cs.drop j).take m++cs.drop (i+m))::ζ) ho rfl (by simpa [hdOk] using hd)
  (fun θ=>(DoesE.copyObj (ζ:=ζ++θ) ht he hx hy .here hm h1 h2 hone).imp fun _ _ ⟨a,b⟩=>⟨_,⟨a,rfl⟩,by rw [b];rfl⟩) (by rintro _ _ ⟨rfl,rfl⟩;exact h))
end
def schM (b:List UInt8) (t:Nat):List U64:=sched b t++List.replicate (80 - t) 0
theorem schM_len {b:List UInt8} {t:Nat} (h:t≤80):(schM b t).length=80:=by simp [schM,sched_len];omega
theorem schM_80 (b:List UInt8):schM b 80=sched b 80:=by simp [schM]
theorem schM_put {b:List UInt8} {t:Nat} (h:t<80) (x:U64):(schM b t).set t x=sched b t++x::List.replicate (79 - t) 0:=by
 have hl:=sched_len b t;rw [schM,List.set_append_right _ _ (by omega),hl,Nat.sub_self,show 80 - t=(79 - t)+1 by omega,List.replicate_succ,List.set_cons_zero]
theorem schM_zero {b:List UInt8} {t:Nat} (h:t<80):(schM b t).set t 0=schM b t:=by
 rw [schM_put h,schM,show 80 - t=(79 - t)+1 by omega,List.replicate_succ]
theorem schM_set {b:List UInt8} {t:Nat} (h:t<80):(schM b t).set t (schedAt b (sched b t) t)=schM b (t+1):=by
 rw [schM_put h,schM,sched,List.append_assoc,List.singleton_append,show 80 - (t+1)=79 - t by omega]
theorem schM_get {b:List UInt8} {t i:Nat} (h:i<t):(schM b t).getD i 0=(sched b t).getD i 0:=by
 have hl:=sched_len b t;rw [List.getD_eq_getElem?_getD,List.getD_eq_getElem?_getD,schM,List.getElem?_append_left (by omega)]
theorem getD_set_self {l:List U64} {t:Nat} {x:U64} (h:t<l.length):(l.set t x).getD t 0=x:=by simp [List.getD_eq_getElem?_getD,h]
theorem beW_take {l : List UInt8} {j : Nat} (h : j < l.length) : beW (l.take (j + 1)) = beW (l.take j) <<< 8 ||| UInt64.ofNat l[j].toNat := by
 unfold beW;rw [List.take_succ_eq_append_getElem h,List.foldl_append];rfl
theorem w_u8 (c:UInt8):IntKind.u64.wrap (c.toNat:Int)=((UInt64.ofNat c.toNat).toNat:Int):=by
 have:=c.toNat_lt;rw [wrapN (by omega),UInt64.toNat_ofNat'];omega
theorem list8 {l:List U64} (h:l.length=8):∃ a b c d e f g i,l=[a,b,c,d,e,f,g,i]:=by
 match l,h with
 |[a,b,c,d,e,f,g,i],_=>exact ⟨a,b,c,d,e,f,g,i,rfl⟩
def addT (v u:List U64) (i:Nat):List U64:=(List.zipWith (·+·) v u).take i++v.drop i
theorem addT_len {v u:List U64} (hv:v.length=8) (hu:u.length=8) {i:Nat} (h:i≤8):(addT v u i).length=8:=by simp [addT,hv,hu];omega
theorem addT_8 {v u:List U64} (hv:v.length=8) (hu:u.length=8):addT v u 8=List.zipWith (·+·) v u:=by
 rw [addT,List.drop_eq_nil_of_le (by omega),List.append_nil,List.take_of_length_le (by simp [hv,hu])]
theorem addT_get {v u:List U64} (hv:v.length=8) (hu:u.length=8) {i:Nat} (h:i<8):(addT v u i).getD i 0=v.getD i 0:=by
 have hl:((List.zipWith (·+·) v u).take i).length=i:=by simp [hv,hu];omega
 rw [List.getD_eq_getElem?_getD,List.getD_eq_getElem?_getD,addT,List.getElem?_append_right (by omega),hl,Nat.sub_self,List.getElem?_drop,Nat.add_zero]
theorem addT_set {v u:List U64} (hv:v.length=8) (hu:u.length=8) {i:Nat} (h:i<8):(addT v u i).set i (v.getD i 0+u.getD i 0)=addT v u (i+1):=by
 have hl:((List.zipWith (·+·) v u).take i).length=i:=by simp [hv,hu];omega
 have hz:i<(List.zipWith (·+·) v u).length:=by simp [hv,hu];omega
 have e1:v.drop i=v[i]::v.drop (i+1):=List.drop_eq_getElem_cons (by omega);rw [addT,List.set_append_right _ _ (by omega),hl,Nat.sub_self,e1,List.set_cons_zero,addT,List.take_succ_eq_append_getElem hz,List.append_assoc,List.singleton_append,List.getElem_zipWith]
 simp [List.getD_eq_getElem?_getD,hv,hu,h]
end Go.Sp
end
section
/- Texts of this proof. -/
namespace Go.Sp
theorem laidVars_mem {P:Program} {w:World} {n:String} {d:DataW Unit}:∀ {l:List (String × DataW Unit)} {ps:List MemPlace},DataW.LaidVars P w l ps→(n,d)∈l →
  ∃ g t cs fuel p,P.globalNamed n=some g∧(P.globals[g]?).map (·.type)=some t∧w.var? P n=some cs∧DataW.trod (fun _=>()) P w 0 (fun _=>true) false fuel t cs.toList=some (d,p)
 |[],_,_,hm=>by cases hm
 |(n',d')::r,ps,h,hm=>by
  obtain ⟨g,t,cs,fuel,p,q,e1,e2,e3,e4,hr,_⟩:=h
  rcases List.mem_cons.1 hm with hm|hm
  ·cases hm;exact ⟨g,t,cs,fuel,p,e1,e2,e3,e4⟩
  ·exact laidVars_mem hr hm
theorem laid_at {P:Program} {w:World} {l:List (String × DataW Unit)} {n:String} {vs:List U64} {g t e:Nat} (h:laidMetH P l w) (hm:(n,DataW.agg (vs.map fun x=>.lit (.int .u64 (x.toNat:Int))))∈l) (hg:P.globalNamed n=some g)
  (ht:(P.globals[g]?).map (·.type)=some t) (hu:P.underlying t=some (.array vs.length e)) (he:P.underlying e=some (.int .u64)) (hc:P.cellsOf e=1) (hct:P.cellsOf t=vs.length):At w.fr ⟨g,0,none⟩ (w64s vs):=by
 obtain ⟨ps,hl,_⟩:=(laidMetH_iff.1 h).1;obtain ⟨g',t',cs,fuel,p,e1,e2,e3,e4⟩:=laidVars_mem hl (List.mem_filter.2 ⟨hm,rfl⟩);rw [hg] at e1;obtain rfl:=Option.some.inj e1;rw [ht] at e2;obtain rfl:=Option.some.inj e2;obtain ⟨xs,m,_,hx,hlen,hxl,hi⟩:=DataW.trod_array hu e4;have hx1:=(Prod.mk.inj hx).1
 injection hx1 with hx1
 have hcs:cs.toList=w64s vs:=by
  refine List.ext_getElem (by rw [hlen,hct,w64s_length]) fun i h1 h2=>?_;have h2' :i<vs.length:=by simpa using h2
  have hq:=hi i h2';rw [hc,Nat.mul_one] at hq;have hxi:xs[i]?=some xs[i]:=List.getElem?_eq_getElem (by omega);rw [hxi] at hq;obtain ⟨z,hz,hz2,_⟩:=DataW.trod_int he hq;have h3:(xs[i]).1=.lit (.int .u64 z):=by rw [hz2]
  have h4:=congrArg (fun l:List (DataW Unit)=>l[i]?) hx1;simp only [List.getElem?_map,hxi,List.getElem?_eq_getElem h2',Option.map_some,Option.some.injEq] at h4;rw [h3] at h4
  injection h4 with h4
  injection h4 with _ h4
  have h5:cs.toList[i]=.int .u64 z:=by
   have:(cs.toList.drop i).take 1=[cs.toList[i]]:=by rw [List.drop_eq_getElem_cons h1];rfl
   rw [this] at hz;exact (List.cons.inj hz).1
  rw [h5,← h4]
  simp [w64s,w64]
 intro j hj
 rw [fr_cell,← List.getElem?_eq_getElem hj,← hcs];unfold World.var? at e3;rw [hg] at e3;simp only [Option.bind_some] at e3;have e0:(Addr.mk g 0 none).add j=⟨g,j,none⟩:=by rw [add_lit,Nat.zero_add]
 rw [e0];unfold World.cell?
 simp only
 split at e3
 ·rename_i cs' _ _ hh
  obtain rfl:=Option.some.inj e3
  simp [hh]
 ·cases e3
end Go.Sp
end
end
