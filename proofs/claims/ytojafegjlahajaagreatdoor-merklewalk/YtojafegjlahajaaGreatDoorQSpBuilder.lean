/- Texts of this proof. -/
import Derived.Test.YtojafegjlahajaaGreatDoorQSpCmp
import Derived.Test.YtojafegjlahajaaGreatDoorQSpClone
import Derived.Lib.Builder
open Go
namespace Go.Sp
section
variable {P:Program} {σ:List (Nat × Value)} {g:Gr} {η ζ θ:List SProp} {x y:Operand} {t te e T:TypeId} {b:Nat} {cs:List Value}
theorem Does.toUnsafe {src dst t:TypeId} {k:Nat} (hs0:P.underlying src=some (.pointer t)) (hd:P.underlying dst=some .unsafePointer) (ht:(P.info? t).map (·.size)=some (k+1)) (hx:ev σ x=some (.pointer (some ⟨b,0,none⟩))) (hs:Sel η (obj b T cs) ζ) (h0:0<cs.length) :
  Does P (.convert src dst x) σ g η (.pointer (some ⟨b,0,none⟩)) η:=fun o ρ w ho hk hw=>⟨w,by
 have hb:w.heap[b]?=some (.cells cs.toArray T (0,0)):=(hw.sel hs).block
 cases hi:P.info? t with
 |none=>rw [hi] at ht;cases ht
 |some i =>
  rw [hi] at ht;simp only [Option.map_some,Option.some.injEq] at ht;have:=Lib.run_to_unsafe (P:=P) w ⟨b,0,none⟩ hs0 hd hi (by omega) (e:=T) (cells:=cs.length) (by simp [World.shape?,hb]) h0
  simp [execOp,ho,hk x _ hx,this],hw⟩
theorem Does.fromUnsafe {src dst u:TypeId} (hs0:P.underlying src=some .unsafePointer) (hd:P.underlying dst=some (.pointer u)) (hu:(P.info? u).isSome=true) (hx:ev σ x=some (.pointer (some ⟨b,0,none⟩))) (hs:Sel η (obj b T cs) ζ) (hl:liesAt P P.depth T (cs.length / P.cellsOf T) 0 u 1=true) :
  Does P (.convert src dst x) σ g η (.pointer (some ⟨b,0,none⟩)) η:=fun o ρ w ho hk hw=>⟨w,by
 have hb:w.heap[b]?=some (.cells cs.toArray T (0,0)):=(hw.sel hs).block
 cases hi:P.info? u with
 |none=>rw [hi] at hu;cases hu
 |some i =>
  have:=Lib.run_from_unsafe (P:=P) w ⟨b,0,none⟩ hs0 hd hi (e:=T) (cells:=cs.length) (by simp [World.shape?,hb]) hl
  simp [execOp,ho,hk x _ hx,this],hw⟩
theorem Does.noEscape {f : FuncId} {fn : Func} {f0 : Operand} {ts : Array TypeId} {v : Value} (hf : P.funcs[f]? = some fn) (h1 : (fn.name == "runtime.NumGoroutine") = false) (h2 : fn.body.isNone = true) (h3 : Extern.findNext fn = none) (h4 : Extern.find fn = some Extern.AbiNoEscape.same)
  (hx:ev σ f0=some (.func (.func f) #[] #[])) (hy:ev σ y=some v):Does P (.call ⟨.value f0,#[y],ts⟩) σ g η v η:=by
 intro o ρ w ho hk hw
 refine ⟨w,?_,hw⟩;have e1:=run_callFunc_extern (P:=P) hf h1 h2 h3 h4 #[v] w;rw [Lib.run_noEscape] at e1;simp only [Result.andThen] at e1
 simp [execOp,ho,resolve,hk f0 _ hx,hk y _ hy,Deferred.ofValue,invoke,e1]
theorem Does.neqSame {tp te u:TypeId} {a:Addr} (hp:P.underlying tp=some (.pointer te)) (hte:(P.info? te).isSome=true) (hgd:P.eqGuardType P.depth tp=false) (hx:ev σ x=some (.pointer (some a))) (hy:ev σ y=some (.pointer (some a))) :
  Does P (.binOp .neq tp x y u) σ g η (.bool false) η:=.run fun o ρ w ho hk=>by
 cases hi:P.info? te with
 |none=>rw [hi] at hte;cases hte
 |some i =>
  have:=Lib.run_neq_ptr_same (P:=P) w a hp hi
  simp [execOp,ho,hk x _ hx,hk y _ hy,eqGuard,hgd,this]
theorem Does.sliceArrAll {len:Nat} (ht:P.underlying t=some (.array len e)) (he:(P.info? e).map (·.size)=some 1) (hx:ev σ x=some (.pointer (some ⟨b,0,none⟩))) (h0:0<len) :
  Does P (.slice t x none none none) σ g η (.slice (some ⟨b,0,none⟩) len len) η:=.run fun o ρ w ho hk=>by
 have h2:¬ len=0:=by omega
 simp [execOp,ho,hk x _ hx,Instr.sliceAt,Instr.sureAddr,Instr.sliceBounds,Instr.sliceBound,asIntOf,run_underlying ht,h2,run_sizeOf he,Addr.add]
variable {fn:Func} {n:Nat} {R:Ending→World→Prop} {k:List Item} {D:List Deferred} {ops:Array Oper}
theorem DoesE.copyToO {e2:TypeId} {n' c m:Nat} {u:Value} {xs:List UInt8} (ht:P.underlying t=some (.slice e)) (he:(P.info? e).map (·.size)=some 1) (hx:ev σ x=some (.slice (some ⟨b,0,none⟩) n' c)) (hy:ev σ y=some u)
  (hu:Sel η (OwnP Rp.u8 e2 u xs) θ) (hs:Sel θ (obj b T cs) ζ) (hm:m=xs.length) (h1:m≤n') (h2:m≤cs.length) (h0:0<m) :
  DoesE P (.call ⟨.builtin .copy,#[x,y],#[t,te]⟩) σ g η fun v η' =>v=.int .i64 (m:Int)∧η' =OwnP Rp.u8 e2 u xs::obj b T (xs.map byteV++cs.drop m)::ζ :=
 DoesE.sel hu ((DoesE.borrow fun m' hm' hd=>DoesE.copyTo (g:=g.add m') ht he hx hy ((OwnP.arr hm').mono (Fr.sub_add_right hd)) hs hm h1 h2 h0).imp fun _ _ ⟨_,⟨a,b⟩,c⟩=>⟨a,by rw [c,b]⟩)
theorem OD.copyToO {q d:Nat} {l:List Nat} {e2:TypeId} {n' c m:Nat} {u:Value} {xs:List UInt8} (ho:Fires ops q n σ d (.call ⟨.builtin .copy,#[x,y],#[t,te]⟩)) (hd:descOk ops [q] l=true) (ht:P.underlying t=some (.slice e)) (he:(P.info? e).map (·.size)=some 1) (hx:ev σ x=some (.slice (some ⟨b,0,none⟩) n' c)) (hy:ev σ y=some u)
  (hu:Sel η (OwnP Rp.u8 e2 u xs) θ) (hs:Sel θ (obj b T cs) ζ) (hm:m=xs.length) (h1:m≤n') (h2:m≤cs.length) (h0:0<m)
  (h:OD P fn n R ops k D g l ((d,.int .i64 (m:Int))::σ) (OwnP Rp.u8 e2 u xs::obj b T (xs.map byteV++cs.drop m)::ζ)):OD P fn n R ops k D g (q::l) σ η :=
 ODx.perm (hu.perm.trans (List.Perm.cons _ hs.perm)) (ODg.loudE (fl:=false) (η:=OwnP Rp.u8 e2 u xs::obj b T cs::ζ) (K:=fun v η' =>v=.int .i64 (m:Int)∧η' =OwnP Rp.u8 e2 u xs::obj b T (xs.map byteV++cs.drop m)::ζ) ho rfl (by simpa [hdOk] using hd)
  (fun ζ' =>(DoesE.copyToO ht he hx hy .here .here hm h1 h2 h0).imp fun _ _ ⟨a,b⟩=>⟨_,⟨a,rfl⟩,by rw [b];rfl⟩) (by rintro _ _ ⟨rfl,rfl⟩;exact h))
theorem Does.sliceData {a:Addr} {m c:Nat} (hx:ev σ x=some (.slice (some a) m c)) (h0:0<c):Does P (.call ⟨.builtin .unsafeSliceData,#[x],#[t]⟩) σ g η (.pointer (some a)) η:=.run fun o ρ w ho hk=>by
 have:=Lib.run_unsafeSliceData_row (P:=P) w #[t] o.type a m c (by omega)
 simp [execOp,ho,hk x _ hx,resolve,invoke,builtin,this]
theorem OD.unsafeStr {q' d:Nat} {l:List Nat} {pt t2:TypeId} {a:Option Addr} {q:Addr} {m c:Nat} {xs:List UInt8} (ho:Fires ops q' n σ d (.call ⟨.builtin .unsafeString,#[x,y],#[pt,t2]⟩)) (hd:descOk ops [q'] l=true) (hp:P.underlying pt=some (.pointer e)) (hc:P.cellsOf e=1) (hx:ev σ x=some (.pointer (some q))) (hq:PtrIn (.slice a m c) 1 0 q) (hy:ev σ y=some (.int .i64 (m:Int)))
  (hs:Sel η (OwnP Rp.u8 e (.slice a m c) xs) ζ) (hn:m=xs.length) (h0:0<m) (h:OD P fn n R ops k D g l ((d,.string (str xs))::σ) ζ):OD P fn n R ops k D g (q' ::l) σ η :=
 ODx.perm hs.perm (ODg.loudE (fl:=false) (η:=OwnP Rp.u8 e (.slice a m c) xs::ζ) (K:=fun v η' =>v=.string (str xs)∧η' =ζ) ho rfl (by simpa [hdOk] using hd)
  (fun ζ' =>(DoesE.unsafeStr hp hc hx hq hy .here hn h0).imp fun _ _ ⟨a,b⟩=>⟨_,⟨a,rfl⟩,by rw [b];rfl⟩) (by rintro _ _ ⟨rfl,rfl⟩;exact h))
end
def BuildP (T e:TypeId) (b:Nat) (xs:List UInt8):SProp:=fun m=>∃ p v,(p=none∨p=some (⟨b,0,none⟩:Addr))∧Sat [obj b T [.pointer p,v],OwnP Rp.u8 e v xs] m
structure BuildO (b:Nat) where
 p:Option Addr
 v:Value
 hp:p=none∨p=some (⟨b,0,none⟩:Addr)
theorem BuildP.opn {T e:TypeId} {b:Nat} {xs:List UInt8} {m:Fr}:BuildP T e b xs m→∃ x:BuildO b,Sat [obj b T [.pointer x.p,x.v],OwnP Rp.u8 e x.v xs] m:=fun ⟨p,v,h,s⟩=>⟨⟨p,v,h⟩,s⟩
theorem BuildP.fold {T e:TypeId} {b:Nat} {xs:List UInt8} {p:Option Addr} {v:Value} {m:Fr} (h:p=none∨p=some (⟨b,0,none⟩:Addr)) (s:Sat [obj b T [.pointer p,v],OwnP Rp.u8 e v xs] m):BuildP T e b xs m:=⟨p,v,h,s⟩
def bit1 (d:List UInt8) (i:Nat):UInt8:=(d.getD (i / 8) 0) >>>UInt8.ofNat (7 - i % 8) &&& 1
theorem way_eq (s:List UInt8):wayOf s=((List.range 510).map fun i=>bit1 (keyDig s) (i+2)).map (48+·):=by
 unfold wayOf;rw [List.map_map];rfl
end Go.Sp
