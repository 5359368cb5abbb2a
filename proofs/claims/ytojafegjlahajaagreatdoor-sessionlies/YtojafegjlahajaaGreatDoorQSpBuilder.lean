/- Texts of this proof. -/
import Derived.Test.YtojafegjlahajaaGreatDoorQSpCmp
import Derived.Test.YtojafegjlahajaaGreatDoorQSpClone
import Derived.Lib.Builder
set_option linter.unusedSectionVars false
open Go
namespace Go.Sp
section
variable {P:Program} {σ:List (Nat × Value)} {g:bk} {U ζ aO:List az} {x y:Operand} {t te e T:TypeId} {b:Nat} {cs:List Value}
theorem aF.toUnsafe {src dst t:TypeId} {k:Nat} (hs0:P.underlying src=some (.pointer t)) (hd:P.underlying dst=some .unsafePointer) (ht:(P.info? t).map (·.size)=some (k+1)) (hx:aA σ x=some (.pointer (some ⟨b,0,none⟩))) (hs:a_ U (obj b T cs) ζ) (h0:0<cs.length) :
  aF P (.convert src dst x) σ g U (.pointer (some ⟨b,0,none⟩)) U:=fun o ρ w ho hk hw=>⟨w,by
 have hb:w.heap[b]?=some (.cells cs.toArray T (0,0)):=(hw.cr hs).block
 cases hi:P.info? t with
 |none=>rw [hi] at ht;cases ht
 |some i =>
  rw [hi] at ht;simp only [Option.map_some,Option.some.injEq] at ht;have:=Lib.run_to_unsafe (P:=P) w ⟨b,0,none⟩ hs0 hd hi (by omega) (e:=T) (cells:=cs.length) (by simp [World.shape?,hb]) h0
  simp [execOp,ho,hk x _ hx,this],hw⟩
theorem aF.N9 {src dst u:TypeId} (hs0:P.underlying src=some .unsafePointer) (hd:P.underlying dst=some (.pointer u)) (hu:(P.info? u).isSome=true) (hx:aA σ x=some (.pointer (some ⟨b,0,none⟩))) (hs:a_ U (obj b T cs) ζ) (hl:liesAt P P.depth T (cs.length / P.cellsOf T) 0 u 1=true) :
  aF P (.convert src dst x) σ g U (.pointer (some ⟨b,0,none⟩)) U:=fun o ρ w ho hk hw=>⟨w,by
 have hb:w.heap[b]?=some (.cells cs.toArray T (0,0)):=(hw.cr hs).block
 cases hi:P.info? u with
 |none=>rw [hi] at hu;cases hu
 |some i =>
  have:=Lib.run_from_unsafe (P:=P) w ⟨b,0,none⟩ hs0 hd hi (e:=T) (cells:=cs.length) (by simp [World.shape?,hb]) hl
  simp [execOp,ho,hk x _ hx,this],hw⟩
theorem aF.Tr {f : FuncId} {fn : Func} {f0 : Operand} {ts : Array TypeId} {v : Value} (hf : P.funcs[f]? = some fn) (h1 : (fn.name == "runtime.NumGoroutine") = false) (h2 : fn.body.isNone = true) (h3 : Extern.findNext fn = none) (h4 : Extern.find fn = some Extern.AbiNoEscape.same)
  (hx:aA σ f0=some (.func (.func f) #[] #[])) (hy:aA σ y=some v):aF P (.call ⟨.value f0,#[y],ts⟩) σ g U v U:=by
 intro o ρ w ho hk hw
 refine ⟨w,?_,hw⟩;have e1:=run_callFunc_extern (P:=P) hf h1 h2 h3 h4 #[v] w;rw [Lib.run_noEscape] at e1;simp only [Result.andThen] at e1
 simp [execOp,ho,resolve,hk f0 _ hx,hk y _ hy,Deferred.ofValue,invoke,e1]
theorem aF.Tn {tp te u:TypeId} {a:Addr} (hp:P.underlying tp=some (.pointer te)) (hte:(P.info? te).isSome=true) (hgd:P.eqGuardType P.depth tp=false) (hx:aA σ x=some (.pointer (some a))) (hy:aA σ y=some (.pointer (some a))) :
  aF P (.binOp .neq tp x y u) σ g U (.bool false) U:=.run fun o ρ w ho hk=>by
 cases hi:P.info? te with
 |none=>rw [hi] at hte;cases hte
 |some i =>
  have:=Lib.run_neq_ptr_same (P:=P) w a hp hi
  simp [execOp,ho,hk x _ hx,hk y _ hy,eqGuard,hgd,this]
theorem aF.Wj {len:Nat} (ht:P.underlying t=some (.array len e)) (he:(P.info? e).map (·.size)=some 1) (hx:aA σ x=some (.pointer (some ⟨b,0,none⟩))) (h0:0<len) :
  aF P (.slice t x none none none) σ g U (.slice (some ⟨b,0,none⟩) len len) U:=.run fun o ρ w ho hk=>by
 have h2:¬ len=0:=by omega
 simp [execOp,ho,hk x _ hx,Instr.sliceAt,Instr.sureAddr,Instr.sliceBounds,Instr.sliceBound,asIntOf,run_underlying ht,h2,run_sizeOf he,Addr.add]
variable {fn:Func} {n:Nat} {R:Ending→World→Prop} {k:List Item} {D:List Deferred} {ops:Array Oper}
theorem bC.y8 {e2:TypeId} {n' c m:Nat} {u:Value} {xs:List UInt8} (ht:P.underlying t=some (.slice e)) (he:(P.info? e).map (·.size)=some 1) (hx:aA σ x=some (.slice (some ⟨b,0,none⟩) n' c)) (hy:aA σ y=some u)
  (hu:a_ U (av ag.u8 e2 u xs) aO) (hs:a_ aO (obj b T cs) ζ) (hm:m=xs.length) (h1:m≤n') (h2:m≤cs.length) (h0:0<m) :
  bC P (.call ⟨.builtin .copy,#[x,y],#[t,te]⟩) σ g U fun v ax =>v=.int .i64 (m:Int)∧ax =av ag.u8 e2 u xs::obj b T (xs.map bD++cs.drop m)::ζ :=
 bC.cr hu ((bC.borrow fun m' hm' hd=>bC.Nk (g:=g.add m') ht he hx hy ((av.arr hm').mono (Fr.dL hd)) hs hm h1 h2 h0).imp fun _ _ ⟨_,⟨a,b⟩,c⟩=>⟨a,by rw [c,b]⟩)
theorem af.y8 {q d:Nat} {l:List Nat} {e2:TypeId} {n' c m:Nat} {u:Value} {xs:List UInt8} (ho:bG ops q n σ d (.call ⟨.builtin .copy,#[x,y],#[t,te]⟩)) (hd:eF ops [q] l=true) (ht:P.underlying t=some (.slice e)) (he:(P.info? e).map (·.size)=some 1) (hx:aA σ x=some (.slice (some ⟨b,0,none⟩) n' c)) (hy:aA σ y=some u)
  (hu:a_ U (av ag.u8 e2 u xs) aO) (hs:a_ aO (obj b T cs) ζ) (hm:m=xs.length) (h1:m≤n') (h2:m≤cs.length) (h0:0<m)
  (h:af P fn n R ops k D g l ((d,.int .i64 (m:Int))::σ) (av ag.u8 e2 u xs::obj b T (xs.map bD++cs.drop m)::ζ)):af P fn n R ops k D g (q::l) σ U :=
 aI.perm (hu.perm.trans (List.Perm.cons _ hs.perm)) (cK.gd (fl:=false) (U:=av ag.u8 e2 u xs::obj b T cs::ζ) (K:=fun v ax =>v=.int .i64 (m:Int)∧ax =av ag.u8 e2 u xs::obj b T (xs.map bD++cs.drop m)::ζ) ho rfl (by simpa [ed] using hd)
  (fun uG =>(bC.y8 ht he hx hy .here .here hm h1 h2 h0).imp fun _ _ ⟨a,b⟩=>⟨_,⟨a,rfl⟩,by rw [b];rfl⟩) (by rintro _ _ ⟨rfl,rfl⟩;exact h))
theorem aF.Wm {a:Addr} {m c:Nat} (hx:aA σ x=some (.slice (some a) m c)) (h0:0<c):aF P (.call ⟨.builtin .unsafeSliceData,#[x],#[t]⟩) σ g U (.pointer (some a)) U:=.run fun o ρ w ho hk=>by
 have:=Lib.run_unsafeSliceData_row (P:=P) w #[t] o.type a m c (by omega)
 simp [execOp,ho,hk x _ hx,resolve,invoke,builtin,this]
theorem af.Bf {q' d:Nat} {l:List Nat} {pt t2:TypeId} {a:Option Addr} {q:Addr} {m c:Nat} {xs:List UInt8} (ho:bG ops q' n σ d (.call ⟨.builtin .unsafeString,#[x,y],#[pt,t2]⟩)) (hd:eF ops [q'] l=true) (hp:P.underlying pt=some (.pointer e)) (hc:P.cellsOf e=1) (hx:aA σ x=some (.pointer (some q))) (hq:pY (.slice a m c) 1 0 q) (hy:aA σ y=some (.int .i64 (m:Int)))
  (hs:a_ U (av ag.u8 e (.slice a m c) xs) ζ) (hn:m=xs.length) (h0:0<m) (h:af P fn n R ops k D g l ((d,.string (str xs))::σ) ζ):af P fn n R ops k D g (q' ::l) σ U :=
 aI.perm hs.perm (cK.gd (fl:=false) (U:=av ag.u8 e (.slice a m c) xs::ζ) (K:=fun v ax =>v=.string (str xs)∧ax =ζ) ho rfl (by simpa [ed] using hd)
  (fun uG =>(bC.Bf hp hc hx hq hy .here hn h0).imp fun _ _ ⟨a,b⟩=>⟨_,⟨a,rfl⟩,by rw [b];rfl⟩) (by rintro _ _ ⟨rfl,rfl⟩;exact h))
end
def jJ (T e:TypeId) (b:Nat) (xs:List UInt8):az:=fun m=>∃ p v,(p=none∨p=some (⟨b,0,none⟩:Addr))∧Sat [obj b T [.pointer p,v],av ag.u8 e v xs] m
structure Bx (b:Nat) where
 p:Option Addr
 v:Value
 hp:p=none∨p=some (⟨b,0,none⟩:Addr)
theorem jJ.jq {T e:TypeId} {b:Nat} {xs:List UInt8} {m:Fr}:jJ T e b xs m→∃ x:Bx b,Sat [obj b T [.pointer x.p,x.v],av ag.u8 e x.v xs] m:=fun ⟨p,v,h,s⟩=>⟨⟨p,v,h⟩,s⟩
theorem jJ.fold {T e:TypeId} {b:Nat} {xs:List UInt8} {p:Option Addr} {v:Value} {m:Fr} (h:p=none∨p=some (⟨b,0,none⟩:Addr)) (s:Sat [obj b T [.pointer p,v],av ag.u8 e v xs] m):jJ T e b xs m:=⟨p,v,h,s⟩
def sW (d:List UInt8) (i:Nat):UInt8:=(d.getD (i / 8) 0) >>>UInt8.ofNat (7 - i % 8) &&& 1
theorem XA (s:List UInt8):bS s=((List.range 510).map fun i=>sW (lE s) (i+2)).map (48+·):=by
 unfold bS;rw [List.map_map];rfl
end Go.Sp
