/- Texts of this proof. -/
import Derived.Test.YtojafegjlahajaaGreatDoorQSpCmp
import Derived.Test.YtojafegjlahajaaGreatDoorQSpClone
import Derived.Lib.Builder
set_option linter.unusedSectionVars false
open Go
namespace Go.Sp
section
variable {P:Program} {σ:List (Nat × Value)} {g:bn} {U ζ aO:List az} {x y:Operand} {t te e T:TypeId} {b:Nat} {cs:List Value}
theorem aG.toUnsafe {src dst t:TypeId} {k:Nat} (hs0:P.underlying src=some (.pointer t)) (hd:P.underlying dst=some .unsafePointer) (ht:(P.info? t).map (·.size)=some (k+1)) (hx:aA σ x=some (.pointer (some ⟨b,0,none⟩))) (hs:bg U (obj b T cs) ζ) (h0:0<cs.length) :
  aG P (.convert src dst x) σ g U (.pointer (some ⟨b,0,none⟩)) U:=fun o ρ w ho hk hw=>⟨w,by
 have hb:w.heap[b]?=some (.cells cs.toArray T (0,0)):=(hw.cB hs).block
 cases hi:P.info? t with
 |none=>rw [hi] at ht;cases ht
 |some i =>
  rw [hi] at ht;simp only [Option.map_some,Option.some.injEq] at ht;have:=Lib.run_to_unsafe (P:=P) w ⟨b,0,none⟩ hs0 hd hi (by omega) (e:=T) (cells:=cs.length) (by simp [World.shape?,hb]) h0
  simp [execOp,ho,hk x _ hx,this],hw⟩
theorem aG.OD {src dst u:TypeId} (hs0:P.underlying src=some .unsafePointer) (hd:P.underlying dst=some (.pointer u)) (hu:(P.info? u).isSome=true) (hx:aA σ x=some (.pointer (some ⟨b,0,none⟩))) (hs:bg U (obj b T cs) ζ) (hl:liesAt P P.depth T (cs.length / P.cellsOf T) 0 u 1=true) :
  aG P (.convert src dst x) σ g U (.pointer (some ⟨b,0,none⟩)) U:=fun o ρ w ho hk hw=>⟨w,by
 have hb:w.heap[b]?=some (.cells cs.toArray T (0,0)):=(hw.cB hs).block
 cases hi:P.info? u with
 |none=>rw [hi] at hu;cases hu
 |some i =>
  have:=Lib.run_from_unsafe (P:=P) w ⟨b,0,none⟩ hs0 hd hi (e:=T) (cells:=cs.length) (by simp [World.shape?,hb]) hl
  simp [execOp,ho,hk x _ hx,this],hw⟩
theorem aG.TY {f : FuncId} {fn : Func} {f0 : Operand} {ts : Array TypeId} {v : Value} (hf : P.funcs[f]? = some fn) (h1 : (fn.name == "runtime.NumGoroutine") = false) (h2 : fn.body.isNone = true) (h3 : Extern.findNext fn = none) (h4 : Extern.find fn = some Extern.AbiNoEscape.same)
  (hx:aA σ f0=some (.func (.func f) #[] #[])) (hy:aA σ y=some v):aG P (.call ⟨.value f0,#[y],ts⟩) σ g U v U:=by
 intro o ρ w ho hk hw
 refine ⟨w,?_,hw⟩;have e1:=run_callFunc_extern (P:=P) hf h1 h2 h3 h4 #[v] w;rw [Lib.run_noEscape] at e1;simp only [Result.andThen] at e1
 simp [execOp,ho,resolve,hk f0 _ hx,hk y _ hy,Deferred.ofValue,invoke,e1]
theorem aG.TU {tp te u:TypeId} {a:Addr} (hp:P.underlying tp=some (.pointer te)) (hte:(P.info? te).isSome=true) (hgd:P.eqGuardType P.depth tp=false) (hx:aA σ x=some (.pointer (some a))) (hy:aA σ y=some (.pointer (some a))) :
  aG P (.binOp .neq tp x y u) σ g U (.bool false) U:=.run fun o ρ w ho hk=>by
 cases hi:P.info? te with
 |none=>rw [hi] at hte;cases hte
 |some i =>
  have:=Lib.run_neq_ptr_same (P:=P) w a hp hi
  simp [execOp,ho,hk x _ hx,hk y _ hy,eqGuard,hgd,this]
theorem aG.W0 {len:Nat} (ht:P.underlying t=some (.array len e)) (he:(P.info? e).map (·.size)=some 1) (hx:aA σ x=some (.pointer (some ⟨b,0,none⟩))) (h0:0<len) :
  aG P (.slice t x none none none) σ g U (.slice (some ⟨b,0,none⟩) len len) U:=.run fun o ρ w ho hk=>by
 have h2:¬ len=0:=by omega
 simp [execOp,ho,hk x _ hx,Instr.sliceAt,Instr.sureAddr,Instr.sliceBounds,Instr.sliceBound,asIntOf,run_underlying ht,h2,run_sizeOf he,Addr.add]
variable {fn:Func} {n:Nat} {R:Ending→World→Prop} {k:List Item} {D:List Deferred} {ops:Array Oper}
theorem bF.zh {e2:TypeId} {n' c m:Nat} {u:Value} {xs:List UInt8} (ht:P.underlying t=some (.slice e)) (he:(P.info? e).map (·.size)=some 1) (hx:aA σ x=some (.slice (some ⟨b,0,none⟩) n' c)) (hy:aA σ y=some u)
  (hu:bg U (av ag.u8 e2 u xs) aO) (hs:bg aO (obj b T cs) ζ) (hm:m=xs.length) (h1:m≤n') (h2:m≤cs.length) (h0:0<m) :
  bF P (.call ⟨.builtin .copy,#[x,y],#[t,te]⟩) σ g U fun v ax =>v=.int .i64 (m:Int)∧ax =av ag.u8 e2 u xs::obj b T (xs.map bK++cs.drop m)::ζ :=
 bF.cB hu ((bF.borrow fun m' hm' hd=>bF.NI (g:=g.add m') ht he hx hy ((av.arr hm').mono (Fr.dB hd)) hs hm h1 h2 h0).imp fun _ _ ⟨_,⟨a,b⟩,c⟩=>⟨a,by rw [c,b]⟩)
theorem af.zh {q d:Nat} {l:List Nat} {e2:TypeId} {n' c m:Nat} {u:Value} {xs:List UInt8} (ho:bJ ops q n σ d (.call ⟨.builtin .copy,#[x,y],#[t,te]⟩)) (hd:eH ops [q] l=true) (ht:P.underlying t=some (.slice e)) (he:(P.info? e).map (·.size)=some 1) (hx:aA σ x=some (.slice (some ⟨b,0,none⟩) n' c)) (hy:aA σ y=some u)
  (hu:bg U (av ag.u8 e2 u xs) aO) (hs:bg aO (obj b T cs) ζ) (hm:m=xs.length) (h1:m≤n') (h2:m≤cs.length) (h0:0<m)
  (h:af P fn n R ops k D g l ((d,.int .i64 (m:Int))::σ) (av ag.u8 e2 u xs::obj b T (xs.map bK++cs.drop m)::ζ)):af P fn n R ops k D g (q::l) σ U :=
 aJ.perm (hu.perm.trans (List.Perm.cons _ hs.perm)) (cO.f_ (fl:=false) (U:=av ag.u8 e2 u xs::obj b T cs::ζ) (K:=fun v ax =>v=.int .i64 (m:Int)∧ax =av ag.u8 e2 u xs::obj b T (xs.map bK++cs.drop m)::ζ) ho rfl (by simpa [ei] using hd)
  (fun uN =>(bF.zh ht he hx hy .here .here hm h1 h2 h0).imp fun _ _ ⟨a,b⟩=>⟨_,⟨a,rfl⟩,by rw [b];rfl⟩) (by rintro _ _ ⟨rfl,rfl⟩;exact h))
theorem aG.W3 {a:Addr} {m c:Nat} (hx:aA σ x=some (.slice (some a) m c)) (h0:0<c):aG P (.call ⟨.builtin .unsafeSliceData,#[x],#[t]⟩) σ g U (.pointer (some a)) U:=.run fun o ρ w ho hk=>by
 have:=Lib.run_unsafeSliceData_row (P:=P) w #[t] o.type a m c (by omega)
 simp [execOp,ho,hk x _ hx,resolve,invoke,builtin,this]
theorem af.Bp {q' d:Nat} {l:List Nat} {pt t2:TypeId} {a:Option Addr} {q:Addr} {m c:Nat} {xs:List UInt8} (ho:bJ ops q' n σ d (.call ⟨.builtin .unsafeString,#[x,y],#[pt,t2]⟩)) (hd:eH ops [q'] l=true) (hp:P.underlying pt=some (.pointer e)) (hc:P.cellsOf e=1) (hx:aA σ x=some (.pointer (some q))) (hq:pZ (.slice a m c) 1 0 q) (hy:aA σ y=some (.int .i64 (m:Int)))
  (hs:bg U (av ag.u8 e (.slice a m c) xs) ζ) (hn:m=xs.length) (h0:0<m) (h:af P fn n R ops k D g l ((d,.string (str xs))::σ) ζ):af P fn n R ops k D g (q' ::l) σ U :=
 aJ.perm hs.perm (cO.f_ (fl:=false) (U:=av ag.u8 e (.slice a m c) xs::ζ) (K:=fun v ax =>v=.string (str xs)∧ax =ζ) ho rfl (by simpa [ei] using hd)
  (fun uN =>(bF.Bp hp hc hx hq hy .here hn h0).imp fun _ _ ⟨a,b⟩=>⟨_,⟨a,rfl⟩,by rw [b];rfl⟩) (by rintro _ _ ⟨rfl,rfl⟩;exact h))
end
def jD (T e:TypeId) (b:Nat) (xs:List UInt8):az:=fun m=>∃ p v,(p=none∨p=some (⟨b,0,none⟩:Addr))∧Sat [obj b T [.pointer p,v],av ag.u8 e v xs] m
structure BK (b:Nat) where
 p:Option Addr
 v:Value
 hp:p=none∨p=some (⟨b,0,none⟩:Addr)
theorem jD.jc {T e:TypeId} {b:Nat} {xs:List UInt8} {m:Fr}:jD T e b xs m→∃ x:BK b,Sat [obj b T [.pointer x.p,x.v],av ag.u8 e x.v xs] m:=fun ⟨p,v,h,s⟩=>⟨⟨p,v,h⟩,s⟩
theorem jD.fold {T e:TypeId} {b:Nat} {xs:List UInt8} {p:Option Addr} {v:Value} {m:Fr} (h:p=none∨p=some (⟨b,0,none⟩:Addr)) (s:Sat [obj b T [.pointer p,v],av ag.u8 e v xs] m):jD T e b xs m:=⟨p,v,h,s⟩
def s4 (d:List UInt8) (i:Nat):UInt8:=(d.getD (i / 8) 0) >>>UInt8.ofNat (7 - i % 8) &&& 1
theorem Yh (s:List UInt8):bq s=((List.range 510).map fun i=>s4 (lE s) (i+2)).map (48+·):=by
 unfold bq;rw [List.map_map];rfl
end Go.Sp
