/- Texts of this proof, one behind the other. -/
import Derived.Test.YtojafegjlahajaaGreatDoorQSpWalk
import Derived.WalkLawsBesides
import Derived.IntWalk
set_option linter.unusedSectionVars false
section
/- Texts of this proof, one behind the other. -/
section
/- Texts of this proof. -/
namespace Go.Sp
def Fr.cell (h:Fr) (a:Addr):Option Value :=
 match h a.block with
 |some (.cells c _ _)=>if a.spot.isSome then none else c[a.off]?
 |_=>none
theorem Fr.qf {h k:Fr} (s:h.sub k) {a:Addr} {v:Value} (x:h.cell a=some v):k.cell a=some v:=by
 unfold Fr.cell at *
 split at x
 ·rename_i c t f hb;rw [s _ _ hb];exact x
 ·cases x
def flat (P:Program) (t:TypeId):Bool :=
 match P.underlying t with
 |some (.struct _)|some (.array ..)=>false
 |some _=>true
 |none=>false
theorem r6 {P:Program} {t:TypeId} (h:flat P t=true) (w:World):(isAgg t).run P w=.ok false w:=by
 unfold flat at h
 split at h
 ·cases h
 ·cases h
 ·rename_i d h1 h2 hd
  rw [isAgg,Sem.run_bind,run_underlying hd]
  cases d<;>first|rfl|exact (h1 _ rfl).elim|exact (h2 _ _ rfl).elim
 ·cases h
section
variable {P:Program} {σ:List (Nat × Value)} {g:bh} {U:List az}
theorem aD.run {op:Op} {v:Value} (h:∀ (o:Oper) (ρ:Operand→Value) (w:World),o.op=op→mQ σ ρ→(execOp ρ o).run P w=.ok (.value v) w):aD P op σ g U v U :=
 fun o ρ w ho hk hw=>⟨w,h o ρ w ho hk,hw⟩
theorem aD.RP {x:Operand} {v:Value} (hx:aA σ x=some v):aD P (.move x) σ g U v U:=.run fun o ρ w ho hk=>by simp [execOp,ho,hk x v hx]
theorem aD.as {x:Operand} {v:Value} (hx:aA σ x=some v):aD P (.assign x) σ g U v U:=.run fun o ρ w ho hk=>by simp [execOp,ho,hk x v hx]
theorem aD.SJ {c x y:Operand} {v:Value} (hc:aA σ c=some (.bool true)) (hx:aA σ x=some v):aD P (.pick c x y) σ g U v U :=
 .run fun o ρ w ho hk=>by simp [execOp,ho,hk x v hx,hk c _ hc,asBool]
theorem aD.SI {c x y:Operand} {v:Value} (hc:aA σ c=some (.bool false)) (hx:aA σ y=some v):aD P (.pick c x y) σ g U v U :=
 .run fun o ρ w ho hk=>by simp [execOp,ho,hk y v hx,hk c _ hc,asBool]
theorem aD.kO {op:BinOp} {t u:TypeId} {x y:Operand} {j:IntKind} {a b:Int} {v:Value} (hx:aA σ x=some (.int j a)) (hy:aA σ y=some (.int j b))
  (h:∀ w,(Go.binOp op t (.int j a) (.int j b)).run P w=.ok v w):aD P (.binOp op t x y u) σ g U v U :=
 .run fun o ρ w ho hk=>by
  have:=h w
  simp [execOp,ho,hk x _ hx,hk y _ hy,eqGuard,this]
theorem aD.add {t u:TypeId} {x y:Operand} {j:IntKind} {a b:Int} (hx:aA σ x=some (.int j a)) (hy:aA σ y=some (.int j b)) (hw:j.wrap (a+b)=a+b) :
  aD P (.binOp .add t x y u) σ g U (.int j (a+b)) U:=.kO hx hy fun w=>by simp [Go.binOp,Op.intArith,hw]
theorem aD.sub {t u:TypeId} {x y:Operand} {j:IntKind} {a b:Int} (hx:aA σ x=some (.int j a)) (hy:aA σ y=some (.int j b)) (hw:j.wrap (a - b)=a - b) :
  aD P (.binOp .sub t x y u) σ g U (.int j (a - b)) U:=.kO hx hy fun w=>by simp [Go.binOp,Op.intArith,hw]
theorem aD.mul {t u:TypeId} {x y:Operand} {j:IntKind} {a b:Int} (hx:aA σ x=some (.int j a)) (hy:aA σ y=some (.int j b)) (hw:j.wrap (a*b)=a*b) :
  aD P (.binOp .mul t x y u) σ g U (.int j (a*b)) U:=.kO hx hy fun w=>by simp [Go.binOp,Op.intArith,hw]
theorem aD.mU {t u:TypeId} {x y:Operand} {j:IntKind} {a b:Int} (hx:aA σ x=some (.int j a)) (hy:aA σ y=some (.int j b)) :
  aD P (.binOp .add t x y u) σ g U (.int j (j.wrap (a+b))) U:=.kO hx hy fun w=>by simp [Go.binOp,Op.intArith]
theorem aD.UU {t u:TypeId} {x y:Operand} {j:IntKind} {a b:Int} (hx:aA σ x=some (.int j a)) (hy:aA σ y=some (.int j b)) :
  aD P (.binOp .sub t x y u) σ g U (.int j (j.wrap (a - b))) U:=.kO hx hy fun w=>by simp [Go.binOp,Op.intArith]
theorem aD.RO {t u:TypeId} {x y:Operand} {j:IntKind} {a b:Int} (hx:aA σ x=some (.int j a)) (hy:aA σ y=some (.int j b)) :
  aD P (.binOp .mul t x y u) σ g U (.int j (j.wrap (a*b))) U:=.kO hx hy fun w=>by simp [Go.binOp,Op.intArith]
theorem aD.quo {t u:TypeId} {x y:Operand} {j:IntKind} {a b:Int} (hx:aA σ x=some (.int j a)) (hy:aA σ y=some (.int j b)) (h0:b≠0) :
  aD P (.binOp .quo t x y u) σ g U (.int j (j.wrap (a.tdiv b))) U:=.kO hx hy fun w=>by simp [Go.binOp,Op.intDiv,h0]
theorem aD.rem {t u:TypeId} {x y:Operand} {j:IntKind} {a b:Int} (hx:aA σ x=some (.int j a)) (hy:aA σ y=some (.int j b)) (h0:b≠0) :
  aD P (.binOp .rem t x y u) σ g U (.int j (a.tmod b)) U:=.kO hx hy fun w=>by simp [Go.binOp,Op.intDiv,h0]
theorem aD.lss {t u:TypeId} {x y:Operand} {j:IntKind} {a b:Int} (hx:aA σ x=some (.int j a)) (hy:aA σ y=some (.int j b)) :
  aD P (.binOp .lss t x y u) σ g U (.bool (decide (a<b))) U:=.kO hx hy fun w=>by simp [Go.binOp,Op.intCmp]
theorem aD.leq {t u:TypeId} {x y:Operand} {j:IntKind} {a b:Int} (hx:aA σ x=some (.int j a)) (hy:aA σ y=some (.int j b)) :
  aD P (.binOp .leq t x y u) σ g U (.bool (decide (a≤b))) U:=.kO hx hy fun w=>by simp [Go.binOp,Op.intCmp]
theorem aD.gtr {t u:TypeId} {x y:Operand} {j:IntKind} {a b:Int} (hx:aA σ x=some (.int j a)) (hy:aA σ y=some (.int j b)) :
  aD P (.binOp .gtr t x y u) σ g U (.bool (decide (b<a))) U:=.kO hx hy fun w=>by simp [Go.binOp,Op.intCmp]
theorem aD.geq {t u:TypeId} {x y:Operand} {j:IntKind} {a b:Int} (hx:aA σ x=some (.int j a)) (hy:aA σ y=some (.int j b)) :
  aD P (.binOp .geq t x y u) σ g U (.bool (decide (b≤a))) U:=.kO hx hy fun w=>by simp [Go.binOp,Op.intCmp]
theorem aD.eql {t u:TypeId} {x y:Operand} {j:IntKind} {a b:Int} (hx:aA σ x=some (.int j a)) (hy:aA σ y=some (.int j b)) :
  aD P (.binOp .eql t x y u) σ g U (.bool (decide (a=b))) U:=.kO hx hy fun w=>by simp [Go.binOp,Op.intCmp];rfl
theorem aD.neq {t u:TypeId} {x y:Operand} {j:IntKind} {a b:Int} (hx:aA σ x=some (.int j a)) (hy:aA σ y=some (.int j b)) :
  aD P (.binOp .neq t x y u) σ g U (.bool (decide (a≠b))) U:=.kO hx hy fun w=>by simp [Go.binOp,Op.intCmp];rfl
theorem aD.shl {t u:TypeId} {x y:Operand} {j i:IntKind} {a b:Int} (hx:aA σ x=some (.int j a)) (hy:aA σ y=some (.int i b)) (h0:0≤b) :
  aD P (.binOp .shl t x y u) σ g U (.int j (j.wrap (a*2 ^ min b.toNat j.bits))) U :=
 .run fun o ρ w ho hk=>by
  have:¬ b<0:=by omega
  simp [execOp,ho,hk x _ hx,hk y _ hy,eqGuard,Go.binOp,Op.shift,this]
theorem aD.shr {t u:TypeId} {x y:Operand} {j i:IntKind} {a b:Int} (hx:aA σ x=some (.int j a)) (hy:aA σ y=some (.int i b)) (h0:0≤b) :
  aD P (.binOp .shr t x y u) σ g U (.int j (a.fdiv (2 ^ min b.toNat j.bits))) U :=
 .run fun o ρ w ho hk=>by
  have:¬ b<0:=by omega
  simp [execOp,ho,hk x _ hx,hk y _ hy,eqGuard,Go.binOp,Op.shift,this]
def bitsOf (op:BinOp) (k:IntKind) (a b:Int):Int :=
 let x:=BitVec.ofInt k.bits a
 let y:=BitVec.ofInt k.bits b
 match op with
 |.and=>k.wrap (x &&& y).toNat
 | .or => k.wrap (x ||| y).toNat
 |.xor=>k.wrap (x ^^^ y).toNat
 | .andNot => k.wrap (x &&& ~~~y).toNat
 |_=>0
theorem aD.and {t u:TypeId} {x y:Operand} {j:IntKind} {a b:Int} (hx:aA σ x=some (.int j a)) (hy:aA σ y=some (.int j b)) :
  aD P (.binOp .and t x y u) σ g U (.int j (bitsOf .and j a b)) U:=.kO hx hy fun w=>by simp [Go.binOp,Op.intBits,bitsOf]
theorem aD.or {t u:TypeId} {x y:Operand} {j:IntKind} {a b:Int} (hx:aA σ x=some (.int j a)) (hy:aA σ y=some (.int j b)) :
  aD P (.binOp .or t x y u) σ g U (.int j (bitsOf .or j a b)) U:=.kO hx hy fun w=>by simp [Go.binOp,Op.intBits,bitsOf]
theorem aD.xor {t u:TypeId} {x y:Operand} {j:IntKind} {a b:Int} (hx:aA σ x=some (.int j a)) (hy:aA σ y=some (.int j b)) :
  aD P (.binOp .xor t x y u) σ g U (.int j (bitsOf .xor j a b)) U:=.kO hx hy fun w=>by simp [Go.binOp,Op.intBits,bitsOf]
theorem aD.not {t:TypeId} {x:Operand} {b:Bool} (hx:aA σ x=some (.bool b)):aD P (.unOp .not t x) σ g U (.bool (!b)) U :=
 .run fun o ρ w ho hk=>by simp [execOp,ho,hk x _ hx,Op.unary]
theorem aD.k7 {t:TypeId} {x:Operand} {p:Prop} [Decidable p] (hx:aA σ x=some (.bool (decide p))):aD P (.unOp .not t x) σ g U (.bool (decide (¬ p))) U:=by
 rw [decide_not];exact .not hx
theorem aD.neg {t:TypeId} {x:Operand} {j:IntKind} {a:Int} (hx:aA σ x=some (.int j a)):aD P (.unOp .neg t x) σ g U (.int j (j.wrap (0 - a))) U :=
 .run fun o ρ w ho hk=>by simp [execOp,ho,hk x _ hx,Op.unary,Op.intArith]
theorem aD.Mj {t:TypeId} {x:Operand} {j:IntKind} {a:Int} (hx:aA σ x=some (.int j a)):aD P (.unOp .xor t x) σ g U (.int j (bitsOf .xor j (if j.signed then -1 else j.max) a)) U :=
 .run fun o ρ w ho hk=>by simp [execOp,ho,hk x _ hx,Op.unary,Op.intBits,bitsOf]
theorem aD.lD {s t:TypeId} {x:Operand} {j k:IntKind} {a:Int} {d:TypeDesc} (hs:P.underlying s=some d) (ht:P.underlying t=some (.int k)) (hx:aA σ x=some (.int j a)) :
  aD P (.convert s t x) σ g U (.int k (k.wrap a)) U :=
 .run fun o ρ w ho hk=>by simp [execOp,ho,hk x _ hx,convert,run_underlying hs,run_underlying ht,Conv.intToInt]
theorem run_equal_bool {t:TypeId} (ht:P.underlying t=some .bool) (a b:Bool) (w:World):(Op.equal t (.bool a) (.bool b)).run P w=.ok (a ==b) w:=by
 show (Op.equalIn (9999+1) t (.bool a) (.bool b)).run P w=_
 rw [Op.equalIn]
 simp [run_underlying ht]
theorem aD.I9 {t u:TypeId} {x y:Operand} {a b:Bool} (ht:P.underlying t=some .bool) (hx:aA σ x=some (.bool a)) (hy:aA σ y=some (.bool b)) :
  aD P (.binOp .neq t x y u) σ g U (.bool (decide (a≠b))) U :=
 .run fun o ρ w ho hk=>by
  simp [execOp,ho,hk x _ hx,hk y _ hy,eqGuard,Go.binOp,run_equal_bool ht]
  cases a<;>cases b<;>rfl
theorem aD.lE {t u:TypeId} {x y:Operand} {a b:ByteArray} (hx:aA σ x=some (.string a)) (hy:aA σ y=some (.string b)) :
  aD P (.binOp .eql t x y u) σ g U (.bool (decide (a.toList=b.toList))) U :=
 .run fun o ρ w ho hk=>by
  have:(a.toList ==b.toList)=decide (a.toList=b.toList):=by rw [Bool.eq_iff_iff];simp
  simp [execOp,ho,hk x _ hx,hk y _ hy,eqGuard,Go.binOp,Op.stringOp,this]
theorem aD.yj {t u:TypeId} {x y:Operand} {a b:ByteArray} (hx:aA σ x=some (.string a)) (hy:aA σ y=some (.string b)) (hl:a.size+b.size≤9223372036854775807) :
  aD P (.binOp .add t x y u) σ g U (.string (a++b)) U :=
 .run fun o ρ w ho hk=>by
  have:¬ (9223372036854775807<((a.size:Int)+(b.size:Int))):=by omega
  simp [execOp,ho,hk x _ hx,hk y _ hy,eqGuard,Go.binOp,Op.stringOp,this]
theorem aD.len {t:TypeId} {x:Operand} {e:TypeId} {a:Option Addr} {m c:Nat} {ts:Array TypeId} (hts:ts[0]?=some t) (ht:P.underlying t=some (.slice e)) (hx:aA σ x=some (.slice a m c)) :
  aD P (.call ⟨.builtin .len,#[x],ts⟩) σ g U (.int .i64 (m:Int)) U :=
 .run fun o ρ w ho hk=>by simp [execOp,ho,resolve,invoke,builtin,hk x _ hx,Builtin.len_,hts,run_underlying ht,goInt]
theorem aD.cap {t:TypeId} {x:Operand} {e:TypeId} {a:Option Addr} {m c:Nat} {ts:Array TypeId} (hts:ts[0]?=some t) (ht:P.underlying t=some (.slice e)) (hx:aA σ x=some (.slice a m c)) :
  aD P (.call ⟨.builtin .cap,#[x],ts⟩) σ g U (.int .i64 (c:Int)) U :=
 .run fun o ρ w ho hk=>by simp [execOp,ho,resolve,invoke,builtin,hk x _ hx,Builtin.cap_,hts,run_underlying ht,goInt]
theorem aD.c6 {t:TypeId} {x:Operand} {s:ByteArray} {ts:Array TypeId} (hts:ts[0]?=some t) (ht:P.underlying t=some .string) (hx:aA σ x=some (.string s)) :
  aD P (.call ⟨.builtin .len,#[x],ts⟩) σ g U (.int .i64 (s.size:Int)) U :=
 .run fun o ρ w ho hk=>by simp [execOp,ho,resolve,invoke,builtin,hk x _ hx,Builtin.len_,hts,run_underlying ht,goInt]
theorem aD.extract {x:Operand} {vs:Array Value} {j:Nat} {v:Value} (hx:aA σ x=some (.tuple vs)) (hj:vs[j]?=some v):aD P (.extract x j) σ g U v U :=
 .run fun o ρ w ho hk=>by simp [execOp,ho,hk x _ hx,Instr.extract,hj]
theorem aD.iS {fn:Go.Fn} {first cap:Array Operand} {vs us:List Value} (h1:dQ σ first.toList=some vs) (h2:dQ σ cap.toList=some us) :
  aD P (.makeFunc fn first cap) σ g U (.func fn vs.toArray us.toArray) U :=
 .run fun o ρ w ho hk=>by
  have e1:first.map ρ=vs.toArray:=by rw [← ql hk h1,← Array.toList_map]
  have e2:cap.map ρ=us.toArray:=by rw [← ql hk h2,← Array.toList_map]
  simp [execOp,ho,Instr.makeFunc,e1,e2]
theorem aD.nilCheck {x:Operand} {a:Addr} (hx:aA σ x=some (.pointer (some a))):aD P (.nilCheck x) σ g U (.pointer (some a)) U :=
 .run fun o ρ w ho hk=>by simp [execOp,ho,hk x _ hx]
end
end Go.Sp
end
section
/- Texts of this proof. -/
namespace Go.Sp
def dR (P:Program) (t:TypeId):Bool:=flat P t && ((P.info? t).map (·.size) ==some 1)
theorem ru {P:Program} {t:TypeId} (h:dR P t=true):flat P t=true:=by unfold dR at h;simp at h;exact h.1
theorem run_sizeOf {P:Program} {t:TypeId} {m:Nat} (h:(P.info? t).map (·.size)=some m) (w:World):(sizeOf t).run P w=.ok m w:=by
 cases hi:P.info? t with
 |none=>rw [hi] at h;cases h
 |some i=>rw [hi] at h;simp at h;simp [sizeOf,typeInfo,hi,h]
def At (h:Fr) (p:Addr) (cs:List Value):Prop:=∀ j (hj:j<cs.length),h.cell (p.add j)=some cs[j]
theorem At.mono {h k:Fr} {p:Addr} {cs:List Value} (s:h.sub k) (x:At h p cs):At k p cs:=fun j hj=>Fr.qf s (x j hj)
theorem Addr.add_add (a:Addr) (i j:Nat):(a.add i).add j=a.add (i+j):=by
 unfold Addr.add
 by_cases hi:i=0
 ·subst hi;simp
 ·by_cases hj:j=0
  ·subst hj;simp
  ·have:i+j≠0:=by omega
   simp [hi,hj,Nat.add_assoc]
theorem Addr.add_zero (a:Addr):a.add 0=a:=by simp [Addr.add]
theorem At.drop {h:Fr} {p:Addr} {cs:List Value} (x:At h p cs) (i:Nat):At h (p.add i) (cs.drop i):=fun j hj=>by
 rw [Addr.add_add,x (i+j) (by simp at hj;omega)];simp
theorem At.take {h:Fr} {p:Addr} {cs:List Value} (x:At h p cs) (i:Nat):At h p (cs.take i):=fun j hj=>by
 rw [x j (by simp at hj;omega)];simp
theorem At.at {h:Fr} {p:Addr} {cs:List Value} (x:At h p cs) {j:Nat} {v:Value} (hv:cs[j]?=some v):h.cell (p.add j)=some v:=by
 obtain ⟨hj,rfl⟩:=List.getElem?_eq_some_iff.1 hv;exact x j hj
def p_ (h:Fr) (v:Value) (k m:Nat) (cs:List Value):Prop :=
 ∃ a cap,v=.slice a m cap∧m≤cap∧(cap≤9223372036854775807∧(a=none→cap=0))∧cs.length=m*k∧∀ j (hj:j<cs.length),∃ p,a=some p∧h.cell (p.add j)=some cs[j]
theorem p_.mono {h h' :Fr} {v:Value} {k m:Nat} {cs:List Value} (s:h.sub h'):p_ h v k m cs→p_ h' v k m cs
 |⟨a,cap,h1,h2,h3,h4,h5⟩=>⟨a,cap,h1,h2,h3,h4,fun j hj=>let ⟨p,x,y⟩:=h5 j hj;⟨p,x,Fr.qf s y⟩⟩
theorem p_.bound {h:Fr} {v:Value} {k m:Nat} {cs:List Value}:p_ h v k m cs→m≤9223372036854775807
 |⟨_,_,_,h1,h2,_,_⟩=>Nat.le_trans h1 h2.1
def obj (b:Nat) (T:TypeId) (cs:List Value):az:=blk b (.cells cs.toArray T (0,0))
def q4 (fz:Nat × Nat) (n:Nat):Prop:=∀ j,j<n→¬(fz.1≤j∧j<fz.2)
theorem Kz (n:Nat):q4 (0,0) n:=fun j _ h=>Nat.not_lt_zero j h.2
def Own (v:Value) (k:Nat) (T:TypeId) (m:Nat) (cs:List Value):az:=fun h =>
 cs.length=m*k∧((v=.slice none 0 0∧m=0) ∨
  ∃ b cap cur,v=.slice (some ⟨b,0,none⟩) m cap∧(∃ fz,h b=some (.cells cur T fz)∧q4 fz (cap*k))∧m≤cap∧cap≤9223372036854775807∧cur.size=cap*k∧cur.toList.take (m*k)=cs)
theorem Own.sl {h:Fr} {v:Value} {k m:Nat} {T:TypeId} {cs:List Value}:Own v k T m cs h→p_ h v k m cs
 |⟨hl,.inl ⟨hv,hm⟩⟩=>by subst hv hm;exact ⟨none,0,rfl,Nat.le_refl _,⟨by omega,fun _=>rfl⟩,hl,fun j hj=>by omega⟩
 |⟨hl,.inr ⟨b,cap,cur,hv,⟨fz,hb,_⟩,h1,h2,h3,h4⟩⟩=>by
  subst hv;refine ⟨_,cap,rfl,h1,⟨h2,fun h=>by cases h⟩,hl,fun j hj=>⟨_,rfl,?_⟩⟩;have hj' :j<m*k:=by omega
  have:(⟨b,0,none⟩:Addr).add j=⟨b,j,none⟩:=by
   unfold Addr.add;split
   ·rename_i hz;subst hz;rfl
   ·simp
  rw [this];simp only [Fr.cell,hb];subst h4;simp only [Option.isSome_none,Bool.false_eq_true,if_false,List.getElem_take];have:j<cur.size:=by
   have:=List.length_take_le (m*k) cur.toList
   simp at hj;omega
  simp [this]
section
variable {ro:Option Nat} {P:Program} {σ:List (Nat × Value)} {g:bh} {U ζ:List az}
theorem aD.load {t:TypeId} {x:Operand} {p:Addr} {v:Value} (ht:dR P t=true) (hx:aA σ x=some (.pointer (some p))) (hp:g.h.cell p=some v):aD P (.load t x) σ g U v U :=
 fun o ρ w ho hk hw=>⟨w,by
  have hc:w.cell? p=some v:=Fr.qf hw.ground hp
  simp [execOp,ho,hk x _ hx,Instr.loadAt,Instr.sureAddr,loadVar,r6 (ru ht),hc],hw⟩
theorem aD.bI {t:TypeId} {x:Operand} {p:Addr} {cs:List Value} (ht:∀ w,(isAgg t).run P w=.ok true w) (hs:(P.info? t).map (·.size)=some cs.length)
  (hx:aA σ x=some (.pointer (some p))) (hp:At g.h p cs):aD P (.load t x) σ g U (.agg cs.toArray) U :=
 fun o ρ w ho hk hw=>⟨w,by
  have hr:=run_loadCells_list (P:=P) w p cs fun j v hj=>Fr.qf hw.ground (hp.at hj)
  simp [execOp,ho,hk x _ hx,Instr.loadAt,Instr.sureAddr,loadVar,ht,run_sizeOf hs,hr],hw⟩
theorem Holds.tE {w:World} {b:Nat} {T:TypeId} {cs:List Value} (h:Holds w g (obj b T cs::U)) {j:Nat} {v:Value} (hj:cs[j]?=some v):w.cell? ⟨b,j,none⟩=some v:=by
 have:=h.block
 simp [World.cell?,this,hj]
theorem aD.cK {t T:TypeId} {x:Operand} {b j:Nat} {cs:List Value} {v:Value} (ht:dR P t=true) (hx:aA σ x=some (.pointer (some ⟨b,j,none⟩))) (hs:bf U (obj b T cs) ζ) (hj:cs[j]?=some v) :
  aD P (.load t x) σ g U v U :=
 fun o ρ w ho hk hw=>⟨w,by
  have hc:w.cell? ⟨b,j,none⟩=some v:=(hw.cu hs).tE hj
  simp [execOp,ho,hk x _ hx,Instr.loadAt,Instr.sureAddr,loadVar,r6 (ru ht),hc],hw⟩
theorem add_lit (b i j:Nat):(⟨b,i,none⟩:Addr).add j=⟨b,i+j,none⟩:=by
 unfold Addr.add;split
 ·rename_i hz;subst hz;rfl
 ·rfl
theorem aD.rU {t T:TypeId} {x:Operand} {b i:Nat} {cs news:List Value} (ht:∀ w,(isAgg t).run P w=.ok true w) (hsz:(P.info? t).map (·.size)=some news.length)
  (hx:aA σ x=some (.pointer (some ⟨b,i,none⟩))) (hs:bf U (obj b T cs) ζ) (hn:(cs.drop i).take news.length=news):aD P (.load t x) σ g U (.agg news.toArray) U :=
 fun o ρ w ho hk hw=>⟨w,by
  have hr:=run_loadCells_list (P:=P) w ⟨b,i,none⟩ news fun j v hj=>by
   rw [add_lit];refine (hw.cu hs).tE ?_;have hjl:j<news.length:=(List.getElem?_eq_some_iff.1 hj).1;rw [← hn,List.getElem?_take_of_lt hjl,List.getElem?_drop] at hj;exact hj
  simp [execOp,ho,hk x _ hx,Instr.loadAt,Instr.sureAddr,loadVar,ht,run_sizeOf hsz,hr],hw⟩
def c5 (P:Program) (s f:Nat):Option Nat :=
 match P.underlying s with
 |some (.struct fs) =>
  match fs[f]? with
  |some fd=>match (P.info? fd.type).map (·.size) with|some (_+1)=>some fd.offset|_=>none
  |none=>none
 |_=>none
theorem TZ {s f off:Nat} (h:c5 P s f=some off) (a:Addr) (w:World):(Instr.fieldAt s (.pointer (some a)) f).run P w=.ok (.pointer (some (a.add off))) w:=by
 unfold c5 at h
 split at h
 ·rename_i fs hu
  split at h
  ·rename_i fd hf
   split at h
   ·rename_i m hm
    cases h
    simp [Instr.fieldAt,run_underlying hu,hf,Instr.sureAddr,fieldPlace,run_sizeOf hm]
   ·cases h
  ·cases h
 ·cases h
theorem aD.fieldAddr {s f off:Nat} {x:Operand} {a:Addr} (h:c5 P s f=some off) (hx:aA σ x=some (.pointer (some a))):aD P (.fieldAddr s x f) σ g U (.pointer (some (a.add off))) U :=
 .run fun o ρ w ho hk=>by simp [execOp,ho,hk x _ hx,TZ h]
theorem aD.aF {s f off b i:Nat} {x:Operand} (h:c5 P s f=some off) (hx:aA σ x=some (.pointer (some ⟨b,i,none⟩))):aD P (.fieldAddr s x f) σ g U (.pointer (some ⟨b,i+off,none⟩)) U:=by
 have:=aD.fieldAddr (g:=g) (U:=U) h hx;rwa [add_lit] at this
def bE (P:Program) (op:Op) (σ:List (Nat × Value)) (g:bh) (U:List az) (K:Value→List az→Prop):Prop :=
 ∀ (o:Oper) (ρ:Operand→Value) (w:World),o.op=op→mQ σ ρ→Holds w g U→∃ v w' ax,K v ax ∧(execOp ρ o).run P w=.ok (.value v) w' ∧Holds w' g ax
theorem O.aO {ro:Option Nat} {fn:Func} {n:Nat} {R:Ending→World→Prop} {k:List Item} {D:List Deferred} {ops:Array Oper} {i d:Nat} {l:List Nat} {op:Op} {K:Value→List az→Prop}
  (ho:bJ ops i n σ d op) (de:bE P op σ g U K) (h:∀ v ax,K v ax →O ro P fn n R ops l k ((d,v)::σ) D g ax):O ro P fn n R ops (i::l) k σ D g U:=by
 intro a w hf hd hw
 obtain ⟨o,hi,ek,hop,hg,hb⟩:=ho.spec;obtain ⟨v,w',ax,hk,hrun,hw'⟩:=de o a.eval w hop hf.j3 hw;refine O.mi hi (hg a hf) (vc hrun) hrun ?_;rw [Oper.uponIn_value,ek];exact h v ax hk _ _ (hf.put hb) hd hw'
theorem Holds.Bi {w:World} (h:Holds w g U) (T:TypeId) (cs:Array Value):Holds (w.alloc (.cells cs T)) g (obj w.heap.size T cs.toList::U):=by
 have:=h.alloc (.cells cs T)
 simpa [obj] using this
theorem bE.alloc {T:TypeId} {z:Value} {cs:List Value} (hz:∀ w,(zeroValue T).run P w=.ok z w) (hc:z.cells.toList=cs):bE P (.alloc T) σ g U fun v ax =>∃ b,v=.pointer (some ⟨b,0,none⟩)∧ax =obj b T cs::U :=
 fun o ρ w ho _ hw=>by subst hc;exact ⟨_,_,_,⟨w.heap.size,rfl,rfl⟩,by simp [execOp,ho,Instr.alloc,hz,newVar,newRow],hw.Bi T z.cells⟩
theorem bE.box {T:TypeId} {x:Operand} {v:Value} {cs:List Value} (hx:aA σ x=some v) (hc:v.cells.toList=cs):bE P (.box T x) σ g U fun p ax =>∃ b,p=.pointer (some ⟨b,0,none⟩)∧ax =obj b T cs::U :=
 fun o ρ w ho hk hw=>by subst hc;exact ⟨_,_,_,⟨w.heap.size,rfl,rfl⟩,by simp [execOp,ho,Instr.box,hk x _ hx,newVar,newRow],hw.Bi T v.cells⟩
theorem Holds.setRow {w:World} {b:Nat} {T:TypeId} {cur cs:Array Value} {fz:Nat × Nat} (h:Holds w g (blk b (.cells cur T fz)::U)):Holds (w.setRow b cs) g (blk b (.cells cs T fz)::U) :=
 h.setBlock (setRow_heap w b _ cs T fz h.block) (fun i hi=>setRow_other w b i cs hi) rfl rfl rfl
theorem r7 (P:Program) (g o:Nat) (t:TypeId) {fz:Nat × Nat} {n:Nat} (hz:q4 fz n):∀ (vs:List Value) (i:Nat) (cur:Array Value) (w:World),w.heap[g]?=some (.cells cur t fz)→cur.size≤n→o+i+vs.length≤cur.size→(∀ v∈vs,v.oneCell' =true) →
  (storeCells ⟨g,o,none⟩ vs i).run P w=.ok () (w.setRow g (cur.toList.take (o+i)++vs++cur.toList.drop (o+i+vs.length)).toArray)
 |[],i,cur,w,hg,_,_,_=>by
  simp only [storeCells,List.append_nil,List.length_nil,Nat.add_zero,List.take_append_drop,Array.toArray_toList];rw [setRow_self w g cur t fz hg]
  rfl
 |v::rest,i,cur,w,hg,hn,hl,h1=>by
  have hi:o+i<cur.size:=by simp at hl;omega
  have NQ:(⟨g,o,none⟩:Addr).add i=⟨g,o+i,none⟩:=by unfold Addr.add;split<;>simp_all
  have hcell:w.cell? ⟨g,o+i,none⟩=some cur[o+i]:=by simp [World.cell?,hg,hi]
  have Og:w.frozen? ⟨g,o+i,none⟩=false:=by
   have:=hz (o+i) (by omega);simp only [World.frozen?,hg]
   simpa using this
  have hst:(store ((⟨g,o,none⟩:Addr).add i) v).run P w=.ok () (w.setRow g (cur.setIfInBounds (o+i) v)):=by
   rw [NQ,run_store P w _ v _ (h1 v (by simp)),hcell]
   simp [Og,setCell_eq_setRow w g (o+i) cur t fz v hg]
  have ih:=r7 P g o t hz rest (i+1) (cur.setIfInBounds (o+i) v) (w.setRow g (cur.setIfInBounds (o+i) v)) (setRow_heap w g cur _ t _ hg) (by simpa using hn) (by simp at hl ⊢;omega) (fun x hx=>h1 x (by simp [hx]));simp only [storeCells,Sem.run_bind,hst,Result.andThen_ok,ih,setRow_setRow]
  congr 3
  have e:=list_seg_step cur.toList (o+i) v rest (by simp at hl ⊢;omega)
  simpa [Array.toList_setIfInBounds,Nat.add_assoc] using e
theorem j9.cZ {t T:TypeId} {x y:Operand} {b i:Nat} {cs news:List Value} {v:Value} (hsz:(P.info? t).map (·.size)=some news.length) (hx:aA σ x=some (.pointer (some ⟨b,i,none⟩))) (hy:aA σ y=some v)
  (hv:v.cells.toList=news) (h1:news.all (·.oneCell')=true) (hs:bf U (obj b T cs) ζ) (hl:i+news.length≤cs.length) :
  j9 P (.store t x y) σ g U (obj b T (cs.take i++news++cs.drop (i+news.length))::ζ) :=
 fun o ρ w ho hk hw=>by
  have hw1:=hw.cu hs;have hst:=run_storeCells_at P b i T news 0 cs.toArray w hw1.block (by simpa using hl) (by simpa using h1);refine ⟨w.setRow b (cs.take i++news++cs.drop (i+news.length)).toArray,?_,hw1.setRow⟩;have hc:v.cells.size=news.length:=by rw [← hv];simp
  simp only [Nat.add_zero] at hst
  simp [execOp,ho,hk x _ hx,hk y _ hy,Instr.storeAt,Instr.sureAddr,storeVar,run_sizeOf hsz,hc,hv,hst]
theorem j9.bk {t T:TypeId} {x y:Operand} {b i:Nat} {cs:List Value} {v:Value} (ht:dR P t=true) (hx:aA σ x=some (.pointer (some ⟨b,i,none⟩))) (hy:aA σ y=some v)
  (h1:v.oneCell' =true) (hs:bf U (obj b T cs) ζ) (hl:i<cs.length):j9 P (.store t x y) σ g U (obj b T (cs.set i v)::ζ):=by
 have hc:v.cells=#[v]:=by cases v<;>first|rfl|cases h1
 have hsz:(P.info? t).map (·.size)=some 1:=by unfold dR at ht;simp at ht;simpa using ht.2
 have:=j9.cZ (P:=P) (g:=g) (news:=[v]) hsz hx hy (by rw [hc]) (by simp [h1]) hs (by simp;omega);rw [List.set_eq_take_append_cons_drop,if_pos hl]
 simpa using this
end
end Go.Sp
end
end
section
/- Texts of this proof. -/
namespace Go.Sp
section
variable {P:Program} {σ:List (Nat × Value)} {g:bh} {U ζ:List az}
def dy (P:Program) (e k ck:Nat) (z:List Value):Prop:=∃ i cz,P.info? e=some i∧i.zero=some cz∧i.size=k∧i.bytes=ck∧cz.cells.toList=z∧z.length=k
theorem dy.mk {e k ck:Nat} {z:List Value} (h:(P.info? e).map (fun i=>(i.zero.map (·.cells.toList),i.size,i.bytes))=some (some z,k,ck)) (hz:z.length=k):dy P e k ck z:=by
 unfold dy
 cases hi:P.info? e with
 |none=>rw [hi] at h;cases h
 |some i =>
  rw [hi] at h;simp only [Option.map_some,Option.some.injEq,Prod.mk.injEq,Option.map_eq_some_iff] at h;obtain ⟨⟨cz,h1,h2⟩,h3,h4⟩:=h;exact ⟨i,cz,rfl,h1,h3,h4,h2,hz⟩
def e9 (z:List Value):Nat→List Value
 |0=>[]
 |m+1=>z++e9 z m
theorem rT (z:List Value) (m:Nat):(e9 z m).length=m*z.length:=by
 induction m with
 |zero=>simp [e9]
 |succ m ih=>simp [e9,ih,Nat.succ_mul,Nat.add_comm]
theorem TD (z:List Value) (m j:Nat) (h:j<m*z.length):(e9 z m)[j]?=z[j % z.length]?:=by
 induction m generalizing j with
 |zero=>simp at h
 |succ m ih =>
  simp only [e9]
  rcases Nat.lt_or_ge j z.length with hj|hj
  ·rw [List.getElem?_append_left hj,Nat.mod_eq_of_lt hj]
  ·rw [List.getElem?_append_right hj,ih (j - z.length) (by rw [Nat.succ_mul] at h;omega),Nat.mod_eq_sub_mod hj]
theorem xC (z:Array Value) (m:Nat) (hz:0<z.size):(madeCells z (m*z.size)).toList=e9 z.toList m:=by
 apply List.ext_getElem?
 intro j
 rcases Nat.lt_or_ge j (m*z.size) with h|h
 ·rw [TD _ _ _ (by simpa using h)]
  have hm:=Nat.mod_lt j hz
  simp [madeCells,h,hm]
 ·rw [List.getElem?_eq_none (by simp [madeCells];exact h),List.getElem?_eq_none (by rw [rT];simpa using h)]
theorem Holds.tG {w:World} {b:Nat} {T k m cap:Nat} {cur:Array Value} {cs:List Value} {fz:Nat × Nat} (h:Holds w g (blk b (.cells cur T fz)::U)) (hz:q4 fz (cap*k)) (h1:m≤cap) (h2:cap≤9223372036854775807)
  (h3:cur.size=cap*k) (h4:cur.toList.take (m*k)=cs):Holds w g (Own (.slice (some ⟨b,0,none⟩) m cap) k T m cs::U) :=
 h.imp fun _=>Sat.fe (fun f hf=>⟨by rw [← h4,List.length_take,Array.length_toList,h3];exact Nat.min_eq_left (Nat.mul_le_mul_right _ h1),.inr ⟨b,cap,cur,rfl,⟨fz,hf,hz⟩,h1,h2,h3,h4⟩⟩) fun _ x=>x
theorem Holds.own {w:World} {b:Nat} {T k m cap:Nat} {cur:Array Value} {cs:List Value} (h:Holds w g (blk b (.cells cur T (0,0))::U)) (h1:m≤cap) (h2:cap≤9223372036854775807)
  (h3:cur.size=cap*k) (h4:cur.toList.take (m*k)=cs):Holds w g (Own (.slice (some ⟨b,0,none⟩) m cap) k T m cs::U) :=
 h.tG (Kz _) h1 h2 h3 h4
theorem JW {P:Program} (w:World) (t ty e:TypeId) (i:TypeInfo) (ht:P.underlying t=some (.slice e)) (hi:P.info? e=some i)
  (g sLen sCap:Nat) (cur:Array Value) {fz:Nat × Nat} (hg:w.heap[g]?=some (.cells cur e fz)) (hz:q4 fz cur.size)
  (a:Addr) (m c:Nat) (news:List Value) (hl:news.length=m*i.size) (hnews:∀ j u,news[j]?=some u→w.cell? (a.add j)=some u) (h1:∀ u∈news,u.oneCell' =true)
  (hroom:sLen+m≤sCap) (hfit:sLen*i.size+news.length≤cur.size) :
  (Builtin.append_ #[t,t] ty #[.slice (some ⟨g,0,none⟩) sLen sCap,.slice (some a) m c]).run P w =
   .ok (.slice (some ⟨g,0,none⟩) (sLen+m) sCap) (w.setRow g (cur.toList.take (sLen*i.size)++news++cur.toList.drop (sLen*i.size+news.length)).toArray):=by
 have hf:=run_firstCells_some (P:=P) w i.size m a m c news hl hnews;have hst:=r7 P g (sLen*i.size) e hz news 0 cur w hg (Nat.le_refl _) (by simpa using hfit) h1;simp only [Nat.add_zero] at hst
 simp [Builtin.append_,run_underlying ht,sizeOf,typeInfo,hi,Builtin.lenOf,hroom,hf,Addr.add_lit,hst]
theorem bE.make {t e k ck:Nat} {z:List Value} {x y:Operand} {m:Nat} {kx ky:IntKind} (ht:P.underlying t=some (.slice e)) (he:dy P e k ck z) (hk:0<k)
  (hx:aA σ x=some (.int kx m)) (hy:aA σ y=some (.int ky m)) (hb:ck*m≤281474976710656) (h63:m≤9223372036854775807) :
  bE P (.makeSlice t x y) σ g U fun v ax =>ax =Own v k e m (e9 z m)::U :=
 fun o ρ w ho hkn hw=>by
  obtain ⟨i,cz,hi,hz,hs,hby,kv,hzl⟩:=he;subst hs hby kv;have hb' :(i.bytes:Int)*(m:Int)≤281474976710656:=by rw [← Int.natCast_mul];omega
  have hr:=run_make (P:=P) w t e i cz ht hi hz kx ky m m (by omega) (Int.le_refl _) hb' (by omega);simp only [Int.toNat_natCast] at hr;have hzs:cz.cells.size=i.size:=by simpa using hzl
  refine ⟨.slice (some ⟨w.heap.size,0,none⟩) m m,w.alloc (.cells (madeCells cz.cells (m*i.size)) e),_,rfl,by simp [execOp,ho,hkn x _ hx,hkn y _ hy,hr],(hw.alloc _).own (Nat.le_refl _) (by omega) ?_ ?_⟩
  ·simp [madeCells]
  ·rw [← hzs,xC _ _ (by omega),List.take_of_length_le (by rw [rT];simp)]
theorem bE.RK {t e k ck:Nat} {z:List Value} {x y:Operand} {c:Nat} {kx ky:IntKind} (ht:P.underlying t=some (.slice e)) (he:dy P e k ck z)
  (hx:aA σ x=some (.int kx 0)) (hy:aA σ y=some (.int ky c)) (hb:ck*c≤281474976710656) (h63:c≤9223372036854775807) :
  bE P (.makeSlice t x y) σ g U fun v ax =>ax =Own v k e 0 []::U :=
 fun o ρ w ho hkn hw=>by
  obtain ⟨i,cz,hi,hz,hs,hby,kv,hzl⟩:=he;subst hs hby kv;have hb' :(i.bytes:Int)*(c:Int)≤281474976710656:=by rw [← Int.natCast_mul];omega
  have hr:=run_make (P:=P) w t e i cz ht hi hz kx ky 0 c (by omega) (by omega) hb' (by omega);simp only [Int.toNat_natCast,Int.toNat_zero] at hr;refine ⟨.slice (some ⟨w.heap.size,0,none⟩) 0 c,w.alloc (.cells (madeCells cz.cells (c*i.size)) e),_,rfl,by simp [execOp,ho,hkn x _ hx,hkn y _ hy,hr],(hw.alloc _).own (Nat.zero_le _) (by omega) ?_ ?_⟩
  ·simp [madeCells]
  ·simp
def partsOf (σ:List (Nat × Value)):List (Nat × Operand)→Nat→Option (List Value)
 |[],_=>some []
 |(i,x)::r,j=>match Nat.beq i j,aA σ x,partsOf σ r (j+1) with|true,some v,some vs=>some (v::vs)|_,_,_=>none
theorem Ce:∀ (us pre mid post:List Value) (o:Nat) (q:Nat) (cells:Array Value),cells.toList=pre++mid++post→mid.length=us.length→pre.length=q+o →
  (us.zipIdx o).foldl (fun cs (x:Value × Nat)=>cs.setIfInBounds (q+x.2) x.1) cells=(pre++us++post).toArray
 |[],pre,mid,post,o,q,cells,hc,hm,_=>by
  have:mid=[]:=List.eq_nil_of_length_eq_zero (by simpa using hm);subst this
  apply Array.ext';simpa using hc
 |u::us,pre,mid,post,o,q,cells,hc,hm,hp=>by
  match mid,hm with
  |m::mid,hm =>
   simp only [List.zipIdx_cons,List.foldl_cons];rw [Ce us (pre++[u]) mid post (o+1) q _ ?_ (by simpa using hm) (by simp;omega)]
   ·simp
   ·rw [Array.toList_setIfInBounds,hc,← hp]
    simp
theorem B8 {σ:List (Nat × Value)} {ρ:Operand→Value} (hk:mQ σ ρ) (k:Nat):∀ (l:List (Nat × Operand)) (j:Nat) (vs:List Value) (pre rest:List Value) (cells:Array Value),
  partsOf σ l j=some vs→(∀ v∈vs,v.cells.size=k)→cells.toList=pre++rest→pre.length=j*k→rest.length=l.length*k →
  Instr.fill (fun i=>some (i*k,k)) cells (l.map fun p=>(p.1,ρ p.2))=some (pre++(vs.map (·.cells.toList)).flatten).toArray
 |[],j,vs,pre,rest,cells,h,_,hc,_,hr=>by
  cases h
  have:rest=[]:=List.eq_nil_of_length_eq_zero (by simpa using hr);subst this;simp only [List.map_nil,Instr.fill,List.flatten_nil,List.append_nil] at hc ⊢;rw [← hc]
 |(i,x)::l,j,vs,pre,rest,cells,h,hs,hc,hp,hr=>by
  simp only [partsOf] at h
  split at h
  ·rename_i v us hb hv qA
   cases h
   have:=Nat.eq_of_beq_eq_true hb;subst this;have xg:v.cells.size=k:=hs v (by simp);have e2:(l.length+1)*k=l.length*k+k:=Nat.succ_mul _ _;simp only [List.length_cons] at hr;have hsz:cells.size=i*k+((l.length+1)*k):=by rw [← Array.length_toList,hc,List.length_append,hp,hr]
   have hf:(v.cells.zipIdx.foldl (fun cs (x:Value × Nat)=>cs.setIfInBounds (i*k+x.2) x.1) cells)=(pre++v.cells.toList++rest.drop k).toArray:=by
    rw [← Array.foldl_toList,Array.toList_zipIdx];refine Ce v.cells.toList pre (rest.take k) (rest.drop k) 0 (i*k) cells ?_ ?_ (by simpa using hp)
    ·rw [List.append_assoc,List.take_append_drop];exact hc
    ·simp [xg];omega
   have h2:¬ (i*k+v.cells.size>cells.size):=by omega
   simp only [List.map_cons,Instr.fill,hk x v hv];rw [if_neg (by simp [xg];omega)];refine (congrArg (fun c=>Instr.fill _ c _) hf).trans ?_;rw [B8 hk k l (i+1) us (pre++v.cells.toList) (rest.drop k) _ qA (fun u hu=>hs u (by simp [hu])) (by simp) (by simp [hp,xg,Nat.succ_mul]) (by simp;omega)]
   simp
  ·cases h
theorem Ep {σ:List (Nat × Value)}:∀ (l:List (Nat × Operand)) (j:Nat) (vs:List Value),partsOf σ l j=some vs→vs.length=l.length
 |[],_,_,h=>by cases h;rfl
 |(q,x)::l,j,vs,h=>by
  simp only [partsOf] at h
  split at h
  ·rename_i v us _ _ qA;cases h;simp [Ep l _ _ qA]
  ·cases h
theorem IQ {k:Nat}:∀ vs:List Value,(∀ v∈vs,v.cells.size=k)→((vs.map (·.cells.toList)).flatten).length=vs.length*k
 |[],_=>by simp
 |v::vs,h=>by
  have:=IQ vs (fun u hu=>h u (by simp [hu]))
  simp [this,h v (by simp),Nat.succ_mul,Nat.add_comm]
theorem bE.lit {t e k ck:Nat} {z:List Value} {parts:Array (Nat × Operand)} {vs:List Value} {len:Nat} (ht:P.underlying t=some (.slice e)) (he:dy P e k ck z) (hk:0<k)
  (hp:partsOf σ parts.toList 0=some vs) (hlen:parts.toList.length=len) (hvs:vs.all (fun v=>Nat.beq v.cells.size k)=true) (jX:len*k≤16777216) :
  bE P (.buildSlice t len parts) σ g U fun v ax =>ax =Own v k e len (vs.map (·.cells.toList)).flatten::U :=
 fun o ρ w ho hkn hw=>by
  obtain ⟨i,cz,hi,hz,hs,hby,kv,hzl⟩:=he;subst hs kv;have hzs:cz.cells.size=i.size:=by simpa using hzl
  have ee :∀ v∈vs,v.cells.size=i.size:=fun v hv=>Nat.eq_of_beq_eq_true (List.all_eq_true.1 hvs v hv);have Ck :¬ (16777216<len*i.size):=by omega
  have hvl:((vs.map (·.cells.toList)).flatten).length=len*i.size:=by rw [IQ vs ee,Ep _ _ _ hp,hlen]
  have hmap:(parts.map fun (p:Nat × Operand)=>(p.1,ρ p.2)).toList=parts.toList.map fun p=>(p.1,ρ p.2):=Array.toList_map;have hsz:(sizeOf e).run P w=.ok i.size w:=run_sizeOf (by simp [hi]) w;have hrun:(Instr.buildSlice t len (parts.map fun (p:Nat × Operand)=>(p.1,ρ p.2))).run P w =
    .ok (.slice (some ⟨w.heap.size,0,none⟩) len len) (w.alloc (.cells (vs.map (·.cells.toList)).flatten.toArray e)):=by
   have hf:∀ c:Array Value,c.size=len*i.size→Instr.fill (fun j=>some (j*i.size,i.size)) c (parts.map fun (p:Nat × Operand)=>(p.1,ρ p.2)).toList=some ((vs.map (·.cells.toList)).flatten).toArray:=fun c hc=>by
    rw [hmap];exact B8 hkn i.size parts.toList 0 vs [] c.toList c hp ee rfl (by simp) (by simp [hc,← hlen])
   by_cases h0:len*i.size=0
   ·simp only [Instr.buildSlice,Sem.run_bind,run_underlying ht,Result.andThen_ok,hsz,h0,if_true,Sem.run_pure,Sem.run_ite]
    rw [hf _ (by simp [h0])]
    simp [newRow]
   ·simp only [Instr.buildSlice,Sem.run_bind,run_underlying ht,Result.andThen_ok,hsz,Ck,if_false,h0,Sem.run_pure,Sem.run_ite,zeroValue,typeInfo,run_program,hi,hz]
    rw [hf _ (by simp)]
    simp [newRow]
  refine ⟨.slice (some ⟨w.heap.size,0,none⟩) len len,w.alloc (.cells (vs.map (·.cells.toList)).flatten.toArray e),_,rfl,?_,(hw.alloc _).own (Nat.le_refl _) ?_ ?_ ?_⟩
  ·simp only [execOp,ho,Sem.run_bind]
   have:(parts.map fun x=>match x with|(i,x)=>(i,ρ x))=parts.map fun (p:Nat × Operand)=>(p.1,ρ p.2):=rfl;rw [this,hrun];rfl
  ·have:len≤len*i.size:=Nat.le_mul_of_pos_right _ hk
   omega
  ·simpa using hvl
  ·exact List.take_of_length_le (by simpa using Nat.le_of_eq hvl)
theorem pU {o:Oper} {x y:Operand} {ts:Array TypeId} {ρ:Operand→Value} (ho:o.op=.call ⟨.builtin .append,#[x,y],ts⟩) {w w' :World} {v:Value}
  (h:(Builtin.append_ ts o.type #[ρ x,ρ y]).run P w=.ok v w'):(execOp ρ o).run P w=.ok (.value v) w' :=by
 simp [execOp,ho,resolve,invoke,builtin,h]
theorem bE.append {t e k ck:Nat} {z:List Value} {x y:Operand} {v u:Value} {m q:Nat} {cs news:List Value} (ht:P.underlying t=some (.slice e)) (he:dy P e k ck z) (hk:0<k)
  (hx:aA σ x=some v) (hy:aA σ y=some u) (hs:bf U (Own v k e m cs) ζ) (hu:p_ g.h u k q news) (h1:∀ c∈news,c.oneCell' =true) (hb:(m+q)*ck≤140737488355328) (h63:m+q≤9223372036854775807) :
  bE P (.call ⟨.builtin .append,#[x,y],#[t,t]⟩) σ g U fun v' ax =>ax =Own v' k e (m+q) (cs++news)::ζ :=
 fun o ρ w ho hkn hw=>by
  obtain ⟨i,cz,hi,hz,hsz,hby,kv,hzl⟩:=he;subst hsz hby kv;have hzs:cz.cells.size=i.size:=by simpa using hzl
  obtain ⟨a,cap,rfl,c1,c2,c3,gL⟩:=hu;have hw1:=hw.cu hs
  cases a with
  |none =>
   have hq:news=[]:=by
    cases news with
    |nil=>rfl
    |cons c r=>obtain ⟨p,hp,_⟩:=gL 0 (by simp);cases hp
   subst hq;have Dp:q=0:=by
    have:q*i.size=0:=by rw [← c3];rfl
    rcases Nat.mul_eq_zero.1 this with h|h<;>omega
   subst Dp;have hv:∃ a cap,v=.slice a m cap∧m≤cap:=by
    obtain ⟨_,_,_,_,_,_,_,_,_,_,_,_,hA,_⟩:=hw1
    rcases hA with ⟨_,⟨rfl,rfl⟩|⟨b,cap,cur,rfl,_,h1,_⟩⟩
    ·exact ⟨none,0,rfl,Nat.le_refl _⟩
    ·exact ⟨_,cap,rfl,h1⟩
   obtain ⟨a,cp,rfl,hle⟩:=hv;refine ⟨.slice a m cp,w,_,rfl,pU ho ?_,by simpa using hw1⟩;rw [hkn x _ hx,hkn y _ hy]
   cases a<;>simp [Builtin.append_,run_underlying ht,sizeOf,typeInfo,hi,Builtin.lenOf,Builtin.firstCells,storeCells,hle]
  |some a =>
   have hnews:∀ j u,news[j]?=some u→w.cell? (a.add j)=some u:=fun j u hj=>by
    obtain ⟨hjl,rfl⟩:=List.getElem?_eq_some_iff.1 hj;obtain ⟨p,hp,hc⟩:=gL j hjl
    cases hp
    exact Fr.qf hw.ground hc
   have zm:=hkn x _ hx;have zn:=hkn y _ hy;have fresh:∀ (old:Nat),old<m+q→cs.length=m*i.size→Holds (w.drew.alloc (.cells (cs.toArray++news.toArray++Builtin.zeroCells cz.cells (grownCap w (m+q) old e - (m+q))) e)) g
     (Own (.slice (some ⟨w.heap.size,0,none⟩) (m+q) (grownCap w (m+q) old e)) i.size e (m+q) (cs++news)::ζ):=by
    intro old ho dY
    have hge:=grownCap_ge w (m+q) old e;have hcm:=grownCap_le_maxLen w (m+q) old e (by simpa [maxLen] using h63);have hlen:(cs++news).length=(m+q)*i.size:=by rw [List.length_append,dY,c3,Nat.add_mul]
    refine (((hw1.drop).drewN _ (Nat.le_add_right _ _)).alloc _).own hge (by simpa [maxLen] using hcm) ?_ ?_
    ·simp only [Array.size_append,List.size_toArray,size_zeroCells,hzs,dY,c3,← Nat.add_mul]
     congr 1
     omega
    ·simp only [Array.toList_append,List.append_assoc]
     rw [← List.append_assoc,← hlen];exact List.take_left
   obtain ⟨hA,Ns⟩:cs.length=m*i.size∧((v=.slice none 0 0∧m=0)∨∃ b cap cur,v=.slice (some ⟨b,0,none⟩) m cap∧m≤cap∧cap≤9223372036854775807∧cur.size=cap*i.size∧cur.toList.take (m*i.size)=cs ∧
     ∃ fz,q4 fz (cap*i.size)∧Holds w g (blk b (.cells cur e fz)::ζ)):=by
    obtain ⟨p1,p2,p3,K,hd,s1,s2,k1,k2,kd,t1,t2,⟨hl,hA⟩,hr⟩:=hw1;refine ⟨hl,hA.imp id ?_⟩;rintro ⟨b,cap,cur,rfl,⟨fz,hbk,hz⟩,h1,h2,h3,h4⟩;exact ⟨b,cap,cur,rfl,h1,h2,h3,h4,fz,hz,p1,p2,p3,K,hd,s1,s2,k1,k2,kd,t1,t2,hbk,hr⟩
   rcases Ns with ⟨rfl,rfl⟩|⟨b,cp,cur,rfl,y6,qo,uK,sU,fz,hfz,jE⟩
   ·have hcs:cs=[]:=List.eq_nil_of_length_eq_zero (by simpa using hA)
    subst hcs
    by_cases hq:q=0
    ·subst hq
     have hn:news=[]:=List.eq_nil_of_length_eq_zero (by simpa using c3);subst hn;refine ⟨.slice none 0 0,w,_,rfl,pU ho ?_,by simpa using hw1⟩;rw [zm,zn]
     simp [Builtin.append_,run_underlying ht,sizeOf,typeInfo,hi,Builtin.lenOf,Builtin.firstCells,loadCells,loadCellsFrom]
    ·have hr:=run_append_nil (P:=P) w t o.type e i cz ht hi hz a q cap news c3 hnews (by omega) (by omega) (by have hb:=hb;simp only [Nat.zero_add] at hb;omega)
     have hf:=fresh 0 (by omega) (by simp);simp only [Nat.zero_add,List.nil_append,Array.empty_append] at hf ⊢;exact ⟨_,_,_,rfl,pU ho (by rw [zm,zn];exact hr),hf⟩
   ·by_cases hroom:m+q≤cp
    ·have hfit:m*i.size+news.length≤cur.size:=by rw [c3,uK,← Nat.add_mul];exact Nat.mul_le_mul_right _ hroom
     have hr:=JW (P:=P) w t o.type e i ht hi b m cp cur jE.block (by rw [uK];exact hfz) a q cap news c3 hnews h1 hroom hfit;refine ⟨_,_,_,rfl,pU ho (by rw [zm,zn];exact hr),jE.setRow.tG hfz hroom qo ?_ ?_⟩
     ·simp only [List.size_toArray,List.length_append,List.length_take,List.length_drop,Array.length_toList]
      omega
     ·have hlen:(cs++news).length=(m+q)*i.size:=by rw [List.length_append,hA,c3,Nat.add_mul]
      rw [sU,← hlen];exact List.take_left
    ·have holds:∀ j u,cs[j]?=some u→w.cell? ((⟨b,0,none⟩:Addr).add j)=some u:=fun j u hj=>by
      have hb0:=jE.block;rw [add_lit,Nat.zero_add];have hjl:=(List.getElem?_eq_some_iff.1 hj).1;rw [← sU,List.getElem?_take_of_lt (by omega)] at hj
      simpa [World.cell?,hb0] using hj
     have hr:=run_append_grow (P:=P) w t o.type e i cz ht hi hz ⟨b,0,none⟩ m cp cs hA holds a q cap news c3 hnews (by omega) (by omega) (growslice_fits (by omega) hb);exact ⟨_,_,_,rfl,pU ho (by rw [zm,zn];exact hr),fresh cp (by omega) hA⟩
end
end Go.Sp
end
