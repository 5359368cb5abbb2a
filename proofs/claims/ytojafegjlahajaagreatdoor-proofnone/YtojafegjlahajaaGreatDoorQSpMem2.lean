/- Texts of this proof, one behind the other. -/
import Derived.Test.YtojafegjlahajaaGreatDoorQSpWalk
import Derived.WalkLawsBesides
import Derived.IntWalk
set_option linter.unusedSectionVars false
section
/- Texts of this proof, one behind the other. -/
section
/- Texts of this proof. -/
namespace Go.Sp
def Fr.cell (h:Fr) (a:Addr):Option Value :=
 match h a.block with
 |some (.cells c _ _)=>if a.spot.isSome then none else c[a.off]?
 |_=>none
theorem Fr.cell_mono {h k:Fr} (s:h.sub k) {a:Addr} {v:Value} (x:h.cell a=some v):k.cell a=some v:=by
 unfold Fr.cell at *
 split at x
 ·rename_i c t f hb;rw [s _ _ hb];exact x
 ·cases x
def flat (P:Program) (t:TypeId):Bool :=
 match P.underlying t with
 |some (.struct _)|some (.array ..)=>false
 |some _=>true
 |none=>false
theorem run_isAgg_flat {P:Program} {t:TypeId} (h:flat P t=true) (w:World):(isAgg t).run P w=.ok false w:=by
 unfold flat at h
 split at h
 ·cases h
 ·cases h
 ·rename_i d h1 h2 hd
  rw [isAgg,Sem.run_bind,run_underlying hd]
  cases d<;>first|rfl|exact (h1 _ rfl).elim|exact (h2 _ _ rfl).elim
 ·cases h
section
variable {P:Program} {σ:List (Nat × Value)} {g:Gr} {η:List SProp}
theorem Does.run {op:Op} {v:Value} (h:∀ (o:Oper) (ρ:Operand→Value) (w:World),o.op=op→Knows σ ρ→(execOp ρ o).run P w=.ok (.value v) w):Does P op σ g η v η :=
 fun o ρ w ho hk hw=>⟨w,h o ρ w ho hk,hw⟩
theorem Does.mv {x:Operand} {v:Value} (hx:ev σ x=some v):Does P (.move x) σ g η v η:=.run fun o ρ w ho hk=>by simp [execOp,ho,hk x v hx]
theorem Does.as {x:Operand} {v:Value} (hx:ev σ x=some v):Does P (.assign x) σ g η v η:=.run fun o ρ w ho hk=>by simp [execOp,ho,hk x v hx]
theorem Does.pickT {c x y:Operand} {v:Value} (hc:ev σ c=some (.bool true)) (hx:ev σ x=some v):Does P (.pick c x y) σ g η v η :=
 .run fun o ρ w ho hk=>by simp [execOp,ho,hk x v hx,hk c _ hc,asBool]
theorem Does.pickF {c x y:Operand} {v:Value} (hc:ev σ c=some (.bool false)) (hx:ev σ y=some v):Does P (.pick c x y) σ g η v η :=
 .run fun o ρ w ho hk=>by simp [execOp,ho,hk y v hx,hk c _ hc,asBool]
theorem Does.int2 {op:BinOp} {t u:TypeId} {x y:Operand} {j:IntKind} {a b:Int} {v:Value} (hx:ev σ x=some (.int j a)) (hy:ev σ y=some (.int j b))
  (h:∀ w,(Go.binOp op t (.int j a) (.int j b)).run P w=.ok v w):Does P (.binOp op t x y u) σ g η v η :=
 .run fun o ρ w ho hk=>by
  have:=h w
  simp [execOp,ho,hk x _ hx,hk y _ hy,eqGuard,this]
theorem Does.add {t u:TypeId} {x y:Operand} {j:IntKind} {a b:Int} (hx:ev σ x=some (.int j a)) (hy:ev σ y=some (.int j b)) (hw:j.wrap (a+b)=a+b) :
  Does P (.binOp .add t x y u) σ g η (.int j (a+b)) η:=.int2 hx hy fun w=>by simp [Go.binOp,Op.intArith,hw]
theorem Does.sub {t u:TypeId} {x y:Operand} {j:IntKind} {a b:Int} (hx:ev σ x=some (.int j a)) (hy:ev σ y=some (.int j b)) (hw:j.wrap (a - b)=a - b) :
  Does P (.binOp .sub t x y u) σ g η (.int j (a - b)) η:=.int2 hx hy fun w=>by simp [Go.binOp,Op.intArith,hw]
theorem Does.mul {t u:TypeId} {x y:Operand} {j:IntKind} {a b:Int} (hx:ev σ x=some (.int j a)) (hy:ev σ y=some (.int j b)) (hw:j.wrap (a*b)=a*b) :
  Does P (.binOp .mul t x y u) σ g η (.int j (a*b)) η:=.int2 hx hy fun w=>by simp [Go.binOp,Op.intArith,hw]
theorem Does.addW {t u:TypeId} {x y:Operand} {j:IntKind} {a b:Int} (hx:ev σ x=some (.int j a)) (hy:ev σ y=some (.int j b)) :
  Does P (.binOp .add t x y u) σ g η (.int j (j.wrap (a+b))) η:=.int2 hx hy fun w=>by simp [Go.binOp,Op.intArith]
theorem Does.subW {t u:TypeId} {x y:Operand} {j:IntKind} {a b:Int} (hx:ev σ x=some (.int j a)) (hy:ev σ y=some (.int j b)) :
  Does P (.binOp .sub t x y u) σ g η (.int j (j.wrap (a - b))) η:=.int2 hx hy fun w=>by simp [Go.binOp,Op.intArith]
theorem Does.mulW {t u:TypeId} {x y:Operand} {j:IntKind} {a b:Int} (hx:ev σ x=some (.int j a)) (hy:ev σ y=some (.int j b)) :
  Does P (.binOp .mul t x y u) σ g η (.int j (j.wrap (a*b))) η:=.int2 hx hy fun w=>by simp [Go.binOp,Op.intArith]
theorem Does.quo {t u:TypeId} {x y:Operand} {j:IntKind} {a b:Int} (hx:ev σ x=some (.int j a)) (hy:ev σ y=some (.int j b)) (h0:b≠0) :
  Does P (.binOp .quo t x y u) σ g η (.int j (j.wrap (a.tdiv b))) η:=.int2 hx hy fun w=>by simp [Go.binOp,Op.intDiv,h0]
theorem Does.rem {t u:TypeId} {x y:Operand} {j:IntKind} {a b:Int} (hx:ev σ x=some (.int j a)) (hy:ev σ y=some (.int j b)) (h0:b≠0) :
  Does P (.binOp .rem t x y u) σ g η (.int j (a.tmod b)) η:=.int2 hx hy fun w=>by simp [Go.binOp,Op.intDiv,h0]
theorem Does.lss {t u:TypeId} {x y:Operand} {j:IntKind} {a b:Int} (hx:ev σ x=some (.int j a)) (hy:ev σ y=some (.int j b)) :
  Does P (.binOp .lss t x y u) σ g η (.bool (decide (a<b))) η:=.int2 hx hy fun w=>by simp [Go.binOp,Op.intCmp]
theorem Does.leq {t u:TypeId} {x y:Operand} {j:IntKind} {a b:Int} (hx:ev σ x=some (.int j a)) (hy:ev σ y=some (.int j b)) :
  Does P (.binOp .leq t x y u) σ g η (.bool (decide (a≤b))) η:=.int2 hx hy fun w=>by simp [Go.binOp,Op.intCmp]
theorem Does.gtr {t u:TypeId} {x y:Operand} {j:IntKind} {a b:Int} (hx:ev σ x=some (.int j a)) (hy:ev σ y=some (.int j b)) :
  Does P (.binOp .gtr t x y u) σ g η (.bool (decide (b<a))) η:=.int2 hx hy fun w=>by simp [Go.binOp,Op.intCmp]
theorem Does.geq {t u:TypeId} {x y:Operand} {j:IntKind} {a b:Int} (hx:ev σ x=some (.int j a)) (hy:ev σ y=some (.int j b)) :
  Does P (.binOp .geq t x y u) σ g η (.bool (decide (b≤a))) η:=.int2 hx hy fun w=>by simp [Go.binOp,Op.intCmp]
theorem Does.eql {t u:TypeId} {x y:Operand} {j:IntKind} {a b:Int} (hx:ev σ x=some (.int j a)) (hy:ev σ y=some (.int j b)) :
  Does P (.binOp .eql t x y u) σ g η (.bool (decide (a=b))) η:=.int2 hx hy fun w=>by simp [Go.binOp,Op.intCmp];rfl
theorem Does.neq {t u:TypeId} {x y:Operand} {j:IntKind} {a b:Int} (hx:ev σ x=some (.int j a)) (hy:ev σ y=some (.int j b)) :
  Does P (.binOp .neq t x y u) σ g η (.bool (decide (a≠b))) η:=.int2 hx hy fun w=>by simp [Go.binOp,Op.intCmp];rfl
theorem Does.shl {t u:TypeId} {x y:Operand} {j i:IntKind} {a b:Int} (hx:ev σ x=some (.int j a)) (hy:ev σ y=some (.int i b)) (h0:0≤b) :
  Does P (.binOp .shl t x y u) σ g η (.int j (j.wrap (a*2 ^ min b.toNat j.bits))) η :=
 .run fun o ρ w ho hk=>by
  have:¬ b<0:=by omega
  simp [execOp,ho,hk x _ hx,hk y _ hy,eqGuard,Go.binOp,Op.shift,this]
theorem Does.shr {t u:TypeId} {x y:Operand} {j i:IntKind} {a b:Int} (hx:ev σ x=some (.int j a)) (hy:ev σ y=some (.int i b)) (h0:0≤b) :
  Does P (.binOp .shr t x y u) σ g η (.int j (a.fdiv (2 ^ min b.toNat j.bits))) η :=
 .run fun o ρ w ho hk=>by
  have:¬ b<0:=by omega
  simp [execOp,ho,hk x _ hx,hk y _ hy,eqGuard,Go.binOp,Op.shift,this]
def bitsOf (op:BinOp) (k:IntKind) (a b:Int):Int :=
 let x:=BitVec.ofInt k.bits a
 let y:=BitVec.ofInt k.bits b
 match op with
 |.and=>k.wrap (x &&& y).toNat
 | .or => k.wrap (x ||| y).toNat
 |.xor=>k.wrap (x ^^^ y).toNat
 | .andNot => k.wrap (x &&& ~~~y).toNat
 |_=>0
theorem Does.and {t u:TypeId} {x y:Operand} {j:IntKind} {a b:Int} (hx:ev σ x=some (.int j a)) (hy:ev σ y=some (.int j b)) :
  Does P (.binOp .and t x y u) σ g η (.int j (bitsOf .and j a b)) η:=.int2 hx hy fun w=>by simp [Go.binOp,Op.intBits,bitsOf]
theorem Does.or {t u:TypeId} {x y:Operand} {j:IntKind} {a b:Int} (hx:ev σ x=some (.int j a)) (hy:ev σ y=some (.int j b)) :
  Does P (.binOp .or t x y u) σ g η (.int j (bitsOf .or j a b)) η:=.int2 hx hy fun w=>by simp [Go.binOp,Op.intBits,bitsOf]
theorem Does.xor {t u:TypeId} {x y:Operand} {j:IntKind} {a b:Int} (hx:ev σ x=some (.int j a)) (hy:ev σ y=some (.int j b)) :
  Does P (.binOp .xor t x y u) σ g η (.int j (bitsOf .xor j a b)) η:=.int2 hx hy fun w=>by simp [Go.binOp,Op.intBits,bitsOf]
theorem Does.not {t:TypeId} {x:Operand} {b:Bool} (hx:ev σ x=some (.bool b)):Does P (.unOp .not t x) σ g η (.bool (!b)) η :=
 .run fun o ρ w ho hk=>by simp [execOp,ho,hk x _ hx,Op.unary]
theorem Does.notD {t:TypeId} {x:Operand} {p:Prop} [Decidable p] (hx:ev σ x=some (.bool (decide p))):Does P (.unOp .not t x) σ g η (.bool (decide (¬ p))) η:=by
 rw [decide_not];exact .not hx
theorem Does.neg {t:TypeId} {x:Operand} {j:IntKind} {a:Int} (hx:ev σ x=some (.int j a)):Does P (.unOp .neg t x) σ g η (.int j (j.wrap (0 - a))) η :=
 .run fun o ρ w ho hk=>by simp [execOp,ho,hk x _ hx,Op.unary,Op.intArith]
theorem Does.compl {t:TypeId} {x:Operand} {j:IntKind} {a:Int} (hx:ev σ x=some (.int j a)):Does P (.unOp .xor t x) σ g η (.int j (bitsOf .xor j (if j.signed then -1 else j.max) a)) η :=
 .run fun o ρ w ho hk=>by simp [execOp,ho,hk x _ hx,Op.unary,Op.intBits,bitsOf]
theorem Does.cvt {s t:TypeId} {x:Operand} {j k:IntKind} {a:Int} {d:TypeDesc} (hs:P.underlying s=some d) (ht:P.underlying t=some (.int k)) (hx:ev σ x=some (.int j a)) :
  Does P (.convert s t x) σ g η (.int k (k.wrap a)) η :=
 .run fun o ρ w ho hk=>by simp [execOp,ho,hk x _ hx,convert,run_underlying hs,run_underlying ht,Conv.intToInt]
theorem run_equal_bool {t:TypeId} (ht:P.underlying t=some .bool) (a b:Bool) (w:World):(Op.equal t (.bool a) (.bool b)).run P w=.ok (a ==b) w:=by
 show (Op.equalIn (9999+1) t (.bool a) (.bool b)).run P w=_
 rw [Op.equalIn]
 simp [run_underlying ht]
theorem Does.neqB {t u:TypeId} {x y:Operand} {a b:Bool} (ht:P.underlying t=some .bool) (hx:ev σ x=some (.bool a)) (hy:ev σ y=some (.bool b)) :
  Does P (.binOp .neq t x y u) σ g η (.bool (decide (a≠b))) η :=
 .run fun o ρ w ho hk=>by
  simp [execOp,ho,hk x _ hx,hk y _ hy,eqGuard,Go.binOp,run_equal_bool ht]
  cases a<;>cases b<;>rfl
theorem Does.eqlS {t u:TypeId} {x y:Operand} {a b:ByteArray} (hx:ev σ x=some (.string a)) (hy:ev σ y=some (.string b)) :
  Does P (.binOp .eql t x y u) σ g η (.bool (decide (a.toList=b.toList))) η :=
 .run fun o ρ w ho hk=>by
  have:(a.toList ==b.toList)=decide (a.toList=b.toList):=by rw [Bool.eq_iff_iff];simp
  simp [execOp,ho,hk x _ hx,hk y _ hy,eqGuard,Go.binOp,Op.stringOp,this]
theorem Does.neqS {t u:TypeId} {x y:Operand} {a b:ByteArray} (hx:ev σ x=some (.string a)) (hy:ev σ y=some (.string b)) :
  Does P (.binOp .neq t x y u) σ g η (.bool (decide (a.toList≠b.toList))) η :=
 .run fun o ρ w ho hk=>by
  have:(a.toList ==b.toList)=decide (a.toList=b.toList):=by rw [Bool.eq_iff_iff];simp
  simp [execOp,ho,hk x _ hx,hk y _ hy,eqGuard,Go.binOp,Op.stringOp,this]
theorem Does.addS {t u:TypeId} {x y:Operand} {a b:ByteArray} (hx:ev σ x=some (.string a)) (hy:ev σ y=some (.string b)) (hl:a.size+b.size≤9223372036854775807) :
  Does P (.binOp .add t x y u) σ g η (.string (a++b)) η :=
 .run fun o ρ w ho hk=>by
  have:¬ (9223372036854775807<((a.size:Int)+(b.size:Int))):=by omega
  simp [execOp,ho,hk x _ hx,hk y _ hy,eqGuard,Go.binOp,Op.stringOp,this]
theorem Does.len {t:TypeId} {x:Operand} {e:TypeId} {a:Option Addr} {m c:Nat} {ts:Array TypeId} (hts:ts[0]?=some t) (ht:P.underlying t=some (.slice e)) (hx:ev σ x=some (.slice a m c)) :
  Does P (.call ⟨.builtin .len,#[x],ts⟩) σ g η (.int .i64 (m:Int)) η :=
 .run fun o ρ w ho hk=>by simp [execOp,ho,resolve,invoke,builtin,hk x _ hx,Builtin.len_,hts,run_underlying ht,goInt]
theorem Does.cap {t:TypeId} {x:Operand} {e:TypeId} {a:Option Addr} {m c:Nat} {ts:Array TypeId} (hts:ts[0]?=some t) (ht:P.underlying t=some (.slice e)) (hx:ev σ x=some (.slice a m c)) :
  Does P (.call ⟨.builtin .cap,#[x],ts⟩) σ g η (.int .i64 (c:Int)) η :=
 .run fun o ρ w ho hk=>by simp [execOp,ho,resolve,invoke,builtin,hk x _ hx,Builtin.cap_,hts,run_underlying ht,goInt]
theorem Does.lenS {t:TypeId} {x:Operand} {s:ByteArray} {ts:Array TypeId} (hts:ts[0]?=some t) (ht:P.underlying t=some .string) (hx:ev σ x=some (.string s)) :
  Does P (.call ⟨.builtin .len,#[x],ts⟩) σ g η (.int .i64 (s.size:Int)) η :=
 .run fun o ρ w ho hk=>by simp [execOp,ho,resolve,invoke,builtin,hk x _ hx,Builtin.len_,hts,run_underlying ht,goInt]
theorem Does.extract {x:Operand} {vs:Array Value} {j:Nat} {v:Value} (hx:ev σ x=some (.tuple vs)) (hj:vs[j]?=some v):Does P (.extract x j) σ g η v η :=
 .run fun o ρ w ho hk=>by simp [execOp,ho,hk x _ hx,Instr.extract,hj]
theorem Does.mkFunc {fn:Go.Fn} {first cap:Array Operand} {vs us:List Value} (h1:evs σ first.toList=some vs) (h2:evs σ cap.toList=some us) :
  Does P (.makeFunc fn first cap) σ g η (.func fn vs.toArray us.toArray) η :=
 .run fun o ρ w ho hk=>by
  have e1:first.map ρ=vs.toArray:=by rw [← evs_spec hk h1,← Array.toList_map]
  have e2:cap.map ρ=us.toArray:=by rw [← evs_spec hk h2,← Array.toList_map]
  simp [execOp,ho,Instr.makeFunc,e1,e2]
theorem Does.nilCheck {x:Operand} {a:Addr} (hx:ev σ x=some (.pointer (some a))):Does P (.nilCheck x) σ g η (.pointer (some a)) η :=
 .run fun o ρ w ho hk=>by simp [execOp,ho,hk x _ hx]
end
end Go.Sp
end
section
/- Texts of this proof. -/
namespace Go.Sp
def flat1 (P:Program) (t:TypeId):Bool:=flat P t && ((P.info? t).map (·.size) ==some 1)
theorem flat1_flat {P:Program} {t:TypeId} (h:flat1 P t=true):flat P t=true:=by unfold flat1 at h;simp at h;exact h.1
theorem run_sizeOf {P:Program} {t:TypeId} {m:Nat} (h:(P.info? t).map (·.size)=some m) (w:World):(sizeOf t).run P w=.ok m w:=by
 cases hi:P.info? t with
 |none=>rw [hi] at h;cases h
 |some i=>rw [hi] at h;simp at h;simp [sizeOf,typeInfo,hi,h]
def At (h:Fr) (p:Addr) (cs:List Value):Prop:=∀ j (hj:j<cs.length),h.cell (p.add j)=some cs[j]
theorem At.mono {h k:Fr} {p:Addr} {cs:List Value} (s:h.sub k) (x:At h p cs):At k p cs:=fun j hj=>Fr.cell_mono s (x j hj)
theorem Addr.add_add (a:Addr) (i j:Nat):(a.add i).add j=a.add (i+j):=by
 unfold Addr.add
 by_cases hi:i=0
 ·subst hi;simp
 ·by_cases hj:j=0
  ·subst hj;simp
  ·have:i+j≠0:=by omega
   simp [hi,hj,Nat.add_assoc]
theorem Addr.add_zero (a:Addr):a.add 0=a:=by simp [Addr.add]
theorem At.drop {h:Fr} {p:Addr} {cs:List Value} (x:At h p cs) (i:Nat):At h (p.add i) (cs.drop i):=fun j hj=>by
 rw [Addr.add_add,x (i+j) (by simp at hj;omega)];simp
theorem At.take {h:Fr} {p:Addr} {cs:List Value} (x:At h p cs) (i:Nat):At h p (cs.take i):=fun j hj=>by
 rw [x j (by simp at hj;omega)];simp
theorem At.at {h:Fr} {p:Addr} {cs:List Value} (x:At h p cs) {j:Nat} {v:Value} (hv:cs[j]?=some v):h.cell (p.add j)=some v:=by
 obtain ⟨hj,rfl⟩:=List.getElem?_eq_some_iff.1 hv;exact x j hj
def Sl (h:Fr) (v:Value) (k m:Nat) (cs:List Value):Prop :=
 ∃ a cap,v=.slice a m cap∧m≤cap∧(cap≤9223372036854775807∧(a=none→cap=0))∧cs.length=m*k∧∀ j (hj:j<cs.length),∃ p,a=some p∧h.cell (p.add j)=some cs[j]
theorem Sl.mono {h h' :Fr} {v:Value} {k m:Nat} {cs:List Value} (s:h.sub h'):Sl h v k m cs→Sl h' v k m cs
 |⟨a,cap,h1,h2,h3,h4,h5⟩=>⟨a,cap,h1,h2,h3,h4,fun j hj=>let ⟨p,x,y⟩:=h5 j hj;⟨p,x,Fr.cell_mono s y⟩⟩
theorem Sl.bound {h:Fr} {v:Value} {k m:Nat} {cs:List Value}:Sl h v k m cs→m≤9223372036854775807
 |⟨_,_,_,h1,h2,_,_⟩=>Nat.le_trans h1 h2.1
def obj (b:Nat) (T:TypeId) (cs:List Value):SProp:=blk b (.cells cs.toArray T (0,0))
def Thawed (fz:Nat × Nat) (n:Nat):Prop:=∀ j,j<n→¬(fz.1≤j∧j<fz.2)
theorem thawed0 (n:Nat):Thawed (0,0) n:=fun j _ h=>Nat.not_lt_zero j h.2
def Own (v:Value) (k:Nat) (T:TypeId) (m:Nat) (cs:List Value):SProp:=fun h =>
 cs.length=m*k∧((v=.slice none 0 0∧m=0) ∨
  ∃ b cap cur,v=.slice (some ⟨b,0,none⟩) m cap∧(∃ fz,h b=some (.cells cur T fz)∧Thawed fz (cap*k))∧m≤cap∧cap≤9223372036854775807∧cur.size=cap*k∧cur.toList.take (m*k)=cs)
theorem Own.sl {h:Fr} {v:Value} {k m:Nat} {T:TypeId} {cs:List Value}:Own v k T m cs h→Sl h v k m cs
 |⟨hl,.inl ⟨hv,hm⟩⟩=>by subst hv hm;exact ⟨none,0,rfl,Nat.le_refl _,⟨by omega,fun _=>rfl⟩,hl,fun j hj=>by omega⟩
 |⟨hl,.inr ⟨b,cap,cur,hv,⟨fz,hb,_⟩,h1,h2,h3,h4⟩⟩=>by
  subst hv;refine ⟨_,cap,rfl,h1,⟨h2,fun h=>by cases h⟩,hl,fun j hj=>⟨_,rfl,?_⟩⟩;have hj' :j<m*k:=by omega
  have:(⟨b,0,none⟩:Addr).add j=⟨b,j,none⟩:=by
   unfold Addr.add;split
   ·rename_i hz;subst hz;rfl
   ·simp
  rw [this];simp only [Fr.cell,hb];subst h4;simp only [Option.isSome_none,Bool.false_eq_true,if_false,List.getElem_take];have:j<cur.size:=by
   have:=List.length_take_le (m*k) cur.toList
   simp at hj;omega
  simp [this]
section
variable {ro:Option Nat} {P:Program} {σ:List (Nat × Value)} {g:Gr} {η ζ:List SProp}
theorem Does.load {t:TypeId} {x:Operand} {p:Addr} {v:Value} (ht:flat1 P t=true) (hx:ev σ x=some (.pointer (some p))) (hp:g.h.cell p=some v):Does P (.load t x) σ g η v η :=
 fun o ρ w ho hk hw=>⟨w,by
  have hc:w.cell? p=some v:=Fr.cell_mono hw.ground hp
  simp [execOp,ho,hk x _ hx,Instr.loadAt,Instr.sureAddr,loadVar,run_isAgg_flat (flat1_flat ht),hc],hw⟩
theorem Does.loadAgg {t:TypeId} {x:Operand} {p:Addr} {cs:List Value} (ht:∀ w,(isAgg t).run P w=.ok true w) (hs:(P.info? t).map (·.size)=some cs.length)
  (hx:ev σ x=some (.pointer (some p))) (hp:At g.h p cs):Does P (.load t x) σ g η (.agg cs.toArray) η :=
 fun o ρ w ho hk hw=>⟨w,by
  have hr:=run_loadCells_list (P:=P) w p cs fun j v hj=>Fr.cell_mono hw.ground (hp.at hj)
  simp [execOp,ho,hk x _ hx,Instr.loadAt,Instr.sureAddr,loadVar,ht,run_sizeOf hs,hr],hw⟩
theorem Holds.obj_cell {w:World} {b:Nat} {T:TypeId} {cs:List Value} (h:Holds w g (obj b T cs::η)) {j:Nat} {v:Value} (hj:cs[j]?=some v):w.cell? ⟨b,j,none⟩=some v:=by
 have:=h.block
 simp [World.cell?,this,hj]
theorem Does.loadObj {t T:TypeId} {x:Operand} {b j:Nat} {cs:List Value} {v:Value} (ht:flat1 P t=true) (hx:ev σ x=some (.pointer (some ⟨b,j,none⟩))) (hs:Sel η (obj b T cs) ζ) (hj:cs[j]?=some v) :
  Does P (.load t x) σ g η v η :=
 fun o ρ w ho hk hw=>⟨w,by
  have hc:w.cell? ⟨b,j,none⟩=some v:=(hw.sel hs).obj_cell hj
  simp [execOp,ho,hk x _ hx,Instr.loadAt,Instr.sureAddr,loadVar,run_isAgg_flat (flat1_flat ht),hc],hw⟩
theorem add_lit (b i j:Nat):(⟨b,i,none⟩:Addr).add j=⟨b,i+j,none⟩:=by
 unfold Addr.add;split
 ·rename_i hz;subst hz;rfl
 ·rfl
theorem Does.loadObjAgg {t T:TypeId} {x:Operand} {b i:Nat} {cs news:List Value} (ht:∀ w,(isAgg t).run P w=.ok true w) (hsz:(P.info? t).map (·.size)=some news.length)
  (hx:ev σ x=some (.pointer (some ⟨b,i,none⟩))) (hs:Sel η (obj b T cs) ζ) (hn:(cs.drop i).take news.length=news):Does P (.load t x) σ g η (.agg news.toArray) η :=
 fun o ρ w ho hk hw=>⟨w,by
  have hr:=run_loadCells_list (P:=P) w ⟨b,i,none⟩ news fun j v hj=>by
   rw [add_lit];refine (hw.sel hs).obj_cell ?_;have hjl:j<news.length:=(List.getElem?_eq_some_iff.1 hj).1;rw [← hn,List.getElem?_take_of_lt hjl,List.getElem?_drop] at hj;exact hj
  simp [execOp,ho,hk x _ hx,Instr.loadAt,Instr.sureAddr,loadVar,ht,run_sizeOf hsz,hr],hw⟩
def fieldOff (P:Program) (s f:Nat):Option Nat :=
 match P.underlying s with
 |some (.struct fs) =>
  match fs[f]? with
  |some fd=>match (P.info? fd.type).map (·.size) with|some (_+1)=>some fd.offset|_=>none
  |none=>none
 |_=>none
theorem run_fieldAt {s f off:Nat} (h:fieldOff P s f=some off) (a:Addr) (w:World):(Instr.fieldAt s (.pointer (some a)) f).run P w=.ok (.pointer (some (a.add off))) w:=by
 unfold fieldOff at h
 split at h
 ·rename_i fs hu
  split at h
  ·rename_i fd hf
   split at h
   ·rename_i m hm
    cases h
    simp [Instr.fieldAt,run_underlying hu,hf,Instr.sureAddr,fieldPlace,run_sizeOf hm]
   ·cases h
  ·cases h
 ·cases h
theorem Does.fieldAddr {s f off:Nat} {x:Operand} {a:Addr} (h:fieldOff P s f=some off) (hx:ev σ x=some (.pointer (some a))):Does P (.fieldAddr s x f) σ g η (.pointer (some (a.add off))) η :=
 .run fun o ρ w ho hk=>by simp [execOp,ho,hk x _ hx,run_fieldAt h]
theorem Does.fieldObj {s f off b i:Nat} {x:Operand} (h:fieldOff P s f=some off) (hx:ev σ x=some (.pointer (some ⟨b,i,none⟩))):Does P (.fieldAddr s x f) σ g η (.pointer (some ⟨b,i+off,none⟩)) η:=by
 have:=Does.fieldAddr (g:=g) (η:=η) h hx;rwa [add_lit] at this
def DoesE (P:Program) (op:Op) (σ:List (Nat × Value)) (g:Gr) (η:List SProp) (K:Value→List SProp→Prop):Prop :=
 ∀ (o:Oper) (ρ:Operand→Value) (w:World),o.op=op→Knows σ ρ→Holds w g η→∃ v w' η',K v η' ∧(execOp ρ o).run P w=.ok (.value v) w' ∧Holds w' g η'
theorem O.opE {ro:Option Nat} {fn:Func} {n:Nat} {R:Ending→World→Prop} {k:List Item} {D:List Deferred} {ops:Array Oper} {i d:Nat} {l:List Nat} {op:Op} {K:Value→List SProp→Prop}
  (ho:Fires ops i n σ d op) (hdo:DoesE P op σ g η K) (h:∀ v η',K v η' →O ro P fn n R ops l k ((d,v)::σ) D g η'):O ro P fn n R ops (i::l) k σ D g η:=by
 intro a w hf hd hw
 obtain ⟨o,hi,hdst,hop,hg,hb⟩:=ho.spec;obtain ⟨v,w',η',hk,hrun,hw'⟩:=hdo o a.eval w hop hf.knows hw;refine O.fire hi (hg a hf) (notDefer_value hrun) hrun ?_;rw [Oper.uponIn_value,hdst];exact h v η' hk _ _ (hf.put hb) hd hw'
theorem Holds.allocObj {w:World} (h:Holds w g η) (T:TypeId) (cs:Array Value):Holds (w.alloc (.cells cs T)) g (obj w.heap.size T cs.toList::η):=by
 have:=h.alloc (.cells cs T)
 simpa [obj] using this
theorem DoesE.alloc {T:TypeId} {z:Value} {cs:List Value} (hz:∀ w,(zeroValue T).run P w=.ok z w) (hc:z.cells.toList=cs):DoesE P (.alloc T) σ g η fun v η' =>∃ b,v=.pointer (some ⟨b,0,none⟩)∧η' =obj b T cs::η :=
 fun o ρ w ho _ hw=>by subst hc;exact ⟨_,_,_,⟨w.heap.size,rfl,rfl⟩,by simp [execOp,ho,Instr.alloc,hz,newVar,newRow],hw.allocObj T z.cells⟩
theorem DoesE.box {T:TypeId} {x:Operand} {v:Value} {cs:List Value} (hx:ev σ x=some v) (hc:v.cells.toList=cs):DoesE P (.box T x) σ g η fun p η' =>∃ b,p=.pointer (some ⟨b,0,none⟩)∧η' =obj b T cs::η :=
 fun o ρ w ho hk hw=>by subst hc;exact ⟨_,_,_,⟨w.heap.size,rfl,rfl⟩,by simp [execOp,ho,Instr.box,hk x _ hx,newVar,newRow],hw.allocObj T v.cells⟩
theorem Holds.setRow {w:World} {b:Nat} {T:TypeId} {cur cs:Array Value} {fz:Nat × Nat} (h:Holds w g (blk b (.cells cur T fz)::η)):Holds (w.setRow b cs) g (blk b (.cells cs T fz)::η) :=
 h.setBlock (setRow_heap w b _ cs T fz h.block) (fun i hi=>setRow_other w b i cs hi) rfl rfl rfl
theorem run_storeCells_z (P:Program) (g o:Nat) (t:TypeId) {fz:Nat × Nat} {n:Nat} (hz:Thawed fz n):∀ (vs:List Value) (i:Nat) (cur:Array Value) (w:World),w.heap[g]?=some (.cells cur t fz)→cur.size≤n→o+i+vs.length≤cur.size→(∀ v∈vs,v.oneCell' =true) →
  (storeCells ⟨g,o,none⟩ vs i).run P w=.ok () (w.setRow g (cur.toList.take (o+i)++vs++cur.toList.drop (o+i+vs.length)).toArray)
 |[],i,cur,w,hg,_,_,_=>by
  simp only [storeCells,List.append_nil,List.length_nil,Nat.add_zero,List.take_append_drop,Array.toArray_toList];rw [setRow_self w g cur t fz hg]
  rfl
 |v::rest,i,cur,w,hg,hn,hl,h1=>by
  have hi:o+i<cur.size:=by simp at hl;omega
  have hadd:(⟨g,o,none⟩:Addr).add i=⟨g,o+i,none⟩:=by unfold Addr.add;split<;>simp_all
  have hcell:w.cell? ⟨g,o+i,none⟩=some cur[o+i]:=by simp [World.cell?,hg,hi]
  have hfro:w.frozen? ⟨g,o+i,none⟩=false:=by
   have:=hz (o+i) (by omega);simp only [World.frozen?,hg]
   simpa using this
  have hst:(store ((⟨g,o,none⟩:Addr).add i) v).run P w=.ok () (w.setRow g (cur.setIfInBounds (o+i) v)):=by
   rw [hadd,run_store P w _ v _ (h1 v (by simp)),hcell]
   simp [hfro,setCell_eq_setRow w g (o+i) cur t fz v hg]
  have ih:=run_storeCells_z P g o t hz rest (i+1) (cur.setIfInBounds (o+i) v) (w.setRow g (cur.setIfInBounds (o+i) v)) (setRow_heap w g cur _ t _ hg) (by simpa using hn) (by simp at hl ⊢;omega) (fun x hx=>h1 x (by simp [hx]));simp only [storeCells,Sem.run_bind,hst,Result.andThen_ok,ih,setRow_setRow]
  congr 3
  have e:=list_seg_step cur.toList (o+i) v rest (by simp at hl ⊢;omega)
  simpa [Array.toList_setIfInBounds,Nat.add_assoc] using e
theorem DoesU.storeObj {t T:TypeId} {x y:Operand} {b i:Nat} {cs news:List Value} {v:Value} (hsz:(P.info? t).map (·.size)=some news.length) (hx:ev σ x=some (.pointer (some ⟨b,i,none⟩))) (hy:ev σ y=some v)
  (hv:v.cells.toList=news) (h1:news.all (·.oneCell')=true) (hs:Sel η (obj b T cs) ζ) (hl:i+news.length≤cs.length) :
  DoesU P (.store t x y) σ g η (obj b T (cs.take i++news++cs.drop (i+news.length))::ζ) :=
 fun o ρ w ho hk hw=>by
  have hw1:=hw.sel hs;have hst:=run_storeCells_at P b i T news 0 cs.toArray w hw1.block (by simpa using hl) (by simpa using h1);refine ⟨w.setRow b (cs.take i++news++cs.drop (i+news.length)).toArray,?_,hw1.setRow⟩;have hc:v.cells.size=news.length:=by rw [← hv];simp
  simp only [Nat.add_zero] at hst
  simp [execOp,ho,hk x _ hx,hk y _ hy,Instr.storeAt,Instr.sureAddr,storeVar,run_sizeOf hsz,hc,hv,hst]
theorem DoesU.store1 {t T:TypeId} {x y:Operand} {b i:Nat} {cs:List Value} {v:Value} (ht:flat1 P t=true) (hx:ev σ x=some (.pointer (some ⟨b,i,none⟩))) (hy:ev σ y=some v)
  (h1:v.oneCell' =true) (hs:Sel η (obj b T cs) ζ) (hl:i<cs.length):DoesU P (.store t x y) σ g η (obj b T (cs.set i v)::ζ):=by
 have hc:v.cells=#[v]:=by cases v<;>first|rfl|cases h1
 have hsz:(P.info? t).map (·.size)=some 1:=by unfold flat1 at ht;simp at ht;simpa using ht.2
 have:=DoesU.storeObj (P:=P) (g:=g) (news:=[v]) hsz hx hy (by rw [hc]) (by simp [h1]) hs (by simp;omega);rw [List.set_eq_take_append_cons_drop,if_pos hl]
 simpa using this
end
end Go.Sp
end
end
section
/- Texts of this proof. -/
namespace Go.Sp
section
variable {P:Program} {σ:List (Nat × Value)} {g:Gr} {η ζ:List SProp}
def elemIs (P:Program) (e k by_:Nat) (z:List Value):Prop:=∃ i zv,P.info? e=some i∧i.zero=some zv∧i.size=k∧i.bytes=by_∧zv.cells.toList=z∧z.length=k
theorem elemIs.mk {e k by_:Nat} {z:List Value} (h:(P.info? e).map (fun i=>(i.zero.map (·.cells.toList),i.size,i.bytes))=some (some z,k,by_)) (hz:z.length=k):elemIs P e k by_ z:=by
 unfold elemIs
 cases hi:P.info? e with
 |none=>rw [hi] at h;cases h
 |some i =>
  rw [hi] at h;simp only [Option.map_some,Option.some.injEq,Prod.mk.injEq,Option.map_eq_some_iff] at h;obtain ⟨⟨zv,h1,h2⟩,h3,h4⟩:=h;exact ⟨i,zv,rfl,h1,h3,h4,h2,hz⟩
def reps (z:List Value):Nat→List Value
 |0=>[]
 |m+1=>z++reps z m
theorem length_reps (z:List Value) (m:Nat):(reps z m).length=m*z.length:=by
 induction m with
 |zero=>simp [reps]
 |succ m ih=>simp [reps,ih,Nat.succ_mul,Nat.add_comm]
theorem reps_get (z:List Value) (m j:Nat) (h:j<m*z.length):(reps z m)[j]?=z[j % z.length]?:=by
 induction m generalizing j with
 |zero=>simp at h
 |succ m ih =>
  simp only [reps]
  rcases Nat.lt_or_ge j z.length with hj|hj
  ·rw [List.getElem?_append_left hj,Nat.mod_eq_of_lt hj]
  ·rw [List.getElem?_append_right hj,ih (j - z.length) (by rw [Nat.succ_mul] at h;omega),Nat.mod_eq_sub_mod hj]
theorem madeCells_reps (z:Array Value) (m:Nat) (hz:0<z.size):(madeCells z (m*z.size)).toList=reps z.toList m:=by
 apply List.ext_getElem?
 intro j
 rcases Nat.lt_or_ge j (m*z.size) with h|h
 ·rw [reps_get _ _ _ (by simpa using h)]
  have hm:=Nat.mod_lt j hz
  simp [madeCells,h,hm]
 ·rw [List.getElem?_eq_none (by simp [madeCells];exact h),List.getElem?_eq_none (by rw [length_reps];simpa using h)]
theorem Holds.ownF {w:World} {b:Nat} {T k m cap:Nat} {cur:Array Value} {cs:List Value} {fz:Nat × Nat} (h:Holds w g (blk b (.cells cur T fz)::η)) (hz:Thawed fz (cap*k)) (h1:m≤cap) (h2:cap≤9223372036854775807)
  (h3:cur.size=cap*k) (h4:cur.toList.take (m*k)=cs):Holds w g (Own (.slice (some ⟨b,0,none⟩) m cap) k T m cs::η) :=
 h.imp fun _=>Sat.cons_imp (fun f hf=>⟨by rw [← h4,List.length_take,Array.length_toList,h3];exact Nat.min_eq_left (Nat.mul_le_mul_right _ h1),.inr ⟨b,cap,cur,rfl,⟨fz,hf,hz⟩,h1,h2,h3,h4⟩⟩) fun _ x=>x
theorem Holds.own {w:World} {b:Nat} {T k m cap:Nat} {cur:Array Value} {cs:List Value} (h:Holds w g (blk b (.cells cur T (0,0))::η)) (h1:m≤cap) (h2:cap≤9223372036854775807)
  (h3:cur.size=cap*k) (h4:cur.toList.take (m*k)=cs):Holds w g (Own (.slice (some ⟨b,0,none⟩) m cap) k T m cs::η) :=
 h.ownF (thawed0 _) h1 h2 h3 h4
theorem run_append_roomZ {P:Program} (w:World) (t ty e:TypeId) (i:TypeInfo) (ht:P.underlying t=some (.slice e)) (hi:P.info? e=some i)
  (g sLen sCap:Nat) (cur:Array Value) {fz:Nat × Nat} (hg:w.heap[g]?=some (.cells cur e fz)) (hz:Thawed fz cur.size)
  (a:Addr) (m c:Nat) (news:List Value) (hl:news.length=m*i.size) (hnews:∀ j u,news[j]?=some u→w.cell? (a.add j)=some u) (h1:∀ u∈news,u.oneCell' =true)
  (hroom:sLen+m≤sCap) (hfit:sLen*i.size+news.length≤cur.size) :
  (Builtin.append_ #[t,t] ty #[.slice (some ⟨g,0,none⟩) sLen sCap,.slice (some a) m c]).run P w =
   .ok (.slice (some ⟨g,0,none⟩) (sLen+m) sCap) (w.setRow g (cur.toList.take (sLen*i.size)++news++cur.toList.drop (sLen*i.size+news.length)).toArray):=by
 have hf:=run_firstCells_some (P:=P) w i.size m a m c news hl hnews;have hst:=run_storeCells_z P g (sLen*i.size) e hz news 0 cur w hg (Nat.le_refl _) (by simpa using hfit) h1;simp only [Nat.add_zero] at hst
 simp [Builtin.append_,run_underlying ht,sizeOf,typeInfo,hi,Builtin.lenOf,hroom,hf,Addr.add_lit,hst]
theorem DoesE.make {t e k by_:Nat} {z:List Value} {x y:Operand} {m:Nat} {kx ky:IntKind} (ht:P.underlying t=some (.slice e)) (he:elemIs P e k by_ z) (hk:0<k)
  (hx:ev σ x=some (.int kx m)) (hy:ev σ y=some (.int ky m)) (hb:by_*m≤281474976710656) (h63:m≤9223372036854775807) :
  DoesE P (.makeSlice t x y) σ g η fun v η' =>η' =Own v k e m (reps z m)::η :=
 fun o ρ w ho hkn hw=>by
  obtain ⟨i,zv,hi,hz,hs,hby,hzc,hzl⟩:=he;subst hs hby hzc;have hb' :(i.bytes:Int)*(m:Int)≤281474976710656:=by rw [← Int.natCast_mul];omega
  have hr:=run_make (P:=P) w t e i zv ht hi hz kx ky m m (by omega) (Int.le_refl _) hb' (by omega);simp only [Int.toNat_natCast] at hr;have hzs:zv.cells.size=i.size:=by simpa using hzl
  refine ⟨.slice (some ⟨w.heap.size,0,none⟩) m m,w.alloc (.cells (madeCells zv.cells (m*i.size)) e),_,rfl,by simp [execOp,ho,hkn x _ hx,hkn y _ hy,hr],(hw.alloc _).own (Nat.le_refl _) (by omega) ?_ ?_⟩
  ·simp [madeCells]
  ·rw [← hzs,madeCells_reps _ _ (by omega),List.take_of_length_le (by rw [length_reps];simp)]
theorem DoesE.make0 {t e k by_:Nat} {z:List Value} {x y:Operand} {c:Nat} {kx ky:IntKind} (ht:P.underlying t=some (.slice e)) (he:elemIs P e k by_ z)
  (hx:ev σ x=some (.int kx 0)) (hy:ev σ y=some (.int ky c)) (hb:by_*c≤281474976710656) (h63:c≤9223372036854775807) :
  DoesE P (.makeSlice t x y) σ g η fun v η' =>η' =Own v k e 0 []::η :=
 fun o ρ w ho hkn hw=>by
  obtain ⟨i,zv,hi,hz,hs,hby,hzc,hzl⟩:=he;subst hs hby hzc;have hb' :(i.bytes:Int)*(c:Int)≤281474976710656:=by rw [← Int.natCast_mul];omega
  have hr:=run_make (P:=P) w t e i zv ht hi hz kx ky 0 c (by omega) (by omega) hb' (by omega);simp only [Int.toNat_natCast,Int.toNat_zero] at hr;refine ⟨.slice (some ⟨w.heap.size,0,none⟩) 0 c,w.alloc (.cells (madeCells zv.cells (c*i.size)) e),_,rfl,by simp [execOp,ho,hkn x _ hx,hkn y _ hy,hr],(hw.alloc _).own (Nat.zero_le _) (by omega) ?_ ?_⟩
  ·simp [madeCells]
  ·simp
def partsOf (σ:List (Nat × Value)):List (Nat × Operand)→Nat→Option (List Value)
 |[],_=>some []
 |(i,x)::r,j=>match Nat.beq i j,ev σ x,partsOf σ r (j+1) with|true,some v,some vs=>some (v::vs)|_,_,_=>none
theorem foldl_set:∀ (us pre mid post:List Value) (o:Nat) (q:Nat) (cells:Array Value),cells.toList=pre++mid++post→mid.length=us.length→pre.length=q+o →
  (us.zipIdx o).foldl (fun cs (x:Value × Nat)=>cs.setIfInBounds (q+x.2) x.1) cells=(pre++us++post).toArray
 |[],pre,mid,post,o,q,cells,hc,hm,_=>by
  have:mid=[]:=List.eq_nil_of_length_eq_zero (by simpa using hm);subst this
  apply Array.ext';simpa using hc
 |u::us,pre,mid,post,o,q,cells,hc,hm,hp=>by
  match mid,hm with
  |m::mid,hm =>
   simp only [List.zipIdx_cons,List.foldl_cons];rw [foldl_set us (pre++[u]) mid post (o+1) q _ ?_ (by simpa using hm) (by simp;omega)]
   ·simp
   ·rw [Array.toList_setIfInBounds,hc,← hp]
    simp
theorem fill_parts {σ:List (Nat × Value)} {ρ:Operand→Value} (hk:Knows σ ρ) (k:Nat):∀ (l:List (Nat × Operand)) (j:Nat) (vs:List Value) (pre rest:List Value) (cells:Array Value),
  partsOf σ l j=some vs→(∀ v∈vs,v.cells.size=k)→cells.toList=pre++rest→pre.length=j*k→rest.length=l.length*k →
  Instr.fill (fun i=>some (i*k,k)) cells (l.map fun p=>(p.1,ρ p.2))=some (pre++(vs.map (·.cells.toList)).flatten).toArray
 |[],j,vs,pre,rest,cells,h,_,hc,_,hr=>by
  cases h
  have:rest=[]:=List.eq_nil_of_length_eq_zero (by simpa using hr);subst this;simp only [List.map_nil,Instr.fill,List.flatten_nil,List.append_nil] at hc ⊢;rw [← hc]
 |(i,x)::l,j,vs,pre,rest,cells,h,hs,hc,hp,hr=>by
  simp only [partsOf] at h
  split at h
  ·rename_i v us hb hv hus
   cases h
   have:=Nat.eq_of_beq_eq_true hb;subst this;have hvk:v.cells.size=k:=hs v (by simp);have e2:(l.length+1)*k=l.length*k+k:=Nat.succ_mul _ _;simp only [List.length_cons] at hr;have hsz:cells.size=i*k+((l.length+1)*k):=by rw [← Array.length_toList,hc,List.length_append,hp,hr]
   have hf:(v.cells.zipIdx.foldl (fun cs (x:Value × Nat)=>cs.setIfInBounds (i*k+x.2) x.1) cells)=(pre++v.cells.toList++rest.drop k).toArray:=by
    rw [← Array.foldl_toList,Array.toList_zipIdx];refine foldl_set v.cells.toList pre (rest.take k) (rest.drop k) 0 (i*k) cells ?_ ?_ (by simpa using hp)
    ·rw [List.append_assoc,List.take_append_drop];exact hc
    ·simp [hvk];omega
   have h2:¬ (i*k+v.cells.size>cells.size):=by omega
   simp only [List.map_cons,Instr.fill,hk x v hv];rw [if_neg (by simp [hvk];omega)];refine (congrArg (fun c=>Instr.fill _ c _) hf).trans ?_;rw [fill_parts hk k l (i+1) us (pre++v.cells.toList) (rest.drop k) _ hus (fun u hu=>hs u (by simp [hu])) (by simp) (by simp [hp,hvk,Nat.succ_mul]) (by simp;omega)]
   simp
  ·cases h
theorem partsOf_length {σ:List (Nat × Value)}:∀ (l:List (Nat × Operand)) (j:Nat) (vs:List Value),partsOf σ l j=some vs→vs.length=l.length
 |[],_,_,h=>by cases h;rfl
 |(q,x)::l,j,vs,h=>by
  simp only [partsOf] at h
  split at h
  ·rename_i v us _ _ hus;cases h;simp [partsOf_length l _ _ hus]
  ·cases h
theorem length_cellsOf {k:Nat}:∀ vs:List Value,(∀ v∈vs,v.cells.size=k)→((vs.map (·.cells.toList)).flatten).length=vs.length*k
 |[],_=>by simp
 |v::vs,h=>by
  have:=length_cellsOf vs (fun u hu=>h u (by simp [hu]))
  simp [this,h v (by simp),Nat.succ_mul,Nat.add_comm]
theorem DoesE.lit {t e k by_:Nat} {z:List Value} {parts:Array (Nat × Operand)} {vs:List Value} {len:Nat} (ht:P.underlying t=some (.slice e)) (he:elemIs P e k by_ z) (hk:0<k)
  (hp:partsOf σ parts.toList 0=some vs) (hlen:parts.toList.length=len) (hvs:vs.all (fun v=>Nat.beq v.cells.size k)=true) (h24:len*k≤16777216) :
  DoesE P (.buildSlice t len parts) σ g η fun v η' =>η' =Own v k e len (vs.map (·.cells.toList)).flatten::η :=
 fun o ρ w ho hkn hw=>by
  obtain ⟨i,zv,hi,hz,hs,hby,hzc,hzl⟩:=he;subst hs hzc;have hzs:zv.cells.size=i.size:=by simpa using hzl
  have hv' :∀ v∈vs,v.cells.size=i.size:=fun v hv=>Nat.eq_of_beq_eq_true (List.all_eq_true.1 hvs v hv);have h24' :¬ (16777216<len*i.size):=by omega
  have hvl:((vs.map (·.cells.toList)).flatten).length=len*i.size:=by rw [length_cellsOf vs hv',partsOf_length _ _ _ hp,hlen]
  have hmap:(parts.map fun (p:Nat × Operand)=>(p.1,ρ p.2)).toList=parts.toList.map fun p=>(p.1,ρ p.2):=Array.toList_map;have hsz:(sizeOf e).run P w=.ok i.size w:=run_sizeOf (by simp [hi]) w;have hrun:(Instr.buildSlice t len (parts.map fun (p:Nat × Operand)=>(p.1,ρ p.2))).run P w =
    .ok (.slice (some ⟨w.heap.size,0,none⟩) len len) (w.alloc (.cells (vs.map (·.cells.toList)).flatten.toArray e)):=by
   have hf:∀ c:Array Value,c.size=len*i.size→Instr.fill (fun j=>some (j*i.size,i.size)) c (parts.map fun (p:Nat × Operand)=>(p.1,ρ p.2)).toList=some ((vs.map (·.cells.toList)).flatten).toArray:=fun c hc=>by
    rw [hmap];exact fill_parts hkn i.size parts.toList 0 vs [] c.toList c hp hv' rfl (by simp) (by simp [hc,← hlen])
   by_cases h0:len*i.size=0
   ·simp only [Instr.buildSlice,Sem.run_bind,run_underlying ht,Result.andThen_ok,hsz,h0,if_true,Sem.run_pure,Sem.run_ite]
    rw [hf _ (by simp [h0])]
    simp [newRow]
   ·simp only [Instr.buildSlice,Sem.run_bind,run_underlying ht,Result.andThen_ok,hsz,h24',if_false,h0,Sem.run_pure,Sem.run_ite,zeroValue,typeInfo,run_program,hi,hz]
    rw [hf _ (by simp)]
    simp [newRow]
  refine ⟨.slice (some ⟨w.heap.size,0,none⟩) len len,w.alloc (.cells (vs.map (·.cells.toList)).flatten.toArray e),_,rfl,?_,(hw.alloc _).own (Nat.le_refl _) ?_ ?_ ?_⟩
  ·simp only [execOp,ho,Sem.run_bind]
   have:(parts.map fun x=>match x with|(i,x)=>(i,ρ x))=parts.map fun (p:Nat × Operand)=>(p.1,ρ p.2):=rfl;rw [this,hrun];rfl
  ·have:len≤len*i.size:=Nat.le_mul_of_pos_right _ hk
   omega
  ·simpa using hvl
  ·exact List.take_of_length_le (by simpa using Nat.le_of_eq hvl)
theorem run_append_args {o:Oper} {x y:Operand} {ts:Array TypeId} {ρ:Operand→Value} (ho:o.op=.call ⟨.builtin .append,#[x,y],ts⟩) {w w' :World} {v:Value}
  (h:(Builtin.append_ ts o.type #[ρ x,ρ y]).run P w=.ok v w'):(execOp ρ o).run P w=.ok (.value v) w' :=by
 simp [execOp,ho,resolve,invoke,builtin,h]
theorem DoesE.append {t e k by_:Nat} {z:List Value} {x y:Operand} {v u:Value} {m q:Nat} {cs news:List Value} (ht:P.underlying t=some (.slice e)) (he:elemIs P e k by_ z) (hk:0<k)
  (hx:ev σ x=some v) (hy:ev σ y=some u) (hs:Sel η (Own v k e m cs) ζ) (hu:Sl g.h u k q news) (h1:∀ c∈news,c.oneCell' =true) (hb:(m+q)*by_≤140737488355328) (h63:m+q≤9223372036854775807) :
  DoesE P (.call ⟨.builtin .append,#[x,y],#[t,t]⟩) σ g η fun v' η' =>η' =Own v' k e (m+q) (cs++news)::ζ :=
 fun o ρ w ho hkn hw=>by
  obtain ⟨i,zv,hi,hz,hsz,hby,hzc,hzl⟩:=he;subst hsz hby hzc;have hzs:zv.cells.size=i.size:=by simpa using hzl
  obtain ⟨a,cap,rfl,c1,c2,c3,c4⟩:=hu;have hw1:=hw.sel hs
  cases a with
  |none =>
   have hq:news=[]:=by
    cases news with
    |nil=>rfl
    |cons c r=>obtain ⟨p,hp,_⟩:=c4 0 (by simp);cases hp
   subst hq;have hq0:q=0:=by
    have:q*i.size=0:=by rw [← c3];rfl
    rcases Nat.mul_eq_zero.1 this with h|h<;>omega
   subst hq0;have hv:∃ a cap,v=.slice a m cap∧m≤cap:=by
    obtain ⟨_,_,_,_,_,_,_,_,_,_,_,_,hA,_⟩:=hw1
    rcases hA with ⟨_,⟨rfl,rfl⟩|⟨b,cap,cur,rfl,_,h1,_⟩⟩
    ·exact ⟨none,0,rfl,Nat.le_refl _⟩
    ·exact ⟨_,cap,rfl,h1⟩
   obtain ⟨a,cp,rfl,hle⟩:=hv;refine ⟨.slice a m cp,w,_,rfl,run_append_args ho ?_,by simpa using hw1⟩;rw [hkn x _ hx,hkn y _ hy]
   cases a<;>simp [Builtin.append_,run_underlying ht,sizeOf,typeInfo,hi,Builtin.lenOf,Builtin.firstCells,storeCells,hle]
  |some a =>
   have hnews:∀ j u,news[j]?=some u→w.cell? (a.add j)=some u:=fun j u hj=>by
    obtain ⟨hjl,rfl⟩:=List.getElem?_eq_some_iff.1 hj;obtain ⟨p,hp,hc⟩:=c4 j hjl
    cases hp
    exact Fr.cell_mono hw.ground hc
   have hnx:=hkn x _ hx;have hny:=hkn y _ hy;have fresh:∀ (old:Nat),old<m+q→cs.length=m*i.size→Holds (w.drew.alloc (.cells (cs.toArray++news.toArray++Builtin.zeroCells zv.cells (grownCap w (m+q) old e - (m+q))) e)) g
     (Own (.slice (some ⟨w.heap.size,0,none⟩) (m+q) (grownCap w (m+q) old e)) i.size e (m+q) (cs++news)::ζ):=by
    intro old ho hcl
    have hge:=grownCap_ge w (m+q) old e;have hcm:=grownCap_le_maxLen w (m+q) old e (by simpa [maxLen] using h63);have hlen:(cs++news).length=(m+q)*i.size:=by rw [List.length_append,hcl,c3,Nat.add_mul]
    refine (((hw1.drop).drewN _ (Nat.le_add_right _ _)).alloc _).own hge (by simpa [maxLen] using hcm) ?_ ?_
    ·simp only [Array.size_append,List.size_toArray,size_zeroCells,hzs,hcl,c3,← Nat.add_mul]
     congr 1
     omega
    ·simp only [Array.toList_append,List.append_assoc]
     rw [← List.append_assoc,← hlen];exact List.take_left
   obtain ⟨hA,hA'⟩:cs.length=m*i.size∧((v=.slice none 0 0∧m=0)∨∃ b cap cur,v=.slice (some ⟨b,0,none⟩) m cap∧m≤cap∧cap≤9223372036854775807∧cur.size=cap*i.size∧cur.toList.take (m*i.size)=cs ∧
     ∃ fz,Thawed fz (cap*i.size)∧Holds w g (blk b (.cells cur e fz)::ζ)):=by
    obtain ⟨p1,p2,p3,K,hd,s1,s2,k1,k2,kd,t1,t2,⟨hl,hA⟩,hr⟩:=hw1;refine ⟨hl,hA.imp id ?_⟩;rintro ⟨b,cap,cur,rfl,⟨fz,hbk,hz⟩,h1,h2,h3,h4⟩;exact ⟨b,cap,cur,rfl,h1,h2,h3,h4,fz,hz,p1,p2,p3,K,hd,s1,s2,k1,k2,kd,t1,t2,hbk,hr⟩
   rcases hA' with ⟨rfl,rfl⟩|⟨b,cp,cur,rfl,h1',h2',h3',h4',fz,hfz,hwb⟩
   ·have hcs:cs=[]:=List.eq_nil_of_length_eq_zero (by simpa using hA)
    subst hcs
    by_cases hq:q=0
    ·subst hq
     have hn:news=[]:=List.eq_nil_of_length_eq_zero (by simpa using c3);subst hn;refine ⟨.slice none 0 0,w,_,rfl,run_append_args ho ?_,by simpa using hw1⟩;rw [hnx,hny]
     simp [Builtin.append_,run_underlying ht,sizeOf,typeInfo,hi,Builtin.lenOf,Builtin.firstCells,loadCells,loadCellsFrom]
    ·have hr:=run_append_nil (P:=P) w t o.type e i zv ht hi hz a q cap news c3 hnews (by omega) (by omega) (by have hb:=hb;simp only [Nat.zero_add] at hb;omega)
     have hf:=fresh 0 (by omega) (by simp);simp only [Nat.zero_add,List.nil_append,Array.empty_append] at hf ⊢;exact ⟨_,_,_,rfl,run_append_args ho (by rw [hnx,hny];exact hr),hf⟩
   ·by_cases hroom:m+q≤cp
    ·have hfit:m*i.size+news.length≤cur.size:=by rw [c3,h3',← Nat.add_mul];exact Nat.mul_le_mul_right _ hroom
     have hr:=run_append_roomZ (P:=P) w t o.type e i ht hi b m cp cur hwb.block (by rw [h3'];exact hfz) a q cap news c3 hnews h1 hroom hfit;refine ⟨_,_,_,rfl,run_append_args ho (by rw [hnx,hny];exact hr),hwb.setRow.ownF hfz hroom h2' ?_ ?_⟩
     ·simp only [List.size_toArray,List.length_append,List.length_take,List.length_drop,Array.length_toList]
      omega
     ·have hlen:(cs++news).length=(m+q)*i.size:=by rw [List.length_append,hA,c3,Nat.add_mul]
      rw [h4',← hlen];exact List.take_left
    ·have holds:∀ j u,cs[j]?=some u→w.cell? ((⟨b,0,none⟩:Addr).add j)=some u:=fun j u hj=>by
      have hb0:=hwb.block;rw [add_lit,Nat.zero_add];have hjl:=(List.getElem?_eq_some_iff.1 hj).1;rw [← h4',List.getElem?_take_of_lt (by omega)] at hj
      simpa [World.cell?,hb0] using hj
     have hr:=run_append_grow (P:=P) w t o.type e i zv ht hi hz ⟨b,0,none⟩ m cp cs hA holds a q cap news c3 hnews (by omega) (by omega) (growslice_fits (by omega) hb);exact ⟨_,_,_,rfl,run_append_args ho (by rw [hnx,hny];exact hr),fresh cp (by omega) hA⟩
end
end Go.Sp
end
