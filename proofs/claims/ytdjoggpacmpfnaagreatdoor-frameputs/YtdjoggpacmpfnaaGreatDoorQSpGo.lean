/- Texts of this proof, one behind the other. -/
import Derived.Test.YtdjoggpacmpfnaaGreatDoorQSpLent
import Derived.Laws.IdiomRangeMap
import Derived.Laws.Externs
import Derived.KernelRfl
section
/- Texts of this proof. -/
set_option linter.unusedVariables false
namespace Go.Sp
structure f_ where
 u8:TypeId
 int:TypeId
 bytes:TypeId
 dot:TypeId
 mV:TypeId
 leaf:TypeId
 stub:TypeId
 node:TypeId
 prf:TypeId
 root:TypeId
 af4:TypeId
 af5:TypeId
 held:TypeId
def byteOf (z:Int):UInt8:=UInt8.ofNat (z % 256).toNat
theorem w6 (z:Int):Value.int .u8 (IntKind.u8.wrap z)=aT (byteOf z):=by
 rw [aT,Ql];have:((byteOf z).toNat:Int)=z % 256:=by simp [byteOf];omega
 rw [this]
def o8 (k i:Int):Int:=1000003*(k+7)+i
def c_ (k i:Int):UInt8:=byteOf ((IntKind.u64.wrap (IntKind.u64.wrap (o8 k i)*11400714819323198485)).fdiv (2 ^ min (56:Int).toNat IntKind.u64.bits))
def gR (k i:Int):List UInt8:=[35,byteOf k,byteOf (k.fdiv (2 ^ min (8:Int).toNat IntKind.i64.bits)),byteOf (k.fdiv (2 ^ min (16:Int).toNat IntKind.i64.bits)),47,byteOf i,byteOf (i.fdiv (2 ^ min (8:Int).toNat IntKind.i64.bits)),byteOf (i.fdiv (2 ^ min (16:Int).toNat IntKind.i64.bits))]
@[simp] theorem ahE (k i:Int):(gR k i).length=8:=rfl
abbrev nK (n:Nat):List UInt8:=iS (c_ 1) n
theorem Y4 (n:Nat):(nK n).length=n:=by simp
theorem Y5 (n:Nat):nK n++[c_ 1 (n:Int)]=nK (n+1):=AN _ n
abbrev vz (e:TypeId) (v:Value) (xs:List UInt8):az:=jg ag.u8 e (c_ 1) v xs
abbrev Eo (h:Fr) (v:Value) (xs:List UInt8):Prop:=kF ag.u8 (c_ 1) h v xs
def iW (k:Int):Prop:=0≤k∧k≤1000000000000
theorem N1 {k i:Int} (hk:iW k) (hi:iW i):aS (o8 k i):=by
 obtain ⟨h1,h2⟩:=hk;obtain ⟨h3,h4⟩:=hi;unfold o8
 constructor<;>omega
abbrev dB:Type:=Int × Int × Unit
abbrev cU:ag dB:=ag.prod ag.i64 (ag.prod ag.i64 (ag.unit))
def lN (k i:Int):dB:=(0,o8 k i,())
theorem cU.open {h:Fr} {cs:List Value} {x:dB} (r:cU.rel h cs x):cs=[.int .i64 x.1,.int .i64 x.2.1]∧aS x.1∧aS x.2.1:=by
 obtain ⟨c0,d0,rfl,gq,r⟩:=r;obtain ⟨c1,d1,rfl,r1,r⟩:=r;obtain rfl:d1=[]:=r;obtain ⟨rfl,h0⟩:=gq;obtain ⟨rfl,h1⟩:=r1;exact ⟨rfl,h0,h1⟩
theorem cU.mk {h:Fr} {x0:Int} {x1:Int} (h0:aS x0) (h1:aS x1):cU.rel h [.int .i64 x0,.int .i64 x1] (x0,x1,()) :=
 ⟨[.int .i64 x0],[.int .i64 x1],rfl,⟨rfl,h0⟩,⟨[.int .i64 x1],[],rfl,⟨rfl,h1⟩,rfl⟩⟩
theorem aae:cU.Pure:=fun _ _ _ h=>h
abbrev aV:Type:=(List UInt8) × Int × Int × (List dB) × Bool × (List UInt8) × (List UInt8) × Unit
abbrev bu:ag aV:=ag.prod ag.str (ag.prod ag.i64 (ag.prod ag.i64 (ag.prod (ag.slice cU) (ag.prod ag.bool (ag.prod (ag.slice ag.u8) (ag.prod (ag.slice ag.u8) (ag.unit)))))))
def mT (k i:Int):aV:=([],0,o8 k i,[],false,[],[],())
theorem bu.open {h:Fr} {cs:List Value} {x:aV} (r:bu.rel h cs x):∃ v3 iq v6,cs=[.string (str x.1),.int .i64 x.2.1,.int .i64 x.2.2.1,v3,.bool x.2.2.2.2.1,iq,v6]∧x.1.length≤9223372036854775807∧aS x.2.1∧aS x.2.2.1∧av cU h v3 x.2.2.2.1∧av ag.u8 h iq x.2.2.2.2.2.1∧av ag.u8 h v6 x.2.2.2.2.2.2.1:=by
 obtain ⟨c0,d0,rfl,gq,r⟩:=r;obtain ⟨c1,d1,rfl,r1,r⟩:=r;obtain ⟨c2,d2,rfl,r2,r⟩:=r;obtain ⟨c3,d3,rfl,gV,r⟩:=r;obtain ⟨bR,d4,rfl,qZ,r⟩:=r;obtain ⟨cD,d5,rfl,q2,r⟩:=r;obtain ⟨cB,d6,rfl,p6,r⟩:=r;obtain rfl:d6=[]:=r;obtain ⟨rfl,h0⟩:=gq;obtain ⟨rfl,h1⟩:=r1;obtain ⟨rfl,h2⟩:=r2;obtain ⟨v3,rfl,h3⟩:=gV;obtain rfl:bR=[.bool x.2.2.2.2.1]:=qZ;obtain ⟨iq,rfl,h5⟩:=q2;obtain ⟨v6,rfl,h6⟩:=p6;exact ⟨v3,iq,v6,rfl,h0,h1,h2,h3,h5,h6⟩
theorem bu.sh {h:Fr} {cs:List Value} {x:aV} (r:bu.rel h cs x):∃ a3 a5 a6 c3 cD cB,cs=[.string (str x.1),.int .i64 x.2.1,.int .i64 x.2.2.1,.slice a3 x.2.2.2.1.length c3,.bool x.2.2.2.2.1,.slice a5 x.2.2.2.2.2.1.length cD,.slice a6 x.2.2.2.2.2.2.1.length cB]∧x.1.length≤9223372036854775807∧aS x.2.1∧aS x.2.2.1∧av cU h (.slice a3 x.2.2.2.1.length c3) x.2.2.2.1∧av ag.u8 h (.slice a5 x.2.2.2.2.2.1.length cD) x.2.2.2.2.2.1∧av ag.u8 h (.slice a6 x.2.2.2.2.2.2.1.length cB) x.2.2.2.2.2.2.1:=by
 obtain ⟨v3,iq,v6,rfl,h0,h1,h2,h3,h5,h6⟩:=bu.open r;obtain ⟨a3,c3,rfl⟩:=h3.shape;obtain ⟨a5,cD,rfl⟩:=h5.shape;obtain ⟨a6,cB,rfl⟩:=h6.shape;exact ⟨a3,a5,a6,c3,cD,cB,rfl,h0,h1,h2,h3,h5,h6⟩
theorem bu.mk {h:Fr} {x0:List UInt8} {x1:Int} {bC:Int} {c8:List dB} {v3:Value} {cr:Bool} {dn:List UInt8} {iq:Value} {dr:List UInt8} {v6:Value} (h0:x0.length≤9223372036854775807) (h1:aS x1) (h2:aS bC) (h3:av cU h v3 c8) (h5:av ag.u8 h iq dn) (h6:av ag.u8 h v6 dr):bu.rel h [.string (str x0),.int .i64 x1,.int .i64 bC,v3,.bool cr,iq,v6] (x0,x1,bC,c8,cr,dn,dr,()) :=
 ⟨[.string (str x0)],[.int .i64 x1,.int .i64 bC,v3,.bool cr,iq,v6],rfl,⟨rfl,h0⟩,⟨[.int .i64 x1],[.int .i64 bC,v3,.bool cr,iq,v6],rfl,⟨rfl,h1⟩,⟨[.int .i64 bC],[v3,.bool cr,iq,v6],rfl,⟨rfl,h2⟩,⟨[v3],[.bool cr,iq,v6],rfl,⟨v3,rfl,h3⟩,⟨[.bool cr],[iq,v6],rfl,rfl,⟨[iq],[v6],rfl,⟨iq,rfl,h5⟩,⟨[v6],[],rfl,⟨v6,rfl,h6⟩,rfl⟩⟩⟩⟩⟩⟩⟩
abbrev vA (aL:f_):aQ aV:=aQ.prod (aQ.pure ag.str) (aQ.prod (aQ.pure ag.i64) (aQ.prod (aQ.pure ag.i64) (aQ.prod (aQ.row cU aL.dot) (aQ.prod (aQ.pure ag.bool) (aQ.prod (aQ.row ag.u8 aL.u8) (aQ.prod (aQ.row ag.u8 aL.u8) (aQ.unit)))))))
abbrev gj (aL:f_):aM aV:=aM.prod (aM.pure ag.str) (aM.prod (aM.pure ag.i64) (aM.prod (aM.pure ag.i64) (aM.prod (aM.flat cU aL.dot (lN 1)) (aM.prod (aM.pure ag.bool) (aM.prod (aM.flat ag.u8 aL.u8 (c_ 1)) (aM.prod (aM.flat ag.u8 aL.u8 (c_ 1)) (aM.unit)))))))
theorem gj.mk {aL:f_} {m:Fr} {x0:List UInt8} {x1:Int} {bC:Int} {c8:List dB} {v3:Value} {cr:Bool} {dn:List UInt8} {iq:Value} {dr:List UInt8} {v6:Value} (h0:x0.length≤9223372036854775807) (h1:aS x1) (h2:aS bC) (s:Sat [jg cU aL.dot (lN 1) v3 c8,jg ag.u8 aL.u8 (c_ 1) iq dn,jg ag.u8 aL.u8 (c_ 1) v6 dr] m):(aM.prod (aM.pure ag.str) (aM.prod (aM.pure ag.i64) (aM.prod (aM.pure ag.i64) (aM.prod (aM.flat cU aL.dot (lN 1)) (aM.prod (aM.pure ag.bool) (aM.prod (aM.flat ag.u8 aL.u8 (c_ 1)) (aM.prod (aM.flat ag.u8 aL.u8 (c_ 1)) (aM.unit)))))))).own [.string (str x0),.int .i64 x1,.int .i64 bC,v3,.bool cr,iq,v6] (x0,x1,bC,c8,cr,dn,dr,()) m :=
 aM.kx (T:=ag.str) (c:=[.string (str x0)]) ⟨rfl,h0⟩ (aM.kx (T:=ag.i64) (c:=[.int .i64 x1]) ⟨rfl,h1⟩<|aM.kx (T:=ag.i64) (c:=[.int .i64 bC]) ⟨rfl,h2⟩<|aM.j6 (A:=(aM.flat cU aL.dot (lN 1))) (c:=[v3]) (fun _ o=>⟨_,rfl,o⟩)<|aM.kx (T:=ag.bool) (c:=[.bool cr]) rfl<|aM.j6 (A:=(aM.flat ag.u8 aL.u8 (c_ 1))) (c:=[iq]) (fun _ o=>⟨_,rfl,o⟩)<|aM.j6 (A:=(aM.flat ag.u8 aL.u8 (c_ 1))) (c:=[v6]) (fun _ o=>⟨_,rfl,o⟩)<|fun _ _=>rfl) m s
theorem gj.lO {aL:f_} {h:Fr} {cs:List Value} {x:aV} (r:(gj aL).rd h cs x):∃ v3 iq v6,cs=[.string (str x.1),.int .i64 x.2.1,.int .i64 x.2.2.1,v3,.bool x.2.2.2.2.1,iq,v6]∧x.1.length≤9223372036854775807∧aS x.2.1∧aS x.2.2.1∧kF cU (lN 1) h v3 x.2.2.2.1∧kF ag.u8 (c_ 1) h iq x.2.2.2.2.2.1∧kF ag.u8 (c_ 1) h v6 x.2.2.2.2.2.2.1:=by
 obtain ⟨c0,d0,rfl,gq,r⟩:=r;obtain ⟨c1,d1,rfl,r1,r⟩:=r;obtain ⟨c2,d2,rfl,r2,r⟩:=r;obtain ⟨c3,d3,rfl,gV,r⟩:=r;obtain ⟨bR,d4,rfl,qZ,r⟩:=r;obtain ⟨cD,d5,rfl,q2,r⟩:=r;obtain ⟨cB,d6,rfl,p6,r⟩:=r;obtain rfl:d6=[]:=r;obtain ⟨rfl,h0⟩:=gq;obtain ⟨rfl,h1⟩:=r1;obtain ⟨rfl,h2⟩:=r2;obtain ⟨v3,rfl,h3⟩:=gV;obtain rfl:bR=[.bool x.2.2.2.2.1]:=qZ;obtain ⟨iq,rfl,h5⟩:=q2;obtain ⟨v6,rfl,h6⟩:=p6;exact ⟨v3,iq,v6,rfl,h0,h1,h2,h3,h5,h6⟩
def lB (N:Nat) (x:aV):Prop:=x.1.length≤N∧x.2.2.2.1.length≤N∧x.2.2.2.2.2.1.length≤N∧x.2.2.2.2.2.2.1.length≤N
theorem lB.mono {N M:Nat} {x:aV} (mL:N≤M) (h:lB N x):lB M x:=by
 obtain ⟨h0,h1,h2,h3⟩:=h;exact ⟨Nat.le_trans h0 mL,Nat.le_trans h1 mL,Nat.le_trans h2 mL,Nat.le_trans h3 mL⟩
abbrev eL:Type:=(List UInt8) × (List aV) × Unit
abbrev dJ:ag eL:=ag.prod ag.str (ag.prod (ag.slice bu) (ag.unit))
def qU (k i:Int):eL:=(gR k i,[],())
theorem dJ.open {h:Fr} {cs:List Value} {x:eL} (r:dJ.rel h cs x):∃ v1,cs=[.string (str x.1),v1]∧x.1.length≤9223372036854775807∧av bu h v1 x.2.1:=by
 obtain ⟨c0,d0,rfl,gq,r⟩:=r;obtain ⟨c1,d1,rfl,r1,r⟩:=r;obtain rfl:d1=[]:=r;obtain ⟨rfl,h0⟩:=gq;obtain ⟨v1,rfl,h1⟩:=r1;exact ⟨v1,rfl,h0,h1⟩
theorem dJ.sh {h:Fr} {cs:List Value} {x:eL} (r:dJ.rel h cs x):∃ a1 c1,cs=[.string (str x.1),.slice a1 x.2.1.length c1]∧x.1.length≤9223372036854775807∧av bu h (.slice a1 x.2.1.length c1) x.2.1:=by
 obtain ⟨v1,rfl,h0,h1⟩:=dJ.open r;obtain ⟨a1,c1,rfl⟩:=h1.shape;exact ⟨a1,c1,rfl,h0,h1⟩
theorem dJ.mk {h:Fr} {x0:List UInt8} {x1:List aV} {v1:Value} (h0:x0.length≤9223372036854775807) (h1:av bu h v1 x1):dJ.rel h [.string (str x0),v1] (x0,x1,()) :=
 ⟨[.string (str x0)],[v1],rfl,⟨rfl,h0⟩,⟨[v1],[],rfl,⟨v1,rfl,h1⟩,rfl⟩⟩
abbrev vw (aL:f_):aQ eL:=aQ.prod (aQ.pure ag.str) (aQ.prod (aQ.list (vA aL) aL.mV) (aQ.unit))
abbrev iv (aL:f_):aM eL:=aM.prod (aM.pure ag.str) (aM.prod (aM.list (gj aL) aL.mV (mT 1)) (aM.unit))
theorem iv.mk {aL:f_} {m:Fr} {x0:List UInt8} {x1:List aV} {v1:Value} (h0:x0.length≤9223372036854775807) (s:Sat [iI (gj aL) aL.mV (mT 1) v1 x1] m):(aM.prod (aM.pure ag.str) (aM.prod (aM.list (gj aL) aL.mV (mT 1)) (aM.unit))).own [.string (str x0),v1] (x0,x1,()) m :=
 aM.kx (T:=ag.str) (c:=[.string (str x0)]) ⟨rfl,h0⟩ (aM.j6 (A:=(aM.list (gj aL) aL.mV (mT 1))) (c:=[v1]) (fun _ o=>⟨_,rfl,o⟩)<|fun _ _=>rfl) m s
theorem iv.lO {aL:f_} {h:Fr} {cs:List Value} {x:eL} (r:(iv aL).rd h cs x):∃ v1,cs=[.string (str x.1),v1]∧x.1.length≤9223372036854775807∧mC (gj aL) (mT 1) h v1 x.2.1:=by
 obtain ⟨c0,d0,rfl,gq,r⟩:=r;obtain ⟨c1,d1,rfl,r1,r⟩:=r;obtain rfl:d1=[]:=r;obtain ⟨rfl,h0⟩:=gq;obtain ⟨v1,rfl,h1⟩:=r1;exact ⟨v1,rfl,h0,h1⟩
def py (N:Nat) (x:eL):Prop:=x.1.length≤N∧(x.2.1.length≤N∧∀ y∈x.2.1,lB N y)
theorem py.mono {N M:Nat} {x:eL} (mL:N≤M) (h:py N x):py M x:=by
 obtain ⟨h0,h1⟩:=h;exact ⟨Nat.le_trans h0 mL,⟨Nat.le_trans h1.1 mL,fun y hy=>(lB.mono mL (h1.2 y hy))⟩⟩
abbrev gv:Type:=(List UInt8) × (List UInt8) × Unit
abbrev dZ:ag gv:=ag.prod ag.str (ag.prod (ag.slice ag.u8) (ag.unit))
def qV (k i:Int):gv:=(gR k i,[],())
theorem dZ.open {h:Fr} {cs:List Value} {x:gv} (r:dZ.rel h cs x):∃ v1,cs=[.string (str x.1),v1]∧x.1.length≤9223372036854775807∧av ag.u8 h v1 x.2.1:=by
 obtain ⟨c0,d0,rfl,gq,r⟩:=r;obtain ⟨c1,d1,rfl,r1,r⟩:=r;obtain rfl:d1=[]:=r;obtain ⟨rfl,h0⟩:=gq;obtain ⟨v1,rfl,h1⟩:=r1;exact ⟨v1,rfl,h0,h1⟩
theorem dZ.sh {h:Fr} {cs:List Value} {x:gv} (r:dZ.rel h cs x):∃ a1 c1,cs=[.string (str x.1),.slice a1 x.2.1.length c1]∧x.1.length≤9223372036854775807∧av ag.u8 h (.slice a1 x.2.1.length c1) x.2.1:=by
 obtain ⟨v1,rfl,h0,h1⟩:=dZ.open r;obtain ⟨a1,c1,rfl⟩:=h1.shape;exact ⟨a1,c1,rfl,h0,h1⟩
theorem dZ.mk {h:Fr} {x0:List UInt8} {x1:List UInt8} {v1:Value} (h0:x0.length≤9223372036854775807) (h1:av ag.u8 h v1 x1):dZ.rel h [.string (str x0),v1] (x0,x1,()) :=
 ⟨[.string (str x0)],[v1],rfl,⟨rfl,h0⟩,⟨[v1],[],rfl,⟨v1,rfl,h1⟩,rfl⟩⟩
abbrev vD (aL:f_):aQ gv:=aQ.prod (aQ.pure ag.str) (aQ.prod (aQ.row ag.u8 aL.u8) (aQ.unit))
abbrev iw (aL:f_):aM gv:=aM.prod (aM.pure ag.str) (aM.prod (aM.flat ag.u8 aL.u8 (c_ 1)) (aM.unit))
theorem iw.mk {aL:f_} {m:Fr} {x0:List UInt8} {x1:List UInt8} {v1:Value} (h0:x0.length≤9223372036854775807) (s:Sat [jg ag.u8 aL.u8 (c_ 1) v1 x1] m):(aM.prod (aM.pure ag.str) (aM.prod (aM.flat ag.u8 aL.u8 (c_ 1)) (aM.unit))).own [.string (str x0),v1] (x0,x1,()) m :=
 aM.kx (T:=ag.str) (c:=[.string (str x0)]) ⟨rfl,h0⟩ (aM.j6 (A:=(aM.flat ag.u8 aL.u8 (c_ 1))) (c:=[v1]) (fun _ o=>⟨_,rfl,o⟩)<|fun _ _=>rfl) m s
theorem iw.lO {aL:f_} {h:Fr} {cs:List Value} {x:gv} (r:(iw aL).rd h cs x):∃ v1,cs=[.string (str x.1),v1]∧x.1.length≤9223372036854775807∧kF ag.u8 (c_ 1) h v1 x.2.1:=by
 obtain ⟨c0,d0,rfl,gq,r⟩:=r;obtain ⟨c1,d1,rfl,r1,r⟩:=r;obtain rfl:d1=[]:=r;obtain ⟨rfl,h0⟩:=gq;obtain ⟨v1,rfl,h1⟩:=r1;exact ⟨v1,rfl,h0,h1⟩
def sQ (N:Nat) (x:gv):Prop:=x.1.length≤N∧x.2.1.length≤N
theorem sQ.mono {N M:Nat} {x:gv} (mL:N≤M) (h:sQ N x):sQ M x:=by
 obtain ⟨h0,h1⟩:=h;exact ⟨Nat.le_trans h0 mL,Nat.le_trans h1 mL⟩
abbrev eY:Type:=UInt8 × (List UInt8) × (List UInt8) × (List eL) × Unit
abbrev fj:ag eY:=ag.prod ag.u8 (ag.prod (ag.slice ag.u8) (ag.prod (ag.slice ag.u8) (ag.prod (ag.slice dJ) (ag.unit))))
theorem fj.open {h:Fr} {cs:List Value} {x:eY} (r:fj.rel h cs x):∃ v1 v2 v3,cs=[aT x.1,v1,v2,v3]∧av ag.u8 h v1 x.2.1∧av ag.u8 h v2 x.2.2.1∧av dJ h v3 x.2.2.2.1:=by
 obtain ⟨c0,d0,rfl,gq,r⟩:=r;obtain ⟨c1,d1,rfl,r1,r⟩:=r;obtain ⟨c2,d2,rfl,r2,r⟩:=r;obtain ⟨c3,d3,rfl,gV,r⟩:=r;obtain rfl:d3=[]:=r;obtain rfl:c0=[aT x.1]:=gq;obtain ⟨v1,rfl,h1⟩:=r1;obtain ⟨v2,rfl,h2⟩:=r2;obtain ⟨v3,rfl,h3⟩:=gV;exact ⟨v1,v2,v3,rfl,h1,h2,h3⟩
theorem fj.sh {h:Fr} {cs:List Value} {x:eY} (r:fj.rel h cs x):∃ a1 a2 a3 c1 c2 c3,cs=[aT x.1,.slice a1 x.2.1.length c1,.slice a2 x.2.2.1.length c2,.slice a3 x.2.2.2.1.length c3]∧av ag.u8 h (.slice a1 x.2.1.length c1) x.2.1∧av ag.u8 h (.slice a2 x.2.2.1.length c2) x.2.2.1∧av dJ h (.slice a3 x.2.2.2.1.length c3) x.2.2.2.1:=by
 obtain ⟨v1,v2,v3,rfl,h1,h2,h3⟩:=fj.open r;obtain ⟨a1,c1,rfl⟩:=h1.shape;obtain ⟨a2,c2,rfl⟩:=h2.shape;obtain ⟨a3,c3,rfl⟩:=h3.shape;exact ⟨a1,a2,a3,c1,c2,c3,rfl,h1,h2,h3⟩
theorem fj.mk {h:Fr} {x0:UInt8} {x1:List UInt8} {v1:Value} {bC:List UInt8} {v2:Value} {c8:List eL} {v3:Value} (h1:av ag.u8 h v1 x1) (h2:av ag.u8 h v2 bC) (h3:av dJ h v3 c8):fj.rel h [aT x0,v1,v2,v3] (x0,x1,bC,c8,()) :=
 ⟨[aT x0],[v1,v2,v3],rfl,rfl,⟨[v1],[v2,v3],rfl,⟨v1,rfl,h1⟩,⟨[v2],[v3],rfl,⟨v2,rfl,h2⟩,⟨[v3],[],rfl,⟨v3,rfl,h3⟩,rfl⟩⟩⟩⟩
abbrev y_ (aL:f_):aQ eY:=aQ.prod (aQ.pure ag.u8) (aQ.prod (aQ.row ag.u8 aL.u8) (aQ.prod (aQ.row ag.u8 aL.u8) (aQ.prod (aQ.list (vw aL) aL.leaf) (aQ.unit))))
abbrev m8 (aL:f_):aM eY:=aM.prod (aM.pure ag.u8) (aM.prod (aM.flat ag.u8 aL.u8 (c_ 1)) (aM.prod (aM.flat ag.u8 aL.u8 (c_ 1)) (aM.prod (aM.list (iv aL) aL.leaf (qU 1)) (aM.unit))))
theorem y_.mk {aL:f_} {m:Fr} {x0:UInt8} {x1:List UInt8} {v1:Value} {bC:List UInt8} {v2:Value} {c8:List eL} {v3:Value}  (s:Sat [ak ag.u8 aL.u8 v1 x1,ak ag.u8 aL.u8 v2 bC,kW (vw aL) aL.leaf v3 c8] m):(aQ.prod (aQ.pure ag.u8) (aQ.prod (aQ.row ag.u8 aL.u8) (aQ.prod (aQ.row ag.u8 aL.u8) (aQ.prod (aQ.list (vw aL) aL.leaf) (aQ.unit))))).own [aT x0,v1,v2,v3] (x0,x1,bC,c8,()) m :=
 aQ.kx (T:=ag.u8) (c:=[aT x0]) rfl (aQ.j6 (A:=(aQ.row ag.u8 aL.u8)) (c:=[v1]) (fun _ o=>⟨_,rfl,o⟩)<|aQ.j6 (A:=(aQ.row ag.u8 aL.u8)) (c:=[v2]) (fun _ o=>⟨_,rfl,o⟩)<|aQ.j6 (A:=(aQ.list (vw aL) aL.leaf)) (c:=[v3]) (fun _ o=>⟨_,rfl,o⟩)<|fun _ _=>rfl) m s
theorem m8.mk {aL:f_} {m:Fr} {x0:UInt8} {x1:List UInt8} {v1:Value} {bC:List UInt8} {v2:Value} {c8:List eL} {v3:Value}  (s:Sat [jg ag.u8 aL.u8 (c_ 1) v1 x1,jg ag.u8 aL.u8 (c_ 1) v2 bC,iI (iv aL) aL.leaf (qU 1) v3 c8] m):(aM.prod (aM.pure ag.u8) (aM.prod (aM.flat ag.u8 aL.u8 (c_ 1)) (aM.prod (aM.flat ag.u8 aL.u8 (c_ 1)) (aM.prod (aM.list (iv aL) aL.leaf (qU 1)) (aM.unit))))).own [aT x0,v1,v2,v3] (x0,x1,bC,c8,()) m :=
 aM.kx (T:=ag.u8) (c:=[aT x0]) rfl (aM.j6 (A:=(aM.flat ag.u8 aL.u8 (c_ 1))) (c:=[v1]) (fun _ o=>⟨_,rfl,o⟩)<|aM.j6 (A:=(aM.flat ag.u8 aL.u8 (c_ 1))) (c:=[v2]) (fun _ o=>⟨_,rfl,o⟩)<|aM.j6 (A:=(aM.list (iv aL) aL.leaf (qU 1))) (c:=[v3]) (fun _ o=>⟨_,rfl,o⟩)<|fun _ _=>rfl) m s
theorem m8.lO {aL:f_} {h:Fr} {cs:List Value} {x:eY} (r:(m8 aL).rd h cs x):∃ v1 v2 v3,cs=[aT x.1,v1,v2,v3]∧kF ag.u8 (c_ 1) h v1 x.2.1∧kF ag.u8 (c_ 1) h v2 x.2.2.1∧mC (iv aL) (qU 1) h v3 x.2.2.2.1:=by
 obtain ⟨c0,d0,rfl,gq,r⟩:=r;obtain ⟨c1,d1,rfl,r1,r⟩:=r;obtain ⟨c2,d2,rfl,r2,r⟩:=r;obtain ⟨c3,d3,rfl,gV,r⟩:=r;obtain rfl:d3=[]:=r;obtain rfl:c0=[aT x.1]:=gq;obtain ⟨v1,rfl,h1⟩:=r1;obtain ⟨v2,rfl,h2⟩:=r2;obtain ⟨v3,rfl,h3⟩:=gV;exact ⟨v1,v2,v3,rfl,h1,h2,h3⟩
def KK (N:Nat) (x:eY):Prop:=x.2.1.length≤N∧x.2.2.1.length≤N∧(x.2.2.2.1.length≤N∧∀ y∈x.2.2.2.1,py N y)
abbrev fT:Type:=(List (List UInt8)) × (List gv) × Unit
abbrev fB:ag fT:=ag.prod (ag.slice (ag.slice ag.u8)) (ag.prod (ag.slice dZ) (ag.unit))
theorem fB.open {h:Fr} {cs:List Value} {x:fT} (r:fB.rel h cs x):∃ v0 v1,cs=[v0,v1]∧av (ag.slice ag.u8) h v0 x.1∧av dZ h v1 x.2.1:=by
 obtain ⟨c0,d0,rfl,gq,r⟩:=r;obtain ⟨c1,d1,rfl,r1,r⟩:=r;obtain rfl:d1=[]:=r;obtain ⟨v0,rfl,h0⟩:=gq;obtain ⟨v1,rfl,h1⟩:=r1;exact ⟨v0,v1,rfl,h0,h1⟩
theorem fB.sh {h:Fr} {cs:List Value} {x:fT} (r:fB.rel h cs x):∃ a0 a1 c0 c1,cs=[.slice a0 x.1.length c0,.slice a1 x.2.1.length c1]∧av (ag.slice ag.u8) h (.slice a0 x.1.length c0) x.1∧av dZ h (.slice a1 x.2.1.length c1) x.2.1:=by
 obtain ⟨v0,v1,rfl,h0,h1⟩:=fB.open r;obtain ⟨a0,c0,rfl⟩:=h0.shape;obtain ⟨a1,c1,rfl⟩:=h1.shape;exact ⟨a0,a1,c0,c1,rfl,h0,h1⟩
theorem fB.mk {h:Fr} {x0:List (List UInt8)} {v0:Value} {x1:List gv} {v1:Value} (h0:av (ag.slice ag.u8) h v0 x0) (h1:av dZ h v1 x1):fB.rel h [v0,v1] (x0,x1,()) :=
 ⟨[v0],[v1],rfl,⟨v0,rfl,h0⟩,⟨[v1],[],rfl,⟨v1,rfl,h1⟩,rfl⟩⟩
abbrev za (aL:f_):aQ fT:=aQ.prod (aQ.list (aQ.row ag.u8 aL.u8) aL.bytes) (aQ.prod (aQ.list (vD aL) aL.stub) (aQ.unit))
abbrev m9 (aL:f_):aM fT:=aM.prod (aM.list (aM.flat ag.u8 aL.u8 (c_ 1)) aL.bytes (gR 1)) (aM.prod (aM.list (iw aL) aL.stub (qV 1)) (aM.unit))
theorem za.mk {aL:f_} {m:Fr} {x0:List (List UInt8)} {v0:Value} {x1:List gv} {v1:Value}  (s:Sat [kW (aQ.row ag.u8 aL.u8) aL.bytes v0 x0,kW (vD aL) aL.stub v1 x1] m):(aQ.prod (aQ.list (aQ.row ag.u8 aL.u8) aL.bytes) (aQ.prod (aQ.list (vD aL) aL.stub) (aQ.unit))).own [v0,v1] (x0,x1,()) m :=
 aQ.j6 (A:=(aQ.list (aQ.row ag.u8 aL.u8) aL.bytes)) (c:=[v0]) (fun _ o=>⟨_,rfl,o⟩) (aQ.j6 (A:=(aQ.list (vD aL) aL.stub)) (c:=[v1]) (fun _ o=>⟨_,rfl,o⟩)<|fun _ _=>rfl) m s
theorem m9.mk {aL:f_} {m:Fr} {x0:List (List UInt8)} {v0:Value} {x1:List gv} {v1:Value}  (s:Sat [iI (aM.flat ag.u8 aL.u8 (c_ 1)) aL.bytes (gR 1) v0 x0,iI (iw aL) aL.stub (qV 1) v1 x1] m):(aM.prod (aM.list (aM.flat ag.u8 aL.u8 (c_ 1)) aL.bytes (gR 1)) (aM.prod (aM.list (iw aL) aL.stub (qV 1)) (aM.unit))).own [v0,v1] (x0,x1,()) m :=
 aM.j6 (A:=(aM.list (aM.flat ag.u8 aL.u8 (c_ 1)) aL.bytes (gR 1))) (c:=[v0]) (fun _ o=>⟨_,rfl,o⟩) (aM.j6 (A:=(aM.list (iw aL) aL.stub (qV 1))) (c:=[v1]) (fun _ o=>⟨_,rfl,o⟩)<|fun _ _=>rfl) m s
theorem m9.lO {aL:f_} {h:Fr} {cs:List Value} {x:fT} (r:(m9 aL).rd h cs x):∃ v0 v1,cs=[v0,v1]∧mC (aM.flat ag.u8 aL.u8 (c_ 1)) (gR 1) h v0 x.1∧mC (iw aL) (qV 1) h v1 x.2.1:=by
 obtain ⟨c0,d0,rfl,gq,r⟩:=r;obtain ⟨c1,d1,rfl,r1,r⟩:=r;obtain rfl:d1=[]:=r;obtain ⟨v0,rfl,h0⟩:=gq;obtain ⟨v1,rfl,h1⟩:=r1;exact ⟨v0,v1,rfl,h0,h1⟩
def KL (N:Nat) (x:fT):Prop:=(x.1.length≤N∧∀ y∈x.1,y.length≤N)∧(x.2.1.length≤N∧∀ y∈x.2.1,sQ N y)
abbrev dD:Type:=Int × Int × Int × (List UInt8) × (List UInt8) × Unit
abbrev bx:ag dD:=ag.prod ag.i64 (ag.prod ag.i64 (ag.prod ag.i64 (ag.prod (ag.slice ag.u8) (ag.prod (ag.slice ag.u8) (ag.unit)))))
theorem bx.open {h:Fr} {cs:List Value} {x:dD} (r:bx.rel h cs x):∃ v3 v4,cs=[.int .i64 x.1,.int .i64 x.2.1,.int .i64 x.2.2.1,v3,v4]∧aS x.1∧aS x.2.1∧aS x.2.2.1∧av ag.u8 h v3 x.2.2.2.1∧av ag.u8 h v4 x.2.2.2.2.1:=by
 obtain ⟨c0,d0,rfl,gq,r⟩:=r;obtain ⟨c1,d1,rfl,r1,r⟩:=r;obtain ⟨c2,d2,rfl,r2,r⟩:=r;obtain ⟨c3,d3,rfl,gV,r⟩:=r;obtain ⟨bR,d4,rfl,qZ,r⟩:=r;obtain rfl:d4=[]:=r;obtain ⟨rfl,h0⟩:=gq;obtain ⟨rfl,h1⟩:=r1;obtain ⟨rfl,h2⟩:=r2;obtain ⟨v3,rfl,h3⟩:=gV;obtain ⟨v4,rfl,h4⟩:=qZ;exact ⟨v3,v4,rfl,h0,h1,h2,h3,h4⟩
theorem bx.sh {h:Fr} {cs:List Value} {x:dD} (r:bx.rel h cs x):∃ a3 a4 c3 bR,cs=[.int .i64 x.1,.int .i64 x.2.1,.int .i64 x.2.2.1,.slice a3 x.2.2.2.1.length c3,.slice a4 x.2.2.2.2.1.length bR]∧aS x.1∧aS x.2.1∧aS x.2.2.1∧av ag.u8 h (.slice a3 x.2.2.2.1.length c3) x.2.2.2.1∧av ag.u8 h (.slice a4 x.2.2.2.2.1.length bR) x.2.2.2.2.1:=by
 obtain ⟨v3,v4,rfl,h0,h1,h2,h3,h4⟩:=bx.open r;obtain ⟨a3,c3,rfl⟩:=h3.shape;obtain ⟨a4,bR,rfl⟩:=h4.shape;exact ⟨a3,a4,c3,bR,rfl,h0,h1,h2,h3,h4⟩
theorem bx.mk {h:Fr} {x0:Int} {x1:Int} {bC:Int} {c8:List UInt8} {v3:Value} {cr:List UInt8} {v4:Value} (h0:aS x0) (h1:aS x1) (h2:aS bC) (h3:av ag.u8 h v3 c8) (h4:av ag.u8 h v4 cr):bx.rel h [.int .i64 x0,.int .i64 x1,.int .i64 bC,v3,v4] (x0,x1,bC,c8,cr,()) :=
 ⟨[.int .i64 x0],[.int .i64 x1,.int .i64 bC,v3,v4],rfl,⟨rfl,h0⟩,⟨[.int .i64 x1],[.int .i64 bC,v3,v4],rfl,⟨rfl,h1⟩,⟨[.int .i64 bC],[v3,v4],rfl,⟨rfl,h2⟩,⟨[v3],[v4],rfl,⟨v3,rfl,h3⟩,⟨[v4],[],rfl,⟨v4,rfl,h4⟩,rfl⟩⟩⟩⟩⟩
abbrev oP (aL:f_):aQ dD:=aQ.prod (aQ.pure ag.i64) (aQ.prod (aQ.pure ag.i64) (aQ.prod (aQ.pure ag.i64) (aQ.prod (aQ.row ag.u8 aL.u8) (aQ.prod (aQ.row ag.u8 aL.u8) (aQ.unit)))))
abbrev gu (aL:f_):aM dD:=aM.prod (aM.pure ag.i64) (aM.prod (aM.pure ag.i64) (aM.prod (aM.pure ag.i64) (aM.prod (aM.flat ag.u8 aL.u8 (c_ 1)) (aM.prod (aM.flat ag.u8 aL.u8 (c_ 1)) (aM.unit)))))
theorem oP.mk {aL:f_} {m:Fr} {x0:Int} {x1:Int} {bC:Int} {c8:List UInt8} {v3:Value} {cr:List UInt8} {v4:Value} (h0:aS x0) (h1:aS x1) (h2:aS bC) (s:Sat [ak ag.u8 aL.u8 v3 c8,ak ag.u8 aL.u8 v4 cr] m):(aQ.prod (aQ.pure ag.i64) (aQ.prod (aQ.pure ag.i64) (aQ.prod (aQ.pure ag.i64) (aQ.prod (aQ.row ag.u8 aL.u8) (aQ.prod (aQ.row ag.u8 aL.u8) (aQ.unit)))))).own [.int .i64 x0,.int .i64 x1,.int .i64 bC,v3,v4] (x0,x1,bC,c8,cr,()) m :=
 aQ.kx (T:=ag.i64) (c:=[.int .i64 x0]) ⟨rfl,h0⟩ (aQ.kx (T:=ag.i64) (c:=[.int .i64 x1]) ⟨rfl,h1⟩<|aQ.kx (T:=ag.i64) (c:=[.int .i64 bC]) ⟨rfl,h2⟩<|aQ.j6 (A:=(aQ.row ag.u8 aL.u8)) (c:=[v3]) (fun _ o=>⟨_,rfl,o⟩)<|aQ.j6 (A:=(aQ.row ag.u8 aL.u8)) (c:=[v4]) (fun _ o=>⟨_,rfl,o⟩)<|fun _ _=>rfl) m s
theorem gu.mk {aL:f_} {m:Fr} {x0:Int} {x1:Int} {bC:Int} {c8:List UInt8} {v3:Value} {cr:List UInt8} {v4:Value} (h0:aS x0) (h1:aS x1) (h2:aS bC) (s:Sat [jg ag.u8 aL.u8 (c_ 1) v3 c8,jg ag.u8 aL.u8 (c_ 1) v4 cr] m):(aM.prod (aM.pure ag.i64) (aM.prod (aM.pure ag.i64) (aM.prod (aM.pure ag.i64) (aM.prod (aM.flat ag.u8 aL.u8 (c_ 1)) (aM.prod (aM.flat ag.u8 aL.u8 (c_ 1)) (aM.unit)))))).own [.int .i64 x0,.int .i64 x1,.int .i64 bC,v3,v4] (x0,x1,bC,c8,cr,()) m :=
 aM.kx (T:=ag.i64) (c:=[.int .i64 x0]) ⟨rfl,h0⟩ (aM.kx (T:=ag.i64) (c:=[.int .i64 x1]) ⟨rfl,h1⟩<|aM.kx (T:=ag.i64) (c:=[.int .i64 bC]) ⟨rfl,h2⟩<|aM.j6 (A:=(aM.flat ag.u8 aL.u8 (c_ 1))) (c:=[v3]) (fun _ o=>⟨_,rfl,o⟩)<|aM.j6 (A:=(aM.flat ag.u8 aL.u8 (c_ 1))) (c:=[v4]) (fun _ o=>⟨_,rfl,o⟩)<|fun _ _=>rfl) m s
theorem gu.lO {aL:f_} {h:Fr} {cs:List Value} {x:dD} (r:(gu aL).rd h cs x):∃ v3 v4,cs=[.int .i64 x.1,.int .i64 x.2.1,.int .i64 x.2.2.1,v3,v4]∧aS x.1∧aS x.2.1∧aS x.2.2.1∧kF ag.u8 (c_ 1) h v3 x.2.2.2.1∧kF ag.u8 (c_ 1) h v4 x.2.2.2.2.1:=by
 obtain ⟨c0,d0,rfl,gq,r⟩:=r;obtain ⟨c1,d1,rfl,r1,r⟩:=r;obtain ⟨c2,d2,rfl,r2,r⟩:=r;obtain ⟨c3,d3,rfl,gV,r⟩:=r;obtain ⟨bR,d4,rfl,qZ,r⟩:=r;obtain rfl:d4=[]:=r;obtain ⟨rfl,h0⟩:=gq;obtain ⟨rfl,h1⟩:=r1;obtain ⟨rfl,h2⟩:=r2;obtain ⟨v3,rfl,h3⟩:=gV;obtain ⟨v4,rfl,h4⟩:=qZ;exact ⟨v3,v4,rfl,h0,h1,h2,h3,h4⟩
def pz (N:Nat) (x:dD):Prop:=x.2.2.2.1.length≤N∧x.2.2.2.2.1.length≤N
abbrev gh:Type:=dD × dD × Unit
abbrev eK:ag gh:=ag.prod bx (ag.prod bx (ag.unit))
theorem eK.open {h:Fr} {cs:List Value} {x:gh} (r:eK.rel h cs x):∃ v3 v4 ey eD,cs=[.int .i64 x.1.1,.int .i64 x.1.2.1,.int .i64 x.1.2.2.1,v3,v4,.int .i64 x.2.1.1,.int .i64 x.2.1.2.1,.int .i64 x.2.1.2.2.1,ey,eD]∧aS x.1.1∧aS x.1.2.1∧aS x.1.2.2.1∧av ag.u8 h v3 x.1.2.2.2.1∧av ag.u8 h v4 x.1.2.2.2.2.1∧aS x.2.1.1∧aS x.2.1.2.1∧aS x.2.1.2.2.1∧av ag.u8 h ey x.2.1.2.2.2.1∧av ag.u8 h eD x.2.1.2.2.2.2.1:=by
 obtain ⟨c0,d0,rfl,gq,r⟩:=r;obtain ⟨c1,d1,rfl,r1,r⟩:=r;obtain rfl:d1=[]:=r;obtain ⟨v3,v4,rfl,h0,h1,h2,h3,h4⟩:=bx.open gq;obtain ⟨ey,eD,rfl,h5,h6,h7,h8,h9⟩:=bx.open r1;exact ⟨v3,v4,ey,eD,rfl,h0,h1,h2,h3,h4,h5,h6,h7,h8,h9⟩
theorem eK.sh {h:Fr} {cs:List Value} {x:gh} (r:eK.rel h cs x):∃ a3 a4 a8 a9 c3 bR bk bc,cs=[.int .i64 x.1.1,.int .i64 x.1.2.1,.int .i64 x.1.2.2.1,.slice a3 x.1.2.2.2.1.length c3,.slice a4 x.1.2.2.2.2.1.length bR,.int .i64 x.2.1.1,.int .i64 x.2.1.2.1,.int .i64 x.2.1.2.2.1,.slice a8 x.2.1.2.2.2.1.length bk,.slice a9 x.2.1.2.2.2.2.1.length bc]∧aS x.1.1∧aS x.1.2.1∧aS x.1.2.2.1∧av ag.u8 h (.slice a3 x.1.2.2.2.1.length c3) x.1.2.2.2.1∧av ag.u8 h (.slice a4 x.1.2.2.2.2.1.length bR) x.1.2.2.2.2.1∧aS x.2.1.1∧aS x.2.1.2.1∧aS x.2.1.2.2.1∧av ag.u8 h (.slice a8 x.2.1.2.2.2.1.length bk) x.2.1.2.2.2.1∧av ag.u8 h (.slice a9 x.2.1.2.2.2.2.1.length bc) x.2.1.2.2.2.2.1:=by
 obtain ⟨v3,v4,ey,eD,rfl,h0,h1,h2,h3,h4,h5,h6,h7,h8,h9⟩:=eK.open r;obtain ⟨a3,c3,rfl⟩:=h3.shape;obtain ⟨a4,bR,rfl⟩:=h4.shape;obtain ⟨a8,bk,rfl⟩:=h8.shape;obtain ⟨a9,bc,rfl⟩:=h9.shape;exact ⟨a3,a4,a8,a9,c3,bR,bk,bc,rfl,h0,h1,h2,h3,h4,h5,h6,h7,h8,h9⟩
theorem eK.mk {h:Fr} {x0:Int} {x1:Int} {bC:Int} {c8:List UInt8} {v3:Value} {cr:List UInt8} {v4:Value} {dn:Int} {dr:Int} {dQ:Int} {mZ:List UInt8} {ey:Value} {m0:List UInt8} {eD:Value} (h0:aS x0) (h1:aS x1) (h2:aS bC) (h3:av ag.u8 h v3 c8) (h4:av ag.u8 h v4 cr) (h5:aS dn) (h6:aS dr) (h7:aS dQ) (h8:av ag.u8 h ey mZ) (h9:av ag.u8 h eD m0):eK.rel h [.int .i64 x0,.int .i64 x1,.int .i64 bC,v3,v4,.int .i64 dn,.int .i64 dr,.int .i64 dQ,ey,eD] ((x0,x1,bC,c8,cr,()),(dn,dr,dQ,mZ,m0,()),()) :=
 ⟨[.int .i64 x0,.int .i64 x1,.int .i64 bC,v3,v4],[.int .i64 dn,.int .i64 dr,.int .i64 dQ,ey,eD],rfl,(bx.mk h0 h1 h2 h3 h4),⟨[.int .i64 dn,.int .i64 dr,.int .i64 dQ,ey,eD],[],rfl,(bx.mk h5 h6 h7 h8 h9),rfl⟩⟩
abbrev y5 (aL:f_):aQ gh:=aQ.prod (oP aL) (aQ.prod (oP aL) (aQ.unit))
abbrev sN (aL:f_):aM gh:=aM.prod (gu aL) (aM.prod (gu aL) (aM.unit))
theorem y5.mk {aL:f_} {m:Fr} {x0:Int} {x1:Int} {bC:Int} {c8:List UInt8} {v3:Value} {cr:List UInt8} {v4:Value} {dn:Int} {dr:Int} {dQ:Int} {mZ:List UInt8} {ey:Value} {m0:List UInt8} {eD:Value} (h0:aS x0) (h1:aS x1) (h2:aS bC) (h5:aS dn) (h6:aS dr) (h7:aS dQ) (s:Sat [ak ag.u8 aL.u8 v3 c8,ak ag.u8 aL.u8 v4 cr,ak ag.u8 aL.u8 ey mZ,ak ag.u8 aL.u8 eD m0] m):(aQ.prod (oP aL) (aQ.prod (oP aL) (aQ.unit))).own [.int .i64 x0,.int .i64 x1,.int .i64 bC,v3,v4,.int .i64 dn,.int .i64 dr,.int .i64 dQ,ey,eD] ((x0,x1,bC,c8,cr,()),(dn,dr,dQ,mZ,m0,()),()) m :=
 aQ.yw (A:=(oP aL)) (c:=[.int .i64 x0,.int .i64 x1,.int .i64 bC,v3,v4]) (fun _ o=>oP.mk (aL:=aL) h0 h1 h2 o) (aQ.yw (A:=(oP aL)) (c:=[.int .i64 dn,.int .i64 dr,.int .i64 dQ,ey,eD]) (fun _ o=>oP.mk (aL:=aL) h5 h6 h7 o)<|fun _ _=>rfl) m s
def KE (N:Nat) (x:gh):Prop:=x.1.2.2.2.1.length≤N∧x.1.2.2.2.2.1.length≤N∧x.2.1.2.2.2.1.length≤N∧x.2.1.2.2.2.2.1.length≤N
abbrev aP:Type:=UInt8 × Int × Int × (List UInt8) × (List UInt8) × dD × (List UInt8) × fT × eY × (List aV) × gh × Int × Unit
abbrev ck:ag aP:=ag.prod ag.u8 (ag.prod ag.i64 (ag.prod ag.i64 (ag.prod ag.str (ag.prod ag.str (ag.prod bx (ag.prod (ag.slice ag.u8) (ag.prod fB (ag.prod fj (ag.prod (ag.slice bu) (ag.prod eK (ag.prod ag.i64 (ag.unit))))))))))))
theorem ck.open {h:Fr} {cs:List Value} {x:aP} (r:ck.rel h cs x):∃ ey eD v10 v11 jx ic iC jc ie ig iD ij iE,cs=[aT x.1,.int .i64 x.2.1,.int .i64 x.2.2.1,.string (str x.2.2.2.1),.string (str x.2.2.2.2.1),.int .i64 x.2.2.2.2.2.1.1,.int .i64 x.2.2.2.2.2.1.2.1,.int .i64 x.2.2.2.2.2.1.2.2.1,ey,eD,v10,v11,jx,aT x.2.2.2.2.2.2.2.2.1.1,ic,iC,jc,ie,.int .i64 x.2.2.2.2.2.2.2.2.2.2.1.1.1,.int .i64 x.2.2.2.2.2.2.2.2.2.2.1.1.2.1,.int .i64 x.2.2.2.2.2.2.2.2.2.2.1.1.2.2.1,ig,iD,.int .i64 x.2.2.2.2.2.2.2.2.2.2.1.2.1.1,.int .i64 x.2.2.2.2.2.2.2.2.2.2.1.2.1.2.1,.int .i64 x.2.2.2.2.2.2.2.2.2.2.1.2.1.2.2.1,ij,iE,.int .i64 x.2.2.2.2.2.2.2.2.2.2.2.1]∧aS x.2.1∧aS x.2.2.1∧x.2.2.2.1.length≤9223372036854775807∧x.2.2.2.2.1.length≤9223372036854775807∧aS x.2.2.2.2.2.1.1∧aS x.2.2.2.2.2.1.2.1∧aS x.2.2.2.2.2.1.2.2.1∧av ag.u8 h ey x.2.2.2.2.2.1.2.2.2.1∧av ag.u8 h eD x.2.2.2.2.2.1.2.2.2.2.1∧av ag.u8 h v10 x.2.2.2.2.2.2.1∧av (ag.slice ag.u8) h v11 x.2.2.2.2.2.2.2.1.1∧av dZ h jx x.2.2.2.2.2.2.2.1.2.1∧av ag.u8 h ic x.2.2.2.2.2.2.2.2.1.2.1∧av ag.u8 h iC x.2.2.2.2.2.2.2.2.1.2.2.1∧av dJ h jc x.2.2.2.2.2.2.2.2.1.2.2.2.1∧av bu h ie x.2.2.2.2.2.2.2.2.2.1∧aS x.2.2.2.2.2.2.2.2.2.2.1.1.1∧aS x.2.2.2.2.2.2.2.2.2.2.1.1.2.1∧aS x.2.2.2.2.2.2.2.2.2.2.1.1.2.2.1∧av ag.u8 h ig x.2.2.2.2.2.2.2.2.2.2.1.1.2.2.2.1∧av ag.u8 h iD x.2.2.2.2.2.2.2.2.2.2.1.1.2.2.2.2.1∧aS x.2.2.2.2.2.2.2.2.2.2.1.2.1.1∧aS x.2.2.2.2.2.2.2.2.2.2.1.2.1.2.1∧aS x.2.2.2.2.2.2.2.2.2.2.1.2.1.2.2.1∧av ag.u8 h ij x.2.2.2.2.2.2.2.2.2.2.1.2.1.2.2.2.1∧av ag.u8 h iE x.2.2.2.2.2.2.2.2.2.2.1.2.1.2.2.2.2.1∧aS x.2.2.2.2.2.2.2.2.2.2.2.1:=by
 obtain ⟨c0,d0,rfl,gq,r⟩:=r;obtain ⟨c1,d1,rfl,r1,r⟩:=r;obtain ⟨c2,d2,rfl,r2,r⟩:=r;obtain ⟨c3,d3,rfl,gV,r⟩:=r;obtain ⟨bR,d4,rfl,qZ,r⟩:=r;obtain ⟨cD,d5,rfl,q2,r⟩:=r;obtain ⟨cB,d6,rfl,p6,r⟩:=r;obtain ⟨c9,d7,rfl,wR,r⟩:=r;obtain ⟨bk,d8,rfl,yH,r⟩:=r;obtain ⟨bc,d9,rfl,wT,r⟩:=r;obtain ⟨bB,d10,rfl,yE,r⟩:=r;obtain ⟨bG,d11,rfl,aax,r⟩:=r;obtain rfl:d11=[]:=r;obtain rfl:c0=[aT x.1]:=gq;obtain ⟨rfl,h1⟩:=r1;obtain ⟨rfl,h2⟩:=r2;obtain ⟨rfl,h3⟩:=gV;obtain ⟨rfl,h4⟩:=qZ;obtain ⟨ey,eD,rfl,h5,h6,h7,h8,h9⟩:=bx.open q2;obtain ⟨v10,rfl,h10⟩:=p6;obtain ⟨v11,jx,rfl,h11,h12⟩:=fB.open wR;obtain ⟨ic,iC,jc,rfl,eH,kN,jk⟩:=fj.open yH;obtain ⟨ie,rfl,j3⟩:=wT;obtain ⟨ig,iD,ij,iE,rfl,s9,dz,gI,rP,uM,h23,gJ,lG,pM,hG⟩:=eK.open yE;obtain ⟨rfl,k8⟩:=aax;exact ⟨ey,eD,v10,v11,jx,ic,iC,jc,ie,ig,iD,ij,iE,rfl,h1,h2,h3,h4,h5,h6,h7,h8,h9,h10,h11,h12,eH,kN,jk,j3,s9,dz,gI,rP,uM,h23,gJ,lG,pM,hG,k8⟩
theorem ck.sh {h:Fr} {cs:List Value} {x:aP} (r:ck.rel h cs x):∃ a8 a9 c6 cQ cR cS cT b_ dV dW cY cX dX bk bc bB bG bD bE bF bn cx cn bJ bI cq,cs=[aT x.1,.int .i64 x.2.1,.int .i64 x.2.2.1,.string (str x.2.2.2.1),.string (str x.2.2.2.2.1),.int .i64 x.2.2.2.2.2.1.1,.int .i64 x.2.2.2.2.2.1.2.1,.int .i64 x.2.2.2.2.2.1.2.2.1,.slice a8 x.2.2.2.2.2.1.2.2.2.1.length bk,.slice a9 x.2.2.2.2.2.1.2.2.2.2.1.length bc,.slice c6 x.2.2.2.2.2.2.1.length bB,.slice cQ x.2.2.2.2.2.2.2.1.1.length bG,.slice cR x.2.2.2.2.2.2.2.1.2.1.length bD,aT x.2.2.2.2.2.2.2.2.1.1,.slice cS x.2.2.2.2.2.2.2.2.1.2.1.length bE,.slice cT x.2.2.2.2.2.2.2.2.1.2.2.1.length bF,.slice b_ x.2.2.2.2.2.2.2.2.1.2.2.2.1.length bn,.slice dV x.2.2.2.2.2.2.2.2.2.1.length cx,.int .i64 x.2.2.2.2.2.2.2.2.2.2.1.1.1,.int .i64 x.2.2.2.2.2.2.2.2.2.2.1.1.2.1,.int .i64 x.2.2.2.2.2.2.2.2.2.2.1.1.2.2.1,.slice dW x.2.2.2.2.2.2.2.2.2.2.1.1.2.2.2.1.length cn,.slice cY x.2.2.2.2.2.2.2.2.2.2.1.1.2.2.2.2.1.length bJ,.int .i64 x.2.2.2.2.2.2.2.2.2.2.1.2.1.1,.int .i64 x.2.2.2.2.2.2.2.2.2.2.1.2.1.2.1,.int .i64 x.2.2.2.2.2.2.2.2.2.2.1.2.1.2.2.1,.slice cX x.2.2.2.2.2.2.2.2.2.2.1.2.1.2.2.2.1.length bI,.slice dX x.2.2.2.2.2.2.2.2.2.2.1.2.1.2.2.2.2.1.length cq,.int .i64 x.2.2.2.2.2.2.2.2.2.2.2.1]∧aS x.2.1∧aS x.2.2.1∧x.2.2.2.1.length≤9223372036854775807∧x.2.2.2.2.1.length≤9223372036854775807∧aS x.2.2.2.2.2.1.1∧aS x.2.2.2.2.2.1.2.1∧aS x.2.2.2.2.2.1.2.2.1∧av ag.u8 h (.slice a8 x.2.2.2.2.2.1.2.2.2.1.length bk) x.2.2.2.2.2.1.2.2.2.1∧av ag.u8 h (.slice a9 x.2.2.2.2.2.1.2.2.2.2.1.length bc) x.2.2.2.2.2.1.2.2.2.2.1∧av ag.u8 h (.slice c6 x.2.2.2.2.2.2.1.length bB) x.2.2.2.2.2.2.1∧av (ag.slice ag.u8) h (.slice cQ x.2.2.2.2.2.2.2.1.1.length bG) x.2.2.2.2.2.2.2.1.1∧av dZ h (.slice cR x.2.2.2.2.2.2.2.1.2.1.length bD) x.2.2.2.2.2.2.2.1.2.1∧av ag.u8 h (.slice cS x.2.2.2.2.2.2.2.2.1.2.1.length bE) x.2.2.2.2.2.2.2.2.1.2.1∧av ag.u8 h (.slice cT x.2.2.2.2.2.2.2.2.1.2.2.1.length bF) x.2.2.2.2.2.2.2.2.1.2.2.1∧av dJ h (.slice b_ x.2.2.2.2.2.2.2.2.1.2.2.2.1.length bn) x.2.2.2.2.2.2.2.2.1.2.2.2.1∧av bu h (.slice dV x.2.2.2.2.2.2.2.2.2.1.length cx) x.2.2.2.2.2.2.2.2.2.1∧aS x.2.2.2.2.2.2.2.2.2.2.1.1.1∧aS x.2.2.2.2.2.2.2.2.2.2.1.1.2.1∧aS x.2.2.2.2.2.2.2.2.2.2.1.1.2.2.1∧av ag.u8 h (.slice dW x.2.2.2.2.2.2.2.2.2.2.1.1.2.2.2.1.length cn) x.2.2.2.2.2.2.2.2.2.2.1.1.2.2.2.1∧av ag.u8 h (.slice cY x.2.2.2.2.2.2.2.2.2.2.1.1.2.2.2.2.1.length bJ) x.2.2.2.2.2.2.2.2.2.2.1.1.2.2.2.2.1∧aS x.2.2.2.2.2.2.2.2.2.2.1.2.1.1∧aS x.2.2.2.2.2.2.2.2.2.2.1.2.1.2.1∧aS x.2.2.2.2.2.2.2.2.2.2.1.2.1.2.2.1∧av ag.u8 h (.slice cX x.2.2.2.2.2.2.2.2.2.2.1.2.1.2.2.2.1.length bI) x.2.2.2.2.2.2.2.2.2.2.1.2.1.2.2.2.1∧av ag.u8 h (.slice dX x.2.2.2.2.2.2.2.2.2.2.1.2.1.2.2.2.2.1.length cq) x.2.2.2.2.2.2.2.2.2.2.1.2.1.2.2.2.2.1∧aS x.2.2.2.2.2.2.2.2.2.2.2.1:=by
 obtain ⟨ey,eD,v10,v11,jx,ic,iC,jc,ie,ig,iD,ij,iE,rfl,h1,h2,h3,h4,h5,h6,h7,h8,h9,h10,h11,h12,eH,kN,jk,j3,s9,dz,gI,rP,uM,h23,gJ,lG,pM,hG,k8⟩:=ck.open r;obtain ⟨a8,bk,rfl⟩:=h8.shape;obtain ⟨a9,bc,rfl⟩:=h9.shape;obtain ⟨c6,bB,rfl⟩:=h10.shape;obtain ⟨cQ,bG,rfl⟩:=h11.shape;obtain ⟨cR,bD,rfl⟩:=h12.shape;obtain ⟨cS,bE,rfl⟩:=eH.shape;obtain ⟨cT,bF,rfl⟩:=kN.shape;obtain ⟨b_,bn,rfl⟩:=jk.shape;obtain ⟨dV,cx,rfl⟩:=j3.shape;obtain ⟨dW,cn,rfl⟩:=rP.shape;obtain ⟨cY,bJ,rfl⟩:=uM.shape;obtain ⟨cX,bI,rfl⟩:=pM.shape;obtain ⟨dX,cq,rfl⟩:=hG.shape;exact ⟨a8,a9,c6,cQ,cR,cS,cT,b_,dV,dW,cY,cX,dX,bk,bc,bB,bG,bD,bE,bF,bn,cx,cn,bJ,bI,cq,rfl,h1,h2,h3,h4,h5,h6,h7,h8,h9,h10,h11,h12,eH,kN,jk,j3,s9,dz,gI,rP,uM,h23,gJ,lG,pM,hG,k8⟩
theorem ck.mk {h:Fr} {x0:UInt8} {x1:Int} {bC:Int} {c8:List UInt8} {cr:List UInt8} {dn:Int} {dr:Int} {dQ:Int} {mZ:List UInt8} {ey:Value} {m0:List UInt8} {eD:Value} {sr:List UInt8} {v10:Value} {su:List (List UInt8)} {v11:Value} {sv:List gv} {jx:Value} {kB:UInt8} {sw:List UInt8} {ic:Value} {sx:List UInt8} {iC:Value} {sy:List eL} {jc:Value} {sA:List aV} {ie:Value} {jP:Int} {jQ:Int} {jR:Int} {sB:List UInt8} {ig:Value} {sC:List UInt8} {iD:Value} {jS:Int} {jT:Int} {jU:Int} {sD:List UInt8} {ij:Value} {sE:List UInt8} {iE:Value} {jy:Int} (h1:aS x1) (h2:aS bC) (h3:c8.length≤9223372036854775807) (h4:cr.length≤9223372036854775807) (h5:aS dn) (h6:aS dr) (h7:aS dQ) (h8:av ag.u8 h ey mZ) (h9:av ag.u8 h eD m0) (h10:av ag.u8 h v10 sr) (h11:av (ag.slice ag.u8) h v11 su) (h12:av dZ h jx sv) (eH:av ag.u8 h ic sw) (kN:av ag.u8 h iC sx) (jk:av dJ h jc sy) (j3:av bu h ie sA) (s9:aS jP) (dz:aS jQ) (gI:aS jR) (rP:av ag.u8 h ig sB) (uM:av ag.u8 h iD sC) (h23:aS jS) (gJ:aS jT) (lG:aS jU) (pM:av ag.u8 h ij sD) (hG:av ag.u8 h iE sE) (k8:aS jy):ck.rel h [aT x0,.int .i64 x1,.int .i64 bC,.string (str c8),.string (str cr),.int .i64 dn,.int .i64 dr,.int .i64 dQ,ey,eD,v10,v11,jx,aT kB,ic,iC,jc,ie,.int .i64 jP,.int .i64 jQ,.int .i64 jR,ig,iD,.int .i64 jS,.int .i64 jT,.int .i64 jU,ij,iE,.int .i64 jy] (x0,x1,bC,c8,cr,(dn,dr,dQ,mZ,m0,()),sr,(su,sv,()),(kB,sw,sx,sy,()),sA,((jP,jQ,jR,sB,sC,()),(jS,jT,jU,sD,sE,()),()),jy,()) :=
 ⟨[aT x0],[.int .i64 x1,.int .i64 bC,.string (str c8),.string (str cr),.int .i64 dn,.int .i64 dr,.int .i64 dQ,ey,eD,v10,v11,jx,aT kB,ic,iC,jc,ie,.int .i64 jP,.int .i64 jQ,.int .i64 jR,ig,iD,.int .i64 jS,.int .i64 jT,.int .i64 jU,ij,iE,.int .i64 jy],rfl,rfl,⟨[.int .i64 x1],[.int .i64 bC,.string (str c8),.string (str cr),.int .i64 dn,.int .i64 dr,.int .i64 dQ,ey,eD,v10,v11,jx,aT kB,ic,iC,jc,ie,.int .i64 jP,.int .i64 jQ,.int .i64 jR,ig,iD,.int .i64 jS,.int .i64 jT,.int .i64 jU,ij,iE,.int .i64 jy],rfl,⟨rfl,h1⟩,⟨[.int .i64 bC],[.string (str c8),.string (str cr),.int .i64 dn,.int .i64 dr,.int .i64 dQ,ey,eD,v10,v11,jx,aT kB,ic,iC,jc,ie,.int .i64 jP,.int .i64 jQ,.int .i64 jR,ig,iD,.int .i64 jS,.int .i64 jT,.int .i64 jU,ij,iE,.int .i64 jy],rfl,⟨rfl,h2⟩,⟨[.string (str c8)],[.string (str cr),.int .i64 dn,.int .i64 dr,.int .i64 dQ,ey,eD,v10,v11,jx,aT kB,ic,iC,jc,ie,.int .i64 jP,.int .i64 jQ,.int .i64 jR,ig,iD,.int .i64 jS,.int .i64 jT,.int .i64 jU,ij,iE,.int .i64 jy],rfl,⟨rfl,h3⟩,⟨[.string (str cr)],[.int .i64 dn,.int .i64 dr,.int .i64 dQ,ey,eD,v10,v11,jx,aT kB,ic,iC,jc,ie,.int .i64 jP,.int .i64 jQ,.int .i64 jR,ig,iD,.int .i64 jS,.int .i64 jT,.int .i64 jU,ij,iE,.int .i64 jy],rfl,⟨rfl,h4⟩,⟨[.int .i64 dn,.int .i64 dr,.int .i64 dQ,ey,eD],[v10,v11,jx,aT kB,ic,iC,jc,ie,.int .i64 jP,.int .i64 jQ,.int .i64 jR,ig,iD,.int .i64 jS,.int .i64 jT,.int .i64 jU,ij,iE,.int .i64 jy],rfl,(bx.mk h5 h6 h7 h8 h9),⟨[v10],[v11,jx,aT kB,ic,iC,jc,ie,.int .i64 jP,.int .i64 jQ,.int .i64 jR,ig,iD,.int .i64 jS,.int .i64 jT,.int .i64 jU,ij,iE,.int .i64 jy],rfl,⟨v10,rfl,h10⟩,⟨[v11,jx],[aT kB,ic,iC,jc,ie,.int .i64 jP,.int .i64 jQ,.int .i64 jR,ig,iD,.int .i64 jS,.int .i64 jT,.int .i64 jU,ij,iE,.int .i64 jy],rfl,(fB.mk h11 h12),⟨[aT kB,ic,iC,jc],[ie,.int .i64 jP,.int .i64 jQ,.int .i64 jR,ig,iD,.int .i64 jS,.int .i64 jT,.int .i64 jU,ij,iE,.int .i64 jy],rfl,(fj.mk eH kN jk),⟨[ie],[.int .i64 jP,.int .i64 jQ,.int .i64 jR,ig,iD,.int .i64 jS,.int .i64 jT,.int .i64 jU,ij,iE,.int .i64 jy],rfl,⟨ie,rfl,j3⟩,⟨[.int .i64 jP,.int .i64 jQ,.int .i64 jR,ig,iD,.int .i64 jS,.int .i64 jT,.int .i64 jU,ij,iE],[.int .i64 jy],rfl,(eK.mk s9 dz gI rP uM h23 gJ lG pM hG),⟨[.int .i64 jy],[],rfl,⟨rfl,k8⟩,rfl⟩⟩⟩⟩⟩⟩⟩⟩⟩⟩⟩⟩
abbrev ql (aL:f_):aQ aP:=aQ.prod (aQ.pure ag.u8) (aQ.prod (aQ.pure ag.i64) (aQ.prod (aQ.pure ag.i64) (aQ.prod (aQ.pure ag.str) (aQ.prod (aQ.pure ag.str) (aQ.prod (oP aL) (aQ.prod (aQ.row ag.u8 aL.u8) (aQ.prod (za aL) (aQ.prod (y_ aL) (aQ.prod (aQ.list (vA aL) aL.mV) (aQ.prod (y5 aL) (aQ.prod (aQ.pure ag.i64) (aQ.unit))))))))))))
abbrev rA (aL:f_):aM aP:=aM.prod (aM.pure ag.u8) (aM.prod (aM.pure ag.i64) (aM.prod (aM.pure ag.i64) (aM.prod (aM.pure ag.str) (aM.prod (aM.pure ag.str) (aM.prod (gu aL) (aM.prod (aM.flat ag.u8 aL.u8 (c_ 1)) (aM.prod (m9 aL) (aM.prod (m8 aL) (aM.prod (aM.list (gj aL) aL.mV (mT 1)) (aM.prod (sN aL) (aM.prod (aM.pure ag.i64) (aM.unit))))))))))))
theorem ql.mk {aL:f_} {m:Fr} {x0:UInt8} {x1:Int} {bC:Int} {c8:List UInt8} {cr:List UInt8} {dn:Int} {dr:Int} {dQ:Int} {mZ:List UInt8} {ey:Value} {m0:List UInt8} {eD:Value} {sr:List UInt8} {v10:Value} {su:List (List UInt8)} {v11:Value} {sv:List gv} {jx:Value} {kB:UInt8} {sw:List UInt8} {ic:Value} {sx:List UInt8} {iC:Value} {sy:List eL} {jc:Value} {sA:List aV} {ie:Value} {jP:Int} {jQ:Int} {jR:Int} {sB:List UInt8} {ig:Value} {sC:List UInt8} {iD:Value} {jS:Int} {jT:Int} {jU:Int} {sD:List UInt8} {ij:Value} {sE:List UInt8} {iE:Value} {jy:Int} (h1:aS x1) (h2:aS bC) (h3:c8.length≤9223372036854775807) (h4:cr.length≤9223372036854775807) (h5:aS dn) (h6:aS dr) (h7:aS dQ) (s9:aS jP) (dz:aS jQ) (gI:aS jR) (h23:aS jS) (gJ:aS jT) (lG:aS jU) (k8:aS jy) (s:Sat [ak ag.u8 aL.u8 ey mZ,ak ag.u8 aL.u8 eD m0,ak ag.u8 aL.u8 v10 sr,kW (aQ.row ag.u8 aL.u8) aL.bytes v11 su,kW (vD aL) aL.stub jx sv,ak ag.u8 aL.u8 ic sw,ak ag.u8 aL.u8 iC sx,kW (vw aL) aL.leaf jc sy,kW (vA aL) aL.mV ie sA,ak ag.u8 aL.u8 ig sB,ak ag.u8 aL.u8 iD sC,ak ag.u8 aL.u8 ij sD,ak ag.u8 aL.u8 iE sE] m):(aQ.prod (aQ.pure ag.u8) (aQ.prod (aQ.pure ag.i64) (aQ.prod (aQ.pure ag.i64) (aQ.prod (aQ.pure ag.str) (aQ.prod (aQ.pure ag.str) (aQ.prod (oP aL) (aQ.prod (aQ.row ag.u8 aL.u8) (aQ.prod (za aL) (aQ.prod (y_ aL) (aQ.prod (aQ.list (vA aL) aL.mV) (aQ.prod (y5 aL) (aQ.prod (aQ.pure ag.i64) (aQ.unit))))))))))))).own [aT x0,.int .i64 x1,.int .i64 bC,.string (str c8),.string (str cr),.int .i64 dn,.int .i64 dr,.int .i64 dQ,ey,eD,v10,v11,jx,aT kB,ic,iC,jc,ie,.int .i64 jP,.int .i64 jQ,.int .i64 jR,ig,iD,.int .i64 jS,.int .i64 jT,.int .i64 jU,ij,iE,.int .i64 jy] (x0,x1,bC,c8,cr,(dn,dr,dQ,mZ,m0,()),sr,(su,sv,()),(kB,sw,sx,sy,()),sA,((jP,jQ,jR,sB,sC,()),(jS,jT,jU,sD,sE,()),()),jy,()) m :=
 aQ.kx (T:=ag.u8) (c:=[aT x0]) rfl (aQ.kx (T:=ag.i64) (c:=[.int .i64 x1]) ⟨rfl,h1⟩<|aQ.kx (T:=ag.i64) (c:=[.int .i64 bC]) ⟨rfl,h2⟩<|aQ.kx (T:=ag.str) (c:=[.string (str c8)]) ⟨rfl,h3⟩<|aQ.kx (T:=ag.str) (c:=[.string (str cr)]) ⟨rfl,h4⟩<|aQ.yw (A:=(oP aL)) (c:=[.int .i64 dn,.int .i64 dr,.int .i64 dQ,ey,eD]) (fun _ o=>oP.mk (aL:=aL) h5 h6 h7 o)<|aQ.j6 (A:=(aQ.row ag.u8 aL.u8)) (c:=[v10]) (fun _ o=>⟨_,rfl,o⟩)<|aQ.yw (A:=(za aL)) (c:=[v11,jx]) (fun _ o=>za.mk (aL:=aL)  o)<|aQ.yw (A:=(y_ aL)) (c:=[aT kB,ic,iC,jc]) (fun _ o=>y_.mk (aL:=aL)  o)<|aQ.j6 (A:=(aQ.list (vA aL) aL.mV)) (c:=[ie]) (fun _ o=>⟨_,rfl,o⟩)<|aQ.yw (A:=(y5 aL)) (c:=[.int .i64 jP,.int .i64 jQ,.int .i64 jR,ig,iD,.int .i64 jS,.int .i64 jT,.int .i64 jU,ij,iE]) (fun _ o=>y5.mk (aL:=aL) s9 dz gI h23 gJ lG o)<|aQ.kx (T:=ag.i64) (c:=[.int .i64 jy]) ⟨rfl,k8⟩<|fun _ _=>rfl) m s
def jD (N:Nat) (x:aP):Prop:=x.2.2.2.1.length≤N∧x.2.2.2.2.1.length≤N∧x.2.2.2.2.2.1.2.2.2.1.length≤N∧x.2.2.2.2.2.1.2.2.2.2.1.length≤N∧x.2.2.2.2.2.2.1.length≤N∧(x.2.2.2.2.2.2.2.1.1.length≤N∧∀ y∈x.2.2.2.2.2.2.2.1.1,y.length≤N)∧(x.2.2.2.2.2.2.2.1.2.1.length≤N∧∀ y∈x.2.2.2.2.2.2.2.1.2.1,sQ N y)∧x.2.2.2.2.2.2.2.2.1.2.1.length≤N∧x.2.2.2.2.2.2.2.2.1.2.2.1.length≤N∧(x.2.2.2.2.2.2.2.2.1.2.2.2.1.length≤N∧∀ y∈x.2.2.2.2.2.2.2.2.1.2.2.2.1,py N y)∧(x.2.2.2.2.2.2.2.2.2.1.length≤N∧∀ y∈x.2.2.2.2.2.2.2.2.2.1,lB N y)∧x.2.2.2.2.2.2.2.2.2.2.1.1.2.2.2.1.length≤N∧x.2.2.2.2.2.2.2.2.2.2.1.1.2.2.2.2.1.length≤N∧x.2.2.2.2.2.2.2.2.2.2.1.2.1.2.2.2.1.length≤N∧x.2.2.2.2.2.2.2.2.2.2.1.2.1.2.2.2.2.1.length≤N
abbrev QC:Type:=(List eL) × (List dD) × (List gh) × (List Int) × Unit
end Go.Sp
end
section
/- Texts of this proof, one behind the other. -/
section
/- Texts of this proof, one behind the other. -/
section
/- Texts of this proof, one behind the other. -/
section
/- Texts of this proof, one behind the other. -/
section
/- Texts of this proof, one behind the other. -/
section
/- Texts of this proof. -/
namespace Go.Sp
abbrev KV:=List UInt8 × Value × Nat
section
variable {ro:Option Nat} {P:Program} {fn:Func} {n:Nat} {R:Ending→World→Prop} {k:List Item} {σ:List (Nat × Value)} {D:List Deferred} {g:bp} {aa ζ cL:List az} {ops:Array Oper} {i d:Nat} {ls:List Nat}
 {t tk te:TypeId} {x y z:Operand} {b c:Nat} {l:List KV} {key:List UInt8} {w:World}
end
end Go.Sp
end
section
/- Texts of this proof. -/
namespace Go.Sp
section
variable {ro:Option Nat} {P:Program} {fn:Func} {n:Nat} {R:Ending→World→Prop} {k:List Item} {σ:List (Nat × Value)} {D:List Deferred} {g:bp} {aa ζ cL:List az} {ops:Array Oper} {i d:Nat} {ls:List Nat}
 {t tk te e:TypeId} {x y z:Operand} {b c:Nat} {l:List KV} {w:World}
theorem acQ (xs:List UInt8) (j:Nat):(str xs)[j]?=xs[j]?:=by
 by_cases h:j<xs.length
 ·rw [List.getElem?_eq_getElem h,getElem?_pos (str xs) j (by rw [l5];exact h)]
  rfl
 ·rw [List.getElem?_eq_none (by omega),getElem?_neg (str xs) j (by rw [l5];exact h)]
theorem aK.qQ {xs:List UInt8} {kd:IntKind} {de:Int} {j:Nat} (ht:P.underlying t=some .string) (hx:aE σ x=some (.string (str xs))) (hy:aE σ y=some (.int kd de)) (hz:de=(j:Int)) (hj:j<xs.length) :
  aK P (.index t x y) σ g aa (aT xs[j]) aa:=.run fun o ρ w ho hk=>by
 subst hz;have h:=acQ xs j;rw [List.getElem?_eq_getElem hj] at h
 simp [execOp,ho,hk x _ hx,hk y _ hy,Instr.index,asIntOf,run_underlying ht,h]
 rfl
theorem aK.tH {kd:IntKind} {de:Int} {j len bo off:Nat} (ht:P.underlying t=some (.array len e)) (he:(P.info? e).map (·.size)=some 1) (hx:aE σ x=some (.pointer (some ⟨bo,off,none⟩))) (hy:aE σ y=some (.int kd de)) (hz:de=(j:Int)) (hj:j<len) :
  aK P (.indexAddr t x y) σ g aa (.pointer (some ⟨bo,off+j,none⟩)) aa:=.run fun o ρ w ho hk=>by
 subst hz
 simp [execOp,ho,hk x _ hx,hk y _ hy,Instr.indexAt,Instr.sureAddr,asIntOf,run_underlying ht,hj,run_sizeOf he,Addr.add]
theorem aK.mq {kd:IntKind} {de:Int} {j len:Nat} {p:Addr} (ht:P.underlying t=some (.array len e)) (he:(P.info? e).map (·.size)=some 1) (hx:aE σ x=some (.pointer (some p))) (hy:aE σ y=some (.int kd de)) (hz:de=(j:Int)) (hj:j<len) :
  aK P (.indexAddr t x y) σ g aa (.pointer (some (p.add j))) aa:=.run fun o ρ w ho hk=>by
 subst hz
 simp [execOp,ho,hk x _ hx,hk y _ hy,Instr.indexAt,Instr.sureAddr,asIntOf,run_underlying ht,hj,run_sizeOf he]
def PN (cs:List UInt8):List Value:=(List.range 256).map fun i=>.bool (decide (i∈cs.map (·.toNat)))
@[simp] theorem aiq (cs:List UInt8):(PN cs).length=256:=by simp [PN]
end
end Go.Sp
end
end
section
/- Texts of this proof, one behind the other. -/
section
/- Texts of this proof. -/
namespace Go.Sp
abbrev QJ:=List (List UInt8 × List UInt8 × Nat)
section
variable {ro:Option Nat} {P:Program} {fn:Func} {n:Nat} {R:Ending→World→Prop} {k:List Item} {σ:List (Nat × Value)} {D:List Deferred} {g:bp} {aa ζ cL:List az} {ops:Array Oper} {i d:Nat} {ls:List Nat}
 {t tk te:TypeId} {x y z:Operand} {b c:Nat} {m:QJ} {key v:List UInt8} {w:World}
theorem eo.vJ {bZ:Bool} {op:Op} {v:Value} {l:List Nat} (ho:cA ops i n σ d op) (hna:jK op=false) (hd:fX bZ ops i l=true) (eb:∀ ζ,aK P op σ g (aa++ζ) v (aa++ζ)) (h:ah P fn n R ops k D g l ((d,v)::σ) aa):bt P fn n R ops k D g bZ (i::l) σ aa :=
 bt.head hd (.kQ (K:=fun v' au =>v' =v∧au =aa) ho hna (fun ζ o ρ w h1 h2 h3=>let ⟨w',a,b⟩:=eb ζ o ρ w h1 h2 h3;⟨v,w',aa++ζ,⟨aa,⟨rfl,rfl⟩,rfl⟩,a,b⟩) (by rintro _ _ ⟨rfl,rfl⟩;exact h))
theorem ah.vJ {op:Op} {v:Value} {l:List Nat} (ho:cA ops i n σ d op) (hna:jK op=false) (hd:gG ops [i] l=true) (eb:∀ ζ,aK P op σ g (aa++ζ) v (aa++ζ)) (h:ah P fn n R ops k D g l ((d,v)::σ) aa):ah P fn n R ops k D g (i::l) σ aa :=
 eo.vJ (bZ:=false) ho hna (by simpa [fX] using hd) eb h
end
end Go.Sp
end
section
/- Texts of this proof. -/
namespace Go.Sp
variable {ro:Option Nat} {P:Program} {fn:Func} {n:Nat} {R:Ending→World→Prop} {k:List Item} {σ:List (Nat × Value)} {D:List Deferred} {g:bp} {aa:List az}
theorem S.abx {c:Code} (h:S ro P fn n R (.code c::.inLoop c::k) σ D g aa):S ro P fn n R (.inLoop c::k) σ D g aa :=
 fun a w hf hd hw=>.step (fun _ _=>stepR_inLoop) (h a w hf hd hw)
theorem aj.YC {f:FuncId} {args:Array Value} {h:Fr} {bs:List az} {K:Value→List az→Prop} (con:∀ m:Fr,Sat bs m→h.ea m→aj P f args (h.add m) aa (aF K)) :
  aj P f args h (aa++bs) (aF fun v au =>∃ eX,K v eX∧au =eX++bs):=fun g hg w hw=>by
 obtain ⟨m,hm,hd,hw'⟩:=ax.CD (aa:=aa) (ζ:=bs) hw;have ny :h.ea m:=Fr.eG hd hg (Fr.bH _);refine (con m hm ny (g.add m) (Fr.iK (Fr.bQ hg (Fr.fi _ _)) (Fr.jw hd)) w hw').mono fun e w' ⟨au,x,y⟩=>⟨au ++bs,?_,y.JZ hm hd⟩
 cases e with
 |returned v=>exact ⟨au,x,rfl⟩
 |panicked _=>exact x.elim
 |outgrown=>exact x.elim
section
variable {ops:Array Oper} {l:List Nat} {i d:Nat} {T:TypeId} {x:Operand} {v:Value} {cs:List Value}
end
end Go.Sp
end
end
end
section
/- Texts of this proof. -/
namespace Go.Sp
section
variable {ro:Option Nat} {P:Program} {fn:Func} {n:Nat} {R:Ending→World→Prop} {ops:Array Oper} {k:List Item} {σ:List (Nat × Value)} {D:List Deferred} {g:bp} {aa ζ cL:List az} {t e:TypeId} {x y:Operand}
theorem S.oc {todo:List Item} {B:az} (s:bA aa B ζ) (h:∀ g' :bp,g.h.sub g'.h→(∃ m:Fr,B m∧m.sub g'.h)→(∀ {w:World} {cL:List az},ax w g' cL→ax w g (B::cL))→S ro P fn n R todo σ D g' ζ):S ro P fn n R todo σ D g aa :=
 S.eJ s (S.freeze fun m hm hd=>h (g.add m) (Fr.fi _ _) ⟨m,hm,Fr.jw hd⟩ fun hw=>hw.wY hm hd)
theorem ah.Dc {g0:bp} {T:TypeId} {b i j:Nat} {cs:List Value} {v:Value} (ho:nN ops j=some (.store t x y)) (hl:NF ops j=true) (WL:∀ w,ax w g aa→ax w g0 ζ) (ht:gd P t=true) (hx:aE σ x=some (.pointer (some ⟨b,i,none⟩))) (hy:aE σ y=some v)
  (h1:v.oneCell' =true) (hs:bA ζ (obj b T cs) cL) (hc:i<cs.length) (h:S none P fn n R k σ D g0 (obj b T (cs.set i v)::cL)):ah P fn n R ops k D g [j] σ aa :=
 .one rfl (.tK ho rfl hl (fun o ρ w q1 bg ei=>let ⟨w',a,b⟩:=mB.rf ht hx hy h1 hs hc o ρ w q1 bg (WL w ei);⟨w',.skip,a,.inl rfl,b⟩) h)
theorem S.fold {todo:List Item} {A:az} {bs:List az} (hA:∀ m,Sat bs m→A m) (h:S ro P fn n R todo σ D g (A::ζ)):S ro P fn n R todo σ D g (bs++ζ) :=
 S.imp' (aa:=bs++ζ) (ζ:=A::ζ) (fun m hm=>by
  obtain ⟨m1,m2,d,s1,s2,x,y⟩:=Sat.split hm;exact ⟨m1,m2,d,s1,s2,hA _ x,y⟩) h
theorem S.open {todo:List Item} {α:Type} {A:az} {bs:α→List az} (s:bA aa A ζ) (hA:∀ m,A m→∃ x,Sat (bs x) m) (h:∀ x,S ro P fn n R todo σ D g (bs x++ζ)):S ro P fn n R todo σ D g aa :=
 S.eJ s (S.Cy (ζ:=[fun m=>∃ x,Sat (bs x) m]) (fun m hm=>⟨m,Fr.emp,Fr.e7 (Fr.eA _),Fr.bH _,Fr.dY _,hA m hm,trivial⟩) (S.FJ fun x=>S.Cy (fun _ q=>q) (h x)))
theorem S.hU {todo:List Item} {α:Type} {T:ag α} {e:TypeId} {v v' :Value} {xs xs' :List α} (s:bA aa (ak T e v xs) ζ) (hv:v=v') (hx:xs=xs') (h:S ro P fn n R todo σ D g (ak T e v' xs' ::ζ)):S ro P fn n R todo σ D g aa:=by
 subst hv hx;exact S.eJ s h
theorem YP (a b:List (Nat × Value)) (t:Nat):look (a++b) t=match look a t with|some v=>some v|none=>look b t:=by
 induction a with
 |nil=>rfl
 |cons x a ih =>
  cases hq:x.1.beq t
  ·simp only [List.cons_append,look,hq];exact ih
  ·simp only [List.cons_append,look,hq]
theorem Sub.app {a b σ:List (Nat × Value)} (ha:Sub a σ) (hb:Sub b σ):Sub (a++b) σ:=fun t v h=>by
 rw [YP] at h
 cases hq:look a t with
 |some u=>rw [hq] at h;exact ha t v (by rw [hq];exact h)
 |none=>rw [hq] at h;exact hb t v h
theorem S.yJ {α:Type} {L:List Nat} {id:Nat} (lv:α→List (Nat × Value)) (nX:List (Nat × Value)) (au :α→List az) (_:Sub nX σ) (hm:P.follows .mixedOrders=true) (hok:Dr P n ops L=true)
  (h1:∀ kk,(∀ x,S none P fn n R kk (lv x++nX) D g (au x))→ah P fn n R ops kk D g L σ aa) (h2:∀ x,S none P fn n R k (lv x++nX) D g (au x)):S none P fn n R (.code (.region id ops true)::k) σ D g aa :=
 S.aY hm hok (h1 k h2)
theorem S.R9 {ro:Option Nat} {α:Type} {i0:Item} {kk:List Item} (φ:α→Prop) (lv:α→List (Nat × Value)) (nX:List (Nat × Value)) (au :α→List az) (_:Sub nX σ)
  (h1:(∀ x,φ x→S ro P fn n R kk (lv x++nX) D g (au x))→S ro P fn n R (i0::kk) σ D g aa) (h2:∀ x,φ x→S ro P fn n R kk (lv x++nX) D g (au x)):S ro P fn n R (i0::kk) σ D g aa:=h1 h2
theorem S.qq {ro:Option Nat} {α:Type} {i0 i1:Item} {kk:List Item} (φ:α→Prop) (lv:α→List (Nat × Value)) (nX:List (Nat × Value)) (au :α→List az) (_:Sub nX σ)
  (h1:(∀ x,φ x→S ro P fn n R kk (lv x++nX) D g (au x))→S ro P fn n R (i0::i1::kk) σ D g aa) (h2:∀ x,φ x→S ro P fn n R kk (lv x++nX) D g (au x)):S ro P fn n R (i0::i1::kk) σ D g aa:=h1 h2
theorem S.R_ {ro:Option Nat} {α:Type} {i0 i1 i2:Item} {kk:List Item} (φ:α→Prop) (lv:α→List (Nat × Value)) (nX:List (Nat × Value)) (au :α→List az) (_:Sub nX σ)
  (h1:(∀ x,φ x→S ro P fn n R kk (lv x++nX) D g (au x))→S ro P fn n R (i0::i1::i2::kk) σ D g aa) (h2:∀ x,φ x→S ro P fn n R kk (lv x++nX) D g (au x)):S ro P fn n R (i0::i1::i2::kk) σ D g aa:=h1 h2
theorem dj.oD {t2:TypeId} {xs:List UInt8} (ht:P.underlying t=some .string) (lJ:P.underlying t2=some (.slice e)) (he:P.underlying e=some (.int .u8)) (hx:aE σ x=some (.string (str xs))) (hl:xs.length≤9223372036854775807) :
  dj P (.convert t t2 x) σ g aa fun u au =>∃ a c,u=.slice a xs.length c∧au =ak ag.u8 e u xs::aa :=
 fun o ρ w ho hk hw=>by
  have hr:=Lib.run_convert_string_bytes (P:=P) w t t2 e (str xs) ht lJ he;have ho' :(execOp ρ o).run P w=.ok (.value (.slice (some ⟨w.heap.size,0,none⟩) (str xs).size (grownCap w (str xs).size 0 e))) (Lib.bytesWorld w e (str xs)):=by
   simp [execOp,ho,hk x _ hx,hr]
  have hge:=grownCap_ge w (str xs).size 0 e;have j4:=grownCap_le_maxLen w (str xs).size 0 e (by simpa [maxLen] using hl);rw [l5] at hge j4;have hh:ax (Lib.bytesWorld w e (str xs)) g (kg w.heap.size (.cells (Lib.bytesCells w e (str xs)) e ((Lib.bytesCells w e (str xs)).size,(Lib.bytesCells w e (str xs)).size+1))::aa):=by
   have h1:ax (w.drew.alloc (.cells (Lib.bytesCells w e (str xs)) e)) g (kg w.heap.size (.cells (Lib.bytesCells w e (str xs)) e)::aa):=(hw.drewN (w.drawn+1) (Nat.le_add_right _ _)).alloc _;refine h1.setBlock (Lib.bytesWorld_at_new w e (str xs)) ?_ rfl rfl rfl
   intro i hi
   have:w.heap.size≠i:=fun h=>hi h.symm
   simp [Lib.bytesWorld,World.freeze,Array.getElem?_modify,this]
  have hsz:(Lib.bytesCells w e (str xs)).size=grownCap w xs.length 0 e:=by
   simp only [Lib.bytesCells,Array.size_append,Array.size_map,Array.size_replicate,l5]
   simp [str];omega
  have e1:(xs.map (fun b=>[aT b])).flatten=xs.map aT:=by
   clear hx hl hr ho' hge j4 hh hsz
   induction xs with
   |nil=>rfl
   |cons a xs ih=>simp [ih]
  refine ⟨_,_,_,⟨some ⟨w.heap.size,0,none⟩,grownCap w xs.length 0 e,by rw [l5],rfl⟩,ho',?_⟩;rw [l5];refine (hh.wO (k:=1) (m:=xs.length) (cap:=grownCap w xs.length 0 e) (cs:=(xs.map (fun b=>[aT b])).flatten) (fun j hj h=>by have h1:=h.1;simp only [hsz] at h1;omega) hge (by simpa [maxLen] using j4) (by rw [hsz];simp) ?_).imp fun _ =>
   Sat.g9 (ak.of (T:=ag.u8) (aG:=xs.map fun b=>[aT b]) (EW (fun _=>rfl) xs) rfl rfl rfl) fun _ q=>q
  rw [e1];simp only [Lib.bytesCells,Nat.mul_one]
  simp [str,aT]
theorem eo.oD {bZ:Bool} {i d:Nat} {t2:TypeId} {xs:List UInt8} {l:List Nat} (ho:cA ops i n σ d (.convert t t2 x)) (hd:fX bZ ops i l=true) (ht:P.underlying t=some .string) (lJ:P.underlying t2=some (.slice e)) (he:P.underlying e=some (.int .u8)) (hx:aE σ x=some (.string (str xs))) (hl:xs.length≤9223372036854775807)
  (h:∀ a c,ah P fn n R ops k D g l ((d,.slice a xs.length c)::σ) (ak ag.u8 e (.slice a xs.length c) xs::aa)):bt P fn n R ops k D g bZ (i::l) σ aa :=
 eo.kQ (K:=fun u au =>∃ a c,u=.slice a xs.length c∧au =ak ag.u8 e u xs::aa) ho rfl hd
  (fun ζ=>(dj.oD (aa:=aa++ζ) ht lJ he hx hl).imp fun v au ⟨a,c,h1,h2⟩=>⟨_,⟨a,c,h1,rfl⟩,h2⟩) (by rintro v _ ⟨a,c,rfl,rfl⟩;exact h a c)
theorem ah.oD {i d:Nat} {t2:TypeId} {xs:List UInt8} {l:List Nat} (ho:cA ops i n σ d (.convert t t2 x)) (hd:gG ops [i] l=true) (ht:P.underlying t=some .string) (lJ:P.underlying t2=some (.slice e)) (he:P.underlying e=some (.int .u8)) (hx:aE σ x=some (.string (str xs))) (hl:xs.length≤9223372036854775807)
  (h:∀ a c,ah P fn n R ops k D g l ((d,.slice a xs.length c)::σ) (ak ag.u8 e (.slice a xs.length c) xs::aa)):ah P fn n R ops k D g (i::l) σ aa:=eo.oD (bZ:=false) ho (by simpa [fX] using hd) ht lJ he hx hl h
theorem e3.oD {i d:Nat} {t2:TypeId} {xs:List UInt8} {l:List Nat} (ho:cA ops i n σ d (.convert t t2 x)) (_:true=true) (ht:P.underlying t=some .string) (lJ:P.underlying t2=some (.slice e)) (he:P.underlying e=some (.int .u8)) (hx:aE σ x=some (.string (str xs))) (hl:xs.length≤9223372036854775807)
  (h:∀ a c,ah P fn n R ops k D g l ((d,.slice a xs.length c)::σ) (ak ag.u8 e (.slice a xs.length c) xs::aa)):bt P fn n R ops k D g true (i::l) σ aa:=eo.oD (bZ:=true) ho rfl ht lJ he hx hl h
end
end Go.Sp
end
end
section
/- Texts of this proof, one behind the other. -/
section
/- Texts of this proof. -/
namespace Go.Sp
theorem aZ.I9 {β α:Type} {A:β→α→az}:∀ {bs:List β} {as:List α} {m:Fr},bs.length=as.length→Sat (List.zipWith A bs as) m→aZ A bs as m
 |[],[],_,_,_=>trivial
 |[],_::_,_,h,_=>by cases h
 |_::_,[],_,h,_=>by cases h
 |b::bs,a::as,m,hl,h=>by
  obtain ⟨h1,h2,d,s1,s2,x,y⟩:=h;exact ⟨h1,h2,d,s1,s2,x,h2,Fr.emp,Fr.e7 (Fr.eA _),Fr.bH _,Fr.dY _,aZ.I9 (by simpa using hl) y,trivial⟩
section
variable {ro:Option Nat} {P:Program} {fn:Func} {n:Nat} {R:Ending→World→Prop} {σ:List (Nat × Value)} {D:List Deferred} {g:bp} {aa ζ:List az} {todo:List Item} {ops:Array Oper} {L:List Nat} {k:List Item}
theorem S.oS {A:az} {bs:List az} (hb:lC aa bs ζ) (hA:∀ m,Sat bs m→A m) (h:S ro P fn n R todo σ D g (A::ζ)):S ro P fn n R todo σ D g aa :=
 S.perm hb.perm (S.fold hA h)
theorem S.xW {β α:Type} (A:β→α→az) {bs:List β} {ys:List α} (hb:lC aa (List.zipWith A bs ys) ζ) (hl:bs.length=ys.length) (h:S ro P fn n R todo σ D g (aZ A bs ys::ζ)):S ro P fn n R todo σ D g aa :=
 S.oS hb (fun _ z=>aZ.I9 hl z) h
end
theorem NL:∀ x y:List UInt8,Op.bytesLess x y=decide (x<y)
 |x,[]=>by cases x<;>simp [Op.bytesLess]
 |[],_::_=>by simp [Op.bytesLess]
 |a::x,b::y=>by
  rw [Op.bytesLess,NL x y];rw [Bool.eq_iff_iff]
  simp [List.cons_lt_cons_iff]
theorem YQ (x y:List UInt8):Op.bytesLess (str x).toList (str y).toList=decide (x<y):=by rw [P1,P1,NL]
theorem S.back {ro:Option Nat} {P:Program} {fn:Func} {n:Nat} {R:Ending→World→Prop} {σ:List (Nat × Value)} {D:List Deferred} {g g' :bp} {aa:List az} {todo:List Item} {B:az} (hb:∀ {w:World} {cL:List az},ax w g' cL→ax w g (B::cL)) (h:S ro P fn n R todo σ D g (B::aa)):S ro P fn n R todo σ D g' aa :=
 fun a w hf hd hw=>h a w hf hd (hb hw)
theorem n6 {g g' :bp} {B:az} {Post:Ending→List az→Prop} {R:Ending→World→Prop} (hR:∀ e au w',Post e au →ax w' g au →R e w') (hb:∀ {w:World} {cL:List az},ax w g' cL→ax w g (B::cL)) :
  ∀ e au w',Post e au →ax w' g' au →R e w' :=fun e au w' p h=>hR e au w' p (hb h).drop
def ag.RN {α β:Type} (f:α→β) (T:ag β):ag α:={ k:=T.k,rel:=fun h cs a=>T.rel h cs (f a),len:=fun h=>T.len h,mono:=fun s h=>T.mono s h,one:=fun h=>T.one h }
section
variable {ro:Option Nat} {P:Program} {fn:Func} {n:Nat} {R:Ending→World→Prop} {ops:Array Oper} {K:List Item} {σ:List (Nat × Value)} {D:List Deferred} {g:bp} {aa:List az} {i d:Nat} {l:List Nat} {t e:TypeId} {x y:Operand} {v:Value} {kd:IntKind} {j:Nat} {r:Fr}
theorem Nf {α:Type} {T:ag α} {xs:List α} (ht:P.underlying t=some (.slice e)) (he:(P.info? e).map (·.size)=some T.k) (hx:aE σ x=some v) {de:Int} (hy:aE σ y=some (.int kd de)) (eN:de=(j:Int))
  (hs:av T r v xs) (iz:0<T.k) (hm:j<xs.length):∃ p cs,(∀ aa,aK P (.indexAddr t x y) σ g aa (.pointer (some p)) aa)∧cg r p cs∧T.rel r cs xs[j]:=by
 subst eN;obtain ⟨aG,ha,iP⟩:=hs;obtain ⟨a,cap,rfl,h1,h2,h3,h4⟩:=iP
 cases a with
 |none =>
  have:0<aG.flatten.length:=by rw [h3];exact Nat.mul_pos (by omega) iz
  obtain ⟨p,hp,_⟩:=h4 0 this
  cases hp
 |some a =>
  have hj:j<aG.length:=by rw [ha.length];exact hm
  refine ⟨a.add (j*T.k),aG[j],fun aa=>.run fun o ρ w ho hk=>?_,?_,ha.get j hj hm⟩
  ·have hij:(j:Int)<(xs.length:Int):=by omega
   simp [execOp,ho,hk x _ hx,hk y _ hy,Instr.indexAt,asIntOf,run_underlying ht,hm,run_sizeOf he]
  ·rw [← ha.FP j hj]
   intro q hq
   rw [Addr.add_add];have Ht :j*T.k+q<aG.flatten.length:=by simp only [List.length_take,List.length_drop] at hq;omega
   obtain ⟨p,hp,hc⟩:=h4 _ Ht
   cases hp
   rw [hc];simp
theorem O.AE {α:Type} {T:ag α} {xs:List α} (ho:cA ops i n σ d (.indexAddr t x y)) (ht:P.underlying t=some (.slice e)) (he:(P.info? e).map (·.size)=some T.k) (hx:aE σ x=some v)
  {de:Int} (hy:aE σ y=some (.int kd de)) (eN:de=(j:Int)) (hs:av T r v xs) (hr:r.sub g.h) (iz:0<T.k) (hm:j<xs.length)
  (h:∀ p cs,cg g.h p cs→T.rel r cs xs[j]→O ro P fn n R ops l K ((d,.pointer (some p))::σ) D g aa):O ro P fn n R ops (i::l) K σ D g aa:=by
 obtain ⟨p,cs,h1,h2,h3⟩:=Nf (g:=g) ht he hx hy eN hs iz hm;exact O.op ho (h1 aa) (h p cs (h2.mono hr) h3)
theorem ah.AE {α:Type} {T:ag α} {xs:List α} (ho:cA ops i n σ d (.indexAddr t x y)) (ht:P.underlying t=some (.slice e)) (he:(P.info? e).map (·.size)=some T.k) (hx:aE σ x=some v)
  {de:Int} (hy:aE σ y=some (.int kd de)) (eN:de=(j:Int)) (hs:av T r v xs) (hr:r.sub g.h) (iz:0<T.k) (hm:j<xs.length)
  (h:∀ p cs,cg g.h p cs→T.rel r cs xs[j]→ah P fn n R ops K D g l ((d,.pointer (some p))::σ) aa):ah P fn n R ops K D g (i::l) σ aa:=by
 obtain ⟨p,cs,h1,h2,h3⟩:=Nf (g:=g) ht he hx hy eN hs iz hm;exact .quiet ho rfl h1 (h p cs (h2.mono hr) h3)
end
end Go.Sp
end
section
/- Texts of this proof. -/
namespace Go.Sp
theorem pk {aa au :List az} {Q:List az→Prop} (h:Q au) (hp:j_ aa au :=by repeat (first|exact gX|exact gZ|(apply gY;focus (repeat (first|exact fA|apply zt)))|apply g5)):∃ au,Q au ∧j_ aa au :=⟨au,h,hp⟩
section
variable {ro:Option Nat} {P:Program} {fn:Func} {n:Nat} {R:Ending→World→Prop} {k:List Item} {σ σ' :List (Nat × Value)} {D:List Deferred} {g:bp} {aa ζ:List az} {ops:Array Oper} {L l:List Nat} {todo:List Item} {t e:TypeId} {x y:Operand} {v:Value}
theorem S.rt {s:Tmp} {Post:Ending→List az→Prop} {au :List az} (hr:fn.results=#[.tmp s]) (hl:look σ s=some v) (hR:∀ e au w',Post e au →ax w' g au →R e w') (h:Post (.returned v) au)
  (hp:j_ aa au :=by repeat (first|exact gX|exact gZ|(apply gY;focus (repeat (first|exact fA|apply zt)))|apply g5)):S none P fn n R (.code .ret::k) σ [] g aa :=
 S.ret hr hl fun _ hw=>ax.end_ hR hw ⟨au,h,hp⟩
theorem S.pw (h:S ro P fn n R todo σ' D g ζ) (hs:Sub σ' σ:=by repeat (first|exact Sub.nil|refine Sub.cons rfl ?_))
  (hp:j_ aa ζ:=by repeat (first|exact gX|exact gZ|(apply gY;focus (repeat (first|exact fA|apply zt)))|apply g5)):S ro P fn n R todo σ D g aa:=S.pk hp (S.weaken hs h)
theorem S.cF (h:S ro P fn n R todo σ' D g aa) (hs:Sub σ' σ:=by repeat (first|exact Sub.nil|refine Sub.cons rfl ?_)):S ro P fn n R todo σ D g aa:=S.weaken hs h
theorem O.sT {b:Bool} (s:Nat) (hl:look σ s=some (.bool b)) (e:b=true) (h:O ro P fn n R ops L k ((s,.bool true)::σ) D g aa):O ro P fn n R ops L k σ D g aa:=O.slot s hl (congrArg Value.bool e) h
theorem O.aB {b:Bool} (s:Nat) (hl:look σ s=some (.bool b)) (e:b=false) (h:O ro P fn n R ops L k ((s,.bool false)::σ) D g aa):O ro P fn n R ops L k σ D g aa:=O.slot s hl (congrArg Value.bool e) h
theorem ah.sT {b:Bool} (s:Nat) (hl:look σ s=some (.bool b)) (e:b=true) (h:ah P fn n R ops k D g L ((s,.bool true)::σ) aa):ah P fn n R ops k D g L σ aa:=ah.slot s hl (congrArg Value.bool e) h
theorem ah.aB {b:Bool} (s:Nat) (hl:look σ s=some (.bool b)) (e:b=false) (h:ah P fn n R ops k D g L ((s,.bool false)::σ) aa):ah P fn n R ops k D g L σ aa:=ah.slot s hl (congrArg Value.bool e) h
theorem aK.lo {T:TypeId} {b j:Nat} {cs:List Value} (ht:gd P t=true) (hx:aE σ x=some (.pointer (some ⟨b,j,none⟩)):=by exact rfl) (hs:bA aa (obj b T cs) ζ:=by repeat (first|exact fA|apply zt)) (hj:cs[j]?=some v:=by exact rfl):aK P (.load t x) σ g aa v aa:=.yt ht hx hs hj
theorem aK.ahC {T:TypeId} {b i:Nat} {cs news:List Value} (ht:∀ w,(isAgg t).run P w=.ok true w) (hsz:(P.info? t).map (·.size)=some news.length:=by kernel_rfl) (hx:aE σ x=some (.pointer (some ⟨b,i,none⟩)):=by exact rfl)
  (hs:bA aa (obj b T cs) ζ:=by repeat (first|exact fA|apply zt)) (hn:(cs.drop i).take news.length=news:=by exact rfl):aK P (.load t x) σ g aa (.agg news.toArray) aa:=.AL ht hsz hx hs hn
theorem O.c7 {α:Type} {T:ag α} {xs:List α} {i d j:Nat} {kd:IntKind} {de:Int} (ho:cA ops i n σ d (.indexAddr t x y)) (ht:P.underlying t=some (.slice e)) (he:(P.info? e).map (·.size)=some T.k) (hx:aE σ x=some v) (hy:aE σ y=some (.int kd de)) (eN:de=(j:Int)) (hs:av T g.h v xs)
  (iz:0<T.k:=by decide) (hm:j<xs.length:=by first|omega|(simp;done)|(simp;omega)|decide) (h:∀ p cs,cg g.h p cs→T.rel g.h cs xs[j]→O ro P fn n R ops l k ((d,.pointer (some p))::σ) D g aa):O ro P fn n R ops (i::l) k σ D g aa:=O.idx' ho ht he hx hy eN hs iz hm h
theorem ah.c7 {α:Type} {T:ag α} {xs:List α} {i d j:Nat} {kd:IntKind} {de:Int} (ho:cA ops i n σ d (.indexAddr t x y)) (ht:P.underlying t=some (.slice e)) (he:(P.info? e).map (·.size)=some T.k) (hx:aE σ x=some v) (hy:aE σ y=some (.int kd de)) (eN:de=(j:Int)) (hs:av T g.h v xs)
  (iz:0<T.k:=by decide) (hm:j<xs.length:=by first|omega|(simp;done)|(simp;omega)|decide) (h:∀ p cs,cg g.h p cs→T.rel g.h cs xs[j]→ah P fn n R ops k D g l ((d,.pointer (some p))::σ) aa):ah P fn n R ops k D g (i::l) σ aa:=ah.idx' ho ht he hx hy eN hs iz hm h
theorem O.ib {α:Type} {T:ag α} {xs:List α} {r:Fr} {i d j:Nat} {kd:IntKind} {de:Int} (ho:cA ops i n σ d (.indexAddr t x y)) (ht:P.underlying t=some (.slice e)) (he:(P.info? e).map (·.size)=some T.k) (hx:aE σ x=some v) (hy:aE σ y=some (.int kd de)) (eN:de=(j:Int)) (hs:av T r v xs) (hr:r.sub g.h)
  (iz:0<T.k:=by decide) (hm:j<xs.length:=by first|omega|(simp;done)|(simp;omega)|decide) (h:∀ p cs,cg g.h p cs→T.rel r cs xs[j]→O ro P fn n R ops l k ((d,.pointer (some p))::σ) D g aa):O ro P fn n R ops (i::l) k σ D g aa:=O.AE ho ht he hx hy eN hs hr iz hm h
theorem ah.ib {α:Type} {T:ag α} {xs:List α} {r:Fr} {i d j:Nat} {kd:IntKind} {de:Int} (ho:cA ops i n σ d (.indexAddr t x y)) (ht:P.underlying t=some (.slice e)) (he:(P.info? e).map (·.size)=some T.k) (hx:aE σ x=some v) (hy:aE σ y=some (.int kd de)) (eN:de=(j:Int)) (hs:av T r v xs) (hr:r.sub g.h)
  (iz:0<T.k:=by decide) (hm:j<xs.length:=by first|omega|(simp;done)|(simp;omega)|decide) (h:∀ p cs,cg g.h p cs→T.rel r cs xs[j]→ah P fn n R ops k D g l ((d,.pointer (some p))::σ) aa):ah P fn n R ops k D g (i::l) σ aa:=ah.AE ho ht he hx hy eN hs hr iz hm h
end
end Go.Sp
end
end
end
section
/- Texts of this proof. -/
namespace Go.Sp
class fS (P:Program) (t:TypeId) (e:outParam TypeId):Prop where h:P.underlying t=some (.slice e)
class Em (P:Program) (t:TypeId):Prop where h:P.underlying t=some .string
class eP (P:Program) (t:TypeId):Prop where h:gd P t=true
class cM (P:Program) (s f:Nat) (o:outParam Nat):Prop where h:mK P s f=some o
theorem BE {P:Program} {t e:TypeId} [i:fS P t e]:P.underlying t=some (.slice e):=i.h
theorem ae7 {P:Program} {t:TypeId} [i:Em P t]:P.underlying t=some .string:=i.h
theorem nW {P:Program} {t:TypeId} [i:eP P t]:gd P t=true:=i.h
theorem yZ {P:Program} {s f o:Nat} [i:cM P s f o]:mK P s f=some o:=i.h
section
variable {P:Program} {σ:List (Nat × Value)} {g:bp} {aa:List az}
theorem aK.Df {t:TypeId} {x:Operand} {e:TypeId} [fS P t e] {a:Option Addr} {m c:Nat} (hx:aE σ x=some (.slice a m c)):aK P (.call ⟨.builtin .len,#[x],#[t]⟩) σ g aa (.int .i64 (m:Int)) aa:=.len (t:=t) rfl BE hx
theorem aK.AK {t:TypeId} {x:Operand} {p:Addr} {j:Nat} {cs:List Value} {v:Value} (ht:gd P t=true) (hx:aE σ x=some (.pointer (some (p.add j)))) (hp:cg g.h p cs) (hv:cs[j]?=some v):aK P (.load t x) σ g aa v aa:=.loadAt ht hx (hp.drop j) (by rw [List.getElem?_drop];exact hv)
theorem aK.Dh {t:TypeId} {x:Operand} {p:Addr} {i j:Nat} {cs:List Value} {v:Value} (ht:gd P t=true) (hx:aE σ x=some (.pointer (some ((p.add i).add j)))) (hp:cg g.h p cs) (hv:cs[i+j]?=some v):aK P (.load t x) σ g aa v aa:=.AK ht (p:=p) (j:=i+j) (by rw [hx,Addr.add_add]) hp hv
class oM (P:Program) (t:TypeId) (k:outParam Nat):Prop where
 h:∀ w,(isAgg t).run P w=.ok true w
 s:(P.info? t).map (·.size)=some k
def IS {α:Type}:List α→Option (List α)
 |[]=>some []
 |a::l=>(IS l).map (a::·)
theorem Om {α:Type}:∀ {l m:List α},IS l=some m→l=m
 |[],_,h=>by cases h;rfl
 |a::l,m,h=>by
  obtain ⟨q,h1,h2⟩:=Option.map_eq_some_iff.1 h;rw [Om h1];exact h2
theorem aK.NO {t:TypeId} {x:Operand} {T:TypeId} {b i K:Nat} {cs news:List Value} {ζ:List az} [c:oM P t K] (hx:aE σ x=some (.pointer (some ⟨b,i,none⟩))) (hs:bA aa (obj b T cs) ζ) (hn:IS ((cs.drop i).take K)=some news) (hl:news.length=K):aK P (.load t x) σ g aa (.agg news.toArray) aa :=
 .AL c.h (by rw [hl];exact c.s) hx hs (by rw [hl];exact Om hn)
theorem aK.Dg {t:TypeId} {x:Operand} [Em P t] {s:ByteArray} (hx:aE σ x=some (.string s)):aK P (.call ⟨.builtin .len,#[x],#[t]⟩) σ g aa (.int .i64 (s.size:Int)) aa:=.Yq (t:=t) rfl ae7 hx
end
theorem aK.LN {P:Program} {σ:List (Nat × Value)} {g:bp} {aa ζ:List az} {s f off b i:Nat} {x:Operand} {T:TypeId} {cs:List Value} (h:mK P s f=some off) (hx:aE σ x=some (.pointer (some ⟨b,i,none⟩))) (_:bA aa (obj b T cs) ζ):aK P (.fieldAddr s x f) σ g aa (.pointer (some ⟨b,i+off,none⟩)) aa:=.s7 h hx
inductive Steps:Nat→Prop→Prop→Prop
 |z {A:Prop}:Steps 0 A A
 |s {n:Nat} {A B C:Prop} (f:C→A) (k:Steps n B C):Steps (n+1) B A
theorem Steps.run {n:Nat} {A B:Prop} (h:Steps n B A):B→A:=by
 induction h with
 |z=>exact id
 |s f _ ih=>exact fun b=>f (ih b)
theorem U {A B:Prop} (n:Nat) (h:B) (f:Steps n B A:=by repeat (first|exact Steps.z|(apply Steps.s;focus (first|(with_reducible exact S.seq)|((with_reducible apply O.q 1);exact rfl)|(with_reducible exact O.nil)|((with_reducible apply S.region);exact rfl)|((with_reducible apply ah.q 1);exact rfl)|(with_reducible exact S.skip)|(with_reducible exact S.block)|(with_reducible exact S.inBlock)|((with_reducible apply S.exit);exact rfl)|((with_reducible apply S.Cg);exact rfl)|((with_reducible apply S.pK);exact rfl)|(with_reducible exact S.adE)|(with_reducible exact S.abx)|(with_reducible exact bt.nil)|(apply O.op;exact .p rfl;(first|exact aK.Df rfl|exact aK.lss rfl rfl|exact aK.LN yZ rfl (by repeat (first|exact fA|apply zt))|exact aK.fieldAddr yZ rfl|exact aK.lo nW|exact aK.NO rfl (by repeat (first|exact fA|apply zt)) (by exact rfl) (by exact rfl)|exact aK.loadAt nW rfl (by assumption) (by exact rfl)|exact aK.AK nW rfl (by assumption) (by exact rfl)|exact aK.Dh nW rfl (by assumption) (by exact rfl)|exact aK.add rfl rfl (IntWalk.i64_in _ (by omega))|exact aK.not rfl|exact aK.nilCheck rfl|exact aK.eql rfl rfl|exact aK.neq rfl rfl|exact aK.gtr rfl rfl|exact aK.leq rfl rfl|exact aK.geq rfl rfl|exact aK.Dg rfl|exact aK.N5 rfl rfl))|(apply O.op;exact .g rfl rfl;(first|exact aK.Df rfl|exact aK.lss rfl rfl|exact aK.LN yZ rfl (by repeat (first|exact fA|apply zt))|exact aK.fieldAddr yZ rfl|exact aK.lo nW|exact aK.NO rfl (by repeat (first|exact fA|apply zt)) (by exact rfl) (by exact rfl)|exact aK.loadAt nW rfl (by assumption) (by exact rfl)|exact aK.AK nW rfl (by assumption) (by exact rfl)|exact aK.Dh nW rfl (by assumption) (by exact rfl)|exact aK.add rfl rfl (IntWalk.i64_in _ (by omega))|exact aK.not rfl|exact aK.nilCheck rfl|exact aK.eql rfl rfl|exact aK.neq rfl rfl|exact aK.gtr rfl rfl|exact aK.leq rfl rfl|exact aK.geq rfl rfl|exact aK.Dg rfl|exact aK.N5 rfl rfl))|(apply O.eg;exact rfl;(first|exact mB.rf nW rfl rfl (by first|rfl|assumption) (by repeat (first|exact fA|apply zt)) (by first|(simp;done)|(simp [Value.cells];done))|exact mB.jM (by kernel_rfl) rfl rfl rfl rfl (by repeat (first|exact fA|apply zt)) (by first|(simp;done)|(simp [Value.cells];done))))|(apply bt.quiet;exact .p rfl;exact rfl;(intro _;first|exact aK.fieldAddr yZ rfl|exact aK.loadAt nW rfl (by assumption) (by exact rfl)|exact aK.AK nW rfl (by assumption) (by exact rfl)|exact aK.Dh nW rfl (by assumption) (by exact rfl)|exact aK.Df rfl|exact aK.lss rfl rfl|exact aK.not rfl|exact aK.nilCheck rfl|exact aK.eql rfl rfl|exact aK.neq rfl rfl|exact aK.gtr rfl rfl|exact aK.leq rfl rfl|exact aK.geq rfl rfl|exact aK.add rfl rfl (IntWalk.i64_in _ (by omega))|exact aK.sub rfl rfl (IntWalk.i64_in _ (by omega))|exact aK.Dg rfl))|(apply bt.quiet;exact .g rfl rfl;exact rfl;(intro _;first|exact aK.fieldAddr yZ rfl|exact aK.loadAt nW rfl (by assumption) (by exact rfl)|exact aK.AK nW rfl (by assumption) (by exact rfl)|exact aK.Dh nW rfl (by assumption) (by exact rfl)|exact aK.Df rfl|exact aK.lss rfl rfl|exact aK.not rfl|exact aK.nilCheck rfl|exact aK.eql rfl rfl|exact aK.neq rfl rfl|exact aK.gtr rfl rfl|exact aK.leq rfl rfl|exact aK.geq rfl rfl|exact aK.add rfl rfl (IntWalk.i64_in _ (by omega))|exact aK.sub rfl rfl (IntWalk.i64_in _ (by omega))|exact aK.Dg rfl)))))):A:=f.run h
class zj (b:Bool) (p q:outParam Prop):Prop where
 t:b=true→p
 f:b=false→q
instance (priority:=high) {p:Prop} [Decidable p]:zj (decide p) p (¬p):=⟨of_decide_eq_true,of_decide_eq_false⟩
instance (priority:=low) {b:Bool}:zj b (b=true) (b=false):=⟨id,id⟩
section
variable {ro:Option Nat} {P:Program} {fn:Func} {n:Nat} {R:Ending→World→Prop} {k:List Item} {σ:List (Nat × Value)} {D:List Deferred} {g:bp} {aa ζ:List az} {ops:Array Oper} {i d:Nat} {l:List Nat} {x:Operand}
theorem S.cd {c:Operand} {x y:Code} {b:Bool} {p q:Prop} [vi:zj b p q] (hc:aE σ c=some (.bool b)) (ht:p→S ro P fn n R (.code x::k) σ D g aa) (hf:q→S ro P fn n R (.code y::k) σ D g aa):S ro P fn n R (.code (.cond c x y)::k) σ D g aa :=
 S.uD hc (fun h=>ht (vi.t h)) fun h=>hf (vi.f h)
theorem O.v0 {f:FuncId} {xs:Array Operand} {ts:Array TypeId} {b9:List Value} {V:Value} {first cap:Array Value} (ho:cA ops i n σ d (.call ⟨.value x,xs,ts⟩)) (hx:aE σ x=some (.func (.func f) first cap)) (hc:ed P f=true)
  (hv:e8 σ xs.toList=some b9) {args:Array Value} (hargs:first++b9.toArray++cap=args) (con:aj P f args g.h [] (aF fun v aa=>v=V∧aa=[]))
  (h:O ro P fn n R ops l k ((d,V)::σ) D g aa):O ro P fn n R ops (i::l) k σ D g aa:=O.aN ho hx hc hv hargs con fun _ _ ⟨e1,e2⟩=>by subst e1 e2;exact h
theorem O.ug {f:FuncId} {xs:Array Operand} {ts:Array TypeId} {b9:List Value} {V:Value} {bs:List az} {first cap:Array Value} {A:az} (ho:cA ops i n σ d (.call ⟨.value x,xs,ts⟩)) (hx:aE σ x=some (.func (.func f) first cap)) (hc:ed P f=true)
  (hv:e8 σ xs.toList=some b9) {args:Array Value} (hargs:first++b9.toArray++cap=args) (hs:bA aa A ζ) (con:aj P f args g.h [A] (aF fun v aa=>v=V∧aa=bs))
  (h:O ro P fn n R ops l k ((d,V)::σ) D g (bs++ζ)):O ro P fn n R ops (i::l) k σ D g aa:=O.rK ho hx hc hv hargs hs con fun _ _ ⟨e1,e2⟩=>by subst e1 e2;exact h
theorem ah.v0 {f:FuncId} {xs:Array Operand} {ts:Array TypeId} {b9:List Value} {V:Value} {first cap:Array Value} (ho:cA ops i n σ d (.call ⟨.value x,xs,ts⟩)) (hd:gG ops [i] l=true) (hx:aE σ x=some (.func (.func f) first cap)) (hc:ed P f=true)
  (hv:e8 σ xs.toList=some b9) {args:Array Value} (hargs:first++b9.toArray++cap=args) (con:aj P f args g.h [] (aF fun v aa=>v=V∧aa=[]))
  (h:ah P fn n R ops k D g l ((d,V)::σ) aa):ah P fn n R ops k D g (i::l) σ aa:=ah.aN ho hd hx hc hv hargs con fun _ _ ⟨e1,e2⟩=>by subst e1 e2;exact h
variable {t e:TypeId} {y:Operand} {v:Value} {kd:IntKind}
class sM (P:Program) (e:TypeId) (k:outParam Nat):Prop where h:(P.info? e).map (·.size)=some k
theorem Ea {k:Nat} [i:sM P e k]:(P.info? e).map (·.size)=some k:=i.h
theorem O.dI {α:Type} {T:ag α} {xs:List α} {i d j:Nat} {de:Int} (hs:av T g.h v xs) (ho:cA ops i n σ d (.indexAddr t x y):=by first|exact .p rfl|exact .g rfl rfl) (ht:P.underlying t=some (.slice e):=by exact BE) (he:(P.info? e).map (·.size)=some T.k:=by exact Ea) (hx:aE σ x=some v:=by exact rfl) (hy:aE σ y=some (.int kd de):=by exact rfl) (eN:de=(j:Int):=by exact rfl)
  (iz:0<T.k:=by decide) (hm:j<xs.length:=by first|omega|(simp;done)|(simp;omega)|decide) (h:∀ p cs,cg g.h p cs→T.rel g.h cs xs[j]→O ro P fn n R ops l k ((d,.pointer (some p))::σ) D g aa):O ro P fn n R ops (i::l) k σ D g aa:=O.idx' ho ht he hx hy eN hs iz hm h
theorem ah.dI {α:Type} {T:ag α} {xs:List α} {i d j:Nat} {de:Int} (hs:av T g.h v xs) (ho:cA ops i n σ d (.indexAddr t x y):=by first|exact .p rfl|exact .g rfl rfl) (ht:P.underlying t=some (.slice e):=by exact BE) (he:(P.info? e).map (·.size)=some T.k:=by exact Ea) (hx:aE σ x=some v:=by exact rfl) (hy:aE σ y=some (.int kd de):=by exact rfl) (eN:de=(j:Int):=by exact rfl)
  (iz:0<T.k:=by decide) (hm:j<xs.length:=by first|omega|(simp;done)|(simp;omega)|decide) (h:∀ p cs,cg g.h p cs→T.rel g.h cs xs[j]→ah P fn n R ops k D g l ((d,.pointer (some p))::σ) aa):ah P fn n R ops k D g (i::l) σ aa:=ah.idx' ho ht he hx hy eN hs iz hm h
theorem O.ew {α:Type} {T:ag α} {xs:List α} {r:Fr} {i d j:Nat} {de:Int} (hs:av T r v xs) (hr:r.sub g.h) (ho:cA ops i n σ d (.indexAddr t x y):=by first|exact .p rfl|exact .g rfl rfl) (ht:P.underlying t=some (.slice e):=by exact BE) (he:(P.info? e).map (·.size)=some T.k:=by exact Ea) (hx:aE σ x=some v:=by exact rfl) (hy:aE σ y=some (.int kd de):=by exact rfl) (eN:de=(j:Int):=by exact rfl)
  (iz:0<T.k:=by decide) (hm:j<xs.length:=by first|omega|(simp;done)|(simp;omega)|decide) (h:∀ p cs,cg g.h p cs→T.rel r cs xs[j]→O ro P fn n R ops l k ((d,.pointer (some p))::σ) D g aa):O ro P fn n R ops (i::l) k σ D g aa:=O.AE ho ht he hx hy eN hs hr iz hm h
theorem ah.ew {α:Type} {T:ag α} {xs:List α} {r:Fr} {i d j:Nat} {de:Int} (hs:av T r v xs) (hr:r.sub g.h) (ho:cA ops i n σ d (.indexAddr t x y):=by first|exact .p rfl|exact .g rfl rfl) (ht:P.underlying t=some (.slice e):=by exact BE) (he:(P.info? e).map (·.size)=some T.k:=by exact Ea) (hx:aE σ x=some v:=by exact rfl) (hy:aE σ y=some (.int kd de):=by exact rfl) (eN:de=(j:Int):=by exact rfl)
  (iz:0<T.k:=by decide) (hm:j<xs.length:=by first|omega|(simp;done)|(simp;omega)|decide) (h:∀ p cs,cg g.h p cs→T.rel r cs xs[j]→ah P fn n R ops k D g l ((d,.pointer (some p))::σ) aa):ah P fn n R ops k D g (i::l) σ aa:=ah.AE ho ht he hx hy eN hs hr iz hm h
theorem bq {α:Type} {T:ag α} {h:Fr} {v:Value} {xs:List α} (q:av T h v xs:=by first|assumption|exact av.mono hg (by assumption)|exact av.left (by assumption)|exact av.left (av.mono hg (by assumption))):av T h v xs:=q
theorem aO {σ' σ:List (Nat × Value)} (h:Sub σ' σ:=by repeat (first|exact Sub.nil|refine Sub.cons rfl ?_)):Sub σ' σ:=h
theorem aj.o {f:FuncId} {args:Array Value} {r:Fr} {Post:Ending→List az→Prop} {c:Code} {vs:List Value} (hf:P.funcs[f]?=some fn) (h:∀ g:bp,r.sub g.h→∀ R:Ending→World→Prop,(∀ e au w',Post e au →ax w' g au →R e w')→S none P fn n R [.code c] (slots vs 0) [] g aa)
  (ha:args=vs.toArray:=by exact rfl) (hb:fn.body=some c:=by exact rfl) (hn:fn.ntmps=n:=by exact rfl) (hle:Nat.ble vs.length n=true:=by exact rfl):aj P f args r aa Post:=aj.of vs ha hf hb hn hle h
theorem O.cs {l:List Nat} {b:Bool} {p q:Prop} (t:Nat) [vi:zj b p q] (hl:look σ t=some (.bool b)) (ht:p→O ro P fn n R ops l k ((t,.bool true)::σ) D g aa) (hf:q→O ro P fn n R ops l k ((t,.bool false)::σ) D g aa):O ro P fn n R ops l k σ D g aa:=O.zF t hl (fun h=>ht (vi.t h)) fun h=>hf (vi.f h)
theorem ah.cs {l:List Nat} {b:Bool} {p q:Prop} (t:Nat) [vi:zj b p q] (hl:look σ t=some (.bool b)) (ht:p→ah P fn n R ops k D g l ((t,.bool true)::σ) aa) (hf:q→ah P fn n R ops k D g l ((t,.bool false)::σ) aa):ah P fn n R ops k D g l σ aa:=ah.zF t hl (fun h=>ht (vi.t h)) fun h=>hf (vi.f h)
end
theorem aA {p:Prop} [Decidable p] (h:¬p):decide p=false:=decide_eq_false h
theorem zdt {p:Prop} [Decidable p] (h:p):decide p=true:=decide_eq_true h
theorem cI {α:Type} {as bs:List α}:(as++bs).length=as.length+bs.length:=List.length_append
theorem bf {a b c:Fr} (h:a.sub b) (k:b.sub c):a.sub c:=Fr.bQ h k
theorem ae4 {α:Type} {a:α} {as:List α}:(a::as).length=as.length+1:=List.length_cons
theorem mA {α:Type} {i:Nat} {as:List α}:(as.take i).length=min i as.length:=List.length_take
theorem D_ {α:Type}:([]:List α).length=0:=List.length_nil
theorem nV {α:Type} {l:List α} {L:List (List α)}:(l::L).flatten=l++L.flatten:=List.flatten_cons
theorem kV {α:Type} (as bs cs:List α):as++bs++cs=as++(bs++cs):=List.append_assoc as bs cs
theorem xu {α:Type} {as bs:List α} {i:Nat} (h:i<as.length) {h' :i<(as++bs).length}:(as++bs)[i]=as[i]:=List.getElem_append_left h
theorem j9 {α:Type} {l:List α} {i:Nat} (h:i<l.length):l.take (i+1)=l.take i++[l[i]]:=List.take_succ_eq_append_getElem h
theorem af {p:Prop} (h:p:=by kernel_rfl):p:=h
theorem ai {p:Prop} (h:p:=by omega):p:=h
theorem an {p:Prop} (h:p:=by repeat (first|exact fA|apply zt)):p:=h
theorem aq {p:Prop} (h:p:=by decide):p:=h
theorem ay {p:Prop} (h:p:=by assumption):p:=h
theorem aH {p:Prop} (h:p:=by simp):p:=h
theorem bl {p:Prop} (h:p:=by first|omega|(simp;done)|(simp;omega)|decide):p:=h
theorem ct {p:Prop} (h:p:=by repeat (first|exact ae6|(apply ae5;focus (repeat (first|exact fA|apply zt))))):p:=h
theorem cw {p:Prop} (h:p:=by simp;omega):p:=h
theorem aiI {p:Prop} (h:p:=by exact decide_eq_true (by omega)):p:=h
theorem aiJ {p:Prop} (h:p:=by exact decide_eq_false (by omega)):p:=h
theorem dU {p:Prop} (h:p:=by rfl):p:=h
theorem e6 {p:Prop} (h:p:=by constructor<;>omega):p:=h
theorem iu {p:Prop} (h:p:=by first|decide|simp):p:=h
theorem aC {p:Prop} (h:p:=by repeat (first|exact gX|exact gZ|(apply gY;focus (repeat (first|exact fA|apply zt)))|apply g5)):p:=h
theorem aiK {p:Prop} (h:p:=by exact decide_eq_true (by simp;omega)):p:=h
theorem aiL {p:Prop} (h:p:=by exact decide_eq_false (by simp;omega)):p:=h
theorem oL {p:Prop} (h:p:=by first|(simp;done)|(simp [Value.cells];done)):p:=h
theorem qf {p:Prop} (h:p:=by first|omega|(simp;done)|(simp;omega)):p:=h
theorem ry {p:Prop} (h:p:=by simp only [];omega):p:=h
theorem rz {p:Prop} (h:p:=by first|rfl|omega):p:=h
theorem sK {p:Prop} (h:p:=by exact ⟨by simp,rfl⟩):p:=h
theorem vt {p:Prop} (h:p:=by first|assumption|omega|(simp;done)|(simp;omega)):p:=h
theorem vu {p:Prop} (h:p:=by exact ⟨by omega,by simp;omega⟩):p:=h
theorem yX {p:Prop} (h:p:=by first|rfl|assumption):p:=h
theorem yY {p:Prop} (h:p:=by simp [Value.cells]):p:=h
theorem BD {p:Prop} (h:p:=by exact ⟨by simp,by simp⟩):p:=h
end Go.Sp
end
end
