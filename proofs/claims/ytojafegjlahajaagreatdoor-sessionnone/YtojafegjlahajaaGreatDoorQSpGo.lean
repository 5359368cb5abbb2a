/- Texts of this proof. -/
import Derived.Test.YtojafegjlahajaaGreatDoorQSpAuto
namespace Go.Sp
class CSl (P:Program) (t:TypeId) (e:outParam TypeId):Prop where h:P.underlying t=some (.slice e)
class CStr (P:Program) (t:TypeId):Prop where h:P.underlying t=some .string
class CFl (P:Program) (t:TypeId):Prop where h:flat1 P t=true
class CFo (P:Program) (s f:Nat) (o:outParam Nat):Prop where h:fieldOff P s f=some o
theorem zsl {P:Program} {t e:TypeId} [i:CSl P t e]:P.underlying t=some (.slice e):=i.h
theorem zst {P:Program} {t:TypeId} [i:CStr P t]:P.underlying t=some .string:=i.h
theorem zfl {P:Program} {t:TypeId} [i:CFl P t]:flat1 P t=true:=i.h
theorem zfo {P:Program} {s f o:Nat} [i:CFo P s f o]:fieldOff P s f=some o:=i.h
section
variable {P:Program} {σ:List (Nat × Value)} {g:Gr} {η:List SProp}
theorem Does.len1 {t:TypeId} {x:Operand} {e:TypeId} [CSl P t e] {a:Option Addr} {m c:Nat} (hx:ev σ x=some (.slice a m c)):Does P (.call ⟨.builtin .len,#[x],#[t]⟩) σ g η (.int .i64 (m:Int)) η:=.len (t:=t) rfl zsl hx
theorem Does.loadK {t:TypeId} {x:Operand} {p:Addr} {j:Nat} {cs:List Value} {v:Value} (ht:flat1 P t=true) (hx:ev σ x=some (.pointer (some (p.add j)))) (hp:At g.h p cs) (hv:cs[j]?=some v):Does P (.load t x) σ g η v η:=.loadAt ht hx (hp.drop j) (by rw [List.getElem?_drop];exact hv)
theorem Does.loadKK {t:TypeId} {x:Operand} {p:Addr} {i j:Nat} {cs:List Value} {v:Value} (ht:flat1 P t=true) (hx:ev σ x=some (.pointer (some ((p.add i).add j)))) (hp:At g.h p cs) (hv:cs[i+j]?=some v):Does P (.load t x) σ g η v η:=.loadK ht (p:=p) (j:=i+j) (by rw [hx,Addr.add_add]) hp hv
class CAg (P:Program) (t:TypeId) (k:outParam Nat):Prop where
 h:∀ w,(isAgg t).run P w=.ok true w
 s:(P.info? t).map (·.size)=some k
def nrm {α:Type}:List α→Option (List α)
 |[]=>some []
 |a::l=>(nrm l).map (a::·)
theorem nrm_eq {α:Type}:∀ {l m:List α},nrm l=some m→l=m
 |[],_,h=>by cases h;rfl
 |a::l,m,h=>by
  obtain ⟨q,h1,h2⟩:=Option.map_eq_some_iff.1 h;rw [nrm_eq h1];exact h2
theorem Does.loZ {t:TypeId} {x:Operand} {T:TypeId} {b i K:Nat} {cs news:List Value} {ζ:List SProp} [c:CAg P t K] (hx:ev σ x=some (.pointer (some ⟨b,i,none⟩))) (hs:Sel η (obj b T cs) ζ) (hn:nrm ((cs.drop i).take K)=some news) (hl:news.length=K):Does P (.load t x) σ g η (.agg news.toArray) η :=
 .loadObjAgg c.h (by rw [hl];exact c.s) hx hs (by rw [hl];exact nrm_eq hn)
theorem Does.lenS1 {t:TypeId} {x:Operand} [CStr P t] {s:ByteArray} (hx:ev σ x=some (.string s)):Does P (.call ⟨.builtin .len,#[x],#[t]⟩) σ g η (.int .i64 (s.size:Int)) η:=.lenS (t:=t) rfl zst hx
end
theorem Does.fieldOwn {P:Program} {σ:List (Nat × Value)} {g:Gr} {η ζ:List SProp} {s f off b i:Nat} {x:Operand} {T:TypeId} {cs:List Value} (h:fieldOff P s f=some off) (hx:ev σ x=some (.pointer (some ⟨b,i,none⟩))) (_:Sel η (obj b T cs) ζ):Does P (.fieldAddr s x f) σ g η (.pointer (some ⟨b,i+off,none⟩)) η:=.fieldObj h hx
inductive Steps:Nat→Prop→Prop→Prop
 |z {A:Prop}:Steps 0 A A
 |s {n:Nat} {A B C:Prop} (f:C→A) (k:Steps n B C):Steps (n+1) B A
theorem Steps.run {n:Nat} {A B:Prop} (h:Steps n B A):B→A:=by
 induction h with
 |z=>exact id
 |s f _ ih=>exact fun b=>f (ih b)
theorem zz {A B:Prop} (n:Nat) (h:B) (f:Steps n B A:=by repeat (first|exact Steps.z|(apply Steps.s;focus (first|(with_reducible exact S.seq)|((with_reducible apply O.q 1);exact rfl)|(with_reducible exact O.nil)|((with_reducible apply S.region);exact rfl)|((with_reducible apply OD.q 1);exact rfl)|(with_reducible exact S.skip)|(with_reducible exact S.block)|(with_reducible exact S.inBlock)|((with_reducible apply S.exit);exact rfl)|((with_reducible apply S.condT);exact rfl)|((with_reducible apply S.condF);exact rfl)|(with_reducible exact S.unroll)|(with_reducible exact S.reloop)|(with_reducible exact ODx.nil)|(apply O.op;exact .p rfl;(first|exact Does.len1 rfl|exact Does.lss rfl rfl|exact Does.fieldOwn zfo rfl (by repeat (first|exact zh|apply zt))|exact Does.fieldAddr zfo rfl|exact Does.lo zfl|exact Does.loZ rfl (by repeat (first|exact zh|apply zt)) (by exact rfl) (by exact rfl)|exact Does.loadAt zfl rfl (by assumption) (by exact rfl)|exact Does.loadK zfl rfl (by assumption) (by exact rfl)|exact Does.loadKK zfl rfl (by assumption) (by exact rfl)|exact Does.add rfl rfl (IntWalk.i64_in _ (by omega))|exact Does.not rfl|exact Does.nilCheck rfl|exact Does.eql rfl rfl|exact Does.neq rfl rfl|exact Does.gtr rfl rfl|exact Does.leq rfl rfl|exact Does.geq rfl rfl|exact Does.lenS1 rfl|exact Does.mkFunc rfl rfl))|(apply O.op;exact .g rfl rfl;(first|exact Does.len1 rfl|exact Does.lss rfl rfl|exact Does.fieldOwn zfo rfl (by repeat (first|exact zh|apply zt))|exact Does.fieldAddr zfo rfl|exact Does.lo zfl|exact Does.loZ rfl (by repeat (first|exact zh|apply zt)) (by exact rfl) (by exact rfl)|exact Does.loadAt zfl rfl (by assumption) (by exact rfl)|exact Does.loadK zfl rfl (by assumption) (by exact rfl)|exact Does.loadKK zfl rfl (by assumption) (by exact rfl)|exact Does.add rfl rfl (IntWalk.i64_in _ (by omega))|exact Does.not rfl|exact Does.nilCheck rfl|exact Does.eql rfl rfl|exact Does.neq rfl rfl|exact Does.gtr rfl rfl|exact Does.leq rfl rfl|exact Does.geq rfl rfl|exact Does.lenS1 rfl|exact Does.mkFunc rfl rfl))|(apply O.opU;exact rfl;(first|exact DoesU.store1 zfl rfl rfl (by first|rfl|assumption) (by repeat (first|exact zh|apply zt)) (by first|(simp;done)|(simp [Value.cells];done))|exact DoesU.storeObj (by kernel_rfl) rfl rfl rfl rfl (by repeat (first|exact zh|apply zt)) (by first|(simp;done)|(simp [Value.cells];done))))|(apply ODx.quiet;exact .p rfl;exact rfl;(intro _;first|exact Does.fieldAddr zfo rfl|exact Does.loadAt zfl rfl (by assumption) (by exact rfl)|exact Does.loadK zfl rfl (by assumption) (by exact rfl)|exact Does.loadKK zfl rfl (by assumption) (by exact rfl)|exact Does.len1 rfl|exact Does.lss rfl rfl|exact Does.not rfl|exact Does.nilCheck rfl|exact Does.eql rfl rfl|exact Does.neq rfl rfl|exact Does.gtr rfl rfl|exact Does.leq rfl rfl|exact Does.geq rfl rfl|exact Does.add rfl rfl (IntWalk.i64_in _ (by omega))|exact Does.sub rfl rfl (IntWalk.i64_in _ (by omega))|exact Does.lenS1 rfl))|(apply ODx.quiet;exact .g rfl rfl;exact rfl;(intro _;first|exact Does.fieldAddr zfo rfl|exact Does.loadAt zfl rfl (by assumption) (by exact rfl)|exact Does.loadK zfl rfl (by assumption) (by exact rfl)|exact Does.loadKK zfl rfl (by assumption) (by exact rfl)|exact Does.len1 rfl|exact Does.lss rfl rfl|exact Does.not rfl|exact Does.nilCheck rfl|exact Does.eql rfl rfl|exact Does.neq rfl rfl|exact Does.gtr rfl rfl|exact Does.leq rfl rfl|exact Does.geq rfl rfl|exact Does.add rfl rfl (IntWalk.i64_in _ (by omega))|exact Does.sub rfl rfl (IntWalk.i64_in _ (by omega))|exact Does.lenS1 rfl)))))):A:=f.run h
class Tf (b:Bool) (p q:outParam Prop):Prop where
 t:b=true→p
 f:b=false→q
instance (priority:=high) {p:Prop} [Decidable p]:Tf (decide p) p (¬p):=⟨of_decide_eq_true,of_decide_eq_false⟩
instance (priority:=low) {b:Bool}:Tf b (b=true) (b=false):=⟨id,id⟩
section
variable {ro:Option Nat} {P:Program} {fn:Func} {n:Nat} {R:Ending→World→Prop} {k:List Item} {σ:List (Nat × Value)} {D:List Deferred} {g:Gr} {η ζ:List SProp} {ops:Array Oper} {i d:Nat} {l:List Nat} {x:Operand}
theorem S.cd {c:Operand} {x y:Code} {b:Bool} {p q:Prop} [tf:Tf b p q] (hc:ev σ c=some (.bool b)) (ht:p→S ro P fn n R (.code x::k) σ D g η) (hf:q→S ro P fn n R (.code y::k) σ D g η):S ro P fn n R (.code (.cond c x y)::k) σ D g η :=
 S.condB hc (fun h=>ht (tf.t h)) fun h=>hf (tf.f h)
theorem O.v0 {f:FuncId} {xs:Array Operand} {ts:Array TypeId} {vals:List Value} {V:Value} {first cap:Array Value} (ho:Fires ops i n σ d (.call ⟨.value x,xs,ts⟩)) (hx:ev σ x=some (.func (.func f) first cap)) (hc:callable P f=true)
  (hv:evs σ xs.toList=some vals) {args:Array Value} (hargs:first++vals.toArray++cap=args) (con:Con P f args g.h [] (Ret fun v η=>v=V∧η=[]))
  (h:O ro P fn n R ops l k ((d,V)::σ) D g η):O ro P fn n R ops (i::l) k σ D g η:=O.call0 ho hx hc hv hargs con fun _ _ ⟨e1,e2⟩=>by subst e1 e2;exact h
theorem O.vS {f:FuncId} {xs:Array Operand} {ts:Array TypeId} {vals:List Value} {V:Value} {bs:List SProp} {first cap:Array Value} {A:SProp} (ho:Fires ops i n σ d (.call ⟨.value x,xs,ts⟩)) (hx:ev σ x=some (.func (.func f) first cap)) (hc:callable P f=true)
  (hv:evs σ xs.toList=some vals) {args:Array Value} (hargs:first++vals.toArray++cap=args) (hs:Sel η A ζ) (con:Con P f args g.h [A] (Ret fun v η=>v=V∧η=bs))
  (h:O ro P fn n R ops l k ((d,V)::σ) D g (bs++ζ)):O ro P fn n R ops (i::l) k σ D g η:=O.callS ho hx hc hv hargs hs con fun _ _ ⟨e1,e2⟩=>by subst e1 e2;exact h
theorem OD.v0 {f:FuncId} {xs:Array Operand} {ts:Array TypeId} {vals:List Value} {V:Value} {first cap:Array Value} (ho:Fires ops i n σ d (.call ⟨.value x,xs,ts⟩)) (hd:descOk ops [i] l=true) (hx:ev σ x=some (.func (.func f) first cap)) (hc:callable P f=true)
  (hv:evs σ xs.toList=some vals) {args:Array Value} (hargs:first++vals.toArray++cap=args) (con:Con P f args g.h [] (Ret fun v η=>v=V∧η=[]))
  (h:OD P fn n R ops k D g l ((d,V)::σ) η):OD P fn n R ops k D g (i::l) σ η:=OD.call0 ho hd hx hc hv hargs con fun _ _ ⟨e1,e2⟩=>by subst e1 e2;exact h
variable {t e:TypeId} {y:Operand} {v:Value} {kd:IntKind}
class CSz (P:Program) (e:TypeId) (k:outParam Nat):Prop where h:(P.info? e).map (·.size)=some k
theorem zsz {k:Nat} [i:CSz P e k]:(P.info? e).map (·.size)=some k:=i.h
theorem O.iz {α:Type} {T:Rp α} {xs:List α} {i d j:Nat} {zi:Int} (hs:Arr T g.h v xs) (ho:Fires ops i n σ d (.indexAddr t x y):=by first|exact .p rfl|exact .g rfl rfl) (ht:P.underlying t=some (.slice e):=by exact zsl) (he:(P.info? e).map (·.size)=some T.k:=by exact zsz) (hx:ev σ x=some v:=by exact rfl) (hy:ev σ y=some (.int kd zi):=by exact rfl) (hzi:zi=(j:Int):=by exact rfl)
  (hk0:0<T.k:=by decide) (hm:j<xs.length:=by first|omega|(simp;done)|(simp;omega)|decide) (h:∀ p cs,At g.h p cs→T.rel g.h cs xs[j]→O ro P fn n R ops l k ((d,.pointer (some p))::σ) D g η):O ro P fn n R ops (i::l) k σ D g η:=O.idx' ho ht he hx hy hzi hs hk0 hm h
theorem OD.iz {α:Type} {T:Rp α} {xs:List α} {i d j:Nat} {zi:Int} (hs:Arr T g.h v xs) (ho:Fires ops i n σ d (.indexAddr t x y):=by first|exact .p rfl|exact .g rfl rfl) (ht:P.underlying t=some (.slice e):=by exact zsl) (he:(P.info? e).map (·.size)=some T.k:=by exact zsz) (hx:ev σ x=some v:=by exact rfl) (hy:ev σ y=some (.int kd zi):=by exact rfl) (hzi:zi=(j:Int):=by exact rfl)
  (hk0:0<T.k:=by decide) (hm:j<xs.length:=by first|omega|(simp;done)|(simp;omega)|decide) (h:∀ p cs,At g.h p cs→T.rel g.h cs xs[j]→OD P fn n R ops k D g l ((d,.pointer (some p))::σ) η):OD P fn n R ops k D g (i::l) σ η:=OD.idx' ho ht he hx hy hzi hs hk0 hm h
theorem O.iy {α:Type} {T:Rp α} {xs:List α} {r:Fr} {i d j:Nat} {zi:Int} (hs:Arr T r v xs) (hr:r.sub g.h) (ho:Fires ops i n σ d (.indexAddr t x y):=by first|exact .p rfl|exact .g rfl rfl) (ht:P.underlying t=some (.slice e):=by exact zsl) (he:(P.info? e).map (·.size)=some T.k:=by exact zsz) (hx:ev σ x=some v:=by exact rfl) (hy:ev σ y=some (.int kd zi):=by exact rfl) (hzi:zi=(j:Int):=by exact rfl)
  (hk0:0<T.k:=by decide) (hm:j<xs.length:=by first|omega|(simp;done)|(simp;omega)|decide) (h:∀ p cs,At g.h p cs→T.rel r cs xs[j]→O ro P fn n R ops l k ((d,.pointer (some p))::σ) D g η):O ro P fn n R ops (i::l) k σ D g η:=O.idxR ho ht he hx hy hzi hs hr hk0 hm h
theorem zA {α:Type} {T:Rp α} {h:Fr} {v:Value} {xs:List α} (q:Arr T h v xs:=by first|assumption|exact Arr.mono hg (by assumption)|exact Arr.left (by assumption)|exact Arr.left (Arr.mono hg (by assumption))):Arr T h v xs:=q
theorem zq {σ' σ:List (Nat × Value)} (h:Sub σ' σ:=by repeat (first|exact Sub.nil|refine Sub.cons rfl ?_)):Sub σ' σ:=h
theorem Con.o {f:FuncId} {args:Array Value} {r:Fr} {Post:Ending→List SProp→Prop} {c:Code} {vs:List Value} (hf:P.funcs[f]?=some fn) (h:∀ g:Gr,r.sub g.h→∀ R:Ending→World→Prop,(∀ e η' w',Post e η' →Holds w' g η' →R e w')→S none P fn n R [.code c] (slots vs 0) [] g η)
  (ha:args=vs.toArray:=by exact rfl) (hb:fn.body=some c:=by exact rfl) (hn:fn.ntmps=n:=by exact rfl) (hle:Nat.ble vs.length n=true:=by exact rfl):Con P f args r η Post:=Con.of vs ha hf hb hn hle h
theorem O.cs {l:List Nat} {b:Bool} {p q:Prop} (t:Nat) [tf:Tf b p q] (hl:look σ t=some (.bool b)) (ht:p→O ro P fn n R ops l k ((t,.bool true)::σ) D g η) (hf:q→O ro P fn n R ops l k ((t,.bool false)::σ) D g η):O ro P fn n R ops l k σ D g η:=O.caseB t hl (fun h=>ht (tf.t h)) fun h=>hf (tf.f h)
theorem OD.cs {l:List Nat} {b:Bool} {p q:Prop} (t:Nat) [tf:Tf b p q] (hl:look σ t=some (.bool b)) (ht:p→OD P fn n R ops k D g l ((t,.bool true)::σ) η) (hf:q→OD P fn n R ops k D g l ((t,.bool false)::σ) η):OD P fn n R ops k D g l σ η:=OD.caseB t hl (fun h=>ht (tf.t h)) fun h=>hf (tf.f h)
end
theorem zdf {p:Prop} [Decidable p] (h:¬p):decide p=false:=decide_eq_false h
theorem zdt {p:Prop} [Decidable p] (h:p):decide p=true:=decide_eq_true h
theorem zla {α:Type} {as bs:List α}:(as++bs).length=as.length+bs.length:=List.length_append
theorem zfs {a b c:Fr} (h:a.sub b) (k:b.sub c):a.sub c:=Fr.sub_trans h k
theorem zlc {α:Type} {a:α} {as:List α}:(a::as).length=as.length+1:=List.length_cons
theorem zlt {α:Type} {i:Nat} {as:List α}:(as.take i).length=min i as.length:=List.length_take
theorem zln {α:Type}:([]:List α).length=0:=List.length_nil
theorem zfc {α:Type} {l:List α} {L:List (List α)}:(l::L).flatten=l++L.flatten:=List.flatten_cons
theorem zaa {α:Type} (as bs cs:List α):as++bs++cs=as++(bs++cs):=List.append_assoc as bs cs
theorem zgl {α:Type} {as bs:List α} {i:Nat} (h:i<as.length) {h' :i<(as++bs).length}:(as++bs)[i]=as[i]:=List.getElem_append_left h
theorem ztg {α:Type} {l:List α} {i:Nat} (h:i<l.length):l.take (i+1)=l.take i++[l[i]]:=List.take_succ_eq_append_getElem h
theorem zB {p:Prop} (h:p:=by omega):p:=h
theorem zC {p:Prop} (h:p:=by repeat (first|exact zh|apply zt)):p:=h
theorem zD {p:Prop} (h:p:=by kernel_rfl):p:=h
theorem zE {p:Prop} (h:p:=by decide):p:=h
theorem zF {p:Prop} (h:p:=by rfl):p:=h
theorem zG {p:Prop} (h:p:=by first|omega|(simp;done)|(simp;omega)|decide):p:=h
theorem zH {p:Prop} (h:p:=by simp):p:=h
theorem zI {p:Prop} (h:p:=by repeat (first|exact zsn|(apply zsc;focus (repeat (first|exact zh|apply zt))))):p:=h
theorem zJ {p:Prop} (h:p:=by exact decide_eq_false (by omega)):p:=h
theorem zK {p:Prop} (h:p:=by simp;omega):p:=h
theorem zL {p:Prop} (h:p:=by exact decide_eq_true (by omega)):p:=h
theorem zM {p:Prop} (h:p:=by assumption):p:=h
theorem zN {p:Prop} (h:p:=by repeat (first|exact zpa|exact zpn|(apply zpc;focus (repeat (first|exact zh|apply zt)))|apply zps)):p:=h
theorem zO {p:Prop} (h:p:=by first|(simp;done)|(simp [Value.cells];done)):p:=h
theorem zP {p:Prop} (h:p:=by first|omega|(simp;done)|(simp;omega)):p:=h
theorem zQ {p:Prop} (h:p:=by first|rfl|assumption):p:=h
theorem zR {p:Prop} (h:p:=by simp [Value.cells]):p:=h
theorem zS {p:Prop} (h:p:=by exact decide_eq_true (by simp;omega)):p:=h
theorem zT {p:Prop} (h:p:=by first|rfl|omega):p:=h
theorem zU {p:Prop} (h:p:=by first|(simp;done)|(simp;omega)):p:=h
end Go.Sp
