/- Texts of this proof. -/
import Derived.Test.YtojafegjlahajaaGreatDoorQSpBuilder
open Go
namespace Go.Sp
def stubsB (es:List StubT):List UInt8:=(es.map fun e=>bytesOf e.1++e.2.1).flatten
def endTag (n:Nat):UInt8:=([0,1,3]:List UInt8).getD (min n 2) 0
def endB (es:List StubT):List UInt8:=endTag es.length::stubsB es
theorem stubsB_snoc {es:List StubT} {k:Nat} (h:k<es.length):stubsB (es.take (k+1))=stubsB (es.take k)++(bytesOf es[k].1++es[k].2.1):=by
 rw [List.take_succ_eq_append_getElem h];unfold stubsB;rw [List.map_append,List.flatten_append];simp
theorem stubsB_len:∀ {es:List StubT},(∀ e∈es,stubOk e)→(stubsB es).length≤136*es.length
 |[],_=>Nat.zero_le _
 |e::es,h=>by
  have:=stubsB_len (es:=es) fun z hz=>h z (by simp [hz]);obtain ⟨⟨h1,h2⟩,h3⟩:=h e (by simp);have hc:stubsB (e::es)=(bytesOf e.1++e.2.1)++stubsB es:=rfl;rw [hc];simp only [List.length_append,List.length_cons,bytesOf_length];omega
theorem endB_len {es:List StubT} (h:∀ e∈es,stubOk e):(endB es).length≤136*es.length+1:=by
 have:=stubsB_len h;unfold endB;rw [List.length_cons];omega
theorem endTag_lt (es:List StubT):min es.length 2<([0,1,3]:List UInt8).length:=by show min es.length 2<3;omega
theorem endTag_at (es:List StubT):([0,1,3]:List UInt8)[min es.length 2]'(endTag_lt es)=endTag es.length:=by
 unfold endTag;rw [List.getD_eq_getElem?_getD,List.getElem?_eq_getElem (endTag_lt es)];rfl
noncomputable def pairB (c:UInt8) (side text:List UInt8):List UInt8:=if c=49 then 2::(side++shaSum text) else 2::(shaSum text++side)
theorem pairB_len {c:UInt8} {side text:List UInt8} (h:side.length=64):(pairB c side text).length=129:=by
 unfold pairB;split<;>simp [shaSum_len,h]
noncomputable def tx (way:List UInt8) (x:PrfT):Nat→List UInt8
 |0=>endB x.2.1
 |j+1=>pairB (way.getD (x.1.length - 1 - j) 0) (x.1.getD (x.1.length - 1 - j) []) (tx way x j)
noncomputable def txs (way:List UInt8) (x:PrfT) (k:Nat):List (List UInt8):=(List.range k).map (tx way x)
theorem txs_snoc (way:List UInt8) (x:PrfT) (k:Nat):txs way x (k+1)=txs way x k++[tx way x k]:=by unfold txs;rw [List.range_succ,List.map_append];rfl
theorem txs_len (way:List UInt8) (x:PrfT) (k:Nat):(txs way x k).length=k:=by simp [txs]
noncomputable def topT (n:Nat) (t:List UInt8):List UInt8:=4::byteOf (n:Int)::shaSum t
theorem topT_len (n:Nat) (t:List UInt8):(topT n t).length=66:=by simp [topT,shaSum_len]
noncomputable def textsU (n:Nat) (way:List UInt8) (x:PrfT):List (List UInt8):=txs way x (x.1.length+1)++[topT n (tx way x x.1.length)]
theorem side_64 {x:PrfT} (h:prfOk x) {k:Nat} (hk:k<x.1.length):(x.1.getD k []).length=64:=by
 rw [List.getD_eq_getElem?_getD,List.getElem?_eq_getElem hk];exact h.2.1 _ (List.getElem_mem hk)
theorem tx_len {way:List UInt8} {x:PrfT} (h:prfOk x) (hx:x.2.1.length≤1000000):∀ j,j≤x.1.length→(tx way x j).length≤200000000
 |0,_=>by have:=endB_len h.2.2.1;show (endB x.2.1).length≤_;omega
 |j+1,hj=>by show (pairB _ _ _).length≤_;rw [pairB_len (side_64 h (by omega))];decide
def begOk (n:Int) (key:List UInt8) (x:PrfT):Prop:=prfOk x∧keyOk key∧(shardOf key:Int)=n∧∀ e∈x.2.1,(shardOf e.1:Int)=n∧((wayOf key).take x.1.length).isPrefixOf (wayOf e.1)=true
noncomputable instance (n:Int) (key:List UInt8) (x:PrfT):Decidable (begOk n key x):=Classical.propDecidable _
def saysP (key:List UInt8):List StubT→List UInt8
 |[]=>[]
 |e::es=>if e.1=key then e.2.1 else saysP key es
theorem saysP_no {key:List UInt8}:∀ {es:List StubT},(∀ e∈es,e.1≠key)→saysP key es=[]
 |[],_=>rfl
 |e::es,h=>by
  show (if e.1=key then e.2.1 else saysP key es)=[]
  rw [if_neg (h e (by simp))];exact saysP_no fun z hz=>h z (by simp [hz])
theorem saysP_at {key:List UInt8}:∀ {es:List StubT} {k:Nat} (hk:k<es.length),(∀ i (h:i<k),es[i].1≠key)→es[k].1=key→saysP key es=es[k].2.1
 |[],k,hk,_,_=>absurd hk (Nat.not_lt_zero k)
 |e::es,0,_,_,h=>by have h:e.1=key:=h;show (if e.1=key then e.2.1 else saysP key es)=e.2.1;rw [if_pos h]
 |e::es,k+1,hk,h,h2=>by
  show (if e.1=key then e.2.1 else saysP key es)=_
  have h0:e.1≠key:=h 0 (by omega);rw [if_neg h0];exact saysP_at (es:=es) (by simpa using hk) (fun i hi=>h (i+1) (by omega)) h2
def BOk (r:Fr) (xs:List (List UInt8)) (dn:List (Nat × Value)):Prop:=dn.length≤xs.length∧∀ i (h:i<dn.length),dn[i].1=xs.length - 1 - i∧Arr Rp.u8 r dn[i].2 (xs.getD (xs.length - 1 - i) [])
theorem BOk.nil {r:Fr} {xs:List (List UInt8)}:BOk r xs []:=⟨Nat.zero_le _,fun i h=>absurd h (Nat.not_lt_zero i)⟩
theorem BOk.snoc {r:Fr} {xs:List (List UInt8)} {dn:List (Nat × Value)} {k:Nat} {v:Value} (h:BOk r xs dn) (hk:dn.length<xs.length) (he:k=xs.length - 1 - dn.length) (ha:Arr Rp.u8 r v (xs.getD k [])):BOk r xs (dn++[(k,v)]):=by
 refine ⟨by simp;omega,fun i hi=>?_⟩;rw [List.length_append,List.length_singleton] at hi
 rcases Nat.lt_or_ge i dn.length with q|q
 ·rw [List.getElem_append_left q];exact h.2 i q
 ·have:i=dn.length:=by omega
  subst this;rw [List.getElem_append_right (Nat.le_refl _)];simp only [Nat.sub_self,List.getElem_singleton];exact ⟨he,he ▸ ha⟩
theorem BOk.last {r:Fr} {xs:List (List UInt8)} {dn:List (Nat × Value)} {y:Nat × Value} (h:BOk r xs (dn++[y])):dn.length<xs.length∧y.1=xs.length - 1 - dn.length∧Arr Rp.u8 r y.2 (xs.getD (xs.length - 1 - dn.length) []):=by
 have h1:=h.1;rw [List.length_append,List.length_singleton] at h1;have h2:=h.2 dn.length (by simp);rw [List.getElem_append_right (Nat.le_refl _)] at h2;simp only [Nat.sub_self,List.getElem_singleton] at h2;exact ⟨by omega,h2⟩
end Go.Sp
