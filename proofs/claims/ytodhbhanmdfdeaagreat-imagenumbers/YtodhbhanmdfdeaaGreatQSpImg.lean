/- Texts of this proof. -/
import Derived.Test.YtodhbhanmdfdeaaGreatQSpRoot
import Derived.Test.YtodhbhanmdfdeaaGreatQSpTry
namespace Go.Sp
structure WSt where
 out:List UInt8
 key:List UInt8
 rep:Int
 shard:Int
 last:Int
 seen:List (List UInt8)
def WSt.zero:WSt:=⟨[],[],0,0,0,[]⟩
noncomputable def leafStep (s:WSt) (f:LeafT):Option WSt :=
 if s.key<f.1∧f.1.length≤64∧(∃ h:0<f.2.1.length,f.2.1[0].1=f.1)∧SRight f.2.1 then some { s with key:=f.1,out:=s.out++(bytesOf f.1++bytesOf (sB f.2.1)) } else none
def rootStep (s:WSt) (x:RootT):Option WSt :=
 if (s.rep=0∨x.1=s.rep∧s.shard<x.2.1)∧rootOk x=true then some { s with rep:=x.1,shard:=x.2.1,out:=s.out++bytesOf (rootB x) } else none
def evdStep (s:WSt) (e:EvdT):Option WSt :=
 if evdOk e=true∧evdB e ∉ s.seen∧s.seen.length<32 then some { s with seen:=s.seen++[evdB e],out:=s.out++bytesOf (evdB e) } else none
def shutStep (s:WSt) (n:Int):Option WSt :=
 if s.last<n∧n≤7 then some { s with last:=n,out:=s.out++be n } else none
def rowSteps {α:Type} (f:WSt→α→Option WSt) (s:WSt) (l:List α):Option WSt:=l.foldlM f { s with out:=s.out++be l.length }
theorem foldlM_snoc {α:Type} (f:WSt→α→Option WSt) (s:WSt) (l:List α) (x:α):(l++[x]).foldlM f s=(l.foldlM f s).bind fun s' =>f s' x:=by
 induction l generalizing s with
 |nil=>simp
 |cons a l ih =>
  simp only [List.cons_append,List.foldlM_cons]
  cases h:f s a with
  |none=>rfl
  |some s' =>exact ih s'
theorem foldlM_take {α:Type} (f:WSt→α→Option WSt) (s:WSt) (l:List α) (i:Nat) (h:(l.take i).foldlM f s=none):l.foldlM f s=none:=by
 conv=>lhs;rw [← List.take_append_drop i l,List.foldlM_append,h]
 rfl
theorem foldlM_next {α:Type} (f:WSt→α→Option WSt) (s s' :WSt) (l:List α) (i:Nat) (hi:i<l.length) (h:(l.take i).foldlM f s=some s'):(l.take (i+1)).foldlM f s=f s' l[i]:=by
 rw [List.take_succ_eq_append_getElem hi,foldlM_snoc,h];rfl
theorem leafStep_le {s t:WSt} {f:LeafT} (hx:f.2.1.length≤3000) (h:leafStep s f=some t):t.out.length≤s.out.length+5000000∧t.seen.length≤s.seen.length+1:=by
 unfold leafStep at h
 split at h
 rotate_left
 ·cases h
 rename_i c
 obtain rfl:=Option.some.inj h;have h1:=c.2.1;have h2:=sB_le c.2.2.2.1
 simp;omega
theorem rootStep_le {s t:WSt} {x:RootT} (h:rootStep s x=some t):t.out.length≤s.out.length+5000000∧t.seen.length≤s.seen.length+1:=by
 unfold rootStep at h
 split at h
 rotate_left
 ·cases h
 rename_i c
 obtain rfl:=Option.some.inj h;have h2:=rootB_length c.2
 simp;omega
theorem evdStep_le {s t:WSt} {x:EvdT} (h:evdStep s x=some t):t.out.length≤s.out.length+5000000∧t.seen.length≤s.seen.length+1:=by
 unfold evdStep at h
 split at h
 rotate_left
 ·cases h
 rename_i c
 obtain rfl:=Option.some.inj h;have h2:=evdB_length c.1
 simp;omega
theorem shutStep_le {s t:WSt} {x:Int} (h:shutStep s x=some t):t.out.length≤s.out.length+5000000∧t.seen.length≤s.seen.length+1:=by
 unfold shutStep at h
 split at h
 rotate_left
 ·cases h
 obtain rfl:=Option.some.inj h
 simp
theorem steps_le {α:Type} (f:WSt→α→Option WSt):∀ (l:List α) (s t:WSt),(∀ x∈l,∀ s t,f s x=some t→t.out.length≤s.out.length+5000000∧t.seen.length≤s.seen.length+1)→l.foldlM f s=some t→t.out.length≤s.out.length+5000000*l.length∧t.seen.length≤s.seen.length+l.length
 |[],s,t,_,h=>by obtain rfl:=Option.some.inj h;simp
 |a::l,s,t,hf,h=>by
  rw [List.foldlM_cons] at h
  cases e:f s a with
  |none=>rw [e] at h;cases h
  |some u =>
   rw [e] at h;have h1:=hf a List.mem_cons_self _ _ e;have h2:=steps_le f l u t (fun x hx=>hf x (List.mem_cons_of_mem _ hx)) h;rw [List.length_cons]
   omega
theorem rowSteps_le {α:Type} (f:WSt→α→Option WSt) {l:List α} {s t:WSt} (hf:∀ x∈l,∀ s t,f s x=some t→t.out.length≤s.out.length+5000000∧t.seen.length≤s.seen.length+1) (h:rowSteps f s l=some t):t.out.length≤s.out.length+8+5000000*l.length∧t.seen.length≤s.seen.length+l.length:=by
 have:=steps_le f l _ t hf h
 simp at this
 omega
theorem rowsL_le {l:List LeafT} {s t:WSt} (hx:∀ x∈l,x.2.1.length≤3000) (h:rowSteps leafStep s l=some t):t.out.length≤s.out.length+8+5000000*l.length∧t.seen.length≤s.seen.length+l.length:=rowSteps_le _ (fun x hm _ _ e=>leafStep_le (hx x hm) e) h
theorem rowsR_le {l:List RootT} {s t:WSt} (h:rowSteps rootStep s l=some t):t.out.length≤s.out.length+8+5000000*l.length∧t.seen.length≤s.seen.length+l.length:=rowSteps_le _ (fun _ _ _ _ e=>rootStep_le e) h
theorem rowsE_le {l:List EvdT} {s t:WSt} (h:rowSteps evdStep s l=some t):t.out.length≤s.out.length+8+5000000*l.length∧t.seen.length≤s.seen.length+l.length:=rowSteps_le _ (fun _ _ _ _ e=>evdStep_le e) h
section
variable {P:Program} {fn:Func} {n:Nat} {R:Ending→World→Prop} {ro:Option Nat} {σ:List (Nat × Value)} {D:List Deferred} {g:Gr} {η:List SProp}
theorem S.keep {todo:List Item} (θ:List SProp) (hp:Picks η θ) (h:S ro P fn n R todo σ D g θ):S ro P fn n R todo σ D g η:=fun a w hf hd hw=>h a w hf hd (hw.picks hp)
end
noncomputable def imgW (h:HeldT):Option (List UInt8) :=
 (rowSteps leafStep WSt.zero h.1).bind fun s1=>(rowSteps rootStep s1 h.2.1).bind fun s2=>(rowSteps evdStep s2 h.2.2.1).bind fun s3=>(rowSteps shutStep s3 h.2.2.2.1).map (·.out)
noncomputable def imgOut (h:HeldT):List UInt8:=(imgW h).getD []
noncomputable def imgErr (h:HeldT):Int:=if (imgW h).isSome then 0 else 4
def HeldB (h:HeldT):Prop:=(h.1.length≤3000∧∀ x∈h.1,x.2.1.length≤3000)∧h.2.1.length≤3000∧h.2.2.1.length≤3000∧h.2.2.2.1.length≤3000
def recN (x:RecT):Nat:=1+x.2.2.2.1.length+(x.1.length+x.2.2.2.2.2.1.length+x.2.2.2.2.2.2.1.length) / 8
def rootN (x:RootT):Nat:=1+(x.2.2.2.1.length+x.2.2.2.2.1.length) / 8
def big:Nat:=140737488351232
def RecsC (n:Nat) (l:List RecT):Prop:=l.length≤n∧∀ x∈l,recN x≤n
def LeafC (n:Nat) (x:LeafT):Prop:=x.1.length / 8≤n∧RecsC n x.2.1
def recsIn (l:List LeafT):Nat:=(l.map fun x=>x.2.1.length).sum
theorem recsIn_succ {l:List LeafT} {i:Nat} (h:i<l.length):recsIn (l.take (i+1))=recsIn (l.take i)+l[i].2.1.length:=by
 unfold recsIn;rw [List.take_succ_eq_append_getElem h,List.map_append,List.sum_append];simp
def LeavesC (n:Nat) (l:List LeafT):Prop:=(l.length≤n∧recsIn l≤n)∧∀ x∈l,LeafC n x
def RootsC (n:Nat) (l:List RootT):Prop:=l.length≤n∧∀ x∈l,rootN x≤n
def EvdsC (n:Nat) (l:List EvdT):Prop:=l.length≤n∧∀ x∈l,rootN x.1≤n∧rootN x.2.1≤n
def HeldC (n:Nat) (h:HeldT):Prop:=LeavesC n h.1∧RootsC n h.2.1∧EvdsC n h.2.2.1∧h.2.2.2.1.length≤n
theorem RecsC.mono {n m:Nat} {l:List RecT} (hm:n≤m) (h:RecsC n l):RecsC m l:=⟨by have:=h.1;omega,fun x hx=>by have:=h.2 x hx;omega⟩
theorem LeafC.mono {n m:Nat} {x:LeafT} (hm:n≤m) (h:LeafC n x):LeafC m x:=⟨by have:=h.1;omega,h.2.mono hm⟩
theorem LeavesC.mono {n m:Nat} {l:List LeafT} (hm:n≤m) (h:LeavesC n l):LeavesC m l:=⟨by have:=h.1;exact ⟨by omega,by omega⟩,fun x hx=>(h.2 x hx).mono hm⟩
theorem RootsC.mono {n m:Nat} {l:List RootT} (hm:n≤m) (h:RootsC n l):RootsC m l:=⟨by have:=h.1;omega,fun x hx=>by have:=h.2 x hx;omega⟩
theorem EvdsC.mono {n m:Nat} {l:List EvdT} (hm:n≤m) (h:EvdsC n l):EvdsC m l:=⟨by have:=h.1;omega,fun x hx=>by have:=h.2 x hx;omega⟩
theorem HeldC.mono {n m:Nat} {h:HeldT} (hm:n≤m) (x:HeldC n h):HeldC m h:=⟨x.1.mono hm,x.2.1.mono hm,x.2.2.1.mono hm,by have:=x.2.2.2;omega⟩
theorem HeldC.b {h:HeldT} (x:HeldC 3000 h):HeldB h:=⟨⟨x.1.1.1,fun y hy=>(x.1.2 y hy).2.1⟩,x.2.1.1,x.2.2.1.1,x.2.2.2⟩
theorem mem_take_succ {α:Type} {l:List α} {i:Nat} (hi:i<l.length) {p:α→Prop} (h:∀ x∈l.take i,p x) (h' :p l[i]):∀ x∈l.take (i+1),p x:=fun x hx=>by
 rw [List.take_succ_eq_append_getElem hi,List.mem_append,List.mem_singleton] at hx
 rcases hx with hx|rfl
 ·exact h x hx
 ·exact h'
theorem recN_le {x:RecT} (h:RecOk big x):recN x≤3*big:=by
 obtain ⟨h0,h1,h2,h3⟩:=h;unfold recN big at *
 omega
theorem rootN_le {x:RootT} (h:RootOk big x):rootN x≤3*big:=by
 obtain ⟨h0,h1⟩:=h;unfold rootN big at *
 omega
def WrP (tW u8 st:TypeId) (b:Nat) (s:WSt):SProp:=fun m=>∃ p:((Option Addr × Nat) × (Option Addr × Nat)) × (Int × (Option Addr × Nat × Nat) × (Option Addr × Nat × Nat)),
 Sat [obj b tW [.slice p.1.1.1 s.out.length p.1.1.2,.string (str s.key),.int .i64 s.rep,.int .i64 s.shard,.int .i64 p.2.1,.slice p.2.2.1.1 p.2.2.1.2.1 p.2.2.1.2.2,.slice p.2.2.2.1 p.2.2.2.2.1 p.2.2.2.2.2,.int .i64 s.last,.slice p.1.2.1 s.seen.length p.1.2.2],
  OwnP Rp.u8 u8 (.slice p.1.1.1 s.out.length p.1.1.2) s.out,OwnP Rp.str st (.slice p.1.2.1 s.seen.length p.1.2.2) s.seen] m
end Go.Sp
