/- Texts of this proof. -/
import Derived.Test.YtodhbhanmdfdeaaGreatQSlaw3
open Go Go.Sp Go.Proofs.Tryz
set_option maxRecDepth 100000
set_option maxHeartbeats 1000000
attribute [local irreducible] obj Own OwnP
namespace Go.Proofs.YtodhbhanmdfdeaaGreat
def markL (k n:Nat):List UInt8:=(List.range n).map fun (i:Nat)=>markB (k:Int) (i:Int)
@[simp] theorem markL_length (k n:Nat):(markL k n).length=n:=by simp [markL]
def markX (k n i:Nat):List UInt8:=(List.range i).map fun (q:Nat)=>markB (k:Int) ((n:Int)+(q:Int))
@[simp] theorem markX_length (k n i:Nat):(markX k n i).length=i:=by simp [markX]
def markM (j n i:Nat):List UInt8:=(List.range i).map fun (q:Nat)=>markB ((j:Int)+(n:Int)) (q:Int)
@[simp] theorem markM_length (j n i:Nat):(markM j n i).length=i:=by simp [markM]
def recQ (N:Nat) (x:RecT):Prop:=x.2.2.2.1.length≤N∧x.2.2.2.2.2.1.length≤N∧x.2.2.2.2.2.2.1.length≤N
def markLI (k n:Nat):List Int:=(List.range n).map fun (i:Nat)=>markZ (k:Int) (i:Int)
@[simp] theorem markL_lengthI (k n:Nat):(markLI k n).length=n:=by simp [markLI]
def markXI (k n i:Nat):List Int:=(List.range i).map fun (q:Nat)=>markZ (k:Int) ((n:Int)+(q:Int))
@[simp] theorem markX_lengthI (k n i:Nat):(markXI k n i).length=i:=by simp [markXI]
def markMI (j n i:Nat):List Int:=(List.range i).map fun (q:Nat)=>markZ ((j:Int)+(n:Int)) (q:Int)
@[simp] theorem markM_lengthI (j n i:Nat):(markMI j n i).length=i:=by simp [markMI]
theorem triedSP_ret {g:Gr} {be bx:Nat} {x:Value} {z:Int} {T1 T2:TypeId} {w:World} {R:Ending→World→Prop} {η:List SProp} (hw:Holds w g (obj bx T1 [x]::obj be T2 [.int .i64 z]::η)) (hR:∀ w,Holds w g (obj bx T1 [x]::obj be T2 [.int .i64 z]::η)→R (.returned (.tuple #[x,.int .i64 z])) w) :
  CallsD prog 222 #[.pointer (some ⟨be,0,none⟩),.pointer (some ⟨bx,0,none⟩)] .returning w (DPost2 prog g bx be 155 32 R):=by
 refine (callsD_rec (R:=fun e w=>(∃ v,e=.returned v)∧Holds w g (obj bx T1 [x]::obj be T2 [.int .i64 z]::η)) [.pointer (some ⟨be,0,none⟩),.pointer (some ⟨bx,0,none⟩)] rfl func222 rfl rfl rfl rfl hw ?_).mono ?_
 rotate_left
 ·rintro e u' w' ⟨rfl,⟨v,rfl⟩,h⟩
  exact ⟨⟨v,rfl⟩,rfl,T1,T2,_,_,_,_,η,h,LoadsAs.flat flat155,LoadsAs.flat flat32,hR w' h⟩
 refine S.seq<|S.region rfl<|O.q 1 rfl<|O.op (.p rfl) (.neqIN underlying20 rfl)<|O.nil<|S.condF rfl<|S.skip<|S.end0 results222 fun w hw=>?_;exact ⟨⟨_,rfl⟩,hw⟩
theorem triedSP_pan {g:Gr} {be bx:Nat} {x:Value} {z z' :Int} {T1 T2:TypeId} {w:World} {R:Ending→World→Prop} {η:List SProp} (hw:Holds w g (obj bx T1 [x]::obj be T2 [.int .i64 z']::η))
  (hR:∀ w,Holds w g (obj bx T1 [.pointer none]::obj be T2 [.int .i64 z]::η)→R (.returned (.tuple #[.pointer none,.int .i64 z])) w) :
  CallsD prog 222 #[.pointer (some ⟨be,0,none⟩),.pointer (some ⟨bx,0,none⟩)] (.panicking (errP 32 z)) w (DPost2 prog g bx be 155 32 R):=by
 refine (callsD_rec (R:=fun e w=>(∃ v,e=.returned v)∧Holds w g (obj bx T1 [.pointer none]::obj be T2 [.int .i64 z]::η)) [.pointer (some ⟨be,0,none⟩),.pointer (some ⟨bx,0,none⟩)] rfl func222 rfl rfl rfl rfl hw ?_).mono ?_
 rotate_left
 ·rintro e u' w' ⟨rfl,⟨v,rfl⟩,h⟩
  exact ⟨⟨v,rfl⟩,rfl,T1,T2,_,_,_,_,η,h,LoadsAs.flat flat155,LoadsAs.flat flat32,hR w' h⟩
 refine S.seq<|S.region rfl<|O.q 1 rfl<|O.op (.p rfl) (.neqIV underlying20 rfl)<|O.nil<|S.condT rfl<|S.seq<|S.region rfl<|O.q 1 rfl<|O.nil<|S.seq<|S.seq<|S.region rfl<|O.q 1 rfl<|O.op (.p rfl) (.assertYes underlying32 rfl)<|O.q 3 rfl<|O.opU rfl (.store1 flat32 rfl rfl zK zD zH) ?_;refine O.q 1 rfl<|O.nil<|S.seq<|S.region rfl<|O.q 1 rfl<|O.op (.p rfl) (.not rfl)<|O.nil<|S.condF rfl<|S.skip<|S.seq<|S.region rfl<|O.q 1 rfl<|O.nil<|S.region rfl<|O.q 1 rfl<|O.opU rfl (.store1 flat155 rfl rfl zK zD zH) ?_;refine O.nil<|S.end0 results222 fun w hw=>?_;exact ⟨⟨_,rfl⟩,hw.picks zO⟩
theorem triedSP_c {r:Fr} {f:Nat} {first cap:Array Value} {K:Value→List SProp→Prop} {X:Int→Prop} (hc:callable prog f=true) (hf1:(Value.func (.func f) first cap).oneCell' =true) (hK1:∀ u ζ,K u ζ→u.oneCell' =true)
  (con:Con prog f (first++#[]++cap) r [] (RetP K (fun ch η=>∃ z,ch=errP 32 z∧X z∧η=[]))) :
  Con prog 120 #[.func (.func f) first cap] r [] (Ret fun v η=>(∃ u,K u η∧v=.tuple #[u,.int .i64 0])∨(∃ z,X z∧η=[]∧v=.tuple #[.pointer none,.int .i64 z])):=by
 refine Con.of (n:=7) [.func (.func f) first cap] rfl func120 rfl rfl rfl fun g hg R hR=>?_;refine S.seq<|S.region rfl<|O.opE (.p rfl) (.alloc (cs:=[.pointer none]) zeroValue155 rfl) ?_;rintro _ _ ⟨b2,rfl,rfl⟩;refine O.opE (.p rfl) (.alloc (cs:=[.int .i64 0]) zeroValue32 rfl) ?_;rintro _ _ ⟨b3,rfl,rfl⟩;refine O.nil<|S.seq<|S.region rfl<|O.op (.p rfl) (.mkFunc rfl rfl)<|O.defer rfl rfl rfl rfl ?_;refine O.nil<|S.seq<|S.region rfl<|O.q 1 rfl<|O.callP0D (.p rfl) rfl hc rfl rfl (con.sub hg) (fun a ch η' w hF hX hW=>by (obtain ⟨z,rfl,hx,rfl⟩:=hX;exact leavesCell2 results120 hF rfl rfl zI zB (triedSP_pan (hW.picks zO) fun w hw=>Holds.end_ hR hw ⟨_,.inr ⟨z,hx,rfl,rfl⟩,by repeat (first|exact zpa|exact zpn|(apply zpc;focus (repeat (first|exact zh|apply zt)))|apply zps)⟩))) ?_;rintro v6 _ hk6
 try simp only [zx1,zx2,zx3]
 have hone:=hK1 _ _ hk6;refine O.perm (List.perm_append_comm) ?_;simp only [List.cons_append,List.nil_append];refine O.opU rfl (.store1 flat155 rfl rfl zK zD zH) ?_;refine O.opU rfl (.store1 flat32 rfl rfl zK zD zH) ?_;refine O.nil<|S.retL fun a w hf hd hw=>?_;exact leavesCell2 results120 hf rfl rfl zI zB (triedSP_ret (hw.picks zO) fun w hw=>Holds.end_ hR hw ⟨_,.inl ⟨_,hk6,rfl⟩,by repeat (first|exact zpa|exact zpn|(apply zpc;focus (repeat (first|exact zh|apply zt)))|apply zps)⟩)
theorem sright1_c {r:Fr} {p:Nat} {va:Value} {xs:List RecT} (hp:At r ⟨p,0,none⟩ [va]) (ha:Arr RecRp r va xs) (hl:xs.length≤100000000000) :
  Con prog 121 (#[]++#[]++#[.pointer (some ⟨p,0,none⟩)]) r [] (RetP (fun v η=>SRight xs∧∃ b,v=.pointer (some ⟨b,0,none⟩)∧η=[RowP r 148 158 5 b xs]) (fun ch η=>∃ z,ch=errP 32 z∧(¬ SRight xs∧z=4)∧η=[])):=by
 refine Con.of (n:=4) [.pointer (some ⟨p,0,none⟩)] rfl func121 rfl rfl rfl fun g hg R hR=>?_;have hp:=hp.mono hg;obtain ⟨a1,c1,rfl⟩:=ha.shape;refine S.seq<|S.region rfl<|O.q 1 rfl<|O.nil<|S.seq<|S.region rfl<|O.op (.p rfl) (.loadAt flat47 rfl hp rfl) ?_;refine O.callP0 (.p rfl) rfl zB rfl rfl (((rowOf_c ha hl).sub hg)) (fun ch η' w hX hW=>by (obtain ⟨hb,rfl,rfl⟩:=hX;exact hR _ _ w ⟨4,rfl,⟨hb,rfl⟩,rfl⟩ hW.drop_all)) ?_;rintro _ _ ⟨hright,b3,rfl,rfl⟩
 try simp only [zx1,zx2,zx3]
 refine O.q 1 rfl<|O.nil ?_;exact S.rt results121 rfl hR ⟨hright,b3,rfl,rfl⟩
theorem sRight_c {r:Fr} {va:Value} {xs:List RecT} (ha:Arr RecRp r va xs) (hl:xs.length≤100000000000) :
  Con prog 45 #[va] r [] (Ret fun v η=>v=.bool (decide (SRight xs))∧η=[]):=by
 refine Con.of (n:=12) _ rfl func45 rfl rfl rfl fun g hg R hR=>?_;have ha:=ha.mono hg;obtain ⟨a1,c1,rfl⟩:=ha.shape;refine S.seq<|S.region rfl<|O.opE (.p rfl) (.box (cs:=[_]) rfl rfl) ?_;rintro _ _ ⟨b1,rfl,rfl⟩;refine O.q 1 rfl<|O.nil<|S.seq<|S.frzO zD fun g hs hm hb1=>?_;replace hg:=Fr.sub_trans hg hs;replace hR:=melted hR hm
 try replace ha:=ha.mono hs
 clear hs hm;have con:=triedSP_c zB (first:=#[]) (cap:=#[.pointer (some ⟨b1,0,none⟩)]) rfl (fun _ _ h=>by obtain ⟨_,_,rfl,_⟩:=h;rfl) (sright1_c hb1 ha hl)
 by_cases e:SRight xs
 ·
  refine S.region rfl<|O.op (.p rfl) (.mkFunc rfl rfl)<|O.call0 (.p rfl) rfl zB rfl rfl ((con.mono (Ret.imp (K' :=fun v η=>∃ b,v=.tuple #[.pointer (some ⟨b,0,none⟩),.int .i64 0]∧η=[RowP g.h 148 158 5 b xs]) fun v η h=>by rcases h with ⟨_,⟨_,b,rfl,h3⟩,rfl⟩|⟨_,⟨h2,_⟩,_⟩;exact ⟨b,rfl,h3⟩;exact absurd e h2))) ?_;rintro _ _ ⟨b7,rfl,rfl⟩
  try simp only [zx1,zx2,zx3]
  refine O.q 5 rfl<|O.nil<|S.seq<|S.region rfl<|O.q 1 rfl<|O.op (.p rfl) (.eql rfl rfl)<|O.q 1 rfl<|O.nil ?_;exact S.rt results45 rfl hR ⟨by simp [e],rfl⟩
 ·
  refine S.region rfl<|O.op (.p rfl) (.mkFunc rfl rfl)<|O.call0 (.p rfl) rfl zB rfl rfl ((con.mono (Ret.imp (K' :=fun v η=>v=.tuple #[.pointer none,.int .i64 4]∧η=[]) fun v η h=>by rcases h with ⟨_,⟨h2,_⟩,_⟩|⟨_,⟨_,rfl⟩,rfl,rfl⟩;exact absurd h2 e;exact ⟨rfl,rfl⟩))) ?_;rintro _ _ ⟨rfl,rfl⟩
  try simp only [zx1,zx2,zx3]
  refine O.q 5 rfl<|O.nil<|S.seq<|S.region rfl<|O.q 1 rfl<|O.op (.p rfl) (.eql rfl rfl)<|O.q 1 rfl<|O.nil ?_;exact S.rt results45 rfl hR ⟨by simp [e],rfl⟩
theorem recsOk_of {n:Nat} {l:List RecT} (hn:n≤2500) (hc:RecsC n l):l.length≤2500∧∀ x∈l,RecOk 100000000000 x:=by
 refine ⟨Nat.le_trans hc.1 hn,fun x hx=>?_⟩;have:=hc.2 x hx;unfold recN at this;exact ⟨by omega,by omega,by omega,by omega⟩
def pick (x n:Int):Int:=if n<1 then 0 else if x.tmod n<0 then x.tmod n+n else x.tmod n
theorem jGetY {l:List RecT} (h:oneK l=true):joinO l=joinL l∧joinE l=0:=by
 have:jGet l=some (joinL l):=by rw [jGet,if_pos h]
 exact ⟨by simp [joinO,this],by simp [joinE,this]⟩
theorem jGetN {l:List RecT} (h:¬ oneK l=true):joinO l=[]∧joinE l=4:=by
 have:jGet l=none:=by rw [jGet,if_neg h]
 exact ⟨by simp [joinO,this],by simp [joinE,this]⟩
theorem Arr.cellsOf {α:Type} {T:Rp α} {h:Fr} {v:Value} {xs:List α} (z:Arr T h v xs):∃ css,Arr (Rp.cells T.k) h v css∧All2 (T.rel h) css xs:=by
 obtain ⟨css,h1,h2⟩:=z;have hl:=h1.length;refine ⟨css,⟨css,?_,by rw [hl];exact h2⟩,h1⟩;clear h2 hl
 induction css generalizing xs with
 |nil=>trivial
 |cons c css ih =>
  cases xs with
  |nil=>exact h1.elim
  |cons x xs=>exact ⟨⟨rfl,T.len h1.1,T.one h1.1⟩,ih h1.2⟩
theorem All2.appR {α β:Type} {R:α→β→Prop}:∀ {ps cs:List α} {bs ds:List β},All2 R ps bs→All2 R cs ds→All2 R (ps++cs) (bs++ds)
 |[],_,[],_,_,h=>h
 |_::_,_,_::_,_,⟨h1,h2⟩,h=>⟨h1,All2.appR h2 h⟩
 |[],_,_::_,_,h,_=>h.elim
 |_::_,_,[],_,h,_=>h.elim
theorem joinO_self {l:List RecT} (h:SRight l):joinO (l++l)=l∧joinE (l++l)=0:=by
 obtain ⟨e1,e2⟩:=jGetY (l:=l++l) (oneK_of h.1 fun x hx=>by rcases List.mem_append.1 hx with q|q<;>exact q);exact ⟨by rw [e1,joinL_self h],e2⟩
theorem joinO_ok (l:List RecT):(∀ x∈joinO l,x∈l)∧RisesR (joinO l)∧(∀ x∈joinO l,∀ y∈joinO l,over x y=false)∧(joinE l=0∨joinO l=[]∧joinE l=4)∧(joinO l).length≤l.length:=by
 by_cases h:oneK l=true
 ·obtain ⟨e1,e2⟩:=jGetY h
  have ho:=oneK_all h;rw [e1,e2];exact ⟨joinL_sub ho,joinL_rises l,fun x hx y hy=>joinL_over ho hy hx,.inl rfl,joinL_le l⟩
 ·obtain ⟨e1,e2⟩:=jGetN h
  rw [e1,e2];exact ⟨fun _ q=>(by cases q),.nil,fun _ q=>(by cases q),.inr ⟨rfl,rfl⟩,Nat.zero_le _⟩
theorem any_mem {l:List RecT} {x:RecT} (h:x∈l):(l.any fun y=>decide (x=y))=true:=List.any_eq_true.2 ⟨x,h,decide_eq_true rfl⟩
theorem siblingFrom_c {r:Fr} {va vb:Value} {xs ys:List RecT} (ha:Arr RecRp r va xs) (ho:xs.length≤big∧∀ x∈xs,RecOk big x) (hb:Arr RecRp r vb ys) (ho' :ys.length≤big∧∀ x∈ys,RecOk big x) :
  Con prog 10 #[va,vb] r [] (Ret fun v η=>v=.bool true∧η=[]):=by
 obtain ⟨ax,cx,rfl⟩:=ha.shape;obtain ⟨ay,cy,rfl⟩:=hb.shape;refine Con.of (n:=151) _ rfl func10 rfl rfl rfl fun g hg R hR=>?_;have ha:=ha.mono hg;have hb:=hb.mono hg;refine S.seq<|S.region rfl<|O.q 1 rfl<|O.nil<|S.seq<|S.seq<|S.region rfl<|O.call0 (.p rfl) rfl zB rfl rfl (sawake_c) ?_;rintro _ _ ⟨rfl,rfl⟩
 try simp only [zx1,zx2,zx3]
 refine O.sT 14 rfl (by first|decide|simp) ?_;refine O.op (.p rfl) (.not rfl)<|O.nil<|S.condF rfl<|S.skip<|S.seq<|S.seq<|S.region rfl<|O.q 2 rfl<|O.opE (.p rfl) (.litP (T:=Rp.cells 1) (ys:=[[.slice ax xs.length cx],[.slice ay ys.length cy]]) underlying65 elem47 zF rfl rfl ⟨⟨rfl,rfl,by first|(simp;done)|(intro v hv;simp [Value.cells] at hv;rcases hv with rfl|rfl<;>rfl)|(refine List.forall_mem_cons.2 ⟨rfl,?_⟩;repeat (first|exact (fun _ h=>absurd h List.not_mem_nil)|refine List.forall_mem_cons.2 ⟨rfl,?_⟩))⟩,⟨rfl,rfl,by first|(simp;done)|(intro v hv;simp [Value.cells] at hv;rcases hv with rfl|rfl<;>rfl)|(refine List.forall_mem_cons.2 ⟨rfl,?_⟩;repeat (first|exact (fun _ h=>absurd h List.not_mem_nil)|refine List.forall_mem_cons.2 ⟨rfl,?_⟩))⟩,trivial⟩ zF) ?_;rintro _ _ ⟨a18,c18,rfl,rfl⟩;refine O.frzA zD fun g hs hm ha18=>?_;replace hg:=Fr.sub_trans hg hs;replace hR:=melted hR hm
 try replace ha:=ha.mono hs
 try replace hb:=hb.mono hs
 clear hs hm;refine O.call0 (.p rfl) rfl zB rfl rfl ((great_c (ss:=[xs,ys]) (Arr.ofCells ha18 ⟨⟨_,rfl,ha⟩,⟨_,rfl,hb⟩,trivial⟩ rfl) (fun l hl=>by rcases List.mem_cons.1 hl with h|h;rw [h];exact ho;rw [List.mem_singleton.1 h];exact ho') zI)) ?_;rintro v19 _ ⟨gr,rfl,hgr,rfl⟩
 try simp only [zx1,zx2,zx3]
 refine O.q 1 rfl ?_
 first|refine O.caseD 20 rfl (fun h20=>?_) (fun h20=>?_)|refine O.caseB 20 rfl (fun h20=>?_) (fun h20=>?_)
 ·refine O.q 7 rfl<|O.nil<|S.condT rfl<|S.seq<|S.region rfl<|O.q 1 rfl<|O.nil ?_
  exact S.rt results10 rfl hR ⟨rfl,rfl⟩
 ·obtain ⟨hl,hk⟩:=recsOk_of (Nat.le_refl _) (hgr h20 xs List.mem_cons_self)
  obtain ⟨hl',hk'⟩:=recsOk_of (Nat.le_refl _) (hgr h20 ys (List.mem_cons_of_mem _ List.mem_cons_self));refine O.q 1 rfl<|O.op (.g rfl rfl) (.len rfl underlying47 rfl)<|O.q 1 rfl<|O.op (.g rfl rfl) (.len rfl underlying47 rfl)<|O.op (.g rfl rfl) (.add rfl rfl (IntWalk.i64_in _ zE))<|O.op (.g rfl rfl) (.gtr rfl rfl)<|O.q 1 rfl<|O.nil ?_
  first|refine S.condD rfl (fun h27=>?_) (fun h27=>?_)|refine S.condB rfl (fun h27=>?_) (fun h27=>?_)
  ·refine S.seq<|S.region rfl<|O.q 1 rfl<|O.nil ?_
   exact S.rt results10 rfl hR ⟨rfl,rfl⟩
  ·refine S.skip<|S.seq<|S.seq<|S.cut2 (fun (u:Unit)=>True) (fun (u:Unit)=>[]) [(0,_),(1,_)] (fun (u:Unit)=>[]) (.cons rfl (.cons rfl (.nil))) (fun key=>?_) (fun u hx=>?_)
   ·have hm1:=meltRefl (g:=g)
    by_cases ew:SRight xs
    ·obtain ⟨e1,e2⟩:=joinO_self ew
     have e3:[xs,xs].flatten=xs++xs:=by simp
     refine S.region rfl<|O.q 1 rfl<|O.call0 (.p rfl) rfl zB rfl rfl ((sRight_c ha zE)) ?_;rintro _ _ ⟨rfl,rfl⟩
     try simp only [zx1,zx2,zx3]
     refine O.sT 29 rfl (by exact decide_eq_true ew) ?_;refine O.nil<|S.condT rfl<|S.seq<|S.region rfl<|O.q 2 rfl<|O.opE (.p rfl) (.litP (T:=Rp.cells 1) (ys:=[[.slice ax xs.length cx],[.slice ax xs.length cx]]) underlying65 elem47 zF rfl rfl ⟨⟨rfl,rfl,by first|(simp;done)|(intro v hv;simp [Value.cells] at hv;rcases hv with rfl|rfl<;>rfl)|(refine List.forall_mem_cons.2 ⟨rfl,?_⟩;repeat (first|exact (fun _ h=>absurd h List.not_mem_nil)|refine List.forall_mem_cons.2 ⟨rfl,?_⟩))⟩,⟨rfl,rfl,by first|(simp;done)|(intro v hv;simp [Value.cells] at hv;rcases hv with rfl|rfl<;>rfl)|(refine List.forall_mem_cons.2 ⟨rfl,?_⟩;repeat (first|exact (fun _ h=>absurd h List.not_mem_nil)|refine List.forall_mem_cons.2 ⟨rfl,?_⟩))⟩,trivial⟩ zF) ?_;rintro _ _ ⟨a33,c33,rfl,rfl⟩;refine O.frzA zD fun g hs hm ha33=>?_;replace hg:=Fr.sub_trans hg hs;replace hR:=melted hR hm
     try replace ha:=ha.mono hs
     try replace hb:=hb.mono hs
     try replace ha18:=ha18.mono hs
     replace hm1:=meltTrans hm1 hm;clear hs hm;refine O.call0 (.p rfl) rfl zB rfl rfl ((sJoin_c (ss:=[xs,xs]) (Arr.ofCells ha33 ⟨⟨_,rfl,ha⟩,⟨_,rfl,ha⟩,trivial⟩ rfl) (by rw [e3,List.length_append];omega))) ?_;rintro _ _ ⟨a34,c34,rfl,rfl⟩
     try simp only [zx1,zx2,zx3]
     rw [e3,e1,e2];refine O.q 5 rfl<|O.nil<|S.seq<|S.frzG (T:=RecRp) rfl zD fun g hs hm hx=>?_;replace hg:=Fr.sub_trans hg hs;replace hR:=melted hR hm
     try replace ha:=ha.mono hs
     try replace hb:=hb.mono hs
     try replace ha18:=ha18.mono hs
     try replace ha33:=ha33.mono hs
     replace hm1:=meltTrans hm1 hm;clear hs hm;refine S.region rfl<|O.q 1 rfl<|O.op (.p rfl) (.neq rfl rfl)<|O.sF 38 rfl zF ?_;refine O.q 3 rfl<|O.call0 (.g rfl rfl) rfl zB rfl rfl ((sameRecords_c hx ha)) ?_;rintro _ _ ⟨rfl,rfl⟩
     try simp only [zx1,zx2,zx3]
     refine O.sT 42 rfl zI ?_;refine O.op (.g rfl rfl) (.not rfl)<|O.q 1 rfl<|O.nil<|S.condF rfl<|S.skip<|S.pk ?_ (S.melt hm1 (S.weaken ?_ (key (()) (by trivial))))
     ·repeat (first|exact zpa|exact zpn|(apply zpc;focus (repeat (first|exact zh|apply zt)))|apply zps)
     repeat (first|exact Sub.nil|refine Sub.cons rfl ?_)
    ·
     refine S.region rfl<|O.q 1 rfl<|O.call0 (.p rfl) rfl zB rfl rfl ((sRight_c ha zE)) ?_;rintro _ _ ⟨rfl,rfl⟩
     try simp only [zx1,zx2,zx3]
     refine O.sF 29 rfl (by exact decide_eq_false ew) ?_;refine O.nil<|S.condF rfl<|S.skip<|S.pk ?_ (S.weaken ?_ (key (()) (by trivial)))
     ·repeat (first|exact zpa|exact zpn|(apply zpc;focus (repeat (first|exact zh|apply zt)))|apply zps)
     repeat (first|exact Sub.nil|refine Sub.cons rfl ?_)
   ·have e3:[xs,ys].flatten=xs++ys:=by simp
    have hla:(xs++ys).length≤5000:=by rw [List.length_append];omega
    obtain ⟨hL1,hL2,hL3,hL4,hL5⟩:=joinO_ok (xs++ys);obtain ⟨csx,hcx,hrx⟩:=Arr.cellsOf ha;obtain ⟨csy,hcy,hry⟩:=Arr.cellsOf hb;have hlx:=hrx.length;have hly:=hry.length;rw [show RecRp.k=7 from rfl] at hcx hcy;have hg0:=Fr.sub_refl g.h;refine S.seq<|S.region rfl<|O.q 2 rfl<|O.opE (.p rfl) (.litP (T:=Rp.cells 1) (ys:=[[.slice ax xs.length cx],[.slice ay ys.length cy]]) underlying65 elem47 zF rfl rfl ⟨⟨rfl,rfl,by first|(simp;done)|(intro v hv;simp [Value.cells] at hv;rcases hv with rfl|rfl<;>rfl)|(refine List.forall_mem_cons.2 ⟨rfl,?_⟩;repeat (first|exact (fun _ h=>absurd h List.not_mem_nil)|refine List.forall_mem_cons.2 ⟨rfl,?_⟩))⟩,⟨rfl,rfl,by first|(simp;done)|(intro v hv;simp [Value.cells] at hv;rcases hv with rfl|rfl<;>rfl)|(refine List.forall_mem_cons.2 ⟨rfl,?_⟩;repeat (first|exact (fun _ h=>absurd h List.not_mem_nil)|refine List.forall_mem_cons.2 ⟨rfl,?_⟩))⟩,trivial⟩ zF) ?_;rintro _ _ ⟨a48,c48,rfl,rfl⟩;refine O.frzA zD fun g hs hm ha48=>?_;replace hg:=Fr.sub_trans hg hs;replace hR:=melted hR hm
    try replace ha:=ha.mono hs
    try replace hb:=hb.mono hs
    try replace ha18:=ha18.mono hs
    try replace hcx:=hcx.mono hs
    try replace hcy:=hcy.mono hs
    try replace hg0:=hg0.mono hs
    clear hs hm;refine O.call0 (.p rfl) rfl zB rfl rfl ((sJoin_c (ss:=[xs,ys]) (Arr.ofCells ha48 ⟨⟨_,rfl,ha⟩,⟨_,rfl,hb⟩,trivial⟩ rfl) (by rw [e3];omega))) ?_;rintro _ _ ⟨a49,c49,rfl,rfl⟩
    try simp only [zx1,zx2,zx3]
    rw [e3];refine O.q 5 rfl<|O.nil<|S.seq<|S.frzG (T:=RecRp) rfl zD fun g hs hm hL=>?_;replace hg:=Fr.sub_trans hg hs;replace hR:=melted hR hm
    try replace ha:=ha.mono hs
    try replace hb:=hb.mono hs
    try replace ha18:=ha18.mono hs
    try replace hcx:=hcx.mono hs
    try replace hcy:=hcy.mono hs
    try replace hg0:=hg0.mono hs
    try replace ha48:=ha48.mono hs
    clear hs hm;refine S.region rfl<|O.opE (.p rfl) (.litP (T:=Rp.cells 7) (ys:=[]) underlying47 elem74 zF rfl rfl trivial zF) ?_;rintro _ _ ⟨a52,c52,rfl,rfl⟩;refine O.q 1 rfl<|O.opE (.p rfl) (.appendP (T:=(Rp.cells 7)) (pure_cells 7) underlying47 elem74 zF rfl rfl zD (by first|assumption|exact Arr.mono hg zC|exact Arr.left zC|exact Arr.left (Arr.mono hg zC)) zJ zJ) ?_;rintro _ _ ⟨a54,c54,rfl,rfl⟩;refine O.q 1 rfl<|O.opE (.p rfl) (.appendP (T:=(Rp.cells 7)) (pure_cells 7) underlying47 elem74 zF rfl rfl zD (by first|assumption|exact Arr.mono hg zC|exact Arr.left zC|exact Arr.left (Arr.mono hg zC)) zJ zJ) ?_;rintro _ _ ⟨a56,c56,rfl,rfl⟩;refine O.q 1 rfl<|O.nil<|S.seq<|S.seq<|S.frz (A:=OwnP (Rp.cells 7) 74 (.slice a56 (([]++csx).length+csy.length) c56) (([]++csx)++csy)) zD fun g hs hm ⟨_,x',s'⟩=>?_;have hall:=(fun s x=>Arr.ofCells (T:=RecRp) (xs:=xs++ys) ((OwnP.arr x).mono s) (All2.appR (All2.imp (fun _ _ q=>Rp.mono RecRp (Fr.sub_trans hg0 hs) q) hrx) (All2.imp (fun _ _ q=>Rp.mono RecRp (Fr.sub_trans hg0 hs) q) hry)) rfl) s' x';clear x' s';replace hg:=Fr.sub_trans hg hs;replace hR:=melted hR hm
    try replace ha:=ha.mono hs
    try replace hb:=hb.mono hs
    try replace ha18:=ha18.mono hs
    try replace hcx:=hcx.mono hs
    try replace hcy:=hcy.mono hs
    try replace hg0:=hg0.mono hs
    try replace ha48:=ha48.mono hs
    try replace hL:=hL.mono hs
    try replace hL:=hL.mono hs
    clear hs hm;have hln:([]++csx).length+csy.length=(xs++ys).length:=by rw [List.nil_append,List.length_append,hlx,hly]
    rw [hln] at hall ⊢;generalize xs++ys=al at *;generalize joinO al=L at *;refine S.region rfl<|O.q 1 rfl<|O.nil<|S.block<|S.loopK (ι:=Nat) (fun i=>i≤L.length) (fun i=>[(10,.int .i64 (i:Int))]) [(7,_),(8,_),(9,_)] (fun i=>[]) (fun i=>L.length - i) (0) zI (.cons rfl (.nil)) (.cons rfl (.cons rfl (.cons rfl (.nil)))) rfl fun i hx ih=>?_;have hm1:=meltRefl (g:=g);refine S.seq<|S.seq<|S.region rfl<|O.q 2 rfl<|O.op (.p rfl) (.len rfl underlying47 rfl)<|O.op (.p rfl) (.lss rfl rfl)<|O.nil ?_
    first|refine S.condD rfl (fun h60=>?_) (fun h60=>?_)|refine S.condB rfl (fun h60=>?_) (fun h60=>?_)
    ·have hi:i<L.length:=by omega
     have hmi:=List.getElem_mem hi;refine S.skip<|S.seq<|S.block<|S.seq<|S.region rfl<|O.q 1 rfl<|O.nil<|S.seq<|S.seq<|S.region rfl<|O.q 1 rfl<|O.nil<|S.block<|S.loopK2 (ι:=Nat) (κ:=Bool) (fun k f=>k≤al.length∧f=((al.take k).any fun y=>decide (L[i]=y))) (fun k f=>[(12,.int .i64 (k:Int)),(11,.bool f)]) [(7,_),(8,_),(9,_),(10,_)] (fun k f=>[]) (fun k f=>al.length - k) (0) (false) (by exact ⟨by omega,rfl⟩) (.cons rfl (.cons rfl (.nil))) (.cons rfl (.cons rfl (.cons rfl (.cons rfl (.nil))))) rfl fun k f hx ih=>?_;have hm2:=meltRefl (g:=g);obtain ⟨hk1,hf⟩:=hx;refine S.seq<|S.seq<|S.region rfl<|O.q 2 rfl<|O.op (.p rfl) (.len rfl underlying47 rfl)<|O.op (.p rfl) (.lss rfl rfl)<|O.nil ?_
     first|refine S.condD rfl (fun h66=>?_) (fun h66=>?_)|refine S.condB rfl (fun h66=>?_) (fun h66=>?_)
     ·have hk:k<al.length:=by omega
      have hnx:((al.take (k+1)).any fun y=>decide (L[i]=y))=(f ||decide (L[i]=al[k])):=by rw [List.take_succ_eq_append_getElem hk,List.any_append,← hf];simp
      cases f with
      |true =>
       refine S.skip<|S.seq<|S.block<|S.regionD (L:=[0,1,2,3,4,5,6,7,8,9,10,11,12]) F.mixed zB<|OD.q 2 rfl<|OD.sT 70 rfl (by rfl) ?_;refine OD.q 11 rfl<|ODx.nil<|S.inBlock<|S.region rfl<|O.q 1 rfl<|O.op (.p rfl) (.add rfl rfl (IntWalk.i64_in _ zE))<|O.q 1 rfl<|O.nil ?_;exact S.wk (ih (k+1) (true) (by exact ⟨by omega,by rw [hnx];rfl⟩) zE)
      |false =>
       refine S.skip<|S.seq<|S.block<|S.regionD (L:=[0,1,2,3,4,5,6,7,8,9,10,11,12]) F.mixed zB<|OD.q 2 rfl<|OD.sF 70 rfl (by rfl) ?_;refine OD.q 2 rfl<|OD.ia (.g rfl rfl) underlying47 size74 rfl rfl rfl (by first|assumption|exact Arr.mono hg zC|exact Arr.left zC|exact Arr.left (Arr.mono hg zC)) (h:=fun p73 cs73 hp73 hr73=>?_);obtain ⟨ra3_73,ra5_73,ra6_73,rc3_73,rc5_73,rc6_73,rfl,ho0_73,ho1_73,ho2_73,ha3_73,ha5_73,ha6_73⟩:=RecRp.sh hr73;refine .quiet (.g rfl rfl) rfl (fun _=>.loadAgg isAgg74 zB rfl hp73) ?_;refine OD.q 2 rfl<|OD.ia (.g rfl rfl) underlying47 size74 rfl rfl rfl (by first|assumption|exact Arr.mono hg zC|exact Arr.left zC|exact Arr.left (Arr.mono hg zC)) (h:=fun p77 cs77 hp77 hr77=>?_);obtain ⟨ra3_77,ra5_77,ra6_77,rc3_77,rc5_77,rc6_77,rfl,ho0_77,ho1_77,ho2_77,ha3_77,ha5_77,ha6_77⟩:=RecRp.sh hr77;refine .quiet (.g rfl rfl) rfl (fun _=>.loadAgg isAgg74 zB rfl hp77) ?_;refine OD.call0 (.g rfl rfl) zB rfl zB rfl rfl (sameRecord_c (by first|assumption|exact Rp.rel.mono zC hg) (by first|assumption|exact Rp.rel.mono zC hg)) ?_;rintro _ _ ⟨rfl,rfl⟩
       try simp only [zx1,zx2,zx3]
       refine OD.q 2 rfl<|ODx.nil<|S.inBlock<|S.region rfl<|O.q 1 rfl<|O.op (.p rfl) (.add rfl rfl (IntWalk.i64_in _ zE))<|O.q 1 rfl<|O.nil ?_;exact S.wk (ih (k+1) (decide (L[i]=al[k])) (by exact ⟨by omega,by rw [hnx];rfl⟩) zE)
     ·clear ih
      have hk:k=al.length:=by omega
      subst hk;rw [List.take_length,any_mem (hL1 _ hmi)] at hf;subst hf;have hstep:∀ h0:0<i,cmpR (L[i - 1]'zE) L[i]<0:=fun h0=>risesR_step hL2 hi h0;refine S.exit rfl<|S.seq<|S.seq<|S.cut2 (fun (u:Unit)=>True) (fun (u:Unit)=>[(10,.int .i64 (i:Int))]) [(7,_),(8,_),(9,_)] (fun (u:Unit)=>[]) (.cons rfl (.cons rfl (.cons rfl (.nil)))) (fun key=>?_) (fun u hx=>?_)
      ·have hm3:=meltRefl (g:=g)
       by_cases h0:i=0
       ·
        refine S.regionD (L:=[0,1,2,3,4,5,6,7,8,9,10,11,12,13,14,15,16,17,18,19,20,21,22,23,24,25,26,27,28,29,30,31,32,33,34,35,36,37,38,39,40,41,42,43,44,45,46,47]) F.mixed zB ?_;refine OD.q 1 rfl<|OD.sT 81 rfl (by rfl) ?_;refine .quiet (.p rfl) rfl (fun _=>.not rfl)<|OD.q 2 rfl<|.quiet (.g rfl rfl) rfl (fun _=>.gtr rfl rfl)<|OD.sF 85 rfl (by exact decide_eq_false zE) ?_;refine OD.q 43 rfl<|ODx.nil<|S.condF rfl<|S.skip<|S.pk ?_ (S.weaken ?_ (key (()) (by trivial)))
        ·repeat (first|exact zpa|exact zpn|(apply zpc;focus (repeat (first|exact zh|apply zt)))|apply zps)
        repeat (first|exact Sub.nil|refine Sub.cons rfl ?_)
       ·have hst:=cmpR_lt.1 (hstep zE)
        by_cases hA:(L[i - 1]'zE).2.1<L[i].2.1
        ·
         refine S.regionD (L:=[0,1,2,3,4,5,6,7,8,9,10,11,12,13,14,15,16,17,18,19,20,21,22,23,24,25,26,27,28,29,30,31,32,33,34,35,36,37,38,39,40,41,42,43,44,45,46,47]) F.mixed zB ?_;refine OD.q 1 rfl<|OD.sT 81 rfl (by rfl) ?_;refine .quiet (.p rfl) rfl (fun _=>.not rfl)<|OD.q 2 rfl<|.quiet (.g rfl rfl) rfl (fun _=>.gtr rfl rfl)<|OD.sT 85 rfl (by exact decide_eq_true zE) ?_;refine OD.q 3 rfl<|.quiet (.g rfl rfl) rfl (fun _=>.sub rfl rfl (IntWalk.i64_in _ zE))<|OD.ia (.g rfl rfl) underlying47 size74 rfl rfl (show _=(((i-1):Nat):Int) by omega) (by first|assumption|exact Arr.mono hg zC|exact Arr.left zC|exact Arr.left (Arr.mono hg zC)) (h:=fun p90 cs90 hp90 hr90=>?_);obtain ⟨ra3_90,ra5_90,ra6_90,rc3_90,rc5_90,rc6_90,rfl,ho0_90,ho1_90,ho2_90,ha3_90,ha5_90,ha6_90⟩:=RecRp.sh hr90;refine .quiet (.g rfl rfl) rfl (fun _=>.fieldAddr fld74x1 rfl)<|.quiet (.g rfl rfl) rfl (fun _=>.loadAt flat3 rfl (hp90.drop 1) rfl) ?_;refine OD.q 2 rfl<|OD.ia (.g rfl rfl) underlying47 size74 rfl rfl rfl (by first|assumption|exact Arr.mono hg zC|exact Arr.left zC|exact Arr.left (Arr.mono hg zC)) (h:=fun p95 cs95 hp95 hr95=>?_);obtain ⟨ra3_95,ra5_95,ra6_95,rc3_95,rc5_95,rc6_95,rfl,ho0_95,ho1_95,ho2_95,ha3_95,ha5_95,ha6_95⟩:=RecRp.sh hr95
         refine .quiet (.g rfl rfl) rfl (fun _=>.fieldAddr fld74x1 rfl)<|.quiet (.g rfl rfl) rfl (fun _=>.loadAt flat3 rfl (hp95.drop 1) rfl) ?_;refine .quiet (.g rfl rfl) rfl (fun _=>.gtr rfl rfl)<|OD.sF 98 rfl (by exact decide_eq_false zE) ?_;refine OD.q 3 rfl<|.quiet (.g rfl rfl) rfl (fun _=>.sub rfl rfl (IntWalk.i64_in _ zE))<|OD.ia (.g rfl rfl) underlying47 size74 rfl rfl (show _=(((i-1):Nat):Int) by omega) (by first|assumption|exact Arr.mono hg zC|exact Arr.left zC|exact Arr.left (Arr.mono hg zC)) (h:=fun p103 cs103 hp103 hr103=>?_);obtain ⟨ra3_103,ra5_103,ra6_103,rc3_103,rc5_103,rc6_103,rfl,ho0_103,ho1_103,ho2_103,ha3_103,ha5_103,ha6_103⟩:=RecRp.sh hr103;refine .quiet (.g rfl rfl) rfl (fun _=>.fieldAddr fld74x1 rfl)<|.quiet (.g rfl rfl) rfl (fun _=>.loadAt flat3 rfl (hp103.drop 1) rfl) ?_;refine OD.q 2 rfl<|OD.ia (.g rfl rfl) underlying47 size74 rfl rfl rfl (by first|assumption|exact Arr.mono hg zC|exact Arr.left zC|exact Arr.left (Arr.mono hg zC)) (h:=fun p108 cs108 hp108 hr108=>?_);obtain ⟨ra3_108,ra5_108,ra6_108,rc3_108,rc5_108,rc6_108,rfl,ho0_108,ho1_108,ho2_108,ha3_108,ha5_108,ha6_108⟩:=RecRp.sh hr108;refine .quiet (.g rfl rfl) rfl (fun _=>.fieldAddr fld74x1 rfl)<|.quiet (.g rfl rfl) rfl (fun _=>.loadAt flat3 rfl (hp108.drop 1) rfl) ?_;refine .quiet (.g rfl rfl) rfl (fun _=>.eql rfl rfl)<|OD.sF 111 rfl (by exact decide_eq_false zE) ?_
         refine OD.q 17 rfl<|ODx.nil<|S.condF rfl<|S.skip<|S.pk ?_ (S.weaken ?_ (key (()) (by trivial)))
         ·repeat (first|exact zpa|exact zpn|(apply zpc;focus (repeat (first|exact zh|apply zt)))|apply zps)
         repeat (first|exact Sub.nil|refine Sub.cons rfl ?_)
        ·have hB:(L[i - 1]'zE).2.1=L[i].2.1∧(L[i - 1]'zE).2.2.1<L[i].2.2.1:=by omega
         refine S.regionD (L:=[0,1,2,3,4,5,6,7,8,9,10,11,12,13,14,15,16,17,18,19,20,21,22,23,24,25,26,27,28,29,30,31,32,33,34,35,36,37,38,39,40,41,42,43,44,45,46,47]) F.mixed zB ?_;refine OD.q 1 rfl<|OD.sT 81 rfl (by rfl) ?_;refine .quiet (.p rfl) rfl (fun _=>.not rfl)<|OD.q 2 rfl<|.quiet (.g rfl rfl) rfl (fun _=>.gtr rfl rfl)<|OD.sT 85 rfl (by exact decide_eq_true zE) ?_;refine OD.q 3 rfl<|.quiet (.g rfl rfl) rfl (fun _=>.sub rfl rfl (IntWalk.i64_in _ zE))<|OD.ia (.g rfl rfl) underlying47 size74 rfl rfl (show _=(((i-1):Nat):Int) by omega) (by first|assumption|exact Arr.mono hg zC|exact Arr.left zC|exact Arr.left (Arr.mono hg zC)) (h:=fun p90 cs90 hp90 hr90=>?_);obtain ⟨ra3_90,ra5_90,ra6_90,rc3_90,rc5_90,rc6_90,rfl,ho0_90,ho1_90,ho2_90,ha3_90,ha5_90,ha6_90⟩:=RecRp.sh hr90;refine .quiet (.g rfl rfl) rfl (fun _=>.fieldAddr fld74x1 rfl)<|.quiet (.g rfl rfl) rfl (fun _=>.loadAt flat3 rfl (hp90.drop 1) rfl) ?_;refine OD.q 2 rfl<|OD.ia (.g rfl rfl) underlying47 size74 rfl rfl rfl (by first|assumption|exact Arr.mono hg zC|exact Arr.left zC|exact Arr.left (Arr.mono hg zC)) (h:=fun p95 cs95 hp95 hr95=>?_);obtain ⟨ra3_95,ra5_95,ra6_95,rc3_95,rc5_95,rc6_95,rfl,ho0_95,ho1_95,ho2_95,ha3_95,ha5_95,ha6_95⟩:=RecRp.sh hr95
         refine .quiet (.g rfl rfl) rfl (fun _=>.fieldAddr fld74x1 rfl)<|.quiet (.g rfl rfl) rfl (fun _=>.loadAt flat3 rfl (hp95.drop 1) rfl) ?_;refine .quiet (.g rfl rfl) rfl (fun _=>.gtr rfl rfl)<|OD.sF 98 rfl (by exact decide_eq_false zE) ?_;refine OD.q 3 rfl<|.quiet (.g rfl rfl) rfl (fun _=>.sub rfl rfl (IntWalk.i64_in _ zE))<|OD.ia (.g rfl rfl) underlying47 size74 rfl rfl (show _=(((i-1):Nat):Int) by omega) (by first|assumption|exact Arr.mono hg zC|exact Arr.left zC|exact Arr.left (Arr.mono hg zC)) (h:=fun p103 cs103 hp103 hr103=>?_);obtain ⟨ra3_103,ra5_103,ra6_103,rc3_103,rc5_103,rc6_103,rfl,ho0_103,ho1_103,ho2_103,ha3_103,ha5_103,ha6_103⟩:=RecRp.sh hr103;refine .quiet (.g rfl rfl) rfl (fun _=>.fieldAddr fld74x1 rfl)<|.quiet (.g rfl rfl) rfl (fun _=>.loadAt flat3 rfl (hp103.drop 1) rfl) ?_;refine OD.q 2 rfl<|OD.ia (.g rfl rfl) underlying47 size74 rfl rfl rfl (by first|assumption|exact Arr.mono hg zC|exact Arr.left zC|exact Arr.left (Arr.mono hg zC)) (h:=fun p108 cs108 hp108 hr108=>?_);obtain ⟨ra3_108,ra5_108,ra6_108,rc3_108,rc5_108,rc6_108,rfl,ho0_108,ho1_108,ho2_108,ha3_108,ha5_108,ha6_108⟩:=RecRp.sh hr108;refine .quiet (.g rfl rfl) rfl (fun _=>.fieldAddr fld74x1 rfl)<|.quiet (.g rfl rfl) rfl (fun _=>.loadAt flat3 rfl (hp108.drop 1) rfl) ?_;refine .quiet (.g rfl rfl) rfl (fun _=>.eql rfl rfl)<|OD.sT 111 rfl (by exact decide_eq_true hB.1) ?_
         refine OD.q 3 rfl<|.quiet (.g rfl rfl) rfl (fun _=>.sub rfl rfl (IntWalk.i64_in _ zE))<|OD.ia (.g rfl rfl) underlying47 size74 rfl rfl (show _=(((i-1):Nat):Int) by omega) (by first|assumption|exact Arr.mono hg zC|exact Arr.left zC|exact Arr.left (Arr.mono hg zC)) (h:=fun p116 cs116 hp116 hr116=>?_);obtain ⟨ra3_116,ra5_116,ra6_116,rc3_116,rc5_116,rc6_116,rfl,ho0_116,ho1_116,ho2_116,ha3_116,ha5_116,ha6_116⟩:=RecRp.sh hr116;refine .quiet (.g rfl rfl) rfl (fun _=>.fieldAddr fld74x2 rfl)<|.quiet (.g rfl rfl) rfl (fun _=>.loadAt flat3 rfl (hp116.drop 2) rfl) ?_;refine OD.q 2 rfl<|OD.ia (.g rfl rfl) underlying47 size74 rfl rfl rfl (by first|assumption|exact Arr.mono hg zC|exact Arr.left zC|exact Arr.left (Arr.mono hg zC)) (h:=fun p121 cs121 hp121 hr121=>?_);obtain ⟨ra3_121,ra5_121,ra6_121,rc3_121,rc5_121,rc6_121,rfl,ho0_121,ho1_121,ho2_121,ha3_121,ha5_121,ha6_121⟩:=RecRp.sh hr121;refine .quiet (.g rfl rfl) rfl (fun _=>.fieldAddr fld74x2 rfl)<|.quiet (.g rfl rfl) rfl (fun _=>.loadAt flat3 rfl (hp121.drop 2) rfl) ?_;refine .quiet (.g rfl rfl) rfl (fun _=>.geq rfl rfl)<|OD.sF 124 rfl (by exact decide_eq_false zE) ?_;refine OD.q 4 rfl<|ODx.nil<|S.condF rfl<|S.skip<|S.pk ?_ (S.weaken ?_ (key (()) (by trivial)))
         ·repeat (first|exact zpa|exact zpn|(apply zpc;focus (repeat (first|exact zh|apply zt)))|apply zps)
         repeat (first|exact Sub.nil|refine Sub.cons rfl ?_)
      ·refine S.seq<|S.region rfl<|O.q 1 rfl<|O.nil<|S.block<|S.loopK (ι:=Nat) (fun k=>k≤L.length) (fun k=>[(13,.int .i64 (k:Int))]) [(7,_),(8,_),(9,_),(10,_)] (fun k=>[]) (fun k=>L.length - k) (0) zE (.cons rfl (.nil)) (.cons rfl (.cons rfl (.cons rfl (.cons rfl (.nil))))) rfl fun k hx ih=>?_
       have hm3:=meltRefl (g:=g);refine S.seq<|S.seq<|S.region rfl<|O.q 2 rfl<|O.op (.p rfl) (.len rfl underlying47 rfl)<|O.op (.p rfl) (.lss rfl rfl)<|O.nil ?_
       first|refine S.condD rfl (fun h132=>?_) (fun h132=>?_)|refine S.condB rfl (fun h132=>?_) (fun h132=>?_)
       ·have hk:k<L.length:=by omega
        have hov:=hL3 _ (List.getElem_mem hi) _ (List.getElem_mem hk);refine S.skip<|S.seq<|S.block<|S.seq<|S.regionD (L:=[0,1,2,3,4,5,6,7,8]) F.mixed zB<|OD.q 2 rfl<|OD.ia (.p rfl) underlying47 size74 rfl rfl rfl (by first|assumption|exact Arr.mono hg zC|exact Arr.left zC|exact Arr.left (Arr.mono hg zC)) (h:=fun p137 cs137 hp137 hr137=>?_);obtain ⟨ra3_137,ra5_137,ra6_137,rc3_137,rc5_137,rc6_137,rfl,ho0_137,ho1_137,ho2_137,ha3_137,ha5_137,ha6_137⟩:=RecRp.sh hr137;refine .quiet (.p rfl) rfl (fun _=>.loadAgg isAgg74 zB rfl hp137) ?_;refine OD.q 2 rfl<|OD.ia (.p rfl) underlying47 size74 rfl rfl rfl (by first|assumption|exact Arr.mono hg zC|exact Arr.left zC|exact Arr.left (Arr.mono hg zC)) (h:=fun p141 cs141 hp141 hr141=>?_);obtain ⟨ra3_141,ra5_141,ra6_141,rc3_141,rc5_141,rc6_141,rfl,ho0_141,ho1_141,ho2_141,ha3_141,ha5_141,ha6_141⟩:=RecRp.sh hr141;refine .quiet (.p rfl) rfl (fun _=>.loadAgg isAgg74 zB rfl hp141) ?_;refine OD.call0 (.p rfl) zB rfl zB rfl rfl (rOver_c (by first|assumption|exact Rp.rel.mono zC hg) (by first|assumption|exact Rp.rel.mono zC hg)) ?_;rintro _ _ ⟨rfl,rfl⟩
        try simp only [zx1,zx2,zx3]
        refine OD.sF 143 rfl (by exact hov) ?_;refine ODx.nil<|S.condF rfl<|S.skip<|S.inBlock<|S.region rfl<|O.q 1 rfl<|O.op (.p rfl) (.add rfl rfl (IntWalk.i64_in _ zE))<|O.q 1 rfl<|O.nil ?_;exact S.wk (ih (k+1) zE zE)
       ·clear ih
        refine S.exit rfl<|S.inBlock<|S.region rfl<|O.q 1 rfl<|O.op (.p rfl) (.add rfl rfl (IntWalk.i64_in _ zE))<|O.q 1 rfl<|O.nil ?_;exact S.wk (ih (i+1) zE zE)
    ·clear ih
     rcases hL4 with e|⟨e,e'⟩
     ·
      refine S.exit rfl<|S.seq<|S.region rfl<|O.q 1 rfl<|O.op (.p rfl) (.eql rfl rfl)<|O.sT 145 rfl (by exact decide_eq_true e) ?_;refine O.q 6 rfl<|O.nil ?_;exact S.rt results10 rfl hR ⟨rfl,rfl⟩
     ·
      refine S.exit rfl<|S.seq<|S.region rfl<|O.q 1 rfl<|O.op (.p rfl) (.eql rfl rfl)<|O.sF 145 rfl (by exact decide_eq_false zE) ?_;refine O.q 2 rfl<|O.op (.g rfl rfl) (.len rfl underlying47 rfl)<|O.op (.g rfl rfl) (.eql rfl rfl)<|O.sT 149 rfl (by exact decide_eq_true (by rw [e];rfl)) ?_;refine O.q 2 rfl<|O.nil ?_;exact S.rt results10 rfl hR ⟨rfl,rfl⟩
end Go.Proofs.YtodhbhanmdfdeaaGreat
