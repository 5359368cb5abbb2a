/- Texts of this proof. -/
import Derived.Test.YtdjoggpacmpfnaaGreatDoorQFi
import Derived.Test.YtdjoggpacmpfnaaGreatDoorQSpLaid
open Go Go.Sp Go.Proofs.Tryz
set_option maxRecDepth 100000
set_option maxHeartbeats 1000000
attribute [local irreducible] obj Own ak
namespace Go.Proofs.YtdjoggpacmpfnaaGreatDoor
theorem oQ {r:Fr} {va gr:Value} {xs ys:List UInt8} (ha:av ag.u8 r va xs) (hb:av ag.u8 r gr ys) :
  aj prog 17 #[va,gr] r [] (aF fun v aa=>v=.bool (decide (xs=ys))∧aa=[]):=by
 refine aj.o func17 fun g hg R hR=>?_;have ha:=ha.mono hg;have hb:=hb.mono hg;have l1:=ha.bound;have l2:=hb.bound;obtain ⟨a1,c1,rfl⟩:=ha.shape;obtain ⟨a2,c2,rfl⟩:=hb.shape;refine U 13 ?_;refine S.cd rfl (fun h10=>?_) fun h10=>?_
 ·refine U 4 ?_
  refine S.ret results17 rfl fun w hw=>hR _ _ w ?_ hw;refine ⟨?_,rfl⟩
  congr 1
  symm
  rw [decide_eq_false_iff_not];rintro rfl;exact h10 rfl
 ·refine U 7 ?_
  have h10:xs.length=ys.length:=by omega
  refine S.ev (ι:=Nat) (fun i=>i≤xs.length∧xs.take i=ys.take i) (fun i=>[(5,.int .i64 (i:Int))]) [(0,_),(1,_)] (fun i=>[]) (fun i=>xs.length - i) (0) aH aO aO rfl fun i hx ih=>?_;have aW:=bS (g:=g);obtain ⟨hi,he⟩:=hx;refine U 8 ?_;refine S.cd rfl (fun eH=>?_) fun eH=>?_
  ·have hlt:i<xs.length:=by omega
   refine S.skip<|S.seq<|S.block<|S.seq<|S.aY (L:=.range 9) F.mixed af<|ah.q 2 rfl<|ah.c7 (.p rfl) underlying22 fG rfl rfl rfl bq (h:=fun e5 me gx ee=>?_)
   cases ee
   refine U 1 ?_;refine ah.q 2 rfl<|ah.c7 (.p rfl) underlying22 fG rfl rfl rfl bq (h:=fun fp nt jH fK=>?_)
   cases fK
   refine U 3 ?_;refine S.cd rfl (fun lG=>?_) fun lG=>?_
   ·refine U 4 ?_
    refine S.ret results17 rfl fun w hw=>hR _ _ w ?_ hw;refine ⟨?_,rfl⟩
    congr 1
    symm
    rw [decide_eq_false_iff_not];rintro rfl;exact lG rfl
   ·refine U 7 ?_
    exact S.cF (ih (i+1) (by (refine ⟨hlt,?_⟩;rw [j9 hlt,j9 ai,he];congr 2;exact UInt8.toNat_inj.1 ai)) ai)
  ·refine U 5 ?_
   refine S.ret results17 rfl fun w hw=>hR _ _ w ?_ hw;refine ⟨?_,rfl⟩
   congr 1
   symm
   rw [decide_eq_true_eq];have:i=xs.length:=by omega
   subst this
   rwa [List.take_of_length_le (Nat.le_refl _),List.take_of_length_le ai] at he
theorem Bb {r:Fr} (x:cJ) {a:Nat} {z:Int} (hz:z=0 - (a:Int)) (h0:0<a) (h:a<64) :
  aj prog 370 #[.int .u64 (x.toNat:Int),.int .i64 z] r [] (aF fun v aa=>v=.int .u64 ((q4 x a).toNat:Int)∧aa=[]):=by
 refine aj.o func370 fun g hg R hR=>?_;refine U 7 ?_;refine O.op (.p rfl) (.iY underlying3 underlying59 rfl)<|O.op (.p rfl) (.and rfl rfl)<|O.slot 8 (v' :=.int .u64 ((64 - a:Nat):Int)) rfl (by exact congrArg (Value.int .u64) (Za hz h0 h))<|U 6 ?_;refine O.op (.p rfl) (.shl rfl rfl ai)<|O.slot 11 (v' :=.int .u64 ((x <<<UInt64.ofNat (64 - a)).toNat:Int)) rfl (by exact congrArg (Value.int .u64) (Qh x ai)) ?_;refine O.q 2 rfl<|O.op (.p rfl) (.acU rfl rfl)<|O.slot 14 (v' :=.int .u64 (a:Int)) rfl (by (rw [show ((64:Int) - ((64 - a:Nat):Int))=((a:Nat):Int) from by omega,uh ai])) ?_;refine O.op (.p rfl) (.shr rfl rfl ai)<|O.slot 15 (v' :=.int .u64 ((x >>>UInt64.ofNat a).toNat:Int)) rfl (by exact congrArg (Value.int .u64) (Qi x h)) ?_;refine O.op (.p rfl) (.or rfl rfl)<|O.slot 16 (v' :=.int .u64 ((q4 x a).toNat:Int)) rfl (by exact congrArg (Value.int .u64) ((Qg _ _).trans (by rw [UInt64.or_comm];rfl)))<|U 2 ?_;exact S.rt results370 rfl hR ⟨rfl,rfl⟩
theorem N3 {r:Fr} (x:cJ) {a b c:Nat} (h0:0<a) (h:a<64) (k0:0<b) (k:b<64) (H6:0<c) (j:c<64) :
  aj prog 356 #[.int .u64 (x.toNat:Int),.int .i64 (a:Int),.int .i64 (b:Int),.int .i64 (c:Int)] r [] (aF fun v aa=>v=.int .u64 ((pX x a b c).toNat:Int)∧aa=[]):=by
 refine aj.o func356 fun g hg R hR=>?_;have w:∀ n:Nat,n<64→IntKind.i64.wrap (0 - (n:Int))=0 - (n:Int):=fun n hn=>IntWalk.i64_in _ ai;refine U 8 ?_;refine O.op (.p rfl) (.neg rfl)<|O.slot 11 (v' :=.int .i64 (0 - (a:Int))) rfl (by rw [w a h]) ?_;refine O.v0 (.p rfl) rfl af rfl rfl ((Bb x rfl h0 h)) ?_;refine O.q 2 rfl<|O.op (.p rfl) (.neg rfl)<|O.slot 15 (v' :=.int .i64 (0 - (b:Int))) rfl (by rw [w b k]) ?_;refine O.v0 (.p rfl) rfl af rfl rfl ((Bb x rfl k0 k)) ?_;refine O.op (.p rfl) (.xor rfl rfl)<|O.slot 17 (v' :=.int .u64 ((q4 x a ^^^ q4 x b).toNat:Int)) rfl (by exact congrArg (Value.int .u64) (vl _ _)) ?_;refine O.q 2 rfl<|O.op (.p rfl) (.neg rfl)<|O.slot 20 (v' :=.int .i64 (0 - (c:Int))) rfl (by rw [w c j]) ?_;refine O.v0 (.p rfl) rfl af rfl rfl ((Bb x rfl H6 j)) ?_;refine O.op (.p rfl) (.xor rfl rfl)<|O.slot 22 (v' :=.int .u64 ((pX x a b c).toNat:Int)) rfl (by exact congrArg (Value.int .u64) (vl _ _))<|U 2 ?_;exact S.rt results356 rfl hR ⟨rfl,rfl⟩
theorem PX {r:Fr} (x:cJ) {a b c:Nat} (h0:0<a) (h:a<64) (k0:0<b) (k:b<64) (j:c<64) :
  aj prog 355 #[.int .u64 (x.toNat:Int),.int .i64 (a:Int),.int .i64 (b:Int),.int .i64 (c:Int)] r [] (aF fun v aa=>v=.int .u64 ((uc x a b c).toNat:Int)∧aa=[]):=by
 refine aj.o func355 fun g hg R hR=>?_;have w:∀ n:Nat,n<64→IntKind.i64.wrap (0 - (n:Int))=0 - (n:Int):=fun n hn=>IntWalk.i64_in _ ai;refine S.seq<|S.region rfl<|O.q 1 rfl<|O.nil<|S.seq<|S.aY (L:=[0,1,2,4,5,6,9,10,11,3,7,8,12,13]) F.mixed af<|ah.q 2 rfl<|.quiet (.p rfl) rfl (fun _=>.neg rfl)<|ah.slot 11 (v' :=.int .i64 (0 - (a:Int))) rfl (by rw [w a h]) ?_;refine ah.q 2 rfl<|.quiet (.p rfl) rfl (fun _=>.neg rfl)<|ah.slot 15 (v' :=.int .i64 (0 - (b:Int))) rfl (by rw [w b k]) ?_;refine ah.q 2 rfl<|.quiet (.p rfl) rfl (fun _=>.shr rfl rfl ai)<|ah.slot 20 (v' :=.int .u64 ((x >>>UInt64.ofNat c).toNat:Int)) rfl (by exact congrArg (Value.int .u64) (Qi x j)) ?_;refine ah.v0 (.p rfl) af rfl af rfl rfl ((Bb x rfl h0 h)) ?_;refine ah.v0 (.p rfl) af rfl af rfl rfl ((Bb x rfl k0 k)) ?_;refine .quiet (.p rfl) rfl (fun _=>.xor rfl rfl)<|ah.slot 17 (v' :=.int .u64 ((q4 x a ^^^ q4 x b).toNat:Int)) rfl (by exact congrArg (Value.int .u64) (vl _ _)) ?_;refine .quiet (.p rfl) rfl (fun _=>.xor rfl rfl)<|ah.slot 21 (v' :=.int .u64 ((uc x a b c).toNat:Int)) rfl (by exact congrArg (Value.int .u64) (vl _ _)) ?_;refine U 2 ?_;exact S.rt results355 rfl hR ⟨rfl,rfl⟩
theorem QD {r:Fr} {a:Addr} {t:Nat} (h:cg r a (cz gW)) (ht:t<80):r.cell (a.add t)=some (so (gW.getD t 0)):=h.at (sq (by show t<80;exact ht))
theorem Lf {r:Fr} {ji:Nat} {T:TypeId} {gr:Value} {b:List UInt8} {v:List cJ} {rest:List Value} (hv:v.length=8) (hb:av ag.u8 r gr b) (hl:b.length=128) (hK:cg r ⟨1,0,none⟩ (cz gW)) :
  aj prog 337 #[.pointer (some ⟨ji,0,none⟩),gr] r [obj ji T (cz v++rest)] (aF fun u aa=>u=.tuple #[]∧aa=[obj ji T (cz (ua v b)++rest)]):=by
 refine aj.o func337 fun g hg R hR=>?_;have hb:=hb.mono hg;have hK:=hK.mono hg;obtain ⟨a1,c1,rfl⟩:=hb.shape;refine S.seq<|S.region rfl<|O.aD (.p rfl) (.alloc (cs:=[.int .u64 0,.int .u64 0,.int .u64 0,.int .u64 0,.int .u64 0,.int .u64 0,.int .u64 0,.int .u64 0,.int .u64 0,.int .u64 0,.int .u64 0,.int .u64 0,.int .u64 0,.int .u64 0,.int .u64 0,.int .u64 0,.int .u64 0,.int .u64 0,.int .u64 0,.int .u64 0,.int .u64 0,.int .u64 0,.int .u64 0,.int .u64 0,.int .u64 0,.int .u64 0,.int .u64 0,.int .u64 0,.int .u64 0,.int .u64 0,.int .u64 0,.int .u64 0,.int .u64 0,.int .u64 0,.int .u64 0,.int .u64 0,.int .u64 0,.int .u64 0,.int .u64 0,.int .u64 0,.int .u64 0,.int .u64 0,.int .u64 0,.int .u64 0,.int .u64 0,.int .u64 0,.int .u64 0,.int .u64 0,.int .u64 0,.int .u64 0,.int .u64 0,.int .u64 0,.int .u64 0,.int .u64 0,.int .u64 0,.int .u64 0,.int .u64 0,.int .u64 0,.int .u64 0,.int .u64 0,.int .u64 0,.int .u64 0,.int .u64 0,.int .u64 0,.int .u64 0,.int .u64 0,.int .u64 0,.int .u64 0,.int .u64 0,.int .u64 0,.int .u64 0,.int .u64 0,.int .u64 0,.int .u64 0,.int .u64 0,.int .u64 0,.int .u64 0,.int .u64 0,.int .u64 0,.int .u64 0]) zeroValue367 rfl) ?_;rintro _ _ ⟨b4,rfl,rfl⟩;refine U 7 ?_;refine S.cH (b:=b4) (cs' :=cz (j7 b 0)) an rfl ?_
 refine S.ev (ι:=Nat) (fun t=>t≤80) (fun t=>[(16,.int .i64 (t:Int))]) [(0,_),(1,_),(4,_)] (fun t=>[obj b4 367 (cz (j7 b t)),obj ji T (cz v++rest)]) (fun t=>80 - t) (0) ai aO aO rfl fun t hx ih=>?_;have aW:=bS (g:=g);refine U 5 ?_;refine S.cd rfl (fun j3=>?_) fun j3=>?_
 ·have ht:t<80:=by omega
  have hml:=aco (b:=b) (Nat.le_of_lt ht);refine U 14 ?_;refine S.cd rfl (fun gI=>?_) fun gI=>?_
  ·have jk:t<16:=by omega
   have WH:(b.take (8*t+8)).drop (8*t)=(b.drop (8*t)).take 8:=by rw [List.drop_take];congr 1;omega
   have HO:n7 ((b.take (8*t+8)).drop (8*t))=t_ b (sched b t) t:=by rw [WH,t_,if_pos jk]
   have iP:((b.take (8*t+8)).drop (8*t)).length=8:=by simp;omega
   refine U 5 ?_;refine O.op (.p rfl) (.mul rfl rfl (IntWalk.i64_in _ ai))<|U 1 ?_;refine O.op (.p rfl) (.mul rfl rfl (IntWalk.i64_in _ ai))<|U 1 ?_;refine O.acG (a:=8*t) (b:=8*t+8) (.p rfl) underlying22 fG rfl rfl rfl ay bl bl bl bl (fun aiu Mk=>?_);obtain ⟨dX,cq,rfl⟩:=Mk.shape;refine U 4 ?_;generalize (b.take (8*t+8)).drop (8*t)=r9 at *;rw [iP] at Mk ⊢;refine S.cH (b:=b4) (cs' :=cz ((j7 b t).set t (n7 (r9.take 0)))) an (by rw [show n7 (r9.take 0)=0 from rfl,acp ht]) ?_;refine S.ev (ι:=Nat) (fun j=>j≤8) (fun j=>[(29,.int .i64 (j:Int))]) [(0,_),(1,_),(4,_),(5,_),(16,_),(27,_),(28,_)] (fun j=>[obj b4 367 (cz ((j7 b t).set t (n7 (r9.take j)))),obj ji T (cz v++rest)]) (fun j=>8 - j) (0) ai aO aO rfl fun j hx ih=>?_;have hm2:=bS (g:=g);refine U 5 ?_;refine S.cd rfl (fun F9=>?_) fun F9=>?_
   ·have hj:j<8:=by omega
    refine U 5 ?_;refine O.c7 (.p rfl) underlying22 fG rfl rfl rfl bq (h:=fun ahY afE ag8 Wm=>?_)
    cases Wm
    refine U 6 ?_;refine O.op (.p rfl) (.tH (j:=t) underlying367 ia rfl rfl (show _=(((t):Nat):Int) by omega) ai)<|O.op (.p rfl) (.yt nv rfl an (sq (by rw [List.length_set];omega))) ?_;refine O.slot 36 (v' :=.int .u64 ((n7 (r9.take j)).toNat:Int)) rfl (by rw [Nat.zero_add,TQ ai]) ?_;refine O.op (.p rfl) (.shl rfl rfl ai)<|O.slot 37 (v' :=.int .u64 ((n7 (r9.take j) <<<8).toNat:Int)) rfl (by exact congrArg (Value.int .u64) (Qh _ (n:=8) aq)) ?_;refine O.q 1 rfl<|O.op (.p rfl) (.iY underlying5 underlying123 rfl)<|O.slot 39 (v' :=.int .u64 ((UInt64.ofNat r9[j].toNat).toNat:Int)) rfl (by exact congrArg (Value.int .u64) (adQ _)) ?_;refine O.op (.p rfl) (.or rfl rfl)<|O.slot 40 (v' :=.int .u64 ((n7 (r9.take (j+1))).toNat:Int)) rfl (by exact congrArg (Value.int .u64) ((Qg _ _).trans (by rw [Ri ai]))) ?_;refine O.op (.p rfl) (.tH (j:=t) underlying367 ia rfl rfl (show _=(((t):Nat):Int) by omega) ai)<|O.eg rfl (.rf nv rfl rfl rfl an (by rw [oE,List.length_set,hml];omega)) ?_;refine O.nil<|S.inBlock<|S.cH (b:=b4) (cs' :=cz ((j7 b t).set t (n7 (r9.take (j+1))))) an (by rw [show Value.int .u64 ((n7 (r9.take (j+1))).toNat:Int)=so (n7 (r9.take (j+1))) from rfl,J5,Nat.zero_add,List.set_set])<|U 4 ?_;exact S.cF (ih (j+1) ai ai)
   ·clear ih
    have hj:j=8:=by omega
    subst hj;refine S.cH (b:=b4) (cs' :=cz (j7 b (t+1))) an (by rw [List.take_of_length_le ai,HO,PK ht]) ?_;refine U 6 ?_;exact S.cF (ih (t+1) ai ai)
  ·have jk:16≤t:=by omega
   have HO:uc ((sched b t).getD (t - 2) 0) 19 61 6+(sched b t).getD (t - 7) 0+uc ((sched b t).getD (t - 15) 0) 1 8 7+(sched b t).getD (t - 16) 0=t_ b (sched b t) t:=by rw [t_,if_neg ai]
   refine U 1 ?_;have oh:=hg;have oe:=hR
   try have U0:=hb
   try have Gh:=hK
   refine S.oc (B:=obj b4 367 (cz (j7 b t))) an fun go gm ⟨Dk,hmo,tD⟩ og=>?_;replace hg:=bf hg gm;replace hR:=n6 hR og
   try replace hb:=hb.mono gm
   try replace hK:=hK.mono gm
   have k9:=(qY hmo).mono tD;refine S.aY (L:=[0,1,2,3,4,6,7,8,9,11,12,13,14,17,18,19,20,5,10,15,16,21,22,23]) F.mixed af ?_;refine U 3 ?_;refine .quiet (.p rfl) rfl (fun _=>.mq (j:=t - 2) underlying367 ia rfl rfl (show _=((t - 2:Nat):Int) by omega) ai)<|.quiet (.p rfl) rfl (fun _=>.load nv rfl (k9.at (sq ai))) ?_;refine ah.slot 47 (v' :=.int .u64 (((sched b t).getD (t - 2) 0).toNat:Int)) rfl (by rw [D0 ai]) ?_;refine U 2 ?_;refine .quiet (.p rfl) rfl (fun _=>.mq (j:=t - 7) underlying367 ia rfl rfl (show _=((t - 7:Nat):Int) by omega) ai)<|.quiet (.p rfl) rfl (fun _=>.load nv rfl (k9.at (sq ai))) ?_;refine ah.slot 52 (v' :=.int .u64 (((sched b t).getD (t - 7) 0).toNat:Int)) rfl (by rw [D0 ai]) ?_;refine U 2 ?_;refine .quiet (.p rfl) rfl (fun _=>.mq (j:=t - 15) underlying367 ia rfl rfl (show _=((t - 15:Nat):Int) by omega) ai)<|.quiet (.p rfl) rfl (fun _=>.load nv rfl (k9.at (sq ai))) ?_;refine ah.slot 57 (v' :=.int .u64 (((sched b t).getD (t - 15) 0).toNat:Int)) rfl (by rw [D0 ai]) ?_;refine U 2 ?_;refine .quiet (.p rfl) rfl (fun _=>.mq (j:=t - 16) underlying367 ia rfl rfl (show _=((t - 16:Nat):Int) by omega) ai)<|.quiet (.p rfl) rfl (fun _=>.load nv rfl (k9.at (sq ai))) ?_
   refine ah.slot 63 (v' :=.int .u64 (((sched b t).getD (t - 16) 0).toNat:Int)) rfl (by rw [D0 ai]) ?_;refine ah.v0 (.p rfl) af rfl af rfl rfl ((PX (a:=19) (b:=61) (c:=6) _ aq aq aq aq aq)) ?_;refine .quiet (.p rfl) rfl (fun _=>.pG rfl rfl)<|ah.slot 53 (v' :=.int .u64 ((uc ((sched b t).getD (t - 2) 0) 19 61 6+(sched b t).getD (t - 7) 0).toNat:Int)) rfl (by exact congrArg (Value.int .u64) (ri _ _)) ?_;refine ah.v0 (.p rfl) af rfl af rfl rfl ((PX (a:=1) (b:=8) (c:=7) _ aq aq aq aq aq)) ?_;refine .quiet (.p rfl) rfl (fun _=>.pG rfl rfl)<|ah.slot 59 (v' :=.int .u64 ((uc ((sched b t).getD (t - 2) 0) 19 61 6+(sched b t).getD (t - 7) 0+uc ((sched b t).getD (t - 15) 0) 1 8 7).toNat:Int)) rfl (by exact congrArg (Value.int .u64) (ri _ _)) ?_;refine .quiet (.p rfl) rfl (fun _=>.pG rfl rfl)<|ah.slot 64 (v' :=.int .u64 ((t_ b (sched b t) t).toNat:Int)) rfl (by exact congrArg (Value.int .u64) ((ri _ _).trans (by rw [HO]))) ?_;refine .quiet (.p rfl) rfl (fun _=>.tH (j:=t) underlying367 ia rfl rfl rfl ai)<|ah.Dc rfl af (fun _ hw=>og hw) nv rfl rfl yX an (by first|(simp;done)|(simp;omega)) ?_;replace hg:=oh;replace hR:=oe
   try replace hb:=U0
   try replace hK:=Gh
   clear oh oe;refine S.inBlock<|S.cH (b:=b4) (cs' :=cz (j7 b (t+1))) an (by rw [show Value.int .u64 ((t_ b (sched b t) t).toNat:Int)=so (t_ b (sched b t) t) from rfl,J5,Nat.zero_add,PK ht]) ?_;refine U 4 ?_;exact S.cF (ih (t+1) ai ai)
 ·clear ih
  have ht:t=80:=by omega
  subst ht;rw [acn];have hS:=Bg b 80;have U4:ua v b=List.zipWith (·+·) v (tZ v (sched b 80) 80):=rfl;generalize sched b 80=nY at *;refine U 5 ?_;refine O.op (.p rfl) (.AL (news:=cz v) isAgg354 (by rw [oE,hv];kernel_rfl) rfl an (by rw [List.drop_zero,List.take_left' rfl])) ?_;refine O.aD (.p rfl) (.alloc (cs:=[.int .u64 0,.int .u64 0,.int .u64 0,.int .u64 0,.int .u64 0,.int .u64 0,.int .u64 0,.int .u64 0]) zeroValue354 rfl) ?_;rintro _ _ ⟨kf,rfl,rfl⟩;refine O.eg rfl (.jM (news:=cz v) (by rw [oE,hv];kernel_rfl) rfl rfl yY (adM v) an (by rw [oE,hv];decide)) ?_;refine O.nil<|S.seq<|S.seq<|S.cH (b:=kf) (cs' :=cz v) an (by rw [List.take_zero,List.nil_append,List.drop_eq_nil_of_le (by rw [oE,hv];decide),List.append_nil]) ?_;refine S.region rfl<|O.op (.p rfl) (.AL (news:=cz nY) isAgg367 (by rw [oE,hS];kernel_rfl) rfl an (by rw [List.drop_zero,List.take_length])) ?_;refine U 3 ?_;refine S.ev (ι:=Nat) (fun t=>t≤80) (fun t=>[(71,.int .i64 (t:Int))]) [(0,_),(8,_),(70,_)] (fun t=>[obj kf 354 (cz (tZ v nY t)),obj b4 367 (cz nY),obj ji T (cz v++rest)]) (fun t=>80 - t) (0) ai aO aO rfl fun t hx ih=>?_;have hm2:=bS (g:=g);refine U 5 ?_;refine S.cd rfl (fun Ub=>?_) fun Ub=>?_
  ·have ht:t<80:=by omega
   obtain ⟨x0,x1,bC,c8,cr,dn,dr,dQ,hxs⟩:=NN (JG v nY hv t);have hst:tZ v nY (t+1)=O7 [x0,x1,bC,c8,cr,dn,dr,dQ] (gW.getD t 0) (nY.getD t 0):=by rw [tZ,hxs]
   rw [hxs];refine S.cH (b:=kf) (cs' :=[.int .u64 (x0.toNat:Int),.int .u64 (x1.toNat:Int),.int .u64 (bC.toNat:Int),.int .u64 (c8.toNat:Int),.int .u64 (cr.toNat:Int),.int .u64 (dn.toNat:Int),.int .u64 (dr.toNat:Int),.int .u64 (dQ.toNat:Int)]) an rfl ?_;have Af:=hg;have z7:=hR
   try have GI:=hb
   try have Gi:=hK
   refine S.oc (B:=obj kf 354 [.int .u64 (x0.toNat:Int),.int .u64 (x1.toNat:Int),.int .u64 (bC.toNat:Int),.int .u64 (c8.toNat:Int),.int .u64 (cr.toNat:Int),.int .u64 (dn.toNat:Int),.int .u64 (dr.toNat:Int),.int .u64 (dQ.toNat:Int)]) an fun TV hsp ⟨mp,hmp,HR⟩ Ad=>?_;replace hg:=bf hg hsp;replace hR:=n6 hR Ad
   try replace hb:=hb.mono hsp
   try replace hK:=hK.mono hsp
   have k9 := (qY hmp).mono HR;refine U 6 ?_;refine O.op (.p rfl) (.Ng (j := t) underlying367 ia nv rfl rfl rfl ai (by rw [List.getElem?_toArray]; exact sq ai)) ?_;refine O.slot 74 (v' := .int .u64 ((nY.getD t 0).toNat : Int)) rfl dU ?_;refine U 4 ?_;refine S.aY (L := .range 6) F.mixed af <| .quiet (.p rfl) rfl (fun _ => .mq (j := 0) underlying354 ia rfl rfl rfl ai) ?_;refine U 1 ?_;refine .quiet (.p rfl) rfl (fun _ => .mq (j := 4) underlying354 ia rfl rfl rfl ai) ?_;refine U 5 ?_;refine S.aY (L := [0, 1, 2, 5, 6, 7, 8, 9, 10, 11, 12, 13, 14, 16, 17, 18, 20, 3, 4, 15, 19, 21, 22]) F.mixed af <| .quiet (.p rfl) rfl (fun _ => .mq (j := 7) underlying354 ia rfl rfl rfl ai) ?_;refine U 3 ?_;refine .quiet (.p rfl) rfl (fun _ => .mq (j := 5) underlying354 ia rfl rfl rfl ai) ?_;refine U 1 ?_;refine .quiet (.p rfl) rfl (fun _ => .and rfl rfl) <| ah.slot 87 (v' := .int .u64 ((cr &&& dn).toNat : Int)) rfl (by exact congrArg (Value.int .u64) (yS _ _)) ?_;refine ah.q 1 rfl <| .quiet (.p rfl) rfl (fun _ => .RP rfl) <| ah.slot 89 (v' := .int .u64 ((~~~cr).toNat : Int)) rfl (by exact congrArg (Value.int .u64) (adP _)) ?_;refine .quiet (.p rfl) rfl (fun _ => .mq (j := 6) underlying354 ia rfl rfl rfl ai) ?_;refine U 1 ?_
   refine .quiet (.p rfl) rfl (fun _ => .and rfl rfl) <| ah.slot 92 (v' := .int .u64 ((~~~cr &&& dr).toNat : Int)) rfl (by exact congrArg (Value.int .u64) (yS _ _)) ?_;refine .quiet (.p rfl) rfl (fun _ => .xor rfl rfl) <| ah.slot 93 (v' := .int .u64 ((cr &&& dn ^^^ ~~~cr &&& dr).toNat : Int)) rfl (by exact congrArg (Value.int .u64) (vl _ _)) ?_;refine ah.q 1 rfl <| .quiet (.p rfl) rfl (fun _ => .mq (j := t) underlying367 ia rfl rfl rfl ai) <| .quiet (.p rfl) rfl (fun _ => .load nv rfl (QD hK ht)) ?_;refine ah.slot 97 (v' := .int .u64 ((gW.getD t 0).toNat : Int)) rfl dU ?_;refine ah.q 1 rfl <| ah.v0 (.p rfl) af rfl af rfl rfl ((N3 (a := 14) (b := 18) (c := 41) cr aq aq aq aq aq aq)) ?_;refine .quiet (.p rfl) rfl (fun _ => .pG rfl rfl) <| ah.slot 83 (v' := .int .u64 ((dQ + pX cr 14 18 41).toNat : Int)) rfl (by exact congrArg (Value.int .u64) (ri _ _)) ?_;refine .quiet (.p rfl) rfl (fun _ => .pG rfl rfl) <| ah.slot 94 (v' := .int .u64 ((dQ + pX cr 14 18 41 + (cr &&& dn ^^^ ~~~cr &&& dr)).toNat : Int)) rfl (by exact congrArg (Value.int .u64) (ri _ _)) ?_;refine .quiet (.p rfl) rfl (fun _ => .pG rfl rfl) <| ah.slot 98 (v' := .int .u64 ((dQ + pX cr 14 18 41 + (cr &&& dn ^^^ ~~~cr &&& dr) + gW.getD t 0).toNat : Int)) rfl (by exact congrArg (Value.int .u64) (ri _ _)) ?_
   refine .quiet (.p rfl) rfl (fun _ => .pG rfl rfl) <| ah.slot 100 (v' := .int .u64 ((dQ + pX cr 14 18 41 + (cr &&& dn ^^^ ~~~cr &&& dr) + gW.getD t 0 + nY.getD t 0).toNat : Int)) rfl (by exact congrArg (Value.int .u64) (ri _ _)) ?_;refine U 3 ?_;refine S.aY (L := [0, 2, 3, 4, 5, 6, 7, 8, 9, 10, 11, 12, 13, 14, 15, 16, 1, 17, 18]) F.mixed af ?_;refine U 2 ?_;refine .quiet (.p rfl) rfl (fun _ => .mq (j := 1) underlying354 ia rfl rfl rfl ai) ?_;refine U 1 ?_;refine .quiet (.p rfl) rfl (fun _ => .and rfl rfl) <| ah.slot 106 (v' := .int .u64 ((x0 &&& x1).toNat : Int)) rfl (by exact congrArg (Value.int .u64) (yS _ _)) ?_;refine U 1 ?_;refine .quiet (.p rfl) rfl (fun _ => .mq (j := 2) underlying354 ia rfl rfl rfl ai) ?_;refine U 1 ?_;refine .quiet (.p rfl) rfl (fun _ => .and rfl rfl) <| ah.slot 110 (v' := .int .u64 ((x0 &&& bC).toNat : Int)) rfl (by exact congrArg (Value.int .u64) (yS _ _)) ?_;refine .quiet (.p rfl) rfl (fun _ => .xor rfl rfl) <| ah.slot 111 (v' := .int .u64 ((x0 &&& x1 ^^^ x0 &&& bC).toNat : Int)) rfl (by exact congrArg (Value.int .u64) (vl _ _)) ?_;refine .quiet (.p rfl) rfl (fun _ => .mq (j := 1) underlying354 ia rfl rfl rfl ai) ?_;refine U 1 ?_;refine .quiet (.p rfl) rfl (fun _ => .mq (j := 2) underlying354 ia rfl rfl rfl ai) ?_;refine U 1 ?_
   refine .quiet (.p rfl) rfl (fun _=>.and rfl rfl)<|ah.slot 116 (v' :=.int .u64 ((x1 &&& bC).toNat:Int)) rfl (by exact congrArg (Value.int .u64) (yS _ _)) ?_;refine .quiet (.p rfl) rfl (fun _=>.xor rfl rfl)<|ah.slot 117 (v' :=.int .u64 ((x0 &&& x1 ^^^ x0 &&& bC ^^^ x1 &&& bC).toNat:Int)) rfl (by exact congrArg (Value.int .u64) (vl _ _)) ?_;refine ah.v0 (.p rfl) af rfl af rfl rfl ((N3 (a:=28) (b:=34) (c:=39) x0 aq aq aq aq aq aq)) ?_;refine .quiet (.p rfl) rfl (fun _=>.pG rfl rfl)<|ah.slot 118 (v' :=.int .u64 ((pX x0 28 34 39+(x0 &&& x1 ^^^ x0 &&& bC ^^^ x1 &&& bC)).toNat:Int)) rfl (by exact congrArg (Value.int .u64) (ri _ _)) ?_;refine U 3 ?_;refine S.back Ad ?_;replace hg:=Af;replace hR:=z7
   try replace hb:=GI
   try replace hK:=Gi
   clear Af z7;refine S.aY (L := [0, 1, 2]) F.mixed af ?_;refine .quiet (.p rfl) rfl (fun _ => .acE (a := 1) underlying354 ia rfl rfl rfl aq aq) <| .quiet (.p rfl) rfl (fun _ => .acF (a := 7) underlying354 ia rfl rfl rfl aq aq) <| ah.Fv (m := 7) (.p rfl) af underlying217 ia rfl rfl an rfl aH aH (by first | (simp; done) | (intro v hv; simp [Value.cells] at hv; rcases hv with rfl | rfl <;> rfl) | (refine List.forall_mem_cons.2 ⟨rfl, ?_⟩; repeat (first | exact (fun _ h => absurd h List.not_mem_nil) | refine List.forall_mem_cons.2 ⟨rfl, ?_⟩))) ?_;refine bt.nil <| S.cH (b := kf) (cs' := [.int .u64 (x0.toNat : Int), .int .u64 (x0.toNat : Int), .int .u64 (x1.toNat : Int), .int .u64 (bC.toNat : Int), .int .u64 (c8.toNat : Int), .int .u64 (cr.toNat : Int), .int .u64 (dn.toNat : Int), .int .u64 (dr.toNat : Int)]) an rfl ?_;refine U 3 ?_;refine O.op (.p rfl) (.pG rfl rfl) <| O.slot 124 (v' := .int .u64 ((dQ + pX cr 14 18 41 + (cr &&& dn ^^^ ~~~cr &&& dr) + gW.getD t 0 + nY.getD t 0 + (pX x0 28 34 39 + (x0 &&& x1 ^^^ x0 &&& bC ^^^ x1 &&& bC))).toNat : Int)) rfl (by exact congrArg (Value.int .u64) (ri _ _)) ?_;refine O.op (.p rfl) (.tH (j := 4) underlying354 ia rfl rfl rfl ai) ?_;refine U 1 ?_
   refine O.q 1 rfl <| O.op (.p rfl) (.pG rfl rfl) <| O.slot 128 (v' := .int .u64 ((c8 + (dQ + pX cr 14 18 41 + (cr &&& dn ^^^ ~~~cr &&& dr) + gW.getD t 0 + nY.getD t 0)).toNat : Int)) rfl (by exact congrArg (Value.int .u64) (ri _ _)) ?_;refine O.op (.p rfl) (.tH (j := 0) underlying354 ia rfl rfl rfl ai)<|U 1 ?_;refine O.op (.p rfl) (.tH (j := 4) underlying354 ia rfl rfl rfl ai)<|U 1 ?_;refine O.nil <| S.inBlock <| S.cH (b := kf) (cs' := cz (tZ v nY (t + 1))) an (by rw [hst]; rfl)<|U 4 ?_;exact S.cF (ih (t + 1) ai ai)
  ·clear ih
   have ht:t=80:=by omega
   subst ht;have hu:=JG v nY hv 80;generalize tZ v nY 80=u at *;refine U 6 ?_;refine S.cH (b:=ji) (cs' :=cz (n3 v u 0)++rest) an rfl ?_;refine S.ev (ι:=Nat) (fun i=>i≤8) (fun i=>[(132,.int .i64 (i:Int))]) [(0,_),(8,_)] (fun i=>[obj ji T (cz (n3 v u i)++rest),obj kf 354 (cz u),obj b4 367 (cz nY)]) (fun i=>8 - i) (0) ai aO aO rfl fun i hx ih=>?_;have mP:=bS (g:=g);refine U 5 ?_;refine S.cd rfl (fun TZ=>?_) fun TZ=>?_
   ·have hi:i<8:=by omega
    have hal:=QZ hv hu (Nat.le_of_lt hi);have Af:=hg;have z7:=hR
    try have GI:=hb
    try have Gi:=hK
    refine S.oc (B:=obj kf 354 (cz u)) an fun TV hsp ⟨mp,hmp,HR⟩ Ad=>?_;replace hg:=bf hg hsp;replace hR:=n6 hR Ad
    try replace hb:=hb.mono hsp
    try replace hK:=hK.mono hsp
    have k9:=(qY hmp).mono HR;have nA:=hg;have nw:=hR
    try have U1:=hb
    try have Gj:=hK
    try have UW:=k9
    refine S.oc (B:=obj ji T (cz (n3 v u i)++rest)) an fun vP ff ⟨AO,qL,qO⟩ mN=>?_;replace hg:=bf hg ff;replace hR:=n6 hR mN
    try replace hb:=hb.mono ff
    try replace hK:=hK.mono ff
    try replace k9:=k9.mono ff
    have UX:=(qY qL).mono qO;refine U 8 ?_;refine S.aY (L:=.range 12) F.mixed af ?_;refine U 3 ?_;refine .quiet (.p rfl) rfl (fun _=>.mq (j:=i) underlying354 ia rfl rfl rfl ai)<|.quiet (.p rfl) rfl (fun _=>.load nv rfl (UX.at (by rw [List.getElem?_append_left (by rw [oE];omega)];exact sq ai))) ?_;refine ah.slot 139 (v' :=.int .u64 ((v.getD i 0).toNat:Int)) rfl (by rw [QY hv hu hi]) ?_;refine ah.q 1 rfl<|.quiet (.p rfl) rfl (fun _=>.mq (j:=i) underlying354 ia rfl rfl rfl ai)<|.quiet (.p rfl) rfl (fun _=>.load nv rfl (k9.at (sq ai))) ?_;refine ah.slot 142 (v' :=.int .u64 ((u.getD i 0).toNat:Int)) rfl dU ?_;refine .quiet (.p rfl) rfl (fun _=>.pG rfl rfl)<|ah.slot 143 (v' :=.int .u64 ((v.getD i 0+u.getD i 0).toNat:Int)) rfl (by exact congrArg (Value.int .u64) (ri _ _)) ?_;refine U 1 ?_;refine .quiet (.p rfl) rfl (fun _=>.tH (j:=i) underlying354 ia rfl rfl rfl ai)<|ah.Dc rfl af (fun _ hw=>mN hw) nv rfl rfl yX an (by first|(simp;done)|(simp;omega)) ?_;replace hg:=nA;replace hR:=nw
    try replace hb:=U1
    try replace hK:=Gj
    try replace k9:=UW
    clear nA nw;refine S.inBlock<|S.back Ad ?_;replace hg:=Af;replace hR:=z7
    try replace hb:=GI
    try replace hK:=Gi
    clear Af z7;refine S.cH (b:=ji) (cs' :=cz (n3 v u (i+1))++rest) an (by rw [Nat.zero_add,List.set_append_left _ _ (by rw [oE];omega),show Value.int .u64 ((v.getD i 0+u.getD i 0).toNat:Int)=so (v.getD i 0+u.getD i 0) from rfl,J5,Q0 hv hu hi]) ?_;refine U 4 ?_;exact S.cF (ih (i+1) ai ai)
   ·clear ih
    have hi:i=8:=by omega
    subst hi;rw [QX hv hu,← U4];refine S.exit rfl<|S.gl results337 fun w hw=>ax.end_ hR hw ?_;exact pk ⟨rfl,rfl⟩
end Go.Proofs.YtdjoggpacmpfnaaGreatDoor
