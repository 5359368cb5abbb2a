/- Texts of this proof. -/
import Derived.Test.YtodhbhanmdfdeaaGreatQSpTry
import Derived.Test.YtodhbhanmdfdeaaGreatQSib3
open Go Go.Sp Go.Proofs.Tryz
set_option maxRecDepth 100000
set_option maxHeartbeats 1000000
attribute [local irreducible] obj Own OwnP
namespace Go.Proofs.YtodhbhanmdfdeaaGreat
theorem triedSB_ret {g:Gr} {be bx:Nat} {x:Value} {z:Int} {T1 T2:TypeId} {w:World} {R:Ending→World→Prop} {η:List SProp} (hw:Holds w g (obj bx T1 [x]::obj be T2 [.int .i64 z]::η)) (hR:∀ w,Holds w g (obj bx T1 [x]::obj be T2 [.int .i64 z]::η)→R (.returned (.tuple #[x,.int .i64 z])) w) :
  CallsD prog 220 #[.pointer (some ⟨be,0,none⟩),.pointer (some ⟨bx,0,none⟩)] .returning w (DPost2 prog g bx be 31 32 R):=by
 refine (callsD_rec (R:=fun e w=>(∃ v,e=.returned v)∧Holds w g (obj bx T1 [x]::obj be T2 [.int .i64 z]::η)) [.pointer (some ⟨be,0,none⟩),.pointer (some ⟨bx,0,none⟩)] rfl func220 rfl rfl rfl rfl hw ?_).mono ?_
 rotate_left
 ·rintro e u' w' ⟨rfl,⟨v,rfl⟩,h⟩
  exact ⟨⟨v,rfl⟩,rfl,T1,T2,_,_,_,_,η,h,LoadsAs.flat flat31,LoadsAs.flat flat32,hR w' h⟩
 refine S.seq<|S.region rfl<|O.q 1 rfl<|O.op (.p rfl) (.neqIN underlying20 rfl)<|O.nil<|S.condF rfl<|S.skip<|S.end0 results220 fun w hw=>?_;exact ⟨⟨_,rfl⟩,hw⟩
theorem triedSB_pan {g:Gr} {be bx:Nat} {x:Value} {z z' :Int} {T1 T2:TypeId} {w:World} {R:Ending→World→Prop} {η:List SProp} (hw:Holds w g (obj bx T1 [x]::obj be T2 [.int .i64 z']::η))
  (hR:∀ w,Holds w g (obj bx T1 [.slice none 0 0]::obj be T2 [.int .i64 z]::η)→R (.returned (.tuple #[.slice none 0 0,.int .i64 z])) w) :
  CallsD prog 220 #[.pointer (some ⟨be,0,none⟩),.pointer (some ⟨bx,0,none⟩)] (.panicking (errP 32 z)) w (DPost2 prog g bx be 31 32 R):=by
 refine (callsD_rec (R:=fun e w=>(∃ v,e=.returned v)∧Holds w g (obj bx T1 [.slice none 0 0]::obj be T2 [.int .i64 z]::η)) [.pointer (some ⟨be,0,none⟩),.pointer (some ⟨bx,0,none⟩)] rfl func220 rfl rfl rfl rfl hw ?_).mono ?_
 rotate_left
 ·rintro e u' w' ⟨rfl,⟨v,rfl⟩,h⟩
  exact ⟨⟨v,rfl⟩,rfl,T1,T2,_,_,_,_,η,h,LoadsAs.flat flat31,LoadsAs.flat flat32,hR w' h⟩
 refine zz 3 ?_;refine O.op (.p rfl) (.neqIV underlying20 rfl) ?_;refine zz 10 ?_;refine O.op (.p rfl) (.assertYes underlying32 rfl) ?_;refine zz 20 ?_;refine O.nil<|S.end0 results220 fun w hw=>?_;exact ⟨⟨_,rfl⟩,hw.picks zS⟩
theorem triedSB_c {r:Fr} {f:Nat} {first cap:Array Value} {K:Value→List SProp→Prop} {X:Int→Prop} (hc:callable prog f=true) (hf1:(Value.func (.func f) first cap).oneCell' =true) (hK1:∀ u ζ,K u ζ→u.oneCell' =true)
  (con:Con prog f (first++#[]++cap) r [] (RetP K (fun ch η=>∃ z,ch=errP 32 z∧X z∧η=[]))) :
  Con prog 114 #[.func (.func f) first cap] r [] (Ret fun v η=>(∃ u,K u η∧v=.tuple #[u,.int .i64 0])∨(∃ z,X z∧η=[]∧v=.tuple #[.slice none 0 0,.int .i64 z])):=by
 refine Con.of (n:=7) [.func (.func f) first cap] rfl func114 rfl rfl rfl fun g hg R hR=>?_;refine S.seq<|S.region rfl<|O.opE (.p rfl) (.alloc (cs:=[.slice none 0 0]) zeroValue31 rfl) ?_;rintro _ _ ⟨b2,rfl,rfl⟩;refine O.opE (.p rfl) (.alloc (cs:=[.int .i64 0]) zeroValue32 rfl) ?_;rintro _ _ ⟨b3,rfl,rfl⟩;refine zz 4 ?_;refine O.defer rfl rfl rfl rfl ?_;refine zz 4 ?_;refine O.callP0D (.p rfl) rfl hc rfl rfl (con.sub hg) (fun a ch η' w hF hX hW=>by (obtain ⟨z,rfl,hx,rfl⟩:=hX;exact leavesCell2 results114 hF rfl rfl zG zC (triedSB_pan (hW.picks zS) fun w hw=>Holds.end_ hR hw ⟨_,.inr ⟨z,hx,rfl,rfl⟩,by repeat (first|exact zpa|exact zpn|(apply zpc;focus (repeat (first|exact zh|apply zt)))|apply zps)⟩))) ?_;rintro v6 _ hk6;have hone:=hK1 _ _ hk6;refine O.perm (List.perm_append_comm) ?_;simp only [List.cons_append,List.nil_append];refine zz 2 ?_;refine O.nil<|S.retL fun a w hf hd hw=>?_;exact leavesCell2 results114 hf rfl rfl zG zC (triedSB_ret (hw.picks zS) fun w hw=>Holds.end_ hR hw ⟨_,.inl ⟨_,hk6,rfl⟩,by repeat (first|exact zpa|exact zpn|(apply zpc;focus (repeat (first|exact zh|apply zt)))|apply zps)⟩)
theorem sput1_c {r:Fr} {b:Nat} {va:Value} {xs:List RecT} (hb:At r ⟨b,0,none⟩ [va]) (ha:Arr RecRp r va xs) (hl:xs.length≤1000000000) :
  Con prog 115 (#[]++#[]++#[.pointer (some ⟨b,0,none⟩)]) r [] (RetP (fun v η=>SRight xs∧∃ a c,v=.slice a (sB xs).length c∧η=[OwnP Rp.u8 5 (.slice a (sB xs).length c) (sB xs)]) (fun ch η=>∃ z,ch=errP 32 z∧(¬ SRight xs∧z=4)∧η=[])):=by
 have har:=ha;refine Con.of (n:=31) [.pointer (some ⟨b,0,none⟩)] rfl func115 rfl rfl rfl fun g hg R hR=>?_;have hb:=hb.mono hg;have ha:=ha.mono hg;obtain ⟨a1,c1,rfl⟩:=ha.shape;refine zz 7 ?_;refine O.callP0 (.p rfl) rfl zC rfl rfl (((rowOf_c har zD).sub hg)) (fun ch η' w hX hW=>by (obtain ⟨hb,rfl,rfl⟩:=hX;exact hR _ _ w ⟨4,rfl,⟨hb,rfl⟩,rfl⟩ hW.drop_all)) ?_;rintro _ _ ⟨hright,b7,rfl,rfl⟩;refine zz 3 ?_;refine S.frz (A:=RowP r 148 158 5 b7 xs) zB fun g hs hm ⟨_,x',s'⟩=>?_;have hrow:=RowP.read (Fr.sub_trans hg hs) s' x';clear x' s';replace hg:=Fr.sub_trans hg hs;replace hR:=melted hR hm
 try replace ha:=ha.mono hs
 try replace hb:=hb.mono hs
 clear hs hm;obtain ⟨qa,qc,hqat,hqar⟩:=id hrow;refine zz 3 ?_;refine O.op (.p rfl) (.fieldAddr fld148x0 rfl) ?_;refine zz 2 ?_;refine O.call0 (.p rfl) rfl zC rfl rfl (wNumber_c _) ?_;rintro _ _ ⟨a13,c13,rfl,rfl⟩;refine O.q 1 rfl<|O.nil (S.seq (S.seq ?_));have hone:=hright.1;have hbd:=sB_le hone;refine zz 3 ?_;refine O.op (.p rfl) (.fieldAddr fld148x0 rfl) ?_;refine zz 5 ?_;refine S.conv (C:=OwnP Rp.u8 5 (.slice a13 (8+(sRows (xs.take 0)).length) c13) (be xs.length++sRows (xs.take 0))) Sel.here (fun m x=>⟨m,Fr.sub_refl _,by simpa [sRows] using x⟩) ?_;refine S.loopK2 (ι:=Nat) (κ:=Option Addr × Nat) (fun i p=>i≤xs.length) (fun i p=>[(19,.int .i64 (i:Int)),(3,.slice p.1 (8+(sRows (xs.take i)).length) p.2)]) [(17,_),(18,_)] (fun i p=>[OwnP Rp.u8 5 (.slice p.1 (8+(sRows (xs.take i)).length) p.2) (be xs.length++sRows (xs.take i))]) (fun i p=>xs.length - i) (0) ((a13,c13)) zD zq zq rfl fun i p hx ih=>?_;have hm1:=meltRefl (g:=g);refine zz 5 ?_;refine S.cd rfl (fun h20=>?_) fun h20=>?_
 ·have hi:i<xs.length:=by omega
  have hb1:=recB_le (oneK_all hone xs[i] (List.getElem_mem hi));have hb2:=sRows_le (xs.take i) (oneK_all (oneK_take i hone));rw [List.length_take,Nat.min_eq_left hx] at hb2;have htk:[be xs.length++sRows (xs.take i),bytesOf (recB xs[i])].flatten=be xs.length++sRows (xs.take (i+1)):=by rw [List.take_succ_eq_append_getElem hi,sRows_snoc];simp
  have htl:(be (xs.length:Int)++sRows (xs.take (i+1))).length=8+(sRows (xs.take (i+1))).length:=by simp
  have hb3:(be (xs.length:Int)++sRows (xs.take (i+1))).length≤140737488355328:=by
   have:=sRows_le (xs.take (i+1)) (oneK_all (oneK_take (i+1) hone));rw [List.length_take] at this
   simp;omega
  generalize hso:sRows (xs.take i)=so at htk hb2 ⊢;refine zz 5 ?_;refine O.ia (.p rfl) underlying146 size158 rfl rfl rfl zA (h:=fun p21 cs21 hp21 hr21=>?_);obtain ⟨ia3_21,ia5_21,ia6_21,ia7_21,ic3_21,ic5_21,ic6_21,ic7_21,rfl,hr1_21,ha7_21⟩:=ItRp.sh hr21;refine O.op (.p rfl) (.loadAgg isAgg158 zC rfl hp21) ?_;refine O.opE (.p rfl) (.alloc (cs:=[.string ⟨#[]⟩,.int .i64 0,.int .i64 0,.slice none 0 0,.bool false,.slice none 0 0,.slice none 0 0,.slice none 0 0]) zeroValue158 rfl) ?_;rintro _ _ ⟨b5,rfl,rfl⟩;refine zz 6 ?_;refine O.call0 (.p rfl) rfl zC rfl rfl (wBytes_c zA zI) ?_;rintro _ _ ⟨a26,c26,rfl,rfl⟩;generalize hbb:bytesOf (recB xs[i])=bb at htk ⊢;refine O.opE (.p rfl) (.litP (T:=Rp.val) (ys:=[_,_]) underlying39 elem31 zE rfl rfl ⟨⟨rfl,rfl⟩,⟨rfl,rfl⟩,trivial⟩ zE) ?_;rintro _ _ ⟨a27,c27,rfl,rfl⟩;refine O.callB (.p rfl) rfl zC rfl rfl (bs:=[OwnP Rp.val 31 (.slice a27 2 c27) [.slice p.1 (8+so.length) p.2,.slice a26 bb.length c26],OwnP Rp.u8 5 (.slice p.1 (8+so.length) p.2) (be xs.length++so),OwnP Rp.u8 5 (.slice a26 bb.length c26) bb]) zK (fun m hm hd=>wJoin_c (xss:=[be xs.length++so,bb]) ((hm.arr.right hd).rows ⟨hm.tail.arr.right hd,hm.tail.tail.arr.right hd,trivial⟩) (by rw [htk];exact hb3)) ?_;rintro _ _ ⟨a28,c28,rfl,rfl⟩;refine zz 7 ?_;rw [htk,htl];exact S.pw (ih (i+1) ((a28,c28)) zD zD)
 ·clear ih
  have hi:i=xs.length:=by omega
  subst hi;rw [List.take_length];have hl8:8+(sRows xs).length=(sB xs).length:=by simp [sB]
  rw [hl8];refine zz 6 ?_;exact S.rt results115 rfl hR ⟨hright,p.1,p.2,rfl,rfl⟩
noncomputable def sOut (l:List RecT):List UInt8:=if SRight l then sB l else []
noncomputable def sErr (l:List RecT):Int:=if SRight l then 0 else 4
theorem sTried_c {r:Fr} {first cap:Array Value} {xs:List RecT} (con:Con prog 115 (first++#[]++cap) r [] (RetP (fun v η=>SRight xs∧∃ a c,v=.slice a (sB xs).length c∧η=[OwnP Rp.u8 5 (.slice a (sB xs).length c) (sB xs)]) (fun ch η=>∃ z,ch=errP 32 z∧(¬ SRight xs∧z=4)∧η=[]))) (h1:(Value.func (.func 115) first cap).oneCell' =true:=by rfl) :
  Con prog 114 #[.func (.func 115) first cap] r [] (Ret fun v η=>∃ a c,v=.tuple #[.slice a (sOut xs).length c,.int .i64 (sErr xs)]∧η=[OwnP Rp.u8 5 (.slice a (sOut xs).length c) (sOut xs)]) :=
 (triedSB_c zC h1 (fun _ _ h=>by obtain ⟨_,_,_,rfl,_⟩:=h;rfl) con).post fun e η h w g hw=>by
  cases e with
  |returned v =>
   rcases h with ⟨u,⟨hs,a,c,rfl,rfl⟩,rfl⟩|⟨z,⟨hs,rfl⟩,rfl,rfl⟩
   ·exact ⟨_,⟨a,c,by simp [sOut,sErr,hs],rfl⟩,by simpa [sOut,hs] using hw⟩
   ·exact ⟨_,⟨none,0,by simp [sOut,sErr,hs],rfl⟩,by simp only [sOut,hs,if_false];exact hw.imp fun m x=>⟨Fr.emp,m,Fr.emp_disj _,Fr.emp_sub _,Fr.sub_refl _,ownP_nil _,x⟩⟩
  |panicked _=>exact h.elim
  |outgrown=>exact h.elim
theorem sPut_c {r:Fr} {va:Value} {xs:List RecT} (ha:Arr RecRp r va xs) (hl:xs.length≤1000000000) :
  Con prog 43 #[va] r [] (Ret fun v η=>∃ a c,v=.tuple #[.slice a (sOut xs).length c,.int .i64 (sErr xs)]∧η=[OwnP Rp.u8 5 (.slice a (sOut xs).length c) (sOut xs)]):=by
 refine Con.o func43 fun g hg R hR=>?_;have ha:=ha.mono hg;obtain ⟨a1,c1,rfl⟩:=ha.shape;refine S.seq<|S.region rfl<|O.opE (.p rfl) (.box (cs:=[_]) rfl rfl) ?_;rintro _ _ ⟨b1,rfl,rfl⟩;refine zz 4 ?_;refine S.frzO zB fun g hs hm hb1=>?_;replace hg:=Fr.sub_trans hg hs;replace hR:=melted hR hm
 try replace ha:=ha.mono hs
 clear hs hm;refine zz 2 ?_;refine O.call0 (.p rfl) rfl zC rfl rfl ((sTried_c (sput1_c hb1 ha hl))) ?_;rintro _ _ ⟨a5,c5,rfl,rfl⟩;refine O.q 4 rfl<|O.nil<|S.ret2 results43 rfl rfl fun w hw=>Holds.end_ hR hw ?_;exact pk ⟨a5,c5,rfl,rfl⟩
end Go.Proofs.YtodhbhanmdfdeaaGreat
