/- Texts of this proof. -/
import Derived.Test.YtodhbhanmdfdeaaGreatQEvid1
import Derived.Test.YtodhbhanmdfdeaaGreatQSpImg
open Go Go.Sp Go.Proofs.Tryz
set_option maxRecDepth 100000
set_option maxHeartbeats 1000000
attribute [local irreducible] obj Own OwnP
namespace Go.Proofs.YtodhbhanmdfdeaaGreat
theorem recordOf_c {r:Fr} {cs:List Value} {x:RecT} (h:RecRp.rel r cs x) (ho:RecOk big x) :
  Con prog 201 #[.agg cs.toArray] r [] (Ret fun v η=>v=.int .i64 (recN x:Int)∧η=[]):=by
 obtain ⟨xa3,xa5,xa6,xc3,xc5,xc6,rfl,k0,k1,k2,k3,k5,k6⟩:=RecRp.sh h;obtain ⟨o0,o1,o2,o3⟩:=ho;unfold big at o0 o1 o2 o3;have hz0:=str_size x.1;refine Con.o func201 fun g hg R hR=>?_;refine S.seq<|S.region rfl<|O.opE (.p rfl) (.box (cs:=[_,_,_,_,_,_,_]) rfl rfl) ?_;rintro _ _ ⟨b1,rfl,rfl⟩;refine zz 19 ?_;refine O.op (.p rfl) (.quo rfl rfl zD)<|O.slot 18 (v' :=.int .i64 (((x.1.length+x.2.2.2.2.2.1.length+x.2.2.2.2.2.2.1.length) / 8:Nat):Int)) rfl (by rw [hz0,Int.tdiv_eq_ediv_of_nonneg zD,IntWalk.i64_in _ zD];rfl) ?_;refine zz 1 ?_;refine O.slot 19 (v' :=.int .i64 (recN x:Int)) rfl (by unfold recN;exact congrArg _ zD) ?_;refine zz 2 ?_;exact S.rt results201 rfl hR ⟨rfl,rfl⟩
theorem recordsOf_c {r:Fr} {va:Value} {l:List RecT} {most:Int} (ha:Arr RecRp r va l) (ho:∀ x∈l,RecOk big x) (hl:l.length≤big) (hm:0≤most∧most≤1000000000) :
  Con prog 99 #[va,.int .i64 most] r [] (Ret fun v η=>∃ n:Nat,v=.int .i64 (n:Int)∧(n:Int)≤1000000000000000∧((n:Int)≤most→RecsC n l)∧η=[]):=by
 unfold big at hl;obtain ⟨hm0,hm1⟩:=hm;have har:=ha;refine Con.o func99 fun g hg R hR=>?_;have ha:=ha.mono hg;have hbd:=ha.bound;obtain ⟨a1,c1,rfl⟩:=ha.shape;refine zz 14 ?_;refine S.loopK2 (ι:=Nat) (κ:=Nat) (fun i n=>i≤l.length∧i≤n∧(n:Int)≤1000000000000000∧∀ x∈l.take i,recN x≤n) (fun i n=>[(5,.int .i64 (n:Int)),(6,.int .i64 (i:Int))]) [(0,_),(1,_)] (fun i n=>[]) (fun i n=>l.length - i) (0) (0) (by exact ⟨by simp,by simp,by omega,by simp⟩) zq zq rfl fun i n hx ih=>?_;have hm1:=meltRefl (g:=g);obtain ⟨hx1,hx2,hx3,hx4⟩:=hx
 by_cases q1:¬ i<l.length
 ·clear ih
  have hi:i=l.length:=by omega
  rw [hi,List.take_length] at hx4;refine zz 7 ?_;refine O.sF 10 rfl (by exact decide_eq_false zD) ?_;refine zz 13 ?_;exact S.rt results99 rfl hR ⟨n,rfl,hx3,fun _=>⟨by omega,hx4⟩,rfl⟩
 have hi:i<l.length:=Classical.not_not.1 q1
 by_cases q2:¬ (n:Int)≤most
 ·clear ih
  refine zz 7 ?_;refine O.sT 10 rfl (by exact decide_eq_true zD) ?_;refine zz 4 ?_;refine O.sF 14 rfl (by exact decide_eq_false q2) ?_;refine zz 9 ?_;exact S.rt results99 rfl hR ⟨n,rfl,hx3,fun h=>absurd h q2,rfl⟩
 replace q2:=Classical.not_not.1 q2;have hoi:=ho _ (List.getElem_mem hi);have hri:=recN_le hoi;unfold big at hri;have hrp:1≤recN l[i]:=by unfold recN;omega
 refine zz 7 ?_;refine O.sT 10 rfl (by exact decide_eq_true zD) ?_;refine zz 4 ?_;refine O.sT 14 rfl (by exact decide_eq_true q2) ?_;refine zz 10 ?_;refine O.iy har hg (h:=fun p21 cs21 hp21 hrr21=>?_);have hr21:=Rp.rel.mono hrr21 hg;obtain ⟨ra3_21,ra5_21,ra6_21,rc3_21,rc5_21,rc6_21,rfl,ho0_21,ho1_21,ho2_21,ha3_21,ha5_21,ha6_21⟩:=RecRp.sh hr21;refine O.op (.p rfl) (.loadAgg isAgg74 zC rfl hp21) ?_;refine O.v0 (.p rfl) rfl zC rfl rfl (recordOf_c (by first|assumption|exact Rp.rel.mono zF hg) zF) ?_;refine zz 1 ?_;refine O.slot 24 (v' :=.int .i64 ((n+recN l[i]:Nat):Int)) rfl (by rw [Int.natCast_add]) ?_;refine zz 8 ?_;exact S.wk (ih (i+1) (n+recN l[i]) (by exact ⟨by omega,by omega,by omega,mem_take_succ hi (fun x hx=>by have:=hx4 x hx;omega) zD⟩) zD)
theorem triedB_ret {g:Gr} {bt bx:Nat} {x:Value} {T' :TypeId} {w:World} {R:Ending→World→Prop} {η:List SProp} (hw:Holds w g (obj bx T' [x]::η)) (hR:∀ w,Holds w g (obj bx T' [x]::η)→R (.returned x) w) :
  CallsD prog 326 #[.pointer (some ⟨bt,0,none⟩),.pointer (some ⟨bx,0,none⟩)] .returning w (DPost g bx R):=by
 refine (callsD_rec (R:=fun e w=>(∃ v,e=.returned v)∧Holds w g (obj bx T' [x]::η)) [.pointer (some ⟨bt,0,none⟩),.pointer (some ⟨bx,0,none⟩)] rfl func326 rfl rfl rfl rfl hw ?_).mono ?_
 rotate_left
 ·rintro e u' w' ⟨rfl,⟨v,rfl⟩,h⟩
  exact ⟨⟨v,rfl⟩,rfl,T',x,η,h,hR w' h⟩
 refine S.seq<|S.region rfl<|O.q 1 rfl<|O.op (.p rfl) (.neqIN underlying20 rfl)<|O.nil<|S.condF rfl<|S.skip<|S.end0 results326 fun w hw=>?_;exact ⟨⟨_,rfl⟩,hw⟩
theorem triedB_pan {g:Gr} {bt bx b:Nat} {v x:Value} {made bad:Bool} {T' Tt:TypeId} {w:World} {R:Ending→World→Prop} {η:List SProp} (hw:Holds w g (obj bx T' [x]::obj bt Tt [.pointer (some ⟨b,0,none⟩)]::obj b 226 [v,.bool made,.bool bad]::η))
  (hR:∀ w,Holds w g (obj bx T' [.int .u8 0]::obj b 226 [v,.bool made,.bool true]::η)→R (.returned (.int .u8 0)) w) :
  CallsD prog 326 #[.pointer (some ⟨bt,0,none⟩),.pointer (some ⟨bx,0,none⟩)] (.panicking missing) w (DPost g bx R):=by
 refine (callsD_rec (R:=fun e w=>(∃ v,e=.returned v)∧Holds w g (obj bx T' [.int .u8 0]::obj b 226 [v,.bool made,.bool true]::η)) [.pointer (some ⟨bt,0,none⟩),.pointer (some ⟨bx,0,none⟩)] rfl func326 rfl rfl rfl rfl hw ?_).mono ?_
 rotate_left
 ·rintro e u' w' ⟨rfl,⟨v,rfl⟩,h⟩
  exact ⟨⟨v,rfl⟩,rfl,T',_,_,h,hR w' h⟩
 refine zz 3 ?_;refine O.op (.p rfl) (.neqIV underlying20 rfl) ?_;refine zz 6 ?_;refine O.op (.p rfl) (.assertYes underlying326 rfl) ?_;refine zz 3 ?_;refine O.opE (.p rfl) (.alloc (cs:=[]) zeroValue326 rfl) ?_;rintro _ _ ⟨b3,rfl,rfl⟩;refine zz 24 ?_;refine O.nil<|S.end0 results326 fun w hw=>?_;exact ⟨⟨_,rfl⟩,hw.picks zS⟩
theorem triedB_c {r:Fr} {b f:Nat} {v:Value} {made bad:Bool} {first cap:Array Value} {K:Value→Value→List SProp→Prop} {X:Value→Prop} (hc:callable prog f=true) (hK1:∀ u v' ζ,K u v' ζ→u.oneCell' =true)
  (con:made=true→bad=false→Con prog f (first++#[]++cap) r [obj b 226 [v,.bool true,.bool false]] (RetP (fun u η=>∃ v' ζ,K u v' ζ∧η=obj b 226 [v',.bool true,.bool false]::ζ) (fun ch η=>ch=missing∧∃ v',X v' ∧η=[obj b 226 [v',.bool true,.bool false]]))) :
  Con prog 294 #[.pointer (some ⟨b,0,none⟩),.func (.func f) first cap] r [obj b 226 [v,.bool made,.bool bad]] (Ret fun u η =>
   ((made && !bad)=false∧u=.int .u8 0∧η=[obj b 226 [v,.bool made,.bool bad]])∨(made=true∧bad=false∧∃ v' ζ,K u v' ζ∧η=obj b 226 [v',.bool true,.bool false]::ζ) ∨
   (made=true∧bad=false∧∃ v',X v' ∧u=.int .u8 0∧η=[obj b 226 [v',.bool true,.bool true]])):=by
 refine Con.of (n:=12) [.pointer (some ⟨b,0,none⟩),.func (.func f) first cap] rfl func294 rfl rfl rfl fun g hg R hR=>?_;refine S.seq<|S.region rfl<|O.opE (.p rfl) (.box (cs:=[_]) rfl rfl) ?_;rintro _ _ ⟨b2,rfl,rfl⟩;refine O.opE (.p rfl) (.alloc (cs:=[.int .u8 0]) zeroValue5 rfl) ?_;rintro _ _ ⟨b4,rfl,rfl⟩;refine zz 5 ?_;refine O.vS (.p rfl) rfl zC rfl rfl zB rGood_c ?_;refine O.op (.p rfl) ((by first|exact .notD rfl|exact .not rfl)) ?_;refine zz 1 ?_;refine S.cd rfl (fun h7=>?_) fun h7=>?_
 ·refine zz 4 ?_
  refine O.nil<|S.retCell results294 flat5 rfl zB fun w hw=>Holds.end_ hR hw ?_;exact pk (.inl ⟨by revert h7;cases made<;>cases bad<;>simp,rfl,rfl⟩)
 ·obtain ⟨rfl,rfl⟩:made=true∧bad=false:=by revert h7;cases made<;>cases bad<;>simp
  refine zz 4 ?_;refine O.defer rfl rfl rfl rfl ?_;refine zz 4 ?_;refine O.callPSD (.p rfl) rfl hc rfl rfl zB ((con rfl rfl).sub hg) (fun a ch η' w hF hX hW=>by (obtain ⟨rfl,v',hX',rfl⟩:=hX;exact leavesCell results294 flat5 hF rfl zG zC (triedB_pan (hW.picks zS) fun w hw=>Holds.end_ hR hw ⟨_,.inr (.inr ⟨rfl,rfl,v',hX',rfl,rfl⟩),by repeat (first|exact zpa|exact zpn|(apply zpc;focus (repeat (first|exact zh|apply zt)))|apply zps)⟩))) ?_;rintro v11 _ ⟨v',ζ,hK,rfl⟩;have hone:=hK1 _ _ _ hK;refine O.perm (List.Perm.cons _ List.perm_append_comm) ?_;simp only [List.cons_append,List.nil_append];refine zz 1 ?_;refine O.nil<|S.retL fun a w hf hd hw=>?_;exact leavesCell results294 flat5 hf rfl zG zC (triedB_ret hw fun w hw=>Holds.end_ hR hw ⟨_,.inr (.inl ⟨rfl,rfl,v',ζ,hK,rfl⟩),by repeat (first|exact zpa|exact zpn|(apply zpc;focus (repeat (first|exact zh|apply zt)))|apply zps)⟩)
theorem triedI_ret {g:Gr} {bt bx:Nat} {x:Value} {T' :TypeId} {w:World} {R:Ending→World→Prop} {η:List SProp} (hw:Holds w g (obj bx T' [x]::η)) (hR:∀ w,Holds w g (obj bx T' [x]::η)→R (.returned x) w) :
  CallsD prog 272 #[.pointer (some ⟨bt,0,none⟩),.pointer (some ⟨bx,0,none⟩)] .returning w (DPost g bx R):=by
 refine (callsD_rec (R:=fun e w=>(∃ v,e=.returned v)∧Holds w g (obj bx T' [x]::η)) [.pointer (some ⟨bt,0,none⟩),.pointer (some ⟨bx,0,none⟩)] rfl func272 rfl rfl rfl rfl hw ?_).mono ?_
 rotate_left
 ·rintro e u' w' ⟨rfl,⟨v,rfl⟩,h⟩
  exact ⟨⟨v,rfl⟩,rfl,T',x,η,h,hR w' h⟩
 refine S.seq<|S.region rfl<|O.q 1 rfl<|O.op (.p rfl) (.neqIN underlying20 rfl)<|O.nil<|S.condF rfl<|S.skip<|S.end0 results272 fun w hw=>?_;exact ⟨⟨_,rfl⟩,hw⟩
theorem triedI_pan {g:Gr} {bt bx b:Nat} {v x:Value} {made bad:Bool} {T' Tt:TypeId} {w:World} {R:Ending→World→Prop} {η:List SProp} (hw:Holds w g (obj bx T' [x]::obj bt Tt [.pointer (some ⟨b,0,none⟩)]::obj b 226 [v,.bool made,.bool bad]::η))
  (hR:∀ w,Holds w g (obj bx T' [.int .i64 0]::obj b 226 [v,.bool made,.bool true]::η)→R (.returned (.int .i64 0)) w) :
  CallsD prog 272 #[.pointer (some ⟨bt,0,none⟩),.pointer (some ⟨bx,0,none⟩)] (.panicking missing) w (DPost g bx R):=by
 refine (callsD_rec (R:=fun e w=>(∃ v,e=.returned v)∧Holds w g (obj bx T' [.int .i64 0]::obj b 226 [v,.bool made,.bool true]::η)) [.pointer (some ⟨bt,0,none⟩),.pointer (some ⟨bx,0,none⟩)] rfl func272 rfl rfl rfl rfl hw ?_).mono ?_
 rotate_left
 ·rintro e u' w' ⟨rfl,⟨v,rfl⟩,h⟩
  exact ⟨⟨v,rfl⟩,rfl,T',_,_,h,hR w' h⟩
 refine zz 3 ?_;refine O.op (.p rfl) (.neqIV underlying20 rfl) ?_;refine zz 6 ?_;refine O.op (.p rfl) (.assertYes underlying326 rfl) ?_;refine zz 3 ?_;refine O.opE (.p rfl) (.alloc (cs:=[]) zeroValue326 rfl) ?_;rintro _ _ ⟨b3,rfl,rfl⟩;refine zz 24 ?_;refine O.nil<|S.end0 results272 fun w hw=>?_;exact ⟨⟨_,rfl⟩,hw.picks zS⟩
theorem triedI_c {r:Fr} {b f:Nat} {v:Value} {made bad:Bool} {first cap:Array Value} {K:Value→Value→List SProp→Prop} {X:Value→Prop} (hc:callable prog f=true) (hK1:∀ u v' ζ,K u v' ζ→u.oneCell' =true)
  (con:made=true→bad=false→Con prog f (first++#[]++cap) r [obj b 226 [v,.bool true,.bool false]] (RetP (fun u η=>∃ v' ζ,K u v' ζ∧η=obj b 226 [v',.bool true,.bool false]::ζ) (fun ch η=>ch=missing∧∃ v',X v' ∧η=[obj b 226 [v',.bool true,.bool false]]))) :
  Con prog 195 #[.pointer (some ⟨b,0,none⟩),.func (.func f) first cap] r [obj b 226 [v,.bool made,.bool bad]] (Ret fun u η =>
   ((made && !bad)=false∧u=.int .i64 0∧η=[obj b 226 [v,.bool made,.bool bad]])∨(made=true∧bad=false∧∃ v' ζ,K u v' ζ∧η=obj b 226 [v',.bool true,.bool false]::ζ) ∨
   (made=true∧bad=false∧∃ v',X v' ∧u=.int .i64 0∧η=[obj b 226 [v',.bool true,.bool true]])):=by
 refine Con.of (n:=12) [.pointer (some ⟨b,0,none⟩),.func (.func f) first cap] rfl func195 rfl rfl rfl fun g hg R hR=>?_;refine S.seq<|S.region rfl<|O.opE (.p rfl) (.box (cs:=[_]) rfl rfl) ?_;rintro _ _ ⟨b2,rfl,rfl⟩;refine O.opE (.p rfl) (.alloc (cs:=[.int .i64 0]) zeroValue3 rfl) ?_;rintro _ _ ⟨b4,rfl,rfl⟩;refine zz 5 ?_;refine O.vS (.p rfl) rfl zC rfl rfl zB rGood_c ?_;refine O.op (.p rfl) ((by first|exact .notD rfl|exact .not rfl)) ?_;refine zz 1 ?_;refine S.cd rfl (fun h7=>?_) fun h7=>?_
 ·refine zz 4 ?_
  refine O.nil<|S.retCell results195 flat3 rfl zB fun w hw=>Holds.end_ hR hw ?_;exact pk (.inl ⟨by revert h7;cases made<;>cases bad<;>simp,rfl,rfl⟩)
 ·obtain ⟨rfl,rfl⟩:made=true∧bad=false:=by revert h7;cases made<;>cases bad<;>simp
  refine zz 4 ?_;refine O.defer rfl rfl rfl rfl ?_;refine zz 4 ?_;refine O.callPSD (.p rfl) rfl hc rfl rfl zB ((con rfl rfl).sub hg) (fun a ch η' w hF hX hW=>by (obtain ⟨rfl,v',hX',rfl⟩:=hX;exact leavesCell results195 flat3 hF rfl zG zC (triedI_pan (hW.picks zS) fun w hw=>Holds.end_ hR hw ⟨_,.inr (.inr ⟨rfl,rfl,v',hX',rfl,rfl⟩),by repeat (first|exact zpa|exact zpn|(apply zpc;focus (repeat (first|exact zh|apply zt)))|apply zps)⟩))) ?_;rintro v11 _ ⟨v',ζ,hK,rfl⟩;have hone:=hK1 _ _ _ hK;refine O.perm (List.Perm.cons _ List.perm_append_comm) ?_;simp only [List.cons_append,List.nil_append];refine zz 1 ?_;refine O.nil<|S.retL fun a w hf hd hw=>?_;exact leavesCell results195 flat3 hf rfl zG zC (triedI_ret hw fun w hw=>Holds.end_ hR hw ⟨_,.inr (.inl ⟨rfl,rfl,v',ζ,hK,rfl⟩),by repeat (first|exact zpa|exact zpn|(apply zpc;focus (repeat (first|exact zh|apply zt)))|apply zps)⟩)
theorem triedS_ret {g:Gr} {bt bx:Nat} {x:Value} {T' :TypeId} {w:World} {R:Ending→World→Prop} {η:List SProp} (hw:Holds w g (obj bx T' [x]::η)) (hR:∀ w,Holds w g (obj bx T' [x]::η)→R (.returned x) w) :
  CallsD prog 296 #[.pointer (some ⟨bt,0,none⟩),.pointer (some ⟨bx,0,none⟩)] .returning w (DPost g bx R):=by
 refine (callsD_rec (R:=fun e w=>(∃ v,e=.returned v)∧Holds w g (obj bx T' [x]::η)) [.pointer (some ⟨bt,0,none⟩),.pointer (some ⟨bx,0,none⟩)] rfl func296 rfl rfl rfl rfl hw ?_).mono ?_
 rotate_left
 ·rintro e u' w' ⟨rfl,⟨v,rfl⟩,h⟩
  exact ⟨⟨v,rfl⟩,rfl,T',x,η,h,hR w' h⟩
 refine S.seq<|S.region rfl<|O.q 1 rfl<|O.op (.p rfl) (.neqIN underlying20 rfl)<|O.nil<|S.condF rfl<|S.skip<|S.end0 results296 fun w hw=>?_;exact ⟨⟨_,rfl⟩,hw⟩
theorem triedS_pan {g:Gr} {bt bx b:Nat} {v x:Value} {made bad:Bool} {T' Tt:TypeId} {w:World} {R:Ending→World→Prop} {η:List SProp} (hw:Holds w g (obj bx T' [x]::obj bt Tt [.pointer (some ⟨b,0,none⟩)]::obj b 226 [v,.bool made,.bool bad]::η))
  (hR:∀ w,Holds w g (obj bx T' [.slice none 0 0]::obj b 226 [v,.bool made,.bool true]::η)→R (.returned (.slice none 0 0)) w) :
  CallsD prog 296 #[.pointer (some ⟨bt,0,none⟩),.pointer (some ⟨bx,0,none⟩)] (.panicking missing) w (DPost g bx R):=by
 refine (callsD_rec (R:=fun e w=>(∃ v,e=.returned v)∧Holds w g (obj bx T' [.slice none 0 0]::obj b 226 [v,.bool made,.bool true]::η)) [.pointer (some ⟨bt,0,none⟩),.pointer (some ⟨bx,0,none⟩)] rfl func296 rfl rfl rfl rfl hw ?_).mono ?_
 rotate_left
 ·rintro e u' w' ⟨rfl,⟨v,rfl⟩,h⟩
  exact ⟨⟨v,rfl⟩,rfl,T',_,_,h,hR w' h⟩
 refine zz 3 ?_;refine O.op (.p rfl) (.neqIV underlying20 rfl) ?_;refine zz 6 ?_;refine O.op (.p rfl) (.assertYes underlying326 rfl) ?_;refine zz 3 ?_;refine O.opE (.p rfl) (.alloc (cs:=[]) zeroValue326 rfl) ?_;rintro _ _ ⟨b3,rfl,rfl⟩;refine zz 24 ?_;refine O.nil<|S.end0 results296 fun w hw=>?_;exact ⟨⟨_,rfl⟩,hw.picks zS⟩
theorem triedS_c {r:Fr} {b f:Nat} {v:Value} {made bad:Bool} {first cap:Array Value} {K:Value→Value→List SProp→Prop} {X:Value→Prop} (hc:callable prog f=true) (hK1:∀ u v' ζ,K u v' ζ→u.oneCell' =true)
  (con:made=true→bad=false→Con prog f (first++#[]++cap) r [obj b 226 [v,.bool true,.bool false]] (RetP (fun u η=>∃ v' ζ,K u v' ζ∧η=obj b 226 [v',.bool true,.bool false]::ζ) (fun ch η=>ch=missing∧∃ v',X v' ∧η=[obj b 226 [v',.bool true,.bool false]]))) :
  Con prog 230 #[.pointer (some ⟨b,0,none⟩),.func (.func f) first cap] r [obj b 226 [v,.bool made,.bool bad]] (Ret fun u η =>
   ((made && !bad)=false∧u=.slice none 0 0∧η=[obj b 226 [v,.bool made,.bool bad]])∨(made=true∧bad=false∧∃ v' ζ,K u v' ζ∧η=obj b 226 [v',.bool true,.bool false]::ζ) ∨
   (made=true∧bad=false∧∃ v',X v' ∧u=.slice none 0 0∧η=[obj b 226 [v',.bool true,.bool true]])):=by
 refine Con.of (n:=12) [.pointer (some ⟨b,0,none⟩),.func (.func f) first cap] rfl func230 rfl rfl rfl fun g hg R hR=>?_;refine S.seq<|S.region rfl<|O.opE (.p rfl) (.box (cs:=[_]) rfl rfl) ?_;rintro _ _ ⟨b2,rfl,rfl⟩;refine O.opE (.p rfl) (.alloc (cs:=[.slice none 0 0]) zeroValue31 rfl) ?_;rintro _ _ ⟨b4,rfl,rfl⟩;refine zz 5 ?_;refine O.vS (.p rfl) rfl zC rfl rfl zB rGood_c ?_;refine O.op (.p rfl) ((by first|exact .notD rfl|exact .not rfl)) ?_;refine zz 1 ?_;refine S.cd rfl (fun h7=>?_) fun h7=>?_
 ·refine zz 4 ?_
  refine O.nil<|S.retCell results230 flat31 rfl zB fun w hw=>Holds.end_ hR hw ?_;exact pk (.inl ⟨by revert h7;cases made<;>cases bad<;>simp,rfl,rfl⟩)
 ·obtain ⟨rfl,rfl⟩:made=true∧bad=false:=by revert h7;cases made<;>cases bad<;>simp
  refine zz 4 ?_;refine O.defer rfl rfl rfl rfl ?_;refine zz 4 ?_;refine O.callPSD (.p rfl) rfl hc rfl rfl zB ((con rfl rfl).sub hg) (fun a ch η' w hF hX hW=>by (obtain ⟨rfl,v',hX',rfl⟩:=hX;exact leavesCell results230 flat31 hF rfl zG zC (triedS_pan (hW.picks zS) fun w hw=>Holds.end_ hR hw ⟨_,.inr (.inr ⟨rfl,rfl,v',hX',rfl,rfl⟩),by repeat (first|exact zpa|exact zpn|(apply zpc;focus (repeat (first|exact zh|apply zt)))|apply zps)⟩))) ?_;rintro v11 _ ⟨v',ζ,hK,rfl⟩;have hone:=hK1 _ _ _ hK;refine O.perm (List.Perm.cons _ List.perm_append_comm) ?_;simp only [List.cons_append,List.nil_append];refine zz 1 ?_;refine O.nil<|S.retL fun a w hf hd hw=>?_;exact leavesCell results230 flat31 hf rfl zG zC (triedS_ret hw fun w hw=>Holds.end_ hR hw ⟨_,.inr (.inl ⟨rfl,rfl,v',ζ,hK,rfl⟩),by repeat (first|exact zpa|exact zpn|(apply zpc;focus (repeat (first|exact zh|apply zt)))|apply zps)⟩)
theorem count_c {r:Fr} {b T:Nat} {v:Value} {cs:List Value} {rest:List UInt8} (most:Int) (ha:Arr Rp.u8 r v rest) :
  Con prog 227 #[.pointer (some ⟨b,0,none⟩),.int .i64 most] r [obj b T (v::cs)]
   (RetP (fun u η=>8≤rest.length∧(0≤ofBe rest∧ofBe rest≤most)∧∃ v',u=.int .i64 (ofBe rest)∧Arr Rp.u8 r v' (rest.drop 8)∧η=[obj b T (v' ::cs)])
    (fun ch η=>ch=missing∧∃ v',(rest.length<8∧v' =v∨8≤rest.length∧¬(0≤ofBe rest∧ofBe rest≤most)∧Arr Rp.u8 r v' (rest.drop 8))∧η=[obj b T (v' ::cs)])):=by
 refine Con.o func227 fun g hg R hR=>?_;refine zz 7 ?_;refine O.callPS (.p rfl) rfl zC rfl rfl zB ((number_c ha).sub hg) (fun ch η' w hX hW=>by (obtain ⟨hb,rfl,rfl⟩:=hX;exact hR _ _ w ⟨rfl,v,.inl ⟨hb,rfl⟩,rfl⟩ hW)) ?_;rintro v7 _ ⟨hl7,v7,rfl,ha7,rfl⟩;refine zz 7 ?_
 first|refine O.caseD 10 rfl (fun h10=>?_) (fun h10=>?_)|refine O.caseB 10 rfl (fun h10=>?_) (fun h10=>?_)
 ·refine zz 4 ?_
  refine O.callP0 (.p rfl) rfl zC rfl rfl (must_c _) (fun ch η' w hX hW=>by (obtain ⟨hb,rfl,rfl⟩:=hX;exact hR _ _ w ⟨rfl,v7,.inr ⟨hl7,by simp at hb;omega,ha7⟩,rfl⟩ hW)) ?_;rintro _ _ ⟨hb15,rfl,rfl⟩;refine zz 6 ?_;refine S.ret results227 rfl fun w hw=>hR _ _ w ?_ hw;exact ⟨hl7,by simp at hb15;omega,v7,rfl,ha7,rfl⟩
 ·refine O.q 4 rfl<|O.callP0 (.p rfl) rfl zC rfl rfl (must_c _) (fun ch η' w hX hW=>by (obtain ⟨hb,rfl,rfl⟩:=hX;exact hR _ _ w ⟨rfl,v7,.inr ⟨hl7,by omega,ha7⟩,rfl⟩ hW)) ?_
  rintro _ _ ⟨hb15,rfl,rfl⟩;exact absurd hb15 zG
def KNum (r:Fr) (rest:List UInt8) (u v' :Value) (ζ:List SProp):Prop:=8≤rest.length∧u=.int .i64 (ofBe rest)∧Arr Rp.u8 r v' (rest.drop 8)∧ζ=[]
theorem numberR {r:Fr} {b:Nat} {v:Value} {rest:List UInt8} (ha:Arr Rp.u8 r v rest) :
  Con prog 196 (#[.pointer (some ⟨b,0,none⟩)]++#[]++#[]) r [obj b 226 [v,.bool true,.bool false]]
   (RetP (fun u η=>∃ v' ζ,KNum r rest u v' ζ∧η=obj b 226 [v',.bool true,.bool false]::ζ) (fun ch η=>ch=missing∧∃ v',(rest.length<8∧v' =v)∧η=[obj b 226 [v',.bool true,.bool false]])) :=
 (number_c (T:=226) (cs:=[.bool true,.bool false]) ha).mono fun e η h=>by
  cases e with
  |returned u=>obtain ⟨h1,v',h2,h3,h4⟩:=h;exact ⟨v',[],⟨h1,h2,h3,rfl⟩,h4⟩
  |panicked ch=>obtain ⟨h1,h2,h3⟩:=h;exact ⟨h2,v,⟨h1,rfl⟩,h3⟩
  |outgrown=>exact h.elim
theorem rNumber_c {r:Fr} {b:Nat} {v:Value} {rest:List UInt8} {made bad:Bool} (ha:Arr Rp.u8 r v rest) :
  Con prog 89 #[.pointer (some ⟨b,0,none⟩)] r [obj b 226 [v,.bool made,.bool bad]]
   (Ret fun u η=>∃ v',u=.int .i64 (rNum (made && !bad) rest).1∧Arr Rp.u8 r v' (rNum (made && !bad) rest).2.1∧η=[obj b 226 [v',.bool made,.bool (bad ||(rNum (made && !bad) rest).2.2)]]):=by
 refine Con.o func89 fun g hg R hR=>?_;refine zz 8 ?_;refine O.op (.p rfl) (.eqlP underlying126 rfl rfl) ?_;refine zz 8 ?_;refine O.op (.p rfl) (.fieldAddr fld226x0 rfl) ?_;refine zz 1 ?_;refine O.callS (.p rfl) rfl zC rfl rfl zB ((triedI_c zC (K:=KNum r rest) (fun _ _ _ h=>by obtain ⟨_,rfl,_⟩:=h;rfl) fun _ _=>numberR ha).sub hg) ?_;rintro v10 _ h10;refine O.q 1 rfl<|O.nil<|S.ret results89 rfl fun w hw=>hR _ _ w ?_ hw
 rcases h10 with ⟨h1,rfl,rfl⟩|⟨rfl,rfl,v',ζ,⟨h1,rfl,h2,rfl⟩,rfl⟩|⟨rfl,rfl,v',⟨h1,rfl⟩,rfl,rfl⟩
 ·exact ⟨v,by simp [rNum,h1],by simpa [rNum,h1] using ha,by simp [rNum,h1]⟩
 ·exact ⟨v',by simp [rNum,h1],by simpa [rNum,h1] using h2,by simp [rNum,h1]⟩
 ·have h1:¬ 8≤rest.length:=by omega
  exact ⟨_,by simp [rNum,h1],by simpa [rNum,h1] using ha,by simp [rNum,h1]⟩
def KByte (r:Fr) (rest:List UInt8) (u v' :Value) (ζ:List SProp):Prop:=∃ x xs,rest=x::xs∧u=byteV x∧Arr Rp.u8 r v' xs∧ζ=[]
theorem oneR {r:Fr} {b:Nat} {v:Value} {rest:List UInt8} (ha:Arr Rp.u8 r v rest) :
  Con prog 295 (#[.pointer (some ⟨b,0,none⟩)]++#[]++#[]) r [obj b 226 [v,.bool true,.bool false]]
   (RetP (fun u η=>∃ v' ζ,KByte r rest u v' ζ∧η=obj b 226 [v',.bool true,.bool false]::ζ) (fun ch η=>ch=missing∧∃ v',(rest=[]∧v' =v)∧η=[obj b 226 [v',.bool true,.bool false]])) :=
 (one_c (T:=226) (cs:=[.bool true,.bool false]) ha).mono fun e η h=>by
  cases e with
  |returned u=>obtain ⟨x,xs,v',h1,h2,h3,h4⟩:=h;exact ⟨v',[],⟨x,xs,h1,h2,h3,rfl⟩,h4⟩
  |panicked ch=>obtain ⟨h1,h2,h3⟩:=h;exact ⟨h2,v,⟨h1,rfl⟩,h3⟩
  |outgrown=>exact h.elim
theorem rByte_c {r:Fr} {b:Nat} {v:Value} {rest:List UInt8} {made bad:Bool} (ha:Arr Rp.u8 r v rest) :
  Con prog 228 #[.pointer (some ⟨b,0,none⟩)] r [obj b 226 [v,.bool made,.bool bad]]
   (Ret fun u η=>∃ v',u=byteV (rByte (made && !bad) rest).1∧Arr Rp.u8 r v' (rByte (made && !bad) rest).2.1∧η=[obj b 226 [v',.bool made,.bool (bad ||(rByte (made && !bad) rest).2.2)]]):=by
 refine Con.o func228 fun g hg R hR=>?_;refine zz 8 ?_;refine O.op (.p rfl) (.eqlP underlying126 rfl rfl) ?_;refine zz 8 ?_;refine O.op (.p rfl) (.fieldAddr fld226x0 rfl) ?_;refine zz 1 ?_;refine O.callS (.p rfl) rfl zC rfl rfl zB ((triedB_c zC (K:=KByte r rest) (fun _ _ _ h=>by obtain ⟨_,_,_,rfl,_⟩:=h;rfl) fun _ _=>oneR ha).sub hg) ?_;rintro v10 _ h10;refine O.q 1 rfl<|O.nil<|S.ret results228 rfl fun w hw=>hR _ _ w ?_ hw
 rcases h10 with ⟨h1,rfl,rfl⟩|⟨rfl,rfl,v',ζ,⟨x,xs,rfl,rfl,h2,rfl⟩,rfl⟩|⟨rfl,rfl,v',⟨rfl,rfl⟩,rfl,rfl⟩
 ·exact ⟨v,by simp [rByte,h1,byteV],by simpa [rByte,h1] using ha,by simp [rByte,h1]⟩
 ·exact ⟨v',by simp [rByte],by simpa [rByte] using h2,by simp [rByte]⟩
 ·exact ⟨_,by simp [rByte,byteV],by simpa [rByte] using ha,by simp [rByte]⟩
def KCount (r:Fr) (most:Int) (rest:List UInt8) (u v' :Value) (ζ:List SProp):Prop:=8≤rest.length∧(0≤ofBe rest∧ofBe rest≤most)∧u=.int .i64 (ofBe rest)∧Arr Rp.u8 r v' (rest.drop 8)∧ζ=[]
def XCount (r:Fr) (most:Int) (v:Value) (rest:List UInt8) (v' :Value):Prop:=rest.length<8∧v' =v∨8≤rest.length∧¬(0≤ofBe rest∧ofBe rest≤most)∧Arr Rp.u8 r v' (rest.drop 8)
theorem count1_c {r0 r:Fr} {b bt bm:Nat} {v:Value} {rest:List UInt8} {most:Int} (hs:r0.sub r) (ha:Arr Rp.u8 r0 v rest) (ht:At r ⟨bt,0,none⟩ [.pointer (some ⟨b,0,none⟩)]) (hm:At r ⟨bm,0,none⟩ [.int .i64 most]) :
  Con prog 226 (#[]++#[]++#[.pointer (some ⟨bt,0,none⟩),.pointer (some ⟨bm,0,none⟩)]) r [obj b 226 [v,.bool true,.bool false]]
   (RetP (fun u η=>∃ v' ζ,KCount r0 most rest u v' ζ∧η=obj b 226 [v',.bool true,.bool false]::ζ) (fun ch η=>ch=missing∧∃ v',XCount r0 most v rest v' ∧η=[obj b 226 [v',.bool true,.bool false]])):=by
 refine Con.of (n:=8) [.pointer (some ⟨bt,0,none⟩),.pointer (some ⟨bm,0,none⟩)] rfl func226 rfl rfl rfl fun g hg R hR=>?_;have ht:=ht.mono hg;have hm:=hm.mono hg;refine zz 5 ?_;refine S.regionD (L:=.range 6) F.mixed zC ?_;refine zz 4 ?_;refine OD.callPS (.p rfl) zC rfl zC rfl rfl zB ((count_c most ha).sub (Fr.sub_trans hs hg)) (fun ch η' w hX hW=>by (obtain ⟨rfl,v',hx,rfl⟩:=hX;exact hR _ _ w ⟨rfl,v',hx,rfl⟩ hW)) ?_;rintro v7 _ ⟨hl7,hm7,v7,rfl,ha7,rfl⟩;refine OD.q 1 rfl<|ODx.nil<|S.ret results226 rfl fun w hw=>hR _ _ w ?_ hw;exact ⟨v7,[],⟨hl7,hm7,rfl,ha7,rfl⟩,rfl⟩
theorem rCount_c {r:Fr} {b:Nat} {v:Value} {rest:List UInt8} {made bad:Bool} (most:Int) (ha:Arr Rp.u8 r v rest) :
  Con prog 127 #[.pointer (some ⟨b,0,none⟩),.int .i64 most] r [obj b 226 [v,.bool made,.bool bad]]
   (Ret fun u η=>∃ v',u=.int .i64 (rCount most (made && !bad) rest).1∧Arr Rp.u8 r v' (rCount most (made && !bad) rest).2.1∧η=[obj b 226 [v',.bool made,.bool (bad ||(rCount most (made && !bad) rest).2.2)]]):=by
 refine Con.o func127 fun g hg R hR=>?_;refine S.seq<|S.region rfl<|O.opE (.p rfl) (.box (cs:=[_]) rfl rfl) ?_;rintro _ _ ⟨b2,rfl,rfl⟩;refine O.opE (.p rfl) (.box (cs:=[_]) rfl rfl) ?_;rintro _ _ ⟨b3,rfl,rfl⟩;refine zz 6 ?_;refine O.freeze fun m1 hm1 hd1=>?_;refine O.freeze fun m2 hm2 hd2=>?_;have hg2:r.sub ((g.add m1).add m2).h:=Fr.sub_trans hg (Fr.sub_trans (Fr.sub_add_left _ _) (Fr.sub_add_left _ _));refine O.callS (.p rfl) rfl zC rfl rfl zB (triedI_c zC (K:=KCount r most rest) (X:=XCount r most v rest) (fun _ _ _ h=>by obtain ⟨_,_,rfl,_⟩:=h;rfl) fun _ _=>count1_c hg2 ha (obj_atR hm2 hd2) (obj_atR hm1 hd1).left) ?_;rintro v7 _ h7;refine O.q 1 rfl<|O.nil<|S.thaw (A:=fun _=>True) trivial hd2 (S.drop (S.thaw (A:=fun _=>True) trivial hd1 (S.drop ?_)));refine S.ret results127 rfl fun w hw=>hR _ _ w ?_ hw
 rcases h7 with ⟨h1,rfl,rfl⟩|⟨rfl,rfl,v',ζ,⟨h1,h3,rfl,h2,rfl⟩,rfl⟩|⟨rfl,rfl,v',h1,rfl,rfl⟩
 ·exact ⟨v,by simp [rCount,h1],by simpa [rCount,h1] using ha,by simp [rCount,h1]⟩
 ·exact ⟨v',by simp [rCount,h1,h3],by simpa [rCount,h1,h3] using h2,by simp [rCount,h1,h3]⟩
 ·rcases h1 with ⟨h1,rfl⟩|⟨h1,h3,h4⟩
  ·have h1:¬ 8≤rest.length:=by omega
   exact ⟨_,by simp [rCount,h1],by simpa [rCount,h1] using ha,by simp [rCount,h1]⟩
  ·exact ⟨v',by simp [rCount,h1,h3],by simpa [rCount,h1,h3] using h4,by simp [rCount,h1,h3]⟩
def KBytes (r:Fr) (e:TypeId) (most:Int) (rest:List UInt8) (u v' :Value) (ζ:List SProp):Prop :=
 8≤rest.length∧(0≤ofBe rest∧ofBe rest≤most)∧(ofBe rest).toNat≤(rest.drop 8).length∧Arr Rp.u8 r v' ((rest.drop 8).drop (ofBe rest).toNat) ∧
 ∃ a c,u=.slice a ((rest.drop 8).take (ofBe rest).toNat).length c∧ζ=[OwnP Rp.u8 e u ((rest.drop 8).take (ofBe rest).toNat)]
def XBytes (r:Fr) (most:Int) (v:Value) (rest:List UInt8) (v' :Value):Prop:=XCount r most v rest v' ∨8≤rest.length∧(0≤ofBe rest∧ofBe rest≤most)∧¬(ofBe rest).toNat≤(rest.drop 8).length∧Arr Rp.u8 r v' (rest.drop 8)
theorem bytes1_c {r0 r:Fr} {b bt bm:Nat} {v:Value} {rest:List UInt8} {most:Int} (hs:r0.sub r) (ha:Arr Rp.u8 r0 v rest) (hl:rest.length≤140737488355328) (ht:At r ⟨bt,0,none⟩ [.pointer (some ⟨b,0,none⟩)]) (hm:At r ⟨bm,0,none⟩ [.int .i64 most]) :
  Con prog 231 (#[]++#[]++#[.pointer (some ⟨bt,0,none⟩),.pointer (some ⟨bm,0,none⟩)]) r [obj b 226 [v,.bool true,.bool false]]
   (RetP (fun u η=>∃ v' ζ,KBytes r0 5 most rest u v' ζ∧η=obj b 226 [v',.bool true,.bool false]::ζ) (fun ch η=>ch=missing∧∃ v',XBytes r0 most v rest v' ∧η=[obj b 226 [v',.bool true,.bool false]])):=by
 refine Con.of (n:=13) [.pointer (some ⟨bt,0,none⟩),.pointer (some ⟨bm,0,none⟩)] rfl func231 rfl rfl rfl fun g hg R hR=>?_;have ht:=ht.mono hg;have hm:=hm.mono hg;refine zz 5 ?_;refine S.regionD (L:=.range 11) F.mixed zC ?_;refine zz 7 ?_;refine OD.callPS (.p rfl) zC rfl zC rfl rfl zB ((count_c most ha).sub (Fr.sub_trans hs hg)) (fun ch η' w hX hW=>by (obtain ⟨rfl,v',hx,rfl⟩:=hX;exact hR _ _ w ⟨rfl,v',.inl hx,rfl⟩ hW)) ?_;rintro v10 _ ⟨hl10,hm10,v10,rfl,ha10,rfl⟩;refine OD.callPS (.p rfl) zC rfl zC rfl rfl zB ((take_c _ ha10).sub (Fr.sub_trans hs hg)) (fun ch η' w hX hW=>by (obtain ⟨hb,rfl,rfl⟩:=hX;exact hR _ _ w ⟨rfl,v10,.inr ⟨hl10,hm10,by omega,ha10⟩,rfl⟩ hW)) ?_;rintro v11 _ ⟨hb11,a11,c11,v11,rfl,ha11,ha11',rfl⟩;refine OD.call0 (.p rfl) zC rfl zC rfl rfl ((cloneB_c (ha11.mono (Fr.sub_trans hs hg)) zJ)) ?_;rintro _ _ ⟨a12,c12,rfl,rfl⟩;refine zz 2 ?_;exact S.rt results231 rfl hR ⟨v11,_,⟨hl10,hm10,by omega,ha11',a12,c12,rfl,rfl⟩,rfl⟩
theorem rBytes_c {r:Fr} {b:Nat} {v:Value} {rest:List UInt8} {made bad:Bool} (most:Int) (ha:Arr Rp.u8 r v rest) (hl:rest.length≤140737488355328) :
  Con prog 129 #[.pointer (some ⟨b,0,none⟩),.int .i64 most] r [obj b 226 [v,.bool made,.bool bad]]
   (Ret fun u η=>∃ a c v',u=.slice a (rBytes most (made && !bad) rest).1.length c∧Arr Rp.u8 r v' (rBytes most (made && !bad) rest).2.1 ∧
    η=[obj b 226 [v',.bool made,.bool (bad ||(rBytes most (made && !bad) rest).2.2)],OwnP Rp.u8 5 u (rBytes most (made && !bad) rest).1]):=by
 refine Con.o func129 fun g hg R hR=>?_;refine S.seq<|S.region rfl<|O.opE (.p rfl) (.box (cs:=[_]) rfl rfl) ?_;rintro _ _ ⟨b2,rfl,rfl⟩;refine O.opE (.p rfl) (.box (cs:=[_]) rfl rfl) ?_;rintro _ _ ⟨b3,rfl,rfl⟩;refine zz 6 ?_;refine O.freeze fun m1 hm1 hd1=>?_;refine O.freeze fun m2 hm2 hd2=>?_;have hg2:r.sub ((g.add m1).add m2).h:=Fr.sub_trans hg (Fr.sub_trans (Fr.sub_add_left _ _) (Fr.sub_add_left _ _));refine O.callS (.p rfl) rfl zC rfl rfl zB (triedS_c zC (K:=KBytes r 5 most rest) (X:=XBytes r most v rest) (fun _ _ _ h=>by obtain ⟨_,_,_,_,_,_,rfl,_⟩:=h;rfl) fun _ _=>bytes1_c hg2 ha hl (obj_atR hm2 hd2) (obj_atR hm1 hd1).left) ?_;rintro v7 _ h7;refine O.q 1 rfl<|O.nil<|S.thaw (A:=fun _=>True) trivial hd2 (S.drop (S.thaw (A:=fun _=>True) trivial hd1 (S.drop ?_)));refine S.addNil (T:=Rp.u8) (e:=5) ?_;refine S.ret results129 rfl fun w hw=>Holds.end_ hR hw ?_
 rcases h7 with ⟨h1,rfl,rfl⟩|⟨rfl,rfl,v',ζ,⟨h1,h3,h4,h5,a,c,rfl,rfl⟩,rfl⟩|⟨rfl,rfl,v',h1,rfl,rfl⟩
 ·have e:rBytes most (made && !bad) rest=([],rest,false):=by simp [rBytes,h1]
  rw [e];simp only [Bool.or_false];exact pk ⟨none,0,v,rfl,ha,rfl⟩
 ·have e:rBytes most (true && !false) rest=((rest.drop 8).take (ofBe rest).toNat,(rest.drop 8).drop (ofBe rest).toNat,false):=by
   simp only [rBytes,h1,h3,h4];rfl
  rw [e];simp only [Bool.or_false];exact pk ⟨a,c,v',rfl,h5,rfl⟩
 ·obtain ⟨rest',e,hr'⟩:∃ rest',rBytes most (true && !false) rest=([],rest',true)∧Arr Rp.u8 r v' rest' :=by
   rcases h1 with (⟨h1,rfl⟩|⟨h1,h3,h4⟩)|⟨h1,h3,h4,h5⟩
   ·have h1:¬ 8≤rest.length:=by omega
    exact ⟨_,by simp only [rBytes,h1];rfl,ha⟩
   ·exact ⟨_,by simp only [rBytes,h1,h3];rfl,h4⟩
   ·exact ⟨_,by simp only [rBytes,h1,h3,h4];rfl,h5⟩
  rw [e];simp only [Bool.false_or];exact pk ⟨none,0,v',rfl,hr',rfl⟩
theorem rdNew_c {r:Fr} {va:Value} {xs:List UInt8} (ha:Arr Rp.u8 r va xs) (hl:xs.length≤140737488355328):Con prog 81 #[va] r [] (Ret fun v η=>∃ b,v=.pointer (some ⟨b,0,none⟩)∧η=[RdP 226 b ⟨true,xs⟩]) :=
 (wNewReader_c ha hl).post fun e η' h w g hw=>by
  cases e with
  |returned u =>
   obtain ⟨b,a,c,rfl,rfl⟩:=h;exact ⟨_,⟨b,rfl,rfl⟩,hw.imp fun _ x=>rd_sat x⟩
  |panicked _=>exact h.elim
  |outgrown=>exact h.elim
theorem rdNumber_c {r:Fr} {b:Nat} {s:RS}:Con prog 89 #[.pointer (some ⟨b,0,none⟩)] r [RdP 226 b s] (Ret fun u η=>u=.int .i64 s.num.1∧η=[RdP 226 b s.num.2]) :=
 (Con.rd (Q:=fun u s' ζ=>u=.int .i64 s.num.1∧s' =s.num.2∧ζ=[]) fun m v made bad h1 h2=>(rNumber_c h2).mono (Ret.imp fun u η h=>by
  obtain ⟨v',rfl,h3,rfl⟩:=h;simp only [h1] at h3 ⊢;exact ⟨v',_,s.num.2,_,⟨rfl,rfl,rfl⟩,good_or h1,h3,rfl⟩)).mono (Ret.imp fun u η h=>by obtain ⟨s',ζ,⟨rfl,rfl,rfl⟩,rfl⟩:=h;exact ⟨rfl,rfl⟩)
theorem rdByte_c {r:Fr} {b:Nat} {s:RS}:Con prog 228 #[.pointer (some ⟨b,0,none⟩)] r [RdP 226 b s] (Ret fun u η=>u=byteV s.byte.1∧η=[RdP 226 b s.byte.2]) :=
 (Con.rd (Q:=fun u s' ζ=>u=byteV s.byte.1∧s' =s.byte.2∧ζ=[]) fun m v made bad h1 h2=>(rByte_c h2).mono (Ret.imp fun u η h=>by
  obtain ⟨v',rfl,h3,rfl⟩:=h;simp only [h1] at h3 ⊢;exact ⟨v',_,s.byte.2,_,⟨rfl,rfl,rfl⟩,good_or h1,h3,rfl⟩)).mono (Ret.imp fun u η h=>by obtain ⟨s',ζ,⟨rfl,rfl,rfl⟩,rfl⟩:=h;exact ⟨rfl,rfl⟩)
theorem rdCount_c {r:Fr} {b:Nat} {s:RS} (most:Int):Con prog 127 #[.pointer (some ⟨b,0,none⟩),.int .i64 most] r [RdP 226 b s] (Ret fun u η=>u=.int .i64 (s.count most).1∧η=[RdP 226 b (s.count most).2]) :=
 (Con.rd (Q:=fun u s' ζ=>u=.int .i64 (s.count most).1∧s' =(s.count most).2∧ζ=[]) fun m v made bad h1 h2=>(rCount_c most h2).mono (Ret.imp fun u η h=>by
  obtain ⟨v',rfl,h3,rfl⟩:=h;simp only [h1] at h3 ⊢;exact ⟨v',_,(s.count most).2,_,⟨rfl,rfl,rfl⟩,good_or h1,h3,rfl⟩)).mono (Ret.imp fun u η h=>by obtain ⟨s',ζ,⟨rfl,rfl,rfl⟩,rfl⟩:=h;exact ⟨rfl,rfl⟩)
theorem rdBytes_c {r:Fr} {b:Nat} {s:RS} (most:Int) (hl:s.rest.length≤140737488355328):Con prog 129 #[.pointer (some ⟨b,0,none⟩),.int .i64 most] r [RdP 226 b s] (Ret fun u η=>∃ a c,u=.slice a (s.bytes most).1.length c∧η=[RdP 226 b (s.bytes most).2,OwnP Rp.u8 5 (.slice a (s.bytes most).1.length c) (s.bytes most).1]) :=
 (Con.rd (Q:=fun u s' ζ=>∃ a c,u=.slice a (s.bytes most).1.length c∧s' =(s.bytes most).2∧ζ=[OwnP Rp.u8 5 (.slice a (s.bytes most).1.length c) (s.bytes most).1]) fun m v made bad h1 h2=>(rBytes_c most h2 hl).mono (Ret.imp fun u η h=>by
  obtain ⟨a,c,v',rfl,h3,rfl⟩:=h;simp only [h1] at h3 ⊢;exact ⟨v',_,(s.bytes most).2,_,⟨a,c,rfl,rfl,rfl⟩,good_or h1,h3,rfl⟩)).mono (Ret.imp fun u η h=>by obtain ⟨s',ζ,⟨a,c,rfl,rfl,rfl⟩,rfl⟩:=h;exact ⟨a,c,rfl,rfl⟩)
theorem rdDone_c {r:Fr} {b:Nat} {s:RS}:Con prog 91 #[.pointer (some ⟨b,0,none⟩)] r [RdP 226 b s] (Ret fun u η=>u=.bool s.done∧η=[RdP 226 b s]) :=
 (Con.rd (Q:=fun u s' ζ=>u=.bool s.done∧s' =s∧ζ=[]) fun m v made bad h1 h2=>(rDone_c h2).mono (Ret.imp fun u η h=>by
  obtain ⟨rfl,rfl⟩:=h;rw [h1];exact ⟨v,bad,s,[],⟨congrArg _ (by rw [Bool.eq_iff_iff,decide_eq_true_iff,RS.done_iff]),rfl,rfl⟩,h1,h2,rfl⟩)).mono (Ret.imp fun u η h=>by obtain ⟨s',ζ,⟨rfl,rfl,rfl⟩,rfl⟩:=h;exact ⟨rfl,rfl⟩)
theorem bequal_c {r:Fr} {va vb:Value} {xs ys:List UInt8} (ha:Arr Rp.u8 r va xs) (hb:Arr Rp.u8 r vb ys) :
  Con prog 229 #[va,vb] r [] (Ret fun v η=>v=.bool (decide (xs=ys))∧η=[]):=by
 refine Con.o func229 fun g hg R hR=>?_;have ha:=ha.mono hg;have hb:=hb.mono hg;refine zz 7 ?_;refine O.op (.p rfl) (.toStr underlying31 underlying5 underlying9 rfl zA) ?_;refine O.q 1 rfl<|O.op (.p rfl) (.toStr underlying31 underlying5 underlying9 rfl zA) ?_;refine O.op (.p rfl) (.eqlS rfl rfl)<|O.q 1 rfl<|O.nil<|S.ret results229 rfl fun w hw=>hR _ _ w ?_ hw;exact ⟨by simp,rfl⟩
end Go.Proofs.YtodhbhanmdfdeaaGreat
