/- Texts of this proof. -/
import Derived.Test.YtdjoggpacmpfnaaGreatDoorQFrame13
open Go Go.Sp Go.Proofs.Tryz
set_option maxRecDepth 100000
set_option maxHeartbeats 1000000
attribute [local irreducible] obj Own OwnP
namespace Go.Proofs.YtdjoggpacmpfnaaGreatDoor
theorem triedFF_ret {g:Gr} {be bx:Nat} {xs:List Value} {z:Int} {T1 T2:TypeId} {w:World} {R:Ending→World→Prop} {η:List SProp} (hxl:xs.length=29) (hw:Holds w g (obj bx T1 xs::obj be T2 [.int .i64 z]::η)) (hR:∀ w,Holds w g (obj bx T1 xs::obj be T2 [.int .i64 z]::η)→R (.returned (.tuple #[.agg xs.toArray,.int .i64 z])) w) :
  CallsD prog 67 #[.pointer (some ⟨be,0,none⟩),.pointer (some ⟨bx,0,none⟩)] .returning w (DPost2 prog g bx be 41 39 R):=by
 refine (callsD_rec (R:=fun e w=>(∃ v,e=.returned v)∧Holds w g (obj bx T1 xs::obj be T2 [.int .i64 z]::η)) [.pointer (some ⟨be,0,none⟩),.pointer (some ⟨bx,0,none⟩)] rfl func67 rfl rfl rfl rfl hw ?_).mono ?_
 rotate_left
 ·rintro e u' w' ⟨rfl,⟨v,rfl⟩,h⟩
  exact ⟨⟨v,rfl⟩,rfl,T1,T2,_,_,_,_,η,h,LoadsAs.agg isAgg41 (by rw [hxl];kernel_rfl),LoadsAs.flat flat39,hR w' h⟩
 refine S.seq<|S.region rfl<|O.q 1 rfl<|O.op (.p rfl) (.neqIN underlying20 rfl)<|O.nil<|S.condF rfl<|S.skip<|S.end0 results67 fun w hw=>?_;exact ⟨⟨_,rfl⟩,hw⟩
theorem triedFF_pan {g:Gr} {be bx:Nat} {xs:List Value} {z z' :Int} {T1 T2:TypeId} {w:World} {R:Ending→World→Prop} {η:List SProp} (hxl:xs.length=29) (hw:Holds w g (obj bx T1 xs::obj be T2 [.int .i64 z']::η))
  (hR:∀ w,Holds w g (obj bx T1 [.int .u8 0,.int .i64 0,.int .i64 0,.string ⟨#[]⟩,.string ⟨#[]⟩,.int .i64 0,.int .i64 0,.int .i64 0,.slice none 0 0,.slice none 0 0,.slice none 0 0,.slice none 0 0,.slice none 0 0,.int .u8 0,.slice none 0 0,.slice none 0 0,.slice none 0 0,.slice none 0 0,.int .i64 0,.int .i64 0,.int .i64 0,.slice none 0 0,.slice none 0 0,.int .i64 0,.int .i64 0,.int .i64 0,.slice none 0 0,.slice none 0 0,.int .i64 0]::obj be T2 [.int .i64 z]::η)→R (.returned (.tuple #[.agg ([.int .u8 0,.int .i64 0,.int .i64 0,.string ⟨#[]⟩,.string ⟨#[]⟩,.int .i64 0,.int .i64 0,.int .i64 0,.slice none 0 0,.slice none 0 0,.slice none 0 0,.slice none 0 0,.slice none 0 0,.int .u8 0,.slice none 0 0,.slice none 0 0,.slice none 0 0,.slice none 0 0,.int .i64 0,.int .i64 0,.int .i64 0,.slice none 0 0,.slice none 0 0,.int .i64 0,.int .i64 0,.int .i64 0,.slice none 0 0,.slice none 0 0,.int .i64 0]:List Value).toArray,.int .i64 z])) w) :
  CallsD prog 67 #[.pointer (some ⟨be,0,none⟩),.pointer (some ⟨bx,0,none⟩)] (.panicking (errP 39 z)) w (DPost2 prog g bx be 41 39 R):=by
 refine (callsD_rec (R:=fun e w=>(∃ v,e=.returned v)∧Holds w g (obj bx T1 [.int .u8 0,.int .i64 0,.int .i64 0,.string ⟨#[]⟩,.string ⟨#[]⟩,.int .i64 0,.int .i64 0,.int .i64 0,.slice none 0 0,.slice none 0 0,.slice none 0 0,.slice none 0 0,.slice none 0 0,.int .u8 0,.slice none 0 0,.slice none 0 0,.slice none 0 0,.slice none 0 0,.int .i64 0,.int .i64 0,.int .i64 0,.slice none 0 0,.slice none 0 0,.int .i64 0,.int .i64 0,.int .i64 0,.slice none 0 0,.slice none 0 0,.int .i64 0]::obj be T2 [.int .i64 z]::η)) [.pointer (some ⟨be,0,none⟩),.pointer (some ⟨bx,0,none⟩)] rfl func67 rfl rfl rfl rfl hw ?_).mono ?_
 rotate_left
 ·rintro e u' w' ⟨rfl,⟨v,rfl⟩,h⟩
  exact ⟨⟨v,rfl⟩,rfl,T1,T2,_,_,_,_,η,h,LoadsAs.agg isAgg41 zB,LoadsAs.flat flat39,hR w' h⟩
 refine zz 3 ?_;refine O.op (.p rfl) (.neqIV underlying20 rfl)<|zz 10 ?_;refine O.op (.p rfl) (.assertYes underlying39 rfl)<|zz 15 ?_;refine O.opE (.p rfl) (.alloc (cs:=[.int .u8 0,.int .i64 0,.int .i64 0,.string ⟨#[]⟩,.string ⟨#[]⟩,.int .i64 0,.int .i64 0,.int .i64 0,.slice none 0 0,.slice none 0 0,.slice none 0 0,.slice none 0 0,.slice none 0 0,.int .u8 0,.slice none 0 0,.slice none 0 0,.slice none 0 0,.slice none 0 0,.int .i64 0,.int .i64 0,.int .i64 0,.slice none 0 0,.slice none 0 0,.int .i64 0,.int .i64 0,.int .i64 0,.slice none 0 0,.slice none 0 0,.int .i64 0]) zeroValue41 rfl) ?_;rintro _ _ ⟨b4,rfl,rfl⟩;refine zz 3 ?_;refine O.opU rfl (.storeObj (news:=[.int .u8 0,.int .i64 0,.int .i64 0,.string ⟨#[]⟩,.string ⟨#[]⟩,.int .i64 0,.int .i64 0,.int .i64 0,.slice none 0 0,.slice none 0 0,.slice none 0 0,.slice none 0 0,.slice none 0 0,.int .u8 0,.slice none 0 0,.slice none 0 0,.slice none 0 0,.slice none 0 0,.int .i64 0,.int .i64 0,.int .i64 0,.slice none 0 0,.slice none 0 0,.int .i64 0,.int .i64 0,.int .i64 0,.slice none 0 0,.slice none 0 0,.int .i64 0]) zB rfl rfl rfl rfl zC (by rw [hxl];decide)) ?_
 refine O.nil<|S.objIs (b:=bx) (cs' :=[.int .u8 0,.int .i64 0,.int .i64 0,.string ⟨#[]⟩,.string ⟨#[]⟩,.int .i64 0,.int .i64 0,.int .i64 0,.slice none 0 0,.slice none 0 0,.slice none 0 0,.slice none 0 0,.slice none 0 0,.int .u8 0,.slice none 0 0,.slice none 0 0,.slice none 0 0,.slice none 0 0,.int .i64 0,.int .i64 0,.int .i64 0,.slice none 0 0,.slice none 0 0,.int .i64 0,.int .i64 0,.int .i64 0,.slice none 0 0,.slice none 0 0,.int .i64 0]) zC (by simp [hxl]) ?_;refine S.end0 results67 fun w hw=>?_;exact ⟨⟨_,rfl⟩,hw.picks zM⟩
theorem triedFF_c {r:Fr} {f:Nat} {first cap:Array Value} {K:Value→List SProp→Prop} {X:Int→Prop} (hc:callable prog f=true) (hf1:(Value.func (.func f) first cap).oneCell' =true) (hK1:∀ u ζ,K u ζ→∃ xs:List Value,u=.agg xs.toArray∧xs.length=29∧xs.all (·.oneCell')=true)
  (con:Con prog f (first++#[]++cap) r [] (RetP K (fun ch η=>∃ z,ch=errP 39 z∧X z∧η=[]))) :
  Con prog 29 #[.func (.func f) first cap] r [] (Ret fun v η=>(∃ u,K u η∧v=.tuple #[u,.int .i64 0])∨(∃ z,X z∧η=[]∧v=.tuple #[.agg ([.int .u8 0,.int .i64 0,.int .i64 0,.string ⟨#[]⟩,.string ⟨#[]⟩,.int .i64 0,.int .i64 0,.int .i64 0,.slice none 0 0,.slice none 0 0,.slice none 0 0,.slice none 0 0,.slice none 0 0,.int .u8 0,.slice none 0 0,.slice none 0 0,.slice none 0 0,.slice none 0 0,.int .i64 0,.int .i64 0,.int .i64 0,.slice none 0 0,.slice none 0 0,.int .i64 0,.int .i64 0,.int .i64 0,.slice none 0 0,.slice none 0 0,.int .i64 0]:List Value).toArray,.int .i64 z])):=by
 refine Con.of (n:=7) [.func (.func f) first cap] rfl func29 rfl rfl rfl fun g hg R hR=>?_;refine S.seq<|S.region rfl<|O.opE (.p rfl) (.alloc (cs:=[.int .u8 0,.int .i64 0,.int .i64 0,.string ⟨#[]⟩,.string ⟨#[]⟩,.int .i64 0,.int .i64 0,.int .i64 0,.slice none 0 0,.slice none 0 0,.slice none 0 0,.slice none 0 0,.slice none 0 0,.int .u8 0,.slice none 0 0,.slice none 0 0,.slice none 0 0,.slice none 0 0,.int .i64 0,.int .i64 0,.int .i64 0,.slice none 0 0,.slice none 0 0,.int .i64 0,.int .i64 0,.int .i64 0,.slice none 0 0,.slice none 0 0,.int .i64 0]) zeroValue41 rfl) ?_;rintro _ _ ⟨b2,rfl,rfl⟩;refine O.opE (.p rfl) (.alloc (cs:=[.int .i64 0]) zeroValue39 rfl) ?_;rintro _ _ ⟨b3,rfl,rfl⟩;refine zz 4 ?_;refine O.defer rfl rfl rfl rfl<|zz 4 ?_;refine O.callP0D (.p rfl) rfl hc rfl rfl (con.sub hg) (fun a ch η' w hF hX hW=>by (obtain ⟨z,rfl,hx,rfl⟩:=hX;exact leavesCell2 results29 hF rfl rfl zG zB (triedFF_pan rfl (hW.picks zM) fun w hw=>Holds.end_ hR hw ⟨_,.inr ⟨z,hx,rfl,rfl⟩,zM⟩))) ?_;rintro v6 _ hk6;obtain ⟨xs,rfl,hxl,hone⟩:=hK1 _ _ hk6;refine O.perm (List.perm_append_comm) ?_;simp only [List.cons_append,List.nil_append];refine O.opU rfl (.storeObj (news:=xs) (by rw [hxl];kernel_rfl) rfl rfl zS hone zC (by rw [hxl];decide))<|zz 1 ?_
 refine O.nil<|S.objIs (b:=b2) (cs' :=xs) zC (by simp [hxl]) ?_;refine S.retL fun a w hf hd hw=>?_;exact leavesCell2 results29 hf rfl rfl zG zB (triedFF_ret hxl (hw.picks zM) fun w hw=>Holds.end_ hR hw ⟨_,.inl ⟨_,hk6,rfl⟩,zM⟩)
abbrev FA:Type:=Nat→Option Addr × Nat
abbrev frmV (f:FrmT) (A:FA):List Value:=[byteV f.1,.int .i64 f.2.1,.int .i64 f.2.2.1,.string (str f.2.2.2.1),.string (str f.2.2.2.2.1),.int .i64 f.2.2.2.2.2.1.1,.int .i64 f.2.2.2.2.2.1.2.1,.int .i64 f.2.2.2.2.2.1.2.2.1,.slice (A 8).1 f.2.2.2.2.2.1.2.2.2.1.length (A 8).2,.slice (A 9).1 f.2.2.2.2.2.1.2.2.2.2.1.length (A 9).2,.slice (A 10).1 f.2.2.2.2.2.2.1.length (A 10).2,.slice (A 11).1 f.2.2.2.2.2.2.2.1.1.length (A 11).2,.slice (A 12).1 f.2.2.2.2.2.2.2.1.2.1.length (A 12).2,byteV f.2.2.2.2.2.2.2.2.1.1,.slice (A 14).1 f.2.2.2.2.2.2.2.2.1.2.1.length (A 14).2,.slice (A 15).1 f.2.2.2.2.2.2.2.2.1.2.2.1.length (A 15).2,.slice (A 16).1 f.2.2.2.2.2.2.2.2.1.2.2.2.1.length (A 16).2,.slice (A 17).1 f.2.2.2.2.2.2.2.2.2.1.length (A 17).2,.int .i64 f.2.2.2.2.2.2.2.2.2.2.1.1.1,.int .i64 f.2.2.2.2.2.2.2.2.2.2.1.1.2.1,.int .i64 f.2.2.2.2.2.2.2.2.2.2.1.1.2.2.1,.slice (A 21).1 f.2.2.2.2.2.2.2.2.2.2.1.1.2.2.2.1.length (A 21).2,.slice (A 22).1 f.2.2.2.2.2.2.2.2.2.2.1.1.2.2.2.2.1.length (A 22).2,.int .i64 f.2.2.2.2.2.2.2.2.2.2.1.2.1.1,.int .i64 f.2.2.2.2.2.2.2.2.2.2.1.2.1.2.1,.int .i64 f.2.2.2.2.2.2.2.2.2.2.1.2.1.2.2.1,.slice (A 26).1 f.2.2.2.2.2.2.2.2.2.2.1.2.1.2.2.2.1.length (A 26).2,.slice (A 27).1 f.2.2.2.2.2.2.2.2.2.2.1.2.1.2.2.2.2.1.length (A 27).2,.int .i64 f.2.2.2.2.2.2.2.2.2.2.2.1]
abbrev frmWs (f:FrmT) (A:FA):List SProp:=[OwnP Rp.u8 5 (.slice (A 8).1 f.2.2.2.2.2.1.2.2.2.1.length (A 8).2) f.2.2.2.2.2.1.2.2.2.1,OwnP Rp.u8 5 (.slice (A 9).1 f.2.2.2.2.2.1.2.2.2.2.1.length (A 9).2) f.2.2.2.2.2.1.2.2.2.2.1,OwnP Rp.u8 5 (.slice (A 10).1 f.2.2.2.2.2.2.1.length (A 10).2) f.2.2.2.2.2.2.1,ListP (Gp.row Rp.u8 tys.u8) 22 (.slice (A 11).1 f.2.2.2.2.2.2.2.1.1.length (A 11).2) f.2.2.2.2.2.2.2.1.1,ListP (StubG tys) 122 (.slice (A 12).1 f.2.2.2.2.2.2.2.1.2.1.length (A 12).2) f.2.2.2.2.2.2.2.1.2.1,OwnP Rp.u8 5 (.slice (A 14).1 f.2.2.2.2.2.2.2.2.1.2.1.length (A 14).2) f.2.2.2.2.2.2.2.2.1.2.1,OwnP Rp.u8 5 (.slice (A 15).1 f.2.2.2.2.2.2.2.2.1.2.2.1.length (A 15).2) f.2.2.2.2.2.2.2.2.1.2.2.1,ListP (LeafG tys) 120 (.slice (A 16).1 f.2.2.2.2.2.2.2.2.1.2.2.2.1.length (A 16).2) f.2.2.2.2.2.2.2.2.1.2.2.2.1,ListP (RecG tys) 118 (.slice (A 17).1 f.2.2.2.2.2.2.2.2.2.1.length (A 17).2) f.2.2.2.2.2.2.2.2.2.1,OwnP Rp.u8 5 (.slice (A 21).1 f.2.2.2.2.2.2.2.2.2.2.1.1.2.2.2.1.length (A 21).2) f.2.2.2.2.2.2.2.2.2.2.1.1.2.2.2.1,OwnP Rp.u8 5 (.slice (A 22).1 f.2.2.2.2.2.2.2.2.2.2.1.1.2.2.2.2.1.length (A 22).2) f.2.2.2.2.2.2.2.2.2.2.1.1.2.2.2.2.1,OwnP Rp.u8 5 (.slice (A 26).1 f.2.2.2.2.2.2.2.2.2.2.1.2.1.2.2.2.1.length (A 26).2) f.2.2.2.2.2.2.2.2.2.2.1.2.1.2.2.2.1,OwnP Rp.u8 5 (.slice (A 27).1 f.2.2.2.2.2.2.2.2.2.2.1.2.1.2.2.2.2.1.length (A 27).2) f.2.2.2.2.2.2.2.2.2.2.1.2.1.2.2.2.2.1]
def FrmI (f:FrmT):Prop:=InI64 f.2.1∧InI64 f.2.2.1∧InI64 f.2.2.2.2.2.1.1∧InI64 f.2.2.2.2.2.1.2.1∧InI64 f.2.2.2.2.2.1.2.2.1∧InI64 f.2.2.2.2.2.2.2.2.2.2.1.1.1∧InI64 f.2.2.2.2.2.2.2.2.2.2.1.1.2.1∧InI64 f.2.2.2.2.2.2.2.2.2.2.1.1.2.2.1∧InI64 f.2.2.2.2.2.2.2.2.2.2.1.2.1.1∧InI64 f.2.2.2.2.2.2.2.2.2.2.1.2.1.2.1∧InI64 f.2.2.2.2.2.2.2.2.2.2.1.2.1.2.2.1∧InI64 f.2.2.2.2.2.2.2.2.2.2.2.1∧f.2.2.2.1.length≤9223372036854775807∧f.2.2.2.2.1.length≤9223372036854775807
theorem frm_sat {f:FrmT} {A:FA} {m:Fr} (hI:FrmI f) (h:Sat (frmWs f A) m):(FrmG tys).own (frmV f A) f m:=by
 obtain ⟨i1,i2,i5,i6,i7,i18,i19,i20,i23,i24,i25,i28,i3,i4⟩:=hI;exact FrmG.mk i1 i2 i3 i4 i5 i6 i7 i18 i19 i20 i23 i24 i25 i28 h
theorem frm_fold {f:FrmT} {A:FA} {X Y:SProp} {w:World} {g:Gr} (hI:FrmI f) (h:Holds w g (X::Y::frmWs f A)):Holds w g [X,Y,(FrmG tys).own (frmV f A) f] :=
 h.imp fun _ x=>Sat.cons_imp (fun _ y=>y) (fun _ y=>Sat.cons_imp (fun _ z=>z) (fun m z=>⟨m,Fr.emp,Fr.disj_symm (Fr.emp_disj _),Fr.sub_refl _,Fr.emp_sub _,frm_sat hI z,trivial⟩) y) x
theorem frm_nils {w:World} {g:Gr} {η:List SProp} (h:Holds w g η):Holds w g (OwnP Rp.u8 5 (.slice none 0 0) []::OwnP Rp.u8 5 (.slice none 0 0) []::OwnP Rp.u8 5 (.slice none 0 0) []::ListP (Gp.row Rp.u8 tys.u8) 22 (.slice none 0 0) []::ListP (StubG tys) 122 (.slice none 0 0) []::OwnP Rp.u8 5 (.slice none 0 0) []::OwnP Rp.u8 5 (.slice none 0 0) []::ListP (LeafG tys) 120 (.slice none 0 0) []::ListP (RecG tys) 118 (.slice none 0 0) []::OwnP Rp.u8 5 (.slice none 0 0) []::OwnP Rp.u8 5 (.slice none 0 0) []::OwnP Rp.u8 5 (.slice none 0 0) []::OwnP Rp.u8 5 (.slice none 0 0) []::η) :=
 h.imp fun _ x=>sat_ownNil (sat_ownNil (sat_ownNil (sat_listNil (sat_listNil (sat_ownNil (sat_ownNil (sat_listNil (sat_listNil (sat_ownNil (sat_ownNil (sat_ownNil (sat_ownNil (x)))))))))))))
theorem i64_0:InI64 0:=RS.zero64
theorem root_in {x:RootT} (h:rootOk x=true):InI64 x.1∧InI64 x.2.1∧InI64 x.2.2.1:=by
 obtain ⟨h1,h2⟩:=rootOk_iff.1 h;have h3:=rootShape_iff.1 h1;exact ⟨⟨by omega,by omega⟩,⟨by omega,by omega⟩,⟨by omega,by omega⟩⟩
theorem gotP_key {s:RS} {z:(List UInt8 × RootT × PrfT × List RecT) × RS} (h:gotP s=some z):z.1.1=(s.bytes top64).1:=by
 unfold gotP at h;obtain ⟨x,hx,h⟩:=Option.bind_eq_some_iff.1 h;obtain ⟨p,_,h⟩:=Option.bind_eq_some_iff.1 h;obtain ⟨q,_,rfl⟩:=Option.map_eq_some_iff.1 h
 rfl
theorem gotP_in {s:RS} (hl:s.rest.length≤262144) {z:(List UInt8 × RootT × PrfT × List RecT) × RS} (h:gotP s=some z):z.1.1.length≤9223372036854775807∧InI64 z.1.2.1.1∧InI64 z.1.2.1.2.1∧InI64 z.1.2.1.2.2.1:=by
 unfold gotP at h;obtain ⟨x,hx,h⟩:=Option.bind_eq_some_iff.1 h;obtain ⟨p,_,h⟩:=Option.bind_eq_some_iff.1 h;obtain ⟨q,_,rfl⟩:=Option.map_eq_some_iff.1 h;obtain ⟨y,hy,rfl⟩:=Option.map_eq_some_iff.1 hx;have w1:=RS.bytes_out top64 s;exact ⟨by show (s.bytes top64).1.length≤_;omega,root_in (rootGet_iff.1 hy).1⟩
theorem got_in (n:Int) (s:RS):frmIn 8 n s=(gotP s).map fun z=>((8,n,0,z.1.1,[],z.1.2.1,[],z.1.2.2.1,nodeZ,z.1.2.2.2,evdZ,0,()),z.2):=by
 unfold frmIn gotP;rw [if_neg zE,if_neg zE,if_neg zE,if_neg zE,if_neg zE,if_neg zE,if_neg zE,if_pos rfl]
 cases ownP (s.bytes top64).2 with
 |none=>rfl
 |some r =>
  simp only [Option.bind_some]
  cases prfP r.2 with
  |none=>rfl
  |some p =>
   simp only [Option.bind_some]
   cases setR p.2 with
   |none=>rfl
   |some q=>rfl
theorem kget_c {r:Fr} {b rd:Nat} {k:UInt8} {n:Int} {s:RS} (hin:InK k) (hn:InI64 n) (hl:s.rest.length≤262144):Con prog (kgetF k) #[.pointer (some ⟨b,0,none⟩)] r [obj b 129 [byteV k,.int .i64 n,.int .i64 0,.string ⟨#[]⟩,.string ⟨#[]⟩,.int .i64 0,.int .i64 0,.int .i64 0,.slice none 0 0,.slice none 0 0,.slice none 0 0,.slice none 0 0,.slice none 0 0,.int .u8 0,.slice none 0 0,.slice none 0 0,.slice none 0 0,.slice none 0 0,.int .i64 0,.int .i64 0,.int .i64 0,.slice none 0 0,.slice none 0 0,.int .i64 0,.int .i64 0,.int .i64 0,.slice none 0 0,.slice none 0 0,.int .i64 0,.pointer (some ⟨rd,0,none⟩)],RdP 196 rd s]
  (RetP (fun v η=>∃ p A,frmIn k n s=some p∧v=.tuple #[]∧η=[obj b 129 (frmV p.1 A++[.pointer (some ⟨rd,0,none⟩)]),RdP 196 rd p.2,(FrmG tys).own (frmV p.1 A) p.1]) (fun ch η=>frmIn k n s=none∧ch=errP 39 4∧η=[])):=by
 have hz:([]:List UInt8).length≤9223372036854775807:=by decide
 have w1:=RS.bytes_out top64 s;have w0:(s.bytes top64).1.length≤9223372036854775807:=by omega
 have w2:=RS.bytes_len top64 s;have wn:=RS.num_in s
 rcases hin with e|e|e|e|e|e|e|e|e
 ·subst e
  rw [show kgetF 1=145 from rfl];exact Con.post (getPull_c) fun e η' h w g hw=>by
   cases e with
   |returned v =>
    obtain ⟨rfl,rfl⟩:=h;exact ⟨_,⟨((1,n,s.num.1,[],[],rootZ,[],prfZ,nodeZ,[],evdZ,0,()),s.num.2),fun _=>(none,0),by unfold frmIn;rw [if_pos rfl],rfl,rfl⟩,frm_fold ⟨hn,wn,i64_0,i64_0,i64_0,i64_0,i64_0,i64_0,i64_0,i64_0,i64_0,i64_0,hz,hz⟩ ((frm_nils hw).picks zM)⟩
   |panicked _=>exact h.elim
   |outgrown=>exact h.elim
 ·subst e
  rw [show kgetF 2=148 from rfl];exact Con.post (getOffer_c hl) fun e η' h w g hw=>by
   cases e with
   |returned v =>
    obtain ⟨x,a3,k3,a4,k4,a10,k10,hx,rfl,rfl⟩:=h;have hr:=root_in (rootGet_iff.1 hx).1;exact ⟨_,⟨((2,n,0,[],[],x,((s.bytes top64).2.bytes top64).1,prfZ,nodeZ,[],evdZ,0,()),((s.bytes top64).2.bytes top64).2),fun|8=>(a3,k3)|9=>(a4,k4)|10=>(a10,k10)|_=>(none,0),by unfold frmIn;rw [if_neg zE,if_pos rfl];simp only [ownP,hx];rfl,rfl,rfl⟩,frm_fold ⟨hn,i64_0,hr.1,hr.2.1,hr.2.2,i64_0,i64_0,i64_0,i64_0,i64_0,i64_0,i64_0,hz,hz⟩ ((frm_nils hw).picks zM)⟩
   |panicked c =>
    obtain ⟨h1,rfl,rfl⟩:=h;exact ⟨_,⟨by unfold frmIn;rw [if_neg zE,if_pos rfl];simp only [ownP,h1];rfl,rfl,rfl⟩,hw⟩
   |outgrown=>exact h.elim
 ·subst e
  rw [show kgetF 3=151 from rfl];exact Con.post (getAsk_c hl) fun e η' h w g hw=>by
   cases e with
   |returned v =>
    obtain ⟨rfl,rfl⟩:=h;exact ⟨_,⟨((3,n,0,[],(s.bytes top64).1,rootZ,[],prfZ,nodeZ,[],evdZ,0,()),(s.bytes top64).2),fun _=>(none,0),by unfold frmIn;rw [if_neg zE,if_neg zE,if_pos rfl],rfl,rfl⟩,frm_fold ⟨hn,i64_0,i64_0,i64_0,i64_0,i64_0,i64_0,i64_0,i64_0,i64_0,i64_0,i64_0,hz,w0⟩ ((frm_nils hw).picks zM)⟩
   |panicked _=>exact h.elim
   |outgrown=>exact h.elim
 ·subst e
  rw [show kgetF 4=154 from rfl];exact Con.post (getNode_c hl) fun e η' h w g hw=>by
   cases e with
   |returned v =>
    obtain ⟨p,a14,k14,a15,k15,a16,k16,hx,rfl,rfl⟩:=h;exact ⟨_,⟨((4,n,0,[],(s.bytes top64).1,rootZ,[],prfZ,p.1,[],evdZ,0,()),p.2),fun|14=>(a14,k14)|15=>(a15,k15)|16=>(a16,k16)|_=>(none,0),by unfold frmIn;rw [if_neg zE,if_neg zE,if_neg zE,if_pos rfl];rw [hx];rfl,rfl,rfl⟩,frm_fold ⟨hn,i64_0,i64_0,i64_0,i64_0,i64_0,i64_0,i64_0,i64_0,i64_0,i64_0,i64_0,hz,w0⟩ ((frm_nils hw).picks zM)⟩
   |panicked c =>
    obtain ⟨h1,rfl,rfl⟩:=h;exact ⟨_,⟨by unfold frmIn;rw [if_neg zE,if_neg zE,if_neg zE,if_pos rfl];rw [h1];rfl,rfl,rfl⟩,hw⟩
   |outgrown=>exact h.elim
 ·subst e
  rw [show kgetF 5=157 from rfl];exact Con.post (getPut_c hl) fun e η' h w g hw=>by
   cases e with
   |returned v =>
    obtain ⟨x,a,c,hx,rfl,rfl⟩:=h;exact ⟨_,⟨((5,n,0,[],[],rootZ,[],prfZ,nodeZ,[x],evdZ,0,()),(s.bytes top64).2),fun|17=>(a,c)|_=>(none,0),by unfold frmIn;rw [if_neg zE,if_neg zE,if_neg zE,if_neg zE,if_pos rfl];rw [hx];rfl,rfl,rfl⟩,frm_fold ⟨hn,i64_0,i64_0,i64_0,i64_0,i64_0,i64_0,i64_0,i64_0,i64_0,i64_0,i64_0,hz,hz⟩ ((frm_nils hw).picks zM)⟩
   |panicked c =>
    obtain ⟨h1,rfl,rfl⟩:=h;exact ⟨_,⟨by unfold frmIn;rw [if_neg zE,if_neg zE,if_neg zE,if_neg zE,if_pos rfl];rw [h1];rfl,rfl,rfl⟩,hw⟩
   |outgrown=>exact h.elim
 ·subst e
  rw [show kgetF 6=160 from rfl];exact Con.post (getAck_c) fun e η' h w g hw=>by
   cases e with
   |returned v =>
    obtain ⟨rfl,rfl⟩:=h;exact ⟨_,⟨((6,n,0,[],[],rootZ,[],prfZ,nodeZ,[],evdZ,s.num.1,()),s.num.2),fun _=>(none,0),by unfold frmIn;rw [if_neg zE,if_neg zE,if_neg zE,if_neg zE,if_neg zE,if_pos rfl],rfl,rfl⟩,frm_fold ⟨hn,i64_0,i64_0,i64_0,i64_0,i64_0,i64_0,i64_0,i64_0,i64_0,i64_0,wn,hz,hz⟩ ((frm_nils hw).picks zM)⟩
   |panicked _=>exact h.elim
   |outgrown=>exact h.elim
 ·subst e
  rw [show kgetF 7=163 from rfl];exact Con.post (getGet_c hl) fun e η' h w g hw=>by
   cases e with
   |returned v =>
    obtain ⟨rfl,rfl⟩:=h;exact ⟨_,⟨((7,n,0,(s.bytes top64).1,[],rootZ,[],prfZ,nodeZ,[],evdZ,0,()),(s.bytes top64).2),fun _=>(none,0),by unfold frmIn;rw [if_neg zE,if_neg zE,if_neg zE,if_neg zE,if_neg zE,if_neg zE,if_pos rfl],rfl,rfl⟩,frm_fold ⟨hn,i64_0,i64_0,i64_0,i64_0,i64_0,i64_0,i64_0,i64_0,i64_0,i64_0,i64_0,w0,hz⟩ ((frm_nils hw).picks zM)⟩
   |panicked _=>exact h.elim
   |outgrown=>exact h.elim
 ·subst e
  rw [show kgetF 8=166 from rfl];exact Con.post (getGot_c (y11:=.slice none 0 0) (y12:=.slice none 0 0) hl) fun e η' h w g hw=>by
   cases e with
   |returned v =>
    obtain ⟨z,a3,k3,a4,k4,a11,k11,a12,k12,a17,k17,hx,rfl,rfl⟩:=h;obtain ⟨hz1,hr⟩:=gotP_in hl hx;exact ⟨_,⟨((8,n,0,(s.bytes top64).1,[],z.1.2.1,[],z.1.2.2.1,nodeZ,z.1.2.2.2,evdZ,0,()),z.2),fun|8=>(a3,k3)|9=>(a4,k4)|11=>(a11,k11)|12=>(a12,k12)|17=>(a17,k17)|_=>(none,0),by rw [got_in,hx,Option.map_some,gotP_key hx],rfl,rfl⟩,frm_fold ⟨hn,i64_0,hr.1,hr.2.1,hr.2.2,i64_0,i64_0,i64_0,i64_0,i64_0,i64_0,i64_0,w0,hz⟩ ((frm_nils hw).picks zM)⟩
   |panicked c =>
    obtain ⟨h1,rfl,rfl⟩:=h;exact ⟨_,⟨by rw [got_in,h1];rfl,rfl,rfl⟩,hw⟩
   |outgrown=>exact h.elim
 ·subst e
  rw [show kgetF 9=169 from rfl];exact Con.post (getEvidence_c hl) fun e η' h w g hw=>by
   cases e with
   |returned v =>
    obtain ⟨x,a3,k3,a4,k4,a8,k8,a9,k9,hx,rfl,rfl⟩:=h;have ho:=evdOk_iff.1 (evdGet_iff.1 hx).1;have hr:=root_in ho.1;have hr2:=root_in ho.2.1;exact ⟨_,⟨((9,n,0,[],[],rootZ,[],prfZ,nodeZ,[],x,0,()),(s.bytes top64).2),fun|21=>(a3,k3)|22=>(a4,k4)|26=>(a8,k8)|27=>(a9,k9)|_=>(none,0),by unfold frmIn;rw [if_neg zE,if_neg zE,if_neg zE,if_neg zE,if_neg zE,if_neg zE,if_neg zE,if_neg zE,if_pos rfl];simp only [proofP,hx];rfl,rfl,rfl⟩,frm_fold ⟨hn,i64_0,i64_0,i64_0,i64_0,hr.1,hr.2.1,hr.2.2,hr2.1,hr2.2.1,hr2.2.2,i64_0,hz,hz⟩ ((frm_nils hw).picks zM)⟩
   |panicked c =>
    obtain ⟨h1,rfl,rfl⟩:=h;exact ⟨_,⟨by unfold frmIn;rw [if_neg zE,if_neg zE,if_neg zE,if_neg zE,if_neg zE,if_neg zE,if_neg zE,if_neg zE,if_pos rfl];simp only [proofP,h1];rfl,rfl,rfl⟩,hw⟩
   |outgrown=>exact h.elim
def KGet (k:UInt8) (n:Int) (s:RS):Prop:=∀ (r:Fr) (b rd:Nat),Con prog (kgetF k) #[.pointer (some ⟨b,0,none⟩)] r [obj b 129 [byteV k,.int .i64 n,.int .i64 0,.string ⟨#[]⟩,.string ⟨#[]⟩,.int .i64 0,.int .i64 0,.int .i64 0,.slice none 0 0,.slice none 0 0,.slice none 0 0,.slice none 0 0,.slice none 0 0,.int .u8 0,.slice none 0 0,.slice none 0 0,.slice none 0 0,.slice none 0 0,.int .i64 0,.int .i64 0,.int .i64 0,.slice none 0 0,.slice none 0 0,.int .i64 0,.int .i64 0,.int .i64 0,.slice none 0 0,.slice none 0 0,.int .i64 0,.pointer (some ⟨rd,0,none⟩)],RdP 196 rd s]
  (RetP (fun v η=>∃ p A,frmIn k n s=some p∧v=.tuple #[]∧η=[obj b 129 (frmV p.1 A++[.pointer (some ⟨rd,0,none⟩)]),RdP 196 rd p.2,(FrmG tys).own (frmV p.1 A) p.1]) (fun ch η=>frmIn k n s=none∧ch=errP 39 4∧η=[]))
theorem kget_k {k:UInt8} {n:Int} {s:RS} (hin:InK k) (hn:InI64 n) (hl:s.rest.length≤262144):KGet k n s:=fun _ _ _=>kget_c hin hn hl
theorem kget_k1 {n:Int} {s:RS} (hn:InI64 n):KGet 1 n s:=fun r b rd=>by
 have hz:([]:List UInt8).length≤9223372036854775807:=by decide
 have wn:=RS.num_in s;rw [show kgetF 1=145 from rfl];exact Con.post (getPull_c) fun e η' h w g hw=>by
  cases e with
  |returned v =>
   obtain ⟨rfl,rfl⟩:=h;exact ⟨_,⟨((1,n,s.num.1,[],[],rootZ,[],prfZ,nodeZ,[],evdZ,0,()),s.num.2),fun _=>(none,0),by unfold frmIn;rw [if_pos rfl],rfl,rfl⟩,frm_fold ⟨hn,wn,i64_0,i64_0,i64_0,i64_0,i64_0,i64_0,i64_0,i64_0,i64_0,i64_0,hz,hz⟩ ((frm_nils hw).picks zM)⟩
  |panicked _=>exact h.elim
  |outgrown=>exact h.elim
theorem fread_c {r:Fr} {va:Value} {bs:List UInt8} (ha:Arr Rp.u8 r va bs) (hl:bs.length≤262144) (hkg:InK (RS.mk true bs).byte.1→KGet (RS.mk true bs).byte.1 (RS.mk true bs).byte.2.num.1 (RS.mk true bs).byte.2.num.2):Con prog 32 #[va] r []
  (RetP (fun v η=>∃ p A,frmRd bs=some p∧p.2.done=true∧v=.agg (frmV p.1 A).toArray∧η=[(FrmG tys).own (frmV p.1 A) p.1]) (fun ch η=>(¬ ∃ p,frmRd bs=some p∧p.2.done=true)∧ch=errP 39 4∧η=[])):=by
 obtain ⟨ax,cx,rfl⟩:=ha.shape;refine Con.o func32 fun g hg R hR=>?_;have ha:=ha.mono hg;have hk1:=RS.byte_len (RS.mk true bs);have hk2:=RS.num_len (RS.mk true bs).byte.2;have hk3:(RS.mk true bs).rest.length=bs.length:=rfl;have hls:(RS.mk true bs).byte.2.num.2.rest.length≤262144:=by omega
 have hni:=RS.num_in (RS.mk true bs).byte.2;have hrd:frmRd bs=frmIn (RS.mk true bs).byte.1 (RS.mk true bs).byte.2.num.1 (RS.mk true bs).byte.2.num.2:=rfl;refine S.seq<|S.region rfl<|O.opE (.p rfl) (.alloc (cs:=[.int .u8 0,.int .i64 0,.int .i64 0,.string ⟨#[]⟩,.string ⟨#[]⟩,.int .i64 0,.int .i64 0,.int .i64 0,.slice none 0 0,.slice none 0 0,.slice none 0 0,.slice none 0 0,.slice none 0 0,.int .u8 0,.slice none 0 0,.slice none 0 0,.slice none 0 0,.slice none 0 0,.int .i64 0,.int .i64 0,.int .i64 0,.slice none 0 0,.slice none 0 0,.int .i64 0,.int .i64 0,.int .i64 0,.slice none 0 0,.slice none 0 0,.int .i64 0]) zeroValue41 rfl) ?_;rintro _ _ ⟨b2,rfl,rfl⟩;refine zz 4 ?_;refine O.call0 (.p rfl) rfl zB rfl rfl (rdNew_c ha zD) ?_;rintro _ _ ⟨b7,rfl,rfl⟩;refine O.op (.p rfl) (.build (cs:=[_,_,_,_,_,_,_,_,_,_,_,_,_,_,_,_,_,_,_,_,_,_,_,_,_,_,_,_,_,_]) underlying129 rfl rfl rfl rfl rfl)<|O.opE (.p rfl) (.box (cs:=[_,_,_,_,_,_,_,_,_,_,_,_,_,_,_,_,_,_,_,_,_,_,_,_,_,_,_,_,_,_]) rfl rfl) ?_;rintro _ _ ⟨b9,rfl,rfl⟩;refine zz 3 ?_
 refine S.objIs (b:=b9) (cs' :=[.int .u8 0,.int .i64 0,.int .i64 0,.string ⟨#[]⟩,.string ⟨#[]⟩,.int .i64 0,.int .i64 0,.int .i64 0,.slice none 0 0,.slice none 0 0,.slice none 0 0,.slice none 0 0,.slice none 0 0,.int .u8 0,.slice none 0 0,.slice none 0 0,.slice none 0 0,.slice none 0 0,.int .i64 0,.int .i64 0,.int .i64 0,.slice none 0 0,.slice none 0 0,.int .i64 0,.int .i64 0,.int .i64 0,.slice none 0 0,.slice none 0 0,.int .i64 0,.pointer (some ⟨b7,0,none⟩)]) zC rfl ?_;refine zz 6 ?_;refine O.vS (.p rfl) rfl zB rfl rfl zC rdByte_c<|zz 12 ?_;refine O.vS (.p rfl) rfl zB rfl rfl zC rdNumber_c<|zz 4 ?_;refine O.nil<|S.seq<|S.objIs (b:=b9) (cs' :=[byteV (RS.mk true bs).byte.1,.int .i64 (RS.mk true bs).byte.2.num.1,.int .i64 0,.string ⟨#[]⟩,.string ⟨#[]⟩,.int .i64 0,.int .i64 0,.int .i64 0,.slice none 0 0,.slice none 0 0,.slice none 0 0,.slice none 0 0,.slice none 0 0,.int .u8 0,.slice none 0 0,.slice none 0 0,.slice none 0 0,.slice none 0 0,.int .i64 0,.int .i64 0,.int .i64 0,.slice none 0 0,.slice none 0 0,.int .i64 0,.int .i64 0,.int .i64 0,.slice none 0 0,.slice none 0 0,.int .i64 0,.pointer (some ⟨b7,0,none⟩)]) zC rfl ?_;generalize (RS.mk true bs).byte.1=k at hrd hkg ⊢;generalize (RS.mk true bs).byte.2.num.1=n at hrd hni hkg ⊢;generalize (RS.mk true bs).byte.2.num.2=s at hrd hls hkg ⊢;clear hk1 hk2 hk3;have hg_o:=hg;have hR_o:=hR
 try have ha_o:=ha
 refine S.frzH (B:=obj b9 129 [byteV k,.int .i64 n,.int .i64 0,.string ⟨#[]⟩,.string ⟨#[]⟩,.int .i64 0,.int .i64 0,.int .i64 0,.slice none 0 0,.slice none 0 0,.slice none 0 0,.slice none 0 0,.slice none 0 0,.int .u8 0,.slice none 0 0,.slice none 0 0,.slice none 0 0,.slice none 0 0,.int .i64 0,.int .i64 0,.int .i64 0,.slice none 0 0,.slice none 0 0,.int .i64 0,.int .i64 0,.int .i64 0,.slice none 0 0,.slice none 0 0,.int .i64 0,.pointer (some ⟨b7,0,none⟩)]) zC fun go hso ⟨mo,hmo,hsmo⟩ hbo=>?_;replace hg:=zfs hg hso;replace hR:=backR hR hbo
 try replace ha:=ha.mono hso
 have hat:=(obj_at hmo).mono hsmo
 by_cases hin:InK k
 ·have hok:=kget_ok hin
  refine S.regionD (L:=[1,2,3,4,5,0,6,7,8,9,10,11,12]) F.mixed zB ?_;refine zz 5 ?_;refine OD.call0 (.p rfl) zB rfl zB rfl rfl (kinds_c) ?_;rintro v29 _ ⟨b29,c29,m29,rfl,rfl,hm29⟩;refine OD.doesL (.p rfl) rfl zB (fun _=>.lookupK underlying137 (keyOkB underlying25) zeroValue135 rfl rfl zC) ?_;refine OD.q 2 rfl<|OD.slot 36 (v' :=kindV (kputF k) (kgetF k) (klessF k)) rfl (by simp [hm29,kind_in hin]) ?_;refine OD.q 1 rfl<|OD.sT 37 rfl (by simp [hm29,kind_in hin]) ?_;refine .lazy rfl zB rfl fun b4=>?_;refine OD.storeObj rfl zB zB rfl rfl rfl rfl zC zO<|zz 3 ?_;refine S.back hbo ?_;replace hg:=hg_o;replace hR:=hR_o
  try replace ha:=ha_o
  clear hg_o hR_o;refine S.objIs (b:=b4) (cs' :=[.func (.func (kputF k)) #[] #[],.func (.func (kgetF k)) #[] #[],.func (.func (klessF k)) #[] #[]]) zC rfl ?_;refine zz 2 ?_;refine O.callP0 (.p rfl) rfl zB rfl rfl (fright_c _) (fun ch η' w hX hW=>by (exact absurd hX.1 zG)) ?_;rintro _ _ ⟨hb39,rfl,rfl⟩;refine zz 5 ?_;refine O.q 1 rfl<|O.callPSs (.p rfl) rfl hok rfl rfl zI (hkg hin _ _ _) (fun ch η' w hX hW=>by (obtain ⟨hb,rfl,rfl⟩:=hX;exact hR _ _ w ⟨fun ⟨q,hq,_⟩=>(by rw [hrd,hb] at hq;cases hq),rfl,rfl⟩ hW.drop_all)) ?_;rintro _ _ ⟨p,A,hp,rfl,rfl⟩
  refine O.nil<|S.seq<|S.objIs (b:=b9) (cs' :=[byteV p.1.1,.int .i64 p.1.2.1,.int .i64 p.1.2.2.1,.string (str p.1.2.2.2.1),.string (str p.1.2.2.2.2.1),.int .i64 p.1.2.2.2.2.2.1.1,.int .i64 p.1.2.2.2.2.2.1.2.1,.int .i64 p.1.2.2.2.2.2.1.2.2.1,.slice (A 8).1 p.1.2.2.2.2.2.1.2.2.2.1.length (A 8).2,.slice (A 9).1 p.1.2.2.2.2.2.1.2.2.2.2.1.length (A 9).2,.slice (A 10).1 p.1.2.2.2.2.2.2.1.length (A 10).2,.slice (A 11).1 p.1.2.2.2.2.2.2.2.1.1.length (A 11).2,.slice (A 12).1 p.1.2.2.2.2.2.2.2.1.2.1.length (A 12).2,byteV p.1.2.2.2.2.2.2.2.2.1.1,.slice (A 14).1 p.1.2.2.2.2.2.2.2.2.1.2.1.length (A 14).2,.slice (A 15).1 p.1.2.2.2.2.2.2.2.2.1.2.2.1.length (A 15).2,.slice (A 16).1 p.1.2.2.2.2.2.2.2.2.1.2.2.2.1.length (A 16).2,.slice (A 17).1 p.1.2.2.2.2.2.2.2.2.2.1.length (A 17).2,.int .i64 p.1.2.2.2.2.2.2.2.2.2.2.1.1.1,.int .i64 p.1.2.2.2.2.2.2.2.2.2.2.1.1.2.1,.int .i64 p.1.2.2.2.2.2.2.2.2.2.2.1.1.2.2.1,.slice (A 21).1 p.1.2.2.2.2.2.2.2.2.2.2.1.1.2.2.2.1.length (A 21).2,.slice (A 22).1 p.1.2.2.2.2.2.2.2.2.2.2.1.1.2.2.2.2.1.length (A 22).2,.int .i64 p.1.2.2.2.2.2.2.2.2.2.2.1.2.1.1,.int .i64 p.1.2.2.2.2.2.2.2.2.2.2.1.2.1.2.1,.int .i64 p.1.2.2.2.2.2.2.2.2.2.2.1.2.1.2.2.1,.slice (A 26).1 p.1.2.2.2.2.2.2.2.2.2.2.1.2.1.2.2.2.1.length (A 26).2,.slice (A 27).1 p.1.2.2.2.2.2.2.2.2.2.2.1.2.1.2.2.2.2.1.length (A 27).2,.int .i64 p.1.2.2.2.2.2.2.2.2.2.2.2.1,.pointer (some ⟨b7,0,none⟩)]) zC rfl ?_
  cases hd:p.2.done with
  |true =>
   refine zz 5 ?_;refine O.vS (.p rfl) rfl zB rfl rfl zC rdDone_c ?_;refine O.sT 48 rfl (by exact hd) ?_;refine O.callP0 (.p rfl) rfl zB rfl rfl (fright_c _) (fun ch η' w hX hW=>by (exact absurd hX.1 zG)) ?_;rintro _ _ ⟨hb49,rfl,rfl⟩;refine zz 8 ?_
   refine O.nil<|S.objIs (b:=b2) (cs' :=[byteV p.1.1,.int .i64 p.1.2.1,.int .i64 p.1.2.2.1,.string (str p.1.2.2.2.1),.string (str p.1.2.2.2.2.1),.int .i64 p.1.2.2.2.2.2.1.1,.int .i64 p.1.2.2.2.2.2.1.2.1,.int .i64 p.1.2.2.2.2.2.1.2.2.1,.slice (A 8).1 p.1.2.2.2.2.2.1.2.2.2.1.length (A 8).2,.slice (A 9).1 p.1.2.2.2.2.2.1.2.2.2.2.1.length (A 9).2,.slice (A 10).1 p.1.2.2.2.2.2.2.1.length (A 10).2,.slice (A 11).1 p.1.2.2.2.2.2.2.2.1.1.length (A 11).2,.slice (A 12).1 p.1.2.2.2.2.2.2.2.1.2.1.length (A 12).2,byteV p.1.2.2.2.2.2.2.2.2.1.1,.slice (A 14).1 p.1.2.2.2.2.2.2.2.2.1.2.1.length (A 14).2,.slice (A 15).1 p.1.2.2.2.2.2.2.2.2.1.2.2.1.length (A 15).2,.slice (A 16).1 p.1.2.2.2.2.2.2.2.2.1.2.2.2.1.length (A 16).2,.slice (A 17).1 p.1.2.2.2.2.2.2.2.2.2.1.length (A 17).2,.int .i64 p.1.2.2.2.2.2.2.2.2.2.2.1.1.1,.int .i64 p.1.2.2.2.2.2.2.2.2.2.2.1.1.2.1,.int .i64 p.1.2.2.2.2.2.2.2.2.2.2.1.1.2.2.1,.slice (A 21).1 p.1.2.2.2.2.2.2.2.2.2.2.1.1.2.2.2.1.length (A 21).2,.slice (A 22).1 p.1.2.2.2.2.2.2.2.2.2.2.1.1.2.2.2.2.1.length (A 22).2,.int .i64 p.1.2.2.2.2.2.2.2.2.2.2.1.2.1.1,.int .i64 p.1.2.2.2.2.2.2.2.2.2.2.1.2.1.2.1,.int .i64 p.1.2.2.2.2.2.2.2.2.2.2.1.2.1.2.2.1,.slice (A 26).1 p.1.2.2.2.2.2.2.2.2.2.2.1.2.1.2.2.2.1.length (A 26).2,.slice (A 27).1 p.1.2.2.2.2.2.2.2.2.2.2.1.2.1.2.2.2.2.1.length (A 27).2,.int .i64 p.1.2.2.2.2.2.2.2.2.2.2.2.1]) zC rfl ?_;refine S.retCellAgg results32 isAgg41 zB rfl zC fun w hw=>Holds.end_ hR hw ?_
   exact pk ⟨p,A,hrd.trans hp,hd,rfl,rfl⟩
  |false =>
   have hno:(¬ ∃ p,frmRd bs=some p∧p.2.done=true):=fun ⟨q,hq,hqd⟩=>by rw [hrd,hp] at hq;obtain rfl:=Option.some.inj hq;rw [hd] at hqd;cases hqd
   refine zz 5 ?_;refine O.vS (.p rfl) rfl zB rfl rfl zC rdDone_c ?_;refine O.sF 48 rfl (by exact hd) ?_;refine O.callP0 (.p rfl) rfl zB rfl rfl (fright_c _) (fun ch η' w hX hW=>by (obtain ⟨hb,rfl,rfl⟩:=hX;exact hR _ _ w ⟨hno,rfl,rfl⟩ hW.drop_all)) ?_;rintro _ _ ⟨hb49,rfl,rfl⟩;exact absurd hb49 zG
 ·have hno:(¬ ∃ p,frmRd bs=some p∧p.2.done=true):=fun ⟨q,hq,_⟩=>hin (frmIn_cases (hrd.symm.trans hq)).1
  refine S.regionD (L:=[1,2,3,4,5,0,6,7,8,9,10,11,12]) F.mixed zB ?_;refine zz 5 ?_;refine OD.call0 (.p rfl) zB rfl zB rfl rfl (kinds_c) ?_;rintro v29 _ ⟨b29,c29,m29,rfl,rfl,hm29⟩;refine OD.doesL (.p rfl) rfl zB (fun _=>.lookupK underlying137 (keyOkB underlying25) zeroValue135 rfl rfl zC) ?_;refine OD.q 2 rfl<|OD.slot 36 (v' :=.agg #[.nilFunc,.nilFunc,.nilFunc]) rfl (by simp [hm29,kind_out hin]) ?_;refine OD.q 1 rfl<|OD.sF 37 rfl (by simp [hm29,kind_out hin]) ?_;refine .lazy rfl zB rfl fun b4=>?_;refine OD.storeObj rfl zB zB rfl rfl rfl rfl zC zO<|zz 5 ?_;refine O.callP0 (.p rfl) rfl zB rfl rfl (fright_c _) (fun ch η' w hX hW=>by (obtain ⟨hb,rfl,rfl⟩:=hX;exact hR _ _ w ⟨hno,rfl,rfl⟩ hW.drop_all)) ?_;rintro _ _ ⟨hb39,rfl,rfl⟩;exact absurd hb39 zG
noncomputable def frmGot (b:List UInt8):Option FrmT:=if b.length≤262144 then frmGet b else none
def frmGE (b:List UInt8):Int:=if b.length≤262144 then 4 else 3
theorem frmGet_no {b:List UInt8} (h:¬ ∃ p,frmRd b=some p∧p.2.done=true):frmGet b=none:=by
 unfold frmGet
 cases e:frmRd b with
 |none=>rfl
 |some p=>rw [Option.bind_some,if_neg fun w=>h ⟨p,e,w.1⟩]
theorem frmGet_yes {b:List UInt8} {p:FrmT × RS} (h:frmRd b=some p) (hd:p.2.done=true) (h1:Sp.kindOk p.1∧0≤p.1.2.1∧p.1.2.1≤1073741824) (h2:frmB p.1=b):frmGet b=some p.1:=by
 unfold frmGet;rw [h,Option.bind_some,if_pos ⟨hd,⟨h1,(frmIn_cases (show frmIn _ _ _=some p from h)).2.2.2⟩,h2⟩]
theorem frmGet_not {b:List UInt8} {p:FrmT × RS} (h:frmRd b=some p) (hn:¬ (frmOk p.1∧frmB p.1=b)):frmGet b=none:=by
 unfold frmGet;rw [h,Option.bind_some,if_neg fun w=>hn w.2]
def FrmK (bs:List UInt8) (v:Value) (η:List SProp):Prop:=∃ f A,frmGot bs=some f∧v=.agg (frmV f A).toArray∧η=[(FrmG tys).own (frmV f A) f]
theorem fget1_c {r:Fr} {pp:Nat} {va:Value} {bs:List UInt8} (hp:At r ⟨pp,0,none⟩ [va]) (ha:Arr Rp.u8 r va bs) (hbl:bs.length≤1000000000) (hkg:bs.length≤262144→InK (RS.mk true bs).byte.1→KGet (RS.mk true bs).byte.1 (RS.mk true bs).byte.2.num.1 (RS.mk true bs).byte.2.num.2) (hH:At r ⟨0,0,none⟩ (w64s shaH)) (hK:At r ⟨1,0,none⟩ (w64s shaK)) :
  Con prog 30 (#[]++#[]++#[.pointer (some ⟨pp,0,none⟩)]) r [] (RetP (fun v η=>FrmK bs v η) (fun ch η=>∃ z,ch=errP 39 z∧(frmGot bs=none∧z=frmGE bs)∧η=[])):=by
 obtain ⟨ax,cx,rfl⟩:=ha.shape;refine Con.of (n:=15) [.pointer (some ⟨pp,0,none⟩)] rfl func30 rfl rfl rfl fun g hg R hR=>?_;have hp:=hp.mono hg;have ha:=ha.mono hg;have hH:=hH.mono hg;have hK:=hK.mono hg
 by_cases hlen:bs.length≤262144
 ·have hE:frmGE bs=4:=if_pos hlen
  have hG:frmGot bs=frmGet bs:=if_pos hlen;refine S.seq<|S.region rfl<|O.opE (.p rfl) (.alloc (cs:=[.int .u8 0,.int .i64 0,.int .i64 0,.string ⟨#[]⟩,.string ⟨#[]⟩,.int .i64 0,.int .i64 0,.int .i64 0,.slice none 0 0,.slice none 0 0,.slice none 0 0,.slice none 0 0,.slice none 0 0,.int .u8 0,.slice none 0 0,.slice none 0 0,.slice none 0 0,.slice none 0 0,.int .i64 0,.int .i64 0,.int .i64 0,.slice none 0 0,.slice none 0 0,.int .i64 0,.int .i64 0,.int .i64 0,.slice none 0 0,.slice none 0 0,.int .i64 0]) zeroValue41 rfl) ?_;rintro _ _ ⟨b1,rfl,rfl⟩;refine zz 6 ?_;refine O.sT 5 rfl (by exact zdt zD) ?_;refine O.callP0 (.p rfl) rfl zB rfl rfl (fmust_c _ _) (fun ch η' w hX hW=>by (exact absurd hX.1 zG)) ?_;rintro _ _ ⟨hb6,rfl,rfl⟩;refine zz 4 ?_;refine O.callP0 (.p rfl) rfl zB rfl rfl ((fread_c ha hlen (hkg hlen))) (fun ch η' w hX hW=>by (obtain ⟨hb,rfl,rfl⟩:=hX;exact hR _ _ w ⟨4,rfl,⟨by rw [hG];exact frmGet_no hb,hE.symm⟩,rfl⟩ hW.drop_all)) ?_;rintro _ _ ⟨p,A,hrd,hd,rfl,rfl⟩
  refine O.opE (.p rfl) (.alloc (cs:=[.int .u8 0,.int .i64 0,.int .i64 0,.string ⟨#[]⟩,.string ⟨#[]⟩,.int .i64 0,.int .i64 0,.int .i64 0,.slice none 0 0,.slice none 0 0,.slice none 0 0,.slice none 0 0,.slice none 0 0,.int .u8 0,.slice none 0 0,.slice none 0 0,.slice none 0 0,.slice none 0 0,.int .i64 0,.int .i64 0,.int .i64 0,.slice none 0 0,.slice none 0 0,.int .i64 0,.int .i64 0,.int .i64 0,.slice none 0 0,.slice none 0 0,.int .i64 0]) zeroValue41 rfl) ?_;rintro _ _ ⟨b2,rfl,rfl⟩;refine zz 3 ?_;have hsz:=frmRd_size hlen hrd
  refine S.objIs (b:=b2) (cs' :=[byteV p.1.1,.int .i64 p.1.2.1,.int .i64 p.1.2.2.1,.string (str p.1.2.2.2.1),.string (str p.1.2.2.2.2.1),.int .i64 p.1.2.2.2.2.2.1.1,.int .i64 p.1.2.2.2.2.2.1.2.1,.int .i64 p.1.2.2.2.2.2.1.2.2.1,.slice (A 8).1 p.1.2.2.2.2.2.1.2.2.2.1.length (A 8).2,.slice (A 9).1 p.1.2.2.2.2.2.1.2.2.2.2.1.length (A 9).2,.slice (A 10).1 p.1.2.2.2.2.2.2.1.length (A 10).2,.slice (A 11).1 p.1.2.2.2.2.2.2.2.1.1.length (A 11).2,.slice (A 12).1 p.1.2.2.2.2.2.2.2.1.2.1.length (A 12).2,byteV p.1.2.2.2.2.2.2.2.2.1.1,.slice (A 14).1 p.1.2.2.2.2.2.2.2.2.1.2.1.length (A 14).2,.slice (A 15).1 p.1.2.2.2.2.2.2.2.2.1.2.2.1.length (A 15).2,.slice (A 16).1 p.1.2.2.2.2.2.2.2.2.1.2.2.2.1.length (A 16).2,.slice (A 17).1 p.1.2.2.2.2.2.2.2.2.2.1.length (A 17).2,.int .i64 p.1.2.2.2.2.2.2.2.2.2.2.1.1.1,.int .i64 p.1.2.2.2.2.2.2.2.2.2.2.1.1.2.1,.int .i64 p.1.2.2.2.2.2.2.2.2.2.2.1.1.2.2.1,.slice (A 21).1 p.1.2.2.2.2.2.2.2.2.2.2.1.1.2.2.2.1.length (A 21).2,.slice (A 22).1 p.1.2.2.2.2.2.2.2.2.2.2.1.1.2.2.2.2.1.length (A 22).2,.int .i64 p.1.2.2.2.2.2.2.2.2.2.2.1.2.1.1,.int .i64 p.1.2.2.2.2.2.2.2.2.2.2.1.2.1.2.1,.int .i64 p.1.2.2.2.2.2.2.2.2.2.2.1.2.1.2.2.1,.slice (A 26).1 p.1.2.2.2.2.2.2.2.2.2.2.1.2.1.2.2.2.1.length (A 26).2,.slice (A 27).1 p.1.2.2.2.2.2.2.2.2.2.2.1.2.1.2.2.2.2.1.length (A 27).2,.int .i64 p.1.2.2.2.2.2.2.2.2.2.2.2.1]) zC rfl ?_;refine S.frzO zC fun g hs hm h2=>?_;replace hg:=zfs hg hs;replace hR:=melted hR hm
  try replace hp:=hp.mono hs
  try replace ha:=ha.mono hs
  try replace hH:=hH.mono hs
  try replace hK:=hK.mono hs
  clear hs hm;have hg_q:=hg;have hR_q:=hR
  try have hp_q:=hp
  try have ha_q:=ha
  try have hH_q:=hH
  try have hK_q:=hK
  try have h2_q:=h2
  refine S.frzH (B:=(FrmG tys).own (frmV p.1 A) p.1) zC fun gq hsq ⟨mq,hmq,hsmq⟩ hbq=>?_;replace hg:=zfs hg hsq;replace hR:=backR hR hbq
  try replace hp:=hp.mono hsq
  try replace ha:=ha.mono hsq
  try replace hH:=hH.mono hsq
  try replace hK:=hK.mono hsq
  try replace h2:=h2.mono hsq
  have hrel:FrmRp.rel gq.h (frmV p.1 A) p.1:=FrmRp.mono hsmq ((FrmG tys).rel hmq)
  by_cases q1:Sp.kindOk p.1∧0≤p.1.2.1∧p.1.2.1≤1073741824
  ·have hwl:=frmB_le q1.1 hsz
   by_cases q2:frmB p.1=bs
   ·have hyes:frmGot bs=some p.1:=hG.trans (frmGet_yes hrd hd q1 q2)
    refine S.regionD (L:=[0,2,1,3,4]) F.mixed zB ?_;refine .quiet (.p rfl) rfl (fun _=>.loadAgg isAgg41 zB rfl h2) ?_;refine zz 1 ?_;refine OD.callP0 (.p rfl) zB rfl zB rfl rfl ((whole_c hrel hsz hH hK)) (fun ch η' w hX hW=>by (exact absurd q1 hX.1)) ?_;rintro _ _ ⟨hb10,a10,c10,rfl,rfl⟩;refine OD.callB (.p rfl) zB rfl zB rfl rfl (bs:=[OwnP Rp.u8 5 (.slice a10 (frmB p.1).length c10) (frmB p.1)]) zI (fun m hm hd' =>bequal_c (hm.arr.right hd') ha.left) ?_;rintro _ _ ⟨rfl,rfl⟩;refine OD.sT 12 rfl (by exact zdt q2) ?_;refine OD.callP0 (.p rfl) zB rfl zB rfl rfl (fright_c _) (fun ch η' w hX hW=>by (exact absurd hX.1 zG)) ?_;rintro _ _ ⟨hb13,rfl,rfl⟩;refine ODx.nil<|S.seq<|S.back hbq ?_;replace hg:=hg_q;replace hR:=hR_q
    try replace hp:=hp_q
    try replace ha:=ha_q
    try replace hH:=hH_q
    try replace hK:=hK_q
    try replace h2:=h2_q
    clear hg_q hR_q;refine S.region rfl<|O.op (.p rfl) (.loadAgg isAgg41 zB rfl h2) ?_;refine zz 1 ?_;refine O.nil<|S.objIs (b:=b1) (cs' :=[byteV p.1.1,.int .i64 p.1.2.1,.int .i64 p.1.2.2.1,.string (str p.1.2.2.2.1),.string (str p.1.2.2.2.2.1),.int .i64 p.1.2.2.2.2.2.1.1,.int .i64 p.1.2.2.2.2.2.1.2.1,.int .i64 p.1.2.2.2.2.2.1.2.2.1,.slice (A 8).1 p.1.2.2.2.2.2.1.2.2.2.1.length (A 8).2,.slice (A 9).1 p.1.2.2.2.2.2.1.2.2.2.2.1.length (A 9).2,.slice (A 10).1 p.1.2.2.2.2.2.2.1.length (A 10).2,.slice (A 11).1 p.1.2.2.2.2.2.2.2.1.1.length (A 11).2,.slice (A 12).1 p.1.2.2.2.2.2.2.2.1.2.1.length (A 12).2,byteV p.1.2.2.2.2.2.2.2.2.1.1,.slice (A 14).1 p.1.2.2.2.2.2.2.2.2.1.2.1.length (A 14).2,.slice (A 15).1 p.1.2.2.2.2.2.2.2.2.1.2.2.1.length (A 15).2,.slice (A 16).1 p.1.2.2.2.2.2.2.2.2.1.2.2.2.1.length (A 16).2,.slice (A 17).1 p.1.2.2.2.2.2.2.2.2.2.1.length (A 17).2,.int .i64 p.1.2.2.2.2.2.2.2.2.2.2.1.1.1,.int .i64 p.1.2.2.2.2.2.2.2.2.2.2.1.1.2.1,.int .i64 p.1.2.2.2.2.2.2.2.2.2.2.1.1.2.2.1,.slice (A 21).1 p.1.2.2.2.2.2.2.2.2.2.2.1.1.2.2.2.1.length (A 21).2,.slice (A 22).1 p.1.2.2.2.2.2.2.2.2.2.2.1.1.2.2.2.2.1.length (A 22).2,.int .i64 p.1.2.2.2.2.2.2.2.2.2.2.1.2.1.1,.int .i64 p.1.2.2.2.2.2.2.2.2.2.2.1.2.1.2.1,.int .i64 p.1.2.2.2.2.2.2.2.2.2.2.1.2.1.2.2.1,.slice (A 26).1 p.1.2.2.2.2.2.2.2.2.2.2.1.2.1.2.2.2.1.length (A 26).2,.slice (A 27).1 p.1.2.2.2.2.2.2.2.2.2.2.1.2.1.2.2.2.2.1.length (A 27).2,.int .i64 p.1.2.2.2.2.2.2.2.2.2.2.2.1]) zC rfl ?_
    refine S.retCellAgg results30 isAgg41 zB rfl zC fun w hw=>Holds.end_ hR hw ?_;exact pk ⟨p.1,A,hyes,rfl,rfl⟩
   ·have hno:frmGot bs=none:=hG.trans (frmGet_not hrd fun w=>q2 w.2)
    refine S.regionD (L:=[0,2,1,3,4]) F.mixed zB ?_;refine .quiet (.p rfl) rfl (fun _=>.loadAgg isAgg41 zB rfl h2) ?_;refine zz 1 ?_;refine OD.callP0 (.p rfl) zB rfl zB rfl rfl ((whole_c hrel hsz hH hK)) (fun ch η' w hX hW=>by (exact absurd q1 hX.1)) ?_;rintro _ _ ⟨hb10,a10,c10,rfl,rfl⟩;refine OD.callB (.p rfl) zB rfl zB rfl rfl (bs:=[OwnP Rp.u8 5 (.slice a10 (frmB p.1).length c10) (frmB p.1)]) zI (fun m hm hd' =>bequal_c (hm.arr.right hd') ha.left) ?_;rintro _ _ ⟨rfl,rfl⟩;refine OD.sF 12 rfl (by exact zdf q2) ?_;refine OD.callP0 (.p rfl) zB rfl zB rfl rfl (fright_c _) (fun ch η' w hX hW=>by (obtain ⟨hb,rfl,rfl⟩:=hX;exact hR _ _ w ⟨4,rfl,⟨hno,hE.symm⟩,rfl⟩ hW.drop_all)) ?_;rintro _ _ ⟨hb13,rfl,rfl⟩;exact absurd hb13 zG
  ·have hno:frmGot bs=none:=hG.trans (frmGet_not hrd fun w=>q1 w.1.1)
   refine S.regionD (L:=[0,2,1,3,4]) F.mixed zB ?_;refine .quiet (.p rfl) rfl (fun _=>.loadAgg isAgg41 zB rfl h2) ?_;refine zz 1 ?_;refine OD.callP0 (.p rfl) zB rfl zB rfl rfl ((whole_c hrel hsz hH hK)) (fun ch η' w hX hW=>by (obtain ⟨hb,rfl,rfl⟩:=hX;exact hR _ _ w ⟨4,rfl,⟨hno,hE.symm⟩,rfl⟩ hW.drop_all)) ?_;rintro _ _ ⟨hb10,a10,c10,rfl,rfl⟩;exact absurd hb10 q1
 ·have hE:frmGE bs=3:=if_neg hlen
  have hG:frmGot bs=none:=if_neg hlen;refine S.seq<|S.region rfl<|O.opE (.p rfl) (.alloc (cs:=[.int .u8 0,.int .i64 0,.int .i64 0,.string ⟨#[]⟩,.string ⟨#[]⟩,.int .i64 0,.int .i64 0,.int .i64 0,.slice none 0 0,.slice none 0 0,.slice none 0 0,.slice none 0 0,.slice none 0 0,.int .u8 0,.slice none 0 0,.slice none 0 0,.slice none 0 0,.slice none 0 0,.int .i64 0,.int .i64 0,.int .i64 0,.slice none 0 0,.slice none 0 0,.int .i64 0,.int .i64 0,.int .i64 0,.slice none 0 0,.slice none 0 0,.int .i64 0]) zeroValue41 rfl) ?_;rintro _ _ ⟨b1,rfl,rfl⟩;refine zz 6 ?_;refine O.sF 5 rfl (by exact zdf zD) ?_;refine O.callP0 (.p rfl) rfl zB rfl rfl (fmust_c _ _) (fun ch η' w hX hW=>by (obtain ⟨hb,rfl,rfl⟩:=hX;exact hR _ _ w ⟨3,rfl,⟨hG,hE.symm⟩,rfl⟩ hW.drop_all)) ?_;rintro _ _ ⟨hb6,rfl,rfl⟩;exact absurd hb6 zG
def frm_t (bs:List UInt8) (v:Value) (η:List SProp):Prop:=(∃ f A,frmGot bs=some f∧v=.tuple #[.agg (frmV f A).toArray,.int .i64 0]∧η=[(FrmG tys).own (frmV f A) f])∨(frmGot bs=none∧v=.tuple #[.agg (([.int .u8 0,.int .i64 0,.int .i64 0,.string ⟨#[]⟩,.string ⟨#[]⟩,.int .i64 0,.int .i64 0,.int .i64 0,.slice none 0 0,.slice none 0 0,.slice none 0 0,.slice none 0 0,.slice none 0 0,.int .u8 0,.slice none 0 0,.slice none 0 0,.slice none 0 0,.slice none 0 0,.int .i64 0,.int .i64 0,.int .i64 0,.slice none 0 0,.slice none 0 0,.int .i64 0,.int .i64 0,.int .i64 0,.slice none 0 0,.slice none 0 0,.int .i64 0]:List Value)).toArray,.int .i64 (frmGE bs)]∧η=[])
theorem frm_tY {bs:List UInt8} {f:FrmT} {v:Value} {η:List SProp} (e:frmGot bs=some f) (h:frm_t bs v η):∃ A,v=.tuple #[.agg (frmV f A).toArray,.int .i64 0]∧η=[(FrmG tys).own (frmV f A) f]:=by
 rcases h with ⟨g,A,h1,rfl,rfl⟩|⟨h1,_⟩
 ·rw [e] at h1;obtain rfl:=Option.some.inj h1;exact ⟨A,rfl,rfl⟩
 ·rw [e] at h1;cases h1
theorem frm_tN {bs:List UInt8} {v:Value} {η:List SProp} (e:frmGot bs=none) (h:frm_t bs v η):v=.tuple #[.agg ([.int .u8 0,.int .i64 0,.int .i64 0,.string ⟨#[]⟩,.string ⟨#[]⟩,.int .i64 0,.int .i64 0,.int .i64 0,.slice none 0 0,.slice none 0 0,.slice none 0 0,.slice none 0 0,.slice none 0 0,.int .u8 0,.slice none 0 0,.slice none 0 0,.slice none 0 0,.slice none 0 0,.int .i64 0,.int .i64 0,.int .i64 0,.slice none 0 0,.slice none 0 0,.int .i64 0,.int .i64 0,.int .i64 0,.slice none 0 0,.slice none 0 0,.int .i64 0]:List Value).toArray,.int .i64 (frmGE bs)]∧η=[]:=by
 rcases h with ⟨g,A,h1,_⟩|⟨_,h1,h2⟩
 ·rw [e] at h1;cases h1
 ·exact ⟨h1,h2⟩
theorem fGetG_c {r:Fr} {va:Value} {bs:List UInt8} (ha:Arr Rp.u8 r va bs) (hbl:bs.length≤1000000000) (hkg:bs.length≤262144→InK (RS.mk true bs).byte.1→KGet (RS.mk true bs).byte.1 (RS.mk true bs).byte.2.num.1 (RS.mk true bs).byte.2.num.2) (hH:At r ⟨0,0,none⟩ (w64s shaH)) (hK:At r ⟨1,0,none⟩ (w64s shaK)):Con prog 10 #[va] r [] (Ret fun v η=>frm_t bs v η):=by
 obtain ⟨ax,cx,rfl⟩:=ha.shape;refine Con.o func10 fun g hg R hR=>?_;have ha:=ha.mono hg;have hH:=hH.mono hg;have hK:=hK.mono hg;have key:∀ v η,((∃ u,FrmK bs u η∧v=.tuple #[u,.int .i64 0])∨∃ z,(frmGot bs=none∧z=frmGE bs)∧η=[]∧v=.tuple #[.agg ([.int .u8 0,.int .i64 0,.int .i64 0,.string ⟨#[]⟩,.string ⟨#[]⟩,.int .i64 0,.int .i64 0,.int .i64 0,.slice none 0 0,.slice none 0 0,.slice none 0 0,.slice none 0 0,.slice none 0 0,.int .u8 0,.slice none 0 0,.slice none 0 0,.slice none 0 0,.slice none 0 0,.int .i64 0,.int .i64 0,.int .i64 0,.slice none 0 0,.slice none 0 0,.int .i64 0,.int .i64 0,.int .i64 0,.slice none 0 0,.slice none 0 0,.int .i64 0]:List Value).toArray,.int .i64 z])→frm_t bs v η:=fun v η h=>by
  rcases h with ⟨y,⟨f,A,h1,rfl,rfl⟩,rfl⟩|⟨z,⟨h1,rfl⟩,rfl,rfl⟩
  ·exact .inl ⟨f,A,h1,rfl,rfl⟩
  ·exact .inr ⟨h1,rfl,rfl⟩
 cases eg:frmGot bs with
 |some f =>
  refine S.seq<|S.region rfl<|O.opE (.p rfl) (.box (cs:=[_]) rfl rfl) ?_;rintro _ _ ⟨b1,rfl,rfl⟩;refine O.frzO zC fun g hs hm hb1=>?_;replace hg:=zfs hg hs;replace hR:=melted hR hm
  try replace ha:=ha.mono hs
  try replace hH:=hH.mono hs
  try replace hK:=hK.mono hs
  clear hs hm;refine O.opE (.p rfl) (.alloc (cs:=[.int .u8 0,.int .i64 0,.int .i64 0,.string ⟨#[]⟩,.string ⟨#[]⟩,.int .i64 0,.int .i64 0,.int .i64 0,.slice none 0 0,.slice none 0 0,.slice none 0 0,.slice none 0 0,.slice none 0 0,.int .u8 0,.slice none 0 0,.slice none 0 0,.slice none 0 0,.slice none 0 0,.int .i64 0,.int .i64 0,.int .i64 0,.slice none 0 0,.slice none 0 0,.int .i64 0,.int .i64 0,.int .i64 0,.slice none 0 0,.slice none 0 0,.int .i64 0]) zeroValue41 rfl) ?_;rintro _ _ ⟨b2,rfl,rfl⟩;refine zz 5 ?_;refine O.call0 (.p rfl) rfl zB rfl rfl (((triedFF_c (K:=FrmK bs) (X:=fun z=>frmGot bs=none∧z=frmGE bs) zB rfl (fun u ζ h=>by obtain ⟨f,A,_,rfl,_⟩:=h;exact ⟨_,rfl,rfl,rfl⟩) (fget1_c hb1 ha hbl hkg hH hK)).mono (Ret.imp fun _ _ h=>frm_tY eg (key _ _ h)))) ?_;rintro _ _ ⟨A,rfl,rfl⟩;refine zz 3 ?_
  refine O.q 1 rfl<|O.nil<|S.objIs (b:=b2) (cs' :=[byteV f.1,.int .i64 f.2.1,.int .i64 f.2.2.1,.string (str f.2.2.2.1),.string (str f.2.2.2.2.1),.int .i64 f.2.2.2.2.2.1.1,.int .i64 f.2.2.2.2.2.1.2.1,.int .i64 f.2.2.2.2.2.1.2.2.1,.slice (A 8).1 f.2.2.2.2.2.1.2.2.2.1.length (A 8).2,.slice (A 9).1 f.2.2.2.2.2.1.2.2.2.2.1.length (A 9).2,.slice (A 10).1 f.2.2.2.2.2.2.1.length (A 10).2,.slice (A 11).1 f.2.2.2.2.2.2.2.1.1.length (A 11).2,.slice (A 12).1 f.2.2.2.2.2.2.2.1.2.1.length (A 12).2,byteV f.2.2.2.2.2.2.2.2.1.1,.slice (A 14).1 f.2.2.2.2.2.2.2.2.1.2.1.length (A 14).2,.slice (A 15).1 f.2.2.2.2.2.2.2.2.1.2.2.1.length (A 15).2,.slice (A 16).1 f.2.2.2.2.2.2.2.2.1.2.2.2.1.length (A 16).2,.slice (A 17).1 f.2.2.2.2.2.2.2.2.2.1.length (A 17).2,.int .i64 f.2.2.2.2.2.2.2.2.2.2.1.1.1,.int .i64 f.2.2.2.2.2.2.2.2.2.2.1.1.2.1,.int .i64 f.2.2.2.2.2.2.2.2.2.2.1.1.2.2.1,.slice (A 21).1 f.2.2.2.2.2.2.2.2.2.2.1.1.2.2.2.1.length (A 21).2,.slice (A 22).1 f.2.2.2.2.2.2.2.2.2.2.1.1.2.2.2.2.1.length (A 22).2,.int .i64 f.2.2.2.2.2.2.2.2.2.2.1.2.1.1,.int .i64 f.2.2.2.2.2.2.2.2.2.2.1.2.1.2.1,.int .i64 f.2.2.2.2.2.2.2.2.2.2.1.2.1.2.2.1,.slice (A 26).1 f.2.2.2.2.2.2.2.2.2.2.1.2.1.2.2.2.1.length (A 26).2,.slice (A 27).1 f.2.2.2.2.2.2.2.2.2.2.1.2.1.2.2.2.2.1.length (A 27).2,.int .i64 f.2.2.2.2.2.2.2.2.2.2.2.1]) zC rfl ?_;refine S.retCellT results10 rfl rfl zC (LoadsAs.agg isAgg41 zB) fun w hw=>Holds.end_ hR hw ?_;exact pk (.inl ⟨f,A,eg,rfl,rfl⟩)
 |none =>
  refine S.seq<|S.region rfl<|O.opE (.p rfl) (.box (cs:=[_]) rfl rfl) ?_;rintro _ _ ⟨b1,rfl,rfl⟩;refine O.frzO zC fun g hs hm hb1=>?_;replace hg:=zfs hg hs;replace hR:=melted hR hm
  try replace ha:=ha.mono hs
  try replace hH:=hH.mono hs
  try replace hK:=hK.mono hs
  clear hs hm;refine O.opE (.p rfl) (.alloc (cs:=[.int .u8 0,.int .i64 0,.int .i64 0,.string ⟨#[]⟩,.string ⟨#[]⟩,.int .i64 0,.int .i64 0,.int .i64 0,.slice none 0 0,.slice none 0 0,.slice none 0 0,.slice none 0 0,.slice none 0 0,.int .u8 0,.slice none 0 0,.slice none 0 0,.slice none 0 0,.slice none 0 0,.int .i64 0,.int .i64 0,.int .i64 0,.slice none 0 0,.slice none 0 0,.int .i64 0,.int .i64 0,.int .i64 0,.slice none 0 0,.slice none 0 0,.int .i64 0]) zeroValue41 rfl) ?_;rintro _ _ ⟨b2,rfl,rfl⟩;refine zz 5 ?_;refine O.v0 (.p rfl) rfl zB rfl rfl (((triedFF_c (K:=FrmK bs) (X:=fun z=>frmGot bs=none∧z=frmGE bs) zB rfl (fun u ζ h=>by obtain ⟨f,A,_,rfl,_⟩:=h;exact ⟨_,rfl,rfl,rfl⟩) (fget1_c hb1 ha hbl hkg hH hK)).mono (Ret.imp fun _ _ h=>frm_tN eg (key _ _ h)))) ?_;refine zz 3 ?_;refine O.q 1 rfl<|O.nil<|S.objIs (b:=b2) (cs' :=[.int .u8 0,.int .i64 0,.int .i64 0,.string ⟨#[]⟩,.string ⟨#[]⟩,.int .i64 0,.int .i64 0,.int .i64 0,.slice none 0 0,.slice none 0 0,.slice none 0 0,.slice none 0 0,.slice none 0 0,.int .u8 0,.slice none 0 0,.slice none 0 0,.slice none 0 0,.slice none 0 0,.int .i64 0,.int .i64 0,.int .i64 0,.slice none 0 0,.slice none 0 0,.int .i64 0,.int .i64 0,.int .i64 0,.slice none 0 0,.slice none 0 0,.int .i64 0]) zC rfl ?_;refine S.retCellT results10 rfl rfl zC (LoadsAs.agg isAgg41 zB) fun w hw=>Holds.end_ hR hw ?_;exact pk (.inr ⟨eg,rfl,rfl⟩)
theorem fGet_c {r:Fr} {va:Value} {bs:List UInt8} (ha:Arr Rp.u8 r va bs) (hbl:bs.length≤1000000000) (hH:At r ⟨0,0,none⟩ (w64s shaH)) (hK:At r ⟨1,0,none⟩ (w64s shaK)):Con prog 10 #[va] r [] (Ret fun v η=>frm_t bs v η) :=
 fGetG_c ha hbl (fun hl hin=>kget_k hin (RS.num_in _) (by
  have hk1:=RS.byte_len (RS.mk true bs);have hk2:=RS.num_len (RS.mk true bs).byte.2;have hk3:(RS.mk true bs).rest.length=bs.length:=rfl
  omega)) hH hK
theorem fGetP_c {r:Fr} {va:Value} {bs:List UInt8} (ha:Arr Rp.u8 r va bs) (hbl:bs.length≤1000000000) (h1:(RS.mk true bs).byte.1=1) (hH:At r ⟨0,0,none⟩ (w64s shaH)) (hK:At r ⟨1,0,none⟩ (w64s shaK)):Con prog 10 #[va] r [] (Ret fun v η=>frm_t bs v η) :=
 fGetG_c ha hbl (fun _ _=>by rw [h1];exact kget_k1 (RS.num_in _)) hH hK
end Go.Proofs.YtdjoggpacmpfnaaGreatDoor
