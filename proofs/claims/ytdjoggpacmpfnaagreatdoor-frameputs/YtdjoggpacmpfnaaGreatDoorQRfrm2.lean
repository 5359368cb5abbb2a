/- Texts of this proof. -/
import Derived.Test.YtdjoggpacmpfnaaGreatDoorQFrame13
open Go Go.Sp Go.Proofs.Tryz
set_option maxRecDepth 100000
set_option maxHeartbeats 1000000
attribute [local irreducible] obj Own ak
namespace Go.Proofs.YtdjoggpacmpfnaaGreatDoor
theorem adi {g:bp} {be bY:Nat} {xs:List Value} {z:Int} {dP d_:TypeId} {w:World} {R:Ending→World→Prop} {aa:List az} (hxl:xs.length=29) (hw:ax w g (obj bY dP xs::obj be d_ [.int .i64 z]::aa)) (hR:∀ w,ax w g (obj bY dP xs::obj be d_ [.int .i64 z]::aa)→R (.returned (.tuple #[.agg xs.toArray,.int .i64 z])) w) :
  CallsD prog 67 #[.pointer (some ⟨be,0,none⟩),.pointer (some ⟨bY,0,none⟩)] .returning w (qj prog g bY be 41 39 R):=by
 refine (n9 (R:=fun e w=>(∃ v,e=.returned v)∧ax w g (obj bY dP xs::obj be d_ [.int .i64 z]::aa)) [.pointer (some ⟨be,0,none⟩),.pointer (some ⟨bY,0,none⟩)] rfl func67 rfl rfl rfl rfl hw ?_).mono ?_
 rotate_left
 ·rintro e u' w' ⟨rfl,⟨v,rfl⟩,h⟩
  exact ⟨⟨v,rfl⟩,rfl,dP,d_,_,_,_,_,aa,h,gi.agg isAgg41 (by rw [hxl];kernel_rfl),gi.flat qA,hR w' h⟩
 refine S.seq<|S.region rfl<|O.q 1 rfl<|O.op (.p rfl) (.wG underlying20 rfl)<|O.nil<|S.pK rfl<|S.skip<|S.gl results67 fun w hw=>?_;exact ⟨⟨_,rfl⟩,hw⟩
theorem adh {g:bp} {be bY:Nat} {xs:List Value} {z z' :Int} {dP d_:TypeId} {w:World} {R:Ending→World→Prop} {aa:List az} (hxl:xs.length=29) (hw:ax w g (obj bY dP xs::obj be d_ [.int .i64 z']::aa))
  (hR:∀ w,ax w g (obj bY dP [.int .u8 0,.int .i64 0,.int .i64 0,.string ⟨#[]⟩,.string ⟨#[]⟩,.int .i64 0,.int .i64 0,.int .i64 0,.slice none 0 0,.slice none 0 0,.slice none 0 0,.slice none 0 0,.slice none 0 0,.int .u8 0,.slice none 0 0,.slice none 0 0,.slice none 0 0,.slice none 0 0,.int .i64 0,.int .i64 0,.int .i64 0,.slice none 0 0,.slice none 0 0,.int .i64 0,.int .i64 0,.int .i64 0,.slice none 0 0,.slice none 0 0,.int .i64 0]::obj be d_ [.int .i64 z]::aa)→R (.returned (.tuple #[.agg ([.int .u8 0,.int .i64 0,.int .i64 0,.string ⟨#[]⟩,.string ⟨#[]⟩,.int .i64 0,.int .i64 0,.int .i64 0,.slice none 0 0,.slice none 0 0,.slice none 0 0,.slice none 0 0,.slice none 0 0,.int .u8 0,.slice none 0 0,.slice none 0 0,.slice none 0 0,.slice none 0 0,.int .i64 0,.int .i64 0,.int .i64 0,.slice none 0 0,.slice none 0 0,.int .i64 0,.int .i64 0,.int .i64 0,.slice none 0 0,.slice none 0 0,.int .i64 0]:List Value).toArray,.int .i64 z])) w) :
  CallsD prog 67 #[.pointer (some ⟨be,0,none⟩),.pointer (some ⟨bY,0,none⟩)] (.panicking (fJ 39 z)) w (qj prog g bY be 41 39 R):=by
 refine (n9 (R:=fun e w=>(∃ v,e=.returned v)∧ax w g (obj bY dP [.int .u8 0,.int .i64 0,.int .i64 0,.string ⟨#[]⟩,.string ⟨#[]⟩,.int .i64 0,.int .i64 0,.int .i64 0,.slice none 0 0,.slice none 0 0,.slice none 0 0,.slice none 0 0,.slice none 0 0,.int .u8 0,.slice none 0 0,.slice none 0 0,.slice none 0 0,.slice none 0 0,.int .i64 0,.int .i64 0,.int .i64 0,.slice none 0 0,.slice none 0 0,.int .i64 0,.int .i64 0,.int .i64 0,.slice none 0 0,.slice none 0 0,.int .i64 0]::obj be d_ [.int .i64 z]::aa)) [.pointer (some ⟨be,0,none⟩),.pointer (some ⟨bY,0,none⟩)] rfl func67 rfl rfl rfl rfl hw ?_).mono ?_
 rotate_left
 ·rintro e u' w' ⟨rfl,⟨v,rfl⟩,h⟩
  exact ⟨⟨v,rfl⟩,rfl,dP,d_,_,_,_,_,aa,h,gi.agg isAgg41 af,gi.flat qA,hR w' h⟩
 refine U 3 ?_;refine O.op (.p rfl) (.wH underlying20 rfl)<|U 10 ?_;refine O.op (.p rfl) (.vE underlying39 rfl)<|U 15 ?_;refine O.aD (.p rfl) (.alloc (cs:=[.int .u8 0,.int .i64 0,.int .i64 0,.string ⟨#[]⟩,.string ⟨#[]⟩,.int .i64 0,.int .i64 0,.int .i64 0,.slice none 0 0,.slice none 0 0,.slice none 0 0,.slice none 0 0,.slice none 0 0,.int .u8 0,.slice none 0 0,.slice none 0 0,.slice none 0 0,.slice none 0 0,.int .i64 0,.int .i64 0,.int .i64 0,.slice none 0 0,.slice none 0 0,.int .i64 0,.int .i64 0,.int .i64 0,.slice none 0 0,.slice none 0 0,.int .i64 0]) zeroValue41 rfl) ?_;rintro _ _ ⟨b4,rfl,rfl⟩;refine U 3 ?_;refine O.eg rfl (.jM (news:=[.int .u8 0,.int .i64 0,.int .i64 0,.string ⟨#[]⟩,.string ⟨#[]⟩,.int .i64 0,.int .i64 0,.int .i64 0,.slice none 0 0,.slice none 0 0,.slice none 0 0,.slice none 0 0,.slice none 0 0,.int .u8 0,.slice none 0 0,.slice none 0 0,.slice none 0 0,.slice none 0 0,.int .i64 0,.int .i64 0,.int .i64 0,.slice none 0 0,.slice none 0 0,.int .i64 0,.int .i64 0,.int .i64 0,.slice none 0 0,.slice none 0 0,.int .i64 0]) af rfl rfl rfl rfl an (by rw [hxl];decide)) ?_
 refine O.nil<|S.cH (b:=bY) (cs' :=[.int .u8 0,.int .i64 0,.int .i64 0,.string ⟨#[]⟩,.string ⟨#[]⟩,.int .i64 0,.int .i64 0,.int .i64 0,.slice none 0 0,.slice none 0 0,.slice none 0 0,.slice none 0 0,.slice none 0 0,.int .u8 0,.slice none 0 0,.slice none 0 0,.slice none 0 0,.slice none 0 0,.int .i64 0,.int .i64 0,.int .i64 0,.slice none 0 0,.slice none 0 0,.int .i64 0,.int .i64 0,.int .i64 0,.slice none 0 0,.slice none 0 0,.int .i64 0]) an (by simp [hxl]) ?_;refine S.gl results67 fun w hw=>?_;exact ⟨⟨_,rfl⟩,hw.jr aC⟩
theorem P6 {r:Fr} {f:Nat} {first cap:Array Value} {K:Value→List az→Prop} {X:Int→Prop} (hc:ed prog f=true) (vW:(Value.func (.func f) first cap).oneCell' =true) (oW:∀ u ζ,K u ζ→∃ xs:List Value,u=.agg xs.toArray∧xs.length=29∧xs.all (·.oneCell')=true)
  (con:aj prog f (first++#[]++cap) r [] (dg K (fun ch aa=>∃ z,ch=fJ 39 z∧X z∧aa=[]))) :
  aj prog 29 #[.func (.func f) first cap] r [] (aF fun v aa=>(∃ u,K u aa∧v=.tuple #[u,.int .i64 0])∨(∃ z,X z∧aa=[]∧v=.tuple #[.agg ([.int .u8 0,.int .i64 0,.int .i64 0,.string ⟨#[]⟩,.string ⟨#[]⟩,.int .i64 0,.int .i64 0,.int .i64 0,.slice none 0 0,.slice none 0 0,.slice none 0 0,.slice none 0 0,.slice none 0 0,.int .u8 0,.slice none 0 0,.slice none 0 0,.slice none 0 0,.slice none 0 0,.int .i64 0,.int .i64 0,.int .i64 0,.slice none 0 0,.slice none 0 0,.int .i64 0,.int .i64 0,.int .i64 0,.slice none 0 0,.slice none 0 0,.int .i64 0]:List Value).toArray,.int .i64 z])):=by
 refine aj.of (n:=7) [.func (.func f) first cap] rfl func29 rfl rfl rfl fun g hg R hR=>?_;refine S.seq<|S.region rfl<|O.aD (.p rfl) (.alloc (cs:=[.int .u8 0,.int .i64 0,.int .i64 0,.string ⟨#[]⟩,.string ⟨#[]⟩,.int .i64 0,.int .i64 0,.int .i64 0,.slice none 0 0,.slice none 0 0,.slice none 0 0,.slice none 0 0,.slice none 0 0,.int .u8 0,.slice none 0 0,.slice none 0 0,.slice none 0 0,.slice none 0 0,.int .i64 0,.int .i64 0,.int .i64 0,.slice none 0 0,.slice none 0 0,.int .i64 0,.int .i64 0,.int .i64 0,.slice none 0 0,.slice none 0 0,.int .i64 0]) zeroValue41 rfl) ?_;rintro _ _ ⟨b2,rfl,rfl⟩;refine O.aD (.p rfl) (.alloc (cs:=[.int .i64 0]) zeroValue39 rfl) ?_;rintro _ _ ⟨b3,rfl,rfl⟩;refine U 4 ?_;refine O.defer rfl rfl rfl rfl<|U 4 ?_;refine O.zE (.p rfl) rfl hc rfl rfl (con.sub hg) (fun a ch au w hF hX hW=>by (obtain ⟨z,rfl,hx,rfl⟩:=hX;exact rZ results29 hF rfl rfl aH af (adh rfl (hW.jr aC) fun w hw=>ax.end_ hR hw ⟨_,.inr ⟨z,hx,rfl,rfl⟩,aC⟩))) ?_;rintro v6 _ om;obtain ⟨xs,rfl,hxl,hone⟩:=oW _ _ om;refine O.perm (List.perm_append_comm) ?_;simp only [List.cons_append,List.nil_append];refine O.eg rfl (.jM (news:=xs) (by rw [hxl];kernel_rfl) rfl rfl yY hone an (by rw [hxl];decide))<|U 1 ?_
 refine O.nil<|S.cH (b:=b2) (cs' :=xs) an (by simp [hxl]) ?_;refine S.r6 fun a w hf hd hw=>?_;exact rZ results29 hf rfl rfl aH af (adi hxl (hw.jr aC) fun w hw=>ax.end_ hR hw ⟨_,.inl ⟨_,om,rfl⟩,aC⟩)
abbrev BI:Type:=Nat→Option Addr × Nat
abbrev ob (f:aP) (A:BI):List Value:=[aT f.1,.int .i64 f.2.1,.int .i64 f.2.2.1,.string (str f.2.2.2.1),.string (str f.2.2.2.2.1),.int .i64 f.2.2.2.2.2.1.1,.int .i64 f.2.2.2.2.2.1.2.1,.int .i64 f.2.2.2.2.2.1.2.2.1,.slice (A 8).1 f.2.2.2.2.2.1.2.2.2.1.length (A 8).2,.slice (A 9).1 f.2.2.2.2.2.1.2.2.2.2.1.length (A 9).2,.slice (A 10).1 f.2.2.2.2.2.2.1.length (A 10).2,.slice (A 11).1 f.2.2.2.2.2.2.2.1.1.length (A 11).2,.slice (A 12).1 f.2.2.2.2.2.2.2.1.2.1.length (A 12).2,aT f.2.2.2.2.2.2.2.2.1.1,.slice (A 14).1 f.2.2.2.2.2.2.2.2.1.2.1.length (A 14).2,.slice (A 15).1 f.2.2.2.2.2.2.2.2.1.2.2.1.length (A 15).2,.slice (A 16).1 f.2.2.2.2.2.2.2.2.1.2.2.2.1.length (A 16).2,.slice (A 17).1 f.2.2.2.2.2.2.2.2.2.1.length (A 17).2,.int .i64 f.2.2.2.2.2.2.2.2.2.2.1.1.1,.int .i64 f.2.2.2.2.2.2.2.2.2.2.1.1.2.1,.int .i64 f.2.2.2.2.2.2.2.2.2.2.1.1.2.2.1,.slice (A 21).1 f.2.2.2.2.2.2.2.2.2.2.1.1.2.2.2.1.length (A 21).2,.slice (A 22).1 f.2.2.2.2.2.2.2.2.2.2.1.1.2.2.2.2.1.length (A 22).2,.int .i64 f.2.2.2.2.2.2.2.2.2.2.1.2.1.1,.int .i64 f.2.2.2.2.2.2.2.2.2.2.1.2.1.2.1,.int .i64 f.2.2.2.2.2.2.2.2.2.2.1.2.1.2.2.1,.slice (A 26).1 f.2.2.2.2.2.2.2.2.2.2.1.2.1.2.2.2.1.length (A 26).2,.slice (A 27).1 f.2.2.2.2.2.2.2.2.2.2.1.2.1.2.2.2.2.1.length (A 27).2,.int .i64 f.2.2.2.2.2.2.2.2.2.2.2.1]
abbrev L9 (f:aP) (A:BI):List az:=[ak ag.u8 5 (.slice (A 8).1 f.2.2.2.2.2.1.2.2.2.1.length (A 8).2) f.2.2.2.2.2.1.2.2.2.1,ak ag.u8 5 (.slice (A 9).1 f.2.2.2.2.2.1.2.2.2.2.1.length (A 9).2) f.2.2.2.2.2.1.2.2.2.2.1,ak ag.u8 5 (.slice (A 10).1 f.2.2.2.2.2.2.1.length (A 10).2) f.2.2.2.2.2.2.1,kW (aQ.row ag.u8 aX.u8) 22 (.slice (A 11).1 f.2.2.2.2.2.2.2.1.1.length (A 11).2) f.2.2.2.2.2.2.2.1.1,kW (vD aX) 122 (.slice (A 12).1 f.2.2.2.2.2.2.2.1.2.1.length (A 12).2) f.2.2.2.2.2.2.2.1.2.1,ak ag.u8 5 (.slice (A 14).1 f.2.2.2.2.2.2.2.2.1.2.1.length (A 14).2) f.2.2.2.2.2.2.2.2.1.2.1,ak ag.u8 5 (.slice (A 15).1 f.2.2.2.2.2.2.2.2.1.2.2.1.length (A 15).2) f.2.2.2.2.2.2.2.2.1.2.2.1,kW (vw aX) 120 (.slice (A 16).1 f.2.2.2.2.2.2.2.2.1.2.2.2.1.length (A 16).2) f.2.2.2.2.2.2.2.2.1.2.2.2.1,kW (vA aX) 118 (.slice (A 17).1 f.2.2.2.2.2.2.2.2.2.1.length (A 17).2) f.2.2.2.2.2.2.2.2.2.1,ak ag.u8 5 (.slice (A 21).1 f.2.2.2.2.2.2.2.2.2.2.1.1.2.2.2.1.length (A 21).2) f.2.2.2.2.2.2.2.2.2.2.1.1.2.2.2.1,ak ag.u8 5 (.slice (A 22).1 f.2.2.2.2.2.2.2.2.2.2.1.1.2.2.2.2.1.length (A 22).2) f.2.2.2.2.2.2.2.2.2.2.1.1.2.2.2.2.1,ak ag.u8 5 (.slice (A 26).1 f.2.2.2.2.2.2.2.2.2.2.1.2.1.2.2.2.1.length (A 26).2) f.2.2.2.2.2.2.2.2.2.2.1.2.1.2.2.2.1,ak ag.u8 5 (.slice (A 27).1 f.2.2.2.2.2.2.2.2.2.2.1.2.1.2.2.2.2.1.length (A 27).2) f.2.2.2.2.2.2.2.2.2.2.1.2.1.2.2.2.2.1]
def KF (f:aP):Prop:=aS f.2.1∧aS f.2.2.1∧aS f.2.2.2.2.2.1.1∧aS f.2.2.2.2.2.1.2.1∧aS f.2.2.2.2.2.1.2.2.1∧aS f.2.2.2.2.2.2.2.2.2.2.1.1.1∧aS f.2.2.2.2.2.2.2.2.2.2.1.1.2.1∧aS f.2.2.2.2.2.2.2.2.2.2.1.1.2.2.1∧aS f.2.2.2.2.2.2.2.2.2.2.1.2.1.1∧aS f.2.2.2.2.2.2.2.2.2.2.1.2.1.2.1∧aS f.2.2.2.2.2.2.2.2.2.2.1.2.1.2.2.1∧aS f.2.2.2.2.2.2.2.2.2.2.2.1∧f.2.2.2.1.length≤9223372036854775807∧f.2.2.2.2.1.length≤9223372036854775807
theorem TI {f:aP} {A:BI} {m:Fr} (hI:KF f) (h:Sat (L9 f A) m):(ql aX).own (ob f A) f m:=by
 obtain ⟨i1,i2,i5,i6,i7,i18,i19,i20,i23,i24,i25,i28,i3,i4⟩:=hI;exact ql.mk i1 i2 i3 i4 i5 i6 i7 i18 i19 i20 i23 i24 i25 i28 h
theorem TE {f:aP} {A:BI} {X Y:az} {w:World} {g:bp} (hI:KF f) (h:ax w g (X::Y::L9 f A)):ax w g [X,Y,(ql aX).own (ob f A) f] :=
 h.imp fun _ x=>Sat.g9 (fun _ y=>y) (fun _ y=>Sat.g9 (fun _ z=>z) (fun m z=>⟨m,Fr.emp,Fr.e7 (Fr.eA _),Fr.bH _,Fr.dY _,TI hI z,trivial⟩) y) x
theorem TF {w:World} {g:bp} {aa:List az} (h:ax w g aa):ax w g (ak ag.u8 5 (.slice none 0 0) []::ak ag.u8 5 (.slice none 0 0) []::ak ag.u8 5 (.slice none 0 0) []::kW (aQ.row ag.u8 aX.u8) 22 (.slice none 0 0) []::kW (vD aX) 122 (.slice none 0 0) []::ak ag.u8 5 (.slice none 0 0) []::ak ag.u8 5 (.slice none 0 0) []::kW (vw aX) 120 (.slice none 0 0) []::kW (vA aX) 118 (.slice none 0 0) []::ak ag.u8 5 (.slice none 0 0) []::ak ag.u8 5 (.slice none 0 0) []::ak ag.u8 5 (.slice none 0 0) []::ak ag.u8 5 (.slice none 0 0) []::aa) :=
 h.imp fun _ x=>q9 (q9 (q9 (DZ (DZ (q9 (q9 (DZ (DZ (q9 (q9 (q9 (q9 (x)))))))))))))
theorem rW:aS 0:=RS.cW
def BK (k:UInt8) (n:Int) (s:RS):Prop:=∀ (r:Fr) (b rd:Nat),aj prog (tJ k) #[.pointer (some ⟨b,0,none⟩)] r [obj b 129 [aT k,.int .i64 n,.int .i64 0,.string ⟨#[]⟩,.string ⟨#[]⟩,.int .i64 0,.int .i64 0,.int .i64 0,.slice none 0 0,.slice none 0 0,.slice none 0 0,.slice none 0 0,.slice none 0 0,.int .u8 0,.slice none 0 0,.slice none 0 0,.slice none 0 0,.slice none 0 0,.int .i64 0,.int .i64 0,.int .i64 0,.slice none 0 0,.slice none 0 0,.int .i64 0,.int .i64 0,.int .i64 0,.slice none 0 0,.slice none 0 0,.int .i64 0,.pointer (some ⟨rd,0,none⟩)],l7 196 rd s]
  (dg (fun v aa=>∃ p A,kL k n s=some p∧v=.tuple #[]∧aa=[obj b 129 (ob p.1 A++[.pointer (some ⟨rd,0,none⟩)]),l7 196 rd p.2,(ql aX).own (ob p.1 A) p.1]) (fun ch aa=>kL k n s=none∧ch=fJ 39 4∧aa=[]))
theorem X9 {n:Int} {s:RS} (hn:aS n):BK 1 n s:=fun r b rd=>by
 have hz:([]:List UInt8).length≤9223372036854775807:=by decide
 have wn:=RS.IU s;rw [show tJ 1=145 from rfl];exact aj.post (TT) fun e au h w g hw=>by
  cases e with
  |returned v =>
   obtain ⟨rfl,rfl⟩:=h;exact ⟨_,⟨((1,n,s.num.1,[],[],dL,[],en,ek,[],ef,0,()),s.num.2),fun _=>(none,0),by unfold kL;rw [if_pos rfl],rfl,rfl⟩,TE ⟨hn,wn,rW,rW,rW,rW,rW,rW,rW,rW,rW,rW,hz,hz⟩ ((TF hw).jr aC)⟩
  |panicked _=>exact h.elim
  |outgrown=>exact h.elim
theorem Tt {r:Fr} {va:Value} {bs:List UInt8} (ha:av ag.u8 r va bs) (hl:bs.length≤262144) (tn:jW (RS.mk true bs).byte.1→BK (RS.mk true bs).byte.1 (RS.mk true bs).byte.2.num.1 (RS.mk true bs).byte.2.num.2):aj prog 32 #[va] r []
  (dg (fun v aa=>∃ p A,oa bs=some p∧p.2.done=true∧v=.agg (ob p.1 A).toArray∧aa=[(ql aX).own (ob p.1 A) p.1]) (fun ch aa=>(¬ ∃ p,oa bs=some p∧p.2.done=true)∧ch=fJ 39 4∧aa=[])):=by
 obtain ⟨E0,FA,rfl⟩:=ha.shape;refine aj.o func32 fun g hg R hR=>?_;have ha:=ha.mono hg;have uQ:=RS.Lg (RS.mk true bs);have hk2:=RS.On (RS.mk true bs).byte.2;have MK:(RS.mk true bs).rest.length=bs.length:=rfl;have hls:(RS.mk true bs).byte.2.num.2.rest.length≤262144:=by omega
 have hni:=RS.IU (RS.mk true bs).byte.2;have hrd:oa bs=kL (RS.mk true bs).byte.1 (RS.mk true bs).byte.2.num.1 (RS.mk true bs).byte.2.num.2:=rfl;refine S.seq<|S.region rfl<|O.aD (.p rfl) (.alloc (cs:=[.int .u8 0,.int .i64 0,.int .i64 0,.string ⟨#[]⟩,.string ⟨#[]⟩,.int .i64 0,.int .i64 0,.int .i64 0,.slice none 0 0,.slice none 0 0,.slice none 0 0,.slice none 0 0,.slice none 0 0,.int .u8 0,.slice none 0 0,.slice none 0 0,.slice none 0 0,.slice none 0 0,.int .i64 0,.int .i64 0,.int .i64 0,.slice none 0 0,.slice none 0 0,.int .i64 0,.int .i64 0,.int .i64 0,.slice none 0 0,.slice none 0 0,.int .i64 0]) zeroValue41 rfl) ?_;rintro _ _ ⟨b2,rfl,rfl⟩;refine U 4 ?_;refine O.aN (.p rfl) rfl af rfl rfl (abl ha ai) ?_;rintro _ _ ⟨gF,rfl,rfl⟩;refine O.op (.p rfl) (.build (cs:=[_,_,_,_,_,_,_,_,_,_,_,_,_,_,_,_,_,_,_,_,_,_,_,_,_,_,_,_,_,_]) underlying129 rfl rfl rfl rfl rfl)<|O.aD (.p rfl) (.box (cs:=[_,_,_,_,_,_,_,_,_,_,_,_,_,_,_,_,_,_,_,_,_,_,_,_,_,_,_,_,_,_]) rfl rfl) ?_;rintro _ _ ⟨nj,rfl,rfl⟩;refine U 3 ?_
 refine S.cH (b:=nj) (cs' :=[.int .u8 0,.int .i64 0,.int .i64 0,.string ⟨#[]⟩,.string ⟨#[]⟩,.int .i64 0,.int .i64 0,.int .i64 0,.slice none 0 0,.slice none 0 0,.slice none 0 0,.slice none 0 0,.slice none 0 0,.int .u8 0,.slice none 0 0,.slice none 0 0,.slice none 0 0,.slice none 0 0,.int .i64 0,.int .i64 0,.int .i64 0,.slice none 0 0,.slice none 0 0,.int .i64 0,.int .i64 0,.int .i64 0,.slice none 0 0,.slice none 0 0,.int .i64 0,.pointer (some ⟨gF,0,none⟩)]) an rfl ?_;refine U 6 ?_;refine O.ug (.p rfl) rfl af rfl rfl an abk<|U 12 ?_;refine O.ug (.p rfl) rfl af rfl rfl an OY<|U 4 ?_;refine O.nil<|S.seq<|S.cH (b:=nj) (cs' :=[aT (RS.mk true bs).byte.1,.int .i64 (RS.mk true bs).byte.2.num.1,.int .i64 0,.string ⟨#[]⟩,.string ⟨#[]⟩,.int .i64 0,.int .i64 0,.int .i64 0,.slice none 0 0,.slice none 0 0,.slice none 0 0,.slice none 0 0,.slice none 0 0,.int .u8 0,.slice none 0 0,.slice none 0 0,.slice none 0 0,.slice none 0 0,.int .i64 0,.int .i64 0,.int .i64 0,.slice none 0 0,.slice none 0 0,.int .i64 0,.int .i64 0,.int .i64 0,.slice none 0 0,.slice none 0 0,.int .i64 0,.pointer (some ⟨gF,0,none⟩)]) an rfl ?_;generalize (RS.mk true bs).byte.1=k at hrd tn ⊢;generalize (RS.mk true bs).byte.2.num.1=n at hrd hni tn ⊢;generalize (RS.mk true bs).byte.2.num.2=s at hrd hls tn ⊢;clear uQ hk2 MK;have oh:=hg;have oe:=hR
 try have Ab:=ha
 refine S.oc (B:=obj nj 129 [aT k,.int .i64 n,.int .i64 0,.string ⟨#[]⟩,.string ⟨#[]⟩,.int .i64 0,.int .i64 0,.int .i64 0,.slice none 0 0,.slice none 0 0,.slice none 0 0,.slice none 0 0,.slice none 0 0,.int .u8 0,.slice none 0 0,.slice none 0 0,.slice none 0 0,.slice none 0 0,.int .i64 0,.int .i64 0,.int .i64 0,.slice none 0 0,.slice none 0 0,.int .i64 0,.int .i64 0,.int .i64 0,.slice none 0 0,.slice none 0 0,.int .i64 0,.pointer (some ⟨gF,0,none⟩)]) an fun go gm ⟨Dk,hmo,tD⟩ og=>?_;replace hg:=bf hg gm;replace hR:=n6 hR og
 try replace ha:=ha.mono gm
 have k9:=(qY hmo).mono tD
 by_cases hin:jW k
 ·have hok:=X_ hin
  refine S.aY (L:=[1,2,3,4,5,0,6,7,8,9,10,11,12]) F.mixed af ?_;refine U 5 ?_;refine ah.aN (.p rfl) af rfl af rfl rfl (AJ) ?_;rintro Qd _ ⟨Rc,rH,YT,rfl,rfl,Ak⟩;refine ah.vJ (.p rfl) rfl af (fun _=>.o6 underlying137 (eI underlying25) zeroValue135 rfl rfl an) ?_;refine ah.q 2 rfl<|ah.slot 36 (v' :=o5 (mv k) (tJ k) (mu k)) rfl (by simp [Ak,AI hin]) ?_;refine ah.q 1 rfl<|ah.sT 37 rfl (by simp [Ak,AI hin]) ?_;refine .lazy rfl af rfl fun b4=>?_;refine ah.jM rfl af af rfl rfl rfl rfl an oL<|U 3 ?_;refine S.back og ?_;replace hg:=oh;replace hR:=oe
  try replace ha:=Ab
  clear oh oe;refine S.cH (b:=b4) (cs' :=[.func (.func (mv k)) #[] #[],.func (.func (tJ k)) #[] #[],.func (.func (mu k)) #[] #[]]) an rfl ?_;refine U 2 ?_;refine O.cV (.p rfl) rfl af rfl rfl (fD _) (fun ch au w hX hW=>by (exact absurd hX.1 aH)) ?_;rintro _ _ ⟨Mx,rfl,rfl⟩;refine U 5 ?_;refine O.q 1 rfl<|O.RB (.p rfl) rfl hok rfl rfl ct (tn hin _ _ _) (fun ch au w hX hW=>by (obtain ⟨hb,rfl,rfl⟩:=hX;exact hR _ _ w ⟨fun ⟨q,hq,_⟩=>(by rw [hrd,hb] at hq;cases hq),rfl,rfl⟩ hW.fU)) ?_;rintro _ _ ⟨p,A,hp,rfl,rfl⟩
  refine O.nil<|S.seq<|S.cH (b:=nj) (cs' :=[aT p.1.1,.int .i64 p.1.2.1,.int .i64 p.1.2.2.1,.string (str p.1.2.2.2.1),.string (str p.1.2.2.2.2.1),.int .i64 p.1.2.2.2.2.2.1.1,.int .i64 p.1.2.2.2.2.2.1.2.1,.int .i64 p.1.2.2.2.2.2.1.2.2.1,.slice (A 8).1 p.1.2.2.2.2.2.1.2.2.2.1.length (A 8).2,.slice (A 9).1 p.1.2.2.2.2.2.1.2.2.2.2.1.length (A 9).2,.slice (A 10).1 p.1.2.2.2.2.2.2.1.length (A 10).2,.slice (A 11).1 p.1.2.2.2.2.2.2.2.1.1.length (A 11).2,.slice (A 12).1 p.1.2.2.2.2.2.2.2.1.2.1.length (A 12).2,aT p.1.2.2.2.2.2.2.2.2.1.1,.slice (A 14).1 p.1.2.2.2.2.2.2.2.2.1.2.1.length (A 14).2,.slice (A 15).1 p.1.2.2.2.2.2.2.2.2.1.2.2.1.length (A 15).2,.slice (A 16).1 p.1.2.2.2.2.2.2.2.2.1.2.2.2.1.length (A 16).2,.slice (A 17).1 p.1.2.2.2.2.2.2.2.2.2.1.length (A 17).2,.int .i64 p.1.2.2.2.2.2.2.2.2.2.2.1.1.1,.int .i64 p.1.2.2.2.2.2.2.2.2.2.2.1.1.2.1,.int .i64 p.1.2.2.2.2.2.2.2.2.2.2.1.1.2.2.1,.slice (A 21).1 p.1.2.2.2.2.2.2.2.2.2.2.1.1.2.2.2.1.length (A 21).2,.slice (A 22).1 p.1.2.2.2.2.2.2.2.2.2.2.1.1.2.2.2.2.1.length (A 22).2,.int .i64 p.1.2.2.2.2.2.2.2.2.2.2.1.2.1.1,.int .i64 p.1.2.2.2.2.2.2.2.2.2.2.1.2.1.2.1,.int .i64 p.1.2.2.2.2.2.2.2.2.2.2.1.2.1.2.2.1,.slice (A 26).1 p.1.2.2.2.2.2.2.2.2.2.2.1.2.1.2.2.2.1.length (A 26).2,.slice (A 27).1 p.1.2.2.2.2.2.2.2.2.2.2.1.2.1.2.2.2.2.1.length (A 27).2,.int .i64 p.1.2.2.2.2.2.2.2.2.2.2.2.1,.pointer (some ⟨gF,0,none⟩)]) an rfl ?_
  cases hd:p.2.done with
  |true =>
   refine U 5 ?_;refine O.ug (.p rfl) rfl af rfl rfl an OX ?_;refine O.sT 48 rfl (by exact hd) ?_;refine O.cV (.p rfl) rfl af rfl rfl (fD _) (fun ch au w hX hW=>by (exact absurd hX.1 aH)) ?_;rintro _ _ ⟨My,rfl,rfl⟩;refine U 8 ?_
   refine O.nil<|S.cH (b:=b2) (cs' :=[aT p.1.1,.int .i64 p.1.2.1,.int .i64 p.1.2.2.1,.string (str p.1.2.2.2.1),.string (str p.1.2.2.2.2.1),.int .i64 p.1.2.2.2.2.2.1.1,.int .i64 p.1.2.2.2.2.2.1.2.1,.int .i64 p.1.2.2.2.2.2.1.2.2.1,.slice (A 8).1 p.1.2.2.2.2.2.1.2.2.2.1.length (A 8).2,.slice (A 9).1 p.1.2.2.2.2.2.1.2.2.2.2.1.length (A 9).2,.slice (A 10).1 p.1.2.2.2.2.2.2.1.length (A 10).2,.slice (A 11).1 p.1.2.2.2.2.2.2.2.1.1.length (A 11).2,.slice (A 12).1 p.1.2.2.2.2.2.2.2.1.2.1.length (A 12).2,aT p.1.2.2.2.2.2.2.2.2.1.1,.slice (A 14).1 p.1.2.2.2.2.2.2.2.2.1.2.1.length (A 14).2,.slice (A 15).1 p.1.2.2.2.2.2.2.2.2.1.2.2.1.length (A 15).2,.slice (A 16).1 p.1.2.2.2.2.2.2.2.2.1.2.2.2.1.length (A 16).2,.slice (A 17).1 p.1.2.2.2.2.2.2.2.2.2.1.length (A 17).2,.int .i64 p.1.2.2.2.2.2.2.2.2.2.2.1.1.1,.int .i64 p.1.2.2.2.2.2.2.2.2.2.2.1.1.2.1,.int .i64 p.1.2.2.2.2.2.2.2.2.2.2.1.1.2.2.1,.slice (A 21).1 p.1.2.2.2.2.2.2.2.2.2.2.1.1.2.2.2.1.length (A 21).2,.slice (A 22).1 p.1.2.2.2.2.2.2.2.2.2.2.1.1.2.2.2.2.1.length (A 22).2,.int .i64 p.1.2.2.2.2.2.2.2.2.2.2.1.2.1.1,.int .i64 p.1.2.2.2.2.2.2.2.2.2.2.1.2.1.2.1,.int .i64 p.1.2.2.2.2.2.2.2.2.2.2.1.2.1.2.2.1,.slice (A 26).1 p.1.2.2.2.2.2.2.2.2.2.2.1.2.1.2.2.2.1.length (A 26).2,.slice (A 27).1 p.1.2.2.2.2.2.2.2.2.2.2.1.2.1.2.2.2.2.1.length (A 27).2,.int .i64 p.1.2.2.2.2.2.2.2.2.2.2.2.1]) an rfl ?_;refine S.mW results32 isAgg41 af rfl an fun w hw=>ax.end_ hR hw ?_
   exact pk ⟨p,A,hrd.trans hp,hd,rfl,rfl⟩
  |false =>
   have hno:(¬ ∃ p,oa bs=some p∧p.2.done=true):=fun ⟨q,hq,MW⟩=>by rw [hrd,hp] at hq;obtain rfl:=Option.some.inj hq;rw [hd] at MW;cases MW
   refine U 5 ?_;refine O.ug (.p rfl) rfl af rfl rfl an OX ?_;refine O.aB 48 rfl (by exact hd) ?_;refine O.cV (.p rfl) rfl af rfl rfl (fD _) (fun ch au w hX hW=>by (obtain ⟨hb,rfl,rfl⟩:=hX;exact hR _ _ w ⟨hno,rfl,rfl⟩ hW.fU)) ?_;rintro _ _ ⟨My,rfl,rfl⟩;exact absurd My aH
 ·have hno:(¬ ∃ p,oa bs=some p∧p.2.done=true):=fun ⟨q,hq,_⟩=>hin (L8 (hrd.symm.trans hq)).1
  refine S.aY (L:=[1,2,3,4,5,0,6,7,8,9,10,11,12]) F.mixed af ?_;refine U 5 ?_;refine ah.aN (.p rfl) af rfl af rfl rfl (AJ) ?_;rintro Qd _ ⟨Rc,rH,YT,rfl,rfl,Ak⟩;refine ah.vJ (.p rfl) rfl af (fun _=>.o6 underlying137 (eI underlying25) zeroValue135 rfl rfl an) ?_;refine ah.q 2 rfl<|ah.slot 36 (v' :=.agg #[.nilFunc,.nilFunc,.nilFunc]) rfl (by simp [Ak,Da hin]) ?_;refine ah.q 1 rfl<|ah.aB 37 rfl (by simp [Ak,Da hin]) ?_;refine .lazy rfl af rfl fun b4=>?_;refine ah.jM rfl af af rfl rfl rfl rfl an oL<|U 5 ?_;refine O.cV (.p rfl) rfl af rfl rfl (fD _) (fun ch au w hX hW=>by (obtain ⟨hb,rfl,rfl⟩:=hX;exact hR _ _ w ⟨hno,rfl,rfl⟩ hW.fU)) ?_;rintro _ _ ⟨Mx,rfl,rfl⟩;exact absurd Mx aH
noncomputable def mg (b:List UInt8):Option aP:=if b.length≤262144 then oT b else none
def rO (b:List UInt8):Int:=if b.length≤262144 then 4 else 3
theorem Tw {b:List UInt8} (h:¬ ∃ p,oa b=some p∧p.2.done=true):oT b=none:=by
 unfold oT
 cases e:oa b with
 |none=>rfl
 |some p=>rw [Option.bind_some,if_neg fun w=>h ⟨p,e,w.1⟩]
theorem Tx {b:List UInt8} {p:aP × RS} (h:oa b=some p) (hd:p.2.done=true) (h1:Sp.kindOk p.1∧0≤p.1.2.1∧p.1.2.1≤1073741824) (h2:di p.1=b):oT b=some p.1:=by
 unfold oT;rw [h,Option.bind_some,if_pos ⟨hd,⟨h1,(L8 (show kL _ _ _=some p from h)).2.2.2⟩,h2⟩]
theorem L7 {b:List UInt8} {p:aP × RS} (h:oa b=some p) (hn:¬ (g_ p.1∧di p.1=b)):oT b=none:=by
 unfold oT;rw [h,Option.bind_some,if_neg fun w=>hn w.2]
def BJ (bs:List UInt8) (v:Value) (aa:List az):Prop:=∃ f A,mg bs=some f∧v=.agg (ob f A).toArray∧aa=[(ql aX).own (ob f A) f]
theorem LM {r:Fr} {pp:Nat} {va:Value} {bs:List UInt8} (hp:cg r ⟨pp,0,none⟩ [va]) (ha:av ag.u8 r va bs) (pP:bs.length≤1000000000) (tn:bs.length≤262144→jW (RS.mk true bs).byte.1→BK (RS.mk true bs).byte.1 (RS.mk true bs).byte.2.num.1 (RS.mk true bs).byte.2.num.2) (aU:cg r ⟨0,0,none⟩ (cz fq)) (hK:cg r ⟨1,0,none⟩ (cz gW)) :
  aj prog 30 (#[]++#[]++#[.pointer (some ⟨pp,0,none⟩)]) r [] (dg (fun v aa=>BJ bs v aa) (fun ch aa=>∃ z,ch=fJ 39 z∧(mg bs=none∧z=rO bs)∧aa=[])):=by
 obtain ⟨E0,FA,rfl⟩:=ha.shape;refine aj.of (n:=15) [.pointer (some ⟨pp,0,none⟩)] rfl func30 rfl rfl rfl fun g hg R hR=>?_;have hp:=hp.mono hg;have ha:=ha.mono hg;have aU:=aU.mono hg;have hK:=hK.mono hg
 by_cases hlen:bs.length≤262144
 ·have hE:rO bs=4:=if_pos hlen
  have aR:mg bs=oT bs:=if_pos hlen;refine S.seq<|S.region rfl<|O.aD (.p rfl) (.alloc (cs:=[.int .u8 0,.int .i64 0,.int .i64 0,.string ⟨#[]⟩,.string ⟨#[]⟩,.int .i64 0,.int .i64 0,.int .i64 0,.slice none 0 0,.slice none 0 0,.slice none 0 0,.slice none 0 0,.slice none 0 0,.int .u8 0,.slice none 0 0,.slice none 0 0,.slice none 0 0,.slice none 0 0,.int .i64 0,.int .i64 0,.int .i64 0,.slice none 0 0,.slice none 0 0,.int .i64 0,.int .i64 0,.int .i64 0,.slice none 0 0,.slice none 0 0,.int .i64 0]) zeroValue41 rfl) ?_;rintro _ _ ⟨b1,rfl,rfl⟩;refine U 6 ?_;refine O.sT 5 rfl (by exact zdt ai) ?_;refine O.cV (.p rfl) rfl af rfl rfl (zS _ _) (fun ch au w hX hW=>by (exact absurd hX.1 aH)) ?_;rintro _ _ ⟨vT,rfl,rfl⟩;refine U 4 ?_;refine O.cV (.p rfl) rfl af rfl rfl ((Tt ha hlen (tn hlen))) (fun ch au w hX hW=>by (obtain ⟨hb,rfl,rfl⟩:=hX;exact hR _ _ w ⟨4,rfl,⟨by rw [aR];exact Tw hb,hE.symm⟩,rfl⟩ hW.fU)) ?_;rintro _ _ ⟨p,A,hrd,hd,rfl,rfl⟩
  refine O.aD (.p rfl) (.alloc (cs:=[.int .u8 0,.int .i64 0,.int .i64 0,.string ⟨#[]⟩,.string ⟨#[]⟩,.int .i64 0,.int .i64 0,.int .i64 0,.slice none 0 0,.slice none 0 0,.slice none 0 0,.slice none 0 0,.slice none 0 0,.int .u8 0,.slice none 0 0,.slice none 0 0,.slice none 0 0,.slice none 0 0,.int .i64 0,.int .i64 0,.int .i64 0,.slice none 0 0,.slice none 0 0,.int .i64 0,.int .i64 0,.int .i64 0,.slice none 0 0,.slice none 0 0,.int .i64 0]) zeroValue41 rfl) ?_;rintro _ _ ⟨b2,rfl,rfl⟩;refine U 3 ?_;have hsz:=TD hlen hrd
  refine S.cH (b:=b2) (cs' :=[aT p.1.1,.int .i64 p.1.2.1,.int .i64 p.1.2.2.1,.string (str p.1.2.2.2.1),.string (str p.1.2.2.2.2.1),.int .i64 p.1.2.2.2.2.2.1.1,.int .i64 p.1.2.2.2.2.2.1.2.1,.int .i64 p.1.2.2.2.2.2.1.2.2.1,.slice (A 8).1 p.1.2.2.2.2.2.1.2.2.2.1.length (A 8).2,.slice (A 9).1 p.1.2.2.2.2.2.1.2.2.2.2.1.length (A 9).2,.slice (A 10).1 p.1.2.2.2.2.2.2.1.length (A 10).2,.slice (A 11).1 p.1.2.2.2.2.2.2.2.1.1.length (A 11).2,.slice (A 12).1 p.1.2.2.2.2.2.2.2.1.2.1.length (A 12).2,aT p.1.2.2.2.2.2.2.2.2.1.1,.slice (A 14).1 p.1.2.2.2.2.2.2.2.2.1.2.1.length (A 14).2,.slice (A 15).1 p.1.2.2.2.2.2.2.2.2.1.2.2.1.length (A 15).2,.slice (A 16).1 p.1.2.2.2.2.2.2.2.2.1.2.2.2.1.length (A 16).2,.slice (A 17).1 p.1.2.2.2.2.2.2.2.2.2.1.length (A 17).2,.int .i64 p.1.2.2.2.2.2.2.2.2.2.2.1.1.1,.int .i64 p.1.2.2.2.2.2.2.2.2.2.2.1.1.2.1,.int .i64 p.1.2.2.2.2.2.2.2.2.2.2.1.1.2.2.1,.slice (A 21).1 p.1.2.2.2.2.2.2.2.2.2.2.1.1.2.2.2.1.length (A 21).2,.slice (A 22).1 p.1.2.2.2.2.2.2.2.2.2.2.1.1.2.2.2.2.1.length (A 22).2,.int .i64 p.1.2.2.2.2.2.2.2.2.2.2.1.2.1.1,.int .i64 p.1.2.2.2.2.2.2.2.2.2.2.1.2.1.2.1,.int .i64 p.1.2.2.2.2.2.2.2.2.2.2.1.2.1.2.2.1,.slice (A 26).1 p.1.2.2.2.2.2.2.2.2.2.2.1.2.1.2.2.2.1.length (A 26).2,.slice (A 27).1 p.1.2.2.2.2.2.2.2.2.2.2.1.2.1.2.2.2.2.1.length (A 27).2,.int .i64 p.1.2.2.2.2.2.2.2.2.2.2.2.1]) an rfl ?_;refine S.cy an fun g hs hm h2=>?_;replace hg:=bf hg hs;replace hR:=a_ hR hm
  try replace hp:=hp.mono hs
  try replace ha:=ha.mono hs
  try replace aU:=aU.mono hs
  try replace hK:=hK.mono hs
  clear hs hm;have nA:=hg;have nw:=hR
  try have VZ:=hp
  try have uN:=ha
  try have Ui:=aU
  try have Gj:=hK
  try have T5:=h2
  refine S.oc (B:=(ql aX).own (ob p.1 A) p.1) an fun vP ff ⟨AO,qL,qO⟩ mN=>?_;replace hg:=bf hg ff;replace hR:=n6 hR mN
  try replace hp:=hp.mono ff
  try replace ha:=ha.mono ff
  try replace aU:=aU.mono ff
  try replace hK:=hK.mono ff
  try replace h2:=h2.mono ff
  have HG:ck.rel vP.h (ob p.1 A) p.1:=ck.mono qO ((ql aX).rel qL)
  by_cases q1:Sp.kindOk p.1∧0≤p.1.2.1∧p.1.2.1≤1073741824
  ·have M4:=FX q1.1 hsz
   by_cases bg:di p.1=bs
   ·have lg:mg bs=some p.1:=aR.trans (Tx hrd hd q1 bg)
    refine S.aY (L:=[0,2,1,3,4]) F.mixed af ?_;refine .quiet (.p rfl) rfl (fun _=>.aJ isAgg41 af rfl h2) ?_;refine U 1 ?_;refine ah.cV (.p rfl) af rfl af rfl rfl ((w5 HG hsz aU hK)) (fun ch au w hX hW=>by (exact absurd q1 hX.1)) ?_;rintro _ _ ⟨uO,c6,bB,rfl,rfl⟩;refine ah.dh (.p rfl) af rfl af rfl rfl (bs:=[ak ag.u8 5 (.slice c6 (di p.1).length bB) (di p.1)]) ct (fun m hm ny =>Lc (hm.arr.right ny) ha.left) ?_;rintro _ _ ⟨rfl,rfl⟩;refine ah.sT 12 rfl (by exact zdt bg) ?_;refine ah.cV (.p rfl) af rfl af rfl rfl (fD _) (fun ch au w hX hW=>by (exact absurd hX.1 aH)) ?_;rintro _ _ ⟨Mu,rfl,rfl⟩;refine bt.nil<|S.seq<|S.back mN ?_;replace hg:=nA;replace hR:=nw
    try replace hp:=VZ
    try replace ha:=uN
    try replace aU:=Ui
    try replace hK:=Gj
    try replace h2:=T5
    clear nA nw;refine S.region rfl<|O.op (.p rfl) (.aJ isAgg41 af rfl h2) ?_;refine U 1 ?_;refine O.nil<|S.cH (b:=b1) (cs' :=[aT p.1.1,.int .i64 p.1.2.1,.int .i64 p.1.2.2.1,.string (str p.1.2.2.2.1),.string (str p.1.2.2.2.2.1),.int .i64 p.1.2.2.2.2.2.1.1,.int .i64 p.1.2.2.2.2.2.1.2.1,.int .i64 p.1.2.2.2.2.2.1.2.2.1,.slice (A 8).1 p.1.2.2.2.2.2.1.2.2.2.1.length (A 8).2,.slice (A 9).1 p.1.2.2.2.2.2.1.2.2.2.2.1.length (A 9).2,.slice (A 10).1 p.1.2.2.2.2.2.2.1.length (A 10).2,.slice (A 11).1 p.1.2.2.2.2.2.2.2.1.1.length (A 11).2,.slice (A 12).1 p.1.2.2.2.2.2.2.2.1.2.1.length (A 12).2,aT p.1.2.2.2.2.2.2.2.2.1.1,.slice (A 14).1 p.1.2.2.2.2.2.2.2.2.1.2.1.length (A 14).2,.slice (A 15).1 p.1.2.2.2.2.2.2.2.2.1.2.2.1.length (A 15).2,.slice (A 16).1 p.1.2.2.2.2.2.2.2.2.1.2.2.2.1.length (A 16).2,.slice (A 17).1 p.1.2.2.2.2.2.2.2.2.2.1.length (A 17).2,.int .i64 p.1.2.2.2.2.2.2.2.2.2.2.1.1.1,.int .i64 p.1.2.2.2.2.2.2.2.2.2.2.1.1.2.1,.int .i64 p.1.2.2.2.2.2.2.2.2.2.2.1.1.2.2.1,.slice (A 21).1 p.1.2.2.2.2.2.2.2.2.2.2.1.1.2.2.2.1.length (A 21).2,.slice (A 22).1 p.1.2.2.2.2.2.2.2.2.2.2.1.1.2.2.2.2.1.length (A 22).2,.int .i64 p.1.2.2.2.2.2.2.2.2.2.2.1.2.1.1,.int .i64 p.1.2.2.2.2.2.2.2.2.2.2.1.2.1.2.1,.int .i64 p.1.2.2.2.2.2.2.2.2.2.2.1.2.1.2.2.1,.slice (A 26).1 p.1.2.2.2.2.2.2.2.2.2.2.1.2.1.2.2.2.1.length (A 26).2,.slice (A 27).1 p.1.2.2.2.2.2.2.2.2.2.2.1.2.1.2.2.2.2.1.length (A 27).2,.int .i64 p.1.2.2.2.2.2.2.2.2.2.2.2.1]) an rfl ?_
    refine S.mW results30 isAgg41 af rfl an fun w hw=>ax.end_ hR hw ?_;exact pk ⟨p.1,A,lg,rfl,rfl⟩
   ·have hno:mg bs=none:=aR.trans (L7 hrd fun w=>bg w.2)
    refine S.aY (L:=[0,2,1,3,4]) F.mixed af ?_;refine .quiet (.p rfl) rfl (fun _=>.aJ isAgg41 af rfl h2) ?_;refine U 1 ?_;refine ah.cV (.p rfl) af rfl af rfl rfl ((w5 HG hsz aU hK)) (fun ch au w hX hW=>by (exact absurd q1 hX.1)) ?_;rintro _ _ ⟨uO,c6,bB,rfl,rfl⟩;refine ah.dh (.p rfl) af rfl af rfl rfl (bs:=[ak ag.u8 5 (.slice c6 (di p.1).length bB) (di p.1)]) ct (fun m hm ny =>Lc (hm.arr.right ny) ha.left) ?_;rintro _ _ ⟨rfl,rfl⟩;refine ah.aB 12 rfl (by exact aA bg) ?_;refine ah.cV (.p rfl) af rfl af rfl rfl (fD _) (fun ch au w hX hW=>by (obtain ⟨hb,rfl,rfl⟩:=hX;exact hR _ _ w ⟨4,rfl,⟨hno,hE.symm⟩,rfl⟩ hW.fU)) ?_;rintro _ _ ⟨Mu,rfl,rfl⟩;exact absurd Mu aH
  ·have hno:mg bs=none:=aR.trans (L7 hrd fun w=>q1 w.1.1)
   refine S.aY (L:=[0,2,1,3,4]) F.mixed af ?_;refine .quiet (.p rfl) rfl (fun _=>.aJ isAgg41 af rfl h2) ?_;refine U 1 ?_;refine ah.cV (.p rfl) af rfl af rfl rfl ((w5 HG hsz aU hK)) (fun ch au w hX hW=>by (obtain ⟨hb,rfl,rfl⟩:=hX;exact hR _ _ w ⟨4,rfl,⟨hno,hE.symm⟩,rfl⟩ hW.fU)) ?_;rintro _ _ ⟨uO,c6,bB,rfl,rfl⟩;exact absurd uO q1
 ·have hE:rO bs=3:=if_neg hlen
  have aR:mg bs=none:=if_neg hlen;refine S.seq<|S.region rfl<|O.aD (.p rfl) (.alloc (cs:=[.int .u8 0,.int .i64 0,.int .i64 0,.string ⟨#[]⟩,.string ⟨#[]⟩,.int .i64 0,.int .i64 0,.int .i64 0,.slice none 0 0,.slice none 0 0,.slice none 0 0,.slice none 0 0,.slice none 0 0,.int .u8 0,.slice none 0 0,.slice none 0 0,.slice none 0 0,.slice none 0 0,.int .i64 0,.int .i64 0,.int .i64 0,.slice none 0 0,.slice none 0 0,.int .i64 0,.int .i64 0,.int .i64 0,.slice none 0 0,.slice none 0 0,.int .i64 0]) zeroValue41 rfl) ?_;rintro _ _ ⟨b1,rfl,rfl⟩;refine U 6 ?_;refine O.aB 5 rfl (by exact aA ai) ?_;refine O.cV (.p rfl) rfl af rfl rfl (zS _ _) (fun ch au w hX hW=>by (obtain ⟨hb,rfl,rfl⟩:=hX;exact hR _ _ w ⟨3,rfl,⟨aR,hE.symm⟩,rfl⟩ hW.fU)) ?_;rintro _ _ ⟨vT,rfl,rfl⟩;exact absurd vT aH
def zV (bs:List UInt8) (v:Value) (aa:List az):Prop:=(∃ f A,mg bs=some f∧v=.tuple #[.agg (ob f A).toArray,.int .i64 0]∧aa=[(ql aX).own (ob f A) f])∨(mg bs=none∧v=.tuple #[.agg (([.int .u8 0,.int .i64 0,.int .i64 0,.string ⟨#[]⟩,.string ⟨#[]⟩,.int .i64 0,.int .i64 0,.int .i64 0,.slice none 0 0,.slice none 0 0,.slice none 0 0,.slice none 0 0,.slice none 0 0,.int .u8 0,.slice none 0 0,.slice none 0 0,.slice none 0 0,.slice none 0 0,.int .i64 0,.int .i64 0,.int .i64 0,.slice none 0 0,.slice none 0 0,.int .i64 0,.int .i64 0,.int .i64 0,.slice none 0 0,.slice none 0 0,.int .i64 0]:List Value)).toArray,.int .i64 (rO bs)]∧aa=[])
theorem TJ {bs:List UInt8} {f:aP} {v:Value} {aa:List az} (e:mg bs=some f) (h:zV bs v aa):∃ A,v=.tuple #[.agg (ob f A).toArray,.int .i64 0]∧aa=[(ql aX).own (ob f A) f]:=by
 rcases h with ⟨g,A,h1,rfl,rfl⟩|⟨h1,_⟩
 ·rw [e] at h1;obtain rfl:=Option.some.inj h1;exact ⟨A,rfl,rfl⟩
 ·rw [e] at h1;cases h1
theorem L_ {bs:List UInt8} {v:Value} {aa:List az} (e:mg bs=none) (h:zV bs v aa):v=.tuple #[.agg ([.int .u8 0,.int .i64 0,.int .i64 0,.string ⟨#[]⟩,.string ⟨#[]⟩,.int .i64 0,.int .i64 0,.int .i64 0,.slice none 0 0,.slice none 0 0,.slice none 0 0,.slice none 0 0,.slice none 0 0,.int .u8 0,.slice none 0 0,.slice none 0 0,.slice none 0 0,.slice none 0 0,.int .i64 0,.int .i64 0,.int .i64 0,.slice none 0 0,.slice none 0 0,.int .i64 0,.int .i64 0,.int .i64 0,.slice none 0 0,.slice none 0 0,.int .i64 0]:List Value).toArray,.int .i64 (rO bs)]∧aa=[]:=by
 rcases h with ⟨g,A,h1,_⟩|⟨_,h1,h2⟩
 ·rw [e] at h1;cases h1
 ·exact ⟨h1,h2⟩
theorem SR {r:Fr} {va:Value} {bs:List UInt8} (ha:av ag.u8 r va bs) (pP:bs.length≤1000000000) (tn:bs.length≤262144→jW (RS.mk true bs).byte.1→BK (RS.mk true bs).byte.1 (RS.mk true bs).byte.2.num.1 (RS.mk true bs).byte.2.num.2) (aU:cg r ⟨0,0,none⟩ (cz fq)) (hK:cg r ⟨1,0,none⟩ (cz gW)):aj prog 10 #[va] r [] (aF fun v aa=>zV bs v aa):=by
 obtain ⟨E0,FA,rfl⟩:=ha.shape;refine aj.o func10 fun g hg R hR=>?_;have ha:=ha.mono hg;have aU:=aU.mono hg;have hK:=hK.mono hg;have key:∀ v aa,((∃ u,BJ bs u aa∧v=.tuple #[u,.int .i64 0])∨∃ z,(mg bs=none∧z=rO bs)∧aa=[]∧v=.tuple #[.agg ([.int .u8 0,.int .i64 0,.int .i64 0,.string ⟨#[]⟩,.string ⟨#[]⟩,.int .i64 0,.int .i64 0,.int .i64 0,.slice none 0 0,.slice none 0 0,.slice none 0 0,.slice none 0 0,.slice none 0 0,.int .u8 0,.slice none 0 0,.slice none 0 0,.slice none 0 0,.slice none 0 0,.int .i64 0,.int .i64 0,.int .i64 0,.slice none 0 0,.slice none 0 0,.int .i64 0,.int .i64 0,.int .i64 0,.slice none 0 0,.slice none 0 0,.int .i64 0]:List Value).toArray,.int .i64 z])→zV bs v aa:=fun v aa h=>by
  rcases h with ⟨y,⟨f,A,h1,rfl,rfl⟩,rfl⟩|⟨z,⟨h1,rfl⟩,rfl,rfl⟩
  ·exact .inl ⟨f,A,h1,rfl,rfl⟩
  ·exact .inr ⟨h1,rfl,rfl⟩
 cases Cv:mg bs with
 |some f =>
  refine S.seq<|S.region rfl<|O.aD (.p rfl) (.box (cs:=[_]) rfl rfl) ?_;rintro _ _ ⟨b1,rfl,rfl⟩;refine O.cy an fun g hs hm cK=>?_;replace hg:=bf hg hs;replace hR:=a_ hR hm
  try replace ha:=ha.mono hs
  try replace aU:=aU.mono hs
  try replace hK:=hK.mono hs
  clear hs hm;refine O.aD (.p rfl) (.alloc (cs:=[.int .u8 0,.int .i64 0,.int .i64 0,.string ⟨#[]⟩,.string ⟨#[]⟩,.int .i64 0,.int .i64 0,.int .i64 0,.slice none 0 0,.slice none 0 0,.slice none 0 0,.slice none 0 0,.slice none 0 0,.int .u8 0,.slice none 0 0,.slice none 0 0,.slice none 0 0,.slice none 0 0,.int .i64 0,.int .i64 0,.int .i64 0,.slice none 0 0,.slice none 0 0,.int .i64 0,.int .i64 0,.int .i64 0,.slice none 0 0,.slice none 0 0,.int .i64 0]) zeroValue41 rfl) ?_;rintro _ _ ⟨b2,rfl,rfl⟩;refine U 5 ?_;refine O.aN (.p rfl) rfl af rfl rfl (((P6 (K:=BJ bs) (X:=fun z=>mg bs=none∧z=rO bs) af rfl (fun u ζ h=>by obtain ⟨f,A,_,rfl,_⟩:=h;exact ⟨_,rfl,rfl,rfl⟩) (LM cK ha pP tn aU hK)).mono (aF.imp fun _ _ h=>TJ Cv (key _ _ h)))) ?_;rintro _ _ ⟨A,rfl,rfl⟩;refine U 3 ?_
  refine O.q 1 rfl<|O.nil<|S.cH (b:=b2) (cs' :=[aT f.1,.int .i64 f.2.1,.int .i64 f.2.2.1,.string (str f.2.2.2.1),.string (str f.2.2.2.2.1),.int .i64 f.2.2.2.2.2.1.1,.int .i64 f.2.2.2.2.2.1.2.1,.int .i64 f.2.2.2.2.2.1.2.2.1,.slice (A 8).1 f.2.2.2.2.2.1.2.2.2.1.length (A 8).2,.slice (A 9).1 f.2.2.2.2.2.1.2.2.2.2.1.length (A 9).2,.slice (A 10).1 f.2.2.2.2.2.2.1.length (A 10).2,.slice (A 11).1 f.2.2.2.2.2.2.2.1.1.length (A 11).2,.slice (A 12).1 f.2.2.2.2.2.2.2.1.2.1.length (A 12).2,aT f.2.2.2.2.2.2.2.2.1.1,.slice (A 14).1 f.2.2.2.2.2.2.2.2.1.2.1.length (A 14).2,.slice (A 15).1 f.2.2.2.2.2.2.2.2.1.2.2.1.length (A 15).2,.slice (A 16).1 f.2.2.2.2.2.2.2.2.1.2.2.2.1.length (A 16).2,.slice (A 17).1 f.2.2.2.2.2.2.2.2.2.1.length (A 17).2,.int .i64 f.2.2.2.2.2.2.2.2.2.2.1.1.1,.int .i64 f.2.2.2.2.2.2.2.2.2.2.1.1.2.1,.int .i64 f.2.2.2.2.2.2.2.2.2.2.1.1.2.2.1,.slice (A 21).1 f.2.2.2.2.2.2.2.2.2.2.1.1.2.2.2.1.length (A 21).2,.slice (A 22).1 f.2.2.2.2.2.2.2.2.2.2.1.1.2.2.2.2.1.length (A 22).2,.int .i64 f.2.2.2.2.2.2.2.2.2.2.1.2.1.1,.int .i64 f.2.2.2.2.2.2.2.2.2.2.1.2.1.2.1,.int .i64 f.2.2.2.2.2.2.2.2.2.2.1.2.1.2.2.1,.slice (A 26).1 f.2.2.2.2.2.2.2.2.2.2.1.2.1.2.2.2.1.length (A 26).2,.slice (A 27).1 f.2.2.2.2.2.2.2.2.2.2.1.2.1.2.2.2.2.1.length (A 27).2,.int .i64 f.2.2.2.2.2.2.2.2.2.2.2.1]) an rfl ?_;refine S.JF results10 rfl rfl an (gi.agg isAgg41 af) fun w hw=>ax.end_ hR hw ?_;exact pk (.inl ⟨f,A,Cv,rfl,rfl⟩)
 |none =>
  refine S.seq<|S.region rfl<|O.aD (.p rfl) (.box (cs:=[_]) rfl rfl) ?_;rintro _ _ ⟨b1,rfl,rfl⟩;refine O.cy an fun g hs hm cK=>?_;replace hg:=bf hg hs;replace hR:=a_ hR hm
  try replace ha:=ha.mono hs
  try replace aU:=aU.mono hs
  try replace hK:=hK.mono hs
  clear hs hm;refine O.aD (.p rfl) (.alloc (cs:=[.int .u8 0,.int .i64 0,.int .i64 0,.string ⟨#[]⟩,.string ⟨#[]⟩,.int .i64 0,.int .i64 0,.int .i64 0,.slice none 0 0,.slice none 0 0,.slice none 0 0,.slice none 0 0,.slice none 0 0,.int .u8 0,.slice none 0 0,.slice none 0 0,.slice none 0 0,.slice none 0 0,.int .i64 0,.int .i64 0,.int .i64 0,.slice none 0 0,.slice none 0 0,.int .i64 0,.int .i64 0,.int .i64 0,.slice none 0 0,.slice none 0 0,.int .i64 0]) zeroValue41 rfl) ?_;rintro _ _ ⟨b2,rfl,rfl⟩;refine U 5 ?_;refine O.v0 (.p rfl) rfl af rfl rfl (((P6 (K:=BJ bs) (X:=fun z=>mg bs=none∧z=rO bs) af rfl (fun u ζ h=>by obtain ⟨f,A,_,rfl,_⟩:=h;exact ⟨_,rfl,rfl,rfl⟩) (LM cK ha pP tn aU hK)).mono (aF.imp fun _ _ h=>L_ Cv (key _ _ h)))) ?_;refine U 3 ?_;refine O.q 1 rfl<|O.nil<|S.cH (b:=b2) (cs' :=[.int .u8 0,.int .i64 0,.int .i64 0,.string ⟨#[]⟩,.string ⟨#[]⟩,.int .i64 0,.int .i64 0,.int .i64 0,.slice none 0 0,.slice none 0 0,.slice none 0 0,.slice none 0 0,.slice none 0 0,.int .u8 0,.slice none 0 0,.slice none 0 0,.slice none 0 0,.slice none 0 0,.int .i64 0,.int .i64 0,.int .i64 0,.slice none 0 0,.slice none 0 0,.int .i64 0,.int .i64 0,.int .i64 0,.slice none 0 0,.slice none 0 0,.int .i64 0]) an rfl ?_;refine S.JF results10 rfl rfl an (gi.agg isAgg41 af) fun w hw=>ax.end_ hR hw ?_;exact pk (.inr ⟨Cv,rfl,rfl⟩)
theorem SS {r:Fr} {va:Value} {bs:List UInt8} (ha:av ag.u8 r va bs) (pP:bs.length≤1000000000) (h1:(RS.mk true bs).byte.1=1) (aU:cg r ⟨0,0,none⟩ (cz fq)) (hK:cg r ⟨1,0,none⟩ (cz gW)):aj prog 10 #[va] r [] (aF fun v aa=>zV bs v aa) :=
 SR ha pP (fun _ _=>by rw [h1];exact X9 (RS.IU _)) aU hK
theorem DA {r:Fr} {s:List UInt8} (hl:s.length≤9223372036854775807):aj prog 120 #[.string (str s)] r [] (aF fun v aa=>v=.bool (decide (lu s))∧aa=[]):=by
 refine aj.o func120 fun g hg R hR=>?_;have hz:=D2 s;refine U 10 ?_;refine S.ev (ι:=Nat) (fun k=>k≤s.length∧∀ c∈s.take k,c=48∨c=49) (fun k=>[(3,.int .i64 (k:Int))]) [(0,_)] (fun k=>[]) (fun k=>s.length - k) (0) (by exact ⟨by omega,by simp⟩) aO aO rfl fun k hx ih=>?_;have aW:=bS (g:=g);obtain ⟨hx1,b8⟩:=hx;refine U 8 ?_;refine S.cd rfl (fun h7=>?_) fun h7=>?_
 ·have hk:k<s.length:=by simp at h7;omega
  have hmem:=List.getElem_mem hk
  by_cases q:s[k]=48∨s[k]=49
  ·have hnext:∀ c∈s.take (k+1),c=48∨c=49:=fun c hc=>by
    rw [j9 hk] at hc
    rcases List.mem_append.1 hc with hc|hc
    ·exact b8 c hc
    ·rw [List.mem_singleton.1 hc];exact q
   by_cases q1:s[k]=48
   ·
    refine U 7 ?_;refine O.op (.p rfl) (.qQ (j:=k) underlying9 rfl rfl rz bl)<|U 1 ?_;refine O.aB 13 rfl (by rw [q1];rfl)<|U 15 ?_;exact S.cF (ih (k+1) (by exact ⟨by omega,hnext⟩) ai)
   ·have bg:s[k]=49:=q.resolve_left q1
    refine U 7 ?_;refine O.op (.p rfl) (.qQ (j:=k) underlying9 rfl rfl rz bl)<|U 1 ?_;refine O.sT 13 rfl (by rw [bg];rfl) ?_;refine O.q 3 rfl<|O.op (.g rfl rfl) (.qQ (j:=k) underlying9 rfl rfl rz bl)<|U 1 ?_;refine O.aB 18 rfl (by rw [bg];rfl)<|U 10 ?_;exact S.cF (ih (k+1) (by exact ⟨by omega,hnext⟩) ai)
  ·have hno:decide (lu s)=false:=aA fun w=>q (w.2 _ hmem)
   have n1:s[k]≠48:=fun w=>q (.inl w);have n2:s[k]≠49:=fun w=>q (.inr w);refine U 7 ?_;refine O.op (.p rfl) (.qQ (j:=k) underlying9 rfl rfl rz bl) ?_;refine U 1 ?_;refine O.sT 13 rfl (by exact zdt fun w=>n1 (fk (b:=48).1 w)) ?_;refine O.q 3 rfl<|O.op (.g rfl rfl) (.qQ (j:=k) underlying9 rfl rfl rz bl) ?_;refine U 1 ?_;refine O.sT 18 rfl (by exact zdt fun w=>n2 (fk (b:=49).1 w)) ?_;refine U 7 ?_;exact S.rt results120 rfl hR ⟨congrArg Value.bool hno.symm,rfl⟩
 ·clear ih
  have hk:k=s.length:=by simp at h7;omega
  rw [hk,List.take_length] at b8;refine U 8 ?_;exact S.rt results120 rfl hR ⟨congrArg Value.bool (decide_eq_decide.2 ⟨fun w=>⟨by rw [hz] at w;omega,b8⟩,fun w=>by rw [hz];have:=w.1;omega⟩),rfl⟩
theorem u9 {r:Fr} {s:List UInt8} (hl:s.length≤9223372036854775807):aj prog 123 #[.string (str s)] r [] (aF fun v aa=>v=.bool (decide (fL s))∧aa=[]):=by
 refine aj.o func123 fun g hg R hR=>?_;have hz:=D2 s
 by_cases q1:1≤s.length
 ·by_cases bg:s.length≤64
  ·
   refine U 9 ?_;refine O.sT 5 rfl (by exact zdt ai)<|U 4 ?_;refine O.sT 9 rfl (by exact zdt ai)<|U 3 ?_;exact S.rt results123 rfl hR ⟨congrArg Value.bool (zdt (show fL s from ⟨q1,bg⟩)).symm,rfl⟩
  ·
   refine U 9 ?_;refine O.sT 5 rfl (by exact zdt ai)<|U 4 ?_;refine O.aB 9 rfl (by exact aA ai)<|U 3 ?_;exact S.rt results123 rfl hR ⟨congrArg Value.bool (aA fun w:fL s=>bg w.2).symm,rfl⟩
 ·
  refine U 9 ?_;refine O.aB 5 rfl (by exact aA ai)<|U 7 ?_;exact S.rt results123 rfl hR ⟨congrArg Value.bool (aA fun w:fL s=>q1 w.1).symm,rfl⟩
theorem yF {r:Fr} {s:List UInt8} (hl:s.length≤1000000000000):aj prog 129 #[.string (str s)] r [] (aF fun v aa=>∃ a c,v=.slice a (bytesOf s).length c∧aa=[ak ag.u8 5 (.slice a (bytesOf s).length c) (bytesOf s)]):=by
 refine aj.o func129 fun g hg R hR=>?_;refine U 7 ?_;refine O.aD (.p rfl) (.oD underlying9 underlying22 underlying5 rfl vt) ?_;rintro _ _ ⟨a4,bR,rfl,rfl⟩;refine O.dh (.p rfl) rfl af rfl rfl (bs:=[ak ag.u8 5 (.slice a4 s.length bR) s]) ct (fun m hm hd=>lX ((u4 hm).right hd) ai) ?_;rintro _ _ ⟨a5,cD,rfl,rfl⟩;refine U 2 ?_;exact S.rt results129 rfl hR ⟨a5,cD,rfl,rfl⟩
theorem OO {r:Fr} {va:Value} {l:List aV} (ha:av bu r va l) (hn:l.length≤1000000) (hr:ez l):aj prog 133 #[va] r [] (aF fun v aa=>∃ a c,v=.slice a (bytesOf (dc l)).length c∧aa=[ak ag.u8 5 (.slice a (bytesOf (dc l)).length c) (bytesOf (dc l))]):=by
 obtain ⟨E0,FA,rfl⟩:=ha.shape;have hs:=q7 hr.1;obtain ⟨_,wv,wz⟩:=Bi hr;refine aj.o func133 fun g hg R hR=>?_;have ha:=ha.mono hg;refine U 7 ?_;refine O.aN (.p rfl) rfl af rfl rfl ((aaF ha hn)) ?_;rintro _ _ ⟨a7,c9,rfl,rfl⟩;rw [wv,wz];refine U 9 ?_;refine O.dh (.p rfl) rfl af rfl rfl (bs:=[ak ag.u8 5 (.slice a7 (dc l).length c9) (dc l)]) ct (fun m hm hd=>lX ((u4 hm).right hd) ai) ?_;rintro _ _ ⟨cQ,bG,rfl,rfl⟩;refine U 2 ?_;exact S.rt results133 rfl hR ⟨cQ,bG,rfl,rfl⟩
theorem ON {r:Fr} {cs:List Value} {x:dD} (h:bx.rel r cs x) (hr:dR x=true):aj prog 127 #[.agg cs.toArray] r [] (aF fun v aa=>∃ a c,v=.slice a (bytesOf (bM x)).length c∧aa=[ak ag.u8 5 (.slice a (bytesOf (bM x)).length c) (bytesOf (bM x))]):=by
 have h0:=h;obtain ⟨dM,jz,dN,jA,rfl,k0,k1,k2,aI,fo⟩:=bx.sh h0;have hro:fZ x=bM x:=by unfold fZ;rw [if_pos hr]
 have hrl:=lZ hr;refine aj.o func127 fun g hg R hR=>?_;have h:=h.mono hg;refine S.seq<|S.region rfl<|O.aD (.p rfl) (.box (cs:=[_,_,_,_,_]) rfl rfl) ?_;rintro _ _ ⟨b1,rfl,rfl⟩;refine U 3 ?_;refine S.cy an fun g hs hm h1=>?_;replace hg:=bf hg hs;replace hR:=a_ hR hm
 try replace h:=h.mono hs
 clear hs hm;refine S.region rfl<|O.op (.p rfl) (.aJ isAgg27 af rfl h1) ?_;refine O.aN (.p rfl) rfl af rfl rfl ((Jj h)) ?_;rintro _ _ ⟨a7,c9,rfl,rfl⟩;rw [hro];refine U 9 ?_;refine O.dh (.p rfl) rfl af rfl rfl (bs:=[ak ag.u8 5 (.slice a7 (bM x).length c9) (bM x)]) ct (fun m hm hd=>lX ((u4 hm).right hd) ai) ?_;rintro _ _ ⟨cQ,bG,rfl,rfl⟩;refine U 2 ?_;exact S.rt results127 rfl hR ⟨cQ,bG,rfl,rfl⟩
theorem aaA {r:Fr} {cs:List Value} {x:eY} (h:fj.rel r cs x) (hn:gA x) (kO:x.2.2.2.1.length≤20000∧∀ y∈x.2.2.2.1,y.2.1.length≤10000):aj prog 130 #[.agg cs.toArray] r [] (aF fun v aa=>∃ a c,v=.slice a (kz x).length c∧aa=[ak ag.u8 5 (.slice a (kz x).length c) (kz x)]):=by
 obtain ⟨x1,bC,c8,y1,rj,rm,rfl,k1,k2,aI⟩:=fj.sh h;have uS:x.2.1.length≤64∧x.2.2.1.length≤64:=by
  rcases hn.2 with w|w|w|w
  ·rw [w.2.1,w.2.2.1];decide
  ·rw [w.2.1,w.2.2.1];decide
  ·omega
  ·rw [w.2.1,w.2.2.1];decide
 obtain ⟨uS,qK⟩:=uS;obtain ⟨Uk,Mi⟩:=kO;have Np:=aI;refine aj.o func130 fun g hg R hR=>?_;have k1:=k1.mono hg;have k2:=k2.mono hg;have aI:=aI.mono hg;refine S.seq<|S.region rfl<|O.aD (.p rfl) (.box (cs:=[_,_,_,_]) rfl rfl) ?_;rintro _ _ ⟨b1,rfl,rfl⟩;refine U 3 ?_;refine S.cy an fun g hs hm h1=>?_;replace hg:=bf hg hs;replace hR:=a_ hR hm
 try replace k1:=k1.mono hs
 try replace k2:=k2.mono hs
 try replace aI:=aI.mono hs
 clear hs hm;refine S.aY (L:=[0,1,2,4,5,7,8,10,11,12,3,6,9,13,14,15,16]) F.mixed af ?_;refine U 2 ?_;refine .quiet (.p rfl) rfl (fun _=>.iY underlying32 underlying3 rfl)<|ah.slot 7 (v' :=.int .i64 (x.1.toNat:Int)) rfl (by exact congrArg (Value.int .i64) (Qj x.1)) ?_;refine U 7 ?_;refine ah.aN (.p rfl) af rfl af rfl rfl ((fQ _)) ?_;rintro _ _ ⟨a8,bk,rfl,rfl⟩;refine ah.aN (.p rfl) af rfl af rfl rfl ((lX k1 ai)) ?_;rintro _ _ ⟨cQ,bG,rfl,rfl⟩;refine ah.aN (.p rfl) af rfl af rfl rfl ((lX k2 ai)) ?_;rintro _ _ ⟨cS,bE,rfl,rfl⟩;refine ah.aN (.p rfl) af rfl af rfl rfl ((fQ _)) ?_;rintro _ _ ⟨eE,cN,rfl,rfl⟩;refine ah.bw (.p rfl) af (T:=ag.val) (ys:=[.slice a8 8 bk,.slice cQ (bytesOf x.2.1).length bG,.slice cS (bytesOf x.2.2.1).length bE,.slice eE 8 cN]) underlying28 dH aq rfl rfl ⟨⟨rfl,rfl⟩,⟨rfl,rfl⟩,⟨rfl,rfl⟩,⟨rfl,rfl⟩,trivial⟩ aq (fun eF cO=>?_)
 refine ah.dh (.p rfl) af rfl af rfl rfl (bs:=[ak ag.val 22 (.slice eF 4 cO) [.slice a8 8 bk,.slice cQ (bytesOf x.2.1).length bG,.slice cS (bytesOf x.2.2.1).length bE,.slice eE 8 cN],ak ag.u8 5 (.slice a8 8 bk) (be ↑(x.1.toNat)),ak ag.u8 5 (.slice cQ (bytesOf x.2.1).length bG) (bytesOf x.2.1),ak ag.u8 5 (.slice cS (bytesOf x.2.2.1).length bE) (bytesOf x.2.2.1),ak ag.u8 5 (.slice eE 8 cN) (be ↑(x.2.2.2.1.length))]) ct (fun m hm hd=>kT (xss:=[be ↑(x.1.toNat),bytesOf x.2.1,bytesOf x.2.2.1,be ↑(x.2.2.2.1.length)]) ((hm.arr.right hd).rows ⟨hm.tail.arr.right hd,hm.tail.tail.arr.right hd,hm.tail.tail.tail.arr.right hd,hm.tail.tail.tail.tail.arr.right hd,trivial⟩) (by simp only [nV,List.flatten_nil,List.append_nil,cI,fI,ga];omega)) ?_;rintro _ _ ⟨qo,eM,rfl,rfl⟩;refine ah.q 1 rfl<|bt.nil (S.seq (S.seq ?_));have e1:[be ↑(x.1.toNat),bytesOf x.2.1,bytesOf x.2.2.1,be ↑(x.2.2.2.1.length)].flatten=be ↑(x.1.toNat)++(bytesOf x.2.1++(bytesOf x.2.2.1++be ↑(x.2.2.2.1.length))):=by simp
 rw [e1];have x8:(be ↑(x.1.toNat)++(bytesOf x.2.1++(bytesOf x.2.2.1++be ↑(x.2.2.2.1.length)))).length≤1000:=by simp only [cI,fI,ga];omega
 have kI:be ↑(x.1.toNat)++(bytesOf x.2.1++(bytesOf x.2.2.1++be ↑(x.2.2.2.1.length)))++bh eB x.2.2.2.1=kz x:=by simp [kz]
 generalize (be ↑(x.1.toNat)++(bytesOf x.2.1++(bytesOf x.2.2.1++be ↑(x.2.2.2.1.length))))=H at e1 x8 kI ⊢;refine S.fW (A:=ak ag.val 22 (.slice eF 4 cO) [.slice a8 8 bk,.slice cQ (bytesOf x.2.1).length bG,.slice cS (bytesOf x.2.2.1).length bE,.slice eE 8 cN]) an fun g hs hm ⟨_,x',s'⟩=>?_;have vk:=(fun s x=>av.mono s (ak.arr x)) s' x';clear x' s';replace hg:=bf hg hs;replace hR:=a_ hR hm
 try replace k1:=k1.mono hs
 try replace k2:=k2.mono hs
 try replace aI:=aI.mono hs
 try replace h1:=h1.mono hs
 clear hs hm;refine S.fW (A:=ak ag.u8 5 (.slice a8 8 bk) (be ↑(x.1.toNat))) an fun g hs hm ⟨_,x',s'⟩=>?_;have w0:=(fun s x=>av.mono s (ak.arr x)) s' x';clear x' s';replace hg:=bf hg hs;replace hR:=a_ hR hm
 try replace k1:=k1.mono hs
 try replace k2:=k2.mono hs
 try replace aI:=aI.mono hs
 try replace h1:=h1.mono hs
 try replace vk:=vk.mono hs
 clear hs hm;refine S.fW (A:=ak ag.u8 5 (.slice cQ (bytesOf x.2.1).length bG) (bytesOf x.2.1)) an fun g hs hm ⟨_,x',s'⟩=>?_;have w1:=(fun s x=>av.mono s (ak.arr x)) s' x';clear x' s';replace hg:=bf hg hs;replace hR:=a_ hR hm
 try replace k1:=k1.mono hs
 try replace k2:=k2.mono hs
 try replace aI:=aI.mono hs
 try replace h1:=h1.mono hs
 try replace vk:=vk.mono hs
 try replace w0:=w0.mono hs
 clear hs hm;refine S.fW (A:=ak ag.u8 5 (.slice cS (bytesOf x.2.2.1).length bE) (bytesOf x.2.2.1)) an fun g hs hm ⟨_,x',s'⟩=>?_;have w2:=(fun s x=>av.mono s (ak.arr x)) s' x';clear x' s';replace hg:=bf hg hs;replace hR:=a_ hR hm
 try replace k1:=k1.mono hs
 try replace k2:=k2.mono hs
 try replace aI:=aI.mono hs
 try replace h1:=h1.mono hs
 try replace vk:=vk.mono hs
 try replace w0:=w0.mono hs
 try replace w1:=w1.mono hs
 clear hs hm;refine S.fW (A:=ak ag.u8 5 (.slice eE 8 cN) (be ↑(x.2.2.2.1.length))) an fun g hs hm ⟨_,x',s'⟩=>?_;have w3:=(fun s x=>av.mono s (ak.arr x)) s' x';clear x' s';replace hg:=bf hg hs;replace hR:=a_ hR hm
 try replace k1:=k1.mono hs
 try replace k2:=k2.mono hs
 try replace aI:=aI.mono hs
 try replace h1:=h1.mono hs
 try replace vk:=vk.mono hs
 try replace w0:=w0.mono hs
 try replace w1:=w1.mono hs
 try replace w2:=w2.mono hs
 clear hs hm;refine S.hU (T:=ag.u8) (e:=5) (v' :=.slice qo (H++bh eB (x.2.2.2.1.take 0)).length eM) (xs' :=H++bh eB (x.2.2.2.1.take 0)) an (by simp [bh]) (by simp [bh]) ?_;refine S.slot 3 (v' :=.slice qo (H++bh eB (x.2.2.2.1.take 0)).length eM) rfl (by simp [bh]) ?_;refine U 4 ?_;refine S.i_ (ι:=Nat) (dy:=Option Addr × Nat) (fun k s=>k≤x.2.2.2.1.length) (fun k s=>[(4,.int .i64 (k:Int)),(3,.slice s.1 (H++bh eB (x.2.2.2.1.take k)).length s.2)]) [(1,_)] (fun k s=>[ak ag.u8 5 (.slice s.1 (H++bh eB (x.2.2.2.1.take k)).length s.2) (H++bh eB (x.2.2.2.1.take k))]) (fun k s=>x.2.2.2.1.length - k) (0) ((qo,eM)) aH aO aO rfl fun k s hx ih=>?_;have aW:=bS (g:=g);refine U 9 ?_;refine S.cd rfl (fun lG=>?_) fun lG=>?_
 ·have hk:k<x.2.2.2.1.length:=by omega
  have pU:=Mi _ (List.getElem_mem hk);have hlf:=hn.1.1 _ (List.getElem_mem hk);have gy:=yO (b:=eB) hk;have pT:(bh eB (x.2.2.2.1.take k)).length≤14080096*(x.2.2.2.1.take k).length:=r8 eB 14080096 _ fun z hz=>by
   have wu :=List.mem_of_mem_take hz;have h1:=(hn.1.1 z wu).1.2;have h2:=q7 (hn.1.1 z wu).2.1.1;have h3:=Mi z wu;simp only [eB,cI,fI];omega
  have hN:(x.2.2.2.1.take k).length=k:=by rw [mA];omega
  have yh:=hlf.1.2;have pV:=q7 hlf.2.1.1;have k_:(H++bh eB (x.2.2.2.1.take k)).length≤1000000000000:=by rw [cI];omega
  generalize kp:H++bh eB (x.2.2.2.1.take k)=jX at gy k_ ⊢;refine U 8 ?_;refine O.q 1 rfl<|O.ew Np hg (h:=fun OA Lw MT WC=>?_);have Au:=ag.rel.mono WC hg;obtain ⟨ahu,ahz,rfl,agS,agd⟩:=dJ.sh Au;refine U 2 ?_;refine O.aN (.p rfl) rfl af rfl rfl ((yF ai)) ?_;rintro _ _ ⟨EO,Fh,rfl,rfl⟩;refine O.aD (.p rfl) (.fH (T:=ag.u8) underlying22 cP aq rfl rfl an an bl bl) ?_;rintro _ _ ⟨nZ,n8,rfl,rfl⟩;refine U 2 ?_;have Ao:(jX++bytesOf x.2.2.2.1[k].1).length≤2000000000000:=by rw [cI,fI];omega
  have e2:jX.length+(bytesOf x.2.2.2.1[k].1).length=(jX++bytesOf x.2.2.2.1[k].1).length:=by rw [cI]
  rw [e2];refine U 4 ?_;refine O.q 1 rfl<|O.ew Np hg (h:=fun OB Lx C4 Az=>?_);have wi:=ag.rel.mono Az hg;obtain ⟨ahw,ahB,rfl,MQ,Us⟩:=dJ.sh wi;refine U 2 ?_;have UZ:x.2.2.2.1[k].2.1.length≤1000000:=by omega
  refine O.aN (.p rfl) rfl af rfl rfl ((OO Us UZ hlf.2.1)) ?_;rintro _ _ ⟨zl,zA,rfl,rfl⟩;refine O.aD (.p rfl) (.fH (T:=ag.u8) underlying22 cP aq rfl rfl an an bl bl) ?_;rintro _ _ ⟨pF,pJ,rfl,rfl⟩;refine U 3 ?_;have cZ:jX++bytesOf x.2.2.2.1[k].1++bytesOf (dc x.2.2.2.1[k].2.1)=H++bh eB (x.2.2.2.1.take (k+1)):=by rw [← gy,← kV,kp];simp [eB]
  refine S.hU (T:=ag.u8) (e:=5) (v' :=.slice pF (H++bh eB (x.2.2.2.1.take (k+1))).length pJ) (xs' :=H++bh eB (x.2.2.2.1.take (k+1))) an (by rw [← cZ];simp only [cI]) cZ ?_;refine S.slot 3 (v' :=.slice pF (H++bh eB (x.2.2.2.1.take (k+1))).length pJ) rfl (by rw [← cZ];simp only [cI]) ?_;refine U 5 ?_;exact S.pw (ih (k+1) ((pF,pJ)) ai ai)
 ·clear ih
  have hk:k=x.2.2.2.1.length:=by omega
  subst hk;rw [List.take_length,kI];refine U 6 ?_;exact S.rt results130 rfl hR ⟨s.1,s.2,rfl,rfl⟩
theorem aaB {r:Fr} {cs:List Value} {x:fT} (h:fB.rel r cs x) (hn:js x) (hE:x.2.1.length≤1000000000):aj prog 132 #[.agg cs.toArray] r [] (aF fun v aa=>∃ a c,v=.slice a (iB x).length c∧aa=[ak ag.u8 5 (.slice a (iB x).length c) (iB x)]):=by
 obtain ⟨x1,bC,y1,rj,rfl,k1,k2⟩:=fB.sh h;obtain ⟨⟨g1,_⟩,g2,g3,_⟩:=hn;have aho:=k1;have XW:=k2;refine aj.o func132 fun g hg R hR=>?_;have k1:=k1.mono hg;have k2:=k2.mono hg;refine S.seq<|S.region rfl<|O.aD (.p rfl) (.box (cs:=[_,_]) rfl rfl) ?_;rintro _ _ ⟨b1,rfl,rfl⟩;refine U 3 ?_;refine S.cy an fun g hs hm h1=>?_;replace hg:=bf hg hs;replace hR:=a_ hR hm
 try replace k1:=k1.mono hs
 try replace k2:=k2.mono hs
 clear hs hm;refine U 4 ?_;refine O.aN (.p rfl) rfl af rfl rfl ((fQ _)) ?_;rintro _ _ ⟨a9,bc,rfl,rfl⟩;refine O.q 1 rfl<|O.nil (S.seq (S.seq ?_));have pP:(be ↑(x.1.length)).length=8:=ga _;refine S.hU (T:=ag.u8) (e:=5) (v' :=.slice a9 (be ↑(x.1.length)++bh bytesOf (x.1.take 0)).length bc) (xs' :=be ↑(x.1.length)++bh bytesOf (x.1.take 0)) an (by simp [bh]) (by simp [bh]) ?_;refine S.slot 3 (v' :=.slice a9 (be ↑(x.1.length)++bh bytesOf (x.1.take 0)).length bc) rfl (by simp [bh]) ?_;refine U 4 ?_;refine S.i_ (ι:=Nat) (dy:=Option Addr × Nat) (fun k s=>k≤x.1.length) (fun k s=>[(4,.int .i64 (k:Int)),(3,.slice s.1 (be ↑(x.1.length)++bh bytesOf (x.1.take k)).length s.2)]) [(1,_)] (fun k s=>[ak ag.u8 5 (.slice s.1 (be ↑(x.1.length)++bh bytesOf (x.1.take k)).length s.2) (be ↑(x.1.length)++bh bytesOf (x.1.take k))]) (fun k s=>x.1.length - k) (0) ((a9,bc)) aH aO aO rfl fun k s hx ih=>?_;have aW:=bS (g:=g);refine U 9 ?_;refine S.cd rfl (fun eH=>?_) fun eH=>?_
 ·have hk:k<x.1.length:=by omega
  have hz:=g2 _ (List.getElem_mem hk);have gy:=yO (b:=bytesOf) hk;have pT:(bh bytesOf (x.1.take k)).length≤72*(x.1.take k).length:=r8 bytesOf 72 _ fun z hz=>by
   have:=g2 z (List.mem_of_mem_take hz);simp only [fI];omega
  have hN:(x.1.take k).length=k:=by rw [mA];omega
  have k_:(be ↑(x.1.length)++bh bytesOf (x.1.take k)).length≤200000000:=by rw [cI];omega
  refine U 7 ?_;refine O.q 1 rfl<|O.dI (k1) (h:=fun bT Ck tt pS=>?_);obtain ⟨ig,rfl,z9⟩:=pS;obtain ⟨dW,cn,rfl⟩:=z9.shape;refine U 1 ?_;have z9:=z9;refine O.aN (.p rfl) rfl af rfl rfl ((lX z9 ai)) ?_;rintro _ _ ⟨gk,dm,rfl,rfl⟩;refine O.aD (.p rfl) (.fH (T:=ag.u8) underlying22 cP aq rfl rfl an an bl bl) ?_;rintro _ _ ⟨gO,dw,rfl,rfl⟩;refine U 3 ?_;refine S.hU (T:=ag.u8) (e:=5) (v' :=.slice gO (be ↑(x.1.length)++bh bytesOf (x.1.take (k+1))).length dw) (xs' :=be ↑(x.1.length)++bh bytesOf (x.1.take (k+1))) an (by rw [← gy];simp only [cI,Nat.add_assoc]) (by rw [← gy,kV]) ?_;refine S.slot 3 (v' :=.slice gO (be ↑(x.1.length)++bh bytesOf (x.1.take (k+1))).length dw) rfl (by rw [← gy];simp only [cI,Nat.add_assoc]) ?_;refine U 5 ?_;exact S.pw (ih (k+1) ((gO,dw)) ai ai)
 ·clear ih
  have hk:k=x.1.length:=by omega
  subst hk;rw [List.take_length];have pT:(bh bytesOf x.1).length≤72*x.1.length:=r8 bytesOf 72 _ fun z hz=>by
   have:=g2 z hz;simp only [fI];omega
  have k_:(be ↑(x.1.length)++bh bytesOf x.1).length≤200000000:=by rw [cI];omega
  have kI:be ↑(x.1.length)++bh bytesOf x.1++be ↑(x.2.1.length)++bh er x.2.1=iB x:=by simp [iB]
  generalize be ↑(x.1.length)++bh bytesOf x.1=ng at k_ kI ⊢;refine U 7 ?_;refine O.aN (.p rfl) rfl af rfl rfl ((fQ _)) ?_;rintro _ _ ⟨uv,rH,rfl,rfl⟩;refine O.aD (.p rfl) (.fH (T:=ag.u8) underlying22 cP aq rfl rfl an an bl bl) ?_;rintro _ _ ⟨kY,k3,rfl,rfl⟩;refine O.q 1 rfl<|O.nil (S.seq (S.seq ?_));have hX:(ng++be ↑(x.2.1.length)).length=ng.length+8:=by rw [cI,ga]
  rw [show ng.length+(be ↑(x.2.1.length)).length=(ng++be ↑(x.2.1.length)).length from (cI).symm];generalize ng++be ↑(x.2.1.length)=X at hX kI ⊢;refine S.hU (T:=ag.u8) (e:=5) (v' :=.slice kY (X++bh er (x.2.1.take 0)).length k3) (xs' :=X++bh er (x.2.1.take 0)) an (by simp [bh]) (by simp [bh]) ?_;refine S.slot 3 (v' :=.slice kY (X++bh er (x.2.1.take 0)).length k3) rfl (by simp [bh]) ?_;refine U 4 ?_;refine S.i_ (ι:=Nat) (dy:=Option Addr × Nat) (fun k s=>k≤x.2.1.length) (fun k s=>[(5,.int .i64 (k:Int)),(3,.slice s.1 (X++bh er (x.2.1.take k)).length s.2)]) [(1,_)] (fun k s=>[ak ag.u8 5 (.slice s.1 (X++bh er (x.2.1.take k)).length s.2) (X++bh er (x.2.1.take k))]) (fun k s=>x.2.1.length - k) (0) ((kY,k3)) aH aO aO rfl fun k s hx ih=>?_;have hm2:=bS (g:=g);refine U 9 ?_;refine S.cd rfl (fun zY=>?_) fun zY=>?_
  ·have hk:k<x.2.1.length:=by omega
   have hz:=g3 _ (List.getElem_mem hk);have yh:=hz.1.2;have pV:=hz.2;have gy:=yO (b:=er) hk;have pT:(bh er (x.2.1.take k)).length≤144*(x.2.1.take k).length:=r8 er 144 _ fun z hz=>by
    have h1:=(g3 z (List.mem_of_mem_take hz)).1.2;have h2:=(g3 z (List.mem_of_mem_take hz)).2;simp only [er,cI,fI];omega
   have hN:(x.2.1.take k).length=k:=by rw [mA];omega
   have k_:(X++bh er (x.2.1.take k)).length≤200000000000:=by rw [cI];omega
   generalize kp:X++bh er (x.2.1.take k)=jX at gy k_ ⊢;refine U 8 ?_;refine O.q 1 rfl<|O.dI (k2) (h:=fun ZW R3 MU C7=>?_);obtain ⟨l1,m1,rfl,l2,l3⟩:=dZ.sh C7;refine U 2 ?_;refine O.aN (.p rfl) rfl af rfl rfl ((yF ai)) ?_;rintro _ _ ⟨pF,pJ,rfl,rfl⟩;refine O.aD (.p rfl) (.fH (T:=ag.u8) underlying22 cP aq rfl rfl an an bl bl) ?_;rintro _ _ ⟨afc,afn,rfl,rfl⟩;refine U 2 ?_;have Ao:(jX++bytesOf x.2.1[k].1).length≤300000000000:=by rw [cI,fI];omega
   have e2:jX.length+(bytesOf x.2.1[k].1).length=(jX++bytesOf x.2.1[k].1).length:=by rw [cI]
   rw [e2];clear l2 l3;refine U 4 ?_;refine O.q 1 rfl<|O.dI (k2) (h:=fun ZZ R6 Hj HE=>?_);obtain ⟨n1,n2,rfl,eC,fy⟩:=dZ.sh HE;refine U 2 ?_;have fy:=fy;refine O.aN (.p rfl) rfl af rfl rfl ((lX fy ai)) ?_;rintro _ _ ⟨ix,iy,rfl,rfl⟩;refine O.aD (.p rfl) (.fH (T:=ag.u8) underlying22 cP aq rfl rfl an an bl bl) ?_;rintro _ _ ⟨sV,s0,rfl,rfl⟩;refine U 3 ?_;have cZ:jX++bytesOf x.2.1[k].1++bytesOf x.2.1[k].2.1=X++bh er (x.2.1.take (k+1)):=by rw [← gy,← kV,kp];simp [er]
   refine S.hU (T:=ag.u8) (e:=5) (v' :=.slice sV (X++bh er (x.2.1.take (k+1))).length s0) (xs' :=X++bh er (x.2.1.take (k+1))) an (by rw [← cZ];simp only [cI]) cZ ?_;refine S.slot 3 (v' :=.slice sV (X++bh er (x.2.1.take (k+1))).length s0) rfl (by rw [← cZ];simp only [cI]) ?_;refine U 5 ?_;exact S.pw (ih (k+1) ((sV,s0)) ai ai)
  ·clear ih
   have hk:k=x.2.1.length:=by omega
   subst hk;rw [List.take_length,kI];refine U 6 ?_;exact S.rt results132 rfl hR ⟨s.1,s.2,rfl,rfl⟩
theorem Ya {f:aP} (h:¬ jW f.1):¬ Sp.kindOk f:=fun w=>h (AH w)
theorem Rd {f:aP} (h:¬ jW f.1):ec f=(f.1,f.2.1,0,[],[],dL,[],en,ek,[],ef,0,()):=by
 unfold ec;unfold jW at h;simp only [not_or] at h;obtain ⟨h1,h2,h3,h4,h5,h6,h7,h8,h9⟩:=h;rw [if_neg h1,if_neg h2,if_neg h3,if_neg h4,if_neg h5,if_neg h6,if_neg h7,if_neg h8,if_neg h9]
theorem Ro {b:Bool} (h:¬ b=true):b=false:=by cases b;rfl;exact absurd rfl h
theorem OP {r:Fr} {cs:List Value} {f:aP} (hf:ck.rel r cs f) (hl:kD f):aj prog 56 #[.agg cs.toArray] r [] (aF fun v aa=>v=.bool (decide (g_ f))∧aa=[]):=by
 have kr:=hf;obtain ⟨a8,a9,c6,cQ,cR,cS,cT,b_,dV,dW,cY,cX,dX,bk,bc,bB,bG,bD,bE,bF,bn,cx,cn,bJ,bI,cq,rfl,p1,p2,p3,gT,gL,jb,gU,bU,b7,bO,b5,bL,bN,bP,bW,bK,ja,e5,gS,bT,b6,fp,hY,iT,cc,bX,jq⟩:=ck.sh kr;have kO:=hl.2.1.2.2;refine aj.o func56 fun g hg R hR=>?_;have hf:=hf.mono hg;have bU:=bU.mono hg;have b7:=b7.mono hg;have bO:=bO.mono hg;have b5:=b5.mono hg;have bL:=bL.mono hg;have bN:=bN.mono hg;have bP:=bP.mono hg;have bW:=bW.mono hg;have bK:=bK.mono hg;have bT:=bT.mono hg;have b6:=b6.mono hg;have cc:=cc.mono hg;have bX:=bX.mono hg;have hroot:bx.rel g.h [.int .i64 f.2.2.2.2.2.1.1,.int .i64 f.2.2.2.2.2.1.2.1,.int .i64 f.2.2.2.2.2.1.2.2.1,.slice a8 f.2.2.2.2.2.1.2.2.2.1.length bk,.slice a9 f.2.2.2.2.2.1.2.2.2.2.1.length bc] f.2.2.2.2.2.1:=bx.mk gL jb gU bU b7;have mj:fB.rel g.h [.slice cQ f.2.2.2.2.2.2.2.1.1.length bG,.slice cR f.2.2.2.2.2.2.2.1.2.1.length bD] f.2.2.2.2.2.2.2.1:=fB.mk b5 bL;have oq:fj.rel g.h [aT f.2.2.2.2.2.2.2.2.1.1,.slice cS f.2.2.2.2.2.2.2.2.1.2.1.length bE,.slice cT f.2.2.2.2.2.2.2.2.1.2.2.1.length bF,.slice b_ f.2.2.2.2.2.2.2.2.1.2.2.2.1.length bn] f.2.2.2.2.2.2.2.2.1:=fj.mk bN bP bW
 have th:eK.rel g.h [.int .i64 f.2.2.2.2.2.2.2.2.2.2.1.1.1,.int .i64 f.2.2.2.2.2.2.2.2.2.2.1.1.2.1,.int .i64 f.2.2.2.2.2.2.2.2.2.2.1.1.2.2.1,.slice dW f.2.2.2.2.2.2.2.2.2.2.1.1.2.2.2.1.length cn,.slice cY f.2.2.2.2.2.2.2.2.2.2.1.1.2.2.2.2.1.length bJ,.int .i64 f.2.2.2.2.2.2.2.2.2.2.1.2.1.1,.int .i64 f.2.2.2.2.2.2.2.2.2.2.1.2.1.2.1,.int .i64 f.2.2.2.2.2.2.2.2.2.2.1.2.1.2.2.1,.slice cX f.2.2.2.2.2.2.2.2.2.2.1.2.1.2.2.2.1.length bI,.slice dX f.2.2.2.2.2.2.2.2.2.2.1.2.1.2.2.2.2.1.length cq] f.2.2.2.2.2.2.2.2.2.2.1:=eK.mk ja e5 gS bT b6 fp hY iT cc bX;refine S.seq<|S.region rfl<|O.aD (.p rfl) (.box (cs:=[_,_,_,_,_,_,_,_,_,_,_,_,_,_,_,_,_,_,_,_,_,_,_,_,_,_,_,_,_]) rfl rfl) ?_;rintro _ _ ⟨b1,rfl,rfl⟩;refine U 3 ?_;refine S.cy an fun g hs hm h1=>?_;replace hg:=bf hg hs;replace hR:=a_ hR hm
 try replace hf:=hf.mono hs
 try replace bU:=bU.mono hs
 try replace b7:=b7.mono hs
 try replace bO:=bO.mono hs
 try replace b5:=b5.mono hs
 try replace bL:=bL.mono hs
 try replace bN:=bN.mono hs
 try replace bP:=bP.mono hs
 try replace bW:=bW.mono hs
 try replace bK:=bK.mono hs
 try replace bT:=bT.mono hs
 try replace b6:=b6.mono hs
 try replace cc:=cc.mono hs
 try replace bX:=bX.mono hs
 try replace hroot:=hroot.mono hs
 try replace mj:=mj.mono hs
 try replace oq:=oq.mono hs
 try replace th:=th.mono hs
 clear hs hm;refine U 5 ?_;refine O.op (.p rfl) (.build (cs:=[_,_,_,_,_,_,_,_,_,_,_,_,_,_,_,_,_,_,_,_,_,_,_,_,_,_,_,_,_]) underlying41 rfl rfl rfl rfl rfl)<|O.aD (.p rfl) (.alloc (cs:=[.int .u8 0,.int .i64 0,.int .i64 0,.string ⟨#[]⟩,.string ⟨#[]⟩,.int .i64 0,.int .i64 0,.int .i64 0,.slice none 0 0,.slice none 0 0,.slice none 0 0,.slice none 0 0,.slice none 0 0,.int .u8 0,.slice none 0 0,.slice none 0 0,.slice none 0 0,.slice none 0 0,.int .i64 0,.int .i64 0,.int .i64 0,.slice none 0 0,.slice none 0 0,.int .i64 0,.int .i64 0,.int .i64 0,.slice none 0 0,.slice none 0 0,.int .i64 0]) zeroValue41 rfl) ?_;rintro _ _ ⟨b3,rfl,rfl⟩;refine U 8 ?_;refine S.cH (b:=b3) (cs' :=[aT f.1,.int .i64 f.2.1,.int .i64 0,.string ⟨#[]⟩,.string ⟨#[]⟩,.int .i64 0,.int .i64 0,.int .i64 0,.slice none 0 0,.slice none 0 0,.slice none 0 0,.slice none 0 0,.slice none 0 0,.int .u8 0,.slice none 0 0,.slice none 0 0,.slice none 0 0,.slice none 0 0,.int .i64 0,.int .i64 0,.int .i64 0,.slice none 0 0,.slice none 0 0,.int .i64 0,.int .i64 0,.int .i64 0,.slice none 0 0,.slice none 0 0,.int .i64 0]) an rfl ?_;refine U 6 ?_;refine S.R_ (fun (x:List Value)=>ck.rel g.h x (ec f)) (fun (x:List Value)=>[(4,.bool (decide (Sp.kindOk f)))]) [(1,_),(3,_)] (fun (x:List Value)=>[obj b3 41 x]) aO (fun key=>?_) (fun x hx=>?_)
 ·have aW:=bS (g:=g)
  by_cases hin:jW f.1
  ·rcases id hin with e|e|e|e|e|e|e|e|e
   ·skip
    refine U 2 ?_;refine O.sT 13 rfl (by rw [e];rfl)<|U 9 ?_;refine O.nil<|S.cH (b:=b3) (cs' :=[aT f.1,.int .i64 f.2.1,.int .i64 f.2.2.1,.string ⟨#[]⟩,.string ⟨#[]⟩,.int .i64 0,.int .i64 0,.int .i64 0,.slice none 0 0,.slice none 0 0,.slice none 0 0,.slice none 0 0,.slice none 0 0,aT 0,.slice none 0 0,.slice none 0 0,.slice none 0 0,.slice none 0 0,.int .i64 0,.int .i64 0,.int .i64 0,.slice none 0 0,.slice none 0 0,.int .i64 0,.int .i64 0,.int .i64 0,.slice none 0 0,.slice none 0 0,.int .i64 0]) an rfl ?_;refine S.qq (fun (ok:Bool)=>ok=decide (Sp.kindOk f)) (fun (ok:Bool)=>[(4,.bool ok)]) [(1,_),(3,_)] (fun (ok:Bool)=>[obj b3 41 [aT f.1,.int .i64 f.2.1,.int .i64 f.2.2.1,.string ⟨#[]⟩,.string ⟨#[]⟩,.int .i64 0,.int .i64 0,.int .i64 0,.slice none 0 0,.slice none 0 0,.slice none 0 0,.slice none 0 0,.slice none 0 0,aT 0,.slice none 0 0,.slice none 0 0,.slice none 0 0,.slice none 0 0,.int .i64 0,.int .i64 0,.int .i64 0,.slice none 0 0,.slice none 0 0,.int .i64 0,.int .i64 0,.int .i64 0,.slice none 0 0,.slice none 0 0,.int .i64 0]]) aO (fun key=>?_) (fun ok hx=>?_)
    ·have hm2:=bS (g:=g)
     by_cases q0:0≤f.2.2.1
     ·skip
      by_cases q1:f.2.2.1≤3
      ·skip
       have lg:Sp.kindOk f:=(yj e).2 ⟨q0,by omega⟩;refine U 4 ?_;refine O.sT 19 rfl (by exact zdt q0) ?_;refine U 4 ?_;refine O.sT 23 rfl (by exact zdt q1) ?_;refine O.q 2 rfl<|O.slot 4 (v' :=.bool (decide (Sp.kindOk f))) rfl (by exact congrArg Value.bool (zdt lg).symm) ?_;refine O.nil<|S.inBlock<|S.pk ?_ (S.weaken ?_ (key (decide (Sp.kindOk f)) dU))
       ·exact aC
       repeat (first|exact Sub.nil|refine Sub.cons rfl ?_)
      ·have hno:¬ Sp.kindOk f:=fun w=>q1 (by have:=((yj e).1 w).2;omega)
       refine U 4 ?_;refine O.sT 19 rfl (by exact zdt q0)<|U 4 ?_;refine O.aB 23 rfl (by exact aA q1) ?_;refine O.q 2 rfl<|O.slot 4 (v' :=.bool (decide (Sp.kindOk f))) rfl (by exact congrArg Value.bool (aA hno).symm) ?_;refine O.nil<|S.inBlock<|S.pk ?_ (S.weaken ?_ (key (decide (Sp.kindOk f)) dU))
       ·exact aC
       repeat (first|exact Sub.nil|refine Sub.cons rfl ?_)
     ·have hno:¬ Sp.kindOk f:=fun w=>q0 ((yj e).1 w).1
      refine U 4 ?_;refine O.aB 19 rfl (by exact aA q0) ?_;refine O.q 6 rfl<|O.slot 4 (v' :=.bool (decide (Sp.kindOk f))) rfl (by exact congrArg Value.bool (aA hno).symm) ?_;refine O.nil<|S.inBlock<|S.pk ?_ (S.weaken ?_ (key (decide (Sp.kindOk f)) dU))
      ·exact aC
      repeat (first|exact Sub.nil|refine Sub.cons rfl ?_)
    ·subst hx
     refine S.pk ?_ (S.weaken ?_ (key ?_ ?_))
     ·exact aC
     repeat (first|exact Sub.nil|refine Sub.cons rfl ?_)
     rw [E2 e];exact ck.lp
   ·skip
    refine U 2 ?_;refine O.aB 13 rfl (by rw [e];rfl)<|U 6 ?_;refine O.sT 26 rfl (by rw [e];rfl)<|U 6 ?_;refine O.op (.p rfl) (.aJ (cs:=[_,_,_,_,_]) isAgg27 af rfl ((h1.drop 5).take 5))<|U 9 ?_;refine O.nil<|S.cH (b:=b3) (cs' :=[aT f.1,.int .i64 f.2.1,.int .i64 0,.string ⟨#[]⟩,.string ⟨#[]⟩,.int .i64 f.2.2.2.2.2.1.1,.int .i64 f.2.2.2.2.2.1.2.1,.int .i64 f.2.2.2.2.2.1.2.2.1,.slice a8 f.2.2.2.2.2.1.2.2.2.1.length bk,.slice a9 f.2.2.2.2.2.1.2.2.2.2.1.length bc,.slice c6 f.2.2.2.2.2.2.1.length bB,.slice none 0 0,.slice none 0 0,aT 0,.slice none 0 0,.slice none 0 0,.slice none 0 0,.slice none 0 0,.int .i64 0,.int .i64 0,.int .i64 0,.slice none 0 0,.slice none 0 0,.int .i64 0,.int .i64 0,.int .i64 0,.slice none 0 0,.slice none 0 0,.int .i64 0]) an rfl ?_
    refine S.qq (fun (ok:Bool)=>ok=decide (Sp.kindOk f)) (fun (ok:Bool)=>[(4,.bool ok)]) [(1,_),(3,_)] (fun (ok:Bool)=>[obj b3 41 [aT f.1,.int .i64 f.2.1,.int .i64 0,.string ⟨#[]⟩,.string ⟨#[]⟩,.int .i64 f.2.2.2.2.2.1.1,.int .i64 f.2.2.2.2.2.1.2.1,.int .i64 f.2.2.2.2.2.1.2.2.1,.slice a8 f.2.2.2.2.2.1.2.2.2.1.length bk,.slice a9 f.2.2.2.2.2.1.2.2.2.2.1.length bc,.slice c6 f.2.2.2.2.2.2.1.length bB,.slice none 0 0,.slice none 0 0,aT 0,.slice none 0 0,.slice none 0 0,.slice none 0 0,.slice none 0 0,.int .i64 0,.int .i64 0,.int .i64 0,.slice none 0 0,.slice none 0 0,.int .i64 0,.int .i64 0,.int .i64 0,.slice none 0 0,.slice none 0 0,.int .i64 0]]) aO (fun key=>?_) (fun ok hx=>?_)
    ·have hm2:=bS (g:=g)
     by_cases q0:dR f.2.2.2.2.2.1=true
     ·skip
      by_cases q1:f.2.2.2.2.2.2.1.length=64
      ·skip
       have lg:Sp.kindOk f:=(wA e).2 ⟨q0,q1⟩;refine U 2 ?_;refine O.op (.p rfl) (.aJ (cs:=[_,_,_,_,_]) isAgg27 af rfl ((h1.drop 5).take 5)) ?_;refine O.v0 (.p rfl) rfl af rfl rfl ((ju hroot)) ?_;refine O.sT 35 rfl (by exact q0) ?_;refine U 5 ?_;refine O.sT 40 rfl (by exact zdt ai) ?_;refine O.q 2 rfl<|O.slot 4 (v' :=.bool (decide (Sp.kindOk f))) rfl (by exact congrArg Value.bool (zdt lg).symm) ?_;refine O.nil<|S.inBlock<|S.pk ?_ (S.weaken ?_ (key (decide (Sp.kindOk f)) dU))
       ·exact aC
       repeat (first|exact Sub.nil|refine Sub.cons rfl ?_)
      ·have hno:¬ Sp.kindOk f:=fun w=>q1 ((wA e).1 w).2
       refine U 2 ?_;refine O.op (.p rfl) (.aJ (cs:=[_,_,_,_,_]) isAgg27 af rfl ((h1.drop 5).take 5)) ?_;refine O.v0 (.p rfl) rfl af rfl rfl ((ju hroot)) ?_;refine O.sT 35 rfl (by exact q0)<|U 5 ?_;refine O.aB 40 rfl (by exact aA ai) ?_;refine O.q 2 rfl<|O.slot 4 (v' :=.bool (decide (Sp.kindOk f))) rfl (by exact congrArg Value.bool (aA hno).symm) ?_;refine O.nil<|S.inBlock<|S.pk ?_ (S.weaken ?_ (key (decide (Sp.kindOk f)) dU))
       ·exact aC
       repeat (first|exact Sub.nil|refine Sub.cons rfl ?_)
     ·have hno:¬ Sp.kindOk f:=fun w=>q0 ((wA e).1 w).1
      refine U 2 ?_;refine O.op (.p rfl) (.aJ (cs:=[_,_,_,_,_]) isAgg27 af rfl ((h1.drop 5).take 5)) ?_;refine O.v0 (.p rfl) rfl af rfl rfl ((ju hroot)) ?_;refine O.aB 35 rfl (by exact Bool.eq_false_iff.2 q0) ?_;refine O.q 7 rfl<|O.slot 4 (v' :=.bool (decide (Sp.kindOk f))) rfl (by exact congrArg Value.bool (aA hno).symm) ?_;refine O.nil<|S.inBlock<|S.pk ?_ (S.weaken ?_ (key (decide (Sp.kindOk f)) dU))
      ·exact aC
      repeat (first|exact Sub.nil|refine Sub.cons rfl ?_)
    ·subst hx
     refine S.pk ?_ (S.weaken ?_ (key ?_ ?_))
     ·exact aC
     repeat (first|exact Sub.nil|refine Sub.cons rfl ?_)
     rw [E3 e];exact ck.lp
   ·skip
    refine U 2 ?_;refine O.aB 13 rfl (by rw [e];rfl)<|U 6 ?_;refine O.aB 26 rfl (by rw [e];rfl)<|U 6 ?_;refine O.sT 43 rfl (by rw [e];rfl)<|U 13 ?_;refine O.v0 (.p rfl) rfl af rfl rfl ((DA gT)) ?_;refine O.q 1 rfl<|O.slot 4 (v' :=.bool (decide (Sp.kindOk f))) rfl (by exact congrArg Value.bool (decide_eq_decide.2 (yl e)).symm) ?_;refine O.nil<|S.inBlock<|S.cH (b:=b3) (cs' :=[aT f.1,.int .i64 f.2.1,.int .i64 0,.string ⟨#[]⟩,.string (str f.2.2.2.2.1),.int .i64 0,.int .i64 0,.int .i64 0,.slice none 0 0,.slice none 0 0,.slice none 0 0,.slice none 0 0,.slice none 0 0,aT 0,.slice none 0 0,.slice none 0 0,.slice none 0 0,.slice none 0 0,.int .i64 0,.int .i64 0,.int .i64 0,.slice none 0 0,.slice none 0 0,.int .i64 0,.int .i64 0,.int .i64 0,.slice none 0 0,.slice none 0 0,.int .i64 0]) an rfl ?_
    refine S.pk ?_ (S.weaken ?_ (key ?_ ?_))
    ·exact aC
    repeat (first|exact Sub.nil|refine Sub.cons rfl ?_)
    rw [E4 e];exact ck.lp
   ·skip
    refine U 2 ?_;refine O.aB 13 rfl (by rw [e];rfl)<|U 6 ?_;refine O.aB 26 rfl (by rw [e];rfl)<|U 6 ?_;refine O.aB 43 rfl (by rw [e];rfl)<|U 6 ?_;refine O.sT 51 rfl (by rw [e];rfl)<|U 13 ?_;refine O.op (.p rfl) (.aJ (cs:=[_,_,_,_]) isAgg35 af rfl ((h1.drop 13).take 4))<|U 2 ?_;refine O.nil<|S.cH (b:=b3) (cs' :=[aT f.1,.int .i64 f.2.1,.int .i64 0,.string ⟨#[]⟩,.string (str f.2.2.2.2.1),.int .i64 0,.int .i64 0,.int .i64 0,.slice none 0 0,.slice none 0 0,.slice none 0 0,.slice none 0 0,.slice none 0 0,aT f.2.2.2.2.2.2.2.2.1.1,.slice cS f.2.2.2.2.2.2.2.2.1.2.1.length bE,.slice cT f.2.2.2.2.2.2.2.2.1.2.2.1.length bF,.slice b_ f.2.2.2.2.2.2.2.2.1.2.2.2.1.length bn,.slice none 0 0,.int .i64 0,.int .i64 0,.int .i64 0,.slice none 0 0,.slice none 0 0,.int .i64 0,.int .i64 0,.int .i64 0,.slice none 0 0,.slice none 0 0,.int .i64 0]) an rfl ?_
    refine S.qq (fun (ok:Bool)=>ok=decide (Sp.kindOk f)) (fun (ok:Bool)=>[(4,.bool ok)]) [(1,_),(3,_)] (fun (ok:Bool)=>[obj b3 41 [aT f.1,.int .i64 f.2.1,.int .i64 0,.string ⟨#[]⟩,.string (str f.2.2.2.2.1),.int .i64 0,.int .i64 0,.int .i64 0,.slice none 0 0,.slice none 0 0,.slice none 0 0,.slice none 0 0,.slice none 0 0,aT f.2.2.2.2.2.2.2.2.1.1,.slice cS f.2.2.2.2.2.2.2.2.1.2.1.length bE,.slice cT f.2.2.2.2.2.2.2.2.1.2.2.1.length bF,.slice b_ f.2.2.2.2.2.2.2.2.1.2.2.2.1.length bn,.slice none 0 0,.int .i64 0,.int .i64 0,.int .i64 0,.slice none 0 0,.slice none 0 0,.int .i64 0,.int .i64 0,.int .i64 0,.slice none 0 0,.slice none 0 0,.int .i64 0]]) aO (fun key=>?_) (fun ok hx=>?_)
    ·have hm2:=bS (g:=g)
     by_cases q0:lu f.2.2.2.2.1
     ·skip
      by_cases q1:gA f.2.2.2.2.2.2.2.2.1
      ·skip
       have lg:Sp.kindOk f:=(wB e).2 ⟨q0,q1⟩;refine U 3 ?_;refine O.v0 (.p rfl) rfl af rfl rfl ((DA gT)) ?_;refine O.sT 60 rfl (by exact zdt q0) ?_;refine U 2 ?_;refine O.op (.g rfl rfl) (.aJ (cs:=[_,_,_,_]) isAgg35 af rfl ((h1.drop 13).take 4)) ?_;refine O.v0 (.g rfl rfl) rfl af rfl rfl ((OK oq (fun y hy=>by have:=kO y hy;omega))) ?_;refine O.sT 64 rfl (by exact zdt q1) ?_;refine O.q 2 rfl<|O.slot 4 (v' :=.bool (decide (Sp.kindOk f))) rfl (by exact congrArg Value.bool (zdt lg).symm) ?_;refine O.nil<|S.inBlock<|S.pk ?_ (S.weaken ?_ (key (decide (Sp.kindOk f)) dU))
       ·exact aC
       repeat (first|exact Sub.nil|refine Sub.cons rfl ?_)
      ·have hno:¬ Sp.kindOk f:=fun w=>q1 ((wB e).1 w).2
       refine U 3 ?_;refine O.v0 (.p rfl) rfl af rfl rfl ((DA gT)) ?_;refine O.sT 60 rfl (by exact zdt q0)<|U 2 ?_;refine O.op (.g rfl rfl) (.aJ (cs:=[_,_,_,_]) isAgg35 af rfl ((h1.drop 13).take 4)) ?_;refine O.v0 (.g rfl rfl) rfl af rfl rfl ((OK oq (fun y hy=>by have:=kO y hy;omega))) ?_;refine O.aB 64 rfl (by exact aA q1) ?_;refine O.q 2 rfl<|O.slot 4 (v' :=.bool (decide (Sp.kindOk f))) rfl (by exact congrArg Value.bool (aA hno).symm) ?_;refine O.nil<|S.inBlock<|S.pk ?_ (S.weaken ?_ (key (decide (Sp.kindOk f)) dU))
       ·exact aC
       repeat (first|exact Sub.nil|refine Sub.cons rfl ?_)
     ·have hno:¬ Sp.kindOk f:=fun w=>q0 ((wB e).1 w).1
      refine U 3 ?_;refine O.v0 (.p rfl) rfl af rfl rfl ((DA gT)) ?_;refine O.aB 60 rfl (by exact aA q0) ?_;refine O.q 6 rfl<|O.slot 4 (v' :=.bool (decide (Sp.kindOk f))) rfl (by exact congrArg Value.bool (aA hno).symm) ?_;refine O.nil<|S.inBlock<|S.pk ?_ (S.weaken ?_ (key (decide (Sp.kindOk f)) dU))
      ·exact aC
      repeat (first|exact Sub.nil|refine Sub.cons rfl ?_)
    ·subst hx
     refine S.pk ?_ (S.weaken ?_ (key ?_ ?_))
     ·exact aC
     repeat (first|exact Sub.nil|refine Sub.cons rfl ?_)
     rw [E5 e];exact ck.lp
   ·skip
    refine U 2 ?_;refine O.aB 13 rfl (by rw [e];rfl)<|U 6 ?_;refine O.aB 26 rfl (by rw [e];rfl)<|U 6 ?_;refine O.aB 43 rfl (by rw [e];rfl)<|U 6 ?_;refine O.aB 51 rfl (by rw [e];rfl)<|U 6 ?_;refine O.sT 67 rfl (by rw [e];rfl)<|U 9 ?_;refine O.nil<|S.cH (b:=b3) (cs' :=[aT f.1,.int .i64 f.2.1,.int .i64 0,.string ⟨#[]⟩,.string ⟨#[]⟩,.int .i64 0,.int .i64 0,.int .i64 0,.slice none 0 0,.slice none 0 0,.slice none 0 0,.slice none 0 0,.slice none 0 0,aT 0,.slice none 0 0,.slice none 0 0,.slice none 0 0,.slice dV f.2.2.2.2.2.2.2.2.2.1.length cx,.int .i64 0,.int .i64 0,.int .i64 0,.slice none 0 0,.slice none 0 0,.int .i64 0,.int .i64 0,.int .i64 0,.slice none 0 0,.slice none 0 0,.int .i64 0]) an rfl ?_;refine S.qq (fun (ok:Bool)=>ok=decide (Sp.kindOk f)) (fun (ok:Bool)=>[(4,.bool ok)]) [(1,_),(3,_)] (fun (ok:Bool)=>[obj b3 41 [aT f.1,.int .i64 f.2.1,.int .i64 0,.string ⟨#[]⟩,.string ⟨#[]⟩,.int .i64 0,.int .i64 0,.int .i64 0,.slice none 0 0,.slice none 0 0,.slice none 0 0,.slice none 0 0,.slice none 0 0,aT 0,.slice none 0 0,.slice none 0 0,.slice none 0 0,.slice dV f.2.2.2.2.2.2.2.2.2.1.length cx,.int .i64 0,.int .i64 0,.int .i64 0,.slice none 0 0,.slice none 0 0,.int .i64 0,.int .i64 0,.int .i64 0,.slice none 0 0,.slice none 0 0,.int .i64 0]]) aO (fun key=>?_) (fun ok hx=>?_)
    ·have hm2:=bS (g:=g)
     by_cases q0:f.2.2.2.2.2.2.2.2.2.1.length=1
     ·obtain ⟨x,hx⟩:=List.length_eq_one_iff.1 q0
      have h0:0<f.2.2.2.2.2.2.2.2.2.1.length:=by omega
      have hx0:f.2.2.2.2.2.2.2.2.2.1[0]=x:=by simp only [hx,List.getElem_cons_zero]
      by_cases q1:fF x=true
      ·have lg:Sp.kindOk f:=(wC e).2 ⟨x,hx,q1⟩
       refine U 5 ?_;refine O.sT 74 rfl (by exact zdt ai)<|U 3 ?_;refine O.dI (bK) (h:=fun Z1 R8 Hl Ax=>?_);have hr:=Ax;obtain ⟨dM,je,iF,dN,jf,iG,rfl,k0,k1,k2,aI,cv,bV⟩:=bu.sh Ax;refine O.op (.g rfl rfl) (.aJ isAgg118 af rfl Hl) ?_;refine O.v0 (.g rfl rfl) rfl af rfl rfl ((wS (x:=x) (hx0 ▸ hr))) ?_;refine O.sT 80 rfl (by exact q1) ?_;refine O.q 2 rfl<|O.slot 4 (v' :=.bool (decide (Sp.kindOk f))) rfl (by exact congrArg Value.bool (zdt lg).symm) ?_;refine O.nil<|S.inBlock<|S.pk ?_ (S.weaken ?_ (key (decide (Sp.kindOk f)) dU))
       ·exact aC
       repeat (first|exact Sub.nil|refine Sub.cons rfl ?_)
      ·have hno:¬ Sp.kindOk f:=fun w=>by
        obtain ⟨z,hz,pV⟩:=(wC e).1 w;rw [hx] at hz;injection hz with hz;rw [← hz] at pV;exact q1 pV
       refine U 5 ?_;refine O.sT 74 rfl (by exact zdt ai)<|U 3 ?_;refine O.dI (bK) (h:=fun Z1 R8 Hl Ax=>?_);have hr:=Ax;obtain ⟨dM,je,iF,dN,jf,iG,rfl,k0,k1,k2,aI,cv,bV⟩:=bu.sh Ax;refine O.op (.g rfl rfl) (.aJ isAgg118 af rfl Hl) ?_;refine O.v0 (.g rfl rfl) rfl af rfl rfl ((wS (x:=x) (hx0 ▸ hr))) ?_;refine O.aB 80 rfl (by exact Ro q1) ?_;refine O.q 2 rfl<|O.slot 4 (v' :=.bool (decide (Sp.kindOk f))) rfl (by exact congrArg Value.bool (aA hno).symm) ?_;refine O.nil<|S.inBlock<|S.pk ?_ (S.weaken ?_ (key (decide (Sp.kindOk f)) dU))
       ·exact aC
       repeat (first|exact Sub.nil|refine Sub.cons rfl ?_)
     ·have hno:¬ Sp.kindOk f:=fun w=>by
       obtain ⟨z,hz,pV⟩:=(wC e).1 w;rw [hz] at q0;exact q0 rfl
      refine U 5 ?_;refine O.aB 74 rfl (by exact aA ai) ?_;refine O.q 8 rfl<|O.slot 4 (v' :=.bool (decide (Sp.kindOk f))) rfl (by exact congrArg Value.bool (aA hno).symm) ?_;refine O.nil<|S.inBlock<|S.pk ?_ (S.weaken ?_ (key (decide (Sp.kindOk f)) dU))
      ·exact aC
      repeat (first|exact Sub.nil|refine Sub.cons rfl ?_)
    ·subst hx
     refine S.pk ?_ (S.weaken ?_ (key ?_ ?_))
     ·exact aC
     repeat (first|exact Sub.nil|refine Sub.cons rfl ?_)
     rw [E6 e];exact ck.lp
   ·skip
    refine U 2 ?_;refine O.aB 13 rfl (by rw [e];rfl)<|U 6 ?_;refine O.aB 26 rfl (by rw [e];rfl)<|U 6 ?_;refine O.aB 43 rfl (by rw [e];rfl)<|U 6 ?_;refine O.aB 51 rfl (by rw [e];rfl)<|U 6 ?_;refine O.aB 67 rfl (by rw [e];rfl)<|U 6 ?_;refine O.sT 83 rfl (by rw [e];rfl)<|U 9 ?_;refine O.nil<|S.cH (b:=b3) (cs' :=[aT f.1,.int .i64 f.2.1,.int .i64 0,.string ⟨#[]⟩,.string ⟨#[]⟩,.int .i64 0,.int .i64 0,.int .i64 0,.slice none 0 0,.slice none 0 0,.slice none 0 0,.slice none 0 0,.slice none 0 0,aT 0,.slice none 0 0,.slice none 0 0,.slice none 0 0,.slice none 0 0,.int .i64 0,.int .i64 0,.int .i64 0,.slice none 0 0,.slice none 0 0,.int .i64 0,.int .i64 0,.int .i64 0,.slice none 0 0,.slice none 0 0,.int .i64 f.2.2.2.2.2.2.2.2.2.2.2.1]) an rfl ?_;refine S.qq (fun (ok:Bool)=>ok=decide (Sp.kindOk f)) (fun (ok:Bool)=>[(4,.bool ok)]) [(1,_),(3,_)] (fun (ok:Bool)=>[obj b3 41 [aT f.1,.int .i64 f.2.1,.int .i64 0,.string ⟨#[]⟩,.string ⟨#[]⟩,.int .i64 0,.int .i64 0,.int .i64 0,.slice none 0 0,.slice none 0 0,.slice none 0 0,.slice none 0 0,.slice none 0 0,aT 0,.slice none 0 0,.slice none 0 0,.slice none 0 0,.slice none 0 0,.int .i64 0,.int .i64 0,.int .i64 0,.slice none 0 0,.slice none 0 0,.int .i64 0,.int .i64 0,.int .i64 0,.slice none 0 0,.slice none 0 0,.int .i64 f.2.2.2.2.2.2.2.2.2.2.2.1]]) aO (fun key=>?_) (fun ok hx=>?_)
    ·have hm2:=bS (g:=g)
     by_cases q0:0≤f.2.2.2.2.2.2.2.2.2.2.2.1
     ·skip
      by_cases q1:f.2.2.2.2.2.2.2.2.2.2.2.1≤255
      ·skip
       have lg:Sp.kindOk f:=(ym e).2 ⟨q0,q1⟩;refine U 4 ?_;refine O.sT 89 rfl (by exact zdt q0) ?_;refine U 4 ?_;refine O.sT 93 rfl (by exact zdt q1) ?_;refine O.q 2 rfl<|O.slot 4 (v' :=.bool (decide (Sp.kindOk f))) rfl (by exact congrArg Value.bool (zdt lg).symm) ?_;refine O.nil<|S.inBlock<|S.pk ?_ (S.weaken ?_ (key (decide (Sp.kindOk f)) dU))
       ·exact aC
       repeat (first|exact Sub.nil|refine Sub.cons rfl ?_)
      ·have hno:¬ Sp.kindOk f:=fun w=>q1 ((ym e).1 w).2
       refine U 4 ?_;refine O.sT 89 rfl (by exact zdt q0)<|U 4 ?_;refine O.aB 93 rfl (by exact aA q1) ?_;refine O.q 2 rfl<|O.slot 4 (v' :=.bool (decide (Sp.kindOk f))) rfl (by exact congrArg Value.bool (aA hno).symm) ?_;refine O.nil<|S.inBlock<|S.pk ?_ (S.weaken ?_ (key (decide (Sp.kindOk f)) dU))
       ·exact aC
       repeat (first|exact Sub.nil|refine Sub.cons rfl ?_)
     ·have hno:¬ Sp.kindOk f:=fun w=>q0 ((ym e).1 w).1
      refine U 4 ?_;refine O.aB 89 rfl (by exact aA q0) ?_;refine O.q 6 rfl<|O.slot 4 (v' :=.bool (decide (Sp.kindOk f))) rfl (by exact congrArg Value.bool (aA hno).symm) ?_;refine O.nil<|S.inBlock<|S.pk ?_ (S.weaken ?_ (key (decide (Sp.kindOk f)) dU))
      ·exact aC
      repeat (first|exact Sub.nil|refine Sub.cons rfl ?_)
    ·subst hx
     refine S.pk ?_ (S.weaken ?_ (key ?_ ?_))
     ·exact aC
     repeat (first|exact Sub.nil|refine Sub.cons rfl ?_)
     rw [E7 e];exact ck.lp
   ·skip
    refine U 2 ?_;refine O.aB 13 rfl (by rw [e];rfl)<|U 6 ?_;refine O.aB 26 rfl (by rw [e];rfl)<|U 6 ?_;refine O.aB 43 rfl (by rw [e];rfl)<|U 6 ?_;refine O.aB 51 rfl (by rw [e];rfl)<|U 6 ?_;refine O.aB 67 rfl (by rw [e];rfl)<|U 6 ?_;refine O.aB 83 rfl (by rw [e];rfl)<|U 6 ?_;refine O.sT 96 rfl (by rw [e];rfl)<|U 13 ?_;refine O.v0 (.p rfl) rfl af rfl rfl ((u9 p3)) ?_;refine O.q 1 rfl<|O.slot 4 (v' :=.bool (decide (Sp.kindOk f))) rfl (by exact congrArg Value.bool (decide_eq_decide.2 (AG e)).symm) ?_;refine O.nil<|S.inBlock<|S.cH (b:=b3) (cs' :=[aT f.1,.int .i64 f.2.1,.int .i64 0,.string (str f.2.2.2.1),.string ⟨#[]⟩,.int .i64 0,.int .i64 0,.int .i64 0,.slice none 0 0,.slice none 0 0,.slice none 0 0,.slice none 0 0,.slice none 0 0,aT 0,.slice none 0 0,.slice none 0 0,.slice none 0 0,.slice none 0 0,.int .i64 0,.int .i64 0,.int .i64 0,.slice none 0 0,.slice none 0 0,.int .i64 0,.int .i64 0,.int .i64 0,.slice none 0 0,.slice none 0 0,.int .i64 0]) an rfl ?_
    refine S.pk ?_ (S.weaken ?_ (key ?_ ?_))
    ·exact aC
    repeat (first|exact Sub.nil|refine Sub.cons rfl ?_)
    rw [E8 e];exact ck.lp
   ·skip
    refine U 2 ?_;refine O.aB 13 rfl (by rw [e];rfl)<|U 6 ?_;refine O.aB 26 rfl (by rw [e];rfl)<|U 6 ?_;refine O.aB 43 rfl (by rw [e];rfl)<|U 6 ?_;refine O.aB 51 rfl (by rw [e];rfl)<|U 6 ?_;refine O.aB 67 rfl (by rw [e];rfl)<|U 6 ?_;refine O.aB 83 rfl (by rw [e];rfl)<|U 6 ?_;refine O.aB 96 rfl (by rw [e];rfl)<|U 6 ?_;refine O.sT 104 rfl (by rw [e];rfl)<|U 13 ?_;refine O.op (.p rfl) (.aJ (cs:=[_,_,_,_,_]) isAgg27 af rfl ((h1.drop 5).take 5))<|U 6 ?_;refine O.op (.p rfl) (.aJ (cs:=[_,_]) isAgg31 af rfl ((h1.drop 11).take 2))<|U 9 ?_;refine O.nil<|S.cH (b:=b3) (cs' :=[aT f.1,.int .i64 f.2.1,.int .i64 0,.string (str f.2.2.2.1),.string ⟨#[]⟩,.int .i64 f.2.2.2.2.2.1.1,.int .i64 f.2.2.2.2.2.1.2.1,.int .i64 f.2.2.2.2.2.1.2.2.1,.slice a8 f.2.2.2.2.2.1.2.2.2.1.length bk,.slice a9 f.2.2.2.2.2.1.2.2.2.2.1.length bc,.slice none 0 0,.slice cQ f.2.2.2.2.2.2.2.1.1.length bG,.slice cR f.2.2.2.2.2.2.2.1.2.1.length bD,aT 0,.slice none 0 0,.slice none 0 0,.slice none 0 0,.slice dV f.2.2.2.2.2.2.2.2.2.1.length cx,.int .i64 0,.int .i64 0,.int .i64 0,.slice none 0 0,.slice none 0 0,.int .i64 0,.int .i64 0,.int .i64 0,.slice none 0 0,.slice none 0 0,.int .i64 0]) an rfl ?_
    refine S.qq (fun (ok:Bool)=>ok=decide (Sp.kindOk f)) (fun (ok:Bool)=>[(4,.bool ok)]) [(1,_),(3,_)] (fun (ok:Bool)=>[obj b3 41 [aT f.1,.int .i64 f.2.1,.int .i64 0,.string (str f.2.2.2.1),.string ⟨#[]⟩,.int .i64 f.2.2.2.2.2.1.1,.int .i64 f.2.2.2.2.2.1.2.1,.int .i64 f.2.2.2.2.2.1.2.2.1,.slice a8 f.2.2.2.2.2.1.2.2.2.1.length bk,.slice a9 f.2.2.2.2.2.1.2.2.2.2.1.length bc,.slice none 0 0,.slice cQ f.2.2.2.2.2.2.2.1.1.length bG,.slice cR f.2.2.2.2.2.2.2.1.2.1.length bD,aT 0,.slice none 0 0,.slice none 0 0,.slice none 0 0,.slice dV f.2.2.2.2.2.2.2.2.2.1.length cx,.int .i64 0,.int .i64 0,.int .i64 0,.slice none 0 0,.slice none 0 0,.int .i64 0,.int .i64 0,.int .i64 0,.slice none 0 0,.slice none 0 0,.int .i64 0]]) aO (fun key=>?_) (fun ok hx=>?_)
    ·have hm2:=bS (g:=g)
     by_cases q0:fL f.2.2.2.1
     ·skip
      by_cases q1:dR f.2.2.2.2.2.1=true
      ·skip
       by_cases bg:js f.2.2.2.2.2.2.2.1
       ·skip
        by_cases ei:ez f.2.2.2.2.2.2.2.2.2.1
        ·skip
         by_cases jt:0<f.2.2.2.2.2.2.2.2.2.1.length
         ·by_cases h_:f.2.2.2.2.2.2.2.2.2.1[0].1=f.2.2.2.1
          ·have lg:Sp.kindOk f:=(qS e).2 ⟨q0,q1,bg,ei,fun _=>h_⟩
           refine S.aY (L:=.range 35) F.mixed af ?_;refine U 2 ?_;refine ah.v0 (.p rfl) af rfl af rfl rfl ((u9 p3)) ?_;refine ah.sT 119 rfl (by exact zdt q0)<|U 2 ?_;refine .quiet (.g rfl rfl) rfl (fun _=>.aJ (cs:=[_,_,_,_,_]) isAgg27 af rfl ((h1.drop 5).take 5)) ?_;refine ah.v0 (.g rfl rfl) af rfl af rfl rfl ((ju hroot)) ?_;refine ah.sT 123 rfl (by exact q1)<|U 3 ?_;refine .quiet (.g rfl rfl) rfl (fun _=>.aJ (cs:=[_,_]) isAgg31 af rfl ((h1.drop 11).take 2)) ?_;refine ah.v0 (.g rfl rfl) af rfl af rfl rfl ((A7 mj)) ?_;refine ah.sT 128 rfl (by exact zdt bg)<|U 4 ?_;refine ah.v0 (.g rfl rfl) af rfl af rfl rfl ((r5 bK)) ?_;refine ah.sT 133 rfl (by exact zdt ei)<|U 6 ?_;refine ah.aB 139 rfl (by exact aA ai)<|U 3 ?_;refine ah.dI (bK) (h:=fun ZU RZ VO Hz=>?_);obtain ⟨dM,je,iF,dN,jf,iG,rfl,k0,k1,k2,aI,cv,bV⟩:=bu.sh Hz;refine U 4 ?_;refine .quiet (.g rfl rfl) rfl (fun _=>.e4 rfl rfl)<|ah.sT 148 rfl (by exact zdt (congrArg (fun l=>(str l).toList) h_)) ?_;refine ah.q 3 rfl<|ah.slot 4 (v' :=.bool (decide (Sp.kindOk f))) rfl (by exact congrArg Value.bool (zdt lg).symm) ?_;refine bt.nil<|S.inBlock<|S.pk ?_ (S.weaken ?_ (key (decide (Sp.kindOk f)) dU))
           ·exact aC
           repeat (first|exact Sub.nil|refine Sub.cons rfl ?_)
          ·have hno:¬ Sp.kindOk f:=fun w=>h_ (((qS e).1 w).2.2.2.2 jt)
           refine S.aY (L:=.range 35) F.mixed af ?_;refine U 2 ?_;refine ah.v0 (.p rfl) af rfl af rfl rfl ((u9 p3)) ?_;refine ah.sT 119 rfl (by exact zdt q0)<|U 2 ?_;refine .quiet (.g rfl rfl) rfl (fun _=>.aJ (cs:=[_,_,_,_,_]) isAgg27 af rfl ((h1.drop 5).take 5)) ?_;refine ah.v0 (.g rfl rfl) af rfl af rfl rfl ((ju hroot)) ?_;refine ah.sT 123 rfl (by exact q1)<|U 3 ?_;refine .quiet (.g rfl rfl) rfl (fun _=>.aJ (cs:=[_,_]) isAgg31 af rfl ((h1.drop 11).take 2)) ?_;refine ah.v0 (.g rfl rfl) af rfl af rfl rfl ((A7 mj)) ?_;refine ah.sT 128 rfl (by exact zdt bg)<|U 4 ?_;refine ah.v0 (.g rfl rfl) af rfl af rfl rfl ((r5 bK)) ?_;refine ah.sT 133 rfl (by exact zdt ei)<|U 6 ?_;refine ah.aB 139 rfl (by exact aA ai)<|U 3 ?_;refine ah.dI (bK) (h:=fun ZU RZ VO Hz=>?_);obtain ⟨dM,je,iF,dN,jf,iG,rfl,k0,k1,k2,aI,cv,bV⟩:=bu.sh Hz;refine U 4 ?_;refine .quiet (.g rfl rfl) rfl (fun _=>.e4 rfl rfl)<|ah.aB 148 rfl (by exact aA (fun w=>h_ (eO w))) ?_;refine ah.q 3 rfl<|ah.slot 4 (v' :=.bool (decide (Sp.kindOk f))) rfl (by exact congrArg Value.bool (aA hno).symm) ?_;refine bt.nil<|S.inBlock<|S.pk ?_ (S.weaken ?_ (key (decide (Sp.kindOk f)) dU))
           ·exact aC
           repeat (first|exact Sub.nil|refine Sub.cons rfl ?_)
         ·have lg:Sp.kindOk f:=(qS e).2 ⟨q0,q1,bg,ei,fun w=>absurd w jt⟩
          refine S.aY (L:=.range 35) F.mixed af ?_;refine U 2 ?_;refine ah.v0 (.p rfl) af rfl af rfl rfl ((u9 p3)) ?_;refine ah.sT 119 rfl (by exact zdt q0)<|U 2 ?_;refine .quiet (.g rfl rfl) rfl (fun _=>.aJ (cs:=[_,_,_,_,_]) isAgg27 af rfl ((h1.drop 5).take 5)) ?_;refine ah.v0 (.g rfl rfl) af rfl af rfl rfl ((ju hroot)) ?_;refine ah.sT 123 rfl (by exact q1)<|U 3 ?_;refine .quiet (.g rfl rfl) rfl (fun _=>.aJ (cs:=[_,_]) isAgg31 af rfl ((h1.drop 11).take 2)) ?_;refine ah.v0 (.g rfl rfl) af rfl af rfl rfl ((A7 mj)) ?_;refine ah.sT 128 rfl (by exact zdt bg)<|U 4 ?_;refine ah.v0 (.g rfl rfl) af rfl af rfl rfl ((r5 bK)) ?_;refine ah.sT 133 rfl (by exact zdt ei)<|U 6 ?_;refine ah.sT 139 rfl (by exact zdt ai) ?_;refine ah.q 12 rfl<|ah.slot 4 (v' :=.bool (decide (Sp.kindOk f))) rfl (by exact congrArg Value.bool (zdt lg).symm) ?_;refine bt.nil<|S.inBlock<|S.pk ?_ (S.weaken ?_ (key (decide (Sp.kindOk f)) dU))
          ·exact aC
          repeat (first|exact Sub.nil|refine Sub.cons rfl ?_)
        ·have hno:¬ Sp.kindOk f:=fun w=>ei ((qS e).1 w).2.2.2.1
         refine S.aY (L:=.range 35) F.mixed af ?_;refine U 2 ?_;refine ah.v0 (.p rfl) af rfl af rfl rfl ((u9 p3)) ?_;refine ah.sT 119 rfl (by exact zdt q0)<|U 2 ?_;refine .quiet (.g rfl rfl) rfl (fun _=>.aJ (cs:=[_,_,_,_,_]) isAgg27 af rfl ((h1.drop 5).take 5)) ?_;refine ah.v0 (.g rfl rfl) af rfl af rfl rfl ((ju hroot)) ?_;refine ah.sT 123 rfl (by exact q1)<|U 3 ?_;refine .quiet (.g rfl rfl) rfl (fun _=>.aJ (cs:=[_,_]) isAgg31 af rfl ((h1.drop 11).take 2)) ?_;refine ah.v0 (.g rfl rfl) af rfl af rfl rfl ((A7 mj)) ?_;refine ah.sT 128 rfl (by exact zdt bg)<|U 4 ?_;refine ah.v0 (.g rfl rfl) af rfl af rfl rfl ((r5 bK)) ?_;refine ah.aB 133 rfl (by exact aA ei) ?_;refine ah.q 18 rfl<|ah.slot 4 (v' :=.bool (decide (Sp.kindOk f))) rfl (by exact congrArg Value.bool (aA hno).symm) ?_;refine bt.nil<|S.inBlock<|S.pk ?_ (S.weaken ?_ (key (decide (Sp.kindOk f)) dU))
         ·exact aC
         repeat (first|exact Sub.nil|refine Sub.cons rfl ?_)
       ·have hno:¬ Sp.kindOk f:=fun w=>bg ((qS e).1 w).2.2.1
        refine S.aY (L:=.range 35) F.mixed af ?_;refine U 2 ?_;refine ah.v0 (.p rfl) af rfl af rfl rfl ((u9 p3)) ?_;refine ah.sT 119 rfl (by exact zdt q0)<|U 2 ?_;refine .quiet (.g rfl rfl) rfl (fun _=>.aJ (cs:=[_,_,_,_,_]) isAgg27 af rfl ((h1.drop 5).take 5)) ?_;refine ah.v0 (.g rfl rfl) af rfl af rfl rfl ((ju hroot)) ?_;refine ah.sT 123 rfl (by exact q1)<|U 3 ?_;refine .quiet (.g rfl rfl) rfl (fun _=>.aJ (cs:=[_,_]) isAgg31 af rfl ((h1.drop 11).take 2)) ?_;refine ah.v0 (.g rfl rfl) af rfl af rfl rfl ((A7 mj)) ?_;refine ah.aB 128 rfl (by exact aA bg) ?_;refine ah.q 23 rfl<|ah.slot 4 (v' :=.bool (decide (Sp.kindOk f))) rfl (by exact congrArg Value.bool (aA hno).symm) ?_;refine bt.nil<|S.inBlock<|S.pk ?_ (S.weaken ?_ (key (decide (Sp.kindOk f)) dU))
        ·exact aC
        repeat (first|exact Sub.nil|refine Sub.cons rfl ?_)
      ·have hno:¬ Sp.kindOk f:=fun w=>q1 ((qS e).1 w).2.1
       refine S.aY (L:=.range 35) F.mixed af ?_;refine U 2 ?_;refine ah.v0 (.p rfl) af rfl af rfl rfl ((u9 p3)) ?_;refine ah.sT 119 rfl (by exact zdt q0)<|U 2 ?_;refine .quiet (.g rfl rfl) rfl (fun _=>.aJ (cs:=[_,_,_,_,_]) isAgg27 af rfl ((h1.drop 5).take 5)) ?_;refine ah.v0 (.g rfl rfl) af rfl af rfl rfl ((ju hroot)) ?_;refine ah.aB 123 rfl (by exact Bool.eq_false_iff.2 q1) ?_;refine ah.q 28 rfl<|ah.slot 4 (v' :=.bool (decide (Sp.kindOk f))) rfl (by exact congrArg Value.bool (aA hno).symm) ?_;refine bt.nil<|S.inBlock<|S.pk ?_ (S.weaken ?_ (key (decide (Sp.kindOk f)) dU))
       ·exact aC
       repeat (first|exact Sub.nil|refine Sub.cons rfl ?_)
     ·have hno:¬ Sp.kindOk f:=fun w=>q0 ((qS e).1 w).1
      refine S.aY (L:=.range 35) F.mixed af ?_;refine U 2 ?_;refine ah.v0 (.p rfl) af rfl af rfl rfl ((u9 p3)) ?_;refine ah.aB 119 rfl (by exact aA q0) ?_;refine ah.q 32 rfl<|ah.slot 4 (v' :=.bool (decide (Sp.kindOk f))) rfl (by exact congrArg Value.bool (aA hno).symm) ?_;refine bt.nil<|S.inBlock<|S.pk ?_ (S.weaken ?_ (key (decide (Sp.kindOk f)) dU))
      ·exact aC
      repeat (first|exact Sub.nil|refine Sub.cons rfl ?_)
    ·subst hx
     refine S.pk ?_ (S.weaken ?_ (key ?_ ?_))
     ·exact aC
     repeat (first|exact Sub.nil|refine Sub.cons rfl ?_)
     rw [E9 e];exact ck.lp
   ·skip
    refine U 2 ?_;refine O.aB 13 rfl (by rw [e];rfl)<|U 6 ?_;refine O.aB 26 rfl (by rw [e];rfl)<|U 6 ?_;refine O.aB 43 rfl (by rw [e];rfl)<|U 6 ?_;refine O.aB 51 rfl (by rw [e];rfl)<|U 6 ?_;refine O.aB 67 rfl (by rw [e];rfl)<|U 6 ?_;refine O.aB 83 rfl (by rw [e];rfl)<|U 6 ?_;refine O.aB 96 rfl (by rw [e];rfl)<|U 6 ?_;refine O.aB 104 rfl (by rw [e];rfl)<|U 6 ?_;refine O.sT 152 rfl (by rw [e];rfl)<|U 6 ?_;refine O.op (.p rfl) (.aJ (cs:=[_,_,_,_,_,_,_,_,_,_]) isAgg38 af rfl ((h1.drop 18).take 10))<|U 5 ?_;refine O.op (.p rfl) (.aJ (cs:=[_,_,_,_,_,_,_,_,_,_]) isAgg38 af rfl ((h1.drop 18).take 10)) ?_;refine O.v0 (.p rfl) rfl af rfl rfl ((Jl th)) ?_;refine O.q 1 rfl<|O.slot 4 (v' :=.bool (decide (Sp.kindOk f))) rfl (by exact congrArg Value.bool (by cases q:k6 f.2.2.2.2.2.2.2.2.2.2.1 with|true=>exact (zdt ((yo e).2 q)).symm|false=>exact (aA fun w=>by rw [(yo e).1 w] at q;cases q).symm)) ?_
    refine O.nil<|S.inBlock<|S.cH (b:=b3) (cs' :=[aT f.1,.int .i64 f.2.1,.int .i64 0,.string ⟨#[]⟩,.string ⟨#[]⟩,.int .i64 0,.int .i64 0,.int .i64 0,.slice none 0 0,.slice none 0 0,.slice none 0 0,.slice none 0 0,.slice none 0 0,aT 0,.slice none 0 0,.slice none 0 0,.slice none 0 0,.slice none 0 0,.int .i64 f.2.2.2.2.2.2.2.2.2.2.1.1.1,.int .i64 f.2.2.2.2.2.2.2.2.2.2.1.1.2.1,.int .i64 f.2.2.2.2.2.2.2.2.2.2.1.1.2.2.1,.slice dW f.2.2.2.2.2.2.2.2.2.2.1.1.2.2.2.1.length cn,.slice cY f.2.2.2.2.2.2.2.2.2.2.1.1.2.2.2.2.1.length bJ,.int .i64 f.2.2.2.2.2.2.2.2.2.2.1.2.1.1,.int .i64 f.2.2.2.2.2.2.2.2.2.2.1.2.1.2.1,.int .i64 f.2.2.2.2.2.2.2.2.2.2.1.2.1.2.2.1,.slice cX f.2.2.2.2.2.2.2.2.2.2.1.2.1.2.2.2.1.length bI,.slice dX f.2.2.2.2.2.2.2.2.2.2.1.2.1.2.2.2.2.1.length cq,.int .i64 0]) an rfl ?_
    refine S.pk ?_ (S.weaken ?_ (key ?_ ?_))
    ·exact aC
    repeat (first|exact Sub.nil|refine Sub.cons rfl ?_)
    rw [E_ e];exact ck.lp
  ·have hno:=Ya hin
   have n1:¬ f.1=1:=fun q=>hin (.inl q);have n2:¬ f.1=2:=fun q=>hin (.inr (.inl q));have eC:¬ f.1=3:=fun q=>hin (.inr (.inr (.inl q)));have fy:¬ f.1=4:=fun q=>hin (.inr (.inr (.inr (.inl q))));have o9:¬ f.1=5:=fun q=>hin (.inr (.inr (.inr (.inr (.inl q)))));have qW:¬ f.1=6:=fun q=>hin (.inr (.inr (.inr (.inr (.inr (.inl q))))));have Y8:¬ f.1=7:=fun q=>hin (.inr (.inr (.inr (.inr (.inr (.inr (.inl q)))))));have Y9:¬ f.1=8:=fun q=>hin (.inr (.inr (.inr (.inr (.inr (.inr (.inr (.inl q))))))));have Y_:¬ f.1=9:=fun q=>hin (.inr (.inr (.inr (.inr (.inr (.inr (.inr (.inr (q)))))))));refine U 2 ?_;refine O.aB 13 rfl (by exact aA fun w=>n1 (fk (b:=1).1 w)) ?_;refine U 6 ?_;refine O.aB 26 rfl (by exact aA fun w=>n2 (fk (b:=2).1 w)) ?_;refine U 6 ?_;refine O.aB 43 rfl (by exact aA fun w=>eC (fk (b:=3).1 w)) ?_;refine U 6 ?_;refine O.aB 51 rfl (by exact aA fun w=>fy (fk (b:=4).1 w)) ?_;refine U 6 ?_;refine O.aB 67 rfl (by exact aA fun w=>o9 (fk (b:=5).1 w)) ?_;refine U 6 ?_;refine O.aB 83 rfl (by exact aA fun w=>qW (fk (b:=6).1 w)) ?_;refine U 6 ?_;refine O.aB 96 rfl (by exact aA fun w=>Y8 (fk (b:=7).1 w)) ?_;refine U 6 ?_;refine O.aB 104 rfl (by exact aA fun w=>Y9 (fk (b:=8).1 w)) ?_;refine U 6 ?_
   refine O.aB 152 rfl (by exact aA fun w=>Y_ (fk (b:=9).1 w)) ?_;refine U 5 ?_;refine S.slot 4 (v' :=.bool (decide (Sp.kindOk f))) rfl (congrArg Value.bool (aA hno).symm) ?_;refine S.cH (b:=b3) (cs' :=[aT f.1,.int .i64 f.2.1,.int .i64 0,.string ⟨#[]⟩,.string ⟨#[]⟩,.int .i64 0,.int .i64 0,.int .i64 0,.slice none 0 0,.slice none 0 0,.slice none 0 0,.slice none 0 0,.slice none 0 0,aT 0,.slice none 0 0,.slice none 0 0,.slice none 0 0,.slice none 0 0,.int .i64 0,.int .i64 0,.int .i64 0,.slice none 0 0,.slice none 0 0,.int .i64 0,.int .i64 0,.int .i64 0,.slice none 0 0,.slice none 0 0,.int .i64 0]) an rfl ?_
   refine S.pk ?_ (S.weaken ?_ (key ?_ ?_))
   ·exact aC
   repeat (first|exact Sub.nil|refine Sub.cons rfl ?_)
   rw [Rd hin];exact ck.lp
 ·obtain ⟨d8,d9,d10,d11,d12,d14,d15,d16,d17,d21,d22,d26,d27,lF,kI,Co,Cp,Cq,Cr,Cs,Ct,Cu,qv,qw,qx,qy,rfl,s1,s2,q6,Bd,DR,Ps,Pt,Pu,Pv,abU,abV,abW,abX,abY,abZ,ab0,Pg,Ph,Pj,Pk,Pm,Pn,Po,Pp,Pq,Pr,ab1⟩:=ck.sh hx
  refine S.cy an fun g hs hm h3=>?_;replace hg:=bf hg hs;replace hR:=a_ hR hm
  try replace hf:=hf.mono hs
  try replace bU:=bU.mono hs
  try replace b7:=b7.mono hs
  try replace bO:=bO.mono hs
  try replace b5:=b5.mono hs
  try replace bL:=bL.mono hs
  try replace bN:=bN.mono hs
  try replace bP:=bP.mono hs
  try replace bW:=bW.mono hs
  try replace bK:=bK.mono hs
  try replace bT:=bT.mono hs
  try replace b6:=b6.mono hs
  try replace cc:=cc.mono hs
  try replace bX:=bX.mono hs
  try replace hroot:=hroot.mono hs
  try replace mj:=mj.mono hs
  try replace oq:=oq.mono hs
  try replace th:=th.mono hs
  try replace h1:=h1.mono hs
  try replace hx:=hx.mono hs
  clear hs hm
  by_cases q0:Sp.kindOk f
  ·by_cases q1:0≤f.2.1
   ·by_cases bg:f.2.1≤1073741824
    ·
     refine U 4 ?_;refine O.sT 160 rfl (by exact zdt q0)<|U 3 ?_;refine O.sT 163 rfl (by exact zdt q1)<|U 5 ?_;refine O.sT 168 rfl (by exact zdt bg) ?_;refine O.q 2 rfl<|O.op (.g rfl rfl) (.aJ isAgg41 af rfl h1) ?_;refine O.op (.g rfl rfl) (.aJ isAgg41 af rfl h3) ?_;refine O.v0 (.g rfl rfl) rfl af rfl rfl ((PA hf hx))<|U 3 ?_;exact S.rt results56 rfl hR ⟨congrArg Value.bool (decide_eq_decide.2 ⟨fun w=>⟨⟨q0,q1,bg⟩,w⟩,fun w=>w.2⟩),rfl⟩
    ·
     refine U 4 ?_;refine O.sT 160 rfl (by exact zdt q0)<|U 3 ?_;refine O.sT 163 rfl (by exact zdt q1)<|U 5 ?_;refine O.aB 168 rfl (by exact aA bg)<|U 8 ?_;exact S.rt results56 rfl hR ⟨congrArg Value.bool (aA fun w:g_ f=>bg w.1.2.2).symm,rfl⟩
   ·
    refine U 4 ?_;refine O.sT 160 rfl (by exact zdt q0)<|U 3 ?_;refine O.aB 163 rfl (by exact aA q1)<|U 13 ?_;exact S.rt results56 rfl hR ⟨congrArg Value.bool (aA fun w:g_ f=>q1 w.1.2.1).symm,rfl⟩
  ·
   refine U 4 ?_;refine O.aB 160 rfl (by exact aA q0)<|U 16 ?_;exact S.rt results56 rfl hR ⟨congrArg Value.bool (aA fun w:g_ f=>q0 w.1.1).symm,rfl⟩
end Go.Proofs.YtdjoggpacmpfnaaGreatDoor
