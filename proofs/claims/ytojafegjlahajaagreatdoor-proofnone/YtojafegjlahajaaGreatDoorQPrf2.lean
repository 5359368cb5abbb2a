/- Texts of this proof. -/
import Derived.Test.YtojafegjlahajaaGreatDoorQPrf1
import Derived.Test.YtojafegjlahajaaGreatDoorQSpDrawY
open Go Go.Sp Go.Proofs.Tryz
set_option maxRecDepth 100000
set_option maxHeartbeats 1000000
attribute [local irreducible] obj Own OwnP
namespace Go.Proofs.YtojafegjlahajaaGreatDoor
theorem back1_c {r:Fr} {l bs:Nat} {va:Value} {xs:List (List UInt8)} {J:List (Nat × Value)→SProp} (hb:At r ⟨bs,0,none⟩ [va]) (ha:Arr (Rp.slice Rp.u8) r va xs)
  (hy:∀ done y,BOk r xs (done++[y])→YCon prog l #[.int .i64 (y.1:Int),y.2] r [J done] (Ret fun u η=>u=.bool true∧η=[J (done++[y])])) :
  Con prog 290 #[yieldV l,.pointer (some ⟨bs,0,none⟩)] r [J []] (Ret fun _ η=>∃ ys,(BOk r xs ys∧ys.length=xs.length)∧η=[J ys]):=by
 have hbd:=ha.bound;have har:=ha;obtain ⟨a1,c1,rfl⟩:=ha.shape;refine Con.of (n:=19) _ rfl func290 rfl rfl rfl fun g hg R hR=>?_;have hb:=hb.mono hg;have ha:=ha.mono hg;refine S.seq<|S.region rfl<|O.op (.p rfl) (.loadAt flat109 rfl hb rfl) ?_;refine O.op (.p rfl) (.len rfl underlying109 rfl)<|O.op (.p rfl) (.sub rfl rfl (IntWalk.i64_in _ zC))<|O.q 1 rfl<|O.nil<|S.block<|S.slot 3 (v' :=.int .i64 ((xs.length:Int) - 1 - (([]:List (Nat × Value)).length:Int))) rfl (by congr 1;simp) ?_;refine S.loopK (ι:=List (Nat × Value)) (fun dn=>BOk r xs dn) (fun dn=>[(3,.int .i64 ((xs.length:Int) - 1 - (dn.length:Int)))]) [(0,_),(1,_)] (fun dn=>[J dn]) (fun dn=>xs.length - dn.length) ([]) (by exact BOk.nil) (.cons rfl (.nil)) (.cons rfl (.cons rfl (.nil))) rfl fun dn hx ih=>?_;have hm1:=meltRefl (g:=g);refine S.seq<|S.seq<|S.region rfl<|O.q 1 rfl<|O.op (.p rfl) (.geq rfl rfl)<|O.nil ?_
 first|refine S.condD rfl (fun h8=>?_) (fun h8=>?_)|refine S.condB rfl (fun h8=>?_) (fun h8=>?_)
 ·have hk:dn.length<xs.length:=by omega
  have hkz:((xs.length - 1 - dn.length:Nat):Int)=(xs.length:Int) - 1 - (dn.length:Int):=by omega
  refine S.skip<|S.seq<|S.block<|S.seq<|S.region rfl<|O.q 2 rfl<|O.slot 12 (v' :=.int .i64 ((xs.length - 1 - dn.length:Nat):Int)) rfl (by exact congrArg (Value.int .i64) hkz.symm) ?_;refine O.op (.p rfl) (.loadAt flat109 rfl hb rfl) ?_;refine O.q 1 rfl<|O.ib (.p rfl) underlying109 size24 rfl rfl (show _=(((xs.length - 1 - dn.length):Nat):Int) by omega) har hg (h:=fun p15 cs15 hp15 hrr15=>?_);have hr15:=Rp.rel.mono hrr15 hg;obtain ⟨v15,rfl,hq15⟩:=hrr15;have hq15:Arr Rp.u8 r v15 (xs.getD (xs.length - 1 - dn.length) []):=by rw [List.getD_eq_getElem?_getD,List.getElem?_eq_getElem zC];exact hq15
  refine O.op (.p rfl) (.loadAt flat24 rfl hp15 rfl) ?_;refine O.yieldSs (.p rfl) rfl rfl rfl zJ ((hy dn (xs.length - 1 - dn.length,v15) (BOk.snoc ‹_› hk rfl hq15)).sub hg) ?_;rintro _ _ ⟨rfl,rfl⟩;refine O.op (.p rfl) (.not rfl)<|O.sF 18 rfl zG ?_;refine O.nil<|S.condF rfl<|S.skip<|S.inBlock<|S.region rfl<|O.q 1 rfl<|O.op (.p rfl) (.sub rfl rfl (IntWalk.i64_in _ zC))<|O.q 1 rfl<|O.nil ?_;simp only [List.cons_append,List.nil_append];refine S.slot 3 (v' :=.int .i64 ((xs.length:Int) - 1 - ((dn++[(xs.length - 1 - dn.length,v15)]).length:Int))) rfl (by congr 1;simp;omega) ?_;exact S.pw (ih (dn++[(xs.length - 1 - dn.length,v15)]) (by exact BOk.snoc ‹_› hk rfl hq15) (by rw [List.length_append,List.length_singleton];omega))
 ·clear ih
  have hbo:BOk r xs dn:=‹_›;have hk:=hbo.1;refine S.exit rfl<|S.end0 results290 fun w hw=>Holds.end_ hR hw ?_;exact pk ⟨dn,⟨hbo,by omega⟩,rfl⟩
theorem back_c {r:Fr} {a1:Option Addr} {n1 c1:Nat}:Con prog 219 #[.slice a1 n1 c1] r [] (Ret fun v η=>∃ b,v=.func (.func 290) #[] #[.pointer (some ⟨b,0,none⟩)]∧η=[obj b 109 [.slice a1 n1 c1]]):=by
 refine Con.of (n:=4) _ rfl func219 rfl rfl rfl fun g hg R hR=>?_;refine S.seq<|S.region rfl<|O.opE (.p rfl) (.box (cs:=[_]) rfl rfl) ?_;rintro _ _ ⟨b1,rfl,rfl⟩;refine O.q 1 rfl<|O.nil<|S.seq<|S.region rfl<|O.op (.p rfl) (.mkFunc rfl rfl)<|O.q 1 rfl<|O.nil ?_;exact S.rt results219 rfl hR ⟨_,rfl,rfl⟩
theorem up_c {r:Fr} {b:Nat}:Con prog 135 #[.pointer (some ⟨b,0,none⟩)] r [] (Ret fun v η=>∃ bw,v=.func (.func 217) #[] #[.pointer (some ⟨bw,0,none⟩)]∧η=[obj bw 198 [.pointer (some ⟨b,0,none⟩)]]):=by
 refine Con.of (n:=4) _ rfl func135 rfl rfl rfl fun g hg R hR=>?_;refine S.seq<|S.region rfl<|O.opE (.p rfl) (.box (cs:=[_]) rfl rfl) ?_;rintro _ _ ⟨b1,rfl,rfl⟩;refine O.q 1 rfl<|O.nil<|S.seq<|S.region rfl<|O.op (.p rfl) (.mkFunc rfl rfl)<|O.q 1 rfl<|O.nil ?_;exact S.rt results135 rfl hR ⟨_,rfl,rfl⟩
end Go.Proofs.YtojafegjlahajaaGreatDoor
