/- Texts of this proof. -/
import Derived.Test.YtojafegjlahajaaGreatDoorProg
import Derived.Test.YtojafegjlahajaaGreatDoorQSpOwn
import Derived.KernelRfl
open Go Go.Sp Go.Proofs.Tryz
set_option maxRecDepth 100000
namespace Go.Proofs.YtojafegjlahajaaGreatDoor
theorem zj:dG prog 102 7 112 [.string ⟨#[]⟩,.int .i64 0,.int .i64 0,.slice none 0 0,.bool false,.slice none 0 0,.slice none 0 0]:=dG.mk (by kernel_rfl) rfl
theorem rJ:dG prog 191 2 16 [.int .i64 0,.int .i64 0]:=dG.mk (by kernel_rfl) rfl
theorem NP:dG prog 22 1 24 [.slice none 0 0]:=dG.mk (by kernel_rfl) rfl
theorem s5:dG prog 220 8 136 [.string ⟨#[]⟩,.int .i64 0,.int .i64 0,.slice none 0 0,.bool false,.slice none 0 0,.slice none 0 0,.slice none 0 0]:=dG.mk (by kernel_rfl) rfl
theorem iC:dG prog 24 1 24 [.slice none 0 0]:=dG.mk (by kernel_rfl) rfl
theorem wU:dG prog 3 1 8 [.int .i64 0]:=dG.mk (by kernel_rfl) rfl
theorem lp:dG prog 31 2 40 [.string ⟨#[]⟩,.slice none 0 0]:=dG.mk (by kernel_rfl) rfl
theorem eR:dG prog 5 1 1 [.int .u8 0]:=dG.mk (by kernel_rfl) rfl
theorem gY:dG prog 9 1 16 [.string ⟨#[]⟩]:=dG.mk (by kernel_rfl) rfl
theorem eS:Go.Sp.dU prog 100=true:=by kernel_rfl
theorem ny:Go.Sp.dU prog 104=true:=by kernel_rfl
theorem zn:Go.Sp.dU prog 140=true:=by kernel_rfl
theorem N1:Go.Sp.dU prog 169=true:=by kernel_rfl
theorem zo:Go.Sp.dU prog 213=true:=by kernel_rfl
theorem jh:Go.Sp.dU prog 216=true:=by kernel_rfl
theorem ew:Go.Sp.dU prog 22=true:=by kernel_rfl
theorem ey:Go.Sp.dU prog 23=true:=by kernel_rfl
theorem N2:Go.Sp.dU prog 234=true:=by kernel_rfl
theorem bc:Go.Sp.dU prog 24=true:=by kernel_rfl
theorem dK:Go.Sp.dU prog 25=true:=by kernel_rfl
theorem gj:Go.Sp.dU prog 274=true:=by kernel_rfl
theorem cv:Go.Sp.dU prog 3=true:=by kernel_rfl
theorem ji:Go.Sp.dU prog 4=true:=by kernel_rfl
theorem o8:Go.Sp.dU prog 42=true:=by kernel_rfl
theorem o9:Go.Sp.dU prog 423=true:=by kernel_rfl
theorem oc:Go.Sp.dU prog 44=true:=by kernel_rfl
theorem lu:Go.Sp.dU prog 5=true:=by kernel_rfl
theorem e8:Go.Sp.dU prog 53=true:=by kernel_rfl
theorem lW:Go.Sp.dU prog 75=true:=by kernel_rfl
theorem N3:Go.Sp.dU prog 82=true:=by kernel_rfl
theorem bL:Go.Sp.dU prog 9=true:=by kernel_rfl
theorem e3:c4 prog 102 0=some 0:=by kernel_rfl
theorem vc:c4 prog 102 1=some 1:=by kernel_rfl
theorem ve:c4 prog 102 2=some 2:=by kernel_rfl
theorem fF:c4 prog 102 3=some 3:=by kernel_rfl
theorem vf:c4 prog 102 4=some 4:=by kernel_rfl
theorem gl:c4 prog 102 5=some 5:=by kernel_rfl
theorem iU:c4 prog 102 6=some 6:=by kernel_rfl
theorem zu:c4 prog 142 0=some 0:=by kernel_rfl
theorem zv:c4 prog 142 1=some 1:=by kernel_rfl
theorem CC:c4 prog 151 0=some 0:=by kernel_rfl
theorem s_:c4 prog 191 0=some 0:=by kernel_rfl
theorem wX:c4 prog 191 1=some 1:=by kernel_rfl
theorem jj:c4 prog 218 0=some 0:=by kernel_rfl
theorem rM:c4 prog 220 0=some 0:=by kernel_rfl
theorem zw:c4 prog 220 1=some 7:=by kernel_rfl
theorem rN:c4 prog 271 0=some 0:=by kernel_rfl
theorem CD:c4 prog 278 0=some 0:=by kernel_rfl
theorem nA:c4 prog 278 1=some 8:=by kernel_rfl
theorem CE:c4 prog 278 2=some 9:=by kernel_rfl
theorem N5:c4 prog 278 3=some 10:=by kernel_rfl
theorem ez:c4 prog 27 0=some 0:=by kernel_rfl
theorem lX:c4 prog 27 1=some 1:=by kernel_rfl
theorem lY:c4 prog 27 2=some 2:=by kernel_rfl
theorem lZ:c4 prog 27 3=some 3:=by kernel_rfl
theorem qH:c4 prog 306 0=some 0:=by kernel_rfl
theorem eA:c4 prog 31 0=some 0:=by kernel_rfl
theorem fG:c4 prog 31 1=some 1:=by kernel_rfl
theorem fH:c4 prog 415 0=some 0:=by kernel_rfl
theorem wY:c4 prog 439 0=some 0:=by kernel_rfl
theorem vg:c4 prog 441 0=some 0:=by kernel_rfl
theorem N6:c4 prog 441 1=some 1:=by kernel_rfl
theorem zx:c4 prog 441 2=some 2:=by kernel_rfl
theorem gN:c4 prog 74 0=some 0:=by kernel_rfl
theorem jP:c4 prog 74 1=some 1:=by kernel_rfl
theorem lz:c4 prog 77 0=some 0:=by kernel_rfl
theorem vh:c4 prog 77 1=some 2:=by kernel_rfl
theorem p6:c4 prog 77 2=some 3:=by kernel_rfl
theorem wZ:c4 prog 81 0=some 0:=by kernel_rfl
theorem vi:c4 prog 81 1=some 1:=by kernel_rfl
theorem HK:c4 prog 81 2=some 2:=by kernel_rfl
theorem CF:c4 prog 81 3=some 3:=by kernel_rfl
theorem N7:c4 prog 81 4=some 4:=by kernel_rfl
theorem w5:c4 prog 85 0=some 0:=by kernel_rfl
theorem w6:c4 prog 87 0=some 0:=by kernel_rfl
theorem CG:c4 prog 87 1=some 1:=by kernel_rfl
theorem vj:c4 prog 89 0=some 0:=by kernel_rfl
theorem rO:c4 prog 89 1=some 1:=by kernel_rfl
theorem zy:c4 prog 89 2=some 3:=by kernel_rfl
theorem tc:c4 prog 89 3=some 4:=by kernel_rfl
theorem bA:prog.follows .mixedOrders=true:=by kernel_rfl
theorem nQ:(prog.info? 102).map (·.size)=some 7:=by kernel_rfl
theorem oG:(prog.info? 191).map (·.size)=some 2:=by kernel_rfl
theorem Wi:(prog.info? 22).map (·.size)=some 1:=by kernel_rfl
theorem gF:(prog.info? 220).map (·.size)=some 8:=by kernel_rfl
theorem uo:(prog.info? 24).map (·.size)=some 1:=by kernel_rfl
theorem gu:(prog.info? 274).map (·.size)=some 1:=by kernel_rfl
theorem uq:(prog.info? 3).map (·.size)=some 1:=by kernel_rfl
theorem di:(prog.info? 31).map (·.size)=some 2:=by kernel_rfl
theorem FF:(prog.info? 4).map (·.size)=some 1:=by kernel_rfl
theorem fR:(prog.info? 5).map (·.size)=some 1:=by kernel_rfl
theorem gG:(prog.info? 9).map (·.size)=some 1:=by kernel_rfl
end Go.Proofs.YtojafegjlahajaaGreatDoor
