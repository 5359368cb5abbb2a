/- Texts of this proof. -/
import Derived.Test.YtojafegjlahajaaGreatDoorProg
import Derived.Test.YtojafegjlahajaaGreatDoorQSpDefer
import Derived.KernelRfl
open Go Go.Sp Go.Proofs.Tryz
set_option maxRecDepth 100000
namespace Go.Proofs.YtojafegjlahajaaGreatDoor
theorem wS:dI prog 102 7 112 [.string ⟨#[]⟩,.int .i64 0,.int .i64 0,.slice none 0 0,.bool false,.slice none 0 0,.slice none 0 0]:=dI.mk (by kernel_rfl) rfl
theorem rL:dI prog 191 2 16 [.int .i64 0,.int .i64 0]:=dI.mk (by kernel_rfl) rfl
theorem Oe:dI prog 22 1 24 [.slice none 0 0]:=dI.mk (by kernel_rfl) rfl
theorem tf:dI prog 220 8 136 [.string ⟨#[]⟩,.int .i64 0,.int .i64 0,.slice none 0 0,.bool false,.slice none 0 0,.slice none 0 0,.slice none 0 0]:=dI.mk (by kernel_rfl) rfl
theorem iu:dI prog 24 1 24 [.slice none 0 0]:=dI.mk (by kernel_rfl) rfl
theorem wT:dI prog 3 1 8 [.int .i64 0]:=dI.mk (by kernel_rfl) rfl
theorem lg:dI prog 31 2 40 [.string ⟨#[]⟩,.slice none 0 0]:=dI.mk (by kernel_rfl) rfl
theorem eT:dI prog 5 1 1 [.int .u8 0]:=dI.mk (by kernel_rfl) rfl
theorem gv:dI prog 9 1 16 [.string ⟨#[]⟩]:=dI.mk (by kernel_rfl) rfl
theorem eU:Go.Sp.dY prog 100=true:=by kernel_rfl
theorem nA:Go.Sp.dY prog 104=true:=by kernel_rfl
theorem zy:Go.Sp.dY prog 140=true:=by kernel_rfl
theorem Ov:Go.Sp.dY prog 169=true:=by kernel_rfl
theorem zz:Go.Sp.dY prog 213=true:=by kernel_rfl
theorem ji:Go.Sp.dY prog 216=true:=by kernel_rfl
theorem dO:Go.Sp.dY prog 22=true:=by kernel_rfl
theorem eP:Go.Sp.dY prog 23=true:=by kernel_rfl
theorem Ow:Go.Sp.dY prog 234=true:=by kernel_rfl
theorem bl:Go.Sp.dY prog 24=true:=by kernel_rfl
theorem dV:Go.Sp.dY prog 25=true:=by kernel_rfl
theorem gi:Go.Sp.dY prog 274=true:=by kernel_rfl
theorem cz:Go.Sp.dY prog 3=true:=by kernel_rfl
theorem iv:Go.Sp.dY prog 4=true:=by kernel_rfl
theorem o6:Go.Sp.dY prog 42=true:=by kernel_rfl
theorem o7:Go.Sp.dY prog 423=true:=by kernel_rfl
theorem oe:Go.Sp.dY prog 44=true:=by kernel_rfl
theorem lq:Go.Sp.dY prog 5=true:=by kernel_rfl
theorem e9:Go.Sp.dY prog 53=true:=by kernel_rfl
theorem lW:Go.Sp.dY prog 75=true:=by kernel_rfl
theorem Ox:Go.Sp.dY prog 82=true:=by kernel_rfl
theorem bQ:Go.Sp.dY prog 9=true:=by kernel_rfl
theorem e6:c8 prog 102 0=some 0:=by kernel_rfl
theorem vf:c8 prog 102 1=some 1:=by kernel_rfl
theorem vg:c8 prog 102 2=some 2:=by kernel_rfl
theorem fF:c8 prog 102 3=some 3:=by kernel_rfl
theorem vh:c8 prog 102 4=some 4:=by kernel_rfl
theorem gj:c8 prog 102 5=some 5:=by kernel_rfl
theorem iS:c8 prog 102 6=some 6:=by kernel_rfl
theorem zB:c8 prog 142 0=some 0:=by kernel_rfl
theorem zC:c8 prog 142 1=some 1:=by kernel_rfl
theorem CW:c8 prog 151 0=some 0:=by kernel_rfl
theorem tq:c8 prog 191 0=some 0:=by kernel_rfl
theorem wW:c8 prog 191 1=some 1:=by kernel_rfl
theorem jj:c8 prog 218 0=some 0:=by kernel_rfl
theorem rP:c8 prog 220 0=some 0:=by kernel_rfl
theorem zD:c8 prog 220 1=some 7:=by kernel_rfl
theorem rQ:c8 prog 271 0=some 0:=by kernel_rfl
theorem CX:c8 prog 278 0=some 0:=by kernel_rfl
theorem nB:c8 prog 278 1=some 8:=by kernel_rfl
theorem CY:c8 prog 278 2=some 9:=by kernel_rfl
theorem Oz:c8 prog 278 3=some 10:=by kernel_rfl
theorem eR:c8 prog 27 0=some 0:=by kernel_rfl
theorem nC:c8 prog 27 1=some 1:=by kernel_rfl
theorem nD:c8 prog 27 2=some 2:=by kernel_rfl
theorem nE:c8 prog 27 3=some 3:=by kernel_rfl
theorem qG:c8 prog 306 0=some 0:=by kernel_rfl
theorem ef:c8 prog 31 0=some 0:=by kernel_rfl
theorem eA:c8 prog 31 1=some 1:=by kernel_rfl
theorem fG:c8 prog 415 0=some 0:=by kernel_rfl
theorem wX:c8 prog 439 0=some 0:=by kernel_rfl
theorem vi:c8 prog 441 0=some 0:=by kernel_rfl
theorem OA:c8 prog 441 1=some 1:=by kernel_rfl
theorem zF:c8 prog 441 2=some 2:=by kernel_rfl
theorem gG:c8 prog 74 0=some 0:=by kernel_rfl
theorem jJ:c8 prog 74 1=some 1:=by kernel_rfl
theorem lu:c8 prog 77 0=some 0:=by kernel_rfl
theorem vj:c8 prog 77 1=some 2:=by kernel_rfl
theorem p5:c8 prog 77 2=some 3:=by kernel_rfl
theorem wY:c8 prog 81 0=some 0:=by kernel_rfl
theorem vk:c8 prog 81 1=some 1:=by kernel_rfl
theorem Ig:c8 prog 81 2=some 2:=by kernel_rfl
theorem CZ:c8 prog 81 3=some 3:=by kernel_rfl
theorem OB:c8 prog 81 4=some 4:=by kernel_rfl
theorem wZ:c8 prog 85 0=some 0:=by kernel_rfl
theorem w5:c8 prog 87 0=some 0:=by kernel_rfl
theorem zG:c8 prog 87 1=some 1:=by kernel_rfl
theorem vl:c8 prog 89 0=some 0:=by kernel_rfl
theorem qH:c8 prog 89 1=some 1:=by kernel_rfl
theorem zH:c8 prog 89 2=some 3:=by kernel_rfl
theorem qI:c8 prog 89 3=some 4:=by kernel_rfl
theorem bz:prog.follows .mixedOrders=true:=by kernel_rfl
theorem mz:(prog.info? 102).map (·.size)=some 7:=by kernel_rfl
theorem oG:(prog.info? 191).map (·.size)=some 2:=by kernel_rfl
theorem WZ:(prog.info? 22).map (·.size)=some 1:=by kernel_rfl
theorem gC:(prog.info? 220).map (·.size)=some 8:=by kernel_rfl
theorem uA:(prog.info? 24).map (·.size)=some 1:=by kernel_rfl
theorem gr:(prog.info? 274).map (·.size)=some 1:=by kernel_rfl
theorem sH:(prog.info? 3).map (·.size)=some 1:=by kernel_rfl
theorem cQ:(prog.info? 31).map (·.size)=some 2:=by kernel_rfl
theorem F1:(prog.info? 4).map (·.size)=some 1:=by kernel_rfl
theorem fO:(prog.info? 5).map (·.size)=some 1:=by kernel_rfl
theorem gb:(prog.info? 9).map (·.size)=some 1:=by kernel_rfl
end Go.Proofs.YtojafegjlahajaaGreatDoor
