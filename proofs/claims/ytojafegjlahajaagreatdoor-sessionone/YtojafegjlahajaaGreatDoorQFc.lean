/- Texts of this proof. -/
import Derived.Test.YtojafegjlahajaaGreatDoorProg
import Derived.Test.YtojafegjlahajaaGreatDoorQSpOwn
import Derived.KernelRfl
open Go Go.Sp Go.Proofs.Tryz
set_option maxRecDepth 100000
namespace Go.Proofs.YtojafegjlahajaaGreatDoor
theorem yN:dy prog 102 7 112 [.string ⟨#[]⟩,.int .i64 0,.int .i64 0,.slice none 0 0,.bool false,.slice none 0 0,.slice none 0 0]:=dy.mk (by kernel_rfl) rfl
theorem rp:dy prog 191 2 16 [.int .i64 0,.int .i64 0]:=dy.mk (by kernel_rfl) rfl
theorem MS:dy prog 22 1 24 [.slice none 0 0]:=dy.mk (by kernel_rfl) rfl
theorem sI:dy prog 220 8 136 [.string ⟨#[]⟩,.int .i64 0,.int .i64 0,.slice none 0 0,.bool false,.slice none 0 0,.slice none 0 0,.slice none 0 0]:=dy.mk (by kernel_rfl) rfl
theorem gr:dy prog 24 1 24 [.slice none 0 0]:=dy.mk (by kernel_rfl) rfl
theorem wi:dy prog 3 1 8 [.int .i64 0]:=dy.mk (by kernel_rfl) rfl
theorem kV:dy prog 31 2 40 [.string ⟨#[]⟩,.slice none 0 0]:=dy.mk (by kernel_rfl) rfl
theorem eM:dy prog 5 1 1 [.int .u8 0]:=dy.mk (by kernel_rfl) rfl
theorem iG:dy prog 9 1 16 [.string ⟨#[]⟩]:=dy.mk (by kernel_rfl) rfl
theorem e5:Go.Sp.dR prog 100=true:=by kernel_rfl
theorem nh:Go.Sp.dR prog 104=true:=by kernel_rfl
theorem yQ:Go.Sp.dR prog 140=true:=by kernel_rfl
theorem M5:Go.Sp.dR prog 169=true:=by kernel_rfl
theorem yR:Go.Sp.dR prog 213=true:=by kernel_rfl
theorem iW:Go.Sp.dR prog 216=true:=by kernel_rfl
theorem eN:Go.Sp.dR prog 22=true:=by kernel_rfl
theorem ez:Go.Sp.dR prog 23=true:=by kernel_rfl
theorem M6:Go.Sp.dR prog 234=true:=by kernel_rfl
theorem bg:Go.Sp.dR prog 24=true:=by kernel_rfl
theorem dO:Go.Sp.dR prog 25=true:=by kernel_rfl
theorem gj:Go.Sp.dR prog 274=true:=by kernel_rfl
theorem cv:Go.Sp.dR prog 3=true:=by kernel_rfl
theorem ic:Go.Sp.dR prog 4=true:=by kernel_rfl
theorem nQ:Go.Sp.dR prog 42=true:=by kernel_rfl
theorem oG:Go.Sp.dR prog 423=true:=by kernel_rfl
theorem nR:Go.Sp.dR prog 44=true:=by kernel_rfl
theorem kX:Go.Sp.dR prog 5=true:=by kernel_rfl
theorem e6:Go.Sp.dR prog 53=true:=by kernel_rfl
theorem kK:Go.Sp.dR prog 75=true:=by kernel_rfl
theorem M7:Go.Sp.dR prog 82=true:=by kernel_rfl
theorem bV:Go.Sp.dR prog 9=true:=by kernel_rfl
theorem fw:c5 prog 102 0=some 0:=by kernel_rfl
theorem yT:c5 prog 102 1=some 1:=by kernel_rfl
theorem yU:c5 prog 102 2=some 2:=by kernel_rfl
theorem fQ:c5 prog 102 3=some 3:=by kernel_rfl
theorem yV:c5 prog 102 4=some 4:=by kernel_rfl
theorem gD:c5 prog 102 5=some 5:=by kernel_rfl
theorem jg:c5 prog 102 6=some 6:=by kernel_rfl
theorem yW:c5 prog 142 0=some 0:=by kernel_rfl
theorem yX:c5 prog 142 1=some 1:=by kernel_rfl
theorem Cb:c5 prog 151 0=some 0:=by kernel_rfl
theorem sN:c5 prog 191 0=some 0:=by kernel_rfl
theorem wm:c5 prog 191 1=some 1:=by kernel_rfl
theorem iX:c5 prog 218 0=some 0:=by kernel_rfl
theorem ry:c5 prog 220 0=some 0:=by kernel_rfl
theorem yY:c5 prog 220 1=some 7:=by kernel_rfl
theorem rz:c5 prog 271 0=some 0:=by kernel_rfl
theorem Cc:c5 prog 278 0=some 0:=by kernel_rfl
theorem ni:c5 prog 278 1=some 8:=by kernel_rfl
theorem Cd:c5 prog 278 2=some 9:=by kernel_rfl
theorem M_:c5 prog 278 3=some 10:=by kernel_rfl
theorem eA:c5 prog 27 0=some 0:=by kernel_rfl
theorem mj:c5 prog 27 1=some 1:=by kernel_rfl
theorem mm:c5 prog 27 2=some 2:=by kernel_rfl
theorem mo:c5 prog 27 3=some 3:=by kernel_rfl
theorem qn:c5 prog 306 0=some 0:=by kernel_rfl
theorem eB:c5 prog 31 0=some 0:=by kernel_rfl
theorem gl:c5 prog 31 1=some 1:=by kernel_rfl
theorem fA:c5 prog 415 0=some 0:=by kernel_rfl
theorem wo:c5 prog 439 0=some 0:=by kernel_rfl
theorem uE:c5 prog 441 0=some 0:=by kernel_rfl
theorem Na:c5 prog 441 1=some 1:=by kernel_rfl
theorem yZ:c5 prog 441 2=some 2:=by kernel_rfl
theorem gN:c5 prog 74 0=some 0:=by kernel_rfl
theorem jA:c5 prog 74 1=some 1:=by kernel_rfl
theorem mq:c5 prog 77 0=some 0:=by kernel_rfl
theorem uF:c5 prog 77 1=some 2:=by kernel_rfl
theorem pK:c5 prog 77 2=some 3:=by kernel_rfl
theorem uG:c5 prog 81 0=some 0:=by kernel_rfl
theorem rA:c5 prog 81 1=some 1:=by kernel_rfl
theorem G1:c5 prog 81 2=some 2:=by kernel_rfl
theorem uH:c5 prog 81 3=some 3:=by kernel_rfl
theorem Nb:c5 prog 81 4=some 4:=by kernel_rfl
theorem uI:c5 prog 85 0=some 0:=by kernel_rfl
theorem sO:c5 prog 87 0=some 0:=by kernel_rfl
theorem y2:c5 prog 87 1=some 1:=by kernel_rfl
theorem sP:c5 prog 89 0=some 0:=by kernel_rfl
theorem oH:c5 prog 89 1=some 1:=by kernel_rfl
theorem wq:c5 prog 89 2=some 3:=by kernel_rfl
theorem oI:c5 prog 89 3=some 4:=by kernel_rfl
theorem bx:prog.follows .mixedOrders=true:=by kernel_rfl
theorem x4:(prog.info? 102).map (·.size)=some 7:=by kernel_rfl
theorem sg:(prog.info? 191).map (·.size)=some 2:=by kernel_rfl
theorem Uy:(prog.info? 22).map (·.size)=some 1:=by kernel_rfl
theorem gz:(prog.info? 220).map (·.size)=some 8:=by kernel_rfl
theorem tP:(prog.info? 24).map (·.size)=some 1:=by kernel_rfl
theorem gp:(prog.info? 274).map (·.size)=some 1:=by kernel_rfl
theorem tQ:(prog.info? 3).map (·.size)=some 1:=by kernel_rfl
theorem dz:(prog.info? 31).map (·.size)=some 2:=by kernel_rfl
theorem EV:(prog.info? 4).map (·.size)=some 1:=by kernel_rfl
theorem fL:(prog.info? 5).map (·.size)=some 1:=by kernel_rfl
theorem gG:(prog.info? 9).map (·.size)=some 1:=by kernel_rfl
end Go.Proofs.YtojafegjlahajaaGreatDoor
