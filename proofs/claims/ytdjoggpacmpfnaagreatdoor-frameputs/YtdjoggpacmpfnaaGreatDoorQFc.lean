/- Texts of this proof. -/
import Derived.Test.YtdjoggpacmpfnaaGreatDoorProg
import Derived.Test.YtdjoggpacmpfnaaGreatDoorQSpDefer
import Derived.KernelRfl
open Go Go.Sp Go.Proofs.Tryz
set_option maxRecDepth 100000
namespace Go.Proofs.YtdjoggpacmpfnaaGreatDoor
theorem uH:cu prog 115 2 16 [.int .i64 0,.int .i64 0]:=cu.mk (by kernel_rfl) rfl
theorem Sq:cu prog 116 1 24 [.slice none 0 0]:=cu.mk (by kernel_rfl) rfl
theorem zO:cu prog 118 7 112 [.string ⟨#[]⟩,.int .i64 0,.int .i64 0,.slice none 0 0,.bool false,.slice none 0 0,.slice none 0 0]:=cu.mk (by kernel_rfl) rfl
theorem zP:cu prog 120 2 40 [.string ⟨#[]⟩,.slice none 0 0]:=cu.mk (by kernel_rfl) rfl
theorem zQ:cu prog 122 2 40 [.string ⟨#[]⟩,.slice none 0 0]:=cu.mk (by kernel_rfl) rfl
theorem Sr:cu prog 215 1 24 [.slice none 0 0]:=cu.mk (by kernel_rfl) rfl
theorem Ss:cu prog 217 1 24 [.slice none 0 0]:=cu.mk (by kernel_rfl) rfl
theorem St:cu prog 218 1 24 [.slice none 0 0]:=cu.mk (by kernel_rfl) rfl
theorem Su:cu prog 219 1 24 [.slice none 0 0]:=cu.mk (by kernel_rfl) rfl
theorem dH:cu prog 22 1 24 [.slice none 0 0]:=cu.mk (by kernel_rfl) rfl
theorem Sv:cu prog 221 1 24 [.slice none 0 0]:=cu.mk (by kernel_rfl) rfl
theorem Sw:cu prog 226 1 24 [.slice none 0 0]:=cu.mk (by kernel_rfl) rfl
theorem Sx:cu prog 231 1 24 [.slice none 0 0]:=cu.mk (by kernel_rfl) rfl
theorem Sy:cu prog 235 1 24 [.slice none 0 0]:=cu.mk (by kernel_rfl) rfl
theorem Sz:cu prog 237 1 24 [.slice none 0 0]:=cu.mk (by kernel_rfl) rfl
theorem SA:cu prog 239 1 24 [.slice none 0 0]:=cu.mk (by kernel_rfl) rfl
theorem SB:cu prog 242 1 24 [.slice none 0 0]:=cu.mk (by kernel_rfl) rfl
theorem SC:cu prog 247 1 24 [.slice none 0 0]:=cu.mk (by kernel_rfl) rfl
theorem SD:cu prog 253 1 24 [.slice none 0 0]:=cu.mk (by kernel_rfl) rfl
theorem SE:cu prog 258 1 24 [.slice none 0 0]:=cu.mk (by kernel_rfl) rfl
theorem SF:cu prog 263 1 24 [.slice none 0 0]:=cu.mk (by kernel_rfl) rfl
theorem SG:cu prog 269 1 24 [.slice none 0 0]:=cu.mk (by kernel_rfl) rfl
theorem uI:cu prog 27 5 72 [.int .i64 0,.int .i64 0,.int .i64 0,.slice none 0 0,.slice none 0 0]:=cu.mk (by kernel_rfl) rfl
theorem SH:cu prog 28 1 24 [.slice none 0 0]:=cu.mk (by kernel_rfl) rfl
theorem SI:cu prog 29 1 24 [.slice none 0 0]:=cu.mk (by kernel_rfl) rfl
theorem FF:cu prog 3 1 8 [.int .i64 0]:=cu.mk (by kernel_rfl) rfl
theorem Cw:cu prog 317 8 136 [.string ⟨#[]⟩,.int .i64 0,.int .i64 0,.slice none 0 0,.bool false,.slice none 0 0,.slice none 0 0,.slice none 0 0]:=cu.mk (by kernel_rfl) rfl
theorem SJ:cu prog 33 1 24 [.slice none 0 0]:=cu.mk (by kernel_rfl) rfl
theorem SK:cu prog 36 1 24 [.slice none 0 0]:=cu.mk (by kernel_rfl) rfl
theorem SL:cu prog 47 1 24 [.slice none 0 0]:=cu.mk (by kernel_rfl) rfl
theorem cP:cu prog 5 1 1 [.int .u8 0]:=cu.mk (by kernel_rfl) rfl
theorem SM:cu prog 60 1 24 [.slice none 0 0]:=cu.mk (by kernel_rfl) rfl
theorem nv:Go.Sp.gd prog 123=true:=by kernel_rfl
theorem k7:Go.Sp.gd prog 22=true:=by kernel_rfl
theorem CC:Go.Sp.gd prog 3=true:=by kernel_rfl
theorem FN:Go.Sp.gd prog 311=true:=by kernel_rfl
theorem FO:Go.Sp.gd prog 313=true:=by kernel_rfl
theorem LR:Go.Sp.gd prog 32=true:=by kernel_rfl
theorem LS:Go.Sp.gd prog 33=true:=by kernel_rfl
theorem LU:Go.Sp.gd prog 36=true:=by kernel_rfl
theorem qA:Go.Sp.gd prog 39=true:=by kernel_rfl
theorem LV:Go.Sp.gd prog 4=true:=by kernel_rfl
theorem vM:Go.Sp.gd prog 5=true:=by kernel_rfl
theorem LW:Go.Sp.gd prog 9=true:=by kernel_rfl
theorem LZ:mK prog 120 0=some 0:=by kernel_rfl
theorem L0:mK prog 120 1=some 1:=by kernel_rfl
theorem FU:mK prog 356 0=some 0:=by kernel_rfl
theorem vN:mK prog 356 1=some 8:=by kernel_rfl
theorem L1:mK prog 356 2=some 9:=by kernel_rfl
theorem L2:mK prog 35 0=some 0:=by kernel_rfl
theorem L3:mK prog 35 1=some 1:=by kernel_rfl
theorem L4:mK prog 35 2=some 2:=by kernel_rfl
theorem L5:mK prog 35 3=some 3:=by kernel_rfl
theorem F.mixed:prog.follows .mixedOrders=true:=by kernel_rfl
theorem j8:(prog.info? 115).map (·.size)=some 2:=by kernel_rfl
theorem oC:(prog.info? 118).map (·.size)=some 7:=by kernel_rfl
theorem sg:(prog.info? 120).map (·.size)=some 2:=by kernel_rfl
theorem wW:(prog.info? 122).map (·.size)=some 2:=by kernel_rfl
theorem ia:(prog.info? 123).map (·.size)=some 1:=by kernel_rfl
theorem mX:(prog.info? 22).map (·.size)=some 1:=by kernel_rfl
theorem PV:(prog.info? 3).map (·.size)=some 1:=by kernel_rfl
theorem vh:(prog.info? 317).map (·.size)=some 8:=by kernel_rfl
theorem JW:(prog.info? 4).map (·.size)=some 1:=by kernel_rfl
theorem fG:(prog.info? 5).map (·.size)=some 1:=by kernel_rfl
end Go.Proofs.YtdjoggpacmpfnaaGreatDoor
