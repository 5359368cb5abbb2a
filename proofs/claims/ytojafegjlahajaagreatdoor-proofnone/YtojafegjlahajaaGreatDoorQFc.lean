/- Texts of this proof. -/
import Derived.Test.YtojafegjlahajaaGreatDoorProg
import Derived.Test.YtojafegjlahajaaGreatDoorQSpDefer
import Derived.KernelRfl
open Go Go.Sp Go.Proofs.Tryz
set_option maxRecDepth 100000
namespace Go.Proofs.YtojafegjlahajaaGreatDoor
theorem elem102:elemIs prog 102 7 112 [.string ⟨#[]⟩,.int .i64 0,.int .i64 0,.slice none 0 0,.bool false,.slice none 0 0,.slice none 0 0]:=elemIs.mk (by kernel_rfl) rfl
theorem elem191:elemIs prog 191 2 16 [.int .i64 0,.int .i64 0]:=elemIs.mk (by kernel_rfl) rfl
theorem elem22:elemIs prog 22 1 24 [.slice none 0 0]:=elemIs.mk (by kernel_rfl) rfl
theorem elem220:elemIs prog 220 8 136 [.string ⟨#[]⟩,.int .i64 0,.int .i64 0,.slice none 0 0,.bool false,.slice none 0 0,.slice none 0 0,.slice none 0 0]:=elemIs.mk (by kernel_rfl) rfl
theorem elem24:elemIs prog 24 1 24 [.slice none 0 0]:=elemIs.mk (by kernel_rfl) rfl
theorem elem3:elemIs prog 3 1 8 [.int .i64 0]:=elemIs.mk (by kernel_rfl) rfl
theorem elem31:elemIs prog 31 2 40 [.string ⟨#[]⟩,.slice none 0 0]:=elemIs.mk (by kernel_rfl) rfl
theorem elem5:elemIs prog 5 1 1 [.int .u8 0]:=elemIs.mk (by kernel_rfl) rfl
theorem flat100:Go.Sp.flat1 prog 100=true:=by kernel_rfl
theorem flat104:Go.Sp.flat1 prog 104=true:=by kernel_rfl
theorem flat109:Go.Sp.flat1 prog 109=true:=by kernel_rfl
theorem flat110:Go.Sp.flat1 prog 110=true:=by kernel_rfl
theorem flat140:Go.Sp.flat1 prog 140=true:=by kernel_rfl
theorem flat169:Go.Sp.flat1 prog 169=true:=by kernel_rfl
theorem flat198:Go.Sp.flat1 prog 198=true:=by kernel_rfl
theorem flat202:Go.Sp.flat1 prog 202=true:=by kernel_rfl
theorem flat213:Go.Sp.flat1 prog 213=true:=by kernel_rfl
theorem flat216:Go.Sp.flat1 prog 216=true:=by kernel_rfl
theorem flat22:Go.Sp.flat1 prog 22=true:=by kernel_rfl
theorem flat23:Go.Sp.flat1 prog 23=true:=by kernel_rfl
theorem flat234:Go.Sp.flat1 prog 234=true:=by kernel_rfl
theorem flat24:Go.Sp.flat1 prog 24=true:=by kernel_rfl
theorem flat25:Go.Sp.flat1 prog 25=true:=by kernel_rfl
theorem flat274:Go.Sp.flat1 prog 274=true:=by kernel_rfl
theorem flat3:Go.Sp.flat1 prog 3=true:=by kernel_rfl
theorem flat4:Go.Sp.flat1 prog 4=true:=by kernel_rfl
theorem flat42:Go.Sp.flat1 prog 42=true:=by kernel_rfl
theorem flat423:Go.Sp.flat1 prog 423=true:=by kernel_rfl
theorem flat44:Go.Sp.flat1 prog 44=true:=by kernel_rfl
theorem flat5:Go.Sp.flat1 prog 5=true:=by kernel_rfl
theorem flat53:Go.Sp.flat1 prog 53=true:=by kernel_rfl
theorem flat75:Go.Sp.flat1 prog 75=true:=by kernel_rfl
theorem flat9:Go.Sp.flat1 prog 9=true:=by kernel_rfl
theorem fld102x0:fieldOff prog 102 0=some 0:=by kernel_rfl
theorem fld102x1:fieldOff prog 102 1=some 1:=by kernel_rfl
theorem fld102x2:fieldOff prog 102 2=some 2:=by kernel_rfl
theorem fld102x3:fieldOff prog 102 3=some 3:=by kernel_rfl
theorem fld102x4:fieldOff prog 102 4=some 4:=by kernel_rfl
theorem fld102x5:fieldOff prog 102 5=some 5:=by kernel_rfl
theorem fld102x6:fieldOff prog 102 6=some 6:=by kernel_rfl
theorem fld112x0:fieldOff prog 112 0=some 0:=by kernel_rfl
theorem fld112x1:fieldOff prog 112 1=some 1:=by kernel_rfl
theorem fld142x0:fieldOff prog 142 0=some 0:=by kernel_rfl
theorem fld142x1:fieldOff prog 142 1=some 1:=by kernel_rfl
theorem fld151x0:fieldOff prog 151 0=some 0:=by kernel_rfl
theorem fld191x0:fieldOff prog 191 0=some 0:=by kernel_rfl
theorem fld191x1:fieldOff prog 191 1=some 1:=by kernel_rfl
theorem fld196x0:fieldOff prog 196 0=some 0:=by kernel_rfl
theorem fld196x1:fieldOff prog 196 1=some 1:=by kernel_rfl
theorem fld218x0:fieldOff prog 218 0=some 0:=by kernel_rfl
theorem fld220x0:fieldOff prog 220 0=some 0:=by kernel_rfl
theorem fld220x1:fieldOff prog 220 1=some 7:=by kernel_rfl
theorem fld278x0:fieldOff prog 278 0=some 0:=by kernel_rfl
theorem fld278x1:fieldOff prog 278 1=some 8:=by kernel_rfl
theorem fld278x2:fieldOff prog 278 2=some 9:=by kernel_rfl
theorem fld278x3:fieldOff prog 278 3=some 10:=by kernel_rfl
theorem fld27x0:fieldOff prog 27 0=some 0:=by kernel_rfl
theorem fld27x1:fieldOff prog 27 1=some 1:=by kernel_rfl
theorem fld27x2:fieldOff prog 27 2=some 2:=by kernel_rfl
theorem fld27x3:fieldOff prog 27 3=some 3:=by kernel_rfl
theorem fld281x0:fieldOff prog 281 0=some 0:=by kernel_rfl
theorem fld281x1:fieldOff prog 281 1=some 2:=by kernel_rfl
theorem fld281x2:fieldOff prog 281 2=some 3:=by kernel_rfl
theorem fld306x0:fieldOff prog 306 0=some 0:=by kernel_rfl
theorem fld31x0:fieldOff prog 31 0=some 0:=by kernel_rfl
theorem fld31x1:fieldOff prog 31 1=some 1:=by kernel_rfl
theorem fld415x0:fieldOff prog 415 0=some 0:=by kernel_rfl
theorem fld439x0:fieldOff prog 439 0=some 0:=by kernel_rfl
theorem fld441x0:fieldOff prog 441 0=some 0:=by kernel_rfl
theorem fld441x1:fieldOff prog 441 1=some 1:=by kernel_rfl
theorem fld441x2:fieldOff prog 441 2=some 2:=by kernel_rfl
theorem fld74x0:fieldOff prog 74 0=some 0:=by kernel_rfl
theorem fld74x1:fieldOff prog 74 1=some 1:=by kernel_rfl
theorem fld77x0:fieldOff prog 77 0=some 0:=by kernel_rfl
theorem fld77x1:fieldOff prog 77 1=some 2:=by kernel_rfl
theorem fld77x2:fieldOff prog 77 2=some 3:=by kernel_rfl
theorem mixedF:prog.follows .mixedOrders=true:=by kernel_rfl
theorem size102:(prog.info? 102).map (·.size)=some 7:=by kernel_rfl
theorem size191:(prog.info? 191).map (·.size)=some 2:=by kernel_rfl
theorem size196:(prog.info? 196).map (·.size)=some 2:=by kernel_rfl
theorem size22:(prog.info? 22).map (·.size)=some 1:=by kernel_rfl
theorem size220:(prog.info? 220).map (·.size)=some 8:=by kernel_rfl
theorem size24:(prog.info? 24).map (·.size)=some 1:=by kernel_rfl
theorem size274:(prog.info? 274).map (·.size)=some 1:=by kernel_rfl
theorem size3:(prog.info? 3).map (·.size)=some 1:=by kernel_rfl
theorem size31:(prog.info? 31).map (·.size)=some 2:=by kernel_rfl
theorem size4:(prog.info? 4).map (·.size)=some 1:=by kernel_rfl
theorem size5:(prog.info? 5).map (·.size)=some 1:=by kernel_rfl
theorem size9:(prog.info? 9).map (·.size)=some 1:=by kernel_rfl
end Go.Proofs.YtojafegjlahajaaGreatDoor
