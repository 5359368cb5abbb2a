/- Texts of this proof. -/
import Derived.Test.YtdjoggpacmpfnaaGreatDoorProg
import Derived.Test.YtdjoggpacmpfnaaGreatDoorQSpDefer
import Derived.KernelRfl
open Go Go.Sp Go.Proofs.Tryz
set_option maxRecDepth 100000
namespace Go.Proofs.YtdjoggpacmpfnaaGreatDoor
theorem elem115:elemIs prog 115 2 16 [.int .i64 0,.int .i64 0]:=elemIs.mk (by kernel_rfl) rfl
theorem elem118:elemIs prog 118 7 112 [.string ⟨#[]⟩,.int .i64 0,.int .i64 0,.slice none 0 0,.bool false,.slice none 0 0,.slice none 0 0]:=elemIs.mk (by kernel_rfl) rfl
theorem elem120:elemIs prog 120 2 40 [.string ⟨#[]⟩,.slice none 0 0]:=elemIs.mk (by kernel_rfl) rfl
theorem elem122:elemIs prog 122 2 40 [.string ⟨#[]⟩,.slice none 0 0]:=elemIs.mk (by kernel_rfl) rfl
theorem elem22:elemIs prog 22 1 24 [.slice none 0 0]:=elemIs.mk (by kernel_rfl) rfl
theorem elem27:elemIs prog 27 5 72 [.int .i64 0,.int .i64 0,.int .i64 0,.slice none 0 0,.slice none 0 0]:=elemIs.mk (by kernel_rfl) rfl
theorem elem3:elemIs prog 3 1 8 [.int .i64 0]:=elemIs.mk (by kernel_rfl) rfl
theorem elem317:elemIs prog 317 8 136 [.string ⟨#[]⟩,.int .i64 0,.int .i64 0,.slice none 0 0,.bool false,.slice none 0 0,.slice none 0 0,.slice none 0 0]:=elemIs.mk (by kernel_rfl) rfl
theorem elem5:elemIs prog 5 1 1 [.int .u8 0]:=elemIs.mk (by kernel_rfl) rfl
theorem flat116:Go.Sp.flat1 prog 116=true:=by kernel_rfl
theorem flat123:Go.Sp.flat1 prog 123=true:=by kernel_rfl
theorem flat22:Go.Sp.flat1 prog 22=true:=by kernel_rfl
theorem flat28:Go.Sp.flat1 prog 28=true:=by kernel_rfl
theorem flat29:Go.Sp.flat1 prog 29=true:=by kernel_rfl
theorem flat3:Go.Sp.flat1 prog 3=true:=by kernel_rfl
theorem flat311:Go.Sp.flat1 prog 311=true:=by kernel_rfl
theorem flat313:Go.Sp.flat1 prog 313=true:=by kernel_rfl
theorem flat32:Go.Sp.flat1 prog 32=true:=by kernel_rfl
theorem flat33:Go.Sp.flat1 prog 33=true:=by kernel_rfl
theorem flat36:Go.Sp.flat1 prog 36=true:=by kernel_rfl
theorem flat39:Go.Sp.flat1 prog 39=true:=by kernel_rfl
theorem flat4:Go.Sp.flat1 prog 4=true:=by kernel_rfl
theorem flat5:Go.Sp.flat1 prog 5=true:=by kernel_rfl
theorem flat9:Go.Sp.flat1 prog 9=true:=by kernel_rfl
theorem fld118x0:fieldOff prog 118 0=some 0:=by kernel_rfl
theorem fld118x3:fieldOff prog 118 3=some 3:=by kernel_rfl
theorem fld118x4:fieldOff prog 118 4=some 4:=by kernel_rfl
theorem fld118x5:fieldOff prog 118 5=some 5:=by kernel_rfl
theorem fld118x6:fieldOff prog 118 6=some 6:=by kernel_rfl
theorem fld120x0:fieldOff prog 120 0=some 0:=by kernel_rfl
theorem fld120x1:fieldOff prog 120 1=some 1:=by kernel_rfl
theorem fld129x0:fieldOff prog 129 0=some 0:=by kernel_rfl
theorem fld129x1:fieldOff prog 129 1=some 29:=by kernel_rfl
theorem fld196x0:fieldOff prog 196 0=some 0:=by kernel_rfl
theorem fld27x0:fieldOff prog 27 0=some 0:=by kernel_rfl
theorem fld27x1:fieldOff prog 27 1=some 1:=by kernel_rfl
theorem fld27x2:fieldOff prog 27 2=some 2:=by kernel_rfl
theorem fld27x3:fieldOff prog 27 3=some 3:=by kernel_rfl
theorem fld27x4:fieldOff prog 27 4=some 4:=by kernel_rfl
theorem fld315x0:fieldOff prog 315 0=some 0:=by kernel_rfl
theorem fld317x0:fieldOff prog 317 0=some 0:=by kernel_rfl
theorem fld31x0:fieldOff prog 31 0=some 0:=by kernel_rfl
theorem fld31x1:fieldOff prog 31 1=some 1:=by kernel_rfl
theorem fld344x0:fieldOff prog 344 0=some 0:=by kernel_rfl
theorem fld356x0:fieldOff prog 356 0=some 0:=by kernel_rfl
theorem fld356x1:fieldOff prog 356 1=some 8:=by kernel_rfl
theorem fld356x2:fieldOff prog 356 2=some 9:=by kernel_rfl
theorem fld356x3:fieldOff prog 356 3=some 10:=by kernel_rfl
theorem fld35x0:fieldOff prog 35 0=some 0:=by kernel_rfl
theorem fld35x1:fieldOff prog 35 1=some 1:=by kernel_rfl
theorem fld35x2:fieldOff prog 35 2=some 2:=by kernel_rfl
theorem fld35x3:fieldOff prog 35 3=some 3:=by kernel_rfl
theorem fld41x1:fieldOff prog 41 1=some 1:=by kernel_rfl
theorem fld41x10:fieldOff prog 41 10=some 18:=by kernel_rfl
theorem fld41x11:fieldOff prog 41 11=some 28:=by kernel_rfl
theorem fld41x2:fieldOff prog 41 2=some 2:=by kernel_rfl
theorem fld41x3:fieldOff prog 41 3=some 3:=by kernel_rfl
theorem fld41x4:fieldOff prog 41 4=some 4:=by kernel_rfl
theorem fld41x6:fieldOff prog 41 6=some 10:=by kernel_rfl
theorem fld41x7:fieldOff prog 41 7=some 11:=by kernel_rfl
theorem fld41x8:fieldOff prog 41 8=some 13:=by kernel_rfl
theorem fld41x9:fieldOff prog 41 9=some 17:=by kernel_rfl
theorem F.mixed:prog.follows .mixedOrders=true:=by kernel_rfl
theorem size115:(prog.info? 115).map (·.size)=some 2:=by kernel_rfl
theorem size118:(prog.info? 118).map (·.size)=some 7:=by kernel_rfl
theorem size120:(prog.info? 120).map (·.size)=some 2:=by kernel_rfl
theorem size122:(prog.info? 122).map (·.size)=some 2:=by kernel_rfl
theorem size123:(prog.info? 123).map (·.size)=some 1:=by kernel_rfl
theorem size22:(prog.info? 22).map (·.size)=some 1:=by kernel_rfl
theorem size3:(prog.info? 3).map (·.size)=some 1:=by kernel_rfl
theorem size317:(prog.info? 317).map (·.size)=some 8:=by kernel_rfl
theorem size4:(prog.info? 4).map (·.size)=some 1:=by kernel_rfl
theorem size5:(prog.info? 5).map (·.size)=some 1:=by kernel_rfl
end Go.Proofs.YtdjoggpacmpfnaaGreatDoor
