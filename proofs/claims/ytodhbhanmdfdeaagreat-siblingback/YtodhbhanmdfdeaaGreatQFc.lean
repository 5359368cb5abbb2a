/- Texts of this proof. -/
import Derived.Test.YtodhbhanmdfdeaaGreatProg
import Derived.Test.YtodhbhanmdfdeaaGreatQSpOwn3
import Derived.KernelRfl
open Go Go.Sp Go.Proofs.Tryz
set_option maxRecDepth 100000
namespace Go.Proofs.YtodhbhanmdfdeaaGreat
theorem elem158:elemIs prog 158 8 136 [.string ⟨#[]⟩,.int .i64 0,.int .i64 0,.slice none 0 0,.bool false,.slice none 0 0,.slice none 0 0,.slice none 0 0]:=elemIs.mk (by kernel_rfl) rfl
theorem elem166:elemIs prog 166 2 16 [.int .i64 0,.int .i64 0]:=elemIs.mk (by kernel_rfl) rfl
theorem elem3:elemIs prog 3 1 8 [.int .i64 0]:=elemIs.mk (by kernel_rfl) rfl
theorem elem31:elemIs prog 31 1 24 [.slice none 0 0]:=elemIs.mk (by kernel_rfl) rfl
theorem elem47:elemIs prog 47 1 24 [.slice none 0 0]:=elemIs.mk (by kernel_rfl) rfl
theorem elem5:elemIs prog 5 1 1 [.int .u8 0]:=elemIs.mk (by kernel_rfl) rfl
theorem elem74:elemIs prog 74 7 112 [.string ⟨#[]⟩,.int .i64 0,.int .i64 0,.slice none 0 0,.bool false,.slice none 0 0,.slice none 0 0]:=elemIs.mk (by kernel_rfl) rfl
theorem flat126:Go.Sp.flat1 prog 126=true:=by kernel_rfl
theorem flat146:Go.Sp.flat1 prog 146=true:=by kernel_rfl
theorem flat155:Go.Sp.flat1 prog 155=true:=by kernel_rfl
theorem flat3:Go.Sp.flat1 prog 3=true:=by kernel_rfl
theorem flat31:Go.Sp.flat1 prog 31=true:=by kernel_rfl
theorem flat32:Go.Sp.flat1 prog 32=true:=by kernel_rfl
theorem flat4:Go.Sp.flat1 prog 4=true:=by kernel_rfl
theorem flat47:Go.Sp.flat1 prog 47=true:=by kernel_rfl
theorem flat5:Go.Sp.flat1 prog 5=true:=by kernel_rfl
theorem flat65:Go.Sp.flat1 prog 65=true:=by kernel_rfl
theorem flat72:Go.Sp.flat1 prog 72=true:=by kernel_rfl
theorem flat9:Go.Sp.flat1 prog 9=true:=by kernel_rfl
theorem fld148x0:fieldOff prog 148 0=some 0:=by kernel_rfl
theorem fld150x0:fieldOff prog 150 0=some 0:=by kernel_rfl
theorem fld158x0:fieldOff prog 158 0=some 0:=by kernel_rfl
theorem fld158x1:fieldOff prog 158 1=some 7:=by kernel_rfl
theorem fld163x0:fieldOff prog 163 0=some 0:=by kernel_rfl
theorem fld166x0:fieldOff prog 166 0=some 0:=by kernel_rfl
theorem fld166x1:fieldOff prog 166 1=some 1:=by kernel_rfl
theorem fld224x0:fieldOff prog 224 0=some 0:=by kernel_rfl
theorem fld226x0:fieldOff prog 226 0=some 0:=by kernel_rfl
theorem fld226x1:fieldOff prog 226 1=some 1:=by kernel_rfl
theorem fld226x2:fieldOff prog 226 2=some 2:=by kernel_rfl
theorem fld74x0:fieldOff prog 74 0=some 0:=by kernel_rfl
theorem fld74x1:fieldOff prog 74 1=some 1:=by kernel_rfl
theorem fld74x2:fieldOff prog 74 2=some 2:=by kernel_rfl
theorem fld74x3:fieldOff prog 74 3=some 3:=by kernel_rfl
theorem fld74x4:fieldOff prog 74 4=some 4:=by kernel_rfl
theorem fld74x5:fieldOff prog 74 5=some 5:=by kernel_rfl
theorem fld74x6:fieldOff prog 74 6=some 6:=by kernel_rfl
theorem F.mixed:prog.follows .mixedOrders=true:=by kernel_rfl
theorem size158:(prog.info? 158).map (·.size)=some 8:=by kernel_rfl
theorem size166:(prog.info? 166).map (·.size)=some 2:=by kernel_rfl
theorem size3:(prog.info? 3).map (·.size)=some 1:=by kernel_rfl
theorem size31:(prog.info? 31).map (·.size)=some 1:=by kernel_rfl
theorem size47:(prog.info? 47).map (·.size)=some 1:=by kernel_rfl
theorem size5:(prog.info? 5).map (·.size)=some 1:=by kernel_rfl
theorem size74:(prog.info? 74).map (·.size)=some 7:=by kernel_rfl
end Go.Proofs.YtodhbhanmdfdeaaGreat
