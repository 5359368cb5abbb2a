/- Texts of this proof. -/
import Derived.Test.YtodhbhanmdfdeaaGreatProg
import Derived.Test.YtodhbhanmdfdeaaGreatQSpDefer
import Derived.KernelRfl
open Go Go.Sp Go.Proofs.Tryz
set_option maxRecDepth 100000
namespace Go.Proofs.YtodhbhanmdfdeaaGreat
theorem elem158:elemIs prog 158 8 136 [.string ⟨#[]⟩,.int .i64 0,.int .i64 0,.slice none 0 0,.bool false,.slice none 0 0,.slice none 0 0,.slice none 0 0]:=elemIs.mk (by kernel_rfl) rfl
theorem elem166:elemIs prog 166 2 16 [.int .i64 0,.int .i64 0]:=elemIs.mk (by kernel_rfl) rfl
theorem elem184:elemIs prog 184 1 24 [.slice none 0 0]:=elemIs.mk (by kernel_rfl) rfl
theorem elem22:elemIs prog 22 1 24 [.slice none 0 0]:=elemIs.mk (by kernel_rfl) rfl
theorem elem23:elemIs prog 23 1 24 [.slice none 0 0]:=elemIs.mk (by kernel_rfl) rfl
theorem elem24:elemIs prog 24 1 24 [.slice none 0 0]:=elemIs.mk (by kernel_rfl) rfl
theorem elem25:elemIs prog 25 1 24 [.slice none 0 0]:=elemIs.mk (by kernel_rfl) rfl
theorem elem260:elemIs prog 260 1 24 [.slice none 0 0]:=elemIs.mk (by kernel_rfl) rfl
theorem elem262:elemIs prog 262 1 24 [.slice none 0 0]:=elemIs.mk (by kernel_rfl) rfl
theorem elem263:elemIs prog 263 1 24 [.slice none 0 0]:=elemIs.mk (by kernel_rfl) rfl
theorem elem264:elemIs prog 264 1 24 [.slice none 0 0]:=elemIs.mk (by kernel_rfl) rfl
theorem elem267:elemIs prog 267 1 24 [.slice none 0 0]:=elemIs.mk (by kernel_rfl) rfl
theorem elem27:elemIs prog 27 4 96 [.slice none 0 0,.slice none 0 0,.slice none 0 0,.slice none 0 0]:=elemIs.mk (by kernel_rfl) rfl
theorem elem272:elemIs prog 272 1 24 [.slice none 0 0]:=elemIs.mk (by kernel_rfl) rfl
theorem elem278:elemIs prog 278 1 24 [.slice none 0 0]:=elemIs.mk (by kernel_rfl) rfl
theorem elem283:elemIs prog 283 1 24 [.slice none 0 0]:=elemIs.mk (by kernel_rfl) rfl
theorem elem288:elemIs prog 288 1 24 [.slice none 0 0]:=elemIs.mk (by kernel_rfl) rfl
theorem elem294:elemIs prog 294 1 24 [.slice none 0 0]:=elemIs.mk (by kernel_rfl) rfl
theorem elem299:elemIs prog 299 1 24 [.slice none 0 0]:=elemIs.mk (by kernel_rfl) rfl
theorem elem3:elemIs prog 3 1 8 [.int .i64 0]:=elemIs.mk (by kernel_rfl) rfl
theorem elem306:elemIs prog 306 1 24 [.slice none 0 0]:=elemIs.mk (by kernel_rfl) rfl
theorem elem31:elemIs prog 31 1 24 [.slice none 0 0]:=elemIs.mk (by kernel_rfl) rfl
theorem elem311:elemIs prog 311 1 24 [.slice none 0 0]:=elemIs.mk (by kernel_rfl) rfl
theorem elem317:elemIs prog 317 1 24 [.slice none 0 0]:=elemIs.mk (by kernel_rfl) rfl
theorem elem39:elemIs prog 39 1 24 [.slice none 0 0]:=elemIs.mk (by kernel_rfl) rfl
theorem elem45:elemIs prog 45 1 24 [.slice none 0 0]:=elemIs.mk (by kernel_rfl) rfl
theorem elem47:elemIs prog 47 1 24 [.slice none 0 0]:=elemIs.mk (by kernel_rfl) rfl
theorem elem49:elemIs prog 49 2 40 [.string ⟨#[]⟩,.slice none 0 0]:=elemIs.mk (by kernel_rfl) rfl
theorem elem5:elemIs prog 5 1 1 [.int .u8 0]:=elemIs.mk (by kernel_rfl) rfl
theorem elem52:elemIs prog 52 5 72 [.int .i64 0,.int .i64 0,.int .i64 0,.slice none 0 0,.slice none 0 0]:=elemIs.mk (by kernel_rfl) rfl
theorem elem55:elemIs prog 55 10 144 [.int .i64 0,.int .i64 0,.int .i64 0,.slice none 0 0,.slice none 0 0,.int .i64 0,.int .i64 0,.int .i64 0,.slice none 0 0,.slice none 0 0]:=elemIs.mk (by kernel_rfl) rfl
theorem elem72:elemIs prog 72 1 24 [.slice none 0 0]:=elemIs.mk (by kernel_rfl) rfl
theorem elem74:elemIs prog 74 7 112 [.string ⟨#[]⟩,.int .i64 0,.int .i64 0,.slice none 0 0,.bool false,.slice none 0 0,.slice none 0 0]:=elemIs.mk (by kernel_rfl) rfl
theorem flat146:Go.Sp.flat1 prog 146=true:=by kernel_rfl
theorem flat155:Go.Sp.flat1 prog 155=true:=by kernel_rfl
theorem flat3:Go.Sp.flat1 prog 3=true:=by kernel_rfl
theorem flat31:Go.Sp.flat1 prog 31=true:=by kernel_rfl
theorem flat32:Go.Sp.flat1 prog 32=true:=by kernel_rfl
theorem flat47:Go.Sp.flat1 prog 47=true:=by kernel_rfl
theorem flat5:Go.Sp.flat1 prog 5=true:=by kernel_rfl
theorem flat72:Go.Sp.flat1 prog 72=true:=by kernel_rfl
theorem flat9:Go.Sp.flat1 prog 9=true:=by kernel_rfl
theorem fld148x0:fieldOff prog 148 0=some 0:=by kernel_rfl
theorem fld158x0:fieldOff prog 158 0=some 0:=by kernel_rfl
theorem fld158x1:fieldOff prog 158 1=some 7:=by kernel_rfl
theorem fld163x0:fieldOff prog 163 0=some 0:=by kernel_rfl
theorem fld166x0:fieldOff prog 166 0=some 0:=by kernel_rfl
theorem fld166x1:fieldOff prog 166 1=some 1:=by kernel_rfl
theorem fld226x0:fieldOff prog 226 0=some 0:=by kernel_rfl
theorem fld74x0:fieldOff prog 74 0=some 0:=by kernel_rfl
theorem fld74x1:fieldOff prog 74 1=some 1:=by kernel_rfl
theorem fld74x2:fieldOff prog 74 2=some 2:=by kernel_rfl
theorem fld74x3:fieldOff prog 74 3=some 3:=by kernel_rfl
theorem fld74x4:fieldOff prog 74 4=some 4:=by kernel_rfl
theorem fld74x5:fieldOff prog 74 5=some 5:=by kernel_rfl
theorem fld74x6:fieldOff prog 74 6=some 6:=by kernel_rfl
theorem F.mixed:prog.follows .mixedOrders=true:=by kernel_rfl
theorem size158:(prog.info? 158).map (·.size)=some 8:=by kernel_rfl
theorem size166:(prog.info? 166).map (·.size)=some 2:=by kernel_rfl
theorem size22:(prog.info? 22).map (·.size)=some 1:=by kernel_rfl
theorem size23:(prog.info? 23).map (·.size)=some 1:=by kernel_rfl
theorem size24:(prog.info? 24).map (·.size)=some 1:=by kernel_rfl
theorem size25:(prog.info? 25).map (·.size)=some 1:=by kernel_rfl
theorem size27:(prog.info? 27).map (·.size)=some 4:=by kernel_rfl
theorem size3:(prog.info? 3).map (·.size)=some 1:=by kernel_rfl
theorem size31:(prog.info? 31).map (·.size)=some 1:=by kernel_rfl
theorem size45:(prog.info? 45).map (·.size)=some 1:=by kernel_rfl
theorem size47:(prog.info? 47).map (·.size)=some 1:=by kernel_rfl
theorem size49:(prog.info? 49).map (·.size)=some 2:=by kernel_rfl
theorem size5:(prog.info? 5).map (·.size)=some 1:=by kernel_rfl
theorem size52:(prog.info? 52).map (·.size)=some 5:=by kernel_rfl
theorem size55:(prog.info? 55).map (·.size)=some 10:=by kernel_rfl
theorem size72:(prog.info? 72).map (·.size)=some 1:=by kernel_rfl
theorem size74:(prog.info? 74).map (·.size)=some 7:=by kernel_rfl
end Go.Proofs.YtodhbhanmdfdeaaGreat
