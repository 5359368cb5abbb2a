/- Texts of this proof. -/
import Derived.Test.YtodhbhanmdfdeaaGreatProg
import Derived.Test.YtodhbhanmdfdeaaGreatQSpOwn
import Derived.KernelRfl
open Go Go.Sp
set_option maxRecDepth 100000
namespace Go.Proofs.YtodhbhanmdfdeaaGreat
theorem F.elem158 : elemIs Tryz.prog 158 8 136 [.string ⟨#[]⟩, .int .i64 0, .int .i64 0, .slice none 0 0, .bool false, .slice none 0 0, .slice none 0 0, .slice none 0 0] := elemIs.mk (by kernel_rfl) rfl
theorem F.elem166 : elemIs Tryz.prog 166 2 16 [.int .i64 0, .int .i64 0] := elemIs.mk (by kernel_rfl) rfl
theorem F.elem3 : elemIs Tryz.prog 3 1 8 [.int .i64 0] := elemIs.mk (by kernel_rfl) rfl
theorem F.elem31 : elemIs Tryz.prog 31 1 24 [.slice none 0 0] := elemIs.mk (by kernel_rfl) rfl
theorem F.elem49 : elemIs Tryz.prog 49 2 40 [.string ⟨#[]⟩, .slice none 0 0] := elemIs.mk (by kernel_rfl) rfl
theorem F.elem5 : elemIs Tryz.prog 5 1 1 [.int .u8 0] := elemIs.mk (by kernel_rfl) rfl
theorem F.elem52 : elemIs Tryz.prog 52 5 72 [.int .i64 0, .int .i64 0, .int .i64 0, .slice none 0 0, .slice none 0 0] := elemIs.mk (by kernel_rfl) rfl
theorem F.elem55 : elemIs Tryz.prog 55 10 144 [.int .i64 0, .int .i64 0, .int .i64 0, .slice none 0 0, .slice none 0 0, .int .i64 0, .int .i64 0, .int .i64 0, .slice none 0 0, .slice none 0 0] := elemIs.mk (by kernel_rfl) rfl
theorem F.elem74 : elemIs Tryz.prog 74 7 112 [.string ⟨#[]⟩, .int .i64 0, .int .i64 0, .slice none 0 0, .bool false, .slice none 0 0, .slice none 0 0] := elemIs.mk (by kernel_rfl) rfl
theorem F.elem9 : elemIs Tryz.prog 9 1 16 [.string ⟨#[]⟩] := elemIs.mk (by kernel_rfl) rfl
theorem F.flat126 : Go.Sp.flat1 Tryz.prog 126 = true := by kernel_rfl
theorem F.flat146 : Go.Sp.flat1 Tryz.prog 146 = true := by kernel_rfl
theorem F.flat184 : Go.Sp.flat1 Tryz.prog 184 = true := by kernel_rfl
theorem F.flat196 : Go.Sp.flat1 Tryz.prog 196 = true := by kernel_rfl
theorem F.flat22 : Go.Sp.flat1 Tryz.prog 22 = true := by kernel_rfl
theorem F.flat23 : Go.Sp.flat1 Tryz.prog 23 = true := by kernel_rfl
theorem F.flat24 : Go.Sp.flat1 Tryz.prog 24 = true := by kernel_rfl
theorem F.flat25 : Go.Sp.flat1 Tryz.prog 25 = true := by kernel_rfl
theorem F.flat3 : Go.Sp.flat1 Tryz.prog 3 = true := by kernel_rfl
theorem F.flat31 : Go.Sp.flat1 Tryz.prog 31 = true := by kernel_rfl
theorem F.flat32 : Go.Sp.flat1 Tryz.prog 32 = true := by kernel_rfl
theorem F.flat4 : Go.Sp.flat1 Tryz.prog 4 = true := by kernel_rfl
theorem F.flat47 : Go.Sp.flat1 Tryz.prog 47 = true := by kernel_rfl
theorem F.flat5 : Go.Sp.flat1 Tryz.prog 5 = true := by kernel_rfl
theorem F.flat72 : Go.Sp.flat1 Tryz.prog 72 = true := by kernel_rfl
theorem F.flat9 : Go.Sp.flat1 Tryz.prog 9 = true := by kernel_rfl
theorem F.fld129x0 : fieldOff Tryz.prog 129 0 = some 0 := by kernel_rfl
theorem F.fld148x0 : fieldOff Tryz.prog 148 0 = some 0 := by kernel_rfl
theorem F.fld158x0 : fieldOff Tryz.prog 158 0 = some 0 := by kernel_rfl
theorem F.fld158x1 : fieldOff Tryz.prog 158 1 = some 7 := by kernel_rfl
theorem F.fld163x0 : fieldOff Tryz.prog 163 0 = some 0 := by kernel_rfl
theorem F.fld166x0 : fieldOff Tryz.prog 166 0 = some 0 := by kernel_rfl
theorem F.fld166x1 : fieldOff Tryz.prog 166 1 = some 1 := by kernel_rfl
theorem F.fld183x0 : fieldOff Tryz.prog 183 0 = some 0 := by kernel_rfl
theorem F.fld186x0 : fieldOff Tryz.prog 186 0 = some 0 := by kernel_rfl
theorem F.fld186x1 : fieldOff Tryz.prog 186 1 = some 1 := by kernel_rfl
theorem F.fld186x2 : fieldOff Tryz.prog 186 2 = some 2 := by kernel_rfl
theorem F.fld186x3 : fieldOff Tryz.prog 186 3 = some 7 := by kernel_rfl
theorem F.fld186x4 : fieldOff Tryz.prog 186 4 = some 8 := by kernel_rfl
theorem F.fld224x0 : fieldOff Tryz.prog 224 0 = some 0 := by kernel_rfl
theorem F.fld226x0 : fieldOff Tryz.prog 226 0 = some 0 := by kernel_rfl
theorem F.fld226x1 : fieldOff Tryz.prog 226 1 = some 1 := by kernel_rfl
theorem F.fld226x2 : fieldOff Tryz.prog 226 2 = some 2 := by kernel_rfl
theorem F.fld27x0 : fieldOff Tryz.prog 27 0 = some 0 := by kernel_rfl
theorem F.fld27x1 : fieldOff Tryz.prog 27 1 = some 1 := by kernel_rfl
theorem F.fld27x2 : fieldOff Tryz.prog 27 2 = some 2 := by kernel_rfl
theorem F.fld27x3 : fieldOff Tryz.prog 27 3 = some 3 := by kernel_rfl
theorem F.fld345x0 : fieldOff Tryz.prog 345 0 = some 0 := by kernel_rfl
theorem F.fld351x0 : fieldOff Tryz.prog 351 0 = some 0 := by kernel_rfl
theorem F.fld351x1 : fieldOff Tryz.prog 351 1 = some 5 := by kernel_rfl
theorem F.fld49x0 : fieldOff Tryz.prog 49 0 = some 0 := by kernel_rfl
theorem F.fld49x1 : fieldOff Tryz.prog 49 1 = some 1 := by kernel_rfl
theorem F.fld52x0 : fieldOff Tryz.prog 52 0 = some 0 := by kernel_rfl
theorem F.fld52x1 : fieldOff Tryz.prog 52 1 = some 1 := by kernel_rfl
theorem F.fld52x2 : fieldOff Tryz.prog 52 2 = some 2 := by kernel_rfl
theorem F.fld52x3 : fieldOff Tryz.prog 52 3 = some 3 := by kernel_rfl
theorem F.fld52x4 : fieldOff Tryz.prog 52 4 = some 4 := by kernel_rfl
theorem F.fld55x0 : fieldOff Tryz.prog 55 0 = some 0 := by kernel_rfl
theorem F.fld55x1 : fieldOff Tryz.prog 55 1 = some 5 := by kernel_rfl
theorem F.fld74x0 : fieldOff Tryz.prog 74 0 = some 0 := by kernel_rfl
theorem F.fld74x1 : fieldOff Tryz.prog 74 1 = some 1 := by kernel_rfl
theorem F.fld74x2 : fieldOff Tryz.prog 74 2 = some 2 := by kernel_rfl
theorem F.fld74x3 : fieldOff Tryz.prog 74 3 = some 3 := by kernel_rfl
theorem F.fld74x4 : fieldOff Tryz.prog 74 4 = some 4 := by kernel_rfl
theorem F.fld74x5 : fieldOff Tryz.prog 74 5 = some 5 := by kernel_rfl
theorem F.fld74x6 : fieldOff Tryz.prog 74 6 = some 6 := by kernel_rfl
theorem F.mixed : Tryz.prog.follows .mixedOrders = true := by kernel_rfl
theorem F.ok102 : callable Tryz.prog 102 = true := by kernel_rfl
theorem F.ok104 : callable Tryz.prog 104 = true := by kernel_rfl
theorem F.ok114 : callable Tryz.prog 114 = true := by kernel_rfl
theorem F.ok115 : callable Tryz.prog 115 = true := by kernel_rfl
theorem F.ok116 : callable Tryz.prog 116 = true := by kernel_rfl
theorem F.ok117 : callable Tryz.prog 117 = true := by kernel_rfl
theorem F.ok118 : callable Tryz.prog 118 = true := by kernel_rfl
theorem F.ok119 : callable Tryz.prog 119 = true := by kernel_rfl
theorem F.ok122 : callable Tryz.prog 122 = true := by kernel_rfl
theorem F.ok123 : callable Tryz.prog 123 = true := by kernel_rfl
theorem F.ok124 : callable Tryz.prog 124 = true := by kernel_rfl
theorem F.ok125 : callable Tryz.prog 125 = true := by kernel_rfl
theorem F.ok126 : callable Tryz.prog 126 = true := by kernel_rfl
theorem F.ok127 : callable Tryz.prog 127 = true := by kernel_rfl
theorem F.ok128 : callable Tryz.prog 128 = true := by kernel_rfl
theorem F.ok129 : callable Tryz.prog 129 = true := by kernel_rfl
theorem F.ok130 : callable Tryz.prog 130 = true := by kernel_rfl
theorem F.ok14 : callable Tryz.prog 14 = true := by kernel_rfl
theorem F.ok144 : callable Tryz.prog 144 = true := by kernel_rfl
theorem F.ok145 : callable Tryz.prog 145 = true := by kernel_rfl
theorem F.ok146 : callable Tryz.prog 146 = true := by kernel_rfl
theorem F.ok147 : callable Tryz.prog 147 = true := by kernel_rfl
theorem F.ok148 : callable Tryz.prog 148 = true := by kernel_rfl
theorem F.ok149 : callable Tryz.prog 149 = true := by kernel_rfl
theorem F.ok15 : callable Tryz.prog 15 = true := by kernel_rfl
theorem F.ok150 : callable Tryz.prog 150 = true := by kernel_rfl
theorem F.ok151 : callable Tryz.prog 151 = true := by kernel_rfl
theorem F.ok152 : callable Tryz.prog 152 = true := by kernel_rfl
theorem F.ok156 : callable Tryz.prog 156 = true := by kernel_rfl
theorem F.ok158 : callable Tryz.prog 158 = true := by kernel_rfl
theorem F.ok160 : callable Tryz.prog 160 = true := by kernel_rfl
theorem F.ok17 : callable Tryz.prog 17 = true := by kernel_rfl
theorem F.ok186 : callable Tryz.prog 186 = true := by kernel_rfl
theorem F.ok187 : callable Tryz.prog 187 = true := by kernel_rfl
theorem F.ok188 : callable Tryz.prog 188 = true := by kernel_rfl
theorem F.ok189 : callable Tryz.prog 189 = true := by kernel_rfl
theorem F.ok19 : callable Tryz.prog 19 = true := by kernel_rfl
theorem F.ok190 : callable Tryz.prog 190 = true := by kernel_rfl
theorem F.ok191 : callable Tryz.prog 191 = true := by kernel_rfl
theorem F.ok192 : callable Tryz.prog 192 = true := by kernel_rfl
theorem F.ok193 : callable Tryz.prog 193 = true := by kernel_rfl
theorem F.ok194 : callable Tryz.prog 194 = true := by kernel_rfl
theorem F.ok195 : callable Tryz.prog 195 = true := by kernel_rfl
theorem F.ok196 : callable Tryz.prog 196 = true := by kernel_rfl
theorem F.ok20 : callable Tryz.prog 20 = true := by kernel_rfl
theorem F.ok201 : callable Tryz.prog 201 = true := by kernel_rfl
theorem F.ok203 : callable Tryz.prog 203 = true := by kernel_rfl
theorem F.ok204 : callable Tryz.prog 204 = true := by kernel_rfl
theorem F.ok207 : callable Tryz.prog 207 = true := by kernel_rfl
theorem F.ok208 : callable Tryz.prog 208 = true := by kernel_rfl
theorem F.ok209 : callable Tryz.prog 209 = true := by kernel_rfl
theorem F.ok212 : callable Tryz.prog 212 = true := by kernel_rfl
theorem F.ok220 : callable Tryz.prog 220 = true := by kernel_rfl
theorem F.ok221 : callable Tryz.prog 221 = true := by kernel_rfl
theorem F.ok223 : callable Tryz.prog 223 = true := by kernel_rfl
theorem F.ok224 : callable Tryz.prog 224 = true := by kernel_rfl
theorem F.ok225 : callable Tryz.prog 225 = true := by kernel_rfl
theorem F.ok226 : callable Tryz.prog 226 = true := by kernel_rfl
theorem F.ok227 : callable Tryz.prog 227 = true := by kernel_rfl
theorem F.ok228 : callable Tryz.prog 228 = true := by kernel_rfl
theorem F.ok229 : callable Tryz.prog 229 = true := by kernel_rfl
theorem F.ok230 : callable Tryz.prog 230 = true := by kernel_rfl
theorem F.ok231 : callable Tryz.prog 231 = true := by kernel_rfl
theorem F.ok232 : callable Tryz.prog 232 = true := by kernel_rfl
theorem F.ok236 : callable Tryz.prog 236 = true := by kernel_rfl
theorem F.ok237 : callable Tryz.prog 237 = true := by kernel_rfl
theorem F.ok238 : callable Tryz.prog 238 = true := by kernel_rfl
theorem F.ok239 : callable Tryz.prog 239 = true := by kernel_rfl
theorem F.ok240 : callable Tryz.prog 240 = true := by kernel_rfl
theorem F.ok25 : callable Tryz.prog 25 = true := by kernel_rfl
theorem F.ok266 : callable Tryz.prog 266 = true := by kernel_rfl
theorem F.ok267 : callable Tryz.prog 267 = true := by kernel_rfl
theorem F.ok268 : callable Tryz.prog 268 = true := by kernel_rfl
theorem F.ok269 : callable Tryz.prog 269 = true := by kernel_rfl
theorem F.ok270 : callable Tryz.prog 270 = true := by kernel_rfl
theorem F.ok271 : callable Tryz.prog 271 = true := by kernel_rfl
theorem F.ok272 : callable Tryz.prog 272 = true := by kernel_rfl
theorem F.ok277 : callable Tryz.prog 277 = true := by kernel_rfl
theorem F.ok278 : callable Tryz.prog 278 = true := by kernel_rfl
theorem F.ok281 : callable Tryz.prog 281 = true := by kernel_rfl
theorem F.ok283 : callable Tryz.prog 283 = true := by kernel_rfl
theorem F.ok284 : callable Tryz.prog 284 = true := by kernel_rfl
theorem F.ok290 : callable Tryz.prog 290 = true := by kernel_rfl
theorem F.ok291 : callable Tryz.prog 291 = true := by kernel_rfl
theorem F.ok292 : callable Tryz.prog 292 = true := by kernel_rfl
theorem F.ok293 : callable Tryz.prog 293 = true := by kernel_rfl
theorem F.ok294 : callable Tryz.prog 294 = true := by kernel_rfl
theorem F.ok295 : callable Tryz.prog 295 = true := by kernel_rfl
theorem F.ok296 : callable Tryz.prog 296 = true := by kernel_rfl
theorem F.ok297 : callable Tryz.prog 297 = true := by kernel_rfl
theorem F.ok298 : callable Tryz.prog 298 = true := by kernel_rfl
theorem F.ok299 : callable Tryz.prog 299 = true := by kernel_rfl
theorem F.ok300 : callable Tryz.prog 300 = true := by kernel_rfl
theorem F.ok301 : callable Tryz.prog 301 = true := by kernel_rfl
theorem F.ok305 : callable Tryz.prog 305 = true := by kernel_rfl
theorem F.ok306 : callable Tryz.prog 306 = true := by kernel_rfl
theorem F.ok307 : callable Tryz.prog 307 = true := by kernel_rfl
theorem F.ok311 : callable Tryz.prog 311 = true := by kernel_rfl
theorem F.ok32 : callable Tryz.prog 32 = true := by kernel_rfl
theorem F.ok322 : callable Tryz.prog 322 = true := by kernel_rfl
theorem F.ok323 : callable Tryz.prog 323 = true := by kernel_rfl
theorem F.ok324 : callable Tryz.prog 324 = true := by kernel_rfl
theorem F.ok325 : callable Tryz.prog 325 = true := by kernel_rfl
theorem F.ok326 : callable Tryz.prog 326 = true := by kernel_rfl
theorem F.ok327 : callable Tryz.prog 327 = true := by kernel_rfl
theorem F.ok328 : callable Tryz.prog 328 = true := by kernel_rfl
theorem F.ok329 : callable Tryz.prog 329 = true := by kernel_rfl
theorem F.ok33 : callable Tryz.prog 33 = true := by kernel_rfl
theorem F.ok330 : callable Tryz.prog 330 = true := by kernel_rfl
theorem F.ok336 : callable Tryz.prog 336 = true := by kernel_rfl
theorem F.ok337 : callable Tryz.prog 337 = true := by kernel_rfl
theorem F.ok339 : callable Tryz.prog 339 = true := by kernel_rfl
theorem F.ok34 : callable Tryz.prog 34 = true := by kernel_rfl
theorem F.ok40 : callable Tryz.prog 40 = true := by kernel_rfl
theorem F.ok43 : callable Tryz.prog 43 = true := by kernel_rfl
theorem F.ok48 : callable Tryz.prog 48 = true := by kernel_rfl
theorem F.ok49 : callable Tryz.prog 49 = true := by kernel_rfl
theorem F.ok50 : callable Tryz.prog 50 = true := by kernel_rfl
theorem F.ok54 : callable Tryz.prog 54 = true := by kernel_rfl
theorem F.ok55 : callable Tryz.prog 55 = true := by kernel_rfl
theorem F.ok60 : callable Tryz.prog 60 = true := by kernel_rfl
theorem F.ok61 : callable Tryz.prog 61 = true := by kernel_rfl
theorem F.ok62 : callable Tryz.prog 62 = true := by kernel_rfl
theorem F.ok79 : callable Tryz.prog 79 = true := by kernel_rfl
theorem F.ok80 : callable Tryz.prog 80 = true := by kernel_rfl
theorem F.ok81 : callable Tryz.prog 81 = true := by kernel_rfl
theorem F.ok82 : callable Tryz.prog 82 = true := by kernel_rfl
theorem F.ok83 : callable Tryz.prog 83 = true := by kernel_rfl
theorem F.ok84 : callable Tryz.prog 84 = true := by kernel_rfl
theorem F.ok85 : callable Tryz.prog 85 = true := by kernel_rfl
theorem F.ok86 : callable Tryz.prog 86 = true := by kernel_rfl
theorem F.ok87 : callable Tryz.prog 87 = true := by kernel_rfl
theorem F.ok88 : callable Tryz.prog 88 = true := by kernel_rfl
theorem F.ok89 : callable Tryz.prog 89 = true := by kernel_rfl
theorem F.ok90 : callable Tryz.prog 90 = true := by kernel_rfl
theorem F.ok91 : callable Tryz.prog 91 = true := by kernel_rfl
theorem F.ok92 : callable Tryz.prog 92 = true := by kernel_rfl
theorem F.ok95 : callable Tryz.prog 95 = true := by kernel_rfl
theorem F.ok96 : callable Tryz.prog 96 = true := by kernel_rfl
theorem F.ok97 : callable Tryz.prog 97 = true := by kernel_rfl
theorem F.ok98 : callable Tryz.prog 98 = true := by kernel_rfl
theorem F.ok99 : callable Tryz.prog 99 = true := by kernel_rfl
theorem F.size158 : (Tryz.prog.info? 158).map (·.size) = some 8 := by kernel_rfl
theorem F.size166 : (Tryz.prog.info? 166).map (·.size) = some 2 := by kernel_rfl
theorem F.size3 : (Tryz.prog.info? 3).map (·.size) = some 1 := by kernel_rfl
theorem F.size31 : (Tryz.prog.info? 31).map (·.size) = some 1 := by kernel_rfl
theorem F.size49 : (Tryz.prog.info? 49).map (·.size) = some 2 := by kernel_rfl
theorem F.size5 : (Tryz.prog.info? 5).map (·.size) = some 1 := by kernel_rfl
theorem F.size52 : (Tryz.prog.info? 52).map (·.size) = some 5 := by kernel_rfl
theorem F.size55 : (Tryz.prog.info? 55).map (·.size) = some 10 := by kernel_rfl
theorem F.size74 : (Tryz.prog.info? 74).map (·.size) = some 7 := by kernel_rfl
theorem F.size9 : (Tryz.prog.info? 9).map (·.size) = some 1 := by kernel_rfl
end Go.Proofs.YtodhbhanmdfdeaaGreat
