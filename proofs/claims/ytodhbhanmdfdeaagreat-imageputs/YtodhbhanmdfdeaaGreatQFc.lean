/- Texts of this proof. -/
import Derived.Test.YtodhbhanmdfdeaaGreatProg
import Derived.Test.YtodhbhanmdfdeaaGreatQSpOwn
import Derived.KernelRfl
open Go Go.Sp
set_option maxRecDepth 100000
namespace Go.Proofs.YtodhbhanmdfdeaaGreat
theorem F.elem158 : elemIs Tryz.prog 158 8 136 [.string ⟨#[]⟩, .int .i64 0, .int .i64 0, .slice none 0 0, .bool false, .slice none 0 0, .slice none 0 0, .slice none 0 0] := elemIs.mk (by kernel_rfl) rfl
theorem F.elem166 : elemIs Tryz.prog 166 2 16 [.int .i64 0, .int .i64 0] := elemIs.mk (by kernel_rfl) rfl
theorem F.elem184 : elemIs Tryz.prog 184 1 24 [.slice none 0 0] := elemIs.mk (by kernel_rfl) rfl
theorem F.elem22 : elemIs Tryz.prog 22 1 24 [.slice none 0 0] := elemIs.mk (by kernel_rfl) rfl
theorem F.elem23 : elemIs Tryz.prog 23 1 24 [.slice none 0 0] := elemIs.mk (by kernel_rfl) rfl
theorem F.elem24 : elemIs Tryz.prog 24 1 24 [.slice none 0 0] := elemIs.mk (by kernel_rfl) rfl
theorem F.elem25 : elemIs Tryz.prog 25 1 24 [.slice none 0 0] := elemIs.mk (by kernel_rfl) rfl
theorem F.elem260 : elemIs Tryz.prog 260 1 24 [.slice none 0 0] := elemIs.mk (by kernel_rfl) rfl
theorem F.elem262 : elemIs Tryz.prog 262 1 24 [.slice none 0 0] := elemIs.mk (by kernel_rfl) rfl
theorem F.elem263 : elemIs Tryz.prog 263 1 24 [.slice none 0 0] := elemIs.mk (by kernel_rfl) rfl
theorem F.elem264 : elemIs Tryz.prog 264 1 24 [.slice none 0 0] := elemIs.mk (by kernel_rfl) rfl
theorem F.elem267 : elemIs Tryz.prog 267 1 24 [.slice none 0 0] := elemIs.mk (by kernel_rfl) rfl
theorem F.elem272 : elemIs Tryz.prog 272 1 24 [.slice none 0 0] := elemIs.mk (by kernel_rfl) rfl
theorem F.elem278 : elemIs Tryz.prog 278 1 24 [.slice none 0 0] := elemIs.mk (by kernel_rfl) rfl
theorem F.elem283 : elemIs Tryz.prog 283 1 24 [.slice none 0 0] := elemIs.mk (by kernel_rfl) rfl
theorem F.elem288 : elemIs Tryz.prog 288 1 24 [.slice none 0 0] := elemIs.mk (by kernel_rfl) rfl
theorem F.elem294 : elemIs Tryz.prog 294 1 24 [.slice none 0 0] := elemIs.mk (by kernel_rfl) rfl
theorem F.elem299 : elemIs Tryz.prog 299 1 24 [.slice none 0 0] := elemIs.mk (by kernel_rfl) rfl
theorem F.elem3 : elemIs Tryz.prog 3 1 8 [.int .i64 0] := elemIs.mk (by kernel_rfl) rfl
theorem F.elem306 : elemIs Tryz.prog 306 1 24 [.slice none 0 0] := elemIs.mk (by kernel_rfl) rfl
theorem F.elem31 : elemIs Tryz.prog 31 1 24 [.slice none 0 0] := elemIs.mk (by kernel_rfl) rfl
theorem F.elem311 : elemIs Tryz.prog 311 1 24 [.slice none 0 0] := elemIs.mk (by kernel_rfl) rfl
theorem F.elem317 : elemIs Tryz.prog 317 1 24 [.slice none 0 0] := elemIs.mk (by kernel_rfl) rfl
theorem F.elem39 : elemIs Tryz.prog 39 1 24 [.slice none 0 0] := elemIs.mk (by kernel_rfl) rfl
theorem F.elem45 : elemIs Tryz.prog 45 1 24 [.slice none 0 0] := elemIs.mk (by kernel_rfl) rfl
theorem F.elem47 : elemIs Tryz.prog 47 1 24 [.slice none 0 0] := elemIs.mk (by kernel_rfl) rfl
theorem F.elem49 : elemIs Tryz.prog 49 2 40 [.string ⟨#[]⟩, .slice none 0 0] := elemIs.mk (by kernel_rfl) rfl
theorem F.elem5 : elemIs Tryz.prog 5 1 1 [.int .u8 0] := elemIs.mk (by kernel_rfl) rfl
theorem F.elem52 : elemIs Tryz.prog 52 5 72 [.int .i64 0, .int .i64 0, .int .i64 0, .slice none 0 0, .slice none 0 0] := elemIs.mk (by kernel_rfl) rfl
theorem F.elem55 : elemIs Tryz.prog 55 10 144 [.int .i64 0, .int .i64 0, .int .i64 0, .slice none 0 0, .slice none 0 0, .int .i64 0, .int .i64 0, .int .i64 0, .slice none 0 0, .slice none 0 0] := elemIs.mk (by kernel_rfl) rfl
theorem F.elem72 : elemIs Tryz.prog 72 1 24 [.slice none 0 0] := elemIs.mk (by kernel_rfl) rfl
theorem F.elem74 : elemIs Tryz.prog 74 7 112 [.string ⟨#[]⟩, .int .i64 0, .int .i64 0, .slice none 0 0, .bool false, .slice none 0 0, .slice none 0 0] := elemIs.mk (by kernel_rfl) rfl
theorem F.elem9 : elemIs Tryz.prog 9 1 16 [.string ⟨#[]⟩] := elemIs.mk (by kernel_rfl) rfl
theorem F.flat100 : Go.Sp.flat1 Tryz.prog 100 = true := by kernel_rfl
theorem F.flat101 : Go.Sp.flat1 Tryz.prog 101 = true := by kernel_rfl
theorem F.flat102 : Go.Sp.flat1 Tryz.prog 102 = true := by kernel_rfl
theorem F.flat103 : Go.Sp.flat1 Tryz.prog 103 = true := by kernel_rfl
theorem F.flat104 : Go.Sp.flat1 Tryz.prog 104 = true := by kernel_rfl
theorem F.flat105 : Go.Sp.flat1 Tryz.prog 105 = true := by kernel_rfl
theorem F.flat106 : Go.Sp.flat1 Tryz.prog 106 = true := by kernel_rfl
theorem F.flat107 : Go.Sp.flat1 Tryz.prog 107 = true := by kernel_rfl
theorem F.flat108 : Go.Sp.flat1 Tryz.prog 108 = true := by kernel_rfl
theorem F.flat109 : Go.Sp.flat1 Tryz.prog 109 = true := by kernel_rfl
theorem F.flat110 : Go.Sp.flat1 Tryz.prog 110 = true := by kernel_rfl
theorem F.flat111 : Go.Sp.flat1 Tryz.prog 111 = true := by kernel_rfl
theorem F.flat112 : Go.Sp.flat1 Tryz.prog 112 = true := by kernel_rfl
theorem F.flat113 : Go.Sp.flat1 Tryz.prog 113 = true := by kernel_rfl
theorem F.flat114 : Go.Sp.flat1 Tryz.prog 114 = true := by kernel_rfl
theorem F.flat115 : Go.Sp.flat1 Tryz.prog 115 = true := by kernel_rfl
theorem F.flat116 : Go.Sp.flat1 Tryz.prog 116 = true := by kernel_rfl
theorem F.flat117 : Go.Sp.flat1 Tryz.prog 117 = true := by kernel_rfl
theorem F.flat118 : Go.Sp.flat1 Tryz.prog 118 = true := by kernel_rfl
theorem F.flat119 : Go.Sp.flat1 Tryz.prog 119 = true := by kernel_rfl
theorem F.flat120 : Go.Sp.flat1 Tryz.prog 120 = true := by kernel_rfl
theorem F.flat146 : Go.Sp.flat1 Tryz.prog 146 = true := by kernel_rfl
theorem F.flat184 : Go.Sp.flat1 Tryz.prog 184 = true := by kernel_rfl
theorem F.flat196 : Go.Sp.flat1 Tryz.prog 196 = true := by kernel_rfl
theorem F.flat22 : Go.Sp.flat1 Tryz.prog 22 = true := by kernel_rfl
theorem F.flat23 : Go.Sp.flat1 Tryz.prog 23 = true := by kernel_rfl
theorem F.flat24 : Go.Sp.flat1 Tryz.prog 24 = true := by kernel_rfl
theorem F.flat25 : Go.Sp.flat1 Tryz.prog 25 = true := by kernel_rfl
theorem F.flat3 : Go.Sp.flat1 Tryz.prog 3 = true := by kernel_rfl
theorem F.flat31 : Go.Sp.flat1 Tryz.prog 31 = true := by kernel_rfl
theorem F.flat32 : Go.Sp.flat1 Tryz.prog 32 = true := by kernel_rfl
theorem F.flat39 : Go.Sp.flat1 Tryz.prog 39 = true := by kernel_rfl
theorem F.flat4 : Go.Sp.flat1 Tryz.prog 4 = true := by kernel_rfl
theorem F.flat46 : Go.Sp.flat1 Tryz.prog 46 = true := by kernel_rfl
theorem F.flat47 : Go.Sp.flat1 Tryz.prog 47 = true := by kernel_rfl
theorem F.flat5 : Go.Sp.flat1 Tryz.prog 5 = true := by kernel_rfl
theorem F.flat65 : Go.Sp.flat1 Tryz.prog 65 = true := by kernel_rfl
theorem F.flat72 : Go.Sp.flat1 Tryz.prog 72 = true := by kernel_rfl
theorem F.flat9 : Go.Sp.flat1 Tryz.prog 9 = true := by kernel_rfl
theorem F.fld122x0 : fieldOff Tryz.prog 122 0 = some 0 := by kernel_rfl
theorem F.fld122x1 : fieldOff Tryz.prog 122 1 = some 1 := by kernel_rfl
theorem F.fld122x10 : fieldOff Tryz.prog 122 10 = some 10 := by kernel_rfl
theorem F.fld122x11 : fieldOff Tryz.prog 122 11 = some 11 := by kernel_rfl
theorem F.fld122x12 : fieldOff Tryz.prog 122 12 = some 12 := by kernel_rfl
theorem F.fld122x13 : fieldOff Tryz.prog 122 13 = some 13 := by kernel_rfl
theorem F.fld122x14 : fieldOff Tryz.prog 122 14 = some 14 := by kernel_rfl
theorem F.fld122x15 : fieldOff Tryz.prog 122 15 = some 15 := by kernel_rfl
theorem F.fld122x16 : fieldOff Tryz.prog 122 16 = some 16 := by kernel_rfl
theorem F.fld122x17 : fieldOff Tryz.prog 122 17 = some 17 := by kernel_rfl
theorem F.fld122x18 : fieldOff Tryz.prog 122 18 = some 18 := by kernel_rfl
theorem F.fld122x19 : fieldOff Tryz.prog 122 19 = some 19 := by kernel_rfl
theorem F.fld122x2 : fieldOff Tryz.prog 122 2 = some 2 := by kernel_rfl
theorem F.fld122x20 : fieldOff Tryz.prog 122 20 = some 20 := by kernel_rfl
theorem F.fld122x21 : fieldOff Tryz.prog 122 21 = some 21 := by kernel_rfl
theorem F.fld122x22 : fieldOff Tryz.prog 122 22 = some 22 := by kernel_rfl
theorem F.fld122x23 : fieldOff Tryz.prog 122 23 = some 23 := by kernel_rfl
theorem F.fld122x3 : fieldOff Tryz.prog 122 3 = some 3 := by kernel_rfl
theorem F.fld122x4 : fieldOff Tryz.prog 122 4 = some 4 := by kernel_rfl
theorem F.fld122x5 : fieldOff Tryz.prog 122 5 = some 5 := by kernel_rfl
theorem F.fld122x6 : fieldOff Tryz.prog 122 6 = some 6 := by kernel_rfl
theorem F.fld122x7 : fieldOff Tryz.prog 122 7 = some 7 := by kernel_rfl
theorem F.fld122x8 : fieldOff Tryz.prog 122 8 = some 8 := by kernel_rfl
theorem F.fld122x9 : fieldOff Tryz.prog 122 9 = some 9 := by kernel_rfl
theorem F.fld148x0 : fieldOff Tryz.prog 148 0 = some 0 := by kernel_rfl
theorem F.fld158x0 : fieldOff Tryz.prog 158 0 = some 0 := by kernel_rfl
theorem F.fld158x1 : fieldOff Tryz.prog 158 1 = some 7 := by kernel_rfl
theorem F.fld163x0 : fieldOff Tryz.prog 163 0 = some 0 := by kernel_rfl
theorem F.fld166x0 : fieldOff Tryz.prog 166 0 = some 0 := by kernel_rfl
theorem F.fld166x1 : fieldOff Tryz.prog 166 1 = some 1 := by kernel_rfl
theorem F.fld183x0 : fieldOff Tryz.prog 183 0 = some 0 := by kernel_rfl
theorem F.fld186x0 : fieldOff Tryz.prog 186 0 = some 0 := by kernel_rfl
theorem F.fld186x1 : fieldOff Tryz.prog 186 1 = some 1 := by kernel_rfl
theorem F.fld186x2 : fieldOff Tryz.prog 186 2 = some 2 := by kernel_rfl
theorem F.fld186x3 : fieldOff Tryz.prog 186 3 = some 7 := by kernel_rfl
theorem F.fld186x4 : fieldOff Tryz.prog 186 4 = some 8 := by kernel_rfl
theorem F.fld27x0 : fieldOff Tryz.prog 27 0 = some 0 := by kernel_rfl
theorem F.fld27x1 : fieldOff Tryz.prog 27 1 = some 1 := by kernel_rfl
theorem F.fld27x2 : fieldOff Tryz.prog 27 2 = some 2 := by kernel_rfl
theorem F.fld27x3 : fieldOff Tryz.prog 27 3 = some 3 := by kernel_rfl
theorem F.fld345x0 : fieldOff Tryz.prog 345 0 = some 0 := by kernel_rfl
theorem F.fld351x0 : fieldOff Tryz.prog 351 0 = some 0 := by kernel_rfl
theorem F.fld351x1 : fieldOff Tryz.prog 351 1 = some 5 := by kernel_rfl
theorem F.fld49x0 : fieldOff Tryz.prog 49 0 = some 0 := by kernel_rfl
theorem F.fld49x1 : fieldOff Tryz.prog 49 1 = some 1 := by kernel_rfl
theorem F.fld52x0 : fieldOff Tryz.prog 52 0 = some 0 := by kernel_rfl
theorem F.fld52x1 : fieldOff Tryz.prog 52 1 = some 1 := by kernel_rfl
theorem F.fld52x2 : fieldOff Tryz.prog 52 2 = some 2 := by kernel_rfl
theorem F.fld52x3 : fieldOff Tryz.prog 52 3 = some 3 := by kernel_rfl
theorem F.fld52x4 : fieldOff Tryz.prog 52 4 = some 4 := by kernel_rfl
theorem F.fld55x0 : fieldOff Tryz.prog 55 0 = some 0 := by kernel_rfl
theorem F.fld55x1 : fieldOff Tryz.prog 55 1 = some 5 := by kernel_rfl
theorem F.fld74x0 : fieldOff Tryz.prog 74 0 = some 0 := by kernel_rfl
theorem F.fld74x1 : fieldOff Tryz.prog 74 1 = some 1 := by kernel_rfl
theorem F.fld74x2 : fieldOff Tryz.prog 74 2 = some 2 := by kernel_rfl
theorem F.fld74x3 : fieldOff Tryz.prog 74 3 = some 3 := by kernel_rfl
theorem F.fld74x4 : fieldOff Tryz.prog 74 4 = some 4 := by kernel_rfl
theorem F.fld74x5 : fieldOff Tryz.prog 74 5 = some 5 := by kernel_rfl
theorem F.fld74x6 : fieldOff Tryz.prog 74 6 = some 6 := by kernel_rfl
theorem F.mixed : Tryz.prog.follows .mixedOrders = true := by kernel_rfl
theorem F.ok100 : callable Tryz.prog 100 = true := by kernel_rfl
theorem F.ok101 : callable Tryz.prog 101 = true := by kernel_rfl
theorem F.ok104 : callable Tryz.prog 104 = true := by kernel_rfl
theorem F.ok107 : callable Tryz.prog 107 = true := by kernel_rfl
theorem F.ok108 : callable Tryz.prog 108 = true := by kernel_rfl
theorem F.ok109 : callable Tryz.prog 109 = true := by kernel_rfl
theorem F.ok110 : callable Tryz.prog 110 = true := by kernel_rfl
theorem F.ok112 : callable Tryz.prog 112 = true := by kernel_rfl
theorem F.ok114 : callable Tryz.prog 114 = true := by kernel_rfl
theorem F.ok115 : callable Tryz.prog 115 = true := by kernel_rfl
theorem F.ok116 : callable Tryz.prog 116 = true := by kernel_rfl
theorem F.ok117 : callable Tryz.prog 117 = true := by kernel_rfl
theorem F.ok118 : callable Tryz.prog 118 = true := by kernel_rfl
theorem F.ok119 : callable Tryz.prog 119 = true := by kernel_rfl
theorem F.ok122 : callable Tryz.prog 122 = true := by kernel_rfl
theorem F.ok123 : callable Tryz.prog 123 = true := by kernel_rfl
theorem F.ok124 : callable Tryz.prog 124 = true := by kernel_rfl
theorem F.ok125 : callable Tryz.prog 125 = true := by kernel_rfl
theorem F.ok130 : callable Tryz.prog 130 = true := by kernel_rfl
theorem F.ok137 : callable Tryz.prog 137 = true := by kernel_rfl
theorem F.ok138 : callable Tryz.prog 138 = true := by kernel_rfl
theorem F.ok139 : callable Tryz.prog 139 = true := by kernel_rfl
theorem F.ok14 : callable Tryz.prog 14 = true := by kernel_rfl
theorem F.ok140 : callable Tryz.prog 140 = true := by kernel_rfl
theorem F.ok141 : callable Tryz.prog 141 = true := by kernel_rfl
theorem F.ok142 : callable Tryz.prog 142 = true := by kernel_rfl
theorem F.ok143 : callable Tryz.prog 143 = true := by kernel_rfl
theorem F.ok144 : callable Tryz.prog 144 = true := by kernel_rfl
theorem F.ok145 : callable Tryz.prog 145 = true := by kernel_rfl
theorem F.ok146 : callable Tryz.prog 146 = true := by kernel_rfl
theorem F.ok147 : callable Tryz.prog 147 = true := by kernel_rfl
theorem F.ok148 : callable Tryz.prog 148 = true := by kernel_rfl
theorem F.ok149 : callable Tryz.prog 149 = true := by kernel_rfl
theorem F.ok15 : callable Tryz.prog 15 = true := by kernel_rfl
theorem F.ok150 : callable Tryz.prog 150 = true := by kernel_rfl
theorem F.ok151 : callable Tryz.prog 151 = true := by kernel_rfl
theorem F.ok152 : callable Tryz.prog 152 = true := by kernel_rfl
theorem F.ok153 : callable Tryz.prog 153 = true := by kernel_rfl
theorem F.ok154 : callable Tryz.prog 154 = true := by kernel_rfl
theorem F.ok155 : callable Tryz.prog 155 = true := by kernel_rfl
theorem F.ok156 : callable Tryz.prog 156 = true := by kernel_rfl
theorem F.ok157 : callable Tryz.prog 157 = true := by kernel_rfl
theorem F.ok158 : callable Tryz.prog 158 = true := by kernel_rfl
theorem F.ok159 : callable Tryz.prog 159 = true := by kernel_rfl
theorem F.ok16 : callable Tryz.prog 16 = true := by kernel_rfl
theorem F.ok160 : callable Tryz.prog 160 = true := by kernel_rfl
theorem F.ok161 : callable Tryz.prog 161 = true := by kernel_rfl
theorem F.ok162 : callable Tryz.prog 162 = true := by kernel_rfl
theorem F.ok163 : callable Tryz.prog 163 = true := by kernel_rfl
theorem F.ok164 : callable Tryz.prog 164 = true := by kernel_rfl
theorem F.ok165 : callable Tryz.prog 165 = true := by kernel_rfl
theorem F.ok166 : callable Tryz.prog 166 = true := by kernel_rfl
theorem F.ok167 : callable Tryz.prog 167 = true := by kernel_rfl
theorem F.ok168 : callable Tryz.prog 168 = true := by kernel_rfl
theorem F.ok169 : callable Tryz.prog 169 = true := by kernel_rfl
theorem F.ok17 : callable Tryz.prog 17 = true := by kernel_rfl
theorem F.ok170 : callable Tryz.prog 170 = true := by kernel_rfl
theorem F.ok171 : callable Tryz.prog 171 = true := by kernel_rfl
theorem F.ok172 : callable Tryz.prog 172 = true := by kernel_rfl
theorem F.ok173 : callable Tryz.prog 173 = true := by kernel_rfl
theorem F.ok174 : callable Tryz.prog 174 = true := by kernel_rfl
theorem F.ok175 : callable Tryz.prog 175 = true := by kernel_rfl
theorem F.ok176 : callable Tryz.prog 176 = true := by kernel_rfl
theorem F.ok177 : callable Tryz.prog 177 = true := by kernel_rfl
theorem F.ok178 : callable Tryz.prog 178 = true := by kernel_rfl
theorem F.ok179 : callable Tryz.prog 179 = true := by kernel_rfl
theorem F.ok18 : callable Tryz.prog 18 = true := by kernel_rfl
theorem F.ok180 : callable Tryz.prog 180 = true := by kernel_rfl
theorem F.ok181 : callable Tryz.prog 181 = true := by kernel_rfl
theorem F.ok182 : callable Tryz.prog 182 = true := by kernel_rfl
theorem F.ok183 : callable Tryz.prog 183 = true := by kernel_rfl
theorem F.ok184 : callable Tryz.prog 184 = true := by kernel_rfl
theorem F.ok185 : callable Tryz.prog 185 = true := by kernel_rfl
theorem F.ok19 : callable Tryz.prog 19 = true := by kernel_rfl
theorem F.ok20 : callable Tryz.prog 20 = true := by kernel_rfl
theorem F.ok201 : callable Tryz.prog 201 = true := by kernel_rfl
theorem F.ok202 : callable Tryz.prog 202 = true := by kernel_rfl
theorem F.ok204 : callable Tryz.prog 204 = true := by kernel_rfl
theorem F.ok207 : callable Tryz.prog 207 = true := by kernel_rfl
theorem F.ok208 : callable Tryz.prog 208 = true := by kernel_rfl
theorem F.ok209 : callable Tryz.prog 209 = true := by kernel_rfl
theorem F.ok21 : callable Tryz.prog 21 = true := by kernel_rfl
theorem F.ok212 : callable Tryz.prog 212 = true := by kernel_rfl
theorem F.ok213 : callable Tryz.prog 213 = true := by kernel_rfl
theorem F.ok214 : callable Tryz.prog 214 = true := by kernel_rfl
theorem F.ok215 : callable Tryz.prog 215 = true := by kernel_rfl
theorem F.ok216 : callable Tryz.prog 216 = true := by kernel_rfl
theorem F.ok218 : callable Tryz.prog 218 = true := by kernel_rfl
theorem F.ok22 : callable Tryz.prog 22 = true := by kernel_rfl
theorem F.ok220 : callable Tryz.prog 220 = true := by kernel_rfl
theorem F.ok221 : callable Tryz.prog 221 = true := by kernel_rfl
theorem F.ok223 : callable Tryz.prog 223 = true := by kernel_rfl
theorem F.ok224 : callable Tryz.prog 224 = true := by kernel_rfl
theorem F.ok225 : callable Tryz.prog 225 = true := by kernel_rfl
theorem F.ok23 : callable Tryz.prog 23 = true := by kernel_rfl
theorem F.ok235 : callable Tryz.prog 235 = true := by kernel_rfl
theorem F.ok236 : callable Tryz.prog 236 = true := by kernel_rfl
theorem F.ok237 : callable Tryz.prog 237 = true := by kernel_rfl
theorem F.ok238 : callable Tryz.prog 238 = true := by kernel_rfl
theorem F.ok239 : callable Tryz.prog 239 = true := by kernel_rfl
theorem F.ok24 : callable Tryz.prog 24 = true := by kernel_rfl
theorem F.ok240 : callable Tryz.prog 240 = true := by kernel_rfl
theorem F.ok241 : callable Tryz.prog 241 = true := by kernel_rfl
theorem F.ok242 : callable Tryz.prog 242 = true := by kernel_rfl
theorem F.ok244 : callable Tryz.prog 244 = true := by kernel_rfl
theorem F.ok268 : callable Tryz.prog 268 = true := by kernel_rfl
theorem F.ok27 : callable Tryz.prog 27 = true := by kernel_rfl
theorem F.ok270 : callable Tryz.prog 270 = true := by kernel_rfl
theorem F.ok271 : callable Tryz.prog 271 = true := by kernel_rfl
theorem F.ok277 : callable Tryz.prog 277 = true := by kernel_rfl
theorem F.ok278 : callable Tryz.prog 278 = true := by kernel_rfl
theorem F.ok281 : callable Tryz.prog 281 = true := by kernel_rfl
theorem F.ok283 : callable Tryz.prog 283 = true := by kernel_rfl
theorem F.ok284 : callable Tryz.prog 284 = true := by kernel_rfl
theorem F.ok285 : callable Tryz.prog 285 = true := by kernel_rfl
theorem F.ok286 : callable Tryz.prog 286 = true := by kernel_rfl
theorem F.ok287 : callable Tryz.prog 287 = true := by kernel_rfl
theorem F.ok288 : callable Tryz.prog 288 = true := by kernel_rfl
theorem F.ok290 : callable Tryz.prog 290 = true := by kernel_rfl
theorem F.ok291 : callable Tryz.prog 291 = true := by kernel_rfl
theorem F.ok292 : callable Tryz.prog 292 = true := by kernel_rfl
theorem F.ok297 : callable Tryz.prog 297 = true := by kernel_rfl
theorem F.ok298 : callable Tryz.prog 298 = true := by kernel_rfl
theorem F.ok299 : callable Tryz.prog 299 = true := by kernel_rfl
theorem F.ok300 : callable Tryz.prog 300 = true := by kernel_rfl
theorem F.ok301 : callable Tryz.prog 301 = true := by kernel_rfl
theorem F.ok306 : callable Tryz.prog 306 = true := by kernel_rfl
theorem F.ok307 : callable Tryz.prog 307 = true := by kernel_rfl
theorem F.ok311 : callable Tryz.prog 311 = true := by kernel_rfl
theorem F.ok322 : callable Tryz.prog 322 = true := by kernel_rfl
theorem F.ok323 : callable Tryz.prog 323 = true := by kernel_rfl
theorem F.ok324 : callable Tryz.prog 324 = true := by kernel_rfl
theorem F.ok325 : callable Tryz.prog 325 = true := by kernel_rfl
theorem F.ok327 : callable Tryz.prog 327 = true := by kernel_rfl
theorem F.ok328 : callable Tryz.prog 328 = true := by kernel_rfl
theorem F.ok329 : callable Tryz.prog 329 = true := by kernel_rfl
theorem F.ok33 : callable Tryz.prog 33 = true := by kernel_rfl
theorem F.ok330 : callable Tryz.prog 330 = true := by kernel_rfl
theorem F.ok336 : callable Tryz.prog 336 = true := by kernel_rfl
theorem F.ok337 : callable Tryz.prog 337 = true := by kernel_rfl
theorem F.ok339 : callable Tryz.prog 339 = true := by kernel_rfl
theorem F.ok37 : callable Tryz.prog 37 = true := by kernel_rfl
theorem F.ok40 : callable Tryz.prog 40 = true := by kernel_rfl
theorem F.ok41 : callable Tryz.prog 41 = true := by kernel_rfl
theorem F.ok43 : callable Tryz.prog 43 = true := by kernel_rfl
theorem F.ok44 : callable Tryz.prog 44 = true := by kernel_rfl
theorem F.ok46 : callable Tryz.prog 46 = true := by kernel_rfl
theorem F.ok48 : callable Tryz.prog 48 = true := by kernel_rfl
theorem F.ok49 : callable Tryz.prog 49 = true := by kernel_rfl
theorem F.ok54 : callable Tryz.prog 54 = true := by kernel_rfl
theorem F.ok55 : callable Tryz.prog 55 = true := by kernel_rfl
theorem F.ok56 : callable Tryz.prog 56 = true := by kernel_rfl
theorem F.ok57 : callable Tryz.prog 57 = true := by kernel_rfl
theorem F.ok58 : callable Tryz.prog 58 = true := by kernel_rfl
theorem F.ok59 : callable Tryz.prog 59 = true := by kernel_rfl
theorem F.ok60 : callable Tryz.prog 60 = true := by kernel_rfl
theorem F.ok61 : callable Tryz.prog 61 = true := by kernel_rfl
theorem F.ok62 : callable Tryz.prog 62 = true := by kernel_rfl
theorem F.ok63 : callable Tryz.prog 63 = true := by kernel_rfl
theorem F.ok64 : callable Tryz.prog 64 = true := by kernel_rfl
theorem F.ok65 : callable Tryz.prog 65 = true := by kernel_rfl
theorem F.ok66 : callable Tryz.prog 66 = true := by kernel_rfl
theorem F.ok67 : callable Tryz.prog 67 = true := by kernel_rfl
theorem F.ok68 : callable Tryz.prog 68 = true := by kernel_rfl
theorem F.ok69 : callable Tryz.prog 69 = true := by kernel_rfl
theorem F.ok70 : callable Tryz.prog 70 = true := by kernel_rfl
theorem F.ok71 : callable Tryz.prog 71 = true := by kernel_rfl
theorem F.ok72 : callable Tryz.prog 72 = true := by kernel_rfl
theorem F.ok73 : callable Tryz.prog 73 = true := by kernel_rfl
theorem F.ok74 : callable Tryz.prog 74 = true := by kernel_rfl
theorem F.ok75 : callable Tryz.prog 75 = true := by kernel_rfl
theorem F.ok76 : callable Tryz.prog 76 = true := by kernel_rfl
theorem F.ok77 : callable Tryz.prog 77 = true := by kernel_rfl
theorem F.ok78 : callable Tryz.prog 78 = true := by kernel_rfl
theorem F.ok90 : callable Tryz.prog 90 = true := by kernel_rfl
theorem F.ok95 : callable Tryz.prog 95 = true := by kernel_rfl
theorem F.ok96 : callable Tryz.prog 96 = true := by kernel_rfl
theorem F.ok97 : callable Tryz.prog 97 = true := by kernel_rfl
theorem F.ok98 : callable Tryz.prog 98 = true := by kernel_rfl
theorem F.ok99 : callable Tryz.prog 99 = true := by kernel_rfl
theorem F.size158 : (Tryz.prog.info? 158).map (·.size) = some 8 := by kernel_rfl
theorem F.size166 : (Tryz.prog.info? 166).map (·.size) = some 2 := by kernel_rfl
theorem F.size3 : (Tryz.prog.info? 3).map (·.size) = some 1 := by kernel_rfl
theorem F.size31 : (Tryz.prog.info? 31).map (·.size) = some 1 := by kernel_rfl
theorem F.size49 : (Tryz.prog.info? 49).map (·.size) = some 2 := by kernel_rfl
theorem F.size5 : (Tryz.prog.info? 5).map (·.size) = some 1 := by kernel_rfl
theorem F.size52 : (Tryz.prog.info? 52).map (·.size) = some 5 := by kernel_rfl
theorem F.size55 : (Tryz.prog.info? 55).map (·.size) = some 10 := by kernel_rfl
theorem F.size74 : (Tryz.prog.info? 74).map (·.size) = some 7 := by kernel_rfl
theorem F.size9 : (Tryz.prog.info? 9).map (·.size) = some 1 := by kernel_rfl
end Go.Proofs.YtodhbhanmdfdeaaGreat
