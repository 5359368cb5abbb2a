/- Closed facts of this translation, by program. -/
import Derived.Test.YtodkpkmhnpmmgaaProg
import Derived.Test.YtodkpkmhnpmmgaaSpOwn
import Derived.KernelRfl
open Go Go.Sp
namespace Go.Proofs.Ytodkpkmhnpmmgaa.Fact
theorem mixed : Go.Proofs.Try.prog.follows .mixedOrders = true := by kernel_rfl
theorem size1 : (Go.Proofs.Try.prog.info? 1).map (·.size) = some 1 := by kernel_rfl
theorem flat1 : Go.Sp.flat1 Go.Proofs.Try.prog 1 = true := by kernel_rfl
theorem elem1 : elemIs Go.Proofs.Try.prog 1 1 8 [.nilFunc] := elemIs.mk (by kernel_rfl) rfl
theorem size2 : (Go.Proofs.Try.prog.info? 2).map (·.size) = some 1 := by kernel_rfl
theorem flat2 : Go.Sp.flat1 Go.Proofs.Try.prog 2 = true := by kernel_rfl
theorem elem2 : elemIs Go.Proofs.Try.prog 2 1 8 [.int .i64 0] := elemIs.mk (by kernel_rfl) rfl
theorem size3 : (Go.Proofs.Try.prog.info? 3).map (·.size) = some 1 := by kernel_rfl
theorem flat3 : Go.Sp.flat1 Go.Proofs.Try.prog 3 = true := by kernel_rfl
theorem elem3 : elemIs Go.Proofs.Try.prog 3 1 8 [.int .i64 0] := elemIs.mk (by kernel_rfl) rfl
theorem size4 : (Go.Proofs.Try.prog.info? 4).map (·.size) = some 1 := by kernel_rfl
theorem flat4 : Go.Sp.flat1 Go.Proofs.Try.prog 4 = true := by kernel_rfl
theorem elem4 : elemIs Go.Proofs.Try.prog 4 1 1 [.bool false] := elemIs.mk (by kernel_rfl) rfl
theorem size5 : (Go.Proofs.Try.prog.info? 5).map (·.size) = some 1 := by kernel_rfl
theorem flat5 : Go.Sp.flat1 Go.Proofs.Try.prog 5 = true := by kernel_rfl
theorem elem5 : elemIs Go.Proofs.Try.prog 5 1 1 [.int .u8 0] := elemIs.mk (by kernel_rfl) rfl
theorem size6 : (Go.Proofs.Try.prog.info? 6).map (·.size) = some 1 := by kernel_rfl
theorem flat6 : Go.Sp.flat1 Go.Proofs.Try.prog 6 = true := by kernel_rfl
theorem elem6 : elemIs Go.Proofs.Try.prog 6 1 1 [.int .u8 0] := elemIs.mk (by kernel_rfl) rfl
theorem size7 : (Go.Proofs.Try.prog.info? 7).map (·.size) = some 4 := by kernel_rfl
theorem elem7 : elemIs Go.Proofs.Try.prog 7 4 24 [.int .i64 0, .int .i64 0, .bool false, .int .u8 0] := elemIs.mk (by kernel_rfl) rfl
theorem fld7x0 : fieldOff Go.Proofs.Try.prog 7 0 = some 0 := by kernel_rfl
theorem fld7x1 : fieldOff Go.Proofs.Try.prog 7 1 = some 1 := by kernel_rfl
theorem fld7x2 : fieldOff Go.Proofs.Try.prog 7 2 = some 2 := by kernel_rfl
theorem fld7x3 : fieldOff Go.Proofs.Try.prog 7 3 = some 3 := by kernel_rfl
theorem size8 : (Go.Proofs.Try.prog.info? 8).map (·.size) = some 4 := by kernel_rfl
theorem elem8 : elemIs Go.Proofs.Try.prog 8 4 24 [.int .i64 0, .int .i64 0, .bool false, .int .u8 0] := elemIs.mk (by kernel_rfl) rfl
theorem fld8x0 : fieldOff Go.Proofs.Try.prog 8 0 = some 0 := by kernel_rfl
theorem fld8x1 : fieldOff Go.Proofs.Try.prog 8 1 = some 1 := by kernel_rfl
theorem fld8x2 : fieldOff Go.Proofs.Try.prog 8 2 = some 2 := by kernel_rfl
theorem fld8x3 : fieldOff Go.Proofs.Try.prog 8 3 = some 3 := by kernel_rfl
theorem size9 : (Go.Proofs.Try.prog.info? 9).map (·.size) = some 1 := by kernel_rfl
theorem flat9 : Go.Sp.flat1 Go.Proofs.Try.prog 9 = true := by kernel_rfl
theorem elem9 : elemIs Go.Proofs.Try.prog 9 1 16 [.string ⟨#[]⟩] := elemIs.mk (by kernel_rfl) rfl
theorem size10 : (Go.Proofs.Try.prog.info? 10).map (·.size) = some 1 := by kernel_rfl
theorem flat10 : Go.Sp.flat1 Go.Proofs.Try.prog 10 = true := by kernel_rfl
theorem elem10 : elemIs Go.Proofs.Try.prog 10 1 16 [.string ⟨#[]⟩] := elemIs.mk (by kernel_rfl) rfl
theorem size11 : (Go.Proofs.Try.prog.info? 11).map (·.size) = some 1 := by kernel_rfl
theorem flat11 : Go.Sp.flat1 Go.Proofs.Try.prog 11 = true := by kernel_rfl
theorem elem11 : elemIs Go.Proofs.Try.prog 11 1 16 [.string ⟨#[]⟩] := elemIs.mk (by kernel_rfl) rfl
theorem size12 : (Go.Proofs.Try.prog.info? 12).map (·.size) = some 1 := by kernel_rfl
theorem flat12 : Go.Sp.flat1 Go.Proofs.Try.prog 12 = true := by kernel_rfl
theorem elem12 : elemIs Go.Proofs.Try.prog 12 1 8 [.int .u64 0] := elemIs.mk (by kernel_rfl) rfl
theorem size13 : (Go.Proofs.Try.prog.info? 13).map (·.size) = some 2 := by kernel_rfl
theorem elem13 : elemIs Go.Proofs.Try.prog 13 2 24 [.string ⟨#[]⟩, .int .u64 0] := elemIs.mk (by kernel_rfl) rfl
theorem fld13x0 : fieldOff Go.Proofs.Try.prog 13 0 = some 0 := by kernel_rfl
theorem fld13x1 : fieldOff Go.Proofs.Try.prog 13 1 = some 1 := by kernel_rfl
theorem size14 : (Go.Proofs.Try.prog.info? 14).map (·.size) = some 2 := by kernel_rfl
theorem elem14 : elemIs Go.Proofs.Try.prog 14 2 24 [.string ⟨#[]⟩, .int .u64 0] := elemIs.mk (by kernel_rfl) rfl
theorem fld14x0 : fieldOff Go.Proofs.Try.prog 14 0 = some 0 := by kernel_rfl
theorem fld14x1 : fieldOff Go.Proofs.Try.prog 14 1 = some 1 := by kernel_rfl
theorem size15 : (Go.Proofs.Try.prog.info? 15).map (·.size) = some 1 := by kernel_rfl
theorem flat15 : Go.Sp.flat1 Go.Proofs.Try.prog 15 = true := by kernel_rfl
theorem elem15 : elemIs Go.Proofs.Try.prog 15 1 8 [.pointer none] := elemIs.mk (by kernel_rfl) rfl
theorem size16 : (Go.Proofs.Try.prog.info? 16).map (·.size) = some 1 := by kernel_rfl
theorem flat16 : Go.Sp.flat1 Go.Proofs.Try.prog 16 = true := by kernel_rfl
theorem elem16 : elemIs Go.Proofs.Try.prog 16 1 8 [.pointer none] := elemIs.mk (by kernel_rfl) rfl
theorem size17 : (Go.Proofs.Try.prog.info? 17).map (·.size) = some 1 := by kernel_rfl
theorem flat17 : Go.Sp.flat1 Go.Proofs.Try.prog 17 = true := by kernel_rfl
theorem elem17 : elemIs Go.Proofs.Try.prog 17 1 8 [.pointer none] := elemIs.mk (by kernel_rfl) rfl
theorem size18 : (Go.Proofs.Try.prog.info? 18).map (·.size) = some 1 := by kernel_rfl
theorem elem18 : elemIs Go.Proofs.Try.prog 18 1 8 [.pointer none] := elemIs.mk (by kernel_rfl) rfl
theorem fld18x0 : fieldOff Go.Proofs.Try.prog 18 0 = some 0 := by kernel_rfl
theorem size19 : (Go.Proofs.Try.prog.info? 19).map (·.size) = some 1 := by kernel_rfl
theorem elem19 : elemIs Go.Proofs.Try.prog 19 1 8 [.pointer none] := elemIs.mk (by kernel_rfl) rfl
theorem fld19x0 : fieldOff Go.Proofs.Try.prog 19 0 = some 0 := by kernel_rfl
theorem size20 : (Go.Proofs.Try.prog.info? 20).map (·.size) = some 1 := by kernel_rfl
theorem flat20 : Go.Sp.flat1 Go.Proofs.Try.prog 20 = true := by kernel_rfl
theorem elem20 : elemIs Go.Proofs.Try.prog 20 1 16 [.nilIface] := elemIs.mk (by kernel_rfl) rfl
theorem size21 : (Go.Proofs.Try.prog.info? 21).map (·.size) = some 1 := by kernel_rfl
theorem flat21 : Go.Sp.flat1 Go.Proofs.Try.prog 21 = true := by kernel_rfl
theorem elem21 : elemIs Go.Proofs.Try.prog 21 1 4 [.int .i32 0] := elemIs.mk (by kernel_rfl) rfl
theorem size22 : (Go.Proofs.Try.prog.info? 22).map (·.size) = some 1 := by kernel_rfl
theorem flat22 : Go.Sp.flat1 Go.Proofs.Try.prog 22 = true := by kernel_rfl
theorem elem22 : elemIs Go.Proofs.Try.prog 22 1 24 [.slice none 0 0] := elemIs.mk (by kernel_rfl) rfl
theorem size23 : (Go.Proofs.Try.prog.info? 23).map (·.size) = some 1 := by kernel_rfl
theorem flat23 : Go.Sp.flat1 Go.Proofs.Try.prog 23 = true := by kernel_rfl
theorem elem23 : elemIs Go.Proofs.Try.prog 23 1 24 [.slice none 0 0] := elemIs.mk (by kernel_rfl) rfl
theorem size24 : (Go.Proofs.Try.prog.info? 24).map (·.size) = some 1 := by kernel_rfl
theorem flat24 : Go.Sp.flat1 Go.Proofs.Try.prog 24 = true := by kernel_rfl
theorem elem24 : elemIs Go.Proofs.Try.prog 24 1 8 [.nilFunc] := elemIs.mk (by kernel_rfl) rfl
theorem size25 : (Go.Proofs.Try.prog.info? 25).map (·.size) = some 1 := by kernel_rfl
theorem flat25 : Go.Sp.flat1 Go.Proofs.Try.prog 25 = true := by kernel_rfl
theorem elem25 : elemIs Go.Proofs.Try.prog 25 1 24 [.slice none 0 0] := elemIs.mk (by kernel_rfl) rfl
theorem size26 : (Go.Proofs.Try.prog.info? 26).map (·.size) = some 1 := by kernel_rfl
theorem flat26 : Go.Sp.flat1 Go.Proofs.Try.prog 26 = true := by kernel_rfl
theorem elem26 : elemIs Go.Proofs.Try.prog 26 1 8 [.nilFunc] := elemIs.mk (by kernel_rfl) rfl
theorem size27 : (Go.Proofs.Try.prog.info? 27).map (·.size) = some 1 := by kernel_rfl
theorem flat27 : Go.Sp.flat1 Go.Proofs.Try.prog 27 = true := by kernel_rfl
theorem elem27 : elemIs Go.Proofs.Try.prog 27 1 8 [.nilFunc] := elemIs.mk (by kernel_rfl) rfl
theorem size28 : (Go.Proofs.Try.prog.info? 28).map (·.size) = some 1 := by kernel_rfl
theorem flat28 : Go.Sp.flat1 Go.Proofs.Try.prog 28 = true := by kernel_rfl
theorem elem28 : elemIs Go.Proofs.Try.prog 28 1 8 [.nilFunc] := elemIs.mk (by kernel_rfl) rfl
theorem size29 : (Go.Proofs.Try.prog.info? 29).map (·.size) = some 1 := by kernel_rfl
theorem flat29 : Go.Sp.flat1 Go.Proofs.Try.prog 29 = true := by kernel_rfl
theorem elem29 : elemIs Go.Proofs.Try.prog 29 1 8 [.nilFunc] := elemIs.mk (by kernel_rfl) rfl
theorem size30 : (Go.Proofs.Try.prog.info? 30).map (·.size) = some 1 := by kernel_rfl
theorem flat30 : Go.Sp.flat1 Go.Proofs.Try.prog 30 = true := by kernel_rfl
theorem elem30 : elemIs Go.Proofs.Try.prog 30 1 8 [.nilFunc] := elemIs.mk (by kernel_rfl) rfl
theorem size31 : (Go.Proofs.Try.prog.info? 31).map (·.size) = some 1 := by kernel_rfl
theorem flat31 : Go.Sp.flat1 Go.Proofs.Try.prog 31 = true := by kernel_rfl
theorem elem31 : elemIs Go.Proofs.Try.prog 31 1 8 [.nilFunc] := elemIs.mk (by kernel_rfl) rfl
theorem size32 : (Go.Proofs.Try.prog.info? 32).map (·.size) = some 1 := by kernel_rfl
theorem flat32 : Go.Sp.flat1 Go.Proofs.Try.prog 32 = true := by kernel_rfl
theorem elem32 : elemIs Go.Proofs.Try.prog 32 1 8 [.pointer none] := elemIs.mk (by kernel_rfl) rfl
theorem size33 : (Go.Proofs.Try.prog.info? 33).map (·.size) = some 1 := by kernel_rfl
theorem elem33 : elemIs Go.Proofs.Try.prog 33 1 24 [.slice none 0 0] := elemIs.mk (by kernel_rfl) rfl
theorem fld33x0 : fieldOff Go.Proofs.Try.prog 33 0 = some 0 := by kernel_rfl
theorem size34 : (Go.Proofs.Try.prog.info? 34).map (·.size) = some 1 := by kernel_rfl
theorem elem34 : elemIs Go.Proofs.Try.prog 34 1 24 [.slice none 0 0] := elemIs.mk (by kernel_rfl) rfl
theorem fld34x0 : fieldOff Go.Proofs.Try.prog 34 0 = some 0 := by kernel_rfl
theorem size35 : (Go.Proofs.Try.prog.info? 35).map (·.size) = some 3 := by kernel_rfl
theorem elem35 : elemIs Go.Proofs.Try.prog 35 3 32 [.slice none 0 0, .bool false, .bool false] := elemIs.mk (by kernel_rfl) rfl
theorem fld35x0 : fieldOff Go.Proofs.Try.prog 35 0 = some 0 := by kernel_rfl
theorem fld35x1 : fieldOff Go.Proofs.Try.prog 35 1 = some 1 := by kernel_rfl
theorem fld35x2 : fieldOff Go.Proofs.Try.prog 35 2 = some 2 := by kernel_rfl
theorem size36 : (Go.Proofs.Try.prog.info? 36).map (·.size) = some 3 := by kernel_rfl
theorem elem36 : elemIs Go.Proofs.Try.prog 36 3 32 [.slice none 0 0, .bool false, .bool false] := elemIs.mk (by kernel_rfl) rfl
theorem fld36x0 : fieldOff Go.Proofs.Try.prog 36 0 = some 0 := by kernel_rfl
theorem fld36x1 : fieldOff Go.Proofs.Try.prog 36 1 = some 1 := by kernel_rfl
theorem fld36x2 : fieldOff Go.Proofs.Try.prog 36 2 = some 2 := by kernel_rfl
theorem size37 : (Go.Proofs.Try.prog.info? 37).map (·.size) = some 1 := by kernel_rfl
theorem flat37 : Go.Sp.flat1 Go.Proofs.Try.prog 37 = true := by kernel_rfl
theorem elem37 : elemIs Go.Proofs.Try.prog 37 1 24 [.slice none 0 0] := elemIs.mk (by kernel_rfl) rfl
theorem size38 : (Go.Proofs.Try.prog.info? 38).map (·.size) = some 1 := by kernel_rfl
theorem flat38 : Go.Sp.flat1 Go.Proofs.Try.prog 38 = true := by kernel_rfl
theorem elem38 : elemIs Go.Proofs.Try.prog 38 1 8 [.nilFunc] := elemIs.mk (by kernel_rfl) rfl
theorem size39 : (Go.Proofs.Try.prog.info? 39).map (·.size) = some 1 := by kernel_rfl
theorem flat39 : Go.Sp.flat1 Go.Proofs.Try.prog 39 = true := by kernel_rfl
theorem elem39 : elemIs Go.Proofs.Try.prog 39 1 8 [.nilFunc] := elemIs.mk (by kernel_rfl) rfl
theorem size40 : (Go.Proofs.Try.prog.info? 40).map (·.size) = some 1 := by kernel_rfl
theorem flat40 : Go.Sp.flat1 Go.Proofs.Try.prog 40 = true := by kernel_rfl
theorem elem40 : elemIs Go.Proofs.Try.prog 40 1 8 [.nilFunc] := elemIs.mk (by kernel_rfl) rfl
theorem size41 : (Go.Proofs.Try.prog.info? 41).map (·.size) = some 1 := by kernel_rfl
theorem flat41 : Go.Sp.flat1 Go.Proofs.Try.prog 41 = true := by kernel_rfl
theorem elem41 : elemIs Go.Proofs.Try.prog 41 1 8 [.nilFunc] := elemIs.mk (by kernel_rfl) rfl
theorem size42 : (Go.Proofs.Try.prog.info? 42).map (·.size) = some 1 := by kernel_rfl
theorem flat42 : Go.Sp.flat1 Go.Proofs.Try.prog 42 = true := by kernel_rfl
theorem elem42 : elemIs Go.Proofs.Try.prog 42 1 24 [.slice none 0 0] := elemIs.mk (by kernel_rfl) rfl
theorem size43 : (Go.Proofs.Try.prog.info? 43).map (·.size) = some 1 := by kernel_rfl
theorem flat43 : Go.Sp.flat1 Go.Proofs.Try.prog 43 = true := by kernel_rfl
theorem elem43 : elemIs Go.Proofs.Try.prog 43 1 8 [.nilFunc] := elemIs.mk (by kernel_rfl) rfl
theorem size44 : (Go.Proofs.Try.prog.info? 44).map (·.size) = some 4 := by kernel_rfl
theorem elem44 : elemIs Go.Proofs.Try.prog 44 4 40 [.int .i64 0, .slice none 0 0, .bool false, .bool false] := elemIs.mk (by kernel_rfl) rfl
theorem fld44x0 : fieldOff Go.Proofs.Try.prog 44 0 = some 0 := by kernel_rfl
theorem fld44x1 : fieldOff Go.Proofs.Try.prog 44 1 = some 1 := by kernel_rfl
theorem fld44x2 : fieldOff Go.Proofs.Try.prog 44 2 = some 2 := by kernel_rfl
theorem fld44x3 : fieldOff Go.Proofs.Try.prog 44 3 = some 3 := by kernel_rfl
theorem size45 : (Go.Proofs.Try.prog.info? 45).map (·.size) = some 4 := by kernel_rfl
theorem elem45 : elemIs Go.Proofs.Try.prog 45 4 40 [.int .i64 0, .slice none 0 0, .bool false, .bool false] := elemIs.mk (by kernel_rfl) rfl
theorem fld45x0 : fieldOff Go.Proofs.Try.prog 45 0 = some 0 := by kernel_rfl
theorem fld45x1 : fieldOff Go.Proofs.Try.prog 45 1 = some 1 := by kernel_rfl
theorem fld45x2 : fieldOff Go.Proofs.Try.prog 45 2 = some 2 := by kernel_rfl
theorem fld45x3 : fieldOff Go.Proofs.Try.prog 45 3 = some 3 := by kernel_rfl
theorem size46 : (Go.Proofs.Try.prog.info? 46).map (·.size) = some 1 := by kernel_rfl
theorem flat46 : Go.Sp.flat1 Go.Proofs.Try.prog 46 = true := by kernel_rfl
theorem elem46 : elemIs Go.Proofs.Try.prog 46 1 8 [.nilFunc] := elemIs.mk (by kernel_rfl) rfl
theorem size47 : (Go.Proofs.Try.prog.info? 47).map (·.size) = some 2 := by kernel_rfl
theorem elem47 : elemIs Go.Proofs.Try.prog 47 2 16 [.int .i64 0, .int .i64 0] := elemIs.mk (by kernel_rfl) rfl
theorem fld47x0 : fieldOff Go.Proofs.Try.prog 47 0 = some 0 := by kernel_rfl
theorem fld47x1 : fieldOff Go.Proofs.Try.prog 47 1 = some 1 := by kernel_rfl
theorem size48 : (Go.Proofs.Try.prog.info? 48).map (·.size) = some 2 := by kernel_rfl
theorem elem48 : elemIs Go.Proofs.Try.prog 48 2 16 [.int .i64 0, .int .i64 0] := elemIs.mk (by kernel_rfl) rfl
theorem fld48x0 : fieldOff Go.Proofs.Try.prog 48 0 = some 0 := by kernel_rfl
theorem fld48x1 : fieldOff Go.Proofs.Try.prog 48 1 = some 1 := by kernel_rfl
theorem size49 : (Go.Proofs.Try.prog.info? 49).map (·.size) = some 1 := by kernel_rfl
theorem flat49 : Go.Sp.flat1 Go.Proofs.Try.prog 49 = true := by kernel_rfl
theorem elem49 : elemIs Go.Proofs.Try.prog 49 1 8 [.nilFunc] := elemIs.mk (by kernel_rfl) rfl
theorem size50 : (Go.Proofs.Try.prog.info? 50).map (·.size) = some 1 := by kernel_rfl
theorem flat50 : Go.Sp.flat1 Go.Proofs.Try.prog 50 = true := by kernel_rfl
theorem elem50 : elemIs Go.Proofs.Try.prog 50 1 8 [.nilFunc] := elemIs.mk (by kernel_rfl) rfl
theorem size51 : (Go.Proofs.Try.prog.info? 51).map (·.size) = some 1 := by kernel_rfl
theorem flat51 : Go.Sp.flat1 Go.Proofs.Try.prog 51 = true := by kernel_rfl
theorem elem51 : elemIs Go.Proofs.Try.prog 51 1 8 [.int .u64 0] := elemIs.mk (by kernel_rfl) rfl
theorem size52 : (Go.Proofs.Try.prog.info? 52).map (·.size) = some 1 := by kernel_rfl
theorem flat52 : Go.Sp.flat1 Go.Proofs.Try.prog 52 = true := by kernel_rfl
theorem elem52 : elemIs Go.Proofs.Try.prog 52 1 8 [.nilFunc] := elemIs.mk (by kernel_rfl) rfl
theorem size53 : (Go.Proofs.Try.prog.info? 53).map (·.size) = some 1 := by kernel_rfl
theorem flat53 : Go.Sp.flat1 Go.Proofs.Try.prog 53 = true := by kernel_rfl
theorem elem53 : elemIs Go.Proofs.Try.prog 53 1 8 [.nilFunc] := elemIs.mk (by kernel_rfl) rfl
theorem size54 : (Go.Proofs.Try.prog.info? 54).map (·.size) = some 1 := by kernel_rfl
theorem flat54 : Go.Sp.flat1 Go.Proofs.Try.prog 54 = true := by kernel_rfl
theorem elem54 : elemIs Go.Proofs.Try.prog 54 1 8 [.nilFunc] := elemIs.mk (by kernel_rfl) rfl
theorem size55 : (Go.Proofs.Try.prog.info? 55).map (·.size) = some 1 := by kernel_rfl
theorem flat55 : Go.Sp.flat1 Go.Proofs.Try.prog 55 = true := by kernel_rfl
theorem elem55 : elemIs Go.Proofs.Try.prog 55 1 8 [.nilFunc] := elemIs.mk (by kernel_rfl) rfl
theorem size56 : (Go.Proofs.Try.prog.info? 56).map (·.size) = some 1 := by kernel_rfl
theorem flat56 : Go.Sp.flat1 Go.Proofs.Try.prog 56 = true := by kernel_rfl
theorem elem56 : elemIs Go.Proofs.Try.prog 56 1 8 [.nilFunc] := elemIs.mk (by kernel_rfl) rfl
theorem size57 : (Go.Proofs.Try.prog.info? 57).map (·.size) = some 0 := by kernel_rfl
theorem elem57 : elemIs Go.Proofs.Try.prog 57 0 0 [] := elemIs.mk (by kernel_rfl) rfl
theorem size58 : (Go.Proofs.Try.prog.info? 58).map (·.size) = some 0 := by kernel_rfl
theorem elem58 : elemIs Go.Proofs.Try.prog 58 0 0 [] := elemIs.mk (by kernel_rfl) rfl
theorem size60 : (Go.Proofs.Try.prog.info? 60).map (·.size) = some 1 := by kernel_rfl
theorem flat60 : Go.Sp.flat1 Go.Proofs.Try.prog 60 = true := by kernel_rfl
theorem elem60 : elemIs Go.Proofs.Try.prog 60 1 8 [.pointer none] := elemIs.mk (by kernel_rfl) rfl
theorem size61 : (Go.Proofs.Try.prog.info? 61).map (·.size) = some 1 := by kernel_rfl
theorem flat61 : Go.Sp.flat1 Go.Proofs.Try.prog 61 = true := by kernel_rfl
theorem elem61 : elemIs Go.Proofs.Try.prog 61 1 8 [.int .u64 0] := elemIs.mk (by kernel_rfl) rfl
theorem size62 : (Go.Proofs.Try.prog.info? 62).map (·.size) = some 1 := by kernel_rfl
theorem flat62 : Go.Sp.flat1 Go.Proofs.Try.prog 62 = true := by kernel_rfl
theorem elem62 : elemIs Go.Proofs.Try.prog 62 1 8 [.nilFunc] := elemIs.mk (by kernel_rfl) rfl
theorem size63 : (Go.Proofs.Try.prog.info? 63).map (·.size) = some 1 := by kernel_rfl
theorem flat63 : Go.Sp.flat1 Go.Proofs.Try.prog 63 = true := by kernel_rfl
theorem elem63 : elemIs Go.Proofs.Try.prog 63 1 8 [.nilFunc] := elemIs.mk (by kernel_rfl) rfl
theorem size64 : (Go.Proofs.Try.prog.info? 64).map (·.size) = some 4 := by kernel_rfl
theorem elem64 : elemIs Go.Proofs.Try.prog 64 4 40 [.pointer none, .pointer none, .pointer none, .string ⟨#[]⟩] := elemIs.mk (by kernel_rfl) rfl
theorem fld64x0 : fieldOff Go.Proofs.Try.prog 64 0 = some 0 := by kernel_rfl
theorem fld64x1 : fieldOff Go.Proofs.Try.prog 64 1 = some 1 := by kernel_rfl
theorem fld64x2 : fieldOff Go.Proofs.Try.prog 64 2 = some 2 := by kernel_rfl
theorem fld64x3 : fieldOff Go.Proofs.Try.prog 64 3 = some 3 := by kernel_rfl
theorem size65 : (Go.Proofs.Try.prog.info? 65).map (·.size) = some 4 := by kernel_rfl
theorem elem65 : elemIs Go.Proofs.Try.prog 65 4 40 [.pointer none, .pointer none, .pointer none, .string ⟨#[]⟩] := elemIs.mk (by kernel_rfl) rfl
theorem fld65x0 : fieldOff Go.Proofs.Try.prog 65 0 = some 0 := by kernel_rfl
theorem fld65x1 : fieldOff Go.Proofs.Try.prog 65 1 = some 1 := by kernel_rfl
theorem fld65x2 : fieldOff Go.Proofs.Try.prog 65 2 = some 2 := by kernel_rfl
theorem fld65x3 : fieldOff Go.Proofs.Try.prog 65 3 = some 3 := by kernel_rfl
theorem size66 : (Go.Proofs.Try.prog.info? 66).map (·.size) = some 0 := by kernel_rfl
theorem elem66 : elemIs Go.Proofs.Try.prog 66 0 0 [] := elemIs.mk (by kernel_rfl) rfl
theorem size67 : (Go.Proofs.Try.prog.info? 67).map (·.size) = some 0 := by kernel_rfl
theorem elem67 : elemIs Go.Proofs.Try.prog 67 0 0 [] := elemIs.mk (by kernel_rfl) rfl
theorem size68 : (Go.Proofs.Try.prog.info? 68).map (·.size) = some 0 := by kernel_rfl
theorem elem68 : elemIs Go.Proofs.Try.prog 68 0 0 [] := elemIs.mk (by kernel_rfl) rfl
theorem size69 : (Go.Proofs.Try.prog.info? 69).map (·.size) = some 1 := by kernel_rfl
theorem flat69 : Go.Sp.flat1 Go.Proofs.Try.prog 69 = true := by kernel_rfl
theorem elem69 : elemIs Go.Proofs.Try.prog 69 1 4 [.int .u32 0] := elemIs.mk (by kernel_rfl) rfl
theorem size70 : (Go.Proofs.Try.prog.info? 70).map (·.size) = some 1 := by kernel_rfl
theorem flat70 : Go.Sp.flat1 Go.Proofs.Try.prog 70 = true := by kernel_rfl
theorem elem70 : elemIs Go.Proofs.Try.prog 70 1 1 [.int .u8 0] := elemIs.mk (by kernel_rfl) rfl
theorem size71 : (Go.Proofs.Try.prog.info? 71).map (·.size) = some 1 := by kernel_rfl
theorem flat71 : Go.Sp.flat1 Go.Proofs.Try.prog 71 = true := by kernel_rfl
theorem elem71 : elemIs Go.Proofs.Try.prog 71 1 1 [.int .u8 0] := elemIs.mk (by kernel_rfl) rfl
theorem size72 : (Go.Proofs.Try.prog.info? 72).map (·.size) = some 1 := by kernel_rfl
theorem flat72 : Go.Sp.flat1 Go.Proofs.Try.prog 72 = true := by kernel_rfl
theorem elem72 : elemIs Go.Proofs.Try.prog 72 1 8 [.nilFunc] := elemIs.mk (by kernel_rfl) rfl
theorem size73 : (Go.Proofs.Try.prog.info? 73).map (·.size) = some 1 := by kernel_rfl
theorem flat73 : Go.Sp.flat1 Go.Proofs.Try.prog 73 = true := by kernel_rfl
theorem elem73 : elemIs Go.Proofs.Try.prog 73 1 8 [.pointer none] := elemIs.mk (by kernel_rfl) rfl
theorem size74 : (Go.Proofs.Try.prog.info? 74).map (·.size) = some 1 := by kernel_rfl
theorem flat74 : Go.Sp.flat1 Go.Proofs.Try.prog 74 = true := by kernel_rfl
theorem elem74 : elemIs Go.Proofs.Try.prog 74 1 4 [.int .i32 0] := elemIs.mk (by kernel_rfl) rfl
theorem size75 : (Go.Proofs.Try.prog.info? 75).map (·.size) = some 1 := by kernel_rfl
theorem flat75 : Go.Sp.flat1 Go.Proofs.Try.prog 75 = true := by kernel_rfl
theorem elem75 : elemIs Go.Proofs.Try.prog 75 1 4 [.int .i32 0] := elemIs.mk (by kernel_rfl) rfl
theorem size76 : (Go.Proofs.Try.prog.info? 76).map (·.size) = some 11 := by kernel_rfl
theorem elem76 : elemIs Go.Proofs.Try.prog 76 11 48 [.int .u64 0, .int .u64 0, .int .u32 0, .int .u8 0, .int .u8 0, .int .u8 0, .int .u8 0, .nilFunc, .pointer none, .int .i32 0, .int .i32 0] := elemIs.mk (by kernel_rfl) rfl
theorem fld76x0 : fieldOff Go.Proofs.Try.prog 76 0 = some 0 := by kernel_rfl
theorem fld76x1 : fieldOff Go.Proofs.Try.prog 76 1 = some 1 := by kernel_rfl
theorem fld76x2 : fieldOff Go.Proofs.Try.prog 76 2 = some 2 := by kernel_rfl
theorem fld76x3 : fieldOff Go.Proofs.Try.prog 76 3 = some 3 := by kernel_rfl
theorem fld76x4 : fieldOff Go.Proofs.Try.prog 76 4 = some 4 := by kernel_rfl
theorem fld76x5 : fieldOff Go.Proofs.Try.prog 76 5 = some 5 := by kernel_rfl
theorem fld76x6 : fieldOff Go.Proofs.Try.prog 76 6 = some 6 := by kernel_rfl
theorem fld76x7 : fieldOff Go.Proofs.Try.prog 76 7 = some 7 := by kernel_rfl
theorem fld76x8 : fieldOff Go.Proofs.Try.prog 76 8 = some 8 := by kernel_rfl
theorem fld76x9 : fieldOff Go.Proofs.Try.prog 76 9 = some 9 := by kernel_rfl
theorem fld76x10 : fieldOff Go.Proofs.Try.prog 76 10 = some 10 := by kernel_rfl
theorem size77 : (Go.Proofs.Try.prog.info? 77).map (·.size) = some 11 := by kernel_rfl
theorem elem77 : elemIs Go.Proofs.Try.prog 77 11 48 [.int .u64 0, .int .u64 0, .int .u32 0, .int .u8 0, .int .u8 0, .int .u8 0, .int .u8 0, .nilFunc, .pointer none, .int .i32 0, .int .i32 0] := elemIs.mk (by kernel_rfl) rfl
theorem fld77x0 : fieldOff Go.Proofs.Try.prog 77 0 = some 0 := by kernel_rfl
theorem fld77x1 : fieldOff Go.Proofs.Try.prog 77 1 = some 1 := by kernel_rfl
theorem fld77x2 : fieldOff Go.Proofs.Try.prog 77 2 = some 2 := by kernel_rfl
theorem fld77x3 : fieldOff Go.Proofs.Try.prog 77 3 = some 3 := by kernel_rfl
theorem fld77x4 : fieldOff Go.Proofs.Try.prog 77 4 = some 4 := by kernel_rfl
theorem fld77x5 : fieldOff Go.Proofs.Try.prog 77 5 = some 5 := by kernel_rfl
theorem fld77x6 : fieldOff Go.Proofs.Try.prog 77 6 = some 6 := by kernel_rfl
theorem fld77x7 : fieldOff Go.Proofs.Try.prog 77 7 = some 7 := by kernel_rfl
theorem fld77x8 : fieldOff Go.Proofs.Try.prog 77 8 = some 8 := by kernel_rfl
theorem fld77x9 : fieldOff Go.Proofs.Try.prog 77 9 = some 9 := by kernel_rfl
theorem fld77x10 : fieldOff Go.Proofs.Try.prog 77 10 = some 10 := by kernel_rfl
theorem size78 : (Go.Proofs.Try.prog.info? 78).map (·.size) = some 1 := by kernel_rfl
theorem flat78 : Go.Sp.flat1 Go.Proofs.Try.prog 78 = true := by kernel_rfl
theorem elem78 : elemIs Go.Proofs.Try.prog 78 1 8 [.pointer none] := elemIs.mk (by kernel_rfl) rfl
theorem ok2 : callable Go.Proofs.Try.prog 2 = true := by kernel_rfl
theorem ok3 : callable Go.Proofs.Try.prog 3 = true := by kernel_rfl
theorem ok4 : callable Go.Proofs.Try.prog 4 = true := by kernel_rfl
theorem ok5 : callable Go.Proofs.Try.prog 5 = true := by kernel_rfl
theorem ok6 : callable Go.Proofs.Try.prog 6 = true := by kernel_rfl
theorem ok7 : callable Go.Proofs.Try.prog 7 = true := by kernel_rfl
theorem ok8 : callable Go.Proofs.Try.prog 8 = true := by kernel_rfl
theorem ok9 : callable Go.Proofs.Try.prog 9 = true := by kernel_rfl
theorem ok10 : callable Go.Proofs.Try.prog 10 = true := by kernel_rfl
theorem ok11 : callable Go.Proofs.Try.prog 11 = true := by kernel_rfl
theorem ok12 : callable Go.Proofs.Try.prog 12 = true := by kernel_rfl
theorem ok13 : callable Go.Proofs.Try.prog 13 = true := by kernel_rfl
theorem ok14 : callable Go.Proofs.Try.prog 14 = true := by kernel_rfl
theorem ok15 : callable Go.Proofs.Try.prog 15 = true := by kernel_rfl
theorem ok16 : callable Go.Proofs.Try.prog 16 = true := by kernel_rfl
theorem ok17 : callable Go.Proofs.Try.prog 17 = true := by kernel_rfl
theorem ok18 : callable Go.Proofs.Try.prog 18 = true := by kernel_rfl
theorem ok19 : callable Go.Proofs.Try.prog 19 = true := by kernel_rfl
theorem ok20 : callable Go.Proofs.Try.prog 20 = true := by kernel_rfl
theorem ok21 : callable Go.Proofs.Try.prog 21 = true := by kernel_rfl
theorem ok22 : callable Go.Proofs.Try.prog 22 = true := by kernel_rfl
theorem ok23 : callable Go.Proofs.Try.prog 23 = true := by kernel_rfl
theorem ok24 : callable Go.Proofs.Try.prog 24 = true := by kernel_rfl
theorem ok25 : callable Go.Proofs.Try.prog 25 = true := by kernel_rfl
theorem ok26 : callable Go.Proofs.Try.prog 26 = true := by kernel_rfl
theorem ok27 : callable Go.Proofs.Try.prog 27 = true := by kernel_rfl
theorem ok28 : callable Go.Proofs.Try.prog 28 = true := by kernel_rfl
theorem ok29 : callable Go.Proofs.Try.prog 29 = true := by kernel_rfl
theorem ok30 : callable Go.Proofs.Try.prog 30 = true := by kernel_rfl
theorem ok31 : callable Go.Proofs.Try.prog 31 = true := by kernel_rfl
theorem ok32 : callable Go.Proofs.Try.prog 32 = true := by kernel_rfl
theorem ok33 : callable Go.Proofs.Try.prog 33 = true := by kernel_rfl
theorem ok34 : callable Go.Proofs.Try.prog 34 = true := by kernel_rfl
theorem ok35 : callable Go.Proofs.Try.prog 35 = true := by kernel_rfl
theorem ok36 : callable Go.Proofs.Try.prog 36 = true := by kernel_rfl
theorem ok37 : callable Go.Proofs.Try.prog 37 = true := by kernel_rfl
end Go.Proofs.Ytodkpkmhnpmmgaa.Fact
