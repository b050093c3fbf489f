/-
  WHAT THE PROGRAM SAYS OF ITS TYPES, each fact by reckoning.
-/
import Derived.Test.YtnaiohbeejhpkaaDoorM2Tool
import Derived.Test.YtnaiohbeejhpkaaDoorProg
import Derived.Test.YtnaiohbeejhpkaaDoorProg
set_option linter.unusedVariables false
set_option linter.unusedSimpArgs false
namespace Go.AM
open Go.Proofs
theorem mixed : Tryd.prog.follows .mixedOrders = true := by kernel_rfl
theorem kt1 : kindT Tryd.prog 1 = some 3 := by kernel_rfl
theorem ag2 : aggT Tryd.prog 2 = some false := by kernel_rfl
theorem si2 : sizeT Tryd.prog 2 = 1 := by kernel_rfl
theorem sz2 : szT Tryd.prog 2 = some 1 := by kernel_rfl
theorem by2 : bytesT Tryd.prog 2 = 8 := by kernel_rfl
theorem in2 : intT Tryd.prog 2 = some .i64 := by kernel_rfl
theorem zv2 : zeroV Tryd.prog 2 = some (.int .i64 0) := by kernel_rfl
theorem ze2 : zeroT Tryd.prog 2 = some [.int .i64 0] := by kernel_rfl
theorem ag3 : aggT Tryd.prog 3 = some false := by kernel_rfl
theorem si3 : sizeT Tryd.prog 3 = 1 := by kernel_rfl
theorem sz3 : szT Tryd.prog 3 = some 1 := by kernel_rfl
theorem by3 : bytesT Tryd.prog 3 = 8 := by kernel_rfl
theorem in3 : intT Tryd.prog 3 = some .i64 := by kernel_rfl
theorem zv3 : zeroV Tryd.prog 3 = some (.int .i64 0) := by kernel_rfl
theorem ze3 : zeroT Tryd.prog 3 = some [.int .i64 0] := by kernel_rfl
theorem ag4 : aggT Tryd.prog 4 = some false := by kernel_rfl
theorem si4 : sizeT Tryd.prog 4 = 1 := by kernel_rfl
theorem sz4 : szT Tryd.prog 4 = some 1 := by kernel_rfl
theorem by4 : bytesT Tryd.prog 4 = 1 := by kernel_rfl
theorem bo4 : boolT Tryd.prog 4 = true := by kernel_rfl
theorem zv4 : zeroV Tryd.prog 4 = some (.bool false) := by kernel_rfl
theorem ze4 : zeroT Tryd.prog 4 = some [.bool false] := by kernel_rfl
theorem ag5 : aggT Tryd.prog 5 = some false := by kernel_rfl
theorem si5 : sizeT Tryd.prog 5 = 1 := by kernel_rfl
theorem sz5 : szT Tryd.prog 5 = some 1 := by kernel_rfl
theorem by5 : bytesT Tryd.prog 5 = 1 := by kernel_rfl
theorem in5 : intT Tryd.prog 5 = some .u8 := by kernel_rfl
theorem zv5 : zeroV Tryd.prog 5 = some (.int .u8 0) := by kernel_rfl
theorem ze5 : zeroT Tryd.prog 5 = some [.int .u8 0] := by kernel_rfl
theorem ag6 : aggT Tryd.prog 6 = some false := by kernel_rfl
theorem si6 : sizeT Tryd.prog 6 = 1 := by kernel_rfl
theorem sz6 : szT Tryd.prog 6 = some 1 := by kernel_rfl
theorem by6 : bytesT Tryd.prog 6 = 1 := by kernel_rfl
theorem in6 : intT Tryd.prog 6 = some .u8 := by kernel_rfl
theorem zv6 : zeroV Tryd.prog 6 = some (.int .u8 0) := by kernel_rfl
theorem ze6 : zeroT Tryd.prog 6 = some [.int .u8 0] := by kernel_rfl
theorem ag7 : aggT Tryd.prog 7 = some true := by kernel_rfl
theorem si7 : sizeT Tryd.prog 7 = 4 := by kernel_rfl
theorem sz7 : szT Tryd.prog 7 = some 4 := by kernel_rfl
theorem by7 : bytesT Tryd.prog 7 = 24 := by kernel_rfl
theorem str7 : structT Tryd.prog 7 = true := by kernel_rfl
theorem fi7_0 : fieldT Tryd.prog 7 0 = some (0, 2) := by kernel_rfl
theorem fi7_1 : fieldT Tryd.prog 7 1 = some (1, 3) := by kernel_rfl
theorem fi7_2 : fieldT Tryd.prog 7 2 = some (2, 4) := by kernel_rfl
theorem fi7_3 : fieldT Tryd.prog 7 3 = some (3, 6) := by kernel_rfl
theorem ze7 : zeroT Tryd.prog 7 = some [.int .i64 0, .int .i64 0, .bool false, .int .u8 0] := by kernel_rfl
theorem ag8 : aggT Tryd.prog 8 = some true := by kernel_rfl
theorem si8 : sizeT Tryd.prog 8 = 4 := by kernel_rfl
theorem sz8 : szT Tryd.prog 8 = some 4 := by kernel_rfl
theorem by8 : bytesT Tryd.prog 8 = 24 := by kernel_rfl
theorem str8 : structT Tryd.prog 8 = true := by kernel_rfl
theorem fi8_0 : fieldT Tryd.prog 8 0 = some (0, 2) := by kernel_rfl
theorem fi8_1 : fieldT Tryd.prog 8 1 = some (1, 3) := by kernel_rfl
theorem fi8_2 : fieldT Tryd.prog 8 2 = some (2, 4) := by kernel_rfl
theorem fi8_3 : fieldT Tryd.prog 8 3 = some (3, 6) := by kernel_rfl
theorem ze8 : zeroT Tryd.prog 8 = some [.int .i64 0, .int .i64 0, .bool false, .int .u8 0] := by kernel_rfl
theorem ag9 : aggT Tryd.prog 9 = some false := by kernel_rfl
theorem si9 : sizeT Tryd.prog 9 = 1 := by kernel_rfl
theorem sz9 : szT Tryd.prog 9 = some 1 := by kernel_rfl
theorem by9 : bytesT Tryd.prog 9 = 16 := by kernel_rfl
theorem st9 : stringT Tryd.prog 9 = true := by kernel_rfl
theorem zv9 : zeroV Tryd.prog 9 = some (.string ⟨#[]⟩) := by kernel_rfl
theorem ze9 : zeroT Tryd.prog 9 = some [.string ⟨#[]⟩] := by kernel_rfl
theorem ag10 : aggT Tryd.prog 10 = some false := by kernel_rfl
theorem si10 : sizeT Tryd.prog 10 = 1 := by kernel_rfl
theorem sz10 : szT Tryd.prog 10 = some 1 := by kernel_rfl
theorem by10 : bytesT Tryd.prog 10 = 16 := by kernel_rfl
theorem st10 : stringT Tryd.prog 10 = true := by kernel_rfl
theorem zv10 : zeroV Tryd.prog 10 = some (.string ⟨#[]⟩) := by kernel_rfl
theorem ze10 : zeroT Tryd.prog 10 = some [.string ⟨#[]⟩] := by kernel_rfl
theorem ag11 : aggT Tryd.prog 11 = some false := by kernel_rfl
theorem si11 : sizeT Tryd.prog 11 = 1 := by kernel_rfl
theorem sz11 : szT Tryd.prog 11 = some 1 := by kernel_rfl
theorem by11 : bytesT Tryd.prog 11 = 16 := by kernel_rfl
theorem st11 : stringT Tryd.prog 11 = true := by kernel_rfl
theorem zv11 : zeroV Tryd.prog 11 = some (.string ⟨#[]⟩) := by kernel_rfl
theorem ze11 : zeroT Tryd.prog 11 = some [.string ⟨#[]⟩] := by kernel_rfl
theorem ag12 : aggT Tryd.prog 12 = some false := by kernel_rfl
theorem si12 : sizeT Tryd.prog 12 = 1 := by kernel_rfl
theorem sz12 : szT Tryd.prog 12 = some 1 := by kernel_rfl
theorem by12 : bytesT Tryd.prog 12 = 8 := by kernel_rfl
theorem in12 : intT Tryd.prog 12 = some .u64 := by kernel_rfl
theorem zv12 : zeroV Tryd.prog 12 = some (.int .u64 0) := by kernel_rfl
theorem ze12 : zeroT Tryd.prog 12 = some [.int .u64 0] := by kernel_rfl
theorem ag13 : aggT Tryd.prog 13 = some true := by kernel_rfl
theorem si13 : sizeT Tryd.prog 13 = 2 := by kernel_rfl
theorem sz13 : szT Tryd.prog 13 = some 2 := by kernel_rfl
theorem by13 : bytesT Tryd.prog 13 = 24 := by kernel_rfl
theorem str13 : structT Tryd.prog 13 = true := by kernel_rfl
theorem fi13_0 : fieldT Tryd.prog 13 0 = some (0, 9) := by kernel_rfl
theorem fi13_1 : fieldT Tryd.prog 13 1 = some (1, 12) := by kernel_rfl
theorem ze13 : zeroT Tryd.prog 13 = some [.string ⟨#[]⟩, .int .u64 0] := by kernel_rfl
theorem ag14 : aggT Tryd.prog 14 = some true := by kernel_rfl
theorem si14 : sizeT Tryd.prog 14 = 2 := by kernel_rfl
theorem sz14 : szT Tryd.prog 14 = some 2 := by kernel_rfl
theorem by14 : bytesT Tryd.prog 14 = 24 := by kernel_rfl
theorem str14 : structT Tryd.prog 14 = true := by kernel_rfl
theorem fi14_0 : fieldT Tryd.prog 14 0 = some (0, 9) := by kernel_rfl
theorem fi14_1 : fieldT Tryd.prog 14 1 = some (1, 12) := by kernel_rfl
theorem ze14 : zeroT Tryd.prog 14 = some [.string ⟨#[]⟩, .int .u64 0] := by kernel_rfl
theorem ag15 : aggT Tryd.prog 15 = some false := by kernel_rfl
theorem si15 : sizeT Tryd.prog 15 = 1 := by kernel_rfl
theorem sz15 : szT Tryd.prog 15 = some 1 := by kernel_rfl
theorem by15 : bytesT Tryd.prog 15 = 8 := by kernel_rfl
theorem kt15 : kindT Tryd.prog 15 = some 1 := by kernel_rfl
theorem zv15 : zeroV Tryd.prog 15 = some (.pointer none) := by kernel_rfl
theorem ze15 : zeroT Tryd.prog 15 = some [.pointer none] := by kernel_rfl
theorem ag16 : aggT Tryd.prog 16 = some false := by kernel_rfl
theorem si16 : sizeT Tryd.prog 16 = 1 := by kernel_rfl
theorem sz16 : szT Tryd.prog 16 = some 1 := by kernel_rfl
theorem by16 : bytesT Tryd.prog 16 = 8 := by kernel_rfl
theorem kt16 : kindT Tryd.prog 16 = some 1 := by kernel_rfl
theorem zv16 : zeroV Tryd.prog 16 = some (.pointer none) := by kernel_rfl
theorem ze16 : zeroT Tryd.prog 16 = some [.pointer none] := by kernel_rfl
theorem ag17 : aggT Tryd.prog 17 = some false := by kernel_rfl
theorem si17 : sizeT Tryd.prog 17 = 1 := by kernel_rfl
theorem sz17 : szT Tryd.prog 17 = some 1 := by kernel_rfl
theorem by17 : bytesT Tryd.prog 17 = 8 := by kernel_rfl
theorem kt17 : kindT Tryd.prog 17 = some 1 := by kernel_rfl
theorem zv17 : zeroV Tryd.prog 17 = some (.pointer none) := by kernel_rfl
theorem ze17 : zeroT Tryd.prog 17 = some [.pointer none] := by kernel_rfl
theorem ag18 : aggT Tryd.prog 18 = some true := by kernel_rfl
theorem si18 : sizeT Tryd.prog 18 = 1 := by kernel_rfl
theorem sz18 : szT Tryd.prog 18 = some 1 := by kernel_rfl
theorem by18 : bytesT Tryd.prog 18 = 8 := by kernel_rfl
theorem str18 : structT Tryd.prog 18 = true := by kernel_rfl
theorem fi18_0 : fieldT Tryd.prog 18 0 = some (0, 17) := by kernel_rfl
theorem ze18 : zeroT Tryd.prog 18 = some [.pointer none] := by kernel_rfl
theorem ag19 : aggT Tryd.prog 19 = some true := by kernel_rfl
theorem si19 : sizeT Tryd.prog 19 = 1 := by kernel_rfl
theorem sz19 : szT Tryd.prog 19 = some 1 := by kernel_rfl
theorem by19 : bytesT Tryd.prog 19 = 8 := by kernel_rfl
theorem str19 : structT Tryd.prog 19 = true := by kernel_rfl
theorem fi19_0 : fieldT Tryd.prog 19 0 = some (0, 17) := by kernel_rfl
theorem ze19 : zeroT Tryd.prog 19 = some [.pointer none] := by kernel_rfl
theorem kt20 : kindT Tryd.prog 20 = some 2 := by kernel_rfl
theorem ag21 : aggT Tryd.prog 21 = some false := by kernel_rfl
theorem si21 : sizeT Tryd.prog 21 = 1 := by kernel_rfl
theorem sz21 : szT Tryd.prog 21 = some 1 := by kernel_rfl
theorem by21 : bytesT Tryd.prog 21 = 4 := by kernel_rfl
theorem in21 : intT Tryd.prog 21 = some .i32 := by kernel_rfl
theorem zv21 : zeroV Tryd.prog 21 = some (.int .i32 0) := by kernel_rfl
theorem ze21 : zeroT Tryd.prog 21 = some [.int .i32 0] := by kernel_rfl
theorem ag22 : aggT Tryd.prog 22 = some false := by kernel_rfl
theorem el22 : elemT Tryd.prog 22 = some 58 := by kernel_rfl
theorem si22 : sizeT Tryd.prog 22 = 1 := by kernel_rfl
theorem sz22 : szT Tryd.prog 22 = some 1 := by kernel_rfl
theorem by22 : bytesT Tryd.prog 22 = 24 := by kernel_rfl
theorem kt22 : kindT Tryd.prog 22 = some 0 := by kernel_rfl
theorem zv22 : zeroV Tryd.prog 22 = some (.slice none 0 0) := by kernel_rfl
theorem ze22 : zeroT Tryd.prog 22 = some [.slice none 0 0] := by kernel_rfl
theorem ag23 : aggT Tryd.prog 23 = some true := by kernel_rfl
theorem si23 : sizeT Tryd.prog 23 = 3 := by kernel_rfl
theorem sz23 : szT Tryd.prog 23 = some 3 := by kernel_rfl
theorem by23 : bytesT Tryd.prog 23 = 48 := by kernel_rfl
theorem str23 : structT Tryd.prog 23 = true := by kernel_rfl
theorem fi23_0 : fieldT Tryd.prog 23 0 = some (0, 2) := by kernel_rfl
theorem fi23_1 : fieldT Tryd.prog 23 1 = some (1, 9) := by kernel_rfl
theorem fi23_2 : fieldT Tryd.prog 23 2 = some (2, 22) := by kernel_rfl
theorem ze23 : zeroT Tryd.prog 23 = some [.int .i64 0, .string ⟨#[]⟩, .slice none 0 0] := by kernel_rfl
theorem ag24 : aggT Tryd.prog 24 = some true := by kernel_rfl
theorem si24 : sizeT Tryd.prog 24 = 3 := by kernel_rfl
theorem sz24 : szT Tryd.prog 24 = some 3 := by kernel_rfl
theorem by24 : bytesT Tryd.prog 24 = 48 := by kernel_rfl
theorem str24 : structT Tryd.prog 24 = true := by kernel_rfl
theorem fi24_0 : fieldT Tryd.prog 24 0 = some (0, 2) := by kernel_rfl
theorem fi24_1 : fieldT Tryd.prog 24 1 = some (1, 9) := by kernel_rfl
theorem fi24_2 : fieldT Tryd.prog 24 2 = some (2, 22) := by kernel_rfl
theorem ze24 : zeroT Tryd.prog 24 = some [.int .i64 0, .string ⟨#[]⟩, .slice none 0 0] := by kernel_rfl
theorem kt25 : kindT Tryd.prog 25 = some 3 := by kernel_rfl
theorem kt26 : kindT Tryd.prog 26 = some 3 := by kernel_rfl
theorem ag27 : aggT Tryd.prog 27 = some true := by kernel_rfl
theorem si27 : sizeT Tryd.prog 27 = 3 := by kernel_rfl
theorem sz27 : szT Tryd.prog 27 = some 3 := by kernel_rfl
theorem by27 : bytesT Tryd.prog 27 = 48 := by kernel_rfl
theorem str27 : structT Tryd.prog 27 = true := by kernel_rfl
theorem fi27_0 : fieldT Tryd.prog 27 0 = some (0, 2) := by kernel_rfl
theorem fi27_1 : fieldT Tryd.prog 27 1 = some (1, 9) := by kernel_rfl
theorem fi27_2 : fieldT Tryd.prog 27 2 = some (2, 22) := by kernel_rfl
theorem ze27 : zeroT Tryd.prog 27 = some [.int .i64 0, .string ⟨#[]⟩, .slice none 0 0] := by kernel_rfl
theorem kt28 : kindT Tryd.prog 28 = some 3 := by kernel_rfl
theorem kt29 : kindT Tryd.prog 29 = some 3 := by kernel_rfl
theorem kt30 : kindT Tryd.prog 30 = some 3 := by kernel_rfl
theorem ag31 : aggT Tryd.prog 31 = some false := by kernel_rfl
theorem el31 : elemT Tryd.prog 31 = some 70 := by kernel_rfl
theorem si31 : sizeT Tryd.prog 31 = 1 := by kernel_rfl
theorem sz31 : szT Tryd.prog 31 = some 1 := by kernel_rfl
theorem by31 : bytesT Tryd.prog 31 = 24 := by kernel_rfl
theorem kt31 : kindT Tryd.prog 31 = some 0 := by kernel_rfl
theorem zv31 : zeroV Tryd.prog 31 = some (.slice none 0 0) := by kernel_rfl
theorem ze31 : zeroT Tryd.prog 31 = some [.slice none 0 0] := by kernel_rfl
theorem ag32 : aggT Tryd.prog 32 = some false := by kernel_rfl
theorem el32 : elemT Tryd.prog 32 = some 64 := by kernel_rfl
theorem si32 : sizeT Tryd.prog 32 = 1 := by kernel_rfl
theorem sz32 : szT Tryd.prog 32 = some 1 := by kernel_rfl
theorem by32 : bytesT Tryd.prog 32 = 24 := by kernel_rfl
theorem kt32 : kindT Tryd.prog 32 = some 0 := by kernel_rfl
theorem zv32 : zeroV Tryd.prog 32 = some (.slice none 0 0) := by kernel_rfl
theorem ze32 : zeroT Tryd.prog 32 = some [.slice none 0 0] := by kernel_rfl
theorem kt33 : kindT Tryd.prog 33 = some 3 := by kernel_rfl
theorem kt34 : kindT Tryd.prog 34 = some 3 := by kernel_rfl
theorem kt35 : kindT Tryd.prog 35 = some 3 := by kernel_rfl
theorem ag36 : aggT Tryd.prog 36 = some false := by kernel_rfl
theorem el36 : elemT Tryd.prog 36 = some 68 := by kernel_rfl
theorem si36 : sizeT Tryd.prog 36 = 1 := by kernel_rfl
theorem sz36 : szT Tryd.prog 36 = some 1 := by kernel_rfl
theorem by36 : bytesT Tryd.prog 36 = 24 := by kernel_rfl
theorem kt36 : kindT Tryd.prog 36 = some 0 := by kernel_rfl
theorem zv36 : zeroV Tryd.prog 36 = some (.slice none 0 0) := by kernel_rfl
theorem ze36 : zeroT Tryd.prog 36 = some [.slice none 0 0] := by kernel_rfl
theorem kt37 : kindT Tryd.prog 37 = some 3 := by kernel_rfl
theorem ag38 : aggT Tryd.prog 38 = some false := by kernel_rfl
theorem el38 : elemT Tryd.prog 38 = some 71 := by kernel_rfl
theorem si38 : sizeT Tryd.prog 38 = 1 := by kernel_rfl
theorem sz38 : szT Tryd.prog 38 = some 1 := by kernel_rfl
theorem by38 : bytesT Tryd.prog 38 = 24 := by kernel_rfl
theorem kt38 : kindT Tryd.prog 38 = some 0 := by kernel_rfl
theorem zv38 : zeroV Tryd.prog 38 = some (.slice none 0 0) := by kernel_rfl
theorem ze38 : zeroT Tryd.prog 38 = some [.slice none 0 0] := by kernel_rfl
theorem kt39 : kindT Tryd.prog 39 = some 3 := by kernel_rfl
theorem kt40 : kindT Tryd.prog 40 = some 3 := by kernel_rfl
theorem kt41 : kindT Tryd.prog 41 = some 3 := by kernel_rfl
theorem kt42 : kindT Tryd.prog 42 = some 3 := by kernel_rfl
theorem ag43 : aggT Tryd.prog 43 = some false := by kernel_rfl
theorem el43 : elemT Tryd.prog 43 = some 32 := by kernel_rfl
theorem si43 : sizeT Tryd.prog 43 = 1 := by kernel_rfl
theorem sz43 : szT Tryd.prog 43 = some 1 := by kernel_rfl
theorem by43 : bytesT Tryd.prog 43 = 24 := by kernel_rfl
theorem kt43 : kindT Tryd.prog 43 = some 0 := by kernel_rfl
theorem zv43 : zeroV Tryd.prog 43 = some (.slice none 0 0) := by kernel_rfl
theorem ze43 : zeroT Tryd.prog 43 = some [.slice none 0 0] := by kernel_rfl
theorem ag44 : aggT Tryd.prog 44 = some true := by kernel_rfl
theorem si44 : sizeT Tryd.prog 44 = 3 := by kernel_rfl
theorem sz44 : szT Tryd.prog 44 = some 3 := by kernel_rfl
theorem by44 : bytesT Tryd.prog 44 = 64 := by kernel_rfl
theorem str44 : structT Tryd.prog 44 = true := by kernel_rfl
theorem fi44_0 : fieldT Tryd.prog 44 0 = some (0, 31) := by kernel_rfl
theorem fi44_1 : fieldT Tryd.prog 44 1 = some (1, 9) := by kernel_rfl
theorem fi44_2 : fieldT Tryd.prog 44 2 = some (2, 43) := by kernel_rfl
theorem ze44 : zeroT Tryd.prog 44 = some [.slice none 0 0, .string ⟨#[]⟩, .slice none 0 0] := by kernel_rfl
theorem ag45 : aggT Tryd.prog 45 = some true := by kernel_rfl
theorem si45 : sizeT Tryd.prog 45 = 3 := by kernel_rfl
theorem sz45 : szT Tryd.prog 45 = some 3 := by kernel_rfl
theorem by45 : bytesT Tryd.prog 45 = 64 := by kernel_rfl
theorem str45 : structT Tryd.prog 45 = true := by kernel_rfl
theorem fi45_0 : fieldT Tryd.prog 45 0 = some (0, 31) := by kernel_rfl
theorem fi45_1 : fieldT Tryd.prog 45 1 = some (1, 9) := by kernel_rfl
theorem fi45_2 : fieldT Tryd.prog 45 2 = some (2, 43) := by kernel_rfl
theorem ze45 : zeroT Tryd.prog 45 = some [.slice none 0 0, .string ⟨#[]⟩, .slice none 0 0] := by kernel_rfl
theorem kt46 : kindT Tryd.prog 46 = some 3 := by kernel_rfl
theorem kt47 : kindT Tryd.prog 47 = some 3 := by kernel_rfl
theorem ag48 : aggT Tryd.prog 48 = some false := by kernel_rfl
theorem el48 : elemT Tryd.prog 48 = some 38 := by kernel_rfl
theorem si48 : sizeT Tryd.prog 48 = 1 := by kernel_rfl
theorem sz48 : szT Tryd.prog 48 = some 1 := by kernel_rfl
theorem by48 : bytesT Tryd.prog 48 = 24 := by kernel_rfl
theorem kt48 : kindT Tryd.prog 48 = some 0 := by kernel_rfl
theorem zv48 : zeroV Tryd.prog 48 = some (.slice none 0 0) := by kernel_rfl
theorem ze48 : zeroT Tryd.prog 48 = some [.slice none 0 0] := by kernel_rfl
theorem ag49 : aggT Tryd.prog 49 = some true := by kernel_rfl
theorem si49 : sizeT Tryd.prog 49 = 3 := by kernel_rfl
theorem sz49 : szT Tryd.prog 49 = some 3 := by kernel_rfl
theorem by49 : bytesT Tryd.prog 49 = 64 := by kernel_rfl
theorem str49 : structT Tryd.prog 49 = true := by kernel_rfl
theorem fi49_0 : fieldT Tryd.prog 49 0 = some (0, 36) := by kernel_rfl
theorem fi49_1 : fieldT Tryd.prog 49 1 = some (1, 9) := by kernel_rfl
theorem fi49_2 : fieldT Tryd.prog 49 2 = some (2, 48) := by kernel_rfl
theorem ze49 : zeroT Tryd.prog 49 = some [.slice none 0 0, .string ⟨#[]⟩, .slice none 0 0] := by kernel_rfl
theorem ag50 : aggT Tryd.prog 50 = some true := by kernel_rfl
theorem si50 : sizeT Tryd.prog 50 = 3 := by kernel_rfl
theorem sz50 : szT Tryd.prog 50 = some 3 := by kernel_rfl
theorem by50 : bytesT Tryd.prog 50 = 64 := by kernel_rfl
theorem str50 : structT Tryd.prog 50 = true := by kernel_rfl
theorem fi50_0 : fieldT Tryd.prog 50 0 = some (0, 36) := by kernel_rfl
theorem fi50_1 : fieldT Tryd.prog 50 1 = some (1, 9) := by kernel_rfl
theorem fi50_2 : fieldT Tryd.prog 50 2 = some (2, 48) := by kernel_rfl
theorem ze50 : zeroT Tryd.prog 50 = some [.slice none 0 0, .string ⟨#[]⟩, .slice none 0 0] := by kernel_rfl
theorem kt51 : kindT Tryd.prog 51 = some 3 := by kernel_rfl
theorem kt52 : kindT Tryd.prog 52 = some 3 := by kernel_rfl
theorem kt53 : kindT Tryd.prog 53 = some 3 := by kernel_rfl
theorem kt54 : kindT Tryd.prog 54 = some 3 := by kernel_rfl
theorem kt55 : kindT Tryd.prog 55 = some 3 := by kernel_rfl
theorem kt56 : kindT Tryd.prog 56 = some 3 := by kernel_rfl
theorem kt57 : kindT Tryd.prog 57 = some 3 := by kernel_rfl
theorem ag58 : aggT Tryd.prog 58 = some false := by kernel_rfl
theorem el58 : elemT Tryd.prog 58 = some 2 := by kernel_rfl
theorem si58 : sizeT Tryd.prog 58 = 1 := by kernel_rfl
theorem sz58 : szT Tryd.prog 58 = some 1 := by kernel_rfl
theorem by58 : bytesT Tryd.prog 58 = 24 := by kernel_rfl
theorem kt58 : kindT Tryd.prog 58 = some 0 := by kernel_rfl
theorem zv58 : zeroV Tryd.prog 58 = some (.slice none 0 0) := by kernel_rfl
theorem ze58 : zeroT Tryd.prog 58 = some [.slice none 0 0] := by kernel_rfl
theorem kt59 : kindT Tryd.prog 59 = some 3 := by kernel_rfl
theorem kt60 : kindT Tryd.prog 60 = some 3 := by kernel_rfl
theorem kt61 : kindT Tryd.prog 61 = some 3 := by kernel_rfl
theorem kt62 : kindT Tryd.prog 62 = some 3 := by kernel_rfl
theorem ag63 : aggT Tryd.prog 63 = some true := by kernel_rfl
theorem si63 : sizeT Tryd.prog 63 = 2 := by kernel_rfl
theorem sz63 : szT Tryd.prog 63 = some 2 := by kernel_rfl
theorem by63 : bytesT Tryd.prog 63 = 48 := by kernel_rfl
theorem str63 : structT Tryd.prog 63 = true := by kernel_rfl
theorem fi63_0 : fieldT Tryd.prog 63 0 = some (0, 58) := by kernel_rfl
theorem fi63_1 : fieldT Tryd.prog 63 1 = some (1, 58) := by kernel_rfl
theorem ze63 : zeroT Tryd.prog 63 = some [.slice none 0 0, .slice none 0 0] := by kernel_rfl
theorem ag64 : aggT Tryd.prog 64 = some true := by kernel_rfl
theorem si64 : sizeT Tryd.prog 64 = 2 := by kernel_rfl
theorem sz64 : szT Tryd.prog 64 = some 2 := by kernel_rfl
theorem by64 : bytesT Tryd.prog 64 = 48 := by kernel_rfl
theorem str64 : structT Tryd.prog 64 = true := by kernel_rfl
theorem fi64_0 : fieldT Tryd.prog 64 0 = some (0, 58) := by kernel_rfl
theorem fi64_1 : fieldT Tryd.prog 64 1 = some (1, 58) := by kernel_rfl
theorem ze64 : zeroT Tryd.prog 64 = some [.slice none 0 0, .slice none 0 0] := by kernel_rfl
theorem kt65 : kindT Tryd.prog 65 = some 3 := by kernel_rfl
theorem kt66 : kindT Tryd.prog 66 = some 3 := by kernel_rfl
theorem ag67 : aggT Tryd.prog 67 = some true := by kernel_rfl
theorem si67 : sizeT Tryd.prog 67 = 2 := by kernel_rfl
theorem sz67 : szT Tryd.prog 67 = some 2 := by kernel_rfl
theorem by67 : bytesT Tryd.prog 67 = 16 := by kernel_rfl
theorem eq67 : eqT Tryd.prog 67 = some [(0, 0), (1, 0)] := by kernel_rfl
theorem str67 : structT Tryd.prog 67 = true := by kernel_rfl
theorem fi67_0 : fieldT Tryd.prog 67 0 = some (0, 2) := by kernel_rfl
theorem fi67_1 : fieldT Tryd.prog 67 1 = some (1, 2) := by kernel_rfl
theorem ze67 : zeroT Tryd.prog 67 = some [.int .i64 0, .int .i64 0] := by kernel_rfl
theorem ag68 : aggT Tryd.prog 68 = some true := by kernel_rfl
theorem si68 : sizeT Tryd.prog 68 = 2 := by kernel_rfl
theorem sz68 : szT Tryd.prog 68 = some 2 := by kernel_rfl
theorem by68 : bytesT Tryd.prog 68 = 16 := by kernel_rfl
theorem eq68 : eqT Tryd.prog 68 = some [(0, 0), (1, 0)] := by kernel_rfl
theorem str68 : structT Tryd.prog 68 = true := by kernel_rfl
theorem fi68_0 : fieldT Tryd.prog 68 0 = some (0, 2) := by kernel_rfl
theorem fi68_1 : fieldT Tryd.prog 68 1 = some (1, 2) := by kernel_rfl
theorem ze68 : zeroT Tryd.prog 68 = some [.int .i64 0, .int .i64 0] := by kernel_rfl
theorem kt69 : kindT Tryd.prog 69 = some 3 := by kernel_rfl
theorem ag70 : aggT Tryd.prog 70 = some true := by kernel_rfl
theorem si70 : sizeT Tryd.prog 70 = 2 := by kernel_rfl
theorem sz70 : szT Tryd.prog 70 = some 2 := by kernel_rfl
theorem by70 : bytesT Tryd.prog 70 = 16 := by kernel_rfl
theorem eq70 : eqT Tryd.prog 70 = some [(0, 0), (1, 0)] := by kernel_rfl
theorem str70 : structT Tryd.prog 70 = true := by kernel_rfl
theorem fi70_0 : fieldT Tryd.prog 70 0 = some (0, 2) := by kernel_rfl
theorem fi70_1 : fieldT Tryd.prog 70 1 = some (1, 2) := by kernel_rfl
theorem ze70 : zeroT Tryd.prog 70 = some [.int .i64 0, .int .i64 0] := by kernel_rfl
theorem ag71 : aggT Tryd.prog 71 = some true := by kernel_rfl
theorem si71 : sizeT Tryd.prog 71 = 2 := by kernel_rfl
theorem sz71 : szT Tryd.prog 71 = some 2 := by kernel_rfl
theorem by71 : bytesT Tryd.prog 71 = 48 := by kernel_rfl
theorem str71 : structT Tryd.prog 71 = true := by kernel_rfl
theorem fi71_0 : fieldT Tryd.prog 71 0 = some (0, 58) := by kernel_rfl
theorem fi71_1 : fieldT Tryd.prog 71 1 = some (1, 58) := by kernel_rfl
theorem ze71 : zeroT Tryd.prog 71 = some [.slice none 0 0, .slice none 0 0] := by kernel_rfl
theorem kt72 : kindT Tryd.prog 72 = some 3 := by kernel_rfl
theorem kt73 : kindT Tryd.prog 73 = some 3 := by kernel_rfl
theorem kt74 : kindT Tryd.prog 74 = some 3 := by kernel_rfl
theorem kt75 : kindT Tryd.prog 75 = some 3 := by kernel_rfl
theorem kt76 : kindT Tryd.prog 76 = some 3 := by kernel_rfl
theorem kt77 : kindT Tryd.prog 77 = some 3 := by kernel_rfl
theorem kt78 : kindT Tryd.prog 78 = some 3 := by kernel_rfl
theorem kt79 : kindT Tryd.prog 79 = some 3 := by kernel_rfl
theorem kt80 : kindT Tryd.prog 80 = some 3 := by kernel_rfl
theorem kt81 : kindT Tryd.prog 81 = some 3 := by kernel_rfl
theorem ag82 : aggT Tryd.prog 82 = some false := by kernel_rfl
theorem el82 : elemT Tryd.prog 82 = some 5 := by kernel_rfl
theorem si82 : sizeT Tryd.prog 82 = 1 := by kernel_rfl
theorem sz82 : szT Tryd.prog 82 = some 1 := by kernel_rfl
theorem by82 : bytesT Tryd.prog 82 = 24 := by kernel_rfl
theorem kt82 : kindT Tryd.prog 82 = some 0 := by kernel_rfl
theorem zv82 : zeroV Tryd.prog 82 = some (.slice none 0 0) := by kernel_rfl
theorem ze82 : zeroT Tryd.prog 82 = some [.slice none 0 0] := by kernel_rfl
theorem ag83 : aggT Tryd.prog 83 = some false := by kernel_rfl
theorem el83 : elemT Tryd.prog 83 = some 9 := by kernel_rfl
theorem si83 : sizeT Tryd.prog 83 = 1 := by kernel_rfl
theorem sz83 : szT Tryd.prog 83 = some 1 := by kernel_rfl
theorem by83 : bytesT Tryd.prog 83 = 24 := by kernel_rfl
theorem kt83 : kindT Tryd.prog 83 = some 0 := by kernel_rfl
theorem zv83 : zeroV Tryd.prog 83 = some (.slice none 0 0) := by kernel_rfl
theorem ze83 : zeroT Tryd.prog 83 = some [.slice none 0 0] := by kernel_rfl
theorem kt84 : kindT Tryd.prog 84 = some 3 := by kernel_rfl
theorem kt85 : kindT Tryd.prog 85 = some 3 := by kernel_rfl
theorem kt86 : kindT Tryd.prog 86 = some 3 := by kernel_rfl
theorem kt87 : kindT Tryd.prog 87 = some 3 := by kernel_rfl
theorem kt88 : kindT Tryd.prog 88 = some 3 := by kernel_rfl
theorem kt89 : kindT Tryd.prog 89 = some 3 := by kernel_rfl
theorem kt90 : kindT Tryd.prog 90 = some 3 := by kernel_rfl
theorem kt91 : kindT Tryd.prog 91 = some 3 := by kernel_rfl
theorem kt92 : kindT Tryd.prog 92 = some 3 := by kernel_rfl
theorem kt93 : kindT Tryd.prog 93 = some 3 := by kernel_rfl
theorem kt94 : kindT Tryd.prog 94 = some 3 := by kernel_rfl
theorem kt95 : kindT Tryd.prog 95 = some 3 := by kernel_rfl
theorem kt96 : kindT Tryd.prog 96 = some 3 := by kernel_rfl
theorem ag97 : aggT Tryd.prog 97 = some false := by kernel_rfl
theorem si97 : sizeT Tryd.prog 97 = 1 := by kernel_rfl
theorem sz97 : szT Tryd.prog 97 = some 1 := by kernel_rfl
theorem by97 : bytesT Tryd.prog 97 = 8 := by kernel_rfl
theorem kt97 : kindT Tryd.prog 97 = some 1 := by kernel_rfl
theorem zv97 : zeroV Tryd.prog 97 = some (.pointer none) := by kernel_rfl
theorem ze97 : zeroT Tryd.prog 97 = some [.pointer none] := by kernel_rfl
theorem ag98 : aggT Tryd.prog 98 = some true := by kernel_rfl
theorem si98 : sizeT Tryd.prog 98 = 2 := by kernel_rfl
theorem sz98 : szT Tryd.prog 98 = some 2 := by kernel_rfl
theorem by98 : bytesT Tryd.prog 98 = 32 := by kernel_rfl
theorem str98 : structT Tryd.prog 98 = true := by kernel_rfl
theorem fi98_0 : fieldT Tryd.prog 98 0 = some (0, 97) := by kernel_rfl
theorem fi98_1 : fieldT Tryd.prog 98 1 = some (1, 82) := by kernel_rfl
theorem ze98 : zeroT Tryd.prog 98 = some [.pointer none, .slice none 0 0] := by kernel_rfl
theorem ag99 : aggT Tryd.prog 99 = some true := by kernel_rfl
theorem si99 : sizeT Tryd.prog 99 = 2 := by kernel_rfl
theorem sz99 : szT Tryd.prog 99 = some 2 := by kernel_rfl
theorem by99 : bytesT Tryd.prog 99 = 32 := by kernel_rfl
theorem str99 : structT Tryd.prog 99 = true := by kernel_rfl
theorem fi99_0 : fieldT Tryd.prog 99 0 = some (0, 97) := by kernel_rfl
theorem fi99_1 : fieldT Tryd.prog 99 1 = some (1, 82) := by kernel_rfl
theorem ze99 : zeroT Tryd.prog 99 = some [.pointer none, .slice none 0 0] := by kernel_rfl
theorem kt100 : kindT Tryd.prog 100 = some 3 := by kernel_rfl
theorem kt101 : kindT Tryd.prog 101 = some 2 := by kernel_rfl
theorem kt102 : kindT Tryd.prog 102 = some 2 := by kernel_rfl
theorem kt104 : kindT Tryd.prog 104 = some 3 := by kernel_rfl
theorem kt105 : kindT Tryd.prog 105 = some 3 := by kernel_rfl
theorem kt106 : kindT Tryd.prog 106 = some 3 := by kernel_rfl
theorem kt107 : kindT Tryd.prog 107 = some 3 := by kernel_rfl
theorem kt108 : kindT Tryd.prog 108 = some 3 := by kernel_rfl
theorem kt109 : kindT Tryd.prog 109 = some 3 := by kernel_rfl
theorem kt110 : kindT Tryd.prog 110 = some 3 := by kernel_rfl
theorem kt111 : kindT Tryd.prog 111 = some 3 := by kernel_rfl
theorem kt112 : kindT Tryd.prog 112 = some 3 := by kernel_rfl
theorem ag113 : aggT Tryd.prog 113 = some true := by kernel_rfl
theorem si113 : sizeT Tryd.prog 113 = 24 := by kernel_rfl
theorem sz113 : szT Tryd.prog 113 = some 24 := by kernel_rfl
theorem by113 : bytesT Tryd.prog 113 = 24 := by kernel_rfl
theorem ag114 : aggT Tryd.prog 114 = some false := by kernel_rfl
theorem si114 : sizeT Tryd.prog 114 = 1 := by kernel_rfl
theorem sz114 : szT Tryd.prog 114 = some 1 := by kernel_rfl
theorem by114 : bytesT Tryd.prog 114 = 8 := by kernel_rfl
theorem in114 : intT Tryd.prog 114 = some .u64 := by kernel_rfl
theorem zv114 : zeroV Tryd.prog 114 = some (.int .u64 0) := by kernel_rfl
theorem ze114 : zeroT Tryd.prog 114 = some [.int .u64 0] := by kernel_rfl
theorem kt115 : kindT Tryd.prog 115 = some 3 := by kernel_rfl
theorem kt116 : kindT Tryd.prog 116 = some 3 := by kernel_rfl
theorem kt118 : kindT Tryd.prog 118 = some 3 := by kernel_rfl
theorem ag119 : aggT Tryd.prog 119 = some false := by kernel_rfl
theorem si119 : sizeT Tryd.prog 119 = 1 := by kernel_rfl
theorem sz119 : szT Tryd.prog 119 = some 1 := by kernel_rfl
theorem by119 : bytesT Tryd.prog 119 = 8 := by kernel_rfl
theorem kt119 : kindT Tryd.prog 119 = some 1 := by kernel_rfl
theorem zv119 : zeroV Tryd.prog 119 = some (.pointer none) := by kernel_rfl
theorem ze119 : zeroT Tryd.prog 119 = some [.pointer none] := by kernel_rfl
theorem kt120 : kindT Tryd.prog 120 = some 3 := by kernel_rfl
theorem kt121 : kindT Tryd.prog 121 = some 3 := by kernel_rfl
theorem kt122 : kindT Tryd.prog 122 = some 3 := by kernel_rfl
theorem ag123 : aggT Tryd.prog 123 = some true := by kernel_rfl
theorem si123 : sizeT Tryd.prog 123 = 20 := by kernel_rfl
theorem sz123 : szT Tryd.prog 123 = some 20 := by kernel_rfl
theorem by123 : bytesT Tryd.prog 123 = 160 := by kernel_rfl
theorem ag124 : aggT Tryd.prog 124 = some false := by kernel_rfl
theorem si124 : sizeT Tryd.prog 124 = 1 := by kernel_rfl
theorem sz124 : szT Tryd.prog 124 = some 1 := by kernel_rfl
theorem by124 : bytesT Tryd.prog 124 = 4 := by kernel_rfl
theorem in124 : intT Tryd.prog 124 = some .u32 := by kernel_rfl
theorem zv124 : zeroV Tryd.prog 124 = some (.int .u32 0) := by kernel_rfl
theorem ze124 : zeroT Tryd.prog 124 = some [.int .u32 0] := by kernel_rfl
theorem ag125 : aggT Tryd.prog 125 = some true := by kernel_rfl
theorem si125 : sizeT Tryd.prog 125 = 65 := by kernel_rfl
theorem sz125 : szT Tryd.prog 125 = some 65 := by kernel_rfl
theorem by125 : bytesT Tryd.prog 125 = 65 := by kernel_rfl
theorem kt126 : kindT Tryd.prog 126 = some 3 := by kernel_rfl
theorem ag127 : aggT Tryd.prog 127 = some false := by kernel_rfl
theorem si127 : sizeT Tryd.prog 127 = 1 := by kernel_rfl
theorem sz127 : szT Tryd.prog 127 = some 1 := by kernel_rfl
theorem by127 : bytesT Tryd.prog 127 = 8 := by kernel_rfl
theorem in127 : intT Tryd.prog 127 = some .u64 := by kernel_rfl
theorem zv127 : zeroV Tryd.prog 127 = some (.int .u64 0) := by kernel_rfl
theorem ze127 : zeroT Tryd.prog 127 = some [.int .u64 0] := by kernel_rfl
theorem kt128 : kindT Tryd.prog 128 = some 3 := by kernel_rfl
theorem kt130 : kindT Tryd.prog 130 = some 3 := by kernel_rfl
theorem kt131 : kindT Tryd.prog 131 = some 3 := by kernel_rfl
theorem kt132 : kindT Tryd.prog 132 = some 3 := by kernel_rfl
theorem ag133 : aggT Tryd.prog 133 = some true := by kernel_rfl
theorem si133 : sizeT Tryd.prog 133 = 32 := by kernel_rfl
theorem sz133 : szT Tryd.prog 133 = some 32 := by kernel_rfl
theorem by133 : bytesT Tryd.prog 133 = 32 := by kernel_rfl
theorem ag134 : aggT Tryd.prog 134 = some true := by kernel_rfl
theorem si134 : sizeT Tryd.prog 134 = 64 := by kernel_rfl
theorem sz134 : szT Tryd.prog 134 = some 64 := by kernel_rfl
theorem by134 : bytesT Tryd.prog 134 = 64 := by kernel_rfl
theorem ag135 : aggT Tryd.prog 135 = some true := by kernel_rfl
theorem si135 : sizeT Tryd.prog 135 = 4 := by kernel_rfl
theorem sz135 : szT Tryd.prog 135 = some 4 := by kernel_rfl
theorem by135 : bytesT Tryd.prog 135 = 40 := by kernel_rfl
theorem str135 : structT Tryd.prog 135 = true := by kernel_rfl
theorem fi135_0 : fieldT Tryd.prog 135 0 = some (0, 17) := by kernel_rfl
theorem fi135_1 : fieldT Tryd.prog 135 1 = some (1, 17) := by kernel_rfl
theorem fi135_2 : fieldT Tryd.prog 135 2 = some (2, 17) := by kernel_rfl
theorem fi135_3 : fieldT Tryd.prog 135 3 = some (3, 9) := by kernel_rfl
theorem ze135 : zeroT Tryd.prog 135 = some [.pointer none, .pointer none, .pointer none, .string ⟨#[]⟩] := by kernel_rfl
theorem ag136 : aggT Tryd.prog 136 = some true := by kernel_rfl
theorem si136 : sizeT Tryd.prog 136 = 4 := by kernel_rfl
theorem sz136 : szT Tryd.prog 136 = some 4 := by kernel_rfl
theorem by136 : bytesT Tryd.prog 136 = 40 := by kernel_rfl
theorem str136 : structT Tryd.prog 136 = true := by kernel_rfl
theorem fi136_0 : fieldT Tryd.prog 136 0 = some (0, 17) := by kernel_rfl
theorem fi136_1 : fieldT Tryd.prog 136 1 = some (1, 17) := by kernel_rfl
theorem fi136_2 : fieldT Tryd.prog 136 2 = some (2, 17) := by kernel_rfl
theorem fi136_3 : fieldT Tryd.prog 136 3 = some (3, 9) := by kernel_rfl
theorem ze136 : zeroT Tryd.prog 136 = some [.pointer none, .pointer none, .pointer none, .string ⟨#[]⟩] := by kernel_rfl
theorem ag137 : aggT Tryd.prog 137 = some true := by kernel_rfl
theorem si137 : sizeT Tryd.prog 137 = 0 := by kernel_rfl
theorem sz137 : szT Tryd.prog 137 = some 0 := by kernel_rfl
theorem by137 : bytesT Tryd.prog 137 = 0 := by kernel_rfl
theorem ag138 : aggT Tryd.prog 138 = some true := by kernel_rfl
theorem si138 : sizeT Tryd.prog 138 = 0 := by kernel_rfl
theorem sz138 : szT Tryd.prog 138 = some 0 := by kernel_rfl
theorem by138 : bytesT Tryd.prog 138 = 0 := by kernel_rfl
theorem str138 : structT Tryd.prog 138 = true := by kernel_rfl
theorem ag139 : aggT Tryd.prog 139 = some true := by kernel_rfl
theorem si139 : sizeT Tryd.prog 139 = 0 := by kernel_rfl
theorem sz139 : szT Tryd.prog 139 = some 0 := by kernel_rfl
theorem by139 : bytesT Tryd.prog 139 = 0 := by kernel_rfl
theorem str139 : structT Tryd.prog 139 = true := by kernel_rfl
theorem kt140 : kindT Tryd.prog 140 = some 3 := by kernel_rfl
theorem ag141 : aggT Tryd.prog 141 = some false := by kernel_rfl
theorem si141 : sizeT Tryd.prog 141 = 1 := by kernel_rfl
theorem sz141 : szT Tryd.prog 141 = some 1 := by kernel_rfl
theorem by141 : bytesT Tryd.prog 141 = 1 := by kernel_rfl
theorem in141 : intT Tryd.prog 141 = some .u8 := by kernel_rfl
theorem zv141 : zeroV Tryd.prog 141 = some (.int .u8 0) := by kernel_rfl
theorem ze141 : zeroT Tryd.prog 141 = some [.int .u8 0] := by kernel_rfl
theorem ag142 : aggT Tryd.prog 142 = some false := by kernel_rfl
theorem si142 : sizeT Tryd.prog 142 = 1 := by kernel_rfl
theorem sz142 : szT Tryd.prog 142 = some 1 := by kernel_rfl
theorem by142 : bytesT Tryd.prog 142 = 1 := by kernel_rfl
theorem in142 : intT Tryd.prog 142 = some .u8 := by kernel_rfl
theorem zv142 : zeroV Tryd.prog 142 = some (.int .u8 0) := by kernel_rfl
theorem ze142 : zeroT Tryd.prog 142 = some [.int .u8 0] := by kernel_rfl
theorem kt143 : kindT Tryd.prog 143 = some 3 := by kernel_rfl
theorem ag144 : aggT Tryd.prog 144 = some false := by kernel_rfl
theorem si144 : sizeT Tryd.prog 144 = 1 := by kernel_rfl
theorem sz144 : szT Tryd.prog 144 = some 1 := by kernel_rfl
theorem by144 : bytesT Tryd.prog 144 = 4 := by kernel_rfl
theorem in144 : intT Tryd.prog 144 = some .i32 := by kernel_rfl
theorem zv144 : zeroV Tryd.prog 144 = some (.int .i32 0) := by kernel_rfl
theorem ze144 : zeroT Tryd.prog 144 = some [.int .i32 0] := by kernel_rfl
theorem ag145 : aggT Tryd.prog 145 = some false := by kernel_rfl
theorem si145 : sizeT Tryd.prog 145 = 1 := by kernel_rfl
theorem sz145 : szT Tryd.prog 145 = some 1 := by kernel_rfl
theorem by145 : bytesT Tryd.prog 145 = 4 := by kernel_rfl
theorem in145 : intT Tryd.prog 145 = some .i32 := by kernel_rfl
theorem zv145 : zeroV Tryd.prog 145 = some (.int .i32 0) := by kernel_rfl
theorem ze145 : zeroT Tryd.prog 145 = some [.int .i32 0] := by kernel_rfl
theorem ag146 : aggT Tryd.prog 146 = some true := by kernel_rfl
theorem si146 : sizeT Tryd.prog 146 = 11 := by kernel_rfl
theorem sz146 : szT Tryd.prog 146 = some 11 := by kernel_rfl
theorem by146 : bytesT Tryd.prog 146 = 48 := by kernel_rfl
theorem str146 : structT Tryd.prog 146 = true := by kernel_rfl
theorem fi146_0 : fieldT Tryd.prog 146 0 = some (0, 12) := by kernel_rfl
theorem fi146_1 : fieldT Tryd.prog 146 1 = some (1, 12) := by kernel_rfl
theorem fi146_2 : fieldT Tryd.prog 146 2 = some (2, 124) := by kernel_rfl
theorem fi146_3 : fieldT Tryd.prog 146 3 = some (3, 141) := by kernel_rfl
theorem fi146_4 : fieldT Tryd.prog 146 4 = some (4, 5) := by kernel_rfl
theorem fi146_5 : fieldT Tryd.prog 146 5 = some (5, 5) := by kernel_rfl
theorem fi146_6 : fieldT Tryd.prog 146 6 = some (6, 142) := by kernel_rfl
theorem fi146_7 : fieldT Tryd.prog 146 7 = some (7, 143) := by kernel_rfl
theorem fi146_8 : fieldT Tryd.prog 146 8 = some (8, 119) := by kernel_rfl
theorem fi146_9 : fieldT Tryd.prog 146 9 = some (9, 144) := by kernel_rfl
theorem fi146_10 : fieldT Tryd.prog 146 10 = some (10, 145) := by kernel_rfl
theorem ag147 : aggT Tryd.prog 147 = some true := by kernel_rfl
theorem si147 : sizeT Tryd.prog 147 = 11 := by kernel_rfl
theorem sz147 : szT Tryd.prog 147 = some 11 := by kernel_rfl
theorem by147 : bytesT Tryd.prog 147 = 48 := by kernel_rfl
theorem str147 : structT Tryd.prog 147 = true := by kernel_rfl
theorem fi147_0 : fieldT Tryd.prog 147 0 = some (0, 12) := by kernel_rfl
theorem fi147_1 : fieldT Tryd.prog 147 1 = some (1, 12) := by kernel_rfl
theorem fi147_2 : fieldT Tryd.prog 147 2 = some (2, 124) := by kernel_rfl
theorem fi147_3 : fieldT Tryd.prog 147 3 = some (3, 141) := by kernel_rfl
theorem fi147_4 : fieldT Tryd.prog 147 4 = some (4, 5) := by kernel_rfl
theorem fi147_5 : fieldT Tryd.prog 147 5 = some (5, 5) := by kernel_rfl
theorem fi147_6 : fieldT Tryd.prog 147 6 = some (6, 142) := by kernel_rfl
theorem fi147_7 : fieldT Tryd.prog 147 7 = some (7, 143) := by kernel_rfl
theorem fi147_8 : fieldT Tryd.prog 147 8 = some (8, 119) := by kernel_rfl
theorem fi147_9 : fieldT Tryd.prog 147 9 = some (9, 144) := by kernel_rfl
theorem fi147_10 : fieldT Tryd.prog 147 10 = some (10, 145) := by kernel_rfl
theorem tyF : type_of% (And.intro (And.intro (And.intro (And.intro (And.intro (And.intro (And.intro (And.intro (And.intro (kt1) (ag2)) (And.intro (si2) (sz2))) (And.intro (And.intro
  (by2) (in2)) (And.intro (zv2) (And.intro (ze2) (ag3))))) (And.intro (And.intro (And.intro (si3) (sz3)) (And.intro (by3) (in3))) (And.intro (And.intro (zv3) (ze3)) (And.intro (ag4)
  (And.intro (si4) (sz4)))))) (And.intro (And.intro (And.intro (And.intro (by4) (bo4)) (And.intro (zv4) (ze4))) (And.intro (And.intro (ag5) (si5)) (And.intro (sz5) (And.intro (by5)
  (in5))))) (And.intro (And.intro (And.intro (zv5) (ze5)) (And.intro (ag6) (si6))) (And.intro (And.intro (sz6) (by6)) (And.intro (in6) (And.intro (zv6) (ze6))))))) (And.intro
  (And.intro (And.intro (And.intro (And.intro (ag7) (si7)) (And.intro (sz7) (by7))) (And.intro (And.intro (str7) (fi7_0)) (And.intro (fi7_1) (And.intro (fi7_2) (fi7_3)))))
  (And.intro (And.intro (And.intro (ze7) (ag8)) (And.intro (si8) (sz8))) (And.intro (And.intro (by8) (str8)) (And.intro (fi8_0) (And.intro (fi8_1) (fi8_2)))))) (And.intro (And.intro
  (And.intro (And.intro (fi8_3) (ze8)) (And.intro (ag9) (si9))) (And.intro (And.intro (sz9) (by9)) (And.intro (st9) (And.intro (zv9) (ze9))))) (And.intro (And.intro (And.intro
  (ag10) (si10)) (And.intro (sz10) (by10))) (And.intro (And.intro (st10) (zv10)) (And.intro (ze10) (And.intro (ag11) (si11)))))))) (And.intro (And.intro (And.intro (And.intro
  (And.intro (And.intro (sz11) (by11)) (And.intro (st11) (zv11))) (And.intro (And.intro (ze11) (ag12)) (And.intro (si12) (And.intro (sz12) (by12))))) (And.intro (And.intro
  (And.intro (in12) (zv12)) (And.intro (ze12) (ag13))) (And.intro (And.intro (si13) (sz13)) (And.intro (by13) (And.intro (str13) (fi13_0)))))) (And.intro (And.intro (And.intro
  (And.intro (fi13_1) (ze13)) (And.intro (ag14) (si14))) (And.intro (And.intro (sz14) (by14)) (And.intro (str14) (And.intro (fi14_0) (fi14_1))))) (And.intro (And.intro (And.intro
  (ze14) (ag15)) (And.intro (si15) (sz15))) (And.intro (And.intro (by15) (kt15)) (And.intro (zv15) (And.intro (ze15) (ag16))))))) (And.intro (And.intro (And.intro (And.intro
  (And.intro (si16) (sz16)) (And.intro (by16) (kt16))) (And.intro (And.intro (zv16) (ze16)) (And.intro (ag17) (And.intro (si17) (sz17))))) (And.intro (And.intro (And.intro (by17)
  (kt17)) (And.intro (zv17) (ze17))) (And.intro (And.intro (ag18) (si18)) (And.intro (sz18) (And.intro (by18) (str18)))))) (And.intro (And.intro (And.intro (And.intro (fi18_0)
  (ze18)) (And.intro (ag19) (si19))) (And.intro (And.intro (sz19) (by19)) (And.intro (str19) (And.intro (fi19_0) (ze19))))) (And.intro (And.intro (And.intro (kt20) (ag21))
  (And.intro (si21) (sz21))) (And.intro (And.intro (by21) (in21)) (And.intro (zv21) (And.intro (ze21) (ag22))))))))) (And.intro (And.intro (And.intro (And.intro (And.intro
  (And.intro (And.intro (el22) (si22)) (And.intro (sz22) (by22))) (And.intro (And.intro (kt22) (zv22)) (And.intro (ze22) (And.intro (ag23) (si23))))) (And.intro (And.intro
  (And.intro (sz23) (by23)) (And.intro (str23) (fi23_0))) (And.intro (And.intro (fi23_1) (fi23_2)) (And.intro (ze23) (And.intro (ag24) (si24)))))) (And.intro (And.intro (And.intro
  (And.intro (sz24) (by24)) (And.intro (str24) (fi24_0))) (And.intro (And.intro (fi24_1) (fi24_2)) (And.intro (ze24) (And.intro (kt25) (kt26))))) (And.intro (And.intro (And.intro
  (ag27) (si27)) (And.intro (sz27) (by27))) (And.intro (And.intro (str27) (fi27_0)) (And.intro (fi27_1) (And.intro (fi27_2) (ze27))))))) (And.intro (And.intro (And.intro (And.intro
  (And.intro (kt28) (kt29)) (And.intro (kt30) (ag31))) (And.intro (And.intro (el31) (si31)) (And.intro (sz31) (And.intro (by31) (kt31))))) (And.intro (And.intro (And.intro (zv31)
  (ze31)) (And.intro (ag32) (el32))) (And.intro (And.intro (si32) (sz32)) (And.intro (by32) (And.intro (kt32) (zv32)))))) (And.intro (And.intro (And.intro (And.intro (ze32) (kt33))
  (And.intro (kt34) (kt35))) (And.intro (And.intro (ag36) (el36)) (And.intro (si36) (And.intro (sz36) (by36))))) (And.intro (And.intro (And.intro (kt36) (zv36)) (And.intro (ze36)
  (kt37))) (And.intro (And.intro (ag38) (el38)) (And.intro (si38) (And.intro (sz38) (by38)))))))) (And.intro (And.intro (And.intro (And.intro (And.intro (And.intro (kt38) (zv38))
  (And.intro (ze38) (kt39))) (And.intro (And.intro (kt40) (kt41)) (And.intro (kt42) (And.intro (ag43) (el43))))) (And.intro (And.intro (And.intro (si43) (sz43)) (And.intro (by43)
  (kt43))) (And.intro (And.intro (zv43) (ze43)) (And.intro (ag44) (And.intro (si44) (sz44)))))) (And.intro (And.intro (And.intro (And.intro (by44) (str44)) (And.intro (fi44_0)
  (fi44_1))) (And.intro (And.intro (fi44_2) (ze44)) (And.intro (ag45) (And.intro (si45) (sz45))))) (And.intro (And.intro (And.intro (by45) (str45)) (And.intro (fi45_0) (fi45_1)))
  (And.intro (And.intro (fi45_2) (ze45)) (And.intro (kt46) (And.intro (kt47) (ag48))))))) (And.intro (And.intro (And.intro (And.intro (And.intro (el48) (si48)) (And.intro (sz48)
  (by48))) (And.intro (And.intro (kt48) (zv48)) (And.intro (ze48) (And.intro (ag49) (si49))))) (And.intro (And.intro (And.intro (sz49) (by49)) (And.intro (str49) (fi49_0)))
  (And.intro (And.intro (fi49_1) (fi49_2)) (And.intro (ze49) (And.intro (ag50) (si50)))))) (And.intro (And.intro (And.intro (And.intro (sz50) (by50)) (And.intro (str50) (fi50_0)))
  (And.intro (And.intro (fi50_1) (fi50_2)) (And.intro (ze50) (And.intro (kt51) (kt52))))) (And.intro (And.intro (And.intro (kt53) (kt54)) (And.intro (kt55) (And.intro (kt56)
  (kt57)))) (And.intro (And.intro (ag58) (el58)) (And.intro (si58) (And.intro (sz58) (by58)))))))))) (And.intro (And.intro (And.intro (And.intro (And.intro (And.intro (And.intro
  (And.intro (kt58) (zv58)) (And.intro (ze58) (kt59))) (And.intro (And.intro (kt60) (kt61)) (And.intro (kt62) (And.intro (ag63) (si63))))) (And.intro (And.intro (And.intro (sz63)
  (by63)) (And.intro (str63) (fi63_0))) (And.intro (And.intro (fi63_1) (ze63)) (And.intro (ag64) (And.intro (si64) (sz64)))))) (And.intro (And.intro (And.intro (And.intro (by64)
  (str64)) (And.intro (fi64_0) (fi64_1))) (And.intro (And.intro (ze64) (kt65)) (And.intro (kt66) (And.intro (ag67) (si67))))) (And.intro (And.intro (And.intro (sz67) (by67))
  (And.intro (eq67) (str67))) (And.intro (And.intro (fi67_0) (fi67_1)) (And.intro (ze67) (And.intro (ag68) (si68))))))) (And.intro (And.intro (And.intro (And.intro (And.intro (sz68)
  (by68)) (And.intro (eq68) (str68))) (And.intro (And.intro (fi68_0) (fi68_1)) (And.intro (ze68) (And.intro (kt69) (ag70))))) (And.intro (And.intro (And.intro (si70) (sz70))
  (And.intro (by70) (eq70))) (And.intro (And.intro (str70) (fi70_0)) (And.intro (fi70_1) (And.intro (ze70) (ag71)))))) (And.intro (And.intro (And.intro (And.intro (si71) (sz71))
  (And.intro (by71) (str71))) (And.intro (And.intro (fi71_0) (fi71_1)) (And.intro (ze71) (And.intro (kt72) (kt73))))) (And.intro (And.intro (And.intro (kt74) (kt75)) (And.intro
  (kt76) (kt77))) (And.intro (And.intro (kt78) (kt79)) (And.intro (kt80) (And.intro (kt81) (ag82)))))))) (And.intro (And.intro (And.intro (And.intro (And.intro (And.intro (el82)
  (si82)) (And.intro (sz82) (by82))) (And.intro (And.intro (kt82) (zv82)) (And.intro (ze82) (And.intro (ag83) (el83))))) (And.intro (And.intro (And.intro (si83) (sz83)) (And.intro
  (by83) (kt83))) (And.intro (And.intro (zv83) (ze83)) (And.intro (kt84) (And.intro (kt85) (kt86)))))) (And.intro (And.intro (And.intro (And.intro (kt87) (kt88)) (And.intro (kt89)
  (kt90))) (And.intro (And.intro (kt91) (kt92)) (And.intro (kt93) (And.intro (kt94) (kt95))))) (And.intro (And.intro (And.intro (kt96) (ag97)) (And.intro (si97) (sz97))) (And.intro
  (And.intro (by97) (kt97)) (And.intro (zv97) (And.intro (ze97) (ag98))))))) (And.intro (And.intro (And.intro (And.intro (And.intro (si98) (sz98)) (And.intro (by98) (str98)))
  (And.intro (And.intro (fi98_0) (fi98_1)) (And.intro (ze98) (And.intro (ag99) (si99))))) (And.intro (And.intro (And.intro (sz99) (by99)) (And.intro (str99) (fi99_0))) (And.intro
  (And.intro (fi99_1) (ze99)) (And.intro (kt100) (And.intro (kt101) (kt102)))))) (And.intro (And.intro (And.intro (And.intro (kt104) (kt105)) (And.intro (kt106) (kt107))) (And.intro
  (And.intro (kt108) (kt109)) (And.intro (kt110) (And.intro (kt111) (kt112))))) (And.intro (And.intro (And.intro (ag113) (si113)) (And.intro (sz113) (And.intro (by113) (ag114))))
  (And.intro (And.intro (si114) (sz114)) (And.intro (by114) (And.intro (in114) (zv114))))))))) (And.intro (And.intro (And.intro (And.intro (And.intro (And.intro (And.intro (ze114)
  (kt115)) (And.intro (kt116) (kt118))) (And.intro (And.intro (ag119) (si119)) (And.intro (sz119) (And.intro (by119) (kt119))))) (And.intro (And.intro (And.intro (zv119) (ze119))
  (And.intro (kt120) (kt121))) (And.intro (And.intro (kt122) (ag123)) (And.intro (si123) (And.intro (sz123) (by123)))))) (And.intro (And.intro (And.intro (And.intro (ag124) (si124))
  (And.intro (sz124) (by124))) (And.intro (And.intro (in124) (zv124)) (And.intro (ze124) (And.intro (ag125) (si125))))) (And.intro (And.intro (And.intro (sz125) (by125)) (And.intro
  (kt126) (ag127))) (And.intro (And.intro (si127) (sz127)) (And.intro (by127) (And.intro (in127) (zv127))))))) (And.intro (And.intro (And.intro (And.intro (And.intro (ze127)
  (kt128)) (And.intro (kt130) (kt131))) (And.intro (And.intro (kt132) (ag133)) (And.intro (si133) (And.intro (sz133) (by133))))) (And.intro (And.intro (And.intro (ag134) (si134))
  (And.intro (sz134) (by134))) (And.intro (And.intro (ag135) (si135)) (And.intro (sz135) (And.intro (by135) (str135)))))) (And.intro (And.intro (And.intro (And.intro (fi135_0)
  (fi135_1)) (And.intro (fi135_2) (fi135_3))) (And.intro (And.intro (ze135) (ag136)) (And.intro (si136) (And.intro (sz136) (by136))))) (And.intro (And.intro (And.intro (str136)
  (fi136_0)) (And.intro (fi136_1) (fi136_2))) (And.intro (And.intro (fi136_3) (ze136)) (And.intro (ag137) (And.intro (si137) (sz137)))))))) (And.intro (And.intro (And.intro
  (And.intro (And.intro (And.intro (by137) (ag138)) (And.intro (si138) (sz138))) (And.intro (And.intro (by138) (str138)) (And.intro (ag139) (And.intro (si139) (sz139))))) (And.intro
  (And.intro (And.intro (by139) (str139)) (And.intro (kt140) (ag141))) (And.intro (And.intro (si141) (sz141)) (And.intro (by141) (And.intro (in141) (zv141)))))) (And.intro
  (And.intro (And.intro (And.intro (ze141) (ag142)) (And.intro (si142) (sz142))) (And.intro (And.intro (by142) (in142)) (And.intro (zv142) (And.intro (ze142) (kt143))))) (And.intro
  (And.intro (And.intro (ag144) (si144)) (And.intro (sz144) (by144))) (And.intro (And.intro (in144) (zv144)) (And.intro (ze144) (And.intro (ag145) (si145))))))) (And.intro
  (And.intro (And.intro (And.intro (And.intro (sz145) (by145)) (And.intro (in145) (zv145))) (And.intro (And.intro (ze145) (ag146)) (And.intro (si146) (And.intro (sz146) (by146)))))
  (And.intro (And.intro (And.intro (str146) (fi146_0)) (And.intro (fi146_1) (fi146_2))) (And.intro (And.intro (fi146_3) (fi146_4)) (And.intro (fi146_5) (And.intro (fi146_6)
  (fi146_7)))))) (And.intro (And.intro (And.intro (And.intro (fi146_8) (fi146_9)) (And.intro (fi146_10) (ag147))) (And.intro (And.intro (si147) (sz147)) (And.intro (by147)
  (And.intro (str147) (fi147_0))))) (And.intro (And.intro (And.intro (fi147_1) (fi147_2)) (And.intro (fi147_3) (And.intro (fi147_4) (fi147_5)))) (And.intro (And.intro (fi147_6)
  (fi147_7)) (And.intro (fi147_8) (And.intro (fi147_9) (fi147_10))))))))))) := And.intro (And.intro (And.intro (And.intro (And.intro (And.intro (And.intro (And.intro (And.intro
  (kt1) (ag2)) (And.intro (si2) (sz2))) (And.intro (And.intro (by2) (in2)) (And.intro (zv2) (And.intro (ze2) (ag3))))) (And.intro (And.intro (And.intro (si3) (sz3)) (And.intro (by3)
  (in3))) (And.intro (And.intro (zv3) (ze3)) (And.intro (ag4) (And.intro (si4) (sz4)))))) (And.intro (And.intro (And.intro (And.intro (by4) (bo4)) (And.intro (zv4) (ze4)))
  (And.intro (And.intro (ag5) (si5)) (And.intro (sz5) (And.intro (by5) (in5))))) (And.intro (And.intro (And.intro (zv5) (ze5)) (And.intro (ag6) (si6))) (And.intro (And.intro (sz6)
  (by6)) (And.intro (in6) (And.intro (zv6) (ze6))))))) (And.intro (And.intro (And.intro (And.intro (And.intro (ag7) (si7)) (And.intro (sz7) (by7))) (And.intro (And.intro (str7)
  (fi7_0)) (And.intro (fi7_1) (And.intro (fi7_2) (fi7_3))))) (And.intro (And.intro (And.intro (ze7) (ag8)) (And.intro (si8) (sz8))) (And.intro (And.intro (by8) (str8)) (And.intro
  (fi8_0) (And.intro (fi8_1) (fi8_2)))))) (And.intro (And.intro (And.intro (And.intro (fi8_3) (ze8)) (And.intro (ag9) (si9))) (And.intro (And.intro (sz9) (by9)) (And.intro (st9)
  (And.intro (zv9) (ze9))))) (And.intro (And.intro (And.intro (ag10) (si10)) (And.intro (sz10) (by10))) (And.intro (And.intro (st10) (zv10)) (And.intro (ze10) (And.intro (ag11)
  (si11)))))))) (And.intro (And.intro (And.intro (And.intro (And.intro (And.intro (sz11) (by11)) (And.intro (st11) (zv11))) (And.intro (And.intro (ze11) (ag12)) (And.intro (si12)
  (And.intro (sz12) (by12))))) (And.intro (And.intro (And.intro (in12) (zv12)) (And.intro (ze12) (ag13))) (And.intro (And.intro (si13) (sz13)) (And.intro (by13) (And.intro (str13)
  (fi13_0)))))) (And.intro (And.intro (And.intro (And.intro (fi13_1) (ze13)) (And.intro (ag14) (si14))) (And.intro (And.intro (sz14) (by14)) (And.intro (str14) (And.intro (fi14_0)
  (fi14_1))))) (And.intro (And.intro (And.intro (ze14) (ag15)) (And.intro (si15) (sz15))) (And.intro (And.intro (by15) (kt15)) (And.intro (zv15) (And.intro (ze15) (ag16)))))))
  (And.intro (And.intro (And.intro (And.intro (And.intro (si16) (sz16)) (And.intro (by16) (kt16))) (And.intro (And.intro (zv16) (ze16)) (And.intro (ag17) (And.intro (si17)
  (sz17))))) (And.intro (And.intro (And.intro (by17) (kt17)) (And.intro (zv17) (ze17))) (And.intro (And.intro (ag18) (si18)) (And.intro (sz18) (And.intro (by18) (str18))))))
  (And.intro (And.intro (And.intro (And.intro (fi18_0) (ze18)) (And.intro (ag19) (si19))) (And.intro (And.intro (sz19) (by19)) (And.intro (str19) (And.intro (fi19_0) (ze19)))))
  (And.intro (And.intro (And.intro (kt20) (ag21)) (And.intro (si21) (sz21))) (And.intro (And.intro (by21) (in21)) (And.intro (zv21) (And.intro (ze21) (ag22))))))))) (And.intro
  (And.intro (And.intro (And.intro (And.intro (And.intro (And.intro (el22) (si22)) (And.intro (sz22) (by22))) (And.intro (And.intro (kt22) (zv22)) (And.intro (ze22) (And.intro
  (ag23) (si23))))) (And.intro (And.intro (And.intro (sz23) (by23)) (And.intro (str23) (fi23_0))) (And.intro (And.intro (fi23_1) (fi23_2)) (And.intro (ze23) (And.intro (ag24)
  (si24)))))) (And.intro (And.intro (And.intro (And.intro (sz24) (by24)) (And.intro (str24) (fi24_0))) (And.intro (And.intro (fi24_1) (fi24_2)) (And.intro (ze24) (And.intro (kt25)
  (kt26))))) (And.intro (And.intro (And.intro (ag27) (si27)) (And.intro (sz27) (by27))) (And.intro (And.intro (str27) (fi27_0)) (And.intro (fi27_1) (And.intro (fi27_2) (ze27)))))))
  (And.intro (And.intro (And.intro (And.intro (And.intro (kt28) (kt29)) (And.intro (kt30) (ag31))) (And.intro (And.intro (el31) (si31)) (And.intro (sz31) (And.intro (by31)
  (kt31))))) (And.intro (And.intro (And.intro (zv31) (ze31)) (And.intro (ag32) (el32))) (And.intro (And.intro (si32) (sz32)) (And.intro (by32) (And.intro (kt32) (zv32))))))
  (And.intro (And.intro (And.intro (And.intro (ze32) (kt33)) (And.intro (kt34) (kt35))) (And.intro (And.intro (ag36) (el36)) (And.intro (si36) (And.intro (sz36) (by36)))))
  (And.intro (And.intro (And.intro (kt36) (zv36)) (And.intro (ze36) (kt37))) (And.intro (And.intro (ag38) (el38)) (And.intro (si38) (And.intro (sz38) (by38)))))))) (And.intro
  (And.intro (And.intro (And.intro (And.intro (And.intro (kt38) (zv38)) (And.intro (ze38) (kt39))) (And.intro (And.intro (kt40) (kt41)) (And.intro (kt42) (And.intro (ag43)
  (el43))))) (And.intro (And.intro (And.intro (si43) (sz43)) (And.intro (by43) (kt43))) (And.intro (And.intro (zv43) (ze43)) (And.intro (ag44) (And.intro (si44) (sz44))))))
  (And.intro (And.intro (And.intro (And.intro (by44) (str44)) (And.intro (fi44_0) (fi44_1))) (And.intro (And.intro (fi44_2) (ze44)) (And.intro (ag45) (And.intro (si45) (sz45)))))
  (And.intro (And.intro (And.intro (by45) (str45)) (And.intro (fi45_0) (fi45_1))) (And.intro (And.intro (fi45_2) (ze45)) (And.intro (kt46) (And.intro (kt47) (ag48))))))) (And.intro
  (And.intro (And.intro (And.intro (And.intro (el48) (si48)) (And.intro (sz48) (by48))) (And.intro (And.intro (kt48) (zv48)) (And.intro (ze48) (And.intro (ag49) (si49)))))
  (And.intro (And.intro (And.intro (sz49) (by49)) (And.intro (str49) (fi49_0))) (And.intro (And.intro (fi49_1) (fi49_2)) (And.intro (ze49) (And.intro (ag50) (si50)))))) (And.intro
  (And.intro (And.intro (And.intro (sz50) (by50)) (And.intro (str50) (fi50_0))) (And.intro (And.intro (fi50_1) (fi50_2)) (And.intro (ze50) (And.intro (kt51) (kt52))))) (And.intro
  (And.intro (And.intro (kt53) (kt54)) (And.intro (kt55) (And.intro (kt56) (kt57)))) (And.intro (And.intro (ag58) (el58)) (And.intro (si58) (And.intro (sz58) (by58))))))))))
  (And.intro (And.intro (And.intro (And.intro (And.intro (And.intro (And.intro (And.intro (kt58) (zv58)) (And.intro (ze58) (kt59))) (And.intro (And.intro (kt60) (kt61)) (And.intro
  (kt62) (And.intro (ag63) (si63))))) (And.intro (And.intro (And.intro (sz63) (by63)) (And.intro (str63) (fi63_0))) (And.intro (And.intro (fi63_1) (ze63)) (And.intro (ag64)
  (And.intro (si64) (sz64)))))) (And.intro (And.intro (And.intro (And.intro (by64) (str64)) (And.intro (fi64_0) (fi64_1))) (And.intro (And.intro (ze64) (kt65)) (And.intro (kt66)
  (And.intro (ag67) (si67))))) (And.intro (And.intro (And.intro (sz67) (by67)) (And.intro (eq67) (str67))) (And.intro (And.intro (fi67_0) (fi67_1)) (And.intro (ze67) (And.intro
  (ag68) (si68))))))) (And.intro (And.intro (And.intro (And.intro (And.intro (sz68) (by68)) (And.intro (eq68) (str68))) (And.intro (And.intro (fi68_0) (fi68_1)) (And.intro (ze68)
  (And.intro (kt69) (ag70))))) (And.intro (And.intro (And.intro (si70) (sz70)) (And.intro (by70) (eq70))) (And.intro (And.intro (str70) (fi70_0)) (And.intro (fi70_1) (And.intro
  (ze70) (ag71)))))) (And.intro (And.intro (And.intro (And.intro (si71) (sz71)) (And.intro (by71) (str71))) (And.intro (And.intro (fi71_0) (fi71_1)) (And.intro (ze71) (And.intro
  (kt72) (kt73))))) (And.intro (And.intro (And.intro (kt74) (kt75)) (And.intro (kt76) (kt77))) (And.intro (And.intro (kt78) (kt79)) (And.intro (kt80) (And.intro (kt81) (ag82))))))))
  (And.intro (And.intro (And.intro (And.intro (And.intro (And.intro (el82) (si82)) (And.intro (sz82) (by82))) (And.intro (And.intro (kt82) (zv82)) (And.intro (ze82) (And.intro
  (ag83) (el83))))) (And.intro (And.intro (And.intro (si83) (sz83)) (And.intro (by83) (kt83))) (And.intro (And.intro (zv83) (ze83)) (And.intro (kt84) (And.intro (kt85) (kt86))))))
  (And.intro (And.intro (And.intro (And.intro (kt87) (kt88)) (And.intro (kt89) (kt90))) (And.intro (And.intro (kt91) (kt92)) (And.intro (kt93) (And.intro (kt94) (kt95)))))
  (And.intro (And.intro (And.intro (kt96) (ag97)) (And.intro (si97) (sz97))) (And.intro (And.intro (by97) (kt97)) (And.intro (zv97) (And.intro (ze97) (ag98))))))) (And.intro
  (And.intro (And.intro (And.intro (And.intro (si98) (sz98)) (And.intro (by98) (str98))) (And.intro (And.intro (fi98_0) (fi98_1)) (And.intro (ze98) (And.intro (ag99) (si99)))))
  (And.intro (And.intro (And.intro (sz99) (by99)) (And.intro (str99) (fi99_0))) (And.intro (And.intro (fi99_1) (ze99)) (And.intro (kt100) (And.intro (kt101) (kt102)))))) (And.intro
  (And.intro (And.intro (And.intro (kt104) (kt105)) (And.intro (kt106) (kt107))) (And.intro (And.intro (kt108) (kt109)) (And.intro (kt110) (And.intro (kt111) (kt112))))) (And.intro
  (And.intro (And.intro (ag113) (si113)) (And.intro (sz113) (And.intro (by113) (ag114)))) (And.intro (And.intro (si114) (sz114)) (And.intro (by114) (And.intro (in114)
  (zv114))))))))) (And.intro (And.intro (And.intro (And.intro (And.intro (And.intro (And.intro (ze114) (kt115)) (And.intro (kt116) (kt118))) (And.intro (And.intro (ag119) (si119))
  (And.intro (sz119) (And.intro (by119) (kt119))))) (And.intro (And.intro (And.intro (zv119) (ze119)) (And.intro (kt120) (kt121))) (And.intro (And.intro (kt122) (ag123)) (And.intro
  (si123) (And.intro (sz123) (by123)))))) (And.intro (And.intro (And.intro (And.intro (ag124) (si124)) (And.intro (sz124) (by124))) (And.intro (And.intro (in124) (zv124)) (And.intro
  (ze124) (And.intro (ag125) (si125))))) (And.intro (And.intro (And.intro (sz125) (by125)) (And.intro (kt126) (ag127))) (And.intro (And.intro (si127) (sz127)) (And.intro (by127)
  (And.intro (in127) (zv127))))))) (And.intro (And.intro (And.intro (And.intro (And.intro (ze127) (kt128)) (And.intro (kt130) (kt131))) (And.intro (And.intro (kt132) (ag133))
  (And.intro (si133) (And.intro (sz133) (by133))))) (And.intro (And.intro (And.intro (ag134) (si134)) (And.intro (sz134) (by134))) (And.intro (And.intro (ag135) (si135)) (And.intro
  (sz135) (And.intro (by135) (str135)))))) (And.intro (And.intro (And.intro (And.intro (fi135_0) (fi135_1)) (And.intro (fi135_2) (fi135_3))) (And.intro (And.intro (ze135) (ag136))
  (And.intro (si136) (And.intro (sz136) (by136))))) (And.intro (And.intro (And.intro (str136) (fi136_0)) (And.intro (fi136_1) (fi136_2))) (And.intro (And.intro (fi136_3) (ze136))
  (And.intro (ag137) (And.intro (si137) (sz137)))))))) (And.intro (And.intro (And.intro (And.intro (And.intro (And.intro (by137) (ag138)) (And.intro (si138) (sz138))) (And.intro
  (And.intro (by138) (str138)) (And.intro (ag139) (And.intro (si139) (sz139))))) (And.intro (And.intro (And.intro (by139) (str139)) (And.intro (kt140) (ag141))) (And.intro
  (And.intro (si141) (sz141)) (And.intro (by141) (And.intro (in141) (zv141)))))) (And.intro (And.intro (And.intro (And.intro (ze141) (ag142)) (And.intro (si142) (sz142))) (And.intro
  (And.intro (by142) (in142)) (And.intro (zv142) (And.intro (ze142) (kt143))))) (And.intro (And.intro (And.intro (ag144) (si144)) (And.intro (sz144) (by144))) (And.intro (And.intro
  (in144) (zv144)) (And.intro (ze144) (And.intro (ag145) (si145))))))) (And.intro (And.intro (And.intro (And.intro (And.intro (sz145) (by145)) (And.intro (in145) (zv145)))
  (And.intro (And.intro (ze145) (ag146)) (And.intro (si146) (And.intro (sz146) (by146))))) (And.intro (And.intro (And.intro (str146) (fi146_0)) (And.intro (fi146_1) (fi146_2)))
  (And.intro (And.intro (fi146_3) (fi146_4)) (And.intro (fi146_5) (And.intro (fi146_6) (fi146_7)))))) (And.intro (And.intro (And.intro (And.intro (fi146_8) (fi146_9)) (And.intro
  (fi146_10) (ag147))) (And.intro (And.intro (si147) (sz147)) (And.intro (by147) (And.intro (str147) (fi147_0))))) (And.intro (And.intro (And.intro (fi147_1) (fi147_2)) (And.intro
  (fi147_3) (And.intro (fi147_4) (fi147_5)))) (And.intro (And.intro (fi147_6) (fi147_7)) (And.intro (fi147_8) (And.intro (fi147_9) (fi147_10))))))))))
end Go.AM
