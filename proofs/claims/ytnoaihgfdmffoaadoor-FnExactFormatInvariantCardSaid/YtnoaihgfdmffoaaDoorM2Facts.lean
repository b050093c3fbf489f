/-
  WHAT THE PROGRAM SAYS OF ITS TYPES, each fact by reckoning.
-/
import Derived.Test.YtnoaihgfdmffoaaDoorM2Tool
import Derived.Test.YtnoaihgfdmffoaaDoorProg
import Derived.Test.YtnoaihgfdmffoaaDoorProg
set_option linter.unusedVariables false
set_option linter.unusedSimpArgs false
namespace Go.AM
open Go.Proofs
theorem mixed : Tryd.prog.follows .mixedOrders = true := by kernel_rfl
theorem kt1 : kindT Tryd.prog 1 = some 3 := by kernel_rfl
theorem ag2 : aggT Tryd.prog 2 = some false := by kernel_rfl
theorem si2 : sizeT Tryd.prog 2 = 1 := by kernel_rfl
theorem sz2 : szT Tryd.prog 2 = some 1 := by kernel_rfl
theorem by2 : bytesT Tryd.prog 2 = 8 := by kernel_rfl
theorem in2 : intT Tryd.prog 2 = some .i64 := by kernel_rfl
theorem zv2 : zeroV Tryd.prog 2 = some (.int .i64 0) := by kernel_rfl
theorem ze2 : zeroT Tryd.prog 2 = some [.int .i64 0] := by kernel_rfl
theorem ag3 : aggT Tryd.prog 3 = some false := by kernel_rfl
theorem si3 : sizeT Tryd.prog 3 = 1 := by kernel_rfl
theorem sz3 : szT Tryd.prog 3 = some 1 := by kernel_rfl
theorem by3 : bytesT Tryd.prog 3 = 8 := by kernel_rfl
theorem in3 : intT Tryd.prog 3 = some .i64 := by kernel_rfl
theorem zv3 : zeroV Tryd.prog 3 = some (.int .i64 0) := by kernel_rfl
theorem ze3 : zeroT Tryd.prog 3 = some [.int .i64 0] := by kernel_rfl
theorem ag4 : aggT Tryd.prog 4 = some false := by kernel_rfl
theorem si4 : sizeT Tryd.prog 4 = 1 := by kernel_rfl
theorem sz4 : szT Tryd.prog 4 = some 1 := by kernel_rfl
theorem by4 : bytesT Tryd.prog 4 = 1 := by kernel_rfl
theorem bo4 : boolT Tryd.prog 4 = true := by kernel_rfl
theorem zv4 : zeroV Tryd.prog 4 = some (.bool false) := by kernel_rfl
theorem ze4 : zeroT Tryd.prog 4 = some [.bool false] := by kernel_rfl
theorem ag5 : aggT Tryd.prog 5 = some false := by kernel_rfl
theorem si5 : sizeT Tryd.prog 5 = 1 := by kernel_rfl
theorem sz5 : szT Tryd.prog 5 = some 1 := by kernel_rfl
theorem by5 : bytesT Tryd.prog 5 = 1 := by kernel_rfl
theorem in5 : intT Tryd.prog 5 = some .u8 := by kernel_rfl
theorem zv5 : zeroV Tryd.prog 5 = some (.int .u8 0) := by kernel_rfl
theorem ze5 : zeroT Tryd.prog 5 = some [.int .u8 0] := by kernel_rfl
theorem ag6 : aggT Tryd.prog 6 = some false := by kernel_rfl
theorem si6 : sizeT Tryd.prog 6 = 1 := by kernel_rfl
theorem sz6 : szT Tryd.prog 6 = some 1 := by kernel_rfl
theorem by6 : bytesT Tryd.prog 6 = 1 := by kernel_rfl
theorem in6 : intT Tryd.prog 6 = some .u8 := by kernel_rfl
theorem zv6 : zeroV Tryd.prog 6 = some (.int .u8 0) := by kernel_rfl
theorem ze6 : zeroT Tryd.prog 6 = some [.int .u8 0] := by kernel_rfl
theorem ag7 : aggT Tryd.prog 7 = some true := by kernel_rfl
theorem si7 : sizeT Tryd.prog 7 = 4 := by kernel_rfl
theorem sz7 : szT Tryd.prog 7 = some 4 := by kernel_rfl
theorem by7 : bytesT Tryd.prog 7 = 24 := by kernel_rfl
theorem str7 : structT Tryd.prog 7 = true := by kernel_rfl
theorem fi7_0 : fieldT Tryd.prog 7 0 = some (0, 2) := by kernel_rfl
theorem fi7_1 : fieldT Tryd.prog 7 1 = some (1, 3) := by kernel_rfl
theorem fi7_2 : fieldT Tryd.prog 7 2 = some (2, 4) := by kernel_rfl
theorem fi7_3 : fieldT Tryd.prog 7 3 = some (3, 6) := by kernel_rfl
theorem ze7 : zeroT Tryd.prog 7 = some [.int .i64 0, .int .i64 0, .bool false, .int .u8 0] := by kernel_rfl
theorem ag8 : aggT Tryd.prog 8 = some true := by kernel_rfl
theorem si8 : sizeT Tryd.prog 8 = 4 := by kernel_rfl
theorem sz8 : szT Tryd.prog 8 = some 4 := by kernel_rfl
theorem by8 : bytesT Tryd.prog 8 = 24 := by kernel_rfl
theorem str8 : structT Tryd.prog 8 = true := by kernel_rfl
theorem fi8_0 : fieldT Tryd.prog 8 0 = some (0, 2) := by kernel_rfl
theorem fi8_1 : fieldT Tryd.prog 8 1 = some (1, 3) := by kernel_rfl
theorem fi8_2 : fieldT Tryd.prog 8 2 = some (2, 4) := by kernel_rfl
theorem fi8_3 : fieldT Tryd.prog 8 3 = some (3, 6) := by kernel_rfl
theorem ze8 : zeroT Tryd.prog 8 = some [.int .i64 0, .int .i64 0, .bool false, .int .u8 0] := by kernel_rfl
theorem ag9 : aggT Tryd.prog 9 = some false := by kernel_rfl
theorem si9 : sizeT Tryd.prog 9 = 1 := by kernel_rfl
theorem sz9 : szT Tryd.prog 9 = some 1 := by kernel_rfl
theorem by9 : bytesT Tryd.prog 9 = 16 := by kernel_rfl
theorem st9 : stringT Tryd.prog 9 = true := by kernel_rfl
theorem zv9 : zeroV Tryd.prog 9 = some (.string ⟨#[]⟩) := by kernel_rfl
theorem ze9 : zeroT Tryd.prog 9 = some [.string ⟨#[]⟩] := by kernel_rfl
theorem ag10 : aggT Tryd.prog 10 = some false := by kernel_rfl
theorem si10 : sizeT Tryd.prog 10 = 1 := by kernel_rfl
theorem sz10 : szT Tryd.prog 10 = some 1 := by kernel_rfl
theorem by10 : bytesT Tryd.prog 10 = 16 := by kernel_rfl
theorem st10 : stringT Tryd.prog 10 = true := by kernel_rfl
theorem zv10 : zeroV Tryd.prog 10 = some (.string ⟨#[]⟩) := by kernel_rfl
theorem ze10 : zeroT Tryd.prog 10 = some [.string ⟨#[]⟩] := by kernel_rfl
theorem ag11 : aggT Tryd.prog 11 = some false := by kernel_rfl
theorem si11 : sizeT Tryd.prog 11 = 1 := by kernel_rfl
theorem sz11 : szT Tryd.prog 11 = some 1 := by kernel_rfl
theorem by11 : bytesT Tryd.prog 11 = 16 := by kernel_rfl
theorem st11 : stringT Tryd.prog 11 = true := by kernel_rfl
theorem zv11 : zeroV Tryd.prog 11 = some (.string ⟨#[]⟩) := by kernel_rfl
theorem ze11 : zeroT Tryd.prog 11 = some [.string ⟨#[]⟩] := by kernel_rfl
theorem ag12 : aggT Tryd.prog 12 = some false := by kernel_rfl
theorem si12 : sizeT Tryd.prog 12 = 1 := by kernel_rfl
theorem sz12 : szT Tryd.prog 12 = some 1 := by kernel_rfl
theorem by12 : bytesT Tryd.prog 12 = 8 := by kernel_rfl
theorem in12 : intT Tryd.prog 12 = some .u64 := by kernel_rfl
theorem zv12 : zeroV Tryd.prog 12 = some (.int .u64 0) := by kernel_rfl
theorem ze12 : zeroT Tryd.prog 12 = some [.int .u64 0] := by kernel_rfl
theorem ag13 : aggT Tryd.prog 13 = some true := by kernel_rfl
theorem si13 : sizeT Tryd.prog 13 = 2 := by kernel_rfl
theorem sz13 : szT Tryd.prog 13 = some 2 := by kernel_rfl
theorem by13 : bytesT Tryd.prog 13 = 24 := by kernel_rfl
theorem str13 : structT Tryd.prog 13 = true := by kernel_rfl
theorem fi13_0 : fieldT Tryd.prog 13 0 = some (0, 9) := by kernel_rfl
theorem fi13_1 : fieldT Tryd.prog 13 1 = some (1, 12) := by kernel_rfl
theorem ze13 : zeroT Tryd.prog 13 = some [.string ⟨#[]⟩, .int .u64 0] := by kernel_rfl
theorem ag14 : aggT Tryd.prog 14 = some true := by kernel_rfl
theorem si14 : sizeT Tryd.prog 14 = 2 := by kernel_rfl
theorem sz14 : szT Tryd.prog 14 = some 2 := by kernel_rfl
theorem by14 : bytesT Tryd.prog 14 = 24 := by kernel_rfl
theorem str14 : structT Tryd.prog 14 = true := by kernel_rfl
theorem fi14_0 : fieldT Tryd.prog 14 0 = some (0, 9) := by kernel_rfl
theorem fi14_1 : fieldT Tryd.prog 14 1 = some (1, 12) := by kernel_rfl
theorem ze14 : zeroT Tryd.prog 14 = some [.string ⟨#[]⟩, .int .u64 0] := by kernel_rfl
theorem ag15 : aggT Tryd.prog 15 = some false := by kernel_rfl
theorem si15 : sizeT Tryd.prog 15 = 1 := by kernel_rfl
theorem sz15 : szT Tryd.prog 15 = some 1 := by kernel_rfl
theorem by15 : bytesT Tryd.prog 15 = 8 := by kernel_rfl
theorem kt15 : kindT Tryd.prog 15 = some 1 := by kernel_rfl
theorem zv15 : zeroV Tryd.prog 15 = some (.pointer none) := by kernel_rfl
theorem ze15 : zeroT Tryd.prog 15 = some [.pointer none] := by kernel_rfl
theorem ag16 : aggT Tryd.prog 16 = some false := by kernel_rfl
theorem si16 : sizeT Tryd.prog 16 = 1 := by kernel_rfl
theorem sz16 : szT Tryd.prog 16 = some 1 := by kernel_rfl
theorem by16 : bytesT Tryd.prog 16 = 8 := by kernel_rfl
theorem kt16 : kindT Tryd.prog 16 = some 1 := by kernel_rfl
theorem zv16 : zeroV Tryd.prog 16 = some (.pointer none) := by kernel_rfl
theorem ze16 : zeroT Tryd.prog 16 = some [.pointer none] := by kernel_rfl
theorem ag17 : aggT Tryd.prog 17 = some false := by kernel_rfl
theorem si17 : sizeT Tryd.prog 17 = 1 := by kernel_rfl
theorem sz17 : szT Tryd.prog 17 = some 1 := by kernel_rfl
theorem by17 : bytesT Tryd.prog 17 = 8 := by kernel_rfl
theorem kt17 : kindT Tryd.prog 17 = some 1 := by kernel_rfl
theorem zv17 : zeroV Tryd.prog 17 = some (.pointer none) := by kernel_rfl
theorem ze17 : zeroT Tryd.prog 17 = some [.pointer none] := by kernel_rfl
theorem ag18 : aggT Tryd.prog 18 = some true := by kernel_rfl
theorem si18 : sizeT Tryd.prog 18 = 1 := by kernel_rfl
theorem sz18 : szT Tryd.prog 18 = some 1 := by kernel_rfl
theorem by18 : bytesT Tryd.prog 18 = 8 := by kernel_rfl
theorem str18 : structT Tryd.prog 18 = true := by kernel_rfl
theorem fi18_0 : fieldT Tryd.prog 18 0 = some (0, 17) := by kernel_rfl
theorem ze18 : zeroT Tryd.prog 18 = some [.pointer none] := by kernel_rfl
theorem ag19 : aggT Tryd.prog 19 = some true := by kernel_rfl
theorem si19 : sizeT Tryd.prog 19 = 1 := by kernel_rfl
theorem sz19 : szT Tryd.prog 19 = some 1 := by kernel_rfl
theorem by19 : bytesT Tryd.prog 19 = 8 := by kernel_rfl
theorem str19 : structT Tryd.prog 19 = true := by kernel_rfl
theorem fi19_0 : fieldT Tryd.prog 19 0 = some (0, 17) := by kernel_rfl
theorem ze19 : zeroT Tryd.prog 19 = some [.pointer none] := by kernel_rfl
theorem kt20 : kindT Tryd.prog 20 = some 2 := by kernel_rfl
theorem ag21 : aggT Tryd.prog 21 = some false := by kernel_rfl
theorem si21 : sizeT Tryd.prog 21 = 1 := by kernel_rfl
theorem sz21 : szT Tryd.prog 21 = some 1 := by kernel_rfl
theorem by21 : bytesT Tryd.prog 21 = 4 := by kernel_rfl
theorem in21 : intT Tryd.prog 21 = some .i32 := by kernel_rfl
theorem zv21 : zeroV Tryd.prog 21 = some (.int .i32 0) := by kernel_rfl
theorem ze21 : zeroT Tryd.prog 21 = some [.int .i32 0] := by kernel_rfl
theorem kt22 : kindT Tryd.prog 22 = some 3 := by kernel_rfl
theorem kt23 : kindT Tryd.prog 23 = some 3 := by kernel_rfl
theorem ag24 : aggT Tryd.prog 24 = some true := by kernel_rfl
theorem si24 : sizeT Tryd.prog 24 = 2 := by kernel_rfl
theorem sz24 : szT Tryd.prog 24 = some 2 := by kernel_rfl
theorem by24 : bytesT Tryd.prog 24 = 16 := by kernel_rfl
theorem eq24 : eqT Tryd.prog 24 = some [(0, 0), (1, 0)] := by kernel_rfl
theorem str24 : structT Tryd.prog 24 = true := by kernel_rfl
theorem fi24_0 : fieldT Tryd.prog 24 0 = some (0, 2) := by kernel_rfl
theorem fi24_1 : fieldT Tryd.prog 24 1 = some (1, 2) := by kernel_rfl
theorem ze24 : zeroT Tryd.prog 24 = some [.int .i64 0, .int .i64 0] := by kernel_rfl
theorem ag25 : aggT Tryd.prog 25 = some true := by kernel_rfl
theorem si25 : sizeT Tryd.prog 25 = 2 := by kernel_rfl
theorem sz25 : szT Tryd.prog 25 = some 2 := by kernel_rfl
theorem by25 : bytesT Tryd.prog 25 = 16 := by kernel_rfl
theorem eq25 : eqT Tryd.prog 25 = some [(0, 0), (1, 0)] := by kernel_rfl
theorem str25 : structT Tryd.prog 25 = true := by kernel_rfl
theorem fi25_0 : fieldT Tryd.prog 25 0 = some (0, 2) := by kernel_rfl
theorem fi25_1 : fieldT Tryd.prog 25 1 = some (1, 2) := by kernel_rfl
theorem ze25 : zeroT Tryd.prog 25 = some [.int .i64 0, .int .i64 0] := by kernel_rfl
theorem kt26 : kindT Tryd.prog 26 = some 3 := by kernel_rfl
theorem ag27 : aggT Tryd.prog 27 = some true := by kernel_rfl
theorem si27 : sizeT Tryd.prog 27 = 2 := by kernel_rfl
theorem sz27 : szT Tryd.prog 27 = some 2 := by kernel_rfl
theorem by27 : bytesT Tryd.prog 27 = 16 := by kernel_rfl
theorem eq27 : eqT Tryd.prog 27 = some [(0, 0), (1, 0)] := by kernel_rfl
theorem str27 : structT Tryd.prog 27 = true := by kernel_rfl
theorem fi27_0 : fieldT Tryd.prog 27 0 = some (0, 2) := by kernel_rfl
theorem fi27_1 : fieldT Tryd.prog 27 1 = some (1, 2) := by kernel_rfl
theorem ze27 : zeroT Tryd.prog 27 = some [.int .i64 0, .int .i64 0] := by kernel_rfl
theorem kt28 : kindT Tryd.prog 28 = some 3 := by kernel_rfl
theorem kt29 : kindT Tryd.prog 29 = some 3 := by kernel_rfl
theorem kt30 : kindT Tryd.prog 30 = some 3 := by kernel_rfl
theorem ag31 : aggT Tryd.prog 31 = some false := by kernel_rfl
theorem el31 : elemT Tryd.prog 31 = some 5 := by kernel_rfl
theorem si31 : sizeT Tryd.prog 31 = 1 := by kernel_rfl
theorem sz31 : szT Tryd.prog 31 = some 1 := by kernel_rfl
theorem by31 : bytesT Tryd.prog 31 = 24 := by kernel_rfl
theorem kt31 : kindT Tryd.prog 31 = some 0 := by kernel_rfl
theorem zv31 : zeroV Tryd.prog 31 = some (.slice none 0 0) := by kernel_rfl
theorem ze31 : zeroT Tryd.prog 31 = some [.slice none 0 0] := by kernel_rfl
theorem kt32 : kindT Tryd.prog 32 = some 3 := by kernel_rfl
theorem kt33 : kindT Tryd.prog 33 = some 3 := by kernel_rfl
theorem ag34 : aggT Tryd.prog 34 = some true := by kernel_rfl
theorem si34 : sizeT Tryd.prog 34 = 24 := by kernel_rfl
theorem sz34 : szT Tryd.prog 34 = some 24 := by kernel_rfl
theorem by34 : bytesT Tryd.prog 34 = 24 := by kernel_rfl
theorem ag35 : aggT Tryd.prog 35 = some false := by kernel_rfl
theorem si35 : sizeT Tryd.prog 35 = 1 := by kernel_rfl
theorem sz35 : szT Tryd.prog 35 = some 1 := by kernel_rfl
theorem by35 : bytesT Tryd.prog 35 = 8 := by kernel_rfl
theorem in35 : intT Tryd.prog 35 = some .u64 := by kernel_rfl
theorem zv35 : zeroV Tryd.prog 35 = some (.int .u64 0) := by kernel_rfl
theorem ze35 : zeroT Tryd.prog 35 = some [.int .u64 0] := by kernel_rfl
theorem kt36 : kindT Tryd.prog 36 = some 3 := by kernel_rfl
theorem kt37 : kindT Tryd.prog 37 = some 3 := by kernel_rfl
theorem kt39 : kindT Tryd.prog 39 = some 3 := by kernel_rfl
theorem kt40 : kindT Tryd.prog 40 = some 3 := by kernel_rfl
theorem kt41 : kindT Tryd.prog 41 = some 3 := by kernel_rfl
theorem ag42 : aggT Tryd.prog 42 = some true := by kernel_rfl
theorem si42 : sizeT Tryd.prog 42 = 20 := by kernel_rfl
theorem sz42 : szT Tryd.prog 42 = some 20 := by kernel_rfl
theorem by42 : bytesT Tryd.prog 42 = 160 := by kernel_rfl
theorem ag43 : aggT Tryd.prog 43 = some false := by kernel_rfl
theorem si43 : sizeT Tryd.prog 43 = 1 := by kernel_rfl
theorem sz43 : szT Tryd.prog 43 = some 1 := by kernel_rfl
theorem by43 : bytesT Tryd.prog 43 = 4 := by kernel_rfl
theorem in43 : intT Tryd.prog 43 = some .u32 := by kernel_rfl
theorem zv43 : zeroV Tryd.prog 43 = some (.int .u32 0) := by kernel_rfl
theorem ze43 : zeroT Tryd.prog 43 = some [.int .u32 0] := by kernel_rfl
theorem ag44 : aggT Tryd.prog 44 = some true := by kernel_rfl
theorem si44 : sizeT Tryd.prog 44 = 65 := by kernel_rfl
theorem sz44 : szT Tryd.prog 44 = some 65 := by kernel_rfl
theorem by44 : bytesT Tryd.prog 44 = 65 := by kernel_rfl
theorem kt45 : kindT Tryd.prog 45 = some 3 := by kernel_rfl
theorem ag46 : aggT Tryd.prog 46 = some false := by kernel_rfl
theorem si46 : sizeT Tryd.prog 46 = 1 := by kernel_rfl
theorem sz46 : szT Tryd.prog 46 = some 1 := by kernel_rfl
theorem by46 : bytesT Tryd.prog 46 = 8 := by kernel_rfl
theorem in46 : intT Tryd.prog 46 = some .u64 := by kernel_rfl
theorem zv46 : zeroV Tryd.prog 46 = some (.int .u64 0) := by kernel_rfl
theorem ze46 : zeroT Tryd.prog 46 = some [.int .u64 0] := by kernel_rfl
theorem kt47 : kindT Tryd.prog 47 = some 3 := by kernel_rfl
theorem kt48 : kindT Tryd.prog 48 = some 3 := by kernel_rfl
theorem ag49 : aggT Tryd.prog 49 = some true := by kernel_rfl
theorem si49 : sizeT Tryd.prog 49 = 32 := by kernel_rfl
theorem sz49 : szT Tryd.prog 49 = some 32 := by kernel_rfl
theorem by49 : bytesT Tryd.prog 49 = 32 := by kernel_rfl
theorem ag50 : aggT Tryd.prog 50 = some true := by kernel_rfl
theorem si50 : sizeT Tryd.prog 50 = 64 := by kernel_rfl
theorem sz50 : szT Tryd.prog 50 = some 64 := by kernel_rfl
theorem by50 : bytesT Tryd.prog 50 = 64 := by kernel_rfl
theorem kt51 : kindT Tryd.prog 51 = some 3 := by kernel_rfl
theorem ag52 : aggT Tryd.prog 52 = some true := by kernel_rfl
theorem si52 : sizeT Tryd.prog 52 = 4 := by kernel_rfl
theorem sz52 : szT Tryd.prog 52 = some 4 := by kernel_rfl
theorem by52 : bytesT Tryd.prog 52 = 40 := by kernel_rfl
theorem str52 : structT Tryd.prog 52 = true := by kernel_rfl
theorem fi52_0 : fieldT Tryd.prog 52 0 = some (0, 17) := by kernel_rfl
theorem fi52_1 : fieldT Tryd.prog 52 1 = some (1, 17) := by kernel_rfl
theorem fi52_2 : fieldT Tryd.prog 52 2 = some (2, 17) := by kernel_rfl
theorem fi52_3 : fieldT Tryd.prog 52 3 = some (3, 9) := by kernel_rfl
theorem ze52 : zeroT Tryd.prog 52 = some [.pointer none, .pointer none, .pointer none, .string ⟨#[]⟩] := by kernel_rfl
theorem ag53 : aggT Tryd.prog 53 = some true := by kernel_rfl
theorem si53 : sizeT Tryd.prog 53 = 4 := by kernel_rfl
theorem sz53 : szT Tryd.prog 53 = some 4 := by kernel_rfl
theorem by53 : bytesT Tryd.prog 53 = 40 := by kernel_rfl
theorem str53 : structT Tryd.prog 53 = true := by kernel_rfl
theorem fi53_0 : fieldT Tryd.prog 53 0 = some (0, 17) := by kernel_rfl
theorem fi53_1 : fieldT Tryd.prog 53 1 = some (1, 17) := by kernel_rfl
theorem fi53_2 : fieldT Tryd.prog 53 2 = some (2, 17) := by kernel_rfl
theorem fi53_3 : fieldT Tryd.prog 53 3 = some (3, 9) := by kernel_rfl
theorem ze53 : zeroT Tryd.prog 53 = some [.pointer none, .pointer none, .pointer none, .string ⟨#[]⟩] := by kernel_rfl
theorem ag54 : aggT Tryd.prog 54 = some true := by kernel_rfl
theorem si54 : sizeT Tryd.prog 54 = 0 := by kernel_rfl
theorem sz54 : szT Tryd.prog 54 = some 0 := by kernel_rfl
theorem by54 : bytesT Tryd.prog 54 = 0 := by kernel_rfl
theorem ag55 : aggT Tryd.prog 55 = some true := by kernel_rfl
theorem si55 : sizeT Tryd.prog 55 = 0 := by kernel_rfl
theorem sz55 : szT Tryd.prog 55 = some 0 := by kernel_rfl
theorem by55 : bytesT Tryd.prog 55 = 0 := by kernel_rfl
theorem str55 : structT Tryd.prog 55 = true := by kernel_rfl
theorem ag56 : aggT Tryd.prog 56 = some true := by kernel_rfl
theorem si56 : sizeT Tryd.prog 56 = 0 := by kernel_rfl
theorem sz56 : szT Tryd.prog 56 = some 0 := by kernel_rfl
theorem by56 : bytesT Tryd.prog 56 = 0 := by kernel_rfl
theorem str56 : structT Tryd.prog 56 = true := by kernel_rfl
theorem kt57 : kindT Tryd.prog 57 = some 3 := by kernel_rfl
theorem ag58 : aggT Tryd.prog 58 = some false := by kernel_rfl
theorem si58 : sizeT Tryd.prog 58 = 1 := by kernel_rfl
theorem sz58 : szT Tryd.prog 58 = some 1 := by kernel_rfl
theorem by58 : bytesT Tryd.prog 58 = 1 := by kernel_rfl
theorem in58 : intT Tryd.prog 58 = some .u8 := by kernel_rfl
theorem zv58 : zeroV Tryd.prog 58 = some (.int .u8 0) := by kernel_rfl
theorem ze58 : zeroT Tryd.prog 58 = some [.int .u8 0] := by kernel_rfl
theorem ag59 : aggT Tryd.prog 59 = some false := by kernel_rfl
theorem si59 : sizeT Tryd.prog 59 = 1 := by kernel_rfl
theorem sz59 : szT Tryd.prog 59 = some 1 := by kernel_rfl
theorem by59 : bytesT Tryd.prog 59 = 1 := by kernel_rfl
theorem in59 : intT Tryd.prog 59 = some .u8 := by kernel_rfl
theorem zv59 : zeroV Tryd.prog 59 = some (.int .u8 0) := by kernel_rfl
theorem ze59 : zeroT Tryd.prog 59 = some [.int .u8 0] := by kernel_rfl
theorem kt60 : kindT Tryd.prog 60 = some 3 := by kernel_rfl
theorem ag61 : aggT Tryd.prog 61 = some false := by kernel_rfl
theorem si61 : sizeT Tryd.prog 61 = 1 := by kernel_rfl
theorem sz61 : szT Tryd.prog 61 = some 1 := by kernel_rfl
theorem by61 : bytesT Tryd.prog 61 = 8 := by kernel_rfl
theorem kt61 : kindT Tryd.prog 61 = some 1 := by kernel_rfl
theorem zv61 : zeroV Tryd.prog 61 = some (.pointer none) := by kernel_rfl
theorem ze61 : zeroT Tryd.prog 61 = some [.pointer none] := by kernel_rfl
theorem ag62 : aggT Tryd.prog 62 = some false := by kernel_rfl
theorem si62 : sizeT Tryd.prog 62 = 1 := by kernel_rfl
theorem sz62 : szT Tryd.prog 62 = some 1 := by kernel_rfl
theorem by62 : bytesT Tryd.prog 62 = 4 := by kernel_rfl
theorem in62 : intT Tryd.prog 62 = some .i32 := by kernel_rfl
theorem zv62 : zeroV Tryd.prog 62 = some (.int .i32 0) := by kernel_rfl
theorem ze62 : zeroT Tryd.prog 62 = some [.int .i32 0] := by kernel_rfl
theorem ag63 : aggT Tryd.prog 63 = some false := by kernel_rfl
theorem si63 : sizeT Tryd.prog 63 = 1 := by kernel_rfl
theorem sz63 : szT Tryd.prog 63 = some 1 := by kernel_rfl
theorem by63 : bytesT Tryd.prog 63 = 4 := by kernel_rfl
theorem in63 : intT Tryd.prog 63 = some .i32 := by kernel_rfl
theorem zv63 : zeroV Tryd.prog 63 = some (.int .i32 0) := by kernel_rfl
theorem ze63 : zeroT Tryd.prog 63 = some [.int .i32 0] := by kernel_rfl
theorem ag64 : aggT Tryd.prog 64 = some true := by kernel_rfl
theorem si64 : sizeT Tryd.prog 64 = 11 := by kernel_rfl
theorem sz64 : szT Tryd.prog 64 = some 11 := by kernel_rfl
theorem by64 : bytesT Tryd.prog 64 = 48 := by kernel_rfl
theorem str64 : structT Tryd.prog 64 = true := by kernel_rfl
theorem fi64_0 : fieldT Tryd.prog 64 0 = some (0, 12) := by kernel_rfl
theorem fi64_1 : fieldT Tryd.prog 64 1 = some (1, 12) := by kernel_rfl
theorem fi64_2 : fieldT Tryd.prog 64 2 = some (2, 43) := by kernel_rfl
theorem fi64_3 : fieldT Tryd.prog 64 3 = some (3, 58) := by kernel_rfl
theorem fi64_4 : fieldT Tryd.prog 64 4 = some (4, 5) := by kernel_rfl
theorem fi64_5 : fieldT Tryd.prog 64 5 = some (5, 5) := by kernel_rfl
theorem fi64_6 : fieldT Tryd.prog 64 6 = some (6, 59) := by kernel_rfl
theorem fi64_7 : fieldT Tryd.prog 64 7 = some (7, 60) := by kernel_rfl
theorem fi64_8 : fieldT Tryd.prog 64 8 = some (8, 61) := by kernel_rfl
theorem fi64_9 : fieldT Tryd.prog 64 9 = some (9, 62) := by kernel_rfl
theorem fi64_10 : fieldT Tryd.prog 64 10 = some (10, 63) := by kernel_rfl
theorem ag65 : aggT Tryd.prog 65 = some true := by kernel_rfl
theorem si65 : sizeT Tryd.prog 65 = 11 := by kernel_rfl
theorem sz65 : szT Tryd.prog 65 = some 11 := by kernel_rfl
theorem by65 : bytesT Tryd.prog 65 = 48 := by kernel_rfl
theorem str65 : structT Tryd.prog 65 = true := by kernel_rfl
theorem fi65_0 : fieldT Tryd.prog 65 0 = some (0, 12) := by kernel_rfl
theorem fi65_1 : fieldT Tryd.prog 65 1 = some (1, 12) := by kernel_rfl
theorem fi65_2 : fieldT Tryd.prog 65 2 = some (2, 43) := by kernel_rfl
theorem fi65_3 : fieldT Tryd.prog 65 3 = some (3, 58) := by kernel_rfl
theorem fi65_4 : fieldT Tryd.prog 65 4 = some (4, 5) := by kernel_rfl
theorem fi65_5 : fieldT Tryd.prog 65 5 = some (5, 5) := by kernel_rfl
theorem fi65_6 : fieldT Tryd.prog 65 6 = some (6, 59) := by kernel_rfl
theorem fi65_7 : fieldT Tryd.prog 65 7 = some (7, 60) := by kernel_rfl
theorem fi65_8 : fieldT Tryd.prog 65 8 = some (8, 61) := by kernel_rfl
theorem fi65_9 : fieldT Tryd.prog 65 9 = some (9, 62) := by kernel_rfl
theorem fi65_10 : fieldT Tryd.prog 65 10 = some (10, 63) := by kernel_rfl
theorem tyF : type_of% (And.intro (And.intro (And.intro (And.intro (And.intro (And.intro (And.intro (And.intro (kt1) (ag2)) (And.intro (si2) (And.intro (sz2) (by2)))) (And.intro
  (And.intro (in2) (zv2)) (And.intro (ze2) (And.intro (ag3) (si3))))) (And.intro (And.intro (And.intro (sz3) (by3)) (And.intro (in3) (And.intro (zv3) (ze3)))) (And.intro (And.intro
  (ag4) (And.intro (si4) (sz4))) (And.intro (by4) (And.intro (bo4) (zv4)))))) (And.intro (And.intro (And.intro (And.intro (ze4) (ag5)) (And.intro (si5) (And.intro (sz5) (by5))))
  (And.intro (And.intro (in5) (zv5)) (And.intro (ze5) (And.intro (ag6) (si6))))) (And.intro (And.intro (And.intro (sz6) (by6)) (And.intro (in6) (And.intro (zv6) (ze6)))) (And.intro
  (And.intro (ag7) (And.intro (si7) (sz7))) (And.intro (by7) (And.intro (str7) (fi7_0))))))) (And.intro (And.intro (And.intro (And.intro (And.intro (fi7_1) (fi7_2)) (And.intro
  (fi7_3) (And.intro (ze7) (ag8)))) (And.intro (And.intro (si8) (sz8)) (And.intro (by8) (And.intro (str8) (fi8_0))))) (And.intro (And.intro (And.intro (fi8_1) (fi8_2)) (And.intro
  (fi8_3) (And.intro (ze8) (ag9)))) (And.intro (And.intro (si9) (And.intro (sz9) (by9))) (And.intro (st9) (And.intro (zv9) (ze9)))))) (And.intro (And.intro (And.intro (And.intro
  (ag10) (si10)) (And.intro (sz10) (And.intro (by10) (st10)))) (And.intro (And.intro (zv10) (ze10)) (And.intro (ag11) (And.intro (si11) (sz11))))) (And.intro (And.intro (And.intro
  (by11) (st11)) (And.intro (zv11) (And.intro (ze11) (ag12)))) (And.intro (And.intro (si12) (And.intro (sz12) (by12))) (And.intro (in12) (And.intro (zv12) (ze12)))))))) (And.intro
  (And.intro (And.intro (And.intro (And.intro (And.intro (ag13) (si13)) (And.intro (sz13) (And.intro (by13) (str13)))) (And.intro (And.intro (fi13_0) (fi13_1)) (And.intro (ze13)
  (And.intro (ag14) (si14))))) (And.intro (And.intro (And.intro (sz14) (by14)) (And.intro (str14) (And.intro (fi14_0) (fi14_1)))) (And.intro (And.intro (ze14) (And.intro (ag15)
  (si15))) (And.intro (sz15) (And.intro (by15) (kt15)))))) (And.intro (And.intro (And.intro (And.intro (zv15) (ze15)) (And.intro (ag16) (And.intro (si16) (sz16)))) (And.intro
  (And.intro (by16) (kt16)) (And.intro (zv16) (And.intro (ze16) (ag17))))) (And.intro (And.intro (And.intro (si17) (sz17)) (And.intro (by17) (And.intro (kt17) (zv17)))) (And.intro
  (And.intro (ze17) (And.intro (ag18) (si18))) (And.intro (sz18) (And.intro (by18) (str18))))))) (And.intro (And.intro (And.intro (And.intro (And.intro (fi18_0) (ze18)) (And.intro
  (ag19) (And.intro (si19) (sz19)))) (And.intro (And.intro (by19) (str19)) (And.intro (fi19_0) (And.intro (ze19) (kt20))))) (And.intro (And.intro (And.intro (ag21) (si21))
  (And.intro (sz21) (And.intro (by21) (in21)))) (And.intro (And.intro (zv21) (And.intro (ze21) (kt22))) (And.intro (kt23) (And.intro (ag24) (si24)))))) (And.intro (And.intro
  (And.intro (And.intro (sz24) (by24)) (And.intro (eq24) (And.intro (str24) (fi24_0)))) (And.intro (And.intro (fi24_1) (And.intro (ze24) (ag25))) (And.intro (si25) (And.intro (sz25)
  (by25))))) (And.intro (And.intro (And.intro (eq25) (str25)) (And.intro (fi25_0) (And.intro (fi25_1) (ze25)))) (And.intro (And.intro (kt26) (And.intro (ag27) (si27))) (And.intro
  (sz27) (And.intro (by27) (eq27))))))))) (And.intro (And.intro (And.intro (And.intro (And.intro (And.intro (And.intro (str27) (fi27_0)) (And.intro (fi27_1) (And.intro (ze27)
  (kt28)))) (And.intro (And.intro (kt29) (kt30)) (And.intro (ag31) (And.intro (el31) (si31))))) (And.intro (And.intro (And.intro (sz31) (by31)) (And.intro (kt31) (And.intro (zv31)
  (ze31)))) (And.intro (And.intro (kt32) (And.intro (kt33) (ag34))) (And.intro (si34) (And.intro (sz34) (by34)))))) (And.intro (And.intro (And.intro (And.intro (ag35) (si35))
  (And.intro (sz35) (And.intro (by35) (in35)))) (And.intro (And.intro (zv35) (ze35)) (And.intro (kt36) (And.intro (kt37) (kt39))))) (And.intro (And.intro (And.intro (kt40) (kt41))
  (And.intro (ag42) (And.intro (si42) (sz42)))) (And.intro (And.intro (by42) (And.intro (ag43) (si43))) (And.intro (sz43) (And.intro (by43) (in43))))))) (And.intro (And.intro
  (And.intro (And.intro (And.intro (zv43) (ze43)) (And.intro (ag44) (And.intro (si44) (sz44)))) (And.intro (And.intro (by44) (kt45)) (And.intro (ag46) (And.intro (si46) (sz46)))))
  (And.intro (And.intro (And.intro (by46) (in46)) (And.intro (zv46) (And.intro (ze46) (kt47)))) (And.intro (And.intro (kt48) (And.intro (ag49) (si49))) (And.intro (sz49) (And.intro
  (by49) (ag50)))))) (And.intro (And.intro (And.intro (And.intro (si50) (sz50)) (And.intro (by50) (And.intro (kt51) (ag52)))) (And.intro (And.intro (si52) (And.intro (sz52) (by52)))
  (And.intro (str52) (And.intro (fi52_0) (fi52_1))))) (And.intro (And.intro (And.intro (fi52_2) (fi52_3)) (And.intro (ze52) (And.intro (ag53) (si53)))) (And.intro (And.intro (sz53)
  (And.intro (by53) (str53))) (And.intro (fi53_0) (And.intro (fi53_1) (fi53_2)))))))) (And.intro (And.intro (And.intro (And.intro (And.intro (And.intro (fi53_3) (ze53)) (And.intro
  (ag54) (And.intro (si54) (sz54)))) (And.intro (And.intro (by54) (ag55)) (And.intro (si55) (And.intro (sz55) (by55))))) (And.intro (And.intro (And.intro (str55) (ag56)) (And.intro
  (si56) (And.intro (sz56) (by56)))) (And.intro (And.intro (str56) (And.intro (kt57) (ag58))) (And.intro (si58) (And.intro (sz58) (by58)))))) (And.intro (And.intro (And.intro
  (And.intro (in58) (zv58)) (And.intro (ze58) (And.intro (ag59) (si59)))) (And.intro (And.intro (sz59) (by59)) (And.intro (in59) (And.intro (zv59) (ze59))))) (And.intro (And.intro
  (And.intro (kt60) (ag61)) (And.intro (si61) (And.intro (sz61) (by61)))) (And.intro (And.intro (kt61) (And.intro (zv61) (ze61))) (And.intro (ag62) (And.intro (si62) (sz62)))))))
  (And.intro (And.intro (And.intro (And.intro (And.intro (by62) (in62)) (And.intro (zv62) (And.intro (ze62) (ag63)))) (And.intro (And.intro (si63) (sz63)) (And.intro (by63)
  (And.intro (in63) (zv63))))) (And.intro (And.intro (And.intro (ze63) (ag64)) (And.intro (si64) (And.intro (sz64) (by64)))) (And.intro (And.intro (str64) (And.intro (fi64_0)
  (fi64_1))) (And.intro (fi64_2) (And.intro (fi64_3) (fi64_4)))))) (And.intro (And.intro (And.intro (And.intro (fi64_5) (fi64_6)) (And.intro (fi64_7) (And.intro (fi64_8) (fi64_9))))
  (And.intro (And.intro (fi64_10) (And.intro (ag65) (si65))) (And.intro (sz65) (And.intro (by65) (str65))))) (And.intro (And.intro (And.intro (fi65_0) (fi65_1)) (And.intro (fi65_2)
  (And.intro (fi65_3) (fi65_4)))) (And.intro (And.intro (fi65_5) (And.intro (fi65_6) (fi65_7))) (And.intro (fi65_8) (And.intro (fi65_9) (fi65_10)))))))))) := And.intro (And.intro
  (And.intro (And.intro (And.intro (And.intro (And.intro (And.intro (kt1) (ag2)) (And.intro (si2) (And.intro (sz2) (by2)))) (And.intro (And.intro (in2) (zv2)) (And.intro (ze2)
  (And.intro (ag3) (si3))))) (And.intro (And.intro (And.intro (sz3) (by3)) (And.intro (in3) (And.intro (zv3) (ze3)))) (And.intro (And.intro (ag4) (And.intro (si4) (sz4))) (And.intro
  (by4) (And.intro (bo4) (zv4)))))) (And.intro (And.intro (And.intro (And.intro (ze4) (ag5)) (And.intro (si5) (And.intro (sz5) (by5)))) (And.intro (And.intro (in5) (zv5)) (And.intro
  (ze5) (And.intro (ag6) (si6))))) (And.intro (And.intro (And.intro (sz6) (by6)) (And.intro (in6) (And.intro (zv6) (ze6)))) (And.intro (And.intro (ag7) (And.intro (si7) (sz7)))
  (And.intro (by7) (And.intro (str7) (fi7_0))))))) (And.intro (And.intro (And.intro (And.intro (And.intro (fi7_1) (fi7_2)) (And.intro (fi7_3) (And.intro (ze7) (ag8)))) (And.intro
  (And.intro (si8) (sz8)) (And.intro (by8) (And.intro (str8) (fi8_0))))) (And.intro (And.intro (And.intro (fi8_1) (fi8_2)) (And.intro (fi8_3) (And.intro (ze8) (ag9)))) (And.intro
  (And.intro (si9) (And.intro (sz9) (by9))) (And.intro (st9) (And.intro (zv9) (ze9)))))) (And.intro (And.intro (And.intro (And.intro (ag10) (si10)) (And.intro (sz10) (And.intro
  (by10) (st10)))) (And.intro (And.intro (zv10) (ze10)) (And.intro (ag11) (And.intro (si11) (sz11))))) (And.intro (And.intro (And.intro (by11) (st11)) (And.intro (zv11) (And.intro
  (ze11) (ag12)))) (And.intro (And.intro (si12) (And.intro (sz12) (by12))) (And.intro (in12) (And.intro (zv12) (ze12)))))))) (And.intro (And.intro (And.intro (And.intro (And.intro
  (And.intro (ag13) (si13)) (And.intro (sz13) (And.intro (by13) (str13)))) (And.intro (And.intro (fi13_0) (fi13_1)) (And.intro (ze13) (And.intro (ag14) (si14))))) (And.intro
  (And.intro (And.intro (sz14) (by14)) (And.intro (str14) (And.intro (fi14_0) (fi14_1)))) (And.intro (And.intro (ze14) (And.intro (ag15) (si15))) (And.intro (sz15) (And.intro (by15)
  (kt15)))))) (And.intro (And.intro (And.intro (And.intro (zv15) (ze15)) (And.intro (ag16) (And.intro (si16) (sz16)))) (And.intro (And.intro (by16) (kt16)) (And.intro (zv16)
  (And.intro (ze16) (ag17))))) (And.intro (And.intro (And.intro (si17) (sz17)) (And.intro (by17) (And.intro (kt17) (zv17)))) (And.intro (And.intro (ze17) (And.intro (ag18) (si18)))
  (And.intro (sz18) (And.intro (by18) (str18))))))) (And.intro (And.intro (And.intro (And.intro (And.intro (fi18_0) (ze18)) (And.intro (ag19) (And.intro (si19) (sz19)))) (And.intro
  (And.intro (by19) (str19)) (And.intro (fi19_0) (And.intro (ze19) (kt20))))) (And.intro (And.intro (And.intro (ag21) (si21)) (And.intro (sz21) (And.intro (by21) (in21))))
  (And.intro (And.intro (zv21) (And.intro (ze21) (kt22))) (And.intro (kt23) (And.intro (ag24) (si24)))))) (And.intro (And.intro (And.intro (And.intro (sz24) (by24)) (And.intro
  (eq24) (And.intro (str24) (fi24_0)))) (And.intro (And.intro (fi24_1) (And.intro (ze24) (ag25))) (And.intro (si25) (And.intro (sz25) (by25))))) (And.intro (And.intro (And.intro
  (eq25) (str25)) (And.intro (fi25_0) (And.intro (fi25_1) (ze25)))) (And.intro (And.intro (kt26) (And.intro (ag27) (si27))) (And.intro (sz27) (And.intro (by27) (eq27)))))))))
  (And.intro (And.intro (And.intro (And.intro (And.intro (And.intro (And.intro (str27) (fi27_0)) (And.intro (fi27_1) (And.intro (ze27) (kt28)))) (And.intro (And.intro (kt29) (kt30))
  (And.intro (ag31) (And.intro (el31) (si31))))) (And.intro (And.intro (And.intro (sz31) (by31)) (And.intro (kt31) (And.intro (zv31) (ze31)))) (And.intro (And.intro (kt32)
  (And.intro (kt33) (ag34))) (And.intro (si34) (And.intro (sz34) (by34)))))) (And.intro (And.intro (And.intro (And.intro (ag35) (si35)) (And.intro (sz35) (And.intro (by35) (in35))))
  (And.intro (And.intro (zv35) (ze35)) (And.intro (kt36) (And.intro (kt37) (kt39))))) (And.intro (And.intro (And.intro (kt40) (kt41)) (And.intro (ag42) (And.intro (si42) (sz42))))
  (And.intro (And.intro (by42) (And.intro (ag43) (si43))) (And.intro (sz43) (And.intro (by43) (in43))))))) (And.intro (And.intro (And.intro (And.intro (And.intro (zv43) (ze43))
  (And.intro (ag44) (And.intro (si44) (sz44)))) (And.intro (And.intro (by44) (kt45)) (And.intro (ag46) (And.intro (si46) (sz46))))) (And.intro (And.intro (And.intro (by46) (in46))
  (And.intro (zv46) (And.intro (ze46) (kt47)))) (And.intro (And.intro (kt48) (And.intro (ag49) (si49))) (And.intro (sz49) (And.intro (by49) (ag50)))))) (And.intro (And.intro
  (And.intro (And.intro (si50) (sz50)) (And.intro (by50) (And.intro (kt51) (ag52)))) (And.intro (And.intro (si52) (And.intro (sz52) (by52))) (And.intro (str52) (And.intro (fi52_0)
  (fi52_1))))) (And.intro (And.intro (And.intro (fi52_2) (fi52_3)) (And.intro (ze52) (And.intro (ag53) (si53)))) (And.intro (And.intro (sz53) (And.intro (by53) (str53))) (And.intro
  (fi53_0) (And.intro (fi53_1) (fi53_2)))))))) (And.intro (And.intro (And.intro (And.intro (And.intro (And.intro (fi53_3) (ze53)) (And.intro (ag54) (And.intro (si54) (sz54))))
  (And.intro (And.intro (by54) (ag55)) (And.intro (si55) (And.intro (sz55) (by55))))) (And.intro (And.intro (And.intro (str55) (ag56)) (And.intro (si56) (And.intro (sz56) (by56))))
  (And.intro (And.intro (str56) (And.intro (kt57) (ag58))) (And.intro (si58) (And.intro (sz58) (by58)))))) (And.intro (And.intro (And.intro (And.intro (in58) (zv58)) (And.intro
  (ze58) (And.intro (ag59) (si59)))) (And.intro (And.intro (sz59) (by59)) (And.intro (in59) (And.intro (zv59) (ze59))))) (And.intro (And.intro (And.intro (kt60) (ag61)) (And.intro
  (si61) (And.intro (sz61) (by61)))) (And.intro (And.intro (kt61) (And.intro (zv61) (ze61))) (And.intro (ag62) (And.intro (si62) (sz62))))))) (And.intro (And.intro (And.intro
  (And.intro (And.intro (by62) (in62)) (And.intro (zv62) (And.intro (ze62) (ag63)))) (And.intro (And.intro (si63) (sz63)) (And.intro (by63) (And.intro (in63) (zv63))))) (And.intro
  (And.intro (And.intro (ze63) (ag64)) (And.intro (si64) (And.intro (sz64) (by64)))) (And.intro (And.intro (str64) (And.intro (fi64_0) (fi64_1))) (And.intro (fi64_2) (And.intro
  (fi64_3) (fi64_4)))))) (And.intro (And.intro (And.intro (And.intro (fi64_5) (fi64_6)) (And.intro (fi64_7) (And.intro (fi64_8) (fi64_9)))) (And.intro (And.intro (fi64_10)
  (And.intro (ag65) (si65))) (And.intro (sz65) (And.intro (by65) (str65))))) (And.intro (And.intro (And.intro (fi65_0) (fi65_1)) (And.intro (fi65_2) (And.intro (fi65_3) (fi65_4))))
  (And.intro (And.intro (fi65_5) (And.intro (fi65_6) (fi65_7))) (And.intro (fi65_8) (And.intro (fi65_9) (fi65_10)))))))))
end Go.AM
