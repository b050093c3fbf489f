/-
  WHAT THE PROGRAM SAYS OF ITS TYPES, each fact by reckoning.
-/
import Derived.Test.YtbgofppkimokfaaM2Tool
import Derived.Test.YtbgofppkimokfaaProg
import Derived.Test.YtbgofppkimokfaaProg
set_option linter.unusedVariables false
set_option linter.unusedSimpArgs false
namespace Go.AM
open Go.Proofs
theorem mixed : Try.prog.follows .mixedOrders = true := by kernel_rfl
theorem kt1 : kindT Try.prog 1 = some 3 := by kernel_rfl
theorem ag2 : aggT Try.prog 2 = some false := by kernel_rfl
theorem si2 : sizeT Try.prog 2 = 1 := by kernel_rfl
theorem sz2 : szT Try.prog 2 = some 1 := by kernel_rfl
theorem by2 : bytesT Try.prog 2 = 8 := by kernel_rfl
theorem in2 : intT Try.prog 2 = some .i64 := by kernel_rfl
theorem zv2 : zeroV Try.prog 2 = some (.int .i64 0) := by kernel_rfl
theorem ze2 : zeroT Try.prog 2 = some [.int .i64 0] := by kernel_rfl
theorem ag3 : aggT Try.prog 3 = some false := by kernel_rfl
theorem si3 : sizeT Try.prog 3 = 1 := by kernel_rfl
theorem sz3 : szT Try.prog 3 = some 1 := by kernel_rfl
theorem by3 : bytesT Try.prog 3 = 8 := by kernel_rfl
theorem in3 : intT Try.prog 3 = some .i64 := by kernel_rfl
theorem zv3 : zeroV Try.prog 3 = some (.int .i64 0) := by kernel_rfl
theorem ze3 : zeroT Try.prog 3 = some [.int .i64 0] := by kernel_rfl
theorem ag4 : aggT Try.prog 4 = some false := by kernel_rfl
theorem si4 : sizeT Try.prog 4 = 1 := by kernel_rfl
theorem sz4 : szT Try.prog 4 = some 1 := by kernel_rfl
theorem by4 : bytesT Try.prog 4 = 1 := by kernel_rfl
theorem bo4 : boolT Try.prog 4 = true := by kernel_rfl
theorem zv4 : zeroV Try.prog 4 = some (.bool false) := by kernel_rfl
theorem ze4 : zeroT Try.prog 4 = some [.bool false] := by kernel_rfl
theorem ag5 : aggT Try.prog 5 = some false := by kernel_rfl
theorem si5 : sizeT Try.prog 5 = 1 := by kernel_rfl
theorem sz5 : szT Try.prog 5 = some 1 := by kernel_rfl
theorem by5 : bytesT Try.prog 5 = 1 := by kernel_rfl
theorem in5 : intT Try.prog 5 = some .u8 := by kernel_rfl
theorem zv5 : zeroV Try.prog 5 = some (.int .u8 0) := by kernel_rfl
theorem ze5 : zeroT Try.prog 5 = some [.int .u8 0] := by kernel_rfl
theorem ag6 : aggT Try.prog 6 = some false := by kernel_rfl
theorem si6 : sizeT Try.prog 6 = 1 := by kernel_rfl
theorem sz6 : szT Try.prog 6 = some 1 := by kernel_rfl
theorem by6 : bytesT Try.prog 6 = 1 := by kernel_rfl
theorem in6 : intT Try.prog 6 = some .u8 := by kernel_rfl
theorem zv6 : zeroV Try.prog 6 = some (.int .u8 0) := by kernel_rfl
theorem ze6 : zeroT Try.prog 6 = some [.int .u8 0] := by kernel_rfl
theorem ag7 : aggT Try.prog 7 = some true := by kernel_rfl
theorem si7 : sizeT Try.prog 7 = 4 := by kernel_rfl
theorem sz7 : szT Try.prog 7 = some 4 := by kernel_rfl
theorem by7 : bytesT Try.prog 7 = 24 := by kernel_rfl
theorem str7 : structT Try.prog 7 = true := by kernel_rfl
theorem fi7_0 : fieldT Try.prog 7 0 = some (0, 2) := by kernel_rfl
theorem fi7_1 : fieldT Try.prog 7 1 = some (1, 3) := by kernel_rfl
theorem fi7_2 : fieldT Try.prog 7 2 = some (2, 4) := by kernel_rfl
theorem fi7_3 : fieldT Try.prog 7 3 = some (3, 6) := by kernel_rfl
theorem ze7 : zeroT Try.prog 7 = some [.int .i64 0, .int .i64 0, .bool false, .int .u8 0] := by kernel_rfl
theorem ag8 : aggT Try.prog 8 = some true := by kernel_rfl
theorem si8 : sizeT Try.prog 8 = 4 := by kernel_rfl
theorem sz8 : szT Try.prog 8 = some 4 := by kernel_rfl
theorem by8 : bytesT Try.prog 8 = 24 := by kernel_rfl
theorem str8 : structT Try.prog 8 = true := by kernel_rfl
theorem fi8_0 : fieldT Try.prog 8 0 = some (0, 2) := by kernel_rfl
theorem fi8_1 : fieldT Try.prog 8 1 = some (1, 3) := by kernel_rfl
theorem fi8_2 : fieldT Try.prog 8 2 = some (2, 4) := by kernel_rfl
theorem fi8_3 : fieldT Try.prog 8 3 = some (3, 6) := by kernel_rfl
theorem ze8 : zeroT Try.prog 8 = some [.int .i64 0, .int .i64 0, .bool false, .int .u8 0] := by kernel_rfl
theorem ag9 : aggT Try.prog 9 = some false := by kernel_rfl
theorem si9 : sizeT Try.prog 9 = 1 := by kernel_rfl
theorem sz9 : szT Try.prog 9 = some 1 := by kernel_rfl
theorem by9 : bytesT Try.prog 9 = 16 := by kernel_rfl
theorem st9 : stringT Try.prog 9 = true := by kernel_rfl
theorem zv9 : zeroV Try.prog 9 = some (.string ⟨#[]⟩) := by kernel_rfl
theorem ze9 : zeroT Try.prog 9 = some [.string ⟨#[]⟩] := by kernel_rfl
theorem ag10 : aggT Try.prog 10 = some false := by kernel_rfl
theorem si10 : sizeT Try.prog 10 = 1 := by kernel_rfl
theorem sz10 : szT Try.prog 10 = some 1 := by kernel_rfl
theorem by10 : bytesT Try.prog 10 = 16 := by kernel_rfl
theorem st10 : stringT Try.prog 10 = true := by kernel_rfl
theorem zv10 : zeroV Try.prog 10 = some (.string ⟨#[]⟩) := by kernel_rfl
theorem ze10 : zeroT Try.prog 10 = some [.string ⟨#[]⟩] := by kernel_rfl
theorem ag11 : aggT Try.prog 11 = some false := by kernel_rfl
theorem si11 : sizeT Try.prog 11 = 1 := by kernel_rfl
theorem sz11 : szT Try.prog 11 = some 1 := by kernel_rfl
theorem by11 : bytesT Try.prog 11 = 16 := by kernel_rfl
theorem st11 : stringT Try.prog 11 = true := by kernel_rfl
theorem zv11 : zeroV Try.prog 11 = some (.string ⟨#[]⟩) := by kernel_rfl
theorem ze11 : zeroT Try.prog 11 = some [.string ⟨#[]⟩] := by kernel_rfl
theorem ag12 : aggT Try.prog 12 = some false := by kernel_rfl
theorem si12 : sizeT Try.prog 12 = 1 := by kernel_rfl
theorem sz12 : szT Try.prog 12 = some 1 := by kernel_rfl
theorem by12 : bytesT Try.prog 12 = 8 := by kernel_rfl
theorem in12 : intT Try.prog 12 = some .u64 := by kernel_rfl
theorem zv12 : zeroV Try.prog 12 = some (.int .u64 0) := by kernel_rfl
theorem ze12 : zeroT Try.prog 12 = some [.int .u64 0] := by kernel_rfl
theorem ag13 : aggT Try.prog 13 = some true := by kernel_rfl
theorem si13 : sizeT Try.prog 13 = 2 := by kernel_rfl
theorem sz13 : szT Try.prog 13 = some 2 := by kernel_rfl
theorem by13 : bytesT Try.prog 13 = 24 := by kernel_rfl
theorem str13 : structT Try.prog 13 = true := by kernel_rfl
theorem fi13_0 : fieldT Try.prog 13 0 = some (0, 9) := by kernel_rfl
theorem fi13_1 : fieldT Try.prog 13 1 = some (1, 12) := by kernel_rfl
theorem ze13 : zeroT Try.prog 13 = some [.string ⟨#[]⟩, .int .u64 0] := by kernel_rfl
theorem ag14 : aggT Try.prog 14 = some true := by kernel_rfl
theorem si14 : sizeT Try.prog 14 = 2 := by kernel_rfl
theorem sz14 : szT Try.prog 14 = some 2 := by kernel_rfl
theorem by14 : bytesT Try.prog 14 = 24 := by kernel_rfl
theorem str14 : structT Try.prog 14 = true := by kernel_rfl
theorem fi14_0 : fieldT Try.prog 14 0 = some (0, 9) := by kernel_rfl
theorem fi14_1 : fieldT Try.prog 14 1 = some (1, 12) := by kernel_rfl
theorem ze14 : zeroT Try.prog 14 = some [.string ⟨#[]⟩, .int .u64 0] := by kernel_rfl
theorem ag15 : aggT Try.prog 15 = some false := by kernel_rfl
theorem si15 : sizeT Try.prog 15 = 1 := by kernel_rfl
theorem sz15 : szT Try.prog 15 = some 1 := by kernel_rfl
theorem by15 : bytesT Try.prog 15 = 8 := by kernel_rfl
theorem kt15 : kindT Try.prog 15 = some 1 := by kernel_rfl
theorem zv15 : zeroV Try.prog 15 = some (.pointer none) := by kernel_rfl
theorem ze15 : zeroT Try.prog 15 = some [.pointer none] := by kernel_rfl
theorem ag16 : aggT Try.prog 16 = some false := by kernel_rfl
theorem si16 : sizeT Try.prog 16 = 1 := by kernel_rfl
theorem sz16 : szT Try.prog 16 = some 1 := by kernel_rfl
theorem by16 : bytesT Try.prog 16 = 8 := by kernel_rfl
theorem kt16 : kindT Try.prog 16 = some 1 := by kernel_rfl
theorem zv16 : zeroV Try.prog 16 = some (.pointer none) := by kernel_rfl
theorem ze16 : zeroT Try.prog 16 = some [.pointer none] := by kernel_rfl
theorem ag17 : aggT Try.prog 17 = some false := by kernel_rfl
theorem si17 : sizeT Try.prog 17 = 1 := by kernel_rfl
theorem sz17 : szT Try.prog 17 = some 1 := by kernel_rfl
theorem by17 : bytesT Try.prog 17 = 8 := by kernel_rfl
theorem kt17 : kindT Try.prog 17 = some 1 := by kernel_rfl
theorem zv17 : zeroV Try.prog 17 = some (.pointer none) := by kernel_rfl
theorem ze17 : zeroT Try.prog 17 = some [.pointer none] := by kernel_rfl
theorem ag18 : aggT Try.prog 18 = some true := by kernel_rfl
theorem si18 : sizeT Try.prog 18 = 1 := by kernel_rfl
theorem sz18 : szT Try.prog 18 = some 1 := by kernel_rfl
theorem by18 : bytesT Try.prog 18 = 8 := by kernel_rfl
theorem str18 : structT Try.prog 18 = true := by kernel_rfl
theorem fi18_0 : fieldT Try.prog 18 0 = some (0, 17) := by kernel_rfl
theorem ze18 : zeroT Try.prog 18 = some [.pointer none] := by kernel_rfl
theorem ag19 : aggT Try.prog 19 = some true := by kernel_rfl
theorem si19 : sizeT Try.prog 19 = 1 := by kernel_rfl
theorem sz19 : szT Try.prog 19 = some 1 := by kernel_rfl
theorem by19 : bytesT Try.prog 19 = 8 := by kernel_rfl
theorem str19 : structT Try.prog 19 = true := by kernel_rfl
theorem fi19_0 : fieldT Try.prog 19 0 = some (0, 17) := by kernel_rfl
theorem ze19 : zeroT Try.prog 19 = some [.pointer none] := by kernel_rfl
theorem kt20 : kindT Try.prog 20 = some 2 := by kernel_rfl
theorem ag21 : aggT Try.prog 21 = some false := by kernel_rfl
theorem si21 : sizeT Try.prog 21 = 1 := by kernel_rfl
theorem sz21 : szT Try.prog 21 = some 1 := by kernel_rfl
theorem by21 : bytesT Try.prog 21 = 4 := by kernel_rfl
theorem in21 : intT Try.prog 21 = some .i32 := by kernel_rfl
theorem zv21 : zeroV Try.prog 21 = some (.int .i32 0) := by kernel_rfl
theorem ze21 : zeroT Try.prog 21 = some [.int .i32 0] := by kernel_rfl
theorem ag22 : aggT Try.prog 22 = some false := by kernel_rfl
theorem el22 : elemT Try.prog 22 = some 94 := by kernel_rfl
theorem si22 : sizeT Try.prog 22 = 1 := by kernel_rfl
theorem sz22 : szT Try.prog 22 = some 1 := by kernel_rfl
theorem by22 : bytesT Try.prog 22 = 24 := by kernel_rfl
theorem kt22 : kindT Try.prog 22 = some 0 := by kernel_rfl
theorem zv22 : zeroV Try.prog 22 = some (.slice none 0 0) := by kernel_rfl
theorem ze22 : zeroT Try.prog 22 = some [.slice none 0 0] := by kernel_rfl
theorem ag23 : aggT Try.prog 23 = some false := by kernel_rfl
theorem el23 : elemT Try.prog 23 = some 86 := by kernel_rfl
theorem si23 : sizeT Try.prog 23 = 1 := by kernel_rfl
theorem sz23 : szT Try.prog 23 = some 1 := by kernel_rfl
theorem by23 : bytesT Try.prog 23 = 24 := by kernel_rfl
theorem kt23 : kindT Try.prog 23 = some 0 := by kernel_rfl
theorem zv23 : zeroV Try.prog 23 = some (.slice none 0 0) := by kernel_rfl
theorem ze23 : zeroT Try.prog 23 = some [.slice none 0 0] := by kernel_rfl
theorem kt24 : kindT Try.prog 24 = some 3 := by kernel_rfl
theorem kt25 : kindT Try.prog 25 = some 3 := by kernel_rfl
theorem kt26 : kindT Try.prog 26 = some 3 := by kernel_rfl
theorem ag27 : aggT Try.prog 27 = some false := by kernel_rfl
theorem el27 : elemT Try.prog 27 = some 91 := by kernel_rfl
theorem si27 : sizeT Try.prog 27 = 1 := by kernel_rfl
theorem sz27 : szT Try.prog 27 = some 1 := by kernel_rfl
theorem by27 : bytesT Try.prog 27 = 24 := by kernel_rfl
theorem kt27 : kindT Try.prog 27 = some 0 := by kernel_rfl
theorem zv27 : zeroV Try.prog 27 = some (.slice none 0 0) := by kernel_rfl
theorem ze27 : zeroT Try.prog 27 = some [.slice none 0 0] := by kernel_rfl
theorem kt28 : kindT Try.prog 28 = some 3 := by kernel_rfl
theorem ag29 : aggT Try.prog 29 = some false := by kernel_rfl
theorem el29 : elemT Try.prog 29 = some 92 := by kernel_rfl
theorem si29 : sizeT Try.prog 29 = 1 := by kernel_rfl
theorem sz29 : szT Try.prog 29 = some 1 := by kernel_rfl
theorem by29 : bytesT Try.prog 29 = 24 := by kernel_rfl
theorem kt29 : kindT Try.prog 29 = some 0 := by kernel_rfl
theorem zv29 : zeroV Try.prog 29 = some (.slice none 0 0) := by kernel_rfl
theorem ze29 : zeroT Try.prog 29 = some [.slice none 0 0] := by kernel_rfl
theorem kt30 : kindT Try.prog 30 = some 3 := by kernel_rfl
theorem kt31 : kindT Try.prog 31 = some 3 := by kernel_rfl
theorem kt32 : kindT Try.prog 32 = some 3 := by kernel_rfl
theorem kt33 : kindT Try.prog 33 = some 3 := by kernel_rfl
theorem ag34 : aggT Try.prog 34 = some false := by kernel_rfl
theorem el34 : elemT Try.prog 34 = some 2 := by kernel_rfl
theorem si34 : sizeT Try.prog 34 = 1 := by kernel_rfl
theorem sz34 : szT Try.prog 34 = some 1 := by kernel_rfl
theorem by34 : bytesT Try.prog 34 = 24 := by kernel_rfl
theorem kt34 : kindT Try.prog 34 = some 0 := by kernel_rfl
theorem zv34 : zeroV Try.prog 34 = some (.slice none 0 0) := by kernel_rfl
theorem ze34 : zeroT Try.prog 34 = some [.slice none 0 0] := by kernel_rfl
theorem kt36 : kindT Try.prog 36 = some 3 := by kernel_rfl
theorem kt37 : kindT Try.prog 37 = some 3 := by kernel_rfl
theorem kt38 : kindT Try.prog 38 = some 3 := by kernel_rfl
theorem kt39 : kindT Try.prog 39 = some 3 := by kernel_rfl
theorem kt40 : kindT Try.prog 40 = some 3 := by kernel_rfl
theorem kt41 : kindT Try.prog 41 = some 3 := by kernel_rfl
theorem kt43 : kindT Try.prog 43 = some 3 := by kernel_rfl
theorem kt44 : kindT Try.prog 44 = some 3 := by kernel_rfl
theorem kt45 : kindT Try.prog 45 = some 3 := by kernel_rfl
theorem kt46 : kindT Try.prog 46 = some 3 := by kernel_rfl
theorem kt47 : kindT Try.prog 47 = some 3 := by kernel_rfl
theorem kt48 : kindT Try.prog 48 = some 3 := by kernel_rfl
theorem ag49 : aggT Try.prog 49 = some false := by kernel_rfl
theorem el49 : elemT Try.prog 49 = some 23 := by kernel_rfl
theorem si49 : sizeT Try.prog 49 = 1 := by kernel_rfl
theorem sz49 : szT Try.prog 49 = some 1 := by kernel_rfl
theorem by49 : bytesT Try.prog 49 = 24 := by kernel_rfl
theorem kt49 : kindT Try.prog 49 = some 0 := by kernel_rfl
theorem zv49 : zeroV Try.prog 49 = some (.slice none 0 0) := by kernel_rfl
theorem ze49 : zeroT Try.prog 49 = some [.slice none 0 0] := by kernel_rfl
theorem ag50 : aggT Try.prog 50 = some true := by kernel_rfl
theorem si50 : sizeT Try.prog 50 = 3 := by kernel_rfl
theorem sz50 : szT Try.prog 50 = some 3 := by kernel_rfl
theorem by50 : bytesT Try.prog 50 = 64 := by kernel_rfl
theorem str50 : structT Try.prog 50 = true := by kernel_rfl
theorem fi50_0 : fieldT Try.prog 50 0 = some (0, 22) := by kernel_rfl
theorem fi50_1 : fieldT Try.prog 50 1 = some (1, 9) := by kernel_rfl
theorem fi50_2 : fieldT Try.prog 50 2 = some (2, 49) := by kernel_rfl
theorem ze50 : zeroT Try.prog 50 = some [.slice none 0 0, .string ⟨#[]⟩, .slice none 0 0] := by kernel_rfl
theorem ag51 : aggT Try.prog 51 = some true := by kernel_rfl
theorem si51 : sizeT Try.prog 51 = 3 := by kernel_rfl
theorem sz51 : szT Try.prog 51 = some 3 := by kernel_rfl
theorem by51 : bytesT Try.prog 51 = 64 := by kernel_rfl
theorem str51 : structT Try.prog 51 = true := by kernel_rfl
theorem fi51_0 : fieldT Try.prog 51 0 = some (0, 22) := by kernel_rfl
theorem fi51_1 : fieldT Try.prog 51 1 = some (1, 9) := by kernel_rfl
theorem fi51_2 : fieldT Try.prog 51 2 = some (2, 49) := by kernel_rfl
theorem ze51 : zeroT Try.prog 51 = some [.slice none 0 0, .string ⟨#[]⟩, .slice none 0 0] := by kernel_rfl
theorem kt52 : kindT Try.prog 52 = some 3 := by kernel_rfl
theorem kt53 : kindT Try.prog 53 = some 3 := by kernel_rfl
theorem ag54 : aggT Try.prog 54 = some false := by kernel_rfl
theorem el54 : elemT Try.prog 54 = some 29 := by kernel_rfl
theorem si54 : sizeT Try.prog 54 = 1 := by kernel_rfl
theorem sz54 : szT Try.prog 54 = some 1 := by kernel_rfl
theorem by54 : bytesT Try.prog 54 = 24 := by kernel_rfl
theorem kt54 : kindT Try.prog 54 = some 0 := by kernel_rfl
theorem zv54 : zeroV Try.prog 54 = some (.slice none 0 0) := by kernel_rfl
theorem ze54 : zeroT Try.prog 54 = some [.slice none 0 0] := by kernel_rfl
theorem ag55 : aggT Try.prog 55 = some true := by kernel_rfl
theorem si55 : sizeT Try.prog 55 = 3 := by kernel_rfl
theorem sz55 : szT Try.prog 55 = some 3 := by kernel_rfl
theorem by55 : bytesT Try.prog 55 = 64 := by kernel_rfl
theorem str55 : structT Try.prog 55 = true := by kernel_rfl
theorem fi55_0 : fieldT Try.prog 55 0 = some (0, 27) := by kernel_rfl
theorem fi55_1 : fieldT Try.prog 55 1 = some (1, 9) := by kernel_rfl
theorem fi55_2 : fieldT Try.prog 55 2 = some (2, 54) := by kernel_rfl
theorem ze55 : zeroT Try.prog 55 = some [.slice none 0 0, .string ⟨#[]⟩, .slice none 0 0] := by kernel_rfl
theorem ag56 : aggT Try.prog 56 = some true := by kernel_rfl
theorem si56 : sizeT Try.prog 56 = 3 := by kernel_rfl
theorem sz56 : szT Try.prog 56 = some 3 := by kernel_rfl
theorem by56 : bytesT Try.prog 56 = 64 := by kernel_rfl
theorem str56 : structT Try.prog 56 = true := by kernel_rfl
theorem fi56_0 : fieldT Try.prog 56 0 = some (0, 27) := by kernel_rfl
theorem fi56_1 : fieldT Try.prog 56 1 = some (1, 9) := by kernel_rfl
theorem fi56_2 : fieldT Try.prog 56 2 = some (2, 54) := by kernel_rfl
theorem ze56 : zeroT Try.prog 56 = some [.slice none 0 0, .string ⟨#[]⟩, .slice none 0 0] := by kernel_rfl
theorem kt57 : kindT Try.prog 57 = some 3 := by kernel_rfl
theorem kt58 : kindT Try.prog 58 = some 3 := by kernel_rfl
theorem kt59 : kindT Try.prog 59 = some 3 := by kernel_rfl
theorem ag60 : aggT Try.prog 60 = some true := by kernel_rfl
theorem si60 : sizeT Try.prog 60 = 2 := by kernel_rfl
theorem sz60 : szT Try.prog 60 = some 2 := by kernel_rfl
theorem by60 : bytesT Try.prog 60 = 16 := by kernel_rfl
theorem eq60 : eqT Try.prog 60 = some [(0, 0), (1, 0)] := by kernel_rfl
theorem str60 : structT Try.prog 60 = true := by kernel_rfl
theorem fi60_0 : fieldT Try.prog 60 0 = some (0, 2) := by kernel_rfl
theorem fi60_1 : fieldT Try.prog 60 1 = some (1, 2) := by kernel_rfl
theorem ze60 : zeroT Try.prog 60 = some [.int .i64 0, .int .i64 0] := by kernel_rfl
theorem ag61 : aggT Try.prog 61 = some true := by kernel_rfl
theorem si61 : sizeT Try.prog 61 = 2 := by kernel_rfl
theorem sz61 : szT Try.prog 61 = some 2 := by kernel_rfl
theorem by61 : bytesT Try.prog 61 = 16 := by kernel_rfl
theorem eq61 : eqT Try.prog 61 = some [(0, 0), (1, 0)] := by kernel_rfl
theorem str61 : structT Try.prog 61 = true := by kernel_rfl
theorem fi61_0 : fieldT Try.prog 61 0 = some (0, 2) := by kernel_rfl
theorem fi61_1 : fieldT Try.prog 61 1 = some (1, 2) := by kernel_rfl
theorem ze61 : zeroT Try.prog 61 = some [.int .i64 0, .int .i64 0] := by kernel_rfl
theorem kt62 : kindT Try.prog 62 = some 3 := by kernel_rfl
theorem ag63 : aggT Try.prog 63 = some true := by kernel_rfl
theorem si63 : sizeT Try.prog 63 = 2 := by kernel_rfl
theorem sz63 : szT Try.prog 63 = some 2 := by kernel_rfl
theorem by63 : bytesT Try.prog 63 = 16 := by kernel_rfl
theorem eq63 : eqT Try.prog 63 = some [(0, 0), (1, 0)] := by kernel_rfl
theorem str63 : structT Try.prog 63 = true := by kernel_rfl
theorem fi63_0 : fieldT Try.prog 63 0 = some (0, 2) := by kernel_rfl
theorem fi63_1 : fieldT Try.prog 63 1 = some (1, 2) := by kernel_rfl
theorem ze63 : zeroT Try.prog 63 = some [.int .i64 0, .int .i64 0] := by kernel_rfl
theorem kt64 : kindT Try.prog 64 = some 3 := by kernel_rfl
theorem kt65 : kindT Try.prog 65 = some 3 := by kernel_rfl
theorem ag66 : aggT Try.prog 66 = some false := by kernel_rfl
theorem el66 : elemT Try.prog 66 = some 34 := by kernel_rfl
theorem si66 : sizeT Try.prog 66 = 1 := by kernel_rfl
theorem sz66 : szT Try.prog 66 = some 1 := by kernel_rfl
theorem by66 : bytesT Try.prog 66 = 24 := by kernel_rfl
theorem kt66 : kindT Try.prog 66 = some 0 := by kernel_rfl
theorem zv66 : zeroV Try.prog 66 = some (.slice none 0 0) := by kernel_rfl
theorem ze66 : zeroT Try.prog 66 = some [.slice none 0 0] := by kernel_rfl
theorem ag67 : aggT Try.prog 67 = some true := by kernel_rfl
theorem si67 : sizeT Try.prog 67 = 3 := by kernel_rfl
theorem sz67 : szT Try.prog 67 = some 3 := by kernel_rfl
theorem by67 : bytesT Try.prog 67 = 48 := by kernel_rfl
theorem str67 : structT Try.prog 67 = true := by kernel_rfl
theorem fi67_0 : fieldT Try.prog 67 0 = some (0, 2) := by kernel_rfl
theorem fi67_1 : fieldT Try.prog 67 1 = some (1, 9) := by kernel_rfl
theorem fi67_2 : fieldT Try.prog 67 2 = some (2, 66) := by kernel_rfl
theorem ze67 : zeroT Try.prog 67 = some [.int .i64 0, .string ⟨#[]⟩, .slice none 0 0] := by kernel_rfl
theorem ag68 : aggT Try.prog 68 = some true := by kernel_rfl
theorem si68 : sizeT Try.prog 68 = 3 := by kernel_rfl
theorem sz68 : szT Try.prog 68 = some 3 := by kernel_rfl
theorem by68 : bytesT Try.prog 68 = 48 := by kernel_rfl
theorem str68 : structT Try.prog 68 = true := by kernel_rfl
theorem fi68_0 : fieldT Try.prog 68 0 = some (0, 2) := by kernel_rfl
theorem fi68_1 : fieldT Try.prog 68 1 = some (1, 9) := by kernel_rfl
theorem fi68_2 : fieldT Try.prog 68 2 = some (2, 66) := by kernel_rfl
theorem ze68 : zeroT Try.prog 68 = some [.int .i64 0, .string ⟨#[]⟩, .slice none 0 0] := by kernel_rfl
theorem kt70 : kindT Try.prog 70 = some 3 := by kernel_rfl
theorem kt71 : kindT Try.prog 71 = some 3 := by kernel_rfl
theorem kt72 : kindT Try.prog 72 = some 3 := by kernel_rfl
theorem kt73 : kindT Try.prog 73 = some 3 := by kernel_rfl
theorem kt74 : kindT Try.prog 74 = some 3 := by kernel_rfl
theorem kt75 : kindT Try.prog 75 = some 3 := by kernel_rfl
theorem kt77 : kindT Try.prog 77 = some 3 := by kernel_rfl
theorem kt78 : kindT Try.prog 78 = some 3 := by kernel_rfl
theorem kt79 : kindT Try.prog 79 = some 3 := by kernel_rfl
theorem ag80 : aggT Try.prog 80 = some false := by kernel_rfl
theorem el80 : elemT Try.prog 80 = some 63 := by kernel_rfl
theorem si80 : sizeT Try.prog 80 = 1 := by kernel_rfl
theorem sz80 : szT Try.prog 80 = some 1 := by kernel_rfl
theorem by80 : bytesT Try.prog 80 = 24 := by kernel_rfl
theorem kt80 : kindT Try.prog 80 = some 0 := by kernel_rfl
theorem zv80 : zeroV Try.prog 80 = some (.slice none 0 0) := by kernel_rfl
theorem ze80 : zeroT Try.prog 80 = some [.slice none 0 0] := by kernel_rfl
theorem kt81 : kindT Try.prog 81 = some 3 := by kernel_rfl
theorem kt82 : kindT Try.prog 82 = some 3 := by kernel_rfl
theorem kt83 : kindT Try.prog 83 = some 3 := by kernel_rfl
theorem kt84 : kindT Try.prog 84 = some 3 := by kernel_rfl
theorem ag85 : aggT Try.prog 85 = some true := by kernel_rfl
theorem si85 : sizeT Try.prog 85 = 2 := by kernel_rfl
theorem sz85 : szT Try.prog 85 = some 2 := by kernel_rfl
theorem by85 : bytesT Try.prog 85 = 48 := by kernel_rfl
theorem str85 : structT Try.prog 85 = true := by kernel_rfl
theorem fi85_0 : fieldT Try.prog 85 0 = some (0, 34) := by kernel_rfl
theorem fi85_1 : fieldT Try.prog 85 1 = some (1, 34) := by kernel_rfl
theorem ze85 : zeroT Try.prog 85 = some [.slice none 0 0, .slice none 0 0] := by kernel_rfl
theorem ag86 : aggT Try.prog 86 = some true := by kernel_rfl
theorem si86 : sizeT Try.prog 86 = 2 := by kernel_rfl
theorem sz86 : szT Try.prog 86 = some 2 := by kernel_rfl
theorem by86 : bytesT Try.prog 86 = 48 := by kernel_rfl
theorem str86 : structT Try.prog 86 = true := by kernel_rfl
theorem fi86_0 : fieldT Try.prog 86 0 = some (0, 34) := by kernel_rfl
theorem fi86_1 : fieldT Try.prog 86 1 = some (1, 34) := by kernel_rfl
theorem ze86 : zeroT Try.prog 86 = some [.slice none 0 0, .slice none 0 0] := by kernel_rfl
theorem kt87 : kindT Try.prog 87 = some 3 := by kernel_rfl
theorem kt88 : kindT Try.prog 88 = some 3 := by kernel_rfl
theorem kt89 : kindT Try.prog 89 = some 3 := by kernel_rfl
theorem ag90 : aggT Try.prog 90 = some true := by kernel_rfl
theorem si90 : sizeT Try.prog 90 = 2 := by kernel_rfl
theorem sz90 : szT Try.prog 90 = some 2 := by kernel_rfl
theorem by90 : bytesT Try.prog 90 = 16 := by kernel_rfl
theorem eq90 : eqT Try.prog 90 = some [(0, 0), (1, 0)] := by kernel_rfl
theorem str90 : structT Try.prog 90 = true := by kernel_rfl
theorem fi90_0 : fieldT Try.prog 90 0 = some (0, 2) := by kernel_rfl
theorem fi90_1 : fieldT Try.prog 90 1 = some (1, 2) := by kernel_rfl
theorem ze90 : zeroT Try.prog 90 = some [.int .i64 0, .int .i64 0] := by kernel_rfl
theorem ag91 : aggT Try.prog 91 = some true := by kernel_rfl
theorem si91 : sizeT Try.prog 91 = 2 := by kernel_rfl
theorem sz91 : szT Try.prog 91 = some 2 := by kernel_rfl
theorem by91 : bytesT Try.prog 91 = 16 := by kernel_rfl
theorem eq91 : eqT Try.prog 91 = some [(0, 0), (1, 0)] := by kernel_rfl
theorem str91 : structT Try.prog 91 = true := by kernel_rfl
theorem fi91_0 : fieldT Try.prog 91 0 = some (0, 2) := by kernel_rfl
theorem fi91_1 : fieldT Try.prog 91 1 = some (1, 2) := by kernel_rfl
theorem ze91 : zeroT Try.prog 91 = some [.int .i64 0, .int .i64 0] := by kernel_rfl
theorem ag92 : aggT Try.prog 92 = some true := by kernel_rfl
theorem si92 : sizeT Try.prog 92 = 2 := by kernel_rfl
theorem sz92 : szT Try.prog 92 = some 2 := by kernel_rfl
theorem by92 : bytesT Try.prog 92 = 48 := by kernel_rfl
theorem str92 : structT Try.prog 92 = true := by kernel_rfl
theorem fi92_0 : fieldT Try.prog 92 0 = some (0, 34) := by kernel_rfl
theorem fi92_1 : fieldT Try.prog 92 1 = some (1, 34) := by kernel_rfl
theorem ze92 : zeroT Try.prog 92 = some [.slice none 0 0, .slice none 0 0] := by kernel_rfl
theorem kt93 : kindT Try.prog 93 = some 3 := by kernel_rfl
theorem ag94 : aggT Try.prog 94 = some true := by kernel_rfl
theorem si94 : sizeT Try.prog 94 = 2 := by kernel_rfl
theorem sz94 : szT Try.prog 94 = some 2 := by kernel_rfl
theorem by94 : bytesT Try.prog 94 = 16 := by kernel_rfl
theorem eq94 : eqT Try.prog 94 = some [(0, 0), (1, 0)] := by kernel_rfl
theorem str94 : structT Try.prog 94 = true := by kernel_rfl
theorem fi94_0 : fieldT Try.prog 94 0 = some (0, 2) := by kernel_rfl
theorem fi94_1 : fieldT Try.prog 94 1 = some (1, 2) := by kernel_rfl
theorem ze94 : zeroT Try.prog 94 = some [.int .i64 0, .int .i64 0] := by kernel_rfl
theorem kt95 : kindT Try.prog 95 = some 3 := by kernel_rfl
theorem kt96 : kindT Try.prog 96 = some 3 := by kernel_rfl
theorem kt97 : kindT Try.prog 97 = some 3 := by kernel_rfl
theorem kt98 : kindT Try.prog 98 = some 3 := by kernel_rfl
theorem kt99 : kindT Try.prog 99 = some 3 := by kernel_rfl
theorem kt100 : kindT Try.prog 100 = some 3 := by kernel_rfl
theorem kt101 : kindT Try.prog 101 = some 3 := by kernel_rfl
theorem kt102 : kindT Try.prog 102 = some 3 := by kernel_rfl
theorem kt103 : kindT Try.prog 103 = some 3 := by kernel_rfl
theorem kt104 : kindT Try.prog 104 = some 3 := by kernel_rfl
theorem kt105 : kindT Try.prog 105 = some 3 := by kernel_rfl
theorem kt106 : kindT Try.prog 106 = some 3 := by kernel_rfl
theorem kt107 : kindT Try.prog 107 = some 3 := by kernel_rfl
theorem kt108 : kindT Try.prog 108 = some 3 := by kernel_rfl
theorem kt109 : kindT Try.prog 109 = some 3 := by kernel_rfl
theorem kt110 : kindT Try.prog 110 = some 3 := by kernel_rfl
theorem kt111 : kindT Try.prog 111 = some 3 := by kernel_rfl
theorem kt112 : kindT Try.prog 112 = some 3 := by kernel_rfl
theorem kt113 : kindT Try.prog 113 = some 3 := by kernel_rfl
theorem kt114 : kindT Try.prog 114 = some 3 := by kernel_rfl
theorem kt115 : kindT Try.prog 115 = some 3 := by kernel_rfl
theorem kt116 : kindT Try.prog 116 = some 3 := by kernel_rfl
theorem kt117 : kindT Try.prog 117 = some 3 := by kernel_rfl
theorem kt118 : kindT Try.prog 118 = some 3 := by kernel_rfl
theorem kt119 : kindT Try.prog 119 = some 3 := by kernel_rfl
theorem ag120 : aggT Try.prog 120 = some false := by kernel_rfl
theorem si120 : sizeT Try.prog 120 = 1 := by kernel_rfl
theorem sz120 : szT Try.prog 120 = some 1 := by kernel_rfl
theorem by120 : bytesT Try.prog 120 = 8 := by kernel_rfl
theorem in120 : intT Try.prog 120 = some .u64 := by kernel_rfl
theorem zv120 : zeroV Try.prog 120 = some (.int .u64 0) := by kernel_rfl
theorem ze120 : zeroT Try.prog 120 = some [.int .u64 0] := by kernel_rfl
theorem kt121 : kindT Try.prog 121 = some 3 := by kernel_rfl
theorem kt122 : kindT Try.prog 122 = some 3 := by kernel_rfl
theorem kt123 : kindT Try.prog 123 = some 3 := by kernel_rfl
theorem kt124 : kindT Try.prog 124 = some 3 := by kernel_rfl
theorem kt125 : kindT Try.prog 125 = some 3 := by kernel_rfl
theorem kt126 : kindT Try.prog 126 = some 3 := by kernel_rfl
theorem kt127 : kindT Try.prog 127 = some 3 := by kernel_rfl
theorem ag128 : aggT Try.prog 128 = some false := by kernel_rfl
theorem el128 : elemT Try.prog 128 = some 4 := by kernel_rfl
theorem si128 : sizeT Try.prog 128 = 1 := by kernel_rfl
theorem sz128 : szT Try.prog 128 = some 1 := by kernel_rfl
theorem by128 : bytesT Try.prog 128 = 24 := by kernel_rfl
theorem kt128 : kindT Try.prog 128 = some 0 := by kernel_rfl
theorem zv128 : zeroV Try.prog 128 = some (.slice none 0 0) := by kernel_rfl
theorem ze128 : zeroT Try.prog 128 = some [.slice none 0 0] := by kernel_rfl
theorem kt129 : kindT Try.prog 129 = some 3 := by kernel_rfl
theorem ag130 : aggT Try.prog 130 = some true := by kernel_rfl
theorem si130 : sizeT Try.prog 130 = 4 := by kernel_rfl
theorem sz130 : szT Try.prog 130 = some 4 := by kernel_rfl
theorem by130 : bytesT Try.prog 130 = 40 := by kernel_rfl
theorem str130 : structT Try.prog 130 = true := by kernel_rfl
theorem fi130_0 : fieldT Try.prog 130 0 = some (0, 17) := by kernel_rfl
theorem fi130_1 : fieldT Try.prog 130 1 = some (1, 17) := by kernel_rfl
theorem fi130_2 : fieldT Try.prog 130 2 = some (2, 17) := by kernel_rfl
theorem fi130_3 : fieldT Try.prog 130 3 = some (3, 9) := by kernel_rfl
theorem ze130 : zeroT Try.prog 130 = some [.pointer none, .pointer none, .pointer none, .string ⟨#[]⟩] := by kernel_rfl
theorem ag131 : aggT Try.prog 131 = some true := by kernel_rfl
theorem si131 : sizeT Try.prog 131 = 4 := by kernel_rfl
theorem sz131 : szT Try.prog 131 = some 4 := by kernel_rfl
theorem by131 : bytesT Try.prog 131 = 40 := by kernel_rfl
theorem str131 : structT Try.prog 131 = true := by kernel_rfl
theorem fi131_0 : fieldT Try.prog 131 0 = some (0, 17) := by kernel_rfl
theorem fi131_1 : fieldT Try.prog 131 1 = some (1, 17) := by kernel_rfl
theorem fi131_2 : fieldT Try.prog 131 2 = some (2, 17) := by kernel_rfl
theorem fi131_3 : fieldT Try.prog 131 3 = some (3, 9) := by kernel_rfl
theorem ze131 : zeroT Try.prog 131 = some [.pointer none, .pointer none, .pointer none, .string ⟨#[]⟩] := by kernel_rfl
theorem ag132 : aggT Try.prog 132 = some true := by kernel_rfl
theorem si132 : sizeT Try.prog 132 = 0 := by kernel_rfl
theorem sz132 : szT Try.prog 132 = some 0 := by kernel_rfl
theorem by132 : bytesT Try.prog 132 = 0 := by kernel_rfl
theorem ag133 : aggT Try.prog 133 = some true := by kernel_rfl
theorem si133 : sizeT Try.prog 133 = 0 := by kernel_rfl
theorem sz133 : szT Try.prog 133 = some 0 := by kernel_rfl
theorem by133 : bytesT Try.prog 133 = 0 := by kernel_rfl
theorem str133 : structT Try.prog 133 = true := by kernel_rfl
theorem ag134 : aggT Try.prog 134 = some true := by kernel_rfl
theorem si134 : sizeT Try.prog 134 = 0 := by kernel_rfl
theorem sz134 : szT Try.prog 134 = some 0 := by kernel_rfl
theorem by134 : bytesT Try.prog 134 = 0 := by kernel_rfl
theorem str134 : structT Try.prog 134 = true := by kernel_rfl
theorem kt135 : kindT Try.prog 135 = some 3 := by kernel_rfl
theorem ag136 : aggT Try.prog 136 = some false := by kernel_rfl
theorem si136 : sizeT Try.prog 136 = 1 := by kernel_rfl
theorem sz136 : szT Try.prog 136 = some 1 := by kernel_rfl
theorem by136 : bytesT Try.prog 136 = 4 := by kernel_rfl
theorem in136 : intT Try.prog 136 = some .u32 := by kernel_rfl
theorem zv136 : zeroV Try.prog 136 = some (.int .u32 0) := by kernel_rfl
theorem ze136 : zeroT Try.prog 136 = some [.int .u32 0] := by kernel_rfl
theorem ag137 : aggT Try.prog 137 = some false := by kernel_rfl
theorem si137 : sizeT Try.prog 137 = 1 := by kernel_rfl
theorem sz137 : szT Try.prog 137 = some 1 := by kernel_rfl
theorem by137 : bytesT Try.prog 137 = 1 := by kernel_rfl
theorem in137 : intT Try.prog 137 = some .u8 := by kernel_rfl
theorem zv137 : zeroV Try.prog 137 = some (.int .u8 0) := by kernel_rfl
theorem ze137 : zeroT Try.prog 137 = some [.int .u8 0] := by kernel_rfl
theorem ag138 : aggT Try.prog 138 = some false := by kernel_rfl
theorem si138 : sizeT Try.prog 138 = 1 := by kernel_rfl
theorem sz138 : szT Try.prog 138 = some 1 := by kernel_rfl
theorem by138 : bytesT Try.prog 138 = 1 := by kernel_rfl
theorem in138 : intT Try.prog 138 = some .u8 := by kernel_rfl
theorem zv138 : zeroV Try.prog 138 = some (.int .u8 0) := by kernel_rfl
theorem ze138 : zeroT Try.prog 138 = some [.int .u8 0] := by kernel_rfl
theorem kt139 : kindT Try.prog 139 = some 3 := by kernel_rfl
theorem ag140 : aggT Try.prog 140 = some false := by kernel_rfl
theorem si140 : sizeT Try.prog 140 = 1 := by kernel_rfl
theorem sz140 : szT Try.prog 140 = some 1 := by kernel_rfl
theorem by140 : bytesT Try.prog 140 = 8 := by kernel_rfl
theorem kt140 : kindT Try.prog 140 = some 1 := by kernel_rfl
theorem zv140 : zeroV Try.prog 140 = some (.pointer none) := by kernel_rfl
theorem ze140 : zeroT Try.prog 140 = some [.pointer none] := by kernel_rfl
theorem ag141 : aggT Try.prog 141 = some false := by kernel_rfl
theorem si141 : sizeT Try.prog 141 = 1 := by kernel_rfl
theorem sz141 : szT Try.prog 141 = some 1 := by kernel_rfl
theorem by141 : bytesT Try.prog 141 = 4 := by kernel_rfl
theorem in141 : intT Try.prog 141 = some .i32 := by kernel_rfl
theorem zv141 : zeroV Try.prog 141 = some (.int .i32 0) := by kernel_rfl
theorem ze141 : zeroT Try.prog 141 = some [.int .i32 0] := by kernel_rfl
theorem ag142 : aggT Try.prog 142 = some false := by kernel_rfl
theorem si142 : sizeT Try.prog 142 = 1 := by kernel_rfl
theorem sz142 : szT Try.prog 142 = some 1 := by kernel_rfl
theorem by142 : bytesT Try.prog 142 = 4 := by kernel_rfl
theorem in142 : intT Try.prog 142 = some .i32 := by kernel_rfl
theorem zv142 : zeroV Try.prog 142 = some (.int .i32 0) := by kernel_rfl
theorem ze142 : zeroT Try.prog 142 = some [.int .i32 0] := by kernel_rfl
theorem ag143 : aggT Try.prog 143 = some true := by kernel_rfl
theorem si143 : sizeT Try.prog 143 = 11 := by kernel_rfl
theorem sz143 : szT Try.prog 143 = some 11 := by kernel_rfl
theorem by143 : bytesT Try.prog 143 = 48 := by kernel_rfl
theorem str143 : structT Try.prog 143 = true := by kernel_rfl
theorem fi143_0 : fieldT Try.prog 143 0 = some (0, 12) := by kernel_rfl
theorem fi143_1 : fieldT Try.prog 143 1 = some (1, 12) := by kernel_rfl
theorem fi143_2 : fieldT Try.prog 143 2 = some (2, 136) := by kernel_rfl
theorem fi143_3 : fieldT Try.prog 143 3 = some (3, 137) := by kernel_rfl
theorem fi143_4 : fieldT Try.prog 143 4 = some (4, 5) := by kernel_rfl
theorem fi143_5 : fieldT Try.prog 143 5 = some (5, 5) := by kernel_rfl
theorem fi143_6 : fieldT Try.prog 143 6 = some (6, 138) := by kernel_rfl
theorem fi143_7 : fieldT Try.prog 143 7 = some (7, 139) := by kernel_rfl
theorem fi143_8 : fieldT Try.prog 143 8 = some (8, 140) := by kernel_rfl
theorem fi143_9 : fieldT Try.prog 143 9 = some (9, 141) := by kernel_rfl
theorem fi143_10 : fieldT Try.prog 143 10 = some (10, 142) := by kernel_rfl
theorem ag144 : aggT Try.prog 144 = some true := by kernel_rfl
theorem si144 : sizeT Try.prog 144 = 11 := by kernel_rfl
theorem sz144 : szT Try.prog 144 = some 11 := by kernel_rfl
theorem by144 : bytesT Try.prog 144 = 48 := by kernel_rfl
theorem str144 : structT Try.prog 144 = true := by kernel_rfl
theorem fi144_0 : fieldT Try.prog 144 0 = some (0, 12) := by kernel_rfl
theorem fi144_1 : fieldT Try.prog 144 1 = some (1, 12) := by kernel_rfl
theorem fi144_2 : fieldT Try.prog 144 2 = some (2, 136) := by kernel_rfl
theorem fi144_3 : fieldT Try.prog 144 3 = some (3, 137) := by kernel_rfl
theorem fi144_4 : fieldT Try.prog 144 4 = some (4, 5) := by kernel_rfl
theorem fi144_5 : fieldT Try.prog 144 5 = some (5, 5) := by kernel_rfl
theorem fi144_6 : fieldT Try.prog 144 6 = some (6, 138) := by kernel_rfl
theorem fi144_7 : fieldT Try.prog 144 7 = some (7, 139) := by kernel_rfl
theorem fi144_8 : fieldT Try.prog 144 8 = some (8, 140) := by kernel_rfl
theorem fi144_9 : fieldT Try.prog 144 9 = some (9, 141) := by kernel_rfl
theorem fi144_10 : fieldT Try.prog 144 10 = some (10, 142) := by kernel_rfl
theorem tyF : type_of% (And.intro (And.intro (And.intro (And.intro (And.intro (And.intro (And.intro (And.intro (And.intro (kt1) (ag2)) (And.intro (si2) (sz2))) (And.intro (And.intro
  (by2) (in2)) (And.intro (zv2) (ze2)))) (And.intro (And.intro (And.intro (ag3) (si3)) (And.intro (sz3) (by3))) (And.intro (And.intro (in3) (zv3)) (And.intro (ze3) (And.intro (ag4)
  (si4)))))) (And.intro (And.intro (And.intro (And.intro (sz4) (by4)) (And.intro (bo4) (zv4))) (And.intro (And.intro (ze4) (ag5)) (And.intro (si5) (sz5)))) (And.intro (And.intro
  (And.intro (by5) (in5)) (And.intro (zv5) (ze5))) (And.intro (And.intro (ag6) (si6)) (And.intro (sz6) (And.intro (by6) (in6))))))) (And.intro (And.intro (And.intro (And.intro
  (And.intro (zv6) (ze6)) (And.intro (ag7) (si7))) (And.intro (And.intro (sz7) (by7)) (And.intro (str7) (fi7_0)))) (And.intro (And.intro (And.intro (fi7_1) (fi7_2)) (And.intro
  (fi7_3) (ze7))) (And.intro (And.intro (ag8) (si8)) (And.intro (sz8) (And.intro (by8) (str8)))))) (And.intro (And.intro (And.intro (And.intro (fi8_0) (fi8_1)) (And.intro (fi8_2)
  (fi8_3))) (And.intro (And.intro (ze8) (ag9)) (And.intro (si9) (sz9)))) (And.intro (And.intro (And.intro (by9) (st9)) (And.intro (zv9) (ze9))) (And.intro (And.intro (ag10) (si10))
  (And.intro (sz10) (And.intro (by10) (st10)))))))) (And.intro (And.intro (And.intro (And.intro (And.intro (And.intro (zv10) (ze10)) (And.intro (ag11) (si11))) (And.intro (And.intro
  (sz11) (by11)) (And.intro (st11) (zv11)))) (And.intro (And.intro (And.intro (ze11) (ag12)) (And.intro (si12) (sz12))) (And.intro (And.intro (by12) (in12)) (And.intro (zv12)
  (And.intro (ze12) (ag13)))))) (And.intro (And.intro (And.intro (And.intro (si13) (sz13)) (And.intro (by13) (str13))) (And.intro (And.intro (fi13_0) (fi13_1)) (And.intro (ze13)
  (ag14)))) (And.intro (And.intro (And.intro (si14) (sz14)) (And.intro (by14) (str14))) (And.intro (And.intro (fi14_0) (fi14_1)) (And.intro (ze14) (And.intro (ag15) (si15)))))))
  (And.intro (And.intro (And.intro (And.intro (And.intro (sz15) (by15)) (And.intro (kt15) (zv15))) (And.intro (And.intro (ze15) (ag16)) (And.intro (si16) (sz16)))) (And.intro
  (And.intro (And.intro (by16) (kt16)) (And.intro (zv16) (ze16))) (And.intro (And.intro (ag17) (si17)) (And.intro (sz17) (And.intro (by17) (kt17)))))) (And.intro (And.intro
  (And.intro (And.intro (zv17) (ze17)) (And.intro (ag18) (si18))) (And.intro (And.intro (sz18) (by18)) (And.intro (str18) (And.intro (fi18_0) (ze18))))) (And.intro (And.intro
  (And.intro (ag19) (si19)) (And.intro (sz19) (by19))) (And.intro (And.intro (str19) (fi19_0)) (And.intro (ze19) (And.intro (kt20) (ag21))))))))) (And.intro (And.intro (And.intro
  (And.intro (And.intro (And.intro (And.intro (si21) (sz21)) (And.intro (by21) (in21))) (And.intro (And.intro (zv21) (ze21)) (And.intro (ag22) (el22)))) (And.intro (And.intro
  (And.intro (si22) (sz22)) (And.intro (by22) (kt22))) (And.intro (And.intro (zv22) (ze22)) (And.intro (ag23) (And.intro (el23) (si23)))))) (And.intro (And.intro (And.intro
  (And.intro (sz23) (by23)) (And.intro (kt23) (zv23))) (And.intro (And.intro (ze23) (kt24)) (And.intro (kt25) (kt26)))) (And.intro (And.intro (And.intro (ag27) (el27)) (And.intro
  (si27) (sz27))) (And.intro (And.intro (by27) (kt27)) (And.intro (zv27) (And.intro (ze27) (kt28))))))) (And.intro (And.intro (And.intro (And.intro (And.intro (ag29) (el29))
  (And.intro (si29) (sz29))) (And.intro (And.intro (by29) (kt29)) (And.intro (zv29) (ze29)))) (And.intro (And.intro (And.intro (kt30) (kt31)) (And.intro (kt32) (kt33))) (And.intro
  (And.intro (ag34) (el34)) (And.intro (si34) (And.intro (sz34) (by34)))))) (And.intro (And.intro (And.intro (And.intro (kt34) (zv34)) (And.intro (ze34) (kt36))) (And.intro
  (And.intro (kt37) (kt38)) (And.intro (kt39) (And.intro (kt40) (kt41))))) (And.intro (And.intro (And.intro (kt43) (kt44)) (And.intro (kt45) (kt46))) (And.intro (And.intro (kt47)
  (kt48)) (And.intro (ag49) (And.intro (el49) (si49)))))))) (And.intro (And.intro (And.intro (And.intro (And.intro (And.intro (sz49) (by49)) (And.intro (kt49) (zv49))) (And.intro
  (And.intro (ze49) (ag50)) (And.intro (si50) (sz50)))) (And.intro (And.intro (And.intro (by50) (str50)) (And.intro (fi50_0) (fi50_1))) (And.intro (And.intro (fi50_2) (ze50))
  (And.intro (ag51) (And.intro (si51) (sz51)))))) (And.intro (And.intro (And.intro (And.intro (by51) (str51)) (And.intro (fi51_0) (fi51_1))) (And.intro (And.intro (fi51_2) (ze51))
  (And.intro (kt52) (kt53)))) (And.intro (And.intro (And.intro (ag54) (el54)) (And.intro (si54) (sz54))) (And.intro (And.intro (by54) (kt54)) (And.intro (zv54) (And.intro (ze54)
  (ag55))))))) (And.intro (And.intro (And.intro (And.intro (And.intro (si55) (sz55)) (And.intro (by55) (str55))) (And.intro (And.intro (fi55_0) (fi55_1)) (And.intro (fi55_2)
  (ze55)))) (And.intro (And.intro (And.intro (ag56) (si56)) (And.intro (sz56) (by56))) (And.intro (And.intro (str56) (fi56_0)) (And.intro (fi56_1) (And.intro (fi56_2) (ze56))))))
  (And.intro (And.intro (And.intro (And.intro (kt57) (kt58)) (And.intro (kt59) (ag60))) (And.intro (And.intro (si60) (sz60)) (And.intro (by60) (And.intro (eq60) (str60)))))
  (And.intro (And.intro (And.intro (fi60_0) (fi60_1)) (And.intro (ze60) (ag61))) (And.intro (And.intro (si61) (sz61)) (And.intro (by61) (And.intro (eq61) (str61)))))))))) (And.intro
  (And.intro (And.intro (And.intro (And.intro (And.intro (And.intro (And.intro (fi61_0) (fi61_1)) (And.intro (ze61) (kt62))) (And.intro (And.intro (ag63) (si63)) (And.intro (sz63)
  (by63)))) (And.intro (And.intro (And.intro (eq63) (str63)) (And.intro (fi63_0) (fi63_1))) (And.intro (And.intro (ze63) (kt64)) (And.intro (kt65) (And.intro (ag66) (el66))))))
  (And.intro (And.intro (And.intro (And.intro (si66) (sz66)) (And.intro (by66) (kt66))) (And.intro (And.intro (zv66) (ze66)) (And.intro (ag67) (si67)))) (And.intro (And.intro
  (And.intro (sz67) (by67)) (And.intro (str67) (fi67_0))) (And.intro (And.intro (fi67_1) (fi67_2)) (And.intro (ze67) (And.intro (ag68) (si68))))))) (And.intro (And.intro (And.intro
  (And.intro (And.intro (sz68) (by68)) (And.intro (str68) (fi68_0))) (And.intro (And.intro (fi68_1) (fi68_2)) (And.intro (ze68) (kt70)))) (And.intro (And.intro (And.intro (kt71)
  (kt72)) (And.intro (kt73) (kt74))) (And.intro (And.intro (kt75) (kt77)) (And.intro (kt78) (And.intro (kt79) (ag80)))))) (And.intro (And.intro (And.intro (And.intro (el80) (si80))
  (And.intro (sz80) (by80))) (And.intro (And.intro (kt80) (zv80)) (And.intro (ze80) (kt81)))) (And.intro (And.intro (And.intro (kt82) (kt83)) (And.intro (kt84) (ag85))) (And.intro
  (And.intro (si85) (sz85)) (And.intro (by85) (And.intro (str85) (fi85_0)))))))) (And.intro (And.intro (And.intro (And.intro (And.intro (And.intro (fi85_1) (ze85)) (And.intro (ag86)
  (si86))) (And.intro (And.intro (sz86) (by86)) (And.intro (str86) (fi86_0)))) (And.intro (And.intro (And.intro (fi86_1) (ze86)) (And.intro (kt87) (kt88))) (And.intro (And.intro
  (kt89) (ag90)) (And.intro (si90) (And.intro (sz90) (by90)))))) (And.intro (And.intro (And.intro (And.intro (eq90) (str90)) (And.intro (fi90_0) (fi90_1))) (And.intro (And.intro
  (ze90) (ag91)) (And.intro (si91) (sz91)))) (And.intro (And.intro (And.intro (by91) (eq91)) (And.intro (str91) (fi91_0))) (And.intro (And.intro (fi91_1) (ze91)) (And.intro (ag92)
  (And.intro (si92) (sz92))))))) (And.intro (And.intro (And.intro (And.intro (And.intro (by92) (str92)) (And.intro (fi92_0) (fi92_1))) (And.intro (And.intro (ze92) (kt93))
  (And.intro (ag94) (si94)))) (And.intro (And.intro (And.intro (sz94) (by94)) (And.intro (eq94) (str94))) (And.intro (And.intro (fi94_0) (fi94_1)) (And.intro (ze94) (And.intro
  (kt95) (kt96)))))) (And.intro (And.intro (And.intro (And.intro (kt97) (kt98)) (And.intro (kt99) (kt100))) (And.intro (And.intro (kt101) (kt102)) (And.intro (kt103) (And.intro
  (kt104) (kt105))))) (And.intro (And.intro (And.intro (kt106) (kt107)) (And.intro (kt108) (kt109))) (And.intro (And.intro (kt110) (kt111)) (And.intro (kt112) (And.intro (kt113)
  (kt114))))))))) (And.intro (And.intro (And.intro (And.intro (And.intro (And.intro (And.intro (kt115) (kt116)) (And.intro (kt117) (kt118))) (And.intro (And.intro (kt119) (ag120))
  (And.intro (si120) (sz120)))) (And.intro (And.intro (And.intro (by120) (in120)) (And.intro (zv120) (ze120))) (And.intro (And.intro (kt121) (kt122)) (And.intro (kt123) (And.intro
  (kt124) (kt125)))))) (And.intro (And.intro (And.intro (And.intro (kt126) (kt127)) (And.intro (ag128) (el128))) (And.intro (And.intro (si128) (sz128)) (And.intro (by128) (kt128))))
  (And.intro (And.intro (And.intro (zv128) (ze128)) (And.intro (kt129) (ag130))) (And.intro (And.intro (si130) (sz130)) (And.intro (by130) (And.intro (str130) (fi130_0)))))))
  (And.intro (And.intro (And.intro (And.intro (And.intro (fi130_1) (fi130_2)) (And.intro (fi130_3) (ze130))) (And.intro (And.intro (ag131) (si131)) (And.intro (sz131) (by131))))
  (And.intro (And.intro (And.intro (str131) (fi131_0)) (And.intro (fi131_1) (fi131_2))) (And.intro (And.intro (fi131_3) (ze131)) (And.intro (ag132) (And.intro (si132) (sz132))))))
  (And.intro (And.intro (And.intro (And.intro (by132) (ag133)) (And.intro (si133) (sz133))) (And.intro (And.intro (by133) (str133)) (And.intro (ag134) (And.intro (si134) (sz134)))))
  (And.intro (And.intro (And.intro (by134) (str134)) (And.intro (kt135) (ag136))) (And.intro (And.intro (si136) (sz136)) (And.intro (by136) (And.intro (in136) (zv136))))))))
  (And.intro (And.intro (And.intro (And.intro (And.intro (And.intro (ze136) (ag137)) (And.intro (si137) (sz137))) (And.intro (And.intro (by137) (in137)) (And.intro (zv137)
  (ze137)))) (And.intro (And.intro (And.intro (ag138) (si138)) (And.intro (sz138) (by138))) (And.intro (And.intro (in138) (zv138)) (And.intro (ze138) (And.intro (kt139) (ag140))))))
  (And.intro (And.intro (And.intro (And.intro (si140) (sz140)) (And.intro (by140) (kt140))) (And.intro (And.intro (zv140) (ze140)) (And.intro (ag141) (si141)))) (And.intro
  (And.intro (And.intro (sz141) (by141)) (And.intro (in141) (zv141))) (And.intro (And.intro (ze141) (ag142)) (And.intro (si142) (And.intro (sz142) (by142))))))) (And.intro
  (And.intro (And.intro (And.intro (And.intro (in142) (zv142)) (And.intro (ze142) (ag143))) (And.intro (And.intro (si143) (sz143)) (And.intro (by143) (str143)))) (And.intro
  (And.intro (And.intro (fi143_0) (fi143_1)) (And.intro (fi143_2) (fi143_3))) (And.intro (And.intro (fi143_4) (fi143_5)) (And.intro (fi143_6) (And.intro (fi143_7) (fi143_8))))))
  (And.intro (And.intro (And.intro (And.intro (fi143_9) (fi143_10)) (And.intro (ag144) (si144))) (And.intro (And.intro (sz144) (by144)) (And.intro (str144) (And.intro (fi144_0)
  (fi144_1))))) (And.intro (And.intro (And.intro (fi144_2) (fi144_3)) (And.intro (fi144_4) (fi144_5))) (And.intro (And.intro (fi144_6) (fi144_7)) (And.intro (fi144_8) (And.intro
  (fi144_9) (fi144_10))))))))))) := And.intro (And.intro (And.intro (And.intro (And.intro (And.intro (And.intro (And.intro (And.intro (kt1) (ag2)) (And.intro (si2) (sz2)))
  (And.intro (And.intro (by2) (in2)) (And.intro (zv2) (ze2)))) (And.intro (And.intro (And.intro (ag3) (si3)) (And.intro (sz3) (by3))) (And.intro (And.intro (in3) (zv3)) (And.intro
  (ze3) (And.intro (ag4) (si4)))))) (And.intro (And.intro (And.intro (And.intro (sz4) (by4)) (And.intro (bo4) (zv4))) (And.intro (And.intro (ze4) (ag5)) (And.intro (si5) (sz5))))
  (And.intro (And.intro (And.intro (by5) (in5)) (And.intro (zv5) (ze5))) (And.intro (And.intro (ag6) (si6)) (And.intro (sz6) (And.intro (by6) (in6))))))) (And.intro (And.intro
  (And.intro (And.intro (And.intro (zv6) (ze6)) (And.intro (ag7) (si7))) (And.intro (And.intro (sz7) (by7)) (And.intro (str7) (fi7_0)))) (And.intro (And.intro (And.intro (fi7_1)
  (fi7_2)) (And.intro (fi7_3) (ze7))) (And.intro (And.intro (ag8) (si8)) (And.intro (sz8) (And.intro (by8) (str8)))))) (And.intro (And.intro (And.intro (And.intro (fi8_0) (fi8_1))
  (And.intro (fi8_2) (fi8_3))) (And.intro (And.intro (ze8) (ag9)) (And.intro (si9) (sz9)))) (And.intro (And.intro (And.intro (by9) (st9)) (And.intro (zv9) (ze9))) (And.intro
  (And.intro (ag10) (si10)) (And.intro (sz10) (And.intro (by10) (st10)))))))) (And.intro (And.intro (And.intro (And.intro (And.intro (And.intro (zv10) (ze10)) (And.intro (ag11)
  (si11))) (And.intro (And.intro (sz11) (by11)) (And.intro (st11) (zv11)))) (And.intro (And.intro (And.intro (ze11) (ag12)) (And.intro (si12) (sz12))) (And.intro (And.intro (by12)
  (in12)) (And.intro (zv12) (And.intro (ze12) (ag13)))))) (And.intro (And.intro (And.intro (And.intro (si13) (sz13)) (And.intro (by13) (str13))) (And.intro (And.intro (fi13_0)
  (fi13_1)) (And.intro (ze13) (ag14)))) (And.intro (And.intro (And.intro (si14) (sz14)) (And.intro (by14) (str14))) (And.intro (And.intro (fi14_0) (fi14_1)) (And.intro (ze14)
  (And.intro (ag15) (si15))))))) (And.intro (And.intro (And.intro (And.intro (And.intro (sz15) (by15)) (And.intro (kt15) (zv15))) (And.intro (And.intro (ze15) (ag16)) (And.intro
  (si16) (sz16)))) (And.intro (And.intro (And.intro (by16) (kt16)) (And.intro (zv16) (ze16))) (And.intro (And.intro (ag17) (si17)) (And.intro (sz17) (And.intro (by17) (kt17))))))
  (And.intro (And.intro (And.intro (And.intro (zv17) (ze17)) (And.intro (ag18) (si18))) (And.intro (And.intro (sz18) (by18)) (And.intro (str18) (And.intro (fi18_0) (ze18)))))
  (And.intro (And.intro (And.intro (ag19) (si19)) (And.intro (sz19) (by19))) (And.intro (And.intro (str19) (fi19_0)) (And.intro (ze19) (And.intro (kt20) (ag21))))))))) (And.intro
  (And.intro (And.intro (And.intro (And.intro (And.intro (And.intro (si21) (sz21)) (And.intro (by21) (in21))) (And.intro (And.intro (zv21) (ze21)) (And.intro (ag22) (el22))))
  (And.intro (And.intro (And.intro (si22) (sz22)) (And.intro (by22) (kt22))) (And.intro (And.intro (zv22) (ze22)) (And.intro (ag23) (And.intro (el23) (si23)))))) (And.intro
  (And.intro (And.intro (And.intro (sz23) (by23)) (And.intro (kt23) (zv23))) (And.intro (And.intro (ze23) (kt24)) (And.intro (kt25) (kt26)))) (And.intro (And.intro (And.intro (ag27)
  (el27)) (And.intro (si27) (sz27))) (And.intro (And.intro (by27) (kt27)) (And.intro (zv27) (And.intro (ze27) (kt28))))))) (And.intro (And.intro (And.intro (And.intro (And.intro
  (ag29) (el29)) (And.intro (si29) (sz29))) (And.intro (And.intro (by29) (kt29)) (And.intro (zv29) (ze29)))) (And.intro (And.intro (And.intro (kt30) (kt31)) (And.intro (kt32)
  (kt33))) (And.intro (And.intro (ag34) (el34)) (And.intro (si34) (And.intro (sz34) (by34)))))) (And.intro (And.intro (And.intro (And.intro (kt34) (zv34)) (And.intro (ze34) (kt36)))
  (And.intro (And.intro (kt37) (kt38)) (And.intro (kt39) (And.intro (kt40) (kt41))))) (And.intro (And.intro (And.intro (kt43) (kt44)) (And.intro (kt45) (kt46))) (And.intro
  (And.intro (kt47) (kt48)) (And.intro (ag49) (And.intro (el49) (si49)))))))) (And.intro (And.intro (And.intro (And.intro (And.intro (And.intro (sz49) (by49)) (And.intro (kt49)
  (zv49))) (And.intro (And.intro (ze49) (ag50)) (And.intro (si50) (sz50)))) (And.intro (And.intro (And.intro (by50) (str50)) (And.intro (fi50_0) (fi50_1))) (And.intro (And.intro
  (fi50_2) (ze50)) (And.intro (ag51) (And.intro (si51) (sz51)))))) (And.intro (And.intro (And.intro (And.intro (by51) (str51)) (And.intro (fi51_0) (fi51_1))) (And.intro (And.intro
  (fi51_2) (ze51)) (And.intro (kt52) (kt53)))) (And.intro (And.intro (And.intro (ag54) (el54)) (And.intro (si54) (sz54))) (And.intro (And.intro (by54) (kt54)) (And.intro (zv54)
  (And.intro (ze54) (ag55))))))) (And.intro (And.intro (And.intro (And.intro (And.intro (si55) (sz55)) (And.intro (by55) (str55))) (And.intro (And.intro (fi55_0) (fi55_1))
  (And.intro (fi55_2) (ze55)))) (And.intro (And.intro (And.intro (ag56) (si56)) (And.intro (sz56) (by56))) (And.intro (And.intro (str56) (fi56_0)) (And.intro (fi56_1) (And.intro
  (fi56_2) (ze56)))))) (And.intro (And.intro (And.intro (And.intro (kt57) (kt58)) (And.intro (kt59) (ag60))) (And.intro (And.intro (si60) (sz60)) (And.intro (by60) (And.intro (eq60)
  (str60))))) (And.intro (And.intro (And.intro (fi60_0) (fi60_1)) (And.intro (ze60) (ag61))) (And.intro (And.intro (si61) (sz61)) (And.intro (by61) (And.intro (eq61)
  (str61)))))))))) (And.intro (And.intro (And.intro (And.intro (And.intro (And.intro (And.intro (And.intro (fi61_0) (fi61_1)) (And.intro (ze61) (kt62))) (And.intro (And.intro (ag63)
  (si63)) (And.intro (sz63) (by63)))) (And.intro (And.intro (And.intro (eq63) (str63)) (And.intro (fi63_0) (fi63_1))) (And.intro (And.intro (ze63) (kt64)) (And.intro (kt65)
  (And.intro (ag66) (el66)))))) (And.intro (And.intro (And.intro (And.intro (si66) (sz66)) (And.intro (by66) (kt66))) (And.intro (And.intro (zv66) (ze66)) (And.intro (ag67)
  (si67)))) (And.intro (And.intro (And.intro (sz67) (by67)) (And.intro (str67) (fi67_0))) (And.intro (And.intro (fi67_1) (fi67_2)) (And.intro (ze67) (And.intro (ag68) (si68)))))))
  (And.intro (And.intro (And.intro (And.intro (And.intro (sz68) (by68)) (And.intro (str68) (fi68_0))) (And.intro (And.intro (fi68_1) (fi68_2)) (And.intro (ze68) (kt70)))) (And.intro
  (And.intro (And.intro (kt71) (kt72)) (And.intro (kt73) (kt74))) (And.intro (And.intro (kt75) (kt77)) (And.intro (kt78) (And.intro (kt79) (ag80)))))) (And.intro (And.intro
  (And.intro (And.intro (el80) (si80)) (And.intro (sz80) (by80))) (And.intro (And.intro (kt80) (zv80)) (And.intro (ze80) (kt81)))) (And.intro (And.intro (And.intro (kt82) (kt83))
  (And.intro (kt84) (ag85))) (And.intro (And.intro (si85) (sz85)) (And.intro (by85) (And.intro (str85) (fi85_0)))))))) (And.intro (And.intro (And.intro (And.intro (And.intro
  (And.intro (fi85_1) (ze85)) (And.intro (ag86) (si86))) (And.intro (And.intro (sz86) (by86)) (And.intro (str86) (fi86_0)))) (And.intro (And.intro (And.intro (fi86_1) (ze86))
  (And.intro (kt87) (kt88))) (And.intro (And.intro (kt89) (ag90)) (And.intro (si90) (And.intro (sz90) (by90)))))) (And.intro (And.intro (And.intro (And.intro (eq90) (str90))
  (And.intro (fi90_0) (fi90_1))) (And.intro (And.intro (ze90) (ag91)) (And.intro (si91) (sz91)))) (And.intro (And.intro (And.intro (by91) (eq91)) (And.intro (str91) (fi91_0)))
  (And.intro (And.intro (fi91_1) (ze91)) (And.intro (ag92) (And.intro (si92) (sz92))))))) (And.intro (And.intro (And.intro (And.intro (And.intro (by92) (str92)) (And.intro (fi92_0)
  (fi92_1))) (And.intro (And.intro (ze92) (kt93)) (And.intro (ag94) (si94)))) (And.intro (And.intro (And.intro (sz94) (by94)) (And.intro (eq94) (str94))) (And.intro (And.intro
  (fi94_0) (fi94_1)) (And.intro (ze94) (And.intro (kt95) (kt96)))))) (And.intro (And.intro (And.intro (And.intro (kt97) (kt98)) (And.intro (kt99) (kt100))) (And.intro (And.intro
  (kt101) (kt102)) (And.intro (kt103) (And.intro (kt104) (kt105))))) (And.intro (And.intro (And.intro (kt106) (kt107)) (And.intro (kt108) (kt109))) (And.intro (And.intro (kt110)
  (kt111)) (And.intro (kt112) (And.intro (kt113) (kt114))))))))) (And.intro (And.intro (And.intro (And.intro (And.intro (And.intro (And.intro (kt115) (kt116)) (And.intro (kt117)
  (kt118))) (And.intro (And.intro (kt119) (ag120)) (And.intro (si120) (sz120)))) (And.intro (And.intro (And.intro (by120) (in120)) (And.intro (zv120) (ze120))) (And.intro (And.intro
  (kt121) (kt122)) (And.intro (kt123) (And.intro (kt124) (kt125)))))) (And.intro (And.intro (And.intro (And.intro (kt126) (kt127)) (And.intro (ag128) (el128))) (And.intro (And.intro
  (si128) (sz128)) (And.intro (by128) (kt128)))) (And.intro (And.intro (And.intro (zv128) (ze128)) (And.intro (kt129) (ag130))) (And.intro (And.intro (si130) (sz130)) (And.intro
  (by130) (And.intro (str130) (fi130_0))))))) (And.intro (And.intro (And.intro (And.intro (And.intro (fi130_1) (fi130_2)) (And.intro (fi130_3) (ze130))) (And.intro (And.intro
  (ag131) (si131)) (And.intro (sz131) (by131)))) (And.intro (And.intro (And.intro (str131) (fi131_0)) (And.intro (fi131_1) (fi131_2))) (And.intro (And.intro (fi131_3) (ze131))
  (And.intro (ag132) (And.intro (si132) (sz132)))))) (And.intro (And.intro (And.intro (And.intro (by132) (ag133)) (And.intro (si133) (sz133))) (And.intro (And.intro (by133)
  (str133)) (And.intro (ag134) (And.intro (si134) (sz134))))) (And.intro (And.intro (And.intro (by134) (str134)) (And.intro (kt135) (ag136))) (And.intro (And.intro (si136) (sz136))
  (And.intro (by136) (And.intro (in136) (zv136)))))))) (And.intro (And.intro (And.intro (And.intro (And.intro (And.intro (ze136) (ag137)) (And.intro (si137) (sz137))) (And.intro
  (And.intro (by137) (in137)) (And.intro (zv137) (ze137)))) (And.intro (And.intro (And.intro (ag138) (si138)) (And.intro (sz138) (by138))) (And.intro (And.intro (in138) (zv138))
  (And.intro (ze138) (And.intro (kt139) (ag140)))))) (And.intro (And.intro (And.intro (And.intro (si140) (sz140)) (And.intro (by140) (kt140))) (And.intro (And.intro (zv140) (ze140))
  (And.intro (ag141) (si141)))) (And.intro (And.intro (And.intro (sz141) (by141)) (And.intro (in141) (zv141))) (And.intro (And.intro (ze141) (ag142)) (And.intro (si142) (And.intro
  (sz142) (by142))))))) (And.intro (And.intro (And.intro (And.intro (And.intro (in142) (zv142)) (And.intro (ze142) (ag143))) (And.intro (And.intro (si143) (sz143)) (And.intro
  (by143) (str143)))) (And.intro (And.intro (And.intro (fi143_0) (fi143_1)) (And.intro (fi143_2) (fi143_3))) (And.intro (And.intro (fi143_4) (fi143_5)) (And.intro (fi143_6)
  (And.intro (fi143_7) (fi143_8)))))) (And.intro (And.intro (And.intro (And.intro (fi143_9) (fi143_10)) (And.intro (ag144) (si144))) (And.intro (And.intro (sz144) (by144))
  (And.intro (str144) (And.intro (fi144_0) (fi144_1))))) (And.intro (And.intro (And.intro (fi144_2) (fi144_3)) (And.intro (fi144_4) (fi144_5))) (And.intro (And.intro (fi144_6)
  (fi144_7)) (And.intro (fi144_8) (And.intro (fi144_9) (fi144_10))))))))))
end Go.AM
