/-
  WHAT THE PROGRAM SAYS OF ITS TYPES, each fact by reckoning.
-/
import Derived.Test.YtbhaeaehgmpfhaaM2Tool
import Derived.Test.YtbhaeaehgmpfhaaProg
import Derived.Test.YtbhaeaehgmpfhaaProg
set_option linter.unusedVariables false
set_option linter.unusedSimpArgs false
namespace Go.AM
open Go.Proofs
theorem mixed : Try.prog.follows .mixedOrders = true := by kernel_rfl
theorem kt1 : kindT Try.prog 1 = some 3 := by kernel_rfl
theorem ag2 : aggT Try.prog 2 = some false := by kernel_rfl
theorem si2 : sizeT Try.prog 2 = 1 := by kernel_rfl
theorem sz2 : szT Try.prog 2 = some 1 := by kernel_rfl
theorem by2 : bytesT Try.prog 2 = 8 := by kernel_rfl
theorem in2 : intT Try.prog 2 = some .i64 := by kernel_rfl
theorem zv2 : zeroV Try.prog 2 = some (.int .i64 0) := by kernel_rfl
theorem ze2 : zeroT Try.prog 2 = some [.int .i64 0] := by kernel_rfl
theorem ag3 : aggT Try.prog 3 = some false := by kernel_rfl
theorem si3 : sizeT Try.prog 3 = 1 := by kernel_rfl
theorem sz3 : szT Try.prog 3 = some 1 := by kernel_rfl
theorem by3 : bytesT Try.prog 3 = 8 := by kernel_rfl
theorem in3 : intT Try.prog 3 = some .i64 := by kernel_rfl
theorem zv3 : zeroV Try.prog 3 = some (.int .i64 0) := by kernel_rfl
theorem ze3 : zeroT Try.prog 3 = some [.int .i64 0] := by kernel_rfl
theorem ag4 : aggT Try.prog 4 = some false := by kernel_rfl
theorem si4 : sizeT Try.prog 4 = 1 := by kernel_rfl
theorem sz4 : szT Try.prog 4 = some 1 := by kernel_rfl
theorem by4 : bytesT Try.prog 4 = 1 := by kernel_rfl
theorem bo4 : boolT Try.prog 4 = true := by kernel_rfl
theorem zv4 : zeroV Try.prog 4 = some (.bool false) := by kernel_rfl
theorem ze4 : zeroT Try.prog 4 = some [.bool false] := by kernel_rfl
theorem ag5 : aggT Try.prog 5 = some false := by kernel_rfl
theorem si5 : sizeT Try.prog 5 = 1 := by kernel_rfl
theorem sz5 : szT Try.prog 5 = some 1 := by kernel_rfl
theorem by5 : bytesT Try.prog 5 = 1 := by kernel_rfl
theorem in5 : intT Try.prog 5 = some .u8 := by kernel_rfl
theorem zv5 : zeroV Try.prog 5 = some (.int .u8 0) := by kernel_rfl
theorem ze5 : zeroT Try.prog 5 = some [.int .u8 0] := by kernel_rfl
theorem ag6 : aggT Try.prog 6 = some false := by kernel_rfl
theorem si6 : sizeT Try.prog 6 = 1 := by kernel_rfl
theorem sz6 : szT Try.prog 6 = some 1 := by kernel_rfl
theorem by6 : bytesT Try.prog 6 = 1 := by kernel_rfl
theorem in6 : intT Try.prog 6 = some .u8 := by kernel_rfl
theorem zv6 : zeroV Try.prog 6 = some (.int .u8 0) := by kernel_rfl
theorem ze6 : zeroT Try.prog 6 = some [.int .u8 0] := by kernel_rfl
theorem ag7 : aggT Try.prog 7 = some true := by kernel_rfl
theorem si7 : sizeT Try.prog 7 = 4 := by kernel_rfl
theorem sz7 : szT Try.prog 7 = some 4 := by kernel_rfl
theorem by7 : bytesT Try.prog 7 = 24 := by kernel_rfl
theorem str7 : structT Try.prog 7 = true := by kernel_rfl
theorem fi7_0 : fieldT Try.prog 7 0 = some (0, 2) := by kernel_rfl
theorem fi7_1 : fieldT Try.prog 7 1 = some (1, 3) := by kernel_rfl
theorem fi7_2 : fieldT Try.prog 7 2 = some (2, 4) := by kernel_rfl
theorem fi7_3 : fieldT Try.prog 7 3 = some (3, 6) := by kernel_rfl
theorem ze7 : zeroT Try.prog 7 = some [.int .i64 0, .int .i64 0, .bool false, .int .u8 0] := by kernel_rfl
theorem ag8 : aggT Try.prog 8 = some true := by kernel_rfl
theorem si8 : sizeT Try.prog 8 = 4 := by kernel_rfl
theorem sz8 : szT Try.prog 8 = some 4 := by kernel_rfl
theorem by8 : bytesT Try.prog 8 = 24 := by kernel_rfl
theorem str8 : structT Try.prog 8 = true := by kernel_rfl
theorem fi8_0 : fieldT Try.prog 8 0 = some (0, 2) := by kernel_rfl
theorem fi8_1 : fieldT Try.prog 8 1 = some (1, 3) := by kernel_rfl
theorem fi8_2 : fieldT Try.prog 8 2 = some (2, 4) := by kernel_rfl
theorem fi8_3 : fieldT Try.prog 8 3 = some (3, 6) := by kernel_rfl
theorem ze8 : zeroT Try.prog 8 = some [.int .i64 0, .int .i64 0, .bool false, .int .u8 0] := by kernel_rfl
theorem ag9 : aggT Try.prog 9 = some false := by kernel_rfl
theorem si9 : sizeT Try.prog 9 = 1 := by kernel_rfl
theorem sz9 : szT Try.prog 9 = some 1 := by kernel_rfl
theorem by9 : bytesT Try.prog 9 = 16 := by kernel_rfl
theorem st9 : stringT Try.prog 9 = true := by kernel_rfl
theorem zv9 : zeroV Try.prog 9 = some (.string ⟨#[]⟩) := by kernel_rfl
theorem ze9 : zeroT Try.prog 9 = some [.string ⟨#[]⟩] := by kernel_rfl
theorem ag10 : aggT Try.prog 10 = some false := by kernel_rfl
theorem si10 : sizeT Try.prog 10 = 1 := by kernel_rfl
theorem sz10 : szT Try.prog 10 = some 1 := by kernel_rfl
theorem by10 : bytesT Try.prog 10 = 16 := by kernel_rfl
theorem st10 : stringT Try.prog 10 = true := by kernel_rfl
theorem zv10 : zeroV Try.prog 10 = some (.string ⟨#[]⟩) := by kernel_rfl
theorem ze10 : zeroT Try.prog 10 = some [.string ⟨#[]⟩] := by kernel_rfl
theorem ag11 : aggT Try.prog 11 = some false := by kernel_rfl
theorem si11 : sizeT Try.prog 11 = 1 := by kernel_rfl
theorem sz11 : szT Try.prog 11 = some 1 := by kernel_rfl
theorem by11 : bytesT Try.prog 11 = 16 := by kernel_rfl
theorem st11 : stringT Try.prog 11 = true := by kernel_rfl
theorem zv11 : zeroV Try.prog 11 = some (.string ⟨#[]⟩) := by kernel_rfl
theorem ze11 : zeroT Try.prog 11 = some [.string ⟨#[]⟩] := by kernel_rfl
theorem ag12 : aggT Try.prog 12 = some false := by kernel_rfl
theorem si12 : sizeT Try.prog 12 = 1 := by kernel_rfl
theorem sz12 : szT Try.prog 12 = some 1 := by kernel_rfl
theorem by12 : bytesT Try.prog 12 = 8 := by kernel_rfl
theorem in12 : intT Try.prog 12 = some .u64 := by kernel_rfl
theorem zv12 : zeroV Try.prog 12 = some (.int .u64 0) := by kernel_rfl
theorem ze12 : zeroT Try.prog 12 = some [.int .u64 0] := by kernel_rfl
theorem ag13 : aggT Try.prog 13 = some true := by kernel_rfl
theorem si13 : sizeT Try.prog 13 = 2 := by kernel_rfl
theorem sz13 : szT Try.prog 13 = some 2 := by kernel_rfl
theorem by13 : bytesT Try.prog 13 = 24 := by kernel_rfl
theorem str13 : structT Try.prog 13 = true := by kernel_rfl
theorem fi13_0 : fieldT Try.prog 13 0 = some (0, 9) := by kernel_rfl
theorem fi13_1 : fieldT Try.prog 13 1 = some (1, 12) := by kernel_rfl
theorem ze13 : zeroT Try.prog 13 = some [.string ⟨#[]⟩, .int .u64 0] := by kernel_rfl
theorem ag14 : aggT Try.prog 14 = some true := by kernel_rfl
theorem si14 : sizeT Try.prog 14 = 2 := by kernel_rfl
theorem sz14 : szT Try.prog 14 = some 2 := by kernel_rfl
theorem by14 : bytesT Try.prog 14 = 24 := by kernel_rfl
theorem str14 : structT Try.prog 14 = true := by kernel_rfl
theorem fi14_0 : fieldT Try.prog 14 0 = some (0, 9) := by kernel_rfl
theorem fi14_1 : fieldT Try.prog 14 1 = some (1, 12) := by kernel_rfl
theorem ze14 : zeroT Try.prog 14 = some [.string ⟨#[]⟩, .int .u64 0] := by kernel_rfl
theorem ag15 : aggT Try.prog 15 = some false := by kernel_rfl
theorem si15 : sizeT Try.prog 15 = 1 := by kernel_rfl
theorem sz15 : szT Try.prog 15 = some 1 := by kernel_rfl
theorem by15 : bytesT Try.prog 15 = 8 := by kernel_rfl
theorem kt15 : kindT Try.prog 15 = some 1 := by kernel_rfl
theorem zv15 : zeroV Try.prog 15 = some (.pointer none) := by kernel_rfl
theorem ze15 : zeroT Try.prog 15 = some [.pointer none] := by kernel_rfl
theorem ag16 : aggT Try.prog 16 = some false := by kernel_rfl
theorem si16 : sizeT Try.prog 16 = 1 := by kernel_rfl
theorem sz16 : szT Try.prog 16 = some 1 := by kernel_rfl
theorem by16 : bytesT Try.prog 16 = 8 := by kernel_rfl
theorem kt16 : kindT Try.prog 16 = some 1 := by kernel_rfl
theorem zv16 : zeroV Try.prog 16 = some (.pointer none) := by kernel_rfl
theorem ze16 : zeroT Try.prog 16 = some [.pointer none] := by kernel_rfl
theorem ag17 : aggT Try.prog 17 = some false := by kernel_rfl
theorem si17 : sizeT Try.prog 17 = 1 := by kernel_rfl
theorem sz17 : szT Try.prog 17 = some 1 := by kernel_rfl
theorem by17 : bytesT Try.prog 17 = 8 := by kernel_rfl
theorem kt17 : kindT Try.prog 17 = some 1 := by kernel_rfl
theorem zv17 : zeroV Try.prog 17 = some (.pointer none) := by kernel_rfl
theorem ze17 : zeroT Try.prog 17 = some [.pointer none] := by kernel_rfl
theorem ag18 : aggT Try.prog 18 = some true := by kernel_rfl
theorem si18 : sizeT Try.prog 18 = 1 := by kernel_rfl
theorem sz18 : szT Try.prog 18 = some 1 := by kernel_rfl
theorem by18 : bytesT Try.prog 18 = 8 := by kernel_rfl
theorem str18 : structT Try.prog 18 = true := by kernel_rfl
theorem fi18_0 : fieldT Try.prog 18 0 = some (0, 17) := by kernel_rfl
theorem ze18 : zeroT Try.prog 18 = some [.pointer none] := by kernel_rfl
theorem ag19 : aggT Try.prog 19 = some true := by kernel_rfl
theorem si19 : sizeT Try.prog 19 = 1 := by kernel_rfl
theorem sz19 : szT Try.prog 19 = some 1 := by kernel_rfl
theorem by19 : bytesT Try.prog 19 = 8 := by kernel_rfl
theorem str19 : structT Try.prog 19 = true := by kernel_rfl
theorem fi19_0 : fieldT Try.prog 19 0 = some (0, 17) := by kernel_rfl
theorem ze19 : zeroT Try.prog 19 = some [.pointer none] := by kernel_rfl
theorem kt20 : kindT Try.prog 20 = some 2 := by kernel_rfl
theorem ag21 : aggT Try.prog 21 = some false := by kernel_rfl
theorem si21 : sizeT Try.prog 21 = 1 := by kernel_rfl
theorem sz21 : szT Try.prog 21 = some 1 := by kernel_rfl
theorem by21 : bytesT Try.prog 21 = 4 := by kernel_rfl
theorem in21 : intT Try.prog 21 = some .i32 := by kernel_rfl
theorem zv21 : zeroV Try.prog 21 = some (.int .i32 0) := by kernel_rfl
theorem ze21 : zeroT Try.prog 21 = some [.int .i32 0] := by kernel_rfl
theorem ag22 : aggT Try.prog 22 = some false := by kernel_rfl
theorem el22 : elemT Try.prog 22 = some 25 := by kernel_rfl
theorem si22 : sizeT Try.prog 22 = 1 := by kernel_rfl
theorem sz22 : szT Try.prog 22 = some 1 := by kernel_rfl
theorem by22 : bytesT Try.prog 22 = 24 := by kernel_rfl
theorem kt22 : kindT Try.prog 22 = some 0 := by kernel_rfl
theorem zv22 : zeroV Try.prog 22 = some (.slice none 0 0) := by kernel_rfl
theorem ze22 : zeroT Try.prog 22 = some [.slice none 0 0] := by kernel_rfl
theorem ag23 : aggT Try.prog 23 = some true := by kernel_rfl
theorem si23 : sizeT Try.prog 23 = 3 := by kernel_rfl
theorem sz23 : szT Try.prog 23 = some 3 := by kernel_rfl
theorem by23 : bytesT Try.prog 23 = 48 := by kernel_rfl
theorem str23 : structT Try.prog 23 = true := by kernel_rfl
theorem fi23_0 : fieldT Try.prog 23 0 = some (0, 2) := by kernel_rfl
theorem fi23_1 : fieldT Try.prog 23 1 = some (1, 9) := by kernel_rfl
theorem fi23_2 : fieldT Try.prog 23 2 = some (2, 22) := by kernel_rfl
theorem ze23 : zeroT Try.prog 23 = some [.int .i64 0, .string ⟨#[]⟩, .slice none 0 0] := by kernel_rfl
theorem ag24 : aggT Try.prog 24 = some true := by kernel_rfl
theorem si24 : sizeT Try.prog 24 = 3 := by kernel_rfl
theorem sz24 : szT Try.prog 24 = some 3 := by kernel_rfl
theorem by24 : bytesT Try.prog 24 = 48 := by kernel_rfl
theorem str24 : structT Try.prog 24 = true := by kernel_rfl
theorem fi24_0 : fieldT Try.prog 24 0 = some (0, 2) := by kernel_rfl
theorem fi24_1 : fieldT Try.prog 24 1 = some (1, 9) := by kernel_rfl
theorem fi24_2 : fieldT Try.prog 24 2 = some (2, 22) := by kernel_rfl
theorem ze24 : zeroT Try.prog 24 = some [.int .i64 0, .string ⟨#[]⟩, .slice none 0 0] := by kernel_rfl
theorem ag25 : aggT Try.prog 25 = some false := by kernel_rfl
theorem el25 : elemT Try.prog 25 = some 2 := by kernel_rfl
theorem si25 : sizeT Try.prog 25 = 1 := by kernel_rfl
theorem sz25 : szT Try.prog 25 = some 1 := by kernel_rfl
theorem by25 : bytesT Try.prog 25 = 24 := by kernel_rfl
theorem kt25 : kindT Try.prog 25 = some 0 := by kernel_rfl
theorem zv25 : zeroV Try.prog 25 = some (.slice none 0 0) := by kernel_rfl
theorem ze25 : zeroT Try.prog 25 = some [.slice none 0 0] := by kernel_rfl
theorem kt26 : kindT Try.prog 26 = some 3 := by kernel_rfl
theorem kt27 : kindT Try.prog 27 = some 3 := by kernel_rfl
theorem ag28 : aggT Try.prog 28 = some true := by kernel_rfl
theorem si28 : sizeT Try.prog 28 = 3 := by kernel_rfl
theorem sz28 : szT Try.prog 28 = some 3 := by kernel_rfl
theorem by28 : bytesT Try.prog 28 = 48 := by kernel_rfl
theorem str28 : structT Try.prog 28 = true := by kernel_rfl
theorem fi28_0 : fieldT Try.prog 28 0 = some (0, 2) := by kernel_rfl
theorem fi28_1 : fieldT Try.prog 28 1 = some (1, 9) := by kernel_rfl
theorem fi28_2 : fieldT Try.prog 28 2 = some (2, 22) := by kernel_rfl
theorem ze28 : zeroT Try.prog 28 = some [.int .i64 0, .string ⟨#[]⟩, .slice none 0 0] := by kernel_rfl
theorem kt29 : kindT Try.prog 29 = some 3 := by kernel_rfl
theorem kt30 : kindT Try.prog 30 = some 3 := by kernel_rfl
theorem kt31 : kindT Try.prog 31 = some 3 := by kernel_rfl
theorem kt32 : kindT Try.prog 32 = some 3 := by kernel_rfl
theorem kt33 : kindT Try.prog 33 = some 3 := by kernel_rfl
theorem kt34 : kindT Try.prog 34 = some 3 := by kernel_rfl
theorem kt35 : kindT Try.prog 35 = some 3 := by kernel_rfl
theorem kt36 : kindT Try.prog 36 = some 3 := by kernel_rfl
theorem kt37 : kindT Try.prog 37 = some 3 := by kernel_rfl
theorem ag38 : aggT Try.prog 38 = some false := by kernel_rfl
theorem el38 : elemT Try.prog 38 = some 5 := by kernel_rfl
theorem si38 : sizeT Try.prog 38 = 1 := by kernel_rfl
theorem sz38 : szT Try.prog 38 = some 1 := by kernel_rfl
theorem by38 : bytesT Try.prog 38 = 24 := by kernel_rfl
theorem kt38 : kindT Try.prog 38 = some 0 := by kernel_rfl
theorem zv38 : zeroV Try.prog 38 = some (.slice none 0 0) := by kernel_rfl
theorem ze38 : zeroT Try.prog 38 = some [.slice none 0 0] := by kernel_rfl
theorem kt39 : kindT Try.prog 39 = some 3 := by kernel_rfl
theorem ag40 : aggT Try.prog 40 = some false := by kernel_rfl
theorem el40 : elemT Try.prog 40 = some 112 := by kernel_rfl
theorem si40 : sizeT Try.prog 40 = 1 := by kernel_rfl
theorem sz40 : szT Try.prog 40 = some 1 := by kernel_rfl
theorem by40 : bytesT Try.prog 40 = 24 := by kernel_rfl
theorem kt40 : kindT Try.prog 40 = some 0 := by kernel_rfl
theorem zv40 : zeroV Try.prog 40 = some (.slice none 0 0) := by kernel_rfl
theorem ze40 : zeroT Try.prog 40 = some [.slice none 0 0] := by kernel_rfl
theorem kt42 : kindT Try.prog 42 = some 3 := by kernel_rfl
theorem ag43 : aggT Try.prog 43 = some false := by kernel_rfl
theorem el43 : elemT Try.prog 43 = some 114 := by kernel_rfl
theorem si43 : sizeT Try.prog 43 = 1 := by kernel_rfl
theorem sz43 : szT Try.prog 43 = some 1 := by kernel_rfl
theorem by43 : bytesT Try.prog 43 = 24 := by kernel_rfl
theorem kt43 : kindT Try.prog 43 = some 0 := by kernel_rfl
theorem zv43 : zeroV Try.prog 43 = some (.slice none 0 0) := by kernel_rfl
theorem ze43 : zeroT Try.prog 43 = some [.slice none 0 0] := by kernel_rfl
theorem kt45 : kindT Try.prog 45 = some 3 := by kernel_rfl
theorem kt47 : kindT Try.prog 47 = some 3 := by kernel_rfl
theorem kt48 : kindT Try.prog 48 = some 3 := by kernel_rfl
theorem kt50 : kindT Try.prog 50 = some 3 := by kernel_rfl
theorem kt51 : kindT Try.prog 51 = some 3 := by kernel_rfl
theorem kt52 : kindT Try.prog 52 = some 3 := by kernel_rfl
theorem kt53 : kindT Try.prog 53 = some 3 := by kernel_rfl
theorem kt54 : kindT Try.prog 54 = some 3 := by kernel_rfl
theorem kt55 : kindT Try.prog 55 = some 3 := by kernel_rfl
theorem kt56 : kindT Try.prog 56 = some 3 := by kernel_rfl
theorem kt57 : kindT Try.prog 57 = some 3 := by kernel_rfl
theorem kt58 : kindT Try.prog 58 = some 3 := by kernel_rfl
theorem ag59 : aggT Try.prog 59 = some false := by kernel_rfl
theorem el59 : elemT Try.prog 59 = some 162 := by kernel_rfl
theorem si59 : sizeT Try.prog 59 = 1 := by kernel_rfl
theorem sz59 : szT Try.prog 59 = some 1 := by kernel_rfl
theorem by59 : bytesT Try.prog 59 = 24 := by kernel_rfl
theorem kt59 : kindT Try.prog 59 = some 0 := by kernel_rfl
theorem zv59 : zeroV Try.prog 59 = some (.slice none 0 0) := by kernel_rfl
theorem ze59 : zeroT Try.prog 59 = some [.slice none 0 0] := by kernel_rfl
theorem ag60 : aggT Try.prog 60 = some false := by kernel_rfl
theorem el60 : elemT Try.prog 60 = some 158 := by kernel_rfl
theorem si60 : sizeT Try.prog 60 = 1 := by kernel_rfl
theorem sz60 : szT Try.prog 60 = some 1 := by kernel_rfl
theorem by60 : bytesT Try.prog 60 = 24 := by kernel_rfl
theorem kt60 : kindT Try.prog 60 = some 0 := by kernel_rfl
theorem zv60 : zeroV Try.prog 60 = some (.slice none 0 0) := by kernel_rfl
theorem ze60 : zeroT Try.prog 60 = some [.slice none 0 0] := by kernel_rfl
theorem ag61 : aggT Try.prog 61 = some true := by kernel_rfl
theorem si61 : sizeT Try.prog 61 = 3 := by kernel_rfl
theorem sz61 : szT Try.prog 61 = some 3 := by kernel_rfl
theorem by61 : bytesT Try.prog 61 = 64 := by kernel_rfl
theorem str61 : structT Try.prog 61 = true := by kernel_rfl
theorem fi61_0 : fieldT Try.prog 61 0 = some (0, 59) := by kernel_rfl
theorem fi61_1 : fieldT Try.prog 61 1 = some (1, 9) := by kernel_rfl
theorem fi61_2 : fieldT Try.prog 61 2 = some (2, 60) := by kernel_rfl
theorem ze61 : zeroT Try.prog 61 = some [.slice none 0 0, .string ⟨#[]⟩, .slice none 0 0] := by kernel_rfl
theorem ag62 : aggT Try.prog 62 = some true := by kernel_rfl
theorem si62 : sizeT Try.prog 62 = 3 := by kernel_rfl
theorem sz62 : szT Try.prog 62 = some 3 := by kernel_rfl
theorem by62 : bytesT Try.prog 62 = 64 := by kernel_rfl
theorem str62 : structT Try.prog 62 = true := by kernel_rfl
theorem fi62_0 : fieldT Try.prog 62 0 = some (0, 59) := by kernel_rfl
theorem fi62_1 : fieldT Try.prog 62 1 = some (1, 9) := by kernel_rfl
theorem fi62_2 : fieldT Try.prog 62 2 = some (2, 60) := by kernel_rfl
theorem ze62 : zeroT Try.prog 62 = some [.slice none 0 0, .string ⟨#[]⟩, .slice none 0 0] := by kernel_rfl
theorem kt63 : kindT Try.prog 63 = some 3 := by kernel_rfl
theorem kt64 : kindT Try.prog 64 = some 3 := by kernel_rfl
theorem ag65 : aggT Try.prog 65 = some false := by kernel_rfl
theorem el65 : elemT Try.prog 65 = some 43 := by kernel_rfl
theorem si65 : sizeT Try.prog 65 = 1 := by kernel_rfl
theorem sz65 : szT Try.prog 65 = some 1 := by kernel_rfl
theorem by65 : bytesT Try.prog 65 = 24 := by kernel_rfl
theorem kt65 : kindT Try.prog 65 = some 0 := by kernel_rfl
theorem zv65 : zeroV Try.prog 65 = some (.slice none 0 0) := by kernel_rfl
theorem ze65 : zeroT Try.prog 65 = some [.slice none 0 0] := by kernel_rfl
theorem ag66 : aggT Try.prog 66 = some true := by kernel_rfl
theorem si66 : sizeT Try.prog 66 = 3 := by kernel_rfl
theorem sz66 : szT Try.prog 66 = some 3 := by kernel_rfl
theorem by66 : bytesT Try.prog 66 = 64 := by kernel_rfl
theorem str66 : structT Try.prog 66 = true := by kernel_rfl
theorem fi66_0 : fieldT Try.prog 66 0 = some (0, 40) := by kernel_rfl
theorem fi66_1 : fieldT Try.prog 66 1 = some (1, 9) := by kernel_rfl
theorem fi66_2 : fieldT Try.prog 66 2 = some (2, 65) := by kernel_rfl
theorem ze66 : zeroT Try.prog 66 = some [.slice none 0 0, .string ⟨#[]⟩, .slice none 0 0] := by kernel_rfl
theorem ag67 : aggT Try.prog 67 = some true := by kernel_rfl
theorem si67 : sizeT Try.prog 67 = 3 := by kernel_rfl
theorem sz67 : szT Try.prog 67 = some 3 := by kernel_rfl
theorem by67 : bytesT Try.prog 67 = 64 := by kernel_rfl
theorem str67 : structT Try.prog 67 = true := by kernel_rfl
theorem fi67_0 : fieldT Try.prog 67 0 = some (0, 40) := by kernel_rfl
theorem fi67_1 : fieldT Try.prog 67 1 = some (1, 9) := by kernel_rfl
theorem fi67_2 : fieldT Try.prog 67 2 = some (2, 65) := by kernel_rfl
theorem ze67 : zeroT Try.prog 67 = some [.slice none 0 0, .string ⟨#[]⟩, .slice none 0 0] := by kernel_rfl
theorem kt68 : kindT Try.prog 68 = some 3 := by kernel_rfl
theorem kt69 : kindT Try.prog 69 = some 3 := by kernel_rfl
theorem kt70 : kindT Try.prog 70 = some 3 := by kernel_rfl
theorem kt71 : kindT Try.prog 71 = some 3 := by kernel_rfl
theorem ag72 : aggT Try.prog 72 = some true := by kernel_rfl
theorem si72 : sizeT Try.prog 72 = 2 := by kernel_rfl
theorem sz72 : szT Try.prog 72 = some 2 := by kernel_rfl
theorem by72 : bytesT Try.prog 72 = 48 := by kernel_rfl
theorem str72 : structT Try.prog 72 = true := by kernel_rfl
theorem fi72_0 : fieldT Try.prog 72 0 = some (0, 25) := by kernel_rfl
theorem fi72_1 : fieldT Try.prog 72 1 = some (1, 25) := by kernel_rfl
theorem ze72 : zeroT Try.prog 72 = some [.slice none 0 0, .slice none 0 0] := by kernel_rfl
theorem ag73 : aggT Try.prog 73 = some true := by kernel_rfl
theorem si73 : sizeT Try.prog 73 = 2 := by kernel_rfl
theorem sz73 : szT Try.prog 73 = some 2 := by kernel_rfl
theorem by73 : bytesT Try.prog 73 = 48 := by kernel_rfl
theorem str73 : structT Try.prog 73 = true := by kernel_rfl
theorem fi73_0 : fieldT Try.prog 73 0 = some (0, 25) := by kernel_rfl
theorem fi73_1 : fieldT Try.prog 73 1 = some (1, 25) := by kernel_rfl
theorem ze73 : zeroT Try.prog 73 = some [.slice none 0 0, .slice none 0 0] := by kernel_rfl
theorem kt74 : kindT Try.prog 74 = some 3 := by kernel_rfl
theorem kt75 : kindT Try.prog 75 = some 3 := by kernel_rfl
theorem ag76 : aggT Try.prog 76 = some true := by kernel_rfl
theorem si76 : sizeT Try.prog 76 = 2 := by kernel_rfl
theorem sz76 : szT Try.prog 76 = some 2 := by kernel_rfl
theorem by76 : bytesT Try.prog 76 = 48 := by kernel_rfl
theorem str76 : structT Try.prog 76 = true := by kernel_rfl
theorem fi76_0 : fieldT Try.prog 76 0 = some (0, 25) := by kernel_rfl
theorem fi76_1 : fieldT Try.prog 76 1 = some (1, 25) := by kernel_rfl
theorem ze76 : zeroT Try.prog 76 = some [.slice none 0 0, .slice none 0 0] := by kernel_rfl
theorem kt77 : kindT Try.prog 77 = some 3 := by kernel_rfl
theorem kt78 : kindT Try.prog 78 = some 3 := by kernel_rfl
theorem kt79 : kindT Try.prog 79 = some 3 := by kernel_rfl
theorem kt81 : kindT Try.prog 81 = some 3 := by kernel_rfl
theorem ag82 : aggT Try.prog 82 = some false := by kernel_rfl
theorem el82 : elemT Try.prog 82 = some 76 := by kernel_rfl
theorem si82 : sizeT Try.prog 82 = 1 := by kernel_rfl
theorem sz82 : szT Try.prog 82 = some 1 := by kernel_rfl
theorem by82 : bytesT Try.prog 82 = 24 := by kernel_rfl
theorem kt82 : kindT Try.prog 82 = some 0 := by kernel_rfl
theorem zv82 : zeroV Try.prog 82 = some (.slice none 0 0) := by kernel_rfl
theorem ze82 : zeroT Try.prog 82 = some [.slice none 0 0] := by kernel_rfl
theorem kt83 : kindT Try.prog 83 = some 3 := by kernel_rfl
theorem kt84 : kindT Try.prog 84 = some 3 := by kernel_rfl
theorem kt85 : kindT Try.prog 85 = some 3 := by kernel_rfl
theorem kt86 : kindT Try.prog 86 = some 3 := by kernel_rfl
theorem kt88 : kindT Try.prog 88 = some 3 := by kernel_rfl
theorem kt89 : kindT Try.prog 89 = some 3 := by kernel_rfl
theorem kt90 : kindT Try.prog 90 = some 3 := by kernel_rfl
theorem kt91 : kindT Try.prog 91 = some 3 := by kernel_rfl
theorem kt92 : kindT Try.prog 92 = some 3 := by kernel_rfl
theorem kt93 : kindT Try.prog 93 = some 3 := by kernel_rfl
theorem kt94 : kindT Try.prog 94 = some 3 := by kernel_rfl
theorem kt95 : kindT Try.prog 95 = some 3 := by kernel_rfl
theorem kt96 : kindT Try.prog 96 = some 3 := by kernel_rfl
theorem kt97 : kindT Try.prog 97 = some 3 := by kernel_rfl
theorem kt98 : kindT Try.prog 98 = some 3 := by kernel_rfl
theorem kt99 : kindT Try.prog 99 = some 3 := by kernel_rfl
theorem kt100 : kindT Try.prog 100 = some 3 := by kernel_rfl
theorem ag101 : aggT Try.prog 101 = some false := by kernel_rfl
theorem si101 : sizeT Try.prog 101 = 1 := by kernel_rfl
theorem sz101 : szT Try.prog 101 = some 1 := by kernel_rfl
theorem by101 : bytesT Try.prog 101 = 8 := by kernel_rfl
theorem kt101 : kindT Try.prog 101 = some 1 := by kernel_rfl
theorem zv101 : zeroV Try.prog 101 = some (.pointer none) := by kernel_rfl
theorem ze101 : zeroT Try.prog 101 = some [.pointer none] := by kernel_rfl
theorem kt102 : kindT Try.prog 102 = some 3 := by kernel_rfl
theorem kt104 : kindT Try.prog 104 = some 3 := by kernel_rfl
theorem kt105 : kindT Try.prog 105 = some 3 := by kernel_rfl
theorem kt106 : kindT Try.prog 106 = some 3 := by kernel_rfl
theorem kt107 : kindT Try.prog 107 = some 3 := by kernel_rfl
theorem kt108 : kindT Try.prog 108 = some 3 := by kernel_rfl
theorem kt109 : kindT Try.prog 109 = some 3 := by kernel_rfl
theorem kt110 : kindT Try.prog 110 = some 3 := by kernel_rfl
theorem ag111 : aggT Try.prog 111 = some true := by kernel_rfl
theorem si111 : sizeT Try.prog 111 = 2 := by kernel_rfl
theorem sz111 : szT Try.prog 111 = some 2 := by kernel_rfl
theorem by111 : bytesT Try.prog 111 = 16 := by kernel_rfl
theorem eq111 : eqT Try.prog 111 = some [(0, 0), (1, 0)] := by kernel_rfl
theorem str111 : structT Try.prog 111 = true := by kernel_rfl
theorem fi111_0 : fieldT Try.prog 111 0 = some (0, 2) := by kernel_rfl
theorem fi111_1 : fieldT Try.prog 111 1 = some (1, 2) := by kernel_rfl
theorem ze111 : zeroT Try.prog 111 = some [.int .i64 0, .int .i64 0] := by kernel_rfl
theorem ag112 : aggT Try.prog 112 = some true := by kernel_rfl
theorem si112 : sizeT Try.prog 112 = 2 := by kernel_rfl
theorem sz112 : szT Try.prog 112 = some 2 := by kernel_rfl
theorem by112 : bytesT Try.prog 112 = 16 := by kernel_rfl
theorem eq112 : eqT Try.prog 112 = some [(0, 0), (1, 0)] := by kernel_rfl
theorem str112 : structT Try.prog 112 = true := by kernel_rfl
theorem fi112_0 : fieldT Try.prog 112 0 = some (0, 2) := by kernel_rfl
theorem fi112_1 : fieldT Try.prog 112 1 = some (1, 2) := by kernel_rfl
theorem ze112 : zeroT Try.prog 112 = some [.int .i64 0, .int .i64 0] := by kernel_rfl
theorem ag113 : aggT Try.prog 113 = some true := by kernel_rfl
theorem si113 : sizeT Try.prog 113 = 2 := by kernel_rfl
theorem sz113 : szT Try.prog 113 = some 2 := by kernel_rfl
theorem by113 : bytesT Try.prog 113 = 48 := by kernel_rfl
theorem str113 : structT Try.prog 113 = true := by kernel_rfl
theorem fi113_0 : fieldT Try.prog 113 0 = some (0, 25) := by kernel_rfl
theorem fi113_1 : fieldT Try.prog 113 1 = some (1, 25) := by kernel_rfl
theorem ze113 : zeroT Try.prog 113 = some [.slice none 0 0, .slice none 0 0] := by kernel_rfl
theorem ag114 : aggT Try.prog 114 = some true := by kernel_rfl
theorem si114 : sizeT Try.prog 114 = 2 := by kernel_rfl
theorem sz114 : szT Try.prog 114 = some 2 := by kernel_rfl
theorem by114 : bytesT Try.prog 114 = 48 := by kernel_rfl
theorem str114 : structT Try.prog 114 = true := by kernel_rfl
theorem fi114_0 : fieldT Try.prog 114 0 = some (0, 25) := by kernel_rfl
theorem fi114_1 : fieldT Try.prog 114 1 = some (1, 25) := by kernel_rfl
theorem ze114 : zeroT Try.prog 114 = some [.slice none 0 0, .slice none 0 0] := by kernel_rfl
theorem kt115 : kindT Try.prog 115 = some 3 := by kernel_rfl
theorem kt116 : kindT Try.prog 116 = some 3 := by kernel_rfl
theorem kt117 : kindT Try.prog 117 = some 3 := by kernel_rfl
theorem kt118 : kindT Try.prog 118 = some 3 := by kernel_rfl
theorem kt119 : kindT Try.prog 119 = some 3 := by kernel_rfl
theorem kt120 : kindT Try.prog 120 = some 3 := by kernel_rfl
theorem kt121 : kindT Try.prog 121 = some 3 := by kernel_rfl
theorem kt122 : kindT Try.prog 122 = some 3 := by kernel_rfl
theorem ag123 : aggT Try.prog 123 = some false := by kernel_rfl
theorem si123 : sizeT Try.prog 123 = 1 := by kernel_rfl
theorem sz123 : szT Try.prog 123 = some 1 := by kernel_rfl
theorem by123 : bytesT Try.prog 123 = 8 := by kernel_rfl
theorem mp123 : mapT Try.prog 123 = some (true, 4) := by kernel_rfl
theorem zv123 : zeroV Try.prog 123 = some (.map none) := by kernel_rfl
theorem ze123 : zeroT Try.prog 123 = some [.map none] := by kernel_rfl
theorem kt124 : kindT Try.prog 124 = some 3 := by kernel_rfl
theorem kt125 : kindT Try.prog 125 = some 3 := by kernel_rfl
theorem kt126 : kindT Try.prog 126 = some 3 := by kernel_rfl
theorem kt127 : kindT Try.prog 127 = some 3 := by kernel_rfl
theorem ag128 : aggT Try.prog 128 = some false := by kernel_rfl
theorem el128 : elemT Try.prog 128 = some 131 := by kernel_rfl
theorem si128 : sizeT Try.prog 128 = 1 := by kernel_rfl
theorem sz128 : szT Try.prog 128 = some 1 := by kernel_rfl
theorem by128 : bytesT Try.prog 128 = 24 := by kernel_rfl
theorem kt128 : kindT Try.prog 128 = some 0 := by kernel_rfl
theorem zv128 : zeroV Try.prog 128 = some (.slice none 0 0) := by kernel_rfl
theorem ze128 : zeroT Try.prog 128 = some [.slice none 0 0] := by kernel_rfl
theorem kt129 : kindT Try.prog 129 = some 3 := by kernel_rfl
theorem ag130 : aggT Try.prog 130 = some true := by kernel_rfl
theorem si130 : sizeT Try.prog 130 = 2 := by kernel_rfl
theorem sz130 : szT Try.prog 130 = some 2 := by kernel_rfl
theorem by130 : bytesT Try.prog 130 = 16 := by kernel_rfl
theorem eq130 : eqT Try.prog 130 = some [(0, 0), (1, 0)] := by kernel_rfl
theorem str130 : structT Try.prog 130 = true := by kernel_rfl
theorem fi130_0 : fieldT Try.prog 130 0 = some (0, 2) := by kernel_rfl
theorem fi130_1 : fieldT Try.prog 130 1 = some (1, 2) := by kernel_rfl
theorem ze130 : zeroT Try.prog 130 = some [.int .i64 0, .int .i64 0] := by kernel_rfl
theorem ag131 : aggT Try.prog 131 = some true := by kernel_rfl
theorem si131 : sizeT Try.prog 131 = 2 := by kernel_rfl
theorem sz131 : szT Try.prog 131 = some 2 := by kernel_rfl
theorem by131 : bytesT Try.prog 131 = 16 := by kernel_rfl
theorem eq131 : eqT Try.prog 131 = some [(0, 0), (1, 0)] := by kernel_rfl
theorem str131 : structT Try.prog 131 = true := by kernel_rfl
theorem fi131_0 : fieldT Try.prog 131 0 = some (0, 2) := by kernel_rfl
theorem fi131_1 : fieldT Try.prog 131 1 = some (1, 2) := by kernel_rfl
theorem ze131 : zeroT Try.prog 131 = some [.int .i64 0, .int .i64 0] := by kernel_rfl
theorem kt132 : kindT Try.prog 132 = some 3 := by kernel_rfl
theorem kt133 : kindT Try.prog 133 = some 3 := by kernel_rfl
theorem kt134 : kindT Try.prog 134 = some 3 := by kernel_rfl
theorem kt135 : kindT Try.prog 135 = some 3 := by kernel_rfl
theorem kt136 : kindT Try.prog 136 = some 3 := by kernel_rfl
theorem kt137 : kindT Try.prog 137 = some 3 := by kernel_rfl
theorem kt138 : kindT Try.prog 138 = some 3 := by kernel_rfl
theorem kt139 : kindT Try.prog 139 = some 3 := by kernel_rfl
theorem kt140 : kindT Try.prog 140 = some 3 := by kernel_rfl
theorem kt141 : kindT Try.prog 141 = some 3 := by kernel_rfl
theorem kt142 : kindT Try.prog 142 = some 3 := by kernel_rfl
theorem kt143 : kindT Try.prog 143 = some 3 := by kernel_rfl
theorem kt144 : kindT Try.prog 144 = some 3 := by kernel_rfl
theorem kt145 : kindT Try.prog 145 = some 3 := by kernel_rfl
theorem kt146 : kindT Try.prog 146 = some 3 := by kernel_rfl
theorem kt147 : kindT Try.prog 147 = some 3 := by kernel_rfl
theorem ag148 : aggT Try.prog 148 = some true := by kernel_rfl
theorem si148 : sizeT Try.prog 148 = 3 := by kernel_rfl
theorem sz148 : szT Try.prog 148 = some 3 := by kernel_rfl
theorem by148 : bytesT Try.prog 148 = 40 := by kernel_rfl
theorem str148 : structT Try.prog 148 = true := by kernel_rfl
theorem fi148_0 : fieldT Try.prog 148 0 = some (0, 38) := by kernel_rfl
theorem fi148_1 : fieldT Try.prog 148 1 = some (1, 3) := by kernel_rfl
theorem fi148_2 : fieldT Try.prog 148 2 = some (2, 2) := by kernel_rfl
theorem ze148 : zeroT Try.prog 148 = some [.slice none 0 0, .int .i64 0, .int .i64 0] := by kernel_rfl
theorem ag149 : aggT Try.prog 149 = some true := by kernel_rfl
theorem si149 : sizeT Try.prog 149 = 3 := by kernel_rfl
theorem sz149 : szT Try.prog 149 = some 3 := by kernel_rfl
theorem by149 : bytesT Try.prog 149 = 40 := by kernel_rfl
theorem str149 : structT Try.prog 149 = true := by kernel_rfl
theorem fi149_0 : fieldT Try.prog 149 0 = some (0, 38) := by kernel_rfl
theorem fi149_1 : fieldT Try.prog 149 1 = some (1, 3) := by kernel_rfl
theorem fi149_2 : fieldT Try.prog 149 2 = some (2, 2) := by kernel_rfl
theorem ze149 : zeroT Try.prog 149 = some [.slice none 0 0, .int .i64 0, .int .i64 0] := by kernel_rfl
theorem kt150 : kindT Try.prog 150 = some 3 := by kernel_rfl
theorem kt151 : kindT Try.prog 151 = some 3 := by kernel_rfl
theorem kt152 : kindT Try.prog 152 = some 3 := by kernel_rfl
theorem kt153 : kindT Try.prog 153 = some 3 := by kernel_rfl
theorem kt154 : kindT Try.prog 154 = some 3 := by kernel_rfl
theorem kt155 : kindT Try.prog 155 = some 3 := by kernel_rfl
theorem kt156 : kindT Try.prog 156 = some 3 := by kernel_rfl
theorem kt157 : kindT Try.prog 157 = some 3 := by kernel_rfl
theorem ag158 : aggT Try.prog 158 = some false := by kernel_rfl
theorem el158 : elemT Try.prog 158 = some 182 := by kernel_rfl
theorem si158 : sizeT Try.prog 158 = 1 := by kernel_rfl
theorem sz158 : szT Try.prog 158 = some 1 := by kernel_rfl
theorem by158 : bytesT Try.prog 158 = 24 := by kernel_rfl
theorem kt158 : kindT Try.prog 158 = some 0 := by kernel_rfl
theorem zv158 : zeroV Try.prog 158 = some (.slice none 0 0) := by kernel_rfl
theorem ze158 : zeroT Try.prog 158 = some [.slice none 0 0] := by kernel_rfl
theorem ag159 : aggT Try.prog 159 = some false := by kernel_rfl
theorem si159 : sizeT Try.prog 159 = 1 := by kernel_rfl
theorem sz159 : szT Try.prog 159 = some 1 := by kernel_rfl
theorem by159 : bytesT Try.prog 159 = 8 := by kernel_rfl
theorem in159 : intT Try.prog 159 = some .u64 := by kernel_rfl
theorem zv159 : zeroV Try.prog 159 = some (.int .u64 0) := by kernel_rfl
theorem ze159 : zeroT Try.prog 159 = some [.int .u64 0] := by kernel_rfl
theorem kt160 : kindT Try.prog 160 = some 3 := by kernel_rfl
theorem kt161 : kindT Try.prog 161 = some 3 := by kernel_rfl
theorem ag162 : aggT Try.prog 162 = some true := by kernel_rfl
theorem si162 : sizeT Try.prog 162 = 2 := by kernel_rfl
theorem sz162 : szT Try.prog 162 = some 2 := by kernel_rfl
theorem by162 : bytesT Try.prog 162 = 16 := by kernel_rfl
theorem eq162 : eqT Try.prog 162 = some [(0, 0), (1, 0)] := by kernel_rfl
theorem str162 : structT Try.prog 162 = true := by kernel_rfl
theorem fi162_0 : fieldT Try.prog 162 0 = some (0, 2) := by kernel_rfl
theorem fi162_1 : fieldT Try.prog 162 1 = some (1, 2) := by kernel_rfl
theorem ze162 : zeroT Try.prog 162 = some [.int .i64 0, .int .i64 0] := by kernel_rfl
theorem kt163 : kindT Try.prog 163 = some 3 := by kernel_rfl
theorem kt164 : kindT Try.prog 164 = some 3 := by kernel_rfl
theorem kt165 : kindT Try.prog 165 = some 3 := by kernel_rfl
theorem kt166 : kindT Try.prog 166 = some 3 := by kernel_rfl
theorem kt167 : kindT Try.prog 167 = some 3 := by kernel_rfl
theorem kt168 : kindT Try.prog 168 = some 3 := by kernel_rfl
theorem kt169 : kindT Try.prog 169 = some 3 := by kernel_rfl
theorem kt170 : kindT Try.prog 170 = some 3 := by kernel_rfl
theorem kt171 : kindT Try.prog 171 = some 3 := by kernel_rfl
theorem kt172 : kindT Try.prog 172 = some 3 := by kernel_rfl
theorem kt173 : kindT Try.prog 173 = some 3 := by kernel_rfl
theorem kt174 : kindT Try.prog 174 = some 3 := by kernel_rfl
theorem kt175 : kindT Try.prog 175 = some 3 := by kernel_rfl
theorem kt176 : kindT Try.prog 176 = some 3 := by kernel_rfl
theorem kt177 : kindT Try.prog 177 = some 3 := by kernel_rfl
theorem kt178 : kindT Try.prog 178 = some 3 := by kernel_rfl
theorem kt179 : kindT Try.prog 179 = some 3 := by kernel_rfl
theorem kt180 : kindT Try.prog 180 = some 3 := by kernel_rfl
theorem kt181 : kindT Try.prog 181 = some 3 := by kernel_rfl
theorem ag182 : aggT Try.prog 182 = some true := by kernel_rfl
theorem si182 : sizeT Try.prog 182 = 2 := by kernel_rfl
theorem sz182 : szT Try.prog 182 = some 2 := by kernel_rfl
theorem by182 : bytesT Try.prog 182 = 48 := by kernel_rfl
theorem str182 : structT Try.prog 182 = true := by kernel_rfl
theorem fi182_0 : fieldT Try.prog 182 0 = some (0, 25) := by kernel_rfl
theorem fi182_1 : fieldT Try.prog 182 1 = some (1, 25) := by kernel_rfl
theorem ze182 : zeroT Try.prog 182 = some [.slice none 0 0, .slice none 0 0] := by kernel_rfl
theorem kt183 : kindT Try.prog 183 = some 3 := by kernel_rfl
theorem kt184 : kindT Try.prog 184 = some 3 := by kernel_rfl
theorem kt185 : kindT Try.prog 185 = some 3 := by kernel_rfl
theorem kt186 : kindT Try.prog 186 = some 3 := by kernel_rfl
theorem kt187 : kindT Try.prog 187 = some 3 := by kernel_rfl
theorem kt188 : kindT Try.prog 188 = some 3 := by kernel_rfl
theorem kt189 : kindT Try.prog 189 = some 3 := by kernel_rfl
theorem ag190 : aggT Try.prog 190 = some false := by kernel_rfl
theorem el190 : elemT Try.prog 190 = some 4 := by kernel_rfl
theorem si190 : sizeT Try.prog 190 = 1 := by kernel_rfl
theorem sz190 : szT Try.prog 190 = some 1 := by kernel_rfl
theorem by190 : bytesT Try.prog 190 = 24 := by kernel_rfl
theorem kt190 : kindT Try.prog 190 = some 0 := by kernel_rfl
theorem zv190 : zeroV Try.prog 190 = some (.slice none 0 0) := by kernel_rfl
theorem ze190 : zeroT Try.prog 190 = some [.slice none 0 0] := by kernel_rfl
theorem kt191 : kindT Try.prog 191 = some 3 := by kernel_rfl
theorem kt192 : kindT Try.prog 192 = some 3 := by kernel_rfl
theorem kt193 : kindT Try.prog 193 = some 3 := by kernel_rfl
theorem kt194 : kindT Try.prog 194 = some 3 := by kernel_rfl
theorem kt195 : kindT Try.prog 195 = some 3 := by kernel_rfl
theorem kt196 : kindT Try.prog 196 = some 3 := by kernel_rfl
theorem ag197 : aggT Try.prog 197 = some false := by kernel_rfl
theorem si197 : sizeT Try.prog 197 = 1 := by kernel_rfl
theorem sz197 : szT Try.prog 197 = some 1 := by kernel_rfl
theorem by197 : bytesT Try.prog 197 = 8 := by kernel_rfl
theorem in197 : intT Try.prog 197 = some .i64 := by kernel_rfl
theorem zv197 : zeroV Try.prog 197 = some (.int .i64 0) := by kernel_rfl
theorem ze197 : zeroT Try.prog 197 = some [.int .i64 0] := by kernel_rfl
theorem kt199 : kindT Try.prog 199 = some 3 := by kernel_rfl
theorem kt200 : kindT Try.prog 200 = some 3 := by kernel_rfl
theorem kt201 : kindT Try.prog 201 = some 3 := by kernel_rfl
theorem kt203 : kindT Try.prog 203 = some 3 := by kernel_rfl
theorem kt204 : kindT Try.prog 204 = some 3 := by kernel_rfl
theorem ag205 : aggT Try.prog 205 = some false := by kernel_rfl
theorem si205 : sizeT Try.prog 205 = 1 := by kernel_rfl
theorem sz205 : szT Try.prog 205 = some 1 := by kernel_rfl
theorem by205 : bytesT Try.prog 205 = 4 := by kernel_rfl
theorem in205 : intT Try.prog 205 = some .u32 := by kernel_rfl
theorem zv205 : zeroV Try.prog 205 = some (.int .u32 0) := by kernel_rfl
theorem ze205 : zeroT Try.prog 205 = some [.int .u32 0] := by kernel_rfl
theorem kt206 : kindT Try.prog 206 = some 3 := by kernel_rfl
theorem ag207 : aggT Try.prog 207 = some false := by kernel_rfl
theorem si207 : sizeT Try.prog 207 = 1 := by kernel_rfl
theorem sz207 : szT Try.prog 207 = some 1 := by kernel_rfl
theorem by207 : bytesT Try.prog 207 = 8 := by kernel_rfl
theorem in207 : intT Try.prog 207 = some .u64 := by kernel_rfl
theorem zv207 : zeroV Try.prog 207 = some (.int .u64 0) := by kernel_rfl
theorem ze207 : zeroT Try.prog 207 = some [.int .u64 0] := by kernel_rfl
theorem ag208 : aggT Try.prog 208 = some false := by kernel_rfl
theorem si208 : sizeT Try.prog 208 = 1 := by kernel_rfl
theorem sz208 : szT Try.prog 208 = some 1 := by kernel_rfl
theorem by208 : bytesT Try.prog 208 = 8 := by kernel_rfl
theorem in208 : intT Try.prog 208 = some .u64 := by kernel_rfl
theorem zv208 : zeroV Try.prog 208 = some (.int .u64 0) := by kernel_rfl
theorem ze208 : zeroT Try.prog 208 = some [.int .u64 0] := by kernel_rfl
theorem kt209 : kindT Try.prog 209 = some 3 := by kernel_rfl
theorem kt210 : kindT Try.prog 210 = some 3 := by kernel_rfl
theorem kt211 : kindT Try.prog 211 = some 3 := by kernel_rfl
theorem ag212 : aggT Try.prog 212 = some false := by kernel_rfl
theorem si212 : sizeT Try.prog 212 = 1 := by kernel_rfl
theorem sz212 : szT Try.prog 212 = some 1 := by kernel_rfl
theorem by212 : bytesT Try.prog 212 = 8 := by kernel_rfl
theorem kt212 : kindT Try.prog 212 = some 1 := by kernel_rfl
theorem zv212 : zeroV Try.prog 212 = some (.pointer none) := by kernel_rfl
theorem ze212 : zeroT Try.prog 212 = some [.pointer none] := by kernel_rfl
theorem kt213 : kindT Try.prog 213 = some 3 := by kernel_rfl
theorem ag214 : aggT Try.prog 214 = some false := by kernel_rfl
theorem si214 : sizeT Try.prog 214 = 1 := by kernel_rfl
theorem sz214 : szT Try.prog 214 = some 1 := by kernel_rfl
theorem by214 : bytesT Try.prog 214 = 8 := by kernel_rfl
theorem kt214 : kindT Try.prog 214 = some 1 := by kernel_rfl
theorem zv214 : zeroV Try.prog 214 = some (.pointer none) := by kernel_rfl
theorem ze214 : zeroT Try.prog 214 = some [.pointer none] := by kernel_rfl
theorem kt216 : kindT Try.prog 216 = some 3 := by kernel_rfl
theorem kt217 : kindT Try.prog 217 = some 3 := by kernel_rfl
theorem kt218 : kindT Try.prog 218 = some 3 := by kernel_rfl
theorem ag219 : aggT Try.prog 219 = some true := by kernel_rfl
theorem si219 : sizeT Try.prog 219 = 4 := by kernel_rfl
theorem sz219 : szT Try.prog 219 = some 4 := by kernel_rfl
theorem by219 : bytesT Try.prog 219 = 40 := by kernel_rfl
theorem str219 : structT Try.prog 219 = true := by kernel_rfl
theorem fi219_0 : fieldT Try.prog 219 0 = some (0, 17) := by kernel_rfl
theorem fi219_1 : fieldT Try.prog 219 1 = some (1, 17) := by kernel_rfl
theorem fi219_2 : fieldT Try.prog 219 2 = some (2, 17) := by kernel_rfl
theorem fi219_3 : fieldT Try.prog 219 3 = some (3, 9) := by kernel_rfl
theorem ze219 : zeroT Try.prog 219 = some [.pointer none, .pointer none, .pointer none, .string ⟨#[]⟩] := by kernel_rfl
theorem ag220 : aggT Try.prog 220 = some true := by kernel_rfl
theorem si220 : sizeT Try.prog 220 = 4 := by kernel_rfl
theorem sz220 : szT Try.prog 220 = some 4 := by kernel_rfl
theorem by220 : bytesT Try.prog 220 = 40 := by kernel_rfl
theorem str220 : structT Try.prog 220 = true := by kernel_rfl
theorem fi220_0 : fieldT Try.prog 220 0 = some (0, 17) := by kernel_rfl
theorem fi220_1 : fieldT Try.prog 220 1 = some (1, 17) := by kernel_rfl
theorem fi220_2 : fieldT Try.prog 220 2 = some (2, 17) := by kernel_rfl
theorem fi220_3 : fieldT Try.prog 220 3 = some (3, 9) := by kernel_rfl
theorem ze220 : zeroT Try.prog 220 = some [.pointer none, .pointer none, .pointer none, .string ⟨#[]⟩] := by kernel_rfl
theorem ag221 : aggT Try.prog 221 = some true := by kernel_rfl
theorem si221 : sizeT Try.prog 221 = 0 := by kernel_rfl
theorem sz221 : szT Try.prog 221 = some 0 := by kernel_rfl
theorem by221 : bytesT Try.prog 221 = 0 := by kernel_rfl
theorem ag222 : aggT Try.prog 222 = some true := by kernel_rfl
theorem si222 : sizeT Try.prog 222 = 0 := by kernel_rfl
theorem sz222 : szT Try.prog 222 = some 0 := by kernel_rfl
theorem by222 : bytesT Try.prog 222 = 0 := by kernel_rfl
theorem str222 : structT Try.prog 222 = true := by kernel_rfl
theorem ag223 : aggT Try.prog 223 = some true := by kernel_rfl
theorem si223 : sizeT Try.prog 223 = 0 := by kernel_rfl
theorem sz223 : szT Try.prog 223 = some 0 := by kernel_rfl
theorem by223 : bytesT Try.prog 223 = 0 := by kernel_rfl
theorem str223 : structT Try.prog 223 = true := by kernel_rfl
theorem kt224 : kindT Try.prog 224 = some 3 := by kernel_rfl
theorem ag225 : aggT Try.prog 225 = some false := by kernel_rfl
theorem si225 : sizeT Try.prog 225 = 1 := by kernel_rfl
theorem sz225 : szT Try.prog 225 = some 1 := by kernel_rfl
theorem by225 : bytesT Try.prog 225 = 1 := by kernel_rfl
theorem in225 : intT Try.prog 225 = some .u8 := by kernel_rfl
theorem zv225 : zeroV Try.prog 225 = some (.int .u8 0) := by kernel_rfl
theorem ze225 : zeroT Try.prog 225 = some [.int .u8 0] := by kernel_rfl
theorem ag226 : aggT Try.prog 226 = some false := by kernel_rfl
theorem si226 : sizeT Try.prog 226 = 1 := by kernel_rfl
theorem sz226 : szT Try.prog 226 = some 1 := by kernel_rfl
theorem by226 : bytesT Try.prog 226 = 1 := by kernel_rfl
theorem in226 : intT Try.prog 226 = some .u8 := by kernel_rfl
theorem zv226 : zeroV Try.prog 226 = some (.int .u8 0) := by kernel_rfl
theorem ze226 : zeroT Try.prog 226 = some [.int .u8 0] := by kernel_rfl
theorem kt227 : kindT Try.prog 227 = some 3 := by kernel_rfl
theorem ag228 : aggT Try.prog 228 = some false := by kernel_rfl
theorem si228 : sizeT Try.prog 228 = 1 := by kernel_rfl
theorem sz228 : szT Try.prog 228 = some 1 := by kernel_rfl
theorem by228 : bytesT Try.prog 228 = 8 := by kernel_rfl
theorem kt228 : kindT Try.prog 228 = some 1 := by kernel_rfl
theorem zv228 : zeroV Try.prog 228 = some (.pointer none) := by kernel_rfl
theorem ze228 : zeroT Try.prog 228 = some [.pointer none] := by kernel_rfl
theorem ag229 : aggT Try.prog 229 = some false := by kernel_rfl
theorem si229 : sizeT Try.prog 229 = 1 := by kernel_rfl
theorem sz229 : szT Try.prog 229 = some 1 := by kernel_rfl
theorem by229 : bytesT Try.prog 229 = 4 := by kernel_rfl
theorem in229 : intT Try.prog 229 = some .i32 := by kernel_rfl
theorem zv229 : zeroV Try.prog 229 = some (.int .i32 0) := by kernel_rfl
theorem ze229 : zeroT Try.prog 229 = some [.int .i32 0] := by kernel_rfl
theorem ag230 : aggT Try.prog 230 = some false := by kernel_rfl
theorem si230 : sizeT Try.prog 230 = 1 := by kernel_rfl
theorem sz230 : szT Try.prog 230 = some 1 := by kernel_rfl
theorem by230 : bytesT Try.prog 230 = 4 := by kernel_rfl
theorem in230 : intT Try.prog 230 = some .i32 := by kernel_rfl
theorem zv230 : zeroV Try.prog 230 = some (.int .i32 0) := by kernel_rfl
theorem ze230 : zeroT Try.prog 230 = some [.int .i32 0] := by kernel_rfl
theorem ag231 : aggT Try.prog 231 = some true := by kernel_rfl
theorem si231 : sizeT Try.prog 231 = 11 := by kernel_rfl
theorem sz231 : szT Try.prog 231 = some 11 := by kernel_rfl
theorem by231 : bytesT Try.prog 231 = 48 := by kernel_rfl
theorem str231 : structT Try.prog 231 = true := by kernel_rfl
theorem fi231_0 : fieldT Try.prog 231 0 = some (0, 12) := by kernel_rfl
theorem fi231_1 : fieldT Try.prog 231 1 = some (1, 12) := by kernel_rfl
theorem fi231_2 : fieldT Try.prog 231 2 = some (2, 205) := by kernel_rfl
theorem fi231_3 : fieldT Try.prog 231 3 = some (3, 225) := by kernel_rfl
theorem fi231_4 : fieldT Try.prog 231 4 = some (4, 5) := by kernel_rfl
theorem fi231_5 : fieldT Try.prog 231 5 = some (5, 5) := by kernel_rfl
theorem fi231_6 : fieldT Try.prog 231 6 = some (6, 226) := by kernel_rfl
theorem fi231_7 : fieldT Try.prog 231 7 = some (7, 227) := by kernel_rfl
theorem fi231_8 : fieldT Try.prog 231 8 = some (8, 228) := by kernel_rfl
theorem fi231_9 : fieldT Try.prog 231 9 = some (9, 229) := by kernel_rfl
theorem fi231_10 : fieldT Try.prog 231 10 = some (10, 230) := by kernel_rfl
theorem ze231 : zeroT Try.prog 231 = some [.int .u64 0, .int .u64 0, .int .u32 0, .int .u8 0, .int .u8 0, .int .u8 0, .int .u8 0, .nilFunc, .pointer none, .int .i32 0, .int .i32 0] := by kernel_rfl
theorem ag232 : aggT Try.prog 232 = some true := by kernel_rfl
theorem si232 : sizeT Try.prog 232 = 11 := by kernel_rfl
theorem sz232 : szT Try.prog 232 = some 11 := by kernel_rfl
theorem by232 : bytesT Try.prog 232 = 48 := by kernel_rfl
theorem str232 : structT Try.prog 232 = true := by kernel_rfl
theorem fi232_0 : fieldT Try.prog 232 0 = some (0, 12) := by kernel_rfl
theorem fi232_1 : fieldT Try.prog 232 1 = some (1, 12) := by kernel_rfl
theorem fi232_2 : fieldT Try.prog 232 2 = some (2, 205) := by kernel_rfl
theorem fi232_3 : fieldT Try.prog 232 3 = some (3, 225) := by kernel_rfl
theorem fi232_4 : fieldT Try.prog 232 4 = some (4, 5) := by kernel_rfl
theorem fi232_5 : fieldT Try.prog 232 5 = some (5, 5) := by kernel_rfl
theorem fi232_6 : fieldT Try.prog 232 6 = some (6, 226) := by kernel_rfl
theorem fi232_7 : fieldT Try.prog 232 7 = some (7, 227) := by kernel_rfl
theorem fi232_8 : fieldT Try.prog 232 8 = some (8, 228) := by kernel_rfl
theorem fi232_9 : fieldT Try.prog 232 9 = some (9, 229) := by kernel_rfl
theorem fi232_10 : fieldT Try.prog 232 10 = some (10, 230) := by kernel_rfl
theorem ze232 : zeroT Try.prog 232 = some [.int .u64 0, .int .u64 0, .int .u32 0, .int .u8 0, .int .u8 0, .int .u8 0, .int .u8 0, .nilFunc, .pointer none, .int .i32 0, .int .i32 0] := by kernel_rfl
theorem tyF : type_of% (And.intro (And.intro (And.intro (And.intro (And.intro (And.intro (And.intro (And.intro (And.intro (kt1) (ag2)) (And.intro (si2) (And.intro (sz2) (by2))))
  (And.intro (And.intro (in2) (And.intro (zv2) (ze2))) (And.intro (ag3) (And.intro (si3) (sz3))))) (And.intro (And.intro (And.intro (by3) (in3)) (And.intro (zv3) (And.intro (ze3)
  (ag4)))) (And.intro (And.intro (si4) (And.intro (sz4) (by4))) (And.intro (bo4) (And.intro (zv4) (ze4)))))) (And.intro (And.intro (And.intro (And.intro (ag5) (si5)) (And.intro
  (sz5) (And.intro (by5) (in5)))) (And.intro (And.intro (zv5) (And.intro (ze5) (ag6))) (And.intro (si6) (And.intro (sz6) (by6))))) (And.intro (And.intro (And.intro (in6) (And.intro
  (zv6) (ze6))) (And.intro (ag7) (And.intro (si7) (sz7)))) (And.intro (And.intro (by7) (And.intro (str7) (fi7_0))) (And.intro (fi7_1) (And.intro (fi7_2) (fi7_3))))))) (And.intro
  (And.intro (And.intro (And.intro (And.intro (ze7) (ag8)) (And.intro (si8) (And.intro (sz8) (by8)))) (And.intro (And.intro (str8) (And.intro (fi8_0) (fi8_1))) (And.intro (fi8_2)
  (And.intro (fi8_3) (ze8))))) (And.intro (And.intro (And.intro (ag9) (si9)) (And.intro (sz9) (And.intro (by9) (st9)))) (And.intro (And.intro (zv9) (And.intro (ze9) (ag10)))
  (And.intro (si10) (And.intro (sz10) (by10)))))) (And.intro (And.intro (And.intro (And.intro (st10) (zv10)) (And.intro (ze10) (And.intro (ag11) (si11)))) (And.intro (And.intro
  (sz11) (And.intro (by11) (st11))) (And.intro (zv11) (And.intro (ze11) (ag12))))) (And.intro (And.intro (And.intro (si12) (And.intro (sz12) (by12))) (And.intro (in12) (And.intro
  (zv12) (ze12)))) (And.intro (And.intro (ag13) (And.intro (si13) (sz13))) (And.intro (by13) (And.intro (str13) (fi13_0)))))))) (And.intro (And.intro (And.intro (And.intro
  (And.intro (And.intro (fi13_1) (ze13)) (And.intro (ag14) (And.intro (si14) (sz14)))) (And.intro (And.intro (by14) (And.intro (str14) (fi14_0))) (And.intro (fi14_1) (And.intro
  (ze14) (ag15))))) (And.intro (And.intro (And.intro (si15) (sz15)) (And.intro (by15) (And.intro (kt15) (zv15)))) (And.intro (And.intro (ze15) (And.intro (ag16) (si16))) (And.intro
  (sz16) (And.intro (by16) (kt16)))))) (And.intro (And.intro (And.intro (And.intro (zv16) (ze16)) (And.intro (ag17) (And.intro (si17) (sz17)))) (And.intro (And.intro (by17)
  (And.intro (kt17) (zv17))) (And.intro (ze17) (And.intro (ag18) (si18))))) (And.intro (And.intro (And.intro (sz18) (And.intro (by18) (str18))) (And.intro (fi18_0) (And.intro (ze18)
  (ag19)))) (And.intro (And.intro (si19) (And.intro (sz19) (by19))) (And.intro (str19) (And.intro (fi19_0) (ze19))))))) (And.intro (And.intro (And.intro (And.intro (And.intro (kt20)
  (ag21)) (And.intro (si21) (And.intro (sz21) (by21)))) (And.intro (And.intro (in21) (And.intro (zv21) (ze21))) (And.intro (ag22) (And.intro (el22) (si22))))) (And.intro (And.intro
  (And.intro (sz22) (And.intro (by22) (kt22))) (And.intro (zv22) (And.intro (ze22) (ag23)))) (And.intro (And.intro (si23) (And.intro (sz23) (by23))) (And.intro (str23) (And.intro
  (fi23_0) (fi23_1)))))) (And.intro (And.intro (And.intro (And.intro (fi23_2) (ze23)) (And.intro (ag24) (And.intro (si24) (sz24)))) (And.intro (And.intro (by24) (And.intro (str24)
  (fi24_0))) (And.intro (fi24_1) (And.intro (fi24_2) (ze24))))) (And.intro (And.intro (And.intro (ag25) (And.intro (el25) (si25))) (And.intro (sz25) (And.intro (by25) (kt25))))
  (And.intro (And.intro (zv25) (And.intro (ze25) (kt26))) (And.intro (kt27) (And.intro (ag28) (si28))))))))) (And.intro (And.intro (And.intro (And.intro (And.intro (And.intro
  (And.intro (sz28) (by28)) (And.intro (str28) (And.intro (fi28_0) (fi28_1)))) (And.intro (And.intro (fi28_2) (And.intro (ze28) (kt29))) (And.intro (kt30) (And.intro (kt31)
  (kt32))))) (And.intro (And.intro (And.intro (kt33) (kt34)) (And.intro (kt35) (And.intro (kt36) (kt37)))) (And.intro (And.intro (ag38) (And.intro (el38) (si38))) (And.intro (sz38)
  (And.intro (by38) (kt38)))))) (And.intro (And.intro (And.intro (And.intro (zv38) (ze38)) (And.intro (kt39) (And.intro (ag40) (el40)))) (And.intro (And.intro (si40) (And.intro
  (sz40) (by40))) (And.intro (kt40) (And.intro (zv40) (ze40))))) (And.intro (And.intro (And.intro (kt42) (And.intro (ag43) (el43))) (And.intro (si43) (And.intro (sz43) (by43))))
  (And.intro (And.intro (kt43) (And.intro (zv43) (ze43))) (And.intro (kt45) (And.intro (kt47) (kt48))))))) (And.intro (And.intro (And.intro (And.intro (And.intro (kt50) (kt51))
  (And.intro (kt52) (And.intro (kt53) (kt54)))) (And.intro (And.intro (kt55) (And.intro (kt56) (kt57))) (And.intro (kt58) (And.intro (ag59) (el59))))) (And.intro (And.intro
  (And.intro (si59) (And.intro (sz59) (by59))) (And.intro (kt59) (And.intro (zv59) (ze59)))) (And.intro (And.intro (ag60) (And.intro (el60) (si60))) (And.intro (sz60) (And.intro
  (by60) (kt60)))))) (And.intro (And.intro (And.intro (And.intro (zv60) (ze60)) (And.intro (ag61) (And.intro (si61) (sz61)))) (And.intro (And.intro (by61) (And.intro (str61)
  (fi61_0))) (And.intro (fi61_1) (And.intro (fi61_2) (ze61))))) (And.intro (And.intro (And.intro (ag62) (And.intro (si62) (sz62))) (And.intro (by62) (And.intro (str62) (fi62_0))))
  (And.intro (And.intro (fi62_1) (And.intro (fi62_2) (ze62))) (And.intro (kt63) (And.intro (kt64) (ag65)))))))) (And.intro (And.intro (And.intro (And.intro (And.intro (And.intro
  (el65) (si65)) (And.intro (sz65) (And.intro (by65) (kt65)))) (And.intro (And.intro (zv65) (And.intro (ze65) (ag66))) (And.intro (si66) (And.intro (sz66) (by66))))) (And.intro
  (And.intro (And.intro (str66) (fi66_0)) (And.intro (fi66_1) (And.intro (fi66_2) (ze66)))) (And.intro (And.intro (ag67) (And.intro (si67) (sz67))) (And.intro (by67) (And.intro
  (str67) (fi67_0)))))) (And.intro (And.intro (And.intro (And.intro (fi67_1) (fi67_2)) (And.intro (ze67) (And.intro (kt68) (kt69)))) (And.intro (And.intro (kt70) (And.intro (kt71)
  (ag72))) (And.intro (si72) (And.intro (sz72) (by72))))) (And.intro (And.intro (And.intro (str72) (And.intro (fi72_0) (fi72_1))) (And.intro (ze72) (And.intro (ag73) (si73))))
  (And.intro (And.intro (sz73) (And.intro (by73) (str73))) (And.intro (fi73_0) (And.intro (fi73_1) (ze73))))))) (And.intro (And.intro (And.intro (And.intro (And.intro (kt74) (kt75))
  (And.intro (ag76) (And.intro (si76) (sz76)))) (And.intro (And.intro (by76) (And.intro (str76) (fi76_0))) (And.intro (fi76_1) (And.intro (ze76) (kt77))))) (And.intro (And.intro
  (And.intro (kt78) (And.intro (kt79) (kt81))) (And.intro (ag82) (And.intro (el82) (si82)))) (And.intro (And.intro (sz82) (And.intro (by82) (kt82))) (And.intro (zv82) (And.intro
  (ze82) (kt83)))))) (And.intro (And.intro (And.intro (And.intro (kt84) (kt85)) (And.intro (kt86) (And.intro (kt88) (kt89)))) (And.intro (And.intro (kt90) (And.intro (kt91) (kt92)))
  (And.intro (kt93) (And.intro (kt94) (kt95))))) (And.intro (And.intro (And.intro (kt96) (And.intro (kt97) (kt98))) (And.intro (kt99) (And.intro (kt100) (ag101)))) (And.intro
  (And.intro (si101) (And.intro (sz101) (by101))) (And.intro (kt101) (And.intro (zv101) (ze101)))))))))) (And.intro (And.intro (And.intro (And.intro (And.intro (And.intro (And.intro
  (And.intro (kt102) (kt104)) (And.intro (kt105) (And.intro (kt106) (kt107)))) (And.intro (And.intro (kt108) (And.intro (kt109) (kt110))) (And.intro (ag111) (And.intro (si111)
  (sz111))))) (And.intro (And.intro (And.intro (by111) (eq111)) (And.intro (str111) (And.intro (fi111_0) (fi111_1)))) (And.intro (And.intro (ze111) (And.intro (ag112) (si112)))
  (And.intro (sz112) (And.intro (by112) (eq112)))))) (And.intro (And.intro (And.intro (And.intro (str112) (fi112_0)) (And.intro (fi112_1) (And.intro (ze112) (ag113)))) (And.intro
  (And.intro (si113) (And.intro (sz113) (by113))) (And.intro (str113) (And.intro (fi113_0) (fi113_1))))) (And.intro (And.intro (And.intro (ze113) (And.intro (ag114) (si114)))
  (And.intro (sz114) (And.intro (by114) (str114)))) (And.intro (And.intro (fi114_0) (And.intro (fi114_1) (ze114))) (And.intro (kt115) (And.intro (kt116) (kt117))))))) (And.intro
  (And.intro (And.intro (And.intro (And.intro (kt118) (kt119)) (And.intro (kt120) (And.intro (kt121) (kt122)))) (And.intro (And.intro (ag123) (And.intro (si123) (sz123))) (And.intro
  (by123) (And.intro (mp123) (zv123))))) (And.intro (And.intro (And.intro (ze123) (And.intro (kt124) (kt125))) (And.intro (kt126) (And.intro (kt127) (ag128)))) (And.intro (And.intro
  (el128) (And.intro (si128) (sz128))) (And.intro (by128) (And.intro (kt128) (zv128)))))) (And.intro (And.intro (And.intro (And.intro (ze128) (kt129)) (And.intro (ag130) (And.intro
  (si130) (sz130)))) (And.intro (And.intro (by130) (And.intro (eq130) (str130))) (And.intro (fi130_0) (And.intro (fi130_1) (ze130))))) (And.intro (And.intro (And.intro (ag131)
  (And.intro (si131) (sz131))) (And.intro (by131) (And.intro (eq131) (str131)))) (And.intro (And.intro (fi131_0) (And.intro (fi131_1) (ze131))) (And.intro (kt132) (And.intro (kt133)
  (kt134)))))))) (And.intro (And.intro (And.intro (And.intro (And.intro (And.intro (kt135) (kt136)) (And.intro (kt137) (And.intro (kt138) (kt139)))) (And.intro (And.intro (kt140)
  (And.intro (kt141) (kt142))) (And.intro (kt143) (And.intro (kt144) (kt145))))) (And.intro (And.intro (And.intro (kt146) (kt147)) (And.intro (ag148) (And.intro (si148) (sz148))))
  (And.intro (And.intro (by148) (And.intro (str148) (fi148_0))) (And.intro (fi148_1) (And.intro (fi148_2) (ze148)))))) (And.intro (And.intro (And.intro (And.intro (ag149) (si149))
  (And.intro (sz149) (And.intro (by149) (str149)))) (And.intro (And.intro (fi149_0) (And.intro (fi149_1) (fi149_2))) (And.intro (ze149) (And.intro (kt150) (kt151))))) (And.intro
  (And.intro (And.intro (kt152) (And.intro (kt153) (kt154))) (And.intro (kt155) (And.intro (kt156) (kt157)))) (And.intro (And.intro (ag158) (And.intro (el158) (si158))) (And.intro
  (sz158) (And.intro (by158) (kt158))))))) (And.intro (And.intro (And.intro (And.intro (And.intro (zv158) (ze158)) (And.intro (ag159) (And.intro (si159) (sz159)))) (And.intro
  (And.intro (by159) (And.intro (in159) (zv159))) (And.intro (ze159) (And.intro (kt160) (kt161))))) (And.intro (And.intro (And.intro (ag162) (And.intro (si162) (sz162))) (And.intro
  (by162) (And.intro (eq162) (str162)))) (And.intro (And.intro (fi162_0) (And.intro (fi162_1) (ze162))) (And.intro (kt163) (And.intro (kt164) (kt165)))))) (And.intro (And.intro
  (And.intro (And.intro (kt166) (kt167)) (And.intro (kt168) (And.intro (kt169) (kt170)))) (And.intro (And.intro (kt171) (And.intro (kt172) (kt173))) (And.intro (kt174) (And.intro
  (kt175) (kt176))))) (And.intro (And.intro (And.intro (kt177) (And.intro (kt178) (kt179))) (And.intro (kt180) (And.intro (kt181) (ag182)))) (And.intro (And.intro (si182) (And.intro
  (sz182) (by182))) (And.intro (str182) (And.intro (fi182_0) (fi182_1))))))))) (And.intro (And.intro (And.intro (And.intro (And.intro (And.intro (And.intro (ze182) (kt183))
  (And.intro (kt184) (And.intro (kt185) (kt186)))) (And.intro (And.intro (kt187) (And.intro (kt188) (kt189))) (And.intro (ag190) (And.intro (el190) (si190))))) (And.intro (And.intro
  (And.intro (sz190) (by190)) (And.intro (kt190) (And.intro (zv190) (ze190)))) (And.intro (And.intro (kt191) (And.intro (kt192) (kt193))) (And.intro (kt194) (And.intro (kt195)
  (kt196)))))) (And.intro (And.intro (And.intro (And.intro (ag197) (si197)) (And.intro (sz197) (And.intro (by197) (in197)))) (And.intro (And.intro (zv197) (And.intro (ze197)
  (kt199))) (And.intro (kt200) (And.intro (kt201) (kt203))))) (And.intro (And.intro (And.intro (kt204) (And.intro (ag205) (si205))) (And.intro (sz205) (And.intro (by205) (in205))))
  (And.intro (And.intro (zv205) (And.intro (ze205) (kt206))) (And.intro (ag207) (And.intro (si207) (sz207))))))) (And.intro (And.intro (And.intro (And.intro (And.intro (by207)
  (in207)) (And.intro (zv207) (And.intro (ze207) (ag208)))) (And.intro (And.intro (si208) (And.intro (sz208) (by208))) (And.intro (in208) (And.intro (zv208) (ze208))))) (And.intro
  (And.intro (And.intro (kt209) (And.intro (kt210) (kt211))) (And.intro (ag212) (And.intro (si212) (sz212)))) (And.intro (And.intro (by212) (And.intro (kt212) (zv212))) (And.intro
  (ze212) (And.intro (kt213) (ag214)))))) (And.intro (And.intro (And.intro (And.intro (si214) (sz214)) (And.intro (by214) (And.intro (kt214) (zv214)))) (And.intro (And.intro (ze214)
  (And.intro (kt216) (kt217))) (And.intro (kt218) (And.intro (ag219) (si219))))) (And.intro (And.intro (And.intro (sz219) (And.intro (by219) (str219))) (And.intro (fi219_0)
  (And.intro (fi219_1) (fi219_2)))) (And.intro (And.intro (fi219_3) (And.intro (ze219) (ag220))) (And.intro (si220) (And.intro (sz220) (by220)))))))) (And.intro (And.intro
  (And.intro (And.intro (And.intro (And.intro (str220) (fi220_0)) (And.intro (fi220_1) (And.intro (fi220_2) (fi220_3)))) (And.intro (And.intro (ze220) (And.intro (ag221) (si221)))
  (And.intro (sz221) (And.intro (by221) (ag222))))) (And.intro (And.intro (And.intro (si222) (sz222)) (And.intro (by222) (And.intro (str222) (ag223)))) (And.intro (And.intro (si223)
  (And.intro (sz223) (by223))) (And.intro (str223) (And.intro (kt224) (ag225)))))) (And.intro (And.intro (And.intro (And.intro (si225) (sz225)) (And.intro (by225) (And.intro (in225)
  (zv225)))) (And.intro (And.intro (ze225) (And.intro (ag226) (si226))) (And.intro (sz226) (And.intro (by226) (in226))))) (And.intro (And.intro (And.intro (zv226) (And.intro (ze226)
  (kt227))) (And.intro (ag228) (And.intro (si228) (sz228)))) (And.intro (And.intro (by228) (And.intro (kt228) (zv228))) (And.intro (ze228) (And.intro (ag229) (si229)))))))
  (And.intro (And.intro (And.intro (And.intro (And.intro (sz229) (by229)) (And.intro (in229) (And.intro (zv229) (ze229)))) (And.intro (And.intro (ag230) (And.intro (si230) (sz230)))
  (And.intro (by230) (And.intro (in230) (zv230))))) (And.intro (And.intro (And.intro (ze230) (And.intro (ag231) (si231))) (And.intro (sz231) (And.intro (by231) (str231))))
  (And.intro (And.intro (fi231_0) (And.intro (fi231_1) (fi231_2))) (And.intro (fi231_3) (And.intro (fi231_4) (fi231_5)))))) (And.intro (And.intro (And.intro (And.intro (fi231_6)
  (fi231_7)) (And.intro (fi231_8) (And.intro (fi231_9) (fi231_10)))) (And.intro (And.intro (ze231) (And.intro (ag232) (si232))) (And.intro (sz232) (And.intro (by232) (str232)))))
  (And.intro (And.intro (And.intro (fi232_0) (And.intro (fi232_1) (fi232_2))) (And.intro (fi232_3) (And.intro (fi232_4) (fi232_5)))) (And.intro (And.intro (fi232_6) (And.intro
  (fi232_7) (fi232_8))) (And.intro (fi232_9) (And.intro (fi232_10) (ze232))))))))))) := And.intro (And.intro (And.intro (And.intro (And.intro (And.intro (And.intro (And.intro
  (And.intro (kt1) (ag2)) (And.intro (si2) (And.intro (sz2) (by2)))) (And.intro (And.intro (in2) (And.intro (zv2) (ze2))) (And.intro (ag3) (And.intro (si3) (sz3))))) (And.intro
  (And.intro (And.intro (by3) (in3)) (And.intro (zv3) (And.intro (ze3) (ag4)))) (And.intro (And.intro (si4) (And.intro (sz4) (by4))) (And.intro (bo4) (And.intro (zv4) (ze4))))))
  (And.intro (And.intro (And.intro (And.intro (ag5) (si5)) (And.intro (sz5) (And.intro (by5) (in5)))) (And.intro (And.intro (zv5) (And.intro (ze5) (ag6))) (And.intro (si6)
  (And.intro (sz6) (by6))))) (And.intro (And.intro (And.intro (in6) (And.intro (zv6) (ze6))) (And.intro (ag7) (And.intro (si7) (sz7)))) (And.intro (And.intro (by7) (And.intro (str7)
  (fi7_0))) (And.intro (fi7_1) (And.intro (fi7_2) (fi7_3))))))) (And.intro (And.intro (And.intro (And.intro (And.intro (ze7) (ag8)) (And.intro (si8) (And.intro (sz8) (by8))))
  (And.intro (And.intro (str8) (And.intro (fi8_0) (fi8_1))) (And.intro (fi8_2) (And.intro (fi8_3) (ze8))))) (And.intro (And.intro (And.intro (ag9) (si9)) (And.intro (sz9) (And.intro
  (by9) (st9)))) (And.intro (And.intro (zv9) (And.intro (ze9) (ag10))) (And.intro (si10) (And.intro (sz10) (by10)))))) (And.intro (And.intro (And.intro (And.intro (st10) (zv10))
  (And.intro (ze10) (And.intro (ag11) (si11)))) (And.intro (And.intro (sz11) (And.intro (by11) (st11))) (And.intro (zv11) (And.intro (ze11) (ag12))))) (And.intro (And.intro
  (And.intro (si12) (And.intro (sz12) (by12))) (And.intro (in12) (And.intro (zv12) (ze12)))) (And.intro (And.intro (ag13) (And.intro (si13) (sz13))) (And.intro (by13) (And.intro
  (str13) (fi13_0)))))))) (And.intro (And.intro (And.intro (And.intro (And.intro (And.intro (fi13_1) (ze13)) (And.intro (ag14) (And.intro (si14) (sz14)))) (And.intro (And.intro
  (by14) (And.intro (str14) (fi14_0))) (And.intro (fi14_1) (And.intro (ze14) (ag15))))) (And.intro (And.intro (And.intro (si15) (sz15)) (And.intro (by15) (And.intro (kt15) (zv15))))
  (And.intro (And.intro (ze15) (And.intro (ag16) (si16))) (And.intro (sz16) (And.intro (by16) (kt16)))))) (And.intro (And.intro (And.intro (And.intro (zv16) (ze16)) (And.intro
  (ag17) (And.intro (si17) (sz17)))) (And.intro (And.intro (by17) (And.intro (kt17) (zv17))) (And.intro (ze17) (And.intro (ag18) (si18))))) (And.intro (And.intro (And.intro (sz18)
  (And.intro (by18) (str18))) (And.intro (fi18_0) (And.intro (ze18) (ag19)))) (And.intro (And.intro (si19) (And.intro (sz19) (by19))) (And.intro (str19) (And.intro (fi19_0)
  (ze19))))))) (And.intro (And.intro (And.intro (And.intro (And.intro (kt20) (ag21)) (And.intro (si21) (And.intro (sz21) (by21)))) (And.intro (And.intro (in21) (And.intro (zv21)
  (ze21))) (And.intro (ag22) (And.intro (el22) (si22))))) (And.intro (And.intro (And.intro (sz22) (And.intro (by22) (kt22))) (And.intro (zv22) (And.intro (ze22) (ag23)))) (And.intro
  (And.intro (si23) (And.intro (sz23) (by23))) (And.intro (str23) (And.intro (fi23_0) (fi23_1)))))) (And.intro (And.intro (And.intro (And.intro (fi23_2) (ze23)) (And.intro (ag24)
  (And.intro (si24) (sz24)))) (And.intro (And.intro (by24) (And.intro (str24) (fi24_0))) (And.intro (fi24_1) (And.intro (fi24_2) (ze24))))) (And.intro (And.intro (And.intro (ag25)
  (And.intro (el25) (si25))) (And.intro (sz25) (And.intro (by25) (kt25)))) (And.intro (And.intro (zv25) (And.intro (ze25) (kt26))) (And.intro (kt27) (And.intro (ag28) (si28)))))))))
  (And.intro (And.intro (And.intro (And.intro (And.intro (And.intro (And.intro (sz28) (by28)) (And.intro (str28) (And.intro (fi28_0) (fi28_1)))) (And.intro (And.intro (fi28_2)
  (And.intro (ze28) (kt29))) (And.intro (kt30) (And.intro (kt31) (kt32))))) (And.intro (And.intro (And.intro (kt33) (kt34)) (And.intro (kt35) (And.intro (kt36) (kt37)))) (And.intro
  (And.intro (ag38) (And.intro (el38) (si38))) (And.intro (sz38) (And.intro (by38) (kt38)))))) (And.intro (And.intro (And.intro (And.intro (zv38) (ze38)) (And.intro (kt39)
  (And.intro (ag40) (el40)))) (And.intro (And.intro (si40) (And.intro (sz40) (by40))) (And.intro (kt40) (And.intro (zv40) (ze40))))) (And.intro (And.intro (And.intro (kt42)
  (And.intro (ag43) (el43))) (And.intro (si43) (And.intro (sz43) (by43)))) (And.intro (And.intro (kt43) (And.intro (zv43) (ze43))) (And.intro (kt45) (And.intro (kt47) (kt48)))))))
  (And.intro (And.intro (And.intro (And.intro (And.intro (kt50) (kt51)) (And.intro (kt52) (And.intro (kt53) (kt54)))) (And.intro (And.intro (kt55) (And.intro (kt56) (kt57)))
  (And.intro (kt58) (And.intro (ag59) (el59))))) (And.intro (And.intro (And.intro (si59) (And.intro (sz59) (by59))) (And.intro (kt59) (And.intro (zv59) (ze59)))) (And.intro
  (And.intro (ag60) (And.intro (el60) (si60))) (And.intro (sz60) (And.intro (by60) (kt60)))))) (And.intro (And.intro (And.intro (And.intro (zv60) (ze60)) (And.intro (ag61)
  (And.intro (si61) (sz61)))) (And.intro (And.intro (by61) (And.intro (str61) (fi61_0))) (And.intro (fi61_1) (And.intro (fi61_2) (ze61))))) (And.intro (And.intro (And.intro (ag62)
  (And.intro (si62) (sz62))) (And.intro (by62) (And.intro (str62) (fi62_0)))) (And.intro (And.intro (fi62_1) (And.intro (fi62_2) (ze62))) (And.intro (kt63) (And.intro (kt64)
  (ag65)))))))) (And.intro (And.intro (And.intro (And.intro (And.intro (And.intro (el65) (si65)) (And.intro (sz65) (And.intro (by65) (kt65)))) (And.intro (And.intro (zv65)
  (And.intro (ze65) (ag66))) (And.intro (si66) (And.intro (sz66) (by66))))) (And.intro (And.intro (And.intro (str66) (fi66_0)) (And.intro (fi66_1) (And.intro (fi66_2) (ze66))))
  (And.intro (And.intro (ag67) (And.intro (si67) (sz67))) (And.intro (by67) (And.intro (str67) (fi67_0)))))) (And.intro (And.intro (And.intro (And.intro (fi67_1) (fi67_2))
  (And.intro (ze67) (And.intro (kt68) (kt69)))) (And.intro (And.intro (kt70) (And.intro (kt71) (ag72))) (And.intro (si72) (And.intro (sz72) (by72))))) (And.intro (And.intro
  (And.intro (str72) (And.intro (fi72_0) (fi72_1))) (And.intro (ze72) (And.intro (ag73) (si73)))) (And.intro (And.intro (sz73) (And.intro (by73) (str73))) (And.intro (fi73_0)
  (And.intro (fi73_1) (ze73))))))) (And.intro (And.intro (And.intro (And.intro (And.intro (kt74) (kt75)) (And.intro (ag76) (And.intro (si76) (sz76)))) (And.intro (And.intro (by76)
  (And.intro (str76) (fi76_0))) (And.intro (fi76_1) (And.intro (ze76) (kt77))))) (And.intro (And.intro (And.intro (kt78) (And.intro (kt79) (kt81))) (And.intro (ag82) (And.intro
  (el82) (si82)))) (And.intro (And.intro (sz82) (And.intro (by82) (kt82))) (And.intro (zv82) (And.intro (ze82) (kt83)))))) (And.intro (And.intro (And.intro (And.intro (kt84) (kt85))
  (And.intro (kt86) (And.intro (kt88) (kt89)))) (And.intro (And.intro (kt90) (And.intro (kt91) (kt92))) (And.intro (kt93) (And.intro (kt94) (kt95))))) (And.intro (And.intro
  (And.intro (kt96) (And.intro (kt97) (kt98))) (And.intro (kt99) (And.intro (kt100) (ag101)))) (And.intro (And.intro (si101) (And.intro (sz101) (by101))) (And.intro (kt101)
  (And.intro (zv101) (ze101)))))))))) (And.intro (And.intro (And.intro (And.intro (And.intro (And.intro (And.intro (And.intro (kt102) (kt104)) (And.intro (kt105) (And.intro (kt106)
  (kt107)))) (And.intro (And.intro (kt108) (And.intro (kt109) (kt110))) (And.intro (ag111) (And.intro (si111) (sz111))))) (And.intro (And.intro (And.intro (by111) (eq111))
  (And.intro (str111) (And.intro (fi111_0) (fi111_1)))) (And.intro (And.intro (ze111) (And.intro (ag112) (si112))) (And.intro (sz112) (And.intro (by112) (eq112)))))) (And.intro
  (And.intro (And.intro (And.intro (str112) (fi112_0)) (And.intro (fi112_1) (And.intro (ze112) (ag113)))) (And.intro (And.intro (si113) (And.intro (sz113) (by113))) (And.intro
  (str113) (And.intro (fi113_0) (fi113_1))))) (And.intro (And.intro (And.intro (ze113) (And.intro (ag114) (si114))) (And.intro (sz114) (And.intro (by114) (str114)))) (And.intro
  (And.intro (fi114_0) (And.intro (fi114_1) (ze114))) (And.intro (kt115) (And.intro (kt116) (kt117))))))) (And.intro (And.intro (And.intro (And.intro (And.intro (kt118) (kt119))
  (And.intro (kt120) (And.intro (kt121) (kt122)))) (And.intro (And.intro (ag123) (And.intro (si123) (sz123))) (And.intro (by123) (And.intro (mp123) (zv123))))) (And.intro (And.intro
  (And.intro (ze123) (And.intro (kt124) (kt125))) (And.intro (kt126) (And.intro (kt127) (ag128)))) (And.intro (And.intro (el128) (And.intro (si128) (sz128))) (And.intro (by128)
  (And.intro (kt128) (zv128)))))) (And.intro (And.intro (And.intro (And.intro (ze128) (kt129)) (And.intro (ag130) (And.intro (si130) (sz130)))) (And.intro (And.intro (by130)
  (And.intro (eq130) (str130))) (And.intro (fi130_0) (And.intro (fi130_1) (ze130))))) (And.intro (And.intro (And.intro (ag131) (And.intro (si131) (sz131))) (And.intro (by131)
  (And.intro (eq131) (str131)))) (And.intro (And.intro (fi131_0) (And.intro (fi131_1) (ze131))) (And.intro (kt132) (And.intro (kt133) (kt134)))))))) (And.intro (And.intro (And.intro
  (And.intro (And.intro (And.intro (kt135) (kt136)) (And.intro (kt137) (And.intro (kt138) (kt139)))) (And.intro (And.intro (kt140) (And.intro (kt141) (kt142))) (And.intro (kt143)
  (And.intro (kt144) (kt145))))) (And.intro (And.intro (And.intro (kt146) (kt147)) (And.intro (ag148) (And.intro (si148) (sz148)))) (And.intro (And.intro (by148) (And.intro (str148)
  (fi148_0))) (And.intro (fi148_1) (And.intro (fi148_2) (ze148)))))) (And.intro (And.intro (And.intro (And.intro (ag149) (si149)) (And.intro (sz149) (And.intro (by149) (str149))))
  (And.intro (And.intro (fi149_0) (And.intro (fi149_1) (fi149_2))) (And.intro (ze149) (And.intro (kt150) (kt151))))) (And.intro (And.intro (And.intro (kt152) (And.intro (kt153)
  (kt154))) (And.intro (kt155) (And.intro (kt156) (kt157)))) (And.intro (And.intro (ag158) (And.intro (el158) (si158))) (And.intro (sz158) (And.intro (by158) (kt158)))))))
  (And.intro (And.intro (And.intro (And.intro (And.intro (zv158) (ze158)) (And.intro (ag159) (And.intro (si159) (sz159)))) (And.intro (And.intro (by159) (And.intro (in159) (zv159)))
  (And.intro (ze159) (And.intro (kt160) (kt161))))) (And.intro (And.intro (And.intro (ag162) (And.intro (si162) (sz162))) (And.intro (by162) (And.intro (eq162) (str162))))
  (And.intro (And.intro (fi162_0) (And.intro (fi162_1) (ze162))) (And.intro (kt163) (And.intro (kt164) (kt165)))))) (And.intro (And.intro (And.intro (And.intro (kt166) (kt167))
  (And.intro (kt168) (And.intro (kt169) (kt170)))) (And.intro (And.intro (kt171) (And.intro (kt172) (kt173))) (And.intro (kt174) (And.intro (kt175) (kt176))))) (And.intro (And.intro
  (And.intro (kt177) (And.intro (kt178) (kt179))) (And.intro (kt180) (And.intro (kt181) (ag182)))) (And.intro (And.intro (si182) (And.intro (sz182) (by182))) (And.intro (str182)
  (And.intro (fi182_0) (fi182_1))))))))) (And.intro (And.intro (And.intro (And.intro (And.intro (And.intro (And.intro (ze182) (kt183)) (And.intro (kt184) (And.intro (kt185)
  (kt186)))) (And.intro (And.intro (kt187) (And.intro (kt188) (kt189))) (And.intro (ag190) (And.intro (el190) (si190))))) (And.intro (And.intro (And.intro (sz190) (by190))
  (And.intro (kt190) (And.intro (zv190) (ze190)))) (And.intro (And.intro (kt191) (And.intro (kt192) (kt193))) (And.intro (kt194) (And.intro (kt195) (kt196)))))) (And.intro
  (And.intro (And.intro (And.intro (ag197) (si197)) (And.intro (sz197) (And.intro (by197) (in197)))) (And.intro (And.intro (zv197) (And.intro (ze197) (kt199))) (And.intro (kt200)
  (And.intro (kt201) (kt203))))) (And.intro (And.intro (And.intro (kt204) (And.intro (ag205) (si205))) (And.intro (sz205) (And.intro (by205) (in205)))) (And.intro (And.intro (zv205)
  (And.intro (ze205) (kt206))) (And.intro (ag207) (And.intro (si207) (sz207))))))) (And.intro (And.intro (And.intro (And.intro (And.intro (by207) (in207)) (And.intro (zv207)
  (And.intro (ze207) (ag208)))) (And.intro (And.intro (si208) (And.intro (sz208) (by208))) (And.intro (in208) (And.intro (zv208) (ze208))))) (And.intro (And.intro (And.intro (kt209)
  (And.intro (kt210) (kt211))) (And.intro (ag212) (And.intro (si212) (sz212)))) (And.intro (And.intro (by212) (And.intro (kt212) (zv212))) (And.intro (ze212) (And.intro (kt213)
  (ag214)))))) (And.intro (And.intro (And.intro (And.intro (si214) (sz214)) (And.intro (by214) (And.intro (kt214) (zv214)))) (And.intro (And.intro (ze214) (And.intro (kt216)
  (kt217))) (And.intro (kt218) (And.intro (ag219) (si219))))) (And.intro (And.intro (And.intro (sz219) (And.intro (by219) (str219))) (And.intro (fi219_0) (And.intro (fi219_1)
  (fi219_2)))) (And.intro (And.intro (fi219_3) (And.intro (ze219) (ag220))) (And.intro (si220) (And.intro (sz220) (by220)))))))) (And.intro (And.intro (And.intro (And.intro
  (And.intro (And.intro (str220) (fi220_0)) (And.intro (fi220_1) (And.intro (fi220_2) (fi220_3)))) (And.intro (And.intro (ze220) (And.intro (ag221) (si221))) (And.intro (sz221)
  (And.intro (by221) (ag222))))) (And.intro (And.intro (And.intro (si222) (sz222)) (And.intro (by222) (And.intro (str222) (ag223)))) (And.intro (And.intro (si223) (And.intro (sz223)
  (by223))) (And.intro (str223) (And.intro (kt224) (ag225)))))) (And.intro (And.intro (And.intro (And.intro (si225) (sz225)) (And.intro (by225) (And.intro (in225) (zv225))))
  (And.intro (And.intro (ze225) (And.intro (ag226) (si226))) (And.intro (sz226) (And.intro (by226) (in226))))) (And.intro (And.intro (And.intro (zv226) (And.intro (ze226) (kt227)))
  (And.intro (ag228) (And.intro (si228) (sz228)))) (And.intro (And.intro (by228) (And.intro (kt228) (zv228))) (And.intro (ze228) (And.intro (ag229) (si229))))))) (And.intro
  (And.intro (And.intro (And.intro (And.intro (sz229) (by229)) (And.intro (in229) (And.intro (zv229) (ze229)))) (And.intro (And.intro (ag230) (And.intro (si230) (sz230))) (And.intro
  (by230) (And.intro (in230) (zv230))))) (And.intro (And.intro (And.intro (ze230) (And.intro (ag231) (si231))) (And.intro (sz231) (And.intro (by231) (str231)))) (And.intro
  (And.intro (fi231_0) (And.intro (fi231_1) (fi231_2))) (And.intro (fi231_3) (And.intro (fi231_4) (fi231_5)))))) (And.intro (And.intro (And.intro (And.intro (fi231_6) (fi231_7))
  (And.intro (fi231_8) (And.intro (fi231_9) (fi231_10)))) (And.intro (And.intro (ze231) (And.intro (ag232) (si232))) (And.intro (sz232) (And.intro (by232) (str232))))) (And.intro
  (And.intro (And.intro (fi232_0) (And.intro (fi232_1) (fi232_2))) (And.intro (fi232_3) (And.intro (fi232_4) (fi232_5)))) (And.intro (And.intro (fi232_6) (And.intro (fi232_7)
  (fi232_8))) (And.intro (fi232_9) (And.intro (fi232_10) (ze232))))))))))
end Go.AM
