/-
  WHAT THE PROGRAM SAYS OF ITS TYPES, each fact by reckoning.
-/
import Derived.Test.YtjlnccjhgngnoaaM2Tool
import Derived.Test.YtjlnccjhgngnoaaProg
import Derived.Test.YtjlnccjhgngnoaaProg
set_option linter.unusedVariables false
set_option linter.unusedSimpArgs false
namespace Go.AM
open Go.Proofs
theorem mixed : Try.prog.follows .mixedOrders = true := by kernel_rfl
theorem kt1 : kindT Try.prog 1 = some 3 := by kernel_rfl
theorem ag2 : aggT Try.prog 2 = some false := by kernel_rfl
theorem si2 : sizeT Try.prog 2 = 1 := by kernel_rfl
theorem sz2 : szT Try.prog 2 = some 1 := by kernel_rfl
theorem by2 : bytesT Try.prog 2 = 8 := by kernel_rfl
theorem in2 : intT Try.prog 2 = some .i64 := by kernel_rfl
theorem zv2 : zeroV Try.prog 2 = some (.int .i64 0) := by kernel_rfl
theorem ze2 : zeroT Try.prog 2 = some [.int .i64 0] := by kernel_rfl
theorem ag3 : aggT Try.prog 3 = some false := by kernel_rfl
theorem si3 : sizeT Try.prog 3 = 1 := by kernel_rfl
theorem sz3 : szT Try.prog 3 = some 1 := by kernel_rfl
theorem by3 : bytesT Try.prog 3 = 8 := by kernel_rfl
theorem in3 : intT Try.prog 3 = some .i64 := by kernel_rfl
theorem zv3 : zeroV Try.prog 3 = some (.int .i64 0) := by kernel_rfl
theorem ze3 : zeroT Try.prog 3 = some [.int .i64 0] := by kernel_rfl
theorem ag4 : aggT Try.prog 4 = some false := by kernel_rfl
theorem si4 : sizeT Try.prog 4 = 1 := by kernel_rfl
theorem sz4 : szT Try.prog 4 = some 1 := by kernel_rfl
theorem by4 : bytesT Try.prog 4 = 1 := by kernel_rfl
theorem bo4 : boolT Try.prog 4 = true := by kernel_rfl
theorem zv4 : zeroV Try.prog 4 = some (.bool false) := by kernel_rfl
theorem ze4 : zeroT Try.prog 4 = some [.bool false] := by kernel_rfl
theorem ag5 : aggT Try.prog 5 = some false := by kernel_rfl
theorem si5 : sizeT Try.prog 5 = 1 := by kernel_rfl
theorem sz5 : szT Try.prog 5 = some 1 := by kernel_rfl
theorem by5 : bytesT Try.prog 5 = 1 := by kernel_rfl
theorem in5 : intT Try.prog 5 = some .u8 := by kernel_rfl
theorem zv5 : zeroV Try.prog 5 = some (.int .u8 0) := by kernel_rfl
theorem ze5 : zeroT Try.prog 5 = some [.int .u8 0] := by kernel_rfl
theorem ag6 : aggT Try.prog 6 = some false := by kernel_rfl
theorem si6 : sizeT Try.prog 6 = 1 := by kernel_rfl
theorem sz6 : szT Try.prog 6 = some 1 := by kernel_rfl
theorem by6 : bytesT Try.prog 6 = 1 := by kernel_rfl
theorem in6 : intT Try.prog 6 = some .u8 := by kernel_rfl
theorem zv6 : zeroV Try.prog 6 = some (.int .u8 0) := by kernel_rfl
theorem ze6 : zeroT Try.prog 6 = some [.int .u8 0] := by kernel_rfl
theorem ag7 : aggT Try.prog 7 = some true := by kernel_rfl
theorem si7 : sizeT Try.prog 7 = 4 := by kernel_rfl
theorem sz7 : szT Try.prog 7 = some 4 := by kernel_rfl
theorem by7 : bytesT Try.prog 7 = 24 := by kernel_rfl
theorem str7 : structT Try.prog 7 = true := by kernel_rfl
theorem fi7_0 : fieldT Try.prog 7 0 = some (0, 2) := by kernel_rfl
theorem fi7_1 : fieldT Try.prog 7 1 = some (1, 3) := by kernel_rfl
theorem fi7_2 : fieldT Try.prog 7 2 = some (2, 4) := by kernel_rfl
theorem fi7_3 : fieldT Try.prog 7 3 = some (3, 6) := by kernel_rfl
theorem ze7 : zeroT Try.prog 7 = some [.int .i64 0, .int .i64 0, .bool false, .int .u8 0] := by kernel_rfl
theorem ag8 : aggT Try.prog 8 = some true := by kernel_rfl
theorem si8 : sizeT Try.prog 8 = 4 := by kernel_rfl
theorem sz8 : szT Try.prog 8 = some 4 := by kernel_rfl
theorem by8 : bytesT Try.prog 8 = 24 := by kernel_rfl
theorem str8 : structT Try.prog 8 = true := by kernel_rfl
theorem fi8_0 : fieldT Try.prog 8 0 = some (0, 2) := by kernel_rfl
theorem fi8_1 : fieldT Try.prog 8 1 = some (1, 3) := by kernel_rfl
theorem fi8_2 : fieldT Try.prog 8 2 = some (2, 4) := by kernel_rfl
theorem fi8_3 : fieldT Try.prog 8 3 = some (3, 6) := by kernel_rfl
theorem ze8 : zeroT Try.prog 8 = some [.int .i64 0, .int .i64 0, .bool false, .int .u8 0] := by kernel_rfl
theorem ag9 : aggT Try.prog 9 = some false := by kernel_rfl
theorem si9 : sizeT Try.prog 9 = 1 := by kernel_rfl
theorem sz9 : szT Try.prog 9 = some 1 := by kernel_rfl
theorem by9 : bytesT Try.prog 9 = 16 := by kernel_rfl
theorem st9 : stringT Try.prog 9 = true := by kernel_rfl
theorem zv9 : zeroV Try.prog 9 = some (.string ⟨#[]⟩) := by kernel_rfl
theorem ze9 : zeroT Try.prog 9 = some [.string ⟨#[]⟩] := by kernel_rfl
theorem ag10 : aggT Try.prog 10 = some false := by kernel_rfl
theorem si10 : sizeT Try.prog 10 = 1 := by kernel_rfl
theorem sz10 : szT Try.prog 10 = some 1 := by kernel_rfl
theorem by10 : bytesT Try.prog 10 = 16 := by kernel_rfl
theorem st10 : stringT Try.prog 10 = true := by kernel_rfl
theorem zv10 : zeroV Try.prog 10 = some (.string ⟨#[]⟩) := by kernel_rfl
theorem ze10 : zeroT Try.prog 10 = some [.string ⟨#[]⟩] := by kernel_rfl
theorem ag11 : aggT Try.prog 11 = some false := by kernel_rfl
theorem si11 : sizeT Try.prog 11 = 1 := by kernel_rfl
theorem sz11 : szT Try.prog 11 = some 1 := by kernel_rfl
theorem by11 : bytesT Try.prog 11 = 16 := by kernel_rfl
theorem st11 : stringT Try.prog 11 = true := by kernel_rfl
theorem zv11 : zeroV Try.prog 11 = some (.string ⟨#[]⟩) := by kernel_rfl
theorem ze11 : zeroT Try.prog 11 = some [.string ⟨#[]⟩] := by kernel_rfl
theorem ag12 : aggT Try.prog 12 = some false := by kernel_rfl
theorem si12 : sizeT Try.prog 12 = 1 := by kernel_rfl
theorem sz12 : szT Try.prog 12 = some 1 := by kernel_rfl
theorem by12 : bytesT Try.prog 12 = 8 := by kernel_rfl
theorem in12 : intT Try.prog 12 = some .u64 := by kernel_rfl
theorem zv12 : zeroV Try.prog 12 = some (.int .u64 0) := by kernel_rfl
theorem ze12 : zeroT Try.prog 12 = some [.int .u64 0] := by kernel_rfl
theorem ag13 : aggT Try.prog 13 = some true := by kernel_rfl
theorem si13 : sizeT Try.prog 13 = 2 := by kernel_rfl
theorem sz13 : szT Try.prog 13 = some 2 := by kernel_rfl
theorem by13 : bytesT Try.prog 13 = 24 := by kernel_rfl
theorem str13 : structT Try.prog 13 = true := by kernel_rfl
theorem fi13_0 : fieldT Try.prog 13 0 = some (0, 9) := by kernel_rfl
theorem fi13_1 : fieldT Try.prog 13 1 = some (1, 12) := by kernel_rfl
theorem ze13 : zeroT Try.prog 13 = some [.string ⟨#[]⟩, .int .u64 0] := by kernel_rfl
theorem ag14 : aggT Try.prog 14 = some true := by kernel_rfl
theorem si14 : sizeT Try.prog 14 = 2 := by kernel_rfl
theorem sz14 : szT Try.prog 14 = some 2 := by kernel_rfl
theorem by14 : bytesT Try.prog 14 = 24 := by kernel_rfl
theorem str14 : structT Try.prog 14 = true := by kernel_rfl
theorem fi14_0 : fieldT Try.prog 14 0 = some (0, 9) := by kernel_rfl
theorem fi14_1 : fieldT Try.prog 14 1 = some (1, 12) := by kernel_rfl
theorem ze14 : zeroT Try.prog 14 = some [.string ⟨#[]⟩, .int .u64 0] := by kernel_rfl
theorem ag15 : aggT Try.prog 15 = some false := by kernel_rfl
theorem si15 : sizeT Try.prog 15 = 1 := by kernel_rfl
theorem sz15 : szT Try.prog 15 = some 1 := by kernel_rfl
theorem by15 : bytesT Try.prog 15 = 8 := by kernel_rfl
theorem kt15 : kindT Try.prog 15 = some 1 := by kernel_rfl
theorem zv15 : zeroV Try.prog 15 = some (.pointer none) := by kernel_rfl
theorem ze15 : zeroT Try.prog 15 = some [.pointer none] := by kernel_rfl
theorem ag16 : aggT Try.prog 16 = some false := by kernel_rfl
theorem si16 : sizeT Try.prog 16 = 1 := by kernel_rfl
theorem sz16 : szT Try.prog 16 = some 1 := by kernel_rfl
theorem by16 : bytesT Try.prog 16 = 8 := by kernel_rfl
theorem kt16 : kindT Try.prog 16 = some 1 := by kernel_rfl
theorem zv16 : zeroV Try.prog 16 = some (.pointer none) := by kernel_rfl
theorem ze16 : zeroT Try.prog 16 = some [.pointer none] := by kernel_rfl
theorem ag17 : aggT Try.prog 17 = some false := by kernel_rfl
theorem si17 : sizeT Try.prog 17 = 1 := by kernel_rfl
theorem sz17 : szT Try.prog 17 = some 1 := by kernel_rfl
theorem by17 : bytesT Try.prog 17 = 8 := by kernel_rfl
theorem kt17 : kindT Try.prog 17 = some 1 := by kernel_rfl
theorem zv17 : zeroV Try.prog 17 = some (.pointer none) := by kernel_rfl
theorem ze17 : zeroT Try.prog 17 = some [.pointer none] := by kernel_rfl
theorem ag18 : aggT Try.prog 18 = some true := by kernel_rfl
theorem si18 : sizeT Try.prog 18 = 1 := by kernel_rfl
theorem sz18 : szT Try.prog 18 = some 1 := by kernel_rfl
theorem by18 : bytesT Try.prog 18 = 8 := by kernel_rfl
theorem str18 : structT Try.prog 18 = true := by kernel_rfl
theorem fi18_0 : fieldT Try.prog 18 0 = some (0, 17) := by kernel_rfl
theorem ze18 : zeroT Try.prog 18 = some [.pointer none] := by kernel_rfl
theorem ag19 : aggT Try.prog 19 = some true := by kernel_rfl
theorem si19 : sizeT Try.prog 19 = 1 := by kernel_rfl
theorem sz19 : szT Try.prog 19 = some 1 := by kernel_rfl
theorem by19 : bytesT Try.prog 19 = 8 := by kernel_rfl
theorem str19 : structT Try.prog 19 = true := by kernel_rfl
theorem fi19_0 : fieldT Try.prog 19 0 = some (0, 17) := by kernel_rfl
theorem ze19 : zeroT Try.prog 19 = some [.pointer none] := by kernel_rfl
theorem kt20 : kindT Try.prog 20 = some 2 := by kernel_rfl
theorem ag21 : aggT Try.prog 21 = some false := by kernel_rfl
theorem si21 : sizeT Try.prog 21 = 1 := by kernel_rfl
theorem sz21 : szT Try.prog 21 = some 1 := by kernel_rfl
theorem by21 : bytesT Try.prog 21 = 4 := by kernel_rfl
theorem in21 : intT Try.prog 21 = some .i32 := by kernel_rfl
theorem zv21 : zeroV Try.prog 21 = some (.int .i32 0) := by kernel_rfl
theorem ze21 : zeroT Try.prog 21 = some [.int .i32 0] := by kernel_rfl
theorem kt22 : kindT Try.prog 22 = some 3 := by kernel_rfl
theorem kt23 : kindT Try.prog 23 = some 3 := by kernel_rfl
theorem ag24 : aggT Try.prog 24 = some false := by kernel_rfl
theorem el24 : elemT Try.prog 24 = some 73 := by kernel_rfl
theorem si24 : sizeT Try.prog 24 = 1 := by kernel_rfl
theorem sz24 : szT Try.prog 24 = some 1 := by kernel_rfl
theorem by24 : bytesT Try.prog 24 = 24 := by kernel_rfl
theorem kt24 : kindT Try.prog 24 = some 0 := by kernel_rfl
theorem zv24 : zeroV Try.prog 24 = some (.slice none 0 0) := by kernel_rfl
theorem ze24 : zeroT Try.prog 24 = some [.slice none 0 0] := by kernel_rfl
theorem kt25 : kindT Try.prog 25 = some 3 := by kernel_rfl
theorem kt26 : kindT Try.prog 26 = some 3 := by kernel_rfl
theorem ag27 : aggT Try.prog 27 = some false := by kernel_rfl
theorem el27 : elemT Try.prog 27 = some 71 := by kernel_rfl
theorem si27 : sizeT Try.prog 27 = 1 := by kernel_rfl
theorem sz27 : szT Try.prog 27 = some 1 := by kernel_rfl
theorem by27 : bytesT Try.prog 27 = 24 := by kernel_rfl
theorem kt27 : kindT Try.prog 27 = some 0 := by kernel_rfl
theorem zv27 : zeroV Try.prog 27 = some (.slice none 0 0) := by kernel_rfl
theorem ze27 : zeroT Try.prog 27 = some [.slice none 0 0] := by kernel_rfl
theorem kt28 : kindT Try.prog 28 = some 3 := by kernel_rfl
theorem kt29 : kindT Try.prog 29 = some 3 := by kernel_rfl
theorem kt30 : kindT Try.prog 30 = some 3 := by kernel_rfl
theorem ag31 : aggT Try.prog 31 = some false := by kernel_rfl
theorem el31 : elemT Try.prog 31 = some 2 := by kernel_rfl
theorem si31 : sizeT Try.prog 31 = 1 := by kernel_rfl
theorem sz31 : szT Try.prog 31 = some 1 := by kernel_rfl
theorem by31 : bytesT Try.prog 31 = 24 := by kernel_rfl
theorem kt31 : kindT Try.prog 31 = some 0 := by kernel_rfl
theorem zv31 : zeroV Try.prog 31 = some (.slice none 0 0) := by kernel_rfl
theorem ze31 : zeroT Try.prog 31 = some [.slice none 0 0] := by kernel_rfl
theorem kt32 : kindT Try.prog 32 = some 3 := by kernel_rfl
theorem kt33 : kindT Try.prog 33 = some 3 := by kernel_rfl
theorem kt34 : kindT Try.prog 34 = some 3 := by kernel_rfl
theorem kt35 : kindT Try.prog 35 = some 3 := by kernel_rfl
theorem kt36 : kindT Try.prog 36 = some 3 := by kernel_rfl
theorem ag37 : aggT Try.prog 37 = some true := by kernel_rfl
theorem si37 : sizeT Try.prog 37 = 8 := by kernel_rfl
theorem sz37 : szT Try.prog 37 = some 8 := by kernel_rfl
theorem by37 : bytesT Try.prog 37 = 64 := by kernel_rfl
theorem eq37 : eqT Try.prog 37 = some [(0, 0), (1, 0), (2, 0), (3, 0), (4, 0), (5, 0), (6, 0), (7, 1)] := by kernel_rfl
theorem str37 : structT Try.prog 37 = true := by kernel_rfl
theorem fi37_0 : fieldT Try.prog 37 0 = some (0, 2) := by kernel_rfl
theorem fi37_1 : fieldT Try.prog 37 1 = some (1, 2) := by kernel_rfl
theorem fi37_2 : fieldT Try.prog 37 2 = some (2, 2) := by kernel_rfl
theorem fi37_3 : fieldT Try.prog 37 3 = some (3, 2) := by kernel_rfl
theorem fi37_4 : fieldT Try.prog 37 4 = some (4, 2) := by kernel_rfl
theorem fi37_5 : fieldT Try.prog 37 5 = some (5, 2) := by kernel_rfl
theorem fi37_6 : fieldT Try.prog 37 6 = some (6, 2) := by kernel_rfl
theorem fi37_7 : fieldT Try.prog 37 7 = some (7, 4) := by kernel_rfl
theorem ze37 : zeroT Try.prog 37 = some [.int .i64 0, .int .i64 0, .int .i64 0, .int .i64 0, .int .i64 0, .int .i64 0, .int .i64 0, .bool false] := by kernel_rfl
theorem ag38 : aggT Try.prog 38 = some true := by kernel_rfl
theorem si38 : sizeT Try.prog 38 = 8 := by kernel_rfl
theorem sz38 : szT Try.prog 38 = some 8 := by kernel_rfl
theorem by38 : bytesT Try.prog 38 = 64 := by kernel_rfl
theorem eq38 : eqT Try.prog 38 = some [(0, 0), (1, 0), (2, 0), (3, 0), (4, 0), (5, 0), (6, 0), (7, 1)] := by kernel_rfl
theorem str38 : structT Try.prog 38 = true := by kernel_rfl
theorem fi38_0 : fieldT Try.prog 38 0 = some (0, 2) := by kernel_rfl
theorem fi38_1 : fieldT Try.prog 38 1 = some (1, 2) := by kernel_rfl
theorem fi38_2 : fieldT Try.prog 38 2 = some (2, 2) := by kernel_rfl
theorem fi38_3 : fieldT Try.prog 38 3 = some (3, 2) := by kernel_rfl
theorem fi38_4 : fieldT Try.prog 38 4 = some (4, 2) := by kernel_rfl
theorem fi38_5 : fieldT Try.prog 38 5 = some (5, 2) := by kernel_rfl
theorem fi38_6 : fieldT Try.prog 38 6 = some (6, 2) := by kernel_rfl
theorem fi38_7 : fieldT Try.prog 38 7 = some (7, 4) := by kernel_rfl
theorem ze38 : zeroT Try.prog 38 = some [.int .i64 0, .int .i64 0, .int .i64 0, .int .i64 0, .int .i64 0, .int .i64 0, .int .i64 0, .bool false] := by kernel_rfl
theorem kt39 : kindT Try.prog 39 = some 3 := by kernel_rfl
theorem ag40 : aggT Try.prog 40 = some true := by kernel_rfl
theorem si40 : sizeT Try.prog 40 = 8 := by kernel_rfl
theorem sz40 : szT Try.prog 40 = some 8 := by kernel_rfl
theorem by40 : bytesT Try.prog 40 = 64 := by kernel_rfl
theorem eq40 : eqT Try.prog 40 = some [(0, 0), (1, 0), (2, 0), (3, 0), (4, 0), (5, 0), (6, 0), (7, 1)] := by kernel_rfl
theorem str40 : structT Try.prog 40 = true := by kernel_rfl
theorem fi40_0 : fieldT Try.prog 40 0 = some (0, 2) := by kernel_rfl
theorem fi40_1 : fieldT Try.prog 40 1 = some (1, 2) := by kernel_rfl
theorem fi40_2 : fieldT Try.prog 40 2 = some (2, 2) := by kernel_rfl
theorem fi40_3 : fieldT Try.prog 40 3 = some (3, 2) := by kernel_rfl
theorem fi40_4 : fieldT Try.prog 40 4 = some (4, 2) := by kernel_rfl
theorem fi40_5 : fieldT Try.prog 40 5 = some (5, 2) := by kernel_rfl
theorem fi40_6 : fieldT Try.prog 40 6 = some (6, 2) := by kernel_rfl
theorem fi40_7 : fieldT Try.prog 40 7 = some (7, 4) := by kernel_rfl
theorem ze40 : zeroT Try.prog 40 = some [.int .i64 0, .int .i64 0, .int .i64 0, .int .i64 0, .int .i64 0, .int .i64 0, .int .i64 0, .bool false] := by kernel_rfl
theorem kt41 : kindT Try.prog 41 = some 3 := by kernel_rfl
theorem kt42 : kindT Try.prog 42 = some 3 := by kernel_rfl
theorem kt43 : kindT Try.prog 43 = some 3 := by kernel_rfl
theorem ag44 : aggT Try.prog 44 = some false := by kernel_rfl
theorem el44 : elemT Try.prog 44 = some 5 := by kernel_rfl
theorem si44 : sizeT Try.prog 44 = 1 := by kernel_rfl
theorem sz44 : szT Try.prog 44 = some 1 := by kernel_rfl
theorem by44 : bytesT Try.prog 44 = 24 := by kernel_rfl
theorem kt44 : kindT Try.prog 44 = some 0 := by kernel_rfl
theorem zv44 : zeroV Try.prog 44 = some (.slice none 0 0) := by kernel_rfl
theorem ze44 : zeroT Try.prog 44 = some [.slice none 0 0] := by kernel_rfl
theorem kt45 : kindT Try.prog 45 = some 3 := by kernel_rfl
theorem ag46 : aggT Try.prog 46 = some false := by kernel_rfl
theorem si46 : sizeT Try.prog 46 = 1 := by kernel_rfl
theorem sz46 : szT Try.prog 46 = some 1 := by kernel_rfl
theorem by46 : bytesT Try.prog 46 = 8 := by kernel_rfl
theorem kt46 : kindT Try.prog 46 = some 1 := by kernel_rfl
theorem zv46 : zeroV Try.prog 46 = some (.pointer none) := by kernel_rfl
theorem ze46 : zeroT Try.prog 46 = some [.pointer none] := by kernel_rfl
theorem kt47 : kindT Try.prog 47 = some 3 := by kernel_rfl
theorem ag48 : aggT Try.prog 48 = some false := by kernel_rfl
theorem si48 : sizeT Try.prog 48 = 1 := by kernel_rfl
theorem sz48 : szT Try.prog 48 = some 1 := by kernel_rfl
theorem by48 : bytesT Try.prog 48 = 8 := by kernel_rfl
theorem in48 : intT Try.prog 48 = some .u64 := by kernel_rfl
theorem zv48 : zeroV Try.prog 48 = some (.int .u64 0) := by kernel_rfl
theorem ze48 : zeroT Try.prog 48 = some [.int .u64 0] := by kernel_rfl
theorem ag49 : aggT Try.prog 49 = some true := by kernel_rfl
theorem si49 : sizeT Try.prog 49 = 2 := by kernel_rfl
theorem sz49 : szT Try.prog 49 = some 2 := by kernel_rfl
theorem by49 : bytesT Try.prog 49 = 16 := by kernel_rfl
theorem eq49 : eqT Try.prog 49 = some [(0, 0), (1, 0)] := by kernel_rfl
theorem str49 : structT Try.prog 49 = true := by kernel_rfl
theorem fi49_0 : fieldT Try.prog 49 0 = some (0, 2) := by kernel_rfl
theorem fi49_1 : fieldT Try.prog 49 1 = some (1, 2) := by kernel_rfl
theorem ze49 : zeroT Try.prog 49 = some [.int .i64 0, .int .i64 0] := by kernel_rfl
theorem ag50 : aggT Try.prog 50 = some true := by kernel_rfl
theorem si50 : sizeT Try.prog 50 = 2 := by kernel_rfl
theorem sz50 : szT Try.prog 50 = some 2 := by kernel_rfl
theorem by50 : bytesT Try.prog 50 = 16 := by kernel_rfl
theorem eq50 : eqT Try.prog 50 = some [(0, 0), (1, 0)] := by kernel_rfl
theorem str50 : structT Try.prog 50 = true := by kernel_rfl
theorem fi50_0 : fieldT Try.prog 50 0 = some (0, 2) := by kernel_rfl
theorem fi50_1 : fieldT Try.prog 50 1 = some (1, 2) := by kernel_rfl
theorem ze50 : zeroT Try.prog 50 = some [.int .i64 0, .int .i64 0] := by kernel_rfl
theorem ag51 : aggT Try.prog 51 = some false := by kernel_rfl
theorem el51 : elemT Try.prog 51 = some 50 := by kernel_rfl
theorem si51 : sizeT Try.prog 51 = 1 := by kernel_rfl
theorem sz51 : szT Try.prog 51 = some 1 := by kernel_rfl
theorem by51 : bytesT Try.prog 51 = 24 := by kernel_rfl
theorem kt51 : kindT Try.prog 51 = some 0 := by kernel_rfl
theorem zv51 : zeroV Try.prog 51 = some (.slice none 0 0) := by kernel_rfl
theorem ze51 : zeroT Try.prog 51 = some [.slice none 0 0] := by kernel_rfl
theorem kt53 : kindT Try.prog 53 = some 3 := by kernel_rfl
theorem ag54 : aggT Try.prog 54 = some false := by kernel_rfl
theorem el54 : elemT Try.prog 54 = some 81 := by kernel_rfl
theorem si54 : sizeT Try.prog 54 = 1 := by kernel_rfl
theorem sz54 : szT Try.prog 54 = some 1 := by kernel_rfl
theorem by54 : bytesT Try.prog 54 = 24 := by kernel_rfl
theorem kt54 : kindT Try.prog 54 = some 0 := by kernel_rfl
theorem zv54 : zeroV Try.prog 54 = some (.slice none 0 0) := by kernel_rfl
theorem ze54 : zeroT Try.prog 54 = some [.slice none 0 0] := by kernel_rfl
theorem kt55 : kindT Try.prog 55 = some 3 := by kernel_rfl
theorem kt56 : kindT Try.prog 56 = some 3 := by kernel_rfl
theorem kt57 : kindT Try.prog 57 = some 3 := by kernel_rfl
theorem kt58 : kindT Try.prog 58 = some 3 := by kernel_rfl
theorem ag59 : aggT Try.prog 59 = some true := by kernel_rfl
theorem si59 : sizeT Try.prog 59 = 2 := by kernel_rfl
theorem sz59 : szT Try.prog 59 = some 2 := by kernel_rfl
theorem by59 : bytesT Try.prog 59 = 16 := by kernel_rfl
theorem eq59 : eqT Try.prog 59 = some [(0, 0), (1, 0)] := by kernel_rfl
theorem str59 : structT Try.prog 59 = true := by kernel_rfl
theorem fi59_0 : fieldT Try.prog 59 0 = some (0, 2) := by kernel_rfl
theorem fi59_1 : fieldT Try.prog 59 1 = some (1, 2) := by kernel_rfl
theorem ze59 : zeroT Try.prog 59 = some [.int .i64 0, .int .i64 0] := by kernel_rfl
theorem kt61 : kindT Try.prog 61 = some 3 := by kernel_rfl
theorem kt62 : kindT Try.prog 62 = some 3 := by kernel_rfl
theorem kt63 : kindT Try.prog 63 = some 3 := by kernel_rfl
theorem kt64 : kindT Try.prog 64 = some 3 := by kernel_rfl
theorem ag65 : aggT Try.prog 65 = some false := by kernel_rfl
theorem el65 : elemT Try.prog 65 = some 84 := by kernel_rfl
theorem si65 : sizeT Try.prog 65 = 1 := by kernel_rfl
theorem sz65 : szT Try.prog 65 = some 1 := by kernel_rfl
theorem by65 : bytesT Try.prog 65 = 24 := by kernel_rfl
theorem kt65 : kindT Try.prog 65 = some 0 := by kernel_rfl
theorem zv65 : zeroV Try.prog 65 = some (.slice none 0 0) := by kernel_rfl
theorem ze65 : zeroT Try.prog 65 = some [.slice none 0 0] := by kernel_rfl
theorem kt66 : kindT Try.prog 66 = some 3 := by kernel_rfl
theorem kt67 : kindT Try.prog 67 = some 3 := by kernel_rfl
theorem kt68 : kindT Try.prog 68 = some 3 := by kernel_rfl
theorem kt69 : kindT Try.prog 69 = some 3 := by kernel_rfl
theorem ag70 : aggT Try.prog 70 = some true := by kernel_rfl
theorem si70 : sizeT Try.prog 70 = 2 := by kernel_rfl
theorem sz70 : szT Try.prog 70 = some 2 := by kernel_rfl
theorem by70 : bytesT Try.prog 70 = 16 := by kernel_rfl
theorem eq70 : eqT Try.prog 70 = some [(0, 0), (1, 0)] := by kernel_rfl
theorem str70 : structT Try.prog 70 = true := by kernel_rfl
theorem fi70_0 : fieldT Try.prog 70 0 = some (0, 2) := by kernel_rfl
theorem fi70_1 : fieldT Try.prog 70 1 = some (1, 2) := by kernel_rfl
theorem ze70 : zeroT Try.prog 70 = some [.int .i64 0, .int .i64 0] := by kernel_rfl
theorem ag71 : aggT Try.prog 71 = some true := by kernel_rfl
theorem si71 : sizeT Try.prog 71 = 2 := by kernel_rfl
theorem sz71 : szT Try.prog 71 = some 2 := by kernel_rfl
theorem by71 : bytesT Try.prog 71 = 16 := by kernel_rfl
theorem eq71 : eqT Try.prog 71 = some [(0, 0), (1, 0)] := by kernel_rfl
theorem str71 : structT Try.prog 71 = true := by kernel_rfl
theorem fi71_0 : fieldT Try.prog 71 0 = some (0, 2) := by kernel_rfl
theorem fi71_1 : fieldT Try.prog 71 1 = some (1, 2) := by kernel_rfl
theorem ze71 : zeroT Try.prog 71 = some [.int .i64 0, .int .i64 0] := by kernel_rfl
theorem kt72 : kindT Try.prog 72 = some 3 := by kernel_rfl
theorem ag73 : aggT Try.prog 73 = some true := by kernel_rfl
theorem si73 : sizeT Try.prog 73 = 2 := by kernel_rfl
theorem sz73 : szT Try.prog 73 = some 2 := by kernel_rfl
theorem by73 : bytesT Try.prog 73 = 16 := by kernel_rfl
theorem eq73 : eqT Try.prog 73 = some [(0, 0), (1, 0)] := by kernel_rfl
theorem str73 : structT Try.prog 73 = true := by kernel_rfl
theorem fi73_0 : fieldT Try.prog 73 0 = some (0, 2) := by kernel_rfl
theorem fi73_1 : fieldT Try.prog 73 1 = some (1, 2) := by kernel_rfl
theorem ze73 : zeroT Try.prog 73 = some [.int .i64 0, .int .i64 0] := by kernel_rfl
theorem kt74 : kindT Try.prog 74 = some 3 := by kernel_rfl
theorem kt75 : kindT Try.prog 75 = some 3 := by kernel_rfl
theorem ag76 : aggT Try.prog 76 = some true := by kernel_rfl
theorem si76 : sizeT Try.prog 76 = 3 := by kernel_rfl
theorem sz76 : szT Try.prog 76 = some 3 := by kernel_rfl
theorem by76 : bytesT Try.prog 76 = 40 := by kernel_rfl
theorem str76 : structT Try.prog 76 = true := by kernel_rfl
theorem fi76_0 : fieldT Try.prog 76 0 = some (0, 44) := by kernel_rfl
theorem fi76_1 : fieldT Try.prog 76 1 = some (1, 3) := by kernel_rfl
theorem fi76_2 : fieldT Try.prog 76 2 = some (2, 48) := by kernel_rfl
theorem ze76 : zeroT Try.prog 76 = some [.slice none 0 0, .int .i64 0, .int .u64 0] := by kernel_rfl
theorem ag77 : aggT Try.prog 77 = some true := by kernel_rfl
theorem si77 : sizeT Try.prog 77 = 3 := by kernel_rfl
theorem sz77 : szT Try.prog 77 = some 3 := by kernel_rfl
theorem by77 : bytesT Try.prog 77 = 40 := by kernel_rfl
theorem str77 : structT Try.prog 77 = true := by kernel_rfl
theorem fi77_0 : fieldT Try.prog 77 0 = some (0, 44) := by kernel_rfl
theorem fi77_1 : fieldT Try.prog 77 1 = some (1, 3) := by kernel_rfl
theorem fi77_2 : fieldT Try.prog 77 2 = some (2, 48) := by kernel_rfl
theorem ze77 : zeroT Try.prog 77 = some [.slice none 0 0, .int .i64 0, .int .u64 0] := by kernel_rfl
theorem ag78 : aggT Try.prog 78 = some false := by kernel_rfl
theorem si78 : sizeT Try.prog 78 = 1 := by kernel_rfl
theorem sz78 : szT Try.prog 78 = some 1 := by kernel_rfl
theorem by78 : bytesT Try.prog 78 = 8 := by kernel_rfl
theorem in78 : intT Try.prog 78 = some .u64 := by kernel_rfl
theorem zv78 : zeroV Try.prog 78 = some (.int .u64 0) := by kernel_rfl
theorem ze78 : zeroT Try.prog 78 = some [.int .u64 0] := by kernel_rfl
theorem kt79 : kindT Try.prog 79 = some 3 := by kernel_rfl
theorem ag80 : aggT Try.prog 80 = some true := by kernel_rfl
theorem si80 : sizeT Try.prog 80 = 2 := by kernel_rfl
theorem sz80 : szT Try.prog 80 = some 2 := by kernel_rfl
theorem by80 : bytesT Try.prog 80 = 48 := by kernel_rfl
theorem str80 : structT Try.prog 80 = true := by kernel_rfl
theorem fi80_0 : fieldT Try.prog 80 0 = some (0, 31) := by kernel_rfl
theorem fi80_1 : fieldT Try.prog 80 1 = some (1, 31) := by kernel_rfl
theorem ze80 : zeroT Try.prog 80 = some [.slice none 0 0, .slice none 0 0] := by kernel_rfl
theorem ag81 : aggT Try.prog 81 = some true := by kernel_rfl
theorem si81 : sizeT Try.prog 81 = 2 := by kernel_rfl
theorem sz81 : szT Try.prog 81 = some 2 := by kernel_rfl
theorem by81 : bytesT Try.prog 81 = 48 := by kernel_rfl
theorem str81 : structT Try.prog 81 = true := by kernel_rfl
theorem fi81_0 : fieldT Try.prog 81 0 = some (0, 31) := by kernel_rfl
theorem fi81_1 : fieldT Try.prog 81 1 = some (1, 31) := by kernel_rfl
theorem ze81 : zeroT Try.prog 81 = some [.slice none 0 0, .slice none 0 0] := by kernel_rfl
theorem kt82 : kindT Try.prog 82 = some 3 := by kernel_rfl
theorem kt83 : kindT Try.prog 83 = some 3 := by kernel_rfl
theorem ag84 : aggT Try.prog 84 = some true := by kernel_rfl
theorem si84 : sizeT Try.prog 84 = 2 := by kernel_rfl
theorem sz84 : szT Try.prog 84 = some 2 := by kernel_rfl
theorem by84 : bytesT Try.prog 84 = 48 := by kernel_rfl
theorem str84 : structT Try.prog 84 = true := by kernel_rfl
theorem fi84_0 : fieldT Try.prog 84 0 = some (0, 31) := by kernel_rfl
theorem fi84_1 : fieldT Try.prog 84 1 = some (1, 31) := by kernel_rfl
theorem ze84 : zeroT Try.prog 84 = some [.slice none 0 0, .slice none 0 0] := by kernel_rfl
theorem kt85 : kindT Try.prog 85 = some 3 := by kernel_rfl
theorem kt86 : kindT Try.prog 86 = some 3 := by kernel_rfl
theorem kt87 : kindT Try.prog 87 = some 3 := by kernel_rfl
theorem kt88 : kindT Try.prog 88 = some 3 := by kernel_rfl
theorem kt89 : kindT Try.prog 89 = some 3 := by kernel_rfl
theorem kt90 : kindT Try.prog 90 = some 3 := by kernel_rfl
theorem kt91 : kindT Try.prog 91 = some 3 := by kernel_rfl
theorem kt92 : kindT Try.prog 92 = some 3 := by kernel_rfl
theorem kt93 : kindT Try.prog 93 = some 3 := by kernel_rfl
theorem kt94 : kindT Try.prog 94 = some 3 := by kernel_rfl
theorem kt95 : kindT Try.prog 95 = some 3 := by kernel_rfl
theorem ag96 : aggT Try.prog 96 = some true := by kernel_rfl
theorem si96 : sizeT Try.prog 96 = 4 := by kernel_rfl
theorem sz96 : szT Try.prog 96 = some 4 := by kernel_rfl
theorem by96 : bytesT Try.prog 96 = 40 := by kernel_rfl
theorem str96 : structT Try.prog 96 = true := by kernel_rfl
theorem fi96_0 : fieldT Try.prog 96 0 = some (0, 17) := by kernel_rfl
theorem fi96_1 : fieldT Try.prog 96 1 = some (1, 17) := by kernel_rfl
theorem fi96_2 : fieldT Try.prog 96 2 = some (2, 17) := by kernel_rfl
theorem fi96_3 : fieldT Try.prog 96 3 = some (3, 9) := by kernel_rfl
theorem ze96 : zeroT Try.prog 96 = some [.pointer none, .pointer none, .pointer none, .string ⟨#[]⟩] := by kernel_rfl
theorem ag97 : aggT Try.prog 97 = some true := by kernel_rfl
theorem si97 : sizeT Try.prog 97 = 4 := by kernel_rfl
theorem sz97 : szT Try.prog 97 = some 4 := by kernel_rfl
theorem by97 : bytesT Try.prog 97 = 40 := by kernel_rfl
theorem str97 : structT Try.prog 97 = true := by kernel_rfl
theorem fi97_0 : fieldT Try.prog 97 0 = some (0, 17) := by kernel_rfl
theorem fi97_1 : fieldT Try.prog 97 1 = some (1, 17) := by kernel_rfl
theorem fi97_2 : fieldT Try.prog 97 2 = some (2, 17) := by kernel_rfl
theorem fi97_3 : fieldT Try.prog 97 3 = some (3, 9) := by kernel_rfl
theorem ze97 : zeroT Try.prog 97 = some [.pointer none, .pointer none, .pointer none, .string ⟨#[]⟩] := by kernel_rfl
theorem ag98 : aggT Try.prog 98 = some true := by kernel_rfl
theorem si98 : sizeT Try.prog 98 = 0 := by kernel_rfl
theorem sz98 : szT Try.prog 98 = some 0 := by kernel_rfl
theorem by98 : bytesT Try.prog 98 = 0 := by kernel_rfl
theorem ag99 : aggT Try.prog 99 = some true := by kernel_rfl
theorem si99 : sizeT Try.prog 99 = 0 := by kernel_rfl
theorem sz99 : szT Try.prog 99 = some 0 := by kernel_rfl
theorem by99 : bytesT Try.prog 99 = 0 := by kernel_rfl
theorem str99 : structT Try.prog 99 = true := by kernel_rfl
theorem ag100 : aggT Try.prog 100 = some true := by kernel_rfl
theorem si100 : sizeT Try.prog 100 = 0 := by kernel_rfl
theorem sz100 : szT Try.prog 100 = some 0 := by kernel_rfl
theorem by100 : bytesT Try.prog 100 = 0 := by kernel_rfl
theorem str100 : structT Try.prog 100 = true := by kernel_rfl
theorem kt101 : kindT Try.prog 101 = some 3 := by kernel_rfl
theorem ag102 : aggT Try.prog 102 = some false := by kernel_rfl
theorem si102 : sizeT Try.prog 102 = 1 := by kernel_rfl
theorem sz102 : szT Try.prog 102 = some 1 := by kernel_rfl
theorem by102 : bytesT Try.prog 102 = 4 := by kernel_rfl
theorem in102 : intT Try.prog 102 = some .u32 := by kernel_rfl
theorem zv102 : zeroV Try.prog 102 = some (.int .u32 0) := by kernel_rfl
theorem ze102 : zeroT Try.prog 102 = some [.int .u32 0] := by kernel_rfl
theorem ag103 : aggT Try.prog 103 = some false := by kernel_rfl
theorem si103 : sizeT Try.prog 103 = 1 := by kernel_rfl
theorem sz103 : szT Try.prog 103 = some 1 := by kernel_rfl
theorem by103 : bytesT Try.prog 103 = 1 := by kernel_rfl
theorem in103 : intT Try.prog 103 = some .u8 := by kernel_rfl
theorem zv103 : zeroV Try.prog 103 = some (.int .u8 0) := by kernel_rfl
theorem ze103 : zeroT Try.prog 103 = some [.int .u8 0] := by kernel_rfl
theorem ag104 : aggT Try.prog 104 = some false := by kernel_rfl
theorem si104 : sizeT Try.prog 104 = 1 := by kernel_rfl
theorem sz104 : szT Try.prog 104 = some 1 := by kernel_rfl
theorem by104 : bytesT Try.prog 104 = 1 := by kernel_rfl
theorem in104 : intT Try.prog 104 = some .u8 := by kernel_rfl
theorem zv104 : zeroV Try.prog 104 = some (.int .u8 0) := by kernel_rfl
theorem ze104 : zeroT Try.prog 104 = some [.int .u8 0] := by kernel_rfl
theorem kt105 : kindT Try.prog 105 = some 3 := by kernel_rfl
theorem ag106 : aggT Try.prog 106 = some false := by kernel_rfl
theorem si106 : sizeT Try.prog 106 = 1 := by kernel_rfl
theorem sz106 : szT Try.prog 106 = some 1 := by kernel_rfl
theorem by106 : bytesT Try.prog 106 = 8 := by kernel_rfl
theorem kt106 : kindT Try.prog 106 = some 1 := by kernel_rfl
theorem zv106 : zeroV Try.prog 106 = some (.pointer none) := by kernel_rfl
theorem ze106 : zeroT Try.prog 106 = some [.pointer none] := by kernel_rfl
theorem ag107 : aggT Try.prog 107 = some false := by kernel_rfl
theorem si107 : sizeT Try.prog 107 = 1 := by kernel_rfl
theorem sz107 : szT Try.prog 107 = some 1 := by kernel_rfl
theorem by107 : bytesT Try.prog 107 = 4 := by kernel_rfl
theorem in107 : intT Try.prog 107 = some .i32 := by kernel_rfl
theorem zv107 : zeroV Try.prog 107 = some (.int .i32 0) := by kernel_rfl
theorem ze107 : zeroT Try.prog 107 = some [.int .i32 0] := by kernel_rfl
theorem ag108 : aggT Try.prog 108 = some false := by kernel_rfl
theorem si108 : sizeT Try.prog 108 = 1 := by kernel_rfl
theorem sz108 : szT Try.prog 108 = some 1 := by kernel_rfl
theorem by108 : bytesT Try.prog 108 = 4 := by kernel_rfl
theorem in108 : intT Try.prog 108 = some .i32 := by kernel_rfl
theorem zv108 : zeroV Try.prog 108 = some (.int .i32 0) := by kernel_rfl
theorem ze108 : zeroT Try.prog 108 = some [.int .i32 0] := by kernel_rfl
theorem ag109 : aggT Try.prog 109 = some true := by kernel_rfl
theorem si109 : sizeT Try.prog 109 = 11 := by kernel_rfl
theorem sz109 : szT Try.prog 109 = some 11 := by kernel_rfl
theorem by109 : bytesT Try.prog 109 = 48 := by kernel_rfl
theorem str109 : structT Try.prog 109 = true := by kernel_rfl
theorem fi109_0 : fieldT Try.prog 109 0 = some (0, 12) := by kernel_rfl
theorem fi109_1 : fieldT Try.prog 109 1 = some (1, 12) := by kernel_rfl
theorem fi109_2 : fieldT Try.prog 109 2 = some (2, 102) := by kernel_rfl
theorem fi109_3 : fieldT Try.prog 109 3 = some (3, 103) := by kernel_rfl
theorem fi109_4 : fieldT Try.prog 109 4 = some (4, 5) := by kernel_rfl
theorem fi109_5 : fieldT Try.prog 109 5 = some (5, 5) := by kernel_rfl
theorem fi109_6 : fieldT Try.prog 109 6 = some (6, 104) := by kernel_rfl
theorem fi109_7 : fieldT Try.prog 109 7 = some (7, 105) := by kernel_rfl
theorem fi109_8 : fieldT Try.prog 109 8 = some (8, 106) := by kernel_rfl
theorem fi109_9 : fieldT Try.prog 109 9 = some (9, 107) := by kernel_rfl
theorem fi109_10 : fieldT Try.prog 109 10 = some (10, 108) := by kernel_rfl
theorem ag110 : aggT Try.prog 110 = some true := by kernel_rfl
theorem si110 : sizeT Try.prog 110 = 11 := by kernel_rfl
theorem sz110 : szT Try.prog 110 = some 11 := by kernel_rfl
theorem by110 : bytesT Try.prog 110 = 48 := by kernel_rfl
theorem str110 : structT Try.prog 110 = true := by kernel_rfl
theorem fi110_0 : fieldT Try.prog 110 0 = some (0, 12) := by kernel_rfl
theorem fi110_1 : fieldT Try.prog 110 1 = some (1, 12) := by kernel_rfl
theorem fi110_2 : fieldT Try.prog 110 2 = some (2, 102) := by kernel_rfl
theorem fi110_3 : fieldT Try.prog 110 3 = some (3, 103) := by kernel_rfl
theorem fi110_4 : fieldT Try.prog 110 4 = some (4, 5) := by kernel_rfl
theorem fi110_5 : fieldT Try.prog 110 5 = some (5, 5) := by kernel_rfl
theorem fi110_6 : fieldT Try.prog 110 6 = some (6, 104) := by kernel_rfl
theorem fi110_7 : fieldT Try.prog 110 7 = some (7, 105) := by kernel_rfl
theorem fi110_8 : fieldT Try.prog 110 8 = some (8, 106) := by kernel_rfl
theorem fi110_9 : fieldT Try.prog 110 9 = some (9, 107) := by kernel_rfl
theorem fi110_10 : fieldT Try.prog 110 10 = some (10, 108) := by kernel_rfl
theorem tyF : type_of% (And.intro (And.intro (And.intro (And.intro (And.intro (And.intro (And.intro (And.intro (And.intro (kt1) (ag2)) (And.intro (si2) (sz2))) (And.intro (And.intro
  (by2) (in2)) (And.intro (zv2) (ze2)))) (And.intro (And.intro (And.intro (ag3) (si3)) (And.intro (sz3) (by3))) (And.intro (And.intro (in3) (zv3)) (And.intro (ze3) (ag4)))))
  (And.intro (And.intro (And.intro (And.intro (si4) (sz4)) (And.intro (by4) (bo4))) (And.intro (And.intro (zv4) (ze4)) (And.intro (ag5) (si5)))) (And.intro (And.intro (And.intro
  (sz5) (by5)) (And.intro (in5) (zv5))) (And.intro (And.intro (ze5) (ag6)) (And.intro (si6) (sz6)))))) (And.intro (And.intro (And.intro (And.intro (And.intro (by6) (in6)) (And.intro
  (zv6) (ze6))) (And.intro (And.intro (ag7) (si7)) (And.intro (sz7) (by7)))) (And.intro (And.intro (And.intro (str7) (fi7_0)) (And.intro (fi7_1) (fi7_2))) (And.intro (And.intro
  (fi7_3) (ze7)) (And.intro (ag8) (si8))))) (And.intro (And.intro (And.intro (And.intro (sz8) (by8)) (And.intro (str8) (fi8_0))) (And.intro (And.intro (fi8_1) (fi8_2)) (And.intro
  (fi8_3) (ze8)))) (And.intro (And.intro (And.intro (ag9) (si9)) (And.intro (sz9) (by9))) (And.intro (And.intro (st9) (zv9)) (And.intro (ze9) (ag10))))))) (And.intro (And.intro
  (And.intro (And.intro (And.intro (And.intro (si10) (sz10)) (And.intro (by10) (st10))) (And.intro (And.intro (zv10) (ze10)) (And.intro (ag11) (si11)))) (And.intro (And.intro
  (And.intro (sz11) (by11)) (And.intro (st11) (zv11))) (And.intro (And.intro (ze11) (ag12)) (And.intro (si12) (sz12))))) (And.intro (And.intro (And.intro (And.intro (by12) (in12))
  (And.intro (zv12) (ze12))) (And.intro (And.intro (ag13) (si13)) (And.intro (sz13) (by13)))) (And.intro (And.intro (And.intro (str13) (fi13_0)) (And.intro (fi13_1) (ze13)))
  (And.intro (And.intro (ag14) (si14)) (And.intro (sz14) (by14)))))) (And.intro (And.intro (And.intro (And.intro (And.intro (str14) (fi14_0)) (And.intro (fi14_1) (ze14))) (And.intro
  (And.intro (ag15) (si15)) (And.intro (sz15) (by15)))) (And.intro (And.intro (And.intro (kt15) (zv15)) (And.intro (ze15) (ag16))) (And.intro (And.intro (si16) (sz16)) (And.intro
  (by16) (kt16))))) (And.intro (And.intro (And.intro (And.intro (zv16) (ze16)) (And.intro (ag17) (si17))) (And.intro (And.intro (sz17) (by17)) (And.intro (kt17) (zv17)))) (And.intro
  (And.intro (And.intro (ze17) (ag18)) (And.intro (si18) (sz18))) (And.intro (And.intro (by18) (str18)) (And.intro (fi18_0) (And.intro (ze18) (ag19))))))))) (And.intro (And.intro
  (And.intro (And.intro (And.intro (And.intro (And.intro (si19) (sz19)) (And.intro (by19) (str19))) (And.intro (And.intro (fi19_0) (ze19)) (And.intro (kt20) (ag21)))) (And.intro
  (And.intro (And.intro (si21) (sz21)) (And.intro (by21) (in21))) (And.intro (And.intro (zv21) (ze21)) (And.intro (kt22) (kt23))))) (And.intro (And.intro (And.intro (And.intro
  (ag24) (el24)) (And.intro (si24) (sz24))) (And.intro (And.intro (by24) (kt24)) (And.intro (zv24) (ze24)))) (And.intro (And.intro (And.intro (kt25) (kt26)) (And.intro (ag27)
  (el27))) (And.intro (And.intro (si27) (sz27)) (And.intro (by27) (kt27)))))) (And.intro (And.intro (And.intro (And.intro (And.intro (zv27) (ze27)) (And.intro (kt28) (kt29)))
  (And.intro (And.intro (kt30) (ag31)) (And.intro (el31) (si31)))) (And.intro (And.intro (And.intro (sz31) (by31)) (And.intro (kt31) (zv31))) (And.intro (And.intro (ze31) (kt32))
  (And.intro (kt33) (kt34))))) (And.intro (And.intro (And.intro (And.intro (kt35) (kt36)) (And.intro (ag37) (si37))) (And.intro (And.intro (sz37) (by37)) (And.intro (eq37)
  (str37)))) (And.intro (And.intro (And.intro (fi37_0) (fi37_1)) (And.intro (fi37_2) (fi37_3))) (And.intro (And.intro (fi37_4) (fi37_5)) (And.intro (fi37_6) (And.intro (fi37_7)
  (ze37)))))))) (And.intro (And.intro (And.intro (And.intro (And.intro (And.intro (ag38) (si38)) (And.intro (sz38) (by38))) (And.intro (And.intro (eq38) (str38)) (And.intro (fi38_0)
  (fi38_1)))) (And.intro (And.intro (And.intro (fi38_2) (fi38_3)) (And.intro (fi38_4) (fi38_5))) (And.intro (And.intro (fi38_6) (fi38_7)) (And.intro (ze38) (kt39))))) (And.intro
  (And.intro (And.intro (And.intro (ag40) (si40)) (And.intro (sz40) (by40))) (And.intro (And.intro (eq40) (str40)) (And.intro (fi40_0) (fi40_1)))) (And.intro (And.intro (And.intro
  (fi40_2) (fi40_3)) (And.intro (fi40_4) (fi40_5))) (And.intro (And.intro (fi40_6) (fi40_7)) (And.intro (ze40) (kt41)))))) (And.intro (And.intro (And.intro (And.intro (And.intro
  (kt42) (kt43)) (And.intro (ag44) (el44))) (And.intro (And.intro (si44) (sz44)) (And.intro (by44) (kt44)))) (And.intro (And.intro (And.intro (zv44) (ze44)) (And.intro (kt45)
  (ag46))) (And.intro (And.intro (si46) (sz46)) (And.intro (by46) (kt46))))) (And.intro (And.intro (And.intro (And.intro (zv46) (ze46)) (And.intro (kt47) (ag48))) (And.intro
  (And.intro (si48) (sz48)) (And.intro (by48) (in48)))) (And.intro (And.intro (And.intro (zv48) (ze48)) (And.intro (ag49) (si49))) (And.intro (And.intro (sz49) (by49)) (And.intro
  (eq49) (And.intro (str49) (fi49_0)))))))))) (And.intro (And.intro (And.intro (And.intro (And.intro (And.intro (And.intro (And.intro (fi49_1) (ze49)) (And.intro (ag50) (si50)))
  (And.intro (And.intro (sz50) (by50)) (And.intro (eq50) (str50)))) (And.intro (And.intro (And.intro (fi50_0) (fi50_1)) (And.intro (ze50) (ag51))) (And.intro (And.intro (el51)
  (si51)) (And.intro (sz51) (by51))))) (And.intro (And.intro (And.intro (And.intro (kt51) (zv51)) (And.intro (ze51) (kt53))) (And.intro (And.intro (ag54) (el54)) (And.intro (si54)
  (sz54)))) (And.intro (And.intro (And.intro (by54) (kt54)) (And.intro (zv54) (ze54))) (And.intro (And.intro (kt55) (kt56)) (And.intro (kt57) (kt58)))))) (And.intro (And.intro
  (And.intro (And.intro (And.intro (ag59) (si59)) (And.intro (sz59) (by59))) (And.intro (And.intro (eq59) (str59)) (And.intro (fi59_0) (fi59_1)))) (And.intro (And.intro (And.intro
  (ze59) (kt61)) (And.intro (kt62) (kt63))) (And.intro (And.intro (kt64) (ag65)) (And.intro (el65) (si65))))) (And.intro (And.intro (And.intro (And.intro (sz65) (by65)) (And.intro
  (kt65) (zv65))) (And.intro (And.intro (ze65) (kt66)) (And.intro (kt67) (kt68)))) (And.intro (And.intro (And.intro (kt69) (ag70)) (And.intro (si70) (sz70))) (And.intro (And.intro
  (by70) (eq70)) (And.intro (str70) (And.intro (fi70_0) (fi70_1)))))))) (And.intro (And.intro (And.intro (And.intro (And.intro (And.intro (ze70) (ag71)) (And.intro (si71) (sz71)))
  (And.intro (And.intro (by71) (eq71)) (And.intro (str71) (fi71_0)))) (And.intro (And.intro (And.intro (fi71_1) (ze71)) (And.intro (kt72) (ag73))) (And.intro (And.intro (si73)
  (sz73)) (And.intro (by73) (eq73))))) (And.intro (And.intro (And.intro (And.intro (str73) (fi73_0)) (And.intro (fi73_1) (ze73))) (And.intro (And.intro (kt74) (kt75)) (And.intro
  (ag76) (si76)))) (And.intro (And.intro (And.intro (sz76) (by76)) (And.intro (str76) (fi76_0))) (And.intro (And.intro (fi76_1) (fi76_2)) (And.intro (ze76) (ag77)))))) (And.intro
  (And.intro (And.intro (And.intro (And.intro (si77) (sz77)) (And.intro (by77) (str77))) (And.intro (And.intro (fi77_0) (fi77_1)) (And.intro (fi77_2) (ze77)))) (And.intro (And.intro
  (And.intro (ag78) (si78)) (And.intro (sz78) (by78))) (And.intro (And.intro (in78) (zv78)) (And.intro (ze78) (kt79))))) (And.intro (And.intro (And.intro (And.intro (ag80) (si80))
  (And.intro (sz80) (by80))) (And.intro (And.intro (str80) (fi80_0)) (And.intro (fi80_1) (ze80)))) (And.intro (And.intro (And.intro (ag81) (si81)) (And.intro (sz81) (by81)))
  (And.intro (And.intro (str81) (fi81_0)) (And.intro (fi81_1) (And.intro (ze81) (kt82))))))))) (And.intro (And.intro (And.intro (And.intro (And.intro (And.intro (And.intro (kt83)
  (ag84)) (And.intro (si84) (sz84))) (And.intro (And.intro (by84) (str84)) (And.intro (fi84_0) (fi84_1)))) (And.intro (And.intro (And.intro (ze84) (kt85)) (And.intro (kt86) (kt87)))
  (And.intro (And.intro (kt88) (kt89)) (And.intro (kt90) (kt91))))) (And.intro (And.intro (And.intro (And.intro (kt92) (kt93)) (And.intro (kt94) (kt95))) (And.intro (And.intro
  (ag96) (si96)) (And.intro (sz96) (by96)))) (And.intro (And.intro (And.intro (str96) (fi96_0)) (And.intro (fi96_1) (fi96_2))) (And.intro (And.intro (fi96_3) (ze96)) (And.intro
  (ag97) (si97)))))) (And.intro (And.intro (And.intro (And.intro (And.intro (sz97) (by97)) (And.intro (str97) (fi97_0))) (And.intro (And.intro (fi97_1) (fi97_2)) (And.intro (fi97_3)
  (ze97)))) (And.intro (And.intro (And.intro (ag98) (si98)) (And.intro (sz98) (by98))) (And.intro (And.intro (ag99) (si99)) (And.intro (sz99) (by99))))) (And.intro (And.intro
  (And.intro (And.intro (str99) (ag100)) (And.intro (si100) (sz100))) (And.intro (And.intro (by100) (str100)) (And.intro (kt101) (ag102)))) (And.intro (And.intro (And.intro (si102)
  (sz102)) (And.intro (by102) (in102))) (And.intro (And.intro (zv102) (ze102)) (And.intro (ag103) (And.intro (si103) (sz103)))))))) (And.intro (And.intro (And.intro (And.intro
  (And.intro (And.intro (by103) (in103)) (And.intro (zv103) (ze103))) (And.intro (And.intro (ag104) (si104)) (And.intro (sz104) (by104)))) (And.intro (And.intro (And.intro (in104)
  (zv104)) (And.intro (ze104) (kt105))) (And.intro (And.intro (ag106) (si106)) (And.intro (sz106) (by106))))) (And.intro (And.intro (And.intro (And.intro (kt106) (zv106)) (And.intro
  (ze106) (ag107))) (And.intro (And.intro (si107) (sz107)) (And.intro (by107) (in107)))) (And.intro (And.intro (And.intro (zv107) (ze107)) (And.intro (ag108) (si108))) (And.intro
  (And.intro (sz108) (by108)) (And.intro (in108) (zv108)))))) (And.intro (And.intro (And.intro (And.intro (And.intro (ze108) (ag109)) (And.intro (si109) (sz109))) (And.intro
  (And.intro (by109) (str109)) (And.intro (fi109_0) (fi109_1)))) (And.intro (And.intro (And.intro (fi109_2) (fi109_3)) (And.intro (fi109_4) (fi109_5))) (And.intro (And.intro
  (fi109_6) (fi109_7)) (And.intro (fi109_8) (fi109_9))))) (And.intro (And.intro (And.intro (And.intro (fi109_10) (ag110)) (And.intro (si110) (sz110))) (And.intro (And.intro (by110)
  (str110)) (And.intro (fi110_0) (fi110_1)))) (And.intro (And.intro (And.intro (fi110_2) (fi110_3)) (And.intro (fi110_4) (fi110_5))) (And.intro (And.intro (fi110_6) (fi110_7))
  (And.intro (fi110_8) (And.intro (fi110_9) (fi110_10))))))))))) := And.intro (And.intro (And.intro (And.intro (And.intro (And.intro (And.intro (And.intro (And.intro (kt1) (ag2))
  (And.intro (si2) (sz2))) (And.intro (And.intro (by2) (in2)) (And.intro (zv2) (ze2)))) (And.intro (And.intro (And.intro (ag3) (si3)) (And.intro (sz3) (by3))) (And.intro (And.intro
  (in3) (zv3)) (And.intro (ze3) (ag4))))) (And.intro (And.intro (And.intro (And.intro (si4) (sz4)) (And.intro (by4) (bo4))) (And.intro (And.intro (zv4) (ze4)) (And.intro (ag5)
  (si5)))) (And.intro (And.intro (And.intro (sz5) (by5)) (And.intro (in5) (zv5))) (And.intro (And.intro (ze5) (ag6)) (And.intro (si6) (sz6)))))) (And.intro (And.intro (And.intro
  (And.intro (And.intro (by6) (in6)) (And.intro (zv6) (ze6))) (And.intro (And.intro (ag7) (si7)) (And.intro (sz7) (by7)))) (And.intro (And.intro (And.intro (str7) (fi7_0))
  (And.intro (fi7_1) (fi7_2))) (And.intro (And.intro (fi7_3) (ze7)) (And.intro (ag8) (si8))))) (And.intro (And.intro (And.intro (And.intro (sz8) (by8)) (And.intro (str8) (fi8_0)))
  (And.intro (And.intro (fi8_1) (fi8_2)) (And.intro (fi8_3) (ze8)))) (And.intro (And.intro (And.intro (ag9) (si9)) (And.intro (sz9) (by9))) (And.intro (And.intro (st9) (zv9))
  (And.intro (ze9) (ag10))))))) (And.intro (And.intro (And.intro (And.intro (And.intro (And.intro (si10) (sz10)) (And.intro (by10) (st10))) (And.intro (And.intro (zv10) (ze10))
  (And.intro (ag11) (si11)))) (And.intro (And.intro (And.intro (sz11) (by11)) (And.intro (st11) (zv11))) (And.intro (And.intro (ze11) (ag12)) (And.intro (si12) (sz12))))) (And.intro
  (And.intro (And.intro (And.intro (by12) (in12)) (And.intro (zv12) (ze12))) (And.intro (And.intro (ag13) (si13)) (And.intro (sz13) (by13)))) (And.intro (And.intro (And.intro
  (str13) (fi13_0)) (And.intro (fi13_1) (ze13))) (And.intro (And.intro (ag14) (si14)) (And.intro (sz14) (by14)))))) (And.intro (And.intro (And.intro (And.intro (And.intro (str14)
  (fi14_0)) (And.intro (fi14_1) (ze14))) (And.intro (And.intro (ag15) (si15)) (And.intro (sz15) (by15)))) (And.intro (And.intro (And.intro (kt15) (zv15)) (And.intro (ze15) (ag16)))
  (And.intro (And.intro (si16) (sz16)) (And.intro (by16) (kt16))))) (And.intro (And.intro (And.intro (And.intro (zv16) (ze16)) (And.intro (ag17) (si17))) (And.intro (And.intro
  (sz17) (by17)) (And.intro (kt17) (zv17)))) (And.intro (And.intro (And.intro (ze17) (ag18)) (And.intro (si18) (sz18))) (And.intro (And.intro (by18) (str18)) (And.intro (fi18_0)
  (And.intro (ze18) (ag19))))))))) (And.intro (And.intro (And.intro (And.intro (And.intro (And.intro (And.intro (si19) (sz19)) (And.intro (by19) (str19))) (And.intro (And.intro
  (fi19_0) (ze19)) (And.intro (kt20) (ag21)))) (And.intro (And.intro (And.intro (si21) (sz21)) (And.intro (by21) (in21))) (And.intro (And.intro (zv21) (ze21)) (And.intro (kt22)
  (kt23))))) (And.intro (And.intro (And.intro (And.intro (ag24) (el24)) (And.intro (si24) (sz24))) (And.intro (And.intro (by24) (kt24)) (And.intro (zv24) (ze24)))) (And.intro
  (And.intro (And.intro (kt25) (kt26)) (And.intro (ag27) (el27))) (And.intro (And.intro (si27) (sz27)) (And.intro (by27) (kt27)))))) (And.intro (And.intro (And.intro (And.intro
  (And.intro (zv27) (ze27)) (And.intro (kt28) (kt29))) (And.intro (And.intro (kt30) (ag31)) (And.intro (el31) (si31)))) (And.intro (And.intro (And.intro (sz31) (by31)) (And.intro
  (kt31) (zv31))) (And.intro (And.intro (ze31) (kt32)) (And.intro (kt33) (kt34))))) (And.intro (And.intro (And.intro (And.intro (kt35) (kt36)) (And.intro (ag37) (si37))) (And.intro
  (And.intro (sz37) (by37)) (And.intro (eq37) (str37)))) (And.intro (And.intro (And.intro (fi37_0) (fi37_1)) (And.intro (fi37_2) (fi37_3))) (And.intro (And.intro (fi37_4) (fi37_5))
  (And.intro (fi37_6) (And.intro (fi37_7) (ze37)))))))) (And.intro (And.intro (And.intro (And.intro (And.intro (And.intro (ag38) (si38)) (And.intro (sz38) (by38))) (And.intro
  (And.intro (eq38) (str38)) (And.intro (fi38_0) (fi38_1)))) (And.intro (And.intro (And.intro (fi38_2) (fi38_3)) (And.intro (fi38_4) (fi38_5))) (And.intro (And.intro (fi38_6)
  (fi38_7)) (And.intro (ze38) (kt39))))) (And.intro (And.intro (And.intro (And.intro (ag40) (si40)) (And.intro (sz40) (by40))) (And.intro (And.intro (eq40) (str40)) (And.intro
  (fi40_0) (fi40_1)))) (And.intro (And.intro (And.intro (fi40_2) (fi40_3)) (And.intro (fi40_4) (fi40_5))) (And.intro (And.intro (fi40_6) (fi40_7)) (And.intro (ze40) (kt41))))))
  (And.intro (And.intro (And.intro (And.intro (And.intro (kt42) (kt43)) (And.intro (ag44) (el44))) (And.intro (And.intro (si44) (sz44)) (And.intro (by44) (kt44)))) (And.intro
  (And.intro (And.intro (zv44) (ze44)) (And.intro (kt45) (ag46))) (And.intro (And.intro (si46) (sz46)) (And.intro (by46) (kt46))))) (And.intro (And.intro (And.intro (And.intro
  (zv46) (ze46)) (And.intro (kt47) (ag48))) (And.intro (And.intro (si48) (sz48)) (And.intro (by48) (in48)))) (And.intro (And.intro (And.intro (zv48) (ze48)) (And.intro (ag49)
  (si49))) (And.intro (And.intro (sz49) (by49)) (And.intro (eq49) (And.intro (str49) (fi49_0)))))))))) (And.intro (And.intro (And.intro (And.intro (And.intro (And.intro (And.intro
  (And.intro (fi49_1) (ze49)) (And.intro (ag50) (si50))) (And.intro (And.intro (sz50) (by50)) (And.intro (eq50) (str50)))) (And.intro (And.intro (And.intro (fi50_0) (fi50_1))
  (And.intro (ze50) (ag51))) (And.intro (And.intro (el51) (si51)) (And.intro (sz51) (by51))))) (And.intro (And.intro (And.intro (And.intro (kt51) (zv51)) (And.intro (ze51) (kt53)))
  (And.intro (And.intro (ag54) (el54)) (And.intro (si54) (sz54)))) (And.intro (And.intro (And.intro (by54) (kt54)) (And.intro (zv54) (ze54))) (And.intro (And.intro (kt55) (kt56))
  (And.intro (kt57) (kt58)))))) (And.intro (And.intro (And.intro (And.intro (And.intro (ag59) (si59)) (And.intro (sz59) (by59))) (And.intro (And.intro (eq59) (str59)) (And.intro
  (fi59_0) (fi59_1)))) (And.intro (And.intro (And.intro (ze59) (kt61)) (And.intro (kt62) (kt63))) (And.intro (And.intro (kt64) (ag65)) (And.intro (el65) (si65))))) (And.intro
  (And.intro (And.intro (And.intro (sz65) (by65)) (And.intro (kt65) (zv65))) (And.intro (And.intro (ze65) (kt66)) (And.intro (kt67) (kt68)))) (And.intro (And.intro (And.intro (kt69)
  (ag70)) (And.intro (si70) (sz70))) (And.intro (And.intro (by70) (eq70)) (And.intro (str70) (And.intro (fi70_0) (fi70_1)))))))) (And.intro (And.intro (And.intro (And.intro
  (And.intro (And.intro (ze70) (ag71)) (And.intro (si71) (sz71))) (And.intro (And.intro (by71) (eq71)) (And.intro (str71) (fi71_0)))) (And.intro (And.intro (And.intro (fi71_1)
  (ze71)) (And.intro (kt72) (ag73))) (And.intro (And.intro (si73) (sz73)) (And.intro (by73) (eq73))))) (And.intro (And.intro (And.intro (And.intro (str73) (fi73_0)) (And.intro
  (fi73_1) (ze73))) (And.intro (And.intro (kt74) (kt75)) (And.intro (ag76) (si76)))) (And.intro (And.intro (And.intro (sz76) (by76)) (And.intro (str76) (fi76_0))) (And.intro
  (And.intro (fi76_1) (fi76_2)) (And.intro (ze76) (ag77)))))) (And.intro (And.intro (And.intro (And.intro (And.intro (si77) (sz77)) (And.intro (by77) (str77))) (And.intro (And.intro
  (fi77_0) (fi77_1)) (And.intro (fi77_2) (ze77)))) (And.intro (And.intro (And.intro (ag78) (si78)) (And.intro (sz78) (by78))) (And.intro (And.intro (in78) (zv78)) (And.intro (ze78)
  (kt79))))) (And.intro (And.intro (And.intro (And.intro (ag80) (si80)) (And.intro (sz80) (by80))) (And.intro (And.intro (str80) (fi80_0)) (And.intro (fi80_1) (ze80)))) (And.intro
  (And.intro (And.intro (ag81) (si81)) (And.intro (sz81) (by81))) (And.intro (And.intro (str81) (fi81_0)) (And.intro (fi81_1) (And.intro (ze81) (kt82))))))))) (And.intro (And.intro
  (And.intro (And.intro (And.intro (And.intro (And.intro (kt83) (ag84)) (And.intro (si84) (sz84))) (And.intro (And.intro (by84) (str84)) (And.intro (fi84_0) (fi84_1)))) (And.intro
  (And.intro (And.intro (ze84) (kt85)) (And.intro (kt86) (kt87))) (And.intro (And.intro (kt88) (kt89)) (And.intro (kt90) (kt91))))) (And.intro (And.intro (And.intro (And.intro
  (kt92) (kt93)) (And.intro (kt94) (kt95))) (And.intro (And.intro (ag96) (si96)) (And.intro (sz96) (by96)))) (And.intro (And.intro (And.intro (str96) (fi96_0)) (And.intro (fi96_1)
  (fi96_2))) (And.intro (And.intro (fi96_3) (ze96)) (And.intro (ag97) (si97)))))) (And.intro (And.intro (And.intro (And.intro (And.intro (sz97) (by97)) (And.intro (str97) (fi97_0)))
  (And.intro (And.intro (fi97_1) (fi97_2)) (And.intro (fi97_3) (ze97)))) (And.intro (And.intro (And.intro (ag98) (si98)) (And.intro (sz98) (by98))) (And.intro (And.intro (ag99)
  (si99)) (And.intro (sz99) (by99))))) (And.intro (And.intro (And.intro (And.intro (str99) (ag100)) (And.intro (si100) (sz100))) (And.intro (And.intro (by100) (str100)) (And.intro
  (kt101) (ag102)))) (And.intro (And.intro (And.intro (si102) (sz102)) (And.intro (by102) (in102))) (And.intro (And.intro (zv102) (ze102)) (And.intro (ag103) (And.intro (si103)
  (sz103)))))))) (And.intro (And.intro (And.intro (And.intro (And.intro (And.intro (by103) (in103)) (And.intro (zv103) (ze103))) (And.intro (And.intro (ag104) (si104)) (And.intro
  (sz104) (by104)))) (And.intro (And.intro (And.intro (in104) (zv104)) (And.intro (ze104) (kt105))) (And.intro (And.intro (ag106) (si106)) (And.intro (sz106) (by106))))) (And.intro
  (And.intro (And.intro (And.intro (kt106) (zv106)) (And.intro (ze106) (ag107))) (And.intro (And.intro (si107) (sz107)) (And.intro (by107) (in107)))) (And.intro (And.intro
  (And.intro (zv107) (ze107)) (And.intro (ag108) (si108))) (And.intro (And.intro (sz108) (by108)) (And.intro (in108) (zv108)))))) (And.intro (And.intro (And.intro (And.intro
  (And.intro (ze108) (ag109)) (And.intro (si109) (sz109))) (And.intro (And.intro (by109) (str109)) (And.intro (fi109_0) (fi109_1)))) (And.intro (And.intro (And.intro (fi109_2)
  (fi109_3)) (And.intro (fi109_4) (fi109_5))) (And.intro (And.intro (fi109_6) (fi109_7)) (And.intro (fi109_8) (fi109_9))))) (And.intro (And.intro (And.intro (And.intro (fi109_10)
  (ag110)) (And.intro (si110) (sz110))) (And.intro (And.intro (by110) (str110)) (And.intro (fi110_0) (fi110_1)))) (And.intro (And.intro (And.intro (fi110_2) (fi110_3)) (And.intro
  (fi110_4) (fi110_5))) (And.intro (And.intro (fi110_6) (fi110_7)) (And.intro (fi110_8) (And.intro (fi110_9) (fi110_10))))))))))
end Go.AM
