/-
  WHAT THE PROGRAM SAYS OF ITS TYPES, each fact by reckoning.
-/
import Derived.Test.YtenlmhbkigfjeaaM2Tool
import Derived.Test.YtenlmhbkigfjeaaProg
import Derived.Test.YtenlmhbkigfjeaaProg
set_option linter.unusedVariables false
set_option linter.unusedSimpArgs false
namespace Go.AM
open Go.Proofs
theorem mixed : Try.prog.follows .mixedOrders = true := by kernel_rfl
theorem kt1 : kindT Try.prog 1 = some 3 := by kernel_rfl
theorem ag2 : aggT Try.prog 2 = some false := by kernel_rfl
theorem si2 : sizeT Try.prog 2 = 1 := by kernel_rfl
theorem sz2 : szT Try.prog 2 = some 1 := by kernel_rfl
theorem by2 : bytesT Try.prog 2 = 8 := by kernel_rfl
theorem in2 : intT Try.prog 2 = some .i64 := by kernel_rfl
theorem zv2 : zeroV Try.prog 2 = some (.int .i64 0) := by kernel_rfl
theorem ze2 : zeroT Try.prog 2 = some [.int .i64 0] := by kernel_rfl
theorem ag3 : aggT Try.prog 3 = some false := by kernel_rfl
theorem si3 : sizeT Try.prog 3 = 1 := by kernel_rfl
theorem sz3 : szT Try.prog 3 = some 1 := by kernel_rfl
theorem by3 : bytesT Try.prog 3 = 8 := by kernel_rfl
theorem in3 : intT Try.prog 3 = some .i64 := by kernel_rfl
theorem zv3 : zeroV Try.prog 3 = some (.int .i64 0) := by kernel_rfl
theorem ze3 : zeroT Try.prog 3 = some [.int .i64 0] := by kernel_rfl
theorem ag4 : aggT Try.prog 4 = some false := by kernel_rfl
theorem si4 : sizeT Try.prog 4 = 1 := by kernel_rfl
theorem sz4 : szT Try.prog 4 = some 1 := by kernel_rfl
theorem by4 : bytesT Try.prog 4 = 1 := by kernel_rfl
theorem bo4 : boolT Try.prog 4 = true := by kernel_rfl
theorem zv4 : zeroV Try.prog 4 = some (.bool false) := by kernel_rfl
theorem ze4 : zeroT Try.prog 4 = some [.bool false] := by kernel_rfl
theorem ag5 : aggT Try.prog 5 = some false := by kernel_rfl
theorem si5 : sizeT Try.prog 5 = 1 := by kernel_rfl
theorem sz5 : szT Try.prog 5 = some 1 := by kernel_rfl
theorem by5 : bytesT Try.prog 5 = 1 := by kernel_rfl
theorem in5 : intT Try.prog 5 = some .u8 := by kernel_rfl
theorem zv5 : zeroV Try.prog 5 = some (.int .u8 0) := by kernel_rfl
theorem ze5 : zeroT Try.prog 5 = some [.int .u8 0] := by kernel_rfl
theorem ag6 : aggT Try.prog 6 = some false := by kernel_rfl
theorem si6 : sizeT Try.prog 6 = 1 := by kernel_rfl
theorem sz6 : szT Try.prog 6 = some 1 := by kernel_rfl
theorem by6 : bytesT Try.prog 6 = 1 := by kernel_rfl
theorem in6 : intT Try.prog 6 = some .u8 := by kernel_rfl
theorem zv6 : zeroV Try.prog 6 = some (.int .u8 0) := by kernel_rfl
theorem ze6 : zeroT Try.prog 6 = some [.int .u8 0] := by kernel_rfl
theorem ag7 : aggT Try.prog 7 = some true := by kernel_rfl
theorem si7 : sizeT Try.prog 7 = 4 := by kernel_rfl
theorem sz7 : szT Try.prog 7 = some 4 := by kernel_rfl
theorem by7 : bytesT Try.prog 7 = 24 := by kernel_rfl
theorem str7 : structT Try.prog 7 = true := by kernel_rfl
theorem fi7_0 : fieldT Try.prog 7 0 = some (0, 2) := by kernel_rfl
theorem fi7_1 : fieldT Try.prog 7 1 = some (1, 3) := by kernel_rfl
theorem fi7_2 : fieldT Try.prog 7 2 = some (2, 4) := by kernel_rfl
theorem fi7_3 : fieldT Try.prog 7 3 = some (3, 6) := by kernel_rfl
theorem ze7 : zeroT Try.prog 7 = some [.int .i64 0, .int .i64 0, .bool false, .int .u8 0] := by kernel_rfl
theorem ag8 : aggT Try.prog 8 = some true := by kernel_rfl
theorem si8 : sizeT Try.prog 8 = 4 := by kernel_rfl
theorem sz8 : szT Try.prog 8 = some 4 := by kernel_rfl
theorem by8 : bytesT Try.prog 8 = 24 := by kernel_rfl
theorem str8 : structT Try.prog 8 = true := by kernel_rfl
theorem fi8_0 : fieldT Try.prog 8 0 = some (0, 2) := by kernel_rfl
theorem fi8_1 : fieldT Try.prog 8 1 = some (1, 3) := by kernel_rfl
theorem fi8_2 : fieldT Try.prog 8 2 = some (2, 4) := by kernel_rfl
theorem fi8_3 : fieldT Try.prog 8 3 = some (3, 6) := by kernel_rfl
theorem ze8 : zeroT Try.prog 8 = some [.int .i64 0, .int .i64 0, .bool false, .int .u8 0] := by kernel_rfl
theorem ag9 : aggT Try.prog 9 = some false := by kernel_rfl
theorem si9 : sizeT Try.prog 9 = 1 := by kernel_rfl
theorem sz9 : szT Try.prog 9 = some 1 := by kernel_rfl
theorem by9 : bytesT Try.prog 9 = 16 := by kernel_rfl
theorem st9 : stringT Try.prog 9 = true := by kernel_rfl
theorem zv9 : zeroV Try.prog 9 = some (.string ⟨#[]⟩) := by kernel_rfl
theorem ze9 : zeroT Try.prog 9 = some [.string ⟨#[]⟩] := by kernel_rfl
theorem ag10 : aggT Try.prog 10 = some false := by kernel_rfl
theorem si10 : sizeT Try.prog 10 = 1 := by kernel_rfl
theorem sz10 : szT Try.prog 10 = some 1 := by kernel_rfl
theorem by10 : bytesT Try.prog 10 = 16 := by kernel_rfl
theorem st10 : stringT Try.prog 10 = true := by kernel_rfl
theorem zv10 : zeroV Try.prog 10 = some (.string ⟨#[]⟩) := by kernel_rfl
theorem ze10 : zeroT Try.prog 10 = some [.string ⟨#[]⟩] := by kernel_rfl
theorem ag11 : aggT Try.prog 11 = some false := by kernel_rfl
theorem si11 : sizeT Try.prog 11 = 1 := by kernel_rfl
theorem sz11 : szT Try.prog 11 = some 1 := by kernel_rfl
theorem by11 : bytesT Try.prog 11 = 16 := by kernel_rfl
theorem st11 : stringT Try.prog 11 = true := by kernel_rfl
theorem zv11 : zeroV Try.prog 11 = some (.string ⟨#[]⟩) := by kernel_rfl
theorem ze11 : zeroT Try.prog 11 = some [.string ⟨#[]⟩] := by kernel_rfl
theorem ag12 : aggT Try.prog 12 = some false := by kernel_rfl
theorem si12 : sizeT Try.prog 12 = 1 := by kernel_rfl
theorem sz12 : szT Try.prog 12 = some 1 := by kernel_rfl
theorem by12 : bytesT Try.prog 12 = 8 := by kernel_rfl
theorem in12 : intT Try.prog 12 = some .u64 := by kernel_rfl
theorem zv12 : zeroV Try.prog 12 = some (.int .u64 0) := by kernel_rfl
theorem ze12 : zeroT Try.prog 12 = some [.int .u64 0] := by kernel_rfl
theorem ag13 : aggT Try.prog 13 = some true := by kernel_rfl
theorem si13 : sizeT Try.prog 13 = 2 := by kernel_rfl
theorem sz13 : szT Try.prog 13 = some 2 := by kernel_rfl
theorem by13 : bytesT Try.prog 13 = 24 := by kernel_rfl
theorem str13 : structT Try.prog 13 = true := by kernel_rfl
theorem fi13_0 : fieldT Try.prog 13 0 = some (0, 9) := by kernel_rfl
theorem fi13_1 : fieldT Try.prog 13 1 = some (1, 12) := by kernel_rfl
theorem ze13 : zeroT Try.prog 13 = some [.string ⟨#[]⟩, .int .u64 0] := by kernel_rfl
theorem ag14 : aggT Try.prog 14 = some true := by kernel_rfl
theorem si14 : sizeT Try.prog 14 = 2 := by kernel_rfl
theorem sz14 : szT Try.prog 14 = some 2 := by kernel_rfl
theorem by14 : bytesT Try.prog 14 = 24 := by kernel_rfl
theorem str14 : structT Try.prog 14 = true := by kernel_rfl
theorem fi14_0 : fieldT Try.prog 14 0 = some (0, 9) := by kernel_rfl
theorem fi14_1 : fieldT Try.prog 14 1 = some (1, 12) := by kernel_rfl
theorem ze14 : zeroT Try.prog 14 = some [.string ⟨#[]⟩, .int .u64 0] := by kernel_rfl
theorem ag15 : aggT Try.prog 15 = some false := by kernel_rfl
theorem si15 : sizeT Try.prog 15 = 1 := by kernel_rfl
theorem sz15 : szT Try.prog 15 = some 1 := by kernel_rfl
theorem by15 : bytesT Try.prog 15 = 8 := by kernel_rfl
theorem kt15 : kindT Try.prog 15 = some 1 := by kernel_rfl
theorem zv15 : zeroV Try.prog 15 = some (.pointer none) := by kernel_rfl
theorem ze15 : zeroT Try.prog 15 = some [.pointer none] := by kernel_rfl
theorem ag16 : aggT Try.prog 16 = some false := by kernel_rfl
theorem si16 : sizeT Try.prog 16 = 1 := by kernel_rfl
theorem sz16 : szT Try.prog 16 = some 1 := by kernel_rfl
theorem by16 : bytesT Try.prog 16 = 8 := by kernel_rfl
theorem kt16 : kindT Try.prog 16 = some 1 := by kernel_rfl
theorem zv16 : zeroV Try.prog 16 = some (.pointer none) := by kernel_rfl
theorem ze16 : zeroT Try.prog 16 = some [.pointer none] := by kernel_rfl
theorem ag17 : aggT Try.prog 17 = some false := by kernel_rfl
theorem si17 : sizeT Try.prog 17 = 1 := by kernel_rfl
theorem sz17 : szT Try.prog 17 = some 1 := by kernel_rfl
theorem by17 : bytesT Try.prog 17 = 8 := by kernel_rfl
theorem kt17 : kindT Try.prog 17 = some 1 := by kernel_rfl
theorem zv17 : zeroV Try.prog 17 = some (.pointer none) := by kernel_rfl
theorem ze17 : zeroT Try.prog 17 = some [.pointer none] := by kernel_rfl
theorem ag18 : aggT Try.prog 18 = some true := by kernel_rfl
theorem si18 : sizeT Try.prog 18 = 1 := by kernel_rfl
theorem sz18 : szT Try.prog 18 = some 1 := by kernel_rfl
theorem by18 : bytesT Try.prog 18 = 8 := by kernel_rfl
theorem str18 : structT Try.prog 18 = true := by kernel_rfl
theorem fi18_0 : fieldT Try.prog 18 0 = some (0, 17) := by kernel_rfl
theorem ze18 : zeroT Try.prog 18 = some [.pointer none] := by kernel_rfl
theorem ag19 : aggT Try.prog 19 = some true := by kernel_rfl
theorem si19 : sizeT Try.prog 19 = 1 := by kernel_rfl
theorem sz19 : szT Try.prog 19 = some 1 := by kernel_rfl
theorem by19 : bytesT Try.prog 19 = 8 := by kernel_rfl
theorem str19 : structT Try.prog 19 = true := by kernel_rfl
theorem fi19_0 : fieldT Try.prog 19 0 = some (0, 17) := by kernel_rfl
theorem ze19 : zeroT Try.prog 19 = some [.pointer none] := by kernel_rfl
theorem kt20 : kindT Try.prog 20 = some 2 := by kernel_rfl
theorem ag21 : aggT Try.prog 21 = some false := by kernel_rfl
theorem si21 : sizeT Try.prog 21 = 1 := by kernel_rfl
theorem sz21 : szT Try.prog 21 = some 1 := by kernel_rfl
theorem by21 : bytesT Try.prog 21 = 4 := by kernel_rfl
theorem in21 : intT Try.prog 21 = some .i32 := by kernel_rfl
theorem zv21 : zeroV Try.prog 21 = some (.int .i32 0) := by kernel_rfl
theorem ze21 : zeroT Try.prog 21 = some [.int .i32 0] := by kernel_rfl
theorem ag22 : aggT Try.prog 22 = some false := by kernel_rfl
theorem el22 : elemT Try.prog 22 = some 5 := by kernel_rfl
theorem si22 : sizeT Try.prog 22 = 1 := by kernel_rfl
theorem sz22 : szT Try.prog 22 = some 1 := by kernel_rfl
theorem by22 : bytesT Try.prog 22 = 24 := by kernel_rfl
theorem kt22 : kindT Try.prog 22 = some 0 := by kernel_rfl
theorem zv22 : zeroV Try.prog 22 = some (.slice none 0 0) := by kernel_rfl
theorem ze22 : zeroT Try.prog 22 = some [.slice none 0 0] := by kernel_rfl
theorem kt23 : kindT Try.prog 23 = some 3 := by kernel_rfl
theorem ag24 : aggT Try.prog 24 = some false := by kernel_rfl
theorem el24 : elemT Try.prog 24 = some 103 := by kernel_rfl
theorem si24 : sizeT Try.prog 24 = 1 := by kernel_rfl
theorem sz24 : szT Try.prog 24 = some 1 := by kernel_rfl
theorem by24 : bytesT Try.prog 24 = 24 := by kernel_rfl
theorem kt24 : kindT Try.prog 24 = some 0 := by kernel_rfl
theorem zv24 : zeroV Try.prog 24 = some (.slice none 0 0) := by kernel_rfl
theorem ze24 : zeroT Try.prog 24 = some [.slice none 0 0] := by kernel_rfl
theorem ag25 : aggT Try.prog 25 = some false := by kernel_rfl
theorem el25 : elemT Try.prog 25 = some 35 := by kernel_rfl
theorem si25 : sizeT Try.prog 25 = 1 := by kernel_rfl
theorem sz25 : szT Try.prog 25 = some 1 := by kernel_rfl
theorem by25 : bytesT Try.prog 25 = 24 := by kernel_rfl
theorem kt25 : kindT Try.prog 25 = some 0 := by kernel_rfl
theorem zv25 : zeroV Try.prog 25 = some (.slice none 0 0) := by kernel_rfl
theorem ze25 : zeroT Try.prog 25 = some [.slice none 0 0] := by kernel_rfl
theorem ag26 : aggT Try.prog 26 = some true := by kernel_rfl
theorem si26 : sizeT Try.prog 26 = 3 := by kernel_rfl
theorem sz26 : szT Try.prog 26 = some 3 := by kernel_rfl
theorem by26 : bytesT Try.prog 26 = 64 := by kernel_rfl
theorem str26 : structT Try.prog 26 = true := by kernel_rfl
theorem fi26_0 : fieldT Try.prog 26 0 = some (0, 24) := by kernel_rfl
theorem fi26_1 : fieldT Try.prog 26 1 = some (1, 9) := by kernel_rfl
theorem fi26_2 : fieldT Try.prog 26 2 = some (2, 25) := by kernel_rfl
theorem ze26 : zeroT Try.prog 26 = some [.slice none 0 0, .string ⟨#[]⟩, .slice none 0 0] := by kernel_rfl
theorem ag27 : aggT Try.prog 27 = some true := by kernel_rfl
theorem si27 : sizeT Try.prog 27 = 3 := by kernel_rfl
theorem sz27 : szT Try.prog 27 = some 3 := by kernel_rfl
theorem by27 : bytesT Try.prog 27 = 64 := by kernel_rfl
theorem str27 : structT Try.prog 27 = true := by kernel_rfl
theorem fi27_0 : fieldT Try.prog 27 0 = some (0, 24) := by kernel_rfl
theorem fi27_1 : fieldT Try.prog 27 1 = some (1, 9) := by kernel_rfl
theorem fi27_2 : fieldT Try.prog 27 2 = some (2, 25) := by kernel_rfl
theorem ze27 : zeroT Try.prog 27 = some [.slice none 0 0, .string ⟨#[]⟩, .slice none 0 0] := by kernel_rfl
theorem kt28 : kindT Try.prog 28 = some 3 := by kernel_rfl
theorem ag29 : aggT Try.prog 29 = some false := by kernel_rfl
theorem el29 : elemT Try.prog 29 = some 42 := by kernel_rfl
theorem si29 : sizeT Try.prog 29 = 1 := by kernel_rfl
theorem sz29 : szT Try.prog 29 = some 1 := by kernel_rfl
theorem by29 : bytesT Try.prog 29 = 24 := by kernel_rfl
theorem kt29 : kindT Try.prog 29 = some 0 := by kernel_rfl
theorem zv29 : zeroV Try.prog 29 = some (.slice none 0 0) := by kernel_rfl
theorem ze29 : zeroT Try.prog 29 = some [.slice none 0 0] := by kernel_rfl
theorem kt30 : kindT Try.prog 30 = some 3 := by kernel_rfl
theorem kt31 : kindT Try.prog 31 = some 3 := by kernel_rfl
theorem ag32 : aggT Try.prog 32 = some false := by kernel_rfl
theorem si32 : sizeT Try.prog 32 = 1 := by kernel_rfl
theorem sz32 : szT Try.prog 32 = some 1 := by kernel_rfl
theorem by32 : bytesT Try.prog 32 = 8 := by kernel_rfl
theorem kt32 : kindT Try.prog 32 = some 1 := by kernel_rfl
theorem zv32 : zeroV Try.prog 32 = some (.pointer none) := by kernel_rfl
theorem ze32 : zeroT Try.prog 32 = some [.pointer none] := by kernel_rfl
theorem kt33 : kindT Try.prog 33 = some 3 := by kernel_rfl
theorem ag34 : aggT Try.prog 34 = some false := by kernel_rfl
theorem si34 : sizeT Try.prog 34 = 1 := by kernel_rfl
theorem sz34 : szT Try.prog 34 = some 1 := by kernel_rfl
theorem by34 : bytesT Try.prog 34 = 8 := by kernel_rfl
theorem in34 : intT Try.prog 34 = some .u64 := by kernel_rfl
theorem zv34 : zeroV Try.prog 34 = some (.int .u64 0) := by kernel_rfl
theorem ze34 : zeroT Try.prog 34 = some [.int .u64 0] := by kernel_rfl
theorem ag35 : aggT Try.prog 35 = some false := by kernel_rfl
theorem el35 : elemT Try.prog 35 = some 117 := by kernel_rfl
theorem si35 : sizeT Try.prog 35 = 1 := by kernel_rfl
theorem sz35 : szT Try.prog 35 = some 1 := by kernel_rfl
theorem by35 : bytesT Try.prog 35 = 24 := by kernel_rfl
theorem kt35 : kindT Try.prog 35 = some 0 := by kernel_rfl
theorem zv35 : zeroV Try.prog 35 = some (.slice none 0 0) := by kernel_rfl
theorem ze35 : zeroT Try.prog 35 = some [.slice none 0 0] := by kernel_rfl
theorem kt36 : kindT Try.prog 36 = some 3 := by kernel_rfl
theorem kt37 : kindT Try.prog 37 = some 3 := by kernel_rfl
theorem kt39 : kindT Try.prog 39 = some 3 := by kernel_rfl
theorem kt40 : kindT Try.prog 40 = some 3 := by kernel_rfl
theorem ag41 : aggT Try.prog 41 = some true := by kernel_rfl
theorem si41 : sizeT Try.prog 41 = 2 := by kernel_rfl
theorem sz41 : szT Try.prog 41 = some 2 := by kernel_rfl
theorem by41 : bytesT Try.prog 41 = 16 := by kernel_rfl
theorem eq41 : eqT Try.prog 41 = some [(0, 0), (1, 0)] := by kernel_rfl
theorem str41 : structT Try.prog 41 = true := by kernel_rfl
theorem fi41_0 : fieldT Try.prog 41 0 = some (0, 2) := by kernel_rfl
theorem fi41_1 : fieldT Try.prog 41 1 = some (1, 2) := by kernel_rfl
theorem ze41 : zeroT Try.prog 41 = some [.int .i64 0, .int .i64 0] := by kernel_rfl
theorem ag42 : aggT Try.prog 42 = some true := by kernel_rfl
theorem si42 : sizeT Try.prog 42 = 2 := by kernel_rfl
theorem sz42 : szT Try.prog 42 = some 2 := by kernel_rfl
theorem by42 : bytesT Try.prog 42 = 16 := by kernel_rfl
theorem eq42 : eqT Try.prog 42 = some [(0, 0), (1, 0)] := by kernel_rfl
theorem str42 : structT Try.prog 42 = true := by kernel_rfl
theorem fi42_0 : fieldT Try.prog 42 0 = some (0, 2) := by kernel_rfl
theorem fi42_1 : fieldT Try.prog 42 1 = some (1, 2) := by kernel_rfl
theorem ze42 : zeroT Try.prog 42 = some [.int .i64 0, .int .i64 0] := by kernel_rfl
theorem kt43 : kindT Try.prog 43 = some 3 := by kernel_rfl
theorem kt45 : kindT Try.prog 45 = some 3 := by kernel_rfl
theorem ag46 : aggT Try.prog 46 = some false := by kernel_rfl
theorem el46 : elemT Try.prog 46 = some 52 := by kernel_rfl
theorem si46 : sizeT Try.prog 46 = 1 := by kernel_rfl
theorem sz46 : szT Try.prog 46 = some 1 := by kernel_rfl
theorem by46 : bytesT Try.prog 46 = 24 := by kernel_rfl
theorem kt46 : kindT Try.prog 46 = some 0 := by kernel_rfl
theorem zv46 : zeroV Try.prog 46 = some (.slice none 0 0) := by kernel_rfl
theorem ze46 : zeroT Try.prog 46 = some [.slice none 0 0] := by kernel_rfl
theorem ag47 : aggT Try.prog 47 = some true := by kernel_rfl
theorem si47 : sizeT Try.prog 47 = 3 := by kernel_rfl
theorem sz47 : szT Try.prog 47 = some 3 := by kernel_rfl
theorem by47 : bytesT Try.prog 47 = 48 := by kernel_rfl
theorem str47 : structT Try.prog 47 = true := by kernel_rfl
theorem fi47_0 : fieldT Try.prog 47 0 = some (0, 2) := by kernel_rfl
theorem fi47_1 : fieldT Try.prog 47 1 = some (1, 9) := by kernel_rfl
theorem fi47_2 : fieldT Try.prog 47 2 = some (2, 46) := by kernel_rfl
theorem ze47 : zeroT Try.prog 47 = some [.int .i64 0, .string ⟨#[]⟩, .slice none 0 0] := by kernel_rfl
theorem ag48 : aggT Try.prog 48 = some true := by kernel_rfl
theorem si48 : sizeT Try.prog 48 = 3 := by kernel_rfl
theorem sz48 : szT Try.prog 48 = some 3 := by kernel_rfl
theorem by48 : bytesT Try.prog 48 = 48 := by kernel_rfl
theorem str48 : structT Try.prog 48 = true := by kernel_rfl
theorem fi48_0 : fieldT Try.prog 48 0 = some (0, 2) := by kernel_rfl
theorem fi48_1 : fieldT Try.prog 48 1 = some (1, 9) := by kernel_rfl
theorem fi48_2 : fieldT Try.prog 48 2 = some (2, 46) := by kernel_rfl
theorem ze48 : zeroT Try.prog 48 = some [.int .i64 0, .string ⟨#[]⟩, .slice none 0 0] := by kernel_rfl
theorem kt50 : kindT Try.prog 50 = some 3 := by kernel_rfl
theorem kt51 : kindT Try.prog 51 = some 3 := by kernel_rfl
theorem ag52 : aggT Try.prog 52 = some false := by kernel_rfl
theorem el52 : elemT Try.prog 52 = some 2 := by kernel_rfl
theorem si52 : sizeT Try.prog 52 = 1 := by kernel_rfl
theorem sz52 : szT Try.prog 52 = some 1 := by kernel_rfl
theorem by52 : bytesT Try.prog 52 = 24 := by kernel_rfl
theorem kt52 : kindT Try.prog 52 = some 0 := by kernel_rfl
theorem zv52 : zeroV Try.prog 52 = some (.slice none 0 0) := by kernel_rfl
theorem ze52 : zeroT Try.prog 52 = some [.slice none 0 0] := by kernel_rfl
theorem kt54 : kindT Try.prog 54 = some 3 := by kernel_rfl
theorem kt55 : kindT Try.prog 55 = some 3 := by kernel_rfl
theorem kt56 : kindT Try.prog 56 = some 3 := by kernel_rfl
theorem kt57 : kindT Try.prog 57 = some 3 := by kernel_rfl
theorem ag58 : aggT Try.prog 58 = some false := by kernel_rfl
theorem el58 : elemT Try.prog 58 = some 182 := by kernel_rfl
theorem si58 : sizeT Try.prog 58 = 1 := by kernel_rfl
theorem sz58 : szT Try.prog 58 = some 1 := by kernel_rfl
theorem by58 : bytesT Try.prog 58 = 24 := by kernel_rfl
theorem kt58 : kindT Try.prog 58 = some 0 := by kernel_rfl
theorem zv58 : zeroV Try.prog 58 = some (.slice none 0 0) := by kernel_rfl
theorem ze58 : zeroT Try.prog 58 = some [.slice none 0 0] := by kernel_rfl
theorem ag59 : aggT Try.prog 59 = some false := by kernel_rfl
theorem el59 : elemT Try.prog 59 = some 180 := by kernel_rfl
theorem si59 : sizeT Try.prog 59 = 1 := by kernel_rfl
theorem sz59 : szT Try.prog 59 = some 1 := by kernel_rfl
theorem by59 : bytesT Try.prog 59 = 24 := by kernel_rfl
theorem kt59 : kindT Try.prog 59 = some 0 := by kernel_rfl
theorem zv59 : zeroV Try.prog 59 = some (.slice none 0 0) := by kernel_rfl
theorem ze59 : zeroT Try.prog 59 = some [.slice none 0 0] := by kernel_rfl
theorem ag60 : aggT Try.prog 60 = some true := by kernel_rfl
theorem si60 : sizeT Try.prog 60 = 3 := by kernel_rfl
theorem sz60 : szT Try.prog 60 = some 3 := by kernel_rfl
theorem by60 : bytesT Try.prog 60 = 64 := by kernel_rfl
theorem str60 : structT Try.prog 60 = true := by kernel_rfl
theorem fi60_0 : fieldT Try.prog 60 0 = some (0, 58) := by kernel_rfl
theorem fi60_1 : fieldT Try.prog 60 1 = some (1, 9) := by kernel_rfl
theorem fi60_2 : fieldT Try.prog 60 2 = some (2, 59) := by kernel_rfl
theorem ze60 : zeroT Try.prog 60 = some [.slice none 0 0, .string ⟨#[]⟩, .slice none 0 0] := by kernel_rfl
theorem ag61 : aggT Try.prog 61 = some true := by kernel_rfl
theorem si61 : sizeT Try.prog 61 = 3 := by kernel_rfl
theorem sz61 : szT Try.prog 61 = some 3 := by kernel_rfl
theorem by61 : bytesT Try.prog 61 = 64 := by kernel_rfl
theorem str61 : structT Try.prog 61 = true := by kernel_rfl
theorem fi61_0 : fieldT Try.prog 61 0 = some (0, 58) := by kernel_rfl
theorem fi61_1 : fieldT Try.prog 61 1 = some (1, 9) := by kernel_rfl
theorem fi61_2 : fieldT Try.prog 61 2 = some (2, 59) := by kernel_rfl
theorem ze61 : zeroT Try.prog 61 = some [.slice none 0 0, .string ⟨#[]⟩, .slice none 0 0] := by kernel_rfl
theorem kt62 : kindT Try.prog 62 = some 3 := by kernel_rfl
theorem kt63 : kindT Try.prog 63 = some 3 := by kernel_rfl
theorem kt64 : kindT Try.prog 64 = some 3 := by kernel_rfl
theorem kt65 : kindT Try.prog 65 = some 3 := by kernel_rfl
theorem kt66 : kindT Try.prog 66 = some 3 := by kernel_rfl
theorem kt67 : kindT Try.prog 67 = some 3 := by kernel_rfl
theorem kt68 : kindT Try.prog 68 = some 3 := by kernel_rfl
theorem kt69 : kindT Try.prog 69 = some 3 := by kernel_rfl
theorem kt70 : kindT Try.prog 70 = some 3 := by kernel_rfl
theorem kt71 : kindT Try.prog 71 = some 3 := by kernel_rfl
theorem kt72 : kindT Try.prog 72 = some 3 := by kernel_rfl
theorem kt73 : kindT Try.prog 73 = some 3 := by kernel_rfl
theorem kt74 : kindT Try.prog 74 = some 3 := by kernel_rfl
theorem kt75 : kindT Try.prog 75 = some 3 := by kernel_rfl
theorem ag76 : aggT Try.prog 76 = some true := by kernel_rfl
theorem si76 : sizeT Try.prog 76 = 3 := by kernel_rfl
theorem sz76 : szT Try.prog 76 = some 3 := by kernel_rfl
theorem by76 : bytesT Try.prog 76 = 48 := by kernel_rfl
theorem str76 : structT Try.prog 76 = true := by kernel_rfl
theorem fi76_0 : fieldT Try.prog 76 0 = some (0, 2) := by kernel_rfl
theorem fi76_1 : fieldT Try.prog 76 1 = some (1, 9) := by kernel_rfl
theorem fi76_2 : fieldT Try.prog 76 2 = some (2, 46) := by kernel_rfl
theorem ze76 : zeroT Try.prog 76 = some [.int .i64 0, .string ⟨#[]⟩, .slice none 0 0] := by kernel_rfl
theorem kt77 : kindT Try.prog 77 = some 3 := by kernel_rfl
theorem kt78 : kindT Try.prog 78 = some 3 := by kernel_rfl
theorem kt79 : kindT Try.prog 79 = some 3 := by kernel_rfl
theorem kt80 : kindT Try.prog 80 = some 3 := by kernel_rfl
theorem kt81 : kindT Try.prog 81 = some 3 := by kernel_rfl
theorem kt82 : kindT Try.prog 82 = some 3 := by kernel_rfl
theorem ag83 : aggT Try.prog 83 = some false := by kernel_rfl
theorem el83 : elemT Try.prog 83 = some 158 := by kernel_rfl
theorem si83 : sizeT Try.prog 83 = 1 := by kernel_rfl
theorem sz83 : szT Try.prog 83 = some 1 := by kernel_rfl
theorem by83 : bytesT Try.prog 83 = 24 := by kernel_rfl
theorem kt83 : kindT Try.prog 83 = some 0 := by kernel_rfl
theorem zv83 : zeroV Try.prog 83 = some (.slice none 0 0) := by kernel_rfl
theorem ze83 : zeroT Try.prog 83 = some [.slice none 0 0] := by kernel_rfl
theorem kt85 : kindT Try.prog 85 = some 3 := by kernel_rfl
theorem kt86 : kindT Try.prog 86 = some 3 := by kernel_rfl
theorem kt87 : kindT Try.prog 87 = some 3 := by kernel_rfl
theorem kt88 : kindT Try.prog 88 = some 3 := by kernel_rfl
theorem kt89 : kindT Try.prog 89 = some 3 := by kernel_rfl
theorem kt90 : kindT Try.prog 90 = some 3 := by kernel_rfl
theorem kt92 : kindT Try.prog 92 = some 3 := by kernel_rfl
theorem kt93 : kindT Try.prog 93 = some 3 := by kernel_rfl
theorem kt94 : kindT Try.prog 94 = some 3 := by kernel_rfl
theorem kt96 : kindT Try.prog 96 = some 3 := by kernel_rfl
theorem kt97 : kindT Try.prog 97 = some 3 := by kernel_rfl
theorem kt98 : kindT Try.prog 98 = some 3 := by kernel_rfl
theorem ag99 : aggT Try.prog 99 = some false := by kernel_rfl
theorem si99 : sizeT Try.prog 99 = 1 := by kernel_rfl
theorem sz99 : szT Try.prog 99 = some 1 := by kernel_rfl
theorem by99 : bytesT Try.prog 99 = 8 := by kernel_rfl
theorem kt99 : kindT Try.prog 99 = some 1 := by kernel_rfl
theorem zv99 : zeroV Try.prog 99 = some (.pointer none) := by kernel_rfl
theorem ze99 : zeroT Try.prog 99 = some [.pointer none] := by kernel_rfl
theorem kt100 : kindT Try.prog 100 = some 3 := by kernel_rfl
theorem kt101 : kindT Try.prog 101 = some 3 := by kernel_rfl
theorem ag102 : aggT Try.prog 102 = some true := by kernel_rfl
theorem si102 : sizeT Try.prog 102 = 2 := by kernel_rfl
theorem sz102 : szT Try.prog 102 = some 2 := by kernel_rfl
theorem by102 : bytesT Try.prog 102 = 16 := by kernel_rfl
theorem eq102 : eqT Try.prog 102 = some [(0, 0), (1, 0)] := by kernel_rfl
theorem str102 : structT Try.prog 102 = true := by kernel_rfl
theorem fi102_0 : fieldT Try.prog 102 0 = some (0, 2) := by kernel_rfl
theorem fi102_1 : fieldT Try.prog 102 1 = some (1, 2) := by kernel_rfl
theorem ze102 : zeroT Try.prog 102 = some [.int .i64 0, .int .i64 0] := by kernel_rfl
theorem ag103 : aggT Try.prog 103 = some true := by kernel_rfl
theorem si103 : sizeT Try.prog 103 = 2 := by kernel_rfl
theorem sz103 : szT Try.prog 103 = some 2 := by kernel_rfl
theorem by103 : bytesT Try.prog 103 = 16 := by kernel_rfl
theorem eq103 : eqT Try.prog 103 = some [(0, 0), (1, 0)] := by kernel_rfl
theorem str103 : structT Try.prog 103 = true := by kernel_rfl
theorem fi103_0 : fieldT Try.prog 103 0 = some (0, 2) := by kernel_rfl
theorem fi103_1 : fieldT Try.prog 103 1 = some (1, 2) := by kernel_rfl
theorem ze103 : zeroT Try.prog 103 = some [.int .i64 0, .int .i64 0] := by kernel_rfl
theorem kt104 : kindT Try.prog 104 = some 3 := by kernel_rfl
theorem kt105 : kindT Try.prog 105 = some 3 := by kernel_rfl
theorem kt106 : kindT Try.prog 106 = some 3 := by kernel_rfl
theorem kt107 : kindT Try.prog 107 = some 3 := by kernel_rfl
theorem kt108 : kindT Try.prog 108 = some 3 := by kernel_rfl
theorem ag109 : aggT Try.prog 109 = some true := by kernel_rfl
theorem si109 : sizeT Try.prog 109 = 3 := by kernel_rfl
theorem sz109 : szT Try.prog 109 = some 3 := by kernel_rfl
theorem by109 : bytesT Try.prog 109 = 40 := by kernel_rfl
theorem str109 : structT Try.prog 109 = true := by kernel_rfl
theorem fi109_0 : fieldT Try.prog 109 0 = some (0, 22) := by kernel_rfl
theorem fi109_1 : fieldT Try.prog 109 1 = some (1, 3) := by kernel_rfl
theorem fi109_2 : fieldT Try.prog 109 2 = some (2, 34) := by kernel_rfl
theorem ze109 : zeroT Try.prog 109 = some [.slice none 0 0, .int .i64 0, .int .u64 0] := by kernel_rfl
theorem ag110 : aggT Try.prog 110 = some true := by kernel_rfl
theorem si110 : sizeT Try.prog 110 = 3 := by kernel_rfl
theorem sz110 : szT Try.prog 110 = some 3 := by kernel_rfl
theorem by110 : bytesT Try.prog 110 = 40 := by kernel_rfl
theorem str110 : structT Try.prog 110 = true := by kernel_rfl
theorem fi110_0 : fieldT Try.prog 110 0 = some (0, 22) := by kernel_rfl
theorem fi110_1 : fieldT Try.prog 110 1 = some (1, 3) := by kernel_rfl
theorem fi110_2 : fieldT Try.prog 110 2 = some (2, 34) := by kernel_rfl
theorem ze110 : zeroT Try.prog 110 = some [.slice none 0 0, .int .i64 0, .int .u64 0] := by kernel_rfl
theorem ag111 : aggT Try.prog 111 = some false := by kernel_rfl
theorem si111 : sizeT Try.prog 111 = 1 := by kernel_rfl
theorem sz111 : szT Try.prog 111 = some 1 := by kernel_rfl
theorem by111 : bytesT Try.prog 111 = 8 := by kernel_rfl
theorem in111 : intT Try.prog 111 = some .u64 := by kernel_rfl
theorem zv111 : zeroV Try.prog 111 = some (.int .u64 0) := by kernel_rfl
theorem ze111 : zeroT Try.prog 111 = some [.int .u64 0] := by kernel_rfl
theorem kt112 : kindT Try.prog 112 = some 3 := by kernel_rfl
theorem kt113 : kindT Try.prog 113 = some 3 := by kernel_rfl
theorem kt114 : kindT Try.prog 114 = some 3 := by kernel_rfl
theorem kt115 : kindT Try.prog 115 = some 3 := by kernel_rfl
theorem ag116 : aggT Try.prog 116 = some true := by kernel_rfl
theorem si116 : sizeT Try.prog 116 = 2 := by kernel_rfl
theorem sz116 : szT Try.prog 116 = some 2 := by kernel_rfl
theorem by116 : bytesT Try.prog 116 = 48 := by kernel_rfl
theorem str116 : structT Try.prog 116 = true := by kernel_rfl
theorem fi116_0 : fieldT Try.prog 116 0 = some (0, 52) := by kernel_rfl
theorem fi116_1 : fieldT Try.prog 116 1 = some (1, 52) := by kernel_rfl
theorem ze116 : zeroT Try.prog 116 = some [.slice none 0 0, .slice none 0 0] := by kernel_rfl
theorem ag117 : aggT Try.prog 117 = some true := by kernel_rfl
theorem si117 : sizeT Try.prog 117 = 2 := by kernel_rfl
theorem sz117 : szT Try.prog 117 = some 2 := by kernel_rfl
theorem by117 : bytesT Try.prog 117 = 48 := by kernel_rfl
theorem str117 : structT Try.prog 117 = true := by kernel_rfl
theorem fi117_0 : fieldT Try.prog 117 0 = some (0, 52) := by kernel_rfl
theorem fi117_1 : fieldT Try.prog 117 1 = some (1, 52) := by kernel_rfl
theorem ze117 : zeroT Try.prog 117 = some [.slice none 0 0, .slice none 0 0] := by kernel_rfl
theorem kt118 : kindT Try.prog 118 = some 3 := by kernel_rfl
theorem kt119 : kindT Try.prog 119 = some 3 := by kernel_rfl
theorem kt120 : kindT Try.prog 120 = some 3 := by kernel_rfl
theorem kt121 : kindT Try.prog 121 = some 3 := by kernel_rfl
theorem kt122 : kindT Try.prog 122 = some 3 := by kernel_rfl
theorem kt123 : kindT Try.prog 123 = some 3 := by kernel_rfl
theorem kt124 : kindT Try.prog 124 = some 3 := by kernel_rfl
theorem kt125 : kindT Try.prog 125 = some 3 := by kernel_rfl
theorem kt126 : kindT Try.prog 126 = some 3 := by kernel_rfl
theorem kt127 : kindT Try.prog 127 = some 3 := by kernel_rfl
theorem kt128 : kindT Try.prog 128 = some 3 := by kernel_rfl
theorem kt129 : kindT Try.prog 129 = some 3 := by kernel_rfl
theorem kt130 : kindT Try.prog 130 = some 3 := by kernel_rfl
theorem kt131 : kindT Try.prog 131 = some 3 := by kernel_rfl
theorem kt132 : kindT Try.prog 132 = some 3 := by kernel_rfl
theorem kt133 : kindT Try.prog 133 = some 3 := by kernel_rfl
theorem kt134 : kindT Try.prog 134 = some 3 := by kernel_rfl
theorem kt135 : kindT Try.prog 135 = some 3 := by kernel_rfl
theorem kt136 : kindT Try.prog 136 = some 3 := by kernel_rfl
theorem kt137 : kindT Try.prog 137 = some 3 := by kernel_rfl
theorem ag138 : aggT Try.prog 138 = some false := by kernel_rfl
theorem si138 : sizeT Try.prog 138 = 1 := by kernel_rfl
theorem sz138 : szT Try.prog 138 = some 1 := by kernel_rfl
theorem by138 : bytesT Try.prog 138 = 8 := by kernel_rfl
theorem mp138 : mapT Try.prog 138 = some (true, 4) := by kernel_rfl
theorem zv138 : zeroV Try.prog 138 = some (.map none) := by kernel_rfl
theorem ze138 : zeroT Try.prog 138 = some [.map none] := by kernel_rfl
theorem kt139 : kindT Try.prog 139 = some 3 := by kernel_rfl
theorem kt140 : kindT Try.prog 140 = some 3 := by kernel_rfl
theorem ag141 : aggT Try.prog 141 = some false := by kernel_rfl
theorem si141 : sizeT Try.prog 141 = 1 := by kernel_rfl
theorem sz141 : szT Try.prog 141 = some 1 := by kernel_rfl
theorem by141 : bytesT Try.prog 141 = 8 := by kernel_rfl
theorem kt141 : kindT Try.prog 141 = some 1 := by kernel_rfl
theorem zv141 : zeroV Try.prog 141 = some (.pointer none) := by kernel_rfl
theorem ze141 : zeroT Try.prog 141 = some [.pointer none] := by kernel_rfl
theorem kt143 : kindT Try.prog 143 = some 3 := by kernel_rfl
theorem kt144 : kindT Try.prog 144 = some 3 := by kernel_rfl
theorem ag145 : aggT Try.prog 145 = some false := by kernel_rfl
theorem si145 : sizeT Try.prog 145 = 1 := by kernel_rfl
theorem sz145 : szT Try.prog 145 = some 1 := by kernel_rfl
theorem by145 : bytesT Try.prog 145 = 8 := by kernel_rfl
theorem mp145 : mapT Try.prog 145 = some (true, 2) := by kernel_rfl
theorem zv145 : zeroV Try.prog 145 = some (.map none) := by kernel_rfl
theorem ze145 : zeroT Try.prog 145 = some [.map none] := by kernel_rfl
theorem ag146 : aggT Try.prog 146 = some true := by kernel_rfl
theorem si146 : sizeT Try.prog 146 = 9 := by kernel_rfl
theorem sz146 : szT Try.prog 146 = some 9 := by kernel_rfl
theorem by146 : bytesT Try.prog 146 = 176 := by kernel_rfl
theorem str146 : structT Try.prog 146 = true := by kernel_rfl
theorem fi146_0 : fieldT Try.prog 146 0 = some (0, 48) := by kernel_rfl
theorem fi146_1 : fieldT Try.prog 146 1 = some (3, 46) := by kernel_rfl
theorem fi146_2 : fieldT Try.prog 146 2 = some (4, 52) := by kernel_rfl
theorem fi146_3 : fieldT Try.prog 146 3 = some (5, 145) := by kernel_rfl
theorem fi146_4 : fieldT Try.prog 146 4 = some (6, 52) := by kernel_rfl
theorem fi146_5 : fieldT Try.prog 146 5 = some (7, 52) := by kernel_rfl
theorem fi146_6 : fieldT Try.prog 146 6 = some (8, 46) := by kernel_rfl
theorem ze146 : zeroT Try.prog 146 = some [.int .i64 0, .string ⟨#[]⟩, .slice none 0 0, .slice none 0 0, .slice none 0 0, .map none, .slice none 0 0, .slice none 0 0, .slice none 0 0] := by kernel_rfl
theorem ag147 : aggT Try.prog 147 = some true := by kernel_rfl
theorem si147 : sizeT Try.prog 147 = 9 := by kernel_rfl
theorem sz147 : szT Try.prog 147 = some 9 := by kernel_rfl
theorem by147 : bytesT Try.prog 147 = 176 := by kernel_rfl
theorem str147 : structT Try.prog 147 = true := by kernel_rfl
theorem fi147_0 : fieldT Try.prog 147 0 = some (0, 48) := by kernel_rfl
theorem fi147_1 : fieldT Try.prog 147 1 = some (3, 46) := by kernel_rfl
theorem fi147_2 : fieldT Try.prog 147 2 = some (4, 52) := by kernel_rfl
theorem fi147_3 : fieldT Try.prog 147 3 = some (5, 145) := by kernel_rfl
theorem fi147_4 : fieldT Try.prog 147 4 = some (6, 52) := by kernel_rfl
theorem fi147_5 : fieldT Try.prog 147 5 = some (7, 52) := by kernel_rfl
theorem fi147_6 : fieldT Try.prog 147 6 = some (8, 46) := by kernel_rfl
theorem ze147 : zeroT Try.prog 147 = some [.int .i64 0, .string ⟨#[]⟩, .slice none 0 0, .slice none 0 0, .slice none 0 0, .map none, .slice none 0 0, .slice none 0 0, .slice none 0 0] := by kernel_rfl
theorem kt148 : kindT Try.prog 148 = some 3 := by kernel_rfl
theorem kt149 : kindT Try.prog 149 = some 3 := by kernel_rfl
theorem kt150 : kindT Try.prog 150 = some 3 := by kernel_rfl
theorem ag151 : aggT Try.prog 151 = some false := by kernel_rfl
theorem el151 : elemT Try.prog 151 = some 3 := by kernel_rfl
theorem si151 : sizeT Try.prog 151 = 1 := by kernel_rfl
theorem sz151 : szT Try.prog 151 = some 1 := by kernel_rfl
theorem by151 : bytesT Try.prog 151 = 24 := by kernel_rfl
theorem kt151 : kindT Try.prog 151 = some 0 := by kernel_rfl
theorem zv151 : zeroV Try.prog 151 = some (.slice none 0 0) := by kernel_rfl
theorem ze151 : zeroT Try.prog 151 = some [.slice none 0 0] := by kernel_rfl
theorem ag152 : aggT Try.prog 152 = some true := by kernel_rfl
theorem si152 : sizeT Try.prog 152 = 4 := by kernel_rfl
theorem sz152 : szT Try.prog 152 = some 4 := by kernel_rfl
theorem by152 : bytesT Try.prog 152 = 80 := by kernel_rfl
theorem str152 : structT Try.prog 152 = true := by kernel_rfl
theorem fi152_0 : fieldT Try.prog 152 0 = some (0, 46) := by kernel_rfl
theorem fi152_1 : fieldT Try.prog 152 1 = some (1, 52) := by kernel_rfl
theorem fi152_2 : fieldT Try.prog 152 2 = some (2, 151) := by kernel_rfl
theorem fi152_3 : fieldT Try.prog 152 3 = some (3, 4) := by kernel_rfl
theorem ze152 : zeroT Try.prog 152 = some [.slice none 0 0, .slice none 0 0, .slice none 0 0, .bool false] := by kernel_rfl
theorem ag153 : aggT Try.prog 153 = some true := by kernel_rfl
theorem si153 : sizeT Try.prog 153 = 4 := by kernel_rfl
theorem sz153 : szT Try.prog 153 = some 4 := by kernel_rfl
theorem by153 : bytesT Try.prog 153 = 80 := by kernel_rfl
theorem str153 : structT Try.prog 153 = true := by kernel_rfl
theorem fi153_0 : fieldT Try.prog 153 0 = some (0, 46) := by kernel_rfl
theorem fi153_1 : fieldT Try.prog 153 1 = some (1, 52) := by kernel_rfl
theorem fi153_2 : fieldT Try.prog 153 2 = some (2, 151) := by kernel_rfl
theorem fi153_3 : fieldT Try.prog 153 3 = some (3, 4) := by kernel_rfl
theorem ze153 : zeroT Try.prog 153 = some [.slice none 0 0, .slice none 0 0, .slice none 0 0, .bool false] := by kernel_rfl
theorem kt155 : kindT Try.prog 155 = some 3 := by kernel_rfl
theorem kt156 : kindT Try.prog 156 = some 3 := by kernel_rfl
theorem ag157 : aggT Try.prog 157 = some true := by kernel_rfl
theorem si157 : sizeT Try.prog 157 = 2 := by kernel_rfl
theorem sz157 : szT Try.prog 157 = some 2 := by kernel_rfl
theorem by157 : bytesT Try.prog 157 = 48 := by kernel_rfl
theorem str157 : structT Try.prog 157 = true := by kernel_rfl
theorem fi157_0 : fieldT Try.prog 157 0 = some (0, 52) := by kernel_rfl
theorem fi157_1 : fieldT Try.prog 157 1 = some (1, 52) := by kernel_rfl
theorem ze157 : zeroT Try.prog 157 = some [.slice none 0 0, .slice none 0 0] := by kernel_rfl
theorem ag158 : aggT Try.prog 158 = some true := by kernel_rfl
theorem si158 : sizeT Try.prog 158 = 2 := by kernel_rfl
theorem sz158 : szT Try.prog 158 = some 2 := by kernel_rfl
theorem by158 : bytesT Try.prog 158 = 48 := by kernel_rfl
theorem str158 : structT Try.prog 158 = true := by kernel_rfl
theorem fi158_0 : fieldT Try.prog 158 0 = some (0, 52) := by kernel_rfl
theorem fi158_1 : fieldT Try.prog 158 1 = some (1, 52) := by kernel_rfl
theorem ze158 : zeroT Try.prog 158 = some [.slice none 0 0, .slice none 0 0] := by kernel_rfl
theorem kt159 : kindT Try.prog 159 = some 3 := by kernel_rfl
theorem kt160 : kindT Try.prog 160 = some 3 := by kernel_rfl
theorem kt161 : kindT Try.prog 161 = some 3 := by kernel_rfl
theorem kt162 : kindT Try.prog 162 = some 3 := by kernel_rfl
theorem kt164 : kindT Try.prog 164 = some 3 := by kernel_rfl
theorem kt165 : kindT Try.prog 165 = some 3 := by kernel_rfl
theorem ag166 : aggT Try.prog 166 = some true := by kernel_rfl
theorem si166 : sizeT Try.prog 166 = 3 := by kernel_rfl
theorem sz166 : szT Try.prog 166 = some 3 := by kernel_rfl
theorem by166 : bytesT Try.prog 166 = 40 := by kernel_rfl
theorem str166 : structT Try.prog 166 = true := by kernel_rfl
theorem fi166_0 : fieldT Try.prog 166 0 = some (0, 22) := by kernel_rfl
theorem fi166_1 : fieldT Try.prog 166 1 = some (1, 3) := by kernel_rfl
theorem fi166_2 : fieldT Try.prog 166 2 = some (2, 2) := by kernel_rfl
theorem ze166 : zeroT Try.prog 166 = some [.slice none 0 0, .int .i64 0, .int .i64 0] := by kernel_rfl
theorem ag167 : aggT Try.prog 167 = some true := by kernel_rfl
theorem si167 : sizeT Try.prog 167 = 3 := by kernel_rfl
theorem sz167 : szT Try.prog 167 = some 3 := by kernel_rfl
theorem by167 : bytesT Try.prog 167 = 40 := by kernel_rfl
theorem str167 : structT Try.prog 167 = true := by kernel_rfl
theorem fi167_0 : fieldT Try.prog 167 0 = some (0, 22) := by kernel_rfl
theorem fi167_1 : fieldT Try.prog 167 1 = some (1, 3) := by kernel_rfl
theorem fi167_2 : fieldT Try.prog 167 2 = some (2, 2) := by kernel_rfl
theorem ze167 : zeroT Try.prog 167 = some [.slice none 0 0, .int .i64 0, .int .i64 0] := by kernel_rfl
theorem kt168 : kindT Try.prog 168 = some 3 := by kernel_rfl
theorem kt169 : kindT Try.prog 169 = some 3 := by kernel_rfl
theorem kt170 : kindT Try.prog 170 = some 3 := by kernel_rfl
theorem kt171 : kindT Try.prog 171 = some 3 := by kernel_rfl
theorem kt172 : kindT Try.prog 172 = some 3 := by kernel_rfl
theorem kt173 : kindT Try.prog 173 = some 3 := by kernel_rfl
theorem kt174 : kindT Try.prog 174 = some 3 := by kernel_rfl
theorem kt175 : kindT Try.prog 175 = some 3 := by kernel_rfl
theorem ag176 : aggT Try.prog 176 = some false := by kernel_rfl
theorem el176 : elemT Try.prog 176 = some 9 := by kernel_rfl
theorem si176 : sizeT Try.prog 176 = 1 := by kernel_rfl
theorem sz176 : szT Try.prog 176 = some 1 := by kernel_rfl
theorem by176 : bytesT Try.prog 176 = 24 := by kernel_rfl
theorem kt176 : kindT Try.prog 176 = some 0 := by kernel_rfl
theorem zv176 : zeroV Try.prog 176 = some (.slice none 0 0) := by kernel_rfl
theorem ze176 : zeroT Try.prog 176 = some [.slice none 0 0] := by kernel_rfl
theorem kt177 : kindT Try.prog 177 = some 3 := by kernel_rfl
theorem kt178 : kindT Try.prog 178 = some 3 := by kernel_rfl
theorem kt179 : kindT Try.prog 179 = some 3 := by kernel_rfl
theorem ag180 : aggT Try.prog 180 = some false := by kernel_rfl
theorem el180 : elemT Try.prog 180 = some 207 := by kernel_rfl
theorem si180 : sizeT Try.prog 180 = 1 := by kernel_rfl
theorem sz180 : szT Try.prog 180 = some 1 := by kernel_rfl
theorem by180 : bytesT Try.prog 180 = 24 := by kernel_rfl
theorem kt180 : kindT Try.prog 180 = some 0 := by kernel_rfl
theorem zv180 : zeroV Try.prog 180 = some (.slice none 0 0) := by kernel_rfl
theorem ze180 : zeroT Try.prog 180 = some [.slice none 0 0] := by kernel_rfl
theorem kt181 : kindT Try.prog 181 = some 3 := by kernel_rfl
theorem ag182 : aggT Try.prog 182 = some true := by kernel_rfl
theorem si182 : sizeT Try.prog 182 = 2 := by kernel_rfl
theorem sz182 : szT Try.prog 182 = some 2 := by kernel_rfl
theorem by182 : bytesT Try.prog 182 = 16 := by kernel_rfl
theorem eq182 : eqT Try.prog 182 = some [(0, 0), (1, 0)] := by kernel_rfl
theorem str182 : structT Try.prog 182 = true := by kernel_rfl
theorem fi182_0 : fieldT Try.prog 182 0 = some (0, 2) := by kernel_rfl
theorem fi182_1 : fieldT Try.prog 182 1 = some (1, 2) := by kernel_rfl
theorem ze182 : zeroT Try.prog 182 = some [.int .i64 0, .int .i64 0] := by kernel_rfl
theorem kt183 : kindT Try.prog 183 = some 3 := by kernel_rfl
theorem kt184 : kindT Try.prog 184 = some 3 := by kernel_rfl
theorem kt185 : kindT Try.prog 185 = some 3 := by kernel_rfl
theorem kt186 : kindT Try.prog 186 = some 3 := by kernel_rfl
theorem kt187 : kindT Try.prog 187 = some 3 := by kernel_rfl
theorem kt188 : kindT Try.prog 188 = some 3 := by kernel_rfl
theorem kt189 : kindT Try.prog 189 = some 3 := by kernel_rfl
theorem kt190 : kindT Try.prog 190 = some 3 := by kernel_rfl
theorem ag191 : aggT Try.prog 191 = some false := by kernel_rfl
theorem si191 : sizeT Try.prog 191 = 1 := by kernel_rfl
theorem sz191 : szT Try.prog 191 = some 1 := by kernel_rfl
theorem by191 : bytesT Try.prog 191 = 8 := by kernel_rfl
theorem kt191 : kindT Try.prog 191 = some 1 := by kernel_rfl
theorem zv191 : zeroV Try.prog 191 = some (.pointer none) := by kernel_rfl
theorem ze191 : zeroT Try.prog 191 = some [.pointer none] := by kernel_rfl
theorem kt192 : kindT Try.prog 192 = some 3 := by kernel_rfl
theorem kt193 : kindT Try.prog 193 = some 3 := by kernel_rfl
theorem kt196 : kindT Try.prog 196 = some 3 := by kernel_rfl
theorem kt197 : kindT Try.prog 197 = some 3 := by kernel_rfl
theorem kt198 : kindT Try.prog 198 = some 3 := by kernel_rfl
theorem kt199 : kindT Try.prog 199 = some 3 := by kernel_rfl
theorem kt200 : kindT Try.prog 200 = some 3 := by kernel_rfl
theorem kt201 : kindT Try.prog 201 = some 3 := by kernel_rfl
theorem kt202 : kindT Try.prog 202 = some 3 := by kernel_rfl
theorem kt203 : kindT Try.prog 203 = some 3 := by kernel_rfl
theorem kt204 : kindT Try.prog 204 = some 3 := by kernel_rfl
theorem kt205 : kindT Try.prog 205 = some 3 := by kernel_rfl
theorem kt206 : kindT Try.prog 206 = some 3 := by kernel_rfl
theorem ag207 : aggT Try.prog 207 = some true := by kernel_rfl
theorem si207 : sizeT Try.prog 207 = 2 := by kernel_rfl
theorem sz207 : szT Try.prog 207 = some 2 := by kernel_rfl
theorem by207 : bytesT Try.prog 207 = 48 := by kernel_rfl
theorem str207 : structT Try.prog 207 = true := by kernel_rfl
theorem fi207_0 : fieldT Try.prog 207 0 = some (0, 52) := by kernel_rfl
theorem fi207_1 : fieldT Try.prog 207 1 = some (1, 52) := by kernel_rfl
theorem ze207 : zeroT Try.prog 207 = some [.slice none 0 0, .slice none 0 0] := by kernel_rfl
theorem kt208 : kindT Try.prog 208 = some 3 := by kernel_rfl
theorem kt209 : kindT Try.prog 209 = some 3 := by kernel_rfl
theorem kt210 : kindT Try.prog 210 = some 3 := by kernel_rfl
theorem kt212 : kindT Try.prog 212 = some 3 := by kernel_rfl
theorem ag213 : aggT Try.prog 213 = some false := by kernel_rfl
theorem el213 : elemT Try.prog 213 = some 46 := by kernel_rfl
theorem si213 : sizeT Try.prog 213 = 1 := by kernel_rfl
theorem sz213 : szT Try.prog 213 = some 1 := by kernel_rfl
theorem by213 : bytesT Try.prog 213 = 24 := by kernel_rfl
theorem kt213 : kindT Try.prog 213 = some 0 := by kernel_rfl
theorem zv213 : zeroV Try.prog 213 = some (.slice none 0 0) := by kernel_rfl
theorem ze213 : zeroT Try.prog 213 = some [.slice none 0 0] := by kernel_rfl
theorem ag214 : aggT Try.prog 214 = some true := by kernel_rfl
theorem si214 : sizeT Try.prog 214 = 3 := by kernel_rfl
theorem sz214 : szT Try.prog 214 = some 3 := by kernel_rfl
theorem by214 : bytesT Try.prog 214 = 56 := by kernel_rfl
theorem str214 : structT Try.prog 214 = true := by kernel_rfl
theorem fi214_0 : fieldT Try.prog 214 0 = some (0, 2) := by kernel_rfl
theorem fi214_1 : fieldT Try.prog 214 1 = some (1, 213) := by kernel_rfl
theorem fi214_2 : fieldT Try.prog 214 2 = some (2, 213) := by kernel_rfl
theorem ze214 : zeroT Try.prog 214 = some [.int .i64 0, .slice none 0 0, .slice none 0 0] := by kernel_rfl
theorem ag215 : aggT Try.prog 215 = some true := by kernel_rfl
theorem si215 : sizeT Try.prog 215 = 3 := by kernel_rfl
theorem sz215 : szT Try.prog 215 = some 3 := by kernel_rfl
theorem by215 : bytesT Try.prog 215 = 56 := by kernel_rfl
theorem str215 : structT Try.prog 215 = true := by kernel_rfl
theorem fi215_0 : fieldT Try.prog 215 0 = some (0, 2) := by kernel_rfl
theorem fi215_1 : fieldT Try.prog 215 1 = some (1, 213) := by kernel_rfl
theorem fi215_2 : fieldT Try.prog 215 2 = some (2, 213) := by kernel_rfl
theorem ze215 : zeroT Try.prog 215 = some [.int .i64 0, .slice none 0 0, .slice none 0 0] := by kernel_rfl
theorem kt216 : kindT Try.prog 216 = some 3 := by kernel_rfl
theorem kt217 : kindT Try.prog 217 = some 3 := by kernel_rfl
theorem ag218 : aggT Try.prog 218 = some false := by kernel_rfl
theorem si218 : sizeT Try.prog 218 = 1 := by kernel_rfl
theorem sz218 : szT Try.prog 218 = some 1 := by kernel_rfl
theorem by218 : bytesT Try.prog 218 = 8 := by kernel_rfl
theorem kt218 : kindT Try.prog 218 = some 1 := by kernel_rfl
theorem zv218 : zeroV Try.prog 218 = some (.pointer none) := by kernel_rfl
theorem ze218 : zeroT Try.prog 218 = some [.pointer none] := by kernel_rfl
theorem kt219 : kindT Try.prog 219 = some 3 := by kernel_rfl
theorem kt220 : kindT Try.prog 220 = some 3 := by kernel_rfl
theorem kt221 : kindT Try.prog 221 = some 3 := by kernel_rfl
theorem kt222 : kindT Try.prog 222 = some 3 := by kernel_rfl
theorem kt223 : kindT Try.prog 223 = some 3 := by kernel_rfl
theorem kt224 : kindT Try.prog 224 = some 3 := by kernel_rfl
theorem kt225 : kindT Try.prog 225 = some 3 := by kernel_rfl
theorem kt226 : kindT Try.prog 226 = some 3 := by kernel_rfl
theorem kt227 : kindT Try.prog 227 = some 3 := by kernel_rfl
theorem kt228 : kindT Try.prog 228 = some 3 := by kernel_rfl
theorem ag229 : aggT Try.prog 229 = some true := by kernel_rfl
theorem si229 : sizeT Try.prog 229 = 3 := by kernel_rfl
theorem sz229 : szT Try.prog 229 = some 3 := by kernel_rfl
theorem by229 : bytesT Try.prog 229 = 56 := by kernel_rfl
theorem str229 : structT Try.prog 229 = true := by kernel_rfl
theorem fi229_0 : fieldT Try.prog 229 0 = some (0, 2) := by kernel_rfl
theorem fi229_1 : fieldT Try.prog 229 1 = some (1, 213) := by kernel_rfl
theorem fi229_2 : fieldT Try.prog 229 2 = some (2, 213) := by kernel_rfl
theorem ze229 : zeroT Try.prog 229 = some [.int .i64 0, .slice none 0 0, .slice none 0 0] := by kernel_rfl
theorem ag230 : aggT Try.prog 230 = some true := by kernel_rfl
theorem si230 : sizeT Try.prog 230 = 3 := by kernel_rfl
theorem sz230 : szT Try.prog 230 = some 3 := by kernel_rfl
theorem by230 : bytesT Try.prog 230 = 56 := by kernel_rfl
theorem str230 : structT Try.prog 230 = true := by kernel_rfl
theorem fi230_0 : fieldT Try.prog 230 0 = some (0, 2) := by kernel_rfl
theorem fi230_1 : fieldT Try.prog 230 1 = some (1, 213) := by kernel_rfl
theorem fi230_2 : fieldT Try.prog 230 2 = some (2, 213) := by kernel_rfl
theorem ze230 : zeroT Try.prog 230 = some [.int .i64 0, .slice none 0 0, .slice none 0 0] := by kernel_rfl
theorem kt231 : kindT Try.prog 231 = some 3 := by kernel_rfl
theorem kt232 : kindT Try.prog 232 = some 3 := by kernel_rfl
theorem kt233 : kindT Try.prog 233 = some 3 := by kernel_rfl
theorem kt234 : kindT Try.prog 234 = some 3 := by kernel_rfl
theorem ag235 : aggT Try.prog 235 = some false := by kernel_rfl
theorem si235 : sizeT Try.prog 235 = 1 := by kernel_rfl
theorem sz235 : szT Try.prog 235 = some 1 := by kernel_rfl
theorem by235 : bytesT Try.prog 235 = 8 := by kernel_rfl
theorem in235 : intT Try.prog 235 = some .i64 := by kernel_rfl
theorem zv235 : zeroV Try.prog 235 = some (.int .i64 0) := by kernel_rfl
theorem ze235 : zeroT Try.prog 235 = some [.int .i64 0] := by kernel_rfl
theorem kt237 : kindT Try.prog 237 = some 3 := by kernel_rfl
theorem kt238 : kindT Try.prog 238 = some 3 := by kernel_rfl
theorem kt239 : kindT Try.prog 239 = some 3 := by kernel_rfl
theorem kt241 : kindT Try.prog 241 = some 3 := by kernel_rfl
theorem kt242 : kindT Try.prog 242 = some 3 := by kernel_rfl
theorem ag243 : aggT Try.prog 243 = some false := by kernel_rfl
theorem si243 : sizeT Try.prog 243 = 1 := by kernel_rfl
theorem sz243 : szT Try.prog 243 = some 1 := by kernel_rfl
theorem by243 : bytesT Try.prog 243 = 4 := by kernel_rfl
theorem in243 : intT Try.prog 243 = some .u32 := by kernel_rfl
theorem zv243 : zeroV Try.prog 243 = some (.int .u32 0) := by kernel_rfl
theorem ze243 : zeroT Try.prog 243 = some [.int .u32 0] := by kernel_rfl
theorem kt244 : kindT Try.prog 244 = some 3 := by kernel_rfl
theorem kt245 : kindT Try.prog 245 = some 3 := by kernel_rfl
theorem ag246 : aggT Try.prog 246 = some false := by kernel_rfl
theorem el246 : elemT Try.prog 246 = some 4 := by kernel_rfl
theorem si246 : sizeT Try.prog 246 = 1 := by kernel_rfl
theorem sz246 : szT Try.prog 246 = some 1 := by kernel_rfl
theorem by246 : bytesT Try.prog 246 = 24 := by kernel_rfl
theorem kt246 : kindT Try.prog 246 = some 0 := by kernel_rfl
theorem zv246 : zeroV Try.prog 246 = some (.slice none 0 0) := by kernel_rfl
theorem ze246 : zeroT Try.prog 246 = some [.slice none 0 0] := by kernel_rfl
theorem ag247 : aggT Try.prog 247 = some false := by kernel_rfl
theorem si247 : sizeT Try.prog 247 = 1 := by kernel_rfl
theorem sz247 : szT Try.prog 247 = some 1 := by kernel_rfl
theorem by247 : bytesT Try.prog 247 = 8 := by kernel_rfl
theorem in247 : intT Try.prog 247 = some .u64 := by kernel_rfl
theorem zv247 : zeroV Try.prog 247 = some (.int .u64 0) := by kernel_rfl
theorem ze247 : zeroT Try.prog 247 = some [.int .u64 0] := by kernel_rfl
theorem kt248 : kindT Try.prog 248 = some 3 := by kernel_rfl
theorem kt249 : kindT Try.prog 249 = some 3 := by kernel_rfl
theorem kt250 : kindT Try.prog 250 = some 3 := by kernel_rfl
theorem ag251 : aggT Try.prog 251 = some false := by kernel_rfl
theorem si251 : sizeT Try.prog 251 = 1 := by kernel_rfl
theorem sz251 : szT Try.prog 251 = some 1 := by kernel_rfl
theorem by251 : bytesT Try.prog 251 = 8 := by kernel_rfl
theorem kt251 : kindT Try.prog 251 = some 1 := by kernel_rfl
theorem zv251 : zeroV Try.prog 251 = some (.pointer none) := by kernel_rfl
theorem ze251 : zeroT Try.prog 251 = some [.pointer none] := by kernel_rfl
theorem kt252 : kindT Try.prog 252 = some 3 := by kernel_rfl
theorem ag253 : aggT Try.prog 253 = some false := by kernel_rfl
theorem si253 : sizeT Try.prog 253 = 1 := by kernel_rfl
theorem sz253 : szT Try.prog 253 = some 1 := by kernel_rfl
theorem by253 : bytesT Try.prog 253 = 8 := by kernel_rfl
theorem kt253 : kindT Try.prog 253 = some 1 := by kernel_rfl
theorem zv253 : zeroV Try.prog 253 = some (.pointer none) := by kernel_rfl
theorem ze253 : zeroT Try.prog 253 = some [.pointer none] := by kernel_rfl
theorem kt255 : kindT Try.prog 255 = some 3 := by kernel_rfl
theorem kt256 : kindT Try.prog 256 = some 3 := by kernel_rfl
theorem ag257 : aggT Try.prog 257 = some true := by kernel_rfl
theorem si257 : sizeT Try.prog 257 = 4 := by kernel_rfl
theorem sz257 : szT Try.prog 257 = some 4 := by kernel_rfl
theorem by257 : bytesT Try.prog 257 = 40 := by kernel_rfl
theorem str257 : structT Try.prog 257 = true := by kernel_rfl
theorem fi257_0 : fieldT Try.prog 257 0 = some (0, 17) := by kernel_rfl
theorem fi257_1 : fieldT Try.prog 257 1 = some (1, 17) := by kernel_rfl
theorem fi257_2 : fieldT Try.prog 257 2 = some (2, 17) := by kernel_rfl
theorem fi257_3 : fieldT Try.prog 257 3 = some (3, 9) := by kernel_rfl
theorem ze257 : zeroT Try.prog 257 = some [.pointer none, .pointer none, .pointer none, .string ⟨#[]⟩] := by kernel_rfl
theorem ag258 : aggT Try.prog 258 = some true := by kernel_rfl
theorem si258 : sizeT Try.prog 258 = 4 := by kernel_rfl
theorem sz258 : szT Try.prog 258 = some 4 := by kernel_rfl
theorem by258 : bytesT Try.prog 258 = 40 := by kernel_rfl
theorem str258 : structT Try.prog 258 = true := by kernel_rfl
theorem fi258_0 : fieldT Try.prog 258 0 = some (0, 17) := by kernel_rfl
theorem fi258_1 : fieldT Try.prog 258 1 = some (1, 17) := by kernel_rfl
theorem fi258_2 : fieldT Try.prog 258 2 = some (2, 17) := by kernel_rfl
theorem fi258_3 : fieldT Try.prog 258 3 = some (3, 9) := by kernel_rfl
theorem ze258 : zeroT Try.prog 258 = some [.pointer none, .pointer none, .pointer none, .string ⟨#[]⟩] := by kernel_rfl
theorem ag259 : aggT Try.prog 259 = some true := by kernel_rfl
theorem si259 : sizeT Try.prog 259 = 0 := by kernel_rfl
theorem sz259 : szT Try.prog 259 = some 0 := by kernel_rfl
theorem by259 : bytesT Try.prog 259 = 0 := by kernel_rfl
theorem ag260 : aggT Try.prog 260 = some true := by kernel_rfl
theorem si260 : sizeT Try.prog 260 = 0 := by kernel_rfl
theorem sz260 : szT Try.prog 260 = some 0 := by kernel_rfl
theorem by260 : bytesT Try.prog 260 = 0 := by kernel_rfl
theorem str260 : structT Try.prog 260 = true := by kernel_rfl
theorem ag261 : aggT Try.prog 261 = some true := by kernel_rfl
theorem si261 : sizeT Try.prog 261 = 0 := by kernel_rfl
theorem sz261 : szT Try.prog 261 = some 0 := by kernel_rfl
theorem by261 : bytesT Try.prog 261 = 0 := by kernel_rfl
theorem str261 : structT Try.prog 261 = true := by kernel_rfl
theorem kt262 : kindT Try.prog 262 = some 3 := by kernel_rfl
theorem ag263 : aggT Try.prog 263 = some false := by kernel_rfl
theorem si263 : sizeT Try.prog 263 = 1 := by kernel_rfl
theorem sz263 : szT Try.prog 263 = some 1 := by kernel_rfl
theorem by263 : bytesT Try.prog 263 = 1 := by kernel_rfl
theorem in263 : intT Try.prog 263 = some .u8 := by kernel_rfl
theorem zv263 : zeroV Try.prog 263 = some (.int .u8 0) := by kernel_rfl
theorem ze263 : zeroT Try.prog 263 = some [.int .u8 0] := by kernel_rfl
theorem ag264 : aggT Try.prog 264 = some false := by kernel_rfl
theorem si264 : sizeT Try.prog 264 = 1 := by kernel_rfl
theorem sz264 : szT Try.prog 264 = some 1 := by kernel_rfl
theorem by264 : bytesT Try.prog 264 = 1 := by kernel_rfl
theorem in264 : intT Try.prog 264 = some .u8 := by kernel_rfl
theorem zv264 : zeroV Try.prog 264 = some (.int .u8 0) := by kernel_rfl
theorem ze264 : zeroT Try.prog 264 = some [.int .u8 0] := by kernel_rfl
theorem kt265 : kindT Try.prog 265 = some 3 := by kernel_rfl
theorem ag266 : aggT Try.prog 266 = some false := by kernel_rfl
theorem si266 : sizeT Try.prog 266 = 1 := by kernel_rfl
theorem sz266 : szT Try.prog 266 = some 1 := by kernel_rfl
theorem by266 : bytesT Try.prog 266 = 8 := by kernel_rfl
theorem kt266 : kindT Try.prog 266 = some 1 := by kernel_rfl
theorem zv266 : zeroV Try.prog 266 = some (.pointer none) := by kernel_rfl
theorem ze266 : zeroT Try.prog 266 = some [.pointer none] := by kernel_rfl
theorem ag267 : aggT Try.prog 267 = some false := by kernel_rfl
theorem si267 : sizeT Try.prog 267 = 1 := by kernel_rfl
theorem sz267 : szT Try.prog 267 = some 1 := by kernel_rfl
theorem by267 : bytesT Try.prog 267 = 4 := by kernel_rfl
theorem in267 : intT Try.prog 267 = some .i32 := by kernel_rfl
theorem zv267 : zeroV Try.prog 267 = some (.int .i32 0) := by kernel_rfl
theorem ze267 : zeroT Try.prog 267 = some [.int .i32 0] := by kernel_rfl
theorem ag268 : aggT Try.prog 268 = some false := by kernel_rfl
theorem si268 : sizeT Try.prog 268 = 1 := by kernel_rfl
theorem sz268 : szT Try.prog 268 = some 1 := by kernel_rfl
theorem by268 : bytesT Try.prog 268 = 4 := by kernel_rfl
theorem in268 : intT Try.prog 268 = some .i32 := by kernel_rfl
theorem zv268 : zeroV Try.prog 268 = some (.int .i32 0) := by kernel_rfl
theorem ze268 : zeroT Try.prog 268 = some [.int .i32 0] := by kernel_rfl
theorem ag269 : aggT Try.prog 269 = some true := by kernel_rfl
theorem si269 : sizeT Try.prog 269 = 11 := by kernel_rfl
theorem sz269 : szT Try.prog 269 = some 11 := by kernel_rfl
theorem by269 : bytesT Try.prog 269 = 48 := by kernel_rfl
theorem str269 : structT Try.prog 269 = true := by kernel_rfl
theorem fi269_0 : fieldT Try.prog 269 0 = some (0, 12) := by kernel_rfl
theorem fi269_1 : fieldT Try.prog 269 1 = some (1, 12) := by kernel_rfl
theorem fi269_2 : fieldT Try.prog 269 2 = some (2, 243) := by kernel_rfl
theorem fi269_3 : fieldT Try.prog 269 3 = some (3, 263) := by kernel_rfl
theorem fi269_4 : fieldT Try.prog 269 4 = some (4, 5) := by kernel_rfl
theorem fi269_5 : fieldT Try.prog 269 5 = some (5, 5) := by kernel_rfl
theorem fi269_6 : fieldT Try.prog 269 6 = some (6, 264) := by kernel_rfl
theorem fi269_7 : fieldT Try.prog 269 7 = some (7, 265) := by kernel_rfl
theorem fi269_8 : fieldT Try.prog 269 8 = some (8, 266) := by kernel_rfl
theorem fi269_9 : fieldT Try.prog 269 9 = some (9, 267) := by kernel_rfl
theorem fi269_10 : fieldT Try.prog 269 10 = some (10, 268) := by kernel_rfl
theorem ze269 : zeroT Try.prog 269 = some [.int .u64 0, .int .u64 0, .int .u32 0, .int .u8 0, .int .u8 0, .int .u8 0, .int .u8 0, .nilFunc, .pointer none, .int .i32 0, .int .i32 0] := by kernel_rfl
theorem ag270 : aggT Try.prog 270 = some true := by kernel_rfl
theorem si270 : sizeT Try.prog 270 = 11 := by kernel_rfl
theorem sz270 : szT Try.prog 270 = some 11 := by kernel_rfl
theorem by270 : bytesT Try.prog 270 = 48 := by kernel_rfl
theorem str270 : structT Try.prog 270 = true := by kernel_rfl
theorem fi270_0 : fieldT Try.prog 270 0 = some (0, 12) := by kernel_rfl
theorem fi270_1 : fieldT Try.prog 270 1 = some (1, 12) := by kernel_rfl
theorem fi270_2 : fieldT Try.prog 270 2 = some (2, 243) := by kernel_rfl
theorem fi270_3 : fieldT Try.prog 270 3 = some (3, 263) := by kernel_rfl
theorem fi270_4 : fieldT Try.prog 270 4 = some (4, 5) := by kernel_rfl
theorem fi270_5 : fieldT Try.prog 270 5 = some (5, 5) := by kernel_rfl
theorem fi270_6 : fieldT Try.prog 270 6 = some (6, 264) := by kernel_rfl
theorem fi270_7 : fieldT Try.prog 270 7 = some (7, 265) := by kernel_rfl
theorem fi270_8 : fieldT Try.prog 270 8 = some (8, 266) := by kernel_rfl
theorem fi270_9 : fieldT Try.prog 270 9 = some (9, 267) := by kernel_rfl
theorem fi270_10 : fieldT Try.prog 270 10 = some (10, 268) := by kernel_rfl
theorem ze270 : zeroT Try.prog 270 = some [.int .u64 0, .int .u64 0, .int .u32 0, .int .u8 0, .int .u8 0, .int .u8 0, .int .u8 0, .nilFunc, .pointer none, .int .i32 0, .int .i32 0] := by kernel_rfl
theorem tyF : type_of% (And.intro (And.intro (And.intro (And.intro (And.intro (And.intro (And.intro (And.intro (And.intro (kt1) (And.intro (ag2) (si2))) (And.intro (sz2) (And.intro
  (by2) (in2)))) (And.intro (And.intro (zv2) (And.intro (ze2) (ag3))) (And.intro (And.intro (si3) (sz3)) (And.intro (by3) (in3))))) (And.intro (And.intro (And.intro (zv3) (And.intro
  (ze3) (ag4))) (And.intro (And.intro (si4) (sz4)) (And.intro (by4) (bo4)))) (And.intro (And.intro (zv4) (And.intro (ze4) (ag5))) (And.intro (And.intro (si5) (sz5)) (And.intro (by5)
  (in5)))))) (And.intro (And.intro (And.intro (And.intro (zv5) (And.intro (ze5) (ag6))) (And.intro (And.intro (si6) (sz6)) (And.intro (by6) (in6)))) (And.intro (And.intro (zv6)
  (And.intro (ze6) (ag7))) (And.intro (And.intro (si7) (sz7)) (And.intro (by7) (str7))))) (And.intro (And.intro (And.intro (fi7_0) (And.intro (fi7_1) (fi7_2))) (And.intro (And.intro
  (fi7_3) (ze7)) (And.intro (ag8) (si8)))) (And.intro (And.intro (sz8) (And.intro (by8) (str8))) (And.intro (And.intro (fi8_0) (fi8_1)) (And.intro (fi8_2) (fi8_3))))))) (And.intro
  (And.intro (And.intro (And.intro (And.intro (ze8) (And.intro (ag9) (si9))) (And.intro (And.intro (sz9) (by9)) (And.intro (st9) (zv9)))) (And.intro (And.intro (ze9) (And.intro
  (ag10) (si10))) (And.intro (And.intro (sz10) (by10)) (And.intro (st10) (zv10))))) (And.intro (And.intro (And.intro (ze10) (And.intro (ag11) (si11))) (And.intro (And.intro (sz11)
  (by11)) (And.intro (st11) (zv11)))) (And.intro (And.intro (ze11) (And.intro (ag12) (si12))) (And.intro (And.intro (sz12) (by12)) (And.intro (in12) (zv12)))))) (And.intro
  (And.intro (And.intro (And.intro (ze12) (And.intro (ag13) (si13))) (And.intro (And.intro (sz13) (by13)) (And.intro (str13) (fi13_0)))) (And.intro (And.intro (fi13_1) (And.intro
  (ze13) (ag14))) (And.intro (And.intro (si14) (sz14)) (And.intro (by14) (str14))))) (And.intro (And.intro (And.intro (fi14_0) (And.intro (fi14_1) (ze14))) (And.intro (And.intro
  (ag15) (si15)) (And.intro (sz15) (by15)))) (And.intro (And.intro (kt15) (And.intro (zv15) (ze15))) (And.intro (And.intro (ag16) (si16)) (And.intro (sz16) (by16)))))))) (And.intro
  (And.intro (And.intro (And.intro (And.intro (And.intro (kt16) (And.intro (zv16) (ze16))) (And.intro (And.intro (ag17) (si17)) (And.intro (sz17) (by17)))) (And.intro (And.intro
  (kt17) (And.intro (zv17) (ze17))) (And.intro (And.intro (ag18) (si18)) (And.intro (sz18) (by18))))) (And.intro (And.intro (And.intro (str18) (And.intro (fi18_0) (ze18)))
  (And.intro (And.intro (ag19) (si19)) (And.intro (sz19) (by19)))) (And.intro (And.intro (str19) (And.intro (fi19_0) (ze19))) (And.intro (And.intro (kt20) (ag21)) (And.intro (si21)
  (sz21)))))) (And.intro (And.intro (And.intro (And.intro (by21) (And.intro (in21) (zv21))) (And.intro (And.intro (ze21) (ag22)) (And.intro (el22) (si22)))) (And.intro (And.intro
  (sz22) (And.intro (by22) (kt22))) (And.intro (And.intro (zv22) (ze22)) (And.intro (kt23) (ag24))))) (And.intro (And.intro (And.intro (el24) (And.intro (si24) (sz24))) (And.intro
  (And.intro (by24) (kt24)) (And.intro (zv24) (ze24)))) (And.intro (And.intro (ag25) (And.intro (el25) (si25))) (And.intro (And.intro (sz25) (by25)) (And.intro (kt25) (zv25)))))))
  (And.intro (And.intro (And.intro (And.intro (And.intro (ze25) (And.intro (ag26) (si26))) (And.intro (And.intro (sz26) (by26)) (And.intro (str26) (fi26_0)))) (And.intro (And.intro
  (fi26_1) (And.intro (fi26_2) (ze26))) (And.intro (And.intro (ag27) (si27)) (And.intro (sz27) (by27))))) (And.intro (And.intro (And.intro (str27) (And.intro (fi27_0) (fi27_1)))
  (And.intro (And.intro (fi27_2) (ze27)) (And.intro (kt28) (ag29)))) (And.intro (And.intro (el29) (And.intro (si29) (sz29))) (And.intro (And.intro (by29) (kt29)) (And.intro (zv29)
  (ze29)))))) (And.intro (And.intro (And.intro (And.intro (kt30) (And.intro (kt31) (ag32))) (And.intro (And.intro (si32) (sz32)) (And.intro (by32) (kt32)))) (And.intro (And.intro
  (zv32) (And.intro (ze32) (kt33))) (And.intro (And.intro (ag34) (si34)) (And.intro (sz34) (by34))))) (And.intro (And.intro (And.intro (in34) (And.intro (zv34) (ze34))) (And.intro
  (And.intro (ag35) (el35)) (And.intro (si35) (sz35)))) (And.intro (And.intro (by35) (And.intro (kt35) (zv35))) (And.intro (And.intro (ze35) (kt36)) (And.intro (kt37) (kt39)))))))))
  (And.intro (And.intro (And.intro (And.intro (And.intro (And.intro (And.intro (kt40) (And.intro (ag41) (si41))) (And.intro (sz41) (And.intro (by41) (eq41)))) (And.intro (And.intro
  (str41) (And.intro (fi41_0) (fi41_1))) (And.intro (And.intro (ze41) (ag42)) (And.intro (si42) (sz42))))) (And.intro (And.intro (And.intro (by42) (And.intro (eq42) (str42)))
  (And.intro (And.intro (fi42_0) (fi42_1)) (And.intro (ze42) (kt43)))) (And.intro (And.intro (kt45) (And.intro (ag46) (el46))) (And.intro (And.intro (si46) (sz46)) (And.intro (by46)
  (kt46)))))) (And.intro (And.intro (And.intro (And.intro (zv46) (And.intro (ze46) (ag47))) (And.intro (And.intro (si47) (sz47)) (And.intro (by47) (str47)))) (And.intro (And.intro
  (fi47_0) (And.intro (fi47_1) (fi47_2))) (And.intro (And.intro (ze47) (ag48)) (And.intro (si48) (sz48))))) (And.intro (And.intro (And.intro (by48) (And.intro (str48) (fi48_0)))
  (And.intro (And.intro (fi48_1) (fi48_2)) (And.intro (ze48) (kt50)))) (And.intro (And.intro (kt51) (And.intro (ag52) (el52))) (And.intro (And.intro (si52) (sz52)) (And.intro (by52)
  (kt52))))))) (And.intro (And.intro (And.intro (And.intro (And.intro (zv52) (And.intro (ze52) (kt54))) (And.intro (And.intro (kt55) (kt56)) (And.intro (kt57) (ag58)))) (And.intro
  (And.intro (el58) (And.intro (si58) (sz58))) (And.intro (And.intro (by58) (kt58)) (And.intro (zv58) (ze58))))) (And.intro (And.intro (And.intro (ag59) (And.intro (el59) (si59)))
  (And.intro (And.intro (sz59) (by59)) (And.intro (kt59) (zv59)))) (And.intro (And.intro (ze59) (And.intro (ag60) (si60))) (And.intro (And.intro (sz60) (by60)) (And.intro (str60)
  (fi60_0)))))) (And.intro (And.intro (And.intro (And.intro (fi60_1) (And.intro (fi60_2) (ze60))) (And.intro (And.intro (ag61) (si61)) (And.intro (sz61) (by61)))) (And.intro
  (And.intro (str61) (And.intro (fi61_0) (fi61_1))) (And.intro (And.intro (fi61_2) (ze61)) (And.intro (kt62) (kt63))))) (And.intro (And.intro (And.intro (kt64) (And.intro (kt65)
  (kt66))) (And.intro (And.intro (kt67) (kt68)) (And.intro (kt69) (kt70)))) (And.intro (And.intro (kt71) (And.intro (kt72) (kt73))) (And.intro (And.intro (kt74) (kt75)) (And.intro
  (ag76) (si76)))))))) (And.intro (And.intro (And.intro (And.intro (And.intro (And.intro (sz76) (And.intro (by76) (str76))) (And.intro (And.intro (fi76_0) (fi76_1)) (And.intro
  (fi76_2) (ze76)))) (And.intro (And.intro (kt77) (And.intro (kt78) (kt79))) (And.intro (And.intro (kt80) (kt81)) (And.intro (kt82) (ag83))))) (And.intro (And.intro (And.intro
  (el83) (And.intro (si83) (sz83))) (And.intro (And.intro (by83) (kt83)) (And.intro (zv83) (ze83)))) (And.intro (And.intro (kt85) (And.intro (kt86) (kt87))) (And.intro (And.intro
  (kt88) (kt89)) (And.intro (kt90) (kt92)))))) (And.intro (And.intro (And.intro (And.intro (kt93) (And.intro (kt94) (kt96))) (And.intro (And.intro (kt97) (kt98)) (And.intro (ag99)
  (si99)))) (And.intro (And.intro (sz99) (And.intro (by99) (kt99))) (And.intro (And.intro (zv99) (ze99)) (And.intro (kt100) (kt101))))) (And.intro (And.intro (And.intro (ag102)
  (And.intro (si102) (sz102))) (And.intro (And.intro (by102) (eq102)) (And.intro (str102) (fi102_0)))) (And.intro (And.intro (fi102_1) (And.intro (ze102) (ag103))) (And.intro
  (And.intro (si103) (sz103)) (And.intro (by103) (eq103))))))) (And.intro (And.intro (And.intro (And.intro (And.intro (str103) (And.intro (fi103_0) (fi103_1))) (And.intro (And.intro
  (ze103) (kt104)) (And.intro (kt105) (kt106)))) (And.intro (And.intro (kt107) (And.intro (kt108) (ag109))) (And.intro (And.intro (si109) (sz109)) (And.intro (by109) (str109)))))
  (And.intro (And.intro (And.intro (fi109_0) (And.intro (fi109_1) (fi109_2))) (And.intro (And.intro (ze109) (ag110)) (And.intro (si110) (sz110)))) (And.intro (And.intro (by110)
  (And.intro (str110) (fi110_0))) (And.intro (And.intro (fi110_1) (fi110_2)) (And.intro (ze110) (ag111)))))) (And.intro (And.intro (And.intro (And.intro (si111) (And.intro (sz111)
  (by111))) (And.intro (And.intro (in111) (zv111)) (And.intro (ze111) (kt112)))) (And.intro (And.intro (kt113) (And.intro (kt114) (kt115))) (And.intro (And.intro (ag116) (si116))
  (And.intro (sz116) (by116))))) (And.intro (And.intro (And.intro (str116) (And.intro (fi116_0) (fi116_1))) (And.intro (And.intro (ze116) (ag117)) (And.intro (si117) (sz117))))
  (And.intro (And.intro (by117) (And.intro (str117) (fi117_0))) (And.intro (And.intro (fi117_1) (ze117)) (And.intro (kt118) (kt119)))))))))) (And.intro (And.intro (And.intro
  (And.intro (And.intro (And.intro (And.intro (And.intro (kt120) (And.intro (kt121) (kt122))) (And.intro (kt123) (And.intro (kt124) (kt125)))) (And.intro (And.intro (kt126)
  (And.intro (kt127) (kt128))) (And.intro (And.intro (kt129) (kt130)) (And.intro (kt131) (kt132))))) (And.intro (And.intro (And.intro (kt133) (And.intro (kt134) (kt135))) (And.intro
  (And.intro (kt136) (kt137)) (And.intro (ag138) (si138)))) (And.intro (And.intro (sz138) (And.intro (by138) (mp138))) (And.intro (And.intro (zv138) (ze138)) (And.intro (kt139)
  (kt140)))))) (And.intro (And.intro (And.intro (And.intro (ag141) (And.intro (si141) (sz141))) (And.intro (And.intro (by141) (kt141)) (And.intro (zv141) (ze141)))) (And.intro
  (And.intro (kt143) (And.intro (kt144) (ag145))) (And.intro (And.intro (si145) (sz145)) (And.intro (by145) (mp145))))) (And.intro (And.intro (And.intro (zv145) (And.intro (ze145)
  (ag146))) (And.intro (And.intro (si146) (sz146)) (And.intro (by146) (str146)))) (And.intro (And.intro (fi146_0) (And.intro (fi146_1) (fi146_2))) (And.intro (And.intro (fi146_3)
  (fi146_4)) (And.intro (fi146_5) (fi146_6))))))) (And.intro (And.intro (And.intro (And.intro (And.intro (ze146) (And.intro (ag147) (si147))) (And.intro (And.intro (sz147) (by147))
  (And.intro (str147) (fi147_0)))) (And.intro (And.intro (fi147_1) (And.intro (fi147_2) (fi147_3))) (And.intro (And.intro (fi147_4) (fi147_5)) (And.intro (fi147_6) (ze147)))))
  (And.intro (And.intro (And.intro (kt148) (And.intro (kt149) (kt150))) (And.intro (And.intro (ag151) (el151)) (And.intro (si151) (sz151)))) (And.intro (And.intro (by151) (And.intro
  (kt151) (zv151))) (And.intro (And.intro (ze151) (ag152)) (And.intro (si152) (sz152)))))) (And.intro (And.intro (And.intro (And.intro (by152) (And.intro (str152) (fi152_0)))
  (And.intro (And.intro (fi152_1) (fi152_2)) (And.intro (fi152_3) (ze152)))) (And.intro (And.intro (ag153) (And.intro (si153) (sz153))) (And.intro (And.intro (by153) (str153))
  (And.intro (fi153_0) (fi153_1))))) (And.intro (And.intro (And.intro (fi153_2) (And.intro (fi153_3) (ze153))) (And.intro (And.intro (kt155) (kt156)) (And.intro (ag157) (si157))))
  (And.intro (And.intro (sz157) (And.intro (by157) (str157))) (And.intro (And.intro (fi157_0) (fi157_1)) (And.intro (ze157) (ag158)))))))) (And.intro (And.intro (And.intro
  (And.intro (And.intro (And.intro (si158) (And.intro (sz158) (by158))) (And.intro (And.intro (str158) (fi158_0)) (And.intro (fi158_1) (ze158)))) (And.intro (And.intro (kt159)
  (And.intro (kt160) (kt161))) (And.intro (And.intro (kt162) (kt164)) (And.intro (kt165) (ag166))))) (And.intro (And.intro (And.intro (si166) (And.intro (sz166) (by166))) (And.intro
  (And.intro (str166) (fi166_0)) (And.intro (fi166_1) (fi166_2)))) (And.intro (And.intro (ze166) (And.intro (ag167) (si167))) (And.intro (And.intro (sz167) (by167)) (And.intro
  (str167) (fi167_0)))))) (And.intro (And.intro (And.intro (And.intro (fi167_1) (And.intro (fi167_2) (ze167))) (And.intro (And.intro (kt168) (kt169)) (And.intro (kt170) (kt171))))
  (And.intro (And.intro (kt172) (And.intro (kt173) (kt174))) (And.intro (And.intro (kt175) (ag176)) (And.intro (el176) (si176))))) (And.intro (And.intro (And.intro (sz176)
  (And.intro (by176) (kt176))) (And.intro (And.intro (zv176) (ze176)) (And.intro (kt177) (kt178)))) (And.intro (And.intro (kt179) (And.intro (ag180) (el180))) (And.intro (And.intro
  (si180) (sz180)) (And.intro (by180) (kt180))))))) (And.intro (And.intro (And.intro (And.intro (And.intro (zv180) (And.intro (ze180) (kt181))) (And.intro (And.intro (ag182)
  (si182)) (And.intro (sz182) (by182)))) (And.intro (And.intro (eq182) (And.intro (str182) (fi182_0))) (And.intro (And.intro (fi182_1) (ze182)) (And.intro (kt183) (kt184)))))
  (And.intro (And.intro (And.intro (kt185) (And.intro (kt186) (kt187))) (And.intro (And.intro (kt188) (kt189)) (And.intro (kt190) (ag191)))) (And.intro (And.intro (si191) (And.intro
  (sz191) (by191))) (And.intro (And.intro (kt191) (zv191)) (And.intro (ze191) (kt192)))))) (And.intro (And.intro (And.intro (And.intro (kt193) (And.intro (kt196) (kt197)))
  (And.intro (And.intro (kt198) (kt199)) (And.intro (kt200) (kt201)))) (And.intro (And.intro (kt202) (And.intro (kt203) (kt204))) (And.intro (And.intro (kt205) (kt206)) (And.intro
  (ag207) (si207))))) (And.intro (And.intro (And.intro (sz207) (And.intro (by207) (str207))) (And.intro (And.intro (fi207_0) (fi207_1)) (And.intro (ze207) (kt208)))) (And.intro
  (And.intro (kt209) (And.intro (kt210) (kt212))) (And.intro (And.intro (ag213) (el213)) (And.intro (si213) (sz213))))))))) (And.intro (And.intro (And.intro (And.intro (And.intro
  (And.intro (And.intro (by213) (And.intro (kt213) (zv213))) (And.intro (And.intro (ze213) (ag214)) (And.intro (si214) (sz214)))) (And.intro (And.intro (by214) (And.intro (str214)
  (fi214_0))) (And.intro (And.intro (fi214_1) (fi214_2)) (And.intro (ze214) (ag215))))) (And.intro (And.intro (And.intro (si215) (And.intro (sz215) (by215))) (And.intro (And.intro
  (str215) (fi215_0)) (And.intro (fi215_1) (fi215_2)))) (And.intro (And.intro (ze215) (And.intro (kt216) (kt217))) (And.intro (And.intro (ag218) (si218)) (And.intro (sz218)
  (by218)))))) (And.intro (And.intro (And.intro (And.intro (kt218) (And.intro (zv218) (ze218))) (And.intro (And.intro (kt219) (kt220)) (And.intro (kt221) (kt222)))) (And.intro
  (And.intro (kt223) (And.intro (kt224) (kt225))) (And.intro (And.intro (kt226) (kt227)) (And.intro (kt228) (ag229))))) (And.intro (And.intro (And.intro (si229) (And.intro (sz229)
  (by229))) (And.intro (And.intro (str229) (fi229_0)) (And.intro (fi229_1) (fi229_2)))) (And.intro (And.intro (ze229) (And.intro (ag230) (si230))) (And.intro (And.intro (sz230)
  (by230)) (And.intro (str230) (fi230_0))))))) (And.intro (And.intro (And.intro (And.intro (And.intro (fi230_1) (And.intro (fi230_2) (ze230))) (And.intro (And.intro (kt231) (kt232))
  (And.intro (kt233) (kt234)))) (And.intro (And.intro (ag235) (And.intro (si235) (sz235))) (And.intro (And.intro (by235) (in235)) (And.intro (zv235) (ze235))))) (And.intro
  (And.intro (And.intro (kt237) (And.intro (kt238) (kt239))) (And.intro (And.intro (kt241) (kt242)) (And.intro (ag243) (si243)))) (And.intro (And.intro (sz243) (And.intro (by243)
  (in243))) (And.intro (And.intro (zv243) (ze243)) (And.intro (kt244) (kt245)))))) (And.intro (And.intro (And.intro (And.intro (ag246) (And.intro (el246) (si246))) (And.intro
  (And.intro (sz246) (by246)) (And.intro (kt246) (zv246)))) (And.intro (And.intro (ze246) (And.intro (ag247) (si247))) (And.intro (And.intro (sz247) (by247)) (And.intro (in247)
  (zv247))))) (And.intro (And.intro (And.intro (ze247) (And.intro (kt248) (kt249))) (And.intro (And.intro (kt250) (ag251)) (And.intro (si251) (sz251)))) (And.intro (And.intro
  (by251) (And.intro (kt251) (zv251))) (And.intro (And.intro (ze251) (kt252)) (And.intro (ag253) (si253)))))))) (And.intro (And.intro (And.intro (And.intro (And.intro (And.intro
  (sz253) (And.intro (by253) (kt253))) (And.intro (And.intro (zv253) (ze253)) (And.intro (kt255) (kt256)))) (And.intro (And.intro (ag257) (And.intro (si257) (sz257))) (And.intro
  (And.intro (by257) (str257)) (And.intro (fi257_0) (fi257_1))))) (And.intro (And.intro (And.intro (fi257_2) (And.intro (fi257_3) (ze257))) (And.intro (And.intro (ag258) (si258))
  (And.intro (sz258) (by258)))) (And.intro (And.intro (str258) (And.intro (fi258_0) (fi258_1))) (And.intro (And.intro (fi258_2) (fi258_3)) (And.intro (ze258) (ag259)))))) (And.intro
  (And.intro (And.intro (And.intro (si259) (And.intro (sz259) (by259))) (And.intro (And.intro (ag260) (si260)) (And.intro (sz260) (by260)))) (And.intro (And.intro (str260)
  (And.intro (ag261) (si261))) (And.intro (And.intro (sz261) (by261)) (And.intro (str261) (kt262))))) (And.intro (And.intro (And.intro (ag263) (And.intro (si263) (sz263)))
  (And.intro (And.intro (by263) (in263)) (And.intro (zv263) (ze263)))) (And.intro (And.intro (ag264) (And.intro (si264) (sz264))) (And.intro (And.intro (by264) (in264)) (And.intro
  (zv264) (ze264))))))) (And.intro (And.intro (And.intro (And.intro (And.intro (kt265) (And.intro (ag266) (si266))) (And.intro (And.intro (sz266) (by266)) (And.intro (kt266)
  (zv266)))) (And.intro (And.intro (ze266) (And.intro (ag267) (si267))) (And.intro (And.intro (sz267) (by267)) (And.intro (in267) (zv267))))) (And.intro (And.intro (And.intro
  (ze267) (And.intro (ag268) (si268))) (And.intro (And.intro (sz268) (by268)) (And.intro (in268) (zv268)))) (And.intro (And.intro (ze268) (And.intro (ag269) (si269))) (And.intro
  (And.intro (sz269) (by269)) (And.intro (str269) (fi269_0)))))) (And.intro (And.intro (And.intro (And.intro (fi269_1) (And.intro (fi269_2) (fi269_3))) (And.intro (And.intro
  (fi269_4) (fi269_5)) (And.intro (fi269_6) (fi269_7)))) (And.intro (And.intro (fi269_8) (And.intro (fi269_9) (fi269_10))) (And.intro (And.intro (ze269) (ag270)) (And.intro (si270)
  (sz270))))) (And.intro (And.intro (And.intro (by270) (And.intro (str270) (fi270_0))) (And.intro (And.intro (fi270_1) (fi270_2)) (And.intro (fi270_3) (fi270_4)))) (And.intro
  (And.intro (fi270_5) (And.intro (fi270_6) (fi270_7))) (And.intro (And.intro (fi270_8) (fi270_9)) (And.intro (fi270_10) (ze270))))))))))) := And.intro (And.intro (And.intro
  (And.intro (And.intro (And.intro (And.intro (And.intro (And.intro (kt1) (And.intro (ag2) (si2))) (And.intro (sz2) (And.intro (by2) (in2)))) (And.intro (And.intro (zv2) (And.intro
  (ze2) (ag3))) (And.intro (And.intro (si3) (sz3)) (And.intro (by3) (in3))))) (And.intro (And.intro (And.intro (zv3) (And.intro (ze3) (ag4))) (And.intro (And.intro (si4) (sz4))
  (And.intro (by4) (bo4)))) (And.intro (And.intro (zv4) (And.intro (ze4) (ag5))) (And.intro (And.intro (si5) (sz5)) (And.intro (by5) (in5)))))) (And.intro (And.intro (And.intro
  (And.intro (zv5) (And.intro (ze5) (ag6))) (And.intro (And.intro (si6) (sz6)) (And.intro (by6) (in6)))) (And.intro (And.intro (zv6) (And.intro (ze6) (ag7))) (And.intro (And.intro
  (si7) (sz7)) (And.intro (by7) (str7))))) (And.intro (And.intro (And.intro (fi7_0) (And.intro (fi7_1) (fi7_2))) (And.intro (And.intro (fi7_3) (ze7)) (And.intro (ag8) (si8))))
  (And.intro (And.intro (sz8) (And.intro (by8) (str8))) (And.intro (And.intro (fi8_0) (fi8_1)) (And.intro (fi8_2) (fi8_3))))))) (And.intro (And.intro (And.intro (And.intro
  (And.intro (ze8) (And.intro (ag9) (si9))) (And.intro (And.intro (sz9) (by9)) (And.intro (st9) (zv9)))) (And.intro (And.intro (ze9) (And.intro (ag10) (si10))) (And.intro (And.intro
  (sz10) (by10)) (And.intro (st10) (zv10))))) (And.intro (And.intro (And.intro (ze10) (And.intro (ag11) (si11))) (And.intro (And.intro (sz11) (by11)) (And.intro (st11) (zv11))))
  (And.intro (And.intro (ze11) (And.intro (ag12) (si12))) (And.intro (And.intro (sz12) (by12)) (And.intro (in12) (zv12)))))) (And.intro (And.intro (And.intro (And.intro (ze12)
  (And.intro (ag13) (si13))) (And.intro (And.intro (sz13) (by13)) (And.intro (str13) (fi13_0)))) (And.intro (And.intro (fi13_1) (And.intro (ze13) (ag14))) (And.intro (And.intro
  (si14) (sz14)) (And.intro (by14) (str14))))) (And.intro (And.intro (And.intro (fi14_0) (And.intro (fi14_1) (ze14))) (And.intro (And.intro (ag15) (si15)) (And.intro (sz15)
  (by15)))) (And.intro (And.intro (kt15) (And.intro (zv15) (ze15))) (And.intro (And.intro (ag16) (si16)) (And.intro (sz16) (by16)))))))) (And.intro (And.intro (And.intro (And.intro
  (And.intro (And.intro (kt16) (And.intro (zv16) (ze16))) (And.intro (And.intro (ag17) (si17)) (And.intro (sz17) (by17)))) (And.intro (And.intro (kt17) (And.intro (zv17) (ze17)))
  (And.intro (And.intro (ag18) (si18)) (And.intro (sz18) (by18))))) (And.intro (And.intro (And.intro (str18) (And.intro (fi18_0) (ze18))) (And.intro (And.intro (ag19) (si19))
  (And.intro (sz19) (by19)))) (And.intro (And.intro (str19) (And.intro (fi19_0) (ze19))) (And.intro (And.intro (kt20) (ag21)) (And.intro (si21) (sz21)))))) (And.intro (And.intro
  (And.intro (And.intro (by21) (And.intro (in21) (zv21))) (And.intro (And.intro (ze21) (ag22)) (And.intro (el22) (si22)))) (And.intro (And.intro (sz22) (And.intro (by22) (kt22)))
  (And.intro (And.intro (zv22) (ze22)) (And.intro (kt23) (ag24))))) (And.intro (And.intro (And.intro (el24) (And.intro (si24) (sz24))) (And.intro (And.intro (by24) (kt24))
  (And.intro (zv24) (ze24)))) (And.intro (And.intro (ag25) (And.intro (el25) (si25))) (And.intro (And.intro (sz25) (by25)) (And.intro (kt25) (zv25))))))) (And.intro (And.intro
  (And.intro (And.intro (And.intro (ze25) (And.intro (ag26) (si26))) (And.intro (And.intro (sz26) (by26)) (And.intro (str26) (fi26_0)))) (And.intro (And.intro (fi26_1) (And.intro
  (fi26_2) (ze26))) (And.intro (And.intro (ag27) (si27)) (And.intro (sz27) (by27))))) (And.intro (And.intro (And.intro (str27) (And.intro (fi27_0) (fi27_1))) (And.intro (And.intro
  (fi27_2) (ze27)) (And.intro (kt28) (ag29)))) (And.intro (And.intro (el29) (And.intro (si29) (sz29))) (And.intro (And.intro (by29) (kt29)) (And.intro (zv29) (ze29)))))) (And.intro
  (And.intro (And.intro (And.intro (kt30) (And.intro (kt31) (ag32))) (And.intro (And.intro (si32) (sz32)) (And.intro (by32) (kt32)))) (And.intro (And.intro (zv32) (And.intro (ze32)
  (kt33))) (And.intro (And.intro (ag34) (si34)) (And.intro (sz34) (by34))))) (And.intro (And.intro (And.intro (in34) (And.intro (zv34) (ze34))) (And.intro (And.intro (ag35) (el35))
  (And.intro (si35) (sz35)))) (And.intro (And.intro (by35) (And.intro (kt35) (zv35))) (And.intro (And.intro (ze35) (kt36)) (And.intro (kt37) (kt39))))))))) (And.intro (And.intro
  (And.intro (And.intro (And.intro (And.intro (And.intro (kt40) (And.intro (ag41) (si41))) (And.intro (sz41) (And.intro (by41) (eq41)))) (And.intro (And.intro (str41) (And.intro
  (fi41_0) (fi41_1))) (And.intro (And.intro (ze41) (ag42)) (And.intro (si42) (sz42))))) (And.intro (And.intro (And.intro (by42) (And.intro (eq42) (str42))) (And.intro (And.intro
  (fi42_0) (fi42_1)) (And.intro (ze42) (kt43)))) (And.intro (And.intro (kt45) (And.intro (ag46) (el46))) (And.intro (And.intro (si46) (sz46)) (And.intro (by46) (kt46))))))
  (And.intro (And.intro (And.intro (And.intro (zv46) (And.intro (ze46) (ag47))) (And.intro (And.intro (si47) (sz47)) (And.intro (by47) (str47)))) (And.intro (And.intro (fi47_0)
  (And.intro (fi47_1) (fi47_2))) (And.intro (And.intro (ze47) (ag48)) (And.intro (si48) (sz48))))) (And.intro (And.intro (And.intro (by48) (And.intro (str48) (fi48_0))) (And.intro
  (And.intro (fi48_1) (fi48_2)) (And.intro (ze48) (kt50)))) (And.intro (And.intro (kt51) (And.intro (ag52) (el52))) (And.intro (And.intro (si52) (sz52)) (And.intro (by52)
  (kt52))))))) (And.intro (And.intro (And.intro (And.intro (And.intro (zv52) (And.intro (ze52) (kt54))) (And.intro (And.intro (kt55) (kt56)) (And.intro (kt57) (ag58)))) (And.intro
  (And.intro (el58) (And.intro (si58) (sz58))) (And.intro (And.intro (by58) (kt58)) (And.intro (zv58) (ze58))))) (And.intro (And.intro (And.intro (ag59) (And.intro (el59) (si59)))
  (And.intro (And.intro (sz59) (by59)) (And.intro (kt59) (zv59)))) (And.intro (And.intro (ze59) (And.intro (ag60) (si60))) (And.intro (And.intro (sz60) (by60)) (And.intro (str60)
  (fi60_0)))))) (And.intro (And.intro (And.intro (And.intro (fi60_1) (And.intro (fi60_2) (ze60))) (And.intro (And.intro (ag61) (si61)) (And.intro (sz61) (by61)))) (And.intro
  (And.intro (str61) (And.intro (fi61_0) (fi61_1))) (And.intro (And.intro (fi61_2) (ze61)) (And.intro (kt62) (kt63))))) (And.intro (And.intro (And.intro (kt64) (And.intro (kt65)
  (kt66))) (And.intro (And.intro (kt67) (kt68)) (And.intro (kt69) (kt70)))) (And.intro (And.intro (kt71) (And.intro (kt72) (kt73))) (And.intro (And.intro (kt74) (kt75)) (And.intro
  (ag76) (si76)))))))) (And.intro (And.intro (And.intro (And.intro (And.intro (And.intro (sz76) (And.intro (by76) (str76))) (And.intro (And.intro (fi76_0) (fi76_1)) (And.intro
  (fi76_2) (ze76)))) (And.intro (And.intro (kt77) (And.intro (kt78) (kt79))) (And.intro (And.intro (kt80) (kt81)) (And.intro (kt82) (ag83))))) (And.intro (And.intro (And.intro
  (el83) (And.intro (si83) (sz83))) (And.intro (And.intro (by83) (kt83)) (And.intro (zv83) (ze83)))) (And.intro (And.intro (kt85) (And.intro (kt86) (kt87))) (And.intro (And.intro
  (kt88) (kt89)) (And.intro (kt90) (kt92)))))) (And.intro (And.intro (And.intro (And.intro (kt93) (And.intro (kt94) (kt96))) (And.intro (And.intro (kt97) (kt98)) (And.intro (ag99)
  (si99)))) (And.intro (And.intro (sz99) (And.intro (by99) (kt99))) (And.intro (And.intro (zv99) (ze99)) (And.intro (kt100) (kt101))))) (And.intro (And.intro (And.intro (ag102)
  (And.intro (si102) (sz102))) (And.intro (And.intro (by102) (eq102)) (And.intro (str102) (fi102_0)))) (And.intro (And.intro (fi102_1) (And.intro (ze102) (ag103))) (And.intro
  (And.intro (si103) (sz103)) (And.intro (by103) (eq103))))))) (And.intro (And.intro (And.intro (And.intro (And.intro (str103) (And.intro (fi103_0) (fi103_1))) (And.intro (And.intro
  (ze103) (kt104)) (And.intro (kt105) (kt106)))) (And.intro (And.intro (kt107) (And.intro (kt108) (ag109))) (And.intro (And.intro (si109) (sz109)) (And.intro (by109) (str109)))))
  (And.intro (And.intro (And.intro (fi109_0) (And.intro (fi109_1) (fi109_2))) (And.intro (And.intro (ze109) (ag110)) (And.intro (si110) (sz110)))) (And.intro (And.intro (by110)
  (And.intro (str110) (fi110_0))) (And.intro (And.intro (fi110_1) (fi110_2)) (And.intro (ze110) (ag111)))))) (And.intro (And.intro (And.intro (And.intro (si111) (And.intro (sz111)
  (by111))) (And.intro (And.intro (in111) (zv111)) (And.intro (ze111) (kt112)))) (And.intro (And.intro (kt113) (And.intro (kt114) (kt115))) (And.intro (And.intro (ag116) (si116))
  (And.intro (sz116) (by116))))) (And.intro (And.intro (And.intro (str116) (And.intro (fi116_0) (fi116_1))) (And.intro (And.intro (ze116) (ag117)) (And.intro (si117) (sz117))))
  (And.intro (And.intro (by117) (And.intro (str117) (fi117_0))) (And.intro (And.intro (fi117_1) (ze117)) (And.intro (kt118) (kt119)))))))))) (And.intro (And.intro (And.intro
  (And.intro (And.intro (And.intro (And.intro (And.intro (kt120) (And.intro (kt121) (kt122))) (And.intro (kt123) (And.intro (kt124) (kt125)))) (And.intro (And.intro (kt126)
  (And.intro (kt127) (kt128))) (And.intro (And.intro (kt129) (kt130)) (And.intro (kt131) (kt132))))) (And.intro (And.intro (And.intro (kt133) (And.intro (kt134) (kt135))) (And.intro
  (And.intro (kt136) (kt137)) (And.intro (ag138) (si138)))) (And.intro (And.intro (sz138) (And.intro (by138) (mp138))) (And.intro (And.intro (zv138) (ze138)) (And.intro (kt139)
  (kt140)))))) (And.intro (And.intro (And.intro (And.intro (ag141) (And.intro (si141) (sz141))) (And.intro (And.intro (by141) (kt141)) (And.intro (zv141) (ze141)))) (And.intro
  (And.intro (kt143) (And.intro (kt144) (ag145))) (And.intro (And.intro (si145) (sz145)) (And.intro (by145) (mp145))))) (And.intro (And.intro (And.intro (zv145) (And.intro (ze145)
  (ag146))) (And.intro (And.intro (si146) (sz146)) (And.intro (by146) (str146)))) (And.intro (And.intro (fi146_0) (And.intro (fi146_1) (fi146_2))) (And.intro (And.intro (fi146_3)
  (fi146_4)) (And.intro (fi146_5) (fi146_6))))))) (And.intro (And.intro (And.intro (And.intro (And.intro (ze146) (And.intro (ag147) (si147))) (And.intro (And.intro (sz147) (by147))
  (And.intro (str147) (fi147_0)))) (And.intro (And.intro (fi147_1) (And.intro (fi147_2) (fi147_3))) (And.intro (And.intro (fi147_4) (fi147_5)) (And.intro (fi147_6) (ze147)))))
  (And.intro (And.intro (And.intro (kt148) (And.intro (kt149) (kt150))) (And.intro (And.intro (ag151) (el151)) (And.intro (si151) (sz151)))) (And.intro (And.intro (by151) (And.intro
  (kt151) (zv151))) (And.intro (And.intro (ze151) (ag152)) (And.intro (si152) (sz152)))))) (And.intro (And.intro (And.intro (And.intro (by152) (And.intro (str152) (fi152_0)))
  (And.intro (And.intro (fi152_1) (fi152_2)) (And.intro (fi152_3) (ze152)))) (And.intro (And.intro (ag153) (And.intro (si153) (sz153))) (And.intro (And.intro (by153) (str153))
  (And.intro (fi153_0) (fi153_1))))) (And.intro (And.intro (And.intro (fi153_2) (And.intro (fi153_3) (ze153))) (And.intro (And.intro (kt155) (kt156)) (And.intro (ag157) (si157))))
  (And.intro (And.intro (sz157) (And.intro (by157) (str157))) (And.intro (And.intro (fi157_0) (fi157_1)) (And.intro (ze157) (ag158)))))))) (And.intro (And.intro (And.intro
  (And.intro (And.intro (And.intro (si158) (And.intro (sz158) (by158))) (And.intro (And.intro (str158) (fi158_0)) (And.intro (fi158_1) (ze158)))) (And.intro (And.intro (kt159)
  (And.intro (kt160) (kt161))) (And.intro (And.intro (kt162) (kt164)) (And.intro (kt165) (ag166))))) (And.intro (And.intro (And.intro (si166) (And.intro (sz166) (by166))) (And.intro
  (And.intro (str166) (fi166_0)) (And.intro (fi166_1) (fi166_2)))) (And.intro (And.intro (ze166) (And.intro (ag167) (si167))) (And.intro (And.intro (sz167) (by167)) (And.intro
  (str167) (fi167_0)))))) (And.intro (And.intro (And.intro (And.intro (fi167_1) (And.intro (fi167_2) (ze167))) (And.intro (And.intro (kt168) (kt169)) (And.intro (kt170) (kt171))))
  (And.intro (And.intro (kt172) (And.intro (kt173) (kt174))) (And.intro (And.intro (kt175) (ag176)) (And.intro (el176) (si176))))) (And.intro (And.intro (And.intro (sz176)
  (And.intro (by176) (kt176))) (And.intro (And.intro (zv176) (ze176)) (And.intro (kt177) (kt178)))) (And.intro (And.intro (kt179) (And.intro (ag180) (el180))) (And.intro (And.intro
  (si180) (sz180)) (And.intro (by180) (kt180))))))) (And.intro (And.intro (And.intro (And.intro (And.intro (zv180) (And.intro (ze180) (kt181))) (And.intro (And.intro (ag182)
  (si182)) (And.intro (sz182) (by182)))) (And.intro (And.intro (eq182) (And.intro (str182) (fi182_0))) (And.intro (And.intro (fi182_1) (ze182)) (And.intro (kt183) (kt184)))))
  (And.intro (And.intro (And.intro (kt185) (And.intro (kt186) (kt187))) (And.intro (And.intro (kt188) (kt189)) (And.intro (kt190) (ag191)))) (And.intro (And.intro (si191) (And.intro
  (sz191) (by191))) (And.intro (And.intro (kt191) (zv191)) (And.intro (ze191) (kt192)))))) (And.intro (And.intro (And.intro (And.intro (kt193) (And.intro (kt196) (kt197)))
  (And.intro (And.intro (kt198) (kt199)) (And.intro (kt200) (kt201)))) (And.intro (And.intro (kt202) (And.intro (kt203) (kt204))) (And.intro (And.intro (kt205) (kt206)) (And.intro
  (ag207) (si207))))) (And.intro (And.intro (And.intro (sz207) (And.intro (by207) (str207))) (And.intro (And.intro (fi207_0) (fi207_1)) (And.intro (ze207) (kt208)))) (And.intro
  (And.intro (kt209) (And.intro (kt210) (kt212))) (And.intro (And.intro (ag213) (el213)) (And.intro (si213) (sz213))))))))) (And.intro (And.intro (And.intro (And.intro (And.intro
  (And.intro (And.intro (by213) (And.intro (kt213) (zv213))) (And.intro (And.intro (ze213) (ag214)) (And.intro (si214) (sz214)))) (And.intro (And.intro (by214) (And.intro (str214)
  (fi214_0))) (And.intro (And.intro (fi214_1) (fi214_2)) (And.intro (ze214) (ag215))))) (And.intro (And.intro (And.intro (si215) (And.intro (sz215) (by215))) (And.intro (And.intro
  (str215) (fi215_0)) (And.intro (fi215_1) (fi215_2)))) (And.intro (And.intro (ze215) (And.intro (kt216) (kt217))) (And.intro (And.intro (ag218) (si218)) (And.intro (sz218)
  (by218)))))) (And.intro (And.intro (And.intro (And.intro (kt218) (And.intro (zv218) (ze218))) (And.intro (And.intro (kt219) (kt220)) (And.intro (kt221) (kt222)))) (And.intro
  (And.intro (kt223) (And.intro (kt224) (kt225))) (And.intro (And.intro (kt226) (kt227)) (And.intro (kt228) (ag229))))) (And.intro (And.intro (And.intro (si229) (And.intro (sz229)
  (by229))) (And.intro (And.intro (str229) (fi229_0)) (And.intro (fi229_1) (fi229_2)))) (And.intro (And.intro (ze229) (And.intro (ag230) (si230))) (And.intro (And.intro (sz230)
  (by230)) (And.intro (str230) (fi230_0))))))) (And.intro (And.intro (And.intro (And.intro (And.intro (fi230_1) (And.intro (fi230_2) (ze230))) (And.intro (And.intro (kt231) (kt232))
  (And.intro (kt233) (kt234)))) (And.intro (And.intro (ag235) (And.intro (si235) (sz235))) (And.intro (And.intro (by235) (in235)) (And.intro (zv235) (ze235))))) (And.intro
  (And.intro (And.intro (kt237) (And.intro (kt238) (kt239))) (And.intro (And.intro (kt241) (kt242)) (And.intro (ag243) (si243)))) (And.intro (And.intro (sz243) (And.intro (by243)
  (in243))) (And.intro (And.intro (zv243) (ze243)) (And.intro (kt244) (kt245)))))) (And.intro (And.intro (And.intro (And.intro (ag246) (And.intro (el246) (si246))) (And.intro
  (And.intro (sz246) (by246)) (And.intro (kt246) (zv246)))) (And.intro (And.intro (ze246) (And.intro (ag247) (si247))) (And.intro (And.intro (sz247) (by247)) (And.intro (in247)
  (zv247))))) (And.intro (And.intro (And.intro (ze247) (And.intro (kt248) (kt249))) (And.intro (And.intro (kt250) (ag251)) (And.intro (si251) (sz251)))) (And.intro (And.intro
  (by251) (And.intro (kt251) (zv251))) (And.intro (And.intro (ze251) (kt252)) (And.intro (ag253) (si253)))))))) (And.intro (And.intro (And.intro (And.intro (And.intro (And.intro
  (sz253) (And.intro (by253) (kt253))) (And.intro (And.intro (zv253) (ze253)) (And.intro (kt255) (kt256)))) (And.intro (And.intro (ag257) (And.intro (si257) (sz257))) (And.intro
  (And.intro (by257) (str257)) (And.intro (fi257_0) (fi257_1))))) (And.intro (And.intro (And.intro (fi257_2) (And.intro (fi257_3) (ze257))) (And.intro (And.intro (ag258) (si258))
  (And.intro (sz258) (by258)))) (And.intro (And.intro (str258) (And.intro (fi258_0) (fi258_1))) (And.intro (And.intro (fi258_2) (fi258_3)) (And.intro (ze258) (ag259)))))) (And.intro
  (And.intro (And.intro (And.intro (si259) (And.intro (sz259) (by259))) (And.intro (And.intro (ag260) (si260)) (And.intro (sz260) (by260)))) (And.intro (And.intro (str260)
  (And.intro (ag261) (si261))) (And.intro (And.intro (sz261) (by261)) (And.intro (str261) (kt262))))) (And.intro (And.intro (And.intro (ag263) (And.intro (si263) (sz263)))
  (And.intro (And.intro (by263) (in263)) (And.intro (zv263) (ze263)))) (And.intro (And.intro (ag264) (And.intro (si264) (sz264))) (And.intro (And.intro (by264) (in264)) (And.intro
  (zv264) (ze264))))))) (And.intro (And.intro (And.intro (And.intro (And.intro (kt265) (And.intro (ag266) (si266))) (And.intro (And.intro (sz266) (by266)) (And.intro (kt266)
  (zv266)))) (And.intro (And.intro (ze266) (And.intro (ag267) (si267))) (And.intro (And.intro (sz267) (by267)) (And.intro (in267) (zv267))))) (And.intro (And.intro (And.intro
  (ze267) (And.intro (ag268) (si268))) (And.intro (And.intro (sz268) (by268)) (And.intro (in268) (zv268)))) (And.intro (And.intro (ze268) (And.intro (ag269) (si269))) (And.intro
  (And.intro (sz269) (by269)) (And.intro (str269) (fi269_0)))))) (And.intro (And.intro (And.intro (And.intro (fi269_1) (And.intro (fi269_2) (fi269_3))) (And.intro (And.intro
  (fi269_4) (fi269_5)) (And.intro (fi269_6) (fi269_7)))) (And.intro (And.intro (fi269_8) (And.intro (fi269_9) (fi269_10))) (And.intro (And.intro (ze269) (ag270)) (And.intro (si270)
  (sz270))))) (And.intro (And.intro (And.intro (by270) (And.intro (str270) (fi270_0))) (And.intro (And.intro (fi270_1) (fi270_2)) (And.intro (fi270_3) (fi270_4)))) (And.intro
  (And.intro (fi270_5) (And.intro (fi270_6) (fi270_7))) (And.intro (And.intro (fi270_8) (fi270_9)) (And.intro (fi270_10) (ze270))))))))))
end Go.AM
