/-
  WHAT THE PROGRAM SAYS OF ITS TYPES, each fact by reckoning.
-/
import Derived.Test.YtnoaihgfdmffoaaM2Tool
import Derived.Test.YtnoaihgfdmffoaaProg
import Derived.Test.YtnoaihgfdmffoaaProg
set_option linter.unusedVariables false
set_option linter.unusedSimpArgs false
namespace Go.AM
open Go.Proofs
theorem mixed : Try.prog.follows .mixedOrders = true := by kernel_rfl
theorem kt1 : kindT Try.prog 1 = some 3 := by kernel_rfl
theorem ag2 : aggT Try.prog 2 = some false := by kernel_rfl
theorem si2 : sizeT Try.prog 2 = 1 := by kernel_rfl
theorem sz2 : szT Try.prog 2 = some 1 := by kernel_rfl
theorem by2 : bytesT Try.prog 2 = 8 := by kernel_rfl
theorem in2 : intT Try.prog 2 = some .i64 := by kernel_rfl
theorem zv2 : zeroV Try.prog 2 = some (.int .i64 0) := by kernel_rfl
theorem ze2 : zeroT Try.prog 2 = some [.int .i64 0] := by kernel_rfl
theorem ag3 : aggT Try.prog 3 = some false := by kernel_rfl
theorem si3 : sizeT Try.prog 3 = 1 := by kernel_rfl
theorem sz3 : szT Try.prog 3 = some 1 := by kernel_rfl
theorem by3 : bytesT Try.prog 3 = 8 := by kernel_rfl
theorem in3 : intT Try.prog 3 = some .i64 := by kernel_rfl
theorem zv3 : zeroV Try.prog 3 = some (.int .i64 0) := by kernel_rfl
theorem ze3 : zeroT Try.prog 3 = some [.int .i64 0] := by kernel_rfl
theorem ag4 : aggT Try.prog 4 = some false := by kernel_rfl
theorem si4 : sizeT Try.prog 4 = 1 := by kernel_rfl
theorem sz4 : szT Try.prog 4 = some 1 := by kernel_rfl
theorem by4 : bytesT Try.prog 4 = 1 := by kernel_rfl
theorem bo4 : boolT Try.prog 4 = true := by kernel_rfl
theorem zv4 : zeroV Try.prog 4 = some (.bool false) := by kernel_rfl
theorem ze4 : zeroT Try.prog 4 = some [.bool false] := by kernel_rfl
theorem ag5 : aggT Try.prog 5 = some false := by kernel_rfl
theorem si5 : sizeT Try.prog 5 = 1 := by kernel_rfl
theorem sz5 : szT Try.prog 5 = some 1 := by kernel_rfl
theorem by5 : bytesT Try.prog 5 = 1 := by kernel_rfl
theorem in5 : intT Try.prog 5 = some .u8 := by kernel_rfl
theorem zv5 : zeroV Try.prog 5 = some (.int .u8 0) := by kernel_rfl
theorem ze5 : zeroT Try.prog 5 = some [.int .u8 0] := by kernel_rfl
theorem ag6 : aggT Try.prog 6 = some false := by kernel_rfl
theorem si6 : sizeT Try.prog 6 = 1 := by kernel_rfl
theorem sz6 : szT Try.prog 6 = some 1 := by kernel_rfl
theorem by6 : bytesT Try.prog 6 = 1 := by kernel_rfl
theorem in6 : intT Try.prog 6 = some .u8 := by kernel_rfl
theorem zv6 : zeroV Try.prog 6 = some (.int .u8 0) := by kernel_rfl
theorem ze6 : zeroT Try.prog 6 = some [.int .u8 0] := by kernel_rfl
theorem ag7 : aggT Try.prog 7 = some true := by kernel_rfl
theorem si7 : sizeT Try.prog 7 = 4 := by kernel_rfl
theorem sz7 : szT Try.prog 7 = some 4 := by kernel_rfl
theorem by7 : bytesT Try.prog 7 = 24 := by kernel_rfl
theorem str7 : structT Try.prog 7 = true := by kernel_rfl
theorem fi7_0 : fieldT Try.prog 7 0 = some (0, 2) := by kernel_rfl
theorem fi7_1 : fieldT Try.prog 7 1 = some (1, 3) := by kernel_rfl
theorem fi7_2 : fieldT Try.prog 7 2 = some (2, 4) := by kernel_rfl
theorem fi7_3 : fieldT Try.prog 7 3 = some (3, 6) := by kernel_rfl
theorem ze7 : zeroT Try.prog 7 = some [.int .i64 0, .int .i64 0, .bool false, .int .u8 0] := by kernel_rfl
theorem ag8 : aggT Try.prog 8 = some true := by kernel_rfl
theorem si8 : sizeT Try.prog 8 = 4 := by kernel_rfl
theorem sz8 : szT Try.prog 8 = some 4 := by kernel_rfl
theorem by8 : bytesT Try.prog 8 = 24 := by kernel_rfl
theorem str8 : structT Try.prog 8 = true := by kernel_rfl
theorem fi8_0 : fieldT Try.prog 8 0 = some (0, 2) := by kernel_rfl
theorem fi8_1 : fieldT Try.prog 8 1 = some (1, 3) := by kernel_rfl
theorem fi8_2 : fieldT Try.prog 8 2 = some (2, 4) := by kernel_rfl
theorem fi8_3 : fieldT Try.prog 8 3 = some (3, 6) := by kernel_rfl
theorem ze8 : zeroT Try.prog 8 = some [.int .i64 0, .int .i64 0, .bool false, .int .u8 0] := by kernel_rfl
theorem ag9 : aggT Try.prog 9 = some false := by kernel_rfl
theorem si9 : sizeT Try.prog 9 = 1 := by kernel_rfl
theorem sz9 : szT Try.prog 9 = some 1 := by kernel_rfl
theorem by9 : bytesT Try.prog 9 = 16 := by kernel_rfl
theorem st9 : stringT Try.prog 9 = true := by kernel_rfl
theorem zv9 : zeroV Try.prog 9 = some (.string ⟨#[]⟩) := by kernel_rfl
theorem ze9 : zeroT Try.prog 9 = some [.string ⟨#[]⟩] := by kernel_rfl
theorem ag10 : aggT Try.prog 10 = some false := by kernel_rfl
theorem si10 : sizeT Try.prog 10 = 1 := by kernel_rfl
theorem sz10 : szT Try.prog 10 = some 1 := by kernel_rfl
theorem by10 : bytesT Try.prog 10 = 16 := by kernel_rfl
theorem st10 : stringT Try.prog 10 = true := by kernel_rfl
theorem zv10 : zeroV Try.prog 10 = some (.string ⟨#[]⟩) := by kernel_rfl
theorem ze10 : zeroT Try.prog 10 = some [.string ⟨#[]⟩] := by kernel_rfl
theorem ag11 : aggT Try.prog 11 = some false := by kernel_rfl
theorem si11 : sizeT Try.prog 11 = 1 := by kernel_rfl
theorem sz11 : szT Try.prog 11 = some 1 := by kernel_rfl
theorem by11 : bytesT Try.prog 11 = 16 := by kernel_rfl
theorem st11 : stringT Try.prog 11 = true := by kernel_rfl
theorem zv11 : zeroV Try.prog 11 = some (.string ⟨#[]⟩) := by kernel_rfl
theorem ze11 : zeroT Try.prog 11 = some [.string ⟨#[]⟩] := by kernel_rfl
theorem ag12 : aggT Try.prog 12 = some false := by kernel_rfl
theorem si12 : sizeT Try.prog 12 = 1 := by kernel_rfl
theorem sz12 : szT Try.prog 12 = some 1 := by kernel_rfl
theorem by12 : bytesT Try.prog 12 = 8 := by kernel_rfl
theorem in12 : intT Try.prog 12 = some .u64 := by kernel_rfl
theorem zv12 : zeroV Try.prog 12 = some (.int .u64 0) := by kernel_rfl
theorem ze12 : zeroT Try.prog 12 = some [.int .u64 0] := by kernel_rfl
theorem ag13 : aggT Try.prog 13 = some true := by kernel_rfl
theorem si13 : sizeT Try.prog 13 = 2 := by kernel_rfl
theorem sz13 : szT Try.prog 13 = some 2 := by kernel_rfl
theorem by13 : bytesT Try.prog 13 = 24 := by kernel_rfl
theorem str13 : structT Try.prog 13 = true := by kernel_rfl
theorem fi13_0 : fieldT Try.prog 13 0 = some (0, 9) := by kernel_rfl
theorem fi13_1 : fieldT Try.prog 13 1 = some (1, 12) := by kernel_rfl
theorem ze13 : zeroT Try.prog 13 = some [.string ⟨#[]⟩, .int .u64 0] := by kernel_rfl
theorem ag14 : aggT Try.prog 14 = some true := by kernel_rfl
theorem si14 : sizeT Try.prog 14 = 2 := by kernel_rfl
theorem sz14 : szT Try.prog 14 = some 2 := by kernel_rfl
theorem by14 : bytesT Try.prog 14 = 24 := by kernel_rfl
theorem str14 : structT Try.prog 14 = true := by kernel_rfl
theorem fi14_0 : fieldT Try.prog 14 0 = some (0, 9) := by kernel_rfl
theorem fi14_1 : fieldT Try.prog 14 1 = some (1, 12) := by kernel_rfl
theorem ze14 : zeroT Try.prog 14 = some [.string ⟨#[]⟩, .int .u64 0] := by kernel_rfl
theorem ag15 : aggT Try.prog 15 = some false := by kernel_rfl
theorem si15 : sizeT Try.prog 15 = 1 := by kernel_rfl
theorem sz15 : szT Try.prog 15 = some 1 := by kernel_rfl
theorem by15 : bytesT Try.prog 15 = 8 := by kernel_rfl
theorem kt15 : kindT Try.prog 15 = some 1 := by kernel_rfl
theorem zv15 : zeroV Try.prog 15 = some (.pointer none) := by kernel_rfl
theorem ze15 : zeroT Try.prog 15 = some [.pointer none] := by kernel_rfl
theorem ag16 : aggT Try.prog 16 = some false := by kernel_rfl
theorem si16 : sizeT Try.prog 16 = 1 := by kernel_rfl
theorem sz16 : szT Try.prog 16 = some 1 := by kernel_rfl
theorem by16 : bytesT Try.prog 16 = 8 := by kernel_rfl
theorem kt16 : kindT Try.prog 16 = some 1 := by kernel_rfl
theorem zv16 : zeroV Try.prog 16 = some (.pointer none) := by kernel_rfl
theorem ze16 : zeroT Try.prog 16 = some [.pointer none] := by kernel_rfl
theorem ag17 : aggT Try.prog 17 = some false := by kernel_rfl
theorem si17 : sizeT Try.prog 17 = 1 := by kernel_rfl
theorem sz17 : szT Try.prog 17 = some 1 := by kernel_rfl
theorem by17 : bytesT Try.prog 17 = 8 := by kernel_rfl
theorem kt17 : kindT Try.prog 17 = some 1 := by kernel_rfl
theorem zv17 : zeroV Try.prog 17 = some (.pointer none) := by kernel_rfl
theorem ze17 : zeroT Try.prog 17 = some [.pointer none] := by kernel_rfl
theorem ag18 : aggT Try.prog 18 = some true := by kernel_rfl
theorem si18 : sizeT Try.prog 18 = 1 := by kernel_rfl
theorem sz18 : szT Try.prog 18 = some 1 := by kernel_rfl
theorem by18 : bytesT Try.prog 18 = 8 := by kernel_rfl
theorem str18 : structT Try.prog 18 = true := by kernel_rfl
theorem fi18_0 : fieldT Try.prog 18 0 = some (0, 17) := by kernel_rfl
theorem ze18 : zeroT Try.prog 18 = some [.pointer none] := by kernel_rfl
theorem ag19 : aggT Try.prog 19 = some true := by kernel_rfl
theorem si19 : sizeT Try.prog 19 = 1 := by kernel_rfl
theorem sz19 : szT Try.prog 19 = some 1 := by kernel_rfl
theorem by19 : bytesT Try.prog 19 = 8 := by kernel_rfl
theorem str19 : structT Try.prog 19 = true := by kernel_rfl
theorem fi19_0 : fieldT Try.prog 19 0 = some (0, 17) := by kernel_rfl
theorem ze19 : zeroT Try.prog 19 = some [.pointer none] := by kernel_rfl
theorem kt20 : kindT Try.prog 20 = some 2 := by kernel_rfl
theorem ag21 : aggT Try.prog 21 = some false := by kernel_rfl
theorem si21 : sizeT Try.prog 21 = 1 := by kernel_rfl
theorem sz21 : szT Try.prog 21 = some 1 := by kernel_rfl
theorem by21 : bytesT Try.prog 21 = 4 := by kernel_rfl
theorem in21 : intT Try.prog 21 = some .i32 := by kernel_rfl
theorem zv21 : zeroV Try.prog 21 = some (.int .i32 0) := by kernel_rfl
theorem ze21 : zeroT Try.prog 21 = some [.int .i32 0] := by kernel_rfl
theorem ag22 : aggT Try.prog 22 = some false := by kernel_rfl
theorem el22 : elemT Try.prog 22 = some 5 := by kernel_rfl
theorem si22 : sizeT Try.prog 22 = 1 := by kernel_rfl
theorem sz22 : szT Try.prog 22 = some 1 := by kernel_rfl
theorem by22 : bytesT Try.prog 22 = 24 := by kernel_rfl
theorem kt22 : kindT Try.prog 22 = some 0 := by kernel_rfl
theorem zv22 : zeroV Try.prog 22 = some (.slice none 0 0) := by kernel_rfl
theorem ze22 : zeroT Try.prog 22 = some [.slice none 0 0] := by kernel_rfl
theorem kt23 : kindT Try.prog 23 = some 3 := by kernel_rfl
theorem ag24 : aggT Try.prog 24 = some false := by kernel_rfl
theorem el24 : elemT Try.prog 24 = some 82 := by kernel_rfl
theorem si24 : sizeT Try.prog 24 = 1 := by kernel_rfl
theorem sz24 : szT Try.prog 24 = some 1 := by kernel_rfl
theorem by24 : bytesT Try.prog 24 = 24 := by kernel_rfl
theorem kt24 : kindT Try.prog 24 = some 0 := by kernel_rfl
theorem zv24 : zeroV Try.prog 24 = some (.slice none 0 0) := by kernel_rfl
theorem ze24 : zeroT Try.prog 24 = some [.slice none 0 0] := by kernel_rfl
theorem ag25 : aggT Try.prog 25 = some false := by kernel_rfl
theorem el25 : elemT Try.prog 25 = some 35 := by kernel_rfl
theorem si25 : sizeT Try.prog 25 = 1 := by kernel_rfl
theorem sz25 : szT Try.prog 25 = some 1 := by kernel_rfl
theorem by25 : bytesT Try.prog 25 = 24 := by kernel_rfl
theorem kt25 : kindT Try.prog 25 = some 0 := by kernel_rfl
theorem zv25 : zeroV Try.prog 25 = some (.slice none 0 0) := by kernel_rfl
theorem ze25 : zeroT Try.prog 25 = some [.slice none 0 0] := by kernel_rfl
theorem ag26 : aggT Try.prog 26 = some true := by kernel_rfl
theorem si26 : sizeT Try.prog 26 = 3 := by kernel_rfl
theorem sz26 : szT Try.prog 26 = some 3 := by kernel_rfl
theorem by26 : bytesT Try.prog 26 = 64 := by kernel_rfl
theorem str26 : structT Try.prog 26 = true := by kernel_rfl
theorem fi26_0 : fieldT Try.prog 26 0 = some (0, 24) := by kernel_rfl
theorem fi26_1 : fieldT Try.prog 26 1 = some (1, 9) := by kernel_rfl
theorem fi26_2 : fieldT Try.prog 26 2 = some (2, 25) := by kernel_rfl
theorem ze26 : zeroT Try.prog 26 = some [.slice none 0 0, .string ⟨#[]⟩, .slice none 0 0] := by kernel_rfl
theorem ag27 : aggT Try.prog 27 = some true := by kernel_rfl
theorem si27 : sizeT Try.prog 27 = 3 := by kernel_rfl
theorem sz27 : szT Try.prog 27 = some 3 := by kernel_rfl
theorem by27 : bytesT Try.prog 27 = 64 := by kernel_rfl
theorem str27 : structT Try.prog 27 = true := by kernel_rfl
theorem fi27_0 : fieldT Try.prog 27 0 = some (0, 24) := by kernel_rfl
theorem fi27_1 : fieldT Try.prog 27 1 = some (1, 9) := by kernel_rfl
theorem fi27_2 : fieldT Try.prog 27 2 = some (2, 25) := by kernel_rfl
theorem ze27 : zeroT Try.prog 27 = some [.slice none 0 0, .string ⟨#[]⟩, .slice none 0 0] := by kernel_rfl
theorem kt28 : kindT Try.prog 28 = some 3 := by kernel_rfl
theorem ag29 : aggT Try.prog 29 = some false := by kernel_rfl
theorem el29 : elemT Try.prog 29 = some 42 := by kernel_rfl
theorem si29 : sizeT Try.prog 29 = 1 := by kernel_rfl
theorem sz29 : szT Try.prog 29 = some 1 := by kernel_rfl
theorem by29 : bytesT Try.prog 29 = 24 := by kernel_rfl
theorem kt29 : kindT Try.prog 29 = some 0 := by kernel_rfl
theorem zv29 : zeroV Try.prog 29 = some (.slice none 0 0) := by kernel_rfl
theorem ze29 : zeroT Try.prog 29 = some [.slice none 0 0] := by kernel_rfl
theorem kt30 : kindT Try.prog 30 = some 3 := by kernel_rfl
theorem kt31 : kindT Try.prog 31 = some 3 := by kernel_rfl
theorem ag32 : aggT Try.prog 32 = some false := by kernel_rfl
theorem si32 : sizeT Try.prog 32 = 1 := by kernel_rfl
theorem sz32 : szT Try.prog 32 = some 1 := by kernel_rfl
theorem by32 : bytesT Try.prog 32 = 8 := by kernel_rfl
theorem kt32 : kindT Try.prog 32 = some 1 := by kernel_rfl
theorem zv32 : zeroV Try.prog 32 = some (.pointer none) := by kernel_rfl
theorem ze32 : zeroT Try.prog 32 = some [.pointer none] := by kernel_rfl
theorem kt33 : kindT Try.prog 33 = some 3 := by kernel_rfl
theorem ag34 : aggT Try.prog 34 = some false := by kernel_rfl
theorem si34 : sizeT Try.prog 34 = 1 := by kernel_rfl
theorem sz34 : szT Try.prog 34 = some 1 := by kernel_rfl
theorem by34 : bytesT Try.prog 34 = 8 := by kernel_rfl
theorem in34 : intT Try.prog 34 = some .u64 := by kernel_rfl
theorem zv34 : zeroV Try.prog 34 = some (.int .u64 0) := by kernel_rfl
theorem ze34 : zeroT Try.prog 34 = some [.int .u64 0] := by kernel_rfl
theorem ag35 : aggT Try.prog 35 = some false := by kernel_rfl
theorem el35 : elemT Try.prog 35 = some 96 := by kernel_rfl
theorem si35 : sizeT Try.prog 35 = 1 := by kernel_rfl
theorem sz35 : szT Try.prog 35 = some 1 := by kernel_rfl
theorem by35 : bytesT Try.prog 35 = 24 := by kernel_rfl
theorem kt35 : kindT Try.prog 35 = some 0 := by kernel_rfl
theorem zv35 : zeroV Try.prog 35 = some (.slice none 0 0) := by kernel_rfl
theorem ze35 : zeroT Try.prog 35 = some [.slice none 0 0] := by kernel_rfl
theorem kt36 : kindT Try.prog 36 = some 3 := by kernel_rfl
theorem kt37 : kindT Try.prog 37 = some 3 := by kernel_rfl
theorem kt39 : kindT Try.prog 39 = some 3 := by kernel_rfl
theorem kt40 : kindT Try.prog 40 = some 3 := by kernel_rfl
theorem ag41 : aggT Try.prog 41 = some true := by kernel_rfl
theorem si41 : sizeT Try.prog 41 = 2 := by kernel_rfl
theorem sz41 : szT Try.prog 41 = some 2 := by kernel_rfl
theorem by41 : bytesT Try.prog 41 = 16 := by kernel_rfl
theorem eq41 : eqT Try.prog 41 = some [(0, 0), (1, 0)] := by kernel_rfl
theorem str41 : structT Try.prog 41 = true := by kernel_rfl
theorem fi41_0 : fieldT Try.prog 41 0 = some (0, 2) := by kernel_rfl
theorem fi41_1 : fieldT Try.prog 41 1 = some (1, 2) := by kernel_rfl
theorem ze41 : zeroT Try.prog 41 = some [.int .i64 0, .int .i64 0] := by kernel_rfl
theorem ag42 : aggT Try.prog 42 = some true := by kernel_rfl
theorem si42 : sizeT Try.prog 42 = 2 := by kernel_rfl
theorem sz42 : szT Try.prog 42 = some 2 := by kernel_rfl
theorem by42 : bytesT Try.prog 42 = 16 := by kernel_rfl
theorem eq42 : eqT Try.prog 42 = some [(0, 0), (1, 0)] := by kernel_rfl
theorem str42 : structT Try.prog 42 = true := by kernel_rfl
theorem fi42_0 : fieldT Try.prog 42 0 = some (0, 2) := by kernel_rfl
theorem fi42_1 : fieldT Try.prog 42 1 = some (1, 2) := by kernel_rfl
theorem ze42 : zeroT Try.prog 42 = some [.int .i64 0, .int .i64 0] := by kernel_rfl
theorem kt43 : kindT Try.prog 43 = some 3 := by kernel_rfl
theorem kt45 : kindT Try.prog 45 = some 3 := by kernel_rfl
theorem ag46 : aggT Try.prog 46 = some false := by kernel_rfl
theorem el46 : elemT Try.prog 46 = some 52 := by kernel_rfl
theorem si46 : sizeT Try.prog 46 = 1 := by kernel_rfl
theorem sz46 : szT Try.prog 46 = some 1 := by kernel_rfl
theorem by46 : bytesT Try.prog 46 = 24 := by kernel_rfl
theorem kt46 : kindT Try.prog 46 = some 0 := by kernel_rfl
theorem zv46 : zeroV Try.prog 46 = some (.slice none 0 0) := by kernel_rfl
theorem ze46 : zeroT Try.prog 46 = some [.slice none 0 0] := by kernel_rfl
theorem ag47 : aggT Try.prog 47 = some true := by kernel_rfl
theorem si47 : sizeT Try.prog 47 = 3 := by kernel_rfl
theorem sz47 : szT Try.prog 47 = some 3 := by kernel_rfl
theorem by47 : bytesT Try.prog 47 = 48 := by kernel_rfl
theorem str47 : structT Try.prog 47 = true := by kernel_rfl
theorem fi47_0 : fieldT Try.prog 47 0 = some (0, 2) := by kernel_rfl
theorem fi47_1 : fieldT Try.prog 47 1 = some (1, 9) := by kernel_rfl
theorem fi47_2 : fieldT Try.prog 47 2 = some (2, 46) := by kernel_rfl
theorem ze47 : zeroT Try.prog 47 = some [.int .i64 0, .string ⟨#[]⟩, .slice none 0 0] := by kernel_rfl
theorem ag48 : aggT Try.prog 48 = some true := by kernel_rfl
theorem si48 : sizeT Try.prog 48 = 3 := by kernel_rfl
theorem sz48 : szT Try.prog 48 = some 3 := by kernel_rfl
theorem by48 : bytesT Try.prog 48 = 48 := by kernel_rfl
theorem str48 : structT Try.prog 48 = true := by kernel_rfl
theorem fi48_0 : fieldT Try.prog 48 0 = some (0, 2) := by kernel_rfl
theorem fi48_1 : fieldT Try.prog 48 1 = some (1, 9) := by kernel_rfl
theorem fi48_2 : fieldT Try.prog 48 2 = some (2, 46) := by kernel_rfl
theorem ze48 : zeroT Try.prog 48 = some [.int .i64 0, .string ⟨#[]⟩, .slice none 0 0] := by kernel_rfl
theorem kt50 : kindT Try.prog 50 = some 3 := by kernel_rfl
theorem kt51 : kindT Try.prog 51 = some 3 := by kernel_rfl
theorem ag52 : aggT Try.prog 52 = some false := by kernel_rfl
theorem el52 : elemT Try.prog 52 = some 2 := by kernel_rfl
theorem si52 : sizeT Try.prog 52 = 1 := by kernel_rfl
theorem sz52 : szT Try.prog 52 = some 1 := by kernel_rfl
theorem by52 : bytesT Try.prog 52 = 24 := by kernel_rfl
theorem kt52 : kindT Try.prog 52 = some 0 := by kernel_rfl
theorem zv52 : zeroV Try.prog 52 = some (.slice none 0 0) := by kernel_rfl
theorem ze52 : zeroT Try.prog 52 = some [.slice none 0 0] := by kernel_rfl
theorem kt54 : kindT Try.prog 54 = some 3 := by kernel_rfl
theorem kt55 : kindT Try.prog 55 = some 3 := by kernel_rfl
theorem kt56 : kindT Try.prog 56 = some 3 := by kernel_rfl
theorem kt57 : kindT Try.prog 57 = some 3 := by kernel_rfl
theorem ag58 : aggT Try.prog 58 = some false := by kernel_rfl
theorem el58 : elemT Try.prog 58 = some 130 := by kernel_rfl
theorem si58 : sizeT Try.prog 58 = 1 := by kernel_rfl
theorem sz58 : szT Try.prog 58 = some 1 := by kernel_rfl
theorem by58 : bytesT Try.prog 58 = 24 := by kernel_rfl
theorem kt58 : kindT Try.prog 58 = some 0 := by kernel_rfl
theorem zv58 : zeroV Try.prog 58 = some (.slice none 0 0) := by kernel_rfl
theorem ze58 : zeroT Try.prog 58 = some [.slice none 0 0] := by kernel_rfl
theorem ag59 : aggT Try.prog 59 = some false := by kernel_rfl
theorem el59 : elemT Try.prog 59 = some 128 := by kernel_rfl
theorem si59 : sizeT Try.prog 59 = 1 := by kernel_rfl
theorem sz59 : szT Try.prog 59 = some 1 := by kernel_rfl
theorem by59 : bytesT Try.prog 59 = 24 := by kernel_rfl
theorem kt59 : kindT Try.prog 59 = some 0 := by kernel_rfl
theorem zv59 : zeroV Try.prog 59 = some (.slice none 0 0) := by kernel_rfl
theorem ze59 : zeroT Try.prog 59 = some [.slice none 0 0] := by kernel_rfl
theorem ag60 : aggT Try.prog 60 = some true := by kernel_rfl
theorem si60 : sizeT Try.prog 60 = 3 := by kernel_rfl
theorem sz60 : szT Try.prog 60 = some 3 := by kernel_rfl
theorem by60 : bytesT Try.prog 60 = 64 := by kernel_rfl
theorem str60 : structT Try.prog 60 = true := by kernel_rfl
theorem fi60_0 : fieldT Try.prog 60 0 = some (0, 58) := by kernel_rfl
theorem fi60_1 : fieldT Try.prog 60 1 = some (1, 9) := by kernel_rfl
theorem fi60_2 : fieldT Try.prog 60 2 = some (2, 59) := by kernel_rfl
theorem ze60 : zeroT Try.prog 60 = some [.slice none 0 0, .string ⟨#[]⟩, .slice none 0 0] := by kernel_rfl
theorem ag61 : aggT Try.prog 61 = some true := by kernel_rfl
theorem si61 : sizeT Try.prog 61 = 3 := by kernel_rfl
theorem sz61 : szT Try.prog 61 = some 3 := by kernel_rfl
theorem by61 : bytesT Try.prog 61 = 64 := by kernel_rfl
theorem str61 : structT Try.prog 61 = true := by kernel_rfl
theorem fi61_0 : fieldT Try.prog 61 0 = some (0, 58) := by kernel_rfl
theorem fi61_1 : fieldT Try.prog 61 1 = some (1, 9) := by kernel_rfl
theorem fi61_2 : fieldT Try.prog 61 2 = some (2, 59) := by kernel_rfl
theorem ze61 : zeroT Try.prog 61 = some [.slice none 0 0, .string ⟨#[]⟩, .slice none 0 0] := by kernel_rfl
theorem kt62 : kindT Try.prog 62 = some 3 := by kernel_rfl
theorem kt63 : kindT Try.prog 63 = some 3 := by kernel_rfl
theorem kt64 : kindT Try.prog 64 = some 3 := by kernel_rfl
theorem kt65 : kindT Try.prog 65 = some 3 := by kernel_rfl
theorem kt66 : kindT Try.prog 66 = some 3 := by kernel_rfl
theorem kt67 : kindT Try.prog 67 = some 3 := by kernel_rfl
theorem kt68 : kindT Try.prog 68 = some 3 := by kernel_rfl
theorem kt69 : kindT Try.prog 69 = some 3 := by kernel_rfl
theorem kt70 : kindT Try.prog 70 = some 3 := by kernel_rfl
theorem kt72 : kindT Try.prog 72 = some 3 := by kernel_rfl
theorem kt73 : kindT Try.prog 73 = some 3 := by kernel_rfl
theorem kt74 : kindT Try.prog 74 = some 3 := by kernel_rfl
theorem kt75 : kindT Try.prog 75 = some 3 := by kernel_rfl
theorem kt76 : kindT Try.prog 76 = some 3 := by kernel_rfl
theorem ag77 : aggT Try.prog 77 = some false := by kernel_rfl
theorem si77 : sizeT Try.prog 77 = 1 := by kernel_rfl
theorem sz77 : szT Try.prog 77 = some 1 := by kernel_rfl
theorem by77 : bytesT Try.prog 77 = 8 := by kernel_rfl
theorem kt77 : kindT Try.prog 77 = some 1 := by kernel_rfl
theorem zv77 : zeroV Try.prog 77 = some (.pointer none) := by kernel_rfl
theorem ze77 : zeroT Try.prog 77 = some [.pointer none] := by kernel_rfl
theorem kt78 : kindT Try.prog 78 = some 3 := by kernel_rfl
theorem kt79 : kindT Try.prog 79 = some 3 := by kernel_rfl
theorem kt80 : kindT Try.prog 80 = some 3 := by kernel_rfl
theorem ag81 : aggT Try.prog 81 = some true := by kernel_rfl
theorem si81 : sizeT Try.prog 81 = 2 := by kernel_rfl
theorem sz81 : szT Try.prog 81 = some 2 := by kernel_rfl
theorem by81 : bytesT Try.prog 81 = 16 := by kernel_rfl
theorem eq81 : eqT Try.prog 81 = some [(0, 0), (1, 0)] := by kernel_rfl
theorem str81 : structT Try.prog 81 = true := by kernel_rfl
theorem fi81_0 : fieldT Try.prog 81 0 = some (0, 2) := by kernel_rfl
theorem fi81_1 : fieldT Try.prog 81 1 = some (1, 2) := by kernel_rfl
theorem ze81 : zeroT Try.prog 81 = some [.int .i64 0, .int .i64 0] := by kernel_rfl
theorem ag82 : aggT Try.prog 82 = some true := by kernel_rfl
theorem si82 : sizeT Try.prog 82 = 2 := by kernel_rfl
theorem sz82 : szT Try.prog 82 = some 2 := by kernel_rfl
theorem by82 : bytesT Try.prog 82 = 16 := by kernel_rfl
theorem eq82 : eqT Try.prog 82 = some [(0, 0), (1, 0)] := by kernel_rfl
theorem str82 : structT Try.prog 82 = true := by kernel_rfl
theorem fi82_0 : fieldT Try.prog 82 0 = some (0, 2) := by kernel_rfl
theorem fi82_1 : fieldT Try.prog 82 1 = some (1, 2) := by kernel_rfl
theorem ze82 : zeroT Try.prog 82 = some [.int .i64 0, .int .i64 0] := by kernel_rfl
theorem kt83 : kindT Try.prog 83 = some 3 := by kernel_rfl
theorem kt84 : kindT Try.prog 84 = some 3 := by kernel_rfl
theorem kt85 : kindT Try.prog 85 = some 3 := by kernel_rfl
theorem kt86 : kindT Try.prog 86 = some 3 := by kernel_rfl
theorem kt87 : kindT Try.prog 87 = some 3 := by kernel_rfl
theorem ag88 : aggT Try.prog 88 = some true := by kernel_rfl
theorem si88 : sizeT Try.prog 88 = 3 := by kernel_rfl
theorem sz88 : szT Try.prog 88 = some 3 := by kernel_rfl
theorem by88 : bytesT Try.prog 88 = 40 := by kernel_rfl
theorem str88 : structT Try.prog 88 = true := by kernel_rfl
theorem fi88_0 : fieldT Try.prog 88 0 = some (0, 22) := by kernel_rfl
theorem fi88_1 : fieldT Try.prog 88 1 = some (1, 3) := by kernel_rfl
theorem fi88_2 : fieldT Try.prog 88 2 = some (2, 34) := by kernel_rfl
theorem ze88 : zeroT Try.prog 88 = some [.slice none 0 0, .int .i64 0, .int .u64 0] := by kernel_rfl
theorem ag89 : aggT Try.prog 89 = some true := by kernel_rfl
theorem si89 : sizeT Try.prog 89 = 3 := by kernel_rfl
theorem sz89 : szT Try.prog 89 = some 3 := by kernel_rfl
theorem by89 : bytesT Try.prog 89 = 40 := by kernel_rfl
theorem str89 : structT Try.prog 89 = true := by kernel_rfl
theorem fi89_0 : fieldT Try.prog 89 0 = some (0, 22) := by kernel_rfl
theorem fi89_1 : fieldT Try.prog 89 1 = some (1, 3) := by kernel_rfl
theorem fi89_2 : fieldT Try.prog 89 2 = some (2, 34) := by kernel_rfl
theorem ze89 : zeroT Try.prog 89 = some [.slice none 0 0, .int .i64 0, .int .u64 0] := by kernel_rfl
theorem ag90 : aggT Try.prog 90 = some false := by kernel_rfl
theorem si90 : sizeT Try.prog 90 = 1 := by kernel_rfl
theorem sz90 : szT Try.prog 90 = some 1 := by kernel_rfl
theorem by90 : bytesT Try.prog 90 = 8 := by kernel_rfl
theorem in90 : intT Try.prog 90 = some .u64 := by kernel_rfl
theorem zv90 : zeroV Try.prog 90 = some (.int .u64 0) := by kernel_rfl
theorem ze90 : zeroT Try.prog 90 = some [.int .u64 0] := by kernel_rfl
theorem kt91 : kindT Try.prog 91 = some 3 := by kernel_rfl
theorem kt92 : kindT Try.prog 92 = some 3 := by kernel_rfl
theorem kt93 : kindT Try.prog 93 = some 3 := by kernel_rfl
theorem kt94 : kindT Try.prog 94 = some 3 := by kernel_rfl
theorem ag95 : aggT Try.prog 95 = some true := by kernel_rfl
theorem si95 : sizeT Try.prog 95 = 2 := by kernel_rfl
theorem sz95 : szT Try.prog 95 = some 2 := by kernel_rfl
theorem by95 : bytesT Try.prog 95 = 48 := by kernel_rfl
theorem str95 : structT Try.prog 95 = true := by kernel_rfl
theorem fi95_0 : fieldT Try.prog 95 0 = some (0, 52) := by kernel_rfl
theorem fi95_1 : fieldT Try.prog 95 1 = some (1, 52) := by kernel_rfl
theorem ze95 : zeroT Try.prog 95 = some [.slice none 0 0, .slice none 0 0] := by kernel_rfl
theorem ag96 : aggT Try.prog 96 = some true := by kernel_rfl
theorem si96 : sizeT Try.prog 96 = 2 := by kernel_rfl
theorem sz96 : szT Try.prog 96 = some 2 := by kernel_rfl
theorem by96 : bytesT Try.prog 96 = 48 := by kernel_rfl
theorem str96 : structT Try.prog 96 = true := by kernel_rfl
theorem fi96_0 : fieldT Try.prog 96 0 = some (0, 52) := by kernel_rfl
theorem fi96_1 : fieldT Try.prog 96 1 = some (1, 52) := by kernel_rfl
theorem ze96 : zeroT Try.prog 96 = some [.slice none 0 0, .slice none 0 0] := by kernel_rfl
theorem kt97 : kindT Try.prog 97 = some 3 := by kernel_rfl
theorem kt98 : kindT Try.prog 98 = some 3 := by kernel_rfl
theorem kt99 : kindT Try.prog 99 = some 3 := by kernel_rfl
theorem kt100 : kindT Try.prog 100 = some 3 := by kernel_rfl
theorem kt101 : kindT Try.prog 101 = some 3 := by kernel_rfl
theorem kt102 : kindT Try.prog 102 = some 3 := by kernel_rfl
theorem kt103 : kindT Try.prog 103 = some 3 := by kernel_rfl
theorem kt104 : kindT Try.prog 104 = some 3 := by kernel_rfl
theorem kt105 : kindT Try.prog 105 = some 3 := by kernel_rfl
theorem kt106 : kindT Try.prog 106 = some 3 := by kernel_rfl
theorem kt107 : kindT Try.prog 107 = some 3 := by kernel_rfl
theorem kt108 : kindT Try.prog 108 = some 3 := by kernel_rfl
theorem kt109 : kindT Try.prog 109 = some 3 := by kernel_rfl
theorem kt110 : kindT Try.prog 110 = some 3 := by kernel_rfl
theorem kt111 : kindT Try.prog 111 = some 3 := by kernel_rfl
theorem kt112 : kindT Try.prog 112 = some 3 := by kernel_rfl
theorem ag113 : aggT Try.prog 113 = some true := by kernel_rfl
theorem si113 : sizeT Try.prog 113 = 3 := by kernel_rfl
theorem sz113 : szT Try.prog 113 = some 3 := by kernel_rfl
theorem by113 : bytesT Try.prog 113 = 40 := by kernel_rfl
theorem str113 : structT Try.prog 113 = true := by kernel_rfl
theorem fi113_0 : fieldT Try.prog 113 0 = some (0, 22) := by kernel_rfl
theorem fi113_1 : fieldT Try.prog 113 1 = some (1, 3) := by kernel_rfl
theorem fi113_2 : fieldT Try.prog 113 2 = some (2, 2) := by kernel_rfl
theorem ze113 : zeroT Try.prog 113 = some [.slice none 0 0, .int .i64 0, .int .i64 0] := by kernel_rfl
theorem ag114 : aggT Try.prog 114 = some true := by kernel_rfl
theorem si114 : sizeT Try.prog 114 = 3 := by kernel_rfl
theorem sz114 : szT Try.prog 114 = some 3 := by kernel_rfl
theorem by114 : bytesT Try.prog 114 = 40 := by kernel_rfl
theorem str114 : structT Try.prog 114 = true := by kernel_rfl
theorem fi114_0 : fieldT Try.prog 114 0 = some (0, 22) := by kernel_rfl
theorem fi114_1 : fieldT Try.prog 114 1 = some (1, 3) := by kernel_rfl
theorem fi114_2 : fieldT Try.prog 114 2 = some (2, 2) := by kernel_rfl
theorem ze114 : zeroT Try.prog 114 = some [.slice none 0 0, .int .i64 0, .int .i64 0] := by kernel_rfl
theorem kt115 : kindT Try.prog 115 = some 3 := by kernel_rfl
theorem kt116 : kindT Try.prog 116 = some 3 := by kernel_rfl
theorem kt117 : kindT Try.prog 117 = some 3 := by kernel_rfl
theorem kt118 : kindT Try.prog 118 = some 3 := by kernel_rfl
theorem kt119 : kindT Try.prog 119 = some 3 := by kernel_rfl
theorem kt120 : kindT Try.prog 120 = some 3 := by kernel_rfl
theorem kt121 : kindT Try.prog 121 = some 3 := by kernel_rfl
theorem kt122 : kindT Try.prog 122 = some 3 := by kernel_rfl
theorem kt123 : kindT Try.prog 123 = some 3 := by kernel_rfl
theorem ag124 : aggT Try.prog 124 = some false := by kernel_rfl
theorem el124 : elemT Try.prog 124 = some 9 := by kernel_rfl
theorem si124 : sizeT Try.prog 124 = 1 := by kernel_rfl
theorem sz124 : szT Try.prog 124 = some 1 := by kernel_rfl
theorem by124 : bytesT Try.prog 124 = 24 := by kernel_rfl
theorem kt124 : kindT Try.prog 124 = some 0 := by kernel_rfl
theorem zv124 : zeroV Try.prog 124 = some (.slice none 0 0) := by kernel_rfl
theorem ze124 : zeroT Try.prog 124 = some [.slice none 0 0] := by kernel_rfl
theorem kt125 : kindT Try.prog 125 = some 3 := by kernel_rfl
theorem kt126 : kindT Try.prog 126 = some 3 := by kernel_rfl
theorem kt127 : kindT Try.prog 127 = some 3 := by kernel_rfl
theorem ag128 : aggT Try.prog 128 = some false := by kernel_rfl
theorem el128 : elemT Try.prog 128 = some 148 := by kernel_rfl
theorem si128 : sizeT Try.prog 128 = 1 := by kernel_rfl
theorem sz128 : szT Try.prog 128 = some 1 := by kernel_rfl
theorem by128 : bytesT Try.prog 128 = 24 := by kernel_rfl
theorem kt128 : kindT Try.prog 128 = some 0 := by kernel_rfl
theorem zv128 : zeroV Try.prog 128 = some (.slice none 0 0) := by kernel_rfl
theorem ze128 : zeroT Try.prog 128 = some [.slice none 0 0] := by kernel_rfl
theorem kt129 : kindT Try.prog 129 = some 3 := by kernel_rfl
theorem ag130 : aggT Try.prog 130 = some true := by kernel_rfl
theorem si130 : sizeT Try.prog 130 = 2 := by kernel_rfl
theorem sz130 : szT Try.prog 130 = some 2 := by kernel_rfl
theorem by130 : bytesT Try.prog 130 = 16 := by kernel_rfl
theorem eq130 : eqT Try.prog 130 = some [(0, 0), (1, 0)] := by kernel_rfl
theorem str130 : structT Try.prog 130 = true := by kernel_rfl
theorem fi130_0 : fieldT Try.prog 130 0 = some (0, 2) := by kernel_rfl
theorem fi130_1 : fieldT Try.prog 130 1 = some (1, 2) := by kernel_rfl
theorem ze130 : zeroT Try.prog 130 = some [.int .i64 0, .int .i64 0] := by kernel_rfl
theorem kt131 : kindT Try.prog 131 = some 3 := by kernel_rfl
theorem kt132 : kindT Try.prog 132 = some 3 := by kernel_rfl
theorem kt133 : kindT Try.prog 133 = some 3 := by kernel_rfl
theorem kt134 : kindT Try.prog 134 = some 3 := by kernel_rfl
theorem kt135 : kindT Try.prog 135 = some 3 := by kernel_rfl
theorem kt136 : kindT Try.prog 136 = some 3 := by kernel_rfl
theorem kt137 : kindT Try.prog 137 = some 3 := by kernel_rfl
theorem kt138 : kindT Try.prog 138 = some 3 := by kernel_rfl
theorem kt139 : kindT Try.prog 139 = some 3 := by kernel_rfl
theorem kt140 : kindT Try.prog 140 = some 3 := by kernel_rfl
theorem kt141 : kindT Try.prog 141 = some 3 := by kernel_rfl
theorem kt142 : kindT Try.prog 142 = some 3 := by kernel_rfl
theorem kt143 : kindT Try.prog 143 = some 3 := by kernel_rfl
theorem kt144 : kindT Try.prog 144 = some 3 := by kernel_rfl
theorem kt145 : kindT Try.prog 145 = some 3 := by kernel_rfl
theorem kt146 : kindT Try.prog 146 = some 3 := by kernel_rfl
theorem kt147 : kindT Try.prog 147 = some 3 := by kernel_rfl
theorem ag148 : aggT Try.prog 148 = some true := by kernel_rfl
theorem si148 : sizeT Try.prog 148 = 2 := by kernel_rfl
theorem sz148 : szT Try.prog 148 = some 2 := by kernel_rfl
theorem by148 : bytesT Try.prog 148 = 48 := by kernel_rfl
theorem str148 : structT Try.prog 148 = true := by kernel_rfl
theorem fi148_0 : fieldT Try.prog 148 0 = some (0, 52) := by kernel_rfl
theorem fi148_1 : fieldT Try.prog 148 1 = some (1, 52) := by kernel_rfl
theorem ze148 : zeroT Try.prog 148 = some [.slice none 0 0, .slice none 0 0] := by kernel_rfl
theorem kt149 : kindT Try.prog 149 = some 3 := by kernel_rfl
theorem kt150 : kindT Try.prog 150 = some 3 := by kernel_rfl
theorem kt151 : kindT Try.prog 151 = some 3 := by kernel_rfl
theorem ag152 : aggT Try.prog 152 = some false := by kernel_rfl
theorem el152 : elemT Try.prog 152 = some 4 := by kernel_rfl
theorem si152 : sizeT Try.prog 152 = 1 := by kernel_rfl
theorem sz152 : szT Try.prog 152 = some 1 := by kernel_rfl
theorem by152 : bytesT Try.prog 152 = 24 := by kernel_rfl
theorem kt152 : kindT Try.prog 152 = some 0 := by kernel_rfl
theorem zv152 : zeroV Try.prog 152 = some (.slice none 0 0) := by kernel_rfl
theorem ze152 : zeroT Try.prog 152 = some [.slice none 0 0] := by kernel_rfl
theorem kt153 : kindT Try.prog 153 = some 3 := by kernel_rfl
theorem kt154 : kindT Try.prog 154 = some 3 := by kernel_rfl
theorem kt155 : kindT Try.prog 155 = some 3 := by kernel_rfl
theorem kt156 : kindT Try.prog 156 = some 3 := by kernel_rfl
theorem kt157 : kindT Try.prog 157 = some 3 := by kernel_rfl
theorem kt158 : kindT Try.prog 158 = some 3 := by kernel_rfl
theorem ag159 : aggT Try.prog 159 = some false := by kernel_rfl
theorem si159 : sizeT Try.prog 159 = 1 := by kernel_rfl
theorem sz159 : szT Try.prog 159 = some 1 := by kernel_rfl
theorem by159 : bytesT Try.prog 159 = 8 := by kernel_rfl
theorem in159 : intT Try.prog 159 = some .i64 := by kernel_rfl
theorem zv159 : zeroV Try.prog 159 = some (.int .i64 0) := by kernel_rfl
theorem ze159 : zeroT Try.prog 159 = some [.int .i64 0] := by kernel_rfl
theorem kt161 : kindT Try.prog 161 = some 3 := by kernel_rfl
theorem kt162 : kindT Try.prog 162 = some 3 := by kernel_rfl
theorem kt163 : kindT Try.prog 163 = some 3 := by kernel_rfl
theorem kt164 : kindT Try.prog 164 = some 3 := by kernel_rfl
theorem kt166 : kindT Try.prog 166 = some 3 := by kernel_rfl
theorem kt167 : kindT Try.prog 167 = some 3 := by kernel_rfl
theorem ag168 : aggT Try.prog 168 = some false := by kernel_rfl
theorem si168 : sizeT Try.prog 168 = 1 := by kernel_rfl
theorem sz168 : szT Try.prog 168 = some 1 := by kernel_rfl
theorem by168 : bytesT Try.prog 168 = 4 := by kernel_rfl
theorem in168 : intT Try.prog 168 = some .u32 := by kernel_rfl
theorem zv168 : zeroV Try.prog 168 = some (.int .u32 0) := by kernel_rfl
theorem ze168 : zeroT Try.prog 168 = some [.int .u32 0] := by kernel_rfl
theorem kt169 : kindT Try.prog 169 = some 3 := by kernel_rfl
theorem ag170 : aggT Try.prog 170 = some false := by kernel_rfl
theorem si170 : sizeT Try.prog 170 = 1 := by kernel_rfl
theorem sz170 : szT Try.prog 170 = some 1 := by kernel_rfl
theorem by170 : bytesT Try.prog 170 = 8 := by kernel_rfl
theorem in170 : intT Try.prog 170 = some .u64 := by kernel_rfl
theorem zv170 : zeroV Try.prog 170 = some (.int .u64 0) := by kernel_rfl
theorem ze170 : zeroT Try.prog 170 = some [.int .u64 0] := by kernel_rfl
theorem kt171 : kindT Try.prog 171 = some 3 := by kernel_rfl
theorem kt172 : kindT Try.prog 172 = some 3 := by kernel_rfl
theorem kt173 : kindT Try.prog 173 = some 3 := by kernel_rfl
theorem ag174 : aggT Try.prog 174 = some false := by kernel_rfl
theorem si174 : sizeT Try.prog 174 = 1 := by kernel_rfl
theorem sz174 : szT Try.prog 174 = some 1 := by kernel_rfl
theorem by174 : bytesT Try.prog 174 = 8 := by kernel_rfl
theorem kt174 : kindT Try.prog 174 = some 1 := by kernel_rfl
theorem zv174 : zeroV Try.prog 174 = some (.pointer none) := by kernel_rfl
theorem ze174 : zeroT Try.prog 174 = some [.pointer none] := by kernel_rfl
theorem kt175 : kindT Try.prog 175 = some 3 := by kernel_rfl
theorem ag176 : aggT Try.prog 176 = some false := by kernel_rfl
theorem si176 : sizeT Try.prog 176 = 1 := by kernel_rfl
theorem sz176 : szT Try.prog 176 = some 1 := by kernel_rfl
theorem by176 : bytesT Try.prog 176 = 8 := by kernel_rfl
theorem kt176 : kindT Try.prog 176 = some 1 := by kernel_rfl
theorem zv176 : zeroV Try.prog 176 = some (.pointer none) := by kernel_rfl
theorem ze176 : zeroT Try.prog 176 = some [.pointer none] := by kernel_rfl
theorem kt178 : kindT Try.prog 178 = some 3 := by kernel_rfl
theorem kt179 : kindT Try.prog 179 = some 3 := by kernel_rfl
theorem ag180 : aggT Try.prog 180 = some true := by kernel_rfl
theorem si180 : sizeT Try.prog 180 = 4 := by kernel_rfl
theorem sz180 : szT Try.prog 180 = some 4 := by kernel_rfl
theorem by180 : bytesT Try.prog 180 = 40 := by kernel_rfl
theorem str180 : structT Try.prog 180 = true := by kernel_rfl
theorem fi180_0 : fieldT Try.prog 180 0 = some (0, 17) := by kernel_rfl
theorem fi180_1 : fieldT Try.prog 180 1 = some (1, 17) := by kernel_rfl
theorem fi180_2 : fieldT Try.prog 180 2 = some (2, 17) := by kernel_rfl
theorem fi180_3 : fieldT Try.prog 180 3 = some (3, 9) := by kernel_rfl
theorem ze180 : zeroT Try.prog 180 = some [.pointer none, .pointer none, .pointer none, .string ⟨#[]⟩] := by kernel_rfl
theorem ag181 : aggT Try.prog 181 = some true := by kernel_rfl
theorem si181 : sizeT Try.prog 181 = 4 := by kernel_rfl
theorem sz181 : szT Try.prog 181 = some 4 := by kernel_rfl
theorem by181 : bytesT Try.prog 181 = 40 := by kernel_rfl
theorem str181 : structT Try.prog 181 = true := by kernel_rfl
theorem fi181_0 : fieldT Try.prog 181 0 = some (0, 17) := by kernel_rfl
theorem fi181_1 : fieldT Try.prog 181 1 = some (1, 17) := by kernel_rfl
theorem fi181_2 : fieldT Try.prog 181 2 = some (2, 17) := by kernel_rfl
theorem fi181_3 : fieldT Try.prog 181 3 = some (3, 9) := by kernel_rfl
theorem ze181 : zeroT Try.prog 181 = some [.pointer none, .pointer none, .pointer none, .string ⟨#[]⟩] := by kernel_rfl
theorem ag182 : aggT Try.prog 182 = some true := by kernel_rfl
theorem si182 : sizeT Try.prog 182 = 0 := by kernel_rfl
theorem sz182 : szT Try.prog 182 = some 0 := by kernel_rfl
theorem by182 : bytesT Try.prog 182 = 0 := by kernel_rfl
theorem ag183 : aggT Try.prog 183 = some true := by kernel_rfl
theorem si183 : sizeT Try.prog 183 = 0 := by kernel_rfl
theorem sz183 : szT Try.prog 183 = some 0 := by kernel_rfl
theorem by183 : bytesT Try.prog 183 = 0 := by kernel_rfl
theorem str183 : structT Try.prog 183 = true := by kernel_rfl
theorem ag184 : aggT Try.prog 184 = some true := by kernel_rfl
theorem si184 : sizeT Try.prog 184 = 0 := by kernel_rfl
theorem sz184 : szT Try.prog 184 = some 0 := by kernel_rfl
theorem by184 : bytesT Try.prog 184 = 0 := by kernel_rfl
theorem str184 : structT Try.prog 184 = true := by kernel_rfl
theorem kt185 : kindT Try.prog 185 = some 3 := by kernel_rfl
theorem ag186 : aggT Try.prog 186 = some false := by kernel_rfl
theorem si186 : sizeT Try.prog 186 = 1 := by kernel_rfl
theorem sz186 : szT Try.prog 186 = some 1 := by kernel_rfl
theorem by186 : bytesT Try.prog 186 = 1 := by kernel_rfl
theorem in186 : intT Try.prog 186 = some .u8 := by kernel_rfl
theorem zv186 : zeroV Try.prog 186 = some (.int .u8 0) := by kernel_rfl
theorem ze186 : zeroT Try.prog 186 = some [.int .u8 0] := by kernel_rfl
theorem ag187 : aggT Try.prog 187 = some false := by kernel_rfl
theorem si187 : sizeT Try.prog 187 = 1 := by kernel_rfl
theorem sz187 : szT Try.prog 187 = some 1 := by kernel_rfl
theorem by187 : bytesT Try.prog 187 = 1 := by kernel_rfl
theorem in187 : intT Try.prog 187 = some .u8 := by kernel_rfl
theorem zv187 : zeroV Try.prog 187 = some (.int .u8 0) := by kernel_rfl
theorem ze187 : zeroT Try.prog 187 = some [.int .u8 0] := by kernel_rfl
theorem kt188 : kindT Try.prog 188 = some 3 := by kernel_rfl
theorem ag189 : aggT Try.prog 189 = some false := by kernel_rfl
theorem si189 : sizeT Try.prog 189 = 1 := by kernel_rfl
theorem sz189 : szT Try.prog 189 = some 1 := by kernel_rfl
theorem by189 : bytesT Try.prog 189 = 8 := by kernel_rfl
theorem kt189 : kindT Try.prog 189 = some 1 := by kernel_rfl
theorem zv189 : zeroV Try.prog 189 = some (.pointer none) := by kernel_rfl
theorem ze189 : zeroT Try.prog 189 = some [.pointer none] := by kernel_rfl
theorem ag190 : aggT Try.prog 190 = some false := by kernel_rfl
theorem si190 : sizeT Try.prog 190 = 1 := by kernel_rfl
theorem sz190 : szT Try.prog 190 = some 1 := by kernel_rfl
theorem by190 : bytesT Try.prog 190 = 4 := by kernel_rfl
theorem in190 : intT Try.prog 190 = some .i32 := by kernel_rfl
theorem zv190 : zeroV Try.prog 190 = some (.int .i32 0) := by kernel_rfl
theorem ze190 : zeroT Try.prog 190 = some [.int .i32 0] := by kernel_rfl
theorem ag191 : aggT Try.prog 191 = some false := by kernel_rfl
theorem si191 : sizeT Try.prog 191 = 1 := by kernel_rfl
theorem sz191 : szT Try.prog 191 = some 1 := by kernel_rfl
theorem by191 : bytesT Try.prog 191 = 4 := by kernel_rfl
theorem in191 : intT Try.prog 191 = some .i32 := by kernel_rfl
theorem zv191 : zeroV Try.prog 191 = some (.int .i32 0) := by kernel_rfl
theorem ze191 : zeroT Try.prog 191 = some [.int .i32 0] := by kernel_rfl
theorem ag192 : aggT Try.prog 192 = some true := by kernel_rfl
theorem si192 : sizeT Try.prog 192 = 11 := by kernel_rfl
theorem sz192 : szT Try.prog 192 = some 11 := by kernel_rfl
theorem by192 : bytesT Try.prog 192 = 48 := by kernel_rfl
theorem str192 : structT Try.prog 192 = true := by kernel_rfl
theorem fi192_0 : fieldT Try.prog 192 0 = some (0, 12) := by kernel_rfl
theorem fi192_1 : fieldT Try.prog 192 1 = some (1, 12) := by kernel_rfl
theorem fi192_2 : fieldT Try.prog 192 2 = some (2, 168) := by kernel_rfl
theorem fi192_3 : fieldT Try.prog 192 3 = some (3, 186) := by kernel_rfl
theorem fi192_4 : fieldT Try.prog 192 4 = some (4, 5) := by kernel_rfl
theorem fi192_5 : fieldT Try.prog 192 5 = some (5, 5) := by kernel_rfl
theorem fi192_6 : fieldT Try.prog 192 6 = some (6, 187) := by kernel_rfl
theorem fi192_7 : fieldT Try.prog 192 7 = some (7, 188) := by kernel_rfl
theorem fi192_8 : fieldT Try.prog 192 8 = some (8, 189) := by kernel_rfl
theorem fi192_9 : fieldT Try.prog 192 9 = some (9, 190) := by kernel_rfl
theorem fi192_10 : fieldT Try.prog 192 10 = some (10, 191) := by kernel_rfl
theorem ag193 : aggT Try.prog 193 = some true := by kernel_rfl
theorem si193 : sizeT Try.prog 193 = 11 := by kernel_rfl
theorem sz193 : szT Try.prog 193 = some 11 := by kernel_rfl
theorem by193 : bytesT Try.prog 193 = 48 := by kernel_rfl
theorem str193 : structT Try.prog 193 = true := by kernel_rfl
theorem fi193_0 : fieldT Try.prog 193 0 = some (0, 12) := by kernel_rfl
theorem fi193_1 : fieldT Try.prog 193 1 = some (1, 12) := by kernel_rfl
theorem fi193_2 : fieldT Try.prog 193 2 = some (2, 168) := by kernel_rfl
theorem fi193_3 : fieldT Try.prog 193 3 = some (3, 186) := by kernel_rfl
theorem fi193_4 : fieldT Try.prog 193 4 = some (4, 5) := by kernel_rfl
theorem fi193_5 : fieldT Try.prog 193 5 = some (5, 5) := by kernel_rfl
theorem fi193_6 : fieldT Try.prog 193 6 = some (6, 187) := by kernel_rfl
theorem fi193_7 : fieldT Try.prog 193 7 = some (7, 188) := by kernel_rfl
theorem fi193_8 : fieldT Try.prog 193 8 = some (8, 189) := by kernel_rfl
theorem fi193_9 : fieldT Try.prog 193 9 = some (9, 190) := by kernel_rfl
theorem fi193_10 : fieldT Try.prog 193 10 = some (10, 191) := by kernel_rfl
theorem tyF : type_of% (And.intro (And.intro (And.intro (And.intro (And.intro (And.intro (And.intro (And.intro (And.intro (kt1) (ag2)) (And.intro (si2) (And.intro (sz2) (by2))))
  (And.intro (And.intro (in2) (zv2)) (And.intro (ze2) (And.intro (ag3) (si3))))) (And.intro (And.intro (And.intro (sz3) (by3)) (And.intro (in3) (And.intro (zv3) (ze3)))) (And.intro
  (And.intro (ag4) (And.intro (si4) (sz4))) (And.intro (by4) (And.intro (bo4) (zv4)))))) (And.intro (And.intro (And.intro (And.intro (ze4) (ag5)) (And.intro (si5) (And.intro (sz5)
  (by5)))) (And.intro (And.intro (in5) (zv5)) (And.intro (ze5) (And.intro (ag6) (si6))))) (And.intro (And.intro (And.intro (sz6) (by6)) (And.intro (in6) (And.intro (zv6) (ze6))))
  (And.intro (And.intro (ag7) (And.intro (si7) (sz7))) (And.intro (by7) (And.intro (str7) (fi7_0))))))) (And.intro (And.intro (And.intro (And.intro (And.intro (fi7_1) (fi7_2))
  (And.intro (fi7_3) (And.intro (ze7) (ag8)))) (And.intro (And.intro (si8) (sz8)) (And.intro (by8) (And.intro (str8) (fi8_0))))) (And.intro (And.intro (And.intro (fi8_1) (fi8_2))
  (And.intro (fi8_3) (And.intro (ze8) (ag9)))) (And.intro (And.intro (si9) (And.intro (sz9) (by9))) (And.intro (st9) (And.intro (zv9) (ze9)))))) (And.intro (And.intro (And.intro
  (And.intro (ag10) (si10)) (And.intro (sz10) (And.intro (by10) (st10)))) (And.intro (And.intro (zv10) (ze10)) (And.intro (ag11) (And.intro (si11) (sz11))))) (And.intro (And.intro
  (And.intro (by11) (st11)) (And.intro (zv11) (And.intro (ze11) (ag12)))) (And.intro (And.intro (si12) (And.intro (sz12) (by12))) (And.intro (in12) (And.intro (zv12) (ze12))))))))
  (And.intro (And.intro (And.intro (And.intro (And.intro (And.intro (ag13) (si13)) (And.intro (sz13) (And.intro (by13) (str13)))) (And.intro (And.intro (fi13_0) (fi13_1)) (And.intro
  (ze13) (And.intro (ag14) (si14))))) (And.intro (And.intro (And.intro (sz14) (by14)) (And.intro (str14) (And.intro (fi14_0) (fi14_1)))) (And.intro (And.intro (ze14) (And.intro
  (ag15) (si15))) (And.intro (sz15) (And.intro (by15) (kt15)))))) (And.intro (And.intro (And.intro (And.intro (zv15) (ze15)) (And.intro (ag16) (And.intro (si16) (sz16)))) (And.intro
  (And.intro (by16) (kt16)) (And.intro (zv16) (And.intro (ze16) (ag17))))) (And.intro (And.intro (And.intro (si17) (sz17)) (And.intro (by17) (And.intro (kt17) (zv17)))) (And.intro
  (And.intro (ze17) (And.intro (ag18) (si18))) (And.intro (sz18) (And.intro (by18) (str18))))))) (And.intro (And.intro (And.intro (And.intro (And.intro (fi18_0) (ze18)) (And.intro
  (ag19) (And.intro (si19) (sz19)))) (And.intro (And.intro (by19) (str19)) (And.intro (fi19_0) (And.intro (ze19) (kt20))))) (And.intro (And.intro (And.intro (ag21) (si21))
  (And.intro (sz21) (And.intro (by21) (in21)))) (And.intro (And.intro (zv21) (And.intro (ze21) (ag22))) (And.intro (el22) (And.intro (si22) (sz22)))))) (And.intro (And.intro
  (And.intro (And.intro (by22) (kt22)) (And.intro (zv22) (And.intro (ze22) (kt23)))) (And.intro (And.intro (ag24) (el24)) (And.intro (si24) (And.intro (sz24) (by24))))) (And.intro
  (And.intro (And.intro (kt24) (zv24)) (And.intro (ze24) (And.intro (ag25) (el25)))) (And.intro (And.intro (si25) (And.intro (sz25) (by25))) (And.intro (kt25) (And.intro (zv25)
  (ze25))))))))) (And.intro (And.intro (And.intro (And.intro (And.intro (And.intro (And.intro (ag26) (si26)) (And.intro (sz26) (And.intro (by26) (str26)))) (And.intro (And.intro
  (fi26_0) (fi26_1)) (And.intro (fi26_2) (And.intro (ze26) (ag27))))) (And.intro (And.intro (And.intro (si27) (sz27)) (And.intro (by27) (And.intro (str27) (fi27_0)))) (And.intro
  (And.intro (fi27_1) (And.intro (fi27_2) (ze27))) (And.intro (kt28) (And.intro (ag29) (el29)))))) (And.intro (And.intro (And.intro (And.intro (si29) (sz29)) (And.intro (by29)
  (And.intro (kt29) (zv29)))) (And.intro (And.intro (ze29) (kt30)) (And.intro (kt31) (And.intro (ag32) (si32))))) (And.intro (And.intro (And.intro (sz32) (by32)) (And.intro (kt32)
  (And.intro (zv32) (ze32)))) (And.intro (And.intro (kt33) (And.intro (ag34) (si34))) (And.intro (sz34) (And.intro (by34) (in34))))))) (And.intro (And.intro (And.intro (And.intro
  (And.intro (zv34) (ze34)) (And.intro (ag35) (And.intro (el35) (si35)))) (And.intro (And.intro (sz35) (by35)) (And.intro (kt35) (And.intro (zv35) (ze35))))) (And.intro (And.intro
  (And.intro (kt36) (kt37)) (And.intro (kt39) (And.intro (kt40) (ag41)))) (And.intro (And.intro (si41) (And.intro (sz41) (by41))) (And.intro (eq41) (And.intro (str41) (fi41_0))))))
  (And.intro (And.intro (And.intro (And.intro (fi41_1) (ze41)) (And.intro (ag42) (And.intro (si42) (sz42)))) (And.intro (And.intro (by42) (eq42)) (And.intro (str42) (And.intro
  (fi42_0) (fi42_1))))) (And.intro (And.intro (And.intro (ze42) (kt43)) (And.intro (kt45) (And.intro (ag46) (el46)))) (And.intro (And.intro (si46) (And.intro (sz46) (by46)))
  (And.intro (kt46) (And.intro (zv46) (ze46)))))))) (And.intro (And.intro (And.intro (And.intro (And.intro (And.intro (ag47) (si47)) (And.intro (sz47) (And.intro (by47) (str47))))
  (And.intro (And.intro (fi47_0) (fi47_1)) (And.intro (fi47_2) (And.intro (ze47) (ag48))))) (And.intro (And.intro (And.intro (si48) (sz48)) (And.intro (by48) (And.intro (str48)
  (fi48_0)))) (And.intro (And.intro (fi48_1) (And.intro (fi48_2) (ze48))) (And.intro (kt50) (And.intro (kt51) (ag52)))))) (And.intro (And.intro (And.intro (And.intro (el52) (si52))
  (And.intro (sz52) (And.intro (by52) (kt52)))) (And.intro (And.intro (zv52) (ze52)) (And.intro (kt54) (And.intro (kt55) (kt56))))) (And.intro (And.intro (And.intro (kt57) (ag58))
  (And.intro (el58) (And.intro (si58) (sz58)))) (And.intro (And.intro (by58) (And.intro (kt58) (zv58))) (And.intro (ze58) (And.intro (ag59) (el59))))))) (And.intro (And.intro
  (And.intro (And.intro (And.intro (si59) (sz59)) (And.intro (by59) (And.intro (kt59) (zv59)))) (And.intro (And.intro (ze59) (ag60)) (And.intro (si60) (And.intro (sz60) (by60)))))
  (And.intro (And.intro (And.intro (str60) (fi60_0)) (And.intro (fi60_1) (And.intro (fi60_2) (ze60)))) (And.intro (And.intro (ag61) (And.intro (si61) (sz61))) (And.intro (by61)
  (And.intro (str61) (fi61_0)))))) (And.intro (And.intro (And.intro (And.intro (fi61_1) (fi61_2)) (And.intro (ze61) (And.intro (kt62) (kt63)))) (And.intro (And.intro (kt64)
  (And.intro (kt65) (kt66))) (And.intro (kt67) (And.intro (kt68) (kt69))))) (And.intro (And.intro (And.intro (kt70) (kt72)) (And.intro (kt73) (And.intro (kt74) (kt75)))) (And.intro
  (And.intro (kt76) (And.intro (ag77) (si77))) (And.intro (sz77) (And.intro (by77) (kt77)))))))))) (And.intro (And.intro (And.intro (And.intro (And.intro (And.intro (And.intro
  (And.intro (zv77) (ze77)) (And.intro (kt78) (And.intro (kt79) (kt80)))) (And.intro (And.intro (ag81) (si81)) (And.intro (sz81) (And.intro (by81) (eq81))))) (And.intro (And.intro
  (And.intro (str81) (fi81_0)) (And.intro (fi81_1) (And.intro (ze81) (ag82)))) (And.intro (And.intro (si82) (And.intro (sz82) (by82))) (And.intro (eq82) (And.intro (str82)
  (fi82_0)))))) (And.intro (And.intro (And.intro (And.intro (fi82_1) (ze82)) (And.intro (kt83) (And.intro (kt84) (kt85)))) (And.intro (And.intro (kt86) (kt87)) (And.intro (ag88)
  (And.intro (si88) (sz88))))) (And.intro (And.intro (And.intro (by88) (str88)) (And.intro (fi88_0) (And.intro (fi88_1) (fi88_2)))) (And.intro (And.intro (ze88) (And.intro (ag89)
  (si89))) (And.intro (sz89) (And.intro (by89) (str89))))))) (And.intro (And.intro (And.intro (And.intro (And.intro (fi89_0) (fi89_1)) (And.intro (fi89_2) (And.intro (ze89)
  (ag90)))) (And.intro (And.intro (si90) (sz90)) (And.intro (by90) (And.intro (in90) (zv90))))) (And.intro (And.intro (And.intro (ze90) (kt91)) (And.intro (kt92) (And.intro (kt93)
  (kt94)))) (And.intro (And.intro (ag95) (And.intro (si95) (sz95))) (And.intro (by95) (And.intro (str95) (fi95_0)))))) (And.intro (And.intro (And.intro (And.intro (fi95_1) (ze95))
  (And.intro (ag96) (And.intro (si96) (sz96)))) (And.intro (And.intro (by96) (str96)) (And.intro (fi96_0) (And.intro (fi96_1) (ze96))))) (And.intro (And.intro (And.intro (kt97)
  (kt98)) (And.intro (kt99) (And.intro (kt100) (kt101)))) (And.intro (And.intro (kt102) (And.intro (kt103) (kt104))) (And.intro (kt105) (And.intro (kt106) (kt107)))))))) (And.intro
  (And.intro (And.intro (And.intro (And.intro (And.intro (kt108) (kt109)) (And.intro (kt110) (And.intro (kt111) (kt112)))) (And.intro (And.intro (ag113) (si113)) (And.intro (sz113)
  (And.intro (by113) (str113))))) (And.intro (And.intro (And.intro (fi113_0) (fi113_1)) (And.intro (fi113_2) (And.intro (ze113) (ag114)))) (And.intro (And.intro (si114) (And.intro
  (sz114) (by114))) (And.intro (str114) (And.intro (fi114_0) (fi114_1)))))) (And.intro (And.intro (And.intro (And.intro (fi114_2) (ze114)) (And.intro (kt115) (And.intro (kt116)
  (kt117)))) (And.intro (And.intro (kt118) (kt119)) (And.intro (kt120) (And.intro (kt121) (kt122))))) (And.intro (And.intro (And.intro (kt123) (ag124)) (And.intro (el124) (And.intro
  (si124) (sz124)))) (And.intro (And.intro (by124) (And.intro (kt124) (zv124))) (And.intro (ze124) (And.intro (kt125) (kt126))))))) (And.intro (And.intro (And.intro (And.intro
  (And.intro (kt127) (ag128)) (And.intro (el128) (And.intro (si128) (sz128)))) (And.intro (And.intro (by128) (kt128)) (And.intro (zv128) (And.intro (ze128) (kt129))))) (And.intro
  (And.intro (And.intro (ag130) (si130)) (And.intro (sz130) (And.intro (by130) (eq130)))) (And.intro (And.intro (str130) (And.intro (fi130_0) (fi130_1))) (And.intro (ze130)
  (And.intro (kt131) (kt132)))))) (And.intro (And.intro (And.intro (And.intro (kt133) (kt134)) (And.intro (kt135) (And.intro (kt136) (kt137)))) (And.intro (And.intro (kt138)
  (And.intro (kt139) (kt140))) (And.intro (kt141) (And.intro (kt142) (kt143))))) (And.intro (And.intro (And.intro (kt144) (kt145)) (And.intro (kt146) (And.intro (kt147) (ag148))))
  (And.intro (And.intro (si148) (And.intro (sz148) (by148))) (And.intro (str148) (And.intro (fi148_0) (fi148_1))))))))) (And.intro (And.intro (And.intro (And.intro (And.intro
  (And.intro (And.intro (ze148) (kt149)) (And.intro (kt150) (And.intro (kt151) (ag152)))) (And.intro (And.intro (el152) (si152)) (And.intro (sz152) (And.intro (by152) (kt152)))))
  (And.intro (And.intro (And.intro (zv152) (ze152)) (And.intro (kt153) (And.intro (kt154) (kt155)))) (And.intro (And.intro (kt156) (And.intro (kt157) (kt158))) (And.intro (ag159)
  (And.intro (si159) (sz159)))))) (And.intro (And.intro (And.intro (And.intro (by159) (in159)) (And.intro (zv159) (And.intro (ze159) (kt161)))) (And.intro (And.intro (kt162)
  (kt163)) (And.intro (kt164) (And.intro (kt166) (kt167))))) (And.intro (And.intro (And.intro (ag168) (si168)) (And.intro (sz168) (And.intro (by168) (in168)))) (And.intro (And.intro
  (zv168) (And.intro (ze168) (kt169))) (And.intro (ag170) (And.intro (si170) (sz170))))))) (And.intro (And.intro (And.intro (And.intro (And.intro (by170) (in170)) (And.intro (zv170)
  (And.intro (ze170) (kt171)))) (And.intro (And.intro (kt172) (kt173)) (And.intro (ag174) (And.intro (si174) (sz174))))) (And.intro (And.intro (And.intro (by174) (kt174)) (And.intro
  (zv174) (And.intro (ze174) (kt175)))) (And.intro (And.intro (ag176) (And.intro (si176) (sz176))) (And.intro (by176) (And.intro (kt176) (zv176)))))) (And.intro (And.intro
  (And.intro (And.intro (ze176) (kt178)) (And.intro (kt179) (And.intro (ag180) (si180)))) (And.intro (And.intro (sz180) (by180)) (And.intro (str180) (And.intro (fi180_0)
  (fi180_1))))) (And.intro (And.intro (And.intro (fi180_2) (fi180_3)) (And.intro (ze180) (And.intro (ag181) (si181)))) (And.intro (And.intro (sz181) (And.intro (by181) (str181)))
  (And.intro (fi181_0) (And.intro (fi181_1) (fi181_2)))))))) (And.intro (And.intro (And.intro (And.intro (And.intro (And.intro (fi181_3) (ze181)) (And.intro (ag182) (And.intro
  (si182) (sz182)))) (And.intro (And.intro (by182) (ag183)) (And.intro (si183) (And.intro (sz183) (by183))))) (And.intro (And.intro (And.intro (str183) (ag184)) (And.intro (si184)
  (And.intro (sz184) (by184)))) (And.intro (And.intro (str184) (And.intro (kt185) (ag186))) (And.intro (si186) (And.intro (sz186) (by186)))))) (And.intro (And.intro (And.intro
  (And.intro (in186) (zv186)) (And.intro (ze186) (And.intro (ag187) (si187)))) (And.intro (And.intro (sz187) (by187)) (And.intro (in187) (And.intro (zv187) (ze187))))) (And.intro
  (And.intro (And.intro (kt188) (ag189)) (And.intro (si189) (And.intro (sz189) (by189)))) (And.intro (And.intro (kt189) (And.intro (zv189) (ze189))) (And.intro (ag190) (And.intro
  (si190) (sz190))))))) (And.intro (And.intro (And.intro (And.intro (And.intro (by190) (in190)) (And.intro (zv190) (And.intro (ze190) (ag191)))) (And.intro (And.intro (si191)
  (sz191)) (And.intro (by191) (And.intro (in191) (zv191))))) (And.intro (And.intro (And.intro (ze191) (ag192)) (And.intro (si192) (And.intro (sz192) (by192)))) (And.intro (And.intro
  (str192) (And.intro (fi192_0) (fi192_1))) (And.intro (fi192_2) (And.intro (fi192_3) (fi192_4)))))) (And.intro (And.intro (And.intro (And.intro (fi192_5) (fi192_6)) (And.intro
  (fi192_7) (And.intro (fi192_8) (fi192_9)))) (And.intro (And.intro (fi192_10) (And.intro (ag193) (si193))) (And.intro (sz193) (And.intro (by193) (str193))))) (And.intro (And.intro
  (And.intro (fi193_0) (fi193_1)) (And.intro (fi193_2) (And.intro (fi193_3) (fi193_4)))) (And.intro (And.intro (fi193_5) (And.intro (fi193_6) (fi193_7))) (And.intro (fi193_8)
  (And.intro (fi193_9) (fi193_10))))))))))) := And.intro (And.intro (And.intro (And.intro (And.intro (And.intro (And.intro (And.intro (And.intro (kt1) (ag2)) (And.intro (si2)
  (And.intro (sz2) (by2)))) (And.intro (And.intro (in2) (zv2)) (And.intro (ze2) (And.intro (ag3) (si3))))) (And.intro (And.intro (And.intro (sz3) (by3)) (And.intro (in3) (And.intro
  (zv3) (ze3)))) (And.intro (And.intro (ag4) (And.intro (si4) (sz4))) (And.intro (by4) (And.intro (bo4) (zv4)))))) (And.intro (And.intro (And.intro (And.intro (ze4) (ag5))
  (And.intro (si5) (And.intro (sz5) (by5)))) (And.intro (And.intro (in5) (zv5)) (And.intro (ze5) (And.intro (ag6) (si6))))) (And.intro (And.intro (And.intro (sz6) (by6)) (And.intro
  (in6) (And.intro (zv6) (ze6)))) (And.intro (And.intro (ag7) (And.intro (si7) (sz7))) (And.intro (by7) (And.intro (str7) (fi7_0))))))) (And.intro (And.intro (And.intro (And.intro
  (And.intro (fi7_1) (fi7_2)) (And.intro (fi7_3) (And.intro (ze7) (ag8)))) (And.intro (And.intro (si8) (sz8)) (And.intro (by8) (And.intro (str8) (fi8_0))))) (And.intro (And.intro
  (And.intro (fi8_1) (fi8_2)) (And.intro (fi8_3) (And.intro (ze8) (ag9)))) (And.intro (And.intro (si9) (And.intro (sz9) (by9))) (And.intro (st9) (And.intro (zv9) (ze9))))))
  (And.intro (And.intro (And.intro (And.intro (ag10) (si10)) (And.intro (sz10) (And.intro (by10) (st10)))) (And.intro (And.intro (zv10) (ze10)) (And.intro (ag11) (And.intro (si11)
  (sz11))))) (And.intro (And.intro (And.intro (by11) (st11)) (And.intro (zv11) (And.intro (ze11) (ag12)))) (And.intro (And.intro (si12) (And.intro (sz12) (by12))) (And.intro (in12)
  (And.intro (zv12) (ze12)))))))) (And.intro (And.intro (And.intro (And.intro (And.intro (And.intro (ag13) (si13)) (And.intro (sz13) (And.intro (by13) (str13)))) (And.intro
  (And.intro (fi13_0) (fi13_1)) (And.intro (ze13) (And.intro (ag14) (si14))))) (And.intro (And.intro (And.intro (sz14) (by14)) (And.intro (str14) (And.intro (fi14_0) (fi14_1))))
  (And.intro (And.intro (ze14) (And.intro (ag15) (si15))) (And.intro (sz15) (And.intro (by15) (kt15)))))) (And.intro (And.intro (And.intro (And.intro (zv15) (ze15)) (And.intro
  (ag16) (And.intro (si16) (sz16)))) (And.intro (And.intro (by16) (kt16)) (And.intro (zv16) (And.intro (ze16) (ag17))))) (And.intro (And.intro (And.intro (si17) (sz17)) (And.intro
  (by17) (And.intro (kt17) (zv17)))) (And.intro (And.intro (ze17) (And.intro (ag18) (si18))) (And.intro (sz18) (And.intro (by18) (str18))))))) (And.intro (And.intro (And.intro
  (And.intro (And.intro (fi18_0) (ze18)) (And.intro (ag19) (And.intro (si19) (sz19)))) (And.intro (And.intro (by19) (str19)) (And.intro (fi19_0) (And.intro (ze19) (kt20)))))
  (And.intro (And.intro (And.intro (ag21) (si21)) (And.intro (sz21) (And.intro (by21) (in21)))) (And.intro (And.intro (zv21) (And.intro (ze21) (ag22))) (And.intro (el22) (And.intro
  (si22) (sz22)))))) (And.intro (And.intro (And.intro (And.intro (by22) (kt22)) (And.intro (zv22) (And.intro (ze22) (kt23)))) (And.intro (And.intro (ag24) (el24)) (And.intro (si24)
  (And.intro (sz24) (by24))))) (And.intro (And.intro (And.intro (kt24) (zv24)) (And.intro (ze24) (And.intro (ag25) (el25)))) (And.intro (And.intro (si25) (And.intro (sz25) (by25)))
  (And.intro (kt25) (And.intro (zv25) (ze25))))))))) (And.intro (And.intro (And.intro (And.intro (And.intro (And.intro (And.intro (ag26) (si26)) (And.intro (sz26) (And.intro (by26)
  (str26)))) (And.intro (And.intro (fi26_0) (fi26_1)) (And.intro (fi26_2) (And.intro (ze26) (ag27))))) (And.intro (And.intro (And.intro (si27) (sz27)) (And.intro (by27) (And.intro
  (str27) (fi27_0)))) (And.intro (And.intro (fi27_1) (And.intro (fi27_2) (ze27))) (And.intro (kt28) (And.intro (ag29) (el29)))))) (And.intro (And.intro (And.intro (And.intro (si29)
  (sz29)) (And.intro (by29) (And.intro (kt29) (zv29)))) (And.intro (And.intro (ze29) (kt30)) (And.intro (kt31) (And.intro (ag32) (si32))))) (And.intro (And.intro (And.intro (sz32)
  (by32)) (And.intro (kt32) (And.intro (zv32) (ze32)))) (And.intro (And.intro (kt33) (And.intro (ag34) (si34))) (And.intro (sz34) (And.intro (by34) (in34))))))) (And.intro
  (And.intro (And.intro (And.intro (And.intro (zv34) (ze34)) (And.intro (ag35) (And.intro (el35) (si35)))) (And.intro (And.intro (sz35) (by35)) (And.intro (kt35) (And.intro (zv35)
  (ze35))))) (And.intro (And.intro (And.intro (kt36) (kt37)) (And.intro (kt39) (And.intro (kt40) (ag41)))) (And.intro (And.intro (si41) (And.intro (sz41) (by41))) (And.intro (eq41)
  (And.intro (str41) (fi41_0)))))) (And.intro (And.intro (And.intro (And.intro (fi41_1) (ze41)) (And.intro (ag42) (And.intro (si42) (sz42)))) (And.intro (And.intro (by42) (eq42))
  (And.intro (str42) (And.intro (fi42_0) (fi42_1))))) (And.intro (And.intro (And.intro (ze42) (kt43)) (And.intro (kt45) (And.intro (ag46) (el46)))) (And.intro (And.intro (si46)
  (And.intro (sz46) (by46))) (And.intro (kt46) (And.intro (zv46) (ze46)))))))) (And.intro (And.intro (And.intro (And.intro (And.intro (And.intro (ag47) (si47)) (And.intro (sz47)
  (And.intro (by47) (str47)))) (And.intro (And.intro (fi47_0) (fi47_1)) (And.intro (fi47_2) (And.intro (ze47) (ag48))))) (And.intro (And.intro (And.intro (si48) (sz48)) (And.intro
  (by48) (And.intro (str48) (fi48_0)))) (And.intro (And.intro (fi48_1) (And.intro (fi48_2) (ze48))) (And.intro (kt50) (And.intro (kt51) (ag52)))))) (And.intro (And.intro (And.intro
  (And.intro (el52) (si52)) (And.intro (sz52) (And.intro (by52) (kt52)))) (And.intro (And.intro (zv52) (ze52)) (And.intro (kt54) (And.intro (kt55) (kt56))))) (And.intro (And.intro
  (And.intro (kt57) (ag58)) (And.intro (el58) (And.intro (si58) (sz58)))) (And.intro (And.intro (by58) (And.intro (kt58) (zv58))) (And.intro (ze58) (And.intro (ag59) (el59)))))))
  (And.intro (And.intro (And.intro (And.intro (And.intro (si59) (sz59)) (And.intro (by59) (And.intro (kt59) (zv59)))) (And.intro (And.intro (ze59) (ag60)) (And.intro (si60)
  (And.intro (sz60) (by60))))) (And.intro (And.intro (And.intro (str60) (fi60_0)) (And.intro (fi60_1) (And.intro (fi60_2) (ze60)))) (And.intro (And.intro (ag61) (And.intro (si61)
  (sz61))) (And.intro (by61) (And.intro (str61) (fi61_0)))))) (And.intro (And.intro (And.intro (And.intro (fi61_1) (fi61_2)) (And.intro (ze61) (And.intro (kt62) (kt63)))) (And.intro
  (And.intro (kt64) (And.intro (kt65) (kt66))) (And.intro (kt67) (And.intro (kt68) (kt69))))) (And.intro (And.intro (And.intro (kt70) (kt72)) (And.intro (kt73) (And.intro (kt74)
  (kt75)))) (And.intro (And.intro (kt76) (And.intro (ag77) (si77))) (And.intro (sz77) (And.intro (by77) (kt77)))))))))) (And.intro (And.intro (And.intro (And.intro (And.intro
  (And.intro (And.intro (And.intro (zv77) (ze77)) (And.intro (kt78) (And.intro (kt79) (kt80)))) (And.intro (And.intro (ag81) (si81)) (And.intro (sz81) (And.intro (by81) (eq81)))))
  (And.intro (And.intro (And.intro (str81) (fi81_0)) (And.intro (fi81_1) (And.intro (ze81) (ag82)))) (And.intro (And.intro (si82) (And.intro (sz82) (by82))) (And.intro (eq82)
  (And.intro (str82) (fi82_0)))))) (And.intro (And.intro (And.intro (And.intro (fi82_1) (ze82)) (And.intro (kt83) (And.intro (kt84) (kt85)))) (And.intro (And.intro (kt86) (kt87))
  (And.intro (ag88) (And.intro (si88) (sz88))))) (And.intro (And.intro (And.intro (by88) (str88)) (And.intro (fi88_0) (And.intro (fi88_1) (fi88_2)))) (And.intro (And.intro (ze88)
  (And.intro (ag89) (si89))) (And.intro (sz89) (And.intro (by89) (str89))))))) (And.intro (And.intro (And.intro (And.intro (And.intro (fi89_0) (fi89_1)) (And.intro (fi89_2)
  (And.intro (ze89) (ag90)))) (And.intro (And.intro (si90) (sz90)) (And.intro (by90) (And.intro (in90) (zv90))))) (And.intro (And.intro (And.intro (ze90) (kt91)) (And.intro (kt92)
  (And.intro (kt93) (kt94)))) (And.intro (And.intro (ag95) (And.intro (si95) (sz95))) (And.intro (by95) (And.intro (str95) (fi95_0)))))) (And.intro (And.intro (And.intro (And.intro
  (fi95_1) (ze95)) (And.intro (ag96) (And.intro (si96) (sz96)))) (And.intro (And.intro (by96) (str96)) (And.intro (fi96_0) (And.intro (fi96_1) (ze96))))) (And.intro (And.intro
  (And.intro (kt97) (kt98)) (And.intro (kt99) (And.intro (kt100) (kt101)))) (And.intro (And.intro (kt102) (And.intro (kt103) (kt104))) (And.intro (kt105) (And.intro (kt106)
  (kt107)))))))) (And.intro (And.intro (And.intro (And.intro (And.intro (And.intro (kt108) (kt109)) (And.intro (kt110) (And.intro (kt111) (kt112)))) (And.intro (And.intro (ag113)
  (si113)) (And.intro (sz113) (And.intro (by113) (str113))))) (And.intro (And.intro (And.intro (fi113_0) (fi113_1)) (And.intro (fi113_2) (And.intro (ze113) (ag114)))) (And.intro
  (And.intro (si114) (And.intro (sz114) (by114))) (And.intro (str114) (And.intro (fi114_0) (fi114_1)))))) (And.intro (And.intro (And.intro (And.intro (fi114_2) (ze114)) (And.intro
  (kt115) (And.intro (kt116) (kt117)))) (And.intro (And.intro (kt118) (kt119)) (And.intro (kt120) (And.intro (kt121) (kt122))))) (And.intro (And.intro (And.intro (kt123) (ag124))
  (And.intro (el124) (And.intro (si124) (sz124)))) (And.intro (And.intro (by124) (And.intro (kt124) (zv124))) (And.intro (ze124) (And.intro (kt125) (kt126))))))) (And.intro
  (And.intro (And.intro (And.intro (And.intro (kt127) (ag128)) (And.intro (el128) (And.intro (si128) (sz128)))) (And.intro (And.intro (by128) (kt128)) (And.intro (zv128) (And.intro
  (ze128) (kt129))))) (And.intro (And.intro (And.intro (ag130) (si130)) (And.intro (sz130) (And.intro (by130) (eq130)))) (And.intro (And.intro (str130) (And.intro (fi130_0)
  (fi130_1))) (And.intro (ze130) (And.intro (kt131) (kt132)))))) (And.intro (And.intro (And.intro (And.intro (kt133) (kt134)) (And.intro (kt135) (And.intro (kt136) (kt137))))
  (And.intro (And.intro (kt138) (And.intro (kt139) (kt140))) (And.intro (kt141) (And.intro (kt142) (kt143))))) (And.intro (And.intro (And.intro (kt144) (kt145)) (And.intro (kt146)
  (And.intro (kt147) (ag148)))) (And.intro (And.intro (si148) (And.intro (sz148) (by148))) (And.intro (str148) (And.intro (fi148_0) (fi148_1))))))))) (And.intro (And.intro
  (And.intro (And.intro (And.intro (And.intro (And.intro (ze148) (kt149)) (And.intro (kt150) (And.intro (kt151) (ag152)))) (And.intro (And.intro (el152) (si152)) (And.intro (sz152)
  (And.intro (by152) (kt152))))) (And.intro (And.intro (And.intro (zv152) (ze152)) (And.intro (kt153) (And.intro (kt154) (kt155)))) (And.intro (And.intro (kt156) (And.intro (kt157)
  (kt158))) (And.intro (ag159) (And.intro (si159) (sz159)))))) (And.intro (And.intro (And.intro (And.intro (by159) (in159)) (And.intro (zv159) (And.intro (ze159) (kt161))))
  (And.intro (And.intro (kt162) (kt163)) (And.intro (kt164) (And.intro (kt166) (kt167))))) (And.intro (And.intro (And.intro (ag168) (si168)) (And.intro (sz168) (And.intro (by168)
  (in168)))) (And.intro (And.intro (zv168) (And.intro (ze168) (kt169))) (And.intro (ag170) (And.intro (si170) (sz170))))))) (And.intro (And.intro (And.intro (And.intro (And.intro
  (by170) (in170)) (And.intro (zv170) (And.intro (ze170) (kt171)))) (And.intro (And.intro (kt172) (kt173)) (And.intro (ag174) (And.intro (si174) (sz174))))) (And.intro (And.intro
  (And.intro (by174) (kt174)) (And.intro (zv174) (And.intro (ze174) (kt175)))) (And.intro (And.intro (ag176) (And.intro (si176) (sz176))) (And.intro (by176) (And.intro (kt176)
  (zv176)))))) (And.intro (And.intro (And.intro (And.intro (ze176) (kt178)) (And.intro (kt179) (And.intro (ag180) (si180)))) (And.intro (And.intro (sz180) (by180)) (And.intro
  (str180) (And.intro (fi180_0) (fi180_1))))) (And.intro (And.intro (And.intro (fi180_2) (fi180_3)) (And.intro (ze180) (And.intro (ag181) (si181)))) (And.intro (And.intro (sz181)
  (And.intro (by181) (str181))) (And.intro (fi181_0) (And.intro (fi181_1) (fi181_2)))))))) (And.intro (And.intro (And.intro (And.intro (And.intro (And.intro (fi181_3) (ze181))
  (And.intro (ag182) (And.intro (si182) (sz182)))) (And.intro (And.intro (by182) (ag183)) (And.intro (si183) (And.intro (sz183) (by183))))) (And.intro (And.intro (And.intro (str183)
  (ag184)) (And.intro (si184) (And.intro (sz184) (by184)))) (And.intro (And.intro (str184) (And.intro (kt185) (ag186))) (And.intro (si186) (And.intro (sz186) (by186)))))) (And.intro
  (And.intro (And.intro (And.intro (in186) (zv186)) (And.intro (ze186) (And.intro (ag187) (si187)))) (And.intro (And.intro (sz187) (by187)) (And.intro (in187) (And.intro (zv187)
  (ze187))))) (And.intro (And.intro (And.intro (kt188) (ag189)) (And.intro (si189) (And.intro (sz189) (by189)))) (And.intro (And.intro (kt189) (And.intro (zv189) (ze189)))
  (And.intro (ag190) (And.intro (si190) (sz190))))))) (And.intro (And.intro (And.intro (And.intro (And.intro (by190) (in190)) (And.intro (zv190) (And.intro (ze190) (ag191))))
  (And.intro (And.intro (si191) (sz191)) (And.intro (by191) (And.intro (in191) (zv191))))) (And.intro (And.intro (And.intro (ze191) (ag192)) (And.intro (si192) (And.intro (sz192)
  (by192)))) (And.intro (And.intro (str192) (And.intro (fi192_0) (fi192_1))) (And.intro (fi192_2) (And.intro (fi192_3) (fi192_4)))))) (And.intro (And.intro (And.intro (And.intro
  (fi192_5) (fi192_6)) (And.intro (fi192_7) (And.intro (fi192_8) (fi192_9)))) (And.intro (And.intro (fi192_10) (And.intro (ag193) (si193))) (And.intro (sz193) (And.intro (by193)
  (str193))))) (And.intro (And.intro (And.intro (fi193_0) (fi193_1)) (And.intro (fi193_2) (And.intro (fi193_3) (fi193_4)))) (And.intro (And.intro (fi193_5) (And.intro (fi193_6)
  (fi193_7))) (And.intro (fi193_8) (And.intro (fi193_9) (fi193_10))))))))))
end Go.AM
