/-
  WHAT THE PROGRAM SAYS OF ITS TYPES, each fact by reckoning.
-/
import Derived.Test.YtjlnccjhgngnoaaAMTool
import Derived.Test.YtjlnccjhgngnoaaProg
import Derived.Test.YtjlnccjhgngnoaaProg
set_option linter.unusedVariables false
set_option linter.unusedSimpArgs false
namespace Go.AM
open Go.Proofs
theorem mixed : Try.prog.follows .mixedOrders = true := by kernel_rfl
theorem ag2 : aggT Try.prog 2 = some false := by kernel_rfl
theorem si2 : sizeT Try.prog 2 = 1 := by kernel_rfl
theorem sz2 : szT Try.prog 2 = some 1 := by kernel_rfl
theorem by2 : bytesT Try.prog 2 = 8 := by kernel_rfl
theorem ze2 : zeroT Try.prog 2 = some [.int .i64 0] := by kernel_rfl
theorem ag3 : aggT Try.prog 3 = some false := by kernel_rfl
theorem si3 : sizeT Try.prog 3 = 1 := by kernel_rfl
theorem sz3 : szT Try.prog 3 = some 1 := by kernel_rfl
theorem by3 : bytesT Try.prog 3 = 8 := by kernel_rfl
theorem ze3 : zeroT Try.prog 3 = some [.int .i64 0] := by kernel_rfl
theorem ag4 : aggT Try.prog 4 = some false := by kernel_rfl
theorem si4 : sizeT Try.prog 4 = 1 := by kernel_rfl
theorem sz4 : szT Try.prog 4 = some 1 := by kernel_rfl
theorem by4 : bytesT Try.prog 4 = 1 := by kernel_rfl
theorem bo4 : boolT Try.prog 4 = true := by kernel_rfl
theorem ze4 : zeroT Try.prog 4 = some [.bool false] := by kernel_rfl
theorem ag5 : aggT Try.prog 5 = some false := by kernel_rfl
theorem si5 : sizeT Try.prog 5 = 1 := by kernel_rfl
theorem sz5 : szT Try.prog 5 = some 1 := by kernel_rfl
theorem by5 : bytesT Try.prog 5 = 1 := by kernel_rfl
theorem ze5 : zeroT Try.prog 5 = some [.int .u8 0] := by kernel_rfl
theorem ag6 : aggT Try.prog 6 = some false := by kernel_rfl
theorem si6 : sizeT Try.prog 6 = 1 := by kernel_rfl
theorem sz6 : szT Try.prog 6 = some 1 := by kernel_rfl
theorem by6 : bytesT Try.prog 6 = 1 := by kernel_rfl
theorem ze6 : zeroT Try.prog 6 = some [.int .u8 0] := by kernel_rfl
theorem ag7 : aggT Try.prog 7 = some true := by kernel_rfl
theorem si7 : sizeT Try.prog 7 = 4 := by kernel_rfl
theorem sz7 : szT Try.prog 7 = some 4 := by kernel_rfl
theorem by7 : bytesT Try.prog 7 = 24 := by kernel_rfl
theorem str7 : structT Try.prog 7 = true := by kernel_rfl
theorem fi7_0 : fieldT Try.prog 7 0 = some (0, 2) := by kernel_rfl
theorem fi7_1 : fieldT Try.prog 7 1 = some (1, 3) := by kernel_rfl
theorem fi7_2 : fieldT Try.prog 7 2 = some (2, 4) := by kernel_rfl
theorem fi7_3 : fieldT Try.prog 7 3 = some (3, 6) := by kernel_rfl
theorem ze7 : zeroT Try.prog 7 = some [.int .i64 0, .int .i64 0, .bool false, .int .u8 0] := by kernel_rfl
theorem ag8 : aggT Try.prog 8 = some true := by kernel_rfl
theorem si8 : sizeT Try.prog 8 = 4 := by kernel_rfl
theorem sz8 : szT Try.prog 8 = some 4 := by kernel_rfl
theorem by8 : bytesT Try.prog 8 = 24 := by kernel_rfl
theorem str8 : structT Try.prog 8 = true := by kernel_rfl
theorem fi8_0 : fieldT Try.prog 8 0 = some (0, 2) := by kernel_rfl
theorem fi8_1 : fieldT Try.prog 8 1 = some (1, 3) := by kernel_rfl
theorem fi8_2 : fieldT Try.prog 8 2 = some (2, 4) := by kernel_rfl
theorem fi8_3 : fieldT Try.prog 8 3 = some (3, 6) := by kernel_rfl
theorem ze8 : zeroT Try.prog 8 = some [.int .i64 0, .int .i64 0, .bool false, .int .u8 0] := by kernel_rfl
theorem ag9 : aggT Try.prog 9 = some false := by kernel_rfl
theorem si9 : sizeT Try.prog 9 = 1 := by kernel_rfl
theorem sz9 : szT Try.prog 9 = some 1 := by kernel_rfl
theorem by9 : bytesT Try.prog 9 = 16 := by kernel_rfl
theorem st9 : stringT Try.prog 9 = true := by kernel_rfl
theorem ze9 : zeroT Try.prog 9 = some [.string ⟨#[]⟩] := by kernel_rfl
theorem ag10 : aggT Try.prog 10 = some false := by kernel_rfl
theorem si10 : sizeT Try.prog 10 = 1 := by kernel_rfl
theorem sz10 : szT Try.prog 10 = some 1 := by kernel_rfl
theorem by10 : bytesT Try.prog 10 = 16 := by kernel_rfl
theorem st10 : stringT Try.prog 10 = true := by kernel_rfl
theorem ze10 : zeroT Try.prog 10 = some [.string ⟨#[]⟩] := by kernel_rfl
theorem ag11 : aggT Try.prog 11 = some false := by kernel_rfl
theorem si11 : sizeT Try.prog 11 = 1 := by kernel_rfl
theorem sz11 : szT Try.prog 11 = some 1 := by kernel_rfl
theorem by11 : bytesT Try.prog 11 = 16 := by kernel_rfl
theorem st11 : stringT Try.prog 11 = true := by kernel_rfl
theorem ze11 : zeroT Try.prog 11 = some [.string ⟨#[]⟩] := by kernel_rfl
theorem ag12 : aggT Try.prog 12 = some false := by kernel_rfl
theorem si12 : sizeT Try.prog 12 = 1 := by kernel_rfl
theorem sz12 : szT Try.prog 12 = some 1 := by kernel_rfl
theorem by12 : bytesT Try.prog 12 = 8 := by kernel_rfl
theorem ze12 : zeroT Try.prog 12 = some [.int .u64 0] := by kernel_rfl
theorem ag13 : aggT Try.prog 13 = some true := by kernel_rfl
theorem si13 : sizeT Try.prog 13 = 2 := by kernel_rfl
theorem sz13 : szT Try.prog 13 = some 2 := by kernel_rfl
theorem by13 : bytesT Try.prog 13 = 24 := by kernel_rfl
theorem str13 : structT Try.prog 13 = true := by kernel_rfl
theorem fi13_0 : fieldT Try.prog 13 0 = some (0, 9) := by kernel_rfl
theorem fi13_1 : fieldT Try.prog 13 1 = some (1, 12) := by kernel_rfl
theorem ze13 : zeroT Try.prog 13 = some [.string ⟨#[]⟩, .int .u64 0] := by kernel_rfl
theorem ag14 : aggT Try.prog 14 = some true := by kernel_rfl
theorem si14 : sizeT Try.prog 14 = 2 := by kernel_rfl
theorem sz14 : szT Try.prog 14 = some 2 := by kernel_rfl
theorem by14 : bytesT Try.prog 14 = 24 := by kernel_rfl
theorem str14 : structT Try.prog 14 = true := by kernel_rfl
theorem fi14_0 : fieldT Try.prog 14 0 = some (0, 9) := by kernel_rfl
theorem fi14_1 : fieldT Try.prog 14 1 = some (1, 12) := by kernel_rfl
theorem ze14 : zeroT Try.prog 14 = some [.string ⟨#[]⟩, .int .u64 0] := by kernel_rfl
theorem ag15 : aggT Try.prog 15 = some false := by kernel_rfl
theorem si15 : sizeT Try.prog 15 = 1 := by kernel_rfl
theorem sz15 : szT Try.prog 15 = some 1 := by kernel_rfl
theorem by15 : bytesT Try.prog 15 = 8 := by kernel_rfl
theorem ze15 : zeroT Try.prog 15 = some [.pointer none] := by kernel_rfl
theorem ag16 : aggT Try.prog 16 = some false := by kernel_rfl
theorem si16 : sizeT Try.prog 16 = 1 := by kernel_rfl
theorem sz16 : szT Try.prog 16 = some 1 := by kernel_rfl
theorem by16 : bytesT Try.prog 16 = 8 := by kernel_rfl
theorem ze16 : zeroT Try.prog 16 = some [.pointer none] := by kernel_rfl
theorem ag17 : aggT Try.prog 17 = some false := by kernel_rfl
theorem si17 : sizeT Try.prog 17 = 1 := by kernel_rfl
theorem sz17 : szT Try.prog 17 = some 1 := by kernel_rfl
theorem by17 : bytesT Try.prog 17 = 8 := by kernel_rfl
theorem ze17 : zeroT Try.prog 17 = some [.pointer none] := by kernel_rfl
theorem ag18 : aggT Try.prog 18 = some true := by kernel_rfl
theorem si18 : sizeT Try.prog 18 = 1 := by kernel_rfl
theorem sz18 : szT Try.prog 18 = some 1 := by kernel_rfl
theorem by18 : bytesT Try.prog 18 = 8 := by kernel_rfl
theorem str18 : structT Try.prog 18 = true := by kernel_rfl
theorem fi18_0 : fieldT Try.prog 18 0 = some (0, 17) := by kernel_rfl
theorem ze18 : zeroT Try.prog 18 = some [.pointer none] := by kernel_rfl
theorem ag19 : aggT Try.prog 19 = some true := by kernel_rfl
theorem si19 : sizeT Try.prog 19 = 1 := by kernel_rfl
theorem sz19 : szT Try.prog 19 = some 1 := by kernel_rfl
theorem by19 : bytesT Try.prog 19 = 8 := by kernel_rfl
theorem str19 : structT Try.prog 19 = true := by kernel_rfl
theorem fi19_0 : fieldT Try.prog 19 0 = some (0, 17) := by kernel_rfl
theorem ze19 : zeroT Try.prog 19 = some [.pointer none] := by kernel_rfl
theorem ag21 : aggT Try.prog 21 = some false := by kernel_rfl
theorem si21 : sizeT Try.prog 21 = 1 := by kernel_rfl
theorem sz21 : szT Try.prog 21 = some 1 := by kernel_rfl
theorem by21 : bytesT Try.prog 21 = 4 := by kernel_rfl
theorem ze21 : zeroT Try.prog 21 = some [.int .i32 0] := by kernel_rfl
theorem ag24 : aggT Try.prog 24 = some false := by kernel_rfl
theorem el24 : elemT Try.prog 24 = some 73 := by kernel_rfl
theorem si24 : sizeT Try.prog 24 = 1 := by kernel_rfl
theorem sz24 : szT Try.prog 24 = some 1 := by kernel_rfl
theorem by24 : bytesT Try.prog 24 = 24 := by kernel_rfl
theorem ze24 : zeroT Try.prog 24 = some [.slice none 0 0] := by kernel_rfl
theorem ag27 : aggT Try.prog 27 = some false := by kernel_rfl
theorem el27 : elemT Try.prog 27 = some 71 := by kernel_rfl
theorem si27 : sizeT Try.prog 27 = 1 := by kernel_rfl
theorem sz27 : szT Try.prog 27 = some 1 := by kernel_rfl
theorem by27 : bytesT Try.prog 27 = 24 := by kernel_rfl
theorem ze27 : zeroT Try.prog 27 = some [.slice none 0 0] := by kernel_rfl
theorem ag31 : aggT Try.prog 31 = some false := by kernel_rfl
theorem el31 : elemT Try.prog 31 = some 2 := by kernel_rfl
theorem si31 : sizeT Try.prog 31 = 1 := by kernel_rfl
theorem sz31 : szT Try.prog 31 = some 1 := by kernel_rfl
theorem by31 : bytesT Try.prog 31 = 24 := by kernel_rfl
theorem ze31 : zeroT Try.prog 31 = some [.slice none 0 0] := by kernel_rfl
theorem ag37 : aggT Try.prog 37 = some true := by kernel_rfl
theorem si37 : sizeT Try.prog 37 = 8 := by kernel_rfl
theorem sz37 : szT Try.prog 37 = some 8 := by kernel_rfl
theorem by37 : bytesT Try.prog 37 = 64 := by kernel_rfl
theorem eq37 : eqT Try.prog 37 = some [(0, 0), (1, 0), (2, 0), (3, 0), (4, 0), (5, 0), (6, 0), (7, 1)] := by kernel_rfl
theorem str37 : structT Try.prog 37 = true := by kernel_rfl
theorem fi37_0 : fieldT Try.prog 37 0 = some (0, 2) := by kernel_rfl
theorem fi37_1 : fieldT Try.prog 37 1 = some (1, 2) := by kernel_rfl
theorem fi37_2 : fieldT Try.prog 37 2 = some (2, 2) := by kernel_rfl
theorem fi37_3 : fieldT Try.prog 37 3 = some (3, 2) := by kernel_rfl
theorem fi37_4 : fieldT Try.prog 37 4 = some (4, 2) := by kernel_rfl
theorem fi37_5 : fieldT Try.prog 37 5 = some (5, 2) := by kernel_rfl
theorem fi37_6 : fieldT Try.prog 37 6 = some (6, 2) := by kernel_rfl
theorem fi37_7 : fieldT Try.prog 37 7 = some (7, 4) := by kernel_rfl
theorem ze37 : zeroT Try.prog 37 = some [.int .i64 0, .int .i64 0, .int .i64 0, .int .i64 0, .int .i64 0, .int .i64 0, .int .i64 0, .bool false] := by kernel_rfl
theorem ag38 : aggT Try.prog 38 = some true := by kernel_rfl
theorem si38 : sizeT Try.prog 38 = 8 := by kernel_rfl
theorem sz38 : szT Try.prog 38 = some 8 := by kernel_rfl
theorem by38 : bytesT Try.prog 38 = 64 := by kernel_rfl
theorem eq38 : eqT Try.prog 38 = some [(0, 0), (1, 0), (2, 0), (3, 0), (4, 0), (5, 0), (6, 0), (7, 1)] := by kernel_rfl
theorem str38 : structT Try.prog 38 = true := by kernel_rfl
theorem fi38_0 : fieldT Try.prog 38 0 = some (0, 2) := by kernel_rfl
theorem fi38_1 : fieldT Try.prog 38 1 = some (1, 2) := by kernel_rfl
theorem fi38_2 : fieldT Try.prog 38 2 = some (2, 2) := by kernel_rfl
theorem fi38_3 : fieldT Try.prog 38 3 = some (3, 2) := by kernel_rfl
theorem fi38_4 : fieldT Try.prog 38 4 = some (4, 2) := by kernel_rfl
theorem fi38_5 : fieldT Try.prog 38 5 = some (5, 2) := by kernel_rfl
theorem fi38_6 : fieldT Try.prog 38 6 = some (6, 2) := by kernel_rfl
theorem fi38_7 : fieldT Try.prog 38 7 = some (7, 4) := by kernel_rfl
theorem ze38 : zeroT Try.prog 38 = some [.int .i64 0, .int .i64 0, .int .i64 0, .int .i64 0, .int .i64 0, .int .i64 0, .int .i64 0, .bool false] := by kernel_rfl
theorem ag40 : aggT Try.prog 40 = some true := by kernel_rfl
theorem si40 : sizeT Try.prog 40 = 8 := by kernel_rfl
theorem sz40 : szT Try.prog 40 = some 8 := by kernel_rfl
theorem by40 : bytesT Try.prog 40 = 64 := by kernel_rfl
theorem eq40 : eqT Try.prog 40 = some [(0, 0), (1, 0), (2, 0), (3, 0), (4, 0), (5, 0), (6, 0), (7, 1)] := by kernel_rfl
theorem str40 : structT Try.prog 40 = true := by kernel_rfl
theorem fi40_0 : fieldT Try.prog 40 0 = some (0, 2) := by kernel_rfl
theorem fi40_1 : fieldT Try.prog 40 1 = some (1, 2) := by kernel_rfl
theorem fi40_2 : fieldT Try.prog 40 2 = some (2, 2) := by kernel_rfl
theorem fi40_3 : fieldT Try.prog 40 3 = some (3, 2) := by kernel_rfl
theorem fi40_4 : fieldT Try.prog 40 4 = some (4, 2) := by kernel_rfl
theorem fi40_5 : fieldT Try.prog 40 5 = some (5, 2) := by kernel_rfl
theorem fi40_6 : fieldT Try.prog 40 6 = some (6, 2) := by kernel_rfl
theorem fi40_7 : fieldT Try.prog 40 7 = some (7, 4) := by kernel_rfl
theorem ze40 : zeroT Try.prog 40 = some [.int .i64 0, .int .i64 0, .int .i64 0, .int .i64 0, .int .i64 0, .int .i64 0, .int .i64 0, .bool false] := by kernel_rfl
theorem ag44 : aggT Try.prog 44 = some false := by kernel_rfl
theorem el44 : elemT Try.prog 44 = some 5 := by kernel_rfl
theorem si44 : sizeT Try.prog 44 = 1 := by kernel_rfl
theorem sz44 : szT Try.prog 44 = some 1 := by kernel_rfl
theorem by44 : bytesT Try.prog 44 = 24 := by kernel_rfl
theorem ze44 : zeroT Try.prog 44 = some [.slice none 0 0] := by kernel_rfl
theorem ag46 : aggT Try.prog 46 = some false := by kernel_rfl
theorem si46 : sizeT Try.prog 46 = 1 := by kernel_rfl
theorem sz46 : szT Try.prog 46 = some 1 := by kernel_rfl
theorem by46 : bytesT Try.prog 46 = 8 := by kernel_rfl
theorem ze46 : zeroT Try.prog 46 = some [.pointer none] := by kernel_rfl
theorem ag48 : aggT Try.prog 48 = some false := by kernel_rfl
theorem si48 : sizeT Try.prog 48 = 1 := by kernel_rfl
theorem sz48 : szT Try.prog 48 = some 1 := by kernel_rfl
theorem by48 : bytesT Try.prog 48 = 8 := by kernel_rfl
theorem ze48 : zeroT Try.prog 48 = some [.int .u64 0] := by kernel_rfl
theorem ag49 : aggT Try.prog 49 = some true := by kernel_rfl
theorem si49 : sizeT Try.prog 49 = 2 := by kernel_rfl
theorem sz49 : szT Try.prog 49 = some 2 := by kernel_rfl
theorem by49 : bytesT Try.prog 49 = 16 := by kernel_rfl
theorem eq49 : eqT Try.prog 49 = some [(0, 0), (1, 0)] := by kernel_rfl
theorem str49 : structT Try.prog 49 = true := by kernel_rfl
theorem fi49_0 : fieldT Try.prog 49 0 = some (0, 2) := by kernel_rfl
theorem fi49_1 : fieldT Try.prog 49 1 = some (1, 2) := by kernel_rfl
theorem ze49 : zeroT Try.prog 49 = some [.int .i64 0, .int .i64 0] := by kernel_rfl
theorem ag50 : aggT Try.prog 50 = some true := by kernel_rfl
theorem si50 : sizeT Try.prog 50 = 2 := by kernel_rfl
theorem sz50 : szT Try.prog 50 = some 2 := by kernel_rfl
theorem by50 : bytesT Try.prog 50 = 16 := by kernel_rfl
theorem eq50 : eqT Try.prog 50 = some [(0, 0), (1, 0)] := by kernel_rfl
theorem str50 : structT Try.prog 50 = true := by kernel_rfl
theorem fi50_0 : fieldT Try.prog 50 0 = some (0, 2) := by kernel_rfl
theorem fi50_1 : fieldT Try.prog 50 1 = some (1, 2) := by kernel_rfl
theorem ze50 : zeroT Try.prog 50 = some [.int .i64 0, .int .i64 0] := by kernel_rfl
theorem ag51 : aggT Try.prog 51 = some false := by kernel_rfl
theorem el51 : elemT Try.prog 51 = some 50 := by kernel_rfl
theorem si51 : sizeT Try.prog 51 = 1 := by kernel_rfl
theorem sz51 : szT Try.prog 51 = some 1 := by kernel_rfl
theorem by51 : bytesT Try.prog 51 = 24 := by kernel_rfl
theorem ze51 : zeroT Try.prog 51 = some [.slice none 0 0] := by kernel_rfl
theorem ag54 : aggT Try.prog 54 = some false := by kernel_rfl
theorem el54 : elemT Try.prog 54 = some 81 := by kernel_rfl
theorem si54 : sizeT Try.prog 54 = 1 := by kernel_rfl
theorem sz54 : szT Try.prog 54 = some 1 := by kernel_rfl
theorem by54 : bytesT Try.prog 54 = 24 := by kernel_rfl
theorem ze54 : zeroT Try.prog 54 = some [.slice none 0 0] := by kernel_rfl
theorem ag59 : aggT Try.prog 59 = some true := by kernel_rfl
theorem si59 : sizeT Try.prog 59 = 2 := by kernel_rfl
theorem sz59 : szT Try.prog 59 = some 2 := by kernel_rfl
theorem by59 : bytesT Try.prog 59 = 16 := by kernel_rfl
theorem eq59 : eqT Try.prog 59 = some [(0, 0), (1, 0)] := by kernel_rfl
theorem str59 : structT Try.prog 59 = true := by kernel_rfl
theorem fi59_0 : fieldT Try.prog 59 0 = some (0, 2) := by kernel_rfl
theorem fi59_1 : fieldT Try.prog 59 1 = some (1, 2) := by kernel_rfl
theorem ze59 : zeroT Try.prog 59 = some [.int .i64 0, .int .i64 0] := by kernel_rfl
theorem ag65 : aggT Try.prog 65 = some false := by kernel_rfl
theorem el65 : elemT Try.prog 65 = some 84 := by kernel_rfl
theorem si65 : sizeT Try.prog 65 = 1 := by kernel_rfl
theorem sz65 : szT Try.prog 65 = some 1 := by kernel_rfl
theorem by65 : bytesT Try.prog 65 = 24 := by kernel_rfl
theorem ze65 : zeroT Try.prog 65 = some [.slice none 0 0] := by kernel_rfl
theorem ag70 : aggT Try.prog 70 = some true := by kernel_rfl
theorem si70 : sizeT Try.prog 70 = 2 := by kernel_rfl
theorem sz70 : szT Try.prog 70 = some 2 := by kernel_rfl
theorem by70 : bytesT Try.prog 70 = 16 := by kernel_rfl
theorem eq70 : eqT Try.prog 70 = some [(0, 0), (1, 0)] := by kernel_rfl
theorem str70 : structT Try.prog 70 = true := by kernel_rfl
theorem fi70_0 : fieldT Try.prog 70 0 = some (0, 2) := by kernel_rfl
theorem fi70_1 : fieldT Try.prog 70 1 = some (1, 2) := by kernel_rfl
theorem ze70 : zeroT Try.prog 70 = some [.int .i64 0, .int .i64 0] := by kernel_rfl
theorem ag71 : aggT Try.prog 71 = some true := by kernel_rfl
theorem si71 : sizeT Try.prog 71 = 2 := by kernel_rfl
theorem sz71 : szT Try.prog 71 = some 2 := by kernel_rfl
theorem by71 : bytesT Try.prog 71 = 16 := by kernel_rfl
theorem eq71 : eqT Try.prog 71 = some [(0, 0), (1, 0)] := by kernel_rfl
theorem str71 : structT Try.prog 71 = true := by kernel_rfl
theorem fi71_0 : fieldT Try.prog 71 0 = some (0, 2) := by kernel_rfl
theorem fi71_1 : fieldT Try.prog 71 1 = some (1, 2) := by kernel_rfl
theorem ze71 : zeroT Try.prog 71 = some [.int .i64 0, .int .i64 0] := by kernel_rfl
theorem ag73 : aggT Try.prog 73 = some true := by kernel_rfl
theorem si73 : sizeT Try.prog 73 = 2 := by kernel_rfl
theorem sz73 : szT Try.prog 73 = some 2 := by kernel_rfl
theorem by73 : bytesT Try.prog 73 = 16 := by kernel_rfl
theorem eq73 : eqT Try.prog 73 = some [(0, 0), (1, 0)] := by kernel_rfl
theorem str73 : structT Try.prog 73 = true := by kernel_rfl
theorem fi73_0 : fieldT Try.prog 73 0 = some (0, 2) := by kernel_rfl
theorem fi73_1 : fieldT Try.prog 73 1 = some (1, 2) := by kernel_rfl
theorem ze73 : zeroT Try.prog 73 = some [.int .i64 0, .int .i64 0] := by kernel_rfl
theorem ag76 : aggT Try.prog 76 = some true := by kernel_rfl
theorem si76 : sizeT Try.prog 76 = 3 := by kernel_rfl
theorem sz76 : szT Try.prog 76 = some 3 := by kernel_rfl
theorem by76 : bytesT Try.prog 76 = 40 := by kernel_rfl
theorem str76 : structT Try.prog 76 = true := by kernel_rfl
theorem fi76_0 : fieldT Try.prog 76 0 = some (0, 44) := by kernel_rfl
theorem fi76_1 : fieldT Try.prog 76 1 = some (1, 3) := by kernel_rfl
theorem fi76_2 : fieldT Try.prog 76 2 = some (2, 48) := by kernel_rfl
theorem ze76 : zeroT Try.prog 76 = some [.slice none 0 0, .int .i64 0, .int .u64 0] := by kernel_rfl
theorem ag77 : aggT Try.prog 77 = some true := by kernel_rfl
theorem si77 : sizeT Try.prog 77 = 3 := by kernel_rfl
theorem sz77 : szT Try.prog 77 = some 3 := by kernel_rfl
theorem by77 : bytesT Try.prog 77 = 40 := by kernel_rfl
theorem str77 : structT Try.prog 77 = true := by kernel_rfl
theorem fi77_0 : fieldT Try.prog 77 0 = some (0, 44) := by kernel_rfl
theorem fi77_1 : fieldT Try.prog 77 1 = some (1, 3) := by kernel_rfl
theorem fi77_2 : fieldT Try.prog 77 2 = some (2, 48) := by kernel_rfl
theorem ze77 : zeroT Try.prog 77 = some [.slice none 0 0, .int .i64 0, .int .u64 0] := by kernel_rfl
theorem ag78 : aggT Try.prog 78 = some false := by kernel_rfl
theorem si78 : sizeT Try.prog 78 = 1 := by kernel_rfl
theorem sz78 : szT Try.prog 78 = some 1 := by kernel_rfl
theorem by78 : bytesT Try.prog 78 = 8 := by kernel_rfl
theorem ze78 : zeroT Try.prog 78 = some [.int .u64 0] := by kernel_rfl
theorem ag80 : aggT Try.prog 80 = some true := by kernel_rfl
theorem si80 : sizeT Try.prog 80 = 2 := by kernel_rfl
theorem sz80 : szT Try.prog 80 = some 2 := by kernel_rfl
theorem by80 : bytesT Try.prog 80 = 48 := by kernel_rfl
theorem str80 : structT Try.prog 80 = true := by kernel_rfl
theorem fi80_0 : fieldT Try.prog 80 0 = some (0, 31) := by kernel_rfl
theorem fi80_1 : fieldT Try.prog 80 1 = some (1, 31) := by kernel_rfl
theorem ze80 : zeroT Try.prog 80 = some [.slice none 0 0, .slice none 0 0] := by kernel_rfl
theorem ag81 : aggT Try.prog 81 = some true := by kernel_rfl
theorem si81 : sizeT Try.prog 81 = 2 := by kernel_rfl
theorem sz81 : szT Try.prog 81 = some 2 := by kernel_rfl
theorem by81 : bytesT Try.prog 81 = 48 := by kernel_rfl
theorem str81 : structT Try.prog 81 = true := by kernel_rfl
theorem fi81_0 : fieldT Try.prog 81 0 = some (0, 31) := by kernel_rfl
theorem fi81_1 : fieldT Try.prog 81 1 = some (1, 31) := by kernel_rfl
theorem ze81 : zeroT Try.prog 81 = some [.slice none 0 0, .slice none 0 0] := by kernel_rfl
theorem ag84 : aggT Try.prog 84 = some true := by kernel_rfl
theorem si84 : sizeT Try.prog 84 = 2 := by kernel_rfl
theorem sz84 : szT Try.prog 84 = some 2 := by kernel_rfl
theorem by84 : bytesT Try.prog 84 = 48 := by kernel_rfl
theorem str84 : structT Try.prog 84 = true := by kernel_rfl
theorem fi84_0 : fieldT Try.prog 84 0 = some (0, 31) := by kernel_rfl
theorem fi84_1 : fieldT Try.prog 84 1 = some (1, 31) := by kernel_rfl
theorem ze84 : zeroT Try.prog 84 = some [.slice none 0 0, .slice none 0 0] := by kernel_rfl
theorem ag96 : aggT Try.prog 96 = some true := by kernel_rfl
theorem si96 : sizeT Try.prog 96 = 4 := by kernel_rfl
theorem sz96 : szT Try.prog 96 = some 4 := by kernel_rfl
theorem by96 : bytesT Try.prog 96 = 40 := by kernel_rfl
theorem str96 : structT Try.prog 96 = true := by kernel_rfl
theorem fi96_0 : fieldT Try.prog 96 0 = some (0, 17) := by kernel_rfl
theorem fi96_1 : fieldT Try.prog 96 1 = some (1, 17) := by kernel_rfl
theorem fi96_2 : fieldT Try.prog 96 2 = some (2, 17) := by kernel_rfl
theorem fi96_3 : fieldT Try.prog 96 3 = some (3, 9) := by kernel_rfl
theorem ze96 : zeroT Try.prog 96 = some [.pointer none, .pointer none, .pointer none, .string ⟨#[]⟩] := by kernel_rfl
theorem ag97 : aggT Try.prog 97 = some true := by kernel_rfl
theorem si97 : sizeT Try.prog 97 = 4 := by kernel_rfl
theorem sz97 : szT Try.prog 97 = some 4 := by kernel_rfl
theorem by97 : bytesT Try.prog 97 = 40 := by kernel_rfl
theorem str97 : structT Try.prog 97 = true := by kernel_rfl
theorem fi97_0 : fieldT Try.prog 97 0 = some (0, 17) := by kernel_rfl
theorem fi97_1 : fieldT Try.prog 97 1 = some (1, 17) := by kernel_rfl
theorem fi97_2 : fieldT Try.prog 97 2 = some (2, 17) := by kernel_rfl
theorem fi97_3 : fieldT Try.prog 97 3 = some (3, 9) := by kernel_rfl
theorem ze97 : zeroT Try.prog 97 = some [.pointer none, .pointer none, .pointer none, .string ⟨#[]⟩] := by kernel_rfl
theorem ag98 : aggT Try.prog 98 = some true := by kernel_rfl
theorem si98 : sizeT Try.prog 98 = 0 := by kernel_rfl
theorem sz98 : szT Try.prog 98 = some 0 := by kernel_rfl
theorem by98 : bytesT Try.prog 98 = 0 := by kernel_rfl
theorem ag99 : aggT Try.prog 99 = some true := by kernel_rfl
theorem si99 : sizeT Try.prog 99 = 0 := by kernel_rfl
theorem sz99 : szT Try.prog 99 = some 0 := by kernel_rfl
theorem by99 : bytesT Try.prog 99 = 0 := by kernel_rfl
theorem str99 : structT Try.prog 99 = true := by kernel_rfl
theorem ag100 : aggT Try.prog 100 = some true := by kernel_rfl
theorem si100 : sizeT Try.prog 100 = 0 := by kernel_rfl
theorem sz100 : szT Try.prog 100 = some 0 := by kernel_rfl
theorem by100 : bytesT Try.prog 100 = 0 := by kernel_rfl
theorem str100 : structT Try.prog 100 = true := by kernel_rfl
theorem ag102 : aggT Try.prog 102 = some false := by kernel_rfl
theorem si102 : sizeT Try.prog 102 = 1 := by kernel_rfl
theorem sz102 : szT Try.prog 102 = some 1 := by kernel_rfl
theorem by102 : bytesT Try.prog 102 = 4 := by kernel_rfl
theorem ze102 : zeroT Try.prog 102 = some [.int .u32 0] := by kernel_rfl
theorem ag103 : aggT Try.prog 103 = some false := by kernel_rfl
theorem si103 : sizeT Try.prog 103 = 1 := by kernel_rfl
theorem sz103 : szT Try.prog 103 = some 1 := by kernel_rfl
theorem by103 : bytesT Try.prog 103 = 1 := by kernel_rfl
theorem ze103 : zeroT Try.prog 103 = some [.int .u8 0] := by kernel_rfl
theorem ag104 : aggT Try.prog 104 = some false := by kernel_rfl
theorem si104 : sizeT Try.prog 104 = 1 := by kernel_rfl
theorem sz104 : szT Try.prog 104 = some 1 := by kernel_rfl
theorem by104 : bytesT Try.prog 104 = 1 := by kernel_rfl
theorem ze104 : zeroT Try.prog 104 = some [.int .u8 0] := by kernel_rfl
theorem ag106 : aggT Try.prog 106 = some false := by kernel_rfl
theorem si106 : sizeT Try.prog 106 = 1 := by kernel_rfl
theorem sz106 : szT Try.prog 106 = some 1 := by kernel_rfl
theorem by106 : bytesT Try.prog 106 = 8 := by kernel_rfl
theorem ze106 : zeroT Try.prog 106 = some [.pointer none] := by kernel_rfl
theorem ag107 : aggT Try.prog 107 = some false := by kernel_rfl
theorem si107 : sizeT Try.prog 107 = 1 := by kernel_rfl
theorem sz107 : szT Try.prog 107 = some 1 := by kernel_rfl
theorem by107 : bytesT Try.prog 107 = 4 := by kernel_rfl
theorem ze107 : zeroT Try.prog 107 = some [.int .i32 0] := by kernel_rfl
theorem ag108 : aggT Try.prog 108 = some false := by kernel_rfl
theorem si108 : sizeT Try.prog 108 = 1 := by kernel_rfl
theorem sz108 : szT Try.prog 108 = some 1 := by kernel_rfl
theorem by108 : bytesT Try.prog 108 = 4 := by kernel_rfl
theorem ze108 : zeroT Try.prog 108 = some [.int .i32 0] := by kernel_rfl
theorem ag109 : aggT Try.prog 109 = some true := by kernel_rfl
theorem si109 : sizeT Try.prog 109 = 11 := by kernel_rfl
theorem sz109 : szT Try.prog 109 = some 11 := by kernel_rfl
theorem by109 : bytesT Try.prog 109 = 48 := by kernel_rfl
theorem str109 : structT Try.prog 109 = true := by kernel_rfl
theorem fi109_0 : fieldT Try.prog 109 0 = some (0, 12) := by kernel_rfl
theorem fi109_1 : fieldT Try.prog 109 1 = some (1, 12) := by kernel_rfl
theorem fi109_2 : fieldT Try.prog 109 2 = some (2, 102) := by kernel_rfl
theorem fi109_3 : fieldT Try.prog 109 3 = some (3, 103) := by kernel_rfl
theorem fi109_4 : fieldT Try.prog 109 4 = some (4, 5) := by kernel_rfl
theorem fi109_5 : fieldT Try.prog 109 5 = some (5, 5) := by kernel_rfl
theorem fi109_6 : fieldT Try.prog 109 6 = some (6, 104) := by kernel_rfl
theorem fi109_7 : fieldT Try.prog 109 7 = some (7, 105) := by kernel_rfl
theorem fi109_8 : fieldT Try.prog 109 8 = some (8, 106) := by kernel_rfl
theorem fi109_9 : fieldT Try.prog 109 9 = some (9, 107) := by kernel_rfl
theorem fi109_10 : fieldT Try.prog 109 10 = some (10, 108) := by kernel_rfl
theorem ag110 : aggT Try.prog 110 = some true := by kernel_rfl
theorem si110 : sizeT Try.prog 110 = 11 := by kernel_rfl
theorem sz110 : szT Try.prog 110 = some 11 := by kernel_rfl
theorem by110 : bytesT Try.prog 110 = 48 := by kernel_rfl
theorem str110 : structT Try.prog 110 = true := by kernel_rfl
theorem fi110_0 : fieldT Try.prog 110 0 = some (0, 12) := by kernel_rfl
theorem fi110_1 : fieldT Try.prog 110 1 = some (1, 12) := by kernel_rfl
theorem fi110_2 : fieldT Try.prog 110 2 = some (2, 102) := by kernel_rfl
theorem fi110_3 : fieldT Try.prog 110 3 = some (3, 103) := by kernel_rfl
theorem fi110_4 : fieldT Try.prog 110 4 = some (4, 5) := by kernel_rfl
theorem fi110_5 : fieldT Try.prog 110 5 = some (5, 5) := by kernel_rfl
theorem fi110_6 : fieldT Try.prog 110 6 = some (6, 104) := by kernel_rfl
theorem fi110_7 : fieldT Try.prog 110 7 = some (7, 105) := by kernel_rfl
theorem fi110_8 : fieldT Try.prog 110 8 = some (8, 106) := by kernel_rfl
theorem fi110_9 : fieldT Try.prog 110 9 = some (9, 107) := by kernel_rfl
theorem fi110_10 : fieldT Try.prog 110 10 = some (10, 108) := by kernel_rfl
theorem tyF : type_of% (And.intro (And.intro (And.intro (And.intro (And.intro (And.intro (And.intro (And.intro (ag2) (And.intro (si2) (sz2))) (And.intro (by2) (And.intro (ze2)
  (ag3)))) (And.intro (And.intro (si3) (And.intro (sz3) (by3))) (And.intro (ze3) (And.intro (ag4) (si4))))) (And.intro (And.intro (And.intro (sz4) (And.intro (by4) (bo4)))
  (And.intro (ze4) (And.intro (ag5) (si5)))) (And.intro (And.intro (sz5) (And.intro (by5) (ze5))) (And.intro (And.intro (ag6) (si6)) (And.intro (sz6) (by6)))))) (And.intro
  (And.intro (And.intro (And.intro (ze6) (And.intro (ag7) (si7))) (And.intro (sz7) (And.intro (by7) (str7)))) (And.intro (And.intro (fi7_0) (And.intro (fi7_1) (fi7_2))) (And.intro
  (And.intro (fi7_3) (ze7)) (And.intro (ag8) (si8))))) (And.intro (And.intro (And.intro (sz8) (And.intro (by8) (str8))) (And.intro (fi8_0) (And.intro (fi8_1) (fi8_2)))) (And.intro
  (And.intro (fi8_3) (And.intro (ze8) (ag9))) (And.intro (And.intro (si9) (sz9)) (And.intro (by9) (st9))))))) (And.intro (And.intro (And.intro (And.intro (And.intro (ze9) (And.intro
  (ag10) (si10))) (And.intro (sz10) (And.intro (by10) (st10)))) (And.intro (And.intro (ze10) (And.intro (ag11) (si11))) (And.intro (And.intro (sz11) (by11)) (And.intro (st11)
  (ze11))))) (And.intro (And.intro (And.intro (ag12) (And.intro (si12) (sz12))) (And.intro (by12) (And.intro (ze12) (ag13)))) (And.intro (And.intro (si13) (And.intro (sz13) (by13)))
  (And.intro (And.intro (str13) (fi13_0)) (And.intro (fi13_1) (ze13)))))) (And.intro (And.intro (And.intro (And.intro (ag14) (And.intro (si14) (sz14))) (And.intro (by14) (And.intro
  (str14) (fi14_0)))) (And.intro (And.intro (fi14_1) (And.intro (ze14) (ag15))) (And.intro (And.intro (si15) (sz15)) (And.intro (by15) (ze15))))) (And.intro (And.intro (And.intro
  (ag16) (And.intro (si16) (sz16))) (And.intro (by16) (And.intro (ze16) (ag17)))) (And.intro (And.intro (si17) (And.intro (sz17) (by17))) (And.intro (And.intro (ze17) (ag18))
  (And.intro (si18) (sz18)))))))) (And.intro (And.intro (And.intro (And.intro (And.intro (And.intro (by18) (And.intro (str18) (fi18_0))) (And.intro (ze18) (And.intro (ag19)
  (si19)))) (And.intro (And.intro (sz19) (And.intro (by19) (str19))) (And.intro (fi19_0) (And.intro (ze19) (ag21))))) (And.intro (And.intro (And.intro (si21) (And.intro (sz21)
  (by21))) (And.intro (ze21) (And.intro (ag24) (el24)))) (And.intro (And.intro (si24) (And.intro (sz24) (by24))) (And.intro (And.intro (ze24) (ag27)) (And.intro (el27) (si27))))))
  (And.intro (And.intro (And.intro (And.intro (sz27) (And.intro (by27) (ze27))) (And.intro (ag31) (And.intro (el31) (si31)))) (And.intro (And.intro (sz31) (And.intro (by31) (ze31)))
  (And.intro (And.intro (ag37) (si37)) (And.intro (sz37) (by37))))) (And.intro (And.intro (And.intro (eq37) (And.intro (str37) (fi37_0))) (And.intro (fi37_1) (And.intro (fi37_2)
  (fi37_3)))) (And.intro (And.intro (fi37_4) (And.intro (fi37_5) (fi37_6))) (And.intro (And.intro (fi37_7) (ze37)) (And.intro (ag38) (si38))))))) (And.intro (And.intro (And.intro
  (And.intro (And.intro (sz38) (And.intro (by38) (eq38))) (And.intro (str38) (And.intro (fi38_0) (fi38_1)))) (And.intro (And.intro (fi38_2) (And.intro (fi38_3) (fi38_4))) (And.intro
  (And.intro (fi38_5) (fi38_6)) (And.intro (fi38_7) (ze38))))) (And.intro (And.intro (And.intro (ag40) (And.intro (si40) (sz40))) (And.intro (by40) (And.intro (eq40) (str40))))
  (And.intro (And.intro (fi40_0) (And.intro (fi40_1) (fi40_2))) (And.intro (And.intro (fi40_3) (fi40_4)) (And.intro (fi40_5) (fi40_6)))))) (And.intro (And.intro (And.intro
  (And.intro (fi40_7) (And.intro (ze40) (ag44))) (And.intro (el44) (And.intro (si44) (sz44)))) (And.intro (And.intro (by44) (And.intro (ze44) (ag46))) (And.intro (And.intro (si46)
  (sz46)) (And.intro (by46) (ze46))))) (And.intro (And.intro (And.intro (ag48) (And.intro (si48) (sz48))) (And.intro (by48) (And.intro (ze48) (ag49)))) (And.intro (And.intro (si49)
  (And.intro (sz49) (by49))) (And.intro (And.intro (eq49) (str49)) (And.intro (fi49_0) (fi49_1))))))))) (And.intro (And.intro (And.intro (And.intro (And.intro (And.intro (And.intro
  (ze49) (And.intro (ag50) (si50))) (And.intro (sz50) (And.intro (by50) (eq50)))) (And.intro (And.intro (str50) (And.intro (fi50_0) (fi50_1))) (And.intro (ze50) (And.intro (ag51)
  (el51))))) (And.intro (And.intro (And.intro (si51) (And.intro (sz51) (by51))) (And.intro (ze51) (And.intro (ag54) (el54)))) (And.intro (And.intro (si54) (And.intro (sz54) (by54)))
  (And.intro (And.intro (ze54) (ag59)) (And.intro (si59) (sz59)))))) (And.intro (And.intro (And.intro (And.intro (by59) (And.intro (eq59) (str59))) (And.intro (fi59_0) (And.intro
  (fi59_1) (ze59)))) (And.intro (And.intro (ag65) (And.intro (el65) (si65))) (And.intro (And.intro (sz65) (by65)) (And.intro (ze65) (ag70))))) (And.intro (And.intro (And.intro
  (si70) (And.intro (sz70) (by70))) (And.intro (eq70) (And.intro (str70) (fi70_0)))) (And.intro (And.intro (fi70_1) (And.intro (ze70) (ag71))) (And.intro (And.intro (si71) (sz71))
  (And.intro (by71) (eq71))))))) (And.intro (And.intro (And.intro (And.intro (And.intro (str71) (And.intro (fi71_0) (fi71_1))) (And.intro (ze71) (And.intro (ag73) (si73))))
  (And.intro (And.intro (sz73) (And.intro (by73) (eq73))) (And.intro (And.intro (str73) (fi73_0)) (And.intro (fi73_1) (ze73))))) (And.intro (And.intro (And.intro (ag76) (And.intro
  (si76) (sz76))) (And.intro (by76) (And.intro (str76) (fi76_0)))) (And.intro (And.intro (fi76_1) (And.intro (fi76_2) (ze76))) (And.intro (And.intro (ag77) (si77)) (And.intro (sz77)
  (by77)))))) (And.intro (And.intro (And.intro (And.intro (str77) (And.intro (fi77_0) (fi77_1))) (And.intro (fi77_2) (And.intro (ze77) (ag78)))) (And.intro (And.intro (si78)
  (And.intro (sz78) (by78))) (And.intro (And.intro (ze78) (ag80)) (And.intro (si80) (sz80))))) (And.intro (And.intro (And.intro (by80) (And.intro (str80) (fi80_0))) (And.intro
  (fi80_1) (And.intro (ze80) (ag81)))) (And.intro (And.intro (si81) (And.intro (sz81) (by81))) (And.intro (And.intro (str81) (fi81_0)) (And.intro (fi81_1) (ze81)))))))) (And.intro
  (And.intro (And.intro (And.intro (And.intro (And.intro (ag84) (And.intro (si84) (sz84))) (And.intro (by84) (And.intro (str84) (fi84_0)))) (And.intro (And.intro (fi84_1) (And.intro
  (ze84) (ag96))) (And.intro (And.intro (si96) (sz96)) (And.intro (by96) (str96))))) (And.intro (And.intro (And.intro (fi96_0) (And.intro (fi96_1) (fi96_2))) (And.intro (fi96_3)
  (And.intro (ze96) (ag97)))) (And.intro (And.intro (si97) (And.intro (sz97) (by97))) (And.intro (And.intro (str97) (fi97_0)) (And.intro (fi97_1) (fi97_2)))))) (And.intro (And.intro
  (And.intro (And.intro (fi97_3) (And.intro (ze97) (ag98))) (And.intro (si98) (And.intro (sz98) (by98)))) (And.intro (And.intro (ag99) (And.intro (si99) (sz99))) (And.intro
  (And.intro (by99) (str99)) (And.intro (ag100) (si100))))) (And.intro (And.intro (And.intro (sz100) (And.intro (by100) (str100))) (And.intro (ag102) (And.intro (si102) (sz102))))
  (And.intro (And.intro (by102) (And.intro (ze102) (ag103))) (And.intro (And.intro (si103) (sz103)) (And.intro (by103) (ze103))))))) (And.intro (And.intro (And.intro (And.intro
  (And.intro (ag104) (And.intro (si104) (sz104))) (And.intro (by104) (And.intro (ze104) (ag106)))) (And.intro (And.intro (si106) (And.intro (sz106) (by106))) (And.intro (And.intro
  (ze106) (ag107)) (And.intro (si107) (sz107))))) (And.intro (And.intro (And.intro (by107) (And.intro (ze107) (ag108))) (And.intro (si108) (And.intro (sz108) (by108)))) (And.intro
  (And.intro (ze108) (And.intro (ag109) (si109))) (And.intro (And.intro (sz109) (by109)) (And.intro (str109) (fi109_0)))))) (And.intro (And.intro (And.intro (And.intro (fi109_1)
  (And.intro (fi109_2) (fi109_3))) (And.intro (fi109_4) (And.intro (fi109_5) (fi109_6)))) (And.intro (And.intro (fi109_7) (And.intro (fi109_8) (fi109_9))) (And.intro (And.intro
  (fi109_10) (ag110)) (And.intro (si110) (sz110))))) (And.intro (And.intro (And.intro (by110) (And.intro (str110) (fi110_0))) (And.intro (fi110_1) (And.intro (fi110_2) (fi110_3))))
  (And.intro (And.intro (fi110_4) (And.intro (fi110_5) (fi110_6))) (And.intro (And.intro (fi110_7) (fi110_8)) (And.intro (fi110_9) (fi110_10)))))))))) := And.intro (And.intro
  (And.intro (And.intro (And.intro (And.intro (And.intro (And.intro (ag2) (And.intro (si2) (sz2))) (And.intro (by2) (And.intro (ze2) (ag3)))) (And.intro (And.intro (si3) (And.intro
  (sz3) (by3))) (And.intro (ze3) (And.intro (ag4) (si4))))) (And.intro (And.intro (And.intro (sz4) (And.intro (by4) (bo4))) (And.intro (ze4) (And.intro (ag5) (si5)))) (And.intro
  (And.intro (sz5) (And.intro (by5) (ze5))) (And.intro (And.intro (ag6) (si6)) (And.intro (sz6) (by6)))))) (And.intro (And.intro (And.intro (And.intro (ze6) (And.intro (ag7) (si7)))
  (And.intro (sz7) (And.intro (by7) (str7)))) (And.intro (And.intro (fi7_0) (And.intro (fi7_1) (fi7_2))) (And.intro (And.intro (fi7_3) (ze7)) (And.intro (ag8) (si8))))) (And.intro
  (And.intro (And.intro (sz8) (And.intro (by8) (str8))) (And.intro (fi8_0) (And.intro (fi8_1) (fi8_2)))) (And.intro (And.intro (fi8_3) (And.intro (ze8) (ag9))) (And.intro (And.intro
  (si9) (sz9)) (And.intro (by9) (st9))))))) (And.intro (And.intro (And.intro (And.intro (And.intro (ze9) (And.intro (ag10) (si10))) (And.intro (sz10) (And.intro (by10) (st10))))
  (And.intro (And.intro (ze10) (And.intro (ag11) (si11))) (And.intro (And.intro (sz11) (by11)) (And.intro (st11) (ze11))))) (And.intro (And.intro (And.intro (ag12) (And.intro (si12)
  (sz12))) (And.intro (by12) (And.intro (ze12) (ag13)))) (And.intro (And.intro (si13) (And.intro (sz13) (by13))) (And.intro (And.intro (str13) (fi13_0)) (And.intro (fi13_1)
  (ze13)))))) (And.intro (And.intro (And.intro (And.intro (ag14) (And.intro (si14) (sz14))) (And.intro (by14) (And.intro (str14) (fi14_0)))) (And.intro (And.intro (fi14_1)
  (And.intro (ze14) (ag15))) (And.intro (And.intro (si15) (sz15)) (And.intro (by15) (ze15))))) (And.intro (And.intro (And.intro (ag16) (And.intro (si16) (sz16))) (And.intro (by16)
  (And.intro (ze16) (ag17)))) (And.intro (And.intro (si17) (And.intro (sz17) (by17))) (And.intro (And.intro (ze17) (ag18)) (And.intro (si18) (sz18)))))))) (And.intro (And.intro
  (And.intro (And.intro (And.intro (And.intro (by18) (And.intro (str18) (fi18_0))) (And.intro (ze18) (And.intro (ag19) (si19)))) (And.intro (And.intro (sz19) (And.intro (by19)
  (str19))) (And.intro (fi19_0) (And.intro (ze19) (ag21))))) (And.intro (And.intro (And.intro (si21) (And.intro (sz21) (by21))) (And.intro (ze21) (And.intro (ag24) (el24))))
  (And.intro (And.intro (si24) (And.intro (sz24) (by24))) (And.intro (And.intro (ze24) (ag27)) (And.intro (el27) (si27)))))) (And.intro (And.intro (And.intro (And.intro (sz27)
  (And.intro (by27) (ze27))) (And.intro (ag31) (And.intro (el31) (si31)))) (And.intro (And.intro (sz31) (And.intro (by31) (ze31))) (And.intro (And.intro (ag37) (si37)) (And.intro
  (sz37) (by37))))) (And.intro (And.intro (And.intro (eq37) (And.intro (str37) (fi37_0))) (And.intro (fi37_1) (And.intro (fi37_2) (fi37_3)))) (And.intro (And.intro (fi37_4)
  (And.intro (fi37_5) (fi37_6))) (And.intro (And.intro (fi37_7) (ze37)) (And.intro (ag38) (si38))))))) (And.intro (And.intro (And.intro (And.intro (And.intro (sz38) (And.intro
  (by38) (eq38))) (And.intro (str38) (And.intro (fi38_0) (fi38_1)))) (And.intro (And.intro (fi38_2) (And.intro (fi38_3) (fi38_4))) (And.intro (And.intro (fi38_5) (fi38_6))
  (And.intro (fi38_7) (ze38))))) (And.intro (And.intro (And.intro (ag40) (And.intro (si40) (sz40))) (And.intro (by40) (And.intro (eq40) (str40)))) (And.intro (And.intro (fi40_0)
  (And.intro (fi40_1) (fi40_2))) (And.intro (And.intro (fi40_3) (fi40_4)) (And.intro (fi40_5) (fi40_6)))))) (And.intro (And.intro (And.intro (And.intro (fi40_7) (And.intro (ze40)
  (ag44))) (And.intro (el44) (And.intro (si44) (sz44)))) (And.intro (And.intro (by44) (And.intro (ze44) (ag46))) (And.intro (And.intro (si46) (sz46)) (And.intro (by46) (ze46)))))
  (And.intro (And.intro (And.intro (ag48) (And.intro (si48) (sz48))) (And.intro (by48) (And.intro (ze48) (ag49)))) (And.intro (And.intro (si49) (And.intro (sz49) (by49))) (And.intro
  (And.intro (eq49) (str49)) (And.intro (fi49_0) (fi49_1))))))))) (And.intro (And.intro (And.intro (And.intro (And.intro (And.intro (And.intro (ze49) (And.intro (ag50) (si50)))
  (And.intro (sz50) (And.intro (by50) (eq50)))) (And.intro (And.intro (str50) (And.intro (fi50_0) (fi50_1))) (And.intro (ze50) (And.intro (ag51) (el51))))) (And.intro (And.intro
  (And.intro (si51) (And.intro (sz51) (by51))) (And.intro (ze51) (And.intro (ag54) (el54)))) (And.intro (And.intro (si54) (And.intro (sz54) (by54))) (And.intro (And.intro (ze54)
  (ag59)) (And.intro (si59) (sz59)))))) (And.intro (And.intro (And.intro (And.intro (by59) (And.intro (eq59) (str59))) (And.intro (fi59_0) (And.intro (fi59_1) (ze59)))) (And.intro
  (And.intro (ag65) (And.intro (el65) (si65))) (And.intro (And.intro (sz65) (by65)) (And.intro (ze65) (ag70))))) (And.intro (And.intro (And.intro (si70) (And.intro (sz70) (by70)))
  (And.intro (eq70) (And.intro (str70) (fi70_0)))) (And.intro (And.intro (fi70_1) (And.intro (ze70) (ag71))) (And.intro (And.intro (si71) (sz71)) (And.intro (by71) (eq71)))))))
  (And.intro (And.intro (And.intro (And.intro (And.intro (str71) (And.intro (fi71_0) (fi71_1))) (And.intro (ze71) (And.intro (ag73) (si73)))) (And.intro (And.intro (sz73) (And.intro
  (by73) (eq73))) (And.intro (And.intro (str73) (fi73_0)) (And.intro (fi73_1) (ze73))))) (And.intro (And.intro (And.intro (ag76) (And.intro (si76) (sz76))) (And.intro (by76)
  (And.intro (str76) (fi76_0)))) (And.intro (And.intro (fi76_1) (And.intro (fi76_2) (ze76))) (And.intro (And.intro (ag77) (si77)) (And.intro (sz77) (by77)))))) (And.intro (And.intro
  (And.intro (And.intro (str77) (And.intro (fi77_0) (fi77_1))) (And.intro (fi77_2) (And.intro (ze77) (ag78)))) (And.intro (And.intro (si78) (And.intro (sz78) (by78))) (And.intro
  (And.intro (ze78) (ag80)) (And.intro (si80) (sz80))))) (And.intro (And.intro (And.intro (by80) (And.intro (str80) (fi80_0))) (And.intro (fi80_1) (And.intro (ze80) (ag81))))
  (And.intro (And.intro (si81) (And.intro (sz81) (by81))) (And.intro (And.intro (str81) (fi81_0)) (And.intro (fi81_1) (ze81)))))))) (And.intro (And.intro (And.intro (And.intro
  (And.intro (And.intro (ag84) (And.intro (si84) (sz84))) (And.intro (by84) (And.intro (str84) (fi84_0)))) (And.intro (And.intro (fi84_1) (And.intro (ze84) (ag96))) (And.intro
  (And.intro (si96) (sz96)) (And.intro (by96) (str96))))) (And.intro (And.intro (And.intro (fi96_0) (And.intro (fi96_1) (fi96_2))) (And.intro (fi96_3) (And.intro (ze96) (ag97))))
  (And.intro (And.intro (si97) (And.intro (sz97) (by97))) (And.intro (And.intro (str97) (fi97_0)) (And.intro (fi97_1) (fi97_2)))))) (And.intro (And.intro (And.intro (And.intro
  (fi97_3) (And.intro (ze97) (ag98))) (And.intro (si98) (And.intro (sz98) (by98)))) (And.intro (And.intro (ag99) (And.intro (si99) (sz99))) (And.intro (And.intro (by99) (str99))
  (And.intro (ag100) (si100))))) (And.intro (And.intro (And.intro (sz100) (And.intro (by100) (str100))) (And.intro (ag102) (And.intro (si102) (sz102)))) (And.intro (And.intro
  (by102) (And.intro (ze102) (ag103))) (And.intro (And.intro (si103) (sz103)) (And.intro (by103) (ze103))))))) (And.intro (And.intro (And.intro (And.intro (And.intro (ag104)
  (And.intro (si104) (sz104))) (And.intro (by104) (And.intro (ze104) (ag106)))) (And.intro (And.intro (si106) (And.intro (sz106) (by106))) (And.intro (And.intro (ze106) (ag107))
  (And.intro (si107) (sz107))))) (And.intro (And.intro (And.intro (by107) (And.intro (ze107) (ag108))) (And.intro (si108) (And.intro (sz108) (by108)))) (And.intro (And.intro (ze108)
  (And.intro (ag109) (si109))) (And.intro (And.intro (sz109) (by109)) (And.intro (str109) (fi109_0)))))) (And.intro (And.intro (And.intro (And.intro (fi109_1) (And.intro (fi109_2)
  (fi109_3))) (And.intro (fi109_4) (And.intro (fi109_5) (fi109_6)))) (And.intro (And.intro (fi109_7) (And.intro (fi109_8) (fi109_9))) (And.intro (And.intro (fi109_10) (ag110))
  (And.intro (si110) (sz110))))) (And.intro (And.intro (And.intro (by110) (And.intro (str110) (fi110_0))) (And.intro (fi110_1) (And.intro (fi110_2) (fi110_3)))) (And.intro
  (And.intro (fi110_4) (And.intro (fi110_5) (fi110_6))) (And.intro (And.intro (fi110_7) (fi110_8)) (And.intro (fi110_9) (fi110_10)))))))))
end Go.AM
