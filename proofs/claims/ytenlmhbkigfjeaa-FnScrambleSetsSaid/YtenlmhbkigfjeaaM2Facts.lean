/-
  WHAT THE PROGRAM SAYS OF ITS TYPES,each fact by reckoning.
-/
import Derived.Test.YtenlmhbkigfjeaaM2Tool
import Derived.Test.YtenlmhbkigfjeaaProg
set_option linter.unusedVariables false
namespace Go.AM
open Go.Proofs
theorem mixed:Try.prog.follows .mixedOrders=true:=by kernel_rfl
theorem kt1:kindT Try.prog 1=some 3:=by kernel_rfl
theorem ag2:aggT Try.prog 2=some false:=by kernel_rfl
theorem si2:sizeT Try.prog 2=1:=by kernel_rfl
theorem sz2:szT Try.prog 2=some 1:=by kernel_rfl
theorem by2:bytesT Try.prog 2=8:=by kernel_rfl
theorem in2:intT Try.prog 2=some .i64:=by kernel_rfl
theorem zv2:zeroV Try.prog 2=some (.int .i64 0):=by kernel_rfl
theorem ze2:zeroT Try.prog 2=some [.int .i64 0]:=by kernel_rfl
theorem ag3:aggT Try.prog 3=some false:=by kernel_rfl
theorem si3:sizeT Try.prog 3=1:=by kernel_rfl
theorem sz3:szT Try.prog 3=some 1:=by kernel_rfl
theorem by3:bytesT Try.prog 3=8:=by kernel_rfl
theorem in3:intT Try.prog 3=some .i64:=by kernel_rfl
theorem zv3:zeroV Try.prog 3=some (.int .i64 0):=by kernel_rfl
theorem ze3:zeroT Try.prog 3=some [.int .i64 0]:=by kernel_rfl
theorem ag4:aggT Try.prog 4=some false:=by kernel_rfl
theorem si4:sizeT Try.prog 4=1:=by kernel_rfl
theorem sz4:szT Try.prog 4=some 1:=by kernel_rfl
theorem by4:bytesT Try.prog 4=1:=by kernel_rfl
theorem bo4:boolT Try.prog 4=true:=by kernel_rfl
theorem zv4:zeroV Try.prog 4=some (.bool false):=by kernel_rfl
theorem ze4:zeroT Try.prog 4=some [.bool false]:=by kernel_rfl
theorem ag5:aggT Try.prog 5=some false:=by kernel_rfl
theorem si5:sizeT Try.prog 5=1:=by kernel_rfl
theorem sz5:szT Try.prog 5=some 1:=by kernel_rfl
theorem by5:bytesT Try.prog 5=1:=by kernel_rfl
theorem in5:intT Try.prog 5=some .u8:=by kernel_rfl
theorem zv5:zeroV Try.prog 5=some (.int .u8 0):=by kernel_rfl
theorem ze5:zeroT Try.prog 5=some [.int .u8 0]:=by kernel_rfl
theorem ag6:aggT Try.prog 6=some false:=by kernel_rfl
theorem si6:sizeT Try.prog 6=1:=by kernel_rfl
theorem sz6:szT Try.prog 6=some 1:=by kernel_rfl
theorem by6:bytesT Try.prog 6=1:=by kernel_rfl
theorem in6:intT Try.prog 6=some .u8:=by kernel_rfl
theorem zv6:zeroV Try.prog 6=some (.int .u8 0):=by kernel_rfl
theorem ze6:zeroT Try.prog 6=some [.int .u8 0]:=by kernel_rfl
theorem ag7:aggT Try.prog 7=some true:=by kernel_rfl
theorem si7:sizeT Try.prog 7=4:=by kernel_rfl
theorem sz7:szT Try.prog 7=some 4:=by kernel_rfl
theorem by7:bytesT Try.prog 7=24:=by kernel_rfl
theorem str7:structT Try.prog 7=true:=by kernel_rfl
theorem fi7_0:fieldT Try.prog 7 0=some (0,2):=by kernel_rfl
theorem fi7_1:fieldT Try.prog 7 1=some (1,3):=by kernel_rfl
theorem fi7_2:fieldT Try.prog 7 2=some (2,4):=by kernel_rfl
theorem fi7_3:fieldT Try.prog 7 3=some (3,6):=by kernel_rfl
theorem ze7:zeroT Try.prog 7=some [.int .i64 0,.int .i64 0,.bool false,.int .u8 0]:=by kernel_rfl
theorem ag8:aggT Try.prog 8=some true:=by kernel_rfl
theorem si8:sizeT Try.prog 8=4:=by kernel_rfl
theorem sz8:szT Try.prog 8=some 4:=by kernel_rfl
theorem by8:bytesT Try.prog 8=24:=by kernel_rfl
theorem str8:structT Try.prog 8=true:=by kernel_rfl
theorem fi8_0:fieldT Try.prog 8 0=some (0,2):=by kernel_rfl
theorem fi8_1:fieldT Try.prog 8 1=some (1,3):=by kernel_rfl
theorem fi8_2:fieldT Try.prog 8 2=some (2,4):=by kernel_rfl
theorem fi8_3:fieldT Try.prog 8 3=some (3,6):=by kernel_rfl
theorem ze8:zeroT Try.prog 8=some [.int .i64 0,.int .i64 0,.bool false,.int .u8 0]:=by kernel_rfl
theorem ag9:aggT Try.prog 9=some false:=by kernel_rfl
theorem si9:sizeT Try.prog 9=1:=by kernel_rfl
theorem sz9:szT Try.prog 9=some 1:=by kernel_rfl
theorem by9:bytesT Try.prog 9=16:=by kernel_rfl
theorem st9:stringT Try.prog 9=true:=by kernel_rfl
theorem zv9:zeroV Try.prog 9=some (.string ⟨#[]⟩):=by kernel_rfl
theorem ze9:zeroT Try.prog 9=some [.string ⟨#[]⟩]:=by kernel_rfl
theorem ag22:aggT Try.prog 22=some false:=by kernel_rfl
theorem el22:elemT Try.prog 22=some 5:=by kernel_rfl
theorem si22:sizeT Try.prog 22=1:=by kernel_rfl
theorem sz22:szT Try.prog 22=some 1:=by kernel_rfl
theorem by22:bytesT Try.prog 22=24:=by kernel_rfl
theorem kt22:kindT Try.prog 22=some 0:=by kernel_rfl
theorem zv22:zeroV Try.prog 22=some (.slice none 0 0):=by kernel_rfl
theorem ze22:zeroT Try.prog 22=some [.slice none 0 0]:=by kernel_rfl
theorem ag32:aggT Try.prog 32=some false:=by kernel_rfl
theorem si32:sizeT Try.prog 32=1:=by kernel_rfl
theorem sz32:szT Try.prog 32=some 1:=by kernel_rfl
theorem by32:bytesT Try.prog 32=8:=by kernel_rfl
theorem kt32:kindT Try.prog 32=some 1:=by kernel_rfl
theorem zv32:zeroV Try.prog 32=some (.pointer none):=by kernel_rfl
theorem ze32:zeroT Try.prog 32=some [.pointer none]:=by kernel_rfl
theorem ag34:aggT Try.prog 34=some false:=by kernel_rfl
theorem si34:sizeT Try.prog 34=1:=by kernel_rfl
theorem sz34:szT Try.prog 34=some 1:=by kernel_rfl
theorem by34:bytesT Try.prog 34=8:=by kernel_rfl
theorem in34:intT Try.prog 34=some .u64:=by kernel_rfl
theorem zv34:zeroV Try.prog 34=some (.int .u64 0):=by kernel_rfl
theorem ze34:zeroT Try.prog 34=some [.int .u64 0]:=by kernel_rfl
theorem ag46:aggT Try.prog 46=some false:=by kernel_rfl
theorem el46:elemT Try.prog 46=some 52:=by kernel_rfl
theorem si46:sizeT Try.prog 46=1:=by kernel_rfl
theorem sz46:szT Try.prog 46=some 1:=by kernel_rfl
theorem by46:bytesT Try.prog 46=24:=by kernel_rfl
theorem kt46:kindT Try.prog 46=some 0:=by kernel_rfl
theorem zv46:zeroV Try.prog 46=some (.slice none 0 0):=by kernel_rfl
theorem ze46:zeroT Try.prog 46=some [.slice none 0 0]:=by kernel_rfl
theorem ag48:aggT Try.prog 48=some true:=by kernel_rfl
theorem si48:sizeT Try.prog 48=3:=by kernel_rfl
theorem sz48:szT Try.prog 48=some 3:=by kernel_rfl
theorem by48:bytesT Try.prog 48=48:=by kernel_rfl
theorem str48:structT Try.prog 48=true:=by kernel_rfl
theorem fi48_0:fieldT Try.prog 48 0=some (0,2):=by kernel_rfl
theorem fi48_1:fieldT Try.prog 48 1=some (1,9):=by kernel_rfl
theorem fi48_2:fieldT Try.prog 48 2=some (2,46):=by kernel_rfl
theorem ze48:zeroT Try.prog 48=some [.int .i64 0,.string ⟨#[]⟩,.slice none 0 0]:=by kernel_rfl
theorem ag52:aggT Try.prog 52=some false:=by kernel_rfl
theorem el52:elemT Try.prog 52=some 2:=by kernel_rfl
theorem si52:sizeT Try.prog 52=1:=by kernel_rfl
theorem sz52:szT Try.prog 52=some 1:=by kernel_rfl
theorem by52:bytesT Try.prog 52=24:=by kernel_rfl
theorem kt52:kindT Try.prog 52=some 0:=by kernel_rfl
theorem zv52:zeroV Try.prog 52=some (.slice none 0 0):=by kernel_rfl
theorem ze52:zeroT Try.prog 52=some [.slice none 0 0]:=by kernel_rfl
theorem ag99:aggT Try.prog 99=some false:=by kernel_rfl
theorem si99:sizeT Try.prog 99=1:=by kernel_rfl
theorem sz99:szT Try.prog 99=some 1:=by kernel_rfl
theorem by99:bytesT Try.prog 99=8:=by kernel_rfl
theorem kt99:kindT Try.prog 99=some 1:=by kernel_rfl
theorem zv99:zeroV Try.prog 99=some (.pointer none):=by kernel_rfl
theorem ze99:zeroT Try.prog 99=some [.pointer none]:=by kernel_rfl
theorem ag110:aggT Try.prog 110=some true:=by kernel_rfl
theorem si110:sizeT Try.prog 110=3:=by kernel_rfl
theorem sz110:szT Try.prog 110=some 3:=by kernel_rfl
theorem by110:bytesT Try.prog 110=40:=by kernel_rfl
theorem str110:structT Try.prog 110=true:=by kernel_rfl
theorem fi110_0:fieldT Try.prog 110 0=some (0,22):=by kernel_rfl
theorem fi110_1:fieldT Try.prog 110 1=some (1,3):=by kernel_rfl
theorem fi110_2:fieldT Try.prog 110 2=some (2,34):=by kernel_rfl
theorem ze110:zeroT Try.prog 110=some [.slice none 0 0,.int .i64 0,.int .u64 0]:=by kernel_rfl
theorem kt134:kindT Try.prog 134=some 3:=by kernel_rfl
theorem ag138:aggT Try.prog 138=some false:=by kernel_rfl
theorem si138:sizeT Try.prog 138=1:=by kernel_rfl
theorem sz138:szT Try.prog 138=some 1:=by kernel_rfl
theorem by138:bytesT Try.prog 138=8:=by kernel_rfl
theorem mp138:mapT Try.prog 138=some (true,4):=by kernel_rfl
theorem zv138:zeroV Try.prog 138=some (.map none):=by kernel_rfl
theorem ze138:zeroT Try.prog 138=some [.map none]:=by kernel_rfl
theorem kt139:kindT Try.prog 139=some 3:=by kernel_rfl
theorem ag141:aggT Try.prog 141=some false:=by kernel_rfl
theorem si141:sizeT Try.prog 141=1:=by kernel_rfl
theorem sz141:szT Try.prog 141=some 1:=by kernel_rfl
theorem by141:bytesT Try.prog 141=8:=by kernel_rfl
theorem kt141:kindT Try.prog 141=some 1:=by kernel_rfl
theorem zv141:zeroV Try.prog 141=some (.pointer none):=by kernel_rfl
theorem ze141:zeroT Try.prog 141=some [.pointer none]:=by kernel_rfl
theorem ag145:aggT Try.prog 145=some false:=by kernel_rfl
theorem si145:sizeT Try.prog 145=1:=by kernel_rfl
theorem sz145:szT Try.prog 145=some 1:=by kernel_rfl
theorem by145:bytesT Try.prog 145=8:=by kernel_rfl
theorem mp145:mapT Try.prog 145=some (true,2):=by kernel_rfl
theorem zv145:zeroV Try.prog 145=some (.map none):=by kernel_rfl
theorem ze145:zeroT Try.prog 145=some [.map none]:=by kernel_rfl
theorem ag147:aggT Try.prog 147=some true:=by kernel_rfl
theorem si147:sizeT Try.prog 147=9:=by kernel_rfl
theorem sz147:szT Try.prog 147=some 9:=by kernel_rfl
theorem by147:bytesT Try.prog 147=176:=by kernel_rfl
theorem str147:structT Try.prog 147=true:=by kernel_rfl
theorem fi147_0:fieldT Try.prog 147 0=some (0,48):=by kernel_rfl
theorem fi147_1:fieldT Try.prog 147 1=some (3,46):=by kernel_rfl
theorem fi147_2:fieldT Try.prog 147 2=some (4,52):=by kernel_rfl
theorem fi147_3:fieldT Try.prog 147 3=some (5,145):=by kernel_rfl
theorem fi147_4:fieldT Try.prog 147 4=some (6,52):=by kernel_rfl
theorem fi147_5:fieldT Try.prog 147 5=some (7,52):=by kernel_rfl
theorem fi147_6:fieldT Try.prog 147 6=some (8,46):=by kernel_rfl
theorem ze147:zeroT Try.prog 147=some [.int .i64 0,.string ⟨#[]⟩,.slice none 0 0,.slice none 0 0,.slice none 0 0,.map none,.slice none 0 0,.slice none 0 0,.slice none 0 0]:=by kernel_rfl
theorem ag151:aggT Try.prog 151=some false:=by kernel_rfl
theorem el151:elemT Try.prog 151=some 3:=by kernel_rfl
theorem si151:sizeT Try.prog 151=1:=by kernel_rfl
theorem sz151:szT Try.prog 151=some 1:=by kernel_rfl
theorem by151:bytesT Try.prog 151=24:=by kernel_rfl
theorem kt151:kindT Try.prog 151=some 0:=by kernel_rfl
theorem zv151:zeroV Try.prog 151=some (.slice none 0 0):=by kernel_rfl
theorem ze151:zeroT Try.prog 151=some [.slice none 0 0]:=by kernel_rfl
theorem ag153:aggT Try.prog 153=some true:=by kernel_rfl
theorem si153:sizeT Try.prog 153=4:=by kernel_rfl
theorem sz153:szT Try.prog 153=some 4:=by kernel_rfl
theorem by153:bytesT Try.prog 153=80:=by kernel_rfl
theorem str153:structT Try.prog 153=true:=by kernel_rfl
theorem fi153_0:fieldT Try.prog 153 0=some (0,46):=by kernel_rfl
theorem fi153_1:fieldT Try.prog 153 1=some (1,52):=by kernel_rfl
theorem fi153_2:fieldT Try.prog 153 2=some (2,151):=by kernel_rfl
theorem fi153_3:fieldT Try.prog 153 3=some (3,4):=by kernel_rfl
theorem ze153:zeroT Try.prog 153=some [.slice none 0 0,.slice none 0 0,.slice none 0 0,.bool false]:=by kernel_rfl
theorem ag167:aggT Try.prog 167=some true:=by kernel_rfl
theorem si167:sizeT Try.prog 167=3:=by kernel_rfl
theorem sz167:szT Try.prog 167=some 3:=by kernel_rfl
theorem by167:bytesT Try.prog 167=40:=by kernel_rfl
theorem str167:structT Try.prog 167=true:=by kernel_rfl
theorem fi167_0:fieldT Try.prog 167 0=some (0,22):=by kernel_rfl
theorem fi167_1:fieldT Try.prog 167 1=some (1,3):=by kernel_rfl
theorem fi167_2:fieldT Try.prog 167 2=some (2,2):=by kernel_rfl
theorem ze167:zeroT Try.prog 167=some [.slice none 0 0,.int .i64 0,.int .i64 0]:=by kernel_rfl
theorem ag213:aggT Try.prog 213=some false:=by kernel_rfl
theorem el213:elemT Try.prog 213=some 46:=by kernel_rfl
theorem si213:sizeT Try.prog 213=1:=by kernel_rfl
theorem sz213:szT Try.prog 213=some 1:=by kernel_rfl
theorem by213:bytesT Try.prog 213=24:=by kernel_rfl
theorem kt213:kindT Try.prog 213=some 0:=by kernel_rfl
theorem zv213:zeroV Try.prog 213=some (.slice none 0 0):=by kernel_rfl
theorem ze213:zeroT Try.prog 213=some [.slice none 0 0]:=by kernel_rfl
theorem ag218:aggT Try.prog 218=some false:=by kernel_rfl
theorem si218:sizeT Try.prog 218=1:=by kernel_rfl
theorem sz218:szT Try.prog 218=some 1:=by kernel_rfl
theorem by218:bytesT Try.prog 218=8:=by kernel_rfl
theorem kt218:kindT Try.prog 218=some 1:=by kernel_rfl
theorem zv218:zeroV Try.prog 218=some (.pointer none):=by kernel_rfl
theorem ze218:zeroT Try.prog 218=some [.pointer none]:=by kernel_rfl
theorem ag230:aggT Try.prog 230=some true:=by kernel_rfl
theorem si230:sizeT Try.prog 230=3:=by kernel_rfl
theorem sz230:szT Try.prog 230=some 3:=by kernel_rfl
theorem by230:bytesT Try.prog 230=56:=by kernel_rfl
theorem str230:structT Try.prog 230=true:=by kernel_rfl
theorem fi230_0:fieldT Try.prog 230 0=some (0,2):=by kernel_rfl
theorem fi230_1:fieldT Try.prog 230 1=some (1,213):=by kernel_rfl
theorem fi230_2:fieldT Try.prog 230 2=some (2,213):=by kernel_rfl
theorem ze230:zeroT Try.prog 230=some [.int .i64 0,.slice none 0 0,.slice none 0 0]:=by kernel_rfl
theorem tyF:type_of% (And.intro (And.intro (And.intro (And.intro (And.intro (And.intro (And.intro (kt1) (And.intro (ag2) (si2))) (And.intro (sz2) (And.intro (by2) (in2))))
  (And.intro (And.intro (zv2) (And.intro (ze2) (ag3))) (And.intro (And.intro (si3) (sz3)) (And.intro (by3) (in3))))) (And.intro (And.intro (And.intro (zv3) (And.intro (ze3) (ag4)))
  (And.intro (si4) (And.intro (sz4) (by4)))) (And.intro (And.intro (bo4) (And.intro (zv4) (ze4))) (And.intro (And.intro (ag5) (si5)) (And.intro (sz5) (by5)))))) (And.intro
  (And.intro (And.intro (And.intro (in5) (And.intro (zv5) (ze5))) (And.intro (ag6) (And.intro (si6) (sz6)))) (And.intro (And.intro (by6) (And.intro (in6) (zv6))) (And.intro
  (And.intro (ze6) (ag7)) (And.intro (si7) (sz7))))) (And.intro (And.intro (And.intro (by7) (And.intro (str7) (fi7_0))) (And.intro (And.intro (fi7_1) (fi7_2)) (And.intro (fi7_3)
  (ze7)))) (And.intro (And.intro (ag8) (And.intro (si8) (sz8))) (And.intro (And.intro (by8) (str8)) (And.intro (fi8_0) (fi8_1))))))) (And.intro (And.intro (And.intro (And.intro
  (And.intro (fi8_2) (And.intro (fi8_3) (ze8))) (And.intro (ag9) (And.intro (si9) (sz9)))) (And.intro (And.intro (by9) (And.intro (st9) (zv9))) (And.intro (And.intro (ze9) (ag22))
  (And.intro (el22) (si22))))) (And.intro (And.intro (And.intro (sz22) (And.intro (by22) (kt22))) (And.intro (zv22) (And.intro (ze22) (ag32)))) (And.intro (And.intro (si32)
  (And.intro (sz32) (by32))) (And.intro (And.intro (kt32) (zv32)) (And.intro (ze32) (ag34)))))) (And.intro (And.intro (And.intro (And.intro (si34) (And.intro (sz34) (by34)))
  (And.intro (in34) (And.intro (zv34) (ze34)))) (And.intro (And.intro (ag46) (And.intro (el46) (si46))) (And.intro (And.intro (sz46) (by46)) (And.intro (kt46) (zv46))))) (And.intro
  (And.intro (And.intro (ze46) (And.intro (ag48) (si48))) (And.intro (And.intro (sz48) (by48)) (And.intro (str48) (fi48_0)))) (And.intro (And.intro (fi48_1) (And.intro (fi48_2)
  (ze48))) (And.intro (And.intro (ag52) (el52)) (And.intro (si52) (sz52)))))))) (And.intro (And.intro (And.intro (And.intro (And.intro (And.intro (by52) (And.intro (kt52) (zv52)))
  (And.intro (ze52) (And.intro (ag99) (si99)))) (And.intro (And.intro (sz99) (And.intro (by99) (kt99))) (And.intro (And.intro (zv99) (ze99)) (And.intro (ag110) (si110)))))
  (And.intro (And.intro (And.intro (sz110) (And.intro (by110) (str110))) (And.intro (fi110_0) (And.intro (fi110_1) (fi110_2)))) (And.intro (And.intro (ze110) (And.intro (kt134)
  (ag138))) (And.intro (And.intro (si138) (sz138)) (And.intro (by138) (mp138)))))) (And.intro (And.intro (And.intro (And.intro (zv138) (And.intro (ze138) (kt139))) (And.intro
  (ag141) (And.intro (si141) (sz141)))) (And.intro (And.intro (by141) (And.intro (kt141) (zv141))) (And.intro (And.intro (ze141) (ag145)) (And.intro (si145) (sz145))))) (And.intro
  (And.intro (And.intro (by145) (And.intro (mp145) (zv145))) (And.intro (And.intro (ze145) (ag147)) (And.intro (si147) (sz147)))) (And.intro (And.intro (by147) (And.intro (str147)
  (fi147_0))) (And.intro (And.intro (fi147_1) (fi147_2)) (And.intro (fi147_3) (fi147_4))))))) (And.intro (And.intro (And.intro (And.intro (And.intro (fi147_5) (And.intro (fi147_6)
  (ze147))) (And.intro (ag151) (And.intro (el151) (si151)))) (And.intro (And.intro (sz151) (And.intro (by151) (kt151))) (And.intro (And.intro (zv151) (ze151)) (And.intro (ag153)
  (si153))))) (And.intro (And.intro (And.intro (sz153) (And.intro (by153) (str153))) (And.intro (And.intro (fi153_0) (fi153_1)) (And.intro (fi153_2) (fi153_3)))) (And.intro
  (And.intro (ze153) (And.intro (ag167) (si167))) (And.intro (And.intro (sz167) (by167)) (And.intro (str167) (fi167_0)))))) (And.intro (And.intro (And.intro (And.intro (fi167_1)
  (And.intro (fi167_2) (ze167))) (And.intro (ag213) (And.intro (el213) (si213)))) (And.intro (And.intro (sz213) (And.intro (by213) (kt213))) (And.intro (And.intro (zv213) (ze213))
  (And.intro (ag218) (si218))))) (And.intro (And.intro (And.intro (sz218) (And.intro (by218) (kt218))) (And.intro (And.intro (zv218) (ze218)) (And.intro (ag230) (si230))))
  (And.intro (And.intro (sz230) (And.intro (by230) (str230))) (And.intro (And.intro (fi230_0) (fi230_1)) (And.intro (fi230_2) (ze230))))))))):=And.intro (And.intro (And.intro
  (And.intro (And.intro (And.intro (And.intro (kt1) (And.intro (ag2) (si2))) (And.intro (sz2) (And.intro (by2) (in2)))) (And.intro (And.intro (zv2) (And.intro (ze2) (ag3)))
  (And.intro (And.intro (si3) (sz3)) (And.intro (by3) (in3))))) (And.intro (And.intro (And.intro (zv3) (And.intro (ze3) (ag4))) (And.intro (si4) (And.intro (sz4) (by4)))) (And.intro
  (And.intro (bo4) (And.intro (zv4) (ze4))) (And.intro (And.intro (ag5) (si5)) (And.intro (sz5) (by5)))))) (And.intro (And.intro (And.intro (And.intro (in5) (And.intro (zv5) (ze5)))
  (And.intro (ag6) (And.intro (si6) (sz6)))) (And.intro (And.intro (by6) (And.intro (in6) (zv6))) (And.intro (And.intro (ze6) (ag7)) (And.intro (si7) (sz7))))) (And.intro (And.intro
  (And.intro (by7) (And.intro (str7) (fi7_0))) (And.intro (And.intro (fi7_1) (fi7_2)) (And.intro (fi7_3) (ze7)))) (And.intro (And.intro (ag8) (And.intro (si8) (sz8))) (And.intro
  (And.intro (by8) (str8)) (And.intro (fi8_0) (fi8_1))))))) (And.intro (And.intro (And.intro (And.intro (And.intro (fi8_2) (And.intro (fi8_3) (ze8))) (And.intro (ag9) (And.intro
  (si9) (sz9)))) (And.intro (And.intro (by9) (And.intro (st9) (zv9))) (And.intro (And.intro (ze9) (ag22)) (And.intro (el22) (si22))))) (And.intro (And.intro (And.intro (sz22)
  (And.intro (by22) (kt22))) (And.intro (zv22) (And.intro (ze22) (ag32)))) (And.intro (And.intro (si32) (And.intro (sz32) (by32))) (And.intro (And.intro (kt32) (zv32)) (And.intro
  (ze32) (ag34)))))) (And.intro (And.intro (And.intro (And.intro (si34) (And.intro (sz34) (by34))) (And.intro (in34) (And.intro (zv34) (ze34)))) (And.intro (And.intro (ag46)
  (And.intro (el46) (si46))) (And.intro (And.intro (sz46) (by46)) (And.intro (kt46) (zv46))))) (And.intro (And.intro (And.intro (ze46) (And.intro (ag48) (si48))) (And.intro
  (And.intro (sz48) (by48)) (And.intro (str48) (fi48_0)))) (And.intro (And.intro (fi48_1) (And.intro (fi48_2) (ze48))) (And.intro (And.intro (ag52) (el52)) (And.intro (si52)
  (sz52)))))))) (And.intro (And.intro (And.intro (And.intro (And.intro (And.intro (by52) (And.intro (kt52) (zv52))) (And.intro (ze52) (And.intro (ag99) (si99)))) (And.intro
  (And.intro (sz99) (And.intro (by99) (kt99))) (And.intro (And.intro (zv99) (ze99)) (And.intro (ag110) (si110))))) (And.intro (And.intro (And.intro (sz110) (And.intro (by110)
  (str110))) (And.intro (fi110_0) (And.intro (fi110_1) (fi110_2)))) (And.intro (And.intro (ze110) (And.intro (kt134) (ag138))) (And.intro (And.intro (si138) (sz138)) (And.intro
  (by138) (mp138)))))) (And.intro (And.intro (And.intro (And.intro (zv138) (And.intro (ze138) (kt139))) (And.intro (ag141) (And.intro (si141) (sz141)))) (And.intro (And.intro
  (by141) (And.intro (kt141) (zv141))) (And.intro (And.intro (ze141) (ag145)) (And.intro (si145) (sz145))))) (And.intro (And.intro (And.intro (by145) (And.intro (mp145) (zv145)))
  (And.intro (And.intro (ze145) (ag147)) (And.intro (si147) (sz147)))) (And.intro (And.intro (by147) (And.intro (str147) (fi147_0))) (And.intro (And.intro (fi147_1) (fi147_2))
  (And.intro (fi147_3) (fi147_4))))))) (And.intro (And.intro (And.intro (And.intro (And.intro (fi147_5) (And.intro (fi147_6) (ze147))) (And.intro (ag151) (And.intro (el151)
  (si151)))) (And.intro (And.intro (sz151) (And.intro (by151) (kt151))) (And.intro (And.intro (zv151) (ze151)) (And.intro (ag153) (si153))))) (And.intro (And.intro (And.intro
  (sz153) (And.intro (by153) (str153))) (And.intro (And.intro (fi153_0) (fi153_1)) (And.intro (fi153_2) (fi153_3)))) (And.intro (And.intro (ze153) (And.intro (ag167) (si167)))
  (And.intro (And.intro (sz167) (by167)) (And.intro (str167) (fi167_0)))))) (And.intro (And.intro (And.intro (And.intro (fi167_1) (And.intro (fi167_2) (ze167))) (And.intro (ag213)
  (And.intro (el213) (si213)))) (And.intro (And.intro (sz213) (And.intro (by213) (kt213))) (And.intro (And.intro (zv213) (ze213)) (And.intro (ag218) (si218))))) (And.intro
  (And.intro (And.intro (sz218) (And.intro (by218) (kt218))) (And.intro (And.intro (zv218) (ze218)) (And.intro (ag230) (si230)))) (And.intro (And.intro (sz230) (And.intro (by230)
  (str230))) (And.intro (And.intro (fi230_0) (fi230_1)) (And.intro (fi230_2) (ze230))))))))
end Go.AM
