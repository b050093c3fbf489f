/-
  WHAT THE PROGRAM SAYS OF ITS TYPES,each fact by reckoning.
-/
import Derived.Test.YtenlmhbkigfjeaaGreatM2Tool
import Derived.Test.YtenlmhbkigfjeaaGreatProg
set_option linter.unusedVariables false
namespace Go.AM
open Go.Proofs
theorem mixed:Tryz.prog.follows .mixedOrders=true:=by kernel_rfl
theorem kt1:kindT Tryz.prog 1=some 3:=by kernel_rfl
theorem ag2:aggT Tryz.prog 2=some false:=by kernel_rfl
theorem si2:sizeT Tryz.prog 2=1:=by kernel_rfl
theorem sz2:szT Tryz.prog 2=some 1:=by kernel_rfl
theorem by2:bytesT Tryz.prog 2=8:=by kernel_rfl
theorem in2:intT Tryz.prog 2=some .i64:=by kernel_rfl
theorem zv2:zeroV Tryz.prog 2=some (.int .i64 0):=by kernel_rfl
theorem ze2:zeroT Tryz.prog 2=some [.int .i64 0]:=by kernel_rfl
theorem ag3:aggT Tryz.prog 3=some false:=by kernel_rfl
theorem si3:sizeT Tryz.prog 3=1:=by kernel_rfl
theorem sz3:szT Tryz.prog 3=some 1:=by kernel_rfl
theorem by3:bytesT Tryz.prog 3=8:=by kernel_rfl
theorem in3:intT Tryz.prog 3=some .i64:=by kernel_rfl
theorem zv3:zeroV Tryz.prog 3=some (.int .i64 0):=by kernel_rfl
theorem ze3:zeroT Tryz.prog 3=some [.int .i64 0]:=by kernel_rfl
theorem ag4:aggT Tryz.prog 4=some false:=by kernel_rfl
theorem si4:sizeT Tryz.prog 4=1:=by kernel_rfl
theorem sz4:szT Tryz.prog 4=some 1:=by kernel_rfl
theorem by4:bytesT Tryz.prog 4=1:=by kernel_rfl
theorem bo4:boolT Tryz.prog 4=true:=by kernel_rfl
theorem zv4:zeroV Tryz.prog 4=some (.bool false):=by kernel_rfl
theorem ze4:zeroT Tryz.prog 4=some [.bool false]:=by kernel_rfl
theorem ag5:aggT Tryz.prog 5=some false:=by kernel_rfl
theorem si5:sizeT Tryz.prog 5=1:=by kernel_rfl
theorem sz5:szT Tryz.prog 5=some 1:=by kernel_rfl
theorem by5:bytesT Tryz.prog 5=1:=by kernel_rfl
theorem in5:intT Tryz.prog 5=some .u8:=by kernel_rfl
theorem zv5:zeroV Tryz.prog 5=some (.int .u8 0):=by kernel_rfl
theorem ze5:zeroT Tryz.prog 5=some [.int .u8 0]:=by kernel_rfl
theorem ag6:aggT Tryz.prog 6=some false:=by kernel_rfl
theorem si6:sizeT Tryz.prog 6=1:=by kernel_rfl
theorem sz6:szT Tryz.prog 6=some 1:=by kernel_rfl
theorem by6:bytesT Tryz.prog 6=1:=by kernel_rfl
theorem in6:intT Tryz.prog 6=some .u8:=by kernel_rfl
theorem zv6:zeroV Tryz.prog 6=some (.int .u8 0):=by kernel_rfl
theorem ze6:zeroT Tryz.prog 6=some [.int .u8 0]:=by kernel_rfl
theorem ag7:aggT Tryz.prog 7=some true:=by kernel_rfl
theorem si7:sizeT Tryz.prog 7=4:=by kernel_rfl
theorem sz7:szT Tryz.prog 7=some 4:=by kernel_rfl
theorem by7:bytesT Tryz.prog 7=24:=by kernel_rfl
theorem str7:structT Tryz.prog 7=true:=by kernel_rfl
theorem fi7_0:fieldT Tryz.prog 7 0=some (0,2):=by kernel_rfl
theorem fi7_1:fieldT Tryz.prog 7 1=some (1,3):=by kernel_rfl
theorem fi7_2:fieldT Tryz.prog 7 2=some (2,4):=by kernel_rfl
theorem fi7_3:fieldT Tryz.prog 7 3=some (3,6):=by kernel_rfl
theorem ze7:zeroT Tryz.prog 7=some [.int .i64 0,.int .i64 0,.bool false,.int .u8 0]:=by kernel_rfl
theorem ag8:aggT Tryz.prog 8=some true:=by kernel_rfl
theorem si8:sizeT Tryz.prog 8=4:=by kernel_rfl
theorem sz8:szT Tryz.prog 8=some 4:=by kernel_rfl
theorem by8:bytesT Tryz.prog 8=24:=by kernel_rfl
theorem str8:structT Tryz.prog 8=true:=by kernel_rfl
theorem fi8_0:fieldT Tryz.prog 8 0=some (0,2):=by kernel_rfl
theorem fi8_1:fieldT Tryz.prog 8 1=some (1,3):=by kernel_rfl
theorem fi8_2:fieldT Tryz.prog 8 2=some (2,4):=by kernel_rfl
theorem fi8_3:fieldT Tryz.prog 8 3=some (3,6):=by kernel_rfl
theorem ze8:zeroT Tryz.prog 8=some [.int .i64 0,.int .i64 0,.bool false,.int .u8 0]:=by kernel_rfl
theorem ag9:aggT Tryz.prog 9=some false:=by kernel_rfl
theorem si9:sizeT Tryz.prog 9=1:=by kernel_rfl
theorem sz9:szT Tryz.prog 9=some 1:=by kernel_rfl
theorem by9:bytesT Tryz.prog 9=16:=by kernel_rfl
theorem st9:stringT Tryz.prog 9=true:=by kernel_rfl
theorem zv9:zeroV Tryz.prog 9=some (.string ⟨#[]⟩):=by kernel_rfl
theorem ze9:zeroT Tryz.prog 9=some [.string ⟨#[]⟩]:=by kernel_rfl
theorem ag22:aggT Tryz.prog 22=some false:=by kernel_rfl
theorem el22:elemT Tryz.prog 22=some 25:=by kernel_rfl
theorem si22:sizeT Tryz.prog 22=1:=by kernel_rfl
theorem sz22:szT Tryz.prog 22=some 1:=by kernel_rfl
theorem by22:bytesT Tryz.prog 22=24:=by kernel_rfl
theorem kt22:kindT Tryz.prog 22=some 0:=by kernel_rfl
theorem zv22:zeroV Tryz.prog 22=some (.slice none 0 0):=by kernel_rfl
theorem ze22:zeroT Tryz.prog 22=some [.slice none 0 0]:=by kernel_rfl
theorem ag25:aggT Tryz.prog 25=some false:=by kernel_rfl
theorem el25:elemT Tryz.prog 25=some 2:=by kernel_rfl
theorem si25:sizeT Tryz.prog 25=1:=by kernel_rfl
theorem sz25:szT Tryz.prog 25=some 1:=by kernel_rfl
theorem by25:bytesT Tryz.prog 25=24:=by kernel_rfl
theorem kt25:kindT Tryz.prog 25=some 0:=by kernel_rfl
theorem zv25:zeroV Tryz.prog 25=some (.slice none 0 0):=by kernel_rfl
theorem ze25:zeroT Tryz.prog 25=some [.slice none 0 0]:=by kernel_rfl
theorem ag29:aggT Tryz.prog 29=some true:=by kernel_rfl
theorem si29:sizeT Tryz.prog 29=3:=by kernel_rfl
theorem sz29:szT Tryz.prog 29=some 3:=by kernel_rfl
theorem by29:bytesT Tryz.prog 29=48:=by kernel_rfl
theorem str29:structT Tryz.prog 29=true:=by kernel_rfl
theorem fi29_0:fieldT Tryz.prog 29 0=some (0,2):=by kernel_rfl
theorem fi29_1:fieldT Tryz.prog 29 1=some (1,9):=by kernel_rfl
theorem fi29_2:fieldT Tryz.prog 29 2=some (2,22):=by kernel_rfl
theorem ze29:zeroT Tryz.prog 29=some [.int .i64 0,.string ⟨#[]⟩,.slice none 0 0]:=by kernel_rfl
theorem ag37:aggT Tryz.prog 37=some false:=by kernel_rfl
theorem el37:elemT Tryz.prog 37=some 5:=by kernel_rfl
theorem si37:sizeT Tryz.prog 37=1:=by kernel_rfl
theorem sz37:szT Tryz.prog 37=some 1:=by kernel_rfl
theorem by37:bytesT Tryz.prog 37=24:=by kernel_rfl
theorem kt37:kindT Tryz.prog 37=some 0:=by kernel_rfl
theorem zv37:zeroV Tryz.prog 37=some (.slice none 0 0):=by kernel_rfl
theorem ze37:zeroT Tryz.prog 37=some [.slice none 0 0]:=by kernel_rfl
theorem ag39:aggT Tryz.prog 39=some false:=by kernel_rfl
theorem si39:sizeT Tryz.prog 39=1:=by kernel_rfl
theorem sz39:szT Tryz.prog 39=some 1:=by kernel_rfl
theorem by39:bytesT Tryz.prog 39=8:=by kernel_rfl
theorem kt39:kindT Tryz.prog 39=some 1:=by kernel_rfl
theorem zv39:zeroV Tryz.prog 39=some (.pointer none):=by kernel_rfl
theorem ze39:zeroT Tryz.prog 39=some [.pointer none]:=by kernel_rfl
theorem ag41:aggT Tryz.prog 41=some false:=by kernel_rfl
theorem si41:sizeT Tryz.prog 41=1:=by kernel_rfl
theorem sz41:szT Tryz.prog 41=some 1:=by kernel_rfl
theorem by41:bytesT Tryz.prog 41=8:=by kernel_rfl
theorem in41:intT Tryz.prog 41=some .u64:=by kernel_rfl
theorem zv41:zeroV Tryz.prog 41=some (.int .u64 0):=by kernel_rfl
theorem ze41:zeroT Tryz.prog 41=some [.int .u64 0]:=by kernel_rfl
theorem ag44:aggT Tryz.prog 44=some false:=by kernel_rfl
theorem el44:elemT Tryz.prog 44=some 48:=by kernel_rfl
theorem si44:sizeT Tryz.prog 44=1:=by kernel_rfl
theorem sz44:szT Tryz.prog 44=some 1:=by kernel_rfl
theorem by44:bytesT Tryz.prog 44=24:=by kernel_rfl
theorem kt44:kindT Tryz.prog 44=some 0:=by kernel_rfl
theorem zv44:zeroV Tryz.prog 44=some (.slice none 0 0):=by kernel_rfl
theorem ze44:zeroT Tryz.prog 44=some [.slice none 0 0]:=by kernel_rfl
theorem ag48:aggT Tryz.prog 48=some true:=by kernel_rfl
theorem si48:sizeT Tryz.prog 48=2:=by kernel_rfl
theorem sz48:szT Tryz.prog 48=some 2:=by kernel_rfl
theorem by48:bytesT Tryz.prog 48=48:=by kernel_rfl
theorem str48:structT Tryz.prog 48=true:=by kernel_rfl
theorem fi48_0:fieldT Tryz.prog 48 0=some (0,25):=by kernel_rfl
theorem fi48_1:fieldT Tryz.prog 48 1=some (1,25):=by kernel_rfl
theorem ze48:zeroT Tryz.prog 48=some [.slice none 0 0,.slice none 0 0]:=by kernel_rfl
theorem ag57:aggT Tryz.prog 57=some false:=by kernel_rfl
theorem el57:elemT Tryz.prog 57=some 3:=by kernel_rfl
theorem si57:sizeT Tryz.prog 57=1:=by kernel_rfl
theorem sz57:szT Tryz.prog 57=some 1:=by kernel_rfl
theorem by57:bytesT Tryz.prog 57=24:=by kernel_rfl
theorem kt57:kindT Tryz.prog 57=some 0:=by kernel_rfl
theorem zv57:zeroV Tryz.prog 57=some (.slice none 0 0):=by kernel_rfl
theorem ze57:zeroT Tryz.prog 57=some [.slice none 0 0]:=by kernel_rfl
theorem ag59:aggT Tryz.prog 59=some true:=by kernel_rfl
theorem si59:sizeT Tryz.prog 59=4:=by kernel_rfl
theorem sz59:szT Tryz.prog 59=some 4:=by kernel_rfl
theorem by59:bytesT Tryz.prog 59=80:=by kernel_rfl
theorem str59:structT Tryz.prog 59=true:=by kernel_rfl
theorem fi59_0:fieldT Tryz.prog 59 0=some (0,22):=by kernel_rfl
theorem fi59_1:fieldT Tryz.prog 59 1=some (1,25):=by kernel_rfl
theorem fi59_2:fieldT Tryz.prog 59 2=some (2,57):=by kernel_rfl
theorem fi59_3:fieldT Tryz.prog 59 3=some (3,4):=by kernel_rfl
theorem ze59:zeroT Tryz.prog 59=some [.slice none 0 0,.slice none 0 0,.slice none 0 0,.bool false]:=by kernel_rfl
theorem ag65:aggT Tryz.prog 65=some false:=by kernel_rfl
theorem si65:sizeT Tryz.prog 65=1:=by kernel_rfl
theorem sz65:szT Tryz.prog 65=some 1:=by kernel_rfl
theorem by65:bytesT Tryz.prog 65=8:=by kernel_rfl
theorem kt65:kindT Tryz.prog 65=some 1:=by kernel_rfl
theorem zv65:zeroV Tryz.prog 65=some (.pointer none):=by kernel_rfl
theorem ze65:zeroT Tryz.prog 65=some [.pointer none]:=by kernel_rfl
theorem ag69:aggT Tryz.prog 69=some false:=by kernel_rfl
theorem si69:sizeT Tryz.prog 69=1:=by kernel_rfl
theorem sz69:szT Tryz.prog 69=some 1:=by kernel_rfl
theorem by69:bytesT Tryz.prog 69=8:=by kernel_rfl
theorem mp69:mapT Tryz.prog 69=some (true,2):=by kernel_rfl
theorem zv69:zeroV Tryz.prog 69=some (.map none):=by kernel_rfl
theorem ze69:zeroT Tryz.prog 69=some [.map none]:=by kernel_rfl
theorem ag71:aggT Tryz.prog 71=some true:=by kernel_rfl
theorem si71:sizeT Tryz.prog 71=9:=by kernel_rfl
theorem sz71:szT Tryz.prog 71=some 9:=by kernel_rfl
theorem by71:bytesT Tryz.prog 71=176:=by kernel_rfl
theorem str71:structT Tryz.prog 71=true:=by kernel_rfl
theorem fi71_0:fieldT Tryz.prog 71 0=some (0,29):=by kernel_rfl
theorem fi71_1:fieldT Tryz.prog 71 1=some (3,22):=by kernel_rfl
theorem fi71_2:fieldT Tryz.prog 71 2=some (4,25):=by kernel_rfl
theorem fi71_3:fieldT Tryz.prog 71 3=some (5,69):=by kernel_rfl
theorem fi71_4:fieldT Tryz.prog 71 4=some (6,25):=by kernel_rfl
theorem fi71_5:fieldT Tryz.prog 71 5=some (7,25):=by kernel_rfl
theorem fi71_6:fieldT Tryz.prog 71 6=some (8,22):=by kernel_rfl
theorem ze71:zeroT Tryz.prog 71=some [.int .i64 0,.string ⟨#[]⟩,.slice none 0 0,.slice none 0 0,.slice none 0 0,.map none,.slice none 0 0,.slice none 0 0,.slice none 0 0]:=by kernel_rfl
theorem kt74:kindT Tryz.prog 74=some 3:=by kernel_rfl
theorem ag78:aggT Tryz.prog 78=some true:=by kernel_rfl
theorem si78:sizeT Tryz.prog 78=3:=by kernel_rfl
theorem sz78:szT Tryz.prog 78=some 3:=by kernel_rfl
theorem by78:bytesT Tryz.prog 78=40:=by kernel_rfl
theorem str78:structT Tryz.prog 78=true:=by kernel_rfl
theorem fi78_0:fieldT Tryz.prog 78 0=some (0,37):=by kernel_rfl
theorem fi78_1:fieldT Tryz.prog 78 1=some (1,3):=by kernel_rfl
theorem fi78_2:fieldT Tryz.prog 78 2=some (2,41):=by kernel_rfl
theorem ze78:zeroT Tryz.prog 78=some [.slice none 0 0,.int .i64 0,.int .u64 0]:=by kernel_rfl
theorem ag79:aggT Tryz.prog 79=some false:=by kernel_rfl
theorem si79:sizeT Tryz.prog 79=1:=by kernel_rfl
theorem sz79:szT Tryz.prog 79=some 1:=by kernel_rfl
theorem by79:bytesT Tryz.prog 79=8:=by kernel_rfl
theorem in79:intT Tryz.prog 79=some .u64:=by kernel_rfl
theorem zv79:zeroV Tryz.prog 79=some (.int .u64 0):=by kernel_rfl
theorem ze79:zeroT Tryz.prog 79=some [.int .u64 0]:=by kernel_rfl
theorem kt86:kindT Tryz.prog 86=some 3:=by kernel_rfl
theorem kt108:kindT Tryz.prog 108=some 3:=by kernel_rfl
theorem ag114:aggT Tryz.prog 114=some false:=by kernel_rfl
theorem si114:sizeT Tryz.prog 114=1:=by kernel_rfl
theorem sz114:szT Tryz.prog 114=some 1:=by kernel_rfl
theorem by114:bytesT Tryz.prog 114=8:=by kernel_rfl
theorem kt114:kindT Tryz.prog 114=some 1:=by kernel_rfl
theorem zv114:zeroV Tryz.prog 114=some (.pointer none):=by kernel_rfl
theorem ze114:zeroT Tryz.prog 114=some [.pointer none]:=by kernel_rfl
theorem kt120:kindT Tryz.prog 120=some 3:=by kernel_rfl
theorem ag122:aggT Tryz.prog 122=some false:=by kernel_rfl
theorem el122:elemT Tryz.prog 122=some 22:=by kernel_rfl
theorem si122:sizeT Tryz.prog 122=1:=by kernel_rfl
theorem sz122:szT Tryz.prog 122=some 1:=by kernel_rfl
theorem by122:bytesT Tryz.prog 122=24:=by kernel_rfl
theorem kt122:kindT Tryz.prog 122=some 0:=by kernel_rfl
theorem zv122:zeroV Tryz.prog 122=some (.slice none 0 0):=by kernel_rfl
theorem ze122:zeroT Tryz.prog 122=some [.slice none 0 0]:=by kernel_rfl
theorem ag124:aggT Tryz.prog 124=some true:=by kernel_rfl
theorem si124:sizeT Tryz.prog 124=3:=by kernel_rfl
theorem sz124:szT Tryz.prog 124=some 3:=by kernel_rfl
theorem by124:bytesT Tryz.prog 124=56:=by kernel_rfl
theorem str124:structT Tryz.prog 124=true:=by kernel_rfl
theorem fi124_0:fieldT Tryz.prog 124 0=some (0,2):=by kernel_rfl
theorem fi124_1:fieldT Tryz.prog 124 1=some (1,122):=by kernel_rfl
theorem fi124_2:fieldT Tryz.prog 124 2=some (2,122):=by kernel_rfl
theorem ze124:zeroT Tryz.prog 124=some [.int .i64 0,.slice none 0 0,.slice none 0 0]:=by kernel_rfl
theorem ag128:aggT Tryz.prog 128=some false:=by kernel_rfl
theorem si128:sizeT Tryz.prog 128=1:=by kernel_rfl
theorem sz128:szT Tryz.prog 128=some 1:=by kernel_rfl
theorem by128:bytesT Tryz.prog 128=8:=by kernel_rfl
theorem in128:intT Tryz.prog 128=some .i64:=by kernel_rfl
theorem zv128:zeroV Tryz.prog 128=some (.int .i64 0):=by kernel_rfl
theorem ze128:zeroT Tryz.prog 128=some [.int .i64 0]:=by kernel_rfl
theorem ag136:aggT Tryz.prog 136=some false:=by kernel_rfl
theorem si136:sizeT Tryz.prog 136=1:=by kernel_rfl
theorem sz136:szT Tryz.prog 136=some 1:=by kernel_rfl
theorem by136:bytesT Tryz.prog 136=4:=by kernel_rfl
theorem in136:intT Tryz.prog 136=some .u32:=by kernel_rfl
theorem zv136:zeroV Tryz.prog 136=some (.int .u32 0):=by kernel_rfl
theorem ze136:zeroT Tryz.prog 136=some [.int .u32 0]:=by kernel_rfl
theorem ag139:aggT Tryz.prog 139=some false:=by kernel_rfl
theorem si139:sizeT Tryz.prog 139=1:=by kernel_rfl
theorem sz139:szT Tryz.prog 139=some 1:=by kernel_rfl
theorem by139:bytesT Tryz.prog 139=8:=by kernel_rfl
theorem in139:intT Tryz.prog 139=some .u64:=by kernel_rfl
theorem zv139:zeroV Tryz.prog 139=some (.int .u64 0):=by kernel_rfl
theorem ze139:zeroT Tryz.prog 139=some [.int .u64 0]:=by kernel_rfl
theorem ag143:aggT Tryz.prog 143=some false:=by kernel_rfl
theorem si143:sizeT Tryz.prog 143=1:=by kernel_rfl
theorem sz143:szT Tryz.prog 143=some 1:=by kernel_rfl
theorem by143:bytesT Tryz.prog 143=8:=by kernel_rfl
theorem kt143:kindT Tryz.prog 143=some 1:=by kernel_rfl
theorem zv143:zeroV Tryz.prog 143=some (.pointer none):=by kernel_rfl
theorem ze143:zeroT Tryz.prog 143=some [.pointer none]:=by kernel_rfl
theorem ag145:aggT Tryz.prog 145=some false:=by kernel_rfl
theorem si145:sizeT Tryz.prog 145=1:=by kernel_rfl
theorem sz145:szT Tryz.prog 145=some 1:=by kernel_rfl
theorem by145:bytesT Tryz.prog 145=8:=by kernel_rfl
theorem kt145:kindT Tryz.prog 145=some 1:=by kernel_rfl
theorem zv145:zeroV Tryz.prog 145=some (.pointer none):=by kernel_rfl
theorem ze145:zeroT Tryz.prog 145=some [.pointer none]:=by kernel_rfl
theorem tyF:type_of% (And.intro (And.intro (And.intro (And.intro (And.intro (And.intro (And.intro (kt1) (And.intro (ag2) (si2))) (And.intro (And.intro (sz2) (by2)) (And.intro
  (in2) (zv2)))) (And.intro (And.intro (And.intro (ze2) (ag3)) (And.intro (si3) (sz3))) (And.intro (And.intro (by3) (in3)) (And.intro (zv3) (ze3))))) (And.intro (And.intro
  (And.intro (And.intro (ag4) (si4)) (And.intro (sz4) (by4))) (And.intro (And.intro (bo4) (zv4)) (And.intro (ze4) (ag5)))) (And.intro (And.intro (And.intro (si5) (sz5)) (And.intro
  (by5) (in5))) (And.intro (And.intro (zv5) (ze5)) (And.intro (ag6) (si6)))))) (And.intro (And.intro (And.intro (And.intro (sz6) (And.intro (by6) (in6))) (And.intro (And.intro (zv6)
  (ze6)) (And.intro (ag7) (si7)))) (And.intro (And.intro (And.intro (sz7) (by7)) (And.intro (str7) (fi7_0))) (And.intro (And.intro (fi7_1) (fi7_2)) (And.intro (fi7_3) (ze7)))))
  (And.intro (And.intro (And.intro (And.intro (ag8) (si8)) (And.intro (sz8) (by8))) (And.intro (And.intro (str8) (fi8_0)) (And.intro (fi8_1) (fi8_2)))) (And.intro (And.intro
  (And.intro (fi8_3) (ze8)) (And.intro (ag9) (si9))) (And.intro (And.intro (sz9) (by9)) (And.intro (st9) (zv9))))))) (And.intro (And.intro (And.intro (And.intro (And.intro (ze9)
  (And.intro (ag22) (el22))) (And.intro (And.intro (si22) (sz22)) (And.intro (by22) (kt22)))) (And.intro (And.intro (And.intro (zv22) (ze22)) (And.intro (ag25) (el25))) (And.intro
  (And.intro (si25) (sz25)) (And.intro (by25) (kt25))))) (And.intro (And.intro (And.intro (And.intro (zv25) (ze25)) (And.intro (ag29) (si29))) (And.intro (And.intro (sz29) (by29))
  (And.intro (str29) (fi29_0)))) (And.intro (And.intro (And.intro (fi29_1) (fi29_2)) (And.intro (ze29) (ag37))) (And.intro (And.intro (el37) (si37)) (And.intro (sz37) (by37))))))
  (And.intro (And.intro (And.intro (And.intro (And.intro (kt37) (zv37)) (And.intro (ze37) (ag39))) (And.intro (And.intro (si39) (sz39)) (And.intro (by39) (kt39)))) (And.intro
  (And.intro (And.intro (zv39) (ze39)) (And.intro (ag41) (si41))) (And.intro (And.intro (sz41) (by41)) (And.intro (in41) (zv41))))) (And.intro (And.intro (And.intro (And.intro
  (ze41) (ag44)) (And.intro (el44) (si44))) (And.intro (And.intro (sz44) (by44)) (And.intro (kt44) (zv44)))) (And.intro (And.intro (And.intro (ze44) (ag48)) (And.intro (si48)
  (sz48))) (And.intro (And.intro (by48) (str48)) (And.intro (fi48_0) (fi48_1)))))))) (And.intro (And.intro (And.intro (And.intro (And.intro (And.intro (ze48) (And.intro (ag57)
  (el57))) (And.intro (And.intro (si57) (sz57)) (And.intro (by57) (kt57)))) (And.intro (And.intro (And.intro (zv57) (ze57)) (And.intro (ag59) (si59))) (And.intro (And.intro (sz59)
  (by59)) (And.intro (str59) (fi59_0))))) (And.intro (And.intro (And.intro (And.intro (fi59_1) (fi59_2)) (And.intro (fi59_3) (ze59))) (And.intro (And.intro (ag65) (si65)) (And.intro
  (sz65) (by65)))) (And.intro (And.intro (And.intro (kt65) (zv65)) (And.intro (ze65) (ag69))) (And.intro (And.intro (si69) (sz69)) (And.intro (by69) (mp69)))))) (And.intro
  (And.intro (And.intro (And.intro (zv69) (And.intro (ze69) (ag71))) (And.intro (And.intro (si71) (sz71)) (And.intro (by71) (str71)))) (And.intro (And.intro (And.intro (fi71_0)
  (fi71_1)) (And.intro (fi71_2) (fi71_3))) (And.intro (And.intro (fi71_4) (fi71_5)) (And.intro (fi71_6) (ze71))))) (And.intro (And.intro (And.intro (And.intro (kt74) (ag78))
  (And.intro (si78) (sz78))) (And.intro (And.intro (by78) (str78)) (And.intro (fi78_0) (fi78_1)))) (And.intro (And.intro (And.intro (fi78_2) (ze78)) (And.intro (ag79) (si79)))
  (And.intro (And.intro (sz79) (by79)) (And.intro (in79) (zv79))))))) (And.intro (And.intro (And.intro (And.intro (And.intro (ze79) (And.intro (kt86) (kt108))) (And.intro (And.intro
  (ag114) (si114)) (And.intro (sz114) (by114)))) (And.intro (And.intro (And.intro (kt114) (zv114)) (And.intro (ze114) (kt120))) (And.intro (And.intro (ag122) (el122)) (And.intro
  (si122) (sz122))))) (And.intro (And.intro (And.intro (And.intro (by122) (kt122)) (And.intro (zv122) (ze122))) (And.intro (And.intro (ag124) (si124)) (And.intro (sz124) (by124))))
  (And.intro (And.intro (And.intro (str124) (fi124_0)) (And.intro (fi124_1) (fi124_2))) (And.intro (And.intro (ze124) (ag128)) (And.intro (si128) (sz128)))))) (And.intro (And.intro
  (And.intro (And.intro (And.intro (by128) (in128)) (And.intro (zv128) (ze128))) (And.intro (And.intro (ag136) (si136)) (And.intro (sz136) (by136)))) (And.intro (And.intro
  (And.intro (in136) (zv136)) (And.intro (ze136) (ag139))) (And.intro (And.intro (si139) (sz139)) (And.intro (by139) (in139))))) (And.intro (And.intro (And.intro (And.intro (zv139)
  (ze139)) (And.intro (ag143) (si143))) (And.intro (And.intro (sz143) (by143)) (And.intro (kt143) (zv143)))) (And.intro (And.intro (And.intro (ze143) (ag145)) (And.intro (si145)
  (sz145))) (And.intro (And.intro (by145) (kt145)) (And.intro (zv145) (ze145))))))))):=And.intro (And.intro (And.intro (And.intro (And.intro (And.intro (And.intro (kt1) (And.intro
  (ag2) (si2))) (And.intro (And.intro (sz2) (by2)) (And.intro (in2) (zv2)))) (And.intro (And.intro (And.intro (ze2) (ag3)) (And.intro (si3) (sz3))) (And.intro (And.intro (by3)
  (in3)) (And.intro (zv3) (ze3))))) (And.intro (And.intro (And.intro (And.intro (ag4) (si4)) (And.intro (sz4) (by4))) (And.intro (And.intro (bo4) (zv4)) (And.intro (ze4) (ag5))))
  (And.intro (And.intro (And.intro (si5) (sz5)) (And.intro (by5) (in5))) (And.intro (And.intro (zv5) (ze5)) (And.intro (ag6) (si6)))))) (And.intro (And.intro (And.intro (And.intro
  (sz6) (And.intro (by6) (in6))) (And.intro (And.intro (zv6) (ze6)) (And.intro (ag7) (si7)))) (And.intro (And.intro (And.intro (sz7) (by7)) (And.intro (str7) (fi7_0))) (And.intro
  (And.intro (fi7_1) (fi7_2)) (And.intro (fi7_3) (ze7))))) (And.intro (And.intro (And.intro (And.intro (ag8) (si8)) (And.intro (sz8) (by8))) (And.intro (And.intro (str8) (fi8_0))
  (And.intro (fi8_1) (fi8_2)))) (And.intro (And.intro (And.intro (fi8_3) (ze8)) (And.intro (ag9) (si9))) (And.intro (And.intro (sz9) (by9)) (And.intro (st9) (zv9))))))) (And.intro
  (And.intro (And.intro (And.intro (And.intro (ze9) (And.intro (ag22) (el22))) (And.intro (And.intro (si22) (sz22)) (And.intro (by22) (kt22)))) (And.intro (And.intro (And.intro
  (zv22) (ze22)) (And.intro (ag25) (el25))) (And.intro (And.intro (si25) (sz25)) (And.intro (by25) (kt25))))) (And.intro (And.intro (And.intro (And.intro (zv25) (ze25)) (And.intro
  (ag29) (si29))) (And.intro (And.intro (sz29) (by29)) (And.intro (str29) (fi29_0)))) (And.intro (And.intro (And.intro (fi29_1) (fi29_2)) (And.intro (ze29) (ag37))) (And.intro
  (And.intro (el37) (si37)) (And.intro (sz37) (by37)))))) (And.intro (And.intro (And.intro (And.intro (And.intro (kt37) (zv37)) (And.intro (ze37) (ag39))) (And.intro (And.intro
  (si39) (sz39)) (And.intro (by39) (kt39)))) (And.intro (And.intro (And.intro (zv39) (ze39)) (And.intro (ag41) (si41))) (And.intro (And.intro (sz41) (by41)) (And.intro (in41)
  (zv41))))) (And.intro (And.intro (And.intro (And.intro (ze41) (ag44)) (And.intro (el44) (si44))) (And.intro (And.intro (sz44) (by44)) (And.intro (kt44) (zv44)))) (And.intro
  (And.intro (And.intro (ze44) (ag48)) (And.intro (si48) (sz48))) (And.intro (And.intro (by48) (str48)) (And.intro (fi48_0) (fi48_1)))))))) (And.intro (And.intro (And.intro
  (And.intro (And.intro (And.intro (ze48) (And.intro (ag57) (el57))) (And.intro (And.intro (si57) (sz57)) (And.intro (by57) (kt57)))) (And.intro (And.intro (And.intro (zv57) (ze57))
  (And.intro (ag59) (si59))) (And.intro (And.intro (sz59) (by59)) (And.intro (str59) (fi59_0))))) (And.intro (And.intro (And.intro (And.intro (fi59_1) (fi59_2)) (And.intro (fi59_3)
  (ze59))) (And.intro (And.intro (ag65) (si65)) (And.intro (sz65) (by65)))) (And.intro (And.intro (And.intro (kt65) (zv65)) (And.intro (ze65) (ag69))) (And.intro (And.intro (si69)
  (sz69)) (And.intro (by69) (mp69)))))) (And.intro (And.intro (And.intro (And.intro (zv69) (And.intro (ze69) (ag71))) (And.intro (And.intro (si71) (sz71)) (And.intro (by71)
  (str71)))) (And.intro (And.intro (And.intro (fi71_0) (fi71_1)) (And.intro (fi71_2) (fi71_3))) (And.intro (And.intro (fi71_4) (fi71_5)) (And.intro (fi71_6) (ze71))))) (And.intro
  (And.intro (And.intro (And.intro (kt74) (ag78)) (And.intro (si78) (sz78))) (And.intro (And.intro (by78) (str78)) (And.intro (fi78_0) (fi78_1)))) (And.intro (And.intro (And.intro
  (fi78_2) (ze78)) (And.intro (ag79) (si79))) (And.intro (And.intro (sz79) (by79)) (And.intro (in79) (zv79))))))) (And.intro (And.intro (And.intro (And.intro (And.intro (ze79)
  (And.intro (kt86) (kt108))) (And.intro (And.intro (ag114) (si114)) (And.intro (sz114) (by114)))) (And.intro (And.intro (And.intro (kt114) (zv114)) (And.intro (ze114) (kt120)))
  (And.intro (And.intro (ag122) (el122)) (And.intro (si122) (sz122))))) (And.intro (And.intro (And.intro (And.intro (by122) (kt122)) (And.intro (zv122) (ze122))) (And.intro
  (And.intro (ag124) (si124)) (And.intro (sz124) (by124)))) (And.intro (And.intro (And.intro (str124) (fi124_0)) (And.intro (fi124_1) (fi124_2))) (And.intro (And.intro (ze124)
  (ag128)) (And.intro (si128) (sz128)))))) (And.intro (And.intro (And.intro (And.intro (And.intro (by128) (in128)) (And.intro (zv128) (ze128))) (And.intro (And.intro (ag136)
  (si136)) (And.intro (sz136) (by136)))) (And.intro (And.intro (And.intro (in136) (zv136)) (And.intro (ze136) (ag139))) (And.intro (And.intro (si139) (sz139)) (And.intro (by139)
  (in139))))) (And.intro (And.intro (And.intro (And.intro (zv139) (ze139)) (And.intro (ag143) (si143))) (And.intro (And.intro (sz143) (by143)) (And.intro (kt143) (zv143))))
  (And.intro (And.intro (And.intro (ze143) (ag145)) (And.intro (si145) (sz145))) (And.intro (And.intro (by145) (kt145)) (And.intro (zv145) (ze145))))))))
end Go.AM
