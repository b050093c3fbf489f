/-
 WHAT THE PROGRAM SAYS OF ITS TYPES,each fact by reckoning.
-/
import Derived.Test.YtemhmohaeiphaaaGreatDoorM2Tool
import Derived.Test.YtemhmohaeiphaaaGreatDoorProg
set_option linter.unusedVariables false
set_option linter.defProp false
namespace Go.AM
open Go.Proofs
theorem mixed:Tryz.prog.follows .mixedOrders=true:=by kernel_rfl
theorem kt1:kindT Tryz.prog 1=some 3:=by kernel_rfl
theorem ag2:aggT Tryz.prog 2=some false:=by kernel_rfl
theorem si2:sizeT Tryz.prog 2=1:=by kernel_rfl
theorem sz2:szT Tryz.prog 2=some 1:=by kernel_rfl
theorem by2:bytesT Tryz.prog 2=8:=by kernel_rfl
theorem in2:intT Tryz.prog 2=some .i64:=by kernel_rfl
theorem zv2:zeroV Tryz.prog 2=some (.int .i64 0):=by kernel_rfl
theorem ze2:zeroT Tryz.prog 2=some [.int .i64 0]:=by kernel_rfl
theorem ag3:aggT Tryz.prog 3=some false:=by kernel_rfl
theorem si3:sizeT Tryz.prog 3=1:=by kernel_rfl
theorem sz3:szT Tryz.prog 3=some 1:=by kernel_rfl
theorem by3:bytesT Tryz.prog 3=8:=by kernel_rfl
theorem in3:intT Tryz.prog 3=some .i64:=by kernel_rfl
theorem zv3:zeroV Tryz.prog 3=some (.int .i64 0):=by kernel_rfl
theorem ze3:zeroT Tryz.prog 3=some [.int .i64 0]:=by kernel_rfl
theorem ag4:aggT Tryz.prog 4=some false:=by kernel_rfl
theorem si4:sizeT Tryz.prog 4=1:=by kernel_rfl
theorem sz4:szT Tryz.prog 4=some 1:=by kernel_rfl
theorem by4:bytesT Tryz.prog 4=1:=by kernel_rfl
theorem bo4:boolT Tryz.prog 4=true:=by kernel_rfl
theorem zv4:zeroV Tryz.prog 4=some (.bool false):=by kernel_rfl
theorem ze4:zeroT Tryz.prog 4=some [.bool false]:=by kernel_rfl
theorem ag5:aggT Tryz.prog 5=some false:=by kernel_rfl
theorem si5:sizeT Tryz.prog 5=1:=by kernel_rfl
theorem sz5:szT Tryz.prog 5=some 1:=by kernel_rfl
theorem by5:bytesT Tryz.prog 5=1:=by kernel_rfl
theorem in5:intT Tryz.prog 5=some .u8:=by kernel_rfl
theorem zv5:zeroV Tryz.prog 5=some (.int .u8 0):=by kernel_rfl
theorem ze5:zeroT Tryz.prog 5=some [.int .u8 0]:=by kernel_rfl
theorem ag9:aggT Tryz.prog 9=some false:=by kernel_rfl
theorem si9:sizeT Tryz.prog 9=1:=by kernel_rfl
theorem sz9:szT Tryz.prog 9=some 1:=by kernel_rfl
theorem by9:bytesT Tryz.prog 9=16:=by kernel_rfl
theorem st9:stringT Tryz.prog 9=true:=by kernel_rfl
theorem zv9:zeroV Tryz.prog 9=some (.string ⟨#[]⟩):=by kernel_rfl
theorem ze9:zeroT Tryz.prog 9=some [.string ⟨#[]⟩]:=by kernel_rfl
theorem ag21:aggT Tryz.prog 21=some false:=by kernel_rfl
theorem si21:sizeT Tryz.prog 21=1:=by kernel_rfl
theorem sz21:szT Tryz.prog 21=some 1:=by kernel_rfl
theorem by21:bytesT Tryz.prog 21=4:=by kernel_rfl
theorem in21:intT Tryz.prog 21=some .i32:=by kernel_rfl
theorem zv21:zeroV Tryz.prog 21=some (.int .i32 0):=by kernel_rfl
theorem ze21:zeroT Tryz.prog 21=some [.int .i32 0]:=by kernel_rfl
theorem ag22:aggT Tryz.prog 22=some false:=by kernel_rfl
theorem el22:elemT Tryz.prog 22=some 5:=by kernel_rfl
theorem si22:sizeT Tryz.prog 22=1:=by kernel_rfl
theorem sz22:szT Tryz.prog 22=some 1:=by kernel_rfl
theorem by22:bytesT Tryz.prog 22=24:=by kernel_rfl
theorem kt22:kindT Tryz.prog 22=some 0:=by kernel_rfl
theorem zv22:zeroV Tryz.prog 22=some (.slice none 0 0):=by kernel_rfl
theorem ze22:zeroT Tryz.prog 22=some [.slice none 0 0]:=by kernel_rfl
theorem ag24:aggT Tryz.prog 24=some false:=by kernel_rfl
theorem el24:elemT Tryz.prog 24=some 71:=by kernel_rfl
theorem si24:sizeT Tryz.prog 24=1:=by kernel_rfl
theorem sz24:szT Tryz.prog 24=some 1:=by kernel_rfl
theorem by24:bytesT Tryz.prog 24=24:=by kernel_rfl
theorem kt24:kindT Tryz.prog 24=some 0:=by kernel_rfl
theorem zv24:zeroV Tryz.prog 24=some (.slice none 0 0):=by kernel_rfl
theorem ze24:zeroT Tryz.prog 24=some [.slice none 0 0]:=by kernel_rfl
theorem ag25:aggT Tryz.prog 25=some false:=by kernel_rfl
theorem el25:elemT Tryz.prog 25=some 73:=by kernel_rfl
theorem si25:sizeT Tryz.prog 25=1:=by kernel_rfl
theorem sz25:szT Tryz.prog 25=some 1:=by kernel_rfl
theorem by25:bytesT Tryz.prog 25=24:=by kernel_rfl
theorem kt25:kindT Tryz.prog 25=some 0:=by kernel_rfl
theorem zv25:zeroV Tryz.prog 25=some (.slice none 0 0):=by kernel_rfl
theorem ze25:zeroT Tryz.prog 25=some [.slice none 0 0]:=by kernel_rfl
theorem ag32:aggT Tryz.prog 32=some false:=by kernel_rfl
theorem el32:elemT Tryz.prog 32=some 2:=by kernel_rfl
theorem si32:sizeT Tryz.prog 32=1:=by kernel_rfl
theorem sz32:szT Tryz.prog 32=some 1:=by kernel_rfl
theorem by32:bytesT Tryz.prog 32=24:=by kernel_rfl
theorem kt32:kindT Tryz.prog 32=some 0:=by kernel_rfl
theorem zv32:zeroV Tryz.prog 32=some (.slice none 0 0):=by kernel_rfl
theorem ze32:zeroT Tryz.prog 32=some [.slice none 0 0]:=by kernel_rfl
theorem ag36:aggT Tryz.prog 36=some false:=by kernel_rfl
theorem el36:elemT Tryz.prog 36=some 25:=by kernel_rfl
theorem si36:sizeT Tryz.prog 36=1:=by kernel_rfl
theorem sz36:szT Tryz.prog 36=some 1:=by kernel_rfl
theorem by36:bytesT Tryz.prog 36=24:=by kernel_rfl
theorem kt36:kindT Tryz.prog 36=some 0:=by kernel_rfl
theorem zv36:zeroV Tryz.prog 36=some (.slice none 0 0):=by kernel_rfl
theorem ze36:zeroT Tryz.prog 36=some [.slice none 0 0]:=by kernel_rfl
theorem ag38:aggT Tryz.prog 38=some true:=by kernel_rfl
theorem si38:sizeT Tryz.prog 38=3:=by kernel_rfl
theorem sz38:szT Tryz.prog 38=some 3:=by kernel_rfl
theorem by38:bytesT Tryz.prog 38=64:=by kernel_rfl
theorem str38:structT Tryz.prog 38=true:=by kernel_rfl
theorem fi38_0:fieldT Tryz.prog 38 0=some (0,24):=by kernel_rfl
theorem fi38_1:fieldT Tryz.prog 38 1=some (1,9):=by kernel_rfl
theorem fi38_2:fieldT Tryz.prog 38 2=some (2,36):=by kernel_rfl
theorem ze38:zeroT Tryz.prog 38=some [.slice none 0 0,.string ⟨#[]⟩,.slice none 0 0]:=by kernel_rfl
theorem kt43:kindT Tryz.prog 43=some 3:=by kernel_rfl
theorem ag45:aggT Tryz.prog 45=some false:=by kernel_rfl
theorem el45:elemT Tryz.prog 45=some 32:=by kernel_rfl
theorem si45:sizeT Tryz.prog 45=1:=by kernel_rfl
theorem sz45:szT Tryz.prog 45=some 1:=by kernel_rfl
theorem by45:bytesT Tryz.prog 45=24:=by kernel_rfl
theorem kt45:kindT Tryz.prog 45=some 0:=by kernel_rfl
theorem zv45:zeroV Tryz.prog 45=some (.slice none 0 0):=by kernel_rfl
theorem ze45:zeroT Tryz.prog 45=some [.slice none 0 0]:=by kernel_rfl
theorem ag47:aggT Tryz.prog 47=some true:=by kernel_rfl
theorem si47:sizeT Tryz.prog 47=3:=by kernel_rfl
theorem sz47:szT Tryz.prog 47=some 3:=by kernel_rfl
theorem by47:bytesT Tryz.prog 47=48:=by kernel_rfl
theorem str47:structT Tryz.prog 47=true:=by kernel_rfl
theorem fi47_0:fieldT Tryz.prog 47 0=some (0,2):=by kernel_rfl
theorem fi47_1:fieldT Tryz.prog 47 1=some (1,9):=by kernel_rfl
theorem fi47_2:fieldT Tryz.prog 47 2=some (2,45):=by kernel_rfl
theorem ze47:zeroT Tryz.prog 47=some [.int .i64 0,.string ⟨#[]⟩,.slice none 0 0]:=by kernel_rfl
theorem ag64:aggT Tryz.prog 64=some false:=by kernel_rfl
theorem si64:sizeT Tryz.prog 64=1:=by kernel_rfl
theorem sz64:szT Tryz.prog 64=some 1:=by kernel_rfl
theorem by64:bytesT Tryz.prog 64=8:=by kernel_rfl
theorem kt64:kindT Tryz.prog 64=some 1:=by kernel_rfl
theorem zv64:zeroV Tryz.prog 64=some (.pointer none):=by kernel_rfl
theorem ze64:zeroT Tryz.prog 64=some [.pointer none]:=by kernel_rfl
theorem ag71:aggT Tryz.prog 71=some true:=by kernel_rfl
theorem si71:sizeT Tryz.prog 71=2:=by kernel_rfl
theorem sz71:szT Tryz.prog 71=some 2:=by kernel_rfl
theorem by71:bytesT Tryz.prog 71=16:=by kernel_rfl
theorem eq71:eqT Tryz.prog 71=some [(0,0),(1,0)]:=by kernel_rfl
theorem str71:structT Tryz.prog 71=true:=by kernel_rfl
theorem fi71_0:fieldT Tryz.prog 71 0=some (0,2):=by kernel_rfl
theorem fi71_1:fieldT Tryz.prog 71 1=some (1,2):=by kernel_rfl
theorem ze71:zeroT Tryz.prog 71=some [.int .i64 0,.int .i64 0]:=by kernel_rfl
theorem ag73:aggT Tryz.prog 73=some true:=by kernel_rfl
theorem si73:sizeT Tryz.prog 73=2:=by kernel_rfl
theorem sz73:szT Tryz.prog 73=some 2:=by kernel_rfl
theorem by73:bytesT Tryz.prog 73=48:=by kernel_rfl
theorem str73:structT Tryz.prog 73=true:=by kernel_rfl
theorem fi73_0:fieldT Tryz.prog 73 0=some (0,32):=by kernel_rfl
theorem fi73_1:fieldT Tryz.prog 73 1=some (1,32):=by kernel_rfl
theorem ze73:zeroT Tryz.prog 73=some [.slice none 0 0,.slice none 0 0]:=by kernel_rfl
theorem ag74:aggT Tryz.prog 74=some false:=by kernel_rfl
theorem si74:sizeT Tryz.prog 74=1:=by kernel_rfl
theorem sz74:szT Tryz.prog 74=some 1:=by kernel_rfl
theorem by74:bytesT Tryz.prog 74=8:=by kernel_rfl
theorem kt74:kindT Tryz.prog 74=some 1:=by kernel_rfl
theorem zv74:zeroV Tryz.prog 74=some (.pointer none):=by kernel_rfl
theorem ze74:zeroT Tryz.prog 74=some [.pointer none]:=by kernel_rfl
theorem ag78:aggT Tryz.prog 78=some false:=by kernel_rfl
theorem el78:elemT Tryz.prog 78=some 9:=by kernel_rfl
theorem si78:sizeT Tryz.prog 78=1:=by kernel_rfl
theorem sz78:szT Tryz.prog 78=some 1:=by kernel_rfl
theorem by78:bytesT Tryz.prog 78=24:=by kernel_rfl
theorem kt78:kindT Tryz.prog 78=some 0:=by kernel_rfl
theorem zv78:zeroV Tryz.prog 78=some (.slice none 0 0):=by kernel_rfl
theorem ze78:zeroT Tryz.prog 78=some [.slice none 0 0]:=by kernel_rfl
theorem ag80:aggT Tryz.prog 80=some true:=by kernel_rfl
theorem si80:sizeT Tryz.prog 80=3:=by kernel_rfl
theorem sz80:szT Tryz.prog 80=some 3:=by kernel_rfl
theorem by80:bytesT Tryz.prog 80=40:=by kernel_rfl
theorem str80:structT Tryz.prog 80=true:=by kernel_rfl
theorem fi80_0:fieldT Tryz.prog 80 0=some (0,78):=by kernel_rfl
theorem fi80_1:fieldT Tryz.prog 80 1=some (1,2):=by kernel_rfl
theorem fi80_2:fieldT Tryz.prog 80 2=some (2,2):=by kernel_rfl
theorem ze80:zeroT Tryz.prog 80=some [.slice none 0 0,.int .i64 0,.int .i64 0]:=by kernel_rfl
theorem ag115:aggT Tryz.prog 115=some true:=by kernel_rfl
theorem si115:sizeT Tryz.prog 115=3:=by kernel_rfl
theorem sz115:szT Tryz.prog 115=some 3:=by kernel_rfl
theorem by115:bytesT Tryz.prog 115=40:=by kernel_rfl
theorem str115:structT Tryz.prog 115=true:=by kernel_rfl
theorem fi115_0:fieldT Tryz.prog 115 0=some (0,22):=by kernel_rfl
theorem fi115_1:fieldT Tryz.prog 115 1=some (1,3):=by kernel_rfl
theorem fi115_2:fieldT Tryz.prog 115 2=some (2,2):=by kernel_rfl
theorem ze115:zeroT Tryz.prog 115=some [.slice none 0 0,.int .i64 0,.int .i64 0]:=by kernel_rfl
theorem kt121:kindT Tryz.prog 121=some 3:=by kernel_rfl
theorem kt125:kindT Tryz.prog 125=some 3:=by kernel_rfl
theorem kt133:kindT Tryz.prog 133=some 3:=by kernel_rfl
theorem kt137:kindT Tryz.prog 137=some 3:=by kernel_rfl
theorem ag154:aggT Tryz.prog 154=some false:=by kernel_rfl
theorem si154:sizeT Tryz.prog 154=1:=by kernel_rfl
theorem sz154:szT Tryz.prog 154=some 1:=by kernel_rfl
theorem by154:bytesT Tryz.prog 154=8:=by kernel_rfl
theorem kt154:kindT Tryz.prog 154=some 1:=by kernel_rfl
theorem zv154:zeroV Tryz.prog 154=some (.pointer none):=by kernel_rfl
theorem ze154:zeroT Tryz.prog 154=some [.pointer none]:=by kernel_rfl
theorem ag156:aggT Tryz.prog 156=some true:=by kernel_rfl
theorem si156:sizeT Tryz.prog 156=2:=by kernel_rfl
theorem sz156:szT Tryz.prog 156=some 2:=by kernel_rfl
theorem by156:bytesT Tryz.prog 156=32:=by kernel_rfl
theorem str156:structT Tryz.prog 156=true:=by kernel_rfl
theorem fi156_0:fieldT Tryz.prog 156 0=some (0,154):=by kernel_rfl
theorem fi156_1:fieldT Tryz.prog 156 1=some (1,22):=by kernel_rfl
theorem ze156:zeroT Tryz.prog 156=some [.pointer none,.slice none 0 0]:=by kernel_rfl
theorem kt159:kindT Tryz.prog 159=some 2:=by kernel_rfl
theorem ag162:aggT Tryz.prog 162=some false:=by kernel_rfl
theorem si162:sizeT Tryz.prog 162=1:=by kernel_rfl
theorem sz162:szT Tryz.prog 162=some 1:=by kernel_rfl
theorem by162:bytesT Tryz.prog 162=8:=by kernel_rfl
theorem in162:intT Tryz.prog 162=some .u64:=by kernel_rfl
theorem zv162:zeroV Tryz.prog 162=some (.int .u64 0):=by kernel_rfl
theorem ze162:zeroT Tryz.prog 162=some [.int .u64 0]:=by kernel_rfl
theorem ag170:aggT Tryz.prog 170=some true:=by kernel_rfl
theorem si170:sizeT Tryz.prog 170=24:=by kernel_rfl
theorem sz170:szT Tryz.prog 170=some 24:=by kernel_rfl
theorem by170:bytesT Tryz.prog 170=24:=by kernel_rfl
theorem ag171:aggT Tryz.prog 171=some false:=by kernel_rfl
theorem si171:sizeT Tryz.prog 171=1:=by kernel_rfl
theorem sz171:szT Tryz.prog 171=some 1:=by kernel_rfl
theorem by171:bytesT Tryz.prog 171=8:=by kernel_rfl
theorem in171:intT Tryz.prog 171=some .u64:=by kernel_rfl
theorem zv171:zeroV Tryz.prog 171=some (.int .u64 0):=by kernel_rfl
theorem ze171:zeroT Tryz.prog 171=some [.int .u64 0]:=by kernel_rfl
theorem ag176:aggT Tryz.prog 176=some false:=by kernel_rfl
theorem si176:sizeT Tryz.prog 176=1:=by kernel_rfl
theorem sz176:szT Tryz.prog 176=some 1:=by kernel_rfl
theorem by176:bytesT Tryz.prog 176=8:=by kernel_rfl
theorem kt176:kindT Tryz.prog 176=some 1:=by kernel_rfl
theorem zv176:zeroV Tryz.prog 176=some (.pointer none):=by kernel_rfl
theorem ze176:zeroT Tryz.prog 176=some [.pointer none]:=by kernel_rfl
theorem ag183:aggT Tryz.prog 183=some true:=by kernel_rfl
theorem si183:sizeT Tryz.prog 183=20:=by kernel_rfl
theorem sz183:szT Tryz.prog 183=some 20:=by kernel_rfl
theorem by183:bytesT Tryz.prog 183=160:=by kernel_rfl
theorem ag184:aggT Tryz.prog 184=some false:=by kernel_rfl
theorem si184:sizeT Tryz.prog 184=1:=by kernel_rfl
theorem sz184:szT Tryz.prog 184=some 1:=by kernel_rfl
theorem by184:bytesT Tryz.prog 184=4:=by kernel_rfl
theorem in184:intT Tryz.prog 184=some .u32:=by kernel_rfl
theorem zv184:zeroV Tryz.prog 184=some (.int .u32 0):=by kernel_rfl
theorem ze184:zeroT Tryz.prog 184=some [.int .u32 0]:=by kernel_rfl
theorem ag185:aggT Tryz.prog 185=some true:=by kernel_rfl
theorem si185:sizeT Tryz.prog 185=65:=by kernel_rfl
theorem sz185:szT Tryz.prog 185=some 65:=by kernel_rfl
theorem by185:bytesT Tryz.prog 185=65:=by kernel_rfl
theorem ag191:aggT Tryz.prog 191=some false:=by kernel_rfl
theorem si191:sizeT Tryz.prog 191=1:=by kernel_rfl
theorem sz191:szT Tryz.prog 191=some 1:=by kernel_rfl
theorem by191:bytesT Tryz.prog 191=8:=by kernel_rfl
theorem in191:intT Tryz.prog 191=some .i64:=by kernel_rfl
theorem zv191:zeroV Tryz.prog 191=some (.int .i64 0):=by kernel_rfl
theorem ze191:zeroT Tryz.prog 191=some [.int .i64 0]:=by kernel_rfl
theorem ag194:aggT Tryz.prog 194=some false:=by kernel_rfl
theorem si194:sizeT Tryz.prog 194=1:=by kernel_rfl
theorem sz194:szT Tryz.prog 194=some 1:=by kernel_rfl
theorem by194:bytesT Tryz.prog 194=8:=by kernel_rfl
theorem kt194:kindT Tryz.prog 194=some 1:=by kernel_rfl
theorem zv194:zeroV Tryz.prog 194=some (.pointer none):=by kernel_rfl
theorem ze194:zeroT Tryz.prog 194=some [.pointer none]:=by kernel_rfl
theorem ag198:aggT Tryz.prog 198=some true:=by kernel_rfl
theorem si198:sizeT Tryz.prog 198=256:=by kernel_rfl
theorem sz198:szT Tryz.prog 198=some 256:=by kernel_rfl
theorem by198:bytesT Tryz.prog 198=256:=by kernel_rfl
theorem ag200:aggT Tryz.prog 200=some true:=by kernel_rfl
theorem si200:sizeT Tryz.prog 200=2:=by kernel_rfl
theorem sz200:szT Tryz.prog 200=some 2:=by kernel_rfl
theorem by200:bytesT Tryz.prog 200=2:=by kernel_rfl
theorem eq200:eqT Tryz.prog 200=some [(0,0),(1,0)]:=by kernel_rfl
theorem str200:structT Tryz.prog 200=true:=by kernel_rfl
theorem fi200_0:fieldT Tryz.prog 200 0=some (0,5):=by kernel_rfl
theorem fi200_1:fieldT Tryz.prog 200 1=some (1,5):=by kernel_rfl
theorem ze200:zeroT Tryz.prog 200=some [.int .u8 0,.int .u8 0]:=by kernel_rfl
theorem ag201:aggT Tryz.prog 201=some true:=by kernel_rfl
theorem si201:sizeT Tryz.prog 201=32:=by kernel_rfl
theorem sz201:szT Tryz.prog 201=some 32:=by kernel_rfl
theorem by201:bytesT Tryz.prog 201=32:=by kernel_rfl
theorem ag206:aggT Tryz.prog 206=some true:=by kernel_rfl
theorem si206:sizeT Tryz.prog 206=3:=by kernel_rfl
theorem sz206:szT Tryz.prog 206=some 3:=by kernel_rfl
theorem by206:bytesT Tryz.prog 206=48:=by kernel_rfl
theorem str206:structT Tryz.prog 206=true:=by kernel_rfl
theorem fi206_0:fieldT Tryz.prog 206 0=some (0,9):=by kernel_rfl
theorem fi206_1:fieldT Tryz.prog 206 1=some (1,9):=by kernel_rfl
theorem fi206_2:fieldT Tryz.prog 206 2=some (2,159):=by kernel_rfl
theorem ze206:zeroT Tryz.prog 206=some [.string ⟨#[]⟩,.string ⟨#[]⟩,.nilIface]:=by kernel_rfl
theorem ag208:aggT Tryz.prog 208=some true:=by kernel_rfl
theorem si208:sizeT Tryz.prog 208=32:=by kernel_rfl
theorem sz208:szT Tryz.prog 208=some 32:=by kernel_rfl
theorem by208:bytesT Tryz.prog 208=32:=by kernel_rfl
theorem ag209:aggT Tryz.prog 209=some true:=by kernel_rfl
theorem si209:sizeT Tryz.prog 209=64:=by kernel_rfl
theorem sz209:szT Tryz.prog 209=some 64:=by kernel_rfl
theorem by209:bytesT Tryz.prog 209=64:=by kernel_rfl
theorem ag210:aggT Tryz.prog 210=some false:=by kernel_rfl
theorem si210:sizeT Tryz.prog 210=1:=by kernel_rfl
theorem sz210:szT Tryz.prog 210=some 1:=by kernel_rfl
theorem by210:bytesT Tryz.prog 210=8:=by kernel_rfl
theorem kt210:kindT Tryz.prog 210=some 1:=by kernel_rfl
theorem zv210:zeroV Tryz.prog 210=some (.pointer none):=by kernel_rfl
theorem ze210:zeroT Tryz.prog 210=some [.pointer none]:=by kernel_rfl
theorem ag212:aggT Tryz.prog 212=some true:=by kernel_rfl
theorem si212:sizeT Tryz.prog 212=1:=by kernel_rfl
theorem sz212:szT Tryz.prog 212=some 1:=by kernel_rfl
theorem by212:bytesT Tryz.prog 212=16:=by kernel_rfl
theorem eq212:eqT Tryz.prog 212=some [(0,2)]:=by kernel_rfl
theorem str212:structT Tryz.prog 212=true:=by kernel_rfl
theorem fi212_0:fieldT Tryz.prog 212 0=some (0,9):=by kernel_rfl
theorem ze212:zeroT Tryz.prog 212=some [.string ⟨#[]⟩]:=by kernel_rfl
def tyF:=(ai (ai (ai (ai (ai (ai (ai (ai (kt1) (ag2)) (ai (si2)
 (sz2))) (ai (ai (by2) (in2)) (ai (zv2) (ai (ze2) (ag3))))) (ai (ai (ai (si3) (sz3)) (ai (by3) (in3))) (ai (ai
 (zv3) (ze3)) (ai (ag4) (ai (si4) (sz4)))))) (ai (ai (ai (ai (by4) (bo4)) (ai (zv4) (ze4))) (ai (ai (ag5) (si5))
 (ai (sz5) (ai (by5) (in5))))) (ai (ai (ai (zv5) (ze5)) (ai (ag9) (si9))) (ai (ai (sz9) (by9)) (ai (st9) (ai
 (zv9) (ze9))))))) (ai (ai (ai (ai (ai (ag21) (si21)) (ai (sz21) (by21))) (ai (ai (in21) (zv21)) (ai (ze21)
 (ai (ag22) (el22))))) (ai (ai (ai (si22) (sz22)) (ai (by22) (kt22))) (ai (ai (zv22) (ze22)) (ai (ag24) (ai (el24)
 (si24)))))) (ai (ai (ai (ai (sz24) (by24)) (ai (kt24) (zv24))) (ai (ai (ze24) (ag25)) (ai (el25) (ai (si25)
 (sz25))))) (ai (ai (ai (by25) (kt25)) (ai (zv25) (ze25))) (ai (ai (ag32) (el32)) (ai (si32) (ai (sz32) (by32))))))))
 (ai (ai (ai (ai (ai (ai (kt32) (zv32)) (ai (ze32) (ag36))) (ai (ai (el36) (si36)) (ai (sz36) (ai
 (by36) (kt36))))) (ai (ai (ai (zv36) (ze36)) (ai (ag38) (si38))) (ai (ai (sz38) (by38)) (ai (str38) (ai (fi38_0)
 (fi38_1)))))) (ai (ai (ai (ai (fi38_2) (ze38)) (ai (kt43) (ag45))) (ai (ai (el45) (si45)) (ai (sz45) (ai (by45)
 (kt45))))) (ai (ai (ai (zv45) (ze45)) (ai (ag47) (si47))) (ai (ai (sz47) (by47)) (ai (str47) (ai (fi47_0) (fi47_1)))))))
 (ai (ai (ai (ai (ai (fi47_2) (ze47)) (ai (ag64) (si64))) (ai (ai (sz64) (by64)) (ai (kt64) (ai (zv64)
 (ze64))))) (ai (ai (ai (ag71) (si71)) (ai (sz71) (by71))) (ai (ai (eq71) (str71)) (ai (fi71_0) (ai (fi71_1) (ze71))))))
 (ai (ai (ai (ai (ag73) (si73)) (ai (sz73) (by73))) (ai (ai (str73) (fi73_0)) (ai (fi73_1) (ai (ze73) (ag74)))))
 (ai (ai (ai (si74) (sz74)) (ai (by74) (ai (kt74) (zv74)))) (ai (ai (ze74) (ag78)) (ai (el78) (ai (si78)
 (sz78))))))))) (ai (ai (ai (ai (ai (ai (ai (by78) (kt78)) (ai (zv78) (ze78))) (ai (ai (ag80) (si80))
 (ai (sz80) (ai (by80) (str80))))) (ai (ai (ai (fi80_0) (fi80_1)) (ai (fi80_2) (ze80))) (ai (ai (ag115) (si115)) (ai
 (sz115) (ai (by115) (str115)))))) (ai (ai (ai (ai (fi115_0) (fi115_1)) (ai (fi115_2) (ze115))) (ai (ai (kt121) (kt125))
 (ai (kt133) (ai (kt137) (ag154))))) (ai (ai (ai (si154) (sz154)) (ai (by154) (kt154))) (ai (ai (zv154) (ze154)) (ai
 (ag156) (ai (si156) (sz156))))))) (ai (ai (ai (ai (ai (by156) (str156)) (ai (fi156_0) (fi156_1))) (ai (ai (ze156)
 (kt159)) (ai (ag162) (ai (si162) (sz162))))) (ai (ai (ai (by162) (in162)) (ai (zv162) (ze162))) (ai (ai (ag170) (si170))
 (ai (sz170) (ai (by170) (ag171)))))) (ai (ai (ai (ai (si171) (sz171)) (ai (by171) (in171))) (ai (ai (zv171) (ze171))
 (ai (ag176) (ai (si176) (sz176))))) (ai (ai (ai (by176) (kt176)) (ai (zv176) (ze176))) (ai (ai (ag183) (si183)) (ai
 (sz183) (ai (by183) (ag184)))))))) (ai (ai (ai (ai (ai (ai (si184) (sz184)) (ai (by184) (in184))) (ai (ai
 (zv184) (ze184)) (ai (ag185) (ai (si185) (sz185))))) (ai (ai (ai (by185) (ag191)) (ai (si191) (sz191))) (ai (ai (by191)
 (in191)) (ai (zv191) (ai (ze191) (ag194)))))) (ai (ai (ai (ai (si194) (sz194)) (ai (by194) (kt194))) (ai (ai (zv194)
 (ze194)) (ai (ag198) (ai (si198) (sz198))))) (ai (ai (ai (by198) (ag200)) (ai (si200) (sz200))) (ai (ai (by200) (eq200))
 (ai (str200) (ai (fi200_0) (fi200_1))))))) (ai (ai (ai (ai (ai (ze200) (ag201)) (ai (si201) (sz201))) (ai (ai
 (by201) (ag206)) (ai (si206) (ai (sz206) (by206))))) (ai (ai (ai (str206) (fi206_0)) (ai (fi206_1) (fi206_2))) (ai (ai
 (ze206) (ag208)) (ai (si208) (ai (sz208) (by208)))))) (ai (ai (ai (ai (ag209) (si209)) (ai (sz209) (by209))) (ai (ai
 (ag210) (si210)) (ai (sz210) (ai (by210) (kt210))))) (ai (ai (ai (zv210) (ze210)) (ai (ag212) (ai (si212) (sz212)))) (ai
 (ai (by212) (eq212)) (ai (str212) (ai (fi212_0) (ze212))))))))))

end Go.AM
