/-
  WHAT THE PROGRAM SAYS OF ITS TYPES,each fact by reckoning.
-/
import Derived.Test.YtenlmhbkigfjeaaM2Tool
import Derived.Test.YtenlmhbkigfjeaaProg
set_option linter.unusedVariables false
set_option linter.defProp false
namespace Go.AM
open Go.Proofs
theorem mixed:Try.prog.follows .mixedOrders=true:=by kernel_rfl
theorem kt1:kindT Try.prog 1=some 3:=by kernel_rfl
theorem ag2:aggT Try.prog 2=some false:=by kernel_rfl
theorem si2:sizeT Try.prog 2=1:=by kernel_rfl
theorem sz2:szT Try.prog 2=some 1:=by kernel_rfl
theorem by2:bytesT Try.prog 2=8:=by kernel_rfl
theorem in2:intT Try.prog 2=some .i64:=by kernel_rfl
theorem zv2:zeroV Try.prog 2=some (.int .i64 0):=by kernel_rfl
theorem ze2:zeroT Try.prog 2=some [.int .i64 0]:=by kernel_rfl
theorem ag3:aggT Try.prog 3=some false:=by kernel_rfl
theorem si3:sizeT Try.prog 3=1:=by kernel_rfl
theorem sz3:szT Try.prog 3=some 1:=by kernel_rfl
theorem by3:bytesT Try.prog 3=8:=by kernel_rfl
theorem in3:intT Try.prog 3=some .i64:=by kernel_rfl
theorem zv3:zeroV Try.prog 3=some (.int .i64 0):=by kernel_rfl
theorem ze3:zeroT Try.prog 3=some [.int .i64 0]:=by kernel_rfl
theorem ag4:aggT Try.prog 4=some false:=by kernel_rfl
theorem si4:sizeT Try.prog 4=1:=by kernel_rfl
theorem sz4:szT Try.prog 4=some 1:=by kernel_rfl
theorem by4:bytesT Try.prog 4=1:=by kernel_rfl
theorem bo4:boolT Try.prog 4=true:=by kernel_rfl
theorem zv4:zeroV Try.prog 4=some (.bool false):=by kernel_rfl
theorem ze4:zeroT Try.prog 4=some [.bool false]:=by kernel_rfl
theorem ag5:aggT Try.prog 5=some false:=by kernel_rfl
theorem si5:sizeT Try.prog 5=1:=by kernel_rfl
theorem sz5:szT Try.prog 5=some 1:=by kernel_rfl
theorem by5:bytesT Try.prog 5=1:=by kernel_rfl
theorem in5:intT Try.prog 5=some .u8:=by kernel_rfl
theorem zv5:zeroV Try.prog 5=some (.int .u8 0):=by kernel_rfl
theorem ze5:zeroT Try.prog 5=some [.int .u8 0]:=by kernel_rfl
theorem ag9:aggT Try.prog 9=some false:=by kernel_rfl
theorem si9:sizeT Try.prog 9=1:=by kernel_rfl
theorem sz9:szT Try.prog 9=some 1:=by kernel_rfl
theorem by9:bytesT Try.prog 9=16:=by kernel_rfl
theorem st9:stringT Try.prog 9=true:=by kernel_rfl
theorem zv9:zeroV Try.prog 9=some (.string ⟨#[]⟩):=by kernel_rfl
theorem ze9:zeroT Try.prog 9=some [.string ⟨#[]⟩]:=by kernel_rfl
theorem ag22:aggT Try.prog 22=some false:=by kernel_rfl
theorem el22:elemT Try.prog 22=some 5:=by kernel_rfl
theorem si22:sizeT Try.prog 22=1:=by kernel_rfl
theorem sz22:szT Try.prog 22=some 1:=by kernel_rfl
theorem by22:bytesT Try.prog 22=24:=by kernel_rfl
theorem kt22:kindT Try.prog 22=some 0:=by kernel_rfl
theorem zv22:zeroV Try.prog 22=some (.slice none 0 0):=by kernel_rfl
theorem ze22:zeroT Try.prog 22=some [.slice none 0 0]:=by kernel_rfl
theorem ag24:aggT Try.prog 24=some false:=by kernel_rfl
theorem el24:elemT Try.prog 24=some 103:=by kernel_rfl
theorem si24:sizeT Try.prog 24=1:=by kernel_rfl
theorem sz24:szT Try.prog 24=some 1:=by kernel_rfl
theorem by24:bytesT Try.prog 24=24:=by kernel_rfl
theorem kt24:kindT Try.prog 24=some 0:=by kernel_rfl
theorem zv24:zeroV Try.prog 24=some (.slice none 0 0):=by kernel_rfl
theorem ze24:zeroT Try.prog 24=some [.slice none 0 0]:=by kernel_rfl
theorem ag25:aggT Try.prog 25=some false:=by kernel_rfl
theorem el25:elemT Try.prog 25=some 35:=by kernel_rfl
theorem si25:sizeT Try.prog 25=1:=by kernel_rfl
theorem sz25:szT Try.prog 25=some 1:=by kernel_rfl
theorem by25:bytesT Try.prog 25=24:=by kernel_rfl
theorem kt25:kindT Try.prog 25=some 0:=by kernel_rfl
theorem zv25:zeroV Try.prog 25=some (.slice none 0 0):=by kernel_rfl
theorem ze25:zeroT Try.prog 25=some [.slice none 0 0]:=by kernel_rfl
theorem ag27:aggT Try.prog 27=some true:=by kernel_rfl
theorem si27:sizeT Try.prog 27=3:=by kernel_rfl
theorem sz27:szT Try.prog 27=some 3:=by kernel_rfl
theorem by27:bytesT Try.prog 27=64:=by kernel_rfl
theorem str27:structT Try.prog 27=true:=by kernel_rfl
theorem fi27_0:fieldT Try.prog 27 0=some (0,24):=by kernel_rfl
theorem fi27_1:fieldT Try.prog 27 1=some (1,9):=by kernel_rfl
theorem fi27_2:fieldT Try.prog 27 2=some (2,25):=by kernel_rfl
theorem ze27:zeroT Try.prog 27=some [.slice none 0 0,.string ⟨#[]⟩,.slice none 0 0]:=by kernel_rfl
theorem ag29:aggT Try.prog 29=some false:=by kernel_rfl
theorem el29:elemT Try.prog 29=some 42:=by kernel_rfl
theorem si29:sizeT Try.prog 29=1:=by kernel_rfl
theorem sz29:szT Try.prog 29=some 1:=by kernel_rfl
theorem by29:bytesT Try.prog 29=24:=by kernel_rfl
theorem kt29:kindT Try.prog 29=some 0:=by kernel_rfl
theorem zv29:zeroV Try.prog 29=some (.slice none 0 0):=by kernel_rfl
theorem ze29:zeroT Try.prog 29=some [.slice none 0 0]:=by kernel_rfl
theorem ag35:aggT Try.prog 35=some false:=by kernel_rfl
theorem el35:elemT Try.prog 35=some 117:=by kernel_rfl
theorem si35:sizeT Try.prog 35=1:=by kernel_rfl
theorem sz35:szT Try.prog 35=some 1:=by kernel_rfl
theorem by35:bytesT Try.prog 35=24:=by kernel_rfl
theorem kt35:kindT Try.prog 35=some 0:=by kernel_rfl
theorem zv35:zeroV Try.prog 35=some (.slice none 0 0):=by kernel_rfl
theorem ze35:zeroT Try.prog 35=some [.slice none 0 0]:=by kernel_rfl
theorem ag42:aggT Try.prog 42=some true:=by kernel_rfl
theorem si42:sizeT Try.prog 42=2:=by kernel_rfl
theorem sz42:szT Try.prog 42=some 2:=by kernel_rfl
theorem by42:bytesT Try.prog 42=16:=by kernel_rfl
theorem eq42:eqT Try.prog 42=some [(0,0),(1,0)]:=by kernel_rfl
theorem str42:structT Try.prog 42=true:=by kernel_rfl
theorem fi42_0:fieldT Try.prog 42 0=some (0,2):=by kernel_rfl
theorem fi42_1:fieldT Try.prog 42 1=some (1,2):=by kernel_rfl
theorem ze42:zeroT Try.prog 42=some [.int .i64 0,.int .i64 0]:=by kernel_rfl
theorem ag46:aggT Try.prog 46=some false:=by kernel_rfl
theorem el46:elemT Try.prog 46=some 52:=by kernel_rfl
theorem si46:sizeT Try.prog 46=1:=by kernel_rfl
theorem sz46:szT Try.prog 46=some 1:=by kernel_rfl
theorem by46:bytesT Try.prog 46=24:=by kernel_rfl
theorem kt46:kindT Try.prog 46=some 0:=by kernel_rfl
theorem zv46:zeroV Try.prog 46=some (.slice none 0 0):=by kernel_rfl
theorem ze46:zeroT Try.prog 46=some [.slice none 0 0]:=by kernel_rfl
theorem ag48:aggT Try.prog 48=some true:=by kernel_rfl
theorem si48:sizeT Try.prog 48=3:=by kernel_rfl
theorem sz48:szT Try.prog 48=some 3:=by kernel_rfl
theorem by48:bytesT Try.prog 48=48:=by kernel_rfl
theorem str48:structT Try.prog 48=true:=by kernel_rfl
theorem fi48_0:fieldT Try.prog 48 0=some (0,2):=by kernel_rfl
theorem fi48_1:fieldT Try.prog 48 1=some (1,9):=by kernel_rfl
theorem fi48_2:fieldT Try.prog 48 2=some (2,46):=by kernel_rfl
theorem ze48:zeroT Try.prog 48=some [.int .i64 0,.string ⟨#[]⟩,.slice none 0 0]:=by kernel_rfl
theorem ag52:aggT Try.prog 52=some false:=by kernel_rfl
theorem el52:elemT Try.prog 52=some 2:=by kernel_rfl
theorem si52:sizeT Try.prog 52=1:=by kernel_rfl
theorem sz52:szT Try.prog 52=some 1:=by kernel_rfl
theorem by52:bytesT Try.prog 52=24:=by kernel_rfl
theorem kt52:kindT Try.prog 52=some 0:=by kernel_rfl
theorem zv52:zeroV Try.prog 52=some (.slice none 0 0):=by kernel_rfl
theorem ze52:zeroT Try.prog 52=some [.slice none 0 0]:=by kernel_rfl
theorem ag99:aggT Try.prog 99=some false:=by kernel_rfl
theorem si99:sizeT Try.prog 99=1:=by kernel_rfl
theorem sz99:szT Try.prog 99=some 1:=by kernel_rfl
theorem by99:bytesT Try.prog 99=8:=by kernel_rfl
theorem kt99:kindT Try.prog 99=some 1:=by kernel_rfl
theorem zv99:zeroV Try.prog 99=some (.pointer none):=by kernel_rfl
theorem ze99:zeroT Try.prog 99=some [.pointer none]:=by kernel_rfl
theorem ag103:aggT Try.prog 103=some true:=by kernel_rfl
theorem si103:sizeT Try.prog 103=2:=by kernel_rfl
theorem sz103:szT Try.prog 103=some 2:=by kernel_rfl
theorem by103:bytesT Try.prog 103=16:=by kernel_rfl
theorem eq103:eqT Try.prog 103=some [(0,0),(1,0)]:=by kernel_rfl
theorem str103:structT Try.prog 103=true:=by kernel_rfl
theorem fi103_0:fieldT Try.prog 103 0=some (0,2):=by kernel_rfl
theorem fi103_1:fieldT Try.prog 103 1=some (1,2):=by kernel_rfl
theorem ze103:zeroT Try.prog 103=some [.int .i64 0,.int .i64 0]:=by kernel_rfl
theorem ag111:aggT Try.prog 111=some false:=by kernel_rfl
theorem si111:sizeT Try.prog 111=1:=by kernel_rfl
theorem sz111:szT Try.prog 111=some 1:=by kernel_rfl
theorem by111:bytesT Try.prog 111=8:=by kernel_rfl
theorem in111:intT Try.prog 111=some .u64:=by kernel_rfl
theorem zv111:zeroV Try.prog 111=some (.int .u64 0):=by kernel_rfl
theorem ze111:zeroT Try.prog 111=some [.int .u64 0]:=by kernel_rfl
theorem ag117:aggT Try.prog 117=some true:=by kernel_rfl
theorem si117:sizeT Try.prog 117=2:=by kernel_rfl
theorem sz117:szT Try.prog 117=some 2:=by kernel_rfl
theorem by117:bytesT Try.prog 117=48:=by kernel_rfl
theorem str117:structT Try.prog 117=true:=by kernel_rfl
theorem fi117_0:fieldT Try.prog 117 0=some (0,52):=by kernel_rfl
theorem fi117_1:fieldT Try.prog 117 1=some (1,52):=by kernel_rfl
theorem ze117:zeroT Try.prog 117=some [.slice none 0 0,.slice none 0 0]:=by kernel_rfl
theorem kt139:kindT Try.prog 139=some 3:=by kernel_rfl
theorem ag167:aggT Try.prog 167=some true:=by kernel_rfl
theorem si167:sizeT Try.prog 167=3:=by kernel_rfl
theorem sz167:szT Try.prog 167=some 3:=by kernel_rfl
theorem by167:bytesT Try.prog 167=40:=by kernel_rfl
theorem str167:structT Try.prog 167=true:=by kernel_rfl
theorem fi167_0:fieldT Try.prog 167 0=some (0,22):=by kernel_rfl
theorem fi167_1:fieldT Try.prog 167 1=some (1,3):=by kernel_rfl
theorem fi167_2:fieldT Try.prog 167 2=some (2,2):=by kernel_rfl
theorem ze167:zeroT Try.prog 167=some [.slice none 0 0,.int .i64 0,.int .i64 0]:=by kernel_rfl
theorem kt171:kindT Try.prog 171=some 3:=by kernel_rfl
theorem ag176:aggT Try.prog 176=some false:=by kernel_rfl
theorem el176:elemT Try.prog 176=some 9:=by kernel_rfl
theorem si176:sizeT Try.prog 176=1:=by kernel_rfl
theorem sz176:szT Try.prog 176=some 1:=by kernel_rfl
theorem by176:bytesT Try.prog 176=24:=by kernel_rfl
theorem kt176:kindT Try.prog 176=some 0:=by kernel_rfl
theorem zv176:zeroV Try.prog 176=some (.slice none 0 0):=by kernel_rfl
theorem ze176:zeroT Try.prog 176=some [.slice none 0 0]:=by kernel_rfl
theorem ag191:aggT Try.prog 191=some false:=by kernel_rfl
theorem si191:sizeT Try.prog 191=1:=by kernel_rfl
theorem sz191:szT Try.prog 191=some 1:=by kernel_rfl
theorem by191:bytesT Try.prog 191=8:=by kernel_rfl
theorem kt191:kindT Try.prog 191=some 1:=by kernel_rfl
theorem zv191:zeroV Try.prog 191=some (.pointer none):=by kernel_rfl
theorem ze191:zeroT Try.prog 191=some [.pointer none]:=by kernel_rfl
theorem ag213:aggT Try.prog 213=some false:=by kernel_rfl
theorem el213:elemT Try.prog 213=some 46:=by kernel_rfl
theorem si213:sizeT Try.prog 213=1:=by kernel_rfl
theorem sz213:szT Try.prog 213=some 1:=by kernel_rfl
theorem by213:bytesT Try.prog 213=24:=by kernel_rfl
theorem kt213:kindT Try.prog 213=some 0:=by kernel_rfl
theorem zv213:zeroV Try.prog 213=some (.slice none 0 0):=by kernel_rfl
theorem ze213:zeroT Try.prog 213=some [.slice none 0 0]:=by kernel_rfl
theorem ag215:aggT Try.prog 215=some true:=by kernel_rfl
theorem si215:sizeT Try.prog 215=3:=by kernel_rfl
theorem sz215:szT Try.prog 215=some 3:=by kernel_rfl
theorem by215:bytesT Try.prog 215=56:=by kernel_rfl
theorem str215:structT Try.prog 215=true:=by kernel_rfl
theorem fi215_0:fieldT Try.prog 215 0=some (0,2):=by kernel_rfl
theorem fi215_1:fieldT Try.prog 215 1=some (1,213):=by kernel_rfl
theorem fi215_2:fieldT Try.prog 215 2=some (2,213):=by kernel_rfl
theorem ze215:zeroT Try.prog 215=some [.int .i64 0,.slice none 0 0,.slice none 0 0]:=by kernel_rfl
theorem ag246:aggT Try.prog 246=some false:=by kernel_rfl
theorem el246:elemT Try.prog 246=some 4:=by kernel_rfl
theorem si246:sizeT Try.prog 246=1:=by kernel_rfl
theorem sz246:szT Try.prog 246=some 1:=by kernel_rfl
theorem by246:bytesT Try.prog 246=24:=by kernel_rfl
theorem kt246:kindT Try.prog 246=some 0:=by kernel_rfl
theorem zv246:zeroV Try.prog 246=some (.slice none 0 0):=by kernel_rfl
theorem ze246:zeroT Try.prog 246=some [.slice none 0 0]:=by kernel_rfl
def tyF:=(ai (ai (ai (ai (ai (ai (ai (kt1) (ai (ag2) (si2))) (ai (sz2)
  (ai (by2) (in2)))) (ai (ai (zv2) (ai (ze2) (ag3))) (ai (si3) (ai (sz3) (by3))))) (ai (ai (ai (in3) (ai (zv3)
  (ze3))) (ai (ag4) (ai (si4) (sz4)))) (ai (ai (by4) (ai (bo4) (zv4))) (ai (ai (ze4) (ag5)) (ai (si5) (sz5)))))) (ai
  (ai (ai (ai (by5) (ai (in5) (zv5))) (ai (ze5) (ai (ag9) (si9)))) (ai (ai (sz9) (ai (by9) (st9))) (ai (zv9)
  (ai (ze9) (ag22))))) (ai (ai (ai (el22) (ai (si22) (sz22))) (ai (by22) (ai (kt22) (zv22)))) (ai (ai (ze22)
  (ai (ag24) (el24))) (ai (ai (si24) (sz24)) (ai (by24) (kt24))))))) (ai (ai (ai (ai (ai (zv24) (ai (ze24)
  (ag25))) (ai (el25) (ai (si25) (sz25)))) (ai (ai (by25) (ai (kt25) (zv25))) (ai (ze25) (ai (ag27) (si27))))) (ai (ai
  (ai (sz27) (ai (by27) (str27))) (ai (fi27_0) (ai (fi27_1) (fi27_2)))) (ai (ai (ze27) (ai (ag29) (el29))) (ai (ai
  (si29) (sz29)) (ai (by29) (kt29)))))) (ai (ai (ai (ai (zv29) (ai (ze29) (ag35))) (ai (el35) (ai (si35) (sz35)))) (ai
  (ai (by35) (ai (kt35) (zv35))) (ai (ze35) (ai (ag42) (si42))))) (ai (ai (ai (sz42) (ai (by42) (eq42))) (ai (str42)
  (ai (fi42_0) (fi42_1)))) (ai (ai (ze42) (ai (ag46) (el46))) (ai (ai (si46) (sz46)) (ai (by46) (kt46)))))))) (ai (ai
  (ai (ai (ai (ai (zv46) (ai (ze46) (ag48))) (ai (si48) (ai (sz48) (by48)))) (ai (ai (str48) (ai (fi48_0)
  (fi48_1))) (ai (fi48_2) (ai (ze48) (ag52))))) (ai (ai (ai (el52) (ai (si52) (sz52))) (ai (by52) (ai (kt52) (zv52))))
  (ai (ai (ze52) (ai (ag99) (si99))) (ai (ai (sz99) (by99)) (ai (kt99) (zv99)))))) (ai (ai (ai (ai (ze99)
  (ai (ag103) (si103))) (ai (sz103) (ai (by103) (eq103)))) (ai (ai (str103) (ai (fi103_0) (fi103_1))) (ai (ze103) (ai (ag111)
  (si111))))) (ai (ai (ai (sz111) (ai (by111) (in111))) (ai (zv111) (ai (ze111) (ag117)))) (ai (ai (si117) (ai (sz117)
  (by117))) (ai (ai (str117) (fi117_0)) (ai (fi117_1) (ze117))))))) (ai (ai (ai (ai (ai (kt139) (ai (ag167) (si167)))
  (ai (sz167) (ai (by167) (str167)))) (ai (ai (fi167_0) (ai (fi167_1) (fi167_2))) (ai (ze167) (ai (kt171) (ag176))))) (ai
  (ai (ai (el176) (ai (si176) (sz176))) (ai (by176) (ai (kt176) (zv176)))) (ai (ai (ze176) (ai (ag191) (si191))) (ai
  (ai (sz191) (by191)) (ai (kt191) (zv191)))))) (ai (ai (ai (ai (ze191) (ai (ag213) (el213))) (ai (si213) (ai (sz213)
  (by213)))) (ai (ai (kt213) (ai (zv213) (ze213))) (ai (ai (ag215) (si215)) (ai (sz215) (by215))))) (ai (ai (ai
  (str215) (ai (fi215_0) (fi215_1))) (ai (fi215_2) (ai (ze215) (ag246)))) (ai (ai (el246) (ai (si246) (sz246))) (ai (ai
  (by246) (kt246)) (ai (zv246) (ze246)))))))))

end Go.AM
