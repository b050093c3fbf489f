/-
  WHAT THE PROGRAM SAYS OF ITS TYPES,each fact by reckoning.
-/
import Derived.Test.YtenlmhbkigfjeaaM2Tool
import Derived.Test.YtenlmhbkigfjeaaProg
set_option linter.unusedVariables false
namespace Go.AM
open Go.Proofs
theorem mixed:Try.prog.follows .mixedOrders=true:=by kernel_rfl
theorem kt1:kindT Try.prog 1=some 3:=by kernel_rfl
theorem ag2:aggT Try.prog 2=some false:=by kernel_rfl
theorem si2:sizeT Try.prog 2=1:=by kernel_rfl
theorem sz2:szT Try.prog 2=some 1:=by kernel_rfl
theorem by2:bytesT Try.prog 2=8:=by kernel_rfl
theorem in2:intT Try.prog 2=some .i64:=by kernel_rfl
theorem zv2:zeroV Try.prog 2=some (.int .i64 0):=by kernel_rfl
theorem ze2:zeroT Try.prog 2=some [.int .i64 0]:=by kernel_rfl
theorem ag3:aggT Try.prog 3=some false:=by kernel_rfl
theorem si3:sizeT Try.prog 3=1:=by kernel_rfl
theorem sz3:szT Try.prog 3=some 1:=by kernel_rfl
theorem by3:bytesT Try.prog 3=8:=by kernel_rfl
theorem in3:intT Try.prog 3=some .i64:=by kernel_rfl
theorem zv3:zeroV Try.prog 3=some (.int .i64 0):=by kernel_rfl
theorem ze3:zeroT Try.prog 3=some [.int .i64 0]:=by kernel_rfl
theorem ag4:aggT Try.prog 4=some false:=by kernel_rfl
theorem si4:sizeT Try.prog 4=1:=by kernel_rfl
theorem sz4:szT Try.prog 4=some 1:=by kernel_rfl
theorem by4:bytesT Try.prog 4=1:=by kernel_rfl
theorem bo4:boolT Try.prog 4=true:=by kernel_rfl
theorem zv4:zeroV Try.prog 4=some (.bool false):=by kernel_rfl
theorem ze4:zeroT Try.prog 4=some [.bool false]:=by kernel_rfl
theorem ag5:aggT Try.prog 5=some false:=by kernel_rfl
theorem si5:sizeT Try.prog 5=1:=by kernel_rfl
theorem sz5:szT Try.prog 5=some 1:=by kernel_rfl
theorem by5:bytesT Try.prog 5=1:=by kernel_rfl
theorem in5:intT Try.prog 5=some .u8:=by kernel_rfl
theorem zv5:zeroV Try.prog 5=some (.int .u8 0):=by kernel_rfl
theorem ze5:zeroT Try.prog 5=some [.int .u8 0]:=by kernel_rfl
theorem ag9:aggT Try.prog 9=some false:=by kernel_rfl
theorem si9:sizeT Try.prog 9=1:=by kernel_rfl
theorem sz9:szT Try.prog 9=some 1:=by kernel_rfl
theorem by9:bytesT Try.prog 9=16:=by kernel_rfl
theorem st9:stringT Try.prog 9=true:=by kernel_rfl
theorem zv9:zeroV Try.prog 9=some (.string ⟨#[]⟩):=by kernel_rfl
theorem ze9:zeroT Try.prog 9=some [.string ⟨#[]⟩]:=by kernel_rfl
theorem ag22:aggT Try.prog 22=some false:=by kernel_rfl
theorem el22:elemT Try.prog 22=some 5:=by kernel_rfl
theorem si22:sizeT Try.prog 22=1:=by kernel_rfl
theorem sz22:szT Try.prog 22=some 1:=by kernel_rfl
theorem by22:bytesT Try.prog 22=24:=by kernel_rfl
theorem kt22:kindT Try.prog 22=some 0:=by kernel_rfl
theorem zv22:zeroV Try.prog 22=some (.slice none 0 0):=by kernel_rfl
theorem ze22:zeroT Try.prog 22=some [.slice none 0 0]:=by kernel_rfl
theorem ag24:aggT Try.prog 24=some false:=by kernel_rfl
theorem el24:elemT Try.prog 24=some 103:=by kernel_rfl
theorem si24:sizeT Try.prog 24=1:=by kernel_rfl
theorem sz24:szT Try.prog 24=some 1:=by kernel_rfl
theorem by24:bytesT Try.prog 24=24:=by kernel_rfl
theorem kt24:kindT Try.prog 24=some 0:=by kernel_rfl
theorem zv24:zeroV Try.prog 24=some (.slice none 0 0):=by kernel_rfl
theorem ze24:zeroT Try.prog 24=some [.slice none 0 0]:=by kernel_rfl
theorem ag25:aggT Try.prog 25=some false:=by kernel_rfl
theorem el25:elemT Try.prog 25=some 35:=by kernel_rfl
theorem si25:sizeT Try.prog 25=1:=by kernel_rfl
theorem sz25:szT Try.prog 25=some 1:=by kernel_rfl
theorem by25:bytesT Try.prog 25=24:=by kernel_rfl
theorem kt25:kindT Try.prog 25=some 0:=by kernel_rfl
theorem zv25:zeroV Try.prog 25=some (.slice none 0 0):=by kernel_rfl
theorem ze25:zeroT Try.prog 25=some [.slice none 0 0]:=by kernel_rfl
theorem ag27:aggT Try.prog 27=some true:=by kernel_rfl
theorem si27:sizeT Try.prog 27=3:=by kernel_rfl
theorem sz27:szT Try.prog 27=some 3:=by kernel_rfl
theorem by27:bytesT Try.prog 27=64:=by kernel_rfl
theorem str27:structT Try.prog 27=true:=by kernel_rfl
theorem fi27_0:fieldT Try.prog 27 0=some (0,24):=by kernel_rfl
theorem fi27_1:fieldT Try.prog 27 1=some (1,9):=by kernel_rfl
theorem fi27_2:fieldT Try.prog 27 2=some (2,25):=by kernel_rfl
theorem ze27:zeroT Try.prog 27=some [.slice none 0 0,.string ⟨#[]⟩,.slice none 0 0]:=by kernel_rfl
theorem ag29:aggT Try.prog 29=some false:=by kernel_rfl
theorem el29:elemT Try.prog 29=some 42:=by kernel_rfl
theorem si29:sizeT Try.prog 29=1:=by kernel_rfl
theorem sz29:szT Try.prog 29=some 1:=by kernel_rfl
theorem by29:bytesT Try.prog 29=24:=by kernel_rfl
theorem kt29:kindT Try.prog 29=some 0:=by kernel_rfl
theorem zv29:zeroV Try.prog 29=some (.slice none 0 0):=by kernel_rfl
theorem ze29:zeroT Try.prog 29=some [.slice none 0 0]:=by kernel_rfl
theorem ag32:aggT Try.prog 32=some false:=by kernel_rfl
theorem si32:sizeT Try.prog 32=1:=by kernel_rfl
theorem sz32:szT Try.prog 32=some 1:=by kernel_rfl
theorem by32:bytesT Try.prog 32=8:=by kernel_rfl
theorem kt32:kindT Try.prog 32=some 1:=by kernel_rfl
theorem zv32:zeroV Try.prog 32=some (.pointer none):=by kernel_rfl
theorem ze32:zeroT Try.prog 32=some [.pointer none]:=by kernel_rfl
theorem ag34:aggT Try.prog 34=some false:=by kernel_rfl
theorem si34:sizeT Try.prog 34=1:=by kernel_rfl
theorem sz34:szT Try.prog 34=some 1:=by kernel_rfl
theorem by34:bytesT Try.prog 34=8:=by kernel_rfl
theorem in34:intT Try.prog 34=some .u64:=by kernel_rfl
theorem zv34:zeroV Try.prog 34=some (.int .u64 0):=by kernel_rfl
theorem ze34:zeroT Try.prog 34=some [.int .u64 0]:=by kernel_rfl
theorem ag35:aggT Try.prog 35=some false:=by kernel_rfl
theorem el35:elemT Try.prog 35=some 117:=by kernel_rfl
theorem si35:sizeT Try.prog 35=1:=by kernel_rfl
theorem sz35:szT Try.prog 35=some 1:=by kernel_rfl
theorem by35:bytesT Try.prog 35=24:=by kernel_rfl
theorem kt35:kindT Try.prog 35=some 0:=by kernel_rfl
theorem zv35:zeroV Try.prog 35=some (.slice none 0 0):=by kernel_rfl
theorem ze35:zeroT Try.prog 35=some [.slice none 0 0]:=by kernel_rfl
theorem ag42:aggT Try.prog 42=some true:=by kernel_rfl
theorem si42:sizeT Try.prog 42=2:=by kernel_rfl
theorem sz42:szT Try.prog 42=some 2:=by kernel_rfl
theorem by42:bytesT Try.prog 42=16:=by kernel_rfl
theorem eq42:eqT Try.prog 42=some [(0,0),(1,0)]:=by kernel_rfl
theorem str42:structT Try.prog 42=true:=by kernel_rfl
theorem fi42_0:fieldT Try.prog 42 0=some (0,2):=by kernel_rfl
theorem fi42_1:fieldT Try.prog 42 1=some (1,2):=by kernel_rfl
theorem ze42:zeroT Try.prog 42=some [.int .i64 0,.int .i64 0]:=by kernel_rfl
theorem ag46:aggT Try.prog 46=some false:=by kernel_rfl
theorem el46:elemT Try.prog 46=some 52:=by kernel_rfl
theorem si46:sizeT Try.prog 46=1:=by kernel_rfl
theorem sz46:szT Try.prog 46=some 1:=by kernel_rfl
theorem by46:bytesT Try.prog 46=24:=by kernel_rfl
theorem kt46:kindT Try.prog 46=some 0:=by kernel_rfl
theorem zv46:zeroV Try.prog 46=some (.slice none 0 0):=by kernel_rfl
theorem ze46:zeroT Try.prog 46=some [.slice none 0 0]:=by kernel_rfl
theorem ag52:aggT Try.prog 52=some false:=by kernel_rfl
theorem el52:elemT Try.prog 52=some 2:=by kernel_rfl
theorem si52:sizeT Try.prog 52=1:=by kernel_rfl
theorem sz52:szT Try.prog 52=some 1:=by kernel_rfl
theorem by52:bytesT Try.prog 52=24:=by kernel_rfl
theorem kt52:kindT Try.prog 52=some 0:=by kernel_rfl
theorem zv52:zeroV Try.prog 52=some (.slice none 0 0):=by kernel_rfl
theorem ze52:zeroT Try.prog 52=some [.slice none 0 0]:=by kernel_rfl
theorem ag99:aggT Try.prog 99=some false:=by kernel_rfl
theorem si99:sizeT Try.prog 99=1:=by kernel_rfl
theorem sz99:szT Try.prog 99=some 1:=by kernel_rfl
theorem by99:bytesT Try.prog 99=8:=by kernel_rfl
theorem kt99:kindT Try.prog 99=some 1:=by kernel_rfl
theorem zv99:zeroV Try.prog 99=some (.pointer none):=by kernel_rfl
theorem ze99:zeroT Try.prog 99=some [.pointer none]:=by kernel_rfl
theorem ag103:aggT Try.prog 103=some true:=by kernel_rfl
theorem si103:sizeT Try.prog 103=2:=by kernel_rfl
theorem sz103:szT Try.prog 103=some 2:=by kernel_rfl
theorem by103:bytesT Try.prog 103=16:=by kernel_rfl
theorem eq103:eqT Try.prog 103=some [(0,0),(1,0)]:=by kernel_rfl
theorem str103:structT Try.prog 103=true:=by kernel_rfl
theorem fi103_0:fieldT Try.prog 103 0=some (0,2):=by kernel_rfl
theorem fi103_1:fieldT Try.prog 103 1=some (1,2):=by kernel_rfl
theorem ze103:zeroT Try.prog 103=some [.int .i64 0,.int .i64 0]:=by kernel_rfl
theorem ag110:aggT Try.prog 110=some true:=by kernel_rfl
theorem si110:sizeT Try.prog 110=3:=by kernel_rfl
theorem sz110:szT Try.prog 110=some 3:=by kernel_rfl
theorem by110:bytesT Try.prog 110=40:=by kernel_rfl
theorem str110:structT Try.prog 110=true:=by kernel_rfl
theorem fi110_0:fieldT Try.prog 110 0=some (0,22):=by kernel_rfl
theorem fi110_1:fieldT Try.prog 110 1=some (1,3):=by kernel_rfl
theorem fi110_2:fieldT Try.prog 110 2=some (2,34):=by kernel_rfl
theorem ze110:zeroT Try.prog 110=some [.slice none 0 0,.int .i64 0,.int .u64 0]:=by kernel_rfl
theorem ag111:aggT Try.prog 111=some false:=by kernel_rfl
theorem si111:sizeT Try.prog 111=1:=by kernel_rfl
theorem sz111:szT Try.prog 111=some 1:=by kernel_rfl
theorem by111:bytesT Try.prog 111=8:=by kernel_rfl
theorem in111:intT Try.prog 111=some .u64:=by kernel_rfl
theorem zv111:zeroV Try.prog 111=some (.int .u64 0):=by kernel_rfl
theorem ze111:zeroT Try.prog 111=some [.int .u64 0]:=by kernel_rfl
theorem ag117:aggT Try.prog 117=some true:=by kernel_rfl
theorem si117:sizeT Try.prog 117=2:=by kernel_rfl
theorem sz117:szT Try.prog 117=some 2:=by kernel_rfl
theorem by117:bytesT Try.prog 117=48:=by kernel_rfl
theorem str117:structT Try.prog 117=true:=by kernel_rfl
theorem fi117_0:fieldT Try.prog 117 0=some (0,52):=by kernel_rfl
theorem fi117_1:fieldT Try.prog 117 1=some (1,52):=by kernel_rfl
theorem ze117:zeroT Try.prog 117=some [.slice none 0 0,.slice none 0 0]:=by kernel_rfl
theorem kt139:kindT Try.prog 139=some 3:=by kernel_rfl
theorem ag167:aggT Try.prog 167=some true:=by kernel_rfl
theorem si167:sizeT Try.prog 167=3:=by kernel_rfl
theorem sz167:szT Try.prog 167=some 3:=by kernel_rfl
theorem by167:bytesT Try.prog 167=40:=by kernel_rfl
theorem str167:structT Try.prog 167=true:=by kernel_rfl
theorem fi167_0:fieldT Try.prog 167 0=some (0,22):=by kernel_rfl
theorem fi167_1:fieldT Try.prog 167 1=some (1,3):=by kernel_rfl
theorem fi167_2:fieldT Try.prog 167 2=some (2,2):=by kernel_rfl
theorem ze167:zeroT Try.prog 167=some [.slice none 0 0,.int .i64 0,.int .i64 0]:=by kernel_rfl
theorem kt171:kindT Try.prog 171=some 3:=by kernel_rfl
theorem ag176:aggT Try.prog 176=some false:=by kernel_rfl
theorem el176:elemT Try.prog 176=some 9:=by kernel_rfl
theorem si176:sizeT Try.prog 176=1:=by kernel_rfl
theorem sz176:szT Try.prog 176=some 1:=by kernel_rfl
theorem by176:bytesT Try.prog 176=24:=by kernel_rfl
theorem kt176:kindT Try.prog 176=some 0:=by kernel_rfl
theorem zv176:zeroV Try.prog 176=some (.slice none 0 0):=by kernel_rfl
theorem ze176:zeroT Try.prog 176=some [.slice none 0 0]:=by kernel_rfl
theorem ag246:aggT Try.prog 246=some false:=by kernel_rfl
theorem el246:elemT Try.prog 246=some 4:=by kernel_rfl
theorem si246:sizeT Try.prog 246=1:=by kernel_rfl
theorem sz246:szT Try.prog 246=some 1:=by kernel_rfl
theorem by246:bytesT Try.prog 246=24:=by kernel_rfl
theorem kt246:kindT Try.prog 246=some 0:=by kernel_rfl
theorem zv246:zeroV Try.prog 246=some (.slice none 0 0):=by kernel_rfl
theorem ze246:zeroT Try.prog 246=some [.slice none 0 0]:=by kernel_rfl
theorem tyF:type_of% (And.intro (And.intro (And.intro (And.intro (And.intro (And.intro (And.intro (kt1) (ag2)) (And.intro (si2) (And.intro (sz2) (by2)))) (And.intro (And.intro
  (in2) (And.intro (zv2) (ze2))) (And.intro (ag3) (And.intro (si3) (sz3))))) (And.intro (And.intro (And.intro (by3) (And.intro (in3) (zv3))) (And.intro (ze3) (And.intro (ag4)
  (si4)))) (And.intro (And.intro (sz4) (And.intro (by4) (bo4))) (And.intro (zv4) (And.intro (ze4) (ag5)))))) (And.intro (And.intro (And.intro (And.intro (si5) (And.intro (sz5)
  (by5))) (And.intro (in5) (And.intro (zv5) (ze5)))) (And.intro (And.intro (ag9) (And.intro (si9) (sz9))) (And.intro (by9) (And.intro (st9) (zv9))))) (And.intro (And.intro
  (And.intro (ze9) (And.intro (ag22) (el22))) (And.intro (si22) (And.intro (sz22) (by22)))) (And.intro (And.intro (kt22) (And.intro (zv22) (ze22))) (And.intro (ag24) (And.intro
  (el24) (si24))))))) (And.intro (And.intro (And.intro (And.intro (And.intro (sz24) (And.intro (by24) (kt24))) (And.intro (zv24) (And.intro (ze24) (ag25)))) (And.intro (And.intro
  (el25) (And.intro (si25) (sz25))) (And.intro (by25) (And.intro (kt25) (zv25))))) (And.intro (And.intro (And.intro (ze25) (And.intro (ag27) (si27))) (And.intro (sz27) (And.intro
  (by27) (str27)))) (And.intro (And.intro (fi27_0) (And.intro (fi27_1) (fi27_2))) (And.intro (ze27) (And.intro (ag29) (el29)))))) (And.intro (And.intro (And.intro (And.intro (si29)
  (And.intro (sz29) (by29))) (And.intro (kt29) (And.intro (zv29) (ze29)))) (And.intro (And.intro (ag32) (And.intro (si32) (sz32))) (And.intro (by32) (And.intro (kt32) (zv32)))))
  (And.intro (And.intro (And.intro (ze32) (And.intro (ag34) (si34))) (And.intro (sz34) (And.intro (by34) (in34)))) (And.intro (And.intro (zv34) (And.intro (ze34) (ag35))) (And.intro
  (el35) (And.intro (si35) (sz35)))))))) (And.intro (And.intro (And.intro (And.intro (And.intro (And.intro (by35) (And.intro (kt35) (zv35))) (And.intro (ze35) (And.intro (ag42)
  (si42)))) (And.intro (And.intro (sz42) (And.intro (by42) (eq42))) (And.intro (str42) (And.intro (fi42_0) (fi42_1))))) (And.intro (And.intro (And.intro (ze42) (And.intro (ag46)
  (el46))) (And.intro (si46) (And.intro (sz46) (by46)))) (And.intro (And.intro (kt46) (And.intro (zv46) (ze46))) (And.intro (ag52) (And.intro (el52) (si52)))))) (And.intro
  (And.intro (And.intro (And.intro (sz52) (And.intro (by52) (kt52))) (And.intro (zv52) (And.intro (ze52) (ag99)))) (And.intro (And.intro (si99) (And.intro (sz99) (by99))) (And.intro
  (kt99) (And.intro (zv99) (ze99))))) (And.intro (And.intro (And.intro (ag103) (And.intro (si103) (sz103))) (And.intro (by103) (And.intro (eq103) (str103)))) (And.intro (And.intro
  (fi103_0) (And.intro (fi103_1) (ze103))) (And.intro (ag110) (And.intro (si110) (sz110))))))) (And.intro (And.intro (And.intro (And.intro (And.intro (by110) (And.intro (str110)
  (fi110_0))) (And.intro (fi110_1) (And.intro (fi110_2) (ze110)))) (And.intro (And.intro (ag111) (And.intro (si111) (sz111))) (And.intro (by111) (And.intro (in111) (zv111)))))
  (And.intro (And.intro (And.intro (ze111) (And.intro (ag117) (si117))) (And.intro (sz117) (And.intro (by117) (str117)))) (And.intro (And.intro (fi117_0) (And.intro (fi117_1)
  (ze117))) (And.intro (kt139) (And.intro (ag167) (si167)))))) (And.intro (And.intro (And.intro (And.intro (sz167) (And.intro (by167) (str167))) (And.intro (fi167_0) (And.intro
  (fi167_1) (fi167_2)))) (And.intro (And.intro (ze167) (And.intro (kt171) (ag176))) (And.intro (el176) (And.intro (si176) (sz176))))) (And.intro (And.intro (And.intro (by176)
  (And.intro (kt176) (zv176))) (And.intro (ze176) (And.intro (ag246) (el246)))) (And.intro (And.intro (si246) (And.intro (sz246) (by246))) (And.intro (kt246) (And.intro (zv246)
  (ze246))))))))):=And.intro (And.intro (And.intro (And.intro (And.intro (And.intro (And.intro (kt1) (ag2)) (And.intro (si2) (And.intro (sz2) (by2)))) (And.intro (And.intro (in2)
  (And.intro (zv2) (ze2))) (And.intro (ag3) (And.intro (si3) (sz3))))) (And.intro (And.intro (And.intro (by3) (And.intro (in3) (zv3))) (And.intro (ze3) (And.intro (ag4) (si4))))
  (And.intro (And.intro (sz4) (And.intro (by4) (bo4))) (And.intro (zv4) (And.intro (ze4) (ag5)))))) (And.intro (And.intro (And.intro (And.intro (si5) (And.intro (sz5) (by5)))
  (And.intro (in5) (And.intro (zv5) (ze5)))) (And.intro (And.intro (ag9) (And.intro (si9) (sz9))) (And.intro (by9) (And.intro (st9) (zv9))))) (And.intro (And.intro (And.intro (ze9)
  (And.intro (ag22) (el22))) (And.intro (si22) (And.intro (sz22) (by22)))) (And.intro (And.intro (kt22) (And.intro (zv22) (ze22))) (And.intro (ag24) (And.intro (el24) (si24)))))))
  (And.intro (And.intro (And.intro (And.intro (And.intro (sz24) (And.intro (by24) (kt24))) (And.intro (zv24) (And.intro (ze24) (ag25)))) (And.intro (And.intro (el25) (And.intro
  (si25) (sz25))) (And.intro (by25) (And.intro (kt25) (zv25))))) (And.intro (And.intro (And.intro (ze25) (And.intro (ag27) (si27))) (And.intro (sz27) (And.intro (by27) (str27))))
  (And.intro (And.intro (fi27_0) (And.intro (fi27_1) (fi27_2))) (And.intro (ze27) (And.intro (ag29) (el29)))))) (And.intro (And.intro (And.intro (And.intro (si29) (And.intro (sz29)
  (by29))) (And.intro (kt29) (And.intro (zv29) (ze29)))) (And.intro (And.intro (ag32) (And.intro (si32) (sz32))) (And.intro (by32) (And.intro (kt32) (zv32))))) (And.intro (And.intro
  (And.intro (ze32) (And.intro (ag34) (si34))) (And.intro (sz34) (And.intro (by34) (in34)))) (And.intro (And.intro (zv34) (And.intro (ze34) (ag35))) (And.intro (el35) (And.intro
  (si35) (sz35)))))))) (And.intro (And.intro (And.intro (And.intro (And.intro (And.intro (by35) (And.intro (kt35) (zv35))) (And.intro (ze35) (And.intro (ag42) (si42)))) (And.intro
  (And.intro (sz42) (And.intro (by42) (eq42))) (And.intro (str42) (And.intro (fi42_0) (fi42_1))))) (And.intro (And.intro (And.intro (ze42) (And.intro (ag46) (el46))) (And.intro
  (si46) (And.intro (sz46) (by46)))) (And.intro (And.intro (kt46) (And.intro (zv46) (ze46))) (And.intro (ag52) (And.intro (el52) (si52)))))) (And.intro (And.intro (And.intro
  (And.intro (sz52) (And.intro (by52) (kt52))) (And.intro (zv52) (And.intro (ze52) (ag99)))) (And.intro (And.intro (si99) (And.intro (sz99) (by99))) (And.intro (kt99) (And.intro
  (zv99) (ze99))))) (And.intro (And.intro (And.intro (ag103) (And.intro (si103) (sz103))) (And.intro (by103) (And.intro (eq103) (str103)))) (And.intro (And.intro (fi103_0)
  (And.intro (fi103_1) (ze103))) (And.intro (ag110) (And.intro (si110) (sz110))))))) (And.intro (And.intro (And.intro (And.intro (And.intro (by110) (And.intro (str110) (fi110_0)))
  (And.intro (fi110_1) (And.intro (fi110_2) (ze110)))) (And.intro (And.intro (ag111) (And.intro (si111) (sz111))) (And.intro (by111) (And.intro (in111) (zv111))))) (And.intro
  (And.intro (And.intro (ze111) (And.intro (ag117) (si117))) (And.intro (sz117) (And.intro (by117) (str117)))) (And.intro (And.intro (fi117_0) (And.intro (fi117_1) (ze117)))
  (And.intro (kt139) (And.intro (ag167) (si167)))))) (And.intro (And.intro (And.intro (And.intro (sz167) (And.intro (by167) (str167))) (And.intro (fi167_0) (And.intro (fi167_1)
  (fi167_2)))) (And.intro (And.intro (ze167) (And.intro (kt171) (ag176))) (And.intro (el176) (And.intro (si176) (sz176))))) (And.intro (And.intro (And.intro (by176) (And.intro
  (kt176) (zv176))) (And.intro (ze176) (And.intro (ag246) (el246)))) (And.intro (And.intro (si246) (And.intro (sz246) (by246))) (And.intro (kt246) (And.intro (zv246) (ze246))))))))
end Go.AM
