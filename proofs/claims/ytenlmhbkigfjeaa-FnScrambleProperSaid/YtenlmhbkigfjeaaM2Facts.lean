/-
  WHAT THE PROGRAM SAYS OF ITS TYPES,each fact by reckoning.
-/
import Derived.Test.YtenlmhbkigfjeaaM2Tool
import Derived.Test.YtenlmhbkigfjeaaProg
set_option linter.unusedVariables false
namespace Go.AM
open Go.Proofs
theorem mixed:Try.prog.follows .mixedOrders=true:=by kernel_rfl
theorem kt1:kindT Try.prog 1=some 3:=by kernel_rfl
theorem ag2:aggT Try.prog 2=some false:=by kernel_rfl
theorem si2:sizeT Try.prog 2=1:=by kernel_rfl
theorem sz2:szT Try.prog 2=some 1:=by kernel_rfl
theorem by2:bytesT Try.prog 2=8:=by kernel_rfl
theorem in2:intT Try.prog 2=some .i64:=by kernel_rfl
theorem zv2:zeroV Try.prog 2=some (.int .i64 0):=by kernel_rfl
theorem ze2:zeroT Try.prog 2=some [.int .i64 0]:=by kernel_rfl
theorem ag3:aggT Try.prog 3=some false:=by kernel_rfl
theorem si3:sizeT Try.prog 3=1:=by kernel_rfl
theorem sz3:szT Try.prog 3=some 1:=by kernel_rfl
theorem by3:bytesT Try.prog 3=8:=by kernel_rfl
theorem in3:intT Try.prog 3=some .i64:=by kernel_rfl
theorem zv3:zeroV Try.prog 3=some (.int .i64 0):=by kernel_rfl
theorem ze3:zeroT Try.prog 3=some [.int .i64 0]:=by kernel_rfl
theorem ag4:aggT Try.prog 4=some false:=by kernel_rfl
theorem si4:sizeT Try.prog 4=1:=by kernel_rfl
theorem sz4:szT Try.prog 4=some 1:=by kernel_rfl
theorem by4:bytesT Try.prog 4=1:=by kernel_rfl
theorem bo4:boolT Try.prog 4=true:=by kernel_rfl
theorem zv4:zeroV Try.prog 4=some (.bool false):=by kernel_rfl
theorem ze4:zeroT Try.prog 4=some [.bool false]:=by kernel_rfl
theorem ag5:aggT Try.prog 5=some false:=by kernel_rfl
theorem si5:sizeT Try.prog 5=1:=by kernel_rfl
theorem sz5:szT Try.prog 5=some 1:=by kernel_rfl
theorem by5:bytesT Try.prog 5=1:=by kernel_rfl
theorem in5:intT Try.prog 5=some .u8:=by kernel_rfl
theorem zv5:zeroV Try.prog 5=some (.int .u8 0):=by kernel_rfl
theorem ze5:zeroT Try.prog 5=some [.int .u8 0]:=by kernel_rfl
theorem ag9:aggT Try.prog 9=some false:=by kernel_rfl
theorem si9:sizeT Try.prog 9=1:=by kernel_rfl
theorem sz9:szT Try.prog 9=some 1:=by kernel_rfl
theorem by9:bytesT Try.prog 9=16:=by kernel_rfl
theorem st9:stringT Try.prog 9=true:=by kernel_rfl
theorem zv9:zeroV Try.prog 9=some (.string ⟨#[]⟩):=by kernel_rfl
theorem ze9:zeroT Try.prog 9=some [.string ⟨#[]⟩]:=by kernel_rfl
theorem ag22:aggT Try.prog 22=some false:=by kernel_rfl
theorem el22:elemT Try.prog 22=some 5:=by kernel_rfl
theorem si22:sizeT Try.prog 22=1:=by kernel_rfl
theorem sz22:szT Try.prog 22=some 1:=by kernel_rfl
theorem by22:bytesT Try.prog 22=24:=by kernel_rfl
theorem kt22:kindT Try.prog 22=some 0:=by kernel_rfl
theorem zv22:zeroV Try.prog 22=some (.slice none 0 0):=by kernel_rfl
theorem ze22:zeroT Try.prog 22=some [.slice none 0 0]:=by kernel_rfl
theorem ag32:aggT Try.prog 32=some false:=by kernel_rfl
theorem si32:sizeT Try.prog 32=1:=by kernel_rfl
theorem sz32:szT Try.prog 32=some 1:=by kernel_rfl
theorem by32:bytesT Try.prog 32=8:=by kernel_rfl
theorem kt32:kindT Try.prog 32=some 1:=by kernel_rfl
theorem zv32:zeroV Try.prog 32=some (.pointer none):=by kernel_rfl
theorem ze32:zeroT Try.prog 32=some [.pointer none]:=by kernel_rfl
theorem ag34:aggT Try.prog 34=some false:=by kernel_rfl
theorem si34:sizeT Try.prog 34=1:=by kernel_rfl
theorem sz34:szT Try.prog 34=some 1:=by kernel_rfl
theorem by34:bytesT Try.prog 34=8:=by kernel_rfl
theorem in34:intT Try.prog 34=some .u64:=by kernel_rfl
theorem zv34:zeroV Try.prog 34=some (.int .u64 0):=by kernel_rfl
theorem ze34:zeroT Try.prog 34=some [.int .u64 0]:=by kernel_rfl
theorem ag46:aggT Try.prog 46=some false:=by kernel_rfl
theorem el46:elemT Try.prog 46=some 52:=by kernel_rfl
theorem si46:sizeT Try.prog 46=1:=by kernel_rfl
theorem sz46:szT Try.prog 46=some 1:=by kernel_rfl
theorem by46:bytesT Try.prog 46=24:=by kernel_rfl
theorem kt46:kindT Try.prog 46=some 0:=by kernel_rfl
theorem zv46:zeroV Try.prog 46=some (.slice none 0 0):=by kernel_rfl
theorem ze46:zeroT Try.prog 46=some [.slice none 0 0]:=by kernel_rfl
theorem ag48:aggT Try.prog 48=some true:=by kernel_rfl
theorem si48:sizeT Try.prog 48=3:=by kernel_rfl
theorem sz48:szT Try.prog 48=some 3:=by kernel_rfl
theorem by48:bytesT Try.prog 48=48:=by kernel_rfl
theorem str48:structT Try.prog 48=true:=by kernel_rfl
theorem fi48_0:fieldT Try.prog 48 0=some (0,2):=by kernel_rfl
theorem fi48_1:fieldT Try.prog 48 1=some (1,9):=by kernel_rfl
theorem fi48_2:fieldT Try.prog 48 2=some (2,46):=by kernel_rfl
theorem ze48:zeroT Try.prog 48=some [.int .i64 0,.string ⟨#[]⟩,.slice none 0 0]:=by kernel_rfl
theorem ag52:aggT Try.prog 52=some false:=by kernel_rfl
theorem el52:elemT Try.prog 52=some 2:=by kernel_rfl
theorem si52:sizeT Try.prog 52=1:=by kernel_rfl
theorem sz52:szT Try.prog 52=some 1:=by kernel_rfl
theorem by52:bytesT Try.prog 52=24:=by kernel_rfl
theorem kt52:kindT Try.prog 52=some 0:=by kernel_rfl
theorem zv52:zeroV Try.prog 52=some (.slice none 0 0):=by kernel_rfl
theorem ze52:zeroT Try.prog 52=some [.slice none 0 0]:=by kernel_rfl
theorem ag99:aggT Try.prog 99=some false:=by kernel_rfl
theorem si99:sizeT Try.prog 99=1:=by kernel_rfl
theorem sz99:szT Try.prog 99=some 1:=by kernel_rfl
theorem by99:bytesT Try.prog 99=8:=by kernel_rfl
theorem kt99:kindT Try.prog 99=some 1:=by kernel_rfl
theorem zv99:zeroV Try.prog 99=some (.pointer none):=by kernel_rfl
theorem ze99:zeroT Try.prog 99=some [.pointer none]:=by kernel_rfl
theorem ag110:aggT Try.prog 110=some true:=by kernel_rfl
theorem si110:sizeT Try.prog 110=3:=by kernel_rfl
theorem sz110:szT Try.prog 110=some 3:=by kernel_rfl
theorem by110:bytesT Try.prog 110=40:=by kernel_rfl
theorem str110:structT Try.prog 110=true:=by kernel_rfl
theorem fi110_0:fieldT Try.prog 110 0=some (0,22):=by kernel_rfl
theorem fi110_1:fieldT Try.prog 110 1=some (1,3):=by kernel_rfl
theorem fi110_2:fieldT Try.prog 110 2=some (2,34):=by kernel_rfl
theorem ze110:zeroT Try.prog 110=some [.slice none 0 0,.int .i64 0,.int .u64 0]:=by kernel_rfl
theorem kt134:kindT Try.prog 134=some 3:=by kernel_rfl
theorem kt136:kindT Try.prog 136=some 3:=by kernel_rfl
theorem kt139:kindT Try.prog 139=some 3:=by kernel_rfl
theorem ag167:aggT Try.prog 167=some true:=by kernel_rfl
theorem si167:sizeT Try.prog 167=3:=by kernel_rfl
theorem sz167:szT Try.prog 167=some 3:=by kernel_rfl
theorem by167:bytesT Try.prog 167=40:=by kernel_rfl
theorem str167:structT Try.prog 167=true:=by kernel_rfl
theorem fi167_0:fieldT Try.prog 167 0=some (0,22):=by kernel_rfl
theorem fi167_1:fieldT Try.prog 167 1=some (1,3):=by kernel_rfl
theorem fi167_2:fieldT Try.prog 167 2=some (2,2):=by kernel_rfl
theorem ze167:zeroT Try.prog 167=some [.slice none 0 0,.int .i64 0,.int .i64 0]:=by kernel_rfl
theorem ag191:aggT Try.prog 191=some false:=by kernel_rfl
theorem si191:sizeT Try.prog 191=1:=by kernel_rfl
theorem sz191:szT Try.prog 191=some 1:=by kernel_rfl
theorem by191:bytesT Try.prog 191=8:=by kernel_rfl
theorem kt191:kindT Try.prog 191=some 1:=by kernel_rfl
theorem zv191:zeroV Try.prog 191=some (.pointer none):=by kernel_rfl
theorem ze191:zeroT Try.prog 191=some [.pointer none]:=by kernel_rfl
theorem ag213:aggT Try.prog 213=some false:=by kernel_rfl
theorem el213:elemT Try.prog 213=some 46:=by kernel_rfl
theorem si213:sizeT Try.prog 213=1:=by kernel_rfl
theorem sz213:szT Try.prog 213=some 1:=by kernel_rfl
theorem by213:bytesT Try.prog 213=24:=by kernel_rfl
theorem kt213:kindT Try.prog 213=some 0:=by kernel_rfl
theorem zv213:zeroV Try.prog 213=some (.slice none 0 0):=by kernel_rfl
theorem ze213:zeroT Try.prog 213=some [.slice none 0 0]:=by kernel_rfl
theorem ag215:aggT Try.prog 215=some true:=by kernel_rfl
theorem si215:sizeT Try.prog 215=3:=by kernel_rfl
theorem sz215:szT Try.prog 215=some 3:=by kernel_rfl
theorem by215:bytesT Try.prog 215=56:=by kernel_rfl
theorem str215:structT Try.prog 215=true:=by kernel_rfl
theorem fi215_0:fieldT Try.prog 215 0=some (0,2):=by kernel_rfl
theorem fi215_1:fieldT Try.prog 215 1=some (1,213):=by kernel_rfl
theorem fi215_2:fieldT Try.prog 215 2=some (2,213):=by kernel_rfl
theorem ze215:zeroT Try.prog 215=some [.int .i64 0,.slice none 0 0,.slice none 0 0]:=by kernel_rfl
theorem tyF:type_of% (And.intro (And.intro (And.intro (And.intro (And.intro (And.intro (And.intro (kt1) (ag2)) (And.intro (si2) (sz2))) (And.intro (And.intro (by2) (in2))
  (And.intro (zv2) (ze2)))) (And.intro (And.intro (And.intro (ag3) (si3)) (And.intro (sz3) (by3))) (And.intro (And.intro (in3) (zv3)) (And.intro (ze3) (ag4))))) (And.intro
  (And.intro (And.intro (And.intro (si4) (sz4)) (And.intro (by4) (bo4))) (And.intro (And.intro (zv4) (ze4)) (And.intro (ag5) (si5)))) (And.intro (And.intro (And.intro (sz5) (by5))
  (And.intro (in5) (zv5))) (And.intro (And.intro (ze5) (ag9)) (And.intro (si9) (And.intro (sz9) (by9))))))) (And.intro (And.intro (And.intro (And.intro (And.intro (st9) (zv9))
  (And.intro (ze9) (ag22))) (And.intro (And.intro (el22) (si22)) (And.intro (sz22) (by22)))) (And.intro (And.intro (And.intro (kt22) (zv22)) (And.intro (ze22) (ag32))) (And.intro
  (And.intro (si32) (sz32)) (And.intro (by32) (And.intro (kt32) (zv32)))))) (And.intro (And.intro (And.intro (And.intro (ze32) (ag34)) (And.intro (si34) (sz34))) (And.intro
  (And.intro (by34) (in34)) (And.intro (zv34) (ze34)))) (And.intro (And.intro (And.intro (ag46) (el46)) (And.intro (si46) (sz46))) (And.intro (And.intro (by46) (kt46)) (And.intro
  (zv46) (And.intro (ze46) (ag48)))))))) (And.intro (And.intro (And.intro (And.intro (And.intro (And.intro (si48) (sz48)) (And.intro (by48) (str48))) (And.intro (And.intro (fi48_0)
  (fi48_1)) (And.intro (fi48_2) (ze48)))) (And.intro (And.intro (And.intro (ag52) (el52)) (And.intro (si52) (sz52))) (And.intro (And.intro (by52) (kt52)) (And.intro (zv52)
  (And.intro (ze52) (ag99)))))) (And.intro (And.intro (And.intro (And.intro (si99) (sz99)) (And.intro (by99) (kt99))) (And.intro (And.intro (zv99) (ze99)) (And.intro (ag110)
  (si110)))) (And.intro (And.intro (And.intro (sz110) (by110)) (And.intro (str110) (fi110_0))) (And.intro (And.intro (fi110_1) (fi110_2)) (And.intro (ze110) (And.intro (kt134)
  (kt136))))))) (And.intro (And.intro (And.intro (And.intro (And.intro (kt139) (ag167)) (And.intro (si167) (sz167))) (And.intro (And.intro (by167) (str167)) (And.intro (fi167_0)
  (fi167_1)))) (And.intro (And.intro (And.intro (fi167_2) (ze167)) (And.intro (ag191) (si191))) (And.intro (And.intro (sz191) (by191)) (And.intro (kt191) (And.intro (zv191)
  (ze191)))))) (And.intro (And.intro (And.intro (And.intro (ag213) (el213)) (And.intro (si213) (sz213))) (And.intro (And.intro (by213) (kt213)) (And.intro (zv213) (ze213))))
  (And.intro (And.intro (And.intro (ag215) (si215)) (And.intro (sz215) (by215))) (And.intro (And.intro (str215) (fi215_0)) (And.intro (fi215_1) (And.intro (fi215_2) (ze215)))))))))
  := And.intro (And.intro (And.intro (And.intro (And.intro (And.intro (And.intro (kt1) (ag2)) (And.intro (si2) (sz2))) (And.intro (And.intro (by2) (in2)) (And.intro (zv2) (ze2))))
  (And.intro (And.intro (And.intro (ag3) (si3)) (And.intro (sz3) (by3))) (And.intro (And.intro (in3) (zv3)) (And.intro (ze3) (ag4))))) (And.intro (And.intro (And.intro (And.intro
  (si4) (sz4)) (And.intro (by4) (bo4))) (And.intro (And.intro (zv4) (ze4)) (And.intro (ag5) (si5)))) (And.intro (And.intro (And.intro (sz5) (by5)) (And.intro (in5) (zv5)))
  (And.intro (And.intro (ze5) (ag9)) (And.intro (si9) (And.intro (sz9) (by9))))))) (And.intro (And.intro (And.intro (And.intro (And.intro (st9) (zv9)) (And.intro (ze9) (ag22)))
  (And.intro (And.intro (el22) (si22)) (And.intro (sz22) (by22)))) (And.intro (And.intro (And.intro (kt22) (zv22)) (And.intro (ze22) (ag32))) (And.intro (And.intro (si32) (sz32))
  (And.intro (by32) (And.intro (kt32) (zv32)))))) (And.intro (And.intro (And.intro (And.intro (ze32) (ag34)) (And.intro (si34) (sz34))) (And.intro (And.intro (by34) (in34))
  (And.intro (zv34) (ze34)))) (And.intro (And.intro (And.intro (ag46) (el46)) (And.intro (si46) (sz46))) (And.intro (And.intro (by46) (kt46)) (And.intro (zv46) (And.intro (ze46)
  (ag48)))))))) (And.intro (And.intro (And.intro (And.intro (And.intro (And.intro (si48) (sz48)) (And.intro (by48) (str48))) (And.intro (And.intro (fi48_0) (fi48_1)) (And.intro
  (fi48_2) (ze48)))) (And.intro (And.intro (And.intro (ag52) (el52)) (And.intro (si52) (sz52))) (And.intro (And.intro (by52) (kt52)) (And.intro (zv52) (And.intro (ze52) (ag99))))))
  (And.intro (And.intro (And.intro (And.intro (si99) (sz99)) (And.intro (by99) (kt99))) (And.intro (And.intro (zv99) (ze99)) (And.intro (ag110) (si110)))) (And.intro (And.intro
  (And.intro (sz110) (by110)) (And.intro (str110) (fi110_0))) (And.intro (And.intro (fi110_1) (fi110_2)) (And.intro (ze110) (And.intro (kt134) (kt136))))))) (And.intro (And.intro
  (And.intro (And.intro (And.intro (kt139) (ag167)) (And.intro (si167) (sz167))) (And.intro (And.intro (by167) (str167)) (And.intro (fi167_0) (fi167_1)))) (And.intro (And.intro
  (And.intro (fi167_2) (ze167)) (And.intro (ag191) (si191))) (And.intro (And.intro (sz191) (by191)) (And.intro (kt191) (And.intro (zv191) (ze191)))))) (And.intro (And.intro
  (And.intro (And.intro (ag213) (el213)) (And.intro (si213) (sz213))) (And.intro (And.intro (by213) (kt213)) (And.intro (zv213) (ze213)))) (And.intro (And.intro (And.intro (ag215)
  (si215)) (And.intro (sz215) (by215))) (And.intro (And.intro (str215) (fi215_0)) (And.intro (fi215_1) (And.intro (fi215_2) (ze215))))))))
end Go.AM
