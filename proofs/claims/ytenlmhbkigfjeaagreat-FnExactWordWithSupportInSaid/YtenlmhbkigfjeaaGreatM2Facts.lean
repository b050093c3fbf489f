/-
  WHAT THE PROGRAM SAYS OF ITS TYPES,each fact by reckoning.
-/
import Derived.Test.YtenlmhbkigfjeaaGreatM2Tool
import Derived.Test.YtenlmhbkigfjeaaGreatProg
set_option linter.unusedVariables false
namespace Go.AM
open Go.Proofs
theorem mixed:Tryz.prog.follows .mixedOrders=true:=by kernel_rfl
theorem kt1:kindT Tryz.prog 1=some 3:=by kernel_rfl
theorem ag2:aggT Tryz.prog 2=some false:=by kernel_rfl
theorem si2:sizeT Tryz.prog 2=1:=by kernel_rfl
theorem sz2:szT Tryz.prog 2=some 1:=by kernel_rfl
theorem by2:bytesT Tryz.prog 2=8:=by kernel_rfl
theorem in2:intT Tryz.prog 2=some .i64:=by kernel_rfl
theorem zv2:zeroV Tryz.prog 2=some (.int .i64 0):=by kernel_rfl
theorem ze2:zeroT Tryz.prog 2=some [.int .i64 0]:=by kernel_rfl
theorem ag3:aggT Tryz.prog 3=some false:=by kernel_rfl
theorem si3:sizeT Tryz.prog 3=1:=by kernel_rfl
theorem sz3:szT Tryz.prog 3=some 1:=by kernel_rfl
theorem by3:bytesT Tryz.prog 3=8:=by kernel_rfl
theorem in3:intT Tryz.prog 3=some .i64:=by kernel_rfl
theorem zv3:zeroV Tryz.prog 3=some (.int .i64 0):=by kernel_rfl
theorem ze3:zeroT Tryz.prog 3=some [.int .i64 0]:=by kernel_rfl
theorem ag4:aggT Tryz.prog 4=some false:=by kernel_rfl
theorem si4:sizeT Tryz.prog 4=1:=by kernel_rfl
theorem sz4:szT Tryz.prog 4=some 1:=by kernel_rfl
theorem by4:bytesT Tryz.prog 4=1:=by kernel_rfl
theorem bo4:boolT Tryz.prog 4=true:=by kernel_rfl
theorem zv4:zeroV Tryz.prog 4=some (.bool false):=by kernel_rfl
theorem ze4:zeroT Tryz.prog 4=some [.bool false]:=by kernel_rfl
theorem ag9:aggT Tryz.prog 9=some false:=by kernel_rfl
theorem si9:sizeT Tryz.prog 9=1:=by kernel_rfl
theorem sz9:szT Tryz.prog 9=some 1:=by kernel_rfl
theorem by9:bytesT Tryz.prog 9=16:=by kernel_rfl
theorem st9:stringT Tryz.prog 9=true:=by kernel_rfl
theorem zv9:zeroV Tryz.prog 9=some (.string ⟨#[]⟩):=by kernel_rfl
theorem ze9:zeroT Tryz.prog 9=some [.string ⟨#[]⟩]:=by kernel_rfl
theorem ag22:aggT Tryz.prog 22=some false:=by kernel_rfl
theorem el22:elemT Tryz.prog 22=some 25:=by kernel_rfl
theorem si22:sizeT Tryz.prog 22=1:=by kernel_rfl
theorem sz22:szT Tryz.prog 22=some 1:=by kernel_rfl
theorem by22:bytesT Tryz.prog 22=24:=by kernel_rfl
theorem kt22:kindT Tryz.prog 22=some 0:=by kernel_rfl
theorem zv22:zeroV Tryz.prog 22=some (.slice none 0 0):=by kernel_rfl
theorem ze22:zeroT Tryz.prog 22=some [.slice none 0 0]:=by kernel_rfl
theorem ag24:aggT Tryz.prog 24=some true:=by kernel_rfl
theorem si24:sizeT Tryz.prog 24=3:=by kernel_rfl
theorem sz24:szT Tryz.prog 24=some 3:=by kernel_rfl
theorem by24:bytesT Tryz.prog 24=48:=by kernel_rfl
theorem str24:structT Tryz.prog 24=true:=by kernel_rfl
theorem fi24_0:fieldT Tryz.prog 24 0=some (0,2):=by kernel_rfl
theorem fi24_1:fieldT Tryz.prog 24 1=some (1,9):=by kernel_rfl
theorem fi24_2:fieldT Tryz.prog 24 2=some (2,22):=by kernel_rfl
theorem ze24:zeroT Tryz.prog 24=some [.int .i64 0,.string ⟨#[]⟩,.slice none 0 0]:=by kernel_rfl
theorem ag25:aggT Tryz.prog 25=some false:=by kernel_rfl
theorem el25:elemT Tryz.prog 25=some 2:=by kernel_rfl
theorem si25:sizeT Tryz.prog 25=1:=by kernel_rfl
theorem sz25:szT Tryz.prog 25=some 1:=by kernel_rfl
theorem by25:bytesT Tryz.prog 25=24:=by kernel_rfl
theorem kt25:kindT Tryz.prog 25=some 0:=by kernel_rfl
theorem zv25:zeroV Tryz.prog 25=some (.slice none 0 0):=by kernel_rfl
theorem ze25:zeroT Tryz.prog 25=some [.slice none 0 0]:=by kernel_rfl
theorem ag29:aggT Tryz.prog 29=some true:=by kernel_rfl
theorem si29:sizeT Tryz.prog 29=3:=by kernel_rfl
theorem sz29:szT Tryz.prog 29=some 3:=by kernel_rfl
theorem by29:bytesT Tryz.prog 29=48:=by kernel_rfl
theorem str29:structT Tryz.prog 29=true:=by kernel_rfl
theorem fi29_0:fieldT Tryz.prog 29 0=some (0,2):=by kernel_rfl
theorem fi29_1:fieldT Tryz.prog 29 1=some (1,9):=by kernel_rfl
theorem fi29_2:fieldT Tryz.prog 29 2=some (2,22):=by kernel_rfl
theorem ze29:zeroT Tryz.prog 29=some [.int .i64 0,.string ⟨#[]⟩,.slice none 0 0]:=by kernel_rfl
theorem tyF:type_of% (And.intro (And.intro (And.intro (And.intro (And.intro (kt1) (And.intro (ag2) (si2))) (And.intro (And.intro (sz2) (by2)) (And.intro (in2) (zv2)))) (And.intro
  (And.intro (And.intro (ze2) (ag3)) (And.intro (si3) (sz3))) (And.intro (And.intro (by3) (in3)) (And.intro (zv3) (ze3))))) (And.intro (And.intro (And.intro (And.intro (ag4) (si4))
  (And.intro (sz4) (by4))) (And.intro (And.intro (bo4) (zv4)) (And.intro (ze4) (ag9)))) (And.intro (And.intro (And.intro (si9) (sz9)) (And.intro (by9) (st9))) (And.intro (And.intro
  (zv9) (ze9)) (And.intro (ag22) (el22)))))) (And.intro (And.intro (And.intro (And.intro (And.intro (si22) (sz22)) (And.intro (by22) (kt22))) (And.intro (And.intro (zv22) (ze22))
  (And.intro (ag24) (si24)))) (And.intro (And.intro (And.intro (sz24) (by24)) (And.intro (str24) (fi24_0))) (And.intro (And.intro (fi24_1) (fi24_2)) (And.intro (ze24) (ag25)))))
  (And.intro (And.intro (And.intro (And.intro (el25) (si25)) (And.intro (sz25) (by25))) (And.intro (And.intro (kt25) (zv25)) (And.intro (ze25) (ag29)))) (And.intro (And.intro
  (And.intro (si29) (sz29)) (And.intro (by29) (str29))) (And.intro (And.intro (fi29_0) (fi29_1)) (And.intro (fi29_2) (ze29))))))):=And.intro (And.intro (And.intro (And.intro
  (And.intro (kt1) (And.intro (ag2) (si2))) (And.intro (And.intro (sz2) (by2)) (And.intro (in2) (zv2)))) (And.intro (And.intro (And.intro (ze2) (ag3)) (And.intro (si3) (sz3)))
  (And.intro (And.intro (by3) (in3)) (And.intro (zv3) (ze3))))) (And.intro (And.intro (And.intro (And.intro (ag4) (si4)) (And.intro (sz4) (by4))) (And.intro (And.intro (bo4) (zv4))
  (And.intro (ze4) (ag9)))) (And.intro (And.intro (And.intro (si9) (sz9)) (And.intro (by9) (st9))) (And.intro (And.intro (zv9) (ze9)) (And.intro (ag22) (el22)))))) (And.intro
  (And.intro (And.intro (And.intro (And.intro (si22) (sz22)) (And.intro (by22) (kt22))) (And.intro (And.intro (zv22) (ze22)) (And.intro (ag24) (si24)))) (And.intro (And.intro
  (And.intro (sz24) (by24)) (And.intro (str24) (fi24_0))) (And.intro (And.intro (fi24_1) (fi24_2)) (And.intro (ze24) (ag25))))) (And.intro (And.intro (And.intro (And.intro (el25)
  (si25)) (And.intro (sz25) (by25))) (And.intro (And.intro (kt25) (zv25)) (And.intro (ze25) (ag29)))) (And.intro (And.intro (And.intro (si29) (sz29)) (And.intro (by29) (str29)))
  (And.intro (And.intro (fi29_0) (fi29_1)) (And.intro (fi29_2) (ze29))))))
end Go.AM
