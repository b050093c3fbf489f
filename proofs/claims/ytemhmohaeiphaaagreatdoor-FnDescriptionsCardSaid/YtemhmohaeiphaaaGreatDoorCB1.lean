/-
 CONTRACTS of functions of the program,and what they compute,by content.
-/
import Derived.Test.YtemhmohaeiphaaaGreatDoorCB0
open Nat (reduceEqDiff reduceAdd reduceLeDiff reduceSub reduceMul)
open Int (reduceToNat)
set_option linter.unusedVariables false
set_option linter.unusedSimpArgs false
set_option maxRecDepth 8000
namespace Go.AM
open Go.Proofs
theorem sGen (n:Int) (mv:List (List Int)) (hn:intOk n) (h:smallSS mv):SpecAt Tryz.prog 117 [.i64 n,ssl mv] (.bl (decide (genOk n mv))):=by
 have h1:=h.1
 unfold intOk at hn
 refine spec_of_awp (M:=MM) (np:=2) (fz:=true) mixed Tryz.func117 rfl rfl (by decide) rfl (Nat.le_refl _) (by decide +kernel) (.inr ⟨rfl,rfl⟩) trivial ?_
 have fin:∀ b:Bool,(b=true↔genOk n mv)→Value.bool b=Value.bool (decide (genOk n mv)):=fun b h=>bl_eq (by rw [h,decide_eq_true_iff])
 simp -dsimp -implicitDefEqProofs (disch:=first|omega|(simp only [lenr];try omega)) only [↓amPre,↓reduceIte,reduceCtorEq,reduceEqDiff,Nat.reduceBEq,reduceAdd,reduceLeDiff,reduceSub,reduceMul,reduceToNat,MM,bu0,cbP9]
 refine callP_of (inRange _ _ _) ?_
 by_cases c1:1≤n∧n≤20
 case neg =>
  simp -dsimp -implicitDefEqProofs (disch:=first|omega|(simp only [lenr];try omega)) only [↓amPre,↓reduceIte,reduceCtorEq,reduceEqDiff,Nat.reduceBEq,reduceAdd,reduceLeDiff,reduceSub,reduceMul,reduceToNat,MM,bu0,cbP9,within_not.2 c1]
  refine fin _ ?_
  simp only [reduceCtorEq,false_iff]
  exact fun q=>c1 q.1
 by_cases c2:(8:Int)<mv.length
 ·simp -dsimp -implicitDefEqProofs (disch:=first|omega|(simp only [lenr];try omega)) only [↓amPre,↓reduceIte,reduceCtorEq,reduceEqDiff,Nat.reduceBEq,reduceAdd,reduceLeDiff,reduceSub,reduceMul,reduceToNat,MM,bu0,cbP9,within_iff.2 c1,lt_true c2]
  refine fin _ ?_
  simp only [reduceCtorEq,false_iff]
  intro q;have:=q.2.1;omega
 simp -dsimp -implicitDefEqProofs (disch:=first|omega|(simp only [lenr];try omega)) only [↓amPre,↓reduceIte,reduceCtorEq,reduceEqDiff,Nat.reduceBEq,reduceAdd,reduceLeDiff,reduceSub,reduceMul,reduceToNat,MM,bu0,cbP9,within_iff.2 c1,lt_false (Int.not_lt.1 c2)]
 refine awp_loop (fun k st=>k≤mv.length∧st.fr 5=.i64 k∧st.fr 0=.i64 n∧st.fr 1=ssl mv∧∀ s∈mv.take k,moveOk n s) (mv.length) ?_ ?_
 ·simp -dsimp -implicitDefEqProofs (disch:=first|omega|(simp only [lenr];try omega)) only [↓amPre,↓reduceIte,reduceCtorEq,reduceEqDiff,Nat.reduceBEq,reduceAdd,reduceLeDiff,reduceSub,reduceMul,reduceToNat,MM,bu0,cbP9]
  simp
 rintro k st _ ⟨hk,f5,f0,f1,ek⟩
 by_cases hlt:k<mv.length
 ·have hmem:=mem_getD mv k default hlt
  have hsm:=h.2 _ hmem
  by_cases w:((mv.getD k default).length:Int)=n
  case neg =>
   simp -dsimp -implicitDefEqProofs (disch:=first|omega|(simp only [lenr];try omega)) only [↓amPre,↓reduceIte,reduceCtorEq,reduceEqDiff,Nat.reduceBEq,reduceAdd,reduceLeDiff,reduceSub,reduceMul,reduceToNat,MM,bu0,cbP9,f5,f0,f1,ne_true w]
   refine fin _ ?_
   simp only [reduceCtorEq,false_iff]
   exact fun q=>w (q.2.2 _ hmem).1
  simp -dsimp -implicitDefEqProofs (disch:=first|omega|(simp only [lenr];try omega)) only [↓amPre,↓reduceIte,reduceCtorEq,reduceEqDiff,Nat.reduceBEq,reduceAdd,reduceLeDiff,reduceSub,reduceMul,reduceToNat,MM,bu0,cbP9,f5,f0,f1,ne_false w]
  refine callP_of (sIsPerm (mv.getD k default) hsm) ?_
  by_cases w2:isPerm (mv.getD k default)
  ·simp -dsimp -implicitDefEqProofs (disch:=first|omega|(simp only [lenr];try omega)) only [↓amPre,↓reduceIte,reduceCtorEq,reduceEqDiff,Nat.reduceBEq,reduceAdd,reduceLeDiff,reduceSub,reduceMul,reduceToNat,MM,bu0,cbP9,f5,f0,f1,w2]
   repeat' (first | omega | rfl | exact i64c (by omega) | exact vic (by omega) | exact (mem_take_succ (d:=default) hlt).2 ⟨ek,w,w2⟩ | apply And.intro)
  ·simp -dsimp -implicitDefEqProofs (disch:=first|omega|(simp only [lenr];try omega)) only [↓amPre,↓reduceIte,reduceCtorEq,reduceEqDiff,Nat.reduceBEq,reduceAdd,reduceLeDiff,reduceSub,reduceMul,reduceToNat,MM,bu0,cbP9,w2]
   refine fin _ ?_
   simp only [reduceCtorEq,false_iff]
   exact fun q=>w2 (q.2.2 _ hmem).2
 ·have hke:k=mv.length:=by omega
  subst hke
  rw [List.take_length] at ek
  simp -dsimp -implicitDefEqProofs (disch:=first|omega|(simp only [lenr];try omega)) only [↓amPre,↓reduceIte,reduceCtorEq,reduceEqDiff,Nat.reduceBEq,reduceAdd,reduceLeDiff,reduceSub,reduceMul,reduceToNat,MM,bu0,cbP9,f5,f0,f1]
  refine fin _ ?_
  simp only [true_iff]
  exact ⟨c1,by omega,ek⟩
theorem iGen1 (n:Int) (s:List Int) (hs:s.length≤1099511627776):SpecAt Tryz.prog 140 [isl s,.ep [.i64 n]] (.bl (!decide (moveOk n s))):=by
 refine spec_of_awp (M:=MM) (np:=2) (fz:=true) mixed Tryz.func140 rfl rfl (by decide) rfl (Nat.le_refl _) (by decide +kernel) (.inr ⟨rfl,rfl⟩) trivial ?_
 simp -dsimp -implicitDefEqProofs (disch:=first|omega|(simp only [lenr];try omega)) only [↓amPre,↓reduceIte,reduceCtorEq,reduceEqDiff,Nat.reduceBEq,reduceAdd,reduceLeDiff,reduceSub,reduceMul,reduceToNat,MM,bu0,cbP9]
 refine callP_of (lenI _) ?_
 by_cases w:(s.length:Int)=n
 case neg =>
  simp -dsimp -implicitDefEqProofs (disch:=first|omega|(simp only [lenr];try omega)) only [↓amPre,↓reduceIte,reduceCtorEq,reduceEqDiff,Nat.reduceBEq,reduceAdd,reduceLeDiff,reduceSub,reduceMul,reduceToNat,MM,bu0,cbP9,ne_true w]
  all_goals simp [moveOk,w]
 simp -dsimp -implicitDefEqProofs (disch:=first|omega|(simp only [lenr];try omega)) only [↓amPre,↓reduceIte,reduceCtorEq,reduceEqDiff,Nat.reduceBEq,reduceAdd,reduceLeDiff,reduceSub,reduceMul,reduceToNat,MM,bu0,cbP9,ne_false w]
 refine callP_of (iIsPerm s hs) ?_
 simp -dsimp -implicitDefEqProofs (disch:=first|omega|(simp only [lenr];try omega)) only [↓amPre,↓reduceIte,reduceCtorEq,reduceEqDiff,Nat.reduceBEq,reduceAdd,reduceLeDiff,reduceSub,reduceMul,reduceToNat,MM,bu0,cbP9]
 all_goals simp [moveOk,w]
theorem iGen (n:Int) (mv:List (List Int)) (hn:intOk n) (h:smallSS mv):SpecAt Tryz.prog 115 [.i64 n,ssl mv] (.bl (decide (genOk n mv))):=by
 have h1:=h.1
 unfold intOk at hn
 refine spec_of_awp (M:=MM) (np:=2) (fz:=true) mixed Tryz.func115 rfl rfl (by decide) rfl (Nat.le_refl _) (by decide +kernel) (.inr ⟨rfl,rfl⟩) trivial ?_
 have fin:∀ b:Bool,(b=true↔genOk n mv)→Value.bool b=Value.bool (decide (genOk n mv)):=fun b h=>bl_eq (by rw [h,decide_eq_true_iff])
 simp -dsimp -implicitDefEqProofs (disch:=first|omega|(simp only [lenr];try omega)) only [↓amPre,↓reduceIte,reduceCtorEq,reduceEqDiff,Nat.reduceBEq,reduceAdd,reduceLeDiff,reduceSub,reduceMul,reduceToNat,MM,bu0,cbP9]
 refine callP_of (iwithin _ _ _) ?_
 by_cases c1:1≤n∧n≤20
 case neg =>
  simp -dsimp -implicitDefEqProofs (disch:=first|omega|(simp only [lenr];try omega)) only [↓amPre,↓reduceIte,reduceCtorEq,reduceEqDiff,Nat.reduceBEq,reduceAdd,reduceLeDiff,reduceSub,reduceMul,reduceToNat,MM,bu0,cbP9,within_not.2 c1]
  refine fin _ ?_
  simp only [reduceCtorEq,false_iff]
  exact fun q=>c1 q.1
 by_cases c2:(8:Int)<mv.length
 ·simp -dsimp -implicitDefEqProofs (disch:=first|omega|(simp only [lenr];try omega)) only [↓amPre,↓reduceIte,reduceCtorEq,reduceEqDiff,Nat.reduceBEq,reduceAdd,reduceLeDiff,reduceSub,reduceMul,reduceToNat,MM,bu0,cbP9,within_iff.2 c1,lt_true c2]
  refine fin _ ?_
  simp only [reduceCtorEq,false_iff]
  intro q;have:=q.2.1;omega
 simp -dsimp -implicitDefEqProofs (disch:=first|omega|(simp only [lenr];try omega)) only [↓amPre,↓reduceIte,reduceCtorEq,reduceEqDiff,Nat.reduceBEq,reduceAdd,reduceLeDiff,reduceSub,reduceMul,reduceToNat,MM,bu0,cbP9,within_iff.2 c1,lt_false (Int.not_lt.1 c2)]
 refine callP_of (containsFuncI mv _ _ (fun s=>!decide (moveOk n s)) rfl rfl (fun _=>rfl) (fun s hs=>iGen1 n s (h.2 s hs)) h1) ?_
 simp -dsimp -implicitDefEqProofs (disch:=first|omega|(simp only [lenr];try omega)) only [↓amPre,↓reduceIte,reduceCtorEq,reduceEqDiff,Nat.reduceBEq,reduceAdd,reduceLeDiff,reduceSub,reduceMul,reduceToNat,MM,bu0,cbP9]
 refine fin _ ?_
 simp only [Bool.not_eq_true',List.any_eq_false,Bool.not_eq_true,Bool.not_eq_false',decide_eq_false_iff_not,Decidable.not_not,genOk,c1,true_and]
 exact ⟨fun q=>⟨by omega,by simpa using q⟩,fun q=>by simpa using q.2⟩
end Go.AM
set_option maxRecDepth 8000
namespace Go.AM
open Go.Proofs
theorem moveName (l:List UInt8) (i:Nat) (hi:i<l.length) (hl:l.length≤1099511627776):SpecAt Tryz.prog 118 [.st l,.i64 i] (.bl (decide (nameAt l i))):=by
 refine spec_of_awp (M:=MM) (np:=2) (fz:=true) mixed Tryz.func118 rfl rfl (by decide) rfl (Nat.le_refl _) (by decide +kernel) (.inr ⟨rfl,rfl⟩) trivial ?_
 have fin:∀ b:Bool,(b=true↔nameAt l i)→Value.bool b=Value.bool (decide (nameAt l i)):=fun b h=>bl_eq (by rw [h,decide_eq_true_iff])
 have hu:=u8lt (l.getD i 0)
 by_cases w1:((l.getD i 0).toNat:Int)<65
 ·simp -dsimp -implicitDefEqProofs (disch:=first|omega|(simp only [lenr];try omega)) only [↓amPre,↓reduceIte,reduceCtorEq,reduceEqDiff,Nat.reduceBEq,reduceAdd,reduceLeDiff,reduceSub,reduceMul,reduceToNat,MM,bu0,cbP9,lt_true w1]
  refine fin _ ?_
  simp only [reduceCtorEq,false_iff]
  intro q;have:=q.1;omega
 by_cases w2:(90:Int)<((l.getD i 0).toNat:Int)
 ·simp -dsimp -implicitDefEqProofs (disch:=first|omega|(simp only [lenr];try omega)) only [↓amPre,↓reduceIte,reduceCtorEq,reduceEqDiff,Nat.reduceBEq,reduceAdd,reduceLeDiff,reduceSub,reduceMul,reduceToNat,MM,bu0,cbP9,lt_false (Int.not_lt.1 w1),lt_true w2]
  refine fin _ ?_
  simp only [reduceCtorEq,false_iff]
  intro q;have:=q.1;omega
 simp -dsimp -implicitDefEqProofs (disch:=first|omega|(simp only [lenr];try omega)) only [↓amPre,↓reduceIte,reduceCtorEq,reduceEqDiff,Nat.reduceBEq,reduceAdd,reduceLeDiff,reduceSub,reduceMul,reduceToNat,MM,bu0,cbP9,lt_false (Int.not_lt.1 w1),lt_false (Int.not_lt.1 w2)]
 refine awp_loop (fun k st=>k≤i∧st.fr 5=.i64 k∧st.fr 1=.i64 i∧st.fr 0=.st l∧∀ y∈l.take k,y≠l.getD i 0) (i) ?_ ?_
 ·simp -dsimp -implicitDefEqProofs (disch:=first|omega|(simp only [lenr];try omega)) only [↓amPre,↓reduceIte,reduceCtorEq,reduceEqDiff,Nat.reduceBEq,reduceAdd,reduceLeDiff,reduceSub,reduceMul,reduceToNat,MM,bu0,cbP9]
  simp
 rintro k st _ ⟨hk,f5,f1,f0,ek⟩
 by_cases hk':k<i
 ·have hmk:=mem_take_succ (l:=l) (d:=0) (p:=fun y=>y≠l.getD i 0) (show k<l.length by omega)
  cases w2:decide (l.getD k 0=l.getD i 0) with
  | true =>
   simp -dsimp -implicitDefEqProofs (disch:=first|omega|(simp only [lenr];try omega)) only [↓amPre,↓reduceIte,reduceCtorEq,reduceEqDiff,Nat.reduceBEq,reduceAdd,reduceLeDiff,reduceSub,reduceMul,reduceToNat,MM,bu0,cbP9,f5,f1,f0,u8eq,w2]
   refine fin _ ?_
   simp only [reduceCtorEq,false_iff]
   intro q
   simp only [decide_eq_true_eq] at w2
   refine q.2 _ ?_ w2
   rw [List.mem_take_iff_getElem]
   exact ⟨k,by omega,(getD_eq _ _ _ (show k<l.length by omega)).symm⟩
  | false =>
   simp -dsimp -implicitDefEqProofs (disch:=first|omega|(simp only [lenr];try omega)) only [↓amPre,↓reduceIte,reduceCtorEq,reduceEqDiff,Nat.reduceBEq,reduceAdd,reduceLeDiff,reduceSub,reduceMul,reduceToNat,MM,bu0,cbP9,f5,f1,f0,u8eq,w2]
   simp only [decide_eq_false_iff_not] at w2
   repeat' (first | omega | rfl | exact i64c (by omega) | exact vic (by omega) | exact hmk.2 ⟨ek,w2⟩ | apply And.intro)
 ·have hke:k=i:=by omega
  subst hke
  simp -dsimp -implicitDefEqProofs (disch:=first|omega|(simp only [lenr];try omega)) only [↓amPre,↓reduceIte,reduceCtorEq,reduceEqDiff,Nat.reduceBEq,reduceAdd,reduceLeDiff,reduceSub,reduceMul,reduceToNat,MM,bu0,cbP9,f5,f1,f0]
  refine fin _ ?_
  simp only [true_iff]
  exact ⟨by omega,ek⟩
theorem sPuzzle (p:Puzz) (h:smallP p):SpecAt Tryz.prog 76 [p.sl] (.bl (decide (puzzOk p))):=by
 have h2:=h.2.1
 have h3:=h.2.2.1
 refine spec_of_awp (M:=MM) (np:=1) (fz:=true) mixed Tryz.func76 rfl rfl (by decide) rfl (Nat.le_refl _) (by decide +kernel) (.inr ⟨rfl,rfl⟩) trivial ?_
 have fin:∀ b:Bool,(b=true↔puzzOk p)→Value.bool b=Value.bool (decide (puzzOk p)):=fun b h=>bl_eq (by rw [h,decide_eq_true_iff])
 by_cases c0:(p.mv.length:Int)=0
 ·simp -dsimp -implicitDefEqProofs (disch:=first|omega|(simp only [lenr];try omega)) only [↓amPre,↓reduceIte,reduceCtorEq,reduceEqDiff,Nat.reduceBEq,reduceAdd,reduceLeDiff,reduceSub,reduceMul,reduceToNat,MM,bu0,cbP9,eq_true c0]
  refine fin _ ?_
  simp only [reduceCtorEq,false_iff]
  intro q;have:=puzz_nm q;omega
 by_cases c1:(p.nm.length:Int)=p.mv.length
 case neg =>
  simp -dsimp -implicitDefEqProofs (disch:=first|omega|(simp only [lenr];try omega)) only [↓amPre,↓reduceIte,reduceCtorEq,reduceEqDiff,Nat.reduceBEq,reduceAdd,reduceLeDiff,reduceSub,reduceMul,reduceToNat,MM,bu0,cbP9,eq_false c0,ne_true c1]
  refine fin _ ?_
  simp only [reduceCtorEq,false_iff]
  intro q;have:=q.2.2;omega
 simp -dsimp -implicitDefEqProofs (disch:=first|omega|(simp only [lenr];try omega)) only [↓amPre,↓reduceIte,reduceCtorEq,reduceEqDiff,Nat.reduceBEq,reduceAdd,reduceLeDiff,reduceSub,reduceMul,reduceToNat,MM,bu0,cbP9,eq_false c0,ne_false c1]
 refine callP_of (sGen p.n p.mv h.1 h.2.2) ?_
 by_cases c2:genOk p.n p.mv
 case neg =>
  simp -dsimp -implicitDefEqProofs (disch:=first|omega|(simp only [lenr];try omega)) only [↓amPre,↓reduceIte,reduceCtorEq,reduceEqDiff,Nat.reduceBEq,reduceAdd,reduceLeDiff,reduceSub,reduceMul,reduceToNat,MM,bu0,cbP9,c2]
  refine fin _ ?_
  simp only [reduceCtorEq,false_iff]
  exact fun q=>c2 q.1
 simp -dsimp -implicitDefEqProofs (disch:=first|omega|(simp only [lenr];try omega)) only [↓amPre,↓reduceIte,reduceCtorEq,reduceEqDiff,Nat.reduceBEq,reduceAdd,reduceLeDiff,reduceSub,reduceMul,reduceToNat,MM,bu0,cbP9,c2]
 have c2l:=c2.2.1
 refine awp_loop (fun k st=>k≤p.nm.length∧st.fr 3=.i64 k∧st.fr 1=.loc 1 [] 0 0∧st.mem 1=some (.pt 3 (.agg [.i64 p.n,.st p.nm,ssl p.mv]))∧lettersOk (p.nm.take k)) (p.nm.length) ?_ ?_
 ·simp -dsimp -implicitDefEqProofs (disch:=first|omega|(simp only [lenr];try omega)) only [↓amPre,↓reduceIte,reduceCtorEq,reduceEqDiff,Nat.reduceBEq,reduceAdd,reduceLeDiff,reduceSub,reduceMul,reduceToNat,MM,bu0,cbP9]
  simp [lettersOk]
 rintro k st _ ⟨hk,f3,f1,m1,ek⟩
 by_cases hlt:k<p.nm.length
 ·have hlt2:=letters_take p.nm k hlt
  simp -dsimp -implicitDefEqProofs (disch:=first|omega|(simp only [lenr];try omega)) only [↓amPre,↓reduceIte,reduceCtorEq,reduceEqDiff,Nat.reduceBEq,reduceAdd,reduceLeDiff,reduceSub,reduceMul,reduceToNat,MM,bu0,cbP9,f3,f1,m1]
  refine callP_of (moveName p.nm k hlt h2) ?_
  by_cases w:nameAt p.nm k
  ·simp -dsimp -implicitDefEqProofs (disch:=first|omega|(simp only [lenr];try omega)) only [↓amPre,↓reduceIte,reduceCtorEq,reduceEqDiff,Nat.reduceBEq,reduceAdd,reduceLeDiff,reduceSub,reduceMul,reduceToNat,MM,bu0,cbP9,f3,f1,m1,w]
   repeat' (first | omega | rfl | exact i64c (by omega) | exact vic (by omega) | exact hlt2.2 ⟨ek,w⟩ | apply And.intro)
  ·simp -dsimp -implicitDefEqProofs (disch:=first|omega|(simp only [lenr];try omega)) only [↓amPre,↓reduceIte,reduceCtorEq,reduceEqDiff,Nat.reduceBEq,reduceAdd,reduceLeDiff,reduceSub,reduceMul,reduceToNat,MM,bu0,cbP9,w]
   refine fin _ ?_
   simp only [reduceCtorEq,false_iff]
   exact fun q=>w (hlt2.1 (letters_mono q.2.1.1 _)).2
 ·have hke:k=p.nm.length:=by omega
  subst hke
  rw [List.take_length] at ek
  simp -dsimp -implicitDefEqProofs (disch:=first|omega|(simp only [lenr];try omega)) only [↓amPre,↓reduceIte,reduceCtorEq,reduceEqDiff,Nat.reduceBEq,reduceAdd,reduceLeDiff,reduceSub,reduceMul,reduceToNat,MM,bu0,cbP9,f3,f1,m1]
  refine fin _ ?_
  simp only [true_iff]
  exact ⟨c2,⟨ek,by omega,by omega⟩,by omega⟩
theorem iPuzzle (p:Puzz) (h:smallP p):SpecAt Tryz.prog 72 [p.sl] (.bl (decide (puzzOk p))):=by
 have h2:=h.2.1
 have h3:=h.2.2.1
 refine spec_of_awp (M:=MM) (np:=1) (fz:=true) mixed Tryz.func72 rfl rfl (by decide) rfl (Nat.le_refl _) (by decide +kernel) (.inr ⟨rfl,rfl⟩) trivial ?_
 simp -dsimp -implicitDefEqProofs (disch:=first|omega|(simp only [lenr];try omega)) only [↓amPre,↓reduceIte,reduceCtorEq,reduceEqDiff,Nat.reduceBEq,reduceAdd,reduceLeDiff,reduceSub,reduceMul,reduceToNat,MM,bu0,cbP9]
 refine callP_of (iGen p.n p.mv h.1 h.2.2) ?_
 by_cases c2:genOk p.n p.mv
 case neg =>
  simp -dsimp -implicitDefEqProofs (disch:=first|omega|(simp only [lenr];try omega)) only [↓amPre,↓reduceIte,reduceCtorEq,reduceEqDiff,Nat.reduceBEq,reduceAdd,reduceLeDiff,reduceSub,reduceMul,reduceToNat,MM,bu0,cbP9,c2]
  all_goals simp [puzzOk,c2]
 simp -dsimp -implicitDefEqProofs (disch:=first|omega|(simp only [lenr];try omega)) only [↓amPre,↓reduceIte,reduceCtorEq,reduceEqDiff,Nat.reduceBEq,reduceAdd,reduceLeDiff,reduceSub,reduceMul,reduceToNat,MM,bu0,cbP9,c2]
 refine callP_of (iisNames p.nm h2) ?_
 by_cases c3:namesOk p.nm
 case neg =>
  simp -dsimp -implicitDefEqProofs (disch:=first|omega|(simp only [lenr];try omega)) only [↓amPre,↓reduceIte,reduceCtorEq,reduceEqDiff,Nat.reduceBEq,reduceAdd,reduceLeDiff,reduceSub,reduceMul,reduceToNat,MM,bu0,cbP9,c3,c2]
  all_goals simp [puzzOk,c3]
 by_cases c1:(p.nm.length:Int)=p.mv.length
 case neg =>
  simp -dsimp -implicitDefEqProofs (disch:=first|omega|(simp only [lenr];try omega)) only [↓amPre,↓reduceIte,reduceCtorEq,reduceEqDiff,Nat.reduceBEq,reduceAdd,reduceLeDiff,reduceSub,reduceMul,reduceToNat,MM,bu0,cbP9,c3,c2,eq_false c1]
  have:¬ p.nm.length=p.mv.length:=by omega
  all_goals simp [puzzOk,this]
 simp -dsimp -implicitDefEqProofs (disch:=first|omega|(simp only [lenr];try omega)) only [↓amPre,↓reduceIte,reduceCtorEq,reduceEqDiff,Nat.reduceBEq,reduceAdd,reduceLeDiff,reduceSub,reduceMul,reduceToNat,MM,bu0,cbP9,c3,c2,eq_true c1]
 have:p.nm.length=p.mv.length:=by omega
 all_goals simp [puzzOk,this,c2,c3]
end Go.AM
set_option maxRecDepth 8000
namespace Go.AM
namespace Draws
open Go.Proofs
theorem andM (a m:Int) (h0:0≤m) (h1:m≤9223372036854775807):0≤bitsI .and .i64 a m∧bitsI .and .i64 a m≤m:=by
 have e2:(BitVec.ofInt 64 m).toNat=m.toNat:=by rw [BitVec.toNat_ofInt];omega
 have h:(BitVec.ofInt 64 a &&& BitVec.ofInt 64 m).toNat≤m.toNat:=by
  rw [BitVec.toNat_and,e2]
  exact Nat.and_le_right
 have e:bitsI .and .i64 a m=((BitVec.ofInt 64 a &&& BitVec.ofInt 64 m).toNat:Int):=by
  show IntKind.i64.wrap ((BitVec.ofInt 64 a &&& BitVec.ofInt 64 m).toNat:Int)=_
  apply wrap64_id;omega
 rw [e];omega
def sdK (l:List UInt8):Nat→Int
 | 0=>590033+l.length
 | k+1=>bitsI .and .i64 (sdK l k*337+(l.getD k default).toNat+11) 1073741823
theorem sdK_ok (l:List UInt8) (h:l.length≤4096):∀ k,0≤sdK l k∧sdK l k≤1073741823
 | 0=>by simp only [sdK];omega
 | k+1=>andM _ _ (by omega) (by omega)
theorem newSource (l:List UInt8) (h:l.length≤4096):SpecAt Tryz.prog 40 [bsl l] (Src.pt ⟨l,0,sdK l l.length⟩):=by
 refine spec_of_awp (M:=MM) (np:=1) (fz:=false) mixed Tryz.func40 rfl rfl (by decide) rfl (Nat.le_refl _) (by decide +kernel) (.inl rfl) (by first | trivial | simp only [sigsOk_nil,sigsOk_some,sigsOk_none,sig_tr,sig_pt,sig_mt,sig_agg,List.map_cons,List.map_nil,sig1_tr,sig1_pt,sig1_v,and_self,true_and,List.length_map,List.length_set]) ?_
 simp -dsimp -implicitDefEqProofs (disch:=first|omega|(simp only [lenr];try omega)) only [↓amPre,↓reduceIte,reduceCtorEq,reduceEqDiff,Nat.reduceBEq,reduceAdd,reduceLeDiff,reduceSub,reduceMul,reduceToNat,MM,bu0,cbP2]
 refine awp_loop (fun k st=>k≤l.length∧st.fr 4=.i64 k∧st.fr 3=.i64 (sdK l k)∧st.fr 0=bsl l) (l.length) ?_ ?_
 ·simp -dsimp -implicitDefEqProofs (disch:=first|omega|(simp only [lenr];try omega)) only [↓amPre,↓reduceIte,reduceCtorEq,reduceEqDiff,Nat.reduceBEq,reduceAdd,reduceLeDiff,reduceSub,reduceMul,reduceToNat,MM,bu0,cbP2]
  simp [sdK]
 rintro k st _ ⟨hk,f4,f3,f0⟩
 have hs:=sdK_ok l h k
 have hs1:sdK l (k+1)=bitsI .and .i64 (sdK l k*337+(l.getD k default).toNat+11) 1073741823:=rfl
 by_cases hlt:k<l.length
 ·have hu:(l.getD k default).toNat<256:=(l.getD k default).toNat_lt
  have e0:IntKind.i64.wrap ((l.getD k default).toNat:Int)=(l.getD k default).toNat:=wrap64_id (by omega)
  have e1:IntKind.i64.wrap (sdK l k*337)=sdK l k*337:=wrap64_id (by omega)
  have e2:IntKind.i64.wrap (sdK l k*337+(l.getD k default).toNat)=sdK l k*337+(l.getD k default).toNat:=wrap64_id (by omega)
  have e3:IntKind.i64.wrap (sdK l k*337+(l.getD k default).toNat+11)=sdK l k*337+(l.getD k default).toNat+11:=wrap64_id (by omega)
  simp -dsimp -implicitDefEqProofs (disch:=first|omega|(simp only [lenr];try omega)) only [↓amPre,↓reduceIte,reduceCtorEq,reduceEqDiff,Nat.reduceBEq,reduceAdd,reduceLeDiff,reduceSub,reduceMul,reduceToNat,MM,bu0,cbP2,f4,f3,f0,e0,e1,e2,e3,← hs1]
  repeat' (first|omega|rfl|exact i64c (by omega)|exact vic (by omega)|apply ai)
 ·have hke:k=l.length:=by omega
  subst hke
  simp -dsimp -implicitDefEqProofs (disch:=first|omega|(simp only [lenr];try omega)) only [↓amPre,↓reduceIte,reduceCtorEq,reduceEqDiff,Nat.reduceBEq,reduceAdd,reduceLeDiff,reduceSub,reduceMul,reduceToNat,MM,bu0,cbP2,f4,f3,f0]
  rfl
theorem numberUpTo (s:Src) (n:Int) (h:s.ok) (h0:0≤n) (h1:n≤1000):∃ (s':Src) (x:Int),SpecX Tryz.prog 95 [s.pt,.i64 n] [some s'.pt] (.i64 x)∧s'.ok∧intOk x:=by
 obtain ⟨s1,c1,q1,k1⟩:=oneIn s 10 h (by unfold intOk;omega)
 cases c1 with
 | true =>
  obtain ⟨s2,x2,q2,k2,b2⟩:=extremeInt s1 k1
  obtain ⟨s3,x3,q3,k3,b3,b4,_⟩:=below s2 4 k2 (by unfold intOk;omega)
  have b4:=b4 (by omega)
  obtain ⟨m,hm⟩:∃ m:Nat,x3=m:=⟨_,(Int.toNat_of_nonneg b3).symm⟩
  have hm4:m<4:=by omega
  subst hm
  have hin:intOk (([-1,n,n+1,x2]:List Int).getD m 0):=by
   match m,hm4 with
   | 0,_=>show intOk (-1);unfold intOk;omega
   | 1,_=>show intOk n;unfold intOk;omega
   | 2,_=>show intOk (n+1);unfold intOk;omega
   | 3,_=>exact b2
  refine ⟨s3,([-1,n,n+1,x2]:List Int).getD m 0,?_,k3,hin⟩
  have hg:([.i64 (-1),.i64 n,.i64 (n+1),.i64 x2]:List AV).getD m .any=.i64 (([-1,n,n+1,x2]:List Int).getD m 0):=by
   match m,hm4 with
   | 0,_=>rfl
   | 1,_=>rfl
   | 2,_=>rfl
   | 3,_=>rfl
  generalize ([-1,n,n+1,x2]:List Int).getD m 0=y at hg ⊢
  refine spec_of_awp (M:=MM) (np:=2) (fz:=false) mixed Tryz.func95 rfl rfl (by decide) rfl (Nat.le_refl _) (by decide +kernel) (.inl rfl) (by simp only [sigsOk_some,sigsOk_nil,and_true];rfl) ?_
  simp -dsimp -implicitDefEqProofs (disch:=first|omega|(simp only [lenr];try omega)) only [↓amPre,↓reduceIte,reduceCtorEq,reduceEqDiff,Nat.reduceBEq,reduceAdd,reduceLeDiff,reduceSub,reduceMul,reduceToNat,MM,bu0,cbP2]
  iterate 2 ((first|refine callX_of (q1) ?_|refine callX_of (q2) ?_);simp -dsimp -implicitDefEqProofs (disch:=first|omega|(simp only [lenr];try omega)) only [↓amPre,↓reduceIte,reduceCtorEq,reduceEqDiff,Nat.reduceBEq,reduceAdd,reduceLeDiff,reduceSub,reduceMul,reduceToNat,MM,bu0,cbP2])
  refine callX_of (q3) ?_
  simp -dsimp -implicitDefEqProofs (disch:=first|omega|(simp only [lenr];try omega)) only [↓amPre,↓reduceIte,reduceCtorEq,reduceEqDiff,Nat.reduceBEq,reduceAdd,reduceLeDiff,reduceSub,reduceMul,reduceToNat,MM,bu0,cbP2,hg]
 | false =>
  obtain ⟨s2,c2,q2,k2⟩:=oneIn s1 2 k1 (by unfold intOk;omega)
  cases c2 with
  | true =>
   have hm:1≤(if (4:Int)<n then 4 else n)+1∧(if (4:Int)<n then 4 else n)+1≤5:=by split <;> omega
   obtain ⟨s3,x3,q3,k3,b3,b4,_⟩:=below s2 ((if (4:Int)<n then 4 else n)+1) k2 (by unfold intOk;omega)
   have b4:=b4 (by omega)
   refine ⟨s3,x3,?_,k3,by unfold intOk;omega⟩
   generalize hM:(if (4:Int)<n then 4 else n)=M at q3 hm
   refine spec_of_awp (M:=MM) (np:=2) (fz:=false) mixed Tryz.func95 rfl rfl (by decide) rfl (Nat.le_refl _) (by decide +kernel) (.inl rfl) (by simp only [sigsOk_some,sigsOk_nil,and_true];rfl) ?_
   simp -dsimp -implicitDefEqProofs (disch:=first|omega|(simp only [lenr];try omega)) only [↓amPre,↓reduceIte,reduceCtorEq,reduceEqDiff,Nat.reduceBEq,reduceAdd,reduceLeDiff,reduceSub,reduceMul,reduceToNat,MM,bu0,cbP2]
   refine callX_of (q1) ?_
   simp -dsimp -implicitDefEqProofs (disch:=first|omega|(simp only [lenr];try omega)) only [↓amPre,↓reduceIte,reduceCtorEq,reduceEqDiff,Nat.reduceBEq,reduceAdd,reduceLeDiff,reduceSub,reduceMul,reduceToNat,MM,bu0,cbP2]
   refine callX_of (q2) ?_
   simp -dsimp -implicitDefEqProofs (disch:=first|omega|(simp only [lenr];try omega)) only [↓amPre,↓reduceIte,reduceCtorEq,reduceEqDiff,Nat.reduceBEq,reduceAdd,reduceLeDiff,reduceSub,reduceMul,reduceToNat,MM,bu0,cbP2,minmaxP_int,hM]
   refine callX_of (q3) ?_
   simp -dsimp -implicitDefEqProofs (disch:=first|omega|(simp only [lenr];try omega)) only [↓amPre,↓reduceIte,reduceCtorEq,reduceEqDiff,Nat.reduceBEq,reduceAdd,reduceLeDiff,reduceSub,reduceMul,reduceToNat,MM,bu0,cbP2]
  | false =>
   obtain ⟨s3,x3,q3,k3,b3,b4,_⟩:=below s2 (n+1) k2 (by unfold intOk;omega)
   have b4:=b4 (by omega)
   refine ⟨s3,x3,?_,k3,by unfold intOk;omega⟩
   refine spec_of_awp (M:=MM) (np:=2) (fz:=false) mixed Tryz.func95 rfl rfl (by decide) rfl (Nat.le_refl _) (by decide +kernel) (.inl rfl) (by simp only [sigsOk_some,sigsOk_nil,and_true];rfl) ?_
   simp -dsimp -implicitDefEqProofs (disch:=first|omega|(simp only [lenr];try omega)) only [↓amPre,↓reduceIte,reduceCtorEq,reduceEqDiff,Nat.reduceBEq,reduceAdd,reduceLeDiff,reduceSub,reduceMul,reduceToNat,MM,bu0,cbP2]
   iterate 3 ((first|refine callX_of (q1) ?_|refine callX_of (q2) ?_|refine callX_of (q3) ?_);simp -dsimp -implicitDefEqProofs (disch:=first|omega|(simp only [lenr];try omega)) only [↓amPre,↓reduceIte,reduceCtorEq,reduceEqDiff,Nat.reduceBEq,reduceAdd,reduceLeDiff,reduceSub,reduceMul,reduceToNat,MM,bu0,cbP2])
theorem drawKinds (s:Src) (h:s.ok):∃ (s':Src) (ks:List Kind),SpecX Tryz.prog 91 [s.pt] [some s'.pt] (ktr ks)∧s'.ok∧kindsOk ks:=by
 obtain ⟨s1,x1,q1,k1,b1,b2,_⟩:=below s 5 h (by unfold intOk;omega)
 have b2:=b2 (by omega)
 obtain ⟨n,hn⟩:∃ n:Nat,x1=n:=⟨_,(Int.toNat_of_nonneg b1).symm⟩
 have hn5:n<5:=by omega
 subst hn
 match n,hn5 with
 | 0,_ =>
  refine ⟨s1,[⟨3,1⟩,⟨2,2⟩],?_,k1,by decide⟩
  refine spec_of_awp (M:=MM) (np:=1) (fz:=false) mixed Tryz.func91 rfl rfl (by decide) rfl (Nat.le_refl _) (by decide +kernel) (.inl rfl) (by simp only [sigsOk_some,sigsOk_nil,and_true];rfl) ?_
  simp -dsimp -implicitDefEqProofs (disch:=first|omega|(simp only [lenr];try omega)) only [↓amPre,↓reduceIte,reduceCtorEq,reduceEqDiff,Nat.reduceBEq,reduceAdd,reduceLeDiff,reduceSub,reduceMul,reduceToNat,MM,bu0,cbP2]
  refine callX_of (q1) ?_
  simp -dsimp -implicitDefEqProofs (disch:=first|omega|(simp only [lenr];try omega)) only [↓amPre,↓reduceIte,reduceCtorEq,reduceEqDiff,Nat.reduceBEq,reduceAdd,reduceLeDiff,reduceSub,reduceMul,reduceToNat,MM,bu0,cbP2]
 | 1,_ =>
  refine ⟨s1,[⟨2,3⟩],?_,k1,by decide⟩
  refine spec_of_awp (M:=MM) (np:=1) (fz:=false) mixed Tryz.func91 rfl rfl (by decide) rfl (Nat.le_refl _) (by decide +kernel) (.inl rfl) (by simp only [sigsOk_some,sigsOk_nil,and_true];rfl) ?_
  simp -dsimp -implicitDefEqProofs (disch:=first|omega|(simp only [lenr];try omega)) only [↓amPre,↓reduceIte,reduceCtorEq,reduceEqDiff,Nat.reduceBEq,reduceAdd,reduceLeDiff,reduceSub,reduceMul,reduceToNat,MM,bu0,cbP2]
  refine callX_of (q1) ?_
  simp -dsimp -implicitDefEqProofs (disch:=first|omega|(simp only [lenr];try omega)) only [↓amPre,↓reduceIte,reduceCtorEq,reduceEqDiff,Nat.reduceBEq,reduceAdd,reduceLeDiff,reduceSub,reduceMul,reduceToNat,MM,bu0,cbP2]
 | 2,_ =>
  refine ⟨s1,[⟨3,2⟩],?_,k1,by decide⟩
  refine spec_of_awp (M:=MM) (np:=1) (fz:=false) mixed Tryz.func91 rfl rfl (by decide) rfl (Nat.le_refl _) (by decide +kernel) (.inl rfl) (by simp only [sigsOk_some,sigsOk_nil,and_true];rfl) ?_
  simp -dsimp -implicitDefEqProofs (disch:=first|omega|(simp only [lenr];try omega)) only [↓amPre,↓reduceIte,reduceCtorEq,reduceEqDiff,Nat.reduceBEq,reduceAdd,reduceLeDiff,reduceSub,reduceMul,reduceToNat,MM,bu0,cbP2]
  refine callX_of (q1) ?_
  simp -dsimp -implicitDefEqProofs (disch:=first|omega|(simp only [lenr];try omega)) only [↓amPre,↓reduceIte,reduceCtorEq,reduceEqDiff,Nat.reduceBEq,reduceAdd,reduceLeDiff,reduceSub,reduceMul,reduceToNat,MM,bu0,cbP2]
 | 3,_ =>
  refine ⟨s1,[⟨1,3⟩,⟨4,1⟩],?_,k1,by decide⟩
  refine spec_of_awp (M:=MM) (np:=1) (fz:=false) mixed Tryz.func91 rfl rfl (by decide) rfl (Nat.le_refl _) (by decide +kernel) (.inl rfl) (by simp only [sigsOk_some,sigsOk_nil,and_true];rfl) ?_
  simp -dsimp -implicitDefEqProofs (disch:=first|omega|(simp only [lenr];try omega)) only [↓amPre,↓reduceIte,reduceCtorEq,reduceEqDiff,Nat.reduceBEq,reduceAdd,reduceLeDiff,reduceSub,reduceMul,reduceToNat,MM,bu0,cbP2]
  refine callX_of (q1) ?_
  simp -dsimp -implicitDefEqProofs (disch:=first|omega|(simp only [lenr];try omega)) only [↓amPre,↓reduceIte,reduceCtorEq,reduceEqDiff,Nat.reduceBEq,reduceAdd,reduceLeDiff,reduceSub,reduceMul,reduceToNat,MM,bu0,cbP2]
 | 4,_ =>
  obtain ⟨s2,x2,q2,k2,c1,c2,_⟩:=below s1 4 k1 (by unfold intOk;omega)
  obtain ⟨s3,x3,q3,k3,d1,d2,_⟩:=below s2 2 k2 (by unfold intOk;omega)
  have c2:=c2 (by omega)
  have d2:=d2 (by omega)
  have hk:kindsOk [(⟨1+x2,1+x3⟩:Kind)]:=by
   refine ⟨by simp,?_,?_⟩
   ·intro k hk;rw [List.mem_singleton.1 hk];exact ⟨by simp only;omega,by simp only;omega⟩
   ·have:(1+x2)*(1+x3)≤4*2:=Int.mul_le_mul (by omega) (by omega) (by omega) (by omega)
    simp only [facets];omega
  refine ⟨s3,[⟨1+x2,1+x3⟩],?_,k3,hk⟩
  refine spec_of_awp (M:=MM) (np:=1) (fz:=false) mixed Tryz.func91 rfl rfl (by decide) rfl (Nat.le_refl _) (by decide +kernel) (.inl rfl) (by simp only [sigsOk_some,sigsOk_nil,and_true];rfl) ?_
  simp -dsimp -implicitDefEqProofs (disch:=first|omega|(simp only [lenr];try omega)) only [↓amPre,↓reduceIte,reduceCtorEq,reduceEqDiff,Nat.reduceBEq,reduceAdd,reduceLeDiff,reduceSub,reduceMul,reduceToNat,MM,bu0,cbP2]
  iterate 3 ((first|refine callX_of (q1) ?_|refine callX_of (q2) ?_|refine callX_of (q3) ?_);simp -dsimp -implicitDefEqProofs (disch:=first|omega|(simp only [lenr];try omega)) only [↓amPre,↓reduceIte,reduceCtorEq,reduceEqDiff,Nat.reduceBEq,reduceAdd,reduceLeDiff,reduceSub,reduceMul,reduceToNat,MM,bu0,cbP2])
end Draws
end Go.AM
set_option maxRecDepth 8000
namespace Go.AM
namespace Draws
open Go.Proofs
noncomputable def bS (s:Src) (n:Int):Src:=open Classical in if h:s.ok∧intOk n then (below s n h.1 h.2).choose else s
noncomputable def bX (s:Src) (n:Int):Int:=open Classical in if h:s.ok∧intOk n then (below s n h.1 h.2).choose_spec.choose else 0
theorem belowF (s:Src) (n:Int) (h:s.ok) (hn:intOk n):SpecX Tryz.prog 94 [s.pt,.i64 n] [some (bS s n).pt] (.i64 (bX s n))∧(bS s n).ok∧0≤bX s n∧(0<n→bX s n<n)∧(n≤0→bX s n=0):=by
 have:=(below s n h hn).choose_spec.choose_spec
 unfold bS bX
 rw [dif_pos ⟨h,hn⟩,dif_pos ⟨h,hn⟩]
 exact this
theorem ints_bears:∀ L:List Int,AV.bearsL (L.map AV.i64)=false
 | []=>rfl
 | _ :: r=>by rw [List.map_cons,AV.bearsL,ints_bears r];rfl
theorem grabL_ints (s:Nat) (p:Path):∀ (L:List Int) (i:Nat) (st:St) (K:List AV→St→Prop),grabL s p i (L.map AV.i64) st K=K (L.map AV.i64) st
 | [],_,_,_=>rfl
 | a :: r,i,st,K=>by
  have hb:AV.bears (AV.v (.int .i64 a))=false:=rfl
  rw [List.map_cons,grabL_cons,grabE_v,grabC_v,hb]
  refine (propext ⟨fun h=>?_,fun h=>?_⟩:_=_)
  ·have h2:=h.2
   rw [grabL_ints s p r (i+1) st] at h2
   exact h2
  ·refine ⟨rfl,?_⟩
   rw [grabL_ints s p r (i+1) st]
   exact h
noncomputable def ordK (s:Src):Nat→Src×List Int
 | 0=>(s,[])
 | k+1=>(bS (ordK s k).1 (k+1),(ordK s k).2.take (bX (ordK s k).1 (k+1)).toNat++[(k:Int)]++(ordK s k).2.drop (bX (ordK s k).1 (k+1)).toNat)
theorem ordK_ok (s:Src) (h:s.ok):∀ k,k≤100→(ordK s k).1.ok∧(ordK s k).2.length=k
 | 0,_=>⟨h,rfl⟩
 | k+1,hk=>by
  have ih:=ordK_ok s h k (by omega)
  have hb:=belowF (ordK s k).1 (k+1) ih.1 (by unfold intOk;omega)
  refine ⟨hb.2.1,?_⟩
  have h3:=hb.2.2.2.1 (by omega)
  simp only [ordK,List.length_append,List.length_take,List.length_drop,List.length_singleton,ih.2]
  omega
theorem drawOrder (s:Src) (n:Nat) (h:s.ok) (hn:n≤20):SpecX Tryz.prog 122 [s.pt,.i64 n] [some (ordK s n).1.pt] (itr (ordK s n).2):=by
 refine spec_of_awp (M:=MM) (np:=2) (fz:=false) mixed Tryz.func122 rfl rfl (by decide) rfl (Nat.le_refl _) (by decide +kernel) (.inl rfl) (by simp only [sigsOk_some,sigsOk_nil,and_true];rfl) ?_
 simp -dsimp -implicitDefEqProofs (disch:=first|omega|(simp only [lenr];try omega)) only [↓amPre,↓reduceIte,reduceCtorEq,reduceEqDiff,Nat.reduceBEq,reduceAdd,reduceLeDiff,reduceSub,reduceMul,reduceToNat,MM,bu0,cbP2]
 refine awp_loopR 9 32 (.tr 1 []) (by simp -dsimp -implicitDefEqProofs (disch:=first|omega|(simp only [lenr];try omega)) only [↓amPre,↓reduceIte,reduceCtorEq,reduceEqDiff,Nat.reduceBEq,reduceAdd,reduceLeDiff,reduceSub,reduceMul,reduceToNat,MM,bu0,cbP2]) (by decide) (by decide) (by decide) (fun k st=>k≤n∧st.fr 6=.i64 k∧st.fr 1=.i64 n∧st.fr 5=.ref 32 [] 1 0 k∧st.fr 0=.loc 0 [] 0 0∧st.mem 32=some (itr (ordK s k).2)∧st.mem 0=some ((ordK s k).1.pt)) (n) ?_ ?_
 ·simp -dsimp -implicitDefEqProofs (disch:=first|omega|(simp only [lenr];try omega)) only [↓amPre,↓reduceIte,reduceCtorEq,reduceEqDiff,Nat.reduceBEq,reduceAdd,reduceLeDiff,reduceSub,reduceMul,reduceToNat,MM,bu0,cbP2,ren_eq]
  simp [ordK]
 rintro k st _ ⟨hk,f6,f1,f5,f0,m32,m0⟩
 have ho:=ordK_ok s h k (by omega)
 by_cases hlt:k<n
 ·obtain ⟨q1,q2,q3,q4,_⟩:=belowF (ordK s k).1 (k+1) ho.1 (by unfold intOk;omega)
  have q4:=q4 (by omega)
  have hs:ordK s (k+1)=(bS (ordK s k).1 (k+1),(ordK s k).2.take (bX (ordK s k).1 (k+1)).toNat++[(k:Int)]++(ordK s k).2.drop (bX (ordK s k).1 (k+1)).toNat):=rfl
  obtain ⟨m,hm⟩:∃ m:Nat,bX (ordK s k).1 (k+1)=m:=⟨_,(Int.toNat_of_nonneg q3).symm⟩
  rw [hm] at q1 hs q4
  rw [Int.toNat_natCast] at hs
  generalize bS (ordK s k).1 (k+1)=s2 at q1 q2 hs
  obtain ⟨ho1,ho2⟩:=ho
  generalize (ordK s k).1=s1 at q1 ho1 m0
  generalize (ordK s k).2=L at hs ho2 m32
  simp -dsimp -implicitDefEqProofs (disch:=first|omega|(simp only [lenr];try omega)) only [↓amPre,↓reduceIte,reduceCtorEq,reduceEqDiff,Nat.reduceBEq,reduceAdd,reduceLeDiff,reduceSub,reduceMul,reduceToNat,MM,bu0,cbP2,f6,f1,f5,f0,m32,m0,ho2]
  refine callX_of (q1) ?_
  have hmk:m - 0≤k:=by omega
  have hbl:AV.bearsL (L.map AV.i64)=false:=ints_bears L
  have hT:List.take (m - 0) (List.drop 0 (L.map AV.i64))=(L.take m).map AV.i64:=by simp
  have hlm:(L.take m).length≤20:=by rw [List.length_take];omega
  simp -dsimp -implicitDefEqProofs (disch:=first|omega|(simp only [lenr];try omega)) only [↓amPre,↓reduceIte,reduceCtorEq,reduceEqDiff,Nat.reduceBEq,reduceAdd,reduceLeDiff,reduceSub,reduceMul,reduceToNat,MM,bu0,cbP2,f6,f1,f5,f0,m32,m0,ho2,hmk,hbl,hT,grabL_ints]
  refine ⟨hlt,hlt,?_,?_,?_⟩
  ·have:(List.take (m - 0) L).length+1+(List.drop m L).length=k+1:=by
    rw [List.length_take,List.length_drop];omega
   rw [this]
  ·rw [hs,Nat.sub_zero]
   simp only [itr,List.map_append]
  ·rw [hs]
 ·have hke:k=n:=by omega
  subst hke
  simp -dsimp -implicitDefEqProofs (disch:=first|omega|(simp only [lenr];try omega)) only [↓amPre,↓reduceIte,reduceCtorEq,reduceEqDiff,Nat.reduceBEq,reduceAdd,reduceLeDiff,reduceSub,reduceMul,reduceToNat,MM,bu0,cbP2,f6,f1,f5,f0,m32,m0,ho.2]
end Draws
end Go.AM
namespace Go.AM
/-! words of scrambles,plainly -/
def nextR (x:Int):Int:=(48271*(if x.tmod 2147483647<0 then x.tmod 2147483647+2147483647 else x.tmod 2147483647)+11).tmod 2147483647
def rndK (x:Int):Nat→Int
 | 0=>x
 | k+1=>nextR (rndK x k)
def letL:Nat→List Int
 | 0=>[]
 | k+1=>letL k++[(k:Int)+1,-((k:Int)+1)]
def lastW (w:List Int):Int:=w.getD (w.length - 1) 0
def cndL (n:Nat) (w:List Int):List Int:=if w≠[]∧1<n then (letL n).filter (fun x=>!decide (sameI x (lastW w))) else letL n
def cndB (n:Nat) (w:List Int) (k:Nat):Prop:=n=1∨w=[]∨genI (lastW w)≠k
instance (n:Nat) (w:List Int) (k:Nat):Decidable (cndB n w k):=by unfold cndB;infer_instance
def cndS (n:Nat) (w:List Int):Nat→List Int
 | 0=>[]
 | k+1=>if cndB n w k then cndS n w k++[(k:Int)+1,-(k:Int) - 1] else cndS n w k
def scrW (n:Nat) (x:Int):Nat→List Int
 | 0=>[]
 | k+1=>scrW n x k++[(cndL n (scrW n x k)).getD ((rndK x (k+1)).tmod (cndL n (scrW n x k)).length).toNat 0]
end Go.AM
namespace Go.AM
/-! a permutation of the facelets as a piece state -/
def pAt (p:List Int) (b o i:Nat):Int:=p.getD (b+i*o) 0 - b
def ctL (p:List Int) (b o n:Nat):List Int:=(List.range n).map fun i=>(pAt p b o i).tdiv o
def cbL (p:List Int) (b o n:Nat):List Int:=(List.range n).map fun i=>(pAt p b o i).tmod o
def candT (ks:List Kind) (p:List Int) (k:Nat):Twist :=
 ⟨ctL p (facets (ks.take k)).toNat (ks.getD k default).o.toNat (ks.getD k default).c.toNat,cbL p (facets (ks.take k)).toNat (ks.getD k default).o.toNat (ks.getD k default).c.toNat⟩
def candL (ks:List Kind) (p:List Int) (n:Nat):List Twist:=(List.range n).map (candT ks p)
def ptpOk (ks:List Kind) (p:List Int):Prop:=kindsOk ks∧(p.length:Int)=facets ks∧psOk ks (candL ks p ks.length)∧permOf ks (candL ks p ks.length)=p
instance (ks:List Kind) (p:List Int):Decidable (ptpOk ks p):=by unfold ptpOk;infer_instance
def ptpR (ks:List Kind) (p:List Int):List Twist:=if ptpOk ks p then candL ks p ks.length else []
end Go.AM
set_option maxRecDepth 8000
namespace Go.AM
open Go.Proofs
def cpL (a b:List Int) (k:Nat):List Int:=(List.range k).map fun i=>b.getD (a.getD i 0).toNat 0
def cpR (a b:List Int):AV:=if isPerm a∧isPerm b∧a.length=b.length then .tup [itr (cpL a b a.length),.bl true] else .tup [.tr 1 [],.bl false]
def ivL (p:List Int):Nat→List Int
 | 0=>List.replicate p.length 0
 | k+1=>(ivL p k).set (p.getD k 0).toNat (k:Int)
end Go.AM
namespace Go.AM
/-! the permutation of a composite,and of an inverse,of piece states -/
def bas (ks:List Kind) (n:Nat):Nat:=(facets (ks.take n)).toNat
end Go.AM
set_option maxRecDepth 8000
namespace Go.AM
open Go.Proofs
def consM (m:Model) (i:Invar):Prop:=modelOk m∧∀ s∈m.mv,invV m.ks s i=0
instance (m:Model) (i:Invar):Decidable (consM m i):=by unfold consM;infer_instance
def trivK (ks:List Kind) (set:Int):Nat→Bool
 | 0=>true
 | k+1=>trivK ks set k && !(bitK set k && decide (1<(ks.getD k default).c))
def trivI (ks:List Kind) (i:Invar):Bool:=if i.k=1 then decide ((ks.getD i.s.toNat default).o=1) else trivK ks i.s ks.length
end Go.AM
set_option maxRecDepth 8000
namespace Go.AM
open Go.Proofs
def keepI (m:Model) (i:Invar):Bool:=!trivI m.ks i && decide (consM m i)
def allI (ks:List Kind):List Invar:=twL ks.length++paL (2 ^ ks.length - 1)
def consL (m:Model):List Invar:=(allI m.ks).filter (keepI m)
def consR (m:Model):List Invar:=if modelOk m then consL m else []
end Go.AM
set_option maxRecDepth 8000
namespace Go.AM
open Go.Proofs
def vioO (m:Model) (s:List Twist):Option Invar:=if psOk m.ks s then (consR m).find? (fun i=>invV m.ks s i != 0) else none
def vioR (o:Option Invar):AV:=match o with | some i=>.tup [i.av,.bl true] | none=>.tup [(⟨0,0⟩:Invar).av,.bl false]
end Go.AM
namespace Go.AM
/-! keys of states: their bytes -/
def skey (s:List Int):ByteArray:=pushB s
def smallE (s:List Int):Prop:=∀ x∈s,0≤x∧x<256
open Classical in
noncomputable def seenM (S:List (List Int)):Value→Option Value:=fun v=>if ∃ s∈S,v=.string (skey s) then some (.bool true) else none
def ixK (L:List (List Int)) (s:List Int):Int:=if s∈L then (L.idxOf s:Nat) else -1
end Go.AM
set_option maxRecDepth 8000
namespace Go.AM
namespace Draws
open Go.Proofs
noncomputable def byK (s:Src) (o:Int):Nat→Src×List Int
 | 0=>(s,[])
 | k+1=>(bS (byK s o k).1 o,(byK s o k).2++[bX (byK s o k).1 o])
theorem byK_ok (s:Src) (o:Int) (h:s.ok) (ho:intOk o):∀ k,(byK s o k).1.ok∧(byK s o k).2.length=k
 | 0=>⟨h,rfl⟩
 | k+1=>by
  have ih:=byK_ok s o h ho k
  exact ⟨(belowF _ o ih.1 ho).2.1,by simp only [byK,List.length_append,List.length_singleton,ih.2]⟩
noncomputable def dsK (s:Src) (ks:List Kind):Nat→Src×List Twist
 | 0=>(s,[])
 | k+1=>((byK (ordK (dsK s ks k).1 (ks.getD k default).c.toNat).1 (ks.getD k default).o (ks.getD k default).c.toNat).1,(dsK s ks k).2++[⟨(ordK (dsK s ks k).1 (ks.getD k default).c.toNat).2,(byK (ordK (dsK s ks k).1 (ks.getD k default).c.toNat).1 (ks.getD k default).o (ks.getD k default).c.toNat).2⟩])
theorem dsK_ok (s:Src) (ks:List Kind) (h:s.ok) (hk:kindsOk ks):∀ k,k≤ks.length→(dsK s ks k).1.ok∧(dsK s ks k).2.length=k
 | 0,_=>⟨h,rfl⟩
 | k+1,hlt=>by
  have ih:=dsK_ok s ks h hk k (by omega)
  obtain ⟨c1,c2,o1,o2,_⟩:=kindsOk_kind hk (mem_getD ks k default (by omega))
  have h1:=ordK_ok (dsK s ks k).1 ih.1 (ks.getD k default).c.toNat (by omega)
  exact ⟨(byK_ok _ _ h1.1 (by unfold intOk;omega) _).1,by simp only [dsK,List.length_append,List.length_singleton,ih.2]⟩
theorem drawState (s:Src) (ks:List Kind) (h:s.ok) (hkk:kindsOk ks):SpecX Tryz.prog 92 [s.pt,ktr ks] [some (dsK s ks ks.length).1.pt,some (ktr ks)] (ttr (dsK s ks ks.length).2):=by
 have hl3:=hkk.1.2
 refine spec_of_awp_any (M:=MM) (np:=2) (X:=[9]) (fz:=false) mixed Tryz.func92 rfl rfl (by decide) rfl (Nat.le_refl _) (by decide +kernel) (.inl rfl) (by simp only [sigsOk_some,sigsOk_nil,and_true];rfl) ?_
 simp -dsimp -implicitDefEqProofs (disch:=first|omega|(simp only [lenr];try omega)) only [↓amPre,↓reduceIte,reduceCtorEq,reduceEqDiff,Nat.reduceBEq,reduceAdd,reduceLeDiff,reduceSub,reduceMul,reduceToNat,MM,bu0,cbP2]
 refine awp_loopR 9 48 (.tr 2 []) (by simp -dsimp -implicitDefEqProofs (disch:=first|omega|(simp only [lenr];try omega)) only [↓amPre,↓reduceIte,reduceCtorEq,reduceEqDiff,Nat.reduceBEq,reduceAdd,reduceLeDiff,reduceSub,reduceMul,reduceToNat,MM,bu0,cbP2]) (by decide) (by decide) (by decide) (fun k st=>k≤ks.length∧st.fr 6=.i64 k∧st.fr 1=.ref 1 [] 2 0 ks.length∧st.fr 5=.ref 48 [] 2 0 k∧st.fr 0=.loc 0 [] 0 0∧st.mem 48=some (ttr (dsK s ks k).2)∧st.mem 0=some ((dsK s ks k).1.pt)∧st.mem 1=some (ktr ks)) (ks.length) ?_ ?_
 ·simp -dsimp -implicitDefEqProofs (disch:=first|omega|(simp only [lenr];try omega)) only [↓amPre,↓reduceIte,reduceCtorEq,reduceEqDiff,Nat.reduceBEq,reduceAdd,reduceLeDiff,reduceSub,reduceMul,reduceToNat,MM,bu0,cbP2,ren_eq]
  simp [dsK]
 rintro k st _ ⟨hk,f6,f1,f5,f0,m48,m0,m1⟩
 have ho:=dsK_ok s ks h hkk k (by omega)
 have hds:dsK s ks (k+1)=_:=rfl
 conv at hds=>rhs;rw [dsK]
 by_cases hlt:k<ks.length
 ·obtain ⟨c1,c2,o1,o2,_⟩:=kindsOk_kind hkk (mem_getD ks k default hlt)
  obtain ⟨c,hc⟩:∃ c:Nat,(ks.getD k default).c=c:=⟨(ks.getD k default).c.toNat,by omega⟩
  rw [hc,Int.toNat_natCast] at hds
  have hor:=ordK_ok (dsK s ks k).1 ho.1 c (by omega)
  have hdo:=drawOrder (dsK s ks k).1 c ho.1 (by omega)
  have hby:=byK_ok (ordK (dsK s ks k).1 c).1 (ks.getD k default).o hor.1 (by unfold intOk;omega)
  generalize hT:(dsK s ks k).2=T at hds ho m48
  generalize hS:(dsK s ks k).1=S at hds ho m0 hdo hor hby
  generalize hS1:(ordK S c).1=S1 at hds hdo hor hby
  generalize hL:(ordK S c).2=L at hds hdo hor
  simp -dsimp -implicitDefEqProofs (disch:=first|omega|(simp only [lenr];try omega)) only [↓amPre,↓reduceIte,reduceCtorEq,reduceEqDiff,Nat.reduceBEq,reduceAdd,reduceLeDiff,reduceSub,reduceMul,reduceToNat,MM,bu0,cbP2,f6,f1,f5,f0,m48,m0,m1,hc,ho.2]
  refine callX_of (hdo) ?_
  simp -dsimp -implicitDefEqProofs (disch:=first|omega|(simp only [lenr];try omega)) only [↓amPre,↓reduceIte,reduceCtorEq,reduceEqDiff,Nat.reduceBEq,reduceAdd,reduceLeDiff,reduceSub,reduceMul,reduceToNat,MM,bu0,cbP2,f6,f1,f5,f0,m48,m0,m1,hc,ho.2]
  refine awp_loopC 7 1 2 1 [itr L,.nilsl] (by simp -dsimp -implicitDefEqProofs (disch:=first|omega|(simp only [lenr];try omega)) only [↓amPre,↓reduceIte,reduceCtorEq,reduceEqDiff,Nat.reduceBEq,reduceAdd,reduceLeDiff,reduceSub,reduceMul,reduceToNat,MM,bu0,cbP2,f6,f1,f5,f0,m48,m0,m1]) (by simp) (by simp) (fun i st=>i≤c∧st.fr 8=.i64 i∧st.fr 7=.loc 7 [] 0 0∧st.fr 6=.i64 k∧st.fr 1=.ref 1 [] 2 0 ks.length∧st.fr 5=.ref 48 [] 2 0 k∧st.fr 0=.loc 0 [] 0 0∧st.mem 48=some (ttr T)∧st.mem 7=some (.pt 2 (.agg [itr L,itr (byK S1 (ks.getD k default).o i).2]))∧st.mem 0=some ((byK S1 (ks.getD k default).o i).1.pt)∧st.mem 1=some (ktr ks)) (c) ?_ ?_
  ·simp -dsimp -implicitDefEqProofs (disch:=first|omega|(simp only [lenr];try omega)) only [↓amPre,↓reduceIte,reduceCtorEq,reduceEqDiff,Nat.reduceBEq,reduceAdd,reduceLeDiff,reduceSub,reduceMul,reduceToNat,MM,bu0,cbP2,nilC_eq,f6,f1,f5,f0,m48,m0,m1]
   simp [byK]
  rintro i st _ ⟨hi,f8,f7,f6,f1,f5,f0,m48,m7,m0,m1⟩
  have hbi:=hby i
  have hb1:byK S1 (ks.getD k default).o (i+1)=_:=rfl
  conv at hb1=>rhs;rw [byK]
  by_cases hlt':i<c
  ·have hbf:=belowF (byK S1 (ks.getD k default).o i).1 (ks.getD k default).o hbi.1 (by unfold intOk;omega)
   generalize bS (byK S1 (ks.getD k default).o i).1 (ks.getD k default).o=S2 at hb1 hbf
   generalize bX (byK S1 (ks.getD k default).o i).1 (ks.getD k default).o=x at hb1 hbf
   have hlen:(byK S1 (ks.getD k default).o i).2.length≤1099511627775:=by omega
   simp -dsimp -implicitDefEqProofs (disch:=first|omega|(simp only [lenr];try omega)) only [↓amPre,↓reduceIte,reduceCtorEq,reduceEqDiff,Nat.reduceBEq,reduceAdd,reduceLeDiff,reduceSub,reduceMul,reduceToNat,MM,bu0,cbP2,f8,f7,f6,f1,f5,f0,m48,m7,m0,m1,hc,hbi.2]
   refine piv_go 10 8 0 (by decide +kernel) ?_
   simp -dsimp -implicitDefEqProofs (disch:=first|omega|(simp only [lenr];try omega)) only [↓amPre,↓reduceIte,reduceCtorEq,reduceEqDiff,Nat.reduceBEq,reduceAdd,reduceLeDiff,reduceSub,reduceMul,reduceToNat,MM,bu0,cbP2,f8,f7,f6,f1,f5,f0,m48,m7,m0,m1,hc,hbi.2]
   refine pvX_of (hbf.1) ?_
   simp -dsimp -implicitDefEqProofs (disch:=first|omega|(simp only [lenr];try omega)) only [↓amPre,↓reduceIte,reduceCtorEq,reduceEqDiff,Nat.reduceBEq,reduceAdd,reduceLeDiff,reduceSub,reduceMul,reduceToNat,MM,bu0,cbP2,f8,f7,f6,f1,f5,f0,m48,m7,m0,m1,hc,hbi.2,hb1]
   repeat' (first|omega|rfl|exact i64c (by omega)|exact vic (by omega)|apply ai)
  ·have hie:i=c:=by omega
   subst hie
   simp -dsimp -implicitDefEqProofs (disch:=first|omega|(simp only [lenr];try omega)) only [↓amPre,↓reduceIte,reduceCtorEq,reduceEqDiff,Nat.reduceBEq,reduceAdd,reduceLeDiff,reduceSub,reduceMul,reduceToNat,MM,bu0,cbP2,f8,f7,f6,f1,f5,f0,m48,m7,m0,m1,hc,ho.2,hds]
   repeat' (first|omega|rfl|exact i64c (by omega)|exact vic (by omega)|apply ai)
 ·have hke:k=ks.length:=by omega
  subst hke
  simp -dsimp -implicitDefEqProofs (disch:=first|omega|(simp only [lenr];try omega)) only [↓amPre,↓reduceIte,reduceCtorEq,reduceEqDiff,Nat.reduceBEq,reduceAdd,reduceLeDiff,reduceSub,reduceMul,reduceToNat,MM,bu0,cbP2,f6,f1,f5,f0,m48,m0,m1,ho.2]
end Draws
end Go.AM
set_option maxRecDepth 8000
namespace Go.AM
namespace Draws
open Go.Proofs
theorem getD_snoc {α:Type} (l:List α) (x:α) (i:Nat) (d:α):(l++[x]).getD i d=if i<l.length then l.getD i d else if i=l.length then x else d:=by
 simp only [List.getD,List.getElem?_append]
 by_cases h:i<l.length
 ·simp [h]
 ·by_cases h2:i=l.length
  ·subst h2;simp
  ·have h3:i - l.length≠0:=by omega
   simp [h,h2]
   rw [List.getElem?_eq_none (by simp;omega)];rfl
theorem dsK_get (s:Src) (ks:List Kind) (h:s.ok) (hk:kindsOk ks):∀ k,k≤ks.length→∀ i,i<k→((dsK s ks k).2.getD i default).to.length=(ks.getD i default).c.toNat∧((dsK s ks k).2.getD i default).by'.length=(ks.getD i default).c.toNat
 | 0,_,i,hi=>by omega
 | k+1,hlt,i,hi=>by
  have ih:=dsK_ok s ks h hk k (by omega)
  rw [dsK]
  simp only
  rw [getD_snoc,ih.2]
  obtain ⟨c1,c2,o1,o2,_⟩:=kindsOk_kind hk (mem_getD ks k default (by omega))
  by_cases h1:i<k
  ·rw [if_pos h1];exact dsK_get s ks h hk k (by omega) i h1
  ·have h2:i=k:=by omega
   subst h2
   rw [if_neg (by omega),if_pos rfl]
   have h3:=ordK_ok (dsK s ks i).1 ih.1 (ks.getD i default).c.toNat (by omega)
   exact ⟨h3.2,(byK_ok _ _ h3.1 (by unfold intOk;omega) _).2⟩
def anyOk (ks:List Kind) (tw:List Twist):Prop:=ks.length≤5∧fewT tw
theorem list_cons {α:Type}:∀ (l:List α),1≤l.length→∃ a r,l=a :: r
 | a :: r,_=>⟨a,r,rfl⟩
end Draws
end Go.AM
set_option maxRecDepth 8000
namespace Go.AM
namespace Draws
open Go.Proofs
noncomputable def mdK (s:Src) (ks:List Kind):Nat→Src×List (List Twist)
 | 0=>(s,[])
 | k+1=>((dsK (mdK s ks k).1 ks ks.length).1,(mdK s ks k).2++[(dsK (mdK s ks k).1 ks ks.length).2])
def twOk (ks:List Kind) (tw:List Twist):Prop:=tw.length=ks.length∧∀ i,i<ks.length→(tw.getD i default).to.length=(ks.getD i default).c.toNat∧(tw.getD i default).by'.length=(ks.getD i default).c.toNat
theorem mdK_ok (s:Src) (ks:List Kind) (h:s.ok) (hk:kindsOk ks):∀ k,(mdK s ks k).1.ok∧(mdK s ks k).2.length=k∧∀ tw∈(mdK s ks k).2,twOk ks tw
 | 0=>⟨h,rfl,fun tw ht=>by cases ht⟩
 | k+1=>by
  obtain ⟨h1,h2,h3⟩:=mdK_ok s ks h hk k
  have h4:=dsK_ok (mdK s ks k).1 ks h1 hk ks.length (Nat.le_refl _)
  have h5:=dsK_get (mdK s ks k).1 ks h1 hk ks.length (Nat.le_refl _)
  refine ⟨h4.1,by simp only [mdK,List.length_append,List.length_singleton,h2],fun tw ht=>?_⟩
  simp only [mdK,List.mem_append,List.mem_singleton] at ht
  rcases ht with ht | rfl
  ·exact h3 tw ht
  ·exact ⟨h4.2,fun i hi=>h5 i hi⟩
def mdOk (m:Model):Prop:=kindsOk m.ks∧m.nm.length≤3∧(1≤m.mv.length∧m.mv.length≤3)∧∀ tw∈m.mv,twOk m.ks tw
def treeM:OT:=(.alt 0 (.alt 1 (.alt 2 (.alt 3 (.alt 4 (.alt 5 (.alt 6 (.alt 7 (.alt 8 (.alt 9 .done .stop) .stop) .stop) .stop) .stop) .stop) .stop) (.alt 3 (.alt 2 (.alt 4 (.alt 5 (.alt 6 (.alt 7 (.alt 8 (.alt 9 .done .stop) .stop) .stop) .stop) .stop) .stop) (.alt 4 (.alt 2 (.alt 5 (.alt 6 (.alt 7 (.alt 8 (.alt 9 .done .stop) .stop) .stop) .stop) .stop) .stop) .stop)) .stop)) (.alt 2 (.alt 1 (.alt 3 (.alt 4 (.alt 5 (.alt 6 (.alt 7 (.alt 8 (.alt 9 .done .stop) .stop) .stop) .stop) .stop) .stop) .stop) (.alt 3 (.alt 1 (.alt 4 (.alt 5 (.alt 6 (.alt 7 (.alt 8 (.alt 9 .done .stop) .stop) .stop) .stop) .stop) .stop) (.alt 4 (.alt 1 (.alt 5 (.alt 6 (.alt 7 (.alt 8 (.alt 9 .done .stop) .stop) .stop) .stop) .stop) (.alt 5 (.alt 1 (.alt 6 (.alt 7 (.alt 8 (.alt 9 .done .stop) .stop) .stop) .stop) (.alt 6 (.alt 1 (.alt 7 (.alt 8 (.alt 9 .done .stop) .stop) .stop) .stop) .stop)) .stop)) .stop)) .stop)) (.alt 3 (.alt 1 (.alt 2 (.alt 4 (.alt 5 (.alt 6 (.alt 7 (.alt 8 (.alt 9 .done .stop) .stop) .stop) .stop) .stop) .stop) (.alt 4 (.alt 2 (.alt 5 (.alt 6 (.alt 7 (.alt 8 (.alt 9 .done .stop) .stop) .stop) .stop) .stop) .stop) .stop)) (.alt 2 (.alt 1 (.alt 4 (.alt 5 (.alt 6 (.alt 7 (.alt 8 (.alt 9 .done .stop) .stop) .stop) .stop) .stop) .stop) (.alt 4 (.alt 1 (.alt 5 (.alt 6 (.alt 7 (.alt 8 (.alt 9 .done .stop) .stop) .stop) .stop) .stop) (.alt 5 (.alt 1 (.alt 6 (.alt 7 (.alt 8 (.alt 9 .done .stop) .stop) .stop) .stop) (.alt 6 (.alt 1 (.alt 7 (.alt 8 (.alt 9 .done .stop) .stop) .stop) .stop) .stop)) .stop)) .stop)) (.alt 4 (.alt 1 (.alt 2 (.alt 5 (.alt 6 (.alt 7 (.alt 8 (.alt 9 .done .stop) .stop) .stop) .stop) .stop) .stop) (.alt 2 (.alt 1 (.alt 5 (.alt 6 (.alt 7 (.alt 8 (.alt 9 .done .stop) .stop) .stop) .stop) .stop) (.alt 5 (.alt 1 (.alt 6 (.alt 7 (.alt 8 (.alt 9 .done .stop) .stop) .stop) .stop) (.alt 6 (.alt 1 (.alt 7 (.alt 8 (.alt 9 .done .stop) .stop) .stop) .stop) .stop)) .stop)) .stop)) .stop))) .stop))) (.alt 2 (.alt 0 (.alt 1 (.alt 3 (.alt 4 (.alt 5 (.alt 6 (.alt 7 (.alt 8 (.alt 9 .done .stop) .stop) .stop) .stop) .stop) .stop) .stop) (.alt 3 (.alt 1 (.alt 4 (.alt 5 (.alt 6 (.alt 7 (.alt 8 (.alt 9 .done .stop) .stop) .stop) .stop) .stop) .stop) (.alt 4 (.alt 1 (.alt 5 (.alt 6 (.alt 7 (.alt 8 (.alt 9 .done .stop) .stop) .stop) .stop) .stop) (.alt 5 (.alt 1 (.alt 6 (.alt 7 (.alt 8 (.alt 9 .done .stop) .stop) .stop) .stop) (.alt 6 (.alt 1 (.alt 7 (.alt 8 (.alt 9 .done .stop) .stop) .stop) .stop) .stop)) .stop)) .stop)) .stop)) (.alt 3 (.alt 0 (.alt 1 (.alt 4 (.alt 5 (.alt 6 (.alt 7 (.alt 8 (.alt 9 .done .stop) .stop) .stop) .stop) .stop) .stop) (.alt 4 (.alt 1 (.alt 5 (.alt 6 (.alt 7 (.alt 8 (.alt 9 .done .stop) .stop) .stop) .stop) .stop) (.alt 5 (.alt 1 (.alt 6 (.alt 7 (.alt 8 (.alt 9 .done .stop) .stop) .stop) .stop) (.alt 6 (.alt 1 (.alt 7 (.alt 8 (.alt 9 .done .stop) .stop) .stop) .stop) .stop)) .stop)) .stop)) (.alt 4 (.alt 0 (.alt 1 (.alt 5 (.alt 6 (.alt 7 (.alt 8 (.alt 9 .done .stop) .stop) .stop) .stop) .stop) (.alt 5 (.alt 1 (.alt 6 (.alt 7 (.alt 8 (.alt 9 .done .stop) .stop) .stop) .stop) (.alt 6 (.alt 1 (.alt 7 (.alt 8 (.alt 9 .done .stop) .stop) .stop) .stop) .stop)) .stop)) (.alt 5 (.alt 0 (.alt 1 (.alt 6 (.alt 7 (.alt 8 (.alt 9 .done .stop) .stop) .stop) .stop) (.alt 6 (.alt 1 (.alt 7 (.alt 8 (.alt 9 .done .stop) .stop) .stop) .stop) .stop)) (.alt 6 (.alt 0 (.alt 1 (.alt 7 (.alt 8 (.alt 9 .done .stop) .stop) .stop) .stop) .stop) .stop)) .stop)) .stop)) .stop)) (.alt 3 (.alt 0 (.alt 1 (.alt 2 (.alt 4 (.alt 5 (.alt 6 (.alt 7 (.alt 8 (.alt 9 .done .stop) .stop) .stop) .stop) .stop) .stop) (.alt 4 (.alt 2 (.alt 5 (.alt 6 (.alt 7 (.alt 8 (.alt 9 .done .stop) .stop) .stop) .stop) .stop) .stop) .stop)) (.alt 2 (.alt 1 (.alt 4 (.alt 5 (.alt 6 (.alt 7 (.alt 8 (.alt 9 .done .stop) .stop) .stop) .stop) .stop) .stop) (.alt 4 (.alt 1 (.alt 5 (.alt 6 (.alt 7 (.alt 8 (.alt 9 .done .stop) .stop) .stop) .stop) .stop) (.alt 5 (.alt 1 (.alt 6 (.alt 7 (.alt 8 (.alt 9 .done .stop) .stop) .stop) .stop) (.alt 6 (.alt 1 (.alt 7 (.alt 8 (.alt 9 .done .stop) .stop) .stop) .stop) .stop)) .stop)) .stop)) (.alt 4 (.alt 1 (.alt 2 (.alt 5 (.alt 6 (.alt 7 (.alt 8 (.alt 9 .done .stop) .stop) .stop) .stop) .stop) .stop) (.alt 2 (.alt 1 (.alt 5 (.alt 6 (.alt 7 (.alt 8 (.alt 9 .done .stop) .stop) .stop) .stop) .stop) (.alt 5 (.alt 1 (.alt 6 (.alt 7 (.alt 8 (.alt 9 .done .stop) .stop) .stop) .stop) (.alt 6 (.alt 1 (.alt 7 (.alt 8 (.alt 9 .done .stop) .stop) .stop) .stop) .stop)) .stop)) .stop)) .stop))) (.alt 2 (.alt 0 (.alt 1 (.alt 4 (.alt 5 (.alt 6 (.alt 7 (.alt 8 (.alt 9 .done .stop) .stop) .stop) .stop) .stop) .stop) (.alt 4 (.alt 1 (.alt 5 (.alt 6 (.alt 7 (.alt 8 (.alt 9 .done .stop) .stop) .stop) .stop) .stop) (.alt 5 (.alt 1 (.alt 6 (.alt 7 (.alt 8 (.alt 9 .done .stop) .stop) .stop) .stop) (.alt 6 (.alt 1 (.alt 7 (.alt 8 (.alt 9 .done .stop) .stop) .stop) .stop) .stop)) .stop)) .stop)) (.alt 4 (.alt 0 (.alt 1 (.alt 5 (.alt 6 (.alt 7 (.alt 8 (.alt 9 .done .stop) .stop) .stop) .stop) .stop) (.alt 5 (.alt 1 (.alt 6 (.alt 7 (.alt 8 (.alt 9 .done .stop) .stop) .stop) .stop) (.alt 6 (.alt 1 (.alt 7 (.alt 8 (.alt 9 .done .stop) .stop) .stop) .stop) .stop)) .stop)) (.alt 5 (.alt 0 (.alt 1 (.alt 6 (.alt 7 (.alt 8 (.alt 9 .done .stop) .stop) .stop) .stop) (.alt 6 (.alt 1 (.alt 7 (.alt 8 (.alt 9 .done .stop) .stop) .stop) .stop) .stop)) (.alt 6 (.alt 0 (.alt 1 (.alt 7 (.alt 8 (.alt 9 .done .stop) .stop) .stop) .stop) .stop) .stop)) .stop)) .stop)) (.alt 4 (.alt 0 (.alt 1 (.alt 2 (.alt 5 (.alt 6 (.alt 7 (.alt 8 (.alt 9 .done .stop) .stop) .stop) .stop) .stop) .stop) (.alt 2 (.alt 1 (.alt 5 (.alt 6 (.alt 7 (.alt 8 (.alt 9 .done .stop) .stop) .stop) .stop) .stop) (.alt 5 (.alt 1 (.alt 6 (.alt 7 (.alt 8 (.alt 9 .done .stop) .stop) .stop) .stop) (.alt 6 (.alt 1 (.alt 7 (.alt 8 (.alt 9 .done .stop) .stop) .stop) .stop) .stop)) .stop)) .stop)) (.alt 2 (.alt 0 (.alt 1 (.alt 5 (.alt 6 (.alt 7 (.alt 8 (.alt 9 .done .stop) .stop) .stop) .stop) .stop) (.alt 5 (.alt 1 (.alt 6 (.alt 7 (.alt 8 (.alt 9 .done .stop) .stop) .stop) .stop) (.alt 6 (.alt 1 (.alt 7 (.alt 8 (.alt 9 .done .stop) .stop) .stop) .stop) .stop)) .stop)) (.alt 5 (.alt 0 (.alt 1 (.alt 6 (.alt 7 (.alt 8 (.alt 9 .done .stop) .stop) .stop) .stop) (.alt 6 (.alt 1 (.alt 7 (.alt 8 (.alt 9 .done .stop) .stop) .stop) .stop) .stop)) (.alt 6 (.alt 0 (.alt 1 (.alt 7 (.alt 8 (.alt 9 .done .stop) .stop) .stop) .stop) .stop) .stop)) .stop)) .stop)) .stop))) .stop)))
set_option maxHeartbeats 4000000 in
theorem drawModel (s:Src) (h:s.ok):∃ (s':Src) (m:Model),SpecX Tryz.prog 66 [s.pt] [some s'.pt] m.tr∧s'.ok∧mdOk m:=by
 obtain ⟨s1,ks,q1,k1,hks⟩:=drawKinds s h
 obtain ⟨s2,x2,q2,k2,b1,b2,_⟩:=below s1 3 k1 (by unfold intOk;omega)
 have b2:=b2 (by omega)
 obtain ⟨n0,hn⟩:∃ n:Nat,x2=n:=⟨_,(Int.toNat_of_nonneg b1).symm⟩
 subst hn
 obtain ⟨n,hn⟩:∃ n:Nat,n=1+n0:=⟨_,rfl⟩
 have hn1:(1:Int)+n0=n:=by omega
 have hn3:n≤3:=by omega
 have hmd:=mdK_ok s2 ks k2 hks
 have hml:=(hmd n).2.1
 refine ⟨(mdK s2 ks n).1,⟨ks,([65,66,67]:List UInt8).take n,(mdK s2 ks n).2⟩,?_,(hmd n).1,hks,by simp;omega,by simp only [hml];omega,(hmd n).2.2⟩
 refine spec_of_awp_any (M:=MM) (np:=1) (X:=[7]) (fz:=false) mixed Tryz.func66 rfl rfl (by decide) rfl (Nat.le_refl _) (by decide +kernel) (.inl rfl) (by simp only [sigsOk_some,sigsOk_nil,and_true];rfl) ?_
 simp -dsimp -implicitDefEqProofs (disch:=first|omega|(simp only [lenr];try omega)) only [↓amPre,↓reduceIte,reduceCtorEq,reduceEqDiff,Nat.reduceBEq,reduceAdd,reduceLeDiff,reduceSub,reduceMul,reduceToNat,MM,bu0,cbP3]
 refine callX_of (q1) ?_
 simp -dsimp -implicitDefEqProofs (disch:=first|omega|(simp only [lenr];try omega)) only [↓amPre,↓reduceIte,reduceCtorEq,reduceEqDiff,Nat.reduceBEq,reduceAdd,reduceLeDiff,reduceSub,reduceMul,reduceToNat,MM,bu0,cbP3]
 refine callX_of (q2) ?_
 simp -dsimp -implicitDefEqProofs (disch:=first|omega|(simp only [lenr];try omega)) only [↓amPre,↓reduceIte,reduceCtorEq,reduceEqDiff,Nat.reduceBEq,reduceAdd,reduceLeDiff,reduceSub,reduceMul,reduceToNat,MM,bu0,cbP3,hn1]
 refine awp_loopC 3 2 3 1 [ktr ks,.st (([65,66,67]:List UInt8).take n),.nilsl] (by simp -dsimp -implicitDefEqProofs (disch:=first|omega|(simp only [lenr];try omega)) only [↓amPre,↓reduceIte,reduceCtorEq,reduceEqDiff,Nat.reduceBEq,reduceAdd,reduceLeDiff,reduceSub,reduceMul,reduceToNat,MM,bu0,cbP3]) (by simp) (by simp) (fun k st=>k≤n∧st.fr 5=.i64 k∧st.fr 4=.i64 n∧st.fr 3=.loc 3 [] 0 0∧st.fr 2=.loc 2 [] 0 0∧st.fr 0=.loc 0 [] 0 0∧st.mem 3=some (.pt 3 (.agg [ktr ks,.st (([65,66,67]:List UInt8).take n),tsst (mdK s2 ks k).2]))∧st.mem 0=some ((mdK s2 ks k).1.pt)∧st.mem 2=some (.pt 3 (.agg [.nilsl,.st [],.nilsl]))) (n) ?_ ?_
 ·simp -dsimp -implicitDefEqProofs (disch:=first|omega|(simp only [lenr];try omega)) only [↓amPre,↓reduceIte,reduceCtorEq,reduceEqDiff,Nat.reduceBEq,reduceAdd,reduceLeDiff,reduceSub,reduceMul,reduceToNat,MM,bu0,cbP3,nilC_eq]
  simp [mdK]
 rintro k st _ ⟨hk,f5,f4,f3,f2,f0,m3,m0,m2⟩
 obtain ⟨k3,hl3,_⟩:=hmd k
 by_cases hlt:k<n
 ·have hds:=drawState (mdK s2 ks k).1 ks k3 hks
  have hst:mdK s2 ks (k+1)=((dsK (mdK s2 ks k).1 ks ks.length).1,(mdK s2 ks k).2++[(dsK (mdK s2 ks k).1 ks ks.length).2]):=rfl
  rw [hst]
  generalize (dsK (mdK s2 ks k).1 ks ks.length).1=S3 at hds
  generalize (dsK (mdK s2 ks k).1 ks ks.length).2=TW at hds
  generalize (mdK s2 ks k).2=L at *
  generalize (mdK s2 ks k).1=S2 at *
  simp -dsimp -implicitDefEqProofs (disch:=first|omega|(simp only [lenr];try omega)) only [↓amPre,↓reduceIte,reduceCtorEq,reduceEqDiff,Nat.reduceBEq,reduceAdd,reduceLeDiff,reduceSub,reduceMul,reduceToNat,MM,bu0,cbP3,f5,f4,f3,f2,f0,m3,m0,m2]
  refine any_go treeM (fun st'=>st'.fr 5=.i64 k∧st'.fr 4=.i64 n∧st'.fr 3=.loc 3 [] 0 0∧st'.fr 2=.loc 2 [] 0 0∧st'.fr 0=.loc 0 [] 0 0∧st'.mem 3=some (.pt 3 (.agg [ktr ks,.st (([65,66,67]:List UInt8).take n),tsst (L++[TW])]))∧st'.mem 0=some S3.pt∧st'.mem 2=some (.pt 3 (.agg [.nilsl,.st [],.nilsl]))) (by decide +kernel) ?_ ?_
  ·simp (maxSteps:=4000000) -dsimp -implicitDefEqProofs (disch:=first|omega|(simp only [lenr];try omega)) only [↓amPre,↓reduceIte,reduceCtorEq,reduceEqDiff,Nat.reduceBEq,reduceAdd,reduceLeDiff,reduceSub,reduceMul,reduceToNat,MM,bu0,cbP3,f5,f4,f3,f2,f0,m3,m0,m2,treeM]
   repeat' apply And.intro
   all_goals refine callX_of hds ?_
   all_goals simp (maxSteps:=4000000) -dsimp -implicitDefEqProofs (disch:=first|omega|(simp only [lenr];try omega)) only [↓amPre,↓reduceIte,reduceCtorEq,reduceEqDiff,Nat.reduceBEq,reduceAdd,reduceLeDiff,reduceSub,reduceMul,reduceToNat,MM,bu0,cbP3,f5,f4,f3,f2,f0,m3,m0,m2]
  ·rintro st' ⟨g5,g4,g3,g2,g0,m3',m0',m2'⟩
   simp -dsimp -implicitDefEqProofs (disch:=first|omega|(simp only [lenr];try omega)) only [↓amPre,↓reduceIte,reduceCtorEq,reduceEqDiff,Nat.reduceBEq,reduceAdd,reduceLeDiff,reduceSub,reduceMul,reduceToNat,MM,bu0,cbP3,g5,g4,g3,g2,g0,m3',m0',m2']
   repeat' (first|omega|rfl|exact i64c (by omega)|exact vic (by omega)|apply ai)
 ·have hke:k=n:=by omega
  subst hke
  simp -dsimp -implicitDefEqProofs (disch:=first|omega|(simp only [lenr];try omega)) only [↓amPre,↓reduceIte,reduceCtorEq,reduceEqDiff,Nat.reduceBEq,reduceAdd,reduceLeDiff,reduceSub,reduceMul,reduceToNat,MM,bu0,cbP3,f5,f4,f3,f2,f0,m3,m0,m2]
def fewM (m:Model):Prop:=m.ks.length≤3∧m.nm.length≤5∧m.mv.length≤3∧∀ tw∈m.mv,fewT tw
theorem mdOk_few {m:Model} (h:mdOk m):fewM m:=⟨h.1.1.2,by have:=h.2.1;omega,h.2.2.1.2,fun tw ht=>by
 obtain ⟨h1,h2⟩:=h.2.2.2 tw ht
 refine fewT_of _ (by rw [h1];exact h.1.1.2) fun t htt=>?_
 obtain ⟨i,hi,rfl⟩:=List.getElem_of_mem htt
 have:=h2 i (by omega)
 rw [getD_eq _ _ _ hi] at this
 obtain ⟨c1,c2,o1,o2,_⟩:=kindsOk_kind h.1 (mem_getD m.ks i default (by omega))
 omega⟩
def nms5:List (List UInt8):=[[],[65,65],[97],[90,89,88,87,86],[65]]
theorem drawModelAny (s:Src) (h:s.ok):∃ (s':Src) (m:Model),SpecX Tryz.prog 79 [s.pt] [some s'.pt] m.tr∧s'.ok∧fewM m:=by
 obtain ⟨s1,m,q1,k1,hm⟩:=drawModel s h
 have hf:=mdOk_few hm
 obtain ⟨hks,hnm,hmv,htw⟩:=hm
 obtain ⟨s2,b,q2,k2⟩:=oneIn s1 8 k1 (by unfold intOk;omega)
 cases b with
 | false =>
  refine ⟨s2,m,?_,k2,hf⟩
  refine spec_of_awp (M:=MM) (np:=1) (fz:=false) mixed Tryz.func79 rfl rfl (by decide) rfl (Nat.le_refl _) (by decide +kernel) (.inl rfl) (by simp only [sigsOk_some,sigsOk_nil,and_true];rfl) ?_
  simp -dsimp -implicitDefEqProofs (disch:=first|omega|(simp only [lenr];try omega)) only [↓amPre,↓reduceIte,reduceCtorEq,reduceEqDiff,Nat.reduceBEq,reduceAdd,reduceLeDiff,reduceSub,reduceMul,reduceToNat,MM,bu0,cbP3]
  iterate 2 ((first|refine callX_of (q1) ?_|refine callX_of (q2) ?_);simp -dsimp -implicitDefEqProofs (disch:=first|omega|(simp only [lenr];try omega)) only [↓amPre,↓reduceIte,reduceCtorEq,reduceEqDiff,Nat.reduceBEq,reduceAdd,reduceLeDiff,reduceSub,reduceMul,reduceToNat,MM,bu0,cbP3])
 | true =>
 obtain ⟨s3,x3,q3,k3,b1,b2,_⟩:=below s2 5 k2 (by unfold intOk;omega)
 have b2:=b2 (by omega)
 obtain ⟨n,hn⟩:∃ n:Nat,x3=n:=⟨_,(Int.toNat_of_nonneg b1).symm⟩
 have hn5:n<5:=by omega
 subst hn
 obtain ⟨ks,nm,mv⟩:=m
 simp only at hks hnm hmv htw
 obtain ⟨⟨kc,ko⟩,kr,rfl⟩:=list_cons ks hks.1.1
 obtain ⟨tw0,mr,rfl⟩:=list_cons mv hmv.1
 obtain ⟨ht1,ht2⟩:=htw tw0 (List.mem_cons_self ..)
 obtain ⟨⟨t0,y0⟩,tr,rfl⟩:=list_cons tw0 (by rw [ht1];exact hks.1.1)
 have g0:=ht2 0 (by simp)
 obtain ⟨c1,c2,o1,o2,_⟩:=kindsOk_kind hks (show (⟨kc,ko⟩:Kind)∈_ from List.mem_cons_self ..)
 simp only [List.getD_cons_zero] at g0 c1 c2
 obtain ⟨d0,dr,rfl⟩:=list_cons y0 (by omega)
 obtain ⟨f1,f2,f3,f4⟩:=hf
 simp only at f1 f2 f3 f4
 match n,hn5 with
 | 0,_ =>
  obtain ⟨s4,x4,q4,k4,e1,e2,_⟩:=below s3 5 k3 (by unfold intOk;omega)
  have e2:=e2 (by omega)
  obtain ⟨j,hj⟩:∃ j:Nat,x4=j:=⟨_,(Int.toNat_of_nonneg e1).symm⟩
  have hj5:j<5:=by omega
  subst hj
  refine ⟨s4,⟨⟨kc,ko⟩ :: kr,nms5.getD j [],(⟨t0,d0 :: dr⟩ :: tr) :: mr⟩,?_,k4,f1,?_,f3,f4⟩
  ·refine spec_of_awp (M:=MM) (np:=1) (fz:=false) mixed Tryz.func79 rfl rfl (by decide) rfl (Nat.le_refl _) (by decide +kernel) (.inl rfl) (by simp only [sigsOk_some,sigsOk_nil,and_true];rfl) ?_
   simp -dsimp -implicitDefEqProofs (disch:=first|omega|(simp only [lenr];try omega)) only [↓amPre,↓reduceIte,reduceCtorEq,reduceEqDiff,Nat.reduceBEq,reduceAdd,reduceLeDiff,reduceSub,reduceMul,reduceToNat,MM,bu0,cbP3]
   iterate 3 ((first|refine callX_of (q1) ?_|refine callX_of (q2) ?_|refine callX_of (q3) ?_);simp -dsimp -implicitDefEqProofs (disch:=first|omega|(simp only [lenr];try omega)) only [↓amPre,↓reduceIte,reduceCtorEq,reduceEqDiff,Nat.reduceBEq,reduceAdd,reduceLeDiff,reduceSub,reduceMul,reduceToNat,MM,bu0,cbP3])
   refine callX_of (q4) ?_
   match j,hj5 with
   | 0,_ =>
    simp -dsimp -implicitDefEqProofs (disch:=first|omega|(simp only [lenr];try omega)) only [↓amPre,↓reduceIte,reduceCtorEq,reduceEqDiff,Nat.reduceBEq,reduceAdd,reduceLeDiff,reduceSub,reduceMul,reduceToNat,MM,bu0,cbP3,nms5]
   | 1,_ =>
    simp -dsimp -implicitDefEqProofs (disch:=first|omega|(simp only [lenr];try omega)) only [↓amPre,↓reduceIte,reduceCtorEq,reduceEqDiff,Nat.reduceBEq,reduceAdd,reduceLeDiff,reduceSub,reduceMul,reduceToNat,MM,bu0,cbP3,nms5]
   | 2,_ =>
    simp -dsimp -implicitDefEqProofs (disch:=first|omega|(simp only [lenr];try omega)) only [↓amPre,↓reduceIte,reduceCtorEq,reduceEqDiff,Nat.reduceBEq,reduceAdd,reduceLeDiff,reduceSub,reduceMul,reduceToNat,MM,bu0,cbP3,nms5]
   | 3,_ =>
    simp -dsimp -implicitDefEqProofs (disch:=first|omega|(simp only [lenr];try omega)) only [↓amPre,↓reduceIte,reduceCtorEq,reduceEqDiff,Nat.reduceBEq,reduceAdd,reduceLeDiff,reduceSub,reduceMul,reduceToNat,MM,bu0,cbP3,nms5]
   | 4,_ =>
    simp -dsimp -implicitDefEqProofs (disch:=first|omega|(simp only [lenr];try omega)) only [↓amPre,↓reduceIte,reduceCtorEq,reduceEqDiff,Nat.reduceBEq,reduceAdd,reduceLeDiff,reduceSub,reduceMul,reduceToNat,MM,bu0,cbP3,nms5]
  ·match j,hj5 with
   | 0,_ | 1,_ | 2,_ | 3,_ | 4,_=>simp [nms5]
 | 1,_ =>
  refine ⟨s3,⟨⟨kc,ko⟩ :: kr,nm,mr⟩,?_,k3,f1,f2,by simp only [List.length_cons] at f3 ⊢;omega,fun t ht=>f4 t (List.mem_cons_of_mem _ ht)⟩
  refine spec_of_awp (M:=MM) (np:=1) (fz:=false) mixed Tryz.func79 rfl rfl (by decide) rfl (Nat.le_refl _) (by decide +kernel) (.inl rfl) (by simp only [sigsOk_some,sigsOk_nil,and_true];rfl) ?_
  simp -dsimp -implicitDefEqProofs (disch:=first|omega|(simp only [lenr];try omega)) only [↓amPre,↓reduceIte,reduceCtorEq,reduceEqDiff,Nat.reduceBEq,reduceAdd,reduceLeDiff,reduceSub,reduceMul,reduceToNat,MM,bu0,cbP3]
  iterate 2 ((first|refine callX_of (q1) ?_|refine callX_of (q2) ?_);simp -dsimp -implicitDefEqProofs (disch:=first|omega|(simp only [lenr];try omega)) only [↓amPre,↓reduceIte,reduceCtorEq,reduceEqDiff,Nat.reduceBEq,reduceAdd,reduceLeDiff,reduceSub,reduceMul,reduceToNat,MM,bu0,cbP3])
  refine callX_of (q3) ?_
  simp -dsimp -implicitDefEqProofs (disch:=first|omega|(simp only [lenr];try omega)) only [↓amPre,↓reduceIte,reduceCtorEq,reduceEqDiff,Nat.reduceBEq,reduceAdd,reduceLeDiff,reduceSub,reduceMul,reduceToNat,MM,bu0,cbP3,pullR]
 | 2,_ =>
  obtain ⟨s4,x4,q4,k4,_⟩:=between s3 (-1) 3 k3 (by omega) (by omega) (by omega)
  refine ⟨s4,⟨⟨kc,ko⟩ :: kr,nm,(⟨t0,x4 :: dr⟩ :: tr) :: mr⟩,?_,k4,f1,f2,f3,fun t ht=>?_⟩
  ·refine spec_of_awp_any (M:=MM) (np:=1) (X:=[9,11]) (fz:=false) mixed Tryz.func79 rfl rfl (by decide) rfl (Nat.le_refl _) (by decide +kernel) (.inl rfl) (by simp only [sigsOk_some,sigsOk_nil,and_true];rfl) ?_
   simp -dsimp -implicitDefEqProofs (disch:=first|omega|(simp only [lenr];try omega)) only [↓amPre,↓reduceIte,reduceCtorEq,reduceEqDiff,Nat.reduceBEq,reduceAdd,reduceLeDiff,reduceSub,reduceMul,reduceToNat,MM,bu0,cbP3]
   iterate 3 ((first|refine callX_of (q1) ?_|refine callX_of (q2) ?_|refine callX_of (q3) ?_);simp -dsimp -implicitDefEqProofs (disch:=first|omega|(simp only [lenr];try omega)) only [↓amPre,↓reduceIte,reduceCtorEq,reduceEqDiff,Nat.reduceBEq,reduceAdd,reduceLeDiff,reduceSub,reduceMul,reduceToNat,MM,bu0,cbP3])
   refine piv_go 9 8 0 (by decide +kernel) ?_
   simp -dsimp -implicitDefEqProofs (disch:=first|omega|(simp only [lenr];try omega)) only [↓amPre,↓reduceIte,reduceCtorEq,reduceEqDiff,Nat.reduceBEq,reduceAdd,reduceLeDiff,reduceSub,reduceMul,reduceToNat,MM,bu0,cbP3,Twist.tr]
   refine pvX_of (q4) ?_
   simp -dsimp -implicitDefEqProofs (disch:=first|omega|(simp only [lenr];try omega)) only [↓amPre,↓reduceIte,reduceCtorEq,reduceEqDiff,Nat.reduceBEq,reduceAdd,reduceLeDiff,reduceSub,reduceMul,reduceToNat,MM,bu0,cbP3,Twist.tr]
   rfl
  ·rcases List.mem_cons.1 ht with rfl | ht
   ·have h0:=f4 _ (List.mem_cons_self ..)
    refine fewT_of _ h0.1 fun t ht=>?_
    rcases List.mem_cons.1 ht with rfl | ht
    ·exact h0.2.1 ⟨t0,d0 :: dr⟩ (List.mem_cons_self ..)
    ·exact h0.2.1 t (List.mem_cons_of_mem _ ht)
   ·exact f4 t (List.mem_cons_of_mem _ ht)
 | 3,_ =>
  obtain ⟨s4,x4,q4,k4,_⟩:=numberUpTo s3 5 k3 (by omega) (by omega)
  refine ⟨s4,⟨⟨x4,ko⟩ :: kr,nm,(⟨t0,d0 :: dr⟩ :: tr) :: mr⟩,?_,k4,f1,f2,f3,f4⟩
  refine spec_of_awp_any (M:=MM) (np:=1) (X:=[9,11]) (fz:=false) mixed Tryz.func79 rfl rfl (by decide) rfl (Nat.le_refl _) (by decide +kernel) (.inl rfl) (by simp only [sigsOk_some,sigsOk_nil,and_true];rfl) ?_
  simp -dsimp -implicitDefEqProofs (disch:=first|omega|(simp only [lenr];try omega)) only [↓amPre,↓reduceIte,reduceCtorEq,reduceEqDiff,Nat.reduceBEq,reduceAdd,reduceLeDiff,reduceSub,reduceMul,reduceToNat,MM,bu0,cbP3]
  iterate 3 ((first|refine callX_of (q1) ?_|refine callX_of (q2) ?_|refine callX_of (q3) ?_);simp -dsimp -implicitDefEqProofs (disch:=first|omega|(simp only [lenr];try omega)) only [↓amPre,↓reduceIte,reduceCtorEq,reduceEqDiff,Nat.reduceBEq,reduceAdd,reduceLeDiff,reduceSub,reduceMul,reduceToNat,MM,bu0,cbP3])
  refine piv_go 4 3 0 (by decide +kernel) ?_
  simp -dsimp -implicitDefEqProofs (disch:=first|omega|(simp only [lenr];try omega)) only [↓amPre,↓reduceIte,reduceCtorEq,reduceEqDiff,Nat.reduceBEq,reduceAdd,reduceLeDiff,reduceSub,reduceMul,reduceToNat,MM,bu0,cbP3,Kind.av]
  refine pvX_of (q4) ?_
  simp -dsimp -implicitDefEqProofs (disch:=first|omega|(simp only [lenr];try omega)) only [↓amPre,↓reduceIte,reduceCtorEq,reduceEqDiff,Nat.reduceBEq,reduceAdd,reduceLeDiff,reduceSub,reduceMul,reduceToNat,MM,bu0,cbP3,Kind.av]
 | 4,_ =>
  refine ⟨s3,⟨kr,nm,(⟨t0,d0 :: dr⟩ :: tr) :: mr⟩,?_,k3,by simp only [List.length_cons] at f1 ⊢;omega,f2,f3,f4⟩
  refine spec_of_awp (M:=MM) (np:=1) (fz:=false) mixed Tryz.func79 rfl rfl (by decide) rfl (Nat.le_refl _) (by decide +kernel) (.inl rfl) (by simp only [sigsOk_some,sigsOk_nil,and_true];rfl) ?_
  simp -dsimp -implicitDefEqProofs (disch:=first|omega|(simp only [lenr];try omega)) only [↓amPre,↓reduceIte,reduceCtorEq,reduceEqDiff,Nat.reduceBEq,reduceAdd,reduceLeDiff,reduceSub,reduceMul,reduceToNat,MM,bu0,cbP3]
  iterate 2 ((first|refine callX_of (q1) ?_|refine callX_of (q2) ?_);simp -dsimp -implicitDefEqProofs (disch:=first|omega|(simp only [lenr];try omega)) only [↓amPre,↓reduceIte,reduceCtorEq,reduceEqDiff,Nat.reduceBEq,reduceAdd,reduceLeDiff,reduceSub,reduceMul,reduceToNat,MM,bu0,cbP3])
  refine callX_of (q3) ?_
  simp -dsimp -implicitDefEqProofs (disch:=first|omega|(simp only [lenr];try omega)) only [↓amPre,↓reduceIte,reduceCtorEq,reduceEqDiff,Nat.reduceBEq,reduceAdd,reduceLeDiff,reduceSub,reduceMul,reduceToNat,MM,bu0,cbP3,pullR]
end Draws
end Go.AM
set_option maxRecDepth 8000
namespace Go.AM
namespace Draws
open Go.Proofs
theorem bigF (l:List UInt8):SpecAt Tryz.prog 8 [bsl l] (.bl (decide ((4096:Int)<l.length))):=by
 refine spec_of_awp (M:=MM) (np:=1) (fz:=true) mixed Tryz.func8 rfl rfl (by decide) rfl (Nat.le_refl _) (by decide +kernel) (.inr ⟨rfl,rfl⟩) trivial ?_
 simp -dsimp -implicitDefEqProofs (disch:=first|omega|(simp only [lenr];try omega)) only [↓amPre,↓reduceIte,reduceCtorEq,reduceEqDiff,Nat.reduceBEq,reduceAdd,reduceLeDiff,reduceSub,reduceMul,reduceToNat,MM,bu0]
end Draws
end Go.AM
