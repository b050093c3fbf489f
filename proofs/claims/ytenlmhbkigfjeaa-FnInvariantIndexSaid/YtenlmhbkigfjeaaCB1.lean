/-
  CONTRACTS of functions of the program,and what they compute,by content.
-/
import Derived.Test.YtenlmhbkigfjeaaCB0
import Derived.Test.YtenlmhbkigfjeaaM2SD
import Derived.Sort.Grow
import Derived.Deep.Draws
import Derived.Lib.LaidTab
import Derived.Sort.Row
import Derived.Test.YtenlmhbkigfjeaaM2Facts
import Derived.Shelf.SortM.Plain
import Derived.Shelf.SortM.SortNone
import Derived.Shelf.SlicesE.DeleteFunc
import Derived.Shelf.GgClosure.Gives
import Derived.Lib.SliceRun
import Derived.Test.YtenlmhbkigfjeaaM2Tool
set_option linter.unusedVariables false
set_option linter.defProp false
set_option linter.unusedSimpArgs false
set_option maxRecDepth 8000
namespace Go.AM
open Go.Proofs
instance:Thing UInt8:=⟨⟩
theorem iisNames (l:List UInt8) (hl:l.length≤1099511627776):SpecAt Try.prog 172 [.st l] (.bl (decide (namesOk l))):=by
  refine spec_of_awp (M:=MM) (np:=1) (fz:=true) mixed Try.func172 rfl rfl (by decide) rfl (Nat.le_refl _) (by decide +kernel) (.inr ⟨rfl,rfl⟩) trivial ?_
  simp -dsimp -implicitDefEqProofs (disch:=first|omega|(simp only [lenr];try omega)) only [↓amPre,↓reduceIte,reduceCtorEq,Nat.reduceEqDiff,Nat.reduceBEq,Nat.reduceAdd,Nat.reduceLeDiff,Nat.reduceSub,Nat.reduceMul,Int.reduceToNat,MM,bu0,cbP3]
  have fin:∀ b:Bool,(b=true↔namesOk l)→Value.bool b=Value.bool (decide (namesOk l)):=fun b h=>bl_eq (by rw [h,decide_eq_true_iff])
  refine awp_loop (fun i st=>i≤l.length∧st.fr 7=.i64 i∧st.fr 6=.i64 l.length∧st.fr 0=.st l∧lettersOk (l.take i)) (l.length) ?_ ?_
  · simp -dsimp -implicitDefEqProofs (disch:=first|omega|(simp only [lenr];try omega)) only [↓amPre,↓reduceIte,reduceCtorEq,Nat.reduceEqDiff,Nat.reduceBEq,Nat.reduceAdd,Nat.reduceLeDiff,Nat.reduceSub,Nat.reduceMul,Int.reduceToNat,MM,bu0,cbP3]
    simp [lettersOk]
  rintro i st _ ⟨hi,f7,f6,f0,ei⟩
  by_cases hlt:i<l.length
  · have hmem:=mem_getD l i 0 hlt
    have hu:=u8lt (l.getD i 0)
    have hts:=take_succ_eq l i 0 hlt
    simp -dsimp -implicitDefEqProofs (disch:=first|omega|(simp only [lenr];try omega)) only [↓amPre,↓reduceIte,reduceCtorEq,Nat.reduceEqDiff,Nat.reduceBEq,Nat.reduceAdd,Nat.reduceLeDiff,Nat.reduceSub,Nat.reduceMul,Int.reduceToNat,MM,bu0,cbP3,f7,f6,f0]
    refine callP_of (iwithin _ _ _) ?_
    cases w:within ((l.getD i 0).toNat:Int) 65 90 with
    | false =>
      simp -dsimp -implicitDefEqProofs (disch:=first|omega|(simp only [lenr];try omega)) only [↓amPre,↓reduceIte,reduceCtorEq,Nat.reduceEqDiff,Nat.reduceBEq,Nat.reduceAdd,Nat.reduceLeDiff,Nat.reduceSub,Nat.reduceMul,Int.reduceToNat,MM,bu0,cbP3,w]
      refine fin _ ?_
      rw [within_not] at w
      simp only [reduceCtorEq,false_iff]
      intro q;have:=q.1.1 _ hmem;omega
    | true =>
      rw [within_iff] at w
      simp -dsimp -implicitDefEqProofs (disch:=first|omega|(simp only [lenr];try omega)) only [↓amPre,↓reduceIte,reduceCtorEq,Nat.reduceEqDiff,Nat.reduceBEq,Nat.reduceAdd,Nat.reduceLeDiff,Nat.reduceSub,Nat.reduceMul,Int.reduceToNat,MM,bu0,cbP3,f7,f6,f0,within_iff.2 w]
      refine awp_loop (fun k st=>k≤i∧st.fr 17=.i64 k∧st.fr 16=.i64 i∧st.fr 3=.i64 i∧st.fr 7=.i64 i∧st.fr 6=.i64 l.length∧st.fr 0=.st l∧∀ y∈l.take k,y≠l.getD i 0) (i) ?_ ?_
      · simp -dsimp -implicitDefEqProofs (disch:=first|omega|(simp only [lenr];try omega)) only [↓amPre,↓reduceIte,reduceCtorEq,Nat.reduceEqDiff,Nat.reduceBEq,Nat.reduceAdd,Nat.reduceLeDiff,Nat.reduceSub,Nat.reduceMul,Int.reduceToNat,MM,bu0,cbP3,f7,f6,f0]
        simp
      rintro k st _ ⟨hk,f17,f16,f3,f7,f6,f0,ek⟩
      by_cases hk':k<i
      · have hmk:=mem_take_succ (l:=l) (d:=0) (p:=fun y=>y≠l.getD i 0) (show k<l.length by omega)
        cases w2:decide (l.getD k 0=l.getD i 0) with
        | true =>
          simp -dsimp -implicitDefEqProofs (disch:=first|omega|(simp only [lenr];try omega)) only [↓amPre,↓reduceIte,reduceCtorEq,Nat.reduceEqDiff,Nat.reduceBEq,Nat.reduceAdd,Nat.reduceLeDiff,Nat.reduceSub,Nat.reduceMul,Int.reduceToNat,MM,bu0,cbP3,f17,f16,f3,f7,f6,f0,u8eq,w2]
          refine fin _ ?_
          simp only [reduceCtorEq,false_iff]
          intro q
          simp only [decide_eq_true_eq] at w2
          rw [getD_eq _ _ _ (show k<l.length by omega),getD_eq _ _ _ hlt] at w2
          have:=(List.getElem_inj q.1.2).1 w2
          omega
        | false =>
          simp -dsimp -implicitDefEqProofs (disch:=first|omega|(simp only [lenr];try omega)) only [↓amPre,↓reduceIte,reduceCtorEq,Nat.reduceEqDiff,Nat.reduceBEq,Nat.reduceAdd,Nat.reduceLeDiff,Nat.reduceSub,Nat.reduceMul,Int.reduceToNat,MM,bu0,cbP3,f17,f16,f3,f7,f6,f0,u8eq,w2]
          simp only [decide_eq_false_iff_not] at w2
          repeat' (first | omega | rfl | exact i64c (by omega) | exact vic (by omega) | exact hmk.2 ⟨ek,w2⟩ | apply And.intro)
      · have hke:k=i:=by omega
        subst hke
        simp -dsimp -implicitDefEqProofs (disch:=first|omega|(simp only [lenr];try omega)) only [↓amPre,↓reduceIte,reduceCtorEq,Nat.reduceEqDiff,Nat.reduceBEq,Nat.reduceAdd,Nat.reduceLeDiff,Nat.reduceSub,Nat.reduceMul,Int.reduceToNat,MM,bu0,cbP3,f17,f16,f3,f7,f6,f0]
        refine ⟨hlt,hlt,?_,?_⟩
        · rw [hts];intro b hb
          rcases List.mem_append.1 hb with hb | hb
          · exact ei.1 b hb
          · rw [List.mem_singleton.1 hb];omega
        · rw [hts,List.nodup_append]
          refine ⟨ei.2,by simp,?_⟩
          intro a ha b hb e
          simp only [List.mem_singleton] at hb
          exact ek a ha (e.trans hb)
  · have hie:i=l.length:=by omega
    subst hie
    rw [List.take_length] at ei
    simp -dsimp -implicitDefEqProofs (disch:=first|omega|(simp only [lenr];try omega)) only [↓amPre,↓reduceIte,reduceCtorEq,Nat.reduceEqDiff,Nat.reduceBEq,Nat.reduceAdd,Nat.reduceLeDiff,Nat.reduceSub,Nat.reduceMul,Int.reduceToNat,MM,bu0,cbP3,f7,f6,f0]
    refine callP_of (iwithin _ _ _) ?_
    simp -dsimp -implicitDefEqProofs (disch:=first|omega|(simp only [lenr];try omega)) only [↓amPre,↓reduceIte,reduceCtorEq,Nat.reduceEqDiff,Nat.reduceBEq,Nat.reduceAdd,Nat.reduceLeDiff,Nat.reduceSub,Nat.reduceMul,Int.reduceToNat,MM,bu0,cbP3]
    refine fin _ ?_
    rw [within_iff]
    exact ⟨fun q=>⟨ei,by omega⟩,fun q=>by have:=q.2;omega⟩
theorem svalidNames (l:List UInt8) (n:Nat) (hl:l.length≤1099511627776):SpecAt Try.prog 85 [.st l,.i64 n] (.bl (decide (l.length=n∧lettersOk l))):=by
  refine spec_of_awp (M:=MM) (np:=2) (fz:=true) mixed Try.func85 rfl rfl (by decide) rfl (Nat.le_refl _) (by decide +kernel) (.inr ⟨rfl,rfl⟩) trivial ?_
  simp -dsimp -implicitDefEqProofs (disch:=first|omega|(simp only [lenr];try omega)) only [↓amPre,↓reduceIte,reduceCtorEq,Nat.reduceEqDiff,Nat.reduceBEq,Nat.reduceAdd,Nat.reduceLeDiff,Nat.reduceSub,Nat.reduceMul,Int.reduceToNat,MM,bu0,cbP3]
  have fin:∀ b:Bool,(b=true↔(l.length=n∧lettersOk l))→Value.bool b=Value.bool (decide (l.length=n∧lettersOk l)):=fun b h=>bl_eq (by rw [h,decide_eq_true_iff])
  by_cases hn:(l.length:Int)=n
  case neg =>
    simp -dsimp -implicitDefEqProofs (disch:=first|omega|(simp only [lenr];try omega)) only [↓amPre,↓reduceIte,reduceCtorEq,Nat.reduceEqDiff,Nat.reduceBEq,Nat.reduceAdd,Nat.reduceLeDiff,Nat.reduceSub,Nat.reduceMul,Int.reduceToNat,MM,bu0,cbP3,ne_true hn]
    refine fin _ ?_
    simp only [reduceCtorEq,false_iff]
    intro q;have:=q.1;omega
  have hn':l.length=n:=by omega
  simp -dsimp -implicitDefEqProofs (disch:=first|omega|(simp only [lenr];try omega)) only [↓amPre,↓reduceIte,reduceCtorEq,Nat.reduceEqDiff,Nat.reduceBEq,Nat.reduceAdd,Nat.reduceLeDiff,Nat.reduceSub,Nat.reduceMul,Int.reduceToNat,MM,bu0,cbP3,ne_false hn]
  refine awp_loop (fun i st=>i≤l.length∧st.fr 5=.i64 i∧st.fr 0=.st l∧lettersOk (l.take i)) (l.length) ?_ ?_
  · simp -dsimp -implicitDefEqProofs (disch:=first|omega|(simp only [lenr];try omega)) only [↓amPre,↓reduceIte,reduceCtorEq,Nat.reduceEqDiff,Nat.reduceBEq,Nat.reduceAdd,Nat.reduceLeDiff,Nat.reduceSub,Nat.reduceMul,Int.reduceToNat,MM,bu0,cbP3]
    simp [lettersOk]
  rintro i st _ ⟨hi,f5,f0,ei⟩
  by_cases hlt:i<l.length
  · have hmem:=mem_getD l i 0 hlt
    have hu:=u8lt (l.getD i 0)
    have hts:=take_succ_eq l i 0 hlt
    by_cases w1:((l.getD i 0).toNat:Int)<65
    · simp -dsimp -implicitDefEqProofs (disch:=first|omega|(simp only [lenr];try omega)) only [↓amPre,↓reduceIte,reduceCtorEq,Nat.reduceEqDiff,Nat.reduceBEq,Nat.reduceAdd,Nat.reduceLeDiff,Nat.reduceSub,Nat.reduceMul,Int.reduceToNat,MM,bu0,cbP3,f5,f0,lt_true w1]
      refine fin _ ?_
      simp only [reduceCtorEq,false_iff]
      intro q;have:=q.2.1 _ hmem;omega
    by_cases w2:(90:Int)<((l.getD i 0).toNat:Int)
    · simp -dsimp -implicitDefEqProofs (disch:=first|omega|(simp only [lenr];try omega)) only [↓amPre,↓reduceIte,reduceCtorEq,Nat.reduceEqDiff,Nat.reduceBEq,Nat.reduceAdd,Nat.reduceLeDiff,Nat.reduceSub,Nat.reduceMul,Int.reduceToNat,MM,bu0,cbP3,f5,f0,lt_false (Int.not_lt.1 w1),lt_true w2]
      refine fin _ ?_
      simp only [reduceCtorEq,false_iff]
      intro q;have:=q.2.1 _ hmem;omega
    simp -dsimp -implicitDefEqProofs (disch:=first|omega|(simp only [lenr];try omega)) only [↓amPre,↓reduceIte,reduceCtorEq,Nat.reduceEqDiff,Nat.reduceBEq,Nat.reduceAdd,Nat.reduceLeDiff,Nat.reduceSub,Nat.reduceMul,Int.reduceToNat,MM,bu0,cbP3,f5,f0,lt_false (Int.not_lt.1 w1),lt_false (Int.not_lt.1 w2)]
    refine awp_loop (fun k st=>k≤i∧st.fr 6=.i64 k∧st.fr 5=.i64 i∧st.fr 0=.st l∧∀ y∈l.take k,y≠l.getD i 0) (i) ?_ ?_
    · simp -dsimp -implicitDefEqProofs (disch:=first|omega|(simp only [lenr];try omega)) only [↓amPre,↓reduceIte,reduceCtorEq,Nat.reduceEqDiff,Nat.reduceBEq,Nat.reduceAdd,Nat.reduceLeDiff,Nat.reduceSub,Nat.reduceMul,Int.reduceToNat,MM,bu0,cbP3,f5,f0]
      simp
    rintro k st _ ⟨hk,f6,f5,f0,ek⟩
    by_cases hk':k<i
    · have hmk:=mem_take_succ (l:=l) (d:=0) (p:=fun y=>y≠l.getD i 0) (show k<l.length by omega)
      cases w2:decide (l.getD k 0=l.getD i 0) with
      | true =>
        simp -dsimp -implicitDefEqProofs (disch:=first|omega|(simp only [lenr];try omega)) only [↓amPre,↓reduceIte,reduceCtorEq,Nat.reduceEqDiff,Nat.reduceBEq,Nat.reduceAdd,Nat.reduceLeDiff,Nat.reduceSub,Nat.reduceMul,Int.reduceToNat,MM,bu0,cbP3,f6,f5,f0,u8eq,w2]
        refine fin _ ?_
        simp only [reduceCtorEq,false_iff]
        intro q
        simp only [decide_eq_true_eq] at w2
        rw [getD_eq _ _ _ (show k<l.length by omega),getD_eq _ _ _ hlt] at w2
        have:=(List.getElem_inj q.2.2).1 w2
        omega
      | false =>
        simp -dsimp -implicitDefEqProofs (disch:=first|omega|(simp only [lenr];try omega)) only [↓amPre,↓reduceIte,reduceCtorEq,Nat.reduceEqDiff,Nat.reduceBEq,Nat.reduceAdd,Nat.reduceLeDiff,Nat.reduceSub,Nat.reduceMul,Int.reduceToNat,MM,bu0,cbP3,f6,f5,f0,u8eq,w2]
        simp only [decide_eq_false_iff_not] at w2
        repeat' (first | omega | rfl | exact i64c (by omega) | exact vic (by omega) | exact hmk.2 ⟨ek,w2⟩ | apply And.intro)
    · have hke:k=i:=by omega
      subst hke
      simp -dsimp -implicitDefEqProofs (disch:=first|omega|(simp only [lenr];try omega)) only [↓amPre,↓reduceIte,reduceCtorEq,Nat.reduceEqDiff,Nat.reduceBEq,Nat.reduceAdd,Nat.reduceLeDiff,Nat.reduceSub,Nat.reduceMul,Int.reduceToNat,MM,bu0,cbP3,f6,f5,f0]
      refine ⟨hlt,hlt,?_,?_⟩
      · rw [hts];intro b hb
        rcases List.mem_append.1 hb with hb | hb
        · exact ei.1 b hb
        · rw [List.mem_singleton.1 hb];omega
      · rw [hts,List.nodup_append]
        refine ⟨ei.2,by simp,?_⟩
        intro a ha b hb e
        simp only [List.mem_singleton] at hb
        exact ek a ha (e.trans hb)
  · have hie:i=l.length:=by omega
    subst hie
    rw [List.take_length] at ei
    simp -dsimp -implicitDefEqProofs (disch:=first|omega|(simp only [lenr];try omega)) only [↓amPre,↓reduceIte,reduceCtorEq,Nat.reduceEqDiff,Nat.reduceBEq,Nat.reduceAdd,Nat.reduceLeDiff,Nat.reduceSub,Nat.reduceMul,Int.reduceToNat,MM,bu0,cbP3,f5,f0]
    refine fin _ ?_
    simp only [true_iff]
    exact ⟨hn',ei⟩
end Go.AM
namespace Go.AM
/-! sizes of moves -/
def sizeLL (l:List (List Twist)):Nat:=match l with | []=>0 | a :: r=>1+sizeL a+sizeLL r
end Go.AM
set_option maxRecDepth 8000
namespace Go.AM
open Go.Proofs
instance:Thing (List Twist):=⟨⟩
abbrev smallTS (l:List (List Twist)):Prop:=l.length≤1099511627776∧∀ s∈l,smallT s
def Model.size (m:Model):Nat:=m.ks.length+m.nm.length+sizeLL m.mv
abbrev smallM (m:Model):Prop:=m.ks.length≤1099511627776∧m.nm.length≤1099511627776∧smallTS m.mv
end Go.AM
set_option maxRecDepth 8000
namespace Go.AM
open Go.Proofs
def fidxG {α:Type} (pr:α→Bool) (l:List α):Int:=match l.findIdx? pr with | some i=>i | none=>-1
theorem fidxG_nonneg {α:Type} (pr:α→Bool) (l:List α):0≤fidxG pr l↔l.any pr=true:=by
  unfold fidxG
  split
  · rename_i i e
    rw [List.findIdx?_eq_some_iff_getElem] at e
    obtain ⟨hi,h1,_⟩:=e
    simp only [List.any_eq_true]
    exact ⟨fun _=>⟨_,List.getElem_mem hi,h1⟩,fun _=>by omega⟩
  · rename_i e
    rw [List.findIdx?_eq_none_iff] at e
    simp only [List.any_eq_true]
    exact ⟨fun q=>by omega,fun ⟨x,hx,hp⟩=>by rw [e x hx] at hp;cases hp⟩
theorem fidxG_at {α:Type} (pr:α→Bool) (l:List α) (d:α) (k:Nat) (hk:k<l.length) (h1:∀ x∈l.take k,pr x=false) (h2:pr (l.getD k d)=true):fidxG pr l=k:=by
  have:l.findIdx? pr=some k:=by
    rw [List.findIdx?_eq_some_iff_getElem]
    refine ⟨hk,by rw [← getD_eq l k d hk];exact h2,fun j hj=>?_⟩
    have:=h1 (l[j]) (by rw [List.mem_take_iff_getElem];exact ⟨j,by omega,rfl⟩)
    simpa using this
  rw [fidxG,this]
theorem fidxG_none {α:Type} (pr:α→Bool) (l:List α) (h:∀ x∈l,pr x=false):fidxG pr l = -1:=by
  have:l.findIdx? pr=none:=by rw [List.findIdx?_eq_none_iff];exact h
  rw [fidxG,this]
theorem indexFuncT (l:List (List Twist)) (g:FuncId) (caps:List AV) (pr:List Twist→Bool) (hM:MM g=[]) (hb:AV.bearsL caps=false) (hv:∀ mem,AV.views mem caps=caps) (h:∀ x∈l,SpecAt Try.prog g ([tsl x]++caps) (.bl (pr x))) (hl:l.length≤1099511627776) :
    SpecAt Try.prog 225 [tssl l,.fn g caps] (.i64 (fidxG pr l)):=by
  unfold MM at hM
  refine spec_of_awp (M:=MM) (np:=2) (fz:=true) mixed Try.func225 rfl rfl (by decide) rfl (Nat.le_refl _) (by decide +kernel) (.inr ⟨rfl,rfl⟩) trivial ?_
  simp -dsimp -implicitDefEqProofs (disch:=first|omega|(simp only [lenr];try omega)) only [↓amPre,↓reduceIte,reduceCtorEq,Nat.reduceEqDiff,Nat.reduceBEq,Nat.reduceAdd,Nat.reduceLeDiff,Nat.reduceSub,Nat.reduceMul,Int.reduceToNat,MM,bu0,cbP3]
  refine awp_loop (fun k st=>k≤l.length∧st.fr 8=.i64 k∧st.fr 7=.i64 l.length∧st.fr 0=tssl l∧st.fr 1=.fn g caps∧∀ x∈l.take k,pr x=false) (l.length) ?_ ?_
  · simp -dsimp -implicitDefEqProofs (disch:=first|omega|(simp only [lenr];try omega)) only [↓amPre,↓reduceIte,reduceCtorEq,Nat.reduceEqDiff,Nat.reduceBEq,Nat.reduceAdd,Nat.reduceLeDiff,Nat.reduceSub,Nat.reduceMul,Int.reduceToNat,MM,bu0,cbP3]
    simp
  rintro k st _ ⟨hk,f8,f7,f0,f1,ek⟩
  by_cases hlt:k<l.length
  · have hmem:=mem_getD l k default hlt
    simp -dsimp -implicitDefEqProofs (disch:=first|omega|(simp only [lenr];try omega)) only [↓amPre,↓reduceIte,reduceCtorEq,Nat.reduceEqDiff,Nat.reduceBEq,Nat.reduceAdd,Nat.reduceLeDiff,Nat.reduceSub,Nat.reduceMul,Int.reduceToNat,MM,bu0,cbP3,f8,f7,f0,f1,hM,hb,hv]
    refine callP_of (h _ hmem) ?_
    cases w:pr (l.getD k default) with
    | true =>
      simp -dsimp -implicitDefEqProofs (disch:=first|omega|(simp only [lenr];try omega)) only [↓amPre,↓reduceIte,reduceCtorEq,Nat.reduceEqDiff,Nat.reduceBEq,Nat.reduceAdd,Nat.reduceLeDiff,Nat.reduceSub,Nat.reduceMul,Int.reduceToNat,MM,bu0,cbP3,f8,f7,f0,f1,w]
      rw [fidxG_at pr l default k hlt ek w]
    | false =>
      simp -dsimp -implicitDefEqProofs (disch:=first|omega|(simp only [lenr];try omega)) only [↓amPre,↓reduceIte,reduceCtorEq,Nat.reduceEqDiff,Nat.reduceBEq,Nat.reduceAdd,Nat.reduceLeDiff,Nat.reduceSub,Nat.reduceMul,Int.reduceToNat,MM,bu0,cbP3,f8,f7,f0,f1,w]
      repeat' (first | omega | rfl | exact i64c (by omega) | exact vic (by omega) | exact (mem_take_succ (d:=default) hlt).2 ⟨ek,w⟩ | apply And.intro)
  · have hke:k=l.length:=by omega
    subst hke
    rw [List.take_length] at ek
    simp -dsimp -implicitDefEqProofs (disch:=first|omega|(simp only [lenr];try omega)) only [↓amPre,↓reduceIte,reduceCtorEq,Nat.reduceEqDiff,Nat.reduceBEq,Nat.reduceAdd,Nat.reduceLeDiff,Nat.reduceSub,Nat.reduceMul,Int.reduceToNat,MM,bu0,cbP3,f8,f7,f0,f1]
    rw [fidxG_none pr l ek]
theorem containsFuncT (l:List (List Twist)) (g:FuncId) (caps:List AV) (pr:List Twist→Bool) (hM:MM g=[]) (hb:AV.bearsL caps=false) (hv:∀ mem,AV.views mem caps=caps) (h:∀ x∈l,SpecAt Try.prog g ([tsl x]++caps) (.bl (pr x))) (hl:l.length≤1099511627776) :
    SpecAt Try.prog 173 [tssl l,.fn g caps] (.bl (l.any pr)):=by
  refine spec_of_awp (M:=MM) (np:=2) (fz:=true) mixed Try.func173 rfl rfl (by decide) rfl (Nat.le_refl _) (by decide +kernel) (.inr ⟨rfl,rfl⟩) trivial ?_
  simp -dsimp -implicitDefEqProofs (disch:=first|omega|(simp only [lenr];try omega)) only [↓amPre,↓reduceIte,reduceCtorEq,Nat.reduceEqDiff,Nat.reduceBEq,Nat.reduceAdd,Nat.reduceLeDiff,Nat.reduceSub,Nat.reduceMul,Int.reduceToNat,MM,bu0,cbP3,hb,hv]
  refine callP_of (indexFuncT l g caps pr hM hb hv h hl) ?_
  simp -dsimp -implicitDefEqProofs (disch:=first|omega|(simp only [lenr];try omega)) only [↓amPre,↓reduceIte,reduceCtorEq,Nat.reduceEqDiff,Nat.reduceBEq,Nat.reduceAdd,Nat.reduceLeDiff,Nat.reduceSub,Nat.reduceMul,Int.reduceToNat,MM,bu0,cbP3]
  refine bl_eq ?_
  simp only [decide_eq_true_eq,fidxG_nonneg]
theorem iIsValidPM1 (s:List Twist) (m:Model) (h1:m.ks.length≤1099511627776) (hs:smallT s):SpecAt Try.prog 174 [tsl s,.ep [ksl m.ks,.st m.nm,tssl m.mv]] (.bl (!decide (psOk m.ks s))):=by
  refine spec_of_awp (M:=MM) (np:=2) (fz:=true) mixed Try.func174 rfl rfl (by decide) rfl (Nat.le_refl _) (by decide +kernel) (.inr ⟨rfl,rfl⟩) trivial ?_
  simp -dsimp -implicitDefEqProofs (disch:=first|omega|(simp only [lenr];try omega)) only [↓amPre,↓reduceIte,reduceCtorEq,Nat.reduceEqDiff,Nat.reduceBEq,Nat.reduceAdd,Nat.reduceLeDiff,Nat.reduceSub,Nat.reduceMul,Int.reduceToNat,MM,bu0,cbP3]
  refine callP_of (iIsPieceState m.ks s h1 hs.1 hs.2) ?_
  simp -dsimp -implicitDefEqProofs (disch:=first|omega|(simp only [lenr];try omega)) only [↓amPre,↓reduceIte,reduceCtorEq,Nat.reduceEqDiff,Nat.reduceBEq,Nat.reduceAdd,Nat.reduceLeDiff,Nat.reduceSub,Nat.reduceMul,Int.reduceToNat,MM,bu0,cbP3]
theorem iIsValidPieceModel (m:Model) (h:smallM m):SpecAt Try.prog 80 [m.sl] (.bl (decide (modelOk m))):=by
  have h2:=h.2.1
  have h3:=h.2.2.1
  refine spec_of_awp (M:=MM) (np:=1) (fz:=true) mixed Try.func80 rfl rfl (by decide) rfl (Nat.le_refl _) (by decide +kernel) (.inr ⟨rfl,rfl⟩) trivial ?_
  have fin:∀ b:Bool,(b=true↔modelOk m)→Value.bool b=Value.bool (decide (modelOk m)):=fun b h=>bl_eq (by rw [h,decide_eq_true_iff])
  simp -dsimp -implicitDefEqProofs (disch:=first|omega|(simp only [lenr];try omega)) only [↓amPre,↓reduceIte,reduceCtorEq,Nat.reduceEqDiff,Nat.reduceBEq,Nat.reduceAdd,Nat.reduceLeDiff,Nat.reduceSub,Nat.reduceMul,Int.reduceToNat,MM,bu0,cbP3]
  refine callP_of (iAreValidKinds m.ks h.1) ?_
  by_cases c1:kindsOk m.ks
  case neg =>
    simp -dsimp -implicitDefEqProofs (disch:=first|omega|(simp only [lenr];try omega)) only [↓amPre,↓reduceIte,reduceCtorEq,Nat.reduceEqDiff,Nat.reduceBEq,Nat.reduceAdd,Nat.reduceLeDiff,Nat.reduceSub,Nat.reduceMul,Int.reduceToNat,MM,bu0,cbP3,c1]
    refine fin _ ?_
    simp only [modelOk,c1,false_and,reduceCtorEq]
  simp -dsimp -implicitDefEqProofs (disch:=first|omega|(simp only [lenr];try omega)) only [↓amPre,↓reduceIte,reduceCtorEq,Nat.reduceEqDiff,Nat.reduceBEq,Nat.reduceAdd,Nat.reduceLeDiff,Nat.reduceSub,Nat.reduceMul,Int.reduceToNat,MM,bu0,cbP3,c1]
  refine callP_of (iisNames m.nm h.2.1) ?_
  by_cases c2:namesOk m.nm
  case neg =>
    simp -dsimp -implicitDefEqProofs (disch:=first|omega|(simp only [lenr];try omega)) only [↓amPre,↓reduceIte,reduceCtorEq,Nat.reduceEqDiff,Nat.reduceBEq,Nat.reduceAdd,Nat.reduceLeDiff,Nat.reduceSub,Nat.reduceMul,Int.reduceToNat,MM,bu0,cbP3,c1,c2]
    refine fin _ ?_
    simp only [modelOk,c2,false_and,and_false,reduceCtorEq]
  by_cases c3:(m.nm.length:Int)=m.mv.length
  case neg =>
    simp -dsimp -implicitDefEqProofs (disch:=first|omega|(simp only [lenr];try omega)) only [↓amPre,↓reduceIte,reduceCtorEq,Nat.reduceEqDiff,Nat.reduceBEq,Nat.reduceAdd,Nat.reduceLeDiff,Nat.reduceSub,Nat.reduceMul,Int.reduceToNat,MM,bu0,cbP3,c1,c2,eq_false c3]
    refine fin _ ?_
    simp only [reduceCtorEq,false_iff]
    intro q;have:=q.2.2.1;omega
  simp -dsimp -implicitDefEqProofs (disch:=first|omega|(simp only [lenr];try omega)) only [↓amPre,↓reduceIte,reduceCtorEq,Nat.reduceEqDiff,Nat.reduceBEq,Nat.reduceAdd,Nat.reduceLeDiff,Nat.reduceSub,Nat.reduceMul,Int.reduceToNat,MM,bu0,cbP3,c1,c2,eq_true c3]
  refine callP_of (containsFuncT m.mv _ _ (fun s=>!decide (psOk m.ks s)) rfl rfl (fun _=>rfl) (fun s hs=>iIsValidPM1 s m h.1 (h.2.2.2 s hs)) h3) ?_
  simp -dsimp -implicitDefEqProofs (disch:=first|omega|(simp only [lenr];try omega)) only [↓amPre,↓reduceIte,reduceCtorEq,Nat.reduceEqDiff,Nat.reduceBEq,Nat.reduceAdd,Nat.reduceLeDiff,Nat.reduceSub,Nat.reduceMul,Int.reduceToNat,MM,bu0,cbP3,c1,c2,eq_true c3]
  refine fin _ ?_
  have c3':m.nm.length=m.mv.length:=by omega
  simp only [Bool.not_eq_true',List.any_eq_false,Bool.not_eq_true,Bool.not_eq_false',decide_eq_false_iff_not,Decidable.not_not,modelOk,c1,c2,c3',true_and]
theorem sIsValidPieceModel (m:Model) (h:smallM m):SpecAt Try.prog 16 [m.sl] (.bl (decide (modelOk m))):=by
  have h2:=h.2.1
  have h3:=h.2.2.1
  refine spec_of_awp (M:=MM) (np:=1) (fz:=true) mixed Try.func16 rfl rfl (by decide) rfl (Nat.le_refl _) (by decide +kernel) (.inr ⟨rfl,rfl⟩) trivial ?_
  have fin:∀ b:Bool,(b=true↔modelOk m)→Value.bool b=Value.bool (decide (modelOk m)):=fun b h=>bl_eq (by rw [h,decide_eq_true_iff])
  simp -dsimp -implicitDefEqProofs (disch:=first|omega|(simp only [lenr];try omega)) only [↓amPre,↓reduceIte,reduceCtorEq,Nat.reduceEqDiff,Nat.reduceBEq,Nat.reduceAdd,Nat.reduceLeDiff,Nat.reduceSub,Nat.reduceMul,Int.reduceToNat,MM,bu0,cbP3]
  refine callP_of (sAreValidKinds m.ks h.1) ?_
  by_cases c1:kindsOk m.ks
  case neg =>
    simp -dsimp -implicitDefEqProofs (disch:=first|omega|(simp only [lenr];try omega)) only [↓amPre,↓reduceIte,reduceCtorEq,Nat.reduceEqDiff,Nat.reduceBEq,Nat.reduceAdd,Nat.reduceLeDiff,Nat.reduceSub,Nat.reduceMul,Int.reduceToNat,MM,bu0,cbP3,c1]
    refine fin _ ?_
    simp only [modelOk,c1,false_and,reduceCtorEq]
  simp -dsimp -implicitDefEqProofs (disch:=first|omega|(simp only [lenr];try omega)) only [↓amPre,↓reduceIte,reduceCtorEq,Nat.reduceEqDiff,Nat.reduceBEq,Nat.reduceAdd,Nat.reduceLeDiff,Nat.reduceSub,Nat.reduceMul,Int.reduceToNat,MM,bu0,cbP3,c1]
  refine callP_of (inRange _ _ _) ?_
  by_cases c2:1≤(m.mv.length:Int)∧(m.mv.length:Int)≤8
  case neg =>
    simp -dsimp -implicitDefEqProofs (disch:=first|omega|(simp only [lenr];try omega)) only [↓amPre,↓reduceIte,reduceCtorEq,Nat.reduceEqDiff,Nat.reduceBEq,Nat.reduceAdd,Nat.reduceLeDiff,Nat.reduceSub,Nat.reduceMul,Int.reduceToNat,MM,bu0,cbP3,within_not.2 c2]
    refine fin _ ?_
    simp only [reduceCtorEq,false_iff]
    intro q;have:=q.2.1.2;have:=q.2.2.1;omega
  simp -dsimp -implicitDefEqProofs (disch:=first|omega|(simp only [lenr];try omega)) only [↓amPre,↓reduceIte,reduceCtorEq,Nat.reduceEqDiff,Nat.reduceBEq,Nat.reduceAdd,Nat.reduceLeDiff,Nat.reduceSub,Nat.reduceMul,Int.reduceToNat,MM,bu0,cbP3,within_iff.2 c2]
  refine callP_of (svalidNames m.nm m.mv.length h.2.1) ?_
  by_cases c3:m.nm.length=m.mv.length∧lettersOk m.nm
  case neg =>
    simp -dsimp -implicitDefEqProofs (disch:=first|omega|(simp only [lenr];try omega)) only [↓amPre,↓reduceIte,reduceCtorEq,Nat.reduceEqDiff,Nat.reduceBEq,Nat.reduceAdd,Nat.reduceLeDiff,Nat.reduceSub,Nat.reduceMul,Int.reduceToNat,MM,bu0,cbP3,decide_eq_false c3]
    refine fin _ ?_
    simp only [reduceCtorEq,false_iff]
    intro q;exact c3 ⟨q.2.2.1,q.2.1.1⟩
  simp -dsimp -implicitDefEqProofs (disch:=first|omega|(simp only [lenr];try omega)) only [↓amPre,↓reduceIte,reduceCtorEq,Nat.reduceEqDiff,Nat.reduceBEq,Nat.reduceAdd,Nat.reduceLeDiff,Nat.reduceSub,Nat.reduceMul,Int.reduceToNat,MM,bu0,cbP3,decide_eq_true c3]
  have hnk:namesOk m.nm:=⟨c3.2,by omega,by omega⟩
  refine awp_loop (fun k st=>k≤m.mv.length∧st.fr 3=.i64 k∧st.fr 1=.loc 1 [] 0 0∧st.mem 1=some (.pt 3 (.agg [ksl m.ks,.st m.nm,tssl m.mv]))∧∀ s∈m.mv.take k,psOk m.ks s) (m.mv.length) ?_ ?_
  · simp -dsimp -implicitDefEqProofs (disch:=first|omega|(simp only [lenr];try omega)) only [↓amPre,↓reduceIte,reduceCtorEq,Nat.reduceEqDiff,Nat.reduceBEq,Nat.reduceAdd,Nat.reduceLeDiff,Nat.reduceSub,Nat.reduceMul,Int.reduceToNat,MM,bu0,cbP3]
    simp
  rintro k st _ ⟨hk,f3,f1,m1,ek⟩
  by_cases hlt:k<m.mv.length
  · have hsm:=h.2.2.2 _ (mem_getD m.mv k default hlt)
    simp -dsimp -implicitDefEqProofs (disch:=first|omega|(simp only [lenr];try omega)) only [↓amPre,↓reduceIte,reduceCtorEq,Nat.reduceEqDiff,Nat.reduceBEq,Nat.reduceAdd,Nat.reduceLeDiff,Nat.reduceSub,Nat.reduceMul,Int.reduceToNat,MM,bu0,cbP3,f3,f1,m1]
    refine callP_of (sIsPieceState m.ks (m.mv.getD k default) h.1 hsm.1 hsm.2) ?_
    by_cases w:psOk m.ks (m.mv.getD k default)
    · simp -dsimp -implicitDefEqProofs (disch:=first|omega|(simp only [lenr];try omega)) only [↓amPre,↓reduceIte,reduceCtorEq,Nat.reduceEqDiff,Nat.reduceBEq,Nat.reduceAdd,Nat.reduceLeDiff,Nat.reduceSub,Nat.reduceMul,Int.reduceToNat,MM,bu0,cbP3,f3,f1,m1,w]
      repeat' (first | omega | rfl | exact i64c (by omega) | exact vic (by omega) | exact (mem_take_succ (d:=default) hlt).2 ⟨ek,w⟩ | apply And.intro)
    · simp -dsimp -implicitDefEqProofs (disch:=first|omega|(simp only [lenr];try omega)) only [↓amPre,↓reduceIte,reduceCtorEq,Nat.reduceEqDiff,Nat.reduceBEq,Nat.reduceAdd,Nat.reduceLeDiff,Nat.reduceSub,Nat.reduceMul,Int.reduceToNat,MM,bu0,cbP3,w]
      refine fin _ ?_
      simp only [reduceCtorEq,false_iff]
      intro q;exact w (q.2.2.2 _ (mem_getD m.mv k default hlt))
  · have hke:k=m.mv.length:=by omega
    subst hke
    rw [List.take_length] at ek
    simp -dsimp -implicitDefEqProofs (disch:=first|omega|(simp only [lenr];try omega)) only [↓amPre,↓reduceIte,reduceCtorEq,Nat.reduceEqDiff,Nat.reduceBEq,Nat.reduceAdd,Nat.reduceLeDiff,Nat.reduceSub,Nat.reduceMul,Int.reduceToNat,MM,bu0,cbP3,f3,f1,m1]
    refine fin _ ?_
    simp only [true_iff]
    exact ⟨c1,hnk,c3.1,ek⟩
end Go.AM
namespace Go.AM
/-! lists of invariants -/
abbrev vsl (l:List Invar):AV:=.sl 2 (l.map Invar.av)
abbrev vtr (l:List Invar):AV:=.tr 2 (l.map Invar.av)
theorem vset (l:List Invar) (i:Nat) (a b:Int):(l.map Invar.av).set i (.agg [.i64 a,.i64 b])=(l.set i ⟨a,b⟩).map Invar.av:=by rw [List.map_set];rfl
theorem vsnoc (l:List Invar) (a b:Int):l.map Invar.av++[.agg [.i64 a,.i64 b]]=(l++[(⟨a,b⟩:Invar)]).map Invar.av:=by simp [Invar.av]
theorem vfz (l:List Invar):(l.map Invar.av).map AV.fz=l.map Invar.av:=by
  rw [List.map_map];exact List.map_congr_left fun a _=>by simp [Invar.av,fz_v,AV.fz,AV.fzL]
theorem vpure (l:List Invar):AV.pureL (l.map Invar.av)=true:=pureL_map _ (fun _=>rfl) l
def twL (k:Nat):List Invar:=(List.range k).map fun (i:Nat)=>⟨1,(i:Int)⟩
def paL (k:Nat):List Invar:=(List.range k).map fun (i:Nat)=>⟨2,((i+1:Nat):Int)⟩
theorem twL_succ (k:Nat):twL (k+1)=twL k++[⟨1,(k:Int)⟩]:=range_succ_map _ k
theorem paL_succ (k:Nat):paL (k+1)=paL k++[⟨2,((k+1:Nat):Int)⟩]:=range_succ_map _ k
theorem twL_len (k:Nat):(twL k).length=k:=by simp [twL]
theorem paL_len (k:Nat):(paL k).length=k:=by simp [paL]
theorem filter_snoc {α:Type} (pr:α→Bool) (l:List α) (x:α):(l++[x]).filter pr=if pr x=true then l.filter pr++[x] else l.filter pr:=by
  rw [List.filter_append];cases h:pr x <;> simp [h]
def cbP6:=(ai (ai (cbP3) (@vset)) (ai (@vsnoc) (@vpure)))

end Go.AM
namespace Go.AM
/-! puzzles,plainly -/
def sizeI (l:List (List Int)):Nat:=match l with | []=>0 | a :: r=>1+a.length+sizeI r
structure Puzz where
  n:Int
  nm:List UInt8
  mv:List (List Int)
  deriving DecidableEq
def Puzz.sl (p:Puzz):AV:=.agg [.i64 p.n,.st p.nm,ssl p.mv]
def Puzz.tr (p:Puzz):AV:=.agg [.i64 p.n,.st p.nm,sst p.mv]
def cbP9:=(ai (cbP6) (ai (@Puzz.sl.eq_1) (@Puzz.tr.eq_1)))

end Go.AM
set_option maxRecDepth 8000
namespace Go.AM
open Go.Proofs
instance:Thing (List Int):=⟨⟩
abbrev smallSS (l:List (List Int)):Prop:=l.length≤1099511627776∧∀ s∈l,s.length≤1099511627776
def Puzz.size (p:Puzz):Nat:=p.nm.length+sizeI p.mv
abbrev smallP (p:Puzz):Prop:=intOk p.n∧p.nm.length≤1099511627776∧smallSS p.mv
end Go.AM
namespace Go.AM
def moveOk (n:Int) (s:List Int):Prop:=(s.length:Int)=n∧isPerm s
instance (n:Int) (s:List Int):Decidable (moveOk n s):=by unfold moveOk;infer_instance
def genOk (n:Int) (mv:List (List Int)):Prop:=(1≤n∧n≤20)∧mv.length≤8∧∀ s∈mv,moveOk n s
instance (n:Int) (mv:List (List Int)):Decidable (genOk n mv):=by unfold genOk;infer_instance
def puzzOk (p:Puzz):Prop:=genOk p.n p.mv∧namesOk p.nm∧p.nm.length=p.mv.length
instance (p:Puzz):Decidable (puzzOk p):=by unfold puzzOk;infer_instance
def nameAt (l:List UInt8) (i:Nat):Prop:=(65≤(l.getD i 0).toNat∧(l.getD i 0).toNat≤90)∧∀ y∈l.take i,y≠l.getD i 0
instance (l:List UInt8) (i:Nat):Decidable (nameAt l i):=by unfold nameAt;infer_instance
theorem letters_take (l:List UInt8) (i:Nat) (h:i<l.length):lettersOk (l.take (i+1))↔lettersOk (l.take i)∧nameAt l i:=by
  rw [take_succ_eq l i 0 h]
  unfold lettersOk nameAt
  rw [List.nodup_append]
  constructor
  · rintro ⟨h1,h2,_,h3⟩
    exact ⟨⟨fun b hb=>h1 b (by simp [hb]),h2⟩,h1 _ (by simp),fun y hy=>h3 y hy _ (by simp)⟩
  · rintro ⟨⟨h1,h2⟩,h3,h4⟩
    refine ⟨fun b hb=>?_,h2,by simp,fun a ha b hb=>?_⟩
    · rcases List.mem_append.1 hb with hb | hb
      · exact h1 b hb
      · rw [List.mem_singleton.1 hb];exact h3
    · rw [List.mem_singleton.1 hb];exact h4 a ha
theorem letters_mono {l:List UInt8} (h:lettersOk l) (i:Nat):lettersOk (l.take i) :=
  ⟨fun b hb=>h.1 b (List.mem_of_mem_take hb),h.2.sublist (List.take_sublist i l)⟩
theorem puzz_nm {p:Puzz} (h:puzzOk p):1≤p.mv.length∧p.mv.length≤8:=by have:=h.2.1.2;have:=h.2.2;omega
end Go.AM
set_option maxRecDepth 8000
namespace Go.AM
open Go.Proofs
theorem sGen (n:Int) (mv:List (List Int)) (hn:intOk n) (h:smallSS mv):SpecAt Try.prog 96 [.i64 n,ssl mv] (.bl (decide (genOk n mv))):=by
  have h1:=h.1
  unfold intOk at hn
  refine spec_of_awp (M:=MM) (np:=2) (fz:=true) mixed Try.func96 rfl rfl (by decide) rfl (Nat.le_refl _) (by decide +kernel) (.inr ⟨rfl,rfl⟩) trivial ?_
  have fin:∀ b:Bool,(b=true↔genOk n mv)→Value.bool b=Value.bool (decide (genOk n mv)):=fun b h=>bl_eq (by rw [h,decide_eq_true_iff])
  simp -dsimp -implicitDefEqProofs (disch:=first|omega|(simp only [lenr];try omega)) only [↓amPre,↓reduceIte,reduceCtorEq,Nat.reduceEqDiff,Nat.reduceBEq,Nat.reduceAdd,Nat.reduceLeDiff,Nat.reduceSub,Nat.reduceMul,Int.reduceToNat,MM,bu0,cbP9]
  refine callP_of (inRange _ _ _) ?_
  by_cases c1:1≤n∧n≤20
  case neg =>
    simp -dsimp -implicitDefEqProofs (disch:=first|omega|(simp only [lenr];try omega)) only [↓amPre,↓reduceIte,reduceCtorEq,Nat.reduceEqDiff,Nat.reduceBEq,Nat.reduceAdd,Nat.reduceLeDiff,Nat.reduceSub,Nat.reduceMul,Int.reduceToNat,MM,bu0,cbP9,within_not.2 c1]
    refine fin _ ?_
    simp only [reduceCtorEq,false_iff]
    exact fun q=>c1 q.1
  by_cases c2:(8:Int)<mv.length
  · simp -dsimp -implicitDefEqProofs (disch:=first|omega|(simp only [lenr];try omega)) only [↓amPre,↓reduceIte,reduceCtorEq,Nat.reduceEqDiff,Nat.reduceBEq,Nat.reduceAdd,Nat.reduceLeDiff,Nat.reduceSub,Nat.reduceMul,Int.reduceToNat,MM,bu0,cbP9,within_iff.2 c1,lt_true c2]
    refine fin _ ?_
    simp only [reduceCtorEq,false_iff]
    intro q;have:=q.2.1;omega
  simp -dsimp -implicitDefEqProofs (disch:=first|omega|(simp only [lenr];try omega)) only [↓amPre,↓reduceIte,reduceCtorEq,Nat.reduceEqDiff,Nat.reduceBEq,Nat.reduceAdd,Nat.reduceLeDiff,Nat.reduceSub,Nat.reduceMul,Int.reduceToNat,MM,bu0,cbP9,within_iff.2 c1,lt_false (Int.not_lt.1 c2)]
  refine awp_loop (fun k st=>k≤mv.length∧st.fr 5=.i64 k∧st.fr 0=.i64 n∧st.fr 1=ssl mv∧∀ s∈mv.take k,moveOk n s) (mv.length) ?_ ?_
  · simp -dsimp -implicitDefEqProofs (disch:=first|omega|(simp only [lenr];try omega)) only [↓amPre,↓reduceIte,reduceCtorEq,Nat.reduceEqDiff,Nat.reduceBEq,Nat.reduceAdd,Nat.reduceLeDiff,Nat.reduceSub,Nat.reduceMul,Int.reduceToNat,MM,bu0,cbP9]
    simp
  rintro k st _ ⟨hk,f5,f0,f1,ek⟩
  by_cases hlt:k<mv.length
  · have hmem:=mem_getD mv k default hlt
    have hsm:=h.2 _ hmem
    by_cases w:((mv.getD k default).length:Int)=n
    case neg =>
      simp -dsimp -implicitDefEqProofs (disch:=first|omega|(simp only [lenr];try omega)) only [↓amPre,↓reduceIte,reduceCtorEq,Nat.reduceEqDiff,Nat.reduceBEq,Nat.reduceAdd,Nat.reduceLeDiff,Nat.reduceSub,Nat.reduceMul,Int.reduceToNat,MM,bu0,cbP9,f5,f0,f1,ne_true w]
      refine fin _ ?_
      simp only [reduceCtorEq,false_iff]
      exact fun q=>w (q.2.2 _ hmem).1
    simp -dsimp -implicitDefEqProofs (disch:=first|omega|(simp only [lenr];try omega)) only [↓amPre,↓reduceIte,reduceCtorEq,Nat.reduceEqDiff,Nat.reduceBEq,Nat.reduceAdd,Nat.reduceLeDiff,Nat.reduceSub,Nat.reduceMul,Int.reduceToNat,MM,bu0,cbP9,f5,f0,f1,ne_false w]
    refine callP_of (sIsPerm (mv.getD k default) hsm) ?_
    by_cases w2:isPerm (mv.getD k default)
    · simp -dsimp -implicitDefEqProofs (disch:=first|omega|(simp only [lenr];try omega)) only [↓amPre,↓reduceIte,reduceCtorEq,Nat.reduceEqDiff,Nat.reduceBEq,Nat.reduceAdd,Nat.reduceLeDiff,Nat.reduceSub,Nat.reduceMul,Int.reduceToNat,MM,bu0,cbP9,f5,f0,f1,w2]
      repeat' (first | omega | rfl | exact i64c (by omega) | exact vic (by omega) | exact (mem_take_succ (d:=default) hlt).2 ⟨ek,w,w2⟩ | apply And.intro)
    · simp -dsimp -implicitDefEqProofs (disch:=first|omega|(simp only [lenr];try omega)) only [↓amPre,↓reduceIte,reduceCtorEq,Nat.reduceEqDiff,Nat.reduceBEq,Nat.reduceAdd,Nat.reduceLeDiff,Nat.reduceSub,Nat.reduceMul,Int.reduceToNat,MM,bu0,cbP9,w2]
      refine fin _ ?_
      simp only [reduceCtorEq,false_iff]
      exact fun q=>w2 (q.2.2 _ hmem).2
  · have hke:k=mv.length:=by omega
    subst hke
    rw [List.take_length] at ek
    simp -dsimp -implicitDefEqProofs (disch:=first|omega|(simp only [lenr];try omega)) only [↓amPre,↓reduceIte,reduceCtorEq,Nat.reduceEqDiff,Nat.reduceBEq,Nat.reduceAdd,Nat.reduceLeDiff,Nat.reduceSub,Nat.reduceMul,Int.reduceToNat,MM,bu0,cbP9,f5,f0,f1]
    refine fin _ ?_
    simp only [true_iff]
    exact ⟨c1,by omega,ek⟩
end Go.AM
set_option maxRecDepth 8000
namespace Go.AM
open Go.Proofs
theorem moveName (l:List UInt8) (i:Nat) (hi:i<l.length) (hl:l.length≤1099511627776):SpecAt Try.prog 97 [.st l,.i64 i] (.bl (decide (nameAt l i))):=by
  refine spec_of_awp (M:=MM) (np:=2) (fz:=true) mixed Try.func97 rfl rfl (by decide) rfl (Nat.le_refl _) (by decide +kernel) (.inr ⟨rfl,rfl⟩) trivial ?_
  have fin:∀ b:Bool,(b=true↔nameAt l i)→Value.bool b=Value.bool (decide (nameAt l i)):=fun b h=>bl_eq (by rw [h,decide_eq_true_iff])
  have hu:=u8lt (l.getD i 0)
  by_cases w1:((l.getD i 0).toNat:Int)<65
  · simp -dsimp -implicitDefEqProofs (disch:=first|omega|(simp only [lenr];try omega)) only [↓amPre,↓reduceIte,reduceCtorEq,Nat.reduceEqDiff,Nat.reduceBEq,Nat.reduceAdd,Nat.reduceLeDiff,Nat.reduceSub,Nat.reduceMul,Int.reduceToNat,MM,bu0,cbP9,lt_true w1]
    refine fin _ ?_
    simp only [reduceCtorEq,false_iff]
    intro q;have:=q.1;omega
  by_cases w2:(90:Int)<((l.getD i 0).toNat:Int)
  · simp -dsimp -implicitDefEqProofs (disch:=first|omega|(simp only [lenr];try omega)) only [↓amPre,↓reduceIte,reduceCtorEq,Nat.reduceEqDiff,Nat.reduceBEq,Nat.reduceAdd,Nat.reduceLeDiff,Nat.reduceSub,Nat.reduceMul,Int.reduceToNat,MM,bu0,cbP9,lt_false (Int.not_lt.1 w1),lt_true w2]
    refine fin _ ?_
    simp only [reduceCtorEq,false_iff]
    intro q;have:=q.1;omega
  simp -dsimp -implicitDefEqProofs (disch:=first|omega|(simp only [lenr];try omega)) only [↓amPre,↓reduceIte,reduceCtorEq,Nat.reduceEqDiff,Nat.reduceBEq,Nat.reduceAdd,Nat.reduceLeDiff,Nat.reduceSub,Nat.reduceMul,Int.reduceToNat,MM,bu0,cbP9,lt_false (Int.not_lt.1 w1),lt_false (Int.not_lt.1 w2)]
  refine awp_loop (fun k st=>k≤i∧st.fr 5=.i64 k∧st.fr 1=.i64 i∧st.fr 0=.st l∧∀ y∈l.take k,y≠l.getD i 0) (i) ?_ ?_
  · simp -dsimp -implicitDefEqProofs (disch:=first|omega|(simp only [lenr];try omega)) only [↓amPre,↓reduceIte,reduceCtorEq,Nat.reduceEqDiff,Nat.reduceBEq,Nat.reduceAdd,Nat.reduceLeDiff,Nat.reduceSub,Nat.reduceMul,Int.reduceToNat,MM,bu0,cbP9]
    simp
  rintro k st _ ⟨hk,f5,f1,f0,ek⟩
  by_cases hk':k<i
  · have hmk:=mem_take_succ (l:=l) (d:=0) (p:=fun y=>y≠l.getD i 0) (show k<l.length by omega)
    cases w2:decide (l.getD k 0=l.getD i 0) with
    | true =>
      simp -dsimp -implicitDefEqProofs (disch:=first|omega|(simp only [lenr];try omega)) only [↓amPre,↓reduceIte,reduceCtorEq,Nat.reduceEqDiff,Nat.reduceBEq,Nat.reduceAdd,Nat.reduceLeDiff,Nat.reduceSub,Nat.reduceMul,Int.reduceToNat,MM,bu0,cbP9,f5,f1,f0,u8eq,w2]
      refine fin _ ?_
      simp only [reduceCtorEq,false_iff]
      intro q
      simp only [decide_eq_true_eq] at w2
      refine q.2 _ ?_ w2
      rw [List.mem_take_iff_getElem]
      exact ⟨k,by omega,(getD_eq _ _ _ (show k<l.length by omega)).symm⟩
    | false =>
      simp -dsimp -implicitDefEqProofs (disch:=first|omega|(simp only [lenr];try omega)) only [↓amPre,↓reduceIte,reduceCtorEq,Nat.reduceEqDiff,Nat.reduceBEq,Nat.reduceAdd,Nat.reduceLeDiff,Nat.reduceSub,Nat.reduceMul,Int.reduceToNat,MM,bu0,cbP9,f5,f1,f0,u8eq,w2]
      simp only [decide_eq_false_iff_not] at w2
      repeat' (first | omega | rfl | exact i64c (by omega) | exact vic (by omega) | exact hmk.2 ⟨ek,w2⟩ | apply And.intro)
  · have hke:k=i:=by omega
    subst hke
    simp -dsimp -implicitDefEqProofs (disch:=first|omega|(simp only [lenr];try omega)) only [↓amPre,↓reduceIte,reduceCtorEq,Nat.reduceEqDiff,Nat.reduceBEq,Nat.reduceAdd,Nat.reduceLeDiff,Nat.reduceSub,Nat.reduceMul,Int.reduceToNat,MM,bu0,cbP9,f5,f1,f0]
    refine fin _ ?_
    simp only [true_iff]
    exact ⟨by omega,ek⟩
theorem sPuzzle (p:Puzz) (h:smallP p):SpecAt Try.prog 27 [p.sl] (.bl (decide (puzzOk p))):=by
  have h2:=h.2.1
  have h3:=h.2.2.1
  refine spec_of_awp (M:=MM) (np:=1) (fz:=true) mixed Try.func27 rfl rfl (by decide) rfl (Nat.le_refl _) (by decide +kernel) (.inr ⟨rfl,rfl⟩) trivial ?_
  have fin:∀ b:Bool,(b=true↔puzzOk p)→Value.bool b=Value.bool (decide (puzzOk p)):=fun b h=>bl_eq (by rw [h,decide_eq_true_iff])
  by_cases c0:(p.mv.length:Int)=0
  · simp -dsimp -implicitDefEqProofs (disch:=first|omega|(simp only [lenr];try omega)) only [↓amPre,↓reduceIte,reduceCtorEq,Nat.reduceEqDiff,Nat.reduceBEq,Nat.reduceAdd,Nat.reduceLeDiff,Nat.reduceSub,Nat.reduceMul,Int.reduceToNat,MM,bu0,cbP9,eq_true c0]
    refine fin _ ?_
    simp only [reduceCtorEq,false_iff]
    intro q;have:=puzz_nm q;omega
  by_cases c1:(p.nm.length:Int)=p.mv.length
  case neg =>
    simp -dsimp -implicitDefEqProofs (disch:=first|omega|(simp only [lenr];try omega)) only [↓amPre,↓reduceIte,reduceCtorEq,Nat.reduceEqDiff,Nat.reduceBEq,Nat.reduceAdd,Nat.reduceLeDiff,Nat.reduceSub,Nat.reduceMul,Int.reduceToNat,MM,bu0,cbP9,eq_false c0,ne_true c1]
    refine fin _ ?_
    simp only [reduceCtorEq,false_iff]
    intro q;have:=q.2.2;omega
  simp -dsimp -implicitDefEqProofs (disch:=first|omega|(simp only [lenr];try omega)) only [↓amPre,↓reduceIte,reduceCtorEq,Nat.reduceEqDiff,Nat.reduceBEq,Nat.reduceAdd,Nat.reduceLeDiff,Nat.reduceSub,Nat.reduceMul,Int.reduceToNat,MM,bu0,cbP9,eq_false c0,ne_false c1]
  refine callP_of (sGen p.n p.mv h.1 h.2.2) ?_
  by_cases c2:genOk p.n p.mv
  case neg =>
    simp -dsimp -implicitDefEqProofs (disch:=first|omega|(simp only [lenr];try omega)) only [↓amPre,↓reduceIte,reduceCtorEq,Nat.reduceEqDiff,Nat.reduceBEq,Nat.reduceAdd,Nat.reduceLeDiff,Nat.reduceSub,Nat.reduceMul,Int.reduceToNat,MM,bu0,cbP9,c2]
    refine fin _ ?_
    simp only [reduceCtorEq,false_iff]
    exact fun q=>c2 q.1
  simp -dsimp -implicitDefEqProofs (disch:=first|omega|(simp only [lenr];try omega)) only [↓amPre,↓reduceIte,reduceCtorEq,Nat.reduceEqDiff,Nat.reduceBEq,Nat.reduceAdd,Nat.reduceLeDiff,Nat.reduceSub,Nat.reduceMul,Int.reduceToNat,MM,bu0,cbP9,c2]
  have c2l:=c2.2.1
  refine awp_loop (fun k st=>k≤p.nm.length∧st.fr 3=.i64 k∧st.fr 1=.loc 1 [] 0 0∧st.mem 1=some (.pt 3 (.agg [.i64 p.n,.st p.nm,ssl p.mv]))∧lettersOk (p.nm.take k)) (p.nm.length) ?_ ?_
  · simp -dsimp -implicitDefEqProofs (disch:=first|omega|(simp only [lenr];try omega)) only [↓amPre,↓reduceIte,reduceCtorEq,Nat.reduceEqDiff,Nat.reduceBEq,Nat.reduceAdd,Nat.reduceLeDiff,Nat.reduceSub,Nat.reduceMul,Int.reduceToNat,MM,bu0,cbP9]
    simp [lettersOk]
  rintro k st _ ⟨hk,f3,f1,m1,ek⟩
  by_cases hlt:k<p.nm.length
  · have hlt2:=letters_take p.nm k hlt
    simp -dsimp -implicitDefEqProofs (disch:=first|omega|(simp only [lenr];try omega)) only [↓amPre,↓reduceIte,reduceCtorEq,Nat.reduceEqDiff,Nat.reduceBEq,Nat.reduceAdd,Nat.reduceLeDiff,Nat.reduceSub,Nat.reduceMul,Int.reduceToNat,MM,bu0,cbP9,f3,f1,m1]
    refine callP_of (moveName p.nm k hlt h2) ?_
    by_cases w:nameAt p.nm k
    · simp -dsimp -implicitDefEqProofs (disch:=first|omega|(simp only [lenr];try omega)) only [↓amPre,↓reduceIte,reduceCtorEq,Nat.reduceEqDiff,Nat.reduceBEq,Nat.reduceAdd,Nat.reduceLeDiff,Nat.reduceSub,Nat.reduceMul,Int.reduceToNat,MM,bu0,cbP9,f3,f1,m1,w]
      repeat' (first | omega | rfl | exact i64c (by omega) | exact vic (by omega) | exact hlt2.2 ⟨ek,w⟩ | apply And.intro)
    · simp -dsimp -implicitDefEqProofs (disch:=first|omega|(simp only [lenr];try omega)) only [↓amPre,↓reduceIte,reduceCtorEq,Nat.reduceEqDiff,Nat.reduceBEq,Nat.reduceAdd,Nat.reduceLeDiff,Nat.reduceSub,Nat.reduceMul,Int.reduceToNat,MM,bu0,cbP9,w]
      refine fin _ ?_
      simp only [reduceCtorEq,false_iff]
      exact fun q=>w (hlt2.1 (letters_mono q.2.1.1 _)).2
  · have hke:k=p.nm.length:=by omega
    subst hke
    rw [List.take_length] at ek
    simp -dsimp -implicitDefEqProofs (disch:=first|omega|(simp only [lenr];try omega)) only [↓amPre,↓reduceIte,reduceCtorEq,Nat.reduceEqDiff,Nat.reduceBEq,Nat.reduceAdd,Nat.reduceLeDiff,Nat.reduceSub,Nat.reduceMul,Int.reduceToNat,MM,bu0,cbP9,f3,f1,m1]
    refine fin _ ?_
    simp only [true_iff]
    exact ⟨c2,⟨ek,by omega,by omega⟩,by omega⟩
end Go.AM
set_option maxRecDepth 8000
namespace Go.AM
namespace Draws
open Go.Proofs
theorem andM (a m:Int) (h0:0≤m) (h1:m≤9223372036854775807):0≤bitsI .and .i64 a m∧bitsI .and .i64 a m≤m:=by
  have e2:(BitVec.ofInt 64 m).toNat=m.toNat:=by rw [BitVec.toNat_ofInt];omega
  have h:(BitVec.ofInt 64 a &&& BitVec.ofInt 64 m).toNat≤m.toNat:=by
    rw [BitVec.toNat_and,e2]
    exact Nat.and_le_right
  have e:bitsI .and .i64 a m=((BitVec.ofInt 64 a &&& BitVec.ofInt 64 m).toNat:Int):=by
    show IntKind.i64.wrap ((BitVec.ofInt 64 a &&& BitVec.ofInt 64 m).toNat:Int)=_
    apply wrap64_id;omega
  rw [e];omega
def sdK (l:List UInt8):Nat→Int
  | 0=>590033+l.length
  | k+1=>bitsI .and .i64 (sdK l k*337+(l.getD k default).toNat+11) 1073741823
theorem sdK_ok (l:List UInt8) (h:l.length≤4096):∀ k,0≤sdK l k∧sdK l k≤1073741823
  | 0=>by simp only [sdK];omega
  | k+1=>andM _ _ (by omega) (by omega)
theorem newSource (l:List UInt8) (h:l.length≤4096):SpecAt Try.prog 78 [bsl l] (Src.pt ⟨l,0,sdK l l.length⟩):=by
  refine spec_of_awp (M:=MM) (np:=1) (fz:=false) mixed Try.func78 rfl rfl (by decide) rfl (Nat.le_refl _) (by decide +kernel) (.inl rfl) (by first | trivial | simp only [sigsOk_nil,sigsOk_some,sigsOk_none,sig_tr,sig_pt,sig_mt,sig_agg,List.map_cons,List.map_nil,sig1_tr,sig1_pt,sig1_v,and_self,true_and,List.length_map,List.length_set]) ?_
  simp -dsimp -implicitDefEqProofs (disch:=first|omega|(simp only [lenr];try omega)) only [↓amPre,↓reduceIte,reduceCtorEq,Nat.reduceEqDiff,Nat.reduceBEq,Nat.reduceAdd,Nat.reduceLeDiff,Nat.reduceSub,Nat.reduceMul,Int.reduceToNat,MM,bu0,cbP2]
  refine awp_loop (fun k st=>k≤l.length∧st.fr 4=.i64 k∧st.fr 3=.i64 (sdK l k)∧st.fr 0=bsl l) (l.length) ?_ ?_
  · simp -dsimp -implicitDefEqProofs (disch:=first|omega|(simp only [lenr];try omega)) only [↓amPre,↓reduceIte,reduceCtorEq,Nat.reduceEqDiff,Nat.reduceBEq,Nat.reduceAdd,Nat.reduceLeDiff,Nat.reduceSub,Nat.reduceMul,Int.reduceToNat,MM,bu0,cbP2]
    simp [sdK]
  rintro k st _ ⟨hk,f4,f3,f0⟩
  have hs:=sdK_ok l h k
  have hs1:sdK l (k+1)=bitsI .and .i64 (sdK l k*337+(l.getD k default).toNat+11) 1073741823:=rfl
  by_cases hlt:k<l.length
  · have hu:(l.getD k default).toNat<256:=(l.getD k default).toNat_lt
    have e0:IntKind.i64.wrap ((l.getD k default).toNat:Int)=(l.getD k default).toNat:=wrap64_id (by omega)
    have e1:IntKind.i64.wrap (sdK l k*337)=sdK l k*337:=wrap64_id (by omega)
    have e2:IntKind.i64.wrap (sdK l k*337+(l.getD k default).toNat)=sdK l k*337+(l.getD k default).toNat:=wrap64_id (by omega)
    have e3:IntKind.i64.wrap (sdK l k*337+(l.getD k default).toNat+11)=sdK l k*337+(l.getD k default).toNat+11:=wrap64_id (by omega)
    simp -dsimp -implicitDefEqProofs (disch:=first|omega|(simp only [lenr];try omega)) only [↓amPre,↓reduceIte,reduceCtorEq,Nat.reduceEqDiff,Nat.reduceBEq,Nat.reduceAdd,Nat.reduceLeDiff,Nat.reduceSub,Nat.reduceMul,Int.reduceToNat,MM,bu0,cbP2,f4,f3,f0,e0,e1,e2,e3,← hs1]
    repeat' (first|omega|rfl|exact i64c (by omega)|exact vic (by omega)|apply ai)
  · have hke:k=l.length:=by omega
    subst hke
    simp -dsimp -implicitDefEqProofs (disch:=first|omega|(simp only [lenr];try omega)) only [↓amPre,↓reduceIte,reduceCtorEq,Nat.reduceEqDiff,Nat.reduceBEq,Nat.reduceAdd,Nat.reduceLeDiff,Nat.reduceSub,Nat.reduceMul,Int.reduceToNat,MM,bu0,cbP2,f4,f3,f0]
    rfl
theorem numberUpTo (s:Src) (n:Int) (h:s.ok) (h0:0≤n) (h1:n≤1000):∃ (s':Src) (x:Int),SpecX Try.prog 186 [s.pt,.i64 n] [some s'.pt] (.i64 x)∧s'.ok∧intOk x:=by
  obtain ⟨s1,c1,q1,k1⟩:=oneIn s 10 h (by unfold intOk;omega)
  cases c1 with
  | true =>
    obtain ⟨s2,x2,q2,k2,b2⟩:=extremeInt s1 k1
    obtain ⟨s3,x3,q3,k3,b3,b4,_⟩:=below s2 4 k2 (by unfold intOk;omega)
    have b4:=b4 (by omega)
    obtain ⟨m,hm⟩:∃ m:Nat,x3=m:=⟨_,(Int.toNat_of_nonneg b3).symm⟩
    have hm4:m<4:=by omega
    subst hm
    have hin:intOk (([-1,n,n+1,x2]:List Int).getD m 0):=by
      match m,hm4 with
      | 0,_=>show intOk (-1);unfold intOk;omega
      | 1,_=>show intOk n;unfold intOk;omega
      | 2,_=>show intOk (n+1);unfold intOk;omega
      | 3,_=>exact b2
    refine ⟨s3,([-1,n,n+1,x2]:List Int).getD m 0,?_,k3,hin⟩
    have hg:([.i64 (-1),.i64 n,.i64 (n+1),.i64 x2]:List AV).getD m .any=.i64 (([-1,n,n+1,x2]:List Int).getD m 0):=by
      match m,hm4 with
      | 0,_=>rfl
      | 1,_=>rfl
      | 2,_=>rfl
      | 3,_=>rfl
    generalize ([-1,n,n+1,x2]:List Int).getD m 0=y at hg ⊢
    refine spec_of_awp (M:=MM) (np:=2) (fz:=false) mixed Try.func186 rfl rfl (by decide) rfl (Nat.le_refl _) (by decide +kernel) (.inl rfl) (by simp only [sigsOk_some,sigsOk_nil,and_true];rfl) ?_
    simp -dsimp -implicitDefEqProofs (disch:=first|omega|(simp only [lenr];try omega)) only [↓amPre,↓reduceIte,reduceCtorEq,Nat.reduceEqDiff,Nat.reduceBEq,Nat.reduceAdd,Nat.reduceLeDiff,Nat.reduceSub,Nat.reduceMul,Int.reduceToNat,MM,bu0,cbP2]
    refine callX_of (q1) ?_
    simp -dsimp -implicitDefEqProofs (disch:=first|omega|(simp only [lenr];try omega)) only [↓amPre,↓reduceIte,reduceCtorEq,Nat.reduceEqDiff,Nat.reduceBEq,Nat.reduceAdd,Nat.reduceLeDiff,Nat.reduceSub,Nat.reduceMul,Int.reduceToNat,MM,bu0,cbP2]
    refine callX_of (q2) ?_
    simp -dsimp -implicitDefEqProofs (disch:=first|omega|(simp only [lenr];try omega)) only [↓amPre,↓reduceIte,reduceCtorEq,Nat.reduceEqDiff,Nat.reduceBEq,Nat.reduceAdd,Nat.reduceLeDiff,Nat.reduceSub,Nat.reduceMul,Int.reduceToNat,MM,bu0,cbP2]
    refine callX_of (q3) ?_
    simp -dsimp -implicitDefEqProofs (disch:=first|omega|(simp only [lenr];try omega)) only [↓amPre,↓reduceIte,reduceCtorEq,Nat.reduceEqDiff,Nat.reduceBEq,Nat.reduceAdd,Nat.reduceLeDiff,Nat.reduceSub,Nat.reduceMul,Int.reduceToNat,MM,bu0,cbP2,hg]
  | false =>
    obtain ⟨s2,c2,q2,k2⟩:=oneIn s1 2 k1 (by unfold intOk;omega)
    cases c2 with
    | true =>
      have hm:1≤(if (4:Int)<n then 4 else n)+1∧(if (4:Int)<n then 4 else n)+1≤5:=by split <;> omega
      obtain ⟨s3,x3,q3,k3,b3,b4,_⟩:=below s2 ((if (4:Int)<n then 4 else n)+1) k2 (by unfold intOk;omega)
      have b4:=b4 (by omega)
      refine ⟨s3,x3,?_,k3,by unfold intOk;omega⟩
      generalize hM:(if (4:Int)<n then 4 else n)=M at q3 hm
      refine spec_of_awp (M:=MM) (np:=2) (fz:=false) mixed Try.func186 rfl rfl (by decide) rfl (Nat.le_refl _) (by decide +kernel) (.inl rfl) (by simp only [sigsOk_some,sigsOk_nil,and_true];rfl) ?_
      simp -dsimp -implicitDefEqProofs (disch:=first|omega|(simp only [lenr];try omega)) only [↓amPre,↓reduceIte,reduceCtorEq,Nat.reduceEqDiff,Nat.reduceBEq,Nat.reduceAdd,Nat.reduceLeDiff,Nat.reduceSub,Nat.reduceMul,Int.reduceToNat,MM,bu0,cbP2]
      refine callX_of (q1) ?_
      simp -dsimp -implicitDefEqProofs (disch:=first|omega|(simp only [lenr];try omega)) only [↓amPre,↓reduceIte,reduceCtorEq,Nat.reduceEqDiff,Nat.reduceBEq,Nat.reduceAdd,Nat.reduceLeDiff,Nat.reduceSub,Nat.reduceMul,Int.reduceToNat,MM,bu0,cbP2]
      refine callX_of (q2) ?_
      simp -dsimp -implicitDefEqProofs (disch:=first|omega|(simp only [lenr];try omega)) only [↓amPre,↓reduceIte,reduceCtorEq,Nat.reduceEqDiff,Nat.reduceBEq,Nat.reduceAdd,Nat.reduceLeDiff,Nat.reduceSub,Nat.reduceMul,Int.reduceToNat,MM,bu0,cbP2,minmaxP_int,hM]
      refine callX_of (q3) ?_
      simp -dsimp -implicitDefEqProofs (disch:=first|omega|(simp only [lenr];try omega)) only [↓amPre,↓reduceIte,reduceCtorEq,Nat.reduceEqDiff,Nat.reduceBEq,Nat.reduceAdd,Nat.reduceLeDiff,Nat.reduceSub,Nat.reduceMul,Int.reduceToNat,MM,bu0,cbP2]
    | false =>
      obtain ⟨s3,x3,q3,k3,b3,b4,_⟩:=below s2 (n+1) k2 (by unfold intOk;omega)
      have b4:=b4 (by omega)
      refine ⟨s3,x3,?_,k3,by unfold intOk;omega⟩
      refine spec_of_awp (M:=MM) (np:=2) (fz:=false) mixed Try.func186 rfl rfl (by decide) rfl (Nat.le_refl _) (by decide +kernel) (.inl rfl) (by simp only [sigsOk_some,sigsOk_nil,and_true];rfl) ?_
      simp -dsimp -implicitDefEqProofs (disch:=first|omega|(simp only [lenr];try omega)) only [↓amPre,↓reduceIte,reduceCtorEq,Nat.reduceEqDiff,Nat.reduceBEq,Nat.reduceAdd,Nat.reduceLeDiff,Nat.reduceSub,Nat.reduceMul,Int.reduceToNat,MM,bu0,cbP2]
      refine callX_of (q1) ?_
      simp -dsimp -implicitDefEqProofs (disch:=first|omega|(simp only [lenr];try omega)) only [↓amPre,↓reduceIte,reduceCtorEq,Nat.reduceEqDiff,Nat.reduceBEq,Nat.reduceAdd,Nat.reduceLeDiff,Nat.reduceSub,Nat.reduceMul,Int.reduceToNat,MM,bu0,cbP2]
      refine callX_of (q2) ?_
      simp -dsimp -implicitDefEqProofs (disch:=first|omega|(simp only [lenr];try omega)) only [↓amPre,↓reduceIte,reduceCtorEq,Nat.reduceEqDiff,Nat.reduceBEq,Nat.reduceAdd,Nat.reduceLeDiff,Nat.reduceSub,Nat.reduceMul,Int.reduceToNat,MM,bu0,cbP2]
      refine callX_of (q3) ?_
      simp -dsimp -implicitDefEqProofs (disch:=first|omega|(simp only [lenr];try omega)) only [↓amPre,↓reduceIte,reduceCtorEq,Nat.reduceEqDiff,Nat.reduceBEq,Nat.reduceAdd,Nat.reduceLeDiff,Nat.reduceSub,Nat.reduceMul,Int.reduceToNat,MM,bu0,cbP2]
theorem drawKinds (s:Src) (h:s.ok):∃ (s':Src) (ks:List Kind),SpecX Try.prog 228 [s.pt] [some s'.pt] (ktr ks)∧s'.ok∧kindsOk ks:=by
  obtain ⟨s1,x1,q1,k1,b1,b2,_⟩:=below s 5 h (by unfold intOk;omega)
  have b2:=b2 (by omega)
  obtain ⟨n,hn⟩:∃ n:Nat,x1=n:=⟨_,(Int.toNat_of_nonneg b1).symm⟩
  have hn5:n<5:=by omega
  subst hn
  match n,hn5 with
  | 0,_ =>
    refine ⟨s1,[⟨3,1⟩,⟨2,2⟩],?_,k1,by decide⟩
    refine spec_of_awp (M:=MM) (np:=1) (fz:=false) mixed Try.func228 rfl rfl (by decide) rfl (Nat.le_refl _) (by decide +kernel) (.inl rfl) (by simp only [sigsOk_some,sigsOk_nil,and_true];rfl) ?_
    simp -dsimp -implicitDefEqProofs (disch:=first|omega|(simp only [lenr];try omega)) only [↓amPre,↓reduceIte,reduceCtorEq,Nat.reduceEqDiff,Nat.reduceBEq,Nat.reduceAdd,Nat.reduceLeDiff,Nat.reduceSub,Nat.reduceMul,Int.reduceToNat,MM,bu0,cbP2]
    refine callX_of (q1) ?_
    simp -dsimp -implicitDefEqProofs (disch:=first|omega|(simp only [lenr];try omega)) only [↓amPre,↓reduceIte,reduceCtorEq,Nat.reduceEqDiff,Nat.reduceBEq,Nat.reduceAdd,Nat.reduceLeDiff,Nat.reduceSub,Nat.reduceMul,Int.reduceToNat,MM,bu0,cbP2]
  | 1,_ =>
    refine ⟨s1,[⟨2,3⟩],?_,k1,by decide⟩
    refine spec_of_awp (M:=MM) (np:=1) (fz:=false) mixed Try.func228 rfl rfl (by decide) rfl (Nat.le_refl _) (by decide +kernel) (.inl rfl) (by simp only [sigsOk_some,sigsOk_nil,and_true];rfl) ?_
    simp -dsimp -implicitDefEqProofs (disch:=first|omega|(simp only [lenr];try omega)) only [↓amPre,↓reduceIte,reduceCtorEq,Nat.reduceEqDiff,Nat.reduceBEq,Nat.reduceAdd,Nat.reduceLeDiff,Nat.reduceSub,Nat.reduceMul,Int.reduceToNat,MM,bu0,cbP2]
    refine callX_of (q1) ?_
    simp -dsimp -implicitDefEqProofs (disch:=first|omega|(simp only [lenr];try omega)) only [↓amPre,↓reduceIte,reduceCtorEq,Nat.reduceEqDiff,Nat.reduceBEq,Nat.reduceAdd,Nat.reduceLeDiff,Nat.reduceSub,Nat.reduceMul,Int.reduceToNat,MM,bu0,cbP2]
  | 2,_ =>
    refine ⟨s1,[⟨3,2⟩],?_,k1,by decide⟩
    refine spec_of_awp (M:=MM) (np:=1) (fz:=false) mixed Try.func228 rfl rfl (by decide) rfl (Nat.le_refl _) (by decide +kernel) (.inl rfl) (by simp only [sigsOk_some,sigsOk_nil,and_true];rfl) ?_
    simp -dsimp -implicitDefEqProofs (disch:=first|omega|(simp only [lenr];try omega)) only [↓amPre,↓reduceIte,reduceCtorEq,Nat.reduceEqDiff,Nat.reduceBEq,Nat.reduceAdd,Nat.reduceLeDiff,Nat.reduceSub,Nat.reduceMul,Int.reduceToNat,MM,bu0,cbP2]
    refine callX_of (q1) ?_
    simp -dsimp -implicitDefEqProofs (disch:=first|omega|(simp only [lenr];try omega)) only [↓amPre,↓reduceIte,reduceCtorEq,Nat.reduceEqDiff,Nat.reduceBEq,Nat.reduceAdd,Nat.reduceLeDiff,Nat.reduceSub,Nat.reduceMul,Int.reduceToNat,MM,bu0,cbP2]
  | 3,_ =>
    refine ⟨s1,[⟨1,3⟩,⟨4,1⟩],?_,k1,by decide⟩
    refine spec_of_awp (M:=MM) (np:=1) (fz:=false) mixed Try.func228 rfl rfl (by decide) rfl (Nat.le_refl _) (by decide +kernel) (.inl rfl) (by simp only [sigsOk_some,sigsOk_nil,and_true];rfl) ?_
    simp -dsimp -implicitDefEqProofs (disch:=first|omega|(simp only [lenr];try omega)) only [↓amPre,↓reduceIte,reduceCtorEq,Nat.reduceEqDiff,Nat.reduceBEq,Nat.reduceAdd,Nat.reduceLeDiff,Nat.reduceSub,Nat.reduceMul,Int.reduceToNat,MM,bu0,cbP2]
    refine callX_of (q1) ?_
    simp -dsimp -implicitDefEqProofs (disch:=first|omega|(simp only [lenr];try omega)) only [↓amPre,↓reduceIte,reduceCtorEq,Nat.reduceEqDiff,Nat.reduceBEq,Nat.reduceAdd,Nat.reduceLeDiff,Nat.reduceSub,Nat.reduceMul,Int.reduceToNat,MM,bu0,cbP2]
  | 4,_ =>
    obtain ⟨s2,x2,q2,k2,c1,c2,_⟩:=below s1 4 k1 (by unfold intOk;omega)
    obtain ⟨s3,x3,q3,k3,d1,d2,_⟩:=below s2 2 k2 (by unfold intOk;omega)
    have c2:=c2 (by omega)
    have d2:=d2 (by omega)
    have hk:kindsOk [(⟨1+x2,1+x3⟩:Kind)]:=by
      refine ⟨by simp,?_,?_⟩
      · intro k hk;rw [List.mem_singleton.1 hk];exact ⟨by simp only;omega,by simp only;omega⟩
      · have:(1+x2)*(1+x3)≤4*2:=Int.mul_le_mul (by omega) (by omega) (by omega) (by omega)
        simp only [facets];omega
    refine ⟨s3,[⟨1+x2,1+x3⟩],?_,k3,hk⟩
    refine spec_of_awp (M:=MM) (np:=1) (fz:=false) mixed Try.func228 rfl rfl (by decide) rfl (Nat.le_refl _) (by decide +kernel) (.inl rfl) (by simp only [sigsOk_some,sigsOk_nil,and_true];rfl) ?_
    simp -dsimp -implicitDefEqProofs (disch:=first|omega|(simp only [lenr];try omega)) only [↓amPre,↓reduceIte,reduceCtorEq,Nat.reduceEqDiff,Nat.reduceBEq,Nat.reduceAdd,Nat.reduceLeDiff,Nat.reduceSub,Nat.reduceMul,Int.reduceToNat,MM,bu0,cbP2]
    refine callX_of (q1) ?_
    simp -dsimp -implicitDefEqProofs (disch:=first|omega|(simp only [lenr];try omega)) only [↓amPre,↓reduceIte,reduceCtorEq,Nat.reduceEqDiff,Nat.reduceBEq,Nat.reduceAdd,Nat.reduceLeDiff,Nat.reduceSub,Nat.reduceMul,Int.reduceToNat,MM,bu0,cbP2]
    refine callX_of (q2) ?_
    simp -dsimp -implicitDefEqProofs (disch:=first|omega|(simp only [lenr];try omega)) only [↓amPre,↓reduceIte,reduceCtorEq,Nat.reduceEqDiff,Nat.reduceBEq,Nat.reduceAdd,Nat.reduceLeDiff,Nat.reduceSub,Nat.reduceMul,Int.reduceToNat,MM,bu0,cbP2]
    refine callX_of (q3) ?_
    simp -dsimp -implicitDefEqProofs (disch:=first|omega|(simp only [lenr];try omega)) only [↓amPre,↓reduceIte,reduceCtorEq,Nat.reduceEqDiff,Nat.reduceBEq,Nat.reduceAdd,Nat.reduceLeDiff,Nat.reduceSub,Nat.reduceMul,Int.reduceToNat,MM,bu0,cbP2]
end Draws
end Go.AM
set_option maxRecDepth 8000
namespace Go.AM
namespace Draws
open Go.Proofs
noncomputable def bS (s:Src) (n:Int):Src:=open Classical in if h:s.ok∧intOk n then (below s n h.1 h.2).choose else s
noncomputable def bX (s:Src) (n:Int):Int:=open Classical in if h:s.ok∧intOk n then (below s n h.1 h.2).choose_spec.choose else 0
theorem belowF (s:Src) (n:Int) (h:s.ok) (hn:intOk n):SpecX Try.prog 184 [s.pt,.i64 n] [some (bS s n).pt] (.i64 (bX s n))∧(bS s n).ok∧0≤bX s n∧(0<n→bX s n<n)∧(n≤0→bX s n=0):=by
  have:=(below s n h hn).choose_spec.choose_spec
  unfold bS bX
  rw [dif_pos ⟨h,hn⟩,dif_pos ⟨h,hn⟩]
  exact this
theorem ints_bears:∀ L:List Int,AV.bearsL (L.map AV.i64)=false
  | []=>rfl
  | _ :: r=>by rw [List.map_cons,AV.bearsL,ints_bears r];rfl
theorem grabL_ints (s:Nat) (p:Path):∀ (L:List Int) (i:Nat) (st:St) (K:List AV→St→Prop),grabL s p i (L.map AV.i64) st K=K (L.map AV.i64) st
  | [],_,_,_=>rfl
  | a :: r,i,st,K=>by
    have hb:AV.bears (AV.v (.int .i64 a))=false:=rfl
    rw [List.map_cons,grabL_cons,grabE_v,grabC_v,hb]
    refine (propext ⟨fun h=>?_,fun h=>?_⟩:_=_)
    · have h2:=h.2
      rw [grabL_ints s p r (i+1) st] at h2
      exact h2
    · refine ⟨rfl,?_⟩
      rw [grabL_ints s p r (i+1) st]
      exact h
noncomputable def ordK (s:Src):Nat→Src×List Int
  | 0=>(s,[])
  | k+1=>(bS (ordK s k).1 (k+1),(ordK s k).2.take (bX (ordK s k).1 (k+1)).toNat++[(k:Int)]++(ordK s k).2.drop (bX (ordK s k).1 (k+1)).toNat)
theorem ordK_ok (s:Src) (h:s.ok):∀ k,k≤100→(ordK s k).1.ok∧(ordK s k).2.length=k
  | 0,_=>⟨h,rfl⟩
  | k+1,hk=>by
    have ih:=ordK_ok s h k (by omega)
    have hb:=belowF (ordK s k).1 (k+1) ih.1 (by unfold intOk;omega)
    refine ⟨hb.2.1,?_⟩
    have h3:=hb.2.2.2.1 (by omega)
    simp only [ordK,List.length_append,List.length_take,List.length_drop,List.length_singleton,ih.2]
    omega
theorem drawOrder (s:Src) (n:Nat) (h:s.ok) (hn:n≤20):SpecX Try.prog 221 [s.pt,.i64 n] [some (ordK s n).1.pt] (itr (ordK s n).2):=by
  refine spec_of_awp (M:=MM) (np:=2) (fz:=false) mixed Try.func221 rfl rfl (by decide) rfl (Nat.le_refl _) (by decide +kernel) (.inl rfl) (by simp only [sigsOk_some,sigsOk_nil,and_true];rfl) ?_
  simp -dsimp -implicitDefEqProofs (disch:=first|omega|(simp only [lenr];try omega)) only [↓amPre,↓reduceIte,reduceCtorEq,Nat.reduceEqDiff,Nat.reduceBEq,Nat.reduceAdd,Nat.reduceLeDiff,Nat.reduceSub,Nat.reduceMul,Int.reduceToNat,MM,bu0,cbP2]
  refine awp_loopR 9 32 (.tr 1 []) (by simp -dsimp -implicitDefEqProofs (disch:=first|omega|(simp only [lenr];try omega)) only [↓amPre,↓reduceIte,reduceCtorEq,Nat.reduceEqDiff,Nat.reduceBEq,Nat.reduceAdd,Nat.reduceLeDiff,Nat.reduceSub,Nat.reduceMul,Int.reduceToNat,MM,bu0,cbP2]) (by decide) (by decide) (by decide) (fun k st=>k≤n∧st.fr 6=.i64 k∧st.fr 1=.i64 n∧st.fr 5=.ref 32 [] 1 0 k∧st.fr 0=.loc 0 [] 0 0∧st.mem 32=some (itr (ordK s k).2)∧st.mem 0=some ((ordK s k).1.pt)) (n) ?_ ?_
  · simp -dsimp -implicitDefEqProofs (disch:=first|omega|(simp only [lenr];try omega)) only [↓amPre,↓reduceIte,reduceCtorEq,Nat.reduceEqDiff,Nat.reduceBEq,Nat.reduceAdd,Nat.reduceLeDiff,Nat.reduceSub,Nat.reduceMul,Int.reduceToNat,MM,bu0,cbP2,ren_eq]
    simp [ordK]
  rintro k st _ ⟨hk,f6,f1,f5,f0,m32,m0⟩
  have ho:=ordK_ok s h k (by omega)
  by_cases hlt:k<n
  · obtain ⟨q1,q2,q3,q4,_⟩:=belowF (ordK s k).1 (k+1) ho.1 (by unfold intOk;omega)
    have q4:=q4 (by omega)
    have hs:ordK s (k+1)=(bS (ordK s k).1 (k+1),(ordK s k).2.take (bX (ordK s k).1 (k+1)).toNat++[(k:Int)]++(ordK s k).2.drop (bX (ordK s k).1 (k+1)).toNat):=rfl
    obtain ⟨m,hm⟩:∃ m:Nat,bX (ordK s k).1 (k+1)=m:=⟨_,(Int.toNat_of_nonneg q3).symm⟩
    rw [hm] at q1 hs q4
    rw [Int.toNat_natCast] at hs
    generalize bS (ordK s k).1 (k+1)=s2 at q1 q2 hs
    obtain ⟨ho1,ho2⟩:=ho
    generalize (ordK s k).1=s1 at q1 ho1 m0
    generalize (ordK s k).2=L at hs ho2 m32
    simp -dsimp -implicitDefEqProofs (disch:=first|omega|(simp only [lenr];try omega)) only [↓amPre,↓reduceIte,reduceCtorEq,Nat.reduceEqDiff,Nat.reduceBEq,Nat.reduceAdd,Nat.reduceLeDiff,Nat.reduceSub,Nat.reduceMul,Int.reduceToNat,MM,bu0,cbP2,f6,f1,f5,f0,m32,m0,ho2]
    refine callX_of (q1) ?_
    have hmk:m - 0≤k:=by omega
    have hbl:AV.bearsL (L.map AV.i64)=false:=ints_bears L
    have hT:List.take (m - 0) (List.drop 0 (L.map AV.i64))=(L.take m).map AV.i64:=by simp
    have hlm:(L.take m).length≤20:=by rw [List.length_take];omega
    simp -dsimp -implicitDefEqProofs (disch:=first|omega|(simp only [lenr];try omega)) only [↓amPre,↓reduceIte,reduceCtorEq,Nat.reduceEqDiff,Nat.reduceBEq,Nat.reduceAdd,Nat.reduceLeDiff,Nat.reduceSub,Nat.reduceMul,Int.reduceToNat,MM,bu0,cbP2,f6,f1,f5,f0,m32,m0,ho2,hmk,hbl,hT,grabL_ints]
    refine ⟨hlt,hlt,?_,?_,?_⟩
    · have:(List.take (m - 0) L).length+1+(List.drop m L).length=k+1:=by
        rw [List.length_take,List.length_drop];omega
      rw [this]
    · rw [hs,Nat.sub_zero]
      simp only [itr,List.map_append]
    · rw [hs]
  · have hke:k=n:=by omega
    subst hke
    simp -dsimp -implicitDefEqProofs (disch:=first|omega|(simp only [lenr];try omega)) only [↓amPre,↓reduceIte,reduceCtorEq,Nat.reduceEqDiff,Nat.reduceBEq,Nat.reduceAdd,Nat.reduceLeDiff,Nat.reduceSub,Nat.reduceMul,Int.reduceToNat,MM,bu0,cbP2,f6,f1,f5,f0,m32,m0,ho.2]
end Draws
end Go.AM
namespace Go.AM
/-! the permutation of a piece state is one -/
theorem mod_inj {o j j' b:Nat} (hj:j<o) (hj':j'<o) (e:(j+b) % o=(j'+b) % o):j=j':=by
  have key:∀ j j',j≤j'→j'<o→(j+b) % o=(j'+b) % o→j=j':=by
    intro j j' hle hlt e
    have h1:(j'+b - (j+b)) % o=0:=Nat.sub_mod_eq_zero_of_mod_eq e.symm
    have h2:j'+b - (j+b)=j' - j:=by omega
    rw [h2,Nat.mod_eq_of_lt (by omega)] at h1
    omega
  rcases Nat.le_total j j' with h | h
  · exact key j j' h hj' e
  · exact (key j' j h hj e.symm).symm
theorem tmod_nat (a:Int) (o:Nat) (h:0≤a):a.tmod (o:Int)=((a.toNat % o:Nat):Int):=by
  obtain ⟨n,rfl⟩:=Int.eq_ofNat_of_zero_le h
  rw [Int.tmod_eq_emod_of_nonneg (by omega)];simp
theorem cell_mem {base to by':Int} {o j:Nat} (hb:0≤by') (ho:0<o) {x:Int} (hx:x∈cellL base o to by' j):∃ m:Nat,m<o∧x=base+to*o+m:=by
  unfold cellL at hx
  obtain ⟨i,_,rfl⟩:=List.mem_map.1 hx
  rw [tmod_nat _ _ (by omega)]
  exact ⟨_,Nat.mod_lt _ ho,rfl⟩
theorem cell_nodup {base to by':Int} {o:Nat} (hb:0≤by'):∀ j,j≤o→(cellL base o to by' j).Nodup:=by
  intro j hj
  unfold cellL
  rw [List.Nodup,List.pairwise_map]
  refine List.Pairwise.imp_of_mem ?_ (List.nodup_range (n:=j))
  intro a b ha hb' hab e
  rw [List.mem_range] at ha hb'
  rw [tmod_nat _ _ (by omega),tmod_nat _ _ (by omega)] at e
  have e2:((a:Int)+by').toNat % o=((b:Int)+by').toNat % o:=by omega
  have e3:((a:Int)+by').toNat=a+by'.toNat:=by omega
  have e4:((b:Int)+by').toNat=b+by'.toNat:=by omega
  rw [e3,e4] at e2
  exact hab (mod_inj (by omega) (by omega) e2)
theorem split_uniq {o m m':Nat} {a a':Int} (hm:m<o) (hm':m'<o) (e:a*o+m=a'*o+m'):a=a':=by
  have h1:(a*o+m) / (o:Int)=a:=by
    rw [Int.add_comm,Int.add_mul_ediv_right _ _ (by omega),Int.ediv_eq_zero_of_lt (by omega) (by omega)];omega
  have h2:(a'*o+m') / (o:Int)=a':=by
    rw [Int.add_comm,Int.add_mul_ediv_right _ _ (by omega),Int.ediv_eq_zero_of_lt (by omega) (by omega)];omega
  rw [← h1,e,h2]
theorem row_mem {base:Int} {o:Nat} {t:Twist} (ho:0<o):∀ i,i≤t.to.length→i≤t.by'.length→(∀ x∈t.by',0≤x)→∀ x∈rowL base o t i,∃ j m:Nat,j<i∧m<o∧x=base+t.to.getD j 0*o+m
  | 0,_,_,_,x,hx=>by simp [rowL] at hx
  | i+1,h1,h2,hb,x,hx=>by
    rw [rowL,List.mem_append] at hx
    rcases hx with hx | hx
    · obtain ⟨j,m,h3,h4,h5⟩:=row_mem ho i (by omega) (by omega) hb x hx
      exact ⟨j,m,by omega,h4,h5⟩
    · rw [Int.toNat_natCast] at hx
      obtain ⟨m,h3,h4⟩:=cell_mem (hb _ (mem_getD t.by' i 0 (by omega))) ho hx
      exact ⟨i,m,by omega,h3,h4⟩
theorem row_nodup {base:Int} {o:Nat} {t:Twist} (ho:0<o) (hp:isPerm t.to):∀ i,i≤t.to.length→i≤t.by'.length→(∀ x∈t.by',0≤x)→(rowL base o t i).Nodup
  | 0,_,_,_=>by simp [rowL]
  | i+1,h1,h2,hb=>by
    rw [rowL,List.nodup_append,Int.toNat_natCast]
    refine ⟨row_nodup ho hp i (by omega) (by omega) hb,cell_nodup (hb _ (mem_getD t.by' i 0 (by omega))) o (Nat.le_refl _),?_⟩
    intro a ha b hb' e
    subst e
    obtain ⟨j,m,h3,h4,h5⟩:=row_mem ho i (by omega) (by omega) hb a ha
    obtain ⟨m',h6,h7⟩:=cell_mem (hb _ (mem_getD t.by' i 0 (by omega))) ho hb'
    have:=split_uniq h4 h6 (show t.to.getD j 0*o+m=t.to.getD i 0*o+m' by omega)
    have:=perm_inj hp (by omega) (by omega) this
    omega
theorem permL_ok {ks:List Kind} {s:List Twist} (ps:psOk ks s):∀ n,n≤ks.length→(∀ x∈permL ks s n,0≤x∧x<facets (ks.take n))∧(permL ks s n).Nodup
  | 0,_=>by simp [permL]
  | n+1,hn=>by
    obtain ⟨h1,h2⟩:=permL_ok ps n (by omega)
    have ta:=tw_get ps (show n<ks.length by omega)
    have hk:=ps.1.2.1 _ (mem_getD ks n default (by omega))
    obtain ⟨c,o,hc,ho,la,la',c1,c2,o1,o2⟩:=twOk_facts ta hk
    have hlen:=permL_len ks s ps.1.2.1 n (by omega)
    have hft:=facets_take ks n (by omega)
    have hby:∀ x∈(s.getD n default).by',0≤x:=fun x hx=>(ta.2.2.2 x hx).1
    have hrow:∀ x∈rowL (permL ks s n).length o (s.getD n default) c,(permL ks s n).length≤x∧x<facets (ks.take (n+1)):=by
      intro x hx
      obtain ⟨j,m,h3,h4,h5⟩:=row_mem (by omega) c (by omega) (by omega) hby x hx
      have hg:=to_get ta (show j<(s.getD n default).to.length by omega)
      have e1:(s.getD n default).to.getD j 0*o≤((c:Int) - 1)*o:=Int.mul_le_mul_of_nonneg_right (by omega) (by omega)
      have e2:0≤(s.getD n default).to.getD j 0*(o:Int):=Int.mul_nonneg hg.1 (by omega)
      have e3:((c:Int) - 1)*o=c*o - o:=by rw [Int.sub_mul];omega
      rw [hft,hc,ho,h5]
      omega
    rw [permL,hc,ho,Int.toNat_natCast]
    refine ⟨fun x hx=>?_,?_⟩
    · rcases List.mem_append.1 hx with hx | hx
      · have:=h1 x hx
        have:0≤(c:Int)*o:=Int.mul_nonneg (by omega) (by omega)
        rw [hft,hc,ho];omega
      · have:=hrow x hx;omega
    · rw [List.nodup_append]
      refine ⟨h2,row_nodup (by omega) ta.2.2.1 c (by omega) (by omega) hby,?_⟩
      intro a ha b hb e
      subst e
      have:=h1 a ha
      have:=hrow a hb
      omega
theorem permOf_len {ks:List Kind} {s:List Twist} (ps:psOk ks s):((permOf ks s).length:Int)=facets ks:=by
  have:=permL_len ks s ps.1.2.1 ks.length (Nat.le_refl _)
  rwa [List.take_length] at this
theorem permOf_perm {ks:List Kind} {s:List Twist} (ps:psOk ks s):isPerm (permOf ks s):=by
  have hl:=permOf_len ps
  have hb:=facets_bound ks ps.1.2.1
  have:=ps.1.2.2
  have:=ps.1.1.1
  obtain ⟨h1,h2⟩:=permL_ok ps ks.length (Nat.le_refl _)
  rw [List.take_length,← hl] at h1
  exact ⟨by omega,h1,h2⟩
end Go.AM
set_option maxRecDepth 8000
namespace Go.AM
open Go.Proofs
def cpL (a b:List Int) (k:Nat):List Int:=(List.range k).map fun i=>b.getD (a.getD i 0).toNat 0
theorem cpL_succ (a b:List Int) (k:Nat):cpL a b (k+1)=cpL a b k++[b.getD (a.getD k 0).toNat 0]:=range_succ_map _ k
theorem cpL_len (a b:List Int) (k:Nat):(cpL a b k).length=k:=by simp [cpL]
theorem scompose (a b:List Int) (hl:a.length≤20) (h:∀ x∈a,0≤x∧x<b.length):SpecAt Try.prog 103 [isl a,isl b] (itr (cpL a b a.length)):=by
  refine spec_of_awp (M:=MM) (np:=2) (fz:=false) mixed Try.func103 rfl rfl (by decide) rfl (Nat.le_refl _) (by decide +kernel) (.inl rfl) (by first | trivial | simp only [sigsOk_nil,sigsOk_some,sigsOk_none,sig_tr,sig_pt,sig_mt,sig_agg,List.map_cons,List.map_nil,sig1_tr,sig1_pt,sig1_v,and_self,true_and,List.length_map,List.length_set]) ?_
  simp -dsimp -implicitDefEqProofs (disch:=first|omega|(simp only [lenr];try omega)) only [↓amPre,↓reduceIte,reduceCtorEq,Nat.reduceEqDiff,Nat.reduceBEq,Nat.reduceAdd,Nat.reduceLeDiff,Nat.reduceSub,Nat.reduceMul,Int.reduceToNat,MM,bu0,cbP6]
  refine awp_loopR 7 23 (.tr 1 []) (by simp -dsimp -implicitDefEqProofs (disch:=first|omega|(simp only [lenr];try omega)) only [↓amPre,↓reduceIte,reduceCtorEq,Nat.reduceEqDiff,Nat.reduceBEq,Nat.reduceAdd,Nat.reduceLeDiff,Nat.reduceSub,Nat.reduceMul,Int.reduceToNat,MM,bu0,cbP6]) (by decide) (by decide) (by decide) (fun k st=>k≤a.length∧st.fr 6=.i64 k∧st.fr 0=isl a∧st.fr 1=isl b∧st.fr 5=.ref 23 [] 1 0 k∧st.mem 23=some (itr (cpL a b k))) (a.length) ?_ ?_
  · simp -dsimp -implicitDefEqProofs (disch:=first|omega|(simp only [lenr];try omega)) only [↓amPre,↓reduceIte,reduceCtorEq,Nat.reduceEqDiff,Nat.reduceBEq,Nat.reduceAdd,Nat.reduceLeDiff,Nat.reduceSub,Nat.reduceMul,Int.reduceToNat,MM,bu0,cbP6,ren_eq]
    simp [cpL]
  rintro k st _ ⟨hk,f6,f0,f1,f5,m23⟩
  have hcl:=cpL_len a b k
  have hcs:=cpL_succ a b k
  by_cases hlt:k<a.length
  · obtain ⟨x0,x1⟩:=h _ (mem_getD a k 0 hlt)
    obtain ⟨m,hm⟩:∃ m:Nat,a.getD k 0=m:=⟨_,(Int.toNat_of_nonneg x0).symm⟩
    rw [hm,Int.toNat_natCast] at hcs
    have hmb:m<b.length:=by omega
    simp -dsimp -implicitDefEqProofs (disch:=first|omega|(simp only [lenr];try omega)) only [↓amPre,↓reduceIte,reduceCtorEq,Nat.reduceEqDiff,Nat.reduceBEq,Nat.reduceAdd,Nat.reduceLeDiff,Nat.reduceSub,Nat.reduceMul,Int.reduceToNat,MM,bu0,cbP6,f6,f0,f1,f5,m23,hm,hcl,← hcs]
    repeat' (first|omega|rfl|exact i64c (by omega)|exact vic (by omega)|apply ai)
  · have hke:k=a.length:=by omega
    subst hke
    simp -dsimp -implicitDefEqProofs (disch:=first|omega|(simp only [lenr];try omega)) only [↓amPre,↓reduceIte,reduceCtorEq,Nat.reduceEqDiff,Nat.reduceBEq,Nat.reduceAdd,Nat.reduceLeDiff,Nat.reduceSub,Nat.reduceMul,Int.reduceToNat,MM,bu0,cbP6,f6,f0,f1,f5,m23,hcl]
def ivL (p:List Int):Nat→List Int
  | 0=>List.replicate p.length 0
  | k+1=>(ivL p k).set (p.getD k 0).toNat (k:Int)
theorem ivL_len (p:List Int):∀ k,(ivL p k).length=p.length
  | 0=>by simp [ivL]
  | k+1=>by rw [ivL,List.length_set,ivL_len p k]
theorem sinverse (p:List Int) (hp:isPerm p):SpecAt Try.prog 231 [isl p] (itr (ivL p p.length)):=by
  have hl20:=hp.1.2
  refine spec_of_awp (M:=MM) (np:=1) (fz:=false) mixed Try.func231 rfl rfl (by decide) rfl (Nat.le_refl _) (by decide +kernel) (.inl rfl) (by first | trivial | simp only [sigsOk_nil,sigsOk_some,sigsOk_none,sig_tr,sig_pt,sig_mt,sig_agg,List.map_cons,List.map_nil,sig1_tr,sig1_pt,sig1_v,and_self,true_and,List.length_map,List.length_set]) ?_
  simp -dsimp -implicitDefEqProofs (disch:=first|omega|(simp only [lenr];try omega)) only [↓amPre,↓reduceIte,reduceCtorEq,Nat.reduceEqDiff,Nat.reduceBEq,Nat.reduceAdd,Nat.reduceLeDiff,Nat.reduceSub,Nat.reduceMul,Int.reduceToNat,MM,bu0,cbP6]
  refine awp_loop (fun k st=>k≤p.length∧st.fr 4=.i64 k∧st.fr 0=isl p∧st.fr 3=.ref 7 [] 1 0 p.length∧st.mem 7=some (itr (ivL p k))) (p.length) ?_ ?_
  · simp -dsimp -implicitDefEqProofs (disch:=first|omega|(simp only [lenr];try omega)) only [↓amPre,↓reduceIte,reduceCtorEq,Nat.reduceEqDiff,Nat.reduceBEq,Nat.reduceAdd,Nat.reduceLeDiff,Nat.reduceSub,Nat.reduceMul,Int.reduceToNat,MM,bu0,cbP6]
    simp [ivL]
  rintro k st _ ⟨hk,f4,f0,f3,m7⟩
  have hil:=ivL_len p k
  have his:ivL p (k+1)=(ivL p k).set (p.getD k 0).toNat (k:Int):=rfl
  by_cases hlt:k<p.length
  · have hx:=hp.2.1 _ (mem_getD p k 0 hlt)
    obtain ⟨m,hm⟩:∃ m:Nat,p.getD k 0=m:=⟨_,(Int.toNat_of_nonneg hx.1).symm⟩
    rw [hm,Int.toNat_natCast] at his
    have hmb:m<p.length:=by omega
    simp -dsimp -implicitDefEqProofs (disch:=first|omega|(simp only [lenr];try omega)) only [↓amPre,↓reduceIte,reduceCtorEq,Nat.reduceEqDiff,Nat.reduceBEq,Nat.reduceAdd,Nat.reduceLeDiff,Nat.reduceSub,Nat.reduceMul,Int.reduceToNat,MM,bu0,cbP6,f4,f0,f3,m7,hm,hil,← his]
    repeat' (first|omega|rfl|exact i64c (by omega)|exact vic (by omega)|apply ai)
  · have hke:k=p.length:=by omega
    subst hke
    simp -dsimp -implicitDefEqProofs (disch:=first|omega|(simp only [lenr];try omega)) only [↓amPre,↓reduceIte,reduceCtorEq,Nat.reduceEqDiff,Nat.reduceBEq,Nat.reduceAdd,Nat.reduceLeDiff,Nat.reduceSub,Nat.reduceMul,Int.reduceToNat,MM,bu0,cbP6,f4,f0,f3,m7,hil]
end Go.AM
namespace Go.AM
/-! the permutation of a composite,and of an inverse,of piece states -/
theorem isPerm_of {l:List Int} (h1:1≤l.length∧l.length≤20) (hr:∀ i,i<l.length→0≤l.getD i 0∧l.getD i 0<l.length) (inj:∀ i j,i<l.length→j<l.length→l.getD i 0=l.getD j 0→i=j):isPerm l:=by
  refine ⟨h1,fun x hx=>?_,?_⟩
  · obtain ⟨i,hi,rfl⟩:=List.getElem_of_mem hx
    have:=hr i hi
    rwa [getD_eq _ _ _ hi] at this
  · rw [List.Nodup,List.pairwise_iff_getElem]
    intro i j hi hj hij e
    have:=inj i j hi hj (by rw [getD_eq _ _ _ hi,getD_eq _ _ _ hj];exact e)
    omega
theorem compI_perm {p q:List Int} (hp:isPerm p) (hq:isPerm q) (hl:p.length=q.length):isPerm (compI p q):=by
  refine isPerm_of (by rw [compI_len];exact hp.1) (fun i hi=>?_) (fun i j hi hj e=>?_)
  · rw [compI_len] at hi ⊢
    rw [compI_get _ _ _ hi]
    have h1:=perm_get hp hi
    have h2:=perm_get hq (show (p.getD i 0).toNat<q.length by omega)
    omega
  · rw [compI_len] at hi hj
    rw [compI_get _ _ _ hi,compI_get _ _ _ hj] at e
    have h1:=perm_get hp hi
    have h2:=perm_get hp hj
    have:=perm_inj hq (by omega) (by omega) e
    exact perm_inj hp hi hj (by omega)
theorem invI_get {p:List Int} (hp:isPerm p) {i:Nat} (hi:i<p.length):(invI p).getD (p.getD i 0).toNat 0=i:=by
  rw [invI,scat_get _ p _ 0 hp (by simp) _ (Nat.le_refl _) i hi]
theorem invI_perm {p:List Int} (hp:isPerm p):isPerm (invI p):=by
  refine isPerm_of (by rw [invI_len];exact hp.1) (fun j hj=>?_) (fun j j' hj hj' e=>?_)
  · rw [invI_len] at hj ⊢
    obtain ⟨i,hi,rfl⟩:=perm_surj hp j hj
    rw [invI_get hp hi];omega
  · rw [invI_len] at hj hj'
    obtain ⟨i,hi,rfl⟩:=perm_surj hp j hj
    obtain ⟨i',hi',rfl⟩:=perm_surj hp j' hj'
    rw [invI_get hp hi,invI_get hp hi'] at e
    have:i=i':=by omega
    rw [this]
theorem tmod_in {a o:Int} (h:0≤a) (ho:0<o):0≤a.tmod o∧a.tmod o<o:=⟨Int.tmod_nonneg _ h,Int.tmod_lt_of_pos _ ho⟩
theorem comp_ok {ks:List Kind} {a b:List Twist} (pa:psOk ks a) (pb:psOk ks b):psOk ks (compS ks a b):=by
  refine ⟨pa.1,compS_len ..,fun n hn=>?_⟩
  rw [compS,range_map_get _ _ _ _ hn]
  have ta:=tw_get pa hn
  have tb:=tw_get pb hn
  have hk:=pa.1.2.1 _ (mem_getD ks n default hn)
  obtain ⟨c,o,hc,ho,la,la',c1,c2,o1,o2⟩:=twOk_facts ta hk
  obtain ⟨c',o',hc',ho',lb,lb',_⟩:=twOk_facts tb hk
  refine ⟨by simp only [compT,compI_len];omega,by simp only [compT,range_map_len];omega,compI_perm ta.2.2.1 tb.2.2.1 (by omega),fun x hx=>?_⟩
  obtain ⟨i,hi,rfl⟩:=List.mem_map.1 hx
  rw [List.mem_range] at hi
  have h1:=by_get ta (show i<(a.getD n default).by'.length by omega)
  have h2:=to_get ta hi
  have h3:=by_get tb (show ((a.getD n default).to.getD i 0).toNat<(b.getD n default).by'.length by omega)
  exact tmod_in (by omega) (by omega)
def bas (ks:List Kind) (n:Nat):Nat:=(facets (ks.take n)).toNat
theorem cell_get {base o to by':Int} {n j:Nat} (h:j<n):(cellL base o to by' n).getD j 0=base+to*o+((j:Int)+by').tmod o:=by
  unfold cellL;rw [range_map_get _ _ _ _ h]
theorem getD_app_l {α:Type} (a b:List α) (i:Nat) (d:α) (h:i<a.length):(a++b).getD i d=a.getD i d:=by
  simp only [List.getD,List.getElem?_append_left h]
theorem getD_app_r {α:Type} (a b:List α) (i:Nat) (d:α):(a++b).getD (a.length+i) d=b.getD i d:=by
  simp only [List.getD,List.getElem?_append_right (show a.length≤a.length+i by omega)]
  congr 2;omega
theorem in_row {i j c o:Nat} (hi:i<c) (hj:j<o):i*o+j<c*o:=by
  have h1:(i+1)*o≤c*o:=Nat.mul_le_mul_right o hi
  rw [Nat.succ_mul] at h1;omega
theorem row_get {base:Int} {o:Nat} {t:Twist}:∀ m i j,i<m→j<o→(rowL base o t m).getD (i*o+j) 0=base+t.to.getD i 0*o+((j:Int)+t.by'.getD i 0).tmod o
  | m+1,i,j,hi,hj=>by
    have hl:=rowL_len base o t m
    rw [Int.toNat_natCast] at hl
    rw [rowL,Int.toNat_natCast]
    by_cases h:i<m
    · rw [getD_app_l _ _ _ _ (by rw [hl];exact in_row h hj)]
      exact row_get m i j h hj
    · have:i=m:=by omega
      subst this
      have e:i*o+j=(rowL base o t i).length+j:=by rw [hl]
      rw [e,getD_app_r,cell_get hj]
theorem bas_len {ks:List Kind} {s:List Twist} (h:∀ k∈ks,kOk k) {n:Nat} (hn:n≤ks.length):(permL ks s n).length=bas ks n:=by
  have:=permL_len ks s h n hn
  unfold bas;omega
theorem bas_succ {ks:List Kind} (h:kindsOk ks) {n c o:Nat} (hn:n<ks.length) (hc:(ks.getD n default).c=c) (ho:(ks.getD n default).o=o):bas ks (n+1)=bas ks n+c*o:=by
  have h1:=facets_take ks n hn
  have h2:=(facets_mono ks h.2.1 n).2
  have h3:((c*o:Nat):Int)=(c:Int)*o:=by simp
  rw [hc,ho,← h3] at h1
  unfold bas;omega
theorem bas_le {ks:List Kind} (h:kindsOk ks) {m:Nat}:∀ d,m+d≤ks.length→bas ks m≤bas ks (m+d)
  | 0,_=>Nat.le_refl _
  | d+1,hd=>by
    have hk:=h.2.1 _ (mem_getD ks (m+d) default (by omega))
    have ih:=bas_le h (m:=m) d (by omega)
    obtain ⟨c,hc⟩:∃ c:Nat,(ks.getD (m+d) default).c=c:=⟨_,(Int.toNat_of_nonneg (by have:=hk.1;omega)).symm⟩
    obtain ⟨o,ho⟩:∃ o:Nat,(ks.getD (m+d) default).o=o:=⟨_,(Int.toNat_of_nonneg (by have:=hk.2;omega)).symm⟩
    have:=bas_succ h (show m+d<ks.length by omega) hc ho
    rw [← Nat.add_assoc,this];omega
theorem permL_get {ks:List Kind} {s:List Twist} (ps:psOk ks s):∀ n,n≤ks.length→∀ (k i j c o:Nat),k<n→(ks.getD k default).c=c→(ks.getD k default).o=o→i<c→j<o →
    (permL ks s n).getD (bas ks k+(i*o+j)) 0=bas ks k+(s.getD k default).to.getD i 0*o+((j:Int)+(s.getD k default).by'.getD i 0).tmod o
  | n+1,hn,k,i,j,c,o,hk,hc,ho,hi,hj=>by
    have hl:=bas_len (s:=s) ps.1.2.1 (show n≤ks.length by omega)
    rw [permL]
    by_cases h:k<n
    · have h1:=bas_succ ps.1 (show k<ks.length by omega) hc ho
      have h2:=bas_le ps.1 (m:=k+1) (n - (k+1)) (by omega)
      rw [show k+1+(n - (k+1))=n by omega] at h2
      have h3:=in_row hi hj
      rw [getD_app_l _ _ _ _ (by omega)]
      exact permL_get ps n (by omega) k i j c o h hc ho hi hj
    · have:k=n:=by omega
      subst this
      rw [← hl,getD_app_r,hc,ho,Int.toNat_natCast,row_get c i j hi hj]
theorem bas_surj {ks:List Kind} (h:kindsOk ks):∀ n,n≤ks.length→∀ x,x<bas ks n→∃ k i j c o:Nat,k<n∧(ks.getD k default).c=c∧(ks.getD k default).o=o∧i<c∧j<o∧x=bas ks k+(i*o+j)
  | 0,_,x,hx=>by simp [bas,facets] at hx
  | n+1,hn,x,hx=>by
    by_cases h1:x<bas ks n
    · obtain ⟨k,i,j,c,o,h2,h3⟩:=bas_surj h n (by omega) x h1
      exact ⟨k,i,j,c,o,by omega,h3⟩
    · have hk:=h.2.1 _ (mem_getD ks n default (by omega))
      obtain ⟨c,hc⟩:∃ c:Nat,(ks.getD n default).c=c:=⟨_,(Int.toNat_of_nonneg (by have:=hk.1;omega)).symm⟩
      obtain ⟨o,ho⟩:∃ o:Nat,(ks.getD n default).o=o:=⟨_,(Int.toNat_of_nonneg (by have:=hk.2;omega)).symm⟩
      have hb:=bas_succ h (show n<ks.length by omega) hc ho
      have ho1:0<o:=by have:=hk.2;omega
      refine ⟨n,(x - bas ks n) / o,(x - bas ks n) % o,c,o,by omega,hc,ho,?_,Nat.mod_lt _ ho1,?_⟩
      · rw [Nat.div_lt_iff_lt_mul ho1];omega
      · have:=Nat.div_add_mod (x - bas ks n) o
        rw [Nat.mul_comm] at this;omega
theorem kinds_nat {ks:List Kind} {a:List Twist} (pa:psOk ks a) {k i c o j:Nat} (hk:k<ks.length) (hc:(ks.getD k default).c=c) (ho:(ks.getD k default).o=o) (hi:i<c) (hj:j<o) :
    ∃ t b m:Nat,(a.getD k default).to.getD i 0=t∧(a.getD k default).by'.getD i 0=b∧t<c∧b<o∧m<o∧m=(j+b) % o∧(permOf ks a).getD (bas ks k+(i*o+j)) 0=((bas ks k+(t*o+m):Nat):Int):=by
  have ta:=tw_get pa hk
  have hl:((a.getD k default).to.length:Int)=c:=by rw [← hc];exact ta.1
  have hl':((a.getD k default).by'.length:Int)=c:=by rw [← hc];exact ta.2.1
  have h1:=to_get ta (show i<(a.getD k default).to.length by omega)
  have h2:=by_get ta (show i<(a.getD k default).by'.length by omega)
  obtain ⟨t,ht⟩:∃ t:Nat,(a.getD k default).to.getD i 0=t:=⟨_,(Int.toNat_of_nonneg h1.1).symm⟩
  obtain ⟨b,hb⟩:∃ b:Nat,(a.getD k default).by'.getD i 0=b:=⟨_,(Int.toNat_of_nonneg h2.1).symm⟩
  have hg:=permL_get pa ks.length (Nat.le_refl _) k i j c o hk hc ho hi hj
  rw [ht,hb,tmod_nat _ _ (by omega),show ((j:Int)+(b:Int)).toNat=j+b by omega] at hg
  refine ⟨t,b,(j+b) % o,ht,hb,by omega,by omega,Nat.mod_lt _ (by omega),rfl,?_⟩
  show (permL ks a ks.length).getD _ 0=_
  rw [hg,Int.natCast_add,Int.natCast_add,Int.natCast_mul];omega
theorem permOf_length {ks:List Kind} {a:List Twist} (pa:psOk ks a):(permOf ks a).length=bas ks ks.length:=bas_len pa.1.2.1 (Nat.le_refl _)
theorem perm_comp {ks:List Kind} {a b:List Twist} (pa:psOk ks a) (pb:psOk ks b):permOf ks (compS ks a b)=compI (permOf ks a) (permOf ks b):=by
  have pc:=comp_ok pa pb
  refine ext_getD 0 (by rw [compI_len,permOf_length pc,permOf_length pa]) fun x hx=>?_
  rw [permOf_length pc] at hx
  rw [compI_get _ _ _ (by rw [permOf_length pa];exact hx)]
  obtain ⟨k,i,j,c,o,hk,hc,ho,hi,hj,rfl⟩:=bas_surj pa.1 _ (Nat.le_refl _) x hx
  obtain ⟨t,y,m,h1,h2,h3,h4,h5,h6,h7⟩:=kinds_nat pa hk hc ho hi hj
  obtain ⟨t',y',m',g1,g2,g3,g4,g5,g6,g7⟩:=kinds_nat pb hk hc ho h3 h5
  obtain ⟨t'',y'',m'',f1,f2,f3,f4,f5,f6,f7⟩:=kinds_nat pc hk hc ho hi hj
  rw [h7,Int.toNat_natCast,g7,f7]
  have ta:=tw_get pa hk
  have hl:((a.getD k default).to.length:Int)=c:=by rw [← hc];exact ta.1
  have hcomp:(compS ks a b).getD k default=compT (ks.getD k default).o (a.getD k default) (b.getD k default):=by rw [compS,range_map_get _ _ _ _ hk]
  rw [hcomp] at f1 f2
  simp only [compT] at f1 f2
  rw [compI_get _ _ _ (by omega),h1,Int.toNat_natCast,g1] at f1
  rw [range_map_get _ _ _ _ (by omega),compB,h1,h2,Int.toNat_natCast,g2,ho,tmod_nat _ _ (by omega),show ((y:Int)+(y':Int)).toNat=y+y' by omega] at f2
  have e1:t''=t':=by omega
  have e2:y''=(y+y') % o:=by omega
  have e3:m''=m':=by rw [f6,g6,h6,e2,Nat.add_mod_mod,Nat.mod_add_mod,Nat.add_assoc]
  rw [e1,e3]
end Go.AM
namespace Go.AM
/-! the effect of a word;the points that it moves -/
theorem run_perm {n:Nat} (h1:1≤n) (h2:n≤20):isPerm (runI 0 n):=by
  refine isPerm_of (by rw [runI_len];omega) (fun i hi=>?_) (fun i j hi hj e=>?_)
  · rw [runI_len] at hi ⊢
    rw [runI_get 0 n i hi];omega
  · rw [runI_len] at hi hj
    rw [runI_get 0 n i hi,runI_get 0 n j hj] at e;omega
def movL (p:List Int) (k:Nat):List Int:=((List.range k).filter fun i=>p.getD i 0 != (i:Int)).map fun (i:Nat)=>(i:Int)
theorem mem_movL {p:List Int} {k:Nat} {x:Int}:x∈movL p k↔∃ i:Nat,i<k∧p.getD i 0≠i∧x=i:=by
  unfold movL
  simp only [List.mem_map,List.mem_filter,List.mem_range,bne_iff_ne,ne_eq]
  constructor
  · rintro ⟨i,⟨h1,h2⟩,h3⟩;exact ⟨i,h1,h2,h3.symm⟩
  · rintro ⟨i,h1,h2,h3⟩;exact ⟨i,⟨h1,h2⟩,h3.symm⟩
end Go.AM
set_option maxRecDepth 8000
namespace Go.AM
open Go.Proofs
theorem sIdentity (n:Nat) (hn:n≤20):SpecAt Try.prog 132 [.i64 n] (itr (runI 0 n)):=by
  refine spec_of_awp (M:=MM) (np:=1) (fz:=false) mixed Try.func132 rfl rfl (by decide) rfl (Nat.le_refl _) (by decide +kernel) (.inl rfl) (by first | trivial | simp only [sigsOk_nil,sigsOk_some,sigsOk_none,sig_tr,sig_pt,sig_mt,sig_agg,List.map_cons,List.map_nil,sig1_tr,sig1_pt,sig1_v,and_self,true_and,List.length_map,List.length_set]) ?_
  simp -dsimp -implicitDefEqProofs (disch:=first|omega|(simp only [lenr];try omega)) only [↓amPre,↓reduceIte,reduceCtorEq,Nat.reduceEqDiff,Nat.reduceBEq,Nat.reduceAdd,Nat.reduceLeDiff,Nat.reduceSub,Nat.reduceMul,Int.reduceToNat,MM,bu0,cbP9]
  refine awp_loop (fun k st=>k≤n∧st.fr 4=.i64 k∧st.fr 0=.i64 n∧((k=0∧st.fr 3=.ref 5 [] 1 0 0∧st.mem 5=some (.tr 1 []))∨(0<k∧st.fr 3=.ref 14 [] 1 0 k∧st.mem 14=some (itr (runI 0 k))))) (n) ?_ ?_
  · simp -dsimp -implicitDefEqProofs (disch:=first|omega|(simp only [lenr];try omega)) only [↓amPre,↓reduceIte,reduceCtorEq,Nat.reduceEqDiff,Nat.reduceBEq,Nat.reduceAdd,Nat.reduceLeDiff,Nat.reduceSub,Nat.reduceMul,Int.reduceToNat,MM,bu0,cbP9]
    simp
  rintro k st _ ⟨hk,f4,f0,ek⟩
  have hr:=runI_succ 0 k
  rw [Int.zero_add] at hr
  have hl:=runI_len 0 k
  have hl2:=runI_len 0 (k+1)
  rcases ek with ⟨rfl,g3,g5⟩ | ⟨h0,g3,g5⟩
  · by_cases hlt:0<n
    · have h1:runI 0 1=[0]:=rfl
      simp -dsimp -implicitDefEqProofs (disch:=first|omega|(simp only [lenr];try omega)) only [↓amPre,↓reduceIte,reduceCtorEq,Nat.reduceEqDiff,Nat.reduceBEq,Nat.reduceAdd,Nat.reduceLeDiff,Nat.reduceSub,Nat.reduceMul,Int.reduceToNat,MM,bu0,cbP9,f4,f0,g3,g5]
      repeat' (first|omega|rfl|exact i64c (by omega)|exact vic (by omega)|apply ai)
    · have hke:n=0:=by omega
      subst hke
      simp -dsimp -implicitDefEqProofs (disch:=first|omega|(simp only [lenr];try omega)) only [↓amPre,↓reduceIte,reduceCtorEq,Nat.reduceEqDiff,Nat.reduceBEq,Nat.reduceAdd,Nat.reduceLeDiff,Nat.reduceSub,Nat.reduceMul,Int.reduceToNat,MM,bu0,cbP9,f4,f0,g3,g5]
      rfl
  · by_cases hlt:k<n
    · simp -dsimp -implicitDefEqProofs (disch:=first|omega|(simp only [lenr];try omega)) only [↓amPre,↓reduceIte,reduceCtorEq,Nat.reduceEqDiff,Nat.reduceBEq,Nat.reduceAdd,Nat.reduceLeDiff,Nat.reduceSub,Nat.reduceMul,Int.reduceToNat,MM,bu0,cbP9,f4,f0,g3,g5,hl,← hr]
      repeat' (first|omega|rfl|exact i64c (by omega)|exact vic (by omega)|apply ai)
    · have hke:k=n:=by omega
      subst hke
      simp -dsimp -implicitDefEqProofs (disch:=first|omega|(simp only [lenr];try omega)) only [↓amPre,↓reduceIte,reduceCtorEq,Nat.reduceEqDiff,Nat.reduceBEq,Nat.reduceAdd,Nat.reduceLeDiff,Nat.reduceSub,Nat.reduceMul,Int.reduceToNat,MM,bu0,cbP9,f4,f0,g3,g5,hl]
theorem copyI (l:List Int) (hl:l.length≤1099511627775):SpecAt Try.prog 160 [isl l] (itr l):=by
  refine spec_of_awp (M:=MM) (np:=1) (fz:=false) mixed Try.func160 rfl rfl (by decide) rfl (Nat.le_refl _) (by decide +kernel) (.inl rfl) (by first | trivial | simp only [sigsOk_nil,sigsOk_some,sigsOk_none,sig_tr,sig_pt,sig_mt,sig_agg,List.map_cons,List.map_nil,sig1_tr,sig1_pt,sig1_v,and_self,true_and,List.length_map,List.length_set]) ?_
  have ht:(l.map AV.i64).take l.length=l.map AV.i64:=List.take_of_length_le (by simp)
  simp -dsimp -implicitDefEqProofs (disch:=first|omega|(simp only [lenr];try omega)) only [↓amPre,↓reduceIte,reduceCtorEq,Nat.reduceEqDiff,Nat.reduceBEq,Nat.reduceAdd,Nat.reduceLeDiff,Nat.reduceSub,Nat.reduceMul,Int.reduceToNat,MM,bu0,cbP9,Draws.grabL_ints,ht]
theorem ivL_invI (p:List Int):ivL p p.length=invI p:=by
  have h:∀ k,ivL p k=scat (List.replicate p.length 0) p (fun i=>(i:Int)) k:=by
    intro k
    induction k with
    | zero=>rfl
    | succ k ih=>rw [ivL,scat,ih]
  exact h _
end Go.AM
set_option maxRecDepth 8000
namespace Go.AM
open Go.Proofs
def pwL (e:List Int) (k:Nat):List Int:=(List.range e.length).map fun x=>((itN (fOf e) k x:Nat):Int)
theorem pwL_len (e:List Int) (k:Nat):(pwL e k).length=e.length:=by simp [pwL]
theorem pwL_get (e:List Int) (k:Nat) {x:Nat} (h:x<e.length):(pwL e k).getD x 0=itN (fOf e) k x:=by rw [pwL,range_map_get _ _ _ _ h]
theorem pwL_succ {e:List Int} (he:isPerm e) (k:Nat):compI (pwL e k) e=pwL e (k+1):=by
  refine ext_getD 0 (by rw [compI_len,pwL_len,pwL_len]) fun x hx=>?_
  rw [compI_len,pwL_len] at hx
  rw [compI_get _ _ _ (by rw [pwL_len];exact hx),pwL_get e k hx,Int.toNat_natCast,p_it he hx,pwL_get e (k+1) hx]
theorem pw_fix (e:List Int) (k:Nat):movL (pwL e k) e.length=[]↔∀ x,x<e.length→itN (fOf e) k x=x:=by
  constructor
  · intro h x hx
    refine Classical.byContradiction fun hne=>?_
    have:(x:Int)∈movL (pwL e k) e.length:=mem_movL.2 ⟨x,hx,by rw [pwL_get e k hx];omega,rfl⟩
    rw [h] at this;cases this
  · intro h
    refine List.eq_nil_iff_forall_not_mem.2 fun y hy=>?_
    obtain ⟨x,h1,h2,_⟩:=mem_movL.1 hy
    rw [pwL_get e k h1,h x h1] at h2
    exact h2 rfl
theorem per_dvd {n:Nat} {f:Nat→Nat} (h:PermF n f) {x:Nat} (hx:x<n) (k:Nat):itN f k x=x↔perN n f x ∣ k:=by
  obtain ⟨h1,h2,h3,h4⟩:=h.per x hx
  have e:k % perN n f x+k / perN n f x*perN n f x=k:=by rw [Nat.mul_comm];exact Nat.mod_add_div k _
  have hm:=h.itmod x hx (k / perN n f x) (k % perN n f x)
  rw [e] at hm
  rw [hm]
  constructor
  · intro q
    by_cases h0:k % perN n f x=0
    · exact Nat.dvd_of_mod_eq_zero h0
    · exact absurd q (h4 _ (by omega) (Nat.mod_lt _ h1))
  · intro q
    rw [Nat.mod_eq_zero_of_dvd q];rfl
theorem per_orb {n:Nat} {f:Nat→Nat} (h:PermF n f) {z y:Nat} (hz:z<n) (hy:y∈orbN n f z) (k:Nat) (hk:itN f k z=z):itN f k y=y:=by
  obtain ⟨j,rfl⟩:=(h.mem_orb z hz y).1 hy
  rw [← itN_add,Nat.add_comm,itN_add,hk]
theorem all_dvd {e:List Int} (he:isPerm e) (k:Nat):(∀ x,x<e.length→itN (fOf e) k x=x)↔∀ l∈longC (cycI e),l.length ∣ k:=by
  have hf:=permF_of he
  constructor
  · intro h l hl
    obtain ⟨h1,_⟩:=List.mem_filter.1 hl
    obtain ⟨z,h2,rfl⟩:=List.mem_map.1 h1
    have hz:=List.mem_range.1 (List.mem_filter.1 h2).1
    rw [orbI_len]
    exact (per_dvd hf hz k).1 (h z hz)
  · intro h x hx
    obtain ⟨z,h1,h2,h3⟩:=hf.minrep x hx
    have hz:z<e.length:=by omega
    refine per_orb hf hz h3 k ((per_dvd hf hz k).2 ?_)
    by_cases hp:1<perN e.length (fOf e) z
    · have:=h (orbI e z) (List.mem_filter.2 ⟨List.mem_map.2 ⟨z,List.mem_filter.2 ⟨List.mem_range.2 hz,h2⟩,rfl⟩,by rw [orbI_len];simpa using hp⟩)
      rwa [orbI_len] at this
    · have:=(hf.per z hz).1
      rw [show perN e.length (fOf e) z=1 by omega];exact Nat.one_dvd k
def lcmK (L:List (List Int)):Nat→Nat
  | 0=>1
  | j+1=>Nat.lcm (lcmK L j) (L.getD j default).length
theorem lcm_dvd_all (L:List (List Int)) (k:Nat):∀ j,j≤L.length→(lcmK L j ∣ k↔∀ i,i<j→(L.getD i default).length ∣ k)
  | 0,_=>by simp [lcmK]
  | j+1,hj=>by
    rw [lcmK,Nat.lcm_dvd_iff,lcm_dvd_all L k j (by omega)]
    constructor
    · rintro ⟨h1,h2⟩ i hi
      by_cases e:i=j
      · subst e;exact h2
      · exact h1 i (by omega)
    · intro h;exact ⟨fun i hi=>h i (by omega),h j (by omega)⟩
theorem dvd_big:∀ l,l<21→0<l→l ∣ 232792560:=by decide
theorem lcm_big (L:List (List Int)) (h:∀ l∈L,1≤l.length∧l.length≤20) (j:Nat) (hj:j≤L.length):lcmK L j ∣ 232792560:=(lcm_dvd_all L _ j hj).2 fun i hi=>by
  have:=h _ (mem_getD L i default (by omega))
  exact dvd_big _ (by omega) (by omega)
theorem lcm_rng (L:List (List Int)) (h:∀ l∈L,1≤l.length∧l.length≤20) (j:Nat) (hj:j≤L.length):1≤lcmK L j∧lcmK L j≤232792560:=by
  have h1:=lcm_big L h j hj
  have h2:=Nat.le_of_dvd (by decide) h1
  have h3:=Nat.pos_of_dvd_of_pos h1 (by decide)
  omega
def ordE (e:List Int):Nat:=lcmK (longC (cycI e)) (longC (cycI e)).length
theorem long_rng {e:List Int} (he:isPerm e):∀ l∈longC (cycI e),1≤l.length∧l.length≤20:=fun l hl=>by
  have:=(cyc_facts he).2.1 l (List.mem_filter.1 hl).1
  have:=he.1.2;omega
theorem ord_rng {e:List Int} (he:isPerm e):1≤ordE e∧ordE e≤232792560:=lcm_rng _ (long_rng he) _ (Nat.le_refl _)
theorem ord_spec {e:List Int} (he:isPerm e) (k:Nat):movL (pwL e k) e.length=[]↔ordE e ∣ k:=by
  rw [pw_fix,all_dvd he,ordE,lcm_dvd_all _ _ _ (Nat.le_refl _)]
  constructor
  · intro h i hi;exact h _ (mem_getD _ i default hi)
  · intro h l hl
    obtain ⟨i,hi,rfl⟩:=List.getElem_of_mem hl
    have:=h i hi
    rwa [getD_eq _ _ _ hi] at this
theorem ord_end {e:List Int} (he:isPerm e):movL (pwL e (ordE e)) e.length=[]:=(ord_spec he _).2 (Nat.dvd_refl _)
end Go.AM
set_option maxRecDepth 8000
namespace Go.AM
open Go.Proofs
theorem cp_comp (p q:List Int):cpL p q p.length=compI p q:=by
  refine ext_getD 0 (by rw [cpL_len,compI_len]) fun i hi=>?_
  rw [cpL_len] at hi
  rw [cpL,range_map_get _ _ _ _ hi,compI_get _ _ _ hi]
end Go.AM
set_option maxRecDepth 8000
namespace Go.AM
open Go.Proofs
def consM (m:Model) (i:Invar):Prop:=modelOk m∧∀ s∈m.mv,invV m.ks s i=0
instance (m:Model) (i:Invar):Decidable (consM m i):=by unfold consM;infer_instance
theorem iIsConserved (m:Model) (i:Invar) (h:smallM m) (hi:intOk i.s):SpecAt Try.prog 23 [m.sl,i.av] (.bl (decide (consM m i))):=by
  have h3:=h.2.2.1
  refine spec_of_awp (M:=MM) (np:=2) (fz:=true) mixed Try.func23 rfl rfl (by decide) rfl (Nat.le_refl _) (by decide +kernel) (.inr ⟨rfl,rfl⟩) trivial ?_
  have fin:∀ b:Bool,(b=true↔consM m i)→Value.bool b=Value.bool (decide (consM m i)):=fun b h=>bl_eq (by rw [h,decide_eq_true_iff])
  simp -dsimp -implicitDefEqProofs (disch:=first|omega|(simp only [lenr];try omega)) only [↓amPre,↓reduceIte,reduceCtorEq,Nat.reduceEqDiff,Nat.reduceBEq,Nat.reduceAdd,Nat.reduceLeDiff,Nat.reduceSub,Nat.reduceMul,Int.reduceToNat,MM,bu0,cbP6]
  refine callP_of (iIsValidPieceModel m h) ?_
  by_cases c:modelOk m
  case neg =>
    simp -dsimp -implicitDefEqProofs (disch:=first|omega|(simp only [lenr];try omega)) only [↓amPre,↓reduceIte,reduceCtorEq,Nat.reduceEqDiff,Nat.reduceBEq,Nat.reduceAdd,Nat.reduceLeDiff,Nat.reduceSub,Nat.reduceMul,Int.reduceToNat,MM,bu0,cbP6,c]
    refine fin _ ?_
    simp only [consM,c,false_and,reduceCtorEq]
  simp -dsimp -implicitDefEqProofs (disch:=first|omega|(simp only [lenr];try omega)) only [↓amPre,↓reduceIte,reduceCtorEq,Nat.reduceEqDiff,Nat.reduceBEq,Nat.reduceAdd,Nat.reduceLeDiff,Nat.reduceSub,Nat.reduceMul,Int.reduceToNat,MM,bu0,cbP6,c]
  refine awp_loop (fun k st=>k≤m.mv.length∧st.fr 13=.i64 k∧st.fr 12=.i64 m.mv.length∧st.fr 11=tssl m.mv∧st.fr 2=.loc 2 [] 0 0∧st.fr 3=.loc 3 [] 0 0∧st.mem 2=some (.pt 3 (.agg [ksl m.ks,.st m.nm,tssl m.mv]))∧st.mem 3=some (.pt 2 (.agg [.i64 i.k,.i64 i.s]))∧∀ s∈m.mv.take k,invV m.ks s i=0) (m.mv.length) ?_ ?_
  · simp -dsimp -implicitDefEqProofs (disch:=first|omega|(simp only [lenr];try omega)) only [↓amPre,↓reduceIte,reduceCtorEq,Nat.reduceEqDiff,Nat.reduceBEq,Nat.reduceAdd,Nat.reduceLeDiff,Nat.reduceSub,Nat.reduceMul,Int.reduceToNat,MM,bu0,cbP6]
    simp
  rintro k st _ ⟨hk,f13,f12,f11,f2,f3,m2,m3,ek⟩
  by_cases hlt:k<m.mv.length
  · have hsm:=h.2.2.2 _ (mem_getD m.mv k default hlt)
    simp -dsimp -implicitDefEqProofs (disch:=first|omega|(simp only [lenr];try omega)) only [↓amPre,↓reduceIte,reduceCtorEq,Nat.reduceEqDiff,Nat.reduceBEq,Nat.reduceAdd,Nat.reduceLeDiff,Nat.reduceSub,Nat.reduceMul,Int.reduceToNat,MM,bu0,cbP6,f13,f12,f11,f2,f3,m2,m3]
    refine callP_of (iInvariantValue m.ks (m.mv.getD k default) i h.1 hsm hi) ?_
    by_cases w:invV m.ks (m.mv.getD k default) i=0
    · simp -dsimp -implicitDefEqProofs (disch:=first|omega|(simp only [lenr];try omega)) only [↓amPre,↓reduceIte,reduceCtorEq,Nat.reduceEqDiff,Nat.reduceBEq,Nat.reduceAdd,Nat.reduceLeDiff,Nat.reduceSub,Nat.reduceMul,Int.reduceToNat,MM,bu0,cbP6,f13,f12,f11,f2,f3,m2,m3,ne_false w]
      repeat' (first | omega | rfl | exact i64c (by omega) | exact vic (by omega) | exact (mem_take_succ (d:=default) hlt).2 ⟨ek,w⟩ | apply And.intro)
    · simp -dsimp -implicitDefEqProofs (disch:=first|omega|(simp only [lenr];try omega)) only [↓amPre,↓reduceIte,reduceCtorEq,Nat.reduceEqDiff,Nat.reduceBEq,Nat.reduceAdd,Nat.reduceLeDiff,Nat.reduceSub,Nat.reduceMul,Int.reduceToNat,MM,bu0,cbP6,f13,f12,f11,f2,f3,m2,m3,ne_true w]
      refine fin _ ?_
      simp only [reduceCtorEq,false_iff]
      intro q;exact w (q.2 _ (mem_getD m.mv k default hlt))
  · have hke:k=m.mv.length:=by omega
    subst hke
    rw [List.take_length] at ek
    simp -dsimp -implicitDefEqProofs (disch:=first|omega|(simp only [lenr];try omega)) only [↓amPre,↓reduceIte,reduceCtorEq,Nat.reduceEqDiff,Nat.reduceBEq,Nat.reduceAdd,Nat.reduceLeDiff,Nat.reduceSub,Nat.reduceMul,Int.reduceToNat,MM,bu0,cbP6,f13,f12,f11,f2,f3,m2,m3]
    refine fin _ ?_
    simp only [true_iff]
    exact ⟨c,ek⟩
def trivK (ks:List Kind) (set:Int):Nat→Bool
  | 0=>true
  | k+1=>trivK ks set k && !(bitK set k && decide (1<(ks.getD k default).c))
theorem trivK_false (ks:List Kind) (set:Int) (k:Nat) (h:(bitK set k && decide (1<(ks.getD k default).c))=true):∀ n,k<n→trivK ks set n=false
  | n+1,hn=>by
    rw [trivK]
    by_cases e:k=n
    · subst e;rw [h];simp
    · rw [trivK_false ks set k h n (by omega)];rfl
def trivI (ks:List Kind) (i:Invar):Bool:=if i.k=1 then decide ((ks.getD i.s.toNat default).o=1) else trivK ks i.s ks.length
theorem iTrivial (ks:List Kind) (i:Invar) (hl:ks.length≤3) (h1:i.k=1→0≤i.s∧i.s<ks.length):SpecAt Try.prog 82 [ksl ks,i.av] (.bl (trivI ks i)):=by
  have hb:IntKind.i64.bits=64:=rfl
  refine spec_of_awp (M:=MM) (np:=2) (fz:=true) mixed Try.func82 rfl rfl (by decide) rfl (Nat.le_refl _) (by decide +kernel) (.inr ⟨rfl,rfl⟩) trivial ?_
  simp -dsimp -implicitDefEqProofs (disch:=first|omega|(simp only [lenr];try omega)) only [↓amPre,↓reduceIte,reduceCtorEq,Nat.reduceEqDiff,Nat.reduceBEq,Nat.reduceAdd,Nat.reduceLeDiff,Nat.reduceSub,Nat.reduceMul,Int.reduceToNat,MM,bu0,cbP6]
  by_cases c:i.k=1
  · have hh:=h1 c
    have hT:trivI ks i=decide ((ks.getD i.s.toNat default).o=1):=if_pos c
    simp -dsimp -implicitDefEqProofs (disch:=first|omega|(simp only [lenr];try omega)) only [↓amPre,↓reduceIte,reduceCtorEq,Nat.reduceEqDiff,Nat.reduceBEq,Nat.reduceAdd,Nat.reduceLeDiff,Nat.reduceSub,Nat.reduceMul,Int.reduceToNat,MM,bu0,cbP6,eq_true c,hT]
    exact bl_eq (by simp)
  have hT:trivI ks i=trivK ks i.s ks.length:=if_neg c
  simp -dsimp -implicitDefEqProofs (disch:=first|omega|(simp only [lenr];try omega)) only [↓amPre,↓reduceIte,reduceCtorEq,Nat.reduceEqDiff,Nat.reduceBEq,Nat.reduceAdd,Nat.reduceLeDiff,Nat.reduceSub,Nat.reduceMul,Int.reduceToNat,MM,bu0,cbP6,eq_false c]
  refine awp_loop (fun k st=>k≤ks.length∧st.fr 19=.i64 k∧st.fr 18=.i64 ks.length∧st.fr 17=ksl ks∧st.fr 3=.loc 3 [] 0 0∧st.mem 3=some (.pt 2 (.agg [.i64 i.k,.i64 i.s]))∧trivK ks i.s k=true) (ks.length) ?_ ?_
  · simp -dsimp -implicitDefEqProofs (disch:=first|omega|(simp only [lenr];try omega)) only [↓amPre,↓reduceIte,reduceCtorEq,Nat.reduceEqDiff,Nat.reduceBEq,Nat.reduceAdd,Nat.reduceLeDiff,Nat.reduceSub,Nat.reduceMul,Int.reduceToNat,MM,bu0,cbP6]
    simp [trivK]
  rintro k st _ ⟨hk,f19,f18,f17,f3,m3,ek⟩
  by_cases hlt:k<ks.length
  · cases hbk:bitK i.s k with
    | true =>
      have hbk':=hbk
      unfold bitK at hbk'
      by_cases hc:1<(ks.getD k default).c
      · have ht:=trivK_false ks i.s k (by rw [hbk];simpa using hc) ks.length hlt
        simp -dsimp -implicitDefEqProofs (disch:=first|omega|(simp only [lenr];try omega)) only [↓amPre,↓reduceIte,reduceCtorEq,Nat.reduceEqDiff,Nat.reduceBEq,Nat.reduceAdd,Nat.reduceLeDiff,Nat.reduceSub,Nat.reduceMul,Int.reduceToNat,MM,bu0,cbP6,f19,f18,f17,f3,m3,hb,hbk',lt_true hc,hT,ht]
      · have ht:trivK ks i.s (k+1)=true:=by rw [trivK,ek,hbk];simpa using hc
        simp -dsimp -implicitDefEqProofs (disch:=first|omega|(simp only [lenr];try omega)) only [↓amPre,↓reduceIte,reduceCtorEq,Nat.reduceEqDiff,Nat.reduceBEq,Nat.reduceAdd,Nat.reduceLeDiff,Nat.reduceSub,Nat.reduceMul,Int.reduceToNat,MM,bu0,cbP6,f19,f18,f17,f3,m3,hb,hbk',lt_false (Int.not_lt.1 hc),ht]
        repeat' (first|omega|rfl|exact i64c (by omega)|exact vic (by omega)|apply ai)
    | false =>
      have hbk':=hbk
      unfold bitK at hbk'
      have ht:trivK ks i.s (k+1)=true:=by rw [trivK,ek,hbk];simp
      simp -dsimp -implicitDefEqProofs (disch:=first|omega|(simp only [lenr];try omega)) only [↓amPre,↓reduceIte,reduceCtorEq,Nat.reduceEqDiff,Nat.reduceBEq,Nat.reduceAdd,Nat.reduceLeDiff,Nat.reduceSub,Nat.reduceMul,Int.reduceToNat,MM,bu0,cbP6,f19,f18,f17,f3,m3,hb,hbk',ht]
      repeat' (first|omega|rfl|exact i64c (by omega)|exact vic (by omega)|apply ai)
  · have hke:k=ks.length:=by omega
    subst hke
    simp -dsimp -implicitDefEqProofs (disch:=first|omega|(simp only [lenr];try omega)) only [↓amPre,↓reduceIte,reduceCtorEq,Nat.reduceEqDiff,Nat.reduceBEq,Nat.reduceAdd,Nat.reduceLeDiff,Nat.reduceSub,Nat.reduceMul,Int.reduceToNat,MM,bu0,cbP6,f19,f18,f17,f3,m3,hT,ek]
end Go.AM
set_option maxRecDepth 8000
namespace Go.AM
open Go.Proofs
def keepI (m:Model) (i:Invar):Bool:=!trivI m.ks i && decide (consM m i)
def allI (ks:List Kind):List Invar:=twL ks.length++paL (2 ^ ks.length - 1)
def consL (m:Model):List Invar:=(allI m.ks).filter (keepI m)
def consR (m:Model):List Invar:=if modelOk m then consL m else []
theorem allI_len (ks:List Kind):(allI ks).length=ks.length+(2 ^ ks.length - 1):=by rw [allI,List.length_append,twL_len,paL_len]
theorem consL_le (m:Model) (h:modelOk m):(consL m).length≤10:=by
  have h1:=List.length_filter_le (keepI m) (allI m.ks)
  have h2:=pow_small h.1.1.2
  have h3:=h.1.1.2
  rw [allI_len] at h1
  unfold consL
  omega
theorem iConserved (m:Model) (h:smallM m):SpecAt Try.prog 15 [m.sl] (vtr (consR m)):=by
  have hb:IntKind.i64.bits=64:=rfl
  refine spec_of_awp (M:=MM) (np:=1) (fz:=false) mixed Try.func15 rfl rfl (by decide) rfl (Nat.le_refl _) (by decide +kernel) (.inl rfl) (by first | trivial | simp only [sigsOk_nil,sigsOk_some,sigsOk_none,sig_tr,sig_pt,sig_mt,sig_agg,List.map_cons,List.map_nil,sig1_tr,sig1_pt,sig1_v,and_self,true_and,List.length_map,List.length_set]) ?_
  simp -dsimp -implicitDefEqProofs (disch:=first|omega|(simp only [lenr];try omega)) only [↓amPre,↓reduceIte,reduceCtorEq,Nat.reduceEqDiff,Nat.reduceBEq,Nat.reduceAdd,Nat.reduceLeDiff,Nat.reduceSub,Nat.reduceMul,Int.reduceToNat,MM,bu0,cbP6]
  refine callP_of (iIsValidPieceModel m h) ?_
  by_cases c:modelOk m
  case neg =>
    have hR:consR m=[]:=if_neg c
    simp -dsimp -implicitDefEqProofs (disch:=first|omega|(simp only [lenr];try omega)) only [↓amPre,↓reduceIte,reduceCtorEq,Nat.reduceEqDiff,Nat.reduceBEq,Nat.reduceAdd,Nat.reduceLeDiff,Nat.reduceSub,Nat.reduceMul,Int.reduceToNat,MM,bu0,cbP6,c,hR]
  have hR:consR m=consL m:=if_pos c
  have hle:=consL_le m c
  have hl3:=c.1.1.2
  have hpw:=pow_small hl3
  have hal:=allI_len m.ks
  simp -dsimp -implicitDefEqProofs (disch:=first|omega|(simp only [lenr];try omega)) only [↓amPre,↓reduceIte,reduceCtorEq,Nat.reduceEqDiff,Nat.reduceBEq,Nat.reduceAdd,Nat.reduceLeDiff,Nat.reduceSub,Nat.reduceMul,Int.reduceToNat,MM,bu0,cbP6,c]
  refine callP_of (lenK m.ks) ?_
  simp -dsimp -implicitDefEqProofs (disch:=first|omega|(simp only [lenr];try omega)) only [↓amPre,↓reduceIte,reduceCtorEq,Nat.reduceEqDiff,Nat.reduceBEq,Nat.reduceAdd,Nat.reduceLeDiff,Nat.reduceSub,Nat.reduceMul,Int.reduceToNat,MM,bu0,cbP6,c]
  refine awp_loopN 3 22 2 (by simp -dsimp -implicitDefEqProofs (disch:=first|omega|(simp only [lenr];try omega)) only [↓amPre,↓reduceIte,reduceCtorEq,Nat.reduceEqDiff,Nat.reduceBEq,Nat.reduceAdd,Nat.reduceLeDiff,Nat.reduceSub,Nat.reduceMul,Int.reduceToNat,MM,bu0,cbP6]) (by decide) (fun k st=>k≤m.ks.length∧st.fr 15=.i64 k∧st.fr 14=.i64 m.ks.length∧st.fr 3=.ref 22 [] 2 0 k∧st.fr 4=.nilsl∧st.fr 1=.loc 1 [] 0 0∧st.mem 22=some (vtr (twL k))∧st.mem 1=some (.pt 3 (.agg [ksl m.ks,.st m.nm,tssl m.mv]))) (m.ks.length) ?_ ?_
  · simp -dsimp -implicitDefEqProofs (disch:=first|omega|(simp only [lenr];try omega)) only [↓amPre,↓reduceIte,reduceCtorEq,Nat.reduceEqDiff,Nat.reduceBEq,Nat.reduceAdd,Nat.reduceLeDiff,Nat.reduceSub,Nat.reduceMul,Int.reduceToNat,MM,bu0,cbP6,nilAs_eq]
    simp [twL]
  rintro k st _ ⟨hk,f15,f14,f3,f4,f1,m22,m1⟩
  by_cases hlt:k<m.ks.length
  · have ht:=twL_len k
    have hts:=twL_succ k
    simp -dsimp -implicitDefEqProofs (disch:=first|omega|(simp only [lenr];try omega)) only [↓amPre,↓reduceIte,reduceCtorEq,Nat.reduceEqDiff,Nat.reduceBEq,Nat.reduceAdd,Nat.reduceLeDiff,Nat.reduceSub,Nat.reduceMul,Int.reduceToNat,MM,bu0,cbP6,f15,f14,f3,f4,f1,m22,m1,ht,← hts]
    repeat' (first|omega|rfl|exact i64c (by omega)|exact vic (by omega)|apply ai)
  have hke:k=m.ks.length:=by omega
  subst hke
  have ht:=twL_len m.ks.length
  simp -dsimp -implicitDefEqProofs (disch:=first|omega|(simp only [lenr];try omega)) only [↓amPre,↓reduceIte,reduceCtorEq,Nat.reduceEqDiff,Nat.reduceBEq,Nat.reduceAdd,Nat.reduceLeDiff,Nat.reduceSub,Nat.reduceMul,Int.reduceToNat,MM,bu0,cbP6,f15,f14,f3,f4,f1,m22,m1]
  refine awp_loopR 22 36 (vtr (twL m.ks.length)) (by simp -dsimp -implicitDefEqProofs (disch:=first|omega|(simp only [lenr];try omega)) only [↓amPre,↓reduceIte,reduceCtorEq,Nat.reduceEqDiff,Nat.reduceBEq,Nat.reduceAdd,Nat.reduceLeDiff,Nat.reduceSub,Nat.reduceMul,Int.reduceToNat,MM,bu0,cbP6,f15,f14,f3,f4,f1,m22,m1]) (by decide) (by decide) (by decide) (fun j st=>j≤(2 ^ m.ks.length - 1)∧st.fr 6=.i64 (j+1)∧st.fr 3=.ref 36 [] 2 0 (m.ks.length+j)∧st.fr 4=.nilsl∧st.fr 1=.loc 1 [] 0 0∧st.mem 36=some (vtr (twL m.ks.length++paL j))∧st.mem 1=some (.pt 3 (.agg [ksl m.ks,.st m.nm,tssl m.mv]))) ((2 ^ m.ks.length - 1)) ?_ ?_
  · simp -dsimp -implicitDefEqProofs (disch:=first|omega|(simp only [lenr];try omega)) only [↓amPre,↓reduceIte,reduceCtorEq,Nat.reduceEqDiff,Nat.reduceBEq,Nat.reduceAdd,Nat.reduceLeDiff,Nat.reduceSub,Nat.reduceMul,Int.reduceToNat,MM,bu0,cbP6,ren_eq,f15,f14,f3,f4,f1,m22,m1]
    simp [paL]
  rintro j st _ ⟨hj,f6,f3,f4,f1,m36,m1⟩
  have hsh:=shl_small m.ks.length hl3
  have hpl:=paL_len j
  by_cases hlt:j<2 ^ m.ks.length - 1
  · have hps:=paL_succ j
    have happ:twL m.ks.length++paL j++[(⟨2,((j+1:Nat):Int)⟩:Invar)]=twL m.ks.length++paL (j+1):=by rw [hps,List.append_assoc]
    have h2:((j:Int)+1<((2 ^ m.ks.length:Nat):Int)):=by omega
    have hle1:(twL m.ks.length++paL j).length=m.ks.length+j:=by rw [List.length_append,ht,hpl]
    simp -dsimp -implicitDefEqProofs (disch:=first|omega|(simp only [lenr];try omega)) only [↓amPre,↓reduceIte,reduceCtorEq,Nat.reduceEqDiff,Nat.reduceBEq,Nat.reduceAdd,Nat.reduceLeDiff,Nat.reduceSub,Nat.reduceMul,Int.reduceToNat,MM,bu0,cbP6,f6,f3,f4,f1,m36,m1,hb,hsh,lt_true h2,hle1,happ]
    repeat' (first|omega|rfl|exact i64c (by omega)|exact vic (by omega)|apply ai)
  have hje:j=2 ^ m.ks.length - 1:=by omega
  have h2:(((2 ^ m.ks.length:Nat):Int)≤(j:Int)+1):=by omega
  have hall:twL m.ks.length++paL j=allI m.ks:=by rw [hje];rfl
  rw [hall] at m36
  have hll:m.ks.length+j=(allI m.ks).length:=by rw [hal,hje]
  rw [hll] at f3
  simp -dsimp -implicitDefEqProofs (disch:=first|omega|(simp only [lenr];try omega)) only [↓amPre,↓reduceIte,reduceCtorEq,Nat.reduceEqDiff,Nat.reduceBEq,Nat.reduceAdd,Nat.reduceLeDiff,Nat.reduceSub,Nat.reduceMul,Int.reduceToNat,MM,bu0,cbP6,f6,f3,f4,f1,m36,m1,hb,hsh,lt_false h2]
  generalize hA:allI m.ks=A at hal hll m36 f3
  have hcons:consL m=A.filter (keepI m):=by rw [← hA];rfl
  have hmem:∀ i∈A,(i.k=1→0≤i.s∧i.s<m.ks.length)∧intOk i.s:=by
    intro i hi
    rw [← hA,allI,List.mem_append] at hi
    unfold intOk
    rcases hi with hi | hi
    · obtain ⟨n,hn,rfl⟩:=List.mem_map.1 hi
      have:=List.mem_range.1 hn
      exact ⟨fun _=>(by simp only;omega),(by simp only;omega)⟩
    · obtain ⟨n,hn,rfl⟩:=List.mem_map.1 hi
      have:=List.mem_range.1 hn
      exact ⟨fun q=>(by cases q),(by simp only;omega)⟩
  refine awp_loopN 4 56 2 (by simp -dsimp -implicitDefEqProofs (disch:=first|omega|(simp only [lenr];try omega)) only [↓amPre,↓reduceIte,reduceCtorEq,Nat.reduceEqDiff,Nat.reduceBEq,Nat.reduceAdd,Nat.reduceLeDiff,Nat.reduceSub,Nat.reduceMul,Int.reduceToNat,MM,bu0,cbP6,f6,f3,f4,f1,m36,m1]) (by decide) (fun n st=>n≤A.length∧st.fr 39=.i64 n∧st.fr 38=.i64 A.length∧st.fr 37=.ref 36 [] 2 0 A.length∧st.fr 4=.ref 56 [] 2 0 ((A.take n).filter (keepI m)).length∧st.fr 1=.loc 1 [] 0 0∧st.mem 36=some (vtr A)∧st.mem 56=some (vtr ((A.take n).filter (keepI m)))∧st.mem 1=some (.pt 3 (.agg [ksl m.ks,.st m.nm,tssl m.mv]))) (A.length) ?_ ?_
  · simp -dsimp -implicitDefEqProofs (disch:=first|omega|(simp only [lenr];try omega)) only [↓amPre,↓reduceIte,reduceCtorEq,Nat.reduceEqDiff,Nat.reduceBEq,Nat.reduceAdd,Nat.reduceLeDiff,Nat.reduceSub,Nat.reduceMul,Int.reduceToNat,MM,bu0,cbP6,nilAs_eq,f6,f3,f4,f1,m36,m1]
    simp
  rintro n st _ ⟨hn,f39,f38,f37,f4,f1,m36,m56,m1⟩
  have hfl:((A.take n).filter (keepI m)).length≤n:=by
    have a1:=List.length_filter_le (keepI m) (A.take n)
    have a2:(A.take n).length≤n:=by simp;omega
    omega
  by_cases hlt:n<A.length
  · obtain ⟨mm1,mm2⟩:=hmem _ (mem_getD A n default hlt)
    have hts:=take_succ_eq A n default hlt
    have hfs:=filter_snoc (keepI m) (A.take n) (A.getD n default)
    rw [← hts] at hfs
    generalize hL:(A.take n).filter (keepI m)=L at hfl f4 m56 hfs
    simp -dsimp -implicitDefEqProofs (disch:=first|omega|(simp only [lenr];try omega)) only [↓amPre,↓reduceIte,reduceCtorEq,Nat.reduceEqDiff,Nat.reduceBEq,Nat.reduceAdd,Nat.reduceLeDiff,Nat.reduceSub,Nat.reduceMul,Int.reduceToNat,MM,bu0,cbP6,f39,f38,f37,f4,f1,m36,m56,m1]
    refine callP_of (iTrivial m.ks (A.getD n default) hl3 mm1) ?_
    cases t1:trivI m.ks (A.getD n default) with
    | true =>
      have hk:keepI m (A.getD n default)=false:=by rw [keepI,t1];rfl
      rw [hk,if_neg (by simp)] at hfs
      simp -dsimp -implicitDefEqProofs (disch:=first|omega|(simp only [lenr];try omega)) only [↓amPre,↓reduceIte,reduceCtorEq,Nat.reduceEqDiff,Nat.reduceBEq,Nat.reduceAdd,Nat.reduceLeDiff,Nat.reduceSub,Nat.reduceMul,Int.reduceToNat,MM,bu0,cbP6,f39,f38,f37,f4,f1,m36,m56,m1,t1,hfs]
      repeat' (first|omega|rfl|exact i64c (by omega)|exact vic (by omega)|apply ai)
    | false =>
      simp -dsimp -implicitDefEqProofs (disch:=first|omega|(simp only [lenr];try omega)) only [↓amPre,↓reduceIte,reduceCtorEq,Nat.reduceEqDiff,Nat.reduceBEq,Nat.reduceAdd,Nat.reduceLeDiff,Nat.reduceSub,Nat.reduceMul,Int.reduceToNat,MM,bu0,cbP6,f39,f38,f37,f4,f1,m36,m56,m1,t1]
      refine callP_of (iIsConserved m (A.getD n default) h mm2) ?_
      by_cases t2:consM m (A.getD n default)
      · have hk:keepI m (A.getD n default)=true:=by rw [keepI,t1,decide_eq_true t2];rfl
        rw [hk,if_pos rfl] at hfs
        have hll2:((A.take (n+1)).filter (keepI m)).length=L.length+1:=by rw [hfs];simp
        simp -dsimp -implicitDefEqProofs (disch:=first|omega|(simp only [lenr];try omega)) only [↓amPre,↓reduceIte,reduceCtorEq,Nat.reduceEqDiff,Nat.reduceBEq,Nat.reduceAdd,Nat.reduceLeDiff,Nat.reduceSub,Nat.reduceMul,Int.reduceToNat,MM,bu0,cbP6,f39,f38,f37,f4,f1,m36,m56,m1,t1,t2,← hfs,hll2]
        repeat' (first|omega|rfl|exact i64c (by omega)|exact vic (by omega)|apply ai)
      · have hk:keepI m (A.getD n default)=false:=by rw [keepI,t1,decide_eq_false t2];rfl
        rw [hk,if_neg (by simp)] at hfs
        simp -dsimp -implicitDefEqProofs (disch:=first|omega|(simp only [lenr];try omega)) only [↓amPre,↓reduceIte,reduceCtorEq,Nat.reduceEqDiff,Nat.reduceBEq,Nat.reduceAdd,Nat.reduceLeDiff,Nat.reduceSub,Nat.reduceMul,Int.reduceToNat,MM,bu0,cbP6,f39,f38,f37,f4,f1,m36,m56,m1,t1,t2,hfs]
        repeat' (first|omega|rfl|exact i64c (by omega)|exact vic (by omega)|apply ai)
  · have hne:n=A.length:=by omega
    subst hne
    rw [List.take_length,← hcons] at f4 m56
    simp -dsimp -implicitDefEqProofs (disch:=first|omega|(simp only [lenr];try omega)) only [↓amPre,↓reduceIte,reduceCtorEq,Nat.reduceEqDiff,Nat.reduceBEq,Nat.reduceAdd,Nat.reduceLeDiff,Nat.reduceSub,Nat.reduceMul,Int.reduceToNat,MM,bu0,cbP6,f39,f38,f37,f4,f1,m36,m56,m1,hR]
end Go.AM
set_option maxRecDepth 8000
namespace Go.AM
open Go.Proofs
theorem consR_le (m:Model):(consR m).length≤10:=by
  unfold consR;split
  · rename_i h;exact consL_le m h
  · simp
end Go.AM
set_option maxRecDepth 8000
namespace Go.AM
open Go.Proofs
def vioO (m:Model) (s:List Twist):Option Invar:=if psOk m.ks s then (consR m).find? (fun i=>invV m.ks s i != 0) else none
def vioR (o:Option Invar):AV:=match o with | some i=>.tup [i.av,.bl true] | none=>.tup [(⟨0,0⟩:Invar).av,.bl false]
theorem find_none_take {α:Type} (pr:α→Bool) (l:List α) (h:∀ x∈l,pr x=false):l.find? pr=none:=by
  rw [List.find?_eq_none];intro x hx;rw [h x hx];simp
theorem find_at {α:Type} (pr:α→Bool):∀ (l:List α) (d:α) (k:Nat),k<l.length→(∀ x∈l.take k,pr x=false)→pr (l.getD k d)=true→l.find? pr=some (l.getD k d)
  | a :: r,d,0,_,_,h=>by simp only [List.getD_cons_zero] at h ⊢;rw [List.find?_cons,h]
  | a :: r,d,k+1,hk,h1,h=>by
    have ha:=h1 a (by simp)
    rw [List.find?_cons,ha,List.getD_cons_succ]
    exact find_at pr r d k (by simpa using hk) (fun x hx=>h1 x (by simp [hx])) (by simpa using h)
theorem cons_ok {m:Model} {i:Invar} (h:i∈consR m):intOk i.s:=by
  unfold consR at h
  split at h
  · rename_i c
    have hl3:=c.1.1.2
    have hpw:=pow_small hl3
    have hi:=(List.mem_filter.1 h).1
    rw [allI,List.mem_append] at hi
    unfold intOk
    rcases hi with hi | hi
    · obtain ⟨n,hn,rfl⟩:=List.mem_map.1 hi
      have:=List.mem_range.1 hn
      simp only;omega
    · obtain ⟨n,hn,rfl⟩:=List.mem_map.1 hi
      have:=List.mem_range.1 hn
      simp only;omega
  · cases h
theorem iViolated (m:Model) (s:List Twist) (h:smallM m) (hs:smallT s):SpecAt Try.prog 24 [m.sl,tsl s] (vioR (vioO m s)):=by
  have hle:=consR_le m
  refine spec_of_awp (M:=MM) (np:=2) (fz:=true) mixed Try.func24 rfl rfl (by decide) rfl (Nat.le_refl _) (by decide +kernel) (.inr ⟨rfl,rfl⟩) trivial ?_
  simp -dsimp -implicitDefEqProofs (disch:=first|omega|(simp only [lenr];try omega)) only [↓amPre,↓reduceIte,reduceCtorEq,Nat.reduceEqDiff,Nat.reduceBEq,Nat.reduceAdd,Nat.reduceLeDiff,Nat.reduceSub,Nat.reduceMul,Int.reduceToNat,MM,bu0,cbP6]
  refine callP_of (iIsPieceState m.ks s h.1 hs.1 hs.2) ?_
  by_cases c:psOk m.ks s
  case neg =>
    have hR:vioO m s=none:=if_neg c
    simp -dsimp -implicitDefEqProofs (disch:=first|omega|(simp only [lenr];try omega)) only [↓amPre,↓reduceIte,reduceCtorEq,Nat.reduceEqDiff,Nat.reduceBEq,Nat.reduceAdd,Nat.reduceLeDiff,Nat.reduceSub,Nat.reduceMul,Int.reduceToNat,MM,bu0,cbP6,c,hR,vioR]
  have hR:vioO m s=(consR m).find? (fun i=>invV m.ks s i != 0):=if_pos c
  simp -dsimp -implicitDefEqProofs (disch:=first|omega|(simp only [lenr];try omega)) only [↓amPre,↓reduceIte,reduceCtorEq,Nat.reduceEqDiff,Nat.reduceBEq,Nat.reduceAdd,Nat.reduceLeDiff,Nat.reduceSub,Nat.reduceMul,Int.reduceToNat,MM,bu0,cbP6,c]
  refine callP_of (iConserved m h) ?_
  have hok:∀ i∈consR m,intOk i.s:=fun i hi=>cons_ok hi
  generalize hL:consR m=L at hle hR hok
  simp -dsimp -implicitDefEqProofs (disch:=first|omega|(simp only [lenr];try omega)) only [↓amPre,↓reduceIte,reduceCtorEq,Nat.reduceEqDiff,Nat.reduceBEq,Nat.reduceAdd,Nat.reduceLeDiff,Nat.reduceSub,Nat.reduceMul,Int.reduceToNat,MM,bu0,cbP6,c]
  refine awp_loop (fun k st=>k≤L.length∧st.fr 17=.i64 k∧st.fr 16=.i64 L.length∧st.fr 15=.ref 15 [] 2 0 L.length∧st.fr 2=.loc 2 [] 0 0∧st.fr 1=tsl s∧st.fr 4=.loc 4 [] 0 0∧st.fr 5=.bl false∧st.mem 15=some (vtr L)∧st.mem 2=some (.pt 3 (.agg [ksl m.ks,.st m.nm,tssl m.mv]))∧st.mem 4=some (.pt 2 (.agg [.i64 0,.i64 0]))∧∀ i∈L.take k,(invV m.ks s i != 0)=false) (L.length) ?_ ?_
  · simp -dsimp -implicitDefEqProofs (disch:=first|omega|(simp only [lenr];try omega)) only [↓amPre,↓reduceIte,reduceCtorEq,Nat.reduceEqDiff,Nat.reduceBEq,Nat.reduceAdd,Nat.reduceLeDiff,Nat.reduceSub,Nat.reduceMul,Int.reduceToNat,MM,bu0,cbP6]
    simp
  rintro k st _ ⟨hk,f17,f16,f15,f2,f1,f4,f5,m15,m2,m4,ek⟩
  by_cases hlt:k<L.length
  · have hmem:=mem_getD L k default hlt
    simp -dsimp -implicitDefEqProofs (disch:=first|omega|(simp only [lenr];try omega)) only [↓amPre,↓reduceIte,reduceCtorEq,Nat.reduceEqDiff,Nat.reduceBEq,Nat.reduceAdd,Nat.reduceLeDiff,Nat.reduceSub,Nat.reduceMul,Int.reduceToNat,MM,bu0,cbP6,f17,f16,f15,f2,f1,f4,f5,m15,m2,m4]
    refine callP_of (iInvariantValue m.ks s (L.getD k default) h.1 hs (hok _ hmem)) ?_
    by_cases w:invV m.ks s (L.getD k default)=0
    · simp -dsimp -implicitDefEqProofs (disch:=first|omega|(simp only [lenr];try omega)) only [↓amPre,↓reduceIte,reduceCtorEq,Nat.reduceEqDiff,Nat.reduceBEq,Nat.reduceAdd,Nat.reduceLeDiff,Nat.reduceSub,Nat.reduceMul,Int.reduceToNat,MM,bu0,cbP6,f17,f16,f15,f2,f1,f4,f5,m15,m2,m4,ne_false w]
      repeat' (first | omega | rfl | exact i64c (by omega) | exact vic (by omega) | exact (mem_take_succ (d:=default) hlt).2 ⟨ek,ne_false w⟩ | apply And.intro)
    · have hf:=find_at (fun i=>invV m.ks s i != 0) L default k hlt ek (ne_true w)
      simp -dsimp -implicitDefEqProofs (disch:=first|omega|(simp only [lenr];try omega)) only [↓amPre,↓reduceIte,reduceCtorEq,Nat.reduceEqDiff,Nat.reduceBEq,Nat.reduceAdd,Nat.reduceLeDiff,Nat.reduceSub,Nat.reduceMul,Int.reduceToNat,MM,bu0,cbP6,f17,f16,f15,f2,f1,f4,f5,m15,m2,m4,ne_true w,hR,hf,vioR]
  · have hke:k=L.length:=by omega
    subst hke
    rw [List.take_length] at ek
    have hf:=find_none_take (fun i=>invV m.ks s i != 0) L ek
    simp -dsimp -implicitDefEqProofs (disch:=first|omega|(simp only [lenr];try omega)) only [↓amPre,↓reduceIte,reduceCtorEq,Nat.reduceEqDiff,Nat.reduceBEq,Nat.reduceAdd,Nat.reduceLeDiff,Nat.reduceSub,Nat.reduceMul,Int.reduceToNat,MM,bu0,cbP6,f17,f16,f15,f2,f1,f4,f5,m15,m2,m4,hR,hf,vioR]
end Go.AM
set_option maxRecDepth 8000
namespace Go.AM
open Go.Proofs
theorem sPermOf (n:Nat) (s:List Int) (hs:moveOk n s):SpecAt Try.prog 187 [.i64 n,isl s] (.bl true):=by
  have h20:=hs.2.1.2
  have q1:=sIsPerm s (by omega)
  rw [decide_eq_true hs.2] at q1
  have hl:=hs.1
  refine spec_of_awp (M:=MM) (np:=2) (fz:=true) mixed Try.func187 rfl rfl (by decide) rfl (Nat.le_refl _) (by decide +kernel) (.inr ⟨rfl,rfl⟩) trivial ?_
  simp -dsimp -implicitDefEqProofs (disch:=first|omega|(simp only [lenr];try omega)) only [↓amPre,↓reduceIte,reduceCtorEq,Nat.reduceEqDiff,Nat.reduceBEq,Nat.reduceAdd,Nat.reduceLeDiff,Nat.reduceSub,Nat.reduceMul,Int.reduceToNat,MM,bu0,cbP9,hl]
  refine callP_of (q1) ?_
  simp -dsimp -implicitDefEqProofs (disch:=first|omega|(simp only [lenr];try omega)) only [↓amPre,↓reduceIte,reduceCtorEq,Nat.reduceEqDiff,Nat.reduceBEq,Nat.reduceAdd,Nat.reduceLeDiff,Nat.reduceSub,Nat.reduceMul,Int.reduceToNat,MM,bu0,cbP9]
end Go.AM
set_option maxRecDepth 8000
namespace Go.AM
open Go.Proofs
theorem sIsState (p:Puzz) (s:List Int) (h:smallP p) (hp:puzzOk p) (hs:moveOk p.n s):SpecAt Try.prog 101 [p.sl,isl s] (.bl true):=by
  have q1:=sPuzzle p h
  rw [decide_eq_true hp] at q1
  obtain ⟨pn,nm,mv⟩:=p
  have hn:=hp.1.1
  simp only at hn hs ⊢
  obtain ⟨n,rfl⟩:∃ n:Nat,pn=n:=⟨pn.toNat,by omega⟩
  have q2:=sPermOf n s hs
  refine spec_of_awp (M:=MM) (np:=2) (fz:=true) mixed Try.func101 rfl rfl (by decide) rfl (Nat.le_refl _) (by decide +kernel) (.inr ⟨rfl,rfl⟩) trivial ?_
  simp -dsimp -implicitDefEqProofs (disch:=first|omega|(simp only [lenr];try omega)) only [↓amPre,↓reduceIte,reduceCtorEq,Nat.reduceEqDiff,Nat.reduceBEq,Nat.reduceAdd,Nat.reduceLeDiff,Nat.reduceSub,Nat.reduceMul,Int.reduceToNat,MM,bu0,cbP9]
  refine callP_of (q1) ?_
  simp -dsimp -implicitDefEqProofs (disch:=first|omega|(simp only [lenr];try omega)) only [↓amPre,↓reduceIte,reduceCtorEq,Nat.reduceEqDiff,Nat.reduceBEq,Nat.reduceAdd,Nat.reduceLeDiff,Nat.reduceSub,Nat.reduceMul,Int.reduceToNat,MM,bu0,cbP9]
  refine callP_of (q2) ?_
  simp -dsimp -implicitDefEqProofs (disch:=first|omega|(simp only [lenr];try omega)) only [↓amPre,↓reduceIte,reduceCtorEq,Nat.reduceEqDiff,Nat.reduceBEq,Nat.reduceAdd,Nat.reduceLeDiff,Nat.reduceSub,Nat.reduceMul,Int.reduceToNat,MM,bu0,cbP9]
end Go.AM
set_option maxRecDepth 8000
namespace Go.AM
open Go.Proofs
theorem keyB_str (s:ByteArray):keyB true (.string s)=true:=rfl
theorem keyB_int (n:Int):keyB false (.int .i64 n)=true:=rfl
def cbU49:=(ai (cbP9) (ai (@keyB_str) (@keyB_int)))

end Go.AM
namespace Go.AM
namespace Ch
/-! permutations of n points as a group: what a chain of stabilizers rests on -/
def PN (n:Nat) (p:List Int):Prop:=p.length=n∧isPerm p
def pt (p:List Int) (i:Nat):Nat:=(p.getD i 0).toNat
abbrev idL (n:Nat):List Int:=runI 0 n
theorem PN.get {n:Nat} {p:List Int} (h:PN n p) {i:Nat} (hi:i<n):p.getD i 0=(pt p i:Int)∧pt p i<n:=by
  have hm:=h.2.2.1 _ (mem_getD p i 0 (by rw [h.1];exact hi))
  have:=h.1
  unfold pt
  omega
theorem pl_ext {a b:List Int} (h:a.length=b.length) (hg:∀ i,i<a.length→a.getD i 0=b.getD i 0):a=b:=by
  apply List.ext_getElem h
  intro i h1 h2
  have:=hg i h1
  rwa [getD_eq _ _ _ h1,getD_eq _ _ _ h2] at this
theorem PN.ext {n:Nat} {p q:List Int} (hp:PN n p) (hq:PN n q) (h:∀ i,i<n→pt p i=pt q i):p=q:=by
  refine pl_ext (by rw [hp.1,hq.1]) fun i hi=>?_
  rw [hp.1] at hi
  rw [(hp.get hi).1,(hq.get hi).1,h i hi]
theorem cmpI_len (p q:List Int):(compI p q).length=p.length:=by simp [compI]
theorem cmpI_get {p q:List Int} {i:Nat} (hi:i<p.length):(compI p q).getD i 0=q.getD (pt p i) 0:=by
  unfold compI pt
  rw [getD_eq _ _ _ (by simpa using hi),List.getElem_map,getD_eq _ _ _ hi]
theorem pt_comp {n:Nat} {p q:List Int} (hp:PN n p) (i:Nat) (hi:i<n):pt (compI p q) i=pt q (pt p i):=by
  have:=cmpI_get (q:=q) (show i<p.length by rw [hp.1];exact hi)
  unfold pt at *
  rw [this]
theorem PN.comp {n:Nat} {p q:List Int} (hp:PN n p) (hq:PN n q):PN n (compI p q):=⟨by rw [cmpI_len,hp.1],compI_perm hp.2 hq.2 (by rw [hp.1,hq.1])⟩
theorem PN.inv {n:Nat} {p:List Int} (hp:PN n p):PN n (invI p):=⟨by
  have:∀ k,(scat (List.replicate p.length 0) p (fun i=>(i:Int)) k).length=p.length:=fun k=>by
    induction k with
    | zero=>simp [scat]
    | succ k ih=>rw [scat,List.length_set,ih]
  rw [invI,this,hp.1],invI_perm hp.2⟩
theorem PN.one {n:Nat} (h1:1≤n) (h2:n≤20):PN n (idL n):=⟨runI_len 0 n,run_perm h1 h2⟩
theorem pt_id {n i:Nat} (hi:i<n):pt (idL n) i=i:=by
  unfold pt idL
  rw [runI_get 0 n i hi];omega
theorem PN.inj {n:Nat} {p:List Int} (hp:PN n p) {i j:Nat} (hi:i<n) (hj:j<n) (h:pt p i=pt p j):i=j:=by
  have h1:=(hp.get hi).1
  have h2:=(hp.get hj).1
  have hn:=hp.2.2.2
  have hi':i<p.length:=by rw [hp.1];exact hi
  have hj':j<p.length:=by rw [hp.1];exact hj
  rw [getD_eq _ _ _ hi'] at h1
  rw [getD_eq _ _ _ hj'] at h2
  have hpw:=List.pairwise_iff_getElem.1 hn
  rcases Nat.lt_trichotomy i j with hij | hij | hij
  · exact absurd (by rw [h1,h2,h]) (hpw i j hi' hj' hij)
  · exact hij
  · exact absurd (by rw [h1,h2,h]) (hpw j i hj' hi' hij)
theorem pt_inv {n:Nat} {p:List Int} (hp:PN n p) {i:Nat} (hi:i<n):pt (invI p) (pt p i)=i:=by
  have:=invI_get hp.2 (show i<p.length by rw [hp.1];exact hi)
  unfold pt at *
  rw [this];omega
theorem comp_assoc {n:Nat} {a b c:List Int} (ha:PN n a) (hb:PN n b) (hc:PN n c):compI (compI a b) c=compI a (compI b c) :=
  ((ha.comp hb).comp hc).ext (ha.comp (hb.comp hc)) fun i hi=>by
    rw [pt_comp (ha.comp hb) i hi,pt_comp ha i hi,pt_comp ha i hi,pt_comp hb _ (ha.get hi).2]
theorem comp_id {n:Nat} {a:List Int} (ha:PN n a):compI a (idL n)=a :=
  have h1:=ha.2.1
  have hl:=ha.1
  have h0:=PN.one (n:=n) (by omega) (by omega)
  (ha.comp h0).ext ha fun i hi=>by rw [pt_comp ha i hi,pt_id (ha.get hi).2]
theorem id_comp {n:Nat} {a:List Int} (ha:PN n a):compI (idL n) a=a :=
  have h1:=ha.2.1
  have hl:=ha.1
  have h0:=PN.one (n:=n) (by omega) (by omega)
  (h0.comp ha).ext ha fun i hi=>by rw [pt_comp h0 i hi,pt_id hi]
theorem comp_inv {n:Nat} {a:List Int} (ha:PN n a):compI a (invI a)=idL n :=
  have h1:=ha.2.1
  have hl:=ha.1
  have h0:=PN.one (n:=n) (by omega) (by omega)
  (ha.comp ha.inv).ext h0 fun i hi=>by rw [pt_comp ha i hi,pt_inv ha hi,pt_id hi]
theorem inv_comp {n:Nat} {a:List Int} (ha:PN n a):compI (invI a) a=idL n:=by
  have h1:=ha.2.1
  have hl:=ha.1
  have h0:=PN.one (n:=n) (by omega) (by omega)
  refine (ha.inv.comp ha).ext h0 fun i hi=>?_
  rw [pt_comp ha.inv i hi,pt_id hi]
  have hi2:=(ha.inv.get hi).2
  have e:=pt_inv ha hi2
  -- invI a is injective: pt (invI a) (pt a (pt (invI a) i)) = pt (invI a) i
  exact ha.inv.inj (ha.get hi2).2 hi e
inductive Gen (n:Nat) (S:List (List Int)):List Int→Prop
  | one:Gen n S (idL n)
  | mul {g s:List Int} (h:Gen n S g) (hs:s∈S):Gen n S (compI g s)
theorem Gen.pn {n:Nat} {S:List (List Int)} (h1:1≤n) (h2:n≤20) (hS:∀ s∈S,PN n s) {g:List Int} (h:Gen n S g):PN n g:=by
  induction h with
  | one=>exact PN.one h1 h2
  | mul _ hs ih=>exact ih.comp (hS _ hs)
theorem Gen.mono {n:Nat} {S T:List (List Int)} (hST:∀ s∈S,s∈T) {g:List Int} (h:Gen n S g):Gen n T g:=by
  induction h with
  | one=>exact .one
  | mul _ hs ih=>exact .mul ih (hST _ hs)
theorem Gen.of {n:Nat} {S:List (List Int)} (hS:∀ s∈S,PN n s) {s:List Int} (hs:s∈S):Gen n S s:=by
  have:=Gen.mul (n:=n) .one hs
  rwa [id_comp (hS s hs)] at this
theorem Gen.comp {n:Nat} {S:List (List Int)} (h1:1≤n) (h2:n≤20) (hS:∀ s∈S,PN n s) {a b:List Int} (ha:Gen n S a) (hb:Gen n S b):Gen n S (compI a b):=by
  induction hb with
  | one=>rw [comp_id (ha.pn h1 h2 hS)];exact ha
  | @mul g s hg hs ih =>
    rw [← comp_assoc (ha.pn h1 h2 hS) (hg.pn h1 h2 hS) (hS s hs)]
    exact .mul ih hs
theorem Gen.sub {n:Nat} {S T:List (List Int)} (h1:1≤n) (h2:n≤20) (hT:∀ s∈T,PN n s) (hST:∀ s∈S,Gen n T s) {g:List Int} (h:Gen n S g):Gen n T g:=by
  induction h with
  | one=>exact .one
  | mul _ hs ih=>exact Gen.comp h1 h2 hT ih (hST _ hs)
theorem Gen.fix {n:Nat} {S:List (List Int)} (h1:1≤n) (h2:n≤20) (hS:∀ s∈S,PN n s) {i:Nat} (hi:i<n) (hf:∀ s∈S,pt s i=i) {g:List Int} (h:Gen n S g):pt g i=i:=by
  induction h with
  | one=>exact pt_id hi
  | @mul g s hg hs ih=>rw [pt_comp (hg.pn h1 h2 hS) i hi,ih,hf s hs]
end Ch
end Go.AM
namespace Go.AM
namespace Ch
/-! chains of stabilizers,plainly -/
theorem mov_nil {n:Nat} {p:List Int} (hp:PN n p) (h:movL p p.length=[]):p=idL n:=by
  have h1:=hp.2.1
  have hl:=hp.1
  refine hp.ext (PN.one (by omega) (by omega)) fun i hi=>?_
  rw [pt_id hi]
  by_cases e:p.getD i 0=i
  · unfold pt;rw [e];omega
  · have:(i:Int)∈movL p p.length:=mem_movL.2 ⟨i,by rw [hl];exact hi,e,rfl⟩
    rw [h] at this;cases this
structure Lv where
  gens:List (List Int)
  row:List (List Int)
def headG (C:List Lv):List (List Int):=match C with | []=>[] | L :: _=>L.gens
def hasL:List Lv→Nat→List Int→Bool
  | [],_,_=>true
  | L :: C,l,g=>if L.row.getD (pt g l) []=[] then false else hasL C (l+1) (compI g (invI (L.row.getD (pt g l) [])))
structure LvOk (n l:Nat) (L:Lv):Prop where
  gens:∀ s∈L.gens,PN n s∧∀ i,i<l→pt s i=i
  len:L.row.length=n
  base:L.row.getD l []=idL n
  row:∀ p,p<n→L.row.getD p []≠[]→PN n (L.row.getD p [])∧Gen n L.gens (L.row.getD p [])∧pt (L.row.getD p []) l=p
def Good (n:Nat):List Lv→Nat→Prop
  | [],l=>l=n
  | L :: C,l=>l<n∧LvOk n l L∧(∀ p,p<n→L.row.getD p []≠[]→∀ s∈L.gens,L.row.getD (pt s p) []≠[]) ∧
      (∀ p,p<n→L.row.getD p []≠[]→∀ s∈L.gens,Gen n (headG C) (compI (compI (L.row.getD p []) s) (invI (L.row.getD (pt s p) [])))) ∧
      (∀ s∈headG C,Gen n L.gens s)∧Good n C (l+1)
theorem good_pn {n:Nat} {C:List Lv} {l:Nat} (h:Good n C l):∀ s∈headG C,PN n s∧∀ i,i<l→pt s i=i:=by
  cases C with
  | nil=>intro s hs;cases hs
  | cons L C=>exact h.2.1.gens
theorem good_has {n:Nat} (h1:1≤n) (h2:n≤20):∀ (C:List Lv) (l:Nat),Good n C l→∀ g,PN n g→(∀ i,i<l→pt g i=i)→(hasL C l g=true↔Gen n (headG C) g)
  | [],l,h,g,hg,hf=>by
    have h:l=n:=h
    subst h
    have:g=idL l:=hg.ext (PN.one h1 h2) fun i hi=>by rw [hf i hi,pt_id hi]
    rw [this]
    exact ⟨fun _=>.one,fun _=>rfl⟩
  | L :: C,l,h,g,hg,hf=>by
    obtain ⟨hl,hok,hcl,hsc,hsub,hC⟩:=h
    have hG:∀ s∈L.gens,PN n s:=fun s hs=>(hok.gens s hs).1
    have hGC:∀ s∈headG C,PN n s:=fun s hs=>(good_pn hC s hs).1
    have ih:=good_has h1 h2 C (l+1) hC
    -- one step down
    have step:∀ g,PN n g→(∀ i,i<l→pt g i=i)→L.row.getD (pt g l) []≠[]→PN n (compI g (invI (L.row.getD (pt g l) [])))∧(∀ i,i<l+1→pt (compI g (invI (L.row.getD (pt g l) []))) i=i)∧compI (compI g (invI (L.row.getD (pt g l) []))) (L.row.getD (pt g l) [])=g:=fun g hg hf hne=>by
      obtain ⟨t1,t2,t3⟩:=hok.row (pt g l) (hg.get hl).2 hne
      refine ⟨hg.comp t1.inv,fun i hi=>?_,?_⟩
      · rw [pt_comp hg i (by omega)]
        by_cases e:i=l
        · subst e
          have:=pt_inv t1 hl
          rw [t3] at this
          exact this
        · rw [hf i (by omega)]
          have hfx:=Gen.fix h1 h2 hG (i:=i) (by omega) (fun s hs=>(hok.gens s hs).2 i (by omega)) t2
          have:=pt_inv t1 (show i<n by omega)
          rwa [hfx] at this
      · rw [comp_assoc hg t1.inv t1,inv_comp t1,comp_id hg]
    constructor
    · intro hh
      rw [hasL] at hh
      by_cases hne:L.row.getD (pt g l) []=[]
      · rw [if_pos hne] at hh;cases hh
      rw [if_neg hne] at hh
      obtain ⟨s1,s2,s3⟩:=step g hg hf hne
      have hu:=(ih _ s1 s2).1 hh
      rw [← s3]
      exact Gen.comp h1 h2 hG (Gen.sub h1 h2 hG hsub hu) (hok.row _ (hg.get hl).2 hne).2.1
    · intro hgen
      -- the set of the chain is closed under the generators
      have key:∀ g,Gen n L.gens g→∃ u,Gen n (headG C) u∧L.row.getD (pt g l) []≠[]∧g=compI u (L.row.getD (pt g l) []):=by
        intro g hgen
        induction hgen with
        | one =>
          refine ⟨idL n,.one,?_,?_⟩
          · rw [pt_id hl,hok.base]
            intro e
            have:=congrArg List.length e
            rw [runI_len] at this
            simp at this;omega
          · rw [pt_id hl,hok.base,comp_id (PN.one h1 h2)]
        | @mul g s hgg hs ih2 =>
          obtain ⟨u,hu,hne,he⟩:=ih2
          have hgp:=hgg.pn h1 h2 hG
          have hp:=(hgp.get hl).2
          have hsp:=hG s hs
          obtain ⟨t1,t2,t3⟩:=hok.row _ hp hne
          have hne2:=hcl _ hp hne s hs
          have hptc:pt (compI g s) l=pt s (pt g l):=pt_comp hgp l hl
          rw [hptc]
          obtain ⟨w1,w2,w3⟩:=hok.row _ (hsp.get hp).2 hne2
          have hup:=hu.pn h1 h2 hGC
          refine ⟨compI u (compI (compI (L.row.getD (pt g l) []) s) (invI (L.row.getD (pt s (pt g l)) []))),Gen.comp h1 h2 hGC hu (hsc _ hp hne s hs),hne2,?_⟩
          rw [comp_assoc hup ((t1.comp hsp).comp w1.inv) w1,comp_assoc (t1.comp hsp) w1.inv w1,inv_comp w1,comp_id (t1.comp hsp),← comp_assoc hup t1 hsp,← he]
      obtain ⟨u,hu,hne,he⟩:=key g hgen
      rw [hasL,if_neg hne]
      obtain ⟨s1,s2,s3⟩:=step g hg hf hne
      refine (ih _ s1 s2).2 ?_
      obtain ⟨t1,t2,t3⟩:=hok.row _ (hg.get hl).2 hne
      have hup:=hu.pn h1 h2 hGC
      have gen:∀ t,PN n t→g=compI u t→compI g (invI t)=u:=fun t ht e=>by rw [e,comp_assoc hup ht ht.inv,comp_inv ht,comp_id hup]
      rw [gen _ t1 he];exact hu
theorem Gen.inv {n:Nat} {S:List (List Int)} (h1:1≤n) (h2:n≤20) (hS:∀ s∈S,PN n s) {a:List Int} (ha:Gen n S a):Gen n S (invI a):=by
  have hp:=ha.pn h1 h2 hS
  have hpw:∀ k,PN n (pwL a k)∧Gen n S (pwL a k):=fun k=>by
    induction k with
    | zero =>
      have:pwL a 0=idL n:=by
        refine pl_ext (by rw [pwL_len,runI_len,hp.1]) fun i hi=>?_
        rw [pwL_len] at hi
        rw [pwL_get a 0 hi,runI_get 0 n i (by rw [← hp.1];exact hi)]
        simp [itN]
      rw [this];exact ⟨PN.one h1 h2,.one⟩
    | succ k ih=>rw [← pwL_succ hp.2 k];exact ⟨ih.1.comp hp,Gen.comp h1 h2 hS ih.2 ha⟩
  have ho:=ord_rng hp.2
  obtain ⟨k,hk⟩:∃ k,ordE a=k+1:=⟨ordE a - 1,by omega⟩
  have he:=ord_end hp.2
  rw [hk] at he
  have hid:=mov_nil (hpw (k+1)).1 (by rw [pwL_len];exact he)
  rw [← pwL_succ hp.2 k] at hid
  have:invI a=pwL a k:=by
    have e:=congrArg (fun x=>compI x (invI a)) hid
    rw [comp_assoc (hpw k).1 hp hp.inv,comp_inv hp,comp_id (hpw k).1,id_comp hp.inv] at e
    exact e.symm
  rw [this];exact (hpw k).2
/-! the elements -/
def filL (r:List (List Int)):List Nat:=(List.range r.length).filter fun p=>r.getD p [] != []
theorem mem_filL {r:List (List Int)} {p:Nat}:p∈filL r↔p<r.length∧r.getD p []≠[]:=by simp [filL]
theorem filL_nodup (r:List (List Int)):(filL r).Nodup:=List.Pairwise.filter _ List.nodup_range
def elsL (n:Nat):List Lv→List (List Int)
  | []=>[idL n]
  | L :: C=>(filL L.row).flatMap fun p=>(elsL n C).map fun u=>compI u (L.row.getD p [])
def ordL:List Lv→Nat
  | []=>1
  | L :: C=>(filL L.row).length*ordL C
theorem flat_len_const {α β:Type} (f:α→List β) (k:Nat):∀ l:List α,(∀ a∈l,(f a).length=k)→(l.flatMap f).length=l.length*k
  | [],_=>by simp
  | a :: l,h=>by
    rw [List.flatMap_cons,List.length_append,h a (by simp),flat_len_const f k l fun b hb=>h b (by simp [hb]),List.length_cons,Nat.succ_mul,Nat.add_comm]
theorem els_len (n:Nat):∀ C,(elsL n C).length=ordL C
  | []=>rfl
  | L :: C=>by rw [elsL,ordL,flat_len_const _ (ordL C) _ fun a _=>by rw [List.length_map,els_len n C]]
theorem good_els {n:Nat} (h1:1≤n) (h2:n≤20):∀ (C:List Lv) (l:Nat),Good n C l→(elsL n C).Nodup∧∀ g,g∈elsL n C↔Gen n (headG C) g
  | [],l,h=>⟨by simp [elsL],fun g=>by
    rw [elsL,List.mem_singleton]
    constructor
    · rintro rfl;exact .one
    · intro hg
      induction hg with
      | one=>rfl
      | mul _ hs _=>cases hs⟩
  | L :: C,l,h=>by
    have hh:=h
    obtain ⟨hl,hok,hcl,hsc,hsub,hC⟩:=h
    have hG:∀ s∈L.gens,PN n s:=fun s hs=>(hok.gens s hs).1
    have hGC:∀ s∈headG C,PN n s:=fun s hs=>(good_pn hC s hs).1
    obtain ⟨ihn,ihm⟩:=good_els h1 h2 C (l+1) hC
    have hfil:∀ p∈filL L.row,PN n (L.row.getD p [])∧Gen n L.gens (L.row.getD p [])∧pt (L.row.getD p []) l=p:=fun p hp=>by
      obtain ⟨q1,q2⟩:=mem_filL.1 hp
      rw [hok.len] at q1
      exact hok.row p q1 q2
    have hu:∀ u∈elsL n C,PN n u∧pt u l=l:=fun u hm=>by
      have hg:=(ihm u).1 hm
      exact ⟨hg.pn h1 h2 hGC,Gen.fix h1 h2 hGC hl (fun s hs=>(good_pn hC s hs).2 l (by omega)) hg⟩
    refine ⟨?_,fun g=>?_⟩
    · rw [elsL,List.Nodup,List.pairwise_flatMap]
      refine ⟨fun p hp=>?_,?_⟩
      · refine (List.pairwise_map.2 (ihn.imp_of_mem fun {a b} ha hb hab e=>hab ?_))
        obtain ⟨t1,_,_⟩:=hfil p hp
        have e:=congrArg (fun x=>compI x (invI (L.row.getD p []))) e
        simp only [comp_assoc (hu a ha).1 t1 t1.inv,comp_assoc (hu b hb).1 t1 t1.inv,comp_inv t1,comp_id (hu a ha).1,comp_id (hu b hb).1] at e
        exact e
      · refine (filL_nodup L.row).imp_of_mem fun {p q} hp hq hpq=>?_
        intro x hx y hy e
        obtain ⟨u,hu1,rfl⟩:=List.mem_map.1 hx
        obtain ⟨v,hv1,rfl⟩:=List.mem_map.1 hy
        have e1:pt (compI u (L.row.getD p [])) l=pt (compI v (L.row.getD q [])) l:=by rw [e]
        rw [pt_comp (hu v hv1).1 l hl,pt_comp (hu u hu1).1 l hl,(hu u hu1).2,(hu v hv1).2,(hfil p hp).2.2,(hfil q hq).2.2] at e1
        exact hpq e1
    · rw [elsL,List.mem_flatMap]
      constructor
      · rintro ⟨p,hp,hx⟩
        obtain ⟨u,hu1,rfl⟩:=List.mem_map.1 hx
        exact Gen.comp h1 h2 hG (Gen.sub h1 h2 hG hsub ((ihm u).1 hu1)) (hfil p hp).2.1
      · intro hg
        have hgp:=hg.pn h1 h2 hG
        have hfx:∀ i,i<l→pt g i=i:=fun i hi=>Gen.fix h1 h2 hG (by omega) (fun s hs=>(hok.gens s hs).2 i hi) hg
        have hh:=(good_has h1 h2 (L :: C) l hh g hgp hfx).2 hg
        rw [hasL] at hh
        by_cases hne:L.row.getD (pt g l) []=[]
        · rw [if_pos hne] at hh;cases hh
        rw [if_neg hne] at hh
        have hpm:pt g l∈filL L.row:=mem_filL.2 ⟨by rw [hok.len];exact (hgp.get hl).2,hne⟩
        obtain ⟨t1,t2,t3⟩:=hfil _ hpm
        refine ⟨pt g l,hpm,List.mem_map.2 ⟨compI g (invI (L.row.getD (pt g l) [])),?_,?_⟩⟩
        · rw [ihm]
          refine (good_has h1 h2 C (l+1) hC _ (hgp.comp t1.inv) (fun i hi=>?_)).1 hh
          rw [pt_comp hgp i (by omega)]
          by_cases e:i=l
          · subst e
            have:=pt_inv t1 hl
            rwa [t3] at this
          · rw [hfx i (by omega)]
            have hfx2:=Gen.fix h1 h2 hG (i:=i) (by omega) (fun s hs=>(hok.gens s hs).2 i (by omega)) t2
            have:=pt_inv t1 (show i<n by omega)
            rwa [hfx2] at this
        · rw [comp_assoc hgp t1.inv t1,inv_comp t1,comp_id hgp]
end Ch
end Go.AM
namespace Go.AM
namespace Ch
/-! a chain grows -/
def brStep (q:Nat) (s:List (List Int)×List Nat) (g:List Int):List (List Int)×List Nat :=
  if s.1.getD (pt g q) []=[] then (s.1.set (pt g q) (compI (s.1.getD q []) g),s.2++[pt g q]) else s
def brIn (gens:List (List Int)) (q:Nat) (s:List (List Int)×List Nat):Nat→List (List Int)×List Nat
  | 0=>s
  | j+1=>brStep q (brIn gens q s j) (gens.getD j default)
def brK (gens:List (List Int)) (row:List (List Int)):Nat→List (List Int)×List Nat
  | 0=>(row,filL row)
  | k+1=>if k<(brK gens row k).2.length then brIn gens ((brK gens row k).2.getD k 0) (brK gens row k) gens.length else brK gens row k
structure BrOk (n l:Nat) (gens:List (List Int)) (s:List (List Int)×List Nat):Prop where
  lv:LvOk n l ⟨gens,s.1⟩
  nd:s.2.Nodup
  mem:∀ p,p∈s.2↔p<n∧s.1.getD p []≠[]
theorem getD_set' {α:Type} (l:List α) (i j:Nat) (a d:α) (hi:i<l.length):(l.set i a).getD j d=if j=i then a else l.getD j d:=by
  by_cases h:j=i
  · subst h;simp [List.getD,hi]
  · rw [if_neg h];simp [List.getD,List.getElem?_set,Ne.symm h]
def Grows (s t:List (List Int)×List Nat):Prop:=(∃ e,t.2=s.2++e)∧∀ p,s.1.getD p []≠[]→t.1.getD p []=s.1.getD p []
theorem Grows.refl (s:List (List Int)×List Nat):Grows s s:=⟨⟨[],by simp⟩,fun _ _=>rfl⟩
theorem Grows.trans {s t u:List (List Int)×List Nat} (h:Grows s t) (k:Grows t u):Grows s u:=by
  obtain ⟨⟨e,he⟩,h2⟩:=h
  obtain ⟨⟨f,hf⟩,k2⟩:=k
  exact ⟨⟨e++f,by rw [hf,he,List.append_assoc]⟩,fun p hp=>by rw [k2 p (by rw [h2 p hp];exact hp),h2 p hp]⟩
theorem brStep_ok {n l:Nat} (h1:1≤n) (h2:n≤20) {gens:List (List Int)} {s:List (List Int)×List Nat} (h:BrOk n l gens s) (hl:l<n) {q:Nat} (hq:q∈s.2) {g:List Int} (hg:g∈gens) :
    BrOk n l gens (brStep q s g)∧Grows s (brStep q s g)∧(brStep q s g).1.getD (pt g q) []≠[]:=by
  have hG:∀ s∈gens,PN n s:=fun s hs=>(h.lv.gens s hs).1
  obtain ⟨hq1,hq2⟩:=(h.mem q).1 hq
  have hgp:=hG g hg
  have hpn:=(hgp.get hq1).2
  obtain ⟨t1,t2,t3⟩:=h.lv.row q hq1 hq2
  have hlen:s.1.length=n:=h.lv.len
  unfold brStep
  by_cases he:s.1.getD (pt g q) []=[]
  · rw [if_pos he]
    have hgs:∀ p,(s.1.set (pt g q) (compI (s.1.getD q []) g)).getD p []=if p=pt g q then compI (s.1.getD q []) g else s.1.getD p []:=fun p=>getD_set' _ _ _ _ _ (by rw [hlen];exact hpn)
    have hcp:=t1.comp hgp
    have hne:compI (s.1.getD q []) g≠[]:=fun e=>by
      have:=hcp.1;rw [e] at this;simp at this;omega
    have hlne:l≠pt g q:=fun e=>by
      have:=h.lv.base
      rw [e] at this
      simp only at this
      rw [he] at this
      have:=congrArg List.length this
      rw [runI_len] at this;simp at this;omega
    refine ⟨⟨⟨h.lv.gens,by rw [List.length_set];exact hlen,?_,fun p hp hpe=>?_⟩,?_,fun p=>?_⟩,⟨⟨[pt g q],rfl⟩,fun p hp=>?_⟩,?_⟩
    · simp only [hgs];rw [if_neg hlne];exact h.lv.base
    · simp only [hgs] at hpe ⊢
      by_cases e:p=pt g q
      · rw [if_pos e]
        refine ⟨hcp,.mul t2 hg,?_⟩
        rw [pt_comp t1 l hl,t3,e]
      · rw [if_neg e] at hpe ⊢
        exact h.lv.row p hp hpe
    · rw [List.nodup_append]
      refine ⟨h.nd,by simp,fun a ha b hb=>?_⟩
      rw [List.mem_singleton] at hb
      rintro rfl
      rw [hb] at ha
      exact ((h.mem _).1 ha).2 he
    · rw [List.mem_append,List.mem_singleton,h.mem,hgs]
      by_cases e:p=pt g q
      · rw [if_pos e];exact ⟨fun _=>⟨by omega,hne⟩,fun _=>.inr e⟩
      · rw [if_neg e];simp [e]
    · simp only [hgs]
      rw [if_neg (fun e=>hp (by rw [e];exact he))]
    · simp only [hgs];rw [if_pos trivial];exact hne
  · rw [if_neg he];exact ⟨h,Grows.refl _,he⟩
theorem brIn_ok {n l:Nat} (h1:1≤n) (h2:n≤20) {gens:List (List Int)} {s:List (List Int)×List Nat} (h:BrOk n l gens s) (hl:l<n) {q:Nat} (hq:q∈s.2):∀ j,j≤gens.length →
    BrOk n l gens (brIn gens q s j)∧Grows s (brIn gens q s j)∧∀ i,i<j→(brIn gens q s j).1.getD (pt (gens.getD i default) q) []≠[]
  | 0,_=>⟨h,Grows.refl _,fun i hi=>absurd hi (Nat.not_lt_zero i)⟩
  | j+1,hj=>by
    obtain ⟨a,b,c⟩:=brIn_ok h1 h2 h hl hq j (by omega)
    have hq':q∈(brIn gens q s j).2:=by obtain ⟨⟨e,he⟩,_⟩:=b;rw [he];exact List.mem_append_left _ hq
    obtain ⟨a2,b2,c2⟩:=brStep_ok h1 h2 a hl hq' (mem_getD gens j default (by omega))
    refine ⟨a2,b.trans b2,fun i hi=>?_⟩
    by_cases e:i=j
    · subst e;exact c2
    · have:=c i (by omega)
      show (brStep q (brIn gens q s j) (gens.getD j default)).1.getD (pt (gens.getD i default) q) []≠[]
      rw [b2.2 _ this];exact this
theorem brK_ok {n l:Nat} (h1:1≤n) (h2:n≤20) {gens row:List (List Int)} (h:LvOk n l ⟨gens,row⟩) (hl:l<n):∀ k,
    BrOk n l gens (brK gens row k)∧Grows (row,filL row) (brK gens row k)∧∀ i,i<k→i<(brK gens row k).2.length→∀ s∈gens,(brK gens row k).1.getD (pt s ((brK gens row k).2.getD i 0)) []≠[]
  | 0=>⟨⟨h,filL_nodup _,fun p=>by rw [show (brK gens row 0)=(row,filL row) from rfl,mem_filL,show row.length=n from h.len]⟩,Grows.refl _,fun i hi=>absurd hi (Nat.not_lt_zero i)⟩
  | k+1=>by
    obtain ⟨a,b,c⟩:=brK_ok h1 h2 h hl k
    rw [brK]
    split
    · rename_i hk
      have hm:=mem_getD (brK gens row k).2 k 0 hk
      obtain ⟨a2,b2,c2⟩:=brIn_ok h1 h2 a hl hm gens.length (Nat.le_refl _)
      refine ⟨a2,b.trans b2,fun i hi hi2 s hs=>?_⟩
      obtain ⟨⟨e,he⟩,b3⟩:=b2
      have hgi:∀ i,i<(brK gens row k).2.length→(brIn gens ((brK gens row k).2.getD k 0) (brK gens row k) gens.length).2.getD i 0=(brK gens row k).2.getD i 0:=fun i hi=>by
        rw [he];exact getD_app_l _ _ _ _ hi
      by_cases ei:i=k
      · subst ei
        rw [hgi i hk]
        obtain ⟨j,hj,hs2⟩:=List.mem_iff_getElem.1 hs
        have:=c2 j hj
        rwa [getD_eq _ _ _ hj,hs2] at this
      · have hik:i<(brK gens row k).2.length:=by omega
        rw [hgi i hik]
        have:=c i (by omega) hik s hs
        rw [b3 _ this];exact this
    · rename_i hk
      exact ⟨a,b,fun i hi hi2=>c i (by omega) hi2⟩
def brR (n:Nat) (gens row:List (List Int)):List (List Int):=(brK gens row n).1
theorem nodup_lt_len {n:Nat} {l:List Nat} (hd:l.Nodup) (h:∀ x∈l,x<n):l.length≤n:=by
  have:=len_le_of_sub l (List.range n) hd fun x hx=>List.mem_range.2 (h x hx)
  simpa using this
theorem brR_ok {n l:Nat} (h1:1≤n) (h2:n≤20) {gens row:List (List Int)} (h:LvOk n l ⟨gens,row⟩) (hl:l<n) :
    LvOk n l ⟨gens,brR n gens row⟩∧(∀ p,row.getD p []≠[]→(brR n gens row).getD p []=row.getD p [])∧∀ p,p<n→(brR n gens row).getD p []≠[]→∀ s∈gens,(brR n gens row).getD (pt s p) []≠[]:=by
  obtain ⟨a,b,c⟩:=brK_ok h1 h2 h hl n
  refine ⟨a.lv,fun p hp=>b.2 p hp,fun p hp hpe s hs=>?_⟩
  have hm:=(a.mem p).2 ⟨hp,hpe⟩
  obtain ⟨i,hi,e⟩:=List.mem_iff_getElem.1 hm
  have hle:=nodup_lt_len a.nd fun x hx=>((a.mem x).1 hx).1
  have:=c i (by omega) hi s hs
  rwa [getD_eq _ _ _ hi,e] at this
end Ch
end Go.AM
namespace Go.AM
namespace Ch
def schL (gens row:List (List Int)):List (List Int):=(filL row).flatMap fun p=>gens.map fun s=>compI (compI (row.getD p []) s) (invI (row.getD (pt s p) []))
def addL (n:Nat):Nat→List Lv→Nat→List Int→List Lv
  | 0,C,_,_=>C
  | _+1,[],_,_=>[]
  | d+1,L :: C,l,g=>if hasL (L :: C) l g=true then L :: C else ⟨L.gens++[g],brR n (L.gens++[g]) L.row⟩ :: (schL (L.gens++[g]) (brR n (L.gens++[g]) L.row)).foldl (fun C h=>addL n d C (l+1) h) C
structure AddOk (n l:Nat) (C C':List Lv):Prop where
  good:Good n C' l
  len:C'.length=C.length
  sub:∀ s∈headG C,s∈headG C'
theorem foldl_add {n l d:Nat} (f:List Lv→List Int→List Lv) (hf:∀ C h,Good n C l→C.length=d→PN n h→(∀ i,i<l→pt h i=i)→AddOk n l C (f C h)∧Gen n (headG (f C h)) h∧∀ s∈headG (f C h),s∈headG C∨s=h) :
    ∀ (hs:List (List Int)) (C:List Lv),Good n C l→C.length=d→(∀ h∈hs,PN n h∧∀ i,i<l→pt h i=i)→AddOk n l C (hs.foldl f C)∧(∀ h∈hs,Gen n (headG (hs.foldl f C)) h)∧∀ s∈headG (hs.foldl f C),s∈headG C∨s∈hs
  | [],C,hC,hd,_=>⟨⟨hC,rfl,fun _ h=>h⟩,fun h hh=>(by cases hh),fun s hs=>.inl hs⟩
  | h :: hs,C,hC,hd,hh=>by
    obtain ⟨a,b,c⟩:=hf C h hC hd (hh h (by simp)).1 (hh h (by simp)).2
    obtain ⟨a2,b2,c2⟩:=foldl_add f hf hs (f C h) a.good (by rw [a.len,hd]) fun x hx=>hh x (by simp [hx])
    refine ⟨⟨a2.good,by rw [List.foldl_cons,a2.len,a.len],fun s hs'=>a2.sub s (a.sub s hs')⟩,fun x hx=>?_,fun s hs'=>?_⟩
    · rcases List.mem_cons.1 hx with rfl | hx
      · exact Gen.mono a2.sub b
      · exact b2 x hx
    · rcases c2 s hs' with q | q
      · rcases c s q with q | q
        · exact .inl q
        · exact .inr (by simp [q])
      · exact .inr (by simp [q])
theorem addL_ok {n:Nat} (h1:1≤n) (h2:n≤20):∀ (d:Nat) (C:List Lv) (l:Nat) (g:List Int),Good n C l→C.length=d→l+d=n→PN n g→(∀ i,i<l→pt g i=i) →
    AddOk n l C (addL n d C l g)∧Gen n (headG (addL n d C l g)) g∧∀ s∈headG (addL n d C l g),s∈headG C∨s=g
  | 0,C,l,g,hC,hd,hn,hg,hf=>by
    have:C=[]:=List.length_eq_zero_iff.1 hd
    subst this
    have:l=n:=by omega
    subst this
    refine ⟨⟨hC,rfl,fun _ h=>h⟩,?_,fun s hs=>.inl hs⟩
    rw [hg.ext (PN.one h1 h2) fun i hi=>by rw [hf i hi,pt_id hi]]
    exact .one
  | d+1,[],l,g,hC,hd,hn,hg,hf=>by cases hd
  | d+1,L :: C,l,g,hC,hd,hn,hg,hf=>by
    rw [addL]
    by_cases hh:hasL (L :: C) l g=true
    · rw [if_pos hh]
      exact ⟨⟨hC,rfl,fun _ h=>h⟩,(good_has h1 h2 (L :: C) l hC g hg hf).1 hh,fun s hs=>.inl hs⟩
    rw [if_neg hh]
    obtain ⟨hl,hok,hcl,hsc,hsub,hG⟩:=hC
    have hgs:∀ s∈L.gens++[g],PN n s∧∀ i,i<l→pt s i=i:=fun s hs=>by
      rcases List.mem_append.1 hs with hs | hs
      · exact hok.gens s hs
      · rw [List.mem_singleton.1 hs];exact ⟨hg,hf⟩
    have hgp:∀ s∈L.gens++[g],PN n s:=fun s hs=>(hgs s hs).1
    have hok2:LvOk n l ⟨L.gens++[g],L.row⟩:=⟨hgs,hok.len,hok.base,fun p hp hpe=>by
      obtain ⟨q1,q2,q3⟩:=hok.row p hp hpe
      exact ⟨q1,Gen.mono (fun s hs=>List.mem_append_left _ hs) q2,q3⟩⟩
    obtain ⟨b1,b2,b3⟩:=brR_ok h1 h2 hok2 hl
    generalize hrow:brR n (L.gens++[g]) L.row=row at *
    generalize hgens:L.gens++[g]=gens at *
    -- the Schreier generators
    have hsch:∀ h∈schL gens row,(PN n h∧∀ i,i<l+1→pt h i=i)∧Gen n gens h:=fun h hh=>by
      unfold schL at hh
      obtain ⟨p,hp,hh⟩:=List.mem_flatMap.1 hh
      obtain ⟨s,hs,rfl⟩:=List.mem_map.1 hh
      obtain ⟨p1,p2⟩:=mem_filL.1 hp
      have p1:p<n:=by rw [show row.length=n from b1.len] at p1;exact p1
      have hsp:=hgp s hs
      obtain ⟨t1,t2,t3⟩:=b1.row p p1 p2
      have hne:=b3 p p1 p2 s hs
      obtain ⟨w1,w2,w3⟩:=b1.row (pt s p) (hsp.get p1).2 hne
      have hgen:Gen n gens (compI (compI (row.getD p []) s) (invI (row.getD (pt s p) []))):=Gen.comp h1 h2 hgp (Gen.mul t2 hs) (Gen.inv h1 h2 hgp w2)
      refine ⟨⟨(t1.comp hsp).comp w1.inv,fun i hi=>?_⟩,hgen⟩
      by_cases e:i=l
      · subst e
        rw [pt_comp (t1.comp hsp) i (by omega),pt_comp t1 i (by omega),t3]
        have:=pt_inv w1 hl
        rwa [w3] at this
      · exact Gen.fix h1 h2 hgp (by omega) (fun s hs=>(hgs s hs).2 i (by omega)) hgen
    obtain ⟨a,b,c⟩:=foldl_add (fun C h=>addL n d C (l+1) h) (fun C h hC hd' hp hf'=>addL_ok h1 h2 d C (l+1) h hC hd' (by omega) hp hf') (schL gens row) C hG (by simpa using hd) fun h hh=>(hsch h hh).1
    generalize (schL gens row).foldl (fun C h=>addL n d C (l+1) h) C=C' at *
    refine ⟨⟨⟨hl,b1,b3,fun p hp hpe s hs=>?_,fun s hs=>?_,a.good⟩,by simp [a.len],fun s hs=>?_⟩,?_,fun s hs=>?_⟩
    · refine b _ ?_
      unfold schL
      exact List.mem_flatMap.2 ⟨p,mem_filL.2 ⟨by rw [show row.length=n from b1.len];exact hp,hpe⟩,List.mem_map.2 ⟨s,hs,rfl⟩⟩
    · rcases c s hs with q | q
      · exact Gen.mono (fun s hs=>by rw [← hgens];exact List.mem_append_left _ hs) (hsub s q)
      · exact (hsch s q).2
    · show s∈gens
      rw [← hgens];exact List.mem_append_left _ hs
    · show Gen n gens g
      exact Gen.of hgp (by rw [← hgens];simp)
    · have hs:s∈gens:=hs
      rw [← hgens,List.mem_append,List.mem_singleton] at hs
      exact hs
end Ch
end Go.AM
namespace Go.AM
namespace Ch
def trvL (n:Nat):Nat→Nat→List Lv
  | 0,_=>[]
  | d+1,l=>⟨[],(List.replicate n []).set l (idL n)⟩ :: trvL n d (l+1)
theorem trvL_head (n d l:Nat):headG (trvL n d l)=[]:=by cases d <;> rfl
theorem trvL_len (n:Nat):∀ d l,(trvL n d l).length=d
  | 0,_=>rfl
  | d+1,l=>by rw [trvL,List.length_cons,trvL_len n d]
theorem trvL_good {n:Nat} (h1:1≤n) (h2:n≤20):∀ d l,l+d=n→Good n (trvL n d l) l
  | 0,l,h=>by show l=n;omega
  | d+1,l,h=>by
    have hg:∀ p,((List.replicate n ([]:List Int)).set l (idL n)).getD p []=if p=l then idL n else []:=fun p=>by
      rw [getD_set' _ _ _ _ _ (by simp;omega)]
      split
      · rfl
      · by_cases hp:p<n
        · simp [List.getD,hp]
        · simp [List.getD,hp]
    have h0:=PN.one (n:=n) h1 h2
    refine ⟨by omega,⟨fun s hs=>(by cases hs),by simp,(by simp only [hg];simp),fun p hp hpe=>?_⟩,fun p hp hpe s hs=>(by cases hs),fun p hp hpe s hs=>(by cases hs),fun s hs=>(by rw [trvL_head] at hs;cases hs),trvL_good h1 h2 d (l+1) (by omega)⟩
    simp only [hg] at hpe ⊢
    by_cases e:p=l
    · rw [if_pos e];exact ⟨h0,.one,by rw [pt_id (by omega),e]⟩
    · rw [if_neg e] at hpe;exact absurd rfl hpe
def newL (n:Nat) (G:List (List Int)):List Lv:=G.foldl (fun C g=>addL n n C 0 g) (trvL n n 0)
theorem newL_ok {n:Nat} (h1:1≤n) (h2:n≤20) (G:List (List Int)) (hG:∀ g∈G,PN n g):Good n (newL n G) 0∧(newL n G).length=n∧∀ g,Gen n (headG (newL n G)) g↔Gen n G g:=by
  have h0:=trvL_good h1 h2 n 0 (by omega)
  obtain ⟨a,b,c⟩:=foldl_add (n:=n) (l:=0) (d:=n) (fun C g=>addL n n C 0 g) (fun C h hC hd hp hf=>addL_ok h1 h2 n C 0 h hC hd (by omega) hp hf) G (trvL n n 0) h0 (trvL_len n n 0) fun h hh=>⟨hG h hh,fun i hi=>absurd hi (Nat.not_lt_zero i)⟩
  have hgp:∀ s∈headG (newL n G),PN n s:=fun s hs=>(good_pn a.good s hs).1
  refine ⟨a.good,by rw [newL,a.len,trvL_len],fun g=>⟨fun h=>Gen.mono (fun s hs=>?_) h,fun h=>Gen.sub h1 h2 hgp b h⟩⟩
  rcases c s hs with q | q
  · rw [trvL_head] at q;cases q
  · exact q
theorem newL_els {n:Nat} (h1:1≤n) (h2:n≤20) (G:List (List Int)) (hG:∀ g∈G,PN n g):(elsL n (newL n G)).Nodup∧(elsL n (newL n G)).length=ordL (newL n G)∧∀ g,g∈elsL n (newL n G)↔Gen n G g:=by
  obtain ⟨a,b,c⟩:=newL_ok h1 h2 G hG
  obtain ⟨q1,q2⟩:=good_els h1 h2 _ 0 a
  exact ⟨q1,els_len n _,fun g=>by rw [q2,c]⟩
/-! how many generators a level may hold -/
end Ch
end Go.AM
set_option maxRecDepth 8000
namespace Go.AM
open Go.Proofs
open Ch (filL mem_filL)
def nlv (t:List Int):AV:=match t with | []=>.nilsl | x :: r=>isl (x :: r)
theorem nlv_nil:nlv []=.nilsl:=rfl
theorem nlv_ne {t:List Int} (h:t≠[]):nlv t=isl t:=by cases t with | nil=>exact absurd rfl h | cons=>rfl
end Go.AM
namespace Go.AM
namespace Sc
/-! the reference's chain of stabilizers,plainly -/
open Ch (PN pt idL Gen Lv LvOk Good hasL headG good_has id_comp comp_assoc pt_comp pt_id pt_inv comp_inv inv_comp)
instance:Inhabited Lv:=⟨⟨[],[]⟩⟩
def lv (C:List Lv) (k:Nat):Lv:=C.getD k default
def rep (C:List Lv) (k y:Nat):List Int:=(lv C k).row.getD y []
def psS (C:List Lv) (k:Nat) (g:List Int):Bool:=hasL (C.drop k) k g
theorem drop_lv {C:List Lv} {k:Nat} (h:k<C.length):C.drop k=lv C k :: C.drop (k+1):=by
  rw [lv,getD_eq _ _ _ h];exact List.drop_eq_getElem_cons h
theorem ps_step {C:List Lv} {k:Nat} (h:k<C.length) (g:List Int):psS C k g=if rep C k (pt g k)=[] then false else psS C (k+1) (compI g (invI (rep C k (pt g k)))):=by
  unfold psS
  rw [drop_lv h,hasL];rfl
theorem ps_end {C:List Lv} {k:Nat} (h:C.length≤k) (g:List Int):psS C k g=true:=by
  unfold psS
  rw [List.drop_eq_nil_of_le h];rfl
theorem lv_set {C:List Lv} {k:Nat} (L:Lv) (h:k<C.length) (j:Nat):lv (C.set k L) j=if j=k then L else lv C j:=by
  unfold lv
  by_cases c:j=k
  · subst c;rw [if_pos rfl,getD_set_same _ _ _ _ h]
  · rw [if_neg c,getD_set_ne _ _ _ _ _ (Ne.symm c)]
structure Ext (C C':List Lv):Prop where
  len:C'.length=C.length
  gens:∀ j,∀ s∈(lv C j).gens,s∈(lv C' j).gens
  row:∀ j y,rep C j y≠[]→rep C' j y=rep C j y
theorem Ext.refl (C:List Lv):Ext C C:=⟨rfl,fun _ _ h=>h,fun _ _ _=>rfl⟩
theorem Ext.trans {A B C:List Lv} (h:Ext A B) (k:Ext B C):Ext A C :=
  ⟨k.len.trans h.len,fun j s hs=>k.gens j s (h.gens j s hs),fun j y hy=>(k.row j y (by rw [h.row j y hy];exact hy)).trans (h.row j y hy)⟩
theorem ps_mono {C C':List Lv} (e:Ext C C'):∀ d k g,k+d=C.length→psS C k g=true→psS C' k g=true
  | 0,k,g,h,_=>ps_end (by have:=e.len;omega) g
  | d+1,k,g,h,q=>by
    have hk:k<C.length:=by omega
    rw [ps_step hk] at q
    rw [ps_step (by have:=e.len;omega)]
    by_cases c:rep C k (pt g k)=[]
    · rw [if_pos c] at q;cases q
    · rw [if_neg c] at q
      have hr:=e.row k (pt g k) c
      rw [hr,if_neg c]
      exact ps_mono e d (k+1) _ (by omega) q
theorem ps_up {C C':List Lv} (e:Ext C C') {k:Nat} (h:k≤C.length) {g:List Int} (q:psS C k g=true):psS C' k g=true:=ps_mono e (C.length - k) k g (by omega) q
theorem ps_same {C C':List Lv} (hl:C'.length=C.length):∀ d k g,k+d=C.length→(∀ j,k≤j→lv C' j=lv C j)→psS C' k g=psS C k g
  | 0,k,g,h,_=>by rw [ps_end (by omega),ps_end (by omega)]
  | d+1,k,g,h,q=>by
    have e:∀ y,rep C' k y=rep C k y:=fun y=>by unfold rep;rw [q k (Nat.le_refl _)]
    have s1:=ps_step (C:=C') (k:=k) (by omega) g
    have s2:=ps_step (C:=C) (k:=k) (by omega) g
    rw [s1,s2,e,ps_same hl d (k+1) _ (by omega) (fun j hj=>q j (by omega))]
def Hd (C:List Lv) (k:Nat) (p:List Int):Prop:=rep C k (pt p k)≠[]∧psS C (k+1) (compI p (invI (rep C k (pt p k))))=true
theorem Hd.mono {C C':List Lv} (e:Ext C C') {k:Nat} (hk:k<C.length) {p:List Int} (h:Hd C k p):Hd C' k p:=by
  have hr:=e.row k (pt p k) h.1
  refine ⟨by rw [hr];exact h.1,?_⟩
  rw [hr]
  exact ps_up e (by omega) h.2
theorem Hd.ps {C:List Lv} {k:Nat} (hk:k<C.length) {p:List Int} (h:Hd C k p):psS C k p=true:=by
  rw [ps_step hk,if_neg h.1];exact h.2
structure WF (n:Nat) (C:List Lv):Prop where
  len:C.length=n
  lv:∀ k,k<n→LvOk n k (lv C k)
  sub:∀ k,k+1<n→∀ s∈(Sc.lv C (k+1)).gens,Gen n (Sc.lv C k).gens s
def Cl (n:Nat) (C:List Lv) (k:Nat):Prop:=∀ y,y<n→rep C k y≠[]→∀ s∈(lv C k).gens,Hd C k (compI (rep C k y) s)
def CC (n:Nat) (C:List Lv) (k:Nat):Prop:=∀ j,k≤j→j<n→Cl n C j
theorem CC_same {n:Nat} {C C':List Lv} {k:Nat} (hC:C.length=n) (hl:C'.length=C.length) (q:∀ j,k≤j→lv C' j=lv C j) (h:CC n C k):CC n C' k:=by
  intro j hj hn y hy hr s hs
  have e:∀ y,rep C' j y=rep C j y:=fun y=>by unfold rep;rw [q j hj]
  rw [e] at hr
  rw [q j hj] at hs
  obtain ⟨a,b⟩:=h j hj hn y hy hr s hs
  unfold Hd
  rw [e y,e]
  refine ⟨a,?_⟩
  rw [ps_same hl (C.length - (j+1)) (j+1) _ (by omega) (fun i hi=>q i (by omega))]
  exact b
def mis (C:List Lv) (k:Nat):Nat:=((lv C k).row.filter fun r=>r == []).length
theorem mis_le:∀ (a b:List (List Int)),a.length=b.length→(∀ y,a.getD y []≠[]→b.getD y []≠[])→(b.filter fun r=>r == []).length≤(a.filter fun r=>r == []).length
  | [],[],_,_=>Nat.le_refl _
  | [],_ :: _,h,_=>by simp at h
  | _ :: _,[],h,_=>by simp at h
  | x :: a,y :: b,h,hh=>by
    have ih:=mis_le a b (by simpa using h) (fun j hj=>by have:=hh (j+1);simpa using this (by simpa using hj))
    have h0:=hh 0
    simp only [List.getD_cons_zero] at h0
    rw [List.filter_cons,List.filter_cons]
    by_cases c:y=[]
    · have cx:x=[]:=by
        by_cases d:x=[]
        · exact d
        · exact absurd c (h0 d)
      subst c;subst cx
      have e:(([]:List Int) == [])=true:=rfl
      rw [e,if_pos rfl,if_pos rfl,List.length_cons,List.length_cons]
      omega
    · have c1:(y == [])=false:=by simpa using c
      rw [c1]
      simp only [Bool.false_eq_true,if_false]
      split
      · rw [List.length_cons];omega
      · exact ih
theorem mis_set (p:List Int) (hp:p≠[]):∀ (a:List (List Int)) (y:Nat),y<a.length→a.getD y []=[]→((a.set y p).filter fun r=>r == []).length+1=(a.filter fun r=>r == []).length
  | [],_,h,_=>by simp at h
  | x :: a,0,_,hx=>by
    simp only [List.getD_cons_zero] at hx
    subst hx
    have c1:(p == [])=false:=by simpa using hp
    rw [List.set_cons_zero,List.filter_cons,List.filter_cons,c1]
    simp
  | x :: a,y+1,h,hx=>by
    have ih:=mis_set p hp a y (by simpa using h) (by simpa using hx)
    rw [List.set_cons_succ,List.filter_cons,List.filter_cons]
    split
    · simp only [List.length_cons];omega
    · exact ih
theorem mis_n {n:Nat} {C:List Lv} (h:WF n C) {k:Nat} (hk:k<n):mis C k≤n:=by
  have:=List.length_filter_le (fun r=>r == []) (lv C k).row
  rw [(h.lv k hk).len] at this
  exact this
theorem mis_mono {n:Nat} {C C':List Lv} (h:WF n C) (h':WF n C') (e:Ext C C') {k:Nat} (hk:k<n):mis C' k≤mis C k :=
  mis_le _ _ (by rw [(h.lv k hk).len,(h'.lv k hk).len]) fun y hy=>by
    have:=e.row k y hy
    unfold rep at this
    rw [this];exact hy
def FG (n k:Nat):Nat:=(n - k)*(n+2)+1
def FP (n k m:Nat):Nat:=m+1+FG n (k+1)
theorem FG_FP {n k m:Nat} (hk:k<n) (hm:m≤n):FP n k m+1≤FG n k:=by
  unfold FP FG
  have:(n - k)*(n+2)=(n - (k+1))*(n+2)+(n+2):=by
    rw [show n - k=(n - (k+1))+1 by omega,Nat.succ_mul]
  omega
def add:Nat→Bool→List Lv→Nat→List Int→List Lv
  | 0,_,C,_,_=>C
  | f + 1,true,C,k,p=>if C.length≤k then C else if psS C k p=true then C else
      ((lv C k).row.filter fun r=>!(r == [])).foldl (fun C r=>add f false C k (compI r p)) (C.set k ⟨(lv C k).gens++[p],(lv C k).row⟩)
  | f + 1,false,C,k,p=>if rep C k (pt p k)=[] then
      (lv C k).gens.foldl (fun C g=>add f false C k (compI p g)) (C.set k ⟨(lv C k).gens,(lv C k).row.set (pt p k) p⟩)
    else add f true C (k+1) (compI p (invI (rep C k (pt p k))))
structure PG (n:Nat) (C C':List Lv) (k:Nat) (p:List Int):Prop where
  wf:WF n C'
  ext:Ext C C'
  cc:CC n C' k
  ps:psS C' k p=true
  low:∀ j,j<k→lv C' j=lv C j
structure PP (n:Nat) (C C':List Lv) (k:Nat):Prop where
  wf:WF n C'
  ext:Ext C C'
  cc:CC n C' (k+1)
  gens:(lv C' k).gens=(lv C k).gens
  low:∀ j,j<k→lv C' j=lv C j
  nc:∀ y,y<n→rep C k y=[]→rep C' k y≠[]→∀ s∈(lv C k).gens,Hd C' k (compI (rep C' k y) s)
theorem PP.refl {n:Nat} {C:List Lv} {k:Nat} (h:WF n C) (c:CC n C (k+1)):PP n C C k:=⟨h,.refl C,c,rfl,fun _ _=>rfl,fun _ _ a b=>absurd a b⟩
theorem PP.trans {n:Nat} {A B C:List Lv} {k:Nat} (hk:k<n) (h:PP n A B k) (g:PP n B C k):PP n A C k:=by
  refine ⟨g.wf,h.ext.trans g.ext,g.cc,g.gens.trans h.gens,fun j hj=>(g.low j hj).trans (h.low j hj),fun y hy a b s hs=>?_⟩
  by_cases c:rep B k y=[]
  · exact g.nc y hy c b s (by rw [h.gens];exact hs)
  · have e:=g.ext.row k y c
    rw [e]
    exact (h.nc y hy a c s hs).mono g.ext (by rw [h.wf.len];exact hk)
structure El (n:Nat) (C:List Lv) (k:Nat) (p:List Int):Prop where
  pn:PN n p
  fix:∀ i,i<k→pt p i=i
  gen:Gen n (lv C k).gens p
section
variable {n:Nat}
theorem fold_ok (f:Nat) (ihP:∀ C k p,WF n C→k<n→El n C k p→CC n C (k+1)→FP n k (mis C k)≤f→PP n C (add f false C k p) k∧Hd (add f false C k p) k p) {k:Nat} (hk:k<n) :
    ∀ (qs:List (List Int)) (C:List Lv),WF n C→CC n C (k+1)→FP n k (mis C k)≤f→(∀ q∈qs,El n C k q)→PP n C (qs.foldl (fun C q=>add f false C k q) C) k∧∀ q∈qs,Hd (qs.foldl (fun C q=>add f false C k q) C) k q
  | [],C,hw,hc,_,_=>⟨.refl hw hc,fun q hq=>absurd hq (List.not_mem_nil)⟩
  | q :: qs,C,hw,hc,hf,hq=>by
    obtain ⟨a,b⟩:=ihP C k q hw hk (hq q (List.mem_cons_self ..)) hc hf
    have hm:=mis_mono hw a.wf a.ext hk
    obtain ⟨c,d⟩:=fold_ok f ihP hk qs (add f false C k q) a.wf a.cc (by unfold FP at *;omega) (fun r hr=>by
      have:=hq r (List.mem_cons_of_mem _ hr)
      exact ⟨this.pn,this.fix,by rw [a.gens];exact this.gen⟩)
    rw [List.foldl_cons]
    refine ⟨a.trans hk c,fun r hr=>?_⟩
    rcases List.mem_cons.1 hr with e | e
    · rw [e];exact b.mono c.ext (by rw [a.wf.len];exact hk)
    · exact d r e
theorem pn_ne {p:List Int} (h:PN n p):p≠[]:=fun e=>by
  have:=h.2.1
  rw [e] at this
  simp at this
theorem add_ok (h1:1≤n) (h2:n≤20):∀ f,(∀ C k p,WF n C→k≤n→PN n p→(∀ i,i<k→pt p i=i)→(∀ j,k=j+1→Gen n (lv C j).gens p)→CC n C k→FG n k≤f→PG n C (add f true C k p) k p) ∧
    (∀ C k p,WF n C→k<n→El n C k p→CC n C (k+1)→FP n k (mis C k)≤f→PP n C (add f false C k p) k∧Hd (add f false C k p) k p)
  | 0=>⟨fun C k p _ _ _ _ _ _ hf=>absurd hf (by unfold FG;omega),fun C k p _ _ _ _ hf=>absurd hf (by unfold FP;omega)⟩
  | f+1=>by
    obtain ⟨ihG,ihP⟩:=add_ok h1 h2 f
    refine ⟨fun C k p hw hkn hp hfx hgn hcc hf=>?_,fun C k p hw hk hel hcc hf=>?_⟩
    · rw [add]
      have hlen:=hw.len
      by_cases ck:C.length≤k
      · rw [if_pos ck]
        exact ⟨hw,.refl C,hcc,ps_end ck p,fun _ _=>rfl⟩
      rw [if_neg ck]
      by_cases cp:psS C k p=true
      · rw [if_pos cp]
        exact ⟨hw,.refl C,hcc,cp,fun _ _=>rfl⟩
      rw [if_neg cp]
      have hk:k<n:=by omega
      have hkC:k<C.length:=by omega
      have hL:=hw.lv k hk
      -- the chain with the new generator
      obtain ⟨C1,hC1⟩:∃ C1,C1=C.set k ⟨(lv C k).gens++[p],(lv C k).row⟩:=⟨_,rfl⟩
      have l1:∀ j,lv C1 j=if j=k then ⟨(lv C k).gens++[p],(lv C k).row⟩ else lv C j:=fun j=>by rw [hC1];exact lv_set _ hkC j
      have l1k:lv C1 k=⟨(lv C k).gens++[p],(lv C k).row⟩:=by rw [l1,if_pos rfl]
      have len1:C1.length=C.length:=by rw [hC1,List.length_set]
      have r1:∀ j y,rep C1 j y=rep C j y:=fun j y=>by
        unfold rep
        rw [l1]
        by_cases c:j=k
        · subst c;rw [if_pos rfl]
        · rw [if_neg c]
      have hgm:∀ {g},Gen n (lv C k).gens g→Gen n ((lv C k).gens++[p]) g:=fun h=>h.mono fun s hs=>List.mem_append_left _ hs
      have hG1:∀ s∈(lv C k).gens++[p],PN n s∧∀ i,i<k→pt s i=i:=fun s hs=>by
        rcases List.mem_append.1 hs with q | q
        · exact hL.gens s q
        · rw [List.mem_singleton.1 q];exact ⟨hp,hfx⟩
      have ext1:Ext C C1:=⟨len1,fun j s hs=>by
        rw [l1]
        by_cases c:j=k
        · subst c;rw [if_pos rfl];exact List.mem_append_left _ hs
        · rw [if_neg c];exact hs,fun j y _=>r1 j y⟩
      have wf1:WF n C1:=by
        refine ⟨by omega,fun j hj=>?_,fun j hj s hs=>?_⟩
        · rw [l1]
          by_cases c:j=k
          · subst c
            rw [if_pos rfl]
            exact ⟨hG1,hL.len,hL.base,fun y hy hr=>by obtain ⟨a,b,c⟩:=hL.row y hy hr;exact ⟨a,hgm b,c⟩⟩
          · rw [if_neg c];exact hw.lv j hj
        · rw [l1] at hs
          rw [l1]
          by_cases c:j=k
          · subst c
            rw [if_pos rfl]
            rw [if_neg (by omega)] at hs
            exact hgm (hw.sub j hj s hs)
          · rw [if_neg c]
            by_cases c2:j+1=k
            · rw [if_pos c2] at hs
              rcases List.mem_append.1 hs with q | q
              · exact hw.sub j hj s (by rw [c2];exact q)
              · rw [List.mem_singleton.1 q];exact hgn j c2.symm
            · rw [if_neg c2] at hs;exact hw.sub j hj s hs
      have cc1:CC n C1 (k+1):=CC_same hlen len1 (fun j hj=>by rw [l1,if_neg (by omega)]) (fun j a b=>hcc j (by omega) b)
      have hm1:mis C1 k≤n:=mis_n wf1 hk
      have hf1:FP n k (mis C1 k)≤f:=by have:=FG_FP hk hm1;omega
      have hmemr:∀ r,r∈((lv C k).row.filter fun r=>!(r == []))↔∃ y,y<n∧rep C k y=r∧r≠[]:=fun r=>by
        rw [List.mem_filter]
        constructor
        · rintro ⟨a,b⟩
          obtain ⟨y,hy,e⟩:=List.getElem_of_mem a
          refine ⟨y,by rw [← hL.len];exact hy,?_,by simpa using b⟩
          unfold rep
          rw [getD_eq _ _ _ hy,e]
        · rintro ⟨y,hy,e,hne⟩
          refine ⟨?_,by simpa using hne⟩
          rw [← e]
          exact mem_getD _ y [] (by rw [hL.len];exact hy)
      have hel:∀ q∈(((lv C k).row.filter fun r=>!(r == [])).map fun r=>compI r p),El n C1 k q:=fun q hq=>by
        obtain ⟨r,hr,rfl⟩:=List.mem_map.1 hq
        obtain ⟨y,hy,e,hne⟩:=(hmemr r).1 hr
        obtain ⟨a,b,c⟩:=hL.row y hy (by show rep C k y≠[];rw [e];exact hne)
        rw [show (lv C k).row.getD y []=r from e] at a b c
        have hfr:=fun i (hi:i<k)=>Gen.fix h1 h2 (fun s hs=>(hL.gens s hs).1) (i:=i) (by omega) (fun s hs=>(hL.gens s hs).2 i hi) b
        refine ⟨a.comp hp,fun i hi=>?_,?_⟩
        · rw [pt_comp a i (by omega),hfr i hi,hfx i hi]
        · rw [l1k]
          exact .mul (hgm b) (List.mem_append_right _ (List.mem_singleton.2 rfl))
      obtain ⟨c,d⟩:=fold_ok f ihP hk _ C1 wf1 cc1 hf1 hel
      rw [List.foldl_map] at c d
      rw [← hC1]
      generalize ((lv C k).row.filter fun r=>!(r == [])).foldl (fun C r=>add f false C k (compI r p)) C1=C' at c d ⊢
      have ext2:=ext1.trans c.ext
      have hbase:rep C k k=idL n:=hL.base
      have hidne:idL n≠[]:=pn_ne (PN.one h1 h2)
      refine ⟨c.wf,ext2,fun j hj hjn=>?_,?_,fun j hj=>?_⟩
      · by_cases e:j=k
        · subst e
          intro y hy hr s hs
          rw [c.gens,l1k] at hs
          by_cases cr:rep C j y=[]
          · exact c.nc y hy (by rw [r1];exact cr) hr s (by rw [l1k];exact hs)
          · have er:=ext2.row j y cr
            rw [er]
            rcases List.mem_append.1 hs with q | q
            · exact (hcc j (Nat.le_refl _) hjn y hy cr s q).mono ext2 hkC
            · rw [List.mem_singleton.1 q]
              exact d _ (List.mem_map.2 ⟨rep C j y,(hmemr _).2 ⟨y,hy,rfl,cr⟩,rfl⟩)
        · exact c.cc j (by omega) hjn
      · have:=d (compI (idL n) p) (List.mem_map.2 ⟨idL n,(hmemr _).2 ⟨k,hk,hbase,hidne⟩,rfl⟩)
        rw [id_comp hp] at this
        exact this.ps (by rw [c.wf.len];exact hk)
      · rw [c.low j hj,l1,if_neg (by omega)]
    · rw [add]
      have hlen:=hw.len
      have hkC:k<C.length:=by omega
      have hL:=hw.lv k hk
      have hpy:=(hel.pn.get hk).2
      have hpne:=pn_ne hel.pn
      by_cases cr:rep C k (pt p k)=[]
      · rw [if_pos cr]
        obtain ⟨C1,hC1⟩:∃ C1,C1=C.set k ⟨(lv C k).gens,(lv C k).row.set (pt p k) p⟩:=⟨_,rfl⟩
        have l1:∀ j,lv C1 j=if j=k then ⟨(lv C k).gens,(lv C k).row.set (pt p k) p⟩ else lv C j:=fun j=>by rw [hC1];exact lv_set _ hkC j
        have l1k:lv C1 k=⟨(lv C k).gens,(lv C k).row.set (pt p k) p⟩:=by rw [l1,if_pos rfl]
        have len1:C1.length=C.length:=by rw [hC1,List.length_set]
        have rk:∀ y,rep C1 k y=if y=pt p k then p else rep C k y:=fun y=>by
          unfold rep
          rw [l1k]
          by_cases c:y=pt p k
          · rw [if_pos c,c,getD_set_same _ _ _ _ (by rw [hL.len];exact hpy)]
          · rw [if_neg c,getD_set_ne _ _ _ _ _ (Ne.symm c)]
        have ro:∀ j y,j≠k→rep C1 j y=rep C j y:=fun j y c=>by unfold rep;rw [l1,if_neg c]
        have ext1:Ext C C1:=⟨len1,fun j s hs=>by
          rw [l1]
          by_cases c:j=k
          · subst c;rw [if_pos rfl];exact hs
          · rw [if_neg c];exact hs,fun j y hy=>by
          by_cases c:j=k
          · subst c
            rw [rk,if_neg (fun e=>hy (by rw [e];exact cr))]
          · exact ro j y c⟩
        have wf1:WF n C1:=by
          refine ⟨by omega,fun j hj=>?_,fun j hj s hs=>?_⟩
          · rw [l1]
            by_cases c:j=k
            · subst c
              rw [if_pos rfl]
              refine ⟨hL.gens,by simp only [List.length_set];exact hL.len,?_,fun y hy hr=>?_⟩
              · have:j≠pt p j:=fun e=>by
                  rw [← e] at cr
                  exact pn_ne (PN.one h1 h2) (hL.base.symm.trans cr)
                simp only
                rw [getD_set_ne _ _ _ _ _ (Ne.symm this)]
                exact hL.base
              · have hry:=rk y
                unfold rep at hry
                rw [l1k] at hry
                simp only at hry hr ⊢
                rw [hry] at hr ⊢
                by_cases c:y=pt p j
                · rw [if_pos c];exact ⟨hel.pn,hel.gen,c.symm⟩
                · rw [if_neg c] at hr ⊢
                  exact hL.row y hy hr
            · rw [if_neg c];exact hw.lv j hj
          · rw [l1] at hs
            rw [l1]
            have hg2:∀ i,(if i=k then (⟨(lv C k).gens,(lv C k).row.set (pt p k) p⟩:Lv) else lv C i).gens=(lv C i).gens:=fun i=>by
              by_cases c:i=k
              · subst c;rw [if_pos rfl]
              · rw [if_neg c]
            rw [hg2] at hs
            rw [hg2]
            exact hw.sub j hj s hs
        have cc1:CC n C1 (k+1):=CC_same hlen len1 (fun j hj=>by rw [l1,if_neg (by omega)]) hcc
        have hm1:mis C1 k+1=mis C k:=by
          unfold mis
          rw [l1k]
          exact mis_set p hpne _ _ (by rw [hL.len];exact hpy) cr
        have hel1:∀ q∈((lv C k).gens.map fun g=>compI p g),El n C1 k q:=fun q hq=>by
          obtain ⟨g,hg,rfl⟩:=List.mem_map.1 hq
          obtain ⟨a,b⟩:=hL.gens g hg
          refine ⟨hel.pn.comp a,fun i hi=>?_,?_⟩
          · rw [pt_comp hel.pn i (by omega),hel.fix i hi,b i hi]
          · rw [l1k];exact .mul hel.gen hg
        obtain ⟨c,d⟩:=fold_ok f ihP hk _ C1 wf1 cc1 (by unfold FP at *;omega) hel1
        rw [List.foldl_map] at c d
        rw [← hC1]
        generalize (lv C k).gens.foldl (fun C g=>add f false C k (compI p g)) C1=C' at c d ⊢
        have hr1:rep C1 k (pt p k)=p:=by rw [rk,if_pos rfl]
        have hr2:rep C' k (pt p k)=p:=by rw [c.ext.row k _ (by rw [hr1];exact hpne),hr1]
        refine ⟨⟨c.wf,ext1.trans c.ext,c.cc,by rw [c.gens,l1k],fun j hj=>by rw [c.low j hj,l1,if_neg (by omega)],fun y hy a b s hs=>?_⟩,?_,?_⟩
        · by_cases e:y=pt p k
          · rw [e,hr2]
            exact d _ (List.mem_map.2 ⟨s,hs,rfl⟩)
          · exact c.nc y hy (by rw [rk,if_neg e];exact a) b s (by rw [l1k];exact hs)
        · rw [hr2];exact hpne
        · rw [hr2,comp_inv hel.pn]
          -- the identity is in every chain
          have hid:∀ d j,j+d=n→psS C' j (idL n)=true:=by
            intro d
            induction d with
            | zero=>intro j hj;exact ps_end (by rw [c.wf.len];omega) _
            | succ d ih =>
              intro j hj
              have hjn:j<n:=by omega
              have hb:rep C' j j=idL n:=(c.wf.lv j hjn).base
              have hi:=PN.one h1 h2
              rw [ps_step (by rw [c.wf.len];exact hjn),pt_id hjn,hb,if_neg (pn_ne hi),comp_inv hi]
              exact ih (j+1) (by omega)
          exact hid (n - (k+1)) (k+1) (by omega)
      · rw [if_neg cr]
        obtain ⟨t1,t2,t3⟩:=hL.row (pt p k) hpy cr
        rw [show (lv C k).row.getD (pt p k) []=rep C k (pt p k) from rfl] at t1 t2 t3
        have hGp:∀ s∈(lv C k).gens,PN n s:=fun s hs=>(hL.gens s hs).1
        have hfr:=fun i (hi:i<k)=>Gen.fix h1 h2 hGp (i:=i) (by omega) (fun s hs=>(hL.gens s hs).2 i hi) t2
        have hq:=ihG C (k+1) (compI p (invI (rep C k (pt p k)))) hw (by omega) (hel.pn.comp t1.inv) (fun i hi=>by
          rw [pt_comp hel.pn i (by omega)]
          by_cases e:i=k
          · subst e
            have:=pt_inv t1 hk
            rw [t3] at this
            exact this
          · rw [hel.fix i (by omega)]
            have:=pt_inv t1 (show i<n by omega)
            rwa [hfr i (by omega)] at this) (fun j hj=>by
          have:j=k:=by omega
          subst this
          exact Gen.comp h1 h2 hGp hel.gen (Gen.inv h1 h2 hGp t2)) hcc (by unfold FP at hf;omega)
        have hlow:=hq.low k (by omega)
        generalize add f true C (k+1) (compI p (invI (rep C k (pt p k))))=C' at *
        have hrk:∀ y,rep C' k y=rep C k y:=fun y=>by
          show (lv C' k).row.getD y []=_
          rw [hlow];rfl
        refine ⟨⟨hq.wf,hq.ext,hq.cc,by rw [hlow],fun j hj=>hq.low j (by omega),fun y hy a b s hs=>?_⟩,?_,?_⟩
        · rw [hrk] at b;exact absurd a b
        · rw [hrk];exact cr
        · rw [hrk];exact hq.ps
end
end Sc
end Go.AM
namespace Go.AM
namespace Sc
open Ch (PN pt idL Gen Lv LvOk hasL headG good_has good_pn id_comp comp_assoc pt_comp pt_id pt_inv comp_inv inv_comp)
theorem good_of {n:Nat} {C:List Lv} (h1:1≤n) (h2:n≤20) {k0:Nat} (hw:WF n C) (hc:CC n C k0):∀ d k,k0≤k→k+d=n→Ch.Good n (C.drop k) k
  | 0,k,_,h=>by
    rw [List.drop_eq_nil_of_le (by rw [hw.len];omega)]
    exact (by omega:k=n)
  | d+1,k,hk0,h=>by
    have hk:k<n:=by omega
    have ih:=good_of h1 h2 hw hc d (k+1) (by omega) (by omega)
    have hL:=hw.lv k hk
    have hG:∀ s∈(lv C k).gens,PN n s:=fun s hs=>(hL.gens s hs).1
    rw [drop_lv (by rw [hw.len];exact hk)]
    have key:∀ y,y<n→(lv C k).row.getD y []≠[]→∀ s∈(lv C k).gens,(lv C k).row.getD (pt s y) []≠[]∧Gen n (headG (C.drop (k+1))) (compI (compI ((lv C k).row.getD y []) s) (invI ((lv C k).row.getD (pt s y) []))):=by
      intro y hy hr s hs
      obtain ⟨r1,r2,r3⟩:=hL.row y hy hr
      obtain ⟨s1,s2⟩:=hL.gens s hs
      obtain ⟨a,b⟩:=hc k hk0 hk y hy hr s hs
      have hpt:pt (compI (rep C k y) s) k=pt s y:=by
        rw [pt_comp (show PN n (rep C k y) from r1) k hk,show pt (rep C k y) k=y from r3]
      rw [hpt] at a b
      refine ⟨a,?_⟩
      have hsy:=(s1.get hy).2
      obtain ⟨t1,t2,t3⟩:=hL.row (pt s y) hsy a
      have hfr:=fun i (hi:i<k)=>Gen.fix h1 h2 hG (i:=i) (by omega) (fun s hs=>(hL.gens s hs).2 i hi) r2
      have hft:=fun i (hi:i<k)=>Gen.fix h1 h2 hG (i:=i) (by omega) (fun s hs=>(hL.gens s hs).2 i hi) t2
      refine (good_has h1 h2 (C.drop (k+1)) (k+1) ih _ ((r1.comp s1).comp t1.inv) fun i hi=>?_).1 b
      rw [pt_comp (r1.comp s1) i (by omega),pt_comp r1 i (by omega)]
      by_cases e:i=k
      · subst e
        rw [r3]
        have:=pt_inv t1 hk
        rw [t3] at this
        exact this
      · rw [hfr i (by omega),s2 i (by omega)]
        have:=pt_inv t1 (show i<n by omega)
        rwa [hft i (by omega)] at this
    refine ⟨hk,hL,fun y hy hr s hs=>(key y hy hr s hs).1,fun y hy hr s hs=>(key y hy hr s hs).2,fun s hs=>?_,ih⟩
    by_cases c:k+1<n
    · rw [drop_lv (by rw [hw.len];exact c)] at hs
      exact hw.sub k c s hs
    · rw [List.drop_eq_nil_of_le (by rw [hw.len];omega)] at hs
      cases hs
def emK (n k:Nat):List Lv:=(List.range k).map fun j=>⟨[],(List.replicate n []).set j (idL n)⟩
theorem emK_len (n k:Nat):(emK n k).length=k:=by simp [emK]
theorem emK_lv {n k j:Nat} (h:j<k):lv (emK n k) j=⟨[],(List.replicate n []).set j (idL n)⟩:=by
  unfold lv emK
  rw [range_map_get _ _ _ _ h]
theorem em_wf {n:Nat} (h1:1≤n) (h2:n≤20):WF n (emK n n)∧CC n (emK n n) 0:=by
  refine ⟨⟨emK_len n n,fun k hk=>?_,fun k hk s hs=>?_⟩,fun j _ hj y _ _ s hs=>?_⟩
  · rw [emK_lv hk]
    refine ⟨fun s hs=>absurd hs List.not_mem_nil,by simp,?_,fun y hy hr=>?_⟩
    · simp only
      rw [getD_set_same _ _ _ _ (by simp;exact hk)]
    · simp only at hr ⊢
      by_cases c:y=k
      · subst c
        rw [getD_set_same _ _ _ _ (by simp;exact hk)]
        exact ⟨PN.one h1 h2,.one,pt_id hy⟩
      · rw [getD_set_ne _ _ _ _ _ (Ne.symm c)] at hr
        exact absurd (by rw [getD_eq _ _ _ (by simpa using hy)];simp) hr
  · rw [emK_lv hk] at hs;cases hs
  · rw [emK_lv hj] at hs;cases hs
def bld (n F:Nat) (mv:List (List Int)):Nat→List Lv
  | 0=>emK n n
  | k+1=>add F true (bld n F mv k) 0 (mv.getD k default)
theorem bld_ok {n F:Nat} {mv:List (List Int)} (h1:1≤n) (h2:n≤20) (hm:∀ s∈mv,PN n s) (hF:FG n 0≤F):∀ k,k≤mv.length→WF n (bld n F mv k)∧CC n (bld n F mv k) 0∧∀ j,j<k→psS (bld n F mv k) 0 (mv.getD j default)=true
  | 0,_=>⟨(em_wf h1 h2).1,(em_wf h1 h2).2,fun j hj=>absurd hj (Nat.not_lt_zero _)⟩
  | k+1,hk=>by
    obtain ⟨a,b,c⟩:=bld_ok h1 h2 hm hF k (by omega)
    have hg:=(add_ok h1 h2 F).1 (bld n F mv k) 0 (mv.getD k default) a (Nat.zero_le _) (hm _ (mem_getD mv k default (by omega))) (fun i hi=>absurd hi (Nat.not_lt_zero _)) (fun j hj=>by omega) b hF
    refine ⟨hg.wf,hg.cc,fun j hj=>?_⟩
    rcases Nat.lt_or_ge j k with q | q
    · exact ps_up hg.ext (Nat.zero_le _) (c j q)
    · rw [show j=k by omega];exact hg.ps
theorem bld_has {n F:Nat} {mv:List (List Int)} (h1:1≤n) (h2:n≤20) (hm:∀ s∈mv,PN n s) (hF:FG n 0≤F) {s:List Int} (hs:Gen n mv s):psS (bld n F mv mv.length) 0 s=true:=by
  obtain ⟨a,b,c⟩:=bld_ok h1 h2 hm hF mv.length (Nat.le_refl _)
  have hG:=good_of h1 h2 a b n 0 (Nat.le_refl _) (by omega)
  have hg:=good_has h1 h2 _ 0 hG
  have hpn:=good_pn hG
  refine (hg s (hs.pn h1 h2 hm) (fun i hi=>absurd hi (Nat.not_lt_zero _))).2 ?_
  refine Gen.sub h1 h2 (fun t ht=>(hpn t ht).1) (fun t ht=>?_) hs
  obtain ⟨j,hj,rfl⟩:=List.getElem_of_mem ht
  refine (hg _ (hm _ ht) (fun i hi=>absurd hi (Nat.not_lt_zero _))).1 ?_
  have:=c j hj
  rwa [getD_eq _ _ _ hj] at this
end Sc
end Go.AM
set_option maxRecDepth 8000
namespace Go.AM
namespace Sw
open Go.Proofs
open Ch (PN pt idL Gen Lv LvOk pt_comp)
open Sc (lv rep psS ps_step ps_end WF El Hd add add_ok FG FP mis)
def MM:FuncId→List Bool:=fun f=>if f=239 then [true,false,false] else if f=241 then [true,false,false] else if f=259 then [true,false,false] else []
abbrev rowA (L:Lv):AV:=.tr 1 (L.row.map nlv)
abbrev genA (L:Lv):AV:=.tr 1 (L.gens.map isl)
abbrev scA (n:Nat) (C:List Lv):AV:=.pt 3 (.agg [.i64 n,.tr 1 (C.map rowA),.tr 1 (C.map genA)])
def sif (C:List Lv):Nat→Nat→List Int→List Int×Nat
  | 0,k,p=>(p,k)
  | d+1,k,p=>if rep C k (pt p k)=[] then (p,k) else sif C d (k+1) (compI p (invI (rep C k (pt p k))))
theorem sif_ps {C:List Lv}:∀ d k p,k+d=C.length→(psS C k p=true↔(sif C d k p).2=C.length)∧(sif C d k p).2≤C.length
  | 0,k,p,h=>⟨⟨fun _=>h,fun _=>ps_end (by omega) p⟩,by show k≤_;omega⟩
  | d+1,k,p,h=>by
    rw [ps_step (by omega),sif]
    split
    · refine ⟨⟨fun q=>(by cases q),fun q=>?_⟩,by show k≤_;omega⟩
      have:k=C.length:=q
      omega
    · exact sif_ps d (k+1) _ (by omega)
theorem pn_ne {n:Nat} {p:List Int} (h:PN n p):p≠[]:=Sc.pn_ne h
theorem siftS (n:Nat) (h2:n≤20) (C:List Lv) (hw:WF n C) (k:Nat) (p:List Int) (hk:k≤n) (hp:PN n p) :
    SpecX Try.prog 239 [scA n C,.i64 k,isl p] [some (scA n C)] (.tup [isl (sif C (n - k) k p).1,.i64 ((sif C (n - k) k p).2:Nat)]):=by
  have hlen:=hw.len
  have ee:∀ X:List Int,AV.fzL (X.map AV.i64)=X.map AV.i64:=fun X=>by rw [fzL_map,ints_fz]
  refine spec_of_awp_any (M:=MM) (np:=3) (X:=[8]) (fz:=false) mixed Try.func239 rfl rfl (by decide) rfl (Nat.le_refl _) (by decide +kernel) (.inl rfl) (by simp only [sigsOk_some,sigsOk_nil,and_true]) ?_
  simp -dsimp -implicitDefEqProofs (disch:=first|omega|(simp only [lenr];try omega)) only [↓amPre,↓reduceIte,reduceCtorEq,Nat.reduceEqDiff,Nat.reduceBEq,Nat.reduceAdd,Nat.reduceLeDiff,Nat.reduceSub,Nat.reduceMul,Int.reduceToNat,MM,bu0,cbU49]
  refine awp_loop (fun j st=>j≤(n - k)∧st.fr 8=.i64 (k+j:Nat)∧st.fr 0=.loc 0 [] 0 0∧st.mem 0=some (scA n C)∧(∃ q,PN n q∧st.fr 2=isl q∧sif C (n - k) k p=sif C (n - (k+j)) (k+j) q)) ((n - k)) ?_ ?_
  · simp -dsimp -implicitDefEqProofs (disch:=first|omega|(simp only [lenr];try omega)) only [↓amPre,↓reduceIte,reduceCtorEq,Nat.reduceEqDiff,Nat.reduceBEq,Nat.reduceAdd,Nat.reduceLeDiff,Nat.reduceSub,Nat.reduceMul,Int.reduceToNat,MM,bu0,cbU49]
    exact ⟨Nat.zero_le _,p,hp,rfl,rfl⟩
  rintro j st _ ⟨hj,f8,f0,m0,ej⟩
  obtain ⟨q,hq,f2,hs⟩:=ej
  have hql:=hq.1
  by_cases hlt:k+j<n
  · have hlt':((k+j:Nat):Int)<(n:Int):=by omega
    have hL:=hw.lv (k+j) hlt
    have hpt:=hq.get hlt
    have hgr:(C.map rowA).getD (k+j) .any=.tr 1 ((lv C (k+j)).row.map nlv):=by rw [getD_eq _ _ _ (by rw [List.length_map];omega),List.getElem_map,lv,getD_eq C _ _ (by omega)]
    have hCl:(C.map rowA).length=n:=by rw [List.length_map];exact hlen
    have hge:((lv C (k+j)).row.map nlv).getD (pt q (k+j)) .any=nlv (rep C (k+j) (pt q (k+j))):=by
      have hy:=hpt.2
      rw [getD_eq _ (pt q (k+j)) AV.any (by rw [List.length_map,hL.len];exact hy),List.getElem_map,rep,getD_eq (lv C (k+j)).row (pt q (k+j)) [] (by rw [hL.len];exact hy)]
    have hrl:=hL.len
    have hsd:sif C (n - (k+j)) (k+j) q=if rep C (k+j) (pt q (k+j))=[] then (q,k+j) else sif C (n - (k+(j+1))) (k+(j+1)) (compI q (invI (rep C (k+j) (pt q (k+j))))):=by
      rw [show n - (k+j)=(n - (k+(j+1)))+1 by omega,sif];rfl
    have hrow:=hL.row (pt q (k+j)) hpt.2
    rw [show (lv C (k+j)).row.getD (pt q (k+j)) []=rep C (k+j) (pt q (k+j)) from rfl] at hrow
    have hptI:=hpt.1
    have hptL:=hpt.2
    generalize rep C (k+j) (pt q (k+j))=r at *
    generalize pt q (k+j)=y at *
    generalize (lv C (k+j)).row=R at *
    by_cases hr:r=[]
    · rw [if_pos hr] at hsd
      rw [hs,hsd]
      rw [hr,nlv_nil] at hge
      simp -dsimp -implicitDefEqProofs (disch:=first|omega|(simp only [lenr];try omega)) only [↓amPre,↓reduceIte,reduceCtorEq,Nat.reduceEqDiff,Nat.reduceBEq,Nat.reduceAdd,Nat.reduceLeDiff,Nat.reduceSub,Nat.reduceMul,Int.reduceToNat,MM,bu0,cbU49,f8,f0,m0,f2,lt_true hlt',hgr,hCl,hge,hptI]
    · rw [if_neg hr] at hsd
      rw [nlv_ne hr] at hge
      obtain ⟨t1,_,_⟩:=hrow hr
      have qi:=sinverse r t1.2
      rw [ivL_invI] at qi
      have qc:=scompose q (invI r) (by omega) (fun x hx=>by have:=hq.2.2.1 x hx;have:=t1.inv.1;omega)
      rw [cp_comp] at qc
      have hnx:=hq.comp t1.inv
      have hrn:¬ (r.length:Int)=0:=by have:=t1.1;omega
      simp -dsimp -implicitDefEqProofs (disch:=first|omega|(simp only [lenr];try omega)) only [↓amPre,↓reduceIte,reduceCtorEq,Nat.reduceEqDiff,Nat.reduceBEq,Nat.reduceAdd,Nat.reduceLeDiff,Nat.reduceSub,Nat.reduceMul,Int.reduceToNat,MM,bu0,cbU49,f8,f0,m0,f2,lt_true hlt',hgr,hCl,hge,hptI,hrn]
      refine callP_frz qi ?_
      simp -dsimp -implicitDefEqProofs (disch:=first|omega|(simp only [lenr];try omega)) only [↓amPre,↓reduceIte,reduceCtorEq,Nat.reduceEqDiff,Nat.reduceBEq,Nat.reduceAdd,Nat.reduceLeDiff,Nat.reduceSub,Nat.reduceMul,Int.reduceToNat,MM,bu0,cbU49,f8,f0,m0,f2,ee]
      refine callP_frz qc ?_
      simp -dsimp -implicitDefEqProofs (disch:=first|omega|(simp only [lenr];try omega)) only [↓amPre,↓reduceIte,reduceCtorEq,Nat.reduceEqDiff,Nat.reduceBEq,Nat.reduceAdd,Nat.reduceLeDiff,Nat.reduceSub,Nat.reduceMul,Int.reduceToNat,MM,bu0,cbU49,f8,f0,m0,f2,ee]
      exact ⟨by omega,by omega,i64c (by omega),_,hnx,rfl,hs.trans hsd⟩
  · have hje:k+j=n:=by omega
    have hlt':¬ ((k+j:Nat):Int)<(n:Int):=by omega
    have hsd:sif C (n - (k+j)) (k+j) q=(q,k+j):=by rw [show n - (k+j)=0 by omega,sif]
    rw [hs,hsd]
    simp -dsimp -implicitDefEqProofs (disch:=first|omega|(simp only [lenr];try omega)) only [↓amPre,↓reduceIte,reduceCtorEq,Nat.reduceEqDiff,Nat.reduceBEq,Nat.reduceAdd,Nat.reduceLeDiff,Nat.reduceSub,Nat.reduceMul,Int.reduceToNat,MM,bu0,cbU49,f8,f0,m0,f2,lt_false (Int.not_lt.1 hlt')]
    refine split_go 6 (by decide +kernel) ?_
    simp -dsimp -implicitDefEqProofs (disch:=first|omega|(simp only [lenr];try omega)) only [↓amPre,↓reduceIte,reduceCtorEq,Nat.reduceEqDiff,Nat.reduceBEq,Nat.reduceAdd,Nat.reduceLeDiff,Nat.reduceSub,Nat.reduceMul,Int.reduceToNat,MM,bu0,cbU49,f8,f0,m0,f2]
    rw [hje]
theorem scA_set {n:Nat} {C:List Lv} {k:Nat} (L:Lv):scA n (C.set k L)=.pt 3 (.agg [.i64 n,.tr 1 ((C.map rowA).set k (rowA L)),.tr 1 ((C.map genA).set k (genA L))]):=by
  rw [← List.map_set,← List.map_set]
theorem row_at {n:Nat} {C:List Lv} (hw:WF n C) {k:Nat} (hk:k<n):(C.map rowA).getD k .any=.tr 1 ((lv C k).row.map nlv)∧(C.map rowA).length=n∧(C.map genA).getD k .any=.tr 1 ((lv C k).gens.map isl)∧(C.map genA).length=n:=by
  have hlen:=hw.len
  refine ⟨?_,by rw [List.length_map];exact hlen,?_,by rw [List.length_map];exact hlen⟩
  · rw [getD_eq _ _ _ (by rw [List.length_map];omega),List.getElem_map,lv,getD_eq C _ _ (by omega)]
  · rw [getD_eq _ _ _ (by rw [List.length_map];omega),List.getElem_map,lv,getD_eq C _ _ (by omega)]
theorem ent_at {n:Nat} {C:List Lv} (hw:WF n C) {k:Nat} (hk:k<n) {y:Nat} (hy:y<n):((lv C k).row.map nlv).getD y .any=nlv (rep C k y):=by
  have hL:=hw.lv k hk
  rw [getD_eq _ y AV.any (by rw [List.length_map,hL.len];exact hy),List.getElem_map,rep,getD_eq (lv C k).row y [] (by rw [hL.len];exact hy)]
theorem nlv_set {p:List Int} (hp:p≠[]) (R:List (List Int)) (y:Nat):(R.map nlv).set y (isl p)=(R.set y p).map nlv:=by rw [List.map_set,nlv_ne hp]
end Sw
end Go.AM
namespace Go.AM
namespace Sc
open Ch (PN pt idL Gen Lv LvOk hasL headG good_has id_comp comp_assoc pt_comp pt_id pt_inv comp_inv inv_comp)
section
variable {n:Nat}
theorem gen_start (h1:1≤n) (h2:n≤20) {f:Nat} {C:List Lv} {k:Nat} {p:List Int} (hw:WF n C) (ck:¬ C.length≤k) (hp:PN n p) (hfx:∀ i,i<k→pt p i=i) (hgn:∀ j,k=j+1→Gen n (lv C j).gens p) (hcc:CC n C k) (hf:FG n k≤f+1) :
    WF n (C.set k ⟨(lv C k).gens++[p],(lv C k).row⟩)∧CC n (C.set k ⟨(lv C k).gens++[p],(lv C k).row⟩) (k+1)∧FP n k (mis (C.set k ⟨(lv C k).gens++[p],(lv C k).row⟩) k)≤f ∧
    (∀ q∈(((lv C k).row.filter fun r=>!(r == [])).map fun r=>compI r p),El n (C.set k ⟨(lv C k).gens++[p],(lv C k).row⟩) k q)∧∀ r∈(lv C k).row.filter fun r=>!(r == []),PN n r:=by
  have hlen:=hw.len
  have hk:k<n:=by omega
  have hkC:k<C.length:=by omega
  have hL:=hw.lv k hk
  -- the chain with the new generator
  obtain ⟨C1,hC1⟩:∃ C1,C1=C.set k ⟨(lv C k).gens++[p],(lv C k).row⟩:=⟨_,rfl⟩
  have l1:∀ j,lv C1 j=if j=k then ⟨(lv C k).gens++[p],(lv C k).row⟩ else lv C j:=fun j=>by rw [hC1];exact lv_set _ hkC j
  have l1k:lv C1 k=⟨(lv C k).gens++[p],(lv C k).row⟩:=by rw [l1,if_pos rfl]
  have len1:C1.length=C.length:=by rw [hC1,List.length_set]
  have r1:∀ j y,rep C1 j y=rep C j y:=fun j y=>by
    unfold rep
    rw [l1]
    by_cases c:j=k
    · subst c;rw [if_pos rfl]
    · rw [if_neg c]
  have hgm:∀ {g},Gen n (lv C k).gens g→Gen n ((lv C k).gens++[p]) g:=fun h=>h.mono fun s hs=>List.mem_append_left _ hs
  have hG1:∀ s∈(lv C k).gens++[p],PN n s∧∀ i,i<k→pt s i=i:=fun s hs=>by
    rcases List.mem_append.1 hs with q | q
    · exact hL.gens s q
    · rw [List.mem_singleton.1 q];exact ⟨hp,hfx⟩
  have ext1:Ext C C1:=⟨len1,fun j s hs=>by
    rw [l1]
    by_cases c:j=k
    · subst c;rw [if_pos rfl];exact List.mem_append_left _ hs
    · rw [if_neg c];exact hs,fun j y _=>r1 j y⟩
  have wf1:WF n C1:=by
    refine ⟨by omega,fun j hj=>?_,fun j hj s hs=>?_⟩
    · rw [l1]
      by_cases c:j=k
      · subst c
        rw [if_pos rfl]
        exact ⟨hG1,hL.len,hL.base,fun y hy hr=>by obtain ⟨a,b,c⟩:=hL.row y hy hr;exact ⟨a,hgm b,c⟩⟩
      · rw [if_neg c];exact hw.lv j hj
    · rw [l1] at hs
      rw [l1]
      by_cases c:j=k
      · subst c
        rw [if_pos rfl]
        rw [if_neg (by omega)] at hs
        exact hgm (hw.sub j hj s hs)
      · rw [if_neg c]
        by_cases c2:j+1=k
        · rw [if_pos c2] at hs
          rcases List.mem_append.1 hs with q | q
          · exact hw.sub j hj s (by rw [c2];exact q)
          · rw [List.mem_singleton.1 q];exact hgn j c2.symm
        · rw [if_neg c2] at hs;exact hw.sub j hj s hs
  have cc1:CC n C1 (k+1):=CC_same hlen len1 (fun j hj=>by rw [l1,if_neg (by omega)]) (fun j a b=>hcc j (by omega) b)
  have hm1:mis C1 k≤n:=mis_n wf1 hk
  have hf1:FP n k (mis C1 k)≤f:=by have:=FG_FP hk hm1;omega
  have hmemr:∀ r,r∈((lv C k).row.filter fun r=>!(r == []))↔∃ y,y<n∧rep C k y=r∧r≠[]:=fun r=>by
    rw [List.mem_filter]
    constructor
    · rintro ⟨a,b⟩
      obtain ⟨y,hy,e⟩:=List.getElem_of_mem a
      refine ⟨y,by rw [← hL.len];exact hy,?_,by simpa using b⟩
      unfold rep
      rw [getD_eq _ _ _ hy,e]
    · rintro ⟨y,hy,e,hne⟩
      refine ⟨?_,by simpa using hne⟩
      rw [← e]
      exact mem_getD _ y [] (by rw [hL.len];exact hy)
  have hel:∀ q∈(((lv C k).row.filter fun r=>!(r == [])).map fun r=>compI r p),El n C1 k q:=fun q hq=>by
    obtain ⟨r,hr,rfl⟩:=List.mem_map.1 hq
    obtain ⟨y,hy,e,hne⟩:=(hmemr r).1 hr
    obtain ⟨a,b,c⟩:=hL.row y hy (by show rep C k y≠[];rw [e];exact hne)
    rw [show (lv C k).row.getD y []=r from e] at a b c
    have hfr:=fun i (hi:i<k)=>Gen.fix h1 h2 (fun s hs=>(hL.gens s hs).1) (i:=i) (by omega) (fun s hs=>(hL.gens s hs).2 i hi) b
    refine ⟨a.comp hp,fun i hi=>?_,?_⟩
    · rw [pt_comp a i (by omega),hfr i hi,hfx i hi]
    · rw [l1k]
      exact .mul (hgm b) (List.mem_append_right _ (List.mem_singleton.2 rfl))
  rw [← hC1]
  refine ⟨wf1,cc1,hf1,hel,fun r hr=>?_⟩
  obtain ⟨y,hy,e,hne⟩:=(hmemr r).1 hr
  have:=(hL.row y hy (by show rep C k y≠[];rw [e];exact hne)).1
  rw [show (lv C k).row.getD y []=r from e] at this
  exact this
theorem prod_start (h1:1≤n) (h2:n≤20) {f:Nat} {C:List Lv} {k:Nat} {p:List Int} (hw:WF n C) (hk:k<n) (hel:El n C k p) (hcc:CC n C (k+1)) (hf:FP n k (mis C k)≤f+1) (cr:rep C k (pt p k)=[]) :
    WF n (C.set k ⟨(lv C k).gens,(lv C k).row.set (pt p k) p⟩)∧CC n (C.set k ⟨(lv C k).gens,(lv C k).row.set (pt p k) p⟩) (k+1)∧FP n k (mis (C.set k ⟨(lv C k).gens,(lv C k).row.set (pt p k) p⟩) k)≤f ∧
    (∀ q∈((lv C k).gens.map fun g=>compI p g),El n (C.set k ⟨(lv C k).gens,(lv C k).row.set (pt p k) p⟩) k q):=by
  have hlen:=hw.len
  have hkC:k<C.length:=by omega
  have hL:=hw.lv k hk
  have hpy:=(hel.pn.get hk).2
  have hpne:=pn_ne hel.pn
  obtain ⟨C1,hC1⟩:∃ C1,C1=C.set k ⟨(lv C k).gens,(lv C k).row.set (pt p k) p⟩:=⟨_,rfl⟩
  have l1:∀ j,lv C1 j=if j=k then ⟨(lv C k).gens,(lv C k).row.set (pt p k) p⟩ else lv C j:=fun j=>by rw [hC1];exact lv_set _ hkC j
  have l1k:lv C1 k=⟨(lv C k).gens,(lv C k).row.set (pt p k) p⟩:=by rw [l1,if_pos rfl]
  have len1:C1.length=C.length:=by rw [hC1,List.length_set]
  have rk:∀ y,rep C1 k y=if y=pt p k then p else rep C k y:=fun y=>by
    unfold rep
    rw [l1k]
    by_cases c:y=pt p k
    · rw [if_pos c,c,getD_set_same _ _ _ _ (by rw [hL.len];exact hpy)]
    · rw [if_neg c,getD_set_ne _ _ _ _ _ (Ne.symm c)]
  have ro:∀ j y,j≠k→rep C1 j y=rep C j y:=fun j y c=>by unfold rep;rw [l1,if_neg c]
  have ext1:Ext C C1:=⟨len1,fun j s hs=>by
    rw [l1]
    by_cases c:j=k
    · subst c;rw [if_pos rfl];exact hs
    · rw [if_neg c];exact hs,fun j y hy=>by
    by_cases c:j=k
    · subst c
      rw [rk,if_neg (fun e=>hy (by rw [e];exact cr))]
    · exact ro j y c⟩
  have wf1:WF n C1:=by
    refine ⟨by omega,fun j hj=>?_,fun j hj s hs=>?_⟩
    · rw [l1]
      by_cases c:j=k
      · subst c
        rw [if_pos rfl]
        refine ⟨hL.gens,by simp only [List.length_set];exact hL.len,?_,fun y hy hr=>?_⟩
        · have:j≠pt p j:=fun e=>by
            rw [← e] at cr
            exact pn_ne (PN.one h1 h2) (hL.base.symm.trans cr)
          simp only
          rw [getD_set_ne _ _ _ _ _ (Ne.symm this)]
          exact hL.base
        · have hry:=rk y
          unfold rep at hry
          rw [l1k] at hry
          simp only at hry hr ⊢
          rw [hry] at hr ⊢
          by_cases c:y=pt p j
          · rw [if_pos c];exact ⟨hel.pn,hel.gen,c.symm⟩
          · rw [if_neg c] at hr ⊢
            exact hL.row y hy hr
      · rw [if_neg c];exact hw.lv j hj
    · rw [l1] at hs
      rw [l1]
      have hg2:∀ i,(if i=k then (⟨(lv C k).gens,(lv C k).row.set (pt p k) p⟩:Lv) else lv C i).gens=(lv C i).gens:=fun i=>by
        by_cases c:i=k
        · subst c;rw [if_pos rfl]
        · rw [if_neg c]
      rw [hg2] at hs
      rw [hg2]
      exact hw.sub j hj s hs
  have cc1:CC n C1 (k+1):=CC_same hlen len1 (fun j hj=>by rw [l1,if_neg (by omega)]) hcc
  have hm1:mis C1 k+1=mis C k:=by
    unfold mis
    rw [l1k]
    exact mis_set p hpne _ _ (by rw [hL.len];exact hpy) cr
  have hel1:∀ q∈((lv C k).gens.map fun g=>compI p g),El n C1 k q:=fun q hq=>by
    obtain ⟨g,hg,rfl⟩:=List.mem_map.1 hq
    obtain ⟨a,b⟩:=hL.gens g hg
    refine ⟨hel.pn.comp a,fun i hi=>?_,?_⟩
    · rw [pt_comp hel.pn i (by omega),hel.fix i hi,b i hi]
    · rw [l1k];exact .mul hel.gen hg
  rw [← hC1]
  exact ⟨wf1,cc1,by unfold FP at *;omega,hel1⟩
end
end Sc
end Go.AM
namespace Go.AM
namespace Ch
/-! the order's size -/
theorem fil_ge {n l:Nat} (h1:1≤n) (h2:n≤20) {L:Lv} (hl:l<n) (h:LvOk n l L):∀ p∈filL L.row,l≤p:=fun p hp=>by
  obtain ⟨q1,q2⟩:=mem_filL.1 hp
  rw [h.len] at q1
  obtain ⟨t1,t2,t3⟩:=h.row p q1 q2
  rcases Nat.lt_or_ge p l with q | q
  · have:=Gen.fix h1 h2 (fun s hs=>(h.gens s hs).1) q1 (fun s hs=>(h.gens s hs).2 p q) t2
    have:=t1.inj q1 hl (by rw [this,t3])
    omega
  · exact q
theorem fil_cnt {n l:Nat} (h1:1≤n) (h2:n≤20) {L:Lv} (hl:l<n) (h:LvOk n l L):1≤(filL L.row).length∧(filL L.row).length≤n - l:=by
  constructor
  · have:l∈filL L.row:=mem_filL.2 ⟨by rw [h.len];exact hl,by
      rw [h.base];intro e
      have:=congrArg List.length e
      rw [runI_len] at this;simp at this;omega⟩
    exact List.length_pos_iff.2 fun e=>by rw [e] at this;cases this
  · have:=len_le_of_sub (filL L.row) ((List.range (n - l)).map (· + l)) (filL_nodup _) fun p hp=>by
      have a:=fil_ge h1 h2 hl h p hp
      have b:=(mem_filL.1 hp).1
      rw [h.len] at b
      exact List.mem_map.2 ⟨p - l,List.mem_range.2 (by omega),by omega⟩
    simpa using this
def facN:Nat→Nat
  | 0=>1
  | n+1=>(n+1)*facN n
theorem ord_fac {n:Nat} (h1:1≤n) (h2:n≤20):∀ (C:List Lv) (l:Nat),Good n C l→1≤ordL C∧ordL C≤facN (n - l)
  | [],l,h=>⟨Nat.le_refl _,by rw [ordL,show n - l=0 by have:l=n:=h;omega];exact Nat.le_refl _⟩
  | L :: C,l,h=>by
    obtain ⟨a,b⟩:=ord_fac h1 h2 C (l+1) h.2.2.2.2.2
    obtain ⟨c,d⟩:=fil_cnt h1 h2 h.1 h.2.1
    obtain ⟨m,hm⟩:∃ m,n - l=m+1:=⟨n - l - 1,by have:=h.1;omega⟩
    rw [ordL,hm,facN]
    rw [hm] at d
    rw [show n - (l+1)=m by omega] at b
    exact ⟨Nat.mul_le_mul c a,Nat.mul_le_mul d b⟩
end Ch
end Go.AM
namespace Go.AM
namespace Bf
open Ch (PN pt idL Gen newL ordL elsL newL_els)
/-! breadth-first search over the states of a puzzle,plainly -/
structure Ex where
  S:List (List Int)
  D:List Nat
  Pa:List Nat
  J:List Nat
section
variable {n:Nat} {mv:List (List Int)}
theorem sub_ord (h1:1≤n) (h2:n≤20) (hm:∀ s∈mv,PN n s) {T:List (List Int)} (hd:T.Nodup) (h:∀ s∈T,Gen n mv s):T.length≤ordL (newL n mv):=by
  obtain ⟨a,b,c⟩:=newL_els h1 h2 mv hm
  rw [← b]
  exact len_le_of_sub T _ hd fun x hx=>(c x).2 (h x hx)
def Grw (e f:Ex):Prop:=∃ a b c d,f.S=e.S++a∧f.D=e.D++b∧f.Pa=e.Pa++c∧f.J=e.J++d
theorem Grw.len {e f:Ex} (h:Grw e f):e.S.length≤f.S.length:=by
  obtain ⟨a,b,c,d,h1,_⟩:=h
  rw [h1,List.length_append];omega
end
end Bf
end Go.AM
namespace Go.AM
namespace Sc
open Ch (PN pt idL Gen Lv LvOk hasL headG good_has id_comp comp_assoc pt_comp pt_id pt_inv comp_inv inv_comp elsL ordL newL newL_els facN)
section
variable {n:Nat}
theorem ord_double (h1:1≤n) (h2:n≤20) {S:List (List Int)} (hS:∀ s∈S,PN n s) {p:List Int} (hp:PN n p) (hno:¬ Gen n S p):2*ordL (newL n S)≤ordL (newL n (S++[p])):=by
  obtain ⟨e1,e2,e3⟩:=newL_els h1 h2 S hS
  have hS2:∀ s∈S++[p],PN n s:=fun s hs=>by
    rcases List.mem_append.1 hs with q | q
    · exact hS s q
    · rw [List.mem_singleton.1 q];exact hp
  have hpn:∀ g∈elsL n (newL n S),PN n g:=fun g hg=>((e3 g).1 hg).pn h1 h2 hS
  have hcan:∀ a b,PN n a→PN n b→compI a p=compI b p→a=b:=fun a b ha hb e=>by
    have:compI (compI a p) (invI p)=compI (compI b p) (invI p):=by rw [e]
    rwa [comp_assoc ha hp hp.inv,comp_assoc hb hp hp.inv,comp_inv hp,Ch.comp_id ha,Ch.comp_id hb] at this
  have hnd:(elsL n (newL n S)++(elsL n (newL n S)).map fun g=>compI g p).Nodup:=by
    refine List.nodup_append.2 ⟨e1,List.pairwise_map.2 (e1.imp_of_mem fun ha hb hne e=>hne (hcan _ _ (hpn _ ha) (hpn _ hb) e)),fun a ha b hb e=>hno ?_⟩
    obtain ⟨g,hg,rfl⟩:=List.mem_map.1 hb
    have g1:=(e3 g).1 hg
    have a1:=(e3 a).1 ha
    have:p=compI (invI g) a:=by
      rw [e,← comp_assoc (hpn g hg).inv (hpn g hg) hp,inv_comp (hpn g hg),id_comp hp]
    rw [this]
    exact Gen.comp h1 h2 hS (Gen.inv h1 h2 hS g1) a1
  have hmem:∀ s∈elsL n (newL n S)++(elsL n (newL n S)).map fun g=>compI g p,Gen n (S++[p]) s:=fun s hs=>by
    rcases List.mem_append.1 hs with q | q
    · exact ((e3 s).1 q).mono fun t ht=>List.mem_append_left _ ht
    · obtain ⟨g,hg,rfl⟩:=List.mem_map.1 q
      exact .mul (((e3 g).1 hg).mono fun t ht=>List.mem_append_left _ ht) (List.mem_append_right _ (List.mem_singleton.2 rfl))
  have:=Bf.sub_ord h1 h2 hS2 hnd hmem
  rw [List.length_append,List.length_map,e2] at this
  omega
def Ln (n:Nat) (C:List Lv):Prop:=∀ k,k<n→2 ^ (lv C k).gens.length≤ordL (newL n (lv C k).gens)
theorem Ln.le (h1:1≤n) (h2:n≤20) {C:List Lv} (hw:WF n C) (h:Ln n C) {k:Nat} (hk:k<n):(lv C k).gens.length≤61:=by
  have hG:∀ s∈(lv C k).gens,PN n s:=fun s hs=>((hw.lv k hk).gens s hs).1
  have h3:=h k hk
  have h4:=(Ch.ord_fac h1 h2 _ 0 (Ch.newL_ok h1 h2 _ hG).1).2
  have hf:∀ m,m≤20→facN m≤2432902008176640000:=by decide
  have h5:=hf n h2
  rw [Nat.sub_zero] at h4
  by_cases c:(lv C k).gens.length≤61
  · exact c
  · have:2 ^ 62≤2 ^ (lv C k).gens.length:=Nat.pow_le_pow_right (by decide) (by omega)
    have e:(2:Nat) ^ 62=4611686018427387904:=by decide
    omega
theorem Ln.set {C:List Lv} {k:Nat} {L:Lv} (hk:k<C.length) (h:Ln n C) (hL:k<n→2 ^ L.gens.length≤ordL (newL n L.gens)):Ln n (C.set k L):=by
  intro j hj
  rw [lv_set L hk]
  by_cases c:j=k
  · rw [if_pos c];exact hL (by omega)
  · rw [if_neg c];exact h j hj
theorem fold_ln (h1:1≤n) (h2:n≤20) (f:Nat) (ihL:∀ C k p,WF n C→k<n→El n C k p→CC n C (k+1)→FP n k (mis C k)≤f→Ln n C→Ln n (add f false C k p)) {k:Nat} (hk:k<n) :
    ∀ (qs:List (List Int)) (C:List Lv),WF n C→CC n C (k+1)→FP n k (mis C k)≤f→(∀ q∈qs,El n C k q)→Ln n C→Ln n (qs.foldl (fun C q=>add f false C k q) C)
  | [],_,_,_,_,_,h=>h
  | q :: qs,C,hw,hc,hf,hq,h=>by
    obtain ⟨a,b⟩:=(add_ok h1 h2 f).2 C k q hw hk (hq q (List.mem_cons_self ..)) hc hf
    have hm:=mis_mono hw a.wf a.ext hk
    rw [List.foldl_cons]
    exact fold_ln h1 h2 f ihL hk qs (add f false C k q) a.wf a.cc (by unfold FP at *;omega) (fun r hr=>by
      have:=hq r (List.mem_cons_of_mem _ hr)
      exact ⟨this.pn,this.fix,by rw [a.gens];exact this.gen⟩) (ihL C k q hw hk (hq q (List.mem_cons_self ..)) hc hf h)
theorem add_ln (h1:1≤n) (h2:n≤20):∀ f,(∀ C k p,WF n C→k≤n→PN n p→(∀ i,i<k→pt p i=i)→(∀ j,k=j+1→Gen n (lv C j).gens p)→CC n C k→FG n k≤f→Ln n C→Ln n (add f true C k p)) ∧
    (∀ C k p,WF n C→k<n→El n C k p→CC n C (k+1)→FP n k (mis C k)≤f→Ln n C→Ln n (add f false C k p))
  | 0=>⟨fun C k p _ _ _ _ _ _ hf=>absurd hf (by unfold FG;omega),fun C k p _ _ _ _ hf=>absurd hf (by unfold FP;omega)⟩
  | f+1=>by
    obtain ⟨ihG,ihP⟩:=add_ln h1 h2 f
    refine ⟨fun C k p hw hkn hp hfx hgn hcc hf hl=>?_,fun C k p hw hk hel hcc hf hl=>?_⟩
    · rw [add]
      have hlen:=hw.len
      by_cases ck:C.length≤k
      · rw [if_pos ck];exact hl
      rw [if_neg ck]
      by_cases cp:psS C k p=true
      · rw [if_pos cp];exact hl
      rw [if_neg cp]
      have hk:k<n:=by omega
      obtain ⟨a,b,c,d,_⟩:=gen_start h1 h2 hw ck hp hfx hgn hcc hf
      have hgd:=good_of h1 h2 hw hcc (n - k) k (Nat.le_refl _) (by omega)
      have hno:¬ Gen n (lv C k).gens p:=fun q=>by
        have:=(good_has h1 h2 _ k hgd p hp hfx).2 (by rw [drop_lv (by omega)];exact q)
        exact cp this
      have hG:∀ s∈(lv C k).gens,PN n s:=fun s hs=>((hw.lv k hk).gens s hs).1
      have hdb:=ord_double h1 h2 hG hp hno
      have:=fold_ln h1 h2 f ihP hk _ _ a b c d (hl.set (by omega) fun _=>by
        simp only [List.length_append,List.length_singleton]
        rw [Nat.pow_succ]
        have:=hl k hk
        omega)
      rw [List.foldl_map] at this
      exact this
    · rw [add]
      by_cases cr:rep C k (pt p k)=[]
      · rw [if_pos cr]
        obtain ⟨a,b,c,d⟩:=prod_start h1 h2 hw hk hel hcc hf cr
        have:=fold_ln h1 h2 f ihP hk _ _ a b c d (hl.set (by rw [hw.len];exact hk) fun _=>hl k hk)
        rw [List.foldl_map] at this
        exact this
      · rw [if_neg cr]
        have hL:=hw.lv k hk
        obtain ⟨t1,t2,t3⟩:=hL.row (pt p k) (hel.pn.get hk).2 cr
        rw [show (lv C k).row.getD (pt p k) []=rep C k (pt p k) from rfl] at t1 t2 t3
        have hGp:∀ s∈(lv C k).gens,PN n s:=fun s hs=>(hL.gens s hs).1
        have hfr:=fun i (hi:i<k)=>Gen.fix h1 h2 hGp (i:=i) (by omega) (fun s hs=>(hL.gens s hs).2 i hi) t2
        exact ihG C (k+1) (compI p (invI (rep C k (pt p k)))) hw (by omega) (hel.pn.comp t1.inv) (fun i hi=>by
          rw [pt_comp hel.pn i (by omega)]
          by_cases e:i=k
          · subst e
            have:=pt_inv t1 hk
            rw [t3] at this
            exact this
          · rw [hel.fix i (by omega)]
            have:=pt_inv t1 (show i<n by omega)
            rwa [hfr i (by omega)] at this) (fun j hj=>by
          have:j=k:=by omega
          subst this
          exact Gen.comp h1 h2 hGp hel.gen (Gen.inv h1 h2 hGp t2)) hcc (by unfold FP at hf;omega) hl
theorem em_ln (h1:1≤n) (h2:n≤20):Ln n (emK n n):=by
  intro k hk
  rw [emK_lv hk]
  have hG:∀ s∈([]:List (List Int)),PN n s:=fun s hs=>absurd hs List.not_mem_nil
  exact (Ch.ord_fac h1 h2 _ 0 (Ch.newL_ok h1 h2 _ hG).1).1
theorem bld_ln {F:Nat} {mv:List (List Int)} (h1:1≤n) (h2:n≤20) (hm:∀ s∈mv,PN n s) (hF:FG n 0≤F):∀ k,k≤mv.length→Ln n (bld n F mv k)
  | 0,_=>em_ln h1 h2
  | k+1,hk=>by
    obtain ⟨a,b,c⟩:=bld_ok h1 h2 hm hF k (by omega)
    exact (add_ln h1 h2 F).1 (bld n F mv k) 0 (mv.getD k default) a (Nat.zero_le _) (hm _ (mem_getD mv k default (by omega))) (fun i hi=>absurd hi (Nat.not_lt_zero _)) (fun j hj=>by omega) b hF (bld_ln h1 h2 hm hF k (by omega))
end
end Sc
end Go.AM
