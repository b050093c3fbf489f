/-
  CONTRACTS of functions of the program,and what they compute,by content.
-/
import Derived.Test.YtenlmhbkigfjeaaCB0
import Derived.Test.YtenlmhbkigfjeaaM2SD
import Derived.Sort.Grow
import Derived.Deep.Draws
import Derived.Lib.LaidTab
import Derived.Sort.Row
import Derived.Test.YtenlmhbkigfjeaaM2Facts
import Derived.Shelf.SortM.Plain
import Derived.Shelf.SortM.SortNone
set_option linter.unusedVariables false
set_option linter.unusedSimpArgs false
set_option maxRecDepth 8000
namespace Go.AM
open Go.Proofs
def fidxG {α:Type} (pr:α→Bool) (l:List α):Int:=match l.findIdx? pr with | some i=>i | none=>-1
theorem fidxG_nonneg {α:Type} (pr:α→Bool) (l:List α):0≤fidxG pr l↔l.any pr=true:=by
  unfold fidxG
  split
  · rename_i i e
    rw [List.findIdx?_eq_some_iff_getElem] at e
    obtain ⟨hi,h1,_⟩:=e
    simp only [List.any_eq_true]
    exact ⟨fun _=>⟨_,List.getElem_mem hi,h1⟩,fun _=>by omega⟩
  · rename_i e
    rw [List.findIdx?_eq_none_iff] at e
    simp only [List.any_eq_true]
    exact ⟨fun q=>by omega,fun ⟨x,hx,hp⟩=>by rw [e x hx] at hp;cases hp⟩
theorem fidxG_at {α:Type} (pr:α→Bool) (l:List α) (d:α) (k:Nat) (hk:k<l.length) (h1:∀ x∈l.take k,pr x=false) (h2:pr (l.getD k d)=true):fidxG pr l=k:=by
  have:l.findIdx? pr=some k:=by
    rw [List.findIdx?_eq_some_iff_getElem]
    refine ⟨hk,by rw [← getD_eq l k d hk];exact h2,fun j hj=>?_⟩
    have:=h1 (l[j]) (by rw [List.mem_take_iff_getElem];exact ⟨j,by omega,rfl⟩)
    simpa using this
  rw [fidxG,this]
theorem fidxG_none {α:Type} (pr:α→Bool) (l:List α) (h:∀ x∈l,pr x=false):fidxG pr l = -1:=by
  have:l.findIdx? pr=none:=by rw [List.findIdx?_eq_none_iff];exact h
  rw [fidxG,this]
theorem indexFuncT (l:List (List Twist)) (g:FuncId) (caps:List AV) (pr:List Twist→Bool) (hM:MM g=[]) (hb:AV.bearsL caps=false) (hv:∀ mem,AV.views mem caps=caps) (h:∀ x∈l,SpecAt Try.prog g ([tsl x]++caps) (.bl (pr x))) (hl:l.length≤1099511627776) :
    SpecAt Try.prog 225 [tssl l,.fn g caps] (.i64 (fidxG pr l)):=by
  unfold MM at hM
  refine spec_of_awp (M:=MM) (np:=2) (fz:=true) mixed Try.func225 rfl rfl (by decide) rfl (Nat.le_refl _) (by decide +kernel) (.inr ⟨rfl,rfl⟩) trivial ?_
  simp -dsimp -implicitDefEqProofs (disch:=first | omega | (simp only [lenr];try omega)) only [↓amPre,amAll,↓reduceIte,reduceCtorEq,Nat.reduceEqDiff,Nat.reduceBEq,Nat.reduceAdd,Nat.reduceLeDiff,Nat.reduceSub,Nat.reduceMul,Int.reduceToNat,List.size_toArray,tyF,MM,bu0,cbP3]
  refine awp_loop (fun k st=>k≤l.length∧st.fr 8=.i64 k∧st.fr 7=.i64 l.length∧st.fr 0=tssl l∧st.fr 1=.fn g caps∧∀ x∈l.take k,pr x=false) (l.length) ?_ ?_
  · simp -dsimp -implicitDefEqProofs (disch:=first | omega | (simp only [lenr];try omega)) only [↓amPre,amAll,↓reduceIte,reduceCtorEq,Nat.reduceEqDiff,Nat.reduceBEq,Nat.reduceAdd,Nat.reduceLeDiff,Nat.reduceSub,Nat.reduceMul,Int.reduceToNat,List.size_toArray,tyF,MM,bu0,cbP3]
    simp
  rintro k st _ ⟨hk,f8,f7,f0,f1,ek⟩
  by_cases hlt:k<l.length
  · have hmem:=mem_getD l k default hlt
    simp -dsimp -implicitDefEqProofs (disch:=first | omega | (simp only [lenr];try omega)) only [↓amPre,amAll,↓reduceIte,reduceCtorEq,Nat.reduceEqDiff,Nat.reduceBEq,Nat.reduceAdd,Nat.reduceLeDiff,Nat.reduceSub,Nat.reduceMul,Int.reduceToNat,List.size_toArray,tyF,MM,bu0,cbP3,f8,f7,f0,f1,hM,hb,hv]
    refine callP_of (h _ hmem) ?_
    cases w:pr (l.getD k default) with
    | true =>
      simp -dsimp -implicitDefEqProofs (disch:=first | omega | (simp only [lenr];try omega)) only [↓amPre,amAll,↓reduceIte,reduceCtorEq,Nat.reduceEqDiff,Nat.reduceBEq,Nat.reduceAdd,Nat.reduceLeDiff,Nat.reduceSub,Nat.reduceMul,Int.reduceToNat,List.size_toArray,tyF,MM,bu0,cbP3,f8,f7,f0,f1,w]
      rw [fidxG_at pr l default k hlt ek w]
    | false =>
      simp -dsimp -implicitDefEqProofs (disch:=first | omega | (simp only [lenr];try omega)) only [↓amPre,amAll,↓reduceIte,reduceCtorEq,Nat.reduceEqDiff,Nat.reduceBEq,Nat.reduceAdd,Nat.reduceLeDiff,Nat.reduceSub,Nat.reduceMul,Int.reduceToNat,List.size_toArray,tyF,MM,bu0,cbP3,f8,f7,f0,f1,w]
      repeat' (first | omega | rfl | exact i64c (by omega) | exact vic (by omega) | exact (mem_take_succ (d:=default) hlt).2 ⟨ek,w⟩ | apply And.intro)
  · have hke:k=l.length:=by omega
    subst hke
    rw [List.take_length] at ek
    simp -dsimp -implicitDefEqProofs (disch:=first | omega | (simp only [lenr];try omega)) only [↓amPre,amAll,↓reduceIte,reduceCtorEq,Nat.reduceEqDiff,Nat.reduceBEq,Nat.reduceAdd,Nat.reduceLeDiff,Nat.reduceSub,Nat.reduceMul,Int.reduceToNat,List.size_toArray,tyF,MM,bu0,cbP3,f8,f7,f0,f1]
    rw [fidxG_none pr l ek]
theorem containsFuncT (l:List (List Twist)) (g:FuncId) (caps:List AV) (pr:List Twist→Bool) (hM:MM g=[]) (hb:AV.bearsL caps=false) (hv:∀ mem,AV.views mem caps=caps) (h:∀ x∈l,SpecAt Try.prog g ([tsl x]++caps) (.bl (pr x))) (hl:l.length≤1099511627776) :
    SpecAt Try.prog 173 [tssl l,.fn g caps] (.bl (l.any pr)):=by
  refine spec_of_awp (M:=MM) (np:=2) (fz:=true) mixed Try.func173 rfl rfl (by decide) rfl (Nat.le_refl _) (by decide +kernel) (.inr ⟨rfl,rfl⟩) trivial ?_
  simp -dsimp -implicitDefEqProofs (disch:=first | omega | (simp only [lenr];try omega)) only [↓amPre,amAll,↓reduceIte,reduceCtorEq,Nat.reduceEqDiff,Nat.reduceBEq,Nat.reduceAdd,Nat.reduceLeDiff,Nat.reduceSub,Nat.reduceMul,Int.reduceToNat,List.size_toArray,tyF,MM,bu0,cbP3,hb,hv]
  refine callP_of (indexFuncT l g caps pr hM hb hv h hl) ?_
  simp -dsimp -implicitDefEqProofs (disch:=first | omega | (simp only [lenr];try omega)) only [↓amPre,amAll,↓reduceIte,reduceCtorEq,Nat.reduceEqDiff,Nat.reduceBEq,Nat.reduceAdd,Nat.reduceLeDiff,Nat.reduceSub,Nat.reduceMul,Int.reduceToNat,List.size_toArray,tyF,MM,bu0,cbP3]
  refine bl_eq ?_
  simp only [decide_eq_true_eq,fidxG_nonneg]
theorem iIsValidPM1 (s:List Twist) (m:Model) (h1:m.ks.length≤1099511627776) (hs:smallT s):SpecAt Try.prog 174 [tsl s,.ep [ksl m.ks,.st m.nm,tssl m.mv]] (.bl (!decide (psOk m.ks s))):=by
  refine spec_of_awp (M:=MM) (np:=2) (fz:=true) mixed Try.func174 rfl rfl (by decide) rfl (Nat.le_refl _) (by decide +kernel) (.inr ⟨rfl,rfl⟩) trivial ?_
  simp -dsimp -implicitDefEqProofs (disch:=first | omega | (simp only [lenr];try omega)) only [↓amPre,amAll,↓reduceIte,reduceCtorEq,Nat.reduceEqDiff,Nat.reduceBEq,Nat.reduceAdd,Nat.reduceLeDiff,Nat.reduceSub,Nat.reduceMul,Int.reduceToNat,List.size_toArray,tyF,MM,bu0,cbP3]
  refine callP_of (iIsPieceState m.ks s h1 hs.1 hs.2) ?_
  simp -dsimp -implicitDefEqProofs (disch:=first | omega | (simp only [lenr];try omega)) only [↓amPre,amAll,↓reduceIte,reduceCtorEq,Nat.reduceEqDiff,Nat.reduceBEq,Nat.reduceAdd,Nat.reduceLeDiff,Nat.reduceSub,Nat.reduceMul,Int.reduceToNat,List.size_toArray,tyF,MM,bu0,cbP3]
theorem iIsValidPieceModel (m:Model) (h:smallM m):SpecAt Try.prog 80 [m.sl] (.bl (decide (modelOk m))):=by
  have h2:=h.2.1
  have h3:=h.2.2.1
  refine spec_of_awp (M:=MM) (np:=1) (fz:=true) mixed Try.func80 rfl rfl (by decide) rfl (Nat.le_refl _) (by decide +kernel) (.inr ⟨rfl,rfl⟩) trivial ?_
  have fin:∀ b:Bool,(b=true↔modelOk m)→Value.bool b=Value.bool (decide (modelOk m)):=fun b h=>bl_eq (by rw [h,decide_eq_true_iff])
  simp -dsimp -implicitDefEqProofs (disch:=first | omega | (simp only [lenr];try omega)) only [↓amPre,amAll,↓reduceIte,reduceCtorEq,Nat.reduceEqDiff,Nat.reduceBEq,Nat.reduceAdd,Nat.reduceLeDiff,Nat.reduceSub,Nat.reduceMul,Int.reduceToNat,List.size_toArray,tyF,MM,bu0,cbP3]
  refine callP_of (iAreValidKinds m.ks h.1) ?_
  by_cases c1:kindsOk m.ks
  case neg =>
    simp -dsimp -implicitDefEqProofs (disch:=first | omega | (simp only [lenr];try omega)) only [↓amPre,amAll,↓reduceIte,reduceCtorEq,Nat.reduceEqDiff,Nat.reduceBEq,Nat.reduceAdd,Nat.reduceLeDiff,Nat.reduceSub,Nat.reduceMul,Int.reduceToNat,List.size_toArray,tyF,MM,bu0,cbP3,c1]
    refine fin _ ?_
    simp only [modelOk,c1,false_and,reduceCtorEq]
  simp -dsimp -implicitDefEqProofs (disch:=first | omega | (simp only [lenr];try omega)) only [↓amPre,amAll,↓reduceIte,reduceCtorEq,Nat.reduceEqDiff,Nat.reduceBEq,Nat.reduceAdd,Nat.reduceLeDiff,Nat.reduceSub,Nat.reduceMul,Int.reduceToNat,List.size_toArray,tyF,MM,bu0,cbP3,c1]
  refine callP_of (iisNames m.nm h.2.1) ?_
  by_cases c2:namesOk m.nm
  case neg =>
    simp -dsimp -implicitDefEqProofs (disch:=first | omega | (simp only [lenr];try omega)) only [↓amPre,amAll,↓reduceIte,reduceCtorEq,Nat.reduceEqDiff,Nat.reduceBEq,Nat.reduceAdd,Nat.reduceLeDiff,Nat.reduceSub,Nat.reduceMul,Int.reduceToNat,List.size_toArray,tyF,MM,bu0,cbP3,c1,c2]
    refine fin _ ?_
    simp only [modelOk,c2,false_and,and_false,reduceCtorEq]
  by_cases c3:(m.nm.length:Int)=m.mv.length
  case neg =>
    simp -dsimp -implicitDefEqProofs (disch:=first | omega | (simp only [lenr];try omega)) only [↓amPre,amAll,↓reduceIte,reduceCtorEq,Nat.reduceEqDiff,Nat.reduceBEq,Nat.reduceAdd,Nat.reduceLeDiff,Nat.reduceSub,Nat.reduceMul,Int.reduceToNat,List.size_toArray,tyF,MM,bu0,cbP3,c1,c2,eq_false c3]
    refine fin _ ?_
    simp only [reduceCtorEq,false_iff]
    intro q;have:=q.2.2.1;omega
  simp -dsimp -implicitDefEqProofs (disch:=first | omega | (simp only [lenr];try omega)) only [↓amPre,amAll,↓reduceIte,reduceCtorEq,Nat.reduceEqDiff,Nat.reduceBEq,Nat.reduceAdd,Nat.reduceLeDiff,Nat.reduceSub,Nat.reduceMul,Int.reduceToNat,List.size_toArray,tyF,MM,bu0,cbP3,c1,c2,eq_true c3]
  refine callP_of (containsFuncT m.mv _ _ (fun s=>!decide (psOk m.ks s)) rfl rfl (fun _=>rfl) (fun s hs=>iIsValidPM1 s m h.1 (h.2.2.2 s hs)) h3) ?_
  simp -dsimp -implicitDefEqProofs (disch:=first | omega | (simp only [lenr];try omega)) only [↓amPre,amAll,↓reduceIte,reduceCtorEq,Nat.reduceEqDiff,Nat.reduceBEq,Nat.reduceAdd,Nat.reduceLeDiff,Nat.reduceSub,Nat.reduceMul,Int.reduceToNat,List.size_toArray,tyF,MM,bu0,cbP3,c1,c2,eq_true c3]
  refine fin _ ?_
  have c3':m.nm.length=m.mv.length:=by omega
  simp only [Bool.not_eq_true',List.any_eq_false,Bool.not_eq_true,Bool.not_eq_false',decide_eq_false_iff_not,Decidable.not_not,modelOk,c1,c2,c3',true_and]
theorem sIsValidPieceModel (m:Model) (h:smallM m):SpecAt Try.prog 16 [m.sl] (.bl (decide (modelOk m))):=by
  have h2:=h.2.1
  have h3:=h.2.2.1
  refine spec_of_awp (M:=MM) (np:=1) (fz:=true) mixed Try.func16 rfl rfl (by decide) rfl (Nat.le_refl _) (by decide +kernel) (.inr ⟨rfl,rfl⟩) trivial ?_
  have fin:∀ b:Bool,(b=true↔modelOk m)→Value.bool b=Value.bool (decide (modelOk m)):=fun b h=>bl_eq (by rw [h,decide_eq_true_iff])
  simp -dsimp -implicitDefEqProofs (disch:=first | omega | (simp only [lenr];try omega)) only [↓amPre,amAll,↓reduceIte,reduceCtorEq,Nat.reduceEqDiff,Nat.reduceBEq,Nat.reduceAdd,Nat.reduceLeDiff,Nat.reduceSub,Nat.reduceMul,Int.reduceToNat,List.size_toArray,tyF,MM,bu0,cbP3]
  refine callP_of (sAreValidKinds m.ks h.1) ?_
  by_cases c1:kindsOk m.ks
  case neg =>
    simp -dsimp -implicitDefEqProofs (disch:=first | omega | (simp only [lenr];try omega)) only [↓amPre,amAll,↓reduceIte,reduceCtorEq,Nat.reduceEqDiff,Nat.reduceBEq,Nat.reduceAdd,Nat.reduceLeDiff,Nat.reduceSub,Nat.reduceMul,Int.reduceToNat,List.size_toArray,tyF,MM,bu0,cbP3,c1]
    refine fin _ ?_
    simp only [modelOk,c1,false_and,reduceCtorEq]
  simp -dsimp -implicitDefEqProofs (disch:=first | omega | (simp only [lenr];try omega)) only [↓amPre,amAll,↓reduceIte,reduceCtorEq,Nat.reduceEqDiff,Nat.reduceBEq,Nat.reduceAdd,Nat.reduceLeDiff,Nat.reduceSub,Nat.reduceMul,Int.reduceToNat,List.size_toArray,tyF,MM,bu0,cbP3,c1]
  refine callP_of (inRange _ _ _) ?_
  by_cases c2:1≤(m.mv.length:Int)∧(m.mv.length:Int)≤8
  case neg =>
    simp -dsimp -implicitDefEqProofs (disch:=first | omega | (simp only [lenr];try omega)) only [↓amPre,amAll,↓reduceIte,reduceCtorEq,Nat.reduceEqDiff,Nat.reduceBEq,Nat.reduceAdd,Nat.reduceLeDiff,Nat.reduceSub,Nat.reduceMul,Int.reduceToNat,List.size_toArray,tyF,MM,bu0,cbP3,within_not.2 c2]
    refine fin _ ?_
    simp only [reduceCtorEq,false_iff]
    intro q;have:=q.2.1.2;have:=q.2.2.1;omega
  simp -dsimp -implicitDefEqProofs (disch:=first | omega | (simp only [lenr];try omega)) only [↓amPre,amAll,↓reduceIte,reduceCtorEq,Nat.reduceEqDiff,Nat.reduceBEq,Nat.reduceAdd,Nat.reduceLeDiff,Nat.reduceSub,Nat.reduceMul,Int.reduceToNat,List.size_toArray,tyF,MM,bu0,cbP3,within_iff.2 c2]
  refine callP_of (svalidNames m.nm m.mv.length h.2.1) ?_
  by_cases c3:m.nm.length=m.mv.length∧lettersOk m.nm
  case neg =>
    simp -dsimp -implicitDefEqProofs (disch:=first | omega | (simp only [lenr];try omega)) only [↓amPre,amAll,↓reduceIte,reduceCtorEq,Nat.reduceEqDiff,Nat.reduceBEq,Nat.reduceAdd,Nat.reduceLeDiff,Nat.reduceSub,Nat.reduceMul,Int.reduceToNat,List.size_toArray,tyF,MM,bu0,cbP3,decide_eq_false c3]
    refine fin _ ?_
    simp only [reduceCtorEq,false_iff]
    intro q;exact c3 ⟨q.2.2.1,q.2.1.1⟩
  simp -dsimp -implicitDefEqProofs (disch:=first | omega | (simp only [lenr];try omega)) only [↓amPre,amAll,↓reduceIte,reduceCtorEq,Nat.reduceEqDiff,Nat.reduceBEq,Nat.reduceAdd,Nat.reduceLeDiff,Nat.reduceSub,Nat.reduceMul,Int.reduceToNat,List.size_toArray,tyF,MM,bu0,cbP3,decide_eq_true c3]
  have hnk:namesOk m.nm:=⟨c3.2,by omega,by omega⟩
  refine awp_loop (fun k st=>k≤m.mv.length∧st.fr 3=.i64 k∧st.fr 1=.loc 1 [] 0 0∧st.mem 1=some (.pt 3 (.agg [ksl m.ks,.st m.nm,tssl m.mv]))∧∀ s∈m.mv.take k,psOk m.ks s) (m.mv.length) ?_ ?_
  · simp -dsimp -implicitDefEqProofs (disch:=first | omega | (simp only [lenr];try omega)) only [↓amPre,amAll,↓reduceIte,reduceCtorEq,Nat.reduceEqDiff,Nat.reduceBEq,Nat.reduceAdd,Nat.reduceLeDiff,Nat.reduceSub,Nat.reduceMul,Int.reduceToNat,List.size_toArray,tyF,MM,bu0,cbP3]
    simp
  rintro k st _ ⟨hk,f3,f1,m1,ek⟩
  by_cases hlt:k<m.mv.length
  · have hsm:=h.2.2.2 _ (mem_getD m.mv k default hlt)
    simp -dsimp -implicitDefEqProofs (disch:=first | omega | (simp only [lenr];try omega)) only [↓amPre,amAll,↓reduceIte,reduceCtorEq,Nat.reduceEqDiff,Nat.reduceBEq,Nat.reduceAdd,Nat.reduceLeDiff,Nat.reduceSub,Nat.reduceMul,Int.reduceToNat,List.size_toArray,tyF,MM,bu0,cbP3,f3,f1,m1]
    refine callP_of (sIsPieceState m.ks (m.mv.getD k default) h.1 hsm.1 hsm.2) ?_
    by_cases w:psOk m.ks (m.mv.getD k default)
    · simp -dsimp -implicitDefEqProofs (disch:=first | omega | (simp only [lenr];try omega)) only [↓amPre,amAll,↓reduceIte,reduceCtorEq,Nat.reduceEqDiff,Nat.reduceBEq,Nat.reduceAdd,Nat.reduceLeDiff,Nat.reduceSub,Nat.reduceMul,Int.reduceToNat,List.size_toArray,tyF,MM,bu0,cbP3,f3,f1,m1,w]
      repeat' (first | omega | rfl | exact i64c (by omega) | exact vic (by omega) | exact (mem_take_succ (d:=default) hlt).2 ⟨ek,w⟩ | apply And.intro)
    · simp -dsimp -implicitDefEqProofs (disch:=first | omega | (simp only [lenr];try omega)) only [↓amPre,amAll,↓reduceIte,reduceCtorEq,Nat.reduceEqDiff,Nat.reduceBEq,Nat.reduceAdd,Nat.reduceLeDiff,Nat.reduceSub,Nat.reduceMul,Int.reduceToNat,List.size_toArray,tyF,MM,bu0,cbP3,w]
      refine fin _ ?_
      simp only [reduceCtorEq,false_iff]
      intro q;exact w (q.2.2.2 _ (mem_getD m.mv k default hlt))
  · have hke:k=m.mv.length:=by omega
    subst hke
    rw [List.take_length] at ek
    simp -dsimp -implicitDefEqProofs (disch:=first | omega | (simp only [lenr];try omega)) only [↓amPre,amAll,↓reduceIte,reduceCtorEq,Nat.reduceEqDiff,Nat.reduceBEq,Nat.reduceAdd,Nat.reduceLeDiff,Nat.reduceSub,Nat.reduceMul,Int.reduceToNat,List.size_toArray,tyF,MM,bu0,cbP3,f3,f1,m1]
    refine fin _ ?_
    simp only [true_iff]
    exact ⟨c1,hnk,c3.1,ek⟩
end Go.AM
namespace Go.AM
/-! lists of invariants -/
abbrev vsl (l:List Invar):AV:=.sl 2 (l.map Invar.av)
abbrev vtr (l:List Invar):AV:=.tr 2 (l.map Invar.av)
theorem vset (l:List Invar) (i:Nat) (a b:Int):(l.map Invar.av).set i (.agg [.i64 a,.i64 b])=(l.set i ⟨a,b⟩).map Invar.av:=by rw [List.map_set];rfl
theorem vsnoc (l:List Invar) (a b:Int):l.map Invar.av++[.agg [.i64 a,.i64 b]]=(l++[(⟨a,b⟩:Invar)]).map Invar.av:=by simp [Invar.av]
theorem vfz (l:List Invar):(l.map Invar.av).map AV.fz=l.map Invar.av:=by
  rw [List.map_map];exact List.map_congr_left fun a _=>by simp [Invar.av,fz_v,AV.fz,AV.fzL]
theorem vpure (l:List Invar):AV.pureL (l.map Invar.av)=true:=pureL_map _ (fun _=>rfl) l
def twL (k:Nat):List Invar:=(List.range k).map fun (i:Nat)=>⟨1,(i:Int)⟩
def paL (k:Nat):List Invar:=(List.range k).map fun (i:Nat)=>⟨2,((i+1:Nat):Int)⟩
theorem twL_succ (k:Nat):twL (k+1)=twL k++[⟨1,(k:Int)⟩]:=range_succ_map _ k
theorem paL_succ (k:Nat):paL (k+1)=paL k++[⟨2,((k+1:Nat):Int)⟩]:=range_succ_map _ k
theorem twL_len (k:Nat):(twL k).length=k:=by simp [twL]
theorem paL_len (k:Nat):(paL k).length=k:=by simp [paL]
theorem filter_snoc {α:Type} (pr:α→Bool) (l:List α) (x:α):(l++[x]).filter pr=if pr x=true then l.filter pr++[x] else l.filter pr:=by
  rw [List.filter_append];cases h:pr x <;> simp [h]
theorem cbP6:type_of% (And.intro (And.intro (cbP3) (@vset)) (And.intro (@vsnoc) (@vpure))):=(And.intro (And.intro (cbP3) (@vset)) (And.intro (@vsnoc) (@vpure)))
end Go.AM
set_option maxRecDepth 8000
namespace Go.AM
open Go.Proofs
def consM (m:Model) (i:Invar):Prop:=modelOk m∧∀ s∈m.mv,invV m.ks s i=0
instance (m:Model) (i:Invar):Decidable (consM m i):=by unfold consM;infer_instance
theorem iIsConserved (m:Model) (i:Invar) (h:smallM m) (hi:intOk i.s):SpecAt Try.prog 23 [m.sl,i.av] (.bl (decide (consM m i))):=by
  have h3:=h.2.2.1
  refine spec_of_awp (M:=MM) (np:=2) (fz:=true) mixed Try.func23 rfl rfl (by decide) rfl (Nat.le_refl _) (by decide +kernel) (.inr ⟨rfl,rfl⟩) trivial ?_
  have fin:∀ b:Bool,(b=true↔consM m i)→Value.bool b=Value.bool (decide (consM m i)):=fun b h=>bl_eq (by rw [h,decide_eq_true_iff])
  simp -dsimp -implicitDefEqProofs (disch:=first | omega | (simp only [lenr];try omega)) only [↓amPre,amAll,↓reduceIte,reduceCtorEq,Nat.reduceEqDiff,Nat.reduceBEq,Nat.reduceAdd,Nat.reduceLeDiff,Nat.reduceSub,Nat.reduceMul,Int.reduceToNat,List.size_toArray,tyF,MM,bu0,cbP6]
  refine callP_of (iIsValidPieceModel m h) ?_
  by_cases c:modelOk m
  case neg =>
    simp -dsimp -implicitDefEqProofs (disch:=first | omega | (simp only [lenr];try omega)) only [↓amPre,amAll,↓reduceIte,reduceCtorEq,Nat.reduceEqDiff,Nat.reduceBEq,Nat.reduceAdd,Nat.reduceLeDiff,Nat.reduceSub,Nat.reduceMul,Int.reduceToNat,List.size_toArray,tyF,MM,bu0,cbP6,c]
    refine fin _ ?_
    simp only [consM,c,false_and,reduceCtorEq]
  simp -dsimp -implicitDefEqProofs (disch:=first | omega | (simp only [lenr];try omega)) only [↓amPre,amAll,↓reduceIte,reduceCtorEq,Nat.reduceEqDiff,Nat.reduceBEq,Nat.reduceAdd,Nat.reduceLeDiff,Nat.reduceSub,Nat.reduceMul,Int.reduceToNat,List.size_toArray,tyF,MM,bu0,cbP6,c]
  refine awp_loop (fun k st=>k≤m.mv.length∧st.fr 13=.i64 k∧st.fr 12=.i64 m.mv.length∧st.fr 11=tssl m.mv∧st.fr 2=.loc 2 [] 0 0∧st.fr 3=.loc 3 [] 0 0∧st.mem 2=some (.pt 3 (.agg [ksl m.ks,.st m.nm,tssl m.mv]))∧st.mem 3=some (.pt 2 (.agg [.i64 i.k,.i64 i.s]))∧∀ s∈m.mv.take k,invV m.ks s i=0) (m.mv.length) ?_ ?_
  · simp -dsimp -implicitDefEqProofs (disch:=first | omega | (simp only [lenr];try omega)) only [↓amPre,amAll,↓reduceIte,reduceCtorEq,Nat.reduceEqDiff,Nat.reduceBEq,Nat.reduceAdd,Nat.reduceLeDiff,Nat.reduceSub,Nat.reduceMul,Int.reduceToNat,List.size_toArray,tyF,MM,bu0,cbP6]
    simp
  rintro k st _ ⟨hk,f13,f12,f11,f2,f3,m2,m3,ek⟩
  by_cases hlt:k<m.mv.length
  · have hsm:=h.2.2.2 _ (mem_getD m.mv k default hlt)
    simp -dsimp -implicitDefEqProofs (disch:=first | omega | (simp only [lenr];try omega)) only [↓amPre,amAll,↓reduceIte,reduceCtorEq,Nat.reduceEqDiff,Nat.reduceBEq,Nat.reduceAdd,Nat.reduceLeDiff,Nat.reduceSub,Nat.reduceMul,Int.reduceToNat,List.size_toArray,tyF,MM,bu0,cbP6,f13,f12,f11,f2,f3,m2,m3]
    refine callP_of (iInvariantValue m.ks (m.mv.getD k default) i h.1 hsm hi) ?_
    by_cases w:invV m.ks (m.mv.getD k default) i=0
    · simp -dsimp -implicitDefEqProofs (disch:=first | omega | (simp only [lenr];try omega)) only [↓amPre,amAll,↓reduceIte,reduceCtorEq,Nat.reduceEqDiff,Nat.reduceBEq,Nat.reduceAdd,Nat.reduceLeDiff,Nat.reduceSub,Nat.reduceMul,Int.reduceToNat,List.size_toArray,tyF,MM,bu0,cbP6,f13,f12,f11,f2,f3,m2,m3,ne_false w]
      repeat' (first | omega | rfl | exact i64c (by omega) | exact vic (by omega) | exact (mem_take_succ (d:=default) hlt).2 ⟨ek,w⟩ | apply And.intro)
    · simp -dsimp -implicitDefEqProofs (disch:=first | omega | (simp only [lenr];try omega)) only [↓amPre,amAll,↓reduceIte,reduceCtorEq,Nat.reduceEqDiff,Nat.reduceBEq,Nat.reduceAdd,Nat.reduceLeDiff,Nat.reduceSub,Nat.reduceMul,Int.reduceToNat,List.size_toArray,tyF,MM,bu0,cbP6,f13,f12,f11,f2,f3,m2,m3,ne_true w]
      refine fin _ ?_
      simp only [reduceCtorEq,false_iff]
      intro q;exact w (q.2 _ (mem_getD m.mv k default hlt))
  · have hke:k=m.mv.length:=by omega
    subst hke
    rw [List.take_length] at ek
    simp -dsimp -implicitDefEqProofs (disch:=first | omega | (simp only [lenr];try omega)) only [↓amPre,amAll,↓reduceIte,reduceCtorEq,Nat.reduceEqDiff,Nat.reduceBEq,Nat.reduceAdd,Nat.reduceLeDiff,Nat.reduceSub,Nat.reduceMul,Int.reduceToNat,List.size_toArray,tyF,MM,bu0,cbP6,f13,f12,f11,f2,f3,m2,m3]
    refine fin _ ?_
    simp only [true_iff]
    exact ⟨c,ek⟩
theorem sIsConserved (m:Model) (i:Invar) (h:smallM m) (hi:intOk i.s):SpecAt Try.prog 176 [m.sl,i.av] (.bl (decide (consM m i))):=by
  have h3:=h.2.2.1
  refine spec_of_awp (M:=MM) (np:=2) (fz:=true) mixed Try.func176 rfl rfl (by decide) rfl (Nat.le_refl _) (by decide +kernel) (.inr ⟨rfl,rfl⟩) trivial ?_
  have fin:∀ b:Bool,(b=true↔consM m i)→Value.bool b=Value.bool (decide (consM m i)):=fun b h=>bl_eq (by rw [h,decide_eq_true_iff])
  simp -dsimp -implicitDefEqProofs (disch:=first | omega | (simp only [lenr];try omega)) only [↓amPre,amAll,↓reduceIte,reduceCtorEq,Nat.reduceEqDiff,Nat.reduceBEq,Nat.reduceAdd,Nat.reduceLeDiff,Nat.reduceSub,Nat.reduceMul,Int.reduceToNat,List.size_toArray,tyF,MM,bu0,cbP6]
  refine callP_of (sIsValidPieceModel m h) ?_
  by_cases c:modelOk m
  case neg =>
    simp -dsimp -implicitDefEqProofs (disch:=first | omega | (simp only [lenr];try omega)) only [↓amPre,amAll,↓reduceIte,reduceCtorEq,Nat.reduceEqDiff,Nat.reduceBEq,Nat.reduceAdd,Nat.reduceLeDiff,Nat.reduceSub,Nat.reduceMul,Int.reduceToNat,List.size_toArray,tyF,MM,bu0,cbP6,c]
    refine fin _ ?_
    simp only [consM,c,false_and,reduceCtorEq]
  simp -dsimp -implicitDefEqProofs (disch:=first | omega | (simp only [lenr];try omega)) only [↓amPre,amAll,↓reduceIte,reduceCtorEq,Nat.reduceEqDiff,Nat.reduceBEq,Nat.reduceAdd,Nat.reduceLeDiff,Nat.reduceSub,Nat.reduceMul,Int.reduceToNat,List.size_toArray,tyF,MM,bu0,cbP6,c]
  refine awp_loop (fun k st=>k≤m.mv.length∧st.fr 5=.i64 k∧st.fr 2=.loc 2 [] 0 0∧st.fr 3=.loc 3 [] 0 0∧st.mem 2=some (.pt 3 (.agg [ksl m.ks,.st m.nm,tssl m.mv]))∧st.mem 3=some (.pt 2 (.agg [.i64 i.k,.i64 i.s]))∧∀ s∈m.mv.take k,invV m.ks s i=0) (m.mv.length) ?_ ?_
  · simp -dsimp -implicitDefEqProofs (disch:=first | omega | (simp only [lenr];try omega)) only [↓amPre,amAll,↓reduceIte,reduceCtorEq,Nat.reduceEqDiff,Nat.reduceBEq,Nat.reduceAdd,Nat.reduceLeDiff,Nat.reduceSub,Nat.reduceMul,Int.reduceToNat,List.size_toArray,tyF,MM,bu0,cbP6]
    simp
  rintro k st _ ⟨hk,f5,f2,f3,m2,m3,ek⟩
  by_cases hlt:k<m.mv.length
  · have hsm:=h.2.2.2 _ (mem_getD m.mv k default hlt)
    simp -dsimp -implicitDefEqProofs (disch:=first | omega | (simp only [lenr];try omega)) only [↓amPre,amAll,↓reduceIte,reduceCtorEq,Nat.reduceEqDiff,Nat.reduceBEq,Nat.reduceAdd,Nat.reduceLeDiff,Nat.reduceSub,Nat.reduceMul,Int.reduceToNat,List.size_toArray,tyF,MM,bu0,cbP6,f5,f2,f3,m2,m3]
    refine callP_of (sInvariantValue m.ks (m.mv.getD k default) i h.1 hsm hi) ?_
    by_cases w:invV m.ks (m.mv.getD k default) i=0
    · simp -dsimp -implicitDefEqProofs (disch:=first | omega | (simp only [lenr];try omega)) only [↓amPre,amAll,↓reduceIte,reduceCtorEq,Nat.reduceEqDiff,Nat.reduceBEq,Nat.reduceAdd,Nat.reduceLeDiff,Nat.reduceSub,Nat.reduceMul,Int.reduceToNat,List.size_toArray,tyF,MM,bu0,cbP6,f5,f2,f3,m2,m3,ne_false w]
      repeat' (first | omega | rfl | exact i64c (by omega) | exact vic (by omega) | exact (mem_take_succ (d:=default) hlt).2 ⟨ek,w⟩ | apply And.intro)
    · simp -dsimp -implicitDefEqProofs (disch:=first | omega | (simp only [lenr];try omega)) only [↓amPre,amAll,↓reduceIte,reduceCtorEq,Nat.reduceEqDiff,Nat.reduceBEq,Nat.reduceAdd,Nat.reduceLeDiff,Nat.reduceSub,Nat.reduceMul,Int.reduceToNat,List.size_toArray,tyF,MM,bu0,cbP6,f5,f2,f3,m2,m3,ne_true w]
      refine fin _ ?_
      simp only [reduceCtorEq,false_iff]
      intro q;exact w (q.2 _ (mem_getD m.mv k default hlt))
  · have hke:k=m.mv.length:=by omega
    subst hke
    rw [List.take_length] at ek
    simp -dsimp -implicitDefEqProofs (disch:=first | omega | (simp only [lenr];try omega)) only [↓amPre,amAll,↓reduceIte,reduceCtorEq,Nat.reduceEqDiff,Nat.reduceBEq,Nat.reduceAdd,Nat.reduceLeDiff,Nat.reduceSub,Nat.reduceMul,Int.reduceToNat,List.size_toArray,tyF,MM,bu0,cbP6,f5,f2,f3,m2,m3]
    refine fin _ ?_
    simp only [true_iff]
    exact ⟨c,ek⟩
def trivK (ks:List Kind) (set:Int):Nat→Bool
  | 0=>true
  | k+1=>trivK ks set k && !(bitK set k && decide (1<(ks.getD k default).c))
theorem trivK_false (ks:List Kind) (set:Int) (k:Nat) (h:(bitK set k && decide (1<(ks.getD k default).c))=true):∀ n,k<n→trivK ks set n=false
  | n+1,hn=>by
    rw [trivK]
    by_cases e:k=n
    · subst e;rw [h];simp
    · rw [trivK_false ks set k h n (by omega)];rfl
theorem sTrivial (ks:List Kind) (set:Int) (hl:ks.length≤3):SpecAt Try.prog 178 [ksl ks,.i64 set] (.bl (trivK ks set ks.length)):=by
  have hb:IntKind.i64.bits=64:=rfl
  refine spec_of_awp (M:=MM) (np:=2) (fz:=true) mixed Try.func178 rfl rfl (by decide) rfl (Nat.le_refl _) (by decide +kernel) (.inr ⟨rfl,rfl⟩) trivial ?_
  simp -dsimp -implicitDefEqProofs (disch:=first | omega | (simp only [lenr];try omega)) only [↓amPre,amAll,↓reduceIte,reduceCtorEq,Nat.reduceEqDiff,Nat.reduceBEq,Nat.reduceAdd,Nat.reduceLeDiff,Nat.reduceSub,Nat.reduceMul,Int.reduceToNat,List.size_toArray,tyF,MM,bu0,cbP6]
  refine awp_loop (fun k st=>k≤ks.length∧st.fr 5=.i64 k∧st.fr 0=ksl ks∧st.fr 1=.i64 set∧trivK ks set k=true) (ks.length) ?_ ?_
  · simp -dsimp -implicitDefEqProofs (disch:=first | omega | (simp only [lenr];try omega)) only [↓amPre,amAll,↓reduceIte,reduceCtorEq,Nat.reduceEqDiff,Nat.reduceBEq,Nat.reduceAdd,Nat.reduceLeDiff,Nat.reduceSub,Nat.reduceMul,Int.reduceToNat,List.size_toArray,tyF,MM,bu0,cbP6]
    simp [trivK]
  rintro k st _ ⟨hk,f5,f0,f1,ek⟩
  by_cases hlt:k<ks.length
  · have hu:=u64_small k (by omega)
    cases hbk:bitK set k with
    | true =>
      have hbk':=hbk
      unfold bitK at hbk'
      by_cases hc:1<(ks.getD k default).c
      · have ht:=trivK_false ks set k (by rw [hbk];simpa using hc) ks.length hlt
        simp -dsimp -implicitDefEqProofs (disch:=first | omega | (simp only [lenr];try omega)) only [↓amPre,amAll,↓reduceIte,reduceCtorEq,Nat.reduceEqDiff,Nat.reduceBEq,Nat.reduceAdd,Nat.reduceLeDiff,Nat.reduceSub,Nat.reduceMul,Int.reduceToNat,List.size_toArray,tyF,MM,bu0,cbP6,f5,f0,f1,hb,hu,hbk',lt_true hc,ht]
      · have ht:trivK ks set (k+1)=true:=by rw [trivK,ek,hbk];simpa using hc
        simp -dsimp -implicitDefEqProofs (disch:=first | omega | (simp only [lenr];try omega)) only [↓amPre,amAll,↓reduceIte,reduceCtorEq,Nat.reduceEqDiff,Nat.reduceBEq,Nat.reduceAdd,Nat.reduceLeDiff,Nat.reduceSub,Nat.reduceMul,Int.reduceToNat,List.size_toArray,tyF,MM,bu0,cbP6,f5,f0,f1,hb,hu,hbk',lt_false (Int.not_lt.1 hc),ht]
        repeat' (first | omega | rfl | exact i64c (by omega) | exact vic (by omega) | apply And.intro)
    | false =>
      have hbk':=hbk
      unfold bitK at hbk'
      have ht:trivK ks set (k+1)=true:=by rw [trivK,ek,hbk];simp
      simp -dsimp -implicitDefEqProofs (disch:=first | omega | (simp only [lenr];try omega)) only [↓amPre,amAll,↓reduceIte,reduceCtorEq,Nat.reduceEqDiff,Nat.reduceBEq,Nat.reduceAdd,Nat.reduceLeDiff,Nat.reduceSub,Nat.reduceMul,Int.reduceToNat,List.size_toArray,tyF,MM,bu0,cbP6,f5,f0,f1,hb,hu,hbk',ht]
      repeat' (first | omega | rfl | exact i64c (by omega) | exact vic (by omega) | apply And.intro)
  · have hke:k=ks.length:=by omega
    subst hke
    simp -dsimp -implicitDefEqProofs (disch:=first | omega | (simp only [lenr];try omega)) only [↓amPre,amAll,↓reduceIte,reduceCtorEq,Nat.reduceEqDiff,Nat.reduceBEq,Nat.reduceAdd,Nat.reduceLeDiff,Nat.reduceSub,Nat.reduceMul,Int.reduceToNat,List.size_toArray,tyF,MM,bu0,cbP6,f5,f0,f1,ek]
def trivI (ks:List Kind) (i:Invar):Bool:=if i.k=1 then decide ((ks.getD i.s.toNat default).o=1) else trivK ks i.s ks.length
theorem iTrivial (ks:List Kind) (i:Invar) (hl:ks.length≤3) (h1:i.k=1→0≤i.s∧i.s<ks.length):SpecAt Try.prog 82 [ksl ks,i.av] (.bl (trivI ks i)):=by
  have hb:IntKind.i64.bits=64:=rfl
  refine spec_of_awp (M:=MM) (np:=2) (fz:=true) mixed Try.func82 rfl rfl (by decide) rfl (Nat.le_refl _) (by decide +kernel) (.inr ⟨rfl,rfl⟩) trivial ?_
  simp -dsimp -implicitDefEqProofs (disch:=first | omega | (simp only [lenr];try omega)) only [↓amPre,amAll,↓reduceIte,reduceCtorEq,Nat.reduceEqDiff,Nat.reduceBEq,Nat.reduceAdd,Nat.reduceLeDiff,Nat.reduceSub,Nat.reduceMul,Int.reduceToNat,List.size_toArray,tyF,MM,bu0,cbP6]
  by_cases c:i.k=1
  · have hh:=h1 c
    have hT:trivI ks i=decide ((ks.getD i.s.toNat default).o=1):=if_pos c
    simp -dsimp -implicitDefEqProofs (disch:=first | omega | (simp only [lenr];try omega)) only [↓amPre,amAll,↓reduceIte,reduceCtorEq,Nat.reduceEqDiff,Nat.reduceBEq,Nat.reduceAdd,Nat.reduceLeDiff,Nat.reduceSub,Nat.reduceMul,Int.reduceToNat,List.size_toArray,tyF,MM,bu0,cbP6,eq_true c,hT]
    exact bl_eq (by simp)
  have hT:trivI ks i=trivK ks i.s ks.length:=if_neg c
  simp -dsimp -implicitDefEqProofs (disch:=first | omega | (simp only [lenr];try omega)) only [↓amPre,amAll,↓reduceIte,reduceCtorEq,Nat.reduceEqDiff,Nat.reduceBEq,Nat.reduceAdd,Nat.reduceLeDiff,Nat.reduceSub,Nat.reduceMul,Int.reduceToNat,List.size_toArray,tyF,MM,bu0,cbP6,eq_false c]
  refine awp_loop (fun k st=>k≤ks.length∧st.fr 19=.i64 k∧st.fr 18=.i64 ks.length∧st.fr 17=ksl ks∧st.fr 3=.loc 3 [] 0 0∧st.mem 3=some (.pt 2 (.agg [.i64 i.k,.i64 i.s]))∧trivK ks i.s k=true) (ks.length) ?_ ?_
  · simp -dsimp -implicitDefEqProofs (disch:=first | omega | (simp only [lenr];try omega)) only [↓amPre,amAll,↓reduceIte,reduceCtorEq,Nat.reduceEqDiff,Nat.reduceBEq,Nat.reduceAdd,Nat.reduceLeDiff,Nat.reduceSub,Nat.reduceMul,Int.reduceToNat,List.size_toArray,tyF,MM,bu0,cbP6]
    simp [trivK]
  rintro k st _ ⟨hk,f19,f18,f17,f3,m3,ek⟩
  by_cases hlt:k<ks.length
  · cases hbk:bitK i.s k with
    | true =>
      have hbk':=hbk
      unfold bitK at hbk'
      by_cases hc:1<(ks.getD k default).c
      · have ht:=trivK_false ks i.s k (by rw [hbk];simpa using hc) ks.length hlt
        simp -dsimp -implicitDefEqProofs (disch:=first | omega | (simp only [lenr];try omega)) only [↓amPre,amAll,↓reduceIte,reduceCtorEq,Nat.reduceEqDiff,Nat.reduceBEq,Nat.reduceAdd,Nat.reduceLeDiff,Nat.reduceSub,Nat.reduceMul,Int.reduceToNat,List.size_toArray,tyF,MM,bu0,cbP6,f19,f18,f17,f3,m3,hb,hbk',lt_true hc,hT,ht]
      · have ht:trivK ks i.s (k+1)=true:=by rw [trivK,ek,hbk];simpa using hc
        simp -dsimp -implicitDefEqProofs (disch:=first | omega | (simp only [lenr];try omega)) only [↓amPre,amAll,↓reduceIte,reduceCtorEq,Nat.reduceEqDiff,Nat.reduceBEq,Nat.reduceAdd,Nat.reduceLeDiff,Nat.reduceSub,Nat.reduceMul,Int.reduceToNat,List.size_toArray,tyF,MM,bu0,cbP6,f19,f18,f17,f3,m3,hb,hbk',lt_false (Int.not_lt.1 hc),ht]
        repeat' (first | omega | rfl | exact i64c (by omega) | exact vic (by omega) | apply And.intro)
    | false =>
      have hbk':=hbk
      unfold bitK at hbk'
      have ht:trivK ks i.s (k+1)=true:=by rw [trivK,ek,hbk];simp
      simp -dsimp -implicitDefEqProofs (disch:=first | omega | (simp only [lenr];try omega)) only [↓amPre,amAll,↓reduceIte,reduceCtorEq,Nat.reduceEqDiff,Nat.reduceBEq,Nat.reduceAdd,Nat.reduceLeDiff,Nat.reduceSub,Nat.reduceMul,Int.reduceToNat,List.size_toArray,tyF,MM,bu0,cbP6,f19,f18,f17,f3,m3,hb,hbk',ht]
      repeat' (first | omega | rfl | exact i64c (by omega) | exact vic (by omega) | apply And.intro)
  · have hke:k=ks.length:=by omega
    subst hke
    simp -dsimp -implicitDefEqProofs (disch:=first | omega | (simp only [lenr];try omega)) only [↓amPre,amAll,↓reduceIte,reduceCtorEq,Nat.reduceEqDiff,Nat.reduceBEq,Nat.reduceAdd,Nat.reduceLeDiff,Nat.reduceSub,Nat.reduceMul,Int.reduceToNat,List.size_toArray,tyF,MM,bu0,cbP6,f19,f18,f17,f3,m3,hT,ek]
end Go.AM
set_option maxRecDepth 8000
namespace Go.AM
open Go.Proofs
def keepI (m:Model) (i:Invar):Bool:=!trivI m.ks i && decide (consM m i)
def allI (ks:List Kind):List Invar:=twL ks.length++paL (2 ^ ks.length - 1)
def consL (m:Model):List Invar:=(allI m.ks).filter (keepI m)
def consR (m:Model):List Invar:=if modelOk m then consL m else []
theorem allI_len (ks:List Kind):(allI ks).length=ks.length+(2 ^ ks.length - 1):=by rw [allI,List.length_append,twL_len,paL_len]
theorem consL_le (m:Model) (h:modelOk m):(consL m).length≤10:=by
  have h1:=List.length_filter_le (keepI m) (allI m.ks)
  have h2:=pow_small h.1.1.2
  have h3:=h.1.1.2
  rw [allI_len] at h1
  unfold consL
  omega
theorem iConserved (m:Model) (h:smallM m):SpecAt Try.prog 15 [m.sl] (vtr (consR m)):=by
  have hb:IntKind.i64.bits=64:=rfl
  refine spec_of_awp (M:=MM) (np:=1) (fz:=false) mixed Try.func15 rfl rfl (by decide) rfl (Nat.le_refl _) (by decide +kernel) (.inl rfl) (by first | trivial | simp only [sigsOk_nil,sigsOk_some,sigsOk_none,sig_tr,sig_pt,sig_mt,sig_agg,List.map_cons,List.map_nil,sig1_tr,sig1_pt,sig1_v,and_self,true_and,List.length_map,List.length_set]) ?_
  simp -dsimp -implicitDefEqProofs (disch:=first | omega | (simp only [lenr];try omega)) only [↓amPre,amAll,↓reduceIte,reduceCtorEq,Nat.reduceEqDiff,Nat.reduceBEq,Nat.reduceAdd,Nat.reduceLeDiff,Nat.reduceSub,Nat.reduceMul,Int.reduceToNat,List.size_toArray,tyF,MM,bu0,cbP6]
  refine callP_of (iIsValidPieceModel m h) ?_
  by_cases c:modelOk m
  case neg =>
    have hR:consR m=[]:=if_neg c
    simp -dsimp -implicitDefEqProofs (disch:=first | omega | (simp only [lenr];try omega)) only [↓amPre,amAll,↓reduceIte,reduceCtorEq,Nat.reduceEqDiff,Nat.reduceBEq,Nat.reduceAdd,Nat.reduceLeDiff,Nat.reduceSub,Nat.reduceMul,Int.reduceToNat,List.size_toArray,tyF,MM,bu0,cbP6,c,hR]
  have hR:consR m=consL m:=if_pos c
  have hle:=consL_le m c
  have hl3:=c.1.1.2
  have hpw:=pow_small hl3
  have hal:=allI_len m.ks
  simp -dsimp -implicitDefEqProofs (disch:=first | omega | (simp only [lenr];try omega)) only [↓amPre,amAll,↓reduceIte,reduceCtorEq,Nat.reduceEqDiff,Nat.reduceBEq,Nat.reduceAdd,Nat.reduceLeDiff,Nat.reduceSub,Nat.reduceMul,Int.reduceToNat,List.size_toArray,tyF,MM,bu0,cbP6,c]
  refine callP_of (lenK m.ks) ?_
  simp -dsimp -implicitDefEqProofs (disch:=first | omega | (simp only [lenr];try omega)) only [↓amPre,amAll,↓reduceIte,reduceCtorEq,Nat.reduceEqDiff,Nat.reduceBEq,Nat.reduceAdd,Nat.reduceLeDiff,Nat.reduceSub,Nat.reduceMul,Int.reduceToNat,List.size_toArray,tyF,MM,bu0,cbP6,c]
  refine awp_loopN 3 22 2 (by simp -dsimp -implicitDefEqProofs (disch:=first | omega | (simp only [lenr];try omega)) only [↓amPre,amAll,↓reduceIte,reduceCtorEq,Nat.reduceEqDiff,Nat.reduceBEq,Nat.reduceAdd,Nat.reduceLeDiff,Nat.reduceSub,Nat.reduceMul,Int.reduceToNat,List.size_toArray,tyF,MM,bu0,cbP6]) (by decide) (fun k st=>k≤m.ks.length∧st.fr 15=.i64 k∧st.fr 14=.i64 m.ks.length∧st.fr 3=.ref 22 [] 2 0 k∧st.fr 4=.nilsl∧st.fr 1=.loc 1 [] 0 0∧st.mem 22=some (vtr (twL k))∧st.mem 1=some (.pt 3 (.agg [ksl m.ks,.st m.nm,tssl m.mv]))) (m.ks.length) ?_ ?_
  · simp -dsimp -implicitDefEqProofs (disch:=first | omega | (simp only [lenr];try omega)) only [↓amPre,amAll,↓reduceIte,reduceCtorEq,Nat.reduceEqDiff,Nat.reduceBEq,Nat.reduceAdd,Nat.reduceLeDiff,Nat.reduceSub,Nat.reduceMul,Int.reduceToNat,List.size_toArray,tyF,MM,bu0,cbP6,nilAs_eq]
    simp [twL]
  rintro k st _ ⟨hk,f15,f14,f3,f4,f1,m22,m1⟩
  by_cases hlt:k<m.ks.length
  · have ht:=twL_len k
    have hts:=twL_succ k
    simp -dsimp -implicitDefEqProofs (disch:=first | omega | (simp only [lenr];try omega)) only [↓amPre,amAll,↓reduceIte,reduceCtorEq,Nat.reduceEqDiff,Nat.reduceBEq,Nat.reduceAdd,Nat.reduceLeDiff,Nat.reduceSub,Nat.reduceMul,Int.reduceToNat,List.size_toArray,tyF,MM,bu0,cbP6,f15,f14,f3,f4,f1,m22,m1,ht,← hts]
    repeat' (first | omega | rfl | exact i64c (by omega) | exact vic (by omega) | apply And.intro)
  have hke:k=m.ks.length:=by omega
  subst hke
  have ht:=twL_len m.ks.length
  simp -dsimp -implicitDefEqProofs (disch:=first | omega | (simp only [lenr];try omega)) only [↓amPre,amAll,↓reduceIte,reduceCtorEq,Nat.reduceEqDiff,Nat.reduceBEq,Nat.reduceAdd,Nat.reduceLeDiff,Nat.reduceSub,Nat.reduceMul,Int.reduceToNat,List.size_toArray,tyF,MM,bu0,cbP6,f15,f14,f3,f4,f1,m22,m1]
  refine awp_loopR 22 36 (vtr (twL m.ks.length)) (by simp -dsimp -implicitDefEqProofs (disch:=first | omega | (simp only [lenr];try omega)) only [↓amPre,amAll,↓reduceIte,reduceCtorEq,Nat.reduceEqDiff,Nat.reduceBEq,Nat.reduceAdd,Nat.reduceLeDiff,Nat.reduceSub,Nat.reduceMul,Int.reduceToNat,List.size_toArray,tyF,MM,bu0,cbP6,f15,f14,f3,f4,f1,m22,m1]) (by decide) (by decide) (by decide) (fun j st=>j≤(2 ^ m.ks.length - 1)∧st.fr 6=.i64 (j+1)∧st.fr 3=.ref 36 [] 2 0 (m.ks.length+j)∧st.fr 4=.nilsl∧st.fr 1=.loc 1 [] 0 0∧st.mem 36=some (vtr (twL m.ks.length++paL j))∧st.mem 1=some (.pt 3 (.agg [ksl m.ks,.st m.nm,tssl m.mv]))) ((2 ^ m.ks.length - 1)) ?_ ?_
  · simp -dsimp -implicitDefEqProofs (disch:=first | omega | (simp only [lenr];try omega)) only [↓amPre,amAll,↓reduceIte,reduceCtorEq,Nat.reduceEqDiff,Nat.reduceBEq,Nat.reduceAdd,Nat.reduceLeDiff,Nat.reduceSub,Nat.reduceMul,Int.reduceToNat,List.size_toArray,tyF,MM,bu0,cbP6,ren_eq,f15,f14,f3,f4,f1,m22,m1]
    simp [paL]
  rintro j st _ ⟨hj,f6,f3,f4,f1,m36,m1⟩
  have hsh:=shl_small m.ks.length hl3
  have hpl:=paL_len j
  by_cases hlt:j<2 ^ m.ks.length - 1
  · have hps:=paL_succ j
    have happ:twL m.ks.length++paL j++[(⟨2,((j+1:Nat):Int)⟩:Invar)]=twL m.ks.length++paL (j+1):=by rw [hps,List.append_assoc]
    have h2:((j:Int)+1<((2 ^ m.ks.length:Nat):Int)):=by omega
    have hle1:(twL m.ks.length++paL j).length=m.ks.length+j:=by rw [List.length_append,ht,hpl]
    simp -dsimp -implicitDefEqProofs (disch:=first | omega | (simp only [lenr];try omega)) only [↓amPre,amAll,↓reduceIte,reduceCtorEq,Nat.reduceEqDiff,Nat.reduceBEq,Nat.reduceAdd,Nat.reduceLeDiff,Nat.reduceSub,Nat.reduceMul,Int.reduceToNat,List.size_toArray,tyF,MM,bu0,cbP6,f6,f3,f4,f1,m36,m1,hb,hsh,lt_true h2,hle1,happ]
    repeat' (first | omega | rfl | exact i64c (by omega) | exact vic (by omega) | apply And.intro)
  have hje:j=2 ^ m.ks.length - 1:=by omega
  have h2:(((2 ^ m.ks.length:Nat):Int)≤(j:Int)+1):=by omega
  have hall:twL m.ks.length++paL j=allI m.ks:=by rw [hje];rfl
  rw [hall] at m36
  have hll:m.ks.length+j=(allI m.ks).length:=by rw [hal,hje]
  rw [hll] at f3
  simp -dsimp -implicitDefEqProofs (disch:=first | omega | (simp only [lenr];try omega)) only [↓amPre,amAll,↓reduceIte,reduceCtorEq,Nat.reduceEqDiff,Nat.reduceBEq,Nat.reduceAdd,Nat.reduceLeDiff,Nat.reduceSub,Nat.reduceMul,Int.reduceToNat,List.size_toArray,tyF,MM,bu0,cbP6,f6,f3,f4,f1,m36,m1,hb,hsh,lt_false h2]
  generalize hA:allI m.ks=A at hal hll m36 f3
  have hcons:consL m=A.filter (keepI m):=by rw [← hA];rfl
  have hmem:∀ i∈A,(i.k=1→0≤i.s∧i.s<m.ks.length)∧intOk i.s:=by
    intro i hi
    rw [← hA,allI,List.mem_append] at hi
    unfold intOk
    rcases hi with hi | hi
    · obtain ⟨n,hn,rfl⟩:=List.mem_map.1 hi
      have:=List.mem_range.1 hn
      exact ⟨fun _=>(by simp only;omega),(by simp only;omega)⟩
    · obtain ⟨n,hn,rfl⟩:=List.mem_map.1 hi
      have:=List.mem_range.1 hn
      exact ⟨fun q=>(by cases q),(by simp only;omega)⟩
  refine awp_loopN 4 56 2 (by simp -dsimp -implicitDefEqProofs (disch:=first | omega | (simp only [lenr];try omega)) only [↓amPre,amAll,↓reduceIte,reduceCtorEq,Nat.reduceEqDiff,Nat.reduceBEq,Nat.reduceAdd,Nat.reduceLeDiff,Nat.reduceSub,Nat.reduceMul,Int.reduceToNat,List.size_toArray,tyF,MM,bu0,cbP6,f6,f3,f4,f1,m36,m1]) (by decide) (fun n st=>n≤A.length∧st.fr 39=.i64 n∧st.fr 38=.i64 A.length∧st.fr 37=.ref 36 [] 2 0 A.length∧st.fr 4=.ref 56 [] 2 0 ((A.take n).filter (keepI m)).length∧st.fr 1=.loc 1 [] 0 0∧st.mem 36=some (vtr A)∧st.mem 56=some (vtr ((A.take n).filter (keepI m)))∧st.mem 1=some (.pt 3 (.agg [ksl m.ks,.st m.nm,tssl m.mv]))) (A.length) ?_ ?_
  · simp -dsimp -implicitDefEqProofs (disch:=first | omega | (simp only [lenr];try omega)) only [↓amPre,amAll,↓reduceIte,reduceCtorEq,Nat.reduceEqDiff,Nat.reduceBEq,Nat.reduceAdd,Nat.reduceLeDiff,Nat.reduceSub,Nat.reduceMul,Int.reduceToNat,List.size_toArray,tyF,MM,bu0,cbP6,nilAs_eq,f6,f3,f4,f1,m36,m1]
    simp
  rintro n st _ ⟨hn,f39,f38,f37,f4,f1,m36,m56,m1⟩
  have hfl:((A.take n).filter (keepI m)).length≤n:=by
    have a1:=List.length_filter_le (keepI m) (A.take n)
    have a2:(A.take n).length≤n:=by simp;omega
    omega
  by_cases hlt:n<A.length
  · obtain ⟨mm1,mm2⟩:=hmem _ (mem_getD A n default hlt)
    have hts:=take_succ_eq A n default hlt
    have hfs:=filter_snoc (keepI m) (A.take n) (A.getD n default)
    rw [← hts] at hfs
    generalize hL:(A.take n).filter (keepI m)=L at hfl f4 m56 hfs
    simp -dsimp -implicitDefEqProofs (disch:=first | omega | (simp only [lenr];try omega)) only [↓amPre,amAll,↓reduceIte,reduceCtorEq,Nat.reduceEqDiff,Nat.reduceBEq,Nat.reduceAdd,Nat.reduceLeDiff,Nat.reduceSub,Nat.reduceMul,Int.reduceToNat,List.size_toArray,tyF,MM,bu0,cbP6,f39,f38,f37,f4,f1,m36,m56,m1]
    refine callP_of (iTrivial m.ks (A.getD n default) hl3 mm1) ?_
    cases t1:trivI m.ks (A.getD n default) with
    | true =>
      have hk:keepI m (A.getD n default)=false:=by rw [keepI,t1];rfl
      rw [hk,if_neg (by simp)] at hfs
      simp -dsimp -implicitDefEqProofs (disch:=first | omega | (simp only [lenr];try omega)) only [↓amPre,amAll,↓reduceIte,reduceCtorEq,Nat.reduceEqDiff,Nat.reduceBEq,Nat.reduceAdd,Nat.reduceLeDiff,Nat.reduceSub,Nat.reduceMul,Int.reduceToNat,List.size_toArray,tyF,MM,bu0,cbP6,f39,f38,f37,f4,f1,m36,m56,m1,t1,hfs]
      repeat' (first | omega | rfl | exact i64c (by omega) | exact vic (by omega) | apply And.intro)
    | false =>
      simp -dsimp -implicitDefEqProofs (disch:=first | omega | (simp only [lenr];try omega)) only [↓amPre,amAll,↓reduceIte,reduceCtorEq,Nat.reduceEqDiff,Nat.reduceBEq,Nat.reduceAdd,Nat.reduceLeDiff,Nat.reduceSub,Nat.reduceMul,Int.reduceToNat,List.size_toArray,tyF,MM,bu0,cbP6,f39,f38,f37,f4,f1,m36,m56,m1,t1]
      refine callP_of (iIsConserved m (A.getD n default) h mm2) ?_
      by_cases t2:consM m (A.getD n default)
      · have hk:keepI m (A.getD n default)=true:=by rw [keepI,t1,decide_eq_true t2];rfl
        rw [hk,if_pos rfl] at hfs
        have hll2:((A.take (n+1)).filter (keepI m)).length=L.length+1:=by rw [hfs];simp
        simp -dsimp -implicitDefEqProofs (disch:=first | omega | (simp only [lenr];try omega)) only [↓amPre,amAll,↓reduceIte,reduceCtorEq,Nat.reduceEqDiff,Nat.reduceBEq,Nat.reduceAdd,Nat.reduceLeDiff,Nat.reduceSub,Nat.reduceMul,Int.reduceToNat,List.size_toArray,tyF,MM,bu0,cbP6,f39,f38,f37,f4,f1,m36,m56,m1,t1,t2,← hfs,hll2]
        repeat' (first | omega | rfl | exact i64c (by omega) | exact vic (by omega) | apply And.intro)
      · have hk:keepI m (A.getD n default)=false:=by rw [keepI,t1,decide_eq_false t2];rfl
        rw [hk,if_neg (by simp)] at hfs
        simp -dsimp -implicitDefEqProofs (disch:=first | omega | (simp only [lenr];try omega)) only [↓amPre,amAll,↓reduceIte,reduceCtorEq,Nat.reduceEqDiff,Nat.reduceBEq,Nat.reduceAdd,Nat.reduceLeDiff,Nat.reduceSub,Nat.reduceMul,Int.reduceToNat,List.size_toArray,tyF,MM,bu0,cbP6,f39,f38,f37,f4,f1,m36,m56,m1,t1,t2,hfs]
        repeat' (first | omega | rfl | exact i64c (by omega) | exact vic (by omega) | apply And.intro)
  · have hne:n=A.length:=by omega
    subst hne
    rw [List.take_length,← hcons] at f4 m56
    simp -dsimp -implicitDefEqProofs (disch:=first | omega | (simp only [lenr];try omega)) only [↓amPre,amAll,↓reduceIte,reduceCtorEq,Nat.reduceEqDiff,Nat.reduceBEq,Nat.reduceAdd,Nat.reduceLeDiff,Nat.reduceSub,Nat.reduceMul,Int.reduceToNat,List.size_toArray,tyF,MM,bu0,cbP6,f39,f38,f37,f4,f1,m36,m56,m1,hR]
end Go.AM
set_option maxRecDepth 8000
namespace Go.AM
open Go.Proofs
theorem sl22Conserved (m:Model) (h:smallM m) (c:modelOk m):SpecAt Try.prog 87 [m.sl] (vtr (consL m)):=by
  have hle:=consL_le m c
  have hl3:=c.1.1.2
  have hpw:=pow_small hl3
  refine spec_of_awp (M:=MM) (np:=1) (fz:=false) mixed Try.func87 rfl rfl (by decide) rfl (Nat.le_refl _) (by decide +kernel) (.inl rfl) (by first | trivial | simp only [sigsOk_nil,sigsOk_some,sigsOk_none,sig_tr,sig_pt,sig_mt,sig_agg,List.map_cons,List.map_nil,sig1_tr,sig1_pt,sig1_v,and_self,true_and,List.length_map,List.length_set]) ?_
  simp -dsimp -implicitDefEqProofs (disch:=first | omega | (simp only [lenr];try omega)) only [↓amPre,amAll,↓reduceIte,reduceCtorEq,Nat.reduceEqDiff,Nat.reduceBEq,Nat.reduceAdd,Nat.reduceLeDiff,Nat.reduceSub,Nat.reduceMul,Int.reduceToNat,List.size_toArray,tyF,MM,bu0,cbP6]
  refine awp_loopR 8 33 (.tr 2 []) (by simp -dsimp -implicitDefEqProofs (disch:=first | omega | (simp only [lenr];try omega)) only [↓amPre,amAll,↓reduceIte,reduceCtorEq,Nat.reduceEqDiff,Nat.reduceBEq,Nat.reduceAdd,Nat.reduceLeDiff,Nat.reduceSub,Nat.reduceMul,Int.reduceToNat,List.size_toArray,tyF,MM,bu0,cbP6]) (by decide) (by decide) (by decide) (fun k st=>k≤m.ks.length∧st.fr 4=.i64 k∧st.fr 3=.ref 33 [] 2 0 ((twL k).filter (keepI m)).length∧st.fr 1=.loc 1 [] 0 0∧st.mem 33=some (vtr ((twL k).filter (keepI m)))∧st.mem 1=some (.pt 3 (.agg [ksl m.ks,.st m.nm,tssl m.mv]))) (m.ks.length) ?_ ?_
  · simp -dsimp -implicitDefEqProofs (disch:=first | omega | (simp only [lenr];try omega)) only [↓amPre,amAll,↓reduceIte,reduceCtorEq,Nat.reduceEqDiff,Nat.reduceBEq,Nat.reduceAdd,Nat.reduceLeDiff,Nat.reduceSub,Nat.reduceMul,Int.reduceToNat,List.size_toArray,tyF,MM,bu0,cbP6,ren_eq]
    simp [twL]
  rintro k st _ ⟨hk,f4,f3,f1,m33,m1⟩
  have hfl:((twL k).filter (keepI m)).length≤k:=by
    have a1:=List.length_filter_le (keepI m) (twL k)
    rw [twL_len] at a1;exact a1
  have hfs:=filter_snoc (keepI m) (twL k) ⟨1,(k:Int)⟩
  rw [← twL_succ] at hfs
  generalize hL:(twL k).filter (keepI m)=L at hfl f3 m33 hfs
  by_cases hlt:k<m.ks.length
  · have hok:=c.1.2.1 _ (mem_getD m.ks k default hlt)
    have htr:trivI m.ks ⟨1,(k:Int)⟩=decide ((m.ks.getD k default).o=1):=rfl
    by_cases t1:1<(m.ks.getD k default).o
    case neg =>
      have hk:keepI m ⟨1,(k:Int)⟩=false:=by
        rw [keepI,htr,decide_eq_true (by have:=hok.2;omega)];rfl
      rw [hk,if_neg (by simp)] at hfs
      simp -dsimp -implicitDefEqProofs (disch:=first | omega | (simp only [lenr];try omega)) only [↓amPre,amAll,↓reduceIte,reduceCtorEq,Nat.reduceEqDiff,Nat.reduceBEq,Nat.reduceAdd,Nat.reduceLeDiff,Nat.reduceSub,Nat.reduceMul,Int.reduceToNat,List.size_toArray,tyF,MM,bu0,cbP6,f4,f3,f1,m33,m1,lt_false (Int.not_lt.1 t1),hfs]
      repeat' (first | omega | rfl | exact i64c (by omega) | exact vic (by omega) | apply And.intro)
    have hn1:decide ((m.ks.getD k default).o=1)=false:=decide_eq_false (by omega)
    simp -dsimp -implicitDefEqProofs (disch:=first | omega | (simp only [lenr];try omega)) only [↓amPre,amAll,↓reduceIte,reduceCtorEq,Nat.reduceEqDiff,Nat.reduceBEq,Nat.reduceAdd,Nat.reduceLeDiff,Nat.reduceSub,Nat.reduceMul,Int.reduceToNat,List.size_toArray,tyF,MM,bu0,cbP6,f4,f3,f1,m33,m1,lt_true t1]
    refine callP_of (sIsConserved m ⟨1,(k:Int)⟩ h (by unfold intOk;simp only;omega)) ?_
    by_cases t2:consM m ⟨1,(k:Int)⟩
    · have hk:keepI m ⟨1,(k:Int)⟩=true:=by rw [keepI,htr,hn1,decide_eq_true t2];rfl
      rw [hk,if_pos rfl] at hfs
      have hll2:((twL (k+1)).filter (keepI m)).length=L.length+1:=by rw [hfs];simp
      simp -dsimp -implicitDefEqProofs (disch:=first | omega | (simp only [lenr];try omega)) only [↓amPre,amAll,↓reduceIte,reduceCtorEq,Nat.reduceEqDiff,Nat.reduceBEq,Nat.reduceAdd,Nat.reduceLeDiff,Nat.reduceSub,Nat.reduceMul,Int.reduceToNat,List.size_toArray,tyF,MM,bu0,cbP6,f4,f3,f1,m33,m1,lt_true t1,t2,← hfs,hll2]
      repeat' (first | omega | rfl | exact i64c (by omega) | exact vic (by omega) | apply And.intro)
    · have hk:keepI m ⟨1,(k:Int)⟩=false:=by rw [keepI,decide_eq_false t2];simp
      rw [hk,if_neg (by simp)] at hfs
      simp -dsimp -implicitDefEqProofs (disch:=first | omega | (simp only [lenr];try omega)) only [↓amPre,amAll,↓reduceIte,reduceCtorEq,Nat.reduceEqDiff,Nat.reduceBEq,Nat.reduceAdd,Nat.reduceLeDiff,Nat.reduceSub,Nat.reduceMul,Int.reduceToNat,List.size_toArray,tyF,MM,bu0,cbP6,f4,f3,f1,m33,m1,lt_true t1,t2,hfs]
      repeat' (first | omega | rfl | exact i64c (by omega) | exact vic (by omega) | apply And.intro)
  have hke:k=m.ks.length:=by omega
  subst hke
  simp -dsimp -implicitDefEqProofs (disch:=first | omega | (simp only [lenr];try omega)) only [↓amPre,amAll,↓reduceIte,reduceCtorEq,Nat.reduceEqDiff,Nat.reduceBEq,Nat.reduceAdd,Nat.reduceLeDiff,Nat.reduceSub,Nat.reduceMul,Int.reduceToNat,List.size_toArray,tyF,MM,bu0,cbP6,f4,f3,f1,m33,m1]
  refine awp_loopR 33 56 (vtr L) (by simp -dsimp -implicitDefEqProofs (disch:=first | omega | (simp only [lenr];try omega)) only [↓amPre,amAll,↓reduceIte,reduceCtorEq,Nat.reduceEqDiff,Nat.reduceBEq,Nat.reduceAdd,Nat.reduceLeDiff,Nat.reduceSub,Nat.reduceMul,Int.reduceToNat,List.size_toArray,tyF,MM,bu0,cbP6,f4,f3,f1,m33,m1]) (by decide) (by decide) (by decide) (fun j st=>j≤(2 ^ m.ks.length - 1)∧st.fr 6=.i64 (j+1:Nat)∧st.fr 3=.ref 56 [] 2 0 ((twL m.ks.length++paL j).filter (keepI m)).length∧st.fr 1=.loc 1 [] 0 0∧st.mem 56=some (vtr ((twL m.ks.length++paL j).filter (keepI m)))∧st.mem 1=some (.pt 3 (.agg [ksl m.ks,.st m.nm,tssl m.mv]))) ((2 ^ m.ks.length - 1)) ?_ ?_
  · simp -dsimp -implicitDefEqProofs (disch:=first | omega | (simp only [lenr];try omega)) only [↓amPre,amAll,↓reduceIte,reduceCtorEq,Nat.reduceEqDiff,Nat.reduceBEq,Nat.reduceAdd,Nat.reduceLeDiff,Nat.reduceSub,Nat.reduceMul,Int.reduceToNat,List.size_toArray,tyF,MM,bu0,cbP6,ren_eq,f4,f3,f1,m33,m1]
    simp [paL,hL]
  rintro j st _ ⟨hj,f6,f3,f1,m56,m1⟩
  have hfl2:((twL m.ks.length++paL j).filter (keepI m)).length≤m.ks.length+j:=by
    have a1:=List.length_filter_le (keepI m) (twL m.ks.length++paL j)
    rw [List.length_append,twL_len,paL_len] at a1;exact a1
  have hfs2:=filter_snoc (keepI m) (twL m.ks.length++paL j) ⟨2,((j+1:Nat):Int)⟩
  rw [List.append_assoc,← paL_succ] at hfs2
  by_cases hlt:j<2 ^ m.ks.length - 1
  · have h2:(((j+1:Nat):Int)<((2 ^ m.ks.length:Nat):Int)):=by omega
    have htr:trivI m.ks ⟨2,((j+1:Nat):Int)⟩=trivK m.ks ((j+1:Nat):Int) m.ks.length:=rfl
    generalize hL2:(twL m.ks.length++paL j).filter (keepI m)=L2 at hfl2 f3 m56 hfs2
    simp -dsimp -implicitDefEqProofs (disch:=first | omega | (simp only [lenr];try omega)) only [↓amPre,amAll,↓reduceIte,reduceCtorEq,Nat.reduceEqDiff,Nat.reduceBEq,Nat.reduceAdd,Nat.reduceLeDiff,Nat.reduceSub,Nat.reduceMul,Int.reduceToNat,List.size_toArray,tyF,MM,bu0,cbP6,f6,f3,f1,m56,m1]
    refine callP_of (sl22Sets m.ks c.1) ?_
    simp -dsimp -implicitDefEqProofs (disch:=first | omega | (simp only [lenr];try omega)) only [↓amPre,amAll,↓reduceIte,reduceCtorEq,Nat.reduceEqDiff,Nat.reduceBEq,Nat.reduceAdd,Nat.reduceLeDiff,Nat.reduceSub,Nat.reduceMul,Int.reduceToNat,List.size_toArray,tyF,MM,bu0,cbP6,f6,f3,f1,m56,m1,lt_true h2]
    refine callP_of (sTrivial m.ks _ hl3) ?_
    cases t1:trivK m.ks ((j+1:Nat):Int) m.ks.length with
    | true =>
      have hk:keepI m ⟨2,((j+1:Nat):Int)⟩=false:=by rw [keepI,htr,t1];rfl
      rw [hk,if_neg (by simp)] at hfs2
      simp -dsimp -implicitDefEqProofs (disch:=first | omega | (simp only [lenr];try omega)) only [↓amPre,amAll,↓reduceIte,reduceCtorEq,Nat.reduceEqDiff,Nat.reduceBEq,Nat.reduceAdd,Nat.reduceLeDiff,Nat.reduceSub,Nat.reduceMul,Int.reduceToNat,List.size_toArray,tyF,MM,bu0,cbP6,f6,f3,f1,m56,m1,t1,hfs2]
      repeat' (first | omega | rfl | exact i64c (by omega) | exact vic (by omega) | apply And.intro)
    | false =>
      simp -dsimp -implicitDefEqProofs (disch:=first | omega | (simp only [lenr];try omega)) only [↓amPre,amAll,↓reduceIte,reduceCtorEq,Nat.reduceEqDiff,Nat.reduceBEq,Nat.reduceAdd,Nat.reduceLeDiff,Nat.reduceSub,Nat.reduceMul,Int.reduceToNat,List.size_toArray,tyF,MM,bu0,cbP6,f6,f3,f1,m56,m1,t1]
      refine callP_of (sIsConserved m ⟨2,((j+1:Nat):Int)⟩ h (by unfold intOk;simp only;omega)) ?_
      by_cases t2:consM m ⟨2,((j+1:Nat):Int)⟩
      · have hk:keepI m ⟨2,((j+1:Nat):Int)⟩=true:=by rw [keepI,htr,t1,decide_eq_true t2];rfl
        rw [hk,if_pos rfl] at hfs2
        have hll2:((twL m.ks.length++paL (j+1)).filter (keepI m)).length=L2.length+1:=by rw [hfs2];simp
        simp -dsimp -implicitDefEqProofs (disch:=first | omega | (simp only [lenr];try omega)) only [↓amPre,amAll,↓reduceIte,reduceCtorEq,Nat.reduceEqDiff,Nat.reduceBEq,Nat.reduceAdd,Nat.reduceLeDiff,Nat.reduceSub,Nat.reduceMul,Int.reduceToNat,List.size_toArray,tyF,MM,bu0,cbP6,f6,f3,f1,m56,m1,t1,t2,← hfs2,hll2]
        repeat' (first | omega | rfl | exact i64c (by omega) | exact vic (by omega) | apply And.intro)
      · have hk:keepI m ⟨2,((j+1:Nat):Int)⟩=false:=by rw [keepI,decide_eq_false t2];simp
        rw [hk,if_neg (by simp)] at hfs2
        simp -dsimp -implicitDefEqProofs (disch:=first | omega | (simp only [lenr];try omega)) only [↓amPre,amAll,↓reduceIte,reduceCtorEq,Nat.reduceEqDiff,Nat.reduceBEq,Nat.reduceAdd,Nat.reduceLeDiff,Nat.reduceSub,Nat.reduceMul,Int.reduceToNat,List.size_toArray,tyF,MM,bu0,cbP6,f6,f3,f1,m56,m1,t1,t2,hfs2]
        repeat' (first | omega | rfl | exact i64c (by omega) | exact vic (by omega) | apply And.intro)
  have hje:j=2 ^ m.ks.length - 1:=by omega
  have h2:(((2 ^ m.ks.length:Nat):Int)≤((j+1:Nat):Int)):=by omega
  have hall:(twL m.ks.length++paL j).filter (keepI m)=consL m:=by rw [hje];rfl
  rw [hall] at m56 f3
  simp -dsimp -implicitDefEqProofs (disch:=first | omega | (simp only [lenr];try omega)) only [↓amPre,amAll,↓reduceIte,reduceCtorEq,Nat.reduceEqDiff,Nat.reduceBEq,Nat.reduceAdd,Nat.reduceLeDiff,Nat.reduceSub,Nat.reduceMul,Int.reduceToNat,List.size_toArray,tyF,MM,bu0,cbP6,f6,f3,f1,m56,m1]
  refine callP_of (sl22Sets m.ks c.1) ?_
  simp -dsimp -implicitDefEqProofs (disch:=first | omega | (simp only [lenr];try omega)) only [↓amPre,amAll,↓reduceIte,reduceCtorEq,Nat.reduceEqDiff,Nat.reduceBEq,Nat.reduceAdd,Nat.reduceLeDiff,Nat.reduceSub,Nat.reduceMul,Int.reduceToNat,List.size_toArray,tyF,MM,bu0,cbP6,f6,f3,f1,m56,m1,lt_false h2]
theorem sConserved (m:Model) (h:smallM m):SpecAt Try.prog 17 [m.sl] (vtr (consR m)):=by
  refine spec_of_awp (M:=MM) (np:=1) (fz:=false) mixed Try.func17 rfl rfl (by decide) rfl (Nat.le_refl _) (by decide +kernel) (.inl rfl) (by first | trivial | simp only [sigsOk_nil,sigsOk_some,sigsOk_none,sig_tr,sig_pt,sig_mt,sig_agg,List.map_cons,List.map_nil,sig1_tr,sig1_pt,sig1_v,and_self,true_and,List.length_map,List.length_set]) ?_
  simp -dsimp -implicitDefEqProofs (disch:=first | omega | (simp only [lenr];try omega)) only [↓amPre,amAll,↓reduceIte,reduceCtorEq,Nat.reduceEqDiff,Nat.reduceBEq,Nat.reduceAdd,Nat.reduceLeDiff,Nat.reduceSub,Nat.reduceMul,Int.reduceToNat,List.size_toArray,tyF,MM,bu0,cbP6]
  refine callP_of (sIsValidPieceModel m h) ?_
  by_cases c:modelOk m
  · have hR:consR m=consL m:=if_pos c
    simp -dsimp -implicitDefEqProofs (disch:=first | omega | (simp only [lenr];try omega)) only [↓amPre,amAll,↓reduceIte,reduceCtorEq,Nat.reduceEqDiff,Nat.reduceBEq,Nat.reduceAdd,Nat.reduceLeDiff,Nat.reduceSub,Nat.reduceMul,Int.reduceToNat,List.size_toArray,tyF,MM,bu0,cbP6,c]
    refine callP_of (sl22Conserved m h c) ?_
    simp -dsimp -implicitDefEqProofs (disch:=first | omega | (simp only [lenr];try omega)) only [↓amPre,amAll,↓reduceIte,reduceCtorEq,Nat.reduceEqDiff,Nat.reduceBEq,Nat.reduceAdd,Nat.reduceLeDiff,Nat.reduceSub,Nat.reduceMul,Int.reduceToNat,List.size_toArray,tyF,MM,bu0,cbP6,hR]
  · have hR:consR m=[]:=if_neg c
    simp -dsimp -implicitDefEqProofs (disch:=first | omega | (simp only [lenr];try omega)) only [↓amPre,amAll,↓reduceIte,reduceCtorEq,Nat.reduceEqDiff,Nat.reduceBEq,Nat.reduceAdd,Nat.reduceLeDiff,Nat.reduceSub,Nat.reduceMul,Int.reduceToNat,List.size_toArray,tyF,MM,bu0,cbP6,c,hR]
theorem consR_le (m:Model):(consR m).length≤10:=by
  unfold consR;split
  · rename_i h;exact consL_le m h
  · simp
end Go.AM
set_option maxRecDepth 8000
namespace Go.AM
open Go.Proofs
def vioO (m:Model) (s:List Twist):Option Invar:=if psOk m.ks s then (consR m).find? (fun i=>invV m.ks s i != 0) else none
def vioR (o:Option Invar):AV:=match o with | some i=>.tup [i.av,.bl true] | none=>.tup [(⟨0,0⟩:Invar).av,.bl false]
theorem find_none_take {α:Type} (pr:α→Bool) (l:List α) (h:∀ x∈l,pr x=false):l.find? pr=none:=by
  rw [List.find?_eq_none];intro x hx;rw [h x hx];simp
theorem find_at {α:Type} (pr:α→Bool):∀ (l:List α) (d:α) (k:Nat),k<l.length→(∀ x∈l.take k,pr x=false)→pr (l.getD k d)=true→l.find? pr=some (l.getD k d)
  | a :: r,d,0,_,_,h=>by simp only [List.getD_cons_zero] at h ⊢;rw [List.find?_cons,h]
  | a :: r,d,k+1,hk,h1,h=>by
    have ha:=h1 a (by simp)
    rw [List.find?_cons,ha,List.getD_cons_succ]
    exact find_at pr r d k (by simpa using hk) (fun x hx=>h1 x (by simp [hx])) (by simpa using h)
theorem cons_ok {m:Model} {i:Invar} (h:i∈consR m):intOk i.s:=by
  unfold consR at h
  split at h
  · rename_i c
    have hl3:=c.1.1.2
    have hpw:=pow_small hl3
    have hi:=(List.mem_filter.1 h).1
    rw [allI,List.mem_append] at hi
    unfold intOk
    rcases hi with hi | hi
    · obtain ⟨n,hn,rfl⟩:=List.mem_map.1 hi
      have:=List.mem_range.1 hn
      simp only;omega
    · obtain ⟨n,hn,rfl⟩:=List.mem_map.1 hi
      have:=List.mem_range.1 hn
      simp only;omega
  · cases h
theorem iViolated (m:Model) (s:List Twist) (h:smallM m) (hs:smallT s):SpecAt Try.prog 24 [m.sl,tsl s] (vioR (vioO m s)):=by
  have hle:=consR_le m
  refine spec_of_awp (M:=MM) (np:=2) (fz:=true) mixed Try.func24 rfl rfl (by decide) rfl (Nat.le_refl _) (by decide +kernel) (.inr ⟨rfl,rfl⟩) trivial ?_
  simp -dsimp -implicitDefEqProofs (disch:=first | omega | (simp only [lenr];try omega)) only [↓amPre,amAll,↓reduceIte,reduceCtorEq,Nat.reduceEqDiff,Nat.reduceBEq,Nat.reduceAdd,Nat.reduceLeDiff,Nat.reduceSub,Nat.reduceMul,Int.reduceToNat,List.size_toArray,tyF,MM,bu0,cbP6]
  refine callP_of (iIsPieceState m.ks s h.1 hs.1 hs.2) ?_
  by_cases c:psOk m.ks s
  case neg =>
    have hR:vioO m s=none:=if_neg c
    simp -dsimp -implicitDefEqProofs (disch:=first | omega | (simp only [lenr];try omega)) only [↓amPre,amAll,↓reduceIte,reduceCtorEq,Nat.reduceEqDiff,Nat.reduceBEq,Nat.reduceAdd,Nat.reduceLeDiff,Nat.reduceSub,Nat.reduceMul,Int.reduceToNat,List.size_toArray,tyF,MM,bu0,cbP6,c,hR,vioR]
  have hR:vioO m s=(consR m).find? (fun i=>invV m.ks s i != 0):=if_pos c
  simp -dsimp -implicitDefEqProofs (disch:=first | omega | (simp only [lenr];try omega)) only [↓amPre,amAll,↓reduceIte,reduceCtorEq,Nat.reduceEqDiff,Nat.reduceBEq,Nat.reduceAdd,Nat.reduceLeDiff,Nat.reduceSub,Nat.reduceMul,Int.reduceToNat,List.size_toArray,tyF,MM,bu0,cbP6,c]
  refine callP_of (iConserved m h) ?_
  have hok:∀ i∈consR m,intOk i.s:=fun i hi=>cons_ok hi
  generalize hL:consR m=L at hle hR hok
  simp -dsimp -implicitDefEqProofs (disch:=first | omega | (simp only [lenr];try omega)) only [↓amPre,amAll,↓reduceIte,reduceCtorEq,Nat.reduceEqDiff,Nat.reduceBEq,Nat.reduceAdd,Nat.reduceLeDiff,Nat.reduceSub,Nat.reduceMul,Int.reduceToNat,List.size_toArray,tyF,MM,bu0,cbP6,c]
  refine awp_loop (fun k st=>k≤L.length∧st.fr 17=.i64 k∧st.fr 16=.i64 L.length∧st.fr 15=.ref 15 [] 2 0 L.length∧st.fr 2=.loc 2 [] 0 0∧st.fr 1=tsl s∧st.fr 4=.loc 4 [] 0 0∧st.fr 5=.bl false∧st.mem 15=some (vtr L)∧st.mem 2=some (.pt 3 (.agg [ksl m.ks,.st m.nm,tssl m.mv]))∧st.mem 4=some (.pt 2 (.agg [.i64 0,.i64 0]))∧∀ i∈L.take k,(invV m.ks s i != 0)=false) (L.length) ?_ ?_
  · simp -dsimp -implicitDefEqProofs (disch:=first | omega | (simp only [lenr];try omega)) only [↓amPre,amAll,↓reduceIte,reduceCtorEq,Nat.reduceEqDiff,Nat.reduceBEq,Nat.reduceAdd,Nat.reduceLeDiff,Nat.reduceSub,Nat.reduceMul,Int.reduceToNat,List.size_toArray,tyF,MM,bu0,cbP6]
    simp
  rintro k st _ ⟨hk,f17,f16,f15,f2,f1,f4,f5,m15,m2,m4,ek⟩
  by_cases hlt:k<L.length
  · have hmem:=mem_getD L k default hlt
    simp -dsimp -implicitDefEqProofs (disch:=first | omega | (simp only [lenr];try omega)) only [↓amPre,amAll,↓reduceIte,reduceCtorEq,Nat.reduceEqDiff,Nat.reduceBEq,Nat.reduceAdd,Nat.reduceLeDiff,Nat.reduceSub,Nat.reduceMul,Int.reduceToNat,List.size_toArray,tyF,MM,bu0,cbP6,f17,f16,f15,f2,f1,f4,f5,m15,m2,m4]
    refine callP_of (iInvariantValue m.ks s (L.getD k default) h.1 hs (hok _ hmem)) ?_
    by_cases w:invV m.ks s (L.getD k default)=0
    · simp -dsimp -implicitDefEqProofs (disch:=first | omega | (simp only [lenr];try omega)) only [↓amPre,amAll,↓reduceIte,reduceCtorEq,Nat.reduceEqDiff,Nat.reduceBEq,Nat.reduceAdd,Nat.reduceLeDiff,Nat.reduceSub,Nat.reduceMul,Int.reduceToNat,List.size_toArray,tyF,MM,bu0,cbP6,f17,f16,f15,f2,f1,f4,f5,m15,m2,m4,ne_false w]
      repeat' (first | omega | rfl | exact i64c (by omega) | exact vic (by omega) | exact (mem_take_succ (d:=default) hlt).2 ⟨ek,ne_false w⟩ | apply And.intro)
    · have hf:=find_at (fun i=>invV m.ks s i != 0) L default k hlt ek (ne_true w)
      simp -dsimp -implicitDefEqProofs (disch:=first | omega | (simp only [lenr];try omega)) only [↓amPre,amAll,↓reduceIte,reduceCtorEq,Nat.reduceEqDiff,Nat.reduceBEq,Nat.reduceAdd,Nat.reduceLeDiff,Nat.reduceSub,Nat.reduceMul,Int.reduceToNat,List.size_toArray,tyF,MM,bu0,cbP6,f17,f16,f15,f2,f1,f4,f5,m15,m2,m4,ne_true w,hR,hf,vioR]
  · have hke:k=L.length:=by omega
    subst hke
    rw [List.take_length] at ek
    have hf:=find_none_take (fun i=>invV m.ks s i != 0) L ek
    simp -dsimp -implicitDefEqProofs (disch:=first | omega | (simp only [lenr];try omega)) only [↓amPre,amAll,↓reduceIte,reduceCtorEq,Nat.reduceEqDiff,Nat.reduceBEq,Nat.reduceAdd,Nat.reduceLeDiff,Nat.reduceSub,Nat.reduceMul,Int.reduceToNat,List.size_toArray,tyF,MM,bu0,cbP6,f17,f16,f15,f2,f1,f4,f5,m15,m2,m4,hR,hf,vioR]
end Go.AM
namespace Go.AM
namespace Sg
/-! the sign by cycles is that of a product -/
def sw (x y z:Nat):Nat:=if z=x then y else if z=y then x else z
theorem sw_x (x y:Nat):sw x y x=y:=if_pos rfl
theorem sw_y (x y:Nat):sw x y y=x:=by unfold sw;split <;> simp_all
theorem sw_o {x y z:Nat} (h1:z≠x) (h2:z≠y):sw x y z=z:=by unfold sw;rw [if_neg h1,if_neg h2]
theorem sw_comm (x y z:Nat):sw x y z=sw y x z:=by
  by_cases h1:z=x
  · subst h1;rw [sw_x,sw_y]
  · by_cases h2:z=y
    · subst h2;rw [sw_x,sw_y]
    · rw [sw_o h1 h2,sw_o h2 h1]
theorem sw_sw (x y z:Nat):sw x y (sw x y z)=z:=by
  by_cases h1:z=x
  · subst h1;rw [sw_x,sw_y]
  · by_cases h2:z=y
    · subst h2;rw [sw_y,sw_x]
    · rw [sw_o h1 h2,sw_o h1 h2]
theorem sw_lt {n x y z:Nat} (hx:x<n) (hy:y<n) (hz:z<n):sw x y z<n:=by
  unfold sw;split
  · exact hy
  · split
    · exact hx
    · exact hz
theorem least_ex (p:Nat→Prop):(∃ k,p k)→∃ k,p k∧∀ i,i<k→¬ p i:=by
  have key:∀ k,p k→∃ k,p k∧∀ i,i<k→¬ p i:=by
    intro k
    induction k using Nat.strongRecOn with
    | ind k ih =>
      intro hk
      by_cases h:∃ i,i<k∧p i
      · obtain ⟨i,h1,h2⟩:=h
        exact ih i h1 h2
      · exact ⟨k,hk,fun i hi hp=>h ⟨i,hi,hp⟩⟩
  rintro ⟨k,hk⟩
  exact key k hk
section
variable {n:Nat} {f:Nat→Nat} {x y:Nat}
def sf (f:Nat→Nat) (x y:Nat):Nat→Nat:=fun z=>sw x y (f z)
theorem sf_perm (h:PermF n f) (hx:x<n) (hy:y<n):PermF n (sf f x y) :=
  ⟨fun z hz=>sw_lt hx hy (h.1 z hz),fun a b ha hb e=>h.2 a b ha hb (by
    have:=congrArg (sw x y) e
    unfold sf at this
    rwa [sw_sw,sw_sw] at this)⟩
theorem sf_comm (f:Nat→Nat) (x y:Nat):sf f x y=sf f y x:=funext fun z=>sw_comm x y (f z)
theorem sf_sf (f:Nat→Nat) (x y:Nat):sf (sf f x y) x y=f:=funext fun z=>sw_sw x y (f z)
theorem it_same {z:Nat}:∀ i,(∀ j,1≤j→j≤i→itN f j z≠x∧itN f j z≠y)→itN (sf f x y) i z=itN f i z
  | 0,_=>rfl
  | i+1,h=>by
    have ih:=it_same i (fun j h1 h2=>h j h1 (by omega))
    obtain ⟨a,b⟩:=h (i+1) (by omega) (Nat.le_refl _)
    show sf f x y (itN (sf f x y) i z)=itN f (i+1) z
    rw [ih]
    exact sw_o a b
theorem hit (h:PermF n f) {z:Nat} (hz:z<n) (hx:x∈orbN n f z):∃ j,1≤j∧itN f j z=x∧∀ i,1≤i→i<j→itN f i z≠x:=by
  have hex:∃ k,1≤k∧itN f k z=x:=by
    obtain ⟨k,hk⟩:=(h.mem_orb z hz x).1 hx
    rcases Nat.eq_zero_or_pos k with q | q
    · subst q
      obtain ⟨m,m1,_,m3⟩:=h.back z hz
      exact ⟨m,m1,by rw [m3];exact hk⟩
    · exact ⟨k,q,hk⟩
  obtain ⟨j,⟨j1,j2⟩,j3⟩:=least_ex _ hex
  exact ⟨j,j1,j2,fun i h1 h2 e=>j3 i h2 ⟨h1,e⟩⟩
theorem m1 (h:PermF n f) (hx:x<n) (hy:y<n) (hne:y∉orbN n f x) {z:Nat} (hz:z<n) (hzx:x∈orbN n f z):y∈orbN n (sf f x y) z:=by
  obtain ⟨j,j1,j2,j3⟩:=hit h hz hzx
  obtain ⟨i,rfl⟩:∃ i,j=i+1:=⟨j - 1,by omega⟩
  have hnoy:∀ k,itN f k z≠y:=fun k e=>hne (h.orb_trans x z y hx (h.orb_symm z hz x hzx) ((h.mem_orb z hz y).2 ⟨k,e⟩))
  have hs:=it_same (f:=f) (x:=x) (y:=y) (z:=z) i (fun k k1 k2=>⟨j3 k k1 (by omega),hnoy k⟩)
  refine ((sf_perm h hx hy).mem_orb z hz y).2 ⟨i+1,?_⟩
  show sf f x y (itN (sf f x y) i z)=y
  rw [hs]
  show sw x y (itN f (i+1) z)=y
  rw [j2,sw_x]
theorem m2 (h:PermF n f) (hx:x<n) (hy:y<n) (hne:y∉orbN n f x) {z:Nat} (hz:z<n) (hzy:y∈orbN n f z):x∈orbN n (sf f x y) z:=by
  have hne':x∉orbN n f y:=fun q=>hne (h.orb_symm y hy x q)
  rw [sf_comm]
  exact m1 h hy hx hne' hz hzy
def inA (n:Nat) (f:Nat→Nat) (x y z:Nat):Prop:=x∈orbN n f z∨y∈orbN n f z
theorem m3 (h:PermF n f) {z:Nat} (hz:z<n) (hA:¬ inA n f x y z) (k:Nat):itN (sf f x y) k z=itN f k z :=
  it_same k fun j _ _=>⟨fun e=>hA (.inl ((h.mem_orb z hz x).2 ⟨j,e⟩)),fun e=>hA (.inr ((h.mem_orb z hz y).2 ⟨j,e⟩))⟩
theorem min_out (h:PermF n f) (hx:x<n) (hy:y<n) {z:Nat} (hz:z<n) (hA:¬ inA n f x y z):minN n (sf f x y) z=minN n f z:=by
  rw [Bool.eq_iff_iff,minN_iff,minN_iff]
  have e:∀ v,v∈orbN n (sf f x y) z↔v∈orbN n f z:=fun v=>by
    rw [(sf_perm h hx hy).mem_orb z hz,h.mem_orb z hz]
    exact ⟨fun ⟨k,q⟩=>⟨k,by rw [← m3 h hz hA];exact q⟩,fun ⟨k,q⟩=>⟨k,by rw [m3 h hz hA];exact q⟩⟩
  exact ⟨fun q v hv=>q v ((e v).2 hv),fun q v hv=>q v ((e v).1 hv)⟩
theorem A_all (h:PermF n f) (hx:x<n) (hy:y<n) (hne:y∉orbN n f x) {z v:Nat} (hz:z<n) (hv:v<n) (hA:inA n f x y z) (hB:inA n f x y v):v∈orbN n (sf f x y) z:=by
  have hp:=sf_perm h hx hy
  have hxy:=m1 h hx hy hne hx (h.orb_self x hx)
  have key:∀ u,u<n→inA n f x y u→y∈orbN n (sf f x y) u:=fun u hu q=>q.elim (m1 h hx hy hne hu) fun q=>hp.orb_trans u x y hu (m2 h hx hy hne hu q) hxy
  exact hp.orb_trans z y v hz (key z hz hA) (hp.orb_symm v hv y (key v hv hB))
theorem A_step (h:PermF n f) (hx:x<n) (hy:y<n) {z:Nat} (hz:z<n) (hA:inA n f x y z):inA n f x y (sf f x y z):=by
  by_cases e1:f z=x
  · have:sf f x y z=y:=by show sw x y (f z)=y;rw [e1,sw_x]
    rw [this];exact .inr (h.orb_self y hy)
  · by_cases e2:f z=y
    · have:sf f x y z=x:=by show sw x y (f z)=x;rw [e2,sw_y]
      rw [this];exact .inl (h.orb_self x hx)
    · have:sf f x y z=f z:=sw_o e1 e2
      rw [this]
      have hfz:f z∈orbN n f z:=(h.mem_orb z hz _).2 ⟨1,rfl⟩
      have hb:=h.orb_symm z hz _ hfz
      have hl:=h.1 z hz
      exact hA.elim (fun q=>.inl (h.orb_trans _ z x hl hb q)) (fun q=>.inr (h.orb_trans _ z y hl hb q))
theorem A_it (h:PermF n f) (hx:x<n) (hy:y<n) {z:Nat} (hz:z<n) (hA:inA n f x y z):∀ k,inA n f x y (itN (sf f x y) k z)
  | 0=>hA
  | k+1=>A_step h hx hy ((sf_perm h hx hy).itlt k z hz) (A_it h hx hy hz hA k)
def cN (n:Nat) (f:Nat→Nat):Nat:=((List.range n).filter (minN n f)).length
theorem cnt_one {p q:Nat→Bool} {M:Nat} (hp:p M=true) (hq:q M=false):∀ m,(∀ z,z<m→z≠M→p z=q z)→((List.range m).filter p).length=((List.range m).filter q).length+if M<m then 1 else 0
  | 0,_=>by simp
  | m+1,h=>by
    have ih:=cnt_one hp hq m (fun z hz hn=>h z (by omega) hn)
    rw [List.range_succ,List.filter_append,List.filter_append,List.length_append,List.length_append,ih]
    by_cases c:m=M
    · subst c
      simp [hp,hq]
    · have:=h m (by omega) c
      have e:([m].filter p).length=([m].filter q).length:=by simp [List.filter,this]
      rw [e]
      by_cases c2:M<m
      · rw [if_pos c2,if_pos (by omega)];omega
      · rw [if_neg c2,if_neg (by omega)];omega
theorem merge1 (h:PermF n f) (hx:x<n) (hy:y<n) (hne:y∉orbN n f x) {a b:Nat} (ha:minN n f a=true) (hax:x∈orbN n f a) (hb:minN n f b=true) (hby:y∈orbN n f b) (han:a<n) (hbn:b<n) (hab:a<b):cN n f=cN n (sf f x y)+1:=by
  have hmin:=fun z=>minN_iff (n:=n) (f:=f) z
  have hA:inA n f x y a:=.inl hax
  have hB:inA n f x y b:=.inr hby
  have inx:∀ z,z<n→x∈orbN n f z→z∈orbN n f a:=fun z hz q=>h.orb_trans a x z han hax (h.orb_symm z hz x q)
  have iny:∀ z,z<n→y∈orbN n f z→z∈orbN n f b:=fun z hz q=>h.orb_trans b y z hbn hby (h.orb_symm z hz y q)
  have hp:=sf_perm h hx hy
  have hbF:minN n (sf f x y) b=false:=by
    cases q:minN n (sf f x y) b with
    | false=>rfl
    | true =>
      have:=(minN_iff b).1 q a (A_all h hx hy hne hbn han hB hA)
      omega
  have hrest:∀ z,z<n→z≠b→minN n f z=minN n (sf f x y) z:=by
    intro z hz hzb
    by_cases c:inA n f x y z
    · rw [Bool.eq_iff_iff]
      constructor
      · intro q
        have hza:z=a:=by
          rcases c with c | c
          · have h1:=(hmin z).1 q a (h.orb_symm a han z (inx z hz c))
            have h2:=(hmin a).1 ha z (inx z hz c)
            omega
          · have h1:=(hmin z).1 q b (h.orb_symm b hbn z (iny z hz c))
            have h2:=(hmin b).1 hb z (iny z hz c)
            omega
        rw [hza,minN_iff]
        intro v hv
        obtain ⟨k,hk⟩:=(hp.mem_orb a han v).1 hv
        have hvn:=hp.orb_lt a han v hv
        have:=A_it h hx hy han hA k
        rw [hk] at this
        rcases this with r | r
        · exact (hmin a).1 ha v (inx v hvn r)
        · have:=(hmin b).1 hb v (iny v hvn r);omega
      · intro q
        have h1:=(minN_iff z).1 q a (A_all h hx hy hne hz han c hA)
        have hza:z=a:=by
          rcases c with c | c
          · have h2:=(hmin a).1 ha z (inx z hz c);omega
          · have h2:=(hmin b).1 hb z (iny z hz c);omega
        rw [hza];exact ha
    · exact (min_out h hx hy hz c).symm
  have:=cnt_one hb hbF n hrest
  rw [if_pos hbn] at this
  exact this
theorem merge (h:PermF n f) (hx:x<n) (hy:y<n) (hne:y∉orbN n f x):cN n f=cN n (sf f x y)+1:=by
  obtain ⟨a,a1,a2,a3⟩:=h.minrep x hx
  obtain ⟨b,b1,b2,b3⟩:=h.minrep y hy
  have han:a<n:=by omega
  have hbn:b<n:=by omega
  rcases Nat.lt_trichotomy a b with q | q | q
  · exact merge1 h hx hy hne a2 a3 b2 b3 han hbn q
  · subst q
    exact absurd (h.orb_trans x a y hx (h.orb_symm a han x a3) b3) hne
  · rw [sf_comm]
    exact merge1 h hy hx (fun r=>hne (h.orb_symm y hy x r)) b2 b3 a2 a3 hbn han q
theorem split (h:PermF n f) (hx:x<n) (hy:y<n) (hxy:x≠y) (hin:y∈orbN n f x):y∉orbN n (sf f x y) x:=by
  obtain ⟨j,j1,j2,j3⟩:=hit h hx hin
  have hnox:∀ k,1≤k→k≤j→itN f k x≠x:=by
    intro k k1 k2 e
    -- then the orbit returns before it meets y
    have hper:∀ m,itN f (k+m) x=itN f m x:=fun m=>by rw [itN_add,e]
    rcases Nat.lt_or_ge k j with q | q
    · have:=hper (j - k)
      rw [show k+(j - k)=j by omega,j2] at this
      rcases Nat.eq_zero_or_pos (j - k) with r | r
      · omega
      · exact j3 (j - k) r (by omega) this.symm
    · have:k=j:=by omega
      rw [this,j2] at e
      exact hxy e.symm
  have hsame:=fun i (hi:i<j)=>it_same (f:=f) (x:=x) (y:=y) (z:=x) i (fun k k1 k2=>⟨hnox k k1 (by omega),j3 k k1 (by omega)⟩)
  have hback:itN (sf f x y) j x=x:=by
    obtain ⟨i,rfl⟩:∃ i,j=i+1:=⟨j - 1,by omega⟩
    show sf f x y (itN (sf f x y) i x)=x
    rw [hsame i (by omega)]
    show sw x y (itN f (i+1) x)=x
    rw [j2,sw_y]
  intro q
  obtain ⟨k,hk⟩:=((sf_perm h hx hy).mem_orb x hx y).1 q
  have hmod:∀ m r,itN (sf f x y) (r+m*j) x=itN (sf f x y) r x:=by
    intro m
    induction m with
    | zero=>intro r;simp
    | succ m ih=>intro r;rw [Nat.succ_mul,show r+(m*j+j)=j+(r+m*j) by omega,itN_add,hback,ih]
  have hk2:itN (sf f x y) (k % j) x=y:=by
    have:=hmod (k / j) (k % j)
    rw [show k % j+k / j*j=k by rw [Nat.mul_comm];exact Nat.mod_add_div k j,hk] at this
    exact this.symm
  have hlt:=Nat.mod_lt k (show j > 0 by omega)
  rw [hsame _ hlt] at hk2
  rcases Nat.eq_zero_or_pos (k % j) with r | r
  · rw [r] at hk2;exact hxy hk2
  · exact j3 _ r hlt hk2
def par (n:Nat) (f:Nat→Nat):Nat:=(n - cN n f) % 2
theorem cN_le (n:Nat) (f:Nat→Nat):cN n f≤n:=by
  have:=List.length_filter_le (minN n f) (List.range n)
  simpa [cN] using this
theorem par_sw (h:PermF n f) (hx:x<n) (hy:y<n) (hxy:x≠y):par n (sf f x y)=(par n f+1) % 2:=by
  have l1:=cN_le n f
  have l2:=cN_le n (sf f x y)
  by_cases c:y∈orbN n f x
  · have hne:=split h hx hy hxy c
    have:=merge (sf_perm h hx hy) hx hy hne
    rw [sf_sf] at this
    unfold par;omega
  · have:=merge h hx hy c
    unfold par;omega
theorem it_congr {g:Nat→Nat} (h:PermF n f) (e:∀ z,z<n→f z=g z) {z:Nat} (hz:z<n):∀ k,itN f k z=itN g k z
  | 0=>rfl
  | k+1=>by
    show f (itN f k z)=g (itN g k z)
    rw [← it_congr h e hz k,e _ (h.itlt k z hz)]
theorem perm_congr {g:Nat→Nat} (h:PermF n f) (e:∀ z,z<n→f z=g z):PermF n g :=
  ⟨fun z hz=>by rw [← e z hz];exact h.1 z hz,fun a b ha hb q=>h.2 a b ha hb (by rw [e a ha,e b hb];exact q)⟩
theorem par_congr {g:Nat→Nat} (h:PermF n f) (e:∀ z,z<n→f z=g z):par n f=par n g:=by
  have hg:=perm_congr h e
  have:cN n f=cN n g:=by
    unfold cN
    congr 1
    refine List.filter_congr fun z hz=>?_
    have hz:=List.mem_range.1 hz
    rw [Bool.eq_iff_iff,minN_iff,minN_iff]
    have ee:∀ v,v∈orbN n f z↔v∈orbN n g z:=fun v=>by
      rw [h.mem_orb z hz,hg.mem_orb z hz]
      exact ⟨fun ⟨k,q⟩=>⟨k,by rw [← it_congr h e hz];exact q⟩,fun ⟨k,q⟩=>⟨k,by rw [it_congr h e hz];exact q⟩⟩
    exact ⟨fun q v hv=>q v ((ee v).2 hv),fun q v hv=>q v ((ee v).1 hv)⟩
  unfold par;rw [this]
theorem id_perm (n:Nat):PermF n (fun z=>z):=⟨fun _ h=>h,fun _ _ _ _ e=>e⟩
theorem par_id (n:Nat):par n (fun z=>z)=0:=by
  have:cN n (fun z=>z)=n:=by
    unfold cN
    have:(List.range n).filter (minN n fun z=>z)=List.range n:=by
      rw [List.filter_eq_self]
      intro z hz
      have hz:=List.mem_range.1 hz
      rw [minN_iff]
      intro v hv
      obtain ⟨k,hk⟩:=((id_perm n).mem_orb z hz v).1 hv
      have hit:∀ k,itN (fun z=>z) k z=z:=fun k=>by
        induction k with
        | zero=>rfl
        | succ k ih=>exact ih
      rw [hit] at hk
      omega
    rw [this,List.length_range]
  unfold par;rw [this];simp
def nfx (n:Nat) (g:Nat→Nat):Nat:=((List.range n).filter fun z=>!(g z == z)).length
theorem nfx_lt {g g':Nat→Nat} {z:Nat} (hz:z<n) (h1:g z≠z) (h2:g' z=z) (h3:∀ u,u<n→g u=u→g' u=u):nfx n g'<nfx n g:=by
  have key:∀ m,((List.range m).filter fun z=>!(g' z == z)).length+(if z<m then 1 else 0)≤((List.range m).filter fun z=>!(g z == z)).length∨n<m:=by
    intro m
    induction m with
    | zero=>left;simp
    | succ m ih =>
      rcases ih with ih | ih
      · rcases Nat.lt_or_ge m n with q | q
        · left
          rw [List.range_succ,List.filter_append,List.filter_append,List.length_append,List.length_append]
          by_cases c:m=z
          · subst c
            have e1:([m].filter fun z=>!(g' z == z)).length=0:=by simp [h2]
            have e2:([m].filter fun z=>!(g z == z)).length=1:=by simp [h1]
            rw [e1,e2,if_pos (by omega)]
            rw [if_neg (by omega)] at ih
            omega
          · have e:([m].filter fun z=>!(g' z == z)).length≤([m].filter fun z=>!(g z == z)).length:=by
              by_cases c2:g m=m
              · simp [c2,h3 m q c2]
              · simp only [List.filter_cons,List.filter_nil]
                have:(!(g m == m))=true:=by simpa using c2
                rw [this]
                split <;> simp
            by_cases c2:z<m
            · rw [if_pos c2] at ih;rw [if_pos (by omega)];omega
            · rw [if_neg c2] at ih;rw [if_neg (by omega)];omega
        · right;omega
      · right;omega
  rcases key n with q | q
  · rw [if_pos hz] at q
    unfold nfx;omega
  · omega
theorem par_mul:∀ (N:Nat) (g:Nat→Nat),nfx n g≤N→PermF n g→∀ f,PermF n f→par n (fun z=>g (f z))=(par n g+par n f) % 2:=by
  intro N
  induction N with
  | zero =>
    intro g hg hp f hf
    have hid:∀ z,z<n→g z=z:=fun z hz=>by
      by_cases c:g z=z
      · exact c
      · have hm:z∈(List.range n).filter fun z=>!(g z == z):=List.mem_filter.2 ⟨List.mem_range.2 hz,by simpa using c⟩
        have:(List.range n).filter (fun z=>!(g z == z))=[]:=List.length_eq_zero_iff.1 (Nat.le_zero.1 hg)
        rw [this] at hm;cases hm
    have e1:=par_congr hf (g:=fun z=>g (f z)) (fun z hz=>(hid _ (hf.1 z hz)).symm)
    have e2:=par_congr hp (g:=fun z=>z) hid
    rw [par_id] at e2
    rw [← e1,e2]
    have:par n f<2:=Nat.mod_lt _ (by omega)
    omega
  | succ N ih =>
    intro g hg hp f hf
    by_cases c:∃ z,z<n∧g z≠z
    · obtain ⟨z,hz,hzg⟩:=c
      have hw:=hp.1 z hz
      have hp':=sf_perm hp hz hw (x:=z) (y:=g z)
      have hfix:sf g z (g z) z=z:=sw_y z (g z)
      have hlt:=nfx_lt (g:=g) (g':=sf g z (g z)) hz hzg hfix (fun u hu e=>by
        show sw z (g z) (g u)=u
        rw [e]
        refine sw_o (fun q=>hzg (by rw [← q];exact e)) (fun q=>hzg ?_)
        have:g u=g z:=by rw [e];exact q
        have:=hp.2 u z hu hz this
        rw [← this];exact e)
      have i1:=ih (sf g z (g z)) (by omega) hp' f hf
      have i2:=par_sw hp hz hw (Ne.symm hzg)
      have hc:PermF n fun z=>g (f z):=⟨fun a ha=>hp.1 _ (hf.1 a ha),fun a b ha hb e=>hf.2 a b ha hb (hp.2 _ _ (hf.1 a ha) (hf.1 b hb) e)⟩
      have i3:=par_sw hc hz hw (Ne.symm hzg)
      have e:(fun u=>sf g z (g z) (f u))=sf (fun u=>g (f u)) z (g z):=rfl
      rw [e] at i1
      have b1:par n g<2:=Nat.mod_lt _ (by omega)
      have b2:par n (fun z=>g (f z))<2:=Nat.mod_lt _ (by omega)
      omega
    · exact ih g (by
        have:nfx n g=0:=by
          unfold nfx
          rw [List.length_eq_zero_iff,List.filter_eq_nil_iff]
          intro z hz
          have:=List.mem_range.1 hz
          by_cases c2:g z=z
          · simp [c2]
          · exact absurd ⟨z,this,c2⟩ c
        omega) hp f hf
end
theorem sgn_par (p:List Int):sgnI p=if par p.length (fOf p)=1 then -1 else 1:=by
  have:(cycI p).length=cN p.length (fOf p):=by unfold cycI cN;rw [List.length_map];rfl
  unfold sgnI par
  rw [this]
end Sg
end Go.AM
namespace Go.AM
/-! the permutation of a composite,and of an inverse,of piece states -/
theorem isPerm_of {l:List Int} (h1:1≤l.length∧l.length≤20) (hr:∀ i,i<l.length→0≤l.getD i 0∧l.getD i 0<l.length) (inj:∀ i j,i<l.length→j<l.length→l.getD i 0=l.getD j 0→i=j):isPerm l:=by
  refine ⟨h1,fun x hx=>?_,?_⟩
  · obtain ⟨i,hi,rfl⟩:=List.getElem_of_mem hx
    have:=hr i hi
    rwa [getD_eq _ _ _ hi] at this
  · rw [List.Nodup,List.pairwise_iff_getElem]
    intro i j hi hj hij e
    have:=inj i j hi hj (by rw [getD_eq _ _ _ hi,getD_eq _ _ _ hj];exact e)
    omega
theorem compI_perm {p q:List Int} (hp:isPerm p) (hq:isPerm q) (hl:p.length=q.length):isPerm (compI p q):=by
  refine isPerm_of (by rw [compI_len];exact hp.1) (fun i hi=>?_) (fun i j hi hj e=>?_)
  · rw [compI_len] at hi ⊢
    rw [compI_get _ _ _ hi]
    have h1:=perm_get hp hi
    have h2:=perm_get hq (show (p.getD i 0).toNat<q.length by omega)
    omega
  · rw [compI_len] at hi hj
    rw [compI_get _ _ _ hi,compI_get _ _ _ hj] at e
    have h1:=perm_get hp hi
    have h2:=perm_get hp hj
    have:=perm_inj hq (by omega) (by omega) e
    exact perm_inj hp hi hj (by omega)
theorem tmod_in {a o:Int} (h:0≤a) (ho:0<o):0≤a.tmod o∧a.tmod o<o:=⟨Int.tmod_nonneg _ h,Int.tmod_lt_of_pos _ ho⟩
theorem comp_ok {ks:List Kind} {a b:List Twist} (pa:psOk ks a) (pb:psOk ks b):psOk ks (compS ks a b):=by
  refine ⟨pa.1,compS_len ..,fun n hn=>?_⟩
  rw [compS,range_map_get _ _ _ _ hn]
  have ta:=tw_get pa hn
  have tb:=tw_get pb hn
  have hk:=pa.1.2.1 _ (mem_getD ks n default hn)
  obtain ⟨c,o,hc,ho,la,la',c1,c2,o1,o2⟩:=twOk_facts ta hk
  obtain ⟨c',o',hc',ho',lb,lb',_⟩:=twOk_facts tb hk
  refine ⟨by simp only [compT,compI_len];omega,by simp only [compT,range_map_len];omega,compI_perm ta.2.2.1 tb.2.2.1 (by omega),fun x hx=>?_⟩
  obtain ⟨i,hi,rfl⟩:=List.mem_map.1 hx
  rw [List.mem_range] at hi
  have h1:=by_get ta (show i<(a.getD n default).by'.length by omega)
  have h2:=to_get ta hi
  have h3:=by_get tb (show ((a.getD n default).to.getD i 0).toNat<(b.getD n default).by'.length by omega)
  exact tmod_in (by omega) (by omega)
def bas (ks:List Kind) (n:Nat):Nat:=(facets (ks.take n)).toNat
end Go.AM
namespace Go.AM
/-! puzzles,plainly -/
def sizeI (l:List (List Int)):Nat:=match l with | []=>0 | a :: r=>1+a.length+sizeI r
structure Puzz where
  n:Int
  nm:List UInt8
  mv:List (List Int)
  deriving DecidableEq
def Puzz.sl (p:Puzz):AV:=.agg [.i64 p.n,.st p.nm,ssl p.mv]
def Puzz.tr (p:Puzz):AV:=.agg [.i64 p.n,.st p.nm,sst p.mv]
theorem cbP9:type_of% (And.intro (cbP6) (And.intro (@Puzz.sl.eq_1) (@Puzz.tr.eq_1))):=(And.intro (cbP6) (And.intro (@Puzz.sl.eq_1) (@Puzz.tr.eq_1)))
end Go.AM
namespace Go.AM
def moveOk (n:Int) (s:List Int):Prop:=(s.length:Int)=n∧isPerm s
instance (n:Int) (s:List Int):Decidable (moveOk n s):=by unfold moveOk;infer_instance
def genOk (n:Int) (mv:List (List Int)):Prop:=(1≤n∧n≤20)∧mv.length≤8∧∀ s∈mv,moveOk n s
instance (n:Int) (mv:List (List Int)):Decidable (genOk n mv):=by unfold genOk;infer_instance
def puzzOk (p:Puzz):Prop:=genOk p.n p.mv∧namesOk p.nm∧p.nm.length=p.mv.length
instance (p:Puzz):Decidable (puzzOk p):=by unfold puzzOk;infer_instance
def letOk (n:Int) (x:Int):Prop:=x≠0∧(-8≤x∧x≤8)∧x≤n∧-x≤n
instance (n x:Int):Decidable (letOk n x):=by unfold letOk;infer_instance
def wordOk (n:Int) (w:List Int):Prop:=w.length≤200∧∀ x∈w,letOk n x
instance (n:Int) (w:List Int):Decidable (wordOk n w):=by unfold wordOk;infer_instance
def nameAt (l:List UInt8) (i:Nat):Prop:=(65≤(l.getD i 0).toNat∧(l.getD i 0).toNat≤90)∧∀ y∈l.take i,y≠l.getD i 0
instance (l:List UInt8) (i:Nat):Decidable (nameAt l i):=by unfold nameAt;infer_instance
def sameI (a b:Int):Prop:=a=b∨a = -b
instance (a b:Int):Decidable (sameI a b):=by unfold sameI;infer_instance
def genI (x:Int):Int:=if x<0 then -x - 1 else x - 1
def runsK (w:List Int):Nat→List (List Int)
  | 0=>[]
  | k+1=>if 0<k∧sameI (w.getD (k - 1) 0) (w.getD k 0) then (runsK w k).set ((runsK w k).length - 1) ((runsK w k).getD ((runsK w k).length - 1) default++[w.getD k 0]) else runsK w k++[[w.getD k 0]]
def scrOk (p:Puzz) (w:List Int):Prop:=puzzOk p∧wordOk p.mv.length w∧(p.mv.length=1∨∀ i,0<i→i<w.length→¬ sameI (w.getD (i - 1) 0) (w.getD i 0))
instance (p:Puzz) (w:List Int):Decidable (scrOk p w):=by
  unfold scrOk
  have:Decidable (∀ i,0<i→i<w.length→¬ sameI (w.getD (i - 1) 0) (w.getD i 0)):=decidable_of_iff (∀ i,i<w.length→0<i→¬ sameI (w.getD (i - 1) 0) (w.getD i 0)) ⟨fun h i a b=>h i b a,fun h i a b=>h i b a⟩
  infer_instance
end Go.AM
namespace Go.AM
/-! a sort of the library's,as its own contract tells it,in this machine's words -/
def srt (l:List Int):List Int:=l.mergeSort fun x y=>decide (x≤y)
end Go.AM
namespace Go.AM
/-! the effect of a word;the points that it moves -/
def letP (mv:List (List Int)) (x:Int):List Int:=if 0<x then mv.getD (x - 1).toNat default else invI (mv.getD (-x - 1).toNat default)
def effK (n:Int) (mv:List (List Int)) (w:List Int):Nat→List Int
  | 0=>runI 0 n.toNat
  | k+1=>compI (effK n mv w k) (letP mv (w.getD k 0))
theorem run_perm {n:Nat} (h1:1≤n) (h2:n≤20):isPerm (runI 0 n):=by
  refine isPerm_of (by rw [runI_len];omega) (fun i hi=>?_) (fun i j hi hj e=>?_)
  · rw [runI_len] at hi ⊢
    rw [runI_get 0 n i hi];omega
  · rw [runI_len] at hi hj
    rw [runI_get 0 n i hi,runI_get 0 n j hj] at e;omega
def movL (p:List Int) (k:Nat):List Int:=((List.range k).filter fun i=>p.getD i 0 != (i:Int)).map fun (i:Nat)=>(i:Int)
def imgL (p:List Int) (k:Nat):List Int:=((List.range k).filter fun i=>p.getD i 0 != (i:Int)).map fun i=>p.getD i 0
end Go.AM
namespace Go.AM
/-! the solved state,and what a word of moves does to it -/
theorem solved_at {ks:List Kind} {i:Nat} (hi:i<ks.length):(ks.map solvedK).getD i default=solvedK (ks.getD i default):=by
  simp [List.getD,hi]
theorem solved_ok {ks:List Kind} (h:kindsOk ks):psOk ks (ks.map solvedK):=by
  refine ⟨h,by simp,fun i hi=>?_⟩
  rw [solved_at hi]
  obtain ⟨⟨c1,c2⟩,o1,o2⟩:=h.2.1 _ (mem_getD ks i default hi)
  generalize ks.getD i default=k at *
  refine ⟨by simp only [solvedK,runI_len];omega,by simp only [solvedK,List.length_replicate];omega,run_perm (by omega) (by omega),fun x hx=>?_⟩
  have:=List.eq_of_mem_replicate hx
  omega
end Go.AM
set_option maxRecDepth 8000
namespace Go.AM
namespace Ih
open Go.Proofs
open Sg (par par_mul par_congr par_id sgn_par nfx)
theorem sumI_perm {a b:List Int} (h:a.Perm b):sumI a=sumI b:=by
  induction h with
  | nil=>rfl
  | cons x _ ih=>rw [sumI,sumI,ih]
  | swap x y l=>rw [sumI,sumI,sumI,sumI];omega
  | trans _ _ h1 h2=>rw [h1,h2]
theorem sumI_add (f g:Nat→Int):∀ l:List Nat,sumI (l.map fun i=>f i+g i)=sumI (l.map f)+sumI (l.map g)
  | []=>rfl
  | x :: r=>by rw [List.map_cons,List.map_cons,List.map_cons,sumI,sumI,sumI,sumI_add f g r];omega
theorem sumI_emod (o:Int) (f:Nat→Int):∀ l:List Nat,sumI (l.map fun i=>f i % o) % o=sumI (l.map f) % o
  | []=>rfl
  | x :: r=>by
    rw [List.map_cons,List.map_cons,sumI,sumI,Int.add_emod,sumI_emod o f r,Int.emod_emod_of_dvd _ (Int.dvd_refl o),← Int.add_emod]
theorem rng_self (l:List Int):(List.range l.length).map (fun i=>l.getD i 0)=l:=by
  refine ext_getD 0 (by simp) fun i hi=>?_
  have hi':i<l.length:=by simpa using hi
  rw [getD_eq _ _ _ hi,List.getElem_map,List.getElem_range]
theorem sumI_nonneg:∀ l:List Int,(∀ x∈l,0≤x)→0≤sumI l
  | [],_=>Int.le_refl _
  | x :: r,h=>by
    have:=h x (List.mem_cons_self ..)
    have:=sumI_nonneg r (fun y hy=>h y (List.mem_cons_of_mem _ hy))
    rw [sumI];omega
theorem sum_reix {p b:List Int} (hp:isPerm p) (hl:p.length=b.length):sumI ((List.range p.length).map fun i=>b.getD (p.getD i 0).toNat 0)=sumI b:=by
  have hperm:p.Perm ((List.range p.length).map fun (i:Nat)=>(i:Int)):=by
    refine (List.perm_ext_iff_of_nodup hp.2.2 ?_).2 fun x=>⟨fun hx=>?_,fun hx=>?_⟩
    · refine List.pairwise_map.2 (List.nodup_range.imp fun h e=>h (by omega))
    · have:=hp.2.1 x hx
      exact List.mem_map.2 ⟨x.toNat,List.mem_range.2 (by omega),by omega⟩
    · obtain ⟨j,hj,rfl⟩:=List.mem_map.1 hx
      obtain ⟨i,hi,e⟩:=perm_surj hp j (List.mem_range.1 hj)
      have hm:=mem_getD p i 0 hi
      have:=hp.2.1 _ hm
      rw [show ((j:Nat):Int)=p.getD i 0 by omega]
      exact hm
  have e1:((List.range p.length).map fun i=>b.getD (p.getD i 0).toNat 0)=p.map fun x=>b.getD x.toNat 0:=by
    conv=>rhs;rw [← rng_self p,List.map_map]
    rfl
  rw [e1,sumI_perm (hperm.map fun x=>b.getD x.toNat 0),List.map_map]
  have e2:((List.range p.length).map ((fun x:Int=>b.getD x.toNat 0)∘fun (i:Nat)=>(i:Int)))=(List.range b.length).map fun i=>b.getD i 0:=by
    rw [hl]
    refine List.map_congr_left fun i _=>?_
    show b.getD ((i:Int)).toNat 0=_
    rw [Int.toNat_natCast]
  rw [e2,rng_self]
theorem twS_comp {ks:List Kind} {a b:List Twist} (pa:psOk ks a) (pb:psOk ks b) {n:Nat} (hn:n<ks.length) (ha:twS (ks.getD n default) (a.getD n default)=0) (hb:twS (ks.getD n default) (b.getD n default)=0) :
    twS (ks.getD n default) ((compS ks a b).getD n default)=0:=by
  have hk:=pa.1.2.1 _ (mem_getD ks n default hn)
  have pc:=comp_ok pa pb
  have ta:=tw_get pa hn
  have tb:=tw_get pb hn
  have tc:=tw_get pc hn
  have e:(compS ks a b).getD n default=compT (ks.getD n default).o (a.getD n default) (b.getD n default):=by rw [compS,range_map_get _ _ _ _ hn]
  rw [e] at tc ⊢
  generalize ks.getD n default=k at *
  generalize a.getD n default=s at *
  generalize b.getD n default=t at *
  obtain ⟨c,o,hc,ho,la,la',c1,c2,o1,o2⟩:=twOk_facts ta hk
  obtain ⟨c',o',hc',ho',lb,lb',_⟩:=twOk_facts tb hk
  have na:=sumI_nonneg s.by' (fun x hx=>(ta.2.2.2 x hx).1)
  have nb:=sumI_nonneg t.by' (fun x hx=>(tb.2.2.2 x hx).1)
  have nc:=sumI_nonneg (compT k.o s t).by' (fun x hx=>(tc.2.2.2 x hx).1)
  unfold twS at *
  rw [Int.tmod_eq_emod_of_nonneg na] at ha
  rw [Int.tmod_eq_emod_of_nonneg nb] at hb
  rw [Int.tmod_eq_emod_of_nonneg nc]
  have eb:(compT k.o s t).by'=(List.range s.to.length).map fun i=>(s.by'.getD i 0+t.by'.getD (s.to.getD i 0).toNat 0) % k.o:=by
    refine List.map_congr_left fun i hi=>?_
    have hi:=List.mem_range.1 hi
    have h1:=by_get ta (show i<s.by'.length by omega)
    have h2:=to_get ta hi
    have h3:=by_get tb (show (s.to.getD i 0).toNat<t.by'.length by omega)
    show Int.tmod _ _=_
    exact Int.tmod_eq_emod_of_nonneg (by omega)
  have e1:sumI ((List.range s.to.length).map fun i=>s.by'.getD i 0)=sumI s.by':=by
    rw [show s.to.length=s.by'.length by omega,rng_self]
  have e2:=sum_reix (p:=s.to) (b:=t.by') ta.2.2.1 (by omega)
  rw [eb,sumI_emod,sumI_add,e1,e2,Int.add_emod,ha,hb]
  rfl
theorem sgn_neg (p:List Int):sgnI p<0↔par p.length (fOf p)=1:=by
  rw [sgn_par]
  split
  · rename_i h;exact ⟨fun _=>h,fun _=>by decide⟩
  · rename_i h;exact ⟨fun q=>absurd q (by decide),fun q=>absurd q h⟩
theorem sgn_comp {p q:List Int} (hp:isPerm p) (hq:isPerm q) (hl:p.length=q.length):(if sgnI (compI p q)<0 then 1 else 0:Nat) % 2=((if sgnI p<0 then 1 else 0:Nat)+(if sgnI q<0 then 1 else 0:Nat)) % 2:=by
  have fp:=permF_of hp
  have fq:=permF_of hq
  rw [← hl] at fq
  have hc:=permF_of (compI_perm hp hq hl)
  rw [compI_len] at hc
  have e:∀ z,z<p.length→fOf (compI p q) z=(fun z=>fOf q (fOf p z)) z:=fun z hz=>by
    show ((compI p q).getD z 0).toNat=(q.getD ((p.getD z 0).toNat) 0).toNat
    rw [compI_get _ _ _ hz]
  have h1:=par_congr hc e
  have h2:=par_mul _ (fOf q) (Nat.le_refl _) fq (fOf p) fp
  have s1:=sgn_neg (compI p q)
  have s2:=sgn_neg p
  have s3:=sgn_neg q
  rw [compI_len] at s1
  rw [← hl] at s3
  have b1:par p.length (fOf p)<2:=Nat.mod_lt _ (by omega)
  have b2:par p.length (fOf q)<2:=Nat.mod_lt _ (by omega)
  by_cases c1:sgnI p<0 <;> by_cases c2:sgnI q<0 <;> by_cases c3:sgnI (compI p q)<0 <;> simp only [c1,c2,c3,if_true,if_false] <;> simp only [c1,c2,c3,true_iff,false_iff] at s1 s2 s3 <;> omega
theorem oddS_comp {ks:List Kind} {a b:List Twist} (pa:psOk ks a) (pb:psOk ks b) (set:Int):∀ k,k≤ks.length→oddS (compS ks a b) set k % 2=(oddS a set k+oddS b set k) % 2
  | 0,_=>rfl
  | k+1,hk=>by
    have ih:=oddS_comp pa pb set k (by omega)
    have ta:=tw_get pa (show k<ks.length by omega)
    have tb:=tw_get pb (show k<ks.length by omega)
    have e:(compS ks a b).getD k default=compT (ks.getD k default).o (a.getD k default) (b.getD k default):=by rw [compS,range_map_get _ _ _ _ (by omega)]
    have hs:=sgn_comp ta.2.2.1 tb.2.2.1 (by have:=ta.1;have:=tb.1;omega)
    rw [oddS,oddS,oddS,e]
    show (oddS (compS ks a b) set k+if bitK set k=true∧sgnI (compI (a.getD k default).to (b.getD k default).to)<0 then 1 else 0) % 2=_
    by_cases c:bitK set k=true
    · by_cases d1:sgnI (compI (a.getD k default).to (b.getD k default).to)<0 <;> by_cases d2:sgnI (a.getD k default).to<0 <;> by_cases d3:sgnI (b.getD k default).to<0 <;> simp only [c,d1,d2,d3,true_and,and_true,and_false,if_true,if_false] at hs ⊢ <;> omega
    · have c':bitK set k=false:=by simpa using c
      simp only [c',Bool.false_eq_true,false_and,if_false]
      omega
theorem inv_comp {ks:List Kind} {a b:List Twist} (pa:psOk ks a) (pb:psOk ks b) {i:Invar} (ha:invV ks a i=0) (hb:invV ks b i=0):invV ks (compS ks a b) i=0:=by
  have pc:=comp_ok pa pb
  unfold invV at *
  by_cases c1:i.k=1
  · rw [if_pos c1] at *
    unfold twR at *
    by_cases c2:0≤i.s∧i.s<ks.length
    · rw [if_pos ⟨pa,c2⟩] at ha
      rw [if_pos ⟨pb,c2⟩] at hb
      rw [if_pos ⟨pc,c2⟩]
      exact twS_comp pa pb (by omega) ha hb
    · rw [if_neg (fun q=>c2 q.2)] at ha
      exact absurd ha (by decide)
  · rw [if_neg c1] at *
    by_cases c2:i.k=2
    · rw [if_pos c2] at *
      unfold parR at *
      by_cases c3:1≤i.s∧i.s≤((2 ^ ks.length:Nat):Int) - 1
      · rw [if_pos ⟨pa,c3⟩] at ha
        rw [if_pos ⟨pb,c3⟩] at hb
        rw [if_pos ⟨pc,c3⟩]
        have hc:=oddS_comp pa pb i.s ks.length (Nat.le_refl _)
        unfold parS at *
        rw [pa.2.1] at ha
        rw [pb.2.1] at hb
        rw [pc.2.1]
        omega
      · rw [if_neg (fun q=>c3 q.2)] at ha
        exact absurd ha (by decide)
    · rw [if_neg c2] at ha
      exact absurd ha (by decide)
theorem sumI_rep (x:Nat):sumI (List.replicate x 0)=0:=by
  induction x with
  | zero=>rfl
  | succ x ih=>rw [List.replicate_succ,sumI,ih];rfl
theorem par_run {n:Nat} (h1:1≤n) (h2:n≤20):¬ sgnI (runI 0 n)<0:=by
  rw [sgn_neg,runI_len]
  have hp:=permF_of (run_perm h1 h2)
  rw [runI_len] at hp
  have:=par_congr hp (g:=fun z=>z) (fun z hz=>by
    show ((runI 0 n).getD z 0).toNat=z
    rw [runI_get 0 n z hz];omega)
  rw [this,par_id]
  decide
theorem oddS_solved {ks:List Kind} (hk:kindsOk ks) (set:Int):∀ k,k≤ks.length→oddS (ks.map solvedK) set k=0
  | 0,_=>rfl
  | k+1,h=>by
    have hko:=hk.2.1 _ (mem_getD ks k default (by omega))
    have e:((ks.map solvedK).getD k default).to=runI 0 (ks.getD k default).c.toNat:=by
      rw [getD_eq _ _ _ (by rw [List.length_map];omega),List.getElem_map,← getD_eq ks k default (by omega)];rfl
    have hr:=par_run (n:=(ks.getD k default).c.toNat) (by have:=hko.1;omega) (by have:=hko.1;omega)
    rw [oddS,oddS_solved hk set k (by omega),e,if_neg (fun q=>hr q.2)]
theorem inv_solved {ks:List Kind} (hk:kindsOk ks) {i:Invar} (hi:i∈allI ks):invV ks (ks.map solvedK) i=0:=by
  have ps:=solved_ok hk
  rcases List.mem_append.1 hi with h | h
  · obtain ⟨j,hj,rfl⟩:=List.mem_map.1 h
    have hj:=List.mem_range.1 hj
    show (if (1:Int)=1 then twR ks (ks.map solvedK) (j:Int) else _)=0
    rw [if_pos rfl,twR,if_pos ⟨ps,by omega,by omega⟩,Int.toNat_natCast]
    have e:((ks.map solvedK).getD j default).by'=List.replicate (ks.getD j default).c.toNat 0:=by
      rw [getD_eq _ _ _ (by rw [List.length_map];omega),List.getElem_map,← getD_eq ks j default hj];rfl
    rw [twS,e,sumI_rep]
    simp
  · obtain ⟨j,hj,rfl⟩:=List.mem_map.1 h
    have hj:=List.mem_range.1 hj
    show (if (2:Int)=1 then _ else if (2:Int)=2 then parR ks (ks.map solvedK) ((j+1:Nat):Int) else _)=0
    rw [if_neg (by decide),if_pos rfl,parR,if_pos ⟨ps,by omega,by omega⟩,parS,ps.2.1,oddS_solved hk _ _ (Nat.le_refl _)]
    rfl
theorem cons_mem {m:Model} {i:Invar} (hi:i∈consR m):modelOk m∧i∈allI m.ks∧consM m i:=by
  unfold consR at hi
  split at hi
  · rename_i hm
    obtain ⟨h1,h2⟩:=List.mem_filter.1 hi
    unfold keepI at h2
    rw [Bool.and_eq_true,decide_eq_true_eq] at h2
    exact ⟨hm,h1,h2.2⟩
  · cases hi
def okS (m:Model) (s:List Twist):Prop:=psOk m.ks s∧∀ i∈consR m,invV m.ks s i=0
theorem okS_solved {m:Model} (hm:modelOk m):okS m (m.ks.map solvedK):=⟨solved_ok hm.1,fun _ hi=>inv_solved hm.1 (cons_mem hi).2.1⟩
theorem okS_move {m:Model} (hm:modelOk m) {s t:List Twist} (hs:okS m s) (ht:t∈m.mv):okS m (compS m.ks s t) :=
  ⟨comp_ok hs.1 (hm.2.2.2 t ht),fun i hi=>inv_comp hs.1 (hm.2.2.2 t ht) (hs.2 i hi) ((cons_mem hi).2.2.2 t ht)⟩
theorem okS_vio {m:Model} {s:List Twist} (hs:okS m s):vioO m s=none:=by
  unfold vioO
  rw [if_pos hs.1,List.find?_eq_none]
  intro i hi
  rw [hs.2 i hi]
  simp
end Ih
end Go.AM
namespace Go.AM
def St.nilC2 (st:St) (s z w:Nat):St:=(st.nilC s 0 z w [.nilsl,.nilsl]).nilC s 1 z w [.tr w [],.nilsl]
end Go.AM
set_option maxRecDepth 8000
namespace Go.AM
namespace Draws
open Go.Proofs
theorem andM (a m:Int) (h0:0≤m) (h1:m≤9223372036854775807):0≤bitsI .and .i64 a m∧bitsI .and .i64 a m≤m:=by
  have e2:(BitVec.ofInt 64 m).toNat=m.toNat:=by rw [BitVec.toNat_ofInt];omega
  have h:(BitVec.ofInt 64 a &&& BitVec.ofInt 64 m).toNat≤m.toNat:=by
    rw [BitVec.toNat_and,e2]
    exact Nat.and_le_right
  have e:bitsI .and .i64 a m=((BitVec.ofInt 64 a &&& BitVec.ofInt 64 m).toNat:Int):=by
    show IntKind.i64.wrap ((BitVec.ofInt 64 a &&& BitVec.ofInt 64 m).toNat:Int)=_
    apply wrap64_id;omega
  rw [e];omega
def sdK (l:List UInt8):Nat→Int
  | 0=>590033+l.length
  | k+1=>bitsI .and .i64 (sdK l k*337+(l.getD k default).toNat+11) 1073741823
theorem sdK_ok (l:List UInt8) (h:l.length≤4096):∀ k,0≤sdK l k∧sdK l k≤1073741823
  | 0=>by simp only [sdK];omega
  | k+1=>andM _ _ (by omega) (by omega)
theorem newSource (l:List UInt8) (h:l.length≤4096):SpecAt Try.prog 78 [bsl l] (Src.pt ⟨l,0,sdK l l.length⟩):=by
  refine spec_of_awp (M:=MM) (np:=1) (fz:=false) mixed Try.func78 rfl rfl (by decide) rfl (Nat.le_refl _) (by decide +kernel) (.inl rfl) (by first | trivial | simp only [sigsOk_nil,sigsOk_some,sigsOk_none,sig_tr,sig_pt,sig_mt,sig_agg,List.map_cons,List.map_nil,sig1_tr,sig1_pt,sig1_v,and_self,true_and,List.length_map,List.length_set]) ?_
  simp -dsimp -implicitDefEqProofs (disch:=first | omega | (simp only [lenr];try omega)) only [↓amPre,amAll,↓reduceIte,reduceCtorEq,Nat.reduceEqDiff,Nat.reduceBEq,Nat.reduceAdd,Nat.reduceLeDiff,Nat.reduceSub,Nat.reduceMul,Int.reduceToNat,List.size_toArray,tyF,MM,bu0,cbP2]
  refine awp_loop (fun k st=>k≤l.length∧st.fr 4=.i64 k∧st.fr 3=.i64 (sdK l k)∧st.fr 0=bsl l) (l.length) ?_ ?_
  · simp -dsimp -implicitDefEqProofs (disch:=first | omega | (simp only [lenr];try omega)) only [↓amPre,amAll,↓reduceIte,reduceCtorEq,Nat.reduceEqDiff,Nat.reduceBEq,Nat.reduceAdd,Nat.reduceLeDiff,Nat.reduceSub,Nat.reduceMul,Int.reduceToNat,List.size_toArray,tyF,MM,bu0,cbP2]
    simp [sdK]
  rintro k st _ ⟨hk,f4,f3,f0⟩
  have hs:=sdK_ok l h k
  have hs1:sdK l (k+1)=bitsI .and .i64 (sdK l k*337+(l.getD k default).toNat+11) 1073741823:=rfl
  by_cases hlt:k<l.length
  · have hu:(l.getD k default).toNat<256:=(l.getD k default).toNat_lt
    have e0:IntKind.i64.wrap ((l.getD k default).toNat:Int)=(l.getD k default).toNat:=wrap64_id (by omega)
    have e1:IntKind.i64.wrap (sdK l k*337)=sdK l k*337:=wrap64_id (by omega)
    have e2:IntKind.i64.wrap (sdK l k*337+(l.getD k default).toNat)=sdK l k*337+(l.getD k default).toNat:=wrap64_id (by omega)
    have e3:IntKind.i64.wrap (sdK l k*337+(l.getD k default).toNat+11)=sdK l k*337+(l.getD k default).toNat+11:=wrap64_id (by omega)
    simp -dsimp -implicitDefEqProofs (disch:=first | omega | (simp only [lenr];try omega)) only [↓amPre,amAll,↓reduceIte,reduceCtorEq,Nat.reduceEqDiff,Nat.reduceBEq,Nat.reduceAdd,Nat.reduceLeDiff,Nat.reduceSub,Nat.reduceMul,Int.reduceToNat,List.size_toArray,tyF,MM,bu0,cbP2,f4,f3,f0,e0,e1,e2,e3,← hs1]
    repeat' (first | omega | rfl | exact i64c (by omega) | exact vic (by omega) | apply And.intro)
  · have hke:k=l.length:=by omega
    subst hke
    simp -dsimp -implicitDefEqProofs (disch:=first | omega | (simp only [lenr];try omega)) only [↓amPre,amAll,↓reduceIte,reduceCtorEq,Nat.reduceEqDiff,Nat.reduceBEq,Nat.reduceAdd,Nat.reduceLeDiff,Nat.reduceSub,Nat.reduceMul,Int.reduceToNat,List.size_toArray,tyF,MM,bu0,cbP2,f4,f3,f0]
    rfl
theorem numberUpTo (s:Src) (n:Int) (h:s.ok) (h0:0≤n) (h1:n≤1000):∃ (s':Src) (x:Int),SpecX Try.prog 186 [s.pt,.i64 n] [some s'.pt] (.i64 x)∧s'.ok∧intOk x:=by
  obtain ⟨s1,c1,q1,k1⟩:=oneIn s 10 h (by unfold intOk;omega)
  cases c1 with
  | true =>
    obtain ⟨s2,x2,q2,k2,b2⟩:=extremeInt s1 k1
    obtain ⟨s3,x3,q3,k3,b3,b4,_⟩:=below s2 4 k2 (by unfold intOk;omega)
    have b4:=b4 (by omega)
    obtain ⟨m,hm⟩:∃ m:Nat,x3=m:=⟨_,(Int.toNat_of_nonneg b3).symm⟩
    have hm4:m<4:=by omega
    subst hm
    have hin:intOk (([-1,n,n+1,x2]:List Int).getD m 0):=by
      match m,hm4 with
      | 0,_=>show intOk (-1);unfold intOk;omega
      | 1,_=>show intOk n;unfold intOk;omega
      | 2,_=>show intOk (n+1);unfold intOk;omega
      | 3,_=>exact b2
    refine ⟨s3,([-1,n,n+1,x2]:List Int).getD m 0,?_,k3,hin⟩
    have hg:([.i64 (-1),.i64 n,.i64 (n+1),.i64 x2]:List AV).getD m .any=.i64 (([-1,n,n+1,x2]:List Int).getD m 0):=by
      match m,hm4 with
      | 0,_=>rfl
      | 1,_=>rfl
      | 2,_=>rfl
      | 3,_=>rfl
    generalize ([-1,n,n+1,x2]:List Int).getD m 0=y at hg ⊢
    refine spec_of_awp (M:=MM) (np:=2) (fz:=false) mixed Try.func186 rfl rfl (by decide) rfl (Nat.le_refl _) (by decide +kernel) (.inl rfl) (by simp only [sigsOk_some,sigsOk_nil,and_true];rfl) ?_
    simp -dsimp -implicitDefEqProofs (disch:=first | omega | (simp only [lenr];try omega)) only [↓amPre,amAll,↓reduceIte,reduceCtorEq,Nat.reduceEqDiff,Nat.reduceBEq,Nat.reduceAdd,Nat.reduceLeDiff,Nat.reduceSub,Nat.reduceMul,Int.reduceToNat,List.size_toArray,tyF,MM,bu0,cbP2]
    refine callX_of (q1) ?_
    simp -dsimp -implicitDefEqProofs (disch:=first | omega | (simp only [lenr];try omega)) only [↓amPre,amAll,↓reduceIte,reduceCtorEq,Nat.reduceEqDiff,Nat.reduceBEq,Nat.reduceAdd,Nat.reduceLeDiff,Nat.reduceSub,Nat.reduceMul,Int.reduceToNat,List.size_toArray,tyF,MM,bu0,cbP2]
    refine callX_of (q2) ?_
    simp -dsimp -implicitDefEqProofs (disch:=first | omega | (simp only [lenr];try omega)) only [↓amPre,amAll,↓reduceIte,reduceCtorEq,Nat.reduceEqDiff,Nat.reduceBEq,Nat.reduceAdd,Nat.reduceLeDiff,Nat.reduceSub,Nat.reduceMul,Int.reduceToNat,List.size_toArray,tyF,MM,bu0,cbP2]
    refine callX_of (q3) ?_
    simp -dsimp -implicitDefEqProofs (disch:=first | omega | (simp only [lenr];try omega)) only [↓amPre,amAll,↓reduceIte,reduceCtorEq,Nat.reduceEqDiff,Nat.reduceBEq,Nat.reduceAdd,Nat.reduceLeDiff,Nat.reduceSub,Nat.reduceMul,Int.reduceToNat,List.size_toArray,tyF,MM,bu0,cbP2,hg]
  | false =>
    obtain ⟨s2,c2,q2,k2⟩:=oneIn s1 2 k1 (by unfold intOk;omega)
    cases c2 with
    | true =>
      have hm:1≤(if (4:Int)<n then 4 else n)+1∧(if (4:Int)<n then 4 else n)+1≤5:=by split <;> omega
      obtain ⟨s3,x3,q3,k3,b3,b4,_⟩:=below s2 ((if (4:Int)<n then 4 else n)+1) k2 (by unfold intOk;omega)
      have b4:=b4 (by omega)
      refine ⟨s3,x3,?_,k3,by unfold intOk;omega⟩
      generalize hM:(if (4:Int)<n then 4 else n)=M at q3 hm
      refine spec_of_awp (M:=MM) (np:=2) (fz:=false) mixed Try.func186 rfl rfl (by decide) rfl (Nat.le_refl _) (by decide +kernel) (.inl rfl) (by simp only [sigsOk_some,sigsOk_nil,and_true];rfl) ?_
      simp -dsimp -implicitDefEqProofs (disch:=first | omega | (simp only [lenr];try omega)) only [↓amPre,amAll,↓reduceIte,reduceCtorEq,Nat.reduceEqDiff,Nat.reduceBEq,Nat.reduceAdd,Nat.reduceLeDiff,Nat.reduceSub,Nat.reduceMul,Int.reduceToNat,List.size_toArray,tyF,MM,bu0,cbP2]
      refine callX_of (q1) ?_
      simp -dsimp -implicitDefEqProofs (disch:=first | omega | (simp only [lenr];try omega)) only [↓amPre,amAll,↓reduceIte,reduceCtorEq,Nat.reduceEqDiff,Nat.reduceBEq,Nat.reduceAdd,Nat.reduceLeDiff,Nat.reduceSub,Nat.reduceMul,Int.reduceToNat,List.size_toArray,tyF,MM,bu0,cbP2]
      refine callX_of (q2) ?_
      simp -dsimp -implicitDefEqProofs (disch:=first | omega | (simp only [lenr];try omega)) only [↓amPre,amAll,↓reduceIte,reduceCtorEq,Nat.reduceEqDiff,Nat.reduceBEq,Nat.reduceAdd,Nat.reduceLeDiff,Nat.reduceSub,Nat.reduceMul,Int.reduceToNat,List.size_toArray,tyF,MM,bu0,cbP2,minmaxP_int,hM]
      refine callX_of (q3) ?_
      simp -dsimp -implicitDefEqProofs (disch:=first | omega | (simp only [lenr];try omega)) only [↓amPre,amAll,↓reduceIte,reduceCtorEq,Nat.reduceEqDiff,Nat.reduceBEq,Nat.reduceAdd,Nat.reduceLeDiff,Nat.reduceSub,Nat.reduceMul,Int.reduceToNat,List.size_toArray,tyF,MM,bu0,cbP2]
    | false =>
      obtain ⟨s3,x3,q3,k3,b3,b4,_⟩:=below s2 (n+1) k2 (by unfold intOk;omega)
      have b4:=b4 (by omega)
      refine ⟨s3,x3,?_,k3,by unfold intOk;omega⟩
      refine spec_of_awp (M:=MM) (np:=2) (fz:=false) mixed Try.func186 rfl rfl (by decide) rfl (Nat.le_refl _) (by decide +kernel) (.inl rfl) (by simp only [sigsOk_some,sigsOk_nil,and_true];rfl) ?_
      simp -dsimp -implicitDefEqProofs (disch:=first | omega | (simp only [lenr];try omega)) only [↓amPre,amAll,↓reduceIte,reduceCtorEq,Nat.reduceEqDiff,Nat.reduceBEq,Nat.reduceAdd,Nat.reduceLeDiff,Nat.reduceSub,Nat.reduceMul,Int.reduceToNat,List.size_toArray,tyF,MM,bu0,cbP2]
      refine callX_of (q1) ?_
      simp -dsimp -implicitDefEqProofs (disch:=first | omega | (simp only [lenr];try omega)) only [↓amPre,amAll,↓reduceIte,reduceCtorEq,Nat.reduceEqDiff,Nat.reduceBEq,Nat.reduceAdd,Nat.reduceLeDiff,Nat.reduceSub,Nat.reduceMul,Int.reduceToNat,List.size_toArray,tyF,MM,bu0,cbP2]
      refine callX_of (q2) ?_
      simp -dsimp -implicitDefEqProofs (disch:=first | omega | (simp only [lenr];try omega)) only [↓amPre,amAll,↓reduceIte,reduceCtorEq,Nat.reduceEqDiff,Nat.reduceBEq,Nat.reduceAdd,Nat.reduceLeDiff,Nat.reduceSub,Nat.reduceMul,Int.reduceToNat,List.size_toArray,tyF,MM,bu0,cbP2]
      refine callX_of (q3) ?_
      simp -dsimp -implicitDefEqProofs (disch:=first | omega | (simp only [lenr];try omega)) only [↓amPre,amAll,↓reduceIte,reduceCtorEq,Nat.reduceEqDiff,Nat.reduceBEq,Nat.reduceAdd,Nat.reduceLeDiff,Nat.reduceSub,Nat.reduceMul,Int.reduceToNat,List.size_toArray,tyF,MM,bu0,cbP2]
theorem drawKinds (s:Src) (h:s.ok):∃ (s':Src) (ks:List Kind),SpecX Try.prog 228 [s.pt] [some s'.pt] (ktr ks)∧s'.ok∧kindsOk ks:=by
  obtain ⟨s1,x1,q1,k1,b1,b2,_⟩:=below s 5 h (by unfold intOk;omega)
  have b2:=b2 (by omega)
  obtain ⟨n,hn⟩:∃ n:Nat,x1=n:=⟨_,(Int.toNat_of_nonneg b1).symm⟩
  have hn5:n<5:=by omega
  subst hn
  match n,hn5 with
  | 0,_ =>
    refine ⟨s1,[⟨3,1⟩,⟨2,2⟩],?_,k1,by decide⟩
    refine spec_of_awp (M:=MM) (np:=1) (fz:=false) mixed Try.func228 rfl rfl (by decide) rfl (Nat.le_refl _) (by decide +kernel) (.inl rfl) (by simp only [sigsOk_some,sigsOk_nil,and_true];rfl) ?_
    simp -dsimp -implicitDefEqProofs (disch:=first | omega | (simp only [lenr];try omega)) only [↓amPre,amAll,↓reduceIte,reduceCtorEq,Nat.reduceEqDiff,Nat.reduceBEq,Nat.reduceAdd,Nat.reduceLeDiff,Nat.reduceSub,Nat.reduceMul,Int.reduceToNat,List.size_toArray,tyF,MM,bu0,cbP2]
    refine callX_of (q1) ?_
    simp -dsimp -implicitDefEqProofs (disch:=first | omega | (simp only [lenr];try omega)) only [↓amPre,amAll,↓reduceIte,reduceCtorEq,Nat.reduceEqDiff,Nat.reduceBEq,Nat.reduceAdd,Nat.reduceLeDiff,Nat.reduceSub,Nat.reduceMul,Int.reduceToNat,List.size_toArray,tyF,MM,bu0,cbP2]
  | 1,_ =>
    refine ⟨s1,[⟨2,3⟩],?_,k1,by decide⟩
    refine spec_of_awp (M:=MM) (np:=1) (fz:=false) mixed Try.func228 rfl rfl (by decide) rfl (Nat.le_refl _) (by decide +kernel) (.inl rfl) (by simp only [sigsOk_some,sigsOk_nil,and_true];rfl) ?_
    simp -dsimp -implicitDefEqProofs (disch:=first | omega | (simp only [lenr];try omega)) only [↓amPre,amAll,↓reduceIte,reduceCtorEq,Nat.reduceEqDiff,Nat.reduceBEq,Nat.reduceAdd,Nat.reduceLeDiff,Nat.reduceSub,Nat.reduceMul,Int.reduceToNat,List.size_toArray,tyF,MM,bu0,cbP2]
    refine callX_of (q1) ?_
    simp -dsimp -implicitDefEqProofs (disch:=first | omega | (simp only [lenr];try omega)) only [↓amPre,amAll,↓reduceIte,reduceCtorEq,Nat.reduceEqDiff,Nat.reduceBEq,Nat.reduceAdd,Nat.reduceLeDiff,Nat.reduceSub,Nat.reduceMul,Int.reduceToNat,List.size_toArray,tyF,MM,bu0,cbP2]
  | 2,_ =>
    refine ⟨s1,[⟨3,2⟩],?_,k1,by decide⟩
    refine spec_of_awp (M:=MM) (np:=1) (fz:=false) mixed Try.func228 rfl rfl (by decide) rfl (Nat.le_refl _) (by decide +kernel) (.inl rfl) (by simp only [sigsOk_some,sigsOk_nil,and_true];rfl) ?_
    simp -dsimp -implicitDefEqProofs (disch:=first | omega | (simp only [lenr];try omega)) only [↓amPre,amAll,↓reduceIte,reduceCtorEq,Nat.reduceEqDiff,Nat.reduceBEq,Nat.reduceAdd,Nat.reduceLeDiff,Nat.reduceSub,Nat.reduceMul,Int.reduceToNat,List.size_toArray,tyF,MM,bu0,cbP2]
    refine callX_of (q1) ?_
    simp -dsimp -implicitDefEqProofs (disch:=first | omega | (simp only [lenr];try omega)) only [↓amPre,amAll,↓reduceIte,reduceCtorEq,Nat.reduceEqDiff,Nat.reduceBEq,Nat.reduceAdd,Nat.reduceLeDiff,Nat.reduceSub,Nat.reduceMul,Int.reduceToNat,List.size_toArray,tyF,MM,bu0,cbP2]
  | 3,_ =>
    refine ⟨s1,[⟨1,3⟩,⟨4,1⟩],?_,k1,by decide⟩
    refine spec_of_awp (M:=MM) (np:=1) (fz:=false) mixed Try.func228 rfl rfl (by decide) rfl (Nat.le_refl _) (by decide +kernel) (.inl rfl) (by simp only [sigsOk_some,sigsOk_nil,and_true];rfl) ?_
    simp -dsimp -implicitDefEqProofs (disch:=first | omega | (simp only [lenr];try omega)) only [↓amPre,amAll,↓reduceIte,reduceCtorEq,Nat.reduceEqDiff,Nat.reduceBEq,Nat.reduceAdd,Nat.reduceLeDiff,Nat.reduceSub,Nat.reduceMul,Int.reduceToNat,List.size_toArray,tyF,MM,bu0,cbP2]
    refine callX_of (q1) ?_
    simp -dsimp -implicitDefEqProofs (disch:=first | omega | (simp only [lenr];try omega)) only [↓amPre,amAll,↓reduceIte,reduceCtorEq,Nat.reduceEqDiff,Nat.reduceBEq,Nat.reduceAdd,Nat.reduceLeDiff,Nat.reduceSub,Nat.reduceMul,Int.reduceToNat,List.size_toArray,tyF,MM,bu0,cbP2]
  | 4,_ =>
    obtain ⟨s2,x2,q2,k2,c1,c2,_⟩:=below s1 4 k1 (by unfold intOk;omega)
    obtain ⟨s3,x3,q3,k3,d1,d2,_⟩:=below s2 2 k2 (by unfold intOk;omega)
    have c2:=c2 (by omega)
    have d2:=d2 (by omega)
    have hk:kindsOk [(⟨1+x2,1+x3⟩:Kind)]:=by
      refine ⟨by simp,?_,?_⟩
      · intro k hk;rw [List.mem_singleton.1 hk];exact ⟨by simp only;omega,by simp only;omega⟩
      · have:(1+x2)*(1+x3)≤4*2:=Int.mul_le_mul (by omega) (by omega) (by omega) (by omega)
        simp only [facets];omega
    refine ⟨s3,[⟨1+x2,1+x3⟩],?_,k3,hk⟩
    refine spec_of_awp (M:=MM) (np:=1) (fz:=false) mixed Try.func228 rfl rfl (by decide) rfl (Nat.le_refl _) (by decide +kernel) (.inl rfl) (by simp only [sigsOk_some,sigsOk_nil,and_true];rfl) ?_
    simp -dsimp -implicitDefEqProofs (disch:=first | omega | (simp only [lenr];try omega)) only [↓amPre,amAll,↓reduceIte,reduceCtorEq,Nat.reduceEqDiff,Nat.reduceBEq,Nat.reduceAdd,Nat.reduceLeDiff,Nat.reduceSub,Nat.reduceMul,Int.reduceToNat,List.size_toArray,tyF,MM,bu0,cbP2]
    refine callX_of (q1) ?_
    simp -dsimp -implicitDefEqProofs (disch:=first | omega | (simp only [lenr];try omega)) only [↓amPre,amAll,↓reduceIte,reduceCtorEq,Nat.reduceEqDiff,Nat.reduceBEq,Nat.reduceAdd,Nat.reduceLeDiff,Nat.reduceSub,Nat.reduceMul,Int.reduceToNat,List.size_toArray,tyF,MM,bu0,cbP2]
    refine callX_of (q2) ?_
    simp -dsimp -implicitDefEqProofs (disch:=first | omega | (simp only [lenr];try omega)) only [↓amPre,amAll,↓reduceIte,reduceCtorEq,Nat.reduceEqDiff,Nat.reduceBEq,Nat.reduceAdd,Nat.reduceLeDiff,Nat.reduceSub,Nat.reduceMul,Int.reduceToNat,List.size_toArray,tyF,MM,bu0,cbP2]
    refine callX_of (q3) ?_
    simp -dsimp -implicitDefEqProofs (disch:=first | omega | (simp only [lenr];try omega)) only [↓amPre,amAll,↓reduceIte,reduceCtorEq,Nat.reduceEqDiff,Nat.reduceBEq,Nat.reduceAdd,Nat.reduceLeDiff,Nat.reduceSub,Nat.reduceMul,Int.reduceToNat,List.size_toArray,tyF,MM,bu0,cbP2]
end Draws
end Go.AM
set_option maxRecDepth 8000
namespace Go.AM
namespace Draws
open Go.Proofs
noncomputable def bS (s:Src) (n:Int):Src:=open Classical in if h:s.ok∧intOk n then (below s n h.1 h.2).choose else s
noncomputable def bX (s:Src) (n:Int):Int:=open Classical in if h:s.ok∧intOk n then (below s n h.1 h.2).choose_spec.choose else 0
theorem belowF (s:Src) (n:Int) (h:s.ok) (hn:intOk n):SpecX Try.prog 184 [s.pt,.i64 n] [some (bS s n).pt] (.i64 (bX s n))∧(bS s n).ok∧0≤bX s n∧(0<n→bX s n<n)∧(n≤0→bX s n=0):=by
  have:=(below s n h hn).choose_spec.choose_spec
  unfold bS bX
  rw [dif_pos ⟨h,hn⟩,dif_pos ⟨h,hn⟩]
  exact this
theorem ints_bears:∀ L:List Int,AV.bearsL (L.map AV.i64)=false
  | []=>rfl
  | _ :: r=>by rw [List.map_cons,AV.bearsL,ints_bears r];rfl
theorem grabL_ints (s:Nat) (p:Path):∀ (L:List Int) (i:Nat) (st:St) (K:List AV→St→Prop),grabL s p i (L.map AV.i64) st K=K (L.map AV.i64) st
  | [],_,_,_=>rfl
  | a :: r,i,st,K=>by
    have hb:AV.bears (AV.v (.int .i64 a))=false:=rfl
    rw [List.map_cons,grabL_cons,grabE_v,grabC_v,hb]
    refine (propext ⟨fun h=>?_,fun h=>?_⟩:_=_)
    · have h2:=h.2
      rw [grabL_ints s p r (i+1) st] at h2
      exact h2
    · refine ⟨rfl,?_⟩
      rw [grabL_ints s p r (i+1) st]
      exact h
noncomputable def ordK (s:Src):Nat→Src×List Int
  | 0=>(s,[])
  | k+1=>(bS (ordK s k).1 (k+1),(ordK s k).2.take (bX (ordK s k).1 (k+1)).toNat++[(k:Int)]++(ordK s k).2.drop (bX (ordK s k).1 (k+1)).toNat)
theorem ordK_ok (s:Src) (h:s.ok):∀ k,k≤100→(ordK s k).1.ok∧(ordK s k).2.length=k
  | 0,_=>⟨h,rfl⟩
  | k+1,hk=>by
    have ih:=ordK_ok s h k (by omega)
    have hb:=belowF (ordK s k).1 (k+1) ih.1 (by unfold intOk;omega)
    refine ⟨hb.2.1,?_⟩
    have h3:=hb.2.2.2.1 (by omega)
    simp only [ordK,List.length_append,List.length_take,List.length_drop,List.length_singleton,ih.2]
    omega
theorem drawOrder (s:Src) (n:Nat) (h:s.ok) (hn:n≤20):SpecX Try.prog 221 [s.pt,.i64 n] [some (ordK s n).1.pt] (itr (ordK s n).2):=by
  refine spec_of_awp (M:=MM) (np:=2) (fz:=false) mixed Try.func221 rfl rfl (by decide) rfl (Nat.le_refl _) (by decide +kernel) (.inl rfl) (by simp only [sigsOk_some,sigsOk_nil,and_true];rfl) ?_
  simp -dsimp -implicitDefEqProofs (disch:=first | omega | (simp only [lenr];try omega)) only [↓amPre,amAll,↓reduceIte,reduceCtorEq,Nat.reduceEqDiff,Nat.reduceBEq,Nat.reduceAdd,Nat.reduceLeDiff,Nat.reduceSub,Nat.reduceMul,Int.reduceToNat,List.size_toArray,tyF,MM,bu0,cbP2]
  refine awp_loopR 9 32 (.tr 1 []) (by simp -dsimp -implicitDefEqProofs (disch:=first | omega | (simp only [lenr];try omega)) only [↓amPre,amAll,↓reduceIte,reduceCtorEq,Nat.reduceEqDiff,Nat.reduceBEq,Nat.reduceAdd,Nat.reduceLeDiff,Nat.reduceSub,Nat.reduceMul,Int.reduceToNat,List.size_toArray,tyF,MM,bu0,cbP2]) (by decide) (by decide) (by decide) (fun k st=>k≤n∧st.fr 6=.i64 k∧st.fr 1=.i64 n∧st.fr 5=.ref 32 [] 1 0 k∧st.fr 0=.loc 0 [] 0 0∧st.mem 32=some (itr (ordK s k).2)∧st.mem 0=some ((ordK s k).1.pt)) (n) ?_ ?_
  · simp -dsimp -implicitDefEqProofs (disch:=first | omega | (simp only [lenr];try omega)) only [↓amPre,amAll,↓reduceIte,reduceCtorEq,Nat.reduceEqDiff,Nat.reduceBEq,Nat.reduceAdd,Nat.reduceLeDiff,Nat.reduceSub,Nat.reduceMul,Int.reduceToNat,List.size_toArray,tyF,MM,bu0,cbP2,ren_eq]
    simp [ordK]
  rintro k st _ ⟨hk,f6,f1,f5,f0,m32,m0⟩
  have ho:=ordK_ok s h k (by omega)
  by_cases hlt:k<n
  · obtain ⟨q1,q2,q3,q4,_⟩:=belowF (ordK s k).1 (k+1) ho.1 (by unfold intOk;omega)
    have q4:=q4 (by omega)
    have hs:ordK s (k+1)=(bS (ordK s k).1 (k+1),(ordK s k).2.take (bX (ordK s k).1 (k+1)).toNat++[(k:Int)]++(ordK s k).2.drop (bX (ordK s k).1 (k+1)).toNat):=rfl
    obtain ⟨m,hm⟩:∃ m:Nat,bX (ordK s k).1 (k+1)=m:=⟨_,(Int.toNat_of_nonneg q3).symm⟩
    rw [hm] at q1 hs q4
    rw [Int.toNat_natCast] at hs
    generalize bS (ordK s k).1 (k+1)=s2 at q1 q2 hs
    obtain ⟨ho1,ho2⟩:=ho
    generalize (ordK s k).1=s1 at q1 ho1 m0
    generalize (ordK s k).2=L at hs ho2 m32
    simp -dsimp -implicitDefEqProofs (disch:=first | omega | (simp only [lenr];try omega)) only [↓amPre,amAll,↓reduceIte,reduceCtorEq,Nat.reduceEqDiff,Nat.reduceBEq,Nat.reduceAdd,Nat.reduceLeDiff,Nat.reduceSub,Nat.reduceMul,Int.reduceToNat,List.size_toArray,tyF,MM,bu0,cbP2,f6,f1,f5,f0,m32,m0,ho2]
    refine callX_of (q1) ?_
    have hmk:m - 0≤k:=by omega
    have hbl:AV.bearsL (L.map AV.i64)=false:=ints_bears L
    have hT:List.take (m - 0) (List.drop 0 (L.map AV.i64))=(L.take m).map AV.i64:=by simp
    have hlm:(L.take m).length≤20:=by rw [List.length_take];omega
    simp -dsimp -implicitDefEqProofs (disch:=first | omega | (simp only [lenr];try omega)) only [↓amPre,amAll,↓reduceIte,reduceCtorEq,Nat.reduceEqDiff,Nat.reduceBEq,Nat.reduceAdd,Nat.reduceLeDiff,Nat.reduceSub,Nat.reduceMul,Int.reduceToNat,List.size_toArray,tyF,MM,bu0,cbP2,f6,f1,f5,f0,m32,m0,ho2,hmk,hbl,hT,grabL_ints]
    refine ⟨hlt,hlt,?_,?_,?_⟩
    · have:(List.take (m - 0) L).length+1+(List.drop m L).length=k+1:=by
        rw [List.length_take,List.length_drop];omega
      rw [this]
    · rw [hs,Nat.sub_zero]
      simp only [itr,List.map_append]
    · rw [hs]
  · have hke:k=n:=by omega
    subst hke
    simp -dsimp -implicitDefEqProofs (disch:=first | omega | (simp only [lenr];try omega)) only [↓amPre,amAll,↓reduceIte,reduceCtorEq,Nat.reduceEqDiff,Nat.reduceBEq,Nat.reduceAdd,Nat.reduceLeDiff,Nat.reduceSub,Nat.reduceMul,Int.reduceToNat,List.size_toArray,tyF,MM,bu0,cbP2,f6,f1,f5,f0,m32,m0,ho.2]
end Draws
end Go.AM
set_option maxRecDepth 8000
namespace Go.AM
namespace Draws
open Go.Proofs
noncomputable def byK (s:Src) (o:Int):Nat→Src×List Int
  | 0=>(s,[])
  | k+1=>(bS (byK s o k).1 o,(byK s o k).2++[bX (byK s o k).1 o])
theorem byK_ok (s:Src) (o:Int) (h:s.ok) (ho:intOk o):∀ k,(byK s o k).1.ok∧(byK s o k).2.length=k
  | 0=>⟨h,rfl⟩
  | k+1=>by
    have ih:=byK_ok s o h ho k
    exact ⟨(belowF _ o ih.1 ho).2.1,by simp only [byK,List.length_append,List.length_singleton,ih.2]⟩
noncomputable def dsK (s:Src) (ks:List Kind):Nat→Src×List Twist
  | 0=>(s,[])
  | k+1=>((byK (ordK (dsK s ks k).1 (ks.getD k default).c.toNat).1 (ks.getD k default).o (ks.getD k default).c.toNat).1,(dsK s ks k).2++[⟨(ordK (dsK s ks k).1 (ks.getD k default).c.toNat).2,(byK (ordK (dsK s ks k).1 (ks.getD k default).c.toNat).1 (ks.getD k default).o (ks.getD k default).c.toNat).2⟩])
theorem dsK_ok (s:Src) (ks:List Kind) (h:s.ok) (hk:kindsOk ks):∀ k,k≤ks.length→(dsK s ks k).1.ok∧(dsK s ks k).2.length=k
  | 0,_=>⟨h,rfl⟩
  | k+1,hlt=>by
    have ih:=dsK_ok s ks h hk k (by omega)
    obtain ⟨c1,c2,o1,o2,_⟩:=kindsOk_kind hk (mem_getD ks k default (by omega))
    have h1:=ordK_ok (dsK s ks k).1 ih.1 (ks.getD k default).c.toNat (by omega)
    exact ⟨(byK_ok _ _ h1.1 (by unfold intOk;omega) _).1,by simp only [dsK,List.length_append,List.length_singleton,ih.2]⟩
theorem drawState (s:Src) (ks:List Kind) (h:s.ok) (hkk:kindsOk ks):SpecX Try.prog 162 [s.pt,ktr ks] [some (dsK s ks ks.length).1.pt,some (ktr ks)] (ttr (dsK s ks ks.length).2):=by
  have hl3:=hkk.1.2
  refine spec_of_awp_any (M:=MM) (np:=2) (X:=[9]) (fz:=false) mixed Try.func162 rfl rfl (by decide) rfl (Nat.le_refl _) (by decide +kernel) (.inl rfl) (by simp only [sigsOk_some,sigsOk_nil,and_true];rfl) ?_
  simp -dsimp -implicitDefEqProofs (disch:=first | omega | (simp only [lenr];try omega)) only [↓amPre,amAll,↓reduceIte,reduceCtorEq,Nat.reduceEqDiff,Nat.reduceBEq,Nat.reduceAdd,Nat.reduceLeDiff,Nat.reduceSub,Nat.reduceMul,Int.reduceToNat,List.size_toArray,tyF,MM,bu0,cbP2]
  refine awp_loopR 9 48 (.tr 2 []) (by simp -dsimp -implicitDefEqProofs (disch:=first | omega | (simp only [lenr];try omega)) only [↓amPre,amAll,↓reduceIte,reduceCtorEq,Nat.reduceEqDiff,Nat.reduceBEq,Nat.reduceAdd,Nat.reduceLeDiff,Nat.reduceSub,Nat.reduceMul,Int.reduceToNat,List.size_toArray,tyF,MM,bu0,cbP2]) (by decide) (by decide) (by decide) (fun k st=>k≤ks.length∧st.fr 6=.i64 k∧st.fr 1=.ref 1 [] 2 0 ks.length∧st.fr 5=.ref 48 [] 2 0 k∧st.fr 0=.loc 0 [] 0 0∧st.mem 48=some (ttr (dsK s ks k).2)∧st.mem 0=some ((dsK s ks k).1.pt)∧st.mem 1=some (ktr ks)) (ks.length) ?_ ?_
  · simp -dsimp -implicitDefEqProofs (disch:=first | omega | (simp only [lenr];try omega)) only [↓amPre,amAll,↓reduceIte,reduceCtorEq,Nat.reduceEqDiff,Nat.reduceBEq,Nat.reduceAdd,Nat.reduceLeDiff,Nat.reduceSub,Nat.reduceMul,Int.reduceToNat,List.size_toArray,tyF,MM,bu0,cbP2,ren_eq]
    simp [dsK]
  rintro k st _ ⟨hk,f6,f1,f5,f0,m48,m0,m1⟩
  have ho:=dsK_ok s ks h hkk k (by omega)
  have hds:dsK s ks (k+1)=_:=rfl
  conv at hds=>rhs;rw [dsK]
  by_cases hlt:k<ks.length
  · obtain ⟨c1,c2,o1,o2,_⟩:=kindsOk_kind hkk (mem_getD ks k default hlt)
    obtain ⟨c,hc⟩:∃ c:Nat,(ks.getD k default).c=c:=⟨(ks.getD k default).c.toNat,by omega⟩
    rw [hc,Int.toNat_natCast] at hds
    have hor:=ordK_ok (dsK s ks k).1 ho.1 c (by omega)
    have hdo:=drawOrder (dsK s ks k).1 c ho.1 (by omega)
    have hby:=byK_ok (ordK (dsK s ks k).1 c).1 (ks.getD k default).o hor.1 (by unfold intOk;omega)
    generalize hT:(dsK s ks k).2=T at hds ho m48
    generalize hS:(dsK s ks k).1=S at hds ho m0 hdo hor hby
    generalize hS1:(ordK S c).1=S1 at hds hdo hor hby
    generalize hL:(ordK S c).2=L at hds hdo hor
    simp -dsimp -implicitDefEqProofs (disch:=first | omega | (simp only [lenr];try omega)) only [↓amPre,amAll,↓reduceIte,reduceCtorEq,Nat.reduceEqDiff,Nat.reduceBEq,Nat.reduceAdd,Nat.reduceLeDiff,Nat.reduceSub,Nat.reduceMul,Int.reduceToNat,List.size_toArray,tyF,MM,bu0,cbP2,f6,f1,f5,f0,m48,m0,m1,hc,ho.2]
    refine callX_of (hdo) ?_
    simp -dsimp -implicitDefEqProofs (disch:=first | omega | (simp only [lenr];try omega)) only [↓amPre,amAll,↓reduceIte,reduceCtorEq,Nat.reduceEqDiff,Nat.reduceBEq,Nat.reduceAdd,Nat.reduceLeDiff,Nat.reduceSub,Nat.reduceMul,Int.reduceToNat,List.size_toArray,tyF,MM,bu0,cbP2,f6,f1,f5,f0,m48,m0,m1,hc,ho.2]
    refine awp_loopC 7 1 2 1 [itr L,.nilsl] (by simp -dsimp -implicitDefEqProofs (disch:=first | omega | (simp only [lenr];try omega)) only [↓amPre,amAll,↓reduceIte,reduceCtorEq,Nat.reduceEqDiff,Nat.reduceBEq,Nat.reduceAdd,Nat.reduceLeDiff,Nat.reduceSub,Nat.reduceMul,Int.reduceToNat,List.size_toArray,tyF,MM,bu0,cbP2,f6,f1,f5,f0,m48,m0,m1]) (by simp) (by simp) (fun i st=>i≤c∧st.fr 8=.i64 i∧st.fr 7=.loc 7 [] 0 0∧st.fr 6=.i64 k∧st.fr 1=.ref 1 [] 2 0 ks.length∧st.fr 5=.ref 48 [] 2 0 k∧st.fr 0=.loc 0 [] 0 0∧st.mem 48=some (ttr T)∧st.mem 7=some (.pt 2 (.agg [itr L,itr (byK S1 (ks.getD k default).o i).2]))∧st.mem 0=some ((byK S1 (ks.getD k default).o i).1.pt)∧st.mem 1=some (ktr ks)) (c) ?_ ?_
    · simp -dsimp -implicitDefEqProofs (disch:=first | omega | (simp only [lenr];try omega)) only [↓amPre,amAll,↓reduceIte,reduceCtorEq,Nat.reduceEqDiff,Nat.reduceBEq,Nat.reduceAdd,Nat.reduceLeDiff,Nat.reduceSub,Nat.reduceMul,Int.reduceToNat,List.size_toArray,tyF,MM,bu0,cbP2,nilC_eq,f6,f1,f5,f0,m48,m0,m1]
      simp [byK]
    rintro i st _ ⟨hi,f8,f7,f6,f1,f5,f0,m48,m7,m0,m1⟩
    have hbi:=hby i
    have hb1:byK S1 (ks.getD k default).o (i+1)=_:=rfl
    conv at hb1=>rhs;rw [byK]
    by_cases hlt':i<c
    · have hbf:=belowF (byK S1 (ks.getD k default).o i).1 (ks.getD k default).o hbi.1 (by unfold intOk;omega)
      generalize bS (byK S1 (ks.getD k default).o i).1 (ks.getD k default).o=S2 at hb1 hbf
      generalize bX (byK S1 (ks.getD k default).o i).1 (ks.getD k default).o=x at hb1 hbf
      have hlen:(byK S1 (ks.getD k default).o i).2.length≤1099511627775:=by omega
      simp -dsimp -implicitDefEqProofs (disch:=first | omega | (simp only [lenr];try omega)) only [↓amPre,amAll,↓reduceIte,reduceCtorEq,Nat.reduceEqDiff,Nat.reduceBEq,Nat.reduceAdd,Nat.reduceLeDiff,Nat.reduceSub,Nat.reduceMul,Int.reduceToNat,List.size_toArray,tyF,MM,bu0,cbP2,f8,f7,f6,f1,f5,f0,m48,m7,m0,m1,hc,hbi.2]
      refine piv_go 10 8 0 (by decide +kernel) ?_
      simp -dsimp -implicitDefEqProofs (disch:=first | omega | (simp only [lenr];try omega)) only [↓amPre,amAll,↓reduceIte,reduceCtorEq,Nat.reduceEqDiff,Nat.reduceBEq,Nat.reduceAdd,Nat.reduceLeDiff,Nat.reduceSub,Nat.reduceMul,Int.reduceToNat,List.size_toArray,tyF,MM,bu0,cbP2,f8,f7,f6,f1,f5,f0,m48,m7,m0,m1,hc,hbi.2]
      refine pvX_of (hbf.1) ?_
      simp -dsimp -implicitDefEqProofs (disch:=first | omega | (simp only [lenr];try omega)) only [↓amPre,amAll,↓reduceIte,reduceCtorEq,Nat.reduceEqDiff,Nat.reduceBEq,Nat.reduceAdd,Nat.reduceLeDiff,Nat.reduceSub,Nat.reduceMul,Int.reduceToNat,List.size_toArray,tyF,MM,bu0,cbP2,f8,f7,f6,f1,f5,f0,m48,m7,m0,m1,hc,hbi.2,hb1]
      repeat' (first | omega | rfl | exact i64c (by omega) | exact vic (by omega) | apply And.intro)
    · have hie:i=c:=by omega
      subst hie
      simp -dsimp -implicitDefEqProofs (disch:=first | omega | (simp only [lenr];try omega)) only [↓amPre,amAll,↓reduceIte,reduceCtorEq,Nat.reduceEqDiff,Nat.reduceBEq,Nat.reduceAdd,Nat.reduceLeDiff,Nat.reduceSub,Nat.reduceMul,Int.reduceToNat,List.size_toArray,tyF,MM,bu0,cbP2,f8,f7,f6,f1,f5,f0,m48,m7,m0,m1,hc,ho.2,hds]
      repeat' (first | omega | rfl | exact i64c (by omega) | exact vic (by omega) | apply And.intro)
  · have hke:k=ks.length:=by omega
    subst hke
    simp -dsimp -implicitDefEqProofs (disch:=first | omega | (simp only [lenr];try omega)) only [↓amPre,amAll,↓reduceIte,reduceCtorEq,Nat.reduceEqDiff,Nat.reduceBEq,Nat.reduceAdd,Nat.reduceLeDiff,Nat.reduceSub,Nat.reduceMul,Int.reduceToNat,List.size_toArray,tyF,MM,bu0,cbP2,f6,f1,f5,f0,m48,m0,m1,ho.2]
end Draws
end Go.AM
set_option maxRecDepth 8000
namespace Go.AM
namespace Draws
open Go.Proofs
theorem getD_snoc {α:Type} (l:List α) (x:α) (i:Nat) (d:α):(l++[x]).getD i d=if i<l.length then l.getD i d else if i=l.length then x else d:=by
  simp only [List.getD,List.getElem?_append]
  by_cases h:i<l.length
  · simp [h]
  · by_cases h2:i=l.length
    · subst h2;simp
    · have h3:i - l.length≠0:=by omega
      simp [h,h2]
      rw [List.getElem?_eq_none (by simp;omega)];rfl
theorem dsK_get (s:Src) (ks:List Kind) (h:s.ok) (hk:kindsOk ks):∀ k,k≤ks.length→∀ i,i<k→((dsK s ks k).2.getD i default).to.length=(ks.getD i default).c.toNat∧((dsK s ks k).2.getD i default).by'.length=(ks.getD i default).c.toNat
  | 0,_,i,hi=>by omega
  | k+1,hlt,i,hi=>by
    have ih:=dsK_ok s ks h hk k (by omega)
    rw [dsK]
    simp only
    rw [getD_snoc,ih.2]
    obtain ⟨c1,c2,o1,o2,_⟩:=kindsOk_kind hk (mem_getD ks k default (by omega))
    by_cases h1:i<k
    · rw [if_pos h1];exact dsK_get s ks h hk k (by omega) i h1
    · have h2:i=k:=by omega
      subst h2
      rw [if_neg (by omega),if_pos rfl]
      have h3:=ordK_ok (dsK s ks i).1 ih.1 (ks.getD i default).c.toNat (by omega)
      exact ⟨h3.2,(byK_ok _ _ h3.1 (by unfold intOk;omega) _).2⟩
def anyOk (ks:List Kind) (tw:List Twist):Prop:=ks.length≤5∧fewT tw
theorem list_cons {α:Type}:∀ (l:List α),1≤l.length→∃ a r,l=a :: r
  | a :: r,_=>⟨a,r,rfl⟩
end Draws
end Go.AM
set_option maxRecDepth 8000
namespace Go.AM
namespace Draws
open Go.Proofs
noncomputable def mdK (s:Src) (ks:List Kind):Nat→Src×List (List Twist)
  | 0=>(s,[])
  | k+1=>((dsK (mdK s ks k).1 ks ks.length).1,(mdK s ks k).2++[(dsK (mdK s ks k).1 ks ks.length).2])
def twOk (ks:List Kind) (tw:List Twist):Prop:=tw.length=ks.length∧∀ i,i<ks.length→(tw.getD i default).to.length=(ks.getD i default).c.toNat∧(tw.getD i default).by'.length=(ks.getD i default).c.toNat
theorem mdK_ok (s:Src) (ks:List Kind) (h:s.ok) (hk:kindsOk ks):∀ k,(mdK s ks k).1.ok∧(mdK s ks k).2.length=k∧∀ tw∈(mdK s ks k).2,twOk ks tw
  | 0=>⟨h,rfl,fun tw ht=>by cases ht⟩
  | k+1=>by
    obtain ⟨h1,h2,h3⟩:=mdK_ok s ks h hk k
    have h4:=dsK_ok (mdK s ks k).1 ks h1 hk ks.length (Nat.le_refl _)
    have h5:=dsK_get (mdK s ks k).1 ks h1 hk ks.length (Nat.le_refl _)
    refine ⟨h4.1,by simp only [mdK,List.length_append,List.length_singleton,h2],fun tw ht=>?_⟩
    simp only [mdK,List.mem_append,List.mem_singleton] at ht
    rcases ht with ht | rfl
    · exact h3 tw ht
    · exact ⟨h4.2,fun i hi=>h5 i hi⟩
def mdOk (m:Model):Prop:=kindsOk m.ks∧m.nm.length≤3∧(1≤m.mv.length∧m.mv.length≤3)∧∀ tw∈m.mv,twOk m.ks tw
def treeM:OT:=(.alt 0 (.alt 1 (.alt 2 (.alt 3 (.alt 4 (.alt 5 (.alt 6 (.alt 7 (.alt 8 (.alt 9 .done .stop) .stop) .stop) .stop) .stop) .stop) .stop) (.alt 3 (.alt 2 (.alt 4 (.alt 5 (.alt 6 (.alt 7 (.alt 8 (.alt 9 .done .stop) .stop) .stop) .stop) .stop) .stop) (.alt 4 (.alt 2 (.alt 5 (.alt 6 (.alt 7 (.alt 8 (.alt 9 .done .stop) .stop) .stop) .stop) .stop) .stop) .stop)) .stop)) (.alt 2 (.alt 1 (.alt 3 (.alt 4 (.alt 5 (.alt 6 (.alt 7 (.alt 8 (.alt 9 .done .stop) .stop) .stop) .stop) .stop) .stop) .stop) (.alt 3 (.alt 1 (.alt 4 (.alt 5 (.alt 6 (.alt 7 (.alt 8 (.alt 9 .done .stop) .stop) .stop) .stop) .stop) .stop) (.alt 4 (.alt 1 (.alt 5 (.alt 6 (.alt 7 (.alt 8 (.alt 9 .done .stop) .stop) .stop) .stop) .stop) (.alt 5 (.alt 1 (.alt 6 (.alt 7 (.alt 8 (.alt 9 .done .stop) .stop) .stop) .stop) (.alt 6 (.alt 1 (.alt 7 (.alt 8 (.alt 9 .done .stop) .stop) .stop) .stop) .stop)) .stop)) .stop)) .stop)) (.alt 3 (.alt 1 (.alt 2 (.alt 4 (.alt 5 (.alt 6 (.alt 7 (.alt 8 (.alt 9 .done .stop) .stop) .stop) .stop) .stop) .stop) (.alt 4 (.alt 2 (.alt 5 (.alt 6 (.alt 7 (.alt 8 (.alt 9 .done .stop) .stop) .stop) .stop) .stop) .stop) .stop)) (.alt 2 (.alt 1 (.alt 4 (.alt 5 (.alt 6 (.alt 7 (.alt 8 (.alt 9 .done .stop) .stop) .stop) .stop) .stop) .stop) (.alt 4 (.alt 1 (.alt 5 (.alt 6 (.alt 7 (.alt 8 (.alt 9 .done .stop) .stop) .stop) .stop) .stop) (.alt 5 (.alt 1 (.alt 6 (.alt 7 (.alt 8 (.alt 9 .done .stop) .stop) .stop) .stop) (.alt 6 (.alt 1 (.alt 7 (.alt 8 (.alt 9 .done .stop) .stop) .stop) .stop) .stop)) .stop)) .stop)) (.alt 4 (.alt 1 (.alt 2 (.alt 5 (.alt 6 (.alt 7 (.alt 8 (.alt 9 .done .stop) .stop) .stop) .stop) .stop) .stop) (.alt 2 (.alt 1 (.alt 5 (.alt 6 (.alt 7 (.alt 8 (.alt 9 .done .stop) .stop) .stop) .stop) .stop) (.alt 5 (.alt 1 (.alt 6 (.alt 7 (.alt 8 (.alt 9 .done .stop) .stop) .stop) .stop) (.alt 6 (.alt 1 (.alt 7 (.alt 8 (.alt 9 .done .stop) .stop) .stop) .stop) .stop)) .stop)) .stop)) .stop))) .stop))) (.alt 2 (.alt 0 (.alt 1 (.alt 3 (.alt 4 (.alt 5 (.alt 6 (.alt 7 (.alt 8 (.alt 9 .done .stop) .stop) .stop) .stop) .stop) .stop) .stop) (.alt 3 (.alt 1 (.alt 4 (.alt 5 (.alt 6 (.alt 7 (.alt 8 (.alt 9 .done .stop) .stop) .stop) .stop) .stop) .stop) (.alt 4 (.alt 1 (.alt 5 (.alt 6 (.alt 7 (.alt 8 (.alt 9 .done .stop) .stop) .stop) .stop) .stop) (.alt 5 (.alt 1 (.alt 6 (.alt 7 (.alt 8 (.alt 9 .done .stop) .stop) .stop) .stop) (.alt 6 (.alt 1 (.alt 7 (.alt 8 (.alt 9 .done .stop) .stop) .stop) .stop) .stop)) .stop)) .stop)) .stop)) (.alt 3 (.alt 0 (.alt 1 (.alt 4 (.alt 5 (.alt 6 (.alt 7 (.alt 8 (.alt 9 .done .stop) .stop) .stop) .stop) .stop) .stop) (.alt 4 (.alt 1 (.alt 5 (.alt 6 (.alt 7 (.alt 8 (.alt 9 .done .stop) .stop) .stop) .stop) .stop) (.alt 5 (.alt 1 (.alt 6 (.alt 7 (.alt 8 (.alt 9 .done .stop) .stop) .stop) .stop) (.alt 6 (.alt 1 (.alt 7 (.alt 8 (.alt 9 .done .stop) .stop) .stop) .stop) .stop)) .stop)) .stop)) (.alt 4 (.alt 0 (.alt 1 (.alt 5 (.alt 6 (.alt 7 (.alt 8 (.alt 9 .done .stop) .stop) .stop) .stop) .stop) (.alt 5 (.alt 1 (.alt 6 (.alt 7 (.alt 8 (.alt 9 .done .stop) .stop) .stop) .stop) (.alt 6 (.alt 1 (.alt 7 (.alt 8 (.alt 9 .done .stop) .stop) .stop) .stop) .stop)) .stop)) (.alt 5 (.alt 0 (.alt 1 (.alt 6 (.alt 7 (.alt 8 (.alt 9 .done .stop) .stop) .stop) .stop) (.alt 6 (.alt 1 (.alt 7 (.alt 8 (.alt 9 .done .stop) .stop) .stop) .stop) .stop)) (.alt 6 (.alt 0 (.alt 1 (.alt 7 (.alt 8 (.alt 9 .done .stop) .stop) .stop) .stop) .stop) .stop)) .stop)) .stop)) .stop)) (.alt 3 (.alt 0 (.alt 1 (.alt 2 (.alt 4 (.alt 5 (.alt 6 (.alt 7 (.alt 8 (.alt 9 .done .stop) .stop) .stop) .stop) .stop) .stop) (.alt 4 (.alt 2 (.alt 5 (.alt 6 (.alt 7 (.alt 8 (.alt 9 .done .stop) .stop) .stop) .stop) .stop) .stop) .stop)) (.alt 2 (.alt 1 (.alt 4 (.alt 5 (.alt 6 (.alt 7 (.alt 8 (.alt 9 .done .stop) .stop) .stop) .stop) .stop) .stop) (.alt 4 (.alt 1 (.alt 5 (.alt 6 (.alt 7 (.alt 8 (.alt 9 .done .stop) .stop) .stop) .stop) .stop) (.alt 5 (.alt 1 (.alt 6 (.alt 7 (.alt 8 (.alt 9 .done .stop) .stop) .stop) .stop) (.alt 6 (.alt 1 (.alt 7 (.alt 8 (.alt 9 .done .stop) .stop) .stop) .stop) .stop)) .stop)) .stop)) (.alt 4 (.alt 1 (.alt 2 (.alt 5 (.alt 6 (.alt 7 (.alt 8 (.alt 9 .done .stop) .stop) .stop) .stop) .stop) .stop) (.alt 2 (.alt 1 (.alt 5 (.alt 6 (.alt 7 (.alt 8 (.alt 9 .done .stop) .stop) .stop) .stop) .stop) (.alt 5 (.alt 1 (.alt 6 (.alt 7 (.alt 8 (.alt 9 .done .stop) .stop) .stop) .stop) (.alt 6 (.alt 1 (.alt 7 (.alt 8 (.alt 9 .done .stop) .stop) .stop) .stop) .stop)) .stop)) .stop)) .stop))) (.alt 2 (.alt 0 (.alt 1 (.alt 4 (.alt 5 (.alt 6 (.alt 7 (.alt 8 (.alt 9 .done .stop) .stop) .stop) .stop) .stop) .stop) (.alt 4 (.alt 1 (.alt 5 (.alt 6 (.alt 7 (.alt 8 (.alt 9 .done .stop) .stop) .stop) .stop) .stop) (.alt 5 (.alt 1 (.alt 6 (.alt 7 (.alt 8 (.alt 9 .done .stop) .stop) .stop) .stop) (.alt 6 (.alt 1 (.alt 7 (.alt 8 (.alt 9 .done .stop) .stop) .stop) .stop) .stop)) .stop)) .stop)) (.alt 4 (.alt 0 (.alt 1 (.alt 5 (.alt 6 (.alt 7 (.alt 8 (.alt 9 .done .stop) .stop) .stop) .stop) .stop) (.alt 5 (.alt 1 (.alt 6 (.alt 7 (.alt 8 (.alt 9 .done .stop) .stop) .stop) .stop) (.alt 6 (.alt 1 (.alt 7 (.alt 8 (.alt 9 .done .stop) .stop) .stop) .stop) .stop)) .stop)) (.alt 5 (.alt 0 (.alt 1 (.alt 6 (.alt 7 (.alt 8 (.alt 9 .done .stop) .stop) .stop) .stop) (.alt 6 (.alt 1 (.alt 7 (.alt 8 (.alt 9 .done .stop) .stop) .stop) .stop) .stop)) (.alt 6 (.alt 0 (.alt 1 (.alt 7 (.alt 8 (.alt 9 .done .stop) .stop) .stop) .stop) .stop) .stop)) .stop)) .stop)) (.alt 4 (.alt 0 (.alt 1 (.alt 2 (.alt 5 (.alt 6 (.alt 7 (.alt 8 (.alt 9 .done .stop) .stop) .stop) .stop) .stop) .stop) (.alt 2 (.alt 1 (.alt 5 (.alt 6 (.alt 7 (.alt 8 (.alt 9 .done .stop) .stop) .stop) .stop) .stop) (.alt 5 (.alt 1 (.alt 6 (.alt 7 (.alt 8 (.alt 9 .done .stop) .stop) .stop) .stop) (.alt 6 (.alt 1 (.alt 7 (.alt 8 (.alt 9 .done .stop) .stop) .stop) .stop) .stop)) .stop)) .stop)) (.alt 2 (.alt 0 (.alt 1 (.alt 5 (.alt 6 (.alt 7 (.alt 8 (.alt 9 .done .stop) .stop) .stop) .stop) .stop) (.alt 5 (.alt 1 (.alt 6 (.alt 7 (.alt 8 (.alt 9 .done .stop) .stop) .stop) .stop) (.alt 6 (.alt 1 (.alt 7 (.alt 8 (.alt 9 .done .stop) .stop) .stop) .stop) .stop)) .stop)) (.alt 5 (.alt 0 (.alt 1 (.alt 6 (.alt 7 (.alt 8 (.alt 9 .done .stop) .stop) .stop) .stop) (.alt 6 (.alt 1 (.alt 7 (.alt 8 (.alt 9 .done .stop) .stop) .stop) .stop) .stop)) (.alt 6 (.alt 0 (.alt 1 (.alt 7 (.alt 8 (.alt 9 .done .stop) .stop) .stop) .stop) .stop) .stop)) .stop)) .stop)) .stop))) .stop)))
set_option maxHeartbeats 4000000 in
theorem drawModel (s:Src) (h:s.ok):∃ (s':Src) (m:Model),SpecX Try.prog 183 [s.pt] [some s'.pt] m.tr∧s'.ok∧mdOk m:=by
  obtain ⟨s1,ks,q1,k1,hks⟩:=drawKinds s h
  obtain ⟨s2,x2,q2,k2,b1,b2,_⟩:=below s1 3 k1 (by unfold intOk;omega)
  have b2:=b2 (by omega)
  obtain ⟨n0,hn⟩:∃ n:Nat,x2=n:=⟨_,(Int.toNat_of_nonneg b1).symm⟩
  subst hn
  obtain ⟨n,hn⟩:∃ n:Nat,n=1+n0:=⟨_,rfl⟩
  have hn1:(1:Int)+n0=n:=by omega
  have hn3:n≤3:=by omega
  have hmd:=mdK_ok s2 ks k2 hks
  have hml:=(hmd n).2.1
  refine ⟨(mdK s2 ks n).1,⟨ks,([65,66,67]:List UInt8).take n,(mdK s2 ks n).2⟩,?_,(hmd n).1,hks,by simp;omega,by simp only [hml];omega,(hmd n).2.2⟩
  refine spec_of_awp_any (M:=MM) (np:=1) (X:=[7]) (fz:=false) mixed Try.func183 rfl rfl (by decide) rfl (Nat.le_refl _) (by decide +kernel) (.inl rfl) (by simp only [sigsOk_some,sigsOk_nil,and_true];rfl) ?_
  simp -dsimp -implicitDefEqProofs (disch:=first | omega | (simp only [lenr];try omega)) only [↓amPre,amAll,↓reduceIte,reduceCtorEq,Nat.reduceEqDiff,Nat.reduceBEq,Nat.reduceAdd,Nat.reduceLeDiff,Nat.reduceSub,Nat.reduceMul,Int.reduceToNat,List.size_toArray,tyF,MM,bu0,cbP3]
  refine callX_of (q1) ?_
  simp -dsimp -implicitDefEqProofs (disch:=first | omega | (simp only [lenr];try omega)) only [↓amPre,amAll,↓reduceIte,reduceCtorEq,Nat.reduceEqDiff,Nat.reduceBEq,Nat.reduceAdd,Nat.reduceLeDiff,Nat.reduceSub,Nat.reduceMul,Int.reduceToNat,List.size_toArray,tyF,MM,bu0,cbP3]
  refine callX_of (q2) ?_
  simp -dsimp -implicitDefEqProofs (disch:=first | omega | (simp only [lenr];try omega)) only [↓amPre,amAll,↓reduceIte,reduceCtorEq,Nat.reduceEqDiff,Nat.reduceBEq,Nat.reduceAdd,Nat.reduceLeDiff,Nat.reduceSub,Nat.reduceMul,Int.reduceToNat,List.size_toArray,tyF,MM,bu0,cbP3,hn1]
  refine awp_loopC 3 2 3 1 [ktr ks,.st (([65,66,67]:List UInt8).take n),.nilsl] (by simp -dsimp -implicitDefEqProofs (disch:=first | omega | (simp only [lenr];try omega)) only [↓amPre,amAll,↓reduceIte,reduceCtorEq,Nat.reduceEqDiff,Nat.reduceBEq,Nat.reduceAdd,Nat.reduceLeDiff,Nat.reduceSub,Nat.reduceMul,Int.reduceToNat,List.size_toArray,tyF,MM,bu0,cbP3]) (by simp) (by simp) (fun k st=>k≤n∧st.fr 5=.i64 k∧st.fr 4=.i64 n∧st.fr 3=.loc 3 [] 0 0∧st.fr 2=.loc 2 [] 0 0∧st.fr 0=.loc 0 [] 0 0∧st.mem 3=some (.pt 3 (.agg [ktr ks,.st (([65,66,67]:List UInt8).take n),tsst (mdK s2 ks k).2]))∧st.mem 0=some ((mdK s2 ks k).1.pt)∧st.mem 2=some (.pt 3 (.agg [.nilsl,.st [],.nilsl]))) (n) ?_ ?_
  · simp -dsimp -implicitDefEqProofs (disch:=first | omega | (simp only [lenr];try omega)) only [↓amPre,amAll,↓reduceIte,reduceCtorEq,Nat.reduceEqDiff,Nat.reduceBEq,Nat.reduceAdd,Nat.reduceLeDiff,Nat.reduceSub,Nat.reduceMul,Int.reduceToNat,List.size_toArray,tyF,MM,bu0,cbP3,nilC_eq]
    simp [mdK]
  rintro k st _ ⟨hk,f5,f4,f3,f2,f0,m3,m0,m2⟩
  obtain ⟨k3,hl3,_⟩:=hmd k
  by_cases hlt:k<n
  · have hds:=drawState (mdK s2 ks k).1 ks k3 hks
    have hst:mdK s2 ks (k+1)=((dsK (mdK s2 ks k).1 ks ks.length).1,(mdK s2 ks k).2++[(dsK (mdK s2 ks k).1 ks ks.length).2]):=rfl
    rw [hst]
    generalize (dsK (mdK s2 ks k).1 ks ks.length).1=S3 at hds
    generalize (dsK (mdK s2 ks k).1 ks ks.length).2=TW at hds
    generalize (mdK s2 ks k).2=L at *
    generalize (mdK s2 ks k).1=S2 at *
    simp -dsimp -implicitDefEqProofs (disch:=first | omega | (simp only [lenr];try omega)) only [↓amPre,amAll,↓reduceIte,reduceCtorEq,Nat.reduceEqDiff,Nat.reduceBEq,Nat.reduceAdd,Nat.reduceLeDiff,Nat.reduceSub,Nat.reduceMul,Int.reduceToNat,List.size_toArray,tyF,MM,bu0,cbP3,f5,f4,f3,f2,f0,m3,m0,m2]
    refine any_go treeM (fun st'=>st'.fr 5=.i64 k∧st'.fr 4=.i64 n∧st'.fr 3=.loc 3 [] 0 0∧st'.fr 2=.loc 2 [] 0 0∧st'.fr 0=.loc 0 [] 0 0∧st'.mem 3=some (.pt 3 (.agg [ktr ks,.st (([65,66,67]:List UInt8).take n),tsst (L++[TW])]))∧st'.mem 0=some S3.pt∧st'.mem 2=some (.pt 3 (.agg [.nilsl,.st [],.nilsl]))) (by decide +kernel) ?_ ?_
    · simp (maxSteps:=4000000) -dsimp -implicitDefEqProofs (disch:=first | omega | (simp only [lenr];try omega)) only [↓amPre,amAll,↓reduceIte,reduceCtorEq,Nat.reduceEqDiff,Nat.reduceBEq,Nat.reduceAdd,Nat.reduceLeDiff,Nat.reduceSub,Nat.reduceMul,Int.reduceToNat,List.size_toArray,tyF,MM,bu0,cbP3,f5,f4,f3,f2,f0,m3,m0,m2,treeM]
      repeat' apply And.intro
      all_goals refine callX_of hds ?_
      all_goals simp (maxSteps:=4000000) -dsimp -implicitDefEqProofs (disch:=first | omega | (simp only [lenr];try omega)) only [↓amPre,amAll,↓reduceIte,reduceCtorEq,Nat.reduceEqDiff,Nat.reduceBEq,Nat.reduceAdd,Nat.reduceLeDiff,Nat.reduceSub,Nat.reduceMul,Int.reduceToNat,List.size_toArray,tyF,MM,bu0,cbP3,f5,f4,f3,f2,f0,m3,m0,m2]
    · rintro st' ⟨g5,g4,g3,g2,g0,m3',m0',m2'⟩
      simp -dsimp -implicitDefEqProofs (disch:=first | omega | (simp only [lenr];try omega)) only [↓amPre,amAll,↓reduceIte,reduceCtorEq,Nat.reduceEqDiff,Nat.reduceBEq,Nat.reduceAdd,Nat.reduceLeDiff,Nat.reduceSub,Nat.reduceMul,Int.reduceToNat,List.size_toArray,tyF,MM,bu0,cbP3,g5,g4,g3,g2,g0,m3',m0',m2']
      repeat' (first | omega | rfl | exact i64c (by omega) | exact vic (by omega) | apply And.intro)
  · have hke:k=n:=by omega
    subst hke
    simp -dsimp -implicitDefEqProofs (disch:=first | omega | (simp only [lenr];try omega)) only [↓amPre,amAll,↓reduceIte,reduceCtorEq,Nat.reduceEqDiff,Nat.reduceBEq,Nat.reduceAdd,Nat.reduceLeDiff,Nat.reduceSub,Nat.reduceMul,Int.reduceToNat,List.size_toArray,tyF,MM,bu0,cbP3,f5,f4,f3,f2,f0,m3,m0,m2]
def fewM (m:Model):Prop:=m.ks.length≤3∧m.nm.length≤5∧m.mv.length≤3∧∀ tw∈m.mv,fewT tw
theorem mdOk_few {m:Model} (h:mdOk m):fewM m:=⟨h.1.1.2,by have:=h.2.1;omega,h.2.2.1.2,fun tw ht=>by
  obtain ⟨h1,h2⟩:=h.2.2.2 tw ht
  refine fewT_of _ (by rw [h1];exact h.1.1.2) fun t htt=>?_
  obtain ⟨i,hi,rfl⟩:=List.getElem_of_mem htt
  have:=h2 i (by omega)
  rw [getD_eq _ _ _ hi] at this
  obtain ⟨c1,c2,o1,o2,_⟩:=kindsOk_kind h.1 (mem_getD m.ks i default (by omega))
  omega⟩
def nms5:List (List UInt8):=[[],[65,65],[97],[90,89,88,87,86],[65]]
theorem drawModelAny (s:Src) (h:s.ok):∃ (s':Src) (m:Model),SpecX Try.prog 93 [s.pt] [some s'.pt] m.tr∧s'.ok∧fewM m:=by
  obtain ⟨s1,m,q1,k1,hm⟩:=drawModel s h
  have hf:=mdOk_few hm
  obtain ⟨hks,hnm,hmv,htw⟩:=hm
  obtain ⟨s2,b,q2,k2⟩:=oneIn s1 8 k1 (by unfold intOk;omega)
  cases b with
  | false =>
    refine ⟨s2,m,?_,k2,hf⟩
    refine spec_of_awp (M:=MM) (np:=1) (fz:=false) mixed Try.func93 rfl rfl (by decide) rfl (Nat.le_refl _) (by decide +kernel) (.inl rfl) (by simp only [sigsOk_some,sigsOk_nil,and_true];rfl) ?_
    simp -dsimp -implicitDefEqProofs (disch:=first | omega | (simp only [lenr];try omega)) only [↓amPre,amAll,↓reduceIte,reduceCtorEq,Nat.reduceEqDiff,Nat.reduceBEq,Nat.reduceAdd,Nat.reduceLeDiff,Nat.reduceSub,Nat.reduceMul,Int.reduceToNat,List.size_toArray,tyF,MM,bu0,cbP3]
    refine callX_of (q1) ?_
    simp -dsimp -implicitDefEqProofs (disch:=first | omega | (simp only [lenr];try omega)) only [↓amPre,amAll,↓reduceIte,reduceCtorEq,Nat.reduceEqDiff,Nat.reduceBEq,Nat.reduceAdd,Nat.reduceLeDiff,Nat.reduceSub,Nat.reduceMul,Int.reduceToNat,List.size_toArray,tyF,MM,bu0,cbP3]
    refine callX_of (q2) ?_
    simp -dsimp -implicitDefEqProofs (disch:=first | omega | (simp only [lenr];try omega)) only [↓amPre,amAll,↓reduceIte,reduceCtorEq,Nat.reduceEqDiff,Nat.reduceBEq,Nat.reduceAdd,Nat.reduceLeDiff,Nat.reduceSub,Nat.reduceMul,Int.reduceToNat,List.size_toArray,tyF,MM,bu0,cbP3]
  | true =>
  obtain ⟨s3,x3,q3,k3,b1,b2,_⟩:=below s2 5 k2 (by unfold intOk;omega)
  have b2:=b2 (by omega)
  obtain ⟨n,hn⟩:∃ n:Nat,x3=n:=⟨_,(Int.toNat_of_nonneg b1).symm⟩
  have hn5:n<5:=by omega
  subst hn
  obtain ⟨ks,nm,mv⟩:=m
  simp only at hks hnm hmv htw
  obtain ⟨⟨kc,ko⟩,kr,rfl⟩:=list_cons ks hks.1.1
  obtain ⟨tw0,mr,rfl⟩:=list_cons mv hmv.1
  obtain ⟨ht1,ht2⟩:=htw tw0 (List.mem_cons_self ..)
  obtain ⟨⟨t0,y0⟩,tr,rfl⟩:=list_cons tw0 (by rw [ht1];exact hks.1.1)
  have g0:=ht2 0 (by simp)
  obtain ⟨c1,c2,o1,o2,_⟩:=kindsOk_kind hks (show (⟨kc,ko⟩:Kind)∈_ from List.mem_cons_self ..)
  simp only [List.getD_cons_zero] at g0 c1 c2
  obtain ⟨d0,dr,rfl⟩:=list_cons y0 (by omega)
  obtain ⟨f1,f2,f3,f4⟩:=hf
  simp only at f1 f2 f3 f4
  match n,hn5 with
  | 0,_ =>
    obtain ⟨s4,x4,q4,k4,e1,e2,_⟩:=below s3 5 k3 (by unfold intOk;omega)
    have e2:=e2 (by omega)
    obtain ⟨j,hj⟩:∃ j:Nat,x4=j:=⟨_,(Int.toNat_of_nonneg e1).symm⟩
    have hj5:j<5:=by omega
    subst hj
    refine ⟨s4,⟨⟨kc,ko⟩ :: kr,nms5.getD j [],(⟨t0,d0 :: dr⟩ :: tr) :: mr⟩,?_,k4,f1,?_,f3,f4⟩
    · refine spec_of_awp (M:=MM) (np:=1) (fz:=false) mixed Try.func93 rfl rfl (by decide) rfl (Nat.le_refl _) (by decide +kernel) (.inl rfl) (by simp only [sigsOk_some,sigsOk_nil,and_true];rfl) ?_
      simp -dsimp -implicitDefEqProofs (disch:=first | omega | (simp only [lenr];try omega)) only [↓amPre,amAll,↓reduceIte,reduceCtorEq,Nat.reduceEqDiff,Nat.reduceBEq,Nat.reduceAdd,Nat.reduceLeDiff,Nat.reduceSub,Nat.reduceMul,Int.reduceToNat,List.size_toArray,tyF,MM,bu0,cbP3]
      refine callX_of (q1) ?_
      simp -dsimp -implicitDefEqProofs (disch:=first | omega | (simp only [lenr];try omega)) only [↓amPre,amAll,↓reduceIte,reduceCtorEq,Nat.reduceEqDiff,Nat.reduceBEq,Nat.reduceAdd,Nat.reduceLeDiff,Nat.reduceSub,Nat.reduceMul,Int.reduceToNat,List.size_toArray,tyF,MM,bu0,cbP3]
      refine callX_of (q2) ?_
      simp -dsimp -implicitDefEqProofs (disch:=first | omega | (simp only [lenr];try omega)) only [↓amPre,amAll,↓reduceIte,reduceCtorEq,Nat.reduceEqDiff,Nat.reduceBEq,Nat.reduceAdd,Nat.reduceLeDiff,Nat.reduceSub,Nat.reduceMul,Int.reduceToNat,List.size_toArray,tyF,MM,bu0,cbP3]
      refine callX_of (q3) ?_
      simp -dsimp -implicitDefEqProofs (disch:=first | omega | (simp only [lenr];try omega)) only [↓amPre,amAll,↓reduceIte,reduceCtorEq,Nat.reduceEqDiff,Nat.reduceBEq,Nat.reduceAdd,Nat.reduceLeDiff,Nat.reduceSub,Nat.reduceMul,Int.reduceToNat,List.size_toArray,tyF,MM,bu0,cbP3]
      refine callX_of (q4) ?_
      match j,hj5 with
      | 0,_ =>
        simp -dsimp -implicitDefEqProofs (disch:=first | omega | (simp only [lenr];try omega)) only [↓amPre,amAll,↓reduceIte,reduceCtorEq,Nat.reduceEqDiff,Nat.reduceBEq,Nat.reduceAdd,Nat.reduceLeDiff,Nat.reduceSub,Nat.reduceMul,Int.reduceToNat,List.size_toArray,tyF,MM,bu0,cbP3,nms5]
      | 1,_ =>
        simp -dsimp -implicitDefEqProofs (disch:=first | omega | (simp only [lenr];try omega)) only [↓amPre,amAll,↓reduceIte,reduceCtorEq,Nat.reduceEqDiff,Nat.reduceBEq,Nat.reduceAdd,Nat.reduceLeDiff,Nat.reduceSub,Nat.reduceMul,Int.reduceToNat,List.size_toArray,tyF,MM,bu0,cbP3,nms5]
      | 2,_ =>
        simp -dsimp -implicitDefEqProofs (disch:=first | omega | (simp only [lenr];try omega)) only [↓amPre,amAll,↓reduceIte,reduceCtorEq,Nat.reduceEqDiff,Nat.reduceBEq,Nat.reduceAdd,Nat.reduceLeDiff,Nat.reduceSub,Nat.reduceMul,Int.reduceToNat,List.size_toArray,tyF,MM,bu0,cbP3,nms5]
      | 3,_ =>
        simp -dsimp -implicitDefEqProofs (disch:=first | omega | (simp only [lenr];try omega)) only [↓amPre,amAll,↓reduceIte,reduceCtorEq,Nat.reduceEqDiff,Nat.reduceBEq,Nat.reduceAdd,Nat.reduceLeDiff,Nat.reduceSub,Nat.reduceMul,Int.reduceToNat,List.size_toArray,tyF,MM,bu0,cbP3,nms5]
      | 4,_ =>
        simp -dsimp -implicitDefEqProofs (disch:=first | omega | (simp only [lenr];try omega)) only [↓amPre,amAll,↓reduceIte,reduceCtorEq,Nat.reduceEqDiff,Nat.reduceBEq,Nat.reduceAdd,Nat.reduceLeDiff,Nat.reduceSub,Nat.reduceMul,Int.reduceToNat,List.size_toArray,tyF,MM,bu0,cbP3,nms5]
    · match j,hj5 with
      | 0,_ | 1,_ | 2,_ | 3,_ | 4,_=>simp [nms5]
  | 1,_ =>
    refine ⟨s3,⟨⟨kc,ko⟩ :: kr,nm,mr⟩,?_,k3,f1,f2,by simp only [List.length_cons] at f3 ⊢;omega,fun t ht=>f4 t (List.mem_cons_of_mem _ ht)⟩
    refine spec_of_awp (M:=MM) (np:=1) (fz:=false) mixed Try.func93 rfl rfl (by decide) rfl (Nat.le_refl _) (by decide +kernel) (.inl rfl) (by simp only [sigsOk_some,sigsOk_nil,and_true];rfl) ?_
    simp -dsimp -implicitDefEqProofs (disch:=first | omega | (simp only [lenr];try omega)) only [↓amPre,amAll,↓reduceIte,reduceCtorEq,Nat.reduceEqDiff,Nat.reduceBEq,Nat.reduceAdd,Nat.reduceLeDiff,Nat.reduceSub,Nat.reduceMul,Int.reduceToNat,List.size_toArray,tyF,MM,bu0,cbP3]
    refine callX_of (q1) ?_
    simp -dsimp -implicitDefEqProofs (disch:=first | omega | (simp only [lenr];try omega)) only [↓amPre,amAll,↓reduceIte,reduceCtorEq,Nat.reduceEqDiff,Nat.reduceBEq,Nat.reduceAdd,Nat.reduceLeDiff,Nat.reduceSub,Nat.reduceMul,Int.reduceToNat,List.size_toArray,tyF,MM,bu0,cbP3]
    refine callX_of (q2) ?_
    simp -dsimp -implicitDefEqProofs (disch:=first | omega | (simp only [lenr];try omega)) only [↓amPre,amAll,↓reduceIte,reduceCtorEq,Nat.reduceEqDiff,Nat.reduceBEq,Nat.reduceAdd,Nat.reduceLeDiff,Nat.reduceSub,Nat.reduceMul,Int.reduceToNat,List.size_toArray,tyF,MM,bu0,cbP3]
    refine callX_of (q3) ?_
    simp -dsimp -implicitDefEqProofs (disch:=first | omega | (simp only [lenr];try omega)) only [↓amPre,amAll,↓reduceIte,reduceCtorEq,Nat.reduceEqDiff,Nat.reduceBEq,Nat.reduceAdd,Nat.reduceLeDiff,Nat.reduceSub,Nat.reduceMul,Int.reduceToNat,List.size_toArray,tyF,MM,bu0,cbP3,pullR]
  | 2,_ =>
    obtain ⟨s4,x4,q4,k4,_⟩:=between s3 (-1) 3 k3 (by omega) (by omega) (by omega)
    refine ⟨s4,⟨⟨kc,ko⟩ :: kr,nm,(⟨t0,x4 :: dr⟩ :: tr) :: mr⟩,?_,k4,f1,f2,f3,fun t ht=>?_⟩
    · refine spec_of_awp_any (M:=MM) (np:=1) (X:=[9,11]) (fz:=false) mixed Try.func93 rfl rfl (by decide) rfl (Nat.le_refl _) (by decide +kernel) (.inl rfl) (by simp only [sigsOk_some,sigsOk_nil,and_true];rfl) ?_
      simp -dsimp -implicitDefEqProofs (disch:=first | omega | (simp only [lenr];try omega)) only [↓amPre,amAll,↓reduceIte,reduceCtorEq,Nat.reduceEqDiff,Nat.reduceBEq,Nat.reduceAdd,Nat.reduceLeDiff,Nat.reduceSub,Nat.reduceMul,Int.reduceToNat,List.size_toArray,tyF,MM,bu0,cbP3]
      refine callX_of (q1) ?_
      simp -dsimp -implicitDefEqProofs (disch:=first | omega | (simp only [lenr];try omega)) only [↓amPre,amAll,↓reduceIte,reduceCtorEq,Nat.reduceEqDiff,Nat.reduceBEq,Nat.reduceAdd,Nat.reduceLeDiff,Nat.reduceSub,Nat.reduceMul,Int.reduceToNat,List.size_toArray,tyF,MM,bu0,cbP3]
      refine callX_of (q2) ?_
      simp -dsimp -implicitDefEqProofs (disch:=first | omega | (simp only [lenr];try omega)) only [↓amPre,amAll,↓reduceIte,reduceCtorEq,Nat.reduceEqDiff,Nat.reduceBEq,Nat.reduceAdd,Nat.reduceLeDiff,Nat.reduceSub,Nat.reduceMul,Int.reduceToNat,List.size_toArray,tyF,MM,bu0,cbP3]
      refine callX_of (q3) ?_
      simp -dsimp -implicitDefEqProofs (disch:=first | omega | (simp only [lenr];try omega)) only [↓amPre,amAll,↓reduceIte,reduceCtorEq,Nat.reduceEqDiff,Nat.reduceBEq,Nat.reduceAdd,Nat.reduceLeDiff,Nat.reduceSub,Nat.reduceMul,Int.reduceToNat,List.size_toArray,tyF,MM,bu0,cbP3]
      refine piv_go 9 8 0 (by decide +kernel) ?_
      simp -dsimp -implicitDefEqProofs (disch:=first | omega | (simp only [lenr];try omega)) only [↓amPre,amAll,↓reduceIte,reduceCtorEq,Nat.reduceEqDiff,Nat.reduceBEq,Nat.reduceAdd,Nat.reduceLeDiff,Nat.reduceSub,Nat.reduceMul,Int.reduceToNat,List.size_toArray,tyF,MM,bu0,cbP3,Twist.tr]
      refine pvX_of (q4) ?_
      simp -dsimp -implicitDefEqProofs (disch:=first | omega | (simp only [lenr];try omega)) only [↓amPre,amAll,↓reduceIte,reduceCtorEq,Nat.reduceEqDiff,Nat.reduceBEq,Nat.reduceAdd,Nat.reduceLeDiff,Nat.reduceSub,Nat.reduceMul,Int.reduceToNat,List.size_toArray,tyF,MM,bu0,cbP3,Twist.tr]
      rfl
    · rcases List.mem_cons.1 ht with rfl | ht
      · have h0:=f4 _ (List.mem_cons_self ..)
        refine fewT_of _ h0.1 fun t ht=>?_
        rcases List.mem_cons.1 ht with rfl | ht
        · exact h0.2.1 ⟨t0,d0 :: dr⟩ (List.mem_cons_self ..)
        · exact h0.2.1 t (List.mem_cons_of_mem _ ht)
      · exact f4 t (List.mem_cons_of_mem _ ht)
  | 3,_ =>
    obtain ⟨s4,x4,q4,k4,_⟩:=numberUpTo s3 5 k3 (by omega) (by omega)
    refine ⟨s4,⟨⟨x4,ko⟩ :: kr,nm,(⟨t0,d0 :: dr⟩ :: tr) :: mr⟩,?_,k4,f1,f2,f3,f4⟩
    refine spec_of_awp_any (M:=MM) (np:=1) (X:=[9,11]) (fz:=false) mixed Try.func93 rfl rfl (by decide) rfl (Nat.le_refl _) (by decide +kernel) (.inl rfl) (by simp only [sigsOk_some,sigsOk_nil,and_true];rfl) ?_
    simp -dsimp -implicitDefEqProofs (disch:=first | omega | (simp only [lenr];try omega)) only [↓amPre,amAll,↓reduceIte,reduceCtorEq,Nat.reduceEqDiff,Nat.reduceBEq,Nat.reduceAdd,Nat.reduceLeDiff,Nat.reduceSub,Nat.reduceMul,Int.reduceToNat,List.size_toArray,tyF,MM,bu0,cbP3]
    refine callX_of (q1) ?_
    simp -dsimp -implicitDefEqProofs (disch:=first | omega | (simp only [lenr];try omega)) only [↓amPre,amAll,↓reduceIte,reduceCtorEq,Nat.reduceEqDiff,Nat.reduceBEq,Nat.reduceAdd,Nat.reduceLeDiff,Nat.reduceSub,Nat.reduceMul,Int.reduceToNat,List.size_toArray,tyF,MM,bu0,cbP3]
    refine callX_of (q2) ?_
    simp -dsimp -implicitDefEqProofs (disch:=first | omega | (simp only [lenr];try omega)) only [↓amPre,amAll,↓reduceIte,reduceCtorEq,Nat.reduceEqDiff,Nat.reduceBEq,Nat.reduceAdd,Nat.reduceLeDiff,Nat.reduceSub,Nat.reduceMul,Int.reduceToNat,List.size_toArray,tyF,MM,bu0,cbP3]
    refine callX_of (q3) ?_
    simp -dsimp -implicitDefEqProofs (disch:=first | omega | (simp only [lenr];try omega)) only [↓amPre,amAll,↓reduceIte,reduceCtorEq,Nat.reduceEqDiff,Nat.reduceBEq,Nat.reduceAdd,Nat.reduceLeDiff,Nat.reduceSub,Nat.reduceMul,Int.reduceToNat,List.size_toArray,tyF,MM,bu0,cbP3]
    refine piv_go 4 3 0 (by decide +kernel) ?_
    simp -dsimp -implicitDefEqProofs (disch:=first | omega | (simp only [lenr];try omega)) only [↓amPre,amAll,↓reduceIte,reduceCtorEq,Nat.reduceEqDiff,Nat.reduceBEq,Nat.reduceAdd,Nat.reduceLeDiff,Nat.reduceSub,Nat.reduceMul,Int.reduceToNat,List.size_toArray,tyF,MM,bu0,cbP3,Kind.av]
    refine pvX_of (q4) ?_
    simp -dsimp -implicitDefEqProofs (disch:=first | omega | (simp only [lenr];try omega)) only [↓amPre,amAll,↓reduceIte,reduceCtorEq,Nat.reduceEqDiff,Nat.reduceBEq,Nat.reduceAdd,Nat.reduceLeDiff,Nat.reduceSub,Nat.reduceMul,Int.reduceToNat,List.size_toArray,tyF,MM,bu0,cbP3,Kind.av]
  | 4,_ =>
    refine ⟨s3,⟨kr,nm,(⟨t0,d0 :: dr⟩ :: tr) :: mr⟩,?_,k3,by simp only [List.length_cons] at f1 ⊢;omega,f2,f3,f4⟩
    refine spec_of_awp (M:=MM) (np:=1) (fz:=false) mixed Try.func93 rfl rfl (by decide) rfl (Nat.le_refl _) (by decide +kernel) (.inl rfl) (by simp only [sigsOk_some,sigsOk_nil,and_true];rfl) ?_
    simp -dsimp -implicitDefEqProofs (disch:=first | omega | (simp only [lenr];try omega)) only [↓amPre,amAll,↓reduceIte,reduceCtorEq,Nat.reduceEqDiff,Nat.reduceBEq,Nat.reduceAdd,Nat.reduceLeDiff,Nat.reduceSub,Nat.reduceMul,Int.reduceToNat,List.size_toArray,tyF,MM,bu0,cbP3]
    refine callX_of (q1) ?_
    simp -dsimp -implicitDefEqProofs (disch:=first | omega | (simp only [lenr];try omega)) only [↓amPre,amAll,↓reduceIte,reduceCtorEq,Nat.reduceEqDiff,Nat.reduceBEq,Nat.reduceAdd,Nat.reduceLeDiff,Nat.reduceSub,Nat.reduceMul,Int.reduceToNat,List.size_toArray,tyF,MM,bu0,cbP3]
    refine callX_of (q2) ?_
    simp -dsimp -implicitDefEqProofs (disch:=first | omega | (simp only [lenr];try omega)) only [↓amPre,amAll,↓reduceIte,reduceCtorEq,Nat.reduceEqDiff,Nat.reduceBEq,Nat.reduceAdd,Nat.reduceLeDiff,Nat.reduceSub,Nat.reduceMul,Int.reduceToNat,List.size_toArray,tyF,MM,bu0,cbP3]
    refine callX_of (q3) ?_
    simp -dsimp -implicitDefEqProofs (disch:=first | omega | (simp only [lenr];try omega)) only [↓amPre,amAll,↓reduceIte,reduceCtorEq,Nat.reduceEqDiff,Nat.reduceBEq,Nat.reduceAdd,Nat.reduceLeDiff,Nat.reduceSub,Nat.reduceMul,Int.reduceToNat,List.size_toArray,tyF,MM,bu0,cbP3,pullR]
end Draws
end Go.AM
set_option maxRecDepth 8000
namespace Go.AM
namespace Dv
open Go.Proofs
open Draws (drawModelAny fewM oneIn)
abbrev Sc:=Draws.Src
def MM:FuncId→List Bool:=fun f=>if f=163 then [true,false] else if f=93 then [true] else if f=79 then [true] else []
noncomputable def oS (s:Sc) (n:Int):Sc:=open Classical in if h:s.ok∧intOk n then (oneIn s n h.1 h.2).choose else s
noncomputable def oB (s:Sc) (n:Int):Bool:=open Classical in if h:s.ok∧intOk n then (oneIn s n h.1 h.2).choose_spec.choose else false
theorem oneF (s:Sc) (n:Int) (h:s.ok) (hn:intOk n):SpecX Try.prog 163 [s.pt,.i64 n] [some (oS s n).pt] (.bl (oB s n))∧(oS s n).ok:=by
  have:=(oneIn s n h hn).choose_spec.choose_spec
  unfold oS oB
  rw [dif_pos ⟨h,hn⟩,dif_pos ⟨h,hn⟩]
  exact this
def by1 (k:Kind) (t:Twist):List Int:=t.by'.set 0 ((t.by'.getD 0 0+k.o - twS k t).tmod k.o)
def to1 (t:Twist):List Int:=(t.to.set 0 (t.to.getD 1 0)).set 1 (t.to.getD 0 0)
def setT (mv:List (List Twist)) (i k:Nat) (t:Twist):List (List Twist):=mv.set i ((mv.getD i default).set k t)
noncomputable def stp (ks:List Kind) (i:Nat) (p:Sc×List (List Twist)) (k:Nat):Sc×List (List Twist) :=
  if 1<((p.2.getD i default).getD k default).to.length∧sgnI ((p.2.getD i default).getD k default).to<0 then
    (oS p.1 2,setT p.2 i k ⟨if oB p.1 2 then to1 ((p.2.getD i default).getD k default) else ((p.2.getD i default).getD k default).to,by1 (ks.getD k default) ((p.2.getD i default).getD k default)⟩)
  else (p.1,setT p.2 i k ⟨((p.2.getD i default).getD k default).to,by1 (ks.getD k default) ((p.2.getD i default).getD k default)⟩)
noncomputable def inn (ks:List Kind) (i:Nat) (p:Sc×List (List Twist)):Nat→Sc×List (List Twist)
  | 0=>p
  | k+1=>stp ks i (inn ks i p k) k
noncomputable def outK (ks:List Kind) (p:Sc×List (List Twist)):Nat→Sc×List (List Twist)
  | 0=>p
  | i+1=>inn ks i (outK ks p i) ks.length
def okP (ks:List Kind) (N:Nat) (p:Sc×List (List Twist)):Prop:=p.1.ok∧p.2.length=N∧∀ s∈p.2,psOk ks s
theorem by1_ok {k:Kind} {t:Twist} (hk:kOk k) (h:twOk k t):(by1 k t).length=t.by'.length∧∀ x∈by1 k t,0≤x∧x<k.o:=by
  obtain ⟨c,o,hc,ho,la,la',c1,c2,o1,o2⟩:=twOk_facts h hk
  refine ⟨by rw [by1,List.length_set],fun x hx=>?_⟩
  rcases List.mem_or_eq_of_mem_set hx with q | q
  · exact h.2.2.2 x q
  · have h0:=by_get h (show 0<t.by'.length by omega)
    have nb:=Ih.sumI_nonneg t.by' (fun x hx=>(h.2.2.2 x hx).1)
    have ht:=tmod_in nb (show 0<k.o by omega)
    have:twS k t=(sumI t.by').tmod k.o:=rfl
    rw [q]
    exact tmod_in (by omega) (by omega)
theorem to1_perm {t:Twist} (h:isPerm t.to) (h2:1<t.to.length):isPerm (to1 t)∧(to1 t).length=t.to.length:=by
  have hl:(to1 t).length=t.to.length:=by unfold to1;rw [List.length_set,List.length_set]
  have hg:∀ a,a<t.to.length→(to1 t).getD a 0=if a=1 then t.to.getD 0 0 else if a=0 then t.to.getD 1 0 else t.to.getD a 0:=by
    intro a ha
    unfold to1
    by_cases c1:a=1
    · subst c1;rw [if_pos rfl,getD_set_same _ _ _ _ (by rw [List.length_set];exact ha)]
    · rw [if_neg c1,getD_set_ne _ _ _ _ _ (Ne.symm c1)]
      by_cases c0:a=0
      · subst c0;rw [if_pos rfl,getD_set_same _ _ _ _ ha]
      · rw [if_neg c0,getD_set_ne _ _ _ _ _ (Ne.symm c0)]
  refine ⟨isPerm_of (by rw [hl];exact h.1) (fun a ha=>?_) (fun a b ha hb e=>?_),hl⟩
  · rw [hl] at ha ⊢
    rw [hg a ha]
    have:=perm_get h ha;have:=perm_get h (show 0<t.to.length by omega);have:=perm_get h h2
    split
    · omega
    · split <;> omega
  · rw [hl] at ha hb
    rw [hg a ha,hg b hb] at e
    have key:∀ x y,x<t.to.length→y<t.to.length→t.to.getD x 0=t.to.getD y 0→x=y:=fun x y hx hy=>perm_inj h hx hy
    split at e <;> split at e <;> (try split at e) <;> (try split at e) <;> (first | omega | (have:=key _ _ (by omega) (by omega) e;omega))
theorem setT_ok {ks:List Kind} {mv:List (List Twist)} {N i k:Nat} {t:Twist} (hi:i<N) (hl:mv.length=N) (h:∀ s∈mv,psOk ks s) (hk:k<ks.length) (ht:twOk (ks.getD k default) t):(setT mv i k t).length=N∧∀ s∈setT mv i k t,psOk ks s:=by
  refine ⟨by rw [setT,List.length_set,hl],fun s hs=>?_⟩
  rcases List.mem_or_eq_of_mem_set hs with q | q
  · exact h s q
  · have hp:=h _ (mem_getD mv i default (by omega))
    rw [q]
    refine ⟨hp.1,by rw [List.length_set];exact hp.2.1,fun a ha=>?_⟩
    by_cases c:a=k
    · subst c
      rw [getD_set_same _ _ _ _ (by rw [hp.2.1];exact hk)]
      exact ht
    · rw [getD_set_ne _ _ _ _ _ (Ne.symm c)]
      exact hp.2.2 a ha
theorem stp_ok {ks:List Kind} {N i k:Nat} {p:Sc×List (List Twist)} (hi:i<N) (hk:k<ks.length) (h:okP ks N p):okP ks N (stp ks i p k):=by
  obtain ⟨h1,h2,h3⟩:=h
  have hp:=h3 _ (mem_getD p.2 i default (by omega))
  have hko:=hp.1.2.1 _ (mem_getD ks k default hk)
  have ht:=hp.2.2 k hk
  obtain ⟨b1,b2⟩:=by1_ok hko ht
  unfold stp
  split
  · rename_i hc
    obtain ⟨p1,p2⟩:=to1_perm ht.2.2.1 hc.1
    have:=setT_ok (t:=⟨if oB p.1 2 then to1 ((p.2.getD i default).getD k default) else ((p.2.getD i default).getD k default).to,by1 (ks.getD k default) ((p.2.getD i default).getD k default)⟩) hi h2 h3 hk (by
      refine ⟨?_,by rw [b1];exact ht.2.1,?_,b2⟩
      · dsimp only;split
        · rw [p2];exact ht.1
        · exact ht.1
      · dsimp only;split
        · exact p1
        · exact ht.2.2.1)
    exact ⟨(oneF p.1 2 h1 (by unfold intOk;omega)).2,this.1,this.2⟩
  · have:=setT_ok (t:=⟨((p.2.getD i default).getD k default).to,by1 (ks.getD k default) ((p.2.getD i default).getD k default)⟩) hi h2 h3 hk ⟨ht.1,by rw [b1];exact ht.2.1,ht.2.2.1,b2⟩
    exact ⟨h1,this.1,this.2⟩
theorem inn_ok {ks:List Kind} {N i:Nat} {p:Sc×List (List Twist)} (hi:i<N) (h:okP ks N p):∀ k,k≤ks.length→okP ks N (inn ks i p k)
  | 0,_=>h
  | k+1,hk=>stp_ok hi (by omega) (inn_ok hi h k (by omega))
theorem outK_ok {ks:List Kind} {N:Nat} {p:Sc×List (List Twist)} (h:okP ks N p):∀ i,i≤N→okP ks N (outK ks p i)
  | 0,_=>h
  | i+1,hi=>inn_ok (by omega) (outK_ok h i (by omega)) _ (Nat.le_refl _)
theorem few_small {m:Model} (h:fewM m):smallM m:=by
  obtain ⟨h1,h2,h3,h4⟩:=h
  refine ⟨by omega,by omega,by omega,fun s hs=>?_⟩
  have:=h4 s hs
  exact ⟨by have:=this.1;omega,fun t ht=>by have:=this.2.1 t ht;omega⟩
theorem ok_few {m:Model} (hm:modelOk m) (hl:m.mv.length≤3) (hn:m.nm.length≤5) {mv:List (List Twist)} (h1:mv.length=m.mv.length) (h:∀ s∈mv,psOk m.ks s):fewM ⟨m.ks,m.nm,mv⟩:=by
  refine ⟨hm.1.1.2,hn,by simp only;omega,fun s hs=>?_⟩
  have hp:=h s hs
  refine fewT_of _ (by rw [hp.2.1];exact hm.1.1.2) fun t htt=>?_
  obtain ⟨i,hi,rfl⟩:=List.getElem_of_mem htt
  have:=hp.2.2 i (by rw [← hp.2.1];exact hi)
  rw [getD_eq _ _ _ hi] at this
  have hk:=hm.1.2.1 _ (mem_getD m.ks i default (by rw [← hp.2.1];exact hi))
  have e1:=this.1
  have e2:=this.2.1
  have e3:=hk.1
  omega
end Dv
end Go.AM
set_option maxRecDepth 8000
namespace Go.AM
namespace Dv
open Go.Proofs
open Draws (drawModelAny fewM oneIn)
theorem l22Draw (s:Sc) (h:s.ok):∃ (s':Sc) (m:Model),SpecX Try.prog 79 [s.pt] [some s'.pt] m.tr∧s'.ok∧fewM m:=by
  obtain ⟨s1,m,q1,k1,hm⟩:=drawModelAny s h
  have hsm:=few_small hm
  have q2:=sIsValidPieceModel m hsm
  by_cases c1:modelOk m
  case neg =>
    rw [decide_eq_false c1] at q2
    refine ⟨s1,m,?_,k1,hm⟩
    refine spec_of_awp_any (M:=MM) (np:=1) (X:=[10,11,14]) (fz:=false) mixed Try.func79 rfl rfl (by decide) rfl (Nat.le_refl _) (by decide +kernel) (.inl rfl) (by simp only [sigsOk_some,sigsOk_nil,and_true];rfl) ?_
    simp -dsimp -implicitDefEqProofs (disch:=first | omega | (simp only [lenr];try omega)) only [↓amPre,amAll,↓reduceIte,reduceCtorEq,Nat.reduceEqDiff,Nat.reduceBEq,Nat.reduceAdd,Nat.reduceLeDiff,Nat.reduceSub,Nat.reduceMul,Int.reduceToNat,List.size_toArray,tyF,MM,bu0,cbP9]
    refine callX_of (q1) ?_
    simp -dsimp -implicitDefEqProofs (disch:=first | omega | (simp only [lenr];try omega)) only [↓amPre,amAll,↓reduceIte,reduceCtorEq,Nat.reduceEqDiff,Nat.reduceBEq,Nat.reduceAdd,Nat.reduceLeDiff,Nat.reduceSub,Nat.reduceMul,Int.reduceToNat,List.size_toArray,tyF,MM,bu0,cbP9,kfz,tssfz]
    refine callP_of (q2) ?_
    simp -dsimp -implicitDefEqProofs (disch:=first | omega | (simp only [lenr];try omega)) only [↓amPre,amAll,↓reduceIte,reduceCtorEq,Nat.reduceEqDiff,Nat.reduceBEq,Nat.reduceAdd,Nat.reduceLeDiff,Nat.reduceSub,Nat.reduceMul,Int.reduceToNat,List.size_toArray,tyF,MM,bu0,cbP9,kfz,tssfz]
  rw [decide_eq_true c1] at q2
  obtain ⟨q3,k3⟩:=oneF s1 3 k1 (by unfold intOk;omega)
  cases b:oB s1 3 with
  | true =>
    rw [b] at q3
    refine ⟨oS s1 3,m,?_,k3,hm⟩
    refine spec_of_awp_any (M:=MM) (np:=1) (X:=[10,11,14]) (fz:=false) mixed Try.func79 rfl rfl (by decide) rfl (Nat.le_refl _) (by decide +kernel) (.inl rfl) (by simp only [sigsOk_some,sigsOk_nil,and_true];rfl) ?_
    simp -dsimp -implicitDefEqProofs (disch:=first | omega | (simp only [lenr];try omega)) only [↓amPre,amAll,↓reduceIte,reduceCtorEq,Nat.reduceEqDiff,Nat.reduceBEq,Nat.reduceAdd,Nat.reduceLeDiff,Nat.reduceSub,Nat.reduceMul,Int.reduceToNat,List.size_toArray,tyF,MM,bu0,cbP9]
    refine callX_of (q1) ?_
    simp -dsimp -implicitDefEqProofs (disch:=first | omega | (simp only [lenr];try omega)) only [↓amPre,amAll,↓reduceIte,reduceCtorEq,Nat.reduceEqDiff,Nat.reduceBEq,Nat.reduceAdd,Nat.reduceLeDiff,Nat.reduceSub,Nat.reduceMul,Int.reduceToNat,List.size_toArray,tyF,MM,bu0,cbP9,kfz,tssfz]
    refine callP_of (q2) ?_
    simp -dsimp -implicitDefEqProofs (disch:=first | omega | (simp only [lenr];try omega)) only [↓amPre,amAll,↓reduceIte,reduceCtorEq,Nat.reduceEqDiff,Nat.reduceBEq,Nat.reduceAdd,Nat.reduceLeDiff,Nat.reduceSub,Nat.reduceMul,Int.reduceToNat,List.size_toArray,tyF,MM,bu0,cbP9,kfz,tssfz]
    refine callX_of (q3) ?_
    simp -dsimp -implicitDefEqProofs (disch:=first | omega | (simp only [lenr];try omega)) only [↓amPre,amAll,↓reduceIte,reduceCtorEq,Nat.reduceEqDiff,Nat.reduceBEq,Nat.reduceAdd,Nat.reduceLeDiff,Nat.reduceSub,Nat.reduceMul,Int.reduceToNat,List.size_toArray,tyF,MM,bu0,cbP9]
  | false =>
  rw [b] at q3
  obtain ⟨ks,nm,mv⟩:=m
  obtain ⟨f1,f2,f3,f4⟩:=hm
  dsimp only at f1 f2 f3 f4
  have hP0:okP ks mv.length (oS s1 3,mv):=⟨k3,rfl,c1.2.2.2⟩
  generalize oS s1 3=S0 at *
  have hfin:=outK_ok hP0 mv.length (Nat.le_refl _)
  refine ⟨(outK ks (S0,mv) mv.length).1,⟨ks,nm,(outK ks (S0,mv) mv.length).2⟩,?_,hfin.1,ok_few c1 f3 f2 hfin.2.1 hfin.2.2⟩
  have hkl:ks.length≤3:=f1
  refine spec_of_awp_any (M:=MM) (np:=1) (X:=[10,11,14]) (fz:=false) mixed Try.func79 rfl rfl (by decide) rfl (Nat.le_refl _) (by decide +kernel) (.inl rfl) (by simp only [sigsOk_some,sigsOk_nil,and_true];rfl) ?_
  simp -dsimp -implicitDefEqProofs (disch:=first | omega | (simp only [lenr];try omega)) only [↓amPre,amAll,↓reduceIte,reduceCtorEq,Nat.reduceEqDiff,Nat.reduceBEq,Nat.reduceAdd,Nat.reduceLeDiff,Nat.reduceSub,Nat.reduceMul,Int.reduceToNat,List.size_toArray,tyF,MM,bu0,cbP9]
  refine callX_of (q1) ?_
  simp -dsimp -implicitDefEqProofs (disch:=first | omega | (simp only [lenr];try omega)) only [↓amPre,amAll,↓reduceIte,reduceCtorEq,Nat.reduceEqDiff,Nat.reduceBEq,Nat.reduceAdd,Nat.reduceLeDiff,Nat.reduceSub,Nat.reduceMul,Int.reduceToNat,List.size_toArray,tyF,MM,bu0,cbP9,kfz,tssfz]
  refine callP_of (q2) ?_
  simp -dsimp -implicitDefEqProofs (disch:=first | omega | (simp only [lenr];try omega)) only [↓amPre,amAll,↓reduceIte,reduceCtorEq,Nat.reduceEqDiff,Nat.reduceBEq,Nat.reduceAdd,Nat.reduceLeDiff,Nat.reduceSub,Nat.reduceMul,Int.reduceToNat,List.size_toArray,tyF,MM,bu0,cbP9,kfz,tssfz]
  refine callX_of (q3) ?_
  simp -dsimp -implicitDefEqProofs (disch:=first | omega | (simp only [lenr];try omega)) only [↓amPre,amAll,↓reduceIte,reduceCtorEq,Nat.reduceEqDiff,Nat.reduceBEq,Nat.reduceAdd,Nat.reduceLeDiff,Nat.reduceSub,Nat.reduceMul,Int.reduceToNat,List.size_toArray,tyF,MM,bu0,cbP9]
  refine awp_loop (fun i st=>i≤mv.length∧st.fr 4=.i64 i∧st.fr 3=.loc 3 [] 0 0∧st.fr 2=.loc 2 [] 0 0∧st.fr 0=.loc 0 [] 0 0∧st.mem 3=some (.pt 3 (.agg [ktr ks,.st nm,tsst (outK ks (S0,mv) i).2]))∧st.mem 0=some ((outK ks (S0,mv) i).1.pt)∧st.mem 2=some (.pt 3 (.agg [.nilsl,.st [],.nilsl]))) (mv.length) ?_ ?_
  · simp -dsimp -implicitDefEqProofs (disch:=first | omega | (simp only [lenr];try omega)) only [↓amPre,amAll,↓reduceIte,reduceCtorEq,Nat.reduceEqDiff,Nat.reduceBEq,Nat.reduceAdd,Nat.reduceLeDiff,Nat.reduceSub,Nat.reduceMul,Int.reduceToNat,List.size_toArray,tyF,MM,bu0,cbP9]
    exact ⟨Nat.zero_le _,rfl,rfl,rfl⟩
  rintro i st _ ⟨hi,f4,f3,f2,f0,m3,m0,m2⟩
  have hPi:=outK_ok hP0 i
  by_cases hlt:i<mv.length
  · have hPi:=hPi (by omega)
    have hst:outK ks (S0,mv) (i+1)=inn ks i (outK ks (S0,mv) i) ks.length:=rfl
    have hil:(outK ks (S0,mv) i).2.length=mv.length:=hPi.2.1
    have hlt':(i:Int)<(mv.length:Int):=by omega
    simp -dsimp -implicitDefEqProofs (disch:=first | omega | (simp only [lenr];try omega)) only [↓amPre,amAll,↓reduceIte,reduceCtorEq,Nat.reduceEqDiff,Nat.reduceBEq,Nat.reduceAdd,Nat.reduceLeDiff,Nat.reduceSub,Nat.reduceMul,Int.reduceToNat,List.size_toArray,tyF,MM,bu0,cbP9,f4,f3,f2,f0,m3,m0,m2,hil,lt_true hlt']
    refine awp_loop (fun k st=>k≤ks.length∧st.fr 5=.i64 k∧st.fr 4=.i64 i∧st.fr 3=.loc 3 [] 0 0∧st.fr 2=.loc 2 [] 0 0∧st.fr 0=.loc 0 [] 0 0∧st.mem 3=some (.pt 3 (.agg [ktr ks,.st nm,tsst (inn ks i (outK ks (S0,mv) i) k).2]))∧st.mem 0=some ((inn ks i (outK ks (S0,mv) i) k).1.pt)∧st.mem 2=some (.pt 3 (.agg [.nilsl,.st [],.nilsl]))) (ks.length) ?_ ?_
    · simp -dsimp -implicitDefEqProofs (disch:=first | omega | (simp only [lenr];try omega)) only [↓amPre,amAll,↓reduceIte,reduceCtorEq,Nat.reduceEqDiff,Nat.reduceBEq,Nat.reduceAdd,Nat.reduceLeDiff,Nat.reduceSub,Nat.reduceMul,Int.reduceToNat,List.size_toArray,tyF,MM,bu0,cbP9,f4,f3,f2,f0,m3,m0,m2]
      exact ⟨Nat.zero_le _,rfl,rfl,rfl⟩
    rintro k st _ ⟨hk,f5,f4,f3,f2,f0,m3,m0,m2⟩
    have hPk:=inn_ok (p:=outK ks (S0,mv) i) hlt hPi k
    by_cases hlk:k<ks.length
    · have hPk:=hPk (by omega)
      have hst2:inn ks i (outK ks (S0,mv) i) (k+1)=stp ks i (inn ks i (outK ks (S0,mv) i) k) k:=rfl
      rw [hst2]
      generalize inn ks i (outK ks (S0,mv) i) k=p at *
      obtain ⟨S,L⟩:=p
      obtain ⟨g1,g2,g3⟩:=hPk
      dsimp only at g1 g2 g3
      have hlk':(k:Int)<(ks.length:Int):=by omega
      have hps:=g3 _ (mem_getD L i default (by omega))
      have htw:=hps.2.2 k hlk
      have hko:=hps.1.2.1 _ (mem_getD ks k default hlk)
      simp -dsimp -implicitDefEqProofs (disch:=first | omega | (simp only [lenr];try omega)) only [↓amPre,amAll,↓reduceIte,reduceCtorEq,Nat.reduceEqDiff,Nat.reduceBEq,Nat.reduceAdd,Nat.reduceLeDiff,Nat.reduceSub,Nat.reduceMul,Int.reduceToNat,List.size_toArray,tyF,MM,bu0,cbP9,f5,f4,f3,f2,f0,m3,m0,m2,lt_true hlk',g2]
      have hLi:(L.getD i default).length=ks.length:=hps.2.1
      have qt:=sl22Twist (ks.getD k default) ((L.getD i default).getD k default) hko htw
      obtain ⟨cc,oo,hcc,hoo,la,la',e1,e2,e3,e4⟩:=twOk_facts htw hko
      have hb0:=by_get htw (show 0<((L.getD i default).getD k default).by'.length by omega)
      have nb:=Ih.sumI_nonneg ((L.getD i default).getD k default).by' (fun x hx=>(htw.2.2.2 x hx).1)
      have htm:=tmod_in nb (show 0<(ks.getD k default).o by omega)
      rw [show (sumI ((L.getD i default).getD k default).by').tmod (ks.getD k default).o=twS (ks.getD k default) ((L.getD i default).getD k default) from rfl] at htm
      have hw1:IntKind.i64.wrap (((L.getD i default).getD k default).by'.getD 0 0+(ks.getD k default).o)=((L.getD i default).getD k default).by'.getD 0 0+(ks.getD k default).o:=wrap64_id (by omega)
      have hw2:IntKind.i64.wrap (((L.getD i default).getD k default).by'.getD 0 0+(ks.getD k default).o - twS (ks.getD k default) ((L.getD i default).getD k default))=((L.getD i default).getD k default).by'.getD 0 0+(ks.getD k default).o - twS (ks.getD k default) ((L.getD i default).getD k default):=wrap64_id (by omega)
      have ho0:¬ (ks.getD k default).o=0:=by omega
      refine bxs_go 8 ?_
      simp -dsimp -implicitDefEqProofs (disch:=first | omega | (simp only [lenr];try omega)) only [↓amPre,amAll,↓reduceIte,reduceCtorEq,Nat.reduceEqDiff,Nat.reduceBEq,Nat.reduceAdd,Nat.reduceLeDiff,Nat.reduceSub,Nat.reduceMul,Int.reduceToNat,List.size_toArray,tyF,MM,bu0,cbP9,f5,f4,f3,f2,f0,m3,m0,m2,g2,hLi]
      refine split_go 28 (by decide +kernel) ?_
      simp -dsimp -implicitDefEqProofs (disch:=first | omega | (simp only [lenr];try omega)) only [↓amPre,amAll,↓reduceIte,reduceCtorEq,Nat.reduceEqDiff,Nat.reduceBEq,Nat.reduceAdd,Nat.reduceLeDiff,Nat.reduceSub,Nat.reduceMul,Int.reduceToNat,List.size_toArray,tyF,MM,bu0,cbP9,f5,f4,f3,f2,f0,m3,m0,m2,g2,hLi,hw1]
      refine callP_of (qt) ?_
      simp -dsimp -implicitDefEqProofs (disch:=first | omega | (simp only [lenr];try omega)) only [↓amPre,amAll,↓reduceIte,reduceCtorEq,Nat.reduceEqDiff,Nat.reduceBEq,Nat.reduceAdd,Nat.reduceLeDiff,Nat.reduceSub,Nat.reduceMul,Int.reduceToNat,List.size_toArray,tyF,MM,bu0,cbP9,f5,f4,f3,f2,f0,m3,m0,m2,g2,hLi,hw1,hw2,ho0]
      by_cases d1:1<((L.getD i default).getD k default).to.length
      · have d1':(1:Int)<(((L.getD i default).getD k default).to.length:Int):=by omega
        have qg:=sSign ((L.getD i default).getD k default).to htw.2.2.1
        by_cases d2:sgnI ((L.getD i default).getD k default).to<0
        · have hs0:stp ks i (S,L) k=(oS S 2,setT L i k ⟨if oB S 2 then to1 ((L.getD i default).getD k default) else ((L.getD i default).getD k default).to,by1 (ks.getD k default) ((L.getD i default).getD k default)⟩):=if_pos ⟨d1,d2⟩
          obtain ⟨qo,ko⟩:=oneF S 2 g1 (by unfold intOk;omega)
          rw [hs0]
          dsimp only
          generalize oS S 2=S2 at *
          simp -dsimp -implicitDefEqProofs (disch:=first | omega | (simp only [lenr];try omega)) only [↓amPre,amAll,↓reduceIte,reduceCtorEq,Nat.reduceEqDiff,Nat.reduceBEq,Nat.reduceAdd,Nat.reduceLeDiff,Nat.reduceSub,Nat.reduceMul,Int.reduceToNat,List.size_toArray,tyF,MM,bu0,cbP9,f5,f4,f3,f2,f0,m3,m0,m2,g2,hLi,lt_true d1']
          refine callP_of (qg) ?_
          simp -dsimp -implicitDefEqProofs (disch:=first | omega | (simp only [lenr];try omega)) only [↓amPre,amAll,↓reduceIte,reduceCtorEq,Nat.reduceEqDiff,Nat.reduceBEq,Nat.reduceAdd,Nat.reduceLeDiff,Nat.reduceSub,Nat.reduceMul,Int.reduceToNat,List.size_toArray,tyF,MM,bu0,cbP9,f5,f4,f3,f2,f0,m3,m0,m2,g2,hLi,lt_true d1',lt_true d2]
          refine callX_of (qo) ?_
          cases hb:oB S 2 with
          | false =>
            simp -dsimp -implicitDefEqProofs (disch:=first | omega | (simp only [lenr];try omega)) only [↓amPre,amAll,↓reduceIte,reduceCtorEq,Nat.reduceEqDiff,Nat.reduceBEq,Nat.reduceAdd,Nat.reduceLeDiff,Nat.reduceSub,Nat.reduceMul,Int.reduceToNat,List.size_toArray,tyF,MM,bu0,cbP9,f5,f4,f3,f2,f0,m3,m0,m2,g2,hLi,hb]
            exact ⟨hlk,by omega,rfl⟩
          | true =>
            simp -dsimp -implicitDefEqProofs (disch:=first | omega | (simp only [lenr];try omega)) only [↓amPre,amAll,↓reduceIte,reduceCtorEq,Nat.reduceEqDiff,Nat.reduceBEq,Nat.reduceAdd,Nat.reduceLeDiff,Nat.reduceSub,Nat.reduceMul,Int.reduceToNat,List.size_toArray,tyF,MM,bu0,cbP9,f5,f4,f3,f2,f0,m3,m0,m2,g2,hLi,hb]
            refine split_go 6 (by decide +kernel) ?_
            simp -dsimp -implicitDefEqProofs (disch:=first | omega | (simp only [lenr];try omega)) only [↓amPre,amAll,↓reduceIte,reduceCtorEq,Nat.reduceEqDiff,Nat.reduceBEq,Nat.reduceAdd,Nat.reduceLeDiff,Nat.reduceSub,Nat.reduceMul,Int.reduceToNat,List.size_toArray,tyF,MM,bu0,cbP9,f5,f4,f3,f2,f0,m3,m0,m2,g2,hLi,hb]
            exact ⟨hlk,by omega,rfl⟩
        · have hs0:stp ks i (S,L) k=(S,setT L i k ⟨((L.getD i default).getD k default).to,by1 (ks.getD k default) ((L.getD i default).getD k default)⟩):=if_neg (fun q=>d2 q.2)
          rw [hs0]
          simp -dsimp -implicitDefEqProofs (disch:=first | omega | (simp only [lenr];try omega)) only [↓amPre,amAll,↓reduceIte,reduceCtorEq,Nat.reduceEqDiff,Nat.reduceBEq,Nat.reduceAdd,Nat.reduceLeDiff,Nat.reduceSub,Nat.reduceMul,Int.reduceToNat,List.size_toArray,tyF,MM,bu0,cbP9,f5,f4,f3,f2,f0,m3,m0,m2,g2,hLi,lt_true d1']
          refine callP_of (qg) ?_
          simp -dsimp -implicitDefEqProofs (disch:=first | omega | (simp only [lenr];try omega)) only [↓amPre,amAll,↓reduceIte,reduceCtorEq,Nat.reduceEqDiff,Nat.reduceBEq,Nat.reduceAdd,Nat.reduceLeDiff,Nat.reduceSub,Nat.reduceMul,Int.reduceToNat,List.size_toArray,tyF,MM,bu0,cbP9,f5,f4,f3,f2,f0,m3,m0,m2,g2,hLi,lt_true d1',lt_false (Int.not_lt.1 d2)]
          exact ⟨hlk,by omega,rfl⟩
      · have d1':¬ (1:Int)<(((L.getD i default).getD k default).to.length:Int):=by omega
        have hs0:stp ks i (S,L) k=(S,setT L i k ⟨((L.getD i default).getD k default).to,by1 (ks.getD k default) ((L.getD i default).getD k default)⟩):=if_neg (fun q=>d1 q.1)
        rw [hs0]
        simp -dsimp -implicitDefEqProofs (disch:=first | omega | (simp only [lenr];try omega)) only [↓amPre,amAll,↓reduceIte,reduceCtorEq,Nat.reduceEqDiff,Nat.reduceBEq,Nat.reduceAdd,Nat.reduceLeDiff,Nat.reduceSub,Nat.reduceMul,Int.reduceToNat,List.size_toArray,tyF,MM,bu0,cbP9,f5,f4,f3,f2,f0,m3,m0,m2,g2,hLi,lt_false (Int.not_lt.1 d1')]
        exact ⟨hlk,by omega,rfl⟩
    · have hke:k=ks.length:=by omega
      subst hke
      have c1':¬ (ks.length:Int)<(ks.length:Int):=by omega
      rw [hst]
      simp -dsimp -implicitDefEqProofs (disch:=first | omega | (simp only [lenr];try omega)) only [↓amPre,amAll,↓reduceIte,reduceCtorEq,Nat.reduceEqDiff,Nat.reduceBEq,Nat.reduceAdd,Nat.reduceLeDiff,Nat.reduceSub,Nat.reduceMul,Int.reduceToNat,List.size_toArray,tyF,MM,bu0,cbP9,f5,f4,f3,f2,f0,m3,m0,m2,lt_false (Int.not_lt.1 c1')]
      exact ⟨hlt,by omega⟩
  · have hie:i=mv.length:=by omega
    subst hie
    have c1':¬ (mv.length:Int)<(mv.length:Int):=by omega
    have hil:(outK ks (S0,mv) mv.length).2.length=mv.length:=hfin.2.1
    simp -dsimp -implicitDefEqProofs (disch:=first | omega | (simp only [lenr];try omega)) only [↓amPre,amAll,↓reduceIte,reduceCtorEq,Nat.reduceEqDiff,Nat.reduceBEq,Nat.reduceAdd,Nat.reduceLeDiff,Nat.reduceSub,Nat.reduceMul,Int.reduceToNat,List.size_toArray,tyF,MM,bu0,cbP9,f4,f3,f2,f0,m3,m0,m2,hil,lt_false (Int.not_lt.1 c1')]
end Dv
end Go.AM
set_option maxRecDepth 8000
namespace Go.AM
open Go.Proofs
def pwL (e:List Int) (k:Nat):List Int:=(List.range e.length).map fun x=>((itN (fOf e) k x:Nat):Int)
def lcmK (L:List (List Int)):Nat→Nat
  | 0=>1
  | j+1=>Nat.lcm (lcmK L j) (L.getD j default).length
def ordE (e:List Int):Nat:=lcmK (longC (cycI e)) (longC (cycI e)).length
def spK (e:List Int):Nat→Nat×Nat
  | 0=>(0,0)
  | j+1=>if (spK e j).1=0∨(movL (pwL e (j+1)) e.length).length<(spK e j).2 then (j+1,(movL (pwL e (j+1)) e.length).length) else spK e j
end Go.AM
set_option maxRecDepth 8000
namespace Go.AM
open Go.Proofs
def treeGcd:OT:=(.alt 0 (.alt 1 (.alt 2 (.alt 3 (.alt 4 (.alt 5 .done .stop) .stop) (.alt 4 (.alt 3 (.alt 5 .done .stop) .stop) .stop)) (.alt 4 (.alt 2 (.alt 3 (.alt 5 .done .stop) .stop) .stop) .stop)) (.alt 2 (.alt 1 (.alt 3 (.alt 4 (.alt 5 .done .stop) .stop) (.alt 4 (.alt 3 (.alt 5 .done .stop) .stop) .stop)) .stop) .stop)) (.alt 1 (.alt 0 (.alt 2 (.alt 3 (.alt 4 (.alt 5 .done .stop) .stop) (.alt 4 (.alt 3 (.alt 5 .done .stop) .stop) .stop)) (.alt 4 (.alt 2 (.alt 3 (.alt 5 .done .stop) .stop) .stop) .stop)) (.alt 2 (.alt 0 (.alt 3 (.alt 4 (.alt 5 .done .stop) .stop) (.alt 4 (.alt 3 (.alt 5 .done .stop) .stop) .stop)) (.alt 3 (.alt 0 (.alt 4 (.alt 5 .done .stop) .stop) .stop) .stop)) .stop)) (.alt 2 (.alt 0 (.alt 1 (.alt 3 (.alt 4 (.alt 5 .done .stop) .stop) (.alt 4 (.alt 3 (.alt 5 .done .stop) .stop) .stop)) .stop) (.alt 1 (.alt 0 (.alt 3 (.alt 4 (.alt 5 .done .stop) .stop) (.alt 4 (.alt 3 (.alt 5 .done .stop) .stop) .stop)) (.alt 3 (.alt 0 (.alt 4 (.alt 5 .done .stop) .stop) .stop) .stop)) .stop)) .stop)))
def gcK (a b:Nat):Nat→Nat×Nat
  | 0=>(a,b)
  | k+1=>((gcK a b k).2,(gcK a b k).1 % (gcK a b k).2)
end Go.AM
set_option maxRecDepth 8000
namespace Go.AM
open Go.Proofs
instance:Thing (List Int):=⟨⟩
abbrev smallSS (l:List (List Int)):Prop:=l.length≤1099511627776∧∀ s∈l,s.length≤1099511627776
abbrev wfSS (l:List (List Int)):Prop:=l.length≤9223372036854775807∧∀ s∈l,s.length≤9223372036854775807
def Puzz.size (p:Puzz):Nat:=p.nm.length+sizeI p.mv
abbrev wfP (p:Puzz):Prop:=intOk p.n∧p.nm.length≤9223372036854775807∧wfSS p.mv
abbrev smallP (p:Puzz):Prop:=intOk p.n∧p.nm.length≤1099511627776∧smallSS p.mv
end Go.AM
namespace Go.AM
/-! a permutation of the facelets as a piece state -/
def pAt (p:List Int) (b o i:Nat):Int:=p.getD (b+i*o) 0 - b
def ctL (p:List Int) (b o n:Nat):List Int:=(List.range n).map fun i=>(pAt p b o i).tdiv o
def cbL (p:List Int) (b o n:Nat):List Int:=(List.range n).map fun i=>(pAt p b o i).tmod o
def candT (ks:List Kind) (p:List Int) (k:Nat):Twist :=
  ⟨ctL p (facets (ks.take k)).toNat (ks.getD k default).o.toNat (ks.getD k default).c.toNat,cbL p (facets (ks.take k)).toNat (ks.getD k default).o.toNat (ks.getD k default).c.toNat⟩
def candL (ks:List Kind) (p:List Int) (n:Nat):List Twist:=(List.range n).map (candT ks p)
def ptpOk (ks:List Kind) (p:List Int):Prop:=kindsOk ks∧(p.length:Int)=facets ks∧psOk ks (candL ks p ks.length)∧permOf ks (candL ks p ks.length)=p
instance (ks:List Kind) (p:List Int):Decidable (ptpOk ks p):=by unfold ptpOk;infer_instance
def ptpR (ks:List Kind) (p:List Int):List Twist:=if ptpOk ks p then candL ks p ks.length else []
end Go.AM
set_option maxRecDepth 8000
namespace Go.AM
open Go.Proofs
def cpL (a b:List Int) (k:Nat):List Int:=(List.range k).map fun i=>b.getD (a.getD i 0).toNat 0
def cpR (a b:List Int):AV:=if isPerm a∧isPerm b∧a.length=b.length then .tup [itr (cpL a b a.length),.bl true] else .tup [.tr 1 [],.bl false]
def ivL (p:List Int):Nat→List Int
  | 0=>List.replicate p.length 0
  | k+1=>(ivL p k).set (p.getD k 0).toNat (k:Int)
end Go.AM
namespace Go.Proofs
open Go.Shelf
def Try.sortL_ren:Go.Shelf.Ren:=⟨fun | 5=>213 | 8=>252 | 7=>251 | 19=>272 | 20=>273 | 10=>263 | 11=>264 | 12=>265 | 13=>266 | 14=>267 | 15=>268 | 16=>269 | 17=>270 | 18=>271 | 30=>277 | 31=>278 | 32=>279 | 33=>280 | 34=>281 | 35=>282 | 40=>283 | n=>n,fun | 23=>52 | 25=>2 | 3=>3 | 32=>111 | 22=>52 | 0=>0 | 44=>243 | 46=>34 | 4=>4 | 36=>236 | 35=>235 | 41=>240 | 5=>5 | 9=>9 | 53=>247 | 57=>251 | 63=>253 | 64=>254 | n=>n,fun | n=>n⟩
end Go.Proofs
set_option maxRecDepth 8000
namespace Go.AM
open Go.Proofs
def supR (p:Puzz) (w:List Int):List Int:=if puzzOk p∧wordOk p.mv.length w then movL (effK p.n p.mv w w.length) p.n.toNat else []
end Go.AM
set_option maxRecDepth 8000
namespace Go.AM
open Go.Proofs
def spR (p:Puzz) (w:List Int):Nat×Nat:=if puzzOk p∧wordOk p.mv.length w then spK (effK p.n p.mv w w.length) (ordE (effK p.n p.mv w w.length) - 1) else (0,0)
abbrev spA (x:Nat×Nat):AV:=.tup [.i64 x.1,.i64 x.2]
end Go.AM
set_option maxRecDepth 8000
namespace Go.AM
open Go.Proofs
def pwK (p:List Int) (k i:Nat):List Int:=(List.range i).map fun x=>((itN (fOf p) k x:Nat):Int)
end Go.AM
set_option maxRecDepth 8000
namespace Go.AM
namespace Dice
open Go.Proofs
def MM:FuncId→List Bool:=fun f=>if f=20 then [true,false] else if f=65 then [true] else []
structure Dc where
  b:List UInt8
  i:Nat
  h:Int
abbrev u64 (n:Int):AV:=.v (.int .u64 n)
abbrev bsl (l:List UInt8):AV:=.sl 1 (l.map fun x=>.u8 x.toNat)
abbrev Dc.pt (s:Dc):AV:=.pt 3 (.agg [bsl s.b,.i64 s.i,u64 s.h])
abbrev Dc.ok (s:Dc):Prop:=s.b.length≤4096∧s.i≤s.b.length
instance:Thing UInt8:=⟨⟩
theorem wrapU_id {x:Int} (h:0≤x∧x<18446744073709551616):IntKind.u64.wrap x=x:=by
  unfold IntKind.wrap
  simp only [IntKind.signed,IntKind.bits,Bool.false_and,Bool.false_eq_true,if_false]
  exact Int.emod_eq_of_lt h.1 h.2
theorem andU (a:Int):0≤bitsI .and .u64 a 16777215∧bitsI .and .u64 a 16777215≤16777215:=by
  have h:(BitVec.ofInt 64 a &&& BitVec.ofInt 64 16777215).toNat≤16777215:=by
    rw [BitVec.toNat_and]
    exact Nat.le_trans Nat.and_le_right (by decide)
  have e:bitsI .and .u64 a 16777215=((BitVec.ofInt 64 a &&& BitVec.ofInt 64 16777215).toNat:Int):=by
    show IntKind.u64.wrap ((BitVec.ofInt 64 a &&& BitVec.ofInt 64 16777215).toNat:Int)=_
    apply wrapU_id;omega
  rw [e];omega
def nxH (h:Int):Int:=IntKind.u64.wrap (IntKind.u64.wrap (h*6364136223846793005)+1442695040888963407)
theorem dbelow (s:Dc) (n:Int) (h:s.ok) (hn:1≤n∧n≤1000000):∃ (s':Dc) (x:Int),SpecX Try.prog 20 [s.pt,.i64 n] [some s'.pt] (.i64 x)∧s'.ok∧0≤x∧x<n:=by
  have h1:=h.1
  have h2:=h.2
  have hn':nxH s.h=IntKind.u64.wrap (IntKind.u64.wrap (s.h*6364136223846793005)+1442695040888963407):=rfl
  have ha:=andU ((nxH s.h).fdiv (2 ^ (min 33 64)))
  obtain ⟨y,hy⟩:∃ y,y=bitsI .and .u64 ((nxH s.h).fdiv (2 ^ (min 33 64))) 16777215:=⟨_,rfl⟩
  rw [← hy] at ha
  have e1:IntKind.i64.wrap y=y:=wrap64_id (by omega)
  have hne:n≠0:=by omega
  have hb:IntKind.u64.bits=64:=rfl
  by_cases hk:s.i<s.b.length
  · have hu:(s.b.getD s.i default).toNat<256:=(s.b.getD s.i default).toNat_lt
    have e2:IntKind.i64.wrap ((s.b.getD s.i default).toNat:Int)=(s.b.getD s.i default).toNat:=wrap64_id (by omega)
    have e3:IntKind.i64.wrap (y+((s.b.getD s.i default).toNat:Int))=y+((s.b.getD s.i default).toNat:Int):=wrap64_id (by omega)
    refine ⟨⟨s.b,s.i+1,nxH s.h⟩,(y+((s.b.getD s.i default).toNat:Int)).tmod n,?_,⟨h1,hk⟩,Int.tmod_nonneg _ (by omega),Int.tmod_lt_of_pos _ (by omega)⟩
    refine spec_of_awp (M:=MM) (np:=2) (fz:=false) mixed Try.func20 rfl rfl (by decide) rfl (Nat.le_refl _) (by decide +kernel) (.inl rfl) (by simp only [sigsOk_some,sigsOk_nil,and_true];rfl) ?_
    simp -dsimp -implicitDefEqProofs (disch:=first | omega | (simp only [lenr];try omega)) only [↓amPre,amAll,↓reduceIte,reduceCtorEq,Nat.reduceEqDiff,Nat.reduceBEq,Nat.reduceAdd,Nat.reduceLeDiff,Nat.reduceSub,Nat.reduceMul,Int.reduceToNat,List.size_toArray,tyF,MM,bu0,cbP9,hb,← hn',← hy,hne,e1,e2,e3]
  · refine ⟨⟨s.b,s.i,nxH s.h⟩,y.tmod n,?_,⟨h1,h2⟩,Int.tmod_nonneg _ (by omega),Int.tmod_lt_of_pos _ (by omega)⟩
    refine spec_of_awp (M:=MM) (np:=2) (fz:=false) mixed Try.func20 rfl rfl (by decide) rfl (Nat.le_refl _) (by decide +kernel) (.inl rfl) (by simp only [sigsOk_some,sigsOk_nil,and_true];rfl) ?_
    simp -dsimp -implicitDefEqProofs (disch:=first | omega | (simp only [lenr];try omega)) only [↓amPre,amAll,↓reduceIte,reduceCtorEq,Nat.reduceEqDiff,Nat.reduceBEq,Nat.reduceAdd,Nat.reduceLeDiff,Nat.reduceSub,Nat.reduceMul,Int.reduceToNat,List.size_toArray,tyF,MM,bu0,cbP9,hb,← hn',← hy,hne,e1]
def rlK (l:List UInt8) (h:Int):Nat→Int
  | 0=>IntKind.u64.wrap (IntKind.u64.wrap (h*7919)+IntKind.u64.wrap l.length)
  | k+1=>IntKind.u64.wrap (IntKind.u64.wrap (IntKind.u64.wrap (rlK l h k*1099511628211)+IntKind.u64.wrap (l.getD k default).toNat)+3)
theorem droll (l:List UInt8) (h:Int) (hl:l.length≤4096):SpecAt Try.prog 18 [bsl l,u64 h] (Dc.pt ⟨l,0,rlK l h l.length⟩):=by
  have h0:rlK l h 0=IntKind.u64.wrap (IntKind.u64.wrap (h*7919)+IntKind.u64.wrap l.length):=rfl
  refine spec_of_awp (M:=MM) (np:=2) (fz:=false) mixed Try.func18 rfl rfl (by decide) rfl (Nat.le_refl _) (by decide +kernel) (.inl rfl) (by first | trivial | simp only [sigsOk_nil,sigsOk_some,sigsOk_none,sig_tr,sig_pt,sig_mt,sig_agg,List.map_cons,List.map_nil,sig1_tr,sig1_pt,sig1_v,and_self,true_and,List.length_map,List.length_set]) ?_
  simp -dsimp -implicitDefEqProofs (disch:=first | omega | (simp only [lenr];try omega)) only [↓amPre,amAll,↓reduceIte,reduceCtorEq,Nat.reduceEqDiff,Nat.reduceBEq,Nat.reduceAdd,Nat.reduceLeDiff,Nat.reduceSub,Nat.reduceMul,Int.reduceToNat,List.size_toArray,tyF,MM,bu0,cbP9,← h0]
  refine awp_loop (fun k st=>k≤l.length∧st.fr 6=.i64 k∧st.fr 5=.loc 15 [] 0 0∧st.fr 0=bsl l∧st.mem 15=some (Dc.pt ⟨l,0,rlK l h k⟩)) (l.length) ?_ ?_
  · simp -dsimp -implicitDefEqProofs (disch:=first | omega | (simp only [lenr];try omega)) only [↓amPre,amAll,↓reduceIte,reduceCtorEq,Nat.reduceEqDiff,Nat.reduceBEq,Nat.reduceAdd,Nat.reduceLeDiff,Nat.reduceSub,Nat.reduceMul,Int.reduceToNat,List.size_toArray,tyF,MM,bu0,cbP9,← h0]
    exact ⟨Nat.zero_le _,rfl,rfl⟩
  rintro k st _ ⟨hk,f6,f5,f0,m15⟩
  have hs1:rlK l h (k+1)=IntKind.u64.wrap (IntKind.u64.wrap (IntKind.u64.wrap (rlK l h k*1099511628211)+IntKind.u64.wrap (l.getD k default).toNat)+3):=rfl
  by_cases hlt:k<l.length
  · simp -dsimp -implicitDefEqProofs (disch:=first | omega | (simp only [lenr];try omega)) only [↓amPre,amAll,↓reduceIte,reduceCtorEq,Nat.reduceEqDiff,Nat.reduceBEq,Nat.reduceAdd,Nat.reduceLeDiff,Nat.reduceSub,Nat.reduceMul,Int.reduceToNat,List.size_toArray,tyF,MM,bu0,cbP9,f6,f5,f0,m15,← hs1]
    repeat' (first | omega | rfl | exact i64c (by omega) | exact vic (by omega) | apply And.intro)
  · have hke:k=l.length:=by omega
    subst hke
    simp -dsimp -implicitDefEqProofs (disch:=first | omega | (simp only [lenr];try omega)) only [↓amPre,amAll,↓reduceIte,reduceCtorEq,Nat.reduceEqDiff,Nat.reduceBEq,Nat.reduceAdd,Nat.reduceLeDiff,Nat.reduceSub,Nat.reduceMul,Int.reduceToNat,List.size_toArray,tyF,MM,bu0,cbP9,f6,f5,f0,m15]
theorem dbig (l:List UInt8):SpecAt Try.prog 13 [bsl l] (.bl (decide ((4096:Int)<l.length))):=by
  refine spec_of_awp (M:=MM) (np:=1) (fz:=true) mixed Try.func13 rfl rfl (by decide) rfl (Nat.le_refl _) (by decide +kernel) (.inr ⟨rfl,rfl⟩) trivial ?_
  simp -dsimp -implicitDefEqProofs (disch:=first | omega | (simp only [lenr];try omega)) only [↓amPre,amAll,↓reduceIte,reduceCtorEq,Nat.reduceEqDiff,Nat.reduceBEq,Nat.reduceAdd,Nat.reduceLeDiff,Nat.reduceSub,Nat.reduceMul,Int.reduceToNat,List.size_toArray,tyF,MM,bu0,cbP9]
noncomputable def dS (s:Dc) (n:Int):Dc:=open Classical in if h:s.ok∧1≤n∧n≤1000000 then (dbelow s n h.1 h.2).choose else s
noncomputable def dX (s:Dc) (n:Int):Int:=open Classical in if h:s.ok∧1≤n∧n≤1000000 then (dbelow s n h.1 h.2).choose_spec.choose else 0
theorem dF (s:Dc) (n:Int) (h:s.ok) (hn:1≤n∧n≤1000000):SpecX Try.prog 20 [s.pt,.i64 n] [some (dS s n).pt] (.i64 (dX s n))∧(dS s n).ok∧0≤dX s n∧dX s n<n:=by
  have:=(dbelow s n h hn).choose_spec.choose_spec
  unfold dS dX
  rw [dif_pos ⟨h,hn⟩,dif_pos ⟨h,hn⟩]
  exact this
end Dice
end Go.AM
set_option maxRecDepth 8000
namespace Go.AM
namespace Dv
open Go.Proofs
theorem drawCons (l:List UInt8) (hl:l.length≤4096):∃ m:Model,SpecAt Try.prog 14 [Draws.bsl l] m.tr∧Draws.fewM m:=by
  have q1:=Draws.newSource l hl
  have k1:Draws.Src.ok ⟨l,0,Draws.sdK l l.length⟩:=⟨hl,Nat.zero_le _,by have:=Draws.sdK_ok l hl l.length;unfold intOk;simp only;omega⟩
  obtain ⟨s',m,q2,_,hm⟩:=l22Draw ⟨l,0,Draws.sdK l l.length⟩ k1
  refine ⟨m,?_,hm⟩
  refine spec_of_awp (M:=MM) (np:=1) (fz:=false) mixed Try.func14 rfl rfl (by decide) rfl (Nat.le_refl _) (by decide +kernel) (.inl rfl) (by first | trivial | simp only [sigsOk_nil,sigsOk_some,sigsOk_none,sig_tr,sig_pt,sig_mt,sig_agg,List.map_cons,List.map_nil,sig1_tr,sig1_pt,sig1_v,and_self,true_and,List.length_map,List.length_set]) ?_
  simp -dsimp -implicitDefEqProofs (disch:=first | omega | (simp only [lenr];try omega)) only [↓amPre,amAll,↓reduceIte,reduceCtorEq,Nat.reduceEqDiff,Nat.reduceBEq,Nat.reduceAdd,Nat.reduceLeDiff,Nat.reduceSub,Nat.reduceMul,Int.reduceToNat,List.size_toArray,tyF,MM,bu0,cbP9]
  refine callP_of (q1) ?_
  simp -dsimp -implicitDefEqProofs (disch:=first | omega | (simp only [lenr];try omega)) only [↓amPre,amAll,↓reduceIte,reduceCtorEq,Nat.reduceEqDiff,Nat.reduceBEq,Nat.reduceAdd,Nat.reduceLeDiff,Nat.reduceSub,Nat.reduceMul,Int.reduceToNat,List.size_toArray,tyF,MM,bu0,cbP9]
  refine callX_of (q2) ?_
  simp -dsimp -implicitDefEqProofs (disch:=first | omega | (simp only [lenr];try omega)) only [↓amPre,amAll,↓reduceIte,reduceCtorEq,Nat.reduceEqDiff,Nat.reduceBEq,Nat.reduceAdd,Nat.reduceLeDiff,Nat.reduceSub,Nat.reduceMul,Int.reduceToNat,List.size_toArray,tyF,MM,bu0,cbP9]
end Dv
namespace Iv
open Go.Proofs
open Dice (Dc dF dS dX bsl dbig droll rlK dbelow)
open Ih (okS okS_solved okS_move okS_vio cons_mem)
def MM:FuncId→List Bool:=fun f=>if f=20 then [true,false] else []
theorem allI_int {ks:List Kind} (hk:kindsOk ks) {i:Invar} (hi:i∈allI ks):intOk i.s:=by
  have h3:=hk.1.2
  have:=pow_small h3
  rcases List.mem_append.1 hi with h | h
  · obtain ⟨j,hj,rfl⟩:=List.mem_map.1 h
    have hj:=List.mem_range.1 hj
    unfold intOk;simp only;omega
  · obtain ⟨j,hj,rfl⟩:=List.mem_map.1 h
    have hj:=List.mem_range.1 hj
    unfold intOk;simp only;omega
theorem lawInvHold (l:List UInt8) (w:l.length≤9223372036854775807):SpecAt Try.prog 3 [bsl l] (.bl true):=by
  have qb:=dbig l
  by_cases c0:(4096:Int)<l.length
  · refine spec_of_awp_any (M:=MM) (np:=1) (X:=[14]) (fz:=true) mixed Try.func3 rfl rfl (by decide) rfl (Nat.le_refl _) (by decide +kernel) (.inr ⟨rfl,rfl⟩) trivial ?_
    simp -dsimp -implicitDefEqProofs (disch:=first | omega | (simp only [lenr];try omega)) only [↓amPre,amAll,↓reduceIte,reduceCtorEq,Nat.reduceEqDiff,Nat.reduceBEq,Nat.reduceAdd,Nat.reduceLeDiff,Nat.reduceSub,Nat.reduceMul,Int.reduceToNat,List.size_toArray,tyF,MM,bu0,cbP9]
    refine callP_of (qb) ?_
    simp -dsimp -implicitDefEqProofs (disch:=first | omega | (simp only [lenr];try omega)) only [↓amPre,amAll,↓reduceIte,reduceCtorEq,Nat.reduceEqDiff,Nat.reduceBEq,Nat.reduceAdd,Nat.reduceLeDiff,Nat.reduceSub,Nat.reduceMul,Int.reduceToNat,List.size_toArray,tyF,MM,bu0,cbP9,decide_eq_true c0]
  rw [decide_eq_false c0] at qb
  obtain ⟨m,q1,hfew⟩:=Dv.drawCons l (by omega)
  have hsm:=Dv.few_small hfew
  have q2:=iConserved m hsm
  have q3:=sIsValidPieceModel m hsm
  have q4:=sConserved m hsm
  by_cases c1:modelOk m
  case neg =>
    have hr:consR m=[]:=if_neg c1
    rw [hr] at q2
    rw [decide_eq_false c1] at q3
    refine spec_of_awp_any (M:=MM) (np:=1) (X:=[14]) (fz:=true) mixed Try.func3 rfl rfl (by decide) rfl (Nat.le_refl _) (by decide +kernel) (.inr ⟨rfl,rfl⟩) trivial ?_
    simp -dsimp -implicitDefEqProofs (disch:=first | omega | (simp only [lenr];try omega)) only [↓amPre,amAll,↓reduceIte,reduceCtorEq,Nat.reduceEqDiff,Nat.reduceBEq,Nat.reduceAdd,Nat.reduceLeDiff,Nat.reduceSub,Nat.reduceMul,Int.reduceToNat,List.size_toArray,tyF,MM,bu0,cbP9]
    refine callP_of (qb) ?_
    simp -dsimp -implicitDefEqProofs (disch:=first | omega | (simp only [lenr];try omega)) only [↓amPre,amAll,↓reduceIte,reduceCtorEq,Nat.reduceEqDiff,Nat.reduceBEq,Nat.reduceAdd,Nat.reduceLeDiff,Nat.reduceSub,Nat.reduceMul,Int.reduceToNat,List.size_toArray,tyF,MM,bu0,cbP9]
    refine callP_of (q1) ?_
    simp -dsimp -implicitDefEqProofs (disch:=first | omega | (simp only [lenr];try omega)) only [↓amPre,amAll,↓reduceIte,reduceCtorEq,Nat.reduceEqDiff,Nat.reduceBEq,Nat.reduceAdd,Nat.reduceLeDiff,Nat.reduceSub,Nat.reduceMul,Int.reduceToNat,List.size_toArray,tyF,MM,bu0,cbP9,kfz,tssfz]
    refine callP_of (q2) ?_
    simp -dsimp -implicitDefEqProofs (disch:=first | omega | (simp only [lenr];try omega)) only [↓amPre,amAll,↓reduceIte,reduceCtorEq,Nat.reduceEqDiff,Nat.reduceBEq,Nat.reduceAdd,Nat.reduceLeDiff,Nat.reduceSub,Nat.reduceMul,Int.reduceToNat,List.size_toArray,tyF,MM,bu0,cbP9,kfz,tssfz]
    refine callP_of (q3) ?_
    simp -dsimp -implicitDefEqProofs (disch:=first | omega | (simp only [lenr];try omega)) only [↓amPre,amAll,↓reduceIte,reduceCtorEq,Nat.reduceEqDiff,Nat.reduceBEq,Nat.reduceAdd,Nat.reduceLeDiff,Nat.reduceSub,Nat.reduceMul,Int.reduceToNat,List.size_toArray,tyF,MM,bu0,cbP9]
  rw [decide_eq_true c1] at q3
  have q0:=droll l 907 (by omega)
  have k0:(⟨l,0,rlK l 907 l.length⟩:Dc).ok:=⟨by show l.length≤4096;omega,Nat.zero_le _⟩
  generalize (⟨l,0,rlK l 907 l.length⟩:Dc)=d0 at q0 k0
  obtain ⟨d1,x,q5,k1,hx0,hx7⟩:=dbelow d0 7 k0 (by omega)
  have q6:=sSolvedPieces m.ks hsm.1
  have hsv:solvedR m.ks=m.ks.map solvedK:=if_pos c1.1
  rw [hsv] at q6
  obtain ⟨n,hn⟩:∃ n:Nat,x=n:=⟨x.toNat,by omega⟩
  subst hn
  have vee:AV.fzL ((consR m).map Invar.av)=(consR m).map Invar.av:=by rw [fzL_map,vfz]
  have tee:∀ T:List Twist,AV.fzL (T.map Twist.tr)=T.map Twist.sl:=fun T=>by rw [fzL_map,tfz]
  have hmt:m.tr=.agg [ktr m.ks,.st m.nm,tsst m.mv]:=rfl
  rw [hmt] at q1
  refine spec_of_awp_any (M:=MM) (np:=1) (X:=[14]) (fz:=true) mixed Try.func3 rfl rfl (by decide) rfl (Nat.le_refl _) (by decide +kernel) (.inr ⟨rfl,rfl⟩) trivial ?_
  simp -dsimp -implicitDefEqProofs (disch:=first | omega | (simp only [lenr];try omega)) only [↓amPre,amAll,↓reduceIte,reduceCtorEq,Nat.reduceEqDiff,Nat.reduceBEq,Nat.reduceAdd,Nat.reduceLeDiff,Nat.reduceSub,Nat.reduceMul,Int.reduceToNat,List.size_toArray,tyF,MM,bu0,cbP9]
  refine callP_of (qb) ?_
  simp -dsimp -implicitDefEqProofs (disch:=first | omega | (simp only [lenr];try omega)) only [↓amPre,amAll,↓reduceIte,reduceCtorEq,Nat.reduceEqDiff,Nat.reduceBEq,Nat.reduceAdd,Nat.reduceLeDiff,Nat.reduceSub,Nat.reduceMul,Int.reduceToNat,List.size_toArray,tyF,MM,bu0,cbP9]
  refine callP_of (q1) ?_
  simp -dsimp -implicitDefEqProofs (disch:=first | omega | (simp only [lenr];try omega)) only [↓amPre,amAll,↓reduceIte,reduceCtorEq,Nat.reduceEqDiff,Nat.reduceBEq,Nat.reduceAdd,Nat.reduceLeDiff,Nat.reduceSub,Nat.reduceMul,Int.reduceToNat,List.size_toArray,tyF,MM,bu0,cbP9,kfz,tssfz]
  refine callP_frz q2 ?_
  simp -dsimp -implicitDefEqProofs (disch:=first | omega | (simp only [lenr];try omega)) only [↓amPre,amAll,↓reduceIte,reduceCtorEq,Nat.reduceEqDiff,Nat.reduceBEq,Nat.reduceAdd,Nat.reduceLeDiff,Nat.reduceSub,Nat.reduceMul,Int.reduceToNat,List.size_toArray,tyF,MM,bu0,cbP9,kfz,tssfz,vee]
  refine callP_of (q3) ?_
  simp -dsimp -implicitDefEqProofs (disch:=first | omega | (simp only [lenr];try omega)) only [↓amPre,amAll,↓reduceIte,reduceCtorEq,Nat.reduceEqDiff,Nat.reduceBEq,Nat.reduceAdd,Nat.reduceLeDiff,Nat.reduceSub,Nat.reduceMul,Int.reduceToNat,List.size_toArray,tyF,MM,bu0,cbP9,kfz,tssfz,vee]
  refine callP_of (q4) ?_
  simp -dsimp -implicitDefEqProofs (disch:=first | omega | (simp only [lenr];try omega)) only [↓amPre,amAll,↓reduceIte,reduceCtorEq,Nat.reduceEqDiff,Nat.reduceBEq,Nat.reduceAdd,Nat.reduceLeDiff,Nat.reduceSub,Nat.reduceMul,Int.reduceToNat,List.size_toArray,tyF,MM,bu0,cbP9,kfz,tssfz,vee]
  refine callP_of (q0) ?_
  simp -dsimp -implicitDefEqProofs (disch:=first | omega | (simp only [lenr];try omega)) only [↓amPre,amAll,↓reduceIte,reduceCtorEq,Nat.reduceEqDiff,Nat.reduceBEq,Nat.reduceAdd,Nat.reduceLeDiff,Nat.reduceSub,Nat.reduceMul,Int.reduceToNat,List.size_toArray,tyF,MM,bu0,cbP9,kfz,tssfz,vee]
  refine callP_frz q6 ?_
  simp -dsimp -implicitDefEqProofs (disch:=first | omega | (simp only [lenr];try omega)) only [↓amPre,amAll,↓reduceIte,reduceCtorEq,Nat.reduceEqDiff,Nat.reduceBEq,Nat.reduceAdd,Nat.reduceLeDiff,Nat.reduceSub,Nat.reduceMul,Int.reduceToNat,List.size_toArray,tyF,MM,bu0,cbP9,kfz,tssfz,vee,tee]
  refine callX_of (q5) ?_
  simp -dsimp -implicitDefEqProofs (disch:=first | omega | (simp only [lenr];try omega)) only [↓amPre,amAll,↓reduceIte,reduceCtorEq,Nat.reduceEqDiff,Nat.reduceBEq,Nat.reduceAdd,Nat.reduceLeDiff,Nat.reduceSub,Nat.reduceMul,Int.reduceToNat,List.size_toArray,tyF,MM,bu0,cbP9,kfz,tssfz,vee,tee]
  have hml:1≤m.mv.length∧m.mv.length≤3:=⟨by have:=c1.2.1.2.1;have:=c1.2.2.1;omega,hfew.2.2.1⟩
  refine awp_loop (fun j st=>j≤n∧st.fr 7=.i64 ((n:Int) - j)∧st.fr 5=.loc 32 [] 0 0∧st.fr 3=.loc 3 [] 0 0∧st.fr 4=vsl (consR m)∧st.mem 3=some (.pt 3 (.agg [ktr m.ks,.st m.nm,tsst m.mv]))∧(∃ (s:List Twist) (D:Dc),okS m s∧D.ok∧st.fr 6=tsl s∧st.mem 32=some D.pt)) (n) ?_ ?_
  · simp -dsimp -implicitDefEqProofs (disch:=first | omega | (simp only [lenr];try omega)) only [↓amPre,amAll,↓reduceIte,reduceCtorEq,Nat.reduceEqDiff,Nat.reduceBEq,Nat.reduceAdd,Nat.reduceLeDiff,Nat.reduceSub,Nat.reduceMul,Int.reduceToNat,List.size_toArray,tyF,MM,bu0,cbP9]
    exact ⟨Nat.zero_le _,i64c (by omega),m.ks.map solvedK,d1,okS_solved c1,k1,rfl,rfl⟩
  rintro j st _ ⟨hj,f7,f5,f3,f4,m3,ej⟩
  obtain ⟨s,D,hs,kD,f6,m32⟩:=ej
  have hst:smallT s:=by
    refine ⟨by have:=hs.1.2.1;have:=hfew.1;omega,fun t ht=>?_⟩
    obtain ⟨i,hi,rfl⟩:=List.getElem_of_mem ht
    have h1:=hs.1.2.2 i (by rw [← hs.1.2.1];exact hi)
    rw [getD_eq _ _ _ hi] at h1
    have h2:=c1.1.2.1 _ (mem_getD m.ks i default (by rw [← hs.1.2.1];exact hi))
    have e1:=h1.1
    have e2:=h1.2.1
    have e3:=h2.1
    omega
  by_cases hlt:j<n
  · have hlt':(0:Int)<(n:Int) - j:=by omega
    obtain ⟨D2,y,q7,kD2,hy0,hy3⟩:=dbelow D m.mv.length kD (by omega)
    obtain ⟨iy,hiy⟩:∃ iy:Nat,y=iy:=⟨y.toNat,by omega⟩
    subst hiy
    have hiy:iy<m.mv.length:=by omega
    have hmem:=mem_getD m.mv iy default hiy
    have hpm:=c1.2.2.2 _ hmem
    have q8:=sComposePieces m.ks s (m.mv.getD iy default) hsm.1 hst (hsm.2.2.2 _ hmem)
    rw [compR,if_pos ⟨hs.1,hpm⟩] at q8
    have hnext:=okS_move c1 hs hmem
    generalize compS m.ks s (m.mv.getD iy default)=s2 at *
    simp -dsimp -implicitDefEqProofs (disch:=first | omega | (simp only [lenr];try omega)) only [↓amPre,amAll,↓reduceIte,reduceCtorEq,Nat.reduceEqDiff,Nat.reduceBEq,Nat.reduceAdd,Nat.reduceLeDiff,Nat.reduceSub,Nat.reduceMul,Int.reduceToNat,List.size_toArray,tyF,MM,bu0,cbP9,f7,f5,f3,f4,m3,f6,m32,lt_true hlt']
    have ht8:AV.fzL [ttr s2,.bl true]=[tsl s2,.bl true]:=by simp [AV.fzL,AV.fz,tee]
    have hwj:IntKind.i64.wrap ((n:Int) - j - 1)=(n:Int) - (j+1:Nat):=by rw [wrap64_id (by omega)];omega
    refine piv_go 17 9 32 (by decide +kernel) ?_
    simp -dsimp -implicitDefEqProofs (disch:=first | omega | (simp only [lenr];try omega)) only [↓amPre,amAll,↓reduceIte,reduceCtorEq,Nat.reduceEqDiff,Nat.reduceBEq,Nat.reduceAdd,Nat.reduceLeDiff,Nat.reduceSub,Nat.reduceMul,Int.reduceToNat,List.size_toArray,tyF,MM,bu0,cbP9,f7,f5,f3,f4,m3,f6,m32]
    refine pvX_of (q7) ?_
    simp -dsimp -implicitDefEqProofs (disch:=first | omega | (simp only [lenr];try omega)) only [↓amPre,amAll,↓reduceIte,reduceCtorEq,Nat.reduceEqDiff,Nat.reduceBEq,Nat.reduceAdd,Nat.reduceLeDiff,Nat.reduceSub,Nat.reduceMul,Int.reduceToNat,List.size_toArray,tyF,MM,bu0,cbP9,f7,f5,f3,f4,m3,f6,m32,kfz,tssfz,tfz]
    refine callP_frz q8 ?_
    simp -dsimp -implicitDefEqProofs (disch:=first | omega | (simp only [lenr];try omega)) only [↓amPre,amAll,↓reduceIte,reduceCtorEq,Nat.reduceEqDiff,Nat.reduceBEq,Nat.reduceAdd,Nat.reduceLeDiff,Nat.reduceSub,Nat.reduceMul,Int.reduceToNat,List.size_toArray,tyF,MM,bu0,cbP9,f7,f5,f3,f4,m3,f6,m32,kfz,tssfz,tfz,tee,hwj]
    exact ⟨hlt,by omega,s2,D2,hnext,kD2,rfl,rfl⟩
  · have hje:j=n:=by omega
    subst hje
    have hlt':¬ (0:Int)<(j:Int) - j:=by omega
    have hcl:=consR_le m
    have q11:=iViolated m s hsm hst
    rw [okS_vio hs] at q11
    have hv0:vioR none=.tup [(⟨0,0⟩:Invar).av,.bl false]:=rfl
    rw [hv0] at q11
    simp -dsimp -implicitDefEqProofs (disch:=first | omega | (simp only [lenr];try omega)) only [↓amPre,amAll,↓reduceIte,reduceCtorEq,Nat.reduceEqDiff,Nat.reduceBEq,Nat.reduceAdd,Nat.reduceLeDiff,Nat.reduceSub,Nat.reduceMul,Int.reduceToNat,List.size_toArray,tyF,MM,bu0,cbP9,f7,f5,f3,f4,m3,f6,m32,lt_false (Int.not_lt.1 hlt')]
    refine awp_loop (fun i st=>i≤(consR m).length∧st.fr 10=.i64 i∧st.fr 4=vsl (consR m)∧st.fr 6=tsl s∧st.fr 3=.loc 3 [] 0 0∧st.mem 3=some (.pt 3 (.agg [ktr m.ks,.st m.nm,tsst m.mv]))) ((consR m).length) ?_ ?_
    · simp -dsimp -implicitDefEqProofs (disch:=first | omega | (simp only [lenr];try omega)) only [↓amPre,amAll,↓reduceIte,reduceCtorEq,Nat.reduceEqDiff,Nat.reduceBEq,Nat.reduceAdd,Nat.reduceLeDiff,Nat.reduceSub,Nat.reduceMul,Int.reduceToNat,List.size_toArray,tyF,MM,bu0,cbP9,f7,f5,f3,f4,m3,f6]
      exact ⟨Nat.zero_le _,rfl⟩
    rintro i st _ ⟨hi,f10,f4,f6,f3,m3⟩
    by_cases hli:i<(consR m).length
    · have hli':(i:Int)<((consR m).length:Int):=by omega
      have hmi:=mem_getD (consR m) i default hli
      obtain ⟨_,h2,h3⟩:=cons_mem hmi
      have hz:=hs.2 _ hmi
      have hio:intOk ((consR m).getD i default).s:=allI_int c1.1 h2
      have q9:=iInvariantValue m.ks s ((consR m).getD i default) hsm.1 hst hio
      have q10:=iIsConserved m ((consR m).getD i default) hsm hio
      rw [hz] at q9
      rw [decide_eq_true h3] at q10
      have hg:((consR m).map Invar.av).getD i .any=((consR m).getD i default).av:=by rw [getD_eq _ _ _ (by simpa using hli),List.getElem_map,getD_eq _ _ _ hli]
      generalize (consR m).getD i default=iv at *
      simp -dsimp -implicitDefEqProofs (disch:=first | omega | (simp only [lenr];try omega)) only [↓amPre,amAll,↓reduceIte,reduceCtorEq,Nat.reduceEqDiff,Nat.reduceBEq,Nat.reduceAdd,Nat.reduceLeDiff,Nat.reduceSub,Nat.reduceMul,Int.reduceToNat,List.size_toArray,tyF,MM,bu0,cbP9,f10,f4,f6,f3,m3,lt_true hli',hg,kfz,tssfz]
      refine callP_of (q9) ?_
      simp -dsimp -implicitDefEqProofs (disch:=first | omega | (simp only [lenr];try omega)) only [↓amPre,amAll,↓reduceIte,reduceCtorEq,Nat.reduceEqDiff,Nat.reduceBEq,Nat.reduceAdd,Nat.reduceLeDiff,Nat.reduceSub,Nat.reduceMul,Int.reduceToNat,List.size_toArray,tyF,MM,bu0,cbP9,f10,f4,f6,f3,m3,hg,kfz,tssfz]
      refine callP_of (q10) ?_
      simp -dsimp -implicitDefEqProofs (disch:=first | omega | (simp only [lenr];try omega)) only [↓amPre,amAll,↓reduceIte,reduceCtorEq,Nat.reduceEqDiff,Nat.reduceBEq,Nat.reduceAdd,Nat.reduceLeDiff,Nat.reduceSub,Nat.reduceMul,Int.reduceToNat,List.size_toArray,tyF,MM,bu0,cbP9,f10,f4,f6,f3,m3,hg,kfz,tssfz]
      exact ⟨hli,by omega⟩
    · have hie:i=(consR m).length:=by omega
      subst hie
      have c2':¬ ((consR m).length:Int)<((consR m).length:Int):=by omega
      simp -dsimp -implicitDefEqProofs (disch:=first | omega | (simp only [lenr];try omega)) only [↓amPre,amAll,↓reduceIte,reduceCtorEq,Nat.reduceEqDiff,Nat.reduceBEq,Nat.reduceAdd,Nat.reduceLeDiff,Nat.reduceSub,Nat.reduceMul,Int.reduceToNat,List.size_toArray,tyF,MM,bu0,cbP9,f10,f4,f6,f3,m3,lt_false (Int.not_lt.1 c2'),kfz,tssfz]
      refine callP_of (q11) ?_
      simp -dsimp -implicitDefEqProofs (disch:=first | omega | (simp only [lenr];try omega)) only [↓amPre,amAll,↓reduceIte,reduceCtorEq,Nat.reduceEqDiff,Nat.reduceBEq,Nat.reduceAdd,Nat.reduceLeDiff,Nat.reduceSub,Nat.reduceMul,Int.reduceToNat,List.size_toArray,tyF,MM,bu0,cbP9,f10,f4,f6,f3,m3]
end Iv
end Go.AM
