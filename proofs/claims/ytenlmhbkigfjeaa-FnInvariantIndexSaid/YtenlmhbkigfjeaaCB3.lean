/-
  CONTRACTS of functions of the program,and what they compute,by content.
-/
import Derived.Test.YtenlmhbkigfjeaaCB2
import Derived.Test.YtenlmhbkigfjeaaCB1
import Derived.Test.YtenlmhbkigfjeaaCB0
set_option linter.unusedVariables false
set_option linter.unusedSimpArgs false
set_option maxRecDepth 8000
namespace Go.AM
namespace Draws
open Go.Proofs
noncomputable def mdK (s:Src) (ks:List Kind):Nat→Src×List (List Twist)
  | 0=>(s,[])
  | k+1=>((dsK (mdK s ks k).1 ks ks.length).1,(mdK s ks k).2++[(dsK (mdK s ks k).1 ks ks.length).2])
def twOk (ks:List Kind) (tw:List Twist):Prop:=tw.length=ks.length∧∀ i,i<ks.length→(tw.getD i default).to.length=(ks.getD i default).c.toNat∧(tw.getD i default).by'.length=(ks.getD i default).c.toNat
theorem mdK_ok (s:Src) (ks:List Kind) (h:s.ok) (hk:kindsOk ks):∀ k,(mdK s ks k).1.ok∧(mdK s ks k).2.length=k∧∀ tw∈(mdK s ks k).2,twOk ks tw
  | 0=>⟨h,rfl,fun tw ht=>by cases ht⟩
  | k+1=>by
    obtain ⟨h1,h2,h3⟩:=mdK_ok s ks h hk k
    have h4:=dsK_ok (mdK s ks k).1 ks h1 hk ks.length (Nat.le_refl _)
    have h5:=dsK_get (mdK s ks k).1 ks h1 hk ks.length (Nat.le_refl _)
    refine ⟨h4.1,by simp only [mdK,List.length_append,List.length_singleton,h2],fun tw ht=>?_⟩
    simp only [mdK,List.mem_append,List.mem_singleton] at ht
    rcases ht with ht | rfl
    · exact h3 tw ht
    · exact ⟨h4.2,fun i hi=>h5 i hi⟩
def mdOk (m:Model):Prop:=kindsOk m.ks∧m.nm.length≤3∧(1≤m.mv.length∧m.mv.length≤3)∧∀ tw∈m.mv,twOk m.ks tw
def treeM:OT:=(.alt 0 (.alt 1 (.alt 2 (.alt 3 (.alt 4 (.alt 5 (.alt 6 (.alt 7 (.alt 8 (.alt 9 .done .stop) .stop) .stop) .stop) .stop) .stop) .stop) (.alt 3 (.alt 2 (.alt 4 (.alt 5 (.alt 6 (.alt 7 (.alt 8 (.alt 9 .done .stop) .stop) .stop) .stop) .stop) .stop) (.alt 4 (.alt 2 (.alt 5 (.alt 6 (.alt 7 (.alt 8 (.alt 9 .done .stop) .stop) .stop) .stop) .stop) .stop) .stop)) .stop)) (.alt 2 (.alt 1 (.alt 3 (.alt 4 (.alt 5 (.alt 6 (.alt 7 (.alt 8 (.alt 9 .done .stop) .stop) .stop) .stop) .stop) .stop) .stop) (.alt 3 (.alt 1 (.alt 4 (.alt 5 (.alt 6 (.alt 7 (.alt 8 (.alt 9 .done .stop) .stop) .stop) .stop) .stop) .stop) (.alt 4 (.alt 1 (.alt 5 (.alt 6 (.alt 7 (.alt 8 (.alt 9 .done .stop) .stop) .stop) .stop) .stop) (.alt 5 (.alt 1 (.alt 6 (.alt 7 (.alt 8 (.alt 9 .done .stop) .stop) .stop) .stop) (.alt 6 (.alt 1 (.alt 7 (.alt 8 (.alt 9 .done .stop) .stop) .stop) .stop) .stop)) .stop)) .stop)) .stop)) (.alt 3 (.alt 1 (.alt 2 (.alt 4 (.alt 5 (.alt 6 (.alt 7 (.alt 8 (.alt 9 .done .stop) .stop) .stop) .stop) .stop) .stop) (.alt 4 (.alt 2 (.alt 5 (.alt 6 (.alt 7 (.alt 8 (.alt 9 .done .stop) .stop) .stop) .stop) .stop) .stop) .stop)) (.alt 2 (.alt 1 (.alt 4 (.alt 5 (.alt 6 (.alt 7 (.alt 8 (.alt 9 .done .stop) .stop) .stop) .stop) .stop) .stop) (.alt 4 (.alt 1 (.alt 5 (.alt 6 (.alt 7 (.alt 8 (.alt 9 .done .stop) .stop) .stop) .stop) .stop) (.alt 5 (.alt 1 (.alt 6 (.alt 7 (.alt 8 (.alt 9 .done .stop) .stop) .stop) .stop) (.alt 6 (.alt 1 (.alt 7 (.alt 8 (.alt 9 .done .stop) .stop) .stop) .stop) .stop)) .stop)) .stop)) (.alt 4 (.alt 1 (.alt 2 (.alt 5 (.alt 6 (.alt 7 (.alt 8 (.alt 9 .done .stop) .stop) .stop) .stop) .stop) .stop) (.alt 2 (.alt 1 (.alt 5 (.alt 6 (.alt 7 (.alt 8 (.alt 9 .done .stop) .stop) .stop) .stop) .stop) (.alt 5 (.alt 1 (.alt 6 (.alt 7 (.alt 8 (.alt 9 .done .stop) .stop) .stop) .stop) (.alt 6 (.alt 1 (.alt 7 (.alt 8 (.alt 9 .done .stop) .stop) .stop) .stop) .stop)) .stop)) .stop)) .stop))) .stop))) (.alt 2 (.alt 0 (.alt 1 (.alt 3 (.alt 4 (.alt 5 (.alt 6 (.alt 7 (.alt 8 (.alt 9 .done .stop) .stop) .stop) .stop) .stop) .stop) .stop) (.alt 3 (.alt 1 (.alt 4 (.alt 5 (.alt 6 (.alt 7 (.alt 8 (.alt 9 .done .stop) .stop) .stop) .stop) .stop) .stop) (.alt 4 (.alt 1 (.alt 5 (.alt 6 (.alt 7 (.alt 8 (.alt 9 .done .stop) .stop) .stop) .stop) .stop) (.alt 5 (.alt 1 (.alt 6 (.alt 7 (.alt 8 (.alt 9 .done .stop) .stop) .stop) .stop) (.alt 6 (.alt 1 (.alt 7 (.alt 8 (.alt 9 .done .stop) .stop) .stop) .stop) .stop)) .stop)) .stop)) .stop)) (.alt 3 (.alt 0 (.alt 1 (.alt 4 (.alt 5 (.alt 6 (.alt 7 (.alt 8 (.alt 9 .done .stop) .stop) .stop) .stop) .stop) .stop) (.alt 4 (.alt 1 (.alt 5 (.alt 6 (.alt 7 (.alt 8 (.alt 9 .done .stop) .stop) .stop) .stop) .stop) (.alt 5 (.alt 1 (.alt 6 (.alt 7 (.alt 8 (.alt 9 .done .stop) .stop) .stop) .stop) (.alt 6 (.alt 1 (.alt 7 (.alt 8 (.alt 9 .done .stop) .stop) .stop) .stop) .stop)) .stop)) .stop)) (.alt 4 (.alt 0 (.alt 1 (.alt 5 (.alt 6 (.alt 7 (.alt 8 (.alt 9 .done .stop) .stop) .stop) .stop) .stop) (.alt 5 (.alt 1 (.alt 6 (.alt 7 (.alt 8 (.alt 9 .done .stop) .stop) .stop) .stop) (.alt 6 (.alt 1 (.alt 7 (.alt 8 (.alt 9 .done .stop) .stop) .stop) .stop) .stop)) .stop)) (.alt 5 (.alt 0 (.alt 1 (.alt 6 (.alt 7 (.alt 8 (.alt 9 .done .stop) .stop) .stop) .stop) (.alt 6 (.alt 1 (.alt 7 (.alt 8 (.alt 9 .done .stop) .stop) .stop) .stop) .stop)) (.alt 6 (.alt 0 (.alt 1 (.alt 7 (.alt 8 (.alt 9 .done .stop) .stop) .stop) .stop) .stop) .stop)) .stop)) .stop)) .stop)) (.alt 3 (.alt 0 (.alt 1 (.alt 2 (.alt 4 (.alt 5 (.alt 6 (.alt 7 (.alt 8 (.alt 9 .done .stop) .stop) .stop) .stop) .stop) .stop) (.alt 4 (.alt 2 (.alt 5 (.alt 6 (.alt 7 (.alt 8 (.alt 9 .done .stop) .stop) .stop) .stop) .stop) .stop) .stop)) (.alt 2 (.alt 1 (.alt 4 (.alt 5 (.alt 6 (.alt 7 (.alt 8 (.alt 9 .done .stop) .stop) .stop) .stop) .stop) .stop) (.alt 4 (.alt 1 (.alt 5 (.alt 6 (.alt 7 (.alt 8 (.alt 9 .done .stop) .stop) .stop) .stop) .stop) (.alt 5 (.alt 1 (.alt 6 (.alt 7 (.alt 8 (.alt 9 .done .stop) .stop) .stop) .stop) (.alt 6 (.alt 1 (.alt 7 (.alt 8 (.alt 9 .done .stop) .stop) .stop) .stop) .stop)) .stop)) .stop)) (.alt 4 (.alt 1 (.alt 2 (.alt 5 (.alt 6 (.alt 7 (.alt 8 (.alt 9 .done .stop) .stop) .stop) .stop) .stop) .stop) (.alt 2 (.alt 1 (.alt 5 (.alt 6 (.alt 7 (.alt 8 (.alt 9 .done .stop) .stop) .stop) .stop) .stop) (.alt 5 (.alt 1 (.alt 6 (.alt 7 (.alt 8 (.alt 9 .done .stop) .stop) .stop) .stop) (.alt 6 (.alt 1 (.alt 7 (.alt 8 (.alt 9 .done .stop) .stop) .stop) .stop) .stop)) .stop)) .stop)) .stop))) (.alt 2 (.alt 0 (.alt 1 (.alt 4 (.alt 5 (.alt 6 (.alt 7 (.alt 8 (.alt 9 .done .stop) .stop) .stop) .stop) .stop) .stop) (.alt 4 (.alt 1 (.alt 5 (.alt 6 (.alt 7 (.alt 8 (.alt 9 .done .stop) .stop) .stop) .stop) .stop) (.alt 5 (.alt 1 (.alt 6 (.alt 7 (.alt 8 (.alt 9 .done .stop) .stop) .stop) .stop) (.alt 6 (.alt 1 (.alt 7 (.alt 8 (.alt 9 .done .stop) .stop) .stop) .stop) .stop)) .stop)) .stop)) (.alt 4 (.alt 0 (.alt 1 (.alt 5 (.alt 6 (.alt 7 (.alt 8 (.alt 9 .done .stop) .stop) .stop) .stop) .stop) (.alt 5 (.alt 1 (.alt 6 (.alt 7 (.alt 8 (.alt 9 .done .stop) .stop) .stop) .stop) (.alt 6 (.alt 1 (.alt 7 (.alt 8 (.alt 9 .done .stop) .stop) .stop) .stop) .stop)) .stop)) (.alt 5 (.alt 0 (.alt 1 (.alt 6 (.alt 7 (.alt 8 (.alt 9 .done .stop) .stop) .stop) .stop) (.alt 6 (.alt 1 (.alt 7 (.alt 8 (.alt 9 .done .stop) .stop) .stop) .stop) .stop)) (.alt 6 (.alt 0 (.alt 1 (.alt 7 (.alt 8 (.alt 9 .done .stop) .stop) .stop) .stop) .stop) .stop)) .stop)) .stop)) (.alt 4 (.alt 0 (.alt 1 (.alt 2 (.alt 5 (.alt 6 (.alt 7 (.alt 8 (.alt 9 .done .stop) .stop) .stop) .stop) .stop) .stop) (.alt 2 (.alt 1 (.alt 5 (.alt 6 (.alt 7 (.alt 8 (.alt 9 .done .stop) .stop) .stop) .stop) .stop) (.alt 5 (.alt 1 (.alt 6 (.alt 7 (.alt 8 (.alt 9 .done .stop) .stop) .stop) .stop) (.alt 6 (.alt 1 (.alt 7 (.alt 8 (.alt 9 .done .stop) .stop) .stop) .stop) .stop)) .stop)) .stop)) (.alt 2 (.alt 0 (.alt 1 (.alt 5 (.alt 6 (.alt 7 (.alt 8 (.alt 9 .done .stop) .stop) .stop) .stop) .stop) (.alt 5 (.alt 1 (.alt 6 (.alt 7 (.alt 8 (.alt 9 .done .stop) .stop) .stop) .stop) (.alt 6 (.alt 1 (.alt 7 (.alt 8 (.alt 9 .done .stop) .stop) .stop) .stop) .stop)) .stop)) (.alt 5 (.alt 0 (.alt 1 (.alt 6 (.alt 7 (.alt 8 (.alt 9 .done .stop) .stop) .stop) .stop) (.alt 6 (.alt 1 (.alt 7 (.alt 8 (.alt 9 .done .stop) .stop) .stop) .stop) .stop)) (.alt 6 (.alt 0 (.alt 1 (.alt 7 (.alt 8 (.alt 9 .done .stop) .stop) .stop) .stop) .stop) .stop)) .stop)) .stop)) .stop))) .stop)))
set_option maxHeartbeats 4000000 in
theorem drawModel (s:Src) (h:s.ok):∃ (s':Src) (m:Model),SpecX Try.prog 183 [s.pt] [some s'.pt] m.tr∧s'.ok∧mdOk m:=by
  obtain ⟨s1,ks,q1,k1,hks⟩:=drawKinds s h
  obtain ⟨s2,x2,q2,k2,b1,b2,_⟩:=below s1 3 k1 (by unfold intOk;omega)
  have b2:=b2 (by omega)
  obtain ⟨n0,hn⟩:∃ n:Nat,x2=n:=⟨_,(Int.toNat_of_nonneg b1).symm⟩
  subst hn
  obtain ⟨n,hn⟩:∃ n:Nat,n=1+n0:=⟨_,rfl⟩
  have hn1:(1:Int)+n0=n:=by omega
  have hn3:n≤3:=by omega
  have hmd:=mdK_ok s2 ks k2 hks
  have hml:=(hmd n).2.1
  refine ⟨(mdK s2 ks n).1,⟨ks,([65,66,67]:List UInt8).take n,(mdK s2 ks n).2⟩,?_,(hmd n).1,hks,by simp;omega,by simp only [hml];omega,(hmd n).2.2⟩
  refine spec_of_awp_any (M:=MM) (np:=1) (X:=[7]) (fz:=false) mixed Try.func183 rfl rfl (by decide) rfl (Nat.le_refl _) (by decide +kernel) (.inl rfl) (by simp only [sigsOk_some,sigsOk_nil,and_true];rfl) ?_
  simp -dsimp -implicitDefEqProofs (disch:=first|omega|(simp only [lenr];try omega)) only [↓amPre,↓reduceIte,reduceCtorEq,Nat.reduceEqDiff,Nat.reduceBEq,Nat.reduceAdd,Nat.reduceLeDiff,Nat.reduceSub,Nat.reduceMul,Int.reduceToNat,MM,bu0,cbP3]
  refine callX_of (q1) ?_
  simp -dsimp -implicitDefEqProofs (disch:=first|omega|(simp only [lenr];try omega)) only [↓amPre,↓reduceIte,reduceCtorEq,Nat.reduceEqDiff,Nat.reduceBEq,Nat.reduceAdd,Nat.reduceLeDiff,Nat.reduceSub,Nat.reduceMul,Int.reduceToNat,MM,bu0,cbP3]
  refine callX_of (q2) ?_
  simp -dsimp -implicitDefEqProofs (disch:=first|omega|(simp only [lenr];try omega)) only [↓amPre,↓reduceIte,reduceCtorEq,Nat.reduceEqDiff,Nat.reduceBEq,Nat.reduceAdd,Nat.reduceLeDiff,Nat.reduceSub,Nat.reduceMul,Int.reduceToNat,MM,bu0,cbP3,hn1]
  refine awp_loopC 3 2 3 1 [ktr ks,.st (([65,66,67]:List UInt8).take n),.nilsl] (by simp -dsimp -implicitDefEqProofs (disch:=first|omega|(simp only [lenr];try omega)) only [↓amPre,↓reduceIte,reduceCtorEq,Nat.reduceEqDiff,Nat.reduceBEq,Nat.reduceAdd,Nat.reduceLeDiff,Nat.reduceSub,Nat.reduceMul,Int.reduceToNat,MM,bu0,cbP3]) (by simp) (by simp) (fun k st=>k≤n∧st.fr 5=.i64 k∧st.fr 4=.i64 n∧st.fr 3=.loc 3 [] 0 0∧st.fr 2=.loc 2 [] 0 0∧st.fr 0=.loc 0 [] 0 0∧st.mem 3=some (.pt 3 (.agg [ktr ks,.st (([65,66,67]:List UInt8).take n),tsst (mdK s2 ks k).2]))∧st.mem 0=some ((mdK s2 ks k).1.pt)∧st.mem 2=some (.pt 3 (.agg [.nilsl,.st [],.nilsl]))) (n) ?_ ?_
  · simp -dsimp -implicitDefEqProofs (disch:=first|omega|(simp only [lenr];try omega)) only [↓amPre,↓reduceIte,reduceCtorEq,Nat.reduceEqDiff,Nat.reduceBEq,Nat.reduceAdd,Nat.reduceLeDiff,Nat.reduceSub,Nat.reduceMul,Int.reduceToNat,MM,bu0,cbP3,nilC_eq]
    simp [mdK]
  rintro k st _ ⟨hk,f5,f4,f3,f2,f0,m3,m0,m2⟩
  obtain ⟨k3,hl3,_⟩:=hmd k
  by_cases hlt:k<n
  · have hds:=drawState (mdK s2 ks k).1 ks k3 hks
    have hst:mdK s2 ks (k+1)=((dsK (mdK s2 ks k).1 ks ks.length).1,(mdK s2 ks k).2++[(dsK (mdK s2 ks k).1 ks ks.length).2]):=rfl
    rw [hst]
    generalize (dsK (mdK s2 ks k).1 ks ks.length).1=S3 at hds
    generalize (dsK (mdK s2 ks k).1 ks ks.length).2=TW at hds
    generalize (mdK s2 ks k).2=L at *
    generalize (mdK s2 ks k).1=S2 at *
    simp -dsimp -implicitDefEqProofs (disch:=first|omega|(simp only [lenr];try omega)) only [↓amPre,↓reduceIte,reduceCtorEq,Nat.reduceEqDiff,Nat.reduceBEq,Nat.reduceAdd,Nat.reduceLeDiff,Nat.reduceSub,Nat.reduceMul,Int.reduceToNat,MM,bu0,cbP3,f5,f4,f3,f2,f0,m3,m0,m2]
    refine any_go treeM (fun st'=>st'.fr 5=.i64 k∧st'.fr 4=.i64 n∧st'.fr 3=.loc 3 [] 0 0∧st'.fr 2=.loc 2 [] 0 0∧st'.fr 0=.loc 0 [] 0 0∧st'.mem 3=some (.pt 3 (.agg [ktr ks,.st (([65,66,67]:List UInt8).take n),tsst (L++[TW])]))∧st'.mem 0=some S3.pt∧st'.mem 2=some (.pt 3 (.agg [.nilsl,.st [],.nilsl]))) (by decide +kernel) ?_ ?_
    · simp (maxSteps:=4000000) -dsimp -implicitDefEqProofs (disch:=first|omega|(simp only [lenr];try omega)) only [↓amPre,↓reduceIte,reduceCtorEq,Nat.reduceEqDiff,Nat.reduceBEq,Nat.reduceAdd,Nat.reduceLeDiff,Nat.reduceSub,Nat.reduceMul,Int.reduceToNat,MM,bu0,cbP3,f5,f4,f3,f2,f0,m3,m0,m2,treeM]
      repeat' apply And.intro
      all_goals refine callX_of hds ?_
      all_goals simp (maxSteps:=4000000) -dsimp -implicitDefEqProofs (disch:=first|omega|(simp only [lenr];try omega)) only [↓amPre,↓reduceIte,reduceCtorEq,Nat.reduceEqDiff,Nat.reduceBEq,Nat.reduceAdd,Nat.reduceLeDiff,Nat.reduceSub,Nat.reduceMul,Int.reduceToNat,MM,bu0,cbP3,f5,f4,f3,f2,f0,m3,m0,m2]
    · rintro st' ⟨g5,g4,g3,g2,g0,m3',m0',m2'⟩
      simp -dsimp -implicitDefEqProofs (disch:=first|omega|(simp only [lenr];try omega)) only [↓amPre,↓reduceIte,reduceCtorEq,Nat.reduceEqDiff,Nat.reduceBEq,Nat.reduceAdd,Nat.reduceLeDiff,Nat.reduceSub,Nat.reduceMul,Int.reduceToNat,MM,bu0,cbP3,g5,g4,g3,g2,g0,m3',m0',m2']
      repeat' (first|omega|rfl|exact i64c (by omega)|exact vic (by omega)|apply ai)
  · have hke:k=n:=by omega
    subst hke
    simp -dsimp -implicitDefEqProofs (disch:=first|omega|(simp only [lenr];try omega)) only [↓amPre,↓reduceIte,reduceCtorEq,Nat.reduceEqDiff,Nat.reduceBEq,Nat.reduceAdd,Nat.reduceLeDiff,Nat.reduceSub,Nat.reduceMul,Int.reduceToNat,MM,bu0,cbP3,f5,f4,f3,f2,f0,m3,m0,m2]
def fewM (m:Model):Prop:=m.ks.length≤3∧m.nm.length≤5∧m.mv.length≤3∧∀ tw∈m.mv,fewT tw
theorem mdOk_few {m:Model} (h:mdOk m):fewM m:=⟨h.1.1.2,by have:=h.2.1;omega,h.2.2.1.2,fun tw ht=>by
  obtain ⟨h1,h2⟩:=h.2.2.2 tw ht
  refine fewT_of _ (by rw [h1];exact h.1.1.2) fun t htt=>?_
  obtain ⟨i,hi,rfl⟩:=List.getElem_of_mem htt
  have:=h2 i (by omega)
  rw [getD_eq _ _ _ hi] at this
  obtain ⟨c1,c2,o1,o2,_⟩:=kindsOk_kind h.1 (mem_getD m.ks i default (by omega))
  omega⟩
def nms5:List (List UInt8):=[[],[65,65],[97],[90,89,88,87,86],[65]]
theorem drawModelAny (s:Src) (h:s.ok):∃ (s':Src) (m:Model),SpecX Try.prog 93 [s.pt] [some s'.pt] m.tr∧s'.ok∧fewM m:=by
  obtain ⟨s1,m,q1,k1,hm⟩:=drawModel s h
  have hf:=mdOk_few hm
  obtain ⟨hks,hnm,hmv,htw⟩:=hm
  obtain ⟨s2,b,q2,k2⟩:=oneIn s1 8 k1 (by unfold intOk;omega)
  cases b with
  | false =>
    refine ⟨s2,m,?_,k2,hf⟩
    refine spec_of_awp (M:=MM) (np:=1) (fz:=false) mixed Try.func93 rfl rfl (by decide) rfl (Nat.le_refl _) (by decide +kernel) (.inl rfl) (by simp only [sigsOk_some,sigsOk_nil,and_true];rfl) ?_
    simp -dsimp -implicitDefEqProofs (disch:=first|omega|(simp only [lenr];try omega)) only [↓amPre,↓reduceIte,reduceCtorEq,Nat.reduceEqDiff,Nat.reduceBEq,Nat.reduceAdd,Nat.reduceLeDiff,Nat.reduceSub,Nat.reduceMul,Int.reduceToNat,MM,bu0,cbP3]
    refine callX_of (q1) ?_
    simp -dsimp -implicitDefEqProofs (disch:=first|omega|(simp only [lenr];try omega)) only [↓amPre,↓reduceIte,reduceCtorEq,Nat.reduceEqDiff,Nat.reduceBEq,Nat.reduceAdd,Nat.reduceLeDiff,Nat.reduceSub,Nat.reduceMul,Int.reduceToNat,MM,bu0,cbP3]
    refine callX_of (q2) ?_
    simp -dsimp -implicitDefEqProofs (disch:=first|omega|(simp only [lenr];try omega)) only [↓amPre,↓reduceIte,reduceCtorEq,Nat.reduceEqDiff,Nat.reduceBEq,Nat.reduceAdd,Nat.reduceLeDiff,Nat.reduceSub,Nat.reduceMul,Int.reduceToNat,MM,bu0,cbP3]
  | true =>
  obtain ⟨s3,x3,q3,k3,b1,b2,_⟩:=below s2 5 k2 (by unfold intOk;omega)
  have b2:=b2 (by omega)
  obtain ⟨n,hn⟩:∃ n:Nat,x3=n:=⟨_,(Int.toNat_of_nonneg b1).symm⟩
  have hn5:n<5:=by omega
  subst hn
  obtain ⟨ks,nm,mv⟩:=m
  simp only at hks hnm hmv htw
  obtain ⟨⟨kc,ko⟩,kr,rfl⟩:=list_cons ks hks.1.1
  obtain ⟨tw0,mr,rfl⟩:=list_cons mv hmv.1
  obtain ⟨ht1,ht2⟩:=htw tw0 (List.mem_cons_self ..)
  obtain ⟨⟨t0,y0⟩,tr,rfl⟩:=list_cons tw0 (by rw [ht1];exact hks.1.1)
  have g0:=ht2 0 (by simp)
  obtain ⟨c1,c2,o1,o2,_⟩:=kindsOk_kind hks (show (⟨kc,ko⟩:Kind)∈_ from List.mem_cons_self ..)
  simp only [List.getD_cons_zero] at g0 c1 c2
  obtain ⟨d0,dr,rfl⟩:=list_cons y0 (by omega)
  obtain ⟨f1,f2,f3,f4⟩:=hf
  simp only at f1 f2 f3 f4
  match n,hn5 with
  | 0,_ =>
    obtain ⟨s4,x4,q4,k4,e1,e2,_⟩:=below s3 5 k3 (by unfold intOk;omega)
    have e2:=e2 (by omega)
    obtain ⟨j,hj⟩:∃ j:Nat,x4=j:=⟨_,(Int.toNat_of_nonneg e1).symm⟩
    have hj5:j<5:=by omega
    subst hj
    refine ⟨s4,⟨⟨kc,ko⟩ :: kr,nms5.getD j [],(⟨t0,d0 :: dr⟩ :: tr) :: mr⟩,?_,k4,f1,?_,f3,f4⟩
    · refine spec_of_awp (M:=MM) (np:=1) (fz:=false) mixed Try.func93 rfl rfl (by decide) rfl (Nat.le_refl _) (by decide +kernel) (.inl rfl) (by simp only [sigsOk_some,sigsOk_nil,and_true];rfl) ?_
      simp -dsimp -implicitDefEqProofs (disch:=first|omega|(simp only [lenr];try omega)) only [↓amPre,↓reduceIte,reduceCtorEq,Nat.reduceEqDiff,Nat.reduceBEq,Nat.reduceAdd,Nat.reduceLeDiff,Nat.reduceSub,Nat.reduceMul,Int.reduceToNat,MM,bu0,cbP3]
      refine callX_of (q1) ?_
      simp -dsimp -implicitDefEqProofs (disch:=first|omega|(simp only [lenr];try omega)) only [↓amPre,↓reduceIte,reduceCtorEq,Nat.reduceEqDiff,Nat.reduceBEq,Nat.reduceAdd,Nat.reduceLeDiff,Nat.reduceSub,Nat.reduceMul,Int.reduceToNat,MM,bu0,cbP3]
      refine callX_of (q2) ?_
      simp -dsimp -implicitDefEqProofs (disch:=first|omega|(simp only [lenr];try omega)) only [↓amPre,↓reduceIte,reduceCtorEq,Nat.reduceEqDiff,Nat.reduceBEq,Nat.reduceAdd,Nat.reduceLeDiff,Nat.reduceSub,Nat.reduceMul,Int.reduceToNat,MM,bu0,cbP3]
      refine callX_of (q3) ?_
      simp -dsimp -implicitDefEqProofs (disch:=first|omega|(simp only [lenr];try omega)) only [↓amPre,↓reduceIte,reduceCtorEq,Nat.reduceEqDiff,Nat.reduceBEq,Nat.reduceAdd,Nat.reduceLeDiff,Nat.reduceSub,Nat.reduceMul,Int.reduceToNat,MM,bu0,cbP3]
      refine callX_of (q4) ?_
      match j,hj5 with
      | 0,_ =>
        simp -dsimp -implicitDefEqProofs (disch:=first|omega|(simp only [lenr];try omega)) only [↓amPre,↓reduceIte,reduceCtorEq,Nat.reduceEqDiff,Nat.reduceBEq,Nat.reduceAdd,Nat.reduceLeDiff,Nat.reduceSub,Nat.reduceMul,Int.reduceToNat,MM,bu0,cbP3,nms5]
      | 1,_ =>
        simp -dsimp -implicitDefEqProofs (disch:=first|omega|(simp only [lenr];try omega)) only [↓amPre,↓reduceIte,reduceCtorEq,Nat.reduceEqDiff,Nat.reduceBEq,Nat.reduceAdd,Nat.reduceLeDiff,Nat.reduceSub,Nat.reduceMul,Int.reduceToNat,MM,bu0,cbP3,nms5]
      | 2,_ =>
        simp -dsimp -implicitDefEqProofs (disch:=first|omega|(simp only [lenr];try omega)) only [↓amPre,↓reduceIte,reduceCtorEq,Nat.reduceEqDiff,Nat.reduceBEq,Nat.reduceAdd,Nat.reduceLeDiff,Nat.reduceSub,Nat.reduceMul,Int.reduceToNat,MM,bu0,cbP3,nms5]
      | 3,_ =>
        simp -dsimp -implicitDefEqProofs (disch:=first|omega|(simp only [lenr];try omega)) only [↓amPre,↓reduceIte,reduceCtorEq,Nat.reduceEqDiff,Nat.reduceBEq,Nat.reduceAdd,Nat.reduceLeDiff,Nat.reduceSub,Nat.reduceMul,Int.reduceToNat,MM,bu0,cbP3,nms5]
      | 4,_ =>
        simp -dsimp -implicitDefEqProofs (disch:=first|omega|(simp only [lenr];try omega)) only [↓amPre,↓reduceIte,reduceCtorEq,Nat.reduceEqDiff,Nat.reduceBEq,Nat.reduceAdd,Nat.reduceLeDiff,Nat.reduceSub,Nat.reduceMul,Int.reduceToNat,MM,bu0,cbP3,nms5]
    · match j,hj5 with
      | 0,_ | 1,_ | 2,_ | 3,_ | 4,_=>simp [nms5]
  | 1,_ =>
    refine ⟨s3,⟨⟨kc,ko⟩ :: kr,nm,mr⟩,?_,k3,f1,f2,by simp only [List.length_cons] at f3 ⊢;omega,fun t ht=>f4 t (List.mem_cons_of_mem _ ht)⟩
    refine spec_of_awp (M:=MM) (np:=1) (fz:=false) mixed Try.func93 rfl rfl (by decide) rfl (Nat.le_refl _) (by decide +kernel) (.inl rfl) (by simp only [sigsOk_some,sigsOk_nil,and_true];rfl) ?_
    simp -dsimp -implicitDefEqProofs (disch:=first|omega|(simp only [lenr];try omega)) only [↓amPre,↓reduceIte,reduceCtorEq,Nat.reduceEqDiff,Nat.reduceBEq,Nat.reduceAdd,Nat.reduceLeDiff,Nat.reduceSub,Nat.reduceMul,Int.reduceToNat,MM,bu0,cbP3]
    refine callX_of (q1) ?_
    simp -dsimp -implicitDefEqProofs (disch:=first|omega|(simp only [lenr];try omega)) only [↓amPre,↓reduceIte,reduceCtorEq,Nat.reduceEqDiff,Nat.reduceBEq,Nat.reduceAdd,Nat.reduceLeDiff,Nat.reduceSub,Nat.reduceMul,Int.reduceToNat,MM,bu0,cbP3]
    refine callX_of (q2) ?_
    simp -dsimp -implicitDefEqProofs (disch:=first|omega|(simp only [lenr];try omega)) only [↓amPre,↓reduceIte,reduceCtorEq,Nat.reduceEqDiff,Nat.reduceBEq,Nat.reduceAdd,Nat.reduceLeDiff,Nat.reduceSub,Nat.reduceMul,Int.reduceToNat,MM,bu0,cbP3]
    refine callX_of (q3) ?_
    simp -dsimp -implicitDefEqProofs (disch:=first|omega|(simp only [lenr];try omega)) only [↓amPre,↓reduceIte,reduceCtorEq,Nat.reduceEqDiff,Nat.reduceBEq,Nat.reduceAdd,Nat.reduceLeDiff,Nat.reduceSub,Nat.reduceMul,Int.reduceToNat,MM,bu0,cbP3,pullR]
  | 2,_ =>
    obtain ⟨s4,x4,q4,k4,_⟩:=between s3 (-1) 3 k3 (by omega) (by omega) (by omega)
    refine ⟨s4,⟨⟨kc,ko⟩ :: kr,nm,(⟨t0,x4 :: dr⟩ :: tr) :: mr⟩,?_,k4,f1,f2,f3,fun t ht=>?_⟩
    · refine spec_of_awp_any (M:=MM) (np:=1) (X:=[9,11]) (fz:=false) mixed Try.func93 rfl rfl (by decide) rfl (Nat.le_refl _) (by decide +kernel) (.inl rfl) (by simp only [sigsOk_some,sigsOk_nil,and_true];rfl) ?_
      simp -dsimp -implicitDefEqProofs (disch:=first|omega|(simp only [lenr];try omega)) only [↓amPre,↓reduceIte,reduceCtorEq,Nat.reduceEqDiff,Nat.reduceBEq,Nat.reduceAdd,Nat.reduceLeDiff,Nat.reduceSub,Nat.reduceMul,Int.reduceToNat,MM,bu0,cbP3]
      refine callX_of (q1) ?_
      simp -dsimp -implicitDefEqProofs (disch:=first|omega|(simp only [lenr];try omega)) only [↓amPre,↓reduceIte,reduceCtorEq,Nat.reduceEqDiff,Nat.reduceBEq,Nat.reduceAdd,Nat.reduceLeDiff,Nat.reduceSub,Nat.reduceMul,Int.reduceToNat,MM,bu0,cbP3]
      refine callX_of (q2) ?_
      simp -dsimp -implicitDefEqProofs (disch:=first|omega|(simp only [lenr];try omega)) only [↓amPre,↓reduceIte,reduceCtorEq,Nat.reduceEqDiff,Nat.reduceBEq,Nat.reduceAdd,Nat.reduceLeDiff,Nat.reduceSub,Nat.reduceMul,Int.reduceToNat,MM,bu0,cbP3]
      refine callX_of (q3) ?_
      simp -dsimp -implicitDefEqProofs (disch:=first|omega|(simp only [lenr];try omega)) only [↓amPre,↓reduceIte,reduceCtorEq,Nat.reduceEqDiff,Nat.reduceBEq,Nat.reduceAdd,Nat.reduceLeDiff,Nat.reduceSub,Nat.reduceMul,Int.reduceToNat,MM,bu0,cbP3]
      refine piv_go 9 8 0 (by decide +kernel) ?_
      simp -dsimp -implicitDefEqProofs (disch:=first|omega|(simp only [lenr];try omega)) only [↓amPre,↓reduceIte,reduceCtorEq,Nat.reduceEqDiff,Nat.reduceBEq,Nat.reduceAdd,Nat.reduceLeDiff,Nat.reduceSub,Nat.reduceMul,Int.reduceToNat,MM,bu0,cbP3,Twist.tr]
      refine pvX_of (q4) ?_
      simp -dsimp -implicitDefEqProofs (disch:=first|omega|(simp only [lenr];try omega)) only [↓amPre,↓reduceIte,reduceCtorEq,Nat.reduceEqDiff,Nat.reduceBEq,Nat.reduceAdd,Nat.reduceLeDiff,Nat.reduceSub,Nat.reduceMul,Int.reduceToNat,MM,bu0,cbP3,Twist.tr]
      rfl
    · rcases List.mem_cons.1 ht with rfl | ht
      · have h0:=f4 _ (List.mem_cons_self ..)
        refine fewT_of _ h0.1 fun t ht=>?_
        rcases List.mem_cons.1 ht with rfl | ht
        · exact h0.2.1 ⟨t0,d0 :: dr⟩ (List.mem_cons_self ..)
        · exact h0.2.1 t (List.mem_cons_of_mem _ ht)
      · exact f4 t (List.mem_cons_of_mem _ ht)
  | 3,_ =>
    obtain ⟨s4,x4,q4,k4,_⟩:=numberUpTo s3 5 k3 (by omega) (by omega)
    refine ⟨s4,⟨⟨x4,ko⟩ :: kr,nm,(⟨t0,d0 :: dr⟩ :: tr) :: mr⟩,?_,k4,f1,f2,f3,f4⟩
    refine spec_of_awp_any (M:=MM) (np:=1) (X:=[9,11]) (fz:=false) mixed Try.func93 rfl rfl (by decide) rfl (Nat.le_refl _) (by decide +kernel) (.inl rfl) (by simp only [sigsOk_some,sigsOk_nil,and_true];rfl) ?_
    simp -dsimp -implicitDefEqProofs (disch:=first|omega|(simp only [lenr];try omega)) only [↓amPre,↓reduceIte,reduceCtorEq,Nat.reduceEqDiff,Nat.reduceBEq,Nat.reduceAdd,Nat.reduceLeDiff,Nat.reduceSub,Nat.reduceMul,Int.reduceToNat,MM,bu0,cbP3]
    refine callX_of (q1) ?_
    simp -dsimp -implicitDefEqProofs (disch:=first|omega|(simp only [lenr];try omega)) only [↓amPre,↓reduceIte,reduceCtorEq,Nat.reduceEqDiff,Nat.reduceBEq,Nat.reduceAdd,Nat.reduceLeDiff,Nat.reduceSub,Nat.reduceMul,Int.reduceToNat,MM,bu0,cbP3]
    refine callX_of (q2) ?_
    simp -dsimp -implicitDefEqProofs (disch:=first|omega|(simp only [lenr];try omega)) only [↓amPre,↓reduceIte,reduceCtorEq,Nat.reduceEqDiff,Nat.reduceBEq,Nat.reduceAdd,Nat.reduceLeDiff,Nat.reduceSub,Nat.reduceMul,Int.reduceToNat,MM,bu0,cbP3]
    refine callX_of (q3) ?_
    simp -dsimp -implicitDefEqProofs (disch:=first|omega|(simp only [lenr];try omega)) only [↓amPre,↓reduceIte,reduceCtorEq,Nat.reduceEqDiff,Nat.reduceBEq,Nat.reduceAdd,Nat.reduceLeDiff,Nat.reduceSub,Nat.reduceMul,Int.reduceToNat,MM,bu0,cbP3]
    refine piv_go 4 3 0 (by decide +kernel) ?_
    simp -dsimp -implicitDefEqProofs (disch:=first|omega|(simp only [lenr];try omega)) only [↓amPre,↓reduceIte,reduceCtorEq,Nat.reduceEqDiff,Nat.reduceBEq,Nat.reduceAdd,Nat.reduceLeDiff,Nat.reduceSub,Nat.reduceMul,Int.reduceToNat,MM,bu0,cbP3,Kind.av]
    refine pvX_of (q4) ?_
    simp -dsimp -implicitDefEqProofs (disch:=first|omega|(simp only [lenr];try omega)) only [↓amPre,↓reduceIte,reduceCtorEq,Nat.reduceEqDiff,Nat.reduceBEq,Nat.reduceAdd,Nat.reduceLeDiff,Nat.reduceSub,Nat.reduceMul,Int.reduceToNat,MM,bu0,cbP3,Kind.av]
  | 4,_ =>
    refine ⟨s3,⟨kr,nm,(⟨t0,d0 :: dr⟩ :: tr) :: mr⟩,?_,k3,by simp only [List.length_cons] at f1 ⊢;omega,f2,f3,f4⟩
    refine spec_of_awp (M:=MM) (np:=1) (fz:=false) mixed Try.func93 rfl rfl (by decide) rfl (Nat.le_refl _) (by decide +kernel) (.inl rfl) (by simp only [sigsOk_some,sigsOk_nil,and_true];rfl) ?_
    simp -dsimp -implicitDefEqProofs (disch:=first|omega|(simp only [lenr];try omega)) only [↓amPre,↓reduceIte,reduceCtorEq,Nat.reduceEqDiff,Nat.reduceBEq,Nat.reduceAdd,Nat.reduceLeDiff,Nat.reduceSub,Nat.reduceMul,Int.reduceToNat,MM,bu0,cbP3]
    refine callX_of (q1) ?_
    simp -dsimp -implicitDefEqProofs (disch:=first|omega|(simp only [lenr];try omega)) only [↓amPre,↓reduceIte,reduceCtorEq,Nat.reduceEqDiff,Nat.reduceBEq,Nat.reduceAdd,Nat.reduceLeDiff,Nat.reduceSub,Nat.reduceMul,Int.reduceToNat,MM,bu0,cbP3]
    refine callX_of (q2) ?_
    simp -dsimp -implicitDefEqProofs (disch:=first|omega|(simp only [lenr];try omega)) only [↓amPre,↓reduceIte,reduceCtorEq,Nat.reduceEqDiff,Nat.reduceBEq,Nat.reduceAdd,Nat.reduceLeDiff,Nat.reduceSub,Nat.reduceMul,Int.reduceToNat,MM,bu0,cbP3]
    refine callX_of (q3) ?_
    simp -dsimp -implicitDefEqProofs (disch:=first|omega|(simp only [lenr];try omega)) only [↓amPre,↓reduceIte,reduceCtorEq,Nat.reduceEqDiff,Nat.reduceBEq,Nat.reduceAdd,Nat.reduceLeDiff,Nat.reduceSub,Nat.reduceMul,Int.reduceToNat,MM,bu0,cbP3,pullR]
end Draws
end Go.AM
set_option maxRecDepth 8000
namespace Go.AM
namespace Dv
open Go.Proofs
open Draws (drawModelAny fewM oneIn)
abbrev Sc:=Draws.Src
def MM:FuncId→List Bool:=fun f=>if f=163 then [true,false] else if f=93 then [true] else if f=79 then [true] else []
noncomputable def oS (s:Sc) (n:Int):Sc:=open Classical in if h:s.ok∧intOk n then (oneIn s n h.1 h.2).choose else s
noncomputable def oB (s:Sc) (n:Int):Bool:=open Classical in if h:s.ok∧intOk n then (oneIn s n h.1 h.2).choose_spec.choose else false
theorem oneF (s:Sc) (n:Int) (h:s.ok) (hn:intOk n):SpecX Try.prog 163 [s.pt,.i64 n] [some (oS s n).pt] (.bl (oB s n))∧(oS s n).ok:=by
  have:=(oneIn s n h hn).choose_spec.choose_spec
  unfold oS oB
  rw [dif_pos ⟨h,hn⟩,dif_pos ⟨h,hn⟩]
  exact this
def by1 (k:Kind) (t:Twist):List Int:=t.by'.set 0 ((t.by'.getD 0 0+k.o - twS k t).tmod k.o)
def to1 (t:Twist):List Int:=(t.to.set 0 (t.to.getD 1 0)).set 1 (t.to.getD 0 0)
def setT (mv:List (List Twist)) (i k:Nat) (t:Twist):List (List Twist):=mv.set i ((mv.getD i default).set k t)
noncomputable def stp (ks:List Kind) (i:Nat) (p:Sc×List (List Twist)) (k:Nat):Sc×List (List Twist) :=
  if 1<((p.2.getD i default).getD k default).to.length∧sgnI ((p.2.getD i default).getD k default).to<0 then
    (oS p.1 2,setT p.2 i k ⟨if oB p.1 2 then to1 ((p.2.getD i default).getD k default) else ((p.2.getD i default).getD k default).to,by1 (ks.getD k default) ((p.2.getD i default).getD k default)⟩)
  else (p.1,setT p.2 i k ⟨((p.2.getD i default).getD k default).to,by1 (ks.getD k default) ((p.2.getD i default).getD k default)⟩)
noncomputable def inn (ks:List Kind) (i:Nat) (p:Sc×List (List Twist)):Nat→Sc×List (List Twist)
  | 0=>p
  | k+1=>stp ks i (inn ks i p k) k
noncomputable def outK (ks:List Kind) (p:Sc×List (List Twist)):Nat→Sc×List (List Twist)
  | 0=>p
  | i+1=>inn ks i (outK ks p i) ks.length
def okP (ks:List Kind) (N:Nat) (p:Sc×List (List Twist)):Prop:=p.1.ok∧p.2.length=N∧∀ s∈p.2,psOk ks s
theorem by1_ok {k:Kind} {t:Twist} (hk:kOk k) (h:twOk k t):(by1 k t).length=t.by'.length∧∀ x∈by1 k t,0≤x∧x<k.o:=by
  obtain ⟨c,o,hc,ho,la,la',c1,c2,o1,o2⟩:=twOk_facts h hk
  refine ⟨by rw [by1,List.length_set],fun x hx=>?_⟩
  rcases List.mem_or_eq_of_mem_set hx with q | q
  · exact h.2.2.2 x q
  · have h0:=by_get h (show 0<t.by'.length by omega)
    have nb:=Ih.sumI_nonneg t.by' (fun x hx=>(h.2.2.2 x hx).1)
    have ht:=tmod_in nb (show 0<k.o by omega)
    have:twS k t=(sumI t.by').tmod k.o:=rfl
    rw [q]
    exact tmod_in (by omega) (by omega)
theorem to1_perm {t:Twist} (h:isPerm t.to) (h2:1<t.to.length):isPerm (to1 t)∧(to1 t).length=t.to.length:=by
  have hl:(to1 t).length=t.to.length:=by unfold to1;rw [List.length_set,List.length_set]
  have hg:∀ a,a<t.to.length→(to1 t).getD a 0=if a=1 then t.to.getD 0 0 else if a=0 then t.to.getD 1 0 else t.to.getD a 0:=by
    intro a ha
    unfold to1
    by_cases c1:a=1
    · subst c1;rw [if_pos rfl,getD_set_same _ _ _ _ (by rw [List.length_set];exact ha)]
    · rw [if_neg c1,getD_set_ne _ _ _ _ _ (Ne.symm c1)]
      by_cases c0:a=0
      · subst c0;rw [if_pos rfl,getD_set_same _ _ _ _ ha]
      · rw [if_neg c0,getD_set_ne _ _ _ _ _ (Ne.symm c0)]
  refine ⟨isPerm_of (by rw [hl];exact h.1) (fun a ha=>?_) (fun a b ha hb e=>?_),hl⟩
  · rw [hl] at ha ⊢
    rw [hg a ha]
    have:=perm_get h ha;have:=perm_get h (show 0<t.to.length by omega);have:=perm_get h h2
    split
    · omega
    · split <;> omega
  · rw [hl] at ha hb
    rw [hg a ha,hg b hb] at e
    have key:∀ x y,x<t.to.length→y<t.to.length→t.to.getD x 0=t.to.getD y 0→x=y:=fun x y hx hy=>perm_inj h hx hy
    split at e <;> split at e <;> (try split at e) <;> (try split at e) <;> (first | omega | (have:=key _ _ (by omega) (by omega) e;omega))
theorem setT_ok {ks:List Kind} {mv:List (List Twist)} {N i k:Nat} {t:Twist} (hi:i<N) (hl:mv.length=N) (h:∀ s∈mv,psOk ks s) (hk:k<ks.length) (ht:twOk (ks.getD k default) t):(setT mv i k t).length=N∧∀ s∈setT mv i k t,psOk ks s:=by
  refine ⟨by rw [setT,List.length_set,hl],fun s hs=>?_⟩
  rcases List.mem_or_eq_of_mem_set hs with q | q
  · exact h s q
  · have hp:=h _ (mem_getD mv i default (by omega))
    rw [q]
    refine ⟨hp.1,by rw [List.length_set];exact hp.2.1,fun a ha=>?_⟩
    by_cases c:a=k
    · subst c
      rw [getD_set_same _ _ _ _ (by rw [hp.2.1];exact hk)]
      exact ht
    · rw [getD_set_ne _ _ _ _ _ (Ne.symm c)]
      exact hp.2.2 a ha
theorem stp_ok {ks:List Kind} {N i k:Nat} {p:Sc×List (List Twist)} (hi:i<N) (hk:k<ks.length) (h:okP ks N p):okP ks N (stp ks i p k):=by
  obtain ⟨h1,h2,h3⟩:=h
  have hp:=h3 _ (mem_getD p.2 i default (by omega))
  have hko:=hp.1.2.1 _ (mem_getD ks k default hk)
  have ht:=hp.2.2 k hk
  obtain ⟨b1,b2⟩:=by1_ok hko ht
  unfold stp
  split
  · rename_i hc
    obtain ⟨p1,p2⟩:=to1_perm ht.2.2.1 hc.1
    have:=setT_ok (t:=⟨if oB p.1 2 then to1 ((p.2.getD i default).getD k default) else ((p.2.getD i default).getD k default).to,by1 (ks.getD k default) ((p.2.getD i default).getD k default)⟩) hi h2 h3 hk (by
      refine ⟨?_,by rw [b1];exact ht.2.1,?_,b2⟩
      · dsimp only;split
        · rw [p2];exact ht.1
        · exact ht.1
      · dsimp only;split
        · exact p1
        · exact ht.2.2.1)
    exact ⟨(oneF p.1 2 h1 (by unfold intOk;omega)).2,this.1,this.2⟩
  · have:=setT_ok (t:=⟨((p.2.getD i default).getD k default).to,by1 (ks.getD k default) ((p.2.getD i default).getD k default)⟩) hi h2 h3 hk ⟨ht.1,by rw [b1];exact ht.2.1,ht.2.2.1,b2⟩
    exact ⟨h1,this.1,this.2⟩
theorem inn_ok {ks:List Kind} {N i:Nat} {p:Sc×List (List Twist)} (hi:i<N) (h:okP ks N p):∀ k,k≤ks.length→okP ks N (inn ks i p k)
  | 0,_=>h
  | k+1,hk=>stp_ok hi (by omega) (inn_ok hi h k (by omega))
theorem outK_ok {ks:List Kind} {N:Nat} {p:Sc×List (List Twist)} (h:okP ks N p):∀ i,i≤N→okP ks N (outK ks p i)
  | 0,_=>h
  | i+1,hi=>inn_ok (by omega) (outK_ok h i (by omega)) _ (Nat.le_refl _)
theorem few_small {m:Model} (h:fewM m):smallM m:=by
  obtain ⟨h1,h2,h3,h4⟩:=h
  refine ⟨by omega,by omega,by omega,fun s hs=>?_⟩
  have:=h4 s hs
  exact ⟨by have:=this.1;omega,fun t ht=>by have:=this.2.1 t ht;omega⟩
theorem ok_few {m:Model} (hm:modelOk m) (hl:m.mv.length≤3) (hn:m.nm.length≤5) {mv:List (List Twist)} (h1:mv.length=m.mv.length) (h:∀ s∈mv,psOk m.ks s):fewM ⟨m.ks,m.nm,mv⟩:=by
  refine ⟨hm.1.1.2,hn,by simp only;omega,fun s hs=>?_⟩
  have hp:=h s hs
  refine fewT_of _ (by rw [hp.2.1];exact hm.1.1.2) fun t htt=>?_
  obtain ⟨i,hi,rfl⟩:=List.getElem_of_mem htt
  have:=hp.2.2 i (by rw [← hp.2.1];exact hi)
  rw [getD_eq _ _ _ hi] at this
  have hk:=hm.1.2.1 _ (mem_getD m.ks i default (by rw [← hp.2.1];exact hi))
  have e1:=this.1
  have e2:=this.2.1
  have e3:=hk.1
  omega
end Dv
end Go.AM
set_option maxRecDepth 8000
namespace Go.AM
namespace Dv
open Go.Proofs
open Draws (drawModelAny fewM oneIn)
theorem l22Draw (s:Sc) (h:s.ok):∃ (s':Sc) (m:Model),SpecX Try.prog 79 [s.pt] [some s'.pt] m.tr∧s'.ok∧fewM m:=by
  obtain ⟨s1,m,q1,k1,hm⟩:=drawModelAny s h
  have hsm:=few_small hm
  have q2:=sIsValidPieceModel m hsm
  by_cases c1:modelOk m
  case neg =>
    rw [decide_eq_false c1] at q2
    refine ⟨s1,m,?_,k1,hm⟩
    refine spec_of_awp_any (M:=MM) (np:=1) (X:=[10,11,14]) (fz:=false) mixed Try.func79 rfl rfl (by decide) rfl (Nat.le_refl _) (by decide +kernel) (.inl rfl) (by simp only [sigsOk_some,sigsOk_nil,and_true];rfl) ?_
    simp -dsimp -implicitDefEqProofs (disch:=first|omega|(simp only [lenr];try omega)) only [↓amPre,↓reduceIte,reduceCtorEq,Nat.reduceEqDiff,Nat.reduceBEq,Nat.reduceAdd,Nat.reduceLeDiff,Nat.reduceSub,Nat.reduceMul,Int.reduceToNat,MM,bu0,cbP9]
    refine callX_of (q1) ?_
    simp -dsimp -implicitDefEqProofs (disch:=first|omega|(simp only [lenr];try omega)) only [↓amPre,↓reduceIte,reduceCtorEq,Nat.reduceEqDiff,Nat.reduceBEq,Nat.reduceAdd,Nat.reduceLeDiff,Nat.reduceSub,Nat.reduceMul,Int.reduceToNat,MM,bu0,cbP9,kfz,tssfz]
    refine callP_of (q2) ?_
    simp -dsimp -implicitDefEqProofs (disch:=first|omega|(simp only [lenr];try omega)) only [↓amPre,↓reduceIte,reduceCtorEq,Nat.reduceEqDiff,Nat.reduceBEq,Nat.reduceAdd,Nat.reduceLeDiff,Nat.reduceSub,Nat.reduceMul,Int.reduceToNat,MM,bu0,cbP9,kfz,tssfz]
  rw [decide_eq_true c1] at q2
  obtain ⟨q3,k3⟩:=oneF s1 3 k1 (by unfold intOk;omega)
  cases b:oB s1 3 with
  | true =>
    rw [b] at q3
    refine ⟨oS s1 3,m,?_,k3,hm⟩
    refine spec_of_awp_any (M:=MM) (np:=1) (X:=[10,11,14]) (fz:=false) mixed Try.func79 rfl rfl (by decide) rfl (Nat.le_refl _) (by decide +kernel) (.inl rfl) (by simp only [sigsOk_some,sigsOk_nil,and_true];rfl) ?_
    simp -dsimp -implicitDefEqProofs (disch:=first|omega|(simp only [lenr];try omega)) only [↓amPre,↓reduceIte,reduceCtorEq,Nat.reduceEqDiff,Nat.reduceBEq,Nat.reduceAdd,Nat.reduceLeDiff,Nat.reduceSub,Nat.reduceMul,Int.reduceToNat,MM,bu0,cbP9]
    refine callX_of (q1) ?_
    simp -dsimp -implicitDefEqProofs (disch:=first|omega|(simp only [lenr];try omega)) only [↓amPre,↓reduceIte,reduceCtorEq,Nat.reduceEqDiff,Nat.reduceBEq,Nat.reduceAdd,Nat.reduceLeDiff,Nat.reduceSub,Nat.reduceMul,Int.reduceToNat,MM,bu0,cbP9,kfz,tssfz]
    refine callP_of (q2) ?_
    simp -dsimp -implicitDefEqProofs (disch:=first|omega|(simp only [lenr];try omega)) only [↓amPre,↓reduceIte,reduceCtorEq,Nat.reduceEqDiff,Nat.reduceBEq,Nat.reduceAdd,Nat.reduceLeDiff,Nat.reduceSub,Nat.reduceMul,Int.reduceToNat,MM,bu0,cbP9,kfz,tssfz]
    refine callX_of (q3) ?_
    simp -dsimp -implicitDefEqProofs (disch:=first|omega|(simp only [lenr];try omega)) only [↓amPre,↓reduceIte,reduceCtorEq,Nat.reduceEqDiff,Nat.reduceBEq,Nat.reduceAdd,Nat.reduceLeDiff,Nat.reduceSub,Nat.reduceMul,Int.reduceToNat,MM,bu0,cbP9]
  | false =>
  rw [b] at q3
  obtain ⟨ks,nm,mv⟩:=m
  obtain ⟨f1,f2,f3,f4⟩:=hm
  dsimp only at f1 f2 f3 f4
  have hP0:okP ks mv.length (oS s1 3,mv):=⟨k3,rfl,c1.2.2.2⟩
  generalize oS s1 3=S0 at *
  have hfin:=outK_ok hP0 mv.length (Nat.le_refl _)
  refine ⟨(outK ks (S0,mv) mv.length).1,⟨ks,nm,(outK ks (S0,mv) mv.length).2⟩,?_,hfin.1,ok_few c1 f3 f2 hfin.2.1 hfin.2.2⟩
  have hkl:ks.length≤3:=f1
  refine spec_of_awp_any (M:=MM) (np:=1) (X:=[10,11,14]) (fz:=false) mixed Try.func79 rfl rfl (by decide) rfl (Nat.le_refl _) (by decide +kernel) (.inl rfl) (by simp only [sigsOk_some,sigsOk_nil,and_true];rfl) ?_
  simp -dsimp -implicitDefEqProofs (disch:=first|omega|(simp only [lenr];try omega)) only [↓amPre,↓reduceIte,reduceCtorEq,Nat.reduceEqDiff,Nat.reduceBEq,Nat.reduceAdd,Nat.reduceLeDiff,Nat.reduceSub,Nat.reduceMul,Int.reduceToNat,MM,bu0,cbP9]
  refine callX_of (q1) ?_
  simp -dsimp -implicitDefEqProofs (disch:=first|omega|(simp only [lenr];try omega)) only [↓amPre,↓reduceIte,reduceCtorEq,Nat.reduceEqDiff,Nat.reduceBEq,Nat.reduceAdd,Nat.reduceLeDiff,Nat.reduceSub,Nat.reduceMul,Int.reduceToNat,MM,bu0,cbP9,kfz,tssfz]
  refine callP_of (q2) ?_
  simp -dsimp -implicitDefEqProofs (disch:=first|omega|(simp only [lenr];try omega)) only [↓amPre,↓reduceIte,reduceCtorEq,Nat.reduceEqDiff,Nat.reduceBEq,Nat.reduceAdd,Nat.reduceLeDiff,Nat.reduceSub,Nat.reduceMul,Int.reduceToNat,MM,bu0,cbP9,kfz,tssfz]
  refine callX_of (q3) ?_
  simp -dsimp -implicitDefEqProofs (disch:=first|omega|(simp only [lenr];try omega)) only [↓amPre,↓reduceIte,reduceCtorEq,Nat.reduceEqDiff,Nat.reduceBEq,Nat.reduceAdd,Nat.reduceLeDiff,Nat.reduceSub,Nat.reduceMul,Int.reduceToNat,MM,bu0,cbP9]
  refine awp_loop (fun i st=>i≤mv.length∧st.fr 4=.i64 i∧st.fr 3=.loc 3 [] 0 0∧st.fr 2=.loc 2 [] 0 0∧st.fr 0=.loc 0 [] 0 0∧st.mem 3=some (.pt 3 (.agg [ktr ks,.st nm,tsst (outK ks (S0,mv) i).2]))∧st.mem 0=some ((outK ks (S0,mv) i).1.pt)∧st.mem 2=some (.pt 3 (.agg [.nilsl,.st [],.nilsl]))) (mv.length) ?_ ?_
  · simp -dsimp -implicitDefEqProofs (disch:=first|omega|(simp only [lenr];try omega)) only [↓amPre,↓reduceIte,reduceCtorEq,Nat.reduceEqDiff,Nat.reduceBEq,Nat.reduceAdd,Nat.reduceLeDiff,Nat.reduceSub,Nat.reduceMul,Int.reduceToNat,MM,bu0,cbP9]
    exact ⟨Nat.zero_le _,rfl,rfl,rfl⟩
  rintro i st _ ⟨hi,f4,f3,f2,f0,m3,m0,m2⟩
  have hPi:=outK_ok hP0 i
  by_cases hlt:i<mv.length
  · have hPi:=hPi (by omega)
    have hst:outK ks (S0,mv) (i+1)=inn ks i (outK ks (S0,mv) i) ks.length:=rfl
    have hil:(outK ks (S0,mv) i).2.length=mv.length:=hPi.2.1
    have hlt':(i:Int)<(mv.length:Int):=by omega
    simp -dsimp -implicitDefEqProofs (disch:=first|omega|(simp only [lenr];try omega)) only [↓amPre,↓reduceIte,reduceCtorEq,Nat.reduceEqDiff,Nat.reduceBEq,Nat.reduceAdd,Nat.reduceLeDiff,Nat.reduceSub,Nat.reduceMul,Int.reduceToNat,MM,bu0,cbP9,f4,f3,f2,f0,m3,m0,m2,hil,lt_true hlt']
    refine awp_loop (fun k st=>k≤ks.length∧st.fr 5=.i64 k∧st.fr 4=.i64 i∧st.fr 3=.loc 3 [] 0 0∧st.fr 2=.loc 2 [] 0 0∧st.fr 0=.loc 0 [] 0 0∧st.mem 3=some (.pt 3 (.agg [ktr ks,.st nm,tsst (inn ks i (outK ks (S0,mv) i) k).2]))∧st.mem 0=some ((inn ks i (outK ks (S0,mv) i) k).1.pt)∧st.mem 2=some (.pt 3 (.agg [.nilsl,.st [],.nilsl]))) (ks.length) ?_ ?_
    · simp -dsimp -implicitDefEqProofs (disch:=first|omega|(simp only [lenr];try omega)) only [↓amPre,↓reduceIte,reduceCtorEq,Nat.reduceEqDiff,Nat.reduceBEq,Nat.reduceAdd,Nat.reduceLeDiff,Nat.reduceSub,Nat.reduceMul,Int.reduceToNat,MM,bu0,cbP9,f4,f3,f2,f0,m3,m0,m2]
      exact ⟨Nat.zero_le _,rfl,rfl,rfl⟩
    rintro k st _ ⟨hk,f5,f4,f3,f2,f0,m3,m0,m2⟩
    have hPk:=inn_ok (p:=outK ks (S0,mv) i) hlt hPi k
    by_cases hlk:k<ks.length
    · have hPk:=hPk (by omega)
      have hst2:inn ks i (outK ks (S0,mv) i) (k+1)=stp ks i (inn ks i (outK ks (S0,mv) i) k) k:=rfl
      rw [hst2]
      generalize inn ks i (outK ks (S0,mv) i) k=p at *
      obtain ⟨S,L⟩:=p
      obtain ⟨g1,g2,g3⟩:=hPk
      dsimp only at g1 g2 g3
      have hlk':(k:Int)<(ks.length:Int):=by omega
      have hps:=g3 _ (mem_getD L i default (by omega))
      have htw:=hps.2.2 k hlk
      have hko:=hps.1.2.1 _ (mem_getD ks k default hlk)
      simp -dsimp -implicitDefEqProofs (disch:=first|omega|(simp only [lenr];try omega)) only [↓amPre,↓reduceIte,reduceCtorEq,Nat.reduceEqDiff,Nat.reduceBEq,Nat.reduceAdd,Nat.reduceLeDiff,Nat.reduceSub,Nat.reduceMul,Int.reduceToNat,MM,bu0,cbP9,f5,f4,f3,f2,f0,m3,m0,m2,lt_true hlk',g2]
      have hLi:(L.getD i default).length=ks.length:=hps.2.1
      have qt:=sl22Twist (ks.getD k default) ((L.getD i default).getD k default) hko htw
      obtain ⟨cc,oo,hcc,hoo,la,la',e1,e2,e3,e4⟩:=twOk_facts htw hko
      have hb0:=by_get htw (show 0<((L.getD i default).getD k default).by'.length by omega)
      have nb:=Ih.sumI_nonneg ((L.getD i default).getD k default).by' (fun x hx=>(htw.2.2.2 x hx).1)
      have htm:=tmod_in nb (show 0<(ks.getD k default).o by omega)
      rw [show (sumI ((L.getD i default).getD k default).by').tmod (ks.getD k default).o=twS (ks.getD k default) ((L.getD i default).getD k default) from rfl] at htm
      have hw1:IntKind.i64.wrap (((L.getD i default).getD k default).by'.getD 0 0+(ks.getD k default).o)=((L.getD i default).getD k default).by'.getD 0 0+(ks.getD k default).o:=wrap64_id (by omega)
      have hw2:IntKind.i64.wrap (((L.getD i default).getD k default).by'.getD 0 0+(ks.getD k default).o - twS (ks.getD k default) ((L.getD i default).getD k default))=((L.getD i default).getD k default).by'.getD 0 0+(ks.getD k default).o - twS (ks.getD k default) ((L.getD i default).getD k default):=wrap64_id (by omega)
      have ho0:¬ (ks.getD k default).o=0:=by omega
      refine bxs_go 8 ?_
      simp -dsimp -implicitDefEqProofs (disch:=first|omega|(simp only [lenr];try omega)) only [↓amPre,↓reduceIte,reduceCtorEq,Nat.reduceEqDiff,Nat.reduceBEq,Nat.reduceAdd,Nat.reduceLeDiff,Nat.reduceSub,Nat.reduceMul,Int.reduceToNat,MM,bu0,cbP9,f5,f4,f3,f2,f0,m3,m0,m2,g2,hLi]
      refine split_go 28 (by decide +kernel) ?_
      simp -dsimp -implicitDefEqProofs (disch:=first|omega|(simp only [lenr];try omega)) only [↓amPre,↓reduceIte,reduceCtorEq,Nat.reduceEqDiff,Nat.reduceBEq,Nat.reduceAdd,Nat.reduceLeDiff,Nat.reduceSub,Nat.reduceMul,Int.reduceToNat,MM,bu0,cbP9,f5,f4,f3,f2,f0,m3,m0,m2,g2,hLi,hw1]
      refine callP_of (qt) ?_
      simp -dsimp -implicitDefEqProofs (disch:=first|omega|(simp only [lenr];try omega)) only [↓amPre,↓reduceIte,reduceCtorEq,Nat.reduceEqDiff,Nat.reduceBEq,Nat.reduceAdd,Nat.reduceLeDiff,Nat.reduceSub,Nat.reduceMul,Int.reduceToNat,MM,bu0,cbP9,f5,f4,f3,f2,f0,m3,m0,m2,g2,hLi,hw1,hw2,ho0]
      by_cases d1:1<((L.getD i default).getD k default).to.length
      · have d1':(1:Int)<(((L.getD i default).getD k default).to.length:Int):=by omega
        have qg:=sSign ((L.getD i default).getD k default).to htw.2.2.1
        by_cases d2:sgnI ((L.getD i default).getD k default).to<0
        · have hs0:stp ks i (S,L) k=(oS S 2,setT L i k ⟨if oB S 2 then to1 ((L.getD i default).getD k default) else ((L.getD i default).getD k default).to,by1 (ks.getD k default) ((L.getD i default).getD k default)⟩):=if_pos ⟨d1,d2⟩
          obtain ⟨qo,ko⟩:=oneF S 2 g1 (by unfold intOk;omega)
          rw [hs0]
          dsimp only
          generalize oS S 2=S2 at *
          simp -dsimp -implicitDefEqProofs (disch:=first|omega|(simp only [lenr];try omega)) only [↓amPre,↓reduceIte,reduceCtorEq,Nat.reduceEqDiff,Nat.reduceBEq,Nat.reduceAdd,Nat.reduceLeDiff,Nat.reduceSub,Nat.reduceMul,Int.reduceToNat,MM,bu0,cbP9,f5,f4,f3,f2,f0,m3,m0,m2,g2,hLi,lt_true d1']
          refine callP_of (qg) ?_
          simp -dsimp -implicitDefEqProofs (disch:=first|omega|(simp only [lenr];try omega)) only [↓amPre,↓reduceIte,reduceCtorEq,Nat.reduceEqDiff,Nat.reduceBEq,Nat.reduceAdd,Nat.reduceLeDiff,Nat.reduceSub,Nat.reduceMul,Int.reduceToNat,MM,bu0,cbP9,f5,f4,f3,f2,f0,m3,m0,m2,g2,hLi,lt_true d1',lt_true d2]
          refine callX_of (qo) ?_
          cases hb:oB S 2 with
          | false =>
            simp -dsimp -implicitDefEqProofs (disch:=first|omega|(simp only [lenr];try omega)) only [↓amPre,↓reduceIte,reduceCtorEq,Nat.reduceEqDiff,Nat.reduceBEq,Nat.reduceAdd,Nat.reduceLeDiff,Nat.reduceSub,Nat.reduceMul,Int.reduceToNat,MM,bu0,cbP9,f5,f4,f3,f2,f0,m3,m0,m2,g2,hLi,hb]
            exact ⟨hlk,by omega,rfl⟩
          | true =>
            simp -dsimp -implicitDefEqProofs (disch:=first|omega|(simp only [lenr];try omega)) only [↓amPre,↓reduceIte,reduceCtorEq,Nat.reduceEqDiff,Nat.reduceBEq,Nat.reduceAdd,Nat.reduceLeDiff,Nat.reduceSub,Nat.reduceMul,Int.reduceToNat,MM,bu0,cbP9,f5,f4,f3,f2,f0,m3,m0,m2,g2,hLi,hb]
            refine split_go 6 (by decide +kernel) ?_
            simp -dsimp -implicitDefEqProofs (disch:=first|omega|(simp only [lenr];try omega)) only [↓amPre,↓reduceIte,reduceCtorEq,Nat.reduceEqDiff,Nat.reduceBEq,Nat.reduceAdd,Nat.reduceLeDiff,Nat.reduceSub,Nat.reduceMul,Int.reduceToNat,MM,bu0,cbP9,f5,f4,f3,f2,f0,m3,m0,m2,g2,hLi,hb]
            exact ⟨hlk,by omega,rfl⟩
        · have hs0:stp ks i (S,L) k=(S,setT L i k ⟨((L.getD i default).getD k default).to,by1 (ks.getD k default) ((L.getD i default).getD k default)⟩):=if_neg (fun q=>d2 q.2)
          rw [hs0]
          simp -dsimp -implicitDefEqProofs (disch:=first|omega|(simp only [lenr];try omega)) only [↓amPre,↓reduceIte,reduceCtorEq,Nat.reduceEqDiff,Nat.reduceBEq,Nat.reduceAdd,Nat.reduceLeDiff,Nat.reduceSub,Nat.reduceMul,Int.reduceToNat,MM,bu0,cbP9,f5,f4,f3,f2,f0,m3,m0,m2,g2,hLi,lt_true d1']
          refine callP_of (qg) ?_
          simp -dsimp -implicitDefEqProofs (disch:=first|omega|(simp only [lenr];try omega)) only [↓amPre,↓reduceIte,reduceCtorEq,Nat.reduceEqDiff,Nat.reduceBEq,Nat.reduceAdd,Nat.reduceLeDiff,Nat.reduceSub,Nat.reduceMul,Int.reduceToNat,MM,bu0,cbP9,f5,f4,f3,f2,f0,m3,m0,m2,g2,hLi,lt_true d1',lt_false (Int.not_lt.1 d2)]
          exact ⟨hlk,by omega,rfl⟩
      · have d1':¬ (1:Int)<(((L.getD i default).getD k default).to.length:Int):=by omega
        have hs0:stp ks i (S,L) k=(S,setT L i k ⟨((L.getD i default).getD k default).to,by1 (ks.getD k default) ((L.getD i default).getD k default)⟩):=if_neg (fun q=>d1 q.1)
        rw [hs0]
        simp -dsimp -implicitDefEqProofs (disch:=first|omega|(simp only [lenr];try omega)) only [↓amPre,↓reduceIte,reduceCtorEq,Nat.reduceEqDiff,Nat.reduceBEq,Nat.reduceAdd,Nat.reduceLeDiff,Nat.reduceSub,Nat.reduceMul,Int.reduceToNat,MM,bu0,cbP9,f5,f4,f3,f2,f0,m3,m0,m2,g2,hLi,lt_false (Int.not_lt.1 d1')]
        exact ⟨hlk,by omega,rfl⟩
    · have hke:k=ks.length:=by omega
      subst hke
      have c1':¬ (ks.length:Int)<(ks.length:Int):=by omega
      rw [hst]
      simp -dsimp -implicitDefEqProofs (disch:=first|omega|(simp only [lenr];try omega)) only [↓amPre,↓reduceIte,reduceCtorEq,Nat.reduceEqDiff,Nat.reduceBEq,Nat.reduceAdd,Nat.reduceLeDiff,Nat.reduceSub,Nat.reduceMul,Int.reduceToNat,MM,bu0,cbP9,f5,f4,f3,f2,f0,m3,m0,m2,lt_false (Int.not_lt.1 c1')]
      exact ⟨hlt,by omega⟩
  · have hie:i=mv.length:=by omega
    subst hie
    have c1':¬ (mv.length:Int)<(mv.length:Int):=by omega
    have hil:(outK ks (S0,mv) mv.length).2.length=mv.length:=hfin.2.1
    simp -dsimp -implicitDefEqProofs (disch:=first|omega|(simp only [lenr];try omega)) only [↓amPre,↓reduceIte,reduceCtorEq,Nat.reduceEqDiff,Nat.reduceBEq,Nat.reduceAdd,Nat.reduceLeDiff,Nat.reduceSub,Nat.reduceMul,Int.reduceToNat,MM,bu0,cbP9,f4,f3,f2,f0,m3,m0,m2,hil,lt_false (Int.not_lt.1 c1')]
end Dv
end Go.AM
set_option maxRecDepth 8000
namespace Go.AM
namespace Dice
open Go.Proofs
def MM:FuncId→List Bool:=fun f=>if f=20 then [true,false] else if f=65 then [true] else []
abbrev bsl (l:List UInt8):AV:=.sl 1 (l.map fun x=>.u8 x.toNat)
instance:Thing UInt8:=⟨⟩
theorem dbig (l:List UInt8):SpecAt Try.prog 13 [bsl l] (.bl (decide ((4096:Int)<l.length))):=by
  refine spec_of_awp (M:=MM) (np:=1) (fz:=true) mixed Try.func13 rfl rfl (by decide) rfl (Nat.le_refl _) (by decide +kernel) (.inr ⟨rfl,rfl⟩) trivial ?_
  simp -dsimp -implicitDefEqProofs (disch:=first|omega|(simp only [lenr];try omega)) only [↓amPre,↓reduceIte,reduceCtorEq,Nat.reduceEqDiff,Nat.reduceBEq,Nat.reduceAdd,Nat.reduceLeDiff,Nat.reduceSub,Nat.reduceMul,Int.reduceToNat,MM,bu0,cbP9]
end Dice
end Go.AM
set_option maxRecDepth 8000
namespace Go.AM
namespace Draws
open Go.Proofs
theorem dsK_few (s:Src) (ks:List Kind) (h:s.ok) (hks:kindsOk ks):fewT (dsK s ks ks.length).2:=by
  have k2:=dsK_ok s ks h hks ks.length (Nat.le_refl _)
  have g2:=dsK_get s ks h hks ks.length (Nat.le_refl _)
  refine fewT_of _ (by rw [k2.2];exact hks.1.2) fun t ht=>?_
  obtain ⟨i,hi,rfl⟩:=List.getElem_of_mem ht
  have:=g2 i (by omega)
  rw [getD_eq _ _ _ hi] at this
  obtain ⟨c1,c2,o1,o2,_⟩:=kindsOk_kind hks (mem_getD ks i default (by omega))
  omega
end Draws
end Go.AM
set_option maxRecDepth 8000
namespace Go.AM
namespace Di
open Go.Proofs
open Draws (dsK dsK_ok dsK_few drawState)
open Dv (few_small l22Draw oneF oS oB)
def MM:FuncId→List Bool:=fun f=>if f=163 then [true,false] else if f=162 then [true,true] else if f=79 then [true] else []
theorem drop1_small {T:List Twist} (h:fewT T):smallT (T.drop 1):=by
  have h:=fewT_small h
  exact ⟨by rw [List.length_drop];have:=h.1;omega,fun t ht=>h.2 t (List.mem_of_mem_drop ht)⟩
theorem drawViol (l:List UInt8) (hl:l.length≤4096):∃ (m:Model) (s:List Twist),SpecAt Try.prog 72 [Draws.bsl l] (.tup [m.sl,tsl s])∧Draws.fewM m∧smallT s:=by
  have q1:=Draws.newSource l hl
  have k1:Draws.Src.ok ⟨l,0,Draws.sdK l l.length⟩:=⟨hl,Nat.zero_le _,by have:=Draws.sdK_ok l hl l.length;unfold intOk;simp only;omega⟩
  obtain ⟨s1,m,q2,k2,hm⟩:=l22Draw ⟨l,0,Draws.sdK l l.length⟩ k1
  have hsm:=few_small hm
  have q3:=sAreValidKinds m.ks hsm.1
  have hmt:m.tr=.agg [ktr m.ks,.st m.nm,tsst m.mv]:=rfl
  rw [hmt] at q2
  have tee:∀ T:List Twist,AV.fzL (T.map Twist.tr)=T.map Twist.sl:=fun T=>by rw [fzL_map,tfz]
  by_cases c:kindsOk m.ks
  case neg =>
    rw [decide_eq_false c] at q3
    refine ⟨m,[],?_,hm,by simp,fun t ht=>by cases ht⟩
    refine spec_of_awp (M:=MM) (np:=1) (fz:=true) mixed Try.func72 rfl rfl (by decide) rfl (Nat.le_refl _) (by decide +kernel) (.inr ⟨rfl,rfl⟩) trivial ?_
    simp -dsimp -implicitDefEqProofs (disch:=first|omega|(simp only [lenr];try omega)) only [↓amPre,↓reduceIte,reduceCtorEq,Nat.reduceEqDiff,Nat.reduceBEq,Nat.reduceAdd,Nat.reduceLeDiff,Nat.reduceSub,Nat.reduceMul,Int.reduceToNat,MM,bu0,cbU49]
    refine callP_of (q1) ?_
    simp -dsimp -implicitDefEqProofs (disch:=first|omega|(simp only [lenr];try omega)) only [↓amPre,↓reduceIte,reduceCtorEq,Nat.reduceEqDiff,Nat.reduceBEq,Nat.reduceAdd,Nat.reduceLeDiff,Nat.reduceSub,Nat.reduceMul,Int.reduceToNat,MM,bu0,cbU49]
    refine callX_of (q2) ?_
    simp -dsimp -implicitDefEqProofs (disch:=first|omega|(simp only [lenr];try omega)) only [↓amPre,↓reduceIte,reduceCtorEq,Nat.reduceEqDiff,Nat.reduceBEq,Nat.reduceAdd,Nat.reduceLeDiff,Nat.reduceSub,Nat.reduceMul,Int.reduceToNat,MM,bu0,cbU49,kfz,tssfz]
    refine callP_of (q3) ?_
    simp -dsimp -implicitDefEqProofs (disch:=first|omega|(simp only [lenr];try omega)) only [↓amPre,↓reduceIte,reduceCtorEq,Nat.reduceEqDiff,Nat.reduceBEq,Nat.reduceAdd,Nat.reduceLeDiff,Nat.reduceSub,Nat.reduceMul,Int.reduceToNat,MM,bu0,cbU49,kfz,tssfz]
  rw [decide_eq_true c] at q3
  have q4:=drawState s1 m.ks k2 c
  have hd:=dsK_ok s1 m.ks k2 c m.ks.length (Nat.le_refl _)
  have hf:=dsK_few s1 m.ks k2 c
  obtain ⟨q5,k5⟩:=oneF (dsK s1 m.ks m.ks.length).1 12 hd.1 (by unfold intOk;omega)
  have h1:=c.1.1
  have hl1:=hd.2
  generalize (dsK s1 m.ks m.ks.length).1=s2 at *
  generalize (dsK s1 m.ks m.ks.length).2=T at *
  generalize oS s2 12=s3 at *
  cases hb:oB s2 12 with
  | false =>
    rw [hb] at q5
    refine ⟨m,T,?_,hm,fewT_small hf⟩
    refine spec_of_awp (M:=MM) (np:=1) (fz:=true) mixed Try.func72 rfl rfl (by decide) rfl (Nat.le_refl _) (by decide +kernel) (.inr ⟨rfl,rfl⟩) trivial ?_
    simp -dsimp -implicitDefEqProofs (disch:=first|omega|(simp only [lenr];try omega)) only [↓amPre,↓reduceIte,reduceCtorEq,Nat.reduceEqDiff,Nat.reduceBEq,Nat.reduceAdd,Nat.reduceLeDiff,Nat.reduceSub,Nat.reduceMul,Int.reduceToNat,MM,bu0,cbU49]
    refine callP_of (q1) ?_
    simp -dsimp -implicitDefEqProofs (disch:=first|omega|(simp only [lenr];try omega)) only [↓amPre,↓reduceIte,reduceCtorEq,Nat.reduceEqDiff,Nat.reduceBEq,Nat.reduceAdd,Nat.reduceLeDiff,Nat.reduceSub,Nat.reduceMul,Int.reduceToNat,MM,bu0,cbU49]
    refine callX_of (q2) ?_
    simp -dsimp -implicitDefEqProofs (disch:=first|omega|(simp only [lenr];try omega)) only [↓amPre,↓reduceIte,reduceCtorEq,Nat.reduceEqDiff,Nat.reduceBEq,Nat.reduceAdd,Nat.reduceLeDiff,Nat.reduceSub,Nat.reduceMul,Int.reduceToNat,MM,bu0,cbU49,kfz,tssfz]
    refine callP_of (q3) ?_
    simp -dsimp -implicitDefEqProofs (disch:=first|omega|(simp only [lenr];try omega)) only [↓amPre,↓reduceIte,reduceCtorEq,Nat.reduceEqDiff,Nat.reduceBEq,Nat.reduceAdd,Nat.reduceLeDiff,Nat.reduceSub,Nat.reduceMul,Int.reduceToNat,MM,bu0,cbU49,kfz,tssfz]
    refine callX_of (q4) ?_
    simp -dsimp -implicitDefEqProofs (disch:=first|omega|(simp only [lenr];try omega)) only [↓amPre,↓reduceIte,reduceCtorEq,Nat.reduceEqDiff,Nat.reduceBEq,Nat.reduceAdd,Nat.reduceLeDiff,Nat.reduceSub,Nat.reduceMul,Int.reduceToNat,MM,bu0,cbU49,kfz,tssfz,tee]
    refine callX_of (q5) ?_
    simp -dsimp -implicitDefEqProofs (disch:=first|omega|(simp only [lenr];try omega)) only [↓amPre,↓reduceIte,reduceCtorEq,Nat.reduceEqDiff,Nat.reduceBEq,Nat.reduceAdd,Nat.reduceLeDiff,Nat.reduceSub,Nat.reduceMul,Int.reduceToNat,MM,bu0,cbU49,kfz,tssfz,tee,tfz]
  | true =>
    rw [hb] at q5
    refine ⟨m,T.drop 1,?_,hm,drop1_small hf⟩
    refine spec_of_awp (M:=MM) (np:=1) (fz:=true) mixed Try.func72 rfl rfl (by decide) rfl (Nat.le_refl _) (by decide +kernel) (.inr ⟨rfl,rfl⟩) trivial ?_
    simp -dsimp -implicitDefEqProofs (disch:=first|omega|(simp only [lenr];try omega)) only [↓amPre,↓reduceIte,reduceCtorEq,Nat.reduceEqDiff,Nat.reduceBEq,Nat.reduceAdd,Nat.reduceLeDiff,Nat.reduceSub,Nat.reduceMul,Int.reduceToNat,MM,bu0,cbU49]
    refine callP_of (q1) ?_
    simp -dsimp -implicitDefEqProofs (disch:=first|omega|(simp only [lenr];try omega)) only [↓amPre,↓reduceIte,reduceCtorEq,Nat.reduceEqDiff,Nat.reduceBEq,Nat.reduceAdd,Nat.reduceLeDiff,Nat.reduceSub,Nat.reduceMul,Int.reduceToNat,MM,bu0,cbU49]
    refine callX_of (q2) ?_
    simp -dsimp -implicitDefEqProofs (disch:=first|omega|(simp only [lenr];try omega)) only [↓amPre,↓reduceIte,reduceCtorEq,Nat.reduceEqDiff,Nat.reduceBEq,Nat.reduceAdd,Nat.reduceLeDiff,Nat.reduceSub,Nat.reduceMul,Int.reduceToNat,MM,bu0,cbU49,kfz,tssfz]
    refine callP_of (q3) ?_
    simp -dsimp -implicitDefEqProofs (disch:=first|omega|(simp only [lenr];try omega)) only [↓amPre,↓reduceIte,reduceCtorEq,Nat.reduceEqDiff,Nat.reduceBEq,Nat.reduceAdd,Nat.reduceLeDiff,Nat.reduceSub,Nat.reduceMul,Int.reduceToNat,MM,bu0,cbU49,kfz,tssfz]
    refine callX_of (q4) ?_
    simp -dsimp -implicitDefEqProofs (disch:=first|omega|(simp only [lenr];try omega)) only [↓amPre,↓reduceIte,reduceCtorEq,Nat.reduceEqDiff,Nat.reduceBEq,Nat.reduceAdd,Nat.reduceLeDiff,Nat.reduceSub,Nat.reduceMul,Int.reduceToNat,MM,bu0,cbU49,kfz,tssfz,tee]
    refine callX_of (q5) ?_
    simp -dsimp -implicitDefEqProofs (disch:=first|omega|(simp only [lenr];try omega)) only [↓amPre,↓reduceIte,reduceCtorEq,Nat.reduceEqDiff,Nat.reduceBEq,Nat.reduceAdd,Nat.reduceLeDiff,Nat.reduceSub,Nat.reduceMul,Int.reduceToNat,MM,bu0,cbU49,kfz,tssfz,tee,tfz]
end Di
end Go.AM
set_option maxRecDepth 8000
namespace Go.AM
namespace Di
open Go.Proofs
open Dice (bsl dbig)
open Ct (csc_eq order_dvd bad_reach vio_pos cmp_puzz cmp_n pn_of)
open St (chP stateCountS reachG)
theorem tmod_dvd {a b:Nat} (h:b ∣ a):Int.tmod (a:Int) (b:Int)=0:=by
  rw [Int.tmod_eq_emod_of_nonneg (by omega)]
  exact Int.emod_eq_zero_of_dvd (Int.natCast_dvd_natCast.2 h)
theorem lawIndex (l:List UInt8) (w:l.length≤9223372036854775807):SpecAt Try.prog 12 [bsl l] (.bl true):=by
  have qb:=dbig l
  by_cases c0:(4096:Int)<l.length
  · refine spec_of_awp (M:=MM) (np:=1) (fz:=true) mixed Try.func12 rfl rfl (by decide) rfl (Nat.le_refl _) (by decide +kernel) (.inr ⟨rfl,rfl⟩) trivial ?_
    simp -dsimp -implicitDefEqProofs (disch:=first|omega|(simp only [lenr];try omega)) only [↓amPre,↓reduceIte,reduceCtorEq,Nat.reduceEqDiff,Nat.reduceBEq,Nat.reduceAdd,Nat.reduceLeDiff,Nat.reduceSub,Nat.reduceMul,Int.reduceToNat,MM,bu0,cbU49]
    refine callP_of (qb) ?_
    simp -dsimp -implicitDefEqProofs (disch:=first|omega|(simp only [lenr];try omega)) only [↓amPre,↓reduceIte,reduceCtorEq,Nat.reduceEqDiff,Nat.reduceBEq,Nat.reduceAdd,Nat.reduceLeDiff,Nat.reduceSub,Nat.reduceMul,Int.reduceToNat,MM,bu0,cbU49,decide_eq_true c0]
  rw [decide_eq_false c0] at qb
  obtain ⟨m,s,q1,hfew,hs⟩:=drawViol l (by omega)
  have hsm:=Dv.few_small hfew
  have q2:=iConsistent m hsm
  have q3:=iViolated m s hsm hs
  have q4:=sIsValidPieceModel m hsm
  have hml:m.sl=.agg [ksl m.ks,.st m.nm,tssl m.mv]:=rfl
  by_cases c:modelOk m
  case neg =>
    have h1:cscR m=0:=if_neg c
    have h2:vioO m s=none:=by
      unfold vioO consR
      rw [if_neg c]
      split <;> rfl
    rw [h1] at q2
    rw [h2] at q3
    rw [decide_eq_false c] at q4
    rw [hml] at q1 q2 q3 q4
    change SpecAt _ _ _ (.tup [(⟨0,0⟩:Invar).av,.bl false]) at q3
    refine spec_of_awp (M:=MM) (np:=1) (fz:=true) mixed Try.func12 rfl rfl (by decide) rfl (Nat.le_refl _) (by decide +kernel) (.inr ⟨rfl,rfl⟩) trivial ?_
    simp -dsimp -implicitDefEqProofs (disch:=first|omega|(simp only [lenr];try omega)) only [↓amPre,↓reduceIte,reduceCtorEq,Nat.reduceEqDiff,Nat.reduceBEq,Nat.reduceAdd,Nat.reduceLeDiff,Nat.reduceSub,Nat.reduceMul,Int.reduceToNat,MM,bu0,cbU49]
    refine callP_of (qb) ?_
    simp -dsimp -implicitDefEqProofs (disch:=first|omega|(simp only [lenr];try omega)) only [↓amPre,↓reduceIte,reduceCtorEq,Nat.reduceEqDiff,Nat.reduceBEq,Nat.reduceAdd,Nat.reduceLeDiff,Nat.reduceSub,Nat.reduceMul,Int.reduceToNat,MM,bu0,cbU49]
    refine callP_of (q1) ?_
    simp -dsimp -implicitDefEqProofs (disch:=first|omega|(simp only [lenr];try omega)) only [↓amPre,↓reduceIte,reduceCtorEq,Nat.reduceEqDiff,Nat.reduceBEq,Nat.reduceAdd,Nat.reduceLeDiff,Nat.reduceSub,Nat.reduceMul,Int.reduceToNat,MM,bu0,cbU49]
    refine callP_of (q2) ?_
    simp -dsimp -implicitDefEqProofs (disch:=first|omega|(simp only [lenr];try omega)) only [↓amPre,↓reduceIte,reduceCtorEq,Nat.reduceEqDiff,Nat.reduceBEq,Nat.reduceAdd,Nat.reduceLeDiff,Nat.reduceSub,Nat.reduceMul,Int.reduceToNat,MM,bu0,cbU49]
    refine callP_of (q3) ?_
    simp -dsimp -implicitDefEqProofs (disch:=first|omega|(simp only [lenr];try omega)) only [↓amPre,↓reduceIte,reduceCtorEq,Nat.reduceEqDiff,Nat.reduceBEq,Nat.reduceAdd,Nat.reduceLeDiff,Nat.reduceSub,Nat.reduceMul,Int.reduceToNat,MM,bu0,cbU49]
    refine callP_of (q4) ?_
    simp -dsimp -implicitDefEqProofs (disch:=first|omega|(simp only [lenr];try omega)) only [↓amPre,↓reduceIte,reduceCtorEq,Nat.reduceEqDiff,Nat.reduceBEq,Nat.reduceAdd,Nat.reduceLeDiff,Nat.reduceSub,Nat.reduceMul,Int.reduceToNat,MM,bu0,cbU49]
  have h3:=csc_eq c
  obtain ⟨e1,e2,e3⟩:=h3
  obtain ⟨o1,o2,o3⟩:=order_dvd c
  have hz:=cmp_puzz c
  have hsp:=cmpP_small c
  have hR:cmpR m=cmpP m:=if_pos c
  have q5:=sCompile m hsm
  have q6:=stateCountS (cmpP m) hz hsp
  have q7:=sPieceStateCount m.ks hsm.1
  have hst:stR m.ks=(stC m.ks:Int):=if_pos c.1
  have hsb:=st_bound m.ks c.1
  rw [hR,decide_eq_true c] at q5
  rw [hst] at q7
  rw [e1] at q2
  rw [decide_eq_true c] at q4
  have m1:=tmod_dvd o1
  have m2:=tmod_dvd e2
  have q8:=sPiecesToPerm m.ks s hsm.1 hs
  have hpt:(cmpP m).tr=.agg [.i64 (cmpP m).n,.st (cmpP m).nm,sst (cmpP m).mv]:=rfl
  have hps:(cmpP m).sl=.agg [.i64 (cmpP m).n,.st (cmpP m).nm,ssl (cmpP m).mv]:=rfl
  have ee:∀ X:List Int,AV.fzL (X.map AV.i64)=X.map AV.i64:=fun X=>by rw [fzL_map,ints_fz]
  have sse:∀ X:List (List Int),AV.fzL (X.map itr)=X.map isl:=fun X=>by rw [fzL_map,ssfz]
  by_cases ps:psOk m.ks s
  case neg =>
    have h2:vioO m s=none:=if_neg ps
    rw [h2] at q3
    change SpecAt _ _ _ (.tup [(⟨0,0⟩:Invar).av,.bl false]) at q3
    rw [decide_eq_false ps] at q8
    rw [hpt] at q5
    rw [hps] at q6
    rw [hml] at q1 q2 q3 q4 q5
    generalize (Ct.KK m).length=N at *
    generalize Ch.ordL (chP (cmpP m).n.toNat (cmpP m).mv)=o at *
    generalize stC m.ks=S at *
    generalize cmpP m=p at *
    generalize permR m.ks s=P at *
    have hN0:¬ (N:Int)≤0:=by omega
    have ho0:¬ (o:Int)=0:=by omega
    have hN1:¬ (N:Int)=0:=by omega
    refine spec_of_awp (M:=MM) (np:=1) (fz:=true) mixed Try.func12 rfl rfl (by decide) rfl (Nat.le_refl _) (by decide +kernel) (.inr ⟨rfl,rfl⟩) trivial ?_
    simp -dsimp -implicitDefEqProofs (disch:=first|omega|(simp only [lenr];try omega)) only [↓amPre,↓reduceIte,reduceCtorEq,Nat.reduceEqDiff,Nat.reduceBEq,Nat.reduceAdd,Nat.reduceLeDiff,Nat.reduceSub,Nat.reduceMul,Int.reduceToNat,MM,bu0,cbU49]
    refine callP_of (qb) ?_
    simp -dsimp -implicitDefEqProofs (disch:=first|omega|(simp only [lenr];try omega)) only [↓amPre,↓reduceIte,reduceCtorEq,Nat.reduceEqDiff,Nat.reduceBEq,Nat.reduceAdd,Nat.reduceLeDiff,Nat.reduceSub,Nat.reduceMul,Int.reduceToNat,MM,bu0,cbU49]
    refine callP_of (q1) ?_
    simp -dsimp -implicitDefEqProofs (disch:=first|omega|(simp only [lenr];try omega)) only [↓amPre,↓reduceIte,reduceCtorEq,Nat.reduceEqDiff,Nat.reduceBEq,Nat.reduceAdd,Nat.reduceLeDiff,Nat.reduceSub,Nat.reduceMul,Int.reduceToNat,MM,bu0,cbU49]
    refine callP_of (q2) ?_
    simp -dsimp -implicitDefEqProofs (disch:=first|omega|(simp only [lenr];try omega)) only [↓amPre,↓reduceIte,reduceCtorEq,Nat.reduceEqDiff,Nat.reduceBEq,Nat.reduceAdd,Nat.reduceLeDiff,Nat.reduceSub,Nat.reduceMul,Int.reduceToNat,MM,bu0,cbU49]
    refine callP_of (q3) ?_
    simp -dsimp -implicitDefEqProofs (disch:=first|omega|(simp only [lenr];try omega)) only [↓amPre,↓reduceIte,reduceCtorEq,Nat.reduceEqDiff,Nat.reduceBEq,Nat.reduceAdd,Nat.reduceLeDiff,Nat.reduceSub,Nat.reduceMul,Int.reduceToNat,MM,bu0,cbU49]
    refine callP_of (q4) ?_
    simp -dsimp -implicitDefEqProofs (disch:=first|omega|(simp only [lenr];try omega)) only [↓amPre,↓reduceIte,reduceCtorEq,Nat.reduceEqDiff,Nat.reduceBEq,Nat.reduceAdd,Nat.reduceLeDiff,Nat.reduceSub,Nat.reduceMul,Int.reduceToNat,MM,bu0,cbU49]
    refine callP_frz q5 ?_
    simp -dsimp -implicitDefEqProofs (disch:=first|omega|(simp only [lenr];try omega)) only [↓amPre,↓reduceIte,reduceCtorEq,Nat.reduceEqDiff,Nat.reduceBEq,Nat.reduceAdd,Nat.reduceLeDiff,Nat.reduceSub,Nat.reduceMul,Int.reduceToNat,MM,bu0,cbU49,ssfz,sse,hN0]
    refine callP_of (q6) ?_
    simp -dsimp -implicitDefEqProofs (disch:=first|omega|(simp only [lenr];try omega)) only [↓amPre,↓reduceIte,reduceCtorEq,Nat.reduceEqDiff,Nat.reduceBEq,Nat.reduceAdd,Nat.reduceLeDiff,Nat.reduceSub,Nat.reduceMul,Int.reduceToNat,MM,bu0,cbU49,ssfz,sse,hN0,ho0,m1]
    refine callP_of (q7) ?_
    simp -dsimp -implicitDefEqProofs (disch:=first|omega|(simp only [lenr];try omega)) only [↓amPre,↓reduceIte,reduceCtorEq,Nat.reduceEqDiff,Nat.reduceBEq,Nat.reduceAdd,Nat.reduceLeDiff,Nat.reduceSub,Nat.reduceMul,Int.reduceToNat,MM,bu0,cbU49,ssfz,sse,hN0,ho0,m1,m2,hN1]
    refine callP_frz q8 ?_
    simp -dsimp -implicitDefEqProofs (disch:=first|omega|(simp only [lenr];try omega)) only [↓amPre,↓reduceIte,reduceCtorEq,Nat.reduceEqDiff,Nat.reduceBEq,Nat.reduceAdd,Nat.reduceLeDiff,Nat.reduceSub,Nat.reduceMul,Int.reduceToNat,MM,bu0,cbU49,ssfz,sse,ee]
  have hreach:=reachG (cmpP m) (permOf m.ks s) hz hsp (pn_of c ps)
  have hpr:permR m.ks s=permOf m.ks s:=if_pos ps
  rw [decide_eq_true ps,hpr] at q8
  cases hv:vioO m s with
  | none =>
    rw [hv] at q3
    change SpecAt _ _ _ (.tup [(⟨0,0⟩:Invar).av,.bl false]) at q3
    rw [hpt] at q5
    rw [hps] at q6
    rw [hml] at q1 q2 q3 q4 q5
    clear hreach
    generalize (Ct.KK m).length=N at *
    generalize Ch.ordL (chP (cmpP m).n.toNat (cmpP m).mv)=o at *
    generalize stC m.ks=S at *
    generalize cmpP m=p at *
    generalize permOf m.ks s=P at *
    have hN0:¬ (N:Int)≤0:=by omega
    have ho0:¬ (o:Int)=0:=by omega
    have hN1:¬ (N:Int)=0:=by omega
    refine spec_of_awp (M:=MM) (np:=1) (fz:=true) mixed Try.func12 rfl rfl (by decide) rfl (Nat.le_refl _) (by decide +kernel) (.inr ⟨rfl,rfl⟩) trivial ?_
    simp -dsimp -implicitDefEqProofs (disch:=first|omega|(simp only [lenr];try omega)) only [↓amPre,↓reduceIte,reduceCtorEq,Nat.reduceEqDiff,Nat.reduceBEq,Nat.reduceAdd,Nat.reduceLeDiff,Nat.reduceSub,Nat.reduceMul,Int.reduceToNat,MM,bu0,cbU49]
    refine callP_of (qb) ?_
    simp -dsimp -implicitDefEqProofs (disch:=first|omega|(simp only [lenr];try omega)) only [↓amPre,↓reduceIte,reduceCtorEq,Nat.reduceEqDiff,Nat.reduceBEq,Nat.reduceAdd,Nat.reduceLeDiff,Nat.reduceSub,Nat.reduceMul,Int.reduceToNat,MM,bu0,cbU49]
    refine callP_of (q1) ?_
    simp -dsimp -implicitDefEqProofs (disch:=first|omega|(simp only [lenr];try omega)) only [↓amPre,↓reduceIte,reduceCtorEq,Nat.reduceEqDiff,Nat.reduceBEq,Nat.reduceAdd,Nat.reduceLeDiff,Nat.reduceSub,Nat.reduceMul,Int.reduceToNat,MM,bu0,cbU49]
    refine callP_of (q2) ?_
    simp -dsimp -implicitDefEqProofs (disch:=first|omega|(simp only [lenr];try omega)) only [↓amPre,↓reduceIte,reduceCtorEq,Nat.reduceEqDiff,Nat.reduceBEq,Nat.reduceAdd,Nat.reduceLeDiff,Nat.reduceSub,Nat.reduceMul,Int.reduceToNat,MM,bu0,cbU49]
    refine callP_of (q3) ?_
    simp -dsimp -implicitDefEqProofs (disch:=first|omega|(simp only [lenr];try omega)) only [↓amPre,↓reduceIte,reduceCtorEq,Nat.reduceEqDiff,Nat.reduceBEq,Nat.reduceAdd,Nat.reduceLeDiff,Nat.reduceSub,Nat.reduceMul,Int.reduceToNat,MM,bu0,cbU49]
    refine callP_of (q4) ?_
    simp -dsimp -implicitDefEqProofs (disch:=first|omega|(simp only [lenr];try omega)) only [↓amPre,↓reduceIte,reduceCtorEq,Nat.reduceEqDiff,Nat.reduceBEq,Nat.reduceAdd,Nat.reduceLeDiff,Nat.reduceSub,Nat.reduceMul,Int.reduceToNat,MM,bu0,cbU49]
    refine callP_frz q5 ?_
    simp -dsimp -implicitDefEqProofs (disch:=first|omega|(simp only [lenr];try omega)) only [↓amPre,↓reduceIte,reduceCtorEq,Nat.reduceEqDiff,Nat.reduceBEq,Nat.reduceAdd,Nat.reduceLeDiff,Nat.reduceSub,Nat.reduceMul,Int.reduceToNat,MM,bu0,cbU49,ssfz,sse,hN0]
    refine callP_of (q6) ?_
    simp -dsimp -implicitDefEqProofs (disch:=first|omega|(simp only [lenr];try omega)) only [↓amPre,↓reduceIte,reduceCtorEq,Nat.reduceEqDiff,Nat.reduceBEq,Nat.reduceAdd,Nat.reduceLeDiff,Nat.reduceSub,Nat.reduceMul,Int.reduceToNat,MM,bu0,cbU49,ssfz,sse,hN0,ho0,m1]
    refine callP_of (q7) ?_
    simp -dsimp -implicitDefEqProofs (disch:=first|omega|(simp only [lenr];try omega)) only [↓amPre,↓reduceIte,reduceCtorEq,Nat.reduceEqDiff,Nat.reduceBEq,Nat.reduceAdd,Nat.reduceLeDiff,Nat.reduceSub,Nat.reduceMul,Int.reduceToNat,MM,bu0,cbU49,ssfz,sse,hN0,ho0,m1,m2,hN1]
    refine callP_frz q8 ?_
    simp -dsimp -implicitDefEqProofs (disch:=first|omega|(simp only [lenr];try omega)) only [↓amPre,↓reduceIte,reduceCtorEq,Nat.reduceEqDiff,Nat.reduceBEq,Nat.reduceAdd,Nat.reduceLeDiff,Nat.reduceSub,Nat.reduceMul,Int.reduceToNat,MM,bu0,cbU49,ssfz,sse,ee]
  | some i =>
    obtain ⟨v1,v2⟩:=vio_pos c ps hv
    have hb:=bad_reach c ps hv
    have hi:=cons_ok v2
    have q10:=sInvariantValue m.ks s i hsm.1 hs hi
    rw [hb] at hreach
    rw [hv] at q3
    change SpecAt _ _ _ (.tup [i.av,.bl true]) at q3
    rw [hpt] at q5
    rw [hps] at q6 hreach
    rw [hml] at q1 q2 q3 q4 q5
    have hiv:i.av=.agg [.i64 i.k,.i64 i.s]:=rfl
    rw [hiv] at q3 q10
    clear hb
    generalize invV m.ks s i=V at *
    generalize (Ct.KK m).length=N at *
    generalize Ch.ordL (chP (cmpP m).n.toNat (cmpP m).mv)=o at *
    generalize stC m.ks=S at *
    generalize cmpP m=p at *
    generalize permOf m.ks s=P at *
    have hN0:¬ (N:Int)≤0:=by omega
    have ho0:¬ (o:Int)=0:=by omega
    have hN1:¬ (N:Int)=0:=by omega
    refine spec_of_awp (M:=MM) (np:=1) (fz:=true) mixed Try.func12 rfl rfl (by decide) rfl (Nat.le_refl _) (by decide +kernel) (.inr ⟨rfl,rfl⟩) trivial ?_
    simp -dsimp -implicitDefEqProofs (disch:=first|omega|(simp only [lenr];try omega)) only [↓amPre,↓reduceIte,reduceCtorEq,Nat.reduceEqDiff,Nat.reduceBEq,Nat.reduceAdd,Nat.reduceLeDiff,Nat.reduceSub,Nat.reduceMul,Int.reduceToNat,MM,bu0,cbU49]
    refine callP_of (qb) ?_
    simp -dsimp -implicitDefEqProofs (disch:=first|omega|(simp only [lenr];try omega)) only [↓amPre,↓reduceIte,reduceCtorEq,Nat.reduceEqDiff,Nat.reduceBEq,Nat.reduceAdd,Nat.reduceLeDiff,Nat.reduceSub,Nat.reduceMul,Int.reduceToNat,MM,bu0,cbU49]
    refine callP_of (q1) ?_
    simp -dsimp -implicitDefEqProofs (disch:=first|omega|(simp only [lenr];try omega)) only [↓amPre,↓reduceIte,reduceCtorEq,Nat.reduceEqDiff,Nat.reduceBEq,Nat.reduceAdd,Nat.reduceLeDiff,Nat.reduceSub,Nat.reduceMul,Int.reduceToNat,MM,bu0,cbU49]
    refine callP_of (q2) ?_
    simp -dsimp -implicitDefEqProofs (disch:=first|omega|(simp only [lenr];try omega)) only [↓amPre,↓reduceIte,reduceCtorEq,Nat.reduceEqDiff,Nat.reduceBEq,Nat.reduceAdd,Nat.reduceLeDiff,Nat.reduceSub,Nat.reduceMul,Int.reduceToNat,MM,bu0,cbU49]
    refine callP_of (q3) ?_
    simp -dsimp -implicitDefEqProofs (disch:=first|omega|(simp only [lenr];try omega)) only [↓amPre,↓reduceIte,reduceCtorEq,Nat.reduceEqDiff,Nat.reduceBEq,Nat.reduceAdd,Nat.reduceLeDiff,Nat.reduceSub,Nat.reduceMul,Int.reduceToNat,MM,bu0,cbU49]
    refine callP_of (q4) ?_
    simp -dsimp -implicitDefEqProofs (disch:=first|omega|(simp only [lenr];try omega)) only [↓amPre,↓reduceIte,reduceCtorEq,Nat.reduceEqDiff,Nat.reduceBEq,Nat.reduceAdd,Nat.reduceLeDiff,Nat.reduceSub,Nat.reduceMul,Int.reduceToNat,MM,bu0,cbU49]
    refine callP_frz q5 ?_
    simp -dsimp -implicitDefEqProofs (disch:=first|omega|(simp only [lenr];try omega)) only [↓amPre,↓reduceIte,reduceCtorEq,Nat.reduceEqDiff,Nat.reduceBEq,Nat.reduceAdd,Nat.reduceLeDiff,Nat.reduceSub,Nat.reduceMul,Int.reduceToNat,MM,bu0,cbU49,ssfz,sse,hN0]
    refine callP_of (q6) ?_
    simp -dsimp -implicitDefEqProofs (disch:=first|omega|(simp only [lenr];try omega)) only [↓amPre,↓reduceIte,reduceCtorEq,Nat.reduceEqDiff,Nat.reduceBEq,Nat.reduceAdd,Nat.reduceLeDiff,Nat.reduceSub,Nat.reduceMul,Int.reduceToNat,MM,bu0,cbU49,ssfz,sse,hN0,ho0,m1]
    refine callP_of (q7) ?_
    simp -dsimp -implicitDefEqProofs (disch:=first|omega|(simp only [lenr];try omega)) only [↓amPre,↓reduceIte,reduceCtorEq,Nat.reduceEqDiff,Nat.reduceBEq,Nat.reduceAdd,Nat.reduceLeDiff,Nat.reduceSub,Nat.reduceMul,Int.reduceToNat,MM,bu0,cbU49,ssfz,sse,hN0,ho0,m1,m2,hN1]
    refine callP_frz q8 ?_
    simp -dsimp -implicitDefEqProofs (disch:=first|omega|(simp only [lenr];try omega)) only [↓amPre,↓reduceIte,reduceCtorEq,Nat.reduceEqDiff,Nat.reduceBEq,Nat.reduceAdd,Nat.reduceLeDiff,Nat.reduceSub,Nat.reduceMul,Int.reduceToNat,MM,bu0,cbU49,ssfz,sse,ee]
    refine callP_of (hreach) ?_
    simp -dsimp -implicitDefEqProofs (disch:=first|omega|(simp only [lenr];try omega)) only [↓amPre,↓reduceIte,reduceCtorEq,Nat.reduceEqDiff,Nat.reduceBEq,Nat.reduceAdd,Nat.reduceLeDiff,Nat.reduceSub,Nat.reduceMul,Int.reduceToNat,MM,bu0,cbU49,ssfz,sse,ee]
    refine callP_of (q10) ?_
    simp -dsimp -implicitDefEqProofs (disch:=first|omega|(simp only [lenr];try omega)) only [↓amPre,↓reduceIte,reduceCtorEq,Nat.reduceEqDiff,Nat.reduceBEq,Nat.reduceAdd,Nat.reduceLeDiff,Nat.reduceSub,Nat.reduceMul,Int.reduceToNat,MM,bu0,cbU49,lt_true v1]
end Di
end Go.AM
