/-
  CONTRACTS of functions of the program,and what they compute,by content.
-/
import Derived.Test.YtenlmhbkigfjeaaCB1
import Derived.Test.YtenlmhbkigfjeaaCB0
import Derived.Test.YtenlmhbkigfjeaaM2SD
set_option linter.unusedVariables false
set_option linter.unusedSimpArgs false
set_option maxRecDepth 8000
namespace Go.AM
open Go.Proofs
theorem eqMacro (a b:Twist) (h1:a.to.length≤1099511627776) (h2:a.by'.length≤1099511627776):SpecAt Try.prog 153 [a.sl,b.sl] (.bl (decide (a=b))):=by
  refine spec_of_awp (M:=MM) (np:=2) (fz:=true) mixed Try.func153 rfl rfl (by decide) rfl (Nat.le_refl _) (by decide +kernel) (.inr ⟨rfl,rfl⟩) trivial ?_
  simp -dsimp -implicitDefEqProofs (disch:=first | omega | (simp only [lenr];try omega)) only [↓amPre,amAll,↓reduceIte,reduceCtorEq,Nat.reduceEqDiff,Nat.reduceBEq,Nat.reduceAdd,Nat.reduceLeDiff,Nat.reduceSub,Nat.reduceMul,Int.reduceToNat,List.size_toArray,tyF,MM,bu0,cbP9]
  refine callP_of (eqInt64S _ _ h1) ?_
  obtain ⟨a1,a2⟩:=a
  obtain ⟨b1,b2⟩:=b
  cases c1:decide (a1=b1) with
  | false =>
    simp -dsimp -implicitDefEqProofs (disch:=first | omega | (simp only [lenr];try omega)) only [↓amPre,amAll,↓reduceIte,reduceCtorEq,Nat.reduceEqDiff,Nat.reduceBEq,Nat.reduceAdd,Nat.reduceLeDiff,Nat.reduceSub,Nat.reduceMul,Int.reduceToNat,List.size_toArray,tyF,MM,bu0,cbP9,c1]
    simp at c1;simp [c1]
  | true =>
    simp -dsimp -implicitDefEqProofs (disch:=first | omega | (simp only [lenr];try omega)) only [↓amPre,amAll,↓reduceIte,reduceCtorEq,Nat.reduceEqDiff,Nat.reduceBEq,Nat.reduceAdd,Nat.reduceLeDiff,Nat.reduceSub,Nat.reduceMul,Int.reduceToNat,List.size_toArray,tyF,MM,bu0,cbP9,c1]
    refine callP_of (eqInt64S _ _ h2) ?_
    cases c2:decide (a2=b2) with
    | false =>
      simp -dsimp -implicitDefEqProofs (disch:=first | omega | (simp only [lenr];try omega)) only [↓amPre,amAll,↓reduceIte,reduceCtorEq,Nat.reduceEqDiff,Nat.reduceBEq,Nat.reduceAdd,Nat.reduceLeDiff,Nat.reduceSub,Nat.reduceMul,Int.reduceToNat,List.size_toArray,tyF,MM,bu0,cbP9,c2]
      simp at c2;simp [c2]
    | true =>
      simp -dsimp -implicitDefEqProofs (disch:=first | omega | (simp only [lenr];try omega)) only [↓amPre,amAll,↓reduceIte,reduceCtorEq,Nat.reduceEqDiff,Nat.reduceBEq,Nat.reduceAdd,Nat.reduceLeDiff,Nat.reduceSub,Nat.reduceMul,Int.reduceToNat,List.size_toArray,tyF,MM,bu0,cbP9,c2]
      simp at c1 c2;simp [c1,c2]
def macOk (p:Puzz) (m:Twist):Prop:=puzzOk p∧wordOk p.mv.length m.to∧0<m.by'.length∧supR p m.to=m.by'
instance (p:Puzz) (m:Twist):Decidable (macOk p m):=by unfold macOk;infer_instance
end Go.AM
namespace Go.AM
/-! commutators,plainly -/
abbrev cmW (x y:Int):List Int:=[x,y,-x,-y]
def cmE (p:Puzz) (x y:Int):List Int:=effK p.n p.mv (cmW x y) 4
def cmStep (p:Puzz) (s:List (List Int)×List Twist) (x y:Int):List (List Int)×List Twist:=if sameI x y∨cmE p x y∈s.1 then s else (s.1++[cmE p x y],s.2++[⟨cmW x y,movL (cmE p x y) p.n.toNat⟩])
def cmI (p:Puzz) (A:List Int) (s:List (List Int)×List Twist) (x:Int):Nat→List (List Int)×List Twist
  | 0=>s
  | j+1=>cmStep p (cmI p A s x j) x (A.getD j 0)
def cmO (p:Puzz) (A:List Int):Nat→List (List Int)×List Twist
  | 0=>([runI 0 p.n.toNat],[])
  | i+1=>cmI p A (cmO p A i) (A.getD i 0) A.length
structure CmOk (n:Int) (b:Nat) (s:List (List Int)×List Twist):Prop where
  len:s.1.length=s.2.length+1
  le:s.2.length≤b
  st:∀ e∈s.1,moveOk n e
  mac:∀ t∈s.2,t.to.length=4∧t.by'.length≤20
theorem letL_ok {n:Nat} (hn:n≤8):∀ x∈letL n,letOk n x:=fun x hx=>by
  have:=letL_mem.1 hx
  unfold letOk;omega
def cmR (p:Puzz):List Twist:=if puzzOk p then (cmO p (letL p.mv.length) (letL p.mv.length).length).2 else []
end Go.AM
set_option maxRecDepth 8000
namespace Go.AM
open Go.Proofs
theorem islfz (L:List (List Int)):(L.map fun l=>isl l).map AV.fz=L.map fun l=>isl l:=by
  rw [List.map_map];exact List.map_congr_left fun a _=>by simp [AV.fz]
theorem itr_fz (l:List Int):(itr l).fz=isl l:=by rw [AV.fz,fzL_map,ints_fz]
theorem eqMacroS (a b:List Twist) (ha:a.length≤1099511627776) (he:∀ t∈a,t.to.length≤1099511627776∧t.by'.length≤1099511627776):SpecAt Try.prog 62 [tsl a,tsl b] (.bl (decide (a=b))):=by
  refine spec_of_awp (M:=MM) (np:=2) (fz:=true) mixed Try.func62 rfl rfl (by decide) rfl (Nat.le_refl _) (by decide +kernel) (.inr ⟨rfl,rfl⟩) trivial ?_
  simp -dsimp -implicitDefEqProofs (disch:=first | omega | (simp only [lenr];try omega)) only [↓amPre,amAll,↓reduceIte,reduceCtorEq,Nat.reduceEqDiff,Nat.reduceBEq,Nat.reduceAdd,Nat.reduceLeDiff,Nat.reduceSub,Nat.reduceMul,Int.reduceToNat,List.size_toArray,tyF,MM,bu0,cbU49]
  refine ifP_mk ?_ ?_ <;> intro h1
  · simp -dsimp -implicitDefEqProofs (disch:=first | omega | (simp only [lenr];try omega)) only [↓amPre,amAll,↓reduceIte,reduceCtorEq,Nat.reduceEqDiff,Nat.reduceBEq,Nat.reduceAdd,Nat.reduceLeDiff,Nat.reduceSub,Nat.reduceMul,Int.reduceToNat,List.size_toArray,tyF,MM,bu0,cbU49,h1]
    have:¬ a=b:=by intro e;subst e;simp at h1
    simp [this]
  simp -dsimp -implicitDefEqProofs (disch:=first | omega | (simp only [lenr];try omega)) only [↓amPre,amAll,↓reduceIte,reduceCtorEq,Nat.reduceEqDiff,Nat.reduceBEq,Nat.reduceAdd,Nat.reduceLeDiff,Nat.reduceSub,Nat.reduceMul,Int.reduceToNat,List.size_toArray,tyF,MM,bu0,cbU49,h1]
  have hab:a.length=b.length:=by simp at h1;omega
  refine awp_loop (fun k st=>k≤a.length∧st.fr 5=.i64 k∧st.fr 0=tsl a∧st.fr 1=tsl b∧a.take k=b.take k) (a.length) ?_ ?_
  · simp -dsimp -implicitDefEqProofs (disch:=first | omega | (simp only [lenr];try omega)) only [↓amPre,amAll,↓reduceIte,reduceCtorEq,Nat.reduceEqDiff,Nat.reduceBEq,Nat.reduceAdd,Nat.reduceLeDiff,Nat.reduceSub,Nat.reduceMul,Int.reduceToNat,List.size_toArray,tyF,MM,bu0,cbU49]
    repeat' (first | omega | rfl | exact i64c (by omega) | exact vic (by omega) | apply And.intro)
  rintro k st _ ⟨hk,f5,f0,f1,ek⟩
  by_cases hlt:k<a.length
  · obtain ⟨e1,e2⟩:=he _ (mem_getD a k default hlt)
    simp -dsimp -implicitDefEqProofs (disch:=first | omega | (simp only [lenr];try omega)) only [↓amPre,amAll,↓reduceIte,reduceCtorEq,Nat.reduceEqDiff,Nat.reduceBEq,Nat.reduceAdd,Nat.reduceLeDiff,Nat.reduceSub,Nat.reduceMul,Int.reduceToNat,List.size_toArray,tyF,MM,bu0,cbU49,f5,f0,f1]
    refine callP_of (eqMacro (a.getD k default) (b.getD k default) e1 e2) ?_
    cases w1:decide (a.getD k default=b.getD k default) with
    | false =>
      simp -dsimp -implicitDefEqProofs (disch:=first | omega | (simp only [lenr];try omega)) only [↓amPre,amAll,↓reduceIte,reduceCtorEq,Nat.reduceEqDiff,Nat.reduceBEq,Nat.reduceAdd,Nat.reduceLeDiff,Nat.reduceSub,Nat.reduceMul,Int.reduceToNat,List.size_toArray,tyF,MM,bu0,cbU49,f5,f0,f1,w1]
      simp only [decide_eq_false_iff_not] at w1
      have hne:¬ a=b:=by
        intro e;subst e;exact w1 rfl
      simp [hne]
    | true =>
      simp -dsimp -implicitDefEqProofs (disch:=first | omega | (simp only [lenr];try omega)) only [↓amPre,amAll,↓reduceIte,reduceCtorEq,Nat.reduceEqDiff,Nat.reduceBEq,Nat.reduceAdd,Nat.reduceLeDiff,Nat.reduceSub,Nat.reduceMul,Int.reduceToNat,List.size_toArray,tyF,MM,bu0,cbU49,f5,f0,f1,w1]
      simp only [decide_eq_true_eq] at w1
      repeat' (first | omega | rfl | exact i64c (by omega) | exact vic (by omega) | exact (take_eq_iff default k hlt (by omega)).2 ⟨ek,w1⟩ | apply And.intro)
  · have hke:k=a.length:=by omega
    subst hke
    simp -dsimp -implicitDefEqProofs (disch:=first | omega | (simp only [lenr];try omega)) only [↓amPre,amAll,↓reduceIte,reduceCtorEq,Nat.reduceEqDiff,Nat.reduceBEq,Nat.reduceAdd,Nat.reduceLeDiff,Nat.reduceSub,Nat.reduceMul,Int.reduceToNat,List.size_toArray,tyF,MM,bu0,cbU49,f5,f0,f1]
    simp [eq_of_takes hab ek]
theorem markMacroS (l:List Twist) (k:Int) (h0:0≤k) (h1:k+cnts l≤1099511627776) (hl:l.length≤1099511627776):SpecX Try.prog 63 [ttr l,.i64 k] [some (ttr (mks k l))] (.i64 (k+cnts l)):=by
  refine spec_of_awp (M:=MM) (np:=2) (fz:=false) mixed Try.func63 rfl rfl (by decide) rfl (Nat.le_refl _) (by decide +kernel) (.inl rfl) (by simp only [sigsOk_some,sigsOk_nil,sig_tr,List.length_map,mks_len,and_self]) ?_
  simp -dsimp -implicitDefEqProofs (disch:=first | omega | (simp only [lenr];try omega)) only [↓amPre,amAll,↓reduceIte,reduceCtorEq,Nat.reduceEqDiff,Nat.reduceBEq,Nat.reduceAdd,Nat.reduceLeDiff,Nat.reduceSub,Nat.reduceMul,Int.reduceToNat,List.size_toArray,tyF,MM,bu0,cbU49]
  have hr:=mks_len k l
  refine awp_loop (fun j st=>j≤l.length∧st.fr 5=.i64 j∧st.fr 1=.i64 (k+cnts (l.take j))∧st.fr 0=.ref 0 [] 2 0 l.length∧st.mem 0=some (ttr (mixL (mks k l) l j))) (l.length) ?_ ?_
  · simp -dsimp -implicitDefEqProofs (disch:=first | omega | (simp only [lenr];try omega)) only [↓amPre,amAll,↓reduceIte,reduceCtorEq,Nat.reduceEqDiff,Nat.reduceBEq,Nat.reduceAdd,Nat.reduceLeDiff,Nat.reduceSub,Nat.reduceMul,Int.reduceToNat,List.size_toArray,tyF,MM,bu0,cbU49,mixL_zero]
    simp [cnts]
  rintro j st _ ⟨hj,f5,f1,f0,m0⟩
  have hml:=mixL_len (mks k l) l j hr
  by_cases hlt:j<l.length
  · have hs:=mixL_set (mks k l) l j default hr hlt
    have hg:=mixL_get (mks k l) l j default hr hlt
    rw [tmks_get _ _ _ hlt] at hs
    have ct:=cnts_take l j hlt
    have cl:=cnts_le1 l j hlt
    rw [tcnt] at ct cl
    simp -dsimp -implicitDefEqProofs (disch:=first | omega | (simp only [lenr];try omega)) only [↓amPre,amAll,↓reduceIte,reduceCtorEq,Nat.reduceEqDiff,Nat.reduceBEq,Nat.reduceAdd,Nat.reduceLeDiff,Nat.reduceSub,Nat.reduceMul,Int.reduceToNat,List.size_toArray,tyF,MM,bu0,cbU49,f5,f1,f0,m0,hml,hg]
    refine callX_of (markInt64S (l.getD j default).to _ (by omega) (by omega) (by omega)) ?_
    simp -dsimp -implicitDefEqProofs (disch:=first | omega | (simp only [lenr];try omega)) only [↓amPre,amAll,↓reduceIte,reduceCtorEq,Nat.reduceEqDiff,Nat.reduceBEq,Nat.reduceAdd,Nat.reduceLeDiff,Nat.reduceSub,Nat.reduceMul,Int.reduceToNat,List.size_toArray,tyF,MM,bu0,cbU49,f5,f1,f0,m0,hml,hg]
    refine callX_of (markInt64S (l.getD j default).by' _ (by omega) (by omega) (by omega)) ?_
    simp -dsimp -implicitDefEqProofs (disch:=first | omega | (simp only [lenr];try omega)) only [↓amPre,amAll,↓reduceIte,reduceCtorEq,Nat.reduceEqDiff,Nat.reduceBEq,Nat.reduceAdd,Nat.reduceLeDiff,Nat.reduceSub,Nat.reduceMul,Int.reduceToNat,List.size_toArray,tyF,MM,bu0,cbU49,f5,f1,f0,m0,hml,hg,hs]
    repeat' (first | omega | rfl | exact i64c (by omega) | exact vic (by omega) | apply And.intro)
  · have hj':j=l.length:=by omega
    subst hj'
    have:=mixL_all (mks k l) l l.length (by omega) (by omega)
    simp -dsimp -implicitDefEqProofs (disch:=first | omega | (simp only [lenr];try omega)) only [↓amPre,amAll,↓reduceIte,reduceCtorEq,Nat.reduceEqDiff,Nat.reduceBEq,Nat.reduceAdd,Nat.reduceLeDiff,Nat.reduceSub,Nat.reduceMul,Int.reduceToNat,List.size_toArray,tyF,MM,bu0,cbU49,f5,f1,f0,m0,hml,this,List.take_length]
theorem heldMacroS (l:List Twist) (k:Int) (h0:0≤k) (h1:k+cnts l≤1099511627776) (hl:l.length≤1099511627776):SpecAt Try.prog 64 [tsl (mks k l),.i64 k] (.i64 (k+cnts l)):=by
  refine spec_of_awp (M:=MM) (np:=2) (fz:=true) mixed Try.func64 rfl rfl (by decide) rfl (Nat.le_refl _) (by decide +kernel) (.inr ⟨rfl,rfl⟩) trivial ?_
  simp -dsimp -implicitDefEqProofs (disch:=first | omega | (simp only [lenr];try omega)) only [↓amPre,amAll,↓reduceIte,reduceCtorEq,Nat.reduceEqDiff,Nat.reduceBEq,Nat.reduceAdd,Nat.reduceLeDiff,Nat.reduceSub,Nat.reduceMul,Int.reduceToNat,List.size_toArray,tyF,MM,bu0,cbU49]
  have hr:=mks_len k l
  refine awp_loop (fun j st=>j≤l.length∧st.fr 5=.i64 j∧st.fr 1=.i64 (k+cnts (l.take j))∧st.fr 0=tsl (mks k l)) (l.length) ?_ ?_
  · simp -dsimp -implicitDefEqProofs (disch:=first | omega | (simp only [lenr];try omega)) only [↓amPre,amAll,↓reduceIte,reduceCtorEq,Nat.reduceEqDiff,Nat.reduceBEq,Nat.reduceAdd,Nat.reduceLeDiff,Nat.reduceSub,Nat.reduceMul,Int.reduceToNat,List.size_toArray,tyF,MM,bu0,cbU49]
    simp [cnts]
  rintro j st _ ⟨hj,f5,f1,f0⟩
  by_cases hlt:j<l.length
  · have ct:=cnts_take l j hlt
    have cl:=cnts_le1 l j hlt
    rw [tcnt] at ct cl
    simp -dsimp -implicitDefEqProofs (disch:=first | omega | (simp only [lenr];try omega)) only [↓amPre,amAll,↓reduceIte,reduceCtorEq,Nat.reduceEqDiff,Nat.reduceBEq,Nat.reduceAdd,Nat.reduceLeDiff,Nat.reduceSub,Nat.reduceMul,Int.reduceToNat,List.size_toArray,tyF,MM,bu0,cbU49,f5,f1,f0,hr,tmks_get]
    refine callP_of (heldInt64S _ _ (by omega) (by omega) (by omega)) ?_
    simp -dsimp -implicitDefEqProofs (disch:=first | omega | (simp only [lenr];try omega)) only [↓amPre,amAll,↓reduceIte,reduceCtorEq,Nat.reduceEqDiff,Nat.reduceBEq,Nat.reduceAdd,Nat.reduceLeDiff,Nat.reduceSub,Nat.reduceMul,Int.reduceToNat,List.size_toArray,tyF,MM,bu0,cbU49,f5,f1,f0,hr,tmks_get]
    refine callP_of (heldInt64S _ _ (by omega) (by omega) (by omega)) ?_
    simp -dsimp -implicitDefEqProofs (disch:=first | omega | (simp only [lenr];try omega)) only [↓amPre,amAll,↓reduceIte,reduceCtorEq,Nat.reduceEqDiff,Nat.reduceBEq,Nat.reduceAdd,Nat.reduceLeDiff,Nat.reduceSub,Nat.reduceMul,Int.reduceToNat,List.size_toArray,tyF,MM,bu0,cbU49,f5,f1,f0,hr]
    repeat' (first | omega | rfl | exact i64c (by omega) | exact vic (by omega) | apply And.intro)
  · have hj':j=l.length:=by omega
    subst hj'
    simp -dsimp -implicitDefEqProofs (disch:=first | omega | (simp only [lenr];try omega)) only [↓amPre,amAll,↓reduceIte,reduceCtorEq,Nat.reduceEqDiff,Nat.reduceBEq,Nat.reduceAdd,Nat.reduceLeDiff,Nat.reduceSub,Nat.reduceMul,Int.reduceToNat,List.size_toArray,tyF,MM,bu0,cbU49,f5,f1,f0,hr,List.take_length]
theorem lettersS (p:Puzz) (hn:p.mv.length≤8):SpecAt Try.prog 248 [p.sl] (itr (letL p.mv.length)):=by
  refine spec_of_awp (M:=MM) (np:=1) (fz:=false) mixed Try.func248 rfl rfl (by decide) rfl (Nat.le_refl _) (by decide +kernel) (.inl rfl) (by first | trivial | simp only [sigsOk_nil,sigsOk_some,sigsOk_none,sig_tr,sig_pt,sig_mt,sig_agg,List.map_cons,List.map_nil,sig1_tr,sig1_pt,sig1_v,and_self,true_and,List.length_map,List.length_set]) ?_
  simp -dsimp -implicitDefEqProofs (disch:=first | omega | (simp only [lenr];try omega)) only [↓amPre,amAll,↓reduceIte,reduceCtorEq,Nat.reduceEqDiff,Nat.reduceBEq,Nat.reduceAdd,Nat.reduceLeDiff,Nat.reduceSub,Nat.reduceMul,Int.reduceToNat,List.size_toArray,tyF,MM,bu0,cbU49]
  refine awp_loop (fun k st=>k≤p.mv.length∧st.fr 4=.i64 ((k:Int)+1)∧st.fr 1=.loc 1 [] 0 0∧st.mem 1=some (.pt 3 p.sl)∧((k=0∧st.fr 3=.ref 5 [] 1 0 0∧st.mem 5=some (.tr 1 []))∨(0<k∧st.fr 3=.ref 18 [] 1 0 (2*k)∧st.mem 18=some (itr (letL k))))) (p.mv.length) ?_ ?_
  · simp -dsimp -implicitDefEqProofs (disch:=first | omega | (simp only [lenr];try omega)) only [↓amPre,amAll,↓reduceIte,reduceCtorEq,Nat.reduceEqDiff,Nat.reduceBEq,Nat.reduceAdd,Nat.reduceLeDiff,Nat.reduceSub,Nat.reduceMul,Int.reduceToNat,List.size_toArray,tyF,MM,bu0,cbU49]
    simp
  rintro k st _ ⟨hk,f4,f1,m1,ek⟩
  have hl:=letL_len k
  have hs:letL (k+1)=letL k++[(k:Int)+1,-((k:Int)+1)]:=rfl
  by_cases hlt:k<p.mv.length
  · have c1:((k:Int)+1≤(p.mv.length:Int)):=by omega
    have ew:IntKind.i64.wrap (0 - ((k:Int)+1)) = -((k:Int)+1):=by rw [wrap64_id (by omega)];omega
    have ew2:IntKind.i64.wrap ((k:Int)+1+1)=((k+1:Nat):Int)+1:=by rw [wrap64_id (by omega)];omega
    rcases ek with ⟨rfl,g3,g5⟩ | ⟨h0,g3,g5⟩
    · simp -dsimp -implicitDefEqProofs (disch:=first | omega | (simp only [lenr];try omega)) only [↓amPre,amAll,↓reduceIte,reduceCtorEq,Nat.reduceEqDiff,Nat.reduceBEq,Nat.reduceAdd,Nat.reduceLeDiff,Nat.reduceSub,Nat.reduceMul,Int.reduceToNat,List.size_toArray,tyF,MM,bu0,cbU49,f4,f1,m1,g3,g5,c1,ew,ew2,hl]
      refine ⟨hlt,by omega,by omega,?_⟩
      simp [letL]
    · simp -dsimp -implicitDefEqProofs (disch:=first | omega | (simp only [lenr];try omega)) only [↓amPre,amAll,↓reduceIte,reduceCtorEq,Nat.reduceEqDiff,Nat.reduceBEq,Nat.reduceAdd,Nat.reduceLeDiff,Nat.reduceSub,Nat.reduceMul,Int.reduceToNat,List.size_toArray,tyF,MM,bu0,cbU49,f4,f1,m1,g3,g5,c1,ew,ew2,hl]
      refine ⟨hlt,by omega,by omega,by rw [show 2*k+2=2*(k+1) by omega],?_⟩
      simp [letL]
  · have hk:k=p.mv.length:=by omega
    subst hk
    have c1:¬ ((p.mv.length:Int)+1≤(p.mv.length:Int)):=by omega
    rcases ek with ⟨h0,g3,g5⟩ | ⟨h0,g3,g5⟩
    · rw [h0]
      rw [h0] at c1
      simp -dsimp -implicitDefEqProofs (disch:=first | omega | (simp only [lenr];try omega)) only [↓amPre,amAll,↓reduceIte,reduceCtorEq,Nat.reduceEqDiff,Nat.reduceBEq,Nat.reduceAdd,Nat.reduceLeDiff,Nat.reduceSub,Nat.reduceMul,Int.reduceToNat,List.size_toArray,tyF,MM,bu0,cbU49,f4,f1,m1,g3,g5,c1,h0]
      simp [letL]
    · simp -dsimp -implicitDefEqProofs (disch:=first | omega | (simp only [lenr];try omega)) only [↓amPre,amAll,↓reduceIte,reduceCtorEq,Nat.reduceEqDiff,Nat.reduceBEq,Nat.reduceAdd,Nat.reduceLeDiff,Nat.reduceSub,Nat.reduceMul,Int.reduceToNat,List.size_toArray,tyF,MM,bu0,cbU49,f4,f1,m1,g3,g5,c1,hl]
end Go.AM
set_option maxRecDepth 8000
namespace Go.AM
namespace Ck
open Go.Proofs
open Ch (Lv hasL PN pt idL filL ordL prdK)
abbrev sfr (L:List (List Int)):AV:=.tr 1 (L.map fun x=>isl x)
theorem letterE (p:Puzz) (x:Int) (hp:genOk p.n p.mv) (hx:x∈letL p.mv.length):SpecAt Try.prog 235 [ssl p.mv,.i64 x] (isl (letP p.mv x)):=by
  have h8:=hp.2.1
  have:=letL_mem.1 hx
  rcases iLetter p.n p.mv x hp (by unfold letOk;omega) with h | h
  · exact h
  · exact spec_frz h rfl (itrF _)
def nbL (mv:List (List Int)) (s:List Int) (k:Nat):List (List Int):=((letL mv.length).take k).map fun l=>compI s (letP mv l)
theorem nbL_len (mv:List (List Int)) (s:List Int) {k:Nat} (h:k≤2*mv.length):(nbL mv s k).length=k:=by simp [nbL,letL_len];omega
theorem nbL_succ (mv:List (List Int)) (s:List Int) {k:Nat} (h:k<(letL mv.length).length):nbL mv s (k+1)=nbL mv s k++[compI s (letP mv ((letL mv.length).getD k 0))]:=by
  unfold nbL;rw [take_succ_eq _ _ 0 h];simp
theorem nbL_get (mv:List (List Int)) (s:List Int) {k:Nat} (h:k<(letL mv.length).length):(nbL mv s (letL mv.length).length).getD k default=compI s (letP mv ((letL mv.length).getD k 0)):=by
  unfold nbL
  rw [List.take_length,getD_eq _ _ _ (by simpa using h),List.getElem_map,getD_eq _ _ _ h]
theorem neighborsI (p:Puzz) (n:Nat) (s:List Int) (hn:p.n=n) (hp:genOk p.n p.mv) (hs:PN n s):SpecAt Try.prog 206 [p.sl,isl s] (sfr (nbL p.mv s (letL p.mv.length).length)):=by
  have h8:=hp.2.1
  have hA:=letL_len p.mv.length
  have ll:=lettersI p.mv.length h8
  have hm:∀ g∈p.mv,PN n g:=fun g hg=>⟨by have:=(hp.2.2 g hg).1;omega,(hp.2.2 g hg).2⟩
  have hn20:=hp.1
  refine spec_of_awp (M:=MM) (np:=2) (fz:=false) mixed Try.func206 rfl rfl (by decide) rfl (Nat.le_refl _) (by decide +kernel) (.inl rfl) (by first | trivial | simp only [sigsOk_nil,sigsOk_some,sigsOk_none,sig_tr,sig_pt,sig_mt,sig_agg,List.map_cons,List.map_nil,sig1_tr,sig1_pt,sig1_v,and_self,true_and,List.length_map,List.length_set]) ?_
  simp -dsimp -implicitDefEqProofs (disch:=first | omega | (simp only [lenr];try omega)) only [↓amPre,amAll,↓reduceIte,reduceCtorEq,Nat.reduceEqDiff,Nat.reduceBEq,Nat.reduceAdd,Nat.reduceLeDiff,Nat.reduceSub,Nat.reduceMul,Int.reduceToNat,List.size_toArray,tyF,MM,bu0,cbU49]
  refine callP_of (ll) ?_
  simp -dsimp -implicitDefEqProofs (disch:=first | omega | (simp only [lenr];try omega)) only [↓amPre,amAll,↓reduceIte,reduceCtorEq,Nat.reduceEqDiff,Nat.reduceBEq,Nat.reduceAdd,Nat.reduceLeDiff,Nat.reduceSub,Nat.reduceMul,Int.reduceToNat,List.size_toArray,tyF,MM,bu0,cbU49,hA]
  refine awp_loopN 5 25 1 (by simp -dsimp -implicitDefEqProofs (disch:=first | omega | (simp only [lenr];try omega)) only [↓amPre,amAll,↓reduceIte,reduceCtorEq,Nat.reduceEqDiff,Nat.reduceBEq,Nat.reduceAdd,Nat.reduceLeDiff,Nat.reduceSub,Nat.reduceMul,Int.reduceToNat,List.size_toArray,tyF,MM,bu0,cbU49]) (by decide) (fun k st=>k≤(2*p.mv.length)∧st.fr 13=.i64 k∧st.fr 12=.i64 (2*p.mv.length:Nat)∧st.fr 11=.ref 11 [] 1 0 (2*p.mv.length)∧st.fr 5=.ref 25 [] 1 0 k∧st.fr 1=isl s∧st.fr 2=.loc 2 [] 0 0∧st.mem 25=some (sfr (nbL p.mv s k))∧st.mem 11=some (itr (letL p.mv.length))∧st.mem 2=some (.pt 3 p.sl)) ((2*p.mv.length)) ?_ ?_
  · simp -dsimp -implicitDefEqProofs (disch:=first | omega | (simp only [lenr];try omega)) only [↓amPre,amAll,↓reduceIte,reduceCtorEq,Nat.reduceEqDiff,Nat.reduceBEq,Nat.reduceAdd,Nat.reduceLeDiff,Nat.reduceSub,Nat.reduceMul,Int.reduceToNat,List.size_toArray,tyF,MM,bu0,cbU49,nilAs_eq]
    exact ⟨Nat.zero_le _,rfl,rfl⟩
  rintro k st _ ⟨hk,f13,f12,f11,f5,f1,f2,m25,m11,m2⟩
  by_cases c1:k<2*p.mv.length
  · have hk:k<(letL p.mv.length).length:=by omega
    have hg:(ints (letL p.mv.length)).getD k .any=.i64 ((letL p.mv.length).getD k 0):=by rw [getD_eq _ _ _ (by simpa using hk),List.getElem_map,getD_eq _ _ _ hk]
    have hx:=mem_getD (letL p.mv.length) k 0 hk
    have hl:=(Bf.let_ok (by omega) (by omega) hm hx).1
    have q1:=letterE p _ hp hx
    have q2:=icompose s (letP p.mv ((letL p.mv.length).getD k 0)) (by have:=hs.1;omega) (fun y hy=>by have:=hs.2.2.1 y hy;have:=hs.1;have:=hl.1;omega)
    have hsu:=nbL_succ p.mv s hk
    have hln:=nbL_len p.mv s (show k≤2*p.mv.length by omega)
    have hln1:=nbL_len p.mv s (show k+1≤2*p.mv.length by omega)
    have e1:∀ X:List Int,AV.fzL (X.map AV.i64)=X.map AV.i64:=fun X=>by rw [fzL_map,ints_fz]
    generalize (letL p.mv.length).getD k 0=x at *
    simp -dsimp -implicitDefEqProofs (disch:=first | omega | (simp only [lenr];try omega)) only [↓amPre,amAll,↓reduceIte,reduceCtorEq,Nat.reduceEqDiff,Nat.reduceBEq,Nat.reduceAdd,Nat.reduceLeDiff,Nat.reduceSub,Nat.reduceMul,Int.reduceToNat,List.size_toArray,tyF,MM,bu0,cbU49,f13,f12,f11,f5,f1,f2,m25,m11,m2,hg,hA]
    refine callP_of (q1) ?_
    simp -dsimp -implicitDefEqProofs (disch:=first | omega | (simp only [lenr];try omega)) only [↓amPre,amAll,↓reduceIte,reduceCtorEq,Nat.reduceEqDiff,Nat.reduceBEq,Nat.reduceAdd,Nat.reduceLeDiff,Nat.reduceSub,Nat.reduceMul,Int.reduceToNat,List.size_toArray,tyF,MM,bu0,cbU49,f13,f12,f11,f5,f1,f2,m25,m11,m2]
    refine callP_frz q2 ?_
    simp -dsimp -implicitDefEqProofs (disch:=first | omega | (simp only [lenr];try omega)) only [↓amPre,amAll,↓reduceIte,reduceCtorEq,Nat.reduceEqDiff,Nat.reduceBEq,Nat.reduceAdd,Nat.reduceLeDiff,Nat.reduceSub,Nat.reduceMul,Int.reduceToNat,List.size_toArray,tyF,MM,bu0,cbU49,f13,f12,f11,f5,f1,f2,m25,m11,m2,itrF,e1,hln]
    refine ⟨c1,by omega,?_⟩
    rw [hsu]
  · have hk:k=2*p.mv.length:=by omega
    subst hk
    rw [← hA] at f5 m25
    have hln:=nbL_len p.mv s (Nat.le_refl (2*p.mv.length))
    simp -dsimp -implicitDefEqProofs (disch:=first | omega | (simp only [lenr];try omega)) only [↓amPre,amAll,↓reduceIte,reduceCtorEq,Nat.reduceEqDiff,Nat.reduceBEq,Nat.reduceAdd,Nat.reduceLeDiff,Nat.reduceSub,Nat.reduceMul,Int.reduceToNat,List.size_toArray,tyF,MM,bu0,cbU49,f13,f12,f11,f5,f1,f2,m25,m11,m2,hln,hA]
theorem orderX (n:Nat) (Gs:AV) (C:List Lv) (hn:C.length=n) (h1:1≤n) (h2:n≤20) (hG:Ch.Good n C 0) :
    SpecAt Try.prog 243 [.ep [.i64 n,Gs,.sl 1 (C.map rE)],.i64 0] (.i64 (ordL C)):=by
  have hC:=Ch.good_rows hG
  refine spec_of_awp (M:=MM) (np:=2) (fz:=true) mixed Try.func243 rfl rfl (by decide) rfl (Nat.le_refl _) (by decide +kernel) (.inr ⟨rfl,rfl⟩) trivial ?_
  simp -dsimp -implicitDefEqProofs (disch:=first | omega | (simp only [lenr];try omega)) only [↓amPre,amAll,↓reduceIte,reduceCtorEq,Nat.reduceEqDiff,Nat.reduceBEq,Nat.reduceAdd,Nat.reduceLeDiff,Nat.reduceSub,Nat.reduceMul,Int.reduceToNat,List.size_toArray,tyF,MM,bu0,cbU49]
  refine awp_loop (fun k st=>k≤n∧st.fr 6=.i64 k∧st.fr 0=.ep [.i64 n,Gs,.sl 1 (C.map rE)]∧st.fr 5=.i64 (prdK C k)) (n) ?_ ?_
  · simp -dsimp -implicitDefEqProofs (disch:=first | omega | (simp only [lenr];try omega)) only [↓amPre,amAll,↓reduceIte,reduceCtorEq,Nat.reduceEqDiff,Nat.reduceBEq,Nat.reduceAdd,Nat.reduceLeDiff,Nat.reduceSub,Nat.reduceMul,Int.reduceToNat,List.size_toArray,tyF,MM,bu0,cbU49]
    simp [prdK]
  rintro k st _ ⟨hk,f6,f0,f5⟩
  by_cases hlt:k<n
  · have hlC:k<C.length:=by omega
    have w1:=hC (C.getD k ⟨[],[]⟩) (mem_getD C k ⟨[],[]⟩ hlC)
    have r1:(C.map rE).getD k .any=.sl 1 ((C.getD k ⟨[],[]⟩).row.map nlv):=by
      rw [getD_eq _ _ _ (by simpa using hlC),List.getElem_map,getD_eq _ _ _ hlC]
    have q1:=orbitOfS (C.getD k ⟨[],[]⟩).row (by omega)
    have hcnt:(orbK (C.getD k ⟨[],[]⟩).row (C.getD k ⟨[],[]⟩).row.length).length=(filL (C.getD k ⟨[],[]⟩).row).length:=orbK_fil _ _
    have hp:=Ch.prd_le h1 h2 hG (k:=k+1) (by omega)
    have hpk:prdK C (k+1)=prdK C k*(filL (C.getD k ⟨[],[]⟩).row).length:=rfl
    have hle:=orbK_len (C.getD k ⟨[],[]⟩).row (C.getD k ⟨[],[]⟩).row.length
    have q2:=lenI (orbK (C.getD k ⟨[],[]⟩).row (C.getD k ⟨[],[]⟩).row.length)
    simp -dsimp -implicitDefEqProofs (disch:=first | omega | (simp only [lenr];try omega)) only [↓amPre,amAll,↓reduceIte,reduceCtorEq,Nat.reduceEqDiff,Nat.reduceBEq,Nat.reduceAdd,Nat.reduceLeDiff,Nat.reduceSub,Nat.reduceMul,Int.reduceToNat,List.size_toArray,tyF,MM,bu0,cbU49,f6,f0,f5,r1,w1]
    refine callP_of (q1) ?_
    simp -dsimp -implicitDefEqProofs (disch:=first | omega | (simp only [lenr];try omega)) only [↓amPre,amAll,↓reduceIte,reduceCtorEq,Nat.reduceEqDiff,Nat.reduceBEq,Nat.reduceAdd,Nat.reduceLeDiff,Nat.reduceSub,Nat.reduceMul,Int.reduceToNat,List.size_toArray,tyF,MM,bu0,cbU49,f6,f0,f5]
    refine callP_of (q2) ?_
    simp -dsimp -implicitDefEqProofs (disch:=first | omega | (simp only [lenr];try omega)) only [↓amPre,amAll,↓reduceIte,reduceCtorEq,Nat.reduceEqDiff,Nat.reduceBEq,Nat.reduceAdd,Nat.reduceLeDiff,Nat.reduceSub,Nat.reduceMul,Int.reduceToNat,List.size_toArray,tyF,MM,bu0,cbU49,f6,f0,f5,hcnt]
    exact ⟨by omega,by omega,i64c (by rw [hpk];simp)⟩
  · have hke:k=n:=by omega
    have e:=Ch.prd_drop C k (by omega)
    have e0:C.drop k=[]:=List.drop_of_length_le (by omega)
    rw [e0,ordL,Nat.mul_one] at e
    rw [← e]
    simp -dsimp -implicitDefEqProofs (disch:=first | omega | (simp only [lenr];try omega)) only [↓amPre,amAll,↓reduceIte,reduceCtorEq,Nat.reduceEqDiff,Nat.reduceBEq,Nat.reduceAdd,Nat.reduceLeDiff,Nat.reduceSub,Nat.reduceMul,Int.reduceToNat,List.size_toArray,tyF,MM,bu0,cbU49,f6,f0,f5,hke]
noncomputable def stN (p:Puzz):Nat:=if puzzOk p then ordL (Ch.newL p.n.toNat p.mv) else 0
theorem puzz_pn {p:Puzz} (h:puzzOk p):∀ s∈p.mv,PN p.n.toNat s:=fun s hs=>by
  have h1:=h.1.1
  have:=h.1.2.2 s hs
  exact ⟨by have:=this.1;omega,this.2⟩
theorem stateCountI (p:Puzz) (h:smallP p):SpecAt Try.prog 205 [p.sl] (.i64 (stN p)):=by
  have q0:=iPuzzle p h
  by_cases hd:puzzOk p
  case neg =>
    have hz:stN p=0:=if_neg hd
    rw [decide_eq_false hd] at q0
    rw [hz]
    refine spec_of_awp (M:=MM) (np:=1) (fz:=true) mixed Try.func205 rfl rfl (by decide) rfl (Nat.le_refl _) (by decide +kernel) (.inr ⟨rfl,rfl⟩) trivial ?_
    simp -dsimp -implicitDefEqProofs (disch:=first | omega | (simp only [lenr];try omega)) only [↓amPre,amAll,↓reduceIte,reduceCtorEq,Nat.reduceEqDiff,Nat.reduceBEq,Nat.reduceAdd,Nat.reduceLeDiff,Nat.reduceSub,Nat.reduceMul,Int.reduceToNat,List.size_toArray,tyF,MM,bu0,cbU49]
    refine callP_of (q0) ?_
    simp -dsimp -implicitDefEqProofs (disch:=first | omega | (simp only [lenr];try omega)) only [↓amPre,amAll,↓reduceIte,reduceCtorEq,Nat.reduceEqDiff,Nat.reduceBEq,Nat.reduceAdd,Nat.reduceLeDiff,Nat.reduceSub,Nat.reduceMul,Int.reduceToNat,List.size_toArray,tyF,MM,bu0,cbU49]
    try rfl
  rw [decide_eq_true hd] at q0
  have h1:=hd.1.1
  obtain ⟨N,hNN⟩:∃ N:Nat,p.n=N:=⟨p.n.toNat,by omega⟩
  have hpn:=puzz_pn hd
  have hz:stN p=ordL (Ch.newL p.n.toNat p.mv):=if_pos hd
  rw [show p.n.toNat=N by omega] at hpn hz
  have hP:=Ch.newL_part (n:=N) (by omega) (by omega) hpn
  have q1:=newChainI N p.mv (by omega) (by omega) hpn hd.1.2.1
  have q2:=orderX N (.sl 1 (((Ch.newL N p.mv).map gN).map AV.fz)) (Ch.newL N p.mv) hP.len (by omega) (by omega) hP.good
  rw [← hNN] at q1
  rw [hz]
  refine spec_of_awp (M:=MM) (np:=1) (fz:=true) mixed Try.func205 rfl rfl (by decide) rfl (Nat.le_refl _) (by decide +kernel) (.inr ⟨rfl,rfl⟩) trivial ?_
  simp -dsimp -implicitDefEqProofs (disch:=first | omega | (simp only [lenr];try omega)) only [↓amPre,amAll,↓reduceIte,reduceCtorEq,Nat.reduceEqDiff,Nat.reduceBEq,Nat.reduceAdd,Nat.reduceLeDiff,Nat.reduceSub,Nat.reduceMul,Int.reduceToNat,List.size_toArray,tyF,MM,bu0,cbU49]
  refine callP_of (q0) ?_
  simp -dsimp -implicitDefEqProofs (disch:=first | omega | (simp only [lenr];try omega)) only [↓amPre,amAll,↓reduceIte,reduceCtorEq,Nat.reduceEqDiff,Nat.reduceBEq,Nat.reduceAdd,Nat.reduceLeDiff,Nat.reduceSub,Nat.reduceMul,Int.reduceToNat,List.size_toArray,tyF,MM,bu0,cbU49]
  refine callP_of (q1) ?_
  simp -dsimp -implicitDefEqProofs (disch:=first | omega | (simp only [lenr];try omega)) only [↓amPre,amAll,↓reduceIte,reduceCtorEq,Nat.reduceEqDiff,Nat.reduceBEq,Nat.reduceAdd,Nat.reduceLeDiff,Nat.reduceSub,Nat.reduceMul,Int.reduceToNat,List.size_toArray,tyF,MM,bu0,cbU49,fzL_map,fz_rows]
  refine callP_of (q2) ?_
  simp -dsimp -implicitDefEqProofs (disch:=first | omega | (simp only [lenr];try omega)) only [↓amPre,amAll,↓reduceIte,reduceCtorEq,Nat.reduceEqDiff,Nat.reduceBEq,Nat.reduceAdd,Nat.reduceLeDiff,Nat.reduceSub,Nat.reduceMul,Int.reduceToNat,List.size_toArray,tyF,MM,bu0,cbU49]
  try rfl
end Ck
end Go.AM
namespace Go.AM
namespace Bf
open Ch (PN pt idL Gen newL ordL cst cst_app cst_len)
/-! the map from a state's key to its place -/
open Classical in
noncomputable def idxF (v:Value):List (List Int)→Nat→Option Value
  | [],_=>none
  | s :: S,i=>if v=.string (skey s) then some (.int .i64 i) else idxF v S (i+1)
noncomputable def idxM (S:List (List Int)):Value→Option Value:=fun v=>idxF v S 0
theorem idxF_at:∀ {S:List (List Int)} {s:List Int} (i:Nat),(∀ t∈S,smallE t)→smallE s→idxF (.string (skey s)) S i=if s∈S then some (.int .i64 ((i+S.idxOf s:Nat))) else none
  | [],s,i,_,_=>by simp [idxF]
  | t :: S,s,i,hS,hs=>by
    rw [idxF]
    by_cases h:s=t
    · subst h;simp
    · have hne:¬ (Value.string (skey s)=.string (skey t)):=fun q=>by
        injection q with q
        exact h (skey_inj hs (hS t (by simp)) q)
      rw [if_neg hne,idxF_at (i+1) (fun u hu=>hS u (by simp [hu])) hs]
      have:s∈t :: S↔s∈S:=by simp [h]
      by_cases hm:s∈S
      · rw [if_pos hm,if_pos (this.2 hm),List.idxOf_cons]
        have:(t == s)=false:=by simp;exact fun e=>h e.symm
        rw [this];simp;omega
      · rw [if_neg hm,if_neg (fun q=>hm (this.1 q))]
theorem idxM_at {S:List (List Int)} {s:List Int} (hS:∀ t∈S,smallE t) (hs:smallE s):idxM S (.string (skey s))=if s∈S then some (.int .i64 ((S.idxOf s:Nat))) else none:=by
  unfold idxM
  rw [idxF_at 0 hS hs,Nat.zero_add]
open Classical in
theorem idxF_app (v:Value) (s:List Int):∀ (S:List (List Int)) (i:Nat),idxF v (S++[s]) i=match idxF v S i with | some x=>some x | none=>if v=.string (skey s) then some (.int .i64 ((i+S.length:Nat))) else none
  | [],i=>by
    show (if v=.string (skey s) then some (Value.int .i64 i) else none)=_
    simp [idxF]
  | t :: S,i=>by
    rw [List.cons_append,idxF,idxF]
    by_cases h:v=.string (skey t)
    · rw [if_pos h,if_pos h]
    · rw [if_neg h,if_neg h,idxF_app v s S (i+1)]
      rw [List.length_cons,show i+1+S.length=i+(S.length+1) by omega]
theorem idxM_upd {S:List (List Int)} {s:List Int} (hS:∀ t∈S,smallE t) (hs:smallE s) (hn:s∉S):updM (idxM S) (.string (skey s)) (.int .i64 S.length)=idxM (S++[s]):=by
  funext v
  unfold updM
  by_cases h:v=.string (skey s)
  · rw [if_pos h,h,idxM_at (fun t ht=>by
      rcases List.mem_append.1 ht with q | q
      · exact hS t q
      · rw [List.mem_singleton.1 q];exact hs) hs,if_pos (by simp),List.idxOf_append,if_neg hn]
    simp
  · rw [if_neg h]
    unfold idxM
    rw [idxF_app]
    cases idxF v S 0 with
    | some x=>rfl
    | none=>rw [if_neg h]
/-! the neighbours' places -/
def nxR (mv:List (List Int)) (A:List Int) (k:Nat) (e:Ex):Nat→List Nat
  | 0=>[]
  | j+1=>nxR mv A k e j++[(inn mv A k e (j+1)).S.idxOf (nbr mv e k (A.getD j 0))]
def nxO (mv:List (List Int)) (A:List Int) (n:Nat):Nat→List (List Nat)
  | 0=>[]
  | k+1=>if k<(out mv A n k).S.length then nxO mv A n k++[nxR mv A k (out mv A n k) A.length] else nxO mv A n k
theorem nxR_len (mv:List (List Int)) (A:List Int) (k:Nat) (e:Ex):∀ j,(nxR mv A k e j).length=j
  | 0=>rfl
  | j+1=>by rw [nxR,List.length_append,nxR_len];rfl
theorem nxO_stay {mv:List (List Int)} {A:List Int} {n k:Nat} (h:(out mv A n k).S.length≤k):∀ d,nxO mv A n (k+d)=nxO mv A n k
  | 0=>rfl
  | d+1=>by rw [← Nat.add_assoc,nxO,out_stay h d,nxO_stay h d,if_neg (by omega)]
theorem nxO_lt {mv:List (List Int)} {A:List Int} {n:Nat}:∀ {k},k≤(out mv A n k).S.length→(nxO mv A n k).length=k
  | 0,_=>rfl
  | k+1,h=>by
    by_cases c:k<(out mv A n k).S.length
    · rw [nxO,if_pos c,List.length_append,nxO_lt (by omega)];rfl
    · rw [out,if_neg c] at h;omega
def byL (A:List Int) (J:List Nat):List Int:=match J with | []=>[] | _ :: r=>0 :: r.map fun j=>A.getD j 0
theorem byL_app (A:List Int) {J:List Nat} (h:0<J.length) (j:Nat):byL A (J++[j])=byL A J++[A.getD j 0]:=by
  cases J with
  | nil=>simp at h
  | cons a r=>simp [byL]
theorem byL_len (A:List Int) (J:List Nat):(byL A J).length=J.length:=by cases J <;> simp [byL]
theorem stp_dle {mv:List (List Int)} {A:List Int} {k:Nat} {e:Ex} (h:∀ i,i<e.D.length→e.D.getD i 0≤i) (hk:k<e.D.length) (j:Nat):∀ i,i<(stp mv A k e j).D.length→(stp mv A k e j).D.getD i 0≤i:=by
  unfold stp;split
  · exact h
  · intro i hi
    rw [List.length_append,List.length_singleton] at hi
    by_cases c:i<e.D.length
    · rw [getD_app_l _ _ _ _ c];exact h i c
    · have:i=e.D.length:=by omega
      subst this
      have q:=getD_app_r e.D [e.D.getD k 0+1] 0 0
      have:=h k hk
      refine Nat.le_trans (Nat.le_of_eq q) ?_
      show e.D.getD k 0+1≤_
      omega
theorem stp_dlen (mv:List (List Int)) (A:List Int) (k:Nat) (e:Ex) (j:Nat):e.D.length≤(stp mv A k e j).D.length:=by
  unfold stp;split
  · exact Nat.le_refl _
  · simp
theorem inn_dle {mv:List (List Int)} {A:List Int} {k:Nat} {e:Ex} (h:∀ i,i<e.D.length→e.D.getD i 0≤i) (hk:k<e.D.length):∀ j i,i<(inn mv A k e j).D.length→(inn mv A k e j).D.getD i 0≤i:=by
  intro j
  have key:∀ j,(∀ i,i<(inn mv A k e j).D.length→(inn mv A k e j).D.getD i 0≤i)∧k<(inn mv A k e j).D.length:=by
    intro j
    induction j with
    | zero=>exact ⟨h,hk⟩
    | succ j ih=>exact ⟨stp_dle ih.1 ih.2 j,Nat.lt_of_lt_of_le ih.2 (stp_dlen ..)⟩
  exact (key j).1
theorem out_dl (mv:List (List Int)) (A:List Int) (n:Nat):∀ k,(out mv A n k).D.length=(out mv A n k).S.length:=by
  have st:∀ (k:Nat) (e:Ex) (j:Nat),e.D.length=e.S.length→(stp mv A k e j).D.length=(stp mv A k e j).S.length:=fun k e j h=>by
    unfold stp;split
    · exact h
    · simp [h]
  have iN:∀ (k:Nat) (e:Ex),e.D.length=e.S.length→∀ j,(inn mv A k e j).D.length=(inn mv A k e j).S.length:=fun k e h j=>by
    induction j with
    | zero=>exact h
    | succ j ih=>exact st _ _ _ ih
  intro k
  induction k with
  | zero=>rfl
  | succ k ih =>
    rw [out];split
    · exact iN _ _ ih _
    · exact ih
theorem out_dle (mv:List (List Int)) (A:List Int) (n:Nat):∀ k i,i<(out mv A n k).D.length→(out mv A n k).D.getD i 0≤i
  | 0,i,hi=>by
    simp [out] at hi
    subst hi;simp [out]
  | k+1,i,hi=>by
    rw [out] at hi ⊢
    by_cases c:k<(out mv A n k).S.length
    · rw [if_pos c] at hi ⊢
      exact inn_dle (out_dle mv A n k) (by rw [out_dl];exact c) _ i hi
    · rw [if_neg c] at hi ⊢
      exact out_dle mv A n k i hi
theorem PN.small {n:Nat} (h2:n≤20) {s:List Int} (h:PN n s):smallE s:=fun x hx=>by
  have:=h.2.2.1 x hx
  have:=h.1
  omega
end Bf
end Go.AM
set_option maxRecDepth 8000
namespace Go.AM
namespace Sr
open Go.Proofs
open Ch (PN pt idL cst cst_app cst_len)
open Bf (lexLt slotC insS SrtOk)
open Ck (sfr)
def MM:FuncId→List Bool:=fun f=>if f=247 then [true,false,false] else []
theorem listPrec (a b:List Int) (h:a.length=b.length) (hl:a.length≤1099511627776):SpecAt Try.prog 276 [isl a,isl b] (.bl (lexLt a b)):=by
  refine spec_of_awp (M:=MM) (np:=2) (fz:=true) mixed Try.func276 rfl rfl (by decide) rfl (Nat.le_refl _) (by decide +kernel) (.inr ⟨rfl,rfl⟩) trivial ?_
  simp -dsimp -implicitDefEqProofs (disch:=first | omega | (simp only [lenr];try omega)) only [↓amPre,amAll,↓reduceIte,reduceCtorEq,Nat.reduceEqDiff,Nat.reduceBEq,Nat.reduceAdd,Nat.reduceLeDiff,Nat.reduceSub,Nat.reduceMul,Int.reduceToNat,List.size_toArray,tyF,MM,bu0,cbU49]
  refine awp_loop (fun k st=>k≤a.length∧st.fr 5=.i64 k∧st.fr 0=isl a∧st.fr 1=isl b∧a.take k=b.take k) (a.length) ?_ ?_
  · simp -dsimp -implicitDefEqProofs (disch:=first | omega | (simp only [lenr];try omega)) only [↓amPre,amAll,↓reduceIte,reduceCtorEq,Nat.reduceEqDiff,Nat.reduceBEq,Nat.reduceAdd,Nat.reduceLeDiff,Nat.reduceSub,Nat.reduceMul,Int.reduceToNat,List.size_toArray,tyF,MM,bu0,cbU49]
    repeat' (first | omega | rfl | exact i64c (by omega) | exact vic (by omega) | apply And.intro)
  rintro k st _ ⟨hk,f5,f0,f1,ek⟩
  by_cases hlt:k<a.length
  · by_cases hne:a.getD k 0=b.getD k 0
    · simp -dsimp -implicitDefEqProofs (disch:=first | omega | (simp only [lenr];try omega)) only [↓amPre,amAll,↓reduceIte,reduceCtorEq,Nat.reduceEqDiff,Nat.reduceBEq,Nat.reduceAdd,Nat.reduceLeDiff,Nat.reduceSub,Nat.reduceMul,Int.reduceToNat,List.size_toArray,tyF,MM,bu0,cbU49,f5,f0,f1,hne]
      exact ⟨hlt,by omega,(take_eq_iff 0 k hlt (by omega)).2 ⟨ek,hne⟩⟩
    · have e:=Bf.lex_at h ek hlt hne
      simp -dsimp -implicitDefEqProofs (disch:=first | omega | (simp only [lenr];try omega)) only [↓amPre,amAll,↓reduceIte,reduceCtorEq,Nat.reduceEqDiff,Nat.reduceBEq,Nat.reduceAdd,Nat.reduceLeDiff,Nat.reduceSub,Nat.reduceMul,Int.reduceToNat,List.size_toArray,tyF,MM,bu0,cbU49,f5,f0,f1,hne]
      rw [e]
  · have hke:k=a.length:=by omega
    have e:a=b:=by
      rw [hke,List.take_length,h,List.take_length] at ek;exact ek
    have e2:=Bf.lex_irr a
    subst e
    simp -dsimp -implicitDefEqProofs (disch:=first | omega | (simp only [lenr];try omega)) only [↓amPre,amAll,↓reduceIte,reduceCtorEq,Nat.reduceEqDiff,Nat.reduceBEq,Nat.reduceAdd,Nat.reduceLeDiff,Nat.reduceSub,Nat.reduceMul,Int.reduceToNat,List.size_toArray,tyF,MM,bu0,cbU49,f5,f0,f1,e2]
abbrev fS (S:List (List Int)) (D:List Int) (Z:List Nat) (w:Bool):AV:=.agg [ssl S,isl D,isl (cst Z),.bl w]
abbrev fT (S:List (List Int)) (D:List Int) (Z:List Nat) (w:Bool):AV:=.agg [sfr S,itr D,itr (cst Z),.bl w]
theorem searchSlot (n:Nat) (S:List (List Int)) (D:List Int) (Z:List Nat) (w:Bool) (s:List Int) (hZ:SrtOk n S Z) (hn:n≤20) (hs:s.length=n) (hl:S.length≤3000) :
    SpecAt Try.prog 262 [fS S D Z w,isl s] (.i64 (slotC S Z s)):=by
  have hsl:=Bf.slot_le S Z s
  have hzl:=hZ.len
  refine spec_of_awp (M:=MM) (np:=2) (fz:=true) mixed Try.func262 rfl rfl (by decide) rfl (Nat.le_refl _) (by decide +kernel) (.inr ⟨rfl,rfl⟩) trivial ?_
  simp -dsimp -implicitDefEqProofs (disch:=first | omega | (simp only [lenr];try omega)) only [↓amPre,amAll,↓reduceIte,reduceCtorEq,Nat.reduceEqDiff,Nat.reduceBEq,Nat.reduceAdd,Nat.reduceLeDiff,Nat.reduceSub,Nat.reduceMul,Int.reduceToNat,List.size_toArray,tyF,MM,bu0,cbU49]
  refine awp_loop (fun k st=>k≤Z.length∧st.fr 2=.loc 2 [] 0 0∧st.fr 1=isl s∧st.mem 2=some (.pt 4 (fS S D Z w))∧(∃ lo hi:Nat,st.fr 5=.i64 lo∧st.fr 6=.i64 hi∧lo≤slotC S Z s∧slotC S Z s≤hi∧hi≤Z.length∧hi+k≤lo+Z.length)) (Z.length) ?_ ?_
  · simp -dsimp -implicitDefEqProofs (disch:=first | omega | (simp only [lenr];try omega)) only [↓amPre,amAll,↓reduceIte,reduceCtorEq,Nat.reduceEqDiff,Nat.reduceBEq,Nat.reduceAdd,Nat.reduceLeDiff,Nat.reduceSub,Nat.reduceMul,Int.reduceToNat,List.size_toArray,tyF,MM,bu0,cbU49,cst_len]
    exact ⟨Nat.zero_le _,0,Z.length,rfl,rfl,Nat.zero_le _,hsl,Nat.le_refl _,by omega⟩
  rintro k st _ ⟨hk,f2,f1,m2,ek⟩
  obtain ⟨lo,hi,f5,f6,h1,h2,h3,h4⟩:=ek
  by_cases c1:lo<hi
  · obtain ⟨mid,hmid⟩:∃ mid:Nat,mid=(lo+hi) / 2:=⟨_,rfl⟩
    have hm1:lo≤mid∧mid<hi:=by omega
    have hmz:mid<Z.length:=by omega
    have hmS:Z.getD mid 0<S.length:=(hZ.mem _).1 (mem_getD Z mid 0 hmz)
    have hsi:=Bf.slot_iff hZ s hmz
    have hgZ:((cst Z).map AV.i64).getD mid .any=.i64 (Z.getD mid 0:Nat):=by rw [getD_eq _ _ _ (by rw [List.length_map,cst_len];exact hmz),List.getElem_map,← getD_eq _ _ 0,Ch.cst_get hmz]
    have hgm:=hZ.ll _ (mem_getD S _ default hmS)
    have q:=listPrec (S.getD (Z.getD mid 0) default) s (by rw [hgm,hs]) (by omega)
    have hwm:IntKind.i64.wrap (((lo:Int)+hi).tdiv 2)=(mid:Int):=by
      have e:((lo:Int)+hi).tdiv 2=(mid:Int):=by rw [hmid];exact (Int.ofNat_tdiv (lo+hi) 2).symm
      rw [e,wrap64_id (by omega)]
    have hlZ:(cst Z).length=Z.length:=cst_len Z
    cases hb:lexLt (S.getD (Z.getD mid 0) default) s with
    | true =>
      rw [hb] at q
      have hlt:=hsi.1 hb
      simp -dsimp -implicitDefEqProofs (disch:=first | omega | (simp only [lenr];try omega)) only [↓amPre,amAll,↓reduceIte,reduceCtorEq,Nat.reduceEqDiff,Nat.reduceBEq,Nat.reduceAdd,Nat.reduceLeDiff,Nat.reduceSub,Nat.reduceMul,Int.reduceToNat,List.size_toArray,tyF,MM,bu0,cbU49,f2,f1,m2,f5,f6,c1,hwm,hlZ,hgZ]
      refine callP_of (q) ?_
      simp -dsimp -implicitDefEqProofs (disch:=first | omega | (simp only [lenr];try omega)) only [↓amPre,amAll,↓reduceIte,reduceCtorEq,Nat.reduceEqDiff,Nat.reduceBEq,Nat.reduceAdd,Nat.reduceLeDiff,Nat.reduceSub,Nat.reduceMul,Int.reduceToNat,List.size_toArray,tyF,MM,bu0,cbU49,f2,f1,m2,f5,f6]
      exact ⟨by omega,by omega,mid+1,hi,i64c (by simp),rfl,by omega,h2,h3,by omega⟩
    | false =>
      rw [hb] at q
      have hge:slotC S Z s≤mid:=by
        rcases Nat.lt_or_ge mid (slotC S Z s) with c | c
        · rw [hsi.2 c] at hb;cases hb
        · exact c
      simp -dsimp -implicitDefEqProofs (disch:=first | omega | (simp only [lenr];try omega)) only [↓amPre,amAll,↓reduceIte,reduceCtorEq,Nat.reduceEqDiff,Nat.reduceBEq,Nat.reduceAdd,Nat.reduceLeDiff,Nat.reduceSub,Nat.reduceMul,Int.reduceToNat,List.size_toArray,tyF,MM,bu0,cbU49,f2,f1,m2,f5,f6,c1,hwm,hlZ,hgZ]
      refine callP_of (q) ?_
      simp -dsimp -implicitDefEqProofs (disch:=first | omega | (simp only [lenr];try omega)) only [↓amPre,amAll,↓reduceIte,reduceCtorEq,Nat.reduceEqDiff,Nat.reduceBEq,Nat.reduceAdd,Nat.reduceLeDiff,Nat.reduceSub,Nat.reduceMul,Int.reduceToNat,List.size_toArray,tyF,MM,bu0,cbU49,f2,f1,m2,f5,f6]
      exact ⟨by omega,by omega,lo,mid,rfl,rfl,h1,hge,by omega,by omega⟩
  · have:lo=slotC S Z s:=by omega
    have c2:¬ ((lo:Int)<hi):=by omega
    simp -dsimp -implicitDefEqProofs (disch:=first | omega | (simp only [lenr];try omega)) only [↓amPre,amAll,↓reduceIte,reduceCtorEq,Nat.reduceEqDiff,Nat.reduceBEq,Nat.reduceAdd,Nat.reduceLeDiff,Nat.reduceSub,Nat.reduceMul,Int.reduceToNat,List.size_toArray,tyF,MM,bu0,cbU49,f2,f1,m2,f5,f6,c2]
    rw [this]
theorem searchIndex (n:Nat) (S:List (List Int)) (D:List Int) (Z:List Nat) (w:Bool) (s:List Int) (hZ:SrtOk n S Z) (hd:S.Nodup) (hn:n≤20) (hs:s.length=n) (hl:S.length≤3000) :
    SpecAt Try.prog 250 [fS S D Z w,isl s] (.i64 (ixK S s)):=by
  have hsl:=Bf.slot_le S Z s
  have hzl:=hZ.len
  have hlZ:(cst Z).length=Z.length:=cst_len Z
  have q:=searchSlot n S D Z w s hZ hn hs hl
  have hix:=Bf.slot_ix hZ hd s
  refine spec_of_awp (M:=MM) (np:=2) (fz:=true) mixed Try.func250 rfl rfl (by decide) rfl (Nat.le_refl _) (by decide +kernel) (.inr ⟨rfl,rfl⟩) trivial ?_
  simp -dsimp -implicitDefEqProofs (disch:=first | omega | (simp only [lenr];try omega)) only [↓amPre,amAll,↓reduceIte,reduceCtorEq,Nat.reduceEqDiff,Nat.reduceBEq,Nat.reduceAdd,Nat.reduceLeDiff,Nat.reduceSub,Nat.reduceMul,Int.reduceToNat,List.size_toArray,tyF,MM,bu0,cbU49]
  refine callP_of (q) ?_
  by_cases c1:slotC S Z s<Z.length
  · have hgZ:((cst Z).map AV.i64).getD (slotC S Z s) .any=.i64 (Z.getD (slotC S Z s) 0:Nat):=by rw [getD_eq _ _ _ (by rw [List.length_map,cst_len];exact c1),List.getElem_map,← getD_eq _ _ 0,Ch.cst_get c1]
    have hmS:Z.getD (slotC S Z s) 0<S.length:=(hZ.mem _).1 (mem_getD Z _ 0 c1)
    have hgm:=hZ.ll _ (mem_getD S _ default hmS)
    have q2:=sEqualInts (S.getD (Z.getD (slotC S Z s) 0) default) s (by omega)
    by_cases c2:S.getD (Z.getD (slotC S Z s) 0) default=s
    · rw [if_pos ⟨c1,c2⟩] at hix
      rw [decide_eq_true c2] at q2
      rw [hix]
      generalize slotC S Z s=m at *
      simp -dsimp -implicitDefEqProofs (disch:=first | omega | (simp only [lenr];try omega)) only [↓amPre,amAll,↓reduceIte,reduceCtorEq,Nat.reduceEqDiff,Nat.reduceBEq,Nat.reduceAdd,Nat.reduceLeDiff,Nat.reduceSub,Nat.reduceMul,Int.reduceToNat,List.size_toArray,tyF,MM,bu0,cbU49,hlZ,c1,hgZ]
      refine callP_of (q2) ?_
      simp -dsimp -implicitDefEqProofs (disch:=first | omega | (simp only [lenr];try omega)) only [↓amPre,amAll,↓reduceIte,reduceCtorEq,Nat.reduceEqDiff,Nat.reduceBEq,Nat.reduceAdd,Nat.reduceLeDiff,Nat.reduceSub,Nat.reduceMul,Int.reduceToNat,List.size_toArray,tyF,MM,bu0,cbU49,hlZ,c1,hgZ]
    · rw [if_neg (fun h=>c2 h.2)] at hix
      rw [decide_eq_false c2] at q2
      rw [hix]
      generalize slotC S Z s=m at *
      simp -dsimp -implicitDefEqProofs (disch:=first | omega | (simp only [lenr];try omega)) only [↓amPre,amAll,↓reduceIte,reduceCtorEq,Nat.reduceEqDiff,Nat.reduceBEq,Nat.reduceAdd,Nat.reduceLeDiff,Nat.reduceSub,Nat.reduceMul,Int.reduceToNat,List.size_toArray,tyF,MM,bu0,cbU49,hlZ,c1,hgZ]
      refine callP_of (q2) ?_
      simp -dsimp -implicitDefEqProofs (disch:=first | omega | (simp only [lenr];try omega)) only [↓amPre,amAll,↓reduceIte,reduceCtorEq,Nat.reduceEqDiff,Nat.reduceBEq,Nat.reduceAdd,Nat.reduceLeDiff,Nat.reduceSub,Nat.reduceMul,Int.reduceToNat,List.size_toArray,tyF,MM,bu0,cbU49,hlZ,c1,hgZ]
  · rw [if_neg (fun h=>c1 h.1)] at hix
    rw [hix]
    generalize slotC S Z s=m at *
    simp -dsimp -implicitDefEqProofs (disch:=first | omega | (simp only [lenr];try omega)) only [↓amPre,amAll,↓reduceIte,reduceCtorEq,Nat.reduceEqDiff,Nat.reduceBEq,Nat.reduceAdd,Nat.reduceLeDiff,Nat.reduceSub,Nat.reduceMul,Int.reduceToNat,List.size_toArray,tyF,MM,bu0,cbU49,hlZ,c1]
theorem copy_ins (S:List (List Int)) (Z:List Nat) (s:List Int) {m:Nat} (hm:m=slotC S Z s) (hle:m≤Z.length) :
    (((cst Z++[0]).take (m+1)).map AV.i64++(((cst Z++[0]).drop m).take (Z.length+1 - (m+1))).map AV.i64++((cst Z++[0]).drop (m+1+min (Z.length+1 - (m+1)) ((cst Z++[0]).drop m).length)).map AV.i64).set m (.i64 S.length)=(cst (insS S Z s)).map AV.i64:=by
  have hl:(cst Z++[(0:Int)]).length=Z.length+1:=by simp [cst_len]
  have e1:(cst Z++[(0:Int)]).drop (m+1+min (Z.length+1 - (m+1)) ((cst Z++[(0:Int)]).drop m).length)=[]:=by
    apply List.drop_eq_nil_of_le
    rw [List.length_drop,hl];omega
  have e2:((cst Z++[(0:Int)]).drop m).take (Z.length+1 - (m+1))=cst (Z.drop m):=by
    rw [List.drop_append_of_le_length (by rw [cst_len];exact hle),List.take_append_of_le_length (by rw [List.length_drop,cst_len];omega),Ch.cst_drop,List.take_of_length_le (by rw [cst_len,List.length_drop];omega)]
  have e3:(cst Z++[(0:Int)]).take (m+1)=cst (Z.take m)++[(cst Z++[(0:Int)]).getD m 0]:=by
    rw [take_succ_eq _ m 0 (by rw [hl];omega),List.take_append_of_le_length (by rw [cst_len];exact hle)]
    congr 1
    simp [cst,List.map_take]
  rw [e1,e2,e3,insS,← hm,cst_app]
  have hlt:(List.map AV.i64 (cst (Z.take m))).length=m:=by rw [List.length_map,cst_len,List.length_take];omega
  simp only [List.map_append,List.map_cons,List.map_nil,List.append_nil,List.append_assoc,List.cons_append,List.nil_append]
  rw [List.set_append_right _ _ (by omega),hlt,Nat.sub_self,List.set_cons_zero]
  rfl
theorem searchAdd (n:Nat) (S:List (List Int)) (D:List Int) (Z:List Nat) (w:Bool) (s:List Int) (x:Int) (hZ:SrtOk n S Z) (hn:n≤20) (hs:s.length=n) (hl:S.length≤3000) (hD:D.length=S.length) :
    SpecX Try.prog 247 [fT S D Z w,isl s,.i64 x] [] (fT (S++[s]) (D++[x]) (insS S Z s) w):=by
  have hsl:=Bf.slot_le S Z s
  have hzl:=hZ.len
  have hlZ:(cst Z).length=Z.length:=cst_len Z
  have q:=searchSlot n S D Z w s hZ hn hs hl
  have hfz:∀ L:List (List Int),AV.fzL (L.map fun x=>isl x)=L.map fun x=>isl x:=fun L=>by rw [fzL_map,islfz]
  obtain ⟨m,hm⟩:∃ m,m=slotC S Z s:=⟨_,rfl⟩
  rw [← hm] at q hsl
  refine spec_of_awp_any (M:=MM) (np:=3) (X:=[3]) (fz:=false) mixed Try.func247 rfl rfl (by decide) rfl (Nat.le_refl _) (by decide +kernel) (.inl rfl) (by first | trivial | simp only [sigsOk_nil,sigsOk_some,sigsOk_none,sig_tr,sig_pt,sig_mt,sig_agg,List.map_cons,List.map_nil,sig1_tr,sig1_pt,sig1_v,and_self,true_and,List.length_map,List.length_set]) ?_
  simp -dsimp -implicitDefEqProofs (disch:=first | omega | (simp only [lenr];try omega)) only [↓amPre,amAll,↓reduceIte,reduceCtorEq,Nat.reduceEqDiff,Nat.reduceBEq,Nat.reduceAdd,Nat.reduceLeDiff,Nat.reduceSub,Nat.reduceMul,Int.reduceToNat,List.size_toArray,tyF,MM,bu0,cbU49,islfz,ints_fz]
  refine callP_of (q) ?_
  simp -dsimp -implicitDefEqProofs (disch:=first | omega | (simp only [lenr];try omega)) only [↓amPre,amAll,↓reduceIte,reduceCtorEq,Nat.reduceEqDiff,Nat.reduceBEq,Nat.reduceAdd,Nat.reduceLeDiff,Nat.reduceSub,Nat.reduceMul,Int.reduceToNat,List.size_toArray,tyF,MM,bu0,cbU49,hlZ]
  refine split_go 9 (by decide +kernel) ?_
  have hbe:∀ l:List Int,AV.bearsL (l.map AV.i64)=false:=Ck.bears_ints
  simp -dsimp -implicitDefEqProofs (disch:=first | omega | (simp only [lenr];try omega)) only [↓amPre,amAll,↓reduceIte,reduceCtorEq,Nat.reduceEqDiff,Nat.reduceBEq,Nat.reduceAdd,Nat.reduceLeDiff,Nat.reduceSub,Nat.reduceMul,Int.reduceToNat,List.size_toArray,tyF,MM,bu0,cbU49,hlZ,hbe]
  exact copy_ins S Z s hm hsl
end Sr
end Go.AM
namespace Go.AM
namespace Bf
open Ch (PN pt idL)
def lsN (S:List (List Int)) (k:Nat):Int:=((movL (S.getD k default) (S.getD k default).length).length:Int)
def lsK (S:List (List Int)):Nat→Int
  | 0=>-1
  | k+1=>if lsK S k<0∨lsN S (k+1)<lsK S k then lsN S (k+1) else lsK S k
theorem movL_len (p:List Int) (k:Nat):(movL p k).length≤k:=by
  unfold movL
  rw [List.length_map]
  have:=List.length_filter_le (fun i=>p.getD i 0 != (i:Int)) (List.range k)
  simpa using this
end Bf
end Go.AM
set_option maxRecDepth 8000
namespace Go.AM
namespace Sr
open Go.Proofs
open Ch (PN pt idL cst cst_app cst_len)
open Bf (Ex inn stp nbr insS SrtOk srtS innF outF)
open Ck (sfr)
abbrev zS:AV:=.agg [.nilsl,.nilsl,.nilsl,.bl false]
abbrev fE (e:Ex) (w:Bool):AV:=fT e.S (cst e.D) (srtS e.S) w
theorem searchSlot0 (s:List Int):SpecAt Try.prog 262 [zS,isl s] (.i64 0):=by
  refine spec_of_awp (M:=MM) (np:=2) (fz:=true) mixed Try.func262 rfl rfl (by decide) rfl (Nat.le_refl _) (by decide +kernel) (.inr ⟨rfl,rfl⟩) trivial ?_
  simp -dsimp -implicitDefEqProofs (disch:=first | omega | (simp only [lenr];try omega)) only [↓amPre,amAll,↓reduceIte,reduceCtorEq,Nat.reduceEqDiff,Nat.reduceBEq,Nat.reduceAdd,Nat.reduceLeDiff,Nat.reduceSub,Nat.reduceMul,Int.reduceToNat,List.size_toArray,tyF,MM,bu0,cbU49]
  refine awp_loop (fun k st=>k≤0∧st.fr 2=.loc 2 [] 0 0∧st.fr 1=isl s∧st.fr 5=.i64 0∧st.fr 6=.i64 0∧st.mem 2=some (.pt 4 zS)) (0) ?_ ?_
  · simp -dsimp -implicitDefEqProofs (disch:=first | omega | (simp only [lenr];try omega)) only [↓amPre,amAll,↓reduceIte,reduceCtorEq,Nat.reduceEqDiff,Nat.reduceBEq,Nat.reduceAdd,Nat.reduceLeDiff,Nat.reduceSub,Nat.reduceMul,Int.reduceToNat,List.size_toArray,tyF,MM,bu0,cbU49]
  rintro k st _ ⟨hk,f2,f1,f5,f6,m2⟩
  simp -dsimp -implicitDefEqProofs (disch:=first | omega | (simp only [lenr];try omega)) only [↓amPre,amAll,↓reduceIte,reduceCtorEq,Nat.reduceEqDiff,Nat.reduceBEq,Nat.reduceAdd,Nat.reduceLeDiff,Nat.reduceSub,Nat.reduceMul,Int.reduceToNat,List.size_toArray,tyF,MM,bu0,cbU49,f2,f1,f5,f6,m2]
theorem searchAdd0 (s:List Int):SpecX Try.prog 247 [zS,isl s,.i64 0] [] (fT [s] [0] [0] false):=by
  have q:=searchSlot0 s
  refine spec_of_awp_any (M:=MM) (np:=3) (X:=[3]) (fz:=false) mixed Try.func247 rfl rfl (by decide) rfl (Nat.le_refl _) (by decide +kernel) (.inl rfl) (by first | trivial | simp only [sigsOk_nil,sigsOk_some,sigsOk_none,sig_tr,sig_pt,sig_mt,sig_agg,List.map_cons,List.map_nil,sig1_tr,sig1_pt,sig1_v,and_self,true_and,List.length_map,List.length_set]) ?_
  simp -dsimp -implicitDefEqProofs (disch:=first | omega | (simp only [lenr];try omega)) only [↓amPre,amAll,↓reduceIte,reduceCtorEq,Nat.reduceEqDiff,Nat.reduceBEq,Nat.reduceAdd,Nat.reduceLeDiff,Nat.reduceSub,Nat.reduceMul,Int.reduceToNat,List.size_toArray,tyF,MM,bu0,cbU49]
  refine callP_of (q) ?_
  simp -dsimp -implicitDefEqProofs (disch:=first | omega | (simp only [lenr];try omega)) only [↓amPre,amAll,↓reduceIte,reduceCtorEq,Nat.reduceEqDiff,Nat.reduceBEq,Nat.reduceAdd,Nat.reduceLeDiff,Nat.reduceSub,Nat.reduceMul,Int.reduceToNat,List.size_toArray,tyF,MM,bu0,cbU49]
  refine split_go 9 (by decide +kernel) ?_
  simp -dsimp -implicitDefEqProofs (disch:=first | omega | (simp only [lenr];try omega)) only [↓amPre,amAll,↓reduceIte,reduceCtorEq,Nat.reduceEqDiff,Nat.reduceBEq,Nat.reduceAdd,Nat.reduceLeDiff,Nat.reduceSub,Nat.reduceMul,Int.reduceToNat,List.size_toArray,tyF,MM,bu0,cbU49]
  rfl
theorem searchFromI (p:Puzz) (N:Nat) (hN:p.n=N) (hd:puzzOk p) :
    SpecAt Try.prog 211 [p.sl,isl (idL N)] (fE (outF p.mv (letL p.mv.length) N 3000).1 (!(outF p.mv (letL p.mv.length) N 3000).2)):=by
  have hpn:=Ck.puzz_pn hd
  have hn20:=hd.1.1
  rw [show p.n.toNat=N by omega] at hpn
  have hN1:1≤N:=by omega
  have hN2:N≤20:=by omega
  have hA:=letL_len p.mv.length
  have h8:=hd.1.2.1
  have l0:=copyI (idL N) (by rw [runI_len];omega)
  have q0:=searchAdd0 (idL N)
  have ll:=lettersS p h8
  have hok:=fun k=>(Bf.out_ok hN1 hN2 hpn k).1
  refine spec_of_awp_any (M:=MM) (np:=2) (X:=[13]) (fz:=false) mixed Try.func211 rfl rfl (by decide) rfl (Nat.le_refl _) (by decide +kernel) (.inl rfl) (by first | trivial | simp only [sigsOk_nil,sigsOk_some,sigsOk_none,sig_tr,sig_pt,sig_mt,sig_agg,List.map_cons,List.map_nil,sig1_tr,sig1_pt,sig1_v,and_self,true_and,List.length_map,List.length_set]) ?_
  simp -dsimp -implicitDefEqProofs (disch:=first | omega | (simp only [lenr];try omega)) only [↓amPre,amAll,↓reduceIte,reduceCtorEq,Nat.reduceEqDiff,Nat.reduceBEq,Nat.reduceAdd,Nat.reduceLeDiff,Nat.reduceSub,Nat.reduceMul,Int.reduceToNat,List.size_toArray,tyF,MM,bu0,cbU49]
  have e1:∀ X:List Int,AV.fzL (X.map AV.i64)=X.map AV.i64:=fun X=>by rw [fzL_map,ints_fz]
  refine callP_frz l0 ?_
  simp -dsimp -implicitDefEqProofs (disch:=first | omega | (simp only [lenr];try omega)) only [↓amPre,amAll,↓reduceIte,reduceCtorEq,Nat.reduceEqDiff,Nat.reduceBEq,Nat.reduceAdd,Nat.reduceLeDiff,Nat.reduceSub,Nat.reduceMul,Int.reduceToNat,List.size_toArray,tyF,MM,bu0,cbU49,itrF,e1]
  refine callX_of (q0) ?_
  simp -dsimp -implicitDefEqProofs (disch:=first | omega | (simp only [lenr];try omega)) only [↓amPre,amAll,↓reduceIte,reduceCtorEq,Nat.reduceEqDiff,Nat.reduceBEq,Nat.reduceAdd,Nat.reduceLeDiff,Nat.reduceSub,Nat.reduceMul,Int.reduceToNat,List.size_toArray,tyF,MM,bu0,cbU49,hA]
  refine callP_of (ll) ?_
  simp -dsimp -implicitDefEqProofs (disch:=first | omega | (simp only [lenr];try omega)) only [↓amPre,amAll,↓reduceIte,reduceCtorEq,Nat.reduceEqDiff,Nat.reduceBEq,Nat.reduceAdd,Nat.reduceLeDiff,Nat.reduceSub,Nat.reduceMul,Int.reduceToNat,List.size_toArray,tyF,MM,bu0,cbU49,hA]
  have hs0:([0]:List Nat)=srtS [idL N]:=rfl
  refine awp_loop (fun k st=>k≤3000∧st.fr 7=.i64 k∧st.fr 6=.ref 15 [] 1 0 (2*p.mv.length)∧st.fr 5=.loc 5 [] 0 0∧st.fr 2=.loc 2 [] 0 0∧st.fr 4=.loc 4 [] 0 0∧st.mem 2=some (.pt 3 p.sl)∧st.mem 15=some (itr (letL p.mv.length))∧st.mem 5=some (.pt 4 (fE (Bf.out p.mv (letL p.mv.length) N k) false))∧st.mem 4=some (.pt 4 zS)∧(outF p.mv (letL p.mv.length) N k=(Bf.out p.mv (letL p.mv.length) N k,false)∧k≤(Bf.out p.mv (letL p.mv.length) N k).S.length)) (3000) ?_ ?_
  · simp -dsimp -implicitDefEqProofs (disch:=first | omega | (simp only [lenr];try omega)) only [↓amPre,amAll,↓reduceIte,reduceCtorEq,Nat.reduceEqDiff,Nat.reduceBEq,Nat.reduceAdd,Nat.reduceLeDiff,Nat.reduceSub,Nat.reduceMul,Int.reduceToNat,List.size_toArray,tyF,MM,bu0,cbU49,hA]
    exact ⟨rfl,rfl,rfl,Nat.zero_le _⟩
  rintro k st _ ⟨hk,f7,f6,f5,f2,f4,m2,m15,m5,m4,ek⟩
  obtain ⟨hF,hkl⟩:=ek
  have hk0:=hok k
  have h3k:=Bf.outF_len p.mv (letL p.mv.length) N k
  rw [hF] at h3k
  have hsfl:∀ L:List (List Int),(L.map fun x=>isl x).length=L.length:=fun L=>by simp
  by_cases c1:k<(Bf.out p.mv (letL p.mv.length) N k).S.length
  case neg =>
    have hst:=Bf.outF_stay (mv:=p.mv) (A:=letL p.mv.length) (n:=N) (k:=k) (.inr (by rw [hF];show (Bf.out p.mv (letL p.mv.length) N k).S.length≤k;omega)) (3000 - k)
    have h3k':k≤3000:=by have:(Bf.out p.mv (letL p.mv.length) N k).S.length≤3000:=h3k;omega
    rw [show k+(3000 - k)=3000 by omega,hF] at hst
    rw [hst]
    simp -dsimp -implicitDefEqProofs (disch:=first | omega | (simp only [lenr];try omega)) only [↓amPre,amAll,↓reduceIte,reduceCtorEq,Nat.reduceEqDiff,Nat.reduceBEq,Nat.reduceAdd,Nat.reduceLeDiff,Nat.reduceSub,Nat.reduceMul,Int.reduceToNat,List.size_toArray,tyF,MM,bu0,cbU49,f7,f6,f5,f2,f4,m2,m15,m5,m4,c1]
  have hk3:k<3000:=by have:(Bf.out p.mv (letL p.mv.length) N k).S.length≤3000:=h3k;omega
  have hsk:=hk0.el _ (mem_getD _ k default c1)
  have hinn:=fun j hj=>Bf.inn_ok hN1 hN2 hpn hk0 c1 j hj
  have hing:=fun j=>Bf.inn_grw p.mv (letL p.mv.length) k (Bf.out p.mv (letL p.mv.length) N k) j
  have hdle:=fun j=>Bf.inn_dle (mv:=p.mv) (A:=letL p.mv.length) (e:=Bf.out p.mv (letL p.mv.length) N k) (Bf.out_dle _ _ _ _) (k:=k) (by rw [hk0.lD];exact c1) j
  have hou1:Bf.out p.mv (letL p.mv.length) N (k+1)=inn p.mv (letL p.mv.length) k (Bf.out p.mv (letL p.mv.length) N k) (2*p.mv.length):=by rw [Bf.out,if_pos c1,hA]
  have houF:outF p.mv (letL p.mv.length) N (k+1)=innF p.mv (letL p.mv.length) k (Bf.out p.mv (letL p.mv.length) N k,false) (2*p.mv.length):=by rw [Bf.outF,hF,if_pos c1,hA]
  have hin3:=fun j=>Bf.innF_len (mv:=p.mv) (A:=letL p.mv.length) (k:=k) (s:=(Bf.out p.mv (letL p.mv.length) N k,false)) h3k j
  have hend:=fun (h:(outF p.mv (letL p.mv.length) N (k+1)).2=true)=>Bf.outF_stay (mv:=p.mv) (A:=letL p.mv.length) (n:=N) (k:=k+1) (.inl h) (3000 - (k+1))
  rw [show k+1+(3000 - (k+1))=3000 by omega] at hend
  rw [houF,hou1]
  rw [houF] at hend
  rw [hA] at hinn
  obtain ⟨E,hE⟩:∃ E,E=Bf.out p.mv (letL p.mv.length) N k:=⟨_,rfl⟩
  rw [← hE] at m5 hk0 c1 hsk hinn hing hdle hin3 hend ⊢
  simp -dsimp -implicitDefEqProofs (disch:=first | omega | (simp only [lenr];try omega)) only [↓amPre,amAll,↓reduceIte,reduceCtorEq,Nat.reduceEqDiff,Nat.reduceBEq,Nat.reduceAdd,Nat.reduceLeDiff,Nat.reduceSub,Nat.reduceMul,Int.reduceToNat,List.size_toArray,tyF,MM,bu0,cbU49,f7,f6,f5,f2,f4,m2,m15,m5,m4,c1]
  refine awp_loop (fun j st=>j≤(2*p.mv.length)∧st.fr 8=.i64 j∧st.fr 7=.i64 k∧st.fr 6=.ref 15 [] 1 0 (2*p.mv.length)∧st.fr 5=.loc 5 [] 0 0∧st.fr 2=.loc 2 [] 0 0∧st.fr 4=.loc 4 [] 0 0∧st.mem 2=some (.pt 3 p.sl)∧st.mem 15=some (itr (letL p.mv.length))∧st.mem 5=some (.pt 4 (fE (inn p.mv (letL p.mv.length) k E j) false))∧st.mem 4=some (.pt 4 zS)∧innF p.mv (letL p.mv.length) k (E,false) j=(inn p.mv (letL p.mv.length) k E j,false)) ((2*p.mv.length)) ?_ ?_
  · simp -dsimp -implicitDefEqProofs (disch:=first | omega | (simp only [lenr];try omega)) only [↓amPre,amAll,↓reduceIte,reduceCtorEq,Nat.reduceEqDiff,Nat.reduceBEq,Nat.reduceAdd,Nat.reduceLeDiff,Nat.reduceSub,Nat.reduceMul,Int.reduceToNat,List.size_toArray,tyF,MM,bu0,cbU49,f7,f6,f5,f2,f4,m2,m15,m5,m4]
    exact ⟨Nat.zero_le _,rfl,rfl,rfl⟩
  rintro j st _ ⟨hj,f8,f7,f6,f5,f2,f4,m2,m15,m5,m4,ej⟩
  by_cases c2:j<2*p.mv.length
  case neg =>
    have hje:j=2*p.mv.length:=by omega
    subst hje
    simp -dsimp -implicitDefEqProofs (disch:=first | omega | (simp only [lenr];try omega)) only [↓amPre,amAll,↓reduceIte,reduceCtorEq,Nat.reduceEqDiff,Nat.reduceBEq,Nat.reduceAdd,Nat.reduceLeDiff,Nat.reduceSub,Nat.reduceMul,Int.reduceToNat,List.size_toArray,tyF,MM,bu0,cbU49,f8,f7,f6,f5,f2,f4,m2,m15,m5,m4]
    have:=(hing (2*p.mv.length)).len
    exact ⟨by omega,by omega,ej,by omega⟩
  obtain ⟨hk2,_⟩:=hinn j (by omega)
  have hgj:=hing j
  have hdl:=hdle j k
  have h3j:(inn p.mv (letL p.mv.length) k E j).S.length≤3000:=by have:=hin3 j;rw [ej] at this;exact this
  have hstp:inn p.mv (letL p.mv.length) k E (j+1)=stp p.mv (letL p.mv.length) k (inn p.mv (letL p.mv.length) k E j) j:=rfl
  have hstF:innF p.mv (letL p.mv.length) k (E,false) (j+1)=Bf.stpF p.mv (letL p.mv.length) k (inn p.mv (letL p.mv.length) k E j,false) j:=by rw [← ej];rfl
  have hsty:=fun (h:(innF p.mv (letL p.mv.length) k (E,false) (j+1)).2=true)=>Bf.innF_stay h (2*p.mv.length - (j+1))
  rw [show j+1+(2*p.mv.length - (j+1))=2*p.mv.length by omega] at hsty
  obtain ⟨E2,hE2⟩:∃ E2,E2=inn p.mv (letL p.mv.length) k E j:=⟨_,rfl⟩
  rw [← hE2] at hk2 hgj hdl hstp hstF m5 h3j
  have hkE:=Nat.lt_of_lt_of_le c1 hgj.len
  have hgk:=hgj.get c1
  have hnE2:nbr p.mv E2 k ((letL p.mv.length).getD j 0)=compI (E.S.getD k default) (letP p.mv ((letL p.mv.length).getD j 0)):=by rw [← hgk]
  have hxA:=mem_getD (letL p.mv.length) j 0 (show j<(letL p.mv.length).length by omega)
  have hxok:=Bf.nbr_ok hN1 hN2 hpn hsk hxA
  unfold Bf.stpF at hstF
  rw [if_neg (by simp)] at hstF
  simp only [hnE2] at hstF
  unfold Bf.stp at hstp
  rw [hnE2] at hstp
  have hAj:((letL p.mv.length).map AV.i64).getD j .any=.i64 ((letL p.mv.length).getD j 0):=by rw [getD_eq _ _ _ (by simpa [hA] using c2),List.getElem_map,← getD_eq _ _ 0]
  have hlt:=letL_mem.1 hxA
  have qa:=sApply1 p (E.S.getD k default) ((letL p.mv.length).getD j 0) hd.1 ⟨by rw [hN];have:=hsk.1.1;omega,hsk.1.2⟩ (by unfold letOk;omega)
  have hgS:(E2.S.map fun x=>isl x).getD k .any=isl (E.S.getD k default):=by rw [getD_eq _ _ _ (by simpa using hkE),List.getElem_map,← hgk,getD_eq _ _ _ hkE]
  obtain ⟨x,hxx⟩:∃ x,x=compI (E.S.getD k default) (letP p.mv ((letL p.mv.length).getD j 0)):=⟨_,rfl⟩
  rw [← hxx] at qa hstF hstp hxok
  have hsrt:=Bf.srtS_ok (n:=N) hk2.nd (fun s hs=>(hk2.el s hs).1.1)
  have qi:=searchIndex N E2.S (cst E2.D) (srtS E2.S) false x hsrt hk2.nd hN2 hxok.1.1 h3j
  have hDk:((cst E2.D).map AV.i64).getD k .any=.i64 (E2.D.getD k 0:Nat):=by rw [getD_eq _ _ _ (by rw [List.length_map,cst_len,hk2.lD];exact hkE),List.getElem_map,← getD_eq _ _ 0,Ch.cst_get (by rw [hk2.lD];exact hkE)]
  have hlD:(cst E2.D).length=E2.S.length:=by rw [cst_len,hk2.lD]
  simp -dsimp -implicitDefEqProofs (disch:=first | omega | (simp only [lenr];try omega)) only [↓amPre,amAll,↓reduceIte,reduceCtorEq,Nat.reduceEqDiff,Nat.reduceBEq,Nat.reduceAdd,Nat.reduceLeDiff,Nat.reduceSub,Nat.reduceMul,Int.reduceToNat,List.size_toArray,tyF,MM,bu0,cbU49,f8,f7,f6,f5,f2,f4,m2,m15,m5,m4,hAj,hgS]
  refine callP_frz qa ?_
  simp -dsimp -implicitDefEqProofs (disch:=first | omega | (simp only [lenr];try omega)) only [↓amPre,amAll,↓reduceIte,reduceCtorEq,Nat.reduceEqDiff,Nat.reduceBEq,Nat.reduceAdd,Nat.reduceLeDiff,Nat.reduceSub,Nat.reduceMul,Int.reduceToNat,List.size_toArray,tyF,MM,bu0,cbU49,f8,f7,f6,f5,f2,f4,m2,m15,m5,m4,itrF,e1,islfz,ints_fz]
  refine callP_of (qi) ?_
  by_cases c3:x∈E2.S
  · rw [if_pos c3] at hstF hstp
    have hix:ixK E2.S x=((E2.S.idxOf x:Nat):Int):=by unfold ixK;rw [if_pos c3]
    have hsF:innF p.mv (letL p.mv.length) k (E,false) (j+1)=(inn p.mv (letL p.mv.length) k E (j+1),false):=by rw [hstF,hstp]
    rw [hsF,hstp]
    simp -dsimp -implicitDefEqProofs (disch:=first | omega | (simp only [lenr];try omega)) only [↓amPre,amAll,↓reduceIte,reduceCtorEq,Nat.reduceEqDiff,Nat.reduceBEq,Nat.reduceAdd,Nat.reduceLeDiff,Nat.reduceSub,Nat.reduceMul,Int.reduceToNat,List.size_toArray,tyF,MM,bu0,cbU49,f8,f7,f6,f5,f2,f4,m2,m15,m5,m4,hix]
    exact ⟨c2,by omega⟩
  have hix:ixK E2.S x = -1:=by unfold ixK;rw [if_neg c3]
  rw [if_neg c3] at hstF hstp
  by_cases c4:E2.S.length=3000
  · rw [if_pos c4] at hstF
    have h1:=hsty (by rw [hstF])
    rw [hstF] at h1
    have h2:=hend (by rw [h1])
    rw [h1] at h2
    rw [h2]
    simp -dsimp -implicitDefEqProofs (disch:=first | omega | (simp only [lenr];try omega)) only [↓amPre,amAll,↓reduceIte,reduceCtorEq,Nat.reduceEqDiff,Nat.reduceBEq,Nat.reduceAdd,Nat.reduceLeDiff,Nat.reduceSub,Nat.reduceMul,Int.reduceToNat,List.size_toArray,tyF,MM,bu0,cbU49,f8,f7,f6,f5,f2,f4,m2,m15,m5,m4,hix,hsfl,c4]
  · rw [if_neg c4] at hstF
    have hE3:inn p.mv (letL p.mv.length) k E (j+1)=⟨E2.S++[x],E2.D++[E2.D.getD k 0+1],E2.Pa++[k],E2.J++[j]⟩:=hstp
    have hsF:innF p.mv (letL p.mv.length) k (E,false) (j+1)=(inn p.mv (letL p.mv.length) k E (j+1),false):=by
      rw [hstF,hE3,Bf.stp,hnE2,← hxx,if_neg c3]
    have hwr:IntKind.i64.wrap ((E2.D.getD k 0:Nat)+1:Int)=((E2.D.getD k 0+1:Nat):Int):=by
      have:=hdl (by rw [hk2.lD];exact hkE)
      rw [wrap64_id (by omega)];rfl
    have qd:=searchAdd N E2.S (cst E2.D) (srtS E2.S) false x ((E2.D.getD k 0+1:Nat):Int) hsrt hN2 hxok.1.1 h3j hlD
    have hfE:fT (E2.S++[x]) (cst E2.D++[((E2.D.getD k 0+1:Nat):Int)]) (insS E2.S (srtS E2.S) x) false=fE (inn p.mv (letL p.mv.length) k E (j+1)) false:=by
      rw [hE3,← Bf.srtS_add]
      show fT _ _ _ _=fT _ (cst (E2.D++[E2.D.getD k 0+1])) _ _
      rw [cst_app];rfl
    rw [hfE] at qd
    rw [hsF]
    generalize inn p.mv (letL p.mv.length) k E (j+1)=E3 at *
    have c4':¬ ((E2.S.length:Int)=3000):=by omega
    simp -dsimp -implicitDefEqProofs (disch:=first | omega | (simp only [lenr];try omega)) only [↓amPre,amAll,↓reduceIte,reduceCtorEq,Nat.reduceEqDiff,Nat.reduceBEq,Nat.reduceAdd,Nat.reduceLeDiff,Nat.reduceSub,Nat.reduceMul,Int.reduceToNat,List.size_toArray,tyF,MM,bu0,cbU49,f8,f7,f6,f5,f2,f4,m2,m15,m5,m4,hix,hsfl,c4']
    refine split_go 8 (by decide +kernel) ?_
    have hwr2:IntKind.i64.wrap ((E2.D.getD k 0+1:Nat):Int)=((E2.D.getD k 0+1:Nat):Int):=hwr
    have hDk2:(cst E2.D).getD k 0=((E2.D.getD k 0:Nat):Int):=Ch.cst_get (by rw [hk2.lD];exact hkE)
    simp -dsimp -implicitDefEqProofs (disch:=first | omega | (simp only [lenr];try omega)) only [↓amPre,amAll,↓reduceIte,reduceCtorEq,Nat.reduceEqDiff,Nat.reduceBEq,Nat.reduceAdd,Nat.reduceLeDiff,Nat.reduceSub,Nat.reduceMul,Int.reduceToNat,List.size_toArray,tyF,MM,bu0,cbU49,f8,f7,f6,f5,f2,f4,m2,m15,m5,m4,hDk,hlD,hDk2,hwr,hwr2]
    refine callX_of (qd) ?_
    simp -dsimp -implicitDefEqProofs (disch:=first | omega | (simp only [lenr];try omega)) only [↓amPre,amAll,↓reduceIte,reduceCtorEq,Nat.reduceEqDiff,Nat.reduceBEq,Nat.reduceAdd,Nat.reduceLeDiff,Nat.reduceSub,Nat.reduceMul,Int.reduceToNat,List.size_toArray,tyF,MM,bu0,cbU49,f8,f7,f6,f5,f2,f4,m2,m15,m5,m4]
    exact ⟨c2,by omega⟩
noncomputable def sR (p:Puzz):Ex×Bool:=if puzzOk p then ((outF p.mv (letL p.mv.length) p.n.toNat 3000).1,!(outF p.mv (letL p.mv.length) p.n.toNat 3000).2) else (⟨[],[],[],[]⟩,false)
theorem searchStatesI (p:Puzz) (h:smallP p):SpecAt Try.prog 146 [p.sl] (.tup [fE (sR p).1 (sR p).2,.bl (sR p).2]):=by
  have q0:=sPuzzle p h
  by_cases hd:puzzOk p
  case neg =>
    have hz:sR p=(⟨[],[],[],[]⟩,false):=if_neg hd
    rw [decide_eq_false hd] at q0
    rw [hz]
    refine spec_of_awp_any (M:=MM) (np:=1) (X:=[3,4]) (fz:=false) mixed Try.func146 rfl rfl (by decide) rfl (Nat.le_refl _) (by decide +kernel) (.inl rfl) (by first | trivial | simp only [sigsOk_nil,sigsOk_some,sigsOk_none,sig_tr,sig_pt,sig_mt,sig_agg,List.map_cons,List.map_nil,sig1_tr,sig1_pt,sig1_v,and_self,true_and,List.length_map,List.length_set]) ?_
    simp -dsimp -implicitDefEqProofs (disch:=first | omega | (simp only [lenr];try omega)) only [↓amPre,amAll,↓reduceIte,reduceCtorEq,Nat.reduceEqDiff,Nat.reduceBEq,Nat.reduceAdd,Nat.reduceLeDiff,Nat.reduceSub,Nat.reduceMul,Int.reduceToNat,List.size_toArray,tyF,MM,bu0,cbU49]
    refine callP_of (q0) ?_
    simp -dsimp -implicitDefEqProofs (disch:=first | omega | (simp only [lenr];try omega)) only [↓amPre,amAll,↓reduceIte,reduceCtorEq,Nat.reduceEqDiff,Nat.reduceBEq,Nat.reduceAdd,Nat.reduceLeDiff,Nat.reduceSub,Nat.reduceMul,Int.reduceToNat,List.size_toArray,tyF,MM,bu0,cbU49]
    exact ⟨rfl,rfl⟩
  have hz:sR p=((outF p.mv (letL p.mv.length) p.n.toNat 3000).1,!(outF p.mv (letL p.mv.length) p.n.toNat 3000).2):=if_pos hd
  have hn20:=hd.1.1
  obtain ⟨N,hNN⟩:∃ N:Nat,p.n=N:=⟨p.n.toNat,by omega⟩
  rw [show p.n.toNat=N by omega] at hz
  have q1:=searchFromI p N hNN hd
  rw [decide_eq_true hd] at q0
  have l0:=sIdentity N (by omega)
  have e1:∀ X:List Int,AV.fzL (X.map AV.i64)=X.map AV.i64:=fun X=>by rw [fzL_map,ints_fz]
  rw [← hNN] at l0
  rw [hz]
  generalize (outF p.mv (letL p.mv.length) N 3000).1=e at *
  generalize (!(outF p.mv (letL p.mv.length) N 3000).2)=b at *
  refine spec_of_awp_any (M:=MM) (np:=1) (X:=[3,4]) (fz:=false) mixed Try.func146 rfl rfl (by decide) rfl (Nat.le_refl _) (by decide +kernel) (.inl rfl) (by first | trivial | simp only [sigsOk_nil,sigsOk_some,sigsOk_none,sig_tr,sig_pt,sig_mt,sig_agg,List.map_cons,List.map_nil,sig1_tr,sig1_pt,sig1_v,and_self,true_and,List.length_map,List.length_set]) ?_
  simp -dsimp -implicitDefEqProofs (disch:=first | omega | (simp only [lenr];try omega)) only [↓amPre,amAll,↓reduceIte,reduceCtorEq,Nat.reduceEqDiff,Nat.reduceBEq,Nat.reduceAdd,Nat.reduceLeDiff,Nat.reduceSub,Nat.reduceMul,Int.reduceToNat,List.size_toArray,tyF,MM,bu0,cbU49]
  refine callP_of (q0) ?_
  simp -dsimp -implicitDefEqProofs (disch:=first | omega | (simp only [lenr];try omega)) only [↓amPre,amAll,↓reduceIte,reduceCtorEq,Nat.reduceEqDiff,Nat.reduceBEq,Nat.reduceAdd,Nat.reduceLeDiff,Nat.reduceSub,Nat.reduceMul,Int.reduceToNat,List.size_toArray,tyF,MM,bu0,cbU49]
  refine split_go 6 (by decide +kernel) ?_
  simp -dsimp -implicitDefEqProofs (disch:=first | omega | (simp only [lenr];try omega)) only [↓amPre,amAll,↓reduceIte,reduceCtorEq,Nat.reduceEqDiff,Nat.reduceBEq,Nat.reduceAdd,Nat.reduceLeDiff,Nat.reduceSub,Nat.reduceMul,Int.reduceToNat,List.size_toArray,tyF,MM,bu0,cbU49]
  refine callP_frz l0 ?_
  simp -dsimp -implicitDefEqProofs (disch:=first | omega | (simp only [lenr];try omega)) only [↓amPre,amAll,↓reduceIte,reduceCtorEq,Nat.reduceEqDiff,Nat.reduceBEq,Nat.reduceAdd,Nat.reduceLeDiff,Nat.reduceSub,Nat.reduceMul,Int.reduceToNat,List.size_toArray,tyF,MM,bu0,cbU49,itrF,e1]
  refine callP_of (q1) ?_
  simp -dsimp -implicitDefEqProofs (disch:=first | omega | (simp only [lenr];try omega)) only [↓amPre,amAll,↓reduceIte,reduceCtorEq,Nat.reduceEqDiff,Nat.reduceBEq,Nat.reduceAdd,Nat.reduceLeDiff,Nat.reduceSub,Nat.reduceMul,Int.reduceToNat,List.size_toArray,tyF,MM,bu0,cbU49]
  refine lat_go [[],[],[1],[0],[0,1,2,3]] [[3,4],[2,4],[4],[4],[]] [0,1,2,3,4] (fun c st=>st.fr 4=.loc 4 [] 0 0∧st.fr 2=.loc 2 [] 0 0∧(c 0=true→c 3=false→st.fr 14=.agg [.ref 4 [(0,0)] 1 0 e.S.length,.ref 4 [(0,1)] 1 0 (cst e.D).length,.ref 4 [(0,2)] 1 0 (cst (srtS e.S)).length,.bl b])∧(c 1=true→st.fr 15=.loc 4 [] 0 3)∧(c 2=true→st.fr 16=.bl b)∧(c 4=true→st.fr 3=.bl b)∧st.mem 4=some (bif c 3 then (.pt 4 (.agg [.any,.any,.any,.bl b])) else (.pt 4 (fE e b)))∧st.mem 2=some (bif c 3 then (.pt 4 (fE e b)) else (.pt 4 zS))) (by decide +kernel) ?_ ?_ ?_
  · (try simp -dsimp -implicitDefEqProofs (disch:=first | omega | (simp only [lenr];try omega)) only [↓amPre,amAll,↓reduceIte,reduceCtorEq,Nat.reduceEqDiff,Nat.reduceBEq,Nat.reduceAdd,Nat.reduceLeDiff,Nat.reduceSub,Nat.reduceMul,Int.reduceToNat,List.size_toArray,tyF,MM,bu0,cbU49,latj])
    all_goals (try (repeat' (first | apply And.intro | rfl | (intro _;rfl) | (intro _ _;rfl))))
  · refine ⟨?_,?_,?_,?_,?_,trivial⟩
    all_goals rintro c st R hC hJ hR
    all_goals simp only [latm] at hC
    all_goals rcases Bool.eq_false_or_eq_true (c 3) with hx3 | hx3
    all_goals simp only [hC,hx3,latj] at hJ
    all_goals simp -dsimp -implicitDefEqProofs (disch:=first | omega | (simp only [lenr];try omega)) only [↓amPre,amAll,↓reduceIte,reduceCtorEq,Nat.reduceEqDiff,Nat.reduceBEq,Nat.reduceAdd,Nat.reduceLeDiff,Nat.reduceSub,Nat.reduceMul,Int.reduceToNat,List.size_toArray,tyF,MM,bu0,cbU49,hJ]
    all_goals refine hR _ ?_
    all_goals (simp +contextual -dsimp -implicitDefEqProofs only [amAll,↓reduceIte,reduceCtorEq,Nat.reduceEqDiff,Nat.reduceBEq,Nat.reduceAdd,latj,hC,hJ,hx3];try (repeat' (first | apply And.intro | rfl | (intro _;rfl) | (intro _ _;rfl))))
  intro c st hall hJ
  simp only [latm] at hall
  simp only [hall,latj] at hJ
  obtain ⟨f4,f2,f15,f16,f3,m4,m2⟩:=hJ
  clear hall
  simp -dsimp -implicitDefEqProofs (disch:=first | omega | (simp only [lenr];try omega)) only [↓amPre,amAll,↓reduceIte,reduceCtorEq,Nat.reduceEqDiff,Nat.reduceBEq,Nat.reduceAdd,Nat.reduceLeDiff,Nat.reduceSub,Nat.reduceMul,Int.reduceToNat,List.size_toArray,tyF,MM,bu0,cbU49,f2,f3,m2]
end Sr
end Go.AM
set_option maxRecDepth 8000
namespace Go.AM
namespace Ck
open Go.Proofs
open Ch (PN pt idL cst cst_app cst_len)
open Bf (Ex inn stp nbr idxM nxR nxO byL)
abbrev exA (p:Puzz) (S:List (List Int)) (D:List Int) (M:Value→Option Value) (Pa By:List Int) (Nx:AV):AV:=.pt 9 (.agg [.i64 p.n,.st p.nm,ssl p.mv,sfr S,itr D,.mt true M,itr Pa,itr By,Nx])
abbrev nxT (Nx:List (List Nat)):AV:=.tr 1 (Nx.map fun r=>itr (cst r))
noncomputable def exT (p:Puzz) (e:Ex) (Nx:List (List Nat)):AV:=.pt 9 (.agg [.i64 p.n,.st p.nm,ssl p.mv,sfr e.S,itr (cst e.D),.mt true (idxM e.S),itr (cst e.Pa),itr (byL (letL p.mv.length) e.J),.tr 1 (Nx.map fun r=>itr (cst r))])
def nilPt:AV:=.v (.pointer none)
theorem exploreNo (p:Puzz) (h:smallP p) (hs:¬ (1≤stN p∧stN p≤3000)):SpecAt Try.prog 136 [p.sl] (.tup [nilPt,.bl false]):=by
  have q0:=stateCountI p h
  have q1:=iwithin (stN p) 1 3000
  rw [show within (stN p) 1 3000=false from within_not.2 (by omega)] at q1
  refine spec_of_awp_any (M:=MM) (np:=1) (X:=[4,19,21]) (fz:=false) mixed Try.func136 rfl rfl (by decide) rfl (Nat.le_refl _) (by decide +kernel) (.inl rfl) (by first | trivial | simp only [sigsOk_nil,sigsOk_some,sigsOk_none,sig_tr,sig_pt,sig_mt,sig_agg,List.map_cons,List.map_nil,sig1_tr,sig1_pt,sig1_v,and_self,true_and,List.length_map,List.length_set]) ?_
  simp -dsimp -implicitDefEqProofs (disch:=first | omega | (simp only [lenr];try omega)) only [↓amPre,amAll,↓reduceIte,reduceCtorEq,Nat.reduceEqDiff,Nat.reduceBEq,Nat.reduceAdd,Nat.reduceLeDiff,Nat.reduceSub,Nat.reduceMul,Int.reduceToNat,List.size_toArray,tyF,MM,bu0,cbU49]
  refine callP_of (q0) ?_
  simp -dsimp -implicitDefEqProofs (disch:=first | omega | (simp only [lenr];try omega)) only [↓amPre,amAll,↓reduceIte,reduceCtorEq,Nat.reduceEqDiff,Nat.reduceBEq,Nat.reduceAdd,Nat.reduceLeDiff,Nat.reduceSub,Nat.reduceMul,Int.reduceToNat,List.size_toArray,tyF,MM,bu0,cbU49]
  refine callP_of (q1) ?_
  simp -dsimp -implicitDefEqProofs (disch:=first | omega | (simp only [lenr];try omega)) only [↓amPre,amAll,↓reduceIte,reduceCtorEq,Nat.reduceEqDiff,Nat.reduceBEq,Nat.reduceAdd,Nat.reduceLeDiff,Nat.reduceSub,Nat.reduceMul,Int.reduceToNat,List.size_toArray,tyF,MM,bu0,cbU49]
  try rfl
set_option maxHeartbeats 16000000 in
theorem exploreYes (p:Puzz) (h:smallP p) (hs:1≤stN p∧stN p≤3000):SpecAt Try.prog 136 [p.sl] (.tup [exT p (Bf.out p.mv (letL p.mv.length) p.n.toNat 3000) (nxO p.mv (letL p.mv.length) p.n.toNat 3000),.bl true]):=by
  have q0:=stateCountI p h
  have q1:=iwithin (stN p) 1 3000
  rw [show within (stN p) 1 3000=true from within_iff.2 (by omega)] at q1
  have hd:puzzOk p:=by
    by_cases c:puzzOk p
    · exact c
    · rw [stN,if_neg c] at hs;omega
  have hpn:=puzz_pn hd
  have hn20:=hd.1.1
  have hz:stN p=Ch.ordL (Ch.newL p.n.toNat p.mv):=if_pos hd
  obtain ⟨N,hNN⟩:∃ N:Nat,p.n=N:=⟨p.n.toNat,by omega⟩
  have hNt:p.n.toNat=N:=by omega
  rw [hNt] at hpn hz ⊢
  have hN1:1≤N:=by omega
  have hN2:N≤20:=by omega
  have hA:=letL_len p.mv.length
  have h8:=hd.1.2.1
  have l0:=iidentity N (by omega)
  rw [← hNN] at l0
  have hid:=PN.one hN1 hN2
  have hsm:smallE (idL N):=Bf.PN.small hN2 hid
  have lk0:=stateKeyI (idL N) hsm (by rw [runI_len];omega)
  have hup0:updM (fun _=>none) (.string (skey (idL N))) (.int .i64 0)=idxM [idL N]:=Bf.idxM_upd (S:=[]) (s:=idL N) (fun t ht=>by cases ht) hsm (by simp)
  have ll:=lettersI p.mv.length h8
  have e1:∀ X:List Int,AV.fzL (X.map AV.i64)=X.map AV.i64:=fun X=>by rw [fzL_map,ints_fz]
  have hpsl:p.sl=.agg [.i64 p.n,.st p.nm,ssl p.mv]:=rfl
  refine spec_of_awp_any (M:=MM) (np:=1) (X:=[4,19,21]) (fz:=false) mixed Try.func136 rfl rfl (by decide) rfl (Nat.le_refl _) (by decide +kernel) (.inl rfl) (by first | trivial | simp only [sigsOk_nil,sigsOk_some,sigsOk_none,sig_tr,sig_pt,sig_mt,sig_agg,List.map_cons,List.map_nil,sig1_tr,sig1_pt,sig1_v,and_self,true_and,List.length_map,List.length_set]) ?_
  simp -dsimp -implicitDefEqProofs (disch:=first | omega | (simp only [lenr];try omega)) only [↓amPre,amAll,↓reduceIte,reduceCtorEq,Nat.reduceEqDiff,Nat.reduceBEq,Nat.reduceAdd,Nat.reduceLeDiff,Nat.reduceSub,Nat.reduceMul,Int.reduceToNat,List.size_toArray,tyF,MM,bu0,cbU49]
  refine callP_of (q0) ?_
  simp -dsimp -implicitDefEqProofs (disch:=first | omega | (simp only [lenr];try omega)) only [↓amPre,amAll,↓reduceIte,reduceCtorEq,Nat.reduceEqDiff,Nat.reduceBEq,Nat.reduceAdd,Nat.reduceLeDiff,Nat.reduceSub,Nat.reduceMul,Int.reduceToNat,List.size_toArray,tyF,MM,bu0,cbU49]
  refine callP_of (q1) ?_
  simp -dsimp -implicitDefEqProofs (disch:=first | omega | (simp only [lenr];try omega)) only [↓amPre,amAll,↓reduceIte,reduceCtorEq,Nat.reduceEqDiff,Nat.reduceBEq,Nat.reduceAdd,Nat.reduceLeDiff,Nat.reduceSub,Nat.reduceMul,Int.reduceToNat,List.size_toArray,tyF,MM,bu0,cbU49]
  refine callP_frz l0 ?_
  simp -dsimp -implicitDefEqProofs (disch:=first | omega | (simp only [lenr];try omega)) only [↓amPre,amAll,↓reduceIte,reduceCtorEq,Nat.reduceEqDiff,Nat.reduceBEq,Nat.reduceAdd,Nat.reduceLeDiff,Nat.reduceSub,Nat.reduceMul,Int.reduceToNat,List.size_toArray,tyF,MM,bu0,cbU49,itrF,e1]
  refine any_fin (fun st=>st.fr 1=.loc 1 [] 0 0∧st.fr 5=.loc 32 [] 0 0∧st.mem 1=some (.pt 3 p.sl)∧st.mem 32=some (.pt 9 (.agg [.i64 p.n,.st p.nm,ssl p.mv,sfr [idL N],itr [0],.mt true (idxM [idL N]),itr [0],itr [0],.nilsl]))) ?_ ?_
  · intro hfin
    refine lat_go [[],[],[1],[],[],[],[5],[4,5,6],[4,5,6,7],[],[],[0,1,2,3,4,5,6,7,8,9,10],[0,1,2,3,4,5,6,7,8,9,10,11],[0,1,2,3,4,5,6,7,8,9,10,11,12]] [[11,12,13],[2,11,12,13],[11,12,13],[11,12,13],[7,8,11,12,13],[6,7,8,11,12,13],[7,8,11,12,13],[8,11,12,13],[11,12,13],[11,12,13],[11,12,13],[12,13],[13],[]] [0,1,2,3,4,5,6,7,8,9,10,11,12,13] (fun c st=>st.fr 1=.loc 1 [] 0 0∧st.fr 4=isl (idL N)∧(c 0=true→st.fr 21=p.sl)∧(c 1=true→st.fr 22=isl (idL N))∧(c 2=true→c 12=false→st.fr 23=.ref 23 [] 1 0 1)∧(c 3=true→c 12=false→st.fr 24=.ref 24 [] 1 0 1)∧(c 4=true→c 12=false→st.fr 25=.mref 25 [])∧(c 5=true→st.fr 26=isl (idL N))∧(c 6=true→st.fr 27=.v (.string (skey (idL N))))∧(c 8=true→c 12=false→st.fr 28=.mref 25 [])∧(c 9=true→c 12=false→st.fr 29=.ref 29 [] 1 0 1)∧(c 10=true→c 12=false→st.fr 30=.ref 30 [] 1 0 1)∧(c 11=true→c 12=false→st.fr 31=.agg [.i64 p.n,.st p.nm,ssl p.mv,.ref 23 [] 1 0 1,.ref 24 [] 1 0 1,.mref 25 [],.ref 29 [] 1 0 1,.ref 30 [] 1 0 1,.nilsl])∧(c 12=true→st.fr 32=.loc 32 [] 0 0)∧(c 13=true→st.fr 5=.loc 32 [] 0 0)∧st.mem 1=some (.pt 3 p.sl)∧(c 2=true→c 12=false→st.mem 23=some (sfr [idL N]))∧(c 3=true→c 12=false→st.mem 24=some (itr [0]))∧(c 4=true→c 7=false→st.mem 25=some (.mt true fun _=>none))∧(c 7=true→c 12=false→st.mem 25=some (.mt true (idxM [idL N])))∧(c 9=true→c 12=false→st.mem 29=some (itr [0]))∧(c 10=true→c 12=false→st.mem 30=some (itr [0]))∧(c 12=true→st.mem 32=some (.pt 9 (.agg [.i64 p.n,.st p.nm,ssl p.mv,sfr [idL N],itr [0],.mt true (idxM [idL N]),itr [0],itr [0],.nilsl])))) (by decide +kernel) ?_ ?_ ?_
    · (try simp -dsimp -implicitDefEqProofs (disch:=first | omega | (simp only [lenr];try omega)) only [↓amPre,amAll,↓reduceIte,reduceCtorEq,Nat.reduceEqDiff,Nat.reduceBEq,Nat.reduceAdd,Nat.reduceLeDiff,Nat.reduceSub,Nat.reduceMul,Int.reduceToNat,List.size_toArray,tyF,MM,bu0,cbU49,latj,hup0])
      all_goals (try (repeat' (first | apply And.intro | rfl | (intro _;rfl) | (intro _ _;rfl))))
    · refine ⟨?_,?_,?_,?_,?_,?_,?_,?_,?_,?_,?_,?_,?_,?_,trivial⟩
      all_goals rintro c st R hC hJ hR
      all_goals simp only [latm] at hC
      all_goals simp only [hC,latj] at hJ
      all_goals simp -dsimp -implicitDefEqProofs (disch:=first | omega | (simp only [lenr];try omega)) only [↓amPre,amAll,↓reduceIte,reduceCtorEq,Nat.reduceEqDiff,Nat.reduceBEq,Nat.reduceAdd,Nat.reduceLeDiff,Nat.reduceSub,Nat.reduceMul,Int.reduceToNat,List.size_toArray,tyF,MM,bu0,cbU49,hJ,hup0]
      all_goals (try (refine callP_of lk0 ?_;simp -dsimp -implicitDefEqProofs (disch:=first | omega | (simp only [lenr];try omega)) only [↓amPre,amAll,↓reduceIte,reduceCtorEq,Nat.reduceEqDiff,Nat.reduceBEq,Nat.reduceAdd,Nat.reduceLeDiff,Nat.reduceSub,Nat.reduceMul,Int.reduceToNat,List.size_toArray,tyF,MM,bu0,cbU49,hJ,hup0]))
      all_goals refine hR _ ?_
      all_goals (simp +contextual -dsimp -implicitDefEqProofs only [amAll,↓reduceIte,reduceCtorEq,Nat.reduceEqDiff,Nat.reduceBEq,Nat.reduceAdd,latj,hC,hJ,hup0];try (repeat' (first | apply And.intro | rfl | (intro _;rfl) | (intro _ _;rfl))))
    intro c st hall hJ
    simp only [latm] at hall
    simp only [hall,latj] at hJ
    obtain ⟨f1,f4,f21,f22,f26,f27,f32,f5,m1,m32⟩:=hJ
    clear hall
    exact hfin st ⟨f1,f5,m1,m32⟩
  rintro st ⟨f1,f5,m1,m32⟩
  have hok:=fun k=>(Bf.out_ok hN1 hN2 hpn k).1
  have hle:=fun k=>Bf.out_le hN1 hN2 hpn k
  simp -dsimp -implicitDefEqProofs (disch:=first | omega | (simp only [lenr];try omega)) only [↓amPre,amAll,↓reduceIte,reduceCtorEq,Nat.reduceEqDiff,Nat.reduceBEq,Nat.reduceAdd,Nat.reduceLeDiff,Nat.reduceSub,Nat.reduceMul,Int.reduceToNat,List.size_toArray,tyF,MM,bu0,cbU49,f1,f5,m1,hpsl]
  refine callP_of (ll) ?_
  simp -dsimp -implicitDefEqProofs (disch:=first | omega | (simp only [lenr];try omega)) only [↓amPre,amAll,↓reduceIte,reduceCtorEq,Nat.reduceEqDiff,Nat.reduceBEq,Nat.reduceAdd,Nat.reduceLeDiff,Nat.reduceSub,Nat.reduceMul,Int.reduceToNat,List.size_toArray,tyF,MM,bu0,cbU49,f1,f5,m1,m32,hA]
  skip
  refine awp_loopC 32 8 9 1 [.i64 p.n,.st p.nm,ssl p.mv,sfr [idL N],itr [0],.mt true (idxM [idL N]),itr [0],itr [0],.nilsl] (by simp -dsimp -implicitDefEqProofs (disch:=first | omega | (simp only [lenr];try omega)) only [↓amPre,amAll,↓reduceIte,reduceCtorEq,Nat.reduceEqDiff,Nat.reduceBEq,Nat.reduceAdd,Nat.reduceLeDiff,Nat.reduceSub,Nat.reduceMul,Int.reduceToNat,List.size_toArray,tyF,MM,bu0,cbU49,f1,f5,m1,m32]) (by simp) (by simp) (fun k st=>k≤3000∧st.fr 7=.i64 k∧st.fr 6=.ref 36 [] 1 0 (2*p.mv.length)∧st.fr 5=.loc 32 [] 0 0∧st.fr 1=.loc 1 [] 0 0∧st.mem 1=some (.pt 3 p.sl)∧st.mem 36=some (itr (letL p.mv.length))∧st.mem 32=some (exA p (Bf.out p.mv (letL p.mv.length) N k).S (cst (Bf.out p.mv (letL p.mv.length) N k).D) (idxM (Bf.out p.mv (letL p.mv.length) N k).S) (cst (Bf.out p.mv (letL p.mv.length) N k).Pa) (byL (letL p.mv.length) (Bf.out p.mv (letL p.mv.length) N k).J) (nxT (nxO p.mv (letL p.mv.length) N k)))∧(k≤(Bf.out p.mv (letL p.mv.length) N k).S.length)) (3000) ?_ ?_
  · simp -dsimp -implicitDefEqProofs (disch:=first | omega | (simp only [lenr];try omega)) only [↓amPre,amAll,↓reduceIte,reduceCtorEq,Nat.reduceEqDiff,Nat.reduceBEq,Nat.reduceAdd,Nat.reduceLeDiff,Nat.reduceSub,Nat.reduceMul,Int.reduceToNat,List.size_toArray,tyF,MM,bu0,cbU49,nilC_eq,f1,f5,m1,m32]
    exact ⟨rfl,rfl,Nat.zero_le _⟩
  rintro k st _ ⟨hk,f7,f6,f5,f1,m1,m36,m32,ek⟩
  have hk0:=hok k
  have hlek:=hle k
  by_cases c1:k<(Bf.out p.mv (letL p.mv.length) N k).S.length
  case neg =>
    have hend:Bf.out p.mv (letL p.mv.length) N k=Bf.out p.mv (letL p.mv.length) N 3000∧nxO p.mv (letL p.mv.length) N k=nxO p.mv (letL p.mv.length) N 3000:=by
      have a:=Bf.out_stay (mv:=p.mv) (A:=letL p.mv.length) (n:=N) (k:=k) (by omega) (3000 - k)
      have b:=Bf.nxO_stay (mv:=p.mv) (A:=letL p.mv.length) (n:=N) (k:=k) (by omega) (3000 - k)
      rw [show k+(3000 - k)=3000 by omega] at a b
      exact ⟨a.symm,b.symm⟩
    simp -dsimp -implicitDefEqProofs (disch:=first | omega | (simp only [lenr];try omega)) only [↓amPre,amAll,↓reduceIte,reduceCtorEq,Nat.reduceEqDiff,Nat.reduceBEq,Nat.reduceAdd,Nat.reduceLeDiff,Nat.reduceSub,Nat.reduceMul,Int.reduceToNat,List.size_toArray,tyF,MM,bu0,cbU49,f7,f6,f5,f1,m1,m36,m32]
    rw [hend.1,hend.2]
    rfl
  have hsk:=hk0.el _ (mem_getD _ k default c1)
  have qn:=neighborsI p N ((Bf.out p.mv (letL p.mv.length) N k).S.getD k default) hNN hd.1 hsk.1
  have hnl:=nbL_len p.mv ((Bf.out p.mv (letL p.mv.length) N k).S.getD k default) (Nat.le_refl (2*p.mv.length))
  have hnx1:nxO p.mv (letL p.mv.length) N (k+1)=nxO p.mv (letL p.mv.length) N k++[nxR p.mv (letL p.mv.length) k (Bf.out p.mv (letL p.mv.length) N k) (2*p.mv.length)]:=by rw [nxO,if_pos c1,hA]
  have hou1:Bf.out p.mv (letL p.mv.length) N (k+1)=inn p.mv (letL p.mv.length) k (Bf.out p.mv (letL p.mv.length) N k) (2*p.mv.length):=by rw [Bf.out,if_pos c1,hA]
  have hinn:=fun j hj=>Bf.inn_ok hN1 hN2 hpn hk0 c1 j hj
  have hing:=fun j=>Bf.inn_grw p.mv (letL p.mv.length) k (Bf.out p.mv (letL p.mv.length) N k) j
  have hinl:=fun j hj=>Bf.inn_le hN1 hN2 hpn hk0 c1 (j:=j) hj
  have hngt:=fun j hj=>nbL_get p.mv ((Bf.out p.mv (letL p.mv.length) N k).S.getD k default) (k:=j) hj
  rw [hA] at qn hngt hinn hinl
  rw [hou1,hnx1]
  obtain ⟨Nx,hNx⟩:∃ Nx,Nx=nxO p.mv (letL p.mv.length) N k:=⟨_,rfl⟩
  have hnxl:Nx.length=k:=by rw [hNx];exact Bf.nxO_lt ek
  rw [← hNx] at m32 ⊢
  obtain ⟨E,hE⟩:∃ E,E=Bf.out p.mv (letL p.mv.length) N k:=⟨_,rfl⟩
  rw [← hE] at m32 hk0 hlek c1 hsk qn hnl hinn hing hinl hngt ⊢
  obtain ⟨A,hAA⟩:∃ A,A=letL p.mv.length:=⟨_,rfl⟩
  rw [← hAA] at hA m36 m32 hinn hing hinl hngt ⊢
  obtain ⟨nb,hnb⟩:∃ nb,nb=nbL p.mv (E.S.getD k default) (2*p.mv.length):=⟨_,rfl⟩
  rw [← hnb] at qn hnl hngt
  have hfz:∀ L:List (List Int),AV.fzL (L.map fun x=>isl x)=L.map fun x=>isl x:=fun L=>by rw [fzL_map,islfz]
  simp -dsimp -implicitDefEqProofs (disch:=first | omega | (simp only [lenr];try omega)) only [↓amPre,amAll,↓reduceIte,reduceCtorEq,Nat.reduceEqDiff,Nat.reduceBEq,Nat.reduceAdd,Nat.reduceLeDiff,Nat.reduceSub,Nat.reduceMul,Int.reduceToNat,List.size_toArray,tyF,MM,bu0,cbU49,f7,f6,f5,f1,m1,m36,m32]
  refine callP_frz qn ?_
  have hnb2:AV.fz (sfr nb)=ssl nb:=by rw [AV.fz,hfz]
  simp -dsimp -implicitDefEqProofs (disch:=first | omega | (simp only [lenr];try omega)) only [↓amPre,amAll,↓reduceIte,reduceCtorEq,Nat.reduceEqDiff,Nat.reduceBEq,Nat.reduceAdd,Nat.reduceLeDiff,Nat.reduceSub,Nat.reduceMul,Int.reduceToNat,List.size_toArray,tyF,MM,bu0,cbU49,f7,f6,f5,f1,m1,m36,m32,hnb2,hnl]
  refine awp_loopN 8 138 1 (by simp -dsimp -implicitDefEqProofs (disch:=first | omega | (simp only [lenr];try omega)) only [↓amPre,amAll,↓reduceIte,reduceCtorEq,Nat.reduceEqDiff,Nat.reduceBEq,Nat.reduceAdd,Nat.reduceLeDiff,Nat.reduceSub,Nat.reduceMul,Int.reduceToNat,List.size_toArray,tyF,MM,bu0,cbU49,f7,f6,f5,f1,m1,m36,m32]) (by decide) (fun j st=>j≤(2*p.mv.length)∧st.fr 56=.i64 j∧st.fr 55=.i64 (2*p.mv.length:Nat)∧st.fr 54=ssl nb∧st.fr 8=.ref 138 [] 1 0 j∧st.fr 7=.i64 k∧st.fr 6=.ref 36 [] 1 0 (2*p.mv.length)∧st.fr 5=.loc 32 [] 0 0∧st.fr 1=.loc 1 [] 0 0∧st.mem 138=some (itr (cst (nxR p.mv A k E j)))∧st.mem 1=some (.pt 3 p.sl)∧st.mem 36=some (itr A)∧st.mem 32=some (exA p (inn p.mv A k E j).S (cst (inn p.mv A k E j).D) (idxM (inn p.mv A k E j).S) (cst (inn p.mv A k E j).Pa) (byL A (inn p.mv A k E j).J) (nxT Nx))) ((2*p.mv.length)) ?_ ?_
  · simp -dsimp -implicitDefEqProofs (disch:=first | omega | (simp only [lenr];try omega)) only [↓amPre,amAll,↓reduceIte,reduceCtorEq,Nat.reduceEqDiff,Nat.reduceBEq,Nat.reduceAdd,Nat.reduceLeDiff,Nat.reduceSub,Nat.reduceMul,Int.reduceToNat,List.size_toArray,tyF,MM,bu0,cbU49,f7,f6,f5,f1,m1,m36,m32,nilAs_eq]
    exact ⟨Nat.zero_le _,rfl,rfl,rfl⟩
  rintro j st _ ⟨hj,f56,f55,f54,f8,f7,f6,f5,f1,m138,m1,m36,m32⟩
  have hrl:=Bf.nxR_len p.mv A k E j
  by_cases c2:j<2*p.mv.length
  case neg =>
    have hje:j=2*p.mv.length:=by omega
    subst hje
    have hrl2:(cst (nxR p.mv A k E (2*p.mv.length))).length=2*p.mv.length:=by rw [cst_len,hrl]
    simp -dsimp -implicitDefEqProofs (disch:=first | omega | (simp only [lenr];try omega)) only [↓amPre,amAll,↓reduceIte,reduceCtorEq,Nat.reduceEqDiff,Nat.reduceBEq,Nat.reduceAdd,Nat.reduceLeDiff,Nat.reduceSub,Nat.reduceMul,Int.reduceToNat,List.size_toArray,tyF,MM,bu0,cbU49,f56,f55,f54,f8,f7,f6,f5,f1,m138,m1,m36,m32,hrl2]
    have:=(hing (2*p.mv.length)).len
    exact ⟨by omega,by omega,by omega⟩
  obtain ⟨hk2,_⟩:=hinn j (by omega)
  have hk3:=(hinn (j+1) (by omega)).1
  have hgj:=hing j
  have hlj:=hinl j (by omega)
  have hlj1:=hinl (j+1) (by omega)
  have hx:=hngt j c2
  have hstp:inn p.mv A k E (j+1)=stp p.mv A k (inn p.mv A k E j) j:=rfl
  have hrs:nxR p.mv A k E (j+1)=nxR p.mv A k E j++[(inn p.mv A k E (j+1)).S.idxOf (nbr p.mv E k (A.getD j 0))]:=rfl
  obtain ⟨E3,hE3⟩:∃ E3,E3=inn p.mv A k E (j+1):=⟨_,rfl⟩
  rw [← hE3] at hk3 hlj1 hstp hrs ⊢
  obtain ⟨E2,hE2⟩:∃ E2,E2=inn p.mv A k E j:=⟨_,rfl⟩
  rw [← hE2] at hk2 hgj hlj hstp m32
  have hkE:=Nat.lt_of_lt_of_le c1 hgj.len
  have hgk:=hgj.get c1
  have hnE:nbr p.mv E k (A.getD j 0)=compI (E.S.getD k default) (letP p.mv (A.getD j 0)):=rfl
  have hnE2:nbr p.mv E2 k (A.getD j 0)=compI (E.S.getD k default) (letP p.mv (A.getD j 0)):=by rw [← hgk]
  rw [hnE] at hrs
  have hxA:A.getD j 0∈letL p.mv.length:=by rw [← hAA];exact mem_getD A j 0 (by omega)
  have hxok:=Bf.nbr_ok hN1 hN2 hpn hsk hxA
  have hxs:=Bf.PN.small hN2 hxok.1
  obtain ⟨rw1,hrw1⟩:∃ r,r=nxR p.mv A k E j:=⟨_,rfl⟩
  rw [← hrw1] at hrl hrs m138
  obtain ⟨rw3,hrw3⟩:∃ r,r=nxR p.mv A k E (j+1):=⟨_,rfl⟩
  rw [← hrw3] at hrs ⊢
  unfold Bf.stp at hstp
  rw [hnE2] at hstp
  have hgx:nb.getD j default=compI (E.S.getD k default) (letP p.mv (A.getD j 0)):=hx
  have hgl:(nb.map fun x=>isl x).getD j .any=isl (compI (E.S.getD k default) (letP p.mv (A.getD j 0))):=by rw [getD_eq _ _ _ (by simpa [hnl] using c2),List.getElem_map,← hgx,getD_eq _ _ _ (by rw [hnl];exact c2)]
  obtain ⟨x,hxx⟩:∃ x,x=compI (E.S.getD k default) (letP p.mv (A.getD j 0)):=⟨_,rfl⟩
  rw [← hxx] at hgl hstp hrs hxok hxs
  have qk:=stateKeyI x hxs (by have:=hxok.1.1;omega)
  have hlk:=Bf.idxM_at (S:=E2.S) (s:=x) (fun t ht=>Bf.PN.small hN2 (hk2.el t ht).1) hxs
  have hAj:(A.map AV.i64).getD j .any=.i64 (A.getD j 0):=by rw [getD_eq _ _ _ (by simpa [hA] using c2),List.getElem_map,← getD_eq _ _ 0]
  have hDk:((cst E2.D).map AV.i64).getD k .any=.i64 (E2.D.getD k 0:Nat):=by rw [getD_eq _ _ _ (by rw [List.length_map,cst_len,hk2.lD];exact hkE),List.getElem_map,← getD_eq _ _ 0,Ch.cst_get (by rw [hk2.lD];exact hkE)]
  have hlD:(cst E2.D).length=E2.S.length:=by rw [cst_len,hk2.lD]
  have hlP:(cst E2.Pa).length=E2.S.length:=by rw [cst_len,hk2.lP]
  have hlJ:(byL A E2.J).length=E2.S.length:=by rw [Bf.byL_len,hk2.lJ]
  have hbS:=hlj
  by_cases c3:x∈E2.S
  · rw [if_pos c3] at hstp hlk
    subst hstp
    have hre:cst rw1++[((E3.S.idxOf x:Nat):Int)]=cst rw3:=by rw [hrs,cst_app];rfl
    have hlr1:(cst rw1).length=j:=by rw [cst_len,hrl]
    simp -dsimp -implicitDefEqProofs (disch:=first | omega | (simp only [lenr];try omega)) only [↓amPre,amAll,↓reduceIte,reduceCtorEq,Nat.reduceEqDiff,Nat.reduceBEq,Nat.reduceAdd,Nat.reduceLeDiff,Nat.reduceSub,Nat.reduceMul,Int.reduceToNat,List.size_toArray,tyF,MM,bu0,cbU49,f56,f55,f54,f8,f7,f6,f5,f1,m138,m1,m36,m32,hgl,hnl]
    refine callP_of (qk) ?_
    simp -dsimp -implicitDefEqProofs (disch:=first | omega | (simp only [lenr];try omega)) only [↓amPre,amAll,↓reduceIte,reduceCtorEq,Nat.reduceEqDiff,Nat.reduceBEq,Nat.reduceAdd,Nat.reduceLeDiff,Nat.reduceSub,Nat.reduceMul,Int.reduceToNat,List.size_toArray,tyF,MM,bu0,cbU49,f56,f55,f54,f8,f7,f6,f5,f1,m138,m1,m36,m32,hlk]
    exact ⟨c2,by omega,by rw [hlr1],by rw [← hre]⟩
  · rw [if_neg c3] at hstp hlk
    have hup:=Bf.idxM_upd (S:=E2.S) (s:=x) (fun t ht=>Bf.PN.small hN2 (hk2.el t ht).1) hxs c3
    have hE3S:E3.S=E2.S++[x]:=by rw [hstp]
    have hE3D:cst E2.D++[((E2.D.getD k 0+1:Nat):Int)]=cst E3.D:=by rw [hstp,cst_app];rfl
    have hE3P:cst E2.Pa++[(k:Int)]=cst E3.Pa:=by rw [hstp,cst_app];rfl
    have hE3J:byL A E2.J++[A.getD j 0]=byL A E3.J:=by rw [hstp];exact (Bf.byL_app A (by rw [hk2.lJ];omega) j).symm
    have hE3l:E3.S.length=E2.S.length+1:=by rw [hE3S];simp
    have hlD3:(cst E3.D).length=E2.S.length+1:=by rw [cst_len,hk3.lD,hE3l]
    have hlP3:(cst E3.Pa).length=E2.S.length+1:=by rw [cst_len,hk3.lP,hE3l]
    have hlJ3:(byL A E3.J).length=E2.S.length+1:=by rw [Bf.byL_len,hk3.lJ,hE3l]
    rw [← hE3S] at hup
    have hSS:(E2.S.map fun x=>isl x)++[isl x]=E3.S.map fun x=>isl x:=by rw [hE3S];simp
    have hix:E3.S.idxOf x=E2.S.length:=by rw [hE3S,List.idxOf_append,if_neg c3];simp
    have hre:cst rw1++[((E2.S.length:Nat):Int)]=cst rw3:=by rw [hrs,hix,cst_app];rfl
    have hlr1:(cst rw1).length=j:=by rw [cst_len,hrl]
    have ql:=lenSS E2.S
    clear hstp
    have hDle:=Bf.inn_dle (mv:=p.mv) (A:=A) (e:=E) (fun i hi=>by rw [hE];rw [hE] at hi;exact Bf.out_dle _ _ _ _ i hi) (k:=k) (by rw [hk0.lD];exact c1) j k (by rw [← hE2,hk2.lD];exact hkE)
    rw [← hE2] at hDle
    have hwr:IntKind.i64.wrap ((E2.D.getD k 0:Nat)+1:Int)=((E2.D.getD k 0+1:Nat):Int):=by rw [wrap64_id (by omega)];rfl
    simp -dsimp -implicitDefEqProofs (disch:=first | omega | (simp only [lenr];try omega)) only [↓amPre,amAll,↓reduceIte,reduceCtorEq,Nat.reduceEqDiff,Nat.reduceBEq,Nat.reduceAdd,Nat.reduceLeDiff,Nat.reduceSub,Nat.reduceMul,Int.reduceToNat,List.size_toArray,tyF,MM,bu0,cbU49,f56,f55,f54,f8,f7,f6,f5,f1,m138,m1,m36,m32,hgl,hnl]
    refine callP_of (qk) ?_
    simp -dsimp -implicitDefEqProofs (disch:=first | omega | (simp only [lenr];try omega)) only [↓amPre,amAll,↓reduceIte,reduceCtorEq,Nat.reduceEqDiff,Nat.reduceBEq,Nat.reduceAdd,Nat.reduceLeDiff,Nat.reduceSub,Nat.reduceMul,Int.reduceToNat,List.size_toArray,tyF,MM,bu0,cbU49,f56,f55,f54,f8,f7,f6,f5,f1,m138,m1,m36,m32,hlk,islfz]
    refine callP_of (ql) ?_
    simp -dsimp -implicitDefEqProofs (disch:=first | omega | (simp only [lenr];try omega)) only [↓amPre,amAll,↓reduceIte,reduceCtorEq,Nat.reduceEqDiff,Nat.reduceBEq,Nat.reduceAdd,Nat.reduceLeDiff,Nat.reduceSub,Nat.reduceMul,Int.reduceToNat,List.size_toArray,tyF,MM,bu0,cbU49,f56,f55,f54,f8,f7,f6,f5,f1,m138,m1,m36,m32,hup,hSS,hE3l]
    refine lat_go [[],[],[1],[1,2],[1,2,3],[],[5],[5,6],[5,6,7],[],[5,6,7,8,9],[5,6,7,8,9,10],[5,6,7,8,9,10,11],[5,6,7,8,9,10,11,12],[1,2,3,4,5,6,7,8,9,10,11,12,13],[0,1,2,3,4,5,6,7,8,9,10,11,12,13,14],[0,1,2,3,4,5,6,7,8,9,10,11,12,13,14,15],[0,1,2,3,4,5,6,7,8,9,10,11,12,13,14,15,16]] [[15,16,17],[2,3,4,14,15,16,17],[3,4,14,15,16,17],[4,14,15,16,17],[14,15,16,17],[6,7,8,10,11,12,13,14,15,16,17],[7,8,10,11,12,13,14,15,16,17],[8,10,11,12,13,14,15,16,17],[10,11,12,13,14,15,16,17],[10,11,12,13,14,15,16,17],[11,12,13,14,15,16,17],[12,13,14,15,16,17],[13,14,15,16,17],[14,15,16,17],[15,16,17],[16,17],[17],[]] [0,1,2,3,4,5,6,7,8,9,10,11,12,13,14,15,16,17] (fun c st=>st.fr 56=.i64 j∧st.fr 55=.i64 (2*p.mv.length:Nat)∧st.fr 54=ssl nb∧st.fr 8=.ref 138 [] 1 0 j∧st.fr 7=.i64 k∧st.fr 6=.ref 36 [] 1 0 (2*p.mv.length)∧st.fr 5=.loc 32 [] 0 0∧st.fr 1=.loc 1 [] 0 0∧st.fr 9=.i64 j∧st.fr 12=.i64 (E2.S.length:Nat)∧(c 0=true→st.fr 95=.loc 32 [] 0 0)∧(c 1=true→st.fr 96=.loc 32 [] 0 0)∧(c 2=true→st.fr 97=.loc 32 [] 0 0)∧(c 3=true→st.fr 98=.loc 32 [] 0 4)∧(c 4=true→c 14=false→st.fr 99=.ref 32 [(0,4)] 1 0 E2.S.length)∧(c 5=true→st.fr 100=.loc 32 [] 0 0)∧(c 6=true→st.fr 101=.loc 32 [] 0 0)∧(c 7=true→st.fr 102=.loc 32 [] 0 4)∧(c 8=true→c 14=false→st.fr 103=.ref 32 [(0,4)] 1 0 E2.S.length)∧(c 9=true→st.fr 104=.i64 k)∧(c 10=true→c 14=false→st.fr 105=.loc 32 [(0,4)] k 0)∧(c 11=true→st.fr 106=.i64 (E2.D.getD k 0:Nat))∧(c 12=true→st.fr 107=.i64 ((E2.D.getD k 0+1:Nat):Int))∧(c 13=true→st.fr 108=.ref 108 [] 1 0 1)∧(c 14=true→c 17=false→st.fr 109=.ref 109 [] 1 0 (E2.S.length+1))∧(c 15=true→st.fr 110=.loc 32 [] 0 0)∧(c 16=true→st.fr 111=.loc 32 [] 0 4)∧st.mem 138=some (itr (cst rw1))∧st.mem 1=some (.pt 3 p.sl)∧st.mem 36=some (itr A)∧st.mem 32=some (bif c 17 then (exA p E3.S (cst E3.D) (idxM E3.S) (cst E2.Pa) (byL A E2.J) (nxT Nx)) else (bif c 14 then (.pt 9 (.agg [.i64 p.n,.st p.nm,ssl p.mv,sfr E3.S,.any,.mt true (idxM E3.S),itr (cst E2.Pa),itr (byL A E2.J),nxT Nx])) else (exA p E3.S (cst E2.D) (idxM E3.S) (cst E2.Pa) (byL A E2.J) (nxT Nx))))∧(c 13=true→st.mem 108=some (itr [((E2.D.getD k 0+1:Nat):Int)]))∧(c 14=true→c 17=false→st.mem 109=some (itr (cst E3.D)))) (by decide +kernel) ?_ ?_ ?_
    · (try simp -dsimp -implicitDefEqProofs (disch:=first | omega | (simp only [lenr];try omega)) only [↓amPre,amAll,↓reduceIte,reduceCtorEq,Nat.reduceEqDiff,Nat.reduceBEq,Nat.reduceAdd,Nat.reduceLeDiff,Nat.reduceSub,Nat.reduceMul,Int.reduceToNat,List.size_toArray,tyF,MM,bu0,cbU49,latj,hDk,hlD,hlD3,hE3D,hwr,f56,f55,f54,f8,f7,f6,f5,f1,m138,m1,m36,m32])
      all_goals (try (repeat' (first | apply And.intro | rfl | (intro _;rfl) | (intro _ _;rfl))))
    · refine ⟨?_,?_,?_,?_,?_,?_,?_,?_,?_,?_,?_,?_,?_,?_,?_,?_,?_,?_,trivial⟩
      all_goals rintro c st R hC hJ hR
      all_goals simp only [latm] at hC
      all_goals rcases Bool.eq_false_or_eq_true (c 14) with hx14 | hx14
      all_goals simp only [hC,hx14,latj] at hJ
      all_goals simp -dsimp -implicitDefEqProofs (disch:=first | omega | (simp only [lenr];try omega)) only [↓amPre,amAll,↓reduceIte,reduceCtorEq,Nat.reduceEqDiff,Nat.reduceBEq,Nat.reduceAdd,Nat.reduceLeDiff,Nat.reduceSub,Nat.reduceMul,Int.reduceToNat,List.size_toArray,tyF,MM,bu0,cbU49,hJ,hDk,hlD,hlD3,hE3D,hwr]
      all_goals refine hR _ ?_
      all_goals (simp +contextual -dsimp -implicitDefEqProofs only [amAll,↓reduceIte,reduceCtorEq,Nat.reduceEqDiff,Nat.reduceBEq,Nat.reduceAdd,latj,hC,hJ,hx14,hDk,hlD,hlD3,hE3D,hwr];try (repeat' (first | apply And.intro | rfl | (intro _;rfl) | (intro _ _;rfl))))
    intro c st hall hJ
    simp only [latm] at hall
    simp only [hall,latj] at hJ
    obtain ⟨f56,f55,f54,f8,f7,f6,f5,f1,f9,f12,f95,f96,f97,f98,f100,f101,f102,f104,f106,f107,f108,f110,f111,m138,m1,m36,m32,m108⟩:=hJ
    clear hall
    simp -dsimp -implicitDefEqProofs (disch:=first | omega | (simp only [lenr];try omega)) only [↓amPre,amAll,↓reduceIte,reduceCtorEq,Nat.reduceEqDiff,Nat.reduceBEq,Nat.reduceAdd,Nat.reduceLeDiff,Nat.reduceSub,Nat.reduceMul,Int.reduceToNat,List.size_toArray,tyF,MM,bu0,cbU49,f1,f5,f6,f7,f8,f9,f12,f54,f55,f56,m1,m32,m36,m138,hlP,hE3P,hlP3]
    refine lat_go [[],[],[1],[1,2],[1,2,3],[],[],[5,6],[5,6,7],[5,6,7,8],[1,2,3,4,5,6,7,8,9],[0,1,2,3,4,5,6,7,8,9,10],[0,1,2,3,4,5,6,7,8,9,10,11],[0,1,2,3,4,5,6,7,8,9,10,11,12]] [[11,12,13],[2,3,4,10,11,12,13],[3,4,10,11,12,13],[4,10,11,12,13],[10,11,12,13],[7,8,9,10,11,12,13],[7,8,9,10,11,12,13],[8,9,10,11,12,13],[9,10,11,12,13],[10,11,12,13],[11,12,13],[12,13],[13],[]] [0,1,2,3,4,5,6,7,8,9,10,11,12,13] (fun c st=>st.fr 56=.i64 j∧st.fr 55=.i64 (2*p.mv.length:Nat)∧st.fr 54=ssl nb∧st.fr 8=.ref 138 [] 1 0 j∧st.fr 7=.i64 k∧st.fr 6=.ref 36 [] 1 0 (2*p.mv.length)∧st.fr 5=.loc 32 [] 0 0∧st.fr 1=.loc 1 [] 0 0∧st.fr 9=.i64 j∧st.fr 12=.i64 (E2.S.length:Nat)∧(c 0=true→st.fr 122=.loc 32 [] 0 0)∧(c 1=true→st.fr 123=.loc 32 [] 0 0)∧(c 2=true→st.fr 124=.loc 32 [] 0 0)∧(c 3=true→st.fr 125=.loc 32 [] 0 7)∧(c 4=true→c 10=false→st.fr 126=.ref 32 [(0,7)] 1 0 E2.S.length)∧(c 5=true→st.fr 127=.ref 36 [] 1 0 (2*p.mv.length))∧(c 6=true→st.fr 128=.i64 j)∧(c 7=true→st.fr 129=.loc 36 [] j 0)∧(c 8=true→st.fr 130=.i64 (A.getD j 0))∧(c 9=true→st.fr 131=.ref 131 [] 1 0 1)∧(c 10=true→c 13=false→st.fr 132=.ref 132 [] 1 0 (E2.S.length+1))∧(c 11=true→st.fr 133=.loc 32 [] 0 0)∧(c 12=true→st.fr 134=.loc 32 [] 0 7)∧st.mem 138=some (itr (cst rw1))∧st.mem 1=some (.pt 3 p.sl)∧st.mem 36=some (itr A)∧st.mem 32=some (bif c 13 then (exA p E3.S (cst E3.D) (idxM E3.S) (cst E3.Pa) (byL A E3.J) (nxT Nx)) else (bif c 10 then (.pt 9 (.agg [.i64 p.n,.st p.nm,ssl p.mv,sfr E3.S,itr (cst E3.D),.mt true (idxM E3.S),itr (cst E3.Pa),.any,nxT Nx])) else (exA p E3.S (cst E3.D) (idxM E3.S) (cst E3.Pa) (byL A E2.J) (nxT Nx))))∧(c 9=true→st.mem 131=some (itr [A.getD j 0]))∧(c 10=true→c 13=false→st.mem 132=some (itr (byL A E3.J)))) (by decide +kernel) ?_ ?_ ?_
    · (try simp -dsimp -implicitDefEqProofs (disch:=first | omega | (simp only [lenr];try omega)) only [↓amPre,amAll,↓reduceIte,reduceCtorEq,Nat.reduceEqDiff,Nat.reduceBEq,Nat.reduceAdd,Nat.reduceLeDiff,Nat.reduceSub,Nat.reduceMul,Int.reduceToNat,List.size_toArray,tyF,MM,bu0,cbU49,latj,hAj,hA,hlJ,hlJ3,hE3J,f1,f5,f6,f7,f8,f9,f12,f54,f55,f56,m1,m32,m36,m138])
      all_goals (try (repeat' (first | apply And.intro | rfl | (intro _;rfl) | (intro _ _;rfl))))
    · refine ⟨?_,?_,?_,?_,?_,?_,?_,?_,?_,?_,?_,?_,?_,?_,trivial⟩
      all_goals rintro c st R hC hJ hR
      all_goals simp only [latm] at hC
      all_goals rcases Bool.eq_false_or_eq_true (c 10) with hx10 | hx10
      all_goals simp only [hC,hx10,latj] at hJ
      all_goals simp -dsimp -implicitDefEqProofs (disch:=first | omega | (simp only [lenr];try omega)) only [↓amPre,amAll,↓reduceIte,reduceCtorEq,Nat.reduceEqDiff,Nat.reduceBEq,Nat.reduceAdd,Nat.reduceLeDiff,Nat.reduceSub,Nat.reduceMul,Int.reduceToNat,List.size_toArray,tyF,MM,bu0,cbU49,hJ,hAj,hA,hlJ,hlJ3,hE3J]
      all_goals refine hR _ ?_
      all_goals (simp +contextual -dsimp -implicitDefEqProofs only [amAll,↓reduceIte,reduceCtorEq,Nat.reduceEqDiff,Nat.reduceBEq,Nat.reduceAdd,latj,hC,hJ,hx10,hAj,hA,hlJ,hlJ3,hE3J];try (repeat' (first | apply And.intro | rfl | (intro _;rfl) | (intro _ _;rfl))))
    intro c st hall hJ
    simp only [latm] at hall
    simp only [hall,latj] at hJ
    obtain ⟨f56,f55,f54,f8,f7,f6,f5,f1,f9,f12,f122,f123,f124,f125,f127,f128,f129,f130,f131,f133,f134,m138,m1,m36,m32,m131⟩:=hJ
    clear hall
    simp -dsimp -implicitDefEqProofs (disch:=first | omega | (simp only [lenr];try omega)) only [↓amPre,amAll,↓reduceIte,reduceCtorEq,Nat.reduceEqDiff,Nat.reduceBEq,Nat.reduceAdd,Nat.reduceLeDiff,Nat.reduceSub,Nat.reduceMul,Int.reduceToNat,List.size_toArray,tyF,MM,bu0,cbU49,f1,f5,f6,f7,f8,f9,f12,f54,f55,f56,m1,m32,m36,m138,hlr1]
    exact ⟨c2,by omega,by rw [← hre]⟩
end Ck
end Go.AM
set_option maxRecDepth 8000
namespace Go.AM
namespace Sr
open Go.Proofs
open Ch (PN pt idL cst cst_app cst_len)
open Bf (Ex nxO lsK lsN idxM byL)
open Ck (sfr exT exA nxT stN)
theorem stN_pos {p:Puzz} (hd:puzzOk p):1≤stN p:=by
  have hpn:=Ck.puzz_pn hd
  have h1:=hd.1.1
  have hP:=Ch.newL_part (n:=p.n.toNat) (by omega) (by omega) hpn
  rw [stN,if_pos hd]
  exact (Ch.ord_fac (by omega) (by omega) _ 0 hP.good).1
theorem sR_yes {p:Puzz} (h:1≤stN p∧stN p≤3000):puzzOk p∧sR p=(Bf.out p.mv (letL p.mv.length) p.n.toNat 3000,true):=by
  have hd:puzzOk p:=by
    by_cases c:puzzOk p
    · exact c
    · rw [stN,if_neg c] at h;omega
  have hpn:=Ck.puzz_pn hd
  have h1:=hd.1.1
  have hw:=Bf.outF_whole (n:=p.n.toNat) (by omega) (by omega) hpn
  have hz:stN p=Ch.ordL (Ch.newL p.n.toNat p.mv):=if_pos hd
  have hF:=hw.2 (by omega)
  refine ⟨hd,?_⟩
  rw [sR,if_pos hd,Bf.outF_f 3000 hF,hF];rfl
theorem sR_no {p:Puzz} (h:¬ (1≤stN p∧stN p≤3000)):(sR p).2=false:=by
  by_cases c:puzzOk p
  · have hpn:=Ck.puzz_pn c
    have h1:=c.1.1
    have hw:=Bf.outF_whole (n:=p.n.toNat) (by omega) (by omega) hpn
    have hz:stN p=Ch.ordL (Ch.newL p.n.toNat p.mv):=if_pos c
    have hp:=stN_pos c
    rw [sR,if_pos c]
    cases hb:(Bf.outF p.mv (letL p.mv.length) p.n.toNat 3000).2 with
    | true=>rfl
    | false=>have:=hw.1 hb;omega
  · rw [sR,if_neg c]
theorem sR_ok {p:Puzz} (hd:puzzOk p):Bf.Ok p.n.toNat p.mv (Bf.out p.mv (letL p.mv.length) p.n.toNat 3000):=by
  have h1:=hd.1.1
  exact (Bf.out_ok (by omega) (by omega) (Ck.puzz_pn hd) 3000).1
theorem sR_len {p:Puzz} (hd:puzzOk p):(Bf.out p.mv (letL p.mv.length) p.n.toNat 3000).S.length≤stN p:=by
  have h1:=hd.1.1
  have h2:1≤p.n.toNat:=by omega
  have h3:p.n.toNat≤20:=by omega
  rw [stN,if_pos hd]
  exact Bf.out_le h2 h3 (Ck.puzz_pn hd) 3000
noncomputable def ssR (p:Puzz):Int:=if (sR p).2=true then lsK (sR p).1.S ((sR p).1.S.length - 1) else -1
theorem fE_fz (e:Ex) (w b:Bool):(AV.tup [fE e w,.bl b]).fz=.tup [fS e.S (cst e.D) (Bf.srtS e.S) w,.bl b]:=by
  have h1:∀ L:List (List Int),AV.fzL (L.map fun x=>isl x)=L.map fun x=>isl x:=fun L=>by rw [fzL_map,islfz]
  have e1:∀ X:List Int,AV.fzL (X.map AV.i64)=X.map AV.i64:=fun X=>by rw [fzL_map,ints_fz]
  simp only [AV.fz,AV.fzL,h1,e1]
theorem searchC (p:Puzz) (h:smallP p):SpecAt Try.prog 146 [p.sl] (.tup [fS (sR p).1.S (cst (sR p).1.D) (Bf.srtS (sR p).1.S) (sR p).2,.bl (sR p).2]):=spec_frz (searchStatesI p h) rfl (fE_fz _ _ _)
end Sr
end Go.AM
set_option maxRecDepth 8000
namespace Go.AM
namespace Sr
open Go.Proofs
open Ch (PN pt idL cst cst_app cst_len)
open Bf (Ex nxO idxM byL dOf)
open Ck (sfr exT exA nxT stN)
abbrev exC (p:Puzz) (e:Ex) (x:AV) (Nx:List (List Nat)):AV:=.ep [.i64 p.n,.st p.nm,ssl p.mv,ssl e.S,isl (cst e.D),x,isl (cst e.Pa),isl (byL (letL p.mv.length) e.J),.sl 1 (Nx.map fun r=>isl (cst r))]
theorem depthOfS (n:Nat) (e:Ex) (w:Bool) (s:List Int) (hZ:Bf.SrtOk n e.S (Bf.srtS e.S)) (hd:e.S.Nodup) (hn:n≤20) (hs:s.length=n) (hl:e.S.length≤3000) (hD:e.D.length=e.S.length) :
    SpecAt Try.prog 246 [fS e.S (cst e.D) (Bf.srtS e.S) w,isl s] (.i64 (if s∈e.S then (dOf e s:Int) else -1)):=by
  have q:=searchIndex n e.S (cst e.D) (Bf.srtS e.S) w s hZ hd hn hs hl
  by_cases c:s∈e.S
  · have hix:ixK e.S s=((e.S.idxOf s:Nat):Int):=by unfold ixK;rw [if_pos c]
    have hlt:e.S.idxOf s<e.D.length:=by rw [hD];exact List.idxOf_lt_length_iff.2 c
    have hg:((cst e.D).map AV.i64).getD (e.S.idxOf s) .any=.i64 (dOf e s:Int):=by rw [getD_eq _ _ _ (by rw [List.length_map,cst_len];exact hlt),List.getElem_map,← getD_eq _ _ 0,Ch.cst_get hlt];rfl
    have hl2:(cst e.D).length=e.D.length:=cst_len _
    rw [hix] at q
    rw [if_pos c]
    generalize e.S.idxOf s=i at *
    generalize dOf e s=d at *
    refine spec_of_awp (M:=MM) (np:=2) (fz:=true) mixed Try.func246 rfl rfl (by decide) rfl (Nat.le_refl _) (by decide +kernel) (.inr ⟨rfl,rfl⟩) trivial ?_
    simp -dsimp -implicitDefEqProofs (disch:=first | omega | (simp only [lenr];try omega)) only [↓amPre,amAll,↓reduceIte,reduceCtorEq,Nat.reduceEqDiff,Nat.reduceBEq,Nat.reduceAdd,Nat.reduceLeDiff,Nat.reduceSub,Nat.reduceMul,Int.reduceToNat,List.size_toArray,tyF,MM,bu0,cbU49]
    refine callP_of (q) ?_
    simp -dsimp -implicitDefEqProofs (disch:=first | omega | (simp only [lenr];try omega)) only [↓amPre,amAll,↓reduceIte,reduceCtorEq,Nat.reduceEqDiff,Nat.reduceBEq,Nat.reduceAdd,Nat.reduceLeDiff,Nat.reduceSub,Nat.reduceMul,Int.reduceToNat,List.size_toArray,tyF,MM,bu0,cbU49,hl2,hg]
  · have hix:ixK e.S s = -1:=by unfold ixK;rw [if_neg c]
    rw [hix] at q
    rw [if_neg c]
    refine spec_of_awp (M:=MM) (np:=2) (fz:=true) mixed Try.func246 rfl rfl (by decide) rfl (Nat.le_refl _) (by decide +kernel) (.inr ⟨rfl,rfl⟩) trivial ?_
    simp -dsimp -implicitDefEqProofs (disch:=first | omega | (simp only [lenr];try omega)) only [↓amPre,amAll,↓reduceIte,reduceCtorEq,Nat.reduceEqDiff,Nat.reduceBEq,Nat.reduceAdd,Nat.reduceLeDiff,Nat.reduceSub,Nat.reduceMul,Int.reduceToNat,List.size_toArray,tyF,MM,bu0,cbU49]
    refine callP_of (q) ?_
    simp -dsimp -implicitDefEqProofs (disch:=first | omega | (simp only [lenr];try omega)) only [↓amPre,amAll,↓reduceIte,reduceCtorEq,Nat.reduceEqDiff,Nat.reduceBEq,Nat.reduceAdd,Nat.reduceLeDiff,Nat.reduceSub,Nat.reduceMul,Int.reduceToNat,List.size_toArray,tyF,MM,bu0,cbU49]
end Sr
end Go.AM
namespace Go.AM
namespace Bf
open Ch (PN pt idL Gen cst cst_app cst_len)
/-! reversal by exchanges -/
def rvK (l:List Int) (k:Nat):List Int:=(List.range l.length).map fun i=>if i<k∨l.length - k≤i then l.getD (l.length - 1 - i) 0 else l.getD i 0
theorem rvK_len (l:List Int) (k:Nat):(rvK l k).length=l.length:=by simp [rvK]
theorem rvK_get (l:List Int) (k:Nat) {i:Nat} (h:i<l.length):(rvK l k).getD i 0=if i<k∨l.length - k≤i then l.getD (l.length - 1 - i) 0 else l.getD i 0:=by
  unfold rvK
  rw [getD_eq _ _ _ (by simpa using h),List.getElem_map,List.getElem_range]
theorem rvK_zero (l:List Int):rvK l 0=l:=by
  apply Ch.pl_ext (by rw [rvK_len])
  intro i hi
  rw [rvK_len] at hi
  rw [rvK_get l 0 hi,if_neg (by omega)]
theorem rvK_step (l:List Int) {k:Nat} (h:2*k+1<l.length):((rvK l k).set k (l.getD (l.length - 1 - k) 0)).set (l.length - 1 - k) (l.getD k 0)=rvK l (k+1):=by
  apply Ch.pl_ext (by simp [rvK_len])
  intro i hi
  have hi:i<l.length:=by simpa [rvK_len] using hi
  rw [rvK_get l (k+1) hi]
  have g1:∀ (x:List Int) (a:Nat) (v:Int) (j:Nat),a<x.length→(x.set a v).getD j 0=if j=a then v else x.getD j 0:=fun x a v j ha=>by
    by_cases c:j=a
    · subst c;simp [List.getD,ha]
    · rw [if_neg c];simp [List.getD,List.getElem?_set,Ne.symm c]
  rw [g1 _ _ _ _ (by simp [rvK_len];omega),g1 _ _ _ _ (by rw [rvK_len];omega),rvK_get l k hi]
  by_cases c1:i=l.length - 1 - k
  · rw [if_pos c1,if_pos (by omega)]
    congr 1;omega
  · rw [if_neg c1]
    by_cases c2:i=k
    · rw [if_pos c2,if_pos (by omega),c2]
    · rw [if_neg c2]
      by_cases c3:i<k∨l.length - k≤i
      · rw [if_pos c3,if_pos (by omega)]
      · rw [if_neg c3,if_neg (by omega)]
theorem rvK_all (l:List Int) {k:Nat} (h:l.length≤2*k+1):rvK l k=l.reverse:=by
  apply Ch.pl_ext (by simp [rvK_len])
  intro i hi
  have hi:i<l.length:=by simpa [rvK_len] using hi
  have hr:l.reverse.getD i 0=l.getD (l.length - 1 - i) 0:=by
    rw [getD_eq _ _ _ (by simpa using hi),List.getElem_reverse,getD_eq _ _ _ (by omega)]
  rw [rvK_get l k hi,hr]
  by_cases c:i<k∨l.length - k≤i
  · rw [if_pos c]
  · rw [if_neg c]
    congr 1;omega
theorem Tm.d_le {mv:List (List Int)} {A:List Int} {e:Ex} {T:Nat} (t:Tm mv A e T):∀ N i,i≤N→i<e.S.length→e.D.getD i 0≤i
  | N,0,_,_=>by rw [t.d0];exact Nat.le_refl _
  | 0,i+1,h,_=>by omega
  | N+1,i+1,h,hi=>by
    obtain ⟨a1,a2,a3,a4,a5⟩:=t.old (i+1) (by omega) hi
    have:=t.d_le N (e.Pa.getD (i+1) 0) (by omega) (by omega)
    omega
/-! a word's letters -/
def ltr (A:List Int) (w:List Nat):List Int:=w.map fun j=>A.getD j 0
theorem byL_get (A:List Int) {J:List Nat} {i:Nat} (h0:0<i) (h:i<J.length):(byL A J).getD i 0=A.getD (J.getD i 0) 0:=by
  cases J with
  | nil=>simp at h
  | cons a r =>
    obtain ⟨m,rfl⟩:∃ m,i=m+1:=⟨i - 1,by omega⟩
    have hm:m<r.length:=by simpa using h
    show (0 :: r.map _).getD (m+1) 0=_
    rw [List.getD_cons_succ,List.getD_cons_succ,getD_eq _ _ _ (by simpa using hm),List.getElem_map,getD_eq _ _ _ hm]
end Bf
end Go.AM
set_option maxRecDepth 8000
namespace Go.AM
namespace Wo
open Go.Proofs
open Ch (PN pt idL cst cst_app cst_len)
open Bf (Ex nxO idxM byL dOf rvK ltr wdE dw)
open Ck (sfr exT exA nxT stN)
open Sr (exC fS)
def MM:FuncId→List Bool:=fun f=>if f=216 then [true] else []
theorem reverseI (l:List Int) (hl:l.length≤1099511627776):SpecX Try.prog 216 [itr l] [some (itr l.reverse)] (.tup []):=by
  refine spec_of_awp_any (M:=MM) (np:=1) (X:=[3]) (fz:=false) mixed Try.func216 rfl rfl (by decide) rfl (Nat.le_refl _) (by decide +kernel) (.inl rfl) (by simp only [sigsOk_some,sigsOk_nil,sig_tr,List.length_map,List.length_reverse,and_self]) ?_
  by_cases h0:l.length=0
  · have:l=[]:=List.length_eq_zero_iff.1 h0
    subst this
    simp -dsimp -implicitDefEqProofs (disch:=first | omega | (simp only [lenr];try omega)) only [↓amPre,amAll,↓reduceIte,reduceCtorEq,Nat.reduceEqDiff,Nat.reduceBEq,Nat.reduceAdd,Nat.reduceLeDiff,Nat.reduceSub,Nat.reduceMul,Int.reduceToNat,List.size_toArray,tyF,MM,bu0,cbU49]
    refine awp_loop (fun k st=>k≤0∧st.fr 2=.i64 0∧st.fr 3=.i64 (-1)∧st.fr 0=.ref 0 [] 1 0 0∧st.mem 0=some (itr [])) (0) ?_ ?_
    · simp -dsimp -implicitDefEqProofs (disch:=first | omega | (simp only [lenr];try omega)) only [↓amPre,amAll,↓reduceIte,reduceCtorEq,Nat.reduceEqDiff,Nat.reduceBEq,Nat.reduceAdd,Nat.reduceLeDiff,Nat.reduceSub,Nat.reduceMul,Int.reduceToNat,List.size_toArray,tyF,MM,bu0,cbU49]
      rfl
    rintro k st _ ⟨hk,f2,f3,f0,m0⟩
    simp -dsimp -implicitDefEqProofs (disch:=first | omega | (simp only [lenr];try omega)) only [↓amPre,amAll,↓reduceIte,reduceCtorEq,Nat.reduceEqDiff,Nat.reduceBEq,Nat.reduceAdd,Nat.reduceLeDiff,Nat.reduceSub,Nat.reduceMul,Int.reduceToNat,List.size_toArray,tyF,MM,bu0,cbU49,f2,f3,f0,m0]
    rfl
  have hw:IntKind.i64.wrap ((l.length:Int) - 1)=((l.length - 1:Nat):Int):=by rw [wrap64_id (by omega)];omega
  simp -dsimp -implicitDefEqProofs (disch:=first | omega | (simp only [lenr];try omega)) only [↓amPre,amAll,↓reduceIte,reduceCtorEq,Nat.reduceEqDiff,Nat.reduceBEq,Nat.reduceAdd,Nat.reduceLeDiff,Nat.reduceSub,Nat.reduceMul,Int.reduceToNat,List.size_toArray,tyF,MM,bu0,cbU49,hw]
  refine awp_loop (fun k st=>k≤l.length∧st.fr 2=.i64 k∧st.fr 3=.i64 ((l.length:Int) - 1 - k)∧st.fr 0=.ref 0 [] 1 0 l.length∧st.mem 0=some (itr (rvK l k))∧(2*k≤l.length)) (l.length) ?_ ?_
  · simp -dsimp -implicitDefEqProofs (disch:=first | omega | (simp only [lenr];try omega)) only [↓amPre,amAll,↓reduceIte,reduceCtorEq,Nat.reduceEqDiff,Nat.reduceBEq,Nat.reduceAdd,Nat.reduceLeDiff,Nat.reduceSub,Nat.reduceMul,Int.reduceToNat,List.size_toArray,tyF,MM,bu0,cbU49,Bf.rvK_zero]
    exact ⟨Nat.zero_le _,rfl,i64c (by omega),Nat.zero_le _⟩
  rintro k st _ ⟨hk,f2,f3,f0,m0,ek⟩
  have hrl:=Bf.rvK_len l k
  by_cases c1:(k:Int)<(l.length:Int) - 1 - k
  · have hst:=Bf.rvK_step l (k:=k) (by omega)
    obtain ⟨m,hm⟩:∃ m:Nat,m=l.length - 1 - k:=⟨_,rfl⟩
    have hmI:(l.length:Int) - 1 - k=(m:Int):=by omega
    have g1:=Bf.rvK_get l k (i:=m) (by omega)
    have g2:=Bf.rvK_get l k (i:=k) (by omega)
    rw [if_neg (by omega)] at g1 g2
    rw [← hm] at hst
    rw [hmI] at f3 c1
    simp -dsimp -implicitDefEqProofs (disch:=first | omega | (simp only [lenr];try omega)) only [↓amPre,amAll,↓reduceIte,reduceCtorEq,Nat.reduceEqDiff,Nat.reduceBEq,Nat.reduceAdd,Nat.reduceLeDiff,Nat.reduceSub,Nat.reduceMul,Int.reduceToNat,List.size_toArray,tyF,MM,bu0,cbU49,f2,f3,f0,m0,lt_true c1]
    refine lat_go [[],[],[],[],[],[],[4,5],[4,5,6],[],[],[8,9],[8,9,10],[0,1,4,5,6,7,8,9,10,11],[0,1,4,5,6,7,8,9,10,11,12],[0,1,2,3,4,5,6,7,8,9,10,11,12,13],[0,1,2,3,4,5,6,7,8,9,10,11,12,13,14]] [[12,13,14,15],[12,13,14,15],[14,15],[14,15],[6,7,12,13,14,15],[6,7,12,13,14,15],[7,12,13,14,15],[12,13,14,15],[10,11,12,13,14,15],[10,11,12,13,14,15],[11,12,13,14,15],[12,13,14,15],[13,14,15],[14,15],[15],[]] [0,1,2,3,4,5,6,7,8,9,10,11,12,13,14,15] (fun c st=>st.fr 0=.ref 0 [] 1 0 l.length∧st.fr 2=.i64 k∧st.fr 3=.i64 m∧(c 0=true→st.fr 14=.ref 0 [] 1 0 l.length)∧(c 1=true→st.fr 15=.i64 k)∧(c 2=true→st.fr 16=.ref 0 [] 1 0 l.length)∧(c 3=true→st.fr 17=.i64 m)∧(c 4=true→st.fr 18=.ref 0 [] 1 0 l.length)∧(c 5=true→st.fr 19=.i64 m)∧(c 6=true→st.fr 20=.loc 0 [] m 0)∧(c 7=true→st.fr 21=.i64 (l.getD m 0))∧(c 8=true→st.fr 22=.ref 0 [] 1 0 l.length)∧(c 9=true→st.fr 23=.i64 k)∧(c 10=true→st.fr 24=.loc 0 [] k 0)∧(c 11=true→st.fr 25=.i64 (l.getD k 0))∧(c 12=true→st.fr 26=.loc 0 [] k 0)∧(c 14=true→st.fr 27=.loc 0 [] m 0)∧st.mem 0=some (bif c 15 then (itr (rvK l (k+1))) else (bif c 13 then (itr ((rvK l k).set k (l.getD m 0))) else (itr (rvK l k))))) (by decide +kernel) ?_ ?_ ?_
    · (try simp -dsimp -implicitDefEqProofs (disch:=first | omega | (simp only [lenr];try omega)) only [↓amPre,amAll,↓reduceIte,reduceCtorEq,Nat.reduceEqDiff,Nat.reduceBEq,Nat.reduceAdd,Nat.reduceLeDiff,Nat.reduceSub,Nat.reduceMul,Int.reduceToNat,List.size_toArray,tyF,MM,bu0,cbU49,latj,hrl,g1,g2,hst,f2,f3,f0,m0])
      all_goals (try (repeat' (first | apply And.intro | rfl | (intro _;rfl) | (intro _ _;rfl))))
    · refine ⟨?_,?_,?_,?_,?_,?_,?_,?_,?_,?_,?_,?_,?_,?_,?_,?_,trivial⟩
      all_goals rintro c st R hC hJ hR
      all_goals simp only [latm] at hC
      all_goals simp only [hC,latj] at hJ
      all_goals simp -dsimp -implicitDefEqProofs (disch:=first | omega | (simp only [lenr];try omega)) only [↓amPre,amAll,↓reduceIte,reduceCtorEq,Nat.reduceEqDiff,Nat.reduceBEq,Nat.reduceAdd,Nat.reduceLeDiff,Nat.reduceSub,Nat.reduceMul,Int.reduceToNat,List.size_toArray,tyF,MM,bu0,cbU49,hJ,hrl,g1,g2,hst]
      all_goals refine hR _ ?_
      all_goals (simp +contextual -dsimp -implicitDefEqProofs only [amAll,↓reduceIte,reduceCtorEq,Nat.reduceEqDiff,Nat.reduceBEq,Nat.reduceAdd,latj,hC,hJ,hrl,g1,g2,hst];try (repeat' (first | apply And.intro | rfl | (intro _;rfl) | (intro _ _;rfl))))
    intro c st hall hJ
    simp only [latm] at hall
    simp only [hall,latj] at hJ
    obtain ⟨f0,f2,f3,f14,f15,f16,f17,f18,f19,f20,f21,f22,f23,f24,f25,f26,f27,m0⟩:=hJ
    clear hall
    simp -dsimp -implicitDefEqProofs (disch:=first | omega | (simp only [lenr];try omega)) only [↓amPre,amAll,↓reduceIte,reduceCtorEq,Nat.reduceEqDiff,Nat.reduceBEq,Nat.reduceAdd,Nat.reduceLeDiff,Nat.reduceSub,Nat.reduceMul,Int.reduceToNat,List.size_toArray,tyF,MM,bu0,cbU49,f0,f2,f3,m0]
    exact ⟨by omega,by omega,i64c (by omega),by omega⟩
  · have hre:=Bf.rvK_all l (k:=k) (by omega)
    simp -dsimp -implicitDefEqProofs (disch:=first | omega | (simp only [lenr];try omega)) only [↓amPre,amAll,↓reduceIte,reduceCtorEq,Nat.reduceEqDiff,Nat.reduceBEq,Nat.reduceAdd,Nat.reduceLeDiff,Nat.reduceSub,Nat.reduceMul,Int.reduceToNat,List.size_toArray,tyF,MM,bu0,cbU49,f2,f3,f0,m0,lt_false (Int.not_lt.1 c1),hre]
theorem wordI (p:Puzz) (e:Ex) (x:AV) (Nx:List (List Nat)) {T:Nat} (t:Bf.Tm p.mv (letL p.mv.length) e T) (i:Nat) (hi:i<e.S.length) (hok:Bf.Ok p.n.toNat p.mv e) (hl:e.S.length≤3000) :
    SpecAt Try.prog 152 [exC p e x Nx,.i64 i] (itr (ltr (letL p.mv.length) (wdE e i))):=by
  have hlP:(cst e.Pa).length=e.S.length:=by rw [cst_len,hok.lP]
  have hlJ:(byL (letL p.mv.length) e.J).length=e.S.length:=by rw [Bf.byL_len,hok.lJ]
  have hwl:=t.wd_len hok.z.1 _ i (Nat.le_refl _) hi
  refine spec_of_awp (M:=MM) (np:=2) (fz:=false) mixed Try.func152 rfl rfl (by decide) rfl (Nat.le_refl _) (by decide +kernel) (.inl rfl) (by first | trivial | simp only [sigsOk_nil,sigsOk_some,sigsOk_none,sig_tr,sig_pt,sig_mt,sig_agg,List.map_cons,List.map_nil,sig1_tr,sig1_pt,sig1_v,and_self,true_and,List.length_map,List.length_set]) ?_
  simp -dsimp -implicitDefEqProofs (disch:=first | omega | (simp only [lenr];try omega)) only [↓amPre,amAll,↓reduceIte,reduceCtorEq,Nat.reduceEqDiff,Nat.reduceBEq,Nat.reduceAdd,Nat.reduceLeDiff,Nat.reduceSub,Nat.reduceMul,Int.reduceToNat,List.size_toArray,tyF,MM,bu0,cbU49]
  refine awp_loopN 5 24 1 (by simp -dsimp -implicitDefEqProofs (disch:=first | omega | (simp only [lenr];try omega)) only [↓amPre,amAll,↓reduceIte,reduceCtorEq,Nat.reduceEqDiff,Nat.reduceBEq,Nat.reduceAdd,Nat.reduceLeDiff,Nat.reduceSub,Nat.reduceMul,Int.reduceToNat,List.size_toArray,tyF,MM,bu0,cbU49]) (by decide) (fun k st=>k≤(wdE e i).length∧st.fr 0=exC p e x Nx∧st.fr 5=.ref 24 [] 1 0 k∧(∃ (r:Nat) (suf:List Nat),st.fr 1=.i64 r∧st.mem 24=some (itr (ltr (letL p.mv.length) suf.reverse))∧wdE e i=wdE e r++suf∧suf.length=k∧r<e.S.length)) ((wdE e i).length) ?_ ?_
  · simp -dsimp -implicitDefEqProofs (disch:=first | omega | (simp only [lenr];try omega)) only [↓amPre,amAll,↓reduceIte,reduceCtorEq,Nat.reduceEqDiff,Nat.reduceBEq,Nat.reduceAdd,Nat.reduceLeDiff,Nat.reduceSub,Nat.reduceMul,Int.reduceToNat,List.size_toArray,tyF,MM,bu0,cbU49,nilAs_eq]
    exact ⟨Nat.zero_le _,i,[],rfl,rfl,by simp,rfl,hi⟩
  rintro k st _ ⟨hk,f0,f5,ek⟩
  obtain ⟨r,suf,f1,m24,g1,g2,g3⟩:=ek
  have hll:(ltr (letL p.mv.length) suf.reverse).length=k:=by simp [ltr,g2]
  by_cases c1:0<r
  · have hs:=t.wd_s c1 g3
    obtain ⟨a1,a2,_⟩:=t.old r c1 g3
    have hgJ:((byL (letL p.mv.length) e.J).map AV.i64).getD r .any=.i64 ((letL p.mv.length).getD (e.J.getD r 0) 0):=by rw [getD_eq _ _ _ (by rw [List.length_map,hlJ];exact g3),List.getElem_map,← getD_eq _ _ 0,Bf.byL_get _ c1 (by rw [hok.lJ];exact g3)]
    have hgP:((cst e.Pa).map AV.i64).getD r .any=.i64 (e.Pa.getD r 0:Nat):=by rw [getD_eq _ _ _ (by rw [List.length_map,hlP];exact g3),List.getElem_map,← getD_eq _ _ 0,Ch.cst_get (by rw [hok.lP];exact g3)]
    have hkl:k<(wdE e i).length:=by rw [g1,hs,List.length_append,List.length_append,g2];simp
    have c1':(0:Int)<(r:Int):=by omega
    have hkb:k≤3000:=by have:=t.d_le _ i (Nat.le_refl _) hi;omega
    simp -dsimp -implicitDefEqProofs (disch:=first | omega | (simp only [lenr];try omega)) only [↓amPre,amAll,↓reduceIte,reduceCtorEq,Nat.reduceEqDiff,Nat.reduceBEq,Nat.reduceAdd,Nat.reduceLeDiff,Nat.reduceSub,Nat.reduceMul,Int.reduceToNat,List.size_toArray,tyF,MM,bu0,cbU49,f0,f5,f1,m24,lt_true c1',hgJ,hgP,hlJ,hlP,hll]
    exact ⟨hkl,by omega,e.Pa.getD r 0,e.J.getD r 0 :: suf,rfl,by simp [ltr],by rw [g1,hs];simp,by simp [g2],by omega⟩
  · have hr:r=0:=by omega
    subst hr
    rw [t.wd_0 hok.z.1,List.nil_append] at g1
    have q:=reverseI (ltr (letL p.mv.length) suf.reverse) (by have:=t.d_le _ i (Nat.le_refl _) hi;omega)
    have hrr:(ltr (letL p.mv.length) suf.reverse).reverse=ltr (letL p.mv.length) (wdE e i):=by rw [g1];simp [ltr]
    rw [hrr] at q
    simp -dsimp -implicitDefEqProofs (disch:=first | omega | (simp only [lenr];try omega)) only [↓amPre,amAll,↓reduceIte,reduceCtorEq,Nat.reduceEqDiff,Nat.reduceBEq,Nat.reduceAdd,Nat.reduceLeDiff,Nat.reduceSub,Nat.reduceMul,Int.reduceToNat,List.size_toArray,tyF,MM,bu0,cbU49,f0,f5,f1,m24,hll]
    have hll2:(ltr (letL p.mv.length) (wdE e i)).length=k:=by rw [g1];simp [ltr,g2]
    refine callX_of (q) ?_
    simp -dsimp -implicitDefEqProofs (disch:=first | omega | (simp only [lenr];try omega)) only [↓amPre,amAll,↓reduceIte,reduceCtorEq,Nat.reduceEqDiff,Nat.reduceBEq,Nat.reduceAdd,Nat.reduceLeDiff,Nat.reduceSub,Nat.reduceMul,Int.reduceToNat,List.size_toArray,tyF,MM,bu0,cbU49,f0,f5,hll2]
end Wo
end Go.AM
set_option maxRecDepth 8000
namespace Go.AM
namespace Wo
open Go.Proofs
open Ch (PN pt idL cst cst_app cst_len)
open Bf (Ex nxO idxM byL dOf rvK ltr wdE dw Fin srtS)
open Ck (sfr exT exA nxT stN)
open Sr (exC fS depthOfS)
theorem descendS (p:Puzz) (e:Ex) (w:Bool) (hd:puzzOk p) (f:Fin p.n.toNat p.mv (letL p.mv.length) e) (hl:e.S.length≤3000) (s0:List Int) (hs0:s0∈e.S) :
    SpecAt Try.prog 214 [p.sl,fS e.S (cst e.D) (srtS e.S) w,isl s0] (itr (ltr (letL p.mv.length) (dw p.mv (letL p.mv.length) e (dOf e s0) s0))):=by
  have hpn:=Ck.puzz_pn hd
  have hn20:=hd.1.1
  obtain ⟨N,hN⟩:∃ N:Nat,p.n=N:=⟨p.n.toNat,by omega⟩
  rw [show p.n.toNat=N by omega] at hpn f
  have hN1:1≤N:=by omega
  have hN2:N≤20:=by omega
  have hA:=letL_len p.mv.length
  have h8:=hd.1.2.1
  have ll:=lettersS p h8
  have hlo:=letL_ok h8
  have hnb:∀ s∈e.S,∀ j,j<(letL p.mv.length).length→compI s (letP p.mv ((letL p.mv.length).getD j 0))∈e.S:=fun s hs j hj=>(f.all _).2 (Bf.nbr_ok hN1 hN2 hpn (f.ok.el s hs) (mem_getD _ j 0 hj)).2
  have hZ:=Bf.srtS_ok f.ok.nd (fun s hs=>(f.ok.el s hs).1.1)
  have qd:∀ s∈e.S,SpecAt Try.prog 246 [fS e.S (cst e.D) (srtS e.S) w,isl s] (.i64 (dOf e s:Int)):=fun s hs=>by
    have:=depthOfS N e w s hZ f.ok.nd hN2 (f.ok.el s hs).1.1 hl f.ok.lD
    rwa [if_pos hs] at this
  have hdl:∀ s∈e.S,dOf e s≤3000:=fun s hs=>by
    have:=f.tm.d_le _ (e.S.idxOf s) (Nat.le_refl _) (List.idxOf_lt_length_iff.2 hs)
    have h2:=List.idxOf_lt_length_iff.2 hs
    show e.D.getD (e.S.idxOf s) 0≤3000
    omega
  have hsa:∀ s∈e.S,∀ j,j<(letL p.mv.length).length→SpecAt Try.prog 249 [p.sl,isl s,.i64 ((letL p.mv.length).getD j 0)] (itr (compI s (letP p.mv ((letL p.mv.length).getD j 0)))):=fun s hs j hj=>by
    have:=(f.ok.el s hs).1
    exact sApply1 p s _ hd.1 ⟨by rw [hN];have:=this.1;omega,this.2⟩ (hlo _ (mem_getD _ j 0 hj))
  have q0:=qd s0 hs0
  have hd0:=hdl s0 hs0
  have e1:∀ X:List Int,AV.fzL (X.map AV.i64)=X.map AV.i64:=fun X=>by rw [fzL_map,ints_fz]
  have hA16:(letL p.mv.length).length≤16:=by omega
  generalize letL p.mv.length=A at *
  generalize dOf e s0=d0 at *
  refine spec_of_awp (M:=MM) (np:=3) (fz:=false) mixed Try.func214 rfl rfl (by decide) rfl (Nat.le_refl _) (by decide +kernel) (.inl rfl) (by first | trivial | simp only [sigsOk_nil,sigsOk_some,sigsOk_none,sig_tr,sig_pt,sig_mt,sig_agg,List.map_cons,List.map_nil,sig1_tr,sig1_pt,sig1_v,and_self,true_and,List.length_map,List.length_set]) ?_
  simp -dsimp -implicitDefEqProofs (disch:=first | omega | (simp only [lenr];try omega)) only [↓amPre,amAll,↓reduceIte,reduceCtorEq,Nat.reduceEqDiff,Nat.reduceBEq,Nat.reduceAdd,Nat.reduceLeDiff,Nat.reduceSub,Nat.reduceMul,Int.reduceToNat,List.size_toArray,tyF,MM,bu0,cbU49]
  refine callP_frz ll ?_
  simp -dsimp -implicitDefEqProofs (disch:=first | omega | (simp only [lenr];try omega)) only [↓amPre,amAll,↓reduceIte,reduceCtorEq,Nat.reduceEqDiff,Nat.reduceBEq,Nat.reduceAdd,Nat.reduceLeDiff,Nat.reduceSub,Nat.reduceMul,Int.reduceToNat,List.size_toArray,tyF,MM,bu0,cbU49,itrF,e1]
  refine callP_of (q0) ?_
  simp -dsimp -implicitDefEqProofs (disch:=first | omega | (simp only [lenr];try omega)) only [↓amPre,amAll,↓reduceIte,reduceCtorEq,Nat.reduceEqDiff,Nat.reduceBEq,Nat.reduceAdd,Nat.reduceLeDiff,Nat.reduceSub,Nat.reduceMul,Int.reduceToNat,List.size_toArray,tyF,MM,bu0,cbU49]
  refine awp_loopR 12 47 (.tr 1 []) (by simp -dsimp -implicitDefEqProofs (disch:=first | omega | (simp only [lenr];try omega)) only [↓amPre,amAll,↓reduceIte,reduceCtorEq,Nat.reduceEqDiff,Nat.reduceBEq,Nat.reduceAdd,Nat.reduceLeDiff,Nat.reduceSub,Nat.reduceMul,Int.reduceToNat,List.size_toArray,tyF,MM,bu0,cbU49]) (by decide) (by decide) (by decide) (fun k st=>k≤d0∧st.fr 9=.i64 ((d0 - k:Nat):Int)∧st.fr 8=isl A∧st.fr 3=.loc 3 [] 0 0∧st.fr 4=.loc 4 [] 0 0∧st.mem 3=some (.pt 3 p.sl)∧st.mem 4=some (.pt 4 (fS e.S (cst e.D) (srtS e.S) w))∧(∃ (s:List Int) (u:List Nat),st.fr 2=isl s∧st.fr 7=.ref 47 [] 1 0 u.length∧st.mem 47=some (itr (ltr A u))∧s∈e.S∧u.length≤k∧dw p.mv A e d0 s0=u++dw p.mv A e (d0 - k) s)) (d0) ?_ ?_
  · simp -dsimp -implicitDefEqProofs (disch:=first | omega | (simp only [lenr];try omega)) only [↓amPre,amAll,↓reduceIte,reduceCtorEq,Nat.reduceEqDiff,Nat.reduceBEq,Nat.reduceAdd,Nat.reduceLeDiff,Nat.reduceSub,Nat.reduceMul,Int.reduceToNat,List.size_toArray,tyF,MM,bu0,cbU49,ren_eq]
    exact ⟨Nat.zero_le _,rfl,s0,[],rfl,rfl,rfl,hs0,by simp,by simp⟩
  rintro k st _ ⟨hk,f9,f8,f3,f4,m3,m4,ek⟩
  obtain ⟨s,u,f2,f7,m47,g1,g2,g3⟩:=ek
  have hlu:(ltr A u).length=u.length:=by simp [ltr]
  by_cases c1:k<d0
  · obtain ⟨d,hdk⟩:∃ d,d0 - k=d+1:=⟨d0 - k - 1,by omega⟩
    rw [hdk] at g3 f9
    have c1':(0:Int)<((d+1:Nat):Int):=by omega
    have hw1:IntKind.i64.wrap (((d+1:Nat):Int) - 1)=(d:Int):=by rw [wrap64_id (by omega)];omega
    simp -dsimp -implicitDefEqProofs (disch:=first | omega | (simp only [lenr];try omega)) only [↓amPre,amAll,↓reduceIte,reduceCtorEq,Nat.reduceEqDiff,Nat.reduceBEq,Nat.reduceAdd,Nat.reduceLeDiff,Nat.reduceSub,Nat.reduceMul,Int.reduceToNat,List.size_toArray,tyF,MM,bu0,cbU49,f9,f8,f3,f4,m3,m4,f2,f7,m47,lt_true c1']
    refine awp_loop (fun j st=>j≤A.length∧st.fr 10=.i64 j∧st.fr 9=.i64 ((d+1:Nat):Int)∧st.fr 8=isl A∧st.fr 3=.loc 3 [] 0 0∧st.fr 4=.loc 4 [] 0 0∧st.fr 2=isl s∧st.fr 7=.ref 47 [] 1 0 u.length∧st.mem 3=some (.pt 3 p.sl)∧st.mem 4=some (.pt 4 (fS e.S (cst e.D) (srtS e.S) w))∧st.mem 47=some (itr (ltr A u))∧(∀ i,i<j→dOf e (compI s (letP p.mv (A.getD i 0)))≠d)) (A.length) ?_ ?_
    · simp -dsimp -implicitDefEqProofs (disch:=first | omega | (simp only [lenr];try omega)) only [↓amPre,amAll,↓reduceIte,reduceCtorEq,Nat.reduceEqDiff,Nat.reduceBEq,Nat.reduceAdd,Nat.reduceLeDiff,Nat.reduceSub,Nat.reduceMul,Int.reduceToNat,List.size_toArray,tyF,MM,bu0,cbU49,f9,f8,f3,f4,m3,m4,f2,f7,m47]
      exact ⟨Nat.zero_le _,rfl,fun i hi=>absurd hi (Nat.not_lt_zero _)⟩
    rintro j st _ ⟨hj,f10,f9,f8,f3,f4,f2,f7,m3,m4,m47,ej⟩
    by_cases c2:j<A.length
    · have qa:=hsa s g1 j c2
      have hn:=hnb s g1 j c2
      have qb:=qd _ hn
      have c2':(j:Int)<(A.length:Int):=by omega
      generalize hx:compI s (letP p.mv (A.getD j 0))=x at *
      simp -dsimp -implicitDefEqProofs (disch:=first | omega | (simp only [lenr];try omega)) only [↓amPre,amAll,↓reduceIte,reduceCtorEq,Nat.reduceEqDiff,Nat.reduceBEq,Nat.reduceAdd,Nat.reduceLeDiff,Nat.reduceSub,Nat.reduceMul,Int.reduceToNat,List.size_toArray,tyF,MM,bu0,cbU49,f10,f9,f8,f3,f4,f2,f7,m3,m4,m47,lt_true c2']
      refine callP_frz qa ?_
      simp -dsimp -implicitDefEqProofs (disch:=first | omega | (simp only [lenr];try omega)) only [↓amPre,amAll,↓reduceIte,reduceCtorEq,Nat.reduceEqDiff,Nat.reduceBEq,Nat.reduceAdd,Nat.reduceLeDiff,Nat.reduceSub,Nat.reduceMul,Int.reduceToNat,List.size_toArray,tyF,MM,bu0,cbU49,f10,f9,f8,f3,f4,f2,f7,m3,m4,m47,itrF,e1]
      refine callP_of (qb) ?_
      by_cases c3:dOf e x=d
      · have hfd:(List.range A.length).find? (fun j=>decide (dOf e (compI s (letP p.mv (A.getD j 0)))=d))=some j:=by
          rw [List.find?_range_eq_some]
          exact ⟨decide_eq_true (by rw [hx];exact c3),List.mem_range.2 c2,fun i hi=>by simp only [decide_eq_false (ej i hi),Bool.not_false]⟩
        have hdw:dw p.mv A e (d+1) s=j :: dw p.mv A e d x:=by
          rw [dw,hfd];dsimp only;rw [hx]
        have c3':((dOf e x:Nat):Int)=(d:Int):=by omega
        have hu3:u.length≤3000:=by omega
        simp -dsimp -implicitDefEqProofs (disch:=first | omega | (simp only [lenr];try omega)) only [↓amPre,amAll,↓reduceIte,reduceCtorEq,Nat.reduceEqDiff,Nat.reduceBEq,Nat.reduceAdd,Nat.reduceLeDiff,Nat.reduceSub,Nat.reduceMul,Int.reduceToNat,List.size_toArray,tyF,MM,bu0,cbU49,f10,f9,f8,f3,f4,f2,f7,m3,m4,m47,hw1,c3',hlu,fun Q st=>blockQ_exit_ne Q st 3 2 rfl]
        exact ⟨by omega,by omega,i64c (by omega),x,u++[j],rfl,by simp,by simp [ltr],hn,by simp;omega,by rw [g3,hdw,show d0 - (k+1)=d by omega];simp⟩
      · have c3':¬ ((dOf e x:Nat):Int)=(d:Int):=by omega
        simp -dsimp -implicitDefEqProofs (disch:=first | omega | (simp only [lenr];try omega)) only [↓amPre,amAll,↓reduceIte,reduceCtorEq,Nat.reduceEqDiff,Nat.reduceBEq,Nat.reduceAdd,Nat.reduceLeDiff,Nat.reduceSub,Nat.reduceMul,Int.reduceToNat,List.size_toArray,tyF,MM,bu0,cbU49,f10,f9,f8,f3,f4,f2,f7,m3,m4,m47,hw1,c3']
        exact ⟨c2,by omega,fun i hi=>by
          rcases Nat.lt_or_ge i j with q | q
          · exact ej i q
          · rw [show i=j by omega,hx];exact c3⟩
    · have hfd:(List.range A.length).find? (fun j=>decide (dOf e (compI s (letP p.mv (A.getD j 0)))=d))=none:=by
        rw [List.find?_eq_none]
        exact fun i hi=>by simp only [decide_eq_false (ej i (by have:=List.mem_range.1 hi;omega)),Bool.false_eq_true,not_false_eq_true]
      have hdw:dw p.mv A e (d+1) s=dw p.mv A e d s:=by
        rw [dw,hfd]
      have c2':¬ (j:Int)<(A.length:Int):=by omega
      simp -dsimp -implicitDefEqProofs (disch:=first | omega | (simp only [lenr];try omega)) only [↓amPre,amAll,↓reduceIte,reduceCtorEq,Nat.reduceEqDiff,Nat.reduceBEq,Nat.reduceAdd,Nat.reduceLeDiff,Nat.reduceSub,Nat.reduceMul,Int.reduceToNat,List.size_toArray,tyF,MM,bu0,cbU49,f10,f9,f8,f3,f4,f2,f7,m3,m4,m47,lt_false (Int.not_lt.1 c2'),hw1]
      exact ⟨c1,by omega,i64c (by omega),s,u,rfl,rfl,rfl,g1,by omega,by rw [g3,hdw,show d0 - (k+1)=d by omega]⟩
  · have hk:k=d0:=by omega
    subst hk
    rw [Nat.sub_self] at g3 f9
    rw [g3,dw,List.append_nil]
    simp -dsimp -implicitDefEqProofs (disch:=first | omega | (simp only [lenr];try omega)) only [↓amPre,amAll,↓reduceIte,reduceCtorEq,Nat.reduceEqDiff,Nat.reduceBEq,Nat.reduceAdd,Nat.reduceLeDiff,Nat.reduceSub,Nat.reduceMul,Int.reduceToNat,List.size_toArray,tyF,MM,bu0,cbU49,f9,f8,f3,f4,m3,m4,f2,f7,m47]
theorem wordForS (p:Puzz) (e:Ex) (w:Bool) (hd:puzzOk p) (f:Fin p.n.toNat p.mv (letL p.mv.length) e) (hl:e.S.length≤3000) (i:Nat) (hi:i<e.S.length) :
    SpecAt Try.prog 150 [p.sl,fS e.S (cst e.D) (srtS e.S) w,isl (e.S.getD i default)] (itr (ltr (letL p.mv.length) (wdE e i))):=by
  have hpn:=Ck.puzz_pn hd
  have hn20:=hd.1.1
  obtain ⟨h1,h2,h3⟩:=f.dw_eq (by omega) (by omega) hpn hi
  have hp:=(f.ok.el _ (mem_getD e.S i default hi)).1
  have qi:=sInverse (e.S.getD i default) (by have:=hp.1;omega) hp.2
  rw [ivL_invI] at qi
  have qd:=descendS p e w hd f hl _ h1
  rw [h2,h3] at qd
  have e1:∀ X:List Int,AV.fzL (X.map AV.i64)=X.map AV.i64:=fun X=>by rw [fzL_map,ints_fz]
  generalize invI (e.S.getD i default)=y at *
  generalize e.S.getD i default=x at *
  generalize ltr (letL p.mv.length) (wdE e i)=r at *
  refine spec_of_awp (M:=MM) (np:=3) (fz:=false) mixed Try.func150 rfl rfl (by decide) rfl (Nat.le_refl _) (by decide +kernel) (.inl rfl) (by first | trivial | simp only [sigsOk_nil,sigsOk_some,sigsOk_none,sig_tr,sig_pt,sig_mt,sig_agg,List.map_cons,List.map_nil,sig1_tr,sig1_pt,sig1_v,and_self,true_and,List.length_map,List.length_set]) ?_
  simp -dsimp -implicitDefEqProofs (disch:=first | omega | (simp only [lenr];try omega)) only [↓amPre,amAll,↓reduceIte,reduceCtorEq,Nat.reduceEqDiff,Nat.reduceBEq,Nat.reduceAdd,Nat.reduceLeDiff,Nat.reduceSub,Nat.reduceMul,Int.reduceToNat,List.size_toArray,tyF,MM,bu0,cbU49]
  refine callP_frz qi ?_
  simp -dsimp -implicitDefEqProofs (disch:=first | omega | (simp only [lenr];try omega)) only [↓amPre,amAll,↓reduceIte,reduceCtorEq,Nat.reduceEqDiff,Nat.reduceBEq,Nat.reduceAdd,Nat.reduceLeDiff,Nat.reduceSub,Nat.reduceMul,Int.reduceToNat,List.size_toArray,tyF,MM,bu0,cbU49,itrF,e1]
  refine callP_of (qd) ?_
  simp -dsimp -implicitDefEqProofs (disch:=first | omega | (simp only [lenr];try omega)) only [↓amPre,amAll,↓reduceIte,reduceCtorEq,Nat.reduceEqDiff,Nat.reduceBEq,Nat.reduceAdd,Nat.reduceLeDiff,Nat.reduceSub,Nat.reduceMul,Int.reduceToNat,List.size_toArray,tyF,MM,bu0,cbU49]
end Wo
end Go.AM
namespace Go.AM
namespace Bf
open Ch (PN pt idL)
def fmT (A:List Int) (e:Ex) (i:Nat):Twist:=⟨ltr A (wdE e i),movL (e.S.getD i default) (e.S.getD i default).length⟩
def fmC (e:Ex) (md ms:Int) (i:Nat):Prop:=(e.D.getD i 0:Int)≤md∧lsN e.S i≤ms
instance (e:Ex) (md ms:Int) (i:Nat):Decidable (fmC e md ms i):=by unfold fmC;infer_instance
def fmA (A:List Int) (e:Ex) (md ms:Int):Nat→List Twist
  | 0=>[]
  | i+1=>if i≠0∧fmC e md ms i then fmA A e md ms i++[fmT A e i] else fmA A e md ms i
section
variable {A:List Int} {e:Ex} {md ms:Int}
theorem fmA_len:∀ i,(fmA A e md ms i).length≤i
  | 0=>Nat.le_refl _
  | i+1=>by
    have:=fmA_len i
    rw [fmA];split
    · simp;omega
    · omega
theorem fmA_mono (i:Nat):∀ d,(fmA A e md ms i).length≤(fmA A e md ms (i+d)).length
  | 0=>Nat.le_refl _
  | d+1=>by
    have:=fmA_mono i d
    show _≤(fmA A e md ms ((i+d)+1)).length
    rw [fmA];split
    · simp;omega
    · omega
theorem fmA_stop {mv:List (List Int)} {T:Nat} (t:Tm mv A e T) {i:Nat} (h:¬ (e.D.getD i 0:Int)≤md):∀ d,i+d≤e.S.length→fmA A e md ms (i+d)=fmA A e md ms i
  | 0,_=>rfl
  | d+1,hd=>by
    rw [← fmA_stop t h d (by omega)]
    show fmA A e md ms ((i+d)+1)=_
    rw [fmA,if_neg]
    rintro ⟨_,q,_⟩
    have:=t.dep i (i+d) (by omega) (by omega)
    omega
theorem fmA_mem {n:Nat} {mv:List (List Int)} {T:Nat} (t:Tm mv A e T) (h:Ok n mv e) (hm:md≤30) (hn:n≤20):∀ i,i≤e.S.length→∀ x∈fmA A e md ms i,x.to.length≤30∧x.by'.length≤20
  | 0,_,x,hx=>by cases hx
  | i+1,hi,x,hx=>by
    rw [fmA] at hx
    split at hx
    · rename_i c
      rcases List.mem_append.1 hx with hx | hx
      · exact fmA_mem t h hm hn i (by omega) x hx
      · rw [List.mem_singleton.1 hx]
        have h1:=t.wd_len h.z.1 _ i (Nat.le_refl _) (by omega)
        have h2:=c.2.1
        have h3:=movL_len (e.S.getD i default) (e.S.getD i default).length
        have h4:=(h.el _ (mem_getD e.S i default (by omega))).1.1
        refine ⟨?_,by show (movL _ _).length≤20;omega⟩
        show (ltr A (wdE e i)).length≤30
        rw [ltr,List.length_map];omega
    · exact fmA_mem t h hm hn i (by omega) x hx
def fmR (A:List Int) (e:Ex) (w:Bool) (md ms:Int):List Twist×Bool :=
  if w=true∧(within md 0 30=true∧within ms 0 20=true)∧(fmA A e md ms e.S.length).length≤200 then (fmA A e md ms e.S.length,true) else ([],false)
end
end Bf
end Go.AM
set_option maxRecDepth 8000
namespace Go.AM
namespace Wo
open Go.Proofs
open Ch (PN pt idL cst cst_app cst_len)
open Bf (Ex nxO idxM byL dOf rvK ltr wdE dw Fin srtS fmT fmC fmA fmR lsN movL_len)
open Ck (sfr exA exT nxT stN)
open Sr (exC fS depthOfS sR sR_yes sR_no sR_ok sR_len)
theorem isDepthI (x:Int):SpecAt Try.prog 151 [.i64 x] (.bl (within x 0 30)):=by
  refine spec_of_awp (M:=MM) (np:=1) (fz:=true) mixed Try.func151 rfl rfl (by decide) rfl (Nat.le_refl _) (by decide +kernel) (.inr ⟨rfl,rfl⟩) trivial ?_
  simp -dsimp -implicitDefEqProofs (disch:=first | omega | (simp only [lenr];try omega)) only [↓amPre,amAll,↓reduceIte,reduceCtorEq,Nat.reduceEqDiff,Nat.reduceBEq,Nat.reduceAdd,Nat.reduceLeDiff,Nat.reduceSub,Nat.reduceMul,Int.reduceToNat,List.size_toArray,tyF,MM,bu0,cbU49]
  refine callP_of (iwithin _ _ _) ?_
  simp -dsimp -implicitDefEqProofs (disch:=first | omega | (simp only [lenr];try omega)) only [↓amPre,amAll,↓reduceIte,reduceCtorEq,Nat.reduceEqDiff,Nat.reduceBEq,Nat.reduceAdd,Nat.reduceLeDiff,Nat.reduceSub,Nat.reduceMul,Int.reduceToNat,List.size_toArray,tyF,MM,bu0,cbU49]
theorem fz1 (l:List Int):AV.fzL (l.map AV.i64)=l.map AV.i64:=by rw [fzL_map,ints_fz]
theorem fz2 (L:List (List Int)):AV.fzL (L.map fun l=>isl l)=L.map fun l=>isl l:=by rw [fzL_map,islfz]
theorem fz3 (L:List (List Nat)):AV.fzL (L.map fun r=>itr (cst r))=L.map fun r=>isl (cst r):=by
  rw [fzL_map,List.map_map]
  exact List.map_congr_left fun r _=>itr_fz _
theorem sR_fin {p:Puzz} (h:1≤stN p∧stN p≤3000):Fin p.n.toNat p.mv (letL p.mv.length) (Bf.out p.mv (letL p.mv.length) p.n.toNat 3000):=by
  have hd:=(sR_yes h).1
  have h1:=hd.1.1
  exact Bf.out_fin (by omega) (by omega) (Ck.puzz_pn hd) (by have:=sR_len hd;omega)
noncomputable def fmP (p:Puzz) (md ms:Int):List Twist×Bool:=fmR (letL p.mv.length) (sR p).1 (sR p).2 md ms
theorem iFindMacros (p:Puzz) (md ms:Int) (h:smallP p):SpecAt Try.prog 61 [p.sl,.i64 md,.i64 ms] (.tup [ttr (fmP p md ms).1,.bl (fmP p md ms).2]):=by
  by_cases hs:1≤stN p∧stN p≤3000
  case neg =>
    have q1:=Ck.exploreNo p h hs
    have hz:fmP p md ms=([],false):=by rw [fmP,fmR,if_neg];rw [sR_no hs];exact fun q=>by cases q.1
    rw [hz]
    refine spec_of_awp (M:=MM) (np:=3) (fz:=false) mixed Try.func61 rfl rfl (by decide) rfl (Nat.le_refl _) (by decide +kernel) (.inl rfl) (by first | trivial | simp only [sigsOk_nil,sigsOk_some,sigsOk_none,sig_tr,sig_pt,sig_mt,sig_agg,List.map_cons,List.map_nil,sig1_tr,sig1_pt,sig1_v,and_self,true_and,List.length_map,List.length_set]) ?_
    simp -dsimp -implicitDefEqProofs (disch:=first | omega | (simp only [lenr];try omega)) only [↓amPre,amAll,↓reduceIte,reduceCtorEq,Nat.reduceEqDiff,Nat.reduceBEq,Nat.reduceAdd,Nat.reduceLeDiff,Nat.reduceSub,Nat.reduceMul,Int.reduceToNat,List.size_toArray,tyF,MM,bu0,cbU49]
    refine callP_of (q1) ?_
    simp -dsimp -implicitDefEqProofs (disch:=first | omega | (simp only [lenr];try omega)) only [↓amPre,amAll,↓reduceIte,reduceCtorEq,Nat.reduceEqDiff,Nat.reduceBEq,Nat.reduceAdd,Nat.reduceLeDiff,Nat.reduceSub,Nat.reduceMul,Int.reduceToNat,List.size_toArray,tyF,MM,bu0,cbU49,Ck.nilPt]
  obtain ⟨hd,hR⟩:=sR_yes hs
  have hF:=sR_fin hs
  have q1:=Ck.exploreYes p h hs
  have hn20:=hd.1.1
  have hle:=sR_len hd
  rw [fmP,hR]
  dsimp only
  have qw:=fun i hi hl=>wordI p (Bf.out p.mv (letL p.mv.length) p.n.toNat 3000) .any (nxO p.mv (letL p.mv.length) p.n.toNat 3000) hF.tm i hi hF.ok hl
  have l1:=isDepthI md
  have l2:=iwithin ms 0 20
  unfold exT at q1
  generalize nxO p.mv (letL p.mv.length) p.n.toNat 3000=Nx at *
  generalize Bf.out p.mv (letL p.mv.length) p.n.toNat 3000=e at *
  by_cases b1:within md 0 30=true
  case neg =>
    have hz:fmR (letL p.mv.length) e true md ms=([],false):=by rw [fmR,if_neg];exact fun q=>b1 q.2.1.1
    rw [hz]
    rw [show within md 0 30=false by simpa using b1] at l1
    refine spec_of_awp (M:=MM) (np:=3) (fz:=false) mixed Try.func61 rfl rfl (by decide) rfl (Nat.le_refl _) (by decide +kernel) (.inl rfl) (by first | trivial | simp only [sigsOk_nil,sigsOk_some,sigsOk_none,sig_tr,sig_pt,sig_mt,sig_agg,List.map_cons,List.map_nil,sig1_tr,sig1_pt,sig1_v,and_self,true_and,List.length_map,List.length_set]) ?_
    simp -dsimp -implicitDefEqProofs (disch:=first | omega | (simp only [lenr];try omega)) only [↓amPre,amAll,↓reduceIte,reduceCtorEq,Nat.reduceEqDiff,Nat.reduceBEq,Nat.reduceAdd,Nat.reduceLeDiff,Nat.reduceSub,Nat.reduceMul,Int.reduceToNat,List.size_toArray,tyF,MM,bu0,cbU49]
    refine callP_of (q1) ?_
    simp -dsimp -implicitDefEqProofs (disch:=first | omega | (simp only [lenr];try omega)) only [↓amPre,amAll,↓reduceIte,reduceCtorEq,Nat.reduceEqDiff,Nat.reduceBEq,Nat.reduceAdd,Nat.reduceLeDiff,Nat.reduceSub,Nat.reduceMul,Int.reduceToNat,List.size_toArray,tyF,MM,bu0,cbU49]
    refine callP_of (l1) ?_
    simp -dsimp -implicitDefEqProofs (disch:=first | omega | (simp only [lenr];try omega)) only [↓amPre,amAll,↓reduceIte,reduceCtorEq,Nat.reduceEqDiff,Nat.reduceBEq,Nat.reduceAdd,Nat.reduceLeDiff,Nat.reduceSub,Nat.reduceMul,Int.reduceToNat,List.size_toArray,tyF,MM,bu0,cbU49]
  rw [b1] at l1
  by_cases b2:within ms 0 20=true
  case neg =>
    have hz:fmR (letL p.mv.length) e true md ms=([],false):=by rw [fmR,if_neg];exact fun q=>b2 q.2.1.2
    rw [hz]
    rw [show within ms 0 20=false by simpa using b2] at l2
    refine spec_of_awp (M:=MM) (np:=3) (fz:=false) mixed Try.func61 rfl rfl (by decide) rfl (Nat.le_refl _) (by decide +kernel) (.inl rfl) (by first | trivial | simp only [sigsOk_nil,sigsOk_some,sigsOk_none,sig_tr,sig_pt,sig_mt,sig_agg,List.map_cons,List.map_nil,sig1_tr,sig1_pt,sig1_v,and_self,true_and,List.length_map,List.length_set]) ?_
    simp -dsimp -implicitDefEqProofs (disch:=first | omega | (simp only [lenr];try omega)) only [↓amPre,amAll,↓reduceIte,reduceCtorEq,Nat.reduceEqDiff,Nat.reduceBEq,Nat.reduceAdd,Nat.reduceLeDiff,Nat.reduceSub,Nat.reduceMul,Int.reduceToNat,List.size_toArray,tyF,MM,bu0,cbU49]
    refine callP_of (q1) ?_
    simp -dsimp -implicitDefEqProofs (disch:=first | omega | (simp only [lenr];try omega)) only [↓amPre,amAll,↓reduceIte,reduceCtorEq,Nat.reduceEqDiff,Nat.reduceBEq,Nat.reduceAdd,Nat.reduceLeDiff,Nat.reduceSub,Nat.reduceMul,Int.reduceToNat,List.size_toArray,tyF,MM,bu0,cbU49]
    refine callP_of (l1) ?_
    simp -dsimp -implicitDefEqProofs (disch:=first | omega | (simp only [lenr];try omega)) only [↓amPre,amAll,↓reduceIte,reduceCtorEq,Nat.reduceEqDiff,Nat.reduceBEq,Nat.reduceAdd,Nat.reduceLeDiff,Nat.reduceSub,Nat.reduceMul,Int.reduceToNat,List.size_toArray,tyF,MM,bu0,cbU49]
    refine callP_of (l2) ?_
    simp -dsimp -implicitDefEqProofs (disch:=first | omega | (simp only [lenr];try omega)) only [↓amPre,amAll,↓reduceIte,reduceCtorEq,Nat.reduceEqDiff,Nat.reduceBEq,Nat.reduceAdd,Nat.reduceLeDiff,Nat.reduceSub,Nat.reduceMul,Int.reduceToNat,List.size_toArray,tyF,MM,bu0,cbU49]
  rw [b2] at l2
  have hm:=within_iff.1 b1
  refine spec_of_awp (M:=MM) (np:=3) (fz:=false) mixed Try.func61 rfl rfl (by decide) rfl (Nat.le_refl _) (by decide +kernel) (.inl rfl) (by first | trivial | simp only [sigsOk_nil,sigsOk_some,sigsOk_none,sig_tr,sig_pt,sig_mt,sig_agg,List.map_cons,List.map_nil,sig1_tr,sig1_pt,sig1_v,and_self,true_and,List.length_map,List.length_set]) ?_
  simp -dsimp -implicitDefEqProofs (disch:=first | omega | (simp only [lenr];try omega)) only [↓amPre,amAll,↓reduceIte,reduceCtorEq,Nat.reduceEqDiff,Nat.reduceBEq,Nat.reduceAdd,Nat.reduceLeDiff,Nat.reduceSub,Nat.reduceMul,Int.reduceToNat,List.size_toArray,tyF,MM,bu0,cbU49]
  refine callP_of (q1) ?_
  simp -dsimp -implicitDefEqProofs (disch:=first | omega | (simp only [lenr];try omega)) only [↓amPre,amAll,↓reduceIte,reduceCtorEq,Nat.reduceEqDiff,Nat.reduceBEq,Nat.reduceAdd,Nat.reduceLeDiff,Nat.reduceSub,Nat.reduceMul,Int.reduceToNat,List.size_toArray,tyF,MM,bu0,cbU49]
  refine callP_of (l1) ?_
  simp -dsimp -implicitDefEqProofs (disch:=first | omega | (simp only [lenr];try omega)) only [↓amPre,amAll,↓reduceIte,reduceCtorEq,Nat.reduceEqDiff,Nat.reduceBEq,Nat.reduceAdd,Nat.reduceLeDiff,Nat.reduceSub,Nat.reduceMul,Int.reduceToNat,List.size_toArray,tyF,MM,bu0,cbU49]
  refine callP_of (l2) ?_
  simp -dsimp -implicitDefEqProofs (disch:=first | omega | (simp only [lenr];try omega)) only [↓amPre,amAll,↓reduceIte,reduceCtorEq,Nat.reduceEqDiff,Nat.reduceBEq,Nat.reduceAdd,Nat.reduceLeDiff,Nat.reduceSub,Nat.reduceMul,Int.reduceToNat,List.size_toArray,tyF,MM,bu0,cbU49]
  have hA16:(letL p.mv.length).length≤16:=by have:=letL_len p.mv.length;have:=hd.1.2.1;omega
  have hok:=hF.ok
  have hl3:e.S.length≤3000:=by omega
  have hfz:fmR (letL p.mv.length) e true md ms=if (fmA (letL p.mv.length) e md ms e.S.length).length≤200 then (fmA (letL p.mv.length) e md ms e.S.length,true) else ([],false):=by
    rw [fmR,b1,b2];simp
  refine awp_loopN 10 69 2 (by simp -dsimp -implicitDefEqProofs (disch:=first | omega | (simp only [lenr];try omega)) only [↓amPre,amAll,↓reduceIte,reduceCtorEq,Nat.reduceEqDiff,Nat.reduceBEq,Nat.reduceAdd,Nat.reduceLeDiff,Nat.reduceSub,Nat.reduceMul,Int.reduceToNat,List.size_toArray,tyF,MM,bu0,cbU49]) (by decide) (fun i st=>i≤e.S.length∧st.fr 36=.i64 i∧st.fr 35=.i64 e.S.length∧st.fr 34=.ref 16 [(0,0),(0,3)] 1 0 e.S.length∧st.fr 8=.loc 16 [(0,0)] 0 0∧st.fr 1=.i64 md∧st.fr 2=.i64 ms∧st.fr 10=.ref 69 [] 2 0 (fmA (letL p.mv.length) e md ms i).length∧st.mem 16=some (.tup [exA p e.S (cst e.D) (idxM e.S) (cst e.Pa) (byL (letL p.mv.length) e.J) (nxT Nx),.bl true])∧st.mem 69=some (ttr (fmA (letL p.mv.length) e md ms i))) (e.S.length) ?_ ?_
  · simp -dsimp -implicitDefEqProofs (disch:=first | omega | (simp only [lenr];try omega)) only [↓amPre,amAll,↓reduceIte,reduceCtorEq,Nat.reduceEqDiff,Nat.reduceBEq,Nat.reduceAdd,Nat.reduceLeDiff,Nat.reduceSub,Nat.reduceMul,Int.reduceToNat,List.size_toArray,tyF,MM,bu0,cbU49,nilAs_eq]
    exact ⟨Nat.zero_le _,rfl,rfl,rfl⟩
  rintro i st _ ⟨hi,f36,f35,f34,f8,f1,f2,f10,m16,m69⟩
  have hfl:=Bf.fmA_len (A:=letL p.mv.length) (e:=e) (md:=md) (ms:=ms) i
  by_cases c1:i<e.S.length
  · have hsm:=mem_getD e.S i default c1
    have hpn:=(hok.el _ hsm).1
    have q2:=iSupport (e.S.getD i default) hpn.2
    have q3:=lenI (movL (e.S.getD i default) (e.S.getD i default).length)
    have q4:=qw i c1 hl3
    have hst:fmA (letL p.mv.length) e md ms (i+1)=if i≠0∧fmC e md ms i then fmA (letL p.mv.length) e md ms i++[fmT (letL p.mv.length) e i] else fmA (letL p.mv.length) e md ms i:=rfl
    have hln:lsN e.S i=((movL (e.S.getD i default) (e.S.getD i default).length).length:Int):=rfl
    have hg:(e.S.map fun x=>isl x).getD i .any=isl (e.S.getD i default):=by rw [getD_eq _ _ _ (by simp;omega),List.getElem_map,getD_eq _ _ _ (by omega)]
    have hgD:((cst e.D).map AV.i64).getD i .any=.i64 ((e.D.getD i 0:Nat):Int):=by rw [getD_eq _ _ _ (by rw [List.length_map,cst_len,hok.lD];exact c1),List.getElem_map,← getD_eq _ _ 0,Ch.cst_get (by rw [hok.lD];exact c1)]
    have hlD:(cst e.D).length=e.S.length:=by rw [cst_len,hok.lD]
    have hT:Twist.tr (fmT (letL p.mv.length) e i)=.agg [itr (ltr (letL p.mv.length) (wdE e i)),itr (movL (e.S.getD i default) (e.S.getD i default).length)]:=rfl
    have hS:fmC e md ms i↔(e.D.getD i 0:Int)≤md∧lsN e.S i≤ms:=Iff.rfl
    have c1':(i:Int)<(e.S.length:Int):=by omega
    rw [← hln] at q3
    have htw:(⟨ltr (letL p.mv.length) (wdE e i),movL (e.S.getD i default) (e.S.getD i default).length⟩:Twist)=fmT (letL p.mv.length) e i:=rfl
    generalize fmT (letL p.mv.length) e i=tw at *
    generalize fmA (letL p.mv.length) e md ms (i+1)=L1 at *
    generalize fmA (letL p.mv.length) e md ms i=L0 at *
    generalize lsN e.S i=n1 at *
    generalize (e.D.getD i 0:Nat)=dd at *
    by_cases c0:i=0
    · rw [if_neg (fun q=>q.1 c0)] at hst
      rw [hst]
      have c0':decide ((i:Int)=0)=true:=decide_eq_true (by omega)
      simp -dsimp -implicitDefEqProofs (disch:=first | omega | (simp only [lenr];try omega)) only [↓amPre,amAll,↓reduceIte,reduceCtorEq,Nat.reduceEqDiff,Nat.reduceBEq,Nat.reduceAdd,Nat.reduceLeDiff,Nat.reduceSub,Nat.reduceMul,Int.reduceToNat,List.size_toArray,tyF,MM,bu0,cbU49,f36,f35,f34,f8,f1,f2,f10,m16,m69,lt_true c1',hg]
      refine callP_of (q2) ?_
      simp -dsimp -implicitDefEqProofs (disch:=first | omega | (simp only [lenr];try omega)) only [↓amPre,amAll,↓reduceIte,reduceCtorEq,Nat.reduceEqDiff,Nat.reduceBEq,Nat.reduceAdd,Nat.reduceLeDiff,Nat.reduceSub,Nat.reduceMul,Int.reduceToNat,List.size_toArray,tyF,MM,bu0,cbU49,f36,f35,f34,f8,f1,f2,f10,m16,m69,c0']
      exact ⟨c1,by omega⟩
    have c0':decide ((i:Int)=0)=false:=decide_eq_false (by omega)
    by_cases d1:(dd:Int)≤md
    case neg =>
      rw [if_neg (fun q=>d1 (hS.1 q.2).1)] at hst
      rw [hst]
      simp -dsimp -implicitDefEqProofs (disch:=first | omega | (simp only [lenr];try omega)) only [↓amPre,amAll,↓reduceIte,reduceCtorEq,Nat.reduceEqDiff,Nat.reduceBEq,Nat.reduceAdd,Nat.reduceLeDiff,Nat.reduceSub,Nat.reduceMul,Int.reduceToNat,List.size_toArray,tyF,MM,bu0,cbU49,f36,f35,f34,f8,f1,f2,f10,m16,m69,lt_true c1',hg]
      refine callP_of (q2) ?_
      simp -dsimp -implicitDefEqProofs (disch:=first | omega | (simp only [lenr];try omega)) only [↓amPre,amAll,↓reduceIte,reduceCtorEq,Nat.reduceEqDiff,Nat.reduceBEq,Nat.reduceAdd,Nat.reduceLeDiff,Nat.reduceSub,Nat.reduceMul,Int.reduceToNat,List.size_toArray,tyF,MM,bu0,cbU49,f36,f35,f34,f8,f1,f2,f10,m16,m69,c0',hgD,hlD,lt_true (Int.not_le.1 d1)]
      exact ⟨c1,by omega⟩
    by_cases d2:n1≤ms
    case neg =>
      rw [if_neg (fun q=>d2 (hS.1 q.2).2)] at hst
      rw [hst]
      simp -dsimp -implicitDefEqProofs (disch:=first | omega | (simp only [lenr];try omega)) only [↓amPre,amAll,↓reduceIte,reduceCtorEq,Nat.reduceEqDiff,Nat.reduceBEq,Nat.reduceAdd,Nat.reduceLeDiff,Nat.reduceSub,Nat.reduceMul,Int.reduceToNat,List.size_toArray,tyF,MM,bu0,cbU49,f36,f35,f34,f8,f1,f2,f10,m16,m69,lt_true c1',hg]
      refine callP_of (q2) ?_
      simp -dsimp -implicitDefEqProofs (disch:=first | omega | (simp only [lenr];try omega)) only [↓amPre,amAll,↓reduceIte,reduceCtorEq,Nat.reduceEqDiff,Nat.reduceBEq,Nat.reduceAdd,Nat.reduceLeDiff,Nat.reduceSub,Nat.reduceMul,Int.reduceToNat,List.size_toArray,tyF,MM,bu0,cbU49,f36,f35,f34,f8,f1,f2,f10,m16,m69,c0',hgD,hlD,lt_false d1]
      refine callP_of (q3) ?_
      simp -dsimp -implicitDefEqProofs (disch:=first | omega | (simp only [lenr];try omega)) only [↓amPre,amAll,↓reduceIte,reduceCtorEq,Nat.reduceEqDiff,Nat.reduceBEq,Nat.reduceAdd,Nat.reduceLeDiff,Nat.reduceSub,Nat.reduceMul,Int.reduceToNat,List.size_toArray,tyF,MM,bu0,cbU49,f36,f35,f34,f8,f1,f2,f10,m16,m69,lt_true (Int.not_le.1 d2)]
      exact ⟨c1,by omega⟩
    rw [if_pos ⟨c0,hS.2 ⟨d1,d2⟩⟩] at hst
    rw [hst]
    have hlL:(L0++[tw]).length=L0.length+1:=by simp
    simp -dsimp -implicitDefEqProofs (disch:=first | omega | (simp only [lenr];try omega)) only [↓amPre,amAll,↓reduceIte,reduceCtorEq,Nat.reduceEqDiff,Nat.reduceBEq,Nat.reduceAdd,Nat.reduceLeDiff,Nat.reduceSub,Nat.reduceMul,Int.reduceToNat,List.size_toArray,tyF,MM,bu0,cbU49,f36,f35,f34,f8,f1,f2,f10,m16,m69,lt_true c1',hg]
    refine callP_of (q2) ?_
    simp -dsimp -implicitDefEqProofs (disch:=first | omega | (simp only [lenr];try omega)) only [↓amPre,amAll,↓reduceIte,reduceCtorEq,Nat.reduceEqDiff,Nat.reduceBEq,Nat.reduceAdd,Nat.reduceLeDiff,Nat.reduceSub,Nat.reduceMul,Int.reduceToNat,List.size_toArray,tyF,MM,bu0,cbU49,f36,f35,f34,f8,f1,f2,f10,m16,m69,c0',hgD,hlD,lt_false d1]
    refine callP_of (q3) ?_
    simp -dsimp -implicitDefEqProofs (disch:=first | omega | (simp only [lenr];try omega)) only [↓amPre,amAll,↓reduceIte,reduceCtorEq,Nat.reduceEqDiff,Nat.reduceBEq,Nat.reduceAdd,Nat.reduceLeDiff,Nat.reduceSub,Nat.reduceMul,Int.reduceToNat,List.size_toArray,tyF,MM,bu0,cbU49,f36,f35,f34,f8,f1,f2,f10,m16,m69,lt_false d2,fz1,fz2,fz3]
    refine callP_of (q4) ?_
    simp -dsimp -implicitDefEqProofs (disch:=first | omega | (simp only [lenr];try omega)) only [↓amPre,amAll,↓reduceIte,reduceCtorEq,Nat.reduceEqDiff,Nat.reduceBEq,Nat.reduceAdd,Nat.reduceLeDiff,Nat.reduceSub,Nat.reduceMul,Int.reduceToNat,List.size_toArray,tyF,MM,bu0,cbU49,f36,f35,f34,f8,f1,f2,f10,m16,m69,hT]
    exact ⟨c1,by omega,by rw [← htw]⟩
  · have hie:i=e.S.length:=by omega
    subst hie
    have c1':¬ (e.S.length:Int)<(e.S.length:Int):=by omega
    by_cases c2:(fmA (letL p.mv.length) e md ms e.S.length).length≤200
    · rw [hfz,if_pos c2]
      generalize fmA (letL p.mv.length) e md ms e.S.length=L0 at *
      simp -dsimp -implicitDefEqProofs (disch:=first | omega | (simp only [lenr];try omega)) only [↓amPre,amAll,↓reduceIte,reduceCtorEq,Nat.reduceEqDiff,Nat.reduceBEq,Nat.reduceAdd,Nat.reduceLeDiff,Nat.reduceSub,Nat.reduceMul,Int.reduceToNat,List.size_toArray,tyF,MM,bu0,cbU49,f36,f35,f34,f8,f1,f2,f10,m16,m69,lt_false (Int.not_lt.1 c1'),lt_false (show (L0.length:Int)≤200 by omega)]
    · rw [hfz,if_neg c2]
      generalize fmA (letL p.mv.length) e md ms e.S.length=L0 at *
      simp -dsimp -implicitDefEqProofs (disch:=first | omega | (simp only [lenr];try omega)) only [↓amPre,amAll,↓reduceIte,reduceCtorEq,Nat.reduceEqDiff,Nat.reduceBEq,Nat.reduceAdd,Nat.reduceLeDiff,Nat.reduceSub,Nat.reduceMul,Int.reduceToNat,List.size_toArray,tyF,MM,bu0,cbU49,f36,f35,f34,f8,f1,f2,f10,m16,m69,lt_false (Int.not_lt.1 c1'),lt_true (show (200:Int)<L0.length by omega)]
end Wo
end Go.AM
set_option maxRecDepth 8000
namespace Go.AM
namespace Wo
open Go.Proofs
open Ch (PN pt idL cst cst_app cst_len)
open Bf (Ex nxO idxM byL dOf rvK ltr wdE dw Fin srtS fmT fmC fmA fmR lsN movL_len)
open Ck (sfr exA exT nxT stN)
open Sr (exC fS depthOfS sR sR_yes sR_no sR_ok sR_len searchC)
theorem sFindMacros (p:Puzz) (md ms:Int) (h:smallP p):SpecAt Try.prog 60 [p.sl,.i64 md,.i64 ms] (.tup [ttr (fmP p md ms).1,.bl (fmP p md ms).2]):=by
  have q1:=searchC p h
  have l1:=inRange md 0 30
  have l2:=inRange ms 0 20
  by_cases hs:1≤stN p∧stN p≤3000
  case neg =>
    have hw:=sR_no hs
    have hz:fmP p md ms=([],false):=by rw [fmP,fmR,if_neg];rw [hw];exact fun q=>by cases q.1
    rw [hz]
    rw [hw] at q1
    generalize (sR p).1=e at *
    refine spec_of_awp_any (M:=MM) (np:=3) (X:=[12]) (fz:=false) mixed Try.func60 rfl rfl (by decide) rfl (Nat.le_refl _) (by decide +kernel) (.inl rfl) (by first | trivial | simp only [sigsOk_nil,sigsOk_some,sigsOk_none,sig_tr,sig_pt,sig_mt,sig_agg,List.map_cons,List.map_nil,sig1_tr,sig1_pt,sig1_v,and_self,true_and,List.length_map,List.length_set]) ?_
    simp -dsimp -implicitDefEqProofs (disch:=first | omega | (simp only [lenr];try omega)) only [↓amPre,amAll,↓reduceIte,reduceCtorEq,Nat.reduceEqDiff,Nat.reduceBEq,Nat.reduceAdd,Nat.reduceLeDiff,Nat.reduceSub,Nat.reduceMul,Int.reduceToNat,List.size_toArray,tyF,MM,bu0,cbU49]
    refine callP_of (q1) ?_
    simp -dsimp -implicitDefEqProofs (disch:=first | omega | (simp only [lenr];try omega)) only [↓amPre,amAll,↓reduceIte,reduceCtorEq,Nat.reduceEqDiff,Nat.reduceBEq,Nat.reduceAdd,Nat.reduceLeDiff,Nat.reduceSub,Nat.reduceMul,Int.reduceToNat,List.size_toArray,tyF,MM,bu0,cbU49]
  obtain ⟨hd,hR⟩:=sR_yes hs
  have hF:=sR_fin hs
  have hn20:=hd.1.1
  have hle:=sR_len hd
  rw [fmP,hR]
  rw [hR] at q1
  dsimp only at q1 ⊢
  have qw:=fun i hl hi=>wordForS p (Bf.out p.mv (letL p.mv.length) p.n.toNat 3000) true hd hF hl i hi
  generalize Bf.out p.mv (letL p.mv.length) p.n.toNat 3000=e at *
  by_cases b1:within md 0 30=true
  case neg =>
    have hz:fmR (letL p.mv.length) e true md ms=([],false):=by rw [fmR,if_neg];exact fun q=>b1 q.2.1.1
    rw [hz]
    rw [show within md 0 30=false by simpa using b1] at l1
    refine spec_of_awp_any (M:=MM) (np:=3) (X:=[12]) (fz:=false) mixed Try.func60 rfl rfl (by decide) rfl (Nat.le_refl _) (by decide +kernel) (.inl rfl) (by first | trivial | simp only [sigsOk_nil,sigsOk_some,sigsOk_none,sig_tr,sig_pt,sig_mt,sig_agg,List.map_cons,List.map_nil,sig1_tr,sig1_pt,sig1_v,and_self,true_and,List.length_map,List.length_set]) ?_
    simp -dsimp -implicitDefEqProofs (disch:=first | omega | (simp only [lenr];try omega)) only [↓amPre,amAll,↓reduceIte,reduceCtorEq,Nat.reduceEqDiff,Nat.reduceBEq,Nat.reduceAdd,Nat.reduceLeDiff,Nat.reduceSub,Nat.reduceMul,Int.reduceToNat,List.size_toArray,tyF,MM,bu0,cbU49]
    refine callP_of (q1) ?_
    simp -dsimp -implicitDefEqProofs (disch:=first | omega | (simp only [lenr];try omega)) only [↓amPre,amAll,↓reduceIte,reduceCtorEq,Nat.reduceEqDiff,Nat.reduceBEq,Nat.reduceAdd,Nat.reduceLeDiff,Nat.reduceSub,Nat.reduceMul,Int.reduceToNat,List.size_toArray,tyF,MM,bu0,cbU49]
    refine callP_of (l1) ?_
    simp -dsimp -implicitDefEqProofs (disch:=first | omega | (simp only [lenr];try omega)) only [↓amPre,amAll,↓reduceIte,reduceCtorEq,Nat.reduceEqDiff,Nat.reduceBEq,Nat.reduceAdd,Nat.reduceLeDiff,Nat.reduceSub,Nat.reduceMul,Int.reduceToNat,List.size_toArray,tyF,MM,bu0,cbU49]
  rw [b1] at l1
  by_cases b2:within ms 0 20=true
  case neg =>
    have hz:fmR (letL p.mv.length) e true md ms=([],false):=by rw [fmR,if_neg];exact fun q=>b2 q.2.1.2
    rw [hz]
    rw [show within ms 0 20=false by simpa using b2] at l2
    refine spec_of_awp_any (M:=MM) (np:=3) (X:=[12]) (fz:=false) mixed Try.func60 rfl rfl (by decide) rfl (Nat.le_refl _) (by decide +kernel) (.inl rfl) (by first | trivial | simp only [sigsOk_nil,sigsOk_some,sigsOk_none,sig_tr,sig_pt,sig_mt,sig_agg,List.map_cons,List.map_nil,sig1_tr,sig1_pt,sig1_v,and_self,true_and,List.length_map,List.length_set]) ?_
    simp -dsimp -implicitDefEqProofs (disch:=first | omega | (simp only [lenr];try omega)) only [↓amPre,amAll,↓reduceIte,reduceCtorEq,Nat.reduceEqDiff,Nat.reduceBEq,Nat.reduceAdd,Nat.reduceLeDiff,Nat.reduceSub,Nat.reduceMul,Int.reduceToNat,List.size_toArray,tyF,MM,bu0,cbU49]
    refine callP_of (q1) ?_
    simp -dsimp -implicitDefEqProofs (disch:=first | omega | (simp only [lenr];try omega)) only [↓amPre,amAll,↓reduceIte,reduceCtorEq,Nat.reduceEqDiff,Nat.reduceBEq,Nat.reduceAdd,Nat.reduceLeDiff,Nat.reduceSub,Nat.reduceMul,Int.reduceToNat,List.size_toArray,tyF,MM,bu0,cbU49]
    refine callP_of (l1) ?_
    simp -dsimp -implicitDefEqProofs (disch:=first | omega | (simp only [lenr];try omega)) only [↓amPre,amAll,↓reduceIte,reduceCtorEq,Nat.reduceEqDiff,Nat.reduceBEq,Nat.reduceAdd,Nat.reduceLeDiff,Nat.reduceSub,Nat.reduceMul,Int.reduceToNat,List.size_toArray,tyF,MM,bu0,cbU49]
    refine callP_of (l2) ?_
    simp -dsimp -implicitDefEqProofs (disch:=first | omega | (simp only [lenr];try omega)) only [↓amPre,amAll,↓reduceIte,reduceCtorEq,Nat.reduceEqDiff,Nat.reduceBEq,Nat.reduceAdd,Nat.reduceLeDiff,Nat.reduceSub,Nat.reduceMul,Int.reduceToNat,List.size_toArray,tyF,MM,bu0,cbU49]
  rw [b2] at l2
  have hm:=within_iff.1 b1
  have hok:=hF.ok
  have hl3:e.S.length≤3000:=by omega
  have hz1:=hok.z.1
  have hfz:fmR (letL p.mv.length) e true md ms=if (fmA (letL p.mv.length) e md ms e.S.length).length≤200 then (fmA (letL p.mv.length) e md ms e.S.length,true) else ([],false):=by
    rw [fmR,b1,b2];simp
  have hgS:(e.S.map fun x=>isl x).length=e.S.length:=by simp
  have hlD:(cst e.D).length=e.S.length:=by rw [cst_len,hok.lD]
  refine spec_of_awp_any (M:=MM) (np:=3) (X:=[12]) (fz:=false) mixed Try.func60 rfl rfl (by decide) rfl (Nat.le_refl _) (by decide +kernel) (.inl rfl) (by first | trivial | simp only [sigsOk_nil,sigsOk_some,sigsOk_none,sig_tr,sig_pt,sig_mt,sig_agg,List.map_cons,List.map_nil,sig1_tr,sig1_pt,sig1_v,and_self,true_and,List.length_map,List.length_set]) ?_
  simp -dsimp -implicitDefEqProofs (disch:=first | omega | (simp only [lenr];try omega)) only [↓amPre,amAll,↓reduceIte,reduceCtorEq,Nat.reduceEqDiff,Nat.reduceBEq,Nat.reduceAdd,Nat.reduceLeDiff,Nat.reduceSub,Nat.reduceMul,Int.reduceToNat,List.size_toArray,tyF,MM,bu0,cbU49]
  refine callP_of (q1) ?_
  simp -dsimp -implicitDefEqProofs (disch:=first | omega | (simp only [lenr];try omega)) only [↓amPre,amAll,↓reduceIte,reduceCtorEq,Nat.reduceEqDiff,Nat.reduceBEq,Nat.reduceAdd,Nat.reduceLeDiff,Nat.reduceSub,Nat.reduceMul,Int.reduceToNat,List.size_toArray,tyF,MM,bu0,cbU49]
  refine callP_of (l1) ?_
  simp -dsimp -implicitDefEqProofs (disch:=first | omega | (simp only [lenr];try omega)) only [↓amPre,amAll,↓reduceIte,reduceCtorEq,Nat.reduceEqDiff,Nat.reduceBEq,Nat.reduceAdd,Nat.reduceLeDiff,Nat.reduceSub,Nat.reduceMul,Int.reduceToNat,List.size_toArray,tyF,MM,bu0,cbU49]
  refine callP_of (l2) ?_
  simp -dsimp -implicitDefEqProofs (disch:=first | omega | (simp only [lenr];try omega)) only [↓amPre,amAll,↓reduceIte,reduceCtorEq,Nat.reduceEqDiff,Nat.reduceBEq,Nat.reduceAdd,Nat.reduceLeDiff,Nat.reduceSub,Nat.reduceMul,Int.reduceToNat,List.size_toArray,tyF,MM,bu0,cbU49]
  refine awp_loopR 13 74 (.tr 2 []) (by simp -dsimp -implicitDefEqProofs (disch:=first | omega | (simp only [lenr];try omega)) only [↓amPre,amAll,↓reduceIte,reduceCtorEq,Nat.reduceEqDiff,Nat.reduceBEq,Nat.reduceAdd,Nat.reduceLeDiff,Nat.reduceSub,Nat.reduceMul,Int.reduceToNat,List.size_toArray,tyF,MM,bu0,cbU49]) (by decide) (by decide) (by decide) (fun k st=>k≤(e.S.length - 1)∧st.fr 11=.i64 (k+1:Nat)∧st.fr 9=.loc 9 [] 0 0∧st.fr 3=.loc 3 [] 0 0∧st.fr 1=.i64 md∧st.fr 2=.i64 ms∧st.fr 8=.ref 74 [] 2 0 (fmA (letL p.mv.length) e md ms (k+1)).length∧st.mem 9=some (.pt 4 (fS e.S (cst e.D) (srtS e.S) true))∧st.mem 3=some (.pt 3 p.sl)∧st.mem 74=some (ttr (fmA (letL p.mv.length) e md ms (k+1)))∧((fmA (letL p.mv.length) e md ms (k+1)).length≤200)) ((e.S.length - 1)) ?_ ?_
  · simp -dsimp -implicitDefEqProofs (disch:=first | omega | (simp only [lenr];try omega)) only [↓amPre,amAll,↓reduceIte,reduceCtorEq,Nat.reduceEqDiff,Nat.reduceBEq,Nat.reduceAdd,Nat.reduceLeDiff,Nat.reduceSub,Nat.reduceMul,Int.reduceToNat,List.size_toArray,tyF,MM,bu0,cbU49,ren_eq]
    have hf1:fmA (letL p.mv.length) e md ms (0+1)=[]:=by rw [fmA,if_neg (fun q=>q.1 rfl)];rfl
    rw [hf1]
    exact ⟨Nat.zero_le _,rfl,rfl,rfl,by simp⟩
  rintro k st _ ⟨hk,f11,f9,f3,f1,f2,f8,m9,m3,m74,ek⟩
  by_cases c1:k+1<e.S.length
  · have hsm:=mem_getD e.S (k+1) default c1
    have hpn:=(hok.el _ hsm).1
    have q2:=moved (e.S.getD (k+1) default) (by have:=hpn.1;omega)
    have q4:=qw (k+1) hl3 c1
    have hst:fmA (letL p.mv.length) e md ms (k+1+1)=if k+1≠0∧fmC e md ms (k+1) then fmA (letL p.mv.length) e md ms (k+1)++[fmT (letL p.mv.length) e (k+1)] else fmA (letL p.mv.length) e md ms (k+1):=rfl
    have hln:lsN e.S (k+1)=((movL (e.S.getD (k+1) default) (e.S.getD (k+1) default).length).length:Int):=rfl
    have hg:(e.S.map fun x=>isl x).getD (k+1) .any=isl (e.S.getD (k+1) default):=by rw [getD_eq _ _ _ (by simp;omega),List.getElem_map,getD_eq _ _ _ (by omega)]
    have hgD:((cst e.D).map AV.i64).getD (k+1) .any=.i64 ((e.D.getD (k+1) 0:Nat):Int):=by rw [getD_eq _ _ _ (by rw [List.length_map,cst_len,hok.lD];exact c1),List.getElem_map,← getD_eq _ _ 0,Ch.cst_get (by rw [hok.lD];exact c1)]
    have htw:(⟨ltr (letL p.mv.length) (wdE e (k+1)),movL (e.S.getD (k+1) default) (e.S.getD (k+1) default).length⟩:Twist)=fmT (letL p.mv.length) e (k+1):=rfl
    have hT:Twist.tr (fmT (letL p.mv.length) e (k+1))=.agg [itr (ltr (letL p.mv.length) (wdE e (k+1))),itr (movL (e.S.getD (k+1) default) (e.S.getD (k+1) default).length)]:=rfl
    have hS:fmC e md ms (k+1)↔(e.D.getD (k+1) 0:Int)≤md∧lsN e.S (k+1)≤ms:=Iff.rfl
    have hstop:=fun hh=>Bf.fmA_stop (md:=md) (ms:=ms) hF.tm (i:=k+1) hh (e.S.length - (k+1)) (by omega)
    have hmono:=Bf.fmA_mono (A:=letL p.mv.length) (e:=e) (md:=md) (ms:=ms) (k+1+1) (e.S.length - (k+1+1))
    rw [show k+1+(e.S.length - (k+1))=e.S.length by omega] at hstop
    rw [show k+1+1+(e.S.length - (k+1+1))=e.S.length by omega] at hmono
    have c1':((k+1:Nat):Int)<(e.S.length:Int):=by omega
    have hwk:IntKind.i64.wrap (((k+1:Nat):Int)+1)=((k+1+1:Nat):Int):=by rw [wrap64_id (by omega)];omega
    generalize fmT (letL p.mv.length) e (k+1)=tw at *
    generalize fmA (letL p.mv.length) e md ms (k+1+1)=L1 at *
    generalize fmA (letL p.mv.length) e md ms (k+1)=L0 at *
    generalize (e.D.getD (k+1) 0:Nat)=dd at *
    generalize lsN e.S (k+1)=n1 at *
    by_cases d1:(dd:Int)≤md
    case neg =>
      have hL:=hstop d1
      rw [hfz,hL,if_pos ek]
      simp -dsimp -implicitDefEqProofs (disch:=first | omega | (simp only [lenr];try omega)) only [↓amPre,amAll,↓reduceIte,reduceCtorEq,Nat.reduceEqDiff,Nat.reduceBEq,Nat.reduceAdd,Nat.reduceLeDiff,Nat.reduceSub,Nat.reduceMul,Int.reduceToNat,List.size_toArray,tyF,MM,bu0,cbU49,f11,f9,f3,f1,f2,f8,m9,m3,m74,hgS,hlD,hgD,lt_true c1',lt_false (Int.le_of_lt (Int.not_le.1 d1)),le_false (Int.not_le.1 d1)]
    by_cases d2:n1≤ms
    case neg =>
      rw [if_neg (fun q=>d2 (hS.1 q.2).2)] at hst
      rw [hst]
      simp -dsimp -implicitDefEqProofs (disch:=first | omega | (simp only [lenr];try omega)) only [↓amPre,amAll,↓reduceIte,reduceCtorEq,Nat.reduceEqDiff,Nat.reduceBEq,Nat.reduceAdd,Nat.reduceLeDiff,Nat.reduceSub,Nat.reduceMul,Int.reduceToNat,List.size_toArray,tyF,MM,bu0,cbU49,f11,f9,f3,f1,f2,f8,m9,m3,m74,hgS,hlD,hgD,hg,lt_true c1',d1]
      refine callP_of (q2) ?_
      simp -dsimp -implicitDefEqProofs (disch:=first | omega | (simp only [lenr];try omega)) only [↓amPre,amAll,↓reduceIte,reduceCtorEq,Nat.reduceEqDiff,Nat.reduceBEq,Nat.reduceAdd,Nat.reduceLeDiff,Nat.reduceSub,Nat.reduceMul,Int.reduceToNat,List.size_toArray,tyF,MM,bu0,cbU49,f11,f9,f3,f1,f2,f8,m9,m3,m74,← hln,lt_true (Int.not_le.1 d2),hwk]
      exact ⟨by omega,by omega⟩
    rw [if_pos ⟨by omega,hS.2 ⟨d1,d2⟩⟩] at hst
    have hlL:(L0++[tw]).length=L0.length+1:=by simp
    by_cases d3:L0.length=200
    · rw [hst,hlL] at hmono
      rw [hfz,if_neg (by omega)]
      simp -dsimp -implicitDefEqProofs (disch:=first | omega | (simp only [lenr];try omega)) only [↓amPre,amAll,↓reduceIte,reduceCtorEq,Nat.reduceEqDiff,Nat.reduceBEq,Nat.reduceAdd,Nat.reduceLeDiff,Nat.reduceSub,Nat.reduceMul,Int.reduceToNat,List.size_toArray,tyF,MM,bu0,cbU49,f11,f9,f3,f1,f2,f8,m9,m3,m74,hgS,hlD,hgD,hg,lt_true c1',d1]
      refine callP_of (q2) ?_
      simp -dsimp -implicitDefEqProofs (disch:=first | omega | (simp only [lenr];try omega)) only [↓amPre,amAll,↓reduceIte,reduceCtorEq,Nat.reduceEqDiff,Nat.reduceBEq,Nat.reduceAdd,Nat.reduceLeDiff,Nat.reduceSub,Nat.reduceMul,Int.reduceToNat,List.size_toArray,tyF,MM,bu0,cbU49,f11,f9,f3,f1,f2,f8,m9,m3,m74,← hln,lt_false d2,d3]
    · rw [hst]
      have d3':¬ (L0.length:Int)=200:=by omega
      simp -dsimp -implicitDefEqProofs (disch:=first | omega | (simp only [lenr];try omega)) only [↓amPre,amAll,↓reduceIte,reduceCtorEq,Nat.reduceEqDiff,Nat.reduceBEq,Nat.reduceAdd,Nat.reduceLeDiff,Nat.reduceSub,Nat.reduceMul,Int.reduceToNat,List.size_toArray,tyF,MM,bu0,cbU49,f11,f9,f3,f1,f2,f8,m9,m3,m74,hgS,hlD,hgD,hg,lt_true c1',d1]
      refine callP_of (q2) ?_
      simp -dsimp -implicitDefEqProofs (disch:=first | omega | (simp only [lenr];try omega)) only [↓amPre,amAll,↓reduceIte,reduceCtorEq,Nat.reduceEqDiff,Nat.reduceBEq,Nat.reduceAdd,Nat.reduceLeDiff,Nat.reduceSub,Nat.reduceMul,Int.reduceToNat,List.size_toArray,tyF,MM,bu0,cbU49,f11,f9,f3,f1,f2,f8,m9,m3,m74,← hln,lt_false d2,d3']
      refine split_go 12 (by decide +kernel) ?_
      simp -dsimp -implicitDefEqProofs (disch:=first | omega | (simp only [lenr];try omega)) only [↓amPre,amAll,↓reduceIte,reduceCtorEq,Nat.reduceEqDiff,Nat.reduceBEq,Nat.reduceAdd,Nat.reduceLeDiff,Nat.reduceSub,Nat.reduceMul,Int.reduceToNat,List.size_toArray,tyF,MM,bu0,cbU49,f11,f9,f3,f1,f2,f8,m9,m3,m74,hgS,hlD,hgD,hg]
      refine callP_of (q4) ?_
      simp -dsimp -implicitDefEqProofs (disch:=first | omega | (simp only [lenr];try omega)) only [↓amPre,amAll,↓reduceIte,reduceCtorEq,Nat.reduceEqDiff,Nat.reduceBEq,Nat.reduceAdd,Nat.reduceLeDiff,Nat.reduceSub,Nat.reduceMul,Int.reduceToNat,List.size_toArray,tyF,MM,bu0,cbU49,f11,f9,f3,f1,f2,f8,m9,m3,m74,hT,hwk]
      exact ⟨by omega,by omega,by rw [← htw],by omega⟩
  · have hie:k+1=e.S.length:=by omega
    have c1':¬ (e.S.length:Int)<(e.S.length:Int):=by omega
    rw [hie] at f11 f8 m74 ek
    rw [hfz,if_pos ek]
    generalize fmA (letL p.mv.length) e md ms e.S.length=L0 at *
    simp -dsimp -implicitDefEqProofs (disch:=first | omega | (simp only [lenr];try omega)) only [↓amPre,amAll,↓reduceIte,reduceCtorEq,Nat.reduceEqDiff,Nat.reduceBEq,Nat.reduceAdd,Nat.reduceLeDiff,Nat.reduceSub,Nat.reduceMul,Int.reduceToNat,List.size_toArray,tyF,MM,bu0,cbU49,f11,f9,f3,f1,f2,f8,m9,m3,m74,hgS,lt_false (Int.not_lt.1 c1')]
end Wo
end Go.AM
set_option maxRecDepth 8000
namespace Go.AM
open Go.Proofs
def dsC (x n:Int) (k:Nat) (L:List (List Int)):Prop:=x+k<2147483647∧(L.length:Int)<n
instance (x n:Int) (k:Nat) (L:List (List Int)):Decidable (dsC x n k L):=by unfold dsC;infer_instance
def dsS (p:Puzz) (x c n:Int):Nat→List (List Int)×List (List Int)
  | 0=>([],[])
  | k+1=>if dsC x n k (dsS p x c n k).1∧scrS p (x+k) c∉(dsS p x c n k).2 then ((dsS p x c n k).1++[scrR p (x+k) c],(dsS p x c n k).2++[scrS p (x+k) c]) else dsS p x c n k
def canDs (p:Puzz) (x c n:Int):Prop:=canScr p x c∧within n 0 12=true
instance (p:Puzz) (x c n:Int):Decidable (canDs p x c n):=by unfold canDs;infer_instance
def dsR (p:Puzz) (x c n:Int):List (List Int):=if canDs p x c n then (dsS p x c n 100).1 else []
end Go.AM
set_option maxRecDepth 8000
namespace Go.AM
namespace Wo
open Go.Proofs
open Ck (stN)
open Bf (fmR fmA)
open Sr (sR sR_yes sR_no sR_ok sR_len)
theorem fmP_ok (p:Puzz) (md ms:Int):(fmP p md ms).1.length≤200∧∀ t∈(fmP p md ms).1,t.to.length≤30∧t.by'.length≤20:=by
  by_cases hs:1≤stN p∧stN p≤3000
  · obtain ⟨hd,hR⟩:=sR_yes hs
    have hF:=sR_fin hs
    have h1:=hd.1.1
    rw [fmP,hR]
    dsimp only
    generalize Bf.out p.mv (letL p.mv.length) p.n.toNat 3000=e at *
    rw [fmR]
    split
    · rename_i c
      refine ⟨c.2.2,Bf.fmA_mem hF.tm hF.ok (within_iff.1 c.2.1.1).2 (by omega) _ (Nat.le_refl _)⟩
    · exact ⟨Nat.zero_le _,fun t ht=>by cases ht⟩
  · have hz:fmP p md ms=([],false):=by rw [fmP,fmR,if_neg];rw [sR_no hs];exact fun q=>by cases q.1
    rw [hz]
    exact ⟨Nat.zero_le _,fun t ht=>by cases ht⟩
end Wo
open Go.Proofs
open Wo (fmP fmP_ok sFindMacros iFindMacros)
theorem lawFindMacros (p:Puzz) (md ms:Int) (hp:wfP p):SpecAt Try.prog 10 [p.sl,.i64 md,.i64 ms] (.bl true):=by
  refine spec_of_awp_any (M:=MM) (np:=3) (X:=[10]) (fz:=true) mixed Try.func10 rfl rfl (by decide) rfl (Nat.le_refl _) (by decide +kernel) (.inr ⟨rfl,rfl⟩) trivial ?_
  simp -dsimp -implicitDefEqProofs (disch:=first | omega | (simp only [lenr];try omega)) only [↓amPre,amAll,↓reduceIte,reduceCtorEq,Nat.reduceEqDiff,Nat.reduceBEq,Nat.reduceAdd,Nat.reduceLeDiff,Nat.reduceSub,Nat.reduceMul,Int.reduceToNat,List.size_toArray,tyF,MM,bu0,cbU49]
  refine callP_of (szPuzzle p 1048576 (by omega) (by omega) hp) ?_
  by_cases c1:(1048576:Int) - p.size<0
  · simp -dsimp -implicitDefEqProofs (disch:=first | omega | (simp only [lenr];try omega)) only [↓amPre,amAll,↓reduceIte,reduceCtorEq,Nat.reduceEqDiff,Nat.reduceBEq,Nat.reduceAdd,Nat.reduceLeDiff,Nat.reduceSub,Nat.reduceMul,Int.reduceToNat,List.size_toArray,tyF,MM,bu0,cbU49,szR_neg c1]
  have c1':0≤(1048576:Int) - p.size:=by omega
  have h:=szP_small hp.1 (by omega) c1'
  have hcn:=cnts_sizeI p.mv
  have hps:p.size=p.nm.length+sizeI p.mv:=by unfold Puzz.size;omega
  obtain ⟨hr1,hr2⟩:=fmP_ok p md ms
  have q1:=sFindMacros p md ms h
  have q2:=iFindMacros p md ms h
  generalize (fmP p md ms).1=r at hr1 hr2 q1 q2
  generalize (fmP p md ms).2=b at q1 q2
  have hsm:∀ t∈r,t.to.length≤1099511627776∧t.by'.length≤1099511627776:=fun t ht=>by have:=hr2 t ht;omega
  have hcb:=cnts_bound r 50 (fun t ht=>by have:=hr2 t ht;rw [tcnt];omega)
  simp -dsimp -implicitDefEqProofs (disch:=first | omega | (simp only [lenr];try omega)) only [↓amPre,amAll,↓reduceIte,reduceCtorEq,Nat.reduceEqDiff,Nat.reduceBEq,Nat.reduceAdd,Nat.reduceLeDiff,Nat.reduceSub,Nat.reduceMul,Int.reduceToNat,List.size_toArray,tyF,MM,bu0,cbU49,szR_pos c1']
  refine callP_of (toPuzzle p h) ?_
  simp -dsimp -implicitDefEqProofs (disch:=first | omega | (simp only [lenr];try omega)) only [↓amPre,amAll,↓reduceIte,reduceCtorEq,Nat.reduceEqDiff,Nat.reduceBEq,Nat.reduceAdd,Nat.reduceLeDiff,Nat.reduceSub,Nat.reduceMul,Int.reduceToNat,List.size_toArray,tyF,MM,bu0,cbU49,ssfz,tfz]
  refine callP_of (q1) ?_
  simp -dsimp -implicitDefEqProofs (disch:=first | omega | (simp only [lenr];try omega)) only [↓amPre,amAll,↓reduceIte,reduceCtorEq,Nat.reduceEqDiff,Nat.reduceBEq,Nat.reduceAdd,Nat.reduceLeDiff,Nat.reduceSub,Nat.reduceMul,Int.reduceToNat,List.size_toArray,tyF,MM,bu0,cbU49,ssfz,tfz]
  refine callP_of (toPuzzle p h) ?_
  simp -dsimp -implicitDefEqProofs (disch:=first | omega | (simp only [lenr];try omega)) only [↓amPre,amAll,↓reduceIte,reduceCtorEq,Nat.reduceEqDiff,Nat.reduceBEq,Nat.reduceAdd,Nat.reduceLeDiff,Nat.reduceSub,Nat.reduceMul,Int.reduceToNat,List.size_toArray,tyF,MM,bu0,cbU49,ssfz,tfz]
  refine callP_of (q2) ?_
  simp -dsimp -implicitDefEqProofs (disch:=first | omega | (simp only [lenr];try omega)) only [↓amPre,amAll,↓reduceIte,reduceCtorEq,Nat.reduceEqDiff,Nat.reduceBEq,Nat.reduceAdd,Nat.reduceLeDiff,Nat.reduceSub,Nat.reduceMul,Int.reduceToNat,List.size_toArray,tyF,MM,bu0,cbU49,ssfz,tfz]
  refine callP_of (eqMacroS r r (by omega) hsm) ?_
  simp -dsimp -implicitDefEqProofs (disch:=first | omega | (simp only [lenr];try omega)) only [↓amPre,amAll,↓reduceIte,reduceCtorEq,Nat.reduceEqDiff,Nat.reduceBEq,Nat.reduceAdd,Nat.reduceLeDiff,Nat.reduceSub,Nat.reduceMul,Int.reduceToNat,List.size_toArray,tyF,MM,bu0,cbU49,ssfz,tfz]
  refine split_go 3 (by decide +kernel) ?_
  simp -dsimp -implicitDefEqProofs (disch:=first | omega | (simp only [lenr];try omega)) only [↓amPre,amAll,↓reduceIte,reduceCtorEq,Nat.reduceEqDiff,Nat.reduceBEq,Nat.reduceAdd,Nat.reduceLeDiff,Nat.reduceSub,Nat.reduceMul,Int.reduceToNat,List.size_toArray,tyF,MM,bu0,cbU49,ssfz,tfz]
  refine callP_of (toPuzzle p h) ?_
  simp -dsimp -implicitDefEqProofs (disch:=first | omega | (simp only [lenr];try omega)) only [↓amPre,amAll,↓reduceIte,reduceCtorEq,Nat.reduceEqDiff,Nat.reduceBEq,Nat.reduceAdd,Nat.reduceLeDiff,Nat.reduceSub,Nat.reduceMul,Int.reduceToNat,List.size_toArray,tyF,MM,bu0,cbU49,ssfz,tfz]
  refine callP_of (eqPuzzle p p h) ?_
  simp -dsimp -implicitDefEqProofs (disch:=first | omega | (simp only [lenr];try omega)) only [↓amPre,amAll,↓reduceIte,reduceCtorEq,Nat.reduceEqDiff,Nat.reduceBEq,Nat.reduceAdd,Nat.reduceLeDiff,Nat.reduceSub,Nat.reduceMul,Int.reduceToNat,List.size_toArray,tyF,MM,bu0,cbU49,ssfz,tfz]
  refine callX_of (markPuzzle p 1 (by omega) (by omega) h) ?_
  simp -dsimp -implicitDefEqProofs (disch:=first | omega | (simp only [lenr];try omega)) only [↓amPre,amAll,↓reduceIte,reduceCtorEq,Nat.reduceEqDiff,Nat.reduceBEq,Nat.reduceAdd,Nat.reduceLeDiff,Nat.reduceSub,Nat.reduceMul,Int.reduceToNat,List.size_toArray,tyF,MM,bu0,cbU49,ssfz,tfz,mks_len,runI_len]
  refine callP_of (eqMacroS r r (by omega) hsm) ?_
  simp -dsimp -implicitDefEqProofs (disch:=first | omega | (simp only [lenr];try omega)) only [↓amPre,amAll,↓reduceIte,reduceCtorEq,Nat.reduceEqDiff,Nat.reduceBEq,Nat.reduceAdd,Nat.reduceLeDiff,Nat.reduceSub,Nat.reduceMul,Int.reduceToNat,List.size_toArray,tyF,MM,bu0,cbU49,ssfz,tfz,mks_len,runI_len]
  refine callX_of (markMacroS r 1 (by omega) (by omega) (by omega)) ?_
  simp -dsimp -implicitDefEqProofs (disch:=first | omega | (simp only [lenr];try omega)) only [↓amPre,amAll,↓reduceIte,reduceCtorEq,Nat.reduceEqDiff,Nat.reduceBEq,Nat.reduceAdd,Nat.reduceLeDiff,Nat.reduceSub,Nat.reduceMul,Int.reduceToNat,List.size_toArray,tyF,MM,bu0,cbU49,ssfz,tfz,mks_len,runI_len]
  refine callP_of (heldMacroS r 1 (by omega) (by omega) (by omega)) ?_
  simp -dsimp -implicitDefEqProofs (disch:=first | omega | (simp only [lenr];try omega)) only [↓amPre,amAll,↓reduceIte,reduceCtorEq,Nat.reduceEqDiff,Nat.reduceBEq,Nat.reduceAdd,Nat.reduceLeDiff,Nat.reduceSub,Nat.reduceMul,Int.reduceToNat,List.size_toArray,tyF,MM,bu0,cbU49,ssfz,tfz,mks_len,runI_len]
  refine callP_of (toPuzzle p h) ?_
  simp -dsimp -implicitDefEqProofs (disch:=first | omega | (simp only [lenr];try omega)) only [↓amPre,amAll,↓reduceIte,reduceCtorEq,Nat.reduceEqDiff,Nat.reduceBEq,Nat.reduceAdd,Nat.reduceLeDiff,Nat.reduceSub,Nat.reduceMul,Int.reduceToNat,List.size_toArray,tyF,MM,bu0,cbU49,ssfz,tfz,mks_len,runI_len]
  refine callP_of (q2) ?_
  simp -dsimp -implicitDefEqProofs (disch:=first | omega | (simp only [lenr];try omega)) only [↓amPre,amAll,↓reduceIte,reduceCtorEq,Nat.reduceEqDiff,Nat.reduceBEq,Nat.reduceAdd,Nat.reduceLeDiff,Nat.reduceSub,Nat.reduceMul,Int.reduceToNat,List.size_toArray,tyF,MM,bu0,cbU49,ssfz,tfz,mks_len,runI_len]
  refine callP_of (eqMacroS r r (by omega) hsm) ?_
  simp -dsimp -implicitDefEqProofs (disch:=first | omega | (simp only [lenr];try omega)) only [↓amPre,amAll,↓reduceIte,reduceCtorEq,Nat.reduceEqDiff,Nat.reduceBEq,Nat.reduceAdd,Nat.reduceLeDiff,Nat.reduceSub,Nat.reduceMul,Int.reduceToNat,List.size_toArray,tyF,MM,bu0,cbU49,ssfz,tfz,mks_len,runI_len]
  refine callP_of (heldMacroS r 1 (by omega) (by omega) (by omega)) ?_
  simp -dsimp -implicitDefEqProofs (disch:=first | omega | (simp only [lenr];try omega)) only [↓amPre,amAll,↓reduceIte,reduceCtorEq,Nat.reduceEqDiff,Nat.reduceBEq,Nat.reduceAdd,Nat.reduceLeDiff,Nat.reduceSub,Nat.reduceMul,Int.reduceToNat,List.size_toArray,tyF,MM,bu0,cbU49,ssfz,tfz,mks_len,runI_len]
end Go.AM
