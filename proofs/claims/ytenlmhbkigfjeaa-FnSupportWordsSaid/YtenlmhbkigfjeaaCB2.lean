/-
  CONTRACTS of functions of the program,and what they compute,by content.
-/
import Derived.Test.YtenlmhbkigfjeaaCB1
import Derived.Test.YtenlmhbkigfjeaaCB0
import Derived.Test.YtenlmhbkigfjeaaM2SD
set_option linter.unusedVariables false
set_option linter.unusedSimpArgs false
set_option maxRecDepth 8000
namespace Go.AM
open Go.Proofs
theorem islfz (L:List (List Int)):(L.map fun l=>isl l).map AV.fz=L.map fun l=>isl l:=by
  rw [List.map_map];exact List.map_congr_left fun a _=>by simp [AV.fz]
theorem itr_fz (l:List Int):(itr l).fz=isl l:=by rw [AV.fz,fzL_map,ints_fz]
theorem lettersS (p:Puzz) (hn:p.mv.length≤8):SpecAt Try.prog 248 [p.sl] (itr (letL p.mv.length)):=by
  refine spec_of_awp (M:=MM) (np:=1) (fz:=false) mixed Try.func248 rfl rfl (by decide) rfl (Nat.le_refl _) (by decide +kernel) (.inl rfl) (by first | trivial | simp only [sigsOk_nil,sigsOk_some,sigsOk_none,sig_tr,sig_pt,sig_mt,sig_agg,List.map_cons,List.map_nil,sig1_tr,sig1_pt,sig1_v,and_self,true_and,List.length_map,List.length_set]) ?_
  simp -dsimp -implicitDefEqProofs (disch:=first | omega | (simp only [lenr];try omega)) only [↓amPre,amAll,↓reduceIte,reduceCtorEq,Nat.reduceEqDiff,Nat.reduceBEq,Nat.reduceAdd,Nat.reduceLeDiff,Nat.reduceSub,Nat.reduceMul,Int.reduceToNat,List.size_toArray,tyF,MM,bu0,cbU49]
  refine awp_loop (fun k st=>k≤p.mv.length∧st.fr 4=.i64 ((k:Int)+1)∧st.fr 1=.loc 1 [] 0 0∧st.mem 1=some (.pt 3 p.sl)∧((k=0∧st.fr 3=.ref 5 [] 1 0 0∧st.mem 5=some (.tr 1 []))∨(0<k∧st.fr 3=.ref 18 [] 1 0 (2*k)∧st.mem 18=some (itr (letL k))))) (p.mv.length) ?_ ?_
  · simp -dsimp -implicitDefEqProofs (disch:=first | omega | (simp only [lenr];try omega)) only [↓amPre,amAll,↓reduceIte,reduceCtorEq,Nat.reduceEqDiff,Nat.reduceBEq,Nat.reduceAdd,Nat.reduceLeDiff,Nat.reduceSub,Nat.reduceMul,Int.reduceToNat,List.size_toArray,tyF,MM,bu0,cbU49]
    simp
  rintro k st _ ⟨hk,f4,f1,m1,ek⟩
  have hl:=letL_len k
  have hs:letL (k+1)=letL k++[(k:Int)+1,-((k:Int)+1)]:=rfl
  by_cases hlt:k<p.mv.length
  · have c1:((k:Int)+1≤(p.mv.length:Int)):=by omega
    have ew:IntKind.i64.wrap (0 - ((k:Int)+1)) = -((k:Int)+1):=by rw [wrap64_id (by omega)];omega
    have ew2:IntKind.i64.wrap ((k:Int)+1+1)=((k+1:Nat):Int)+1:=by rw [wrap64_id (by omega)];omega
    rcases ek with ⟨rfl,g3,g5⟩ | ⟨h0,g3,g5⟩
    · simp -dsimp -implicitDefEqProofs (disch:=first | omega | (simp only [lenr];try omega)) only [↓amPre,amAll,↓reduceIte,reduceCtorEq,Nat.reduceEqDiff,Nat.reduceBEq,Nat.reduceAdd,Nat.reduceLeDiff,Nat.reduceSub,Nat.reduceMul,Int.reduceToNat,List.size_toArray,tyF,MM,bu0,cbU49,f4,f1,m1,g3,g5,c1,ew,ew2,hl]
      refine ⟨hlt,by omega,by omega,?_⟩
      simp [letL]
    · simp -dsimp -implicitDefEqProofs (disch:=first | omega | (simp only [lenr];try omega)) only [↓amPre,amAll,↓reduceIte,reduceCtorEq,Nat.reduceEqDiff,Nat.reduceBEq,Nat.reduceAdd,Nat.reduceLeDiff,Nat.reduceSub,Nat.reduceMul,Int.reduceToNat,List.size_toArray,tyF,MM,bu0,cbU49,f4,f1,m1,g3,g5,c1,ew,ew2,hl]
      refine ⟨hlt,by omega,by omega,by rw [show 2*k+2=2*(k+1) by omega],?_⟩
      simp [letL]
  · have hk:k=p.mv.length:=by omega
    subst hk
    have c1:¬ ((p.mv.length:Int)+1≤(p.mv.length:Int)):=by omega
    rcases ek with ⟨h0,g3,g5⟩ | ⟨h0,g3,g5⟩
    · rw [h0]
      rw [h0] at c1
      simp -dsimp -implicitDefEqProofs (disch:=first | omega | (simp only [lenr];try omega)) only [↓amPre,amAll,↓reduceIte,reduceCtorEq,Nat.reduceEqDiff,Nat.reduceBEq,Nat.reduceAdd,Nat.reduceLeDiff,Nat.reduceSub,Nat.reduceMul,Int.reduceToNat,List.size_toArray,tyF,MM,bu0,cbU49,f4,f1,m1,g3,g5,c1,h0]
      simp [letL]
    · simp -dsimp -implicitDefEqProofs (disch:=first | omega | (simp only [lenr];try omega)) only [↓amPre,amAll,↓reduceIte,reduceCtorEq,Nat.reduceEqDiff,Nat.reduceBEq,Nat.reduceAdd,Nat.reduceLeDiff,Nat.reduceSub,Nat.reduceMul,Int.reduceToNat,List.size_toArray,tyF,MM,bu0,cbU49,f4,f1,m1,g3,g5,c1,hl]
end Go.AM
set_option maxRecDepth 8000
namespace Go.AM
namespace Ck
open Go.Proofs
open Ch (Lv hasL PN pt idL filL ordL prdK)
abbrev sfr (L:List (List Int)):AV:=.tr 1 (L.map fun x=>isl x)
theorem letterE (p:Puzz) (x:Int) (hp:genOk p.n p.mv) (hx:x∈letL p.mv.length):SpecAt Try.prog 235 [ssl p.mv,.i64 x] (isl (letP p.mv x)):=by
  have h8:=hp.2.1
  have:=letL_mem.1 hx
  rcases iLetter p.n p.mv x hp (by unfold letOk;omega) with h | h
  · exact h
  · exact spec_frz h rfl (itrF _)
def nbL (mv:List (List Int)) (s:List Int) (k:Nat):List (List Int):=((letL mv.length).take k).map fun l=>compI s (letP mv l)
theorem nbL_len (mv:List (List Int)) (s:List Int) {k:Nat} (h:k≤2*mv.length):(nbL mv s k).length=k:=by simp [nbL,letL_len];omega
theorem nbL_succ (mv:List (List Int)) (s:List Int) {k:Nat} (h:k<(letL mv.length).length):nbL mv s (k+1)=nbL mv s k++[compI s (letP mv ((letL mv.length).getD k 0))]:=by
  unfold nbL;rw [take_succ_eq _ _ 0 h];simp
theorem nbL_get (mv:List (List Int)) (s:List Int) {k:Nat} (h:k<(letL mv.length).length):(nbL mv s (letL mv.length).length).getD k default=compI s (letP mv ((letL mv.length).getD k 0)):=by
  unfold nbL
  rw [List.take_length,getD_eq _ _ _ (by simpa using h),List.getElem_map,getD_eq _ _ _ h]
theorem neighborsI (p:Puzz) (n:Nat) (s:List Int) (hn:p.n=n) (hp:genOk p.n p.mv) (hs:PN n s):SpecAt Try.prog 206 [p.sl,isl s] (sfr (nbL p.mv s (letL p.mv.length).length)):=by
  have h8:=hp.2.1
  have hA:=letL_len p.mv.length
  have ll:=lettersI p.mv.length h8
  have hm:∀ g∈p.mv,PN n g:=fun g hg=>⟨by have:=(hp.2.2 g hg).1;omega,(hp.2.2 g hg).2⟩
  have hn20:=hp.1
  refine spec_of_awp (M:=MM) (np:=2) (fz:=false) mixed Try.func206 rfl rfl (by decide) rfl (Nat.le_refl _) (by decide +kernel) (.inl rfl) (by first | trivial | simp only [sigsOk_nil,sigsOk_some,sigsOk_none,sig_tr,sig_pt,sig_mt,sig_agg,List.map_cons,List.map_nil,sig1_tr,sig1_pt,sig1_v,and_self,true_and,List.length_map,List.length_set]) ?_
  simp -dsimp -implicitDefEqProofs (disch:=first | omega | (simp only [lenr];try omega)) only [↓amPre,amAll,↓reduceIte,reduceCtorEq,Nat.reduceEqDiff,Nat.reduceBEq,Nat.reduceAdd,Nat.reduceLeDiff,Nat.reduceSub,Nat.reduceMul,Int.reduceToNat,List.size_toArray,tyF,MM,bu0,cbU49]
  refine callP_of (ll) ?_
  simp -dsimp -implicitDefEqProofs (disch:=first | omega | (simp only [lenr];try omega)) only [↓amPre,amAll,↓reduceIte,reduceCtorEq,Nat.reduceEqDiff,Nat.reduceBEq,Nat.reduceAdd,Nat.reduceLeDiff,Nat.reduceSub,Nat.reduceMul,Int.reduceToNat,List.size_toArray,tyF,MM,bu0,cbU49,hA]
  refine awp_loopN 5 25 1 (by simp -dsimp -implicitDefEqProofs (disch:=first | omega | (simp only [lenr];try omega)) only [↓amPre,amAll,↓reduceIte,reduceCtorEq,Nat.reduceEqDiff,Nat.reduceBEq,Nat.reduceAdd,Nat.reduceLeDiff,Nat.reduceSub,Nat.reduceMul,Int.reduceToNat,List.size_toArray,tyF,MM,bu0,cbU49]) (by decide) (fun k st=>k≤(2*p.mv.length)∧st.fr 13=.i64 k∧st.fr 12=.i64 (2*p.mv.length:Nat)∧st.fr 11=.ref 11 [] 1 0 (2*p.mv.length)∧st.fr 5=.ref 25 [] 1 0 k∧st.fr 1=isl s∧st.fr 2=.loc 2 [] 0 0∧st.mem 25=some (sfr (nbL p.mv s k))∧st.mem 11=some (itr (letL p.mv.length))∧st.mem 2=some (.pt 3 p.sl)) ((2*p.mv.length)) ?_ ?_
  · simp -dsimp -implicitDefEqProofs (disch:=first | omega | (simp only [lenr];try omega)) only [↓amPre,amAll,↓reduceIte,reduceCtorEq,Nat.reduceEqDiff,Nat.reduceBEq,Nat.reduceAdd,Nat.reduceLeDiff,Nat.reduceSub,Nat.reduceMul,Int.reduceToNat,List.size_toArray,tyF,MM,bu0,cbU49,nilAs_eq]
    exact ⟨Nat.zero_le _,rfl,rfl⟩
  rintro k st _ ⟨hk,f13,f12,f11,f5,f1,f2,m25,m11,m2⟩
  by_cases c1:k<2*p.mv.length
  · have hk:k<(letL p.mv.length).length:=by omega
    have hg:(ints (letL p.mv.length)).getD k .any=.i64 ((letL p.mv.length).getD k 0):=by rw [getD_eq _ _ _ (by simpa using hk),List.getElem_map,getD_eq _ _ _ hk]
    have hx:=mem_getD (letL p.mv.length) k 0 hk
    have hl:=(Bf.let_ok (by omega) (by omega) hm hx).1
    have q1:=letterE p _ hp hx
    have q2:=icompose s (letP p.mv ((letL p.mv.length).getD k 0)) (by have:=hs.1;omega) (fun y hy=>by have:=hs.2.2.1 y hy;have:=hs.1;have:=hl.1;omega)
    have hsu:=nbL_succ p.mv s hk
    have hln:=nbL_len p.mv s (show k≤2*p.mv.length by omega)
    have hln1:=nbL_len p.mv s (show k+1≤2*p.mv.length by omega)
    have e1:∀ X:List Int,AV.fzL (X.map AV.i64)=X.map AV.i64:=fun X=>by rw [fzL_map,ints_fz]
    generalize (letL p.mv.length).getD k 0=x at *
    simp -dsimp -implicitDefEqProofs (disch:=first | omega | (simp only [lenr];try omega)) only [↓amPre,amAll,↓reduceIte,reduceCtorEq,Nat.reduceEqDiff,Nat.reduceBEq,Nat.reduceAdd,Nat.reduceLeDiff,Nat.reduceSub,Nat.reduceMul,Int.reduceToNat,List.size_toArray,tyF,MM,bu0,cbU49,f13,f12,f11,f5,f1,f2,m25,m11,m2,hg,hA]
    refine callP_of (q1) ?_
    simp -dsimp -implicitDefEqProofs (disch:=first | omega | (simp only [lenr];try omega)) only [↓amPre,amAll,↓reduceIte,reduceCtorEq,Nat.reduceEqDiff,Nat.reduceBEq,Nat.reduceAdd,Nat.reduceLeDiff,Nat.reduceSub,Nat.reduceMul,Int.reduceToNat,List.size_toArray,tyF,MM,bu0,cbU49,f13,f12,f11,f5,f1,f2,m25,m11,m2]
    refine callP_frz q2 ?_
    simp -dsimp -implicitDefEqProofs (disch:=first | omega | (simp only [lenr];try omega)) only [↓amPre,amAll,↓reduceIte,reduceCtorEq,Nat.reduceEqDiff,Nat.reduceBEq,Nat.reduceAdd,Nat.reduceLeDiff,Nat.reduceSub,Nat.reduceMul,Int.reduceToNat,List.size_toArray,tyF,MM,bu0,cbU49,f13,f12,f11,f5,f1,f2,m25,m11,m2,itrF,e1,hln]
    refine ⟨c1,by omega,?_⟩
    rw [hsu]
  · have hk:k=2*p.mv.length:=by omega
    subst hk
    rw [← hA] at f5 m25
    have hln:=nbL_len p.mv s (Nat.le_refl (2*p.mv.length))
    simp -dsimp -implicitDefEqProofs (disch:=first | omega | (simp only [lenr];try omega)) only [↓amPre,amAll,↓reduceIte,reduceCtorEq,Nat.reduceEqDiff,Nat.reduceBEq,Nat.reduceAdd,Nat.reduceLeDiff,Nat.reduceSub,Nat.reduceMul,Int.reduceToNat,List.size_toArray,tyF,MM,bu0,cbU49,f13,f12,f11,f5,f1,f2,m25,m11,m2,hln,hA]
theorem orderX (n:Nat) (Gs:AV) (C:List Lv) (hn:C.length=n) (h1:1≤n) (h2:n≤20) (hG:Ch.Good n C 0) :
    SpecAt Try.prog 243 [.ep [.i64 n,Gs,.sl 1 (C.map rE)],.i64 0] (.i64 (ordL C)):=by
  have hC:=Ch.good_rows hG
  refine spec_of_awp (M:=MM) (np:=2) (fz:=true) mixed Try.func243 rfl rfl (by decide) rfl (Nat.le_refl _) (by decide +kernel) (.inr ⟨rfl,rfl⟩) trivial ?_
  simp -dsimp -implicitDefEqProofs (disch:=first | omega | (simp only [lenr];try omega)) only [↓amPre,amAll,↓reduceIte,reduceCtorEq,Nat.reduceEqDiff,Nat.reduceBEq,Nat.reduceAdd,Nat.reduceLeDiff,Nat.reduceSub,Nat.reduceMul,Int.reduceToNat,List.size_toArray,tyF,MM,bu0,cbU49]
  refine awp_loop (fun k st=>k≤n∧st.fr 6=.i64 k∧st.fr 0=.ep [.i64 n,Gs,.sl 1 (C.map rE)]∧st.fr 5=.i64 (prdK C k)) (n) ?_ ?_
  · simp -dsimp -implicitDefEqProofs (disch:=first | omega | (simp only [lenr];try omega)) only [↓amPre,amAll,↓reduceIte,reduceCtorEq,Nat.reduceEqDiff,Nat.reduceBEq,Nat.reduceAdd,Nat.reduceLeDiff,Nat.reduceSub,Nat.reduceMul,Int.reduceToNat,List.size_toArray,tyF,MM,bu0,cbU49]
    simp [prdK]
  rintro k st _ ⟨hk,f6,f0,f5⟩
  by_cases hlt:k<n
  · have hlC:k<C.length:=by omega
    have w1:=hC (C.getD k ⟨[],[]⟩) (mem_getD C k ⟨[],[]⟩ hlC)
    have r1:(C.map rE).getD k .any=.sl 1 ((C.getD k ⟨[],[]⟩).row.map nlv):=by
      rw [getD_eq _ _ _ (by simpa using hlC),List.getElem_map,getD_eq _ _ _ hlC]
    have q1:=orbitOfS (C.getD k ⟨[],[]⟩).row (by omega)
    have hcnt:(orbK (C.getD k ⟨[],[]⟩).row (C.getD k ⟨[],[]⟩).row.length).length=(filL (C.getD k ⟨[],[]⟩).row).length:=orbK_fil _ _
    have hp:=Ch.prd_le h1 h2 hG (k:=k+1) (by omega)
    have hpk:prdK C (k+1)=prdK C k*(filL (C.getD k ⟨[],[]⟩).row).length:=rfl
    have hle:=orbK_len (C.getD k ⟨[],[]⟩).row (C.getD k ⟨[],[]⟩).row.length
    have q2:=lenI (orbK (C.getD k ⟨[],[]⟩).row (C.getD k ⟨[],[]⟩).row.length)
    simp -dsimp -implicitDefEqProofs (disch:=first | omega | (simp only [lenr];try omega)) only [↓amPre,amAll,↓reduceIte,reduceCtorEq,Nat.reduceEqDiff,Nat.reduceBEq,Nat.reduceAdd,Nat.reduceLeDiff,Nat.reduceSub,Nat.reduceMul,Int.reduceToNat,List.size_toArray,tyF,MM,bu0,cbU49,f6,f0,f5,r1,w1]
    refine callP_of (q1) ?_
    simp -dsimp -implicitDefEqProofs (disch:=first | omega | (simp only [lenr];try omega)) only [↓amPre,amAll,↓reduceIte,reduceCtorEq,Nat.reduceEqDiff,Nat.reduceBEq,Nat.reduceAdd,Nat.reduceLeDiff,Nat.reduceSub,Nat.reduceMul,Int.reduceToNat,List.size_toArray,tyF,MM,bu0,cbU49,f6,f0,f5]
    refine callP_of (q2) ?_
    simp -dsimp -implicitDefEqProofs (disch:=first | omega | (simp only [lenr];try omega)) only [↓amPre,amAll,↓reduceIte,reduceCtorEq,Nat.reduceEqDiff,Nat.reduceBEq,Nat.reduceAdd,Nat.reduceLeDiff,Nat.reduceSub,Nat.reduceMul,Int.reduceToNat,List.size_toArray,tyF,MM,bu0,cbU49,f6,f0,f5,hcnt]
    exact ⟨by omega,by omega,i64c (by rw [hpk];simp)⟩
  · have hke:k=n:=by omega
    have e:=Ch.prd_drop C k (by omega)
    have e0:C.drop k=[]:=List.drop_of_length_le (by omega)
    rw [e0,ordL,Nat.mul_one] at e
    rw [← e]
    simp -dsimp -implicitDefEqProofs (disch:=first | omega | (simp only [lenr];try omega)) only [↓amPre,amAll,↓reduceIte,reduceCtorEq,Nat.reduceEqDiff,Nat.reduceBEq,Nat.reduceAdd,Nat.reduceLeDiff,Nat.reduceSub,Nat.reduceMul,Int.reduceToNat,List.size_toArray,tyF,MM,bu0,cbU49,f6,f0,f5,hke]
noncomputable def stN (p:Puzz):Nat:=if puzzOk p then ordL (Ch.newL p.n.toNat p.mv) else 0
theorem puzz_pn {p:Puzz} (h:puzzOk p):∀ s∈p.mv,PN p.n.toNat s:=fun s hs=>by
  have h1:=h.1.1
  have:=h.1.2.2 s hs
  exact ⟨by have:=this.1;omega,this.2⟩
theorem stateCountI (p:Puzz) (h:smallP p):SpecAt Try.prog 205 [p.sl] (.i64 (stN p)):=by
  have q0:=iPuzzle p h
  by_cases hd:puzzOk p
  case neg =>
    have hz:stN p=0:=if_neg hd
    rw [decide_eq_false hd] at q0
    rw [hz]
    refine spec_of_awp (M:=MM) (np:=1) (fz:=true) mixed Try.func205 rfl rfl (by decide) rfl (Nat.le_refl _) (by decide +kernel) (.inr ⟨rfl,rfl⟩) trivial ?_
    simp -dsimp -implicitDefEqProofs (disch:=first | omega | (simp only [lenr];try omega)) only [↓amPre,amAll,↓reduceIte,reduceCtorEq,Nat.reduceEqDiff,Nat.reduceBEq,Nat.reduceAdd,Nat.reduceLeDiff,Nat.reduceSub,Nat.reduceMul,Int.reduceToNat,List.size_toArray,tyF,MM,bu0,cbU49]
    refine callP_of (q0) ?_
    simp -dsimp -implicitDefEqProofs (disch:=first | omega | (simp only [lenr];try omega)) only [↓amPre,amAll,↓reduceIte,reduceCtorEq,Nat.reduceEqDiff,Nat.reduceBEq,Nat.reduceAdd,Nat.reduceLeDiff,Nat.reduceSub,Nat.reduceMul,Int.reduceToNat,List.size_toArray,tyF,MM,bu0,cbU49]
    try rfl
  rw [decide_eq_true hd] at q0
  have h1:=hd.1.1
  obtain ⟨N,hNN⟩:∃ N:Nat,p.n=N:=⟨p.n.toNat,by omega⟩
  have hpn:=puzz_pn hd
  have hz:stN p=ordL (Ch.newL p.n.toNat p.mv):=if_pos hd
  rw [show p.n.toNat=N by omega] at hpn hz
  have hP:=Ch.newL_part (n:=N) (by omega) (by omega) hpn
  have q1:=newChainI N p.mv (by omega) (by omega) hpn hd.1.2.1
  have q2:=orderX N (.sl 1 (((Ch.newL N p.mv).map gN).map AV.fz)) (Ch.newL N p.mv) hP.len (by omega) (by omega) hP.good
  rw [← hNN] at q1
  rw [hz]
  refine spec_of_awp (M:=MM) (np:=1) (fz:=true) mixed Try.func205 rfl rfl (by decide) rfl (Nat.le_refl _) (by decide +kernel) (.inr ⟨rfl,rfl⟩) trivial ?_
  simp -dsimp -implicitDefEqProofs (disch:=first | omega | (simp only [lenr];try omega)) only [↓amPre,amAll,↓reduceIte,reduceCtorEq,Nat.reduceEqDiff,Nat.reduceBEq,Nat.reduceAdd,Nat.reduceLeDiff,Nat.reduceSub,Nat.reduceMul,Int.reduceToNat,List.size_toArray,tyF,MM,bu0,cbU49]
  refine callP_of (q0) ?_
  simp -dsimp -implicitDefEqProofs (disch:=first | omega | (simp only [lenr];try omega)) only [↓amPre,amAll,↓reduceIte,reduceCtorEq,Nat.reduceEqDiff,Nat.reduceBEq,Nat.reduceAdd,Nat.reduceLeDiff,Nat.reduceSub,Nat.reduceMul,Int.reduceToNat,List.size_toArray,tyF,MM,bu0,cbU49]
  refine callP_of (q1) ?_
  simp -dsimp -implicitDefEqProofs (disch:=first | omega | (simp only [lenr];try omega)) only [↓amPre,amAll,↓reduceIte,reduceCtorEq,Nat.reduceEqDiff,Nat.reduceBEq,Nat.reduceAdd,Nat.reduceLeDiff,Nat.reduceSub,Nat.reduceMul,Int.reduceToNat,List.size_toArray,tyF,MM,bu0,cbU49,fzL_map,fz_rows]
  refine callP_of (q2) ?_
  simp -dsimp -implicitDefEqProofs (disch:=first | omega | (simp only [lenr];try omega)) only [↓amPre,amAll,↓reduceIte,reduceCtorEq,Nat.reduceEqDiff,Nat.reduceBEq,Nat.reduceAdd,Nat.reduceLeDiff,Nat.reduceSub,Nat.reduceMul,Int.reduceToNat,List.size_toArray,tyF,MM,bu0,cbU49]
  try rfl
end Ck
end Go.AM
namespace Go.AM
namespace Bf
open Ch (PN pt idL Gen newL ordL cst cst_app cst_len)
/-! the map from a state's key to its place -/
open Classical in
noncomputable def idxF (v:Value):List (List Int)→Nat→Option Value
  | [],_=>none
  | s :: S,i=>if v=.string (skey s) then some (.int .i64 i) else idxF v S (i+1)
noncomputable def idxM (S:List (List Int)):Value→Option Value:=fun v=>idxF v S 0
theorem idxF_at:∀ {S:List (List Int)} {s:List Int} (i:Nat),(∀ t∈S,smallE t)→smallE s→idxF (.string (skey s)) S i=if s∈S then some (.int .i64 ((i+S.idxOf s:Nat))) else none
  | [],s,i,_,_=>by simp [idxF]
  | t :: S,s,i,hS,hs=>by
    rw [idxF]
    by_cases h:s=t
    · subst h;simp
    · have hne:¬ (Value.string (skey s)=.string (skey t)):=fun q=>by
        injection q with q
        exact h (skey_inj hs (hS t (by simp)) q)
      rw [if_neg hne,idxF_at (i+1) (fun u hu=>hS u (by simp [hu])) hs]
      have:s∈t :: S↔s∈S:=by simp [h]
      by_cases hm:s∈S
      · rw [if_pos hm,if_pos (this.2 hm),List.idxOf_cons]
        have:(t == s)=false:=by simp;exact fun e=>h e.symm
        rw [this];simp;omega
      · rw [if_neg hm,if_neg (fun q=>hm (this.1 q))]
theorem idxM_at {S:List (List Int)} {s:List Int} (hS:∀ t∈S,smallE t) (hs:smallE s):idxM S (.string (skey s))=if s∈S then some (.int .i64 ((S.idxOf s:Nat))) else none:=by
  unfold idxM
  rw [idxF_at 0 hS hs,Nat.zero_add]
open Classical in
theorem idxF_app (v:Value) (s:List Int):∀ (S:List (List Int)) (i:Nat),idxF v (S++[s]) i=match idxF v S i with | some x=>some x | none=>if v=.string (skey s) then some (.int .i64 ((i+S.length:Nat))) else none
  | [],i=>by
    show (if v=.string (skey s) then some (Value.int .i64 i) else none)=_
    simp [idxF]
  | t :: S,i=>by
    rw [List.cons_append,idxF,idxF]
    by_cases h:v=.string (skey t)
    · rw [if_pos h,if_pos h]
    · rw [if_neg h,if_neg h,idxF_app v s S (i+1)]
      rw [List.length_cons,show i+1+S.length=i+(S.length+1) by omega]
theorem idxM_upd {S:List (List Int)} {s:List Int} (hS:∀ t∈S,smallE t) (hs:smallE s) (hn:s∉S):updM (idxM S) (.string (skey s)) (.int .i64 S.length)=idxM (S++[s]):=by
  funext v
  unfold updM
  by_cases h:v=.string (skey s)
  · rw [if_pos h,h,idxM_at (fun t ht=>by
      rcases List.mem_append.1 ht with q | q
      · exact hS t q
      · rw [List.mem_singleton.1 q];exact hs) hs,if_pos (by simp),List.idxOf_append,if_neg hn]
    simp
  · rw [if_neg h]
    unfold idxM
    rw [idxF_app]
    cases idxF v S 0 with
    | some x=>rfl
    | none=>rw [if_neg h]
/-! the neighbours' places -/
def nxR (mv:List (List Int)) (A:List Int) (k:Nat) (e:Ex):Nat→List Nat
  | 0=>[]
  | j+1=>nxR mv A k e j++[(inn mv A k e (j+1)).S.idxOf (nbr mv e k (A.getD j 0))]
def nxO (mv:List (List Int)) (A:List Int) (n:Nat):Nat→List (List Nat)
  | 0=>[]
  | k+1=>if k<(out mv A n k).S.length then nxO mv A n k++[nxR mv A k (out mv A n k) A.length] else nxO mv A n k
theorem nxR_len (mv:List (List Int)) (A:List Int) (k:Nat) (e:Ex):∀ j,(nxR mv A k e j).length=j
  | 0=>rfl
  | j+1=>by rw [nxR,List.length_append,nxR_len];rfl
theorem nxO_stay {mv:List (List Int)} {A:List Int} {n k:Nat} (h:(out mv A n k).S.length≤k):∀ d,nxO mv A n (k+d)=nxO mv A n k
  | 0=>rfl
  | d+1=>by rw [← Nat.add_assoc,nxO,out_stay h d,nxO_stay h d,if_neg (by omega)]
theorem nxO_lt {mv:List (List Int)} {A:List Int} {n:Nat}:∀ {k},k≤(out mv A n k).S.length→(nxO mv A n k).length=k
  | 0,_=>rfl
  | k+1,h=>by
    by_cases c:k<(out mv A n k).S.length
    · rw [nxO,if_pos c,List.length_append,nxO_lt (by omega)];rfl
    · rw [out,if_neg c] at h;omega
def byL (A:List Int) (J:List Nat):List Int:=match J with | []=>[] | _ :: r=>0 :: r.map fun j=>A.getD j 0
theorem byL_app (A:List Int) {J:List Nat} (h:0<J.length) (j:Nat):byL A (J++[j])=byL A J++[A.getD j 0]:=by
  cases J with
  | nil=>simp at h
  | cons a r=>simp [byL]
theorem byL_len (A:List Int) (J:List Nat):(byL A J).length=J.length:=by cases J <;> simp [byL]
theorem stp_dle {mv:List (List Int)} {A:List Int} {k:Nat} {e:Ex} (h:∀ i,i<e.D.length→e.D.getD i 0≤i) (hk:k<e.D.length) (j:Nat):∀ i,i<(stp mv A k e j).D.length→(stp mv A k e j).D.getD i 0≤i:=by
  unfold stp;split
  · exact h
  · intro i hi
    rw [List.length_append,List.length_singleton] at hi
    by_cases c:i<e.D.length
    · rw [getD_app_l _ _ _ _ c];exact h i c
    · have:i=e.D.length:=by omega
      subst this
      have q:=getD_app_r e.D [e.D.getD k 0+1] 0 0
      have:=h k hk
      refine Nat.le_trans (Nat.le_of_eq q) ?_
      show e.D.getD k 0+1≤_
      omega
theorem stp_dlen (mv:List (List Int)) (A:List Int) (k:Nat) (e:Ex) (j:Nat):e.D.length≤(stp mv A k e j).D.length:=by
  unfold stp;split
  · exact Nat.le_refl _
  · simp
theorem inn_dle {mv:List (List Int)} {A:List Int} {k:Nat} {e:Ex} (h:∀ i,i<e.D.length→e.D.getD i 0≤i) (hk:k<e.D.length):∀ j i,i<(inn mv A k e j).D.length→(inn mv A k e j).D.getD i 0≤i:=by
  intro j
  have key:∀ j,(∀ i,i<(inn mv A k e j).D.length→(inn mv A k e j).D.getD i 0≤i)∧k<(inn mv A k e j).D.length:=by
    intro j
    induction j with
    | zero=>exact ⟨h,hk⟩
    | succ j ih=>exact ⟨stp_dle ih.1 ih.2 j,Nat.lt_of_lt_of_le ih.2 (stp_dlen ..)⟩
  exact (key j).1
theorem out_dl (mv:List (List Int)) (A:List Int) (n:Nat):∀ k,(out mv A n k).D.length=(out mv A n k).S.length:=by
  have st:∀ (k:Nat) (e:Ex) (j:Nat),e.D.length=e.S.length→(stp mv A k e j).D.length=(stp mv A k e j).S.length:=fun k e j h=>by
    unfold stp;split
    · exact h
    · simp [h]
  have iN:∀ (k:Nat) (e:Ex),e.D.length=e.S.length→∀ j,(inn mv A k e j).D.length=(inn mv A k e j).S.length:=fun k e h j=>by
    induction j with
    | zero=>exact h
    | succ j ih=>exact st _ _ _ ih
  intro k
  induction k with
  | zero=>rfl
  | succ k ih =>
    rw [out];split
    · exact iN _ _ ih _
    · exact ih
theorem out_dle (mv:List (List Int)) (A:List Int) (n:Nat):∀ k i,i<(out mv A n k).D.length→(out mv A n k).D.getD i 0≤i
  | 0,i,hi=>by
    simp [out] at hi
    subst hi;simp [out]
  | k+1,i,hi=>by
    rw [out] at hi ⊢
    by_cases c:k<(out mv A n k).S.length
    · rw [if_pos c] at hi ⊢
      exact inn_dle (out_dle mv A n k) (by rw [out_dl];exact c) _ i hi
    · rw [if_neg c] at hi ⊢
      exact out_dle mv A n k i hi
theorem PN.small {n:Nat} (h2:n≤20) {s:List Int} (h:PN n s):smallE s:=fun x hx=>by
  have:=h.2.2.1 x hx
  have:=h.1
  omega
end Bf
end Go.AM
set_option maxRecDepth 8000
namespace Go.AM
namespace Sr
open Go.Proofs
open Ch (PN pt idL cst cst_app cst_len)
open Bf (lexLt slotC insS SrtOk)
open Ck (sfr)
def MM:FuncId→List Bool:=fun f=>if f=247 then [true,false,false] else []
theorem listPrec (a b:List Int) (h:a.length=b.length) (hl:a.length≤1099511627776):SpecAt Try.prog 276 [isl a,isl b] (.bl (lexLt a b)):=by
  refine spec_of_awp (M:=MM) (np:=2) (fz:=true) mixed Try.func276 rfl rfl (by decide) rfl (Nat.le_refl _) (by decide +kernel) (.inr ⟨rfl,rfl⟩) trivial ?_
  simp -dsimp -implicitDefEqProofs (disch:=first | omega | (simp only [lenr];try omega)) only [↓amPre,amAll,↓reduceIte,reduceCtorEq,Nat.reduceEqDiff,Nat.reduceBEq,Nat.reduceAdd,Nat.reduceLeDiff,Nat.reduceSub,Nat.reduceMul,Int.reduceToNat,List.size_toArray,tyF,MM,bu0,cbU49]
  refine awp_loop (fun k st=>k≤a.length∧st.fr 5=.i64 k∧st.fr 0=isl a∧st.fr 1=isl b∧a.take k=b.take k) (a.length) ?_ ?_
  · simp -dsimp -implicitDefEqProofs (disch:=first | omega | (simp only [lenr];try omega)) only [↓amPre,amAll,↓reduceIte,reduceCtorEq,Nat.reduceEqDiff,Nat.reduceBEq,Nat.reduceAdd,Nat.reduceLeDiff,Nat.reduceSub,Nat.reduceMul,Int.reduceToNat,List.size_toArray,tyF,MM,bu0,cbU49]
    repeat' (first | omega | rfl | exact i64c (by omega) | exact vic (by omega) | apply And.intro)
  rintro k st _ ⟨hk,f5,f0,f1,ek⟩
  by_cases hlt:k<a.length
  · by_cases hne:a.getD k 0=b.getD k 0
    · simp -dsimp -implicitDefEqProofs (disch:=first | omega | (simp only [lenr];try omega)) only [↓amPre,amAll,↓reduceIte,reduceCtorEq,Nat.reduceEqDiff,Nat.reduceBEq,Nat.reduceAdd,Nat.reduceLeDiff,Nat.reduceSub,Nat.reduceMul,Int.reduceToNat,List.size_toArray,tyF,MM,bu0,cbU49,f5,f0,f1,hne]
      exact ⟨hlt,by omega,(take_eq_iff 0 k hlt (by omega)).2 ⟨ek,hne⟩⟩
    · have e:=Bf.lex_at h ek hlt hne
      simp -dsimp -implicitDefEqProofs (disch:=first | omega | (simp only [lenr];try omega)) only [↓amPre,amAll,↓reduceIte,reduceCtorEq,Nat.reduceEqDiff,Nat.reduceBEq,Nat.reduceAdd,Nat.reduceLeDiff,Nat.reduceSub,Nat.reduceMul,Int.reduceToNat,List.size_toArray,tyF,MM,bu0,cbU49,f5,f0,f1,hne]
      rw [e]
  · have hke:k=a.length:=by omega
    have e:a=b:=by
      rw [hke,List.take_length,h,List.take_length] at ek;exact ek
    have e2:=Bf.lex_irr a
    subst e
    simp -dsimp -implicitDefEqProofs (disch:=first | omega | (simp only [lenr];try omega)) only [↓amPre,amAll,↓reduceIte,reduceCtorEq,Nat.reduceEqDiff,Nat.reduceBEq,Nat.reduceAdd,Nat.reduceLeDiff,Nat.reduceSub,Nat.reduceMul,Int.reduceToNat,List.size_toArray,tyF,MM,bu0,cbU49,f5,f0,f1,e2]
abbrev fS (S:List (List Int)) (D:List Int) (Z:List Nat) (w:Bool):AV:=.agg [ssl S,isl D,isl (cst Z),.bl w]
abbrev fT (S:List (List Int)) (D:List Int) (Z:List Nat) (w:Bool):AV:=.agg [sfr S,itr D,itr (cst Z),.bl w]
theorem searchSlot (n:Nat) (S:List (List Int)) (D:List Int) (Z:List Nat) (w:Bool) (s:List Int) (hZ:SrtOk n S Z) (hn:n≤20) (hs:s.length=n) (hl:S.length≤3000) :
    SpecAt Try.prog 262 [fS S D Z w,isl s] (.i64 (slotC S Z s)):=by
  have hsl:=Bf.slot_le S Z s
  have hzl:=hZ.len
  refine spec_of_awp (M:=MM) (np:=2) (fz:=true) mixed Try.func262 rfl rfl (by decide) rfl (Nat.le_refl _) (by decide +kernel) (.inr ⟨rfl,rfl⟩) trivial ?_
  simp -dsimp -implicitDefEqProofs (disch:=first | omega | (simp only [lenr];try omega)) only [↓amPre,amAll,↓reduceIte,reduceCtorEq,Nat.reduceEqDiff,Nat.reduceBEq,Nat.reduceAdd,Nat.reduceLeDiff,Nat.reduceSub,Nat.reduceMul,Int.reduceToNat,List.size_toArray,tyF,MM,bu0,cbU49]
  refine awp_loop (fun k st=>k≤Z.length∧st.fr 2=.loc 2 [] 0 0∧st.fr 1=isl s∧st.mem 2=some (.pt 4 (fS S D Z w))∧(∃ lo hi:Nat,st.fr 5=.i64 lo∧st.fr 6=.i64 hi∧lo≤slotC S Z s∧slotC S Z s≤hi∧hi≤Z.length∧hi+k≤lo+Z.length)) (Z.length) ?_ ?_
  · simp -dsimp -implicitDefEqProofs (disch:=first | omega | (simp only [lenr];try omega)) only [↓amPre,amAll,↓reduceIte,reduceCtorEq,Nat.reduceEqDiff,Nat.reduceBEq,Nat.reduceAdd,Nat.reduceLeDiff,Nat.reduceSub,Nat.reduceMul,Int.reduceToNat,List.size_toArray,tyF,MM,bu0,cbU49,cst_len]
    exact ⟨Nat.zero_le _,0,Z.length,rfl,rfl,Nat.zero_le _,hsl,Nat.le_refl _,by omega⟩
  rintro k st _ ⟨hk,f2,f1,m2,ek⟩
  obtain ⟨lo,hi,f5,f6,h1,h2,h3,h4⟩:=ek
  by_cases c1:lo<hi
  · obtain ⟨mid,hmid⟩:∃ mid:Nat,mid=(lo+hi) / 2:=⟨_,rfl⟩
    have hm1:lo≤mid∧mid<hi:=by omega
    have hmz:mid<Z.length:=by omega
    have hmS:Z.getD mid 0<S.length:=(hZ.mem _).1 (mem_getD Z mid 0 hmz)
    have hsi:=Bf.slot_iff hZ s hmz
    have hgZ:((cst Z).map AV.i64).getD mid .any=.i64 (Z.getD mid 0:Nat):=by rw [getD_eq _ _ _ (by rw [List.length_map,cst_len];exact hmz),List.getElem_map,← getD_eq _ _ 0,Ch.cst_get hmz]
    have hgm:=hZ.ll _ (mem_getD S _ default hmS)
    have q:=listPrec (S.getD (Z.getD mid 0) default) s (by rw [hgm,hs]) (by omega)
    have hwm:IntKind.i64.wrap (((lo:Int)+hi).tdiv 2)=(mid:Int):=by
      have e:((lo:Int)+hi).tdiv 2=(mid:Int):=by rw [hmid];exact (Int.ofNat_tdiv (lo+hi) 2).symm
      rw [e,wrap64_id (by omega)]
    have hlZ:(cst Z).length=Z.length:=cst_len Z
    cases hb:lexLt (S.getD (Z.getD mid 0) default) s with
    | true =>
      rw [hb] at q
      have hlt:=hsi.1 hb
      simp -dsimp -implicitDefEqProofs (disch:=first | omega | (simp only [lenr];try omega)) only [↓amPre,amAll,↓reduceIte,reduceCtorEq,Nat.reduceEqDiff,Nat.reduceBEq,Nat.reduceAdd,Nat.reduceLeDiff,Nat.reduceSub,Nat.reduceMul,Int.reduceToNat,List.size_toArray,tyF,MM,bu0,cbU49,f2,f1,m2,f5,f6,c1,hwm,hlZ,hgZ]
      refine callP_of (q) ?_
      simp -dsimp -implicitDefEqProofs (disch:=first | omega | (simp only [lenr];try omega)) only [↓amPre,amAll,↓reduceIte,reduceCtorEq,Nat.reduceEqDiff,Nat.reduceBEq,Nat.reduceAdd,Nat.reduceLeDiff,Nat.reduceSub,Nat.reduceMul,Int.reduceToNat,List.size_toArray,tyF,MM,bu0,cbU49,f2,f1,m2,f5,f6]
      exact ⟨by omega,by omega,mid+1,hi,i64c (by simp),rfl,by omega,h2,h3,by omega⟩
    | false =>
      rw [hb] at q
      have hge:slotC S Z s≤mid:=by
        rcases Nat.lt_or_ge mid (slotC S Z s) with c | c
        · rw [hsi.2 c] at hb;cases hb
        · exact c
      simp -dsimp -implicitDefEqProofs (disch:=first | omega | (simp only [lenr];try omega)) only [↓amPre,amAll,↓reduceIte,reduceCtorEq,Nat.reduceEqDiff,Nat.reduceBEq,Nat.reduceAdd,Nat.reduceLeDiff,Nat.reduceSub,Nat.reduceMul,Int.reduceToNat,List.size_toArray,tyF,MM,bu0,cbU49,f2,f1,m2,f5,f6,c1,hwm,hlZ,hgZ]
      refine callP_of (q) ?_
      simp -dsimp -implicitDefEqProofs (disch:=first | omega | (simp only [lenr];try omega)) only [↓amPre,amAll,↓reduceIte,reduceCtorEq,Nat.reduceEqDiff,Nat.reduceBEq,Nat.reduceAdd,Nat.reduceLeDiff,Nat.reduceSub,Nat.reduceMul,Int.reduceToNat,List.size_toArray,tyF,MM,bu0,cbU49,f2,f1,m2,f5,f6]
      exact ⟨by omega,by omega,lo,mid,rfl,rfl,h1,hge,by omega,by omega⟩
  · have:lo=slotC S Z s:=by omega
    have c2:¬ ((lo:Int)<hi):=by omega
    simp -dsimp -implicitDefEqProofs (disch:=first | omega | (simp only [lenr];try omega)) only [↓amPre,amAll,↓reduceIte,reduceCtorEq,Nat.reduceEqDiff,Nat.reduceBEq,Nat.reduceAdd,Nat.reduceLeDiff,Nat.reduceSub,Nat.reduceMul,Int.reduceToNat,List.size_toArray,tyF,MM,bu0,cbU49,f2,f1,m2,f5,f6,c2]
    rw [this]
theorem searchIndex (n:Nat) (S:List (List Int)) (D:List Int) (Z:List Nat) (w:Bool) (s:List Int) (hZ:SrtOk n S Z) (hd:S.Nodup) (hn:n≤20) (hs:s.length=n) (hl:S.length≤3000) :
    SpecAt Try.prog 250 [fS S D Z w,isl s] (.i64 (ixK S s)):=by
  have hsl:=Bf.slot_le S Z s
  have hzl:=hZ.len
  have hlZ:(cst Z).length=Z.length:=cst_len Z
  have q:=searchSlot n S D Z w s hZ hn hs hl
  have hix:=Bf.slot_ix hZ hd s
  refine spec_of_awp (M:=MM) (np:=2) (fz:=true) mixed Try.func250 rfl rfl (by decide) rfl (Nat.le_refl _) (by decide +kernel) (.inr ⟨rfl,rfl⟩) trivial ?_
  simp -dsimp -implicitDefEqProofs (disch:=first | omega | (simp only [lenr];try omega)) only [↓amPre,amAll,↓reduceIte,reduceCtorEq,Nat.reduceEqDiff,Nat.reduceBEq,Nat.reduceAdd,Nat.reduceLeDiff,Nat.reduceSub,Nat.reduceMul,Int.reduceToNat,List.size_toArray,tyF,MM,bu0,cbU49]
  refine callP_of (q) ?_
  by_cases c1:slotC S Z s<Z.length
  · have hgZ:((cst Z).map AV.i64).getD (slotC S Z s) .any=.i64 (Z.getD (slotC S Z s) 0:Nat):=by rw [getD_eq _ _ _ (by rw [List.length_map,cst_len];exact c1),List.getElem_map,← getD_eq _ _ 0,Ch.cst_get c1]
    have hmS:Z.getD (slotC S Z s) 0<S.length:=(hZ.mem _).1 (mem_getD Z _ 0 c1)
    have hgm:=hZ.ll _ (mem_getD S _ default hmS)
    have q2:=sEqualInts (S.getD (Z.getD (slotC S Z s) 0) default) s (by omega)
    by_cases c2:S.getD (Z.getD (slotC S Z s) 0) default=s
    · rw [if_pos ⟨c1,c2⟩] at hix
      rw [decide_eq_true c2] at q2
      rw [hix]
      generalize slotC S Z s=m at *
      simp -dsimp -implicitDefEqProofs (disch:=first | omega | (simp only [lenr];try omega)) only [↓amPre,amAll,↓reduceIte,reduceCtorEq,Nat.reduceEqDiff,Nat.reduceBEq,Nat.reduceAdd,Nat.reduceLeDiff,Nat.reduceSub,Nat.reduceMul,Int.reduceToNat,List.size_toArray,tyF,MM,bu0,cbU49,hlZ,c1,hgZ]
      refine callP_of (q2) ?_
      simp -dsimp -implicitDefEqProofs (disch:=first | omega | (simp only [lenr];try omega)) only [↓amPre,amAll,↓reduceIte,reduceCtorEq,Nat.reduceEqDiff,Nat.reduceBEq,Nat.reduceAdd,Nat.reduceLeDiff,Nat.reduceSub,Nat.reduceMul,Int.reduceToNat,List.size_toArray,tyF,MM,bu0,cbU49,hlZ,c1,hgZ]
    · rw [if_neg (fun h=>c2 h.2)] at hix
      rw [decide_eq_false c2] at q2
      rw [hix]
      generalize slotC S Z s=m at *
      simp -dsimp -implicitDefEqProofs (disch:=first | omega | (simp only [lenr];try omega)) only [↓amPre,amAll,↓reduceIte,reduceCtorEq,Nat.reduceEqDiff,Nat.reduceBEq,Nat.reduceAdd,Nat.reduceLeDiff,Nat.reduceSub,Nat.reduceMul,Int.reduceToNat,List.size_toArray,tyF,MM,bu0,cbU49,hlZ,c1,hgZ]
      refine callP_of (q2) ?_
      simp -dsimp -implicitDefEqProofs (disch:=first | omega | (simp only [lenr];try omega)) only [↓amPre,amAll,↓reduceIte,reduceCtorEq,Nat.reduceEqDiff,Nat.reduceBEq,Nat.reduceAdd,Nat.reduceLeDiff,Nat.reduceSub,Nat.reduceMul,Int.reduceToNat,List.size_toArray,tyF,MM,bu0,cbU49,hlZ,c1,hgZ]
  · rw [if_neg (fun h=>c1 h.1)] at hix
    rw [hix]
    generalize slotC S Z s=m at *
    simp -dsimp -implicitDefEqProofs (disch:=first | omega | (simp only [lenr];try omega)) only [↓amPre,amAll,↓reduceIte,reduceCtorEq,Nat.reduceEqDiff,Nat.reduceBEq,Nat.reduceAdd,Nat.reduceLeDiff,Nat.reduceSub,Nat.reduceMul,Int.reduceToNat,List.size_toArray,tyF,MM,bu0,cbU49,hlZ,c1]
theorem copy_ins (S:List (List Int)) (Z:List Nat) (s:List Int) {m:Nat} (hm:m=slotC S Z s) (hle:m≤Z.length) :
    (((cst Z++[0]).take (m+1)).map AV.i64++(((cst Z++[0]).drop m).take (Z.length+1 - (m+1))).map AV.i64++((cst Z++[0]).drop (m+1+min (Z.length+1 - (m+1)) ((cst Z++[0]).drop m).length)).map AV.i64).set m (.i64 S.length)=(cst (insS S Z s)).map AV.i64:=by
  have hl:(cst Z++[(0:Int)]).length=Z.length+1:=by simp [cst_len]
  have e1:(cst Z++[(0:Int)]).drop (m+1+min (Z.length+1 - (m+1)) ((cst Z++[(0:Int)]).drop m).length)=[]:=by
    apply List.drop_eq_nil_of_le
    rw [List.length_drop,hl];omega
  have e2:((cst Z++[(0:Int)]).drop m).take (Z.length+1 - (m+1))=cst (Z.drop m):=by
    rw [List.drop_append_of_le_length (by rw [cst_len];exact hle),List.take_append_of_le_length (by rw [List.length_drop,cst_len];omega),Ch.cst_drop,List.take_of_length_le (by rw [cst_len,List.length_drop];omega)]
  have e3:(cst Z++[(0:Int)]).take (m+1)=cst (Z.take m)++[(cst Z++[(0:Int)]).getD m 0]:=by
    rw [take_succ_eq _ m 0 (by rw [hl];omega),List.take_append_of_le_length (by rw [cst_len];exact hle)]
    congr 1
    simp [cst,List.map_take]
  rw [e1,e2,e3,insS,← hm,cst_app]
  have hlt:(List.map AV.i64 (cst (Z.take m))).length=m:=by rw [List.length_map,cst_len,List.length_take];omega
  simp only [List.map_append,List.map_cons,List.map_nil,List.append_nil,List.append_assoc,List.cons_append,List.nil_append]
  rw [List.set_append_right _ _ (by omega),hlt,Nat.sub_self,List.set_cons_zero]
  rfl
theorem searchAdd (n:Nat) (S:List (List Int)) (D:List Int) (Z:List Nat) (w:Bool) (s:List Int) (x:Int) (hZ:SrtOk n S Z) (hn:n≤20) (hs:s.length=n) (hl:S.length≤3000) (hD:D.length=S.length) :
    SpecX Try.prog 247 [fT S D Z w,isl s,.i64 x] [] (fT (S++[s]) (D++[x]) (insS S Z s) w):=by
  have hsl:=Bf.slot_le S Z s
  have hzl:=hZ.len
  have hlZ:(cst Z).length=Z.length:=cst_len Z
  have q:=searchSlot n S D Z w s hZ hn hs hl
  have hfz:∀ L:List (List Int),AV.fzL (L.map fun x=>isl x)=L.map fun x=>isl x:=fun L=>by rw [fzL_map,islfz]
  obtain ⟨m,hm⟩:∃ m,m=slotC S Z s:=⟨_,rfl⟩
  rw [← hm] at q hsl
  refine spec_of_awp_any (M:=MM) (np:=3) (X:=[3]) (fz:=false) mixed Try.func247 rfl rfl (by decide) rfl (Nat.le_refl _) (by decide +kernel) (.inl rfl) (by first | trivial | simp only [sigsOk_nil,sigsOk_some,sigsOk_none,sig_tr,sig_pt,sig_mt,sig_agg,List.map_cons,List.map_nil,sig1_tr,sig1_pt,sig1_v,and_self,true_and,List.length_map,List.length_set]) ?_
  simp -dsimp -implicitDefEqProofs (disch:=first | omega | (simp only [lenr];try omega)) only [↓amPre,amAll,↓reduceIte,reduceCtorEq,Nat.reduceEqDiff,Nat.reduceBEq,Nat.reduceAdd,Nat.reduceLeDiff,Nat.reduceSub,Nat.reduceMul,Int.reduceToNat,List.size_toArray,tyF,MM,bu0,cbU49,islfz,ints_fz]
  refine callP_of (q) ?_
  simp -dsimp -implicitDefEqProofs (disch:=first | omega | (simp only [lenr];try omega)) only [↓amPre,amAll,↓reduceIte,reduceCtorEq,Nat.reduceEqDiff,Nat.reduceBEq,Nat.reduceAdd,Nat.reduceLeDiff,Nat.reduceSub,Nat.reduceMul,Int.reduceToNat,List.size_toArray,tyF,MM,bu0,cbU49,hlZ]
  refine split_go 9 (by decide +kernel) ?_
  have hbe:∀ l:List Int,AV.bearsL (l.map AV.i64)=false:=Ck.bears_ints
  simp -dsimp -implicitDefEqProofs (disch:=first | omega | (simp only [lenr];try omega)) only [↓amPre,amAll,↓reduceIte,reduceCtorEq,Nat.reduceEqDiff,Nat.reduceBEq,Nat.reduceAdd,Nat.reduceLeDiff,Nat.reduceSub,Nat.reduceMul,Int.reduceToNat,List.size_toArray,tyF,MM,bu0,cbU49,hlZ,hbe]
  exact copy_ins S Z s hm hsl
end Sr
end Go.AM
namespace Go.AM
namespace Bf
open Ch (PN pt idL)
def lsN (S:List (List Int)) (k:Nat):Int:=((movL (S.getD k default) (S.getD k default).length).length:Int)
def lsK (S:List (List Int)):Nat→Int
  | 0=>-1
  | k+1=>if lsK S k<0∨lsN S (k+1)<lsK S k then lsN S (k+1) else lsK S k
theorem movL_len (p:List Int) (k:Nat):(movL p k).length≤k:=by
  unfold movL
  rw [List.length_map]
  have:=List.length_filter_le (fun i=>p.getD i 0 != (i:Int)) (List.range k)
  simpa using this
end Bf
end Go.AM
set_option maxRecDepth 8000
namespace Go.AM
namespace Sr
open Go.Proofs
open Ch (PN pt idL cst cst_app cst_len)
open Bf (Ex inn stp nbr insS SrtOk srtS innF outF)
open Ck (sfr)
abbrev zS:AV:=.agg [.nilsl,.nilsl,.nilsl,.bl false]
abbrev fE (e:Ex) (w:Bool):AV:=fT e.S (cst e.D) (srtS e.S) w
theorem searchSlot0 (s:List Int):SpecAt Try.prog 262 [zS,isl s] (.i64 0):=by
  refine spec_of_awp (M:=MM) (np:=2) (fz:=true) mixed Try.func262 rfl rfl (by decide) rfl (Nat.le_refl _) (by decide +kernel) (.inr ⟨rfl,rfl⟩) trivial ?_
  simp -dsimp -implicitDefEqProofs (disch:=first | omega | (simp only [lenr];try omega)) only [↓amPre,amAll,↓reduceIte,reduceCtorEq,Nat.reduceEqDiff,Nat.reduceBEq,Nat.reduceAdd,Nat.reduceLeDiff,Nat.reduceSub,Nat.reduceMul,Int.reduceToNat,List.size_toArray,tyF,MM,bu0,cbU49]
  refine awp_loop (fun k st=>k≤0∧st.fr 2=.loc 2 [] 0 0∧st.fr 1=isl s∧st.fr 5=.i64 0∧st.fr 6=.i64 0∧st.mem 2=some (.pt 4 zS)) (0) ?_ ?_
  · simp -dsimp -implicitDefEqProofs (disch:=first | omega | (simp only [lenr];try omega)) only [↓amPre,amAll,↓reduceIte,reduceCtorEq,Nat.reduceEqDiff,Nat.reduceBEq,Nat.reduceAdd,Nat.reduceLeDiff,Nat.reduceSub,Nat.reduceMul,Int.reduceToNat,List.size_toArray,tyF,MM,bu0,cbU49]
  rintro k st _ ⟨hk,f2,f1,f5,f6,m2⟩
  simp -dsimp -implicitDefEqProofs (disch:=first | omega | (simp only [lenr];try omega)) only [↓amPre,amAll,↓reduceIte,reduceCtorEq,Nat.reduceEqDiff,Nat.reduceBEq,Nat.reduceAdd,Nat.reduceLeDiff,Nat.reduceSub,Nat.reduceMul,Int.reduceToNat,List.size_toArray,tyF,MM,bu0,cbU49,f2,f1,f5,f6,m2]
theorem searchAdd0 (s:List Int):SpecX Try.prog 247 [zS,isl s,.i64 0] [] (fT [s] [0] [0] false):=by
  have q:=searchSlot0 s
  refine spec_of_awp_any (M:=MM) (np:=3) (X:=[3]) (fz:=false) mixed Try.func247 rfl rfl (by decide) rfl (Nat.le_refl _) (by decide +kernel) (.inl rfl) (by first | trivial | simp only [sigsOk_nil,sigsOk_some,sigsOk_none,sig_tr,sig_pt,sig_mt,sig_agg,List.map_cons,List.map_nil,sig1_tr,sig1_pt,sig1_v,and_self,true_and,List.length_map,List.length_set]) ?_
  simp -dsimp -implicitDefEqProofs (disch:=first | omega | (simp only [lenr];try omega)) only [↓amPre,amAll,↓reduceIte,reduceCtorEq,Nat.reduceEqDiff,Nat.reduceBEq,Nat.reduceAdd,Nat.reduceLeDiff,Nat.reduceSub,Nat.reduceMul,Int.reduceToNat,List.size_toArray,tyF,MM,bu0,cbU49]
  refine callP_of (q) ?_
  simp -dsimp -implicitDefEqProofs (disch:=first | omega | (simp only [lenr];try omega)) only [↓amPre,amAll,↓reduceIte,reduceCtorEq,Nat.reduceEqDiff,Nat.reduceBEq,Nat.reduceAdd,Nat.reduceLeDiff,Nat.reduceSub,Nat.reduceMul,Int.reduceToNat,List.size_toArray,tyF,MM,bu0,cbU49]
  refine split_go 9 (by decide +kernel) ?_
  simp -dsimp -implicitDefEqProofs (disch:=first | omega | (simp only [lenr];try omega)) only [↓amPre,amAll,↓reduceIte,reduceCtorEq,Nat.reduceEqDiff,Nat.reduceBEq,Nat.reduceAdd,Nat.reduceLeDiff,Nat.reduceSub,Nat.reduceMul,Int.reduceToNat,List.size_toArray,tyF,MM,bu0,cbU49]
  rfl
theorem searchFromI (p:Puzz) (N:Nat) (hN:p.n=N) (hd:puzzOk p) :
    SpecAt Try.prog 211 [p.sl,isl (idL N)] (fE (outF p.mv (letL p.mv.length) N 3000).1 (!(outF p.mv (letL p.mv.length) N 3000).2)):=by
  have hpn:=Ck.puzz_pn hd
  have hn20:=hd.1.1
  rw [show p.n.toNat=N by omega] at hpn
  have hN1:1≤N:=by omega
  have hN2:N≤20:=by omega
  have hA:=letL_len p.mv.length
  have h8:=hd.1.2.1
  have l0:=copyI (idL N) (by rw [runI_len];omega)
  have q0:=searchAdd0 (idL N)
  have ll:=lettersS p h8
  have hok:=fun k=>(Bf.out_ok hN1 hN2 hpn k).1
  refine spec_of_awp_any (M:=MM) (np:=2) (X:=[13]) (fz:=false) mixed Try.func211 rfl rfl (by decide) rfl (Nat.le_refl _) (by decide +kernel) (.inl rfl) (by first | trivial | simp only [sigsOk_nil,sigsOk_some,sigsOk_none,sig_tr,sig_pt,sig_mt,sig_agg,List.map_cons,List.map_nil,sig1_tr,sig1_pt,sig1_v,and_self,true_and,List.length_map,List.length_set]) ?_
  simp -dsimp -implicitDefEqProofs (disch:=first | omega | (simp only [lenr];try omega)) only [↓amPre,amAll,↓reduceIte,reduceCtorEq,Nat.reduceEqDiff,Nat.reduceBEq,Nat.reduceAdd,Nat.reduceLeDiff,Nat.reduceSub,Nat.reduceMul,Int.reduceToNat,List.size_toArray,tyF,MM,bu0,cbU49]
  have e1:∀ X:List Int,AV.fzL (X.map AV.i64)=X.map AV.i64:=fun X=>by rw [fzL_map,ints_fz]
  refine callP_frz l0 ?_
  simp -dsimp -implicitDefEqProofs (disch:=first | omega | (simp only [lenr];try omega)) only [↓amPre,amAll,↓reduceIte,reduceCtorEq,Nat.reduceEqDiff,Nat.reduceBEq,Nat.reduceAdd,Nat.reduceLeDiff,Nat.reduceSub,Nat.reduceMul,Int.reduceToNat,List.size_toArray,tyF,MM,bu0,cbU49,itrF,e1]
  refine callX_of (q0) ?_
  simp -dsimp -implicitDefEqProofs (disch:=first | omega | (simp only [lenr];try omega)) only [↓amPre,amAll,↓reduceIte,reduceCtorEq,Nat.reduceEqDiff,Nat.reduceBEq,Nat.reduceAdd,Nat.reduceLeDiff,Nat.reduceSub,Nat.reduceMul,Int.reduceToNat,List.size_toArray,tyF,MM,bu0,cbU49,hA]
  refine callP_of (ll) ?_
  simp -dsimp -implicitDefEqProofs (disch:=first | omega | (simp only [lenr];try omega)) only [↓amPre,amAll,↓reduceIte,reduceCtorEq,Nat.reduceEqDiff,Nat.reduceBEq,Nat.reduceAdd,Nat.reduceLeDiff,Nat.reduceSub,Nat.reduceMul,Int.reduceToNat,List.size_toArray,tyF,MM,bu0,cbU49,hA]
  have hs0:([0]:List Nat)=srtS [idL N]:=rfl
  refine awp_loop (fun k st=>k≤3000∧st.fr 7=.i64 k∧st.fr 6=.ref 15 [] 1 0 (2*p.mv.length)∧st.fr 5=.loc 5 [] 0 0∧st.fr 2=.loc 2 [] 0 0∧st.fr 4=.loc 4 [] 0 0∧st.mem 2=some (.pt 3 p.sl)∧st.mem 15=some (itr (letL p.mv.length))∧st.mem 5=some (.pt 4 (fE (Bf.out p.mv (letL p.mv.length) N k) false))∧st.mem 4=some (.pt 4 zS)∧(outF p.mv (letL p.mv.length) N k=(Bf.out p.mv (letL p.mv.length) N k,false)∧k≤(Bf.out p.mv (letL p.mv.length) N k).S.length)) (3000) ?_ ?_
  · simp -dsimp -implicitDefEqProofs (disch:=first | omega | (simp only [lenr];try omega)) only [↓amPre,amAll,↓reduceIte,reduceCtorEq,Nat.reduceEqDiff,Nat.reduceBEq,Nat.reduceAdd,Nat.reduceLeDiff,Nat.reduceSub,Nat.reduceMul,Int.reduceToNat,List.size_toArray,tyF,MM,bu0,cbU49,hA]
    exact ⟨rfl,rfl,rfl,Nat.zero_le _⟩
  rintro k st _ ⟨hk,f7,f6,f5,f2,f4,m2,m15,m5,m4,ek⟩
  obtain ⟨hF,hkl⟩:=ek
  have hk0:=hok k
  have h3k:=Bf.outF_len p.mv (letL p.mv.length) N k
  rw [hF] at h3k
  have hsfl:∀ L:List (List Int),(L.map fun x=>isl x).length=L.length:=fun L=>by simp
  by_cases c1:k<(Bf.out p.mv (letL p.mv.length) N k).S.length
  case neg =>
    have hst:=Bf.outF_stay (mv:=p.mv) (A:=letL p.mv.length) (n:=N) (k:=k) (.inr (by rw [hF];show (Bf.out p.mv (letL p.mv.length) N k).S.length≤k;omega)) (3000 - k)
    have h3k':k≤3000:=by have:(Bf.out p.mv (letL p.mv.length) N k).S.length≤3000:=h3k;omega
    rw [show k+(3000 - k)=3000 by omega,hF] at hst
    rw [hst]
    simp -dsimp -implicitDefEqProofs (disch:=first | omega | (simp only [lenr];try omega)) only [↓amPre,amAll,↓reduceIte,reduceCtorEq,Nat.reduceEqDiff,Nat.reduceBEq,Nat.reduceAdd,Nat.reduceLeDiff,Nat.reduceSub,Nat.reduceMul,Int.reduceToNat,List.size_toArray,tyF,MM,bu0,cbU49,f7,f6,f5,f2,f4,m2,m15,m5,m4,c1]
  have hk3:k<3000:=by have:(Bf.out p.mv (letL p.mv.length) N k).S.length≤3000:=h3k;omega
  have hsk:=hk0.el _ (mem_getD _ k default c1)
  have hinn:=fun j hj=>Bf.inn_ok hN1 hN2 hpn hk0 c1 j hj
  have hing:=fun j=>Bf.inn_grw p.mv (letL p.mv.length) k (Bf.out p.mv (letL p.mv.length) N k) j
  have hdle:=fun j=>Bf.inn_dle (mv:=p.mv) (A:=letL p.mv.length) (e:=Bf.out p.mv (letL p.mv.length) N k) (Bf.out_dle _ _ _ _) (k:=k) (by rw [hk0.lD];exact c1) j
  have hou1:Bf.out p.mv (letL p.mv.length) N (k+1)=inn p.mv (letL p.mv.length) k (Bf.out p.mv (letL p.mv.length) N k) (2*p.mv.length):=by rw [Bf.out,if_pos c1,hA]
  have houF:outF p.mv (letL p.mv.length) N (k+1)=innF p.mv (letL p.mv.length) k (Bf.out p.mv (letL p.mv.length) N k,false) (2*p.mv.length):=by rw [Bf.outF,hF,if_pos c1,hA]
  have hin3:=fun j=>Bf.innF_len (mv:=p.mv) (A:=letL p.mv.length) (k:=k) (s:=(Bf.out p.mv (letL p.mv.length) N k,false)) h3k j
  have hend:=fun (h:(outF p.mv (letL p.mv.length) N (k+1)).2=true)=>Bf.outF_stay (mv:=p.mv) (A:=letL p.mv.length) (n:=N) (k:=k+1) (.inl h) (3000 - (k+1))
  rw [show k+1+(3000 - (k+1))=3000 by omega] at hend
  rw [houF,hou1]
  rw [houF] at hend
  rw [hA] at hinn
  obtain ⟨E,hE⟩:∃ E,E=Bf.out p.mv (letL p.mv.length) N k:=⟨_,rfl⟩
  rw [← hE] at m5 hk0 c1 hsk hinn hing hdle hin3 hend ⊢
  simp -dsimp -implicitDefEqProofs (disch:=first | omega | (simp only [lenr];try omega)) only [↓amPre,amAll,↓reduceIte,reduceCtorEq,Nat.reduceEqDiff,Nat.reduceBEq,Nat.reduceAdd,Nat.reduceLeDiff,Nat.reduceSub,Nat.reduceMul,Int.reduceToNat,List.size_toArray,tyF,MM,bu0,cbU49,f7,f6,f5,f2,f4,m2,m15,m5,m4,c1]
  refine awp_loop (fun j st=>j≤(2*p.mv.length)∧st.fr 8=.i64 j∧st.fr 7=.i64 k∧st.fr 6=.ref 15 [] 1 0 (2*p.mv.length)∧st.fr 5=.loc 5 [] 0 0∧st.fr 2=.loc 2 [] 0 0∧st.fr 4=.loc 4 [] 0 0∧st.mem 2=some (.pt 3 p.sl)∧st.mem 15=some (itr (letL p.mv.length))∧st.mem 5=some (.pt 4 (fE (inn p.mv (letL p.mv.length) k E j) false))∧st.mem 4=some (.pt 4 zS)∧innF p.mv (letL p.mv.length) k (E,false) j=(inn p.mv (letL p.mv.length) k E j,false)) ((2*p.mv.length)) ?_ ?_
  · simp -dsimp -implicitDefEqProofs (disch:=first | omega | (simp only [lenr];try omega)) only [↓amPre,amAll,↓reduceIte,reduceCtorEq,Nat.reduceEqDiff,Nat.reduceBEq,Nat.reduceAdd,Nat.reduceLeDiff,Nat.reduceSub,Nat.reduceMul,Int.reduceToNat,List.size_toArray,tyF,MM,bu0,cbU49,f7,f6,f5,f2,f4,m2,m15,m5,m4]
    exact ⟨Nat.zero_le _,rfl,rfl,rfl⟩
  rintro j st _ ⟨hj,f8,f7,f6,f5,f2,f4,m2,m15,m5,m4,ej⟩
  by_cases c2:j<2*p.mv.length
  case neg =>
    have hje:j=2*p.mv.length:=by omega
    subst hje
    simp -dsimp -implicitDefEqProofs (disch:=first | omega | (simp only [lenr];try omega)) only [↓amPre,amAll,↓reduceIte,reduceCtorEq,Nat.reduceEqDiff,Nat.reduceBEq,Nat.reduceAdd,Nat.reduceLeDiff,Nat.reduceSub,Nat.reduceMul,Int.reduceToNat,List.size_toArray,tyF,MM,bu0,cbU49,f8,f7,f6,f5,f2,f4,m2,m15,m5,m4]
    have:=(hing (2*p.mv.length)).len
    exact ⟨by omega,by omega,ej,by omega⟩
  obtain ⟨hk2,_⟩:=hinn j (by omega)
  have hgj:=hing j
  have hdl:=hdle j k
  have h3j:(inn p.mv (letL p.mv.length) k E j).S.length≤3000:=by have:=hin3 j;rw [ej] at this;exact this
  have hstp:inn p.mv (letL p.mv.length) k E (j+1)=stp p.mv (letL p.mv.length) k (inn p.mv (letL p.mv.length) k E j) j:=rfl
  have hstF:innF p.mv (letL p.mv.length) k (E,false) (j+1)=Bf.stpF p.mv (letL p.mv.length) k (inn p.mv (letL p.mv.length) k E j,false) j:=by rw [← ej];rfl
  have hsty:=fun (h:(innF p.mv (letL p.mv.length) k (E,false) (j+1)).2=true)=>Bf.innF_stay h (2*p.mv.length - (j+1))
  rw [show j+1+(2*p.mv.length - (j+1))=2*p.mv.length by omega] at hsty
  obtain ⟨E2,hE2⟩:∃ E2,E2=inn p.mv (letL p.mv.length) k E j:=⟨_,rfl⟩
  rw [← hE2] at hk2 hgj hdl hstp hstF m5 h3j
  have hkE:=Nat.lt_of_lt_of_le c1 hgj.len
  have hgk:=hgj.get c1
  have hnE2:nbr p.mv E2 k ((letL p.mv.length).getD j 0)=compI (E.S.getD k default) (letP p.mv ((letL p.mv.length).getD j 0)):=by rw [← hgk]
  have hxA:=mem_getD (letL p.mv.length) j 0 (show j<(letL p.mv.length).length by omega)
  have hxok:=Bf.nbr_ok hN1 hN2 hpn hsk hxA
  unfold Bf.stpF at hstF
  rw [if_neg (by simp)] at hstF
  simp only [hnE2] at hstF
  unfold Bf.stp at hstp
  rw [hnE2] at hstp
  have hAj:((letL p.mv.length).map AV.i64).getD j .any=.i64 ((letL p.mv.length).getD j 0):=by rw [getD_eq _ _ _ (by simpa [hA] using c2),List.getElem_map,← getD_eq _ _ 0]
  have hlt:=letL_mem.1 hxA
  have qa:=sApply1 p (E.S.getD k default) ((letL p.mv.length).getD j 0) hd.1 ⟨by rw [hN];have:=hsk.1.1;omega,hsk.1.2⟩ (by unfold letOk;omega)
  have hgS:(E2.S.map fun x=>isl x).getD k .any=isl (E.S.getD k default):=by rw [getD_eq _ _ _ (by simpa using hkE),List.getElem_map,← hgk,getD_eq _ _ _ hkE]
  obtain ⟨x,hxx⟩:∃ x,x=compI (E.S.getD k default) (letP p.mv ((letL p.mv.length).getD j 0)):=⟨_,rfl⟩
  rw [← hxx] at qa hstF hstp hxok
  have hsrt:=Bf.srtS_ok (n:=N) hk2.nd (fun s hs=>(hk2.el s hs).1.1)
  have qi:=searchIndex N E2.S (cst E2.D) (srtS E2.S) false x hsrt hk2.nd hN2 hxok.1.1 h3j
  have hDk:((cst E2.D).map AV.i64).getD k .any=.i64 (E2.D.getD k 0:Nat):=by rw [getD_eq _ _ _ (by rw [List.length_map,cst_len,hk2.lD];exact hkE),List.getElem_map,← getD_eq _ _ 0,Ch.cst_get (by rw [hk2.lD];exact hkE)]
  have hlD:(cst E2.D).length=E2.S.length:=by rw [cst_len,hk2.lD]
  simp -dsimp -implicitDefEqProofs (disch:=first | omega | (simp only [lenr];try omega)) only [↓amPre,amAll,↓reduceIte,reduceCtorEq,Nat.reduceEqDiff,Nat.reduceBEq,Nat.reduceAdd,Nat.reduceLeDiff,Nat.reduceSub,Nat.reduceMul,Int.reduceToNat,List.size_toArray,tyF,MM,bu0,cbU49,f8,f7,f6,f5,f2,f4,m2,m15,m5,m4,hAj,hgS]
  refine callP_frz qa ?_
  simp -dsimp -implicitDefEqProofs (disch:=first | omega | (simp only [lenr];try omega)) only [↓amPre,amAll,↓reduceIte,reduceCtorEq,Nat.reduceEqDiff,Nat.reduceBEq,Nat.reduceAdd,Nat.reduceLeDiff,Nat.reduceSub,Nat.reduceMul,Int.reduceToNat,List.size_toArray,tyF,MM,bu0,cbU49,f8,f7,f6,f5,f2,f4,m2,m15,m5,m4,itrF,e1,islfz,ints_fz]
  refine callP_of (qi) ?_
  by_cases c3:x∈E2.S
  · rw [if_pos c3] at hstF hstp
    have hix:ixK E2.S x=((E2.S.idxOf x:Nat):Int):=by unfold ixK;rw [if_pos c3]
    have hsF:innF p.mv (letL p.mv.length) k (E,false) (j+1)=(inn p.mv (letL p.mv.length) k E (j+1),false):=by rw [hstF,hstp]
    rw [hsF,hstp]
    simp -dsimp -implicitDefEqProofs (disch:=first | omega | (simp only [lenr];try omega)) only [↓amPre,amAll,↓reduceIte,reduceCtorEq,Nat.reduceEqDiff,Nat.reduceBEq,Nat.reduceAdd,Nat.reduceLeDiff,Nat.reduceSub,Nat.reduceMul,Int.reduceToNat,List.size_toArray,tyF,MM,bu0,cbU49,f8,f7,f6,f5,f2,f4,m2,m15,m5,m4,hix]
    exact ⟨c2,by omega⟩
  have hix:ixK E2.S x = -1:=by unfold ixK;rw [if_neg c3]
  rw [if_neg c3] at hstF hstp
  by_cases c4:E2.S.length=3000
  · rw [if_pos c4] at hstF
    have h1:=hsty (by rw [hstF])
    rw [hstF] at h1
    have h2:=hend (by rw [h1])
    rw [h1] at h2
    rw [h2]
    simp -dsimp -implicitDefEqProofs (disch:=first | omega | (simp only [lenr];try omega)) only [↓amPre,amAll,↓reduceIte,reduceCtorEq,Nat.reduceEqDiff,Nat.reduceBEq,Nat.reduceAdd,Nat.reduceLeDiff,Nat.reduceSub,Nat.reduceMul,Int.reduceToNat,List.size_toArray,tyF,MM,bu0,cbU49,f8,f7,f6,f5,f2,f4,m2,m15,m5,m4,hix,hsfl,c4]
  · rw [if_neg c4] at hstF
    have hE3:inn p.mv (letL p.mv.length) k E (j+1)=⟨E2.S++[x],E2.D++[E2.D.getD k 0+1],E2.Pa++[k],E2.J++[j]⟩:=hstp
    have hsF:innF p.mv (letL p.mv.length) k (E,false) (j+1)=(inn p.mv (letL p.mv.length) k E (j+1),false):=by
      rw [hstF,hE3,Bf.stp,hnE2,← hxx,if_neg c3]
    have hwr:IntKind.i64.wrap ((E2.D.getD k 0:Nat)+1:Int)=((E2.D.getD k 0+1:Nat):Int):=by
      have:=hdl (by rw [hk2.lD];exact hkE)
      rw [wrap64_id (by omega)];rfl
    have qd:=searchAdd N E2.S (cst E2.D) (srtS E2.S) false x ((E2.D.getD k 0+1:Nat):Int) hsrt hN2 hxok.1.1 h3j hlD
    have hfE:fT (E2.S++[x]) (cst E2.D++[((E2.D.getD k 0+1:Nat):Int)]) (insS E2.S (srtS E2.S) x) false=fE (inn p.mv (letL p.mv.length) k E (j+1)) false:=by
      rw [hE3,← Bf.srtS_add]
      show fT _ _ _ _=fT _ (cst (E2.D++[E2.D.getD k 0+1])) _ _
      rw [cst_app];rfl
    rw [hfE] at qd
    rw [hsF]
    generalize inn p.mv (letL p.mv.length) k E (j+1)=E3 at *
    have c4':¬ ((E2.S.length:Int)=3000):=by omega
    simp -dsimp -implicitDefEqProofs (disch:=first | omega | (simp only [lenr];try omega)) only [↓amPre,amAll,↓reduceIte,reduceCtorEq,Nat.reduceEqDiff,Nat.reduceBEq,Nat.reduceAdd,Nat.reduceLeDiff,Nat.reduceSub,Nat.reduceMul,Int.reduceToNat,List.size_toArray,tyF,MM,bu0,cbU49,f8,f7,f6,f5,f2,f4,m2,m15,m5,m4,hix,hsfl,c4']
    refine split_go 8 (by decide +kernel) ?_
    have hwr2:IntKind.i64.wrap ((E2.D.getD k 0+1:Nat):Int)=((E2.D.getD k 0+1:Nat):Int):=hwr
    have hDk2:(cst E2.D).getD k 0=((E2.D.getD k 0:Nat):Int):=Ch.cst_get (by rw [hk2.lD];exact hkE)
    simp -dsimp -implicitDefEqProofs (disch:=first | omega | (simp only [lenr];try omega)) only [↓amPre,amAll,↓reduceIte,reduceCtorEq,Nat.reduceEqDiff,Nat.reduceBEq,Nat.reduceAdd,Nat.reduceLeDiff,Nat.reduceSub,Nat.reduceMul,Int.reduceToNat,List.size_toArray,tyF,MM,bu0,cbU49,f8,f7,f6,f5,f2,f4,m2,m15,m5,m4,hDk,hlD,hDk2,hwr,hwr2]
    refine callX_of (qd) ?_
    simp -dsimp -implicitDefEqProofs (disch:=first | omega | (simp only [lenr];try omega)) only [↓amPre,amAll,↓reduceIte,reduceCtorEq,Nat.reduceEqDiff,Nat.reduceBEq,Nat.reduceAdd,Nat.reduceLeDiff,Nat.reduceSub,Nat.reduceMul,Int.reduceToNat,List.size_toArray,tyF,MM,bu0,cbU49,f8,f7,f6,f5,f2,f4,m2,m15,m5,m4]
    exact ⟨c2,by omega⟩
noncomputable def sR (p:Puzz):Ex×Bool:=if puzzOk p then ((outF p.mv (letL p.mv.length) p.n.toNat 3000).1,!(outF p.mv (letL p.mv.length) p.n.toNat 3000).2) else (⟨[],[],[],[]⟩,false)
theorem searchStatesI (p:Puzz) (h:smallP p):SpecAt Try.prog 146 [p.sl] (.tup [fE (sR p).1 (sR p).2,.bl (sR p).2]):=by
  have q0:=sPuzzle p h
  by_cases hd:puzzOk p
  case neg =>
    have hz:sR p=(⟨[],[],[],[]⟩,false):=if_neg hd
    rw [decide_eq_false hd] at q0
    rw [hz]
    refine spec_of_awp_any (M:=MM) (np:=1) (X:=[3,4]) (fz:=false) mixed Try.func146 rfl rfl (by decide) rfl (Nat.le_refl _) (by decide +kernel) (.inl rfl) (by first | trivial | simp only [sigsOk_nil,sigsOk_some,sigsOk_none,sig_tr,sig_pt,sig_mt,sig_agg,List.map_cons,List.map_nil,sig1_tr,sig1_pt,sig1_v,and_self,true_and,List.length_map,List.length_set]) ?_
    simp -dsimp -implicitDefEqProofs (disch:=first | omega | (simp only [lenr];try omega)) only [↓amPre,amAll,↓reduceIte,reduceCtorEq,Nat.reduceEqDiff,Nat.reduceBEq,Nat.reduceAdd,Nat.reduceLeDiff,Nat.reduceSub,Nat.reduceMul,Int.reduceToNat,List.size_toArray,tyF,MM,bu0,cbU49]
    refine callP_of (q0) ?_
    simp -dsimp -implicitDefEqProofs (disch:=first | omega | (simp only [lenr];try omega)) only [↓amPre,amAll,↓reduceIte,reduceCtorEq,Nat.reduceEqDiff,Nat.reduceBEq,Nat.reduceAdd,Nat.reduceLeDiff,Nat.reduceSub,Nat.reduceMul,Int.reduceToNat,List.size_toArray,tyF,MM,bu0,cbU49]
    exact ⟨rfl,rfl⟩
  have hz:sR p=((outF p.mv (letL p.mv.length) p.n.toNat 3000).1,!(outF p.mv (letL p.mv.length) p.n.toNat 3000).2):=if_pos hd
  have hn20:=hd.1.1
  obtain ⟨N,hNN⟩:∃ N:Nat,p.n=N:=⟨p.n.toNat,by omega⟩
  rw [show p.n.toNat=N by omega] at hz
  have q1:=searchFromI p N hNN hd
  rw [decide_eq_true hd] at q0
  have l0:=sIdentity N (by omega)
  have e1:∀ X:List Int,AV.fzL (X.map AV.i64)=X.map AV.i64:=fun X=>by rw [fzL_map,ints_fz]
  rw [← hNN] at l0
  rw [hz]
  generalize (outF p.mv (letL p.mv.length) N 3000).1=e at *
  generalize (!(outF p.mv (letL p.mv.length) N 3000).2)=b at *
  refine spec_of_awp_any (M:=MM) (np:=1) (X:=[3,4]) (fz:=false) mixed Try.func146 rfl rfl (by decide) rfl (Nat.le_refl _) (by decide +kernel) (.inl rfl) (by first | trivial | simp only [sigsOk_nil,sigsOk_some,sigsOk_none,sig_tr,sig_pt,sig_mt,sig_agg,List.map_cons,List.map_nil,sig1_tr,sig1_pt,sig1_v,and_self,true_and,List.length_map,List.length_set]) ?_
  simp -dsimp -implicitDefEqProofs (disch:=first | omega | (simp only [lenr];try omega)) only [↓amPre,amAll,↓reduceIte,reduceCtorEq,Nat.reduceEqDiff,Nat.reduceBEq,Nat.reduceAdd,Nat.reduceLeDiff,Nat.reduceSub,Nat.reduceMul,Int.reduceToNat,List.size_toArray,tyF,MM,bu0,cbU49]
  refine callP_of (q0) ?_
  simp -dsimp -implicitDefEqProofs (disch:=first | omega | (simp only [lenr];try omega)) only [↓amPre,amAll,↓reduceIte,reduceCtorEq,Nat.reduceEqDiff,Nat.reduceBEq,Nat.reduceAdd,Nat.reduceLeDiff,Nat.reduceSub,Nat.reduceMul,Int.reduceToNat,List.size_toArray,tyF,MM,bu0,cbU49]
  refine split_go 6 (by decide +kernel) ?_
  simp -dsimp -implicitDefEqProofs (disch:=first | omega | (simp only [lenr];try omega)) only [↓amPre,amAll,↓reduceIte,reduceCtorEq,Nat.reduceEqDiff,Nat.reduceBEq,Nat.reduceAdd,Nat.reduceLeDiff,Nat.reduceSub,Nat.reduceMul,Int.reduceToNat,List.size_toArray,tyF,MM,bu0,cbU49]
  refine callP_frz l0 ?_
  simp -dsimp -implicitDefEqProofs (disch:=first | omega | (simp only [lenr];try omega)) only [↓amPre,amAll,↓reduceIte,reduceCtorEq,Nat.reduceEqDiff,Nat.reduceBEq,Nat.reduceAdd,Nat.reduceLeDiff,Nat.reduceSub,Nat.reduceMul,Int.reduceToNat,List.size_toArray,tyF,MM,bu0,cbU49,itrF,e1]
  refine callP_of (q1) ?_
  simp -dsimp -implicitDefEqProofs (disch:=first | omega | (simp only [lenr];try omega)) only [↓amPre,amAll,↓reduceIte,reduceCtorEq,Nat.reduceEqDiff,Nat.reduceBEq,Nat.reduceAdd,Nat.reduceLeDiff,Nat.reduceSub,Nat.reduceMul,Int.reduceToNat,List.size_toArray,tyF,MM,bu0,cbU49]
  refine lat_go [[],[],[1],[0],[0,1,2,3]] [[3,4],[2,4],[4],[4],[]] [0,1,2,3,4] (fun c st=>st.fr 4=.loc 4 [] 0 0∧st.fr 2=.loc 2 [] 0 0∧(c 0=true→c 3=false→st.fr 14=.agg [.ref 4 [(0,0)] 1 0 e.S.length,.ref 4 [(0,1)] 1 0 (cst e.D).length,.ref 4 [(0,2)] 1 0 (cst (srtS e.S)).length,.bl b])∧(c 1=true→st.fr 15=.loc 4 [] 0 3)∧(c 2=true→st.fr 16=.bl b)∧(c 4=true→st.fr 3=.bl b)∧st.mem 4=some (bif c 3 then (.pt 4 (.agg [.any,.any,.any,.bl b])) else (.pt 4 (fE e b)))∧st.mem 2=some (bif c 3 then (.pt 4 (fE e b)) else (.pt 4 zS))) (by decide +kernel) ?_ ?_ ?_
  · (try simp -dsimp -implicitDefEqProofs (disch:=first | omega | (simp only [lenr];try omega)) only [↓amPre,amAll,↓reduceIte,reduceCtorEq,Nat.reduceEqDiff,Nat.reduceBEq,Nat.reduceAdd,Nat.reduceLeDiff,Nat.reduceSub,Nat.reduceMul,Int.reduceToNat,List.size_toArray,tyF,MM,bu0,cbU49,latj])
    all_goals (try (repeat' (first | apply And.intro | rfl | (intro _;rfl) | (intro _ _;rfl))))
  · refine ⟨?_,?_,?_,?_,?_,trivial⟩
    all_goals rintro c st R hC hJ hR
    all_goals simp only [latm] at hC
    all_goals rcases Bool.eq_false_or_eq_true (c 3) with hx3 | hx3
    all_goals simp only [hC,hx3,latj] at hJ
    all_goals simp -dsimp -implicitDefEqProofs (disch:=first | omega | (simp only [lenr];try omega)) only [↓amPre,amAll,↓reduceIte,reduceCtorEq,Nat.reduceEqDiff,Nat.reduceBEq,Nat.reduceAdd,Nat.reduceLeDiff,Nat.reduceSub,Nat.reduceMul,Int.reduceToNat,List.size_toArray,tyF,MM,bu0,cbU49,hJ]
    all_goals refine hR _ ?_
    all_goals (simp +contextual -dsimp -implicitDefEqProofs only [amAll,↓reduceIte,reduceCtorEq,Nat.reduceEqDiff,Nat.reduceBEq,Nat.reduceAdd,latj,hC,hJ,hx3];try (repeat' (first | apply And.intro | rfl | (intro _;rfl) | (intro _ _;rfl))))
  intro c st hall hJ
  simp only [latm] at hall
  simp only [hall,latj] at hJ
  obtain ⟨f4,f2,f15,f16,f3,m4,m2⟩:=hJ
  clear hall
  simp -dsimp -implicitDefEqProofs (disch:=first | omega | (simp only [lenr];try omega)) only [↓amPre,amAll,↓reduceIte,reduceCtorEq,Nat.reduceEqDiff,Nat.reduceBEq,Nat.reduceAdd,Nat.reduceLeDiff,Nat.reduceSub,Nat.reduceMul,Int.reduceToNat,List.size_toArray,tyF,MM,bu0,cbU49,f2,f3,m2]
end Sr
end Go.AM
set_option maxRecDepth 8000
namespace Go.AM
namespace Ck
open Go.Proofs
open Ch (PN pt idL cst cst_app cst_len)
open Bf (Ex inn stp nbr idxM nxR nxO byL)
abbrev exA (p:Puzz) (S:List (List Int)) (D:List Int) (M:Value→Option Value) (Pa By:List Int) (Nx:AV):AV:=.pt 9 (.agg [.i64 p.n,.st p.nm,ssl p.mv,sfr S,itr D,.mt true M,itr Pa,itr By,Nx])
abbrev nxT (Nx:List (List Nat)):AV:=.tr 1 (Nx.map fun r=>itr (cst r))
noncomputable def exT (p:Puzz) (e:Ex) (Nx:List (List Nat)):AV:=.pt 9 (.agg [.i64 p.n,.st p.nm,ssl p.mv,sfr e.S,itr (cst e.D),.mt true (idxM e.S),itr (cst e.Pa),itr (byL (letL p.mv.length) e.J),.tr 1 (Nx.map fun r=>itr (cst r))])
def nilPt:AV:=.v (.pointer none)
theorem exploreNo (p:Puzz) (h:smallP p) (hs:¬ (1≤stN p∧stN p≤3000)):SpecAt Try.prog 136 [p.sl] (.tup [nilPt,.bl false]):=by
  have q0:=stateCountI p h
  have q1:=iwithin (stN p) 1 3000
  rw [show within (stN p) 1 3000=false from within_not.2 (by omega)] at q1
  refine spec_of_awp_any (M:=MM) (np:=1) (X:=[4,19,21]) (fz:=false) mixed Try.func136 rfl rfl (by decide) rfl (Nat.le_refl _) (by decide +kernel) (.inl rfl) (by first | trivial | simp only [sigsOk_nil,sigsOk_some,sigsOk_none,sig_tr,sig_pt,sig_mt,sig_agg,List.map_cons,List.map_nil,sig1_tr,sig1_pt,sig1_v,and_self,true_and,List.length_map,List.length_set]) ?_
  simp -dsimp -implicitDefEqProofs (disch:=first | omega | (simp only [lenr];try omega)) only [↓amPre,amAll,↓reduceIte,reduceCtorEq,Nat.reduceEqDiff,Nat.reduceBEq,Nat.reduceAdd,Nat.reduceLeDiff,Nat.reduceSub,Nat.reduceMul,Int.reduceToNat,List.size_toArray,tyF,MM,bu0,cbU49]
  refine callP_of (q0) ?_
  simp -dsimp -implicitDefEqProofs (disch:=first | omega | (simp only [lenr];try omega)) only [↓amPre,amAll,↓reduceIte,reduceCtorEq,Nat.reduceEqDiff,Nat.reduceBEq,Nat.reduceAdd,Nat.reduceLeDiff,Nat.reduceSub,Nat.reduceMul,Int.reduceToNat,List.size_toArray,tyF,MM,bu0,cbU49]
  refine callP_of (q1) ?_
  simp -dsimp -implicitDefEqProofs (disch:=first | omega | (simp only [lenr];try omega)) only [↓amPre,amAll,↓reduceIte,reduceCtorEq,Nat.reduceEqDiff,Nat.reduceBEq,Nat.reduceAdd,Nat.reduceLeDiff,Nat.reduceSub,Nat.reduceMul,Int.reduceToNat,List.size_toArray,tyF,MM,bu0,cbU49]
  try rfl
set_option maxHeartbeats 16000000 in
theorem exploreYes (p:Puzz) (h:smallP p) (hs:1≤stN p∧stN p≤3000):SpecAt Try.prog 136 [p.sl] (.tup [exT p (Bf.out p.mv (letL p.mv.length) p.n.toNat 3000) (nxO p.mv (letL p.mv.length) p.n.toNat 3000),.bl true]):=by
  have q0:=stateCountI p h
  have q1:=iwithin (stN p) 1 3000
  rw [show within (stN p) 1 3000=true from within_iff.2 (by omega)] at q1
  have hd:puzzOk p:=by
    by_cases c:puzzOk p
    · exact c
    · rw [stN,if_neg c] at hs;omega
  have hpn:=puzz_pn hd
  have hn20:=hd.1.1
  have hz:stN p=Ch.ordL (Ch.newL p.n.toNat p.mv):=if_pos hd
  obtain ⟨N,hNN⟩:∃ N:Nat,p.n=N:=⟨p.n.toNat,by omega⟩
  have hNt:p.n.toNat=N:=by omega
  rw [hNt] at hpn hz ⊢
  have hN1:1≤N:=by omega
  have hN2:N≤20:=by omega
  have hA:=letL_len p.mv.length
  have h8:=hd.1.2.1
  have l0:=iidentity N (by omega)
  rw [← hNN] at l0
  have hid:=PN.one hN1 hN2
  have hsm:smallE (idL N):=Bf.PN.small hN2 hid
  have lk0:=stateKeyI (idL N) hsm (by rw [runI_len];omega)
  have hup0:updM (fun _=>none) (.string (skey (idL N))) (.int .i64 0)=idxM [idL N]:=Bf.idxM_upd (S:=[]) (s:=idL N) (fun t ht=>by cases ht) hsm (by simp)
  have ll:=lettersI p.mv.length h8
  have e1:∀ X:List Int,AV.fzL (X.map AV.i64)=X.map AV.i64:=fun X=>by rw [fzL_map,ints_fz]
  have hpsl:p.sl=.agg [.i64 p.n,.st p.nm,ssl p.mv]:=rfl
  refine spec_of_awp_any (M:=MM) (np:=1) (X:=[4,19,21]) (fz:=false) mixed Try.func136 rfl rfl (by decide) rfl (Nat.le_refl _) (by decide +kernel) (.inl rfl) (by first | trivial | simp only [sigsOk_nil,sigsOk_some,sigsOk_none,sig_tr,sig_pt,sig_mt,sig_agg,List.map_cons,List.map_nil,sig1_tr,sig1_pt,sig1_v,and_self,true_and,List.length_map,List.length_set]) ?_
  simp -dsimp -implicitDefEqProofs (disch:=first | omega | (simp only [lenr];try omega)) only [↓amPre,amAll,↓reduceIte,reduceCtorEq,Nat.reduceEqDiff,Nat.reduceBEq,Nat.reduceAdd,Nat.reduceLeDiff,Nat.reduceSub,Nat.reduceMul,Int.reduceToNat,List.size_toArray,tyF,MM,bu0,cbU49]
  refine callP_of (q0) ?_
  simp -dsimp -implicitDefEqProofs (disch:=first | omega | (simp only [lenr];try omega)) only [↓amPre,amAll,↓reduceIte,reduceCtorEq,Nat.reduceEqDiff,Nat.reduceBEq,Nat.reduceAdd,Nat.reduceLeDiff,Nat.reduceSub,Nat.reduceMul,Int.reduceToNat,List.size_toArray,tyF,MM,bu0,cbU49]
  refine callP_of (q1) ?_
  simp -dsimp -implicitDefEqProofs (disch:=first | omega | (simp only [lenr];try omega)) only [↓amPre,amAll,↓reduceIte,reduceCtorEq,Nat.reduceEqDiff,Nat.reduceBEq,Nat.reduceAdd,Nat.reduceLeDiff,Nat.reduceSub,Nat.reduceMul,Int.reduceToNat,List.size_toArray,tyF,MM,bu0,cbU49]
  refine callP_frz l0 ?_
  simp -dsimp -implicitDefEqProofs (disch:=first | omega | (simp only [lenr];try omega)) only [↓amPre,amAll,↓reduceIte,reduceCtorEq,Nat.reduceEqDiff,Nat.reduceBEq,Nat.reduceAdd,Nat.reduceLeDiff,Nat.reduceSub,Nat.reduceMul,Int.reduceToNat,List.size_toArray,tyF,MM,bu0,cbU49,itrF,e1]
  refine any_fin (fun st=>st.fr 1=.loc 1 [] 0 0∧st.fr 5=.loc 32 [] 0 0∧st.mem 1=some (.pt 3 p.sl)∧st.mem 32=some (.pt 9 (.agg [.i64 p.n,.st p.nm,ssl p.mv,sfr [idL N],itr [0],.mt true (idxM [idL N]),itr [0],itr [0],.nilsl]))) ?_ ?_
  · intro hfin
    refine lat_go [[],[],[1],[],[],[],[5],[4,5,6],[4,5,6,7],[],[],[0,1,2,3,4,5,6,7,8,9,10],[0,1,2,3,4,5,6,7,8,9,10,11],[0,1,2,3,4,5,6,7,8,9,10,11,12]] [[11,12,13],[2,11,12,13],[11,12,13],[11,12,13],[7,8,11,12,13],[6,7,8,11,12,13],[7,8,11,12,13],[8,11,12,13],[11,12,13],[11,12,13],[11,12,13],[12,13],[13],[]] [0,1,2,3,4,5,6,7,8,9,10,11,12,13] (fun c st=>st.fr 1=.loc 1 [] 0 0∧st.fr 4=isl (idL N)∧(c 0=true→st.fr 21=p.sl)∧(c 1=true→st.fr 22=isl (idL N))∧(c 2=true→c 12=false→st.fr 23=.ref 23 [] 1 0 1)∧(c 3=true→c 12=false→st.fr 24=.ref 24 [] 1 0 1)∧(c 4=true→c 12=false→st.fr 25=.mref 25 [])∧(c 5=true→st.fr 26=isl (idL N))∧(c 6=true→st.fr 27=.v (.string (skey (idL N))))∧(c 8=true→c 12=false→st.fr 28=.mref 25 [])∧(c 9=true→c 12=false→st.fr 29=.ref 29 [] 1 0 1)∧(c 10=true→c 12=false→st.fr 30=.ref 30 [] 1 0 1)∧(c 11=true→c 12=false→st.fr 31=.agg [.i64 p.n,.st p.nm,ssl p.mv,.ref 23 [] 1 0 1,.ref 24 [] 1 0 1,.mref 25 [],.ref 29 [] 1 0 1,.ref 30 [] 1 0 1,.nilsl])∧(c 12=true→st.fr 32=.loc 32 [] 0 0)∧(c 13=true→st.fr 5=.loc 32 [] 0 0)∧st.mem 1=some (.pt 3 p.sl)∧(c 2=true→c 12=false→st.mem 23=some (sfr [idL N]))∧(c 3=true→c 12=false→st.mem 24=some (itr [0]))∧(c 4=true→c 7=false→st.mem 25=some (.mt true fun _=>none))∧(c 7=true→c 12=false→st.mem 25=some (.mt true (idxM [idL N])))∧(c 9=true→c 12=false→st.mem 29=some (itr [0]))∧(c 10=true→c 12=false→st.mem 30=some (itr [0]))∧(c 12=true→st.mem 32=some (.pt 9 (.agg [.i64 p.n,.st p.nm,ssl p.mv,sfr [idL N],itr [0],.mt true (idxM [idL N]),itr [0],itr [0],.nilsl])))) (by decide +kernel) ?_ ?_ ?_
    · (try simp -dsimp -implicitDefEqProofs (disch:=first | omega | (simp only [lenr];try omega)) only [↓amPre,amAll,↓reduceIte,reduceCtorEq,Nat.reduceEqDiff,Nat.reduceBEq,Nat.reduceAdd,Nat.reduceLeDiff,Nat.reduceSub,Nat.reduceMul,Int.reduceToNat,List.size_toArray,tyF,MM,bu0,cbU49,latj,hup0])
      all_goals (try (repeat' (first | apply And.intro | rfl | (intro _;rfl) | (intro _ _;rfl))))
    · refine ⟨?_,?_,?_,?_,?_,?_,?_,?_,?_,?_,?_,?_,?_,?_,trivial⟩
      all_goals rintro c st R hC hJ hR
      all_goals simp only [latm] at hC
      all_goals simp only [hC,latj] at hJ
      all_goals simp -dsimp -implicitDefEqProofs (disch:=first | omega | (simp only [lenr];try omega)) only [↓amPre,amAll,↓reduceIte,reduceCtorEq,Nat.reduceEqDiff,Nat.reduceBEq,Nat.reduceAdd,Nat.reduceLeDiff,Nat.reduceSub,Nat.reduceMul,Int.reduceToNat,List.size_toArray,tyF,MM,bu0,cbU49,hJ,hup0]
      all_goals (try (refine callP_of lk0 ?_;simp -dsimp -implicitDefEqProofs (disch:=first | omega | (simp only [lenr];try omega)) only [↓amPre,amAll,↓reduceIte,reduceCtorEq,Nat.reduceEqDiff,Nat.reduceBEq,Nat.reduceAdd,Nat.reduceLeDiff,Nat.reduceSub,Nat.reduceMul,Int.reduceToNat,List.size_toArray,tyF,MM,bu0,cbU49,hJ,hup0]))
      all_goals refine hR _ ?_
      all_goals (simp +contextual -dsimp -implicitDefEqProofs only [amAll,↓reduceIte,reduceCtorEq,Nat.reduceEqDiff,Nat.reduceBEq,Nat.reduceAdd,latj,hC,hJ,hup0];try (repeat' (first | apply And.intro | rfl | (intro _;rfl) | (intro _ _;rfl))))
    intro c st hall hJ
    simp only [latm] at hall
    simp only [hall,latj] at hJ
    obtain ⟨f1,f4,f21,f22,f26,f27,f32,f5,m1,m32⟩:=hJ
    clear hall
    exact hfin st ⟨f1,f5,m1,m32⟩
  rintro st ⟨f1,f5,m1,m32⟩
  have hok:=fun k=>(Bf.out_ok hN1 hN2 hpn k).1
  have hle:=fun k=>Bf.out_le hN1 hN2 hpn k
  simp -dsimp -implicitDefEqProofs (disch:=first | omega | (simp only [lenr];try omega)) only [↓amPre,amAll,↓reduceIte,reduceCtorEq,Nat.reduceEqDiff,Nat.reduceBEq,Nat.reduceAdd,Nat.reduceLeDiff,Nat.reduceSub,Nat.reduceMul,Int.reduceToNat,List.size_toArray,tyF,MM,bu0,cbU49,f1,f5,m1,hpsl]
  refine callP_of (ll) ?_
  simp -dsimp -implicitDefEqProofs (disch:=first | omega | (simp only [lenr];try omega)) only [↓amPre,amAll,↓reduceIte,reduceCtorEq,Nat.reduceEqDiff,Nat.reduceBEq,Nat.reduceAdd,Nat.reduceLeDiff,Nat.reduceSub,Nat.reduceMul,Int.reduceToNat,List.size_toArray,tyF,MM,bu0,cbU49,f1,f5,m1,m32,hA]
  skip
  refine awp_loopC 32 8 9 1 [.i64 p.n,.st p.nm,ssl p.mv,sfr [idL N],itr [0],.mt true (idxM [idL N]),itr [0],itr [0],.nilsl] (by simp -dsimp -implicitDefEqProofs (disch:=first | omega | (simp only [lenr];try omega)) only [↓amPre,amAll,↓reduceIte,reduceCtorEq,Nat.reduceEqDiff,Nat.reduceBEq,Nat.reduceAdd,Nat.reduceLeDiff,Nat.reduceSub,Nat.reduceMul,Int.reduceToNat,List.size_toArray,tyF,MM,bu0,cbU49,f1,f5,m1,m32]) (by simp) (by simp) (fun k st=>k≤3000∧st.fr 7=.i64 k∧st.fr 6=.ref 36 [] 1 0 (2*p.mv.length)∧st.fr 5=.loc 32 [] 0 0∧st.fr 1=.loc 1 [] 0 0∧st.mem 1=some (.pt 3 p.sl)∧st.mem 36=some (itr (letL p.mv.length))∧st.mem 32=some (exA p (Bf.out p.mv (letL p.mv.length) N k).S (cst (Bf.out p.mv (letL p.mv.length) N k).D) (idxM (Bf.out p.mv (letL p.mv.length) N k).S) (cst (Bf.out p.mv (letL p.mv.length) N k).Pa) (byL (letL p.mv.length) (Bf.out p.mv (letL p.mv.length) N k).J) (nxT (nxO p.mv (letL p.mv.length) N k)))∧(k≤(Bf.out p.mv (letL p.mv.length) N k).S.length)) (3000) ?_ ?_
  · simp -dsimp -implicitDefEqProofs (disch:=first | omega | (simp only [lenr];try omega)) only [↓amPre,amAll,↓reduceIte,reduceCtorEq,Nat.reduceEqDiff,Nat.reduceBEq,Nat.reduceAdd,Nat.reduceLeDiff,Nat.reduceSub,Nat.reduceMul,Int.reduceToNat,List.size_toArray,tyF,MM,bu0,cbU49,nilC_eq,f1,f5,m1,m32]
    exact ⟨rfl,rfl,Nat.zero_le _⟩
  rintro k st _ ⟨hk,f7,f6,f5,f1,m1,m36,m32,ek⟩
  have hk0:=hok k
  have hlek:=hle k
  by_cases c1:k<(Bf.out p.mv (letL p.mv.length) N k).S.length
  case neg =>
    have hend:Bf.out p.mv (letL p.mv.length) N k=Bf.out p.mv (letL p.mv.length) N 3000∧nxO p.mv (letL p.mv.length) N k=nxO p.mv (letL p.mv.length) N 3000:=by
      have a:=Bf.out_stay (mv:=p.mv) (A:=letL p.mv.length) (n:=N) (k:=k) (by omega) (3000 - k)
      have b:=Bf.nxO_stay (mv:=p.mv) (A:=letL p.mv.length) (n:=N) (k:=k) (by omega) (3000 - k)
      rw [show k+(3000 - k)=3000 by omega] at a b
      exact ⟨a.symm,b.symm⟩
    simp -dsimp -implicitDefEqProofs (disch:=first | omega | (simp only [lenr];try omega)) only [↓amPre,amAll,↓reduceIte,reduceCtorEq,Nat.reduceEqDiff,Nat.reduceBEq,Nat.reduceAdd,Nat.reduceLeDiff,Nat.reduceSub,Nat.reduceMul,Int.reduceToNat,List.size_toArray,tyF,MM,bu0,cbU49,f7,f6,f5,f1,m1,m36,m32]
    rw [hend.1,hend.2]
    rfl
  have hsk:=hk0.el _ (mem_getD _ k default c1)
  have qn:=neighborsI p N ((Bf.out p.mv (letL p.mv.length) N k).S.getD k default) hNN hd.1 hsk.1
  have hnl:=nbL_len p.mv ((Bf.out p.mv (letL p.mv.length) N k).S.getD k default) (Nat.le_refl (2*p.mv.length))
  have hnx1:nxO p.mv (letL p.mv.length) N (k+1)=nxO p.mv (letL p.mv.length) N k++[nxR p.mv (letL p.mv.length) k (Bf.out p.mv (letL p.mv.length) N k) (2*p.mv.length)]:=by rw [nxO,if_pos c1,hA]
  have hou1:Bf.out p.mv (letL p.mv.length) N (k+1)=inn p.mv (letL p.mv.length) k (Bf.out p.mv (letL p.mv.length) N k) (2*p.mv.length):=by rw [Bf.out,if_pos c1,hA]
  have hinn:=fun j hj=>Bf.inn_ok hN1 hN2 hpn hk0 c1 j hj
  have hing:=fun j=>Bf.inn_grw p.mv (letL p.mv.length) k (Bf.out p.mv (letL p.mv.length) N k) j
  have hinl:=fun j hj=>Bf.inn_le hN1 hN2 hpn hk0 c1 (j:=j) hj
  have hngt:=fun j hj=>nbL_get p.mv ((Bf.out p.mv (letL p.mv.length) N k).S.getD k default) (k:=j) hj
  rw [hA] at qn hngt hinn hinl
  rw [hou1,hnx1]
  obtain ⟨Nx,hNx⟩:∃ Nx,Nx=nxO p.mv (letL p.mv.length) N k:=⟨_,rfl⟩
  have hnxl:Nx.length=k:=by rw [hNx];exact Bf.nxO_lt ek
  rw [← hNx] at m32 ⊢
  obtain ⟨E,hE⟩:∃ E,E=Bf.out p.mv (letL p.mv.length) N k:=⟨_,rfl⟩
  rw [← hE] at m32 hk0 hlek c1 hsk qn hnl hinn hing hinl hngt ⊢
  obtain ⟨A,hAA⟩:∃ A,A=letL p.mv.length:=⟨_,rfl⟩
  rw [← hAA] at hA m36 m32 hinn hing hinl hngt ⊢
  obtain ⟨nb,hnb⟩:∃ nb,nb=nbL p.mv (E.S.getD k default) (2*p.mv.length):=⟨_,rfl⟩
  rw [← hnb] at qn hnl hngt
  have hfz:∀ L:List (List Int),AV.fzL (L.map fun x=>isl x)=L.map fun x=>isl x:=fun L=>by rw [fzL_map,islfz]
  simp -dsimp -implicitDefEqProofs (disch:=first | omega | (simp only [lenr];try omega)) only [↓amPre,amAll,↓reduceIte,reduceCtorEq,Nat.reduceEqDiff,Nat.reduceBEq,Nat.reduceAdd,Nat.reduceLeDiff,Nat.reduceSub,Nat.reduceMul,Int.reduceToNat,List.size_toArray,tyF,MM,bu0,cbU49,f7,f6,f5,f1,m1,m36,m32]
  refine callP_frz qn ?_
  have hnb2:AV.fz (sfr nb)=ssl nb:=by rw [AV.fz,hfz]
  simp -dsimp -implicitDefEqProofs (disch:=first | omega | (simp only [lenr];try omega)) only [↓amPre,amAll,↓reduceIte,reduceCtorEq,Nat.reduceEqDiff,Nat.reduceBEq,Nat.reduceAdd,Nat.reduceLeDiff,Nat.reduceSub,Nat.reduceMul,Int.reduceToNat,List.size_toArray,tyF,MM,bu0,cbU49,f7,f6,f5,f1,m1,m36,m32,hnb2,hnl]
  refine awp_loopN 8 138 1 (by simp -dsimp -implicitDefEqProofs (disch:=first | omega | (simp only [lenr];try omega)) only [↓amPre,amAll,↓reduceIte,reduceCtorEq,Nat.reduceEqDiff,Nat.reduceBEq,Nat.reduceAdd,Nat.reduceLeDiff,Nat.reduceSub,Nat.reduceMul,Int.reduceToNat,List.size_toArray,tyF,MM,bu0,cbU49,f7,f6,f5,f1,m1,m36,m32]) (by decide) (fun j st=>j≤(2*p.mv.length)∧st.fr 56=.i64 j∧st.fr 55=.i64 (2*p.mv.length:Nat)∧st.fr 54=ssl nb∧st.fr 8=.ref 138 [] 1 0 j∧st.fr 7=.i64 k∧st.fr 6=.ref 36 [] 1 0 (2*p.mv.length)∧st.fr 5=.loc 32 [] 0 0∧st.fr 1=.loc 1 [] 0 0∧st.mem 138=some (itr (cst (nxR p.mv A k E j)))∧st.mem 1=some (.pt 3 p.sl)∧st.mem 36=some (itr A)∧st.mem 32=some (exA p (inn p.mv A k E j).S (cst (inn p.mv A k E j).D) (idxM (inn p.mv A k E j).S) (cst (inn p.mv A k E j).Pa) (byL A (inn p.mv A k E j).J) (nxT Nx))) ((2*p.mv.length)) ?_ ?_
  · simp -dsimp -implicitDefEqProofs (disch:=first | omega | (simp only [lenr];try omega)) only [↓amPre,amAll,↓reduceIte,reduceCtorEq,Nat.reduceEqDiff,Nat.reduceBEq,Nat.reduceAdd,Nat.reduceLeDiff,Nat.reduceSub,Nat.reduceMul,Int.reduceToNat,List.size_toArray,tyF,MM,bu0,cbU49,f7,f6,f5,f1,m1,m36,m32,nilAs_eq]
    exact ⟨Nat.zero_le _,rfl,rfl,rfl⟩
  rintro j st _ ⟨hj,f56,f55,f54,f8,f7,f6,f5,f1,m138,m1,m36,m32⟩
  have hrl:=Bf.nxR_len p.mv A k E j
  by_cases c2:j<2*p.mv.length
  case neg =>
    have hje:j=2*p.mv.length:=by omega
    subst hje
    have hrl2:(cst (nxR p.mv A k E (2*p.mv.length))).length=2*p.mv.length:=by rw [cst_len,hrl]
    simp -dsimp -implicitDefEqProofs (disch:=first | omega | (simp only [lenr];try omega)) only [↓amPre,amAll,↓reduceIte,reduceCtorEq,Nat.reduceEqDiff,Nat.reduceBEq,Nat.reduceAdd,Nat.reduceLeDiff,Nat.reduceSub,Nat.reduceMul,Int.reduceToNat,List.size_toArray,tyF,MM,bu0,cbU49,f56,f55,f54,f8,f7,f6,f5,f1,m138,m1,m36,m32,hrl2]
    have:=(hing (2*p.mv.length)).len
    exact ⟨by omega,by omega,by omega⟩
  obtain ⟨hk2,_⟩:=hinn j (by omega)
  have hk3:=(hinn (j+1) (by omega)).1
  have hgj:=hing j
  have hlj:=hinl j (by omega)
  have hlj1:=hinl (j+1) (by omega)
  have hx:=hngt j c2
  have hstp:inn p.mv A k E (j+1)=stp p.mv A k (inn p.mv A k E j) j:=rfl
  have hrs:nxR p.mv A k E (j+1)=nxR p.mv A k E j++[(inn p.mv A k E (j+1)).S.idxOf (nbr p.mv E k (A.getD j 0))]:=rfl
  obtain ⟨E3,hE3⟩:∃ E3,E3=inn p.mv A k E (j+1):=⟨_,rfl⟩
  rw [← hE3] at hk3 hlj1 hstp hrs ⊢
  obtain ⟨E2,hE2⟩:∃ E2,E2=inn p.mv A k E j:=⟨_,rfl⟩
  rw [← hE2] at hk2 hgj hlj hstp m32
  have hkE:=Nat.lt_of_lt_of_le c1 hgj.len
  have hgk:=hgj.get c1
  have hnE:nbr p.mv E k (A.getD j 0)=compI (E.S.getD k default) (letP p.mv (A.getD j 0)):=rfl
  have hnE2:nbr p.mv E2 k (A.getD j 0)=compI (E.S.getD k default) (letP p.mv (A.getD j 0)):=by rw [← hgk]
  rw [hnE] at hrs
  have hxA:A.getD j 0∈letL p.mv.length:=by rw [← hAA];exact mem_getD A j 0 (by omega)
  have hxok:=Bf.nbr_ok hN1 hN2 hpn hsk hxA
  have hxs:=Bf.PN.small hN2 hxok.1
  obtain ⟨rw1,hrw1⟩:∃ r,r=nxR p.mv A k E j:=⟨_,rfl⟩
  rw [← hrw1] at hrl hrs m138
  obtain ⟨rw3,hrw3⟩:∃ r,r=nxR p.mv A k E (j+1):=⟨_,rfl⟩
  rw [← hrw3] at hrs ⊢
  unfold Bf.stp at hstp
  rw [hnE2] at hstp
  have hgx:nb.getD j default=compI (E.S.getD k default) (letP p.mv (A.getD j 0)):=hx
  have hgl:(nb.map fun x=>isl x).getD j .any=isl (compI (E.S.getD k default) (letP p.mv (A.getD j 0))):=by rw [getD_eq _ _ _ (by simpa [hnl] using c2),List.getElem_map,← hgx,getD_eq _ _ _ (by rw [hnl];exact c2)]
  obtain ⟨x,hxx⟩:∃ x,x=compI (E.S.getD k default) (letP p.mv (A.getD j 0)):=⟨_,rfl⟩
  rw [← hxx] at hgl hstp hrs hxok hxs
  have qk:=stateKeyI x hxs (by have:=hxok.1.1;omega)
  have hlk:=Bf.idxM_at (S:=E2.S) (s:=x) (fun t ht=>Bf.PN.small hN2 (hk2.el t ht).1) hxs
  have hAj:(A.map AV.i64).getD j .any=.i64 (A.getD j 0):=by rw [getD_eq _ _ _ (by simpa [hA] using c2),List.getElem_map,← getD_eq _ _ 0]
  have hDk:((cst E2.D).map AV.i64).getD k .any=.i64 (E2.D.getD k 0:Nat):=by rw [getD_eq _ _ _ (by rw [List.length_map,cst_len,hk2.lD];exact hkE),List.getElem_map,← getD_eq _ _ 0,Ch.cst_get (by rw [hk2.lD];exact hkE)]
  have hlD:(cst E2.D).length=E2.S.length:=by rw [cst_len,hk2.lD]
  have hlP:(cst E2.Pa).length=E2.S.length:=by rw [cst_len,hk2.lP]
  have hlJ:(byL A E2.J).length=E2.S.length:=by rw [Bf.byL_len,hk2.lJ]
  have hbS:=hlj
  by_cases c3:x∈E2.S
  · rw [if_pos c3] at hstp hlk
    subst hstp
    have hre:cst rw1++[((E3.S.idxOf x:Nat):Int)]=cst rw3:=by rw [hrs,cst_app];rfl
    have hlr1:(cst rw1).length=j:=by rw [cst_len,hrl]
    simp -dsimp -implicitDefEqProofs (disch:=first | omega | (simp only [lenr];try omega)) only [↓amPre,amAll,↓reduceIte,reduceCtorEq,Nat.reduceEqDiff,Nat.reduceBEq,Nat.reduceAdd,Nat.reduceLeDiff,Nat.reduceSub,Nat.reduceMul,Int.reduceToNat,List.size_toArray,tyF,MM,bu0,cbU49,f56,f55,f54,f8,f7,f6,f5,f1,m138,m1,m36,m32,hgl,hnl]
    refine callP_of (qk) ?_
    simp -dsimp -implicitDefEqProofs (disch:=first | omega | (simp only [lenr];try omega)) only [↓amPre,amAll,↓reduceIte,reduceCtorEq,Nat.reduceEqDiff,Nat.reduceBEq,Nat.reduceAdd,Nat.reduceLeDiff,Nat.reduceSub,Nat.reduceMul,Int.reduceToNat,List.size_toArray,tyF,MM,bu0,cbU49,f56,f55,f54,f8,f7,f6,f5,f1,m138,m1,m36,m32,hlk]
    exact ⟨c2,by omega,by rw [hlr1],by rw [← hre]⟩
  · rw [if_neg c3] at hstp hlk
    have hup:=Bf.idxM_upd (S:=E2.S) (s:=x) (fun t ht=>Bf.PN.small hN2 (hk2.el t ht).1) hxs c3
    have hE3S:E3.S=E2.S++[x]:=by rw [hstp]
    have hE3D:cst E2.D++[((E2.D.getD k 0+1:Nat):Int)]=cst E3.D:=by rw [hstp,cst_app];rfl
    have hE3P:cst E2.Pa++[(k:Int)]=cst E3.Pa:=by rw [hstp,cst_app];rfl
    have hE3J:byL A E2.J++[A.getD j 0]=byL A E3.J:=by rw [hstp];exact (Bf.byL_app A (by rw [hk2.lJ];omega) j).symm
    have hE3l:E3.S.length=E2.S.length+1:=by rw [hE3S];simp
    have hlD3:(cst E3.D).length=E2.S.length+1:=by rw [cst_len,hk3.lD,hE3l]
    have hlP3:(cst E3.Pa).length=E2.S.length+1:=by rw [cst_len,hk3.lP,hE3l]
    have hlJ3:(byL A E3.J).length=E2.S.length+1:=by rw [Bf.byL_len,hk3.lJ,hE3l]
    rw [← hE3S] at hup
    have hSS:(E2.S.map fun x=>isl x)++[isl x]=E3.S.map fun x=>isl x:=by rw [hE3S];simp
    have hix:E3.S.idxOf x=E2.S.length:=by rw [hE3S,List.idxOf_append,if_neg c3];simp
    have hre:cst rw1++[((E2.S.length:Nat):Int)]=cst rw3:=by rw [hrs,hix,cst_app];rfl
    have hlr1:(cst rw1).length=j:=by rw [cst_len,hrl]
    have ql:=lenSS E2.S
    clear hstp
    have hDle:=Bf.inn_dle (mv:=p.mv) (A:=A) (e:=E) (fun i hi=>by rw [hE];rw [hE] at hi;exact Bf.out_dle _ _ _ _ i hi) (k:=k) (by rw [hk0.lD];exact c1) j k (by rw [← hE2,hk2.lD];exact hkE)
    rw [← hE2] at hDle
    have hwr:IntKind.i64.wrap ((E2.D.getD k 0:Nat)+1:Int)=((E2.D.getD k 0+1:Nat):Int):=by rw [wrap64_id (by omega)];rfl
    simp -dsimp -implicitDefEqProofs (disch:=first | omega | (simp only [lenr];try omega)) only [↓amPre,amAll,↓reduceIte,reduceCtorEq,Nat.reduceEqDiff,Nat.reduceBEq,Nat.reduceAdd,Nat.reduceLeDiff,Nat.reduceSub,Nat.reduceMul,Int.reduceToNat,List.size_toArray,tyF,MM,bu0,cbU49,f56,f55,f54,f8,f7,f6,f5,f1,m138,m1,m36,m32,hgl,hnl]
    refine callP_of (qk) ?_
    simp -dsimp -implicitDefEqProofs (disch:=first | omega | (simp only [lenr];try omega)) only [↓amPre,amAll,↓reduceIte,reduceCtorEq,Nat.reduceEqDiff,Nat.reduceBEq,Nat.reduceAdd,Nat.reduceLeDiff,Nat.reduceSub,Nat.reduceMul,Int.reduceToNat,List.size_toArray,tyF,MM,bu0,cbU49,f56,f55,f54,f8,f7,f6,f5,f1,m138,m1,m36,m32,hlk,islfz]
    refine callP_of (ql) ?_
    simp -dsimp -implicitDefEqProofs (disch:=first | omega | (simp only [lenr];try omega)) only [↓amPre,amAll,↓reduceIte,reduceCtorEq,Nat.reduceEqDiff,Nat.reduceBEq,Nat.reduceAdd,Nat.reduceLeDiff,Nat.reduceSub,Nat.reduceMul,Int.reduceToNat,List.size_toArray,tyF,MM,bu0,cbU49,f56,f55,f54,f8,f7,f6,f5,f1,m138,m1,m36,m32,hup,hSS,hE3l]
    refine lat_go [[],[],[1],[1,2],[1,2,3],[],[5],[5,6],[5,6,7],[],[5,6,7,8,9],[5,6,7,8,9,10],[5,6,7,8,9,10,11],[5,6,7,8,9,10,11,12],[1,2,3,4,5,6,7,8,9,10,11,12,13],[0,1,2,3,4,5,6,7,8,9,10,11,12,13,14],[0,1,2,3,4,5,6,7,8,9,10,11,12,13,14,15],[0,1,2,3,4,5,6,7,8,9,10,11,12,13,14,15,16]] [[15,16,17],[2,3,4,14,15,16,17],[3,4,14,15,16,17],[4,14,15,16,17],[14,15,16,17],[6,7,8,10,11,12,13,14,15,16,17],[7,8,10,11,12,13,14,15,16,17],[8,10,11,12,13,14,15,16,17],[10,11,12,13,14,15,16,17],[10,11,12,13,14,15,16,17],[11,12,13,14,15,16,17],[12,13,14,15,16,17],[13,14,15,16,17],[14,15,16,17],[15,16,17],[16,17],[17],[]] [0,1,2,3,4,5,6,7,8,9,10,11,12,13,14,15,16,17] (fun c st=>st.fr 56=.i64 j∧st.fr 55=.i64 (2*p.mv.length:Nat)∧st.fr 54=ssl nb∧st.fr 8=.ref 138 [] 1 0 j∧st.fr 7=.i64 k∧st.fr 6=.ref 36 [] 1 0 (2*p.mv.length)∧st.fr 5=.loc 32 [] 0 0∧st.fr 1=.loc 1 [] 0 0∧st.fr 9=.i64 j∧st.fr 12=.i64 (E2.S.length:Nat)∧(c 0=true→st.fr 95=.loc 32 [] 0 0)∧(c 1=true→st.fr 96=.loc 32 [] 0 0)∧(c 2=true→st.fr 97=.loc 32 [] 0 0)∧(c 3=true→st.fr 98=.loc 32 [] 0 4)∧(c 4=true→c 14=false→st.fr 99=.ref 32 [(0,4)] 1 0 E2.S.length)∧(c 5=true→st.fr 100=.loc 32 [] 0 0)∧(c 6=true→st.fr 101=.loc 32 [] 0 0)∧(c 7=true→st.fr 102=.loc 32 [] 0 4)∧(c 8=true→c 14=false→st.fr 103=.ref 32 [(0,4)] 1 0 E2.S.length)∧(c 9=true→st.fr 104=.i64 k)∧(c 10=true→c 14=false→st.fr 105=.loc 32 [(0,4)] k 0)∧(c 11=true→st.fr 106=.i64 (E2.D.getD k 0:Nat))∧(c 12=true→st.fr 107=.i64 ((E2.D.getD k 0+1:Nat):Int))∧(c 13=true→st.fr 108=.ref 108 [] 1 0 1)∧(c 14=true→c 17=false→st.fr 109=.ref 109 [] 1 0 (E2.S.length+1))∧(c 15=true→st.fr 110=.loc 32 [] 0 0)∧(c 16=true→st.fr 111=.loc 32 [] 0 4)∧st.mem 138=some (itr (cst rw1))∧st.mem 1=some (.pt 3 p.sl)∧st.mem 36=some (itr A)∧st.mem 32=some (bif c 17 then (exA p E3.S (cst E3.D) (idxM E3.S) (cst E2.Pa) (byL A E2.J) (nxT Nx)) else (bif c 14 then (.pt 9 (.agg [.i64 p.n,.st p.nm,ssl p.mv,sfr E3.S,.any,.mt true (idxM E3.S),itr (cst E2.Pa),itr (byL A E2.J),nxT Nx])) else (exA p E3.S (cst E2.D) (idxM E3.S) (cst E2.Pa) (byL A E2.J) (nxT Nx))))∧(c 13=true→st.mem 108=some (itr [((E2.D.getD k 0+1:Nat):Int)]))∧(c 14=true→c 17=false→st.mem 109=some (itr (cst E3.D)))) (by decide +kernel) ?_ ?_ ?_
    · (try simp -dsimp -implicitDefEqProofs (disch:=first | omega | (simp only [lenr];try omega)) only [↓amPre,amAll,↓reduceIte,reduceCtorEq,Nat.reduceEqDiff,Nat.reduceBEq,Nat.reduceAdd,Nat.reduceLeDiff,Nat.reduceSub,Nat.reduceMul,Int.reduceToNat,List.size_toArray,tyF,MM,bu0,cbU49,latj,hDk,hlD,hlD3,hE3D,hwr,f56,f55,f54,f8,f7,f6,f5,f1,m138,m1,m36,m32])
      all_goals (try (repeat' (first | apply And.intro | rfl | (intro _;rfl) | (intro _ _;rfl))))
    · refine ⟨?_,?_,?_,?_,?_,?_,?_,?_,?_,?_,?_,?_,?_,?_,?_,?_,?_,?_,trivial⟩
      all_goals rintro c st R hC hJ hR
      all_goals simp only [latm] at hC
      all_goals rcases Bool.eq_false_or_eq_true (c 14) with hx14 | hx14
      all_goals simp only [hC,hx14,latj] at hJ
      all_goals simp -dsimp -implicitDefEqProofs (disch:=first | omega | (simp only [lenr];try omega)) only [↓amPre,amAll,↓reduceIte,reduceCtorEq,Nat.reduceEqDiff,Nat.reduceBEq,Nat.reduceAdd,Nat.reduceLeDiff,Nat.reduceSub,Nat.reduceMul,Int.reduceToNat,List.size_toArray,tyF,MM,bu0,cbU49,hJ,hDk,hlD,hlD3,hE3D,hwr]
      all_goals refine hR _ ?_
      all_goals (simp +contextual -dsimp -implicitDefEqProofs only [amAll,↓reduceIte,reduceCtorEq,Nat.reduceEqDiff,Nat.reduceBEq,Nat.reduceAdd,latj,hC,hJ,hx14,hDk,hlD,hlD3,hE3D,hwr];try (repeat' (first | apply And.intro | rfl | (intro _;rfl) | (intro _ _;rfl))))
    intro c st hall hJ
    simp only [latm] at hall
    simp only [hall,latj] at hJ
    obtain ⟨f56,f55,f54,f8,f7,f6,f5,f1,f9,f12,f95,f96,f97,f98,f100,f101,f102,f104,f106,f107,f108,f110,f111,m138,m1,m36,m32,m108⟩:=hJ
    clear hall
    simp -dsimp -implicitDefEqProofs (disch:=first | omega | (simp only [lenr];try omega)) only [↓amPre,amAll,↓reduceIte,reduceCtorEq,Nat.reduceEqDiff,Nat.reduceBEq,Nat.reduceAdd,Nat.reduceLeDiff,Nat.reduceSub,Nat.reduceMul,Int.reduceToNat,List.size_toArray,tyF,MM,bu0,cbU49,f1,f5,f6,f7,f8,f9,f12,f54,f55,f56,m1,m32,m36,m138,hlP,hE3P,hlP3]
    refine lat_go [[],[],[1],[1,2],[1,2,3],[],[],[5,6],[5,6,7],[5,6,7,8],[1,2,3,4,5,6,7,8,9],[0,1,2,3,4,5,6,7,8,9,10],[0,1,2,3,4,5,6,7,8,9,10,11],[0,1,2,3,4,5,6,7,8,9,10,11,12]] [[11,12,13],[2,3,4,10,11,12,13],[3,4,10,11,12,13],[4,10,11,12,13],[10,11,12,13],[7,8,9,10,11,12,13],[7,8,9,10,11,12,13],[8,9,10,11,12,13],[9,10,11,12,13],[10,11,12,13],[11,12,13],[12,13],[13],[]] [0,1,2,3,4,5,6,7,8,9,10,11,12,13] (fun c st=>st.fr 56=.i64 j∧st.fr 55=.i64 (2*p.mv.length:Nat)∧st.fr 54=ssl nb∧st.fr 8=.ref 138 [] 1 0 j∧st.fr 7=.i64 k∧st.fr 6=.ref 36 [] 1 0 (2*p.mv.length)∧st.fr 5=.loc 32 [] 0 0∧st.fr 1=.loc 1 [] 0 0∧st.fr 9=.i64 j∧st.fr 12=.i64 (E2.S.length:Nat)∧(c 0=true→st.fr 122=.loc 32 [] 0 0)∧(c 1=true→st.fr 123=.loc 32 [] 0 0)∧(c 2=true→st.fr 124=.loc 32 [] 0 0)∧(c 3=true→st.fr 125=.loc 32 [] 0 7)∧(c 4=true→c 10=false→st.fr 126=.ref 32 [(0,7)] 1 0 E2.S.length)∧(c 5=true→st.fr 127=.ref 36 [] 1 0 (2*p.mv.length))∧(c 6=true→st.fr 128=.i64 j)∧(c 7=true→st.fr 129=.loc 36 [] j 0)∧(c 8=true→st.fr 130=.i64 (A.getD j 0))∧(c 9=true→st.fr 131=.ref 131 [] 1 0 1)∧(c 10=true→c 13=false→st.fr 132=.ref 132 [] 1 0 (E2.S.length+1))∧(c 11=true→st.fr 133=.loc 32 [] 0 0)∧(c 12=true→st.fr 134=.loc 32 [] 0 7)∧st.mem 138=some (itr (cst rw1))∧st.mem 1=some (.pt 3 p.sl)∧st.mem 36=some (itr A)∧st.mem 32=some (bif c 13 then (exA p E3.S (cst E3.D) (idxM E3.S) (cst E3.Pa) (byL A E3.J) (nxT Nx)) else (bif c 10 then (.pt 9 (.agg [.i64 p.n,.st p.nm,ssl p.mv,sfr E3.S,itr (cst E3.D),.mt true (idxM E3.S),itr (cst E3.Pa),.any,nxT Nx])) else (exA p E3.S (cst E3.D) (idxM E3.S) (cst E3.Pa) (byL A E2.J) (nxT Nx))))∧(c 9=true→st.mem 131=some (itr [A.getD j 0]))∧(c 10=true→c 13=false→st.mem 132=some (itr (byL A E3.J)))) (by decide +kernel) ?_ ?_ ?_
    · (try simp -dsimp -implicitDefEqProofs (disch:=first | omega | (simp only [lenr];try omega)) only [↓amPre,amAll,↓reduceIte,reduceCtorEq,Nat.reduceEqDiff,Nat.reduceBEq,Nat.reduceAdd,Nat.reduceLeDiff,Nat.reduceSub,Nat.reduceMul,Int.reduceToNat,List.size_toArray,tyF,MM,bu0,cbU49,latj,hAj,hA,hlJ,hlJ3,hE3J,f1,f5,f6,f7,f8,f9,f12,f54,f55,f56,m1,m32,m36,m138])
      all_goals (try (repeat' (first | apply And.intro | rfl | (intro _;rfl) | (intro _ _;rfl))))
    · refine ⟨?_,?_,?_,?_,?_,?_,?_,?_,?_,?_,?_,?_,?_,?_,trivial⟩
      all_goals rintro c st R hC hJ hR
      all_goals simp only [latm] at hC
      all_goals rcases Bool.eq_false_or_eq_true (c 10) with hx10 | hx10
      all_goals simp only [hC,hx10,latj] at hJ
      all_goals simp -dsimp -implicitDefEqProofs (disch:=first | omega | (simp only [lenr];try omega)) only [↓amPre,amAll,↓reduceIte,reduceCtorEq,Nat.reduceEqDiff,Nat.reduceBEq,Nat.reduceAdd,Nat.reduceLeDiff,Nat.reduceSub,Nat.reduceMul,Int.reduceToNat,List.size_toArray,tyF,MM,bu0,cbU49,hJ,hAj,hA,hlJ,hlJ3,hE3J]
      all_goals refine hR _ ?_
      all_goals (simp +contextual -dsimp -implicitDefEqProofs only [amAll,↓reduceIte,reduceCtorEq,Nat.reduceEqDiff,Nat.reduceBEq,Nat.reduceAdd,latj,hC,hJ,hx10,hAj,hA,hlJ,hlJ3,hE3J];try (repeat' (first | apply And.intro | rfl | (intro _;rfl) | (intro _ _;rfl))))
    intro c st hall hJ
    simp only [latm] at hall
    simp only [hall,latj] at hJ
    obtain ⟨f56,f55,f54,f8,f7,f6,f5,f1,f9,f12,f122,f123,f124,f125,f127,f128,f129,f130,f131,f133,f134,m138,m1,m36,m32,m131⟩:=hJ
    clear hall
    simp -dsimp -implicitDefEqProofs (disch:=first | omega | (simp only [lenr];try omega)) only [↓amPre,amAll,↓reduceIte,reduceCtorEq,Nat.reduceEqDiff,Nat.reduceBEq,Nat.reduceAdd,Nat.reduceLeDiff,Nat.reduceSub,Nat.reduceMul,Int.reduceToNat,List.size_toArray,tyF,MM,bu0,cbU49,f1,f5,f6,f7,f8,f9,f12,f54,f55,f56,m1,m32,m36,m138,hlr1]
    exact ⟨c2,by omega,by rw [← hre]⟩
end Ck
end Go.AM
set_option maxRecDepth 8000
namespace Go.AM
namespace Sr
open Go.Proofs
open Ch (PN pt idL cst cst_app cst_len)
open Bf (Ex nxO lsK lsN idxM byL)
open Ck (sfr exT exA nxT stN)
theorem stN_pos {p:Puzz} (hd:puzzOk p):1≤stN p:=by
  have hpn:=Ck.puzz_pn hd
  have h1:=hd.1.1
  have hP:=Ch.newL_part (n:=p.n.toNat) (by omega) (by omega) hpn
  rw [stN,if_pos hd]
  exact (Ch.ord_fac (by omega) (by omega) _ 0 hP.good).1
theorem sR_yes {p:Puzz} (h:1≤stN p∧stN p≤3000):puzzOk p∧sR p=(Bf.out p.mv (letL p.mv.length) p.n.toNat 3000,true):=by
  have hd:puzzOk p:=by
    by_cases c:puzzOk p
    · exact c
    · rw [stN,if_neg c] at h;omega
  have hpn:=Ck.puzz_pn hd
  have h1:=hd.1.1
  have hw:=Bf.outF_whole (n:=p.n.toNat) (by omega) (by omega) hpn
  have hz:stN p=Ch.ordL (Ch.newL p.n.toNat p.mv):=if_pos hd
  have hF:=hw.2 (by omega)
  refine ⟨hd,?_⟩
  rw [sR,if_pos hd,Bf.outF_f 3000 hF,hF];rfl
theorem sR_no {p:Puzz} (h:¬ (1≤stN p∧stN p≤3000)):(sR p).2=false:=by
  by_cases c:puzzOk p
  · have hpn:=Ck.puzz_pn c
    have h1:=c.1.1
    have hw:=Bf.outF_whole (n:=p.n.toNat) (by omega) (by omega) hpn
    have hz:stN p=Ch.ordL (Ch.newL p.n.toNat p.mv):=if_pos c
    have hp:=stN_pos c
    rw [sR,if_pos c]
    cases hb:(Bf.outF p.mv (letL p.mv.length) p.n.toNat 3000).2 with
    | true=>rfl
    | false=>have:=hw.1 hb;omega
  · rw [sR,if_neg c]
theorem sR_ok {p:Puzz} (hd:puzzOk p):Bf.Ok p.n.toNat p.mv (Bf.out p.mv (letL p.mv.length) p.n.toNat 3000):=by
  have h1:=hd.1.1
  exact (Bf.out_ok (by omega) (by omega) (Ck.puzz_pn hd) 3000).1
theorem sR_len {p:Puzz} (hd:puzzOk p):(Bf.out p.mv (letL p.mv.length) p.n.toNat 3000).S.length≤stN p:=by
  have h1:=hd.1.1
  have h2:1≤p.n.toNat:=by omega
  have h3:p.n.toNat≤20:=by omega
  rw [stN,if_pos hd]
  exact Bf.out_le h2 h3 (Ck.puzz_pn hd) 3000
noncomputable def ssR (p:Puzz):Int:=if (sR p).2=true then lsK (sR p).1.S ((sR p).1.S.length - 1) else -1
theorem fE_fz (e:Ex) (w b:Bool):(AV.tup [fE e w,.bl b]).fz=.tup [fS e.S (cst e.D) (Bf.srtS e.S) w,.bl b]:=by
  have h1:∀ L:List (List Int),AV.fzL (L.map fun x=>isl x)=L.map fun x=>isl x:=fun L=>by rw [fzL_map,islfz]
  have e1:∀ X:List Int,AV.fzL (X.map AV.i64)=X.map AV.i64:=fun X=>by rw [fzL_map,ints_fz]
  simp only [AV.fz,AV.fzL,h1,e1]
theorem searchC (p:Puzz) (h:smallP p):SpecAt Try.prog 146 [p.sl] (.tup [fS (sR p).1.S (cst (sR p).1.D) (Bf.srtS (sR p).1.S) (sR p).2,.bl (sR p).2]):=spec_frz (searchStatesI p h) rfl (fE_fz _ _ _)
end Sr
end Go.AM
set_option maxRecDepth 8000
namespace Go.AM
namespace Sr
open Go.Proofs
open Ch (PN pt idL cst cst_app cst_len)
open Bf (Ex nxO idxM byL dOf)
open Ck (sfr exT exA nxT stN)
abbrev exC (p:Puzz) (e:Ex) (x:AV) (Nx:List (List Nat)):AV:=.ep [.i64 p.n,.st p.nm,ssl p.mv,ssl e.S,isl (cst e.D),x,isl (cst e.Pa),isl (byL (letL p.mv.length) e.J),.sl 1 (Nx.map fun r=>isl (cst r))]
theorem depthOfS (n:Nat) (e:Ex) (w:Bool) (s:List Int) (hZ:Bf.SrtOk n e.S (Bf.srtS e.S)) (hd:e.S.Nodup) (hn:n≤20) (hs:s.length=n) (hl:e.S.length≤3000) (hD:e.D.length=e.S.length) :
    SpecAt Try.prog 246 [fS e.S (cst e.D) (Bf.srtS e.S) w,isl s] (.i64 (if s∈e.S then (dOf e s:Int) else -1)):=by
  have q:=searchIndex n e.S (cst e.D) (Bf.srtS e.S) w s hZ hd hn hs hl
  by_cases c:s∈e.S
  · have hix:ixK e.S s=((e.S.idxOf s:Nat):Int):=by unfold ixK;rw [if_pos c]
    have hlt:e.S.idxOf s<e.D.length:=by rw [hD];exact List.idxOf_lt_length_iff.2 c
    have hg:((cst e.D).map AV.i64).getD (e.S.idxOf s) .any=.i64 (dOf e s:Int):=by rw [getD_eq _ _ _ (by rw [List.length_map,cst_len];exact hlt),List.getElem_map,← getD_eq _ _ 0,Ch.cst_get hlt];rfl
    have hl2:(cst e.D).length=e.D.length:=cst_len _
    rw [hix] at q
    rw [if_pos c]
    generalize e.S.idxOf s=i at *
    generalize dOf e s=d at *
    refine spec_of_awp (M:=MM) (np:=2) (fz:=true) mixed Try.func246 rfl rfl (by decide) rfl (Nat.le_refl _) (by decide +kernel) (.inr ⟨rfl,rfl⟩) trivial ?_
    simp -dsimp -implicitDefEqProofs (disch:=first | omega | (simp only [lenr];try omega)) only [↓amPre,amAll,↓reduceIte,reduceCtorEq,Nat.reduceEqDiff,Nat.reduceBEq,Nat.reduceAdd,Nat.reduceLeDiff,Nat.reduceSub,Nat.reduceMul,Int.reduceToNat,List.size_toArray,tyF,MM,bu0,cbU49]
    refine callP_of (q) ?_
    simp -dsimp -implicitDefEqProofs (disch:=first | omega | (simp only [lenr];try omega)) only [↓amPre,amAll,↓reduceIte,reduceCtorEq,Nat.reduceEqDiff,Nat.reduceBEq,Nat.reduceAdd,Nat.reduceLeDiff,Nat.reduceSub,Nat.reduceMul,Int.reduceToNat,List.size_toArray,tyF,MM,bu0,cbU49,hl2,hg]
  · have hix:ixK e.S s = -1:=by unfold ixK;rw [if_neg c]
    rw [hix] at q
    rw [if_neg c]
    refine spec_of_awp (M:=MM) (np:=2) (fz:=true) mixed Try.func246 rfl rfl (by decide) rfl (Nat.le_refl _) (by decide +kernel) (.inr ⟨rfl,rfl⟩) trivial ?_
    simp -dsimp -implicitDefEqProofs (disch:=first | omega | (simp only [lenr];try omega)) only [↓amPre,amAll,↓reduceIte,reduceCtorEq,Nat.reduceEqDiff,Nat.reduceBEq,Nat.reduceAdd,Nat.reduceLeDiff,Nat.reduceSub,Nat.reduceMul,Int.reduceToNat,List.size_toArray,tyF,MM,bu0,cbU49]
    refine callP_of (q) ?_
    simp -dsimp -implicitDefEqProofs (disch:=first | omega | (simp only [lenr];try omega)) only [↓amPre,amAll,↓reduceIte,reduceCtorEq,Nat.reduceEqDiff,Nat.reduceBEq,Nat.reduceAdd,Nat.reduceLeDiff,Nat.reduceSub,Nat.reduceMul,Int.reduceToNat,List.size_toArray,tyF,MM,bu0,cbU49]
end Sr
end Go.AM
namespace Go.AM
namespace Bf
open Ch (PN pt idL Gen cst cst_app cst_len)
/-! reversal by exchanges -/
def rvK (l:List Int) (k:Nat):List Int:=(List.range l.length).map fun i=>if i<k∨l.length - k≤i then l.getD (l.length - 1 - i) 0 else l.getD i 0
theorem rvK_len (l:List Int) (k:Nat):(rvK l k).length=l.length:=by simp [rvK]
theorem rvK_get (l:List Int) (k:Nat) {i:Nat} (h:i<l.length):(rvK l k).getD i 0=if i<k∨l.length - k≤i then l.getD (l.length - 1 - i) 0 else l.getD i 0:=by
  unfold rvK
  rw [getD_eq _ _ _ (by simpa using h),List.getElem_map,List.getElem_range]
theorem rvK_zero (l:List Int):rvK l 0=l:=by
  apply Ch.pl_ext (by rw [rvK_len])
  intro i hi
  rw [rvK_len] at hi
  rw [rvK_get l 0 hi,if_neg (by omega)]
theorem rvK_step (l:List Int) {k:Nat} (h:2*k+1<l.length):((rvK l k).set k (l.getD (l.length - 1 - k) 0)).set (l.length - 1 - k) (l.getD k 0)=rvK l (k+1):=by
  apply Ch.pl_ext (by simp [rvK_len])
  intro i hi
  have hi:i<l.length:=by simpa [rvK_len] using hi
  rw [rvK_get l (k+1) hi]
  have g1:∀ (x:List Int) (a:Nat) (v:Int) (j:Nat),a<x.length→(x.set a v).getD j 0=if j=a then v else x.getD j 0:=fun x a v j ha=>by
    by_cases c:j=a
    · subst c;simp [List.getD,ha]
    · rw [if_neg c];simp [List.getD,List.getElem?_set,Ne.symm c]
  rw [g1 _ _ _ _ (by simp [rvK_len];omega),g1 _ _ _ _ (by rw [rvK_len];omega),rvK_get l k hi]
  by_cases c1:i=l.length - 1 - k
  · rw [if_pos c1,if_pos (by omega)]
    congr 1;omega
  · rw [if_neg c1]
    by_cases c2:i=k
    · rw [if_pos c2,if_pos (by omega),c2]
    · rw [if_neg c2]
      by_cases c3:i<k∨l.length - k≤i
      · rw [if_pos c3,if_pos (by omega)]
      · rw [if_neg c3,if_neg (by omega)]
theorem rvK_all (l:List Int) {k:Nat} (h:l.length≤2*k+1):rvK l k=l.reverse:=by
  apply Ch.pl_ext (by simp [rvK_len])
  intro i hi
  have hi:i<l.length:=by simpa [rvK_len] using hi
  have hr:l.reverse.getD i 0=l.getD (l.length - 1 - i) 0:=by
    rw [getD_eq _ _ _ (by simpa using hi),List.getElem_reverse,getD_eq _ _ _ (by omega)]
  rw [rvK_get l k hi,hr]
  by_cases c:i<k∨l.length - k≤i
  · rw [if_pos c]
  · rw [if_neg c]
    congr 1;omega
theorem Tm.d_le {mv:List (List Int)} {A:List Int} {e:Ex} {T:Nat} (t:Tm mv A e T):∀ N i,i≤N→i<e.S.length→e.D.getD i 0≤i
  | N,0,_,_=>by rw [t.d0];exact Nat.le_refl _
  | 0,i+1,h,_=>by omega
  | N+1,i+1,h,hi=>by
    obtain ⟨a1,a2,a3,a4,a5⟩:=t.old (i+1) (by omega) hi
    have:=t.d_le N (e.Pa.getD (i+1) 0) (by omega) (by omega)
    omega
/-! a word's letters -/
def ltr (A:List Int) (w:List Nat):List Int:=w.map fun j=>A.getD j 0
theorem byL_get (A:List Int) {J:List Nat} {i:Nat} (h0:0<i) (h:i<J.length):(byL A J).getD i 0=A.getD (J.getD i 0) 0:=by
  cases J with
  | nil=>simp at h
  | cons a r =>
    obtain ⟨m,rfl⟩:∃ m,i=m+1:=⟨i - 1,by omega⟩
    have hm:m<r.length:=by simpa using h
    show (0 :: r.map _).getD (m+1) 0=_
    rw [List.getD_cons_succ,List.getD_cons_succ,getD_eq _ _ _ (by simpa using hm),List.getElem_map,getD_eq _ _ _ hm]
end Bf
end Go.AM
set_option maxRecDepth 8000
namespace Go.AM
namespace Wo
open Go.Proofs
open Ch (PN pt idL cst cst_app cst_len)
open Bf (Ex nxO idxM byL dOf rvK ltr wdE dw)
open Ck (sfr exT exA nxT stN)
open Sr (exC fS)
def MM:FuncId→List Bool:=fun f=>if f=216 then [true] else []
theorem reverseI (l:List Int) (hl:l.length≤1099511627776):SpecX Try.prog 216 [itr l] [some (itr l.reverse)] (.tup []):=by
  refine spec_of_awp_any (M:=MM) (np:=1) (X:=[3]) (fz:=false) mixed Try.func216 rfl rfl (by decide) rfl (Nat.le_refl _) (by decide +kernel) (.inl rfl) (by simp only [sigsOk_some,sigsOk_nil,sig_tr,List.length_map,List.length_reverse,and_self]) ?_
  by_cases h0:l.length=0
  · have:l=[]:=List.length_eq_zero_iff.1 h0
    subst this
    simp -dsimp -implicitDefEqProofs (disch:=first | omega | (simp only [lenr];try omega)) only [↓amPre,amAll,↓reduceIte,reduceCtorEq,Nat.reduceEqDiff,Nat.reduceBEq,Nat.reduceAdd,Nat.reduceLeDiff,Nat.reduceSub,Nat.reduceMul,Int.reduceToNat,List.size_toArray,tyF,MM,bu0,cbU49]
    refine awp_loop (fun k st=>k≤0∧st.fr 2=.i64 0∧st.fr 3=.i64 (-1)∧st.fr 0=.ref 0 [] 1 0 0∧st.mem 0=some (itr [])) (0) ?_ ?_
    · simp -dsimp -implicitDefEqProofs (disch:=first | omega | (simp only [lenr];try omega)) only [↓amPre,amAll,↓reduceIte,reduceCtorEq,Nat.reduceEqDiff,Nat.reduceBEq,Nat.reduceAdd,Nat.reduceLeDiff,Nat.reduceSub,Nat.reduceMul,Int.reduceToNat,List.size_toArray,tyF,MM,bu0,cbU49]
      rfl
    rintro k st _ ⟨hk,f2,f3,f0,m0⟩
    simp -dsimp -implicitDefEqProofs (disch:=first | omega | (simp only [lenr];try omega)) only [↓amPre,amAll,↓reduceIte,reduceCtorEq,Nat.reduceEqDiff,Nat.reduceBEq,Nat.reduceAdd,Nat.reduceLeDiff,Nat.reduceSub,Nat.reduceMul,Int.reduceToNat,List.size_toArray,tyF,MM,bu0,cbU49,f2,f3,f0,m0]
    rfl
  have hw:IntKind.i64.wrap ((l.length:Int) - 1)=((l.length - 1:Nat):Int):=by rw [wrap64_id (by omega)];omega
  simp -dsimp -implicitDefEqProofs (disch:=first | omega | (simp only [lenr];try omega)) only [↓amPre,amAll,↓reduceIte,reduceCtorEq,Nat.reduceEqDiff,Nat.reduceBEq,Nat.reduceAdd,Nat.reduceLeDiff,Nat.reduceSub,Nat.reduceMul,Int.reduceToNat,List.size_toArray,tyF,MM,bu0,cbU49,hw]
  refine awp_loop (fun k st=>k≤l.length∧st.fr 2=.i64 k∧st.fr 3=.i64 ((l.length:Int) - 1 - k)∧st.fr 0=.ref 0 [] 1 0 l.length∧st.mem 0=some (itr (rvK l k))∧(2*k≤l.length)) (l.length) ?_ ?_
  · simp -dsimp -implicitDefEqProofs (disch:=first | omega | (simp only [lenr];try omega)) only [↓amPre,amAll,↓reduceIte,reduceCtorEq,Nat.reduceEqDiff,Nat.reduceBEq,Nat.reduceAdd,Nat.reduceLeDiff,Nat.reduceSub,Nat.reduceMul,Int.reduceToNat,List.size_toArray,tyF,MM,bu0,cbU49,Bf.rvK_zero]
    exact ⟨Nat.zero_le _,rfl,i64c (by omega),Nat.zero_le _⟩
  rintro k st _ ⟨hk,f2,f3,f0,m0,ek⟩
  have hrl:=Bf.rvK_len l k
  by_cases c1:(k:Int)<(l.length:Int) - 1 - k
  · have hst:=Bf.rvK_step l (k:=k) (by omega)
    obtain ⟨m,hm⟩:∃ m:Nat,m=l.length - 1 - k:=⟨_,rfl⟩
    have hmI:(l.length:Int) - 1 - k=(m:Int):=by omega
    have g1:=Bf.rvK_get l k (i:=m) (by omega)
    have g2:=Bf.rvK_get l k (i:=k) (by omega)
    rw [if_neg (by omega)] at g1 g2
    rw [← hm] at hst
    rw [hmI] at f3 c1
    simp -dsimp -implicitDefEqProofs (disch:=first | omega | (simp only [lenr];try omega)) only [↓amPre,amAll,↓reduceIte,reduceCtorEq,Nat.reduceEqDiff,Nat.reduceBEq,Nat.reduceAdd,Nat.reduceLeDiff,Nat.reduceSub,Nat.reduceMul,Int.reduceToNat,List.size_toArray,tyF,MM,bu0,cbU49,f2,f3,f0,m0,lt_true c1]
    refine lat_go [[],[],[],[],[],[],[4,5],[4,5,6],[],[],[8,9],[8,9,10],[0,1,4,5,6,7,8,9,10,11],[0,1,4,5,6,7,8,9,10,11,12],[0,1,2,3,4,5,6,7,8,9,10,11,12,13],[0,1,2,3,4,5,6,7,8,9,10,11,12,13,14]] [[12,13,14,15],[12,13,14,15],[14,15],[14,15],[6,7,12,13,14,15],[6,7,12,13,14,15],[7,12,13,14,15],[12,13,14,15],[10,11,12,13,14,15],[10,11,12,13,14,15],[11,12,13,14,15],[12,13,14,15],[13,14,15],[14,15],[15],[]] [0,1,2,3,4,5,6,7,8,9,10,11,12,13,14,15] (fun c st=>st.fr 0=.ref 0 [] 1 0 l.length∧st.fr 2=.i64 k∧st.fr 3=.i64 m∧(c 0=true→st.fr 14=.ref 0 [] 1 0 l.length)∧(c 1=true→st.fr 15=.i64 k)∧(c 2=true→st.fr 16=.ref 0 [] 1 0 l.length)∧(c 3=true→st.fr 17=.i64 m)∧(c 4=true→st.fr 18=.ref 0 [] 1 0 l.length)∧(c 5=true→st.fr 19=.i64 m)∧(c 6=true→st.fr 20=.loc 0 [] m 0)∧(c 7=true→st.fr 21=.i64 (l.getD m 0))∧(c 8=true→st.fr 22=.ref 0 [] 1 0 l.length)∧(c 9=true→st.fr 23=.i64 k)∧(c 10=true→st.fr 24=.loc 0 [] k 0)∧(c 11=true→st.fr 25=.i64 (l.getD k 0))∧(c 12=true→st.fr 26=.loc 0 [] k 0)∧(c 14=true→st.fr 27=.loc 0 [] m 0)∧st.mem 0=some (bif c 15 then (itr (rvK l (k+1))) else (bif c 13 then (itr ((rvK l k).set k (l.getD m 0))) else (itr (rvK l k))))) (by decide +kernel) ?_ ?_ ?_
    · (try simp -dsimp -implicitDefEqProofs (disch:=first | omega | (simp only [lenr];try omega)) only [↓amPre,amAll,↓reduceIte,reduceCtorEq,Nat.reduceEqDiff,Nat.reduceBEq,Nat.reduceAdd,Nat.reduceLeDiff,Nat.reduceSub,Nat.reduceMul,Int.reduceToNat,List.size_toArray,tyF,MM,bu0,cbU49,latj,hrl,g1,g2,hst,f2,f3,f0,m0])
      all_goals (try (repeat' (first | apply And.intro | rfl | (intro _;rfl) | (intro _ _;rfl))))
    · refine ⟨?_,?_,?_,?_,?_,?_,?_,?_,?_,?_,?_,?_,?_,?_,?_,?_,trivial⟩
      all_goals rintro c st R hC hJ hR
      all_goals simp only [latm] at hC
      all_goals simp only [hC,latj] at hJ
      all_goals simp -dsimp -implicitDefEqProofs (disch:=first | omega | (simp only [lenr];try omega)) only [↓amPre,amAll,↓reduceIte,reduceCtorEq,Nat.reduceEqDiff,Nat.reduceBEq,Nat.reduceAdd,Nat.reduceLeDiff,Nat.reduceSub,Nat.reduceMul,Int.reduceToNat,List.size_toArray,tyF,MM,bu0,cbU49,hJ,hrl,g1,g2,hst]
      all_goals refine hR _ ?_
      all_goals (simp +contextual -dsimp -implicitDefEqProofs only [amAll,↓reduceIte,reduceCtorEq,Nat.reduceEqDiff,Nat.reduceBEq,Nat.reduceAdd,latj,hC,hJ,hrl,g1,g2,hst];try (repeat' (first | apply And.intro | rfl | (intro _;rfl) | (intro _ _;rfl))))
    intro c st hall hJ
    simp only [latm] at hall
    simp only [hall,latj] at hJ
    obtain ⟨f0,f2,f3,f14,f15,f16,f17,f18,f19,f20,f21,f22,f23,f24,f25,f26,f27,m0⟩:=hJ
    clear hall
    simp -dsimp -implicitDefEqProofs (disch:=first | omega | (simp only [lenr];try omega)) only [↓amPre,amAll,↓reduceIte,reduceCtorEq,Nat.reduceEqDiff,Nat.reduceBEq,Nat.reduceAdd,Nat.reduceLeDiff,Nat.reduceSub,Nat.reduceMul,Int.reduceToNat,List.size_toArray,tyF,MM,bu0,cbU49,f0,f2,f3,m0]
    exact ⟨by omega,by omega,i64c (by omega),by omega⟩
  · have hre:=Bf.rvK_all l (k:=k) (by omega)
    simp -dsimp -implicitDefEqProofs (disch:=first | omega | (simp only [lenr];try omega)) only [↓amPre,amAll,↓reduceIte,reduceCtorEq,Nat.reduceEqDiff,Nat.reduceBEq,Nat.reduceAdd,Nat.reduceLeDiff,Nat.reduceSub,Nat.reduceMul,Int.reduceToNat,List.size_toArray,tyF,MM,bu0,cbU49,f2,f3,f0,m0,lt_false (Int.not_lt.1 c1),hre]
theorem wordI (p:Puzz) (e:Ex) (x:AV) (Nx:List (List Nat)) {T:Nat} (t:Bf.Tm p.mv (letL p.mv.length) e T) (i:Nat) (hi:i<e.S.length) (hok:Bf.Ok p.n.toNat p.mv e) (hl:e.S.length≤3000) :
    SpecAt Try.prog 152 [exC p e x Nx,.i64 i] (itr (ltr (letL p.mv.length) (wdE e i))):=by
  have hlP:(cst e.Pa).length=e.S.length:=by rw [cst_len,hok.lP]
  have hlJ:(byL (letL p.mv.length) e.J).length=e.S.length:=by rw [Bf.byL_len,hok.lJ]
  have hwl:=t.wd_len hok.z.1 _ i (Nat.le_refl _) hi
  refine spec_of_awp (M:=MM) (np:=2) (fz:=false) mixed Try.func152 rfl rfl (by decide) rfl (Nat.le_refl _) (by decide +kernel) (.inl rfl) (by first | trivial | simp only [sigsOk_nil,sigsOk_some,sigsOk_none,sig_tr,sig_pt,sig_mt,sig_agg,List.map_cons,List.map_nil,sig1_tr,sig1_pt,sig1_v,and_self,true_and,List.length_map,List.length_set]) ?_
  simp -dsimp -implicitDefEqProofs (disch:=first | omega | (simp only [lenr];try omega)) only [↓amPre,amAll,↓reduceIte,reduceCtorEq,Nat.reduceEqDiff,Nat.reduceBEq,Nat.reduceAdd,Nat.reduceLeDiff,Nat.reduceSub,Nat.reduceMul,Int.reduceToNat,List.size_toArray,tyF,MM,bu0,cbU49]
  refine awp_loopN 5 24 1 (by simp -dsimp -implicitDefEqProofs (disch:=first | omega | (simp only [lenr];try omega)) only [↓amPre,amAll,↓reduceIte,reduceCtorEq,Nat.reduceEqDiff,Nat.reduceBEq,Nat.reduceAdd,Nat.reduceLeDiff,Nat.reduceSub,Nat.reduceMul,Int.reduceToNat,List.size_toArray,tyF,MM,bu0,cbU49]) (by decide) (fun k st=>k≤(wdE e i).length∧st.fr 0=exC p e x Nx∧st.fr 5=.ref 24 [] 1 0 k∧(∃ (r:Nat) (suf:List Nat),st.fr 1=.i64 r∧st.mem 24=some (itr (ltr (letL p.mv.length) suf.reverse))∧wdE e i=wdE e r++suf∧suf.length=k∧r<e.S.length)) ((wdE e i).length) ?_ ?_
  · simp -dsimp -implicitDefEqProofs (disch:=first | omega | (simp only [lenr];try omega)) only [↓amPre,amAll,↓reduceIte,reduceCtorEq,Nat.reduceEqDiff,Nat.reduceBEq,Nat.reduceAdd,Nat.reduceLeDiff,Nat.reduceSub,Nat.reduceMul,Int.reduceToNat,List.size_toArray,tyF,MM,bu0,cbU49,nilAs_eq]
    exact ⟨Nat.zero_le _,i,[],rfl,rfl,by simp,rfl,hi⟩
  rintro k st _ ⟨hk,f0,f5,ek⟩
  obtain ⟨r,suf,f1,m24,g1,g2,g3⟩:=ek
  have hll:(ltr (letL p.mv.length) suf.reverse).length=k:=by simp [ltr,g2]
  by_cases c1:0<r
  · have hs:=t.wd_s c1 g3
    obtain ⟨a1,a2,_⟩:=t.old r c1 g3
    have hgJ:((byL (letL p.mv.length) e.J).map AV.i64).getD r .any=.i64 ((letL p.mv.length).getD (e.J.getD r 0) 0):=by rw [getD_eq _ _ _ (by rw [List.length_map,hlJ];exact g3),List.getElem_map,← getD_eq _ _ 0,Bf.byL_get _ c1 (by rw [hok.lJ];exact g3)]
    have hgP:((cst e.Pa).map AV.i64).getD r .any=.i64 (e.Pa.getD r 0:Nat):=by rw [getD_eq _ _ _ (by rw [List.length_map,hlP];exact g3),List.getElem_map,← getD_eq _ _ 0,Ch.cst_get (by rw [hok.lP];exact g3)]
    have hkl:k<(wdE e i).length:=by rw [g1,hs,List.length_append,List.length_append,g2];simp
    have c1':(0:Int)<(r:Int):=by omega
    have hkb:k≤3000:=by have:=t.d_le _ i (Nat.le_refl _) hi;omega
    simp -dsimp -implicitDefEqProofs (disch:=first | omega | (simp only [lenr];try omega)) only [↓amPre,amAll,↓reduceIte,reduceCtorEq,Nat.reduceEqDiff,Nat.reduceBEq,Nat.reduceAdd,Nat.reduceLeDiff,Nat.reduceSub,Nat.reduceMul,Int.reduceToNat,List.size_toArray,tyF,MM,bu0,cbU49,f0,f5,f1,m24,lt_true c1',hgJ,hgP,hlJ,hlP,hll]
    exact ⟨hkl,by omega,e.Pa.getD r 0,e.J.getD r 0 :: suf,rfl,by simp [ltr],by rw [g1,hs];simp,by simp [g2],by omega⟩
  · have hr:r=0:=by omega
    subst hr
    rw [t.wd_0 hok.z.1,List.nil_append] at g1
    have q:=reverseI (ltr (letL p.mv.length) suf.reverse) (by have:=t.d_le _ i (Nat.le_refl _) hi;omega)
    have hrr:(ltr (letL p.mv.length) suf.reverse).reverse=ltr (letL p.mv.length) (wdE e i):=by rw [g1];simp [ltr]
    rw [hrr] at q
    simp -dsimp -implicitDefEqProofs (disch:=first | omega | (simp only [lenr];try omega)) only [↓amPre,amAll,↓reduceIte,reduceCtorEq,Nat.reduceEqDiff,Nat.reduceBEq,Nat.reduceAdd,Nat.reduceLeDiff,Nat.reduceSub,Nat.reduceMul,Int.reduceToNat,List.size_toArray,tyF,MM,bu0,cbU49,f0,f5,f1,m24,hll]
    have hll2:(ltr (letL p.mv.length) (wdE e i)).length=k:=by rw [g1];simp [ltr,g2]
    refine callX_of (q) ?_
    simp -dsimp -implicitDefEqProofs (disch:=first | omega | (simp only [lenr];try omega)) only [↓amPre,amAll,↓reduceIte,reduceCtorEq,Nat.reduceEqDiff,Nat.reduceBEq,Nat.reduceAdd,Nat.reduceLeDiff,Nat.reduceSub,Nat.reduceMul,Int.reduceToNat,List.size_toArray,tyF,MM,bu0,cbU49,f0,f5,hll2]
end Wo
end Go.AM
namespace Go.AM
namespace Bf
open Ch (PN pt idL)
def fmT (A:List Int) (e:Ex) (i:Nat):Twist:=⟨ltr A (wdE e i),movL (e.S.getD i default) (e.S.getD i default).length⟩
def fmC (e:Ex) (md ms:Int) (i:Nat):Prop:=(e.D.getD i 0:Int)≤md∧lsN e.S i≤ms
instance (e:Ex) (md ms:Int) (i:Nat):Decidable (fmC e md ms i):=by unfold fmC;infer_instance
def fmA (A:List Int) (e:Ex) (md ms:Int):Nat→List Twist
  | 0=>[]
  | i+1=>if i≠0∧fmC e md ms i then fmA A e md ms i++[fmT A e i] else fmA A e md ms i
section
variable {A:List Int} {e:Ex} {md ms:Int}
def fmR (A:List Int) (e:Ex) (w:Bool) (md ms:Int):List Twist×Bool :=
  if w=true∧(within md 0 30=true∧within ms 0 20=true)∧(fmA A e md ms e.S.length).length≤200 then (fmA A e md ms e.S.length,true) else ([],false)
end
end Bf
end Go.AM
set_option maxRecDepth 8000
namespace Go.AM
namespace Wo
open Go.Proofs
open Ch (PN pt idL cst cst_app cst_len)
open Bf (Ex nxO idxM byL dOf rvK ltr wdE dw Fin srtS fmT fmC fmA fmR lsN movL_len)
open Ck (sfr exA exT nxT stN)
open Sr (exC fS depthOfS sR sR_yes sR_no sR_ok sR_len)
theorem fz1 (l:List Int):AV.fzL (l.map AV.i64)=l.map AV.i64:=by rw [fzL_map,ints_fz]
theorem fz2 (L:List (List Int)):AV.fzL (L.map fun l=>isl l)=L.map fun l=>isl l:=by rw [fzL_map,islfz]
theorem fz3 (L:List (List Nat)):AV.fzL (L.map fun r=>itr (cst r))=L.map fun r=>isl (cst r):=by
  rw [fzL_map,List.map_map]
  exact List.map_congr_left fun r _=>itr_fz _
theorem sR_fin {p:Puzz} (h:1≤stN p∧stN p≤3000):Fin p.n.toNat p.mv (letL p.mv.length) (Bf.out p.mv (letL p.mv.length) p.n.toNat 3000):=by
  have hd:=(sR_yes h).1
  have h1:=hd.1.1
  exact Bf.out_fin (by omega) (by omega) (Ck.puzz_pn hd) (by have:=sR_len hd;omega)
noncomputable def fmP (p:Puzz) (md ms:Int):List Twist×Bool:=fmR (letL p.mv.length) (sR p).1 (sR p).2 md ms
end Wo
end Go.AM
set_option maxRecDepth 8000
namespace Go.AM
namespace Wo
open Go.Proofs
open Ch (PN pt idL cst cst_app cst_len)
open Bf (Ex nxO idxM byL dOf rvK ltr wdE dw Fin srtS fmT fmC fmA fmR lsN movL_len)
open Ck (sfr exA exT nxT stN)
open Sr (exC fS depthOfS sR sR_yes sR_no sR_ok sR_len)
theorem isPointI (n x:Int) (h1:1≤n) (h2:n≤20):SpecAt Try.prog 217 [.i64 n,.i64 x] (.bl (within x 0 (n - 1))):=by
  have hw:IntKind.i64.wrap (n - 1)=n - 1:=wrap64_id (by omega)
  refine spec_of_awp (M:=MM) (np:=2) (fz:=true) mixed Try.func217 rfl rfl (by decide) rfl (Nat.le_refl _) (by decide +kernel) (.inr ⟨rfl,rfl⟩) trivial ?_
  simp -dsimp -implicitDefEqProofs (disch:=first | omega | (simp only [lenr];try omega)) only [↓amPre,amAll,↓reduceIte,reduceCtorEq,Nat.reduceEqDiff,Nat.reduceBEq,Nat.reduceAdd,Nat.reduceLeDiff,Nat.reduceSub,Nat.reduceMul,Int.reduceToNat,List.size_toArray,tyF,MM,bu0,cbU49,hw]
  refine callP_of (iwithin _ _ _) ?_
  simp -dsimp -implicitDefEqProofs (disch:=first | omega | (simp only [lenr];try omega)) only [↓amPre,amAll,↓reduceIte,reduceCtorEq,Nat.reduceEqDiff,Nat.reduceBEq,Nat.reduceAdd,Nat.reduceLeDiff,Nat.reduceSub,Nat.reduceMul,Int.reduceToNat,List.size_toArray,tyF,MM,bu0,cbU49]
def trkB (n:Int) (T:List Int) (k:Nat):Bool:=within (T.getD k 0) 0 (n - 1) && (k == 0 || decide (T.getD (k - 1) 0<T.getD k 0))
def trk (n:Int) (T:List Int):Bool:=(List.range T.length).all (trkB n T) && decide (0<T.length)
theorem isTrackedI (n:Int) (T:List Int) (h1:1≤n) (h2:n≤20) (hl:T.length≤1099511627776):SpecAt Try.prog 155 [.i64 n,isl T] (.bl (trk n T)):=by
  refine spec_of_awp (M:=MM) (np:=2) (fz:=true) mixed Try.func155 rfl rfl (by decide) rfl (Nat.le_refl _) (by decide +kernel) (.inr ⟨rfl,rfl⟩) trivial ?_
  simp -dsimp -implicitDefEqProofs (disch:=first | omega | (simp only [lenr];try omega)) only [↓amPre,amAll,↓reduceIte,reduceCtorEq,Nat.reduceEqDiff,Nat.reduceBEq,Nat.reduceAdd,Nat.reduceLeDiff,Nat.reduceSub,Nat.reduceMul,Int.reduceToNat,List.size_toArray,tyF,MM,bu0,cbU49]
  refine awp_loop (fun k st=>k≤T.length∧st.fr 9=.i64 k∧st.fr 8=.i64 T.length∧st.fr 7=isl T∧st.fr 0=.i64 n∧st.fr 1=isl T∧(∀ j,j<k→trkB n T j=true)) (T.length) ?_ ?_
  · simp -dsimp -implicitDefEqProofs (disch:=first | omega | (simp only [lenr];try omega)) only [↓amPre,amAll,↓reduceIte,reduceCtorEq,Nat.reduceEqDiff,Nat.reduceBEq,Nat.reduceAdd,Nat.reduceLeDiff,Nat.reduceSub,Nat.reduceMul,Int.reduceToNat,List.size_toArray,tyF,MM,bu0,cbU49]
    exact ⟨Nat.zero_le _,rfl,fun j hj=>absurd hj (Nat.not_lt_zero _)⟩
  rintro k st _ ⟨hk,f9,f8,f7,f0,f1,ek⟩
  by_cases c1:k<T.length
  · have c1':(k:Int)<(T.length:Int):=by omega
    have q1:=isPointI n (T.getD k 0) h1 h2
    have hbad:trkB n T k=false→trk n T=false:=fun h=>by
      rw [trk,Bool.and_eq_false_iff]
      exact .inl (List.all_eq_false.2 ⟨k,List.mem_range.2 c1,by rw [h];simp⟩)
    have hgo:trkB n T k=true→∀ j,j<k+1→trkB n T j=true:=fun h j hj=>by
      rcases Nat.lt_or_ge j k with q | q
      · exact ek j q
      · rw [show j=k by omega];exact h
    have hdef:trkB n T k=(within (T.getD k 0) 0 (n - 1) && (k == 0 || decide (T.getD (k - 1) 0<T.getD k 0))):=rfl
    cases w:within (T.getD k 0) 0 (n - 1) with
    | false =>
      rw [w] at q1 hdef
      rw [hbad (by rw [hdef];rfl)]
      simp -dsimp -implicitDefEqProofs (disch:=first | omega | (simp only [lenr];try omega)) only [↓amPre,amAll,↓reduceIte,reduceCtorEq,Nat.reduceEqDiff,Nat.reduceBEq,Nat.reduceAdd,Nat.reduceLeDiff,Nat.reduceSub,Nat.reduceMul,Int.reduceToNat,List.size_toArray,tyF,MM,bu0,cbU49,f9,f8,f7,f0,f1,lt_true c1']
      refine callP_of (q1) ?_
      simp -dsimp -implicitDefEqProofs (disch:=first | omega | (simp only [lenr];try omega)) only [↓amPre,amAll,↓reduceIte,reduceCtorEq,Nat.reduceEqDiff,Nat.reduceBEq,Nat.reduceAdd,Nat.reduceLeDiff,Nat.reduceSub,Nat.reduceMul,Int.reduceToNat,List.size_toArray,tyF,MM,bu0,cbU49,f9,f8,f7,f0,f1]
    | true =>
      rw [w] at q1 hdef
      by_cases c0:k=0
      · subst c0
        have hg:=hgo (by rw [hdef];rfl)
        simp -dsimp -implicitDefEqProofs (disch:=first | omega | (simp only [lenr];try omega)) only [↓amPre,amAll,↓reduceIte,reduceCtorEq,Nat.reduceEqDiff,Nat.reduceBEq,Nat.reduceAdd,Nat.reduceLeDiff,Nat.reduceSub,Nat.reduceMul,Int.reduceToNat,List.size_toArray,tyF,MM,bu0,cbU49,f9,f8,f7,f0,f1,lt_true c1']
        refine callP_of (q1) ?_
        simp -dsimp -implicitDefEqProofs (disch:=first | omega | (simp only [lenr];try omega)) only [↓amPre,amAll,↓reduceIte,reduceCtorEq,Nat.reduceEqDiff,Nat.reduceBEq,Nat.reduceAdd,Nat.reduceLeDiff,Nat.reduceSub,Nat.reduceMul,Int.reduceToNat,List.size_toArray,tyF,MM,bu0,cbU49,f9,f8,f7,f0,f1]
        exact ⟨c1,by omega,hg⟩
      · obtain ⟨m,rfl⟩:∃ m,k=m+1:=⟨k - 1,by omega⟩
        have hwm:IntKind.i64.wrap (((m+1:Nat):Int) - 1)=(m:Int):=by rw [wrap64_id (by omega)];omega
        have c0':(0:Int)<((m+1:Nat):Int):=by omega
        by_cases d1:T.getD m 0<T.getD (m+1) 0
        · have hg:=hgo (by rw [hdef];simp only [Nat.add_sub_cancel,d1,decide_true,Bool.or_true,Bool.and_true])
          simp -dsimp -implicitDefEqProofs (disch:=first | omega | (simp only [lenr];try omega)) only [↓amPre,amAll,↓reduceIte,reduceCtorEq,Nat.reduceEqDiff,Nat.reduceBEq,Nat.reduceAdd,Nat.reduceLeDiff,Nat.reduceSub,Nat.reduceMul,Int.reduceToNat,List.size_toArray,tyF,MM,bu0,cbU49,f9,f8,f7,f0,f1,lt_true c1']
          refine callP_of (q1) ?_
          simp -dsimp -implicitDefEqProofs (disch:=first | omega | (simp only [lenr];try omega)) only [↓amPre,amAll,↓reduceIte,reduceCtorEq,Nat.reduceEqDiff,Nat.reduceBEq,Nat.reduceAdd,Nat.reduceLeDiff,Nat.reduceSub,Nat.reduceMul,Int.reduceToNat,List.size_toArray,tyF,MM,bu0,cbU49,f9,f8,f7,f0,f1,lt_true c0',hwm,lt_true d1]
          exact ⟨c1,by omega,hg⟩
        · rw [hbad (by rw [hdef,Nat.add_sub_cancel,decide_eq_false d1];simp)]
          simp -dsimp -implicitDefEqProofs (disch:=first | omega | (simp only [lenr];try omega)) only [↓amPre,amAll,↓reduceIte,reduceCtorEq,Nat.reduceEqDiff,Nat.reduceBEq,Nat.reduceAdd,Nat.reduceLeDiff,Nat.reduceSub,Nat.reduceMul,Int.reduceToNat,List.size_toArray,tyF,MM,bu0,cbU49,f9,f8,f7,f0,f1,lt_true c1']
          refine callP_of (q1) ?_
          simp -dsimp -implicitDefEqProofs (disch:=first | omega | (simp only [lenr];try omega)) only [↓amPre,amAll,↓reduceIte,reduceCtorEq,Nat.reduceEqDiff,Nat.reduceBEq,Nat.reduceAdd,Nat.reduceLeDiff,Nat.reduceSub,Nat.reduceMul,Int.reduceToNat,List.size_toArray,tyF,MM,bu0,cbU49,f9,f8,f7,f0,f1,lt_true c0',hwm,lt_false (Int.not_lt.1 d1)]
  · have hke:k=T.length:=by omega
    subst hke
    have hall:(List.range T.length).all (trkB n T)=true:=List.all_eq_true.2 fun j hj=>ek j (List.mem_range.1 hj)
    rw [trk,hall,Bool.true_and]
    simp -dsimp -implicitDefEqProofs (disch:=first | omega | (simp only [lenr];try omega)) only [↓amPre,amAll,↓reduceIte,reduceCtorEq,Nat.reduceEqDiff,Nat.reduceBEq,Nat.reduceAdd,Nat.reduceLeDiff,Nat.reduceSub,Nat.reduceMul,Int.reduceToNat,List.size_toArray,tyF,MM,bu0,cbU49,f9,f8,f7,f0,f1]
    refine bl_eq ?_
    simp only [decide_eq_true_eq]
    omega
theorem slIndexI (l:List Int) (x:Int) (hl:l.length≤1099511627776):SpecAt Try.prog 219 [isl l,.i64 x] (.i64 (fidx (fun y=>x == y) l)):=by
  refine spec_of_awp (M:=MM) (np:=2) (fz:=true) mixed Try.func219 rfl rfl (by decide) rfl (Nat.le_refl _) (by decide +kernel) (.inr ⟨rfl,rfl⟩) trivial ?_
  simp -dsimp -implicitDefEqProofs (disch:=first | omega | (simp only [lenr];try omega)) only [↓amPre,amAll,↓reduceIte,reduceCtorEq,Nat.reduceEqDiff,Nat.reduceBEq,Nat.reduceAdd,Nat.reduceLeDiff,Nat.reduceSub,Nat.reduceMul,Int.reduceToNat,List.size_toArray,tyF,MM,bu0,cbU49]
  refine awp_loop (fun k st=>k≤l.length∧st.fr 8=.i64 k∧st.fr 7=.i64 l.length∧st.fr 0=isl l∧st.fr 1=.i64 x∧∀ y∈l.take k,(x == y)=false) (l.length) ?_ ?_
  · simp -dsimp -implicitDefEqProofs (disch:=first | omega | (simp only [lenr];try omega)) only [↓amPre,amAll,↓reduceIte,reduceCtorEq,Nat.reduceEqDiff,Nat.reduceBEq,Nat.reduceAdd,Nat.reduceLeDiff,Nat.reduceSub,Nat.reduceMul,Int.reduceToNat,List.size_toArray,tyF,MM,bu0,cbU49]
    simp
  rintro k st _ ⟨hk,f8,f7,f0,f1,ek⟩
  by_cases hlt:k<l.length
  · by_cases w:x=l.getD k 0
    · simp -dsimp -implicitDefEqProofs (disch:=first | omega | (simp only [lenr];try omega)) only [↓amPre,amAll,↓reduceIte,reduceCtorEq,Nat.reduceEqDiff,Nat.reduceBEq,Nat.reduceAdd,Nat.reduceLeDiff,Nat.reduceSub,Nat.reduceMul,Int.reduceToNat,List.size_toArray,tyF,MM,bu0,cbU49,f8,f7,f0,f1,decide_eq_true w]
      have:l.findIdx? (fun y=>x == y)=some k:=by
        rw [List.findIdx?_eq_some_iff_getElem]
        refine ⟨hlt,by rw [← getD_eq l k 0 hlt];simp [w],fun j hj=>?_⟩
        have:=ek (l[j]) (by rw [List.mem_take_iff_getElem];exact ⟨j,by omega,rfl⟩)
        rw [this];simp
      rw [fidx,this]
    · simp -dsimp -implicitDefEqProofs (disch:=first | omega | (simp only [lenr];try omega)) only [↓amPre,amAll,↓reduceIte,reduceCtorEq,Nat.reduceEqDiff,Nat.reduceBEq,Nat.reduceAdd,Nat.reduceLeDiff,Nat.reduceSub,Nat.reduceMul,Int.reduceToNat,List.size_toArray,tyF,MM,bu0,cbU49,f8,f7,f0,f1,decide_eq_false w]
      exact ⟨hlt,by omega,(mem_take_succ (d:=0) hlt).2 ⟨ek,by simpa using w⟩⟩
  · have hke:k=l.length:=by omega
    subst hke
    rw [List.take_length] at ek
    simp -dsimp -implicitDefEqProofs (disch:=first | omega | (simp only [lenr];try omega)) only [↓amPre,amAll,↓reduceIte,reduceCtorEq,Nat.reduceEqDiff,Nat.reduceBEq,Nat.reduceAdd,Nat.reduceLeDiff,Nat.reduceSub,Nat.reduceMul,Int.reduceToNat,List.size_toArray,tyF,MM,bu0,cbU49,f8,f7,f0,f1]
    have:l.findIdx? (fun y=>x == y)=none:=by rw [List.findIdx?_eq_none_iff];exact ek
    rw [fidx,this]
theorem slContainsI (l:List Int) (x:Int) (hl:l.length≤1099511627776):SpecAt Try.prog 158 [isl l,.i64 x] (.bl (l.any fun y=>x == y)):=by
  refine spec_of_awp (M:=MM) (np:=2) (fz:=true) mixed Try.func158 rfl rfl (by decide) rfl (Nat.le_refl _) (by decide +kernel) (.inr ⟨rfl,rfl⟩) trivial ?_
  simp -dsimp -implicitDefEqProofs (disch:=first | omega | (simp only [lenr];try omega)) only [↓amPre,amAll,↓reduceIte,reduceCtorEq,Nat.reduceEqDiff,Nat.reduceBEq,Nat.reduceAdd,Nat.reduceLeDiff,Nat.reduceSub,Nat.reduceMul,Int.reduceToNat,List.size_toArray,tyF,MM,bu0,cbU49]
  refine callP_of (slIndexI l x hl) ?_
  simp -dsimp -implicitDefEqProofs (disch:=first | omega | (simp only [lenr];try omega)) only [↓amPre,amAll,↓reduceIte,reduceCtorEq,Nat.reduceEqDiff,Nat.reduceBEq,Nat.reduceAdd,Nat.reduceLeDiff,Nat.reduceSub,Nat.reduceMul,Int.reduceToNat,List.size_toArray,tyF,MM,bu0,cbU49]
  refine bl_eq ?_
  simp only [decide_eq_true_eq,fidx_nonneg]
theorem outsideI (T:List Int) (x:Int) (hl:T.length≤1099511627776):SpecAt Try.prog 157 [.i64 x,.ep [isl T]] (.bl (!(T.any fun y=>x == y))):=by
  refine spec_of_awp (M:=MM) (np:=2) (fz:=true) mixed Try.func157 rfl rfl (by decide) rfl (Nat.le_refl _) (by decide +kernel) (.inr ⟨rfl,rfl⟩) trivial ?_
  simp -dsimp -implicitDefEqProofs (disch:=first | omega | (simp only [lenr];try omega)) only [↓amPre,amAll,↓reduceIte,reduceCtorEq,Nat.reduceEqDiff,Nat.reduceBEq,Nat.reduceAdd,Nat.reduceLeDiff,Nat.reduceSub,Nat.reduceMul,Int.reduceToNat,List.size_toArray,tyF,MM,bu0,cbU49]
  refine callP_of (slContainsI T x hl) ?_
  simp -dsimp -implicitDefEqProofs (disch:=first | omega | (simp only [lenr];try omega)) only [↓amPre,amAll,↓reduceIte,reduceCtorEq,Nat.reduceEqDiff,Nat.reduceBEq,Nat.reduceAdd,Nat.reduceLeDiff,Nat.reduceSub,Nat.reduceMul,Int.reduceToNat,List.size_toArray,tyF,MM,bu0,cbU49]
end Wo
end Go.AM
set_option maxRecDepth 8000
namespace Go.AM
namespace Dw
open Go.Proofs
open Dice (Dc dF dS dX bsl)
open Wo (trk trkB)
def MM:FuncId→List Bool:=fun f=>if f=20 then [true,false] else if f=66 then [true,true] else if f=65 then [true] else []
def MF:FuncId→List Bool:=fun f=>if f=4294967295 then [true] else MM f
noncomputable def tkK (s:Dc):Nat→Dc×List Int
  | 0=>(s,[])
  | k+1=>if (tkK s k).2.length<3 then (dS (tkK s k).1 2,if dX (tkK s k).1 2=0 then (tkK s k).2++[(k:Int)] else (tkK s k).2) else tkK s k
theorem tkK_ok (s:Dc) (h:s.ok):∀ k,(tkK s k).1.ok∧(tkK s k).2.length≤3∧(∀ x∈(tkK s k).2,0≤x∧x<k)∧(tkK s k).2.Pairwise (· < ·)
  | 0=>⟨h,by simp [tkK],fun x hx=>by simp [tkK] at hx,by simp [tkK]⟩
  | k+1=>by
    obtain ⟨a,b,c,d⟩:=tkK_ok s h k
    have c':∀ x∈(tkK s k).2,0≤x∧x<(k+1:Nat):=fun x hx=>by have:=c x hx;omega
    rw [tkK]
    split
    · obtain ⟨_,e,_⟩:=dF (tkK s k).1 2 a (by omega)
      refine ⟨e,?_⟩
      dsimp only
      split
      · refine ⟨by simp;omega,fun x hx=>?_,?_⟩
        · rcases List.mem_append.1 hx with hx | hx
          · exact c' x hx
          · rw [List.mem_singleton.1 hx];omega
        · rw [List.pairwise_append]
          refine ⟨d,List.pairwise_singleton _ _,fun x hx y hy=>?_⟩
          rw [List.mem_singleton.1 hy]
          exact (c x hx).2
      · exact ⟨b,c',d⟩
    · exact ⟨a,b,c',d⟩
theorem tkK_stop (s:Dc) {k:Nat} (h:¬ (tkK s k).2.length<3):∀ d,tkK s (k+d)=tkK s k
  | 0=>rfl
  | d+1=>by
    have ih:=tkK_stop s h d
    show tkK s ((k+d)+1)=_
    rw [tkK,ih,if_neg h]
theorem trk_of {n:Int} {T:List Int} (h1:0<T.length) (h2:∀ x∈T,0≤x∧x<n) (h3:T.Pairwise (· < ·)):trk n T=true:=by
  rw [trk,Bool.and_eq_true]
  refine ⟨List.all_eq_true.2 fun k hk=>?_,decide_eq_true h1⟩
  have hk:=List.mem_range.1 hk
  have hm:=h2 _ (mem_getD T k 0 hk)
  rw [trkB,Bool.and_eq_true]
  refine ⟨within_iff.2 (by omega),?_⟩
  cases k with
  | zero=>rfl
  | succ k =>
    have:=List.pairwise_iff_getElem.1 h3 k (k+1) (by omega) hk (by omega)
    rw [← getD_eq T k 0 (by omega),← getD_eq T (k+1) 0 hk] at this
    simp only [Nat.add_sub_cancel,decide_eq_true this,Bool.or_true]
theorem w9Tracked (s:Dc) (p:Puzz) (h:s.ok) (hn:1≤p.n∧p.n≤20):∃ (s':Dc) (T:List Int),SpecX Try.prog 66 [s.pt,p.tr] [some s'.pt,some p.tr] (itr T)∧s'.ok∧trk p.n T=true∧T.length≤3:=by
  obtain ⟨n,hN⟩:∃ n:Nat,p.n=n:=⟨p.n.toNat,by omega⟩
  obtain ⟨z1,z2,z3,z4⟩:=tkK_ok s h n
  obtain ⟨y0,y1,y2,y3⟩:=dF (tkK s n).1 n z1 (by omega)
  have hw:∀ k:Nat,k<20→IntKind.i64.wrap ((k:Int)+1)=((k+1:Nat):Int):=fun k hk=>by rw [wrap64_id (by omega)];rfl
  refine ⟨if (tkK s n).2.length=0 then dS (tkK s n).1 n else (tkK s n).1,if (tkK s n).2.length=0 then [dX (tkK s n).1 n] else (tkK s n).2,?_,by split <;> assumption,?_,by split <;> first | exact z2 | simp⟩
  case refine_2 =>
    split
    · exact trk_of (by simp) (fun x hx=>by rw [List.mem_singleton.1 hx];omega) (List.pairwise_singleton _ _)
    · exact trk_of (by omega) (fun x hx=>by have:=z3 x hx;omega) z4
  refine spec_of_awp (M:=MF) (np:=2) (fz:=false) mixed Try.func66 rfl rfl (by decide) rfl (Nat.le_refl _) (by decide +kernel) (.inl rfl) (by simp only [sigsOk_some,sigsOk_nil,and_true,Puzz.tr,sig_agg,List.map_cons,List.map_nil,sig1_v,sig1_tr,List.length_map,true_and];rfl) ?_
  simp -dsimp -implicitDefEqProofs (disch:=first | omega | (simp only [lenr];try omega)) only [↓amPre,amAll,↓reduceIte,reduceCtorEq,Nat.reduceEqDiff,Nat.reduceBEq,Nat.reduceAdd,Nat.reduceLeDiff,Nat.reduceSub,Nat.reduceMul,Int.reduceToNat,List.size_toArray,tyF,MM,bu0,cbU49,MF]
  refine awp_loopR 7 25 (.tr 1 []) (by simp -dsimp -implicitDefEqProofs (disch:=first | omega | (simp only [lenr];try omega)) only [↓amPre,amAll,↓reduceIte,reduceCtorEq,Nat.reduceEqDiff,Nat.reduceBEq,Nat.reduceAdd,Nat.reduceLeDiff,Nat.reduceSub,Nat.reduceMul,Int.reduceToNat,List.size_toArray,tyF,MM,bu0,cbU49,MF]) (by decide) (by decide) (by decide) (fun k st=>k≤n∧st.fr 6=.i64 k∧st.fr 5=.ref 25 [] 1 0 (tkK s k).2.length∧st.fr 3=.bx [.i64 p.n,.st p.nm,.ref 1 [(0,2)] 1 0 p.mv.length]∧st.fr 0=.loc 0 [] 0 0∧st.mem 1=some (.agg [.i64 p.n,.st p.nm,sst p.mv])∧st.mem 0=some ((tkK s k).1.pt)∧st.mem 25=some (itr (tkK s k).2)) (n) ?_ ?_
  · simp -dsimp -implicitDefEqProofs (disch:=first | omega | (simp only [lenr];try omega)) only [↓amPre,amAll,↓reduceIte,reduceCtorEq,Nat.reduceEqDiff,Nat.reduceBEq,Nat.reduceAdd,Nat.reduceLeDiff,Nat.reduceSub,Nat.reduceMul,Int.reduceToNat,List.size_toArray,tyF,MM,bu0,cbU49,MF,ren_eq]
    exact ⟨Nat.zero_le _,rfl,rfl,rfl,rfl⟩
  rintro k st _ ⟨hk,f6,f5,f3,f0,m1,m0,m25⟩
  obtain ⟨g1,g2,g3,g4⟩:=tkK_ok s h k
  by_cases hc:k<n∧(tkK s k).2.length<3
  · obtain ⟨c1,c2⟩:=hc
    obtain ⟨d0,d1,d2,d3⟩:=dF (tkK s k).1 2 g1 (by omega)
    have hst:tkK s (k+1)=(dS (tkK s k).1 2,if dX (tkK s k).1 2=0 then (tkK s k).2++[(k:Int)] else (tkK s k).2):=by rw [tkK,if_pos c2]
    have hwk:=hw k (by omega)
    have c1':(k:Int)<(n:Int):=by omega
    have c2':(((tkK s k).2.length:Nat):Int)<3:=by omega
    rw [hst]
    generalize (tkK s k).1=S at *
    generalize (tkK s k).2=L at *
    by_cases e0:dX S 2=0
    · rw [if_pos e0]
      rw [e0] at d0
      have hll:(L++[(k:Int)]).length=L.length+1:=by simp
      simp -dsimp -implicitDefEqProofs (disch:=first | omega | (simp only [lenr];try omega)) only [↓amPre,amAll,↓reduceIte,reduceCtorEq,Nat.reduceEqDiff,Nat.reduceBEq,Nat.reduceAdd,Nat.reduceLeDiff,Nat.reduceSub,Nat.reduceMul,Int.reduceToNat,List.size_toArray,tyF,MM,bu0,cbU49,MF,f6,f5,f3,f0,m1,m0,m25,hN,lt_true c1',lt_true c2']
      refine callX_of (d0) ?_
      simp -dsimp -implicitDefEqProofs (disch:=first | omega | (simp only [lenr];try omega)) only [↓amPre,amAll,↓reduceIte,reduceCtorEq,Nat.reduceEqDiff,Nat.reduceBEq,Nat.reduceAdd,Nat.reduceLeDiff,Nat.reduceSub,Nat.reduceMul,Int.reduceToNat,List.size_toArray,tyF,MM,bu0,cbU49,MF,f6,f5,f3,f0,m1,m0,m25,hwk,hll]
      exact ⟨c1,by omega⟩
    · rw [if_neg e0]
      have e0':=decide_eq_false e0
      simp -dsimp -implicitDefEqProofs (disch:=first | omega | (simp only [lenr];try omega)) only [↓amPre,amAll,↓reduceIte,reduceCtorEq,Nat.reduceEqDiff,Nat.reduceBEq,Nat.reduceAdd,Nat.reduceLeDiff,Nat.reduceSub,Nat.reduceMul,Int.reduceToNat,List.size_toArray,tyF,MM,bu0,cbU49,MF,f6,f5,f3,f0,m1,m0,m25,hN,lt_true c1',lt_true c2']
      refine callX_of (d0) ?_
      simp -dsimp -implicitDefEqProofs (disch:=first | omega | (simp only [lenr];try omega)) only [↓amPre,amAll,↓reduceIte,reduceCtorEq,Nat.reduceEqDiff,Nat.reduceBEq,Nat.reduceAdd,Nat.reduceLeDiff,Nat.reduceSub,Nat.reduceMul,Int.reduceToNat,List.size_toArray,tyF,MM,bu0,cbU49,MF,f6,f5,f3,f0,m1,m0,m25,hwk,e0']
      exact ⟨c1,by omega⟩
  · have hfin:tkK s n=tkK s k:=by
      by_cases c1:k<n
      · have:=tkK_stop s (k:=k) (fun q=>hc ⟨c1,q⟩) (n - k)
        rwa [show k+(n - k)=n by omega] at this
      · rw [show k=n by omega]
    rw [hfin] at y0 y1 y2 y3 ⊢
    by_cases c1:k<n
    · have c2':¬ (((tkK s k).2.length:Nat):Int)<3:=by omega
      have c1':(k:Int)<(n:Int):=by omega
      have c3:¬ (tkK s k).2.length=0:=by omega
      rw [if_neg c3,if_neg c3]
      generalize (tkK s k).1=S at *
      generalize (tkK s k).2=L at *
      have c3':¬ (L.length:Int)=0:=by omega
      simp -dsimp -implicitDefEqProofs (disch:=first | omega | (simp only [lenr];try omega)) only [↓amPre,amAll,↓reduceIte,reduceCtorEq,Nat.reduceEqDiff,Nat.reduceBEq,Nat.reduceAdd,Nat.reduceLeDiff,Nat.reduceSub,Nat.reduceMul,Int.reduceToNat,List.size_toArray,tyF,MM,bu0,cbU49,MF,f6,f5,f3,f0,m1,m0,m25,hN,lt_true c1',lt_false (Int.not_lt.1 c2'),decide_eq_false c3']
    · have c1':¬ (k:Int)<(n:Int):=by omega
      by_cases c3:(tkK s k).2.length=0
      · rw [if_pos c3,if_pos c3]
        generalize (tkK s k).1=S at *
        generalize (tkK s k).2=L at *
        have hL:=List.length_eq_zero_iff.1 c3
        subst hL
        simp -dsimp -implicitDefEqProofs (disch:=first | omega | (simp only [lenr];try omega)) only [↓amPre,amAll,↓reduceIte,reduceCtorEq,Nat.reduceEqDiff,Nat.reduceBEq,Nat.reduceAdd,Nat.reduceLeDiff,Nat.reduceSub,Nat.reduceMul,Int.reduceToNat,List.size_toArray,tyF,MM,bu0,cbU49,MF,f6,f5,f3,f0,m1,m0,m25,hN,lt_false (Int.not_lt.1 c1')]
        refine callX_of (y0) ?_
        simp -dsimp -implicitDefEqProofs (disch:=first | omega | (simp only [lenr];try omega)) only [↓amPre,amAll,↓reduceIte,reduceCtorEq,Nat.reduceEqDiff,Nat.reduceBEq,Nat.reduceAdd,Nat.reduceLeDiff,Nat.reduceSub,Nat.reduceMul,Int.reduceToNat,List.size_toArray,tyF,MM,bu0,cbU49,MF,f6,f5,f3,f0,m1,m0,m25]
      · rw [if_neg c3,if_neg c3]
        generalize (tkK s k).1=S at *
        generalize (tkK s k).2=L at *
        have c3':¬ (L.length:Int)=0:=by omega
        simp -dsimp -implicitDefEqProofs (disch:=first | omega | (simp only [lenr];try omega)) only [↓amPre,amAll,↓reduceIte,reduceCtorEq,Nat.reduceEqDiff,Nat.reduceBEq,Nat.reduceAdd,Nat.reduceLeDiff,Nat.reduceSub,Nat.reduceMul,Int.reduceToNat,List.size_toArray,tyF,MM,bu0,cbU49,MF,f6,f5,f3,f0,m1,m0,m25,hN,lt_false (Int.not_lt.1 c1'),decide_eq_false c3']
end Dw
end Go.AM
namespace Go.AM
namespace Bf
def wsB (e:Ex) (T:List Int) (i:Nat):Bool:=!(i == 0) && !((movL (e.S.getD i default) (e.S.getD i default).length).any fun x=>!(T.any fun y=>x == y))
def wsR (A:List Int) (e:Ex) (ok:Bool) (T:List Int):List Int×Bool :=
  if ok=true then match (List.range e.S.length).find? (wsB e T) with
    | some i=>if e.D.getD i 0≤200 then (ltr A (wdE e i),true) else ([],false)
    | none=>([],false)
  else ([],false)
theorem wsR_no (A:List Int) (e:Ex) (T:List Int):wsR A e false T=([],false):=rfl
theorem wsR_at (A:List Int) (e:Ex) (T:List Int) {i:Nat} (hi:i<e.S.length) (h:wsB e T i=true) (hb:∀ j,j<i→wsB e T j=false):wsR A e true T=if e.D.getD i 0≤200 then (ltr A (wdE e i),true) else ([],false):=by
  have:(List.range e.S.length).find? (wsB e T)=some i:=by
    rw [List.find?_range_eq_some]
    exact ⟨h,List.mem_range.2 hi,fun j hj=>by rw [hb j hj];rfl⟩
  rw [wsR,if_pos rfl,this]
theorem wsR_none (A:List Int) (e:Ex) (T:List Int) (hb:∀ j,j<e.S.length→wsB e T j=false):wsR A e true T=([],false):=by
  have:(List.range e.S.length).find? (wsB e T)=none:=by
    rw [List.find?_eq_none]
    exact fun j hj=>by rw [hb j (List.mem_range.1 hj)];simp
  rw [wsR,if_pos rfl,this]
end Bf
end Go.AM
set_option maxRecDepth 8000
namespace Go.AM
namespace Wo
open Go.Proofs
open Ch (PN pt idL cst cst_app cst_len)
open Bf (Ex nxO idxM byL dOf rvK ltr wdE dw Fin srtS fmT fmC fmA fmR lsN movL_len wsB wsR wsR_no wsR_at wsR_none)
open Ck (sfr exA exT nxT stN)
open Sr (exC fS depthOfS sR sR_yes sR_no sR_ok sR_len)
noncomputable def wsP (p:Puzz) (T:List Int):List Int×Bool:=wsR (letL p.mv.length) (sR p).1 ((sR p).2 && trk p.n T) T
theorem iWordSup (p:Puzz) (T:List Int) (h:smallP p) (hT:T.length≤1099511627776):SpecAt Try.prog 67 [p.sl,isl T] (.tup [itr (wsP p T).1,.bl (wsP p T).2]):=by
  by_cases hs:1≤stN p∧stN p≤3000
  case neg =>
    have q1:=Ck.exploreNo p h hs
    have hz:wsP p T=([],false):=by rw [wsP,sR_no hs,Bool.false_and,wsR_no]
    rw [hz]
    refine spec_of_awp (M:=MM) (np:=2) (fz:=false) mixed Try.func67 rfl rfl (by decide) rfl (Nat.le_refl _) (by decide +kernel) (.inl rfl) (by first | trivial | simp only [sigsOk_nil,sigsOk_some,sigsOk_none,sig_tr,sig_pt,sig_mt,sig_agg,List.map_cons,List.map_nil,sig1_tr,sig1_pt,sig1_v,and_self,true_and,List.length_map,List.length_set]) ?_
    simp -dsimp -implicitDefEqProofs (disch:=first | omega | (simp only [lenr];try omega)) only [↓amPre,amAll,↓reduceIte,reduceCtorEq,Nat.reduceEqDiff,Nat.reduceBEq,Nat.reduceAdd,Nat.reduceLeDiff,Nat.reduceSub,Nat.reduceMul,Int.reduceToNat,List.size_toArray,tyF,MM,bu0,cbU49]
    refine callP_of (q1) ?_
    simp -dsimp -implicitDefEqProofs (disch:=first | omega | (simp only [lenr];try omega)) only [↓amPre,amAll,↓reduceIte,reduceCtorEq,Nat.reduceEqDiff,Nat.reduceBEq,Nat.reduceAdd,Nat.reduceLeDiff,Nat.reduceSub,Nat.reduceMul,Int.reduceToNat,List.size_toArray,tyF,MM,bu0,cbU49,Ck.nilPt]
  obtain ⟨hd,hR⟩:=sR_yes hs
  have hF:=sR_fin hs
  have q1:=Ck.exploreYes p h hs
  have hn20:=hd.1.1
  have hle:=sR_len hd
  rw [wsP,hR]
  dsimp only
  rw [Bool.true_and]
  have qw:=fun i hi hl=>wordI p (Bf.out p.mv (letL p.mv.length) p.n.toNat 3000) .any (nxO p.mv (letL p.mv.length) p.n.toNat 3000) hF.tm i hi hF.ok hl
  have l1:=isTrackedI p.n T hn20.1 hn20.2 hT
  unfold exT at q1
  generalize nxO p.mv (letL p.mv.length) p.n.toNat 3000=Nx at *
  generalize Bf.out p.mv (letL p.mv.length) p.n.toNat 3000=e at *
  cases b1:trk p.n T with
  | false =>
    rw [b1] at l1
    rw [wsR_no]
    refine spec_of_awp (M:=MM) (np:=2) (fz:=false) mixed Try.func67 rfl rfl (by decide) rfl (Nat.le_refl _) (by decide +kernel) (.inl rfl) (by first | trivial | simp only [sigsOk_nil,sigsOk_some,sigsOk_none,sig_tr,sig_pt,sig_mt,sig_agg,List.map_cons,List.map_nil,sig1_tr,sig1_pt,sig1_v,and_self,true_and,List.length_map,List.length_set]) ?_
    simp -dsimp -implicitDefEqProofs (disch:=first | omega | (simp only [lenr];try omega)) only [↓amPre,amAll,↓reduceIte,reduceCtorEq,Nat.reduceEqDiff,Nat.reduceBEq,Nat.reduceAdd,Nat.reduceLeDiff,Nat.reduceSub,Nat.reduceMul,Int.reduceToNat,List.size_toArray,tyF,MM,bu0,cbU49]
    refine callP_of (q1) ?_
    simp -dsimp -implicitDefEqProofs (disch:=first | omega | (simp only [lenr];try omega)) only [↓amPre,amAll,↓reduceIte,reduceCtorEq,Nat.reduceEqDiff,Nat.reduceBEq,Nat.reduceAdd,Nat.reduceLeDiff,Nat.reduceSub,Nat.reduceMul,Int.reduceToNat,List.size_toArray,tyF,MM,bu0,cbU49]
    refine callP_of (l1) ?_
    simp -dsimp -implicitDefEqProofs (disch:=first | omega | (simp only [lenr];try omega)) only [↓amPre,amAll,↓reduceIte,reduceCtorEq,Nat.reduceEqDiff,Nat.reduceBEq,Nat.reduceAdd,Nat.reduceLeDiff,Nat.reduceSub,Nat.reduceMul,Int.reduceToNat,List.size_toArray,tyF,MM,bu0,cbU49]
  | true =>
  rw [b1] at l1
  have hok:=hF.ok
  have hl3:e.S.length≤3000:=by omega
  refine spec_of_awp (M:=MM) (np:=2) (fz:=false) mixed Try.func67 rfl rfl (by decide) rfl (Nat.le_refl _) (by decide +kernel) (.inl rfl) (by first | trivial | simp only [sigsOk_nil,sigsOk_some,sigsOk_none,sig_tr,sig_pt,sig_mt,sig_agg,List.map_cons,List.map_nil,sig1_tr,sig1_pt,sig1_v,and_self,true_and,List.length_map,List.length_set]) ?_
  simp -dsimp -implicitDefEqProofs (disch:=first | omega | (simp only [lenr];try omega)) only [↓amPre,amAll,↓reduceIte,reduceCtorEq,Nat.reduceEqDiff,Nat.reduceBEq,Nat.reduceAdd,Nat.reduceLeDiff,Nat.reduceSub,Nat.reduceMul,Int.reduceToNat,List.size_toArray,tyF,MM,bu0,cbU49]
  refine callP_of (q1) ?_
  simp -dsimp -implicitDefEqProofs (disch:=first | omega | (simp only [lenr];try omega)) only [↓amPre,amAll,↓reduceIte,reduceCtorEq,Nat.reduceEqDiff,Nat.reduceBEq,Nat.reduceAdd,Nat.reduceLeDiff,Nat.reduceSub,Nat.reduceMul,Int.reduceToNat,List.size_toArray,tyF,MM,bu0,cbU49]
  refine callP_of (l1) ?_
  simp -dsimp -implicitDefEqProofs (disch:=first | omega | (simp only [lenr];try omega)) only [↓amPre,amAll,↓reduceIte,reduceCtorEq,Nat.reduceEqDiff,Nat.reduceBEq,Nat.reduceAdd,Nat.reduceLeDiff,Nat.reduceSub,Nat.reduceMul,Int.reduceToNat,List.size_toArray,tyF,MM,bu0,cbU49]
  refine awp_loop (fun i st=>i≤e.S.length∧st.fr 29=.i64 i∧st.fr 28=.i64 e.S.length∧st.fr 27=.ref 12 [(0,0),(0,3)] 1 0 e.S.length∧st.fr 6=.loc 12 [(0,0)] 0 0∧st.fr 3=.loc 3 [] 0 0∧st.mem 12=some (.tup [exA p e.S (cst e.D) (idxM e.S) (cst e.Pa) (byL (letL p.mv.length) e.J) (nxT Nx),.bl true])∧st.mem 3=some (.pt 1 (isl T))∧(∀ j,j<i→wsB e T j=false)) (e.S.length) ?_ ?_
  · simp -dsimp -implicitDefEqProofs (disch:=first | omega | (simp only [lenr];try omega)) only [↓amPre,amAll,↓reduceIte,reduceCtorEq,Nat.reduceEqDiff,Nat.reduceBEq,Nat.reduceAdd,Nat.reduceLeDiff,Nat.reduceSub,Nat.reduceMul,Int.reduceToNat,List.size_toArray,tyF,MM,bu0,cbU49]
    exact ⟨Nat.zero_le _,rfl,fun j hj=>absurd hj (Nat.not_lt_zero _)⟩
  rintro i st _ ⟨hi,f29,f28,f27,f6,f3,m12,m3,ei⟩
  by_cases c1:i<e.S.length
  case neg =>
    have hie:i=e.S.length:=by omega
    subst hie
    rw [wsR_none _ _ _ ei]
    simp -dsimp -implicitDefEqProofs (disch:=first | omega | (simp only [lenr];try omega)) only [↓amPre,amAll,↓reduceIte,reduceCtorEq,Nat.reduceEqDiff,Nat.reduceBEq,Nat.reduceAdd,Nat.reduceLeDiff,Nat.reduceSub,Nat.reduceMul,Int.reduceToNat,List.size_toArray,tyF,MM,bu0,cbU49,f29,f28,f27,f6,f3,m12,m3]
  have hsm:=mem_getD e.S i default c1
  have hpn:=(hok.el _ hsm).1
  have q2:=iSupport (e.S.getD i default) hpn.2
  have q4:=qw i c1 hl3
  have hst:wsB e T i=(!(i == 0) && !((movL (e.S.getD i default) (e.S.getD i default).length).any fun x=>!(T.any fun y=>x == y))):=rfl
  have hg:(e.S.map fun x=>isl x).getD i .any=isl (e.S.getD i default):=by rw [getD_eq _ _ _ (by simp;omega),List.getElem_map,getD_eq _ _ _ (by omega)]
  have hgD:((cst e.D).map AV.i64).getD i .any=.i64 ((e.D.getD i 0:Nat):Int):=by rw [getD_eq _ _ _ (by rw [List.length_map,cst_len,hok.lD];exact c1),List.getElem_map,← getD_eq _ _ 0,Ch.cst_get (by rw [hok.lD];exact c1)]
  have hlD:(cst e.D).length=e.S.length:=by rw [cst_len,hok.lD]
  have c1':(i:Int)<(e.S.length:Int):=by omega
  have hml:=movL_len (e.S.getD i default) (e.S.getD i default).length
  have hgo:wsB e T i=false→∀ j,j<i+1→wsB e T j=false:=fun h j hj=>by
    rcases Nat.lt_or_ge j i with q | q
    · exact ei j q
    · rw [show j=i by omega];exact h
  have qc:∀ l:List Int,l.length≤20→SpecAt Try.prog 156 [isl l,.fn 157 [.ep [isl T]]] (.bl (l.any fun x=>!(T.any fun y=>x == y))):=fun l hl=>containsFunc l _ _ _ rfl rfl (fun _=>rfl) (fun x _=>outsideI T x hT) (by omega)
  have q3:=qc (movL (e.S.getD i default) (e.S.getD i default).length) (by have:=hpn.1;omega)
  have hat:=fun hh=>wsR_at (letL p.mv.length) e T c1 hh ei
  by_cases c0:i=0
  · have hg2:=hgo (by rw [hst,c0];rfl)
    have c0':decide ((i:Int)=0)=true:=decide_eq_true (by omega)
    simp -dsimp -implicitDefEqProofs (disch:=first | omega | (simp only [lenr];try omega)) only [↓amPre,amAll,↓reduceIte,reduceCtorEq,Nat.reduceEqDiff,Nat.reduceBEq,Nat.reduceAdd,Nat.reduceLeDiff,Nat.reduceSub,Nat.reduceMul,Int.reduceToNat,List.size_toArray,tyF,MM,bu0,cbU49,f29,f28,f27,f6,f3,m12,m3,lt_true c1',hg,c0']
    exact ⟨c1,by omega,hg2⟩
  have c0':decide ((i:Int)=0)=false:=decide_eq_false (by omega)
  have hi0:(i == 0)=false:=by simpa using c0
  rw [hi0] at hst
  cases b2:(movL (e.S.getD i default) (e.S.getD i default).length).any fun x=>!(T.any fun y=>x == y) with
  | true =>
    rw [b2] at hst q3
    have hg2:=hgo hst
    simp -dsimp -implicitDefEqProofs (disch:=first | omega | (simp only [lenr];try omega)) only [↓amPre,amAll,↓reduceIte,reduceCtorEq,Nat.reduceEqDiff,Nat.reduceBEq,Nat.reduceAdd,Nat.reduceLeDiff,Nat.reduceSub,Nat.reduceMul,Int.reduceToNat,List.size_toArray,tyF,MM,bu0,cbU49,f29,f28,f27,f6,f3,m12,m3,lt_true c1',hg,c0']
    refine callP_of (q2) ?_
    simp -dsimp -implicitDefEqProofs (disch:=first | omega | (simp only [lenr];try omega)) only [↓amPre,amAll,↓reduceIte,reduceCtorEq,Nat.reduceEqDiff,Nat.reduceBEq,Nat.reduceAdd,Nat.reduceLeDiff,Nat.reduceSub,Nat.reduceMul,Int.reduceToNat,List.size_toArray,tyF,MM,bu0,cbU49,f29,f28,f27,f6,f3,m12,m3]
    refine callP_of (q3) ?_
    simp -dsimp -implicitDefEqProofs (disch:=first | omega | (simp only [lenr];try omega)) only [↓amPre,amAll,↓reduceIte,reduceCtorEq,Nat.reduceEqDiff,Nat.reduceBEq,Nat.reduceAdd,Nat.reduceLeDiff,Nat.reduceSub,Nat.reduceMul,Int.reduceToNat,List.size_toArray,tyF,MM,bu0,cbU49,f29,f28,f27,f6,f3,m12,m3]
    exact ⟨c1,by omega,hg2⟩
  | false =>
    rw [b2] at hst q3
    rw [hat hst]
    by_cases d1:e.D.getD i 0≤200
    · rw [if_pos d1]
      have d1':((e.D.getD i 0:Nat):Int)≤200:=by omega
      simp -dsimp -implicitDefEqProofs (disch:=first | omega | (simp only [lenr];try omega)) only [↓amPre,amAll,↓reduceIte,reduceCtorEq,Nat.reduceEqDiff,Nat.reduceBEq,Nat.reduceAdd,Nat.reduceLeDiff,Nat.reduceSub,Nat.reduceMul,Int.reduceToNat,List.size_toArray,tyF,MM,bu0,cbU49,f29,f28,f27,f6,f3,m12,m3,lt_true c1',hg,c0']
      refine callP_of (q2) ?_
      simp -dsimp -implicitDefEqProofs (disch:=first | omega | (simp only [lenr];try omega)) only [↓amPre,amAll,↓reduceIte,reduceCtorEq,Nat.reduceEqDiff,Nat.reduceBEq,Nat.reduceAdd,Nat.reduceLeDiff,Nat.reduceSub,Nat.reduceMul,Int.reduceToNat,List.size_toArray,tyF,MM,bu0,cbU49,f29,f28,f27,f6,f3,m12,m3]
      refine callP_of (q3) ?_
      simp -dsimp -implicitDefEqProofs (disch:=first | omega | (simp only [lenr];try omega)) only [↓amPre,amAll,↓reduceIte,reduceCtorEq,Nat.reduceEqDiff,Nat.reduceBEq,Nat.reduceAdd,Nat.reduceLeDiff,Nat.reduceSub,Nat.reduceMul,Int.reduceToNat,List.size_toArray,tyF,MM,bu0,cbU49,f29,f28,f27,f6,f3,m12,m3,hgD,hlD,lt_false d1',fz1,fz2,fz3]
      refine callP_of (q4) ?_
      simp -dsimp -implicitDefEqProofs (disch:=first | omega | (simp only [lenr];try omega)) only [↓amPre,amAll,↓reduceIte,reduceCtorEq,Nat.reduceEqDiff,Nat.reduceBEq,Nat.reduceAdd,Nat.reduceLeDiff,Nat.reduceSub,Nat.reduceMul,Int.reduceToNat,List.size_toArray,tyF,MM,bu0,cbU49,f29,f28,f27,f6,f3,m12,m3]
    · rw [if_neg d1]
      have d1':(200:Int)<((e.D.getD i 0:Nat):Int):=by omega
      simp -dsimp -implicitDefEqProofs (disch:=first | omega | (simp only [lenr];try omega)) only [↓amPre,amAll,↓reduceIte,reduceCtorEq,Nat.reduceEqDiff,Nat.reduceBEq,Nat.reduceAdd,Nat.reduceLeDiff,Nat.reduceSub,Nat.reduceMul,Int.reduceToNat,List.size_toArray,tyF,MM,bu0,cbU49,f29,f28,f27,f6,f3,m12,m3,lt_true c1',hg,c0']
      refine callP_of (q2) ?_
      simp -dsimp -implicitDefEqProofs (disch:=first | omega | (simp only [lenr];try omega)) only [↓amPre,amAll,↓reduceIte,reduceCtorEq,Nat.reduceEqDiff,Nat.reduceBEq,Nat.reduceAdd,Nat.reduceLeDiff,Nat.reduceSub,Nat.reduceMul,Int.reduceToNat,List.size_toArray,tyF,MM,bu0,cbU49,f29,f28,f27,f6,f3,m12,m3]
      refine callP_of (q3) ?_
      simp -dsimp -implicitDefEqProofs (disch:=first | omega | (simp only [lenr];try omega)) only [↓amPre,amAll,↓reduceIte,reduceCtorEq,Nat.reduceEqDiff,Nat.reduceBEq,Nat.reduceAdd,Nat.reduceLeDiff,Nat.reduceSub,Nat.reduceMul,Int.reduceToNat,List.size_toArray,tyF,MM,bu0,cbU49,f29,f28,f27,f6,f3,m12,m3,hgD,hlD,lt_true d1']
end Wo
end Go.AM
set_option maxRecDepth 8000
namespace Go.AM
namespace Wo
open Go.Proofs
open Ch (PN pt idL cst cst_app cst_len)
open Bf (Ex srtS)
open Ck (stN)
open Sr (fS sR sR_yes sR_no sR_ok sR_len searchC)
theorem copyListsI (L:List (List Int)) (hl:L.length≤3000) (h:∀ s∈L,s.length≤20):SpecAt Try.prog 159 [ssl L] (sst L):=by
  refine spec_of_awp (M:=MM) (np:=1) (fz:=false) mixed Try.func159 rfl rfl (by decide) rfl (Nat.le_refl _) (by decide +kernel) (.inl rfl) (by first | trivial | simp only [sigsOk_nil,sigsOk_some,sigsOk_none,sig_tr,sig_pt,sig_mt,sig_agg,List.map_cons,List.map_nil,sig1_tr,sig1_pt,sig1_v,and_self,true_and,List.length_map,List.length_set]) ?_
  simp -dsimp -implicitDefEqProofs (disch:=first | omega | (simp only [lenr];try omega)) only [↓amPre,amAll,↓reduceIte,reduceCtorEq,Nat.reduceEqDiff,Nat.reduceBEq,Nat.reduceAdd,Nat.reduceLeDiff,Nat.reduceSub,Nat.reduceMul,Int.reduceToNat,List.size_toArray,tyF,MM,bu0,cbU49]
  refine awp_loop (fun k st=>k≤L.length∧st.fr 4=.i64 k∧st.fr 0=ssl L∧((k=0∧st.fr 3=.ref 5 [] 1 0 0∧st.mem 5=some (.tr 1 []))∨(0<k∧st.fr 3=.ref 19 [] 1 0 k∧st.mem 19=some (sst (L.take k))))) (L.length) ?_ ?_
  · simp -dsimp -implicitDefEqProofs (disch:=first | omega | (simp only [lenr];try omega)) only [↓amPre,amAll,↓reduceIte,reduceCtorEq,Nat.reduceEqDiff,Nat.reduceBEq,Nat.reduceAdd,Nat.reduceLeDiff,Nat.reduceSub,Nat.reduceMul,Int.reduceToNat,List.size_toArray,tyF,MM,bu0,cbU49]
    exact ⟨Nat.zero_le _,rfl⟩
  rintro k st _ ⟨hk,f4,f0,ek⟩
  by_cases c1:k<L.length
  · have q1:=copyI (L.getD k default) (by have:=h _ (mem_getD L k default c1);omega)
    have c1':(k:Int)<(L.length:Int):=by omega
    have htl:(L.take k).length=k:=by rw [List.length_take];omega
    have hts:L.take (k+1)=L.take k++[L.getD k default]:=by rw [getD_eq L k default c1,List.take_succ_eq_append_getElem c1]
    have hg:(L.map isl).getD k .any=isl (L.getD k default):=by rw [getD_eq _ _ _ (by simpa using c1),List.getElem_map,getD_eq _ _ _ c1]
    have ht0:k=0→L.take k=[]:=fun q=>by rw [q];rfl
    rw [hts]
    generalize L.take k=M at *
    rcases ek with ⟨k0,g3,g5⟩ | ⟨k0,g3,g19⟩
    · have hM:=ht0 k0
      subst hM
      simp -dsimp -implicitDefEqProofs (disch:=first | omega | (simp only [lenr];try omega)) only [↓amPre,amAll,↓reduceIte,reduceCtorEq,Nat.reduceEqDiff,Nat.reduceBEq,Nat.reduceAdd,Nat.reduceLeDiff,Nat.reduceSub,Nat.reduceMul,Int.reduceToNat,List.size_toArray,tyF,MM,bu0,cbU49,f4,f0,g3,g5,lt_true c1',hg]
      refine callP_of (q1) ?_
      simp -dsimp -implicitDefEqProofs (disch:=first | omega | (simp only [lenr];try omega)) only [↓amPre,amAll,↓reduceIte,reduceCtorEq,Nat.reduceEqDiff,Nat.reduceBEq,Nat.reduceAdd,Nat.reduceLeDiff,Nat.reduceSub,Nat.reduceMul,Int.reduceToNat,List.size_toArray,tyF,MM,bu0,cbU49,f4,f0,g3,g5]
      exact ⟨c1,by omega,by omega,by rw [k0],rfl⟩
    · simp -dsimp -implicitDefEqProofs (disch:=first | omega | (simp only [lenr];try omega)) only [↓amPre,amAll,↓reduceIte,reduceCtorEq,Nat.reduceEqDiff,Nat.reduceBEq,Nat.reduceAdd,Nat.reduceLeDiff,Nat.reduceSub,Nat.reduceMul,Int.reduceToNat,List.size_toArray,tyF,MM,bu0,cbU49,f4,f0,g3,g19,lt_true c1',hg]
      refine callP_of (q1) ?_
      simp -dsimp -implicitDefEqProofs (disch:=first | omega | (simp only [lenr];try omega)) only [↓amPre,amAll,↓reduceIte,reduceCtorEq,Nat.reduceEqDiff,Nat.reduceBEq,Nat.reduceAdd,Nat.reduceLeDiff,Nat.reduceSub,Nat.reduceMul,Int.reduceToNat,List.size_toArray,tyF,MM,bu0,cbU49,f4,f0,g3,g19,htl]
      exact ⟨c1,by omega⟩
  · have hke:k=L.length:=by omega
    rcases ek with ⟨k0,g3,g5⟩ | ⟨k0,g3,g19⟩
    · have hL:L=[]:=List.length_eq_zero_iff.1 (by omega)
      subst hL
      simp -dsimp -implicitDefEqProofs (disch:=first | omega | (simp only [lenr];try omega)) only [↓amPre,amAll,↓reduceIte,reduceCtorEq,Nat.reduceEqDiff,Nat.reduceBEq,Nat.reduceAdd,Nat.reduceLeDiff,Nat.reduceSub,Nat.reduceMul,Int.reduceToNat,List.size_toArray,tyF,MM,bu0,cbU49,f4,f0,g3,g5]
    · subst hke
      rw [List.take_length] at g19
      simp -dsimp -implicitDefEqProofs (disch:=first | omega | (simp only [lenr];try omega)) only [↓amPre,amAll,↓reduceIte,reduceCtorEq,Nat.reduceEqDiff,Nat.reduceBEq,Nat.reduceAdd,Nat.reduceLeDiff,Nat.reduceSub,Nat.reduceMul,Int.reduceToNat,List.size_toArray,tyF,MM,bu0,cbU49,f4,f0,g3,g19]
theorem sReachable (p:Puzz) (h:smallP p) (hs:1≤stN p∧stN p≤3000):SpecAt Try.prog 68 [p.sl] (.tup [sst (sR p).1.S,itr (cst (sR p).1.D),.bl true]):=by
  have q1:=searchC p h
  obtain ⟨hd,hR⟩:=sR_yes hs
  have hok:=sR_ok hd
  have hle:=sR_len hd
  have hn20:=hd.1.1
  rw [hR] at q1 ⊢
  dsimp only at q1 ⊢
  generalize Bf.out p.mv (letL p.mv.length) p.n.toNat 3000=e at *
  have q2:=copyListsI e.S (by omega) (fun s hs=>by have:=(hok.el s hs).1.1;omega)
  have hlD:(cst e.D).length=e.S.length:=by rw [cst_len,hok.lD]
  have q3:=copyI (cst e.D) (by omega)
  refine spec_of_awp_any (M:=MM) (np:=1) (X:=[4]) (fz:=false) mixed Try.func68 rfl rfl (by decide) rfl (Nat.le_refl _) (by decide +kernel) (.inl rfl) (by first | trivial | simp only [sigsOk_nil,sigsOk_some,sigsOk_none,sig_tr,sig_pt,sig_mt,sig_agg,List.map_cons,List.map_nil,sig1_tr,sig1_pt,sig1_v,and_self,true_and,List.length_map,List.length_set]) ?_
  simp -dsimp -implicitDefEqProofs (disch:=first | omega | (simp only [lenr];try omega)) only [↓amPre,amAll,↓reduceIte,reduceCtorEq,Nat.reduceEqDiff,Nat.reduceBEq,Nat.reduceAdd,Nat.reduceLeDiff,Nat.reduceSub,Nat.reduceMul,Int.reduceToNat,List.size_toArray,tyF,MM,bu0,cbU49]
  refine callP_of (q1) ?_
  simp -dsimp -implicitDefEqProofs (disch:=first | omega | (simp only [lenr];try omega)) only [↓amPre,amAll,↓reduceIte,reduceCtorEq,Nat.reduceEqDiff,Nat.reduceBEq,Nat.reduceAdd,Nat.reduceLeDiff,Nat.reduceSub,Nat.reduceMul,Int.reduceToNat,List.size_toArray,tyF,MM,bu0,cbU49]
  refine split_go 6 (by decide +kernel) ?_
  simp -dsimp -implicitDefEqProofs (disch:=first | omega | (simp only [lenr];try omega)) only [↓amPre,amAll,↓reduceIte,reduceCtorEq,Nat.reduceEqDiff,Nat.reduceBEq,Nat.reduceAdd,Nat.reduceLeDiff,Nat.reduceSub,Nat.reduceMul,Int.reduceToNat,List.size_toArray,tyF,MM,bu0,cbU49]
  refine callP_of (q2) ?_
  simp -dsimp -implicitDefEqProofs (disch:=first | omega | (simp only [lenr];try omega)) only [↓amPre,amAll,↓reduceIte,reduceCtorEq,Nat.reduceEqDiff,Nat.reduceBEq,Nat.reduceAdd,Nat.reduceLeDiff,Nat.reduceSub,Nat.reduceMul,Int.reduceToNat,List.size_toArray,tyF,MM,bu0,cbU49]
  refine callP_of (q3) ?_
  simp -dsimp -implicitDefEqProofs (disch:=first | omega | (simp only [lenr];try omega)) only [↓amPre,amAll,↓reduceIte,reduceCtorEq,Nat.reduceEqDiff,Nat.reduceBEq,Nat.reduceAdd,Nat.reduceLeDiff,Nat.reduceSub,Nat.reduceMul,Int.reduceToNat,List.size_toArray,tyF,MM,bu0,cbU49]
end Wo
end Go.AM
namespace Go.AM
namespace Bf
open Ch (PN pt idL)
theorem eff_ev (n:Int) (mv:List (List Int)) (A:List Int) (u:List Nat):∀ k,k≤u.length→effK n mv (ltr A u) k=evN n.toNat mv A (idL n.toNat) (u.take k)
  | 0,_=>by rw [List.take_zero];rfl
  | k+1,h=>by
    have hg:(ltr A u).getD k 0=A.getD (u.getD k 0) 0:=by
      rw [ltr,getD_eq _ _ _ (by rw [List.length_map];omega),List.getElem_map,← getD_eq u k 0 (by omega)]
    have ht:u.take (k+1)=u.take k++[u.getD k 0]:=by rw [getD_eq u k 0 h,List.take_succ_eq_append_getElem h]
    rw [effK,eff_ev n mv A u k (by omega),hg,ht,evN_app,evN,evN]
theorem mov_nil {n:Nat} {s:List Int} (h:PN n s) (hm:movL s n=[]):s=idL n:=by
  refine ext_getD 0 (by rw [runI_len];exact h.1) fun x hx=>?_
  have hx':x<n:=by have:=h.1;omega
  rw [runI_get 0 _ x hx']
  have:¬ ((x:Int)∈movL s n):=by rw [hm];simp
  rw [mem_movL] at this
  by_cases c:s.getD x 0=(x:Int)
  · rw [c];omega
  · exact absurd ⟨x,hx',c,rfl⟩ this
def inT (T:List Int) (s:List Int):Bool:=!((movL s s.length).any fun x=>!(T.any fun y=>x == y))
theorem inT_iff {T s:List Int}:inT T s=true↔∀ x∈movL s s.length,(T.any fun y=>x == y)=true:=by
  unfold inT
  rw [Bool.not_eq_true',List.any_eq_false]
  exact ⟨fun h x hx=>by have:=h x hx;simpa using this,fun h x hx=>by rw [h x hx];simp⟩
def fdK (e:Ex) (T:List Int):Nat→Bool
  | 0=>false
  | k+1=>fdK e T k || inT T (e.S.getD (k+1) default)
theorem wsB_succ (e:Ex) (T:List Int) (k:Nat):wsB e T (k+1)=inT T (e.S.getD (k+1) default):=by
  unfold wsB inT
  have:(k+1 == 0)=false:=by simp
  rw [this];rfl
theorem wsB_zero (e:Ex) (T:List Int):wsB e T 0=false:=rfl
theorem fdK_no {e:Ex} {T:List Int}:∀ {k:Nat},fdK e T k=false↔∀ j,j≤k→wsB e T j=false
  | 0=>⟨fun _ j hj=>by rw [Nat.le_zero.1 hj];rfl,fun _=>rfl⟩
  | k+1=>by
    rw [fdK,Bool.or_eq_false_iff,fdK_no,← wsB_succ]
    refine ⟨fun h j hj=>?_,fun h=>⟨fun j hj=>h j (by omega),h _ (Nat.le_refl _)⟩⟩
    rcases Nat.lt_or_ge j (k+1) with q | q
    · exact h.1 j (by omega)
    · rw [show j=k+1 by omega];exact h.2
theorem ws_main {n:Nat} {mv:List (List Int)} {e:Ex} (f:Fin n mv (letL mv.length) e) (hD:∀ i,i<e.S.length→e.D.getD i 0≤200) (T:List Int) :
    (fdK e T (e.S.length - 1)=false∧wsR (letL mv.length) e true T=([],false)) ∨
    (fdK e T (e.S.length - 1)=true∧∃ i,0<i∧i<e.S.length∧wsR (letL mv.length) e true T=(ltr (letL mv.length) (wdE e i),true)∧inT T (e.S.getD i default)=true∧0<(movL (e.S.getD i default) n).length):=by
  have hz:=f.ok.z
  by_cases c:∃ i,i<e.S.length∧wsB e T i=true
  · obtain ⟨i,h1,h2,h3⟩:∃ i,i<e.S.length∧wsB e T i=true∧∀ j,j<i→wsB e T j=false:=by
      obtain ⟨i0,a,b⟩:=c
      obtain ⟨j,g1,g2,g3⟩:=find_first (p:=wsB e T) a b
      refine ⟨j,by have:=List.mem_of_find?_eq_some g1;exact List.mem_range.1 this,g2,fun k hk=>?_⟩
      have:=(List.find?_range_eq_some.1 g1).2.2 k hk
      simpa using this
    have hi0:0<i:=by
      rcases Nat.eq_zero_or_pos i with q | q
      · subst q;rw [wsB_zero] at h2;cases h2
      · exact q
    refine .inr ⟨?_,i,hi0,h1,by rw [wsR_at _ _ _ h1 h2 h3,if_pos (hD i h1)],?_,?_⟩
    · cases hf:fdK e T (e.S.length - 1) with
      | true=>rfl
      | false=>rw [fdK_no.1 hf i (by omega)] at h2;cases h2
    · obtain ⟨k,rfl⟩:∃ k,i=k+1:=⟨i - 1,by omega⟩
      rwa [wsB_succ] at h2
    · have hp:=f.ok.el _ (mem_getD e.S i default h1)
      rcases Nat.eq_zero_or_pos (movL (e.S.getD i default) n).length with q | q
      · have:=mov_nil hp.1 (List.length_eq_zero_iff.1 q)
        rw [← hz.2] at this
        have:=S_inj f.ok h1 hz.1 this
        omega
      · exact q
  · have hn:∀ j,j<e.S.length→wsB e T j=false:=fun j hj=>by
      cases hb:wsB e T j with
      | false=>rfl
      | true=>exact absurd ⟨j,hj,hb⟩ c
    exact .inl ⟨fdK_no.2 fun j hj=>hn j (by omega),wsR_none _ _ _ hn⟩
end Bf
end Go.AM
set_option maxRecDepth 8000
namespace Go.AM
namespace Dw
open Go.Proofs
open Dice (Dc dF dS dX bsl dbig droll rlK w9Puzzle5)
open Wo (trk trkB wsP iWordSup sReachable sR_fin)
open Ck (stN)
open Sr (sR sR_yes sR_ok sR_len)
open Bf (Ex ltr wdE inT inT_iff fdK ws_main eff_ev)
open Ch (PN cst cst_len)
abbrev ctB (T:List Int) (x:Int):Bool:=T.any fun y=>x == y
theorem w9Contains (T:List Int) (x:Int) (hl:T.length≤1099511627776):SpecAt Try.prog 70 [isl T,.i64 x] (.bl (ctB T x)):=by
  refine spec_of_awp (M:=MM) (np:=2) (fz:=true) mixed Try.func70 rfl rfl (by decide) rfl (Nat.le_refl _) (by decide +kernel) (.inr ⟨rfl,rfl⟩) trivial ?_
  simp -dsimp -implicitDefEqProofs (disch:=first | omega | (simp only [lenr];try omega)) only [↓amPre,amAll,↓reduceIte,reduceCtorEq,Nat.reduceEqDiff,Nat.reduceBEq,Nat.reduceAdd,Nat.reduceLeDiff,Nat.reduceSub,Nat.reduceMul,Int.reduceToNat,List.size_toArray,tyF,MM,bu0,cbU49]
  refine awp_loop (fun k st=>k≤T.length∧st.fr 5=.i64 k∧st.fr 0=isl T∧st.fr 1=.i64 x∧∀ y∈T.take k,(x == y)=false) (T.length) ?_ ?_
  · simp -dsimp -implicitDefEqProofs (disch:=first | omega | (simp only [lenr];try omega)) only [↓amPre,amAll,↓reduceIte,reduceCtorEq,Nat.reduceEqDiff,Nat.reduceBEq,Nat.reduceAdd,Nat.reduceLeDiff,Nat.reduceSub,Nat.reduceMul,Int.reduceToNat,List.size_toArray,tyF,MM,bu0,cbU49]
    simp
  rintro k st _ ⟨hk,f5,f0,f1,ek⟩
  by_cases hlt:k<T.length
  · have c1':(k:Int)<(T.length:Int):=by omega
    by_cases w:T.getD k 0=x
    · have:ctB T x=true:=List.any_eq_true.2 ⟨_,mem_getD T k 0 hlt,beq_iff_eq.2 w.symm⟩
      rw [this]
      simp -dsimp -implicitDefEqProofs (disch:=first | omega | (simp only [lenr];try omega)) only [↓amPre,amAll,↓reduceIte,reduceCtorEq,Nat.reduceEqDiff,Nat.reduceBEq,Nat.reduceAdd,Nat.reduceLeDiff,Nat.reduceSub,Nat.reduceMul,Int.reduceToNat,List.size_toArray,tyF,MM,bu0,cbU49,f5,f0,f1,lt_true c1',decide_eq_true w]
    · simp -dsimp -implicitDefEqProofs (disch:=first | omega | (simp only [lenr];try omega)) only [↓amPre,amAll,↓reduceIte,reduceCtorEq,Nat.reduceEqDiff,Nat.reduceBEq,Nat.reduceAdd,Nat.reduceLeDiff,Nat.reduceSub,Nat.reduceMul,Int.reduceToNat,List.size_toArray,tyF,MM,bu0,cbU49,f5,f0,f1,lt_true c1',decide_eq_false w]
      exact ⟨hlt,by omega,(mem_take_succ (d:=0) hlt).2 ⟨ek,by rw [beq_eq_false_iff_ne];exact fun q=>w q.symm⟩⟩
  · have hke:k=T.length:=by omega
    subst hke
    rw [List.take_length] at ek
    have:ctB T x=false:=List.any_eq_false.2 fun y hy=>by rw [ek y hy];simp
    rw [this]
    simp -dsimp -implicitDefEqProofs (disch:=first | omega | (simp only [lenr];try omega)) only [↓amPre,amAll,↓reduceIte,reduceCtorEq,Nat.reduceEqDiff,Nat.reduceBEq,Nat.reduceAdd,Nat.reduceLeDiff,Nat.reduceSub,Nat.reduceMul,Int.reduceToNat,List.size_toArray,tyF,MM,bu0,cbU49,f5,f0,f1]
theorem inT_all (T s:List Int):inT T s=(movL s s.length).all (ctB T):=by
  rw [Bool.eq_iff_iff,inT_iff,List.all_eq_true]
theorem supR_nil {p:Puzz} (hd:puzzOk p):supR p []=[]:=by
  rw [supR]
  split
  · have:effK p.n p.mv [] ([]:List Int).length=runI 0 p.n.toNat:=rfl
    rw [this]
    rw [List.eq_nil_iff_forall_not_mem]
    intro x hx
    obtain ⟨i,h1,h2,h3⟩:=mem_movL.1 hx
    rw [runI_get 0 _ i h1] at h2
    exact h2 (by omega)
  · rfl
theorem supR_wd {p:Puzz} (hd:puzzOk p) {e:Ex} (f:Bf.Fin p.n.toNat p.mv (letL p.mv.length) e) {i:Nat} (hi:i<e.S.length) (h2:e.D.getD i 0≤200):(ltr (letL p.mv.length) (wdE e i)).length≤200∧supR p (ltr (letL p.mv.length) (wdE e i))=movL (e.S.getD i default) p.n.toNat:=by
  obtain ⟨w1,w2⟩:=f.tm.wd_ev f.ok _ i (Nat.le_refl _) hi
  have wl:=f.tm.wd_len f.ok.z.1 _ i (Nat.le_refl _) hi
  have hll:(ltr (letL p.mv.length) (wdE e i)).length=(wdE e i).length:=by rw [ltr,List.length_map]
  have hw:wordOk p.mv.length (ltr (letL p.mv.length) (wdE e i)):=⟨by omega,fun x hx=>by
    rw [ltr,List.mem_map] at hx
    obtain ⟨j,hj,rfl⟩:=hx
    exact letL_ok hd.1.2.1 _ (mem_getD _ j 0 (w2 j hj))⟩
  refine ⟨hw.1,?_⟩
  rw [supR,if_pos ⟨hd,hw⟩,hll,eff_ev p.n p.mv (letL p.mv.length) (wdE e i) _ (Nat.le_refl _),List.take_length,w1]
theorem few {p:Puzz} (hd:puzzOk p) (h5:p.n≤5):1≤stN p∧stN p≤120:=by
  have hpn:=Ck.puzz_pn hd
  have h1:=hd.1.1
  have hP:=Ch.newL_part (n:=p.n.toNat) (by omega) (by omega) hpn
  have:=Ch.ord_fac (n:=p.n.toNat) (by omega) (by omega) _ 0 hP.good
  rw [stN,if_pos hd]
  refine ⟨this.1,Nat.le_trans this.2 ?_⟩
  obtain ⟨m,hm⟩:∃ m,p.n.toNat=m:=⟨_,rfl⟩
  rw [hm,Nat.sub_zero]
  have hm5:m≤5:=by omega
  have hf:∀ m,m≤5→Ch.facN m≤120:=by decide
  exact hf m hm5
theorem ws_law {p:Puzz} (hd:puzzOk p) (h5:p.n≤5) {T:List Int} (ht:trk p.n T=true):(wsP p T).1.length≤200∧(wsP p T).2=fdK (sR p).1 T ((sR p).1.S.length - 1)∧(∀ x∈supR p (wsP p T).1,ctB T x=true)∧(decide (0<(supR p (wsP p T).1).length))=(wsP p T).2:=by
  have hf:=few hd h5
  have hs:1≤stN p∧stN p≤3000:=by omega
  obtain ⟨_,hR⟩:=sR_yes hs
  have hF:=sR_fin hs
  have hle:=sR_len hd
  rw [wsP,hR,ht]
  dsimp only
  generalize Bf.out p.mv (letL p.mv.length) p.n.toNat 3000=e at *
  rw [Bool.true_and]
  have hD:∀ i,i<e.S.length→e.D.getD i 0≤200:=fun i hi=>by have:=hF.tm.d_le _ i (Nat.le_refl _) hi;omega
  rcases ws_main hF hD T with ⟨a,b⟩ | ⟨a,i,h1,h2,b,c,d⟩
  · rw [a,b]
    dsimp only
    rw [supR_nil hd]
    refine ⟨Nat.zero_le _,rfl,?_,rfl⟩
    intro x hx
    cases hx
  · rw [a,b]
    dsimp only
    obtain ⟨g1,g2⟩:=supR_wd hd hF h2 (hD i h2)
    have hpl:=(hF.ok.el _ (mem_getD e.S i default h2)).1.1
    rw [g2]
    refine ⟨g1,rfl,fun x hx=>?_,decide_eq_true d⟩
    exact inT_iff.1 c x (by rw [hpl];exact hx)
end Dw
end Go.AM
set_option maxRecDepth 8000
namespace Go.AM
namespace Dw
open Go.Proofs
open Dice (Dc dF dS dX bsl dbig droll rlK w9Puzzle5)
open Wo (trk trkB wsP iWordSup sReachable sR_fin)
open Ck (stN)
open Sr (sR sR_yes sR_ok sR_len)
open Bf (Ex ltr wdE inT inT_iff fdK ws_main eff_ev)
open Ch (PN cst cst_len)
def alK (T M:List Int) (j:Nat):Bool:=(M.take j).all (ctB T)
theorem alK_succ (T M:List Int) {j:Nat} (h:j<M.length):alK T M (j+1)=(alK T M j && ctB T (M.getD j 0)):=by
  rw [alK,alK,getD_eq M j 0 h,List.take_succ_eq_append_getElem h,List.all_append];simp
theorem lawSupportWords (l:List UInt8) (w:l.length≤9223372036854775807):SpecAt Try.prog 11 [bsl l] (.bl true):=by
  have qb:=dbig l
  by_cases c:(4096:Int)<l.length
  · refine spec_of_awp (M:=MM) (np:=1) (fz:=true) mixed Try.func11 rfl rfl (by decide) rfl (Nat.le_refl _) (by decide +kernel) (.inr ⟨rfl,rfl⟩) trivial ?_
    simp -dsimp -implicitDefEqProofs (disch:=first | omega | (simp only [lenr];try omega)) only [↓amPre,amAll,↓reduceIte,reduceCtorEq,Nat.reduceEqDiff,Nat.reduceBEq,Nat.reduceAdd,Nat.reduceLeDiff,Nat.reduceSub,Nat.reduceMul,Int.reduceToNat,List.size_toArray,tyF,MM,bu0,cbU49]
    refine callP_of (qb) ?_
    simp -dsimp -implicitDefEqProofs (disch:=first | omega | (simp only [lenr];try omega)) only [↓amPre,amAll,↓reduceIte,reduceCtorEq,Nat.reduceEqDiff,Nat.reduceBEq,Nat.reduceAdd,Nat.reduceLeDiff,Nat.reduceSub,Nat.reduceMul,Int.reduceToNat,List.size_toArray,tyF,MM,bu0,cbU49,decide_eq_true c]
  rw [decide_eq_false c] at qb
  have q0:=droll l 1123 (by omega)
  have k0:(⟨l,0,rlK l 1123 l.length⟩:Dc).ok:=⟨by show l.length≤4096;omega,Nat.zero_le _⟩
  generalize (⟨l,0,rlK l 1123 l.length⟩:Dc)=d0 at q0 k0
  obtain ⟨d1,p,q1,k1,hd,hsp,hp2,hp5⟩:=w9Puzzle5 d0 k0
  obtain ⟨d2,T,q2,k2,ht,hT3⟩:=w9Tracked d1 p k1 hd.1.1
  have hT:T.length≤1099511627776:=by omega
  have hf:=few hd hp5
  have hs:1≤stN p∧stN p≤3000:=by omega
  have q3:=iWordSup p T hsp hT
  have q4:=sReachable p hsp hs
  obtain ⟨a1,a2,a3,a4⟩:=ws_law hd hp5 ht
  have hok:=sR_ok hd
  have hle:=sR_len hd
  have hR:=(sR_yes hs).2
  have q5:=iWordSupport p (wsP p T).1 hsp (by omega)
  have hsl:=supR_le p (wsP p T).1
  rw [hR] at q4 a2
  dsimp only at q4 a2
  generalize Bf.out p.mv (letL p.mv.length) p.n.toNat 3000=e at *
  generalize (wsP p T).1=wd at *
  generalize (wsP p T).2=b at *
  generalize supR p wd=X at *
  have qc:=fun x=>w9Contains T x hT
  have hz:=hok.z.1
  have hgl:(e.S.map itr).length=e.S.length:=by simp
  refine spec_of_awp (M:=MM) (np:=1) (fz:=true) mixed Try.func11 rfl rfl (by decide) rfl (Nat.le_refl _) (by decide +kernel) (.inr ⟨rfl,rfl⟩) trivial ?_
  simp -dsimp -implicitDefEqProofs (disch:=first | omega | (simp only [lenr];try omega)) only [↓amPre,amAll,↓reduceIte,reduceCtorEq,Nat.reduceEqDiff,Nat.reduceBEq,Nat.reduceAdd,Nat.reduceLeDiff,Nat.reduceSub,Nat.reduceMul,Int.reduceToNat,List.size_toArray,tyF,MM,bu0,cbU49]
  refine callP_of (qb) ?_
  simp -dsimp -implicitDefEqProofs (disch:=first | omega | (simp only [lenr];try omega)) only [↓amPre,amAll,↓reduceIte,reduceCtorEq,Nat.reduceEqDiff,Nat.reduceBEq,Nat.reduceAdd,Nat.reduceLeDiff,Nat.reduceSub,Nat.reduceMul,Int.reduceToNat,List.size_toArray,tyF,MM,bu0,cbU49]
  refine callP_of (q0) ?_
  simp -dsimp -implicitDefEqProofs (disch:=first | omega | (simp only [lenr];try omega)) only [↓amPre,amAll,↓reduceIte,reduceCtorEq,Nat.reduceEqDiff,Nat.reduceBEq,Nat.reduceAdd,Nat.reduceLeDiff,Nat.reduceSub,Nat.reduceMul,Int.reduceToNat,List.size_toArray,tyF,MM,bu0,cbU49]
  refine callX_of (q1) ?_
  simp -dsimp -implicitDefEqProofs (disch:=first | omega | (simp only [lenr];try omega)) only [↓amPre,amAll,↓reduceIte,reduceCtorEq,Nat.reduceEqDiff,Nat.reduceBEq,Nat.reduceAdd,Nat.reduceLeDiff,Nat.reduceSub,Nat.reduceMul,Int.reduceToNat,List.size_toArray,tyF,MM,bu0,cbU49,ssfz]
  refine callX_of (q2) ?_
  simp -dsimp -implicitDefEqProofs (disch:=first | omega | (simp only [lenr];try omega)) only [↓amPre,amAll,↓reduceIte,reduceCtorEq,Nat.reduceEqDiff,Nat.reduceBEq,Nat.reduceAdd,Nat.reduceLeDiff,Nat.reduceSub,Nat.reduceMul,Int.reduceToNat,List.size_toArray,tyF,MM,bu0,cbU49,ssfz]
  refine callP_of (q3) ?_
  simp -dsimp -implicitDefEqProofs (disch:=first | omega | (simp only [lenr];try omega)) only [↓amPre,amAll,↓reduceIte,reduceCtorEq,Nat.reduceEqDiff,Nat.reduceBEq,Nat.reduceAdd,Nat.reduceLeDiff,Nat.reduceSub,Nat.reduceMul,Int.reduceToNat,List.size_toArray,tyF,MM,bu0,cbU49,ssfz]
  refine callP_of (q4) ?_
  simp -dsimp -implicitDefEqProofs (disch:=first | omega | (simp only [lenr];try omega)) only [↓amPre,amAll,↓reduceIte,reduceCtorEq,Nat.reduceEqDiff,Nat.reduceBEq,Nat.reduceAdd,Nat.reduceLeDiff,Nat.reduceSub,Nat.reduceMul,Int.reduceToNat,List.size_toArray,tyF,MM,bu0,cbU49,ssfz]
  refine awp_loop (fun k st=>k≤(e.S.length - 1)∧st.fr 12=.i64 (k+1:Nat)∧st.fr 11=.bl (fdK e T k)∧st.fr 8=.ref 35 [(0,0)] 1 0 e.S.length∧st.fr 5=.ref 26 [] 1 0 T.length∧st.fr 4=.loc 4 [] 0 0∧st.fr 6=.ref 30 [(0,0)] 1 0 wd.length∧st.fr 7=.bl b∧st.mem 26=some (itr T)∧st.mem 35=some (.tup [sst e.S,itr (cst e.D),.bl true])∧st.mem 4=some (.pt 3 p.tr)∧st.mem 30=some (.tup [itr wd,.bl b])) ((e.S.length - 1)) ?_ ?_
  · simp -dsimp -implicitDefEqProofs (disch:=first | omega | (simp only [lenr];try omega)) only [↓amPre,amAll,↓reduceIte,reduceCtorEq,Nat.reduceEqDiff,Nat.reduceBEq,Nat.reduceAdd,Nat.reduceLeDiff,Nat.reduceSub,Nat.reduceMul,Int.reduceToNat,List.size_toArray,tyF,MM,bu0,cbU49]
    exact ⟨Nat.zero_le _,rfl,rfl⟩
  rintro k st _ ⟨hk,f12,f11,f8,f5,f4,f6,f7,m26,m35,m4,m30⟩
  by_cases c1:k+1<e.S.length
  · have hsm:=mem_getD e.S (k+1) default c1
    have hpn:=(hok.el _ hsm).1
    have q6:=sSupport (e.S.getD (k+1) default) hpn.2
    have hst:fdK e T (k+1)=(fdK e T k || inT T (e.S.getD (k+1) default)):=rfl
    have hg:(e.S.map itr).getD (k+1) .any=itr (e.S.getD (k+1) default):=by rw [getD_eq _ _ _ (by simpa using c1),List.getElem_map,getD_eq _ _ _ c1]
    have c1':((k+1:Nat):Int)<(e.S.length:Int):=by omega
    have hMl:=movL_le (e.S.getD (k+1) default) (e.S.getD (k+1) default).length
    have hMl2:(movL (e.S.getD (k+1) default) (e.S.getD (k+1) default).length).length≤20:=by have:=hpn.1;have:=hd.1.1;omega
    rw [inT_all] at hst
    generalize movL (e.S.getD (k+1) default) (e.S.getD (k+1) default).length=M at *
    simp -dsimp -implicitDefEqProofs (disch:=first | omega | (simp only [lenr];try omega)) only [↓amPre,amAll,↓reduceIte,reduceCtorEq,Nat.reduceEqDiff,Nat.reduceBEq,Nat.reduceAdd,Nat.reduceLeDiff,Nat.reduceSub,Nat.reduceMul,Int.reduceToNat,List.size_toArray,tyF,MM,bu0,cbU49,f12,f11,f8,f5,f4,f6,f7,m26,m35,m4,m30,hgl,hg,lt_true c1']
    refine callP_of (q6) ?_
    simp -dsimp -implicitDefEqProofs (disch:=first | omega | (simp only [lenr];try omega)) only [↓amPre,amAll,↓reduceIte,reduceCtorEq,Nat.reduceEqDiff,Nat.reduceBEq,Nat.reduceAdd,Nat.reduceLeDiff,Nat.reduceSub,Nat.reduceMul,Int.reduceToNat,List.size_toArray,tyF,MM,bu0,cbU49,f12,f11,f8,f5,f4,f6,f7,m26,m35,m4,m30]
    generalize hfk:fdK e T k=fk at *
    generalize fdK e T (k+1)=fk1 at *
    refine awp_loop (fun j st=>j≤M.length∧st.fr 15=.i64 j∧st.fr 14=.ref 49 [] 1 0 M.length∧st.fr 13=.bl (alK T M j)∧st.fr 12=.i64 (k+1:Nat)∧st.fr 11=.bl fk∧st.fr 8=.ref 35 [(0,0)] 1 0 e.S.length∧st.fr 5=.ref 26 [] 1 0 T.length∧st.fr 4=.loc 4 [] 0 0∧st.fr 6=.ref 30 [(0,0)] 1 0 wd.length∧st.fr 7=.bl b∧st.mem 49=some (itr M)∧st.mem 26=some (itr T)∧st.mem 35=some (.tup [sst e.S,itr (cst e.D),.bl true])∧st.mem 4=some (.pt 3 p.tr)∧st.mem 30=some (.tup [itr wd,.bl b])) (M.length) ?_ ?_
    · simp -dsimp -implicitDefEqProofs (disch:=first | omega | (simp only [lenr];try omega)) only [↓amPre,amAll,↓reduceIte,reduceCtorEq,Nat.reduceEqDiff,Nat.reduceBEq,Nat.reduceAdd,Nat.reduceLeDiff,Nat.reduceSub,Nat.reduceMul,Int.reduceToNat,List.size_toArray,tyF,MM,bu0,cbU49,f12,f11,f8,f5,f4,f6,f7,m26,m35,m4,m30]
      exact ⟨Nat.zero_le _,rfl,rfl⟩
    rintro j st _ ⟨hj,f15,f14,f13,f12,f11,f8,f5,f4,f6,f7,m49,m26,m35,m4,m30⟩
    by_cases c2:j<M.length
    · have hal:=alK_succ T M c2
      have q7:=qc (M.getD j 0)
      have c2':(j:Int)<(M.length:Int):=by omega
      rw [hal]
      generalize ctB T (M.getD j 0)=cb at *
      cases ha:alK T M j with
      | true =>
        rw [ha] at f13
        simp -dsimp -implicitDefEqProofs (disch:=first | omega | (simp only [lenr];try omega)) only [↓amPre,amAll,↓reduceIte,reduceCtorEq,Nat.reduceEqDiff,Nat.reduceBEq,Nat.reduceAdd,Nat.reduceLeDiff,Nat.reduceSub,Nat.reduceMul,Int.reduceToNat,List.size_toArray,tyF,MM,bu0,cbU49,f15,f14,f13,f12,f11,f8,f5,f4,f6,f7,m49,m26,m35,m4,m30,lt_true c2']
        refine callP_of (q7) ?_
        simp -dsimp -implicitDefEqProofs (disch:=first | omega | (simp only [lenr];try omega)) only [↓amPre,amAll,↓reduceIte,reduceCtorEq,Nat.reduceEqDiff,Nat.reduceBEq,Nat.reduceAdd,Nat.reduceLeDiff,Nat.reduceSub,Nat.reduceMul,Int.reduceToNat,List.size_toArray,tyF,MM,bu0,cbU49,f15,f14,f13,f12,f11,f8,f5,f4,f6,f7,m49,m26,m35,m4,m30]
        exact ⟨c2,by omega⟩
      | false =>
        rw [ha] at f13
        simp -dsimp -implicitDefEqProofs (disch:=first | omega | (simp only [lenr];try omega)) only [↓amPre,amAll,↓reduceIte,reduceCtorEq,Nat.reduceEqDiff,Nat.reduceBEq,Nat.reduceAdd,Nat.reduceLeDiff,Nat.reduceSub,Nat.reduceMul,Int.reduceToNat,List.size_toArray,tyF,MM,bu0,cbU49,f15,f14,f13,f12,f11,f8,f5,f4,f6,f7,m49,m26,m35,m4,m30,lt_true c2']
        exact ⟨c2,by omega⟩
    · have hje:j=M.length:=by omega
      subst hje
      have hal:alK T M M.length=M.all (ctB T):=by rw [alK,List.take_length]
      have c2':¬ (M.length:Int)<(M.length:Int):=by omega
      rw [hal] at f13
      rw [hst]
      have hwk:IntKind.i64.wrap (((k+1:Nat):Int)+1)=((k+1+1:Nat):Int):=by rw [wrap64_id (by omega)];omega
      cases fk with
      | true =>
        simp -dsimp -implicitDefEqProofs (disch:=first | omega | (simp only [lenr];try omega)) only [↓amPre,amAll,↓reduceIte,reduceCtorEq,Nat.reduceEqDiff,Nat.reduceBEq,Nat.reduceAdd,Nat.reduceLeDiff,Nat.reduceSub,Nat.reduceMul,Int.reduceToNat,List.size_toArray,tyF,MM,bu0,cbU49,f15,f14,f13,f12,f11,f8,f5,f4,f6,f7,m49,m26,m35,m4,m30,lt_false (Int.not_lt.1 c2'),hwk]
        exact ⟨by omega,by omega⟩
      | false =>
        simp -dsimp -implicitDefEqProofs (disch:=first | omega | (simp only [lenr];try omega)) only [↓amPre,amAll,↓reduceIte,reduceCtorEq,Nat.reduceEqDiff,Nat.reduceBEq,Nat.reduceAdd,Nat.reduceLeDiff,Nat.reduceSub,Nat.reduceMul,Int.reduceToNat,List.size_toArray,tyF,MM,bu0,cbU49,f15,f14,f13,f12,f11,f8,f5,f4,f6,f7,m49,m26,m35,m4,m30,lt_false (Int.not_lt.1 c2'),hwk]
        exact ⟨by omega,by omega⟩
  · have hke:k=e.S.length - 1:=by omega
    subst hke
    have c1':¬ ((e.S.length - 1+1:Nat):Int)<(e.S.length:Int):=by omega
    rw [← a2] at f11
    simp -dsimp -implicitDefEqProofs (disch:=first | omega | (simp only [lenr];try omega)) only [↓amPre,amAll,↓reduceIte,reduceCtorEq,Nat.reduceEqDiff,Nat.reduceBEq,Nat.reduceAdd,Nat.reduceLeDiff,Nat.reduceSub,Nat.reduceMul,Int.reduceToNat,List.size_toArray,tyF,MM,bu0,cbU49,f12,f11,f8,f5,f4,f6,f7,m26,m35,m4,m30,hgl,lt_false (Int.not_lt.1 c1'),ssfz]
    refine callP_of (q5) ?_
    simp -dsimp -implicitDefEqProofs (disch:=first | omega | (simp only [lenr];try omega)) only [↓amPre,amAll,↓reduceIte,reduceCtorEq,Nat.reduceEqDiff,Nat.reduceBEq,Nat.reduceAdd,Nat.reduceLeDiff,Nat.reduceSub,Nat.reduceMul,Int.reduceToNat,List.size_toArray,tyF,MM,bu0,cbU49,f12,f11,f8,f5,f4,f6,f7,m26,m35,m4,m30]
    refine awp_loop (fun j st=>j≤X.length∧st.fr 17=.i64 j∧st.fr 16=.ref 74 [] 1 0 X.length∧st.fr 5=.ref 26 [] 1 0 T.length∧st.fr 7=.bl b∧st.mem 74=some (itr X)∧st.mem 26=some (itr T)) (X.length) ?_ ?_
    · simp -dsimp -implicitDefEqProofs (disch:=first | omega | (simp only [lenr];try omega)) only [↓amPre,amAll,↓reduceIte,reduceCtorEq,Nat.reduceEqDiff,Nat.reduceBEq,Nat.reduceAdd,Nat.reduceLeDiff,Nat.reduceSub,Nat.reduceMul,Int.reduceToNat,List.size_toArray,tyF,MM,bu0,cbU49,f12,f11,f8,f5,f4,f6,f7,m26,m35,m4,m30]
      exact ⟨Nat.zero_le _,rfl⟩
    rintro j st _ ⟨hj,f17,f16,f5,f7,m74,m26⟩
    by_cases c2:j<X.length
    · have q7:=qc (X.getD j 0)
      have c2':(j:Int)<(X.length:Int):=by omega
      rw [a3 _ (mem_getD X j 0 c2)] at q7
      simp -dsimp -implicitDefEqProofs (disch:=first | omega | (simp only [lenr];try omega)) only [↓amPre,amAll,↓reduceIte,reduceCtorEq,Nat.reduceEqDiff,Nat.reduceBEq,Nat.reduceAdd,Nat.reduceLeDiff,Nat.reduceSub,Nat.reduceMul,Int.reduceToNat,List.size_toArray,tyF,MM,bu0,cbU49,f17,f16,f5,f7,m74,m26,lt_true c2']
      refine callP_of (q7) ?_
      simp -dsimp -implicitDefEqProofs (disch:=first | omega | (simp only [lenr];try omega)) only [↓amPre,amAll,↓reduceIte,reduceCtorEq,Nat.reduceEqDiff,Nat.reduceBEq,Nat.reduceAdd,Nat.reduceLeDiff,Nat.reduceSub,Nat.reduceMul,Int.reduceToNat,List.size_toArray,tyF,MM,bu0,cbU49,f17,f16,f5,f7,m74,m26]
      exact ⟨c2,by omega⟩
    · have hje:j=X.length:=by omega
      subst hje
      have c2':¬ (X.length:Int)<(X.length:Int):=by omega
      simp -dsimp -implicitDefEqProofs (disch:=first | omega | (simp only [lenr];try omega)) only [↓amPre,amAll,↓reduceIte,reduceCtorEq,Nat.reduceEqDiff,Nat.reduceBEq,Nat.reduceAdd,Nat.reduceLeDiff,Nat.reduceSub,Nat.reduceMul,Int.reduceToNat,List.size_toArray,tyF,MM,bu0,cbU49,f17,f16,f5,f7,m74,m26,lt_false (Int.not_lt.1 c2')]
      have hb:decide ((0:Int)<(X.length:Int))=b:=by rw [← a4];exact decide_eq_decide.2 (by omega)
      rw [hb,beq_self_eq_true]
end Dw
end Go.AM
