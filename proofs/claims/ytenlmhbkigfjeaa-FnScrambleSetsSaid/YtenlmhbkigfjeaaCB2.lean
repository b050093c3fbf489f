/-
  CONTRACTS of functions of the program,and what they compute,by content.
-/
import Derived.Test.YtenlmhbkigfjeaaCB1
import Derived.Test.YtenlmhbkigfjeaaM2SD
import Derived.Test.YtenlmhbkigfjeaaCB0
set_option linter.unusedVariables false
set_option linter.unusedSimpArgs false
set_option maxRecDepth 8000
namespace Go.AM
namespace Ck
open Go.Proofs
open Ch (Lv hasL PN pt idL filL ordL prdK)
abbrev sfr (L:List (List Int)):AV:=.tr 1 (L.map fun x=>isl x)
theorem letterE (p:Puzz) (x:Int) (hp:genOk p.n p.mv) (hx:x∈letL p.mv.length):SpecAt Try.prog 235 [ssl p.mv,.i64 x] (isl (letP p.mv x)):=by
  have h8:=hp.2.1
  have:=letL_mem.1 hx
  rcases iLetter p.n p.mv x hp (by unfold letOk;omega) with h | h
  · exact h
  · exact spec_frz h rfl (itrF _)
def nbL (mv:List (List Int)) (s:List Int) (k:Nat):List (List Int):=((letL mv.length).take k).map fun l=>compI s (letP mv l)
theorem nbL_len (mv:List (List Int)) (s:List Int) {k:Nat} (h:k≤2*mv.length):(nbL mv s k).length=k:=by simp [nbL,letL_len];omega
theorem nbL_succ (mv:List (List Int)) (s:List Int) {k:Nat} (h:k<(letL mv.length).length):nbL mv s (k+1)=nbL mv s k++[compI s (letP mv ((letL mv.length).getD k 0))]:=by
  unfold nbL;rw [take_succ_eq _ _ 0 h];simp
theorem nbL_get (mv:List (List Int)) (s:List Int) {k:Nat} (h:k<(letL mv.length).length):(nbL mv s (letL mv.length).length).getD k default=compI s (letP mv ((letL mv.length).getD k 0)):=by
  unfold nbL
  rw [List.take_length,getD_eq _ _ _ (by simpa using h),List.getElem_map,getD_eq _ _ _ h]
theorem neighborsI (p:Puzz) (n:Nat) (s:List Int) (hn:p.n=n) (hp:genOk p.n p.mv) (hs:PN n s):SpecAt Try.prog 206 [p.sl,isl s] (sfr (nbL p.mv s (letL p.mv.length).length)):=by
  have h8:=hp.2.1
  have hA:=letL_len p.mv.length
  have ll:=lettersI p.mv.length h8
  have hm:∀ g∈p.mv,PN n g:=fun g hg=>⟨by have:=(hp.2.2 g hg).1;omega,(hp.2.2 g hg).2⟩
  have hn20:=hp.1
  refine spec_of_awp (M:=MM) (np:=2) (fz:=false) mixed Try.func206 rfl rfl (by decide) rfl (Nat.le_refl _) (by decide +kernel) (.inl rfl) (by first | trivial | simp only [sigsOk_nil,sigsOk_some,sigsOk_none,sig_tr,sig_pt,sig_mt,sig_agg,List.map_cons,List.map_nil,sig1_tr,sig1_pt,sig1_v,and_self,true_and,List.length_map,List.length_set]) ?_
  simp -dsimp -implicitDefEqProofs (disch:=first | omega | (simp only [lenr];try omega)) only [↓amPre,amAll,↓reduceIte,reduceCtorEq,Nat.reduceEqDiff,Nat.reduceBEq,Nat.reduceAdd,Nat.reduceLeDiff,Nat.reduceSub,Nat.reduceMul,Int.reduceToNat,List.size_toArray,tyF,MM,bu0,cbU49]
  refine callP_of (ll) ?_
  simp -dsimp -implicitDefEqProofs (disch:=first | omega | (simp only [lenr];try omega)) only [↓amPre,amAll,↓reduceIte,reduceCtorEq,Nat.reduceEqDiff,Nat.reduceBEq,Nat.reduceAdd,Nat.reduceLeDiff,Nat.reduceSub,Nat.reduceMul,Int.reduceToNat,List.size_toArray,tyF,MM,bu0,cbU49,hA]
  refine awp_loopN 5 25 1 (by simp -dsimp -implicitDefEqProofs (disch:=first | omega | (simp only [lenr];try omega)) only [↓amPre,amAll,↓reduceIte,reduceCtorEq,Nat.reduceEqDiff,Nat.reduceBEq,Nat.reduceAdd,Nat.reduceLeDiff,Nat.reduceSub,Nat.reduceMul,Int.reduceToNat,List.size_toArray,tyF,MM,bu0,cbU49]) (by decide) (fun k st=>k≤(2*p.mv.length)∧st.fr 13=.i64 k∧st.fr 12=.i64 (2*p.mv.length:Nat)∧st.fr 11=.ref 11 [] 1 0 (2*p.mv.length)∧st.fr 5=.ref 25 [] 1 0 k∧st.fr 1=isl s∧st.fr 2=.loc 2 [] 0 0∧st.mem 25=some (sfr (nbL p.mv s k))∧st.mem 11=some (itr (letL p.mv.length))∧st.mem 2=some (.pt 3 p.sl)) ((2*p.mv.length)) ?_ ?_
  · simp -dsimp -implicitDefEqProofs (disch:=first | omega | (simp only [lenr];try omega)) only [↓amPre,amAll,↓reduceIte,reduceCtorEq,Nat.reduceEqDiff,Nat.reduceBEq,Nat.reduceAdd,Nat.reduceLeDiff,Nat.reduceSub,Nat.reduceMul,Int.reduceToNat,List.size_toArray,tyF,MM,bu0,cbU49,nilAs_eq]
    exact ⟨Nat.zero_le _,rfl,rfl⟩
  rintro k st _ ⟨hk,f13,f12,f11,f5,f1,f2,m25,m11,m2⟩
  by_cases c1:k<2*p.mv.length
  · have hk:k<(letL p.mv.length).length:=by omega
    have hg:(ints (letL p.mv.length)).getD k .any=.i64 ((letL p.mv.length).getD k 0):=by rw [getD_eq _ _ _ (by simpa using hk),List.getElem_map,getD_eq _ _ _ hk]
    have hx:=mem_getD (letL p.mv.length) k 0 hk
    have hl:=(Bf.let_ok (by omega) (by omega) hm hx).1
    have q1:=letterE p _ hp hx
    have q2:=icompose s (letP p.mv ((letL p.mv.length).getD k 0)) (by have:=hs.1;omega) (fun y hy=>by have:=hs.2.2.1 y hy;have:=hs.1;have:=hl.1;omega)
    have hsu:=nbL_succ p.mv s hk
    have hln:=nbL_len p.mv s (show k≤2*p.mv.length by omega)
    have hln1:=nbL_len p.mv s (show k+1≤2*p.mv.length by omega)
    have e1:∀ X:List Int,AV.fzL (X.map AV.i64)=X.map AV.i64:=fun X=>by rw [fzL_map,ints_fz]
    generalize (letL p.mv.length).getD k 0=x at *
    simp -dsimp -implicitDefEqProofs (disch:=first | omega | (simp only [lenr];try omega)) only [↓amPre,amAll,↓reduceIte,reduceCtorEq,Nat.reduceEqDiff,Nat.reduceBEq,Nat.reduceAdd,Nat.reduceLeDiff,Nat.reduceSub,Nat.reduceMul,Int.reduceToNat,List.size_toArray,tyF,MM,bu0,cbU49,f13,f12,f11,f5,f1,f2,m25,m11,m2,hg,hA]
    refine callP_of (q1) ?_
    simp -dsimp -implicitDefEqProofs (disch:=first | omega | (simp only [lenr];try omega)) only [↓amPre,amAll,↓reduceIte,reduceCtorEq,Nat.reduceEqDiff,Nat.reduceBEq,Nat.reduceAdd,Nat.reduceLeDiff,Nat.reduceSub,Nat.reduceMul,Int.reduceToNat,List.size_toArray,tyF,MM,bu0,cbU49,f13,f12,f11,f5,f1,f2,m25,m11,m2]
    refine callP_frz q2 ?_
    simp -dsimp -implicitDefEqProofs (disch:=first | omega | (simp only [lenr];try omega)) only [↓amPre,amAll,↓reduceIte,reduceCtorEq,Nat.reduceEqDiff,Nat.reduceBEq,Nat.reduceAdd,Nat.reduceLeDiff,Nat.reduceSub,Nat.reduceMul,Int.reduceToNat,List.size_toArray,tyF,MM,bu0,cbU49,f13,f12,f11,f5,f1,f2,m25,m11,m2,itrF,e1,hln]
    refine ⟨c1,by omega,?_⟩
    rw [hsu]
  · have hk:k=2*p.mv.length:=by omega
    subst hk
    rw [← hA] at f5 m25
    have hln:=nbL_len p.mv s (Nat.le_refl (2*p.mv.length))
    simp -dsimp -implicitDefEqProofs (disch:=first | omega | (simp only [lenr];try omega)) only [↓amPre,amAll,↓reduceIte,reduceCtorEq,Nat.reduceEqDiff,Nat.reduceBEq,Nat.reduceAdd,Nat.reduceLeDiff,Nat.reduceSub,Nat.reduceMul,Int.reduceToNat,List.size_toArray,tyF,MM,bu0,cbU49,f13,f12,f11,f5,f1,f2,m25,m11,m2,hln,hA]
theorem orderX (n:Nat) (Gs:AV) (C:List Lv) (hn:C.length=n) (h1:1≤n) (h2:n≤20) (hG:Ch.Good n C 0) :
    SpecAt Try.prog 243 [.ep [.i64 n,Gs,.sl 1 (C.map rE)],.i64 0] (.i64 (ordL C)):=by
  have hC:=Ch.good_rows hG
  refine spec_of_awp (M:=MM) (np:=2) (fz:=true) mixed Try.func243 rfl rfl (by decide) rfl (Nat.le_refl _) (by decide +kernel) (.inr ⟨rfl,rfl⟩) trivial ?_
  simp -dsimp -implicitDefEqProofs (disch:=first | omega | (simp only [lenr];try omega)) only [↓amPre,amAll,↓reduceIte,reduceCtorEq,Nat.reduceEqDiff,Nat.reduceBEq,Nat.reduceAdd,Nat.reduceLeDiff,Nat.reduceSub,Nat.reduceMul,Int.reduceToNat,List.size_toArray,tyF,MM,bu0,cbU49]
  refine awp_loop (fun k st=>k≤n∧st.fr 6=.i64 k∧st.fr 0=.ep [.i64 n,Gs,.sl 1 (C.map rE)]∧st.fr 5=.i64 (prdK C k)) (n) ?_ ?_
  · simp -dsimp -implicitDefEqProofs (disch:=first | omega | (simp only [lenr];try omega)) only [↓amPre,amAll,↓reduceIte,reduceCtorEq,Nat.reduceEqDiff,Nat.reduceBEq,Nat.reduceAdd,Nat.reduceLeDiff,Nat.reduceSub,Nat.reduceMul,Int.reduceToNat,List.size_toArray,tyF,MM,bu0,cbU49]
    simp [prdK]
  rintro k st _ ⟨hk,f6,f0,f5⟩
  by_cases hlt:k<n
  · have hlC:k<C.length:=by omega
    have w1:=hC (C.getD k ⟨[],[]⟩) (mem_getD C k ⟨[],[]⟩ hlC)
    have r1:(C.map rE).getD k .any=.sl 1 ((C.getD k ⟨[],[]⟩).row.map nlv):=by
      rw [getD_eq _ _ _ (by simpa using hlC),List.getElem_map,getD_eq _ _ _ hlC]
    have q1:=orbitOfS (C.getD k ⟨[],[]⟩).row (by omega)
    have hcnt:(orbK (C.getD k ⟨[],[]⟩).row (C.getD k ⟨[],[]⟩).row.length).length=(filL (C.getD k ⟨[],[]⟩).row).length:=orbK_fil _ _
    have hp:=Ch.prd_le h1 h2 hG (k:=k+1) (by omega)
    have hpk:prdK C (k+1)=prdK C k*(filL (C.getD k ⟨[],[]⟩).row).length:=rfl
    have hle:=orbK_len (C.getD k ⟨[],[]⟩).row (C.getD k ⟨[],[]⟩).row.length
    have q2:=lenI (orbK (C.getD k ⟨[],[]⟩).row (C.getD k ⟨[],[]⟩).row.length)
    simp -dsimp -implicitDefEqProofs (disch:=first | omega | (simp only [lenr];try omega)) only [↓amPre,amAll,↓reduceIte,reduceCtorEq,Nat.reduceEqDiff,Nat.reduceBEq,Nat.reduceAdd,Nat.reduceLeDiff,Nat.reduceSub,Nat.reduceMul,Int.reduceToNat,List.size_toArray,tyF,MM,bu0,cbU49,f6,f0,f5,r1,w1]
    refine callP_of (q1) ?_
    simp -dsimp -implicitDefEqProofs (disch:=first | omega | (simp only [lenr];try omega)) only [↓amPre,amAll,↓reduceIte,reduceCtorEq,Nat.reduceEqDiff,Nat.reduceBEq,Nat.reduceAdd,Nat.reduceLeDiff,Nat.reduceSub,Nat.reduceMul,Int.reduceToNat,List.size_toArray,tyF,MM,bu0,cbU49,f6,f0,f5]
    refine callP_of (q2) ?_
    simp -dsimp -implicitDefEqProofs (disch:=first | omega | (simp only [lenr];try omega)) only [↓amPre,amAll,↓reduceIte,reduceCtorEq,Nat.reduceEqDiff,Nat.reduceBEq,Nat.reduceAdd,Nat.reduceLeDiff,Nat.reduceSub,Nat.reduceMul,Int.reduceToNat,List.size_toArray,tyF,MM,bu0,cbU49,f6,f0,f5,hcnt]
    exact ⟨by omega,by omega,i64c (by rw [hpk];simp)⟩
  · have hke:k=n:=by omega
    have e:=Ch.prd_drop C k (by omega)
    have e0:C.drop k=[]:=List.drop_of_length_le (by omega)
    rw [e0,ordL,Nat.mul_one] at e
    rw [← e]
    simp -dsimp -implicitDefEqProofs (disch:=first | omega | (simp only [lenr];try omega)) only [↓amPre,amAll,↓reduceIte,reduceCtorEq,Nat.reduceEqDiff,Nat.reduceBEq,Nat.reduceAdd,Nat.reduceLeDiff,Nat.reduceSub,Nat.reduceMul,Int.reduceToNat,List.size_toArray,tyF,MM,bu0,cbU49,f6,f0,f5,hke]
noncomputable def stN (p:Puzz):Nat:=if puzzOk p then ordL (Ch.newL p.n.toNat p.mv) else 0
theorem puzz_pn {p:Puzz} (h:puzzOk p):∀ s∈p.mv,PN p.n.toNat s:=fun s hs=>by
  have h1:=h.1.1
  have:=h.1.2.2 s hs
  exact ⟨by have:=this.1;omega,this.2⟩
theorem stateCountI (p:Puzz) (h:smallP p):SpecAt Try.prog 205 [p.sl] (.i64 (stN p)):=by
  have q0:=iPuzzle p h
  by_cases hd:puzzOk p
  case neg =>
    have hz:stN p=0:=if_neg hd
    rw [decide_eq_false hd] at q0
    rw [hz]
    refine spec_of_awp (M:=MM) (np:=1) (fz:=true) mixed Try.func205 rfl rfl (by decide) rfl (Nat.le_refl _) (by decide +kernel) (.inr ⟨rfl,rfl⟩) trivial ?_
    simp -dsimp -implicitDefEqProofs (disch:=first | omega | (simp only [lenr];try omega)) only [↓amPre,amAll,↓reduceIte,reduceCtorEq,Nat.reduceEqDiff,Nat.reduceBEq,Nat.reduceAdd,Nat.reduceLeDiff,Nat.reduceSub,Nat.reduceMul,Int.reduceToNat,List.size_toArray,tyF,MM,bu0,cbU49]
    refine callP_of (q0) ?_
    simp -dsimp -implicitDefEqProofs (disch:=first | omega | (simp only [lenr];try omega)) only [↓amPre,amAll,↓reduceIte,reduceCtorEq,Nat.reduceEqDiff,Nat.reduceBEq,Nat.reduceAdd,Nat.reduceLeDiff,Nat.reduceSub,Nat.reduceMul,Int.reduceToNat,List.size_toArray,tyF,MM,bu0,cbU49]
    try rfl
  rw [decide_eq_true hd] at q0
  have h1:=hd.1.1
  obtain ⟨N,hNN⟩:∃ N:Nat,p.n=N:=⟨p.n.toNat,by omega⟩
  have hpn:=puzz_pn hd
  have hz:stN p=ordL (Ch.newL p.n.toNat p.mv):=if_pos hd
  rw [show p.n.toNat=N by omega] at hpn hz
  have hP:=Ch.newL_part (n:=N) (by omega) (by omega) hpn
  have q1:=newChainI N p.mv (by omega) (by omega) hpn hd.1.2.1
  have q2:=orderX N (.sl 1 (((Ch.newL N p.mv).map gN).map AV.fz)) (Ch.newL N p.mv) hP.len (by omega) (by omega) hP.good
  rw [← hNN] at q1
  rw [hz]
  refine spec_of_awp (M:=MM) (np:=1) (fz:=true) mixed Try.func205 rfl rfl (by decide) rfl (Nat.le_refl _) (by decide +kernel) (.inr ⟨rfl,rfl⟩) trivial ?_
  simp -dsimp -implicitDefEqProofs (disch:=first | omega | (simp only [lenr];try omega)) only [↓amPre,amAll,↓reduceIte,reduceCtorEq,Nat.reduceEqDiff,Nat.reduceBEq,Nat.reduceAdd,Nat.reduceLeDiff,Nat.reduceSub,Nat.reduceMul,Int.reduceToNat,List.size_toArray,tyF,MM,bu0,cbU49]
  refine callP_of (q0) ?_
  simp -dsimp -implicitDefEqProofs (disch:=first | omega | (simp only [lenr];try omega)) only [↓amPre,amAll,↓reduceIte,reduceCtorEq,Nat.reduceEqDiff,Nat.reduceBEq,Nat.reduceAdd,Nat.reduceLeDiff,Nat.reduceSub,Nat.reduceMul,Int.reduceToNat,List.size_toArray,tyF,MM,bu0,cbU49]
  refine callP_of (q1) ?_
  simp -dsimp -implicitDefEqProofs (disch:=first | omega | (simp only [lenr];try omega)) only [↓amPre,amAll,↓reduceIte,reduceCtorEq,Nat.reduceEqDiff,Nat.reduceBEq,Nat.reduceAdd,Nat.reduceLeDiff,Nat.reduceSub,Nat.reduceMul,Int.reduceToNat,List.size_toArray,tyF,MM,bu0,cbU49,fzL_map,fz_rows]
  refine callP_of (q2) ?_
  simp -dsimp -implicitDefEqProofs (disch:=first | omega | (simp only [lenr];try omega)) only [↓amPre,amAll,↓reduceIte,reduceCtorEq,Nat.reduceEqDiff,Nat.reduceBEq,Nat.reduceAdd,Nat.reduceLeDiff,Nat.reduceSub,Nat.reduceMul,Int.reduceToNat,List.size_toArray,tyF,MM,bu0,cbU49]
  try rfl
end Ck
end Go.AM
namespace Go.AM
namespace Bf
open Ch (PN pt idL Gen newL ordL cst cst_app cst_len)
/-! the map from a state's key to its place -/
open Classical in
noncomputable def idxF (v:Value):List (List Int)→Nat→Option Value
  | [],_=>none
  | s :: S,i=>if v=.string (skey s) then some (.int .i64 i) else idxF v S (i+1)
noncomputable def idxM (S:List (List Int)):Value→Option Value:=fun v=>idxF v S 0
theorem idxF_at:∀ {S:List (List Int)} {s:List Int} (i:Nat),(∀ t∈S,smallE t)→smallE s→idxF (.string (skey s)) S i=if s∈S then some (.int .i64 ((i+S.idxOf s:Nat))) else none
  | [],s,i,_,_=>by simp [idxF]
  | t :: S,s,i,hS,hs=>by
    rw [idxF]
    by_cases h:s=t
    · subst h;simp
    · have hne:¬ (Value.string (skey s)=.string (skey t)):=fun q=>by
        injection q with q
        exact h (skey_inj hs (hS t (by simp)) q)
      rw [if_neg hne,idxF_at (i+1) (fun u hu=>hS u (by simp [hu])) hs]
      have:s∈t :: S↔s∈S:=by simp [h]
      by_cases hm:s∈S
      · rw [if_pos hm,if_pos (this.2 hm),List.idxOf_cons]
        have:(t == s)=false:=by simp;exact fun e=>h e.symm
        rw [this];simp;omega
      · rw [if_neg hm,if_neg (fun q=>hm (this.1 q))]
theorem idxM_at {S:List (List Int)} {s:List Int} (hS:∀ t∈S,smallE t) (hs:smallE s):idxM S (.string (skey s))=if s∈S then some (.int .i64 ((S.idxOf s:Nat))) else none:=by
  unfold idxM
  rw [idxF_at 0 hS hs,Nat.zero_add]
open Classical in
theorem idxF_app (v:Value) (s:List Int):∀ (S:List (List Int)) (i:Nat),idxF v (S++[s]) i=match idxF v S i with | some x=>some x | none=>if v=.string (skey s) then some (.int .i64 ((i+S.length:Nat))) else none
  | [],i=>by
    show (if v=.string (skey s) then some (Value.int .i64 i) else none)=_
    simp [idxF]
  | t :: S,i=>by
    rw [List.cons_append,idxF,idxF]
    by_cases h:v=.string (skey t)
    · rw [if_pos h,if_pos h]
    · rw [if_neg h,if_neg h,idxF_app v s S (i+1)]
      rw [List.length_cons,show i+1+S.length=i+(S.length+1) by omega]
theorem idxM_upd {S:List (List Int)} {s:List Int} (hS:∀ t∈S,smallE t) (hs:smallE s) (hn:s∉S):updM (idxM S) (.string (skey s)) (.int .i64 S.length)=idxM (S++[s]):=by
  funext v
  unfold updM
  by_cases h:v=.string (skey s)
  · rw [if_pos h,h,idxM_at (fun t ht=>by
      rcases List.mem_append.1 ht with q | q
      · exact hS t q
      · rw [List.mem_singleton.1 q];exact hs) hs,if_pos (by simp),List.idxOf_append,if_neg hn]
    simp
  · rw [if_neg h]
    unfold idxM
    rw [idxF_app]
    cases idxF v S 0 with
    | some x=>rfl
    | none=>rw [if_neg h]
/-! the neighbours' places -/
def nxR (mv:List (List Int)) (A:List Int) (k:Nat) (e:Ex):Nat→List Nat
  | 0=>[]
  | j+1=>nxR mv A k e j++[(inn mv A k e (j+1)).S.idxOf (nbr mv e k (A.getD j 0))]
def nxO (mv:List (List Int)) (A:List Int) (n:Nat):Nat→List (List Nat)
  | 0=>[]
  | k+1=>if k<(out mv A n k).S.length then nxO mv A n k++[nxR mv A k (out mv A n k) A.length] else nxO mv A n k
theorem nxR_len (mv:List (List Int)) (A:List Int) (k:Nat) (e:Ex):∀ j,(nxR mv A k e j).length=j
  | 0=>rfl
  | j+1=>by rw [nxR,List.length_append,nxR_len];rfl
theorem nxO_stay {mv:List (List Int)} {A:List Int} {n k:Nat} (h:(out mv A n k).S.length≤k):∀ d,nxO mv A n (k+d)=nxO mv A n k
  | 0=>rfl
  | d+1=>by rw [← Nat.add_assoc,nxO,out_stay h d,nxO_stay h d,if_neg (by omega)]
theorem nxO_lt {mv:List (List Int)} {A:List Int} {n:Nat}:∀ {k},k≤(out mv A n k).S.length→(nxO mv A n k).length=k
  | 0,_=>rfl
  | k+1,h=>by
    by_cases c:k<(out mv A n k).S.length
    · rw [nxO,if_pos c,List.length_append,nxO_lt (by omega)];rfl
    · rw [out,if_neg c] at h;omega
def byL (A:List Int) (J:List Nat):List Int:=match J with | []=>[] | _ :: r=>0 :: r.map fun j=>A.getD j 0
theorem byL_app (A:List Int) {J:List Nat} (h:0<J.length) (j:Nat):byL A (J++[j])=byL A J++[A.getD j 0]:=by
  cases J with
  | nil=>simp at h
  | cons a r=>simp [byL]
theorem byL_len (A:List Int) (J:List Nat):(byL A J).length=J.length:=by cases J <;> simp [byL]
theorem stp_dle {mv:List (List Int)} {A:List Int} {k:Nat} {e:Ex} (h:∀ i,i<e.D.length→e.D.getD i 0≤i) (hk:k<e.D.length) (j:Nat):∀ i,i<(stp mv A k e j).D.length→(stp mv A k e j).D.getD i 0≤i:=by
  unfold stp;split
  · exact h
  · intro i hi
    rw [List.length_append,List.length_singleton] at hi
    by_cases c:i<e.D.length
    · rw [getD_app_l _ _ _ _ c];exact h i c
    · have:i=e.D.length:=by omega
      subst this
      have q:=getD_app_r e.D [e.D.getD k 0+1] 0 0
      have:=h k hk
      refine Nat.le_trans (Nat.le_of_eq q) ?_
      show e.D.getD k 0+1≤_
      omega
theorem stp_dlen (mv:List (List Int)) (A:List Int) (k:Nat) (e:Ex) (j:Nat):e.D.length≤(stp mv A k e j).D.length:=by
  unfold stp;split
  · exact Nat.le_refl _
  · simp
theorem inn_dle {mv:List (List Int)} {A:List Int} {k:Nat} {e:Ex} (h:∀ i,i<e.D.length→e.D.getD i 0≤i) (hk:k<e.D.length):∀ j i,i<(inn mv A k e j).D.length→(inn mv A k e j).D.getD i 0≤i:=by
  intro j
  have key:∀ j,(∀ i,i<(inn mv A k e j).D.length→(inn mv A k e j).D.getD i 0≤i)∧k<(inn mv A k e j).D.length:=by
    intro j
    induction j with
    | zero=>exact ⟨h,hk⟩
    | succ j ih=>exact ⟨stp_dle ih.1 ih.2 j,Nat.lt_of_lt_of_le ih.2 (stp_dlen ..)⟩
  exact (key j).1
theorem out_dl (mv:List (List Int)) (A:List Int) (n:Nat):∀ k,(out mv A n k).D.length=(out mv A n k).S.length:=by
  have st:∀ (k:Nat) (e:Ex) (j:Nat),e.D.length=e.S.length→(stp mv A k e j).D.length=(stp mv A k e j).S.length:=fun k e j h=>by
    unfold stp;split
    · exact h
    · simp [h]
  have iN:∀ (k:Nat) (e:Ex),e.D.length=e.S.length→∀ j,(inn mv A k e j).D.length=(inn mv A k e j).S.length:=fun k e h j=>by
    induction j with
    | zero=>exact h
    | succ j ih=>exact st _ _ _ ih
  intro k
  induction k with
  | zero=>rfl
  | succ k ih =>
    rw [out];split
    · exact iN _ _ ih _
    · exact ih
theorem out_dle (mv:List (List Int)) (A:List Int) (n:Nat):∀ k i,i<(out mv A n k).D.length→(out mv A n k).D.getD i 0≤i
  | 0,i,hi=>by
    simp [out] at hi
    subst hi;simp [out]
  | k+1,i,hi=>by
    rw [out] at hi ⊢
    by_cases c:k<(out mv A n k).S.length
    · rw [if_pos c] at hi ⊢
      exact inn_dle (out_dle mv A n k) (by rw [out_dl];exact c) _ i hi
    · rw [if_neg c] at hi ⊢
      exact out_dle mv A n k i hi
theorem PN.small {n:Nat} (h2:n≤20) {s:List Int} (h:PN n s):smallE s:=fun x hx=>by
  have:=h.2.2.1 x hx
  have:=h.1
  omega
end Bf
end Go.AM
set_option maxRecDepth 8000
namespace Go.AM
namespace Sr
open Go.Proofs
open Ch (PN pt idL cst cst_app cst_len)
open Bf (lexLt slotC insS SrtOk)
open Ck (sfr)
def MM:FuncId→List Bool:=fun f=>if f=247 then [true,false,false] else []
theorem listPrec (a b:List Int) (h:a.length=b.length) (hl:a.length≤1099511627776):SpecAt Try.prog 276 [isl a,isl b] (.bl (lexLt a b)):=by
  refine spec_of_awp (M:=MM) (np:=2) (fz:=true) mixed Try.func276 rfl rfl (by decide) rfl (Nat.le_refl _) (by decide +kernel) (.inr ⟨rfl,rfl⟩) trivial ?_
  simp -dsimp -implicitDefEqProofs (disch:=first | omega | (simp only [lenr];try omega)) only [↓amPre,amAll,↓reduceIte,reduceCtorEq,Nat.reduceEqDiff,Nat.reduceBEq,Nat.reduceAdd,Nat.reduceLeDiff,Nat.reduceSub,Nat.reduceMul,Int.reduceToNat,List.size_toArray,tyF,MM,bu0,cbU49]
  refine awp_loop (fun k st=>k≤a.length∧st.fr 5=.i64 k∧st.fr 0=isl a∧st.fr 1=isl b∧a.take k=b.take k) (a.length) ?_ ?_
  · simp -dsimp -implicitDefEqProofs (disch:=first | omega | (simp only [lenr];try omega)) only [↓amPre,amAll,↓reduceIte,reduceCtorEq,Nat.reduceEqDiff,Nat.reduceBEq,Nat.reduceAdd,Nat.reduceLeDiff,Nat.reduceSub,Nat.reduceMul,Int.reduceToNat,List.size_toArray,tyF,MM,bu0,cbU49]
    repeat' (first | omega | rfl | exact i64c (by omega) | exact vic (by omega) | apply And.intro)
  rintro k st _ ⟨hk,f5,f0,f1,ek⟩
  by_cases hlt:k<a.length
  · by_cases hne:a.getD k 0=b.getD k 0
    · simp -dsimp -implicitDefEqProofs (disch:=first | omega | (simp only [lenr];try omega)) only [↓amPre,amAll,↓reduceIte,reduceCtorEq,Nat.reduceEqDiff,Nat.reduceBEq,Nat.reduceAdd,Nat.reduceLeDiff,Nat.reduceSub,Nat.reduceMul,Int.reduceToNat,List.size_toArray,tyF,MM,bu0,cbU49,f5,f0,f1,hne]
      exact ⟨hlt,by omega,(take_eq_iff 0 k hlt (by omega)).2 ⟨ek,hne⟩⟩
    · have e:=Bf.lex_at h ek hlt hne
      simp -dsimp -implicitDefEqProofs (disch:=first | omega | (simp only [lenr];try omega)) only [↓amPre,amAll,↓reduceIte,reduceCtorEq,Nat.reduceEqDiff,Nat.reduceBEq,Nat.reduceAdd,Nat.reduceLeDiff,Nat.reduceSub,Nat.reduceMul,Int.reduceToNat,List.size_toArray,tyF,MM,bu0,cbU49,f5,f0,f1,hne]
      rw [e]
  · have hke:k=a.length:=by omega
    have e:a=b:=by
      rw [hke,List.take_length,h,List.take_length] at ek;exact ek
    have e2:=Bf.lex_irr a
    subst e
    simp -dsimp -implicitDefEqProofs (disch:=first | omega | (simp only [lenr];try omega)) only [↓amPre,amAll,↓reduceIte,reduceCtorEq,Nat.reduceEqDiff,Nat.reduceBEq,Nat.reduceAdd,Nat.reduceLeDiff,Nat.reduceSub,Nat.reduceMul,Int.reduceToNat,List.size_toArray,tyF,MM,bu0,cbU49,f5,f0,f1,e2]
abbrev fS (S:List (List Int)) (D:List Int) (Z:List Nat) (w:Bool):AV:=.agg [ssl S,isl D,isl (cst Z),.bl w]
abbrev fT (S:List (List Int)) (D:List Int) (Z:List Nat) (w:Bool):AV:=.agg [sfr S,itr D,itr (cst Z),.bl w]
theorem searchSlot (n:Nat) (S:List (List Int)) (D:List Int) (Z:List Nat) (w:Bool) (s:List Int) (hZ:SrtOk n S Z) (hn:n≤20) (hs:s.length=n) (hl:S.length≤3000) :
    SpecAt Try.prog 262 [fS S D Z w,isl s] (.i64 (slotC S Z s)):=by
  have hsl:=Bf.slot_le S Z s
  have hzl:=hZ.len
  refine spec_of_awp (M:=MM) (np:=2) (fz:=true) mixed Try.func262 rfl rfl (by decide) rfl (Nat.le_refl _) (by decide +kernel) (.inr ⟨rfl,rfl⟩) trivial ?_
  simp -dsimp -implicitDefEqProofs (disch:=first | omega | (simp only [lenr];try omega)) only [↓amPre,amAll,↓reduceIte,reduceCtorEq,Nat.reduceEqDiff,Nat.reduceBEq,Nat.reduceAdd,Nat.reduceLeDiff,Nat.reduceSub,Nat.reduceMul,Int.reduceToNat,List.size_toArray,tyF,MM,bu0,cbU49]
  refine awp_loop (fun k st=>k≤Z.length∧st.fr 2=.loc 2 [] 0 0∧st.fr 1=isl s∧st.mem 2=some (.pt 4 (fS S D Z w))∧(∃ lo hi:Nat,st.fr 5=.i64 lo∧st.fr 6=.i64 hi∧lo≤slotC S Z s∧slotC S Z s≤hi∧hi≤Z.length∧hi+k≤lo+Z.length)) (Z.length) ?_ ?_
  · simp -dsimp -implicitDefEqProofs (disch:=first | omega | (simp only [lenr];try omega)) only [↓amPre,amAll,↓reduceIte,reduceCtorEq,Nat.reduceEqDiff,Nat.reduceBEq,Nat.reduceAdd,Nat.reduceLeDiff,Nat.reduceSub,Nat.reduceMul,Int.reduceToNat,List.size_toArray,tyF,MM,bu0,cbU49,cst_len]
    exact ⟨Nat.zero_le _,0,Z.length,rfl,rfl,Nat.zero_le _,hsl,Nat.le_refl _,by omega⟩
  rintro k st _ ⟨hk,f2,f1,m2,ek⟩
  obtain ⟨lo,hi,f5,f6,h1,h2,h3,h4⟩:=ek
  by_cases c1:lo<hi
  · obtain ⟨mid,hmid⟩:∃ mid:Nat,mid=(lo+hi) / 2:=⟨_,rfl⟩
    have hm1:lo≤mid∧mid<hi:=by omega
    have hmz:mid<Z.length:=by omega
    have hmS:Z.getD mid 0<S.length:=(hZ.mem _).1 (mem_getD Z mid 0 hmz)
    have hsi:=Bf.slot_iff hZ s hmz
    have hgZ:((cst Z).map AV.i64).getD mid .any=.i64 (Z.getD mid 0:Nat):=by rw [getD_eq _ _ _ (by rw [List.length_map,cst_len];exact hmz),List.getElem_map,← getD_eq _ _ 0,Ch.cst_get hmz]
    have hgm:=hZ.ll _ (mem_getD S _ default hmS)
    have q:=listPrec (S.getD (Z.getD mid 0) default) s (by rw [hgm,hs]) (by omega)
    have hwm:IntKind.i64.wrap (((lo:Int)+hi).tdiv 2)=(mid:Int):=by
      have e:((lo:Int)+hi).tdiv 2=(mid:Int):=by rw [hmid];exact (Int.ofNat_tdiv (lo+hi) 2).symm
      rw [e,wrap64_id (by omega)]
    have hlZ:(cst Z).length=Z.length:=cst_len Z
    cases hb:lexLt (S.getD (Z.getD mid 0) default) s with
    | true =>
      rw [hb] at q
      have hlt:=hsi.1 hb
      simp -dsimp -implicitDefEqProofs (disch:=first | omega | (simp only [lenr];try omega)) only [↓amPre,amAll,↓reduceIte,reduceCtorEq,Nat.reduceEqDiff,Nat.reduceBEq,Nat.reduceAdd,Nat.reduceLeDiff,Nat.reduceSub,Nat.reduceMul,Int.reduceToNat,List.size_toArray,tyF,MM,bu0,cbU49,f2,f1,m2,f5,f6,c1,hwm,hlZ,hgZ]
      refine callP_of (q) ?_
      simp -dsimp -implicitDefEqProofs (disch:=first | omega | (simp only [lenr];try omega)) only [↓amPre,amAll,↓reduceIte,reduceCtorEq,Nat.reduceEqDiff,Nat.reduceBEq,Nat.reduceAdd,Nat.reduceLeDiff,Nat.reduceSub,Nat.reduceMul,Int.reduceToNat,List.size_toArray,tyF,MM,bu0,cbU49,f2,f1,m2,f5,f6]
      exact ⟨by omega,by omega,mid+1,hi,i64c (by simp),rfl,by omega,h2,h3,by omega⟩
    | false =>
      rw [hb] at q
      have hge:slotC S Z s≤mid:=by
        rcases Nat.lt_or_ge mid (slotC S Z s) with c | c
        · rw [hsi.2 c] at hb;cases hb
        · exact c
      simp -dsimp -implicitDefEqProofs (disch:=first | omega | (simp only [lenr];try omega)) only [↓amPre,amAll,↓reduceIte,reduceCtorEq,Nat.reduceEqDiff,Nat.reduceBEq,Nat.reduceAdd,Nat.reduceLeDiff,Nat.reduceSub,Nat.reduceMul,Int.reduceToNat,List.size_toArray,tyF,MM,bu0,cbU49,f2,f1,m2,f5,f6,c1,hwm,hlZ,hgZ]
      refine callP_of (q) ?_
      simp -dsimp -implicitDefEqProofs (disch:=first | omega | (simp only [lenr];try omega)) only [↓amPre,amAll,↓reduceIte,reduceCtorEq,Nat.reduceEqDiff,Nat.reduceBEq,Nat.reduceAdd,Nat.reduceLeDiff,Nat.reduceSub,Nat.reduceMul,Int.reduceToNat,List.size_toArray,tyF,MM,bu0,cbU49,f2,f1,m2,f5,f6]
      exact ⟨by omega,by omega,lo,mid,rfl,rfl,h1,hge,by omega,by omega⟩
  · have:lo=slotC S Z s:=by omega
    have c2:¬ ((lo:Int)<hi):=by omega
    simp -dsimp -implicitDefEqProofs (disch:=first | omega | (simp only [lenr];try omega)) only [↓amPre,amAll,↓reduceIte,reduceCtorEq,Nat.reduceEqDiff,Nat.reduceBEq,Nat.reduceAdd,Nat.reduceLeDiff,Nat.reduceSub,Nat.reduceMul,Int.reduceToNat,List.size_toArray,tyF,MM,bu0,cbU49,f2,f1,m2,f5,f6,c2]
    rw [this]
theorem searchIndex (n:Nat) (S:List (List Int)) (D:List Int) (Z:List Nat) (w:Bool) (s:List Int) (hZ:SrtOk n S Z) (hd:S.Nodup) (hn:n≤20) (hs:s.length=n) (hl:S.length≤3000) :
    SpecAt Try.prog 250 [fS S D Z w,isl s] (.i64 (ixK S s)):=by
  have hsl:=Bf.slot_le S Z s
  have hzl:=hZ.len
  have hlZ:(cst Z).length=Z.length:=cst_len Z
  have q:=searchSlot n S D Z w s hZ hn hs hl
  have hix:=Bf.slot_ix hZ hd s
  refine spec_of_awp (M:=MM) (np:=2) (fz:=true) mixed Try.func250 rfl rfl (by decide) rfl (Nat.le_refl _) (by decide +kernel) (.inr ⟨rfl,rfl⟩) trivial ?_
  simp -dsimp -implicitDefEqProofs (disch:=first | omega | (simp only [lenr];try omega)) only [↓amPre,amAll,↓reduceIte,reduceCtorEq,Nat.reduceEqDiff,Nat.reduceBEq,Nat.reduceAdd,Nat.reduceLeDiff,Nat.reduceSub,Nat.reduceMul,Int.reduceToNat,List.size_toArray,tyF,MM,bu0,cbU49]
  refine callP_of (q) ?_
  by_cases c1:slotC S Z s<Z.length
  · have hgZ:((cst Z).map AV.i64).getD (slotC S Z s) .any=.i64 (Z.getD (slotC S Z s) 0:Nat):=by rw [getD_eq _ _ _ (by rw [List.length_map,cst_len];exact c1),List.getElem_map,← getD_eq _ _ 0,Ch.cst_get c1]
    have hmS:Z.getD (slotC S Z s) 0<S.length:=(hZ.mem _).1 (mem_getD Z _ 0 c1)
    have hgm:=hZ.ll _ (mem_getD S _ default hmS)
    have q2:=sEqualInts (S.getD (Z.getD (slotC S Z s) 0) default) s (by omega)
    by_cases c2:S.getD (Z.getD (slotC S Z s) 0) default=s
    · rw [if_pos ⟨c1,c2⟩] at hix
      rw [decide_eq_true c2] at q2
      rw [hix]
      generalize slotC S Z s=m at *
      simp -dsimp -implicitDefEqProofs (disch:=first | omega | (simp only [lenr];try omega)) only [↓amPre,amAll,↓reduceIte,reduceCtorEq,Nat.reduceEqDiff,Nat.reduceBEq,Nat.reduceAdd,Nat.reduceLeDiff,Nat.reduceSub,Nat.reduceMul,Int.reduceToNat,List.size_toArray,tyF,MM,bu0,cbU49,hlZ,c1,hgZ]
      refine callP_of (q2) ?_
      simp -dsimp -implicitDefEqProofs (disch:=first | omega | (simp only [lenr];try omega)) only [↓amPre,amAll,↓reduceIte,reduceCtorEq,Nat.reduceEqDiff,Nat.reduceBEq,Nat.reduceAdd,Nat.reduceLeDiff,Nat.reduceSub,Nat.reduceMul,Int.reduceToNat,List.size_toArray,tyF,MM,bu0,cbU49,hlZ,c1,hgZ]
    · rw [if_neg (fun h=>c2 h.2)] at hix
      rw [decide_eq_false c2] at q2
      rw [hix]
      generalize slotC S Z s=m at *
      simp -dsimp -implicitDefEqProofs (disch:=first | omega | (simp only [lenr];try omega)) only [↓amPre,amAll,↓reduceIte,reduceCtorEq,Nat.reduceEqDiff,Nat.reduceBEq,Nat.reduceAdd,Nat.reduceLeDiff,Nat.reduceSub,Nat.reduceMul,Int.reduceToNat,List.size_toArray,tyF,MM,bu0,cbU49,hlZ,c1,hgZ]
      refine callP_of (q2) ?_
      simp -dsimp -implicitDefEqProofs (disch:=first | omega | (simp only [lenr];try omega)) only [↓amPre,amAll,↓reduceIte,reduceCtorEq,Nat.reduceEqDiff,Nat.reduceBEq,Nat.reduceAdd,Nat.reduceLeDiff,Nat.reduceSub,Nat.reduceMul,Int.reduceToNat,List.size_toArray,tyF,MM,bu0,cbU49,hlZ,c1,hgZ]
  · rw [if_neg (fun h=>c1 h.1)] at hix
    rw [hix]
    generalize slotC S Z s=m at *
    simp -dsimp -implicitDefEqProofs (disch:=first | omega | (simp only [lenr];try omega)) only [↓amPre,amAll,↓reduceIte,reduceCtorEq,Nat.reduceEqDiff,Nat.reduceBEq,Nat.reduceAdd,Nat.reduceLeDiff,Nat.reduceSub,Nat.reduceMul,Int.reduceToNat,List.size_toArray,tyF,MM,bu0,cbU49,hlZ,c1]
theorem copy_ins (S:List (List Int)) (Z:List Nat) (s:List Int) {m:Nat} (hm:m=slotC S Z s) (hle:m≤Z.length) :
    (((cst Z++[0]).take (m+1)).map AV.i64++(((cst Z++[0]).drop m).take (Z.length+1 - (m+1))).map AV.i64++((cst Z++[0]).drop (m+1+min (Z.length+1 - (m+1)) ((cst Z++[0]).drop m).length)).map AV.i64).set m (.i64 S.length)=(cst (insS S Z s)).map AV.i64:=by
  have hl:(cst Z++[(0:Int)]).length=Z.length+1:=by simp [cst_len]
  have e1:(cst Z++[(0:Int)]).drop (m+1+min (Z.length+1 - (m+1)) ((cst Z++[(0:Int)]).drop m).length)=[]:=by
    apply List.drop_eq_nil_of_le
    rw [List.length_drop,hl];omega
  have e2:((cst Z++[(0:Int)]).drop m).take (Z.length+1 - (m+1))=cst (Z.drop m):=by
    rw [List.drop_append_of_le_length (by rw [cst_len];exact hle),List.take_append_of_le_length (by rw [List.length_drop,cst_len];omega),Ch.cst_drop,List.take_of_length_le (by rw [cst_len,List.length_drop];omega)]
  have e3:(cst Z++[(0:Int)]).take (m+1)=cst (Z.take m)++[(cst Z++[(0:Int)]).getD m 0]:=by
    rw [take_succ_eq _ m 0 (by rw [hl];omega),List.take_append_of_le_length (by rw [cst_len];exact hle)]
    congr 1
    simp [cst,List.map_take]
  rw [e1,e2,e3,insS,← hm,cst_app]
  have hlt:(List.map AV.i64 (cst (Z.take m))).length=m:=by rw [List.length_map,cst_len,List.length_take];omega
  simp only [List.map_append,List.map_cons,List.map_nil,List.append_nil,List.append_assoc,List.cons_append,List.nil_append]
  rw [List.set_append_right _ _ (by omega),hlt,Nat.sub_self,List.set_cons_zero]
  rfl
theorem searchAdd (n:Nat) (S:List (List Int)) (D:List Int) (Z:List Nat) (w:Bool) (s:List Int) (x:Int) (hZ:SrtOk n S Z) (hn:n≤20) (hs:s.length=n) (hl:S.length≤3000) (hD:D.length=S.length) :
    SpecX Try.prog 247 [fT S D Z w,isl s,.i64 x] [] (fT (S++[s]) (D++[x]) (insS S Z s) w):=by
  have hsl:=Bf.slot_le S Z s
  have hzl:=hZ.len
  have hlZ:(cst Z).length=Z.length:=cst_len Z
  have q:=searchSlot n S D Z w s hZ hn hs hl
  have hfz:∀ L:List (List Int),AV.fzL (L.map fun x=>isl x)=L.map fun x=>isl x:=fun L=>by rw [fzL_map,islfz]
  obtain ⟨m,hm⟩:∃ m,m=slotC S Z s:=⟨_,rfl⟩
  rw [← hm] at q hsl
  refine spec_of_awp_any (M:=MM) (np:=3) (X:=[3]) (fz:=false) mixed Try.func247 rfl rfl (by decide) rfl (Nat.le_refl _) (by decide +kernel) (.inl rfl) (by first | trivial | simp only [sigsOk_nil,sigsOk_some,sigsOk_none,sig_tr,sig_pt,sig_mt,sig_agg,List.map_cons,List.map_nil,sig1_tr,sig1_pt,sig1_v,and_self,true_and,List.length_map,List.length_set]) ?_
  simp -dsimp -implicitDefEqProofs (disch:=first | omega | (simp only [lenr];try omega)) only [↓amPre,amAll,↓reduceIte,reduceCtorEq,Nat.reduceEqDiff,Nat.reduceBEq,Nat.reduceAdd,Nat.reduceLeDiff,Nat.reduceSub,Nat.reduceMul,Int.reduceToNat,List.size_toArray,tyF,MM,bu0,cbU49,islfz,ints_fz]
  refine callP_of (q) ?_
  simp -dsimp -implicitDefEqProofs (disch:=first | omega | (simp only [lenr];try omega)) only [↓amPre,amAll,↓reduceIte,reduceCtorEq,Nat.reduceEqDiff,Nat.reduceBEq,Nat.reduceAdd,Nat.reduceLeDiff,Nat.reduceSub,Nat.reduceMul,Int.reduceToNat,List.size_toArray,tyF,MM,bu0,cbU49,hlZ]
  refine split_go 9 (by decide +kernel) ?_
  have hbe:∀ l:List Int,AV.bearsL (l.map AV.i64)=false:=Ck.bears_ints
  simp -dsimp -implicitDefEqProofs (disch:=first | omega | (simp only [lenr];try omega)) only [↓amPre,amAll,↓reduceIte,reduceCtorEq,Nat.reduceEqDiff,Nat.reduceBEq,Nat.reduceAdd,Nat.reduceLeDiff,Nat.reduceSub,Nat.reduceMul,Int.reduceToNat,List.size_toArray,tyF,MM,bu0,cbU49,hlZ,hbe]
  exact copy_ins S Z s hm hsl
end Sr
end Go.AM
namespace Go.AM
namespace Bf
open Ch (PN pt idL)
def lsN (S:List (List Int)) (k:Nat):Int:=((movL (S.getD k default) (S.getD k default).length).length:Int)
def lsK (S:List (List Int)):Nat→Int
  | 0=>-1
  | k+1=>if lsK S k<0∨lsN S (k+1)<lsK S k then lsN S (k+1) else lsK S k
theorem movL_len (p:List Int) (k:Nat):(movL p k).length≤k:=by
  unfold movL
  rw [List.length_map]
  have:=List.length_filter_le (fun i=>p.getD i 0 != (i:Int)) (List.range k)
  simpa using this
end Bf
end Go.AM
set_option maxRecDepth 8000
namespace Go.AM
namespace Sr
open Go.Proofs
open Ch (PN pt idL cst cst_app cst_len)
open Bf (Ex inn stp nbr insS SrtOk srtS innF outF)
open Ck (sfr)
abbrev zS:AV:=.agg [.nilsl,.nilsl,.nilsl,.bl false]
abbrev fE (e:Ex) (w:Bool):AV:=fT e.S (cst e.D) (srtS e.S) w
theorem searchSlot0 (s:List Int):SpecAt Try.prog 262 [zS,isl s] (.i64 0):=by
  refine spec_of_awp (M:=MM) (np:=2) (fz:=true) mixed Try.func262 rfl rfl (by decide) rfl (Nat.le_refl _) (by decide +kernel) (.inr ⟨rfl,rfl⟩) trivial ?_
  simp -dsimp -implicitDefEqProofs (disch:=first | omega | (simp only [lenr];try omega)) only [↓amPre,amAll,↓reduceIte,reduceCtorEq,Nat.reduceEqDiff,Nat.reduceBEq,Nat.reduceAdd,Nat.reduceLeDiff,Nat.reduceSub,Nat.reduceMul,Int.reduceToNat,List.size_toArray,tyF,MM,bu0,cbU49]
  refine awp_loop (fun k st=>k≤0∧st.fr 2=.loc 2 [] 0 0∧st.fr 1=isl s∧st.fr 5=.i64 0∧st.fr 6=.i64 0∧st.mem 2=some (.pt 4 zS)) (0) ?_ ?_
  · simp -dsimp -implicitDefEqProofs (disch:=first | omega | (simp only [lenr];try omega)) only [↓amPre,amAll,↓reduceIte,reduceCtorEq,Nat.reduceEqDiff,Nat.reduceBEq,Nat.reduceAdd,Nat.reduceLeDiff,Nat.reduceSub,Nat.reduceMul,Int.reduceToNat,List.size_toArray,tyF,MM,bu0,cbU49]
  rintro k st _ ⟨hk,f2,f1,f5,f6,m2⟩
  simp -dsimp -implicitDefEqProofs (disch:=first | omega | (simp only [lenr];try omega)) only [↓amPre,amAll,↓reduceIte,reduceCtorEq,Nat.reduceEqDiff,Nat.reduceBEq,Nat.reduceAdd,Nat.reduceLeDiff,Nat.reduceSub,Nat.reduceMul,Int.reduceToNat,List.size_toArray,tyF,MM,bu0,cbU49,f2,f1,f5,f6,m2]
theorem searchAdd0 (s:List Int):SpecX Try.prog 247 [zS,isl s,.i64 0] [] (fT [s] [0] [0] false):=by
  have q:=searchSlot0 s
  refine spec_of_awp_any (M:=MM) (np:=3) (X:=[3]) (fz:=false) mixed Try.func247 rfl rfl (by decide) rfl (Nat.le_refl _) (by decide +kernel) (.inl rfl) (by first | trivial | simp only [sigsOk_nil,sigsOk_some,sigsOk_none,sig_tr,sig_pt,sig_mt,sig_agg,List.map_cons,List.map_nil,sig1_tr,sig1_pt,sig1_v,and_self,true_and,List.length_map,List.length_set]) ?_
  simp -dsimp -implicitDefEqProofs (disch:=first | omega | (simp only [lenr];try omega)) only [↓amPre,amAll,↓reduceIte,reduceCtorEq,Nat.reduceEqDiff,Nat.reduceBEq,Nat.reduceAdd,Nat.reduceLeDiff,Nat.reduceSub,Nat.reduceMul,Int.reduceToNat,List.size_toArray,tyF,MM,bu0,cbU49]
  refine callP_of (q) ?_
  simp -dsimp -implicitDefEqProofs (disch:=first | omega | (simp only [lenr];try omega)) only [↓amPre,amAll,↓reduceIte,reduceCtorEq,Nat.reduceEqDiff,Nat.reduceBEq,Nat.reduceAdd,Nat.reduceLeDiff,Nat.reduceSub,Nat.reduceMul,Int.reduceToNat,List.size_toArray,tyF,MM,bu0,cbU49]
  refine split_go 9 (by decide +kernel) ?_
  simp -dsimp -implicitDefEqProofs (disch:=first | omega | (simp only [lenr];try omega)) only [↓amPre,amAll,↓reduceIte,reduceCtorEq,Nat.reduceEqDiff,Nat.reduceBEq,Nat.reduceAdd,Nat.reduceLeDiff,Nat.reduceSub,Nat.reduceMul,Int.reduceToNat,List.size_toArray,tyF,MM,bu0,cbU49]
  rfl
theorem searchFromI (p:Puzz) (N:Nat) (hN:p.n=N) (hd:puzzOk p) :
    SpecAt Try.prog 211 [p.sl,isl (idL N)] (fE (outF p.mv (letL p.mv.length) N 3000).1 (!(outF p.mv (letL p.mv.length) N 3000).2)):=by
  have hpn:=Ck.puzz_pn hd
  have hn20:=hd.1.1
  rw [show p.n.toNat=N by omega] at hpn
  have hN1:1≤N:=by omega
  have hN2:N≤20:=by omega
  have hA:=letL_len p.mv.length
  have h8:=hd.1.2.1
  have l0:=copyI (idL N) (by rw [runI_len];omega)
  have q0:=searchAdd0 (idL N)
  have ll:=lettersS p h8
  have hok:=fun k=>(Bf.out_ok hN1 hN2 hpn k).1
  refine spec_of_awp_any (M:=MM) (np:=2) (X:=[13]) (fz:=false) mixed Try.func211 rfl rfl (by decide) rfl (Nat.le_refl _) (by decide +kernel) (.inl rfl) (by first | trivial | simp only [sigsOk_nil,sigsOk_some,sigsOk_none,sig_tr,sig_pt,sig_mt,sig_agg,List.map_cons,List.map_nil,sig1_tr,sig1_pt,sig1_v,and_self,true_and,List.length_map,List.length_set]) ?_
  simp -dsimp -implicitDefEqProofs (disch:=first | omega | (simp only [lenr];try omega)) only [↓amPre,amAll,↓reduceIte,reduceCtorEq,Nat.reduceEqDiff,Nat.reduceBEq,Nat.reduceAdd,Nat.reduceLeDiff,Nat.reduceSub,Nat.reduceMul,Int.reduceToNat,List.size_toArray,tyF,MM,bu0,cbU49]
  have e1:∀ X:List Int,AV.fzL (X.map AV.i64)=X.map AV.i64:=fun X=>by rw [fzL_map,ints_fz]
  refine callP_frz l0 ?_
  simp -dsimp -implicitDefEqProofs (disch:=first | omega | (simp only [lenr];try omega)) only [↓amPre,amAll,↓reduceIte,reduceCtorEq,Nat.reduceEqDiff,Nat.reduceBEq,Nat.reduceAdd,Nat.reduceLeDiff,Nat.reduceSub,Nat.reduceMul,Int.reduceToNat,List.size_toArray,tyF,MM,bu0,cbU49,itrF,e1]
  refine callX_of (q0) ?_
  simp -dsimp -implicitDefEqProofs (disch:=first | omega | (simp only [lenr];try omega)) only [↓amPre,amAll,↓reduceIte,reduceCtorEq,Nat.reduceEqDiff,Nat.reduceBEq,Nat.reduceAdd,Nat.reduceLeDiff,Nat.reduceSub,Nat.reduceMul,Int.reduceToNat,List.size_toArray,tyF,MM,bu0,cbU49,hA]
  refine callP_of (ll) ?_
  simp -dsimp -implicitDefEqProofs (disch:=first | omega | (simp only [lenr];try omega)) only [↓amPre,amAll,↓reduceIte,reduceCtorEq,Nat.reduceEqDiff,Nat.reduceBEq,Nat.reduceAdd,Nat.reduceLeDiff,Nat.reduceSub,Nat.reduceMul,Int.reduceToNat,List.size_toArray,tyF,MM,bu0,cbU49,hA]
  have hs0:([0]:List Nat)=srtS [idL N]:=rfl
  refine awp_loop (fun k st=>k≤3000∧st.fr 7=.i64 k∧st.fr 6=.ref 15 [] 1 0 (2*p.mv.length)∧st.fr 5=.loc 5 [] 0 0∧st.fr 2=.loc 2 [] 0 0∧st.fr 4=.loc 4 [] 0 0∧st.mem 2=some (.pt 3 p.sl)∧st.mem 15=some (itr (letL p.mv.length))∧st.mem 5=some (.pt 4 (fE (Bf.out p.mv (letL p.mv.length) N k) false))∧st.mem 4=some (.pt 4 zS)∧(outF p.mv (letL p.mv.length) N k=(Bf.out p.mv (letL p.mv.length) N k,false)∧k≤(Bf.out p.mv (letL p.mv.length) N k).S.length)) (3000) ?_ ?_
  · simp -dsimp -implicitDefEqProofs (disch:=first | omega | (simp only [lenr];try omega)) only [↓amPre,amAll,↓reduceIte,reduceCtorEq,Nat.reduceEqDiff,Nat.reduceBEq,Nat.reduceAdd,Nat.reduceLeDiff,Nat.reduceSub,Nat.reduceMul,Int.reduceToNat,List.size_toArray,tyF,MM,bu0,cbU49,hA]
    exact ⟨rfl,rfl,rfl,Nat.zero_le _⟩
  rintro k st _ ⟨hk,f7,f6,f5,f2,f4,m2,m15,m5,m4,ek⟩
  obtain ⟨hF,hkl⟩:=ek
  have hk0:=hok k
  have h3k:=Bf.outF_len p.mv (letL p.mv.length) N k
  rw [hF] at h3k
  have hsfl:∀ L:List (List Int),(L.map fun x=>isl x).length=L.length:=fun L=>by simp
  by_cases c1:k<(Bf.out p.mv (letL p.mv.length) N k).S.length
  case neg =>
    have hst:=Bf.outF_stay (mv:=p.mv) (A:=letL p.mv.length) (n:=N) (k:=k) (.inr (by rw [hF];show (Bf.out p.mv (letL p.mv.length) N k).S.length≤k;omega)) (3000 - k)
    have h3k':k≤3000:=by have:(Bf.out p.mv (letL p.mv.length) N k).S.length≤3000:=h3k;omega
    rw [show k+(3000 - k)=3000 by omega,hF] at hst
    rw [hst]
    simp -dsimp -implicitDefEqProofs (disch:=first | omega | (simp only [lenr];try omega)) only [↓amPre,amAll,↓reduceIte,reduceCtorEq,Nat.reduceEqDiff,Nat.reduceBEq,Nat.reduceAdd,Nat.reduceLeDiff,Nat.reduceSub,Nat.reduceMul,Int.reduceToNat,List.size_toArray,tyF,MM,bu0,cbU49,f7,f6,f5,f2,f4,m2,m15,m5,m4,c1]
  have hk3:k<3000:=by have:(Bf.out p.mv (letL p.mv.length) N k).S.length≤3000:=h3k;omega
  have hsk:=hk0.el _ (mem_getD _ k default c1)
  have hinn:=fun j hj=>Bf.inn_ok hN1 hN2 hpn hk0 c1 j hj
  have hing:=fun j=>Bf.inn_grw p.mv (letL p.mv.length) k (Bf.out p.mv (letL p.mv.length) N k) j
  have hdle:=fun j=>Bf.inn_dle (mv:=p.mv) (A:=letL p.mv.length) (e:=Bf.out p.mv (letL p.mv.length) N k) (Bf.out_dle _ _ _ _) (k:=k) (by rw [hk0.lD];exact c1) j
  have hou1:Bf.out p.mv (letL p.mv.length) N (k+1)=inn p.mv (letL p.mv.length) k (Bf.out p.mv (letL p.mv.length) N k) (2*p.mv.length):=by rw [Bf.out,if_pos c1,hA]
  have houF:outF p.mv (letL p.mv.length) N (k+1)=innF p.mv (letL p.mv.length) k (Bf.out p.mv (letL p.mv.length) N k,false) (2*p.mv.length):=by rw [Bf.outF,hF,if_pos c1,hA]
  have hin3:=fun j=>Bf.innF_len (mv:=p.mv) (A:=letL p.mv.length) (k:=k) (s:=(Bf.out p.mv (letL p.mv.length) N k,false)) h3k j
  have hend:=fun (h:(outF p.mv (letL p.mv.length) N (k+1)).2=true)=>Bf.outF_stay (mv:=p.mv) (A:=letL p.mv.length) (n:=N) (k:=k+1) (.inl h) (3000 - (k+1))
  rw [show k+1+(3000 - (k+1))=3000 by omega] at hend
  rw [houF,hou1]
  rw [houF] at hend
  rw [hA] at hinn
  obtain ⟨E,hE⟩:∃ E,E=Bf.out p.mv (letL p.mv.length) N k:=⟨_,rfl⟩
  rw [← hE] at m5 hk0 c1 hsk hinn hing hdle hin3 hend ⊢
  simp -dsimp -implicitDefEqProofs (disch:=first | omega | (simp only [lenr];try omega)) only [↓amPre,amAll,↓reduceIte,reduceCtorEq,Nat.reduceEqDiff,Nat.reduceBEq,Nat.reduceAdd,Nat.reduceLeDiff,Nat.reduceSub,Nat.reduceMul,Int.reduceToNat,List.size_toArray,tyF,MM,bu0,cbU49,f7,f6,f5,f2,f4,m2,m15,m5,m4,c1]
  refine awp_loop (fun j st=>j≤(2*p.mv.length)∧st.fr 8=.i64 j∧st.fr 7=.i64 k∧st.fr 6=.ref 15 [] 1 0 (2*p.mv.length)∧st.fr 5=.loc 5 [] 0 0∧st.fr 2=.loc 2 [] 0 0∧st.fr 4=.loc 4 [] 0 0∧st.mem 2=some (.pt 3 p.sl)∧st.mem 15=some (itr (letL p.mv.length))∧st.mem 5=some (.pt 4 (fE (inn p.mv (letL p.mv.length) k E j) false))∧st.mem 4=some (.pt 4 zS)∧innF p.mv (letL p.mv.length) k (E,false) j=(inn p.mv (letL p.mv.length) k E j,false)) ((2*p.mv.length)) ?_ ?_
  · simp -dsimp -implicitDefEqProofs (disch:=first | omega | (simp only [lenr];try omega)) only [↓amPre,amAll,↓reduceIte,reduceCtorEq,Nat.reduceEqDiff,Nat.reduceBEq,Nat.reduceAdd,Nat.reduceLeDiff,Nat.reduceSub,Nat.reduceMul,Int.reduceToNat,List.size_toArray,tyF,MM,bu0,cbU49,f7,f6,f5,f2,f4,m2,m15,m5,m4]
    exact ⟨Nat.zero_le _,rfl,rfl,rfl⟩
  rintro j st _ ⟨hj,f8,f7,f6,f5,f2,f4,m2,m15,m5,m4,ej⟩
  by_cases c2:j<2*p.mv.length
  case neg =>
    have hje:j=2*p.mv.length:=by omega
    subst hje
    simp -dsimp -implicitDefEqProofs (disch:=first | omega | (simp only [lenr];try omega)) only [↓amPre,amAll,↓reduceIte,reduceCtorEq,Nat.reduceEqDiff,Nat.reduceBEq,Nat.reduceAdd,Nat.reduceLeDiff,Nat.reduceSub,Nat.reduceMul,Int.reduceToNat,List.size_toArray,tyF,MM,bu0,cbU49,f8,f7,f6,f5,f2,f4,m2,m15,m5,m4]
    have:=(hing (2*p.mv.length)).len
    exact ⟨by omega,by omega,ej,by omega⟩
  obtain ⟨hk2,_⟩:=hinn j (by omega)
  have hgj:=hing j
  have hdl:=hdle j k
  have h3j:(inn p.mv (letL p.mv.length) k E j).S.length≤3000:=by have:=hin3 j;rw [ej] at this;exact this
  have hstp:inn p.mv (letL p.mv.length) k E (j+1)=stp p.mv (letL p.mv.length) k (inn p.mv (letL p.mv.length) k E j) j:=rfl
  have hstF:innF p.mv (letL p.mv.length) k (E,false) (j+1)=Bf.stpF p.mv (letL p.mv.length) k (inn p.mv (letL p.mv.length) k E j,false) j:=by rw [← ej];rfl
  have hsty:=fun (h:(innF p.mv (letL p.mv.length) k (E,false) (j+1)).2=true)=>Bf.innF_stay h (2*p.mv.length - (j+1))
  rw [show j+1+(2*p.mv.length - (j+1))=2*p.mv.length by omega] at hsty
  obtain ⟨E2,hE2⟩:∃ E2,E2=inn p.mv (letL p.mv.length) k E j:=⟨_,rfl⟩
  rw [← hE2] at hk2 hgj hdl hstp hstF m5 h3j
  have hkE:=Nat.lt_of_lt_of_le c1 hgj.len
  have hgk:=hgj.get c1
  have hnE2:nbr p.mv E2 k ((letL p.mv.length).getD j 0)=compI (E.S.getD k default) (letP p.mv ((letL p.mv.length).getD j 0)):=by rw [← hgk]
  have hxA:=mem_getD (letL p.mv.length) j 0 (show j<(letL p.mv.length).length by omega)
  have hxok:=Bf.nbr_ok hN1 hN2 hpn hsk hxA
  unfold Bf.stpF at hstF
  rw [if_neg (by simp)] at hstF
  simp only [hnE2] at hstF
  unfold Bf.stp at hstp
  rw [hnE2] at hstp
  have hAj:((letL p.mv.length).map AV.i64).getD j .any=.i64 ((letL p.mv.length).getD j 0):=by rw [getD_eq _ _ _ (by simpa [hA] using c2),List.getElem_map,← getD_eq _ _ 0]
  have hlt:=letL_mem.1 hxA
  have qa:=sApply1 p (E.S.getD k default) ((letL p.mv.length).getD j 0) hd.1 ⟨by rw [hN];have:=hsk.1.1;omega,hsk.1.2⟩ (by unfold letOk;omega)
  have hgS:(E2.S.map fun x=>isl x).getD k .any=isl (E.S.getD k default):=by rw [getD_eq _ _ _ (by simpa using hkE),List.getElem_map,← hgk,getD_eq _ _ _ hkE]
  obtain ⟨x,hxx⟩:∃ x,x=compI (E.S.getD k default) (letP p.mv ((letL p.mv.length).getD j 0)):=⟨_,rfl⟩
  rw [← hxx] at qa hstF hstp hxok
  have hsrt:=Bf.srtS_ok (n:=N) hk2.nd (fun s hs=>(hk2.el s hs).1.1)
  have qi:=searchIndex N E2.S (cst E2.D) (srtS E2.S) false x hsrt hk2.nd hN2 hxok.1.1 h3j
  have hDk:((cst E2.D).map AV.i64).getD k .any=.i64 (E2.D.getD k 0:Nat):=by rw [getD_eq _ _ _ (by rw [List.length_map,cst_len,hk2.lD];exact hkE),List.getElem_map,← getD_eq _ _ 0,Ch.cst_get (by rw [hk2.lD];exact hkE)]
  have hlD:(cst E2.D).length=E2.S.length:=by rw [cst_len,hk2.lD]
  simp -dsimp -implicitDefEqProofs (disch:=first | omega | (simp only [lenr];try omega)) only [↓amPre,amAll,↓reduceIte,reduceCtorEq,Nat.reduceEqDiff,Nat.reduceBEq,Nat.reduceAdd,Nat.reduceLeDiff,Nat.reduceSub,Nat.reduceMul,Int.reduceToNat,List.size_toArray,tyF,MM,bu0,cbU49,f8,f7,f6,f5,f2,f4,m2,m15,m5,m4,hAj,hgS]
  refine callP_frz qa ?_
  simp -dsimp -implicitDefEqProofs (disch:=first | omega | (simp only [lenr];try omega)) only [↓amPre,amAll,↓reduceIte,reduceCtorEq,Nat.reduceEqDiff,Nat.reduceBEq,Nat.reduceAdd,Nat.reduceLeDiff,Nat.reduceSub,Nat.reduceMul,Int.reduceToNat,List.size_toArray,tyF,MM,bu0,cbU49,f8,f7,f6,f5,f2,f4,m2,m15,m5,m4,itrF,e1,islfz,ints_fz]
  refine callP_of (qi) ?_
  by_cases c3:x∈E2.S
  · rw [if_pos c3] at hstF hstp
    have hix:ixK E2.S x=((E2.S.idxOf x:Nat):Int):=by unfold ixK;rw [if_pos c3]
    have hsF:innF p.mv (letL p.mv.length) k (E,false) (j+1)=(inn p.mv (letL p.mv.length) k E (j+1),false):=by rw [hstF,hstp]
    rw [hsF,hstp]
    simp -dsimp -implicitDefEqProofs (disch:=first | omega | (simp only [lenr];try omega)) only [↓amPre,amAll,↓reduceIte,reduceCtorEq,Nat.reduceEqDiff,Nat.reduceBEq,Nat.reduceAdd,Nat.reduceLeDiff,Nat.reduceSub,Nat.reduceMul,Int.reduceToNat,List.size_toArray,tyF,MM,bu0,cbU49,f8,f7,f6,f5,f2,f4,m2,m15,m5,m4,hix]
    exact ⟨c2,by omega⟩
  have hix:ixK E2.S x = -1:=by unfold ixK;rw [if_neg c3]
  rw [if_neg c3] at hstF hstp
  by_cases c4:E2.S.length=3000
  · rw [if_pos c4] at hstF
    have h1:=hsty (by rw [hstF])
    rw [hstF] at h1
    have h2:=hend (by rw [h1])
    rw [h1] at h2
    rw [h2]
    simp -dsimp -implicitDefEqProofs (disch:=first | omega | (simp only [lenr];try omega)) only [↓amPre,amAll,↓reduceIte,reduceCtorEq,Nat.reduceEqDiff,Nat.reduceBEq,Nat.reduceAdd,Nat.reduceLeDiff,Nat.reduceSub,Nat.reduceMul,Int.reduceToNat,List.size_toArray,tyF,MM,bu0,cbU49,f8,f7,f6,f5,f2,f4,m2,m15,m5,m4,hix,hsfl,c4]
  · rw [if_neg c4] at hstF
    have hE3:inn p.mv (letL p.mv.length) k E (j+1)=⟨E2.S++[x],E2.D++[E2.D.getD k 0+1],E2.Pa++[k],E2.J++[j]⟩:=hstp
    have hsF:innF p.mv (letL p.mv.length) k (E,false) (j+1)=(inn p.mv (letL p.mv.length) k E (j+1),false):=by
      rw [hstF,hE3,Bf.stp,hnE2,← hxx,if_neg c3]
    have hwr:IntKind.i64.wrap ((E2.D.getD k 0:Nat)+1:Int)=((E2.D.getD k 0+1:Nat):Int):=by
      have:=hdl (by rw [hk2.lD];exact hkE)
      rw [wrap64_id (by omega)];rfl
    have qd:=searchAdd N E2.S (cst E2.D) (srtS E2.S) false x ((E2.D.getD k 0+1:Nat):Int) hsrt hN2 hxok.1.1 h3j hlD
    have hfE:fT (E2.S++[x]) (cst E2.D++[((E2.D.getD k 0+1:Nat):Int)]) (insS E2.S (srtS E2.S) x) false=fE (inn p.mv (letL p.mv.length) k E (j+1)) false:=by
      rw [hE3,← Bf.srtS_add]
      show fT _ _ _ _=fT _ (cst (E2.D++[E2.D.getD k 0+1])) _ _
      rw [cst_app];rfl
    rw [hfE] at qd
    rw [hsF]
    generalize inn p.mv (letL p.mv.length) k E (j+1)=E3 at *
    have c4':¬ ((E2.S.length:Int)=3000):=by omega
    simp -dsimp -implicitDefEqProofs (disch:=first | omega | (simp only [lenr];try omega)) only [↓amPre,amAll,↓reduceIte,reduceCtorEq,Nat.reduceEqDiff,Nat.reduceBEq,Nat.reduceAdd,Nat.reduceLeDiff,Nat.reduceSub,Nat.reduceMul,Int.reduceToNat,List.size_toArray,tyF,MM,bu0,cbU49,f8,f7,f6,f5,f2,f4,m2,m15,m5,m4,hix,hsfl,c4']
    refine split_go 8 (by decide +kernel) ?_
    have hwr2:IntKind.i64.wrap ((E2.D.getD k 0+1:Nat):Int)=((E2.D.getD k 0+1:Nat):Int):=hwr
    have hDk2:(cst E2.D).getD k 0=((E2.D.getD k 0:Nat):Int):=Ch.cst_get (by rw [hk2.lD];exact hkE)
    simp -dsimp -implicitDefEqProofs (disch:=first | omega | (simp only [lenr];try omega)) only [↓amPre,amAll,↓reduceIte,reduceCtorEq,Nat.reduceEqDiff,Nat.reduceBEq,Nat.reduceAdd,Nat.reduceLeDiff,Nat.reduceSub,Nat.reduceMul,Int.reduceToNat,List.size_toArray,tyF,MM,bu0,cbU49,f8,f7,f6,f5,f2,f4,m2,m15,m5,m4,hDk,hlD,hDk2,hwr,hwr2]
    refine callX_of (qd) ?_
    simp -dsimp -implicitDefEqProofs (disch:=first | omega | (simp only [lenr];try omega)) only [↓amPre,amAll,↓reduceIte,reduceCtorEq,Nat.reduceEqDiff,Nat.reduceBEq,Nat.reduceAdd,Nat.reduceLeDiff,Nat.reduceSub,Nat.reduceMul,Int.reduceToNat,List.size_toArray,tyF,MM,bu0,cbU49,f8,f7,f6,f5,f2,f4,m2,m15,m5,m4]
    exact ⟨c2,by omega⟩
noncomputable def sR (p:Puzz):Ex×Bool:=if puzzOk p then ((outF p.mv (letL p.mv.length) p.n.toNat 3000).1,!(outF p.mv (letL p.mv.length) p.n.toNat 3000).2) else (⟨[],[],[],[]⟩,false)
theorem searchStatesI (p:Puzz) (h:smallP p):SpecAt Try.prog 146 [p.sl] (.tup [fE (sR p).1 (sR p).2,.bl (sR p).2]):=by
  have q0:=sPuzzle p h
  by_cases hd:puzzOk p
  case neg =>
    have hz:sR p=(⟨[],[],[],[]⟩,false):=if_neg hd
    rw [decide_eq_false hd] at q0
    rw [hz]
    refine spec_of_awp_any (M:=MM) (np:=1) (X:=[3,4]) (fz:=false) mixed Try.func146 rfl rfl (by decide) rfl (Nat.le_refl _) (by decide +kernel) (.inl rfl) (by first | trivial | simp only [sigsOk_nil,sigsOk_some,sigsOk_none,sig_tr,sig_pt,sig_mt,sig_agg,List.map_cons,List.map_nil,sig1_tr,sig1_pt,sig1_v,and_self,true_and,List.length_map,List.length_set]) ?_
    simp -dsimp -implicitDefEqProofs (disch:=first | omega | (simp only [lenr];try omega)) only [↓amPre,amAll,↓reduceIte,reduceCtorEq,Nat.reduceEqDiff,Nat.reduceBEq,Nat.reduceAdd,Nat.reduceLeDiff,Nat.reduceSub,Nat.reduceMul,Int.reduceToNat,List.size_toArray,tyF,MM,bu0,cbU49]
    refine callP_of (q0) ?_
    simp -dsimp -implicitDefEqProofs (disch:=first | omega | (simp only [lenr];try omega)) only [↓amPre,amAll,↓reduceIte,reduceCtorEq,Nat.reduceEqDiff,Nat.reduceBEq,Nat.reduceAdd,Nat.reduceLeDiff,Nat.reduceSub,Nat.reduceMul,Int.reduceToNat,List.size_toArray,tyF,MM,bu0,cbU49]
    exact ⟨rfl,rfl⟩
  have hz:sR p=((outF p.mv (letL p.mv.length) p.n.toNat 3000).1,!(outF p.mv (letL p.mv.length) p.n.toNat 3000).2):=if_pos hd
  have hn20:=hd.1.1
  obtain ⟨N,hNN⟩:∃ N:Nat,p.n=N:=⟨p.n.toNat,by omega⟩
  rw [show p.n.toNat=N by omega] at hz
  have q1:=searchFromI p N hNN hd
  rw [decide_eq_true hd] at q0
  have l0:=sIdentity N (by omega)
  have e1:∀ X:List Int,AV.fzL (X.map AV.i64)=X.map AV.i64:=fun X=>by rw [fzL_map,ints_fz]
  rw [← hNN] at l0
  rw [hz]
  generalize (outF p.mv (letL p.mv.length) N 3000).1=e at *
  generalize (!(outF p.mv (letL p.mv.length) N 3000).2)=b at *
  refine spec_of_awp_any (M:=MM) (np:=1) (X:=[3,4]) (fz:=false) mixed Try.func146 rfl rfl (by decide) rfl (Nat.le_refl _) (by decide +kernel) (.inl rfl) (by first | trivial | simp only [sigsOk_nil,sigsOk_some,sigsOk_none,sig_tr,sig_pt,sig_mt,sig_agg,List.map_cons,List.map_nil,sig1_tr,sig1_pt,sig1_v,and_self,true_and,List.length_map,List.length_set]) ?_
  simp -dsimp -implicitDefEqProofs (disch:=first | omega | (simp only [lenr];try omega)) only [↓amPre,amAll,↓reduceIte,reduceCtorEq,Nat.reduceEqDiff,Nat.reduceBEq,Nat.reduceAdd,Nat.reduceLeDiff,Nat.reduceSub,Nat.reduceMul,Int.reduceToNat,List.size_toArray,tyF,MM,bu0,cbU49]
  refine callP_of (q0) ?_
  simp -dsimp -implicitDefEqProofs (disch:=first | omega | (simp only [lenr];try omega)) only [↓amPre,amAll,↓reduceIte,reduceCtorEq,Nat.reduceEqDiff,Nat.reduceBEq,Nat.reduceAdd,Nat.reduceLeDiff,Nat.reduceSub,Nat.reduceMul,Int.reduceToNat,List.size_toArray,tyF,MM,bu0,cbU49]
  refine split_go 6 (by decide +kernel) ?_
  simp -dsimp -implicitDefEqProofs (disch:=first | omega | (simp only [lenr];try omega)) only [↓amPre,amAll,↓reduceIte,reduceCtorEq,Nat.reduceEqDiff,Nat.reduceBEq,Nat.reduceAdd,Nat.reduceLeDiff,Nat.reduceSub,Nat.reduceMul,Int.reduceToNat,List.size_toArray,tyF,MM,bu0,cbU49]
  refine callP_frz l0 ?_
  simp -dsimp -implicitDefEqProofs (disch:=first | omega | (simp only [lenr];try omega)) only [↓amPre,amAll,↓reduceIte,reduceCtorEq,Nat.reduceEqDiff,Nat.reduceBEq,Nat.reduceAdd,Nat.reduceLeDiff,Nat.reduceSub,Nat.reduceMul,Int.reduceToNat,List.size_toArray,tyF,MM,bu0,cbU49,itrF,e1]
  refine callP_of (q1) ?_
  simp -dsimp -implicitDefEqProofs (disch:=first | omega | (simp only [lenr];try omega)) only [↓amPre,amAll,↓reduceIte,reduceCtorEq,Nat.reduceEqDiff,Nat.reduceBEq,Nat.reduceAdd,Nat.reduceLeDiff,Nat.reduceSub,Nat.reduceMul,Int.reduceToNat,List.size_toArray,tyF,MM,bu0,cbU49]
  refine lat_go [[],[],[1],[0],[0,1,2,3]] [[3,4],[2,4],[4],[4],[]] [0,1,2,3,4] (fun c st=>st.fr 4=.loc 4 [] 0 0∧st.fr 2=.loc 2 [] 0 0∧(c 0=true→c 3=false→st.fr 14=.agg [.ref 4 [(0,0)] 1 0 e.S.length,.ref 4 [(0,1)] 1 0 (cst e.D).length,.ref 4 [(0,2)] 1 0 (cst (srtS e.S)).length,.bl b])∧(c 1=true→st.fr 15=.loc 4 [] 0 3)∧(c 2=true→st.fr 16=.bl b)∧(c 4=true→st.fr 3=.bl b)∧st.mem 4=some (bif c 3 then (.pt 4 (.agg [.any,.any,.any,.bl b])) else (.pt 4 (fE e b)))∧st.mem 2=some (bif c 3 then (.pt 4 (fE e b)) else (.pt 4 zS))) (by decide +kernel) ?_ ?_ ?_
  · (try simp -dsimp -implicitDefEqProofs (disch:=first | omega | (simp only [lenr];try omega)) only [↓amPre,amAll,↓reduceIte,reduceCtorEq,Nat.reduceEqDiff,Nat.reduceBEq,Nat.reduceAdd,Nat.reduceLeDiff,Nat.reduceSub,Nat.reduceMul,Int.reduceToNat,List.size_toArray,tyF,MM,bu0,cbU49,latj])
    all_goals (try (repeat' (first | apply And.intro | rfl | (intro _;rfl) | (intro _ _;rfl))))
  · refine ⟨?_,?_,?_,?_,?_,trivial⟩
    all_goals rintro c st R hC hJ hR
    all_goals simp only [latm] at hC
    all_goals rcases Bool.eq_false_or_eq_true (c 3) with hx3 | hx3
    all_goals simp only [hC,hx3,latj] at hJ
    all_goals simp -dsimp -implicitDefEqProofs (disch:=first | omega | (simp only [lenr];try omega)) only [↓amPre,amAll,↓reduceIte,reduceCtorEq,Nat.reduceEqDiff,Nat.reduceBEq,Nat.reduceAdd,Nat.reduceLeDiff,Nat.reduceSub,Nat.reduceMul,Int.reduceToNat,List.size_toArray,tyF,MM,bu0,cbU49,hJ]
    all_goals refine hR _ ?_
    all_goals (simp +contextual -dsimp -implicitDefEqProofs only [amAll,↓reduceIte,reduceCtorEq,Nat.reduceEqDiff,Nat.reduceBEq,Nat.reduceAdd,latj,hC,hJ,hx3];try (repeat' (first | apply And.intro | rfl | (intro _;rfl) | (intro _ _;rfl))))
  intro c st hall hJ
  simp only [latm] at hall
  simp only [hall,latj] at hJ
  obtain ⟨f4,f2,f15,f16,f3,m4,m2⟩:=hJ
  clear hall
  simp -dsimp -implicitDefEqProofs (disch:=first | omega | (simp only [lenr];try omega)) only [↓amPre,amAll,↓reduceIte,reduceCtorEq,Nat.reduceEqDiff,Nat.reduceBEq,Nat.reduceAdd,Nat.reduceLeDiff,Nat.reduceSub,Nat.reduceMul,Int.reduceToNat,List.size_toArray,tyF,MM,bu0,cbU49,f2,f3,m2]
end Sr
end Go.AM
set_option maxRecDepth 8000
namespace Go.AM
namespace Ck
open Go.Proofs
open Ch (PN pt idL cst cst_app cst_len)
open Bf (Ex inn stp nbr idxM nxR nxO byL)
abbrev exA (p:Puzz) (S:List (List Int)) (D:List Int) (M:Value→Option Value) (Pa By:List Int) (Nx:AV):AV:=.pt 9 (.agg [.i64 p.n,.st p.nm,ssl p.mv,sfr S,itr D,.mt true M,itr Pa,itr By,Nx])
abbrev nxT (Nx:List (List Nat)):AV:=.tr 1 (Nx.map fun r=>itr (cst r))
noncomputable def exT (p:Puzz) (e:Ex) (Nx:List (List Nat)):AV:=.pt 9 (.agg [.i64 p.n,.st p.nm,ssl p.mv,sfr e.S,itr (cst e.D),.mt true (idxM e.S),itr (cst e.Pa),itr (byL (letL p.mv.length) e.J),.tr 1 (Nx.map fun r=>itr (cst r))])
def nilPt:AV:=.v (.pointer none)
theorem exploreNo (p:Puzz) (h:smallP p) (hs:¬ (1≤stN p∧stN p≤3000)):SpecAt Try.prog 136 [p.sl] (.tup [nilPt,.bl false]):=by
  have q0:=stateCountI p h
  have q1:=iwithin (stN p) 1 3000
  rw [show within (stN p) 1 3000=false from within_not.2 (by omega)] at q1
  refine spec_of_awp_any (M:=MM) (np:=1) (X:=[4,19,21]) (fz:=false) mixed Try.func136 rfl rfl (by decide) rfl (Nat.le_refl _) (by decide +kernel) (.inl rfl) (by first | trivial | simp only [sigsOk_nil,sigsOk_some,sigsOk_none,sig_tr,sig_pt,sig_mt,sig_agg,List.map_cons,List.map_nil,sig1_tr,sig1_pt,sig1_v,and_self,true_and,List.length_map,List.length_set]) ?_
  simp -dsimp -implicitDefEqProofs (disch:=first | omega | (simp only [lenr];try omega)) only [↓amPre,amAll,↓reduceIte,reduceCtorEq,Nat.reduceEqDiff,Nat.reduceBEq,Nat.reduceAdd,Nat.reduceLeDiff,Nat.reduceSub,Nat.reduceMul,Int.reduceToNat,List.size_toArray,tyF,MM,bu0,cbU49]
  refine callP_of (q0) ?_
  simp -dsimp -implicitDefEqProofs (disch:=first | omega | (simp only [lenr];try omega)) only [↓amPre,amAll,↓reduceIte,reduceCtorEq,Nat.reduceEqDiff,Nat.reduceBEq,Nat.reduceAdd,Nat.reduceLeDiff,Nat.reduceSub,Nat.reduceMul,Int.reduceToNat,List.size_toArray,tyF,MM,bu0,cbU49]
  refine callP_of (q1) ?_
  simp -dsimp -implicitDefEqProofs (disch:=first | omega | (simp only [lenr];try omega)) only [↓amPre,amAll,↓reduceIte,reduceCtorEq,Nat.reduceEqDiff,Nat.reduceBEq,Nat.reduceAdd,Nat.reduceLeDiff,Nat.reduceSub,Nat.reduceMul,Int.reduceToNat,List.size_toArray,tyF,MM,bu0,cbU49]
  try rfl
set_option maxHeartbeats 16000000 in
theorem exploreYes (p:Puzz) (h:smallP p) (hs:1≤stN p∧stN p≤3000):SpecAt Try.prog 136 [p.sl] (.tup [exT p (Bf.out p.mv (letL p.mv.length) p.n.toNat 3000) (nxO p.mv (letL p.mv.length) p.n.toNat 3000),.bl true]):=by
  have q0:=stateCountI p h
  have q1:=iwithin (stN p) 1 3000
  rw [show within (stN p) 1 3000=true from within_iff.2 (by omega)] at q1
  have hd:puzzOk p:=by
    by_cases c:puzzOk p
    · exact c
    · rw [stN,if_neg c] at hs;omega
  have hpn:=puzz_pn hd
  have hn20:=hd.1.1
  have hz:stN p=Ch.ordL (Ch.newL p.n.toNat p.mv):=if_pos hd
  obtain ⟨N,hNN⟩:∃ N:Nat,p.n=N:=⟨p.n.toNat,by omega⟩
  have hNt:p.n.toNat=N:=by omega
  rw [hNt] at hpn hz ⊢
  have hN1:1≤N:=by omega
  have hN2:N≤20:=by omega
  have hA:=letL_len p.mv.length
  have h8:=hd.1.2.1
  have l0:=iidentity N (by omega)
  rw [← hNN] at l0
  have hid:=PN.one hN1 hN2
  have hsm:smallE (idL N):=Bf.PN.small hN2 hid
  have lk0:=stateKeyI (idL N) hsm (by rw [runI_len];omega)
  have hup0:updM (fun _=>none) (.string (skey (idL N))) (.int .i64 0)=idxM [idL N]:=Bf.idxM_upd (S:=[]) (s:=idL N) (fun t ht=>by cases ht) hsm (by simp)
  have ll:=lettersI p.mv.length h8
  have e1:∀ X:List Int,AV.fzL (X.map AV.i64)=X.map AV.i64:=fun X=>by rw [fzL_map,ints_fz]
  have hpsl:p.sl=.agg [.i64 p.n,.st p.nm,ssl p.mv]:=rfl
  refine spec_of_awp_any (M:=MM) (np:=1) (X:=[4,19,21]) (fz:=false) mixed Try.func136 rfl rfl (by decide) rfl (Nat.le_refl _) (by decide +kernel) (.inl rfl) (by first | trivial | simp only [sigsOk_nil,sigsOk_some,sigsOk_none,sig_tr,sig_pt,sig_mt,sig_agg,List.map_cons,List.map_nil,sig1_tr,sig1_pt,sig1_v,and_self,true_and,List.length_map,List.length_set]) ?_
  simp -dsimp -implicitDefEqProofs (disch:=first | omega | (simp only [lenr];try omega)) only [↓amPre,amAll,↓reduceIte,reduceCtorEq,Nat.reduceEqDiff,Nat.reduceBEq,Nat.reduceAdd,Nat.reduceLeDiff,Nat.reduceSub,Nat.reduceMul,Int.reduceToNat,List.size_toArray,tyF,MM,bu0,cbU49]
  refine callP_of (q0) ?_
  simp -dsimp -implicitDefEqProofs (disch:=first | omega | (simp only [lenr];try omega)) only [↓amPre,amAll,↓reduceIte,reduceCtorEq,Nat.reduceEqDiff,Nat.reduceBEq,Nat.reduceAdd,Nat.reduceLeDiff,Nat.reduceSub,Nat.reduceMul,Int.reduceToNat,List.size_toArray,tyF,MM,bu0,cbU49]
  refine callP_of (q1) ?_
  simp -dsimp -implicitDefEqProofs (disch:=first | omega | (simp only [lenr];try omega)) only [↓amPre,amAll,↓reduceIte,reduceCtorEq,Nat.reduceEqDiff,Nat.reduceBEq,Nat.reduceAdd,Nat.reduceLeDiff,Nat.reduceSub,Nat.reduceMul,Int.reduceToNat,List.size_toArray,tyF,MM,bu0,cbU49]
  refine callP_frz l0 ?_
  simp -dsimp -implicitDefEqProofs (disch:=first | omega | (simp only [lenr];try omega)) only [↓amPre,amAll,↓reduceIte,reduceCtorEq,Nat.reduceEqDiff,Nat.reduceBEq,Nat.reduceAdd,Nat.reduceLeDiff,Nat.reduceSub,Nat.reduceMul,Int.reduceToNat,List.size_toArray,tyF,MM,bu0,cbU49,itrF,e1]
  refine any_fin (fun st=>st.fr 1=.loc 1 [] 0 0∧st.fr 5=.loc 32 [] 0 0∧st.mem 1=some (.pt 3 p.sl)∧st.mem 32=some (.pt 9 (.agg [.i64 p.n,.st p.nm,ssl p.mv,sfr [idL N],itr [0],.mt true (idxM [idL N]),itr [0],itr [0],.nilsl]))) ?_ ?_
  · intro hfin
    refine lat_go [[],[],[1],[],[],[],[5],[4,5,6],[4,5,6,7],[],[],[0,1,2,3,4,5,6,7,8,9,10],[0,1,2,3,4,5,6,7,8,9,10,11],[0,1,2,3,4,5,6,7,8,9,10,11,12]] [[11,12,13],[2,11,12,13],[11,12,13],[11,12,13],[7,8,11,12,13],[6,7,8,11,12,13],[7,8,11,12,13],[8,11,12,13],[11,12,13],[11,12,13],[11,12,13],[12,13],[13],[]] [0,1,2,3,4,5,6,7,8,9,10,11,12,13] (fun c st=>st.fr 1=.loc 1 [] 0 0∧st.fr 4=isl (idL N)∧(c 0=true→st.fr 21=p.sl)∧(c 1=true→st.fr 22=isl (idL N))∧(c 2=true→c 12=false→st.fr 23=.ref 23 [] 1 0 1)∧(c 3=true→c 12=false→st.fr 24=.ref 24 [] 1 0 1)∧(c 4=true→c 12=false→st.fr 25=.mref 25 [])∧(c 5=true→st.fr 26=isl (idL N))∧(c 6=true→st.fr 27=.v (.string (skey (idL N))))∧(c 8=true→c 12=false→st.fr 28=.mref 25 [])∧(c 9=true→c 12=false→st.fr 29=.ref 29 [] 1 0 1)∧(c 10=true→c 12=false→st.fr 30=.ref 30 [] 1 0 1)∧(c 11=true→c 12=false→st.fr 31=.agg [.i64 p.n,.st p.nm,ssl p.mv,.ref 23 [] 1 0 1,.ref 24 [] 1 0 1,.mref 25 [],.ref 29 [] 1 0 1,.ref 30 [] 1 0 1,.nilsl])∧(c 12=true→st.fr 32=.loc 32 [] 0 0)∧(c 13=true→st.fr 5=.loc 32 [] 0 0)∧st.mem 1=some (.pt 3 p.sl)∧(c 2=true→c 12=false→st.mem 23=some (sfr [idL N]))∧(c 3=true→c 12=false→st.mem 24=some (itr [0]))∧(c 4=true→c 7=false→st.mem 25=some (.mt true fun _=>none))∧(c 7=true→c 12=false→st.mem 25=some (.mt true (idxM [idL N])))∧(c 9=true→c 12=false→st.mem 29=some (itr [0]))∧(c 10=true→c 12=false→st.mem 30=some (itr [0]))∧(c 12=true→st.mem 32=some (.pt 9 (.agg [.i64 p.n,.st p.nm,ssl p.mv,sfr [idL N],itr [0],.mt true (idxM [idL N]),itr [0],itr [0],.nilsl])))) (by decide +kernel) ?_ ?_ ?_
    · (try simp -dsimp -implicitDefEqProofs (disch:=first | omega | (simp only [lenr];try omega)) only [↓amPre,amAll,↓reduceIte,reduceCtorEq,Nat.reduceEqDiff,Nat.reduceBEq,Nat.reduceAdd,Nat.reduceLeDiff,Nat.reduceSub,Nat.reduceMul,Int.reduceToNat,List.size_toArray,tyF,MM,bu0,cbU49,latj,hup0])
      all_goals (try (repeat' (first | apply And.intro | rfl | (intro _;rfl) | (intro _ _;rfl))))
    · refine ⟨?_,?_,?_,?_,?_,?_,?_,?_,?_,?_,?_,?_,?_,?_,trivial⟩
      all_goals rintro c st R hC hJ hR
      all_goals simp only [latm] at hC
      all_goals simp only [hC,latj] at hJ
      all_goals simp -dsimp -implicitDefEqProofs (disch:=first | omega | (simp only [lenr];try omega)) only [↓amPre,amAll,↓reduceIte,reduceCtorEq,Nat.reduceEqDiff,Nat.reduceBEq,Nat.reduceAdd,Nat.reduceLeDiff,Nat.reduceSub,Nat.reduceMul,Int.reduceToNat,List.size_toArray,tyF,MM,bu0,cbU49,hJ,hup0]
      all_goals (try (refine callP_of lk0 ?_;simp -dsimp -implicitDefEqProofs (disch:=first | omega | (simp only [lenr];try omega)) only [↓amPre,amAll,↓reduceIte,reduceCtorEq,Nat.reduceEqDiff,Nat.reduceBEq,Nat.reduceAdd,Nat.reduceLeDiff,Nat.reduceSub,Nat.reduceMul,Int.reduceToNat,List.size_toArray,tyF,MM,bu0,cbU49,hJ,hup0]))
      all_goals refine hR _ ?_
      all_goals (simp +contextual -dsimp -implicitDefEqProofs only [amAll,↓reduceIte,reduceCtorEq,Nat.reduceEqDiff,Nat.reduceBEq,Nat.reduceAdd,latj,hC,hJ,hup0];try (repeat' (first | apply And.intro | rfl | (intro _;rfl) | (intro _ _;rfl))))
    intro c st hall hJ
    simp only [latm] at hall
    simp only [hall,latj] at hJ
    obtain ⟨f1,f4,f21,f22,f26,f27,f32,f5,m1,m32⟩:=hJ
    clear hall
    exact hfin st ⟨f1,f5,m1,m32⟩
  rintro st ⟨f1,f5,m1,m32⟩
  have hok:=fun k=>(Bf.out_ok hN1 hN2 hpn k).1
  have hle:=fun k=>Bf.out_le hN1 hN2 hpn k
  simp -dsimp -implicitDefEqProofs (disch:=first | omega | (simp only [lenr];try omega)) only [↓amPre,amAll,↓reduceIte,reduceCtorEq,Nat.reduceEqDiff,Nat.reduceBEq,Nat.reduceAdd,Nat.reduceLeDiff,Nat.reduceSub,Nat.reduceMul,Int.reduceToNat,List.size_toArray,tyF,MM,bu0,cbU49,f1,f5,m1,hpsl]
  refine callP_of (ll) ?_
  simp -dsimp -implicitDefEqProofs (disch:=first | omega | (simp only [lenr];try omega)) only [↓amPre,amAll,↓reduceIte,reduceCtorEq,Nat.reduceEqDiff,Nat.reduceBEq,Nat.reduceAdd,Nat.reduceLeDiff,Nat.reduceSub,Nat.reduceMul,Int.reduceToNat,List.size_toArray,tyF,MM,bu0,cbU49,f1,f5,m1,m32,hA]
  skip
  refine awp_loopC 32 8 9 1 [.i64 p.n,.st p.nm,ssl p.mv,sfr [idL N],itr [0],.mt true (idxM [idL N]),itr [0],itr [0],.nilsl] (by simp -dsimp -implicitDefEqProofs (disch:=first | omega | (simp only [lenr];try omega)) only [↓amPre,amAll,↓reduceIte,reduceCtorEq,Nat.reduceEqDiff,Nat.reduceBEq,Nat.reduceAdd,Nat.reduceLeDiff,Nat.reduceSub,Nat.reduceMul,Int.reduceToNat,List.size_toArray,tyF,MM,bu0,cbU49,f1,f5,m1,m32]) (by simp) (by simp) (fun k st=>k≤3000∧st.fr 7=.i64 k∧st.fr 6=.ref 36 [] 1 0 (2*p.mv.length)∧st.fr 5=.loc 32 [] 0 0∧st.fr 1=.loc 1 [] 0 0∧st.mem 1=some (.pt 3 p.sl)∧st.mem 36=some (itr (letL p.mv.length))∧st.mem 32=some (exA p (Bf.out p.mv (letL p.mv.length) N k).S (cst (Bf.out p.mv (letL p.mv.length) N k).D) (idxM (Bf.out p.mv (letL p.mv.length) N k).S) (cst (Bf.out p.mv (letL p.mv.length) N k).Pa) (byL (letL p.mv.length) (Bf.out p.mv (letL p.mv.length) N k).J) (nxT (nxO p.mv (letL p.mv.length) N k)))∧(k≤(Bf.out p.mv (letL p.mv.length) N k).S.length)) (3000) ?_ ?_
  · simp -dsimp -implicitDefEqProofs (disch:=first | omega | (simp only [lenr];try omega)) only [↓amPre,amAll,↓reduceIte,reduceCtorEq,Nat.reduceEqDiff,Nat.reduceBEq,Nat.reduceAdd,Nat.reduceLeDiff,Nat.reduceSub,Nat.reduceMul,Int.reduceToNat,List.size_toArray,tyF,MM,bu0,cbU49,nilC_eq,f1,f5,m1,m32]
    exact ⟨rfl,rfl,Nat.zero_le _⟩
  rintro k st _ ⟨hk,f7,f6,f5,f1,m1,m36,m32,ek⟩
  have hk0:=hok k
  have hlek:=hle k
  by_cases c1:k<(Bf.out p.mv (letL p.mv.length) N k).S.length
  case neg =>
    have hend:Bf.out p.mv (letL p.mv.length) N k=Bf.out p.mv (letL p.mv.length) N 3000∧nxO p.mv (letL p.mv.length) N k=nxO p.mv (letL p.mv.length) N 3000:=by
      have a:=Bf.out_stay (mv:=p.mv) (A:=letL p.mv.length) (n:=N) (k:=k) (by omega) (3000 - k)
      have b:=Bf.nxO_stay (mv:=p.mv) (A:=letL p.mv.length) (n:=N) (k:=k) (by omega) (3000 - k)
      rw [show k+(3000 - k)=3000 by omega] at a b
      exact ⟨a.symm,b.symm⟩
    simp -dsimp -implicitDefEqProofs (disch:=first | omega | (simp only [lenr];try omega)) only [↓amPre,amAll,↓reduceIte,reduceCtorEq,Nat.reduceEqDiff,Nat.reduceBEq,Nat.reduceAdd,Nat.reduceLeDiff,Nat.reduceSub,Nat.reduceMul,Int.reduceToNat,List.size_toArray,tyF,MM,bu0,cbU49,f7,f6,f5,f1,m1,m36,m32]
    rw [hend.1,hend.2]
    rfl
  have hsk:=hk0.el _ (mem_getD _ k default c1)
  have qn:=neighborsI p N ((Bf.out p.mv (letL p.mv.length) N k).S.getD k default) hNN hd.1 hsk.1
  have hnl:=nbL_len p.mv ((Bf.out p.mv (letL p.mv.length) N k).S.getD k default) (Nat.le_refl (2*p.mv.length))
  have hnx1:nxO p.mv (letL p.mv.length) N (k+1)=nxO p.mv (letL p.mv.length) N k++[nxR p.mv (letL p.mv.length) k (Bf.out p.mv (letL p.mv.length) N k) (2*p.mv.length)]:=by rw [nxO,if_pos c1,hA]
  have hou1:Bf.out p.mv (letL p.mv.length) N (k+1)=inn p.mv (letL p.mv.length) k (Bf.out p.mv (letL p.mv.length) N k) (2*p.mv.length):=by rw [Bf.out,if_pos c1,hA]
  have hinn:=fun j hj=>Bf.inn_ok hN1 hN2 hpn hk0 c1 j hj
  have hing:=fun j=>Bf.inn_grw p.mv (letL p.mv.length) k (Bf.out p.mv (letL p.mv.length) N k) j
  have hinl:=fun j hj=>Bf.inn_le hN1 hN2 hpn hk0 c1 (j:=j) hj
  have hngt:=fun j hj=>nbL_get p.mv ((Bf.out p.mv (letL p.mv.length) N k).S.getD k default) (k:=j) hj
  rw [hA] at qn hngt hinn hinl
  rw [hou1,hnx1]
  obtain ⟨Nx,hNx⟩:∃ Nx,Nx=nxO p.mv (letL p.mv.length) N k:=⟨_,rfl⟩
  have hnxl:Nx.length=k:=by rw [hNx];exact Bf.nxO_lt ek
  rw [← hNx] at m32 ⊢
  obtain ⟨E,hE⟩:∃ E,E=Bf.out p.mv (letL p.mv.length) N k:=⟨_,rfl⟩
  rw [← hE] at m32 hk0 hlek c1 hsk qn hnl hinn hing hinl hngt ⊢
  obtain ⟨A,hAA⟩:∃ A,A=letL p.mv.length:=⟨_,rfl⟩
  rw [← hAA] at hA m36 m32 hinn hing hinl hngt ⊢
  obtain ⟨nb,hnb⟩:∃ nb,nb=nbL p.mv (E.S.getD k default) (2*p.mv.length):=⟨_,rfl⟩
  rw [← hnb] at qn hnl hngt
  have hfz:∀ L:List (List Int),AV.fzL (L.map fun x=>isl x)=L.map fun x=>isl x:=fun L=>by rw [fzL_map,islfz]
  simp -dsimp -implicitDefEqProofs (disch:=first | omega | (simp only [lenr];try omega)) only [↓amPre,amAll,↓reduceIte,reduceCtorEq,Nat.reduceEqDiff,Nat.reduceBEq,Nat.reduceAdd,Nat.reduceLeDiff,Nat.reduceSub,Nat.reduceMul,Int.reduceToNat,List.size_toArray,tyF,MM,bu0,cbU49,f7,f6,f5,f1,m1,m36,m32]
  refine callP_frz qn ?_
  have hnb2:AV.fz (sfr nb)=ssl nb:=by rw [AV.fz,hfz]
  simp -dsimp -implicitDefEqProofs (disch:=first | omega | (simp only [lenr];try omega)) only [↓amPre,amAll,↓reduceIte,reduceCtorEq,Nat.reduceEqDiff,Nat.reduceBEq,Nat.reduceAdd,Nat.reduceLeDiff,Nat.reduceSub,Nat.reduceMul,Int.reduceToNat,List.size_toArray,tyF,MM,bu0,cbU49,f7,f6,f5,f1,m1,m36,m32,hnb2,hnl]
  refine awp_loopN 8 138 1 (by simp -dsimp -implicitDefEqProofs (disch:=first | omega | (simp only [lenr];try omega)) only [↓amPre,amAll,↓reduceIte,reduceCtorEq,Nat.reduceEqDiff,Nat.reduceBEq,Nat.reduceAdd,Nat.reduceLeDiff,Nat.reduceSub,Nat.reduceMul,Int.reduceToNat,List.size_toArray,tyF,MM,bu0,cbU49,f7,f6,f5,f1,m1,m36,m32]) (by decide) (fun j st=>j≤(2*p.mv.length)∧st.fr 56=.i64 j∧st.fr 55=.i64 (2*p.mv.length:Nat)∧st.fr 54=ssl nb∧st.fr 8=.ref 138 [] 1 0 j∧st.fr 7=.i64 k∧st.fr 6=.ref 36 [] 1 0 (2*p.mv.length)∧st.fr 5=.loc 32 [] 0 0∧st.fr 1=.loc 1 [] 0 0∧st.mem 138=some (itr (cst (nxR p.mv A k E j)))∧st.mem 1=some (.pt 3 p.sl)∧st.mem 36=some (itr A)∧st.mem 32=some (exA p (inn p.mv A k E j).S (cst (inn p.mv A k E j).D) (idxM (inn p.mv A k E j).S) (cst (inn p.mv A k E j).Pa) (byL A (inn p.mv A k E j).J) (nxT Nx))) ((2*p.mv.length)) ?_ ?_
  · simp -dsimp -implicitDefEqProofs (disch:=first | omega | (simp only [lenr];try omega)) only [↓amPre,amAll,↓reduceIte,reduceCtorEq,Nat.reduceEqDiff,Nat.reduceBEq,Nat.reduceAdd,Nat.reduceLeDiff,Nat.reduceSub,Nat.reduceMul,Int.reduceToNat,List.size_toArray,tyF,MM,bu0,cbU49,f7,f6,f5,f1,m1,m36,m32,nilAs_eq]
    exact ⟨Nat.zero_le _,rfl,rfl,rfl⟩
  rintro j st _ ⟨hj,f56,f55,f54,f8,f7,f6,f5,f1,m138,m1,m36,m32⟩
  have hrl:=Bf.nxR_len p.mv A k E j
  by_cases c2:j<2*p.mv.length
  case neg =>
    have hje:j=2*p.mv.length:=by omega
    subst hje
    have hrl2:(cst (nxR p.mv A k E (2*p.mv.length))).length=2*p.mv.length:=by rw [cst_len,hrl]
    simp -dsimp -implicitDefEqProofs (disch:=first | omega | (simp only [lenr];try omega)) only [↓amPre,amAll,↓reduceIte,reduceCtorEq,Nat.reduceEqDiff,Nat.reduceBEq,Nat.reduceAdd,Nat.reduceLeDiff,Nat.reduceSub,Nat.reduceMul,Int.reduceToNat,List.size_toArray,tyF,MM,bu0,cbU49,f56,f55,f54,f8,f7,f6,f5,f1,m138,m1,m36,m32,hrl2]
    have:=(hing (2*p.mv.length)).len
    exact ⟨by omega,by omega,by omega⟩
  obtain ⟨hk2,_⟩:=hinn j (by omega)
  have hk3:=(hinn (j+1) (by omega)).1
  have hgj:=hing j
  have hlj:=hinl j (by omega)
  have hlj1:=hinl (j+1) (by omega)
  have hx:=hngt j c2
  have hstp:inn p.mv A k E (j+1)=stp p.mv A k (inn p.mv A k E j) j:=rfl
  have hrs:nxR p.mv A k E (j+1)=nxR p.mv A k E j++[(inn p.mv A k E (j+1)).S.idxOf (nbr p.mv E k (A.getD j 0))]:=rfl
  obtain ⟨E3,hE3⟩:∃ E3,E3=inn p.mv A k E (j+1):=⟨_,rfl⟩
  rw [← hE3] at hk3 hlj1 hstp hrs ⊢
  obtain ⟨E2,hE2⟩:∃ E2,E2=inn p.mv A k E j:=⟨_,rfl⟩
  rw [← hE2] at hk2 hgj hlj hstp m32
  have hkE:=Nat.lt_of_lt_of_le c1 hgj.len
  have hgk:=hgj.get c1
  have hnE:nbr p.mv E k (A.getD j 0)=compI (E.S.getD k default) (letP p.mv (A.getD j 0)):=rfl
  have hnE2:nbr p.mv E2 k (A.getD j 0)=compI (E.S.getD k default) (letP p.mv (A.getD j 0)):=by rw [← hgk]
  rw [hnE] at hrs
  have hxA:A.getD j 0∈letL p.mv.length:=by rw [← hAA];exact mem_getD A j 0 (by omega)
  have hxok:=Bf.nbr_ok hN1 hN2 hpn hsk hxA
  have hxs:=Bf.PN.small hN2 hxok.1
  obtain ⟨rw1,hrw1⟩:∃ r,r=nxR p.mv A k E j:=⟨_,rfl⟩
  rw [← hrw1] at hrl hrs m138
  obtain ⟨rw3,hrw3⟩:∃ r,r=nxR p.mv A k E (j+1):=⟨_,rfl⟩
  rw [← hrw3] at hrs ⊢
  unfold Bf.stp at hstp
  rw [hnE2] at hstp
  have hgx:nb.getD j default=compI (E.S.getD k default) (letP p.mv (A.getD j 0)):=hx
  have hgl:(nb.map fun x=>isl x).getD j .any=isl (compI (E.S.getD k default) (letP p.mv (A.getD j 0))):=by rw [getD_eq _ _ _ (by simpa [hnl] using c2),List.getElem_map,← hgx,getD_eq _ _ _ (by rw [hnl];exact c2)]
  obtain ⟨x,hxx⟩:∃ x,x=compI (E.S.getD k default) (letP p.mv (A.getD j 0)):=⟨_,rfl⟩
  rw [← hxx] at hgl hstp hrs hxok hxs
  have qk:=stateKeyI x hxs (by have:=hxok.1.1;omega)
  have hlk:=Bf.idxM_at (S:=E2.S) (s:=x) (fun t ht=>Bf.PN.small hN2 (hk2.el t ht).1) hxs
  have hAj:(A.map AV.i64).getD j .any=.i64 (A.getD j 0):=by rw [getD_eq _ _ _ (by simpa [hA] using c2),List.getElem_map,← getD_eq _ _ 0]
  have hDk:((cst E2.D).map AV.i64).getD k .any=.i64 (E2.D.getD k 0:Nat):=by rw [getD_eq _ _ _ (by rw [List.length_map,cst_len,hk2.lD];exact hkE),List.getElem_map,← getD_eq _ _ 0,Ch.cst_get (by rw [hk2.lD];exact hkE)]
  have hlD:(cst E2.D).length=E2.S.length:=by rw [cst_len,hk2.lD]
  have hlP:(cst E2.Pa).length=E2.S.length:=by rw [cst_len,hk2.lP]
  have hlJ:(byL A E2.J).length=E2.S.length:=by rw [Bf.byL_len,hk2.lJ]
  have hbS:=hlj
  by_cases c3:x∈E2.S
  · rw [if_pos c3] at hstp hlk
    subst hstp
    have hre:cst rw1++[((E3.S.idxOf x:Nat):Int)]=cst rw3:=by rw [hrs,cst_app];rfl
    have hlr1:(cst rw1).length=j:=by rw [cst_len,hrl]
    simp -dsimp -implicitDefEqProofs (disch:=first | omega | (simp only [lenr];try omega)) only [↓amPre,amAll,↓reduceIte,reduceCtorEq,Nat.reduceEqDiff,Nat.reduceBEq,Nat.reduceAdd,Nat.reduceLeDiff,Nat.reduceSub,Nat.reduceMul,Int.reduceToNat,List.size_toArray,tyF,MM,bu0,cbU49,f56,f55,f54,f8,f7,f6,f5,f1,m138,m1,m36,m32,hgl,hnl]
    refine callP_of (qk) ?_
    simp -dsimp -implicitDefEqProofs (disch:=first | omega | (simp only [lenr];try omega)) only [↓amPre,amAll,↓reduceIte,reduceCtorEq,Nat.reduceEqDiff,Nat.reduceBEq,Nat.reduceAdd,Nat.reduceLeDiff,Nat.reduceSub,Nat.reduceMul,Int.reduceToNat,List.size_toArray,tyF,MM,bu0,cbU49,f56,f55,f54,f8,f7,f6,f5,f1,m138,m1,m36,m32,hlk]
    exact ⟨c2,by omega,by rw [hlr1],by rw [← hre]⟩
  · rw [if_neg c3] at hstp hlk
    have hup:=Bf.idxM_upd (S:=E2.S) (s:=x) (fun t ht=>Bf.PN.small hN2 (hk2.el t ht).1) hxs c3
    have hE3S:E3.S=E2.S++[x]:=by rw [hstp]
    have hE3D:cst E2.D++[((E2.D.getD k 0+1:Nat):Int)]=cst E3.D:=by rw [hstp,cst_app];rfl
    have hE3P:cst E2.Pa++[(k:Int)]=cst E3.Pa:=by rw [hstp,cst_app];rfl
    have hE3J:byL A E2.J++[A.getD j 0]=byL A E3.J:=by rw [hstp];exact (Bf.byL_app A (by rw [hk2.lJ];omega) j).symm
    have hE3l:E3.S.length=E2.S.length+1:=by rw [hE3S];simp
    have hlD3:(cst E3.D).length=E2.S.length+1:=by rw [cst_len,hk3.lD,hE3l]
    have hlP3:(cst E3.Pa).length=E2.S.length+1:=by rw [cst_len,hk3.lP,hE3l]
    have hlJ3:(byL A E3.J).length=E2.S.length+1:=by rw [Bf.byL_len,hk3.lJ,hE3l]
    rw [← hE3S] at hup
    have hSS:(E2.S.map fun x=>isl x)++[isl x]=E3.S.map fun x=>isl x:=by rw [hE3S];simp
    have hix:E3.S.idxOf x=E2.S.length:=by rw [hE3S,List.idxOf_append,if_neg c3];simp
    have hre:cst rw1++[((E2.S.length:Nat):Int)]=cst rw3:=by rw [hrs,hix,cst_app];rfl
    have hlr1:(cst rw1).length=j:=by rw [cst_len,hrl]
    have ql:=lenSS E2.S
    clear hstp
    have hDle:=Bf.inn_dle (mv:=p.mv) (A:=A) (e:=E) (fun i hi=>by rw [hE];rw [hE] at hi;exact Bf.out_dle _ _ _ _ i hi) (k:=k) (by rw [hk0.lD];exact c1) j k (by rw [← hE2,hk2.lD];exact hkE)
    rw [← hE2] at hDle
    have hwr:IntKind.i64.wrap ((E2.D.getD k 0:Nat)+1:Int)=((E2.D.getD k 0+1:Nat):Int):=by rw [wrap64_id (by omega)];rfl
    simp -dsimp -implicitDefEqProofs (disch:=first | omega | (simp only [lenr];try omega)) only [↓amPre,amAll,↓reduceIte,reduceCtorEq,Nat.reduceEqDiff,Nat.reduceBEq,Nat.reduceAdd,Nat.reduceLeDiff,Nat.reduceSub,Nat.reduceMul,Int.reduceToNat,List.size_toArray,tyF,MM,bu0,cbU49,f56,f55,f54,f8,f7,f6,f5,f1,m138,m1,m36,m32,hgl,hnl]
    refine callP_of (qk) ?_
    simp -dsimp -implicitDefEqProofs (disch:=first | omega | (simp only [lenr];try omega)) only [↓amPre,amAll,↓reduceIte,reduceCtorEq,Nat.reduceEqDiff,Nat.reduceBEq,Nat.reduceAdd,Nat.reduceLeDiff,Nat.reduceSub,Nat.reduceMul,Int.reduceToNat,List.size_toArray,tyF,MM,bu0,cbU49,f56,f55,f54,f8,f7,f6,f5,f1,m138,m1,m36,m32,hlk,islfz]
    refine callP_of (ql) ?_
    simp -dsimp -implicitDefEqProofs (disch:=first | omega | (simp only [lenr];try omega)) only [↓amPre,amAll,↓reduceIte,reduceCtorEq,Nat.reduceEqDiff,Nat.reduceBEq,Nat.reduceAdd,Nat.reduceLeDiff,Nat.reduceSub,Nat.reduceMul,Int.reduceToNat,List.size_toArray,tyF,MM,bu0,cbU49,f56,f55,f54,f8,f7,f6,f5,f1,m138,m1,m36,m32,hup,hSS,hE3l]
    refine lat_go [[],[],[1],[1,2],[1,2,3],[],[5],[5,6],[5,6,7],[],[5,6,7,8,9],[5,6,7,8,9,10],[5,6,7,8,9,10,11],[5,6,7,8,9,10,11,12],[1,2,3,4,5,6,7,8,9,10,11,12,13],[0,1,2,3,4,5,6,7,8,9,10,11,12,13,14],[0,1,2,3,4,5,6,7,8,9,10,11,12,13,14,15],[0,1,2,3,4,5,6,7,8,9,10,11,12,13,14,15,16]] [[15,16,17],[2,3,4,14,15,16,17],[3,4,14,15,16,17],[4,14,15,16,17],[14,15,16,17],[6,7,8,10,11,12,13,14,15,16,17],[7,8,10,11,12,13,14,15,16,17],[8,10,11,12,13,14,15,16,17],[10,11,12,13,14,15,16,17],[10,11,12,13,14,15,16,17],[11,12,13,14,15,16,17],[12,13,14,15,16,17],[13,14,15,16,17],[14,15,16,17],[15,16,17],[16,17],[17],[]] [0,1,2,3,4,5,6,7,8,9,10,11,12,13,14,15,16,17] (fun c st=>st.fr 56=.i64 j∧st.fr 55=.i64 (2*p.mv.length:Nat)∧st.fr 54=ssl nb∧st.fr 8=.ref 138 [] 1 0 j∧st.fr 7=.i64 k∧st.fr 6=.ref 36 [] 1 0 (2*p.mv.length)∧st.fr 5=.loc 32 [] 0 0∧st.fr 1=.loc 1 [] 0 0∧st.fr 9=.i64 j∧st.fr 12=.i64 (E2.S.length:Nat)∧(c 0=true→st.fr 95=.loc 32 [] 0 0)∧(c 1=true→st.fr 96=.loc 32 [] 0 0)∧(c 2=true→st.fr 97=.loc 32 [] 0 0)∧(c 3=true→st.fr 98=.loc 32 [] 0 4)∧(c 4=true→c 14=false→st.fr 99=.ref 32 [(0,4)] 1 0 E2.S.length)∧(c 5=true→st.fr 100=.loc 32 [] 0 0)∧(c 6=true→st.fr 101=.loc 32 [] 0 0)∧(c 7=true→st.fr 102=.loc 32 [] 0 4)∧(c 8=true→c 14=false→st.fr 103=.ref 32 [(0,4)] 1 0 E2.S.length)∧(c 9=true→st.fr 104=.i64 k)∧(c 10=true→c 14=false→st.fr 105=.loc 32 [(0,4)] k 0)∧(c 11=true→st.fr 106=.i64 (E2.D.getD k 0:Nat))∧(c 12=true→st.fr 107=.i64 ((E2.D.getD k 0+1:Nat):Int))∧(c 13=true→st.fr 108=.ref 108 [] 1 0 1)∧(c 14=true→c 17=false→st.fr 109=.ref 109 [] 1 0 (E2.S.length+1))∧(c 15=true→st.fr 110=.loc 32 [] 0 0)∧(c 16=true→st.fr 111=.loc 32 [] 0 4)∧st.mem 138=some (itr (cst rw1))∧st.mem 1=some (.pt 3 p.sl)∧st.mem 36=some (itr A)∧st.mem 32=some (bif c 17 then (exA p E3.S (cst E3.D) (idxM E3.S) (cst E2.Pa) (byL A E2.J) (nxT Nx)) else (bif c 14 then (.pt 9 (.agg [.i64 p.n,.st p.nm,ssl p.mv,sfr E3.S,.any,.mt true (idxM E3.S),itr (cst E2.Pa),itr (byL A E2.J),nxT Nx])) else (exA p E3.S (cst E2.D) (idxM E3.S) (cst E2.Pa) (byL A E2.J) (nxT Nx))))∧(c 13=true→st.mem 108=some (itr [((E2.D.getD k 0+1:Nat):Int)]))∧(c 14=true→c 17=false→st.mem 109=some (itr (cst E3.D)))) (by decide +kernel) ?_ ?_ ?_
    · (try simp -dsimp -implicitDefEqProofs (disch:=first | omega | (simp only [lenr];try omega)) only [↓amPre,amAll,↓reduceIte,reduceCtorEq,Nat.reduceEqDiff,Nat.reduceBEq,Nat.reduceAdd,Nat.reduceLeDiff,Nat.reduceSub,Nat.reduceMul,Int.reduceToNat,List.size_toArray,tyF,MM,bu0,cbU49,latj,hDk,hlD,hlD3,hE3D,hwr,f56,f55,f54,f8,f7,f6,f5,f1,m138,m1,m36,m32])
      all_goals (try (repeat' (first | apply And.intro | rfl | (intro _;rfl) | (intro _ _;rfl))))
    · refine ⟨?_,?_,?_,?_,?_,?_,?_,?_,?_,?_,?_,?_,?_,?_,?_,?_,?_,?_,trivial⟩
      all_goals rintro c st R hC hJ hR
      all_goals simp only [latm] at hC
      all_goals rcases Bool.eq_false_or_eq_true (c 14) with hx14 | hx14
      all_goals simp only [hC,hx14,latj] at hJ
      all_goals simp -dsimp -implicitDefEqProofs (disch:=first | omega | (simp only [lenr];try omega)) only [↓amPre,amAll,↓reduceIte,reduceCtorEq,Nat.reduceEqDiff,Nat.reduceBEq,Nat.reduceAdd,Nat.reduceLeDiff,Nat.reduceSub,Nat.reduceMul,Int.reduceToNat,List.size_toArray,tyF,MM,bu0,cbU49,hJ,hDk,hlD,hlD3,hE3D,hwr]
      all_goals refine hR _ ?_
      all_goals (simp +contextual -dsimp -implicitDefEqProofs only [amAll,↓reduceIte,reduceCtorEq,Nat.reduceEqDiff,Nat.reduceBEq,Nat.reduceAdd,latj,hC,hJ,hx14,hDk,hlD,hlD3,hE3D,hwr];try (repeat' (first | apply And.intro | rfl | (intro _;rfl) | (intro _ _;rfl))))
    intro c st hall hJ
    simp only [latm] at hall
    simp only [hall,latj] at hJ
    obtain ⟨f56,f55,f54,f8,f7,f6,f5,f1,f9,f12,f95,f96,f97,f98,f100,f101,f102,f104,f106,f107,f108,f110,f111,m138,m1,m36,m32,m108⟩:=hJ
    clear hall
    simp -dsimp -implicitDefEqProofs (disch:=first | omega | (simp only [lenr];try omega)) only [↓amPre,amAll,↓reduceIte,reduceCtorEq,Nat.reduceEqDiff,Nat.reduceBEq,Nat.reduceAdd,Nat.reduceLeDiff,Nat.reduceSub,Nat.reduceMul,Int.reduceToNat,List.size_toArray,tyF,MM,bu0,cbU49,f1,f5,f6,f7,f8,f9,f12,f54,f55,f56,m1,m32,m36,m138,hlP,hE3P,hlP3]
    refine lat_go [[],[],[1],[1,2],[1,2,3],[],[],[5,6],[5,6,7],[5,6,7,8],[1,2,3,4,5,6,7,8,9],[0,1,2,3,4,5,6,7,8,9,10],[0,1,2,3,4,5,6,7,8,9,10,11],[0,1,2,3,4,5,6,7,8,9,10,11,12]] [[11,12,13],[2,3,4,10,11,12,13],[3,4,10,11,12,13],[4,10,11,12,13],[10,11,12,13],[7,8,9,10,11,12,13],[7,8,9,10,11,12,13],[8,9,10,11,12,13],[9,10,11,12,13],[10,11,12,13],[11,12,13],[12,13],[13],[]] [0,1,2,3,4,5,6,7,8,9,10,11,12,13] (fun c st=>st.fr 56=.i64 j∧st.fr 55=.i64 (2*p.mv.length:Nat)∧st.fr 54=ssl nb∧st.fr 8=.ref 138 [] 1 0 j∧st.fr 7=.i64 k∧st.fr 6=.ref 36 [] 1 0 (2*p.mv.length)∧st.fr 5=.loc 32 [] 0 0∧st.fr 1=.loc 1 [] 0 0∧st.fr 9=.i64 j∧st.fr 12=.i64 (E2.S.length:Nat)∧(c 0=true→st.fr 122=.loc 32 [] 0 0)∧(c 1=true→st.fr 123=.loc 32 [] 0 0)∧(c 2=true→st.fr 124=.loc 32 [] 0 0)∧(c 3=true→st.fr 125=.loc 32 [] 0 7)∧(c 4=true→c 10=false→st.fr 126=.ref 32 [(0,7)] 1 0 E2.S.length)∧(c 5=true→st.fr 127=.ref 36 [] 1 0 (2*p.mv.length))∧(c 6=true→st.fr 128=.i64 j)∧(c 7=true→st.fr 129=.loc 36 [] j 0)∧(c 8=true→st.fr 130=.i64 (A.getD j 0))∧(c 9=true→st.fr 131=.ref 131 [] 1 0 1)∧(c 10=true→c 13=false→st.fr 132=.ref 132 [] 1 0 (E2.S.length+1))∧(c 11=true→st.fr 133=.loc 32 [] 0 0)∧(c 12=true→st.fr 134=.loc 32 [] 0 7)∧st.mem 138=some (itr (cst rw1))∧st.mem 1=some (.pt 3 p.sl)∧st.mem 36=some (itr A)∧st.mem 32=some (bif c 13 then (exA p E3.S (cst E3.D) (idxM E3.S) (cst E3.Pa) (byL A E3.J) (nxT Nx)) else (bif c 10 then (.pt 9 (.agg [.i64 p.n,.st p.nm,ssl p.mv,sfr E3.S,itr (cst E3.D),.mt true (idxM E3.S),itr (cst E3.Pa),.any,nxT Nx])) else (exA p E3.S (cst E3.D) (idxM E3.S) (cst E3.Pa) (byL A E2.J) (nxT Nx))))∧(c 9=true→st.mem 131=some (itr [A.getD j 0]))∧(c 10=true→c 13=false→st.mem 132=some (itr (byL A E3.J)))) (by decide +kernel) ?_ ?_ ?_
    · (try simp -dsimp -implicitDefEqProofs (disch:=first | omega | (simp only [lenr];try omega)) only [↓amPre,amAll,↓reduceIte,reduceCtorEq,Nat.reduceEqDiff,Nat.reduceBEq,Nat.reduceAdd,Nat.reduceLeDiff,Nat.reduceSub,Nat.reduceMul,Int.reduceToNat,List.size_toArray,tyF,MM,bu0,cbU49,latj,hAj,hA,hlJ,hlJ3,hE3J,f1,f5,f6,f7,f8,f9,f12,f54,f55,f56,m1,m32,m36,m138])
      all_goals (try (repeat' (first | apply And.intro | rfl | (intro _;rfl) | (intro _ _;rfl))))
    · refine ⟨?_,?_,?_,?_,?_,?_,?_,?_,?_,?_,?_,?_,?_,?_,trivial⟩
      all_goals rintro c st R hC hJ hR
      all_goals simp only [latm] at hC
      all_goals rcases Bool.eq_false_or_eq_true (c 10) with hx10 | hx10
      all_goals simp only [hC,hx10,latj] at hJ
      all_goals simp -dsimp -implicitDefEqProofs (disch:=first | omega | (simp only [lenr];try omega)) only [↓amPre,amAll,↓reduceIte,reduceCtorEq,Nat.reduceEqDiff,Nat.reduceBEq,Nat.reduceAdd,Nat.reduceLeDiff,Nat.reduceSub,Nat.reduceMul,Int.reduceToNat,List.size_toArray,tyF,MM,bu0,cbU49,hJ,hAj,hA,hlJ,hlJ3,hE3J]
      all_goals refine hR _ ?_
      all_goals (simp +contextual -dsimp -implicitDefEqProofs only [amAll,↓reduceIte,reduceCtorEq,Nat.reduceEqDiff,Nat.reduceBEq,Nat.reduceAdd,latj,hC,hJ,hx10,hAj,hA,hlJ,hlJ3,hE3J];try (repeat' (first | apply And.intro | rfl | (intro _;rfl) | (intro _ _;rfl))))
    intro c st hall hJ
    simp only [latm] at hall
    simp only [hall,latj] at hJ
    obtain ⟨f56,f55,f54,f8,f7,f6,f5,f1,f9,f12,f122,f123,f124,f125,f127,f128,f129,f130,f131,f133,f134,m138,m1,m36,m32,m131⟩:=hJ
    clear hall
    simp -dsimp -implicitDefEqProofs (disch:=first | omega | (simp only [lenr];try omega)) only [↓amPre,amAll,↓reduceIte,reduceCtorEq,Nat.reduceEqDiff,Nat.reduceBEq,Nat.reduceAdd,Nat.reduceLeDiff,Nat.reduceSub,Nat.reduceMul,Int.reduceToNat,List.size_toArray,tyF,MM,bu0,cbU49,f1,f5,f6,f7,f8,f9,f12,f54,f55,f56,m1,m32,m36,m138,hlr1]
    exact ⟨c2,by omega,by rw [← hre]⟩
end Ck
end Go.AM
set_option maxRecDepth 8000
namespace Go.AM
namespace Sr
open Go.Proofs
open Ch (PN pt idL cst cst_app cst_len)
open Bf (Ex nxO lsK lsN idxM byL)
open Ck (sfr exT exA nxT stN)
theorem stN_pos {p:Puzz} (hd:puzzOk p):1≤stN p:=by
  have hpn:=Ck.puzz_pn hd
  have h1:=hd.1.1
  have hP:=Ch.newL_part (n:=p.n.toNat) (by omega) (by omega) hpn
  rw [stN,if_pos hd]
  exact (Ch.ord_fac (by omega) (by omega) _ 0 hP.good).1
theorem sR_yes {p:Puzz} (h:1≤stN p∧stN p≤3000):puzzOk p∧sR p=(Bf.out p.mv (letL p.mv.length) p.n.toNat 3000,true):=by
  have hd:puzzOk p:=by
    by_cases c:puzzOk p
    · exact c
    · rw [stN,if_neg c] at h;omega
  have hpn:=Ck.puzz_pn hd
  have h1:=hd.1.1
  have hw:=Bf.outF_whole (n:=p.n.toNat) (by omega) (by omega) hpn
  have hz:stN p=Ch.ordL (Ch.newL p.n.toNat p.mv):=if_pos hd
  have hF:=hw.2 (by omega)
  refine ⟨hd,?_⟩
  rw [sR,if_pos hd,Bf.outF_f 3000 hF,hF];rfl
theorem sR_no {p:Puzz} (h:¬ (1≤stN p∧stN p≤3000)):(sR p).2=false:=by
  by_cases c:puzzOk p
  · have hpn:=Ck.puzz_pn c
    have h1:=c.1.1
    have hw:=Bf.outF_whole (n:=p.n.toNat) (by omega) (by omega) hpn
    have hz:stN p=Ch.ordL (Ch.newL p.n.toNat p.mv):=if_pos c
    have hp:=stN_pos c
    rw [sR,if_pos c]
    cases hb:(Bf.outF p.mv (letL p.mv.length) p.n.toNat 3000).2 with
    | true=>rfl
    | false=>have:=hw.1 hb;omega
  · rw [sR,if_neg c]
theorem sR_ok {p:Puzz} (hd:puzzOk p):Bf.Ok p.n.toNat p.mv (Bf.out p.mv (letL p.mv.length) p.n.toNat 3000):=by
  have h1:=hd.1.1
  exact (Bf.out_ok (by omega) (by omega) (Ck.puzz_pn hd) 3000).1
theorem sR_len {p:Puzz} (hd:puzzOk p):(Bf.out p.mv (letL p.mv.length) p.n.toNat 3000).S.length≤stN p:=by
  have h1:=hd.1.1
  have h2:1≤p.n.toNat:=by omega
  have h3:p.n.toNat≤20:=by omega
  rw [stN,if_pos hd]
  exact Bf.out_le h2 h3 (Ck.puzz_pn hd) 3000
noncomputable def ssR (p:Puzz):Int:=if (sR p).2=true then lsK (sR p).1.S ((sR p).1.S.length - 1) else -1
theorem fE_fz (e:Ex) (w b:Bool):(AV.tup [fE e w,.bl b]).fz=.tup [fS e.S (cst e.D) (Bf.srtS e.S) w,.bl b]:=by
  have h1:∀ L:List (List Int),AV.fzL (L.map fun x=>isl x)=L.map fun x=>isl x:=fun L=>by rw [fzL_map,islfz]
  have e1:∀ X:List Int,AV.fzL (X.map AV.i64)=X.map AV.i64:=fun X=>by rw [fzL_map,ints_fz]
  simp only [AV.fz,AV.fzL,h1,e1]
theorem searchC (p:Puzz) (h:smallP p):SpecAt Try.prog 146 [p.sl] (.tup [fS (sR p).1.S (cst (sR p).1.D) (Bf.srtS (sR p).1.S) (sR p).2,.bl (sR p).2]):=spec_frz (searchStatesI p h) rfl (fE_fz _ _ _)
end Sr
end Go.AM
set_option maxRecDepth 8000
namespace Go.AM
namespace Sr
open Go.Proofs
open Ch (PN pt idL cst cst_app cst_len)
open Bf (Ex nxO idxM byL dOf)
open Ck (sfr exT exA nxT stN)
abbrev exC (p:Puzz) (e:Ex) (x:AV) (Nx:List (List Nat)):AV:=.ep [.i64 p.n,.st p.nm,ssl p.mv,ssl e.S,isl (cst e.D),x,isl (cst e.Pa),isl (byL (letL p.mv.length) e.J),.sl 1 (Nx.map fun r=>isl (cst r))]
theorem diameterI (p:Puzz) (e:Ex) (x:AV) (Nx:List (List Nat)) (h:0<e.D.length) (hb:e.D.length≤1099511627776):SpecAt Try.prog 137 [exC p e x Nx] (.i64 ((e.D.getD (e.D.length - 1) 0:Nat):Int)):=by
  have hl:(cst e.D).length=e.D.length:=cst_len _
  have hg:((cst e.D).map AV.i64).getD (e.D.length - 1) .any=.i64 ((e.D.getD (e.D.length - 1) 0:Nat):Int):=by rw [getD_eq _ _ _ (by rw [List.length_map,cst_len];omega),List.getElem_map,← getD_eq _ _ 0,Ch.cst_get (by omega)]
  have hw:IntKind.i64.wrap ((e.D.length:Int) - 1)=((e.D.length - 1:Nat):Int):=by rw [wrap64_id (by omega)];omega
  refine spec_of_awp (M:=MM) (np:=1) (fz:=true) mixed Try.func137 rfl rfl (by decide) rfl (Nat.le_refl _) (by decide +kernel) (.inr ⟨rfl,rfl⟩) trivial ?_
  simp -dsimp -implicitDefEqProofs (disch:=first | omega | (simp only [lenr];try omega)) only [↓amPre,amAll,↓reduceIte,reduceCtorEq,Nat.reduceEqDiff,Nat.reduceBEq,Nat.reduceAdd,Nat.reduceLeDiff,Nat.reduceSub,Nat.reduceMul,Int.reduceToNat,List.size_toArray,tyF,MM,bu0,cbU49,hl,hw,hg]
theorem depthOfS (n:Nat) (e:Ex) (w:Bool) (s:List Int) (hZ:Bf.SrtOk n e.S (Bf.srtS e.S)) (hd:e.S.Nodup) (hn:n≤20) (hs:s.length=n) (hl:e.S.length≤3000) (hD:e.D.length=e.S.length) :
    SpecAt Try.prog 246 [fS e.S (cst e.D) (Bf.srtS e.S) w,isl s] (.i64 (if s∈e.S then (dOf e s:Int) else -1)):=by
  have q:=searchIndex n e.S (cst e.D) (Bf.srtS e.S) w s hZ hd hn hs hl
  by_cases c:s∈e.S
  · have hix:ixK e.S s=((e.S.idxOf s:Nat):Int):=by unfold ixK;rw [if_pos c]
    have hlt:e.S.idxOf s<e.D.length:=by rw [hD];exact List.idxOf_lt_length_iff.2 c
    have hg:((cst e.D).map AV.i64).getD (e.S.idxOf s) .any=.i64 (dOf e s:Int):=by rw [getD_eq _ _ _ (by rw [List.length_map,cst_len];exact hlt),List.getElem_map,← getD_eq _ _ 0,Ch.cst_get hlt];rfl
    have hl2:(cst e.D).length=e.D.length:=cst_len _
    rw [hix] at q
    rw [if_pos c]
    generalize e.S.idxOf s=i at *
    generalize dOf e s=d at *
    refine spec_of_awp (M:=MM) (np:=2) (fz:=true) mixed Try.func246 rfl rfl (by decide) rfl (Nat.le_refl _) (by decide +kernel) (.inr ⟨rfl,rfl⟩) trivial ?_
    simp -dsimp -implicitDefEqProofs (disch:=first | omega | (simp only [lenr];try omega)) only [↓amPre,amAll,↓reduceIte,reduceCtorEq,Nat.reduceEqDiff,Nat.reduceBEq,Nat.reduceAdd,Nat.reduceLeDiff,Nat.reduceSub,Nat.reduceMul,Int.reduceToNat,List.size_toArray,tyF,MM,bu0,cbU49]
    refine callP_of (q) ?_
    simp -dsimp -implicitDefEqProofs (disch:=first | omega | (simp only [lenr];try omega)) only [↓amPre,amAll,↓reduceIte,reduceCtorEq,Nat.reduceEqDiff,Nat.reduceBEq,Nat.reduceAdd,Nat.reduceLeDiff,Nat.reduceSub,Nat.reduceMul,Int.reduceToNat,List.size_toArray,tyF,MM,bu0,cbU49,hl2,hg]
  · have hix:ixK e.S s = -1:=by unfold ixK;rw [if_neg c]
    rw [hix] at q
    rw [if_neg c]
    refine spec_of_awp (M:=MM) (np:=2) (fz:=true) mixed Try.func246 rfl rfl (by decide) rfl (Nat.le_refl _) (by decide +kernel) (.inr ⟨rfl,rfl⟩) trivial ?_
    simp -dsimp -implicitDefEqProofs (disch:=first | omega | (simp only [lenr];try omega)) only [↓amPre,amAll,↓reduceIte,reduceCtorEq,Nat.reduceEqDiff,Nat.reduceBEq,Nat.reduceAdd,Nat.reduceLeDiff,Nat.reduceSub,Nat.reduceMul,Int.reduceToNat,List.size_toArray,tyF,MM,bu0,cbU49]
    refine callP_of (q) ?_
    simp -dsimp -implicitDefEqProofs (disch:=first | omega | (simp only [lenr];try omega)) only [↓amPre,amAll,↓reduceIte,reduceCtorEq,Nat.reduceEqDiff,Nat.reduceBEq,Nat.reduceAdd,Nat.reduceLeDiff,Nat.reduceSub,Nat.reduceMul,Int.reduceToNat,List.size_toArray,tyF,MM,bu0,cbU49]
theorem sDiameter (p:Puzz) (h:smallP p):SpecAt Try.prog 140 [p.sl] (.i64 (if (sR p).2=true then (((sR p).1.D.getD ((sR p).1.D.length - 1) 0:Nat):Int) else -1)):=by
  have q1:=searchC p h
  by_cases hw:(sR p).2=true
  · have hs:1≤stN p∧stN p≤3000:=by
      by_cases c:1≤stN p∧stN p≤3000
      · exact c
      · rw [sR_no c] at hw;cases hw
    obtain ⟨hd,hR⟩:=sR_yes hs
    have hok:=sR_ok hd
    have hle:=sR_len hd
    rw [if_pos hw]
    rw [hR] at q1 ⊢
    dsimp only at q1 ⊢
    generalize Bf.out p.mv (letL p.mv.length) p.n.toNat 3000=e at *
    have hlD:=hok.lD
    have hz:=hok.z.1
    have hl:(cst e.D).length=e.D.length:=cst_len _
    have hg:((cst e.D).map AV.i64).getD (e.D.length - 1) .any=.i64 ((e.D.getD (e.D.length - 1) 0:Nat):Int):=by rw [getD_eq _ _ _ (by rw [List.length_map,cst_len];omega),List.getElem_map,← getD_eq _ _ 0,Ch.cst_get (by omega)]
    have hw:IntKind.i64.wrap ((e.D.length:Int) - 1)=((e.D.length - 1:Nat):Int):=by rw [wrap64_id (by omega)];omega
    refine spec_of_awp (M:=MM) (np:=1) (fz:=true) mixed Try.func140 rfl rfl (by decide) rfl (Nat.le_refl _) (by decide +kernel) (.inr ⟨rfl,rfl⟩) trivial ?_
    simp -dsimp -implicitDefEqProofs (disch:=first | omega | (simp only [lenr];try omega)) only [↓amPre,amAll,↓reduceIte,reduceCtorEq,Nat.reduceEqDiff,Nat.reduceBEq,Nat.reduceAdd,Nat.reduceLeDiff,Nat.reduceSub,Nat.reduceMul,Int.reduceToNat,List.size_toArray,tyF,MM,bu0,cbU49]
    refine callP_of (q1) ?_
    simp -dsimp -implicitDefEqProofs (disch:=first | omega | (simp only [lenr];try omega)) only [↓amPre,amAll,↓reduceIte,reduceCtorEq,Nat.reduceEqDiff,Nat.reduceBEq,Nat.reduceAdd,Nat.reduceLeDiff,Nat.reduceSub,Nat.reduceMul,Int.reduceToNat,List.size_toArray,tyF,MM,bu0,cbU49,hl,hw,hg]
  · rw [if_neg hw]
    have hw':(sR p).2=false:=by simpa using hw
    rw [hw'] at q1
    generalize (sR p).1=e at *
    refine spec_of_awp (M:=MM) (np:=1) (fz:=true) mixed Try.func140 rfl rfl (by decide) rfl (Nat.le_refl _) (by decide +kernel) (.inr ⟨rfl,rfl⟩) trivial ?_
    simp -dsimp -implicitDefEqProofs (disch:=first | omega | (simp only [lenr];try omega)) only [↓amPre,amAll,↓reduceIte,reduceCtorEq,Nat.reduceEqDiff,Nat.reduceBEq,Nat.reduceAdd,Nat.reduceLeDiff,Nat.reduceSub,Nat.reduceMul,Int.reduceToNat,List.size_toArray,tyF,MM,bu0,cbU49]
    refine callP_of (q1) ?_
    simp -dsimp -implicitDefEqProofs (disch:=first | omega | (simp only [lenr];try omega)) only [↓amPre,amAll,↓reduceIte,reduceCtorEq,Nat.reduceEqDiff,Nat.reduceBEq,Nat.reduceAdd,Nat.reduceLeDiff,Nat.reduceSub,Nat.reduceMul,Int.reduceToNat,List.size_toArray,tyF,MM,bu0,cbU49]
end Sr
end Go.AM
namespace Go.AM
namespace Bf
open Ch (PN pt idL Gen cst cst_app cst_len)
/-! reversal by exchanges -/
def rvK (l:List Int) (k:Nat):List Int:=(List.range l.length).map fun i=>if i<k∨l.length - k≤i then l.getD (l.length - 1 - i) 0 else l.getD i 0
theorem Tm.d_le {mv:List (List Int)} {A:List Int} {e:Ex} {T:Nat} (t:Tm mv A e T):∀ N i,i≤N→i<e.S.length→e.D.getD i 0≤i
  | N,0,_,_=>by rw [t.d0];exact Nat.le_refl _
  | 0,i+1,h,_=>by omega
  | N+1,i+1,h,hi=>by
    obtain ⟨a1,a2,a3,a4,a5⟩:=t.old (i+1) (by omega) hi
    have:=t.d_le N (e.Pa.getD (i+1) 0) (by omega) (by omega)
    omega
/-! a word's letters -/
def ltr (A:List Int) (w:List Nat):List Int:=w.map fun j=>A.getD j 0
end Bf
end Go.AM
set_option maxRecDepth 8000
namespace Go.AM
namespace Wo
open Go.Proofs
open Ch (PN pt idL cst cst_app cst_len)
open Bf (Ex nxO idxM byL dOf rvK ltr wdE dw)
open Ck (sfr exT exA nxT stN)
open Sr (exC fS)
def MM:FuncId→List Bool:=fun f=>if f=216 then [true] else []
end Wo
end Go.AM
namespace Go.AM
namespace Bf
open Ch (PN pt idL)
def fmT (A:List Int) (e:Ex) (i:Nat):Twist:=⟨ltr A (wdE e i),movL (e.S.getD i default) (e.S.getD i default).length⟩
def fmC (e:Ex) (md ms:Int) (i:Nat):Prop:=(e.D.getD i 0:Int)≤md∧lsN e.S i≤ms
instance (e:Ex) (md ms:Int) (i:Nat):Decidable (fmC e md ms i):=by unfold fmC;infer_instance
def fmA (A:List Int) (e:Ex) (md ms:Int):Nat→List Twist
  | 0=>[]
  | i+1=>if i≠0∧fmC e md ms i then fmA A e md ms i++[fmT A e i] else fmA A e md ms i
section
variable {A:List Int} {e:Ex} {md ms:Int}
def fmR (A:List Int) (e:Ex) (w:Bool) (md ms:Int):List Twist×Bool :=
  if w=true∧(within md 0 30=true∧within ms 0 20=true)∧(fmA A e md ms e.S.length).length≤200 then (fmA A e md ms e.S.length,true) else ([],false)
end
end Bf
end Go.AM
set_option maxRecDepth 8000
namespace Go.AM
namespace Wo
open Go.Proofs
open Ch (PN pt idL cst cst_app cst_len)
open Bf (Ex nxO idxM byL dOf rvK ltr wdE dw Fin srtS fmT fmC fmA fmR lsN movL_len)
open Ck (sfr exA exT nxT stN)
open Sr (exC fS depthOfS sR sR_yes sR_no sR_ok sR_len)
theorem fz1 (l:List Int):AV.fzL (l.map AV.i64)=l.map AV.i64:=by rw [fzL_map,ints_fz]
theorem fz2 (L:List (List Int)):AV.fzL (L.map fun l=>isl l)=L.map fun l=>isl l:=by rw [fzL_map,islfz]
theorem fz3 (L:List (List Nat)):AV.fzL (L.map fun r=>itr (cst r))=L.map fun r=>isl (cst r):=by
  rw [fzL_map,List.map_map]
  exact List.map_congr_left fun r _=>itr_fz _
theorem sR_fin {p:Puzz} (h:1≤stN p∧stN p≤3000):Fin p.n.toNat p.mv (letL p.mv.length) (Bf.out p.mv (letL p.mv.length) p.n.toNat 3000):=by
  have hd:=(sR_yes h).1
  have h1:=hd.1.1
  exact Bf.out_fin (by omega) (by omega) (Ck.puzz_pn hd) (by have:=sR_len hd;omega)
noncomputable def fmP (p:Puzz) (md ms:Int):List Twist×Bool:=fmR (letL p.mv.length) (sR p).1 (sR p).2 md ms
end Wo
end Go.AM
namespace Go.AM
namespace Bf
def wsB (e:Ex) (T:List Int) (i:Nat):Bool:=!(i == 0) && !((movL (e.S.getD i default) (e.S.getD i default).length).any fun x=>!(T.any fun y=>x == y))
def wsR (A:List Int) (e:Ex) (ok:Bool) (T:List Int):List Int×Bool :=
  if ok=true then match (List.range e.S.length).find? (wsB e T) with
    | some i=>if e.D.getD i 0≤200 then (ltr A (wdE e i),true) else ([],false)
    | none=>([],false)
  else ([],false)
end Bf
end Go.AM
namespace Go.AM
namespace Bf
open Ch (PN pt idL)
theorem eff_ev (n:Int) (mv:List (List Int)) (A:List Int) (u:List Nat):∀ k,k≤u.length→effK n mv (ltr A u) k=evN n.toNat mv A (idL n.toNat) (u.take k)
  | 0,_=>by rw [List.take_zero];rfl
  | k+1,h=>by
    have hg:(ltr A u).getD k 0=A.getD (u.getD k 0) 0:=by
      rw [ltr,getD_eq _ _ _ (by rw [List.length_map];omega),List.getElem_map,← getD_eq u k 0 (by omega)]
    have ht:u.take (k+1)=u.take k++[u.getD k 0]:=by rw [getD_eq u k 0 h,List.take_succ_eq_append_getElem h]
    rw [effK,eff_ev n mv A u k (by omega),hg,ht,evN_app,evN,evN]
theorem mov_nil {n:Nat} {s:List Int} (h:PN n s) (hm:movL s n=[]):s=idL n:=by
  refine ext_getD 0 (by rw [runI_len];exact h.1) fun x hx=>?_
  have hx':x<n:=by have:=h.1;omega
  rw [runI_get 0 _ x hx']
  have:¬ ((x:Int)∈movL s n):=by rw [hm];simp
  rw [mem_movL] at this
  by_cases c:s.getD x 0=(x:Int)
  · rw [c];omega
  · exact absurd ⟨x,hx',c,rfl⟩ this
def inT (T:List Int) (s:List Int):Bool:=!((movL s s.length).any fun x=>!(T.any fun y=>x == y))
def fdK (e:Ex) (T:List Int):Nat→Bool
  | 0=>false
  | k+1=>fdK e T k || inT T (e.S.getD (k+1) default)
end Bf
end Go.AM
namespace Go.AM
/-! a word backwards,each letter turned -/
def invW (w:List Int):List Int:=w.reverse.map fun x=>-x
def invK (w:List Int):Nat→List Int
  | 0=>[]
  | k+1=>invK w k++[-(w.getD (w.length - 1 - k) 0)]
end Go.AM
set_option maxRecDepth 8000
namespace Go.AM
namespace Wo
open Go.Proofs
open Ch (PN pt idL cst cst_len)
open Bf (Ex dOf Fin srtS)
open Ck (stN)
open Sr (fS sR sR_yes sR_no sR_ok sR_len searchC depthOfS)
theorem sSearchState (p:Puzz) (s:List Int) (h:smallP p) (hs:1≤stN p∧stN p≤3000) (hm:s∈(sR p).1.S) :
    SpecAt Try.prog 209 [p.sl,isl s] (.tup [fS (sR p).1.S (cst (sR p).1.D) (srtS (sR p).1.S) true,.i64 (dOf (sR p).1 s:Nat),.bl true]):=by
  have q1:=searchC p h
  obtain ⟨hd,hR⟩:=sR_yes hs
  have hF:=sR_fin hs
  have hn20:=hd.1.1
  have hle:=sR_len hd
  rw [hR] at q1 hm ⊢
  dsimp only at q1 hm ⊢
  generalize Bf.out p.mv (letL p.mv.length) p.n.toNat 3000=e at *
  have hok:=hF.ok
  have hpn:=(hok.el s hm).1
  have q2:=sIsState p s h hd ⟨by have:=hpn.1;omega,hpn.2⟩
  have q3:=depthOfS p.n.toNat e true s (Bf.srtS_ok hok.nd (fun t ht=>(hok.el t ht).1.1)) hok.nd (by omega) hpn.1 (by omega) hok.lD
  rw [if_pos hm] at q3
  have hd0:(0:Int)≤((dOf e s:Nat):Int):=by omega
  generalize dOf e s=d at *
  refine spec_of_awp (M:=MM) (np:=2) (fz:=true) mixed Try.func209 rfl rfl (by decide) rfl (Nat.le_refl _) (by decide +kernel) (.inr ⟨rfl,rfl⟩) trivial ?_
  simp -dsimp -implicitDefEqProofs (disch:=first | omega | (simp only [lenr];try omega)) only [↓amPre,amAll,↓reduceIte,reduceCtorEq,Nat.reduceEqDiff,Nat.reduceBEq,Nat.reduceAdd,Nat.reduceLeDiff,Nat.reduceSub,Nat.reduceMul,Int.reduceToNat,List.size_toArray,tyF,MM,bu0,cbU49]
  refine callP_of (q1) ?_
  simp -dsimp -implicitDefEqProofs (disch:=first | omega | (simp only [lenr];try omega)) only [↓amPre,amAll,↓reduceIte,reduceCtorEq,Nat.reduceEqDiff,Nat.reduceBEq,Nat.reduceAdd,Nat.reduceLeDiff,Nat.reduceSub,Nat.reduceMul,Int.reduceToNat,List.size_toArray,tyF,MM,bu0,cbU49]
  refine callP_of (q2) ?_
  simp -dsimp -implicitDefEqProofs (disch:=first | omega | (simp only [lenr];try omega)) only [↓amPre,amAll,↓reduceIte,reduceCtorEq,Nat.reduceEqDiff,Nat.reduceBEq,Nat.reduceAdd,Nat.reduceLeDiff,Nat.reduceSub,Nat.reduceMul,Int.reduceToNat,List.size_toArray,tyF,MM,bu0,cbU49]
  refine callP_of (q3) ?_
  simp -dsimp -implicitDefEqProofs (disch:=first | omega | (simp only [lenr];try omega)) only [↓amPre,amAll,↓reduceIte,reduceCtorEq,Nat.reduceEqDiff,Nat.reduceBEq,Nat.reduceAdd,Nat.reduceLeDiff,Nat.reduceSub,Nat.reduceMul,Int.reduceToNat,List.size_toArray,tyF,MM,bu0,cbU49,hd0]
theorem sDistance (p:Puzz) (s:List Int) (h:smallP p) (hs:1≤stN p∧stN p≤3000) (hm:s∈(sR p).1.S) :
    SpecAt Try.prog 144 [p.sl,isl s] (.i64 (dOf (sR p).1 s:Nat)):=by
  have q1:=sSearchState p s h hs hm
  generalize (sR p).1=e at *
  generalize dOf e s=d at *
  refine spec_of_awp (M:=MM) (np:=2) (fz:=true) mixed Try.func144 rfl rfl (by decide) rfl (Nat.le_refl _) (by decide +kernel) (.inr ⟨rfl,rfl⟩) trivial ?_
  simp -dsimp -implicitDefEqProofs (disch:=first | omega | (simp only [lenr];try omega)) only [↓amPre,amAll,↓reduceIte,reduceCtorEq,Nat.reduceEqDiff,Nat.reduceBEq,Nat.reduceAdd,Nat.reduceLeDiff,Nat.reduceSub,Nat.reduceMul,Int.reduceToNat,List.size_toArray,tyF,MM,bu0,cbU49]
  refine callP_of (q1) ?_
  simp -dsimp -implicitDefEqProofs (disch:=first | omega | (simp only [lenr];try omega)) only [↓amPre,amAll,↓reduceIte,reduceCtorEq,Nat.reduceEqDiff,Nat.reduceBEq,Nat.reduceAdd,Nat.reduceLeDiff,Nat.reduceSub,Nat.reduceMul,Int.reduceToNat,List.size_toArray,tyF,MM,bu0,cbU49]
end Wo
end Go.AM
namespace Go.AM
namespace Bf
open Ch (PN pt idL Gen)
theorem eff_gen {n:Nat} {mv:List (List Int)} (h1:1≤n) (h2:n≤20) (hm:∀ s∈mv,PN n s) {w:List Int} (hw:∀ x∈w,x∈letL mv.length):∀ k,k≤w.length→PN n (effK n mv w k)∧Gen n mv (effK n mv w k)
  | 0,_=>⟨PN.one h1 h2,.one⟩
  | k+1,hk=>by
    rw [effK]
    exact nbr_ok h1 h2 hm (eff_gen h1 h2 hm hw k (by omega)) (hw _ (mem_getD w k 0 (by omega)))
theorem letOk_mem {m:Nat} {x:Int} (h:letOk m x):x∈letL m:=by
  rw [letL_mem]
  unfold letOk at h
  omega
theorem Fin.dOf_le {n:Nat} {mv:List (List Int)} {A:List Int} {e:Ex} (f:Fin n mv A e) {s:List Int} (h:s∈e.S):dOf e s≤e.D.getD (e.D.length - 1) 0:=by
  have hi:=List.idxOf_lt_length_iff.2 h
  have hl:=f.ok.lD
  exact f.tm.dep _ _ (by omega) (by omega)
def hsK (e:Ex) (st:Nat→List Int):Nat→List Int
  | 0=>List.replicate (e.D.getD (e.D.length - 1) 0+1) 0
  | k+1=>(hsK e st k).set (dOf e (st k)) ((hsK e st k).getD (dOf e (st k)) 0+1)
theorem hsK_len (e:Ex) (st:Nat→List Int):∀ k,(hsK e st k).length=e.D.getD (e.D.length - 1) 0+1
  | 0=>by rw [hsK,List.length_replicate]
  | k+1=>by rw [hsK,List.length_set,hsK_len e st k]
theorem hsK_bd (e:Ex) (st:Nat→List Int):∀ k j,0≤(hsK e st k).getD j 0∧(hsK e st k).getD j 0≤k
  | 0,j=>by
    rw [hsK]
    rcases Nat.lt_or_ge j (List.replicate (e.D.getD (e.D.length - 1) 0+1) (0:Int)).length with q | q
    · rw [getD_eq _ _ _ q,List.getElem_replicate];omega
    · rw [List.getD_eq_getElem?_getD,List.getElem?_eq_none q];simp
  | k+1,j=>by
    have h1:=hsK_bd e st k j
    have h2:=hsK_bd e st k (dOf e (st k))
    rw [hsK]
    rcases Nat.lt_or_ge j ((hsK e st k).set (dOf e (st k)) ((hsK e st k).getD (dOf e (st k)) 0+1)).length with q | q
    · rw [getD_eq _ _ _ q,List.getElem_set]
      split
      · omega
      · rw [← getD_eq _ j 0 (by simpa using q)];omega
    · rw [List.getD_eq_getElem?_getD,List.getElem?_eq_none q];simp;omega
end Bf
end Go.AM
set_option maxRecDepth 8000
namespace Go.AM
namespace Hs
open Go.Proofs
open Ch (PN pt idL cst cst_len)
open Bf (Ex nxO idxM byL dOf hsK hsK_len hsK_bd)
open Ck (stN exT exA sfr nxT)
open Sr (sR sR_yes sR_no sR_ok sR_len exC diameterI sDiameter)
open Wo (sR_fin sDistance fz1 fz2 fz3)
def MM:FuncId→List Bool:=fun f=>if f=138 then [true,false] else []
theorem smallE_of {n:Nat} {s:List Int} (h:PN n s):smallE s:=fun x hx=>by have a:=h.2.2.1 x hx;have b:=h.2.1;omega
theorem atG (p:Puzz) (e:Ex) (Nx:List (List Nat)) (s:List Int) (x:Value) (hS:∀ t∈e.S,smallE t) (hs:smallE s) (hl:s.length≤20) (hm:s∈e.S) :
    SpecX Try.prog 138 [.pt 9 (.agg [.i64 p.n,.st p.nm,ssl p.mv,sfr e.S,.v x,.mt true (idxM e.S),itr (cst e.Pa),itr (byL (letL p.mv.length) e.J),.tr 1 (Nx.map fun r=>itr (cst r))]),isl s]
      [some (.pt 9 (.agg [.i64 p.n,.st p.nm,ssl p.mv,sfr e.S,.v x,.mt true (idxM e.S),itr (cst e.Pa),itr (byL (letL p.mv.length) e.J),.tr 1 (Nx.map fun r=>itr (cst r))]))] (.i64 (e.S.idxOf s:Nat)):=by
  have q:=stateKeyI s hs (by omega)
  have hlk:=Bf.idxM_at hS hs
  rw [if_pos hm] at hlk
  refine spec_of_awp (M:=MM) (np:=2) (fz:=false) mixed Try.func138 rfl rfl (by decide) rfl (Nat.le_refl _) (by decide +kernel) (.inl rfl) (by first | trivial | simp only [sigsOk_nil,sigsOk_some,sigsOk_none,sig_tr,sig_pt,sig_mt,sig_agg,List.map_cons,List.map_nil,sig1_tr,sig1_pt,sig1_v,and_self,true_and,List.length_map,List.length_set]) ?_
  simp -dsimp -implicitDefEqProofs (disch:=first | omega | (simp only [lenr];try omega)) only [↓amPre,amAll,↓reduceIte,reduceCtorEq,Nat.reduceEqDiff,Nat.reduceBEq,Nat.reduceAdd,Nat.reduceLeDiff,Nat.reduceSub,Nat.reduceMul,Int.reduceToNat,List.size_toArray,tyF,MM,bu0,cbU49]
  refine callP_of (q) ?_
  simp -dsimp -implicitDefEqProofs (disch:=first | omega | (simp only [lenr];try omega)) only [↓amPre,amAll,↓reduceIte,reduceCtorEq,Nat.reduceEqDiff,Nat.reduceBEq,Nat.reduceAdd,Nat.reduceLeDiff,Nat.reduceSub,Nat.reduceMul,Int.reduceToNat,List.size_toArray,tyF,MM,bu0,cbU49,hlk]
theorem at_pin (p:Puzz) (e:Ex) (Nx:List (List Nat)) (s:List Int) (hS:∀ t∈e.S,smallE t) (hs:smallE s) (hl:s.length≤20) (hm:s∈e.S) :
    SpecP Try.prog 138 [exT p e Nx,isl s] [some (exT p e Nx)] (.i64 (e.S.idxOf s:Nat)) (pinAdd (fun _ _=>false) 0 [(0,4)]):=by
  refine spec_pin (j0:=0) (z:=9) (z':=9) (X:=itr (cst e.D)) (T2:=fun x=>.pt 9 (.agg [.i64 p.n,.st p.nm,ssl p.mv,sfr e.S,.v x,.mt true (idxM e.S),itr (cst e.Pa),itr (byL (letL p.mv.length) e.J),.tr 1 (Nx.map fun r=>itr (cst r))])) (p:=[]) (i:=0) (j:=4) rfl rfl rfl rfl rfl (fun x=>⟨_,rfl⟩) (fun x=>rfl) (fun x=>⟨⟨rfl,(by decide:(4:Nat)<9)⟩,rfl⟩) (fun x=>rfl) (fun x=>?_)
  exact Ck.specP_of (atG p e Nx s x hS hs hl hm)
noncomputable def hP (p:Puzz) (x c t:Int):List Int:=if (1≤stN p∧stN p≤3000)∧canScr p x c∧within t 0 50=true∧x+t≤2147483647 then hsK (sR p).1 (fun k=>scrS p (x+k) c) t.toNat else []
theorem canScr_up {p:Puzz} {x c:Int} {t k:Nat} (h:canScr p x c) (hx:x+t≤2147483647) (hk:k<t):canScr p (x+k) c:=by
  refine ⟨h.1,within_iff.2 ?_,h.2.2⟩
  have:=within_iff.1 h.2.1
  omega
theorem scrS_in {p:Puzz} {x c:Int} (hs:1≤stN p∧stN p≤3000) (h:canScr p x c):scrS p x c∈(sR p).1.S∧PN p.n.toNat (scrS p x c):=by
  obtain ⟨hd,hR⟩:=sR_yes hs
  have hF:=sR_fin hs
  have hpn:=Ck.puzz_pn hd
  have h1:=hd.1.1
  have hw:=(scrR_word h).1.2
  have hn:((p.n.toNat:Nat):Int)=p.n:=by omega
  have hz:scrS p x c=effK p.n p.mv (scrR p x c) (scrR p x c).length:=if_pos h
  have:=Bf.eff_gen (n:=p.n.toNat) (mv:=p.mv) (by omega) (by omega) hpn (w:=scrR p x c) (fun y hy=>Bf.letOk_mem (hw y hy)) _ (Nat.le_refl _)
  rw [hn,← hz] at this
  rw [hR]
  exact ⟨(hF.all _).2 this.2,this.1⟩
theorem sHist (p:Puzz) (x c t:Int) (h:smallP p):SpecAt Try.prog 53 [p.sl,.i64 x,.i64 c,.i64 t] (itr (hP p x c t)):=by
  have q1:=sDiameter p h
  by_cases hs:1≤stN p∧stN p≤3000
  case neg =>
    have hz:hP p x c t=[]:=if_neg (fun q=>hs q.1)
    rw [sR_no hs,if_neg (by simp)] at q1
    rw [hz]
    refine spec_of_awp (M:=MM) (np:=4) (fz:=false) mixed Try.func53 rfl rfl (by decide) rfl (Nat.le_refl _) (by decide +kernel) (.inl rfl) (by first | trivial | simp only [sigsOk_nil,sigsOk_some,sigsOk_none,sig_tr,sig_pt,sig_mt,sig_agg,List.map_cons,List.map_nil,sig1_tr,sig1_pt,sig1_v,and_self,true_and,List.length_map,List.length_set]) ?_
    simp -dsimp -implicitDefEqProofs (disch:=first | omega | (simp only [lenr];try omega)) only [↓amPre,amAll,↓reduceIte,reduceCtorEq,Nat.reduceEqDiff,Nat.reduceBEq,Nat.reduceAdd,Nat.reduceLeDiff,Nat.reduceSub,Nat.reduceMul,Int.reduceToNat,List.size_toArray,tyF,MM,bu0,cbU49]
    refine callP_of (q1) ?_
    simp -dsimp -implicitDefEqProofs (disch:=first | omega | (simp only [lenr];try omega)) only [↓amPre,amAll,↓reduceIte,reduceCtorEq,Nat.reduceEqDiff,Nat.reduceBEq,Nat.reduceAdd,Nat.reduceLeDiff,Nat.reduceSub,Nat.reduceMul,Int.reduceToNat,List.size_toArray,tyF,MM,bu0,cbU49]
  obtain ⟨hd,hR⟩:=sR_yes hs
  have hF:=sR_fin hs
  have hle:=sR_len hd
  have hin:=fun y hy=>scrS_in (p:=p) (x:=y) (c:=c) hs hy
  have hsd:=fun s hm=>sDistance p s h hs hm
  rw [hP]
  rw [hR] at q1 hin hsd ⊢
  dsimp only at q1 hin hsd ⊢
  rw [if_pos rfl] at q1
  generalize Bf.out p.mv (letL p.mv.length) p.n.toNat 3000=e at *
  have hM0:¬ (((e.D.getD (e.D.length - 1) 0:Nat):Int)<0):=by omega
  have l1:=isSeedS x
  have l2:=isLenS c
  have l3:=inRange t 0 50
  by_cases c1:within x 0 2147483646=true
  case neg =>
    rw [if_neg (fun q=>c1 q.2.1.2.1)]
    rw [show within x 0 2147483646=false by simpa using c1] at l1
    refine spec_of_awp (M:=MM) (np:=4) (fz:=false) mixed Try.func53 rfl rfl (by decide) rfl (Nat.le_refl _) (by decide +kernel) (.inl rfl) (by first | trivial | simp only [sigsOk_nil,sigsOk_some,sigsOk_none,sig_tr,sig_pt,sig_mt,sig_agg,List.map_cons,List.map_nil,sig1_tr,sig1_pt,sig1_v,and_self,true_and,List.length_map,List.length_set]) ?_
    simp -dsimp -implicitDefEqProofs (disch:=first | omega | (simp only [lenr];try omega)) only [↓amPre,amAll,↓reduceIte,reduceCtorEq,Nat.reduceEqDiff,Nat.reduceBEq,Nat.reduceAdd,Nat.reduceLeDiff,Nat.reduceSub,Nat.reduceMul,Int.reduceToNat,List.size_toArray,tyF,MM,bu0,cbU49]
    refine callP_of (q1) ?_
    simp -dsimp -implicitDefEqProofs (disch:=first | omega | (simp only [lenr];try omega)) only [↓amPre,amAll,↓reduceIte,reduceCtorEq,Nat.reduceEqDiff,Nat.reduceBEq,Nat.reduceAdd,Nat.reduceLeDiff,Nat.reduceSub,Nat.reduceMul,Int.reduceToNat,List.size_toArray,tyF,MM,bu0,cbU49,lt_false (Int.not_lt.1 hM0)]
    refine callP_of (l1) ?_
    simp -dsimp -implicitDefEqProofs (disch:=first | omega | (simp only [lenr];try omega)) only [↓amPre,amAll,↓reduceIte,reduceCtorEq,Nat.reduceEqDiff,Nat.reduceBEq,Nat.reduceAdd,Nat.reduceLeDiff,Nat.reduceSub,Nat.reduceMul,Int.reduceToNat,List.size_toArray,tyF,MM,bu0,cbU49]
  rw [c1] at l1
  by_cases c2:within c 0 200=true
  case neg =>
    rw [if_neg (fun q=>c2 q.2.1.2.2)]
    rw [show within c 0 200=false by simpa using c2] at l2
    refine spec_of_awp (M:=MM) (np:=4) (fz:=false) mixed Try.func53 rfl rfl (by decide) rfl (Nat.le_refl _) (by decide +kernel) (.inl rfl) (by first | trivial | simp only [sigsOk_nil,sigsOk_some,sigsOk_none,sig_tr,sig_pt,sig_mt,sig_agg,List.map_cons,List.map_nil,sig1_tr,sig1_pt,sig1_v,and_self,true_and,List.length_map,List.length_set]) ?_
    simp -dsimp -implicitDefEqProofs (disch:=first | omega | (simp only [lenr];try omega)) only [↓amPre,amAll,↓reduceIte,reduceCtorEq,Nat.reduceEqDiff,Nat.reduceBEq,Nat.reduceAdd,Nat.reduceLeDiff,Nat.reduceSub,Nat.reduceMul,Int.reduceToNat,List.size_toArray,tyF,MM,bu0,cbU49]
    refine callP_of (q1) ?_
    simp -dsimp -implicitDefEqProofs (disch:=first | omega | (simp only [lenr];try omega)) only [↓amPre,amAll,↓reduceIte,reduceCtorEq,Nat.reduceEqDiff,Nat.reduceBEq,Nat.reduceAdd,Nat.reduceLeDiff,Nat.reduceSub,Nat.reduceMul,Int.reduceToNat,List.size_toArray,tyF,MM,bu0,cbU49,lt_false (Int.not_lt.1 hM0)]
    refine callP_of (l1) ?_
    simp -dsimp -implicitDefEqProofs (disch:=first | omega | (simp only [lenr];try omega)) only [↓amPre,amAll,↓reduceIte,reduceCtorEq,Nat.reduceEqDiff,Nat.reduceBEq,Nat.reduceAdd,Nat.reduceLeDiff,Nat.reduceSub,Nat.reduceMul,Int.reduceToNat,List.size_toArray,tyF,MM,bu0,cbU49]
    refine callP_of (l2) ?_
    simp -dsimp -implicitDefEqProofs (disch:=first | omega | (simp only [lenr];try omega)) only [↓amPre,amAll,↓reduceIte,reduceCtorEq,Nat.reduceEqDiff,Nat.reduceBEq,Nat.reduceAdd,Nat.reduceLeDiff,Nat.reduceSub,Nat.reduceMul,Int.reduceToNat,List.size_toArray,tyF,MM,bu0,cbU49]
  rw [c2] at l2
  by_cases c3:within t 0 50=true
  case neg =>
    rw [if_neg (fun q=>c3 q.2.2.1)]
    rw [show within t 0 50=false by simpa using c3] at l3
    refine spec_of_awp (M:=MM) (np:=4) (fz:=false) mixed Try.func53 rfl rfl (by decide) rfl (Nat.le_refl _) (by decide +kernel) (.inl rfl) (by first | trivial | simp only [sigsOk_nil,sigsOk_some,sigsOk_none,sig_tr,sig_pt,sig_mt,sig_agg,List.map_cons,List.map_nil,sig1_tr,sig1_pt,sig1_v,and_self,true_and,List.length_map,List.length_set]) ?_
    simp -dsimp -implicitDefEqProofs (disch:=first | omega | (simp only [lenr];try omega)) only [↓amPre,amAll,↓reduceIte,reduceCtorEq,Nat.reduceEqDiff,Nat.reduceBEq,Nat.reduceAdd,Nat.reduceLeDiff,Nat.reduceSub,Nat.reduceMul,Int.reduceToNat,List.size_toArray,tyF,MM,bu0,cbU49]
    refine callP_of (q1) ?_
    simp -dsimp -implicitDefEqProofs (disch:=first | omega | (simp only [lenr];try omega)) only [↓amPre,amAll,↓reduceIte,reduceCtorEq,Nat.reduceEqDiff,Nat.reduceBEq,Nat.reduceAdd,Nat.reduceLeDiff,Nat.reduceSub,Nat.reduceMul,Int.reduceToNat,List.size_toArray,tyF,MM,bu0,cbU49,lt_false (Int.not_lt.1 hM0)]
    refine callP_of (l1) ?_
    simp -dsimp -implicitDefEqProofs (disch:=first | omega | (simp only [lenr];try omega)) only [↓amPre,amAll,↓reduceIte,reduceCtorEq,Nat.reduceEqDiff,Nat.reduceBEq,Nat.reduceAdd,Nat.reduceLeDiff,Nat.reduceSub,Nat.reduceMul,Int.reduceToNat,List.size_toArray,tyF,MM,bu0,cbU49]
    refine callP_of (l2) ?_
    simp -dsimp -implicitDefEqProofs (disch:=first | omega | (simp only [lenr];try omega)) only [↓amPre,amAll,↓reduceIte,reduceCtorEq,Nat.reduceEqDiff,Nat.reduceBEq,Nat.reduceAdd,Nat.reduceLeDiff,Nat.reduceSub,Nat.reduceMul,Int.reduceToNat,List.size_toArray,tyF,MM,bu0,cbU49]
    refine callP_of (l3) ?_
    simp -dsimp -implicitDefEqProofs (disch:=first | omega | (simp only [lenr];try omega)) only [↓amPre,amAll,↓reduceIte,reduceCtorEq,Nat.reduceEqDiff,Nat.reduceBEq,Nat.reduceAdd,Nat.reduceLeDiff,Nat.reduceSub,Nat.reduceMul,Int.reduceToNat,List.size_toArray,tyF,MM,bu0,cbU49]
  rw [c3] at l3
  have b1:=within_iff.1 c1
  have b3:=within_iff.1 c3
  have hw:IntKind.i64.wrap (x+t)=x+t:=wrap64_id (by omega)
  by_cases c4:x+t≤2147483647
  case neg =>
    rw [if_neg (fun q=>c4 q.2.2.2)]
    refine spec_of_awp (M:=MM) (np:=4) (fz:=false) mixed Try.func53 rfl rfl (by decide) rfl (Nat.le_refl _) (by decide +kernel) (.inl rfl) (by first | trivial | simp only [sigsOk_nil,sigsOk_some,sigsOk_none,sig_tr,sig_pt,sig_mt,sig_agg,List.map_cons,List.map_nil,sig1_tr,sig1_pt,sig1_v,and_self,true_and,List.length_map,List.length_set]) ?_
    simp -dsimp -implicitDefEqProofs (disch:=first | omega | (simp only [lenr];try omega)) only [↓amPre,amAll,↓reduceIte,reduceCtorEq,Nat.reduceEqDiff,Nat.reduceBEq,Nat.reduceAdd,Nat.reduceLeDiff,Nat.reduceSub,Nat.reduceMul,Int.reduceToNat,List.size_toArray,tyF,MM,bu0,cbU49]
    refine callP_of (q1) ?_
    simp -dsimp -implicitDefEqProofs (disch:=first | omega | (simp only [lenr];try omega)) only [↓amPre,amAll,↓reduceIte,reduceCtorEq,Nat.reduceEqDiff,Nat.reduceBEq,Nat.reduceAdd,Nat.reduceLeDiff,Nat.reduceSub,Nat.reduceMul,Int.reduceToNat,List.size_toArray,tyF,MM,bu0,cbU49,lt_false (Int.not_lt.1 hM0)]
    refine callP_of (l1) ?_
    simp -dsimp -implicitDefEqProofs (disch:=first | omega | (simp only [lenr];try omega)) only [↓amPre,amAll,↓reduceIte,reduceCtorEq,Nat.reduceEqDiff,Nat.reduceBEq,Nat.reduceAdd,Nat.reduceLeDiff,Nat.reduceSub,Nat.reduceMul,Int.reduceToNat,List.size_toArray,tyF,MM,bu0,cbU49]
    refine callP_of (l2) ?_
    simp -dsimp -implicitDefEqProofs (disch:=first | omega | (simp only [lenr];try omega)) only [↓amPre,amAll,↓reduceIte,reduceCtorEq,Nat.reduceEqDiff,Nat.reduceBEq,Nat.reduceAdd,Nat.reduceLeDiff,Nat.reduceSub,Nat.reduceMul,Int.reduceToNat,List.size_toArray,tyF,MM,bu0,cbU49]
    refine callP_of (l3) ?_
    simp -dsimp -implicitDefEqProofs (disch:=first | omega | (simp only [lenr];try omega)) only [↓amPre,amAll,↓reduceIte,reduceCtorEq,Nat.reduceEqDiff,Nat.reduceBEq,Nat.reduceAdd,Nat.reduceLeDiff,Nat.reduceSub,Nat.reduceMul,Int.reduceToNat,List.size_toArray,tyF,MM,bu0,cbU49,hw,lt_true (Int.not_le.1 c4)]
  have hcan:canScr p x c:=⟨hd,c1,c2⟩
  rw [if_pos ⟨hs,hcan,c3,c4⟩]
  obtain ⟨m,rfl⟩:∃ m:Nat,t=m:=⟨t.toNat,by omega⟩
  rw [Int.toNat_natCast]
  have hdl:∀ i,i<e.D.length→e.D.getD i 0≤3000:=fun i hi=>by have:=hF.tm.d_le _ i (Nat.le_refl _) (by have:=hF.ok.lD;omega);have:=hF.ok.lD;omega
  have hz1:=hF.ok.z.1
  have hlD:=hF.ok.lD
  have hM:=hdl (e.D.length - 1) (by omega)
  have hdle:=fun s hm=>hF.dOf_le (s:=s) hm
  have hk0:=hsK_len e (fun k=>scrS p (x+k) c)
  have hkb:=hsK_bd e (fun k=>scrS p (x+k) c)
  have h0:hsK e (fun k=>scrS p (x+k) c) 0=List.replicate (e.D.getD (e.D.length - 1) 0+1) 0:=rfl
  have hst:∀ k:Nat,hsK e (fun k=>scrS p (x+k) c) (k+1)=(hsK e (fun k=>scrS p (x+k) c) k).set (dOf e (scrS p (x+k) c)) ((hsK e (fun k=>scrS p (x+k) c) k).getD (dOf e (scrS p (x+k) c)) 0+1):=fun _=>rfl
  generalize e.D.getD (e.D.length - 1) 0=M at *
  generalize hsK e (fun k=>scrS p (x+k) c)=H at *
  have hwM:IntKind.i64.wrap ((M:Int)+1)=((M+1:Nat):Int):=by rw [wrap64_id (by omega)];omega
  refine spec_of_awp (M:=MM) (np:=4) (fz:=false) mixed Try.func53 rfl rfl (by decide) rfl (Nat.le_refl _) (by decide +kernel) (.inl rfl) (by first | trivial | simp only [sigsOk_nil,sigsOk_some,sigsOk_none,sig_tr,sig_pt,sig_mt,sig_agg,List.map_cons,List.map_nil,sig1_tr,sig1_pt,sig1_v,and_self,true_and,List.length_map,List.length_set]) ?_
  simp -dsimp -implicitDefEqProofs (disch:=first | omega | (simp only [lenr];try omega)) only [↓amPre,amAll,↓reduceIte,reduceCtorEq,Nat.reduceEqDiff,Nat.reduceBEq,Nat.reduceAdd,Nat.reduceLeDiff,Nat.reduceSub,Nat.reduceMul,Int.reduceToNat,List.size_toArray,tyF,MM,bu0,cbU49]
  refine callP_of (q1) ?_
  simp -dsimp -implicitDefEqProofs (disch:=first | omega | (simp only [lenr];try omega)) only [↓amPre,amAll,↓reduceIte,reduceCtorEq,Nat.reduceEqDiff,Nat.reduceBEq,Nat.reduceAdd,Nat.reduceLeDiff,Nat.reduceSub,Nat.reduceMul,Int.reduceToNat,List.size_toArray,tyF,MM,bu0,cbU49,lt_false (Int.not_lt.1 hM0)]
  refine callP_of (l1) ?_
  simp -dsimp -implicitDefEqProofs (disch:=first | omega | (simp only [lenr];try omega)) only [↓amPre,amAll,↓reduceIte,reduceCtorEq,Nat.reduceEqDiff,Nat.reduceBEq,Nat.reduceAdd,Nat.reduceLeDiff,Nat.reduceSub,Nat.reduceMul,Int.reduceToNat,List.size_toArray,tyF,MM,bu0,cbU49]
  refine callP_of (l2) ?_
  simp -dsimp -implicitDefEqProofs (disch:=first | omega | (simp only [lenr];try omega)) only [↓amPre,amAll,↓reduceIte,reduceCtorEq,Nat.reduceEqDiff,Nat.reduceBEq,Nat.reduceAdd,Nat.reduceLeDiff,Nat.reduceSub,Nat.reduceMul,Int.reduceToNat,List.size_toArray,tyF,MM,bu0,cbU49]
  refine callP_of (l3) ?_
  simp -dsimp -implicitDefEqProofs (disch:=first | omega | (simp only [lenr];try omega)) only [↓amPre,amAll,↓reduceIte,reduceCtorEq,Nat.reduceEqDiff,Nat.reduceBEq,Nat.reduceAdd,Nat.reduceLeDiff,Nat.reduceSub,Nat.reduceMul,Int.reduceToNat,List.size_toArray,tyF,MM,bu0,cbU49,hw,lt_false c4,hwM]
  refine awp_loop (fun k st=>k≤m∧st.fr 11=.i64 k∧st.fr 3=.i64 m∧st.fr 10=.ref 42 [] 1 0 (M+1)∧st.fr 4=.loc 4 [] 0 0∧st.fr 1=.i64 x∧st.fr 2=.i64 c∧st.mem 42=some (itr (H k))∧st.mem 4=some (.pt 3 p.sl)) (m) ?_ ?_
  · simp -dsimp -implicitDefEqProofs (disch:=first | omega | (simp only [lenr];try omega)) only [↓amPre,amAll,↓reduceIte,reduceCtorEq,Nat.reduceEqDiff,Nat.reduceBEq,Nat.reduceAdd,Nat.reduceLeDiff,Nat.reduceSub,Nat.reduceMul,Int.reduceToNat,List.size_toArray,tyF,MM,bu0,cbU49]
    exact ⟨Nat.zero_le _,rfl,by rw [h0]⟩
  rintro k st _ ⟨hk,f11,f3,f10,f4,f1,f2,m42,m4⟩
  by_cases hlt:k<m
  · have hlt':(k:Int)<(m:Int):=by omega
    have hck:=canScr_up (k:=k) hcan c4 hlt
    obtain ⟨g1,g2⟩:=hin _ hck
    have q2:=sScrambledState p (x+k) c h
    rw [decide_eq_true hck] at q2
    have q3:=hsd _ g1
    have g3:=hdle _ g1
    have g4:=hst k
    have g5:=hk0 k
    have g6:=hkb k (dOf e (scrS p (x+k) c))
    have hwx:IntKind.i64.wrap (x+k)=x+k:=wrap64_id (by omega)
    generalize dOf e (scrS p (x+k) c)=d at *
    generalize scrS p (x+k) c=s at *
    have hwd:IntKind.i64.wrap ((H k).getD d 0+1)=(H k).getD d 0+1:=wrap64_id (by omega)
    rw [g4]
    generalize H k=l at *
    simp -dsimp -implicitDefEqProofs (disch:=first | omega | (simp only [lenr];try omega)) only [↓amPre,amAll,↓reduceIte,reduceCtorEq,Nat.reduceEqDiff,Nat.reduceBEq,Nat.reduceAdd,Nat.reduceLeDiff,Nat.reduceSub,Nat.reduceMul,Int.reduceToNat,List.size_toArray,tyF,MM,bu0,cbU49,f11,f3,f10,f4,f1,f2,m42,m4,lt_true hlt',hwx]
    refine callP_of (q2) ?_
    simp -dsimp -implicitDefEqProofs (disch:=first | omega | (simp only [lenr];try omega)) only [↓amPre,amAll,↓reduceIte,reduceCtorEq,Nat.reduceEqDiff,Nat.reduceBEq,Nat.reduceAdd,Nat.reduceLeDiff,Nat.reduceSub,Nat.reduceMul,Int.reduceToNat,List.size_toArray,tyF,MM,bu0,cbU49,f11,f3,f10,f4,f1,f2,m42,m4]
    refine callP_of (q3) ?_
    simp -dsimp -implicitDefEqProofs (disch:=first | omega | (simp only [lenr];try omega)) only [↓amPre,amAll,↓reduceIte,reduceCtorEq,Nat.reduceEqDiff,Nat.reduceBEq,Nat.reduceAdd,Nat.reduceLeDiff,Nat.reduceSub,Nat.reduceMul,Int.reduceToNat,List.size_toArray,tyF,MM,bu0,cbU49,f11,f3,f10,f4,f1,f2,m42,m4,g5,hwd]
    exact ⟨hlt,by omega⟩
  · have hke:k=m:=by omega
    subst hke
    have c1':¬ (k:Int)<(k:Int):=by omega
    have g5:=hk0 k
    simp -dsimp -implicitDefEqProofs (disch:=first | omega | (simp only [lenr];try omega)) only [↓amPre,amAll,↓reduceIte,reduceCtorEq,Nat.reduceEqDiff,Nat.reduceBEq,Nat.reduceAdd,Nat.reduceLeDiff,Nat.reduceSub,Nat.reduceMul,Int.reduceToNat,List.size_toArray,tyF,MM,bu0,cbU49,f11,f3,f10,f4,f1,f2,m42,m4,lt_false (Int.not_lt.1 c1'),g5]
end Hs
end Go.AM
set_option maxRecDepth 8000
namespace Go.AM
namespace Hs
open Go.Proofs
open Ch (PN pt idL cst cst_len)
open Bf (Ex nxO idxM byL dOf hsK hsK_len hsK_bd)
open Ck (stN exT exA sfr nxT)
open Sr (sR sR_yes sR_no sR_ok sR_len exC diameterI sDiameter)
open Wo (sR_fin sDistance fz1 fz2 fz3)
theorem iHist (p:Puzz) (x c t:Int) (h:smallP p):SpecAt Try.prog 51 [p.sl,.i64 x,.i64 c,.i64 t] (itr (hP p x c t)):=by
  have q0:=canScramble p x c h
  have l3:=iwithin t 0 50
  by_cases c1:canScr p x c
  case neg =>
    rw [hP,if_neg (fun q=>c1 q.2.1)]
    rw [decide_eq_false c1] at q0
    refine spec_of_awp_any (M:=MM) (np:=4) (X:=[10]) (fz:=false) mixed Try.func51 rfl rfl (by decide) rfl (Nat.le_refl _) (by decide +kernel) (.inl rfl) (by first | trivial | simp only [sigsOk_nil,sigsOk_some,sigsOk_none,sig_tr,sig_pt,sig_mt,sig_agg,List.map_cons,List.map_nil,sig1_tr,sig1_pt,sig1_v,and_self,true_and,List.length_map,List.length_set]) ?_
    simp -dsimp -implicitDefEqProofs (disch:=first | omega | (simp only [lenr];try omega)) only [↓amPre,amAll,↓reduceIte,reduceCtorEq,Nat.reduceEqDiff,Nat.reduceBEq,Nat.reduceAdd,Nat.reduceLeDiff,Nat.reduceSub,Nat.reduceMul,Int.reduceToNat,List.size_toArray,tyF,MM,bu0,cbU49]
    refine callP_of (q0) ?_
    simp -dsimp -implicitDefEqProofs (disch:=first | omega | (simp only [lenr];try omega)) only [↓amPre,amAll,↓reduceIte,reduceCtorEq,Nat.reduceEqDiff,Nat.reduceBEq,Nat.reduceAdd,Nat.reduceLeDiff,Nat.reduceSub,Nat.reduceMul,Int.reduceToNat,List.size_toArray,tyF,MM,bu0,cbU49]
  rw [decide_eq_true c1] at q0
  by_cases c3:within t 0 50=true
  case neg =>
    rw [hP,if_neg (fun q=>c3 q.2.2.1)]
    rw [show within t 0 50=false by simpa using c3] at l3
    refine spec_of_awp_any (M:=MM) (np:=4) (X:=[10]) (fz:=false) mixed Try.func51 rfl rfl (by decide) rfl (Nat.le_refl _) (by decide +kernel) (.inl rfl) (by first | trivial | simp only [sigsOk_nil,sigsOk_some,sigsOk_none,sig_tr,sig_pt,sig_mt,sig_agg,List.map_cons,List.map_nil,sig1_tr,sig1_pt,sig1_v,and_self,true_and,List.length_map,List.length_set]) ?_
    simp -dsimp -implicitDefEqProofs (disch:=first | omega | (simp only [lenr];try omega)) only [↓amPre,amAll,↓reduceIte,reduceCtorEq,Nat.reduceEqDiff,Nat.reduceBEq,Nat.reduceAdd,Nat.reduceLeDiff,Nat.reduceSub,Nat.reduceMul,Int.reduceToNat,List.size_toArray,tyF,MM,bu0,cbU49]
    refine callP_of (q0) ?_
    simp -dsimp -implicitDefEqProofs (disch:=first | omega | (simp only [lenr];try omega)) only [↓amPre,amAll,↓reduceIte,reduceCtorEq,Nat.reduceEqDiff,Nat.reduceBEq,Nat.reduceAdd,Nat.reduceLeDiff,Nat.reduceSub,Nat.reduceMul,Int.reduceToNat,List.size_toArray,tyF,MM,bu0,cbU49]
    refine callP_of (l3) ?_
    simp -dsimp -implicitDefEqProofs (disch:=first | omega | (simp only [lenr];try omega)) only [↓amPre,amAll,↓reduceIte,reduceCtorEq,Nat.reduceEqDiff,Nat.reduceBEq,Nat.reduceAdd,Nat.reduceLeDiff,Nat.reduceSub,Nat.reduceMul,Int.reduceToNat,List.size_toArray,tyF,MM,bu0,cbU49]
  rw [c3] at l3
  have b1:=within_iff.1 c1.2.1
  have b2:=within_iff.1 c1.2.2
  have b3:=within_iff.1 c3
  have hw:IntKind.i64.wrap (x+t)=x+t:=wrap64_id (by omega)
  by_cases c4:x+t≤2147483647
  case neg =>
    rw [hP,if_neg (fun q=>c4 q.2.2.2)]
    refine spec_of_awp_any (M:=MM) (np:=4) (X:=[10]) (fz:=false) mixed Try.func51 rfl rfl (by decide) rfl (Nat.le_refl _) (by decide +kernel) (.inl rfl) (by first | trivial | simp only [sigsOk_nil,sigsOk_some,sigsOk_none,sig_tr,sig_pt,sig_mt,sig_agg,List.map_cons,List.map_nil,sig1_tr,sig1_pt,sig1_v,and_self,true_and,List.length_map,List.length_set]) ?_
    simp -dsimp -implicitDefEqProofs (disch:=first | omega | (simp only [lenr];try omega)) only [↓amPre,amAll,↓reduceIte,reduceCtorEq,Nat.reduceEqDiff,Nat.reduceBEq,Nat.reduceAdd,Nat.reduceLeDiff,Nat.reduceSub,Nat.reduceMul,Int.reduceToNat,List.size_toArray,tyF,MM,bu0,cbU49]
    refine callP_of (q0) ?_
    simp -dsimp -implicitDefEqProofs (disch:=first | omega | (simp only [lenr];try omega)) only [↓amPre,amAll,↓reduceIte,reduceCtorEq,Nat.reduceEqDiff,Nat.reduceBEq,Nat.reduceAdd,Nat.reduceLeDiff,Nat.reduceSub,Nat.reduceMul,Int.reduceToNat,List.size_toArray,tyF,MM,bu0,cbU49]
    refine callP_of (l3) ?_
    simp -dsimp -implicitDefEqProofs (disch:=first | omega | (simp only [lenr];try omega)) only [↓amPre,amAll,↓reduceIte,reduceCtorEq,Nat.reduceEqDiff,Nat.reduceBEq,Nat.reduceAdd,Nat.reduceLeDiff,Nat.reduceSub,Nat.reduceMul,Int.reduceToNat,List.size_toArray,tyF,MM,bu0,cbU49,hw,lt_true (Int.not_le.1 c4)]
  by_cases hs:1≤stN p∧stN p≤3000
  case neg =>
    have q1:=Ck.exploreNo p h hs
    rw [hP,if_neg (fun q=>hs q.1)]
    refine spec_of_awp_any (M:=MM) (np:=4) (X:=[10]) (fz:=false) mixed Try.func51 rfl rfl (by decide) rfl (Nat.le_refl _) (by decide +kernel) (.inl rfl) (by first | trivial | simp only [sigsOk_nil,sigsOk_some,sigsOk_none,sig_tr,sig_pt,sig_mt,sig_agg,List.map_cons,List.map_nil,sig1_tr,sig1_pt,sig1_v,and_self,true_and,List.length_map,List.length_set]) ?_
    simp -dsimp -implicitDefEqProofs (disch:=first | omega | (simp only [lenr];try omega)) only [↓amPre,amAll,↓reduceIte,reduceCtorEq,Nat.reduceEqDiff,Nat.reduceBEq,Nat.reduceAdd,Nat.reduceLeDiff,Nat.reduceSub,Nat.reduceMul,Int.reduceToNat,List.size_toArray,tyF,MM,bu0,cbU49]
    refine callP_of (q0) ?_
    simp -dsimp -implicitDefEqProofs (disch:=first | omega | (simp only [lenr];try omega)) only [↓amPre,amAll,↓reduceIte,reduceCtorEq,Nat.reduceEqDiff,Nat.reduceBEq,Nat.reduceAdd,Nat.reduceLeDiff,Nat.reduceSub,Nat.reduceMul,Int.reduceToNat,List.size_toArray,tyF,MM,bu0,cbU49]
    refine callP_of (l3) ?_
    simp -dsimp -implicitDefEqProofs (disch:=first | omega | (simp only [lenr];try omega)) only [↓amPre,amAll,↓reduceIte,reduceCtorEq,Nat.reduceEqDiff,Nat.reduceBEq,Nat.reduceAdd,Nat.reduceLeDiff,Nat.reduceSub,Nat.reduceMul,Int.reduceToNat,List.size_toArray,tyF,MM,bu0,cbU49,hw,lt_false c4]
    refine callP_of (q1) ?_
    simp -dsimp -implicitDefEqProofs (disch:=first | omega | (simp only [lenr];try omega)) only [↓amPre,amAll,↓reduceIte,reduceCtorEq,Nat.reduceEqDiff,Nat.reduceBEq,Nat.reduceAdd,Nat.reduceLeDiff,Nat.reduceSub,Nat.reduceMul,Int.reduceToNat,List.size_toArray,tyF,MM,bu0,cbU49,Ck.nilPt]
  obtain ⟨hd,hR⟩:=sR_yes hs
  have hF:=sR_fin hs
  have hle:=sR_len hd
  have q1:=Ck.exploreYes p h hs
  have hin:=fun y hy=>scrS_in (p:=p) (x:=y) (c:=c) hs hy
  rw [hP,if_pos ⟨hs,c1,c3,c4⟩]
  rw [hR] at hin ⊢
  dsimp only at hin ⊢
  have hd1:=hd.1.1
  have hnm:=puzz_nm hd
  have qpin:=fun s hS hs hl hm=>at_pin p (Bf.out p.mv (letL p.mv.length) p.n.toNat 3000) (nxO p.mv (letL p.mv.length) p.n.toNat 3000) s hS hs hl hm
  have q2:=fun y=>diameterI p (Bf.out p.mv (letL p.mv.length) p.n.toNat 3000) y (nxO p.mv (letL p.mv.length) p.n.toNat 3000) (by have:=hF.ok.lD;have:=hF.ok.z.1;omega) (by have:=hF.ok.lD;omega)
  generalize nxO p.mv (letL p.mv.length) p.n.toNat 3000=Nx at *
  generalize Bf.out p.mv (letL p.mv.length) p.n.toNat 3000=e at *
  obtain ⟨m,rfl⟩:∃ m:Nat,t=m:=⟨t.toNat,by omega⟩
  obtain ⟨c',rfl⟩:∃ c':Nat,c=c':=⟨c.toNat,by omega⟩
  rw [Int.toNat_natCast]
  have hdl:∀ i,i<e.D.length→e.D.getD i 0≤3000:=fun i hi=>by have:=hF.tm.d_le _ i (Nat.le_refl _) (by have:=hF.ok.lD;omega);have:=hF.ok.lD;omega
  have hok:=hF.ok
  have hz1:=hok.z.1
  have hlD:=hok.lD
  have hM:=hdl (e.D.length - 1) (by omega)
  have hdle:=fun s hm=>hF.dOf_le (s:=s) hm
  have hk0:=hsK_len e (fun k=>scrS p (x+k) c')
  have hkb:=hsK_bd e (fun k=>scrS p (x+k) c')
  have h0:hsK e (fun k=>scrS p (x+k) c') 0=List.replicate (e.D.getD (e.D.length - 1) 0+1) 0:=rfl
  have hst:∀ k:Nat,hsK e (fun k=>scrS p (x+k) c') (k+1)=(hsK e (fun k=>scrS p (x+k) c') k).set (dOf e (scrS p (x+k) c')) ((hsK e (fun k=>scrS p (x+k) c') k).getD (dOf e (scrS p (x+k) c')) 0+1):=fun _=>rfl
  generalize e.D.getD (e.D.length - 1) 0=M at *
  generalize hsK e (fun k=>scrS p (x+k) c')=H at *
  have hwM:IntKind.i64.wrap ((M:Int)+1)=((M+1:Nat):Int):=by rw [wrap64_id (by omega)];omega
  unfold exT at q1 qpin
  have ee:∀ X:List Int,AV.fzL (X.map AV.i64)=X.map AV.i64:=fun X=>by rw [fzL_map,ints_fz]
  refine spec_of_awp_any (M:=MM) (np:=4) (X:=[10]) (fz:=false) mixed Try.func51 rfl rfl (by decide) rfl (Nat.le_refl _) (by decide +kernel) (.inl rfl) (by first | trivial | simp only [sigsOk_nil,sigsOk_some,sigsOk_none,sig_tr,sig_pt,sig_mt,sig_agg,List.map_cons,List.map_nil,sig1_tr,sig1_pt,sig1_v,and_self,true_and,List.length_map,List.length_set]) ?_
  simp -dsimp -implicitDefEqProofs (disch:=first | omega | (simp only [lenr];try omega)) only [↓amPre,amAll,↓reduceIte,reduceCtorEq,Nat.reduceEqDiff,Nat.reduceBEq,Nat.reduceAdd,Nat.reduceLeDiff,Nat.reduceSub,Nat.reduceMul,Int.reduceToNat,List.size_toArray,tyF,MM,bu0,cbU49]
  refine callP_of (q0) ?_
  simp -dsimp -implicitDefEqProofs (disch:=first | omega | (simp only [lenr];try omega)) only [↓amPre,amAll,↓reduceIte,reduceCtorEq,Nat.reduceEqDiff,Nat.reduceBEq,Nat.reduceAdd,Nat.reduceLeDiff,Nat.reduceSub,Nat.reduceMul,Int.reduceToNat,List.size_toArray,tyF,MM,bu0,cbU49]
  refine callP_of (l3) ?_
  simp -dsimp -implicitDefEqProofs (disch:=first | omega | (simp only [lenr];try omega)) only [↓amPre,amAll,↓reduceIte,reduceCtorEq,Nat.reduceEqDiff,Nat.reduceBEq,Nat.reduceAdd,Nat.reduceLeDiff,Nat.reduceSub,Nat.reduceMul,Int.reduceToNat,List.size_toArray,tyF,MM,bu0,cbU49,hw,lt_false c4]
  refine callP_of (q1) ?_
  simp -dsimp -implicitDefEqProofs (disch:=first | omega | (simp only [lenr];try omega)) only [↓amPre,amAll,↓reduceIte,reduceCtorEq,Nat.reduceEqDiff,Nat.reduceBEq,Nat.reduceAdd,Nat.reduceLeDiff,Nat.reduceSub,Nat.reduceMul,Int.reduceToNat,List.size_toArray,tyF,MM,bu0,cbU49,fz1,fz2,fz3]
  refine callP_of (q2 _) ?_
  simp -dsimp -implicitDefEqProofs (disch:=first | omega | (simp only [lenr];try omega)) only [↓amPre,amAll,↓reduceIte,reduceCtorEq,Nat.reduceEqDiff,Nat.reduceBEq,Nat.reduceAdd,Nat.reduceLeDiff,Nat.reduceSub,Nat.reduceMul,Int.reduceToNat,List.size_toArray,tyF,MM,bu0,cbU49,hwM]
  refine awp_loop (fun k st=>k≤m∧st.fr 41=.i64 k∧st.fr 40=.i64 m∧st.fr 11=.ref 39 [] 1 0 (M+1)∧st.fr 9=.loc 31 [(0,0)] 0 0∧st.fr 4=.loc 4 [] 0 0∧st.fr 1=.i64 x∧st.fr 2=.i64 c'∧st.mem 39=some (itr (H k))∧st.mem 31=some (.tup [exA p e.S (cst e.D) (idxM e.S) (cst e.Pa) (byL (letL p.mv.length) e.J) (nxT Nx),.bl true])∧st.mem 4=some (.pt 3 p.sl)) (m) ?_ ?_
  · simp -dsimp -implicitDefEqProofs (disch:=first | omega | (simp only [lenr];try omega)) only [↓amPre,amAll,↓reduceIte,reduceCtorEq,Nat.reduceEqDiff,Nat.reduceBEq,Nat.reduceAdd,Nat.reduceLeDiff,Nat.reduceSub,Nat.reduceMul,Int.reduceToNat,List.size_toArray,tyF,MM,bu0,cbU49]
    exact ⟨Nat.zero_le _,rfl,by rw [h0]⟩
  rintro k st _ ⟨hk,f41,f40,f11,f9,f4,f1,f2,m39,m31,m4⟩
  by_cases hlt:k<m
  · have hlt':(k:Int)<(m:Int):=by omega
    have hck:=canScr_up (k:=k) c1 c4 hlt
    obtain ⟨g1,g2⟩:=hin _ hck
    have hwd:=(scrR_word hck).1
    have hb1:=within_iff.1 hck.2.1
    have qs:=scramble p (x+k) c' hnm hb1.1 (by omega) (by omega)
    have hr:scrR p (x+k) c'=scrW p.mv.length (x+k) c':=by rw [scrR,if_pos hck,Int.toNat_natCast]
    have hz:scrS p (x+k) c'=effK p.n p.mv (scrR p (x+k) c') (scrR p (x+k) c').length:=if_pos hck
    have qe:=iEffect p (scrR p (x+k) c') hd.1 hwd
    rw [← hz] at qe
    rw [← hr] at qs
    have hil:=List.idxOf_lt_length_iff.2 g1
    have qa:=qpin _ (fun t ht=>by have:=(hok.el t ht).1;exact smallE_of this) (smallE_of g2) (by have:=g2.1;omega) g1
    have hgD:((cst e.D).map AV.i64).getD (e.S.idxOf (scrS p (x+k) c')) .any=.i64 ((dOf e (scrS p (x+k) c'):Nat):Int):=by
      rw [getD_eq _ _ _ (by rw [List.length_map,cst_len,hlD];exact hil),List.getElem_map,← getD_eq _ _ 0,Ch.cst_get (by rw [hlD];exact hil)]
      rfl
    have hlD2:(cst e.D).length=e.S.length:=by rw [cst_len,hlD]
    have g3:=hdle _ g1
    have g4:=hst k
    have g5:=hk0 k
    have g6:=hkb k (dOf e (scrS p (x+k) c'))
    have hwx:IntKind.i64.wrap (x+k)=x+k:=wrap64_id (by omega)
    generalize e.S.idxOf (scrS p (x+k) c')=ix at *
    generalize dOf e (scrS p (x+k) c')=d at *
    generalize scrS p (x+k) c'=s at *
    generalize scrR p (x+k) c'=wd at *
    have hwi:IntKind.i64.wrap ((H k).getD d 0+1)=(H k).getD d 0+1:=wrap64_id (by omega)
    rw [g4]
    generalize H k=l at *
    have hls:(l.set d (l.getD d 0+1)).length=M+1:=by rw [List.length_set,g5]
    have hpsl:p.sl=.agg [.i64 p.n,.st p.nm,ssl p.mv]:=rfl
    rw [hpsl] at qs qe
    simp -dsimp -implicitDefEqProofs (disch:=first | omega | (simp only [lenr];try omega)) only [↓amPre,amAll,↓reduceIte,reduceCtorEq,Nat.reduceEqDiff,Nat.reduceBEq,Nat.reduceAdd,Nat.reduceLeDiff,Nat.reduceSub,Nat.reduceMul,Int.reduceToNat,List.size_toArray,tyF,MM,bu0,cbU49,f41,f40,f11,f9,f4,f1,f2,m39,m31,m4,lt_true hlt']
    refine lat_go [[],[],[1],[1,2],[1,2,3],[],[],[],[],[],[8,9],[],[7,8,9,10,11],[6,7,8,9,10,11,12],[5,6,7,8,9,10,11,12,13],[1,2,3,4,5,6,7,8,9,10,11,12,13,14],[1,2,3,4,5,6,7,8,9,10,11,12,13,14,15],[0,1,2,3,4,5,6,7,8,9,10,11,12,13,14,15,16],[0,1,2,3,4,5,6,7,8,9,10,11,12,13,14,15,16,17],[0,1,2,3,4,5,6,7,8,9,10,11,12,13,14,15,16,17,18],[0,1,2,3,4,5,6,7,8,9,10,11,12,13,14,15,16,17,18,19],[0,1,2,3,4,5,6,7,8,9,10,11,12,13,14,15,16,17,18,19,20]] [[17,18,19,20,21],[2,3,4,15,16,17,18,19,20,21],[3,4,15,16,17,18,19,20,21],[4,15,16,17,18,19,20,21],[15,16,17,18,19,20,21],[14,15,16,17,18,19,20,21],[13,14,15,16,17,18,19,20,21],[12,13,14,15,16,17,18,19,20,21],[10,12,13,14,15,16,17,18,19,20,21],[10,12,13,14,15,16,17,18,19,20,21],[12,13,14,15,16,17,18,19,20,21],[12,13,14,15,16,17,18,19,20,21],[13,14,15,16,17,18,19,20,21],[14,15,16,17,18,19,20,21],[15,16,17,18,19,20,21],[16,17,18,19,20,21],[17,18,19,20,21],[18,19,20,21],[19,20,21],[20,21],[21],[]] [0,1,2,3,4,5,6,7,8,9,10,11,12,13,14,15,16,17,18,19,20,21] (fun c st=>st.fr 11=.ref 39 [] 1 0 (M+1)∧st.fr 9=.loc 31 [(0,0)] 0 0∧st.fr 4=.loc 4 [] 0 0∧st.fr 1=.i64 x∧st.fr 2=.i64 c'∧st.fr 12=.i64 k∧st.fr 41=.i64 k∧st.fr 40=.i64 m∧(c 0=true→st.fr 44=.ref 39 [] 1 0 (M+1))∧(c 1=true→st.fr 45=.loc 31 [(0,0)] 0 0)∧(c 2=true→st.fr 46=.loc 31 [(0,0)] 0 0)∧(c 3=true→st.fr 47=.loc 31 [(0,0)] 0 4)∧(c 4=true→st.fr 48=.ref 31 [(0,0),(0,4)] 1 0 e.S.length)∧(c 5=true→st.fr 49=.loc 31 [(0,0)] 0 0)∧(c 6=true→st.fr 50=.agg [.i64 p.n,.st p.nm,ssl p.mv])∧(c 7=true→st.fr 51=.agg [.i64 p.n,.st p.nm,ssl p.mv])∧(c 8=true→st.fr 52=.i64 x)∧(c 9=true→st.fr 53=.i64 k)∧(c 10=true→st.fr 54=.i64 (x+k))∧(c 11=true→st.fr 55=.i64 c')∧(c 12=true→st.fr 56=isl wd)∧(c 13=true→st.fr 57=isl s)∧(c 14=true→st.fr 58=.i64 ix)∧(c 15=true→st.fr 59=.loc 31 [(0,0),(0,4)] ix 0)∧(c 16=true→st.fr 60=.i64 d)∧(c 17=true→st.fr 61=.loc 39 [] d 0)∧(c 18=true→st.fr 62=.i64 (l.getD d 0))∧(c 19=true→st.fr 63=.i64 (l.getD d 0+1))∧(c 20=true→st.fr 64=.loc 39 [] d 0)∧st.mem 4=some (.pt 3 p.sl)∧st.mem 31=some (.tup [exA p e.S (cst e.D) (idxM e.S) (cst e.Pa) (byL (letL p.mv.length) e.J) (nxT Nx),.bl true])∧st.mem 39=some (bif c 21 then (itr (l.set d (l.getD d 0+1))) else (itr l))) (by decide +kernel) ?_ ?_ ?_
    · (try simp -dsimp -implicitDefEqProofs (disch:=first | omega | (simp only [lenr];try omega)) only [↓amPre,amAll,↓reduceIte,reduceCtorEq,Nat.reduceEqDiff,Nat.reduceBEq,Nat.reduceAdd,Nat.reduceLeDiff,Nat.reduceSub,Nat.reduceMul,Int.reduceToNat,List.size_toArray,tyF,MM,bu0,cbU49,latj,hwx,hgD,hlD2,g5,hwi,hpsl,ee,f41,f40,f11,f9,f4,f1,f2,m39,m31,m4])
      all_goals (try (repeat' (first | apply And.intro | rfl | (intro _;rfl) | (intro _ _;rfl))))
    · refine ⟨?_,?_,?_,?_,?_,?_,?_,?_,?_,?_,?_,?_,?_,?_,?_,?_,?_,?_,?_,?_,?_,?_,trivial⟩
      all_goals rintro c st R hC hJ hR
      all_goals simp only [latm] at hC
      all_goals simp only [hC,latj] at hJ
      all_goals simp -dsimp -implicitDefEqProofs (disch:=first | omega | (simp only [lenr];try omega)) only [↓amPre,amAll,↓reduceIte,reduceCtorEq,Nat.reduceEqDiff,Nat.reduceBEq,Nat.reduceAdd,Nat.reduceLeDiff,Nat.reduceSub,Nat.reduceMul,Int.reduceToNat,List.size_toArray,tyF,MM,bu0,cbU49,hJ,hwx,hgD,hlD2,g5,hwi,hpsl,ee]
      all_goals (try (refine callP_frz qs ?_;simp -dsimp -implicitDefEqProofs (disch:=first | omega | (simp only [lenr];try omega)) only [↓amPre,amAll,↓reduceIte,reduceCtorEq,Nat.reduceEqDiff,Nat.reduceBEq,Nat.reduceAdd,Nat.reduceLeDiff,Nat.reduceSub,Nat.reduceMul,Int.reduceToNat,List.size_toArray,tyF,MM,bu0,cbU49,hJ,hwx,hgD,hlD2,g5,hwi,hpsl,ee]))
      all_goals (try (refine callP_frz qe ?_;simp -dsimp -implicitDefEqProofs (disch:=first | omega | (simp only [lenr];try omega)) only [↓amPre,amAll,↓reduceIte,reduceCtorEq,Nat.reduceEqDiff,Nat.reduceBEq,Nat.reduceAdd,Nat.reduceLeDiff,Nat.reduceSub,Nat.reduceMul,Int.reduceToNat,List.size_toArray,tyF,MM,bu0,cbU49,hJ,hwx,hgD,hlD2,g5,hwi,hpsl,ee]))
      all_goals (try (refine callXP_of qa ?_;simp -dsimp -implicitDefEqProofs (disch:=first | omega | (simp only [lenr];try omega)) only [↓amPre,amAll,↓reduceIte,reduceCtorEq,Nat.reduceEqDiff,Nat.reduceBEq,Nat.reduceAdd,Nat.reduceLeDiff,Nat.reduceSub,Nat.reduceMul,Int.reduceToNat,List.size_toArray,tyF,MM,bu0,cbU49,hJ,hwx,hgD,hlD2,g5,hwi,hpsl,ee]))
      all_goals refine hR _ ?_
      all_goals (simp +contextual -dsimp -implicitDefEqProofs only [amAll,↓reduceIte,reduceCtorEq,Nat.reduceEqDiff,Nat.reduceBEq,Nat.reduceAdd,latj,hC,hJ,hwx,hgD,hlD2,g5,hwi,hpsl,ee];try (repeat' (first | apply And.intro | rfl | (intro _;rfl) | (intro _ _;rfl))))
    intro c st hall hJ
    simp only [latm] at hall
    simp only [hall,latj] at hJ
    obtain ⟨f11,f9,f4,f1,f2,f12,f41,f40,f44,f45,f46,f47,f48,f49,f50,f51,f52,f53,f54,f55,f56,f57,f58,f59,f60,f61,f62,f63,f64,m4,m31,m39⟩:=hJ
    clear hall
    simp -dsimp -implicitDefEqProofs (disch:=first | omega | (simp only [lenr];try omega)) only [↓amPre,amAll,↓reduceIte,reduceCtorEq,Nat.reduceEqDiff,Nat.reduceBEq,Nat.reduceAdd,Nat.reduceLeDiff,Nat.reduceSub,Nat.reduceMul,Int.reduceToNat,List.size_toArray,tyF,MM,bu0,cbU49,f11,f9,f4,f1,f2,f41,f40,m4,m31,m39,hls]
    exact ⟨hlt,by omega⟩
  · have hke:k=m:=by omega
    subst hke
    have c1':¬ (k:Int)<(k:Int):=by omega
    have g5:=hk0 k
    simp -dsimp -implicitDefEqProofs (disch:=first | omega | (simp only [lenr];try omega)) only [↓amPre,amAll,↓reduceIte,reduceCtorEq,Nat.reduceEqDiff,Nat.reduceBEq,Nat.reduceAdd,Nat.reduceLeDiff,Nat.reduceSub,Nat.reduceMul,Int.reduceToNat,List.size_toArray,tyF,MM,bu0,cbU49,f41,f40,f11,f9,f4,f1,f2,m39,m31,m4,lt_false (Int.not_lt.1 c1'),g5]
end Hs
end Go.AM
set_option maxRecDepth 8000
namespace Go.AM
namespace Hs
open Go.Proofs
open Bf (hsK hsK_len)
open Ck (stN)
open Sr (sR sR_yes sR_no sR_ok sR_len)
open Wo (sR_fin)
theorem hP_len (p:Puzz) (x c t:Int):(hP p x c t).length≤3001:=by
  rw [hP]
  split
  · rename_i hc
    have hs:=hc.1
    obtain ⟨hd,hR⟩:=sR_yes hs
    have hF:=sR_fin hs
    have hle:=sR_len hd
    rw [hR,hsK_len]
    dsimp only
    generalize Bf.out p.mv (letL p.mv.length) p.n.toNat 3000=e at *
    have h1:=hF.ok.lD
    have h2:=hF.ok.z.1
    have:=hF.tm.d_le _ (e.D.length - 1) (Nat.le_refl _) (by omega)
    omega
  · exact Nat.zero_le _
end Hs
open Go.Proofs
open Hs (hP hP_len sHist iHist)
end Go.AM
set_option maxRecDepth 8000
namespace Go.AM
open Go.Proofs
def dsC (x n:Int) (k:Nat) (L:List (List Int)):Prop:=x+k<2147483647∧(L.length:Int)<n
instance (x n:Int) (k:Nat) (L:List (List Int)):Decidable (dsC x n k L):=by unfold dsC;infer_instance
def dsS (p:Puzz) (x c n:Int):Nat→List (List Int)×List (List Int)
  | 0=>([],[])
  | k+1=>if dsC x n k (dsS p x c n k).1∧scrS p (x+k) c∉(dsS p x c n k).2 then ((dsS p x c n k).1++[scrR p (x+k) c],(dsS p x c n k).2++[scrS p (x+k) c]) else dsS p x c n k
theorem dsS_len (p:Puzz) (x c n:Int):∀ k,(dsS p x c n k).1.length=(dsS p x c n k).2.length∧(dsS p x c n k).1.length≤k
  | 0=>by simp [dsS]
  | k+1=>by
    obtain ⟨h1,h2⟩:=dsS_len p x c n k
    rw [dsS];split
    · simp;omega
    · omega
theorem dsS_stop (p:Puzz) (x c n:Int) (k:Nat) (h:¬ dsC x n k (dsS p x c n k).1):∀ d,dsS p x c n (k+d)=dsS p x c n k
  | 0=>rfl
  | d+1=>by
    have ih:=dsS_stop p x c n k h d
    show dsS p x c n ((k+d)+1)=_
    rw [dsS,if_neg,ih]
    rintro ⟨q,_⟩
    rw [ih] at q
    exact h ⟨by have:=q.1;omega,q.2⟩
theorem scrS_small (p:Puzz) (x c:Int):smallE (scrS p x c):=by
  intro y hy
  unfold scrS at hy
  split at hy
  · rename_i h
    have ho:=effK_ok h.1.1 (scrR_word h).1 _ (Nat.le_refl _)
    have:=ho.2.2.1 y hy
    have:=ho.1
    have:=h.1.1.1
    omega
  · cases hy
theorem dsS_mem (p:Puzz) (x c n:Int):∀ k,(∀ t∈(dsS p x c n k).1,t.length≤200)∧(∀ t∈(dsS p x c n k).2,smallE t∧t.length≤20)
  | 0=>by simp [dsS]
  | k+1=>by
    obtain ⟨h1,h2⟩:=dsS_mem p x c n k
    rw [dsS];split
    · refine ⟨fun t ht=>?_,fun t ht=>?_⟩
      · rcases List.mem_append.1 ht with ht | ht
        · exact h1 t ht
        · rw [List.mem_singleton.1 ht];exact scrR_len p _ c
      · rcases List.mem_append.1 ht with ht | ht
        · exact h2 t ht
        · rw [List.mem_singleton.1 ht];exact ⟨scrS_small p _ c,scrS_len p _ c⟩
    · exact ⟨h1,h2⟩
def canDs (p:Puzz) (x c n:Int):Prop:=canScr p x c∧within n 0 12=true
instance (p:Puzz) (x c n:Int):Decidable (canDs p x c n):=by unfold canDs;infer_instance
def dsR (p:Puzz) (x c n:Int):List (List Int):=if canDs p x c n then (dsS p x c n 100).1 else []
theorem ds_end {p:Puzz} {x c n:Int} {k:Nat} (hk:k≤100) (h:k=100∨¬ dsC x n k (dsS p x c n k).1):dsS p x c n 100=dsS p x c n k:=by
  rcases h with h | h
  · rw [h]
  · have:=dsS_stop p x c n k h (100 - k)
    rw [show k+(100 - k)=100 by omega] at this
    exact this
theorem iDistinct (p:Puzz) (x c n:Int) (h:smallP p):SpecAt Try.prog 50 [p.sl,.i64 x,.i64 c,.i64 n] (sst (dsR p x c n)):=by
  have q0:=canScramble p x c h
  by_cases hd:canScr p x c
  case neg =>
    have hz:dsR p x c n=[]:=if_neg fun q=>hd q.1
    rw [decide_eq_false hd] at q0
    rw [hz]
    refine spec_of_awp (M:=MM) (np:=4) (fz:=false) mixed Try.func50 rfl rfl (by decide) rfl (Nat.le_refl _) (by decide +kernel) (.inl rfl) (by first | trivial | simp only [sigsOk_nil,sigsOk_some,sigsOk_none,sig_tr,sig_pt,sig_mt,sig_agg,List.map_cons,List.map_nil,sig1_tr,sig1_pt,sig1_v,and_self,true_and,List.length_map,List.length_set]) ?_
    simp -dsimp -implicitDefEqProofs (disch:=first | omega | (simp only [lenr];try omega)) only [↓amPre,amAll,↓reduceIte,reduceCtorEq,Nat.reduceEqDiff,Nat.reduceBEq,Nat.reduceAdd,Nat.reduceLeDiff,Nat.reduceSub,Nat.reduceMul,Int.reduceToNat,List.size_toArray,tyF,MM,bu0,cbU49]
    refine callP_of (q0) ?_
    simp -dsimp -implicitDefEqProofs (disch:=first | omega | (simp only [lenr];try omega)) only [↓amPre,amAll,↓reduceIte,reduceCtorEq,Nat.reduceEqDiff,Nat.reduceBEq,Nat.reduceAdd,Nat.reduceLeDiff,Nat.reduceSub,Nat.reduceMul,Int.reduceToNat,List.size_toArray,tyF,MM,bu0,cbU49]
    try rfl
  rw [decide_eq_true hd] at q0
  cases hn:within n 0 12 with
  | false =>
    have hz:dsR p x c n=[]:=if_neg fun q=>by rw [q.2] at hn;cases hn
    rw [hz]
    refine spec_of_awp (M:=MM) (np:=4) (fz:=false) mixed Try.func50 rfl rfl (by decide) rfl (Nat.le_refl _) (by decide +kernel) (.inl rfl) (by first | trivial | simp only [sigsOk_nil,sigsOk_some,sigsOk_none,sig_tr,sig_pt,sig_mt,sig_agg,List.map_cons,List.map_nil,sig1_tr,sig1_pt,sig1_v,and_self,true_and,List.length_map,List.length_set]) ?_
    simp -dsimp -implicitDefEqProofs (disch:=first | omega | (simp only [lenr];try omega)) only [↓amPre,amAll,↓reduceIte,reduceCtorEq,Nat.reduceEqDiff,Nat.reduceBEq,Nat.reduceAdd,Nat.reduceLeDiff,Nat.reduceSub,Nat.reduceMul,Int.reduceToNat,List.size_toArray,tyF,MM,bu0,cbU49]
    refine callP_of (q0) ?_
    simp -dsimp -implicitDefEqProofs (disch:=first | omega | (simp only [lenr];try omega)) only [↓amPre,amAll,↓reduceIte,reduceCtorEq,Nat.reduceEqDiff,Nat.reduceBEq,Nat.reduceAdd,Nat.reduceLeDiff,Nat.reduceSub,Nat.reduceMul,Int.reduceToNat,List.size_toArray,tyF,MM,bu0,cbU49]
    refine callP_of (iwithin _ _ _) ?_
    simp -dsimp -implicitDefEqProofs (disch:=first | omega | (simp only [lenr];try omega)) only [↓amPre,amAll,↓reduceIte,reduceCtorEq,Nat.reduceEqDiff,Nat.reduceBEq,Nat.reduceAdd,Nat.reduceLeDiff,Nat.reduceSub,Nat.reduceMul,Int.reduceToNat,List.size_toArray,tyF,MM,bu0,cbU49,hn]
    try rfl
  | true =>
    have hz:dsR p x c n=(dsS p x c n 100).1:=if_pos ⟨hd,hn⟩
    have hn12:=within_iff.1 hn
    have hx:=within_iff.1 hd.2.1
    have hc:=within_iff.1 hd.2.2
    rw [hz]
    refine spec_of_awp (M:=MM) (np:=4) (fz:=false) mixed Try.func50 rfl rfl (by decide) rfl (Nat.le_refl _) (by decide +kernel) (.inl rfl) (by first | trivial | simp only [sigsOk_nil,sigsOk_some,sigsOk_none,sig_tr,sig_pt,sig_mt,sig_agg,List.map_cons,List.map_nil,sig1_tr,sig1_pt,sig1_v,and_self,true_and,List.length_map,List.length_set]) ?_
    simp -dsimp -implicitDefEqProofs (disch:=first | omega | (simp only [lenr];try omega)) only [↓amPre,amAll,↓reduceIte,reduceCtorEq,Nat.reduceEqDiff,Nat.reduceBEq,Nat.reduceAdd,Nat.reduceLeDiff,Nat.reduceSub,Nat.reduceMul,Int.reduceToNat,List.size_toArray,tyF,MM,bu0,cbU49]
    refine callP_of (q0) ?_
    simp -dsimp -implicitDefEqProofs (disch:=first | omega | (simp only [lenr];try omega)) only [↓amPre,amAll,↓reduceIte,reduceCtorEq,Nat.reduceEqDiff,Nat.reduceBEq,Nat.reduceAdd,Nat.reduceLeDiff,Nat.reduceSub,Nat.reduceMul,Int.reduceToNat,List.size_toArray,tyF,MM,bu0,cbU49]
    refine callP_of (iwithin _ _ _) ?_
    simp -dsimp -implicitDefEqProofs (disch:=first | omega | (simp only [lenr];try omega)) only [↓amPre,amAll,↓reduceIte,reduceCtorEq,Nat.reduceEqDiff,Nat.reduceBEq,Nat.reduceAdd,Nat.reduceLeDiff,Nat.reduceSub,Nat.reduceMul,Int.reduceToNat,List.size_toArray,tyF,MM,bu0,cbU49,hn]
    refine awp_loopN 9 60 1 (by simp -dsimp -implicitDefEqProofs (disch:=first | omega | (simp only [lenr];try omega)) only [↓amPre,amAll,↓reduceIte,reduceCtorEq,Nat.reduceEqDiff,Nat.reduceBEq,Nat.reduceAdd,Nat.reduceLeDiff,Nat.reduceSub,Nat.reduceMul,Int.reduceToNat,List.size_toArray,tyF,MM,bu0,cbU49]) (by decide) (fun k st=>k≤100∧st.fr 11=.i64 k∧st.fr 9=.ref 60 [] 1 0 (dsS p x c n k).1.length∧st.fr 10=.mref 24 []∧st.fr 4=.loc 4 [] 0 0∧st.fr 1=.i64 x∧st.fr 2=.i64 c∧st.fr 3=.i64 n∧st.mem 60=some (sst (dsS p x c n k).1)∧st.mem 24=some (.mt true (seenM (dsS p x c n k).2))∧st.mem 4=some (.pt 3 p.sl)) (100) ?_ ?_
    · simp -dsimp -implicitDefEqProofs (disch:=first | omega | (simp only [lenr];try omega)) only [↓amPre,amAll,↓reduceIte,reduceCtorEq,Nat.reduceEqDiff,Nat.reduceBEq,Nat.reduceAdd,Nat.reduceLeDiff,Nat.reduceSub,Nat.reduceMul,Int.reduceToNat,List.size_toArray,tyF,MM,bu0,cbU49,nilAs_eq]
      simp [dsS,seenM_nil]
    rintro k st _ ⟨hk,f11,f9,f10,f4,f1,f2,f3,m60,m24,m4⟩
    obtain ⟨hl1,hl2⟩:=dsS_len p x c n k
    obtain ⟨hm1,hm2⟩:=dsS_mem p x c n k
    have hse:=ds_end (p:=p) (x:=x) (c:=c) (n:=n) hk
    have hst:dsS p x c n (k+1)=if dsC x n k (dsS p x c n k).1∧scrS p (x+k) c∉(dsS p x c n k).2 then ((dsS p x c n k).1++[scrR p (x+k) c],(dsS p x c n k).2++[scrS p (x+k) c]) else dsS p x c n k:=rfl
    by_cases c1:k<100
    case neg =>
      have hke:k=100:=by omega
      have hse:=hse (.inl hke)
      rw [hse]
      generalize dsS p x c n k=D at *
      subst hke
      simp -dsimp -implicitDefEqProofs (disch:=first | omega | (simp only [lenr];try omega)) only [↓amPre,amAll,↓reduceIte,reduceCtorEq,Nat.reduceEqDiff,Nat.reduceBEq,Nat.reduceAdd,Nat.reduceLeDiff,Nat.reduceSub,Nat.reduceMul,Int.reduceToNat,List.size_toArray,tyF,MM,bu0,cbU49,f11,f9,f10,f4,f1,f2,f3,m60,m24,m4]
    have wseed:=isSeedI (x+k)
    have hxk:(within (x+k) 0 2147483646=true)↔x+k<2147483647:=by rw [within_iff];omega
    by_cases c2:x+k<2147483647
    case neg =>
      have hw:within (x+k) 0 2147483646=false:=by
        cases hq:within (x+k) 0 2147483646 with
        | false=>rfl
        | true=>exact absurd (hxk.1 hq) c2
      rw [hse (.inr fun q=>c2 q.1)]
      generalize dsS p x c n k=D at *
      simp -dsimp -implicitDefEqProofs (disch:=first | omega | (simp only [lenr];try omega)) only [↓amPre,amAll,↓reduceIte,reduceCtorEq,Nat.reduceEqDiff,Nat.reduceBEq,Nat.reduceAdd,Nat.reduceLeDiff,Nat.reduceSub,Nat.reduceMul,Int.reduceToNat,List.size_toArray,tyF,MM,bu0,cbU49,f11,f9,f10,f4,f1,f2,f3,m60,m24,m4,c1]
      refine callP_of (wseed) ?_
      simp -dsimp -implicitDefEqProofs (disch:=first | omega | (simp only [lenr];try omega)) only [↓amPre,amAll,↓reduceIte,reduceCtorEq,Nat.reduceEqDiff,Nat.reduceBEq,Nat.reduceAdd,Nat.reduceLeDiff,Nat.reduceSub,Nat.reduceMul,Int.reduceToNat,List.size_toArray,tyF,MM,bu0,cbU49,f11,f9,f10,f4,f1,f2,f3,m60,m24,m4,hw]
    have hw:=hxk.2 c2
    by_cases c3:((dsS p x c n k).1.length:Int)<n
    case neg =>
      rw [hse (.inr fun q=>c3 q.2)]
      generalize dsS p x c n k=D at *
      simp -dsimp -implicitDefEqProofs (disch:=first | omega | (simp only [lenr];try omega)) only [↓amPre,amAll,↓reduceIte,reduceCtorEq,Nat.reduceEqDiff,Nat.reduceBEq,Nat.reduceAdd,Nat.reduceLeDiff,Nat.reduceSub,Nat.reduceMul,Int.reduceToNat,List.size_toArray,tyF,MM,bu0,cbU49,f11,f9,f10,f4,f1,f2,f3,m60,m24,m4,c1]
      refine callP_of (wseed) ?_
      simp -dsimp -implicitDefEqProofs (disch:=first | omega | (simp only [lenr];try omega)) only [↓amPre,amAll,↓reduceIte,reduceCtorEq,Nat.reduceEqDiff,Nat.reduceBEq,Nat.reduceAdd,Nat.reduceLeDiff,Nat.reduceSub,Nat.reduceMul,Int.reduceToNat,List.size_toArray,tyF,MM,bu0,cbU49,f11,f9,f10,f4,f1,f2,f3,m60,m24,m4,hw,c3]
    have hcc:dsC x n k (dsS p x c n k).1:=⟨c2,c3⟩
    have hcs:canScr p (x+k) c:=⟨hd.1,hw,hd.2.2⟩
    have hr:scrR p (x+k) c=scrW p.mv.length (x+k) c.toNat:=if_pos hcs
    have l1:=scramble p (x+k) c.toNat (puzz_nm hd.1) (by omega) (by omega) (by omega)
    rw [show ((c.toNat:Nat):Int)=c by omega,← hr] at l1
    have hwd:=scrR_word hcs
    have l2:=iEffect p (scrR p (x+k) c) hd.1.1 hwd.1
    have hsz:scrS p (x+k) c=effK p.n p.mv (scrR p (x+k) c) (scrR p (x+k) c).length:=if_pos hcs
    rw [← hsz] at l2
    have hsm:=scrS_small p (x+k) c
    have hsl:=scrS_len p (x+k) c
    have hrl:=scrR_len p (x+k) c
    have l3:=stateKeyI (scrS p (x+k) c) hsm (by omega)
    have hsa:=seenM_at (fun s hs=>(hm2 s hs).1) hsm
    have hup:=seenM_upd (dsS p x c n k).2 (scrS p (x+k) c)
    generalize scrS p (x+k) c=S at *
    generalize scrR p (x+k) c=R at *
    by_cases c4:S∈(dsS p x c n k).2
    · rw [if_neg fun q=>q.2 c4] at hst
      rw [if_pos c4] at hsa
      rw [← hst] at f9 m60 m24
      generalize dsS p x c n (k+1)=E at *
      generalize dsS p x c n k=D at *
      subst hst
      simp -dsimp -implicitDefEqProofs (disch:=first | omega | (simp only [lenr];try omega)) only [↓amPre,amAll,↓reduceIte,reduceCtorEq,Nat.reduceEqDiff,Nat.reduceBEq,Nat.reduceAdd,Nat.reduceLeDiff,Nat.reduceSub,Nat.reduceMul,Int.reduceToNat,List.size_toArray,tyF,MM,bu0,cbU49,f11,f9,f10,f4,f1,f2,f3,m60,m24,m4,c1]
      refine callP_of (wseed) ?_
      simp -dsimp -implicitDefEqProofs (disch:=first | omega | (simp only [lenr];try omega)) only [↓amPre,amAll,↓reduceIte,reduceCtorEq,Nat.reduceEqDiff,Nat.reduceBEq,Nat.reduceAdd,Nat.reduceLeDiff,Nat.reduceSub,Nat.reduceMul,Int.reduceToNat,List.size_toArray,tyF,MM,bu0,cbU49,f11,f9,f10,f4,f1,f2,f3,m60,m24,m4,hw,c3]
      refine callP_of (l1) ?_
      simp -dsimp -implicitDefEqProofs (disch:=first | omega | (simp only [lenr];try omega)) only [↓amPre,amAll,↓reduceIte,reduceCtorEq,Nat.reduceEqDiff,Nat.reduceBEq,Nat.reduceAdd,Nat.reduceLeDiff,Nat.reduceSub,Nat.reduceMul,Int.reduceToNat,List.size_toArray,tyF,MM,bu0,cbU49,f11,f9,f10,f4,f1,f2,f3,m60,m24,m4]
      refine callP_of (l2) ?_
      simp -dsimp -implicitDefEqProofs (disch:=first | omega | (simp only [lenr];try omega)) only [↓amPre,amAll,↓reduceIte,reduceCtorEq,Nat.reduceEqDiff,Nat.reduceBEq,Nat.reduceAdd,Nat.reduceLeDiff,Nat.reduceSub,Nat.reduceMul,Int.reduceToNat,List.size_toArray,tyF,MM,bu0,cbU49,f11,f9,f10,f4,f1,f2,f3,m60,m24,m4]
      refine callP_of (l3) ?_
      simp -dsimp -implicitDefEqProofs (disch:=first | omega | (simp only [lenr];try omega)) only [↓amPre,amAll,↓reduceIte,reduceCtorEq,Nat.reduceEqDiff,Nat.reduceBEq,Nat.reduceAdd,Nat.reduceLeDiff,Nat.reduceSub,Nat.reduceMul,Int.reduceToNat,List.size_toArray,tyF,MM,bu0,cbU49,f11,f9,f10,f4,f1,f2,f3,m60,m24,m4,hsa]
      repeat' (first | omega | rfl | exact i64c (by omega) | exact vic (by omega) | apply And.intro)
    · rw [if_pos ⟨hcc,c4⟩] at hst
      rw [if_neg c4] at hsa
      have hl3:(dsS p x c n (k+1)).1.length=(dsS p x c n k).1.length+1:=by rw [hst];simp
      have e1:(dsS p x c n k).1++[R]=(dsS p x c n (k+1)).1:=by rw [hst]
      have e2:(dsS p x c n k).2++[S]=(dsS p x c n (k+1)).2:=by rw [hst]
      rw [e2] at hup
      clear hst
      generalize dsS p x c n (k+1)=E at *
      generalize dsS p x c n k=D at *
      simp -dsimp -implicitDefEqProofs (disch:=first | omega | (simp only [lenr];try omega)) only [↓amPre,amAll,↓reduceIte,reduceCtorEq,Nat.reduceEqDiff,Nat.reduceBEq,Nat.reduceAdd,Nat.reduceLeDiff,Nat.reduceSub,Nat.reduceMul,Int.reduceToNat,List.size_toArray,tyF,MM,bu0,cbU49,f11,f9,f10,f4,f1,f2,f3,m60,m24,m4,c1]
      refine callP_of (wseed) ?_
      simp -dsimp -implicitDefEqProofs (disch:=first | omega | (simp only [lenr];try omega)) only [↓amPre,amAll,↓reduceIte,reduceCtorEq,Nat.reduceEqDiff,Nat.reduceBEq,Nat.reduceAdd,Nat.reduceLeDiff,Nat.reduceSub,Nat.reduceMul,Int.reduceToNat,List.size_toArray,tyF,MM,bu0,cbU49,f11,f9,f10,f4,f1,f2,f3,m60,m24,m4,hw,c3]
      refine callP_of (l1) ?_
      simp -dsimp -implicitDefEqProofs (disch:=first | omega | (simp only [lenr];try omega)) only [↓amPre,amAll,↓reduceIte,reduceCtorEq,Nat.reduceEqDiff,Nat.reduceBEq,Nat.reduceAdd,Nat.reduceLeDiff,Nat.reduceSub,Nat.reduceMul,Int.reduceToNat,List.size_toArray,tyF,MM,bu0,cbU49,f11,f9,f10,f4,f1,f2,f3,m60,m24,m4]
      refine callP_of (l2) ?_
      simp -dsimp -implicitDefEqProofs (disch:=first | omega | (simp only [lenr];try omega)) only [↓amPre,amAll,↓reduceIte,reduceCtorEq,Nat.reduceEqDiff,Nat.reduceBEq,Nat.reduceAdd,Nat.reduceLeDiff,Nat.reduceSub,Nat.reduceMul,Int.reduceToNat,List.size_toArray,tyF,MM,bu0,cbU49,f11,f9,f10,f4,f1,f2,f3,m60,m24,m4]
      refine callP_of (l3) ?_
      simp -dsimp -implicitDefEqProofs (disch:=first | omega | (simp only [lenr];try omega)) only [↓amPre,amAll,↓reduceIte,reduceCtorEq,Nat.reduceEqDiff,Nat.reduceBEq,Nat.reduceAdd,Nat.reduceLeDiff,Nat.reduceSub,Nat.reduceMul,Int.reduceToNat,List.size_toArray,tyF,MM,bu0,cbU49,f11,f9,f10,f4,f1,f2,f3,m60,m24,m4,hsa,hup,e1,hl3]
      repeat' (first | omega | rfl | exact i64c (by omega) | exact vic (by omega) | apply And.intro)
end Go.AM
set_option maxRecDepth 8000
namespace Go.AM
namespace Dice
open Go.Proofs
def MM:FuncId→List Bool:=fun f=>if f=20 then [true,false] else if f=65 then [true] else []
structure Dc where
  b:List UInt8
  i:Nat
  h:Int
abbrev u64 (n:Int):AV:=.v (.int .u64 n)
abbrev bsl (l:List UInt8):AV:=.sl 1 (l.map fun x=>.u8 x.toNat)
abbrev Dc.pt (s:Dc):AV:=.pt 3 (.agg [bsl s.b,.i64 s.i,u64 s.h])
abbrev Dc.ok (s:Dc):Prop:=s.b.length≤4096∧s.i≤s.b.length
instance:Thing UInt8:=⟨⟩
theorem wrapU_id {x:Int} (h:0≤x∧x<18446744073709551616):IntKind.u64.wrap x=x:=by
  unfold IntKind.wrap
  simp only [IntKind.signed,IntKind.bits,Bool.false_and,Bool.false_eq_true,if_false]
  exact Int.emod_eq_of_lt h.1 h.2
theorem andU (a:Int):0≤bitsI .and .u64 a 16777215∧bitsI .and .u64 a 16777215≤16777215:=by
  have h:(BitVec.ofInt 64 a &&& BitVec.ofInt 64 16777215).toNat≤16777215:=by
    rw [BitVec.toNat_and]
    exact Nat.le_trans Nat.and_le_right (by decide)
  have e:bitsI .and .u64 a 16777215=((BitVec.ofInt 64 a &&& BitVec.ofInt 64 16777215).toNat:Int):=by
    show IntKind.u64.wrap ((BitVec.ofInt 64 a &&& BitVec.ofInt 64 16777215).toNat:Int)=_
    apply wrapU_id;omega
  rw [e];omega
def nxH (h:Int):Int:=IntKind.u64.wrap (IntKind.u64.wrap (h*6364136223846793005)+1442695040888963407)
theorem dbelow (s:Dc) (n:Int) (h:s.ok) (hn:1≤n∧n≤1000000):∃ (s':Dc) (x:Int),SpecX Try.prog 20 [s.pt,.i64 n] [some s'.pt] (.i64 x)∧s'.ok∧0≤x∧x<n:=by
  have h1:=h.1
  have h2:=h.2
  have hn':nxH s.h=IntKind.u64.wrap (IntKind.u64.wrap (s.h*6364136223846793005)+1442695040888963407):=rfl
  have ha:=andU ((nxH s.h).fdiv (2 ^ (min 33 64)))
  obtain ⟨y,hy⟩:∃ y,y=bitsI .and .u64 ((nxH s.h).fdiv (2 ^ (min 33 64))) 16777215:=⟨_,rfl⟩
  rw [← hy] at ha
  have e1:IntKind.i64.wrap y=y:=wrap64_id (by omega)
  have hne:n≠0:=by omega
  have hb:IntKind.u64.bits=64:=rfl
  by_cases hk:s.i<s.b.length
  · have hu:(s.b.getD s.i default).toNat<256:=(s.b.getD s.i default).toNat_lt
    have e2:IntKind.i64.wrap ((s.b.getD s.i default).toNat:Int)=(s.b.getD s.i default).toNat:=wrap64_id (by omega)
    have e3:IntKind.i64.wrap (y+((s.b.getD s.i default).toNat:Int))=y+((s.b.getD s.i default).toNat:Int):=wrap64_id (by omega)
    refine ⟨⟨s.b,s.i+1,nxH s.h⟩,(y+((s.b.getD s.i default).toNat:Int)).tmod n,?_,⟨h1,hk⟩,Int.tmod_nonneg _ (by omega),Int.tmod_lt_of_pos _ (by omega)⟩
    refine spec_of_awp (M:=MM) (np:=2) (fz:=false) mixed Try.func20 rfl rfl (by decide) rfl (Nat.le_refl _) (by decide +kernel) (.inl rfl) (by simp only [sigsOk_some,sigsOk_nil,and_true];rfl) ?_
    simp -dsimp -implicitDefEqProofs (disch:=first | omega | (simp only [lenr];try omega)) only [↓amPre,amAll,↓reduceIte,reduceCtorEq,Nat.reduceEqDiff,Nat.reduceBEq,Nat.reduceAdd,Nat.reduceLeDiff,Nat.reduceSub,Nat.reduceMul,Int.reduceToNat,List.size_toArray,tyF,MM,bu0,cbP9,hb,← hn',← hy,hne,e1,e2,e3]
  · refine ⟨⟨s.b,s.i,nxH s.h⟩,y.tmod n,?_,⟨h1,h2⟩,Int.tmod_nonneg _ (by omega),Int.tmod_lt_of_pos _ (by omega)⟩
    refine spec_of_awp (M:=MM) (np:=2) (fz:=false) mixed Try.func20 rfl rfl (by decide) rfl (Nat.le_refl _) (by decide +kernel) (.inl rfl) (by simp only [sigsOk_some,sigsOk_nil,and_true];rfl) ?_
    simp -dsimp -implicitDefEqProofs (disch:=first | omega | (simp only [lenr];try omega)) only [↓amPre,amAll,↓reduceIte,reduceCtorEq,Nat.reduceEqDiff,Nat.reduceBEq,Nat.reduceAdd,Nat.reduceLeDiff,Nat.reduceSub,Nat.reduceMul,Int.reduceToNat,List.size_toArray,tyF,MM,bu0,cbP9,hb,← hn',← hy,hne,e1]
def rlK (l:List UInt8) (h:Int):Nat→Int
  | 0=>IntKind.u64.wrap (IntKind.u64.wrap (h*7919)+IntKind.u64.wrap l.length)
  | k+1=>IntKind.u64.wrap (IntKind.u64.wrap (IntKind.u64.wrap (rlK l h k*1099511628211)+IntKind.u64.wrap (l.getD k default).toNat)+3)
theorem droll (l:List UInt8) (h:Int) (hl:l.length≤4096):SpecAt Try.prog 18 [bsl l,u64 h] (Dc.pt ⟨l,0,rlK l h l.length⟩):=by
  have h0:rlK l h 0=IntKind.u64.wrap (IntKind.u64.wrap (h*7919)+IntKind.u64.wrap l.length):=rfl
  refine spec_of_awp (M:=MM) (np:=2) (fz:=false) mixed Try.func18 rfl rfl (by decide) rfl (Nat.le_refl _) (by decide +kernel) (.inl rfl) (by first | trivial | simp only [sigsOk_nil,sigsOk_some,sigsOk_none,sig_tr,sig_pt,sig_mt,sig_agg,List.map_cons,List.map_nil,sig1_tr,sig1_pt,sig1_v,and_self,true_and,List.length_map,List.length_set]) ?_
  simp -dsimp -implicitDefEqProofs (disch:=first | omega | (simp only [lenr];try omega)) only [↓amPre,amAll,↓reduceIte,reduceCtorEq,Nat.reduceEqDiff,Nat.reduceBEq,Nat.reduceAdd,Nat.reduceLeDiff,Nat.reduceSub,Nat.reduceMul,Int.reduceToNat,List.size_toArray,tyF,MM,bu0,cbP9,← h0]
  refine awp_loop (fun k st=>k≤l.length∧st.fr 6=.i64 k∧st.fr 5=.loc 15 [] 0 0∧st.fr 0=bsl l∧st.mem 15=some (Dc.pt ⟨l,0,rlK l h k⟩)) (l.length) ?_ ?_
  · simp -dsimp -implicitDefEqProofs (disch:=first | omega | (simp only [lenr];try omega)) only [↓amPre,amAll,↓reduceIte,reduceCtorEq,Nat.reduceEqDiff,Nat.reduceBEq,Nat.reduceAdd,Nat.reduceLeDiff,Nat.reduceSub,Nat.reduceMul,Int.reduceToNat,List.size_toArray,tyF,MM,bu0,cbP9,← h0]
    exact ⟨Nat.zero_le _,rfl,rfl⟩
  rintro k st _ ⟨hk,f6,f5,f0,m15⟩
  have hs1:rlK l h (k+1)=IntKind.u64.wrap (IntKind.u64.wrap (IntKind.u64.wrap (rlK l h k*1099511628211)+IntKind.u64.wrap (l.getD k default).toNat)+3):=rfl
  by_cases hlt:k<l.length
  · simp -dsimp -implicitDefEqProofs (disch:=first | omega | (simp only [lenr];try omega)) only [↓amPre,amAll,↓reduceIte,reduceCtorEq,Nat.reduceEqDiff,Nat.reduceBEq,Nat.reduceAdd,Nat.reduceLeDiff,Nat.reduceSub,Nat.reduceMul,Int.reduceToNat,List.size_toArray,tyF,MM,bu0,cbP9,f6,f5,f0,m15,← hs1]
    repeat' (first | omega | rfl | exact i64c (by omega) | exact vic (by omega) | apply And.intro)
  · have hke:k=l.length:=by omega
    subst hke
    simp -dsimp -implicitDefEqProofs (disch:=first | omega | (simp only [lenr];try omega)) only [↓amPre,amAll,↓reduceIte,reduceCtorEq,Nat.reduceEqDiff,Nat.reduceBEq,Nat.reduceAdd,Nat.reduceLeDiff,Nat.reduceSub,Nat.reduceMul,Int.reduceToNat,List.size_toArray,tyF,MM,bu0,cbP9,f6,f5,f0,m15]
theorem dbig (l:List UInt8):SpecAt Try.prog 13 [bsl l] (.bl (decide ((4096:Int)<l.length))):=by
  refine spec_of_awp (M:=MM) (np:=1) (fz:=true) mixed Try.func13 rfl rfl (by decide) rfl (Nat.le_refl _) (by decide +kernel) (.inr ⟨rfl,rfl⟩) trivial ?_
  simp -dsimp -implicitDefEqProofs (disch:=first | omega | (simp only [lenr];try omega)) only [↓amPre,amAll,↓reduceIte,reduceCtorEq,Nat.reduceEqDiff,Nat.reduceBEq,Nat.reduceAdd,Nat.reduceLeDiff,Nat.reduceSub,Nat.reduceMul,Int.reduceToNat,List.size_toArray,tyF,MM,bu0,cbP9]
noncomputable def dS (s:Dc) (n:Int):Dc:=open Classical in if h:s.ok∧1≤n∧n≤1000000 then (dbelow s n h.1 h.2).choose else s
noncomputable def dX (s:Dc) (n:Int):Int:=open Classical in if h:s.ok∧1≤n∧n≤1000000 then (dbelow s n h.1 h.2).choose_spec.choose else 0
theorem dF (s:Dc) (n:Int) (h:s.ok) (hn:1≤n∧n≤1000000):SpecX Try.prog 20 [s.pt,.i64 n] [some (dS s n).pt] (.i64 (dX s n))∧(dS s n).ok∧0≤dX s n∧dX s n<n:=by
  have:=(dbelow s n h hn).choose_spec.choose_spec
  unfold dS dX
  rw [dif_pos ⟨h,hn⟩,dif_pos ⟨h,hn⟩]
  exact this
end Dice
end Go.AM
set_option maxRecDepth 8000
namespace Go.AM
namespace Dice
open Go.Proofs
def swp (m:List Int) (i j:Nat):List Int:=(m.set i (m.getD j 0)).set j (m.getD i 0)
noncomputable def swK (s:Dc) (m:List Int) (n:Int):Nat→Dc×List Int
  | 0=>(s,m)
  | k+1=>(dS (dS (swK s m n k).1 n) n,swp (swK s m n k).2 (dX (swK s m n k).1 n).toNat (dX (dS (swK s m n k).1 n) n).toNat)
noncomputable def pzK (s:Dc) (n:Nat):Nat→Dc×List (List Int)
  | 0=>(s,[])
  | k+1=>((swK (dS (pzK s n k).1 3) (runI 0 n) n (1+dX (pzK s n k).1 3).toNat).1,(pzK s n k).2++[(swK (dS (pzK s n k).1 3) (runI 0 n) n (1+dX (pzK s n k).1 3).toNat).2])
abbrev AB:AV:=.st [65,66]
end Dice
end Go.AM
set_option maxRecDepth 8000
namespace Go.AM
namespace D6s
open Go.Proofs
open Dice (Dc dF dS dX dbelow)
def MM:FuncId→List Bool:=fun f=>if f=20 then [true,false] else if f=118 then [true,false] else if f=42 then [true] else []
theorem ints_bears:∀ L:List Int,AV.bearsL (L.map AV.i64)=false
  | []=>rfl
  | _ :: r=>by rw [List.map_cons,AV.bearsL,ints_bears r];rfl
theorem grabL_ints (s:Nat) (p:Path):∀ (L:List Int) (i:Nat) (st:St) (K:List AV→St→Prop),grabL s p i (L.map AV.i64) st K=K (L.map AV.i64) st
  | [],_,_,_=>rfl
  | a :: r,i,st,K=>by
    have hb:AV.bears (AV.v (.int .i64 a))=false:=rfl
    rw [List.map_cons,grabL_cons,grabE_v,grabC_v,hb]
    refine (propext ⟨fun h=>?_,fun h=>?_⟩:_=_)
    · have h2:=h.2
      rw [grabL_ints s p r (i+1) st] at h2
      exact h2
    · refine ⟨rfl,?_⟩
      rw [grabL_ints s p r (i+1) st]
      exact h
noncomputable def odK (s:Dc):Nat→Dc×List Int
  | 0=>(s,[])
  | k+1=>(dS (odK s k).1 (k+1),(odK s k).2.take (dX (odK s k).1 (k+1)).toNat++[(k:Int)]++(odK s k).2.drop (dX (odK s k).1 (k+1)).toNat)
theorem odK_ok (s:Dc) (h:s.ok):∀ k,k≤100→(odK s k).1.ok∧(odK s k).2.length=k∧(∀ x∈(odK s k).2,0≤x∧x<k)∧(odK s k).2.Nodup
  | 0,_=>⟨h,rfl,⟨fun x hx=>absurd (show x∈([]:List Int) from hx) (List.not_mem_nil),List.nodup_nil⟩⟩
  | k+1,hk=>by
    obtain ⟨i1,i2,i3,i4⟩:=odK_ok s h k (by omega)
    obtain ⟨_,f1,f2,f3⟩:=dF (odK s k).1 ((k:Int)+1) i1 (by omega)
    have hp:List.Perm ((odK s k).2.take (dX (odK s k).1 (k+1)).toNat++[(k:Int)]++(odK s k).2.drop (dX (odK s k).1 (k+1)).toNat) ((k:Int) :: (odK s k).2):=by
      have e:∀ (a b:List Int) (y:Int),List.Perm (a++[y]++b) (y :: (a++b)):=fun a b y=>by
        rw [List.append_assoc]
        exact List.perm_middle
      refine (e _ _ _).trans ?_
      rw [List.take_append_drop]
    refine ⟨f1,?_,fun x hx=>?_,?_⟩
    · show (_:List Int).length=k+1
      rw [odK]
      have:=hp.length_eq
      dsimp only
      rw [this,List.length_cons,i2]
    · have:=hp.mem_iff.1 hx
      rcases List.mem_cons.1 this with q | q
      · rw [q];omega
      · have:=i3 x q;omega
    · refine hp.nodup_iff.2 (List.nodup_cons.2 ⟨fun q=>?_,i4⟩)
      have:=i3 _ q;omega
theorem w6Perm (s:Dc) (n:Nat) (h:s.ok) (hn:n≤20):SpecX Try.prog 118 [s.pt,.i64 n] [some (odK s n).1.pt] (itr (odK s n).2):=by
  refine spec_of_awp (M:=MM) (np:=2) (fz:=false) mixed Try.func118 rfl rfl (by decide) rfl (Nat.le_refl _) (by decide +kernel) (.inl rfl) (by simp only [sigsOk_some,sigsOk_nil,and_true];rfl) ?_
  simp -dsimp -implicitDefEqProofs (disch:=first | omega | (simp only [lenr];try omega)) only [↓amPre,amAll,↓reduceIte,reduceCtorEq,Nat.reduceEqDiff,Nat.reduceBEq,Nat.reduceAdd,Nat.reduceLeDiff,Nat.reduceSub,Nat.reduceMul,Int.reduceToNat,List.size_toArray,tyF,MM,bu0,cbP9]
  refine awp_loopR 9 32 (.tr 1 []) (by simp -dsimp -implicitDefEqProofs (disch:=first | omega | (simp only [lenr];try omega)) only [↓amPre,amAll,↓reduceIte,reduceCtorEq,Nat.reduceEqDiff,Nat.reduceBEq,Nat.reduceAdd,Nat.reduceLeDiff,Nat.reduceSub,Nat.reduceMul,Int.reduceToNat,List.size_toArray,tyF,MM,bu0,cbP9]) (by decide) (by decide) (by decide) (fun k st=>k≤n∧st.fr 6=.i64 k∧st.fr 1=.i64 n∧st.fr 5=.ref 32 [] 1 0 k∧st.fr 0=.loc 0 [] 0 0∧st.mem 32=some (itr (odK s k).2)∧st.mem 0=some ((odK s k).1.pt)) (n) ?_ ?_
  · simp -dsimp -implicitDefEqProofs (disch:=first | omega | (simp only [lenr];try omega)) only [↓amPre,amAll,↓reduceIte,reduceCtorEq,Nat.reduceEqDiff,Nat.reduceBEq,Nat.reduceAdd,Nat.reduceLeDiff,Nat.reduceSub,Nat.reduceMul,Int.reduceToNat,List.size_toArray,tyF,MM,bu0,cbP9,ren_eq]
    simp [odK]
  rintro k st _ ⟨hk,f6,f1,f5,f0,m32,m0⟩
  have ho:=odK_ok s h k (by omega)
  by_cases hlt:k<n
  · obtain ⟨q1,q2,q3,q4⟩:=dF (odK s k).1 ((k:Int)+1) ho.1 (by omega)
    have hs:odK s (k+1)=(dS (odK s k).1 (k+1),(odK s k).2.take (dX (odK s k).1 (k+1)).toNat++[(k:Int)]++(odK s k).2.drop (dX (odK s k).1 (k+1)).toNat):=rfl
    obtain ⟨m,hm⟩:∃ m:Nat,dX (odK s k).1 (k+1)=m:=⟨_,(Int.toNat_of_nonneg q3).symm⟩
    rw [hm] at q1 hs q4
    rw [Int.toNat_natCast] at hs
    generalize dS (odK s k).1 (k+1)=s2 at q1 q2 hs
    obtain ⟨ho1,ho2,ho3,ho4⟩:=ho
    generalize (odK s k).1=s1 at q1 ho1 m0
    generalize (odK s k).2=L at hs ho2 m32
    have hw1:IntKind.i64.wrap ((k:Int)+1)=(k:Int)+1:=wrap64_id (by omega)
    simp -dsimp -implicitDefEqProofs (disch:=first | omega | (simp only [lenr];try omega)) only [↓amPre,amAll,↓reduceIte,reduceCtorEq,Nat.reduceEqDiff,Nat.reduceBEq,Nat.reduceAdd,Nat.reduceLeDiff,Nat.reduceSub,Nat.reduceMul,Int.reduceToNat,List.size_toArray,tyF,MM,bu0,cbP9,f6,f1,f5,f0,m32,m0,ho2,hw1]
    refine callX_of (q1) ?_
    have hmk:m - 0≤k:=by omega
    have hbl:AV.bearsL (L.map AV.i64)=false:=ints_bears L
    have hT:List.take (m - 0) (List.drop 0 (L.map AV.i64))=(L.take m).map AV.i64:=by simp
    have hlm:(L.take m).length≤20:=by rw [List.length_take];omega
    simp -dsimp -implicitDefEqProofs (disch:=first | omega | (simp only [lenr];try omega)) only [↓amPre,amAll,↓reduceIte,reduceCtorEq,Nat.reduceEqDiff,Nat.reduceBEq,Nat.reduceAdd,Nat.reduceLeDiff,Nat.reduceSub,Nat.reduceMul,Int.reduceToNat,List.size_toArray,tyF,MM,bu0,cbP9,f6,f1,f5,f0,m32,m0,ho2,hmk,hbl,hT,grabL_ints]
    refine ⟨hlt,by omega,?_,?_,?_⟩
    · have:(List.take (m - 0) L).length+1+(List.drop m L).length=k+1:=by
        rw [List.length_take,List.length_drop];omega
      rw [this]
    · rw [hs,Nat.sub_zero]
      simp only [itr,List.map_append]
    · rw [hs]
  · have hke:k=n:=by omega
    subst hke
    simp -dsimp -implicitDefEqProofs (disch:=first | omega | (simp only [lenr];try omega)) only [↓amPre,amAll,↓reduceIte,reduceCtorEq,Nat.reduceEqDiff,Nat.reduceBEq,Nat.reduceAdd,Nat.reduceLeDiff,Nat.reduceSub,Nat.reduceMul,Int.reduceToNat,List.size_toArray,tyF,MM,bu0,cbP9,f6,f1,f5,f0,m32,m0,ho.2.1]
end D6s
end Go.AM
set_option maxRecDepth 8000
namespace Go.AM
namespace D6s
open Go.Proofs
open Dice (Dc dF dS dX dbelow)
noncomputable def pz6 (s:Dc) (n:Nat):Nat→Dc×List (List Int)
  | 0=>(s,[])
  | k+1=>((odK (pz6 s n k).1 n).1,(pz6 s n k).2++[(odK (pz6 s n k).1 n).2])
theorem pz6_ok (s:Dc) (n:Nat) (h:s.ok) (h1:1≤n) (h2:n≤20):∀ k,(pz6 s n k).1.ok∧(pz6 s n k).2.length=k∧∀ m∈(pz6 s n k).2,moveOk n m
  | 0=>⟨h,rfl,fun x hx=>absurd (show x∈([]:List (List Int)) from hx) (List.not_mem_nil)⟩
  | k+1=>by
    obtain ⟨g1,g2,g3⟩:=pz6_ok s n h h1 h2 k
    obtain ⟨o1,o2,o3,o4⟩:=odK_ok (pz6 s n k).1 g1 n (by omega)
    refine ⟨o1,by simp [pz6,g2],fun m hm=>?_⟩
    simp only [pz6,List.mem_append,List.mem_singleton] at hm
    rcases hm with hm | rfl
    · exact g3 m hm
    · exact ⟨by omega,⟨by omega,by omega⟩,fun x hx=>by have:=o3 x hx;omega,o4⟩
abbrev ABC (k:Nat):List UInt8:=([65,66,67]:List UInt8).take k
theorem w6PuzzleX (s:Dc) (h:s.ok):∃ (s':Dc) (p:Puzz),SpecX Try.prog 42 [s.pt] [some s'.pt] p.tr∧s'.ok∧puzzOk p∧smallP p∧1≤p.mv.length∧p.mv.length≤3∧p.n≤5:=by
  obtain ⟨s1,x1,q1,k1,b1⟩:=dbelow s 3 h (by omega)
  obtain ⟨n,hn⟩:∃ n:Nat,3+x1=n:=⟨_,(Int.toNat_of_nonneg (by omega)).symm⟩
  have hn3:3≤n:=by omega
  have hn5:n≤5:=by omega
  have e0:IntKind.i64.wrap (n:Int)=n:=wrap64_id (by omega)
  obtain ⟨s2,x2,q2,k2,b2⟩:=dbelow s1 3 k1 (by omega)
  obtain ⟨cc,hc⟩:∃ cc:Nat,1+x2=cc:=⟨_,(Int.toNat_of_nonneg (by omega)).symm⟩
  have hc1:1≤cc:=by omega
  have hc3:cc≤3:=by omega
  have e2:IntKind.i64.wrap (cc:Int)=cc:=wrap64_id (by omega)
  obtain ⟨z1,z2,z3⟩:=pz6_ok s2 n k2 (by omega) (by omega) cc
  have hlen:∀ m∈(pz6 s2 n cc).2,m.length≤20:=fun m hm=>(z3 m hm).2.1.2
  have hgen:genOk n (pz6 s2 n cc).2:=⟨by omega,by omega,z3⟩
  have hNl:(ABC cc).length=cc:=by simp;omega
  have hNo:namesOk (ABC cc):=by
    have:∀ cc,cc≤3→1≤cc→namesOk (ABC cc):=by decide
    exact this cc hc3 hc1
  refine ⟨(pz6 s2 n cc).1,⟨n,ABC cc,(pz6 s2 n cc).2⟩,?_,z1,⟨hgen,hNo,by simp only;rw [z2,hNl]⟩,⟨by unfold intOk;simp only;omega,by simp only;rw [hNl];omega,by simp only;omega,fun m hm=>by have:=hlen m hm;omega⟩,by simp only;omega,by simp only;omega,by simp only;omega⟩
  have hpt:(⟨n,ABC cc,(pz6 s2 n cc).2⟩:Puzz).tr=.agg [.i64 n,.st (ABC cc),sst (pz6 s2 n cc).2]:=rfl
  rw [hpt]
  refine spec_of_awp_any (M:=MM) (np:=1) (X:=[6]) (fz:=false) mixed Try.func42 rfl rfl (by decide) rfl (Nat.le_refl _) (by decide +kernel) (.inl rfl) (by simp only [sigsOk_some,sigsOk_nil,and_true];rfl) ?_
  simp -dsimp -implicitDefEqProofs (disch:=first | omega | (simp only [lenr];try omega)) only [↓amPre,amAll,↓reduceIte,reduceCtorEq,Nat.reduceEqDiff,Nat.reduceBEq,Nat.reduceAdd,Nat.reduceLeDiff,Nat.reduceSub,Nat.reduceMul,Int.reduceToNat,List.size_toArray,tyF,MM,bu0,cbP9]
  refine callX_of (q1) ?_
  simp -dsimp -implicitDefEqProofs (disch:=first | omega | (simp only [lenr];try omega)) only [↓amPre,amAll,↓reduceIte,reduceCtorEq,Nat.reduceEqDiff,Nat.reduceBEq,Nat.reduceAdd,Nat.reduceLeDiff,Nat.reduceSub,Nat.reduceMul,Int.reduceToNat,List.size_toArray,tyF,MM,bu0,cbP9,hn,e0]
  refine callX_of (q2) ?_
  simp -dsimp -implicitDefEqProofs (disch:=first | omega | (simp only [lenr];try omega)) only [↓amPre,amAll,↓reduceIte,reduceCtorEq,Nat.reduceEqDiff,Nat.reduceBEq,Nat.reduceAdd,Nat.reduceLeDiff,Nat.reduceSub,Nat.reduceMul,Int.reduceToNat,List.size_toArray,tyF,MM,bu0,cbP9,hc,e2]
  refine awp_loopC 4 2 3 1 [.i64 n,.st (ABC cc),.nilsl] (by simp -dsimp -implicitDefEqProofs (disch:=first | omega | (simp only [lenr];try omega)) only [↓amPre,amAll,↓reduceIte,reduceCtorEq,Nat.reduceEqDiff,Nat.reduceBEq,Nat.reduceAdd,Nat.reduceLeDiff,Nat.reduceSub,Nat.reduceMul,Int.reduceToNat,List.size_toArray,tyF,MM,bu0,cbP9]) (by simp) (by simp) (fun k st=>k≤cc∧st.fr 4=.loc 4 [] 0 0∧st.fr 2=.loc 2 [] 0 0∧st.fr 0=.loc 0 [] 0 0∧st.fr 3=.i64 n∧st.fr 5=.i64 k∧st.mem 4=some (.pt 3 (.agg [.i64 n,.st (ABC cc),sst (pz6 s2 n k).2]))∧st.mem 0=some ((pz6 s2 n k).1.pt)∧st.mem 2=some (.pt 3 (.agg [.i64 0,.st [],.nilsl]))) (cc) ?_ ?_
  · simp -dsimp -implicitDefEqProofs (disch:=first | omega | (simp only [lenr];try omega)) only [↓amPre,amAll,↓reduceIte,reduceCtorEq,Nat.reduceEqDiff,Nat.reduceBEq,Nat.reduceAdd,Nat.reduceLeDiff,Nat.reduceSub,Nat.reduceMul,Int.reduceToNat,List.size_toArray,tyF,MM,bu0,cbP9,nilC_eq]
    simp [pz6]
  rintro k st _ ⟨hk,f4,f2,f0,f3,f5,m4,m0,m2⟩
  obtain ⟨g1,g2,g3⟩:=pz6_ok s2 n k2 (by omega) (by omega) k
  by_cases hlt:k<cc
  · have hlt':(k:Int)<(cc:Int):=by omega
    have hst:pz6 s2 n (k+1)=((odK (pz6 s2 n k).1 n).1,(pz6 s2 n k).2++[(odK (pz6 s2 n k).1 n).2]):=rfl
    have qp:=w6Perm (pz6 s2 n k).1 n g1 (by omega)
    have hol:=(odK_ok (pz6 s2 n k).1 g1 n (by omega)).2.1
    rw [hst]
    generalize (odK (pz6 s2 n k).1 n).1=S1 at *
    generalize (odK (pz6 s2 n k).1 n).2=q at *
    generalize (pz6 s2 n k).1=S at *
    generalize (pz6 s2 n k).2=L at *
    dsimp only
    simp -dsimp -implicitDefEqProofs (disch:=first | omega | (simp only [lenr];try omega)) only [↓amPre,amAll,↓reduceIte,reduceCtorEq,Nat.reduceEqDiff,Nat.reduceBEq,Nat.reduceAdd,Nat.reduceLeDiff,Nat.reduceSub,Nat.reduceMul,Int.reduceToNat,List.size_toArray,tyF,MM,bu0,cbP9,f4,f2,f0,f3,f5,m4,m0,m2,hNl,lt_true hlt']
    refine lat_go [[],[0],[],[],[2,3],[2,3,4],[0,1,2,3,4,5],[0,1,2,3,4,5,6],[0,1,2,3,4,5,6,7]] [[1,6,7,8],[6,7,8],[4,5,6,7,8],[4,5,6,7,8],[5,6,7,8],[6,7,8],[7,8],[8],[]] [0,1,2,3,4,5,6,7,8] (fun c st=>st.fr 4=.loc 4 [] 0 0∧st.fr 2=.loc 2 [] 0 0∧st.fr 0=.loc 0 [] 0 0∧st.fr 3=.i64 n∧st.fr 5=.i64 k∧(c 0=true→st.fr 22=.loc 4 [] 0 2)∧(c 1=true→c 6=false→st.fr 23=.ref 4 [(0,2)] 1 0 k)∧(c 2=true→st.fr 24=.loc 0 [] 0 0)∧(c 3=true→st.fr 25=.i64 n)∧(c 4=true→c 6=false→st.fr 26=.ref 26 [] 1 0 n)∧(c 5=true→c 6=false→st.fr 27=.lst 1 [.ref 26 [] 1 0 n])∧(c 6=true→c 8=false→st.fr 28=.ref 28 [] 1 0 (k+1))∧(c 7=true→st.fr 29=.loc 4 [] 0 2)∧st.mem 2=some (.pt 3 (.agg [.i64 0,.st [],.nilsl]))∧st.mem 0=some (bif c 4 then (S1.pt) else (S.pt))∧st.mem 4=some (bif c 8 then (.pt 3 (.agg [.i64 n,.st (ABC cc),sst (L++[q])])) else (bif c 6 then (.pt 3 (.agg [.i64 n,.st (ABC cc),.any])) else (.pt 3 (.agg [.i64 n,.st (ABC cc),sst L]))))∧(c 4=true→c 6=false→st.mem 26=some (itr q))∧(c 6=true→c 8=false→st.mem 28=some (sst (L++[q])))) (by decide +kernel) ?_ ?_ ?_
    · (try simp -dsimp -implicitDefEqProofs (disch:=first | omega | (simp only [lenr];try omega)) only [↓amPre,amAll,↓reduceIte,reduceCtorEq,Nat.reduceEqDiff,Nat.reduceBEq,Nat.reduceAdd,Nat.reduceLeDiff,Nat.reduceSub,Nat.reduceMul,Int.reduceToNat,List.size_toArray,tyF,MM,bu0,cbP9,latj,g2,hol,f4,f2,f0,f3,f5,m4,m0,m2])
      all_goals (try (repeat' (first | apply And.intro | rfl | (intro _;rfl) | (intro _ _;rfl))))
    · refine ⟨?_,?_,?_,?_,?_,?_,?_,?_,?_,trivial⟩
      all_goals rintro c st R hC hJ hR
      all_goals simp only [latm] at hC
      all_goals simp only [hC,latj] at hJ
      all_goals simp -dsimp -implicitDefEqProofs (disch:=first | omega | (simp only [lenr];try omega)) only [↓amPre,amAll,↓reduceIte,reduceCtorEq,Nat.reduceEqDiff,Nat.reduceBEq,Nat.reduceAdd,Nat.reduceLeDiff,Nat.reduceSub,Nat.reduceMul,Int.reduceToNat,List.size_toArray,tyF,MM,bu0,cbP9,hJ,g2,hol]
      all_goals (try (refine callX_of qp ?_;simp -dsimp -implicitDefEqProofs (disch:=first | omega | (simp only [lenr];try omega)) only [↓amPre,amAll,↓reduceIte,reduceCtorEq,Nat.reduceEqDiff,Nat.reduceBEq,Nat.reduceAdd,Nat.reduceLeDiff,Nat.reduceSub,Nat.reduceMul,Int.reduceToNat,List.size_toArray,tyF,MM,bu0,cbP9,hJ,g2,hol]))
      all_goals refine hR _ ?_
      all_goals (simp +contextual -dsimp -implicitDefEqProofs only [amAll,↓reduceIte,reduceCtorEq,Nat.reduceEqDiff,Nat.reduceBEq,Nat.reduceAdd,latj,hC,hJ,g2,hol];try (repeat' (first | apply And.intro | rfl | (intro _;rfl) | (intro _ _;rfl))))
    intro c st hall hJ
    simp only [latm] at hall
    simp only [hall,latj] at hJ
    obtain ⟨f4,f2,f0,f3,f5,f22,f24,f25,f29,m2,m0,m4⟩:=hJ
    clear hall
    simp -dsimp -implicitDefEqProofs (disch:=first | omega | (simp only [lenr];try omega)) only [↓amPre,amAll,↓reduceIte,reduceCtorEq,Nat.reduceEqDiff,Nat.reduceBEq,Nat.reduceAdd,Nat.reduceLeDiff,Nat.reduceSub,Nat.reduceMul,Int.reduceToNat,List.size_toArray,tyF,MM,bu0,cbP9,f4,f2,f0,f3,f5,m2,m0,m4]
    exact ⟨hlt,by omega⟩
  · have hke:k=cc:=by omega
    subst hke
    have c1':¬ (k:Int)<(k:Int):=by omega
    simp -dsimp -implicitDefEqProofs (disch:=first | omega | (simp only [lenr];try omega)) only [↓amPre,amAll,↓reduceIte,reduceCtorEq,Nat.reduceEqDiff,Nat.reduceBEq,Nat.reduceAdd,Nat.reduceLeDiff,Nat.reduceSub,Nat.reduceMul,Int.reduceToNat,List.size_toArray,tyF,MM,bu0,cbP9,f4,f2,f0,f3,f5,m4,m0,m2,hNl,lt_false (Int.not_lt.1 c1')]
end D6s
end Go.AM
namespace Go.AM
namespace Bf
open Ch (PN pt idL Gen)
theorem Fin.word_le {n:Nat} {mv:List (List Int)} {e:Ex} (h1:1≤n) (h2:n≤20) (hm:∀ s∈mv,PN n s) (f:Fin n mv (letL mv.length) e) {w:List Int} (hw:∀ x∈w,x∈letL mv.length):dOf e (effK n mv w w.length)≤w.length:=by
  have hg:=eff_gen h1 h2 hm hw w.length (Nat.le_refl _)
  have hin:=(f.all _).2 hg.2
  have hi:=List.idxOf_lt_length_iff.2 hin
  have hwl:(ltr (letL mv.length) (w.map fun x=>(letL mv.length).idxOf x))=w:=by
    rw [ltr,List.map_map]
    conv=>rhs;rw [← List.map_id w]
    refine List.map_congr_left fun x hx=>?_
    have hx2:=List.idxOf_lt_length_iff.2 (hw x hx)
    show (letL mv.length).getD ((letL mv.length).idxOf x) 0=x
    rw [getD_eq _ _ _ hx2,List.getElem_idxOf]
  have hul:(w.map fun x=>(letL mv.length).idxOf x).length=w.length:=by simp
  have hev:=eff_ev n mv (letL mv.length) (w.map fun x=>(letL mv.length).idxOf x) w.length (by rw [hul];exact Nat.le_refl _)
  rw [hwl,← hul,List.take_length,hul,Int.toNat_natCast] at hev
  have hs:e.S.getD (e.S.idxOf (effK n mv w w.length)) default=effK n mv w w.length:=by rw [getD_eq _ _ _ hi,List.getElem_idxOf]
  have:=(f.min h1 h2 hm _ (w.map fun x=>(letL mv.length).idxOf x) rfl (fun j hj=>by
    obtain ⟨x,hx,rfl⟩:=List.mem_map.1 hj
    exact List.idxOf_lt_length_iff.2 (hw x hx)) _ hi (by rw [← hev,hs])).1
  rw [hul] at this
  exact this
def sK (l:List Int):Nat→Int
  | 0=>0
  | k+1=>sK l k+l.getD k 0
theorem sK_rep (m:Nat):∀ k,k≤m→sK (List.replicate m 0) k=0
  | 0,_=>rfl
  | k+1,h=>by rw [sK,sK_rep m k (by omega),getD_eq _ _ _ (by rw [List.length_replicate];omega),List.getElem_replicate];rfl
theorem sK_set (l:List Int) {d:Nat} (v:Int) (hd:d<l.length):∀ k,k≤l.length→sK (l.set d v) k=if d<k then sK l k - l.getD d 0+v else sK l k
  | 0,_=>by rw [if_neg (by omega)];rfl
  | k+1,h=>by
    rw [sK,sK,sK_set l v hd k (by omega),getD_eq (l.set d v) k 0 (by simp;omega),List.getElem_set]
    by_cases c:d=k
    · subst c
      rw [if_neg (by omega),if_pos rfl,if_pos (by omega)]
      omega
    · rw [if_neg c,← getD_eq l k 0 (by omega)]
      by_cases c2:d<k
      · rw [if_pos c2,if_pos (by omega)];omega
      · rw [if_neg c2,if_neg (by omega)]
theorem hsK_sum (e:Ex) (st:Nat→List Int):∀ k,(∀ i,i<k→dOf e (st i)≤e.D.getD (e.D.length - 1) 0)→sK (hsK e st k) (e.D.getD (e.D.length - 1) 0+1)=k
  | 0,_=>by rw [hsK,sK_rep _ _ (Nat.le_refl _)];rfl
  | k+1,h=>by
    have hl:=hsK_len e st k
    have hk:=h k (by omega)
    rw [hsK,sK_set _ _ (by omega) _ (by omega),if_pos (by omega),hsK_sum e st k (fun i hi=>h i (by omega))]
    omega
theorem hsK_pos (e:Ex) (st:Nat→List Int):∀ k j,0<(hsK e st k).getD j 0→∃ i,i<k∧dOf e (st i)=j
  | 0,j,h=>by have:=hsK_bd e st 0 j;omega
  | k+1,j,h=>by
    by_cases c:dOf e (st k)=j
    · exact ⟨k,by omega,c⟩
    · have:0<(hsK e st k).getD j 0:=by
        rw [hsK] at h
        rcases Nat.lt_or_ge j ((hsK e st k).set (dOf e (st k)) ((hsK e st k).getD (dOf e (st k)) 0+1)).length with q | q
        · rw [getD_eq _ _ _ q,List.getElem_set,if_neg c,← getD_eq _ j 0 (by simpa using q)] at h
          exact h
        · rw [List.getD_eq_getElem?_getD,List.getElem?_eq_none q] at h;simp at h
      obtain ⟨i,hi,q⟩:=hsK_pos e st k j this
      exact ⟨i,by omega,q⟩
end Bf
end Go.AM
set_option maxRecDepth 8000
namespace Go.AM
namespace Ss
open Go.Proofs
open Ch (PN idL cst_len)
open Bf (Ex dOf hsK hsK_len hsK_bd sK hsK_sum hsK_pos)
open Ck (stN)
open Sr (sR sR_yes sR_ok sR_len)
open Wo (sR_fin)
open Hs (hP canScr_up scrS_in smallE_of)
theorem w6Id (n:Nat) (h2:n≤20):SpecAt Try.prog 31 [.i64 n] (itr (runI 0 n)):=by
  refine spec_of_awp (M:=MM) (np:=1) (fz:=false) mixed Try.func31 rfl rfl (by decide) rfl (Nat.le_refl _) (by decide +kernel) (.inl rfl) (by first | trivial | simp only [sigsOk_nil,sigsOk_some,sigsOk_none,sig_tr,sig_pt,sig_mt,sig_agg,List.map_cons,List.map_nil,sig1_tr,sig1_pt,sig1_v,and_self,true_and,List.length_map,List.length_set]) ?_
  simp -dsimp -implicitDefEqProofs (disch:=first | omega | (simp only [lenr];try omega)) only [↓amPre,amAll,↓reduceIte,reduceCtorEq,Nat.reduceEqDiff,Nat.reduceBEq,Nat.reduceAdd,Nat.reduceLeDiff,Nat.reduceSub,Nat.reduceMul,Int.reduceToNat,List.size_toArray,tyF,MM,bu0,cbU49]
  refine awp_loop (fun k st=>k≤n∧st.fr 4=.i64 k∧st.fr 0=.i64 n∧((k=0∧st.fr 3=.ref 5 [] 1 0 0∧st.mem 5=some (.tr 1 []))∨(0<k∧st.fr 3=.ref 14 [] 1 0 k∧st.mem 14=some (itr (runI 0 k))))) (n) ?_ ?_
  · simp -dsimp -implicitDefEqProofs (disch:=first | omega | (simp only [lenr];try omega)) only [↓amPre,amAll,↓reduceIte,reduceCtorEq,Nat.reduceEqDiff,Nat.reduceBEq,Nat.reduceAdd,Nat.reduceLeDiff,Nat.reduceSub,Nat.reduceMul,Int.reduceToNat,List.size_toArray,tyF,MM,bu0,cbU49]
    exact ⟨Nat.zero_le _,rfl⟩
  rintro k st _ ⟨hk,f4,f0,ek⟩
  have hl:=runI_len 0 k
  by_cases hlt:k<n
  · have hlt':(k:Int)<(n:Int):=by omega
    have hs:runI 0 (k+1)=runI 0 k++[(k:Int)]:=by rw [runI_succ];simp
    rw [hs]
    rcases ek with ⟨k0,g3,g5⟩ | ⟨k0,g3,g14⟩
    · subst k0
      simp -dsimp -implicitDefEqProofs (disch:=first | omega | (simp only [lenr];try omega)) only [↓amPre,amAll,↓reduceIte,reduceCtorEq,Nat.reduceEqDiff,Nat.reduceBEq,Nat.reduceAdd,Nat.reduceLeDiff,Nat.reduceSub,Nat.reduceMul,Int.reduceToNat,List.size_toArray,tyF,MM,bu0,cbU49,f4,f0,g3,g5,lt_true hlt']
      exact ⟨hlt,by omega,by omega,rfl⟩
    · generalize runI 0 k=R at *
      simp -dsimp -implicitDefEqProofs (disch:=first | omega | (simp only [lenr];try omega)) only [↓amPre,amAll,↓reduceIte,reduceCtorEq,Nat.reduceEqDiff,Nat.reduceBEq,Nat.reduceAdd,Nat.reduceLeDiff,Nat.reduceSub,Nat.reduceMul,Int.reduceToNat,List.size_toArray,tyF,MM,bu0,cbU49,f4,f0,g3,g14,lt_true hlt',hl]
      exact ⟨hlt,by omega,by omega⟩
  · have hke:k=n:=by omega
    have c1':¬ (n:Int)<(n:Int):=by omega
    rcases ek with ⟨k0,g3,g5⟩ | ⟨k0,g3,g14⟩
    · have hn:n=0:=by omega
      subst hn
      subst k0
      simp -dsimp -implicitDefEqProofs (disch:=first | omega | (simp only [lenr];try omega)) only [↓amPre,amAll,↓reduceIte,reduceCtorEq,Nat.reduceEqDiff,Nat.reduceBEq,Nat.reduceAdd,Nat.reduceLeDiff,Nat.reduceSub,Nat.reduceMul,Int.reduceToNat,List.size_toArray,tyF,MM,bu0,cbU49,f4,f0,g3,g5]
      rfl
    · subst hke
      simp -dsimp -implicitDefEqProofs (disch:=first | omega | (simp only [lenr];try omega)) only [↓amPre,amAll,↓reduceIte,reduceCtorEq,Nat.reduceEqDiff,Nat.reduceBEq,Nat.reduceAdd,Nat.reduceLeDiff,Nat.reduceSub,Nat.reduceMul,Int.reduceToNat,List.size_toArray,tyF,MM,bu0,cbU49,f4,f0,g3,g14,lt_false (Int.not_lt.1 c1'),hl]
theorem likeI (a b:List Int) (ha:a.length≤1099511627776):SpecAt Try.prog 33 [isl a,isl b] (.bl (decide (a=b))):=by
  by_cases hl:a.length=b.length
  case neg =>
    rw [decide_eq_false (fun q=>hl (by rw [q]))]
    have hl':¬ (a.length:Int)=(b.length:Int):=by omega
    refine spec_of_awp (M:=MM) (np:=2) (fz:=true) mixed Try.func33 rfl rfl (by decide) rfl (Nat.le_refl _) (by decide +kernel) (.inr ⟨rfl,rfl⟩) trivial ?_
    simp -dsimp -implicitDefEqProofs (disch:=first | omega | (simp only [lenr];try omega)) only [↓amPre,amAll,↓reduceIte,reduceCtorEq,Nat.reduceEqDiff,Nat.reduceBEq,Nat.reduceAdd,Nat.reduceLeDiff,Nat.reduceSub,Nat.reduceMul,Int.reduceToNat,List.size_toArray,tyF,MM,bu0,cbU49,hl']
  refine spec_of_awp (M:=MM) (np:=2) (fz:=true) mixed Try.func33 rfl rfl (by decide) rfl (Nat.le_refl _) (by decide +kernel) (.inr ⟨rfl,rfl⟩) trivial ?_
  simp -dsimp -implicitDefEqProofs (disch:=first | omega | (simp only [lenr];try omega)) only [↓amPre,amAll,↓reduceIte,reduceCtorEq,Nat.reduceEqDiff,Nat.reduceBEq,Nat.reduceAdd,Nat.reduceLeDiff,Nat.reduceSub,Nat.reduceMul,Int.reduceToNat,List.size_toArray,tyF,MM,bu0,cbU49,hl]
  refine awp_loop (fun k st=>k≤a.length∧st.fr 5=.i64 k∧st.fr 0=isl a∧st.fr 1=isl b∧(a.take k=b.take k)) (a.length) ?_ ?_
  · simp -dsimp -implicitDefEqProofs (disch:=first | omega | (simp only [lenr];try omega)) only [↓amPre,amAll,↓reduceIte,reduceCtorEq,Nat.reduceEqDiff,Nat.reduceBEq,Nat.reduceAdd,Nat.reduceLeDiff,Nat.reduceSub,Nat.reduceMul,Int.reduceToNat,List.size_toArray,tyF,MM,bu0,cbU49]
    exact ⟨Nat.zero_le _,rfl⟩
  rintro k st _ ⟨hk,f5,f0,f1,ek⟩
  by_cases hlt:k<a.length
  · have hlt':(k:Int)<(a.length:Int):=by omega
    have hlt2:(k:Int)<(b.length:Int):=by omega
    by_cases e:a.getD k 0=b.getD k 0
    · have ht:a.take (k+1)=b.take (k+1):=by rw [List.take_succ_eq_append_getElem hlt,List.take_succ_eq_append_getElem (by omega),ek,← getD_eq a k 0 hlt,← getD_eq b k 0 (by omega),e]
      simp -dsimp -implicitDefEqProofs (disch:=first | omega | (simp only [lenr];try omega)) only [↓amPre,amAll,↓reduceIte,reduceCtorEq,Nat.reduceEqDiff,Nat.reduceBEq,Nat.reduceAdd,Nat.reduceLeDiff,Nat.reduceSub,Nat.reduceMul,Int.reduceToNat,List.size_toArray,tyF,MM,bu0,cbU49,f5,f0,f1,lt_true hlt',lt_true hlt2,hl,e]
      exact ⟨by omega,by omega,ht⟩
    · have hne:decide (a=b)=false:=decide_eq_false (fun q=>e (by rw [q]))
      rw [hne]
      simp -dsimp -implicitDefEqProofs (disch:=first | omega | (simp only [lenr];try omega)) only [↓amPre,amAll,↓reduceIte,reduceCtorEq,Nat.reduceEqDiff,Nat.reduceBEq,Nat.reduceAdd,Nat.reduceLeDiff,Nat.reduceSub,Nat.reduceMul,Int.reduceToNat,List.size_toArray,tyF,MM,bu0,cbU49,f5,f0,f1,lt_true hlt',lt_true hlt2,hl,e]
  · have hke:k=a.length:=by omega
    subst hke
    have hab:a=b:=by rw [List.take_length,hl,List.take_length] at ek;exact ek
    have c1':¬ (a.length:Int)<(a.length:Int):=by omega
    rw [decide_eq_true hab]
    simp -dsimp -implicitDefEqProofs (disch:=first | omega | (simp only [lenr];try omega)) only [↓amPre,amAll,↓reduceIte,reduceCtorEq,Nat.reduceEqDiff,Nat.reduceBEq,Nat.reduceAdd,Nat.reduceLeDiff,Nat.reduceSub,Nat.reduceMul,Int.reduceToNat,List.size_toArray,tyF,MM,bu0,cbU49,f5,f0,f1,hl,lt_false (Int.not_lt.1 c1')]
theorem ds_law {p:Puzz} {x c:Int} (h:canScr p x c):∀ k,(dsS p x c 4 k).2=(dsS p x c 4 k).1.map (fun w=>effK p.n p.mv w w.length)∧(dsS p x c 4 k).2.Nodup ∧
    (∀ w∈(dsS p x c 4 k).1,wordOk p.mv.length w∧(w.length:Int)=c)∧(dsS p x c 4 k).1.length≤4∧(1≤k→1≤(dsS p x c 4 k).1.length)
  | 0=>⟨rfl,List.nodup_nil,fun w hw=>absurd (show w∈([]:List (List Int)) from hw) (List.not_mem_nil),Nat.zero_le _,fun q=>absurd q (by omega)⟩
  | k+1=>by
    obtain ⟨a1,a2,a3,a4,a5⟩:=ds_law h k
    have b2:=within_iff.1 h.2.2
    have b1:=within_iff.1 h.2.1
    have e0:dsS p x c 4 (k+1)=if dsC x 4 k (dsS p x c 4 k).1∧scrS p (x+k) c∉(dsS p x c 4 k).2 then ((dsS p x c 4 k).1++[scrR p (x+k) c],(dsS p x c 4 k).2++[scrS p (x+k) c]) else dsS p x c 4 k:=rfl
    rw [e0]
    split
    · rename_i hc
      have hck:canScr p (x+k) c:=⟨h.1,within_iff.2 ⟨by omega,by have:=hc.1.1;omega⟩,h.2.2⟩
      have hz:scrS p (x+k) c=effK p.n p.mv (scrR p (x+k) c) (scrR p (x+k) c).length:=if_pos hck
      have hl:(scrR p (x+k) c).length=c.toNat:=by rw [scrR,if_pos hck,scrW_len]
      have hc4:=hc.1.2
      refine ⟨?_,?_,fun w hw=>?_,?_,fun _=>?_⟩
      · dsimp only
        rw [List.map_append,← a1,List.map_cons,List.map_nil,← hz]
      · dsimp only
        refine List.nodup_append.2 ⟨a2,List.pairwise_singleton _ _,fun s hs t ht q=>?_⟩
        rw [List.mem_singleton.1 ht] at q
        rw [q] at hs
        exact hc.2 hs
      · rcases List.mem_append.1 hw with q | q
        · exact a3 w q
        · rw [List.mem_singleton.1 q]
          exact ⟨(scrR_word hck).1,by rw [hl];omega⟩
      · dsimp only;rw [List.length_append,List.length_singleton];omega
      · dsimp only;rw [List.length_append,List.length_singleton];omega
    · rename_i hc
      refine ⟨a1,a2,a3,a4,fun _=>?_⟩
      rcases Nat.eq_zero_or_pos k with q | q
      · subst q
        exfalso
        refine hc ⟨⟨by omega,by show ((([]:List (List Int)).length:Nat):Int)<4;simp⟩,?_⟩
        show scrS p (x+((0:Nat):Int)) c∉([]:List (List Int))
        exact List.not_mem_nil
      · exact a5 q
theorem hs_law {p:Puzz} {x c:Int} (hs:1≤stN p∧stN p≤3000) (h:canScr p x c) (hx:x+6≤2147483647) :
    (hP p x c 6).length≤3001∧sK (hP p x c 6) (hP p x c 6).length=6∧∀ j,(0≤(hP p x c 6).getD j 0∧(hP p x c 6).getD j 0≤6)∧(0<(hP p x c 6).getD j 0→(j:Int)≤c):=by
  have hl:=Hs.hP_len p x c 6
  refine ⟨hl,?_⟩
  obtain ⟨hd,hR⟩:=sR_yes hs
  have hF:=sR_fin hs
  have hpn:=Ck.puzz_pn hd
  have h1:=hd.1.1
  have b2:=within_iff.1 h.2.2
  have hin:∀ i:Nat,i<6→scrS p (x+i) c∈(sR p).1.S:=fun i hi=>(scrS_in hs (canScr_up (t:=6) h (by omega) hi)).1
  have hw:∀ i:Nat,i<6→dOf (sR p).1 (scrS p (x+i) c)≤c.toNat:=fun i hi=>by
    have hck:=canScr_up (t:=6) h (by omega) hi
    have hz:scrS p (x+i) c=effK p.n p.mv (scrR p (x+i) c) (scrR p (x+i) c).length:=if_pos hck
    have hll:(scrR p (x+i) c).length=c.toNat:=by rw [scrR,if_pos hck,scrW_len]
    have hn:((p.n.toNat:Nat):Int)=p.n:=by omega
    have:=hF.word_le (by omega) (by omega) hpn (w:=scrR p (x+i) c) (fun y hy=>Bf.letOk_mem ((scrR_word hck).1.2 y hy))
    rw [hn,← hz,hll] at this
    rw [hR]
    dsimp only
    generalize Bf.out p.mv (letL p.mv.length) p.n.toNat 3000=e at *
    exact this
  have hz:hP p x c 6=hsK (sR p).1 (fun k=>scrS p (x+k) c) 6:=by
    rw [hP,if_pos ⟨hs,h,within_iff.2 (by omega),hx⟩,show Int.toNat 6=6 from rfl]
  rw [hz]
  rw [hR] at hin hw ⊢
  dsimp only at hin hw ⊢
  generalize Bf.out p.mv (letL p.mv.length) p.n.toNat 3000=e at *
  have hlen:=hsK_len e (fun k=>scrS p (x+k) c) 6
  refine ⟨?_,fun j=>⟨hsK_bd e (fun k=>scrS p (x+k) c) 6 j,fun hj=>?_⟩⟩
  · rw [hlen]
    exact hsK_sum e (fun k=>scrS p (x+k) c) 6 fun i hi=>hF.dOf_le (hin i hi)
  · obtain ⟨i,hi,q⟩:=hsK_pos e (fun k=>scrS p (x+k) c) 6 j hj
    have h3:=hw i hi
    have q':dOf e (scrS p (x+i) c)=j:=q
    omega
end Ss
end Go.AM
set_option maxRecDepth 8000
namespace Go.AM
namespace Sz
open Go.Proofs
open Dice (Dc dF dS dX bsl dbig droll rlK dbelow)
open D6s (w6PuzzleX)
open Ss (w6Id likeI ds_law hs_law)
open Bf (sK)
open Ck (stN)
open Hs (hP iHist)
def MM:FuncId→List Bool:=fun f=>if f=20 then [true,false] else if f=118 then [true,false] else if f=42 then [true] else []
theorem few {p:Puzz} (hd:puzzOk p) (h5:p.n≤5):1≤stN p∧stN p≤120:=by
  have hpn:=Ck.puzz_pn hd
  have h1:=hd.1.1
  have hP:=Ch.newL_part (n:=p.n.toNat) (by omega) (by omega) hpn
  have:=Ch.ord_fac (n:=p.n.toNat) (by omega) (by omega) _ 0 hP.good
  rw [stN,if_pos hd]
  refine ⟨this.1,Nat.le_trans this.2 ?_⟩
  obtain ⟨m,hm⟩:∃ m,p.n.toNat=m:=⟨_,rfl⟩
  rw [hm,Nat.sub_zero]
  have hm5:m≤5:=by omega
  have hf:∀ m,m≤5→Ch.facN m≤120:=by decide
  exact hf m hm5
theorem sK_bd (H:List Int) (h:∀ i,0≤H.getD i 0∧H.getD i 0≤6):∀ j,0≤sK H j∧sK H j≤6*j
  | 0=>by simp [sK]
  | j+1=>by
    have:=sK_bd H h j
    have:=h j
    rw [sK];omega
theorem lawScrSets (l:List UInt8) (w:l.length≤9223372036854775807):SpecAt Try.prog 7 [bsl l] (.bl true):=by
  have qb:=dbig l
  by_cases c0:(4096:Int)<l.length
  · refine spec_of_awp_any (M:=MM) (np:=1) (X:=[13,17]) (fz:=true) mixed Try.func7 rfl rfl (by decide) rfl (Nat.le_refl _) (by decide +kernel) (.inr ⟨rfl,rfl⟩) trivial ?_
    simp -dsimp -implicitDefEqProofs (disch:=first | omega | (simp only [lenr];try omega)) only [↓amPre,amAll,↓reduceIte,reduceCtorEq,Nat.reduceEqDiff,Nat.reduceBEq,Nat.reduceAdd,Nat.reduceLeDiff,Nat.reduceSub,Nat.reduceMul,Int.reduceToNat,List.size_toArray,tyF,MM,bu0,cbU49]
    refine callP_of (qb) ?_
    simp -dsimp -implicitDefEqProofs (disch:=first | omega | (simp only [lenr];try omega)) only [↓amPre,amAll,↓reduceIte,reduceCtorEq,Nat.reduceEqDiff,Nat.reduceBEq,Nat.reduceAdd,Nat.reduceLeDiff,Nat.reduceSub,Nat.reduceMul,Int.reduceToNat,List.size_toArray,tyF,MM,bu0,cbU49,decide_eq_true c0]
  rw [decide_eq_false c0] at qb
  have q0:=droll l 910 (by omega)
  have k0:(⟨l,0,rlK l 910 l.length⟩:Dc).ok:=⟨by show l.length≤4096;omega,Nat.zero_le _⟩
  generalize (⟨l,0,rlK l 910 l.length⟩:Dc)=d0 at q0 k0
  obtain ⟨d1,p,q1,k1,hd,hsp,hp1,hp2,hp5⟩:=w6PuzzleX d0 k0
  obtain ⟨d2,x,q2,k2,hx0,hx3⟩:=dbelow d1 100000 k1 (by omega)
  obtain ⟨d3,c,q3,k3,hc0,hc3⟩:=dbelow d2 6 k2 (by omega)
  have hf:=few hd hp5
  have hs:1≤stN p∧stN p≤3000:=by omega
  have hcan:canScr p x c:=⟨hd,within_iff.2 (by omega),within_iff.2 (by omega)⟩
  obtain ⟨a1,a2,a3,a4,a5⟩:=ds_law hcan 100
  have a5:=a5 (by omega)
  obtain ⟨b1,b2,b3⟩:=hs_law hs hcan (by omega)
  have q4:=iDistinct p x c 4 hsp
  have hds:dsR p x c 4=(dsS p x c 4 100).1:=if_pos ⟨hcan,within_iff.2 (by omega)⟩
  rw [hds] at q4
  have q5:=iHist p x c 6 hsp
  have hn:=hd.1.1
  obtain ⟨n,hnn⟩:∃ n:Nat,p.n=n:=⟨p.n.toNat,by omega⟩
  have hn20:n≤20:=by omega
  have qi:=w6Id n hn20
  have hid:moveOk p.n (runI 0 n):=⟨by rw [runI_len,hnn],run_perm (by omega) (by omega)⟩
  have qa:∀ t∈(dsS p x c 4 100).1,SpecAt Try.prog 30 [p.sl,isl (runI 0 n),isl t] (.tup [itr (effK p.n p.mv t t.length),.bl true])∧(effK p.n p.mv t t.length).length=n:=by
    intro t ht
    obtain ⟨h1,h2⟩:=a3 t ht
    have:=sApplyWord p (runI 0 n) t hsp hd hid h1 (fun y hy=>by have:=h1.2 y hy;unfold letOk at this;unfold intOk;omega)
    have he:=effK_ok hd.1 h1 t.length (Nat.le_refl _)
    rw [comp_id he.2 (by have:=he.1;omega)] at this
    exact ⟨this,by have:=he.1;omega⟩
  have hne:∀ i j,j<i→i<(dsS p x c 4 100).1.length→¬ effK p.n p.mv ((dsS p x c 4 100).1.getD i default) ((dsS p x c 4 100).1.getD i default).length=effK p.n p.mv ((dsS p x c 4 100).1.getD j default) ((dsS p x c 4 100).1.getD j default).length:=by
    intro i j hji hi e
    rw [a1] at a2
    have hpw:=List.pairwise_iff_getElem.1 a2
    have:=hpw j i (by rw [List.length_map];omega) (by rw [List.length_map];exact hi) hji
    rw [List.getElem_map,List.getElem_map,← getD_eq _ j default (by omega),← getD_eq _ i default hi] at this
    exact this e.symm
  have hw3:∀ t∈(dsS p x c 4 100).1,(t.length:Int)=c:=fun t ht=>(a3 t ht).2
  generalize (dsS p x c 4 100).1=L at *
  generalize hP p x c 6=H at *
  have hps:p.sl=.agg [.i64 n,.st p.nm,ssl p.mv]:=by rw [← hnn];rfl
  have hpt:p.tr=.agg [.i64 n,.st p.nm,sst p.mv]:=by rw [← hnn];rfl
  rw [hps] at q4 q5 qa
  rw [hpt] at q1
  have ee:∀ X:List Int,AV.fzL (X.map AV.i64)=X.map AV.i64:=fun X=>by rw [fzL_map,ints_fz]
  have hfl:AV.fzL (L.map itr)=L.map isl:=by rw [fzL_map,ssfz]
  have hLl:(L.map isl).length=L.length:=by simp
  have hL1:¬ (L.length:Int)<1:=by omega
  have hL4:¬ (4:Int)<(L.length:Int):=by omega
  refine spec_of_awp_any (M:=MM) (np:=1) (X:=[13,17]) (fz:=true) mixed Try.func7 rfl rfl (by decide) rfl (Nat.le_refl _) (by decide +kernel) (.inr ⟨rfl,rfl⟩) trivial ?_
  simp -dsimp -implicitDefEqProofs (disch:=first | omega | (simp only [lenr];try omega)) only [↓amPre,amAll,↓reduceIte,reduceCtorEq,Nat.reduceEqDiff,Nat.reduceBEq,Nat.reduceAdd,Nat.reduceLeDiff,Nat.reduceSub,Nat.reduceMul,Int.reduceToNat,List.size_toArray,tyF,MM,bu0,cbU49]
  refine callP_of (qb) ?_
  simp -dsimp -implicitDefEqProofs (disch:=first | omega | (simp only [lenr];try omega)) only [↓amPre,amAll,↓reduceIte,reduceCtorEq,Nat.reduceEqDiff,Nat.reduceBEq,Nat.reduceAdd,Nat.reduceLeDiff,Nat.reduceSub,Nat.reduceMul,Int.reduceToNat,List.size_toArray,tyF,MM,bu0,cbU49]
  refine callP_of (q0) ?_
  simp -dsimp -implicitDefEqProofs (disch:=first | omega | (simp only [lenr];try omega)) only [↓amPre,amAll,↓reduceIte,reduceCtorEq,Nat.reduceEqDiff,Nat.reduceBEq,Nat.reduceAdd,Nat.reduceLeDiff,Nat.reduceSub,Nat.reduceMul,Int.reduceToNat,List.size_toArray,tyF,MM,bu0,cbU49]
  refine callX_of (q1) ?_
  simp -dsimp -implicitDefEqProofs (disch:=first | omega | (simp only [lenr];try omega)) only [↓amPre,amAll,↓reduceIte,reduceCtorEq,Nat.reduceEqDiff,Nat.reduceBEq,Nat.reduceAdd,Nat.reduceLeDiff,Nat.reduceSub,Nat.reduceMul,Int.reduceToNat,List.size_toArray,tyF,MM,bu0,cbU49,ssfz]
  refine callX_of (q2) ?_
  simp -dsimp -implicitDefEqProofs (disch:=first | omega | (simp only [lenr];try omega)) only [↓amPre,amAll,↓reduceIte,reduceCtorEq,Nat.reduceEqDiff,Nat.reduceBEq,Nat.reduceAdd,Nat.reduceLeDiff,Nat.reduceSub,Nat.reduceMul,Int.reduceToNat,List.size_toArray,tyF,MM,bu0,cbU49,ssfz]
  refine callX_of (q3) ?_
  simp -dsimp -implicitDefEqProofs (disch:=first | omega | (simp only [lenr];try omega)) only [↓amPre,amAll,↓reduceIte,reduceCtorEq,Nat.reduceEqDiff,Nat.reduceBEq,Nat.reduceAdd,Nat.reduceLeDiff,Nat.reduceSub,Nat.reduceMul,Int.reduceToNat,List.size_toArray,tyF,MM,bu0,cbU49,ssfz]
  refine callP_frz q4 ?_
  simp -dsimp -implicitDefEqProofs (disch:=first | omega | (simp only [lenr];try omega)) only [↓amPre,amAll,↓reduceIte,reduceCtorEq,Nat.reduceEqDiff,Nat.reduceBEq,Nat.reduceAdd,Nat.reduceLeDiff,Nat.reduceSub,Nat.reduceMul,Int.reduceToNat,List.size_toArray,tyF,MM,bu0,cbU49,ssfz,hfl,hLl,lt_false (Int.not_lt.1 hL1),lt_false (Int.not_lt.1 hL4)]
  refine awp_loop (fun i st=>i≤L.length∧st.fr 8=.i64 i∧st.fr 7=ssl L∧st.fr 5=.i64 x∧st.fr 6=.i64 c∧st.fr 4=.loc 4 [] 0 0∧st.mem 4=some (.pt 3 (.agg [.i64 n,.st p.nm,sst p.mv]))) (L.length) ?_ ?_
  · simp -dsimp -implicitDefEqProofs (disch:=first | omega | (simp only [lenr];try omega)) only [↓amPre,amAll,↓reduceIte,reduceCtorEq,Nat.reduceEqDiff,Nat.reduceBEq,Nat.reduceAdd,Nat.reduceLeDiff,Nat.reduceSub,Nat.reduceMul,Int.reduceToNat,List.size_toArray,tyF,MM,bu0,cbU49]
    exact ⟨Nat.zero_le _,rfl⟩
  rintro i st _ ⟨hi,f8,f7,f5,f6,f4,m4⟩
  by_cases hlt:i<L.length
  · have hlt':(i:Int)<(L.length:Int):=by omega
    have hg:(L.map isl).getD i .any=isl (L.getD i default):=by rw [getD_eq _ _ _ (by simpa using hlt),List.getElem_map,getD_eq _ _ _ hlt]
    obtain ⟨q6,hel⟩:=qa _ (mem_getD L i default hlt)
    have hwc:=hw3 _ (mem_getD L i default hlt)
    have hni:=fun j hj=>hne i j hj hlt
    generalize effK p.n p.mv (L.getD i default) (L.getD i default).length=s at *
    simp -dsimp -implicitDefEqProofs (disch:=first | omega | (simp only [lenr];try omega)) only [↓amPre,amAll,↓reduceIte,reduceCtorEq,Nat.reduceEqDiff,Nat.reduceBEq,Nat.reduceAdd,Nat.reduceLeDiff,Nat.reduceSub,Nat.reduceMul,Int.reduceToNat,List.size_toArray,tyF,MM,bu0,cbU49,f8,f7,f5,f6,f4,m4,hLl,lt_true hlt']
    refine split_go 13 (by decide +kernel) ?_
    simp -dsimp -implicitDefEqProofs (disch:=first | omega | (simp only [lenr];try omega)) only [↓amPre,amAll,↓reduceIte,reduceCtorEq,Nat.reduceEqDiff,Nat.reduceBEq,Nat.reduceAdd,Nat.reduceLeDiff,Nat.reduceSub,Nat.reduceMul,Int.reduceToNat,List.size_toArray,tyF,MM,bu0,cbU49,f8,f7,f5,f6,f4,m4,hLl,lt_true hlt',hg]
    refine callP_frz qi ?_
    simp -dsimp -implicitDefEqProofs (disch:=first | omega | (simp only [lenr];try omega)) only [↓amPre,amAll,↓reduceIte,reduceCtorEq,Nat.reduceEqDiff,Nat.reduceBEq,Nat.reduceAdd,Nat.reduceLeDiff,Nat.reduceSub,Nat.reduceMul,Int.reduceToNat,List.size_toArray,tyF,MM,bu0,cbU49,f8,f7,f5,f6,f4,m4,ee,hLl,hg,ssfz]
    refine callP_of (q6) ?_
    simp -dsimp -implicitDefEqProofs (disch:=first | omega | (simp only [lenr];try omega)) only [↓amPre,amAll,↓reduceIte,reduceCtorEq,Nat.reduceEqDiff,Nat.reduceBEq,Nat.reduceAdd,Nat.reduceLeDiff,Nat.reduceSub,Nat.reduceMul,Int.reduceToNat,List.size_toArray,tyF,MM,bu0,cbU49,f8,f7,f5,f6,f4,m4,hel]
    refine awp_loop (fun j st=>j≤i∧st.fr 11=.i64 j∧st.fr 8=.i64 i∧st.fr 7=ssl L∧st.fr 5=.i64 x∧st.fr 6=.i64 c∧st.fr 4=.loc 4 [] 0 0∧st.fr 9=.ref 54 [(0,0)] 1 0 n∧st.fr 10=.bl true∧st.mem 4=some (.pt 3 (.agg [.i64 n,.st p.nm,sst p.mv]))∧st.mem 54=some (.tup [itr s,.bl true])) (i) ?_ ?_
    · simp -dsimp -implicitDefEqProofs (disch:=first | omega | (simp only [lenr];try omega)) only [↓amPre,amAll,↓reduceIte,reduceCtorEq,Nat.reduceEqDiff,Nat.reduceBEq,Nat.reduceAdd,Nat.reduceLeDiff,Nat.reduceSub,Nat.reduceMul,Int.reduceToNat,List.size_toArray,tyF,MM,bu0,cbU49,f8,f7,f5,f6,f4,m4]
      exact ⟨Nat.zero_le _,rfl⟩
    rintro j st _ ⟨hj,f11,f8,f7,f5,f6,f4,f9,f10,m4,m54⟩
    by_cases hlj:j<i
    · have hlj':(j:Int)<(i:Int):=by omega
      have hjL:j<L.length:=by omega
      have hgj:(L.map isl).getD j .any=isl (L.getD j default):=by rw [getD_eq _ _ _ (by simpa using hjL),List.getElem_map,getD_eq _ _ _ hjL]
      obtain ⟨q7,hel2⟩:=qa _ (mem_getD L j default hjL)
      have hnj:=hni j hlj
      generalize effK p.n p.mv (L.getD j default) (L.getD j default).length=s2 at *
      have q8:=likeI s s2 (by omega)
      rw [decide_eq_false hnj] at q8
      simp -dsimp -implicitDefEqProofs (disch:=first | omega | (simp only [lenr];try omega)) only [↓amPre,amAll,↓reduceIte,reduceCtorEq,Nat.reduceEqDiff,Nat.reduceBEq,Nat.reduceAdd,Nat.reduceLeDiff,Nat.reduceSub,Nat.reduceMul,Int.reduceToNat,List.size_toArray,tyF,MM,bu0,cbU49,f11,f8,f7,f5,f6,f4,f9,f10,m4,m54,hLl,lt_true hlj']
      refine split_go 13 (by decide +kernel) ?_
      simp -dsimp -implicitDefEqProofs (disch:=first | omega | (simp only [lenr];try omega)) only [↓amPre,amAll,↓reduceIte,reduceCtorEq,Nat.reduceEqDiff,Nat.reduceBEq,Nat.reduceAdd,Nat.reduceLeDiff,Nat.reduceSub,Nat.reduceMul,Int.reduceToNat,List.size_toArray,tyF,MM,bu0,cbU49,f11,f8,f7,f5,f6,f4,f9,f10,m4,m54,hLl,hgj]
      refine callP_frz qi ?_
      simp -dsimp -implicitDefEqProofs (disch:=first | omega | (simp only [lenr];try omega)) only [↓amPre,amAll,↓reduceIte,reduceCtorEq,Nat.reduceEqDiff,Nat.reduceBEq,Nat.reduceAdd,Nat.reduceLeDiff,Nat.reduceSub,Nat.reduceMul,Int.reduceToNat,List.size_toArray,tyF,MM,bu0,cbU49,f11,f8,f7,f5,f6,f4,f9,f10,m4,m54,ee,hLl,hgj,ssfz]
      refine callP_of (q7) ?_
      simp -dsimp -implicitDefEqProofs (disch:=first | omega | (simp only [lenr];try omega)) only [↓amPre,amAll,↓reduceIte,reduceCtorEq,Nat.reduceEqDiff,Nat.reduceBEq,Nat.reduceAdd,Nat.reduceLeDiff,Nat.reduceSub,Nat.reduceMul,Int.reduceToNat,List.size_toArray,tyF,MM,bu0,cbU49,f11,f8,f7,f5,f6,f4,f9,f10,m4,m54,hel2]
      refine callP_of (q8) ?_
      simp -dsimp -implicitDefEqProofs (disch:=first | omega | (simp only [lenr];try omega)) only [↓amPre,amAll,↓reduceIte,reduceCtorEq,Nat.reduceEqDiff,Nat.reduceBEq,Nat.reduceAdd,Nat.reduceLeDiff,Nat.reduceSub,Nat.reduceMul,Int.reduceToNat,List.size_toArray,tyF,MM,bu0,cbU49,f11,f8,f7,f5,f6,f4,f9,f10,m4,m54]
      exact ⟨hlj,by omega⟩
    · have hje:j=i:=by omega
      subst hje
      have c1':¬ (j:Int)<(j:Int):=by omega
      simp -dsimp -implicitDefEqProofs (disch:=first | omega | (simp only [lenr];try omega)) only [↓amPre,amAll,↓reduceIte,reduceCtorEq,Nat.reduceEqDiff,Nat.reduceBEq,Nat.reduceAdd,Nat.reduceLeDiff,Nat.reduceSub,Nat.reduceMul,Int.reduceToNat,List.size_toArray,tyF,MM,bu0,cbU49,f11,f8,f7,f5,f6,f4,f9,f10,m4,m54,lt_false (Int.not_lt.1 c1'),hLl,hg,hwc]
      exact ⟨hlt,by omega⟩
  · have hie:i=L.length:=by omega
    subst hie
    have c1':¬ (L.length:Int)<(L.length:Int):=by omega
    simp -dsimp -implicitDefEqProofs (disch:=first | omega | (simp only [lenr];try omega)) only [↓amPre,amAll,↓reduceIte,reduceCtorEq,Nat.reduceEqDiff,Nat.reduceBEq,Nat.reduceAdd,Nat.reduceLeDiff,Nat.reduceSub,Nat.reduceMul,Int.reduceToNat,List.size_toArray,tyF,MM,bu0,cbU49,f8,f7,f5,f6,f4,m4,lt_false (Int.not_lt.1 c1'),hLl,ssfz]
    refine callP_frz q5 ?_
    simp -dsimp -implicitDefEqProofs (disch:=first | omega | (simp only [lenr];try omega)) only [↓amPre,amAll,↓reduceIte,reduceCtorEq,Nat.reduceEqDiff,Nat.reduceBEq,Nat.reduceAdd,Nat.reduceLeDiff,Nat.reduceSub,Nat.reduceMul,Int.reduceToNat,List.size_toArray,tyF,MM,bu0,cbU49,f8,f7,f5,f6,f4,m4,ssfz,ee]
    refine awp_loop (fun j st=>j≤H.length∧st.fr 16=.i64 j∧st.fr 15=.i64 (sK H j)∧st.fr 14=isl H∧st.fr 6=.i64 c) (H.length) ?_ ?_
    · simp -dsimp -implicitDefEqProofs (disch:=first | omega | (simp only [lenr];try omega)) only [↓amPre,amAll,↓reduceIte,reduceCtorEq,Nat.reduceEqDiff,Nat.reduceBEq,Nat.reduceAdd,Nat.reduceLeDiff,Nat.reduceSub,Nat.reduceMul,Int.reduceToNat,List.size_toArray,tyF,MM,bu0,cbU49,f8,f7,f5,f6,f4,m4]
      exact ⟨Nat.zero_le _,rfl,rfl⟩
    rintro j st _ ⟨hj,f16,f15,f14,f6⟩
    by_cases hlj:j<H.length
    · have hlj':(j:Int)<(H.length:Int):=by omega
      obtain ⟨⟨e1,e2⟩,e3⟩:=b3 j
      have hsj:sK H (j+1)=sK H j+H.getD j 0:=rfl
      have hsb:=sK_bd H (fun i=>(b3 i).1) j
      have hwj:IntKind.i64.wrap (sK H j+H.getD j 0)=sK H j+H.getD j 0:=wrap64_id (by omega)
      have e1':¬ H.getD j 0<0:=by omega
      rw [hsj]
      generalize sK H j=sj at *
      by_cases hz:0<H.getD j 0
      · have e4:=e3 hz
        have e4':¬ c<(j:Int):=by omega
        simp -dsimp -implicitDefEqProofs (disch:=first | omega | (simp only [lenr];try omega)) only [↓amPre,amAll,↓reduceIte,reduceCtorEq,Nat.reduceEqDiff,Nat.reduceBEq,Nat.reduceAdd,Nat.reduceLeDiff,Nat.reduceSub,Nat.reduceMul,Int.reduceToNat,List.size_toArray,tyF,MM,bu0,cbU49,f16,f15,f14,f6,lt_true hlj',hwj,lt_false (Int.not_lt.1 e1'),lt_true hz,lt_false (Int.not_lt.1 e4')]
        exact ⟨hlj,by omega⟩
      · simp -dsimp -implicitDefEqProofs (disch:=first | omega | (simp only [lenr];try omega)) only [↓amPre,amAll,↓reduceIte,reduceCtorEq,Nat.reduceEqDiff,Nat.reduceBEq,Nat.reduceAdd,Nat.reduceLeDiff,Nat.reduceSub,Nat.reduceMul,Int.reduceToNat,List.size_toArray,tyF,MM,bu0,cbU49,f16,f15,f14,f6,lt_true hlj',hwj,lt_false (Int.not_lt.1 e1'),lt_false (Int.not_lt.1 hz)]
        exact ⟨hlj,by omega⟩
    · have hje:j=H.length:=by omega
      subst hje
      have c2':¬ (H.length:Int)<(H.length:Int):=by omega
      simp -dsimp -implicitDefEqProofs (disch:=first | omega | (simp only [lenr];try omega)) only [↓amPre,amAll,↓reduceIte,reduceCtorEq,Nat.reduceEqDiff,Nat.reduceBEq,Nat.reduceAdd,Nat.reduceLeDiff,Nat.reduceSub,Nat.reduceMul,Int.reduceToNat,List.size_toArray,tyF,MM,bu0,cbU49,f16,f15,f14,f6,lt_false (Int.not_lt.1 c2'),b2]
end Sz
end Go.AM
