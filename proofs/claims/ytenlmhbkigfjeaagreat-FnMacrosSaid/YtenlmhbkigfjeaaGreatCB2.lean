/-
  CONTRACTS of functions of the program,and what they compute,by content.
-/
import Derived.Test.YtenlmhbkigfjeaaGreatCB1
import Derived.Test.YtenlmhbkigfjeaaGreatM2SD
import Derived.Test.YtenlmhbkigfjeaaGreatCB0
import Derived.Test.YtenlmhbkigfjeaaGreatM2Facts
import Derived.RangeFuncBox
import Derived.RangeFuncLeaves
import Derived.Shelf.Abstract
import Derived.OwnWalkIn
import Derived.TacticsInMore
import Derived.LoopNIn
import Derived.LoopIn
import Derived.Maps.AppendAt
import Derived.Laws.AppendOwn
set_option linter.unusedVariables false
set_option linter.unusedSimpArgs false
namespace Go.AM
namespace Bf
open Ch (PN pt idL Gen newL ordL cst cst_app cst_len)
/-! the map from a state's key to its place -/
open Classical in
noncomputable def idxF (v:Value):List (List Int)→Nat→Option Value
  | [],_=>none
  | s :: S,i=>if v=.string (skey s) then some (.int .i64 i) else idxF v S (i+1)
noncomputable def idxM (S:List (List Int)):Value→Option Value:=fun v=>idxF v S 0
theorem idxF_at:∀ {S:List (List Int)} {s:List Int} (i:Nat),(∀ t∈S,smallE t)→smallE s→idxF (.string (skey s)) S i=if s∈S then some (.int .i64 ((i+S.idxOf s:Nat))) else none
  | [],s,i,_,_=>by simp [idxF]
  | t :: S,s,i,hS,hs=>by
    rw [idxF]
    by_cases h:s=t
    · subst h;simp
    · have hne:¬ (Value.string (skey s)=.string (skey t)):=fun q=>by
        injection q with q
        exact h (skey_inj hs (hS t (by simp)) q)
      rw [if_neg hne,idxF_at (i+1) (fun u hu=>hS u (by simp [hu])) hs]
      have:s∈t :: S↔s∈S:=by simp [h]
      by_cases hm:s∈S
      · rw [if_pos hm,if_pos (this.2 hm),List.idxOf_cons]
        have:(t == s)=false:=by simp;exact fun e=>h e.symm
        rw [this];simp;omega
      · rw [if_neg hm,if_neg (fun q=>hm (this.1 q))]
theorem idxM_at {S:List (List Int)} {s:List Int} (hS:∀ t∈S,smallE t) (hs:smallE s):idxM S (.string (skey s))=if s∈S then some (.int .i64 ((S.idxOf s:Nat))) else none:=by
  unfold idxM
  rw [idxF_at 0 hS hs,Nat.zero_add]
open Classical in
theorem idxF_app (v:Value) (s:List Int):∀ (S:List (List Int)) (i:Nat),idxF v (S++[s]) i=match idxF v S i with | some x=>some x | none=>if v=.string (skey s) then some (.int .i64 ((i+S.length:Nat))) else none
  | [],i=>by
    show (if v=.string (skey s) then some (Value.int .i64 i) else none)=_
    simp [idxF]
  | t :: S,i=>by
    rw [List.cons_append,idxF,idxF]
    by_cases h:v=.string (skey t)
    · rw [if_pos h,if_pos h]
    · rw [if_neg h,if_neg h,idxF_app v s S (i+1)]
      rw [List.length_cons,show i+1+S.length=i+(S.length+1) by omega]
theorem idxM_upd {S:List (List Int)} {s:List Int} (hS:∀ t∈S,smallE t) (hs:smallE s) (hn:s∉S):updM (idxM S) (.string (skey s)) (.int .i64 S.length)=idxM (S++[s]):=by
  funext v
  unfold updM
  by_cases h:v=.string (skey s)
  · rw [if_pos h,h,idxM_at (fun t ht=>by
      rcases List.mem_append.1 ht with q | q
      · exact hS t q
      · rw [List.mem_singleton.1 q];exact hs) hs,if_pos (by simp),List.idxOf_append,if_neg hn]
    simp
  · rw [if_neg h]
    unfold idxM
    rw [idxF_app]
    cases idxF v S 0 with
    | some x=>rfl
    | none=>rw [if_neg h]
/-! the neighbours' places -/
def nxR (mv:List (List Int)) (A:List Int) (k:Nat) (e:Ex):Nat→List Nat
  | 0=>[]
  | j+1=>nxR mv A k e j++[(inn mv A k e (j+1)).S.idxOf (nbr mv e k (A.getD j 0))]
def nxO (mv:List (List Int)) (A:List Int) (n:Nat):Nat→List (List Nat)
  | 0=>[]
  | k+1=>if k<(out mv A n k).S.length then nxO mv A n k++[nxR mv A k (out mv A n k) A.length] else nxO mv A n k
theorem nxR_len (mv:List (List Int)) (A:List Int) (k:Nat) (e:Ex):∀ j,(nxR mv A k e j).length=j
  | 0=>rfl
  | j+1=>by rw [nxR,List.length_append,nxR_len];rfl
theorem nxO_stay {mv:List (List Int)} {A:List Int} {n k:Nat} (h:(out mv A n k).S.length≤k):∀ d,nxO mv A n (k+d)=nxO mv A n k
  | 0=>rfl
  | d+1=>by rw [← Nat.add_assoc,nxO,out_stay h d,nxO_stay h d,if_neg (by omega)]
theorem nxO_lt {mv:List (List Int)} {A:List Int} {n:Nat}:∀ {k},k≤(out mv A n k).S.length→(nxO mv A n k).length=k
  | 0,_=>rfl
  | k+1,h=>by
    by_cases c:k<(out mv A n k).S.length
    · rw [nxO,if_pos c,List.length_append,nxO_lt (by omega)];rfl
    · rw [out,if_neg c] at h;omega
def byL (A:List Int) (J:List Nat):List Int:=match J with | []=>[] | _ :: r=>0 :: r.map fun j=>A.getD j 0
theorem byL_app (A:List Int) {J:List Nat} (h:0<J.length) (j:Nat):byL A (J++[j])=byL A J++[A.getD j 0]:=by
  cases J with
  | nil=>simp at h
  | cons a r=>simp [byL]
theorem byL_len (A:List Int) (J:List Nat):(byL A J).length=J.length:=by cases J <;> simp [byL]
theorem stp_dle {mv:List (List Int)} {A:List Int} {k:Nat} {e:Ex} (h:∀ i,i<e.D.length→e.D.getD i 0≤i) (hk:k<e.D.length) (j:Nat):∀ i,i<(stp mv A k e j).D.length→(stp mv A k e j).D.getD i 0≤i:=by
  unfold stp;split
  · exact h
  · intro i hi
    rw [List.length_append,List.length_singleton] at hi
    by_cases c:i<e.D.length
    · rw [getD_app_l _ _ _ _ c];exact h i c
    · have:i=e.D.length:=by omega
      subst this
      have q:=getD_app_r e.D [e.D.getD k 0+1] 0 0
      have:=h k hk
      refine Nat.le_trans (Nat.le_of_eq q) ?_
      show e.D.getD k 0+1≤_
      omega
theorem stp_dlen (mv:List (List Int)) (A:List Int) (k:Nat) (e:Ex) (j:Nat):e.D.length≤(stp mv A k e j).D.length:=by
  unfold stp;split
  · exact Nat.le_refl _
  · simp
theorem inn_dle {mv:List (List Int)} {A:List Int} {k:Nat} {e:Ex} (h:∀ i,i<e.D.length→e.D.getD i 0≤i) (hk:k<e.D.length):∀ j i,i<(inn mv A k e j).D.length→(inn mv A k e j).D.getD i 0≤i:=by
  intro j
  have key:∀ j,(∀ i,i<(inn mv A k e j).D.length→(inn mv A k e j).D.getD i 0≤i)∧k<(inn mv A k e j).D.length:=by
    intro j
    induction j with
    | zero=>exact ⟨h,hk⟩
    | succ j ih=>exact ⟨stp_dle ih.1 ih.2 j,Nat.lt_of_lt_of_le ih.2 (stp_dlen ..)⟩
  exact (key j).1
theorem out_dl (mv:List (List Int)) (A:List Int) (n:Nat):∀ k,(out mv A n k).D.length=(out mv A n k).S.length:=by
  have st:∀ (k:Nat) (e:Ex) (j:Nat),e.D.length=e.S.length→(stp mv A k e j).D.length=(stp mv A k e j).S.length:=fun k e j h=>by
    unfold stp;split
    · exact h
    · simp [h]
  have iN:∀ (k:Nat) (e:Ex),e.D.length=e.S.length→∀ j,(inn mv A k e j).D.length=(inn mv A k e j).S.length:=fun k e h j=>by
    induction j with
    | zero=>exact h
    | succ j ih=>exact st _ _ _ ih
  intro k
  induction k with
  | zero=>rfl
  | succ k ih =>
    rw [out];split
    · exact iN _ _ ih _
    · exact ih
theorem out_dle (mv:List (List Int)) (A:List Int) (n:Nat):∀ k i,i<(out mv A n k).D.length→(out mv A n k).D.getD i 0≤i
  | 0,i,hi=>by
    simp [out] at hi
    subst hi;simp [out]
  | k+1,i,hi=>by
    rw [out] at hi ⊢
    by_cases c:k<(out mv A n k).S.length
    · rw [if_pos c] at hi ⊢
      exact inn_dle (out_dle mv A n k) (by rw [out_dl];exact c) _ i hi
    · rw [if_neg c] at hi ⊢
      exact out_dle mv A n k i hi
theorem PN.small {n:Nat} (h2:n≤20) {s:List Int} (h:PN n s):smallE s:=fun x hx=>by
  have:=h.2.2.1 x hx
  have:=h.1
  omega
end Bf
end Go.AM
set_option maxRecDepth 8000
namespace Go.AM
namespace Sr
open Go.Proofs
open Ch (PN pt idL cst cst_app cst_len)
open Bf (lexLt slotC insS SrtOk)
open Ck (sfr)
def MM:FuncId→List Bool:=fun f=>if f=100 then [true,false,false] else []
theorem listPrec (a b:List Int) (h:a.length=b.length) (hl:a.length≤1099511627776):SpecAt Tryz.prog 135 [isl a,isl b] (.bl (lexLt a b)):=by
  refine spec_of_awp (M:=MM) (np:=2) (fz:=true) mixed Tryz.func135 rfl rfl (by decide) rfl (Nat.le_refl _) (by decide +kernel) (.inr ⟨rfl,rfl⟩) trivial ?_
  simp -dsimp -implicitDefEqProofs (disch:=first | omega | (simp only [lenr];try omega)) only [↓amPre,amAll,↓reduceIte,reduceCtorEq,Nat.reduceEqDiff,Nat.reduceBEq,Nat.reduceAdd,Nat.reduceLeDiff,Nat.reduceSub,Nat.reduceMul,Int.reduceToNat,List.size_toArray,tyF,MM,bu0,cbU49]
  refine awp_loop (fun k st=>k≤a.length∧st.fr 5=.i64 k∧st.fr 0=isl a∧st.fr 1=isl b∧a.take k=b.take k) (a.length) ?_ ?_
  · simp -dsimp -implicitDefEqProofs (disch:=first | omega | (simp only [lenr];try omega)) only [↓amPre,amAll,↓reduceIte,reduceCtorEq,Nat.reduceEqDiff,Nat.reduceBEq,Nat.reduceAdd,Nat.reduceLeDiff,Nat.reduceSub,Nat.reduceMul,Int.reduceToNat,List.size_toArray,tyF,MM,bu0,cbU49]
    repeat' (first | omega | rfl | exact i64c (by omega) | exact vic (by omega) | apply And.intro)
  rintro k st _ ⟨hk,f5,f0,f1,ek⟩
  by_cases hlt:k<a.length
  · by_cases hne:a.getD k 0=b.getD k 0
    · simp -dsimp -implicitDefEqProofs (disch:=first | omega | (simp only [lenr];try omega)) only [↓amPre,amAll,↓reduceIte,reduceCtorEq,Nat.reduceEqDiff,Nat.reduceBEq,Nat.reduceAdd,Nat.reduceLeDiff,Nat.reduceSub,Nat.reduceMul,Int.reduceToNat,List.size_toArray,tyF,MM,bu0,cbU49,f5,f0,f1,hne]
      exact ⟨hlt,by omega,(take_eq_iff 0 k hlt (by omega)).2 ⟨ek,hne⟩⟩
    · have e:=Bf.lex_at h ek hlt hne
      simp -dsimp -implicitDefEqProofs (disch:=first | omega | (simp only [lenr];try omega)) only [↓amPre,amAll,↓reduceIte,reduceCtorEq,Nat.reduceEqDiff,Nat.reduceBEq,Nat.reduceAdd,Nat.reduceLeDiff,Nat.reduceSub,Nat.reduceMul,Int.reduceToNat,List.size_toArray,tyF,MM,bu0,cbU49,f5,f0,f1,hne]
      rw [e]
  · have hke:k=a.length:=by omega
    have e:a=b:=by
      rw [hke,List.take_length,h,List.take_length] at ek;exact ek
    have e2:=Bf.lex_irr a
    subst e
    simp -dsimp -implicitDefEqProofs (disch:=first | omega | (simp only [lenr];try omega)) only [↓amPre,amAll,↓reduceIte,reduceCtorEq,Nat.reduceEqDiff,Nat.reduceBEq,Nat.reduceAdd,Nat.reduceLeDiff,Nat.reduceSub,Nat.reduceMul,Int.reduceToNat,List.size_toArray,tyF,MM,bu0,cbU49,f5,f0,f1,e2]
abbrev fS (S:List (List Int)) (D:List Int) (Z:List Nat) (w:Bool):AV:=.agg [ssl S,isl D,isl (cst Z),.bl w]
abbrev fT (S:List (List Int)) (D:List Int) (Z:List Nat) (w:Bool):AV:=.agg [sfr S,itr D,itr (cst Z),.bl w]
theorem searchSlot (n:Nat) (S:List (List Int)) (D:List Int) (Z:List Nat) (w:Bool) (s:List Int) (hZ:SrtOk n S Z) (hn:n≤20) (hs:s.length=n) (hl:S.length≤3000) :
    SpecAt Tryz.prog 119 [fS S D Z w,isl s] (.i64 (slotC S Z s)):=by
  have hsl:=Bf.slot_le S Z s
  have hzl:=hZ.len
  refine spec_of_awp (M:=MM) (np:=2) (fz:=true) mixed Tryz.func119 rfl rfl (by decide) rfl (Nat.le_refl _) (by decide +kernel) (.inr ⟨rfl,rfl⟩) trivial ?_
  simp -dsimp -implicitDefEqProofs (disch:=first | omega | (simp only [lenr];try omega)) only [↓amPre,amAll,↓reduceIte,reduceCtorEq,Nat.reduceEqDiff,Nat.reduceBEq,Nat.reduceAdd,Nat.reduceLeDiff,Nat.reduceSub,Nat.reduceMul,Int.reduceToNat,List.size_toArray,tyF,MM,bu0,cbU49]
  refine awp_loop (fun k st=>k≤Z.length∧st.fr 2=.loc 2 [] 0 0∧st.fr 1=isl s∧st.mem 2=some (.pt 4 (fS S D Z w))∧(∃ lo hi:Nat,st.fr 5=.i64 lo∧st.fr 6=.i64 hi∧lo≤slotC S Z s∧slotC S Z s≤hi∧hi≤Z.length∧hi+k≤lo+Z.length)) (Z.length) ?_ ?_
  · simp -dsimp -implicitDefEqProofs (disch:=first | omega | (simp only [lenr];try omega)) only [↓amPre,amAll,↓reduceIte,reduceCtorEq,Nat.reduceEqDiff,Nat.reduceBEq,Nat.reduceAdd,Nat.reduceLeDiff,Nat.reduceSub,Nat.reduceMul,Int.reduceToNat,List.size_toArray,tyF,MM,bu0,cbU49,cst_len]
    exact ⟨Nat.zero_le _,0,Z.length,rfl,rfl,Nat.zero_le _,hsl,Nat.le_refl _,by omega⟩
  rintro k st _ ⟨hk,f2,f1,m2,ek⟩
  obtain ⟨lo,hi,f5,f6,h1,h2,h3,h4⟩:=ek
  by_cases c1:lo<hi
  · obtain ⟨mid,hmid⟩:∃ mid:Nat,mid=(lo+hi) / 2:=⟨_,rfl⟩
    have hm1:lo≤mid∧mid<hi:=by omega
    have hmz:mid<Z.length:=by omega
    have hmS:Z.getD mid 0<S.length:=(hZ.mem _).1 (mem_getD Z mid 0 hmz)
    have hsi:=Bf.slot_iff hZ s hmz
    have hgZ:((cst Z).map AV.i64).getD mid .any=.i64 (Z.getD mid 0:Nat):=by rw [getD_eq _ _ _ (by rw [List.length_map,cst_len];exact hmz),List.getElem_map,← getD_eq _ _ 0,Ch.cst_get hmz]
    have hgm:=hZ.ll _ (mem_getD S _ default hmS)
    have q:=listPrec (S.getD (Z.getD mid 0) default) s (by rw [hgm,hs]) (by omega)
    have hwm:IntKind.i64.wrap (((lo:Int)+hi).tdiv 2)=(mid:Int):=by
      have e:((lo:Int)+hi).tdiv 2=(mid:Int):=by rw [hmid];exact (Int.ofNat_tdiv (lo+hi) 2).symm
      rw [e,wrap64_id (by omega)]
    have hlZ:(cst Z).length=Z.length:=cst_len Z
    cases hb:lexLt (S.getD (Z.getD mid 0) default) s with
    | true =>
      rw [hb] at q
      have hlt:=hsi.1 hb
      simp -dsimp -implicitDefEqProofs (disch:=first | omega | (simp only [lenr];try omega)) only [↓amPre,amAll,↓reduceIte,reduceCtorEq,Nat.reduceEqDiff,Nat.reduceBEq,Nat.reduceAdd,Nat.reduceLeDiff,Nat.reduceSub,Nat.reduceMul,Int.reduceToNat,List.size_toArray,tyF,MM,bu0,cbU49,f2,f1,m2,f5,f6,c1,hwm,hlZ,hgZ]
      refine callP_of (q) ?_
      simp -dsimp -implicitDefEqProofs (disch:=first | omega | (simp only [lenr];try omega)) only [↓amPre,amAll,↓reduceIte,reduceCtorEq,Nat.reduceEqDiff,Nat.reduceBEq,Nat.reduceAdd,Nat.reduceLeDiff,Nat.reduceSub,Nat.reduceMul,Int.reduceToNat,List.size_toArray,tyF,MM,bu0,cbU49,f2,f1,m2,f5,f6]
      exact ⟨by omega,by omega,mid+1,hi,i64c (by simp),rfl,by omega,h2,h3,by omega⟩
    | false =>
      rw [hb] at q
      have hge:slotC S Z s≤mid:=by
        rcases Nat.lt_or_ge mid (slotC S Z s) with c | c
        · rw [hsi.2 c] at hb;cases hb
        · exact c
      simp -dsimp -implicitDefEqProofs (disch:=first | omega | (simp only [lenr];try omega)) only [↓amPre,amAll,↓reduceIte,reduceCtorEq,Nat.reduceEqDiff,Nat.reduceBEq,Nat.reduceAdd,Nat.reduceLeDiff,Nat.reduceSub,Nat.reduceMul,Int.reduceToNat,List.size_toArray,tyF,MM,bu0,cbU49,f2,f1,m2,f5,f6,c1,hwm,hlZ,hgZ]
      refine callP_of (q) ?_
      simp -dsimp -implicitDefEqProofs (disch:=first | omega | (simp only [lenr];try omega)) only [↓amPre,amAll,↓reduceIte,reduceCtorEq,Nat.reduceEqDiff,Nat.reduceBEq,Nat.reduceAdd,Nat.reduceLeDiff,Nat.reduceSub,Nat.reduceMul,Int.reduceToNat,List.size_toArray,tyF,MM,bu0,cbU49,f2,f1,m2,f5,f6]
      exact ⟨by omega,by omega,lo,mid,rfl,rfl,h1,hge,by omega,by omega⟩
  · have:lo=slotC S Z s:=by omega
    have c2:¬ ((lo:Int)<hi):=by omega
    simp -dsimp -implicitDefEqProofs (disch:=first | omega | (simp only [lenr];try omega)) only [↓amPre,amAll,↓reduceIte,reduceCtorEq,Nat.reduceEqDiff,Nat.reduceBEq,Nat.reduceAdd,Nat.reduceLeDiff,Nat.reduceSub,Nat.reduceMul,Int.reduceToNat,List.size_toArray,tyF,MM,bu0,cbU49,f2,f1,m2,f5,f6,c2]
    rw [this]
theorem searchIndex (n:Nat) (S:List (List Int)) (D:List Int) (Z:List Nat) (w:Bool) (s:List Int) (hZ:SrtOk n S Z) (hd:S.Nodup) (hn:n≤20) (hs:s.length=n) (hl:S.length≤3000) :
    SpecAt Tryz.prog 104 [fS S D Z w,isl s] (.i64 (ixK S s)):=by
  have hsl:=Bf.slot_le S Z s
  have hzl:=hZ.len
  have hlZ:(cst Z).length=Z.length:=cst_len Z
  have q:=searchSlot n S D Z w s hZ hn hs hl
  have hix:=Bf.slot_ix hZ hd s
  refine spec_of_awp (M:=MM) (np:=2) (fz:=true) mixed Tryz.func104 rfl rfl (by decide) rfl (Nat.le_refl _) (by decide +kernel) (.inr ⟨rfl,rfl⟩) trivial ?_
  simp -dsimp -implicitDefEqProofs (disch:=first | omega | (simp only [lenr];try omega)) only [↓amPre,amAll,↓reduceIte,reduceCtorEq,Nat.reduceEqDiff,Nat.reduceBEq,Nat.reduceAdd,Nat.reduceLeDiff,Nat.reduceSub,Nat.reduceMul,Int.reduceToNat,List.size_toArray,tyF,MM,bu0,cbU49]
  refine callP_of (q) ?_
  by_cases c1:slotC S Z s<Z.length
  · have hgZ:((cst Z).map AV.i64).getD (slotC S Z s) .any=.i64 (Z.getD (slotC S Z s) 0:Nat):=by rw [getD_eq _ _ _ (by rw [List.length_map,cst_len];exact c1),List.getElem_map,← getD_eq _ _ 0,Ch.cst_get c1]
    have hmS:Z.getD (slotC S Z s) 0<S.length:=(hZ.mem _).1 (mem_getD Z _ 0 c1)
    have hgm:=hZ.ll _ (mem_getD S _ default hmS)
    have q2:=sEqualInts (S.getD (Z.getD (slotC S Z s) 0) default) s (by omega)
    by_cases c2:S.getD (Z.getD (slotC S Z s) 0) default=s
    · rw [if_pos ⟨c1,c2⟩] at hix
      rw [decide_eq_true c2] at q2
      rw [hix]
      generalize slotC S Z s=m at *
      simp -dsimp -implicitDefEqProofs (disch:=first | omega | (simp only [lenr];try omega)) only [↓amPre,amAll,↓reduceIte,reduceCtorEq,Nat.reduceEqDiff,Nat.reduceBEq,Nat.reduceAdd,Nat.reduceLeDiff,Nat.reduceSub,Nat.reduceMul,Int.reduceToNat,List.size_toArray,tyF,MM,bu0,cbU49,hlZ,c1,hgZ]
      refine callP_of (q2) ?_
      simp -dsimp -implicitDefEqProofs (disch:=first | omega | (simp only [lenr];try omega)) only [↓amPre,amAll,↓reduceIte,reduceCtorEq,Nat.reduceEqDiff,Nat.reduceBEq,Nat.reduceAdd,Nat.reduceLeDiff,Nat.reduceSub,Nat.reduceMul,Int.reduceToNat,List.size_toArray,tyF,MM,bu0,cbU49,hlZ,c1,hgZ]
    · rw [if_neg (fun h=>c2 h.2)] at hix
      rw [decide_eq_false c2] at q2
      rw [hix]
      generalize slotC S Z s=m at *
      simp -dsimp -implicitDefEqProofs (disch:=first | omega | (simp only [lenr];try omega)) only [↓amPre,amAll,↓reduceIte,reduceCtorEq,Nat.reduceEqDiff,Nat.reduceBEq,Nat.reduceAdd,Nat.reduceLeDiff,Nat.reduceSub,Nat.reduceMul,Int.reduceToNat,List.size_toArray,tyF,MM,bu0,cbU49,hlZ,c1,hgZ]
      refine callP_of (q2) ?_
      simp -dsimp -implicitDefEqProofs (disch:=first | omega | (simp only [lenr];try omega)) only [↓amPre,amAll,↓reduceIte,reduceCtorEq,Nat.reduceEqDiff,Nat.reduceBEq,Nat.reduceAdd,Nat.reduceLeDiff,Nat.reduceSub,Nat.reduceMul,Int.reduceToNat,List.size_toArray,tyF,MM,bu0,cbU49,hlZ,c1,hgZ]
  · rw [if_neg (fun h=>c1 h.1)] at hix
    rw [hix]
    generalize slotC S Z s=m at *
    simp -dsimp -implicitDefEqProofs (disch:=first | omega | (simp only [lenr];try omega)) only [↓amPre,amAll,↓reduceIte,reduceCtorEq,Nat.reduceEqDiff,Nat.reduceBEq,Nat.reduceAdd,Nat.reduceLeDiff,Nat.reduceSub,Nat.reduceMul,Int.reduceToNat,List.size_toArray,tyF,MM,bu0,cbU49,hlZ,c1]
theorem copy_ins (S:List (List Int)) (Z:List Nat) (s:List Int) {m:Nat} (hm:m=slotC S Z s) (hle:m≤Z.length) :
    (((cst Z++[0]).take (m+1)).map AV.i64++(((cst Z++[0]).drop m).take (Z.length+1 - (m+1))).map AV.i64++((cst Z++[0]).drop (m+1+min (Z.length+1 - (m+1)) ((cst Z++[0]).drop m).length)).map AV.i64).set m (.i64 S.length)=(cst (insS S Z s)).map AV.i64:=by
  have hl:(cst Z++[(0:Int)]).length=Z.length+1:=by simp [cst_len]
  have e1:(cst Z++[(0:Int)]).drop (m+1+min (Z.length+1 - (m+1)) ((cst Z++[(0:Int)]).drop m).length)=[]:=by
    apply List.drop_eq_nil_of_le
    rw [List.length_drop,hl];omega
  have e2:((cst Z++[(0:Int)]).drop m).take (Z.length+1 - (m+1))=cst (Z.drop m):=by
    rw [List.drop_append_of_le_length (by rw [cst_len];exact hle),List.take_append_of_le_length (by rw [List.length_drop,cst_len];omega),Ch.cst_drop,List.take_of_length_le (by rw [cst_len,List.length_drop];omega)]
  have e3:(cst Z++[(0:Int)]).take (m+1)=cst (Z.take m)++[(cst Z++[(0:Int)]).getD m 0]:=by
    rw [take_succ_eq _ m 0 (by rw [hl];omega),List.take_append_of_le_length (by rw [cst_len];exact hle)]
    congr 1
    simp [cst,List.map_take]
  rw [e1,e2,e3,insS,← hm,cst_app]
  have hlt:(List.map AV.i64 (cst (Z.take m))).length=m:=by rw [List.length_map,cst_len,List.length_take];omega
  simp only [List.map_append,List.map_cons,List.map_nil,List.append_nil,List.append_assoc,List.cons_append,List.nil_append]
  rw [List.set_append_right _ _ (by omega),hlt,Nat.sub_self,List.set_cons_zero]
  rfl
theorem searchAdd (n:Nat) (S:List (List Int)) (D:List Int) (Z:List Nat) (w:Bool) (s:List Int) (x:Int) (hZ:SrtOk n S Z) (hn:n≤20) (hs:s.length=n) (hl:S.length≤3000) (hD:D.length=S.length) :
    SpecX Tryz.prog 100 [fT S D Z w,isl s,.i64 x] [] (fT (S++[s]) (D++[x]) (insS S Z s) w):=by
  have hsl:=Bf.slot_le S Z s
  have hzl:=hZ.len
  have hlZ:(cst Z).length=Z.length:=cst_len Z
  have q:=searchSlot n S D Z w s hZ hn hs hl
  have hfz:∀ L:List (List Int),AV.fzL (L.map fun x=>isl x)=L.map fun x=>isl x:=fun L=>by rw [fzL_map,islfz]
  obtain ⟨m,hm⟩:∃ m,m=slotC S Z s:=⟨_,rfl⟩
  rw [← hm] at q hsl
  refine spec_of_awp_any (M:=MM) (np:=3) (X:=[3]) (fz:=false) mixed Tryz.func100 rfl rfl (by decide) rfl (Nat.le_refl _) (by decide +kernel) (.inl rfl) (by first | trivial | simp only [sigsOk_nil,sigsOk_some,sigsOk_none,sig_tr,sig_pt,sig_mt,sig_agg,List.map_cons,List.map_nil,sig1_tr,sig1_pt,sig1_v,and_self,true_and,List.length_map,List.length_set]) ?_
  simp -dsimp -implicitDefEqProofs (disch:=first | omega | (simp only [lenr];try omega)) only [↓amPre,amAll,↓reduceIte,reduceCtorEq,Nat.reduceEqDiff,Nat.reduceBEq,Nat.reduceAdd,Nat.reduceLeDiff,Nat.reduceSub,Nat.reduceMul,Int.reduceToNat,List.size_toArray,tyF,MM,bu0,cbU49,islfz,ints_fz]
  refine callP_of (q) ?_
  simp -dsimp -implicitDefEqProofs (disch:=first | omega | (simp only [lenr];try omega)) only [↓amPre,amAll,↓reduceIte,reduceCtorEq,Nat.reduceEqDiff,Nat.reduceBEq,Nat.reduceAdd,Nat.reduceLeDiff,Nat.reduceSub,Nat.reduceMul,Int.reduceToNat,List.size_toArray,tyF,MM,bu0,cbU49,hlZ]
  refine split_go 9 (by decide +kernel) ?_
  have hbe:∀ l:List Int,AV.bearsL (l.map AV.i64)=false:=Ck.bears_ints
  simp -dsimp -implicitDefEqProofs (disch:=first | omega | (simp only [lenr];try omega)) only [↓amPre,amAll,↓reduceIte,reduceCtorEq,Nat.reduceEqDiff,Nat.reduceBEq,Nat.reduceAdd,Nat.reduceLeDiff,Nat.reduceSub,Nat.reduceMul,Int.reduceToNat,List.size_toArray,tyF,MM,bu0,cbU49,hlZ,hbe]
  exact copy_ins S Z s hm hsl
end Sr
end Go.AM
namespace Go.AM
namespace Bf
open Ch (PN pt idL)
def lsN (S:List (List Int)) (k:Nat):Int:=((movL (S.getD k default) (S.getD k default).length).length:Int)
def lsK (S:List (List Int)):Nat→Int
  | 0=>-1
  | k+1=>if lsK S k<0∨lsN S (k+1)<lsK S k then lsN S (k+1) else lsK S k
theorem movL_len (p:List Int) (k:Nat):(movL p k).length≤k:=by
  unfold movL
  rw [List.length_map]
  have:=List.length_filter_le (fun i=>p.getD i 0 != (i:Int)) (List.range k)
  simpa using this
theorem lsK_bd {S:List (List Int)} (h:∀ s∈S,s.length≤20):∀ k,k<S.length→-1≤lsK S k∧lsK S k≤20
  | 0,_=>by simp [lsK]
  | k+1,hk=>by
    have ih:=lsK_bd h k (by omega)
    have a:=movL_len (S.getD (k+1) default) (S.getD (k+1) default).length
    have b:=h _ (mem_getD S (k+1) default hk)
    have c:lsN S (k+1)=((movL (S.getD (k+1) default) (S.getD (k+1) default).length).length:Int):=rfl
    rw [lsK];split <;> omega
end Bf
end Go.AM
set_option maxRecDepth 8000
namespace Go.AM
namespace Sr
open Go.Proofs
open Ch (PN pt idL cst cst_app cst_len)
open Bf (Ex inn stp nbr insS SrtOk srtS innF outF)
open Ck (sfr)
abbrev zS:AV:=.agg [.nilsl,.nilsl,.nilsl,.bl false]
abbrev fE (e:Ex) (w:Bool):AV:=fT e.S (cst e.D) (srtS e.S) w
theorem searchSlot0 (s:List Int):SpecAt Tryz.prog 119 [zS,isl s] (.i64 0):=by
  refine spec_of_awp (M:=MM) (np:=2) (fz:=true) mixed Tryz.func119 rfl rfl (by decide) rfl (Nat.le_refl _) (by decide +kernel) (.inr ⟨rfl,rfl⟩) trivial ?_
  simp -dsimp -implicitDefEqProofs (disch:=first | omega | (simp only [lenr];try omega)) only [↓amPre,amAll,↓reduceIte,reduceCtorEq,Nat.reduceEqDiff,Nat.reduceBEq,Nat.reduceAdd,Nat.reduceLeDiff,Nat.reduceSub,Nat.reduceMul,Int.reduceToNat,List.size_toArray,tyF,MM,bu0,cbU49]
  refine awp_loop (fun k st=>k≤0∧st.fr 2=.loc 2 [] 0 0∧st.fr 1=isl s∧st.fr 5=.i64 0∧st.fr 6=.i64 0∧st.mem 2=some (.pt 4 zS)) (0) ?_ ?_
  · simp -dsimp -implicitDefEqProofs (disch:=first | omega | (simp only [lenr];try omega)) only [↓amPre,amAll,↓reduceIte,reduceCtorEq,Nat.reduceEqDiff,Nat.reduceBEq,Nat.reduceAdd,Nat.reduceLeDiff,Nat.reduceSub,Nat.reduceMul,Int.reduceToNat,List.size_toArray,tyF,MM,bu0,cbU49]
  rintro k st _ ⟨hk,f2,f1,f5,f6,m2⟩
  simp -dsimp -implicitDefEqProofs (disch:=first | omega | (simp only [lenr];try omega)) only [↓amPre,amAll,↓reduceIte,reduceCtorEq,Nat.reduceEqDiff,Nat.reduceBEq,Nat.reduceAdd,Nat.reduceLeDiff,Nat.reduceSub,Nat.reduceMul,Int.reduceToNat,List.size_toArray,tyF,MM,bu0,cbU49,f2,f1,f5,f6,m2]
theorem searchAdd0 (s:List Int):SpecX Tryz.prog 100 [zS,isl s,.i64 0] [] (fT [s] [0] [0] false):=by
  have q:=searchSlot0 s
  refine spec_of_awp_any (M:=MM) (np:=3) (X:=[3]) (fz:=false) mixed Tryz.func100 rfl rfl (by decide) rfl (Nat.le_refl _) (by decide +kernel) (.inl rfl) (by first | trivial | simp only [sigsOk_nil,sigsOk_some,sigsOk_none,sig_tr,sig_pt,sig_mt,sig_agg,List.map_cons,List.map_nil,sig1_tr,sig1_pt,sig1_v,and_self,true_and,List.length_map,List.length_set]) ?_
  simp -dsimp -implicitDefEqProofs (disch:=first | omega | (simp only [lenr];try omega)) only [↓amPre,amAll,↓reduceIte,reduceCtorEq,Nat.reduceEqDiff,Nat.reduceBEq,Nat.reduceAdd,Nat.reduceLeDiff,Nat.reduceSub,Nat.reduceMul,Int.reduceToNat,List.size_toArray,tyF,MM,bu0,cbU49]
  refine callP_of (q) ?_
  simp -dsimp -implicitDefEqProofs (disch:=first | omega | (simp only [lenr];try omega)) only [↓amPre,amAll,↓reduceIte,reduceCtorEq,Nat.reduceEqDiff,Nat.reduceBEq,Nat.reduceAdd,Nat.reduceLeDiff,Nat.reduceSub,Nat.reduceMul,Int.reduceToNat,List.size_toArray,tyF,MM,bu0,cbU49]
  refine split_go 9 (by decide +kernel) ?_
  simp -dsimp -implicitDefEqProofs (disch:=first | omega | (simp only [lenr];try omega)) only [↓amPre,amAll,↓reduceIte,reduceCtorEq,Nat.reduceEqDiff,Nat.reduceBEq,Nat.reduceAdd,Nat.reduceLeDiff,Nat.reduceSub,Nat.reduceMul,Int.reduceToNat,List.size_toArray,tyF,MM,bu0,cbU49]
  rfl
theorem searchFromI (p:Puzz) (N:Nat) (hN:p.n=N) (hd:puzzOk p) :
    SpecAt Tryz.prog 64 [p.sl,isl (idL N)] (fE (outF p.mv (letL p.mv.length) N 3000).1 (!(outF p.mv (letL p.mv.length) N 3000).2)):=by
  have hpn:=Ck.puzz_pn hd
  have hn20:=hd.1.1
  rw [show p.n.toNat=N by omega] at hpn
  have hN1:1≤N:=by omega
  have hN2:N≤20:=by omega
  have hA:=letL_len p.mv.length
  have h8:=hd.1.2.1
  have l0:=copyI (idL N) (by rw [runI_len];omega)
  have q0:=searchAdd0 (idL N)
  have ll:=lettersS p h8
  have hok:=fun k=>(Bf.out_ok hN1 hN2 hpn k).1
  refine spec_of_awp_any (M:=MM) (np:=2) (X:=[13]) (fz:=false) mixed Tryz.func64 rfl rfl (by decide) rfl (Nat.le_refl _) (by decide +kernel) (.inl rfl) (by first | trivial | simp only [sigsOk_nil,sigsOk_some,sigsOk_none,sig_tr,sig_pt,sig_mt,sig_agg,List.map_cons,List.map_nil,sig1_tr,sig1_pt,sig1_v,and_self,true_and,List.length_map,List.length_set]) ?_
  simp -dsimp -implicitDefEqProofs (disch:=first | omega | (simp only [lenr];try omega)) only [↓amPre,amAll,↓reduceIte,reduceCtorEq,Nat.reduceEqDiff,Nat.reduceBEq,Nat.reduceAdd,Nat.reduceLeDiff,Nat.reduceSub,Nat.reduceMul,Int.reduceToNat,List.size_toArray,tyF,MM,bu0,cbU49]
  have e1:∀ X:List Int,AV.fzL (X.map AV.i64)=X.map AV.i64:=fun X=>by rw [fzL_map,ints_fz]
  refine callP_frz l0 ?_
  simp -dsimp -implicitDefEqProofs (disch:=first | omega | (simp only [lenr];try omega)) only [↓amPre,amAll,↓reduceIte,reduceCtorEq,Nat.reduceEqDiff,Nat.reduceBEq,Nat.reduceAdd,Nat.reduceLeDiff,Nat.reduceSub,Nat.reduceMul,Int.reduceToNat,List.size_toArray,tyF,MM,bu0,cbU49,itrF,e1]
  refine callX_of (q0) ?_
  simp -dsimp -implicitDefEqProofs (disch:=first | omega | (simp only [lenr];try omega)) only [↓amPre,amAll,↓reduceIte,reduceCtorEq,Nat.reduceEqDiff,Nat.reduceBEq,Nat.reduceAdd,Nat.reduceLeDiff,Nat.reduceSub,Nat.reduceMul,Int.reduceToNat,List.size_toArray,tyF,MM,bu0,cbU49,hA]
  refine callP_of (ll) ?_
  simp -dsimp -implicitDefEqProofs (disch:=first | omega | (simp only [lenr];try omega)) only [↓amPre,amAll,↓reduceIte,reduceCtorEq,Nat.reduceEqDiff,Nat.reduceBEq,Nat.reduceAdd,Nat.reduceLeDiff,Nat.reduceSub,Nat.reduceMul,Int.reduceToNat,List.size_toArray,tyF,MM,bu0,cbU49,hA]
  have hs0:([0]:List Nat)=srtS [idL N]:=rfl
  refine awp_loop (fun k st=>k≤3000∧st.fr 7=.i64 k∧st.fr 6=.ref 15 [] 1 0 (2*p.mv.length)∧st.fr 5=.loc 5 [] 0 0∧st.fr 2=.loc 2 [] 0 0∧st.fr 4=.loc 4 [] 0 0∧st.mem 2=some (.pt 3 p.sl)∧st.mem 15=some (itr (letL p.mv.length))∧st.mem 5=some (.pt 4 (fE (Bf.out p.mv (letL p.mv.length) N k) false))∧st.mem 4=some (.pt 4 zS)∧(outF p.mv (letL p.mv.length) N k=(Bf.out p.mv (letL p.mv.length) N k,false)∧k≤(Bf.out p.mv (letL p.mv.length) N k).S.length)) (3000) ?_ ?_
  · simp -dsimp -implicitDefEqProofs (disch:=first | omega | (simp only [lenr];try omega)) only [↓amPre,amAll,↓reduceIte,reduceCtorEq,Nat.reduceEqDiff,Nat.reduceBEq,Nat.reduceAdd,Nat.reduceLeDiff,Nat.reduceSub,Nat.reduceMul,Int.reduceToNat,List.size_toArray,tyF,MM,bu0,cbU49,hA]
    exact ⟨rfl,rfl,rfl,Nat.zero_le _⟩
  rintro k st _ ⟨hk,f7,f6,f5,f2,f4,m2,m15,m5,m4,ek⟩
  obtain ⟨hF,hkl⟩:=ek
  have hk0:=hok k
  have h3k:=Bf.outF_len p.mv (letL p.mv.length) N k
  rw [hF] at h3k
  have hsfl:∀ L:List (List Int),(L.map fun x=>isl x).length=L.length:=fun L=>by simp
  by_cases c1:k<(Bf.out p.mv (letL p.mv.length) N k).S.length
  case neg =>
    have hst:=Bf.outF_stay (mv:=p.mv) (A:=letL p.mv.length) (n:=N) (k:=k) (.inr (by rw [hF];show (Bf.out p.mv (letL p.mv.length) N k).S.length≤k;omega)) (3000 - k)
    have h3k':k≤3000:=by have:(Bf.out p.mv (letL p.mv.length) N k).S.length≤3000:=h3k;omega
    rw [show k+(3000 - k)=3000 by omega,hF] at hst
    rw [hst]
    simp -dsimp -implicitDefEqProofs (disch:=first | omega | (simp only [lenr];try omega)) only [↓amPre,amAll,↓reduceIte,reduceCtorEq,Nat.reduceEqDiff,Nat.reduceBEq,Nat.reduceAdd,Nat.reduceLeDiff,Nat.reduceSub,Nat.reduceMul,Int.reduceToNat,List.size_toArray,tyF,MM,bu0,cbU49,f7,f6,f5,f2,f4,m2,m15,m5,m4,c1]
  have hk3:k<3000:=by have:(Bf.out p.mv (letL p.mv.length) N k).S.length≤3000:=h3k;omega
  have hsk:=hk0.el _ (mem_getD _ k default c1)
  have hinn:=fun j hj=>Bf.inn_ok hN1 hN2 hpn hk0 c1 j hj
  have hing:=fun j=>Bf.inn_grw p.mv (letL p.mv.length) k (Bf.out p.mv (letL p.mv.length) N k) j
  have hdle:=fun j=>Bf.inn_dle (mv:=p.mv) (A:=letL p.mv.length) (e:=Bf.out p.mv (letL p.mv.length) N k) (Bf.out_dle _ _ _ _) (k:=k) (by rw [hk0.lD];exact c1) j
  have hou1:Bf.out p.mv (letL p.mv.length) N (k+1)=inn p.mv (letL p.mv.length) k (Bf.out p.mv (letL p.mv.length) N k) (2*p.mv.length):=by rw [Bf.out,if_pos c1,hA]
  have houF:outF p.mv (letL p.mv.length) N (k+1)=innF p.mv (letL p.mv.length) k (Bf.out p.mv (letL p.mv.length) N k,false) (2*p.mv.length):=by rw [Bf.outF,hF,if_pos c1,hA]
  have hin3:=fun j=>Bf.innF_len (mv:=p.mv) (A:=letL p.mv.length) (k:=k) (s:=(Bf.out p.mv (letL p.mv.length) N k,false)) h3k j
  have hend:=fun (h:(outF p.mv (letL p.mv.length) N (k+1)).2=true)=>Bf.outF_stay (mv:=p.mv) (A:=letL p.mv.length) (n:=N) (k:=k+1) (.inl h) (3000 - (k+1))
  rw [show k+1+(3000 - (k+1))=3000 by omega] at hend
  rw [houF,hou1]
  rw [houF] at hend
  rw [hA] at hinn
  obtain ⟨E,hE⟩:∃ E,E=Bf.out p.mv (letL p.mv.length) N k:=⟨_,rfl⟩
  rw [← hE] at m5 hk0 c1 hsk hinn hing hdle hin3 hend ⊢
  simp -dsimp -implicitDefEqProofs (disch:=first | omega | (simp only [lenr];try omega)) only [↓amPre,amAll,↓reduceIte,reduceCtorEq,Nat.reduceEqDiff,Nat.reduceBEq,Nat.reduceAdd,Nat.reduceLeDiff,Nat.reduceSub,Nat.reduceMul,Int.reduceToNat,List.size_toArray,tyF,MM,bu0,cbU49,f7,f6,f5,f2,f4,m2,m15,m5,m4,c1]
  refine awp_loop (fun j st=>j≤(2*p.mv.length)∧st.fr 8=.i64 j∧st.fr 7=.i64 k∧st.fr 6=.ref 15 [] 1 0 (2*p.mv.length)∧st.fr 5=.loc 5 [] 0 0∧st.fr 2=.loc 2 [] 0 0∧st.fr 4=.loc 4 [] 0 0∧st.mem 2=some (.pt 3 p.sl)∧st.mem 15=some (itr (letL p.mv.length))∧st.mem 5=some (.pt 4 (fE (inn p.mv (letL p.mv.length) k E j) false))∧st.mem 4=some (.pt 4 zS)∧innF p.mv (letL p.mv.length) k (E,false) j=(inn p.mv (letL p.mv.length) k E j,false)) ((2*p.mv.length)) ?_ ?_
  · simp -dsimp -implicitDefEqProofs (disch:=first | omega | (simp only [lenr];try omega)) only [↓amPre,amAll,↓reduceIte,reduceCtorEq,Nat.reduceEqDiff,Nat.reduceBEq,Nat.reduceAdd,Nat.reduceLeDiff,Nat.reduceSub,Nat.reduceMul,Int.reduceToNat,List.size_toArray,tyF,MM,bu0,cbU49,f7,f6,f5,f2,f4,m2,m15,m5,m4]
    exact ⟨Nat.zero_le _,rfl,rfl,rfl⟩
  rintro j st _ ⟨hj,f8,f7,f6,f5,f2,f4,m2,m15,m5,m4,ej⟩
  by_cases c2:j<2*p.mv.length
  case neg =>
    have hje:j=2*p.mv.length:=by omega
    subst hje
    simp -dsimp -implicitDefEqProofs (disch:=first | omega | (simp only [lenr];try omega)) only [↓amPre,amAll,↓reduceIte,reduceCtorEq,Nat.reduceEqDiff,Nat.reduceBEq,Nat.reduceAdd,Nat.reduceLeDiff,Nat.reduceSub,Nat.reduceMul,Int.reduceToNat,List.size_toArray,tyF,MM,bu0,cbU49,f8,f7,f6,f5,f2,f4,m2,m15,m5,m4]
    have:=(hing (2*p.mv.length)).len
    exact ⟨by omega,by omega,ej,by omega⟩
  obtain ⟨hk2,_⟩:=hinn j (by omega)
  have hgj:=hing j
  have hdl:=hdle j k
  have h3j:(inn p.mv (letL p.mv.length) k E j).S.length≤3000:=by have:=hin3 j;rw [ej] at this;exact this
  have hstp:inn p.mv (letL p.mv.length) k E (j+1)=stp p.mv (letL p.mv.length) k (inn p.mv (letL p.mv.length) k E j) j:=rfl
  have hstF:innF p.mv (letL p.mv.length) k (E,false) (j+1)=Bf.stpF p.mv (letL p.mv.length) k (inn p.mv (letL p.mv.length) k E j,false) j:=by rw [← ej];rfl
  have hsty:=fun (h:(innF p.mv (letL p.mv.length) k (E,false) (j+1)).2=true)=>Bf.innF_stay h (2*p.mv.length - (j+1))
  rw [show j+1+(2*p.mv.length - (j+1))=2*p.mv.length by omega] at hsty
  obtain ⟨E2,hE2⟩:∃ E2,E2=inn p.mv (letL p.mv.length) k E j:=⟨_,rfl⟩
  rw [← hE2] at hk2 hgj hdl hstp hstF m5 h3j
  have hkE:=Nat.lt_of_lt_of_le c1 hgj.len
  have hgk:=hgj.get c1
  have hnE2:nbr p.mv E2 k ((letL p.mv.length).getD j 0)=compI (E.S.getD k default) (letP p.mv ((letL p.mv.length).getD j 0)):=by rw [← hgk]
  have hxA:=mem_getD (letL p.mv.length) j 0 (show j<(letL p.mv.length).length by omega)
  have hxok:=Bf.nbr_ok hN1 hN2 hpn hsk hxA
  unfold Bf.stpF at hstF
  rw [if_neg (by simp)] at hstF
  simp only [hnE2] at hstF
  unfold Bf.stp at hstp
  rw [hnE2] at hstp
  have hAj:((letL p.mv.length).map AV.i64).getD j .any=.i64 ((letL p.mv.length).getD j 0):=by rw [getD_eq _ _ _ (by simpa [hA] using c2),List.getElem_map,← getD_eq _ _ 0]
  have hlt:=letL_mem.1 hxA
  have qa:=sApply1 p (E.S.getD k default) ((letL p.mv.length).getD j 0) hd.1 ⟨by rw [hN];have:=hsk.1.1;omega,hsk.1.2⟩ (by unfold letOk;omega)
  have hgS:(E2.S.map fun x=>isl x).getD k .any=isl (E.S.getD k default):=by rw [getD_eq _ _ _ (by simpa using hkE),List.getElem_map,← hgk,getD_eq _ _ _ hkE]
  obtain ⟨x,hxx⟩:∃ x,x=compI (E.S.getD k default) (letP p.mv ((letL p.mv.length).getD j 0)):=⟨_,rfl⟩
  rw [← hxx] at qa hstF hstp hxok
  have hsrt:=Bf.srtS_ok (n:=N) hk2.nd (fun s hs=>(hk2.el s hs).1.1)
  have qi:=searchIndex N E2.S (cst E2.D) (srtS E2.S) false x hsrt hk2.nd hN2 hxok.1.1 h3j
  have hDk:((cst E2.D).map AV.i64).getD k .any=.i64 (E2.D.getD k 0:Nat):=by rw [getD_eq _ _ _ (by rw [List.length_map,cst_len,hk2.lD];exact hkE),List.getElem_map,← getD_eq _ _ 0,Ch.cst_get (by rw [hk2.lD];exact hkE)]
  have hlD:(cst E2.D).length=E2.S.length:=by rw [cst_len,hk2.lD]
  simp -dsimp -implicitDefEqProofs (disch:=first | omega | (simp only [lenr];try omega)) only [↓amPre,amAll,↓reduceIte,reduceCtorEq,Nat.reduceEqDiff,Nat.reduceBEq,Nat.reduceAdd,Nat.reduceLeDiff,Nat.reduceSub,Nat.reduceMul,Int.reduceToNat,List.size_toArray,tyF,MM,bu0,cbU49,f8,f7,f6,f5,f2,f4,m2,m15,m5,m4,hAj,hgS]
  refine callP_frz qa ?_
  simp -dsimp -implicitDefEqProofs (disch:=first | omega | (simp only [lenr];try omega)) only [↓amPre,amAll,↓reduceIte,reduceCtorEq,Nat.reduceEqDiff,Nat.reduceBEq,Nat.reduceAdd,Nat.reduceLeDiff,Nat.reduceSub,Nat.reduceMul,Int.reduceToNat,List.size_toArray,tyF,MM,bu0,cbU49,f8,f7,f6,f5,f2,f4,m2,m15,m5,m4,itrF,e1,islfz,ints_fz]
  refine callP_of (qi) ?_
  by_cases c3:x∈E2.S
  · rw [if_pos c3] at hstF hstp
    have hix:ixK E2.S x=((E2.S.idxOf x:Nat):Int):=by unfold ixK;rw [if_pos c3]
    have hsF:innF p.mv (letL p.mv.length) k (E,false) (j+1)=(inn p.mv (letL p.mv.length) k E (j+1),false):=by rw [hstF,hstp]
    rw [hsF,hstp]
    simp -dsimp -implicitDefEqProofs (disch:=first | omega | (simp only [lenr];try omega)) only [↓amPre,amAll,↓reduceIte,reduceCtorEq,Nat.reduceEqDiff,Nat.reduceBEq,Nat.reduceAdd,Nat.reduceLeDiff,Nat.reduceSub,Nat.reduceMul,Int.reduceToNat,List.size_toArray,tyF,MM,bu0,cbU49,f8,f7,f6,f5,f2,f4,m2,m15,m5,m4,hix]
    exact ⟨c2,by omega⟩
  have hix:ixK E2.S x = -1:=by unfold ixK;rw [if_neg c3]
  rw [if_neg c3] at hstF hstp
  by_cases c4:E2.S.length=3000
  · rw [if_pos c4] at hstF
    have h1:=hsty (by rw [hstF])
    rw [hstF] at h1
    have h2:=hend (by rw [h1])
    rw [h1] at h2
    rw [h2]
    simp -dsimp -implicitDefEqProofs (disch:=first | omega | (simp only [lenr];try omega)) only [↓amPre,amAll,↓reduceIte,reduceCtorEq,Nat.reduceEqDiff,Nat.reduceBEq,Nat.reduceAdd,Nat.reduceLeDiff,Nat.reduceSub,Nat.reduceMul,Int.reduceToNat,List.size_toArray,tyF,MM,bu0,cbU49,f8,f7,f6,f5,f2,f4,m2,m15,m5,m4,hix,hsfl,c4]
  · rw [if_neg c4] at hstF
    have hE3:inn p.mv (letL p.mv.length) k E (j+1)=⟨E2.S++[x],E2.D++[E2.D.getD k 0+1],E2.Pa++[k],E2.J++[j]⟩:=hstp
    have hsF:innF p.mv (letL p.mv.length) k (E,false) (j+1)=(inn p.mv (letL p.mv.length) k E (j+1),false):=by
      rw [hstF,hE3,Bf.stp,hnE2,← hxx,if_neg c3]
    have hwr:IntKind.i64.wrap ((E2.D.getD k 0:Nat)+1:Int)=((E2.D.getD k 0+1:Nat):Int):=by
      have:=hdl (by rw [hk2.lD];exact hkE)
      rw [wrap64_id (by omega)];rfl
    have qd:=searchAdd N E2.S (cst E2.D) (srtS E2.S) false x ((E2.D.getD k 0+1:Nat):Int) hsrt hN2 hxok.1.1 h3j hlD
    have hfE:fT (E2.S++[x]) (cst E2.D++[((E2.D.getD k 0+1:Nat):Int)]) (insS E2.S (srtS E2.S) x) false=fE (inn p.mv (letL p.mv.length) k E (j+1)) false:=by
      rw [hE3,← Bf.srtS_add]
      show fT _ _ _ _=fT _ (cst (E2.D++[E2.D.getD k 0+1])) _ _
      rw [cst_app];rfl
    rw [hfE] at qd
    rw [hsF]
    generalize inn p.mv (letL p.mv.length) k E (j+1)=E3 at *
    have c4':¬ ((E2.S.length:Int)=3000):=by omega
    simp -dsimp -implicitDefEqProofs (disch:=first | omega | (simp only [lenr];try omega)) only [↓amPre,amAll,↓reduceIte,reduceCtorEq,Nat.reduceEqDiff,Nat.reduceBEq,Nat.reduceAdd,Nat.reduceLeDiff,Nat.reduceSub,Nat.reduceMul,Int.reduceToNat,List.size_toArray,tyF,MM,bu0,cbU49,f8,f7,f6,f5,f2,f4,m2,m15,m5,m4,hix,hsfl,c4']
    refine split_go 8 (by decide +kernel) ?_
    have hwr2:IntKind.i64.wrap ((E2.D.getD k 0+1:Nat):Int)=((E2.D.getD k 0+1:Nat):Int):=hwr
    have hDk2:(cst E2.D).getD k 0=((E2.D.getD k 0:Nat):Int):=Ch.cst_get (by rw [hk2.lD];exact hkE)
    simp -dsimp -implicitDefEqProofs (disch:=first | omega | (simp only [lenr];try omega)) only [↓amPre,amAll,↓reduceIte,reduceCtorEq,Nat.reduceEqDiff,Nat.reduceBEq,Nat.reduceAdd,Nat.reduceLeDiff,Nat.reduceSub,Nat.reduceMul,Int.reduceToNat,List.size_toArray,tyF,MM,bu0,cbU49,f8,f7,f6,f5,f2,f4,m2,m15,m5,m4,hDk,hlD,hDk2,hwr,hwr2]
    refine callX_of (qd) ?_
    simp -dsimp -implicitDefEqProofs (disch:=first | omega | (simp only [lenr];try omega)) only [↓amPre,amAll,↓reduceIte,reduceCtorEq,Nat.reduceEqDiff,Nat.reduceBEq,Nat.reduceAdd,Nat.reduceLeDiff,Nat.reduceSub,Nat.reduceMul,Int.reduceToNat,List.size_toArray,tyF,MM,bu0,cbU49,f8,f7,f6,f5,f2,f4,m2,m15,m5,m4]
    exact ⟨c2,by omega⟩
noncomputable def sR (p:Puzz):Ex×Bool:=if puzzOk p then ((outF p.mv (letL p.mv.length) p.n.toNat 3000).1,!(outF p.mv (letL p.mv.length) p.n.toNat 3000).2) else (⟨[],[],[],[]⟩,false)
theorem searchStatesI (p:Puzz) (h:smallP p):SpecAt Tryz.prog 28 [p.sl] (.tup [fE (sR p).1 (sR p).2,.bl (sR p).2]):=by
  have q0:=sPuzzle p h
  by_cases hd:puzzOk p
  case neg =>
    have hz:sR p=(⟨[],[],[],[]⟩,false):=if_neg hd
    rw [decide_eq_false hd] at q0
    rw [hz]
    refine spec_of_awp_any (M:=MM) (np:=1) (X:=[3,4]) (fz:=false) mixed Tryz.func28 rfl rfl (by decide) rfl (Nat.le_refl _) (by decide +kernel) (.inl rfl) (by first | trivial | simp only [sigsOk_nil,sigsOk_some,sigsOk_none,sig_tr,sig_pt,sig_mt,sig_agg,List.map_cons,List.map_nil,sig1_tr,sig1_pt,sig1_v,and_self,true_and,List.length_map,List.length_set]) ?_
    simp -dsimp -implicitDefEqProofs (disch:=first | omega | (simp only [lenr];try omega)) only [↓amPre,amAll,↓reduceIte,reduceCtorEq,Nat.reduceEqDiff,Nat.reduceBEq,Nat.reduceAdd,Nat.reduceLeDiff,Nat.reduceSub,Nat.reduceMul,Int.reduceToNat,List.size_toArray,tyF,MM,bu0,cbU49]
    refine callP_of (q0) ?_
    simp -dsimp -implicitDefEqProofs (disch:=first | omega | (simp only [lenr];try omega)) only [↓amPre,amAll,↓reduceIte,reduceCtorEq,Nat.reduceEqDiff,Nat.reduceBEq,Nat.reduceAdd,Nat.reduceLeDiff,Nat.reduceSub,Nat.reduceMul,Int.reduceToNat,List.size_toArray,tyF,MM,bu0,cbU49]
    exact ⟨rfl,rfl⟩
  have hz:sR p=((outF p.mv (letL p.mv.length) p.n.toNat 3000).1,!(outF p.mv (letL p.mv.length) p.n.toNat 3000).2):=if_pos hd
  have hn20:=hd.1.1
  obtain ⟨N,hNN⟩:∃ N:Nat,p.n=N:=⟨p.n.toNat,by omega⟩
  rw [show p.n.toNat=N by omega] at hz
  have q1:=searchFromI p N hNN hd
  rw [decide_eq_true hd] at q0
  have l0:=sIdentity N (by omega)
  have e1:∀ X:List Int,AV.fzL (X.map AV.i64)=X.map AV.i64:=fun X=>by rw [fzL_map,ints_fz]
  rw [← hNN] at l0
  rw [hz]
  generalize (outF p.mv (letL p.mv.length) N 3000).1=e at *
  generalize (!(outF p.mv (letL p.mv.length) N 3000).2)=b at *
  refine spec_of_awp_any (M:=MM) (np:=1) (X:=[3,4]) (fz:=false) mixed Tryz.func28 rfl rfl (by decide) rfl (Nat.le_refl _) (by decide +kernel) (.inl rfl) (by first | trivial | simp only [sigsOk_nil,sigsOk_some,sigsOk_none,sig_tr,sig_pt,sig_mt,sig_agg,List.map_cons,List.map_nil,sig1_tr,sig1_pt,sig1_v,and_self,true_and,List.length_map,List.length_set]) ?_
  simp -dsimp -implicitDefEqProofs (disch:=first | omega | (simp only [lenr];try omega)) only [↓amPre,amAll,↓reduceIte,reduceCtorEq,Nat.reduceEqDiff,Nat.reduceBEq,Nat.reduceAdd,Nat.reduceLeDiff,Nat.reduceSub,Nat.reduceMul,Int.reduceToNat,List.size_toArray,tyF,MM,bu0,cbU49]
  refine callP_of (q0) ?_
  simp -dsimp -implicitDefEqProofs (disch:=first | omega | (simp only [lenr];try omega)) only [↓amPre,amAll,↓reduceIte,reduceCtorEq,Nat.reduceEqDiff,Nat.reduceBEq,Nat.reduceAdd,Nat.reduceLeDiff,Nat.reduceSub,Nat.reduceMul,Int.reduceToNat,List.size_toArray,tyF,MM,bu0,cbU49]
  refine split_go 6 (by decide +kernel) ?_
  simp -dsimp -implicitDefEqProofs (disch:=first | omega | (simp only [lenr];try omega)) only [↓amPre,amAll,↓reduceIte,reduceCtorEq,Nat.reduceEqDiff,Nat.reduceBEq,Nat.reduceAdd,Nat.reduceLeDiff,Nat.reduceSub,Nat.reduceMul,Int.reduceToNat,List.size_toArray,tyF,MM,bu0,cbU49]
  refine callP_frz l0 ?_
  simp -dsimp -implicitDefEqProofs (disch:=first | omega | (simp only [lenr];try omega)) only [↓amPre,amAll,↓reduceIte,reduceCtorEq,Nat.reduceEqDiff,Nat.reduceBEq,Nat.reduceAdd,Nat.reduceLeDiff,Nat.reduceSub,Nat.reduceMul,Int.reduceToNat,List.size_toArray,tyF,MM,bu0,cbU49,itrF,e1]
  refine callP_of (q1) ?_
  simp -dsimp -implicitDefEqProofs (disch:=first | omega | (simp only [lenr];try omega)) only [↓amPre,amAll,↓reduceIte,reduceCtorEq,Nat.reduceEqDiff,Nat.reduceBEq,Nat.reduceAdd,Nat.reduceLeDiff,Nat.reduceSub,Nat.reduceMul,Int.reduceToNat,List.size_toArray,tyF,MM,bu0,cbU49]
  refine lat_go [[],[],[1],[0],[0,1,2,3]] [[3,4],[2,4],[4],[4],[]] [0,1,2,3,4] (fun c st=>st.fr 4=.loc 4 [] 0 0∧st.fr 2=.loc 2 [] 0 0∧(c 0=true→c 3=false→st.fr 14=.agg [.ref 4 [(0,0)] 1 0 e.S.length,.ref 4 [(0,1)] 1 0 (cst e.D).length,.ref 4 [(0,2)] 1 0 (cst (srtS e.S)).length,.bl b])∧(c 1=true→st.fr 15=.loc 4 [] 0 3)∧(c 2=true→st.fr 16=.bl b)∧(c 4=true→st.fr 3=.bl b)∧st.mem 4=some (bif c 3 then (.pt 4 (.agg [.any,.any,.any,.bl b])) else (.pt 4 (fE e b)))∧st.mem 2=some (bif c 3 then (.pt 4 (fE e b)) else (.pt 4 zS))) (by decide +kernel) ?_ ?_ ?_
  · (try simp -dsimp -implicitDefEqProofs (disch:=first | omega | (simp only [lenr];try omega)) only [↓amPre,amAll,↓reduceIte,reduceCtorEq,Nat.reduceEqDiff,Nat.reduceBEq,Nat.reduceAdd,Nat.reduceLeDiff,Nat.reduceSub,Nat.reduceMul,Int.reduceToNat,List.size_toArray,tyF,MM,bu0,cbU49,latj])
    all_goals (try (repeat' (first | apply And.intro | rfl | (intro _;rfl) | (intro _ _;rfl))))
  · refine ⟨?_,?_,?_,?_,?_,trivial⟩
    all_goals rintro c st R hC hJ hR
    all_goals simp only [latm] at hC
    all_goals rcases Bool.eq_false_or_eq_true (c 3) with hx3 | hx3
    all_goals simp only [hC,hx3,latj] at hJ
    all_goals simp -dsimp -implicitDefEqProofs (disch:=first | omega | (simp only [lenr];try omega)) only [↓amPre,amAll,↓reduceIte,reduceCtorEq,Nat.reduceEqDiff,Nat.reduceBEq,Nat.reduceAdd,Nat.reduceLeDiff,Nat.reduceSub,Nat.reduceMul,Int.reduceToNat,List.size_toArray,tyF,MM,bu0,cbU49,hJ]
    all_goals refine hR _ ?_
    all_goals (simp +contextual -dsimp -implicitDefEqProofs only [amAll,↓reduceIte,reduceCtorEq,Nat.reduceEqDiff,Nat.reduceBEq,Nat.reduceAdd,latj,hC,hJ,hx3];try (repeat' (first | apply And.intro | rfl | (intro _;rfl) | (intro _ _;rfl))))
  intro c st hall hJ
  simp only [latm] at hall
  simp only [hall,latj] at hJ
  obtain ⟨f4,f2,f15,f16,f3,m4,m2⟩:=hJ
  clear hall
  simp -dsimp -implicitDefEqProofs (disch:=first | omega | (simp only [lenr];try omega)) only [↓amPre,amAll,↓reduceIte,reduceCtorEq,Nat.reduceEqDiff,Nat.reduceBEq,Nat.reduceAdd,Nat.reduceLeDiff,Nat.reduceSub,Nat.reduceMul,Int.reduceToNat,List.size_toArray,tyF,MM,bu0,cbU49,f2,f3,m2]
end Sr
end Go.AM
set_option maxRecDepth 8000
namespace Go.AM
namespace Ck
open Go.Proofs
open Ch (PN pt idL cst cst_app cst_len)
open Bf (Ex inn stp nbr idxM nxR nxO byL)
abbrev exA (p:Puzz) (S:List (List Int)) (D:List Int) (M:Value→Option Value) (Pa By:List Int) (Nx:AV):AV:=.pt 9 (.agg [.i64 p.n,.st p.nm,ssl p.mv,sfr S,itr D,.mt true M,itr Pa,itr By,Nx])
abbrev nxT (Nx:List (List Nat)):AV:=.tr 1 (Nx.map fun r=>itr (cst r))
noncomputable def exT (p:Puzz) (e:Ex) (Nx:List (List Nat)):AV:=.pt 9 (.agg [.i64 p.n,.st p.nm,ssl p.mv,sfr e.S,itr (cst e.D),.mt true (idxM e.S),itr (cst e.Pa),itr (byL (letL p.mv.length) e.J),.tr 1 (Nx.map fun r=>itr (cst r))])
def nilPt:AV:=.v (.pointer none)
theorem exploreNo (p:Puzz) (h:smallP p) (hs:¬ (1≤stN p∧stN p≤3000)):SpecAt Tryz.prog 35 [p.sl] (.tup [nilPt,.bl false]):=by
  have q0:=stateCountI p h
  have q1:=iwithin (stN p) 1 3000
  rw [show within (stN p) 1 3000=false from within_not.2 (by omega)] at q1
  refine spec_of_awp_any (M:=MM) (np:=1) (X:=[4,19,21]) (fz:=false) mixed Tryz.func35 rfl rfl (by decide) rfl (Nat.le_refl _) (by decide +kernel) (.inl rfl) (by first | trivial | simp only [sigsOk_nil,sigsOk_some,sigsOk_none,sig_tr,sig_pt,sig_mt,sig_agg,List.map_cons,List.map_nil,sig1_tr,sig1_pt,sig1_v,and_self,true_and,List.length_map,List.length_set]) ?_
  simp -dsimp -implicitDefEqProofs (disch:=first | omega | (simp only [lenr];try omega)) only [↓amPre,amAll,↓reduceIte,reduceCtorEq,Nat.reduceEqDiff,Nat.reduceBEq,Nat.reduceAdd,Nat.reduceLeDiff,Nat.reduceSub,Nat.reduceMul,Int.reduceToNat,List.size_toArray,tyF,MM,bu0,cbU49]
  refine callP_of (q0) ?_
  simp -dsimp -implicitDefEqProofs (disch:=first | omega | (simp only [lenr];try omega)) only [↓amPre,amAll,↓reduceIte,reduceCtorEq,Nat.reduceEqDiff,Nat.reduceBEq,Nat.reduceAdd,Nat.reduceLeDiff,Nat.reduceSub,Nat.reduceMul,Int.reduceToNat,List.size_toArray,tyF,MM,bu0,cbU49]
  refine callP_of (q1) ?_
  simp -dsimp -implicitDefEqProofs (disch:=first | omega | (simp only [lenr];try omega)) only [↓amPre,amAll,↓reduceIte,reduceCtorEq,Nat.reduceEqDiff,Nat.reduceBEq,Nat.reduceAdd,Nat.reduceLeDiff,Nat.reduceSub,Nat.reduceMul,Int.reduceToNat,List.size_toArray,tyF,MM,bu0,cbU49]
  try rfl
set_option maxHeartbeats 16000000 in
theorem exploreYes (p:Puzz) (h:smallP p) (hs:1≤stN p∧stN p≤3000):SpecAt Tryz.prog 35 [p.sl] (.tup [exT p (Bf.out p.mv (letL p.mv.length) p.n.toNat 3000) (nxO p.mv (letL p.mv.length) p.n.toNat 3000),.bl true]):=by
  have q0:=stateCountI p h
  have q1:=iwithin (stN p) 1 3000
  rw [show within (stN p) 1 3000=true from within_iff.2 (by omega)] at q1
  have hd:puzzOk p:=by
    by_cases c:puzzOk p
    · exact c
    · rw [stN,if_neg c] at hs;omega
  have hpn:=puzz_pn hd
  have hn20:=hd.1.1
  have hz:stN p=Ch.ordL (Ch.newL p.n.toNat p.mv):=if_pos hd
  obtain ⟨N,hNN⟩:∃ N:Nat,p.n=N:=⟨p.n.toNat,by omega⟩
  have hNt:p.n.toNat=N:=by omega
  rw [hNt] at hpn hz ⊢
  have hN1:1≤N:=by omega
  have hN2:N≤20:=by omega
  have hA:=letL_len p.mv.length
  have h8:=hd.1.2.1
  have l0:=iidentity N (by omega)
  rw [← hNN] at l0
  have hid:=PN.one hN1 hN2
  have hsm:smallE (idL N):=Bf.PN.small hN2 hid
  have lk0:=stateKeyI (idL N) hsm (by rw [runI_len];omega)
  have hup0:updM (fun _=>none) (.string (skey (idL N))) (.int .i64 0)=idxM [idL N]:=Bf.idxM_upd (S:=[]) (s:=idL N) (fun t ht=>by cases ht) hsm (by simp)
  have ll:=lettersI p.mv.length h8
  have e1:∀ X:List Int,AV.fzL (X.map AV.i64)=X.map AV.i64:=fun X=>by rw [fzL_map,ints_fz]
  have hpsl:p.sl=.agg [.i64 p.n,.st p.nm,ssl p.mv]:=rfl
  refine spec_of_awp_any (M:=MM) (np:=1) (X:=[4,19,21]) (fz:=false) mixed Tryz.func35 rfl rfl (by decide) rfl (Nat.le_refl _) (by decide +kernel) (.inl rfl) (by first | trivial | simp only [sigsOk_nil,sigsOk_some,sigsOk_none,sig_tr,sig_pt,sig_mt,sig_agg,List.map_cons,List.map_nil,sig1_tr,sig1_pt,sig1_v,and_self,true_and,List.length_map,List.length_set]) ?_
  simp -dsimp -implicitDefEqProofs (disch:=first | omega | (simp only [lenr];try omega)) only [↓amPre,amAll,↓reduceIte,reduceCtorEq,Nat.reduceEqDiff,Nat.reduceBEq,Nat.reduceAdd,Nat.reduceLeDiff,Nat.reduceSub,Nat.reduceMul,Int.reduceToNat,List.size_toArray,tyF,MM,bu0,cbU49]
  refine callP_of (q0) ?_
  simp -dsimp -implicitDefEqProofs (disch:=first | omega | (simp only [lenr];try omega)) only [↓amPre,amAll,↓reduceIte,reduceCtorEq,Nat.reduceEqDiff,Nat.reduceBEq,Nat.reduceAdd,Nat.reduceLeDiff,Nat.reduceSub,Nat.reduceMul,Int.reduceToNat,List.size_toArray,tyF,MM,bu0,cbU49]
  refine callP_of (q1) ?_
  simp -dsimp -implicitDefEqProofs (disch:=first | omega | (simp only [lenr];try omega)) only [↓amPre,amAll,↓reduceIte,reduceCtorEq,Nat.reduceEqDiff,Nat.reduceBEq,Nat.reduceAdd,Nat.reduceLeDiff,Nat.reduceSub,Nat.reduceMul,Int.reduceToNat,List.size_toArray,tyF,MM,bu0,cbU49]
  refine callP_frz l0 ?_
  simp -dsimp -implicitDefEqProofs (disch:=first | omega | (simp only [lenr];try omega)) only [↓amPre,amAll,↓reduceIte,reduceCtorEq,Nat.reduceEqDiff,Nat.reduceBEq,Nat.reduceAdd,Nat.reduceLeDiff,Nat.reduceSub,Nat.reduceMul,Int.reduceToNat,List.size_toArray,tyF,MM,bu0,cbU49,itrF,e1]
  refine any_fin (fun st=>st.fr 1=.loc 1 [] 0 0∧st.fr 5=.loc 32 [] 0 0∧st.mem 1=some (.pt 3 p.sl)∧st.mem 32=some (.pt 9 (.agg [.i64 p.n,.st p.nm,ssl p.mv,sfr [idL N],itr [0],.mt true (idxM [idL N]),itr [0],itr [0],.nilsl]))) ?_ ?_
  · intro hfin
    refine lat_go [[],[],[1],[],[],[],[5],[4,5,6],[4,5,6,7],[],[],[0,1,2,3,4,5,6,7,8,9,10],[0,1,2,3,4,5,6,7,8,9,10,11],[0,1,2,3,4,5,6,7,8,9,10,11,12]] [[11,12,13],[2,11,12,13],[11,12,13],[11,12,13],[7,8,11,12,13],[6,7,8,11,12,13],[7,8,11,12,13],[8,11,12,13],[11,12,13],[11,12,13],[11,12,13],[12,13],[13],[]] [0,1,2,3,4,5,6,7,8,9,10,11,12,13] (fun c st=>st.fr 1=.loc 1 [] 0 0∧st.fr 4=isl (idL N)∧(c 0=true→st.fr 21=p.sl)∧(c 1=true→st.fr 22=isl (idL N))∧(c 2=true→c 12=false→st.fr 23=.ref 23 [] 1 0 1)∧(c 3=true→c 12=false→st.fr 24=.ref 24 [] 1 0 1)∧(c 4=true→c 12=false→st.fr 25=.mref 25 [])∧(c 5=true→st.fr 26=isl (idL N))∧(c 6=true→st.fr 27=.v (.string (skey (idL N))))∧(c 8=true→c 12=false→st.fr 28=.mref 25 [])∧(c 9=true→c 12=false→st.fr 29=.ref 29 [] 1 0 1)∧(c 10=true→c 12=false→st.fr 30=.ref 30 [] 1 0 1)∧(c 11=true→c 12=false→st.fr 31=.agg [.i64 p.n,.st p.nm,ssl p.mv,.ref 23 [] 1 0 1,.ref 24 [] 1 0 1,.mref 25 [],.ref 29 [] 1 0 1,.ref 30 [] 1 0 1,.nilsl])∧(c 12=true→st.fr 32=.loc 32 [] 0 0)∧(c 13=true→st.fr 5=.loc 32 [] 0 0)∧st.mem 1=some (.pt 3 p.sl)∧(c 2=true→c 12=false→st.mem 23=some (sfr [idL N]))∧(c 3=true→c 12=false→st.mem 24=some (itr [0]))∧(c 4=true→c 7=false→st.mem 25=some (.mt true fun _=>none))∧(c 7=true→c 12=false→st.mem 25=some (.mt true (idxM [idL N])))∧(c 9=true→c 12=false→st.mem 29=some (itr [0]))∧(c 10=true→c 12=false→st.mem 30=some (itr [0]))∧(c 12=true→st.mem 32=some (.pt 9 (.agg [.i64 p.n,.st p.nm,ssl p.mv,sfr [idL N],itr [0],.mt true (idxM [idL N]),itr [0],itr [0],.nilsl])))) (by decide +kernel) ?_ ?_ ?_
    · (try simp -dsimp -implicitDefEqProofs (disch:=first | omega | (simp only [lenr];try omega)) only [↓amPre,amAll,↓reduceIte,reduceCtorEq,Nat.reduceEqDiff,Nat.reduceBEq,Nat.reduceAdd,Nat.reduceLeDiff,Nat.reduceSub,Nat.reduceMul,Int.reduceToNat,List.size_toArray,tyF,MM,bu0,cbU49,latj,hup0])
      all_goals (try (repeat' (first | apply And.intro | rfl | (intro _;rfl) | (intro _ _;rfl))))
    · refine ⟨?_,?_,?_,?_,?_,?_,?_,?_,?_,?_,?_,?_,?_,?_,trivial⟩
      all_goals rintro c st R hC hJ hR
      all_goals simp only [latm] at hC
      all_goals simp only [hC,latj] at hJ
      all_goals simp -dsimp -implicitDefEqProofs (disch:=first | omega | (simp only [lenr];try omega)) only [↓amPre,amAll,↓reduceIte,reduceCtorEq,Nat.reduceEqDiff,Nat.reduceBEq,Nat.reduceAdd,Nat.reduceLeDiff,Nat.reduceSub,Nat.reduceMul,Int.reduceToNat,List.size_toArray,tyF,MM,bu0,cbU49,hJ,hup0]
      all_goals (try (refine callP_of lk0 ?_;simp -dsimp -implicitDefEqProofs (disch:=first | omega | (simp only [lenr];try omega)) only [↓amPre,amAll,↓reduceIte,reduceCtorEq,Nat.reduceEqDiff,Nat.reduceBEq,Nat.reduceAdd,Nat.reduceLeDiff,Nat.reduceSub,Nat.reduceMul,Int.reduceToNat,List.size_toArray,tyF,MM,bu0,cbU49,hJ,hup0]))
      all_goals refine hR _ ?_
      all_goals (simp +contextual -dsimp -implicitDefEqProofs only [amAll,↓reduceIte,reduceCtorEq,Nat.reduceEqDiff,Nat.reduceBEq,Nat.reduceAdd,latj,hC,hJ,hup0];try (repeat' (first | apply And.intro | rfl | (intro _;rfl) | (intro _ _;rfl))))
    intro c st hall hJ
    simp only [latm] at hall
    simp only [hall,latj] at hJ
    obtain ⟨f1,f4,f21,f22,f26,f27,f32,f5,m1,m32⟩:=hJ
    clear hall
    exact hfin st ⟨f1,f5,m1,m32⟩
  rintro st ⟨f1,f5,m1,m32⟩
  have hok:=fun k=>(Bf.out_ok hN1 hN2 hpn k).1
  have hle:=fun k=>Bf.out_le hN1 hN2 hpn k
  simp -dsimp -implicitDefEqProofs (disch:=first | omega | (simp only [lenr];try omega)) only [↓amPre,amAll,↓reduceIte,reduceCtorEq,Nat.reduceEqDiff,Nat.reduceBEq,Nat.reduceAdd,Nat.reduceLeDiff,Nat.reduceSub,Nat.reduceMul,Int.reduceToNat,List.size_toArray,tyF,MM,bu0,cbU49,f1,f5,m1,hpsl]
  refine callP_of (ll) ?_
  simp -dsimp -implicitDefEqProofs (disch:=first | omega | (simp only [lenr];try omega)) only [↓amPre,amAll,↓reduceIte,reduceCtorEq,Nat.reduceEqDiff,Nat.reduceBEq,Nat.reduceAdd,Nat.reduceLeDiff,Nat.reduceSub,Nat.reduceMul,Int.reduceToNat,List.size_toArray,tyF,MM,bu0,cbU49,f1,f5,m1,m32,hA]
  skip
  refine awp_loopC 32 8 9 1 [.i64 p.n,.st p.nm,ssl p.mv,sfr [idL N],itr [0],.mt true (idxM [idL N]),itr [0],itr [0],.nilsl] (by simp -dsimp -implicitDefEqProofs (disch:=first | omega | (simp only [lenr];try omega)) only [↓amPre,amAll,↓reduceIte,reduceCtorEq,Nat.reduceEqDiff,Nat.reduceBEq,Nat.reduceAdd,Nat.reduceLeDiff,Nat.reduceSub,Nat.reduceMul,Int.reduceToNat,List.size_toArray,tyF,MM,bu0,cbU49,f1,f5,m1,m32]) (by simp) (by simp) (fun k st=>k≤3000∧st.fr 7=.i64 k∧st.fr 6=.ref 36 [] 1 0 (2*p.mv.length)∧st.fr 5=.loc 32 [] 0 0∧st.fr 1=.loc 1 [] 0 0∧st.mem 1=some (.pt 3 p.sl)∧st.mem 36=some (itr (letL p.mv.length))∧st.mem 32=some (exA p (Bf.out p.mv (letL p.mv.length) N k).S (cst (Bf.out p.mv (letL p.mv.length) N k).D) (idxM (Bf.out p.mv (letL p.mv.length) N k).S) (cst (Bf.out p.mv (letL p.mv.length) N k).Pa) (byL (letL p.mv.length) (Bf.out p.mv (letL p.mv.length) N k).J) (nxT (nxO p.mv (letL p.mv.length) N k)))∧(k≤(Bf.out p.mv (letL p.mv.length) N k).S.length)) (3000) ?_ ?_
  · simp -dsimp -implicitDefEqProofs (disch:=first | omega | (simp only [lenr];try omega)) only [↓amPre,amAll,↓reduceIte,reduceCtorEq,Nat.reduceEqDiff,Nat.reduceBEq,Nat.reduceAdd,Nat.reduceLeDiff,Nat.reduceSub,Nat.reduceMul,Int.reduceToNat,List.size_toArray,tyF,MM,bu0,cbU49,nilC_eq,f1,f5,m1,m32]
    exact ⟨rfl,rfl,Nat.zero_le _⟩
  rintro k st _ ⟨hk,f7,f6,f5,f1,m1,m36,m32,ek⟩
  have hk0:=hok k
  have hlek:=hle k
  by_cases c1:k<(Bf.out p.mv (letL p.mv.length) N k).S.length
  case neg =>
    have hend:Bf.out p.mv (letL p.mv.length) N k=Bf.out p.mv (letL p.mv.length) N 3000∧nxO p.mv (letL p.mv.length) N k=nxO p.mv (letL p.mv.length) N 3000:=by
      have a:=Bf.out_stay (mv:=p.mv) (A:=letL p.mv.length) (n:=N) (k:=k) (by omega) (3000 - k)
      have b:=Bf.nxO_stay (mv:=p.mv) (A:=letL p.mv.length) (n:=N) (k:=k) (by omega) (3000 - k)
      rw [show k+(3000 - k)=3000 by omega] at a b
      exact ⟨a.symm,b.symm⟩
    simp -dsimp -implicitDefEqProofs (disch:=first | omega | (simp only [lenr];try omega)) only [↓amPre,amAll,↓reduceIte,reduceCtorEq,Nat.reduceEqDiff,Nat.reduceBEq,Nat.reduceAdd,Nat.reduceLeDiff,Nat.reduceSub,Nat.reduceMul,Int.reduceToNat,List.size_toArray,tyF,MM,bu0,cbU49,f7,f6,f5,f1,m1,m36,m32]
    rw [hend.1,hend.2]
    rfl
  have hsk:=hk0.el _ (mem_getD _ k default c1)
  have qn:=neighborsI p N ((Bf.out p.mv (letL p.mv.length) N k).S.getD k default) hNN hd.1 hsk.1
  have hnl:=nbL_len p.mv ((Bf.out p.mv (letL p.mv.length) N k).S.getD k default) (Nat.le_refl (2*p.mv.length))
  have hnx1:nxO p.mv (letL p.mv.length) N (k+1)=nxO p.mv (letL p.mv.length) N k++[nxR p.mv (letL p.mv.length) k (Bf.out p.mv (letL p.mv.length) N k) (2*p.mv.length)]:=by rw [nxO,if_pos c1,hA]
  have hou1:Bf.out p.mv (letL p.mv.length) N (k+1)=inn p.mv (letL p.mv.length) k (Bf.out p.mv (letL p.mv.length) N k) (2*p.mv.length):=by rw [Bf.out,if_pos c1,hA]
  have hinn:=fun j hj=>Bf.inn_ok hN1 hN2 hpn hk0 c1 j hj
  have hing:=fun j=>Bf.inn_grw p.mv (letL p.mv.length) k (Bf.out p.mv (letL p.mv.length) N k) j
  have hinl:=fun j hj=>Bf.inn_le hN1 hN2 hpn hk0 c1 (j:=j) hj
  have hngt:=fun j hj=>nbL_get p.mv ((Bf.out p.mv (letL p.mv.length) N k).S.getD k default) (k:=j) hj
  rw [hA] at qn hngt hinn hinl
  rw [hou1,hnx1]
  obtain ⟨Nx,hNx⟩:∃ Nx,Nx=nxO p.mv (letL p.mv.length) N k:=⟨_,rfl⟩
  have hnxl:Nx.length=k:=by rw [hNx];exact Bf.nxO_lt ek
  rw [← hNx] at m32 ⊢
  obtain ⟨E,hE⟩:∃ E,E=Bf.out p.mv (letL p.mv.length) N k:=⟨_,rfl⟩
  rw [← hE] at m32 hk0 hlek c1 hsk qn hnl hinn hing hinl hngt ⊢
  obtain ⟨A,hAA⟩:∃ A,A=letL p.mv.length:=⟨_,rfl⟩
  rw [← hAA] at hA m36 m32 hinn hing hinl hngt ⊢
  obtain ⟨nb,hnb⟩:∃ nb,nb=nbL p.mv (E.S.getD k default) (2*p.mv.length):=⟨_,rfl⟩
  rw [← hnb] at qn hnl hngt
  have hfz:∀ L:List (List Int),AV.fzL (L.map fun x=>isl x)=L.map fun x=>isl x:=fun L=>by rw [fzL_map,islfz]
  simp -dsimp -implicitDefEqProofs (disch:=first | omega | (simp only [lenr];try omega)) only [↓amPre,amAll,↓reduceIte,reduceCtorEq,Nat.reduceEqDiff,Nat.reduceBEq,Nat.reduceAdd,Nat.reduceLeDiff,Nat.reduceSub,Nat.reduceMul,Int.reduceToNat,List.size_toArray,tyF,MM,bu0,cbU49,f7,f6,f5,f1,m1,m36,m32]
  refine callP_frz qn ?_
  have hnb2:AV.fz (sfr nb)=ssl nb:=by rw [AV.fz,hfz]
  simp -dsimp -implicitDefEqProofs (disch:=first | omega | (simp only [lenr];try omega)) only [↓amPre,amAll,↓reduceIte,reduceCtorEq,Nat.reduceEqDiff,Nat.reduceBEq,Nat.reduceAdd,Nat.reduceLeDiff,Nat.reduceSub,Nat.reduceMul,Int.reduceToNat,List.size_toArray,tyF,MM,bu0,cbU49,f7,f6,f5,f1,m1,m36,m32,hnb2,hnl]
  refine awp_loopN 8 138 1 (by simp -dsimp -implicitDefEqProofs (disch:=first | omega | (simp only [lenr];try omega)) only [↓amPre,amAll,↓reduceIte,reduceCtorEq,Nat.reduceEqDiff,Nat.reduceBEq,Nat.reduceAdd,Nat.reduceLeDiff,Nat.reduceSub,Nat.reduceMul,Int.reduceToNat,List.size_toArray,tyF,MM,bu0,cbU49,f7,f6,f5,f1,m1,m36,m32]) (by decide) (fun j st=>j≤(2*p.mv.length)∧st.fr 56=.i64 j∧st.fr 55=.i64 (2*p.mv.length:Nat)∧st.fr 54=ssl nb∧st.fr 8=.ref 138 [] 1 0 j∧st.fr 7=.i64 k∧st.fr 6=.ref 36 [] 1 0 (2*p.mv.length)∧st.fr 5=.loc 32 [] 0 0∧st.fr 1=.loc 1 [] 0 0∧st.mem 138=some (itr (cst (nxR p.mv A k E j)))∧st.mem 1=some (.pt 3 p.sl)∧st.mem 36=some (itr A)∧st.mem 32=some (exA p (inn p.mv A k E j).S (cst (inn p.mv A k E j).D) (idxM (inn p.mv A k E j).S) (cst (inn p.mv A k E j).Pa) (byL A (inn p.mv A k E j).J) (nxT Nx))) ((2*p.mv.length)) ?_ ?_
  · simp -dsimp -implicitDefEqProofs (disch:=first | omega | (simp only [lenr];try omega)) only [↓amPre,amAll,↓reduceIte,reduceCtorEq,Nat.reduceEqDiff,Nat.reduceBEq,Nat.reduceAdd,Nat.reduceLeDiff,Nat.reduceSub,Nat.reduceMul,Int.reduceToNat,List.size_toArray,tyF,MM,bu0,cbU49,f7,f6,f5,f1,m1,m36,m32,nilAs_eq]
    exact ⟨Nat.zero_le _,rfl,rfl,rfl⟩
  rintro j st _ ⟨hj,f56,f55,f54,f8,f7,f6,f5,f1,m138,m1,m36,m32⟩
  have hrl:=Bf.nxR_len p.mv A k E j
  by_cases c2:j<2*p.mv.length
  case neg =>
    have hje:j=2*p.mv.length:=by omega
    subst hje
    have hrl2:(cst (nxR p.mv A k E (2*p.mv.length))).length=2*p.mv.length:=by rw [cst_len,hrl]
    simp -dsimp -implicitDefEqProofs (disch:=first | omega | (simp only [lenr];try omega)) only [↓amPre,amAll,↓reduceIte,reduceCtorEq,Nat.reduceEqDiff,Nat.reduceBEq,Nat.reduceAdd,Nat.reduceLeDiff,Nat.reduceSub,Nat.reduceMul,Int.reduceToNat,List.size_toArray,tyF,MM,bu0,cbU49,f56,f55,f54,f8,f7,f6,f5,f1,m138,m1,m36,m32,hrl2]
    have:=(hing (2*p.mv.length)).len
    exact ⟨by omega,by omega,by omega⟩
  obtain ⟨hk2,_⟩:=hinn j (by omega)
  have hk3:=(hinn (j+1) (by omega)).1
  have hgj:=hing j
  have hlj:=hinl j (by omega)
  have hlj1:=hinl (j+1) (by omega)
  have hx:=hngt j c2
  have hstp:inn p.mv A k E (j+1)=stp p.mv A k (inn p.mv A k E j) j:=rfl
  have hrs:nxR p.mv A k E (j+1)=nxR p.mv A k E j++[(inn p.mv A k E (j+1)).S.idxOf (nbr p.mv E k (A.getD j 0))]:=rfl
  obtain ⟨E3,hE3⟩:∃ E3,E3=inn p.mv A k E (j+1):=⟨_,rfl⟩
  rw [← hE3] at hk3 hlj1 hstp hrs ⊢
  obtain ⟨E2,hE2⟩:∃ E2,E2=inn p.mv A k E j:=⟨_,rfl⟩
  rw [← hE2] at hk2 hgj hlj hstp m32
  have hkE:=Nat.lt_of_lt_of_le c1 hgj.len
  have hgk:=hgj.get c1
  have hnE:nbr p.mv E k (A.getD j 0)=compI (E.S.getD k default) (letP p.mv (A.getD j 0)):=rfl
  have hnE2:nbr p.mv E2 k (A.getD j 0)=compI (E.S.getD k default) (letP p.mv (A.getD j 0)):=by rw [← hgk]
  rw [hnE] at hrs
  have hxA:A.getD j 0∈letL p.mv.length:=by rw [← hAA];exact mem_getD A j 0 (by omega)
  have hxok:=Bf.nbr_ok hN1 hN2 hpn hsk hxA
  have hxs:=Bf.PN.small hN2 hxok.1
  obtain ⟨rw1,hrw1⟩:∃ r,r=nxR p.mv A k E j:=⟨_,rfl⟩
  rw [← hrw1] at hrl hrs m138
  obtain ⟨rw3,hrw3⟩:∃ r,r=nxR p.mv A k E (j+1):=⟨_,rfl⟩
  rw [← hrw3] at hrs ⊢
  unfold Bf.stp at hstp
  rw [hnE2] at hstp
  have hgx:nb.getD j default=compI (E.S.getD k default) (letP p.mv (A.getD j 0)):=hx
  have hgl:(nb.map fun x=>isl x).getD j .any=isl (compI (E.S.getD k default) (letP p.mv (A.getD j 0))):=by rw [getD_eq _ _ _ (by simpa [hnl] using c2),List.getElem_map,← hgx,getD_eq _ _ _ (by rw [hnl];exact c2)]
  obtain ⟨x,hxx⟩:∃ x,x=compI (E.S.getD k default) (letP p.mv (A.getD j 0)):=⟨_,rfl⟩
  rw [← hxx] at hgl hstp hrs hxok hxs
  have qk:=stateKeyI x hxs (by have:=hxok.1.1;omega)
  have hlk:=Bf.idxM_at (S:=E2.S) (s:=x) (fun t ht=>Bf.PN.small hN2 (hk2.el t ht).1) hxs
  have hAj:(A.map AV.i64).getD j .any=.i64 (A.getD j 0):=by rw [getD_eq _ _ _ (by simpa [hA] using c2),List.getElem_map,← getD_eq _ _ 0]
  have hDk:((cst E2.D).map AV.i64).getD k .any=.i64 (E2.D.getD k 0:Nat):=by rw [getD_eq _ _ _ (by rw [List.length_map,cst_len,hk2.lD];exact hkE),List.getElem_map,← getD_eq _ _ 0,Ch.cst_get (by rw [hk2.lD];exact hkE)]
  have hlD:(cst E2.D).length=E2.S.length:=by rw [cst_len,hk2.lD]
  have hlP:(cst E2.Pa).length=E2.S.length:=by rw [cst_len,hk2.lP]
  have hlJ:(byL A E2.J).length=E2.S.length:=by rw [Bf.byL_len,hk2.lJ]
  have hbS:=hlj
  by_cases c3:x∈E2.S
  · rw [if_pos c3] at hstp hlk
    subst hstp
    have hre:cst rw1++[((E3.S.idxOf x:Nat):Int)]=cst rw3:=by rw [hrs,cst_app];rfl
    have hlr1:(cst rw1).length=j:=by rw [cst_len,hrl]
    simp -dsimp -implicitDefEqProofs (disch:=first | omega | (simp only [lenr];try omega)) only [↓amPre,amAll,↓reduceIte,reduceCtorEq,Nat.reduceEqDiff,Nat.reduceBEq,Nat.reduceAdd,Nat.reduceLeDiff,Nat.reduceSub,Nat.reduceMul,Int.reduceToNat,List.size_toArray,tyF,MM,bu0,cbU49,f56,f55,f54,f8,f7,f6,f5,f1,m138,m1,m36,m32,hgl,hnl]
    refine callP_of (qk) ?_
    simp -dsimp -implicitDefEqProofs (disch:=first | omega | (simp only [lenr];try omega)) only [↓amPre,amAll,↓reduceIte,reduceCtorEq,Nat.reduceEqDiff,Nat.reduceBEq,Nat.reduceAdd,Nat.reduceLeDiff,Nat.reduceSub,Nat.reduceMul,Int.reduceToNat,List.size_toArray,tyF,MM,bu0,cbU49,f56,f55,f54,f8,f7,f6,f5,f1,m138,m1,m36,m32,hlk]
    exact ⟨c2,by omega,by rw [hlr1],by rw [← hre]⟩
  · rw [if_neg c3] at hstp hlk
    have hup:=Bf.idxM_upd (S:=E2.S) (s:=x) (fun t ht=>Bf.PN.small hN2 (hk2.el t ht).1) hxs c3
    have hE3S:E3.S=E2.S++[x]:=by rw [hstp]
    have hE3D:cst E2.D++[((E2.D.getD k 0+1:Nat):Int)]=cst E3.D:=by rw [hstp,cst_app];rfl
    have hE3P:cst E2.Pa++[(k:Int)]=cst E3.Pa:=by rw [hstp,cst_app];rfl
    have hE3J:byL A E2.J++[A.getD j 0]=byL A E3.J:=by rw [hstp];exact (Bf.byL_app A (by rw [hk2.lJ];omega) j).symm
    have hE3l:E3.S.length=E2.S.length+1:=by rw [hE3S];simp
    have hlD3:(cst E3.D).length=E2.S.length+1:=by rw [cst_len,hk3.lD,hE3l]
    have hlP3:(cst E3.Pa).length=E2.S.length+1:=by rw [cst_len,hk3.lP,hE3l]
    have hlJ3:(byL A E3.J).length=E2.S.length+1:=by rw [Bf.byL_len,hk3.lJ,hE3l]
    rw [← hE3S] at hup
    have hSS:(E2.S.map fun x=>isl x)++[isl x]=E3.S.map fun x=>isl x:=by rw [hE3S];simp
    have hix:E3.S.idxOf x=E2.S.length:=by rw [hE3S,List.idxOf_append,if_neg c3];simp
    have hre:cst rw1++[((E2.S.length:Nat):Int)]=cst rw3:=by rw [hrs,hix,cst_app];rfl
    have hlr1:(cst rw1).length=j:=by rw [cst_len,hrl]
    have ql:=lenSS E2.S
    clear hstp
    have hDle:=Bf.inn_dle (mv:=p.mv) (A:=A) (e:=E) (fun i hi=>by rw [hE];rw [hE] at hi;exact Bf.out_dle _ _ _ _ i hi) (k:=k) (by rw [hk0.lD];exact c1) j k (by rw [← hE2,hk2.lD];exact hkE)
    rw [← hE2] at hDle
    have hwr:IntKind.i64.wrap ((E2.D.getD k 0:Nat)+1:Int)=((E2.D.getD k 0+1:Nat):Int):=by rw [wrap64_id (by omega)];rfl
    simp -dsimp -implicitDefEqProofs (disch:=first | omega | (simp only [lenr];try omega)) only [↓amPre,amAll,↓reduceIte,reduceCtorEq,Nat.reduceEqDiff,Nat.reduceBEq,Nat.reduceAdd,Nat.reduceLeDiff,Nat.reduceSub,Nat.reduceMul,Int.reduceToNat,List.size_toArray,tyF,MM,bu0,cbU49,f56,f55,f54,f8,f7,f6,f5,f1,m138,m1,m36,m32,hgl,hnl]
    refine callP_of (qk) ?_
    simp -dsimp -implicitDefEqProofs (disch:=first | omega | (simp only [lenr];try omega)) only [↓amPre,amAll,↓reduceIte,reduceCtorEq,Nat.reduceEqDiff,Nat.reduceBEq,Nat.reduceAdd,Nat.reduceLeDiff,Nat.reduceSub,Nat.reduceMul,Int.reduceToNat,List.size_toArray,tyF,MM,bu0,cbU49,f56,f55,f54,f8,f7,f6,f5,f1,m138,m1,m36,m32,hlk,islfz]
    refine callP_of (ql) ?_
    simp -dsimp -implicitDefEqProofs (disch:=first | omega | (simp only [lenr];try omega)) only [↓amPre,amAll,↓reduceIte,reduceCtorEq,Nat.reduceEqDiff,Nat.reduceBEq,Nat.reduceAdd,Nat.reduceLeDiff,Nat.reduceSub,Nat.reduceMul,Int.reduceToNat,List.size_toArray,tyF,MM,bu0,cbU49,f56,f55,f54,f8,f7,f6,f5,f1,m138,m1,m36,m32,hup,hSS,hE3l]
    refine lat_go [[],[],[1],[1,2],[1,2,3],[],[5],[5,6],[5,6,7],[],[5,6,7,8,9],[5,6,7,8,9,10],[5,6,7,8,9,10,11],[5,6,7,8,9,10,11,12],[1,2,3,4,5,6,7,8,9,10,11,12,13],[0,1,2,3,4,5,6,7,8,9,10,11,12,13,14],[0,1,2,3,4,5,6,7,8,9,10,11,12,13,14,15],[0,1,2,3,4,5,6,7,8,9,10,11,12,13,14,15,16]] [[15,16,17],[2,3,4,14,15,16,17],[3,4,14,15,16,17],[4,14,15,16,17],[14,15,16,17],[6,7,8,10,11,12,13,14,15,16,17],[7,8,10,11,12,13,14,15,16,17],[8,10,11,12,13,14,15,16,17],[10,11,12,13,14,15,16,17],[10,11,12,13,14,15,16,17],[11,12,13,14,15,16,17],[12,13,14,15,16,17],[13,14,15,16,17],[14,15,16,17],[15,16,17],[16,17],[17],[]] [0,1,2,3,4,5,6,7,8,9,10,11,12,13,14,15,16,17] (fun c st=>st.fr 56=.i64 j∧st.fr 55=.i64 (2*p.mv.length:Nat)∧st.fr 54=ssl nb∧st.fr 8=.ref 138 [] 1 0 j∧st.fr 7=.i64 k∧st.fr 6=.ref 36 [] 1 0 (2*p.mv.length)∧st.fr 5=.loc 32 [] 0 0∧st.fr 1=.loc 1 [] 0 0∧st.fr 9=.i64 j∧st.fr 12=.i64 (E2.S.length:Nat)∧(c 0=true→st.fr 95=.loc 32 [] 0 0)∧(c 1=true→st.fr 96=.loc 32 [] 0 0)∧(c 2=true→st.fr 97=.loc 32 [] 0 0)∧(c 3=true→st.fr 98=.loc 32 [] 0 4)∧(c 4=true→c 14=false→st.fr 99=.ref 32 [(0,4)] 1 0 E2.S.length)∧(c 5=true→st.fr 100=.loc 32 [] 0 0)∧(c 6=true→st.fr 101=.loc 32 [] 0 0)∧(c 7=true→st.fr 102=.loc 32 [] 0 4)∧(c 8=true→c 14=false→st.fr 103=.ref 32 [(0,4)] 1 0 E2.S.length)∧(c 9=true→st.fr 104=.i64 k)∧(c 10=true→c 14=false→st.fr 105=.loc 32 [(0,4)] k 0)∧(c 11=true→st.fr 106=.i64 (E2.D.getD k 0:Nat))∧(c 12=true→st.fr 107=.i64 ((E2.D.getD k 0+1:Nat):Int))∧(c 13=true→st.fr 108=.ref 108 [] 1 0 1)∧(c 14=true→c 17=false→st.fr 109=.ref 109 [] 1 0 (E2.S.length+1))∧(c 15=true→st.fr 110=.loc 32 [] 0 0)∧(c 16=true→st.fr 111=.loc 32 [] 0 4)∧st.mem 138=some (itr (cst rw1))∧st.mem 1=some (.pt 3 p.sl)∧st.mem 36=some (itr A)∧st.mem 32=some (bif c 17 then (exA p E3.S (cst E3.D) (idxM E3.S) (cst E2.Pa) (byL A E2.J) (nxT Nx)) else (bif c 14 then (.pt 9 (.agg [.i64 p.n,.st p.nm,ssl p.mv,sfr E3.S,.any,.mt true (idxM E3.S),itr (cst E2.Pa),itr (byL A E2.J),nxT Nx])) else (exA p E3.S (cst E2.D) (idxM E3.S) (cst E2.Pa) (byL A E2.J) (nxT Nx))))∧(c 13=true→st.mem 108=some (itr [((E2.D.getD k 0+1:Nat):Int)]))∧(c 14=true→c 17=false→st.mem 109=some (itr (cst E3.D)))) (by decide +kernel) ?_ ?_ ?_
    · (try simp -dsimp -implicitDefEqProofs (disch:=first | omega | (simp only [lenr];try omega)) only [↓amPre,amAll,↓reduceIte,reduceCtorEq,Nat.reduceEqDiff,Nat.reduceBEq,Nat.reduceAdd,Nat.reduceLeDiff,Nat.reduceSub,Nat.reduceMul,Int.reduceToNat,List.size_toArray,tyF,MM,bu0,cbU49,latj,hDk,hlD,hlD3,hE3D,hwr,f56,f55,f54,f8,f7,f6,f5,f1,m138,m1,m36,m32])
      all_goals (try (repeat' (first | apply And.intro | rfl | (intro _;rfl) | (intro _ _;rfl))))
    · refine ⟨?_,?_,?_,?_,?_,?_,?_,?_,?_,?_,?_,?_,?_,?_,?_,?_,?_,?_,trivial⟩
      all_goals rintro c st R hC hJ hR
      all_goals simp only [latm] at hC
      all_goals rcases Bool.eq_false_or_eq_true (c 14) with hx14 | hx14
      all_goals simp only [hC,hx14,latj] at hJ
      all_goals simp -dsimp -implicitDefEqProofs (disch:=first | omega | (simp only [lenr];try omega)) only [↓amPre,amAll,↓reduceIte,reduceCtorEq,Nat.reduceEqDiff,Nat.reduceBEq,Nat.reduceAdd,Nat.reduceLeDiff,Nat.reduceSub,Nat.reduceMul,Int.reduceToNat,List.size_toArray,tyF,MM,bu0,cbU49,hJ,hDk,hlD,hlD3,hE3D,hwr]
      all_goals refine hR _ ?_
      all_goals (simp +contextual -dsimp -implicitDefEqProofs only [amAll,↓reduceIte,reduceCtorEq,Nat.reduceEqDiff,Nat.reduceBEq,Nat.reduceAdd,latj,hC,hJ,hx14,hDk,hlD,hlD3,hE3D,hwr];try (repeat' (first | apply And.intro | rfl | (intro _;rfl) | (intro _ _;rfl))))
    intro c st hall hJ
    simp only [latm] at hall
    simp only [hall,latj] at hJ
    obtain ⟨f56,f55,f54,f8,f7,f6,f5,f1,f9,f12,f95,f96,f97,f98,f100,f101,f102,f104,f106,f107,f108,f110,f111,m138,m1,m36,m32,m108⟩:=hJ
    clear hall
    simp -dsimp -implicitDefEqProofs (disch:=first | omega | (simp only [lenr];try omega)) only [↓amPre,amAll,↓reduceIte,reduceCtorEq,Nat.reduceEqDiff,Nat.reduceBEq,Nat.reduceAdd,Nat.reduceLeDiff,Nat.reduceSub,Nat.reduceMul,Int.reduceToNat,List.size_toArray,tyF,MM,bu0,cbU49,f1,f5,f6,f7,f8,f9,f12,f54,f55,f56,m1,m32,m36,m138,hlP,hE3P,hlP3]
    refine lat_go [[],[],[1],[1,2],[1,2,3],[],[],[5,6],[5,6,7],[5,6,7,8],[1,2,3,4,5,6,7,8,9],[0,1,2,3,4,5,6,7,8,9,10],[0,1,2,3,4,5,6,7,8,9,10,11],[0,1,2,3,4,5,6,7,8,9,10,11,12]] [[11,12,13],[2,3,4,10,11,12,13],[3,4,10,11,12,13],[4,10,11,12,13],[10,11,12,13],[7,8,9,10,11,12,13],[7,8,9,10,11,12,13],[8,9,10,11,12,13],[9,10,11,12,13],[10,11,12,13],[11,12,13],[12,13],[13],[]] [0,1,2,3,4,5,6,7,8,9,10,11,12,13] (fun c st=>st.fr 56=.i64 j∧st.fr 55=.i64 (2*p.mv.length:Nat)∧st.fr 54=ssl nb∧st.fr 8=.ref 138 [] 1 0 j∧st.fr 7=.i64 k∧st.fr 6=.ref 36 [] 1 0 (2*p.mv.length)∧st.fr 5=.loc 32 [] 0 0∧st.fr 1=.loc 1 [] 0 0∧st.fr 9=.i64 j∧st.fr 12=.i64 (E2.S.length:Nat)∧(c 0=true→st.fr 122=.loc 32 [] 0 0)∧(c 1=true→st.fr 123=.loc 32 [] 0 0)∧(c 2=true→st.fr 124=.loc 32 [] 0 0)∧(c 3=true→st.fr 125=.loc 32 [] 0 7)∧(c 4=true→c 10=false→st.fr 126=.ref 32 [(0,7)] 1 0 E2.S.length)∧(c 5=true→st.fr 127=.ref 36 [] 1 0 (2*p.mv.length))∧(c 6=true→st.fr 128=.i64 j)∧(c 7=true→st.fr 129=.loc 36 [] j 0)∧(c 8=true→st.fr 130=.i64 (A.getD j 0))∧(c 9=true→st.fr 131=.ref 131 [] 1 0 1)∧(c 10=true→c 13=false→st.fr 132=.ref 132 [] 1 0 (E2.S.length+1))∧(c 11=true→st.fr 133=.loc 32 [] 0 0)∧(c 12=true→st.fr 134=.loc 32 [] 0 7)∧st.mem 138=some (itr (cst rw1))∧st.mem 1=some (.pt 3 p.sl)∧st.mem 36=some (itr A)∧st.mem 32=some (bif c 13 then (exA p E3.S (cst E3.D) (idxM E3.S) (cst E3.Pa) (byL A E3.J) (nxT Nx)) else (bif c 10 then (.pt 9 (.agg [.i64 p.n,.st p.nm,ssl p.mv,sfr E3.S,itr (cst E3.D),.mt true (idxM E3.S),itr (cst E3.Pa),.any,nxT Nx])) else (exA p E3.S (cst E3.D) (idxM E3.S) (cst E3.Pa) (byL A E2.J) (nxT Nx))))∧(c 9=true→st.mem 131=some (itr [A.getD j 0]))∧(c 10=true→c 13=false→st.mem 132=some (itr (byL A E3.J)))) (by decide +kernel) ?_ ?_ ?_
    · (try simp -dsimp -implicitDefEqProofs (disch:=first | omega | (simp only [lenr];try omega)) only [↓amPre,amAll,↓reduceIte,reduceCtorEq,Nat.reduceEqDiff,Nat.reduceBEq,Nat.reduceAdd,Nat.reduceLeDiff,Nat.reduceSub,Nat.reduceMul,Int.reduceToNat,List.size_toArray,tyF,MM,bu0,cbU49,latj,hAj,hA,hlJ,hlJ3,hE3J,f1,f5,f6,f7,f8,f9,f12,f54,f55,f56,m1,m32,m36,m138])
      all_goals (try (repeat' (first | apply And.intro | rfl | (intro _;rfl) | (intro _ _;rfl))))
    · refine ⟨?_,?_,?_,?_,?_,?_,?_,?_,?_,?_,?_,?_,?_,?_,trivial⟩
      all_goals rintro c st R hC hJ hR
      all_goals simp only [latm] at hC
      all_goals rcases Bool.eq_false_or_eq_true (c 10) with hx10 | hx10
      all_goals simp only [hC,hx10,latj] at hJ
      all_goals simp -dsimp -implicitDefEqProofs (disch:=first | omega | (simp only [lenr];try omega)) only [↓amPre,amAll,↓reduceIte,reduceCtorEq,Nat.reduceEqDiff,Nat.reduceBEq,Nat.reduceAdd,Nat.reduceLeDiff,Nat.reduceSub,Nat.reduceMul,Int.reduceToNat,List.size_toArray,tyF,MM,bu0,cbU49,hJ,hAj,hA,hlJ,hlJ3,hE3J]
      all_goals refine hR _ ?_
      all_goals (simp +contextual -dsimp -implicitDefEqProofs only [amAll,↓reduceIte,reduceCtorEq,Nat.reduceEqDiff,Nat.reduceBEq,Nat.reduceAdd,latj,hC,hJ,hx10,hAj,hA,hlJ,hlJ3,hE3J];try (repeat' (first | apply And.intro | rfl | (intro _;rfl) | (intro _ _;rfl))))
    intro c st hall hJ
    simp only [latm] at hall
    simp only [hall,latj] at hJ
    obtain ⟨f56,f55,f54,f8,f7,f6,f5,f1,f9,f12,f122,f123,f124,f125,f127,f128,f129,f130,f131,f133,f134,m138,m1,m36,m32,m131⟩:=hJ
    clear hall
    simp -dsimp -implicitDefEqProofs (disch:=first | omega | (simp only [lenr];try omega)) only [↓amPre,amAll,↓reduceIte,reduceCtorEq,Nat.reduceEqDiff,Nat.reduceBEq,Nat.reduceAdd,Nat.reduceLeDiff,Nat.reduceSub,Nat.reduceMul,Int.reduceToNat,List.size_toArray,tyF,MM,bu0,cbU49,f1,f5,f6,f7,f8,f9,f12,f54,f55,f56,m1,m32,m36,m138,hlr1]
    exact ⟨c2,by omega,by rw [← hre]⟩
end Ck
end Go.AM
set_option maxRecDepth 8000
namespace Go.AM
namespace Sr
open Go.Proofs
open Ch (PN pt idL cst cst_app cst_len)
open Bf (Ex nxO lsK lsN idxM byL)
open Ck (sfr exT exA nxT stN)
theorem stN_pos {p:Puzz} (hd:puzzOk p):1≤stN p:=by
  have hpn:=Ck.puzz_pn hd
  have h1:=hd.1.1
  have hP:=Ch.newL_part (n:=p.n.toNat) (by omega) (by omega) hpn
  rw [stN,if_pos hd]
  exact (Ch.ord_fac (by omega) (by omega) _ 0 hP.good).1
theorem sR_yes {p:Puzz} (h:1≤stN p∧stN p≤3000):puzzOk p∧sR p=(Bf.out p.mv (letL p.mv.length) p.n.toNat 3000,true):=by
  have hd:puzzOk p:=by
    by_cases c:puzzOk p
    · exact c
    · rw [stN,if_neg c] at h;omega
  have hpn:=Ck.puzz_pn hd
  have h1:=hd.1.1
  have hw:=Bf.outF_whole (n:=p.n.toNat) (by omega) (by omega) hpn
  have hz:stN p=Ch.ordL (Ch.newL p.n.toNat p.mv):=if_pos hd
  have hF:=hw.2 (by omega)
  refine ⟨hd,?_⟩
  rw [sR,if_pos hd,Bf.outF_f 3000 hF,hF];rfl
theorem sR_no {p:Puzz} (h:¬ (1≤stN p∧stN p≤3000)):(sR p).2=false:=by
  by_cases c:puzzOk p
  · have hpn:=Ck.puzz_pn c
    have h1:=c.1.1
    have hw:=Bf.outF_whole (n:=p.n.toNat) (by omega) (by omega) hpn
    have hz:stN p=Ch.ordL (Ch.newL p.n.toNat p.mv):=if_pos c
    have hp:=stN_pos c
    rw [sR,if_pos c]
    cases hb:(Bf.outF p.mv (letL p.mv.length) p.n.toNat 3000).2 with
    | true=>rfl
    | false=>have:=hw.1 hb;omega
  · rw [sR,if_neg c]
theorem sR_ok {p:Puzz} (hd:puzzOk p):Bf.Ok p.n.toNat p.mv (Bf.out p.mv (letL p.mv.length) p.n.toNat 3000):=by
  have h1:=hd.1.1
  exact (Bf.out_ok (by omega) (by omega) (Ck.puzz_pn hd) 3000).1
theorem sR_len {p:Puzz} (hd:puzzOk p):(Bf.out p.mv (letL p.mv.length) p.n.toNat 3000).S.length≤stN p:=by
  have h1:=hd.1.1
  have h2:1≤p.n.toNat:=by omega
  have h3:p.n.toNat≤20:=by omega
  rw [stN,if_pos hd]
  exact Bf.out_le h2 h3 (Ck.puzz_pn hd) 3000
noncomputable def ssR (p:Puzz):Int:=if (sR p).2=true then lsK (sR p).1.S ((sR p).1.S.length - 1) else -1
theorem iSmallSup (p:Puzz) (h:smallP p):SpecAt Tryz.prog 24 [p.sl] (.i64 (ssR p)):=by
  by_cases hs:1≤stN p∧stN p≤3000
  case neg =>
    have q1:=Ck.exploreNo p h hs
    have hz:ssR p = -1:=by rw [ssR,sR_no hs];rfl
    rw [hz]
    refine spec_of_awp (M:=MM) (np:=1) (fz:=true) mixed Tryz.func24 rfl rfl (by decide) rfl (Nat.le_refl _) (by decide +kernel) (.inr ⟨rfl,rfl⟩) trivial ?_
    simp -dsimp -implicitDefEqProofs (disch:=first | omega | (simp only [lenr];try omega)) only [↓amPre,amAll,↓reduceIte,reduceCtorEq,Nat.reduceEqDiff,Nat.reduceBEq,Nat.reduceAdd,Nat.reduceLeDiff,Nat.reduceSub,Nat.reduceMul,Int.reduceToNat,List.size_toArray,tyF,MM,bu0,cbU49]
    refine callP_of (q1) ?_
    simp -dsimp -implicitDefEqProofs (disch:=first | omega | (simp only [lenr];try omega)) only [↓amPre,amAll,↓reduceIte,reduceCtorEq,Nat.reduceEqDiff,Nat.reduceBEq,Nat.reduceAdd,Nat.reduceLeDiff,Nat.reduceSub,Nat.reduceMul,Int.reduceToNat,List.size_toArray,tyF,MM,bu0,cbU49,Ck.nilPt]
    try rfl
  obtain ⟨hd,hR⟩:=sR_yes hs
  have q1:=Ck.exploreYes p h hs
  have hok:=sR_ok hd
  have hz:ssR p=lsK (sR p).1.S ((sR p).1.S.length - 1):=if_pos (by rw [hR])
  rw [hz,hR]
  have hn20:=hd.1.1
  have hle:=sR_len hd
  unfold exT at q1
  generalize nxO p.mv (letL p.mv.length) p.n.toNat 3000=Nx at *
  generalize Bf.out p.mv (letL p.mv.length) p.n.toNat 3000=e at *
  have hz1:=hok.z.1
  have hpl:∀ s∈e.S,s.length≤20:=fun s hs=>by have:=(hok.el s hs).1.1;omega
  have hbd:=Bf.lsK_bd hpl
  refine spec_of_awp (M:=MM) (np:=1) (fz:=true) mixed Tryz.func24 rfl rfl (by decide) rfl (Nat.le_refl _) (by decide +kernel) (.inr ⟨rfl,rfl⟩) trivial ?_
  simp -dsimp -implicitDefEqProofs (disch:=first | omega | (simp only [lenr];try omega)) only [↓amPre,amAll,↓reduceIte,reduceCtorEq,Nat.reduceEqDiff,Nat.reduceBEq,Nat.reduceAdd,Nat.reduceLeDiff,Nat.reduceSub,Nat.reduceMul,Int.reduceToNat,List.size_toArray,tyF,MM,bu0,cbU49]
  refine callP_of (q1) ?_
  simp -dsimp -implicitDefEqProofs (disch:=first | omega | (simp only [lenr];try omega)) only [↓amPre,amAll,↓reduceIte,reduceCtorEq,Nat.reduceEqDiff,Nat.reduceBEq,Nat.reduceAdd,Nat.reduceLeDiff,Nat.reduceSub,Nat.reduceMul,Int.reduceToNat,List.size_toArray,tyF,MM,bu0,cbU49]
  refine awp_loop (fun i st=>i≤(e.S.length - 1)∧st.fr 22=.i64 i∧st.fr 21=.i64 (e.S.length - 1:Nat)∧st.fr 20=.ref 11 [(0,0),(0,3)] 1 1 (e.S.length - 1)∧st.fr 5=.i64 (lsK e.S i)∧st.mem 11=some (.tup [exA p e.S (cst e.D) (idxM e.S) (cst e.Pa) (byL (letL p.mv.length) e.J) (nxT Nx),.bl true])) ((e.S.length - 1)) ?_ ?_
  · simp -dsimp -implicitDefEqProofs (disch:=first | omega | (simp only [lenr];try omega)) only [↓amPre,amAll,↓reduceIte,reduceCtorEq,Nat.reduceEqDiff,Nat.reduceBEq,Nat.reduceAdd,Nat.reduceLeDiff,Nat.reduceSub,Nat.reduceMul,Int.reduceToNat,List.size_toArray,tyF,MM,bu0,cbU49]
    exact ⟨Nat.zero_le _,rfl,rfl⟩
  rintro i st _ ⟨hi,f22,f21,f20,f5,m11⟩
  by_cases c1:i<e.S.length - 1
  · have hb:=hbd i (by omega)
    have hb1:=hbd (i+1) (by omega)
    have hsm:=mem_getD e.S (i+1) default (by omega)
    have hpn:=(hok.el _ hsm).1
    have q2:=iSupport (e.S.getD (i+1) default) hpn.2
    have q3:=lenI (movL (e.S.getD (i+1) default) (e.S.getD (i+1) default).length)
    have hln:lsN e.S (i+1)=((movL (e.S.getD (i+1) default) (e.S.getD (i+1) default).length).length:Int):=rfl
    have hst:lsK e.S (i+1)=if lsK e.S i<0∨lsN e.S (i+1)<lsK e.S i then lsN e.S (i+1) else lsK e.S i:=rfl
    have hg:(e.S.map fun x=>isl x).getD (i+1) .any=isl (e.S.getD (i+1) default):=by rw [getD_eq _ _ _ (by simp;omega),List.getElem_map,getD_eq _ _ _ (by omega)]
    have hg2:(e.S.map fun x=>isl x).getD (1+i) .any=isl (e.S.getD (i+1) default):=by rw [Nat.add_comm];exact hg
    rw [← hln] at q3
    generalize hL:lsK e.S (i+1)=L1 at *
    generalize lsK e.S i=L0 at *
    generalize lsN e.S (i+1)=n1 at *
    simp -dsimp -implicitDefEqProofs (disch:=first | omega | (simp only [lenr];try omega)) only [↓amPre,amAll,↓reduceIte,reduceCtorEq,Nat.reduceEqDiff,Nat.reduceBEq,Nat.reduceAdd,Nat.reduceLeDiff,Nat.reduceSub,Nat.reduceMul,Int.reduceToNat,List.size_toArray,tyF,MM,bu0,cbU49,f22,f21,f20,f5,m11,c1,hg,hg2]
    refine callP_of (q2) ?_
    simp -dsimp -implicitDefEqProofs (disch:=first | omega | (simp only [lenr];try omega)) only [↓amPre,amAll,↓reduceIte,reduceCtorEq,Nat.reduceEqDiff,Nat.reduceBEq,Nat.reduceAdd,Nat.reduceLeDiff,Nat.reduceSub,Nat.reduceMul,Int.reduceToNat,List.size_toArray,tyF,MM,bu0,cbU49,f22,f21,f20,f5,m11]
    refine callP_of (q3) ?_
    by_cases d1:L0<0
    · rw [if_pos (.inl d1)] at hst
      rw [hst]
      simp -dsimp -implicitDefEqProofs (disch:=first | omega | (simp only [lenr];try omega)) only [↓amPre,amAll,↓reduceIte,reduceCtorEq,Nat.reduceEqDiff,Nat.reduceBEq,Nat.reduceAdd,Nat.reduceLeDiff,Nat.reduceSub,Nat.reduceMul,Int.reduceToNat,List.size_toArray,tyF,MM,bu0,cbU49,f22,f21,f20,f5,m11,lt_true d1]
      exact ⟨c1,by omega⟩
    · by_cases d2:n1<L0
      · rw [if_pos (.inr d2)] at hst
        rw [hst]
        simp -dsimp -implicitDefEqProofs (disch:=first | omega | (simp only [lenr];try omega)) only [↓amPre,amAll,↓reduceIte,reduceCtorEq,Nat.reduceEqDiff,Nat.reduceBEq,Nat.reduceAdd,Nat.reduceLeDiff,Nat.reduceSub,Nat.reduceMul,Int.reduceToNat,List.size_toArray,tyF,MM,bu0,cbU49,f22,f21,f20,f5,m11,lt_false (Int.not_lt.1 d1),lt_true d2]
        exact ⟨c1,by omega⟩
      · rw [if_neg (fun q=>q.elim d1 d2)] at hst
        rw [hst]
        simp -dsimp -implicitDefEqProofs (disch:=first | omega | (simp only [lenr];try omega)) only [↓amPre,amAll,↓reduceIte,reduceCtorEq,Nat.reduceEqDiff,Nat.reduceBEq,Nat.reduceAdd,Nat.reduceLeDiff,Nat.reduceSub,Nat.reduceMul,Int.reduceToNat,List.size_toArray,tyF,MM,bu0,cbU49,f22,f21,f20,f5,m11,lt_false (Int.not_lt.1 d1),lt_false (Int.not_lt.1 d2)]
        exact ⟨c1,by omega⟩
  · have hie:i=e.S.length - 1:=by omega
    subst hie
    simp -dsimp -implicitDefEqProofs (disch:=first | omega | (simp only [lenr];try omega)) only [↓amPre,amAll,↓reduceIte,reduceCtorEq,Nat.reduceEqDiff,Nat.reduceBEq,Nat.reduceAdd,Nat.reduceLeDiff,Nat.reduceSub,Nat.reduceMul,Int.reduceToNat,List.size_toArray,tyF,MM,bu0,cbU49,f22,f21,f20,f5,m11]
theorem fE_fz (e:Ex) (w b:Bool):(AV.tup [fE e w,.bl b]).fz=.tup [fS e.S (cst e.D) (Bf.srtS e.S) w,.bl b]:=by
  have h1:∀ L:List (List Int),AV.fzL (L.map fun x=>isl x)=L.map fun x=>isl x:=fun L=>by rw [fzL_map,islfz]
  have e1:∀ X:List Int,AV.fzL (X.map AV.i64)=X.map AV.i64:=fun X=>by rw [fzL_map,ints_fz]
  simp only [AV.fz,AV.fzL,h1,e1]
theorem searchC (p:Puzz) (h:smallP p):SpecAt Tryz.prog 28 [p.sl] (.tup [fS (sR p).1.S (cst (sR p).1.D) (Bf.srtS (sR p).1.S) (sR p).2,.bl (sR p).2]):=spec_frz (searchStatesI p h) rfl (fE_fz _ _ _)
end Sr
end Go.AM
set_option maxRecDepth 8000
namespace Go.AM
namespace Sr
open Go.Proofs
open Ch (PN pt idL cst cst_app cst_len)
open Bf (Ex nxO idxM byL dOf)
open Ck (sfr exT exA nxT stN)
abbrev exC (p:Puzz) (e:Ex) (x:AV) (Nx:List (List Nat)):AV:=.ep [.i64 p.n,.st p.nm,ssl p.mv,ssl e.S,isl (cst e.D),x,isl (cst e.Pa),isl (byL (letL p.mv.length) e.J),.sl 1 (Nx.map fun r=>isl (cst r))]
theorem depthOfS (n:Nat) (e:Ex) (w:Bool) (s:List Int) (hZ:Bf.SrtOk n e.S (Bf.srtS e.S)) (hd:e.S.Nodup) (hn:n≤20) (hs:s.length=n) (hl:e.S.length≤3000) (hD:e.D.length=e.S.length) :
    SpecAt Tryz.prog 95 [fS e.S (cst e.D) (Bf.srtS e.S) w,isl s] (.i64 (if s∈e.S then (dOf e s:Int) else -1)):=by
  have q:=searchIndex n e.S (cst e.D) (Bf.srtS e.S) w s hZ hd hn hs hl
  by_cases c:s∈e.S
  · have hix:ixK e.S s=((e.S.idxOf s:Nat):Int):=by unfold ixK;rw [if_pos c]
    have hlt:e.S.idxOf s<e.D.length:=by rw [hD];exact List.idxOf_lt_length_iff.2 c
    have hg:((cst e.D).map AV.i64).getD (e.S.idxOf s) .any=.i64 (dOf e s:Int):=by rw [getD_eq _ _ _ (by rw [List.length_map,cst_len];exact hlt),List.getElem_map,← getD_eq _ _ 0,Ch.cst_get hlt];rfl
    have hl2:(cst e.D).length=e.D.length:=cst_len _
    rw [hix] at q
    rw [if_pos c]
    generalize e.S.idxOf s=i at *
    generalize dOf e s=d at *
    refine spec_of_awp (M:=MM) (np:=2) (fz:=true) mixed Tryz.func95 rfl rfl (by decide) rfl (Nat.le_refl _) (by decide +kernel) (.inr ⟨rfl,rfl⟩) trivial ?_
    simp -dsimp -implicitDefEqProofs (disch:=first | omega | (simp only [lenr];try omega)) only [↓amPre,amAll,↓reduceIte,reduceCtorEq,Nat.reduceEqDiff,Nat.reduceBEq,Nat.reduceAdd,Nat.reduceLeDiff,Nat.reduceSub,Nat.reduceMul,Int.reduceToNat,List.size_toArray,tyF,MM,bu0,cbU49]
    refine callP_of (q) ?_
    simp -dsimp -implicitDefEqProofs (disch:=first | omega | (simp only [lenr];try omega)) only [↓amPre,amAll,↓reduceIte,reduceCtorEq,Nat.reduceEqDiff,Nat.reduceBEq,Nat.reduceAdd,Nat.reduceLeDiff,Nat.reduceSub,Nat.reduceMul,Int.reduceToNat,List.size_toArray,tyF,MM,bu0,cbU49,hl2,hg]
  · have hix:ixK e.S s = -1:=by unfold ixK;rw [if_neg c]
    rw [hix] at q
    rw [if_neg c]
    refine spec_of_awp (M:=MM) (np:=2) (fz:=true) mixed Tryz.func95 rfl rfl (by decide) rfl (Nat.le_refl _) (by decide +kernel) (.inr ⟨rfl,rfl⟩) trivial ?_
    simp -dsimp -implicitDefEqProofs (disch:=first | omega | (simp only [lenr];try omega)) only [↓amPre,amAll,↓reduceIte,reduceCtorEq,Nat.reduceEqDiff,Nat.reduceBEq,Nat.reduceAdd,Nat.reduceLeDiff,Nat.reduceSub,Nat.reduceMul,Int.reduceToNat,List.size_toArray,tyF,MM,bu0,cbU49]
    refine callP_of (q) ?_
    simp -dsimp -implicitDefEqProofs (disch:=first | omega | (simp only [lenr];try omega)) only [↓amPre,amAll,↓reduceIte,reduceCtorEq,Nat.reduceEqDiff,Nat.reduceBEq,Nat.reduceAdd,Nat.reduceLeDiff,Nat.reduceSub,Nat.reduceMul,Int.reduceToNat,List.size_toArray,tyF,MM,bu0,cbU49]
end Sr
end Go.AM
namespace Go.AM
namespace Bf
open Ch (PN pt idL Gen cst cst_app cst_len)
/-! reversal by exchanges -/
def rvK (l:List Int) (k:Nat):List Int:=(List.range l.length).map fun i=>if i<k∨l.length - k≤i then l.getD (l.length - 1 - i) 0 else l.getD i 0
theorem rvK_len (l:List Int) (k:Nat):(rvK l k).length=l.length:=by simp [rvK]
theorem rvK_get (l:List Int) (k:Nat) {i:Nat} (h:i<l.length):(rvK l k).getD i 0=if i<k∨l.length - k≤i then l.getD (l.length - 1 - i) 0 else l.getD i 0:=by
  unfold rvK
  rw [getD_eq _ _ _ (by simpa using h),List.getElem_map,List.getElem_range]
theorem rvK_zero (l:List Int):rvK l 0=l:=by
  apply Ch.pl_ext (by rw [rvK_len])
  intro i hi
  rw [rvK_len] at hi
  rw [rvK_get l 0 hi,if_neg (by omega)]
theorem rvK_step (l:List Int) {k:Nat} (h:2*k+1<l.length):((rvK l k).set k (l.getD (l.length - 1 - k) 0)).set (l.length - 1 - k) (l.getD k 0)=rvK l (k+1):=by
  apply Ch.pl_ext (by simp [rvK_len])
  intro i hi
  have hi:i<l.length:=by simpa [rvK_len] using hi
  rw [rvK_get l (k+1) hi]
  have g1:∀ (x:List Int) (a:Nat) (v:Int) (j:Nat),a<x.length→(x.set a v).getD j 0=if j=a then v else x.getD j 0:=fun x a v j ha=>by
    by_cases c:j=a
    · subst c;simp [List.getD,ha]
    · rw [if_neg c];simp [List.getD,List.getElem?_set,Ne.symm c]
  rw [g1 _ _ _ _ (by simp [rvK_len];omega),g1 _ _ _ _ (by rw [rvK_len];omega),rvK_get l k hi]
  by_cases c1:i=l.length - 1 - k
  · rw [if_pos c1,if_pos (by omega)]
    congr 1;omega
  · rw [if_neg c1]
    by_cases c2:i=k
    · rw [if_pos c2,if_pos (by omega),c2]
    · rw [if_neg c2]
      by_cases c3:i<k∨l.length - k≤i
      · rw [if_pos c3,if_pos (by omega)]
      · rw [if_neg c3,if_neg (by omega)]
theorem rvK_all (l:List Int) {k:Nat} (h:l.length≤2*k+1):rvK l k=l.reverse:=by
  apply Ch.pl_ext (by simp [rvK_len])
  intro i hi
  have hi:i<l.length:=by simpa [rvK_len] using hi
  have hr:l.reverse.getD i 0=l.getD (l.length - 1 - i) 0:=by
    rw [getD_eq _ _ _ (by simpa using hi),List.getElem_reverse,getD_eq _ _ _ (by omega)]
  rw [rvK_get l k hi,hr]
  by_cases c:i<k∨l.length - k≤i
  · rw [if_pos c]
  · rw [if_neg c]
    congr 1;omega
theorem Tm.d_le {mv:List (List Int)} {A:List Int} {e:Ex} {T:Nat} (t:Tm mv A e T):∀ N i,i≤N→i<e.S.length→e.D.getD i 0≤i
  | N,0,_,_=>by rw [t.d0];exact Nat.le_refl _
  | 0,i+1,h,_=>by omega
  | N+1,i+1,h,hi=>by
    obtain ⟨a1,a2,a3,a4,a5⟩:=t.old (i+1) (by omega) hi
    have:=t.d_le N (e.Pa.getD (i+1) 0) (by omega) (by omega)
    omega
/-! a word's letters -/
def ltr (A:List Int) (w:List Nat):List Int:=w.map fun j=>A.getD j 0
theorem byL_get (A:List Int) {J:List Nat} {i:Nat} (h0:0<i) (h:i<J.length):(byL A J).getD i 0=A.getD (J.getD i 0) 0:=by
  cases J with
  | nil=>simp at h
  | cons a r =>
    obtain ⟨m,rfl⟩:∃ m,i=m+1:=⟨i - 1,by omega⟩
    have hm:m<r.length:=by simpa using h
    show (0 :: r.map _).getD (m+1) 0=_
    rw [List.getD_cons_succ,List.getD_cons_succ,getD_eq _ _ _ (by simpa using hm),List.getElem_map,getD_eq _ _ _ hm]
end Bf
end Go.AM
set_option maxRecDepth 8000
namespace Go.AM
namespace Wo
open Go.Proofs
open Ch (PN pt idL cst cst_app cst_len)
open Bf (Ex nxO idxM byL dOf rvK ltr wdE dw)
open Ck (sfr exT exA nxT stN)
open Sr (exC fS)
def MM:FuncId→List Bool:=fun f=>if f=83 then [true] else []
theorem reverseI (l:List Int) (hl:l.length≤1099511627776):SpecX Tryz.prog 83 [itr l] [some (itr l.reverse)] (.tup []):=by
  refine spec_of_awp_any (M:=MM) (np:=1) (X:=[3]) (fz:=false) mixed Tryz.func83 rfl rfl (by decide) rfl (Nat.le_refl _) (by decide +kernel) (.inl rfl) (by simp only [sigsOk_some,sigsOk_nil,sig_tr,List.length_map,List.length_reverse,and_self]) ?_
  by_cases h0:l.length=0
  · have:l=[]:=List.length_eq_zero_iff.1 h0
    subst this
    simp -dsimp -implicitDefEqProofs (disch:=first | omega | (simp only [lenr];try omega)) only [↓amPre,amAll,↓reduceIte,reduceCtorEq,Nat.reduceEqDiff,Nat.reduceBEq,Nat.reduceAdd,Nat.reduceLeDiff,Nat.reduceSub,Nat.reduceMul,Int.reduceToNat,List.size_toArray,tyF,MM,bu0,cbU49]
    refine awp_loop (fun k st=>k≤0∧st.fr 2=.i64 0∧st.fr 3=.i64 (-1)∧st.fr 0=.ref 0 [] 1 0 0∧st.mem 0=some (itr [])) (0) ?_ ?_
    · simp -dsimp -implicitDefEqProofs (disch:=first | omega | (simp only [lenr];try omega)) only [↓amPre,amAll,↓reduceIte,reduceCtorEq,Nat.reduceEqDiff,Nat.reduceBEq,Nat.reduceAdd,Nat.reduceLeDiff,Nat.reduceSub,Nat.reduceMul,Int.reduceToNat,List.size_toArray,tyF,MM,bu0,cbU49]
      rfl
    rintro k st _ ⟨hk,f2,f3,f0,m0⟩
    simp -dsimp -implicitDefEqProofs (disch:=first | omega | (simp only [lenr];try omega)) only [↓amPre,amAll,↓reduceIte,reduceCtorEq,Nat.reduceEqDiff,Nat.reduceBEq,Nat.reduceAdd,Nat.reduceLeDiff,Nat.reduceSub,Nat.reduceMul,Int.reduceToNat,List.size_toArray,tyF,MM,bu0,cbU49,f2,f3,f0,m0]
    rfl
  have hw:IntKind.i64.wrap ((l.length:Int) - 1)=((l.length - 1:Nat):Int):=by rw [wrap64_id (by omega)];omega
  simp -dsimp -implicitDefEqProofs (disch:=first | omega | (simp only [lenr];try omega)) only [↓amPre,amAll,↓reduceIte,reduceCtorEq,Nat.reduceEqDiff,Nat.reduceBEq,Nat.reduceAdd,Nat.reduceLeDiff,Nat.reduceSub,Nat.reduceMul,Int.reduceToNat,List.size_toArray,tyF,MM,bu0,cbU49,hw]
  refine awp_loop (fun k st=>k≤l.length∧st.fr 2=.i64 k∧st.fr 3=.i64 ((l.length:Int) - 1 - k)∧st.fr 0=.ref 0 [] 1 0 l.length∧st.mem 0=some (itr (rvK l k))∧(2*k≤l.length)) (l.length) ?_ ?_
  · simp -dsimp -implicitDefEqProofs (disch:=first | omega | (simp only [lenr];try omega)) only [↓amPre,amAll,↓reduceIte,reduceCtorEq,Nat.reduceEqDiff,Nat.reduceBEq,Nat.reduceAdd,Nat.reduceLeDiff,Nat.reduceSub,Nat.reduceMul,Int.reduceToNat,List.size_toArray,tyF,MM,bu0,cbU49,Bf.rvK_zero]
    exact ⟨Nat.zero_le _,rfl,i64c (by omega),Nat.zero_le _⟩
  rintro k st _ ⟨hk,f2,f3,f0,m0,ek⟩
  have hrl:=Bf.rvK_len l k
  by_cases c1:(k:Int)<(l.length:Int) - 1 - k
  · have hst:=Bf.rvK_step l (k:=k) (by omega)
    obtain ⟨m,hm⟩:∃ m:Nat,m=l.length - 1 - k:=⟨_,rfl⟩
    have hmI:(l.length:Int) - 1 - k=(m:Int):=by omega
    have g1:=Bf.rvK_get l k (i:=m) (by omega)
    have g2:=Bf.rvK_get l k (i:=k) (by omega)
    rw [if_neg (by omega)] at g1 g2
    rw [← hm] at hst
    rw [hmI] at f3 c1
    simp -dsimp -implicitDefEqProofs (disch:=first | omega | (simp only [lenr];try omega)) only [↓amPre,amAll,↓reduceIte,reduceCtorEq,Nat.reduceEqDiff,Nat.reduceBEq,Nat.reduceAdd,Nat.reduceLeDiff,Nat.reduceSub,Nat.reduceMul,Int.reduceToNat,List.size_toArray,tyF,MM,bu0,cbU49,f2,f3,f0,m0,lt_true c1]
    refine lat_go [[],[],[],[],[],[],[4,5],[4,5,6],[],[],[8,9],[8,9,10],[0,1,4,5,6,7,8,9,10,11],[0,1,4,5,6,7,8,9,10,11,12],[0,1,2,3,4,5,6,7,8,9,10,11,12,13],[0,1,2,3,4,5,6,7,8,9,10,11,12,13,14]] [[12,13,14,15],[12,13,14,15],[14,15],[14,15],[6,7,12,13,14,15],[6,7,12,13,14,15],[7,12,13,14,15],[12,13,14,15],[10,11,12,13,14,15],[10,11,12,13,14,15],[11,12,13,14,15],[12,13,14,15],[13,14,15],[14,15],[15],[]] [0,1,2,3,4,5,6,7,8,9,10,11,12,13,14,15] (fun c st=>st.fr 0=.ref 0 [] 1 0 l.length∧st.fr 2=.i64 k∧st.fr 3=.i64 m∧(c 0=true→st.fr 14=.ref 0 [] 1 0 l.length)∧(c 1=true→st.fr 15=.i64 k)∧(c 2=true→st.fr 16=.ref 0 [] 1 0 l.length)∧(c 3=true→st.fr 17=.i64 m)∧(c 4=true→st.fr 18=.ref 0 [] 1 0 l.length)∧(c 5=true→st.fr 19=.i64 m)∧(c 6=true→st.fr 20=.loc 0 [] m 0)∧(c 7=true→st.fr 21=.i64 (l.getD m 0))∧(c 8=true→st.fr 22=.ref 0 [] 1 0 l.length)∧(c 9=true→st.fr 23=.i64 k)∧(c 10=true→st.fr 24=.loc 0 [] k 0)∧(c 11=true→st.fr 25=.i64 (l.getD k 0))∧(c 12=true→st.fr 26=.loc 0 [] k 0)∧(c 14=true→st.fr 27=.loc 0 [] m 0)∧st.mem 0=some (bif c 15 then (itr (rvK l (k+1))) else (bif c 13 then (itr ((rvK l k).set k (l.getD m 0))) else (itr (rvK l k))))) (by decide +kernel) ?_ ?_ ?_
    · (try simp -dsimp -implicitDefEqProofs (disch:=first | omega | (simp only [lenr];try omega)) only [↓amPre,amAll,↓reduceIte,reduceCtorEq,Nat.reduceEqDiff,Nat.reduceBEq,Nat.reduceAdd,Nat.reduceLeDiff,Nat.reduceSub,Nat.reduceMul,Int.reduceToNat,List.size_toArray,tyF,MM,bu0,cbU49,latj,hrl,g1,g2,hst,f2,f3,f0,m0])
      all_goals (try (repeat' (first | apply And.intro | rfl | (intro _;rfl) | (intro _ _;rfl))))
    · refine ⟨?_,?_,?_,?_,?_,?_,?_,?_,?_,?_,?_,?_,?_,?_,?_,?_,trivial⟩
      all_goals rintro c st R hC hJ hR
      all_goals simp only [latm] at hC
      all_goals simp only [hC,latj] at hJ
      all_goals simp -dsimp -implicitDefEqProofs (disch:=first | omega | (simp only [lenr];try omega)) only [↓amPre,amAll,↓reduceIte,reduceCtorEq,Nat.reduceEqDiff,Nat.reduceBEq,Nat.reduceAdd,Nat.reduceLeDiff,Nat.reduceSub,Nat.reduceMul,Int.reduceToNat,List.size_toArray,tyF,MM,bu0,cbU49,hJ,hrl,g1,g2,hst]
      all_goals refine hR _ ?_
      all_goals (simp +contextual -dsimp -implicitDefEqProofs only [amAll,↓reduceIte,reduceCtorEq,Nat.reduceEqDiff,Nat.reduceBEq,Nat.reduceAdd,latj,hC,hJ,hrl,g1,g2,hst];try (repeat' (first | apply And.intro | rfl | (intro _;rfl) | (intro _ _;rfl))))
    intro c st hall hJ
    simp only [latm] at hall
    simp only [hall,latj] at hJ
    obtain ⟨f0,f2,f3,f14,f15,f16,f17,f18,f19,f20,f21,f22,f23,f24,f25,f26,f27,m0⟩:=hJ
    clear hall
    simp -dsimp -implicitDefEqProofs (disch:=first | omega | (simp only [lenr];try omega)) only [↓amPre,amAll,↓reduceIte,reduceCtorEq,Nat.reduceEqDiff,Nat.reduceBEq,Nat.reduceAdd,Nat.reduceLeDiff,Nat.reduceSub,Nat.reduceMul,Int.reduceToNat,List.size_toArray,tyF,MM,bu0,cbU49,f0,f2,f3,m0]
    exact ⟨by omega,by omega,i64c (by omega),by omega⟩
  · have hre:=Bf.rvK_all l (k:=k) (by omega)
    simp -dsimp -implicitDefEqProofs (disch:=first | omega | (simp only [lenr];try omega)) only [↓amPre,amAll,↓reduceIte,reduceCtorEq,Nat.reduceEqDiff,Nat.reduceBEq,Nat.reduceAdd,Nat.reduceLeDiff,Nat.reduceSub,Nat.reduceMul,Int.reduceToNat,List.size_toArray,tyF,MM,bu0,cbU49,f2,f3,f0,m0,lt_false (Int.not_lt.1 c1),hre]
theorem wordI (p:Puzz) (e:Ex) (x:AV) (Nx:List (List Nat)) {T:Nat} (t:Bf.Tm p.mv (letL p.mv.length) e T) (i:Nat) (hi:i<e.S.length) (hok:Bf.Ok p.n.toNat p.mv e) (hl:e.S.length≤3000) :
    SpecAt Tryz.prog 41 [exC p e x Nx,.i64 i] (itr (ltr (letL p.mv.length) (wdE e i))):=by
  have hlP:(cst e.Pa).length=e.S.length:=by rw [cst_len,hok.lP]
  have hlJ:(byL (letL p.mv.length) e.J).length=e.S.length:=by rw [Bf.byL_len,hok.lJ]
  have hwl:=t.wd_len hok.z.1 _ i (Nat.le_refl _) hi
  refine spec_of_awp (M:=MM) (np:=2) (fz:=false) mixed Tryz.func41 rfl rfl (by decide) rfl (Nat.le_refl _) (by decide +kernel) (.inl rfl) (by first | trivial | simp only [sigsOk_nil,sigsOk_some,sigsOk_none,sig_tr,sig_pt,sig_mt,sig_agg,List.map_cons,List.map_nil,sig1_tr,sig1_pt,sig1_v,and_self,true_and,List.length_map,List.length_set]) ?_
  simp -dsimp -implicitDefEqProofs (disch:=first | omega | (simp only [lenr];try omega)) only [↓amPre,amAll,↓reduceIte,reduceCtorEq,Nat.reduceEqDiff,Nat.reduceBEq,Nat.reduceAdd,Nat.reduceLeDiff,Nat.reduceSub,Nat.reduceMul,Int.reduceToNat,List.size_toArray,tyF,MM,bu0,cbU49]
  refine awp_loopN 5 24 1 (by simp -dsimp -implicitDefEqProofs (disch:=first | omega | (simp only [lenr];try omega)) only [↓amPre,amAll,↓reduceIte,reduceCtorEq,Nat.reduceEqDiff,Nat.reduceBEq,Nat.reduceAdd,Nat.reduceLeDiff,Nat.reduceSub,Nat.reduceMul,Int.reduceToNat,List.size_toArray,tyF,MM,bu0,cbU49]) (by decide) (fun k st=>k≤(wdE e i).length∧st.fr 0=exC p e x Nx∧st.fr 5=.ref 24 [] 1 0 k∧(∃ (r:Nat) (suf:List Nat),st.fr 1=.i64 r∧st.mem 24=some (itr (ltr (letL p.mv.length) suf.reverse))∧wdE e i=wdE e r++suf∧suf.length=k∧r<e.S.length)) ((wdE e i).length) ?_ ?_
  · simp -dsimp -implicitDefEqProofs (disch:=first | omega | (simp only [lenr];try omega)) only [↓amPre,amAll,↓reduceIte,reduceCtorEq,Nat.reduceEqDiff,Nat.reduceBEq,Nat.reduceAdd,Nat.reduceLeDiff,Nat.reduceSub,Nat.reduceMul,Int.reduceToNat,List.size_toArray,tyF,MM,bu0,cbU49,nilAs_eq]
    exact ⟨Nat.zero_le _,i,[],rfl,rfl,by simp,rfl,hi⟩
  rintro k st _ ⟨hk,f0,f5,ek⟩
  obtain ⟨r,suf,f1,m24,g1,g2,g3⟩:=ek
  have hll:(ltr (letL p.mv.length) suf.reverse).length=k:=by simp [ltr,g2]
  by_cases c1:0<r
  · have hs:=t.wd_s c1 g3
    obtain ⟨a1,a2,_⟩:=t.old r c1 g3
    have hgJ:((byL (letL p.mv.length) e.J).map AV.i64).getD r .any=.i64 ((letL p.mv.length).getD (e.J.getD r 0) 0):=by rw [getD_eq _ _ _ (by rw [List.length_map,hlJ];exact g3),List.getElem_map,← getD_eq _ _ 0,Bf.byL_get _ c1 (by rw [hok.lJ];exact g3)]
    have hgP:((cst e.Pa).map AV.i64).getD r .any=.i64 (e.Pa.getD r 0:Nat):=by rw [getD_eq _ _ _ (by rw [List.length_map,hlP];exact g3),List.getElem_map,← getD_eq _ _ 0,Ch.cst_get (by rw [hok.lP];exact g3)]
    have hkl:k<(wdE e i).length:=by rw [g1,hs,List.length_append,List.length_append,g2];simp
    have c1':(0:Int)<(r:Int):=by omega
    have hkb:k≤3000:=by have:=t.d_le _ i (Nat.le_refl _) hi;omega
    simp -dsimp -implicitDefEqProofs (disch:=first | omega | (simp only [lenr];try omega)) only [↓amPre,amAll,↓reduceIte,reduceCtorEq,Nat.reduceEqDiff,Nat.reduceBEq,Nat.reduceAdd,Nat.reduceLeDiff,Nat.reduceSub,Nat.reduceMul,Int.reduceToNat,List.size_toArray,tyF,MM,bu0,cbU49,f0,f5,f1,m24,lt_true c1',hgJ,hgP,hlJ,hlP,hll]
    exact ⟨hkl,by omega,e.Pa.getD r 0,e.J.getD r 0 :: suf,rfl,by simp [ltr],by rw [g1,hs];simp,by simp [g2],by omega⟩
  · have hr:r=0:=by omega
    subst hr
    rw [t.wd_0 hok.z.1,List.nil_append] at g1
    have q:=reverseI (ltr (letL p.mv.length) suf.reverse) (by have:=t.d_le _ i (Nat.le_refl _) hi;omega)
    have hrr:(ltr (letL p.mv.length) suf.reverse).reverse=ltr (letL p.mv.length) (wdE e i):=by rw [g1];simp [ltr]
    rw [hrr] at q
    simp -dsimp -implicitDefEqProofs (disch:=first | omega | (simp only [lenr];try omega)) only [↓amPre,amAll,↓reduceIte,reduceCtorEq,Nat.reduceEqDiff,Nat.reduceBEq,Nat.reduceAdd,Nat.reduceLeDiff,Nat.reduceSub,Nat.reduceMul,Int.reduceToNat,List.size_toArray,tyF,MM,bu0,cbU49,f0,f5,f1,m24,hll]
    have hll2:(ltr (letL p.mv.length) (wdE e i)).length=k:=by rw [g1];simp [ltr,g2]
    refine callX_of (q) ?_
    simp -dsimp -implicitDefEqProofs (disch:=first | omega | (simp only [lenr];try omega)) only [↓amPre,amAll,↓reduceIte,reduceCtorEq,Nat.reduceEqDiff,Nat.reduceBEq,Nat.reduceAdd,Nat.reduceLeDiff,Nat.reduceSub,Nat.reduceMul,Int.reduceToNat,List.size_toArray,tyF,MM,bu0,cbU49,f0,f5,hll2]
end Wo
end Go.AM
namespace Go.AM
namespace Bf
open Ch (PN pt idL)
def fmT (A:List Int) (e:Ex) (i:Nat):Twist:=⟨ltr A (wdE e i),movL (e.S.getD i default) (e.S.getD i default).length⟩
def fmC (e:Ex) (md ms:Int) (i:Nat):Prop:=(e.D.getD i 0:Int)≤md∧lsN e.S i≤ms
instance (e:Ex) (md ms:Int) (i:Nat):Decidable (fmC e md ms i):=by unfold fmC;infer_instance
def fmA (A:List Int) (e:Ex) (md ms:Int):Nat→List Twist
  | 0=>[]
  | i+1=>if i≠0∧fmC e md ms i then fmA A e md ms i++[fmT A e i] else fmA A e md ms i
section
variable {A:List Int} {e:Ex} {md ms:Int}
theorem fmA_len:∀ i,(fmA A e md ms i).length≤i
  | 0=>Nat.le_refl _
  | i+1=>by
    have:=fmA_len i
    rw [fmA];split
    · simp;omega
    · omega
def fmR (A:List Int) (e:Ex) (w:Bool) (md ms:Int):List Twist×Bool :=
  if w=true∧(within md 0 30=true∧within ms 0 20=true)∧(fmA A e md ms e.S.length).length≤200 then (fmA A e md ms e.S.length,true) else ([],false)
end
end Bf
end Go.AM
set_option maxRecDepth 8000
namespace Go.AM
namespace Wo
open Go.Proofs
open Ch (PN pt idL cst cst_app cst_len)
open Bf (Ex nxO idxM byL dOf rvK ltr wdE dw Fin srtS fmT fmC fmA fmR lsN movL_len)
open Ck (sfr exA exT nxT stN)
open Sr (exC fS depthOfS sR sR_yes sR_no sR_ok sR_len)
theorem isDepthI (x:Int):SpecAt Tryz.prog 45 [.i64 x] (.bl (within x 0 30)):=by
  refine spec_of_awp (M:=MM) (np:=1) (fz:=true) mixed Tryz.func45 rfl rfl (by decide) rfl (Nat.le_refl _) (by decide +kernel) (.inr ⟨rfl,rfl⟩) trivial ?_
  simp -dsimp -implicitDefEqProofs (disch:=first | omega | (simp only [lenr];try omega)) only [↓amPre,amAll,↓reduceIte,reduceCtorEq,Nat.reduceEqDiff,Nat.reduceBEq,Nat.reduceAdd,Nat.reduceLeDiff,Nat.reduceSub,Nat.reduceMul,Int.reduceToNat,List.size_toArray,tyF,MM,bu0,cbU49]
  refine callP_of (iwithin _ _ _) ?_
  simp -dsimp -implicitDefEqProofs (disch:=first | omega | (simp only [lenr];try omega)) only [↓amPre,amAll,↓reduceIte,reduceCtorEq,Nat.reduceEqDiff,Nat.reduceBEq,Nat.reduceAdd,Nat.reduceLeDiff,Nat.reduceSub,Nat.reduceMul,Int.reduceToNat,List.size_toArray,tyF,MM,bu0,cbU49]
theorem fz1 (l:List Int):AV.fzL (l.map AV.i64)=l.map AV.i64:=by rw [fzL_map,ints_fz]
theorem fz2 (L:List (List Int)):AV.fzL (L.map fun l=>isl l)=L.map fun l=>isl l:=by rw [fzL_map,islfz]
theorem fz3 (L:List (List Nat)):AV.fzL (L.map fun r=>itr (cst r))=L.map fun r=>isl (cst r):=by
  rw [fzL_map,List.map_map]
  exact List.map_congr_left fun r _=>itr_fz _
theorem sR_fin {p:Puzz} (h:1≤stN p∧stN p≤3000):Fin p.n.toNat p.mv (letL p.mv.length) (Bf.out p.mv (letL p.mv.length) p.n.toNat 3000):=by
  have hd:=(sR_yes h).1
  have h1:=hd.1.1
  exact Bf.out_fin (by omega) (by omega) (Ck.puzz_pn hd) (by have:=sR_len hd;omega)
noncomputable def fmP (p:Puzz) (md ms:Int):List Twist×Bool:=fmR (letL p.mv.length) (sR p).1 (sR p).2 md ms
theorem iFindMacros (p:Puzz) (md ms:Int) (h:smallP p):SpecAt Tryz.prog 19 [p.sl,.i64 md,.i64 ms] (.tup [ttr (fmP p md ms).1,.bl (fmP p md ms).2]):=by
  by_cases hs:1≤stN p∧stN p≤3000
  case neg =>
    have q1:=Ck.exploreNo p h hs
    have hz:fmP p md ms=([],false):=by rw [fmP,fmR,if_neg];rw [sR_no hs];exact fun q=>by cases q.1
    rw [hz]
    refine spec_of_awp (M:=MM) (np:=3) (fz:=false) mixed Tryz.func19 rfl rfl (by decide) rfl (Nat.le_refl _) (by decide +kernel) (.inl rfl) (by first | trivial | simp only [sigsOk_nil,sigsOk_some,sigsOk_none,sig_tr,sig_pt,sig_mt,sig_agg,List.map_cons,List.map_nil,sig1_tr,sig1_pt,sig1_v,and_self,true_and,List.length_map,List.length_set]) ?_
    simp -dsimp -implicitDefEqProofs (disch:=first | omega | (simp only [lenr];try omega)) only [↓amPre,amAll,↓reduceIte,reduceCtorEq,Nat.reduceEqDiff,Nat.reduceBEq,Nat.reduceAdd,Nat.reduceLeDiff,Nat.reduceSub,Nat.reduceMul,Int.reduceToNat,List.size_toArray,tyF,MM,bu0,cbU49]
    refine callP_of (q1) ?_
    simp -dsimp -implicitDefEqProofs (disch:=first | omega | (simp only [lenr];try omega)) only [↓amPre,amAll,↓reduceIte,reduceCtorEq,Nat.reduceEqDiff,Nat.reduceBEq,Nat.reduceAdd,Nat.reduceLeDiff,Nat.reduceSub,Nat.reduceMul,Int.reduceToNat,List.size_toArray,tyF,MM,bu0,cbU49,Ck.nilPt]
  obtain ⟨hd,hR⟩:=sR_yes hs
  have hF:=sR_fin hs
  have q1:=Ck.exploreYes p h hs
  have hn20:=hd.1.1
  have hle:=sR_len hd
  rw [fmP,hR]
  dsimp only
  have qw:=fun i hi hl=>wordI p (Bf.out p.mv (letL p.mv.length) p.n.toNat 3000) .any (nxO p.mv (letL p.mv.length) p.n.toNat 3000) hF.tm i hi hF.ok hl
  have l1:=isDepthI md
  have l2:=iwithin ms 0 20
  unfold exT at q1
  generalize nxO p.mv (letL p.mv.length) p.n.toNat 3000=Nx at *
  generalize Bf.out p.mv (letL p.mv.length) p.n.toNat 3000=e at *
  by_cases b1:within md 0 30=true
  case neg =>
    have hz:fmR (letL p.mv.length) e true md ms=([],false):=by rw [fmR,if_neg];exact fun q=>b1 q.2.1.1
    rw [hz]
    rw [show within md 0 30=false by simpa using b1] at l1
    refine spec_of_awp (M:=MM) (np:=3) (fz:=false) mixed Tryz.func19 rfl rfl (by decide) rfl (Nat.le_refl _) (by decide +kernel) (.inl rfl) (by first | trivial | simp only [sigsOk_nil,sigsOk_some,sigsOk_none,sig_tr,sig_pt,sig_mt,sig_agg,List.map_cons,List.map_nil,sig1_tr,sig1_pt,sig1_v,and_self,true_and,List.length_map,List.length_set]) ?_
    simp -dsimp -implicitDefEqProofs (disch:=first | omega | (simp only [lenr];try omega)) only [↓amPre,amAll,↓reduceIte,reduceCtorEq,Nat.reduceEqDiff,Nat.reduceBEq,Nat.reduceAdd,Nat.reduceLeDiff,Nat.reduceSub,Nat.reduceMul,Int.reduceToNat,List.size_toArray,tyF,MM,bu0,cbU49]
    refine callP_of (q1) ?_
    simp -dsimp -implicitDefEqProofs (disch:=first | omega | (simp only [lenr];try omega)) only [↓amPre,amAll,↓reduceIte,reduceCtorEq,Nat.reduceEqDiff,Nat.reduceBEq,Nat.reduceAdd,Nat.reduceLeDiff,Nat.reduceSub,Nat.reduceMul,Int.reduceToNat,List.size_toArray,tyF,MM,bu0,cbU49]
    refine callP_of (l1) ?_
    simp -dsimp -implicitDefEqProofs (disch:=first | omega | (simp only [lenr];try omega)) only [↓amPre,amAll,↓reduceIte,reduceCtorEq,Nat.reduceEqDiff,Nat.reduceBEq,Nat.reduceAdd,Nat.reduceLeDiff,Nat.reduceSub,Nat.reduceMul,Int.reduceToNat,List.size_toArray,tyF,MM,bu0,cbU49]
  rw [b1] at l1
  by_cases b2:within ms 0 20=true
  case neg =>
    have hz:fmR (letL p.mv.length) e true md ms=([],false):=by rw [fmR,if_neg];exact fun q=>b2 q.2.1.2
    rw [hz]
    rw [show within ms 0 20=false by simpa using b2] at l2
    refine spec_of_awp (M:=MM) (np:=3) (fz:=false) mixed Tryz.func19 rfl rfl (by decide) rfl (Nat.le_refl _) (by decide +kernel) (.inl rfl) (by first | trivial | simp only [sigsOk_nil,sigsOk_some,sigsOk_none,sig_tr,sig_pt,sig_mt,sig_agg,List.map_cons,List.map_nil,sig1_tr,sig1_pt,sig1_v,and_self,true_and,List.length_map,List.length_set]) ?_
    simp -dsimp -implicitDefEqProofs (disch:=first | omega | (simp only [lenr];try omega)) only [↓amPre,amAll,↓reduceIte,reduceCtorEq,Nat.reduceEqDiff,Nat.reduceBEq,Nat.reduceAdd,Nat.reduceLeDiff,Nat.reduceSub,Nat.reduceMul,Int.reduceToNat,List.size_toArray,tyF,MM,bu0,cbU49]
    refine callP_of (q1) ?_
    simp -dsimp -implicitDefEqProofs (disch:=first | omega | (simp only [lenr];try omega)) only [↓amPre,amAll,↓reduceIte,reduceCtorEq,Nat.reduceEqDiff,Nat.reduceBEq,Nat.reduceAdd,Nat.reduceLeDiff,Nat.reduceSub,Nat.reduceMul,Int.reduceToNat,List.size_toArray,tyF,MM,bu0,cbU49]
    refine callP_of (l1) ?_
    simp -dsimp -implicitDefEqProofs (disch:=first | omega | (simp only [lenr];try omega)) only [↓amPre,amAll,↓reduceIte,reduceCtorEq,Nat.reduceEqDiff,Nat.reduceBEq,Nat.reduceAdd,Nat.reduceLeDiff,Nat.reduceSub,Nat.reduceMul,Int.reduceToNat,List.size_toArray,tyF,MM,bu0,cbU49]
    refine callP_of (l2) ?_
    simp -dsimp -implicitDefEqProofs (disch:=first | omega | (simp only [lenr];try omega)) only [↓amPre,amAll,↓reduceIte,reduceCtorEq,Nat.reduceEqDiff,Nat.reduceBEq,Nat.reduceAdd,Nat.reduceLeDiff,Nat.reduceSub,Nat.reduceMul,Int.reduceToNat,List.size_toArray,tyF,MM,bu0,cbU49]
  rw [b2] at l2
  have hm:=within_iff.1 b1
  refine spec_of_awp (M:=MM) (np:=3) (fz:=false) mixed Tryz.func19 rfl rfl (by decide) rfl (Nat.le_refl _) (by decide +kernel) (.inl rfl) (by first | trivial | simp only [sigsOk_nil,sigsOk_some,sigsOk_none,sig_tr,sig_pt,sig_mt,sig_agg,List.map_cons,List.map_nil,sig1_tr,sig1_pt,sig1_v,and_self,true_and,List.length_map,List.length_set]) ?_
  simp -dsimp -implicitDefEqProofs (disch:=first | omega | (simp only [lenr];try omega)) only [↓amPre,amAll,↓reduceIte,reduceCtorEq,Nat.reduceEqDiff,Nat.reduceBEq,Nat.reduceAdd,Nat.reduceLeDiff,Nat.reduceSub,Nat.reduceMul,Int.reduceToNat,List.size_toArray,tyF,MM,bu0,cbU49]
  refine callP_of (q1) ?_
  simp -dsimp -implicitDefEqProofs (disch:=first | omega | (simp only [lenr];try omega)) only [↓amPre,amAll,↓reduceIte,reduceCtorEq,Nat.reduceEqDiff,Nat.reduceBEq,Nat.reduceAdd,Nat.reduceLeDiff,Nat.reduceSub,Nat.reduceMul,Int.reduceToNat,List.size_toArray,tyF,MM,bu0,cbU49]
  refine callP_of (l1) ?_
  simp -dsimp -implicitDefEqProofs (disch:=first | omega | (simp only [lenr];try omega)) only [↓amPre,amAll,↓reduceIte,reduceCtorEq,Nat.reduceEqDiff,Nat.reduceBEq,Nat.reduceAdd,Nat.reduceLeDiff,Nat.reduceSub,Nat.reduceMul,Int.reduceToNat,List.size_toArray,tyF,MM,bu0,cbU49]
  refine callP_of (l2) ?_
  simp -dsimp -implicitDefEqProofs (disch:=first | omega | (simp only [lenr];try omega)) only [↓amPre,amAll,↓reduceIte,reduceCtorEq,Nat.reduceEqDiff,Nat.reduceBEq,Nat.reduceAdd,Nat.reduceLeDiff,Nat.reduceSub,Nat.reduceMul,Int.reduceToNat,List.size_toArray,tyF,MM,bu0,cbU49]
  have hA16:(letL p.mv.length).length≤16:=by have:=letL_len p.mv.length;have:=hd.1.2.1;omega
  have hok:=hF.ok
  have hl3:e.S.length≤3000:=by omega
  have hfz:fmR (letL p.mv.length) e true md ms=if (fmA (letL p.mv.length) e md ms e.S.length).length≤200 then (fmA (letL p.mv.length) e md ms e.S.length,true) else ([],false):=by
    rw [fmR,b1,b2];simp
  refine awp_loopN 10 69 2 (by simp -dsimp -implicitDefEqProofs (disch:=first | omega | (simp only [lenr];try omega)) only [↓amPre,amAll,↓reduceIte,reduceCtorEq,Nat.reduceEqDiff,Nat.reduceBEq,Nat.reduceAdd,Nat.reduceLeDiff,Nat.reduceSub,Nat.reduceMul,Int.reduceToNat,List.size_toArray,tyF,MM,bu0,cbU49]) (by decide) (fun i st=>i≤e.S.length∧st.fr 36=.i64 i∧st.fr 35=.i64 e.S.length∧st.fr 34=.ref 16 [(0,0),(0,3)] 1 0 e.S.length∧st.fr 8=.loc 16 [(0,0)] 0 0∧st.fr 1=.i64 md∧st.fr 2=.i64 ms∧st.fr 10=.ref 69 [] 2 0 (fmA (letL p.mv.length) e md ms i).length∧st.mem 16=some (.tup [exA p e.S (cst e.D) (idxM e.S) (cst e.Pa) (byL (letL p.mv.length) e.J) (nxT Nx),.bl true])∧st.mem 69=some (ttr (fmA (letL p.mv.length) e md ms i))) (e.S.length) ?_ ?_
  · simp -dsimp -implicitDefEqProofs (disch:=first | omega | (simp only [lenr];try omega)) only [↓amPre,amAll,↓reduceIte,reduceCtorEq,Nat.reduceEqDiff,Nat.reduceBEq,Nat.reduceAdd,Nat.reduceLeDiff,Nat.reduceSub,Nat.reduceMul,Int.reduceToNat,List.size_toArray,tyF,MM,bu0,cbU49,nilAs_eq]
    exact ⟨Nat.zero_le _,rfl,rfl,rfl⟩
  rintro i st _ ⟨hi,f36,f35,f34,f8,f1,f2,f10,m16,m69⟩
  have hfl:=Bf.fmA_len (A:=letL p.mv.length) (e:=e) (md:=md) (ms:=ms) i
  by_cases c1:i<e.S.length
  · have hsm:=mem_getD e.S i default c1
    have hpn:=(hok.el _ hsm).1
    have q2:=iSupport (e.S.getD i default) hpn.2
    have q3:=lenI (movL (e.S.getD i default) (e.S.getD i default).length)
    have q4:=qw i c1 hl3
    have hst:fmA (letL p.mv.length) e md ms (i+1)=if i≠0∧fmC e md ms i then fmA (letL p.mv.length) e md ms i++[fmT (letL p.mv.length) e i] else fmA (letL p.mv.length) e md ms i:=rfl
    have hln:lsN e.S i=((movL (e.S.getD i default) (e.S.getD i default).length).length:Int):=rfl
    have hg:(e.S.map fun x=>isl x).getD i .any=isl (e.S.getD i default):=by rw [getD_eq _ _ _ (by simp;omega),List.getElem_map,getD_eq _ _ _ (by omega)]
    have hgD:((cst e.D).map AV.i64).getD i .any=.i64 ((e.D.getD i 0:Nat):Int):=by rw [getD_eq _ _ _ (by rw [List.length_map,cst_len,hok.lD];exact c1),List.getElem_map,← getD_eq _ _ 0,Ch.cst_get (by rw [hok.lD];exact c1)]
    have hlD:(cst e.D).length=e.S.length:=by rw [cst_len,hok.lD]
    have hT:Twist.tr (fmT (letL p.mv.length) e i)=.agg [itr (ltr (letL p.mv.length) (wdE e i)),itr (movL (e.S.getD i default) (e.S.getD i default).length)]:=rfl
    have hS:fmC e md ms i↔(e.D.getD i 0:Int)≤md∧lsN e.S i≤ms:=Iff.rfl
    have c1':(i:Int)<(e.S.length:Int):=by omega
    rw [← hln] at q3
    have htw:(⟨ltr (letL p.mv.length) (wdE e i),movL (e.S.getD i default) (e.S.getD i default).length⟩:Twist)=fmT (letL p.mv.length) e i:=rfl
    generalize fmT (letL p.mv.length) e i=tw at *
    generalize fmA (letL p.mv.length) e md ms (i+1)=L1 at *
    generalize fmA (letL p.mv.length) e md ms i=L0 at *
    generalize lsN e.S i=n1 at *
    generalize (e.D.getD i 0:Nat)=dd at *
    by_cases c0:i=0
    · rw [if_neg (fun q=>q.1 c0)] at hst
      rw [hst]
      have c0':decide ((i:Int)=0)=true:=decide_eq_true (by omega)
      simp -dsimp -implicitDefEqProofs (disch:=first | omega | (simp only [lenr];try omega)) only [↓amPre,amAll,↓reduceIte,reduceCtorEq,Nat.reduceEqDiff,Nat.reduceBEq,Nat.reduceAdd,Nat.reduceLeDiff,Nat.reduceSub,Nat.reduceMul,Int.reduceToNat,List.size_toArray,tyF,MM,bu0,cbU49,f36,f35,f34,f8,f1,f2,f10,m16,m69,lt_true c1',hg]
      refine callP_of (q2) ?_
      simp -dsimp -implicitDefEqProofs (disch:=first | omega | (simp only [lenr];try omega)) only [↓amPre,amAll,↓reduceIte,reduceCtorEq,Nat.reduceEqDiff,Nat.reduceBEq,Nat.reduceAdd,Nat.reduceLeDiff,Nat.reduceSub,Nat.reduceMul,Int.reduceToNat,List.size_toArray,tyF,MM,bu0,cbU49,f36,f35,f34,f8,f1,f2,f10,m16,m69,c0']
      exact ⟨c1,by omega⟩
    have c0':decide ((i:Int)=0)=false:=decide_eq_false (by omega)
    by_cases d1:(dd:Int)≤md
    case neg =>
      rw [if_neg (fun q=>d1 (hS.1 q.2).1)] at hst
      rw [hst]
      simp -dsimp -implicitDefEqProofs (disch:=first | omega | (simp only [lenr];try omega)) only [↓amPre,amAll,↓reduceIte,reduceCtorEq,Nat.reduceEqDiff,Nat.reduceBEq,Nat.reduceAdd,Nat.reduceLeDiff,Nat.reduceSub,Nat.reduceMul,Int.reduceToNat,List.size_toArray,tyF,MM,bu0,cbU49,f36,f35,f34,f8,f1,f2,f10,m16,m69,lt_true c1',hg]
      refine callP_of (q2) ?_
      simp -dsimp -implicitDefEqProofs (disch:=first | omega | (simp only [lenr];try omega)) only [↓amPre,amAll,↓reduceIte,reduceCtorEq,Nat.reduceEqDiff,Nat.reduceBEq,Nat.reduceAdd,Nat.reduceLeDiff,Nat.reduceSub,Nat.reduceMul,Int.reduceToNat,List.size_toArray,tyF,MM,bu0,cbU49,f36,f35,f34,f8,f1,f2,f10,m16,m69,c0',hgD,hlD,lt_true (Int.not_le.1 d1)]
      exact ⟨c1,by omega⟩
    by_cases d2:n1≤ms
    case neg =>
      rw [if_neg (fun q=>d2 (hS.1 q.2).2)] at hst
      rw [hst]
      simp -dsimp -implicitDefEqProofs (disch:=first | omega | (simp only [lenr];try omega)) only [↓amPre,amAll,↓reduceIte,reduceCtorEq,Nat.reduceEqDiff,Nat.reduceBEq,Nat.reduceAdd,Nat.reduceLeDiff,Nat.reduceSub,Nat.reduceMul,Int.reduceToNat,List.size_toArray,tyF,MM,bu0,cbU49,f36,f35,f34,f8,f1,f2,f10,m16,m69,lt_true c1',hg]
      refine callP_of (q2) ?_
      simp -dsimp -implicitDefEqProofs (disch:=first | omega | (simp only [lenr];try omega)) only [↓amPre,amAll,↓reduceIte,reduceCtorEq,Nat.reduceEqDiff,Nat.reduceBEq,Nat.reduceAdd,Nat.reduceLeDiff,Nat.reduceSub,Nat.reduceMul,Int.reduceToNat,List.size_toArray,tyF,MM,bu0,cbU49,f36,f35,f34,f8,f1,f2,f10,m16,m69,c0',hgD,hlD,lt_false d1]
      refine callP_of (q3) ?_
      simp -dsimp -implicitDefEqProofs (disch:=first | omega | (simp only [lenr];try omega)) only [↓amPre,amAll,↓reduceIte,reduceCtorEq,Nat.reduceEqDiff,Nat.reduceBEq,Nat.reduceAdd,Nat.reduceLeDiff,Nat.reduceSub,Nat.reduceMul,Int.reduceToNat,List.size_toArray,tyF,MM,bu0,cbU49,f36,f35,f34,f8,f1,f2,f10,m16,m69,lt_true (Int.not_le.1 d2)]
      exact ⟨c1,by omega⟩
    rw [if_pos ⟨c0,hS.2 ⟨d1,d2⟩⟩] at hst
    rw [hst]
    have hlL:(L0++[tw]).length=L0.length+1:=by simp
    simp -dsimp -implicitDefEqProofs (disch:=first | omega | (simp only [lenr];try omega)) only [↓amPre,amAll,↓reduceIte,reduceCtorEq,Nat.reduceEqDiff,Nat.reduceBEq,Nat.reduceAdd,Nat.reduceLeDiff,Nat.reduceSub,Nat.reduceMul,Int.reduceToNat,List.size_toArray,tyF,MM,bu0,cbU49,f36,f35,f34,f8,f1,f2,f10,m16,m69,lt_true c1',hg]
    refine callP_of (q2) ?_
    simp -dsimp -implicitDefEqProofs (disch:=first | omega | (simp only [lenr];try omega)) only [↓amPre,amAll,↓reduceIte,reduceCtorEq,Nat.reduceEqDiff,Nat.reduceBEq,Nat.reduceAdd,Nat.reduceLeDiff,Nat.reduceSub,Nat.reduceMul,Int.reduceToNat,List.size_toArray,tyF,MM,bu0,cbU49,f36,f35,f34,f8,f1,f2,f10,m16,m69,c0',hgD,hlD,lt_false d1]
    refine callP_of (q3) ?_
    simp -dsimp -implicitDefEqProofs (disch:=first | omega | (simp only [lenr];try omega)) only [↓amPre,amAll,↓reduceIte,reduceCtorEq,Nat.reduceEqDiff,Nat.reduceBEq,Nat.reduceAdd,Nat.reduceLeDiff,Nat.reduceSub,Nat.reduceMul,Int.reduceToNat,List.size_toArray,tyF,MM,bu0,cbU49,f36,f35,f34,f8,f1,f2,f10,m16,m69,lt_false d2,fz1,fz2,fz3]
    refine callP_of (q4) ?_
    simp -dsimp -implicitDefEqProofs (disch:=first | omega | (simp only [lenr];try omega)) only [↓amPre,amAll,↓reduceIte,reduceCtorEq,Nat.reduceEqDiff,Nat.reduceBEq,Nat.reduceAdd,Nat.reduceLeDiff,Nat.reduceSub,Nat.reduceMul,Int.reduceToNat,List.size_toArray,tyF,MM,bu0,cbU49,f36,f35,f34,f8,f1,f2,f10,m16,m69,hT]
    exact ⟨c1,by omega,by rw [← htw]⟩
  · have hie:i=e.S.length:=by omega
    subst hie
    have c1':¬ (e.S.length:Int)<(e.S.length:Int):=by omega
    by_cases c2:(fmA (letL p.mv.length) e md ms e.S.length).length≤200
    · rw [hfz,if_pos c2]
      generalize fmA (letL p.mv.length) e md ms e.S.length=L0 at *
      simp -dsimp -implicitDefEqProofs (disch:=first | omega | (simp only [lenr];try omega)) only [↓amPre,amAll,↓reduceIte,reduceCtorEq,Nat.reduceEqDiff,Nat.reduceBEq,Nat.reduceAdd,Nat.reduceLeDiff,Nat.reduceSub,Nat.reduceMul,Int.reduceToNat,List.size_toArray,tyF,MM,bu0,cbU49,f36,f35,f34,f8,f1,f2,f10,m16,m69,lt_false (Int.not_lt.1 c1'),lt_false (show (L0.length:Int)≤200 by omega)]
    · rw [hfz,if_neg c2]
      generalize fmA (letL p.mv.length) e md ms e.S.length=L0 at *
      simp -dsimp -implicitDefEqProofs (disch:=first | omega | (simp only [lenr];try omega)) only [↓amPre,amAll,↓reduceIte,reduceCtorEq,Nat.reduceEqDiff,Nat.reduceBEq,Nat.reduceAdd,Nat.reduceLeDiff,Nat.reduceSub,Nat.reduceMul,Int.reduceToNat,List.size_toArray,tyF,MM,bu0,cbU49,f36,f35,f34,f8,f1,f2,f10,m16,m69,lt_false (Int.not_lt.1 c1'),lt_true (show (200:Int)<L0.length by omega)]
end Wo
end Go.AM
namespace Go.AM
namespace Bf
def wsB (e:Ex) (T:List Int) (i:Nat):Bool:=!(i == 0) && !((movL (e.S.getD i default) (e.S.getD i default).length).any fun x=>!(T.any fun y=>x == y))
def wsR (A:List Int) (e:Ex) (ok:Bool) (T:List Int):List Int×Bool :=
  if ok=true then match (List.range e.S.length).find? (wsB e T) with
    | some i=>if e.D.getD i 0≤200 then (ltr A (wdE e i),true) else ([],false)
    | none=>([],false)
  else ([],false)
end Bf
end Go.AM
namespace Go.AM
namespace Bf
open Ch (PN pt idL)
theorem eff_ev (n:Int) (mv:List (List Int)) (A:List Int) (u:List Nat):∀ k,k≤u.length→effK n mv (ltr A u) k=evN n.toNat mv A (idL n.toNat) (u.take k)
  | 0,_=>by rw [List.take_zero];rfl
  | k+1,h=>by
    have hg:(ltr A u).getD k 0=A.getD (u.getD k 0) 0:=by
      rw [ltr,getD_eq _ _ _ (by rw [List.length_map];omega),List.getElem_map,← getD_eq u k 0 (by omega)]
    have ht:u.take (k+1)=u.take k++[u.getD k 0]:=by rw [getD_eq u k 0 h,List.take_succ_eq_append_getElem h]
    rw [effK,eff_ev n mv A u k (by omega),hg,ht,evN_app,evN,evN]
theorem mov_nil {n:Nat} {s:List Int} (h:PN n s) (hm:movL s n=[]):s=idL n:=by
  refine ext_getD 0 (by rw [runI_len];exact h.1) fun x hx=>?_
  have hx':x<n:=by have:=h.1;omega
  rw [runI_get 0 _ x hx']
  have:¬ ((x:Int)∈movL s n):=by rw [hm];simp
  rw [mem_movL] at this
  by_cases c:s.getD x 0=(x:Int)
  · rw [c];omega
  · exact absurd ⟨x,hx',c,rfl⟩ this
def inT (T:List Int) (s:List Int):Bool:=!((movL s s.length).any fun x=>!(T.any fun y=>x == y))
def fdK (e:Ex) (T:List Int):Nat→Bool
  | 0=>false
  | k+1=>fdK e T k || inT T (e.S.getD (k+1) default)
end Bf
end Go.AM
namespace Go.AM
/-! a word backwards,each letter turned -/
def invW (w:List Int):List Int:=w.reverse.map fun x=>-x
def invK (w:List Int):Nat→List Int
  | 0=>[]
  | k+1=>invK w k++[-(w.getD (w.length - 1 - k) 0)]
theorem invW_len (w:List Int):(invW w).length=w.length:=by simp [invW]
theorem invK_take (w:List Int):∀ k,k≤w.length→invK w k=(w.reverse.take k).map fun x=>-x
  | 0,_=>rfl
  | k+1,h=>by
    rw [invK,invK_take w k (by omega)]
    have hk:k<w.reverse.length:=by simpa using (by omega:k<w.length)
    rw [List.take_succ_eq_append_getElem hk,List.map_append]
    congr 1
    simp only [List.map_cons,List.map_nil,List.getElem_reverse]
    rw [List.getD_eq_getElem?_getD,List.getElem?_eq_getElem (by omega),Option.getD_some]
theorem invK_all (w:List Int):invK w w.length=invW w:=by
  rw [invK_take w _ (Nat.le_refl _),invW,List.take_of_length_le (by simp)]
theorem invW_mem {w:List Int} {x:Int} (h:x∈invW w):-x∈w:=by
  unfold invW at h
  obtain ⟨y,hy,rfl⟩:=List.mem_map.1 h
  rw [Int.neg_neg];exact List.mem_reverse.1 hy
end Go.AM
namespace Go.AM
/-! the solved state,and what a word of moves does to it -/
theorem effK_app (n:Int) (mv:List (List Int)) (w v:List Int):∀ k,k≤w.length→effK n mv (w++v) k=effK n mv w k
  | 0,_=>rfl
  | k+1,hk=>by
    rw [effK,effK,effK_app n mv w v k (by omega),getD_app_l _ _ _ _ (by omega)]
end Go.AM
namespace Go.AM
namespace Bf
open Ch (PN pt idL pt_comp comp_assoc comp_inv inv_comp id_comp pt_id)
theorem mem_mv {n:Nat} {p:List Int} (h:PN n p) {x:Int}:x∈movL p n↔∃ i:Nat,i<n∧pt p i≠i∧x=(i:Int):=by
  rw [mem_movL]
  constructor
  · rintro ⟨i,a,b,c⟩
    exact ⟨i,a,fun q=>b (by rw [(h.get a).1,q]),c⟩
  · rintro ⟨i,a,b,c⟩
    exact ⟨i,a,fun q=>b (by have:=(h.get a).1;omega),c⟩
theorem mov_two {n:Nat} {s:List Int} (h:PN n s) (hne:s≠idL n):2≤(movL s n).length:=by
  have h0:movL s n≠[]:=fun q=>hne (mov_nil h q)
  obtain ⟨x,hx⟩:=List.exists_mem_of_ne_nil _ h0
  obtain ⟨i,a,b,c⟩:=(mem_mv h).1 hx
  have hy:((pt s i:Nat):Int)∈movL s n:=(mem_mv h).2 ⟨pt s i,(h.get a).2,fun q=>b (h.inj (h.get a).2 a q),rfl⟩
  have:=len_le_of_sub [x,((pt s i:Nat):Int)] (movL s n) (by rw [List.nodup_cons,List.mem_singleton];exact ⟨by rw [c];omega,by simp⟩) (by
    intro z hz
    rcases List.mem_cons.1 hz with q | q
    · rw [q];exact hx
    · rw [List.mem_singleton.1 q];exact hy)
  simpa using this
theorem conj_le {n:Nat} {a g b:List Int} (ha:PN n a) (hg:PN n g) (hb:PN n b) (hab:compI a b=idL n):(movL (compI (compI a g) b) n).length≤(movL g n).length:=by
  have hh:=(ha.comp hg).comp hb
  have hin:∀ i,i<n→pt b (pt a i)=i:=fun i hi=>by rw [← pt_comp ha i hi,hab,pt_id hi]
  have hsub:∀ x∈(movL (compI (compI a g) b) n).map fun x=>((pt a x.toNat:Nat):Int),x∈movL g n:=by
    intro x hx
    obtain ⟨y,hy,rfl⟩:=List.mem_map.1 hx
    obtain ⟨i,h1,h2,rfl⟩:=(mem_mv hh).1 hy
    rw [Int.toNat_natCast]
    refine (mem_mv hg).2 ⟨_,(ha.get h1).2,fun q=>h2 ?_,rfl⟩
    rw [pt_comp (ha.comp hg) i h1,pt_comp ha i h1,q,hin i h1]
  have hnd:((movL (compI (compI a g) b) n).map fun x=>((pt a x.toNat:Nat):Int)).Nodup:=by
    refine List.pairwise_map.2 ((movL_nodup (compI (compI a g) b) n).imp_of_mem ?_)
    intro x y hx hy hne e
    obtain ⟨i,h1,_,rfl⟩:=(mem_mv hh).1 hx
    obtain ⟨j,k1,_,rfl⟩:=(mem_mv hh).1 hy
    rw [Int.toNat_natCast,Int.toNat_natCast] at e
    exact hne (by rw [ha.inj h1 k1 (by omega)])
  have:=len_le_of_sub _ _ hnd hsub
  rwa [List.length_map] at this
theorem conj_len {n:Nat} {a g b:List Int} (ha:PN n a) (hg:PN n g) (hb:PN n b) (hab:compI a b=idL n) (hba:compI b a=idL n):(movL (compI (compI a g) b) n).length=(movL g n).length:=by
  refine Nat.le_antisymm (conj_le ha hg hb hab) ?_
  have:=conj_le hb ((ha.comp hg).comp hb) ha hba
  have e:compI (compI b (compI (compI a g) b)) a=g:=by
    rw [comp_assoc hb ((ha.comp hg).comp hb) ha,comp_assoc (ha.comp hg) hb ha,hba,Ch.comp_id (ha.comp hg),← comp_assoc hb ha hg,hba,id_comp hg]
  rwa [e] at this
theorem inv_uniq {n:Nat} {a b:List Int} (ha:PN n a) (hb:PN n b) (hab:compI a b=idL n):compI b a=idL n:=by
  have:b=invI a:=by
    rw [← Ch.comp_id ha.inv,← hab,← comp_assoc ha.inv ha hb,inv_comp ha,id_comp hb]
  rw [this,inv_comp ha]
section
variable {n:Nat} {mv:List (List Int)}
theorem let_pn (h1:1≤n) (h2:n≤20) (hm:∀ s∈mv,PN n s) {x:Int} (hx:letOk mv.length x):PN n (letP mv x)∧PN n (letP mv (-x))∧compI (letP mv x) (letP mv (-x))=idL n:=by
  unfold letOk at hx
  by_cases c:0<x
  · have hM:=hm _ (mem_getD mv (x - 1).toNat default (by omega))
    have e1:letP mv x=mv.getD (x - 1).toNat default:=by unfold letP;rw [if_pos c]
    have e2:letP mv (-x)=invI (mv.getD (x - 1).toNat default):=by unfold letP;rw [if_neg (by omega),Int.neg_neg]
    rw [e1,e2]
    exact ⟨hM,hM.inv,comp_inv hM⟩
  · have hM:=hm _ (mem_getD mv (-x - 1).toNat default (by omega))
    have e1:letP mv x=invI (mv.getD (-x - 1).toNat default):=by unfold letP;rw [if_neg c]
    have e2:letP mv (-x)=mv.getD (-x - 1).toNat default:=by unfold letP;rw [if_pos (by omega)]
    rw [e1,e2]
    exact ⟨hM.inv,hM,inv_comp hM⟩
theorem eff_pn (h1:1≤n) (h2:n≤20) (hm:∀ s∈mv,PN n s) {w:List Int} (hw:∀ x∈w,letOk mv.length x):∀ k,k≤w.length→PN n (effK n mv w k)
  | 0,_=>PN.one h1 h2
  | k+1,hk=>by
    rw [effK]
    exact (eff_pn h1 h2 hm hw k (by omega)).comp (let_pn h1 h2 hm (hw _ (mem_getD w k 0 (by omega)))).1
theorem eff_mul (h1:1≤n) (h2:n≤20) (hm:∀ s∈mv,PN n s) {u v:List Int} (hu:∀ x∈u,letOk mv.length x) (hv:∀ x∈v,letOk mv.length x):∀ k,k≤v.length→effK n mv (u++v) (u.length+k)=compI (effK n mv u u.length) (effK n mv v k)
  | 0,_=>by
    have hp:=eff_pn h1 h2 hm hu u.length (Nat.le_refl _)
    rw [Nat.add_zero,effK_app _ _ _ _ _ (Nat.le_refl _)]
    exact (Ch.comp_id hp).symm
  | k+1,hk=>by
    rw [← Nat.add_assoc,effK,effK,eff_mul h1 h2 hm hu hv k (by omega),getD_app_r]
    exact comp_assoc (eff_pn h1 h2 hm hu _ (Nat.le_refl _)) (eff_pn h1 h2 hm hv k (by omega)) (let_pn h1 h2 hm (hv _ (mem_getD v k 0 (by omega)))).1
theorem eff_app (h1:1≤n) (h2:n≤20) (hm:∀ s∈mv,PN n s) {u v:List Int} (hu:∀ x∈u,letOk mv.length x) (hv:∀ x∈v,letOk mv.length x):effK n mv (u++v) (u++v).length=compI (effK n mv u u.length) (effK n mv v v.length):=by
  rw [List.length_append,eff_mul h1 h2 hm hu hv _ (Nat.le_refl _)]
theorem eff_one (h1:1≤n) (h2:n≤20) (hm:∀ s∈mv,PN n s) {x:Int} (hx:letOk mv.length x):effK n mv [x] [x].length=letP mv x:=by
  show compI (idL n) (letP mv x)=_
  exact id_comp (let_pn h1 h2 hm hx).1
theorem let_neg {x:Int} (h:letOk mv.length x):letOk mv.length (-x):=by unfold letOk at *;omega
theorem eff_inv1 (h1:1≤n) (h2:n≤20) (hm:∀ s∈mv,PN n s):∀ r:List Int,(∀ x∈r,letOk mv.length x)→compI (effK n mv r.reverse r.reverse.length) (effK n mv (r.map fun x=>-x) (r.map fun x=>-x).length)=idL n
  | [],_=>Ch.comp_id (PN.one h1 h2)
  | x :: r,h=>by
    have hx:=h x (List.mem_cons_self ..)
    have hr:=fun y hy=>h y (List.mem_cons_of_mem _ hy)
    have hr1:∀ y∈r.reverse,letOk mv.length y:=fun y hy=>hr y (List.mem_reverse.1 hy)
    have hr2:∀ y∈r.map fun x=>-x,letOk mv.length y:=fun y hy=>by
      obtain ⟨z,hz,rfl⟩:=List.mem_map.1 hy
      exact let_neg (hr z hz)
    have s1:∀ y∈[x],letOk mv.length y:=fun y hy=>by rw [List.mem_singleton.1 hy];exact hx
    have s2:∀ y∈[-x],letOk mv.length y:=fun y hy=>by rw [List.mem_singleton.1 hy];exact let_neg hx
    obtain ⟨l1,l2,l3⟩:=let_pn h1 h2 hm hx
    have p1:=eff_pn h1 h2 hm hr1 _ (Nat.le_refl _)
    have p2:=eff_pn h1 h2 hm hr2 _ (Nat.le_refl _)
    have ih:=eff_inv1 h1 h2 hm r hr
    have e1:(x :: r).reverse=r.reverse++[x]:=by simp
    have e2:((x :: r).map fun x=>-x)=[-x]++r.map fun x=>-x:=by simp
    rw [e1,e2,eff_app h1 h2 hm hr1 s1,eff_app h1 h2 hm s2 hr2,eff_one h1 h2 hm hx,eff_one h1 h2 hm (let_neg hx)]
    rw [comp_assoc p1 l1 (l2.comp p2),← comp_assoc l1 l2 p2,l3,id_comp p2,ih]
theorem eff_inv (h1:1≤n) (h2:n≤20) (hm:∀ s∈mv,PN n s) {w:List Int} (hw:∀ x∈w,letOk mv.length x):compI (effK n mv w w.length) (effK n mv (invW w) (invW w).length)=idL n:=by
  have:=eff_inv1 h1 h2 hm w.reverse (fun x hx=>hw x (List.mem_reverse.1 hx))
  rwa [List.reverse_reverse] at this
theorem conj_sup (h1:1≤n) (h2:n≤20) (hm:∀ s∈mv,PN n s) {w m:List Int} (hw:∀ x∈w,letOk mv.length x) (hg:∀ x∈m,letOk mv.length x) :
    (movL (effK n mv (w++(m++invW w)) (w++(m++invW w)).length) n).length=(movL (effK n mv m m.length) n).length:=by
  have hi:∀ x∈invW w,letOk mv.length x:=fun x hx=>by have:=let_neg (hw _ (invW_mem hx));rwa [Int.neg_neg] at this
  have hmi:∀ x∈m++invW w,letOk mv.length x:=fun x hx=>(List.mem_append.1 hx).elim (hg x) (hi x)
  have pw:=eff_pn h1 h2 hm hw _ (Nat.le_refl _)
  have pg:=eff_pn h1 h2 hm hg _ (Nat.le_refl _)
  have pi:=eff_pn h1 h2 hm hi _ (Nat.le_refl _)
  have e:=eff_inv h1 h2 hm hw
  rw [eff_app h1 h2 hm hw hmi,eff_app h1 h2 hm hg hi,← comp_assoc pw pg pi]
  exact conj_len pw pg pi e (inv_uniq pw pi e)
end
theorem lsK_ok {S:List (List Int)} {K:Nat} (h:∀ j,1≤j→j≤K→2≤lsN S j):∀ k,k≤K→1≤k→2≤lsK S k∧∀ j,1≤j→j≤k→lsK S k≤lsN S j
  | 0,_,hk=>absurd hk (by omega)
  | 1,hK,_=>by
    have e:lsK S 1=lsN S 1:=by rw [lsK,if_pos (.inl (show (-1:Int)<0 by decide))]
    rw [e]
    exact ⟨h 1 (by omega) hK,fun j a b=>by rw [show j=1 by omega];omega⟩
  | k+2,hK,_=>by
    obtain ⟨a,b⟩:=lsK_ok h (k+1) (by omega) (by omega)
    have c:=h (k+2) (by omega) hK
    rw [lsK]
    split
    · refine ⟨c,fun j j1 j2=>?_⟩
      rcases Nat.lt_or_ge j (k+2) with q | q
      · have:=b j j1 (by omega);omega
      · rw [show j=k+1+1 by omega];omega
    · refine ⟨a,fun j j1 j2=>?_⟩
      rcases Nat.lt_or_ge j (k+2) with q | q
      · exact b j j1 (by omega)
      · rw [show j=k+1+1 by omega];omega
theorem fmA_mem2 {A:List Int} {e:Ex} {md ms:Int}:∀ i,∀ x∈fmA A e md ms i,∃ k,0<k∧k<i∧fmC e md ms k∧x=fmT A e k
  | 0,x,hx=>by cases hx
  | i+1,x,hx=>by
    rw [fmA] at hx
    split at hx
    · rename_i c
      rcases List.mem_append.1 hx with hx | hx
      · obtain ⟨k,a,b,d⟩:=fmA_mem2 i x hx
        exact ⟨k,a,by omega,d⟩
      · exact ⟨i,by omega,by omega,c.2,List.mem_singleton.1 hx⟩
    · obtain ⟨k,a,b,d⟩:=fmA_mem2 i x hx
      exact ⟨k,a,by omega,d⟩
end Bf
end Go.AM
set_option maxRecDepth 8000
namespace Go.AM
namespace Wo
open Go.Proofs
open Ch (PN pt idL cst cst_len)
open Bf (Ex dOf Fin srtS)
open Ck (stN)
open Sr (fS sR sR_yes sR_no sR_ok sR_len searchC depthOfS)
theorem sSearchState (p:Puzz) (s:List Int) (h:smallP p) (hs:1≤stN p∧stN p≤3000) (hm:s∈(sR p).1.S) :
    SpecAt Tryz.prog 58 [p.sl,isl s] (.tup [fS (sR p).1.S (cst (sR p).1.D) (srtS (sR p).1.S) true,.i64 (dOf (sR p).1 s:Nat),.bl true]):=by
  have q1:=searchC p h
  obtain ⟨hd,hR⟩:=sR_yes hs
  have hF:=sR_fin hs
  have hn20:=hd.1.1
  have hle:=sR_len hd
  rw [hR] at q1 hm ⊢
  dsimp only at q1 hm ⊢
  generalize Bf.out p.mv (letL p.mv.length) p.n.toNat 3000=e at *
  have hok:=hF.ok
  have hpn:=(hok.el s hm).1
  have q2:=sIsState p s h hd ⟨by have:=hpn.1;omega,hpn.2⟩
  have q3:=depthOfS p.n.toNat e true s (Bf.srtS_ok hok.nd (fun t ht=>(hok.el t ht).1.1)) hok.nd (by omega) hpn.1 (by omega) hok.lD
  rw [if_pos hm] at q3
  have hd0:(0:Int)≤((dOf e s:Nat):Int):=by omega
  generalize dOf e s=d at *
  refine spec_of_awp (M:=MM) (np:=2) (fz:=true) mixed Tryz.func58 rfl rfl (by decide) rfl (Nat.le_refl _) (by decide +kernel) (.inr ⟨rfl,rfl⟩) trivial ?_
  simp -dsimp -implicitDefEqProofs (disch:=first | omega | (simp only [lenr];try omega)) only [↓amPre,amAll,↓reduceIte,reduceCtorEq,Nat.reduceEqDiff,Nat.reduceBEq,Nat.reduceAdd,Nat.reduceLeDiff,Nat.reduceSub,Nat.reduceMul,Int.reduceToNat,List.size_toArray,tyF,MM,bu0,cbU49]
  refine callP_of (q1) ?_
  simp -dsimp -implicitDefEqProofs (disch:=first | omega | (simp only [lenr];try omega)) only [↓amPre,amAll,↓reduceIte,reduceCtorEq,Nat.reduceEqDiff,Nat.reduceBEq,Nat.reduceAdd,Nat.reduceLeDiff,Nat.reduceSub,Nat.reduceMul,Int.reduceToNat,List.size_toArray,tyF,MM,bu0,cbU49]
  refine callP_of (q2) ?_
  simp -dsimp -implicitDefEqProofs (disch:=first | omega | (simp only [lenr];try omega)) only [↓amPre,amAll,↓reduceIte,reduceCtorEq,Nat.reduceEqDiff,Nat.reduceBEq,Nat.reduceAdd,Nat.reduceLeDiff,Nat.reduceSub,Nat.reduceMul,Int.reduceToNat,List.size_toArray,tyF,MM,bu0,cbU49]
  refine callP_of (q3) ?_
  simp -dsimp -implicitDefEqProofs (disch:=first | omega | (simp only [lenr];try omega)) only [↓amPre,amAll,↓reduceIte,reduceCtorEq,Nat.reduceEqDiff,Nat.reduceBEq,Nat.reduceAdd,Nat.reduceLeDiff,Nat.reduceSub,Nat.reduceMul,Int.reduceToNat,List.size_toArray,tyF,MM,bu0,cbU49,hd0]
theorem sDistance (p:Puzz) (s:List Int) (h:smallP p) (hs:1≤stN p∧stN p≤3000) (hm:s∈(sR p).1.S) :
    SpecAt Tryz.prog 23 [p.sl,isl s] (.i64 (dOf (sR p).1 s:Nat)):=by
  have q1:=sSearchState p s h hs hm
  generalize (sR p).1=e at *
  generalize dOf e s=d at *
  refine spec_of_awp (M:=MM) (np:=2) (fz:=true) mixed Tryz.func23 rfl rfl (by decide) rfl (Nat.le_refl _) (by decide +kernel) (.inr ⟨rfl,rfl⟩) trivial ?_
  simp -dsimp -implicitDefEqProofs (disch:=first | omega | (simp only [lenr];try omega)) only [↓amPre,amAll,↓reduceIte,reduceCtorEq,Nat.reduceEqDiff,Nat.reduceBEq,Nat.reduceAdd,Nat.reduceLeDiff,Nat.reduceSub,Nat.reduceMul,Int.reduceToNat,List.size_toArray,tyF,MM,bu0,cbU49]
  refine callP_of (q1) ?_
  simp -dsimp -implicitDefEqProofs (disch:=first | omega | (simp only [lenr];try omega)) only [↓amPre,amAll,↓reduceIte,reduceCtorEq,Nat.reduceEqDiff,Nat.reduceBEq,Nat.reduceAdd,Nat.reduceLeDiff,Nat.reduceSub,Nat.reduceMul,Int.reduceToNat,List.size_toArray,tyF,MM,bu0,cbU49]
end Wo
end Go.AM
set_option maxRecDepth 8000
namespace Go.AM
namespace Dice
open Go.Proofs
def MM:FuncId→List Bool:=fun f=>if f=18 then [true,false] else if f=61 then [true,false] else if f=26 then [true,false,false] else if f=17 then [true] else []
structure Dc where
  b:List UInt8
  i:Nat
  h:Int
abbrev u64 (n:Int):AV:=.v (.int .u64 n)
abbrev bsl (l:List UInt8):AV:=.sl 1 (l.map fun x=>.u8 x.toNat)
abbrev Dc.pt (s:Dc):AV:=.pt 3 (.agg [bsl s.b,.i64 s.i,u64 s.h])
abbrev Dc.ok (s:Dc):Prop:=s.b.length≤4096∧s.i≤s.b.length
instance:Thing UInt8:=⟨⟩
theorem wrapU_id {x:Int} (h:0≤x∧x<18446744073709551616):IntKind.u64.wrap x=x:=by
  unfold IntKind.wrap
  simp only [IntKind.signed,IntKind.bits,Bool.false_and,Bool.false_eq_true,if_false]
  exact Int.emod_eq_of_lt h.1 h.2
theorem andU (a:Int):0≤bitsI .and .u64 a 16777215∧bitsI .and .u64 a 16777215≤16777215:=by
  have h:(BitVec.ofInt 64 a &&& BitVec.ofInt 64 16777215).toNat≤16777215:=by
    rw [BitVec.toNat_and]
    exact Nat.le_trans Nat.and_le_right (by decide)
  have e:bitsI .and .u64 a 16777215=((BitVec.ofInt 64 a &&& BitVec.ofInt 64 16777215).toNat:Int):=by
    show IntKind.u64.wrap ((BitVec.ofInt 64 a &&& BitVec.ofInt 64 16777215).toNat:Int)=_
    apply wrapU_id;omega
  rw [e];omega
def nxH (h:Int):Int:=IntKind.u64.wrap (IntKind.u64.wrap (h*6364136223846793005)+1442695040888963407)
theorem dbelow (s:Dc) (n:Int) (h:s.ok) (hn:1≤n∧n≤1000000):∃ (s':Dc) (x:Int),SpecX Tryz.prog 18 [s.pt,.i64 n] [some s'.pt] (.i64 x)∧s'.ok∧0≤x∧x<n:=by
  have h1:=h.1
  have h2:=h.2
  have hn':nxH s.h=IntKind.u64.wrap (IntKind.u64.wrap (s.h*6364136223846793005)+1442695040888963407):=rfl
  have ha:=andU ((nxH s.h).fdiv (2 ^ (min 33 64)))
  obtain ⟨y,hy⟩:∃ y,y=bitsI .and .u64 ((nxH s.h).fdiv (2 ^ (min 33 64))) 16777215:=⟨_,rfl⟩
  rw [← hy] at ha
  have e1:IntKind.i64.wrap y=y:=wrap64_id (by omega)
  have hne:n≠0:=by omega
  have hb:IntKind.u64.bits=64:=rfl
  by_cases hk:s.i<s.b.length
  · have hu:(s.b.getD s.i default).toNat<256:=(s.b.getD s.i default).toNat_lt
    have e2:IntKind.i64.wrap ((s.b.getD s.i default).toNat:Int)=(s.b.getD s.i default).toNat:=wrap64_id (by omega)
    have e3:IntKind.i64.wrap (y+((s.b.getD s.i default).toNat:Int))=y+((s.b.getD s.i default).toNat:Int):=wrap64_id (by omega)
    refine ⟨⟨s.b,s.i+1,nxH s.h⟩,(y+((s.b.getD s.i default).toNat:Int)).tmod n,?_,⟨h1,hk⟩,Int.tmod_nonneg _ (by omega),Int.tmod_lt_of_pos _ (by omega)⟩
    refine spec_of_awp (M:=MM) (np:=2) (fz:=false) mixed Tryz.func18 rfl rfl (by decide) rfl (Nat.le_refl _) (by decide +kernel) (.inl rfl) (by simp only [sigsOk_some,sigsOk_nil,and_true];rfl) ?_
    simp -dsimp -implicitDefEqProofs (disch:=first | omega | (simp only [lenr];try omega)) only [↓amPre,amAll,↓reduceIte,reduceCtorEq,Nat.reduceEqDiff,Nat.reduceBEq,Nat.reduceAdd,Nat.reduceLeDiff,Nat.reduceSub,Nat.reduceMul,Int.reduceToNat,List.size_toArray,tyF,MM,bu0,cbP9,hb,← hn',← hy,hne,e1,e2,e3]
  · refine ⟨⟨s.b,s.i,nxH s.h⟩,y.tmod n,?_,⟨h1,h2⟩,Int.tmod_nonneg _ (by omega),Int.tmod_lt_of_pos _ (by omega)⟩
    refine spec_of_awp (M:=MM) (np:=2) (fz:=false) mixed Tryz.func18 rfl rfl (by decide) rfl (Nat.le_refl _) (by decide +kernel) (.inl rfl) (by simp only [sigsOk_some,sigsOk_nil,and_true];rfl) ?_
    simp -dsimp -implicitDefEqProofs (disch:=first | omega | (simp only [lenr];try omega)) only [↓amPre,amAll,↓reduceIte,reduceCtorEq,Nat.reduceEqDiff,Nat.reduceBEq,Nat.reduceAdd,Nat.reduceLeDiff,Nat.reduceSub,Nat.reduceMul,Int.reduceToNat,List.size_toArray,tyF,MM,bu0,cbP9,hb,← hn',← hy,hne,e1]
def rlK (l:List UInt8) (h:Int):Nat→Int
  | 0=>IntKind.u64.wrap (IntKind.u64.wrap (h*7919)+IntKind.u64.wrap l.length)
  | k+1=>IntKind.u64.wrap (IntKind.u64.wrap (IntKind.u64.wrap (rlK l h k*1099511628211)+IntKind.u64.wrap (l.getD k default).toNat)+3)
theorem droll (l:List UInt8) (h:Int) (hl:l.length≤4096):SpecAt Tryz.prog 16 [bsl l,u64 h] (Dc.pt ⟨l,0,rlK l h l.length⟩):=by
  have h0:rlK l h 0=IntKind.u64.wrap (IntKind.u64.wrap (h*7919)+IntKind.u64.wrap l.length):=rfl
  refine spec_of_awp (M:=MM) (np:=2) (fz:=false) mixed Tryz.func16 rfl rfl (by decide) rfl (Nat.le_refl _) (by decide +kernel) (.inl rfl) (by first | trivial | simp only [sigsOk_nil,sigsOk_some,sigsOk_none,sig_tr,sig_pt,sig_mt,sig_agg,List.map_cons,List.map_nil,sig1_tr,sig1_pt,sig1_v,and_self,true_and,List.length_map,List.length_set]) ?_
  simp -dsimp -implicitDefEqProofs (disch:=first | omega | (simp only [lenr];try omega)) only [↓amPre,amAll,↓reduceIte,reduceCtorEq,Nat.reduceEqDiff,Nat.reduceBEq,Nat.reduceAdd,Nat.reduceLeDiff,Nat.reduceSub,Nat.reduceMul,Int.reduceToNat,List.size_toArray,tyF,MM,bu0,cbP9,← h0]
  refine awp_loop (fun k st=>k≤l.length∧st.fr 6=.i64 k∧st.fr 5=.loc 15 [] 0 0∧st.fr 0=bsl l∧st.mem 15=some (Dc.pt ⟨l,0,rlK l h k⟩)) (l.length) ?_ ?_
  · simp -dsimp -implicitDefEqProofs (disch:=first | omega | (simp only [lenr];try omega)) only [↓amPre,amAll,↓reduceIte,reduceCtorEq,Nat.reduceEqDiff,Nat.reduceBEq,Nat.reduceAdd,Nat.reduceLeDiff,Nat.reduceSub,Nat.reduceMul,Int.reduceToNat,List.size_toArray,tyF,MM,bu0,cbP9,← h0]
    exact ⟨Nat.zero_le _,rfl,rfl⟩
  rintro k st _ ⟨hk,f6,f5,f0,m15⟩
  have hs1:rlK l h (k+1)=IntKind.u64.wrap (IntKind.u64.wrap (IntKind.u64.wrap (rlK l h k*1099511628211)+IntKind.u64.wrap (l.getD k default).toNat)+3):=rfl
  by_cases hlt:k<l.length
  · simp -dsimp -implicitDefEqProofs (disch:=first | omega | (simp only [lenr];try omega)) only [↓amPre,amAll,↓reduceIte,reduceCtorEq,Nat.reduceEqDiff,Nat.reduceBEq,Nat.reduceAdd,Nat.reduceLeDiff,Nat.reduceSub,Nat.reduceMul,Int.reduceToNat,List.size_toArray,tyF,MM,bu0,cbP9,f6,f5,f0,m15,← hs1]
    repeat' (first | omega | rfl | exact i64c (by omega) | exact vic (by omega) | apply And.intro)
  · have hke:k=l.length:=by omega
    subst hke
    simp -dsimp -implicitDefEqProofs (disch:=first | omega | (simp only [lenr];try omega)) only [↓amPre,amAll,↓reduceIte,reduceCtorEq,Nat.reduceEqDiff,Nat.reduceBEq,Nat.reduceAdd,Nat.reduceLeDiff,Nat.reduceSub,Nat.reduceMul,Int.reduceToNat,List.size_toArray,tyF,MM,bu0,cbP9,f6,f5,f0,m15]
theorem dbig (l:List UInt8):SpecAt Tryz.prog 15 [bsl l] (.bl (decide ((4096:Int)<l.length))):=by
  refine spec_of_awp (M:=MM) (np:=1) (fz:=true) mixed Tryz.func15 rfl rfl (by decide) rfl (Nat.le_refl _) (by decide +kernel) (.inr ⟨rfl,rfl⟩) trivial ?_
  simp -dsimp -implicitDefEqProofs (disch:=first | omega | (simp only [lenr];try omega)) only [↓amPre,amAll,↓reduceIte,reduceCtorEq,Nat.reduceEqDiff,Nat.reduceBEq,Nat.reduceAdd,Nat.reduceLeDiff,Nat.reduceSub,Nat.reduceMul,Int.reduceToNat,List.size_toArray,tyF,MM,bu0,cbP9]
noncomputable def dS (s:Dc) (n:Int):Dc:=open Classical in if h:s.ok∧1≤n∧n≤1000000 then (dbelow s n h.1 h.2).choose else s
noncomputable def dX (s:Dc) (n:Int):Int:=open Classical in if h:s.ok∧1≤n∧n≤1000000 then (dbelow s n h.1 h.2).choose_spec.choose else 0
theorem dF (s:Dc) (n:Int) (h:s.ok) (hn:1≤n∧n≤1000000):SpecX Tryz.prog 18 [s.pt,.i64 n] [some (dS s n).pt] (.i64 (dX s n))∧(dS s n).ok∧0≤dX s n∧dX s n<n:=by
  have:=(dbelow s n h hn).choose_spec.choose_spec
  unfold dS dX
  rw [dif_pos ⟨h,hn⟩,dif_pos ⟨h,hn⟩]
  exact this
theorem w9Letter (s:Dc) (h:s.ok):∃ (s':Dc) (x:Int),SpecX Tryz.prog 61 [s.pt,.i64 2] [some s'.pt] (.i64 x)∧s'.ok∧x≠0∧-2≤x∧x≤2:=by
  obtain ⟨s1,x1,q1,k1,b1⟩:=dbelow s 2 h (by omega)
  obtain ⟨s2,x2,q2,k2,b2⟩:=dbelow s1 2 k1 (by omega)
  have e1:IntKind.i64.wrap (1+x1)=1+x1:=wrap64_id (by omega)
  have e2:IntKind.i64.wrap (0 - (1+x1))=0 - (1+x1):=wrap64_id (by omega)
  by_cases c:x2=0
  · refine ⟨s2,0 - (1+x1),?_,k2,by omega,by omega,by omega⟩
    subst c
    refine spec_of_awp (M:=MM) (np:=2) (fz:=false) mixed Tryz.func61 rfl rfl (by decide) rfl (Nat.le_refl _) (by decide +kernel) (.inl rfl) (by simp only [sigsOk_some,sigsOk_nil,and_true];rfl) ?_
    simp -dsimp -implicitDefEqProofs (disch:=first | omega | (simp only [lenr];try omega)) only [↓amPre,amAll,↓reduceIte,reduceCtorEq,Nat.reduceEqDiff,Nat.reduceBEq,Nat.reduceAdd,Nat.reduceLeDiff,Nat.reduceSub,Nat.reduceMul,Int.reduceToNat,List.size_toArray,tyF,MM,bu0,cbP9]
    refine callX_of (q1) ?_
    simp -dsimp -implicitDefEqProofs (disch:=first | omega | (simp only [lenr];try omega)) only [↓amPre,amAll,↓reduceIte,reduceCtorEq,Nat.reduceEqDiff,Nat.reduceBEq,Nat.reduceAdd,Nat.reduceLeDiff,Nat.reduceSub,Nat.reduceMul,Int.reduceToNat,List.size_toArray,tyF,MM,bu0,cbP9,e1]
    refine callX_of (q2) ?_
    simp -dsimp -implicitDefEqProofs (disch:=first | omega | (simp only [lenr];try omega)) only [↓amPre,amAll,↓reduceIte,reduceCtorEq,Nat.reduceEqDiff,Nat.reduceBEq,Nat.reduceAdd,Nat.reduceLeDiff,Nat.reduceSub,Nat.reduceMul,Int.reduceToNat,List.size_toArray,tyF,MM,bu0,cbP9,e1,e2]
  · refine ⟨s2,1+x1,?_,k2,by omega,by omega,by omega⟩
    refine spec_of_awp (M:=MM) (np:=2) (fz:=false) mixed Tryz.func61 rfl rfl (by decide) rfl (Nat.le_refl _) (by decide +kernel) (.inl rfl) (by simp only [sigsOk_some,sigsOk_nil,and_true];rfl) ?_
    simp -dsimp -implicitDefEqProofs (disch:=first | omega | (simp only [lenr];try omega)) only [↓amPre,amAll,↓reduceIte,reduceCtorEq,Nat.reduceEqDiff,Nat.reduceBEq,Nat.reduceAdd,Nat.reduceLeDiff,Nat.reduceSub,Nat.reduceMul,Int.reduceToNat,List.size_toArray,tyF,MM,bu0,cbP9]
    refine callX_of (q1) ?_
    simp -dsimp -implicitDefEqProofs (disch:=first | omega | (simp only [lenr];try omega)) only [↓amPre,amAll,↓reduceIte,reduceCtorEq,Nat.reduceEqDiff,Nat.reduceBEq,Nat.reduceAdd,Nat.reduceLeDiff,Nat.reduceSub,Nat.reduceMul,Int.reduceToNat,List.size_toArray,tyF,MM,bu0,cbP9,e1]
    refine callX_of (q2) ?_
    simp -dsimp -implicitDefEqProofs (disch:=first | omega | (simp only [lenr];try omega)) only [↓amPre,amAll,↓reduceIte,reduceCtorEq,Nat.reduceEqDiff,Nat.reduceBEq,Nat.reduceAdd,Nat.reduceLeDiff,Nat.reduceSub,Nat.reduceMul,Int.reduceToNat,List.size_toArray,tyF,MM,bu0,cbP9,e1,e2,c]
noncomputable def lS (s:Dc):Dc:=open Classical in if h:s.ok then (w9Letter s h).choose else s
noncomputable def lX (s:Dc):Int:=open Classical in if h:s.ok then (w9Letter s h).choose_spec.choose else 0
theorem lF (s:Dc) (h:s.ok):SpecX Tryz.prog 61 [s.pt,.i64 2] [some (lS s).pt] (.i64 (lX s))∧(lS s).ok∧lX s≠0∧-2≤lX s∧lX s≤2:=by
  have:=(w9Letter s h).choose_spec.choose_spec
  unfold lS lX
  rw [dif_pos h,dif_pos h]
  exact this
noncomputable def wdK (s:Dc):Nat→Dc×List Int
  | 0=>(s,[])
  | k+1=>(lS (wdK s k).1,(wdK s k).2++[lX (wdK s k).1])
theorem wdK_ok (s:Dc) (h:s.ok):∀ k,(wdK s k).1.ok∧(wdK s k).2.length=k∧∀ x∈(wdK s k).2,x≠0∧-2≤x∧x≤2
  | 0=>⟨h,rfl,fun x hx=>by cases hx⟩
  | k+1=>by
    obtain ⟨h1,h2,h3⟩:=wdK_ok s h k
    obtain ⟨_,h5,h6⟩:=lF _ h1
    refine ⟨h5,by simp [wdK,h2],fun x hx=>?_⟩
    simp only [wdK,List.mem_append,List.mem_singleton] at hx
    rcases hx with hx | rfl
    · exact h3 x hx
    · exact h6
end Dice
end Go.AM
set_option maxRecDepth 8000
namespace Go.AM
namespace Dice
open Go.Proofs
def swp (m:List Int) (i j:Nat):List Int:=(m.set i (m.getD j 0)).set j (m.getD i 0)
theorem swp_len (m:List Int) (i j:Nat):(swp m i j).length=m.length:=by simp [swp]
theorem getD_set (m:List Int) (i a:Nat) (x:Int) (hi:i<m.length):(m.set i x).getD a 0=if a=i then x else m.getD a 0:=by
  by_cases h:a=i
  · subst h;rw [if_pos rfl,getD_set_same _ _ _ _ hi]
  · rw [if_neg h,getD_set_ne _ _ _ _ _ (Ne.symm h)]
theorem swp_get (m:List Int) {i j:Nat} (hi:i<m.length) (hj:j<m.length) (a:Nat):(swp m i j).getD a 0=if a=j then m.getD i 0 else if a=i then m.getD j 0 else m.getD a 0:=by
  unfold swp
  rw [getD_set _ _ _ _ (by rw [List.length_set];exact hj),getD_set _ _ _ _ hi]
theorem swp_perm {m:List Int} (hm:isPerm m) {i j:Nat} (hi:i<m.length) (hj:j<m.length):isPerm (swp m i j):=by
  refine isPerm_of (by rw [swp_len];exact hm.1) (fun a ha=>?_) (fun a b ha hb e=>?_)
  · rw [swp_len] at ha ⊢
    rw [swp_get m hi hj]
    have:=perm_get hm hi;have:=perm_get hm hj;have:=perm_get hm ha
    split
    · omega
    · split <;> omega
  · rw [swp_len] at ha hb
    rw [swp_get m hi hj,swp_get m hi hj] at e
    have key:∀ x y,x<m.length→y<m.length→m.getD x 0=m.getD y 0→x=y:=fun x y hx hy=>perm_inj hm hx hy
    split at e <;> split at e <;> (try split at e) <;> (try split at e) <;> (first | omega | (have:=key _ _ (by assumption) (by assumption) e;omega))
noncomputable def swK (s:Dc) (m:List Int) (n:Int):Nat→Dc×List Int
  | 0=>(s,m)
  | k+1=>(dS (dS (swK s m n k).1 n) n,swp (swK s m n k).2 (dX (swK s m n k).1 n).toNat (dX (dS (swK s m n k).1 n) n).toNat)
theorem swK_ok (s:Dc) (m:List Int) (n:Nat) (h:s.ok) (hm:moveOk n m):∀ k,(swK s m n k).1.ok∧moveOk n (swK s m n k).2
  | 0=>⟨h,hm⟩
  | k+1=>by
    obtain ⟨h1,h2⟩:=swK_ok s m n h hm k
    have hn:=h2.2.1
    have hl:=h2.1
    obtain ⟨_,f1,f2,f3⟩:=dF _ (n:Int) h1 (by omega)
    obtain ⟨_,g1,g2,g3⟩:=dF _ (n:Int) f1 (by omega)
    exact ⟨g1,by simp only [swK,swp_len];exact hl,swp_perm h2.2 (by omega) (by omega)⟩
noncomputable def pzK (s:Dc) (n:Nat):Nat→Dc×List (List Int)
  | 0=>(s,[])
  | k+1=>((swK (dS (pzK s n k).1 3) (runI 0 n) n (1+dX (pzK s n k).1 3).toNat).1,(pzK s n k).2++[(swK (dS (pzK s n k).1 3) (runI 0 n) n (1+dX (pzK s n k).1 3).toNat).2])
theorem pzK_ok (s:Dc) (n:Nat) (h:s.ok) (h1:3≤n) (h2:n≤5):∀ k,(pzK s n k).1.ok∧(pzK s n k).2.length=k∧∀ m∈(pzK s n k).2,moveOk n m
  | 0=>⟨h,rfl,fun x hx=>by cases hx⟩
  | k+1=>by
    obtain ⟨g1,g2,g3⟩:=pzK_ok s n h h1 h2 k
    obtain ⟨_,f1,f2,f3⟩:=dF _ 3 g1 (by omega)
    have hid:moveOk n (runI 0 n):=⟨by rw [runI_len],run_perm (by omega) (by omega)⟩
    have:=swK_ok (dS (pzK s n k).1 3) (runI 0 n) n f1 hid (1+dX (pzK s n k).1 3).toNat
    refine ⟨this.1,by simp [pzK,g2],fun m hm=>?_⟩
    simp only [pzK,List.mem_append,List.mem_singleton] at hm
    rcases hm with hm | rfl
    · exact g3 m hm
    · exact this.2
abbrev AB:AV:=.st [65,66]
theorem w9Puzzle5 (s:Dc) (h:s.ok):∃ (s':Dc) (p:Puzz),SpecX Tryz.prog 17 [s.pt] [some s'.pt] p.tr∧s'.ok∧puzzOk p∧smallP p∧p.mv.length=2∧p.n≤5:=by
  obtain ⟨s1,x1,q1,k1,b1⟩:=dbelow s 3 h (by omega)
  obtain ⟨n,hn⟩:∃ n:Nat,3+x1=n:=⟨_,(Int.toNat_of_nonneg (by omega)).symm⟩
  have hn3:3≤n:=by omega
  have hn5:n≤5:=by omega
  have e0:IntKind.i64.wrap (n:Int)=n:=wrap64_id (by omega)
  obtain ⟨z1,z2,z3⟩:=pzK_ok s1 n k1 hn3 hn5 2
  have hlen:∀ m∈(pzK s1 n 2).2,m.length≤20:=fun m hm=>(z3 m hm).2.1.2
  have hgen:genOk n (pzK s1 n 2).2:=⟨by omega,by omega,z3⟩
  refine ⟨(pzK s1 n 2).1,⟨n,[65,66],(pzK s1 n 2).2⟩,?_,z1,⟨hgen,(show namesOk [65,66] by decide),by simp only;rw [z2];rfl⟩,⟨by unfold intOk;simp only;omega,by simp,by simp only;omega,fun m hm=>by have:=hlen m hm;omega⟩,z2,by simp only;omega⟩
  have qi:=sIdentityV n (by omega) (by omega)
  have hri:=runI_len 0 n
  refine spec_of_awp (M:=MM) (np:=1) (fz:=false) mixed Tryz.func17 rfl rfl (by decide) rfl (Nat.le_refl _) (by decide +kernel) (.inl rfl) (by simp only [sigsOk_some,sigsOk_nil,and_true];rfl) ?_
  simp -dsimp -implicitDefEqProofs (disch:=first | omega | (simp only [lenr];try omega)) only [↓amPre,amAll,↓reduceIte,reduceCtorEq,Nat.reduceEqDiff,Nat.reduceBEq,Nat.reduceAdd,Nat.reduceLeDiff,Nat.reduceSub,Nat.reduceMul,Int.reduceToNat,List.size_toArray,tyF,MM,bu0,cbP9]
  refine callX_of (q1) ?_
  simp -dsimp -implicitDefEqProofs (disch:=first | omega | (simp only [lenr];try omega)) only [↓amPre,amAll,↓reduceIte,reduceCtorEq,Nat.reduceEqDiff,Nat.reduceBEq,Nat.reduceAdd,Nat.reduceLeDiff,Nat.reduceSub,Nat.reduceMul,Int.reduceToNat,List.size_toArray,tyF,MM,bu0,cbP9,hn,e0]
  refine awp_loopC 3 2 3 1 [.i64 n,AB,.nilsl] (by simp -dsimp -implicitDefEqProofs (disch:=first | omega | (simp only [lenr];try omega)) only [↓amPre,amAll,↓reduceIte,reduceCtorEq,Nat.reduceEqDiff,Nat.reduceBEq,Nat.reduceAdd,Nat.reduceLeDiff,Nat.reduceSub,Nat.reduceMul,Int.reduceToNat,List.size_toArray,tyF,MM,bu0,cbP9]) (by simp) (by simp) (fun k st=>k≤2∧st.fr 3=.loc 3 [] 0 0∧st.fr 2=.loc 2 [] 0 0∧st.fr 0=.loc 0 [] 0 0∧st.mem 3=some (.pt 3 (.agg [.i64 n,AB,sst (pzK s1 n k).2]))∧st.mem 0=some ((pzK s1 n k).1.pt)∧st.mem 2=some (.pt 3 (.agg [.i64 0,.st [],.nilsl]))) (2) ?_ ?_
  · simp -dsimp -implicitDefEqProofs (disch:=first | omega | (simp only [lenr];try omega)) only [↓amPre,amAll,↓reduceIte,reduceCtorEq,Nat.reduceEqDiff,Nat.reduceBEq,Nat.reduceAdd,Nat.reduceLeDiff,Nat.reduceSub,Nat.reduceMul,Int.reduceToNat,List.size_toArray,tyF,MM,bu0,cbP9,nilC_eq]
    simp [pzK]
  rintro k st _ ⟨hk,f3,f2,f0,m3,m0,m2⟩
  obtain ⟨g1,g2,g3⟩:=pzK_ok s1 n k1 hn3 hn5 k
  have hps:pzK s1 n (k+1)=_:=rfl
  conv at hps=>rhs;rw [pzK]
  by_cases hlt:k<2
  · obtain ⟨d0,d1,d2,d3⟩:=dF (pzK s1 n k).1 3 g1 (by omega)
    have hid:moveOk n (runI 0 n):=⟨by rw [runI_len],run_perm (by omega) (by omega)⟩
    generalize hS:(pzK s1 n k).1=S at hps g1 d0 d1 d2 d3 m0
    generalize (pzK s1 n k).2=L at hps g2 g3 m3
    generalize dS S 3=S1 at hps d0 d1
    generalize dX S 3=y at hps d0 d2 d3
    obtain ⟨c,hc⟩:∃ c:Nat,1+y=c:=⟨_,(Int.toNat_of_nonneg (by omega)).symm⟩
    rw [hc,Int.toNat_natCast] at hps
    have ec:IntKind.i64.wrap (c:Int)=c:=wrap64_id (by omega)
    have hlt':(k:Int)<2:=by omega
    simp -dsimp -implicitDefEqProofs (disch:=first | omega | (simp only [lenr];try omega)) only [↓amPre,amAll,↓reduceIte,reduceCtorEq,Nat.reduceEqDiff,Nat.reduceBEq,Nat.reduceAdd,Nat.reduceLeDiff,Nat.reduceSub,Nat.reduceMul,Int.reduceToNat,List.size_toArray,tyF,MM,bu0,cbP9,f3,f2,f0,m3,m0,m2,g2,lt_true hlt']
    refine callP_of (qi) ?_
    simp -dsimp -implicitDefEqProofs (disch:=first | omega | (simp only [lenr];try omega)) only [↓amPre,amAll,↓reduceIte,reduceCtorEq,Nat.reduceEqDiff,Nat.reduceBEq,Nat.reduceAdd,Nat.reduceLeDiff,Nat.reduceSub,Nat.reduceMul,Int.reduceToNat,List.size_toArray,tyF,MM,bu0,cbP9,f3,f2,f0,m3,m0,m2,g2,hri]
    refine callX_of (d0) ?_
    simp -dsimp -implicitDefEqProofs (disch:=first | omega | (simp only [lenr];try omega)) only [↓amPre,amAll,↓reduceIte,reduceCtorEq,Nat.reduceEqDiff,Nat.reduceBEq,Nat.reduceAdd,Nat.reduceLeDiff,Nat.reduceSub,Nat.reduceMul,Int.reduceToNat,List.size_toArray,tyF,MM,bu0,cbP9,f3,f2,f0,m3,m0,m2,g2,hc,ec]
    refine awp_loop (fun i st=>i≤c∧st.fr 5=.i64 ((c:Int) - i)∧st.fr 4=.ref 19 [] 1 0 n∧st.fr 3=.loc 3 [] 0 0∧st.fr 2=.loc 2 [] 0 0∧st.fr 0=.loc 0 [] 0 0∧st.mem 3=some (.pt 3 (.agg [.i64 n,AB,sst L]))∧st.mem 0=some ((swK S1 (runI 0 n) n i).1.pt)∧st.mem 2=some (.pt 3 (.agg [.i64 0,.st [],.nilsl]))∧st.mem 19=some (itr (swK S1 (runI 0 n) n i).2)) (c) ?_ ?_
    · simp -dsimp -implicitDefEqProofs (disch:=first | omega | (simp only [lenr];try omega)) only [↓amPre,amAll,↓reduceIte,reduceCtorEq,Nat.reduceEqDiff,Nat.reduceBEq,Nat.reduceAdd,Nat.reduceLeDiff,Nat.reduceSub,Nat.reduceMul,Int.reduceToNat,List.size_toArray,tyF,MM,bu0,cbP9,f3,f2,f0,m3,m0,m2]
      simp [swK,hri]
    rintro i st _ ⟨hi,f5,f4,f3,f2,f0,m3,m0,m2,m19⟩
    obtain ⟨w1,w2⟩:=swK_ok S1 (runI 0 n) n d1 hid i
    have hss:swK S1 (runI 0 n) n (i+1)=_:=rfl
    conv at hss=>rhs;rw [swK]
    have hwl:(swK S1 (runI 0 n) n i).2.length=n:=by have:=w2.1;omega
    by_cases hli:i<c
    · obtain ⟨a0,a1,a2,a3⟩:=dF (swK S1 (runI 0 n) n i).1 n w1 (by omega)
      obtain ⟨b0,b1',b2,b3⟩:=dF (dS (swK S1 (runI 0 n) n i).1 n) n a1 (by omega)
      generalize hT:(swK S1 (runI 0 n) n i).1=T at hss a0 a1 a2 a3 b0 b1' b2 b3 m0
      generalize (swK S1 (runI 0 n) n i).2=m at hss hwl m19
      generalize dS T n=T1 at hss a0 b0 b1' b2 b3
      generalize dS T1 n=T2 at hss b0 b1'
      obtain ⟨u,hu⟩:∃ u:Nat,dX T n=u:=⟨_,(Int.toNat_of_nonneg a2).symm⟩
      obtain ⟨v,hv⟩:∃ v:Nat,dX T1 n=v:=⟨_,(Int.toNat_of_nonneg b2).symm⟩
      rw [hu] at hss a0 a3
      rw [hv] at hss b0 b3
      rw [Int.toNat_natCast,Int.toNat_natCast] at hss
      have hul:u<m.length:=by omega
      have hvl:v<m.length:=by omega
      have c1:(0:Int)<(c:Int) - i:=by omega
      have e1:IntKind.i64.wrap ((c:Int) - i - 1)=(c:Int) - (i+1:Nat):=by rw [wrap64_id (by omega)];omega
      have hsw:(m.set u (m.getD v 0)).set v (m.getD u 0)=swp m u v:=rfl
      have hswl:(swp m u v).length=n:=by rw [swp_len];exact hwl
      simp -dsimp -implicitDefEqProofs (disch:=first | omega | (simp only [lenr];try omega)) only [↓amPre,amAll,↓reduceIte,reduceCtorEq,Nat.reduceEqDiff,Nat.reduceBEq,Nat.reduceAdd,Nat.reduceLeDiff,Nat.reduceSub,Nat.reduceMul,Int.reduceToNat,List.size_toArray,tyF,MM,bu0,cbP9,f5,f4,f3,f2,f0,m3,m0,m2,m19,lt_true c1]
      refine callX_of (a0) ?_
      simp -dsimp -implicitDefEqProofs (disch:=first | omega | (simp only [lenr];try omega)) only [↓amPre,amAll,↓reduceIte,reduceCtorEq,Nat.reduceEqDiff,Nat.reduceBEq,Nat.reduceAdd,Nat.reduceLeDiff,Nat.reduceSub,Nat.reduceMul,Int.reduceToNat,List.size_toArray,tyF,MM,bu0,cbP9,f5,f4,f3,f2,f0,m3,m0,m2,m19]
      refine callX_of (b0) ?_
      simp -dsimp -implicitDefEqProofs (disch:=first | omega | (simp only [lenr];try omega)) only [↓amPre,amAll,↓reduceIte,reduceCtorEq,Nat.reduceEqDiff,Nat.reduceBEq,Nat.reduceAdd,Nat.reduceLeDiff,Nat.reduceSub,Nat.reduceMul,Int.reduceToNat,List.size_toArray,tyF,MM,bu0,cbP9,f5,f4,f3,f2,f0,m3,m0,m2,m19,hwl,e1,hss,hsw,hswl]
      repeat' (first | omega | rfl | exact i64c (by omega) | exact vic (by omega) | apply And.intro)
    · have hie:i=c:=by omega
      subst hie
      have c1:((i:Nat):Int) - (i:Nat)≤0:=by omega
      generalize (swK S1 (runI 0 n) n i).1=S3 at hps m0
      generalize (swK S1 (runI 0 n) n i).2=m at hps m19 hwl
      simp -dsimp -implicitDefEqProofs (disch:=first | omega | (simp only [lenr];try omega)) only [↓amPre,amAll,↓reduceIte,reduceCtorEq,Nat.reduceEqDiff,Nat.reduceBEq,Nat.reduceAdd,Nat.reduceLeDiff,Nat.reduceSub,Nat.reduceMul,Int.reduceToNat,List.size_toArray,tyF,MM,bu0,cbP9,f5,f4,f3,f2,f0,m3,m0,m2,m19,lt_false c1,g2,hps]
      repeat' (first | omega | rfl | exact i64c (by omega) | exact vic (by omega) | apply And.intro)
  · have hke:k=2:=by omega
    subst hke
    simp -dsimp -implicitDefEqProofs (disch:=first | omega | (simp only [lenr];try omega)) only [↓amPre,amAll,↓reduceIte,reduceCtorEq,Nat.reduceEqDiff,Nat.reduceBEq,Nat.reduceAdd,Nat.reduceLeDiff,Nat.reduceSub,Nat.reduceMul,Int.reduceToNat,List.size_toArray,tyF,MM,bu0,cbP9,f3,f2,f0,m3,m0,m2,g2]
end Dice
end Go.AM
set_option maxRecDepth 8000
namespace Go.AM
namespace Dice
open Go.Proofs
theorem w9Word4 (s:Dc) (h:s.ok):∃ (s':Dc) (w:List Int),SpecX Tryz.prog 26 [s.pt,.i64 2,.i64 4] [some s'.pt] (itr w)∧s'.ok∧w.length≤4∧∀ x∈w,x≠0∧-2≤x∧x≤2:=by
  obtain ⟨s1,x1,q1,k1,b1⟩:=dbelow s 5 h (by omega)
  obtain ⟨n,hn⟩:∃ n:Nat,x1=n:=⟨_,(Int.toNat_of_nonneg b1.1).symm⟩
  subst hn
  have hn5:n≤4:=by omega
  have hk:=wdK_ok s1 k1 n
  refine ⟨(wdK s1 n).1,(wdK s1 n).2,?_,hk.1,by omega,hk.2.2⟩
  refine spec_of_awp (M:=MM) (np:=3) (fz:=false) mixed Tryz.func26 rfl rfl (by decide) rfl (Nat.le_refl _) (by decide +kernel) (.inl rfl) (by simp only [sigsOk_some,sigsOk_nil,and_true];rfl) ?_
  simp -dsimp -implicitDefEqProofs (disch:=first | omega | (simp only [lenr];try omega)) only [↓amPre,amAll,↓reduceIte,reduceCtorEq,Nat.reduceEqDiff,Nat.reduceBEq,Nat.reduceAdd,Nat.reduceLeDiff,Nat.reduceSub,Nat.reduceMul,Int.reduceToNat,List.size_toArray,tyF,MM,bu0,cbP9]
  refine callX_of (q1) ?_
  simp -dsimp -implicitDefEqProofs (disch:=first | omega | (simp only [lenr];try omega)) only [↓amPre,amAll,↓reduceIte,reduceCtorEq,Nat.reduceEqDiff,Nat.reduceBEq,Nat.reduceAdd,Nat.reduceLeDiff,Nat.reduceSub,Nat.reduceMul,Int.reduceToNat,List.size_toArray,tyF,MM,bu0,cbP9]
  refine awp_loopR 9 23 (.tr 1 []) (by simp -dsimp -implicitDefEqProofs (disch:=first | omega | (simp only [lenr];try omega)) only [↓amPre,amAll,↓reduceIte,reduceCtorEq,Nat.reduceEqDiff,Nat.reduceBEq,Nat.reduceAdd,Nat.reduceLeDiff,Nat.reduceSub,Nat.reduceMul,Int.reduceToNat,List.size_toArray,tyF,MM,bu0,cbP9]) (by decide) (by decide) (by decide) (fun k st=>k≤n∧st.fr 8=.i64 ((n:Int) - k)∧st.fr 7=.ref 23 [] 1 0 k∧st.fr 0=.loc 0 [] 0 0∧st.fr 1=.i64 2∧st.mem 23=some (itr (wdK s1 k).2)∧st.mem 0=some ((wdK s1 k).1.pt)) (n) ?_ ?_
  · simp -dsimp -implicitDefEqProofs (disch:=first | omega | (simp only [lenr];try omega)) only [↓amPre,amAll,↓reduceIte,reduceCtorEq,Nat.reduceEqDiff,Nat.reduceBEq,Nat.reduceAdd,Nat.reduceLeDiff,Nat.reduceSub,Nat.reduceMul,Int.reduceToNat,List.size_toArray,tyF,MM,bu0,cbP9,ren_eq]
    simp [wdK]
  rintro k st _ ⟨hk,f8,f7,f0,f1,m23,m0⟩
  obtain ⟨h1,h2,h3⟩:=wdK_ok s1 k1 k
  have hs:wdK s1 (k+1)=(lS (wdK s1 k).1,(wdK s1 k).2++[lX (wdK s1 k).1]):=rfl
  by_cases hlt:k<n
  · have hf:=lF _ h1
    generalize lS (wdK s1 k).1=S2 at hs hf
    generalize lX (wdK s1 k).1=x at hs hf
    have c1:(0:Int)<(n:Int) - k:=by omega
    have e1:IntKind.i64.wrap ((n:Int) - k - 1)=(n:Int) - (k+1:Nat):=by rw [wrap64_id (by omega)];omega
    simp -dsimp -implicitDefEqProofs (disch:=first | omega | (simp only [lenr];try omega)) only [↓amPre,amAll,↓reduceIte,reduceCtorEq,Nat.reduceEqDiff,Nat.reduceBEq,Nat.reduceAdd,Nat.reduceLeDiff,Nat.reduceSub,Nat.reduceMul,Int.reduceToNat,List.size_toArray,tyF,MM,bu0,cbP9,f8,f7,f0,f1,m23,m0,lt_true c1]
    refine callX_of (hf.1) ?_
    simp -dsimp -implicitDefEqProofs (disch:=first | omega | (simp only [lenr];try omega)) only [↓amPre,amAll,↓reduceIte,reduceCtorEq,Nat.reduceEqDiff,Nat.reduceBEq,Nat.reduceAdd,Nat.reduceLeDiff,Nat.reduceSub,Nat.reduceMul,Int.reduceToNat,List.size_toArray,tyF,MM,bu0,cbP9,f8,f7,f0,f1,m23,m0,h2,e1,hs]
    repeat' (first | omega | rfl | exact i64c (by omega) | exact vic (by omega) | apply And.intro)
  · have hke:k=n:=by omega
    subst hke
    have c1:((k:Nat):Int) - (k:Nat)≤0:=by omega
    simp -dsimp -implicitDefEqProofs (disch:=first | omega | (simp only [lenr];try omega)) only [↓amPre,amAll,↓reduceIte,reduceCtorEq,Nat.reduceEqDiff,Nat.reduceBEq,Nat.reduceAdd,Nat.reduceLeDiff,Nat.reduceSub,Nat.reduceMul,Int.reduceToNat,List.size_toArray,tyF,MM,bu0,cbP9,f8,f7,f0,f1,m23,m0,lt_false c1,h2]
end Dice
end Go.AM
namespace Go.Proofs
open Go.RowKit Go.Shelf
attribute [local go_sem] Oper.semAt_some
/-! slices.Backward,and the word behind it -/
def Bw.upto {α:Type} (f:Nat→α) (k:Nat):List α:=(List.range k).map f
theorem Bw.upto_succ {α:Type} (f:Nat→α) (k:Nat):Bw.upto f (k+1)=Bw.upto f k++[f k]:=by simp [Bw.upto,List.range_succ]
theorem Bw.upto_length {α:Type} (f:Nat→α) (k:Nat):(Bw.upto f k).length=k:=by simp [Bw.upto]
abbrev Bw.f (zs:List Int) (j:Nat):Nat×Int:=(zs.length - 1 - j,zs[zs.length - 1 - j]?.getD 0)
def Bw.KB (n₀ Bs:Nat) (A B:World):Prop:=Below n₀ A B∧∀ v,Boxed A Bs 25 v→Boxed B Bs 25 v
theorem Bw.KB.refl (n₀ Bs:Nat) (A:World):Bw.KB n₀ Bs A A:=⟨Below.refl _ _,fun _ h=>h⟩
theorem Bw.KB.trans {n₀ Bs:Nat} {A B C:World} (h:Bw.KB n₀ Bs A B) (k:Bw.KB n₀ Bs B C):Bw.KB n₀ Bs A C:=⟨h.1.trans k.1,fun v hv=>k.2 v (h.2 v hv)⟩
theorem Bw.KB.put {n₀ Bs:Nat} {w:World} (hn:n₀≤w.heap.size) (hb:Bs<w.heap.size) (W:World) (l:Nat) (o o':Obj) (hl:w.heap.size≤l) (h:W.heap[l]? = some o) (hc:o.isCells=false) (hw:o.isWalk=false):Bw.KB n₀ Bs W (W.putObj l o') :=
  ⟨belowK_b hn W l o o' hl h hc hw,fun v hv=>hv.kept (grownBy_putObj' W l o') (fun e=>by cases e;omega)⟩
set_option maxRecDepth 100000 in set_option maxHeartbeats 2000000 in
theorem Bw.back1_in (F:Fence) (n:Nat) (h8:F.fn 118) (hro:F.round=none) (hn:1≤n) (l Bs n₀ b off cap:Nat) (zs:List Int) (hreach:zs.length*8≤140737488351232) (hb:b<n₀) (J Jx:List (Nat×Int)→World→Prop)
    (hY:∀ pre x W,J pre W→pre.length<zs.length→YieldAt F (n - 1) Tryz.prog l #[.int .i64 (x.1:Int),.int .i64 x.2] W fun e W' =>
      (e=.returned (.bool true)∧J (pre++[x]) W'∧Bw.KB n₀ Bs W W')∨(e=.returned (.bool false)∧Jx (pre++[x]) W'))
    (W:World) (hBs:Boxed W Bs 25 (.slice (some ⟨b,off,none⟩) zs.length cap)) (hc:∀ j,j<zs.length→W.cell? ⟨b,off+j,none⟩=some (.int .i64 (zs[j]?.getD 0))) (h0:J [] W) :
    CallsIn F n Tryz.prog 118 #[.func (.yield l) #[] #[],.pointer (some ⟨Bs,0,none⟩)] W fun e W'=>(∃ v,e=.returned v) ∧
      ((∃ ys,ys=Bw.upto (Bw.f zs) zs.length∧J ys W')∨(∃ pre,(∃ k,k≤zs.length∧pre=Bw.upto (Bw.f zs) k)∧Jx pre W')):=by
  have hBc:=hBs.cell
  refine callsIn_of_wp Tryz.func118 rfl h8 ?_ hro
  simp only [Tryz.ntmps118,List.size_toArray,List.length_cons,List.length_nil,Nat.reduceAdd,Nat.reduceSub,Array.replicate_succ,Array.replicate_zero,List.push_toArray,List.append_toArray,List.nil_append,List.cons_append]
  gi_wp2
  gi_loopw [3] (fun i wr=>∃ k:Nat,k≤zs.length∧i=.int .i64 ((zs.length:Int) - 1 - k)∧J (Bw.upto (Bw.f zs) k) wr∧Bw.KB n₀ Bs W wr)
    (fun i _=>(intOf i+1).toNat)
  case atStart=>exact ⟨0,Nat.zero_le _,by simp,h0,Bw.KB.refl _ _ _⟩
  case round =>
    obtain ⟨k,hk,rfl,hJs,hnx⟩:=hrel
    have hBs':wr.cell? ⟨Bs,0,none⟩=some (.slice (some ⟨b,off,none⟩) zs.length cap):=(hnx.2 _ hBs).cell
    by_cases hlt:k<zs.length
    · obtain ⟨q,hq⟩:∃ q:Nat,q+1+k=zs.length:=⟨zs.length - 1 - k,by omega⟩
      have hqq:zs.length - 1 - k=q:=by omega
      have hfk:Bw.f zs k=(q,zs[q]?.getD 0):=by rw [Bw.f,hqq]
      rw [show ((zs.length:Int) - 1 - k)=(q:Int) by omega]
      have hcx':wr.cell? ⟨b,off+q,none⟩=some (.int .i64 (zs[q]?.getD 0)):=(hnx.1.cell (p:=⟨b,off+q,none⟩) hb).trans (hc q (by omega))
      obtain ⟨fn,tmps,assign,body,hy,hR⟩:=hY _ (q,zs[q]?.getD 0) wr hJs (by rw [Bw.upto_length];exact hlt)
      dsimp only at hy
      gi_wp2
      refine hR.mono ?_
      rintro e W3 (⟨rfl,hJ3,hk3⟩ | ⟨rfl,hJx3⟩)
      · gi_wp2
        go_roundw
        case rel=>exact ⟨k+1,by omega,by simp;omega,by rw [Bw.upto_succ,hfk];exact hJ3,hnx.trans hk3⟩
        case measure=>simp [intOf]
      · gi_wp2
        refine bodyPost_ret (results_none rfl _ _ _) rfl ?_
        exact ⟨⟨_,rfl⟩,.inr ⟨_,⟨k+1,by omega,by rw [Bw.upto_succ,hfk]⟩,hJx3⟩⟩
    · obtain rfl:k=zs.length:=by omega
      rw [show ((zs.length:Int) - 1 - (zs.length:Nat)) = -1 by omega]
      gi_wp2
      go_end0
      exact ⟨⟨_,rfl⟩,.inl ⟨_,rfl,hJs⟩⟩
set_option maxRecDepth 100000 in set_option maxHeartbeats 1000000 in
theorem Bw.back0_in (F:Fence) (n:Nat) (h8:F.fn 118) (hro:F.round=none) (l Bs c:Nat) (a:Option Addr) (J:List (Nat×Int)→World→Prop) (W:World) (hBs:W.cell? ⟨Bs,0,none⟩=some (.slice a 0 c)) (h0:J [] W) :
    CallsIn F n Tryz.prog 118 #[.func (.yield l) #[] #[],.pointer (some ⟨Bs,0,none⟩)] W fun e W'=>(∃ v,e=.returned v)∧J [] W':=by
  refine callsIn_of_wp Tryz.func118 rfl h8 ?_ hro
  simp only [Tryz.ntmps118,List.size_toArray,List.length_cons,List.length_nil,Nat.reduceAdd,Nat.reduceSub,Array.replicate_succ,Array.replicate_zero,List.push_toArray,List.append_toArray,List.nil_append,List.cons_append]
  gi_wp2
  gi_loopw [3] (fun i wr=>i=.int .i64 (-1)∧J [] wr) (fun _ _=>0)
  case atStart=>exact ⟨by simp,h0⟩
  case round =>
    obtain ⟨rfl,hJs⟩:=hrel
    gi_wp2
    go_end0
    exact ⟨⟨_,rfl⟩,hJs⟩
set_option maxHeartbeats 1000000 in
theorem Bw.back_in (F:Fence) (n:Nat) (h5:F.fn 98) (hro:F.round=none) (a:Option Addr) (len cap:Nat) (w:World) :
    CallsIn F n Tryz.prog 98 #[.slice a len cap] w fun e w'=>e=.returned (.func (.func 118) #[] #[.pointer (some ⟨w.heap.size,0,none⟩)])∧w'=w.alloc (.cells #[.slice a len cap] 25):=by
  refine callsIn_of_wp Tryz.func98 rfl h5 ?_ hro
  simp only [Tryz.ntmps98,List.size_toArray,List.length_cons,List.length_nil,Nat.reduceAdd,Nat.reduceSub,Array.replicate_succ,Array.replicate_zero,List.push_toArray,List.append_toArray,List.nil_append,List.cons_append]
  gi_wp2
  go_ret
  exact ⟨rfl,rfl⟩
def Bw.Ints (n₀:Nat) (W:World) (sv:Value) (zs:List Int):Prop :=
  (∃ a c,sv=.slice a 0 c∧zs=[])∨∃ b off cap,sv=.slice (some ⟨b,off,none⟩) zs.length cap∧b<n₀∧∀ j,j<zs.length→W.cell? ⟨b,off+j,none⟩=some (.int .i64 (zs[j]?.getD 0))
theorem Bw.Ints.below {n₀:Nat} {A B:World} (h:Below n₀ A B) {sv:Value} {zs:List Int}:Bw.Ints n₀ A sv zs→Bw.Ints n₀ B sv zs
  | .inl e=>.inl e
  | .inr ⟨b,off,cap,e,hb,hc⟩=>.inr ⟨b,off,cap,e,hb,fun j hj=>(h.cell (p:=⟨b,off+j,none⟩) hb).trans (hc j hj)⟩
theorem Bw.back_stops (F:Fence) (n:Nat) (h7:F.fn 118) (hro:F.round=none) (hn:1≤n) (Bs n₀:Nat) (sv:Value) (zs:List Int) (hreach:zs.length*8≤140737488351232) (w:World) (hn₀:n₀≤w.heap.size)
    (hc:Boxed w Bs 25 sv) (hI:Bw.Ints n₀ w sv zs) :
    SeqStopsK F n Tryz.prog 118 #[.pointer (some ⟨Bs,0,none⟩)] (fun x:Nat×Int=>#[Value.int .i64 (x.1:Int),Value.int .i64 x.2]) (Bw.KB n₀ Bs) (fun ys=>ys=Bw.upto (Bw.f zs) zs.length)
      (fun pre=>∃ k,k≤zs.length∧pre=Bw.upto (Bw.f zs) k) zs.length w:=fun l J Jx W hW _ _ hY h0=>by
  have hc':Boxed W Bs 25 sv:=(hW.block Bs hc.lt).trans hc
  rcases hI.below (hW.mono hn₀) with ⟨a,c,rfl,rfl⟩ | ⟨b,off,cap,rfl,hb,hcs⟩
  · exact (Bw.back0_in F n h7 hro l Bs c a J W hc'.cell h0).mono fun e W' ⟨he,hj⟩=>⟨he,.inl ⟨_,rfl,hj⟩⟩
  · exact Bw.back1_in F n h7 hro hn l Bs n₀ b off cap zs hreach hb J Jx hY W hc' hcs h0
def Bw.neg (pre:List (Nat×Int)):List Int:=pre.map fun p=>wrap64 (-p.2)
theorem Bw.neg_snoc (pre:List (Nat×Int)) (x:Nat×Int):Bw.neg (pre++[x])=Bw.neg pre++[wrap64 (-x.2)]:=by simp [Bw.neg]
theorem Bw.info2:(Tryz.prog.info? 2).map (fun i=>(i.zero,i.size,i.bytes))=some (some (.int .i64 0),1,8):=by kernel_rfl
set_option maxRecDepth 100000 in set_option maxHeartbeats 2000000 in
theorem Bw.inverse_in (F:Fence) (n:Nat) (h3:F.fn 60) (h4:F.fn 98) (h5:F.fn 118) (hro:F.round=none) (hn:3≤n) (a:Option Addr) (len c:Nat) (zs:List Int) (hreach:zs.length*8≤140737488351232) (hz:∀ z∈zs,-9223372036854775807≤z∧z≤9223372036854775807) (w:World) (hI:Bw.Ints w.heap.size w (.slice a len c) zs) :
    CallsIn F n Tryz.prog 60 #[.slice a len c] w fun e W'=>∃ v,e=.returned v∧W'.ownsRow w.heap.size 2 1 v (Bw.neg (Bw.upto (Bw.f zs) zs.length)).length ((Bw.neg (Bw.upto (Bw.f zs) zs.length)).map (Value.int .i64))∧Below w.heap.size w W':=by
  have h1:1≤n:=by omega
  obtain ⟨i0,hi,hz0,hz1,hz2⟩:=info_parts Bw.info2
  refine callsIn_of_wp_marks Tryz.func60 rfl h3 ?_ hro
  simp only [Tryz.ntmps60,List.size_toArray,List.length_cons,List.length_nil,Nat.reduceAdd,Nat.reduceSub,Array.replicate_succ,Array.replicate_zero,List.push_toArray,List.append_toArray,List.nil_append,List.cons_append]
  gi_wp2_with (gi_at_call 98;refine (Bw.back_in F (n - 1) h4 hro _ _ _ _).mono ?_;rintro e w' ⟨rfl,rfl⟩)
  have bO:=Boxed.new w 25 (.slice none 0 0)
  have bN:=Boxed.new (w.alloc (.cells #[.slice none 0 0] 25)) 25 (.slice a len c)
  rw [World.size_alloc] at bN
  have hB0:Below w.heap.size w ((w.alloc (.cells #[.slice none 0 0] 25)).alloc (.cells #[.slice a len c] 25)):=((Below.refl _ w).alloc (Nat.le_refl _) _).alloc (by simp) _
  refine wpIn_rangeFunc_ownG hro h1 (gf:=118) (lb:=#[.pointer (some ⟨w.heap.size+1,0,none⟩)]) rfl h5 (enters_of Tryz.func118 (by kernel_rfl) rfl)
    (Bw.back_stops F (n - 1) h5 hro (by omega) (w.heap.size+1) w.heap.size _ zs hreach _ (by simp;omega) bN (hI.below hB0)) (fun h k=>h.trans k) (Bw.KB.put (by simp;omega) (by simp)) (Below.refl _ _) (fun _=>rfl)
    (fun pre W=>((∃ v,Boxed W w.heap.size 25 v∧W.ownsRow w.heap.size 2 1 v (Bw.neg pre).length ((Bw.neg pre).map (Value.int .i64))∧True)∧Boxed W (w.heap.size+1) 25 (.slice a len c))∧Below w.heap.size w W)
    (fun _ _ _=>False)
    (OwnFrom.and (Own.from (fun s A B row hs hg hr=>⟨holdsRow_own w.heap.size w.heap.size 25 2 1 (fun pre=>(Bw.neg pre).length) (fun pre=>(Bw.neg pre).map (Value.int .i64)) (fun _ _=>True) s A B row hs.1 hg hr,hs.2.kept hg (fun e'=>by
      obtain ⟨o,ho,hc⟩:=hr _ e'.symm
      rw [show A.heap[w.heap.size+1]? = _ from hs.2] at ho;cases ho;cases hc)⟩) _) (ownFrom_below (Nat.le_refl _) (by simp;omega)))
    (fun _ _ _ _ _ hs _ _=>hs)
    ⟨⟨⟨_,bO.alloc _,World.ownsRow_nil _ _ _ _,trivial⟩,bN⟩,hB0⟩
    (fun x=>{ tmps:=#[.slice a len c,undef,.slice none 0 0,.pointer (some ⟨w.heap.size,0,none⟩),undef,.int .i64 x.2,.slice a len c,.func (.func 118) #[] #[.pointer (some ⟨w.heap.size+1,0,none⟩)],.int .i64 (x.1:Int),.int .i64 x.2,undef,undef,undef,undef,undef,undef],defers:=[] }) ?assign ?body ?done ?stop
  case assign =>
    intro l x W K hK
    gi_wp2
    exact hK
  case body =>
    rintro l pre x W ⟨⟨⟨v,hv,hrow,_⟩,hbx⟩,hB⟩ hlt
    have hc:=hv.cell
    have hml:zs.length≤maxLen:=by unfold maxLen;omega
    have hpl:(Bw.neg pre).length≤pre.length:=by simp [Bw.neg]
    gi_wp2_with (gi_at_builtin;refine wpListIn_append_own _ rfl _ _ 25 rfl w.heap.size 2 i0 (.int .i64 0) 1 8 Tryz.underlying25 hi hz0 hz1 hz2 rfl (by decide) _ _ _ rfl (hrow.alloc _) ⟨W.heap.size,0,none⟩ 1 1 [.int .i64 (wrap64 (-x.2))] rfl rfl (cell_one_new _ _ _) (by simp [Value.oneCell']) (by omega) (by omega) (by have:=hB.size;simp;omega) ?_;intro v' w1 hown' hgrow _;obtain ⟨g',cap',rfl⟩:=ownsRow_succ hown';obtain ⟨hv1,hv2,hr2,hk2,hb2⟩:=hv.appended (by decide) hrow hB.size (Nat.le_refl _) hown' hgrow;have hc1:=hv1.cell;have hf1:=hv1.frozen;have hbw:=(hbx.alloc (.cells #[.int .i64 (wrap64 (-x.2))] 2)).kept hgrow (hbx.not_row (by decide) hrow);have hbw2:=hbw.kept (grownBy_setCell' w1 w.heap.size (.slice (some ⟨g',0,none⟩) ((Bw.neg pre).length+1) cap')) (by intro e;injection e with e;omega))
    exact ⟨hk2.from _, ⟨hb2, fun v hv3 => by have e:Boxed W (w.heap.size+1) 25 v:=hv3;have:v=.slice a len c:=by unfold Boxed at e hbx;rw [hbx] at e;injection e with e;injection e with e;simpa using e.symm
                                             subst this;exact hbw2⟩,⟨⟨_,hv2,by rw [Bw.neg_snoc];simpa using hr2,trivial⟩,hbw2⟩,hB.trans hb2⟩
  case done =>
    rintro D ys W hD rfl ⟨⟨⟨v,hv,hrow,_⟩,hbx⟩,hB⟩ hK
    have hc:=hv.cell
    gi_wp2
    refine ⟨by simp,.inl ⟨_,_,rfl,run_takeDeferred hK,?_⟩⟩
    exact ⟨_,results_tmp rfl _ _ _,v,rfl,ownsRow_putObj hrow _ hK rfl,hB.trans (belowK_b (w:=w) (Nat.le_refl _) W D _ _ (by simp at hD;omega) hK rfl rfl)⟩
  case stop =>
    rintro D c pre W _ _ h _
    exact h.elim
end Go.Proofs
set_option maxRecDepth 8000
namespace Go.Proofs
open Go.Shelf Go.RowKit
theorem Bw.grow (n:Nat) (hn:n≤1099511627776) (W:World):Calls Tryz.prog 117 #[.slice none 0 0,.int .i64 n] W fun e w'=>∃ v,e=.returned v∧w'.ownsRow W.heap.size 2 1 v 0 []∧Below W.heap.size W w':=by
  have hb:Tryz.t2.bytes=8:=rfl
  have hfit:Builtin.nextslicecap n 0=n∨n=0:=by
    by_cases h:n=0
    · exact .inr h
    · left;unfold Builtin.nextslicecap;simp;omega
  have hge:=grownCap_ge W n 0 2
  have hle:=grownCap_le_maxLen W n 0 2 (by unfold maxLen;omega)
  unfold grownCap at hge hle
  generalize hcc:(Question.appendCap n 0 2).cut (W.tape W.drawn (Question.appendCap n 0 2))=C at hge hle
  go_enter Tryz.func117,Tryz.ntmps117
  go_wp2
  · go_ret
    have e:C=n+(C - n):=by omega
    refine ⟨_,rfl,⟨rfl,.inr ⟨W.heap.size,C,_,rfl,Nat.le_refl _,World.alloc_heap_new W _,Nat.zero_le _,hle,?_,by simp⟩⟩,(((Below.refl _ W).alloc (Nat.le_refl _) _).drew)⟩
    simp [Builtin.zeroCells]
    omega
  · go_ret
    exact ⟨_,rfl,World.ownsRow_nil _ _ _ _,Below.refl _ _⟩
end Go.Proofs
namespace Go.AM
/-! a function that reads its arguments and hands back a new row of ints: from the kit's word to a contract -/
theorem spec_row {P:Program} {f:FuncId} (hb:HasBody P f) (args:List AV) (hst:args.all (fun a=>!a.nodeB)=true) (L:List Int) (E:TypeId)
    (hs:∀ I w (vals:Array Value),Held I w→vals.size=args.length→(∀ j (hj:j<args.length) (hk:j<vals.size),RepS I (args[j]) (vals[j])) →
      Calls P f vals w fun e w'=>∃ v,e=.returned v∧w'.ownsRow w.heap.size E 1 v L.length (L.map (Value.int .i64))∧Go.RowKit.Below w.heap.size w w'):SpecAt P f args (itr L):=by
  refine ⟨hb,by simp,fun j T hj=>by simp at hj,fun I π w vals hI hvs hsep htop=>?_⟩
  refine (hs I w vals hI hvs fun j hj hk=>top_stat (htop j hj hk) (by
    have:=List.all_eq_true.1 hst _ (List.getElem_mem hj)
    simpa using this)).mono ?_
  rintro e w' ⟨v,rfl,⟨_,hrow⟩,hbel⟩
  have hmem:∀ {i T},outMem args.length [] (itr L) i=some T→i=args.length∧T=itr L:=fun {i T} h1=>by
    unfold outMem at h1
    split at h1
    · rename_i h;cases h1;exact ⟨h,rfl⟩
    · simp at h1
  have hHeld:Held I w':=hI.same fun b o x hx=>hbel.block b (hI.lt hx)
  have hend:BelowX (Owns π (fun i=>args[i]?)) w.heap.size w w':=⟨hbel.os,hbel.tape,hbel.output,hbel.size,fun b h1 _=>hbel.block b h1⟩
  rcases hrow with ⟨rfl,hn⟩ | ⟨g,cap,cur,rfl,hg,hblk,hc,hcm,hcs,hvals⟩
  · have hL:L=[]:=List.length_eq_zero_iff.1 hn
    subst hL
    refine ⟨I,fun _ _=>none,.slice none 0 0,rfl,hHeld,⟨fun i T p h1=>?_,fun i T p k h1 h2 h3=>(by cases h3),fun i T p k i' T' p' k' h1 h2 h3=>(by cases h3)⟩,.inl ⟨rfl,?_⟩,fun j T hT=>by simp at hT,hend,fun _ _ _=>rfl,fun b ⟨i,T,p,k,h1,h2,h3,_⟩=>(by cases h3)⟩
    · obtain ⟨rfl,rfl⟩:=hmem h1
      cases hnn:((itr []).at p).isNode with
      | false=>exact node_false hnn
      | true=>have:=node_itr hnn;subst this;exact .inl ⟨rfl,rfl⟩
    · exact .inr ⟨rfl,none,rfl⟩
  · have hlt:g<w'.heap.size:=(Array.getElem?_eq_some_iff.1 hblk).1
    have hget:∀ i,i<L.length→cur.getD i undef=.int .i64 (L.getD i 0):=fun i hi=>by
      have h1:i<cur.size:=by omega
      have h2:(cur.toList.take (L.length*1))[i]? = some (.int .i64 (L.getD i 0)):=by
        rw [hvals,List.getElem?_map,List.getElem?_eq_getElem hi,getD_eq _ _ _ hi];rfl
      rw [List.getElem?_take,if_pos (by omega)] at h2
      rw [Array.getD_eq_getD_getElem?]
      have h3:cur[i]? = some (.int .i64 (L.getD i 0)):=by simpa using h2
      rw [h3];rfl
    refine ⟨I,fun i p=>if i=args.length∧p=[] then some ⟨g,0,1,cap⟩ else none,.slice (some ⟨g,0,none⟩) L.length cap,rfl,hHeld,⟨fun i T p h1=>?_,fun i T p k h1 h2 h3 o=>?_,fun i T p k i' T' p' k' h1 h2 h3 h4 h5 h6 _=>?_⟩,.inl ⟨rfl,?_⟩,fun j T hT=>by simp at hT,hend,fun _ _ _=>rfl,fun b ⟨i,T,p,k,h1,h2,h3,h4⟩=>?_⟩
    · obtain ⟨rfl,rfl⟩:=hmem h1
      cases hnn:((itr L).at p).isNode with
      | false=>exact node_false hnn
      | true =>
        have:=node_itr hnn;subst this
        refine .inr ⟨⟨g,0,1,cap⟩,E,cur,by simp,rfl,by simpa using hc,hcm,hblk,by simp [hcs],fun i hi=>⟨by simp [AV.cells],fun j hj=>?_⟩⟩
        have hi':i<L.length:=by simpa using hi
        have hj':j=0:=by simp [AV.cells] at hj;omega
        subst hj'
        have e:=hget i hi'
        simp only [Nat.zero_add,Nat.mul_one,Nat.add_zero]
        rw [e]
        refine ⟨.inr ⟨by simp [AV.cells,AV.isNode],?_⟩,rfl⟩
        have e2:((List.map AV.i64 L)[i]).cells[0]=AV.i64 (L.getD i 0):=by rw [getD_eq _ _ _ hi'];simp [AV.cells]
        rw [e2]
        exact .v _
    · obtain ⟨rfl,rfl⟩:=hmem h1
      simp only at h3
      split at h3
      · cases h3
        cases hx:I g o with
        | none=>rfl
        | some x=>exact absurd (hI.lt hx) (by omega)
      · cases h3
    · obtain ⟨rfl,rfl⟩:=hmem h1
      obtain ⟨rfl,rfl⟩:=hmem h4
      exact ⟨rfl,by rw [node_itr h2,node_itr h5]⟩
    · exact .inl ⟨⟨g,0,1,cap⟩,by simp,rfl,by simpa using hc,by simp⟩
    · simp only at h3
      split at h3
      · cases h3;subst h4;exact .inr hg
      · cases h3
end Go.AM
set_option maxRecDepth 8000
namespace Go.AM
open Go.Proofs
theorem neg_upto (w:List Int) (hv:∀ x∈w,-9223372036854775807≤x∧x≤9223372036854775807):∀ k,k≤w.length→Bw.neg (Bw.upto (Bw.f w) k)=invK w k
  | 0,_=>rfl
  | k+1,h=>by
    rw [Bw.upto_succ,Bw.neg_snoc,neg_upto w hv k (by omega),invK]
    have hm:=hv _ (mem_getD w (w.length - 1 - k) 0 (by omega))
    have e:Go.RowKit.wrap64 (-(w.getD (w.length - 1 - k) 0)) = -(w.getD (w.length - 1 - k) 0):=by unfold Go.RowKit.wrap64;omega
    congr 1
    rw [← e,List.getD_eq_getElem?_getD]
theorem iInverseWord (w:List Int) (hw:w.length≤1099511627776) (hv:∀ x∈w,-9223372036854775807≤x∧x≤9223372036854775807):SpecAt Tryz.prog 60 [isl w] (itr (invW w)):=by
  refine spec_row ⟨_,_,Tryz.func60,rfl,by decide⟩ _ rfl _ 2 fun I W vals hI hvs hr=>?_
  obtain ⟨v0,rfl⟩:∃ v0,vals = #[v0]:=by
    match vals,hvs with
    | ⟨[a]⟩,_=>exact ⟨a,rfl⟩
  have h0:RepS I (.sl 1 (w.map AV.i64)) v0:=hr 0 (by simp) (by simp)
  have key:∃ a len c,v0=.slice a len c∧Bw.Ints W.heap.size W (.slice a len c) w:=by
    generalize hes:w.map AV.i64=es at h0
    cases h0 with
    | nil _ a=>exact ⟨a,0,0,rfl,.inl ⟨_,_,rfl,by simpa using hes⟩⟩
    | nila _ a c=>exact ⟨some a,0,c,rfl,.inl ⟨_,_,rfl,by simpa using hes⟩⟩
    | sl _ _ b off cap vs hsz hc hI' hr' =>
      subst hes
      refine ⟨_,_,_,rfl,?_⟩
      by_cases hx:w=[]
      · exact .inl ⟨some ⟨b,off,none⟩,cap,by simp [hx],hx⟩
      have hcell:∀ i (hi:i<w.length),W.cell? ⟨b,off+i,none⟩=some (.int .i64 (w.getD i 0))∧b<W.heap.size:=fun i hi=>by
        have hi':i<(w.map AV.i64).length:=by simpa using hi
        have q0:=hI' i hi' 0 (by omega)
        have q:=(hI.cell (b) (off+i*1+0) _ q0).1
        have hlen:0<(((w.map AV.i64)[i]).cells).length:=by simp [AV.cells]
        have q2:=hr' i hi' 0 hlen
        have e:(((w.map AV.i64)[i]).cells)[0]=AV.i64 (w.getD i 0):=by rw [getD_eq _ _ _ hi];simp [AV.cells]
        rw [e] at q2
        have q3:vs i 0=.int .i64 (w.getD i 0):=by
          generalize hv:vs i 0=v at q2
          cases q2;rfl
        rw [q3] at q
        exact ⟨by simpa using q,hI.lt q0⟩
      have hpos:0<w.length:=List.length_pos_iff.2 hx
      exact .inr ⟨b,off,cap,by simp,(hcell 0 hpos).2,fun j hj=>by rw [(hcell j hj).1,List.getD_eq_getElem?_getD]⟩
  obtain ⟨a,len,c,rfl,hInts⟩:=key
  have:=callsIn_wide.1 (Bw.inverse_in Fence.wide 3 trivial trivial trivial rfl (by omega) a len c w (by omega) hv W hInts)
  rw [neg_upto w hv _ (Nat.le_refl _),invK_all] at this
  exact this
theorem grow (n:Nat) (hn:n≤1099511627776):SpecAt Tryz.prog 117 [.nilsl,.i64 n] (itr []):=by
  refine spec_row ⟨_,_,Tryz.func117,rfl,by decide⟩ _ rfl _ 2 fun I W vals hI hvs hr=>?_
  obtain ⟨v0,v1,rfl⟩:∃ v0 v1,vals = #[v0,v1]:=by
    match vals,hvs with
    | ⟨[a,b]⟩,_=>exact ⟨a,b,rfl⟩
  have h0:RepS I .nilsl v0:=hr 0 (by simp) (by simp)
  have h1:RepS I (.i64 n) v1:=hr 1 (by simp) (by simp)
  cases h0;cases h1
  exact Bw.grow n hn W
theorem iIsWord (w:List Int) (hw:w.length≤1099511627776):SpecAt Tryz.prog 96 [isl w] (.bl (decide (wordOk 8 w))):=by
  refine spec_of_awp (M:=MM) (np:=1) (fz:=true) mixed Tryz.func96 rfl rfl (by decide) rfl (Nat.le_refl _) (by decide +kernel) (.inr ⟨rfl,rfl⟩) trivial ?_
  simp -dsimp -implicitDefEqProofs (disch:=first | omega | (simp only [lenr];try omega)) only [↓amPre,amAll,↓reduceIte,reduceCtorEq,Nat.reduceEqDiff,Nat.reduceBEq,Nat.reduceAdd,Nat.reduceLeDiff,Nat.reduceSub,Nat.reduceMul,Int.reduceToNat,List.size_toArray,tyF,MM,bu0,cbP9]
  refine callP_of (iWord 8 w (by unfold intOk;omega) (by decide) hw) ?_
  simp -dsimp -implicitDefEqProofs (disch:=first | omega | (simp only [lenr];try omega)) only [↓amPre,amAll,↓reduceIte,reduceCtorEq,Nat.reduceEqDiff,Nat.reduceBEq,Nat.reduceAdd,Nat.reduceLeDiff,Nat.reduceSub,Nat.reduceMul,Int.reduceToNat,List.size_toArray,tyF,MM,bu0,cbP9]
theorem lenSum_take (L:List (List Int)):∀ k,((L.take k).map List.length).sum≤(L.map List.length).sum:=by
  induction L with
  | nil=>simp
  | cons a L ih=>intro k;cases k with
    | zero=>simp
    | succ k=>have:=ih k;simp only [List.take_succ_cons,List.map_cons,List.sum_cons];omega
theorem flat_len (L:List (List Int)):L.flatten.length=(L.map List.length).sum:=by simp
theorem iConcat (L:List (List Int)) (hL:L.length≤1099511627776) (ht:(L.map List.length).sum≤1099511627776):SpecAt Tryz.prog 97 [ssl L] (itr L.flatten):=by
  refine spec_of_awp (M:=MM) (np:=1) (fz:=false) mixed Tryz.func97 rfl rfl (by decide) rfl (Nat.le_refl _) (by decide +kernel) (.inl rfl) (by first | trivial | simp only [sigsOk_nil,sigsOk_some,sigsOk_none,sig_tr,sig_pt,sig_mt,sig_agg,List.map_cons,List.map_nil,sig1_tr,sig1_pt,sig1_v,and_self,true_and,List.length_map,List.length_set]) ?_
  simp -dsimp -implicitDefEqProofs (disch:=first | omega | (simp only [lenr];try omega)) only [↓amPre,amAll,↓reduceIte,reduceCtorEq,Nat.reduceEqDiff,Nat.reduceBEq,Nat.reduceAdd,Nat.reduceLeDiff,Nat.reduceSub,Nat.reduceMul,Int.reduceToNat,List.size_toArray,tyF,MM,bu0,cbP9]
  refine awp_loop (fun k st=>k≤L.length∧st.fr 11=.i64 k∧st.fr 10=.i64 L.length∧st.fr 9=ssl L∧st.fr 0=ssl L∧st.fr 3=.i64 (((L.take k).map List.length).sum:Nat)) (L.length) ?_ ?_
  · simp -dsimp -implicitDefEqProofs (disch:=first | omega | (simp only [lenr];try omega)) only [↓amPre,amAll,↓reduceIte,reduceCtorEq,Nat.reduceEqDiff,Nat.reduceBEq,Nat.reduceAdd,Nat.reduceLeDiff,Nat.reduceSub,Nat.reduceMul,Int.reduceToNat,List.size_toArray,tyF,MM,bu0,cbP9]
    simp
  rintro k st _ ⟨hk,f11,f10,f9,f0,f3⟩
  by_cases hlt:k<L.length
  · have hts:=take_succ_eq L k default hlt
    have hsm:((L.take (k+1)).map List.length).sum=((L.take k).map List.length).sum+(L.getD k default).length:=by rw [hts];simp
    have hle:=lenSum_take L (k+1)
    generalize ((L.take (k+1)).map List.length).sum=y at *
    generalize ((L.take k).map List.length).sum=x at *
    have c1:¬ ((x:Int)+((L.getD k default).length:Int)<0):=by omega
    simp -dsimp -implicitDefEqProofs (disch:=first | omega | (simp only [lenr];try omega)) only [↓amPre,amAll,↓reduceIte,reduceCtorEq,Nat.reduceEqDiff,Nat.reduceBEq,Nat.reduceAdd,Nat.reduceLeDiff,Nat.reduceSub,Nat.reduceMul,Int.reduceToNat,List.size_toArray,tyF,MM,bu0,cbP9,f11,f10,f9,f0,f3,c1]
    repeat' (first | omega | rfl | exact i64c (by omega) | exact vic (by omega) | apply And.intro)
  have hke:k=L.length:=by omega
  subst hke
  rw [List.take_length] at f3
  simp -dsimp -implicitDefEqProofs (disch:=first | omega | (simp only [lenr];try omega)) only [↓amPre,amAll,↓reduceIte,reduceCtorEq,Nat.reduceEqDiff,Nat.reduceBEq,Nat.reduceAdd,Nat.reduceLeDiff,Nat.reduceSub,Nat.reduceMul,Int.reduceToNat,List.size_toArray,tyF,MM,bu0,cbP9,f11,f10,f9,f0,f3]
  refine callP_of (grow (L.map List.length).sum ht) ?_
  simp -dsimp -implicitDefEqProofs (disch:=first | omega | (simp only [lenr];try omega)) only [↓amPre,amAll,↓reduceIte,reduceCtorEq,Nat.reduceEqDiff,Nat.reduceBEq,Nat.reduceAdd,Nat.reduceLeDiff,Nat.reduceSub,Nat.reduceMul,Int.reduceToNat,List.size_toArray,tyF,MM,bu0,cbP9,f11,f10,f9,f0,f3]
  have hR:=flat_len L
  refine awp_loopR 24 33 (itr []) (by simp -dsimp -implicitDefEqProofs (disch:=first | omega | (simp only [lenr];try omega)) only [↓amPre,amAll,↓reduceIte,reduceCtorEq,Nat.reduceEqDiff,Nat.reduceBEq,Nat.reduceAdd,Nat.reduceLeDiff,Nat.reduceSub,Nat.reduceMul,Int.reduceToNat,List.size_toArray,tyF,MM,bu0,cbP9,f11,f10,f9,f0,f3]) (by decide) (by decide) (by decide) (fun k st=>k≤L.length∧st.fr 27=.i64 k∧st.fr 26=.i64 L.length∧st.fr 25=ssl L∧st.fr 6=.ref 33 [] 1 0 (L.take k).flatten.length∧st.mem 33=some (itr (L.take k).flatten)) (L.length) ?_ ?_
  · simp -dsimp -implicitDefEqProofs (disch:=first | omega | (simp only [lenr];try omega)) only [↓amPre,amAll,↓reduceIte,reduceCtorEq,Nat.reduceEqDiff,Nat.reduceBEq,Nat.reduceAdd,Nat.reduceLeDiff,Nat.reduceSub,Nat.reduceMul,Int.reduceToNat,List.size_toArray,tyF,MM,bu0,cbP9,ren_eq]
    simp
  rintro k st _ ⟨hk,f27,f26,f25,f6,m33⟩
  by_cases hlt:k<L.length
  · have hts:=take_succ_eq L k default hlt
    have hle:=lenSum_take L (k+1)
    rw [← flat_len] at hle
    have hff:(L.take (k+1)).flatten=(L.take k).flatten++L.getD k default:=by rw [hts];simp
    have hfl:(L.take (k+1)).flatten.length=(L.take k).flatten.length+(L.getD k default).length:=by rw [hff];simp
    rw [hfl] at hle
    generalize (L.take (k+1)).flatten=y at *
    generalize (L.take k).flatten=x at *
    have htt:((L.getD k default).map AV.i64).take (L.getD k default).length=(L.getD k default).map AV.i64:=List.take_of_length_le (by simp)
    have hmm:y.map AV.i64=x.map AV.i64++(L.getD k default).map AV.i64:=by rw [hff,List.map_append]
    simp -dsimp -implicitDefEqProofs (disch:=first | omega | (simp only [lenr];try omega)) only [↓amPre,amAll,↓reduceIte,reduceCtorEq,Nat.reduceEqDiff,Nat.reduceBEq,Nat.reduceAdd,Nat.reduceLeDiff,Nat.reduceSub,Nat.reduceMul,Int.reduceToNat,List.size_toArray,tyF,MM,bu0,cbP9,f27,f26,f25,f6,m33,Draws.grabL_ints,htt]
    exact ⟨hlt,by omega,by rw [hfl],by rw [← hmm]⟩
  have hke:k=L.length:=by omega
  subst hke
  rw [List.take_length] at f6 m33
  simp -dsimp -implicitDefEqProofs (disch:=first | omega | (simp only [lenr];try omega)) only [↓amPre,amAll,↓reduceIte,reduceCtorEq,Nat.reduceEqDiff,Nat.reduceBEq,Nat.reduceAdd,Nat.reduceLeDiff,Nat.reduceSub,Nat.reduceMul,Int.reduceToNat,List.size_toArray,tyF,MM,bu0,cbP9,f27,f26,f25,f6,m33]
theorem joinWords (L:List (List Int)) (hL:L.length≤1099511627776) (ht:(L.map List.length).sum≤1099511627776) (hv:∀ w∈L,wordOk 8 w∧w.length≤1099511627776):SpecAt Tryz.prog 59 [ssl L] (.tup [itr (if L.flatten.length≤200 then L.flatten else []),.bl (decide (L.flatten.length≤200))]):=by
  refine spec_of_awp (M:=MM) (np:=1) (fz:=false) mixed Tryz.func59 rfl rfl (by decide) rfl (Nat.le_refl _) (by decide +kernel) (.inl rfl) (by first | trivial | simp only [sigsOk_nil,sigsOk_some,sigsOk_none,sig_tr,sig_pt,sig_mt,sig_agg,List.map_cons,List.map_nil,sig1_tr,sig1_pt,sig1_v,and_self,true_and,List.length_map,List.length_set]) ?_
  simp -dsimp -implicitDefEqProofs (disch:=first | omega | (simp only [lenr];try omega)) only [↓amPre,amAll,↓reduceIte,reduceCtorEq,Nat.reduceEqDiff,Nat.reduceBEq,Nat.reduceAdd,Nat.reduceLeDiff,Nat.reduceSub,Nat.reduceMul,Int.reduceToNat,List.size_toArray,tyF,MM,bu0,cbP9]
  refine awp_loop (fun k st=>k≤L.length∧st.fr 9=.i64 k∧st.fr 8=.i64 L.length∧st.fr 7=ssl L∧st.fr 0=ssl L) (L.length) ?_ ?_
  · simp -dsimp -implicitDefEqProofs (disch:=first | omega | (simp only [lenr];try omega)) only [↓amPre,amAll,↓reduceIte,reduceCtorEq,Nat.reduceEqDiff,Nat.reduceBEq,Nat.reduceAdd,Nat.reduceLeDiff,Nat.reduceSub,Nat.reduceMul,Int.reduceToNat,List.size_toArray,tyF,MM,bu0,cbP9]
    simp
  rintro k st _ ⟨hk,f9,f8,f7,f0⟩
  by_cases hlt:k<L.length
  · obtain ⟨h1,h2⟩:=hv _ (mem_getD L k default hlt)
    have q:=iIsWord (L.getD k default) h2
    rw [decide_eq_true h1] at q
    simp -dsimp -implicitDefEqProofs (disch:=first | omega | (simp only [lenr];try omega)) only [↓amPre,amAll,↓reduceIte,reduceCtorEq,Nat.reduceEqDiff,Nat.reduceBEq,Nat.reduceAdd,Nat.reduceLeDiff,Nat.reduceSub,Nat.reduceMul,Int.reduceToNat,List.size_toArray,tyF,MM,bu0,cbP9,f9,f8,f7,f0]
    refine callP_of (q) ?_
    simp -dsimp -implicitDefEqProofs (disch:=first | omega | (simp only [lenr];try omega)) only [↓amPre,amAll,↓reduceIte,reduceCtorEq,Nat.reduceEqDiff,Nat.reduceBEq,Nat.reduceAdd,Nat.reduceLeDiff,Nat.reduceSub,Nat.reduceMul,Int.reduceToNat,List.size_toArray,tyF,MM,bu0,cbP9,f9,f8,f7,f0]
    repeat' (first | omega | rfl | exact i64c (by omega) | exact vic (by omega) | apply And.intro)
  have hke:k=L.length:=by omega
  subst hke
  have q:=iConcat L hL ht
  have hfl:=flat_len L
  generalize L.flatten=R at *
  by_cases c:R.length≤200
  · have c1:¬ (200:Int)<(R.length:Int):=by omega
    rw [if_pos c,decide_eq_true c]
    simp -dsimp -implicitDefEqProofs (disch:=first | omega | (simp only [lenr];try omega)) only [↓amPre,amAll,↓reduceIte,reduceCtorEq,Nat.reduceEqDiff,Nat.reduceBEq,Nat.reduceAdd,Nat.reduceLeDiff,Nat.reduceSub,Nat.reduceMul,Int.reduceToNat,List.size_toArray,tyF,MM,bu0,cbP9,f9,f8,f7,f0]
    refine callP_of (q) ?_
    simp -dsimp -implicitDefEqProofs (disch:=first | omega | (simp only [lenr];try omega)) only [↓amPre,amAll,↓reduceIte,reduceCtorEq,Nat.reduceEqDiff,Nat.reduceBEq,Nat.reduceAdd,Nat.reduceLeDiff,Nat.reduceSub,Nat.reduceMul,Int.reduceToNat,List.size_toArray,tyF,MM,bu0,cbP9,f9,f8,f7,f0,c1]
  · have c1:(200:Int)<(R.length:Int):=by omega
    rw [if_neg c,decide_eq_false c]
    simp -dsimp -implicitDefEqProofs (disch:=first | omega | (simp only [lenr];try omega)) only [↓amPre,amAll,↓reduceIte,reduceCtorEq,Nat.reduceEqDiff,Nat.reduceBEq,Nat.reduceAdd,Nat.reduceLeDiff,Nat.reduceSub,Nat.reduceMul,Int.reduceToNat,List.size_toArray,tyF,MM,bu0,cbP9,f9,f8,f7,f0]
    refine callP_of (q) ?_
    simp -dsimp -implicitDefEqProofs (disch:=first | omega | (simp only [lenr];try omega)) only [↓amPre,amAll,↓reduceIte,reduceCtorEq,Nat.reduceEqDiff,Nat.reduceBEq,Nat.reduceAdd,Nat.reduceLeDiff,Nat.reduceSub,Nat.reduceMul,Int.reduceToNat,List.size_toArray,tyF,MM,bu0,cbP9,f9,f8,f7,f0,c1]
    try rfl
end Go.AM
set_option maxRecDepth 8000
namespace Go.AM
open Go.Proofs
def cjW (m:Twist) (w:List Int):List Int:=w++(m.to++invW w)
def cjOk (p:Puzz) (m:Twist) (w:List Int):Prop:=macOk p m∧wordOk p.mv.length w∧m.to.length+2*w.length≤200
instance (p:Puzz) (m:Twist) (w:List Int):Decidable (cjOk p m w):=by unfold cjOk;infer_instance
def cjR (p:Puzz) (m:Twist) (w:List Int):Twist:=if cjOk p m w then ⟨cjW m w,movL (effK p.n p.mv (cjW m w) (cjW m w).length) p.n.toNat⟩ else ⟨[],[]⟩
theorem cjW_len (m:Twist) (w:List Int):(cjW m w).length=m.to.length+2*w.length:=by simp [cjW,invW_len];omega
theorem cjW_ok {p:Puzz} {m:Twist} {w:List Int} (h:cjOk p m w):wordOk p.mv.length (cjW m w):=by
  obtain ⟨⟨_,h1,_⟩,h2,h3⟩:=h
  refine ⟨by rw [cjW_len];omega,fun x hx=>?_⟩
  simp only [cjW,List.mem_append] at hx
  rcases hx with hx | hx | hx
  · exact h2.2 x hx
  · exact h1.2 x hx
  · have:=h2.2 _ (invW_mem hx)
    unfold letOk at *
    omega
theorem cjR_len (p:Puzz) (m:Twist) (w:List Int):(cjR p m w).to.length≤200∧(cjR p m w).by'.length≤20:=by
  unfold cjR
  split
  · rename_i h
    refine ⟨(cjW_ok h).1,?_⟩
    have:=movL_le (effK p.n p.mv (cjW m w) (cjW m w).length) p.n.toNat
    have:=h.1.1.1.1
    simp only;omega
  · simp
theorem ok8 {n:Nat} (hn:n≤8) {w:List Int} (h:wordOk n w):wordOk 8 w:=⟨h.1,fun x hx=>by have:=h.2 x hx;unfold letOk at *;omega⟩
theorem iConjugate (p:Puzz) (m:Twist) (w:List Int) (h:smallP p) (hw:m.to.length≤1099511627776) (hb:m.by'.length≤1099511627776) (hl:w.length≤1099511627776):SpecAt Tryz.prog 25 [p.sl,m.sl,isl w] (.tup [(cjR p m w).tr,.bl (decide (cjOk p m w))]):=by
  have q1:=iIsMacro p m h hw hb
  by_cases c1:macOk p m
  case neg =>
    have hn:¬ cjOk p m w:=fun q=>c1 q.1
    rw [decide_eq_false c1] at q1
    rw [decide_eq_false hn,cjR,if_neg hn]
    refine spec_of_awp_any (M:=MM) (np:=3) (X:=[3]) (fz:=false) mixed Tryz.func25 rfl rfl (by decide) rfl (Nat.le_refl _) (by decide +kernel) (.inl rfl) (by first | trivial | simp only [sigsOk_nil,sigsOk_some,sigsOk_none,sig_tr,sig_pt,sig_mt,sig_agg,List.map_cons,List.map_nil,sig1_tr,sig1_pt,sig1_v,and_self,true_and,List.length_map,List.length_set]) ?_
    simp -dsimp -implicitDefEqProofs (disch:=first | omega | (simp only [lenr];try omega)) only [↓amPre,amAll,↓reduceIte,reduceCtorEq,Nat.reduceEqDiff,Nat.reduceBEq,Nat.reduceAdd,Nat.reduceLeDiff,Nat.reduceSub,Nat.reduceMul,Int.reduceToNat,List.size_toArray,tyF,MM,bu0,cbP9]
    refine callP_of (q1) ?_
    simp -dsimp -implicitDefEqProofs (disch:=first | omega | (simp only [lenr];try omega)) only [↓amPre,amAll,↓reduceIte,reduceCtorEq,Nat.reduceEqDiff,Nat.reduceBEq,Nat.reduceAdd,Nat.reduceLeDiff,Nat.reduceSub,Nat.reduceMul,Int.reduceToNat,List.size_toArray,tyF,MM,bu0,cbP9]
  rw [decide_eq_true c1] at q1
  have q2:=isWordM p w h hl
  by_cases c2:wordOk p.mv.length w
  case neg =>
    have hn:¬ cjOk p m w:=fun q=>c2 q.2.1
    rw [decide_eq_false c2] at q2
    rw [decide_eq_false hn,cjR,if_neg hn]
    refine spec_of_awp_any (M:=MM) (np:=3) (X:=[3]) (fz:=false) mixed Tryz.func25 rfl rfl (by decide) rfl (Nat.le_refl _) (by decide +kernel) (.inl rfl) (by first | trivial | simp only [sigsOk_nil,sigsOk_some,sigsOk_none,sig_tr,sig_pt,sig_mt,sig_agg,List.map_cons,List.map_nil,sig1_tr,sig1_pt,sig1_v,and_self,true_and,List.length_map,List.length_set]) ?_
    simp -dsimp -implicitDefEqProofs (disch:=first | omega | (simp only [lenr];try omega)) only [↓amPre,amAll,↓reduceIte,reduceCtorEq,Nat.reduceEqDiff,Nat.reduceBEq,Nat.reduceAdd,Nat.reduceLeDiff,Nat.reduceSub,Nat.reduceMul,Int.reduceToNat,List.size_toArray,tyF,MM,bu0,cbP9]
    refine callP_of (q1) ?_
    simp -dsimp -implicitDefEqProofs (disch:=first | omega | (simp only [lenr];try omega)) only [↓amPre,amAll,↓reduceIte,reduceCtorEq,Nat.reduceEqDiff,Nat.reduceBEq,Nat.reduceAdd,Nat.reduceLeDiff,Nat.reduceSub,Nat.reduceMul,Int.reduceToNat,List.size_toArray,tyF,MM,bu0,cbP9]
    refine callP_of (q2) ?_
    simp -dsimp -implicitDefEqProofs (disch:=first | omega | (simp only [lenr];try omega)) only [↓amPre,amAll,↓reduceIte,reduceCtorEq,Nat.reduceEqDiff,Nat.reduceBEq,Nat.reduceAdd,Nat.reduceLeDiff,Nat.reduceSub,Nat.reduceMul,Int.reduceToNat,List.size_toArray,tyF,MM,bu0,cbP9]
  rw [decide_eq_true c2] at q2
  have hn8:=(puzz_nm c1.1).2
  have hwv:∀ x∈w,-9223372036854775807≤x∧x≤9223372036854775807:=fun x hx=>by have:=c2.2 x hx;unfold letOk at this;omega
  have q3:=iInverseWord w hl hwv
  have hi8:wordOk 8 (invW w):=⟨by rw [invW_len];exact c2.1,fun x hx=>by have:=c2.2 _ (invW_mem hx);unfold letOk at *;omega⟩
  have hLe:[w,m.to,invW w].flatten=cjW m w:=by simp [cjW]
  have hl1:=c2.1
  have hl2:=c1.2.1.1
  have hl3:=invW_len w
  have q4:=joinWords [w,m.to,invW w] (by simp) (by simp;omega) (fun v hv=>by
    simp only [List.mem_cons,List.not_mem_nil,or_false] at hv
    rcases hv with rfl | rfl | rfl
    · exact ⟨ok8 hn8 c2,hl⟩
    · exact ⟨ok8 hn8 c1.2.1,hw⟩
    · exact ⟨hi8,by omega⟩)
  rw [hLe] at q4
  have hcl:=cjW_len m w
  by_cases c3:m.to.length+2*w.length≤200
  case neg =>
    have hn:¬ cjOk p m w:=fun q=>c3 q.2.2
    rw [if_neg (by omega),decide_eq_false (by omega)] at q4
    rw [decide_eq_false hn,cjR,if_neg hn]
    refine spec_of_awp_any (M:=MM) (np:=3) (X:=[3]) (fz:=false) mixed Tryz.func25 rfl rfl (by decide) rfl (Nat.le_refl _) (by decide +kernel) (.inl rfl) (by first | trivial | simp only [sigsOk_nil,sigsOk_some,sigsOk_none,sig_tr,sig_pt,sig_mt,sig_agg,List.map_cons,List.map_nil,sig1_tr,sig1_pt,sig1_v,and_self,true_and,List.length_map,List.length_set]) ?_
    simp -dsimp -implicitDefEqProofs (disch:=first | omega | (simp only [lenr];try omega)) only [↓amPre,amAll,↓reduceIte,reduceCtorEq,Nat.reduceEqDiff,Nat.reduceBEq,Nat.reduceAdd,Nat.reduceLeDiff,Nat.reduceSub,Nat.reduceMul,Int.reduceToNat,List.size_toArray,tyF,MM,bu0,cbP9]
    refine callP_of (q1) ?_
    simp -dsimp -implicitDefEqProofs (disch:=first | omega | (simp only [lenr];try omega)) only [↓amPre,amAll,↓reduceIte,reduceCtorEq,Nat.reduceEqDiff,Nat.reduceBEq,Nat.reduceAdd,Nat.reduceLeDiff,Nat.reduceSub,Nat.reduceMul,Int.reduceToNat,List.size_toArray,tyF,MM,bu0,cbP9]
    refine callP_of (q2) ?_
    simp -dsimp -implicitDefEqProofs (disch:=first | omega | (simp only [lenr];try omega)) only [↓amPre,amAll,↓reduceIte,reduceCtorEq,Nat.reduceEqDiff,Nat.reduceBEq,Nat.reduceAdd,Nat.reduceLeDiff,Nat.reduceSub,Nat.reduceMul,Int.reduceToNat,List.size_toArray,tyF,MM,bu0,cbP9]
    refine made_go 11 [[],[],[],[],[],[],[26],[],[],[],[]] (by decide +kernel) ?_
    simp -dsimp -implicitDefEqProofs (disch:=first | omega | (simp only [lenr];try omega)) only [↓amPre,amAll,↓reduceIte,reduceCtorEq,Nat.reduceEqDiff,Nat.reduceBEq,Nat.reduceAdd,Nat.reduceLeDiff,Nat.reduceSub,Nat.reduceMul,Int.reduceToNat,List.size_toArray,tyF,MM,bu0,cbP9]
    refine callP_of (q3) ?_
    simp -dsimp -implicitDefEqProofs (disch:=first | omega | (simp only [lenr];try omega)) only [↓amPre,amAll,↓reduceIte,reduceCtorEq,Nat.reduceEqDiff,Nat.reduceBEq,Nat.reduceAdd,Nat.reduceLeDiff,Nat.reduceSub,Nat.reduceMul,Int.reduceToNat,List.size_toArray,tyF,MM,bu0,cbP9]
    refine callP_of (q4) ?_
    simp -dsimp -implicitDefEqProofs (disch:=first | omega | (simp only [lenr];try omega)) only [↓amPre,amAll,↓reduceIte,reduceCtorEq,Nat.reduceEqDiff,Nat.reduceBEq,Nat.reduceAdd,Nat.reduceLeDiff,Nat.reduceSub,Nat.reduceMul,Int.reduceToNat,List.size_toArray,tyF,MM,bu0,cbP9]
  have hc:cjOk p m w:=⟨c1,c2,c3⟩
  have hwo:=cjW_ok hc
  have q5:=iEffect p (cjW m w) c1.1.1 hwo
  have he:=effK_ok c1.1.1 hwo _ (Nat.le_refl _)
  have q6:=iSupport _ he.2
  rw [show (effK p.n p.mv (cjW m w) (cjW m w).length).length=p.n.toNat by have:=he.1;omega] at q6
  rw [if_pos (by omega),decide_eq_true (by omega)] at q4
  rw [decide_eq_true hc,cjR,if_pos hc]
  generalize effK p.n p.mv (cjW m w) (cjW m w).length=E at *
  generalize cjW m w=R at *
  refine spec_of_awp_any (M:=MM) (np:=3) (X:=[3]) (fz:=false) mixed Tryz.func25 rfl rfl (by decide) rfl (Nat.le_refl _) (by decide +kernel) (.inl rfl) (by first | trivial | simp only [sigsOk_nil,sigsOk_some,sigsOk_none,sig_tr,sig_pt,sig_mt,sig_agg,List.map_cons,List.map_nil,sig1_tr,sig1_pt,sig1_v,and_self,true_and,List.length_map,List.length_set]) ?_
  simp -dsimp -implicitDefEqProofs (disch:=first | omega | (simp only [lenr];try omega)) only [↓amPre,amAll,↓reduceIte,reduceCtorEq,Nat.reduceEqDiff,Nat.reduceBEq,Nat.reduceAdd,Nat.reduceLeDiff,Nat.reduceSub,Nat.reduceMul,Int.reduceToNat,List.size_toArray,tyF,MM,bu0,cbP9]
  refine callP_of (q1) ?_
  simp -dsimp -implicitDefEqProofs (disch:=first | omega | (simp only [lenr];try omega)) only [↓amPre,amAll,↓reduceIte,reduceCtorEq,Nat.reduceEqDiff,Nat.reduceBEq,Nat.reduceAdd,Nat.reduceLeDiff,Nat.reduceSub,Nat.reduceMul,Int.reduceToNat,List.size_toArray,tyF,MM,bu0,cbP9]
  refine callP_of (q2) ?_
  simp -dsimp -implicitDefEqProofs (disch:=first | omega | (simp only [lenr];try omega)) only [↓amPre,amAll,↓reduceIte,reduceCtorEq,Nat.reduceEqDiff,Nat.reduceBEq,Nat.reduceAdd,Nat.reduceLeDiff,Nat.reduceSub,Nat.reduceMul,Int.reduceToNat,List.size_toArray,tyF,MM,bu0,cbP9]
  refine made_go 11 [[],[],[],[],[],[],[26],[],[],[],[]] (by decide +kernel) ?_
  simp -dsimp -implicitDefEqProofs (disch:=first | omega | (simp only [lenr];try omega)) only [↓amPre,amAll,↓reduceIte,reduceCtorEq,Nat.reduceEqDiff,Nat.reduceBEq,Nat.reduceAdd,Nat.reduceLeDiff,Nat.reduceSub,Nat.reduceMul,Int.reduceToNat,List.size_toArray,tyF,MM,bu0,cbP9]
  refine callP_of (q3) ?_
  simp -dsimp -implicitDefEqProofs (disch:=first | omega | (simp only [lenr];try omega)) only [↓amPre,amAll,↓reduceIte,reduceCtorEq,Nat.reduceEqDiff,Nat.reduceBEq,Nat.reduceAdd,Nat.reduceLeDiff,Nat.reduceSub,Nat.reduceMul,Int.reduceToNat,List.size_toArray,tyF,MM,bu0,cbP9]
  refine callP_of (q4) ?_
  simp -dsimp -implicitDefEqProofs (disch:=first | omega | (simp only [lenr];try omega)) only [↓amPre,amAll,↓reduceIte,reduceCtorEq,Nat.reduceEqDiff,Nat.reduceBEq,Nat.reduceAdd,Nat.reduceLeDiff,Nat.reduceSub,Nat.reduceMul,Int.reduceToNat,List.size_toArray,tyF,MM,bu0,cbP9]
  refine callP_of (q5) ?_
  simp -dsimp -implicitDefEqProofs (disch:=first | omega | (simp only [lenr];try omega)) only [↓amPre,amAll,↓reduceIte,reduceCtorEq,Nat.reduceEqDiff,Nat.reduceBEq,Nat.reduceAdd,Nat.reduceLeDiff,Nat.reduceSub,Nat.reduceMul,Int.reduceToNat,List.size_toArray,tyF,MM,bu0,cbP9]
  refine callP_of (q6) ?_
  simp -dsimp -implicitDefEqProofs (disch:=first | omega | (simp only [lenr];try omega)) only [↓amPre,amAll,↓reduceIte,reduceCtorEq,Nat.reduceEqDiff,Nat.reduceBEq,Nat.reduceAdd,Nat.reduceLeDiff,Nat.reduceSub,Nat.reduceMul,Int.reduceToNat,List.size_toArray,tyF,MM,bu0,cbP9]
end Go.AM
set_option maxRecDepth 8000
namespace Go.AM
namespace Dw
open Go.Proofs
open Wo (sR_fin fmP)
open Ck (stN)
open Sr (sR sR_yes sR_ok sR_len ssR)
open Bf (Ex ltr wdE dOf fmT fmC fmA fmR lsN lsK eff_ev)
open Ch (PN cst cst_len)
theorem few {p:Puzz} (hd:puzzOk p) (h5:p.n≤5):1≤stN p∧stN p≤120:=by
  have hpn:=Ck.puzz_pn hd
  have h1:=hd.1.1
  have hP:=Ch.newL_part (n:=p.n.toNat) (by omega) (by omega) hpn
  have:=Ch.ord_fac (n:=p.n.toNat) (by omega) (by omega) _ 0 hP.good
  rw [stN,if_pos hd]
  refine ⟨this.1,Nat.le_trans this.2 ?_⟩
  obtain ⟨m,hm⟩:∃ m,p.n.toNat=m:=⟨_,rfl⟩
  rw [hm,Nat.sub_zero]
  have hm5:m≤5:=by omega
  have hf:∀ m,m≤5→Ch.facN m≤120:=by decide
  exact hf m hm5
theorem mac_one {p:Puzz} (hd:puzzOk p) (hs:1≤stN p∧stN p≤3000) {k:Nat} (h0:0<k) (hk:k<(sR p).1.S.length) (hD:(sR p).1.D.getD k 0≤200) :
    wordOk p.mv.length (fmT (letL p.mv.length) (sR p).1 k).to∧(fmT (letL p.mv.length) (sR p).1 k).to.length=(sR p).1.D.getD k 0 ∧
    effK p.n p.mv (fmT (letL p.mv.length) (sR p).1 k).to (fmT (letL p.mv.length) (sR p).1 k).to.length=(sR p).1.S.getD k default ∧
    macOk p (fmT (letL p.mv.length) (sR p).1 k)∧dOf (sR p).1 ((sR p).1.S.getD k default)=(sR p).1.D.getD k 0∧2≤(fmT (letL p.mv.length) (sR p).1 k).by'.length:=by
  obtain ⟨_,hR⟩:=sR_yes hs
  have hF:=sR_fin hs
  rw [hR] at hk hD ⊢
  dsimp only at hk hD ⊢
  generalize Bf.out p.mv (letL p.mv.length) p.n.toNat 3000=e at *
  have hok:=hF.ok
  obtain ⟨w1,w2⟩:=hF.tm.wd_ev hok _ k (Nat.le_refl _) hk
  have wl:=hF.tm.wd_len hok.z.1 _ k (Nat.le_refl _) hk
  have hpn:=(hok.el _ (mem_getD e.S k default hk)).1
  have hto:(fmT (letL p.mv.length) e k).to=ltr (letL p.mv.length) (wdE e k):=rfl
  have hby:(fmT (letL p.mv.length) e k).by'=movL (e.S.getD k default) (e.S.getD k default).length:=rfl
  have hll:(ltr (letL p.mv.length) (wdE e k)).length=(wdE e k).length:=by rw [ltr,List.length_map]
  have hw:wordOk p.mv.length (ltr (letL p.mv.length) (wdE e k)):=⟨by omega,fun x hx=>by
    rw [ltr,List.mem_map] at hx
    obtain ⟨j,hj,rfl⟩:=hx
    exact letL_ok hd.1.2.1 _ (mem_getD _ j 0 (w2 j hj))⟩
  have he:effK p.n p.mv (ltr (letL p.mv.length) (wdE e k)) (ltr (letL p.mv.length) (wdE e k)).length=e.S.getD k default:=by
    rw [hll,eff_ev p.n p.mv (letL p.mv.length) (wdE e k) _ (Nat.le_refl _),List.take_length,w1]
  have hne:e.S.getD k default≠Ch.idL p.n.toNat:=fun q=>by
    rw [← hok.z.2] at q
    have:=Bf.S_inj hok hk hok.z.1 q
    omega
  have h2:=Bf.mov_two hpn hne
  rw [hto,hby,hpn.1]
  refine ⟨hw,by omega,he,⟨hd,hw,?_,?_⟩,Bf.dOf_at hok hk,h2⟩
  · rw [hby,hpn.1];omega
  · rw [hby,hpn.1,hto,supR,if_pos ⟨hd,hw⟩,he]
theorem mac_law {p:Puzz} (hd:puzzOk p) (h5:p.n≤5) {ms:Int} (hm:0≤ms∧ms≤20) :
    (fmP p 3 ms).2=true∧(fmP p 3 ms).1.length≤200∧∀ t∈(fmP p 3 ms).1,∃ k,0<k∧k<(sR p).1.S.length∧(sR p).1.D.getD k 0≤3∧(t.by'.length:Int)≤ms∧t=fmT (letL p.mv.length) (sR p).1 k:=by
  have hf:=few hd h5
  have hs:1≤stN p∧stN p≤3000:=by omega
  obtain ⟨_,hR⟩:=sR_yes hs
  have hle:=sR_len hd
  rw [fmP,hR]
  dsimp only
  generalize Bf.out p.mv (letL p.mv.length) p.n.toNat 3000=e at *
  have hL:=Bf.fmA_len (A:=letL p.mv.length) (e:=e) (md:=3) (ms:=ms) e.S.length
  rw [fmR,if_pos ⟨rfl,⟨by decide,within_iff.2 hm⟩,by omega⟩]
  refine ⟨rfl,by dsimp only;omega,fun t ht=>?_⟩
  obtain ⟨k,a,b,c,d⟩:=Bf.fmA_mem2 _ t ht
  obtain ⟨c1,c2⟩:=c
  refine ⟨k,a,b,by omega,?_,d⟩
  rw [d]
  exact c2
theorem mac_least {p:Puzz} (hd:puzzOk p) (hs:1≤stN p∧stN p≤3000) {k:Nat} (h0:0<k) (hk:k<(sR p).1.S.length):2≤ssR p∧ssR p≤((fmT (letL p.mv.length) (sR p).1 k).by'.length:Int):=by
  obtain ⟨_,hR⟩:=sR_yes hs
  have hF:=sR_fin hs
  rw [ssR,hR,if_pos rfl]
  rw [hR] at hk
  dsimp only at hk ⊢
  generalize Bf.out p.mv (letL p.mv.length) p.n.toNat 3000=e at *
  have hok:=hF.ok
  have h2:∀ j,1≤j→j≤e.S.length - 1→2≤lsN e.S j:=fun j a b=>by
    have hj:j<e.S.length:=by omega
    have hpn:=(hok.el _ (mem_getD e.S j default hj)).1
    have hne:e.S.getD j default≠Ch.idL p.n.toNat:=fun q=>by
      rw [← hok.z.2] at q
      have:=Bf.S_inj hok hj hok.z.1 q
      omega
    have:=Bf.mov_two hpn hne
    unfold lsN
    rw [hpn.1]
    omega
  obtain ⟨a,b⟩:=Bf.lsK_ok h2 (e.S.length - 1) (Nat.le_refl _) (by omega)
  exact ⟨a,b k h0 (by omega)⟩
theorem mac_conj {p:Puzz} (hd:puzzOk p) {t:Twist} (ht:macOk p t) (h3:t.to.length≤3) {w:List Int} (hw:wordOk p.mv.length w) (h4:w.length≤4) :
    cjOk p t w∧macOk p (cjR p t w)∧(cjR p t w).by'.length=t.by'.length:=by
  have hc:cjOk p t w:=⟨ht,hw,by omega⟩
  have hpn:=Ck.puzz_pn hd
  have h1:=hd.1.1
  have hok:=cjW_ok hc
  obtain ⟨n,hn⟩:∃ n:Nat,p.n=n:=⟨p.n.toNat,by omega⟩
  have hnt:p.n.toNat=n:=by omega
  rw [hnt] at hpn
  have hcl:=Bf.conj_sup (n:=n) (mv:=p.mv) (by omega) (by omega) hpn (w:=w) (m:=t.to) hw.2 ht.2.1.2
  have hb:t.by'=movL (effK n p.mv t.to t.to.length) n:=by
    have:=ht.2.2.2
    rw [supR,if_pos ⟨hd,ht.2.1⟩,hnt,hn] at this
    exact this.symm
  have hl:(cjR p t w).by'.length=t.by'.length:=by
    rw [cjR,if_pos hc]
    show (movL (effK p.n p.mv (cjW t w) (cjW t w).length) p.n.toNat).length=_
    rw [hnt,hn,hb]
    exact hcl
  refine ⟨hc,⟨hd,?_,?_,?_⟩,hl⟩
  · rw [cjR,if_pos hc];exact hok
  · rw [hl];exact ht.2.2.1
  · rw [cjR,if_pos hc,supR,if_pos ⟨hd,hok⟩]
end Dw
end Go.AM
