/-
  CONTRACTS of functions of the program,and what they compute,by content.
-/
import Derived.Test.YtenlmhbkigfjeaaGreatCB1
import Derived.Test.YtenlmhbkigfjeaaGreatM2SD
import Derived.Test.YtenlmhbkigfjeaaGreatCB0
set_option linter.unusedVariables false
set_option linter.unusedSimpArgs false
set_option maxRecDepth 8000
namespace Go.AM
namespace Sr
open Go.Proofs
open Ch (PN pt idL cst cst_app cst_len)
open Bf (lexLt slotC insS SrtOk)
open Ck (sfr)
def MM:FuncId→List Bool:=fun f=>if f=100 then [true,false,false] else []
theorem listPrec (a b:List Int) (h:a.length=b.length) (hl:a.length≤1099511627776):SpecAt Tryz.prog 135 [isl a,isl b] (.bl (lexLt a b)):=by
  refine spec_of_awp (M:=MM) (np:=2) (fz:=true) mixed Tryz.func135 rfl rfl (by decide) rfl (Nat.le_refl _) (by decide +kernel) (.inr ⟨rfl,rfl⟩) trivial ?_
  simp -dsimp -implicitDefEqProofs (disch:=first | omega | (simp only [lenr];try omega)) only [↓amPre,amAll,↓reduceIte,reduceCtorEq,Nat.reduceEqDiff,Nat.reduceBEq,Nat.reduceAdd,Nat.reduceLeDiff,Nat.reduceSub,Nat.reduceMul,Int.reduceToNat,List.size_toArray,tyF,MM,bu0,cbU49]
  refine awp_loop (fun k st=>k≤a.length∧st.fr 5=.i64 k∧st.fr 0=isl a∧st.fr 1=isl b∧a.take k=b.take k) (a.length) ?_ ?_
  · simp -dsimp -implicitDefEqProofs (disch:=first | omega | (simp only [lenr];try omega)) only [↓amPre,amAll,↓reduceIte,reduceCtorEq,Nat.reduceEqDiff,Nat.reduceBEq,Nat.reduceAdd,Nat.reduceLeDiff,Nat.reduceSub,Nat.reduceMul,Int.reduceToNat,List.size_toArray,tyF,MM,bu0,cbU49]
    repeat' (first | omega | rfl | exact i64c (by omega) | exact vic (by omega) | apply And.intro)
  rintro k st _ ⟨hk,f5,f0,f1,ek⟩
  by_cases hlt:k<a.length
  · by_cases hne:a.getD k 0=b.getD k 0
    · simp -dsimp -implicitDefEqProofs (disch:=first | omega | (simp only [lenr];try omega)) only [↓amPre,amAll,↓reduceIte,reduceCtorEq,Nat.reduceEqDiff,Nat.reduceBEq,Nat.reduceAdd,Nat.reduceLeDiff,Nat.reduceSub,Nat.reduceMul,Int.reduceToNat,List.size_toArray,tyF,MM,bu0,cbU49,f5,f0,f1,hne]
      exact ⟨hlt,by omega,(take_eq_iff 0 k hlt (by omega)).2 ⟨ek,hne⟩⟩
    · have e:=Bf.lex_at h ek hlt hne
      simp -dsimp -implicitDefEqProofs (disch:=first | omega | (simp only [lenr];try omega)) only [↓amPre,amAll,↓reduceIte,reduceCtorEq,Nat.reduceEqDiff,Nat.reduceBEq,Nat.reduceAdd,Nat.reduceLeDiff,Nat.reduceSub,Nat.reduceMul,Int.reduceToNat,List.size_toArray,tyF,MM,bu0,cbU49,f5,f0,f1,hne]
      rw [e]
  · have hke:k=a.length:=by omega
    have e:a=b:=by
      rw [hke,List.take_length,h,List.take_length] at ek;exact ek
    have e2:=Bf.lex_irr a
    subst e
    simp -dsimp -implicitDefEqProofs (disch:=first | omega | (simp only [lenr];try omega)) only [↓amPre,amAll,↓reduceIte,reduceCtorEq,Nat.reduceEqDiff,Nat.reduceBEq,Nat.reduceAdd,Nat.reduceLeDiff,Nat.reduceSub,Nat.reduceMul,Int.reduceToNat,List.size_toArray,tyF,MM,bu0,cbU49,f5,f0,f1,e2]
abbrev fS (S:List (List Int)) (D:List Int) (Z:List Nat) (w:Bool):AV:=.agg [ssl S,isl D,isl (cst Z),.bl w]
abbrev fT (S:List (List Int)) (D:List Int) (Z:List Nat) (w:Bool):AV:=.agg [sfr S,itr D,itr (cst Z),.bl w]
theorem searchSlot (n:Nat) (S:List (List Int)) (D:List Int) (Z:List Nat) (w:Bool) (s:List Int) (hZ:SrtOk n S Z) (hn:n≤20) (hs:s.length=n) (hl:S.length≤3000) :
    SpecAt Tryz.prog 119 [fS S D Z w,isl s] (.i64 (slotC S Z s)):=by
  have hsl:=Bf.slot_le S Z s
  have hzl:=hZ.len
  refine spec_of_awp (M:=MM) (np:=2) (fz:=true) mixed Tryz.func119 rfl rfl (by decide) rfl (Nat.le_refl _) (by decide +kernel) (.inr ⟨rfl,rfl⟩) trivial ?_
  simp -dsimp -implicitDefEqProofs (disch:=first | omega | (simp only [lenr];try omega)) only [↓amPre,amAll,↓reduceIte,reduceCtorEq,Nat.reduceEqDiff,Nat.reduceBEq,Nat.reduceAdd,Nat.reduceLeDiff,Nat.reduceSub,Nat.reduceMul,Int.reduceToNat,List.size_toArray,tyF,MM,bu0,cbU49]
  refine awp_loop (fun k st=>k≤Z.length∧st.fr 2=.loc 2 [] 0 0∧st.fr 1=isl s∧st.mem 2=some (.pt 4 (fS S D Z w))∧(∃ lo hi:Nat,st.fr 5=.i64 lo∧st.fr 6=.i64 hi∧lo≤slotC S Z s∧slotC S Z s≤hi∧hi≤Z.length∧hi+k≤lo+Z.length)) (Z.length) ?_ ?_
  · simp -dsimp -implicitDefEqProofs (disch:=first | omega | (simp only [lenr];try omega)) only [↓amPre,amAll,↓reduceIte,reduceCtorEq,Nat.reduceEqDiff,Nat.reduceBEq,Nat.reduceAdd,Nat.reduceLeDiff,Nat.reduceSub,Nat.reduceMul,Int.reduceToNat,List.size_toArray,tyF,MM,bu0,cbU49,cst_len]
    exact ⟨Nat.zero_le _,0,Z.length,rfl,rfl,Nat.zero_le _,hsl,Nat.le_refl _,by omega⟩
  rintro k st _ ⟨hk,f2,f1,m2,ek⟩
  obtain ⟨lo,hi,f5,f6,h1,h2,h3,h4⟩:=ek
  by_cases c1:lo<hi
  · obtain ⟨mid,hmid⟩:∃ mid:Nat,mid=(lo+hi) / 2:=⟨_,rfl⟩
    have hm1:lo≤mid∧mid<hi:=by omega
    have hmz:mid<Z.length:=by omega
    have hmS:Z.getD mid 0<S.length:=(hZ.mem _).1 (mem_getD Z mid 0 hmz)
    have hsi:=Bf.slot_iff hZ s hmz
    have hgZ:((cst Z).map AV.i64).getD mid .any=.i64 (Z.getD mid 0:Nat):=by rw [getD_eq _ _ _ (by rw [List.length_map,cst_len];exact hmz),List.getElem_map,← getD_eq _ _ 0,Ch.cst_get hmz]
    have hgm:=hZ.ll _ (mem_getD S _ default hmS)
    have q:=listPrec (S.getD (Z.getD mid 0) default) s (by rw [hgm,hs]) (by omega)
    have hwm:IntKind.i64.wrap (((lo:Int)+hi).tdiv 2)=(mid:Int):=by
      have e:((lo:Int)+hi).tdiv 2=(mid:Int):=by rw [hmid];exact (Int.ofNat_tdiv (lo+hi) 2).symm
      rw [e,wrap64_id (by omega)]
    have hlZ:(cst Z).length=Z.length:=cst_len Z
    cases hb:lexLt (S.getD (Z.getD mid 0) default) s with
    | true =>
      rw [hb] at q
      have hlt:=hsi.1 hb
      simp -dsimp -implicitDefEqProofs (disch:=first | omega | (simp only [lenr];try omega)) only [↓amPre,amAll,↓reduceIte,reduceCtorEq,Nat.reduceEqDiff,Nat.reduceBEq,Nat.reduceAdd,Nat.reduceLeDiff,Nat.reduceSub,Nat.reduceMul,Int.reduceToNat,List.size_toArray,tyF,MM,bu0,cbU49,f2,f1,m2,f5,f6,c1,hwm,hlZ,hgZ]
      refine callP_of (q) ?_
      simp -dsimp -implicitDefEqProofs (disch:=first | omega | (simp only [lenr];try omega)) only [↓amPre,amAll,↓reduceIte,reduceCtorEq,Nat.reduceEqDiff,Nat.reduceBEq,Nat.reduceAdd,Nat.reduceLeDiff,Nat.reduceSub,Nat.reduceMul,Int.reduceToNat,List.size_toArray,tyF,MM,bu0,cbU49,f2,f1,m2,f5,f6]
      exact ⟨by omega,by omega,mid+1,hi,i64c (by simp),rfl,by omega,h2,h3,by omega⟩
    | false =>
      rw [hb] at q
      have hge:slotC S Z s≤mid:=by
        rcases Nat.lt_or_ge mid (slotC S Z s) with c | c
        · rw [hsi.2 c] at hb;cases hb
        · exact c
      simp -dsimp -implicitDefEqProofs (disch:=first | omega | (simp only [lenr];try omega)) only [↓amPre,amAll,↓reduceIte,reduceCtorEq,Nat.reduceEqDiff,Nat.reduceBEq,Nat.reduceAdd,Nat.reduceLeDiff,Nat.reduceSub,Nat.reduceMul,Int.reduceToNat,List.size_toArray,tyF,MM,bu0,cbU49,f2,f1,m2,f5,f6,c1,hwm,hlZ,hgZ]
      refine callP_of (q) ?_
      simp -dsimp -implicitDefEqProofs (disch:=first | omega | (simp only [lenr];try omega)) only [↓amPre,amAll,↓reduceIte,reduceCtorEq,Nat.reduceEqDiff,Nat.reduceBEq,Nat.reduceAdd,Nat.reduceLeDiff,Nat.reduceSub,Nat.reduceMul,Int.reduceToNat,List.size_toArray,tyF,MM,bu0,cbU49,f2,f1,m2,f5,f6]
      exact ⟨by omega,by omega,lo,mid,rfl,rfl,h1,hge,by omega,by omega⟩
  · have:lo=slotC S Z s:=by omega
    have c2:¬ ((lo:Int)<hi):=by omega
    simp -dsimp -implicitDefEqProofs (disch:=first | omega | (simp only [lenr];try omega)) only [↓amPre,amAll,↓reduceIte,reduceCtorEq,Nat.reduceEqDiff,Nat.reduceBEq,Nat.reduceAdd,Nat.reduceLeDiff,Nat.reduceSub,Nat.reduceMul,Int.reduceToNat,List.size_toArray,tyF,MM,bu0,cbU49,f2,f1,m2,f5,f6,c2]
    rw [this]
theorem searchIndex (n:Nat) (S:List (List Int)) (D:List Int) (Z:List Nat) (w:Bool) (s:List Int) (hZ:SrtOk n S Z) (hd:S.Nodup) (hn:n≤20) (hs:s.length=n) (hl:S.length≤3000) :
    SpecAt Tryz.prog 104 [fS S D Z w,isl s] (.i64 (ixK S s)):=by
  have hsl:=Bf.slot_le S Z s
  have hzl:=hZ.len
  have hlZ:(cst Z).length=Z.length:=cst_len Z
  have q:=searchSlot n S D Z w s hZ hn hs hl
  have hix:=Bf.slot_ix hZ hd s
  refine spec_of_awp (M:=MM) (np:=2) (fz:=true) mixed Tryz.func104 rfl rfl (by decide) rfl (Nat.le_refl _) (by decide +kernel) (.inr ⟨rfl,rfl⟩) trivial ?_
  simp -dsimp -implicitDefEqProofs (disch:=first | omega | (simp only [lenr];try omega)) only [↓amPre,amAll,↓reduceIte,reduceCtorEq,Nat.reduceEqDiff,Nat.reduceBEq,Nat.reduceAdd,Nat.reduceLeDiff,Nat.reduceSub,Nat.reduceMul,Int.reduceToNat,List.size_toArray,tyF,MM,bu0,cbU49]
  refine callP_of (q) ?_
  by_cases c1:slotC S Z s<Z.length
  · have hgZ:((cst Z).map AV.i64).getD (slotC S Z s) .any=.i64 (Z.getD (slotC S Z s) 0:Nat):=by rw [getD_eq _ _ _ (by rw [List.length_map,cst_len];exact c1),List.getElem_map,← getD_eq _ _ 0,Ch.cst_get c1]
    have hmS:Z.getD (slotC S Z s) 0<S.length:=(hZ.mem _).1 (mem_getD Z _ 0 c1)
    have hgm:=hZ.ll _ (mem_getD S _ default hmS)
    have q2:=sEqualInts (S.getD (Z.getD (slotC S Z s) 0) default) s (by omega)
    by_cases c2:S.getD (Z.getD (slotC S Z s) 0) default=s
    · rw [if_pos ⟨c1,c2⟩] at hix
      rw [decide_eq_true c2] at q2
      rw [hix]
      generalize slotC S Z s=m at *
      simp -dsimp -implicitDefEqProofs (disch:=first | omega | (simp only [lenr];try omega)) only [↓amPre,amAll,↓reduceIte,reduceCtorEq,Nat.reduceEqDiff,Nat.reduceBEq,Nat.reduceAdd,Nat.reduceLeDiff,Nat.reduceSub,Nat.reduceMul,Int.reduceToNat,List.size_toArray,tyF,MM,bu0,cbU49,hlZ,c1,hgZ]
      refine callP_of (q2) ?_
      simp -dsimp -implicitDefEqProofs (disch:=first | omega | (simp only [lenr];try omega)) only [↓amPre,amAll,↓reduceIte,reduceCtorEq,Nat.reduceEqDiff,Nat.reduceBEq,Nat.reduceAdd,Nat.reduceLeDiff,Nat.reduceSub,Nat.reduceMul,Int.reduceToNat,List.size_toArray,tyF,MM,bu0,cbU49,hlZ,c1,hgZ]
    · rw [if_neg (fun h=>c2 h.2)] at hix
      rw [decide_eq_false c2] at q2
      rw [hix]
      generalize slotC S Z s=m at *
      simp -dsimp -implicitDefEqProofs (disch:=first | omega | (simp only [lenr];try omega)) only [↓amPre,amAll,↓reduceIte,reduceCtorEq,Nat.reduceEqDiff,Nat.reduceBEq,Nat.reduceAdd,Nat.reduceLeDiff,Nat.reduceSub,Nat.reduceMul,Int.reduceToNat,List.size_toArray,tyF,MM,bu0,cbU49,hlZ,c1,hgZ]
      refine callP_of (q2) ?_
      simp -dsimp -implicitDefEqProofs (disch:=first | omega | (simp only [lenr];try omega)) only [↓amPre,amAll,↓reduceIte,reduceCtorEq,Nat.reduceEqDiff,Nat.reduceBEq,Nat.reduceAdd,Nat.reduceLeDiff,Nat.reduceSub,Nat.reduceMul,Int.reduceToNat,List.size_toArray,tyF,MM,bu0,cbU49,hlZ,c1,hgZ]
  · rw [if_neg (fun h=>c1 h.1)] at hix
    rw [hix]
    generalize slotC S Z s=m at *
    simp -dsimp -implicitDefEqProofs (disch:=first | omega | (simp only [lenr];try omega)) only [↓amPre,amAll,↓reduceIte,reduceCtorEq,Nat.reduceEqDiff,Nat.reduceBEq,Nat.reduceAdd,Nat.reduceLeDiff,Nat.reduceSub,Nat.reduceMul,Int.reduceToNat,List.size_toArray,tyF,MM,bu0,cbU49,hlZ,c1]
theorem copy_ins (S:List (List Int)) (Z:List Nat) (s:List Int) {m:Nat} (hm:m=slotC S Z s) (hle:m≤Z.length) :
    (((cst Z++[0]).take (m+1)).map AV.i64++(((cst Z++[0]).drop m).take (Z.length+1 - (m+1))).map AV.i64++((cst Z++[0]).drop (m+1+min (Z.length+1 - (m+1)) ((cst Z++[0]).drop m).length)).map AV.i64).set m (.i64 S.length)=(cst (insS S Z s)).map AV.i64:=by
  have hl:(cst Z++[(0:Int)]).length=Z.length+1:=by simp [cst_len]
  have e1:(cst Z++[(0:Int)]).drop (m+1+min (Z.length+1 - (m+1)) ((cst Z++[(0:Int)]).drop m).length)=[]:=by
    apply List.drop_eq_nil_of_le
    rw [List.length_drop,hl];omega
  have e2:((cst Z++[(0:Int)]).drop m).take (Z.length+1 - (m+1))=cst (Z.drop m):=by
    rw [List.drop_append_of_le_length (by rw [cst_len];exact hle),List.take_append_of_le_length (by rw [List.length_drop,cst_len];omega),Ch.cst_drop,List.take_of_length_le (by rw [cst_len,List.length_drop];omega)]
  have e3:(cst Z++[(0:Int)]).take (m+1)=cst (Z.take m)++[(cst Z++[(0:Int)]).getD m 0]:=by
    rw [take_succ_eq _ m 0 (by rw [hl];omega),List.take_append_of_le_length (by rw [cst_len];exact hle)]
    congr 1
    simp [cst,List.map_take]
  rw [e1,e2,e3,insS,← hm,cst_app]
  have hlt:(List.map AV.i64 (cst (Z.take m))).length=m:=by rw [List.length_map,cst_len,List.length_take];omega
  simp only [List.map_append,List.map_cons,List.map_nil,List.append_nil,List.append_assoc,List.cons_append,List.nil_append]
  rw [List.set_append_right _ _ (by omega),hlt,Nat.sub_self,List.set_cons_zero]
  rfl
theorem searchAdd (n:Nat) (S:List (List Int)) (D:List Int) (Z:List Nat) (w:Bool) (s:List Int) (x:Int) (hZ:SrtOk n S Z) (hn:n≤20) (hs:s.length=n) (hl:S.length≤3000) (hD:D.length=S.length) :
    SpecX Tryz.prog 100 [fT S D Z w,isl s,.i64 x] [] (fT (S++[s]) (D++[x]) (insS S Z s) w):=by
  have hsl:=Bf.slot_le S Z s
  have hzl:=hZ.len
  have hlZ:(cst Z).length=Z.length:=cst_len Z
  have q:=searchSlot n S D Z w s hZ hn hs hl
  have hfz:∀ L:List (List Int),AV.fzL (L.map fun x=>isl x)=L.map fun x=>isl x:=fun L=>by rw [fzL_map,islfz]
  obtain ⟨m,hm⟩:∃ m,m=slotC S Z s:=⟨_,rfl⟩
  rw [← hm] at q hsl
  refine spec_of_awp_any (M:=MM) (np:=3) (X:=[3]) (fz:=false) mixed Tryz.func100 rfl rfl (by decide) rfl (Nat.le_refl _) (by decide +kernel) (.inl rfl) (by first | trivial | simp only [sigsOk_nil,sigsOk_some,sigsOk_none,sig_tr,sig_pt,sig_mt,sig_agg,List.map_cons,List.map_nil,sig1_tr,sig1_pt,sig1_v,and_self,true_and,List.length_map,List.length_set]) ?_
  simp -dsimp -implicitDefEqProofs (disch:=first | omega | (simp only [lenr];try omega)) only [↓amPre,amAll,↓reduceIte,reduceCtorEq,Nat.reduceEqDiff,Nat.reduceBEq,Nat.reduceAdd,Nat.reduceLeDiff,Nat.reduceSub,Nat.reduceMul,Int.reduceToNat,List.size_toArray,tyF,MM,bu0,cbU49,islfz,ints_fz]
  refine callP_of (q) ?_
  simp -dsimp -implicitDefEqProofs (disch:=first | omega | (simp only [lenr];try omega)) only [↓amPre,amAll,↓reduceIte,reduceCtorEq,Nat.reduceEqDiff,Nat.reduceBEq,Nat.reduceAdd,Nat.reduceLeDiff,Nat.reduceSub,Nat.reduceMul,Int.reduceToNat,List.size_toArray,tyF,MM,bu0,cbU49,hlZ]
  refine split_go 9 (by decide +kernel) ?_
  have hbe:∀ l:List Int,AV.bearsL (l.map AV.i64)=false:=Ck.bears_ints
  simp -dsimp -implicitDefEqProofs (disch:=first | omega | (simp only [lenr];try omega)) only [↓amPre,amAll,↓reduceIte,reduceCtorEq,Nat.reduceEqDiff,Nat.reduceBEq,Nat.reduceAdd,Nat.reduceLeDiff,Nat.reduceSub,Nat.reduceMul,Int.reduceToNat,List.size_toArray,tyF,MM,bu0,cbU49,hlZ,hbe]
  exact copy_ins S Z s hm hsl
end Sr
end Go.AM
namespace Go.AM
namespace Bf
open Ch (PN pt idL)
def lsN (S:List (List Int)) (k:Nat):Int:=((movL (S.getD k default) (S.getD k default).length).length:Int)
def lsK (S:List (List Int)):Nat→Int
  | 0=>-1
  | k+1=>if lsK S k<0∨lsN S (k+1)<lsK S k then lsN S (k+1) else lsK S k
theorem movL_len (p:List Int) (k:Nat):(movL p k).length≤k:=by
  unfold movL
  rw [List.length_map]
  have:=List.length_filter_le (fun i=>p.getD i 0 != (i:Int)) (List.range k)
  simpa using this
end Bf
end Go.AM
set_option maxRecDepth 8000
namespace Go.AM
namespace Sr
open Go.Proofs
open Ch (PN pt idL cst cst_app cst_len)
open Bf (Ex inn stp nbr insS SrtOk srtS innF outF)
open Ck (sfr)
abbrev zS:AV:=.agg [.nilsl,.nilsl,.nilsl,.bl false]
abbrev fE (e:Ex) (w:Bool):AV:=fT e.S (cst e.D) (srtS e.S) w
theorem searchSlot0 (s:List Int):SpecAt Tryz.prog 119 [zS,isl s] (.i64 0):=by
  refine spec_of_awp (M:=MM) (np:=2) (fz:=true) mixed Tryz.func119 rfl rfl (by decide) rfl (Nat.le_refl _) (by decide +kernel) (.inr ⟨rfl,rfl⟩) trivial ?_
  simp -dsimp -implicitDefEqProofs (disch:=first | omega | (simp only [lenr];try omega)) only [↓amPre,amAll,↓reduceIte,reduceCtorEq,Nat.reduceEqDiff,Nat.reduceBEq,Nat.reduceAdd,Nat.reduceLeDiff,Nat.reduceSub,Nat.reduceMul,Int.reduceToNat,List.size_toArray,tyF,MM,bu0,cbU49]
  refine awp_loop (fun k st=>k≤0∧st.fr 2=.loc 2 [] 0 0∧st.fr 1=isl s∧st.fr 5=.i64 0∧st.fr 6=.i64 0∧st.mem 2=some (.pt 4 zS)) (0) ?_ ?_
  · simp -dsimp -implicitDefEqProofs (disch:=first | omega | (simp only [lenr];try omega)) only [↓amPre,amAll,↓reduceIte,reduceCtorEq,Nat.reduceEqDiff,Nat.reduceBEq,Nat.reduceAdd,Nat.reduceLeDiff,Nat.reduceSub,Nat.reduceMul,Int.reduceToNat,List.size_toArray,tyF,MM,bu0,cbU49]
  rintro k st _ ⟨hk,f2,f1,f5,f6,m2⟩
  simp -dsimp -implicitDefEqProofs (disch:=first | omega | (simp only [lenr];try omega)) only [↓amPre,amAll,↓reduceIte,reduceCtorEq,Nat.reduceEqDiff,Nat.reduceBEq,Nat.reduceAdd,Nat.reduceLeDiff,Nat.reduceSub,Nat.reduceMul,Int.reduceToNat,List.size_toArray,tyF,MM,bu0,cbU49,f2,f1,f5,f6,m2]
theorem searchAdd0 (s:List Int):SpecX Tryz.prog 100 [zS,isl s,.i64 0] [] (fT [s] [0] [0] false):=by
  have q:=searchSlot0 s
  refine spec_of_awp_any (M:=MM) (np:=3) (X:=[3]) (fz:=false) mixed Tryz.func100 rfl rfl (by decide) rfl (Nat.le_refl _) (by decide +kernel) (.inl rfl) (by first | trivial | simp only [sigsOk_nil,sigsOk_some,sigsOk_none,sig_tr,sig_pt,sig_mt,sig_agg,List.map_cons,List.map_nil,sig1_tr,sig1_pt,sig1_v,and_self,true_and,List.length_map,List.length_set]) ?_
  simp -dsimp -implicitDefEqProofs (disch:=first | omega | (simp only [lenr];try omega)) only [↓amPre,amAll,↓reduceIte,reduceCtorEq,Nat.reduceEqDiff,Nat.reduceBEq,Nat.reduceAdd,Nat.reduceLeDiff,Nat.reduceSub,Nat.reduceMul,Int.reduceToNat,List.size_toArray,tyF,MM,bu0,cbU49]
  refine callP_of (q) ?_
  simp -dsimp -implicitDefEqProofs (disch:=first | omega | (simp only [lenr];try omega)) only [↓amPre,amAll,↓reduceIte,reduceCtorEq,Nat.reduceEqDiff,Nat.reduceBEq,Nat.reduceAdd,Nat.reduceLeDiff,Nat.reduceSub,Nat.reduceMul,Int.reduceToNat,List.size_toArray,tyF,MM,bu0,cbU49]
  refine split_go 9 (by decide +kernel) ?_
  simp -dsimp -implicitDefEqProofs (disch:=first | omega | (simp only [lenr];try omega)) only [↓amPre,amAll,↓reduceIte,reduceCtorEq,Nat.reduceEqDiff,Nat.reduceBEq,Nat.reduceAdd,Nat.reduceLeDiff,Nat.reduceSub,Nat.reduceMul,Int.reduceToNat,List.size_toArray,tyF,MM,bu0,cbU49]
  rfl
theorem searchFromI (p:Puzz) (N:Nat) (hN:p.n=N) (hd:puzzOk p) :
    SpecAt Tryz.prog 64 [p.sl,isl (idL N)] (fE (outF p.mv (letL p.mv.length) N 3000).1 (!(outF p.mv (letL p.mv.length) N 3000).2)):=by
  have hpn:=Ck.puzz_pn hd
  have hn20:=hd.1.1
  rw [show p.n.toNat=N by omega] at hpn
  have hN1:1≤N:=by omega
  have hN2:N≤20:=by omega
  have hA:=letL_len p.mv.length
  have h8:=hd.1.2.1
  have l0:=copyI (idL N) (by rw [runI_len];omega)
  have q0:=searchAdd0 (idL N)
  have ll:=lettersS p h8
  have hok:=fun k=>(Bf.out_ok hN1 hN2 hpn k).1
  refine spec_of_awp_any (M:=MM) (np:=2) (X:=[13]) (fz:=false) mixed Tryz.func64 rfl rfl (by decide) rfl (Nat.le_refl _) (by decide +kernel) (.inl rfl) (by first | trivial | simp only [sigsOk_nil,sigsOk_some,sigsOk_none,sig_tr,sig_pt,sig_mt,sig_agg,List.map_cons,List.map_nil,sig1_tr,sig1_pt,sig1_v,and_self,true_and,List.length_map,List.length_set]) ?_
  simp -dsimp -implicitDefEqProofs (disch:=first | omega | (simp only [lenr];try omega)) only [↓amPre,amAll,↓reduceIte,reduceCtorEq,Nat.reduceEqDiff,Nat.reduceBEq,Nat.reduceAdd,Nat.reduceLeDiff,Nat.reduceSub,Nat.reduceMul,Int.reduceToNat,List.size_toArray,tyF,MM,bu0,cbU49]
  have e1:∀ X:List Int,AV.fzL (X.map AV.i64)=X.map AV.i64:=fun X=>by rw [fzL_map,ints_fz]
  refine callP_frz l0 ?_
  simp -dsimp -implicitDefEqProofs (disch:=first | omega | (simp only [lenr];try omega)) only [↓amPre,amAll,↓reduceIte,reduceCtorEq,Nat.reduceEqDiff,Nat.reduceBEq,Nat.reduceAdd,Nat.reduceLeDiff,Nat.reduceSub,Nat.reduceMul,Int.reduceToNat,List.size_toArray,tyF,MM,bu0,cbU49,itrF,e1]
  refine callX_of (q0) ?_
  simp -dsimp -implicitDefEqProofs (disch:=first | omega | (simp only [lenr];try omega)) only [↓amPre,amAll,↓reduceIte,reduceCtorEq,Nat.reduceEqDiff,Nat.reduceBEq,Nat.reduceAdd,Nat.reduceLeDiff,Nat.reduceSub,Nat.reduceMul,Int.reduceToNat,List.size_toArray,tyF,MM,bu0,cbU49,hA]
  refine callP_of (ll) ?_
  simp -dsimp -implicitDefEqProofs (disch:=first | omega | (simp only [lenr];try omega)) only [↓amPre,amAll,↓reduceIte,reduceCtorEq,Nat.reduceEqDiff,Nat.reduceBEq,Nat.reduceAdd,Nat.reduceLeDiff,Nat.reduceSub,Nat.reduceMul,Int.reduceToNat,List.size_toArray,tyF,MM,bu0,cbU49,hA]
  have hs0:([0]:List Nat)=srtS [idL N]:=rfl
  refine awp_loop (fun k st=>k≤3000∧st.fr 7=.i64 k∧st.fr 6=.ref 15 [] 1 0 (2*p.mv.length)∧st.fr 5=.loc 5 [] 0 0∧st.fr 2=.loc 2 [] 0 0∧st.fr 4=.loc 4 [] 0 0∧st.mem 2=some (.pt 3 p.sl)∧st.mem 15=some (itr (letL p.mv.length))∧st.mem 5=some (.pt 4 (fE (Bf.out p.mv (letL p.mv.length) N k) false))∧st.mem 4=some (.pt 4 zS)∧(outF p.mv (letL p.mv.length) N k=(Bf.out p.mv (letL p.mv.length) N k,false)∧k≤(Bf.out p.mv (letL p.mv.length) N k).S.length)) (3000) ?_ ?_
  · simp -dsimp -implicitDefEqProofs (disch:=first | omega | (simp only [lenr];try omega)) only [↓amPre,amAll,↓reduceIte,reduceCtorEq,Nat.reduceEqDiff,Nat.reduceBEq,Nat.reduceAdd,Nat.reduceLeDiff,Nat.reduceSub,Nat.reduceMul,Int.reduceToNat,List.size_toArray,tyF,MM,bu0,cbU49,hA]
    exact ⟨rfl,rfl,rfl,Nat.zero_le _⟩
  rintro k st _ ⟨hk,f7,f6,f5,f2,f4,m2,m15,m5,m4,ek⟩
  obtain ⟨hF,hkl⟩:=ek
  have hk0:=hok k
  have h3k:=Bf.outF_len p.mv (letL p.mv.length) N k
  rw [hF] at h3k
  have hsfl:∀ L:List (List Int),(L.map fun x=>isl x).length=L.length:=fun L=>by simp
  by_cases c1:k<(Bf.out p.mv (letL p.mv.length) N k).S.length
  case neg =>
    have hst:=Bf.outF_stay (mv:=p.mv) (A:=letL p.mv.length) (n:=N) (k:=k) (.inr (by rw [hF];show (Bf.out p.mv (letL p.mv.length) N k).S.length≤k;omega)) (3000 - k)
    have h3k':k≤3000:=by have:(Bf.out p.mv (letL p.mv.length) N k).S.length≤3000:=h3k;omega
    rw [show k+(3000 - k)=3000 by omega,hF] at hst
    rw [hst]
    simp -dsimp -implicitDefEqProofs (disch:=first | omega | (simp only [lenr];try omega)) only [↓amPre,amAll,↓reduceIte,reduceCtorEq,Nat.reduceEqDiff,Nat.reduceBEq,Nat.reduceAdd,Nat.reduceLeDiff,Nat.reduceSub,Nat.reduceMul,Int.reduceToNat,List.size_toArray,tyF,MM,bu0,cbU49,f7,f6,f5,f2,f4,m2,m15,m5,m4,c1]
  have hk3:k<3000:=by have:(Bf.out p.mv (letL p.mv.length) N k).S.length≤3000:=h3k;omega
  have hsk:=hk0.el _ (mem_getD _ k default c1)
  have hinn:=fun j hj=>Bf.inn_ok hN1 hN2 hpn hk0 c1 j hj
  have hing:=fun j=>Bf.inn_grw p.mv (letL p.mv.length) k (Bf.out p.mv (letL p.mv.length) N k) j
  have hdle:=fun j=>Bf.inn_dle (mv:=p.mv) (A:=letL p.mv.length) (e:=Bf.out p.mv (letL p.mv.length) N k) (Bf.out_dle _ _ _ _) (k:=k) (by rw [hk0.lD];exact c1) j
  have hou1:Bf.out p.mv (letL p.mv.length) N (k+1)=inn p.mv (letL p.mv.length) k (Bf.out p.mv (letL p.mv.length) N k) (2*p.mv.length):=by rw [Bf.out,if_pos c1,hA]
  have houF:outF p.mv (letL p.mv.length) N (k+1)=innF p.mv (letL p.mv.length) k (Bf.out p.mv (letL p.mv.length) N k,false) (2*p.mv.length):=by rw [Bf.outF,hF,if_pos c1,hA]
  have hin3:=fun j=>Bf.innF_len (mv:=p.mv) (A:=letL p.mv.length) (k:=k) (s:=(Bf.out p.mv (letL p.mv.length) N k,false)) h3k j
  have hend:=fun (h:(outF p.mv (letL p.mv.length) N (k+1)).2=true)=>Bf.outF_stay (mv:=p.mv) (A:=letL p.mv.length) (n:=N) (k:=k+1) (.inl h) (3000 - (k+1))
  rw [show k+1+(3000 - (k+1))=3000 by omega] at hend
  rw [houF,hou1]
  rw [houF] at hend
  rw [hA] at hinn
  obtain ⟨E,hE⟩:∃ E,E=Bf.out p.mv (letL p.mv.length) N k:=⟨_,rfl⟩
  rw [← hE] at m5 hk0 c1 hsk hinn hing hdle hin3 hend ⊢
  simp -dsimp -implicitDefEqProofs (disch:=first | omega | (simp only [lenr];try omega)) only [↓amPre,amAll,↓reduceIte,reduceCtorEq,Nat.reduceEqDiff,Nat.reduceBEq,Nat.reduceAdd,Nat.reduceLeDiff,Nat.reduceSub,Nat.reduceMul,Int.reduceToNat,List.size_toArray,tyF,MM,bu0,cbU49,f7,f6,f5,f2,f4,m2,m15,m5,m4,c1]
  refine awp_loop (fun j st=>j≤(2*p.mv.length)∧st.fr 8=.i64 j∧st.fr 7=.i64 k∧st.fr 6=.ref 15 [] 1 0 (2*p.mv.length)∧st.fr 5=.loc 5 [] 0 0∧st.fr 2=.loc 2 [] 0 0∧st.fr 4=.loc 4 [] 0 0∧st.mem 2=some (.pt 3 p.sl)∧st.mem 15=some (itr (letL p.mv.length))∧st.mem 5=some (.pt 4 (fE (inn p.mv (letL p.mv.length) k E j) false))∧st.mem 4=some (.pt 4 zS)∧innF p.mv (letL p.mv.length) k (E,false) j=(inn p.mv (letL p.mv.length) k E j,false)) ((2*p.mv.length)) ?_ ?_
  · simp -dsimp -implicitDefEqProofs (disch:=first | omega | (simp only [lenr];try omega)) only [↓amPre,amAll,↓reduceIte,reduceCtorEq,Nat.reduceEqDiff,Nat.reduceBEq,Nat.reduceAdd,Nat.reduceLeDiff,Nat.reduceSub,Nat.reduceMul,Int.reduceToNat,List.size_toArray,tyF,MM,bu0,cbU49,f7,f6,f5,f2,f4,m2,m15,m5,m4]
    exact ⟨Nat.zero_le _,rfl,rfl,rfl⟩
  rintro j st _ ⟨hj,f8,f7,f6,f5,f2,f4,m2,m15,m5,m4,ej⟩
  by_cases c2:j<2*p.mv.length
  case neg =>
    have hje:j=2*p.mv.length:=by omega
    subst hje
    simp -dsimp -implicitDefEqProofs (disch:=first | omega | (simp only [lenr];try omega)) only [↓amPre,amAll,↓reduceIte,reduceCtorEq,Nat.reduceEqDiff,Nat.reduceBEq,Nat.reduceAdd,Nat.reduceLeDiff,Nat.reduceSub,Nat.reduceMul,Int.reduceToNat,List.size_toArray,tyF,MM,bu0,cbU49,f8,f7,f6,f5,f2,f4,m2,m15,m5,m4]
    have:=(hing (2*p.mv.length)).len
    exact ⟨by omega,by omega,ej,by omega⟩
  obtain ⟨hk2,_⟩:=hinn j (by omega)
  have hgj:=hing j
  have hdl:=hdle j k
  have h3j:(inn p.mv (letL p.mv.length) k E j).S.length≤3000:=by have:=hin3 j;rw [ej] at this;exact this
  have hstp:inn p.mv (letL p.mv.length) k E (j+1)=stp p.mv (letL p.mv.length) k (inn p.mv (letL p.mv.length) k E j) j:=rfl
  have hstF:innF p.mv (letL p.mv.length) k (E,false) (j+1)=Bf.stpF p.mv (letL p.mv.length) k (inn p.mv (letL p.mv.length) k E j,false) j:=by rw [← ej];rfl
  have hsty:=fun (h:(innF p.mv (letL p.mv.length) k (E,false) (j+1)).2=true)=>Bf.innF_stay h (2*p.mv.length - (j+1))
  rw [show j+1+(2*p.mv.length - (j+1))=2*p.mv.length by omega] at hsty
  obtain ⟨E2,hE2⟩:∃ E2,E2=inn p.mv (letL p.mv.length) k E j:=⟨_,rfl⟩
  rw [← hE2] at hk2 hgj hdl hstp hstF m5 h3j
  have hkE:=Nat.lt_of_lt_of_le c1 hgj.len
  have hgk:=hgj.get c1
  have hnE2:nbr p.mv E2 k ((letL p.mv.length).getD j 0)=compI (E.S.getD k default) (letP p.mv ((letL p.mv.length).getD j 0)):=by rw [← hgk]
  have hxA:=mem_getD (letL p.mv.length) j 0 (show j<(letL p.mv.length).length by omega)
  have hxok:=Bf.nbr_ok hN1 hN2 hpn hsk hxA
  unfold Bf.stpF at hstF
  rw [if_neg (by simp)] at hstF
  simp only [hnE2] at hstF
  unfold Bf.stp at hstp
  rw [hnE2] at hstp
  have hAj:((letL p.mv.length).map AV.i64).getD j .any=.i64 ((letL p.mv.length).getD j 0):=by rw [getD_eq _ _ _ (by simpa [hA] using c2),List.getElem_map,← getD_eq _ _ 0]
  have hlt:=letL_mem.1 hxA
  have qa:=sApply1 p (E.S.getD k default) ((letL p.mv.length).getD j 0) hd.1 ⟨by rw [hN];have:=hsk.1.1;omega,hsk.1.2⟩ (by unfold letOk;omega)
  have hgS:(E2.S.map fun x=>isl x).getD k .any=isl (E.S.getD k default):=by rw [getD_eq _ _ _ (by simpa using hkE),List.getElem_map,← hgk,getD_eq _ _ _ hkE]
  obtain ⟨x,hxx⟩:∃ x,x=compI (E.S.getD k default) (letP p.mv ((letL p.mv.length).getD j 0)):=⟨_,rfl⟩
  rw [← hxx] at qa hstF hstp hxok
  have hsrt:=Bf.srtS_ok (n:=N) hk2.nd (fun s hs=>(hk2.el s hs).1.1)
  have qi:=searchIndex N E2.S (cst E2.D) (srtS E2.S) false x hsrt hk2.nd hN2 hxok.1.1 h3j
  have hDk:((cst E2.D).map AV.i64).getD k .any=.i64 (E2.D.getD k 0:Nat):=by rw [getD_eq _ _ _ (by rw [List.length_map,cst_len,hk2.lD];exact hkE),List.getElem_map,← getD_eq _ _ 0,Ch.cst_get (by rw [hk2.lD];exact hkE)]
  have hlD:(cst E2.D).length=E2.S.length:=by rw [cst_len,hk2.lD]
  simp -dsimp -implicitDefEqProofs (disch:=first | omega | (simp only [lenr];try omega)) only [↓amPre,amAll,↓reduceIte,reduceCtorEq,Nat.reduceEqDiff,Nat.reduceBEq,Nat.reduceAdd,Nat.reduceLeDiff,Nat.reduceSub,Nat.reduceMul,Int.reduceToNat,List.size_toArray,tyF,MM,bu0,cbU49,f8,f7,f6,f5,f2,f4,m2,m15,m5,m4,hAj,hgS]
  refine callP_frz qa ?_
  simp -dsimp -implicitDefEqProofs (disch:=first | omega | (simp only [lenr];try omega)) only [↓amPre,amAll,↓reduceIte,reduceCtorEq,Nat.reduceEqDiff,Nat.reduceBEq,Nat.reduceAdd,Nat.reduceLeDiff,Nat.reduceSub,Nat.reduceMul,Int.reduceToNat,List.size_toArray,tyF,MM,bu0,cbU49,f8,f7,f6,f5,f2,f4,m2,m15,m5,m4,itrF,e1,islfz,ints_fz]
  refine callP_of (qi) ?_
  by_cases c3:x∈E2.S
  · rw [if_pos c3] at hstF hstp
    have hix:ixK E2.S x=((E2.S.idxOf x:Nat):Int):=by unfold ixK;rw [if_pos c3]
    have hsF:innF p.mv (letL p.mv.length) k (E,false) (j+1)=(inn p.mv (letL p.mv.length) k E (j+1),false):=by rw [hstF,hstp]
    rw [hsF,hstp]
    simp -dsimp -implicitDefEqProofs (disch:=first | omega | (simp only [lenr];try omega)) only [↓amPre,amAll,↓reduceIte,reduceCtorEq,Nat.reduceEqDiff,Nat.reduceBEq,Nat.reduceAdd,Nat.reduceLeDiff,Nat.reduceSub,Nat.reduceMul,Int.reduceToNat,List.size_toArray,tyF,MM,bu0,cbU49,f8,f7,f6,f5,f2,f4,m2,m15,m5,m4,hix]
    exact ⟨c2,by omega⟩
  have hix:ixK E2.S x = -1:=by unfold ixK;rw [if_neg c3]
  rw [if_neg c3] at hstF hstp
  by_cases c4:E2.S.length=3000
  · rw [if_pos c4] at hstF
    have h1:=hsty (by rw [hstF])
    rw [hstF] at h1
    have h2:=hend (by rw [h1])
    rw [h1] at h2
    rw [h2]
    simp -dsimp -implicitDefEqProofs (disch:=first | omega | (simp only [lenr];try omega)) only [↓amPre,amAll,↓reduceIte,reduceCtorEq,Nat.reduceEqDiff,Nat.reduceBEq,Nat.reduceAdd,Nat.reduceLeDiff,Nat.reduceSub,Nat.reduceMul,Int.reduceToNat,List.size_toArray,tyF,MM,bu0,cbU49,f8,f7,f6,f5,f2,f4,m2,m15,m5,m4,hix,hsfl,c4]
  · rw [if_neg c4] at hstF
    have hE3:inn p.mv (letL p.mv.length) k E (j+1)=⟨E2.S++[x],E2.D++[E2.D.getD k 0+1],E2.Pa++[k],E2.J++[j]⟩:=hstp
    have hsF:innF p.mv (letL p.mv.length) k (E,false) (j+1)=(inn p.mv (letL p.mv.length) k E (j+1),false):=by
      rw [hstF,hE3,Bf.stp,hnE2,← hxx,if_neg c3]
    have hwr:IntKind.i64.wrap ((E2.D.getD k 0:Nat)+1:Int)=((E2.D.getD k 0+1:Nat):Int):=by
      have:=hdl (by rw [hk2.lD];exact hkE)
      rw [wrap64_id (by omega)];rfl
    have qd:=searchAdd N E2.S (cst E2.D) (srtS E2.S) false x ((E2.D.getD k 0+1:Nat):Int) hsrt hN2 hxok.1.1 h3j hlD
    have hfE:fT (E2.S++[x]) (cst E2.D++[((E2.D.getD k 0+1:Nat):Int)]) (insS E2.S (srtS E2.S) x) false=fE (inn p.mv (letL p.mv.length) k E (j+1)) false:=by
      rw [hE3,← Bf.srtS_add]
      show fT _ _ _ _=fT _ (cst (E2.D++[E2.D.getD k 0+1])) _ _
      rw [cst_app];rfl
    rw [hfE] at qd
    rw [hsF]
    generalize inn p.mv (letL p.mv.length) k E (j+1)=E3 at *
    have c4':¬ ((E2.S.length:Int)=3000):=by omega
    simp -dsimp -implicitDefEqProofs (disch:=first | omega | (simp only [lenr];try omega)) only [↓amPre,amAll,↓reduceIte,reduceCtorEq,Nat.reduceEqDiff,Nat.reduceBEq,Nat.reduceAdd,Nat.reduceLeDiff,Nat.reduceSub,Nat.reduceMul,Int.reduceToNat,List.size_toArray,tyF,MM,bu0,cbU49,f8,f7,f6,f5,f2,f4,m2,m15,m5,m4,hix,hsfl,c4']
    refine split_go 8 (by decide +kernel) ?_
    have hwr2:IntKind.i64.wrap ((E2.D.getD k 0+1:Nat):Int)=((E2.D.getD k 0+1:Nat):Int):=hwr
    have hDk2:(cst E2.D).getD k 0=((E2.D.getD k 0:Nat):Int):=Ch.cst_get (by rw [hk2.lD];exact hkE)
    simp -dsimp -implicitDefEqProofs (disch:=first | omega | (simp only [lenr];try omega)) only [↓amPre,amAll,↓reduceIte,reduceCtorEq,Nat.reduceEqDiff,Nat.reduceBEq,Nat.reduceAdd,Nat.reduceLeDiff,Nat.reduceSub,Nat.reduceMul,Int.reduceToNat,List.size_toArray,tyF,MM,bu0,cbU49,f8,f7,f6,f5,f2,f4,m2,m15,m5,m4,hDk,hlD,hDk2,hwr,hwr2]
    refine callX_of (qd) ?_
    simp -dsimp -implicitDefEqProofs (disch:=first | omega | (simp only [lenr];try omega)) only [↓amPre,amAll,↓reduceIte,reduceCtorEq,Nat.reduceEqDiff,Nat.reduceBEq,Nat.reduceAdd,Nat.reduceLeDiff,Nat.reduceSub,Nat.reduceMul,Int.reduceToNat,List.size_toArray,tyF,MM,bu0,cbU49,f8,f7,f6,f5,f2,f4,m2,m15,m5,m4]
    exact ⟨c2,by omega⟩
noncomputable def sR (p:Puzz):Ex×Bool:=if puzzOk p then ((outF p.mv (letL p.mv.length) p.n.toNat 3000).1,!(outF p.mv (letL p.mv.length) p.n.toNat 3000).2) else (⟨[],[],[],[]⟩,false)
theorem searchStatesI (p:Puzz) (h:smallP p):SpecAt Tryz.prog 28 [p.sl] (.tup [fE (sR p).1 (sR p).2,.bl (sR p).2]):=by
  have q0:=sPuzzle p h
  by_cases hd:puzzOk p
  case neg =>
    have hz:sR p=(⟨[],[],[],[]⟩,false):=if_neg hd
    rw [decide_eq_false hd] at q0
    rw [hz]
    refine spec_of_awp_any (M:=MM) (np:=1) (X:=[3,4]) (fz:=false) mixed Tryz.func28 rfl rfl (by decide) rfl (Nat.le_refl _) (by decide +kernel) (.inl rfl) (by first | trivial | simp only [sigsOk_nil,sigsOk_some,sigsOk_none,sig_tr,sig_pt,sig_mt,sig_agg,List.map_cons,List.map_nil,sig1_tr,sig1_pt,sig1_v,and_self,true_and,List.length_map,List.length_set]) ?_
    simp -dsimp -implicitDefEqProofs (disch:=first | omega | (simp only [lenr];try omega)) only [↓amPre,amAll,↓reduceIte,reduceCtorEq,Nat.reduceEqDiff,Nat.reduceBEq,Nat.reduceAdd,Nat.reduceLeDiff,Nat.reduceSub,Nat.reduceMul,Int.reduceToNat,List.size_toArray,tyF,MM,bu0,cbU49]
    refine callP_of (q0) ?_
    simp -dsimp -implicitDefEqProofs (disch:=first | omega | (simp only [lenr];try omega)) only [↓amPre,amAll,↓reduceIte,reduceCtorEq,Nat.reduceEqDiff,Nat.reduceBEq,Nat.reduceAdd,Nat.reduceLeDiff,Nat.reduceSub,Nat.reduceMul,Int.reduceToNat,List.size_toArray,tyF,MM,bu0,cbU49]
    exact ⟨rfl,rfl⟩
  have hz:sR p=((outF p.mv (letL p.mv.length) p.n.toNat 3000).1,!(outF p.mv (letL p.mv.length) p.n.toNat 3000).2):=if_pos hd
  have hn20:=hd.1.1
  obtain ⟨N,hNN⟩:∃ N:Nat,p.n=N:=⟨p.n.toNat,by omega⟩
  rw [show p.n.toNat=N by omega] at hz
  have q1:=searchFromI p N hNN hd
  rw [decide_eq_true hd] at q0
  have l0:=sIdentity N (by omega)
  have e1:∀ X:List Int,AV.fzL (X.map AV.i64)=X.map AV.i64:=fun X=>by rw [fzL_map,ints_fz]
  rw [← hNN] at l0
  rw [hz]
  generalize (outF p.mv (letL p.mv.length) N 3000).1=e at *
  generalize (!(outF p.mv (letL p.mv.length) N 3000).2)=b at *
  refine spec_of_awp_any (M:=MM) (np:=1) (X:=[3,4]) (fz:=false) mixed Tryz.func28 rfl rfl (by decide) rfl (Nat.le_refl _) (by decide +kernel) (.inl rfl) (by first | trivial | simp only [sigsOk_nil,sigsOk_some,sigsOk_none,sig_tr,sig_pt,sig_mt,sig_agg,List.map_cons,List.map_nil,sig1_tr,sig1_pt,sig1_v,and_self,true_and,List.length_map,List.length_set]) ?_
  simp -dsimp -implicitDefEqProofs (disch:=first | omega | (simp only [lenr];try omega)) only [↓amPre,amAll,↓reduceIte,reduceCtorEq,Nat.reduceEqDiff,Nat.reduceBEq,Nat.reduceAdd,Nat.reduceLeDiff,Nat.reduceSub,Nat.reduceMul,Int.reduceToNat,List.size_toArray,tyF,MM,bu0,cbU49]
  refine callP_of (q0) ?_
  simp -dsimp -implicitDefEqProofs (disch:=first | omega | (simp only [lenr];try omega)) only [↓amPre,amAll,↓reduceIte,reduceCtorEq,Nat.reduceEqDiff,Nat.reduceBEq,Nat.reduceAdd,Nat.reduceLeDiff,Nat.reduceSub,Nat.reduceMul,Int.reduceToNat,List.size_toArray,tyF,MM,bu0,cbU49]
  refine split_go 6 (by decide +kernel) ?_
  simp -dsimp -implicitDefEqProofs (disch:=first | omega | (simp only [lenr];try omega)) only [↓amPre,amAll,↓reduceIte,reduceCtorEq,Nat.reduceEqDiff,Nat.reduceBEq,Nat.reduceAdd,Nat.reduceLeDiff,Nat.reduceSub,Nat.reduceMul,Int.reduceToNat,List.size_toArray,tyF,MM,bu0,cbU49]
  refine callP_frz l0 ?_
  simp -dsimp -implicitDefEqProofs (disch:=first | omega | (simp only [lenr];try omega)) only [↓amPre,amAll,↓reduceIte,reduceCtorEq,Nat.reduceEqDiff,Nat.reduceBEq,Nat.reduceAdd,Nat.reduceLeDiff,Nat.reduceSub,Nat.reduceMul,Int.reduceToNat,List.size_toArray,tyF,MM,bu0,cbU49,itrF,e1]
  refine callP_of (q1) ?_
  simp -dsimp -implicitDefEqProofs (disch:=first | omega | (simp only [lenr];try omega)) only [↓amPre,amAll,↓reduceIte,reduceCtorEq,Nat.reduceEqDiff,Nat.reduceBEq,Nat.reduceAdd,Nat.reduceLeDiff,Nat.reduceSub,Nat.reduceMul,Int.reduceToNat,List.size_toArray,tyF,MM,bu0,cbU49]
  refine lat_go [[],[],[1],[0],[0,1,2,3]] [[3,4],[2,4],[4],[4],[]] [0,1,2,3,4] (fun c st=>st.fr 4=.loc 4 [] 0 0∧st.fr 2=.loc 2 [] 0 0∧(c 0=true→c 3=false→st.fr 14=.agg [.ref 4 [(0,0)] 1 0 e.S.length,.ref 4 [(0,1)] 1 0 (cst e.D).length,.ref 4 [(0,2)] 1 0 (cst (srtS e.S)).length,.bl b])∧(c 1=true→st.fr 15=.loc 4 [] 0 3)∧(c 2=true→st.fr 16=.bl b)∧(c 4=true→st.fr 3=.bl b)∧st.mem 4=some (bif c 3 then (.pt 4 (.agg [.any,.any,.any,.bl b])) else (.pt 4 (fE e b)))∧st.mem 2=some (bif c 3 then (.pt 4 (fE e b)) else (.pt 4 zS))) (by decide +kernel) ?_ ?_ ?_
  · (try simp -dsimp -implicitDefEqProofs (disch:=first | omega | (simp only [lenr];try omega)) only [↓amPre,amAll,↓reduceIte,reduceCtorEq,Nat.reduceEqDiff,Nat.reduceBEq,Nat.reduceAdd,Nat.reduceLeDiff,Nat.reduceSub,Nat.reduceMul,Int.reduceToNat,List.size_toArray,tyF,MM,bu0,cbU49,latj])
    all_goals (try (repeat' (first | apply And.intro | rfl | (intro _;rfl) | (intro _ _;rfl))))
  · refine ⟨?_,?_,?_,?_,?_,trivial⟩
    all_goals rintro c st R hC hJ hR
    all_goals simp only [latm] at hC
    all_goals rcases Bool.eq_false_or_eq_true (c 3) with hx3 | hx3
    all_goals simp only [hC,hx3,latj] at hJ
    all_goals simp -dsimp -implicitDefEqProofs (disch:=first | omega | (simp only [lenr];try omega)) only [↓amPre,amAll,↓reduceIte,reduceCtorEq,Nat.reduceEqDiff,Nat.reduceBEq,Nat.reduceAdd,Nat.reduceLeDiff,Nat.reduceSub,Nat.reduceMul,Int.reduceToNat,List.size_toArray,tyF,MM,bu0,cbU49,hJ]
    all_goals refine hR _ ?_
    all_goals (simp +contextual -dsimp -implicitDefEqProofs only [amAll,↓reduceIte,reduceCtorEq,Nat.reduceEqDiff,Nat.reduceBEq,Nat.reduceAdd,latj,hC,hJ,hx3];try (repeat' (first | apply And.intro | rfl | (intro _;rfl) | (intro _ _;rfl))))
  intro c st hall hJ
  simp only [latm] at hall
  simp only [hall,latj] at hJ
  obtain ⟨f4,f2,f15,f16,f3,m4,m2⟩:=hJ
  clear hall
  simp -dsimp -implicitDefEqProofs (disch:=first | omega | (simp only [lenr];try omega)) only [↓amPre,amAll,↓reduceIte,reduceCtorEq,Nat.reduceEqDiff,Nat.reduceBEq,Nat.reduceAdd,Nat.reduceLeDiff,Nat.reduceSub,Nat.reduceMul,Int.reduceToNat,List.size_toArray,tyF,MM,bu0,cbU49,f2,f3,m2]
end Sr
end Go.AM
set_option maxRecDepth 8000
namespace Go.AM
namespace Ck
open Go.Proofs
open Ch (PN pt idL cst cst_app cst_len)
open Bf (Ex inn stp nbr idxM nxR nxO byL)
abbrev exA (p:Puzz) (S:List (List Int)) (D:List Int) (M:Value→Option Value) (Pa By:List Int) (Nx:AV):AV:=.pt 9 (.agg [.i64 p.n,.st p.nm,ssl p.mv,sfr S,itr D,.mt true M,itr Pa,itr By,Nx])
abbrev nxT (Nx:List (List Nat)):AV:=.tr 1 (Nx.map fun r=>itr (cst r))
noncomputable def exT (p:Puzz) (e:Ex) (Nx:List (List Nat)):AV:=.pt 9 (.agg [.i64 p.n,.st p.nm,ssl p.mv,sfr e.S,itr (cst e.D),.mt true (idxM e.S),itr (cst e.Pa),itr (byL (letL p.mv.length) e.J),.tr 1 (Nx.map fun r=>itr (cst r))])
def nilPt:AV:=.v (.pointer none)
theorem exploreNo (p:Puzz) (h:smallP p) (hs:¬ (1≤stN p∧stN p≤3000)):SpecAt Tryz.prog 35 [p.sl] (.tup [nilPt,.bl false]):=by
  have q0:=stateCountI p h
  have q1:=iwithin (stN p) 1 3000
  rw [show within (stN p) 1 3000=false from within_not.2 (by omega)] at q1
  refine spec_of_awp_any (M:=MM) (np:=1) (X:=[4,19,21]) (fz:=false) mixed Tryz.func35 rfl rfl (by decide) rfl (Nat.le_refl _) (by decide +kernel) (.inl rfl) (by first | trivial | simp only [sigsOk_nil,sigsOk_some,sigsOk_none,sig_tr,sig_pt,sig_mt,sig_agg,List.map_cons,List.map_nil,sig1_tr,sig1_pt,sig1_v,and_self,true_and,List.length_map,List.length_set]) ?_
  simp -dsimp -implicitDefEqProofs (disch:=first | omega | (simp only [lenr];try omega)) only [↓amPre,amAll,↓reduceIte,reduceCtorEq,Nat.reduceEqDiff,Nat.reduceBEq,Nat.reduceAdd,Nat.reduceLeDiff,Nat.reduceSub,Nat.reduceMul,Int.reduceToNat,List.size_toArray,tyF,MM,bu0,cbU49]
  refine callP_of (q0) ?_
  simp -dsimp -implicitDefEqProofs (disch:=first | omega | (simp only [lenr];try omega)) only [↓amPre,amAll,↓reduceIte,reduceCtorEq,Nat.reduceEqDiff,Nat.reduceBEq,Nat.reduceAdd,Nat.reduceLeDiff,Nat.reduceSub,Nat.reduceMul,Int.reduceToNat,List.size_toArray,tyF,MM,bu0,cbU49]
  refine callP_of (q1) ?_
  simp -dsimp -implicitDefEqProofs (disch:=first | omega | (simp only [lenr];try omega)) only [↓amPre,amAll,↓reduceIte,reduceCtorEq,Nat.reduceEqDiff,Nat.reduceBEq,Nat.reduceAdd,Nat.reduceLeDiff,Nat.reduceSub,Nat.reduceMul,Int.reduceToNat,List.size_toArray,tyF,MM,bu0,cbU49]
  try rfl
set_option maxHeartbeats 16000000 in
theorem exploreYes (p:Puzz) (h:smallP p) (hs:1≤stN p∧stN p≤3000):SpecAt Tryz.prog 35 [p.sl] (.tup [exT p (Bf.out p.mv (letL p.mv.length) p.n.toNat 3000) (nxO p.mv (letL p.mv.length) p.n.toNat 3000),.bl true]):=by
  have q0:=stateCountI p h
  have q1:=iwithin (stN p) 1 3000
  rw [show within (stN p) 1 3000=true from within_iff.2 (by omega)] at q1
  have hd:puzzOk p:=by
    by_cases c:puzzOk p
    · exact c
    · rw [stN,if_neg c] at hs;omega
  have hpn:=puzz_pn hd
  have hn20:=hd.1.1
  have hz:stN p=Ch.ordL (Ch.newL p.n.toNat p.mv):=if_pos hd
  obtain ⟨N,hNN⟩:∃ N:Nat,p.n=N:=⟨p.n.toNat,by omega⟩
  have hNt:p.n.toNat=N:=by omega
  rw [hNt] at hpn hz ⊢
  have hN1:1≤N:=by omega
  have hN2:N≤20:=by omega
  have hA:=letL_len p.mv.length
  have h8:=hd.1.2.1
  have l0:=iidentity N (by omega)
  rw [← hNN] at l0
  have hid:=PN.one hN1 hN2
  have hsm:smallE (idL N):=Bf.PN.small hN2 hid
  have lk0:=stateKeyI (idL N) hsm (by rw [runI_len];omega)
  have hup0:updM (fun _=>none) (.string (skey (idL N))) (.int .i64 0)=idxM [idL N]:=Bf.idxM_upd (S:=[]) (s:=idL N) (fun t ht=>by cases ht) hsm (by simp)
  have ll:=lettersI p.mv.length h8
  have e1:∀ X:List Int,AV.fzL (X.map AV.i64)=X.map AV.i64:=fun X=>by rw [fzL_map,ints_fz]
  have hpsl:p.sl=.agg [.i64 p.n,.st p.nm,ssl p.mv]:=rfl
  refine spec_of_awp_any (M:=MM) (np:=1) (X:=[4,19,21]) (fz:=false) mixed Tryz.func35 rfl rfl (by decide) rfl (Nat.le_refl _) (by decide +kernel) (.inl rfl) (by first | trivial | simp only [sigsOk_nil,sigsOk_some,sigsOk_none,sig_tr,sig_pt,sig_mt,sig_agg,List.map_cons,List.map_nil,sig1_tr,sig1_pt,sig1_v,and_self,true_and,List.length_map,List.length_set]) ?_
  simp -dsimp -implicitDefEqProofs (disch:=first | omega | (simp only [lenr];try omega)) only [↓amPre,amAll,↓reduceIte,reduceCtorEq,Nat.reduceEqDiff,Nat.reduceBEq,Nat.reduceAdd,Nat.reduceLeDiff,Nat.reduceSub,Nat.reduceMul,Int.reduceToNat,List.size_toArray,tyF,MM,bu0,cbU49]
  refine callP_of (q0) ?_
  simp -dsimp -implicitDefEqProofs (disch:=first | omega | (simp only [lenr];try omega)) only [↓amPre,amAll,↓reduceIte,reduceCtorEq,Nat.reduceEqDiff,Nat.reduceBEq,Nat.reduceAdd,Nat.reduceLeDiff,Nat.reduceSub,Nat.reduceMul,Int.reduceToNat,List.size_toArray,tyF,MM,bu0,cbU49]
  refine callP_of (q1) ?_
  simp -dsimp -implicitDefEqProofs (disch:=first | omega | (simp only [lenr];try omega)) only [↓amPre,amAll,↓reduceIte,reduceCtorEq,Nat.reduceEqDiff,Nat.reduceBEq,Nat.reduceAdd,Nat.reduceLeDiff,Nat.reduceSub,Nat.reduceMul,Int.reduceToNat,List.size_toArray,tyF,MM,bu0,cbU49]
  refine callP_frz l0 ?_
  simp -dsimp -implicitDefEqProofs (disch:=first | omega | (simp only [lenr];try omega)) only [↓amPre,amAll,↓reduceIte,reduceCtorEq,Nat.reduceEqDiff,Nat.reduceBEq,Nat.reduceAdd,Nat.reduceLeDiff,Nat.reduceSub,Nat.reduceMul,Int.reduceToNat,List.size_toArray,tyF,MM,bu0,cbU49,itrF,e1]
  refine any_fin (fun st=>st.fr 1=.loc 1 [] 0 0∧st.fr 5=.loc 32 [] 0 0∧st.mem 1=some (.pt 3 p.sl)∧st.mem 32=some (.pt 9 (.agg [.i64 p.n,.st p.nm,ssl p.mv,sfr [idL N],itr [0],.mt true (idxM [idL N]),itr [0],itr [0],.nilsl]))) ?_ ?_
  · intro hfin
    refine lat_go [[],[],[1],[],[],[],[5],[4,5,6],[4,5,6,7],[],[],[0,1,2,3,4,5,6,7,8,9,10],[0,1,2,3,4,5,6,7,8,9,10,11],[0,1,2,3,4,5,6,7,8,9,10,11,12]] [[11,12,13],[2,11,12,13],[11,12,13],[11,12,13],[7,8,11,12,13],[6,7,8,11,12,13],[7,8,11,12,13],[8,11,12,13],[11,12,13],[11,12,13],[11,12,13],[12,13],[13],[]] [0,1,2,3,4,5,6,7,8,9,10,11,12,13] (fun c st=>st.fr 1=.loc 1 [] 0 0∧st.fr 4=isl (idL N)∧(c 0=true→st.fr 21=p.sl)∧(c 1=true→st.fr 22=isl (idL N))∧(c 2=true→c 12=false→st.fr 23=.ref 23 [] 1 0 1)∧(c 3=true→c 12=false→st.fr 24=.ref 24 [] 1 0 1)∧(c 4=true→c 12=false→st.fr 25=.mref 25 [])∧(c 5=true→st.fr 26=isl (idL N))∧(c 6=true→st.fr 27=.v (.string (skey (idL N))))∧(c 8=true→c 12=false→st.fr 28=.mref 25 [])∧(c 9=true→c 12=false→st.fr 29=.ref 29 [] 1 0 1)∧(c 10=true→c 12=false→st.fr 30=.ref 30 [] 1 0 1)∧(c 11=true→c 12=false→st.fr 31=.agg [.i64 p.n,.st p.nm,ssl p.mv,.ref 23 [] 1 0 1,.ref 24 [] 1 0 1,.mref 25 [],.ref 29 [] 1 0 1,.ref 30 [] 1 0 1,.nilsl])∧(c 12=true→st.fr 32=.loc 32 [] 0 0)∧(c 13=true→st.fr 5=.loc 32 [] 0 0)∧st.mem 1=some (.pt 3 p.sl)∧(c 2=true→c 12=false→st.mem 23=some (sfr [idL N]))∧(c 3=true→c 12=false→st.mem 24=some (itr [0]))∧(c 4=true→c 7=false→st.mem 25=some (.mt true fun _=>none))∧(c 7=true→c 12=false→st.mem 25=some (.mt true (idxM [idL N])))∧(c 9=true→c 12=false→st.mem 29=some (itr [0]))∧(c 10=true→c 12=false→st.mem 30=some (itr [0]))∧(c 12=true→st.mem 32=some (.pt 9 (.agg [.i64 p.n,.st p.nm,ssl p.mv,sfr [idL N],itr [0],.mt true (idxM [idL N]),itr [0],itr [0],.nilsl])))) (by decide +kernel) ?_ ?_ ?_
    · (try simp -dsimp -implicitDefEqProofs (disch:=first | omega | (simp only [lenr];try omega)) only [↓amPre,amAll,↓reduceIte,reduceCtorEq,Nat.reduceEqDiff,Nat.reduceBEq,Nat.reduceAdd,Nat.reduceLeDiff,Nat.reduceSub,Nat.reduceMul,Int.reduceToNat,List.size_toArray,tyF,MM,bu0,cbU49,latj,hup0])
      all_goals (try (repeat' (first | apply And.intro | rfl | (intro _;rfl) | (intro _ _;rfl))))
    · refine ⟨?_,?_,?_,?_,?_,?_,?_,?_,?_,?_,?_,?_,?_,?_,trivial⟩
      all_goals rintro c st R hC hJ hR
      all_goals simp only [latm] at hC
      all_goals simp only [hC,latj] at hJ
      all_goals simp -dsimp -implicitDefEqProofs (disch:=first | omega | (simp only [lenr];try omega)) only [↓amPre,amAll,↓reduceIte,reduceCtorEq,Nat.reduceEqDiff,Nat.reduceBEq,Nat.reduceAdd,Nat.reduceLeDiff,Nat.reduceSub,Nat.reduceMul,Int.reduceToNat,List.size_toArray,tyF,MM,bu0,cbU49,hJ,hup0]
      all_goals (try (refine callP_of lk0 ?_;simp -dsimp -implicitDefEqProofs (disch:=first | omega | (simp only [lenr];try omega)) only [↓amPre,amAll,↓reduceIte,reduceCtorEq,Nat.reduceEqDiff,Nat.reduceBEq,Nat.reduceAdd,Nat.reduceLeDiff,Nat.reduceSub,Nat.reduceMul,Int.reduceToNat,List.size_toArray,tyF,MM,bu0,cbU49,hJ,hup0]))
      all_goals refine hR _ ?_
      all_goals (simp +contextual -dsimp -implicitDefEqProofs only [amAll,↓reduceIte,reduceCtorEq,Nat.reduceEqDiff,Nat.reduceBEq,Nat.reduceAdd,latj,hC,hJ,hup0];try (repeat' (first | apply And.intro | rfl | (intro _;rfl) | (intro _ _;rfl))))
    intro c st hall hJ
    simp only [latm] at hall
    simp only [hall,latj] at hJ
    obtain ⟨f1,f4,f21,f22,f26,f27,f32,f5,m1,m32⟩:=hJ
    clear hall
    exact hfin st ⟨f1,f5,m1,m32⟩
  rintro st ⟨f1,f5,m1,m32⟩
  have hok:=fun k=>(Bf.out_ok hN1 hN2 hpn k).1
  have hle:=fun k=>Bf.out_le hN1 hN2 hpn k
  simp -dsimp -implicitDefEqProofs (disch:=first | omega | (simp only [lenr];try omega)) only [↓amPre,amAll,↓reduceIte,reduceCtorEq,Nat.reduceEqDiff,Nat.reduceBEq,Nat.reduceAdd,Nat.reduceLeDiff,Nat.reduceSub,Nat.reduceMul,Int.reduceToNat,List.size_toArray,tyF,MM,bu0,cbU49,f1,f5,m1,hpsl]
  refine callP_of (ll) ?_
  simp -dsimp -implicitDefEqProofs (disch:=first | omega | (simp only [lenr];try omega)) only [↓amPre,amAll,↓reduceIte,reduceCtorEq,Nat.reduceEqDiff,Nat.reduceBEq,Nat.reduceAdd,Nat.reduceLeDiff,Nat.reduceSub,Nat.reduceMul,Int.reduceToNat,List.size_toArray,tyF,MM,bu0,cbU49,f1,f5,m1,m32,hA]
  skip
  refine awp_loopC 32 8 9 1 [.i64 p.n,.st p.nm,ssl p.mv,sfr [idL N],itr [0],.mt true (idxM [idL N]),itr [0],itr [0],.nilsl] (by simp -dsimp -implicitDefEqProofs (disch:=first | omega | (simp only [lenr];try omega)) only [↓amPre,amAll,↓reduceIte,reduceCtorEq,Nat.reduceEqDiff,Nat.reduceBEq,Nat.reduceAdd,Nat.reduceLeDiff,Nat.reduceSub,Nat.reduceMul,Int.reduceToNat,List.size_toArray,tyF,MM,bu0,cbU49,f1,f5,m1,m32]) (by simp) (by simp) (fun k st=>k≤3000∧st.fr 7=.i64 k∧st.fr 6=.ref 36 [] 1 0 (2*p.mv.length)∧st.fr 5=.loc 32 [] 0 0∧st.fr 1=.loc 1 [] 0 0∧st.mem 1=some (.pt 3 p.sl)∧st.mem 36=some (itr (letL p.mv.length))∧st.mem 32=some (exA p (Bf.out p.mv (letL p.mv.length) N k).S (cst (Bf.out p.mv (letL p.mv.length) N k).D) (idxM (Bf.out p.mv (letL p.mv.length) N k).S) (cst (Bf.out p.mv (letL p.mv.length) N k).Pa) (byL (letL p.mv.length) (Bf.out p.mv (letL p.mv.length) N k).J) (nxT (nxO p.mv (letL p.mv.length) N k)))∧(k≤(Bf.out p.mv (letL p.mv.length) N k).S.length)) (3000) ?_ ?_
  · simp -dsimp -implicitDefEqProofs (disch:=first | omega | (simp only [lenr];try omega)) only [↓amPre,amAll,↓reduceIte,reduceCtorEq,Nat.reduceEqDiff,Nat.reduceBEq,Nat.reduceAdd,Nat.reduceLeDiff,Nat.reduceSub,Nat.reduceMul,Int.reduceToNat,List.size_toArray,tyF,MM,bu0,cbU49,nilC_eq,f1,f5,m1,m32]
    exact ⟨rfl,rfl,Nat.zero_le _⟩
  rintro k st _ ⟨hk,f7,f6,f5,f1,m1,m36,m32,ek⟩
  have hk0:=hok k
  have hlek:=hle k
  by_cases c1:k<(Bf.out p.mv (letL p.mv.length) N k).S.length
  case neg =>
    have hend:Bf.out p.mv (letL p.mv.length) N k=Bf.out p.mv (letL p.mv.length) N 3000∧nxO p.mv (letL p.mv.length) N k=nxO p.mv (letL p.mv.length) N 3000:=by
      have a:=Bf.out_stay (mv:=p.mv) (A:=letL p.mv.length) (n:=N) (k:=k) (by omega) (3000 - k)
      have b:=Bf.nxO_stay (mv:=p.mv) (A:=letL p.mv.length) (n:=N) (k:=k) (by omega) (3000 - k)
      rw [show k+(3000 - k)=3000 by omega] at a b
      exact ⟨a.symm,b.symm⟩
    simp -dsimp -implicitDefEqProofs (disch:=first | omega | (simp only [lenr];try omega)) only [↓amPre,amAll,↓reduceIte,reduceCtorEq,Nat.reduceEqDiff,Nat.reduceBEq,Nat.reduceAdd,Nat.reduceLeDiff,Nat.reduceSub,Nat.reduceMul,Int.reduceToNat,List.size_toArray,tyF,MM,bu0,cbU49,f7,f6,f5,f1,m1,m36,m32]
    rw [hend.1,hend.2]
    rfl
  have hsk:=hk0.el _ (mem_getD _ k default c1)
  have qn:=neighborsI p N ((Bf.out p.mv (letL p.mv.length) N k).S.getD k default) hNN hd.1 hsk.1
  have hnl:=nbL_len p.mv ((Bf.out p.mv (letL p.mv.length) N k).S.getD k default) (Nat.le_refl (2*p.mv.length))
  have hnx1:nxO p.mv (letL p.mv.length) N (k+1)=nxO p.mv (letL p.mv.length) N k++[nxR p.mv (letL p.mv.length) k (Bf.out p.mv (letL p.mv.length) N k) (2*p.mv.length)]:=by rw [nxO,if_pos c1,hA]
  have hou1:Bf.out p.mv (letL p.mv.length) N (k+1)=inn p.mv (letL p.mv.length) k (Bf.out p.mv (letL p.mv.length) N k) (2*p.mv.length):=by rw [Bf.out,if_pos c1,hA]
  have hinn:=fun j hj=>Bf.inn_ok hN1 hN2 hpn hk0 c1 j hj
  have hing:=fun j=>Bf.inn_grw p.mv (letL p.mv.length) k (Bf.out p.mv (letL p.mv.length) N k) j
  have hinl:=fun j hj=>Bf.inn_le hN1 hN2 hpn hk0 c1 (j:=j) hj
  have hngt:=fun j hj=>nbL_get p.mv ((Bf.out p.mv (letL p.mv.length) N k).S.getD k default) (k:=j) hj
  rw [hA] at qn hngt hinn hinl
  rw [hou1,hnx1]
  obtain ⟨Nx,hNx⟩:∃ Nx,Nx=nxO p.mv (letL p.mv.length) N k:=⟨_,rfl⟩
  have hnxl:Nx.length=k:=by rw [hNx];exact Bf.nxO_lt ek
  rw [← hNx] at m32 ⊢
  obtain ⟨E,hE⟩:∃ E,E=Bf.out p.mv (letL p.mv.length) N k:=⟨_,rfl⟩
  rw [← hE] at m32 hk0 hlek c1 hsk qn hnl hinn hing hinl hngt ⊢
  obtain ⟨A,hAA⟩:∃ A,A=letL p.mv.length:=⟨_,rfl⟩
  rw [← hAA] at hA m36 m32 hinn hing hinl hngt ⊢
  obtain ⟨nb,hnb⟩:∃ nb,nb=nbL p.mv (E.S.getD k default) (2*p.mv.length):=⟨_,rfl⟩
  rw [← hnb] at qn hnl hngt
  have hfz:∀ L:List (List Int),AV.fzL (L.map fun x=>isl x)=L.map fun x=>isl x:=fun L=>by rw [fzL_map,islfz]
  simp -dsimp -implicitDefEqProofs (disch:=first | omega | (simp only [lenr];try omega)) only [↓amPre,amAll,↓reduceIte,reduceCtorEq,Nat.reduceEqDiff,Nat.reduceBEq,Nat.reduceAdd,Nat.reduceLeDiff,Nat.reduceSub,Nat.reduceMul,Int.reduceToNat,List.size_toArray,tyF,MM,bu0,cbU49,f7,f6,f5,f1,m1,m36,m32]
  refine callP_frz qn ?_
  have hnb2:AV.fz (sfr nb)=ssl nb:=by rw [AV.fz,hfz]
  simp -dsimp -implicitDefEqProofs (disch:=first | omega | (simp only [lenr];try omega)) only [↓amPre,amAll,↓reduceIte,reduceCtorEq,Nat.reduceEqDiff,Nat.reduceBEq,Nat.reduceAdd,Nat.reduceLeDiff,Nat.reduceSub,Nat.reduceMul,Int.reduceToNat,List.size_toArray,tyF,MM,bu0,cbU49,f7,f6,f5,f1,m1,m36,m32,hnb2,hnl]
  refine awp_loopN 8 138 1 (by simp -dsimp -implicitDefEqProofs (disch:=first | omega | (simp only [lenr];try omega)) only [↓amPre,amAll,↓reduceIte,reduceCtorEq,Nat.reduceEqDiff,Nat.reduceBEq,Nat.reduceAdd,Nat.reduceLeDiff,Nat.reduceSub,Nat.reduceMul,Int.reduceToNat,List.size_toArray,tyF,MM,bu0,cbU49,f7,f6,f5,f1,m1,m36,m32]) (by decide) (fun j st=>j≤(2*p.mv.length)∧st.fr 56=.i64 j∧st.fr 55=.i64 (2*p.mv.length:Nat)∧st.fr 54=ssl nb∧st.fr 8=.ref 138 [] 1 0 j∧st.fr 7=.i64 k∧st.fr 6=.ref 36 [] 1 0 (2*p.mv.length)∧st.fr 5=.loc 32 [] 0 0∧st.fr 1=.loc 1 [] 0 0∧st.mem 138=some (itr (cst (nxR p.mv A k E j)))∧st.mem 1=some (.pt 3 p.sl)∧st.mem 36=some (itr A)∧st.mem 32=some (exA p (inn p.mv A k E j).S (cst (inn p.mv A k E j).D) (idxM (inn p.mv A k E j).S) (cst (inn p.mv A k E j).Pa) (byL A (inn p.mv A k E j).J) (nxT Nx))) ((2*p.mv.length)) ?_ ?_
  · simp -dsimp -implicitDefEqProofs (disch:=first | omega | (simp only [lenr];try omega)) only [↓amPre,amAll,↓reduceIte,reduceCtorEq,Nat.reduceEqDiff,Nat.reduceBEq,Nat.reduceAdd,Nat.reduceLeDiff,Nat.reduceSub,Nat.reduceMul,Int.reduceToNat,List.size_toArray,tyF,MM,bu0,cbU49,f7,f6,f5,f1,m1,m36,m32,nilAs_eq]
    exact ⟨Nat.zero_le _,rfl,rfl,rfl⟩
  rintro j st _ ⟨hj,f56,f55,f54,f8,f7,f6,f5,f1,m138,m1,m36,m32⟩
  have hrl:=Bf.nxR_len p.mv A k E j
  by_cases c2:j<2*p.mv.length
  case neg =>
    have hje:j=2*p.mv.length:=by omega
    subst hje
    have hrl2:(cst (nxR p.mv A k E (2*p.mv.length))).length=2*p.mv.length:=by rw [cst_len,hrl]
    simp -dsimp -implicitDefEqProofs (disch:=first | omega | (simp only [lenr];try omega)) only [↓amPre,amAll,↓reduceIte,reduceCtorEq,Nat.reduceEqDiff,Nat.reduceBEq,Nat.reduceAdd,Nat.reduceLeDiff,Nat.reduceSub,Nat.reduceMul,Int.reduceToNat,List.size_toArray,tyF,MM,bu0,cbU49,f56,f55,f54,f8,f7,f6,f5,f1,m138,m1,m36,m32,hrl2]
    have:=(hing (2*p.mv.length)).len
    exact ⟨by omega,by omega,by omega⟩
  obtain ⟨hk2,_⟩:=hinn j (by omega)
  have hk3:=(hinn (j+1) (by omega)).1
  have hgj:=hing j
  have hlj:=hinl j (by omega)
  have hlj1:=hinl (j+1) (by omega)
  have hx:=hngt j c2
  have hstp:inn p.mv A k E (j+1)=stp p.mv A k (inn p.mv A k E j) j:=rfl
  have hrs:nxR p.mv A k E (j+1)=nxR p.mv A k E j++[(inn p.mv A k E (j+1)).S.idxOf (nbr p.mv E k (A.getD j 0))]:=rfl
  obtain ⟨E3,hE3⟩:∃ E3,E3=inn p.mv A k E (j+1):=⟨_,rfl⟩
  rw [← hE3] at hk3 hlj1 hstp hrs ⊢
  obtain ⟨E2,hE2⟩:∃ E2,E2=inn p.mv A k E j:=⟨_,rfl⟩
  rw [← hE2] at hk2 hgj hlj hstp m32
  have hkE:=Nat.lt_of_lt_of_le c1 hgj.len
  have hgk:=hgj.get c1
  have hnE:nbr p.mv E k (A.getD j 0)=compI (E.S.getD k default) (letP p.mv (A.getD j 0)):=rfl
  have hnE2:nbr p.mv E2 k (A.getD j 0)=compI (E.S.getD k default) (letP p.mv (A.getD j 0)):=by rw [← hgk]
  rw [hnE] at hrs
  have hxA:A.getD j 0∈letL p.mv.length:=by rw [← hAA];exact mem_getD A j 0 (by omega)
  have hxok:=Bf.nbr_ok hN1 hN2 hpn hsk hxA
  have hxs:=Bf.PN.small hN2 hxok.1
  obtain ⟨rw1,hrw1⟩:∃ r,r=nxR p.mv A k E j:=⟨_,rfl⟩
  rw [← hrw1] at hrl hrs m138
  obtain ⟨rw3,hrw3⟩:∃ r,r=nxR p.mv A k E (j+1):=⟨_,rfl⟩
  rw [← hrw3] at hrs ⊢
  unfold Bf.stp at hstp
  rw [hnE2] at hstp
  have hgx:nb.getD j default=compI (E.S.getD k default) (letP p.mv (A.getD j 0)):=hx
  have hgl:(nb.map fun x=>isl x).getD j .any=isl (compI (E.S.getD k default) (letP p.mv (A.getD j 0))):=by rw [getD_eq _ _ _ (by simpa [hnl] using c2),List.getElem_map,← hgx,getD_eq _ _ _ (by rw [hnl];exact c2)]
  obtain ⟨x,hxx⟩:∃ x,x=compI (E.S.getD k default) (letP p.mv (A.getD j 0)):=⟨_,rfl⟩
  rw [← hxx] at hgl hstp hrs hxok hxs
  have qk:=stateKeyI x hxs (by have:=hxok.1.1;omega)
  have hlk:=Bf.idxM_at (S:=E2.S) (s:=x) (fun t ht=>Bf.PN.small hN2 (hk2.el t ht).1) hxs
  have hAj:(A.map AV.i64).getD j .any=.i64 (A.getD j 0):=by rw [getD_eq _ _ _ (by simpa [hA] using c2),List.getElem_map,← getD_eq _ _ 0]
  have hDk:((cst E2.D).map AV.i64).getD k .any=.i64 (E2.D.getD k 0:Nat):=by rw [getD_eq _ _ _ (by rw [List.length_map,cst_len,hk2.lD];exact hkE),List.getElem_map,← getD_eq _ _ 0,Ch.cst_get (by rw [hk2.lD];exact hkE)]
  have hlD:(cst E2.D).length=E2.S.length:=by rw [cst_len,hk2.lD]
  have hlP:(cst E2.Pa).length=E2.S.length:=by rw [cst_len,hk2.lP]
  have hlJ:(byL A E2.J).length=E2.S.length:=by rw [Bf.byL_len,hk2.lJ]
  have hbS:=hlj
  by_cases c3:x∈E2.S
  · rw [if_pos c3] at hstp hlk
    subst hstp
    have hre:cst rw1++[((E3.S.idxOf x:Nat):Int)]=cst rw3:=by rw [hrs,cst_app];rfl
    have hlr1:(cst rw1).length=j:=by rw [cst_len,hrl]
    simp -dsimp -implicitDefEqProofs (disch:=first | omega | (simp only [lenr];try omega)) only [↓amPre,amAll,↓reduceIte,reduceCtorEq,Nat.reduceEqDiff,Nat.reduceBEq,Nat.reduceAdd,Nat.reduceLeDiff,Nat.reduceSub,Nat.reduceMul,Int.reduceToNat,List.size_toArray,tyF,MM,bu0,cbU49,f56,f55,f54,f8,f7,f6,f5,f1,m138,m1,m36,m32,hgl,hnl]
    refine callP_of (qk) ?_
    simp -dsimp -implicitDefEqProofs (disch:=first | omega | (simp only [lenr];try omega)) only [↓amPre,amAll,↓reduceIte,reduceCtorEq,Nat.reduceEqDiff,Nat.reduceBEq,Nat.reduceAdd,Nat.reduceLeDiff,Nat.reduceSub,Nat.reduceMul,Int.reduceToNat,List.size_toArray,tyF,MM,bu0,cbU49,f56,f55,f54,f8,f7,f6,f5,f1,m138,m1,m36,m32,hlk]
    exact ⟨c2,by omega,by rw [hlr1],by rw [← hre]⟩
  · rw [if_neg c3] at hstp hlk
    have hup:=Bf.idxM_upd (S:=E2.S) (s:=x) (fun t ht=>Bf.PN.small hN2 (hk2.el t ht).1) hxs c3
    have hE3S:E3.S=E2.S++[x]:=by rw [hstp]
    have hE3D:cst E2.D++[((E2.D.getD k 0+1:Nat):Int)]=cst E3.D:=by rw [hstp,cst_app];rfl
    have hE3P:cst E2.Pa++[(k:Int)]=cst E3.Pa:=by rw [hstp,cst_app];rfl
    have hE3J:byL A E2.J++[A.getD j 0]=byL A E3.J:=by rw [hstp];exact (Bf.byL_app A (by rw [hk2.lJ];omega) j).symm
    have hE3l:E3.S.length=E2.S.length+1:=by rw [hE3S];simp
    have hlD3:(cst E3.D).length=E2.S.length+1:=by rw [cst_len,hk3.lD,hE3l]
    have hlP3:(cst E3.Pa).length=E2.S.length+1:=by rw [cst_len,hk3.lP,hE3l]
    have hlJ3:(byL A E3.J).length=E2.S.length+1:=by rw [Bf.byL_len,hk3.lJ,hE3l]
    rw [← hE3S] at hup
    have hSS:(E2.S.map fun x=>isl x)++[isl x]=E3.S.map fun x=>isl x:=by rw [hE3S];simp
    have hix:E3.S.idxOf x=E2.S.length:=by rw [hE3S,List.idxOf_append,if_neg c3];simp
    have hre:cst rw1++[((E2.S.length:Nat):Int)]=cst rw3:=by rw [hrs,hix,cst_app];rfl
    have hlr1:(cst rw1).length=j:=by rw [cst_len,hrl]
    have ql:=lenSS E2.S
    clear hstp
    have hDle:=Bf.inn_dle (mv:=p.mv) (A:=A) (e:=E) (fun i hi=>by rw [hE];rw [hE] at hi;exact Bf.out_dle _ _ _ _ i hi) (k:=k) (by rw [hk0.lD];exact c1) j k (by rw [← hE2,hk2.lD];exact hkE)
    rw [← hE2] at hDle
    have hwr:IntKind.i64.wrap ((E2.D.getD k 0:Nat)+1:Int)=((E2.D.getD k 0+1:Nat):Int):=by rw [wrap64_id (by omega)];rfl
    simp -dsimp -implicitDefEqProofs (disch:=first | omega | (simp only [lenr];try omega)) only [↓amPre,amAll,↓reduceIte,reduceCtorEq,Nat.reduceEqDiff,Nat.reduceBEq,Nat.reduceAdd,Nat.reduceLeDiff,Nat.reduceSub,Nat.reduceMul,Int.reduceToNat,List.size_toArray,tyF,MM,bu0,cbU49,f56,f55,f54,f8,f7,f6,f5,f1,m138,m1,m36,m32,hgl,hnl]
    refine callP_of (qk) ?_
    simp -dsimp -implicitDefEqProofs (disch:=first | omega | (simp only [lenr];try omega)) only [↓amPre,amAll,↓reduceIte,reduceCtorEq,Nat.reduceEqDiff,Nat.reduceBEq,Nat.reduceAdd,Nat.reduceLeDiff,Nat.reduceSub,Nat.reduceMul,Int.reduceToNat,List.size_toArray,tyF,MM,bu0,cbU49,f56,f55,f54,f8,f7,f6,f5,f1,m138,m1,m36,m32,hlk,islfz]
    refine callP_of (ql) ?_
    simp -dsimp -implicitDefEqProofs (disch:=first | omega | (simp only [lenr];try omega)) only [↓amPre,amAll,↓reduceIte,reduceCtorEq,Nat.reduceEqDiff,Nat.reduceBEq,Nat.reduceAdd,Nat.reduceLeDiff,Nat.reduceSub,Nat.reduceMul,Int.reduceToNat,List.size_toArray,tyF,MM,bu0,cbU49,f56,f55,f54,f8,f7,f6,f5,f1,m138,m1,m36,m32,hup,hSS,hE3l]
    refine lat_go [[],[],[1],[1,2],[1,2,3],[],[5],[5,6],[5,6,7],[],[5,6,7,8,9],[5,6,7,8,9,10],[5,6,7,8,9,10,11],[5,6,7,8,9,10,11,12],[1,2,3,4,5,6,7,8,9,10,11,12,13],[0,1,2,3,4,5,6,7,8,9,10,11,12,13,14],[0,1,2,3,4,5,6,7,8,9,10,11,12,13,14,15],[0,1,2,3,4,5,6,7,8,9,10,11,12,13,14,15,16]] [[15,16,17],[2,3,4,14,15,16,17],[3,4,14,15,16,17],[4,14,15,16,17],[14,15,16,17],[6,7,8,10,11,12,13,14,15,16,17],[7,8,10,11,12,13,14,15,16,17],[8,10,11,12,13,14,15,16,17],[10,11,12,13,14,15,16,17],[10,11,12,13,14,15,16,17],[11,12,13,14,15,16,17],[12,13,14,15,16,17],[13,14,15,16,17],[14,15,16,17],[15,16,17],[16,17],[17],[]] [0,1,2,3,4,5,6,7,8,9,10,11,12,13,14,15,16,17] (fun c st=>st.fr 56=.i64 j∧st.fr 55=.i64 (2*p.mv.length:Nat)∧st.fr 54=ssl nb∧st.fr 8=.ref 138 [] 1 0 j∧st.fr 7=.i64 k∧st.fr 6=.ref 36 [] 1 0 (2*p.mv.length)∧st.fr 5=.loc 32 [] 0 0∧st.fr 1=.loc 1 [] 0 0∧st.fr 9=.i64 j∧st.fr 12=.i64 (E2.S.length:Nat)∧(c 0=true→st.fr 95=.loc 32 [] 0 0)∧(c 1=true→st.fr 96=.loc 32 [] 0 0)∧(c 2=true→st.fr 97=.loc 32 [] 0 0)∧(c 3=true→st.fr 98=.loc 32 [] 0 4)∧(c 4=true→c 14=false→st.fr 99=.ref 32 [(0,4)] 1 0 E2.S.length)∧(c 5=true→st.fr 100=.loc 32 [] 0 0)∧(c 6=true→st.fr 101=.loc 32 [] 0 0)∧(c 7=true→st.fr 102=.loc 32 [] 0 4)∧(c 8=true→c 14=false→st.fr 103=.ref 32 [(0,4)] 1 0 E2.S.length)∧(c 9=true→st.fr 104=.i64 k)∧(c 10=true→c 14=false→st.fr 105=.loc 32 [(0,4)] k 0)∧(c 11=true→st.fr 106=.i64 (E2.D.getD k 0:Nat))∧(c 12=true→st.fr 107=.i64 ((E2.D.getD k 0+1:Nat):Int))∧(c 13=true→st.fr 108=.ref 108 [] 1 0 1)∧(c 14=true→c 17=false→st.fr 109=.ref 109 [] 1 0 (E2.S.length+1))∧(c 15=true→st.fr 110=.loc 32 [] 0 0)∧(c 16=true→st.fr 111=.loc 32 [] 0 4)∧st.mem 138=some (itr (cst rw1))∧st.mem 1=some (.pt 3 p.sl)∧st.mem 36=some (itr A)∧st.mem 32=some (bif c 17 then (exA p E3.S (cst E3.D) (idxM E3.S) (cst E2.Pa) (byL A E2.J) (nxT Nx)) else (bif c 14 then (.pt 9 (.agg [.i64 p.n,.st p.nm,ssl p.mv,sfr E3.S,.any,.mt true (idxM E3.S),itr (cst E2.Pa),itr (byL A E2.J),nxT Nx])) else (exA p E3.S (cst E2.D) (idxM E3.S) (cst E2.Pa) (byL A E2.J) (nxT Nx))))∧(c 13=true→st.mem 108=some (itr [((E2.D.getD k 0+1:Nat):Int)]))∧(c 14=true→c 17=false→st.mem 109=some (itr (cst E3.D)))) (by decide +kernel) ?_ ?_ ?_
    · (try simp -dsimp -implicitDefEqProofs (disch:=first | omega | (simp only [lenr];try omega)) only [↓amPre,amAll,↓reduceIte,reduceCtorEq,Nat.reduceEqDiff,Nat.reduceBEq,Nat.reduceAdd,Nat.reduceLeDiff,Nat.reduceSub,Nat.reduceMul,Int.reduceToNat,List.size_toArray,tyF,MM,bu0,cbU49,latj,hDk,hlD,hlD3,hE3D,hwr,f56,f55,f54,f8,f7,f6,f5,f1,m138,m1,m36,m32])
      all_goals (try (repeat' (first | apply And.intro | rfl | (intro _;rfl) | (intro _ _;rfl))))
    · refine ⟨?_,?_,?_,?_,?_,?_,?_,?_,?_,?_,?_,?_,?_,?_,?_,?_,?_,?_,trivial⟩
      all_goals rintro c st R hC hJ hR
      all_goals simp only [latm] at hC
      all_goals rcases Bool.eq_false_or_eq_true (c 14) with hx14 | hx14
      all_goals simp only [hC,hx14,latj] at hJ
      all_goals simp -dsimp -implicitDefEqProofs (disch:=first | omega | (simp only [lenr];try omega)) only [↓amPre,amAll,↓reduceIte,reduceCtorEq,Nat.reduceEqDiff,Nat.reduceBEq,Nat.reduceAdd,Nat.reduceLeDiff,Nat.reduceSub,Nat.reduceMul,Int.reduceToNat,List.size_toArray,tyF,MM,bu0,cbU49,hJ,hDk,hlD,hlD3,hE3D,hwr]
      all_goals refine hR _ ?_
      all_goals (simp +contextual -dsimp -implicitDefEqProofs only [amAll,↓reduceIte,reduceCtorEq,Nat.reduceEqDiff,Nat.reduceBEq,Nat.reduceAdd,latj,hC,hJ,hx14,hDk,hlD,hlD3,hE3D,hwr];try (repeat' (first | apply And.intro | rfl | (intro _;rfl) | (intro _ _;rfl))))
    intro c st hall hJ
    simp only [latm] at hall
    simp only [hall,latj] at hJ
    obtain ⟨f56,f55,f54,f8,f7,f6,f5,f1,f9,f12,f95,f96,f97,f98,f100,f101,f102,f104,f106,f107,f108,f110,f111,m138,m1,m36,m32,m108⟩:=hJ
    clear hall
    simp -dsimp -implicitDefEqProofs (disch:=first | omega | (simp only [lenr];try omega)) only [↓amPre,amAll,↓reduceIte,reduceCtorEq,Nat.reduceEqDiff,Nat.reduceBEq,Nat.reduceAdd,Nat.reduceLeDiff,Nat.reduceSub,Nat.reduceMul,Int.reduceToNat,List.size_toArray,tyF,MM,bu0,cbU49,f1,f5,f6,f7,f8,f9,f12,f54,f55,f56,m1,m32,m36,m138,hlP,hE3P,hlP3]
    refine lat_go [[],[],[1],[1,2],[1,2,3],[],[],[5,6],[5,6,7],[5,6,7,8],[1,2,3,4,5,6,7,8,9],[0,1,2,3,4,5,6,7,8,9,10],[0,1,2,3,4,5,6,7,8,9,10,11],[0,1,2,3,4,5,6,7,8,9,10,11,12]] [[11,12,13],[2,3,4,10,11,12,13],[3,4,10,11,12,13],[4,10,11,12,13],[10,11,12,13],[7,8,9,10,11,12,13],[7,8,9,10,11,12,13],[8,9,10,11,12,13],[9,10,11,12,13],[10,11,12,13],[11,12,13],[12,13],[13],[]] [0,1,2,3,4,5,6,7,8,9,10,11,12,13] (fun c st=>st.fr 56=.i64 j∧st.fr 55=.i64 (2*p.mv.length:Nat)∧st.fr 54=ssl nb∧st.fr 8=.ref 138 [] 1 0 j∧st.fr 7=.i64 k∧st.fr 6=.ref 36 [] 1 0 (2*p.mv.length)∧st.fr 5=.loc 32 [] 0 0∧st.fr 1=.loc 1 [] 0 0∧st.fr 9=.i64 j∧st.fr 12=.i64 (E2.S.length:Nat)∧(c 0=true→st.fr 122=.loc 32 [] 0 0)∧(c 1=true→st.fr 123=.loc 32 [] 0 0)∧(c 2=true→st.fr 124=.loc 32 [] 0 0)∧(c 3=true→st.fr 125=.loc 32 [] 0 7)∧(c 4=true→c 10=false→st.fr 126=.ref 32 [(0,7)] 1 0 E2.S.length)∧(c 5=true→st.fr 127=.ref 36 [] 1 0 (2*p.mv.length))∧(c 6=true→st.fr 128=.i64 j)∧(c 7=true→st.fr 129=.loc 36 [] j 0)∧(c 8=true→st.fr 130=.i64 (A.getD j 0))∧(c 9=true→st.fr 131=.ref 131 [] 1 0 1)∧(c 10=true→c 13=false→st.fr 132=.ref 132 [] 1 0 (E2.S.length+1))∧(c 11=true→st.fr 133=.loc 32 [] 0 0)∧(c 12=true→st.fr 134=.loc 32 [] 0 7)∧st.mem 138=some (itr (cst rw1))∧st.mem 1=some (.pt 3 p.sl)∧st.mem 36=some (itr A)∧st.mem 32=some (bif c 13 then (exA p E3.S (cst E3.D) (idxM E3.S) (cst E3.Pa) (byL A E3.J) (nxT Nx)) else (bif c 10 then (.pt 9 (.agg [.i64 p.n,.st p.nm,ssl p.mv,sfr E3.S,itr (cst E3.D),.mt true (idxM E3.S),itr (cst E3.Pa),.any,nxT Nx])) else (exA p E3.S (cst E3.D) (idxM E3.S) (cst E3.Pa) (byL A E2.J) (nxT Nx))))∧(c 9=true→st.mem 131=some (itr [A.getD j 0]))∧(c 10=true→c 13=false→st.mem 132=some (itr (byL A E3.J)))) (by decide +kernel) ?_ ?_ ?_
    · (try simp -dsimp -implicitDefEqProofs (disch:=first | omega | (simp only [lenr];try omega)) only [↓amPre,amAll,↓reduceIte,reduceCtorEq,Nat.reduceEqDiff,Nat.reduceBEq,Nat.reduceAdd,Nat.reduceLeDiff,Nat.reduceSub,Nat.reduceMul,Int.reduceToNat,List.size_toArray,tyF,MM,bu0,cbU49,latj,hAj,hA,hlJ,hlJ3,hE3J,f1,f5,f6,f7,f8,f9,f12,f54,f55,f56,m1,m32,m36,m138])
      all_goals (try (repeat' (first | apply And.intro | rfl | (intro _;rfl) | (intro _ _;rfl))))
    · refine ⟨?_,?_,?_,?_,?_,?_,?_,?_,?_,?_,?_,?_,?_,?_,trivial⟩
      all_goals rintro c st R hC hJ hR
      all_goals simp only [latm] at hC
      all_goals rcases Bool.eq_false_or_eq_true (c 10) with hx10 | hx10
      all_goals simp only [hC,hx10,latj] at hJ
      all_goals simp -dsimp -implicitDefEqProofs (disch:=first | omega | (simp only [lenr];try omega)) only [↓amPre,amAll,↓reduceIte,reduceCtorEq,Nat.reduceEqDiff,Nat.reduceBEq,Nat.reduceAdd,Nat.reduceLeDiff,Nat.reduceSub,Nat.reduceMul,Int.reduceToNat,List.size_toArray,tyF,MM,bu0,cbU49,hJ,hAj,hA,hlJ,hlJ3,hE3J]
      all_goals refine hR _ ?_
      all_goals (simp +contextual -dsimp -implicitDefEqProofs only [amAll,↓reduceIte,reduceCtorEq,Nat.reduceEqDiff,Nat.reduceBEq,Nat.reduceAdd,latj,hC,hJ,hx10,hAj,hA,hlJ,hlJ3,hE3J];try (repeat' (first | apply And.intro | rfl | (intro _;rfl) | (intro _ _;rfl))))
    intro c st hall hJ
    simp only [latm] at hall
    simp only [hall,latj] at hJ
    obtain ⟨f56,f55,f54,f8,f7,f6,f5,f1,f9,f12,f122,f123,f124,f125,f127,f128,f129,f130,f131,f133,f134,m138,m1,m36,m32,m131⟩:=hJ
    clear hall
    simp -dsimp -implicitDefEqProofs (disch:=first | omega | (simp only [lenr];try omega)) only [↓amPre,amAll,↓reduceIte,reduceCtorEq,Nat.reduceEqDiff,Nat.reduceBEq,Nat.reduceAdd,Nat.reduceLeDiff,Nat.reduceSub,Nat.reduceMul,Int.reduceToNat,List.size_toArray,tyF,MM,bu0,cbU49,f1,f5,f6,f7,f8,f9,f12,f54,f55,f56,m1,m32,m36,m138,hlr1]
    exact ⟨c2,by omega,by rw [← hre]⟩
end Ck
end Go.AM
set_option maxRecDepth 8000
namespace Go.AM
namespace Sr
open Go.Proofs
open Ch (PN pt idL cst cst_app cst_len)
open Bf (Ex nxO lsK lsN idxM byL)
open Ck (sfr exT exA nxT stN)
theorem stN_pos {p:Puzz} (hd:puzzOk p):1≤stN p:=by
  have hpn:=Ck.puzz_pn hd
  have h1:=hd.1.1
  have hP:=Ch.newL_part (n:=p.n.toNat) (by omega) (by omega) hpn
  rw [stN,if_pos hd]
  exact (Ch.ord_fac (by omega) (by omega) _ 0 hP.good).1
theorem sR_yes {p:Puzz} (h:1≤stN p∧stN p≤3000):puzzOk p∧sR p=(Bf.out p.mv (letL p.mv.length) p.n.toNat 3000,true):=by
  have hd:puzzOk p:=by
    by_cases c:puzzOk p
    · exact c
    · rw [stN,if_neg c] at h;omega
  have hpn:=Ck.puzz_pn hd
  have h1:=hd.1.1
  have hw:=Bf.outF_whole (n:=p.n.toNat) (by omega) (by omega) hpn
  have hz:stN p=Ch.ordL (Ch.newL p.n.toNat p.mv):=if_pos hd
  have hF:=hw.2 (by omega)
  refine ⟨hd,?_⟩
  rw [sR,if_pos hd,Bf.outF_f 3000 hF,hF];rfl
theorem sR_no {p:Puzz} (h:¬ (1≤stN p∧stN p≤3000)):(sR p).2=false:=by
  by_cases c:puzzOk p
  · have hpn:=Ck.puzz_pn c
    have h1:=c.1.1
    have hw:=Bf.outF_whole (n:=p.n.toNat) (by omega) (by omega) hpn
    have hz:stN p=Ch.ordL (Ch.newL p.n.toNat p.mv):=if_pos c
    have hp:=stN_pos c
    rw [sR,if_pos c]
    cases hb:(Bf.outF p.mv (letL p.mv.length) p.n.toNat 3000).2 with
    | true=>rfl
    | false=>have:=hw.1 hb;omega
  · rw [sR,if_neg c]
theorem sR_ok {p:Puzz} (hd:puzzOk p):Bf.Ok p.n.toNat p.mv (Bf.out p.mv (letL p.mv.length) p.n.toNat 3000):=by
  have h1:=hd.1.1
  exact (Bf.out_ok (by omega) (by omega) (Ck.puzz_pn hd) 3000).1
theorem sR_len {p:Puzz} (hd:puzzOk p):(Bf.out p.mv (letL p.mv.length) p.n.toNat 3000).S.length≤stN p:=by
  have h1:=hd.1.1
  have h2:1≤p.n.toNat:=by omega
  have h3:p.n.toNat≤20:=by omega
  rw [stN,if_pos hd]
  exact Bf.out_le h2 h3 (Ck.puzz_pn hd) 3000
noncomputable def ssR (p:Puzz):Int:=if (sR p).2=true then lsK (sR p).1.S ((sR p).1.S.length - 1) else -1
theorem fE_fz (e:Ex) (w b:Bool):(AV.tup [fE e w,.bl b]).fz=.tup [fS e.S (cst e.D) (Bf.srtS e.S) w,.bl b]:=by
  have h1:∀ L:List (List Int),AV.fzL (L.map fun x=>isl x)=L.map fun x=>isl x:=fun L=>by rw [fzL_map,islfz]
  have e1:∀ X:List Int,AV.fzL (X.map AV.i64)=X.map AV.i64:=fun X=>by rw [fzL_map,ints_fz]
  simp only [AV.fz,AV.fzL,h1,e1]
theorem searchC (p:Puzz) (h:smallP p):SpecAt Tryz.prog 28 [p.sl] (.tup [fS (sR p).1.S (cst (sR p).1.D) (Bf.srtS (sR p).1.S) (sR p).2,.bl (sR p).2]):=spec_frz (searchStatesI p h) rfl (fE_fz _ _ _)
end Sr
end Go.AM
set_option maxRecDepth 8000
namespace Go.AM
namespace Sr
open Go.Proofs
open Ch (PN pt idL cst cst_app cst_len)
open Bf (Ex nxO idxM byL dOf)
open Ck (sfr exT exA nxT stN)
abbrev exC (p:Puzz) (e:Ex) (x:AV) (Nx:List (List Nat)):AV:=.ep [.i64 p.n,.st p.nm,ssl p.mv,ssl e.S,isl (cst e.D),x,isl (cst e.Pa),isl (byL (letL p.mv.length) e.J),.sl 1 (Nx.map fun r=>isl (cst r))]
theorem depthOfS (n:Nat) (e:Ex) (w:Bool) (s:List Int) (hZ:Bf.SrtOk n e.S (Bf.srtS e.S)) (hd:e.S.Nodup) (hn:n≤20) (hs:s.length=n) (hl:e.S.length≤3000) (hD:e.D.length=e.S.length) :
    SpecAt Tryz.prog 95 [fS e.S (cst e.D) (Bf.srtS e.S) w,isl s] (.i64 (if s∈e.S then (dOf e s:Int) else -1)):=by
  have q:=searchIndex n e.S (cst e.D) (Bf.srtS e.S) w s hZ hd hn hs hl
  by_cases c:s∈e.S
  · have hix:ixK e.S s=((e.S.idxOf s:Nat):Int):=by unfold ixK;rw [if_pos c]
    have hlt:e.S.idxOf s<e.D.length:=by rw [hD];exact List.idxOf_lt_length_iff.2 c
    have hg:((cst e.D).map AV.i64).getD (e.S.idxOf s) .any=.i64 (dOf e s:Int):=by rw [getD_eq _ _ _ (by rw [List.length_map,cst_len];exact hlt),List.getElem_map,← getD_eq _ _ 0,Ch.cst_get hlt];rfl
    have hl2:(cst e.D).length=e.D.length:=cst_len _
    rw [hix] at q
    rw [if_pos c]
    generalize e.S.idxOf s=i at *
    generalize dOf e s=d at *
    refine spec_of_awp (M:=MM) (np:=2) (fz:=true) mixed Tryz.func95 rfl rfl (by decide) rfl (Nat.le_refl _) (by decide +kernel) (.inr ⟨rfl,rfl⟩) trivial ?_
    simp -dsimp -implicitDefEqProofs (disch:=first | omega | (simp only [lenr];try omega)) only [↓amPre,amAll,↓reduceIte,reduceCtorEq,Nat.reduceEqDiff,Nat.reduceBEq,Nat.reduceAdd,Nat.reduceLeDiff,Nat.reduceSub,Nat.reduceMul,Int.reduceToNat,List.size_toArray,tyF,MM,bu0,cbU49]
    refine callP_of (q) ?_
    simp -dsimp -implicitDefEqProofs (disch:=first | omega | (simp only [lenr];try omega)) only [↓amPre,amAll,↓reduceIte,reduceCtorEq,Nat.reduceEqDiff,Nat.reduceBEq,Nat.reduceAdd,Nat.reduceLeDiff,Nat.reduceSub,Nat.reduceMul,Int.reduceToNat,List.size_toArray,tyF,MM,bu0,cbU49,hl2,hg]
  · have hix:ixK e.S s = -1:=by unfold ixK;rw [if_neg c]
    rw [hix] at q
    rw [if_neg c]
    refine spec_of_awp (M:=MM) (np:=2) (fz:=true) mixed Tryz.func95 rfl rfl (by decide) rfl (Nat.le_refl _) (by decide +kernel) (.inr ⟨rfl,rfl⟩) trivial ?_
    simp -dsimp -implicitDefEqProofs (disch:=first | omega | (simp only [lenr];try omega)) only [↓amPre,amAll,↓reduceIte,reduceCtorEq,Nat.reduceEqDiff,Nat.reduceBEq,Nat.reduceAdd,Nat.reduceLeDiff,Nat.reduceSub,Nat.reduceMul,Int.reduceToNat,List.size_toArray,tyF,MM,bu0,cbU49]
    refine callP_of (q) ?_
    simp -dsimp -implicitDefEqProofs (disch:=first | omega | (simp only [lenr];try omega)) only [↓amPre,amAll,↓reduceIte,reduceCtorEq,Nat.reduceEqDiff,Nat.reduceBEq,Nat.reduceAdd,Nat.reduceLeDiff,Nat.reduceSub,Nat.reduceMul,Int.reduceToNat,List.size_toArray,tyF,MM,bu0,cbU49]
end Sr
end Go.AM
namespace Go.AM
namespace Bf
open Ch (PN pt idL Gen cst cst_app cst_len)
/-! reversal by exchanges -/
def rvK (l:List Int) (k:Nat):List Int:=(List.range l.length).map fun i=>if i<k∨l.length - k≤i then l.getD (l.length - 1 - i) 0 else l.getD i 0
theorem rvK_len (l:List Int) (k:Nat):(rvK l k).length=l.length:=by simp [rvK]
theorem rvK_get (l:List Int) (k:Nat) {i:Nat} (h:i<l.length):(rvK l k).getD i 0=if i<k∨l.length - k≤i then l.getD (l.length - 1 - i) 0 else l.getD i 0:=by
  unfold rvK
  rw [getD_eq _ _ _ (by simpa using h),List.getElem_map,List.getElem_range]
theorem rvK_zero (l:List Int):rvK l 0=l:=by
  apply Ch.pl_ext (by rw [rvK_len])
  intro i hi
  rw [rvK_len] at hi
  rw [rvK_get l 0 hi,if_neg (by omega)]
theorem rvK_step (l:List Int) {k:Nat} (h:2*k+1<l.length):((rvK l k).set k (l.getD (l.length - 1 - k) 0)).set (l.length - 1 - k) (l.getD k 0)=rvK l (k+1):=by
  apply Ch.pl_ext (by simp [rvK_len])
  intro i hi
  have hi:i<l.length:=by simpa [rvK_len] using hi
  rw [rvK_get l (k+1) hi]
  have g1:∀ (x:List Int) (a:Nat) (v:Int) (j:Nat),a<x.length→(x.set a v).getD j 0=if j=a then v else x.getD j 0:=fun x a v j ha=>by
    by_cases c:j=a
    · subst c;simp [List.getD,ha]
    · rw [if_neg c];simp [List.getD,List.getElem?_set,Ne.symm c]
  rw [g1 _ _ _ _ (by simp [rvK_len];omega),g1 _ _ _ _ (by rw [rvK_len];omega),rvK_get l k hi]
  by_cases c1:i=l.length - 1 - k
  · rw [if_pos c1,if_pos (by omega)]
    congr 1;omega
  · rw [if_neg c1]
    by_cases c2:i=k
    · rw [if_pos c2,if_pos (by omega),c2]
    · rw [if_neg c2]
      by_cases c3:i<k∨l.length - k≤i
      · rw [if_pos c3,if_pos (by omega)]
      · rw [if_neg c3,if_neg (by omega)]
theorem rvK_all (l:List Int) {k:Nat} (h:l.length≤2*k+1):rvK l k=l.reverse:=by
  apply Ch.pl_ext (by simp [rvK_len])
  intro i hi
  have hi:i<l.length:=by simpa [rvK_len] using hi
  have hr:l.reverse.getD i 0=l.getD (l.length - 1 - i) 0:=by
    rw [getD_eq _ _ _ (by simpa using hi),List.getElem_reverse,getD_eq _ _ _ (by omega)]
  rw [rvK_get l k hi,hr]
  by_cases c:i<k∨l.length - k≤i
  · rw [if_pos c]
  · rw [if_neg c]
    congr 1;omega
theorem Tm.d_le {mv:List (List Int)} {A:List Int} {e:Ex} {T:Nat} (t:Tm mv A e T):∀ N i,i≤N→i<e.S.length→e.D.getD i 0≤i
  | N,0,_,_=>by rw [t.d0];exact Nat.le_refl _
  | 0,i+1,h,_=>by omega
  | N+1,i+1,h,hi=>by
    obtain ⟨a1,a2,a3,a4,a5⟩:=t.old (i+1) (by omega) hi
    have:=t.d_le N (e.Pa.getD (i+1) 0) (by omega) (by omega)
    omega
/-! a word's letters -/
def ltr (A:List Int) (w:List Nat):List Int:=w.map fun j=>A.getD j 0
theorem byL_get (A:List Int) {J:List Nat} {i:Nat} (h0:0<i) (h:i<J.length):(byL A J).getD i 0=A.getD (J.getD i 0) 0:=by
  cases J with
  | nil=>simp at h
  | cons a r =>
    obtain ⟨m,rfl⟩:∃ m,i=m+1:=⟨i - 1,by omega⟩
    have hm:m<r.length:=by simpa using h
    show (0 :: r.map _).getD (m+1) 0=_
    rw [List.getD_cons_succ,List.getD_cons_succ,getD_eq _ _ _ (by simpa using hm),List.getElem_map,getD_eq _ _ _ hm]
end Bf
end Go.AM
set_option maxRecDepth 8000
namespace Go.AM
namespace Wo
open Go.Proofs
open Ch (PN pt idL cst cst_app cst_len)
open Bf (Ex nxO idxM byL dOf rvK ltr wdE dw)
open Ck (sfr exT exA nxT stN)
open Sr (exC fS)
def MM:FuncId→List Bool:=fun f=>if f=83 then [true] else []
theorem reverseI (l:List Int) (hl:l.length≤1099511627776):SpecX Tryz.prog 83 [itr l] [some (itr l.reverse)] (.tup []):=by
  refine spec_of_awp_any (M:=MM) (np:=1) (X:=[3]) (fz:=false) mixed Tryz.func83 rfl rfl (by decide) rfl (Nat.le_refl _) (by decide +kernel) (.inl rfl) (by simp only [sigsOk_some,sigsOk_nil,sig_tr,List.length_map,List.length_reverse,and_self]) ?_
  by_cases h0:l.length=0
  · have:l=[]:=List.length_eq_zero_iff.1 h0
    subst this
    simp -dsimp -implicitDefEqProofs (disch:=first | omega | (simp only [lenr];try omega)) only [↓amPre,amAll,↓reduceIte,reduceCtorEq,Nat.reduceEqDiff,Nat.reduceBEq,Nat.reduceAdd,Nat.reduceLeDiff,Nat.reduceSub,Nat.reduceMul,Int.reduceToNat,List.size_toArray,tyF,MM,bu0,cbU49]
    refine awp_loop (fun k st=>k≤0∧st.fr 2=.i64 0∧st.fr 3=.i64 (-1)∧st.fr 0=.ref 0 [] 1 0 0∧st.mem 0=some (itr [])) (0) ?_ ?_
    · simp -dsimp -implicitDefEqProofs (disch:=first | omega | (simp only [lenr];try omega)) only [↓amPre,amAll,↓reduceIte,reduceCtorEq,Nat.reduceEqDiff,Nat.reduceBEq,Nat.reduceAdd,Nat.reduceLeDiff,Nat.reduceSub,Nat.reduceMul,Int.reduceToNat,List.size_toArray,tyF,MM,bu0,cbU49]
      rfl
    rintro k st _ ⟨hk,f2,f3,f0,m0⟩
    simp -dsimp -implicitDefEqProofs (disch:=first | omega | (simp only [lenr];try omega)) only [↓amPre,amAll,↓reduceIte,reduceCtorEq,Nat.reduceEqDiff,Nat.reduceBEq,Nat.reduceAdd,Nat.reduceLeDiff,Nat.reduceSub,Nat.reduceMul,Int.reduceToNat,List.size_toArray,tyF,MM,bu0,cbU49,f2,f3,f0,m0]
    rfl
  have hw:IntKind.i64.wrap ((l.length:Int) - 1)=((l.length - 1:Nat):Int):=by rw [wrap64_id (by omega)];omega
  simp -dsimp -implicitDefEqProofs (disch:=first | omega | (simp only [lenr];try omega)) only [↓amPre,amAll,↓reduceIte,reduceCtorEq,Nat.reduceEqDiff,Nat.reduceBEq,Nat.reduceAdd,Nat.reduceLeDiff,Nat.reduceSub,Nat.reduceMul,Int.reduceToNat,List.size_toArray,tyF,MM,bu0,cbU49,hw]
  refine awp_loop (fun k st=>k≤l.length∧st.fr 2=.i64 k∧st.fr 3=.i64 ((l.length:Int) - 1 - k)∧st.fr 0=.ref 0 [] 1 0 l.length∧st.mem 0=some (itr (rvK l k))∧(2*k≤l.length)) (l.length) ?_ ?_
  · simp -dsimp -implicitDefEqProofs (disch:=first | omega | (simp only [lenr];try omega)) only [↓amPre,amAll,↓reduceIte,reduceCtorEq,Nat.reduceEqDiff,Nat.reduceBEq,Nat.reduceAdd,Nat.reduceLeDiff,Nat.reduceSub,Nat.reduceMul,Int.reduceToNat,List.size_toArray,tyF,MM,bu0,cbU49,Bf.rvK_zero]
    exact ⟨Nat.zero_le _,rfl,i64c (by omega),Nat.zero_le _⟩
  rintro k st _ ⟨hk,f2,f3,f0,m0,ek⟩
  have hrl:=Bf.rvK_len l k
  by_cases c1:(k:Int)<(l.length:Int) - 1 - k
  · have hst:=Bf.rvK_step l (k:=k) (by omega)
    obtain ⟨m,hm⟩:∃ m:Nat,m=l.length - 1 - k:=⟨_,rfl⟩
    have hmI:(l.length:Int) - 1 - k=(m:Int):=by omega
    have g1:=Bf.rvK_get l k (i:=m) (by omega)
    have g2:=Bf.rvK_get l k (i:=k) (by omega)
    rw [if_neg (by omega)] at g1 g2
    rw [← hm] at hst
    rw [hmI] at f3 c1
    simp -dsimp -implicitDefEqProofs (disch:=first | omega | (simp only [lenr];try omega)) only [↓amPre,amAll,↓reduceIte,reduceCtorEq,Nat.reduceEqDiff,Nat.reduceBEq,Nat.reduceAdd,Nat.reduceLeDiff,Nat.reduceSub,Nat.reduceMul,Int.reduceToNat,List.size_toArray,tyF,MM,bu0,cbU49,f2,f3,f0,m0,lt_true c1]
    refine lat_go [[],[],[],[],[],[],[4,5],[4,5,6],[],[],[8,9],[8,9,10],[0,1,4,5,6,7,8,9,10,11],[0,1,4,5,6,7,8,9,10,11,12],[0,1,2,3,4,5,6,7,8,9,10,11,12,13],[0,1,2,3,4,5,6,7,8,9,10,11,12,13,14]] [[12,13,14,15],[12,13,14,15],[14,15],[14,15],[6,7,12,13,14,15],[6,7,12,13,14,15],[7,12,13,14,15],[12,13,14,15],[10,11,12,13,14,15],[10,11,12,13,14,15],[11,12,13,14,15],[12,13,14,15],[13,14,15],[14,15],[15],[]] [0,1,2,3,4,5,6,7,8,9,10,11,12,13,14,15] (fun c st=>st.fr 0=.ref 0 [] 1 0 l.length∧st.fr 2=.i64 k∧st.fr 3=.i64 m∧(c 0=true→st.fr 14=.ref 0 [] 1 0 l.length)∧(c 1=true→st.fr 15=.i64 k)∧(c 2=true→st.fr 16=.ref 0 [] 1 0 l.length)∧(c 3=true→st.fr 17=.i64 m)∧(c 4=true→st.fr 18=.ref 0 [] 1 0 l.length)∧(c 5=true→st.fr 19=.i64 m)∧(c 6=true→st.fr 20=.loc 0 [] m 0)∧(c 7=true→st.fr 21=.i64 (l.getD m 0))∧(c 8=true→st.fr 22=.ref 0 [] 1 0 l.length)∧(c 9=true→st.fr 23=.i64 k)∧(c 10=true→st.fr 24=.loc 0 [] k 0)∧(c 11=true→st.fr 25=.i64 (l.getD k 0))∧(c 12=true→st.fr 26=.loc 0 [] k 0)∧(c 14=true→st.fr 27=.loc 0 [] m 0)∧st.mem 0=some (bif c 15 then (itr (rvK l (k+1))) else (bif c 13 then (itr ((rvK l k).set k (l.getD m 0))) else (itr (rvK l k))))) (by decide +kernel) ?_ ?_ ?_
    · (try simp -dsimp -implicitDefEqProofs (disch:=first | omega | (simp only [lenr];try omega)) only [↓amPre,amAll,↓reduceIte,reduceCtorEq,Nat.reduceEqDiff,Nat.reduceBEq,Nat.reduceAdd,Nat.reduceLeDiff,Nat.reduceSub,Nat.reduceMul,Int.reduceToNat,List.size_toArray,tyF,MM,bu0,cbU49,latj,hrl,g1,g2,hst,f2,f3,f0,m0])
      all_goals (try (repeat' (first | apply And.intro | rfl | (intro _;rfl) | (intro _ _;rfl))))
    · refine ⟨?_,?_,?_,?_,?_,?_,?_,?_,?_,?_,?_,?_,?_,?_,?_,?_,trivial⟩
      all_goals rintro c st R hC hJ hR
      all_goals simp only [latm] at hC
      all_goals simp only [hC,latj] at hJ
      all_goals simp -dsimp -implicitDefEqProofs (disch:=first | omega | (simp only [lenr];try omega)) only [↓amPre,amAll,↓reduceIte,reduceCtorEq,Nat.reduceEqDiff,Nat.reduceBEq,Nat.reduceAdd,Nat.reduceLeDiff,Nat.reduceSub,Nat.reduceMul,Int.reduceToNat,List.size_toArray,tyF,MM,bu0,cbU49,hJ,hrl,g1,g2,hst]
      all_goals refine hR _ ?_
      all_goals (simp +contextual -dsimp -implicitDefEqProofs only [amAll,↓reduceIte,reduceCtorEq,Nat.reduceEqDiff,Nat.reduceBEq,Nat.reduceAdd,latj,hC,hJ,hrl,g1,g2,hst];try (repeat' (first | apply And.intro | rfl | (intro _;rfl) | (intro _ _;rfl))))
    intro c st hall hJ
    simp only [latm] at hall
    simp only [hall,latj] at hJ
    obtain ⟨f0,f2,f3,f14,f15,f16,f17,f18,f19,f20,f21,f22,f23,f24,f25,f26,f27,m0⟩:=hJ
    clear hall
    simp -dsimp -implicitDefEqProofs (disch:=first | omega | (simp only [lenr];try omega)) only [↓amPre,amAll,↓reduceIte,reduceCtorEq,Nat.reduceEqDiff,Nat.reduceBEq,Nat.reduceAdd,Nat.reduceLeDiff,Nat.reduceSub,Nat.reduceMul,Int.reduceToNat,List.size_toArray,tyF,MM,bu0,cbU49,f0,f2,f3,m0]
    exact ⟨by omega,by omega,i64c (by omega),by omega⟩
  · have hre:=Bf.rvK_all l (k:=k) (by omega)
    simp -dsimp -implicitDefEqProofs (disch:=first | omega | (simp only [lenr];try omega)) only [↓amPre,amAll,↓reduceIte,reduceCtorEq,Nat.reduceEqDiff,Nat.reduceBEq,Nat.reduceAdd,Nat.reduceLeDiff,Nat.reduceSub,Nat.reduceMul,Int.reduceToNat,List.size_toArray,tyF,MM,bu0,cbU49,f2,f3,f0,m0,lt_false (Int.not_lt.1 c1),hre]
theorem wordI (p:Puzz) (e:Ex) (x:AV) (Nx:List (List Nat)) {T:Nat} (t:Bf.Tm p.mv (letL p.mv.length) e T) (i:Nat) (hi:i<e.S.length) (hok:Bf.Ok p.n.toNat p.mv e) (hl:e.S.length≤3000) :
    SpecAt Tryz.prog 41 [exC p e x Nx,.i64 i] (itr (ltr (letL p.mv.length) (wdE e i))):=by
  have hlP:(cst e.Pa).length=e.S.length:=by rw [cst_len,hok.lP]
  have hlJ:(byL (letL p.mv.length) e.J).length=e.S.length:=by rw [Bf.byL_len,hok.lJ]
  have hwl:=t.wd_len hok.z.1 _ i (Nat.le_refl _) hi
  refine spec_of_awp (M:=MM) (np:=2) (fz:=false) mixed Tryz.func41 rfl rfl (by decide) rfl (Nat.le_refl _) (by decide +kernel) (.inl rfl) (by first | trivial | simp only [sigsOk_nil,sigsOk_some,sigsOk_none,sig_tr,sig_pt,sig_mt,sig_agg,List.map_cons,List.map_nil,sig1_tr,sig1_pt,sig1_v,and_self,true_and,List.length_map,List.length_set]) ?_
  simp -dsimp -implicitDefEqProofs (disch:=first | omega | (simp only [lenr];try omega)) only [↓amPre,amAll,↓reduceIte,reduceCtorEq,Nat.reduceEqDiff,Nat.reduceBEq,Nat.reduceAdd,Nat.reduceLeDiff,Nat.reduceSub,Nat.reduceMul,Int.reduceToNat,List.size_toArray,tyF,MM,bu0,cbU49]
  refine awp_loopN 5 24 1 (by simp -dsimp -implicitDefEqProofs (disch:=first | omega | (simp only [lenr];try omega)) only [↓amPre,amAll,↓reduceIte,reduceCtorEq,Nat.reduceEqDiff,Nat.reduceBEq,Nat.reduceAdd,Nat.reduceLeDiff,Nat.reduceSub,Nat.reduceMul,Int.reduceToNat,List.size_toArray,tyF,MM,bu0,cbU49]) (by decide) (fun k st=>k≤(wdE e i).length∧st.fr 0=exC p e x Nx∧st.fr 5=.ref 24 [] 1 0 k∧(∃ (r:Nat) (suf:List Nat),st.fr 1=.i64 r∧st.mem 24=some (itr (ltr (letL p.mv.length) suf.reverse))∧wdE e i=wdE e r++suf∧suf.length=k∧r<e.S.length)) ((wdE e i).length) ?_ ?_
  · simp -dsimp -implicitDefEqProofs (disch:=first | omega | (simp only [lenr];try omega)) only [↓amPre,amAll,↓reduceIte,reduceCtorEq,Nat.reduceEqDiff,Nat.reduceBEq,Nat.reduceAdd,Nat.reduceLeDiff,Nat.reduceSub,Nat.reduceMul,Int.reduceToNat,List.size_toArray,tyF,MM,bu0,cbU49,nilAs_eq]
    exact ⟨Nat.zero_le _,i,[],rfl,rfl,by simp,rfl,hi⟩
  rintro k st _ ⟨hk,f0,f5,ek⟩
  obtain ⟨r,suf,f1,m24,g1,g2,g3⟩:=ek
  have hll:(ltr (letL p.mv.length) suf.reverse).length=k:=by simp [ltr,g2]
  by_cases c1:0<r
  · have hs:=t.wd_s c1 g3
    obtain ⟨a1,a2,_⟩:=t.old r c1 g3
    have hgJ:((byL (letL p.mv.length) e.J).map AV.i64).getD r .any=.i64 ((letL p.mv.length).getD (e.J.getD r 0) 0):=by rw [getD_eq _ _ _ (by rw [List.length_map,hlJ];exact g3),List.getElem_map,← getD_eq _ _ 0,Bf.byL_get _ c1 (by rw [hok.lJ];exact g3)]
    have hgP:((cst e.Pa).map AV.i64).getD r .any=.i64 (e.Pa.getD r 0:Nat):=by rw [getD_eq _ _ _ (by rw [List.length_map,hlP];exact g3),List.getElem_map,← getD_eq _ _ 0,Ch.cst_get (by rw [hok.lP];exact g3)]
    have hkl:k<(wdE e i).length:=by rw [g1,hs,List.length_append,List.length_append,g2];simp
    have c1':(0:Int)<(r:Int):=by omega
    have hkb:k≤3000:=by have:=t.d_le _ i (Nat.le_refl _) hi;omega
    simp -dsimp -implicitDefEqProofs (disch:=first | omega | (simp only [lenr];try omega)) only [↓amPre,amAll,↓reduceIte,reduceCtorEq,Nat.reduceEqDiff,Nat.reduceBEq,Nat.reduceAdd,Nat.reduceLeDiff,Nat.reduceSub,Nat.reduceMul,Int.reduceToNat,List.size_toArray,tyF,MM,bu0,cbU49,f0,f5,f1,m24,lt_true c1',hgJ,hgP,hlJ,hlP,hll]
    exact ⟨hkl,by omega,e.Pa.getD r 0,e.J.getD r 0 :: suf,rfl,by simp [ltr],by rw [g1,hs];simp,by simp [g2],by omega⟩
  · have hr:r=0:=by omega
    subst hr
    rw [t.wd_0 hok.z.1,List.nil_append] at g1
    have q:=reverseI (ltr (letL p.mv.length) suf.reverse) (by have:=t.d_le _ i (Nat.le_refl _) hi;omega)
    have hrr:(ltr (letL p.mv.length) suf.reverse).reverse=ltr (letL p.mv.length) (wdE e i):=by rw [g1];simp [ltr]
    rw [hrr] at q
    simp -dsimp -implicitDefEqProofs (disch:=first | omega | (simp only [lenr];try omega)) only [↓amPre,amAll,↓reduceIte,reduceCtorEq,Nat.reduceEqDiff,Nat.reduceBEq,Nat.reduceAdd,Nat.reduceLeDiff,Nat.reduceSub,Nat.reduceMul,Int.reduceToNat,List.size_toArray,tyF,MM,bu0,cbU49,f0,f5,f1,m24,hll]
    have hll2:(ltr (letL p.mv.length) (wdE e i)).length=k:=by rw [g1];simp [ltr,g2]
    refine callX_of (q) ?_
    simp -dsimp -implicitDefEqProofs (disch:=first | omega | (simp only [lenr];try omega)) only [↓amPre,amAll,↓reduceIte,reduceCtorEq,Nat.reduceEqDiff,Nat.reduceBEq,Nat.reduceAdd,Nat.reduceLeDiff,Nat.reduceSub,Nat.reduceMul,Int.reduceToNat,List.size_toArray,tyF,MM,bu0,cbU49,f0,f5,hll2]
end Wo
end Go.AM
set_option maxRecDepth 8000
namespace Go.AM
namespace Wo
open Go.Proofs
open Ch (PN pt idL cst cst_app cst_len)
open Bf (Ex nxO idxM byL dOf rvK ltr wdE dw Fin srtS)
open Ck (sfr exT exA nxT stN)
open Sr (exC fS depthOfS)
theorem descendS (p:Puzz) (e:Ex) (w:Bool) (hd:puzzOk p) (f:Fin p.n.toNat p.mv (letL p.mv.length) e) (hl:e.S.length≤3000) (s0:List Int) (hs0:s0∈e.S) :
    SpecAt Tryz.prog 68 [p.sl,fS e.S (cst e.D) (srtS e.S) w,isl s0] (itr (ltr (letL p.mv.length) (dw p.mv (letL p.mv.length) e (dOf e s0) s0))):=by
  have hpn:=Ck.puzz_pn hd
  have hn20:=hd.1.1
  obtain ⟨N,hN⟩:∃ N:Nat,p.n=N:=⟨p.n.toNat,by omega⟩
  rw [show p.n.toNat=N by omega] at hpn f
  have hN1:1≤N:=by omega
  have hN2:N≤20:=by omega
  have hA:=letL_len p.mv.length
  have h8:=hd.1.2.1
  have ll:=lettersS p h8
  have hlo:=letL_ok h8
  have hnb:∀ s∈e.S,∀ j,j<(letL p.mv.length).length→compI s (letP p.mv ((letL p.mv.length).getD j 0))∈e.S:=fun s hs j hj=>(f.all _).2 (Bf.nbr_ok hN1 hN2 hpn (f.ok.el s hs) (mem_getD _ j 0 hj)).2
  have hZ:=Bf.srtS_ok f.ok.nd (fun s hs=>(f.ok.el s hs).1.1)
  have qd:∀ s∈e.S,SpecAt Tryz.prog 95 [fS e.S (cst e.D) (srtS e.S) w,isl s] (.i64 (dOf e s:Int)):=fun s hs=>by
    have:=depthOfS N e w s hZ f.ok.nd hN2 (f.ok.el s hs).1.1 hl f.ok.lD
    rwa [if_pos hs] at this
  have hdl:∀ s∈e.S,dOf e s≤3000:=fun s hs=>by
    have:=f.tm.d_le _ (e.S.idxOf s) (Nat.le_refl _) (List.idxOf_lt_length_iff.2 hs)
    have h2:=List.idxOf_lt_length_iff.2 hs
    show e.D.getD (e.S.idxOf s) 0≤3000
    omega
  have hsa:∀ s∈e.S,∀ j,j<(letL p.mv.length).length→SpecAt Tryz.prog 103 [p.sl,isl s,.i64 ((letL p.mv.length).getD j 0)] (itr (compI s (letP p.mv ((letL p.mv.length).getD j 0)))):=fun s hs j hj=>by
    have:=(f.ok.el s hs).1
    exact sApply1 p s _ hd.1 ⟨by rw [hN];have:=this.1;omega,this.2⟩ (hlo _ (mem_getD _ j 0 hj))
  have q0:=qd s0 hs0
  have hd0:=hdl s0 hs0
  have e1:∀ X:List Int,AV.fzL (X.map AV.i64)=X.map AV.i64:=fun X=>by rw [fzL_map,ints_fz]
  have hA16:(letL p.mv.length).length≤16:=by omega
  generalize letL p.mv.length=A at *
  generalize dOf e s0=d0 at *
  refine spec_of_awp (M:=MM) (np:=3) (fz:=false) mixed Tryz.func68 rfl rfl (by decide) rfl (Nat.le_refl _) (by decide +kernel) (.inl rfl) (by first | trivial | simp only [sigsOk_nil,sigsOk_some,sigsOk_none,sig_tr,sig_pt,sig_mt,sig_agg,List.map_cons,List.map_nil,sig1_tr,sig1_pt,sig1_v,and_self,true_and,List.length_map,List.length_set]) ?_
  simp -dsimp -implicitDefEqProofs (disch:=first | omega | (simp only [lenr];try omega)) only [↓amPre,amAll,↓reduceIte,reduceCtorEq,Nat.reduceEqDiff,Nat.reduceBEq,Nat.reduceAdd,Nat.reduceLeDiff,Nat.reduceSub,Nat.reduceMul,Int.reduceToNat,List.size_toArray,tyF,MM,bu0,cbU49]
  refine callP_frz ll ?_
  simp -dsimp -implicitDefEqProofs (disch:=first | omega | (simp only [lenr];try omega)) only [↓amPre,amAll,↓reduceIte,reduceCtorEq,Nat.reduceEqDiff,Nat.reduceBEq,Nat.reduceAdd,Nat.reduceLeDiff,Nat.reduceSub,Nat.reduceMul,Int.reduceToNat,List.size_toArray,tyF,MM,bu0,cbU49,itrF,e1]
  refine callP_of (q0) ?_
  simp -dsimp -implicitDefEqProofs (disch:=first | omega | (simp only [lenr];try omega)) only [↓amPre,amAll,↓reduceIte,reduceCtorEq,Nat.reduceEqDiff,Nat.reduceBEq,Nat.reduceAdd,Nat.reduceLeDiff,Nat.reduceSub,Nat.reduceMul,Int.reduceToNat,List.size_toArray,tyF,MM,bu0,cbU49]
  refine awp_loopR 12 47 (.tr 1 []) (by simp -dsimp -implicitDefEqProofs (disch:=first | omega | (simp only [lenr];try omega)) only [↓amPre,amAll,↓reduceIte,reduceCtorEq,Nat.reduceEqDiff,Nat.reduceBEq,Nat.reduceAdd,Nat.reduceLeDiff,Nat.reduceSub,Nat.reduceMul,Int.reduceToNat,List.size_toArray,tyF,MM,bu0,cbU49]) (by decide) (by decide) (by decide) (fun k st=>k≤d0∧st.fr 9=.i64 ((d0 - k:Nat):Int)∧st.fr 8=isl A∧st.fr 3=.loc 3 [] 0 0∧st.fr 4=.loc 4 [] 0 0∧st.mem 3=some (.pt 3 p.sl)∧st.mem 4=some (.pt 4 (fS e.S (cst e.D) (srtS e.S) w))∧(∃ (s:List Int) (u:List Nat),st.fr 2=isl s∧st.fr 7=.ref 47 [] 1 0 u.length∧st.mem 47=some (itr (ltr A u))∧s∈e.S∧u.length≤k∧dw p.mv A e d0 s0=u++dw p.mv A e (d0 - k) s)) (d0) ?_ ?_
  · simp -dsimp -implicitDefEqProofs (disch:=first | omega | (simp only [lenr];try omega)) only [↓amPre,amAll,↓reduceIte,reduceCtorEq,Nat.reduceEqDiff,Nat.reduceBEq,Nat.reduceAdd,Nat.reduceLeDiff,Nat.reduceSub,Nat.reduceMul,Int.reduceToNat,List.size_toArray,tyF,MM,bu0,cbU49,ren_eq]
    exact ⟨Nat.zero_le _,rfl,s0,[],rfl,rfl,rfl,hs0,by simp,by simp⟩
  rintro k st _ ⟨hk,f9,f8,f3,f4,m3,m4,ek⟩
  obtain ⟨s,u,f2,f7,m47,g1,g2,g3⟩:=ek
  have hlu:(ltr A u).length=u.length:=by simp [ltr]
  by_cases c1:k<d0
  · obtain ⟨d,hdk⟩:∃ d,d0 - k=d+1:=⟨d0 - k - 1,by omega⟩
    rw [hdk] at g3 f9
    have c1':(0:Int)<((d+1:Nat):Int):=by omega
    have hw1:IntKind.i64.wrap (((d+1:Nat):Int) - 1)=(d:Int):=by rw [wrap64_id (by omega)];omega
    simp -dsimp -implicitDefEqProofs (disch:=first | omega | (simp only [lenr];try omega)) only [↓amPre,amAll,↓reduceIte,reduceCtorEq,Nat.reduceEqDiff,Nat.reduceBEq,Nat.reduceAdd,Nat.reduceLeDiff,Nat.reduceSub,Nat.reduceMul,Int.reduceToNat,List.size_toArray,tyF,MM,bu0,cbU49,f9,f8,f3,f4,m3,m4,f2,f7,m47,lt_true c1']
    refine awp_loop (fun j st=>j≤A.length∧st.fr 10=.i64 j∧st.fr 9=.i64 ((d+1:Nat):Int)∧st.fr 8=isl A∧st.fr 3=.loc 3 [] 0 0∧st.fr 4=.loc 4 [] 0 0∧st.fr 2=isl s∧st.fr 7=.ref 47 [] 1 0 u.length∧st.mem 3=some (.pt 3 p.sl)∧st.mem 4=some (.pt 4 (fS e.S (cst e.D) (srtS e.S) w))∧st.mem 47=some (itr (ltr A u))∧(∀ i,i<j→dOf e (compI s (letP p.mv (A.getD i 0)))≠d)) (A.length) ?_ ?_
    · simp -dsimp -implicitDefEqProofs (disch:=first | omega | (simp only [lenr];try omega)) only [↓amPre,amAll,↓reduceIte,reduceCtorEq,Nat.reduceEqDiff,Nat.reduceBEq,Nat.reduceAdd,Nat.reduceLeDiff,Nat.reduceSub,Nat.reduceMul,Int.reduceToNat,List.size_toArray,tyF,MM,bu0,cbU49,f9,f8,f3,f4,m3,m4,f2,f7,m47]
      exact ⟨Nat.zero_le _,rfl,fun i hi=>absurd hi (Nat.not_lt_zero _)⟩
    rintro j st _ ⟨hj,f10,f9,f8,f3,f4,f2,f7,m3,m4,m47,ej⟩
    by_cases c2:j<A.length
    · have qa:=hsa s g1 j c2
      have hn:=hnb s g1 j c2
      have qb:=qd _ hn
      have c2':(j:Int)<(A.length:Int):=by omega
      generalize hx:compI s (letP p.mv (A.getD j 0))=x at *
      simp -dsimp -implicitDefEqProofs (disch:=first | omega | (simp only [lenr];try omega)) only [↓amPre,amAll,↓reduceIte,reduceCtorEq,Nat.reduceEqDiff,Nat.reduceBEq,Nat.reduceAdd,Nat.reduceLeDiff,Nat.reduceSub,Nat.reduceMul,Int.reduceToNat,List.size_toArray,tyF,MM,bu0,cbU49,f10,f9,f8,f3,f4,f2,f7,m3,m4,m47,lt_true c2']
      refine callP_frz qa ?_
      simp -dsimp -implicitDefEqProofs (disch:=first | omega | (simp only [lenr];try omega)) only [↓amPre,amAll,↓reduceIte,reduceCtorEq,Nat.reduceEqDiff,Nat.reduceBEq,Nat.reduceAdd,Nat.reduceLeDiff,Nat.reduceSub,Nat.reduceMul,Int.reduceToNat,List.size_toArray,tyF,MM,bu0,cbU49,f10,f9,f8,f3,f4,f2,f7,m3,m4,m47,itrF,e1]
      refine callP_of (qb) ?_
      by_cases c3:dOf e x=d
      · have hfd:(List.range A.length).find? (fun j=>decide (dOf e (compI s (letP p.mv (A.getD j 0)))=d))=some j:=by
          rw [List.find?_range_eq_some]
          exact ⟨decide_eq_true (by rw [hx];exact c3),List.mem_range.2 c2,fun i hi=>by simp only [decide_eq_false (ej i hi),Bool.not_false]⟩
        have hdw:dw p.mv A e (d+1) s=j :: dw p.mv A e d x:=by
          rw [dw,hfd];dsimp only;rw [hx]
        have c3':((dOf e x:Nat):Int)=(d:Int):=by omega
        have hu3:u.length≤3000:=by omega
        simp -dsimp -implicitDefEqProofs (disch:=first | omega | (simp only [lenr];try omega)) only [↓amPre,amAll,↓reduceIte,reduceCtorEq,Nat.reduceEqDiff,Nat.reduceBEq,Nat.reduceAdd,Nat.reduceLeDiff,Nat.reduceSub,Nat.reduceMul,Int.reduceToNat,List.size_toArray,tyF,MM,bu0,cbU49,f10,f9,f8,f3,f4,f2,f7,m3,m4,m47,hw1,c3',hlu,fun Q st=>blockQ_exit_ne Q st 3 2 rfl]
        exact ⟨by omega,by omega,i64c (by omega),x,u++[j],rfl,by simp,by simp [ltr],hn,by simp;omega,by rw [g3,hdw,show d0 - (k+1)=d by omega];simp⟩
      · have c3':¬ ((dOf e x:Nat):Int)=(d:Int):=by omega
        simp -dsimp -implicitDefEqProofs (disch:=first | omega | (simp only [lenr];try omega)) only [↓amPre,amAll,↓reduceIte,reduceCtorEq,Nat.reduceEqDiff,Nat.reduceBEq,Nat.reduceAdd,Nat.reduceLeDiff,Nat.reduceSub,Nat.reduceMul,Int.reduceToNat,List.size_toArray,tyF,MM,bu0,cbU49,f10,f9,f8,f3,f4,f2,f7,m3,m4,m47,hw1,c3']
        exact ⟨c2,by omega,fun i hi=>by
          rcases Nat.lt_or_ge i j with q | q
          · exact ej i q
          · rw [show i=j by omega,hx];exact c3⟩
    · have hfd:(List.range A.length).find? (fun j=>decide (dOf e (compI s (letP p.mv (A.getD j 0)))=d))=none:=by
        rw [List.find?_eq_none]
        exact fun i hi=>by simp only [decide_eq_false (ej i (by have:=List.mem_range.1 hi;omega)),Bool.false_eq_true,not_false_eq_true]
      have hdw:dw p.mv A e (d+1) s=dw p.mv A e d s:=by
        rw [dw,hfd]
      have c2':¬ (j:Int)<(A.length:Int):=by omega
      simp -dsimp -implicitDefEqProofs (disch:=first | omega | (simp only [lenr];try omega)) only [↓amPre,amAll,↓reduceIte,reduceCtorEq,Nat.reduceEqDiff,Nat.reduceBEq,Nat.reduceAdd,Nat.reduceLeDiff,Nat.reduceSub,Nat.reduceMul,Int.reduceToNat,List.size_toArray,tyF,MM,bu0,cbU49,f10,f9,f8,f3,f4,f2,f7,m3,m4,m47,lt_false (Int.not_lt.1 c2'),hw1]
      exact ⟨c1,by omega,i64c (by omega),s,u,rfl,rfl,rfl,g1,by omega,by rw [g3,hdw,show d0 - (k+1)=d by omega]⟩
  · have hk:k=d0:=by omega
    subst hk
    rw [Nat.sub_self] at g3 f9
    rw [g3,dw,List.append_nil]
    simp -dsimp -implicitDefEqProofs (disch:=first | omega | (simp only [lenr];try omega)) only [↓amPre,amAll,↓reduceIte,reduceCtorEq,Nat.reduceEqDiff,Nat.reduceBEq,Nat.reduceAdd,Nat.reduceLeDiff,Nat.reduceSub,Nat.reduceMul,Int.reduceToNat,List.size_toArray,tyF,MM,bu0,cbU49,f9,f8,f3,f4,m3,m4,f2,f7,m47]
theorem wordForS (p:Puzz) (e:Ex) (w:Bool) (hd:puzzOk p) (f:Fin p.n.toNat p.mv (letL p.mv.length) e) (hl:e.S.length≤3000) (i:Nat) (hi:i<e.S.length) :
    SpecAt Tryz.prog 32 [p.sl,fS e.S (cst e.D) (srtS e.S) w,isl (e.S.getD i default)] (itr (ltr (letL p.mv.length) (wdE e i))):=by
  have hpn:=Ck.puzz_pn hd
  have hn20:=hd.1.1
  obtain ⟨h1,h2,h3⟩:=f.dw_eq (by omega) (by omega) hpn hi
  have hp:=(f.ok.el _ (mem_getD e.S i default hi)).1
  have qi:=sInverse (e.S.getD i default) (by have:=hp.1;omega) hp.2
  rw [ivL_invI] at qi
  have qd:=descendS p e w hd f hl _ h1
  rw [h2,h3] at qd
  have e1:∀ X:List Int,AV.fzL (X.map AV.i64)=X.map AV.i64:=fun X=>by rw [fzL_map,ints_fz]
  generalize invI (e.S.getD i default)=y at *
  generalize e.S.getD i default=x at *
  generalize ltr (letL p.mv.length) (wdE e i)=r at *
  refine spec_of_awp (M:=MM) (np:=3) (fz:=false) mixed Tryz.func32 rfl rfl (by decide) rfl (Nat.le_refl _) (by decide +kernel) (.inl rfl) (by first | trivial | simp only [sigsOk_nil,sigsOk_some,sigsOk_none,sig_tr,sig_pt,sig_mt,sig_agg,List.map_cons,List.map_nil,sig1_tr,sig1_pt,sig1_v,and_self,true_and,List.length_map,List.length_set]) ?_
  simp -dsimp -implicitDefEqProofs (disch:=first | omega | (simp only [lenr];try omega)) only [↓amPre,amAll,↓reduceIte,reduceCtorEq,Nat.reduceEqDiff,Nat.reduceBEq,Nat.reduceAdd,Nat.reduceLeDiff,Nat.reduceSub,Nat.reduceMul,Int.reduceToNat,List.size_toArray,tyF,MM,bu0,cbU49]
  refine callP_frz qi ?_
  simp -dsimp -implicitDefEqProofs (disch:=first | omega | (simp only [lenr];try omega)) only [↓amPre,amAll,↓reduceIte,reduceCtorEq,Nat.reduceEqDiff,Nat.reduceBEq,Nat.reduceAdd,Nat.reduceLeDiff,Nat.reduceSub,Nat.reduceMul,Int.reduceToNat,List.size_toArray,tyF,MM,bu0,cbU49,itrF,e1]
  refine callP_of (qd) ?_
  simp -dsimp -implicitDefEqProofs (disch:=first | omega | (simp only [lenr];try omega)) only [↓amPre,amAll,↓reduceIte,reduceCtorEq,Nat.reduceEqDiff,Nat.reduceBEq,Nat.reduceAdd,Nat.reduceLeDiff,Nat.reduceSub,Nat.reduceMul,Int.reduceToNat,List.size_toArray,tyF,MM,bu0,cbU49]
end Wo
end Go.AM
namespace Go.AM
namespace Bf
open Ch (PN pt idL)
def fmT (A:List Int) (e:Ex) (i:Nat):Twist:=⟨ltr A (wdE e i),movL (e.S.getD i default) (e.S.getD i default).length⟩
def fmC (e:Ex) (md ms:Int) (i:Nat):Prop:=(e.D.getD i 0:Int)≤md∧lsN e.S i≤ms
instance (e:Ex) (md ms:Int) (i:Nat):Decidable (fmC e md ms i):=by unfold fmC;infer_instance
def fmA (A:List Int) (e:Ex) (md ms:Int):Nat→List Twist
  | 0=>[]
  | i+1=>if i≠0∧fmC e md ms i then fmA A e md ms i++[fmT A e i] else fmA A e md ms i
section
variable {A:List Int} {e:Ex} {md ms:Int}
def fmR (A:List Int) (e:Ex) (w:Bool) (md ms:Int):List Twist×Bool :=
  if w=true∧(within md 0 30=true∧within ms 0 20=true)∧(fmA A e md ms e.S.length).length≤200 then (fmA A e md ms e.S.length,true) else ([],false)
end
end Bf
end Go.AM
set_option maxRecDepth 8000
namespace Go.AM
namespace Wo
open Go.Proofs
open Ch (PN pt idL cst cst_app cst_len)
open Bf (Ex nxO idxM byL dOf rvK ltr wdE dw Fin srtS fmT fmC fmA fmR lsN movL_len)
open Ck (sfr exA exT nxT stN)
open Sr (exC fS depthOfS sR sR_yes sR_no sR_ok sR_len)
theorem fz1 (l:List Int):AV.fzL (l.map AV.i64)=l.map AV.i64:=by rw [fzL_map,ints_fz]
theorem fz2 (L:List (List Int)):AV.fzL (L.map fun l=>isl l)=L.map fun l=>isl l:=by rw [fzL_map,islfz]
theorem fz3 (L:List (List Nat)):AV.fzL (L.map fun r=>itr (cst r))=L.map fun r=>isl (cst r):=by
  rw [fzL_map,List.map_map]
  exact List.map_congr_left fun r _=>itr_fz _
theorem sR_fin {p:Puzz} (h:1≤stN p∧stN p≤3000):Fin p.n.toNat p.mv (letL p.mv.length) (Bf.out p.mv (letL p.mv.length) p.n.toNat 3000):=by
  have hd:=(sR_yes h).1
  have h1:=hd.1.1
  exact Bf.out_fin (by omega) (by omega) (Ck.puzz_pn hd) (by have:=sR_len hd;omega)
noncomputable def fmP (p:Puzz) (md ms:Int):List Twist×Bool:=fmR (letL p.mv.length) (sR p).1 (sR p).2 md ms
end Wo
end Go.AM
set_option maxRecDepth 8000
namespace Go.AM
namespace Wo
open Go.Proofs
open Ch (PN pt idL cst cst_app cst_len)
open Bf (Ex nxO idxM byL dOf rvK ltr wdE dw Fin srtS fmT fmC fmA fmR lsN movL_len)
open Ck (sfr exA exT nxT stN)
open Sr (exC fS depthOfS sR sR_yes sR_no sR_ok sR_len)
theorem isPointI (n x:Int) (h1:1≤n) (h2:n≤20):SpecAt Tryz.prog 78 [.i64 n,.i64 x] (.bl (within x 0 (n - 1))):=by
  have hw:IntKind.i64.wrap (n - 1)=n - 1:=wrap64_id (by omega)
  refine spec_of_awp (M:=MM) (np:=2) (fz:=true) mixed Tryz.func78 rfl rfl (by decide) rfl (Nat.le_refl _) (by decide +kernel) (.inr ⟨rfl,rfl⟩) trivial ?_
  simp -dsimp -implicitDefEqProofs (disch:=first | omega | (simp only [lenr];try omega)) only [↓amPre,amAll,↓reduceIte,reduceCtorEq,Nat.reduceEqDiff,Nat.reduceBEq,Nat.reduceAdd,Nat.reduceLeDiff,Nat.reduceSub,Nat.reduceMul,Int.reduceToNat,List.size_toArray,tyF,MM,bu0,cbU49,hw]
  refine callP_of (iwithin _ _ _) ?_
  simp -dsimp -implicitDefEqProofs (disch:=first | omega | (simp only [lenr];try omega)) only [↓amPre,amAll,↓reduceIte,reduceCtorEq,Nat.reduceEqDiff,Nat.reduceBEq,Nat.reduceAdd,Nat.reduceLeDiff,Nat.reduceSub,Nat.reduceMul,Int.reduceToNat,List.size_toArray,tyF,MM,bu0,cbU49]
def trkB (n:Int) (T:List Int) (k:Nat):Bool:=within (T.getD k 0) 0 (n - 1) && (k == 0 || decide (T.getD (k - 1) 0<T.getD k 0))
def trk (n:Int) (T:List Int):Bool:=(List.range T.length).all (trkB n T) && decide (0<T.length)
theorem isTrackedI (n:Int) (T:List Int) (h1:1≤n) (h2:n≤20) (hl:T.length≤1099511627776):SpecAt Tryz.prog 36 [.i64 n,isl T] (.bl (trk n T)):=by
  refine spec_of_awp (M:=MM) (np:=2) (fz:=true) mixed Tryz.func36 rfl rfl (by decide) rfl (Nat.le_refl _) (by decide +kernel) (.inr ⟨rfl,rfl⟩) trivial ?_
  simp -dsimp -implicitDefEqProofs (disch:=first | omega | (simp only [lenr];try omega)) only [↓amPre,amAll,↓reduceIte,reduceCtorEq,Nat.reduceEqDiff,Nat.reduceBEq,Nat.reduceAdd,Nat.reduceLeDiff,Nat.reduceSub,Nat.reduceMul,Int.reduceToNat,List.size_toArray,tyF,MM,bu0,cbU49]
  refine awp_loop (fun k st=>k≤T.length∧st.fr 9=.i64 k∧st.fr 8=.i64 T.length∧st.fr 7=isl T∧st.fr 0=.i64 n∧st.fr 1=isl T∧(∀ j,j<k→trkB n T j=true)) (T.length) ?_ ?_
  · simp -dsimp -implicitDefEqProofs (disch:=first | omega | (simp only [lenr];try omega)) only [↓amPre,amAll,↓reduceIte,reduceCtorEq,Nat.reduceEqDiff,Nat.reduceBEq,Nat.reduceAdd,Nat.reduceLeDiff,Nat.reduceSub,Nat.reduceMul,Int.reduceToNat,List.size_toArray,tyF,MM,bu0,cbU49]
    exact ⟨Nat.zero_le _,rfl,fun j hj=>absurd hj (Nat.not_lt_zero _)⟩
  rintro k st _ ⟨hk,f9,f8,f7,f0,f1,ek⟩
  by_cases c1:k<T.length
  · have c1':(k:Int)<(T.length:Int):=by omega
    have q1:=isPointI n (T.getD k 0) h1 h2
    have hbad:trkB n T k=false→trk n T=false:=fun h=>by
      rw [trk,Bool.and_eq_false_iff]
      exact .inl (List.all_eq_false.2 ⟨k,List.mem_range.2 c1,by rw [h];simp⟩)
    have hgo:trkB n T k=true→∀ j,j<k+1→trkB n T j=true:=fun h j hj=>by
      rcases Nat.lt_or_ge j k with q | q
      · exact ek j q
      · rw [show j=k by omega];exact h
    have hdef:trkB n T k=(within (T.getD k 0) 0 (n - 1) && (k == 0 || decide (T.getD (k - 1) 0<T.getD k 0))):=rfl
    cases w:within (T.getD k 0) 0 (n - 1) with
    | false =>
      rw [w] at q1 hdef
      rw [hbad (by rw [hdef];rfl)]
      simp -dsimp -implicitDefEqProofs (disch:=first | omega | (simp only [lenr];try omega)) only [↓amPre,amAll,↓reduceIte,reduceCtorEq,Nat.reduceEqDiff,Nat.reduceBEq,Nat.reduceAdd,Nat.reduceLeDiff,Nat.reduceSub,Nat.reduceMul,Int.reduceToNat,List.size_toArray,tyF,MM,bu0,cbU49,f9,f8,f7,f0,f1,lt_true c1']
      refine callP_of (q1) ?_
      simp -dsimp -implicitDefEqProofs (disch:=first | omega | (simp only [lenr];try omega)) only [↓amPre,amAll,↓reduceIte,reduceCtorEq,Nat.reduceEqDiff,Nat.reduceBEq,Nat.reduceAdd,Nat.reduceLeDiff,Nat.reduceSub,Nat.reduceMul,Int.reduceToNat,List.size_toArray,tyF,MM,bu0,cbU49,f9,f8,f7,f0,f1]
    | true =>
      rw [w] at q1 hdef
      by_cases c0:k=0
      · subst c0
        have hg:=hgo (by rw [hdef];rfl)
        simp -dsimp -implicitDefEqProofs (disch:=first | omega | (simp only [lenr];try omega)) only [↓amPre,amAll,↓reduceIte,reduceCtorEq,Nat.reduceEqDiff,Nat.reduceBEq,Nat.reduceAdd,Nat.reduceLeDiff,Nat.reduceSub,Nat.reduceMul,Int.reduceToNat,List.size_toArray,tyF,MM,bu0,cbU49,f9,f8,f7,f0,f1,lt_true c1']
        refine callP_of (q1) ?_
        simp -dsimp -implicitDefEqProofs (disch:=first | omega | (simp only [lenr];try omega)) only [↓amPre,amAll,↓reduceIte,reduceCtorEq,Nat.reduceEqDiff,Nat.reduceBEq,Nat.reduceAdd,Nat.reduceLeDiff,Nat.reduceSub,Nat.reduceMul,Int.reduceToNat,List.size_toArray,tyF,MM,bu0,cbU49,f9,f8,f7,f0,f1]
        exact ⟨c1,by omega,hg⟩
      · obtain ⟨m,rfl⟩:∃ m,k=m+1:=⟨k - 1,by omega⟩
        have hwm:IntKind.i64.wrap (((m+1:Nat):Int) - 1)=(m:Int):=by rw [wrap64_id (by omega)];omega
        have c0':(0:Int)<((m+1:Nat):Int):=by omega
        by_cases d1:T.getD m 0<T.getD (m+1) 0
        · have hg:=hgo (by rw [hdef];simp only [Nat.add_sub_cancel,d1,decide_true,Bool.or_true,Bool.and_true])
          simp -dsimp -implicitDefEqProofs (disch:=first | omega | (simp only [lenr];try omega)) only [↓amPre,amAll,↓reduceIte,reduceCtorEq,Nat.reduceEqDiff,Nat.reduceBEq,Nat.reduceAdd,Nat.reduceLeDiff,Nat.reduceSub,Nat.reduceMul,Int.reduceToNat,List.size_toArray,tyF,MM,bu0,cbU49,f9,f8,f7,f0,f1,lt_true c1']
          refine callP_of (q1) ?_
          simp -dsimp -implicitDefEqProofs (disch:=first | omega | (simp only [lenr];try omega)) only [↓amPre,amAll,↓reduceIte,reduceCtorEq,Nat.reduceEqDiff,Nat.reduceBEq,Nat.reduceAdd,Nat.reduceLeDiff,Nat.reduceSub,Nat.reduceMul,Int.reduceToNat,List.size_toArray,tyF,MM,bu0,cbU49,f9,f8,f7,f0,f1,lt_true c0',hwm,lt_true d1]
          exact ⟨c1,by omega,hg⟩
        · rw [hbad (by rw [hdef,Nat.add_sub_cancel,decide_eq_false d1];simp)]
          simp -dsimp -implicitDefEqProofs (disch:=first | omega | (simp only [lenr];try omega)) only [↓amPre,amAll,↓reduceIte,reduceCtorEq,Nat.reduceEqDiff,Nat.reduceBEq,Nat.reduceAdd,Nat.reduceLeDiff,Nat.reduceSub,Nat.reduceMul,Int.reduceToNat,List.size_toArray,tyF,MM,bu0,cbU49,f9,f8,f7,f0,f1,lt_true c1']
          refine callP_of (q1) ?_
          simp -dsimp -implicitDefEqProofs (disch:=first | omega | (simp only [lenr];try omega)) only [↓amPre,amAll,↓reduceIte,reduceCtorEq,Nat.reduceEqDiff,Nat.reduceBEq,Nat.reduceAdd,Nat.reduceLeDiff,Nat.reduceSub,Nat.reduceMul,Int.reduceToNat,List.size_toArray,tyF,MM,bu0,cbU49,f9,f8,f7,f0,f1,lt_true c0',hwm,lt_false (Int.not_lt.1 d1)]
  · have hke:k=T.length:=by omega
    subst hke
    have hall:(List.range T.length).all (trkB n T)=true:=List.all_eq_true.2 fun j hj=>ek j (List.mem_range.1 hj)
    rw [trk,hall,Bool.true_and]
    simp -dsimp -implicitDefEqProofs (disch:=first | omega | (simp only [lenr];try omega)) only [↓amPre,amAll,↓reduceIte,reduceCtorEq,Nat.reduceEqDiff,Nat.reduceBEq,Nat.reduceAdd,Nat.reduceLeDiff,Nat.reduceSub,Nat.reduceMul,Int.reduceToNat,List.size_toArray,tyF,MM,bu0,cbU49,f9,f8,f7,f0,f1]
    refine bl_eq ?_
    simp only [decide_eq_true_eq]
    omega
theorem slIndexI (l:List Int) (x:Int) (hl:l.length≤1099511627776):SpecAt Tryz.prog 82 [isl l,.i64 x] (.i64 (fidx (fun y=>x == y) l)):=by
  refine spec_of_awp (M:=MM) (np:=2) (fz:=true) mixed Tryz.func82 rfl rfl (by decide) rfl (Nat.le_refl _) (by decide +kernel) (.inr ⟨rfl,rfl⟩) trivial ?_
  simp -dsimp -implicitDefEqProofs (disch:=first | omega | (simp only [lenr];try omega)) only [↓amPre,amAll,↓reduceIte,reduceCtorEq,Nat.reduceEqDiff,Nat.reduceBEq,Nat.reduceAdd,Nat.reduceLeDiff,Nat.reduceSub,Nat.reduceMul,Int.reduceToNat,List.size_toArray,tyF,MM,bu0,cbU49]
  refine awp_loop (fun k st=>k≤l.length∧st.fr 8=.i64 k∧st.fr 7=.i64 l.length∧st.fr 0=isl l∧st.fr 1=.i64 x∧∀ y∈l.take k,(x == y)=false) (l.length) ?_ ?_
  · simp -dsimp -implicitDefEqProofs (disch:=first | omega | (simp only [lenr];try omega)) only [↓amPre,amAll,↓reduceIte,reduceCtorEq,Nat.reduceEqDiff,Nat.reduceBEq,Nat.reduceAdd,Nat.reduceLeDiff,Nat.reduceSub,Nat.reduceMul,Int.reduceToNat,List.size_toArray,tyF,MM,bu0,cbU49]
    simp
  rintro k st _ ⟨hk,f8,f7,f0,f1,ek⟩
  by_cases hlt:k<l.length
  · by_cases w:x=l.getD k 0
    · simp -dsimp -implicitDefEqProofs (disch:=first | omega | (simp only [lenr];try omega)) only [↓amPre,amAll,↓reduceIte,reduceCtorEq,Nat.reduceEqDiff,Nat.reduceBEq,Nat.reduceAdd,Nat.reduceLeDiff,Nat.reduceSub,Nat.reduceMul,Int.reduceToNat,List.size_toArray,tyF,MM,bu0,cbU49,f8,f7,f0,f1,decide_eq_true w]
      have:l.findIdx? (fun y=>x == y)=some k:=by
        rw [List.findIdx?_eq_some_iff_getElem]
        refine ⟨hlt,by rw [← getD_eq l k 0 hlt];simp [w],fun j hj=>?_⟩
        have:=ek (l[j]) (by rw [List.mem_take_iff_getElem];exact ⟨j,by omega,rfl⟩)
        rw [this];simp
      rw [fidx,this]
    · simp -dsimp -implicitDefEqProofs (disch:=first | omega | (simp only [lenr];try omega)) only [↓amPre,amAll,↓reduceIte,reduceCtorEq,Nat.reduceEqDiff,Nat.reduceBEq,Nat.reduceAdd,Nat.reduceLeDiff,Nat.reduceSub,Nat.reduceMul,Int.reduceToNat,List.size_toArray,tyF,MM,bu0,cbU49,f8,f7,f0,f1,decide_eq_false w]
      exact ⟨hlt,by omega,(mem_take_succ (d:=0) hlt).2 ⟨ek,by simpa using w⟩⟩
  · have hke:k=l.length:=by omega
    subst hke
    rw [List.take_length] at ek
    simp -dsimp -implicitDefEqProofs (disch:=first | omega | (simp only [lenr];try omega)) only [↓amPre,amAll,↓reduceIte,reduceCtorEq,Nat.reduceEqDiff,Nat.reduceBEq,Nat.reduceAdd,Nat.reduceLeDiff,Nat.reduceSub,Nat.reduceMul,Int.reduceToNat,List.size_toArray,tyF,MM,bu0,cbU49,f8,f7,f0,f1]
    have:l.findIdx? (fun y=>x == y)=none:=by rw [List.findIdx?_eq_none_iff];exact ek
    rw [fidx,this]
theorem slContainsI (l:List Int) (x:Int) (hl:l.length≤1099511627776):SpecAt Tryz.prog 40 [isl l,.i64 x] (.bl (l.any fun y=>x == y)):=by
  refine spec_of_awp (M:=MM) (np:=2) (fz:=true) mixed Tryz.func40 rfl rfl (by decide) rfl (Nat.le_refl _) (by decide +kernel) (.inr ⟨rfl,rfl⟩) trivial ?_
  simp -dsimp -implicitDefEqProofs (disch:=first | omega | (simp only [lenr];try omega)) only [↓amPre,amAll,↓reduceIte,reduceCtorEq,Nat.reduceEqDiff,Nat.reduceBEq,Nat.reduceAdd,Nat.reduceLeDiff,Nat.reduceSub,Nat.reduceMul,Int.reduceToNat,List.size_toArray,tyF,MM,bu0,cbU49]
  refine callP_of (slIndexI l x hl) ?_
  simp -dsimp -implicitDefEqProofs (disch:=first | omega | (simp only [lenr];try omega)) only [↓amPre,amAll,↓reduceIte,reduceCtorEq,Nat.reduceEqDiff,Nat.reduceBEq,Nat.reduceAdd,Nat.reduceLeDiff,Nat.reduceSub,Nat.reduceMul,Int.reduceToNat,List.size_toArray,tyF,MM,bu0,cbU49]
  refine bl_eq ?_
  simp only [decide_eq_true_eq,fidx_nonneg]
theorem outsideI (T:List Int) (x:Int) (hl:T.length≤1099511627776):SpecAt Tryz.prog 39 [.i64 x,.ep [isl T]] (.bl (!(T.any fun y=>x == y))):=by
  refine spec_of_awp (M:=MM) (np:=2) (fz:=true) mixed Tryz.func39 rfl rfl (by decide) rfl (Nat.le_refl _) (by decide +kernel) (.inr ⟨rfl,rfl⟩) trivial ?_
  simp -dsimp -implicitDefEqProofs (disch:=first | omega | (simp only [lenr];try omega)) only [↓amPre,amAll,↓reduceIte,reduceCtorEq,Nat.reduceEqDiff,Nat.reduceBEq,Nat.reduceAdd,Nat.reduceLeDiff,Nat.reduceSub,Nat.reduceMul,Int.reduceToNat,List.size_toArray,tyF,MM,bu0,cbU49]
  refine callP_of (slContainsI T x hl) ?_
  simp -dsimp -implicitDefEqProofs (disch:=first | omega | (simp only [lenr];try omega)) only [↓amPre,amAll,↓reduceIte,reduceCtorEq,Nat.reduceEqDiff,Nat.reduceBEq,Nat.reduceAdd,Nat.reduceLeDiff,Nat.reduceSub,Nat.reduceMul,Int.reduceToNat,List.size_toArray,tyF,MM,bu0,cbU49]
end Wo
end Go.AM
namespace Go.AM
namespace Bf
def wsB (e:Ex) (T:List Int) (i:Nat):Bool:=!(i == 0) && !((movL (e.S.getD i default) (e.S.getD i default).length).any fun x=>!(T.any fun y=>x == y))
def wsR (A:List Int) (e:Ex) (ok:Bool) (T:List Int):List Int×Bool :=
  if ok=true then match (List.range e.S.length).find? (wsB e T) with
    | some i=>if e.D.getD i 0≤200 then (ltr A (wdE e i),true) else ([],false)
    | none=>([],false)
  else ([],false)
theorem wsR_no (A:List Int) (e:Ex) (T:List Int):wsR A e false T=([],false):=rfl
theorem wsR_at (A:List Int) (e:Ex) (T:List Int) {i:Nat} (hi:i<e.S.length) (h:wsB e T i=true) (hb:∀ j,j<i→wsB e T j=false):wsR A e true T=if e.D.getD i 0≤200 then (ltr A (wdE e i),true) else ([],false):=by
  have:(List.range e.S.length).find? (wsB e T)=some i:=by
    rw [List.find?_range_eq_some]
    exact ⟨h,List.mem_range.2 hi,fun j hj=>by rw [hb j hj];rfl⟩
  rw [wsR,if_pos rfl,this]
theorem wsR_none (A:List Int) (e:Ex) (T:List Int) (hb:∀ j,j<e.S.length→wsB e T j=false):wsR A e true T=([],false):=by
  have:(List.range e.S.length).find? (wsB e T)=none:=by
    rw [List.find?_eq_none]
    exact fun j hj=>by rw [hb j (List.mem_range.1 hj)];simp
  rw [wsR,if_pos rfl,this]
end Bf
end Go.AM
set_option maxRecDepth 8000
namespace Go.AM
namespace Wo
open Go.Proofs
open Ch (PN pt idL cst cst_app cst_len)
open Bf (Ex nxO idxM byL dOf rvK ltr wdE dw Fin srtS fmT fmC fmA fmR lsN movL_len wsB wsR wsR_no wsR_at wsR_none)
open Ck (sfr exA exT nxT stN)
open Sr (exC fS depthOfS sR sR_yes sR_no sR_ok sR_len)
noncomputable def wsP (p:Puzz) (T:List Int):List Int×Bool:=wsR (letL p.mv.length) (sR p).1 ((sR p).2 && trk p.n T) T
theorem iWordSup (p:Puzz) (T:List Int) (h:smallP p) (hT:T.length≤1099511627776):SpecAt Tryz.prog 9 [p.sl,isl T] (.tup [itr (wsP p T).1,.bl (wsP p T).2]):=by
  by_cases hs:1≤stN p∧stN p≤3000
  case neg =>
    have q1:=Ck.exploreNo p h hs
    have hz:wsP p T=([],false):=by rw [wsP,sR_no hs,Bool.false_and,wsR_no]
    rw [hz]
    refine spec_of_awp (M:=MM) (np:=2) (fz:=false) mixed Tryz.func9 rfl rfl (by decide) rfl (Nat.le_refl _) (by decide +kernel) (.inl rfl) (by first | trivial | simp only [sigsOk_nil,sigsOk_some,sigsOk_none,sig_tr,sig_pt,sig_mt,sig_agg,List.map_cons,List.map_nil,sig1_tr,sig1_pt,sig1_v,and_self,true_and,List.length_map,List.length_set]) ?_
    simp -dsimp -implicitDefEqProofs (disch:=first | omega | (simp only [lenr];try omega)) only [↓amPre,amAll,↓reduceIte,reduceCtorEq,Nat.reduceEqDiff,Nat.reduceBEq,Nat.reduceAdd,Nat.reduceLeDiff,Nat.reduceSub,Nat.reduceMul,Int.reduceToNat,List.size_toArray,tyF,MM,bu0,cbU49]
    refine callP_of (q1) ?_
    simp -dsimp -implicitDefEqProofs (disch:=first | omega | (simp only [lenr];try omega)) only [↓amPre,amAll,↓reduceIte,reduceCtorEq,Nat.reduceEqDiff,Nat.reduceBEq,Nat.reduceAdd,Nat.reduceLeDiff,Nat.reduceSub,Nat.reduceMul,Int.reduceToNat,List.size_toArray,tyF,MM,bu0,cbU49,Ck.nilPt]
  obtain ⟨hd,hR⟩:=sR_yes hs
  have hF:=sR_fin hs
  have q1:=Ck.exploreYes p h hs
  have hn20:=hd.1.1
  have hle:=sR_len hd
  rw [wsP,hR]
  dsimp only
  rw [Bool.true_and]
  have qw:=fun i hi hl=>wordI p (Bf.out p.mv (letL p.mv.length) p.n.toNat 3000) .any (nxO p.mv (letL p.mv.length) p.n.toNat 3000) hF.tm i hi hF.ok hl
  have l1:=isTrackedI p.n T hn20.1 hn20.2 hT
  unfold exT at q1
  generalize nxO p.mv (letL p.mv.length) p.n.toNat 3000=Nx at *
  generalize Bf.out p.mv (letL p.mv.length) p.n.toNat 3000=e at *
  cases b1:trk p.n T with
  | false =>
    rw [b1] at l1
    rw [wsR_no]
    refine spec_of_awp (M:=MM) (np:=2) (fz:=false) mixed Tryz.func9 rfl rfl (by decide) rfl (Nat.le_refl _) (by decide +kernel) (.inl rfl) (by first | trivial | simp only [sigsOk_nil,sigsOk_some,sigsOk_none,sig_tr,sig_pt,sig_mt,sig_agg,List.map_cons,List.map_nil,sig1_tr,sig1_pt,sig1_v,and_self,true_and,List.length_map,List.length_set]) ?_
    simp -dsimp -implicitDefEqProofs (disch:=first | omega | (simp only [lenr];try omega)) only [↓amPre,amAll,↓reduceIte,reduceCtorEq,Nat.reduceEqDiff,Nat.reduceBEq,Nat.reduceAdd,Nat.reduceLeDiff,Nat.reduceSub,Nat.reduceMul,Int.reduceToNat,List.size_toArray,tyF,MM,bu0,cbU49]
    refine callP_of (q1) ?_
    simp -dsimp -implicitDefEqProofs (disch:=first | omega | (simp only [lenr];try omega)) only [↓amPre,amAll,↓reduceIte,reduceCtorEq,Nat.reduceEqDiff,Nat.reduceBEq,Nat.reduceAdd,Nat.reduceLeDiff,Nat.reduceSub,Nat.reduceMul,Int.reduceToNat,List.size_toArray,tyF,MM,bu0,cbU49]
    refine callP_of (l1) ?_
    simp -dsimp -implicitDefEqProofs (disch:=first | omega | (simp only [lenr];try omega)) only [↓amPre,amAll,↓reduceIte,reduceCtorEq,Nat.reduceEqDiff,Nat.reduceBEq,Nat.reduceAdd,Nat.reduceLeDiff,Nat.reduceSub,Nat.reduceMul,Int.reduceToNat,List.size_toArray,tyF,MM,bu0,cbU49]
  | true =>
  rw [b1] at l1
  have hok:=hF.ok
  have hl3:e.S.length≤3000:=by omega
  refine spec_of_awp (M:=MM) (np:=2) (fz:=false) mixed Tryz.func9 rfl rfl (by decide) rfl (Nat.le_refl _) (by decide +kernel) (.inl rfl) (by first | trivial | simp only [sigsOk_nil,sigsOk_some,sigsOk_none,sig_tr,sig_pt,sig_mt,sig_agg,List.map_cons,List.map_nil,sig1_tr,sig1_pt,sig1_v,and_self,true_and,List.length_map,List.length_set]) ?_
  simp -dsimp -implicitDefEqProofs (disch:=first | omega | (simp only [lenr];try omega)) only [↓amPre,amAll,↓reduceIte,reduceCtorEq,Nat.reduceEqDiff,Nat.reduceBEq,Nat.reduceAdd,Nat.reduceLeDiff,Nat.reduceSub,Nat.reduceMul,Int.reduceToNat,List.size_toArray,tyF,MM,bu0,cbU49]
  refine callP_of (q1) ?_
  simp -dsimp -implicitDefEqProofs (disch:=first | omega | (simp only [lenr];try omega)) only [↓amPre,amAll,↓reduceIte,reduceCtorEq,Nat.reduceEqDiff,Nat.reduceBEq,Nat.reduceAdd,Nat.reduceLeDiff,Nat.reduceSub,Nat.reduceMul,Int.reduceToNat,List.size_toArray,tyF,MM,bu0,cbU49]
  refine callP_of (l1) ?_
  simp -dsimp -implicitDefEqProofs (disch:=first | omega | (simp only [lenr];try omega)) only [↓amPre,amAll,↓reduceIte,reduceCtorEq,Nat.reduceEqDiff,Nat.reduceBEq,Nat.reduceAdd,Nat.reduceLeDiff,Nat.reduceSub,Nat.reduceMul,Int.reduceToNat,List.size_toArray,tyF,MM,bu0,cbU49]
  refine awp_loop (fun i st=>i≤e.S.length∧st.fr 29=.i64 i∧st.fr 28=.i64 e.S.length∧st.fr 27=.ref 12 [(0,0),(0,3)] 1 0 e.S.length∧st.fr 6=.loc 12 [(0,0)] 0 0∧st.fr 3=.loc 3 [] 0 0∧st.mem 12=some (.tup [exA p e.S (cst e.D) (idxM e.S) (cst e.Pa) (byL (letL p.mv.length) e.J) (nxT Nx),.bl true])∧st.mem 3=some (.pt 1 (isl T))∧(∀ j,j<i→wsB e T j=false)) (e.S.length) ?_ ?_
  · simp -dsimp -implicitDefEqProofs (disch:=first | omega | (simp only [lenr];try omega)) only [↓amPre,amAll,↓reduceIte,reduceCtorEq,Nat.reduceEqDiff,Nat.reduceBEq,Nat.reduceAdd,Nat.reduceLeDiff,Nat.reduceSub,Nat.reduceMul,Int.reduceToNat,List.size_toArray,tyF,MM,bu0,cbU49]
    exact ⟨Nat.zero_le _,rfl,fun j hj=>absurd hj (Nat.not_lt_zero _)⟩
  rintro i st _ ⟨hi,f29,f28,f27,f6,f3,m12,m3,ei⟩
  by_cases c1:i<e.S.length
  case neg =>
    have hie:i=e.S.length:=by omega
    subst hie
    rw [wsR_none _ _ _ ei]
    simp -dsimp -implicitDefEqProofs (disch:=first | omega | (simp only [lenr];try omega)) only [↓amPre,amAll,↓reduceIte,reduceCtorEq,Nat.reduceEqDiff,Nat.reduceBEq,Nat.reduceAdd,Nat.reduceLeDiff,Nat.reduceSub,Nat.reduceMul,Int.reduceToNat,List.size_toArray,tyF,MM,bu0,cbU49,f29,f28,f27,f6,f3,m12,m3]
  have hsm:=mem_getD e.S i default c1
  have hpn:=(hok.el _ hsm).1
  have q2:=iSupport (e.S.getD i default) hpn.2
  have q4:=qw i c1 hl3
  have hst:wsB e T i=(!(i == 0) && !((movL (e.S.getD i default) (e.S.getD i default).length).any fun x=>!(T.any fun y=>x == y))):=rfl
  have hg:(e.S.map fun x=>isl x).getD i .any=isl (e.S.getD i default):=by rw [getD_eq _ _ _ (by simp;omega),List.getElem_map,getD_eq _ _ _ (by omega)]
  have hgD:((cst e.D).map AV.i64).getD i .any=.i64 ((e.D.getD i 0:Nat):Int):=by rw [getD_eq _ _ _ (by rw [List.length_map,cst_len,hok.lD];exact c1),List.getElem_map,← getD_eq _ _ 0,Ch.cst_get (by rw [hok.lD];exact c1)]
  have hlD:(cst e.D).length=e.S.length:=by rw [cst_len,hok.lD]
  have c1':(i:Int)<(e.S.length:Int):=by omega
  have hml:=movL_len (e.S.getD i default) (e.S.getD i default).length
  have hgo:wsB e T i=false→∀ j,j<i+1→wsB e T j=false:=fun h j hj=>by
    rcases Nat.lt_or_ge j i with q | q
    · exact ei j q
    · rw [show j=i by omega];exact h
  have qc:∀ l:List Int,l.length≤20→SpecAt Tryz.prog 37 [isl l,.fn 39 [.ep [isl T]]] (.bl (l.any fun x=>!(T.any fun y=>x == y))):=fun l hl=>containsFunc l _ _ _ rfl rfl (fun _=>rfl) (fun x _=>outsideI T x hT) (by omega)
  have q3:=qc (movL (e.S.getD i default) (e.S.getD i default).length) (by have:=hpn.1;omega)
  have hat:=fun hh=>wsR_at (letL p.mv.length) e T c1 hh ei
  by_cases c0:i=0
  · have hg2:=hgo (by rw [hst,c0];rfl)
    have c0':decide ((i:Int)=0)=true:=decide_eq_true (by omega)
    simp -dsimp -implicitDefEqProofs (disch:=first | omega | (simp only [lenr];try omega)) only [↓amPre,amAll,↓reduceIte,reduceCtorEq,Nat.reduceEqDiff,Nat.reduceBEq,Nat.reduceAdd,Nat.reduceLeDiff,Nat.reduceSub,Nat.reduceMul,Int.reduceToNat,List.size_toArray,tyF,MM,bu0,cbU49,f29,f28,f27,f6,f3,m12,m3,lt_true c1',hg,c0']
    exact ⟨c1,by omega,hg2⟩
  have c0':decide ((i:Int)=0)=false:=decide_eq_false (by omega)
  have hi0:(i == 0)=false:=by simpa using c0
  rw [hi0] at hst
  cases b2:(movL (e.S.getD i default) (e.S.getD i default).length).any fun x=>!(T.any fun y=>x == y) with
  | true =>
    rw [b2] at hst q3
    have hg2:=hgo hst
    simp -dsimp -implicitDefEqProofs (disch:=first | omega | (simp only [lenr];try omega)) only [↓amPre,amAll,↓reduceIte,reduceCtorEq,Nat.reduceEqDiff,Nat.reduceBEq,Nat.reduceAdd,Nat.reduceLeDiff,Nat.reduceSub,Nat.reduceMul,Int.reduceToNat,List.size_toArray,tyF,MM,bu0,cbU49,f29,f28,f27,f6,f3,m12,m3,lt_true c1',hg,c0']
    refine callP_of (q2) ?_
    simp -dsimp -implicitDefEqProofs (disch:=first | omega | (simp only [lenr];try omega)) only [↓amPre,amAll,↓reduceIte,reduceCtorEq,Nat.reduceEqDiff,Nat.reduceBEq,Nat.reduceAdd,Nat.reduceLeDiff,Nat.reduceSub,Nat.reduceMul,Int.reduceToNat,List.size_toArray,tyF,MM,bu0,cbU49,f29,f28,f27,f6,f3,m12,m3]
    refine callP_of (q3) ?_
    simp -dsimp -implicitDefEqProofs (disch:=first | omega | (simp only [lenr];try omega)) only [↓amPre,amAll,↓reduceIte,reduceCtorEq,Nat.reduceEqDiff,Nat.reduceBEq,Nat.reduceAdd,Nat.reduceLeDiff,Nat.reduceSub,Nat.reduceMul,Int.reduceToNat,List.size_toArray,tyF,MM,bu0,cbU49,f29,f28,f27,f6,f3,m12,m3]
    exact ⟨c1,by omega,hg2⟩
  | false =>
    rw [b2] at hst q3
    rw [hat hst]
    by_cases d1:e.D.getD i 0≤200
    · rw [if_pos d1]
      have d1':((e.D.getD i 0:Nat):Int)≤200:=by omega
      simp -dsimp -implicitDefEqProofs (disch:=first | omega | (simp only [lenr];try omega)) only [↓amPre,amAll,↓reduceIte,reduceCtorEq,Nat.reduceEqDiff,Nat.reduceBEq,Nat.reduceAdd,Nat.reduceLeDiff,Nat.reduceSub,Nat.reduceMul,Int.reduceToNat,List.size_toArray,tyF,MM,bu0,cbU49,f29,f28,f27,f6,f3,m12,m3,lt_true c1',hg,c0']
      refine callP_of (q2) ?_
      simp -dsimp -implicitDefEqProofs (disch:=first | omega | (simp only [lenr];try omega)) only [↓amPre,amAll,↓reduceIte,reduceCtorEq,Nat.reduceEqDiff,Nat.reduceBEq,Nat.reduceAdd,Nat.reduceLeDiff,Nat.reduceSub,Nat.reduceMul,Int.reduceToNat,List.size_toArray,tyF,MM,bu0,cbU49,f29,f28,f27,f6,f3,m12,m3]
      refine callP_of (q3) ?_
      simp -dsimp -implicitDefEqProofs (disch:=first | omega | (simp only [lenr];try omega)) only [↓amPre,amAll,↓reduceIte,reduceCtorEq,Nat.reduceEqDiff,Nat.reduceBEq,Nat.reduceAdd,Nat.reduceLeDiff,Nat.reduceSub,Nat.reduceMul,Int.reduceToNat,List.size_toArray,tyF,MM,bu0,cbU49,f29,f28,f27,f6,f3,m12,m3,hgD,hlD,lt_false d1',fz1,fz2,fz3]
      refine callP_of (q4) ?_
      simp -dsimp -implicitDefEqProofs (disch:=first | omega | (simp only [lenr];try omega)) only [↓amPre,amAll,↓reduceIte,reduceCtorEq,Nat.reduceEqDiff,Nat.reduceBEq,Nat.reduceAdd,Nat.reduceLeDiff,Nat.reduceSub,Nat.reduceMul,Int.reduceToNat,List.size_toArray,tyF,MM,bu0,cbU49,f29,f28,f27,f6,f3,m12,m3]
    · rw [if_neg d1]
      have d1':(200:Int)<((e.D.getD i 0:Nat):Int):=by omega
      simp -dsimp -implicitDefEqProofs (disch:=first | omega | (simp only [lenr];try omega)) only [↓amPre,amAll,↓reduceIte,reduceCtorEq,Nat.reduceEqDiff,Nat.reduceBEq,Nat.reduceAdd,Nat.reduceLeDiff,Nat.reduceSub,Nat.reduceMul,Int.reduceToNat,List.size_toArray,tyF,MM,bu0,cbU49,f29,f28,f27,f6,f3,m12,m3,lt_true c1',hg,c0']
      refine callP_of (q2) ?_
      simp -dsimp -implicitDefEqProofs (disch:=first | omega | (simp only [lenr];try omega)) only [↓amPre,amAll,↓reduceIte,reduceCtorEq,Nat.reduceEqDiff,Nat.reduceBEq,Nat.reduceAdd,Nat.reduceLeDiff,Nat.reduceSub,Nat.reduceMul,Int.reduceToNat,List.size_toArray,tyF,MM,bu0,cbU49,f29,f28,f27,f6,f3,m12,m3]
      refine callP_of (q3) ?_
      simp -dsimp -implicitDefEqProofs (disch:=first | omega | (simp only [lenr];try omega)) only [↓amPre,amAll,↓reduceIte,reduceCtorEq,Nat.reduceEqDiff,Nat.reduceBEq,Nat.reduceAdd,Nat.reduceLeDiff,Nat.reduceSub,Nat.reduceMul,Int.reduceToNat,List.size_toArray,tyF,MM,bu0,cbU49,f29,f28,f27,f6,f3,m12,m3,hgD,hlD,lt_true d1']
end Wo
end Go.AM
set_option maxRecDepth 8000
namespace Go.AM
namespace Wo
open Go.Proofs
open Ch (PN pt idL cst cst_app cst_len)
open Bf (Ex nxO idxM byL dOf rvK ltr wdE dw Fin srtS wsB wsR wsR_no wsR_at wsR_none)
open Sr (exC fS sR sR_yes sR_no sR_ok sR_len searchC)
def rkL (x:Int):Int:=if x<0 then -2*x - 1 else 2*x - 2
theorem rk_letL {m j:Nat} (h:j<(letL m).length):rkL ((letL m).getD j 0)=j:=by
  rw [letL_len] at h
  have hj:j=2*(j / 2)∨j=2*(j / 2)+1:=by omega
  obtain ⟨a,b⟩:=Bf.letL_get (show j / 2<m by omega)
  rcases hj with q | q
  · conv=>lhs;rw [q,a]
    unfold rkL;rw [if_neg (by omega)];omega
  · conv=>lhs;rw [q,b]
    unfold rkL;rw [if_pos (by omega)];omega
theorem lexN_diff:∀ (k:Nat) (u v:List Nat),u.take k=v.take k→k<u.length→k<v.length→u.getD k 0≠v.getD k 0→Bf.lexN u v=decide (u.getD k 0<v.getD k 0)
  | k,[],_,_,h,_,_=>absurd h (Nat.not_lt_zero _)
  | k,_ :: _,[],_,_,h,_=>absurd h (Nat.not_lt_zero _)
  | 0,x :: u,y :: v,_,_,_,hne=>by
    rw [Bf.lexN_cons,if_neg (by simpa using hne)];rfl
  | k+1,x :: u,y :: v,ht,h1,h2,hne=>by
    rw [List.take_succ_cons,List.take_succ_cons,List.cons.injEq] at ht
    rw [Bf.lexN_cons,if_pos ht.1,lexN_diff k u v ht.2 (by simpa using h1) (by simpa using h2) (by simpa using hne)]
    simp
theorem let_inj {m i j:Nat} (hi:i<(letL m).length) (hj:j<(letL m).length) (h:(letL m).getD i 0=(letL m).getD j 0):i=j:=by
  have h1:=rk_letL hi
  have h2:=rk_letL hj
  rw [h,h2] at h1
  omega
theorem letterRankS (x:Int) (h:-100≤x∧x≤100):SpecAt Tryz.prog 106 [.i64 x] (.i64 (rkL x)):=by
  have w1:IntKind.i64.wrap (-2*x) = -2*x:=wrap64_id (by omega)
  have w2:IntKind.i64.wrap (-2*x - 1) = -2*x - 1:=wrap64_id (by omega)
  have w3:IntKind.i64.wrap (2*x)=2*x:=wrap64_id (by omega)
  have w4:IntKind.i64.wrap (2*x - 2)=2*x - 2:=wrap64_id (by omega)
  by_cases c:x<0
  · rw [rkL,if_pos c]
    refine spec_of_awp (M:=MM) (np:=1) (fz:=true) mixed Tryz.func106 rfl rfl (by decide) rfl (Nat.le_refl _) (by decide +kernel) (.inr ⟨rfl,rfl⟩) trivial ?_
    simp -dsimp -implicitDefEqProofs (disch:=first | omega | (simp only [lenr];try omega)) only [↓amPre,amAll,↓reduceIte,reduceCtorEq,Nat.reduceEqDiff,Nat.reduceBEq,Nat.reduceAdd,Nat.reduceLeDiff,Nat.reduceSub,Nat.reduceMul,Int.reduceToNat,List.size_toArray,tyF,MM,bu0,cbU49,lt_true c,w1,w2]
  · rw [rkL,if_neg c]
    refine spec_of_awp (M:=MM) (np:=1) (fz:=true) mixed Tryz.func106 rfl rfl (by decide) rfl (Nat.le_refl _) (by decide +kernel) (.inr ⟨rfl,rfl⟩) trivial ?_
    simp -dsimp -implicitDefEqProofs (disch:=first | omega | (simp only [lenr];try omega)) only [↓amPre,amAll,↓reduceIte,reduceCtorEq,Nat.reduceEqDiff,Nat.reduceBEq,Nat.reduceAdd,Nat.reduceLeDiff,Nat.reduceSub,Nat.reduceMul,Int.reduceToNat,List.size_toArray,tyF,MM,bu0,cbU49,lt_false (Int.not_lt.1 c),w3,w4]
theorem containsAllS (T M:List Int) (hT:T.length≤1099511627776) (hM:M.length≤1099511627776):SpecAt Tryz.prog 30 [isl T,isl M] (.bl (M.all fun x=>decide (x∈T))):=by
  refine spec_of_awp (M:=MM) (np:=2) (fz:=true) mixed Tryz.func30 rfl rfl (by decide) rfl (Nat.le_refl _) (by decide +kernel) (.inr ⟨rfl,rfl⟩) trivial ?_
  simp -dsimp -implicitDefEqProofs (disch:=first | omega | (simp only [lenr];try omega)) only [↓amPre,amAll,↓reduceIte,reduceCtorEq,Nat.reduceEqDiff,Nat.reduceBEq,Nat.reduceAdd,Nat.reduceLeDiff,Nat.reduceSub,Nat.reduceMul,Int.reduceToNat,List.size_toArray,tyF,MM,bu0,cbU49]
  refine awp_loop (fun k st=>k≤M.length∧st.fr 5=.i64 k∧st.fr 0=isl T∧st.fr 1=isl M∧∀ x∈M.take k,decide (x∈T)=true) (M.length) ?_ ?_
  · simp -dsimp -implicitDefEqProofs (disch:=first | omega | (simp only [lenr];try omega)) only [↓amPre,amAll,↓reduceIte,reduceCtorEq,Nat.reduceEqDiff,Nat.reduceBEq,Nat.reduceAdd,Nat.reduceLeDiff,Nat.reduceSub,Nat.reduceMul,Int.reduceToNat,List.size_toArray,tyF,MM,bu0,cbU49]
    simp
  rintro k st _ ⟨hk,f5,f0,f1,ek⟩
  by_cases hlt:k<M.length
  · have q1:=containsInt T (M.getD k 0) hT
    have c1':(k:Int)<(M.length:Int):=by omega
    cases w:decide (M.getD k 0∈T) with
    | true =>
      rw [w] at q1
      simp -dsimp -implicitDefEqProofs (disch:=first | omega | (simp only [lenr];try omega)) only [↓amPre,amAll,↓reduceIte,reduceCtorEq,Nat.reduceEqDiff,Nat.reduceBEq,Nat.reduceAdd,Nat.reduceLeDiff,Nat.reduceSub,Nat.reduceMul,Int.reduceToNat,List.size_toArray,tyF,MM,bu0,cbU49,f5,f0,f1,lt_true c1']
      refine callP_of (q1) ?_
      simp -dsimp -implicitDefEqProofs (disch:=first | omega | (simp only [lenr];try omega)) only [↓amPre,amAll,↓reduceIte,reduceCtorEq,Nat.reduceEqDiff,Nat.reduceBEq,Nat.reduceAdd,Nat.reduceLeDiff,Nat.reduceSub,Nat.reduceMul,Int.reduceToNat,List.size_toArray,tyF,MM,bu0,cbU49,f5,f0,f1]
      exact ⟨hlt,by omega,(mem_take_succ (d:=0) hlt).2 ⟨ek,w⟩⟩
    | false =>
      rw [w] at q1
      have:(M.all fun x=>decide (x∈T))=false:=List.all_eq_false.2 ⟨_,mem_getD M k 0 hlt,by rw [w];simp⟩
      rw [this]
      simp -dsimp -implicitDefEqProofs (disch:=first | omega | (simp only [lenr];try omega)) only [↓amPre,amAll,↓reduceIte,reduceCtorEq,Nat.reduceEqDiff,Nat.reduceBEq,Nat.reduceAdd,Nat.reduceLeDiff,Nat.reduceSub,Nat.reduceMul,Int.reduceToNat,List.size_toArray,tyF,MM,bu0,cbU49,f5,f0,f1,lt_true c1']
      refine callP_of (q1) ?_
      simp -dsimp -implicitDefEqProofs (disch:=first | omega | (simp only [lenr];try omega)) only [↓amPre,amAll,↓reduceIte,reduceCtorEq,Nat.reduceEqDiff,Nat.reduceBEq,Nat.reduceAdd,Nat.reduceLeDiff,Nat.reduceSub,Nat.reduceMul,Int.reduceToNat,List.size_toArray,tyF,MM,bu0,cbU49,f5,f0,f1]
  · have hke:k=M.length:=by omega
    subst hke
    rw [List.take_length] at ek
    have:(M.all fun x=>decide (x∈T))=true:=List.all_eq_true.2 ek
    rw [this]
    simp -dsimp -implicitDefEqProofs (disch:=first | omega | (simp only [lenr];try omega)) only [↓amPre,amAll,↓reduceIte,reduceCtorEq,Nat.reduceEqDiff,Nat.reduceBEq,Nat.reduceAdd,Nat.reduceLeDiff,Nat.reduceSub,Nat.reduceMul,Int.reduceToNat,List.size_toArray,tyF,MM,bu0,cbU49,f5,f0,f1]
theorem wordLessS (m:Nat) (hm:m≤8) (u v:List Nat) (hu:∀ j∈u,j<(letL m).length) (hv:∀ j∈v,j<(letL m).length) (hl:u.length=v.length) (hb:u.length≤3000) :
    SpecAt Tryz.prog 71 [isl (ltr (letL m) u),isl (ltr (letL m) v)] (.bl (Bf.lexN u v)):=by
  have hlu:(ltr (letL m) u).length=u.length:=by rw [ltr,List.length_map]
  have hlv:(ltr (letL m) v).length=u.length:=by rw [ltr,List.length_map,hl]
  have hne:¬ ((u.length:Int)≠(u.length:Int)):=fun q=>q rfl
  refine spec_of_awp (M:=MM) (np:=2) (fz:=true) mixed Tryz.func71 rfl rfl (by decide) rfl (Nat.le_refl _) (by decide +kernel) (.inr ⟨rfl,rfl⟩) trivial ?_
  simp -dsimp -implicitDefEqProofs (disch:=first | omega | (simp only [lenr];try omega)) only [↓amPre,amAll,↓reduceIte,reduceCtorEq,Nat.reduceEqDiff,Nat.reduceBEq,Nat.reduceAdd,Nat.reduceLeDiff,Nat.reduceSub,Nat.reduceMul,Int.reduceToNat,List.size_toArray,tyF,MM,bu0,cbU49,hlu,hlv]
  refine awp_loop (fun k st=>k≤u.length∧st.fr 5=.i64 k∧st.fr 0=isl (ltr (letL m) u)∧st.fr 1=isl (ltr (letL m) v)∧(u.take k=v.take k)) (u.length) ?_ ?_
  · simp -dsimp -implicitDefEqProofs (disch:=first | omega | (simp only [lenr];try omega)) only [↓amPre,amAll,↓reduceIte,reduceCtorEq,Nat.reduceEqDiff,Nat.reduceBEq,Nat.reduceAdd,Nat.reduceLeDiff,Nat.reduceSub,Nat.reduceMul,Int.reduceToNat,List.size_toArray,tyF,MM,bu0,cbU49]
    exact ⟨Nat.zero_le _,rfl⟩
  rintro k st _ ⟨hk,f5,f0,f1,ek⟩
  by_cases c1:k<u.length
  · have c1':(k:Int)<(u.length:Int):=by omega
    have gu:(ltr (letL m) u).getD k 0=(letL m).getD (u.getD k 0) 0:=by rw [ltr,getD_eq _ _ _ (by rw [List.length_map];exact c1),List.getElem_map,← getD_eq u k 0 c1]
    have gv:(ltr (letL m) v).getD k 0=(letL m).getD (v.getD k 0) 0:=by rw [ltr,getD_eq _ _ _ (by rw [List.length_map];omega),List.getElem_map,← getD_eq v k 0 (by omega)]
    have hju:=hu _ (mem_getD u k 0 c1)
    have hjv:=hv _ (mem_getD v k 0 (by omega))
    have ru:=letL_ok hm _ (mem_getD (letL m) _ 0 hju)
    have rv:=letL_ok hm _ (mem_getD (letL m) _ 0 hjv)
    have qu:=letterRankS ((letL m).getD (u.getD k 0) 0) (by unfold letOk at ru;omega)
    have qv:=letterRankS ((letL m).getD (v.getD k 0) 0) (by unfold letOk at rv;omega)
    rw [rk_letL hju] at qu
    rw [rk_letL hjv] at qv
    by_cases c2:u.getD k 0=v.getD k 0
    · have c2':(letL m).getD (u.getD k 0) 0=(letL m).getD (v.getD k 0) 0:=by rw [c2]
      have ht:u.take (k+1)=v.take (k+1):=by rw [List.take_succ_eq_append_getElem c1,List.take_succ_eq_append_getElem (by omega),ek,← getD_eq u k 0 c1,← getD_eq v k 0 (by omega),c2]
      simp -dsimp -implicitDefEqProofs (disch:=first | omega | (simp only [lenr];try omega)) only [↓amPre,amAll,↓reduceIte,reduceCtorEq,Nat.reduceEqDiff,Nat.reduceBEq,Nat.reduceAdd,Nat.reduceLeDiff,Nat.reduceSub,Nat.reduceMul,Int.reduceToNat,List.size_toArray,tyF,MM,bu0,cbU49,f5,f0,f1,hlu,lt_true c1',gu,gv,c2']
      exact ⟨c1,by omega,ht⟩
    · have c2':¬ (letL m).getD (u.getD k 0) 0=(letL m).getD (v.getD k 0) 0:=fun q=>c2 (let_inj hju hjv q)
      rw [lexN_diff k u v ek c1 (by omega) c2]
      simp -dsimp -implicitDefEqProofs (disch:=first | omega | (simp only [lenr];try omega)) only [↓amPre,amAll,↓reduceIte,reduceCtorEq,Nat.reduceEqDiff,Nat.reduceBEq,Nat.reduceAdd,Nat.reduceLeDiff,Nat.reduceSub,Nat.reduceMul,Int.reduceToNat,List.size_toArray,tyF,MM,bu0,cbU49,f5,f0,f1,hlu,lt_true c1',gu,gv,c2']
      refine callP_of (qu) ?_
      simp -dsimp -implicitDefEqProofs (disch:=first | omega | (simp only [lenr];try omega)) only [↓amPre,amAll,↓reduceIte,reduceCtorEq,Nat.reduceEqDiff,Nat.reduceBEq,Nat.reduceAdd,Nat.reduceLeDiff,Nat.reduceSub,Nat.reduceMul,Int.reduceToNat,List.size_toArray,tyF,MM,bu0,cbU49,f5,f0,f1,gu,gv]
      refine callP_of (qv) ?_
      simp -dsimp -implicitDefEqProofs (disch:=first | omega | (simp only [lenr];try omega)) only [↓amPre,amAll,↓reduceIte,reduceCtorEq,Nat.reduceEqDiff,Nat.reduceBEq,Nat.reduceAdd,Nat.reduceLeDiff,Nat.reduceSub,Nat.reduceMul,Int.reduceToNat,List.size_toArray,tyF,MM,bu0,cbU49,f5,f0,f1]
      refine bl_eq ?_
      simp only [decide_eq_true_eq]
      omega
  · have hke:k=u.length:=by omega
    subst hke
    have c1':¬ (u.length:Int)<(u.length:Int):=by omega
    have he:u=v:=by rw [List.take_length,hl,List.take_length] at ek;exact ek
    have hz:Bf.lexN u v=false:=by rw [he,Bf.lexN_irr]
    rw [hz]
    simp -dsimp -implicitDefEqProofs (disch:=first | omega | (simp only [lenr];try omega)) only [↓amPre,amAll,↓reduceIte,reduceCtorEq,Nat.reduceEqDiff,Nat.reduceBEq,Nat.reduceAdd,Nat.reduceLeDiff,Nat.reduceSub,Nat.reduceMul,Int.reduceToNat,List.size_toArray,tyF,MM,bu0,cbU49,f5,f0,f1,hlu,lt_false (Int.not_lt.1 c1')]
end Wo
end Go.AM
namespace Go.AM
namespace Bf
theorem out_all (T M:List Int):(M.any fun x=>!(T.any fun y=>x == y)) = !(M.all fun x=>decide (x∈T)):=by
  have e:∀ x,(T.any fun y=>x == y)=decide (x∈T):=fun x=>by
    rw [Bool.eq_iff_iff,List.any_eq_true,decide_eq_true_eq]
    exact ⟨fun ⟨y,hy,q⟩=>by rw [eq_of_beq q];exact hy,fun h=>⟨x,h,by simp⟩⟩
  rw [Bool.eq_iff_iff,List.any_eq_true,Bool.not_eq_true',List.all_eq_false]
  refine ⟨fun ⟨x,h1,h2⟩=>⟨x,h1,?_⟩,fun ⟨x,h1,h2⟩=>⟨x,h1,?_⟩⟩
  · rw [e] at h2;simpa using h2
  · rw [e];simpa using h2
theorem wsB_all (e:Ex) (T:List Int) (i:Nat):wsB e T (i+1)=(movL (e.S.getD (i+1) default) (e.S.getD (i+1) default).length).all fun x=>decide (x∈T):=by
  rw [wsB,out_all,Bool.not_not]
  simp
end Bf
end Go.AM
set_option maxRecDepth 8000
namespace Go.AM
namespace Wo
open Go.Proofs
open Ch (PN pt idL cst cst_app cst_len)
open Bf (Ex nxO idxM byL dOf rvK ltr wdE dw Fin srtS movL_len wsB wsR wsR_no wsR_at wsR_none wsB_all)
open Ck (stN)
open Sr (fS sR sR_yes sR_no sR_ok sR_len searchC)
theorem trk_len {n:Int} {T:List Int} (h1:1≤n) (h:trk n T=true):1≤(T.length:Int)∧(T.length:Int)≤n:=by
  rw [trk,Bool.and_eq_true,List.all_eq_true,decide_eq_true_eq] at h
  obtain ⟨ha,hl⟩:=h
  have hb:∀ k,k<T.length→(k:Int)≤T.getD k 0∧T.getD k 0≤n - 1:=by
    intro k
    induction k with
    | zero =>
      intro hk
      have:=ha 0 (List.mem_range.2 hk)
      rw [trkB,Bool.and_eq_true,within_iff] at this
      omega
    | succ k ih =>
      intro hk
      have:=ha (k+1) (List.mem_range.2 hk)
      rw [trkB,Bool.and_eq_true,within_iff,Nat.add_sub_cancel,Bool.or_eq_true,decide_eq_true_eq] at this
      obtain ⟨t1,t2⟩:=this
      have i1:=ih (by omega)
      rcases t2 with q | q
      · simp at q
      · omega
  have:=hb (T.length - 1) (by omega)
  omega
theorem isPointListS (n:Int) (T:List Int) (h1:1≤n) (h2:n≤20) (hl:T.length≤1099511627776):SpecAt Tryz.prog 66 [.i64 n,isl T] (.bl (trk n T)):=by
  have q0:=inRange T.length 1 n
  have hw:IntKind.i64.wrap (n - 1)=n - 1:=wrap64_id (by omega)
  cases b:within (T.length:Int) 1 n with
  | false =>
    rw [b] at q0
    have hz:trk n T=false:=by
      cases ht:trk n T with
      | false=>rfl
      | true=>rw [within_iff.2 (trk_len h1 ht)] at b;cases b
    rw [hz]
    refine spec_of_awp (M:=MM) (np:=2) (fz:=true) mixed Tryz.func66 rfl rfl (by decide) rfl (Nat.le_refl _) (by decide +kernel) (.inr ⟨rfl,rfl⟩) trivial ?_
    simp -dsimp -implicitDefEqProofs (disch:=first | omega | (simp only [lenr];try omega)) only [↓amPre,amAll,↓reduceIte,reduceCtorEq,Nat.reduceEqDiff,Nat.reduceBEq,Nat.reduceAdd,Nat.reduceLeDiff,Nat.reduceSub,Nat.reduceMul,Int.reduceToNat,List.size_toArray,tyF,MM,bu0,cbU49]
    refine callP_of (q0) ?_
    simp -dsimp -implicitDefEqProofs (disch:=first | omega | (simp only [lenr];try omega)) only [↓amPre,amAll,↓reduceIte,reduceCtorEq,Nat.reduceEqDiff,Nat.reduceBEq,Nat.reduceAdd,Nat.reduceLeDiff,Nat.reduceSub,Nat.reduceMul,Int.reduceToNat,List.size_toArray,tyF,MM,bu0,cbU49]
  | true =>
    rw [b] at q0
    have hb:=within_iff.1 b
    refine spec_of_awp (M:=MM) (np:=2) (fz:=true) mixed Tryz.func66 rfl rfl (by decide) rfl (Nat.le_refl _) (by decide +kernel) (.inr ⟨rfl,rfl⟩) trivial ?_
    simp -dsimp -implicitDefEqProofs (disch:=first | omega | (simp only [lenr];try omega)) only [↓amPre,amAll,↓reduceIte,reduceCtorEq,Nat.reduceEqDiff,Nat.reduceBEq,Nat.reduceAdd,Nat.reduceLeDiff,Nat.reduceSub,Nat.reduceMul,Int.reduceToNat,List.size_toArray,tyF,MM,bu0,cbU49]
    refine callP_of (q0) ?_
    simp -dsimp -implicitDefEqProofs (disch:=first | omega | (simp only [lenr];try omega)) only [↓amPre,amAll,↓reduceIte,reduceCtorEq,Nat.reduceEqDiff,Nat.reduceBEq,Nat.reduceAdd,Nat.reduceLeDiff,Nat.reduceSub,Nat.reduceMul,Int.reduceToNat,List.size_toArray,tyF,MM,bu0,cbU49]
    refine awp_loop (fun k st=>k≤T.length∧st.fr 5=.i64 k∧st.fr 0=.i64 n∧st.fr 1=isl T∧(∀ j,j<k→trkB n T j=true)) (T.length) ?_ ?_
    · simp -dsimp -implicitDefEqProofs (disch:=first | omega | (simp only [lenr];try omega)) only [↓amPre,amAll,↓reduceIte,reduceCtorEq,Nat.reduceEqDiff,Nat.reduceBEq,Nat.reduceAdd,Nat.reduceLeDiff,Nat.reduceSub,Nat.reduceMul,Int.reduceToNat,List.size_toArray,tyF,MM,bu0,cbU49]
      exact ⟨Nat.zero_le _,rfl,fun j hj=>absurd hj (Nat.not_lt_zero _)⟩
    rintro k st _ ⟨hk,f5,f0,f1,ek⟩
    by_cases c1:k<T.length
    · have c1':(k:Int)<(T.length:Int):=by omega
      have q1:=inRange (T.getD k 0) 0 (n - 1)
      have hbad:trkB n T k=false→trk n T=false:=fun h=>by
        rw [trk,Bool.and_eq_false_iff]
        exact .inl (List.all_eq_false.2 ⟨k,List.mem_range.2 c1,by rw [h];simp⟩)
      have hgo:trkB n T k=true→∀ j,j<k+1→trkB n T j=true:=fun h j hj=>by
        rcases Nat.lt_or_ge j k with q | q
        · exact ek j q
        · rw [show j=k by omega];exact h
      have hdef:trkB n T k=(within (T.getD k 0) 0 (n - 1) && (k == 0 || decide (T.getD (k - 1) 0<T.getD k 0))):=rfl
      cases w:within (T.getD k 0) 0 (n - 1) with
      | false =>
        rw [w] at q1 hdef
        rw [hbad (by rw [hdef];rfl)]
        simp -dsimp -implicitDefEqProofs (disch:=first | omega | (simp only [lenr];try omega)) only [↓amPre,amAll,↓reduceIte,reduceCtorEq,Nat.reduceEqDiff,Nat.reduceBEq,Nat.reduceAdd,Nat.reduceLeDiff,Nat.reduceSub,Nat.reduceMul,Int.reduceToNat,List.size_toArray,tyF,MM,bu0,cbU49,f5,f0,f1,lt_true c1',hw]
        refine callP_of (q1) ?_
        simp -dsimp -implicitDefEqProofs (disch:=first | omega | (simp only [lenr];try omega)) only [↓amPre,amAll,↓reduceIte,reduceCtorEq,Nat.reduceEqDiff,Nat.reduceBEq,Nat.reduceAdd,Nat.reduceLeDiff,Nat.reduceSub,Nat.reduceMul,Int.reduceToNat,List.size_toArray,tyF,MM,bu0,cbU49,f5,f0,f1]
      | true =>
        rw [w] at q1 hdef
        by_cases c0:k=0
        · subst c0
          have hg:=hgo (by rw [hdef];rfl)
          simp -dsimp -implicitDefEqProofs (disch:=first | omega | (simp only [lenr];try omega)) only [↓amPre,amAll,↓reduceIte,reduceCtorEq,Nat.reduceEqDiff,Nat.reduceBEq,Nat.reduceAdd,Nat.reduceLeDiff,Nat.reduceSub,Nat.reduceMul,Int.reduceToNat,List.size_toArray,tyF,MM,bu0,cbU49,f5,f0,f1,lt_true c1',hw]
          refine callP_of (q1) ?_
          simp -dsimp -implicitDefEqProofs (disch:=first | omega | (simp only [lenr];try omega)) only [↓amPre,amAll,↓reduceIte,reduceCtorEq,Nat.reduceEqDiff,Nat.reduceBEq,Nat.reduceAdd,Nat.reduceLeDiff,Nat.reduceSub,Nat.reduceMul,Int.reduceToNat,List.size_toArray,tyF,MM,bu0,cbU49,f5,f0,f1]
          exact ⟨c1,by omega,hg⟩
        · obtain ⟨m,rfl⟩:∃ m,k=m+1:=⟨k - 1,by omega⟩
          have hwm:IntKind.i64.wrap (((m+1:Nat):Int) - 1)=(m:Int):=by rw [wrap64_id (by omega)];omega
          have c0':(0:Int)<((m+1:Nat):Int):=by omega
          by_cases d1:T.getD m 0<T.getD (m+1) 0
          · have hg:=hgo (by rw [hdef];simp only [Nat.add_sub_cancel,d1,decide_true,Bool.or_true,Bool.and_true])
            simp -dsimp -implicitDefEqProofs (disch:=first | omega | (simp only [lenr];try omega)) only [↓amPre,amAll,↓reduceIte,reduceCtorEq,Nat.reduceEqDiff,Nat.reduceBEq,Nat.reduceAdd,Nat.reduceLeDiff,Nat.reduceSub,Nat.reduceMul,Int.reduceToNat,List.size_toArray,tyF,MM,bu0,cbU49,f5,f0,f1,lt_true c1',hw]
            refine callP_of (q1) ?_
            simp -dsimp -implicitDefEqProofs (disch:=first | omega | (simp only [lenr];try omega)) only [↓amPre,amAll,↓reduceIte,reduceCtorEq,Nat.reduceEqDiff,Nat.reduceBEq,Nat.reduceAdd,Nat.reduceLeDiff,Nat.reduceSub,Nat.reduceMul,Int.reduceToNat,List.size_toArray,tyF,MM,bu0,cbU49,f5,f0,f1,lt_true c0',hwm,le_false d1]
            exact ⟨c1,by omega,hg⟩
          · have d1':=Int.not_lt.1 d1
            rw [hbad (by rw [hdef,Nat.add_sub_cancel,decide_eq_false d1];simp)]
            simp -dsimp -implicitDefEqProofs (disch:=first | omega | (simp only [lenr];try omega)) only [↓amPre,amAll,↓reduceIte,reduceCtorEq,Nat.reduceEqDiff,Nat.reduceBEq,Nat.reduceAdd,Nat.reduceLeDiff,Nat.reduceSub,Nat.reduceMul,Int.reduceToNat,List.size_toArray,tyF,MM,bu0,cbU49,f5,f0,f1,lt_true c1',hw]
            refine callP_of (q1) ?_
            simp -dsimp -implicitDefEqProofs (disch:=first | omega | (simp only [lenr];try omega)) only [↓amPre,amAll,↓reduceIte,reduceCtorEq,Nat.reduceEqDiff,Nat.reduceBEq,Nat.reduceAdd,Nat.reduceLeDiff,Nat.reduceSub,Nat.reduceMul,Int.reduceToNat,List.size_toArray,tyF,MM,bu0,cbU49,f5,f0,f1,lt_true c0',hwm,d1']
    · have hke:k=T.length:=by omega
      subst hke
      have hall:(List.range T.length).all (trkB n T)=true:=List.all_eq_true.2 fun j hj=>ek j (List.mem_range.1 hj)
      have ht:trk n T=true:=by rw [trk,hall,Bool.true_and];exact decide_eq_true (by omega)
      rw [ht]
      simp -dsimp -implicitDefEqProofs (disch:=first | omega | (simp only [lenr];try omega)) only [↓amPre,amAll,↓reduceIte,reduceCtorEq,Nat.reduceEqDiff,Nat.reduceBEq,Nat.reduceAdd,Nat.reduceLeDiff,Nat.reduceSub,Nat.reduceMul,Int.reduceToNat,List.size_toArray,tyF,MM,bu0,cbU49,f5,f0,f1]
theorem isTrackedSetS (p:Puzz) (T:List Int) (hd:puzzOk p) (h:smallP p) (hl:T.length≤1099511627776):SpecAt Tryz.prog 29 [p.sl,isl T] (.bl (trk p.n T)):=by
  have q1:=sPuzzle p h
  rw [decide_eq_true hd] at q1
  have hn:=hd.1.1
  have q2:=isPointListS p.n T hn.1 hn.2 hl
  refine spec_of_awp (M:=MM) (np:=2) (fz:=true) mixed Tryz.func29 rfl rfl (by decide) rfl (Nat.le_refl _) (by decide +kernel) (.inr ⟨rfl,rfl⟩) trivial ?_
  simp -dsimp -implicitDefEqProofs (disch:=first | omega | (simp only [lenr];try omega)) only [↓amPre,amAll,↓reduceIte,reduceCtorEq,Nat.reduceEqDiff,Nat.reduceBEq,Nat.reduceAdd,Nat.reduceLeDiff,Nat.reduceSub,Nat.reduceMul,Int.reduceToNat,List.size_toArray,tyF,MM,bu0,cbU49]
  refine callP_of (q1) ?_
  simp -dsimp -implicitDefEqProofs (disch:=first | omega | (simp only [lenr];try omega)) only [↓amPre,amAll,↓reduceIte,reduceCtorEq,Nat.reduceEqDiff,Nat.reduceBEq,Nat.reduceAdd,Nat.reduceLeDiff,Nat.reduceSub,Nat.reduceMul,Int.reduceToNat,List.size_toArray,tyF,MM,bu0,cbU49]
  refine callP_of (q2) ?_
  simp -dsimp -implicitDefEqProofs (disch:=first | omega | (simp only [lenr];try omega)) only [↓amPre,amAll,↓reduceIte,reduceCtorEq,Nat.reduceEqDiff,Nat.reduceBEq,Nat.reduceAdd,Nat.reduceLeDiff,Nat.reduceSub,Nat.reduceMul,Int.reduceToNat,List.size_toArray,tyF,MM,bu0,cbU49]
theorem ltr_ok {m:Nat} (hm:m≤8) {u:List Nat} (hu:∀ j∈u,j<(letL m).length):∀ x∈ltr (letL m) u,letOk 8 x:=fun x hx=>by
  rw [ltr,List.mem_map] at hx
  obtain ⟨j,hj,rfl⟩:=hx
  have:=letL_ok hm _ (mem_getD _ j 0 (hu j hj))
  unfold letOk at *
  omega
theorem isWordS (m:Nat) (hm:m≤8) (u:List Nat) (hu:∀ j∈u,j<(letL m).length) (hb:u.length≤3000):SpecAt Tryz.prog 70 [isl (ltr (letL m) u)] (.bl (decide (u.length≤200))):=by
  have hx:=ltr_ok hm hu
  have hlu:(ltr (letL m) u).length=u.length:=by rw [ltr,List.length_map]
  have q1:=sWordOf 8 (ltr (letL m) u) (by unfold intOk;omega) (by omega) (fun x h=>by have:=hx x h;unfold letOk at this;unfold intOk;omega)
  have e:decide (wordOk 8 (ltr (letL m) u))=decide (u.length≤200):=decide_eq_decide.2 ⟨fun h=>by rw [← hlu];exact h.1,fun h=>⟨by omega,hx⟩⟩
  rw [e] at q1
  refine spec_of_awp (M:=MM) (np:=1) (fz:=true) mixed Tryz.func70 rfl rfl (by decide) rfl (Nat.le_refl _) (by decide +kernel) (.inr ⟨rfl,rfl⟩) trivial ?_
  simp -dsimp -implicitDefEqProofs (disch:=first | omega | (simp only [lenr];try omega)) only [↓amPre,amAll,↓reduceIte,reduceCtorEq,Nat.reduceEqDiff,Nat.reduceBEq,Nat.reduceAdd,Nat.reduceLeDiff,Nat.reduceSub,Nat.reduceMul,Int.reduceToNat,List.size_toArray,tyF,MM,bu0,cbU49]
  refine callP_of (q1) ?_
  simp -dsimp -implicitDefEqProofs (disch:=first | omega | (simp only [lenr];try omega)) only [↓amPre,amAll,↓reduceIte,reduceCtorEq,Nat.reduceEqDiff,Nat.reduceBEq,Nat.reduceAdd,Nat.reduceLeDiff,Nat.reduceSub,Nat.reduceMul,Int.reduceToNat,List.size_toArray,tyF,MM,bu0,cbU49]
theorem WordLessS (m:Nat) (hm:m≤8) (u v:List Nat) (hu:∀ j∈u,j<(letL m).length) (hv:∀ j∈v,j<(letL m).length) (hl:u.length=v.length) (hb:u.length≤3000) :
    SpecAt Tryz.prog 33 [isl (ltr (letL m) u),isl (ltr (letL m) v)] (.bl (decide (u.length≤200) && Bf.lexN u v)):=by
  have q1:=isWordS m hm u hu hb
  have q2:=isWordS m hm v hv (by omega)
  have q3:=wordLessS m hm u v hu hv hl hb
  rw [← hl] at q2
  cases b:decide (u.length≤200) with
  | false =>
    rw [b] at q1
    refine spec_of_awp (M:=MM) (np:=2) (fz:=true) mixed Tryz.func33 rfl rfl (by decide) rfl (Nat.le_refl _) (by decide +kernel) (.inr ⟨rfl,rfl⟩) trivial ?_
    simp -dsimp -implicitDefEqProofs (disch:=first | omega | (simp only [lenr];try omega)) only [↓amPre,amAll,↓reduceIte,reduceCtorEq,Nat.reduceEqDiff,Nat.reduceBEq,Nat.reduceAdd,Nat.reduceLeDiff,Nat.reduceSub,Nat.reduceMul,Int.reduceToNat,List.size_toArray,tyF,MM,bu0,cbU49]
    refine callP_of (q1) ?_
    simp -dsimp -implicitDefEqProofs (disch:=first | omega | (simp only [lenr];try omega)) only [↓amPre,amAll,↓reduceIte,reduceCtorEq,Nat.reduceEqDiff,Nat.reduceBEq,Nat.reduceAdd,Nat.reduceLeDiff,Nat.reduceSub,Nat.reduceMul,Int.reduceToNat,List.size_toArray,tyF,MM,bu0,cbU49]
  | true =>
    rw [b] at q1 q2
    rw [Bool.true_and]
    refine spec_of_awp (M:=MM) (np:=2) (fz:=true) mixed Tryz.func33 rfl rfl (by decide) rfl (Nat.le_refl _) (by decide +kernel) (.inr ⟨rfl,rfl⟩) trivial ?_
    simp -dsimp -implicitDefEqProofs (disch:=first | omega | (simp only [lenr];try omega)) only [↓amPre,amAll,↓reduceIte,reduceCtorEq,Nat.reduceEqDiff,Nat.reduceBEq,Nat.reduceAdd,Nat.reduceLeDiff,Nat.reduceSub,Nat.reduceMul,Int.reduceToNat,List.size_toArray,tyF,MM,bu0,cbU49]
    refine callP_of (q1) ?_
    simp -dsimp -implicitDefEqProofs (disch:=first | omega | (simp only [lenr];try omega)) only [↓amPre,amAll,↓reduceIte,reduceCtorEq,Nat.reduceEqDiff,Nat.reduceBEq,Nat.reduceAdd,Nat.reduceLeDiff,Nat.reduceSub,Nat.reduceMul,Int.reduceToNat,List.size_toArray,tyF,MM,bu0,cbU49]
    refine callP_of (q2) ?_
    simp -dsimp -implicitDefEqProofs (disch:=first | omega | (simp only [lenr];try omega)) only [↓amPre,amAll,↓reduceIte,reduceCtorEq,Nat.reduceEqDiff,Nat.reduceBEq,Nat.reduceAdd,Nat.reduceLeDiff,Nat.reduceSub,Nat.reduceMul,Int.reduceToNat,List.size_toArray,tyF,MM,bu0,cbU49]
    refine callP_of (q3) ?_
    simp -dsimp -implicitDefEqProofs (disch:=first | omega | (simp only [lenr];try omega)) only [↓amPre,amAll,↓reduceIte,reduceCtorEq,Nat.reduceEqDiff,Nat.reduceBEq,Nat.reduceAdd,Nat.reduceLeDiff,Nat.reduceSub,Nat.reduceMul,Int.reduceToNat,List.size_toArray,tyF,MM,bu0,cbU49]
end Wo
end Go.AM
set_option maxRecDepth 8000
namespace Go.AM
namespace Wo
open Go.Proofs
open Ch (PN pt idL cst cst_app cst_len)
open Bf (Ex nxO idxM byL dOf rvK ltr wdE dw Fin srtS movL_len wsB wsR wsR_no wsR_at wsR_none wsB_all)
open Ck (stN)
open Sr (fS sR sR_yes sR_no sR_ok sR_len searchC)
theorem sWordSup (p:Puzz) (T:List Int) (h:smallP p) (hT:T.length≤1099511627776):SpecAt Tryz.prog 6 [p.sl,isl T] (.tup [itr (wsP p T).1,.bl (wsP p T).2]):=by
  have q1:=searchC p h
  by_cases hs:1≤stN p∧stN p≤3000
  case neg =>
    have hw:=sR_no hs
    have hz:wsP p T=([],false):=by rw [wsP,hw,Bool.false_and,wsR_no]
    rw [hz]
    rw [hw] at q1
    generalize (sR p).1=e at *
    refine spec_of_awp_any (M:=MM) (np:=2) (X:=[9]) (fz:=false) mixed Tryz.func6 rfl rfl (by decide) rfl (Nat.le_refl _) (by decide +kernel) (.inl rfl) (by first | trivial | simp only [sigsOk_nil,sigsOk_some,sigsOk_none,sig_tr,sig_pt,sig_mt,sig_agg,List.map_cons,List.map_nil,sig1_tr,sig1_pt,sig1_v,and_self,true_and,List.length_map,List.length_set]) ?_
    simp -dsimp -implicitDefEqProofs (disch:=first | omega | (simp only [lenr];try omega)) only [↓amPre,amAll,↓reduceIte,reduceCtorEq,Nat.reduceEqDiff,Nat.reduceBEq,Nat.reduceAdd,Nat.reduceLeDiff,Nat.reduceSub,Nat.reduceMul,Int.reduceToNat,List.size_toArray,tyF,MM,bu0,cbU49]
    refine callP_of (q1) ?_
    simp -dsimp -implicitDefEqProofs (disch:=first | omega | (simp only [lenr];try omega)) only [↓amPre,amAll,↓reduceIte,reduceCtorEq,Nat.reduceEqDiff,Nat.reduceBEq,Nat.reduceAdd,Nat.reduceLeDiff,Nat.reduceSub,Nat.reduceMul,Int.reduceToNat,List.size_toArray,tyF,MM,bu0,cbU49]
  obtain ⟨hd,hR⟩:=sR_yes hs
  have hF:=sR_fin hs
  have hn20:=hd.1.1
  have h8:=hd.1.2.1
  have hle:=sR_len hd
  rw [wsP,hR]
  rw [hR] at q1
  dsimp only at q1 ⊢
  rw [Bool.true_and]
  have l1:=isTrackedSetS p T hd h hT
  have qw:=fun i hl hi=>wordForS p (Bf.out p.mv (letL p.mv.length) p.n.toNat 3000) true hd hF hl i hi
  generalize Bf.out p.mv (letL p.mv.length) p.n.toNat 3000=e at *
  cases b1:trk p.n T with
  | false =>
    rw [b1] at l1
    rw [wsR_no]
    refine spec_of_awp_any (M:=MM) (np:=2) (X:=[9]) (fz:=false) mixed Tryz.func6 rfl rfl (by decide) rfl (Nat.le_refl _) (by decide +kernel) (.inl rfl) (by first | trivial | simp only [sigsOk_nil,sigsOk_some,sigsOk_none,sig_tr,sig_pt,sig_mt,sig_agg,List.map_cons,List.map_nil,sig1_tr,sig1_pt,sig1_v,and_self,true_and,List.length_map,List.length_set]) ?_
    simp -dsimp -implicitDefEqProofs (disch:=first | omega | (simp only [lenr];try omega)) only [↓amPre,amAll,↓reduceIte,reduceCtorEq,Nat.reduceEqDiff,Nat.reduceBEq,Nat.reduceAdd,Nat.reduceLeDiff,Nat.reduceSub,Nat.reduceMul,Int.reduceToNat,List.size_toArray,tyF,MM,bu0,cbU49]
    refine callP_of (q1) ?_
    simp -dsimp -implicitDefEqProofs (disch:=first | omega | (simp only [lenr];try omega)) only [↓amPre,amAll,↓reduceIte,reduceCtorEq,Nat.reduceEqDiff,Nat.reduceBEq,Nat.reduceAdd,Nat.reduceLeDiff,Nat.reduceSub,Nat.reduceMul,Int.reduceToNat,List.size_toArray,tyF,MM,bu0,cbU49]
    refine callP_of (l1) ?_
    simp -dsimp -implicitDefEqProofs (disch:=first | omega | (simp only [lenr];try omega)) only [↓amPre,amAll,↓reduceIte,reduceCtorEq,Nat.reduceEqDiff,Nat.reduceBEq,Nat.reduceAdd,Nat.reduceLeDiff,Nat.reduceSub,Nat.reduceMul,Int.reduceToNat,List.size_toArray,tyF,MM,bu0,cbU49]
  | true =>
  rw [b1] at l1
  have hok:=hF.ok
  have hl3:e.S.length≤3000:=by omega
  have hz1:=hok.z.1
  have hgS:(e.S.map fun x=>isl x).length=e.S.length:=by simp
  have hlD:(cst e.D).length=e.S.length:=by rw [cst_len,hok.lD]
  have e1:∀ X:List Int,AV.fzL (X.map AV.i64)=X.map AV.i64:=fun X=>by rw [fzL_map,ints_fz]
  refine spec_of_awp_any (M:=MM) (np:=2) (X:=[9]) (fz:=false) mixed Tryz.func6 rfl rfl (by decide) rfl (Nat.le_refl _) (by decide +kernel) (.inl rfl) (by first | trivial | simp only [sigsOk_nil,sigsOk_some,sigsOk_none,sig_tr,sig_pt,sig_mt,sig_agg,List.map_cons,List.map_nil,sig1_tr,sig1_pt,sig1_v,and_self,true_and,List.length_map,List.length_set]) ?_
  simp -dsimp -implicitDefEqProofs (disch:=first | omega | (simp only [lenr];try omega)) only [↓amPre,amAll,↓reduceIte,reduceCtorEq,Nat.reduceEqDiff,Nat.reduceBEq,Nat.reduceAdd,Nat.reduceLeDiff,Nat.reduceSub,Nat.reduceMul,Int.reduceToNat,List.size_toArray,tyF,MM,bu0,cbU49]
  refine callP_of (q1) ?_
  simp -dsimp -implicitDefEqProofs (disch:=first | omega | (simp only [lenr];try omega)) only [↓amPre,amAll,↓reduceIte,reduceCtorEq,Nat.reduceEqDiff,Nat.reduceBEq,Nat.reduceAdd,Nat.reduceLeDiff,Nat.reduceSub,Nat.reduceMul,Int.reduceToNat,List.size_toArray,tyF,MM,bu0,cbU49]
  refine callP_of (l1) ?_
  simp -dsimp -implicitDefEqProofs (disch:=first | omega | (simp only [lenr];try omega)) only [↓amPre,amAll,↓reduceIte,reduceCtorEq,Nat.reduceEqDiff,Nat.reduceBEq,Nat.reduceAdd,Nat.reduceLeDiff,Nat.reduceSub,Nat.reduceMul,Int.reduceToNat,List.size_toArray,tyF,MM,bu0,cbU49]
  refine awp_loop (fun k st=>k≤(e.S.length - 1)∧st.fr 9=.i64 (k+1:Nat)∧st.fr 6=.loc 6 [] 0 0∧st.fr 2=.loc 2 [] 0 0∧st.fr 1=isl T∧st.mem 6=some (.pt 4 (fS e.S (cst e.D) (srtS e.S) true))∧st.mem 2=some (.pt 3 p.sl)∧((st.fr 8=.ref 25 [] 1 0 0∧st.mem 25=some (itr [])∧∀ j,j<k+1→wsB e T j=false)∨(∃ i,st.fr 8=.ref 64 [] 1 0 (e.D.getD i 0)∧st.mem 64=some (itr (ltr (letL p.mv.length) (wdE e i)))∧0<i∧i<k+1∧wsB e T i=true∧∀ j,j<i→wsB e T j=false))) ((e.S.length - 1)) ?_ ?_
  · simp -dsimp -implicitDefEqProofs (disch:=first | omega | (simp only [lenr];try omega)) only [↓amPre,amAll,↓reduceIte,reduceCtorEq,Nat.reduceEqDiff,Nat.reduceBEq,Nat.reduceAdd,Nat.reduceLeDiff,Nat.reduceSub,Nat.reduceMul,Int.reduceToNat,List.size_toArray,tyF,MM,bu0,cbU49]
    exact ⟨Nat.zero_le _,rfl,.inl ⟨rfl,fun j hj=>by rw [show j=0 by omega];rfl⟩⟩
  rintro k st _ ⟨hk,f9,f6,f2,f1,m6,m2,ek⟩
  by_cases c1:k+1<e.S.length
  · have hsm:=mem_getD e.S (k+1) default c1
    have hpn:=(hok.el _ hsm).1
    have q2:=moved (e.S.getD (k+1) default) (by have:=hpn.1;omega)
    have q3:=containsAllS T (movL (e.S.getD (k+1) default) (e.S.getD (k+1) default).length) hT (by have:=movL_len (e.S.getD (k+1) default) (e.S.getD (k+1) default).length;have:=hpn.1;omega)
    rw [← wsB_all] at q3
    have q4:=qw (k+1) hl3 c1
    have hg:(e.S.map fun x=>isl x).getD (k+1) .any=isl (e.S.getD (k+1) default):=by rw [getD_eq _ _ _ (by simp;omega),List.getElem_map,getD_eq _ _ _ (by omega)]
    have hgD:((cst e.D).map AV.i64).getD (k+1) .any=.i64 ((e.D.getD (k+1) 0:Nat):Int):=by rw [getD_eq _ _ _ (by rw [List.length_map,cst_len,hok.lD];exact c1),List.getElem_map,← getD_eq _ _ 0,Ch.cst_get (by rw [hok.lD];exact c1)]
    have c1':((k+1:Nat):Int)<(e.S.length:Int):=by omega
    have hwk:IntKind.i64.wrap (((k+1:Nat):Int)+1)=((k+1+1:Nat):Int):=by rw [wrap64_id (by omega)];omega
    have hno:wsB e T (k+1)=false→(∀ j,j<k+1→wsB e T j=false)→∀ j,j<k+1+1→wsB e T j=false:=fun a b j hj=>by
      rcases Nat.lt_or_ge j (k+1) with q | q
      · exact b j q
      · rw [show j=k+1 by omega];exact a
    rcases ek with ⟨g8,g25,hn⟩ | ⟨i,g8,g64,i0,ik,hi,hn⟩
    · cases b:wsB e T (k+1) with
      | false =>
        rw [b] at q3
        have hn2:=hno b hn
        simp -dsimp -implicitDefEqProofs (disch:=first | omega | (simp only [lenr];try omega)) only [↓amPre,amAll,↓reduceIte,reduceCtorEq,Nat.reduceEqDiff,Nat.reduceBEq,Nat.reduceAdd,Nat.reduceLeDiff,Nat.reduceSub,Nat.reduceMul,Int.reduceToNat,List.size_toArray,tyF,MM,bu0,cbU49,f9,f6,f2,f1,m6,m2,g8,g25,hgS,hlD,hgD,hg,lt_true c1']
        refine callP_of (q2) ?_
        simp -dsimp -implicitDefEqProofs (disch:=first | omega | (simp only [lenr];try omega)) only [↓amPre,amAll,↓reduceIte,reduceCtorEq,Nat.reduceEqDiff,Nat.reduceBEq,Nat.reduceAdd,Nat.reduceLeDiff,Nat.reduceSub,Nat.reduceMul,Int.reduceToNat,List.size_toArray,tyF,MM,bu0,cbU49,f9,f6,f2,f1,m6,m2,g8,g25]
        refine callP_of (q3) ?_
        simp -dsimp -implicitDefEqProofs (disch:=first | omega | (simp only [lenr];try omega)) only [↓amPre,amAll,↓reduceIte,reduceCtorEq,Nat.reduceEqDiff,Nat.reduceBEq,Nat.reduceAdd,Nat.reduceLeDiff,Nat.reduceSub,Nat.reduceMul,Int.reduceToNat,List.size_toArray,tyF,MM,bu0,cbU49,f9,f6,f2,f1,m6,m2,g8,g25,hwk]
        exact ⟨by omega,by omega,.inl hn2⟩
      | true =>
        rw [b] at q3
        simp -dsimp -implicitDefEqProofs (disch:=first | omega | (simp only [lenr];try omega)) only [↓amPre,amAll,↓reduceIte,reduceCtorEq,Nat.reduceEqDiff,Nat.reduceBEq,Nat.reduceAdd,Nat.reduceLeDiff,Nat.reduceSub,Nat.reduceMul,Int.reduceToNat,List.size_toArray,tyF,MM,bu0,cbU49,f9,f6,f2,f1,m6,m2,g8,g25,hgS,hlD,hgD,hg,lt_true c1']
        refine callP_of (q2) ?_
        simp -dsimp -implicitDefEqProofs (disch:=first | omega | (simp only [lenr];try omega)) only [↓amPre,amAll,↓reduceIte,reduceCtorEq,Nat.reduceEqDiff,Nat.reduceBEq,Nat.reduceAdd,Nat.reduceLeDiff,Nat.reduceSub,Nat.reduceMul,Int.reduceToNat,List.size_toArray,tyF,MM,bu0,cbU49,f9,f6,f2,f1,m6,m2,g8,g25]
        refine callP_of (q3) ?_
        simp -dsimp -implicitDefEqProofs (disch:=first | omega | (simp only [lenr];try omega)) only [↓amPre,amAll,↓reduceIte,reduceCtorEq,Nat.reduceEqDiff,Nat.reduceBEq,Nat.reduceAdd,Nat.reduceLeDiff,Nat.reduceSub,Nat.reduceMul,Int.reduceToNat,List.size_toArray,tyF,MM,bu0,cbU49,f9,f6,f2,f1,m6,m2,g8,g25,hgS,hg]
        refine split_go 7 (by decide +kernel) ?_
        simp -dsimp -implicitDefEqProofs (disch:=first | omega | (simp only [lenr];try omega)) only [↓amPre,amAll,↓reduceIte,reduceCtorEq,Nat.reduceEqDiff,Nat.reduceBEq,Nat.reduceAdd,Nat.reduceLeDiff,Nat.reduceSub,Nat.reduceMul,Int.reduceToNat,List.size_toArray,tyF,MM,bu0,cbU49,f9,f6,f2,f1,m6,m2,g8,g25,hgS,hg]
        have hlu:(ltr (letL p.mv.length) (wdE e (k+1))).length=e.D.getD (k+1) 0:=by rw [ltr,List.length_map,hF.tm.wd_len hz1 _ (k+1) (Nat.le_refl _) c1]
        refine callP_of (q4) ?_
        simp -dsimp -implicitDefEqProofs (disch:=first | omega | (simp only [lenr];try omega)) only [↓amPre,amAll,↓reduceIte,reduceCtorEq,Nat.reduceEqDiff,Nat.reduceBEq,Nat.reduceAdd,Nat.reduceLeDiff,Nat.reduceSub,Nat.reduceMul,Int.reduceToNat,List.size_toArray,tyF,MM,bu0,cbU49,f9,f6,f2,f1,m6,m2,g8,g25,hlu,hwk]
        exact ⟨by omega,by omega,.inr ⟨k+1,rfl,rfl,by omega,by omega,b,hn⟩⟩
    · have hile:i<e.S.length:=by omega
      have hwl:=hF.tm.wd_len hz1 _ i (Nat.le_refl _) hile
      have hwl2:=hF.tm.wd_len hz1 _ (k+1) (Nat.le_refl _) c1
      have hlu:(ltr (letL p.mv.length) (wdE e i)).length=e.D.getD i 0:=by rw [ltr,List.length_map,hwl]
      have hd0:0<e.D.getD i 0:=by have:=(hF.tm.old i i0 hile).2.2.2.2;omega
      have hd0':(0:Int)<((e.D.getD i 0:Nat):Int):=by omega
      have hdne:¬ ((e.D.getD i 0:Nat):Int)=0:=by omega
      have hmon:=hF.tm.dep i (k+1) (by omega) c1
      by_cases d1:e.D.getD i 0<e.D.getD (k+1) 0
      · have d1':((e.D.getD i 0:Nat):Int)<((e.D.getD (k+1) 0:Nat):Int):=by omega
        simp -dsimp -implicitDefEqProofs (disch:=first | omega | (simp only [lenr];try omega)) only [↓amPre,amAll,↓reduceIte,reduceCtorEq,Nat.reduceEqDiff,Nat.reduceBEq,Nat.reduceAdd,Nat.reduceLeDiff,Nat.reduceSub,Nat.reduceMul,Int.reduceToNat,List.size_toArray,tyF,MM,bu0,cbU49,f9,f6,f2,f1,m6,m2,g8,g64,hlu,hgS,hlD,hgD,hg,lt_true c1',lt_true hd0',lt_true d1',hwk]
        exact ⟨by omega,by omega,.inr ⟨i,rfl,rfl,i0,by omega,hi,hn⟩⟩
      have hde:e.D.getD (k+1) 0=e.D.getD i 0:=by omega
      have d1':¬ ((e.D.getD i 0:Nat):Int)<((e.D.getD (k+1) 0:Nat):Int):=by omega
      cases b:wsB e T (k+1) with
      | false =>
        rw [b] at q3
        simp -dsimp -implicitDefEqProofs (disch:=first | omega | (simp only [lenr];try omega)) only [↓amPre,amAll,↓reduceIte,reduceCtorEq,Nat.reduceEqDiff,Nat.reduceBEq,Nat.reduceAdd,Nat.reduceLeDiff,Nat.reduceSub,Nat.reduceMul,Int.reduceToNat,List.size_toArray,tyF,MM,bu0,cbU49,f9,f6,f2,f1,m6,m2,g8,g64,hlu,hgS,hlD,hgD,hg,lt_true c1',lt_true hd0',lt_false (Int.not_lt.1 d1')]
        refine callP_of (q2) ?_
        simp -dsimp -implicitDefEqProofs (disch:=first | omega | (simp only [lenr];try omega)) only [↓amPre,amAll,↓reduceIte,reduceCtorEq,Nat.reduceEqDiff,Nat.reduceBEq,Nat.reduceAdd,Nat.reduceLeDiff,Nat.reduceSub,Nat.reduceMul,Int.reduceToNat,List.size_toArray,tyF,MM,bu0,cbU49,f9,f6,f2,f1,m6,m2,g8,g64]
        refine callP_of (q3) ?_
        simp -dsimp -implicitDefEqProofs (disch:=first | omega | (simp only [lenr];try omega)) only [↓amPre,amAll,↓reduceIte,reduceCtorEq,Nat.reduceEqDiff,Nat.reduceBEq,Nat.reduceAdd,Nat.reduceLeDiff,Nat.reduceSub,Nat.reduceMul,Int.reduceToNat,List.size_toArray,tyF,MM,bu0,cbU49,f9,f6,f2,f1,m6,m2,g8,g64,hwk]
        exact ⟨by omega,by omega,.inr ⟨i,rfl,rfl,i0,by omega,hi,hn⟩⟩
      | true =>
        rw [b] at q3
        have hev:=(hF.tm.wd_ev hok _ i (Nat.le_refl _) hile).2
        have hev2:=(hF.tm.wd_ev hok _ (k+1) (Nat.le_refl _) c1).2
        have hdl:=hF.tm.d_le _ (k+1) (Nat.le_refl _) c1
        have hlt:=hF.tm.wd_lt hz1 _ i (k+1) (Nat.le_refl _) ik c1 hde.symm
        have q5:=WordLessS p.mv.length h8 (wdE e (k+1)) (wdE e i) hev2 hev (by omega) (by omega)
        have hf:Bf.lexN (wdE e (k+1)) (wdE e i)=false:=by
          cases z:Bf.lexN (wdE e (k+1)) (wdE e i) with
          | false=>rfl
          | true=>have:=Bf.lexN_tr hlt z;rw [Bf.lexN_irr] at this;cases this
        rw [hf,Bool.and_false] at q5
        simp -dsimp -implicitDefEqProofs (disch:=first | omega | (simp only [lenr];try omega)) only [↓amPre,amAll,↓reduceIte,reduceCtorEq,Nat.reduceEqDiff,Nat.reduceBEq,Nat.reduceAdd,Nat.reduceLeDiff,Nat.reduceSub,Nat.reduceMul,Int.reduceToNat,List.size_toArray,tyF,MM,bu0,cbU49,f9,f6,f2,f1,m6,m2,g8,g64,hlu,hgS,hlD,hgD,hg,lt_true c1',lt_true hd0',lt_false (Int.not_lt.1 d1')]
        refine callP_of (q2) ?_
        simp -dsimp -implicitDefEqProofs (disch:=first | omega | (simp only [lenr];try omega)) only [↓amPre,amAll,↓reduceIte,reduceCtorEq,Nat.reduceEqDiff,Nat.reduceBEq,Nat.reduceAdd,Nat.reduceLeDiff,Nat.reduceSub,Nat.reduceMul,Int.reduceToNat,List.size_toArray,tyF,MM,bu0,cbU49,f9,f6,f2,f1,m6,m2,g8,g64]
        refine callP_of (q3) ?_
        simp -dsimp -implicitDefEqProofs (disch:=first | omega | (simp only [lenr];try omega)) only [↓amPre,amAll,↓reduceIte,reduceCtorEq,Nat.reduceEqDiff,Nat.reduceBEq,Nat.reduceAdd,Nat.reduceLeDiff,Nat.reduceSub,Nat.reduceMul,Int.reduceToNat,List.size_toArray,tyF,MM,bu0,cbU49,f9,f6,f2,f1,m6,m2,g8,g64,hgS,hg]
        refine split_go 7 (by decide +kernel) ?_
        simp -dsimp -implicitDefEqProofs (disch:=first | omega | (simp only [lenr];try omega)) only [↓amPre,amAll,↓reduceIte,reduceCtorEq,Nat.reduceEqDiff,Nat.reduceBEq,Nat.reduceAdd,Nat.reduceLeDiff,Nat.reduceSub,Nat.reduceMul,Int.reduceToNat,List.size_toArray,tyF,MM,bu0,cbU49,f9,f6,f2,f1,m6,m2,g8,g64,hgS,hg]
        refine callP_frz q4 ?_
        simp -dsimp -implicitDefEqProofs (disch:=first | omega | (simp only [lenr];try omega)) only [↓amPre,amAll,↓reduceIte,reduceCtorEq,Nat.reduceEqDiff,Nat.reduceBEq,Nat.reduceAdd,Nat.reduceLeDiff,Nat.reduceSub,Nat.reduceMul,Int.reduceToNat,List.size_toArray,tyF,MM,bu0,cbU49,f9,f6,f2,f1,m6,m2,g8,g64,itrF,e1,hlu,hdne]
        refine callP_of (q5) ?_
        simp -dsimp -implicitDefEqProofs (disch:=first | omega | (simp only [lenr];try omega)) only [↓amPre,amAll,↓reduceIte,reduceCtorEq,Nat.reduceEqDiff,Nat.reduceBEq,Nat.reduceAdd,Nat.reduceLeDiff,Nat.reduceSub,Nat.reduceMul,Int.reduceToNat,List.size_toArray,tyF,MM,bu0,cbU49,f9,f6,f2,f1,m6,m2,g8,g64,hwk]
        exact ⟨by omega,by omega,.inr ⟨i,rfl,rfl,i0,by omega,hi,hn⟩⟩
  · have hie:k+1=e.S.length:=by omega
    have c1':¬ (e.S.length:Int)<(e.S.length:Int):=by omega
    rw [hie] at f9 ek
    rcases ek with ⟨g8,g25,hn⟩ | ⟨i,g8,g64,i0,ik,hi,hn⟩
    · rw [wsR_none _ _ _ hn]
      simp -dsimp -implicitDefEqProofs (disch:=first | omega | (simp only [lenr];try omega)) only [↓amPre,amAll,↓reduceIte,reduceCtorEq,Nat.reduceEqDiff,Nat.reduceBEq,Nat.reduceAdd,Nat.reduceLeDiff,Nat.reduceSub,Nat.reduceMul,Int.reduceToNat,List.size_toArray,tyF,MM,bu0,cbU49,f9,f6,f2,f1,m6,m2,g8,g25,hgS,lt_false (Int.not_lt.1 c1')]
    · have hwl:=hF.tm.wd_len hz1 _ i (Nat.le_refl _) ik
      have hlu:(ltr (letL p.mv.length) (wdE e i)).length=e.D.getD i 0:=by rw [ltr,List.length_map,hwl]
      have hd0:0<e.D.getD i 0:=by have:=(hF.tm.old i i0 ik).2.2.2.2;omega
      have hd0':(0:Int)<((e.D.getD i 0:Nat):Int):=by omega
      rw [wsR_at _ _ _ ik hi hn]
      by_cases d1:e.D.getD i 0≤200
      · have d1':¬ (200:Int)<((e.D.getD i 0:Nat):Int):=by omega
        rw [if_pos d1]
        simp -dsimp -implicitDefEqProofs (disch:=first | omega | (simp only [lenr];try omega)) only [↓amPre,amAll,↓reduceIte,reduceCtorEq,Nat.reduceEqDiff,Nat.reduceBEq,Nat.reduceAdd,Nat.reduceLeDiff,Nat.reduceSub,Nat.reduceMul,Int.reduceToNat,List.size_toArray,tyF,MM,bu0,cbU49,f9,f6,f2,f1,m6,m2,g8,g64,hlu,hgS,lt_false (Int.not_lt.1 c1'),lt_false (Int.not_lt.1 d1'),lt_true hd0']
      · have d1':(200:Int)<((e.D.getD i 0:Nat):Int):=by omega
        rw [if_neg d1]
        simp -dsimp -implicitDefEqProofs (disch:=first | omega | (simp only [lenr];try omega)) only [↓amPre,amAll,↓reduceIte,reduceCtorEq,Nat.reduceEqDiff,Nat.reduceBEq,Nat.reduceAdd,Nat.reduceLeDiff,Nat.reduceSub,Nat.reduceMul,Int.reduceToNat,List.size_toArray,tyF,MM,bu0,cbU49,f9,f6,f2,f1,m6,m2,g8,g64,hlu,hgS,lt_false (Int.not_lt.1 c1'),lt_true d1']
end Wo
end Go.AM
set_option maxRecDepth 8000
namespace Go.AM
namespace Wo
open Go.Proofs
open Bf (ltr wdE wsR)
open Ck (stN)
open Sr (sR sR_yes sR_no sR_ok sR_len)
theorem wsP_len (p:Puzz) (T:List Int):(wsP p T).1.length≤200:=by
  by_cases hs:1≤stN p∧stN p≤3000
  · obtain ⟨hd,hR⟩:=sR_yes hs
    have hF:=sR_fin hs
    rw [wsP,hR]
    dsimp only
    generalize Bf.out p.mv (letL p.mv.length) p.n.toNat 3000=e at *
    rw [wsR]
    split
    · split
      · rename_i i hi
        have hil:i<e.S.length:=List.mem_range.1 (List.mem_of_find?_eq_some hi)
        have hwl:=hF.tm.wd_len hF.ok.z.1 _ i (Nat.le_refl _) hil
        split
        · show (ltr _ _).length≤200
          rw [ltr,List.length_map];omega
        · exact Nat.zero_le _
      · exact Nat.zero_le _
    · exact Nat.zero_le _
  · rw [wsP,sR_no hs,Bool.false_and,Bf.wsR_no]
    exact Nat.zero_le _
end Wo
open Go.Proofs
open Wo (wsP wsP_len sWordSup iWordSup)
theorem lawWordSup (p:Puzz) (T:List Int) (hp:wfP p) (hw:T.length≤9223372036854775807):SpecAt Tryz.prog 3 [p.sl,isl T] (.bl true):=by
  refine spec_of_awp_any (M:=MM) (np:=2) (X:=[13]) (fz:=true) mixed Tryz.func3 rfl rfl (by decide) rfl (Nat.le_refl _) (by decide +kernel) (.inr ⟨rfl,rfl⟩) trivial ?_
  by_cases c0:(1048576:Int)<T.length
  · simp -dsimp -implicitDefEqProofs (disch:=first | omega | (simp only [lenr];try omega)) only [↓amPre,amAll,↓reduceIte,reduceCtorEq,Nat.reduceEqDiff,Nat.reduceBEq,Nat.reduceAdd,Nat.reduceLeDiff,Nat.reduceSub,Nat.reduceMul,Int.reduceToNat,List.size_toArray,tyF,MM,bu0,cbU49,lt_true c0]
  have hw':T.length≤1099511627776:=by omega
  simp -dsimp -implicitDefEqProofs (disch:=first | omega | (simp only [lenr];try omega)) only [↓amPre,amAll,↓reduceIte,reduceCtorEq,Nat.reduceEqDiff,Nat.reduceBEq,Nat.reduceAdd,Nat.reduceLeDiff,Nat.reduceSub,Nat.reduceMul,Int.reduceToNat,List.size_toArray,tyF,MM,bu0,cbU49,lt_false (Int.not_lt.1 c0)]
  refine callP_of (szPuzzle p 1048576 (by omega) (by omega) hp) ?_
  by_cases c1:(1048576:Int) - p.size<0
  · simp -dsimp -implicitDefEqProofs (disch:=first | omega | (simp only [lenr];try omega)) only [↓amPre,amAll,↓reduceIte,reduceCtorEq,Nat.reduceEqDiff,Nat.reduceBEq,Nat.reduceAdd,Nat.reduceLeDiff,Nat.reduceSub,Nat.reduceMul,Int.reduceToNat,List.size_toArray,tyF,MM,bu0,cbU49,szR_neg c1]
  have c1':0≤(1048576:Int) - p.size:=by omega
  have h:=szP_small hp.1 (by omega) c1'
  have hcn:=cnts_sizeI p.mv
  have hps:p.size=p.nm.length+sizeI p.mv:=by unfold Puzz.size;omega
  have hr:=wsP_len p T
  have q1:=sWordSup p T h hw'
  have q2:=iWordSup p T h hw'
  generalize (wsP p T).1=r at hr q1 q2
  generalize (wsP p T).2=b at q1 q2
  simp -dsimp -implicitDefEqProofs (disch:=first | omega | (simp only [lenr];try omega)) only [↓amPre,amAll,↓reduceIte,reduceCtorEq,Nat.reduceEqDiff,Nat.reduceBEq,Nat.reduceAdd,Nat.reduceLeDiff,Nat.reduceSub,Nat.reduceMul,Int.reduceToNat,List.size_toArray,tyF,MM,bu0,cbU49,szR_pos c1']
  refine callP_of (toPuzzle p h) ?_
  simp -dsimp -implicitDefEqProofs (disch:=first | omega | (simp only [lenr];try omega)) only [↓amPre,amAll,↓reduceIte,reduceCtorEq,Nat.reduceEqDiff,Nat.reduceBEq,Nat.reduceAdd,Nat.reduceLeDiff,Nat.reduceSub,Nat.reduceMul,Int.reduceToNat,List.size_toArray,tyF,MM,bu0,cbU49,ssfz]
  refine callP_of (toInt64S T hw') ?_
  simp -dsimp -implicitDefEqProofs (disch:=first | omega | (simp only [lenr];try omega)) only [↓amPre,amAll,↓reduceIte,reduceCtorEq,Nat.reduceEqDiff,Nat.reduceBEq,Nat.reduceAdd,Nat.reduceLeDiff,Nat.reduceSub,Nat.reduceMul,Int.reduceToNat,List.size_toArray,tyF,MM,bu0,cbU49,ssfz]
  refine callP_of (q1) ?_
  simp -dsimp -implicitDefEqProofs (disch:=first | omega | (simp only [lenr];try omega)) only [↓amPre,amAll,↓reduceIte,reduceCtorEq,Nat.reduceEqDiff,Nat.reduceBEq,Nat.reduceAdd,Nat.reduceLeDiff,Nat.reduceSub,Nat.reduceMul,Int.reduceToNat,List.size_toArray,tyF,MM,bu0,cbU49,ssfz]
  refine callP_of (toPuzzle p h) ?_
  simp -dsimp -implicitDefEqProofs (disch:=first | omega | (simp only [lenr];try omega)) only [↓amPre,amAll,↓reduceIte,reduceCtorEq,Nat.reduceEqDiff,Nat.reduceBEq,Nat.reduceAdd,Nat.reduceLeDiff,Nat.reduceSub,Nat.reduceMul,Int.reduceToNat,List.size_toArray,tyF,MM,bu0,cbU49,ssfz]
  refine callP_of (toInt64S T hw') ?_
  simp -dsimp -implicitDefEqProofs (disch:=first | omega | (simp only [lenr];try omega)) only [↓amPre,amAll,↓reduceIte,reduceCtorEq,Nat.reduceEqDiff,Nat.reduceBEq,Nat.reduceAdd,Nat.reduceLeDiff,Nat.reduceSub,Nat.reduceMul,Int.reduceToNat,List.size_toArray,tyF,MM,bu0,cbU49,ssfz]
  refine callP_of (q2) ?_
  simp -dsimp -implicitDefEqProofs (disch:=first | omega | (simp only [lenr];try omega)) only [↓amPre,amAll,↓reduceIte,reduceCtorEq,Nat.reduceEqDiff,Nat.reduceBEq,Nat.reduceAdd,Nat.reduceLeDiff,Nat.reduceSub,Nat.reduceMul,Int.reduceToNat,List.size_toArray,tyF,MM,bu0,cbU49,ssfz]
  refine callP_of (eqInt64S r r (by omega)) ?_
  simp -dsimp -implicitDefEqProofs (disch:=first | omega | (simp only [lenr];try omega)) only [↓amPre,amAll,↓reduceIte,reduceCtorEq,Nat.reduceEqDiff,Nat.reduceBEq,Nat.reduceAdd,Nat.reduceLeDiff,Nat.reduceSub,Nat.reduceMul,Int.reduceToNat,List.size_toArray,tyF,MM,bu0,cbU49,ssfz]
  refine split_go 3 (by decide +kernel) ?_
  simp -dsimp -implicitDefEqProofs (disch:=first | omega | (simp only [lenr];try omega)) only [↓amPre,amAll,↓reduceIte,reduceCtorEq,Nat.reduceEqDiff,Nat.reduceBEq,Nat.reduceAdd,Nat.reduceLeDiff,Nat.reduceSub,Nat.reduceMul,Int.reduceToNat,List.size_toArray,tyF,MM,bu0,cbU49,ssfz]
  refine callP_of (toPuzzle p h) ?_
  simp -dsimp -implicitDefEqProofs (disch:=first | omega | (simp only [lenr];try omega)) only [↓amPre,amAll,↓reduceIte,reduceCtorEq,Nat.reduceEqDiff,Nat.reduceBEq,Nat.reduceAdd,Nat.reduceLeDiff,Nat.reduceSub,Nat.reduceMul,Int.reduceToNat,List.size_toArray,tyF,MM,bu0,cbU49,ssfz]
  refine callP_of (eqPuzzle p p h) ?_
  simp -dsimp -implicitDefEqProofs (disch:=first | omega | (simp only [lenr];try omega)) only [↓amPre,amAll,↓reduceIte,reduceCtorEq,Nat.reduceEqDiff,Nat.reduceBEq,Nat.reduceAdd,Nat.reduceLeDiff,Nat.reduceSub,Nat.reduceMul,Int.reduceToNat,List.size_toArray,tyF,MM,bu0,cbU49,ssfz]
  refine callP_of (toInt64S T hw') ?_
  simp -dsimp -implicitDefEqProofs (disch:=first | omega | (simp only [lenr];try omega)) only [↓amPre,amAll,↓reduceIte,reduceCtorEq,Nat.reduceEqDiff,Nat.reduceBEq,Nat.reduceAdd,Nat.reduceLeDiff,Nat.reduceSub,Nat.reduceMul,Int.reduceToNat,List.size_toArray,tyF,MM,bu0,cbU49,ssfz]
  refine callP_of (eqInt64S T T hw') ?_
  simp -dsimp -implicitDefEqProofs (disch:=first | omega | (simp only [lenr];try omega)) only [↓amPre,amAll,↓reduceIte,reduceCtorEq,Nat.reduceEqDiff,Nat.reduceBEq,Nat.reduceAdd,Nat.reduceLeDiff,Nat.reduceSub,Nat.reduceMul,Int.reduceToNat,List.size_toArray,tyF,MM,bu0,cbU49,ssfz]
  refine callX_of (markPuzzle p 1 (by omega) (by omega) h) ?_
  simp -dsimp -implicitDefEqProofs (disch:=first | omega | (simp only [lenr];try omega)) only [↓amPre,amAll,↓reduceIte,reduceCtorEq,Nat.reduceEqDiff,Nat.reduceBEq,Nat.reduceAdd,Nat.reduceLeDiff,Nat.reduceSub,Nat.reduceMul,Int.reduceToNat,List.size_toArray,tyF,MM,bu0,cbU49,ssfz,mks_len,runI_len]
  refine callX_of (markInt64S T _ (by omega) (by omega) hw') ?_
  simp -dsimp -implicitDefEqProofs (disch:=first | omega | (simp only [lenr];try omega)) only [↓amPre,amAll,↓reduceIte,reduceCtorEq,Nat.reduceEqDiff,Nat.reduceBEq,Nat.reduceAdd,Nat.reduceLeDiff,Nat.reduceSub,Nat.reduceMul,Int.reduceToNat,List.size_toArray,tyF,MM,bu0,cbU49,ssfz,mks_len,runI_len]
  refine callP_of (eqInt64S r r (by omega)) ?_
  simp -dsimp -implicitDefEqProofs (disch:=first | omega | (simp only [lenr];try omega)) only [↓amPre,amAll,↓reduceIte,reduceCtorEq,Nat.reduceEqDiff,Nat.reduceBEq,Nat.reduceAdd,Nat.reduceLeDiff,Nat.reduceSub,Nat.reduceMul,Int.reduceToNat,List.size_toArray,tyF,MM,bu0,cbU49,ssfz,mks_len,runI_len]
  refine callX_of (markInt64S r 1 (by omega) (by omega) (by omega)) ?_
  simp -dsimp -implicitDefEqProofs (disch:=first | omega | (simp only [lenr];try omega)) only [↓amPre,amAll,↓reduceIte,reduceCtorEq,Nat.reduceEqDiff,Nat.reduceBEq,Nat.reduceAdd,Nat.reduceLeDiff,Nat.reduceSub,Nat.reduceMul,Int.reduceToNat,List.size_toArray,tyF,MM,bu0,cbU49,ssfz,mks_len,runI_len]
  refine callP_of (heldInt64S 1 r.length (by omega) (by omega) (by omega)) ?_
  simp -dsimp -implicitDefEqProofs (disch:=first | omega | (simp only [lenr];try omega)) only [↓amPre,amAll,↓reduceIte,reduceCtorEq,Nat.reduceEqDiff,Nat.reduceBEq,Nat.reduceAdd,Nat.reduceLeDiff,Nat.reduceSub,Nat.reduceMul,Int.reduceToNat,List.size_toArray,tyF,MM,bu0,cbU49,ssfz,mks_len,runI_len]
  refine callP_of (toPuzzle p h) ?_
  simp -dsimp -implicitDefEqProofs (disch:=first | omega | (simp only [lenr];try omega)) only [↓amPre,amAll,↓reduceIte,reduceCtorEq,Nat.reduceEqDiff,Nat.reduceBEq,Nat.reduceAdd,Nat.reduceLeDiff,Nat.reduceSub,Nat.reduceMul,Int.reduceToNat,List.size_toArray,tyF,MM,bu0,cbU49,ssfz,mks_len,runI_len]
  refine callP_of (toInt64S T hw') ?_
  simp -dsimp -implicitDefEqProofs (disch:=first | omega | (simp only [lenr];try omega)) only [↓amPre,amAll,↓reduceIte,reduceCtorEq,Nat.reduceEqDiff,Nat.reduceBEq,Nat.reduceAdd,Nat.reduceLeDiff,Nat.reduceSub,Nat.reduceMul,Int.reduceToNat,List.size_toArray,tyF,MM,bu0,cbU49,ssfz,mks_len,runI_len]
  refine callP_of (q2) ?_
  simp -dsimp -implicitDefEqProofs (disch:=first | omega | (simp only [lenr];try omega)) only [↓amPre,amAll,↓reduceIte,reduceCtorEq,Nat.reduceEqDiff,Nat.reduceBEq,Nat.reduceAdd,Nat.reduceLeDiff,Nat.reduceSub,Nat.reduceMul,Int.reduceToNat,List.size_toArray,tyF,MM,bu0,cbU49,ssfz,mks_len,runI_len]
  refine callP_of (eqInt64S r r (by omega)) ?_
  simp -dsimp -implicitDefEqProofs (disch:=first | omega | (simp only [lenr];try omega)) only [↓amPre,amAll,↓reduceIte,reduceCtorEq,Nat.reduceEqDiff,Nat.reduceBEq,Nat.reduceAdd,Nat.reduceLeDiff,Nat.reduceSub,Nat.reduceMul,Int.reduceToNat,List.size_toArray,tyF,MM,bu0,cbU49,ssfz,mks_len,runI_len]
  refine callP_of (heldInt64S 1 r.length (by omega) (by omega) (by omega)) ?_
  simp -dsimp -implicitDefEqProofs (disch:=first | omega | (simp only [lenr];try omega)) only [↓amPre,amAll,↓reduceIte,reduceCtorEq,Nat.reduceEqDiff,Nat.reduceBEq,Nat.reduceAdd,Nat.reduceLeDiff,Nat.reduceSub,Nat.reduceMul,Int.reduceToNat,List.size_toArray,tyF,MM,bu0,cbU49,ssfz,mks_len,runI_len]
end Go.AM
