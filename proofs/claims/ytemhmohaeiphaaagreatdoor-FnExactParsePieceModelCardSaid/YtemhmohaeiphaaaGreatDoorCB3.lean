/-
  CONTRACTS of functions of the program,and what they compute,by content.
-/
import Derived.Test.YtemhmohaeiphaaaGreatDoorCB2
import Derived.Test.YtemhmohaeiphaaaGreatDoorCB1
import Derived.Test.YtemhmohaeiphaaaGreatDoorCB0
import Derived.Test.YtemhmohaeiphaaaGreatDoorM2Facts
set_option linter.unusedVariables false
set_option linter.defProp false
set_option linter.unusedSimpArgs false
set_option maxRecDepth 8000
namespace Go.AM
namespace Ps
open Go.Proofs
def prA:List (List Int)→List AV
  | []=>[]
  | [x]=>[.agg [itr x,.nilsl]]
  | x :: y :: r=>.agg [itr x,itr y] :: prA r
theorem prA_even:∀ (m:Nat) (l:List (List Int)),l.length=2*m→prA l=(pr l).map Twist.tr
  | 0,l,h=>by
    have:l=[]:=List.eq_nil_of_length_eq_zero (by omega)
    subst this;rfl
  | m+1,a :: b :: r,h=>by
    have ih:=prA_even m r (by simp only [List.length_cons] at h;omega)
    show AV.agg [itr a,itr b] :: prA r=Twist.tr ⟨a,b⟩ :: (pr r).map Twist.tr
    rw [ih];rfl
  | m+1,[a],h=>by simp at h;omega
  | m+1,[],h=>by simp at h
theorem prA_odd (x:List Int):∀ (m:Nat) (l:List (List Int)),l.length=2*m→prA (l++[x])=prA l++[.agg [itr x,.nilsl]]
  | 0,l,h=>by
    have:l=[]:=List.eq_nil_of_length_eq_zero (by omega)
    subst this;rfl
  | m+1,a :: b :: r,h=>by
    have ih:=prA_odd x m r (by simp only [List.length_cons] at h;omega)
    show AV.agg [itr a,itr b] :: prA (r++[x])=_
    rw [ih];rfl
  | m+1,[a],h=>by simp at h;omega
  | m+1,[],h=>by simp at h
theorem prA_two (x y:List Int):∀ (m:Nat) (l:List (List Int)),l.length=2*m→prA (l++[x]++[y])=prA l++[.agg [itr x,itr y]]
  | 0,l,h=>by
    have:l=[]:=List.eq_nil_of_length_eq_zero (by omega)
    subst this;rfl
  | m+1,a :: b :: r,h=>by
    have ih:=prA_two x y m r (by simp only [List.length_cons] at h;omega)
    show AV.agg [itr a,itr b] :: prA (r++[x]++[y])=_
    rw [ih];rfl
  | m+1,[a],h=>by simp at h;omega
  | m+1,[],h=>by simp at h
theorem prA_len:∀ (m:Nat) (l:List (List Int)),l.length=2*m→(prA l).length=m:=fun m l h=>by
  rw [prA_even m l h,List.length_map,pr_len m l h]
theorem prA_len2:∀ l:List (List Int),(prA l).length=(l.length+1) / 2
  | []=>rfl
  | [x]=>by simp [prA]
  | x :: y :: r=>by
    have ih:=prA_len2 r
    show (prA r).length+1=(r.length+2+1) / 2
    omega
theorem get_last (A:List AV) (E:AV) (m:Nat) (h:A.length=m):(A++[E]).getD m .any=E:=by
  rw [List.getD_eq_getElem?_getD,List.getElem?_append_right (by omega),h,Nat.sub_self];rfl
theorem set_last (A:List AV) (E E':AV) (m:Nat) (h:A.length=m):(A++[E]).set m E'=A++[E']:=by
  rw [List.set_append_right _ _ (by omega),h,Nat.sub_self];rfl
theorem twists_spec (L:List Ln) (ks:List Kind) (a:Nat) (hL:okL L) (hE:endOk L) (ha:a≤1048577) (hks:ks.length≤1048576) (hkc:∀ k∈ks,0≤k.c∧k.c≤1048575) :
    SpecAt Tryz.prog 56 [ksl ks,.sl 1 (L.map lnP),.i64 (endN L),.i64 a] (.tup [.tr 2 (prA (hls L ks a)),.i64 (stOf (twR L ks a))]):=by
  have hll:=hL.1
  have hle:=hls_le L ks a
  obtain ⟨n,hn⟩:∃ n,n=(hls L ks a).length:=⟨_,rfl⟩
  have hw0:IntKind.i64.wrap (2*((ks.length:Nat):Int))=((2*ks.length:Nat):Int):=by rw [wrap64_id (by omega)];omega
  refine spec_of_awp (M:=MM) (np:=4) (fz:=false) mixed Tryz.func56 rfl rfl (by decide) rfl (Nat.le_refl _) (by decide +kernel) (.inl rfl) (by first | trivial | simp only [sigsOk_nil,sigsOk_some,sigsOk_none,sig_tr,sig_pt,sig_mt,sig_agg,List.map_cons,List.map_nil,sig1_tr,sig1_pt,sig1_v,and_self,true_and,List.length_map,List.length_set]) ?_
  simp -dsimp -implicitDefEqProofs (disch:=first|omega|(simp only [lenr];try omega)) only [↓amPre,↓reduceIte,reduceCtorEq,Nat.reduceEqDiff,Nat.reduceBEq,Nat.reduceAdd,Nat.reduceLeDiff,Nat.reduceSub,Nat.reduceMul,Int.reduceToNat,MM,bu0,cbJ1,cbJ16]
  refine awp_loopR 16 72 (.tr 2 []) (by simp -dsimp -implicitDefEqProofs (disch:=first|omega|(simp only [lenr];try omega)) only [↓amPre,↓reduceIte,reduceCtorEq,Nat.reduceEqDiff,Nat.reduceBEq,Nat.reduceAdd,Nat.reduceLeDiff,Nat.reduceSub,Nat.reduceMul,Int.reduceToNat,MM,bu0,cbJ1,cbJ16]) (by decide) (by decide) (by decide) (fun k st=>k≤n∧st.fr 11=.i64 k∧st.fr 0=ksl ks∧st.fr 1=.sl 1 (L.map lnP)∧st.fr 2=.i64 (endN L)∧st.fr 3=.i64 a∧st.fr 10=.ref 72 [] 2 0 ((k+1) / 2)∧st.mem 72=some (.tr 2 (prA ((hls L ks a).take k)))) (n) ?_ ?_
  · simp -dsimp -implicitDefEqProofs (disch:=first|omega|(simp only [lenr];try omega)) only [↓amPre,↓reduceIte,reduceCtorEq,Nat.reduceEqDiff,Nat.reduceBEq,Nat.reduceAdd,Nat.reduceLeDiff,Nat.reduceSub,Nat.reduceMul,Int.reduceToNat,MM,bu0,cbJ1,cbJ16,ren_eq]
    exact ⟨Nat.zero_le _,rfl,rfl⟩
  rintro k st _ ⟨hk,f11,f0,f1,f2,f3,f10,m72⟩
  have hwa:IntKind.i64.wrap ((a:Int)+(k:Int))=((a+k:Nat):Int):=by rw [wrap64_id (by omega)];omega
  by_cases hlt:k<2*ks.length
  · have hlt':((k:Nat):Int)<((2*ks.length:Nat):Int):=by omega
    have hdiv:IntKind.i64.wrap (((k:Nat):Int).tdiv 2)=((k / 2:Nat):Int):=by
      rw [Int.tdiv_eq_ediv_of_nonneg (by omega),wrap64_id (by omega)];omega
    have hmod:((k:Nat):Int).tmod 2=((k % 2:Nat):Int):=by
      rw [Int.tmod_eq_emod_of_nonneg (by omega)];omega
    have hk2l:k / 2<ks.length:=by omega
    have hc:(ks.getD (k / 2) default).c=((cOf ks (k / 2):Nat):Int):=by
      have:=(hkc _ (mem_getD ks (k / 2) default hk2l)).1
      unfold cOf;omega
    have hcb:cOf ks (k / 2)≤1048575:=by
      have:=(hkc _ (mem_getD ks (k / 2) default hk2l)).2
      unfold cOf;omega
    have hpl:(prA ((hls L ks a).take k)).length=(k+1) / 2:=by
      rw [prA_len2,List.length_take];congr 2;omega
    by_cases par:k % 2=0
    · have m0:((k % 2:Nat):Int)≠1:=by omega
      have m1:((k % 2:Nat):Int)=0:=by omega
      by_cases c1:k<n
      · have he:=hls_get L ks a k (by omega)
        have hgx:=he
        unfold hl at he
        rw [if_pos par] at he
        obtain ⟨hak,hI⟩:=ln_ok he
        obtain ⟨x,hxe⟩:∃ x,x=(hls L ks a).getD k []:=⟨_,rfl⟩
        rw [← hxe] at hI
        obtain ⟨hnl,htx⟩:=okL_at hL hak
        have hin:=intsS (lat L (a+k)).1 toT (cOf ks (k / 2)) htx (by omega)
        have hEk:=hE (a+k) hak
        rw [lineI_bool] at hI
        obtain ⟨l,hlq⟩:∃ l,l=lat L (a+k):=⟨_,rfl⟩
        rw [← hlq] at hI hin hEk
        have hq:l.2=true:=by
          apply Decidable.byContradiction
          intro q
          rw [if_neg q] at hI
          cases hI
        rw [if_pos hq] at hI
        have hli:liR l.1 toT (cOf ks (k / 2))=(x,true):=by unfold liR;rw [hI]
        rw [hli] at hin
        have hke:=hEk.1 hq
        have hts:(hls L ks a).take (k+1)=(hls L ks a).take k++[x]:=by rw [take_succ_eq _ k [] (by omega),hxe]
        have htl:((hls L ks a).take k).length=k:=by rw [List.length_take];omega
        rw [hts]
        have hpo:=prA_odd x (k / 2) ((hls L ks a).take k) (by omega)
        rw [hpo]
        generalize prA ((hls L ks a).take k)=A at *
        have hk2:(k+1) / 2=k / 2:=by omega
        have hk3:(k+1+1) / 2=k / 2+1:=by omega
        rw [hk2] at f10 hpl
        rw [hk3]
        simp -dsimp -implicitDefEqProofs (disch:=first|omega|(simp only [lenr];try omega)) only [↓amPre,↓reduceIte,reduceCtorEq,Nat.reduceEqDiff,Nat.reduceBEq,Nat.reduceAdd,Nat.reduceLeDiff,Nat.reduceSub,Nat.reduceMul,Int.reduceToNat,MM,bu0,cbJ1,cbJ16,f11,f0,f1,f2,f3,f10,m72,hw0,hwa,lt_true hlt',le_false (show ((a+k:Nat):Int)<((L.length:Nat):Int) by omega),hdiv,hmod,hc,eq_false m0]
        simp -dsimp -implicitDefEqProofs (disch:=first|omega|(simp only [lenr];try omega)) only [↓amPre,↓reduceIte,reduceCtorEq,Nat.reduceEqDiff,Nat.reduceBEq,Nat.reduceAdd,Nat.reduceLeDiff,Nat.reduceSub,Nat.reduceMul,Int.reduceToNat,MM,bu0,cbJ1,cbJ16,f11,f0,f1,f2,f3,f10,m72,← hlq]
        refine callP_of (hin) ?_
        simp -dsimp -implicitDefEqProofs (disch:=first|omega|(simp only [lenr];try omega)) only [↓amPre,↓reduceIte,reduceCtorEq,Nat.reduceEqDiff,Nat.reduceBEq,Nat.reduceAdd,Nat.reduceLeDiff,Nat.reduceSub,Nat.reduceMul,Int.reduceToNat,MM,bu0,cbJ1,cbJ16,f11,f0,f1,f2,f3,f10,m72,hwa,hpl,le_false (show ((a+k:Nat):Int)<((endN L:Nat):Int) by omega),hmod,eq_true m1]
        first | rfl | exact ⟨by omega,by omega⟩
      · -- no further line that fits
        have hkn:k=n:=by omega
        have hpl2:(prA (hls L ks a)).length=(k+1) / 2:=by rw [prA_len2];omega
        obtain ⟨e,he,hR,_⟩:=twR_err (L:=L) (ks:=ks) (a:=a) (by omega)
        rw [← hn,← hkn] at he
        unfold hl ln at he
        rw [hR]
        by_cases c2:L.length≤a+k
        · rw [if_pos c2] at he
          injection he with he
          subst he
          simp -dsimp -implicitDefEqProofs (disch:=first|omega|(simp only [lenr];try omega)) only [↓amPre,↓reduceIte,reduceCtorEq,Nat.reduceEqDiff,Nat.reduceBEq,Nat.reduceAdd,Nat.reduceLeDiff,Nat.reduceSub,Nat.reduceMul,Int.reduceToNat,MM,bu0,cbJ1,cbJ16,f11,f0,f1,f2,f3,f10,m72,hw0,hwa,lt_true hlt',le_true (show ((L.length:Nat):Int)≤((a+k:Nat):Int) by omega),hpl,hpl2]
          first | rfl | exact ⟨by omega,by omega⟩
        · rw [if_neg c2,if_pos par] at he
          obtain ⟨hnl,htx⟩:=okL_at hL (show a+k<L.length by omega)
          have hin:=intsS (lat L (a+k)).1 toT (cOf ks (k / 2)) htx (by omega)
          have hEk:=hE (a+k) (by omega)
          rw [lineI_bool] at he
          obtain ⟨l,hlq⟩:∃ l,l=lat L (a+k):=⟨_,rfl⟩
          rw [← hlq] at he hin hEk
          cases hx:lineI (l.1,true) toT (cOf ks (k / 2)) with
          | none =>
            have hli:liR l.1 toT (cOf ks (k / 2))=([],false):=by unfold liR;rw [hx]
            rw [hli] at hin
            have he2:e=((a+k:Nat):Int):=by
              rw [hx] at he
              by_cases q:l.2=true
              · rw [if_pos q] at he;injection he with he;exact he.symm
              · rw [if_neg q] at he;injection he with he;exact he.symm
            subst he2
            simp -dsimp -implicitDefEqProofs (disch:=first|omega|(simp only [lenr];try omega)) only [↓amPre,↓reduceIte,reduceCtorEq,Nat.reduceEqDiff,Nat.reduceBEq,Nat.reduceAdd,Nat.reduceLeDiff,Nat.reduceSub,Nat.reduceMul,Int.reduceToNat,MM,bu0,cbJ1,cbJ16,f11,f0,f1,f2,f3,f10,m72,hw0,hwa,lt_true hlt',le_false (show ((a+k:Nat):Int)<((L.length:Nat):Int) by omega),hdiv,hmod,hc,eq_false m0]
            simp -dsimp -implicitDefEqProofs (disch:=first|omega|(simp only [lenr];try omega)) only [↓amPre,↓reduceIte,reduceCtorEq,Nat.reduceEqDiff,Nat.reduceBEq,Nat.reduceAdd,Nat.reduceLeDiff,Nat.reduceSub,Nat.reduceMul,Int.reduceToNat,MM,bu0,cbJ1,cbJ16,f11,f0,f1,f2,f3,f10,m72,← hlq]
            refine callP_of (hin) ?_
            simp -dsimp -implicitDefEqProofs (disch:=first|omega|(simp only [lenr];try omega)) only [↓amPre,↓reduceIte,reduceCtorEq,Nat.reduceEqDiff,Nat.reduceBEq,Nat.reduceAdd,Nat.reduceLeDiff,Nat.reduceSub,Nat.reduceMul,Int.reduceToNat,MM,bu0,cbJ1,cbJ16,f11,f0,f1,f2,f3,f10,m72,hwa,hpl,hpl2]
            first | rfl | exact ⟨by omega,by omega⟩
          | some x =>
            have hli:liR l.1 toT (cOf ks (k / 2))=(x,true):=by unfold liR;rw [hx]
            rw [hli] at hin
            have hq:¬ l.2=true:=fun q=>by
              rw [if_pos q,hx] at he;cases he
            have he2:e=((a+k:Nat):Int):=by
              rw [if_neg hq] at he;injection he with he;exact he.symm
            subst he2
            have hke:¬ a+k<endN L:=fun q=>hq (hEk.2 q)
            simp -dsimp -implicitDefEqProofs (disch:=first|omega|(simp only [lenr];try omega)) only [↓amPre,↓reduceIte,reduceCtorEq,Nat.reduceEqDiff,Nat.reduceBEq,Nat.reduceAdd,Nat.reduceLeDiff,Nat.reduceSub,Nat.reduceMul,Int.reduceToNat,MM,bu0,cbJ1,cbJ16,f11,f0,f1,f2,f3,f10,m72,hw0,hwa,lt_true hlt',le_false (show ((a+k:Nat):Int)<((L.length:Nat):Int) by omega),hdiv,hmod,hc,eq_false m0]
            simp -dsimp -implicitDefEqProofs (disch:=first|omega|(simp only [lenr];try omega)) only [↓amPre,↓reduceIte,reduceCtorEq,Nat.reduceEqDiff,Nat.reduceBEq,Nat.reduceAdd,Nat.reduceLeDiff,Nat.reduceSub,Nat.reduceMul,Int.reduceToNat,MM,bu0,cbJ1,cbJ16,f11,f0,f1,f2,f3,f10,m72,← hlq]
            refine callP_of (hin) ?_
            simp -dsimp -implicitDefEqProofs (disch:=first|omega|(simp only [lenr];try omega)) only [↓amPre,↓reduceIte,reduceCtorEq,Nat.reduceEqDiff,Nat.reduceBEq,Nat.reduceAdd,Nat.reduceLeDiff,Nat.reduceSub,Nat.reduceMul,Int.reduceToNat,MM,bu0,cbJ1,cbJ16,f11,f0,f1,f2,f3,f10,m72,hwa,hpl,hpl2,le_true (show ((endN L:Nat):Int)≤((a+k:Nat):Int) by omega)]
            first | rfl | exact ⟨by omega,by omega⟩
    · have m0:((k % 2:Nat):Int)=1:=by omega
      have m1:((k % 2:Nat):Int)≠0:=by omega
      by_cases c1:k<n
      · have he:=hls_get L ks a k (by omega)
        have hgx:=he
        unfold hl at he
        rw [if_neg par] at he
        obtain ⟨hak,hI⟩:=ln_ok he
        obtain ⟨x,hxe⟩:∃ x,x=(hls L ks a).getD k []:=⟨_,rfl⟩
        rw [← hxe] at hI
        obtain ⟨hnl,htx⟩:=okL_at hL hak
        have hin:=intsS (lat L (a+k)).1 byT (cOf ks (k / 2)) htx (by omega)
        have hEk:=hE (a+k) hak
        rw [lineI_bool] at hI
        obtain ⟨l,hlq⟩:∃ l,l=lat L (a+k):=⟨_,rfl⟩
        rw [← hlq] at hI hin hEk
        have hq:l.2=true:=by
          apply Decidable.byContradiction
          intro q
          rw [if_neg q] at hI
          cases hI
        rw [if_pos hq] at hI
        have hli:liR l.1 byT (cOf ks (k / 2))=(x,true):=by unfold liR;rw [hI]
        rw [hli] at hin
        have hke:=hEk.1 hq
        have hts:(hls L ks a).take (k+1)=(hls L ks a).take k++[x]:=by rw [take_succ_eq _ k [] (by omega),hxe]
        have htl:((hls L ks a).take k).length=k:=by rw [List.length_take];omega
        rw [hts]
        obtain ⟨y,B,hB,hBl⟩:∃ (y:List Int) (B:List (List Int)),(hls L ks a).take k=B++[y]∧B.length=2*(k / 2):=by
          refine ⟨(hls L ks a).getD (2*(k / 2)) [],(hls L ks a).take (2*(k / 2)),?_,by rw [List.length_take];omega⟩
          rw [← take_succ_eq _ _ [] (by omega)]
          congr 1;omega
        have hpo:=prA_odd y (k / 2) B hBl
        have hpt:=prA_two y x (k / 2) B hBl
        have hAl:=prA_len (k / 2) B hBl
        rw [hB,hpo] at m72
        rw [hB,hpt]
        generalize prA B=A at *
        have hk2:(k+1) / 2=k / 2+1:=by omega
        have hk3:(k+1+1) / 2=k / 2+1:=by omega
        rw [hk2] at f10
        rw [hk3]
        have hgl:=fun E=>get_last A E (k / 2) hAl
        have hsl:=fun E E'=>set_last A E E' (k / 2) hAl
        have hall:∀ E,(A++[E]).length=k / 2+1:=fun E=>by rw [List.length_append,hAl];rfl
        simp -dsimp -implicitDefEqProofs (disch:=first|omega|(simp only [lenr];try omega)) only [↓amPre,↓reduceIte,reduceCtorEq,Nat.reduceEqDiff,Nat.reduceBEq,Nat.reduceAdd,Nat.reduceLeDiff,Nat.reduceSub,Nat.reduceMul,Int.reduceToNat,MM,bu0,cbJ1,cbJ16,f11,f0,f1,f2,f3,f10,m72,hw0,hwa,lt_true hlt',le_false (show ((a+k:Nat):Int)<((L.length:Nat):Int) by omega),hdiv,hmod,hc,eq_true m0]
        simp -dsimp -implicitDefEqProofs (disch:=first|omega|(simp only [lenr];try omega)) only [↓amPre,↓reduceIte,reduceCtorEq,Nat.reduceEqDiff,Nat.reduceBEq,Nat.reduceAdd,Nat.reduceLeDiff,Nat.reduceSub,Nat.reduceMul,Int.reduceToNat,MM,bu0,cbJ1,cbJ16,f11,f0,f1,f2,f3,f10,m72,← hlq]
        refine callP_of (hin) ?_
        simp -dsimp -implicitDefEqProofs (disch:=first|omega|(simp only [lenr];try omega)) only [↓amPre,↓reduceIte,reduceCtorEq,Nat.reduceEqDiff,Nat.reduceBEq,Nat.reduceAdd,Nat.reduceLeDiff,Nat.reduceSub,Nat.reduceMul,Int.reduceToNat,MM,bu0,cbJ1,cbJ16,f11,f0,f1,f2,f3,f10,m72,hwa,hall,le_false (show ((a+k:Nat):Int)<((endN L:Nat):Int) by omega),hmod,hdiv,hgl,hsl,eq_false m1]
        first | rfl | exact ⟨by omega,by omega⟩
      · -- no further line that fits
        have hkn:k=n:=by omega
        have hpl2:(prA (hls L ks a)).length=(k+1) / 2:=by rw [prA_len2];omega
        obtain ⟨e,he,hR,_⟩:=twR_err (L:=L) (ks:=ks) (a:=a) (by omega)
        rw [← hn,← hkn] at he
        unfold hl ln at he
        rw [hR]
        by_cases c2:L.length≤a+k
        · rw [if_pos c2] at he
          injection he with he
          subst he
          simp -dsimp -implicitDefEqProofs (disch:=first|omega|(simp only [lenr];try omega)) only [↓amPre,↓reduceIte,reduceCtorEq,Nat.reduceEqDiff,Nat.reduceBEq,Nat.reduceAdd,Nat.reduceLeDiff,Nat.reduceSub,Nat.reduceMul,Int.reduceToNat,MM,bu0,cbJ1,cbJ16,f11,f0,f1,f2,f3,f10,m72,hw0,hwa,lt_true hlt',le_true (show ((L.length:Nat):Int)≤((a+k:Nat):Int) by omega),hpl,hpl2]
          first | rfl | exact ⟨by omega,by omega⟩
        · rw [if_neg c2,if_neg par] at he
          obtain ⟨hnl,htx⟩:=okL_at hL (show a+k<L.length by omega)
          have hin:=intsS (lat L (a+k)).1 byT (cOf ks (k / 2)) htx (by omega)
          have hEk:=hE (a+k) (by omega)
          rw [lineI_bool] at he
          obtain ⟨l,hlq⟩:∃ l,l=lat L (a+k):=⟨_,rfl⟩
          rw [← hlq] at he hin hEk
          cases hx:lineI (l.1,true) byT (cOf ks (k / 2)) with
          | none =>
            have hli:liR l.1 byT (cOf ks (k / 2))=([],false):=by unfold liR;rw [hx]
            rw [hli] at hin
            have he2:e=((a+k:Nat):Int):=by
              rw [hx] at he
              by_cases q:l.2=true
              · rw [if_pos q] at he;injection he with he;exact he.symm
              · rw [if_neg q] at he;injection he with he;exact he.symm
            subst he2
            simp -dsimp -implicitDefEqProofs (disch:=first|omega|(simp only [lenr];try omega)) only [↓amPre,↓reduceIte,reduceCtorEq,Nat.reduceEqDiff,Nat.reduceBEq,Nat.reduceAdd,Nat.reduceLeDiff,Nat.reduceSub,Nat.reduceMul,Int.reduceToNat,MM,bu0,cbJ1,cbJ16,f11,f0,f1,f2,f3,f10,m72,hw0,hwa,lt_true hlt',le_false (show ((a+k:Nat):Int)<((L.length:Nat):Int) by omega),hdiv,hmod,hc,eq_true m0]
            simp -dsimp -implicitDefEqProofs (disch:=first|omega|(simp only [lenr];try omega)) only [↓amPre,↓reduceIte,reduceCtorEq,Nat.reduceEqDiff,Nat.reduceBEq,Nat.reduceAdd,Nat.reduceLeDiff,Nat.reduceSub,Nat.reduceMul,Int.reduceToNat,MM,bu0,cbJ1,cbJ16,f11,f0,f1,f2,f3,f10,m72,← hlq]
            refine callP_of (hin) ?_
            simp -dsimp -implicitDefEqProofs (disch:=first|omega|(simp only [lenr];try omega)) only [↓amPre,↓reduceIte,reduceCtorEq,Nat.reduceEqDiff,Nat.reduceBEq,Nat.reduceAdd,Nat.reduceLeDiff,Nat.reduceSub,Nat.reduceMul,Int.reduceToNat,MM,bu0,cbJ1,cbJ16,f11,f0,f1,f2,f3,f10,m72,hwa,hpl,hpl2]
            first | rfl | exact ⟨by omega,by omega⟩
          | some x =>
            have hli:liR l.1 byT (cOf ks (k / 2))=(x,true):=by unfold liR;rw [hx]
            rw [hli] at hin
            have hq:¬ l.2=true:=fun q=>by
              rw [if_pos q,hx] at he;cases he
            have he2:e=((a+k:Nat):Int):=by
              rw [if_neg hq] at he;injection he with he;exact he.symm
            subst he2
            have hke:¬ a+k<endN L:=fun q=>hq (hEk.2 q)
            simp -dsimp -implicitDefEqProofs (disch:=first|omega|(simp only [lenr];try omega)) only [↓amPre,↓reduceIte,reduceCtorEq,Nat.reduceEqDiff,Nat.reduceBEq,Nat.reduceAdd,Nat.reduceLeDiff,Nat.reduceSub,Nat.reduceMul,Int.reduceToNat,MM,bu0,cbJ1,cbJ16,f11,f0,f1,f2,f3,f10,m72,hw0,hwa,lt_true hlt',le_false (show ((a+k:Nat):Int)<((L.length:Nat):Int) by omega),hdiv,hmod,hc,eq_true m0]
            simp -dsimp -implicitDefEqProofs (disch:=first|omega|(simp only [lenr];try omega)) only [↓amPre,↓reduceIte,reduceCtorEq,Nat.reduceEqDiff,Nat.reduceBEq,Nat.reduceAdd,Nat.reduceLeDiff,Nat.reduceSub,Nat.reduceMul,Int.reduceToNat,MM,bu0,cbJ1,cbJ16,f11,f0,f1,f2,f3,f10,m72,← hlq]
            refine callP_of (hin) ?_
            simp -dsimp -implicitDefEqProofs (disch:=first|omega|(simp only [lenr];try omega)) only [↓amPre,↓reduceIte,reduceCtorEq,Nat.reduceEqDiff,Nat.reduceBEq,Nat.reduceAdd,Nat.reduceLeDiff,Nat.reduceSub,Nat.reduceMul,Int.reduceToNat,MM,bu0,cbJ1,cbJ16,f11,f0,f1,f2,f3,f10,m72,hwa,hpl,hpl2,le_true (show ((endN L:Nat):Int)≤((a+k:Nat):Int) by omega)]
            first | rfl | exact ⟨by omega,by omega⟩
  · have hke:k=2*ks.length:=by omega
    subst hke
    have hR:twR L ks a=.ok (pr (hls L ks a)):=if_pos (by omega)
    rw [hR]
    rw [List.take_of_length_le (by omega)] at m72
    have hpl:=prA_len ks.length (hls L ks a) (by omega)
    simp -dsimp -implicitDefEqProofs (disch:=first|omega|(simp only [lenr];try omega)) only [↓amPre,↓reduceIte,reduceCtorEq,Nat.reduceEqDiff,Nat.reduceBEq,Nat.reduceAdd,Nat.reduceLeDiff,Nat.reduceSub,Nat.reduceMul,Int.reduceToNat,MM,bu0,cbJ1,cbJ16,f11,f0,f1,f2,f3,f10,m72,hw0,lt_false (Int.le_refl ((2*ks.length:Nat):Int)),hpl]
    rfl
end Ps
end Go.AM
set_option maxRecDepth 8000
namespace Go.AM
namespace Ps
open Go.Proofs
theorem okL_ln {s:Tx} (hs:s.length≤1048576):okL (lnsOf s):=⟨by have:=lns_len s;omega,fun l hl=>⟨lns_no s l hl,by have:=(lns_mem s l hl).1;omega⟩⟩
def pzU (n:Nat) (X:Except Int (Tx×List (List Int))):Except Int Puzz:=match X with
  | .error e=>.error e
  | .ok (nm,mv)=>if puzzOk ⟨n,nm,mv⟩ then .ok ⟨n,nm,mv⟩ else .error (-4)
end Ps
end Go.AM
set_option maxRecDepth 8000
namespace Go.AM
namespace Ps
open Go.Proofs
def mdU (ks:List Kind) (X:Except Int (Tx×List (List Twist))):Except Int Model:=match X with
  | .error e=>.error e
  | .ok (nm,mv)=>if modelOk ⟨ks,nm,mv⟩ then .ok ⟨ks,nm,mv⟩ else .error (-4)
theorem twR_ok {L:List Ln} {ks:List Kind} {a:Nat} {t:List Twist} (h:twR L ks a=.ok t) (hks:1≤ks.length):t=pr (hls L ks a)∧(hls L ks a).length=2*ks.length∧a+2*ks.length≤L.length:=by
  unfold twR at h
  split at h
  · rename_i q
    cases h
    refine ⟨rfl,q,?_⟩
    have:=hls_get L ks a (2*ks.length - 1) (by omega)
    unfold hl at this
    have:=(ln_ok this).1
    omega
  · split at h
    · cases h
    · cases h
theorem tw_smallT {L:List Ln} {ks:List Kind} {a:Nat} {t:List Twist} (h:twR L ks a=.ok t) (hk:kindsOk ks):smallT t:=by
  have hg:=twS_good L ks a
  rw [h] at hg
  have hlen:=twS_len L ks ⟨a,-1⟩ ks.length
  have hnum:=twS_num L ks ⟨a,-1⟩ ks.length
  rw [hg] at hlen hnum
  replace hlen:t.length=ks.length:=hlen
  have:=hk.1
  refine ⟨by omega,fun x hx=>?_⟩
  obtain ⟨i,hi,rfl⟩:=List.getElem_of_mem hx
  have h1:=hnum i (by omega)
  replace h1:numT (t.getD i default) (cOf ks i):=h1
  rw [getD_eq _ _ _ hi] at h1
  have hc:cOf ks i≤20:=by
    have:=kindsOk_kind hk (mem_getD ks i default (by omega))
    unfold cOf;omega
  unfold numT at h1
  omega
theorem parseModelS (s:Tx) (hs:s.length≤1048576):SpecAt Tryz.prog 15 [.st s] (.tup [(pmd s).1.sl,.i64 (pmd s).2]):=by
  by_cases c0:2000<s.length
  · have hres:pmd s=(noM,-2):=by unfold pmd pmdE;rw [if_pos c0];rfl
    rw [hres]
    refine spec_of_awp_any (M:=MM) (np:=1) (X:=[19]) (fz:=true) mixed Tryz.func15 rfl rfl (by decide) rfl (Nat.le_refl _) (by decide +kernel) (.inr ⟨rfl,rfl⟩) trivial ?_
    simp -dsimp -implicitDefEqProofs (disch:=first|omega|(simp only [lenr];try omega)) only [↓amPre,↓reduceIte,reduceCtorEq,Nat.reduceEqDiff,Nat.reduceBEq,Nat.reduceAdd,Nat.reduceLeDiff,Nat.reduceSub,Nat.reduceMul,Int.reduceToNat,MM,bu0,cbJ1,cbJ16,lt_true (show (2000:Int)<((s.length:Nat):Int) by omega)]
    exact ⟨rfl,rfl,rfl⟩
  have hli:=linesS s hs
  have hE:=endOk_lns s
  have hL:=okL_ln hs
  have hres:pmd s=outP noM (mdR (lnsOf s)):=by unfold pmd pmdE;rw [if_neg c0]
  generalize lnsOf s=L at *
  have hll:=hL.1
  obtain ⟨RS,hRS⟩:∃ RS,RS=mdR L:=⟨_,rfl⟩
  rw [← hRS] at hres
  have hen:endN L≤L.length:=by unfold endN;split <;> omega
  have hltf:=lt_false (show ((s.length:Nat):Int)≤(2000:Int) by omega)
  by_cases hz:L.length=0
  · have hL0:L=[]:=List.eq_nil_of_length_eq_zero hz
    have hres2:pmd s=(noM,-3):=by rw [hres,hRS];unfold mdR;rw [if_pos hL0];rfl
    rw [hres2]
    refine spec_of_awp_any (M:=MM) (np:=1) (X:=[19]) (fz:=true) mixed Tryz.func15 rfl rfl (by decide) rfl (Nat.le_refl _) (by decide +kernel) (.inr ⟨rfl,rfl⟩) trivial ?_
    simp -dsimp -implicitDefEqProofs (disch:=first|omega|(simp only [lenr];try omega)) only [↓amPre,↓reduceIte,reduceCtorEq,Nat.reduceEqDiff,Nat.reduceBEq,Nat.reduceAdd,Nat.reduceLeDiff,Nat.reduceSub,Nat.reduceMul,Int.reduceToNat,MM,bu0,cbJ1,cbJ16,hltf]
    refine callP_frz hli ?_
    simp -dsimp -implicitDefEqProofs (disch:=first|omega|(simp only [lenr];try omega)) only [↓amPre,↓reduceIte,reduceCtorEq,Nat.reduceEqDiff,Nat.reduceBEq,Nat.reduceAdd,Nat.reduceLeDiff,Nat.reduceSub,Nat.reduceMul,Int.reduceToNat,MM,bu0,cbJ1,cbJ16,lpfz,eq_true (show ((L.length:Nat):Int)=0 by omega)]
    exact ⟨rfl,rfl,rfl⟩
  have hz0:=eq_false (show ((L.length:Nat):Int)≠0 by omega)
  have hne:L≠[]:=fun q=>hz (by rw [q];rfl)
  have hkd:=kindsS_spec L hL hE
  have hR1:RS=(match kdR L with | .error e=>.error e | .ok ks=>mdU ks (mdL L ks (L.length+1) ks.length [] [])):=by
    rw [hRS];unfold mdR;rw [if_neg hne];rfl
  cases hk:kdR L with
  | error e =>
    rw [hk] at hkd hR1
    have hg:=kindsS_good L
    rw [if_neg hne,hk] at hg
    have hres2:pmd s=(noM,e):=by rw [hres,hR1];rfl
    rw [hres2]
    refine spec_of_awp_any (M:=MM) (np:=1) (X:=[19]) (fz:=true) mixed Tryz.func15 rfl rfl (by decide) rfl (Nat.le_refl _) (by decide +kernel) (.inr ⟨rfl,rfl⟩) trivial ?_
    simp -dsimp -implicitDefEqProofs (disch:=first|omega|(simp only [lenr];try omega)) only [↓amPre,↓reduceIte,reduceCtorEq,Nat.reduceEqDiff,Nat.reduceBEq,Nat.reduceAdd,Nat.reduceLeDiff,Nat.reduceSub,Nat.reduceMul,Int.reduceToNat,MM,bu0,cbJ1,cbJ16,hltf]
    refine callP_frz hli ?_
    simp -dsimp -implicitDefEqProofs (disch:=first|omega|(simp only [lenr];try omega)) only [↓amPre,↓reduceIte,reduceCtorEq,Nat.reduceEqDiff,Nat.reduceBEq,Nat.reduceAdd,Nat.reduceLeDiff,Nat.reduceSub,Nat.reduceMul,Int.reduceToNat,MM,bu0,cbJ1,cbJ16,lpfz,hz0]
    refine callP_frz hkd ?_
    simp -dsimp -implicitDefEqProofs (disch:=first|omega|(simp only [lenr];try omega)) only [↓amPre,↓reduceIte,reduceCtorEq,Nat.reduceEqDiff,Nat.reduceBEq,Nat.reduceAdd,Nat.reduceLeDiff,Nat.reduceSub,Nat.reduceMul,Int.reduceToNat,MM,bu0,cbJ1,cbJ16,kfz,stOf,ne_true hg.2]
    exact ⟨rfl,rfl,rfl⟩
  | ok ks =>
  rw [hk] at hkd hR1
  obtain ⟨hko,hkp⟩:=kdR_ok hk
  have hk3:(kpre L).take 3=ks:=by rw [← hkp];exact List.take_of_length_le (by have:=hko.1;omega)
  rw [hk3] at hkd
  have hkn:=hko.1
  have hkc:∀ k∈ks,0≤k.c∧k.c≤1048575:=fun k hk=>by have:=kindsOk_kind hko hk;omega
  have hkl2:=kpre_le L
  rw [← hkp] at hkl2
  replace hR1:RS=mdU ks (mdL L ks (L.length+1) ks.length [] []):=hR1
  refine spec_of_awp_any (M:=MM) (np:=1) (X:=[19]) (fz:=true) mixed Tryz.func15 rfl rfl (by decide) rfl (Nat.le_refl _) (by decide +kernel) (.inr ⟨rfl,rfl⟩) trivial ?_
  simp -dsimp -implicitDefEqProofs (disch:=first|omega|(simp only [lenr];try omega)) only [↓amPre,↓reduceIte,reduceCtorEq,Nat.reduceEqDiff,Nat.reduceBEq,Nat.reduceAdd,Nat.reduceLeDiff,Nat.reduceSub,Nat.reduceMul,Int.reduceToNat,MM,bu0,cbJ1,cbJ16,hltf]
  refine callP_frz hli ?_
  simp -dsimp -implicitDefEqProofs (disch:=first|omega|(simp only [lenr];try omega)) only [↓amPre,↓reduceIte,reduceCtorEq,Nat.reduceEqDiff,Nat.reduceBEq,Nat.reduceAdd,Nat.reduceLeDiff,Nat.reduceSub,Nat.reduceMul,Int.reduceToNat,MM,bu0,cbJ1,cbJ16,lpfz,hz0]
  refine callP_frz hkd ?_
  simp -dsimp -implicitDefEqProofs (disch:=first|omega|(simp only [lenr];try omega)) only [↓amPre,↓reduceIte,reduceCtorEq,Nat.reduceEqDiff,Nat.reduceBEq,Nat.reduceAdd,Nat.reduceLeDiff,Nat.reduceSub,Nat.reduceMul,Int.reduceToNat,MM,bu0,cbJ1,cbJ16,kfz,stOf,ne_false (rfl:(-1:Int) = -1)]
  refine awp_loopC 8 2 3 1 [ksl ks,.st [],.nilsl] (by simp -dsimp -implicitDefEqProofs (disch:=first|omega|(simp only [lenr];try omega)) only [↓amPre,↓reduceIte,reduceCtorEq,Nat.reduceEqDiff,Nat.reduceBEq,Nat.reduceAdd,Nat.reduceLeDiff,Nat.reduceSub,Nat.reduceMul,Int.reduceToNat,MM,bu0,cbJ1,cbJ16]) (by simp) (by simp) (fun k st=>k≤(L.length+1)∧st.fr 4=.sl 1 (L.map lnP)∧st.fr 5=.i64 (endN L)∧st.fr 6=ksl ks∧st.fr 8=.loc 8 [] 0 0∧st.fr 2=.loc 2 [] 0 0∧st.mem 2=some (.pt 3 (.agg [.nilsl,.st [],.nilsl]))∧(∃ (a:Nat) (nm:Tx) (mv:List (List Twist)),st.fr 9=.i64 a∧st.mem 8=some (.pt 3 (.agg [ksl ks,.st nm,tsst mv]))∧k≤a∧a≤L.length∧nm.length=k∧mv.length=k∧(∀ x∈mv,smallT x)∧RS=mdU ks (mdL L ks (L.length+1 - k) a nm mv))) ((L.length+1)) ?_ ?_
  · simp -dsimp -implicitDefEqProofs (disch:=first|omega|(simp only [lenr];try omega)) only [↓amPre,↓reduceIte,reduceCtorEq,Nat.reduceEqDiff,Nat.reduceBEq,Nat.reduceAdd,Nat.reduceLeDiff,Nat.reduceSub,Nat.reduceMul,Int.reduceToNat,MM,bu0,cbJ1,cbJ16,nilC_eq]
    exact ⟨ks.length,[],[],rfl,rfl,Nat.zero_le _,hkl2,rfl,rfl,fun x hx=>(by cases hx),hR1⟩
  rintro k st _ ⟨hk,f4,f5,f6,f8,f2,m2,ek⟩
  obtain ⟨a,nm,mv,f9,m8,hka,hal,hnl,hml,hmn,hgo⟩:=ek
  rw [show L.length+1 - k=(L.length - k)+1 by omega,mdL] at hgo
  by_cases hlt:a<L.length
  · have hlt':((a:Nat):Int)<L.length:=by omega
    rw [if_neg (by omega)] at hgo
    obtain ⟨hnl2,htx⟩:=okL_at hL hlt
    have hEk:=hE a hlt
    obtain ⟨l,hlq⟩:∃ l,l=lat L a:=⟨_,rfl⟩
    have hsp:=splitTextS (lat L a).1 32 htx
    rw [← hlq] at hsp hEk hgo htx
    obtain ⟨ws,hws⟩:∃ ws,ws=spl 32 l.1:=⟨_,rfl⟩
    have hpos:0<(spl 32 l.1).length:=List.length_pos_iff.2 (spl_ne _ _)
    have hwl:=spl_len 32 l.1
    rw [← hws] at hsp hpos hwl
    have hbad:lineN l=none→pmd s=(noM,(a:Int)):=fun q=>by rw [q] at hgo;rw [hres,hgo];rfl
    have hN:lineN l=if l.2=true∧ws.getD 0 []=moveT∧ws.length=2 then (if isLet (ws.getD 1 []) then some (ws.getD 1 []) else none) else none:=by
      unfold lineN lineW
      rw [← hws]
      by_cases q:l.2=true∧ws.getD 0 []=moveT∧ws.length=1+1
      · rw [if_pos q,if_pos q]
        obtain ⟨u,v,rfl⟩:∃ u v,ws=[u,v]:=by
          match ws,q.2.2 with
          | [u,v],_=>exact ⟨u,v,rfl⟩
        rfl
      · rw [if_neg q,if_neg q]
    by_cases c1:ws.length=2
    case neg =>
      rw [hbad (by rw [hN,if_neg (fun q=>c1 q.2.2)])]
      simp -dsimp -implicitDefEqProofs (disch:=first|omega|(simp only [lenr];try omega)) only [↓amPre,↓reduceIte,reduceCtorEq,Nat.reduceEqDiff,Nat.reduceBEq,Nat.reduceAdd,Nat.reduceLeDiff,Nat.reduceSub,Nat.reduceMul,Int.reduceToNat,MM,bu0,cbJ1,cbJ16,f4,f5,f6,f8,f2,m2,f9,m8,lt_true hlt',← hlq]
      refine callP_frz hsp ?_
      simp -dsimp -implicitDefEqProofs (disch:=first|omega|(simp only [lenr];try omega)) only [↓amPre,↓reduceIte,reduceCtorEq,Nat.reduceEqDiff,Nat.reduceBEq,Nat.reduceAdd,Nat.reduceLeDiff,Nat.reduceSub,Nat.reduceMul,Int.reduceToNat,MM,bu0,cbJ1,cbJ16,f4,f5,f6,f8,f2,m2,f9,m8,stfz,ne_true (show ((ws.length:Nat):Int)≠2 by omega)]
      exact ⟨rfl,rfl,rfl⟩
    have c1':=ne_false (show ((ws.length:Nat):Int)=2 by omega)
    by_cases c2:ws.getD 0 []=moveT
    case neg =>
      rw [hbad (by rw [hN,if_neg (fun q=>c2 q.2.1)])]
      simp -dsimp -implicitDefEqProofs (disch:=first|omega|(simp only [lenr];try omega)) only [↓amPre,↓reduceIte,reduceCtorEq,Nat.reduceEqDiff,Nat.reduceBEq,Nat.reduceAdd,Nat.reduceLeDiff,Nat.reduceSub,Nat.reduceMul,Int.reduceToNat,MM,bu0,cbJ1,cbJ16,f4,f5,f6,f8,f2,m2,f9,m8,lt_true hlt',← hlq]
      refine callP_frz hsp ?_
      simp -dsimp -implicitDefEqProofs (disch:=first|omega|(simp only [lenr];try omega)) only [↓amPre,↓reduceIte,reduceCtorEq,Nat.reduceEqDiff,Nat.reduceBEq,Nat.reduceAdd,Nat.reduceLeDiff,Nat.reduceSub,Nat.reduceMul,Int.reduceToNat,MM,bu0,cbJ1,cbJ16,f4,f5,f6,f8,f2,m2,f9,m8,stfz,c1',(show (ws.getD 0 [] == [109,111,118,101])=false from txne c2)]
      exact ⟨rfl,rfl,rfl⟩
    have c2':(ws.getD 0 [] == [109,111,118,101])=true:=txeq c2
    obtain ⟨u,hu⟩:∃ u,u=ws.getD 1 []:=⟨_,rfl⟩
    rw [← hu] at hN
    have hlet:=letterS u
    by_cases c3:isLet u
    case neg =>
      rw [decide_eq_false c3] at hlet
      rw [hbad (by rw [hN];split <;> first | rfl | exact if_neg c3)]
      simp -dsimp -implicitDefEqProofs (disch:=first|omega|(simp only [lenr];try omega)) only [↓amPre,↓reduceIte,reduceCtorEq,Nat.reduceEqDiff,Nat.reduceBEq,Nat.reduceAdd,Nat.reduceLeDiff,Nat.reduceSub,Nat.reduceMul,Int.reduceToNat,MM,bu0,cbJ1,cbJ16,f4,f5,f6,f8,f2,m2,f9,m8,lt_true hlt',← hlq]
      refine callP_frz hsp ?_
      simp -dsimp -implicitDefEqProofs (disch:=first|omega|(simp only [lenr];try omega)) only [↓amPre,↓reduceIte,reduceCtorEq,Nat.reduceEqDiff,Nat.reduceBEq,Nat.reduceAdd,Nat.reduceLeDiff,Nat.reduceSub,Nat.reduceMul,Int.reduceToNat,MM,bu0,cbJ1,cbJ16,f4,f5,f6,f8,f2,m2,f9,m8,stfz,c1',c2',← hu]
      refine callP_of (hlet) ?_
      simp -dsimp -implicitDefEqProofs (disch:=first|omega|(simp only [lenr];try omega)) only [↓amPre,↓reduceIte,reduceCtorEq,Nat.reduceEqDiff,Nat.reduceBEq,Nat.reduceAdd,Nat.reduceLeDiff,Nat.reduceSub,Nat.reduceMul,Int.reduceToNat,MM,bu0,cbJ1,cbJ16,f4,f5,f6,f8,f2,m2,f9,m8]
      exact ⟨rfl,rfl,rfl⟩
    rw [decide_eq_true c3] at hlet
    by_cases c4:l.2=true
    case neg =>
      have hke:¬ a<endN L:=fun q=>c4 (hEk.2 q)
      rw [hbad (by rw [hN,if_neg (fun q=>c4 q.1)])]
      simp -dsimp -implicitDefEqProofs (disch:=first|omega|(simp only [lenr];try omega)) only [↓amPre,↓reduceIte,reduceCtorEq,Nat.reduceEqDiff,Nat.reduceBEq,Nat.reduceAdd,Nat.reduceLeDiff,Nat.reduceSub,Nat.reduceMul,Int.reduceToNat,MM,bu0,cbJ1,cbJ16,f4,f5,f6,f8,f2,m2,f9,m8,lt_true hlt',← hlq]
      refine callP_frz hsp ?_
      simp -dsimp -implicitDefEqProofs (disch:=first|omega|(simp only [lenr];try omega)) only [↓amPre,↓reduceIte,reduceCtorEq,Nat.reduceEqDiff,Nat.reduceBEq,Nat.reduceAdd,Nat.reduceLeDiff,Nat.reduceSub,Nat.reduceMul,Int.reduceToNat,MM,bu0,cbJ1,cbJ16,f4,f5,f6,f8,f2,m2,f9,m8,stfz,c1',c2',← hu]
      refine callP_of (hlet) ?_
      simp -dsimp -implicitDefEqProofs (disch:=first|omega|(simp only [lenr];try omega)) only [↓amPre,↓reduceIte,reduceCtorEq,Nat.reduceEqDiff,Nat.reduceBEq,Nat.reduceAdd,Nat.reduceLeDiff,Nat.reduceSub,Nat.reduceMul,Int.reduceToNat,MM,bu0,cbJ1,cbJ16,f4,f5,f6,f8,f2,m2,f9,m8,le_true (show ((endN L:Nat):Int)≤((a:Nat):Int) by omega)]
      exact ⟨rfl,rfl,rfl⟩
    have hke:=hEk.1 c4
    have hul1:u.length=1:=c3.1
    rw [if_pos ⟨c4,c2,c1⟩,if_pos c3] at hN
    rw [hN] at hgo
    dsimp only at hgo
    have htw:=twists_spec L ks (a+1) hL hE (by omega) (by omega) hkc
    have hcast:((a:Int)+1)=((a+1:Nat):Int):=by omega
    cases ht:twR L ks (a+1) with
    | error e =>
      rw [ht] at hgo htw
      have hg:=twS_good L ks (a+1)
      rw [ht] at hg
      have hres2:pmd s=(noM,e):=by rw [hres,hgo];rfl
      rw [hres2]
      simp -dsimp -implicitDefEqProofs (disch:=first|omega|(simp only [lenr];try omega)) only [↓amPre,↓reduceIte,reduceCtorEq,Nat.reduceEqDiff,Nat.reduceBEq,Nat.reduceAdd,Nat.reduceLeDiff,Nat.reduceSub,Nat.reduceMul,Int.reduceToNat,MM,bu0,cbJ1,cbJ16,f4,f5,f6,f8,f2,m2,f9,m8,lt_true hlt',← hlq]
      refine callP_frz hsp ?_
      simp -dsimp -implicitDefEqProofs (disch:=first|omega|(simp only [lenr];try omega)) only [↓amPre,↓reduceIte,reduceCtorEq,Nat.reduceEqDiff,Nat.reduceBEq,Nat.reduceAdd,Nat.reduceLeDiff,Nat.reduceSub,Nat.reduceMul,Int.reduceToNat,MM,bu0,cbJ1,cbJ16,f4,f5,f6,f8,f2,m2,f9,m8,stfz,c1',c2',← hu]
      refine callP_of (hlet) ?_
      simp -dsimp -implicitDefEqProofs (disch:=first|omega|(simp only [lenr];try omega)) only [↓amPre,↓reduceIte,reduceCtorEq,Nat.reduceEqDiff,Nat.reduceBEq,Nat.reduceAdd,Nat.reduceLeDiff,Nat.reduceSub,Nat.reduceMul,Int.reduceToNat,MM,bu0,cbJ1,cbJ16,f4,f5,f6,f8,f2,m2,f9,m8,le_false (show ((a:Nat):Int)<((endN L:Nat):Int) by omega),hcast]
      refine callP_of (htw) ?_
      simp -dsimp -implicitDefEqProofs (disch:=first|omega|(simp only [lenr];try omega)) only [↓amPre,↓reduceIte,reduceCtorEq,Nat.reduceEqDiff,Nat.reduceBEq,Nat.reduceAdd,Nat.reduceLeDiff,Nat.reduceSub,Nat.reduceMul,Int.reduceToNat,MM,bu0,cbJ1,cbJ16,f4,f5,f6,f8,f2,m2,f9,m8,stOf,ne_true hg.2]
      exact ⟨rfl,rfl,rfl⟩
    | ok t =>
      rw [ht] at hgo htw
      obtain ⟨h1,h2,h3⟩:=twR_ok ht hkn.1
      have hts:=tw_smallT ht hko
      rw [prA_even ks.length _ h2,← h1] at htw
      have htl:t.length=ks.length:=by rw [h1];exact pr_len _ _ h2
      have hw2:IntKind.i64.wrap (2*((ks.length:Nat):Int))=((2*ks.length:Nat):Int):=by rw [wrap64_id (by omega)];omega
      have hw3:IntKind.i64.wrap (((a+1:Nat):Int)+((2*ks.length:Nat):Int))=((a+1+2*ks.length:Nat):Int):=by rw [wrap64_id (by omega)];omega
      simp -dsimp -implicitDefEqProofs (disch:=first|omega|(simp only [lenr];try omega)) only [↓amPre,↓reduceIte,reduceCtorEq,Nat.reduceEqDiff,Nat.reduceBEq,Nat.reduceAdd,Nat.reduceLeDiff,Nat.reduceSub,Nat.reduceMul,Int.reduceToNat,MM,bu0,cbJ1,cbJ16,f4,f5,f6,f8,f2,m2,f9,m8,lt_true hlt',← hlq]
      refine callP_frz hsp ?_
      simp -dsimp -implicitDefEqProofs (disch:=first|omega|(simp only [lenr];try omega)) only [↓amPre,↓reduceIte,reduceCtorEq,Nat.reduceEqDiff,Nat.reduceBEq,Nat.reduceAdd,Nat.reduceLeDiff,Nat.reduceSub,Nat.reduceMul,Int.reduceToNat,MM,bu0,cbJ1,cbJ16,f4,f5,f6,f8,f2,m2,f9,m8,stfz,c1',c2',← hu]
      refine callP_of (hlet) ?_
      simp -dsimp -implicitDefEqProofs (disch:=first|omega|(simp only [lenr];try omega)) only [↓amPre,↓reduceIte,reduceCtorEq,Nat.reduceEqDiff,Nat.reduceBEq,Nat.reduceAdd,Nat.reduceLeDiff,Nat.reduceSub,Nat.reduceMul,Int.reduceToNat,MM,bu0,cbJ1,cbJ16,f4,f5,f6,f8,f2,m2,f9,m8,le_false (show ((a:Nat):Int)<((endN L:Nat):Int) by omega),hcast]
      refine callP_of (htw) ?_
      simp -dsimp -implicitDefEqProofs (disch:=first|omega|(simp only [lenr];try omega)) only [↓amPre,↓reduceIte,reduceCtorEq,Nat.reduceEqDiff,Nat.reduceBEq,Nat.reduceAdd,Nat.reduceLeDiff,Nat.reduceSub,Nat.reduceMul,Int.reduceToNat,MM,bu0,cbJ1,cbJ16,f4,f5,f6,f8,f2,m2,f9,m8,stOf,ne_false (rfl:(-1:Int) = -1),htl]
      refine split_go 5 (by decide +kernel) ?_
      simp -dsimp -implicitDefEqProofs (disch:=first|omega|(simp only [lenr];try omega)) only [↓amPre,↓reduceIte,reduceCtorEq,Nat.reduceEqDiff,Nat.reduceBEq,Nat.reduceAdd,Nat.reduceLeDiff,Nat.reduceSub,Nat.reduceMul,Int.reduceToNat,MM,bu0,cbJ1,cbJ16,f4,f5,f6,f8,f2,m2,f9,m8,htl,hml,← hu,hcast,hw2,hw3]
      refine ⟨by omega,by omega,a+1+2*ks.length,nm++u,mv++[t],rfl,rfl,by omega,by omega,by rw [List.length_append,hnl,hul1],by rw [List.length_append,hml];rfl,fun y hy=>?_,?_⟩
      · rcases List.mem_append.1 hy with hy | hy
        · exact hmn y hy
        · rw [List.mem_singleton.1 hy];exact hts
      · rw [hgo,show L.length+1 - (k+1)=L.length - k by omega]
  · have hae:a=L.length:=by omega
    subst hae
    have hltz:=lt_false (Int.le_refl ((L.length:Nat):Int))
    rw [if_pos (Nat.le_refl _)] at hgo
    by_cases hmz:mv=[]
    · subst hmz
      rw [if_pos rfl] at hgo
      have hres2:pmd s=(noM,-3):=by rw [hres,hgo];rfl
      rw [hres2]
      simp -dsimp -implicitDefEqProofs (disch:=first|omega|(simp only [lenr];try omega)) only [↓amPre,↓reduceIte,reduceCtorEq,Nat.reduceEqDiff,Nat.reduceBEq,Nat.reduceAdd,Nat.reduceLeDiff,Nat.reduceSub,Nat.reduceMul,Int.reduceToNat,MM,bu0,cbJ1,cbJ16,f4,f5,f6,f8,f2,m2,f9,m8,hltz]
      exact ⟨rfl,rfl,rfl⟩
    · rw [if_neg hmz] at hgo
      have hmp:0<mv.length:=List.length_pos_iff.2 hmz
      have hmz2:((mv.length:Nat):Int)≠0:=by omega
      have hsm:smallM ⟨ks,nm,mv⟩:=⟨by show ks.length≤_;omega,by show nm.length≤_;omega,by show mv.length≤_;omega,hmn⟩
      have hP:=sIsValidPieceModel ⟨ks,nm,mv⟩ hsm
      by_cases c9:modelOk ⟨ks,nm,mv⟩
      · have hres2:pmd s=(⟨ks,nm,mv⟩,-1):=by
          rw [hres,hgo];show outP noM (if modelOk ⟨ks,nm,mv⟩ then _ else _)=_;rw [if_pos c9];rfl
        rw [decide_eq_true c9] at hP
        rw [hres2]
        simp -dsimp -implicitDefEqProofs (disch:=first|omega|(simp only [lenr];try omega)) only [↓amPre,↓reduceIte,reduceCtorEq,Nat.reduceEqDiff,Nat.reduceBEq,Nat.reduceAdd,Nat.reduceLeDiff,Nat.reduceSub,Nat.reduceMul,Int.reduceToNat,MM,bu0,cbJ1,cbJ16,f4,f5,f6,f8,f2,m2,f9,m8,hltz,eq_false hmz2,tssfz]
        refine callP_of (hP) ?_
        simp -dsimp -implicitDefEqProofs (disch:=first|omega|(simp only [lenr];try omega)) only [↓amPre,↓reduceIte,reduceCtorEq,Nat.reduceEqDiff,Nat.reduceBEq,Nat.reduceAdd,Nat.reduceLeDiff,Nat.reduceSub,Nat.reduceMul,Int.reduceToNat,MM,bu0,cbJ1,cbJ16,f4,f5,f6,f8,f2,m2,m8,tssfz]
      · have hres2:pmd s=(noM,-4):=by
          rw [hres,hgo];show outP noM (if modelOk ⟨ks,nm,mv⟩ then _ else _)=_;rw [if_neg c9];rfl
        rw [decide_eq_false c9] at hP
        rw [hres2]
        simp -dsimp -implicitDefEqProofs (disch:=first|omega|(simp only [lenr];try omega)) only [↓amPre,↓reduceIte,reduceCtorEq,Nat.reduceEqDiff,Nat.reduceBEq,Nat.reduceAdd,Nat.reduceLeDiff,Nat.reduceSub,Nat.reduceMul,Int.reduceToNat,MM,bu0,cbJ1,cbJ16,f4,f5,f6,f8,f2,m2,f9,m8,hltz,eq_false hmz2,tssfz]
        refine callP_of (hP) ?_
        simp -dsimp -implicitDefEqProofs (disch:=first|omega|(simp only [lenr];try omega)) only [↓amPre,↓reduceIte,reduceCtorEq,Nat.reduceEqDiff,Nat.reduceBEq,Nat.reduceAdd,Nat.reduceLeDiff,Nat.reduceSub,Nat.reduceMul,Int.reduceToNat,MM,bu0,cbJ1,cbJ16,f4,f5,f6,f8,f2,m2,m8,tssfz]
        exact ⟨rfl,rfl,rfl⟩
end Ps
end Go.AM
namespace Go.AM
/-! the effect of a word;the points that it moves -/
def letP (mv:List (List Int)) (x:Int):List Int:=if 0<x then mv.getD (x - 1).toNat default else invI (mv.getD (-x - 1).toNat default)
def effK (n:Int) (mv:List (List Int)) (w:List Int):Nat→List Int
  | 0=>runI 0 n.toNat
  | k+1=>compI (effK n mv w k) (letP mv (w.getD k 0))
def movL (p:List Int) (k:Nat):List Int:=((List.range k).filter fun i=>p.getD i 0 != (i:Int)).map fun (i:Nat)=>(i:Int)
def imgL (p:List Int) (k:Nat):List Int:=((List.range k).filter fun i=>p.getD i 0 != (i:Int)).map fun i=>p.getD i 0
end Go.AM
set_option maxRecDepth 8000
namespace Go.AM
open Go.Proofs
def supR (p:Puzz) (w:List Int):List Int:=if puzzOk p∧wordOk p.mv.length w then movL (effK p.n p.mv w w.length) p.n.toNat else []
end Go.AM
set_option maxRecDepth 8000
namespace Go.AM
open Go.Proofs
def canScr (p:Puzz) (x c:Int):Prop:=puzzOk p∧within x 0 2147483646=true∧within c 0 200=true
instance (p:Puzz) (x c:Int):Decidable (canScr p x c):=by unfold canScr;infer_instance
def scrR (p:Puzz) (x c:Int):List Int:=if canScr p x c then scrW p.mv.length x c.toNat else []
end Go.AM
set_option maxRecDepth 8000
namespace Go.AM
open Go.Proofs
def pwL (e:List Int) (k:Nat):List Int:=(List.range e.length).map fun x=>((itN (fOf e) k x:Nat):Int)
def lcmK (L:List (List Int)):Nat→Nat
  | 0=>1
  | j+1=>Nat.lcm (lcmK L j) (L.getD j default).length
def ordE (e:List Int):Nat:=lcmK (longC (cycI e)) (longC (cycI e)).length
def spK (e:List Int):Nat→Nat×Nat
  | 0=>(0,0)
  | j+1=>if (spK e j).1=0∨(movL (pwL e (j+1)) e.length).length<(spK e j).2 then (j+1,(movL (pwL e (j+1)) e.length).length) else spK e j
end Go.AM
set_option maxRecDepth 8000
namespace Go.AM
open Go.Proofs
def treeGcd:OT:=(.alt 0 (.alt 1 (.alt 2 (.alt 3 (.alt 4 (.alt 5 .done .stop) .stop) (.alt 4 (.alt 3 (.alt 5 .done .stop) .stop) .stop)) (.alt 4 (.alt 2 (.alt 3 (.alt 5 .done .stop) .stop) .stop) .stop)) (.alt 2 (.alt 1 (.alt 3 (.alt 4 (.alt 5 .done .stop) .stop) (.alt 4 (.alt 3 (.alt 5 .done .stop) .stop) .stop)) .stop) .stop)) (.alt 1 (.alt 0 (.alt 2 (.alt 3 (.alt 4 (.alt 5 .done .stop) .stop) (.alt 4 (.alt 3 (.alt 5 .done .stop) .stop) .stop)) (.alt 4 (.alt 2 (.alt 3 (.alt 5 .done .stop) .stop) .stop) .stop)) (.alt 2 (.alt 0 (.alt 3 (.alt 4 (.alt 5 .done .stop) .stop) (.alt 4 (.alt 3 (.alt 5 .done .stop) .stop) .stop)) (.alt 3 (.alt 0 (.alt 4 (.alt 5 .done .stop) .stop) .stop) .stop)) .stop)) (.alt 2 (.alt 0 (.alt 1 (.alt 3 (.alt 4 (.alt 5 .done .stop) .stop) (.alt 4 (.alt 3 (.alt 5 .done .stop) .stop) .stop)) .stop) (.alt 1 (.alt 0 (.alt 3 (.alt 4 (.alt 5 .done .stop) .stop) (.alt 4 (.alt 3 (.alt 5 .done .stop) .stop) .stop)) (.alt 3 (.alt 0 (.alt 4 (.alt 5 .done .stop) .stop) .stop) .stop)) .stop)) .stop)))
def gcK (a b:Nat):Nat→Nat×Nat
  | 0=>(a,b)
  | k+1=>((gcK a b k).2,(gcK a b k).1 % (gcK a b k).2)
end Go.AM
set_option maxRecDepth 8000
namespace Go.AM
open Go.Proofs
def spR (p:Puzz) (w:List Int):Nat×Nat:=if puzzOk p∧wordOk p.mv.length w then spK (effK p.n p.mv w w.length) (ordE (effK p.n p.mv w w.length) - 1) else (0,0)
abbrev spA (x:Nat×Nat):AV:=.tup [.i64 x.1,.i64 x.2]
end Go.AM
set_option maxRecDepth 8000
namespace Go.AM
open Go.Proofs
def pwK (p:List Int) (k i:Nat):List Int:=(List.range i).map fun x=>((itN (fOf p) k x:Nat):Int)
end Go.AM
set_option maxRecDepth 8000
namespace Go.AM
open Go.Proofs
def scrS (p:Puzz) (x c:Int):List Int:=if canScr p x c then effK p.n p.mv (scrR p x c) (scrR p x c).length else []
end Go.AM
set_option maxRecDepth 8000
namespace Go.AM
open Go.Proofs
theorem keyB_str (s:ByteArray):keyB true (.string s)=true:=rfl
theorem keyB_int (n:Int):keyB false (.int .i64 n)=true:=rfl
def cbU49:=(ai (cbP9) (ai (@keyB_str) (@keyB_int)))

end Go.AM
set_option maxRecDepth 8000
namespace Go.AM
open Go.Proofs
def MF:FuncId→List Bool:=fun f=>if f=4294967295 then [true] else MM f
def cmpP (m:Model):Puzz:=⟨facets m.ks,m.nm,m.mv.map (permOf m.ks)⟩
def cmpR (m:Model):Puzz:=if modelOk m then cmpP m else ⟨0,[],[]⟩
end Go.AM
set_option maxRecDepth 8000
namespace Go.AM
open Go.Proofs
open Ps (ppz pmd pst)
theorem heldTwistSS (l:List (List Twist)) (k:Int) (h0:0≤k) (h1:k+cnts l≤1099511627776) (hl:smallTS l):SpecAt Tryz.prog 64 [tssl (mks k l),.i64 k] (.i64 (k+cnts l)):=by
  have hl0:=hl.1
  refine spec_of_awp (M:=MM) (np:=2) (fz:=true) mixed Tryz.func64 rfl rfl (by decide) rfl (Nat.le_refl _) (by decide +kernel) (.inr ⟨rfl,rfl⟩) trivial ?_
  simp -dsimp -implicitDefEqProofs (disch:=first|omega|(simp only [lenr];try omega)) only [↓amPre,↓reduceIte,reduceCtorEq,Nat.reduceEqDiff,Nat.reduceBEq,Nat.reduceAdd,Nat.reduceLeDiff,Nat.reduceSub,Nat.reduceMul,Int.reduceToNat,MM,bu0,cbJ1,cbJ16,cbU49,MF]
  have hr:=mks_len k l
  refine awp_loop (fun j st=>j≤l.length∧st.fr 5=.i64 j∧st.fr 1=.i64 (k+cnts (l.take j))∧st.fr 0=tssl (mks k l)) (l.length) ?_ ?_
  · simp -dsimp -implicitDefEqProofs (disch:=first|omega|(simp only [lenr];try omega)) only [↓amPre,↓reduceIte,reduceCtorEq,Nat.reduceEqDiff,Nat.reduceBEq,Nat.reduceAdd,Nat.reduceLeDiff,Nat.reduceSub,Nat.reduceMul,Int.reduceToNat,MM,bu0,cbJ1,cbJ16,cbU49,MF]
    simp [cnts]
  rintro j st _ ⟨hj,f5,f1,f0⟩
  by_cases hlt:j<l.length
  · have hg:=mks_get k l j hlt
    have ec:Mk.mrk (k+cnts (l.take j)) (l.getD j default)=mks (k+cnts (l.take j)) (l.getD j default):=rfl
    have ec2:Mk.cnt (l.getD j default)=cnts (l.getD j default):=rfl
    rw [ec] at hg
    have ct:=cnts_take l j hlt
    have cl:=cnts_le1 l j hlt
    rw [ec2] at ct cl
    simp -dsimp -implicitDefEqProofs (disch:=first|omega|(simp only [lenr];try omega)) only [↓amPre,↓reduceIte,reduceCtorEq,Nat.reduceEqDiff,Nat.reduceBEq,Nat.reduceAdd,Nat.reduceLeDiff,Nat.reduceSub,Nat.reduceMul,Int.reduceToNat,MM,bu0,cbJ1,cbJ16,cbU49,MF,f5,f1,f0,hr,hg]
    refine callP_of (heldTwistS (l.getD j default) (k+cnts (l.take j)) (by omega) (by omega) (hl.2 _ (mem_getD l j default hlt)).1) ?_
    simp -dsimp -implicitDefEqProofs (disch:=first|omega|(simp only [lenr];try omega)) only [↓amPre,↓reduceIte,reduceCtorEq,Nat.reduceEqDiff,Nat.reduceBEq,Nat.reduceAdd,Nat.reduceLeDiff,Nat.reduceSub,Nat.reduceMul,Int.reduceToNat,MM,bu0,cbJ1,cbJ16,cbU49,MF,f5,f1,f0,hr,hg]
    repeat' (first|omega|rfl|exact i64c (by omega)|exact vic (by omega)|apply ai)
  · have hj':j=l.length:=by omega
    subst hj'
    simp -dsimp -implicitDefEqProofs (disch:=first|omega|(simp only [lenr];try omega)) only [↓amPre,↓reduceIte,reduceCtorEq,Nat.reduceEqDiff,Nat.reduceBEq,Nat.reduceAdd,Nat.reduceLeDiff,Nat.reduceSub,Nat.reduceMul,Int.reduceToNat,MM,bu0,cbJ1,cbJ16,cbU49,MF,f5,f1,f0,hr,List.take_length]
theorem markPieceModelX (m:Model) (k:Int) (h0:0≤k) (h1:k+2*m.ks.length+cnts m.mv≤1099511627776) (h:smallM m):SpecX Tryz.prog 18 [m.tr,.i64 k] [some (Model.tr ⟨mks k m.ks,m.nm,mks (k+2*m.ks.length) m.mv⟩)] (.i64 (k+2*m.ks.length+cnts m.mv)):=by
  refine spec_of_awp (M:=MF) (np:=2) (fz:=false) mixed Tryz.func18 rfl rfl (by decide) rfl (Nat.le_refl _) (by decide +kernel) (.inl rfl) (by simp only [sigsOk_some,sigsOk_nil,and_true,Model.tr,sig_agg,List.map_cons,List.map_nil,sig1_v,sig1_tr,List.length_map,mks_len]) ?_
  simp -dsimp -implicitDefEqProofs (disch:=first|omega|(simp only [lenr];try omega)) only [↓amPre,↓reduceIte,reduceCtorEq,Nat.reduceEqDiff,Nat.reduceBEq,Nat.reduceAdd,Nat.reduceLeDiff,Nat.reduceSub,Nat.reduceMul,Int.reduceToNat,MM,bu0,cbJ1,cbJ16,cbU49,MF]
  refine callX_of (markKindS m.ks _ h0 (by omega) h.1) ?_
  simp -dsimp -implicitDefEqProofs (disch:=first|omega|(simp only [lenr];try omega)) only [↓amPre,↓reduceIte,reduceCtorEq,Nat.reduceEqDiff,Nat.reduceBEq,Nat.reduceAdd,Nat.reduceLeDiff,Nat.reduceSub,Nat.reduceMul,Int.reduceToNat,MM,bu0,cbJ1,cbJ16,cbU49,MF,mks_len]
  refine callX_of (markTwistSS m.mv _ (by omega) (by omega) h.2.2) ?_
  simp -dsimp -implicitDefEqProofs (disch:=first|omega|(simp only [lenr];try omega)) only [↓amPre,↓reduceIte,reduceCtorEq,Nat.reduceEqDiff,Nat.reduceBEq,Nat.reduceAdd,Nat.reduceLeDiff,Nat.reduceSub,Nat.reduceMul,Int.reduceToNat,MM,bu0,cbJ1,cbJ16,cbU49,MF,mks_len]
theorem heldPieceModel (m:Model) (k:Int) (h0:0≤k) (h1:k+2*m.ks.length+cnts m.mv≤1099511627776) (h:smallM m):SpecAt Tryz.prog 19 [Model.sl ⟨mks k m.ks,m.nm,mks (k+2*m.ks.length) m.mv⟩,.i64 k] (.i64 (k+2*m.ks.length+cnts m.mv)):=by
  refine spec_of_awp (M:=MM) (np:=2) (fz:=true) mixed Tryz.func19 rfl rfl (by decide) rfl (Nat.le_refl _) (by decide +kernel) (.inr ⟨rfl,rfl⟩) trivial ?_
  simp -dsimp -implicitDefEqProofs (disch:=first|omega|(simp only [lenr];try omega)) only [↓amPre,↓reduceIte,reduceCtorEq,Nat.reduceEqDiff,Nat.reduceBEq,Nat.reduceAdd,Nat.reduceLeDiff,Nat.reduceSub,Nat.reduceMul,Int.reduceToNat,MM,bu0,cbJ1,cbJ16,cbU49,MF]
  refine callP_of (heldKindS m.ks _ h0 (by omega) h.1) ?_
  have hn:¬ k+2*(m.ks.length:Int)<0:=by omega
  simp -dsimp -implicitDefEqProofs (disch:=first|omega|(simp only [lenr];try omega)) only [↓amPre,↓reduceIte,reduceCtorEq,Nat.reduceEqDiff,Nat.reduceBEq,Nat.reduceAdd,Nat.reduceLeDiff,Nat.reduceSub,Nat.reduceMul,Int.reduceToNat,MM,bu0,cbJ1,cbJ16,cbU49,MF,hn]
  refine callP_of (heldTwistSS m.mv _ (by omega) (by omega) h.2.2) ?_
  have hn:¬ k+2*(m.ks.length:Int)+cnts m.mv<0:=by omega
  simp -dsimp -implicitDefEqProofs (disch:=first|omega|(simp only [lenr];try omega)) only [↓amPre,↓reduceIte,reduceCtorEq,Nat.reduceEqDiff,Nat.reduceBEq,Nat.reduceAdd,Nat.reduceLeDiff,Nat.reduceSub,Nat.reduceMul,Int.reduceToNat,MM,bu0,cbJ1,cbJ16,cbU49,MF,hn]
theorem ps_cnt {ks:List Kind} {s:List Twist} (h:psOk ks s):smallT s∧s.length≤3∧cnts s≤120:=by
  have hk:=h.1.1
  have hl:=h.2.1
  have ht:∀ t∈s,t.to.length≤20∧t.by'.length≤20:=fun t ht=>by
    obtain ⟨i,hi,rfl⟩:=List.getElem_of_mem ht
    have h1:=h.2.2 i (by omega)
    rw [getD_eq _ _ _ hi] at h1
    have h2:=kindsOk_kind h.1 (mem_getD ks i default (by omega))
    have:=h1.1;have:=h1.2.1
    omega
  have hc:=cnts_bound s 40 fun t h2=>by have:=ht t h2;show t.to.length+t.by'.length≤40;omega
  exact ⟨⟨by omega,fun t h2=>by have:=ht t h2;omega⟩,by omega,by omega⟩
theorem pmd_small (s:List UInt8):smallM (pmd s).1∧(pmd s).1.ks.length≤3∧cnts (pmd s).1.mv≤960:=by
  rcases Ps.pmd_cases s with ⟨m,hm,_,ok⟩ | ⟨e,he,_⟩
  · rw [hm]
    have h1:=ok.1.1
    have h2:=ok.2.1.2
    have h3:=ok.2.2.1
    have h4:∀ x∈m.mv,smallT x∧x.length≤3∧cnts x≤120:=fun x hx=>ps_cnt (ok.2.2.2 x hx)
    have hc:=cnts_bound m.mv 120 fun x hx=>(h4 x hx).2.2
    refine ⟨⟨by show m.ks.length≤_;omega,by show m.nm.length≤_;omega,by show m.mv.length≤_;omega,fun x hx=>(h4 x hx).1⟩,h1.2,?_⟩
    show cnts m.mv≤960
    omega
  · rw [he]
    exact ⟨⟨by simp [Ps.noM],by simp [Ps.noM],by simp [Ps.noM],fun s hs=>by cases hs⟩,by simp [Ps.noM],by simp [Ps.noM,cnts]⟩
theorem lawParseModel (s:List UInt8):SpecAt Tryz.prog 4 [.st s] (.bl true):=by
  refine spec_of_awp (M:=MM) (np:=1) (fz:=true) mixed Tryz.func4 rfl rfl (by decide) rfl (Nat.le_refl _) (by decide +kernel) (.inr ⟨rfl,rfl⟩) trivial ?_
  by_cases c:(1048576:Int)<((s.length:Nat):Int)
  · simp -dsimp -implicitDefEqProofs (disch:=first|omega|(simp only [lenr];try omega)) only [↓amPre,↓reduceIte,reduceCtorEq,Nat.reduceEqDiff,Nat.reduceBEq,Nat.reduceAdd,Nat.reduceLeDiff,Nat.reduceSub,Nat.reduceMul,Int.reduceToNat,MM,bu0,cbJ1,cbJ16,cbU49,MF,lt_true c]
  obtain ⟨hr,hk,hc⟩:=pmd_small s
  have q1:=Ps.parseModelS s (by omega)
  have q2:=Ps.parseModelI s (by omega)
  generalize (pmd s).1=r at *
  generalize (pmd s).2=b at *
  have hrf:Model.sl ⟨r.ks,r.nm,r.mv⟩=r.sl:=rfl
  simp -dsimp -implicitDefEqProofs (disch:=first|omega|(simp only [lenr];try omega)) only [↓amPre,↓reduceIte,reduceCtorEq,Nat.reduceEqDiff,Nat.reduceBEq,Nat.reduceAdd,Nat.reduceLeDiff,Nat.reduceSub,Nat.reduceMul,Int.reduceToNat,MM,bu0,cbJ1,cbJ16,cbU49,MF,lt_false (Int.not_lt.1 c)]
  refine callP_of (q1) ?_
  simp -dsimp -implicitDefEqProofs (disch:=first|omega|(simp only [lenr];try omega)) only [↓amPre,↓reduceIte,reduceCtorEq,Nat.reduceEqDiff,Nat.reduceBEq,Nat.reduceAdd,Nat.reduceLeDiff,Nat.reduceSub,Nat.reduceMul,Int.reduceToNat,MM,bu0,cbJ1,cbJ16,cbU49,MF,kfz,tssfz,mks_len,bne_self_eq_false]
  refine callP_of (q2) ?_
  simp -dsimp -implicitDefEqProofs (disch:=first|omega|(simp only [lenr];try omega)) only [↓amPre,↓reduceIte,reduceCtorEq,Nat.reduceEqDiff,Nat.reduceBEq,Nat.reduceAdd,Nat.reduceLeDiff,Nat.reduceSub,Nat.reduceMul,Int.reduceToNat,MM,bu0,cbJ1,cbJ16,cbU49,MF,kfz,tssfz,mks_len,bne_self_eq_false]
  refine callP_of (eqPieceModel r r hr) ?_
  simp -dsimp -implicitDefEqProofs (disch:=first|omega|(simp only [lenr];try omega)) only [↓amPre,↓reduceIte,reduceCtorEq,Nat.reduceEqDiff,Nat.reduceBEq,Nat.reduceAdd,Nat.reduceLeDiff,Nat.reduceSub,Nat.reduceMul,Int.reduceToNat,MM,bu0,cbJ1,cbJ16,cbU49,MF,kfz,tssfz,mks_len,bne_self_eq_false]
  refine callX_of (markPieceModelX r 1 (by omega) (by omega) hr) ?_
  simp -dsimp -implicitDefEqProofs (disch:=first|omega|(simp only [lenr];try omega)) only [↓amPre,↓reduceIte,reduceCtorEq,Nat.reduceEqDiff,Nat.reduceBEq,Nat.reduceAdd,Nat.reduceLeDiff,Nat.reduceSub,Nat.reduceMul,Int.reduceToNat,MM,bu0,cbJ1,cbJ16,cbU49,MF,kfz,tssfz,mks_len,bne_self_eq_false]
  refine callP_of (heldPieceModel r 1 (by omega) (by omega) hr) ?_
  simp -dsimp -implicitDefEqProofs (disch:=first|omega|(simp only [lenr];try omega)) only [↓amPre,↓reduceIte,reduceCtorEq,Nat.reduceEqDiff,Nat.reduceBEq,Nat.reduceAdd,Nat.reduceLeDiff,Nat.reduceSub,Nat.reduceMul,Int.reduceToNat,MM,bu0,cbJ1,cbJ16,cbU49,MF,kfz,tssfz,mks_len,bne_self_eq_false]
  refine callP_of (q2) ?_
  simp -dsimp -implicitDefEqProofs (disch:=first|omega|(simp only [lenr];try omega)) only [↓amPre,↓reduceIte,reduceCtorEq,Nat.reduceEqDiff,Nat.reduceBEq,Nat.reduceAdd,Nat.reduceLeDiff,Nat.reduceSub,Nat.reduceMul,Int.reduceToNat,MM,bu0,cbJ1,cbJ16,cbU49,MF,kfz,tssfz,mks_len,bne_self_eq_false]
  refine callP_of (eqPieceModel r r hr) ?_
  simp -dsimp -implicitDefEqProofs (disch:=first|omega|(simp only [lenr];try omega)) only [↓amPre,↓reduceIte,reduceCtorEq,Nat.reduceEqDiff,Nat.reduceBEq,Nat.reduceAdd,Nat.reduceLeDiff,Nat.reduceSub,Nat.reduceMul,Int.reduceToNat,MM,bu0,cbJ1,cbJ16,cbU49,MF,kfz,tssfz,mks_len,bne_self_eq_false]
  refine callP_of (heldPieceModel r 1 (by omega) (by omega) hr) ?_
  simp -dsimp -implicitDefEqProofs (disch:=first|omega|(simp only [lenr];try omega)) only [↓amPre,↓reduceIte,reduceCtorEq,Nat.reduceEqDiff,Nat.reduceBEq,Nat.reduceAdd,Nat.reduceLeDiff,Nat.reduceSub,Nat.reduceMul,Int.reduceToNat,MM,bu0,cbJ1,cbJ16,cbU49,MF,kfz,tssfz,mks_len,bne_self_eq_false]
end Go.AM
