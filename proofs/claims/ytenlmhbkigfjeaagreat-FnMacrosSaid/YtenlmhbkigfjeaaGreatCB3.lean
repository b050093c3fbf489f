/-
  CONTRACTS of functions of the program,and what they compute,by content.
-/
import Derived.Test.YtenlmhbkigfjeaaGreatCB2
set_option linter.unusedVariables false
set_option linter.unusedSimpArgs false
set_option maxRecDepth 8000
namespace Go.AM
namespace Dm
open Go.Proofs
open Dice (Dc dF dS dX bsl dbig droll rlK w9Puzzle5 dbelow w9Word4)
open Dw (few mac_one mac_law mac_least mac_conj)
open Wo (sR_fin fmP iFindMacros sDistance)
open Ck (stN)
open Sr (sR sR_yes sR_ok sR_len ssR iSmallSup)
open Bf (Ex ltr wdE dOf fmT)
open Ch (PN cst cst_len)
def MM:FuncId→List Bool:=fun f=>if f=18 then [true,false] else if f=26 then [true,false,false] else if f=17 then [true] else []
theorem lawMacros (l:List UInt8) (w:l.length≤9223372036854775807):SpecAt Tryz.prog 4 [bsl l] (.bl true):=by
  have qb:=dbig l
  by_cases c:(4096:Int)<l.length
  · refine spec_of_awp_any (M:=MM) (np:=1) (X:=[19]) (fz:=true) mixed Tryz.func4 rfl rfl (by decide) rfl (Nat.le_refl _) (by decide +kernel) (.inr ⟨rfl,rfl⟩) trivial ?_
    simp -dsimp -implicitDefEqProofs (disch:=first | omega | (simp only [lenr];try omega)) only [↓amPre,amAll,↓reduceIte,reduceCtorEq,Nat.reduceEqDiff,Nat.reduceBEq,Nat.reduceAdd,Nat.reduceLeDiff,Nat.reduceSub,Nat.reduceMul,Int.reduceToNat,List.size_toArray,tyF,MM,bu0,cbU49]
    refine callP_of (qb) ?_
    simp -dsimp -implicitDefEqProofs (disch:=first | omega | (simp only [lenr];try omega)) only [↓amPre,amAll,↓reduceIte,reduceCtorEq,Nat.reduceEqDiff,Nat.reduceBEq,Nat.reduceAdd,Nat.reduceLeDiff,Nat.reduceSub,Nat.reduceMul,Int.reduceToNat,List.size_toArray,tyF,MM,bu0,cbU49,decide_eq_true c]
  rw [decide_eq_false c] at qb
  have q0:=droll l 1120 (by omega)
  have k0:(⟨l,0,rlK l 1120 l.length⟩:Dc).ok:=⟨by show l.length≤4096;omega,Nat.zero_le _⟩
  generalize (⟨l,0,rlK l 1120 l.length⟩:Dc)=d0 at q0 k0
  obtain ⟨d1,p,q1,k1,hd,hsp,hp2,hp5⟩:=w9Puzzle5 d0 k0
  obtain ⟨d2,x,q2,k2,hx0,hx3⟩:=dbelow d1 3 k1 (by omega)
  obtain ⟨d3,wd,q9,k3,hwl,hwx⟩:=w9Word4 d2 k2
  have hf:=few hd hp5
  have hs:1≤stN p∧stN p≤3000:=by omega
  have hw:wordOk p.mv.length wd:=⟨by omega,fun y hy=>by have:=hwx y hy;unfold letOk;omega⟩
  have hwxx:IntKind.i64.wrap (2+x)=2+x:=wrap64_id (by omega)
  have q3:=iFindMacros p 3 (2+x) hsp
  have q8:=iSmallSup p hsp
  obtain ⟨a1,a2,a3⟩:=mac_law hd hp5 (ms:=2+x) (by omega)
  have hok:=sR_ok hd
  rw [a1] at q3
  obtain ⟨pn,nm,mv⟩:=p
  have hn:=hd.1.1
  obtain ⟨n,rfl⟩:∃ n:Nat,pn=n:=⟨pn.toNat,by dsimp only at hn;omega⟩
  have hall:∀ t∈(fmP ⟨n,nm,mv⟩ 3 (2+x)).1,(t.by'.length:Int)≤2+x∧t.to.length≤3∧t.by'.length≤20∧∃ s,SpecAt Tryz.prog 20 [.i64 n,ssl mv,isl t.to] (.tup [itr s,.bl true])∧SpecAt Tryz.prog 21 [(⟨n,nm,mv⟩:Puzz).sl,t.sl] (.bl true)∧SpecAt Tryz.prog 22 [(⟨n,nm,mv⟩:Puzz).sl,t.sl] (.bl true)∧SpecAt Tryz.prog 23 [(⟨n,nm,mv⟩:Puzz).sl,isl s] (.i64 t.to.length):=by
    intro t ht
    obtain ⟨k,b1,b2,b3,b4,ht2⟩:=a3 t ht
    have hm:=mac_one hd hs b1 b2 (by omega)
    rw [← ht2] at hm
    obtain ⟨c1,c2,c3,c4,c5,c6⟩:=hm
    have hv:∀ y∈t.to,intOk y:=fun y hy=>by have:=c1.2 y hy;unfold letOk at this;unfold intOk;omega
    refine ⟨b4,by omega,by omega,_,sEvalWord n mv t.to hd.1 hsp.2.2 c1 hv,?_,?_,?_⟩
    · have:=sIsMacro ⟨n,nm,mv⟩ t hsp (by omega) (by omega) hv
      rwa [decide_eq_true c4] at this
    · have:=iIsMacro ⟨n,nm,mv⟩ t hsp (by omega) (by omega)
      rwa [decide_eq_true c4] at this
    · have:=sDistance ⟨n,nm,mv⟩ _ hsp hs (mem_getD _ k default b2)
      rw [c5,← c2] at this
      dsimp only at c3
      rw [c3]
      exact this
  have hlast:∀ t∈(fmP ⟨n,nm,mv⟩ 3 (2+x)).1,(2≤ssR ⟨n,nm,mv⟩∧ssR ⟨n,nm,mv⟩≤(t.by'.length:Int))∧∃ y:Twist,y.by'.length=t.by'.length∧SpecAt Tryz.prog 25 [(⟨n,nm,mv⟩:Puzz).sl,t.sl,isl wd] (.tup [y.tr,.bl true])∧SpecAt Tryz.prog 21 [(⟨n,nm,mv⟩:Puzz).sl,y.sl] (.bl true):=by
    intro t ht
    obtain ⟨k,b1,b2,b3,b4,ht2⟩:=a3 t ht
    have hm:=mac_one hd hs b1 b2 (by omega)
    have hle:=mac_least hd hs b1 b2
    rw [← ht2] at hm hle
    obtain ⟨c1,c2,c3,c4,c5,c6⟩:=hm
    obtain ⟨e1,e2,e3⟩:=mac_conj hd c4 (by omega) hw hwl
    have hcl:=cjR_len ⟨n,nm,mv⟩ t wd
    have q10:=iConjugate ⟨n,nm,mv⟩ t wd hsp (by omega) (by omega) (by omega)
    rw [decide_eq_true e1] at q10
    have q11:=sIsMacro ⟨n,nm,mv⟩ (cjR ⟨n,nm,mv⟩ t wd) hsp (by omega) (by omega) (fun y hy=>by have:=e2.2.1.2 y hy;unfold letOk at this;unfold intOk;omega)
    rw [decide_eq_true e2] at q11
    exact ⟨hle,_,e3,q10,q11⟩
  generalize (fmP ⟨n,nm,mv⟩ 3 (2+x)).1=L at *
  generalize ssR ⟨n,nm,mv⟩=least at *
  clear a1 a3
  have ee:∀ X:List Int,AV.fzL (X.map AV.i64)=X.map AV.i64:=fun X=>by rw [fzL_map,ints_fz]
  have hfz:AV.fzL (L.map Twist.tr)=L.map Twist.sl:=by rw [fzL_map,tfz]
  have hfz:AV.sl 2 (AV.fzL (L.map Twist.tr))=tsl L:=by rw [hfz]
  refine spec_of_awp_any (M:=MM) (np:=1) (X:=[19]) (fz:=true) mixed Tryz.func4 rfl rfl (by decide) rfl (Nat.le_refl _) (by decide +kernel) (.inr ⟨rfl,rfl⟩) trivial ?_
  simp -dsimp -implicitDefEqProofs (disch:=first | omega | (simp only [lenr];try omega)) only [↓amPre,amAll,↓reduceIte,reduceCtorEq,Nat.reduceEqDiff,Nat.reduceBEq,Nat.reduceAdd,Nat.reduceLeDiff,Nat.reduceSub,Nat.reduceMul,Int.reduceToNat,List.size_toArray,tyF,MM,bu0,cbU49]
  refine callP_of (qb) ?_
  simp -dsimp -implicitDefEqProofs (disch:=first | omega | (simp only [lenr];try omega)) only [↓amPre,amAll,↓reduceIte,reduceCtorEq,Nat.reduceEqDiff,Nat.reduceBEq,Nat.reduceAdd,Nat.reduceLeDiff,Nat.reduceSub,Nat.reduceMul,Int.reduceToNat,List.size_toArray,tyF,MM,bu0,cbU49]
  refine callP_of (q0) ?_
  simp -dsimp -implicitDefEqProofs (disch:=first | omega | (simp only [lenr];try omega)) only [↓amPre,amAll,↓reduceIte,reduceCtorEq,Nat.reduceEqDiff,Nat.reduceBEq,Nat.reduceAdd,Nat.reduceLeDiff,Nat.reduceSub,Nat.reduceMul,Int.reduceToNat,List.size_toArray,tyF,MM,bu0,cbU49]
  refine callX_of (q1) ?_
  simp -dsimp -implicitDefEqProofs (disch:=first | omega | (simp only [lenr];try omega)) only [↓amPre,amAll,↓reduceIte,reduceCtorEq,Nat.reduceEqDiff,Nat.reduceBEq,Nat.reduceAdd,Nat.reduceLeDiff,Nat.reduceSub,Nat.reduceMul,Int.reduceToNat,List.size_toArray,tyF,MM,bu0,cbU49,ssfz]
  refine callX_of (q2) ?_
  simp -dsimp -implicitDefEqProofs (disch:=first | omega | (simp only [lenr];try omega)) only [↓amPre,amAll,↓reduceIte,reduceCtorEq,Nat.reduceEqDiff,Nat.reduceBEq,Nat.reduceAdd,Nat.reduceLeDiff,Nat.reduceSub,Nat.reduceMul,Int.reduceToNat,List.size_toArray,tyF,MM,bu0,cbU49,ssfz,hwxx]
  refine callP_frz q3 ?_
  simp -dsimp -implicitDefEqProofs (disch:=first | omega | (simp only [lenr];try omega)) only [↓amPre,amAll,↓reduceIte,reduceCtorEq,Nat.reduceEqDiff,Nat.reduceBEq,Nat.reduceAdd,Nat.reduceLeDiff,Nat.reduceSub,Nat.reduceMul,Int.reduceToNat,List.size_toArray,tyF,MM,bu0,cbU49,ssfz,tfz]
  refine awp_loop (fun k st=>k≤L.length∧st.fr 8=.i64 k∧st.fr 6=tsl L∧st.fr 5=.i64 (2+x)∧st.fr 4=.loc 4 [] 0 0∧st.fr 3=.loc 18 [] 0 0∧st.mem 4=some (.pt 3 (⟨n,nm,mv⟩:Puzz).tr)∧st.mem 18=some (d2.pt)) (L.length) ?_ ?_
  · simp -dsimp -implicitDefEqProofs (disch:=first | omega | (simp only [lenr];try omega)) only [↓amPre,amAll,↓reduceIte,reduceCtorEq,Nat.reduceEqDiff,Nat.reduceBEq,Nat.reduceAdd,Nat.reduceLeDiff,Nat.reduceSub,Nat.reduceMul,Int.reduceToNat,List.size_toArray,tyF,MM,bu0,cbU49]
    exact ⟨Nat.zero_le _,rfl,hfz⟩
  rintro k st _ ⟨hk,f8,f6,f5,f4,f3,m4,m18⟩
  by_cases c1:k<L.length
  · have c1':(k:Int)<(L.length:Int):=by omega
    have hg:(L.map Twist.sl).getD k .any=(L.getD k default).sl:=by rw [getD_eq _ _ _ (by simpa using c1),List.getElem_map,getD_eq _ _ _ c1]
    obtain ⟨h1,h2,h3,s,e1,e2,e3,e4⟩:=hall _ (mem_getD L k default c1)
    generalize L.getD k default=t at *
    obtain ⟨tt,tb⟩:=t
    dsimp only at h1 h2 h3 e1 e2 e3 e4
    have hsl:(⟨tt,tb⟩:Twist).sl=.agg [isl tt,isl tb]:=rfl
    rw [hsl] at e2 e3
    have h1':¬ (2+x:Int)<(tb.length:Int):=by omega
    have h2':¬ (3:Int)<(tt.length:Int):=by omega
    simp -dsimp -implicitDefEqProofs (disch:=first | omega | (simp only [lenr];try omega)) only [↓amPre,amAll,↓reduceIte,reduceCtorEq,Nat.reduceEqDiff,Nat.reduceBEq,Nat.reduceAdd,Nat.reduceLeDiff,Nat.reduceSub,Nat.reduceMul,Int.reduceToNat,List.size_toArray,tyF,MM,bu0,cbU49,f8,f6,f5,f4,f3,m4,m18,ssfz,hg,hsl,lt_true c1']
    refine callP_of (e1) ?_
    simp -dsimp -implicitDefEqProofs (disch:=first | omega | (simp only [lenr];try omega)) only [↓amPre,amAll,↓reduceIte,reduceCtorEq,Nat.reduceEqDiff,Nat.reduceBEq,Nat.reduceAdd,Nat.reduceLeDiff,Nat.reduceSub,Nat.reduceMul,Int.reduceToNat,List.size_toArray,tyF,MM,bu0,cbU49,f8,f6,f5,f4,f3,m4,m18,ssfz]
    refine callP_of (e2) ?_
    simp -dsimp -implicitDefEqProofs (disch:=first | omega | (simp only [lenr];try omega)) only [↓amPre,amAll,↓reduceIte,reduceCtorEq,Nat.reduceEqDiff,Nat.reduceBEq,Nat.reduceAdd,Nat.reduceLeDiff,Nat.reduceSub,Nat.reduceMul,Int.reduceToNat,List.size_toArray,tyF,MM,bu0,cbU49,f8,f6,f5,f4,f3,m4,m18,ssfz]
    refine callP_of (e3) ?_
    simp -dsimp -implicitDefEqProofs (disch:=first | omega | (simp only [lenr];try omega)) only [↓amPre,amAll,↓reduceIte,reduceCtorEq,Nat.reduceEqDiff,Nat.reduceBEq,Nat.reduceAdd,Nat.reduceLeDiff,Nat.reduceSub,Nat.reduceMul,Int.reduceToNat,List.size_toArray,tyF,MM,bu0,cbU49,f8,f6,f5,f4,f3,m4,m18,ssfz,lt_false (Int.not_lt.1 h1')]
    refine callP_of (e4) ?_
    simp -dsimp -implicitDefEqProofs (disch:=first | omega | (simp only [lenr];try omega)) only [↓amPre,amAll,↓reduceIte,reduceCtorEq,Nat.reduceEqDiff,Nat.reduceBEq,Nat.reduceAdd,Nat.reduceLeDiff,Nat.reduceSub,Nat.reduceMul,Int.reduceToNat,List.size_toArray,tyF,MM,bu0,cbU49,f8,f6,f5,f4,f3,m4,m18,ssfz,lt_false (Int.not_lt.1 h2')]
    exact ⟨c1,by omega⟩
  · have hke:k=L.length:=by omega
    subst hke
    have c1':¬ (L.length:Int)<(L.length:Int):=by omega
    by_cases hL:L.length=0
    · have hL':(L.length:Int)=0:=by omega
      simp -dsimp -implicitDefEqProofs (disch:=first | omega | (simp only [lenr];try omega)) only [↓amPre,amAll,↓reduceIte,reduceCtorEq,Nat.reduceEqDiff,Nat.reduceBEq,Nat.reduceAdd,Nat.reduceLeDiff,Nat.reduceSub,Nat.reduceMul,Int.reduceToNat,List.size_toArray,tyF,MM,bu0,cbU49,f8,f6,f5,f4,f3,m4,m18,lt_false (Int.not_lt.1 c1'),hL']
    · have hL':¬ (L.length:Int)=0:=by omega
      have hL1:0<L.length:=by omega
      obtain ⟨⟨g1,g2⟩,y,g3,g4,g5⟩:=hlast _ (mem_getD L 0 default hL1)
      have hg:(L.map Twist.sl).getD 0 .any=(L.getD 0 default).sl:=by rw [getD_eq _ _ _ (by simpa using hL1),List.getElem_map,getD_eq _ _ _ hL1]
      generalize L.getD 0 default=t at *
      obtain ⟨tt,tb⟩:=t
      obtain ⟨yt,yb⟩:=y
      dsimp only at g2 g3
      have hsl:(⟨tt,tb⟩:Twist).sl=.agg [isl tt,isl tb]:=rfl
      have hyl:(⟨yt,yb⟩:Twist).sl=.agg [isl yt,isl yb]:=rfl
      rw [hsl] at g4
      rw [hyl] at g5
      simp -dsimp -implicitDefEqProofs (disch:=first | omega | (simp only [lenr];try omega)) only [↓amPre,amAll,↓reduceIte,reduceCtorEq,Nat.reduceEqDiff,Nat.reduceBEq,Nat.reduceAdd,Nat.reduceLeDiff,Nat.reduceSub,Nat.reduceMul,Int.reduceToNat,List.size_toArray,tyF,MM,bu0,cbU49,f8,f6,f5,f4,f3,m4,m18,ssfz,lt_false (Int.not_lt.1 c1'),hL']
      refine callP_of (q8) ?_
      simp -dsimp -implicitDefEqProofs (disch:=first | omega | (simp only [lenr];try omega)) only [↓amPre,amAll,↓reduceIte,reduceCtorEq,Nat.reduceEqDiff,Nat.reduceBEq,Nat.reduceAdd,Nat.reduceLeDiff,Nat.reduceSub,Nat.reduceMul,Int.reduceToNat,List.size_toArray,tyF,MM,bu0,cbU49,f8,f6,f5,f4,f3,m4,m18,ssfz]
      refine lat_go [[],[],[1],[1,2],[],[4],[0,1,2,3,4,5],[0,1,2,3,4,5,6],[0,1,2,3,4,5,6,7],[0,1,2,3,4,5,6,7],[],[0,1,2,3,4,5,6,7,8,10],[0,1,2,3,4,5,6,7,8,9,10,11]] [[6,7,8,9,11,12],[2,3,6,7,8,9,11,12],[3,6,7,8,9,11,12],[6,7,8,9,11,12],[5,6,7,8,9,11,12],[6,7,8,9,11,12],[7,8,9,11,12],[8,9,11,12],[11,12],[12],[11,12],[12],[]] [0,1,2,3,4,5,6,7,8,9,10,11,12] (fun c st=>st.fr 4=.loc 4 [] 0 0∧st.fr 6=tsl L∧st.fr 3=.loc 18 [] 0 0∧st.fr 12=.i64 least∧(c 0=true→st.fr 94=.agg [.i64 n,.st nm,.ref 4 [(0,2)] 1 0 mv.length])∧(c 1=true→st.fr 95=tsl L)∧(c 2=true→st.fr 96=.ep [isl tt,isl tb])∧(c 3=true→st.fr 97=.agg [isl tt,isl tb])∧(c 4=true→st.fr 98=.loc 18 [] 0 0)∧(c 5=true→st.fr 99=.ref 99 [] 1 0 wd.length)∧(c 6=true→st.fr 100=.tup [.agg [isl yt,isl yb],.bl true])∧(c 7=true→st.fr 93=.tup [.agg [isl yt,isl yb],.bl true])∧(c 8=true→st.fr 101=.agg [isl yt,isl yb])∧(c 9=true→st.fr 102=.bl true)∧(c 10=true→st.fr 13=.loc 13 [] 0 0)∧(c 12=true→st.fr 14=.bl true)∧st.mem 4=some (.pt 3 (⟨n,nm,mv⟩:Puzz).tr)∧st.mem 18=some (bif c 5 then (d3.pt) else (d2.pt))∧(c 5=true→st.mem 99=some (itr wd))∧(c 10=true→c 11=false→st.mem 13=some (.pt 2 (.agg [.nilsl,.nilsl])))∧(c 11=true→st.mem 13=some (.pt 2 (.agg [isl yt,isl yb])))) (by decide +kernel) ?_ ?_ ?_
      · (try simp -dsimp -implicitDefEqProofs (disch:=first | omega | (simp only [lenr];try omega)) only [↓amPre,amAll,↓reduceIte,reduceCtorEq,Nat.reduceEqDiff,Nat.reduceBEq,Nat.reduceAdd,Nat.reduceLeDiff,Nat.reduceSub,Nat.reduceMul,Int.reduceToNat,List.size_toArray,tyF,MM,bu0,cbU49,latj,ssfz,hg,hsl,hyl,ee,f8,f6,f5,f4,f3,m4,m18])
        all_goals (try (repeat' (first | apply And.intro | rfl | (intro _;rfl) | (intro _ _;rfl))))
      · refine ⟨?_,?_,?_,?_,?_,?_,?_,?_,?_,?_,?_,?_,?_,trivial⟩
        all_goals rintro c st R hC hJ hR
        all_goals simp only [latm] at hC
        all_goals simp only [hC,latj] at hJ
        all_goals simp -dsimp -implicitDefEqProofs (disch:=first | omega | (simp only [lenr];try omega)) only [↓amPre,amAll,↓reduceIte,reduceCtorEq,Nat.reduceEqDiff,Nat.reduceBEq,Nat.reduceAdd,Nat.reduceLeDiff,Nat.reduceSub,Nat.reduceMul,Int.reduceToNat,List.size_toArray,tyF,MM,bu0,cbU49,hJ,ssfz,hg,hsl,hyl,ee]
        all_goals (try (refine callX_of q9 ?_;simp -dsimp -implicitDefEqProofs (disch:=first | omega | (simp only [lenr];try omega)) only [↓amPre,amAll,↓reduceIte,reduceCtorEq,Nat.reduceEqDiff,Nat.reduceBEq,Nat.reduceAdd,Nat.reduceLeDiff,Nat.reduceSub,Nat.reduceMul,Int.reduceToNat,List.size_toArray,tyF,MM,bu0,cbU49,hJ,ssfz,hg,hsl,hyl,ee]))
        all_goals (try (refine callP_frz g4 ?_;simp -dsimp -implicitDefEqProofs (disch:=first | omega | (simp only [lenr];try omega)) only [↓amPre,amAll,↓reduceIte,reduceCtorEq,Nat.reduceEqDiff,Nat.reduceBEq,Nat.reduceAdd,Nat.reduceLeDiff,Nat.reduceSub,Nat.reduceMul,Int.reduceToNat,List.size_toArray,tyF,MM,bu0,cbU49,hJ,ssfz,hg,hsl,hyl,ee]))
        all_goals refine hR _ ?_
        all_goals (simp +contextual -dsimp -implicitDefEqProofs only [amAll,↓reduceIte,reduceCtorEq,Nat.reduceEqDiff,Nat.reduceBEq,Nat.reduceAdd,latj,hC,hJ,ssfz,hg,hsl,hyl,ee];try (repeat' (first | apply And.intro | rfl | (intro _;rfl) | (intro _ _;rfl))))
      intro c st hall hJ
      simp only [latm] at hall
      simp only [hall,latj] at hJ
      obtain ⟨f4,f6,f3,f12,f94,f95,f96,f97,f98,f99,f100,f93,f101,f102,f13,f14,m4,m18,m99,m13a⟩:=hJ
      clear hall
      simp -dsimp -implicitDefEqProofs (disch:=first | omega | (simp only [lenr];try omega)) only [↓amPre,amAll,↓reduceIte,reduceCtorEq,Nat.reduceEqDiff,Nat.reduceBEq,Nat.reduceAdd,Nat.reduceLeDiff,Nat.reduceSub,Nat.reduceMul,Int.reduceToNat,List.size_toArray,tyF,MM,bu0,cbU49,f4,f6,f12,f13,f14,m4,m13a,ssfz,hg,hsl,hyl]
      have g3':(yb.length:Int)=(tb.length:Int):=by omega
      have g2':least≤(yb.length:Int):=by omega
      refine callP_of (g5) ?_
      simp -dsimp -implicitDefEqProofs (disch:=first | omega | (simp only [lenr];try omega)) only [↓amPre,amAll,↓reduceIte,reduceCtorEq,Nat.reduceEqDiff,Nat.reduceBEq,Nat.reduceAdd,Nat.reduceLeDiff,Nat.reduceSub,Nat.reduceMul,Int.reduceToNat,List.size_toArray,tyF,MM,bu0,cbU49,f4,f6,f12,f13,f14,m4,m13a,ssfz,hg,hsl,hyl,g1,g2',g3',g2]
end Dm
end Go.AM
