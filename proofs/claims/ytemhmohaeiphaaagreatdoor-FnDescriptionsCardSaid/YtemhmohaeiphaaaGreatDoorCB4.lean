/-
 CONTRACTS of functions of the program,and what they compute,by content.
-/
import Derived.Test.YtemhmohaeiphaaaGreatDoorCB3
import Derived.Test.YtemhmohaeiphaaaGreatDoorM2SD
import Derived.Test.YtemhmohaeiphaaaGreatDoorCB1
import Derived.Test.YtemhmohaeiphaaaGreatDoorCB0
open Nat (reduceEqDiff reduceAdd reduceLeDiff reduceSub reduceMul)
open Int (reduceToNat)
set_option linter.unusedVariables false
set_option linter.unusedSimpArgs false
set_option maxRecDepth 8000
namespace Go.AM
namespace Ps
open Go.Proofs
theorem okL_lns {s:Tx} (hs:s.length≤1048576):okL (lnsOf s):=⟨by have:=lns_len s;omega,fun l hl=>⟨lns_no s l hl,by have:=(lns_mem s l hl).1;omega⟩⟩
def pzT (n:Nat) (X:Except Int (Tx×List (List Int))):Except Int Puzz:=match X with
 | .error e=>.error e
 | .ok (nm,mv)=>if puzzOk ⟨n,nm,mv⟩ then .ok ⟨n,nm,mv⟩ else .error (-4)
theorem wordsS_inv {L:List Ln} {f:Tx} {c:Nat} {r:Rd} (h:(wordsS L f c r).1.t = -1):r.t = -1∧r.a<L.length∧∃ ws,lineW (lat L r.a) f c=some ws∧wordsS L f c r=(⟨r.a+1,-1⟩,ws):=by
 unfold wordsS at h ⊢
 by_cases c1:r.t = -1
 ·rw [if_pos c1] at h ⊢
  by_cases c2:L.length≤r.a
  ·rw [if_pos c2] at h
   exact absurd (show (-3:Int) = -1 from h) (by decide)
  ·rw [if_neg c2] at h ⊢
   cases hw:lineW (lat L r.a) f c with
   | some ws=>exact ⟨c1,by omega,ws,rfl,rfl⟩
   | none =>
    rw [hw] at h
    have h:(r.a:Int) = -1:=h
    omega
 ·rw [if_neg c1] at h
  exact absurd h c1
theorem pz_step {L:List Ln} {n a:Nat} {u:Tx} {us:List Tx} (h:lineW (lat L a) moveT (n+1)=some (u :: us)) :
  ((numbersS us (nameS u ⟨a+1,-1⟩)).1.t = -1→lineM (lat L a) n=some (u,(numbersS us (nameS u ⟨a+1,-1⟩)).2)∧isLet u∧(numbersS us (nameS u ⟨a+1,-1⟩)).1=⟨a+1,-1⟩) ∧
  ((numbersS us (nameS u ⟨a+1,-1⟩)).1.t≠-1→lineM (lat L a) n=none∧(numbersS us (nameS u ⟨a+1,-1⟩)).1.t=a):=by
 have hrj:rej ⟨a+1,-1⟩=⟨a+1,a⟩:=by
  unfold rej;rw [if_pos rfl]
  show (⟨a+1,((a+1:Nat):Int) - 1⟩:Rd)=_
  congr 1;omega
 have hne:((⟨a+1,(a:Int)⟩:Rd)).t≠-1:=by show (a:Int)≠-1;omega
 unfold lineM
 rw [h]
 dsimp only
 by_cases c1:isLet u
 ·rw [show nameS u ⟨a+1,-1⟩=⟨a+1,-1⟩ from if_pos c1,if_pos c1]
  unfold numbersS
  cases hn:numsW us with
  | some x=>exact ⟨fun _=>⟨rfl,c1,rfl⟩,fun q=>absurd rfl q⟩
  | none =>
   dsimp only
   rw [hrj]
   exact ⟨fun q=>absurd q hne,fun _=>⟨rfl,rfl⟩⟩
 ·rw [show nameS u ⟨a+1,-1⟩=rej ⟨a+1,-1⟩ from if_neg c1,if_neg c1,hrj,numbersS_bad us hne]
  exact ⟨fun q=>absurd q hne,fun _=>⟨rfl,rfl⟩⟩
theorem parsePuzzleI (s:Tx) (hs:s.length≤1048576):SpecAt Tryz.prog 21 [.st s] (.tup [(ppz s).1.tr,.i64 (ppz s).2]):=by
 obtain ⟨L,hLe⟩:∃ L,L=lnsOf s:=⟨_,rfl⟩
 obtain ⟨t0,ht0⟩:∃ t0:Int,t0=if 2000<s.length then -2 else -1:=⟨_,rfl⟩
 have hL:okL L:=by rw [hLe];exact okL_lns hs
 have hnew:=newI s hs
 rw [← hLe,← ht0] at hnew
 obtain ⟨RS,hRS⟩:∃ RS,RS=ppzE s:=⟨_,rfl⟩
 have hres:ppz s=outP noP RS:=by rw [hRS];rfl
 have w1:=wordsI L pointsT 1 ⟨0,t0⟩ hL (Nat.zero_le _) (by omega)
 have n1:=numbersI L (wordsS L pointsT 1 ⟨0,t0⟩).2 (wordsS L pointsT 1 ⟨0,t0⟩).1 (by have:=wordsS_a (f:=pointsT) (c:=1) (r:=⟨0,t0⟩) (Nat.zero_le L.length);have:=hL.1;omega) (by rw [wordsS_len];omega) (wordsS_mem hL _ _ _)
 obtain ⟨q,hq⟩:∃ q,q=lnS L pointsT 1 ⟨0,t0⟩:=⟨_,rfl⟩
 have e1:numbersS (wordsS L pointsT 1 ⟨0,t0⟩).2 (wordsS L pointsT 1 ⟨0,t0⟩).1=q:=hq.symm
 rw [e1] at n1
 have hqa:q.1.a≤L.length:=by rw [hq];exact lnS_a (Nat.zero_le _)
 have hq2:q.2.length=1∧∀ x∈q.2,inNum x:=by rw [hq];exact lnS_len L pointsT 1 ⟨0,t0⟩
 have hqn:=hq2.2 _ (mem_getD q.2 0 0 (by omega))
 obtain ⟨n,hn⟩:∃ n:Nat,q.2.getD 0 0=n:=⟨(q.2.getD 0 0).toNat,by unfold inNum at hqn;omega⟩
 have hn9:n≤999:=by unfold inNum at hqn;omega
 obtain ⟨r1,hr1⟩:∃ r1,r1=if 1≤n∧n≤20 then q.1 else rej q.1:=⟨_,rfl⟩
 have hra:r1.a≤L.length:=by rw [hr1];split;exact hqa;rw [rej_a];exact hqa
 -- what the header comes to
 have hstart:(r1.t = -1→r1.a=1∧RS=pzT n (pzL L n L.length 1 [] []))∧(r1.t≠-1→RS=.error r1.t):=by
  by_cases c0:2000<s.length
  ·rw [if_pos c0] at ht0
   subst ht0
   have hq1:q.1=⟨0,-2⟩:=by rw [hq];exact lnS_bad (by decide)
   have:r1=⟨0,-2⟩:=by rw [hr1,hq1,rej_bad (by decide)];split <;> rfl
   rw [this]
   refine ⟨fun h=>absurd h (by decide),fun _=>?_⟩
   rw [hRS];unfold ppzE;rw [if_pos c0]
  ·rw [if_neg c0] at ht0
   subst ht0
   have hR2:RS=pzR L:=by rw [hRS];unfold ppzE;rw [if_neg c0,← hLe]
   rw [hR2]
   unfold pzR pzH
   cases hl:ln L pointsT 1 0 with
   | error e =>
    have h1:q.1.t=e:=by rw [hq];exact lnS_err rfl hl
    have h2:=ln_err hl
    have:r1.t=e:=by rw [hr1];split;exact h1;rw [rej_bad (by rw [h1];exact h2)];exact h1
    rw [this]
    exact ⟨fun h=>absurd h h2,fun _=>rfl⟩
   | ok l =>
    have h1:q=(⟨1,-1⟩,l):=by rw [hq];exact lnS_ok rfl hl
    have h2:l.getD 0 0=n:=by rw [← hn,h1]
    dsimp only
    rw [h2]
    by_cases c:1≤n∧n≤20
    ·rw [if_pos c] at hr1
     rw [if_pos (by omega),hr1,h1]
     refine ⟨fun _=>⟨rfl,?_⟩,fun h=>absurd rfl h⟩
     show _=pzT n _
     rfl
    ·rw [if_neg c] at hr1
     rw [if_neg (by omega),hr1,h1]
     exact ⟨fun h=>absurd (show (0:Int) = -1 from h) (by decide),fun _=>rfl⟩
 have hrj:=rejI L q.1 (by have:=hL.1;omega)
 have hwi:=iwithin (n:Int) 1 20
 have hwe:within (n:Int) 1 20=decide (1≤n∧n≤20):=by rw [Bool.eq_iff_iff,decide_eq_true_iff];simp [within];omega
 rw [hwe] at hwi
 refine spec_of_awp_any (M:=MM) (np:=1) (X:=[10,11]) (fz:=false) mixed Tryz.func21 rfl rfl (by decide) rfl (Nat.le_refl _) (by decide +kernel) (.inl rfl) (by first | trivial | simp only [sigsOk_nil,sigsOk_some,sigsOk_none,sig_tr,sig_pt,sig_mt,sig_agg,List.map_cons,List.map_nil,sig1_tr,sig1_pt,sig1_v,and_self,true_and,List.length_map,List.length_set]) ?_
 simp -dsimp -implicitDefEqProofs (disch:=first|omega|(simp only [lenr];try omega)) only [↓amPre,↓reduceIte,reduceCtorEq,reduceEqDiff,Nat.reduceBEq,reduceAdd,reduceLeDiff,reduceSub,reduceMul,reduceToNat,MM,bu0,cbJ1,cbJ7]
 iterate 2 ((first|refine callP_of (hnew) ?_|refine callX_of (w1) ?_);simp -dsimp -implicitDefEqProofs (disch:=first|omega|(simp only [lenr];try omega)) only [↓amPre,↓reduceIte,reduceCtorEq,reduceEqDiff,Nat.reduceBEq,reduceAdd,reduceLeDiff,reduceSub,reduceMul,reduceToNat,MM,bu0,cbJ1,cbJ7])
 refine callX_of (n1) ?_
 simp -dsimp -implicitDefEqProofs (disch:=first|omega|(simp only [lenr];try omega)) only [↓amPre,↓reduceIte,reduceCtorEq,reduceEqDiff,Nat.reduceBEq,reduceAdd,reduceLeDiff,reduceSub,reduceMul,reduceToNat,MM,bu0,cbJ1,cbJ7,hn,hq2.1]
 refine callP_of (hwi) ?_
 by_cases c:1≤n∧n≤20
 ·rw [if_pos c] at hr1
  rw [← hr1]
  simp -dsimp -implicitDefEqProofs (disch:=first|omega|(simp only [lenr];try omega)) only [↓amPre,↓reduceIte,reduceCtorEq,reduceEqDiff,Nat.reduceBEq,reduceAdd,reduceLeDiff,reduceSub,reduceMul,reduceToNat,MM,bu0,cbJ1,cbJ7,decide_eq_true c]
  refine awp_loopC 5 2 3 1 [.i64 n,.st [],.nilsl] (by simp -dsimp -implicitDefEqProofs (disch:=first|omega|(simp only [lenr];try omega)) only [↓amPre,↓reduceIte,reduceCtorEq,reduceEqDiff,Nat.reduceBEq,reduceAdd,reduceLeDiff,reduceSub,reduceMul,reduceToNat,MM,bu0,cbJ1,cbJ7]) (by simp) (by simp) (fun k st=>k≤(L.length+1)∧st.fr 4=.loc 10 [] 0 0∧st.fr 5=.loc 5 [] 0 0∧st.fr 2=.loc 2 [] 0 0∧st.mem 2=some (.pt 3 (.agg [.i64 0,.st [],.nilsl]))∧(∃ (r:Rd) (nm:Tx) (mv:List (List Int)) (ag:Bool),st.fr 6=.bl ag∧st.mem 10=some (rdT L r)∧st.mem 5=some (.pt 3 (.agg [.i64 n,.st nm,sst mv]))∧r.a≤L.length∧(if k=0 then true else moreS L r)=ag∧nm.length≤k+1048576∧mv.length=k∧(∀ x∈mv,x.length=n)∧(r.t = -1→r.a=k+1∧nm.length=k∧RS=pzT n (pzL L n (L.length - k) (k+1) nm mv))∧(r.t≠-1→RS=.error r.t))) ((L.length+1)) ?_ ?_
  ·simp -dsimp -implicitDefEqProofs (disch:=first|omega|(simp only [lenr];try omega)) only [↓amPre,↓reduceIte,reduceCtorEq,reduceEqDiff,Nat.reduceBEq,reduceAdd,reduceLeDiff,reduceSub,reduceMul,reduceToNat,MM,bu0,cbJ1,cbJ7,nilC_eq]
   exact ⟨r1,[],[],true,rfl,rfl,rfl,hra,rfl,by simp,rfl,fun x hx=>(by cases hx),fun d=>⟨(hstart.1 d).1,rfl,(hstart.1 d).2⟩,hstart.2⟩
  rintro k st _ ⟨hk,f4,f5,f2,m2,ek⟩
  obtain ⟨r,nm,mv,ag,f6,m10,m5,ha,hag,hnl,hml,hmn,hgo,hbad⟩:=ek
  have hsm:smallP ⟨n,nm,mv⟩:=⟨by show intOk (n:Int);unfold intOk;omega,by show nm.length≤_;have:=hL.1;omega,by show mv.length≤_;have:=hL.1;omega,fun x hx=>by rw [hmn x hx];omega⟩
  cases ag with
  | false =>
   have hk0:k≠0:=fun q=>by rw [if_pos q] at hag;cases hag
   rw [if_neg hk0] at hag
   have hfin:(r.t = -1→RS=if puzzOk ⟨n,nm,mv⟩ then .ok ⟨n,nm,mv⟩ else .error (-4))∧(r.t≠-1→RS=.error r.t):=by
    refine ⟨fun d=>?_,hbad⟩
    obtain ⟨g1,g2,g3⟩:=hgo d
    have hle:L.length≤k+1:=by
     unfold moreS at hag
     have:=of_decide_eq_false hag
     apply Decidable.byContradiction
     intro q
     exact this ⟨d,by omega⟩
    have hlk:L.length=k+1:=by omega
    rw [g3,show L.length - k=1 by omega,pzL,if_pos (by omega),if_neg (by intro q;rw [q] at hml;simp at hml;omega)]
    rfl
   rcases Classical.em (r.t = -1) with d | d
   ·by_cases c9:puzzOk ⟨n,nm,mv⟩
    ·have hres2:ppz s=(⟨n,nm,mv⟩,-1):=by rw [hres,hfin.1 d,if_pos c9];rfl
     have hP:=iPuzzle ⟨n,nm,mv⟩ hsm
     rw [decide_eq_true c9] at hP
     have hF:=finI L r true
     rw [d,if_neg (by decide)] at hF
     rw [hres2]
     simp -dsimp -implicitDefEqProofs (disch:=first|omega|(simp only [lenr];try omega)) only [↓amPre,↓reduceIte,reduceCtorEq,reduceEqDiff,Nat.reduceBEq,reduceAdd,reduceLeDiff,reduceSub,reduceMul,reduceToNat,MM,bu0,cbJ1,cbJ7,f4,f5,f2,m2,ssfz,f6,m10,m5]
     iterate 2 ((first|refine callP_of (hP) ?_|refine callP_of (hF) ?_);simp -dsimp -implicitDefEqProofs (disch:=first|omega|(simp only [lenr];try omega)) only [↓amPre,↓reduceIte,reduceCtorEq,reduceEqDiff,Nat.reduceBEq,reduceAdd,reduceLeDiff,reduceSub,reduceMul,reduceToNat,MM,bu0,cbJ1,cbJ7,f4,f5,f2,m2,ssfz,f6,m10,m5])
    ·have hres2:ppz s=(noP,-4):=by rw [hres,hfin.1 d,if_neg c9];rfl
     have hP:=iPuzzle ⟨n,nm,mv⟩ hsm
     rw [decide_eq_false c9] at hP
     have hF:=finI L r false
     rw [d,if_pos (by decide)] at hF
     rw [hres2]
     simp -dsimp -implicitDefEqProofs (disch:=first|omega|(simp only [lenr];try omega)) only [↓amPre,↓reduceIte,reduceCtorEq,reduceEqDiff,Nat.reduceBEq,reduceAdd,reduceLeDiff,reduceSub,reduceMul,reduceToNat,MM,bu0,cbJ1,cbJ7,f4,f5,f2,m2,ssfz,f6,m10,m5]
     iterate 2 ((first|refine callP_of (hP) ?_|refine callP_of (hF) ?_);simp -dsimp -implicitDefEqProofs (disch:=first|omega|(simp only [lenr];try omega)) only [↓amPre,↓reduceIte,reduceCtorEq,reduceEqDiff,Nat.reduceBEq,reduceAdd,reduceLeDiff,reduceSub,reduceMul,reduceToNat,MM,bu0,cbJ1,cbJ7,f4,f5,f2,m2,ssfz,f6,m10,m5])
     exact ⟨rfl,rfl,rfl⟩
   ·have hres2:ppz s=(noP,r.t):=by rw [hres,hfin.2 d];rfl
    have hP:=iPuzzle ⟨n,nm,mv⟩ hsm
    have hF:=finI L r (decide (puzzOk ⟨n,nm,mv⟩))
    rw [if_neg (fun q=>d q.1)] at hF
    rw [hres2]
    simp -dsimp -implicitDefEqProofs (disch:=first|omega|(simp only [lenr];try omega)) only [↓amPre,↓reduceIte,reduceCtorEq,reduceEqDiff,Nat.reduceBEq,reduceAdd,reduceLeDiff,reduceSub,reduceMul,reduceToNat,MM,bu0,cbJ1,cbJ7,f4,f5,f2,m2,ssfz,f6,m10,m5]
    refine callP_of (hP) ?_
    simp -dsimp -implicitDefEqProofs (disch:=first|omega|(simp only [lenr];try omega)) only [↓amPre,↓reduceIte,reduceCtorEq,reduceEqDiff,Nat.reduceBEq,reduceAdd,reduceLeDiff,reduceSub,reduceMul,reduceToNat,MM,bu0,cbJ1,cbJ7,f4,f5,f2,m2,ssfz,f6,m10,m5]
    refine callP_of (hF) ?_
    simp -dsimp -implicitDefEqProofs (disch:=first|omega|(simp only [lenr];try omega)) only [↓amPre,↓reduceIte,reduceCtorEq,reduceEqDiff,Nat.reduceBEq,reduceAdd,reduceLeDiff,reduceSub,reduceMul,reduceToNat,MM,bu0,cbJ1,cbJ7,f4,f5,f2,m2,ssfz,ne_true d,f6,m10,m5]
    exact ⟨rfl,rfl,rfl⟩
  | true =>
   have hlt:k<L.length+1:=by
    by_cases hk0:k=0
    ·omega
    ·rw [if_neg hk0] at hag
     unfold moreS at hag
     have:=of_decide_eq_true hag
     have:=(hgo this.1).1
     omega
   have hll:=hL.1
   have wm:=wordsI L moveT (n+1) r hL ha (by omega)
   have hwa:=wordsS_a (f:=moveT) (c:=n+1) ha
   have hwl:=wordsS_len L moveT (n+1) r
   have hwm:=wordsS_mem hL moveT (n+1) r
   by_cases d:(wordsS L moveT (n+1) r).1.t = -1
   case neg =>
    have hE:RS=.error (wordsS L moveT (n+1) r).1.t:=by
     by_cases d1:r.t = -1
     ·obtain ⟨g1,g2,g3⟩:=hgo d1
      unfold wordsS at d ⊢
      rw [if_pos d1] at d ⊢
      by_cases d2:L.length≤r.a
      ·rw [if_pos d2]
       have hk0:k=0:=by
        apply Decidable.byContradiction
        intro hk0
        rw [if_neg hk0] at hag
        unfold moreS at hag
        have:=of_decide_eq_true hag
        omega
       subst hk0
       have hmv:mv=[]:=List.eq_nil_of_length_eq_zero hml
       rw [g3]
       cases hf:L.length - 0 with
       | zero=>exfalso;omega
       | succ f =>
        rw [pzL,if_pos (by omega),if_pos hmv];rfl
      ·rw [if_neg d2] at d ⊢
       cases hw:lineW (lat L r.a) moveT (n+1) with
       | some ws=>rw [hw] at d;exact absurd rfl d
       | none =>
        have hM:lineM (lat L r.a) n=none:=by unfold lineM;rw [hw]
        rw [g3,show L.length - k=(L.length - k - 1)+1 by omega,pzL,if_neg (by omega),← g1,hM];rfl
     ·rw [wordsS_bad d1];exact hbad d1
    generalize wordsS L moveT (n+1) r=w at *
    obtain ⟨r',ws⟩:=w
    have hres2:ppz s=(noP,r'.t):=by rw [hres,hE];rfl
    have hP:=iPuzzle ⟨n,nm,mv⟩ hsm
    have hF:=finI L r' (decide (puzzOk ⟨n,nm,mv⟩))
    rw [if_neg (fun q=>d q.1)] at hF
    have hcast:((n:Int)+1)=((n+1:Nat):Int):=by omega
    rw [hres2]
    simp -dsimp -implicitDefEqProofs (disch:=first|omega|(simp only [lenr];try omega)) only [↓amPre,↓reduceIte,reduceCtorEq,reduceEqDiff,Nat.reduceBEq,reduceAdd,reduceLeDiff,reduceSub,reduceMul,reduceToNat,MM,bu0,cbJ1,cbJ7,f4,f5,f2,m2,ssfz,f6,m10,m5,hcast]
    refine callX_of (wm) ?_
    simp -dsimp -implicitDefEqProofs (disch:=first|omega|(simp only [lenr];try omega)) only [↓amPre,↓reduceIte,reduceCtorEq,reduceEqDiff,Nat.reduceBEq,reduceAdd,reduceLeDiff,reduceSub,reduceMul,reduceToNat,MM,bu0,cbJ1,cbJ7,f4,f5,f2,m2,ssfz,f6,m10,m5,ne_true d,(fun Q st=>blockQ_exit_ne Q st 1 0 rfl)]
    refine callP_of (hP) ?_
    simp -dsimp -implicitDefEqProofs (disch:=first|omega|(simp only [lenr];try omega)) only [↓amPre,↓reduceIte,reduceCtorEq,reduceEqDiff,Nat.reduceBEq,reduceAdd,reduceLeDiff,reduceSub,reduceMul,reduceToNat,MM,bu0,cbJ1,cbJ7,f4,f5,f2,m2,ssfz,f6,m10,m5]
    refine callP_of (hF) ?_
    simp -dsimp -implicitDefEqProofs (disch:=first|omega|(simp only [lenr];try omega)) only [↓amPre,↓reduceIte,reduceCtorEq,reduceEqDiff,Nat.reduceBEq,reduceAdd,reduceLeDiff,reduceSub,reduceMul,reduceToNat,MM,bu0,cbJ1,cbJ7,f4,f5,f2,m2,ssfz,ne_true d,f6,m10,m5]
    exact ⟨rfl,rfl,rfl⟩
   obtain ⟨d1,d2,ws,hw,hwe⟩:=wordsS_inv d
   obtain ⟨g1,g2,g3⟩:=hgo d1
   rw [hwe] at wm hwa hwl hwm
   replace hwl:ws.length=n+1:=hwl
   replace hwa:r.a+1≤L.length:=hwa
   replace hwm:∀ w∈ws,w.length≤1048576:=hwm
   obtain ⟨u,us,hws⟩:∃ u us,ws=u :: us:=by
    cases ws with
    | nil=>simp at hwl
    | cons u us=>exact ⟨u,us,rfl⟩
   rw [hws] at hw
   have hst:=pz_step hw
   have hul:=hwm u (by simp [hws])
   have hul2:us.length=n:=by rw [hws] at hwl;simp only [List.length_cons] at hwl;omega
   have hna:=nameI L u ⟨r.a+1,-1⟩ (by show r.a+1≤_;omega) hul
   have hnn:=numbersI L us (nameS u ⟨r.a+1,-1⟩) (by rw [nameS_a];show r.a+1≤_;omega) (by omega) (fun w hw=>hwm w (by simp [hws,hw]))
   have hnl2:=(numbersS_len us (nameS u ⟨r.a+1,-1⟩)).1
   have hna2:(numbersS us (nameS u ⟨r.a+1,-1⟩)).1.a=r.a+1:=by rw [numbersS_a,nameS_a]
   generalize numbersS us (nameS u ⟨r.a+1,-1⟩)=v at *
   generalize nameS u ⟨r.a+1,-1⟩=r2 at *
   obtain ⟨r3,x⟩:=v
   have hmo:=moreI L r3 hll
   have hcast:((n:Int)+1)=((n+1:Nat):Int):=by omega
   have hwg:ws.getD 0 []=u:=by rw [hws];rfl
   have hdr:ws.drop 1=us:=by rw [hws];rfl
   have hxl:x.length=n:=by rw [← hul2];exact hnl2
   simp -dsimp -implicitDefEqProofs (disch:=first|omega|(simp only [lenr];try omega)) only [↓amPre,↓reduceIte,reduceCtorEq,reduceEqDiff,Nat.reduceBEq,reduceAdd,reduceLeDiff,reduceSub,reduceMul,reduceToNat,MM,bu0,cbJ1,cbJ7,f4,f5,f2,m2,ssfz,f6,m10,m5,hcast]
   refine callX_of (wm) ?_
   simp -dsimp -implicitDefEqProofs (disch:=first|omega|(simp only [lenr];try omega)) only [↓amPre,↓reduceIte,reduceCtorEq,reduceEqDiff,Nat.reduceBEq,reduceAdd,reduceLeDiff,reduceSub,reduceMul,reduceToNat,MM,bu0,cbJ1,cbJ7,f4,f5,f2,m2,ssfz,f6,m10,m5,hwl]
   refine piv_go 7 6 10 (by decide +kernel) ?_
   simp -dsimp -implicitDefEqProofs (disch:=first|omega|(simp only [lenr];try omega)) only [↓amPre,↓reduceIte,reduceCtorEq,reduceEqDiff,Nat.reduceBEq,reduceAdd,reduceLeDiff,reduceSub,reduceMul,reduceToNat,MM,bu0,cbJ1,cbJ7,f4,f5,f2,m2,ssfz,f6,m10,m5,hwl,hwg]
   refine pvX_of (hna) ?_
   simp -dsimp -implicitDefEqProofs (disch:=first|omega|(simp only [lenr];try omega)) only [↓amPre,↓reduceIte,reduceCtorEq,reduceEqDiff,Nat.reduceBEq,reduceAdd,reduceLeDiff,reduceSub,reduceMul,reduceToNat,MM,bu0,cbJ1,cbJ7,f4,f5,f2,m2,ssfz,f6,m10,m5,hwl,hwg]
   refine lat_go [[],[0],[],[],[3],[2,3,4],[2,3,4,5],[0,1,2,3,4,5,6],[0,1,2,3,4,5,6,7],[0,1,2,3,4,5,6,7,8]] [[1,7,8,9],[7,8,9],[5,6,7,8,9],[4,5,6,7,8,9],[5,6,7,8,9],[6,7,8,9],[7,8,9],[8,9],[9],[]] [0,1,2,3,4,5,6,7,8,9] (fun c st=>st.fr 4=.loc 10 [] 0 0∧st.fr 5=.loc 5 [] 0 0∧st.fr 7=.ref 31 [] 1 0 (n+1)∧st.fr 2=.loc 2 [] 0 0∧(c 0=true→st.fr 46=.loc 5 [] 0 2)∧(c 1=true→c 7=false→st.fr 47=.ref 5 [(0,2)] 1 0 k)∧(c 2=true→st.fr 48=.loc 10 [] 0 0)∧(c 3=true→st.fr 49=.ref 31 [] 1 0 (n+1))∧(c 4=true→st.fr 50=.ref 31 [] 1 1 n)∧(c 5=true→c 7=false→st.fr 51=.ref 51 [] 1 0 n)∧(c 6=true→c 7=false→st.fr 52=.lst 1 [.ref 51 [] 1 0 n])∧(c 7=true→c 9=false→st.fr 53=.ref 53 [] 1 0 (k+1))∧(c 8=true→st.fr 54=.loc 5 [] 0 2)∧st.mem 2=some (.pt 3 (.agg [.i64 0,.st [],.nilsl]))∧st.mem 31=some (.tr 1 (ws.map AV.st))∧st.mem 10=some (bif c 5 then (rdT L r3) else (rdT L r2))∧st.mem 5=some (bif c 9 then (.pt 3 (.agg [.i64 n,.st (nm++u),sst (mv++[x])])) else (bif c 7 then (.pt 3 (.agg [.i64 n,.st (nm++u),.any])) else (.pt 3 (.agg [.i64 n,.st (nm++u),sst mv]))))∧(c 5=true→c 7=false→st.mem 51=some (itr x))∧(c 7=true→c 9=false→st.mem 53=some (sst (mv++[x])))) (by decide +kernel) ?_ ?_ ?_
   ·(try simp -dsimp -implicitDefEqProofs (disch:=first|omega|(simp only [lenr];try omega)) only [↓amPre,↓reduceIte,reduceCtorEq,reduceEqDiff,Nat.reduceBEq,reduceAdd,reduceLeDiff,reduceSub,reduceMul,reduceToNat,MM,bu0,cbJ1,cbJ7,latj,hwl,hdr,hxl,hml,Nat.add_sub_cancel,f4,f5,f2,m2,f6,m10,m5,hwl])
    all_goals (try (repeat' (first | apply And.intro | rfl | (intro _;rfl) | (intro _ _;rfl))))
   ·refine ⟨?_,?_,?_,?_,?_,?_,?_,?_,?_,?_,trivial⟩
    all_goals rintro c st R hC hJ hR
    all_goals simp only [latm] at hC
    all_goals simp only [hC,latj] at hJ
    all_goals simp -dsimp -implicitDefEqProofs (disch:=first|omega|(simp only [lenr];try omega)) only [↓amPre,↓reduceIte,reduceCtorEq,reduceEqDiff,Nat.reduceBEq,reduceAdd,reduceLeDiff,reduceSub,reduceMul,reduceToNat,MM,bu0,cbJ1,cbJ7,hJ,hwl,hdr,hxl,hml,Nat.add_sub_cancel]
    all_goals (try (refine callX_of hnn ?_;simp -dsimp -implicitDefEqProofs (disch:=first|omega|(simp only [lenr];try omega)) only [↓amPre,↓reduceIte,reduceCtorEq,reduceEqDiff,Nat.reduceBEq,reduceAdd,reduceLeDiff,reduceSub,reduceMul,reduceToNat,MM,bu0,cbJ1,cbJ7,hJ,hwl,hdr,hxl,hml,Nat.add_sub_cancel]))
    all_goals refine hR _ ?_
    all_goals (simp +contextual -dsimp -implicitDefEqProofs only [amAll,↓reduceIte,reduceCtorEq,reduceEqDiff,Nat.reduceBEq,reduceAdd,latj,hC,hJ,hwl,hdr,hxl,hml,Nat.add_sub_cancel];try (repeat' (first | apply And.intro | rfl | (intro _;rfl) | (intro _ _;rfl))))
   intro c st hall hJ
   simp only [latm] at hall
   simp only [hall,latj] at hJ
   obtain ⟨f4,f5,f7,f2,f46,f48,f49,f50,f54,m2,m31,m10,m5⟩:=hJ
   clear hall
   simp -dsimp -implicitDefEqProofs (disch:=first|omega|(simp only [lenr];try omega)) only [↓amPre,↓reduceIte,reduceCtorEq,reduceEqDiff,Nat.reduceBEq,reduceAdd,reduceLeDiff,reduceSub,reduceMul,reduceToNat,MM,bu0,cbJ1,cbJ7,f4,f5,f2,m2,m10,m5]
   refine callP_of (hmo) ?_
   simp -dsimp -implicitDefEqProofs (disch:=first|omega|(simp only [lenr];try omega)) only [↓amPre,↓reduceIte,reduceCtorEq,reduceEqDiff,Nat.reduceBEq,reduceAdd,reduceLeDiff,reduceSub,reduceMul,reduceToNat,MM,bu0,cbJ1,cbJ7,f4,f5,f2,m2,m10,m5]
   refine ⟨hlt,by omega,r3,nm++u,mv++[x],moreS L r3,rfl,rfl,rfl,by rw [hna2];exact hwa,rfl,?_,by simp [hml],?_,fun d9=>?_,fun d9=>?_⟩
   ·simp only [List.length_append];omega
   ·intro y hy
    rcases List.mem_append.1 hy with hy | hy
    ·exact hmn y hy
    ·rw [List.mem_singleton.1 hy];exact hxl
   ·obtain ⟨s1,s2,s3⟩:=hst.1 d9
    refine ⟨by rw [hna2];omega,by rw [List.length_append,g2,s2.1],?_⟩
    rw [g3,show L.length - k=(L.length - (k+1))+1 by omega,pzL,if_neg (by omega),← g1,s1]
   ·obtain ⟨s1,s2⟩:=hst.2 d9
    rw [g3,show L.length - k=(L.length - (k+1))+1 by omega,pzL,if_neg (by omega),← g1,s1,s2];rfl
 ·rw [if_neg c] at hr1
  have hb1:r1.t≠-1:=fun h=>by
   have h1:=(hstart.1 h).1
   rw [hr1] at h h1
   rw [rej_a] at h1
   by_cases d:q.1.t = -1
   ·unfold rej at h
    rw [if_pos d] at h
    have h:(q.1.a:Int) - 1 = -1:=h
    omega
   ·rw [rej_bad d] at h;exact d h
  have hE:=hstart.2 hb1
  have hll:=hL.1
  rw [← hr1] at hrj
  have wm:=wordsI L moveT (n+1) r1 hL hra (by omega)
  rw [wordsS_bad hb1] at wm
  have hsm:smallP ⟨n,[],[]⟩:=⟨by show intOk (n:Int);unfold intOk;omega,by simp,by simp,fun x hx=>by cases hx⟩
  have hres2:ppz s=(noP,r1.t):=by rw [hres,hE];rfl
  have hP:=iPuzzle ⟨n,[],[]⟩ hsm
  have hF:=finI L r1 (decide (puzzOk ⟨n,[],[]⟩))
  rw [if_neg (fun q=>hb1 q.1)] at hF
  have hcast:((n:Int)+1)=((n+1:Nat):Int):=by omega
  simp -dsimp -implicitDefEqProofs (disch:=first|omega|(simp only [lenr];try omega)) only [↓amPre,↓reduceIte,reduceCtorEq,reduceEqDiff,Nat.reduceBEq,reduceAdd,reduceLeDiff,reduceSub,reduceMul,reduceToNat,MM,bu0,cbJ1,cbJ7,decide_eq_false c]
  refine callX_of (hrj) ?_
  simp -dsimp -implicitDefEqProofs (disch:=first|omega|(simp only [lenr];try omega)) only [↓amPre,↓reduceIte,reduceCtorEq,reduceEqDiff,Nat.reduceBEq,reduceAdd,reduceLeDiff,reduceSub,reduceMul,reduceToNat,MM,bu0,cbJ1,cbJ7]
  refine awp_loopC 5 2 3 1 [.i64 n,.st [],.nilsl] (by simp -dsimp -implicitDefEqProofs (disch:=first|omega|(simp only [lenr];try omega)) only [↓amPre,↓reduceIte,reduceCtorEq,reduceEqDiff,Nat.reduceBEq,reduceAdd,reduceLeDiff,reduceSub,reduceMul,reduceToNat,MM,bu0,cbJ1,cbJ7]) (by simp) (by simp) (fun k st=>k≤0∧st.fr 4=.loc 10 [] 0 0∧st.fr 5=.loc 5 [] 0 0∧st.fr 2=.loc 2 [] 0 0∧st.fr 6=.bl true∧st.mem 2=some (.pt 3 (.agg [.i64 0,.st [],.nilsl]))∧st.mem 10=some (rdT L r1)∧st.mem 5=some (.pt 3 (.agg [.i64 n,.st [],sst []]))) (0) ?_ ?_
  ·simp -dsimp -implicitDefEqProofs (disch:=first|omega|(simp only [lenr];try omega)) only [↓amPre,↓reduceIte,reduceCtorEq,reduceEqDiff,Nat.reduceBEq,reduceAdd,reduceLeDiff,reduceSub,reduceMul,reduceToNat,MM,bu0,cbJ1,cbJ7,nilC_eq]
   rfl
  rintro k st _ ⟨hk,f4,f5,f2,f6,m2,m10,m5⟩
  rw [hres2]
  simp -dsimp -implicitDefEqProofs (disch:=first|omega|(simp only [lenr];try omega)) only [↓amPre,↓reduceIte,reduceCtorEq,reduceEqDiff,Nat.reduceBEq,reduceAdd,reduceLeDiff,reduceSub,reduceMul,reduceToNat,MM,bu0,cbJ1,cbJ7,f4,f5,f2,f6,m2,m10,m5,ssfz,hcast]
  refine callX_of (wm) ?_
  simp -dsimp -implicitDefEqProofs (disch:=first|omega|(simp only [lenr];try omega)) only [↓amPre,↓reduceIte,reduceCtorEq,reduceEqDiff,Nat.reduceBEq,reduceAdd,reduceLeDiff,reduceSub,reduceMul,reduceToNat,MM,bu0,cbJ1,cbJ7,f4,f5,f2,f6,m2,m10,m5,ssfz,ne_true hb1,(fun Q st=>blockQ_exit_ne Q st 1 0 rfl)]
  refine callP_of (hP) ?_
  simp -dsimp -implicitDefEqProofs (disch:=first|omega|(simp only [lenr];try omega)) only [↓amPre,↓reduceIte,reduceCtorEq,reduceEqDiff,Nat.reduceBEq,reduceAdd,reduceLeDiff,reduceSub,reduceMul,reduceToNat,MM,bu0,cbJ1,cbJ7,f4,f5,f2,f6,m2,m10,m5,ssfz]
  refine callP_of (hF) ?_
  simp -dsimp -implicitDefEqProofs (disch:=first|omega|(simp only [lenr];try omega)) only [↓amPre,↓reduceIte,reduceCtorEq,reduceEqDiff,Nat.reduceBEq,reduceAdd,reduceLeDiff,reduceSub,reduceMul,reduceToNat,MM,bu0,cbJ1,cbJ7,f4,f5,f2,f6,m2,m10,m5,ssfz,ne_true hb1]
  exact ⟨rfl,rfl,rfl⟩
end Ps
end Go.AM
set_option maxRecDepth 8000
namespace Go.AM
namespace Ps
open Go.Proofs
def mdEnd (ks:List Kind) (X:Except Int (Tx×List (List Twist))):Except Int Model:=match X with
 | .error e=>.error e
 | .ok (nm,mv)=>if modelOk ⟨ks,nm,mv⟩ then .ok ⟨ks,nm,mv⟩ else .error (-4)
theorem kindsS_in (L:List Ln) (r0:Rd):(kindsS L r0).2.length≤4∧∀ k∈(kindsS L r0).2,inNum k.c∧inNum k.o:=by
 unfold kindsS
 dsimp only
 rw [kdS_len]
 exact ⟨(kdN_ok L r0).2.1,kdS_in L r0 _⟩
theorem kindsS_a {L:List Ln} {r0:Rd} (h:r0.a≤L.length):(kindsS L r0).1.a≤L.length:=by
 unfold kindsS
 dsimp only
 split
 ·exact kdS_a h _
 ·rw [rej_a];exact kdS_a h _
theorem twS_small {L:List Ln} {ks:List Kind} {r:Rd} (h:ks.length≤4) (hk:∀ k∈ks,inNum k.c∧inNum k.o):smallT (twS L ks r ks.length).2:=by
 refine ⟨by rw [twS_len];omega,fun t ht=>?_⟩
 obtain ⟨i,hi,rfl⟩:=List.getElem_of_mem ht
 have hi':i<ks.length:=by rw [twS_len] at hi;exact hi
 have:=twS_num L ks r ks.length i hi'
 rw [getD_eq _ _ _ hi] at this
 have hc:cOf ks i≤999:=by
  have:=(hk _ (mem_getD ks i default hi')).1
  unfold cOf;unfold inNum at this;omega
 unfold numT at this
 omega
theorem md_step {L:List Ln} {ks:List Kind} {a:Nat} {u:Tx} (h:lineW (lat L a) moveT 1=some [u]) :
  ((twS L ks (nameS u ⟨a+1,-1⟩) ks.length).1.t = -1→lineN (lat L a)=some u∧isLet u∧twR L ks (a+1)=.ok (twS L ks (nameS u ⟨a+1,-1⟩) ks.length).2∧(twS L ks (nameS u ⟨a+1,-1⟩) ks.length).1=⟨a+1+2*ks.length,-1⟩) ∧
  ((twS L ks (nameS u ⟨a+1,-1⟩) ks.length).1.t≠-1→(lineN (lat L a)=none∧(twS L ks (nameS u ⟨a+1,-1⟩) ks.length).1.t=a)∨(lineN (lat L a)=some u∧twR L ks (a+1)=.error (twS L ks (nameS u ⟨a+1,-1⟩) ks.length).1.t)):=by
 have hrj:rej ⟨a+1,-1⟩=⟨a+1,a⟩:=by
  unfold rej;rw [if_pos rfl]
  show (⟨a+1,((a+1:Nat):Int) - 1⟩:Rd)=_
  congr 1;omega
 have hne:((⟨a+1,(a:Int)⟩:Rd)).t≠-1:=by show (a:Int)≠-1;omega
 unfold lineN
 rw [h]
 dsimp only
 by_cases c1:isLet u
 ·rw [show nameS u ⟨a+1,-1⟩=⟨a+1,-1⟩ from if_pos c1,if_pos c1]
  have hg:=twS_good L ks (a+1)
  cases hn:twR L ks (a+1) with
  | ok x =>
   rw [hn] at hg
   rw [hg]
   exact ⟨fun _=>⟨rfl,c1,rfl,rfl⟩,fun q=>absurd rfl q⟩
  | error e =>
   rw [hn] at hg
   obtain ⟨h1,h2⟩:=hg
   rw [h1]
   exact ⟨fun q=>absurd q h2,fun _=>.inr ⟨rfl,rfl⟩⟩
 ·rw [show nameS u ⟨a+1,-1⟩=rej ⟨a+1,-1⟩ from if_neg c1,if_neg c1,hrj,twS_bad hne]
  exact ⟨fun q=>absurd q hne,fun _=>.inl ⟨rfl,rfl⟩⟩
theorem parseModelI (s:Tx) (hs:s.length≤1048576):SpecAt Tryz.prog 16 [.st s] (.tup [(pmd s).1.tr,.i64 (pmd s).2]):=by
 obtain ⟨L,hLe⟩:∃ L,L=lnsOf s:=⟨_,rfl⟩
 obtain ⟨t0,ht0⟩:∃ t0:Int,t0=if 2000<s.length then -2 else -1:=⟨_,rfl⟩
 have hL:okL L:=by rw [hLe];exact okL_lns hs
 have hll:=hL.1
 have hnew:=newI s hs
 rw [← hLe,← ht0] at hnew
 obtain ⟨RS,hRS⟩:∃ RS,RS=pmdE s:=⟨_,rfl⟩
 have hres:pmd s=outP noM RS:=by rw [hRS];rfl
 have hkd:=kindsI L ⟨0,t0⟩ hL (Nat.zero_le _)
 have hki:=kindsS_in L ⟨0,t0⟩
 have hka:=kindsS_a (r0:=⟨0,t0⟩) (Nat.zero_le L.length)
 have hstart:((kindsS L ⟨0,t0⟩).1.t = -1→RS=mdEnd (kindsS L ⟨0,t0⟩).2 (mdL L (kindsS L ⟨0,t0⟩).2 (L.length+1) (kindsS L ⟨0,t0⟩).1.a [] []))∧((kindsS L ⟨0,t0⟩).1.t≠-1→RS=.error (kindsS L ⟨0,t0⟩).1.t):=by
  by_cases c0:2000<s.length
  ·rw [if_pos c0] at ht0
   subst ht0
   rw [kindsS_bad (r0:=⟨0,-2⟩) (by decide)]
   refine ⟨fun h=>absurd (show (-2:Int) = -1 from h) (by decide),fun _=>?_⟩
   rw [hRS];unfold pmdE;rw [if_pos c0]
  ·rw [if_neg c0] at ht0
   subst ht0
   have hR2:RS=mdR L:=by rw [hRS];unfold pmdE;rw [if_neg c0,← hLe]
   rw [hR2]
   have hg:=kindsS_good L
   unfold mdR
   by_cases hz:L=[]
   ·rw [if_pos hz] at hg ⊢
    obtain ⟨h1,h2⟩:=hg
    rw [h1]
    exact ⟨fun q=>absurd q h2,fun _=>rfl⟩
   ·rw [if_neg hz] at hg ⊢
    cases hk:kdR L with
    | error e =>
     rw [hk] at hg
     obtain ⟨h1,h2⟩:=hg
     rw [h1]
     exact ⟨fun q=>absurd q h2,fun _=>rfl⟩
    | ok ks =>
     rw [hk] at hg
     rw [hg]
     exact ⟨fun _=>rfl,fun q=>absurd rfl q⟩
 generalize kindsS L ⟨0,t0⟩=K at *
 obtain ⟨r1,ks⟩:=K
 replace hki:ks.length≤4∧∀ k∈ks,inNum k.c∧inNum k.o:=hki
 replace hka:r1.a≤L.length:=hka
 replace hstart:(r1.t = -1→RS=mdEnd ks (mdL L ks (L.length+1) r1.a [] []))∧(r1.t≠-1→RS=.error r1.t):=hstart
 have hkc:∀ k∈ks,0≤k.c∧k.c≤1048575:=fun k hk=>by have:=(hki.2 k hk).1;unfold inNum at this;omega
 refine spec_of_awp_any (M:=MM) (np:=1) (X:=[8,9]) (fz:=false) mixed Tryz.func16 rfl rfl (by decide) rfl (Nat.le_refl _) (by decide +kernel) (.inl rfl) (by first | trivial | simp only [sigsOk_nil,sigsOk_some,sigsOk_none,sig_tr,sig_pt,sig_mt,sig_agg,List.map_cons,List.map_nil,sig1_tr,sig1_pt,sig1_v,and_self,true_and,List.length_map,List.length_set]) ?_
 simp -dsimp -implicitDefEqProofs (disch:=first|omega|(simp only [lenr];try omega)) only [↓amPre,↓reduceIte,reduceCtorEq,reduceEqDiff,Nat.reduceBEq,reduceAdd,reduceLeDiff,reduceSub,reduceMul,reduceToNat,MM,bu0,cbJ1,cbJ7]
 iterate 2 ((first|refine callP_of (hnew) ?_|refine callX_of (hkd) ?_);simp -dsimp -implicitDefEqProofs (disch:=first|omega|(simp only [lenr];try omega)) only [↓amPre,↓reduceIte,reduceCtorEq,reduceEqDiff,Nat.reduceBEq,reduceAdd,reduceLeDiff,reduceSub,reduceMul,reduceToNat,MM,bu0,cbJ1,cbJ7])
 refine awp_loopC 5 2 3 1 [ktr ks,.st [],.nilsl] (by simp -dsimp -implicitDefEqProofs (disch:=first|omega|(simp only [lenr];try omega)) only [↓amPre,↓reduceIte,reduceCtorEq,reduceEqDiff,Nat.reduceBEq,reduceAdd,reduceLeDiff,reduceSub,reduceMul,reduceToNat,MM,bu0,cbJ1,cbJ7]) (by simp) (by simp) (fun k st=>k≤(L.length+1)∧st.fr 4=.loc 10 [] 0 0∧st.fr 5=.loc 5 [] 0 0∧st.fr 2=.loc 2 [] 0 0∧st.mem 2=some (.pt 3 (.agg [.nilsl,.st [],.nilsl]))∧(∃ (r:Rd) (nm:Tx) (mv:List (List Twist)) (ag:Bool),st.fr 6=.bl ag∧st.mem 10=some (rdT L r)∧st.mem 5=some (.pt 3 (.agg [ktr ks,.st nm,tsst mv]))∧r.a≤L.length∧(if k=0 then true else moreS L r)=ag∧nm.length≤k+1048576∧mv.length=k∧(∀ x∈mv,smallT x)∧(r.t = -1→k≤r.a∧nm.length=k∧RS=mdEnd ks (mdL L ks (L.length+1 - k) r.a nm mv))∧(r.t≠-1→RS=.error r.t))) ((L.length+1)) ?_ ?_
 ·simp -dsimp -implicitDefEqProofs (disch:=first|omega|(simp only [lenr];try omega)) only [↓amPre,↓reduceIte,reduceCtorEq,reduceEqDiff,Nat.reduceBEq,reduceAdd,reduceLeDiff,reduceSub,reduceMul,reduceToNat,MM,bu0,cbJ1,cbJ7,nilC_eq]
  exact ⟨r1,[],[],true,rfl,rfl,rfl,hka,rfl,by simp,rfl,fun x hx=>(by cases hx),fun d=>⟨Nat.zero_le _,rfl,hstart.1 d⟩,hstart.2⟩
 rintro k st _ ⟨hk,f4,f5,f2,m2,ek⟩
 obtain ⟨r,nm,mv,ag,f6,m10,m5,ha,hag,hnl,hml,hmn,hgo,hbad⟩:=ek
 have hsm:smallM ⟨ks,nm,mv⟩:=⟨by show ks.length≤_;omega,by show nm.length≤_;omega,by show mv.length≤_;omega,hmn⟩
 cases ag with
 | false =>
  have hk0:k≠0:=fun q=>by rw [if_pos q] at hag;cases hag
  rw [if_neg hk0] at hag
  have hfin:(r.t = -1→RS=if modelOk ⟨ks,nm,mv⟩ then .ok ⟨ks,nm,mv⟩ else .error (-4))∧(r.t≠-1→RS=.error r.t):=by
   refine ⟨fun d=>?_,hbad⟩
   obtain ⟨g1,g2,g3⟩:=hgo d
   have hle:L.length≤r.a:=by
    unfold moreS at hag
    have:=of_decide_eq_false hag
    apply Decidable.byContradiction
    intro q
    exact this ⟨d,by omega⟩
   rw [g3,show L.length+1 - k=(L.length - k)+1 by omega,mdL,if_pos (by omega),if_neg (by intro q;rw [q] at hml;simp at hml;omega)]
   rfl
  rcases Classical.em (r.t = -1) with d | d
  ·by_cases c9:modelOk ⟨ks,nm,mv⟩
   ·have hres2:pmd s=(⟨ks,nm,mv⟩,-1):=by rw [hres,hfin.1 d,if_pos c9];rfl
    have hP:=iIsValidPieceModel ⟨ks,nm,mv⟩ hsm
    rw [decide_eq_true c9] at hP
    have hF:=finI L r true
    rw [d,if_neg (by decide)] at hF
    rw [hres2]
    simp -dsimp -implicitDefEqProofs (disch:=first|omega|(simp only [lenr];try omega)) only [↓amPre,↓reduceIte,reduceCtorEq,reduceEqDiff,Nat.reduceBEq,reduceAdd,reduceLeDiff,reduceSub,reduceMul,reduceToNat,MM,bu0,cbJ1,cbJ7,f4,f5,f2,m2,kfz,tssfz,f6,m10,m5]
    iterate 2 ((first|refine callP_of (hP) ?_|refine callP_of (hF) ?_);simp -dsimp -implicitDefEqProofs (disch:=first|omega|(simp only [lenr];try omega)) only [↓amPre,↓reduceIte,reduceCtorEq,reduceEqDiff,Nat.reduceBEq,reduceAdd,reduceLeDiff,reduceSub,reduceMul,reduceToNat,MM,bu0,cbJ1,cbJ7,f4,f5,f2,m2,kfz,tssfz,f6,m10,m5])
   ·have hres2:pmd s=(noM,-4):=by rw [hres,hfin.1 d,if_neg c9];rfl
    have hP:=iIsValidPieceModel ⟨ks,nm,mv⟩ hsm
    rw [decide_eq_false c9] at hP
    have hF:=finI L r false
    rw [d,if_pos (by decide)] at hF
    rw [hres2]
    simp -dsimp -implicitDefEqProofs (disch:=first|omega|(simp only [lenr];try omega)) only [↓amPre,↓reduceIte,reduceCtorEq,reduceEqDiff,Nat.reduceBEq,reduceAdd,reduceLeDiff,reduceSub,reduceMul,reduceToNat,MM,bu0,cbJ1,cbJ7,f4,f5,f2,m2,kfz,tssfz,f6,m10,m5]
    iterate 2 ((first|refine callP_of (hP) ?_|refine callP_of (hF) ?_);simp -dsimp -implicitDefEqProofs (disch:=first|omega|(simp only [lenr];try omega)) only [↓amPre,↓reduceIte,reduceCtorEq,reduceEqDiff,Nat.reduceBEq,reduceAdd,reduceLeDiff,reduceSub,reduceMul,reduceToNat,MM,bu0,cbJ1,cbJ7,f4,f5,f2,m2,kfz,tssfz,f6,m10,m5])
    exact ⟨rfl,rfl,rfl⟩
  ·have hres2:pmd s=(noM,r.t):=by rw [hres,hfin.2 d];rfl
   have hP:=iIsValidPieceModel ⟨ks,nm,mv⟩ hsm
   have hF:=finI L r (decide (modelOk ⟨ks,nm,mv⟩))
   rw [if_neg (fun q=>d q.1)] at hF
   rw [hres2]
   simp -dsimp -implicitDefEqProofs (disch:=first|omega|(simp only [lenr];try omega)) only [↓amPre,↓reduceIte,reduceCtorEq,reduceEqDiff,Nat.reduceBEq,reduceAdd,reduceLeDiff,reduceSub,reduceMul,reduceToNat,MM,bu0,cbJ1,cbJ7,f4,f5,f2,m2,kfz,tssfz,f6,m10,m5]
   refine callP_of (hP) ?_
   simp -dsimp -implicitDefEqProofs (disch:=first|omega|(simp only [lenr];try omega)) only [↓amPre,↓reduceIte,reduceCtorEq,reduceEqDiff,Nat.reduceBEq,reduceAdd,reduceLeDiff,reduceSub,reduceMul,reduceToNat,MM,bu0,cbJ1,cbJ7,f4,f5,f2,m2,kfz,tssfz,f6,m10,m5]
   refine callP_of (hF) ?_
   simp -dsimp -implicitDefEqProofs (disch:=first|omega|(simp only [lenr];try omega)) only [↓amPre,↓reduceIte,reduceCtorEq,reduceEqDiff,Nat.reduceBEq,reduceAdd,reduceLeDiff,reduceSub,reduceMul,reduceToNat,MM,bu0,cbJ1,cbJ7,f4,f5,f2,m2,kfz,tssfz,ne_true d,f6,m10,m5]
   exact ⟨rfl,rfl,rfl⟩
 | true =>
  have hlt:k<L.length+1:=by
   by_cases hk0:k=0
   ·omega
   ·rw [if_neg hk0] at hag
    unfold moreS at hag
    have:=of_decide_eq_true hag
    have:=(hgo this.1).1
    omega
  have wm:=wordsI L moveT 1 r hL ha (by omega)
  have hwa:=wordsS_a (f:=moveT) (c:=1) ha
  have hwl:=wordsS_len L moveT 1 r
  have hwm:=wordsS_mem hL moveT 1 r
  by_cases d:(wordsS L moveT 1 r).1.t = -1
  case neg =>
   have hE:RS=.error (wordsS L moveT 1 r).1.t:=by
    by_cases d1:r.t = -1
    ·obtain ⟨g1,g2,g3⟩:=hgo d1
     unfold wordsS at d ⊢
     rw [if_pos d1] at d ⊢
     by_cases d2:L.length≤r.a
     ·rw [if_pos d2]
      have hk0:k=0:=by
       apply Decidable.byContradiction
       intro hk0
       rw [if_neg hk0] at hag
       unfold moreS at hag
       have:=of_decide_eq_true hag
       omega
      subst hk0
      have hmv:mv=[]:=List.eq_nil_of_length_eq_zero hml
      rw [g3,show L.length+1 - 0=L.length+1 by omega,mdL,if_pos (by omega),if_pos hmv];rfl
     ·rw [if_neg d2] at d ⊢
      cases hw:lineW (lat L r.a) moveT 1 with
      | some ws=>rw [hw] at d;exact absurd rfl d
      | none =>
       have hM:lineN (lat L r.a)=none:=by unfold lineN;rw [hw]
       rw [g3,show L.length+1 - k=(L.length - k)+1 by omega,mdL,if_neg (by omega),hM];rfl
    ·rw [wordsS_bad d1];exact hbad d1
   generalize wordsS L moveT 1 r=w at *
   obtain ⟨r',ws⟩:=w
   replace hwl:ws.length=1:=hwl
   have hres2:pmd s=(noM,r'.t):=by rw [hres,hE];rfl
   have hP:=iIsValidPieceModel ⟨ks,nm,mv⟩ hsm
   have hF:=finI L r' (decide (modelOk ⟨ks,nm,mv⟩))
   rw [if_neg (fun q=>d q.1)] at hF
   rw [hres2]
   simp -dsimp -implicitDefEqProofs (disch:=first|omega|(simp only [lenr];try omega)) only [↓amPre,↓reduceIte,reduceCtorEq,reduceEqDiff,Nat.reduceBEq,reduceAdd,reduceLeDiff,reduceSub,reduceMul,reduceToNat,MM,bu0,cbJ1,cbJ7,f4,f5,f2,m2,kfz,tssfz,f6,m10,m5]
   refine callX_of (wm) ?_
   simp -dsimp -implicitDefEqProofs (disch:=first|omega|(simp only [lenr];try omega)) only [↓amPre,↓reduceIte,reduceCtorEq,reduceEqDiff,Nat.reduceBEq,reduceAdd,reduceLeDiff,reduceSub,reduceMul,reduceToNat,MM,bu0,cbJ1,cbJ7,f4,f5,f2,m2,kfz,tssfz,f6,m10,m5,hwl,ne_true d,(fun Q st=>blockQ_exit_ne Q st 1 0 rfl)]
   refine callP_of (hP) ?_
   simp -dsimp -implicitDefEqProofs (disch:=first|omega|(simp only [lenr];try omega)) only [↓amPre,↓reduceIte,reduceCtorEq,reduceEqDiff,Nat.reduceBEq,reduceAdd,reduceLeDiff,reduceSub,reduceMul,reduceToNat,MM,bu0,cbJ1,cbJ7,f4,f5,f2,m2,kfz,tssfz,f6,m10,m5]
   refine callP_of (hF) ?_
   simp -dsimp -implicitDefEqProofs (disch:=first|omega|(simp only [lenr];try omega)) only [↓amPre,↓reduceIte,reduceCtorEq,reduceEqDiff,Nat.reduceBEq,reduceAdd,reduceLeDiff,reduceSub,reduceMul,reduceToNat,MM,bu0,cbJ1,cbJ7,f4,f5,f2,m2,kfz,tssfz,ne_true d,f6,m10,m5]
   exact ⟨rfl,rfl,rfl⟩
  obtain ⟨d1,d2,ws,hw,hwe⟩:=wordsS_inv d
  obtain ⟨g1,g2,g3⟩:=hgo d1
  rw [hwe] at wm hwa hwl hwm
  replace hwl:ws.length=1:=hwl
  replace hwa:r.a+1≤L.length:=hwa
  replace hwm:∀ w∈ws,w.length≤1048576:=hwm
  obtain ⟨u,hws⟩:∃ u,ws=[u]:=by
   match ws,hwl with
   | [u],_=>exact ⟨u,rfl⟩
  rw [hws] at hw
  have hst:=md_step (ks:=ks) hw
  have hul:=hwm u (by simp [hws])
  have hna:=nameI L u ⟨r.a+1,-1⟩ (by show r.a+1≤_;omega) hul
  have htw:=twistsI L ks (nameS u ⟨r.a+1,-1⟩) hL (by rw [nameS_a];exact hwa) (by omega) hkc
  have hxl:=twS_len L ks (nameS u ⟨r.a+1,-1⟩) ks.length
  have hxs:=twS_small (L:=L) (r:=nameS u ⟨r.a+1,-1⟩) hki.1 hki.2
  have hxa:=twS_a (L:=L) (ks:=ks) (r:=nameS u ⟨r.a+1,-1⟩) (by rw [nameS_a];exact hwa) ks.length
  generalize twS L ks (nameS u ⟨r.a+1,-1⟩) ks.length=v at *
  generalize nameS u ⟨r.a+1,-1⟩=r2 at *
  obtain ⟨r3,x⟩:=v
  replace hxl:x.length=ks.length:=hxl
  have hmo:=moreI L r3 hll
  have hwg:ws.getD 0 []=u:=by rw [hws];rfl
  simp -dsimp -implicitDefEqProofs (disch:=first|omega|(simp only [lenr];try omega)) only [↓amPre,↓reduceIte,reduceCtorEq,reduceEqDiff,Nat.reduceBEq,reduceAdd,reduceLeDiff,reduceSub,reduceMul,reduceToNat,MM,bu0,cbJ1,cbJ7,f4,f5,f2,m2,kfz,tssfz,f6,m10,m5]
  refine callX_of (wm) ?_
  simp -dsimp -implicitDefEqProofs (disch:=first|omega|(simp only [lenr];try omega)) only [↓amPre,↓reduceIte,reduceCtorEq,reduceEqDiff,Nat.reduceBEq,reduceAdd,reduceLeDiff,reduceSub,reduceMul,reduceToNat,MM,bu0,cbJ1,cbJ7,f4,f5,f2,m2,kfz,tssfz,f6,m10,m5,hwl,hwg]
  refine piv_go 5 4 10 (by decide +kernel) ?_
  simp -dsimp -implicitDefEqProofs (disch:=first|omega|(simp only [lenr];try omega)) only [↓amPre,↓reduceIte,reduceCtorEq,reduceEqDiff,Nat.reduceBEq,reduceAdd,reduceLeDiff,reduceSub,reduceMul,reduceToNat,MM,bu0,cbJ1,cbJ7,f4,f5,f2,m2,kfz,tssfz,f6,m10,m5,hwl,hwg]
  refine pvX_of (hna) ?_
  simp -dsimp -implicitDefEqProofs (disch:=first|omega|(simp only [lenr];try omega)) only [↓amPre,↓reduceIte,reduceCtorEq,reduceEqDiff,Nat.reduceBEq,reduceAdd,reduceLeDiff,reduceSub,reduceMul,reduceToNat,MM,bu0,cbJ1,cbJ7,f4,f5,f2,m2,kfz,tssfz,f6,m10,m5,hwl,hwg]
  refine lat_go [[],[0],[],[],[3],[2,3,4],[2,3,4,5],[0,1,2,3,4,5,6],[0,1,2,3,4,5,6,7],[0,1,2,3,4,5,6,7,8]] [[1,7,8,9],[7,8,9],[5,6,7,8,9],[4,5,6,7,8,9],[5,6,7,8,9],[6,7,8,9],[7,8,9],[8,9],[9],[]] [0,1,2,3,4,5,6,7,8,9] (fun c st=>st.fr 4=.loc 10 [] 0 0∧st.fr 5=.loc 5 [] 0 0∧st.fr 2=.loc 2 [] 0 0∧(c 0=true→st.fr 33=.loc 5 [] 0 2)∧(c 1=true→c 7=false→st.fr 34=.ref 5 [(0,2)] 1 0 k)∧(c 2=true→st.fr 35=.loc 10 [] 0 0)∧(c 3=true→st.fr 36=.loc 5 [] 0 0)∧(c 4=true→st.fr 37=.ref 5 [(0,0)] 2 0 ks.length)∧(c 5=true→c 7=false→st.fr 38=.ref 38 [] 2 0 ks.length)∧(c 6=true→c 7=false→st.fr 39=.lst 1 [.ref 38 [] 2 0 ks.length])∧(c 7=true→c 9=false→st.fr 40=.ref 40 [] 1 0 (k+1))∧(c 8=true→st.fr 41=.loc 5 [] 0 2)∧st.mem 2=some (.pt 3 (.agg [.nilsl,.st [],.nilsl]))∧st.mem 10=some (bif c 5 then (rdT L r3) else (rdT L r2))∧st.mem 5=some (bif c 9 then (.pt 3 (.agg [ktr ks,.st (nm++u),tsst (mv++[x])])) else (bif c 7 then (.pt 3 (.agg [ktr ks,.st (nm++u),.any])) else (.pt 3 (.agg [ktr ks,.st (nm++u),tsst mv]))))∧(c 5=true→c 7=false→st.mem 38=some (ttr x))∧(c 7=true→c 9=false→st.mem 40=some (tsst (mv++[x])))) (by decide +kernel) ?_ ?_ ?_
  ·(try simp -dsimp -implicitDefEqProofs (disch:=first|omega|(simp only [lenr];try omega)) only [↓amPre,↓reduceIte,reduceCtorEq,reduceEqDiff,Nat.reduceBEq,reduceAdd,reduceLeDiff,reduceSub,reduceMul,reduceToNat,MM,bu0,cbJ1,cbJ7,latj,kfz,hxl,hml,f4,f5,f2,m2,f6,m10,m5,hwl])
   all_goals (try (repeat' (first | apply And.intro | rfl | (intro _;rfl) | (intro _ _;rfl))))
  ·refine ⟨?_,?_,?_,?_,?_,?_,?_,?_,?_,?_,trivial⟩
   all_goals rintro c st R hC hJ hR
   all_goals simp only [latm] at hC
   all_goals simp only [hC,latj] at hJ
   all_goals simp -dsimp -implicitDefEqProofs (disch:=first|omega|(simp only [lenr];try omega)) only [↓amPre,↓reduceIte,reduceCtorEq,reduceEqDiff,Nat.reduceBEq,reduceAdd,reduceLeDiff,reduceSub,reduceMul,reduceToNat,MM,bu0,cbJ1,cbJ7,hJ,kfz,hxl,hml]
   all_goals (try (refine callX_of htw ?_;simp -dsimp -implicitDefEqProofs (disch:=first|omega|(simp only [lenr];try omega)) only [↓amPre,↓reduceIte,reduceCtorEq,reduceEqDiff,Nat.reduceBEq,reduceAdd,reduceLeDiff,reduceSub,reduceMul,reduceToNat,MM,bu0,cbJ1,cbJ7,hJ,kfz,hxl,hml]))
   all_goals refine hR _ ?_
   all_goals (simp +contextual -dsimp -implicitDefEqProofs only [amAll,↓reduceIte,reduceCtorEq,reduceEqDiff,Nat.reduceBEq,reduceAdd,latj,hC,hJ,kfz,hxl,hml];try (repeat' (first | apply And.intro | rfl | (intro _;rfl) | (intro _ _;rfl))))
  intro c st hall hJ
  simp only [latm] at hall
  simp only [hall,latj] at hJ
  obtain ⟨f4,f5,f2,f33,f35,f36,f37,f41,m2,m10,m5⟩:=hJ
  clear hall
  simp -dsimp -implicitDefEqProofs (disch:=first|omega|(simp only [lenr];try omega)) only [↓amPre,↓reduceIte,reduceCtorEq,reduceEqDiff,Nat.reduceBEq,reduceAdd,reduceLeDiff,reduceSub,reduceMul,reduceToNat,MM,bu0,cbJ1,cbJ7,f4,f5,f2,m2,m10,m5]
  refine callP_of (hmo) ?_
  simp -dsimp -implicitDefEqProofs (disch:=first|omega|(simp only [lenr];try omega)) only [↓amPre,↓reduceIte,reduceCtorEq,reduceEqDiff,Nat.reduceBEq,reduceAdd,reduceLeDiff,reduceSub,reduceMul,reduceToNat,MM,bu0,cbJ1,cbJ7,f4,f5,f2,m2,m10,m5]
  refine ⟨hlt,by omega,r3,nm++u,mv++[x],moreS L r3,rfl,rfl,rfl,hxa,rfl,?_,by simp [hml],?_,fun d9=>?_,fun d9=>?_⟩
  ·simp only [List.length_append];omega
  ·intro y hy
   rcases List.mem_append.1 hy with hy | hy
   ·exact hmn y hy
   ·rw [List.mem_singleton.1 hy];exact hxs
  ·obtain ⟨s1,s2,s3,s4⟩:=hst.1 d9
   replace s4:r3=⟨r.a+1+2*ks.length,-1⟩:=s4
   refine ⟨by rw [s4];show k+1≤r.a+1+2*ks.length;omega,by rw [List.length_append,g2,s2.1],?_⟩
   rw [g3,show L.length+1 - k=(L.length+1 - (k+1))+1 by omega,mdL,if_neg (by omega),s1,s4]
   dsimp only
   rw [s3]
  ·rcases hst.2 d9 with ⟨s1,s2⟩ | ⟨s1,s2⟩
   ·replace s2:r3.t=r.a:=s2
    rw [g3,show L.length+1 - k=(L.length+1 - (k+1))+1 by omega,mdL,if_neg (by omega),s1,s2];rfl
   ·rw [g3,show L.length+1 - k=(L.length+1 - (k+1))+1 by omega,mdL,if_neg (by omega),s1]
    dsimp only
    rw [s2];rfl
end Ps
end Go.AM
set_option maxRecDepth 8000
namespace Go.AM
open Go.Proofs
open Ps (ppz pmd pst)
theorem ppz_small (s:List UInt8):smallP (ppz s).1∧cnts (ppz s).1.mv≤160:=by
 rcases Ps.ppz_cases s with ⟨p,hp,_,ok⟩ | ⟨e,he,_⟩
 ·rw [hp]
  have h1:=ok.1.1
  have h2:=ok.1.2.1
  have h3:=ok.2.2
  have h4:∀ s∈p.mv,s.length≤20:=fun s hs=>by have:=ok.1.2.2 s hs;have:=this.1;omega
  refine ⟨⟨by show intOk p.n;unfold intOk;omega,by show p.nm.length≤_;omega,by show p.mv.length≤_;omega,fun s hs=>by have:=h4 s hs;omega⟩,?_⟩
  have:=cnts_bound p.mv 20 h4
  show cnts p.mv≤160
  omega
 ·rw [he]
  exact ⟨⟨by show intOk 0;unfold intOk;omega,by simp [Ps.noP],by simp [Ps.noP],fun s hs=>by cases hs⟩,by simp [Ps.noP,cnts]⟩
theorem ps_cnt {ks:List Kind} {s:List Twist} (h:psOk ks s):smallT s∧s.length≤3∧cnts s≤120:=by
 have hk:=h.1.1
 have hl:=h.2.1
 have ht:∀ t∈s,t.to.length≤20∧t.by'.length≤20:=fun t ht=>by
  obtain ⟨i,hi,rfl⟩:=List.getElem_of_mem ht
  have h1:=h.2.2 i (by omega)
  rw [getD_eq _ _ _ hi] at h1
  have h2:=kindsOk_kind h.1 (mem_getD ks i default (by omega))
  have:=h1.1;have:=h1.2.1
  omega
 have hc:=cnts_bound s 40 fun t h2=>by have:=ht t h2;show t.to.length+t.by'.length≤40;omega
 exact ⟨⟨by omega,fun t h2=>by have:=ht t h2;omega⟩,by omega,by omega⟩
theorem pmd_small (s:List UInt8):smallM (pmd s).1∧(pmd s).1.ks.length≤3∧cnts (pmd s).1.mv≤960:=by
 rcases Ps.pmd_cases s with ⟨m,hm,_,ok⟩ | ⟨e,he,_⟩
 ·rw [hm]
  have h1:=ok.1.1
  have h2:=ok.2.1.2
  have h3:=ok.2.2.1
  have h4:∀ x∈m.mv,smallT x∧x.length≤3∧cnts x≤120:=fun x hx=>ps_cnt (ok.2.2.2 x hx)
  have hc:=cnts_bound m.mv 120 fun x hx=>(h4 x hx).2.2
  refine ⟨⟨by show m.ks.length≤_;omega,by show m.nm.length≤_;omega,by show m.mv.length≤_;omega,fun x hx=>(h4 x hx).1⟩,h1.2,?_⟩
  show cnts m.mv≤960
  omega
 ·rw [he]
  exact ⟨⟨by simp [Ps.noM],by simp [Ps.noM],by simp [Ps.noM],fun s hs=>by cases hs⟩,by simp [Ps.noM],by simp [Ps.noM,cnts]⟩
end Go.AM
set_option maxRecDepth 8000
namespace Go.AM
namespace Dx
open Go.Proofs
open Ps (Tx ppz pmd parsePuzzleI parsePuzzleS parseModelI parseModelS)
open Door (puzT mdT iFormatPuzzle iFormatPM sFormatPM)
open Draws (bsl bigF)
theorem pmd_fwd {m:Model} (h:modelOk m):pmd (mdT m)=(m,-1):=by
 unfold pmd;rw [Ps.mod_fwd h];rfl
theorem ppz_txt {t:Tx} (h:(ppz t).2 = -1):puzT (ppz t).1=t:=by
 rcases Ps.ppz_cases t with ⟨p,hp,hpe,_⟩ | ⟨e,he,_,hne⟩
 ·rw [hp];exact Ps.puz_back hpe
 ·rw [he] at h;exact absurd h hne
theorem pmd_txt {t:Tx} (h:(pmd t).2 = -1):mdT (pmd t).1=t:=by
 rcases Ps.pmd_cases t with ⟨p,hp,hpe,_⟩ | ⟨e,he,_,hne⟩
 ·rw [hp];exact Ps.mod_back hpe
 ·rw [he] at h;exact absurd h hne
theorem lawDescr (l:List UInt8) (w:l.length≤9223372036854775807):SpecAt Tryz.prog 5 [bsl l] (.bl true):=by
 have qb:=bigF l
 by_cases c:(4096:Int)<l.length
 ·refine spec_of_awp (M:=MM) (np:=1) (fz:=true) mixed Tryz.func5 rfl rfl (by decide) rfl (Nat.le_refl _) (by decide +kernel) (.inr ⟨rfl,rfl⟩) trivial ?_
  simp -dsimp -implicitDefEqProofs (disch:=first|omega|(simp only [lenr];try omega)) only [↓amPre,↓reduceIte,reduceCtorEq,reduceEqDiff,Nat.reduceBEq,reduceAdd,reduceLeDiff,reduceSub,reduceMul,reduceToNat,MM,bu0,cbJ1,cbJ16,cbU49]
  refine callP_of (qb) ?_
  simp -dsimp -implicitDefEqProofs (disch:=first|omega|(simp only [lenr];try omega)) only [↓amPre,↓reduceIte,reduceCtorEq,reduceEqDiff,Nat.reduceBEq,reduceAdd,reduceLeDiff,reduceSub,reduceMul,reduceToNat,MM,bu0,cbJ1,cbJ16,cbU49,decide_eq_true c]
 rw [decide_eq_false c] at qb
 obtain ⟨t,q0,ht⟩:=drawPP l (by omega)
 obtain ⟨u,r0,hu⟩:=drawPM l (by omega)
 obtain ⟨m,v0,hm⟩:=drawFM l (by omega)
 have hsm:=fewM_small hm
 have q1:=parsePuzzleI t (by omega)
 have q2:=parsePuzzleS t (by omega)
 have q3:=iFormatPuzzle (ppz t).1 (ppz_small t).1
 have q4:(ppz t).2 = -1→puzT (ppz t).1=t:=ppz_txt
 have r1:=parseModelI u (by omega)
 have r2:=parseModelS u (by omega)
 have r3:=iFormatPM (pmd u).1 (pmd_small u).1
 have r4:(pmd u).2 = -1→mdT (pmd u).1=u:=pmd_txt
 have v1:=iFormatPM m hsm
 have v2:=sFormatPM m hsm
 have v3:=sIsValidPieceModel m hsm
 have hml:=mdT_len m
 have v4:modelOk m→SpecAt Tryz.prog 16 [.st (mdT m)] (.tup [m.tr,.i64 (-1)]):=fun h=>by
  have:=parseModelI (mdT m) (by omega)
  rw [pmd_fwd h] at this
  exact this
 have v5:=Ps.mdT_nil m
 generalize (ppz t).1=p at *
 generalize (ppz t).2=a at *
 generalize (pmd u).1=x at *
 generalize (pmd u).2=b at *
 generalize mdT m=T at *
 have he:(([]:Tx) == [])=true:=rfl
 have hbt:(!(t == t))=false:=by simp
 have hbu:(!(u == u))=false:=by simp
 refine spec_of_awp_any (M:=MM) (np:=1) (X:=[18]) (fz:=true) mixed Tryz.func5 rfl rfl (by decide) rfl (Nat.le_refl _) (by decide +kernel) (.inr ⟨rfl,rfl⟩) trivial ?_
 simp -dsimp -implicitDefEqProofs (disch:=first|omega|(simp only [lenr];try omega)) only [↓amPre,↓reduceIte,reduceCtorEq,reduceEqDiff,Nat.reduceBEq,reduceAdd,reduceLeDiff,reduceSub,reduceMul,reduceToNat,MM,bu0,cbJ1,cbJ16,cbU49]
 refine callP_of (qb) ?_
 simp -dsimp -implicitDefEqProofs (disch:=first|omega|(simp only [lenr];try omega)) only [↓amPre,↓reduceIte,reduceCtorEq,reduceEqDiff,Nat.reduceBEq,reduceAdd,reduceLeDiff,reduceSub,reduceMul,reduceToNat,MM,bu0,cbJ1,cbJ16,cbU49]
 iterate 3 ((first|refine callP_of (q0) ?_|refine callP_of (q1) ?_|refine callP_of (q2) ?_);simp -dsimp -implicitDefEqProofs (disch:=first|omega|(simp only [lenr];try omega)) only [↓amPre,↓reduceIte,reduceCtorEq,reduceEqDiff,Nat.reduceBEq,reduceAdd,reduceLeDiff,reduceSub,reduceMul,reduceToNat,MM,bu0,cbJ1,cbJ16,cbU49,ssfz,bne_self_eq_false])
 by_cases ca:a = -1
 ·subst ca
  have q5:=q4 rfl
  rw [q5] at q3
  simp -dsimp -implicitDefEqProofs (disch:=first|omega|(simp only [lenr];try omega)) only [↓amPre,↓reduceIte,reduceCtorEq,reduceEqDiff,Nat.reduceBEq,reduceAdd,reduceLeDiff,reduceSub,reduceMul,reduceToNat,MM,bu0,cbJ1,cbJ16,cbU49,ssfz,bne_self_eq_false]
  refine callP_of (q3) ?_
  simp -dsimp -implicitDefEqProofs (disch:=first|omega|(simp only [lenr];try omega)) only [↓amPre,↓reduceIte,reduceCtorEq,reduceEqDiff,Nat.reduceBEq,reduceAdd,reduceLeDiff,reduceSub,reduceMul,reduceToNat,MM,bu0,cbJ1,cbJ16,cbU49,ssfz,bne_self_eq_false,hbt]
  iterate 3 ((first|refine callP_of (r0) ?_|refine callP_of (r1) ?_|refine callP_of (r2) ?_);simp -dsimp -implicitDefEqProofs (disch:=first|omega|(simp only [lenr];try omega)) only [↓amPre,↓reduceIte,reduceCtorEq,reduceEqDiff,Nat.reduceBEq,reduceAdd,reduceLeDiff,reduceSub,reduceMul,reduceToNat,MM,bu0,cbJ1,cbJ16,cbU49,ssfz,kfz,tssfz,bne_self_eq_false])
  by_cases cb:b = -1
  ·subst cb
   have r5:=r4 rfl
   rw [r5] at r3
   simp -dsimp -implicitDefEqProofs (disch:=first|omega|(simp only [lenr];try omega)) only [↓amPre,↓reduceIte,reduceCtorEq,reduceEqDiff,Nat.reduceBEq,reduceAdd,reduceLeDiff,reduceSub,reduceMul,reduceToNat,MM,bu0,cbJ1,cbJ16,cbU49,ssfz,kfz,tssfz,bne_self_eq_false]
   refine callP_of (r3) ?_
   simp -dsimp -implicitDefEqProofs (disch:=first|omega|(simp only [lenr];try omega)) only [↓amPre,↓reduceIte,reduceCtorEq,reduceEqDiff,Nat.reduceBEq,reduceAdd,reduceLeDiff,reduceSub,reduceMul,reduceToNat,MM,bu0,cbJ1,cbJ16,cbU49,ssfz,kfz,tssfz,bne_self_eq_false,hbu]
   iterate 2 ((first|refine callP_of (v0) ?_|refine callP_of (v1) ?_);simp -dsimp -implicitDefEqProofs (disch:=first|omega|(simp only [lenr];try omega)) only [↓amPre,↓reduceIte,reduceCtorEq,reduceEqDiff,Nat.reduceBEq,reduceAdd,reduceLeDiff,reduceSub,reduceMul,reduceToNat,MM,bu0,cbJ1,cbJ16,cbU49,ssfz,kfz,tssfz,bne_self_eq_false])
   by_cases vm:modelOk m
   ·rw [decide_eq_true vm] at v3
    have hT:(T == ([]:Tx))=false:=by
     have:¬ T=[]:=fun q=>v5.1 q vm
     simpa using this
    simp -dsimp -implicitDefEqProofs (disch:=first|omega|(simp only [lenr];try omega)) only [↓amPre,↓reduceIte,reduceCtorEq,reduceEqDiff,Nat.reduceBEq,reduceAdd,reduceLeDiff,reduceSub,reduceMul,reduceToNat,MM,bu0,cbJ1,cbJ16,cbU49,ssfz,kfz,tssfz,bne_self_eq_false,hT]
    refine callP_of (v4 vm) ?_
    simp -dsimp -implicitDefEqProofs (disch:=first|omega|(simp only [lenr];try omega)) only [↓amPre,↓reduceIte,reduceCtorEq,reduceEqDiff,Nat.reduceBEq,reduceAdd,reduceLeDiff,reduceSub,reduceMul,reduceToNat,MM,bu0,cbJ1,cbJ16,cbU49,ssfz,kfz,tssfz,bne_self_eq_false]
    refine split_go 10 (by decide +kernel) ?_
    simp -dsimp -implicitDefEqProofs (disch:=first|omega|(simp only [lenr];try omega)) only [↓amPre,↓reduceIte,reduceCtorEq,reduceEqDiff,Nat.reduceBEq,reduceAdd,reduceLeDiff,reduceSub,reduceMul,reduceToNat,MM,bu0,cbJ1,cbJ16,cbU49,ssfz,kfz,tssfz,bne_self_eq_false]
    iterate 2 ((first|refine callP_of (v2) ?_);simp -dsimp -implicitDefEqProofs (disch:=first|omega|(simp only [lenr];try omega)) only [↓amPre,↓reduceIte,reduceCtorEq,reduceEqDiff,Nat.reduceBEq,reduceAdd,reduceLeDiff,reduceSub,reduceMul,reduceToNat,MM,bu0,cbJ1,cbJ16,cbU49,ssfz,kfz,tssfz,bne_self_eq_false,beq_self_eq_true])
   ·rw [decide_eq_false vm] at v3
    have hT:T=[]:=v5.2 vm
    rw [hT] at *
    simp -dsimp -implicitDefEqProofs (disch:=first|omega|(simp only [lenr];try omega)) only [↓amPre,↓reduceIte,reduceCtorEq,reduceEqDiff,Nat.reduceBEq,reduceAdd,reduceLeDiff,reduceSub,reduceMul,reduceToNat,MM,bu0,cbJ1,cbJ16,cbU49,ssfz,kfz,tssfz,bne_self_eq_false,he]
    refine callP_of (v3) ?_
    simp -dsimp -implicitDefEqProofs (disch:=first|omega|(simp only [lenr];try omega)) only [↓amPre,↓reduceIte,reduceCtorEq,reduceEqDiff,Nat.reduceBEq,reduceAdd,reduceLeDiff,reduceSub,reduceMul,reduceToNat,MM,bu0,cbJ1,cbJ16,cbU49,ssfz,kfz,tssfz,bne_self_eq_false]
  ·have hb:(b == (-1:Int))=false:=by simpa using cb
   simp -dsimp -implicitDefEqProofs (disch:=first|omega|(simp only [lenr];try omega)) only [↓amPre,↓reduceIte,reduceCtorEq,reduceEqDiff,Nat.reduceBEq,reduceAdd,reduceLeDiff,reduceSub,reduceMul,reduceToNat,MM,bu0,cbJ1,cbJ16,cbU49,ssfz,kfz,tssfz,bne_self_eq_false,hb]
   iterate 2 ((first|refine callP_of (v0) ?_|refine callP_of (v1) ?_);simp -dsimp -implicitDefEqProofs (disch:=first|omega|(simp only [lenr];try omega)) only [↓amPre,↓reduceIte,reduceCtorEq,reduceEqDiff,Nat.reduceBEq,reduceAdd,reduceLeDiff,reduceSub,reduceMul,reduceToNat,MM,bu0,cbJ1,cbJ16,cbU49,ssfz,kfz,tssfz,bne_self_eq_false])
   by_cases vm:modelOk m
   ·rw [decide_eq_true vm] at v3
    have hT:(T == ([]:Tx))=false:=by
     have:¬ T=[]:=fun q=>v5.1 q vm
     simpa using this
    simp -dsimp -implicitDefEqProofs (disch:=first|omega|(simp only [lenr];try omega)) only [↓amPre,↓reduceIte,reduceCtorEq,reduceEqDiff,Nat.reduceBEq,reduceAdd,reduceLeDiff,reduceSub,reduceMul,reduceToNat,MM,bu0,cbJ1,cbJ16,cbU49,ssfz,kfz,tssfz,bne_self_eq_false,hT]
    refine callP_of (v4 vm) ?_
    simp -dsimp -implicitDefEqProofs (disch:=first|omega|(simp only [lenr];try omega)) only [↓amPre,↓reduceIte,reduceCtorEq,reduceEqDiff,Nat.reduceBEq,reduceAdd,reduceLeDiff,reduceSub,reduceMul,reduceToNat,MM,bu0,cbJ1,cbJ16,cbU49,ssfz,kfz,tssfz,bne_self_eq_false]
    refine split_go 10 (by decide +kernel) ?_
    simp -dsimp -implicitDefEqProofs (disch:=first|omega|(simp only [lenr];try omega)) only [↓amPre,↓reduceIte,reduceCtorEq,reduceEqDiff,Nat.reduceBEq,reduceAdd,reduceLeDiff,reduceSub,reduceMul,reduceToNat,MM,bu0,cbJ1,cbJ16,cbU49,ssfz,kfz,tssfz,bne_self_eq_false]
    iterate 2 ((first|refine callP_of (v2) ?_);simp -dsimp -implicitDefEqProofs (disch:=first|omega|(simp only [lenr];try omega)) only [↓amPre,↓reduceIte,reduceCtorEq,reduceEqDiff,Nat.reduceBEq,reduceAdd,reduceLeDiff,reduceSub,reduceMul,reduceToNat,MM,bu0,cbJ1,cbJ16,cbU49,ssfz,kfz,tssfz,bne_self_eq_false,beq_self_eq_true])
   ·rw [decide_eq_false vm] at v3
    have hT:T=[]:=v5.2 vm
    rw [hT] at *
    simp -dsimp -implicitDefEqProofs (disch:=first|omega|(simp only [lenr];try omega)) only [↓amPre,↓reduceIte,reduceCtorEq,reduceEqDiff,Nat.reduceBEq,reduceAdd,reduceLeDiff,reduceSub,reduceMul,reduceToNat,MM,bu0,cbJ1,cbJ16,cbU49,ssfz,kfz,tssfz,bne_self_eq_false,he]
    refine callP_of (v3) ?_
    simp -dsimp -implicitDefEqProofs (disch:=first|omega|(simp only [lenr];try omega)) only [↓amPre,↓reduceIte,reduceCtorEq,reduceEqDiff,Nat.reduceBEq,reduceAdd,reduceLeDiff,reduceSub,reduceMul,reduceToNat,MM,bu0,cbJ1,cbJ16,cbU49,ssfz,kfz,tssfz,bne_self_eq_false]
 ·have ha:(a == (-1:Int))=false:=by simpa using ca
  simp -dsimp -implicitDefEqProofs (disch:=first|omega|(simp only [lenr];try omega)) only [↓amPre,↓reduceIte,reduceCtorEq,reduceEqDiff,Nat.reduceBEq,reduceAdd,reduceLeDiff,reduceSub,reduceMul,reduceToNat,MM,bu0,cbJ1,cbJ16,cbU49,ssfz,bne_self_eq_false,ha]
  iterate 3 ((first|refine callP_of (r0) ?_|refine callP_of (r1) ?_|refine callP_of (r2) ?_);simp -dsimp -implicitDefEqProofs (disch:=first|omega|(simp only [lenr];try omega)) only [↓amPre,↓reduceIte,reduceCtorEq,reduceEqDiff,Nat.reduceBEq,reduceAdd,reduceLeDiff,reduceSub,reduceMul,reduceToNat,MM,bu0,cbJ1,cbJ16,cbU49,ssfz,kfz,tssfz,bne_self_eq_false])
  by_cases cb:b = -1
  ·subst cb
   have r5:=r4 rfl
   rw [r5] at r3
   simp -dsimp -implicitDefEqProofs (disch:=first|omega|(simp only [lenr];try omega)) only [↓amPre,↓reduceIte,reduceCtorEq,reduceEqDiff,Nat.reduceBEq,reduceAdd,reduceLeDiff,reduceSub,reduceMul,reduceToNat,MM,bu0,cbJ1,cbJ16,cbU49,ssfz,kfz,tssfz,bne_self_eq_false]
   refine callP_of (r3) ?_
   simp -dsimp -implicitDefEqProofs (disch:=first|omega|(simp only [lenr];try omega)) only [↓amPre,↓reduceIte,reduceCtorEq,reduceEqDiff,Nat.reduceBEq,reduceAdd,reduceLeDiff,reduceSub,reduceMul,reduceToNat,MM,bu0,cbJ1,cbJ16,cbU49,ssfz,kfz,tssfz,bne_self_eq_false,hbu]
   iterate 2 ((first|refine callP_of (v0) ?_|refine callP_of (v1) ?_);simp -dsimp -implicitDefEqProofs (disch:=first|omega|(simp only [lenr];try omega)) only [↓amPre,↓reduceIte,reduceCtorEq,reduceEqDiff,Nat.reduceBEq,reduceAdd,reduceLeDiff,reduceSub,reduceMul,reduceToNat,MM,bu0,cbJ1,cbJ16,cbU49,ssfz,kfz,tssfz,bne_self_eq_false])
   by_cases vm:modelOk m
   ·rw [decide_eq_true vm] at v3
    have hT:(T == ([]:Tx))=false:=by
     have:¬ T=[]:=fun q=>v5.1 q vm
     simpa using this
    simp -dsimp -implicitDefEqProofs (disch:=first|omega|(simp only [lenr];try omega)) only [↓amPre,↓reduceIte,reduceCtorEq,reduceEqDiff,Nat.reduceBEq,reduceAdd,reduceLeDiff,reduceSub,reduceMul,reduceToNat,MM,bu0,cbJ1,cbJ16,cbU49,ssfz,kfz,tssfz,bne_self_eq_false,hT]
    refine callP_of (v4 vm) ?_
    simp -dsimp -implicitDefEqProofs (disch:=first|omega|(simp only [lenr];try omega)) only [↓amPre,↓reduceIte,reduceCtorEq,reduceEqDiff,Nat.reduceBEq,reduceAdd,reduceLeDiff,reduceSub,reduceMul,reduceToNat,MM,bu0,cbJ1,cbJ16,cbU49,ssfz,kfz,tssfz,bne_self_eq_false]
    refine split_go 10 (by decide +kernel) ?_
    simp -dsimp -implicitDefEqProofs (disch:=first|omega|(simp only [lenr];try omega)) only [↓amPre,↓reduceIte,reduceCtorEq,reduceEqDiff,Nat.reduceBEq,reduceAdd,reduceLeDiff,reduceSub,reduceMul,reduceToNat,MM,bu0,cbJ1,cbJ16,cbU49,ssfz,kfz,tssfz,bne_self_eq_false]
    iterate 2 ((first|refine callP_of (v2) ?_);simp -dsimp -implicitDefEqProofs (disch:=first|omega|(simp only [lenr];try omega)) only [↓amPre,↓reduceIte,reduceCtorEq,reduceEqDiff,Nat.reduceBEq,reduceAdd,reduceLeDiff,reduceSub,reduceMul,reduceToNat,MM,bu0,cbJ1,cbJ16,cbU49,ssfz,kfz,tssfz,bne_self_eq_false,beq_self_eq_true])
   ·rw [decide_eq_false vm] at v3
    have hT:T=[]:=v5.2 vm
    rw [hT] at *
    simp -dsimp -implicitDefEqProofs (disch:=first|omega|(simp only [lenr];try omega)) only [↓amPre,↓reduceIte,reduceCtorEq,reduceEqDiff,Nat.reduceBEq,reduceAdd,reduceLeDiff,reduceSub,reduceMul,reduceToNat,MM,bu0,cbJ1,cbJ16,cbU49,ssfz,kfz,tssfz,bne_self_eq_false,he]
    refine callP_of (v3) ?_
    simp -dsimp -implicitDefEqProofs (disch:=first|omega|(simp only [lenr];try omega)) only [↓amPre,↓reduceIte,reduceCtorEq,reduceEqDiff,Nat.reduceBEq,reduceAdd,reduceLeDiff,reduceSub,reduceMul,reduceToNat,MM,bu0,cbJ1,cbJ16,cbU49,ssfz,kfz,tssfz,bne_self_eq_false]
  ·have hb:(b == (-1:Int))=false:=by simpa using cb
   simp -dsimp -implicitDefEqProofs (disch:=first|omega|(simp only [lenr];try omega)) only [↓amPre,↓reduceIte,reduceCtorEq,reduceEqDiff,Nat.reduceBEq,reduceAdd,reduceLeDiff,reduceSub,reduceMul,reduceToNat,MM,bu0,cbJ1,cbJ16,cbU49,ssfz,kfz,tssfz,bne_self_eq_false,hb]
   iterate 2 ((first|refine callP_of (v0) ?_|refine callP_of (v1) ?_);simp -dsimp -implicitDefEqProofs (disch:=first|omega|(simp only [lenr];try omega)) only [↓amPre,↓reduceIte,reduceCtorEq,reduceEqDiff,Nat.reduceBEq,reduceAdd,reduceLeDiff,reduceSub,reduceMul,reduceToNat,MM,bu0,cbJ1,cbJ16,cbU49,ssfz,kfz,tssfz,bne_self_eq_false])
   by_cases vm:modelOk m
   ·rw [decide_eq_true vm] at v3
    have hT:(T == ([]:Tx))=false:=by
     have:¬ T=[]:=fun q=>v5.1 q vm
     simpa using this
    simp -dsimp -implicitDefEqProofs (disch:=first|omega|(simp only [lenr];try omega)) only [↓amPre,↓reduceIte,reduceCtorEq,reduceEqDiff,Nat.reduceBEq,reduceAdd,reduceLeDiff,reduceSub,reduceMul,reduceToNat,MM,bu0,cbJ1,cbJ16,cbU49,ssfz,kfz,tssfz,bne_self_eq_false,hT]
    refine callP_of (v4 vm) ?_
    simp -dsimp -implicitDefEqProofs (disch:=first|omega|(simp only [lenr];try omega)) only [↓amPre,↓reduceIte,reduceCtorEq,reduceEqDiff,Nat.reduceBEq,reduceAdd,reduceLeDiff,reduceSub,reduceMul,reduceToNat,MM,bu0,cbJ1,cbJ16,cbU49,ssfz,kfz,tssfz,bne_self_eq_false]
    refine split_go 10 (by decide +kernel) ?_
    simp -dsimp -implicitDefEqProofs (disch:=first|omega|(simp only [lenr];try omega)) only [↓amPre,↓reduceIte,reduceCtorEq,reduceEqDiff,Nat.reduceBEq,reduceAdd,reduceLeDiff,reduceSub,reduceMul,reduceToNat,MM,bu0,cbJ1,cbJ16,cbU49,ssfz,kfz,tssfz,bne_self_eq_false]
    iterate 2 ((first|refine callP_of (v2) ?_);simp -dsimp -implicitDefEqProofs (disch:=first|omega|(simp only [lenr];try omega)) only [↓amPre,↓reduceIte,reduceCtorEq,reduceEqDiff,Nat.reduceBEq,reduceAdd,reduceLeDiff,reduceSub,reduceMul,reduceToNat,MM,bu0,cbJ1,cbJ16,cbU49,ssfz,kfz,tssfz,bne_self_eq_false,beq_self_eq_true])
   ·rw [decide_eq_false vm] at v3
    have hT:T=[]:=v5.2 vm
    rw [hT] at *
    simp -dsimp -implicitDefEqProofs (disch:=first|omega|(simp only [lenr];try omega)) only [↓amPre,↓reduceIte,reduceCtorEq,reduceEqDiff,Nat.reduceBEq,reduceAdd,reduceLeDiff,reduceSub,reduceMul,reduceToNat,MM,bu0,cbJ1,cbJ16,cbU49,ssfz,kfz,tssfz,bne_self_eq_false,he]
    refine callP_of (v3) ?_
    simp -dsimp -implicitDefEqProofs (disch:=first|omega|(simp only [lenr];try omega)) only [↓amPre,↓reduceIte,reduceCtorEq,reduceEqDiff,Nat.reduceBEq,reduceAdd,reduceLeDiff,reduceSub,reduceMul,reduceToNat,MM,bu0,cbJ1,cbJ16,cbU49,ssfz,kfz,tssfz,bne_self_eq_false]
end Dx
end Go.AM
