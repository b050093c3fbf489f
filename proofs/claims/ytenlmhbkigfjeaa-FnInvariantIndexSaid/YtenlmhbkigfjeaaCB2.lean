/-
  CONTRACTS of functions of the program,and what they compute,by content.
-/
import Derived.Test.YtenlmhbkigfjeaaCB1
import Derived.Test.YtenlmhbkigfjeaaM2SD
import Derived.Test.YtenlmhbkigfjeaaCB0
set_option linter.unusedVariables false
set_option linter.unusedSimpArgs false
set_option maxRecDepth 8000
namespace Go.AM
namespace Sw
open Go.Proofs
open Ch (PN pt idL Gen Lv LvOk pt_comp)
open Sc (lv rep psS ps_step ps_end WF El Hd PP add add_ok fold_ok FG FP mis gen_start prod_start Ln fold_ln add_ln)
theorem scA_row {n:Nat} {C:List Lv} {k y:Nat} {p:List Int} (hw:WF n C) (hk:k<n) (hp:p≠[]):scA n (C.set k ⟨(lv C k).gens,(lv C k).row.set y p⟩)=.pt 3 (.agg [.i64 n,.tr 1 ((C.map rowA).set k (.tr 1 (((lv C k).row.map nlv).set y (isl p)))),.tr 1 (C.map genA)]):=by
  have hlen:=hw.len
  have e:(C.map genA).set k (genA ⟨(lv C k).gens,(lv C k).row.set y p⟩)=C.map genA:=by
    refine List.ext_getElem (by simp) fun i h1 h2=>?_
    rw [List.getElem_set]
    split
    · rename_i c
      subst c
      rw [List.getElem_map,lv,getD_eq C _ _ (by omega)]
    · rfl
  rw [scA_set,e,nlv_set hp]
theorem fold_at {f k:Nat} {C1:List Lv} (qs:List (List Int)) (i:Nat) (hi:i<qs.length):(qs.take (i+1)).foldl (fun C q=>add f false C k q) C1=add f false ((qs.take i).foldl (fun C q=>add f false C k q) C1) k (qs.getD i default):=by
  rw [List.take_succ_eq_append_getElem hi,List.foldl_append,getD_eq qs i default hi]
  rfl
theorem prodW (n:Nat) (h1:1≤n) (h2:n≤20) (f:Nat)
    (ihG:∀ C k p,WF n C→k≤n→PN n p→(∀ i,i<k→pt p i=i)→(∀ j,k=j+1→Gen n (lv C j).gens p)→Sc.CC n C k→FG n k≤f→Ln n C→SpecX Try.prog 241 [scA n C,.i64 k,isl p] [some (scA n (add f true C k p))] (.tup []))
    (ihP:∀ C k p,WF n C→k<n→El n C k p→Sc.CC n C (k+1)→FP n k (mis C k)≤f→Ln n C→SpecX Try.prog 259 [scA n C,.i64 k,isl p] [some (scA n (add f false C k p))] (.tup []))
    (C:List Lv) (k:Nat) (p:List Int) (hw:WF n C) (hk:k<n) (hel:El n C k p) (hcc:Sc.CC n C (k+1)) (hf:FP n k (mis C k)≤f+1) (hln:Ln n C) :
    SpecX Try.prog 259 [scA n C,.i64 k,isl p] [some (scA n (add (f+1) false C k p))] (.tup []):=by
  have ee:∀ X:List Int,AV.fzL (X.map AV.i64)=X.map AV.i64:=fun X=>by rw [fzL_map,ints_fz]
  have hlen:=hw.len
  have hL:=hw.lv k hk
  have hpl:=hel.pn.1
  have hpk:=hel.pn.get hk
  obtain ⟨hgr,hCl,hgg,hGl⟩:=row_at hw hk
  have hge:=ent_at hw hk hpk.2
  have hrow:=hL.row (pt p k) hpk.2
  rw [show (lv C k).row.getD (pt p k) []=rep C k (pt p k) from rfl] at hrow
  have hptI:=hpk.1
  have hptL:=hpk.2
  have hrl:=hL.len
  by_cases cr:rep C k (pt p k)=[]
  · have hps:=prod_start h1 h2 hw hk hel hcc hf cr
    obtain ⟨wf1,cc1,hf1,hel1⟩:=hps
    have hl1:Ln n (C.set k ⟨(lv C k).gens,(lv C k).row.set (pt p k) p⟩):=hln.set (by omega) fun _=>hln k hk
    have hGb:=hln.le h1 h2 hw hk
    have hadd:add (f+1) false C k p=((lv C k).gens.map fun g=>compI p g).foldl (fun C q=>add f false C k q) (C.set k ⟨(lv C k).gens,(lv C k).row.set (pt p k) p⟩):=by
      rw [add,if_pos cr,List.foldl_map]
    rw [hadd]
    have hsr:=scA_row (y:=pt p k) hw hk (pn_ne hel.pn)
    have hg1:(lv (C.set k ⟨(lv C k).gens,(lv C k).row.set (pt p k) p⟩) k).gens=(lv C k).gens:=by rw [Sc.lv_set _ (by omega),if_pos rfl]
    rw [cr,nlv_nil] at hge
    have hGp:∀ g∈(lv C k).gens,PN n g:=fun g hg=>(hL.gens g hg).1
    generalize hC1:C.set k ⟨(lv C k).gens,(lv C k).row.set (pt p k) p⟩=C1 at *
    generalize hG:(lv C k).gens=G at *
    generalize hR:(lv C k).row=R at *
    generalize hy:pt p k=y at *
    refine spec_of_awp (M:=MM) (np:=3) (fz:=false) mixed Try.func259 rfl rfl (by decide) rfl (Nat.le_refl _) (by decide +kernel) (.inl rfl) (by simp only [sigsOk_some,sigsOk_nil,and_true];rfl) ?_
    simp -dsimp -implicitDefEqProofs (disch:=first|omega|(simp only [lenr];try omega)) only [↓amPre,↓reduceIte,reduceCtorEq,Nat.reduceEqDiff,Nat.reduceBEq,Nat.reduceAdd,Nat.reduceLeDiff,Nat.reduceSub,Nat.reduceMul,Int.reduceToNat,MM,bu0,cbU49,hgr,hCl,hge,hptI,hrl]
    refine awp_loop (fun i st=>i≤G.length∧st.fr 7=.i64 i∧st.fr 0=.loc 0 [] 0 0∧st.fr 1=.i64 k∧st.fr 2=isl p∧st.mem 0=some (scA n (((G.map fun g=>compI p g).take i).foldl (fun C q=>add f false C k q) C1))) (G.length) ?_ ?_
    · simp -dsimp -implicitDefEqProofs (disch:=first|omega|(simp only [lenr];try omega)) only [↓amPre,↓reduceIte,reduceCtorEq,Nat.reduceEqDiff,Nat.reduceBEq,Nat.reduceAdd,Nat.reduceLeDiff,Nat.reduceSub,Nat.reduceMul,Int.reduceToNat,MM,bu0,cbU49,hgr,hCl,hge,hptI,hrl]
      rw [List.foldl_nil,hsr]
      exact ⟨Nat.zero_le _,rfl,rfl⟩
    rintro i st _ ⟨hi,f7,f0,f1,f2,m0⟩
    have hpp:=fold_ok f (fun C k p a b c d e=>(add_ok h1 h2 f).2 C k p a b c d e) hk ((G.map fun g=>compI p g).take i) C1 wf1 cc1 hf1 (fun q hq=>hel1 q (List.mem_of_mem_take hq))
    obtain ⟨pp,_⟩:=hpp
    have hlD:=fold_ln h1 h2 f (add_ln h1 h2 f).2 hk ((G.map fun g=>compI p g).take i) C1 wf1 cc1 hf1 (fun q hq=>hel1 q (List.mem_of_mem_take hq)) hl1
    have hm:=Sc.mis_mono wf1 pp.wf pp.ext hk
    obtain ⟨_,_,hgg2,hGl2⟩:=row_at pp.wf hk
    rw [pp.gens,hg1] at hgg2
    by_cases hlt:i<G.length
    · have hlt':(i:Int)<(G.length:Int):=by omega
      have hfa:=fold_at (f:=f) (k:=k) (C1:=C1) (G.map fun g=>compI p g) i (by rw [List.length_map];exact hlt)
      rw [show (G.map fun g=>compI p g).getD i default=compI p (G.getD i default) by rw [getD_eq _ _ _ (by rw [List.length_map];exact hlt),List.getElem_map,getD_eq G _ _ hlt]] at hfa
      have hgi:=hGp _ (mem_getD G i default hlt)
      have hel2:=hel1 (compI p (G.getD i default)) (List.mem_map.2 ⟨_,mem_getD G i default hlt,rfl⟩)
      have hg3:(G.map isl).getD i .any=isl (G.getD i default):=by rw [getD_eq _ _ _ (by rw [List.length_map];exact hlt),List.getElem_map,getD_eq G _ _ hlt]
      have hGml:(G.map isl).length=G.length:=by simp
      rw [hfa]
      generalize ((G.map fun g=>compI p g).take i).foldl (fun C q=>add f false C k q) C1=D at *
      have qx:=ihP D k (compI p (G.getD i default)) pp.wf hk ⟨hel2.pn,hel2.fix,by rw [pp.gens];exact hel2.gen⟩ pp.cc (by unfold FP at *;omega) hlD
      have qc:=scompose p (G.getD i default) (by omega) (fun x hx=>by have:=hel.pn.2.2.1 x hx;have:=hgi.1;omega)
      rw [cp_comp] at qc
      simp -dsimp -implicitDefEqProofs (disch:=first|omega|(simp only [lenr];try omega)) only [↓amPre,↓reduceIte,reduceCtorEq,Nat.reduceEqDiff,Nat.reduceBEq,Nat.reduceAdd,Nat.reduceLeDiff,Nat.reduceSub,Nat.reduceMul,Int.reduceToNat,MM,bu0,cbU49,f7,f0,f1,f2,m0,hgg2,hGl2,hGml,lt_true hlt',hg3]
      refine callP_frz qc ?_
      simp -dsimp -implicitDefEqProofs (disch:=first|omega|(simp only [lenr];try omega)) only [↓amPre,↓reduceIte,reduceCtorEq,Nat.reduceEqDiff,Nat.reduceBEq,Nat.reduceAdd,Nat.reduceLeDiff,Nat.reduceSub,Nat.reduceMul,Int.reduceToNat,MM,bu0,cbU49,f7,f0,f1,f2,m0,ee]
      refine callX_of (qx) ?_
      simp -dsimp -implicitDefEqProofs (disch:=first|omega|(simp only [lenr];try omega)) only [↓amPre,↓reduceIte,reduceCtorEq,Nat.reduceEqDiff,Nat.reduceBEq,Nat.reduceAdd,Nat.reduceLeDiff,Nat.reduceSub,Nat.reduceMul,Int.reduceToNat,MM,bu0,cbU49,f7,f0,f1,f2,m0]
      trace_state
      exact ⟨hlt,by omega⟩
    · have hie:i=G.length:=by omega
      have c1':¬ (i:Int)<(G.length:Int):=by omega
      have hGml:(G.map isl).length=G.length:=by simp
      rw [show (G.map fun g=>compI p g).take i=G.map fun g=>compI p g from List.take_of_length_le (by rw [List.length_map];omega)] at m0 hgg2 hGl2
      simp -dsimp -implicitDefEqProofs (disch:=first|omega|(simp only [lenr];try omega)) only [↓amPre,↓reduceIte,reduceCtorEq,Nat.reduceEqDiff,Nat.reduceBEq,Nat.reduceAdd,Nat.reduceLeDiff,Nat.reduceSub,Nat.reduceMul,Int.reduceToNat,MM,bu0,cbU49,f7,f0,f1,f2,m0,hgg2,hGl2,hGml,lt_false (Int.not_lt.1 c1')]
  · obtain ⟨t1,t2,t3⟩:=hrow cr
    have hadd:add (f+1) false C k p=add f true C (k+1) (compI p (invI (rep C k (pt p k)))):=by rw [add,if_neg cr]
    rw [hadd]
    have hGp:∀ s∈(lv C k).gens,PN n s:=fun s hs=>(hL.gens s hs).1
    have hfr:=fun i (hi:i<k)=>Gen.fix h1 h2 hGp (i:=i) (by omega) (fun s hs=>(hL.gens s hs).2 i hi) t2
    have qx:=ihG C (k+1) (compI p (invI (rep C k (pt p k)))) hw (by omega) (hel.pn.comp t1.inv) (fun i hi=>by
      rw [pt_comp hel.pn i (by omega)]
      by_cases e:i=k
      · subst e
        have:=Ch.pt_inv t1 hk
        rw [t3] at this
        exact this
      · rw [hel.fix i (by omega)]
        have:=Ch.pt_inv t1 (show i<n by omega)
        rwa [hfr i (by omega)] at this) (fun j hj=>by
      have:j=k:=by omega
      subst this
      exact Gen.comp h1 h2 hGp hel.gen (Gen.inv h1 h2 hGp t2)) hcc (by unfold FP at hf;omega) hln
    rw [nlv_ne cr] at hge
    have qi:=sinverse (rep C k (pt p k)) t1.2
    rw [ivL_invI] at qi
    have qc:=scompose p (invI (rep C k (pt p k))) (by omega) (fun x hx=>by have:=hel.pn.2.2.1 x hx;have:=t1.inv.1;omega)
    rw [cp_comp] at qc
    have hrp:(0:Int)<((rep C k (pt p k)).length:Int):=by have:=t1.1;omega
    generalize rep C k (pt p k)=r at *
    generalize (lv C k).row=R at *
    generalize pt p k=y at *
    refine spec_of_awp (M:=MM) (np:=3) (fz:=false) mixed Try.func259 rfl rfl (by decide) rfl (Nat.le_refl _) (by decide +kernel) (.inl rfl) (by simp only [sigsOk_some,sigsOk_nil,and_true];rfl) ?_
    simp -dsimp -implicitDefEqProofs (disch:=first|omega|(simp only [lenr];try omega)) only [↓amPre,↓reduceIte,reduceCtorEq,Nat.reduceEqDiff,Nat.reduceBEq,Nat.reduceAdd,Nat.reduceLeDiff,Nat.reduceSub,Nat.reduceMul,Int.reduceToNat,MM,bu0,cbU49,hgr,hCl,hge,hptI,hrl,lt_true hrp]
    refine callP_frz qi ?_
    simp -dsimp -implicitDefEqProofs (disch:=first|omega|(simp only [lenr];try omega)) only [↓amPre,↓reduceIte,reduceCtorEq,Nat.reduceEqDiff,Nat.reduceBEq,Nat.reduceAdd,Nat.reduceLeDiff,Nat.reduceSub,Nat.reduceMul,Int.reduceToNat,MM,bu0,cbU49,ee]
    refine callP_frz qc ?_
    simp -dsimp -implicitDefEqProofs (disch:=first|omega|(simp only [lenr];try omega)) only [↓amPre,↓reduceIte,reduceCtorEq,Nat.reduceEqDiff,Nat.reduceBEq,Nat.reduceAdd,Nat.reduceLeDiff,Nat.reduceSub,Nat.reduceMul,Int.reduceToNat,MM,bu0,cbU49,ee]
    refine callX_of (qx) ?_
    simp -dsimp -implicitDefEqProofs (disch:=first|omega|(simp only [lenr];try omega)) only [↓amPre,↓reduceIte,reduceCtorEq,Nat.reduceEqDiff,Nat.reduceBEq,Nat.reduceAdd,Nat.reduceLeDiff,Nat.reduceSub,Nat.reduceMul,Int.reduceToNat,MM,bu0,cbU49]
end Sw
end Go.AM
set_option maxRecDepth 8000
namespace Go.AM
namespace Sw
open Go.Proofs
open Ch (PN pt idL Gen Lv LvOk pt_comp)
open Sc (lv rep psS ps_step ps_end WF El Hd PP add add_ok fold_ok FG FP mis gen_start prod_start Ln fold_ln add_ln)
theorem scA_gen {n:Nat} {C:List Lv} {k:Nat} {p:List Int} (hw:WF n C) (hk:k<n):scA n (C.set k ⟨(lv C k).gens++[p],(lv C k).row⟩)=.pt 3 (.agg [.i64 n,.tr 1 (C.map rowA),.tr 1 ((C.map genA).set k (.tr 1 (((lv C k).gens++[p]).map isl)))]):=by
  have hlen:=hw.len
  have e:(C.map rowA).set k (rowA ⟨(lv C k).gens++[p],(lv C k).row⟩)=C.map rowA:=by
    refine List.ext_getElem (by simp) fun i h1 h2=>?_
    rw [List.getElem_set]
    split
    · rename_i c
      subst c
      rw [List.getElem_map,lv,getD_eq C _ _ (by omega)]
    · rfl
  rw [scA_set,e]
def kn (R:List (List Int)) (j:Nat):List (List Int):=(R.take j).filter fun r=>!(r == [])
theorem kn_succ {R:List (List Int)} {j:Nat} (h:j<R.length):kn R (j+1)=if R.getD j []=[] then kn R j else kn R j++[R.getD j []]:=by
  unfold kn
  rw [List.take_succ_eq_append_getElem h,List.filter_append,getD_eq R j [] h]
  by_cases c:R[j]=[]
  · rw [if_pos c,c];simp
  · rw [if_neg c]
    have:(!(R[j] == []))=true:=by simpa using c
    rw [List.filter_cons,this];rfl
theorem kn_len (R:List (List Int)) (j:Nat):(kn R j).length≤R.length:=by
  unfold kn
  have:=List.length_filter_le (fun r=>!(r == [])) (R.take j)
  rw [List.length_take] at this
  omega
set_option maxHeartbeats 2000000 in
theorem genW (n:Nat) (h1:1≤n) (h2:n≤20) (f:Nat)
    (ihP:∀ C k p,WF n C→k<n→El n C k p→Sc.CC n C (k+1)→FP n k (mis C k)≤f→Ln n C→SpecX Try.prog 259 [scA n C,.i64 k,isl p] [some (scA n (add f false C k p))] (.tup []))
    (C:List Lv) (k:Nat) (p:List Int) (hw:WF n C) (hkn:k≤n) (hp:PN n p) (hfx:∀ i,i<k→pt p i=i) (hgn:∀ j,k=j+1→Gen n (lv C j).gens p) (hcc:Sc.CC n C k) (hf:FG n k≤f+1) (hln:Ln n C) :
    SpecX Try.prog 241 [scA n C,.i64 k,isl p] [some (scA n (add (f+1) true C k p))] (.tup []):=by
  have ee:∀ X:List Int,AV.fzL (X.map AV.i64)=X.map AV.i64:=fun X=>by rw [fzL_map,ints_fz]
  have hlen:=hw.len
  have hpl:=hp.1
  by_cases ck:C.length≤k
  · have hadd:add (f+1) true C k p=C:=by rw [add,if_pos ck]
    rw [hadd]
    have hge:(n:Int)≤(k:Int):=by omega
    refine spec_of_awp_any (M:=MM) (np:=3) (X:=[3]) (fz:=false) mixed Try.func241 rfl rfl (by decide) rfl (Nat.le_refl _) (by decide +kernel) (.inl rfl) (by simp only [sigsOk_some,sigsOk_nil,and_true]) ?_
    simp -dsimp -implicitDefEqProofs (disch:=first|omega|(simp only [lenr];try omega)) only [↓amPre,↓reduceIte,reduceCtorEq,Nat.reduceEqDiff,Nat.reduceBEq,Nat.reduceAdd,Nat.reduceLeDiff,Nat.reduceSub,Nat.reduceMul,Int.reduceToNat,MM,bu0,cbU49,hge]
  have hk:k<n:=by omega
  have hge:¬ (n:Int)≤(k:Int):=by omega
  have qs:=siftS n h2 C hw k p hkn hp
  obtain ⟨hs1,hs2⟩:=sif_ps (C:=C) (n - k) k p (by omega)
  rw [hlen] at hs1 hs2
  by_cases cp:psS C k p=true
  · have hadd:add (f+1) true C k p=C:=by rw [add,if_neg ck,if_pos cp]
    rw [hadd]
    have hl:=hs1.1 cp
    have hl':(((sif C (n - k) k p).2:Nat):Int)=(n:Int):=by omega
    refine spec_of_awp_any (M:=MM) (np:=3) (X:=[3]) (fz:=false) mixed Try.func241 rfl rfl (by decide) rfl (Nat.le_refl _) (by decide +kernel) (.inl rfl) (by simp only [sigsOk_some,sigsOk_nil,and_true]) ?_
    simp -dsimp -implicitDefEqProofs (disch:=first|omega|(simp only [lenr];try omega)) only [↓amPre,↓reduceIte,reduceCtorEq,Nat.reduceEqDiff,Nat.reduceBEq,Nat.reduceAdd,Nat.reduceLeDiff,Nat.reduceSub,Nat.reduceMul,Int.reduceToNat,MM,bu0,cbU49,le_false (Int.not_le.1 hge)]
    refine callX_of (qs) ?_
    simp -dsimp -implicitDefEqProofs (disch:=first|omega|(simp only [lenr];try omega)) only [↓amPre,↓reduceIte,reduceCtorEq,Nat.reduceEqDiff,Nat.reduceBEq,Nat.reduceAdd,Nat.reduceLeDiff,Nat.reduceSub,Nat.reduceMul,Int.reduceToNat,MM,bu0,cbU49,hl']
  have hl:¬ (((sif C (n - k) k p).2:Nat):Int)=(n:Int):=fun q=>cp (hs1.2 (by omega))
  obtain ⟨wf1,cc1,hf1,hel1,hrp⟩:=gen_start h1 h2 hw ck hp hfx hgn hcc hf
  have hl1:Ln n (C.set k ⟨(lv C k).gens++[p],(lv C k).row⟩):=by
    have:=(add_ln h1 h2 (f+1)).1 C k p hw hkn hp hfx hgn hcc hf hln
    refine hln.set (by omega) fun _=>?_
    have hgd:=Sc.good_of h1 h2 hw hcc (n - k) k (Nat.le_refl _) (by omega)
    have hno:¬ Gen n (lv C k).gens p:=fun q=>by
      have:=(Ch.good_has h1 h2 _ k hgd p hp hfx).2 (by rw [Sc.drop_lv (by omega)];exact q)
      exact cp this
    have hdb:=Sc.ord_double h1 h2 (fun s hs=>((hw.lv k hk).gens s hs).1) hp hno
    simp only [List.length_append,List.length_singleton]
    rw [Nat.pow_succ]
    have:=hln k hk
    omega
  have hadd:add (f+1) true C k p=(((lv C k).row.filter fun r=>!(r == [])).map fun r=>compI r p).foldl (fun C q=>add f false C k q) (C.set k ⟨(lv C k).gens++[p],(lv C k).row⟩):=by
    rw [add,if_neg ck,if_neg cp,List.foldl_map]
  rw [hadd]
  have hsg:=scA_gen (p:=p) hw hk
  have hL:=hw.lv k hk
  have hRl:=hL.len
  obtain ⟨hgr,hCl,hgg,hGl⟩:=row_at hw hk
  obtain ⟨hgr1,hCl1,_,_⟩:=row_at wf1 hk
  have hG1:=hln.le h1 h2 hw hk
  have hrow1:(lv (C.set k ⟨(lv C k).gens++[p],(lv C k).row⟩) k).row=(lv C k).row:=by rw [Sc.lv_set _ (by omega),if_pos rfl]
  rw [hrow1] at hgr1
  have hkl:=kn_len (lv C k).row
  have hks:=fun j hj=>kn_succ (R:=(lv C k).row) (j:=j) hj
  have hkn2:(lv C k).row.filter (fun r=>!(r == []))=kn (lv C k).row n:=by
    unfold kn
    rw [List.take_of_length_le (by omega)]
  rw [hkn2] at hel1 hrp ⊢
  generalize hC1:C.set k ⟨(lv C k).gens++[p],(lv C k).row⟩=C1 at *
  generalize hG:(lv C k).gens=G at *
  generalize hR:(lv C k).row=R at *
  have hGml:(G.map isl).length=G.length:=by simp
  refine spec_of_awp_any (M:=MM) (np:=3) (X:=[3]) (fz:=false) mixed Try.func241 rfl rfl (by decide) rfl (Nat.le_refl _) (by decide +kernel) (.inl rfl) (by simp only [sigsOk_some,sigsOk_nil,and_true];rfl) ?_
  simp -dsimp -implicitDefEqProofs (disch:=first|omega|(simp only [lenr];try omega)) only [↓amPre,↓reduceIte,reduceCtorEq,Nat.reduceEqDiff,Nat.reduceBEq,Nat.reduceAdd,Nat.reduceLeDiff,Nat.reduceSub,Nat.reduceMul,Int.reduceToNat,MM,bu0,cbU49,le_false (Int.not_le.1 hge)]
  refine callX_of (qs) ?_
  simp -dsimp -implicitDefEqProofs (disch:=first|omega|(simp only [lenr];try omega)) only [↓amPre,↓reduceIte,reduceCtorEq,Nat.reduceEqDiff,Nat.reduceBEq,Nat.reduceAdd,Nat.reduceLeDiff,Nat.reduceSub,Nat.reduceMul,Int.reduceToNat,MM,bu0,cbU49,hl]
  refine lat_go [[],[0],[0,1],[0,1,2],[],[],[5],[5,6],[5,6,7],[],[5,6,7,8,9],[5,6,7,8,9,10],[],[12],[5,6,7,8,9,10,11,12,13],[0,1,2,3,4,5,6,7,8,9,10,11,12,13,14],[0,1,2,3,4,5,6,7,8,9,10,11,12,13,14,15]] [[1,2,3,15,16],[2,3,15,16],[3,15,16],[15,16],[15,16],[6,7,8,10,11,14,15,16],[7,8,10,11,14,15,16],[8,10,11,14,15,16],[10,11,14,15,16],[10,11,14,15,16],[11,14,15,16],[14,15,16],[13,14,15,16],[14,15,16],[15,16],[16],[]] [0,1,2,3,4,5,6,7,8,9,10,11,12,13,14,15,16] (fun c st=>st.fr 0=.loc 0 [] 0 0∧st.fr 1=.i64 k∧st.fr 2=isl p∧(c 0=true→st.fr 30=.loc 0 [] 0 0)∧(c 1=true→st.fr 31=.loc 0 [] 0 0)∧(c 2=true→st.fr 32=.loc 0 [] 0 2)∧(c 3=true→st.fr 33=.ref 0 [(0,2)] 1 0 n)∧(c 4=true→st.fr 34=.i64 k)∧(c 5=true→st.fr 35=.loc 0 [] 0 0)∧(c 6=true→st.fr 36=.loc 0 [] 0 0)∧(c 7=true→st.fr 37=.loc 0 [] 0 2)∧(c 8=true→st.fr 38=.ref 0 [(0,2)] 1 0 n)∧(c 9=true→st.fr 39=.i64 k)∧(c 10=true→st.fr 40=.loc 0 [(0,2)] k 0)∧(c 11=true→c 14=false→st.fr 41=.ref 0 [(0,2),(k,0)] 1 0 G.length)∧(c 12=true→st.fr 42=isl p)∧(c 13=true→st.fr 43=.ref 43 [] 1 0 1)∧(c 14=true→c 16=false→st.fr 44=.ref 44 [] 1 0 (G.length+1))∧(c 15=true→st.fr 45=.loc 0 [(0,2)] k 0)∧st.mem 0=some (bif c 16 then (.pt 3 (.agg [.i64 n,.tr 1 (C.map rowA),.tr 1 ((C.map genA).set k (.tr 1 ((G++[p]).map isl)))])) else (bif c 14 then (.pt 3 (.agg [.i64 n,.tr 1 (C.map rowA),.tr 1 ((C.map genA).set k .any)])) else (scA n C)))∧(c 13=true→st.mem 43=some (.tr 1 [isl p]))∧(c 14=true→c 16=false→st.mem 44=some (.tr 1 ((G++[p]).map isl)))) (by decide +kernel) ?_ ?_ ?_
  · (try simp -dsimp -implicitDefEqProofs (disch:=first|omega|(simp only [lenr];try omega)) only [↓amPre,↓reduceIte,reduceCtorEq,Nat.reduceEqDiff,Nat.reduceBEq,Nat.reduceAdd,Nat.reduceLeDiff,Nat.reduceSub,Nat.reduceMul,Int.reduceToNat,MM,bu0,cbU49,latj,hgg,hGl,hGml])
    all_goals (try (repeat' (first | apply And.intro | rfl | (intro _;rfl) | (intro _ _;rfl))))
  · refine ⟨?_,?_,?_,?_,?_,?_,?_,?_,?_,?_,?_,?_,?_,?_,?_,?_,?_,trivial⟩
    all_goals rintro c st R hC hJ hR
    all_goals simp only [latm] at hC
    all_goals rcases Bool.eq_false_or_eq_true (c 14) with hx14 | hx14
    all_goals simp only [hC,hx14,latj] at hJ
    all_goals simp -dsimp -implicitDefEqProofs (disch:=first|omega|(simp only [lenr];try omega)) only [↓amPre,↓reduceIte,reduceCtorEq,Nat.reduceEqDiff,Nat.reduceBEq,Nat.reduceAdd,Nat.reduceLeDiff,Nat.reduceSub,Nat.reduceMul,Int.reduceToNat,MM,bu0,cbU49,hJ,hgg,hGl,hGml]
    all_goals refine hR _ ?_
    all_goals (simp +contextual -dsimp -implicitDefEqProofs only [amAll,↓reduceIte,reduceCtorEq,Nat.reduceEqDiff,Nat.reduceBEq,Nat.reduceAdd,latj,hC,hJ,hx14,hgg,hGl,hGml];try (repeat' (first | apply And.intro | rfl | (intro _;rfl) | (intro _ _;rfl))))
  intro c st hall hJ
  simp only [latm] at hall
  simp only [hall,latj] at hJ
  obtain ⟨f0,f1,f2,f30,f31,f32,f33,f34,f35,f36,f37,f38,f39,f40,f42,f43,f45,m0,m43⟩:=hJ
  clear hall
  rw [← hsg] at m0
  simp -dsimp -implicitDefEqProofs (disch:=first|omega|(simp only [lenr];try omega)) only [↓amPre,↓reduceIte,reduceCtorEq,Nat.reduceEqDiff,Nat.reduceBEq,Nat.reduceAdd,Nat.reduceLeDiff,Nat.reduceSub,Nat.reduceMul,Int.reduceToNat,MM,bu0,cbU49,f0,f1,f2,m0]
  skip
  refine awp_loopR 46 79 (.tr 1 []) (by simp -dsimp -implicitDefEqProofs (disch:=first|omega|(simp only [lenr];try omega)) only [↓amPre,↓reduceIte,reduceCtorEq,Nat.reduceEqDiff,Nat.reduceBEq,Nat.reduceAdd,Nat.reduceLeDiff,Nat.reduceSub,Nat.reduceMul,Int.reduceToNat,MM,bu0,cbU49,f0,f1,f2,m0]) (by decide) (by decide) (by decide) (fun j st=>j≤n∧st.fr 9=.i64 j∧st.fr 0=.loc 0 [] 0 0∧st.fr 1=.i64 k∧st.fr 2=isl p∧st.fr 8=.ref 79 [] 1 0 (kn R j).length∧st.mem 0=some (scA n C1)∧st.mem 79=some (.tr 1 ((kn R j).map isl))) (n) ?_ ?_
  · simp -dsimp -implicitDefEqProofs (disch:=first|omega|(simp only [lenr];try omega)) only [↓amPre,↓reduceIte,reduceCtorEq,Nat.reduceEqDiff,Nat.reduceBEq,Nat.reduceAdd,Nat.reduceLeDiff,Nat.reduceSub,Nat.reduceMul,Int.reduceToNat,MM,bu0,cbU49,ren_eq,f0,f1,f2,m0]
    exact ⟨Nat.zero_le _,rfl,rfl,rfl⟩
  rintro j st _ ⟨hj,f9,f0,f1,f2,f8,m0,m79⟩
  have hkj:=hkl j
  by_cases hlt:j<n
  · have hlt':(j:Int)<(n:Int):=by omega
    have hent:(R.map nlv).getD j .any=nlv (R.getD j []):=by rw [getD_eq _ j AV.any (by rw [List.length_map];omega),List.getElem_map,getD_eq R j [] (by omega)]
    have hksj:=hks j (by omega)
    have hkml:((kn R j).map isl).length=(kn R j).length:=by simp
    rw [hksj]
    by_cases hr:R.getD j []=[]
    · rw [if_pos hr]
      rw [hr,nlv_nil] at hent
      simp -dsimp -implicitDefEqProofs (disch:=first|omega|(simp only [lenr];try omega)) only [↓amPre,↓reduceIte,reduceCtorEq,Nat.reduceEqDiff,Nat.reduceBEq,Nat.reduceAdd,Nat.reduceLeDiff,Nat.reduceSub,Nat.reduceMul,Int.reduceToNat,MM,bu0,cbU49,f9,f0,f1,f2,f8,m0,m79,hgr1,hCl1,hRl,hent,lt_true hlt']
      exact ⟨hlt,by omega⟩
    · rw [if_neg hr]
      rw [nlv_ne hr] at hent
      have hpos:(0:Int)<((R.getD j []).length:Int):=by
        have:(R.getD j []).length≠0:=fun q=>hr (List.length_eq_zero_iff.1 q)
        omega
      simp -dsimp -implicitDefEqProofs (disch:=first|omega|(simp only [lenr];try omega)) only [↓amPre,↓reduceIte,reduceCtorEq,Nat.reduceEqDiff,Nat.reduceBEq,Nat.reduceAdd,Nat.reduceLeDiff,Nat.reduceSub,Nat.reduceMul,Int.reduceToNat,MM,bu0,cbU49,f9,f0,f1,f2,f8,m0,m79,hgr1,hCl1,hRl,hent,lt_true hlt',lt_true hpos,hkml]
      exact ⟨hlt,by omega⟩
  · have hje:j=n:=by omega
    have c1':¬ (j:Int)<(n:Int):=by omega
    have hKb:=hkl n
    rw [hje] at f8 m79
    generalize kn R n=KN at *
    have hKl:(KN.map isl).length=KN.length:=by simp
    simp -dsimp -implicitDefEqProofs (disch:=first|omega|(simp only [lenr];try omega)) only [↓amPre,↓reduceIte,reduceCtorEq,Nat.reduceEqDiff,Nat.reduceBEq,Nat.reduceAdd,Nat.reduceLeDiff,Nat.reduceSub,Nat.reduceMul,Int.reduceToNat,MM,bu0,cbU49,f9,f0,f1,f2,f8,m0,m79,lt_false (Int.not_lt.1 c1')]
    refine awp_loop (fun i st=>i≤KN.length∧st.fr 10=.i64 i∧st.fr 8=.ref 79 [] 1 0 KN.length∧st.fr 0=.loc 0 [] 0 0∧st.fr 1=.i64 k∧st.fr 2=isl p∧st.mem 79=some (.tr 1 (KN.map isl))∧st.mem 0=some (scA n (((KN.map fun r=>compI r p).take i).foldl (fun C q=>add f false C k q) C1))) (KN.length) ?_ ?_
    · simp -dsimp -implicitDefEqProofs (disch:=first|omega|(simp only [lenr];try omega)) only [↓amPre,↓reduceIte,reduceCtorEq,Nat.reduceEqDiff,Nat.reduceBEq,Nat.reduceAdd,Nat.reduceLeDiff,Nat.reduceSub,Nat.reduceMul,Int.reduceToNat,MM,bu0,cbU49,f9,f0,f1,f2,f8,m0,m79]
      exact ⟨Nat.zero_le _,rfl,rfl⟩
    rintro i st _ ⟨hi,f10,f8,f0,f1,f2,m79,m0⟩
    have hpp:=fold_ok f (fun C k p a b c d e=>(add_ok h1 h2 f).2 C k p a b c d e) hk ((KN.map fun r=>compI r p).take i) C1 wf1 cc1 hf1 (fun q hq=>hel1 q (List.mem_of_mem_take hq))
    obtain ⟨pp,_⟩:=hpp
    have hlD:=fold_ln h1 h2 f (add_ln h1 h2 f).2 hk ((KN.map fun r=>compI r p).take i) C1 wf1 cc1 hf1 (fun q hq=>hel1 q (List.mem_of_mem_take hq)) hl1
    have hm:=Sc.mis_mono wf1 pp.wf pp.ext hk
    by_cases hli:i<KN.length
    · have hli':(i:Int)<(KN.length:Int):=by omega
      have hfa:=fold_at (f:=f) (k:=k) (C1:=C1) (KN.map fun r=>compI r p) i (by rw [List.length_map];exact hli)
      rw [show (KN.map fun r=>compI r p).getD i default=compI (KN.getD i default) p by rw [getD_eq _ _ _ (by rw [List.length_map];exact hli),List.getElem_map,getD_eq KN _ _ hli]] at hfa
      have hri:=hrp _ (mem_getD KN i default hli)
      have hel2:=hel1 (compI (KN.getD i default) p) (List.mem_map.2 ⟨_,mem_getD KN i default hli,rfl⟩)
      have hg3:(KN.map isl).getD i .any=isl (KN.getD i default):=by rw [getD_eq _ _ _ (by rw [List.length_map];exact hli),List.getElem_map,getD_eq KN _ _ hli]
      rw [hfa]
      generalize ((KN.map fun r=>compI r p).take i).foldl (fun C q=>add f false C k q) C1=D at *
      have qx:=ihP D k (compI (KN.getD i default) p) pp.wf hk ⟨hel2.pn,hel2.fix,by rw [pp.gens];exact hel2.gen⟩ pp.cc (by unfold FP at *;omega) hlD
      have qc:=scompose (KN.getD i default) p (by have:=hri.1;omega) (fun x hx=>by have:=hri.2.2.1 x hx;have:=hri.1;omega)
      rw [cp_comp] at qc
      simp -dsimp -implicitDefEqProofs (disch:=first|omega|(simp only [lenr];try omega)) only [↓amPre,↓reduceIte,reduceCtorEq,Nat.reduceEqDiff,Nat.reduceBEq,Nat.reduceAdd,Nat.reduceLeDiff,Nat.reduceSub,Nat.reduceMul,Int.reduceToNat,MM,bu0,cbU49,f10,f8,f0,f1,f2,m79,m0,hKl,lt_true hli',hg3]
      refine callP_frz qc ?_
      simp -dsimp -implicitDefEqProofs (disch:=first|omega|(simp only [lenr];try omega)) only [↓amPre,↓reduceIte,reduceCtorEq,Nat.reduceEqDiff,Nat.reduceBEq,Nat.reduceAdd,Nat.reduceLeDiff,Nat.reduceSub,Nat.reduceMul,Int.reduceToNat,MM,bu0,cbU49,f10,f8,f0,f1,f2,m79,m0,ee]
      refine callX_of (qx) ?_
      simp -dsimp -implicitDefEqProofs (disch:=first|omega|(simp only [lenr];try omega)) only [↓amPre,↓reduceIte,reduceCtorEq,Nat.reduceEqDiff,Nat.reduceBEq,Nat.reduceAdd,Nat.reduceLeDiff,Nat.reduceSub,Nat.reduceMul,Int.reduceToNat,MM,bu0,cbU49,f10,f8,f0,f1,f2,m79,m0]
      exact ⟨hli,by omega⟩
    · have hie:i=KN.length:=by omega
      have c2':¬ (i:Int)<(KN.length:Int):=by omega
      rw [show (KN.map fun r=>compI r p).take i=KN.map fun r=>compI r p from List.take_of_length_le (by rw [List.length_map];omega)] at m0
      simp -dsimp -implicitDefEqProofs (disch:=first|omega|(simp only [lenr];try omega)) only [↓amPre,↓reduceIte,reduceCtorEq,Nat.reduceEqDiff,Nat.reduceBEq,Nat.reduceAdd,Nat.reduceLeDiff,Nat.reduceSub,Nat.reduceMul,Int.reduceToNat,MM,bu0,cbU49,f10,f8,f0,f1,f2,m79,m0,hKl,lt_false (Int.not_lt.1 c2')]
end Sw
end Go.AM
set_option maxRecDepth 8000
namespace Go.AM
namespace Sw
open Go.Proofs
open Ch (PN pt idL Gen Lv LvOk pt_comp)
open Sc (lv rep psS ps_step ps_end WF El add FG FP mis Ln emK emK_len emK_lv bld bld_ok bld_ln bld_has)
theorem walk (n:Nat) (h1:1≤n) (h2:n≤20):∀ f,
    (∀ C k p,WF n C→k≤n→PN n p→(∀ i,i<k→pt p i=i)→(∀ j,k=j+1→Gen n (lv C j).gens p)→Sc.CC n C k→FG n k≤f→Ln n C→SpecX Try.prog 241 [scA n C,.i64 k,isl p] [some (scA n (add f true C k p))] (.tup [])) ∧
    (∀ C k p,WF n C→k<n→El n C k p→Sc.CC n C (k+1)→FP n k (mis C k)≤f→Ln n C→SpecX Try.prog 259 [scA n C,.i64 k,isl p] [some (scA n (add f false C k p))] (.tup []))
  | 0=>⟨fun C k p _ _ _ _ _ _ hf=>absurd hf (by unfold FG;omega),fun C k p _ _ _ _ hf=>absurd hf (by unfold FP;omega)⟩
  | f+1=>⟨genW n h1 h2 f (walk n h1 h2 f).2,prodW n h1 h2 f (walk n h1 h2 f).1 (walk n h1 h2 f).2⟩
theorem emK_succ (n k:Nat):emK n (k+1)=emK n k++[⟨[],(List.replicate n []).set k (idL n)⟩]:=by
  unfold emK
  rw [List.range_succ,List.map_append];rfl
theorem em_row (n k:Nat) (h1:1≤n) (h2:n≤20):(List.replicate n AV.nilsl).set k (isl (idL n))=((List.replicate n ([]:List Int)).set k (idL n)).map nlv:=by
  rw [List.map_set,List.map_replicate,nlv_nil,nlv_ne (pn_ne (PN.one h1 h2))]
theorem em_next (n k:Nat) (h1:1≤n) (h2:n≤20):scA n (emK n (k+1))=.pt 3 (.agg [.i64 n,.tr 1 ((emK n k).map rowA++[.tr 1 ((List.replicate n AV.nilsl).set k (isl (idL n)))]),.tr 1 ((emK n k).map genA++[.tr 1 []])]):=by
  have e1:(emK n (k+1)).map rowA=(emK n k).map rowA++[.tr 1 ((List.replicate n AV.nilsl).set k (isl (idL n)))]:=by
    rw [emK_succ,List.map_append,em_row n k h1 h2];rfl
  have e2:(emK n (k+1)).map genA=(emK n k).map genA++[.tr 1 []]:=by
    rw [emK_succ,List.map_append];rfl
  show AV.pt 3 (.agg [.i64 n,.tr 1 ((emK n (k+1)).map rowA),.tr 1 ((emK n (k+1)).map genA)])=_
  rw [e1,e2]
theorem emptyW (n:Nat) (h1:1≤n) (h2:n≤20):SpecAt Try.prog 240 [.i64 n] (scA n (emK n n)):=by
  have ee:∀ X:List Int,AV.fzL (X.map AV.i64)=X.map AV.i64:=fun X=>by rw [fzL_map,ints_fz]
  have qi:=sIdentity n h2
  refine spec_of_awp (M:=MM) (np:=1) (fz:=false) mixed Try.func240 rfl rfl (by decide) rfl (Nat.le_refl _) (by decide +kernel) (.inl rfl) (by first | trivial | simp only [sigsOk_nil,sigsOk_some,sigsOk_none,sig_tr,sig_pt,sig_mt,sig_agg,List.map_cons,List.map_nil,sig1_tr,sig1_pt,sig1_v,and_self,true_and,List.length_map,List.length_set]) ?_
  simp -dsimp -implicitDefEqProofs (disch:=first|omega|(simp only [lenr];try omega)) only [↓amPre,↓reduceIte,reduceCtorEq,Nat.reduceEqDiff,Nat.reduceBEq,Nat.reduceAdd,Nat.reduceLeDiff,Nat.reduceSub,Nat.reduceMul,Int.reduceToNat,MM,bu0,cbU49]
  refine awp_loop (fun k st=>k≤n∧st.fr 4=.i64 k∧st.fr 0=.i64 n∧st.fr 3=.loc 8 [] 0 0∧((k=0∧st.mem 8=some (.pt 3 (.agg [.i64 n,.nilsl,.nilsl])))∨(0<k∧st.mem 8=some (scA n (emK n k))))) (n) ?_ ?_
  · simp -dsimp -implicitDefEqProofs (disch:=first|omega|(simp only [lenr];try omega)) only [↓amPre,↓reduceIte,reduceCtorEq,Nat.reduceEqDiff,Nat.reduceBEq,Nat.reduceAdd,Nat.reduceLeDiff,Nat.reduceSub,Nat.reduceMul,Int.reduceToNat,MM,bu0,cbU49]
    exact ⟨Nat.zero_le _,rfl⟩
  rintro k st _ ⟨hk,f4,f0,f3,ek⟩
  have hel:=emK_len n k
  have hes:=emK_succ n k
  by_cases hlt:k<n
  · have hlt':(k:Int)<(n:Int):=by omega
    rcases ek with ⟨k0,m8⟩ | ⟨k0,m8⟩
    · subst k0
      simp -dsimp -implicitDefEqProofs (disch:=first|omega|(simp only [lenr];try omega)) only [↓amPre,↓reduceIte,reduceCtorEq,Nat.reduceEqDiff,Nat.reduceBEq,Nat.reduceAdd,Nat.reduceLeDiff,Nat.reduceSub,Nat.reduceMul,Int.reduceToNat,MM,bu0,cbU49,f4,f0,f3,m8,lt_true hlt']
      refine callP_frz qi ?_
      simp -dsimp -implicitDefEqProofs (disch:=first|omega|(simp only [lenr];try omega)) only [↓amPre,↓reduceIte,reduceCtorEq,Nat.reduceEqDiff,Nat.reduceBEq,Nat.reduceAdd,Nat.reduceLeDiff,Nat.reduceSub,Nat.reduceMul,Int.reduceToNat,MM,bu0,cbU49,f4,f0,f3,m8,ee]
      refine ⟨hlt,by omega,by omega,?_⟩
      rw [em_next n _ h1 h2]
      rfl
    · simp -dsimp -implicitDefEqProofs (disch:=first|omega|(simp only [lenr];try omega)) only [↓amPre,↓reduceIte,reduceCtorEq,Nat.reduceEqDiff,Nat.reduceBEq,Nat.reduceAdd,Nat.reduceLeDiff,Nat.reduceSub,Nat.reduceMul,Int.reduceToNat,MM,bu0,cbU49,f4,f0,f3,m8,lt_true hlt']
      refine callP_frz qi ?_
      simp -dsimp -implicitDefEqProofs (disch:=first|omega|(simp only [lenr];try omega)) only [↓amPre,↓reduceIte,reduceCtorEq,Nat.reduceEqDiff,Nat.reduceBEq,Nat.reduceAdd,Nat.reduceLeDiff,Nat.reduceSub,Nat.reduceMul,Int.reduceToNat,MM,bu0,cbU49,f4,f0,f3,m8,ee]
      refine ⟨hlt,by omega,by omega,?_⟩
      rw [em_next n _ h1 h2]
  · have hke:k=n:=by omega
    subst hke
    have c1':¬ (k:Int)<(k:Int):=by omega
    rcases ek with ⟨k0,m8⟩ | ⟨k0,m8⟩
    · omega
    · simp -dsimp -implicitDefEqProofs (disch:=first|omega|(simp only [lenr];try omega)) only [↓amPre,↓reduceIte,reduceCtorEq,Nat.reduceEqDiff,Nat.reduceBEq,Nat.reduceAdd,Nat.reduceLeDiff,Nat.reduceSub,Nat.reduceMul,Int.reduceToNat,MM,bu0,cbU49,f4,f0,f3,m8,lt_false (Int.not_lt.1 c1')]
theorem buildW (n:Nat) (mv:List (List Int)) (h1:1≤n) (h2:n≤20) (hm:∀ s∈mv,PN n s) (hl:mv.length≤8):SpecAt Try.prog 204 [.i64 n,ssl mv] (scA n (bld n (FG n 0) mv mv.length)):=by
  have ee:∀ X:List Int,AV.fzL (X.map AV.i64)=X.map AV.i64:=fun X=>by rw [fzL_map,ints_fz]
  have q1:=emptyW n h1 h2
  refine spec_of_awp (M:=MM) (np:=2) (fz:=false) mixed Try.func204 rfl rfl (by decide) rfl (Nat.le_refl _) (by decide +kernel) (.inl rfl) (by first | trivial | simp only [sigsOk_nil,sigsOk_some,sigsOk_none,sig_tr,sig_pt,sig_mt,sig_agg,List.map_cons,List.map_nil,sig1_tr,sig1_pt,sig1_v,and_self,true_and,List.length_map,List.length_set]) ?_
  simp -dsimp -implicitDefEqProofs (disch:=first|omega|(simp only [lenr];try omega)) only [↓amPre,↓reduceIte,reduceCtorEq,Nat.reduceEqDiff,Nat.reduceBEq,Nat.reduceAdd,Nat.reduceLeDiff,Nat.reduceSub,Nat.reduceMul,Int.reduceToNat,MM,bu0,cbU49]
  refine callP_of (q1) ?_
  simp -dsimp -implicitDefEqProofs (disch:=first|omega|(simp only [lenr];try omega)) only [↓amPre,↓reduceIte,reduceCtorEq,Nat.reduceEqDiff,Nat.reduceBEq,Nat.reduceAdd,Nat.reduceLeDiff,Nat.reduceSub,Nat.reduceMul,Int.reduceToNat,MM,bu0,cbU49]
  refine awp_loop (fun i st=>i≤mv.length∧st.fr 6=.i64 i∧st.fr 5=.loc 8 [] 0 0∧st.fr 1=ssl mv∧st.mem 8=some (scA n (bld n (FG n 0) mv i))) (mv.length) ?_ ?_
  · simp -dsimp -implicitDefEqProofs (disch:=first|omega|(simp only [lenr];try omega)) only [↓amPre,↓reduceIte,reduceCtorEq,Nat.reduceEqDiff,Nat.reduceBEq,Nat.reduceAdd,Nat.reduceLeDiff,Nat.reduceSub,Nat.reduceMul,Int.reduceToNat,MM,bu0,cbU49]
    exact ⟨Nat.zero_le _,rfl,rfl⟩
  rintro i st _ ⟨hi,f6,f5,f1,m8⟩
  obtain ⟨a,b,c⟩:=bld_ok h1 h2 hm (Nat.le_refl _) i hi
  have d:=bld_ln h1 h2 hm (Nat.le_refl _) i hi
  by_cases hlt:i<mv.length
  · have hlt':(i:Int)<(mv.length:Int):=by omega
    have hmi:=hm _ (mem_getD mv i default hlt)
    have qc:=copyI (mv.getD i default) (by have:=hmi.1;omega)
    have qx:=(walk n h1 h2 (FG n 0)).1 (bld n (FG n 0) mv i) 0 (mv.getD i default) a (Nat.zero_le _) hmi (fun j hj=>absurd hj (Nat.not_lt_zero _)) (fun j hj=>by omega) b (Nat.le_refl _) d
    have hst:bld n (FG n 0) mv (i+1)=add (FG n 0) true (bld n (FG n 0) mv i) 0 (mv.getD i default):=rfl
    rw [hst]
    simp -dsimp -implicitDefEqProofs (disch:=first|omega|(simp only [lenr];try omega)) only [↓amPre,↓reduceIte,reduceCtorEq,Nat.reduceEqDiff,Nat.reduceBEq,Nat.reduceAdd,Nat.reduceLeDiff,Nat.reduceSub,Nat.reduceMul,Int.reduceToNat,MM,bu0,cbU49,f6,f5,f1,m8,lt_true hlt']
    refine callP_frz qc ?_
    simp -dsimp -implicitDefEqProofs (disch:=first|omega|(simp only [lenr];try omega)) only [↓amPre,↓reduceIte,reduceCtorEq,Nat.reduceEqDiff,Nat.reduceBEq,Nat.reduceAdd,Nat.reduceLeDiff,Nat.reduceSub,Nat.reduceMul,Int.reduceToNat,MM,bu0,cbU49,f6,f5,f1,m8,ee]
    refine callX_of (qx) ?_
    simp -dsimp -implicitDefEqProofs (disch:=first|omega|(simp only [lenr];try omega)) only [↓amPre,↓reduceIte,reduceCtorEq,Nat.reduceEqDiff,Nat.reduceBEq,Nat.reduceAdd,Nat.reduceLeDiff,Nat.reduceSub,Nat.reduceMul,Int.reduceToNat,MM,bu0,cbU49,f6,f5,f1,m8]
    exact ⟨hlt,by omega⟩
  · have hie:i=mv.length:=by omega
    subst hie
    have c1':¬ (mv.length:Int)<(mv.length:Int):=by omega
    simp -dsimp -implicitDefEqProofs (disch:=first|omega|(simp only [lenr];try omega)) only [↓amPre,↓reduceIte,reduceCtorEq,Nat.reduceEqDiff,Nat.reduceBEq,Nat.reduceAdd,Nat.reduceLeDiff,Nat.reduceSub,Nat.reduceMul,Int.reduceToNat,MM,bu0,cbU49,f6,f5,f1,m8,lt_false (Int.not_lt.1 c1')]
theorem hasW (n:Nat) (h2:n≤20) (C:List Lv) (hw:WF n C) (p:List Int) (hp:PN n p):SpecX Try.prog 203 [scA n C,isl p] [some (scA n C)] (.bl (psS C 0 p)):=by
  have hlen:=hw.len
  have qs:=siftS n h2 C hw 0 p (Nat.zero_le _) hp
  obtain ⟨hs1,hs2⟩:=sif_ps (C:=C) (n - 0) 0 p (by omega)
  rw [hlen] at hs1 hs2
  have hb:((((sif C (n - 0) 0 p).2:Nat):Int) == (n:Int))=psS C 0 p:=by
    rw [Bool.eq_iff_iff,beq_iff_eq]
    exact ⟨fun q=>hs1.2 (by omega),fun q=>by have:=hs1.1 q;omega⟩
  refine spec_of_awp (M:=MM) (np:=2) (fz:=false) mixed Try.func203 rfl rfl (by decide) rfl (Nat.le_refl _) (by decide +kernel) (.inl rfl) (by simp only [sigsOk_some,sigsOk_nil,and_true]) ?_
  simp -dsimp -implicitDefEqProofs (disch:=first|omega|(simp only [lenr];try omega)) only [↓amPre,↓reduceIte,reduceCtorEq,Nat.reduceEqDiff,Nat.reduceBEq,Nat.reduceAdd,Nat.reduceLeDiff,Nat.reduceSub,Nat.reduceMul,Int.reduceToNat,MM,bu0,cbU49]
  refine callX_of (qs) ?_
  simp -dsimp -implicitDefEqProofs (disch:=first|omega|(simp only [lenr];try omega)) only [↓amPre,↓reduceIte,reduceCtorEq,Nat.reduceEqDiff,Nat.reduceBEq,Nat.reduceAdd,Nat.reduceLeDiff,Nat.reduceSub,Nat.reduceMul,Int.reduceToNat,MM,bu0,cbU49]
  rw [hb]
end Sw
namespace Sy
open Go.Proofs
open Ch (PN pt idL Gen)
open Sc (bld bld_ok bld_has FG psS)
open Sw (scA buildW hasW)
def MM:FuncId→List Bool:=fun f=>if f=203 then [true,false] else []
end Sy
end Go.AM
set_option maxRecDepth 8000
namespace Go.AM
namespace St
open Go.Proofs
open Ch (PN pt idL Gen Lv LvOk ordL filL facN)
open Sc (lv rep psS WF bld bld_ok bld_ln bld_has FG drop_lv)
open Sw (scA buildW hasW row_at ent_at)
def MM:FuncId→List Bool:=fun f=>if f=203 then [true,false] else if f=253 then [true] else if f=222 then [true] else []
def cntK (C:List Lv) (k j:Nat):Nat:=((List.range j).filter fun y=>rep C k y != []).length
theorem cntK_succ (C:List Lv) (k j:Nat):cntK C k (j+1)=cntK C k j+if rep C k j=[] then 0 else 1:=by
  unfold cntK
  rw [List.range_succ,List.filter_append,List.length_append]
  by_cases c:rep C k j=[]
  · rw [if_pos c];simp [c]
  · rw [if_neg c];simp [c]
theorem cntK_le (C:List Lv) (k j:Nat):cntK C k j≤j:=by
  have:=List.length_filter_le (fun y=>rep C k y != []) (List.range j)
  rw [List.length_range] at this
  exact this
theorem boolS (b:Bool):SpecAt Try.prog 274 [.bl b] (.i64 (if b then 1 else 0)):=by
  cases b with
  | true =>
    refine spec_of_awp (M:=MM) (np:=1) (fz:=true) mixed Try.func274 rfl rfl (by decide) rfl (Nat.le_refl _) (by decide +kernel) (.inr ⟨rfl,rfl⟩) trivial ?_
    simp -dsimp -implicitDefEqProofs (disch:=first|omega|(simp only [lenr];try omega)) only [↓amPre,↓reduceIte,reduceCtorEq,Nat.reduceEqDiff,Nat.reduceBEq,Nat.reduceAdd,Nat.reduceLeDiff,Nat.reduceSub,Nat.reduceMul,Int.reduceToNat,MM,bu0,cbU49]
  | false =>
    refine spec_of_awp (M:=MM) (np:=1) (fz:=true) mixed Try.func274 rfl rfl (by decide) rfl (Nat.le_refl _) (by decide +kernel) (.inr ⟨rfl,rfl⟩) trivial ?_
    simp -dsimp -implicitDefEqProofs (disch:=first|omega|(simp only [lenr];try omega)) only [↓amPre,↓reduceIte,reduceCtorEq,Nat.reduceEqDiff,Nat.reduceBEq,Nat.reduceAdd,Nat.reduceLeDiff,Nat.reduceSub,Nat.reduceMul,Int.reduceToNat,MM,bu0,cbU49]
def orbS (n:Nat) (C:List Lv) (k:Nat):List Int:=(List.range k).map fun i=>(cntK C i n:Int)
theorem orbitW (n:Nat) (h2:n≤20) (C:List Lv) (hw:WF n C):SpecX Try.prog 253 [scA n C] [some (scA n C)] (itr (orbS n C n)):=by
  refine spec_of_awp (M:=MM) (np:=1) (fz:=false) mixed Try.func253 rfl rfl (by decide) rfl (Nat.le_refl _) (by decide +kernel) (.inl rfl) (by simp only [sigsOk_some,sigsOk_nil,and_true]) ?_
  simp -dsimp -implicitDefEqProofs (disch:=first|omega|(simp only [lenr];try omega)) only [↓amPre,↓reduceIte,reduceCtorEq,Nat.reduceEqDiff,Nat.reduceBEq,Nat.reduceAdd,Nat.reduceLeDiff,Nat.reduceSub,Nat.reduceMul,Int.reduceToNat,MM,bu0,cbU49]
  refine awp_loopR 7 42 (.tr 1 []) (by simp -dsimp -implicitDefEqProofs (disch:=first|omega|(simp only [lenr];try omega)) only [↓amPre,↓reduceIte,reduceCtorEq,Nat.reduceEqDiff,Nat.reduceBEq,Nat.reduceAdd,Nat.reduceLeDiff,Nat.reduceSub,Nat.reduceMul,Int.reduceToNat,MM,bu0,cbU49]) (by decide) (by decide) (by decide) (fun k st=>k≤n∧st.fr 4=.i64 k∧st.fr 3=.ref 42 [] 1 0 k∧st.fr 0=.loc 0 [] 0 0∧st.mem 42=some (itr (orbS n C k))∧st.mem 0=some (scA n C)) (n) ?_ ?_
  · simp -dsimp -implicitDefEqProofs (disch:=first|omega|(simp only [lenr];try omega)) only [↓amPre,↓reduceIte,reduceCtorEq,Nat.reduceEqDiff,Nat.reduceBEq,Nat.reduceAdd,Nat.reduceLeDiff,Nat.reduceSub,Nat.reduceMul,Int.reduceToNat,MM,bu0,cbU49,ren_eq]
    exact ⟨Nat.zero_le _,rfl,rfl⟩
  rintro k st _ ⟨hk,f4,f3,f0,m42,m0⟩
  have hol:(orbS n C k).length=k:=by simp [orbS]
  have hos:orbS n C (k+1)=orbS n C k++[(cntK C k n:Int)]:=by
    unfold orbS
    rw [List.range_succ,List.map_append];rfl
  by_cases hlt:k<n
  · have hlt':(k:Int)<(n:Int):=by omega
    obtain ⟨hgr,hCl,_,_⟩:=row_at hw hlt
    have hRl:=(hw.lv k hlt).len
    have hent:=fun y (hy:y<n)=>ent_at hw hlt hy
    rw [hos]
    generalize orbS n C k=O at *
    simp -dsimp -implicitDefEqProofs (disch:=first|omega|(simp only [lenr];try omega)) only [↓amPre,↓reduceIte,reduceCtorEq,Nat.reduceEqDiff,Nat.reduceBEq,Nat.reduceAdd,Nat.reduceLeDiff,Nat.reduceSub,Nat.reduceMul,Int.reduceToNat,MM,bu0,cbU49,f4,f3,f0,m42,m0,lt_true hlt']
    refine awp_loop (fun j st=>j≤n∧st.fr 6=.i64 j∧st.fr 5=.i64 (cntK C k j:Nat)∧st.fr 4=.i64 k∧st.fr 3=.ref 42 [] 1 0 k∧st.fr 0=.loc 0 [] 0 0∧st.mem 42=some (itr O)∧st.mem 0=some (scA n C)) (n) ?_ ?_
    · simp -dsimp -implicitDefEqProofs (disch:=first|omega|(simp only [lenr];try omega)) only [↓amPre,↓reduceIte,reduceCtorEq,Nat.reduceEqDiff,Nat.reduceBEq,Nat.reduceAdd,Nat.reduceLeDiff,Nat.reduceSub,Nat.reduceMul,Int.reduceToNat,MM,bu0,cbU49,f4,f3,f0,m42,m0]
      exact ⟨Nat.zero_le _,rfl,rfl⟩
    rintro j st _ ⟨hj,f6,f5,f4,f3,f0,m42,m0⟩
    have hcl:=cntK_le C k j
    by_cases hlj:j<n
    · have hlj':(j:Int)<(n:Int):=by omega
      have he:=hent j hlj
      have hcs:=cntK_succ C k j
      rw [hcs]
      generalize cntK C k j=cj at *
      generalize (lv C k).row=R at *
      by_cases hr:rep C k j=[]
      · rw [hr,nlv_nil] at he
        have qb:=boolS false
        rw [if_pos hr]
        simp -dsimp -implicitDefEqProofs (disch:=first|omega|(simp only [lenr];try omega)) only [↓amPre,↓reduceIte,reduceCtorEq,Nat.reduceEqDiff,Nat.reduceBEq,Nat.reduceAdd,Nat.reduceLeDiff,Nat.reduceSub,Nat.reduceMul,Int.reduceToNat,MM,bu0,cbU49,f6,f5,f4,f3,f0,m42,m0,lt_true hlj',hgr,hCl,hRl,he]
        refine callP_of (qb) ?_
        simp -dsimp -implicitDefEqProofs (disch:=first|omega|(simp only [lenr];try omega)) only [↓amPre,↓reduceIte,reduceCtorEq,Nat.reduceEqDiff,Nat.reduceBEq,Nat.reduceAdd,Nat.reduceLeDiff,Nat.reduceSub,Nat.reduceMul,Int.reduceToNat,MM,bu0,cbU49,f6,f5,f4,f3,f0,m42,m0]
        exact ⟨hlj,by omega,i64c (by omega)⟩
      · rw [nlv_ne hr] at he
        have qb:=boolS true
        rw [if_neg hr]
        have hpos:(0:Int)<((rep C k j).length:Int):=by
          have:(rep C k j).length≠0:=fun q=>hr (List.length_eq_zero_iff.1 q)
          omega
        generalize rep C k j=r at *
        simp -dsimp -implicitDefEqProofs (disch:=first|omega|(simp only [lenr];try omega)) only [↓amPre,↓reduceIte,reduceCtorEq,Nat.reduceEqDiff,Nat.reduceBEq,Nat.reduceAdd,Nat.reduceLeDiff,Nat.reduceSub,Nat.reduceMul,Int.reduceToNat,MM,bu0,cbU49,f6,f5,f4,f3,f0,m42,m0,lt_true hlj',hgr,hCl,hRl,he,lt_true hpos]
        refine callP_of (qb) ?_
        simp -dsimp -implicitDefEqProofs (disch:=first|omega|(simp only [lenr];try omega)) only [↓amPre,↓reduceIte,reduceCtorEq,Nat.reduceEqDiff,Nat.reduceBEq,Nat.reduceAdd,Nat.reduceLeDiff,Nat.reduceSub,Nat.reduceMul,Int.reduceToNat,MM,bu0,cbU49,f6,f5,f4,f3,f0,m42,m0]
        exact ⟨hlj,by omega⟩
    · have hje:j=n:=by omega
      subst hje
      have c1':¬ (j:Int)<(j:Int):=by omega
      simp -dsimp -implicitDefEqProofs (disch:=first|omega|(simp only [lenr];try omega)) only [↓amPre,↓reduceIte,reduceCtorEq,Nat.reduceEqDiff,Nat.reduceBEq,Nat.reduceAdd,Nat.reduceLeDiff,Nat.reduceSub,Nat.reduceMul,Int.reduceToNat,MM,bu0,cbU49,f6,f5,f4,f3,f0,m42,m0,lt_false (Int.not_lt.1 c1'),hol]
      exact ⟨hlt,by omega⟩
  · have hke:k=n:=by omega
    subst hke
    have c1':¬ (k:Int)<(k:Int):=by omega
    simp -dsimp -implicitDefEqProofs (disch:=first|omega|(simp only [lenr];try omega)) only [↓amPre,↓reduceIte,reduceCtorEq,Nat.reduceEqDiff,Nat.reduceBEq,Nat.reduceAdd,Nat.reduceLeDiff,Nat.reduceSub,Nat.reduceMul,Int.reduceToNat,MM,bu0,cbU49,f4,f3,f0,m42,m0,lt_false (Int.not_lt.1 c1'),hol]
def prdK (C:List Lv) (n:Nat):Nat→Nat
  | 0=>1
  | k+1=>prdK C n k*cntK C k n
theorem cnt_fil {n:Nat} {C:List Lv} (hw:WF n C) {k:Nat} (hk:k<n):(filL (lv C k).row).length=cntK C k n:=by
  unfold filL cntK
  rw [(hw.lv k hk).len];rfl
theorem prd_ord {n:Nat} {C:List Lv} (hw:WF n C):∀ d k,k+d=n→prdK C n n=prdK C n k*ordL (C.drop k)
  | 0,k,h=>by rw [List.drop_eq_nil_of_le (by rw [hw.len];omega),ordL,show k=n by omega,Nat.mul_one]
  | d+1,k,h=>by
    rw [prd_ord hw d (k+1) (by omega),drop_lv (C:=C) (k:=k) (by rw [hw.len];omega),ordL,cnt_fil hw (by omega),prdK,Nat.mul_assoc]
theorem prd_pos {n:Nat} (h1:1≤n) (h2:n≤20) {C:List Lv} (hw:WF n C) {k:Nat} (hk:k<n):1≤cntK C k n:=by
  have hb:=(hw.lv k hk).base
  have:k∈(List.range n).filter fun y=>rep C k y != []:=List.mem_filter.2 ⟨List.mem_range.2 hk,by
    have:rep C k k=idL n:=hb
    rw [this]
    have:=Sc.pn_ne (PN.one h1 h2)
    simpa using this⟩
  exact List.length_pos_of_mem this
theorem prd_mono {n:Nat} (h1:1≤n) (h2:n≤20) {C:List Lv} (hw:WF n C):∀ d k,k+d=n→prdK C n k≤prdK C n n
  | 0,k,h=>by rw [show k=n by omega];exact Nat.le_refl _
  | d+1,k,h=>by
    refine Nat.le_trans ?_ (prd_mono h1 h2 hw d (k+1) (by omega))
    have:=prd_pos h1 h2 hw (show k<n by omega)
    rw [prdK]
    exact Nat.le_mul_of_pos_right _ this
theorem orderW (n:Nat) (h1:1≤n) (h2:n≤20) (C:List Lv) (hw:WF n C) (hb:ordL C≤2432902008176640000):SpecX Try.prog 222 [scA n C] [some (scA n C)] (.i64 (ordL C:Nat)):=by
  have q1:=orbitW n h2 C hw
  have hol:(orbS n C n).length=n:=by simp [orbS]
  have ee:∀ X:List Int,AV.fzL (X.map AV.i64)=X.map AV.i64:=fun X=>by rw [fzL_map,ints_fz]
  have ho:=prd_ord hw n 0 (by omega)
  rw [List.drop_zero,prdK,Nat.one_mul] at ho
  rw [← ho] at hb ⊢
  have hg:∀ i,i<n→(orbS n C n).getD i 0=(cntK C i n:Int):=fun i hi=>by
    unfold orbS
    rw [range_map_get _ _ _ _ hi]
  generalize orbS n C n=O at *
  refine spec_of_awp (M:=MM) (np:=1) (fz:=false) mixed Try.func222 rfl rfl (by decide) rfl (Nat.le_refl _) (by decide +kernel) (.inl rfl) (by simp only [sigsOk_some,sigsOk_nil,and_true]) ?_
  simp -dsimp -implicitDefEqProofs (disch:=first|omega|(simp only [lenr];try omega)) only [↓amPre,↓reduceIte,reduceCtorEq,Nat.reduceEqDiff,Nat.reduceBEq,Nat.reduceAdd,Nat.reduceLeDiff,Nat.reduceSub,Nat.reduceMul,Int.reduceToNat,MM,bu0,cbU49]
  refine callX_of (q1) ?_
  simp -dsimp -implicitDefEqProofs (disch:=first|omega|(simp only [lenr];try omega)) only [↓amPre,↓reduceIte,reduceCtorEq,Nat.reduceEqDiff,Nat.reduceBEq,Nat.reduceAdd,Nat.reduceLeDiff,Nat.reduceSub,Nat.reduceMul,Int.reduceToNat,MM,bu0,cbU49]
  refine awp_loop (fun k st=>k≤n∧st.fr 5=.i64 k∧st.fr 3=.i64 (prdK C n k:Nat)∧st.fr 4=.ref 7 [] 1 0 n∧st.fr 0=.loc 0 [] 0 0∧st.mem 7=some (itr O)∧st.mem 0=some (scA n C)) (n) ?_ ?_
  · simp -dsimp -implicitDefEqProofs (disch:=first|omega|(simp only [lenr];try omega)) only [↓amPre,↓reduceIte,reduceCtorEq,Nat.reduceEqDiff,Nat.reduceBEq,Nat.reduceAdd,Nat.reduceLeDiff,Nat.reduceSub,Nat.reduceMul,Int.reduceToNat,MM,bu0,cbU49,hol]
    exact ⟨Nat.zero_le _,rfl,rfl⟩
  rintro k st _ ⟨hk,f5,f3,f4,f0,m7,m0⟩
  by_cases hlt:k<n
  · have hlt':(k:Int)<(n:Int):=by omega
    have hm:=prd_mono h1 h2 hw (n - (k+1)) (k+1) (by omega)
    have hs:prdK C n (k+1)=prdK C n k*cntK C k n:=rfl
    have hgk:=hg k hlt
    have hwm:IntKind.i64.wrap (((prdK C n k:Nat):Int)*((cntK C k n:Nat):Int))=((prdK C n (k+1):Nat):Int):=by
      rw [hs] at hm ⊢
      rw [← Int.natCast_mul,wrap64_id (by omega)]
    simp -dsimp -implicitDefEqProofs (disch:=first|omega|(simp only [lenr];try omega)) only [↓amPre,↓reduceIte,reduceCtorEq,Nat.reduceEqDiff,Nat.reduceBEq,Nat.reduceAdd,Nat.reduceLeDiff,Nat.reduceSub,Nat.reduceMul,Int.reduceToNat,MM,bu0,cbU49,f5,f3,f4,f0,m7,m0,lt_true hlt',hol,hgk,hwm]
    exact ⟨hlt,by omega⟩
  · have hke:k=n:=by omega
    subst hke
    have c1':¬ (k:Int)<(k:Int):=by omega
    simp -dsimp -implicitDefEqProofs (disch:=first|omega|(simp only [lenr];try omega)) only [↓amPre,↓reduceIte,reduceCtorEq,Nat.reduceEqDiff,Nat.reduceBEq,Nat.reduceAdd,Nat.reduceLeDiff,Nat.reduceSub,Nat.reduceMul,Int.reduceToNat,MM,bu0,cbU49,f5,f3,f4,f0,m7,m0,lt_false (Int.not_lt.1 c1'),hol]
end St
end Go.AM
namespace Go.AM
namespace Sc
open Ch (PN pt idL Gen Lv LvOk hasL headG good_has good_pn good_els id_comp comp_assoc pt_comp pt_id pt_inv comp_inv inv_comp elsL ordL newL newL_els facN)
section
variable {n:Nat}
theorem add_gens (h1:1≤n) (h2:n≤20):∀ f C k p,WF n C→k≤n→PN n p→(∀ i,i<k→pt p i=i)→(∀ j,k=j+1→Gen n (lv C j).gens p)→CC n C k→FG n k≤f→∀ s∈(lv (add f true C k p) k).gens,s∈(lv C k).gens∨s=p
  | 0,_,_,_,_,_,_,_,_,_,hf=>absurd hf (by unfold FG;omega)
  | f+1,C,k,p,hw,hkn,hp,hfx,hgn,hcc,hf=>by
    rw [add]
    have hlen:=hw.len
    by_cases ck:C.length≤k
    · rw [if_pos ck];exact fun s hs=>.inl hs
    rw [if_neg ck]
    by_cases cp:psS C k p=true
    · rw [if_pos cp];exact fun s hs=>.inl hs
    rw [if_neg cp]
    have hk:k<n:=by omega
    obtain ⟨a,b,c,d,_⟩:=gen_start h1 h2 hw ck hp hfx hgn hcc hf
    have:=(fold_ok f (fun C k p a b c d e=>(add_ok h1 h2 f).2 C k p a b c d e) hk _ _ a b c d).1.gens
    rw [List.foldl_map] at this
    rw [this,lv_set _ (by omega),if_pos rfl]
    intro s hs
    rcases List.mem_append.1 hs with q | q
    · exact .inl q
    · exact .inr (List.mem_singleton.1 q)
theorem bld_sub {F:Nat} {mv:List (List Int)} (h1:1≤n) (h2:n≤20) (hm:∀ s∈mv,PN n s) (hF:FG n 0≤F):∀ k,k≤mv.length→∀ s∈(lv (bld n F mv k) 0).gens,s∈mv
  | 0,_,s,hs=>by
    have:lv (bld n F mv 0) 0=⟨[],(List.replicate n []).set 0 (idL n)⟩:=emK_lv (by omega)
    rw [this] at hs
    cases hs
  | k+1,hk,s,hs=>by
    obtain ⟨a,b,c⟩:=bld_ok h1 h2 hm hF k (by omega)
    have hmk:=mem_getD mv k default (show k<mv.length by omega)
    rcases add_gens h1 h2 F (bld n F mv k) 0 (mv.getD k default) a (Nat.zero_le _) (hm _ hmk) (fun i hi=>absurd hi (Nat.not_lt_zero _)) (fun j hj=>by omega) b hF s hs with q | q
    · exact bld_sub h1 h2 hm hF k (by omega) s q
    · rw [q];exact hmk
theorem bld_iff {F:Nat} {mv:List (List Int)} (h1:1≤n) (h2:n≤20) (hm:∀ s∈mv,PN n s) (hF:FG n 0≤F):(∀ s,PN n s→(psS (bld n F mv mv.length) 0 s=true↔Gen n mv s)) ∧
    (elsL n (bld n F mv mv.length)).Nodup∧(elsL n (bld n F mv mv.length)).length=ordL (bld n F mv mv.length)∧(∀ g,g∈elsL n (bld n F mv mv.length)↔Gen n mv g)∧1≤ordL (bld n F mv mv.length)∧ordL (bld n F mv mv.length)≤2432902008176640000:=by
  obtain ⟨a,b,c⟩:=bld_ok h1 h2 hm hF mv.length (Nat.le_refl _)
  have hs:=bld_sub h1 h2 hm hF mv.length (Nat.le_refl _)
  have hG:=good_of h1 h2 a b n 0 (Nat.le_refl _) (by omega)
  have hall:=fun s hs=>bld_has (F:=F) h1 h2 hm hF (s:=s) hs
  rw [List.drop_zero] at hG
  have hg:=good_has h1 h2 _ 0 hG
  obtain ⟨e1,e2⟩:=good_els h1 h2 _ 0 hG
  have e3:=Ch.els_len n (bld n F mv mv.length)
  have hhead:headG (bld n F mv mv.length)=(lv (bld n F mv mv.length) 0).gens:=by
    have:=drop_lv (C:=bld n F mv mv.length) (k:=0) (by rw [a.len];omega)
    rw [List.drop_zero] at this
    rw [this];rfl
  have hgen:∀ g,Gen n (headG (bld n F mv mv.length)) g↔Gen n mv g:=fun g=>by
    refine ⟨fun q=>q.mono fun s q2=>hs s (by rw [← hhead];exact q2),fun q=>?_⟩
    have:=hall g q
    unfold psS at this
    rw [List.drop_zero] at this
    exact (hg g (q.pn h1 h2 hm) (fun i hi=>absurd hi (Nat.not_lt_zero _))).1 this
  refine ⟨fun s hsp=>?_,e1,e3,fun g=>(e2 g).trans (hgen g),?_⟩
  · unfold psS
    rw [List.drop_zero]
    exact (hg s hsp (fun i hi=>absurd hi (Nat.not_lt_zero _))).trans (hgen s)
  · obtain ⟨o1,o2⟩:=Ch.ord_fac h1 h2 _ 0 hG
    have hf:∀ m,m≤20→facN m≤2432902008176640000:=by decide
    have:=hf n h2
    rw [Nat.sub_zero] at o2
    exact ⟨o1,by omega⟩
end
end Sc
end Go.AM
set_option maxRecDepth 8000
namespace Go.AM
namespace St
open Go.Proofs
open Ch (PN pt idL Gen Lv LvOk ordL)
open Sc (psS WF bld bld_ok bld_iff FG)
open Sw (scA buildW hasW)
abbrev chP (n:Nat) (mv:List (List Int)):List Lv:=bld n (FG n 0) mv mv.length
theorem groupS (n:Nat) (mv:List (List Int)) (hg:genOk n mv) (hs:smallSS mv):SpecAt Try.prog 166 [.i64 n,ssl mv] (.i64 (ordL (chP n mv):Nat)):=by
  have hn:=hg.1
  have h1:1≤n:=by omega
  have h2:n≤20:=by omega
  have hm:∀ s∈mv,PN n s:=fun s h=>⟨by have:=(hg.2.2 s h).1;omega,(hg.2.2 s h).2⟩
  have q1:=sGen n mv (by unfold intOk;omega) hs
  rw [decide_eq_true hg] at q1
  have q3:=buildW n mv h1 h2 hm hg.2.1
  have hw:=(bld_ok h1 h2 hm (Nat.le_refl _) mv.length (Nat.le_refl _)).1
  have hb:=(bld_iff h1 h2 hm (Nat.le_refl (FG n 0))).2.2.2.2.2
  have q4:=orderW n h1 h2 _ hw hb
  unfold chP
  generalize bld n (FG n 0) mv mv.length=C at *
  refine spec_of_awp (M:=MM) (np:=2) (fz:=false) mixed Try.func166 rfl rfl (by decide) rfl (Nat.le_refl _) (by decide +kernel) (.inl rfl) (by first | trivial | simp only [sigsOk_nil,sigsOk_some,sigsOk_none,sig_tr,sig_pt,sig_mt,sig_agg,List.map_cons,List.map_nil,sig1_tr,sig1_pt,sig1_v,and_self,true_and,List.length_map,List.length_set]) ?_
  simp -dsimp -implicitDefEqProofs (disch:=first|omega|(simp only [lenr];try omega)) only [↓amPre,↓reduceIte,reduceCtorEq,Nat.reduceEqDiff,Nat.reduceBEq,Nat.reduceAdd,Nat.reduceLeDiff,Nat.reduceSub,Nat.reduceMul,Int.reduceToNat,MM,bu0,cbU49]
  refine callP_of (q1) ?_
  simp -dsimp -implicitDefEqProofs (disch:=first|omega|(simp only [lenr];try omega)) only [↓amPre,↓reduceIte,reduceCtorEq,Nat.reduceEqDiff,Nat.reduceBEq,Nat.reduceAdd,Nat.reduceLeDiff,Nat.reduceSub,Nat.reduceMul,Int.reduceToNat,MM,bu0,cbU49]
  refine callP_of (q3) ?_
  simp -dsimp -implicitDefEqProofs (disch:=first|omega|(simp only [lenr];try omega)) only [↓amPre,↓reduceIte,reduceCtorEq,Nat.reduceEqDiff,Nat.reduceBEq,Nat.reduceAdd,Nat.reduceLeDiff,Nat.reduceSub,Nat.reduceMul,Int.reduceToNat,MM,bu0,cbU49]
  refine callX_of (q4) ?_
  simp -dsimp -implicitDefEqProofs (disch:=first|omega|(simp only [lenr];try omega)) only [↓amPre,↓reduceIte,reduceCtorEq,Nat.reduceEqDiff,Nat.reduceBEq,Nat.reduceAdd,Nat.reduceLeDiff,Nat.reduceSub,Nat.reduceMul,Int.reduceToNat,MM,bu0,cbU49]
theorem stateCountS (p:Puzz) (hp:puzzOk p) (h:smallP p):SpecAt Try.prog 74 [p.sl] (.i64 (ordL (chP p.n.toNat p.mv):Nat)):=by
  obtain ⟨pn,nm,mv⟩:=p
  have hn:=hp.1.1
  obtain ⟨n,rfl⟩:∃ n:Nat,pn=n:=⟨pn.toNat,by dsimp only at hn;omega⟩
  have q1:=sPuzzle ⟨n,nm,mv⟩ h
  rw [decide_eq_true hp] at q1
  have q2:=groupS n mv hp.1 h.2.2
  dsimp only
  rw [Int.toNat_natCast]
  generalize ordL (chP n mv)=o at *
  refine spec_of_awp (M:=MM) (np:=1) (fz:=true) mixed Try.func74 rfl rfl (by decide) rfl (Nat.le_refl _) (by decide +kernel) (.inr ⟨rfl,rfl⟩) trivial ?_
  simp -dsimp -implicitDefEqProofs (disch:=first|omega|(simp only [lenr];try omega)) only [↓amPre,↓reduceIte,reduceCtorEq,Nat.reduceEqDiff,Nat.reduceBEq,Nat.reduceAdd,Nat.reduceLeDiff,Nat.reduceSub,Nat.reduceMul,Int.reduceToNat,MM,bu0,cbU49]
  refine callP_of (q1) ?_
  simp -dsimp -implicitDefEqProofs (disch:=first|omega|(simp only [lenr];try omega)) only [↓amPre,↓reduceIte,reduceCtorEq,Nat.reduceEqDiff,Nat.reduceBEq,Nat.reduceAdd,Nat.reduceLeDiff,Nat.reduceSub,Nat.reduceMul,Int.reduceToNat,MM,bu0,cbU49]
  refine callP_of (q2) ?_
  simp -dsimp -implicitDefEqProofs (disch:=first|omega|(simp only [lenr];try omega)) only [↓amPre,↓reduceIte,reduceCtorEq,Nat.reduceEqDiff,Nat.reduceBEq,Nat.reduceAdd,Nat.reduceLeDiff,Nat.reduceSub,Nat.reduceMul,Int.reduceToNat,MM,bu0,cbU49]
theorem memberG (n:Nat) (mv:List (List Int)) (p:List Int) (hg:genOk n mv) (hs:smallSS mv) (hp:PN n p):SpecAt Try.prog 128 [.i64 n,ssl mv,isl p] (.bl (psS (chP n mv) 0 p)):=by
  have hn:=hg.1
  have h1:1≤n:=by omega
  have h2:n≤20:=by omega
  have hm:∀ s∈mv,PN n s:=fun s h=>⟨by have:=(hg.2.2 s h).1;omega,(hg.2.2 s h).2⟩
  have q1:=sGen n mv (by unfold intOk;omega) hs
  rw [decide_eq_true hg] at q1
  have q2:=sIsPerm p (by have:=hp.1;omega)
  rw [decide_eq_true hp.2] at q2
  have q3:=buildW n mv h1 h2 hm hg.2.1
  have hw:=(bld_ok h1 h2 hm (Nat.le_refl _) mv.length (Nat.le_refl _)).1
  have q4:=hasW n h2 _ hw p hp
  unfold chP
  generalize bld n (FG n 0) mv mv.length=C at *
  generalize psS C 0 p=b at *
  have hpl:(p.length:Int)=(n:Int):=by have:=hp.1;omega
  refine spec_of_awp (M:=MM) (np:=3) (fz:=false) mixed Try.func128 rfl rfl (by decide) rfl (Nat.le_refl _) (by decide +kernel) (.inl rfl) (by first | trivial | simp only [sigsOk_nil,sigsOk_some,sigsOk_none,sig_tr,sig_pt,sig_mt,sig_agg,List.map_cons,List.map_nil,sig1_tr,sig1_pt,sig1_v,and_self,true_and,List.length_map,List.length_set]) ?_
  simp -dsimp -implicitDefEqProofs (disch:=first|omega|(simp only [lenr];try omega)) only [↓amPre,↓reduceIte,reduceCtorEq,Nat.reduceEqDiff,Nat.reduceBEq,Nat.reduceAdd,Nat.reduceLeDiff,Nat.reduceSub,Nat.reduceMul,Int.reduceToNat,MM,bu0,cbU49]
  refine callP_of (q1) ?_
  simp -dsimp -implicitDefEqProofs (disch:=first|omega|(simp only [lenr];try omega)) only [↓amPre,↓reduceIte,reduceCtorEq,Nat.reduceEqDiff,Nat.reduceBEq,Nat.reduceAdd,Nat.reduceLeDiff,Nat.reduceSub,Nat.reduceMul,Int.reduceToNat,MM,bu0,cbU49,hpl]
  refine callP_of (q2) ?_
  simp -dsimp -implicitDefEqProofs (disch:=first|omega|(simp only [lenr];try omega)) only [↓amPre,↓reduceIte,reduceCtorEq,Nat.reduceEqDiff,Nat.reduceBEq,Nat.reduceAdd,Nat.reduceLeDiff,Nat.reduceSub,Nat.reduceMul,Int.reduceToNat,MM,bu0,cbU49,hpl]
  refine callP_of (q3) ?_
  simp -dsimp -implicitDefEqProofs (disch:=first|omega|(simp only [lenr];try omega)) only [↓amPre,↓reduceIte,reduceCtorEq,Nat.reduceEqDiff,Nat.reduceBEq,Nat.reduceAdd,Nat.reduceLeDiff,Nat.reduceSub,Nat.reduceMul,Int.reduceToNat,MM,bu0,cbU49]
  refine callX_of (q4) ?_
  simp -dsimp -implicitDefEqProofs (disch:=first|omega|(simp only [lenr];try omega)) only [↓amPre,↓reduceIte,reduceCtorEq,Nat.reduceEqDiff,Nat.reduceBEq,Nat.reduceAdd,Nat.reduceLeDiff,Nat.reduceSub,Nat.reduceMul,Int.reduceToNat,MM,bu0,cbU49]
theorem reachG (p:Puzz) (s:List Int) (hp:puzzOk p) (h:smallP p) (hs:PN p.n.toNat s):SpecAt Try.prog 47 [p.sl,isl s] (.bl (psS (chP p.n.toNat p.mv) 0 s)):=by
  obtain ⟨pn,nm,mv⟩:=p
  have hn:=hp.1.1
  obtain ⟨n,rfl⟩:∃ n:Nat,pn=n:=⟨pn.toNat,by dsimp only at hn;omega⟩
  dsimp only at hs hn ⊢
  rw [Int.toNat_natCast] at hs ⊢
  have q1:=sIsState ⟨n,nm,mv⟩ s h hp ⟨by have:=hs.1;dsimp only;omega,hs.2⟩
  have q2:=memberG n mv s hp.1 h.2.2 hs
  generalize psS (chP n mv) 0 s=b at *
  refine spec_of_awp (M:=MM) (np:=2) (fz:=true) mixed Try.func47 rfl rfl (by decide) rfl (Nat.le_refl _) (by decide +kernel) (.inr ⟨rfl,rfl⟩) trivial ?_
  simp -dsimp -implicitDefEqProofs (disch:=first|omega|(simp only [lenr];try omega)) only [↓amPre,↓reduceIte,reduceCtorEq,Nat.reduceEqDiff,Nat.reduceBEq,Nat.reduceAdd,Nat.reduceLeDiff,Nat.reduceSub,Nat.reduceMul,Int.reduceToNat,MM,bu0,cbU49]
  refine callP_of (q1) ?_
  simp -dsimp -implicitDefEqProofs (disch:=first|omega|(simp only [lenr];try omega)) only [↓amPre,↓reduceIte,reduceCtorEq,Nat.reduceEqDiff,Nat.reduceBEq,Nat.reduceAdd,Nat.reduceLeDiff,Nat.reduceSub,Nat.reduceMul,Int.reduceToNat,MM,bu0,cbU49]
  refine callP_of (q2) ?_
  simp -dsimp -implicitDefEqProofs (disch:=first|omega|(simp only [lenr];try omega)) only [↓amPre,↓reduceIte,reduceCtorEq,Nat.reduceEqDiff,Nat.reduceBEq,Nat.reduceAdd,Nat.reduceLeDiff,Nat.reduceSub,Nat.reduceMul,Int.reduceToNat,MM,bu0,cbU49]
end St
end Go.AM
namespace Go.AM
namespace Sg
/-! the sign by cycles is that of a product -/
def sw (x y z:Nat):Nat:=if z=x then y else if z=y then x else z
theorem sw_x (x y:Nat):sw x y x=y:=if_pos rfl
theorem sw_y (x y:Nat):sw x y y=x:=by unfold sw;split <;> simp_all
theorem sw_o {x y z:Nat} (h1:z≠x) (h2:z≠y):sw x y z=z:=by unfold sw;rw [if_neg h1,if_neg h2]
theorem sw_comm (x y z:Nat):sw x y z=sw y x z:=by
  by_cases h1:z=x
  · subst h1;rw [sw_x,sw_y]
  · by_cases h2:z=y
    · subst h2;rw [sw_x,sw_y]
    · rw [sw_o h1 h2,sw_o h2 h1]
theorem sw_sw (x y z:Nat):sw x y (sw x y z)=z:=by
  by_cases h1:z=x
  · subst h1;rw [sw_x,sw_y]
  · by_cases h2:z=y
    · subst h2;rw [sw_y,sw_x]
    · rw [sw_o h1 h2,sw_o h1 h2]
theorem sw_lt {n x y z:Nat} (hx:x<n) (hy:y<n) (hz:z<n):sw x y z<n:=by
  unfold sw;split
  · exact hy
  · split
    · exact hx
    · exact hz
theorem least_ex (p:Nat→Prop):(∃ k,p k)→∃ k,p k∧∀ i,i<k→¬ p i:=by
  have key:∀ k,p k→∃ k,p k∧∀ i,i<k→¬ p i:=by
    intro k
    induction k using Nat.strongRecOn with
    | ind k ih =>
      intro hk
      by_cases h:∃ i,i<k∧p i
      · obtain ⟨i,h1,h2⟩:=h
        exact ih i h1 h2
      · exact ⟨k,hk,fun i hi hp=>h ⟨i,hi,hp⟩⟩
  rintro ⟨k,hk⟩
  exact key k hk
section
variable {n:Nat} {f:Nat→Nat} {x y:Nat}
def sf (f:Nat→Nat) (x y:Nat):Nat→Nat:=fun z=>sw x y (f z)
theorem sf_perm (h:PermF n f) (hx:x<n) (hy:y<n):PermF n (sf f x y) :=
  ⟨fun z hz=>sw_lt hx hy (h.1 z hz),fun a b ha hb e=>h.2 a b ha hb (by
    have:=congrArg (sw x y) e
    unfold sf at this
    rwa [sw_sw,sw_sw] at this)⟩
theorem sf_comm (f:Nat→Nat) (x y:Nat):sf f x y=sf f y x:=funext fun z=>sw_comm x y (f z)
theorem sf_sf (f:Nat→Nat) (x y:Nat):sf (sf f x y) x y=f:=funext fun z=>sw_sw x y (f z)
theorem it_same {z:Nat}:∀ i,(∀ j,1≤j→j≤i→itN f j z≠x∧itN f j z≠y)→itN (sf f x y) i z=itN f i z
  | 0,_=>rfl
  | i+1,h=>by
    have ih:=it_same i (fun j h1 h2=>h j h1 (by omega))
    obtain ⟨a,b⟩:=h (i+1) (by omega) (Nat.le_refl _)
    show sf f x y (itN (sf f x y) i z)=itN f (i+1) z
    rw [ih]
    exact sw_o a b
theorem hit (h:PermF n f) {z:Nat} (hz:z<n) (hx:x∈orbN n f z):∃ j,1≤j∧itN f j z=x∧∀ i,1≤i→i<j→itN f i z≠x:=by
  have hex:∃ k,1≤k∧itN f k z=x:=by
    obtain ⟨k,hk⟩:=(h.mem_orb z hz x).1 hx
    rcases Nat.eq_zero_or_pos k with q | q
    · subst q
      obtain ⟨m,m1,_,m3⟩:=h.back z hz
      exact ⟨m,m1,by rw [m3];exact hk⟩
    · exact ⟨k,q,hk⟩
  obtain ⟨j,⟨j1,j2⟩,j3⟩:=least_ex _ hex
  exact ⟨j,j1,j2,fun i h1 h2 e=>j3 i h2 ⟨h1,e⟩⟩
theorem m1 (h:PermF n f) (hx:x<n) (hy:y<n) (hne:y∉orbN n f x) {z:Nat} (hz:z<n) (hzx:x∈orbN n f z):y∈orbN n (sf f x y) z:=by
  obtain ⟨j,j1,j2,j3⟩:=hit h hz hzx
  obtain ⟨i,rfl⟩:∃ i,j=i+1:=⟨j - 1,by omega⟩
  have hnoy:∀ k,itN f k z≠y:=fun k e=>hne (h.orb_trans x z y hx (h.orb_symm z hz x hzx) ((h.mem_orb z hz y).2 ⟨k,e⟩))
  have hs:=it_same (f:=f) (x:=x) (y:=y) (z:=z) i (fun k k1 k2=>⟨j3 k k1 (by omega),hnoy k⟩)
  refine ((sf_perm h hx hy).mem_orb z hz y).2 ⟨i+1,?_⟩
  show sf f x y (itN (sf f x y) i z)=y
  rw [hs]
  show sw x y (itN f (i+1) z)=y
  rw [j2,sw_x]
theorem m2 (h:PermF n f) (hx:x<n) (hy:y<n) (hne:y∉orbN n f x) {z:Nat} (hz:z<n) (hzy:y∈orbN n f z):x∈orbN n (sf f x y) z:=by
  have hne':x∉orbN n f y:=fun q=>hne (h.orb_symm y hy x q)
  rw [sf_comm]
  exact m1 h hy hx hne' hz hzy
def inA (n:Nat) (f:Nat→Nat) (x y z:Nat):Prop:=x∈orbN n f z∨y∈orbN n f z
theorem m3 (h:PermF n f) {z:Nat} (hz:z<n) (hA:¬ inA n f x y z) (k:Nat):itN (sf f x y) k z=itN f k z :=
  it_same k fun j _ _=>⟨fun e=>hA (.inl ((h.mem_orb z hz x).2 ⟨j,e⟩)),fun e=>hA (.inr ((h.mem_orb z hz y).2 ⟨j,e⟩))⟩
theorem min_out (h:PermF n f) (hx:x<n) (hy:y<n) {z:Nat} (hz:z<n) (hA:¬ inA n f x y z):minN n (sf f x y) z=minN n f z:=by
  rw [Bool.eq_iff_iff,minN_iff,minN_iff]
  have e:∀ v,v∈orbN n (sf f x y) z↔v∈orbN n f z:=fun v=>by
    rw [(sf_perm h hx hy).mem_orb z hz,h.mem_orb z hz]
    exact ⟨fun ⟨k,q⟩=>⟨k,by rw [← m3 h hz hA];exact q⟩,fun ⟨k,q⟩=>⟨k,by rw [m3 h hz hA];exact q⟩⟩
  exact ⟨fun q v hv=>q v ((e v).2 hv),fun q v hv=>q v ((e v).1 hv)⟩
theorem A_all (h:PermF n f) (hx:x<n) (hy:y<n) (hne:y∉orbN n f x) {z v:Nat} (hz:z<n) (hv:v<n) (hA:inA n f x y z) (hB:inA n f x y v):v∈orbN n (sf f x y) z:=by
  have hp:=sf_perm h hx hy
  have hxy:=m1 h hx hy hne hx (h.orb_self x hx)
  have key:∀ u,u<n→inA n f x y u→y∈orbN n (sf f x y) u:=fun u hu q=>q.elim (m1 h hx hy hne hu) fun q=>hp.orb_trans u x y hu (m2 h hx hy hne hu q) hxy
  exact hp.orb_trans z y v hz (key z hz hA) (hp.orb_symm v hv y (key v hv hB))
theorem A_step (h:PermF n f) (hx:x<n) (hy:y<n) {z:Nat} (hz:z<n) (hA:inA n f x y z):inA n f x y (sf f x y z):=by
  by_cases e1:f z=x
  · have:sf f x y z=y:=by show sw x y (f z)=y;rw [e1,sw_x]
    rw [this];exact .inr (h.orb_self y hy)
  · by_cases e2:f z=y
    · have:sf f x y z=x:=by show sw x y (f z)=x;rw [e2,sw_y]
      rw [this];exact .inl (h.orb_self x hx)
    · have:sf f x y z=f z:=sw_o e1 e2
      rw [this]
      have hfz:f z∈orbN n f z:=(h.mem_orb z hz _).2 ⟨1,rfl⟩
      have hb:=h.orb_symm z hz _ hfz
      have hl:=h.1 z hz
      exact hA.elim (fun q=>.inl (h.orb_trans _ z x hl hb q)) (fun q=>.inr (h.orb_trans _ z y hl hb q))
theorem A_it (h:PermF n f) (hx:x<n) (hy:y<n) {z:Nat} (hz:z<n) (hA:inA n f x y z):∀ k,inA n f x y (itN (sf f x y) k z)
  | 0=>hA
  | k+1=>A_step h hx hy ((sf_perm h hx hy).itlt k z hz) (A_it h hx hy hz hA k)
def cN (n:Nat) (f:Nat→Nat):Nat:=((List.range n).filter (minN n f)).length
theorem cnt_one {p q:Nat→Bool} {M:Nat} (hp:p M=true) (hq:q M=false):∀ m,(∀ z,z<m→z≠M→p z=q z)→((List.range m).filter p).length=((List.range m).filter q).length+if M<m then 1 else 0
  | 0,_=>by simp
  | m+1,h=>by
    have ih:=cnt_one hp hq m (fun z hz hn=>h z (by omega) hn)
    rw [List.range_succ,List.filter_append,List.filter_append,List.length_append,List.length_append,ih]
    by_cases c:m=M
    · subst c
      simp [hp,hq]
    · have:=h m (by omega) c
      have e:([m].filter p).length=([m].filter q).length:=by simp [List.filter,this]
      rw [e]
      by_cases c2:M<m
      · rw [if_pos c2,if_pos (by omega)];omega
      · rw [if_neg c2,if_neg (by omega)];omega
theorem merge1 (h:PermF n f) (hx:x<n) (hy:y<n) (hne:y∉orbN n f x) {a b:Nat} (ha:minN n f a=true) (hax:x∈orbN n f a) (hb:minN n f b=true) (hby:y∈orbN n f b) (han:a<n) (hbn:b<n) (hab:a<b):cN n f=cN n (sf f x y)+1:=by
  have hmin:=fun z=>minN_iff (n:=n) (f:=f) z
  have hA:inA n f x y a:=.inl hax
  have hB:inA n f x y b:=.inr hby
  have inx:∀ z,z<n→x∈orbN n f z→z∈orbN n f a:=fun z hz q=>h.orb_trans a x z han hax (h.orb_symm z hz x q)
  have iny:∀ z,z<n→y∈orbN n f z→z∈orbN n f b:=fun z hz q=>h.orb_trans b y z hbn hby (h.orb_symm z hz y q)
  have hp:=sf_perm h hx hy
  have hbF:minN n (sf f x y) b=false:=by
    cases q:minN n (sf f x y) b with
    | false=>rfl
    | true =>
      have:=(minN_iff b).1 q a (A_all h hx hy hne hbn han hB hA)
      omega
  have hrest:∀ z,z<n→z≠b→minN n f z=minN n (sf f x y) z:=by
    intro z hz hzb
    by_cases c:inA n f x y z
    · rw [Bool.eq_iff_iff]
      constructor
      · intro q
        have hza:z=a:=by
          rcases c with c | c
          · have h1:=(hmin z).1 q a (h.orb_symm a han z (inx z hz c))
            have h2:=(hmin a).1 ha z (inx z hz c)
            omega
          · have h1:=(hmin z).1 q b (h.orb_symm b hbn z (iny z hz c))
            have h2:=(hmin b).1 hb z (iny z hz c)
            omega
        rw [hza,minN_iff]
        intro v hv
        obtain ⟨k,hk⟩:=(hp.mem_orb a han v).1 hv
        have hvn:=hp.orb_lt a han v hv
        have:=A_it h hx hy han hA k
        rw [hk] at this
        rcases this with r | r
        · exact (hmin a).1 ha v (inx v hvn r)
        · have:=(hmin b).1 hb v (iny v hvn r);omega
      · intro q
        have h1:=(minN_iff z).1 q a (A_all h hx hy hne hz han c hA)
        have hza:z=a:=by
          rcases c with c | c
          · have h2:=(hmin a).1 ha z (inx z hz c);omega
          · have h2:=(hmin b).1 hb z (iny z hz c);omega
        rw [hza];exact ha
    · exact (min_out h hx hy hz c).symm
  have:=cnt_one hb hbF n hrest
  rw [if_pos hbn] at this
  exact this
theorem merge (h:PermF n f) (hx:x<n) (hy:y<n) (hne:y∉orbN n f x):cN n f=cN n (sf f x y)+1:=by
  obtain ⟨a,a1,a2,a3⟩:=h.minrep x hx
  obtain ⟨b,b1,b2,b3⟩:=h.minrep y hy
  have han:a<n:=by omega
  have hbn:b<n:=by omega
  rcases Nat.lt_trichotomy a b with q | q | q
  · exact merge1 h hx hy hne a2 a3 b2 b3 han hbn q
  · subst q
    exact absurd (h.orb_trans x a y hx (h.orb_symm a han x a3) b3) hne
  · rw [sf_comm]
    exact merge1 h hy hx (fun r=>hne (h.orb_symm y hy x r)) b2 b3 a2 a3 hbn han q
theorem split (h:PermF n f) (hx:x<n) (hy:y<n) (hxy:x≠y) (hin:y∈orbN n f x):y∉orbN n (sf f x y) x:=by
  obtain ⟨j,j1,j2,j3⟩:=hit h hx hin
  have hnox:∀ k,1≤k→k≤j→itN f k x≠x:=by
    intro k k1 k2 e
    -- then the orbit returns before it meets y
    have hper:∀ m,itN f (k+m) x=itN f m x:=fun m=>by rw [itN_add,e]
    rcases Nat.lt_or_ge k j with q | q
    · have:=hper (j - k)
      rw [show k+(j - k)=j by omega,j2] at this
      rcases Nat.eq_zero_or_pos (j - k) with r | r
      · omega
      · exact j3 (j - k) r (by omega) this.symm
    · have:k=j:=by omega
      rw [this,j2] at e
      exact hxy e.symm
  have hsame:=fun i (hi:i<j)=>it_same (f:=f) (x:=x) (y:=y) (z:=x) i (fun k k1 k2=>⟨hnox k k1 (by omega),j3 k k1 (by omega)⟩)
  have hback:itN (sf f x y) j x=x:=by
    obtain ⟨i,rfl⟩:∃ i,j=i+1:=⟨j - 1,by omega⟩
    show sf f x y (itN (sf f x y) i x)=x
    rw [hsame i (by omega)]
    show sw x y (itN f (i+1) x)=x
    rw [j2,sw_y]
  intro q
  obtain ⟨k,hk⟩:=((sf_perm h hx hy).mem_orb x hx y).1 q
  have hmod:∀ m r,itN (sf f x y) (r+m*j) x=itN (sf f x y) r x:=by
    intro m
    induction m with
    | zero=>intro r;simp
    | succ m ih=>intro r;rw [Nat.succ_mul,show r+(m*j+j)=j+(r+m*j) by omega,itN_add,hback,ih]
  have hk2:itN (sf f x y) (k % j) x=y:=by
    have:=hmod (k / j) (k % j)
    rw [show k % j+k / j*j=k by rw [Nat.mul_comm];exact Nat.mod_add_div k j,hk] at this
    exact this.symm
  have hlt:=Nat.mod_lt k (show j > 0 by omega)
  rw [hsame _ hlt] at hk2
  rcases Nat.eq_zero_or_pos (k % j) with r | r
  · rw [r] at hk2;exact hxy hk2
  · exact j3 _ r hlt hk2
def par (n:Nat) (f:Nat→Nat):Nat:=(n - cN n f) % 2
theorem cN_le (n:Nat) (f:Nat→Nat):cN n f≤n:=by
  have:=List.length_filter_le (minN n f) (List.range n)
  simpa [cN] using this
theorem par_sw (h:PermF n f) (hx:x<n) (hy:y<n) (hxy:x≠y):par n (sf f x y)=(par n f+1) % 2:=by
  have l1:=cN_le n f
  have l2:=cN_le n (sf f x y)
  by_cases c:y∈orbN n f x
  · have hne:=split h hx hy hxy c
    have:=merge (sf_perm h hx hy) hx hy hne
    rw [sf_sf] at this
    unfold par;omega
  · have:=merge h hx hy c
    unfold par;omega
theorem it_congr {g:Nat→Nat} (h:PermF n f) (e:∀ z,z<n→f z=g z) {z:Nat} (hz:z<n):∀ k,itN f k z=itN g k z
  | 0=>rfl
  | k+1=>by
    show f (itN f k z)=g (itN g k z)
    rw [← it_congr h e hz k,e _ (h.itlt k z hz)]
theorem perm_congr {g:Nat→Nat} (h:PermF n f) (e:∀ z,z<n→f z=g z):PermF n g :=
  ⟨fun z hz=>by rw [← e z hz];exact h.1 z hz,fun a b ha hb q=>h.2 a b ha hb (by rw [e a ha,e b hb];exact q)⟩
theorem par_congr {g:Nat→Nat} (h:PermF n f) (e:∀ z,z<n→f z=g z):par n f=par n g:=by
  have hg:=perm_congr h e
  have:cN n f=cN n g:=by
    unfold cN
    congr 1
    refine List.filter_congr fun z hz=>?_
    have hz:=List.mem_range.1 hz
    rw [Bool.eq_iff_iff,minN_iff,minN_iff]
    have ee:∀ v,v∈orbN n f z↔v∈orbN n g z:=fun v=>by
      rw [h.mem_orb z hz,hg.mem_orb z hz]
      exact ⟨fun ⟨k,q⟩=>⟨k,by rw [← it_congr h e hz];exact q⟩,fun ⟨k,q⟩=>⟨k,by rw [it_congr h e hz];exact q⟩⟩
    exact ⟨fun q v hv=>q v ((ee v).2 hv),fun q v hv=>q v ((ee v).1 hv)⟩
  unfold par;rw [this]
theorem id_perm (n:Nat):PermF n (fun z=>z):=⟨fun _ h=>h,fun _ _ _ _ e=>e⟩
theorem par_id (n:Nat):par n (fun z=>z)=0:=by
  have:cN n (fun z=>z)=n:=by
    unfold cN
    have:(List.range n).filter (minN n fun z=>z)=List.range n:=by
      rw [List.filter_eq_self]
      intro z hz
      have hz:=List.mem_range.1 hz
      rw [minN_iff]
      intro v hv
      obtain ⟨k,hk⟩:=((id_perm n).mem_orb z hz v).1 hv
      have hit:∀ k,itN (fun z=>z) k z=z:=fun k=>by
        induction k with
        | zero=>rfl
        | succ k ih=>exact ih
      rw [hit] at hk
      omega
    rw [this,List.length_range]
  unfold par;rw [this];simp
def nfx (n:Nat) (g:Nat→Nat):Nat:=((List.range n).filter fun z=>!(g z == z)).length
theorem nfx_lt {g g':Nat→Nat} {z:Nat} (hz:z<n) (h1:g z≠z) (h2:g' z=z) (h3:∀ u,u<n→g u=u→g' u=u):nfx n g'<nfx n g:=by
  have key:∀ m,((List.range m).filter fun z=>!(g' z == z)).length+(if z<m then 1 else 0)≤((List.range m).filter fun z=>!(g z == z)).length∨n<m:=by
    intro m
    induction m with
    | zero=>left;simp
    | succ m ih =>
      rcases ih with ih | ih
      · rcases Nat.lt_or_ge m n with q | q
        · left
          rw [List.range_succ,List.filter_append,List.filter_append,List.length_append,List.length_append]
          by_cases c:m=z
          · subst c
            have e1:([m].filter fun z=>!(g' z == z)).length=0:=by simp [h2]
            have e2:([m].filter fun z=>!(g z == z)).length=1:=by simp [h1]
            rw [e1,e2,if_pos (by omega)]
            rw [if_neg (by omega)] at ih
            omega
          · have e:([m].filter fun z=>!(g' z == z)).length≤([m].filter fun z=>!(g z == z)).length:=by
              by_cases c2:g m=m
              · simp [c2,h3 m q c2]
              · simp only [List.filter_cons,List.filter_nil]
                have:(!(g m == m))=true:=by simpa using c2
                rw [this]
                split <;> simp
            by_cases c2:z<m
            · rw [if_pos c2] at ih;rw [if_pos (by omega)];omega
            · rw [if_neg c2] at ih;rw [if_neg (by omega)];omega
        · right;omega
      · right;omega
  rcases key n with q | q
  · rw [if_pos hz] at q
    unfold nfx;omega
  · omega
theorem par_mul:∀ (N:Nat) (g:Nat→Nat),nfx n g≤N→PermF n g→∀ f,PermF n f→par n (fun z=>g (f z))=(par n g+par n f) % 2:=by
  intro N
  induction N with
  | zero =>
    intro g hg hp f hf
    have hid:∀ z,z<n→g z=z:=fun z hz=>by
      by_cases c:g z=z
      · exact c
      · have hm:z∈(List.range n).filter fun z=>!(g z == z):=List.mem_filter.2 ⟨List.mem_range.2 hz,by simpa using c⟩
        have:(List.range n).filter (fun z=>!(g z == z))=[]:=List.length_eq_zero_iff.1 (Nat.le_zero.1 hg)
        rw [this] at hm;cases hm
    have e1:=par_congr hf (g:=fun z=>g (f z)) (fun z hz=>(hid _ (hf.1 z hz)).symm)
    have e2:=par_congr hp (g:=fun z=>z) hid
    rw [par_id] at e2
    rw [← e1,e2]
    have:par n f<2:=Nat.mod_lt _ (by omega)
    omega
  | succ N ih =>
    intro g hg hp f hf
    by_cases c:∃ z,z<n∧g z≠z
    · obtain ⟨z,hz,hzg⟩:=c
      have hw:=hp.1 z hz
      have hp':=sf_perm hp hz hw (x:=z) (y:=g z)
      have hfix:sf g z (g z) z=z:=sw_y z (g z)
      have hlt:=nfx_lt (g:=g) (g':=sf g z (g z)) hz hzg hfix (fun u hu e=>by
        show sw z (g z) (g u)=u
        rw [e]
        refine sw_o (fun q=>hzg (by rw [← q];exact e)) (fun q=>hzg ?_)
        have:g u=g z:=by rw [e];exact q
        have:=hp.2 u z hu hz this
        rw [← this];exact e)
      have i1:=ih (sf g z (g z)) (by omega) hp' f hf
      have i2:=par_sw hp hz hw (Ne.symm hzg)
      have hc:PermF n fun z=>g (f z):=⟨fun a ha=>hp.1 _ (hf.1 a ha),fun a b ha hb e=>hf.2 a b ha hb (hp.2 _ _ (hf.1 a ha) (hf.1 b hb) e)⟩
      have i3:=par_sw hc hz hw (Ne.symm hzg)
      have e:(fun u=>sf g z (g z) (f u))=sf (fun u=>g (f u)) z (g z):=rfl
      rw [e] at i1
      have b1:par n g<2:=Nat.mod_lt _ (by omega)
      have b2:par n (fun z=>g (f z))<2:=Nat.mod_lt _ (by omega)
      omega
    · exact ih g (by
        have:nfx n g=0:=by
          unfold nfx
          rw [List.length_eq_zero_iff,List.filter_eq_nil_iff]
          intro z hz
          have:=List.mem_range.1 hz
          by_cases c2:g z=z
          · simp [c2]
          · exact absurd ⟨z,this,c2⟩ c
        omega) hp f hf
end
theorem sgn_par (p:List Int):sgnI p=if par p.length (fOf p)=1 then -1 else 1:=by
  have:(cycI p).length=cN p.length (fOf p):=by unfold cycI cN;rw [List.length_map];rfl
  unfold sgnI par
  rw [this]
end Sg
end Go.AM
namespace Go.AM
/-! the solved state,and what a word of moves does to it -/
theorem solved_at {ks:List Kind} {i:Nat} (hi:i<ks.length):(ks.map solvedK).getD i default=solvedK (ks.getD i default):=by
  simp [List.getD,hi]
theorem solved_ok {ks:List Kind} (h:kindsOk ks):psOk ks (ks.map solvedK):=by
  refine ⟨h,by simp,fun i hi=>?_⟩
  rw [solved_at hi]
  obtain ⟨⟨c1,c2⟩,o1,o2⟩:=h.2.1 _ (mem_getD ks i default hi)
  generalize ks.getD i default=k at *
  refine ⟨by simp only [solvedK,runI_len];omega,by simp only [solvedK,List.length_replicate];omega,run_perm (by omega) (by omega),fun x hx=>?_⟩
  have:=List.eq_of_mem_replicate hx
  omega
theorem permOf_solved {ks:List Kind} (h:kindsOk ks):permOf ks (ks.map solvedK)=runI 0 (bas ks ks.length):=by
  have ps:=solved_ok h
  have hl:=permOf_length ps
  refine ext_getD 0 (by rw [hl,runI_len]) fun x hx=>?_
  rw [hl] at hx
  rw [runI_get _ _ _ hx]
  obtain ⟨k,i,j,c,o,hk,hc,ho,hi,hj,rfl⟩:=bas_surj h ks.length (Nat.le_refl _) x hx
  have hg:=permL_get ps ks.length (Nat.le_refl _) k i j c o hk hc ho hi hj
  rw [solved_at hk] at hg
  have e1:(solvedK (ks.getD k default)).to.getD i 0=(i:Int):=by
    rw [solvedK,hc,Int.toNat_natCast,runI_get _ _ _ hi];omega
  have e2:(solvedK (ks.getD k default)).by'.getD i 0=0:=by
    rw [solvedK,hc,Int.toNat_natCast];simp [List.getD,hi]
  rw [e1,e2,Int.add_zero,Int.tmod_eq_of_lt (by omega) (by omega)] at hg
  unfold permOf
  rw [hg]
  have e3:((i*o:Nat):Int)=(i:Int)*o:=by simp
  omega
end Go.AM
set_option maxRecDepth 8000
namespace Go.AM
namespace Ih
open Go.Proofs
open Sg (par par_mul par_congr par_id sgn_par nfx)
theorem sumI_perm {a b:List Int} (h:a.Perm b):sumI a=sumI b:=by
  induction h with
  | nil=>rfl
  | cons x _ ih=>rw [sumI,sumI,ih]
  | swap x y l=>rw [sumI,sumI,sumI,sumI];omega
  | trans _ _ h1 h2=>rw [h1,h2]
theorem sumI_add (f g:Nat→Int):∀ l:List Nat,sumI (l.map fun i=>f i+g i)=sumI (l.map f)+sumI (l.map g)
  | []=>rfl
  | x :: r=>by rw [List.map_cons,List.map_cons,List.map_cons,sumI,sumI,sumI,sumI_add f g r];omega
theorem sumI_emod (o:Int) (f:Nat→Int):∀ l:List Nat,sumI (l.map fun i=>f i % o) % o=sumI (l.map f) % o
  | []=>rfl
  | x :: r=>by
    rw [List.map_cons,List.map_cons,sumI,sumI,Int.add_emod,sumI_emod o f r,Int.emod_emod_of_dvd _ (Int.dvd_refl o),← Int.add_emod]
theorem rng_self (l:List Int):(List.range l.length).map (fun i=>l.getD i 0)=l:=by
  refine ext_getD 0 (by simp) fun i hi=>?_
  have hi':i<l.length:=by simpa using hi
  rw [getD_eq _ _ _ hi,List.getElem_map,List.getElem_range]
theorem sumI_nonneg:∀ l:List Int,(∀ x∈l,0≤x)→0≤sumI l
  | [],_=>Int.le_refl _
  | x :: r,h=>by
    have:=h x (List.mem_cons_self ..)
    have:=sumI_nonneg r (fun y hy=>h y (List.mem_cons_of_mem _ hy))
    rw [sumI];omega
theorem sum_reix {p b:List Int} (hp:isPerm p) (hl:p.length=b.length):sumI ((List.range p.length).map fun i=>b.getD (p.getD i 0).toNat 0)=sumI b:=by
  have hperm:p.Perm ((List.range p.length).map fun (i:Nat)=>(i:Int)):=by
    refine (List.perm_ext_iff_of_nodup hp.2.2 ?_).2 fun x=>⟨fun hx=>?_,fun hx=>?_⟩
    · refine List.pairwise_map.2 (List.nodup_range.imp fun h e=>h (by omega))
    · have:=hp.2.1 x hx
      exact List.mem_map.2 ⟨x.toNat,List.mem_range.2 (by omega),by omega⟩
    · obtain ⟨j,hj,rfl⟩:=List.mem_map.1 hx
      obtain ⟨i,hi,e⟩:=perm_surj hp j (List.mem_range.1 hj)
      have hm:=mem_getD p i 0 hi
      have:=hp.2.1 _ hm
      rw [show ((j:Nat):Int)=p.getD i 0 by omega]
      exact hm
  have e1:((List.range p.length).map fun i=>b.getD (p.getD i 0).toNat 0)=p.map fun x=>b.getD x.toNat 0:=by
    conv=>rhs;rw [← rng_self p,List.map_map]
    rfl
  rw [e1,sumI_perm (hperm.map fun x=>b.getD x.toNat 0),List.map_map]
  have e2:((List.range p.length).map ((fun x:Int=>b.getD x.toNat 0)∘fun (i:Nat)=>(i:Int)))=(List.range b.length).map fun i=>b.getD i 0:=by
    rw [hl]
    refine List.map_congr_left fun i _=>?_
    show b.getD ((i:Int)).toNat 0=_
    rw [Int.toNat_natCast]
  rw [e2,rng_self]
theorem twS_comp {ks:List Kind} {a b:List Twist} (pa:psOk ks a) (pb:psOk ks b) {n:Nat} (hn:n<ks.length) (ha:twS (ks.getD n default) (a.getD n default)=0) (hb:twS (ks.getD n default) (b.getD n default)=0) :
    twS (ks.getD n default) ((compS ks a b).getD n default)=0:=by
  have hk:=pa.1.2.1 _ (mem_getD ks n default hn)
  have pc:=comp_ok pa pb
  have ta:=tw_get pa hn
  have tb:=tw_get pb hn
  have tc:=tw_get pc hn
  have e:(compS ks a b).getD n default=compT (ks.getD n default).o (a.getD n default) (b.getD n default):=by rw [compS,range_map_get _ _ _ _ hn]
  rw [e] at tc ⊢
  generalize ks.getD n default=k at *
  generalize a.getD n default=s at *
  generalize b.getD n default=t at *
  obtain ⟨c,o,hc,ho,la,la',c1,c2,o1,o2⟩:=twOk_facts ta hk
  obtain ⟨c',o',hc',ho',lb,lb',_⟩:=twOk_facts tb hk
  have na:=sumI_nonneg s.by' (fun x hx=>(ta.2.2.2 x hx).1)
  have nb:=sumI_nonneg t.by' (fun x hx=>(tb.2.2.2 x hx).1)
  have nc:=sumI_nonneg (compT k.o s t).by' (fun x hx=>(tc.2.2.2 x hx).1)
  unfold twS at *
  rw [Int.tmod_eq_emod_of_nonneg na] at ha
  rw [Int.tmod_eq_emod_of_nonneg nb] at hb
  rw [Int.tmod_eq_emod_of_nonneg nc]
  have eb:(compT k.o s t).by'=(List.range s.to.length).map fun i=>(s.by'.getD i 0+t.by'.getD (s.to.getD i 0).toNat 0) % k.o:=by
    refine List.map_congr_left fun i hi=>?_
    have hi:=List.mem_range.1 hi
    have h1:=by_get ta (show i<s.by'.length by omega)
    have h2:=to_get ta hi
    have h3:=by_get tb (show (s.to.getD i 0).toNat<t.by'.length by omega)
    show Int.tmod _ _=_
    exact Int.tmod_eq_emod_of_nonneg (by omega)
  have e1:sumI ((List.range s.to.length).map fun i=>s.by'.getD i 0)=sumI s.by':=by
    rw [show s.to.length=s.by'.length by omega,rng_self]
  have e2:=sum_reix (p:=s.to) (b:=t.by') ta.2.2.1 (by omega)
  rw [eb,sumI_emod,sumI_add,e1,e2,Int.add_emod,ha,hb]
  rfl
theorem sgn_neg (p:List Int):sgnI p<0↔par p.length (fOf p)=1:=by
  rw [sgn_par]
  split
  · rename_i h;exact ⟨fun _=>h,fun _=>by decide⟩
  · rename_i h;exact ⟨fun q=>absurd q (by decide),fun q=>absurd q h⟩
theorem sgn_comp {p q:List Int} (hp:isPerm p) (hq:isPerm q) (hl:p.length=q.length):(if sgnI (compI p q)<0 then 1 else 0:Nat) % 2=((if sgnI p<0 then 1 else 0:Nat)+(if sgnI q<0 then 1 else 0:Nat)) % 2:=by
  have fp:=permF_of hp
  have fq:=permF_of hq
  rw [← hl] at fq
  have hc:=permF_of (compI_perm hp hq hl)
  rw [compI_len] at hc
  have e:∀ z,z<p.length→fOf (compI p q) z=(fun z=>fOf q (fOf p z)) z:=fun z hz=>by
    show ((compI p q).getD z 0).toNat=(q.getD ((p.getD z 0).toNat) 0).toNat
    rw [compI_get _ _ _ hz]
  have h1:=par_congr hc e
  have h2:=par_mul _ (fOf q) (Nat.le_refl _) fq (fOf p) fp
  have s1:=sgn_neg (compI p q)
  have s2:=sgn_neg p
  have s3:=sgn_neg q
  rw [compI_len] at s1
  rw [← hl] at s3
  have b1:par p.length (fOf p)<2:=Nat.mod_lt _ (by omega)
  have b2:par p.length (fOf q)<2:=Nat.mod_lt _ (by omega)
  by_cases c1:sgnI p<0 <;> by_cases c2:sgnI q<0 <;> by_cases c3:sgnI (compI p q)<0 <;> simp only [c1,c2,c3,if_true,if_false] <;> simp only [c1,c2,c3,true_iff,false_iff] at s1 s2 s3 <;> omega
theorem oddS_comp {ks:List Kind} {a b:List Twist} (pa:psOk ks a) (pb:psOk ks b) (set:Int):∀ k,k≤ks.length→oddS (compS ks a b) set k % 2=(oddS a set k+oddS b set k) % 2
  | 0,_=>rfl
  | k+1,hk=>by
    have ih:=oddS_comp pa pb set k (by omega)
    have ta:=tw_get pa (show k<ks.length by omega)
    have tb:=tw_get pb (show k<ks.length by omega)
    have e:(compS ks a b).getD k default=compT (ks.getD k default).o (a.getD k default) (b.getD k default):=by rw [compS,range_map_get _ _ _ _ (by omega)]
    have hs:=sgn_comp ta.2.2.1 tb.2.2.1 (by have:=ta.1;have:=tb.1;omega)
    rw [oddS,oddS,oddS,e]
    show (oddS (compS ks a b) set k+if bitK set k=true∧sgnI (compI (a.getD k default).to (b.getD k default).to)<0 then 1 else 0) % 2=_
    by_cases c:bitK set k=true
    · by_cases d1:sgnI (compI (a.getD k default).to (b.getD k default).to)<0 <;> by_cases d2:sgnI (a.getD k default).to<0 <;> by_cases d3:sgnI (b.getD k default).to<0 <;> simp only [c,d1,d2,d3,true_and,and_true,and_false,if_true,if_false] at hs ⊢ <;> omega
    · have c':bitK set k=false:=by simpa using c
      simp only [c',Bool.false_eq_true,false_and,if_false]
      omega
theorem inv_comp {ks:List Kind} {a b:List Twist} (pa:psOk ks a) (pb:psOk ks b) {i:Invar} (ha:invV ks a i=0) (hb:invV ks b i=0):invV ks (compS ks a b) i=0:=by
  have pc:=comp_ok pa pb
  unfold invV at *
  by_cases c1:i.k=1
  · rw [if_pos c1] at *
    unfold twR at *
    by_cases c2:0≤i.s∧i.s<ks.length
    · rw [if_pos ⟨pa,c2⟩] at ha
      rw [if_pos ⟨pb,c2⟩] at hb
      rw [if_pos ⟨pc,c2⟩]
      exact twS_comp pa pb (by omega) ha hb
    · rw [if_neg (fun q=>c2 q.2)] at ha
      exact absurd ha (by decide)
  · rw [if_neg c1] at *
    by_cases c2:i.k=2
    · rw [if_pos c2] at *
      unfold parR at *
      by_cases c3:1≤i.s∧i.s≤((2 ^ ks.length:Nat):Int) - 1
      · rw [if_pos ⟨pa,c3⟩] at ha
        rw [if_pos ⟨pb,c3⟩] at hb
        rw [if_pos ⟨pc,c3⟩]
        have hc:=oddS_comp pa pb i.s ks.length (Nat.le_refl _)
        unfold parS at *
        rw [pa.2.1] at ha
        rw [pb.2.1] at hb
        rw [pc.2.1]
        omega
      · rw [if_neg (fun q=>c3 q.2)] at ha
        exact absurd ha (by decide)
    · rw [if_neg c2] at ha
      exact absurd ha (by decide)
theorem sumI_rep (x:Nat):sumI (List.replicate x 0)=0:=by
  induction x with
  | zero=>rfl
  | succ x ih=>rw [List.replicate_succ,sumI,ih];rfl
theorem par_run {n:Nat} (h1:1≤n) (h2:n≤20):¬ sgnI (runI 0 n)<0:=by
  rw [sgn_neg,runI_len]
  have hp:=permF_of (run_perm h1 h2)
  rw [runI_len] at hp
  have:=par_congr hp (g:=fun z=>z) (fun z hz=>by
    show ((runI 0 n).getD z 0).toNat=z
    rw [runI_get 0 n z hz];omega)
  rw [this,par_id]
  decide
theorem oddS_solved {ks:List Kind} (hk:kindsOk ks) (set:Int):∀ k,k≤ks.length→oddS (ks.map solvedK) set k=0
  | 0,_=>rfl
  | k+1,h=>by
    have hko:=hk.2.1 _ (mem_getD ks k default (by omega))
    have e:((ks.map solvedK).getD k default).to=runI 0 (ks.getD k default).c.toNat:=by
      rw [getD_eq _ _ _ (by rw [List.length_map];omega),List.getElem_map,← getD_eq ks k default (by omega)];rfl
    have hr:=par_run (n:=(ks.getD k default).c.toNat) (by have:=hko.1;omega) (by have:=hko.1;omega)
    rw [oddS,oddS_solved hk set k (by omega),e,if_neg (fun q=>hr q.2)]
theorem inv_solved {ks:List Kind} (hk:kindsOk ks) {i:Invar} (hi:i∈allI ks):invV ks (ks.map solvedK) i=0:=by
  have ps:=solved_ok hk
  rcases List.mem_append.1 hi with h | h
  · obtain ⟨j,hj,rfl⟩:=List.mem_map.1 h
    have hj:=List.mem_range.1 hj
    show (if (1:Int)=1 then twR ks (ks.map solvedK) (j:Int) else _)=0
    rw [if_pos rfl,twR,if_pos ⟨ps,by omega,by omega⟩,Int.toNat_natCast]
    have e:((ks.map solvedK).getD j default).by'=List.replicate (ks.getD j default).c.toNat 0:=by
      rw [getD_eq _ _ _ (by rw [List.length_map];omega),List.getElem_map,← getD_eq ks j default hj];rfl
    rw [twS,e,sumI_rep]
    simp
  · obtain ⟨j,hj,rfl⟩:=List.mem_map.1 h
    have hj:=List.mem_range.1 hj
    show (if (2:Int)=1 then _ else if (2:Int)=2 then parR ks (ks.map solvedK) ((j+1:Nat):Int) else _)=0
    rw [if_neg (by decide),if_pos rfl,parR,if_pos ⟨ps,by omega,by omega⟩,parS,ps.2.1,oddS_solved hk _ _ (Nat.le_refl _)]
    rfl
theorem cons_mem {m:Model} {i:Invar} (hi:i∈consR m):modelOk m∧i∈allI m.ks∧consM m i:=by
  unfold consR at hi
  split at hi
  · rename_i hm
    obtain ⟨h1,h2⟩:=List.mem_filter.1 hi
    unfold keepI at h2
    rw [Bool.and_eq_true,decide_eq_true_eq] at h2
    exact ⟨hm,h1,h2.2⟩
  · cases hi
def okS (m:Model) (s:List Twist):Prop:=psOk m.ks s∧∀ i∈consR m,invV m.ks s i=0
theorem okS_solved {m:Model} (hm:modelOk m):okS m (m.ks.map solvedK):=⟨solved_ok hm.1,fun _ hi=>inv_solved hm.1 (cons_mem hi).2.1⟩
theorem okS_move {m:Model} (hm:modelOk m) {s t:List Twist} (hs:okS m s) (ht:t∈m.mv):okS m (compS m.ks s t) :=
  ⟨comp_ok hs.1 (hm.2.2.2 t ht),fun i hi=>inv_comp hs.1 (hm.2.2.2 t ht) (hs.2 i hi) ((cons_mem hi).2.2.2 t ht)⟩
theorem okS_vio {m:Model} {s:List Twist} (hs:okS m s):vioO m s=none:=by
  unfold vioO
  rw [if_pos hs.1,List.find?_eq_none]
  intro i hi
  rw [hs.2 i hi]
  simp
end Ih
end Go.AM
set_option maxRecDepth 8000
namespace Go.AM
open Go.Proofs
def dvS (ks:List Kind) (n:Int) (i:Invar):Int:=if i.k=1 then n.tdiv (ks.getD i.s.toNat default).o else n
def dvN (ks:List Kind) (l:List Invar) (n:Int):Int:=l.foldl (dvS ks) n
theorem dvN_take (ks:List Kind) (l:List Invar) (n:Int) (k:Nat) (h:k<l.length):dvN ks (l.take (k+1)) n=dvS ks (dvN ks (l.take k) n) (l.getD k default):=by
  unfold dvN;rw [take_succ_eq l k default h,List.foldl_append];rfl
theorem tdiv_le (a b:Int) (h:0≤a) (hb:1≤b):0≤a.tdiv b∧a.tdiv b≤a:=by
  rw [Int.tdiv_eq_ediv_of_nonneg h]
  exact ⟨Int.ediv_nonneg h (by omega),Int.ediv_le_self _ h⟩
theorem dvN_le (ks:List Kind) (hk:kindsOk ks):∀ (l:List Invar) (n:Int),0≤n→(∀ i∈l,i.k=1→∃ m:Nat,m<ks.length∧i.s=m)→0≤dvN ks l n∧dvN ks l n≤n
  | [],n,h,_=>by simp [dvN,h]
  | i :: r,n,h,hl=>by
    have hs:0≤dvS ks n i∧dvS ks n i≤n:=by
      unfold dvS;split
      · rename_i c
        obtain ⟨m,hm,e⟩:=hl i (by simp) c
        rw [e,Int.toNat_natCast]
        exact tdiv_le _ _ h (hk.2.1 _ (mem_getD ks m default hm)).2.1
      · omega
    have ih:=dvN_le ks hk r (dvS ks n i) hs.1 fun i hi=>hl i (by simp [hi])
    have e:dvN ks (i :: r) n=dvN ks r (dvS ks n i):=rfl
    rw [e];omega
theorem cons_kind {m:Model}:∀ i∈consL m,i.k=1→∃ n:Nat,n<m.ks.length∧i.s=n:=by
  intro i h c
  have hi:=(List.mem_filter.1 h).1
  rw [allI,List.mem_append] at hi
  rcases hi with hi | hi
  · obtain ⟨n,hn,rfl⟩:=List.mem_map.1 hi
    exact ⟨n,List.mem_range.1 hn,rfl⟩
  · obtain ⟨n,hn,rfl⟩:=List.mem_map.1 hi
    cases c
def goodN (m:Model):Nat→Nat
  | 0=>1
  | j+1=>goodN m j+if consM m ⟨2,((j+1:Nat):Int)⟩ then 1 else 0
def trvN (ks:List Kind):Nat→Nat
  | 0=>1
  | j+1=>trvN ks j+if trivK ks ((j+1:Nat):Int) ks.length=true then 1 else 0
theorem trvN_le (ks:List Kind):∀ j,1≤trvN ks j∧trvN ks j≤j+1
  | 0=>by simp [trvN]
  | j+1=>by have:=trvN_le ks j;rw [trvN];split <;> omega
theorem sgn_one:sgnI [0]=1:=by decide +kernel
theorem odd_triv (ks:List Kind) (s:List Twist) (ps:psOk ks s) (set:Int):∀ k,k≤ks.length→trivK ks set k=true→oddS s set k=0
  | 0,_,_=>rfl
  | k+1,hk,h=>by
    rw [trivK,Bool.and_eq_true] at h
    have ih:=odd_triv ks s ps set k (by omega) h.1
    rw [oddS,ih,if_neg]
    rintro ⟨q1,q2⟩
    have h2:=h.2
    rw [q1] at h2
    simp only [Bool.true_and,Bool.not_eq_true',decide_eq_false_iff_not] at h2
    obtain ⟨t1,t2,t3,t4⟩:=ps.2.2 k (by omega)
    have hc:=(ps.1.2.1 _ (mem_getD ks k default (by omega))).1.1
    obtain ⟨x,hx⟩:=List.length_eq_one_iff.1 (show (s.getD k default).to.length=1 by omega)
    have hx0:=t3.2.1 x (by rw [hx];simp)
    rw [hx] at hx0 q2
    have:x=0:=by simp only [List.length_singleton] at hx0;omega
    rw [this,sgn_one] at q2
    omega
theorem triv_cons (m:Model) (c:modelOk m) (j:Nat) (hj:j+1≤2 ^ m.ks.length - 1) (h:trivK m.ks ((j+1:Nat):Int) m.ks.length=true):consM m ⟨2,((j+1:Nat):Int)⟩:=by
  have hp:=pow_small c.1.1.2
  refine ⟨c,fun s hs=>?_⟩
  have ps:=c.2.2.2 s hs
  have e1:invV m.ks s ⟨2,((j+1:Nat):Int)⟩=parR m.ks s ((j+1:Nat):Int):=rfl
  rw [e1,parR,if_pos ⟨ps,by omega,by omega⟩,parS,ps.2.1,odd_triv m.ks s ps _ m.ks.length (Nat.le_refl _) h]
  rfl
theorem trv_good (m:Model) (c:modelOk m):∀ j,j≤2 ^ m.ks.length - 1→trvN m.ks j≤goodN m j
  | 0,_=>by simp [trvN,goodN]
  | j+1,hj=>by
    have ih:=trv_good m c j (by omega)
    rw [trvN,goodN]
    by_cases h:trivK m.ks ((j+1:Nat):Int) m.ks.length=true
    · rw [if_pos h,if_pos (triv_cons m c j hj h)];omega
    · rw [if_neg h];omega
def cscR (m:Model):Int:=if modelOk m then (dvN m.ks (consL m) (stC m.ks)).tdiv ((goodN m (2 ^ m.ks.length - 1):Int).tdiv (trvN m.ks (2 ^ m.ks.length - 1))) else 0
end Go.AM
set_option maxRecDepth 8000
namespace Go.AM
open Go.Proofs
def dstK (ks:List Kind) (set:Int):Nat→Bool
  | 0=>true
  | k+1=>dstK ks set k && (!bitK set k || decide (1<(ks.getD k default).c))
def evn (a b:Int):Bool:=bitsI .and .i64 (bitsI .xor .i64 (bitsI .xor .i64 (bitsI .and .i64 a b) ((bitsI .and .i64 a b).fdiv (2 ^ (min 1 64)))) ((bitsI .and .i64 a b).fdiv (2 ^ (min 2 64)))) 1 == 0
def kpO (set:Int) (i:Invar):Bool:=i.k != 2 || evn set i.s
def kpL (set:Int) (L:List Invar):Bool:=L.all (kpO set)
theorem kpL_take (set:Int) (L:List Invar) (k:Nat) (h:k<L.length):kpL set (L.take (k+1))=(kpL set (L.take k) && kpO set (L.getD k default)):=by
  unfold kpL;rw [take_succ_eq L k default h,List.all_append];simp
def allP (ks:List Kind):Nat→Nat
  | 0=>0
  | j+1=>allP ks j+if dstK ks (j:Nat) ks.length=true then 1 else 0
def goodP (ks:List Kind) (L:List Invar):Nat→Nat
  | 0=>0
  | j+1=>goodP ks L j+if (dstK ks (j:Nat) ks.length && kpL (j:Nat) L)=true then 1 else 0
theorem allP_le (ks:List Kind):∀ j,allP ks j≤j
  | 0=>by simp [allP]
  | j+1=>by have:=allP_le ks j;rw [allP];split <;> omega
theorem goodP_le (ks:List Kind) (L:List Invar):∀ j,goodP ks L j≤j
  | 0=>by simp [goodP]
  | j+1=>by have:=goodP_le ks L j;rw [goodP];split <;> omega
theorem bit01:∀ s:Nat,s<8→∀ k:Nat,k<3→bitsI .and .i64 ((s:Int).fdiv (2 ^ (min k 64))) 1=0∨bitsI .and .i64 ((s:Int).fdiv (2 ^ (min k 64))) 1=1:=by decide +kernel
theorem bit_zero (s:Nat) (hs:s<8) (k:Nat) (hk:k<3):(bitsI .and .i64 ((s:Int).fdiv (2 ^ (min k 64))) 1 == 0) = !bitK s k:=by
  unfold bitK
  rcases bit01 s hs k hk with h | h <;> rw [h] <;> rfl
theorem parityShare (ks:List Kind) (L:List Invar) (hk:ks.length≤3) (hl:L.length≤10):SpecAt Try.prog 165 [ksl ks,vsl L] (.tup [.i64 (goodP ks L (2 ^ ks.length)),.i64 (allP ks (2 ^ ks.length))]):=by
  have hs:=shl_small ks.length hk
  have hb:IntKind.i64.bits=64:=rfl
  have hpw:=pow_small hk
  refine spec_of_awp (M:=MM) (np:=2) (fz:=true) mixed Try.func165 rfl rfl (by decide) rfl (Nat.le_refl _) (by decide +kernel) (.inr ⟨rfl,rfl⟩) trivial ?_
  simp -dsimp -implicitDefEqProofs (disch:=first|omega|(simp only [lenr];try omega)) only [↓amPre,↓reduceIte,reduceCtorEq,Nat.reduceEqDiff,Nat.reduceBEq,Nat.reduceAdd,Nat.reduceLeDiff,Nat.reduceSub,Nat.reduceMul,Int.reduceToNat,MM,bu0,cbP6,hs,hb]
  refine awp_loop (fun s st=>s≤(2 ^ ks.length)∧st.fr 19=.i64 s∧st.fr 18=.i64 (2 ^ ks.length:Nat)∧st.fr 0=ksl ks∧st.fr 1=vsl L∧st.fr 6=.i64 (goodP ks L s)∧st.fr 7=.i64 (allP ks s)) ((2 ^ ks.length)) ?_ ?_
  · simp -dsimp -implicitDefEqProofs (disch:=first|omega|(simp only [lenr];try omega)) only [↓amPre,↓reduceIte,reduceCtorEq,Nat.reduceEqDiff,Nat.reduceBEq,Nat.reduceAdd,Nat.reduceLeDiff,Nat.reduceSub,Nat.reduceMul,Int.reduceToNat,MM,bu0,cbP6]
    simp [goodP,allP]
  rintro s st _ ⟨hs,f19,f18,f0,f1,f6,f7⟩
  have hg:=goodP_le ks L s
  have ha:=allP_le ks s
  have hg1:goodP ks L (s+1)=_:=rfl
  conv at hg1=>rhs;rw [goodP]
  have ha1:allP ks (s+1)=_:=rfl
  conv at ha1=>rhs;rw [allP]
  by_cases hlt:s<2 ^ ks.length
  · simp -dsimp -implicitDefEqProofs (disch:=first|omega|(simp only [lenr];try omega)) only [↓amPre,↓reduceIte,reduceCtorEq,Nat.reduceEqDiff,Nat.reduceBEq,Nat.reduceAdd,Nat.reduceLeDiff,Nat.reduceSub,Nat.reduceMul,Int.reduceToNat,MM,bu0,cbP6,f19,f18,f0,f1,f6,f7]
    refine awp_loop (fun k st=>k≤ks.length∧st.fr 24=.i64 k∧st.fr 23=.i64 ks.length∧st.fr 22=ksl ks∧st.fr 8=.i64 s∧st.fr 9=.bl (dstK ks s k)∧st.fr 10=.bl true∧st.fr 19=.i64 s∧st.fr 18=.i64 (2 ^ ks.length:Nat)∧st.fr 0=ksl ks∧st.fr 1=vsl L∧st.fr 6=.i64 (goodP ks L s)∧st.fr 7=.i64 (allP ks s)) (ks.length) ?_ ?_
    · simp -dsimp -implicitDefEqProofs (disch:=first|omega|(simp only [lenr];try omega)) only [↓amPre,↓reduceIte,reduceCtorEq,Nat.reduceEqDiff,Nat.reduceBEq,Nat.reduceAdd,Nat.reduceLeDiff,Nat.reduceSub,Nat.reduceMul,Int.reduceToNat,MM,bu0,cbP6,f19,f18,f0,f1,f6,f7]
      simp [dstK]
    rintro k st _ ⟨hk,f24,f23,f22,f8,f9,f10,f19,f18,f0,f1,f6,f7⟩
    by_cases hkt:k<ks.length
    · have hbz:=bit_zero s (by omega) k (by omega)
      have hd1:dstK ks s (k+1)=(dstK ks s k && (!bitK s k || decide (1<(ks.getD k default).c))):=rfl
      cases d:dstK ks s k with
      | false =>
        rw [d,Bool.false_and] at hd1
        simp -dsimp -implicitDefEqProofs (disch:=first|omega|(simp only [lenr];try omega)) only [↓amPre,↓reduceIte,reduceCtorEq,Nat.reduceEqDiff,Nat.reduceBEq,Nat.reduceAdd,Nat.reduceLeDiff,Nat.reduceSub,Nat.reduceMul,Int.reduceToNat,MM,bu0,cbP6,f24,f23,f22,f8,f9,f10,f19,f18,f0,f1,f6,f7,d,hd1]
        repeat' (first|omega|rfl|exact i64c (by omega)|exact vic (by omega)|apply ai)
      | true =>
        rw [d,Bool.true_and] at hd1
        cases b:bitK s k with
        | false =>
          rw [b] at hbz hd1
          simp -dsimp -implicitDefEqProofs (disch:=first|omega|(simp only [lenr];try omega)) only [↓amPre,↓reduceIte,reduceCtorEq,Nat.reduceEqDiff,Nat.reduceBEq,Nat.reduceAdd,Nat.reduceLeDiff,Nat.reduceSub,Nat.reduceMul,Int.reduceToNat,MM,bu0,cbP6,f24,f23,f22,f8,f9,f10,f19,f18,f0,f1,f6,f7,d,hb,hbz,hd1]
          repeat' (first|omega|rfl|exact i64c (by omega)|exact vic (by omega)|apply ai)
        | true =>
          rw [b] at hbz hd1
          simp -dsimp -implicitDefEqProofs (disch:=first|omega|(simp only [lenr];try omega)) only [↓amPre,↓reduceIte,reduceCtorEq,Nat.reduceEqDiff,Nat.reduceBEq,Nat.reduceAdd,Nat.reduceLeDiff,Nat.reduceSub,Nat.reduceMul,Int.reduceToNat,MM,bu0,cbP6,f24,f23,f22,f8,f9,f10,f19,f18,f0,f1,f6,f7,d,hb,hbz,hd1]
          repeat' (first|omega|rfl|exact i64c (by omega)|exact vic (by omega)|apply ai)
    have hke:k=ks.length:=by omega
    subst hke
    generalize hD:dstK ks s ks.length=D at f9 hg1 ha1
    simp -dsimp -implicitDefEqProofs (disch:=first|omega|(simp only [lenr];try omega)) only [↓amPre,↓reduceIte,reduceCtorEq,Nat.reduceEqDiff,Nat.reduceBEq,Nat.reduceAdd,Nat.reduceLeDiff,Nat.reduceSub,Nat.reduceMul,Int.reduceToNat,MM,bu0,cbP6,f24,f23,f22,f8,f9,f10,f19,f18,f0,f1,f6,f7]
    refine awp_loop (fun i st=>i≤L.length∧st.fr 45=.i64 i∧st.fr 44=.i64 L.length∧st.fr 43=vsl L∧st.fr 8=.i64 s∧st.fr 9=.bl D∧st.fr 10=.bl (kpL s (L.take i))∧st.fr 19=.i64 s∧st.fr 18=.i64 (2 ^ ks.length:Nat)∧st.fr 0=ksl ks∧st.fr 1=vsl L∧st.fr 6=.i64 (goodP ks L s)∧st.fr 7=.i64 (allP ks s)) (L.length) ?_ ?_
    · simp -dsimp -implicitDefEqProofs (disch:=first|omega|(simp only [lenr];try omega)) only [↓amPre,↓reduceIte,reduceCtorEq,Nat.reduceEqDiff,Nat.reduceBEq,Nat.reduceAdd,Nat.reduceLeDiff,Nat.reduceSub,Nat.reduceMul,Int.reduceToNat,MM,bu0,cbP6,f24,f23,f22,f8,f9,f10,f19,f18,f0,f1,f6,f7]
      simp [kpL]
    rintro i st _ ⟨hi,f45,f44,f43,f8,f9,f10,f19,f18,f0,f1,f6,f7⟩
    by_cases hit:i<L.length
    · have hkt:=kpL_take s L i hit
      by_cases c:(L.getD i default).k=2
      case neg =>
        have e:kpO s (L.getD i default)=true:=by unfold kpO;rw [ne_true c];rfl
        rw [e,Bool.and_true] at hkt
        simp -dsimp -implicitDefEqProofs (disch:=first|omega|(simp only [lenr];try omega)) only [↓amPre,↓reduceIte,reduceCtorEq,Nat.reduceEqDiff,Nat.reduceBEq,Nat.reduceAdd,Nat.reduceLeDiff,Nat.reduceSub,Nat.reduceMul,Int.reduceToNat,MM,bu0,cbP6,f45,f44,f43,f8,f9,f10,f19,f18,f0,f1,f6,f7,ne_true c,hkt]
        repeat' (first|omega|rfl|exact i64c (by omega)|exact vic (by omega)|apply ai)
      have e:kpO s (L.getD i default)=evn s (L.getD i default).s:=by unfold kpO;rw [ne_false c];rfl
      rw [e] at hkt
      cases d:kpL s (L.take i) with
      | false =>
        rw [d,Bool.false_and] at hkt
        simp -dsimp -implicitDefEqProofs (disch:=first|omega|(simp only [lenr];try omega)) only [↓amPre,↓reduceIte,reduceCtorEq,Nat.reduceEqDiff,Nat.reduceBEq,Nat.reduceAdd,Nat.reduceLeDiff,Nat.reduceSub,Nat.reduceMul,Int.reduceToNat,MM,bu0,cbP6,f45,f44,f43,f8,f9,f10,f19,f18,f0,f1,f6,f7,ne_false c,d,hb,hkt]
        repeat' (first|omega|rfl|exact i64c (by omega)|exact vic (by omega)|apply ai)
      | true =>
        rw [d,Bool.true_and] at hkt
        simp -dsimp -implicitDefEqProofs (disch:=first|omega|(simp only [lenr];try omega)) only [↓amPre,↓reduceIte,reduceCtorEq,Nat.reduceEqDiff,Nat.reduceBEq,Nat.reduceAdd,Nat.reduceLeDiff,Nat.reduceSub,Nat.reduceMul,Int.reduceToNat,MM,bu0,cbP6,f45,f44,f43,f8,f9,f10,f19,f18,f0,f1,f6,f7,ne_false c,d,hb,hkt]
        all_goals unfold evn
        repeat' (first|omega|rfl|exact i64c (by omega)|exact vic (by omega)|apply ai)
    have hie:i=L.length:=by omega
    subst hie
    rw [List.take_length] at f10
    generalize hK:kpL s L=K at f10 hg1
    cases D with
    | false =>
      simp at hg1 ha1
      simp -dsimp -implicitDefEqProofs (disch:=first|omega|(simp only [lenr];try omega)) only [↓amPre,↓reduceIte,reduceCtorEq,Nat.reduceEqDiff,Nat.reduceBEq,Nat.reduceAdd,Nat.reduceLeDiff,Nat.reduceSub,Nat.reduceMul,Int.reduceToNat,MM,bu0,cbP6,f45,f44,f43,f8,f9,f10,f19,f18,f0,f1,f6,f7,hg1,ha1]
      repeat' (first|omega|rfl|exact i64c (by omega)|exact vic (by omega)|apply ai)
    | true =>
      cases K with
      | false =>
        simp at hg1 ha1
        simp -dsimp -implicitDefEqProofs (disch:=first|omega|(simp only [lenr];try omega)) only [↓amPre,↓reduceIte,reduceCtorEq,Nat.reduceEqDiff,Nat.reduceBEq,Nat.reduceAdd,Nat.reduceLeDiff,Nat.reduceSub,Nat.reduceMul,Int.reduceToNat,MM,bu0,cbP6,f45,f44,f43,f8,f9,f10,f19,f18,f0,f1,f6,f7,hg1,ha1]
        repeat' (first|omega|rfl|exact i64c (by omega)|exact vic (by omega)|apply ai)
      | true =>
        simp at hg1 ha1
        simp -dsimp -implicitDefEqProofs (disch:=first|omega|(simp only [lenr];try omega)) only [↓amPre,↓reduceIte,reduceCtorEq,Nat.reduceEqDiff,Nat.reduceBEq,Nat.reduceAdd,Nat.reduceLeDiff,Nat.reduceSub,Nat.reduceMul,Int.reduceToNat,MM,bu0,cbP6,f45,f44,f43,f8,f9,f10,f19,f18,f0,f1,f6,f7,hg1,ha1]
        repeat' (first|omega|rfl|exact i64c (by omega)|exact vic (by omega)|apply ai)
  · have hse:s=2 ^ ks.length:=by omega
    rw [← hse] at *
    simp -dsimp -implicitDefEqProofs (disch:=first|omega|(simp only [lenr];try omega)) only [↓amPre,↓reduceIte,reduceCtorEq,Nat.reduceEqDiff,Nat.reduceBEq,Nat.reduceAdd,Nat.reduceLeDiff,Nat.reduceSub,Nat.reduceMul,Int.reduceToNat,MM,bu0,cbP6,f19,f18,f0,f1,f6,f7]
end Go.AM
set_option maxRecDepth 8000
namespace Go.AM
open Go.Proofs
def trB (d:Nat→Bool) (n s:Nat):Bool:=(List.range n).all fun k=>!(s.testBit k && d k)
def dsB (d:Nat→Bool) (n s:Nat):Bool:=(List.range n).all fun k=>!s.testBit k || d k
def evB (s t:Nat):Bool:=((s &&& t) ^^^ ((s &&& t) >>> 1) ^^^ ((s &&& t) >>> 2)) % 2 == 0
def gNB (C:Nat→Bool) (n:Nat):Nat:=((List.range (2 ^ n)).filter C).length
def gPB (C d:Nat→Bool) (n:Nat):Nat:=((List.range (2 ^ n)).filter fun s=>dsB d n s && (List.range (2 ^ n)).all fun t=>!(C t && !trB d n t) || evB s t).length
def clB (C:Nat→Bool) (n:Nat):Bool:=(List.range (2 ^ n)).all fun a=>(List.range (2 ^ n)).all fun b=>!(C a && C b) || C (a ^^^ b)
def sbB (C d:Nat→Bool) (n:Nat):Bool:=(List.range (2 ^ n)).all fun s=>!trB d n s || C s
def lk (c1 c2 c3 c4 c5 c6 c7:Bool):Nat→Bool
  | 0=>true | 1=>c1 | 2=>c2 | 3=>c3 | 4=>c4 | 5=>c5 | 6=>c6 | _=>c7
def ld (d0 d1 d2:Bool):Nat→Bool
  | 0=>d0 | 1=>d1 | _=>d2
def prB (d:Nat→Bool):Nat→Nat
  | 0=>1
  | k+1=>prB d k*(if d k=true then 2 else 1)
def okB (C d:Nat→Bool) (n:Nat):Bool:=!(sbB C d n && clB C n) || (gPB C d n*(gNB C n / gNB (trB d n) n) == gNB (dsB d n) n && gNB (dsB d n) n == prB d n)
theorem fin1:∀ c1 d0:Bool,okB (lk c1 true true true true true true) (ld d0 true true) 1=true:=by decide +kernel
theorem fin2:∀ c1 c2 c3 d0 d1:Bool,okB (lk c1 c2 c3 true true true true) (ld d0 d1 true) 2=true:=by decide +kernel
theorem fin3:∀ c1 c2 c3 c4 c5 c6 c7 d0 d1 d2:Bool,okB (lk c1 c2 c3 c4 c5 c6 c7) (ld d0 d1 d2) 3=true:=by decide +kernel
theorem all_congr {α:Type} {l:List α} {p q:α→Bool} (h:∀ x∈l,p x=q x):l.all p=l.all q:=by
  induction l with
  | nil=>rfl
  | cons a r ih=>rw [List.all_cons,List.all_cons,h a (by simp),ih fun x hx=>h x (by simp [hx])]
theorem trB_c {d e:Nat→Bool} {n:Nat} (h:∀ k,k<n→d k=e k) (s:Nat):trB d n s=trB e n s:=all_congr fun k hk=>by rw [h k (List.mem_range.1 hk)]
theorem dsB_c {d e:Nat→Bool} {n:Nat} (h:∀ k,k<n→d k=e k) (s:Nat):dsB d n s=dsB e n s:=all_congr fun k hk=>by rw [h k (List.mem_range.1 hk)]
theorem gNB_c {C D:Nat→Bool} {n:Nat} (h:∀ s,s<2 ^ n→C s=D s):gNB C n=gNB D n:=by
  unfold gNB;rw [List.filter_congr fun x hx=>h x (List.mem_range.1 hx)]
theorem xor_lt {n a b:Nat} (ha:a<2 ^ n) (hb:b<2 ^ n):a ^^^ b<2 ^ n:=Nat.xor_lt_two_pow ha hb
theorem prB_c {d e:Nat→Bool}:∀ {n:Nat},(∀ k,k<n→d k=e k)→prB d n=prB e n
  | 0,_=>rfl
  | n+1,h=>by rw [prB,prB,prB_c fun k hk=>h k (by omega),h n (by omega)]
theorem okB_c {C D d e:Nat→Bool} {n:Nat} (h:∀ s,s<2 ^ n→C s=D s) (g:∀ k,k<n→d k=e k):okB C d n=okB D e n:=by
  have h1:sbB C d n=sbB D e n:=all_congr fun s hs=>by rw [trB_c g,h s (List.mem_range.1 hs)]
  have h2:clB C n=clB D n:=all_congr fun a ha=>all_congr fun b hb=>by
    have ha:=List.mem_range.1 ha
    have hb:=List.mem_range.1 hb
    rw [h a ha,h b hb,h _ (xor_lt ha hb)]
  have h3:gPB C d n=gPB D e n:=by
    unfold gPB
    rw [List.filter_congr fun s hs=>?_]
    rw [dsB_c g,all_congr fun t ht=>?_]
    rw [h t (List.mem_range.1 ht),trB_c g]
  have h4:gNB (trB d n) n=gNB (trB e n) n:=gNB_c fun s _=>trB_c g s
  have h5:gNB (dsB d n) n=gNB (dsB e n) n:=gNB_c fun s _=>dsB_c g s
  unfold okB
  rw [h1,h2,h3,h4,h5,gNB_c h,prB_c g]
theorem fin_all (C d:Nat→Bool) (n:Nat) (h1:1≤n) (h3:n≤3) (h0:C 0=true):okB C d n=true:=by
  match n,h1,h3 with
  | 1,_,_ =>
    rw [← fin1 (C 1) (d 0)]
    exact okB_c (fun s hs=>match s,hs with | 0,_=>h0 | 1,_=>rfl) (fun k hk=>match k,hk with | 0,_=>rfl)
  | 2,_,_ =>
    rw [← fin2 (C 1) (C 2) (C 3) (d 0) (d 1)]
    exact okB_c (fun s hs=>match s,hs with | 0,_=>h0 | 1,_=>rfl | 2,_=>rfl | 3,_=>rfl) (fun k hk=>match k,hk with | 0,_=>rfl | 1,_=>rfl)
  | 3,_,_ =>
    rw [← fin3 (C 1) (C 2) (C 3) (C 4) (C 5) (C 6) (C 7) (d 0) (d 1) (d 2)]
    exact okB_c (fun s hs=>match s,hs with | 0,_=>h0 | 1,_=>rfl | 2,_=>rfl | 3,_=>rfl | 4,_=>rfl | 5,_=>rfl | 6,_=>rfl | 7,_=>rfl) (fun k hk=>match k,hk with | 0,_=>rfl | 1,_=>rfl | 2,_=>rfl)
theorem bitK_nat:∀ s:Nat,s<8→∀ k:Nat,k<3→bitK s k=s.testBit k:=by decide +kernel
theorem evn_nat:∀ s:Nat,s<8→∀ t:Nat,t<8→evn s t=evB s t:=by decide +kernel
theorem all_succ (p:Nat→Bool) (k:Nat):(List.range (k+1)).all p=((List.range k).all p && p k):=by
  rw [List.range_succ,List.all_append];simp
def dK (ks:List Kind) (k:Nat):Bool:=decide (1<(ks.getD k default).c)
theorem triv_nat (ks:List Kind) (s:Nat) (hs:s<8):∀ n,n≤3→trivK ks s n=trB (dK ks) n s
  | 0,_=>rfl
  | n+1,h=>by
    have ih:=triv_nat ks s hs n (by omega)
    unfold trB at ih ⊢
    rw [trivK,ih,all_succ,bitK_nat s hs n (by omega)];rfl
theorem dst_nat (ks:List Kind) (s:Nat) (hs:s<8):∀ n,n≤3→dstK ks s n=dsB (dK ks) n s
  | 0,_=>rfl
  | n+1,h=>by
    have ih:=dst_nat ks s hs n (by omega)
    unfold dsB at ih ⊢
    rw [dstK,ih,all_succ,bitK_nat s hs n (by omega)];rfl
theorem flt_succ (p:Nat→Bool) (k:Nat):((List.range (k+1)).filter p).length=((List.range k).filter p).length+if p k=true then 1 else 0:=by
  rw [List.range_succ,List.filter_append,List.length_append]
  cases h:p k <;> simp [h]
def cB (m:Model) (s:Nat):Bool:=s == 0 || decide (consM m ⟨2,(s:Int)⟩)
theorem goodN_nat (m:Model):∀ j,goodN m j=((List.range (j+1)).filter (cB m)).length
  | 0=>by simp [goodN,cB,List.range_succ]
  | j+1=>by
    rw [goodN,flt_succ,← goodN_nat m j]
    have:cB m (j+1)=decide (consM m ⟨2,((j+1:Nat):Int)⟩):=by unfold cB;simp
    rw [this];simp
theorem trvN_nat (ks:List Kind) (hk:ks.length≤3):∀ j,j<8→trvN ks j=((List.range (j+1)).filter (trB (dK ks) ks.length)).length
  | 0,_=>by
    have:trB (dK ks) ks.length 0=true:=by unfold trB;simp
    simp [trvN,List.range_succ,this]
  | j+1,h=>by
    rw [trvN,flt_succ,← trvN_nat ks hk j (by omega),triv_nat ks (j+1) h _ hk]
theorem allP_nat (ks:List Kind) (hk:ks.length≤3):∀ j,j≤8→allP ks j=((List.range j).filter (dsB (dK ks) ks.length)).length
  | 0,_=>rfl
  | j+1,h=>by
    rw [allP,flt_succ,← allP_nat ks hk j (by omega),dst_nat ks j (by omega) _ hk]
theorem goodP_nat (ks:List Kind) (L:List Invar) (hk:ks.length≤3):∀ j,j≤8→goodP ks L j=((List.range j).filter fun s=>dsB (dK ks) ks.length s && kpL (s:Nat) L).length
  | 0,_=>rfl
  | j+1,h=>by
    rw [goodP,flt_succ,← goodP_nat ks L hk j (by omega),dst_nat ks j (by omega) _ hk]
theorem all_filter {α:Type} (l:List α) (p q:α→Bool):(l.filter p).all q=l.all fun x=>!p x || q x:=by
  induction l with
  | nil=>rfl
  | cons a r ih=>rw [List.filter_cons];cases h:p a <;> simp [h,ih]
theorem kpL_nat (m:Model) (hk:m.ks.length≤3) (s:Nat) (hs:s<8):kpL (s:Nat) (consL m)=(List.range (2 ^ m.ks.length)).all fun t=>!(cB m t && !trB (dK m.ks) m.ks.length t) || evB s t:=by
  have hp:=pow_small hk
  unfold kpL consL
  rw [all_filter,allI,List.all_append]
  have e1:((twL m.ks.length).all fun x=>!keepI m x || kpO s x)=true:=by
    rw [List.all_eq_true]
    intro x hx
    obtain ⟨n,hn,rfl⟩:=List.mem_map.1 hx
    simp [kpO]
  rw [e1,Bool.true_and]
  obtain ⟨N,hN⟩:∃ N,2 ^ m.ks.length=N+1:=⟨2 ^ m.ks.length - 1,by omega⟩
  rw [hN,Nat.add_sub_cancel]
  have t0:trB (dK m.ks) m.ks.length 0=true:=by unfold trB;simp
  rw [List.range_succ_eq_map,List.all_cons,t0]
  simp only [Bool.not_true,Bool.and_false,Bool.not_false,Bool.true_or,Bool.true_and,List.all_map]
  unfold paL
  rw [List.all_map]
  refine all_congr fun j hj=>?_
  have hj:=List.mem_range.1 hj
  simp only [Function.comp]
  have e2:keepI m ⟨2,((j+1:Nat):Int)⟩=(cB m (j+1) && !trB (dK m.ks) m.ks.length (j+1)):=by
    unfold keepI
    have h1:trivI m.ks ⟨2,((j+1:Nat):Int)⟩=trivK m.ks ((j+1:Nat):Int) m.ks.length:=rfl
    have h2:cB m (j+1)=decide (consM m ⟨2,((j+1:Nat):Int)⟩):=by unfold cB;simp
    rw [h1,triv_nat m.ks (j+1) (by omega) _ hk,h2,Bool.and_comm]
  have e3:kpO s ⟨2,((j+1:Nat):Int)⟩=evB s (j+1):=by
    rw [← evn_nat s hs (j+1) (by omega)];rfl
  rw [e2,e3]
end Go.AM
set_option maxRecDepth 8000
namespace Go.AM
open Go.Proofs
theorem odd_xor (s:List Twist) (a b:Nat) (ha:a<8) (hb:b<8):∀ n,n≤3→(oddS s a n+oddS s b n+oddS s ((a ^^^ b:Nat):Int) n) % 2=0
  | 0,_=>rfl
  | n+1,h=>by
    have ih:=odd_xor s a b ha hb n (by omega)
    have hx:a ^^^ b<8:=xor_lt (n:=3) ha hb
    rw [oddS,oddS,oddS,bitK_nat a ha n (by omega),bitK_nat b hb n (by omega),bitK_nat _ hx n (by omega),Nat.testBit_xor]
    by_cases w:sgnI (s.getD n default).to<0
    · cases a.testBit n <;> cases b.testBit n <;> simp [w] <;> omega
    · simp only [w,and_false,if_false];omega
theorem xor_ne:∀ a:Nat,a<8→∀ b:Nat,b<8→a≠b→a ^^^ b≠0:=by decide +kernel
theorem cons_xor (m:Model) (c:modelOk m) (a b:Nat) (ha:1≤a∧a<2 ^ m.ks.length) (hb:1≤b∧b<2 ^ m.ks.length) (hab:a≠b) (h1:consM m ⟨2,(a:Int)⟩) (h2:consM m ⟨2,(b:Int)⟩):consM m ⟨2,((a ^^^ b:Nat):Int)⟩:=by
  have hl3:=c.1.1.2
  have hp:=pow_small hl3
  have hx:=xor_lt ha.2 hb.2
  have hne:=xor_ne a (by omega) b (by omega) hab
  refine ⟨c,fun s hs=>?_⟩
  have ps:=c.2.2.2 s hs
  have e1:=h1.2 s hs
  have e2:=h2.2 s hs
  have i1:∀ x:Nat,invV m.ks s ⟨2,(x:Int)⟩=parR m.ks s (x:Int):=fun _=>rfl
  rw [i1,parR,if_pos ⟨ps,by omega,by omega⟩,parS,ps.2.1] at e1 e2
  rw [i1,parR,if_pos ⟨ps,by omega,by omega⟩,parS,ps.2.1]
  have hxo:=odd_xor s a b (by omega) (by omega) m.ks.length hl3
  omega
theorem cB_pos (m:Model) {s:Nat} (h:1≤s):cB m s=decide (consM m ⟨2,(s:Int)⟩):=by
  have:(s == 0)=false:=by simp;omega
  rw [cB,this,Bool.false_or]
theorem cB_zero (m:Model):cB m 0=true:=rfl
theorem cl_ok (m:Model) (c:modelOk m):clB (cB m) m.ks.length=true:=by
  unfold clB
  rw [List.all_eq_true];intro a ha
  rw [List.all_eq_true];intro b hb
  have ha:=List.mem_range.1 ha
  have hb:=List.mem_range.1 hb
  by_cases a0:a=0
  · subst a0;rw [Nat.zero_xor,cB_zero];cases cB m b <;> rfl
  by_cases b0:b=0
  · subst b0;rw [Nat.xor_zero,cB_zero];cases cB m a <;> rfl
  by_cases ab:a=b
  · subst ab;rw [Nat.xor_self,cB_zero];cases cB m a <;> rfl
  have hl3:=c.1.1.2
  have hp:=pow_small hl3
  have hne:=xor_ne a (by omega) b (by omega) ab
  rw [cB_pos m (show 1≤a by omega),cB_pos m (show 1≤b by omega),cB_pos m (show 1≤a ^^^ b by omega)]
  by_cases h1:consM m ⟨2,(a:Int)⟩
  · by_cases h2:consM m ⟨2,(b:Int)⟩
    · have h3:=cons_xor m c a b ⟨by omega,ha⟩ ⟨by omega,hb⟩ ab h1 h2
      rw [decide_eq_true h3,Bool.or_true]
    · rw [decide_eq_false h2,Bool.and_false];rfl
  · rw [decide_eq_false h1];rfl
theorem sb_ok (m:Model) (c:modelOk m):sbB (cB m) (dK m.ks) m.ks.length=true:=by
  have hl3:=c.1.1.2
  have hp:=pow_small hl3
  unfold sbB
  rw [List.all_eq_true];intro s hs
  have hs:=List.mem_range.1 hs
  match s,hs with
  | 0,_=>rw [cB_zero,Bool.or_true]
  | j+1,hs =>
    cases t:trB (dK m.ks) m.ks.length (j+1) with
    | false=>rfl
    | true =>
      have h3:=triv_cons m c j (by omega) (by rw [triv_nat m.ks (j+1) (by omega) _ hl3,t])
      rw [cB_pos m (by omega),decide_eq_true h3];rfl
theorem stK_fac (o:Nat):∀ c,1≤c→∃ g,stK o c=o*g∧(2≤c→2 ∣ g)
  | 1,_=>⟨1,by simp [stK],fun h=>by omega⟩
  | c+2,_=>by
    obtain ⟨g,h1,h2⟩:=stK_fac o (c+1) (by omega)
    refine ⟨stK o (c+1)*(c+2),by rw [stK,show c+1+1=c+2 from rfl,Nat.mul_comm o,Nat.mul_assoc],fun _=>?_⟩
    by_cases c0:c=0
    · subst c0;exact Nat.dvd_mul_left _ _
    · rw [h1,Nat.mul_assoc]
      exact Nat.dvd_trans (h2 (by omega)) (Nat.dvd_trans (Nat.dvd_mul_right g (c+2)) (Nat.dvd_mul_left _ _))
theorem tdivN (a b:Nat):(a:Int).tdiv b=((a / b:Nat):Int):=by
  rw [Int.tdiv_eq_ediv_of_nonneg (by omega)];exact (Int.natCast_ediv a b).symm
theorem dvN_id (ks:List Kind):∀ (l:List Invar) (n:Int),(∀ i∈l,i.k≠1)→dvN ks l n=n
  | [],_,_=>rfl
  | i :: r,n,h=>by
    have e:dvN ks (i :: r) n=dvN ks r (dvS ks n i):=rfl
    rw [e,dvS,if_neg (h i (by simp))]
    exact dvN_id ks r n fun x hx=>h x (by simp [hx])
theorem dv_fac (m:Model) (hk:kindsOk m.ks):∀ j,j≤m.ks.length→∀ R:Nat,∃ F:Nat,dvN m.ks ((twL j).filter (keepI m)) ((stC (m.ks.take j)*R:Nat):Int)=((F*R:Nat):Int)∧prB (dK m.ks) j ∣ F
  | 0,_,R=>⟨1,by simp [twL,dvN,stC],by simp [prB]⟩
  | j+1,hj,R=>by
    have hkj:=hk.2.1 _ (mem_getD m.ks j default (by omega))
    obtain ⟨⟨c1,_⟩,o1,_⟩:=hkj
    obtain ⟨g,g1,g2⟩:=stK_fac (m.ks.getD j default).o.toNat (m.ks.getD j default).c.toNat (by omega)
    obtain ⟨F,f1,f2⟩:=dv_fac m hk j (by omega) (stK (m.ks.getD j default).o.toNat (m.ks.getD j default).c.toNat*R)
    have hs:=stC_take m.ks j (by omega)
    have hf:=filter_snoc (keepI m) (twL j) ⟨1,(j:Int)⟩
    rw [← twL_succ] at hf
    have hd2:(if dK m.ks j=true then 2 else 1) ∣ g:=by
      split
      · rename_i q
        have:=of_decide_eq_true q
        exact g2 (by omega)
      · exact Nat.one_dvd _
    rw [hs,hf,Nat.mul_assoc]
    by_cases w:keepI m ⟨1,(j:Int)⟩=true
    · rw [if_pos w]
      have e:dvN m.ks ((twL j).filter (keepI m)++[⟨1,(j:Int)⟩]) ((stC (m.ks.take j)*(stK (m.ks.getD j default).o.toNat (m.ks.getD j default).c.toNat*R):Nat):Int)=dvS m.ks ((F*(stK (m.ks.getD j default).o.toNat (m.ks.getD j default).c.toNat*R):Nat):Int) ⟨1,(j:Int)⟩:=by
        rw [← f1];unfold dvN;rw [List.foldl_append];rfl
      refine ⟨F*g,?_,?_⟩
      · rw [e,dvS,if_pos rfl]
        simp only [Int.toNat_natCast]
        obtain ⟨o,ho⟩:∃ o:Nat,(m.ks.getD j default).o=o:=⟨_,(Int.toNat_of_nonneg (by omega)).symm⟩
        rw [ho,Int.toNat_natCast] at g1
        rw [ho,Int.toNat_natCast,tdivN,g1]
        congr 1
        have:F*(o*g*R)=o*(F*g*R):=by simp only [Nat.mul_assoc,Nat.mul_left_comm]
        rw [this,Nat.mul_div_cancel_left _ (by omega)]
      · rw [prB];exact Nat.mul_dvd_mul f2 hd2
    · rw [if_neg w]
      refine ⟨F*stK (m.ks.getD j default).o.toNat (m.ks.getD j default).c.toNat,?_,?_⟩
      · rw [f1,Nat.mul_assoc]
      · rw [prB];exact Nat.mul_dvd_mul f2 (Nat.dvd_trans hd2 (by rw [g1];exact Nat.dvd_mul_left _ _))
theorem prB_pos (d:Nat→Bool):∀ n,1≤prB d n
  | 0=>Nat.le_refl _
  | n+1=>Nat.mul_pos (prB_pos d n) (by split <;> omega)
theorem fill (m:Model) (c:modelOk m):cscR m=((dvN m.ks (consL m) (stC m.ks)).tdiv (allP m.ks (2 ^ m.ks.length)))*goodP m.ks (consL m) (2 ^ m.ks.length)∧1≤allP m.ks (2 ^ m.ks.length)∧cscR m≤9223372036854775807∧0≤cscR m:=by
  have hl3:=c.1.1.2
  have hp:=pow_small hl3
  have hsb:=st_bound m.ks c.1
  have hR:cscR m=(dvN m.ks (consL m) (stC m.ks)).tdiv ((goodN m (2 ^ m.ks.length - 1):Int).tdiv (trvN m.ks (2 ^ m.ks.length - 1))):=if_pos c
  have htg:=trv_good m c _ (Nat.le_refl _)
  have ht1:=(trvN_le m.ks (2 ^ m.ks.length - 1)).1
  have hdl:=dvN_le m.ks c.1 (consL m) (stC m.ks) (by omega) fun i hi=>cons_kind i hi
  obtain ⟨F,f1,f2⟩:=dv_fac m c.1 m.ks.length (Nat.le_refl _) 1
  rw [List.take_length,Nat.mul_one,Nat.mul_one] at f1
  have hdv:dvN m.ks (consL m) (stC m.ks)=(F:Int):=by
    rw [← f1]
    unfold consL allI dvN
    rw [List.filter_append,List.foldl_append]
    refine dvN_id m.ks _ _ fun i hi=>?_
    obtain ⟨n,hn,rfl⟩:=List.mem_map.1 (List.mem_filter.1 hi).1
    simp
  have hfin:=fin_all (cB m) (dK m.ks) m.ks.length c.1.1.1 hl3 (cB_zero m)
  unfold okB at hfin
  rw [sb_ok m c,cl_ok m c] at hfin
  simp only [Bool.and_self,Bool.not_true,Bool.false_or,Bool.and_eq_true,beq_iff_eq] at hfin
  obtain ⟨k1,k2⟩:=hfin
  have eg:goodN m (2 ^ m.ks.length - 1)=gNB (cB m) m.ks.length:=by rw [goodN_nat,show 2 ^ m.ks.length - 1+1=2 ^ m.ks.length by omega];rfl
  have et:trvN m.ks (2 ^ m.ks.length - 1)=gNB (trB (dK m.ks) m.ks.length) m.ks.length:=by rw [trvN_nat m.ks hl3 _ (by omega),show 2 ^ m.ks.length - 1+1=2 ^ m.ks.length by omega];rfl
  have ea:allP m.ks (2 ^ m.ks.length)=gNB (dsB (dK m.ks) m.ks.length) m.ks.length:=by rw [allP_nat m.ks hl3 _ (by omega)];rfl
  have ep:goodP m.ks (consL m) (2 ^ m.ks.length)=gPB (cB m) (dK m.ks) m.ks.length:=by
    rw [goodP_nat m.ks _ hl3 _ (by omega)]
    unfold gPB
    rw [List.filter_congr fun s hs=>by rw [kpL_nat m hl3 s (by have:=List.mem_range.1 hs;omega)]]
  rw [← eg,← et,← ea,← ep] at k1
  rw [← ea] at k2
  rw [← k2] at f2
  have hA:1≤allP m.ks (2 ^ m.ks.length):=by rw [k2];exact prB_pos _ _
  have hg:1≤goodN m (2 ^ m.ks.length - 1) / trvN m.ks (2 ^ m.ks.length - 1):=(Nat.le_div_iff_mul_le (by omega)).2 (by omega)
  rw [hdv] at hR hdl ⊢
  rw [tdivN,tdivN] at hR
  rw [tdivN]
  generalize goodN m (2 ^ m.ks.length - 1) / trvN m.ks (2 ^ m.ks.length - 1)=g at hR hg k1
  generalize goodP m.ks (consL m) (2 ^ m.ks.length)=P at k1 ⊢
  generalize allP m.ks (2 ^ m.ks.length)=A at k1 hA f2 ⊢
  obtain ⟨q,rfl⟩:=f2
  have d1:A*q / g=P*q:=by rw [← k1,show P*g*q=g*(P*q) by simp only [Nat.mul_assoc,Nat.mul_left_comm],Nat.mul_div_cancel_left _ (by omega)]
  have d2:A*q / A=q:=Nat.mul_div_cancel_left _ (by omega)
  have d3:A*q / g≤A*q:=Nat.div_le_self _ _
  refine ⟨?_,hA,?_,?_⟩
  · rw [hR,d1,d2,Nat.mul_comm];exact Int.natCast_mul q P
  · rw [hR];omega
  · rw [hR];omega
theorem iConsistent (m:Model) (h:smallM m):SpecAt Try.prog 73 [m.sl] (.i64 (cscR m)):=by
  refine spec_of_awp (M:=MM) (np:=1) (fz:=true) mixed Try.func73 rfl rfl (by decide) rfl (Nat.le_refl _) (by decide +kernel) (.inr ⟨rfl,rfl⟩) trivial ?_
  simp -dsimp -implicitDefEqProofs (disch:=first|omega|(simp only [lenr];try omega)) only [↓amPre,↓reduceIte,reduceCtorEq,Nat.reduceEqDiff,Nat.reduceBEq,Nat.reduceAdd,Nat.reduceLeDiff,Nat.reduceSub,Nat.reduceMul,Int.reduceToNat,MM,bu0,cbP6]
  refine callP_of (iIsValidPieceModel m h) ?_
  by_cases c:modelOk m
  case neg =>
    have hR:cscR m=0:=if_neg c
    simp -dsimp -implicitDefEqProofs (disch:=first|omega|(simp only [lenr];try omega)) only [↓amPre,↓reduceIte,reduceCtorEq,Nat.reduceEqDiff,Nat.reduceBEq,Nat.reduceAdd,Nat.reduceLeDiff,Nat.reduceSub,Nat.reduceMul,Int.reduceToNat,MM,bu0,cbP6,c,hR]
  have hcr:consR m=consL m:=if_pos c
  obtain ⟨hR,hal,hr1,hr0⟩:=fill m c
  have hle:=consL_le m c
  have hck:=cons_kind (m:=m)
  have hsb:=st_bound m.ks c.1
  have hl3:=c.1.1.2
  have hpw:=pow_small hl3
  simp -dsimp -implicitDefEqProofs (disch:=first|omega|(simp only [lenr];try omega)) only [↓amPre,↓reduceIte,reduceCtorEq,Nat.reduceEqDiff,Nat.reduceBEq,Nat.reduceAdd,Nat.reduceLeDiff,Nat.reduceSub,Nat.reduceMul,Int.reduceToNat,MM,bu0,cbP6,c]
  refine callP_of (iConserved m h) ?_
  rw [hcr]
  generalize hL:consL m=L at hle hR hck
  simp -dsimp -implicitDefEqProofs (disch:=first|omega|(simp only [lenr];try omega)) only [↓amPre,↓reduceIte,reduceCtorEq,Nat.reduceEqDiff,Nat.reduceBEq,Nat.reduceAdd,Nat.reduceLeDiff,Nat.reduceSub,Nat.reduceMul,Int.reduceToNat,MM,bu0,cbP6]
  refine callP_of (istateCount m.ks c.1) ?_
  simp -dsimp -implicitDefEqProofs (disch:=first|omega|(simp only [lenr];try omega)) only [↓amPre,↓reduceIte,reduceCtorEq,Nat.reduceEqDiff,Nat.reduceBEq,Nat.reduceAdd,Nat.reduceLeDiff,Nat.reduceSub,Nat.reduceMul,Int.reduceToNat,MM,bu0,cbP6]
  refine awp_loop (fun k st=>k≤L.length∧st.fr 19=.i64 k∧st.fr 18=.i64 L.length∧st.fr 17=.ref 13 [] 2 0 L.length∧st.fr 3=.ref 13 [] 2 0 L.length∧st.fr 4=.i64 (dvN m.ks (L.take k) (stC m.ks))∧st.fr 1=.loc 1 [] 0 0∧st.mem 13=some (vtr L)∧st.mem 1=some (.pt 3 (.agg [ksl m.ks,.st m.nm,tssl m.mv]))) (L.length) ?_ ?_
  · simp -dsimp -implicitDefEqProofs (disch:=first|omega|(simp only [lenr];try omega)) only [↓amPre,↓reduceIte,reduceCtorEq,Nat.reduceEqDiff,Nat.reduceBEq,Nat.reduceAdd,Nat.reduceLeDiff,Nat.reduceSub,Nat.reduceMul,Int.reduceToNat,MM,bu0,cbP6]
    simp [dvN]
  rintro k st _ ⟨hk,f19,f18,f17,f3,f4,f1,m13,m1⟩
  have hdl:=dvN_le m.ks c.1 (L.take k) (stC m.ks) (by omega) fun i hi=>hck i (List.mem_of_mem_take hi)
  by_cases hlt:k<L.length
  · have hmem:=mem_getD L k default hlt
    have hdt:=dvN_take m.ks L (stC m.ks) k hlt
    by_cases ck:(L.getD k default).k=1
    · obtain ⟨n,hn,en⟩:=hck _ hmem ck
      have ho:=(c.1.2.1 _ (mem_getD m.ks n default hn)).2
      have e2:dvS m.ks (dvN m.ks (L.take k) (stC m.ks)) (L.getD k default)=(dvN m.ks (L.take k) (stC m.ks)).tdiv (m.ks.getD n default).o:=by rw [dvS,if_pos ck,en,Int.toNat_natCast]
      rw [e2] at hdt
      have hw:=tdiv_le (dvN m.ks (L.take k) (stC m.ks)) (m.ks.getD n default).o hdl.1 ho.1
      have hw2:IntKind.i64.wrap ((dvN m.ks (L.take k) (stC m.ks)).tdiv (m.ks.getD n default).o)=(dvN m.ks (L.take k) (stC m.ks)).tdiv (m.ks.getD n default).o:=wrap64_id (by omega)
      have ho0:(m.ks.getD n default).o≠0:=by omega
      simp -dsimp -implicitDefEqProofs (disch:=first|omega|(simp only [lenr];try omega)) only [↓amPre,↓reduceIte,reduceCtorEq,Nat.reduceEqDiff,Nat.reduceBEq,Nat.reduceAdd,Nat.reduceLeDiff,Nat.reduceSub,Nat.reduceMul,Int.reduceToNat,MM,bu0,cbP6,f19,f18,f17,f3,f4,f1,m13,m1,eq_true ck,en,hw2,ho0]
      repeat' (first|omega|rfl|exact i64c (by omega)|exact vic (by omega)|apply ai)
    · have e2:dvS m.ks (dvN m.ks (L.take k) (stC m.ks)) (L.getD k default)=dvN m.ks (L.take k) (stC m.ks):=if_neg ck
      rw [e2] at hdt
      simp -dsimp -implicitDefEqProofs (disch:=first|omega|(simp only [lenr];try omega)) only [↓amPre,↓reduceIte,reduceCtorEq,Nat.reduceEqDiff,Nat.reduceBEq,Nat.reduceAdd,Nat.reduceLeDiff,Nat.reduceSub,Nat.reduceMul,Int.reduceToNat,MM,bu0,cbP6,f19,f18,f17,f3,f4,f1,m13,m1,eq_false ck]
      repeat' (first|omega|rfl|exact i64c (by omega)|exact vic (by omega)|apply ai)
  have hke:k=L.length:=by omega
  subst hke
  rw [List.take_length] at hdl f4
  generalize hX:dvN m.ks L (stC m.ks)=X at hdl f4 hR
  simp -dsimp -implicitDefEqProofs (disch:=first|omega|(simp only [lenr];try omega)) only [↓amPre,↓reduceIte,reduceCtorEq,Nat.reduceEqDiff,Nat.reduceBEq,Nat.reduceAdd,Nat.reduceLeDiff,Nat.reduceSub,Nat.reduceMul,Int.reduceToNat,MM,bu0,cbP6,f19,f18,f17,f3,f4,f1,m13,m1,vfz]
  refine callP_of (parityShare m.ks L hl3 hle) ?_
  have hw:=tdiv_le X (allP m.ks (2 ^ m.ks.length)) hdl.1 (by omega)
  have w1:IntKind.i64.wrap (X.tdiv (allP m.ks (2 ^ m.ks.length)))=X.tdiv (allP m.ks (2 ^ m.ks.length)):=wrap64_id (by omega)
  have w2:IntKind.i64.wrap (X.tdiv (allP m.ks (2 ^ m.ks.length))*goodP m.ks L (2 ^ m.ks.length))=X.tdiv (allP m.ks (2 ^ m.ks.length))*goodP m.ks L (2 ^ m.ks.length):=by rw [← hR];exact wrap64_id (by omega)
  simp -dsimp -implicitDefEqProofs (disch:=first|omega|(simp only [lenr];try omega)) only [↓amPre,↓reduceIte,reduceCtorEq,Nat.reduceEqDiff,Nat.reduceBEq,Nat.reduceAdd,Nat.reduceLeDiff,Nat.reduceSub,Nat.reduceMul,Int.reduceToNat,MM,bu0,cbP6,f19,f18,f17,f3,f4,f1,m13,m1,w1,w2,hR]
end Go.AM
namespace Go.AM
namespace Ct
/-! counting with lists -/
theorem flt_split {α:Type} (p:α→Bool):∀ l:List α,l.length=(l.filter p).length+(l.filter fun x=>!p x).length
  | []=>rfl
  | x :: r=>by
    have ih:=flt_split p r
    rw [List.filter_cons,List.filter_cons,List.length_cons]
    cases h:p x
    · simp;omega
    · simp;omega
theorem same_len {α:Type} [DecidableEq α] {a b:List α} (ha:a.Nodup) (hb:b.Nodup) (h1:∀ x∈a,x∈b) (h2:∀ x∈b,x∈a):a.length=b.length :=
  Nat.le_antisymm (len_le_of_sub a b ha h1) (len_le_of_sub b a hb h2)
def fbr {α:Type} (f:α→Nat) (l:List α) (i:Nat):Nat:=(l.filter fun x=>f x == i).length
def sumN (g:Nat→Nat):Nat→Nat
  | 0=>0
  | k+1=>sumN g k+g k
theorem sumN_congr {g h:Nat→Nat}:∀ {k},(∀ i,i<k→g i=h i)→sumN g k=sumN h k
  | 0,_=>rfl
  | k+1,e=>by rw [sumN,sumN,sumN_congr (fun i hi=>e i (by omega)),e k (by omega)]
theorem sumN_const (c:Nat):∀ k,sumN (fun _=>c) k=k*c
  | 0=>by simp [sumN]
  | k+1=>by rw [sumN,sumN_const c k,Nat.succ_mul]
theorem sumN_add1 (g:Nat→Nat) (j:Nat):∀ k,sumN (fun i=>g i+if j=i then 1 else 0) k=sumN g k+if j<k then 1 else 0
  | 0=>by simp [sumN]
  | k+1=>by
    rw [sumN,sumN,sumN_add1 g j k]
    by_cases c:j=k
    · subst c;simp;omega
    · by_cases c2:j<k
      · rw [if_neg c,if_pos c2,if_pos (by omega)];omega
      · rw [if_neg c,if_neg c2,if_neg (by omega)];omega
theorem fbr_sum {α:Type} (f:α→Nat) (m:Nat):∀ l:List α,(∀ x∈l,f x<m)→sumN (fbr f l) m=l.length
  | [],_=>by
    have:sumN (fbr f ([]:List α)) m=sumN (fun _=>0) m:=sumN_congr fun i _=>rfl
    rw [this,sumN_const];simp
  | x :: r,h=>by
    have ih:=fbr_sum f m r (fun y hy=>h y (List.mem_cons_of_mem _ hy))
    have hx:=h x (List.mem_cons_self ..)
    have:sumN (fbr f (x :: r)) m=sumN (fun i=>fbr f r i+if f x=i then 1 else 0) m:=sumN_congr fun i _=>by
      unfold fbr
      rw [List.filter_cons]
      by_cases c:f x=i
      · simp [c]
      · simp [c]
    rw [this,sumN_add1,ih,if_pos hx,List.length_cons]
theorem fibre {α:Type} [DecidableEq α] {K:List α} (hK:K.Nodup) {m:Nat} (hm:1≤m) {f:α→Nat} (hf:∀ x∈K,f x<m) {t:α→α} (ht:∀ x∈K,t x∈K) (inj:∀ x∈K,∀ y∈K,t x=t y→x=y) (hs:∀ x∈K,f (t x)=(f x+1) % m) :
    K.length=m*(K.filter fun x=>f x == 0).length:=by
  have step:∀ i,i<m→fbr f K i≤fbr f K ((i+1) % m):=fun i hi=>by
    unfold fbr
    have hnd:((K.filter fun x=>f x == i).map t).Nodup:=List.pairwise_map.2 ((hK.filter _).imp_of_mem fun ha hb hne e=>hne (inj _ (List.mem_filter.1 ha).1 _ (List.mem_filter.1 hb).1 e))
    have:=len_le_of_sub _ (K.filter fun x=>f x == (i+1) % m) hnd (fun x hx=>by
      obtain ⟨y,hy,rfl⟩:=List.mem_map.1 hx
      obtain ⟨h1,h2⟩:=List.mem_filter.1 hy
      refine List.mem_filter.2 ⟨ht y h1,?_⟩
      have:f y=i:=by simpa using h2
      rw [hs y h1,this];simp)
    rwa [List.length_map] at this
  have up:∀ i,i<m→fbr f K 0≤fbr f K i:=by
    intro i
    induction i with
    | zero=>intro _;exact Nat.le_refl _
    | succ i ih =>
      intro hi
      have:=step i (by omega)
      rw [Nat.mod_eq_of_lt hi] at this
      exact Nat.le_trans (ih (by omega)) this
  have down:∀ d i,i+d=m→i<m→fbr f K i≤fbr f K 0:=by
    intro d
    induction d with
    | zero=>intro i h1 h2;omega
    | succ d ih =>
      intro i h1 h2
      have:=step i h2
      by_cases c:i+1=m
      · rw [c,Nat.mod_self] at this;exact this
      · rw [Nat.mod_eq_of_lt (by omega)] at this
        exact Nat.le_trans this (ih (i+1) (by omega) (by omega))
  have hall:∀ i,i<m→fbr f K i=fbr f K 0:=fun i hi=>Nat.le_antisymm (down (m - i) i (by omega) hi) (up i hi)
  have h1:=fbr_sum f m K hf
  rw [sumN_congr hall,sumN_const] at h1
  exact h1.symm
theorem lagr {α:Type} [DecidableEq α] (op:α→α→α) {G:List α} (hG:G.Nodup) (hG0:0<G.length) :
    ∀ (N:Nat) (K:List α),K.length≤N→K.Nodup→(∀ x∈K,∀ g∈G,op x g∈K)→(∀ x∈K,∀ g∈G,∀ h∈G,op x g=op x h→g=h) →
      (∀ x∈K,x∈G.map (op x))→(∀ x∈K,∀ y∈K,∀ g∈G,∀ h∈G,op y g=op x h→y∈G.map (op x))→G.length ∣ K.length
  | 0,K,hN,_,_,_,_,_=>by rw [Nat.le_zero.1 hN];exact Nat.dvd_zero _
  | N+1,K,hN,hK,hcl,hcan,hid,hdis=>by
    cases hK0:K with
    | nil=>exact Nat.dvd_zero _
    | cons x r =>
      have hx:x∈K:=by rw [hK0];exact List.mem_cons_self ..
      rw [← hK0]
      have hcos:(G.map (op x)).Nodup:=List.pairwise_map.2 (hG.imp_of_mem fun ha hb hne e=>hne (hcan x hx _ ha _ hb e))
      have hsub:∀ y∈G.map (op x),y∈K:=fun y hy=>by
        obtain ⟨g,hg,rfl⟩:=List.mem_map.1 hy
        exact hcl x hx g hg
      have h1:=flt_split (fun y=>decide (y∈G.map (op x))) K
      have h2:(K.filter fun y=>decide (y∈G.map (op x))).length=G.length:=by
        rw [same_len (hK.filter _) hcos (fun y hy=>by simpa using (List.mem_filter.1 hy).2) (fun y hy=>List.mem_filter.2 ⟨hsub y hy,by simpa using hy⟩),List.length_map]
      rw [h2] at h1
      have hmem:∀ y,y∈(K.filter fun y=>!decide (y∈G.map (op x)))↔y∈K∧y∉G.map (op x):=fun y=>by
        rw [List.mem_filter,Bool.not_eq_true',decide_eq_false_iff_not]
      have ih:=lagr op hG hG0 N (K.filter fun y=>!decide (y∈G.map (op x))) (by omega) (hK.filter _) (fun y hy g hg=>by
        obtain ⟨a,b⟩:=(hmem y).1 hy
        refine (hmem _).2 ⟨hcl y a g hg,fun q=>b ?_⟩
        obtain ⟨h,hh,e⟩:=List.mem_map.1 q
        exact hdis x hx y a g hg h hh e.symm) (fun y hy=>hcan y ((hmem y).1 hy).1) (fun y hy=>hid y ((hmem y).1 hy).1) (fun y hy z hz=>hdis y ((hmem y).1 hy).1 z ((hmem z).1 hz).1)
      rw [h1]
      exact Nat.dvd_add (Nat.dvd_refl _) ih
end Ct
end Go.AM
namespace Go.AM
namespace Ct
/-! all piece states -/
theorem prd_nd {α β γ:Type} {A:List α} {B:List β} {g:α→β→γ} (hA:A.Nodup) (hB:B.Nodup) (inj:∀ a∈A,∀ b∈B,∀ a'∈A,∀ b'∈B,g a b=g a' b'→a=a'∧b=b'):(A.flatMap fun a=>B.map (g a)).Nodup:=by
  unfold List.Nodup
  rw [List.pairwise_flatMap]
  refine ⟨fun a ha=>List.pairwise_map.2 (hB.imp_of_mem fun hx hy hne e=>hne (inj a ha _ hx a ha _ hy e).2),hA.imp_of_mem fun hx hy hne x h1 y h2 e=>?_⟩
  obtain ⟨b,hb,rfl⟩:=List.mem_map.1 h1
  obtain ⟨b',hb',rfl⟩:=List.mem_map.1 h2
  exact hne (inj _ hx _ hb _ hy _ hb' e).1
theorem prd_len {α β γ:Type} (B:List β) (g:α→β→γ):∀ A:List α,(A.flatMap fun a=>B.map (g a)).length=A.length*B.length
  | []=>by simp
  | a :: A=>by rw [List.flatMap_cons,List.length_append,prd_len B g A,List.length_map,List.length_cons,Nat.succ_mul,Nat.add_comm]
theorem prd_mem {α β γ:Type} {A:List α} {B:List β} {g:α→β→γ} {x:γ}:x∈(A.flatMap fun a=>B.map (g a))↔∃ a∈A,∃ b∈B,g a b=x:=by
  simp only [List.mem_flatMap,List.mem_map]
def up (x y:Int):Int:=if y<x then y else y+1
def dn (x y:Int):Int:=if y<x then y else y - 1
theorem up_inj (x:Int) {y z:Int} (h:up x y=up x z):y=z:=by unfold up at h;split at h <;> split at h <;> omega
theorem map_inj {α β:Type} {f:α→β} (hf:∀ a b,f a=f b→a=b):∀ {l m:List α},l.map f=m.map f→l=m
  | [],[],_=>rfl
  | [],_ :: _,h=>by cases h
  | _ :: _,[],h=>by cases h
  | a :: l,b :: m,h=>by
    rw [List.map_cons,List.map_cons] at h
    injection h with h1 h2
    rw [hf _ _ h1,map_inj hf h2]
def prmL:Nat→List (List Int)
  | 0=>[[]]
  | c+1=>(List.range (c+1)).flatMap fun (x:Nat)=>(prmL c).map fun p=>(x:Int) :: p.map (up x)
theorem prm_mem:∀ c p,p∈prmL c↔p.length=c∧(∀ x∈p,0≤x∧x<(c:Int))∧p.Nodup
  | 0,p=>by
    rw [prmL,List.mem_singleton]
    constructor
    · rintro rfl;exact ⟨rfl,by simp,List.nodup_nil⟩
    · rintro ⟨h,_⟩;exact List.length_eq_zero_iff.1 h
  | c+1,p=>by
    rw [prmL,prd_mem]
    constructor
    · rintro ⟨x,hx,q,hq,rfl⟩
      have hx:=List.mem_range.1 hx
      obtain ⟨h1,h2,h3⟩:=(prm_mem c q).1 hq
      refine ⟨by simp [h1],fun y hy=>?_,List.nodup_cons.2 ⟨fun hm=>?_,List.pairwise_map.2 (h3.imp fun hne e=>hne (up_inj _ e))⟩⟩
      · rcases List.mem_cons.1 hy with rfl | hy
        · omega
        · obtain ⟨z,hz,rfl⟩:=List.mem_map.1 hy
          have:=h2 z hz
          unfold up;split <;> omega
      · obtain ⟨z,hz,e⟩:=List.mem_map.1 hm
        unfold up at e;split at e <;> omega
    · rintro ⟨h1,h2,h3⟩
      cases p with
      | nil=>cases h1
      | cons x r =>
        have hx:=h2 x (List.mem_cons_self ..)
        obtain ⟨n1,n2⟩:=List.nodup_cons.1 h3
        have hr:∀ y∈r,0≤y∧y<((c+1:Nat):Int)∧y≠x:=fun y hy=>⟨(h2 y (List.mem_cons_of_mem _ hy)).1,(h2 y (List.mem_cons_of_mem _ hy)).2,by rintro rfl;exact n1 hy⟩
        have hdn:∀ y z,y∈r→z∈r→dn x y=dn x z→y=z:=fun y z hy hz e=>by
          have:=hr _ hy
          have:=hr _ hz
          unfold dn at e;split at e <;> split at e <;> omega
        refine ⟨x.toNat,List.mem_range.2 (by omega),r.map (dn x),(prm_mem c _).2 ⟨by rw [List.length_map];simpa using h1,fun y hy=>?_,List.pairwise_map.2 (n2.imp_of_mem fun ha hb hne e=>hne (hdn _ _ ha hb e))⟩,?_⟩
        · obtain ⟨z,hz,rfl⟩:=List.mem_map.1 hy
          have:=hr z hz
          unfold dn;split <;> omega
        · rw [Int.toNat_of_nonneg hx.1,List.map_map]
          congr 1
          conv=>rhs;rw [← List.map_id r]
          refine List.map_congr_left fun y hy=>?_
          have:=hr y hy
          show up x (dn x y)=y
          by_cases q:y<x
          · simp only [dn,up,if_pos q]
          · simp only [dn,if_neg q,up]
            rw [if_neg (by omega)];omega
theorem prm_nd:∀ c,(prmL c).Nodup
  | 0=>by simp [prmL]
  | c+1=>by
    rw [prmL]
    refine prd_nd List.nodup_range (prm_nd c) fun a _ b _ a' _ b' _ e=>?_
    injection e with e1 e2
    have e1:a=a':=by omega
    subst e1
    exact ⟨rfl,map_inj (fun _ _=>up_inj _) e2⟩
theorem prm_len:∀ c,(prmL c).length=fct c
  | 0=>rfl
  | c+1=>by rw [prmL,prd_len,prm_len c,List.length_range,fct]
def wrdL (o:Nat):Nat→List (List Int)
  | 0=>[[]]
  | c+1=>(List.range o).flatMap fun (x:Nat)=>(wrdL o c).map fun p=>(x:Int) :: p
theorem wrd_mem (o:Nat):∀ c p,p∈wrdL o c↔p.length=c∧∀ x∈p,0≤x∧x<(o:Int)
  | 0,p=>by
    rw [wrdL,List.mem_singleton]
    constructor
    · rintro rfl;exact ⟨rfl,by simp⟩
    · rintro ⟨h,_⟩;exact List.length_eq_zero_iff.1 h
  | c+1,p=>by
    rw [wrdL,prd_mem]
    constructor
    · rintro ⟨x,hx,q,hq,rfl⟩
      have hx:=List.mem_range.1 hx
      obtain ⟨h1,h2⟩:=(wrd_mem o c q).1 hq
      refine ⟨by simp [h1],fun y hy=>?_⟩
      rcases List.mem_cons.1 hy with rfl | hy
      · omega
      · exact h2 y hy
    · rintro ⟨h1,h2⟩
      cases p with
      | nil=>cases h1
      | cons x r =>
        have hx:=h2 x (List.mem_cons_self ..)
        exact ⟨x.toNat,List.mem_range.2 (by omega),r,(wrd_mem o c r).2 ⟨by simpa using h1,fun y hy=>h2 y (List.mem_cons_of_mem _ hy)⟩,by rw [Int.toNat_of_nonneg hx.1]⟩
theorem wrd_nd (o:Nat):∀ c,(wrdL o c).Nodup
  | 0=>by simp [wrdL]
  | c+1=>by
    rw [wrdL]
    refine prd_nd List.nodup_range (wrd_nd o c) fun a _ b _ a' _ b' _ e=>?_
    injection e with e1 e2
    exact ⟨by omega,e2⟩
theorem wrd_len (o:Nat):∀ c,(wrdL o c).length=o ^ c
  | 0=>rfl
  | c+1=>by rw [wrdL,prd_len,wrd_len o c,List.length_range,Nat.pow_succ,Nat.mul_comm]
def twA (k:Kind):List Twist:=(prmL k.c.toNat).flatMap fun p=>(wrdL k.o.toNat k.c.toNat).map fun b=>⟨p,b⟩
theorem tw_mem {k:Kind} (h:kOk k) (t:Twist):t∈twA k↔twOk k t:=by
  obtain ⟨a,b⟩:=t
  unfold twA twOk isPerm
  rw [prd_mem]
  have:=h.1
  have:=h.2
  constructor
  · rintro ⟨p,hp,q,hq,e⟩
    injection e with e1 e2
    subst e1 e2
    obtain ⟨h1,h2,h3⟩:=(prm_mem _ _).1 hp
    obtain ⟨h4,h5⟩:=(wrd_mem _ _ _).1 hq
    exact ⟨by dsimp only;omega,by dsimp only;omega,⟨by dsimp only;omega,fun x hx=>by have:=h2 x hx;dsimp only at *;omega,h3⟩,fun x hx=>by have:=h5 x hx;omega⟩
  · rintro ⟨h1,h2,⟨h3,h4,h5⟩,h6⟩
    dsimp only at *
    exact ⟨a,(prm_mem _ _).2 ⟨by omega,fun x hx=>by have:=h4 x hx;omega,h5⟩,b,(wrd_mem _ _ _).2 ⟨by omega,fun x hx=>by have:=h6 x hx;omega⟩,rfl⟩
theorem tw_nd (k:Kind):(twA k).Nodup:=prd_nd (prm_nd _) (wrd_nd _ _) fun a _ b _ a' _ b' _ e=>by
  injection e with e1 e2
  exact ⟨e1,e2⟩
theorem fct_stK (o:Nat):∀ c,fct c*o ^ c=stK o c
  | 0=>rfl
  | c+1=>by
    rw [fct,stK,← fct_stK o c,Nat.pow_succ]
    simp only [Nat.mul_assoc,Nat.mul_comm,Nat.mul_left_comm]
theorem tw_len (k:Kind):(twA k).length=stK k.o.toNat k.c.toNat:=by
  unfold twA
  rw [prd_len,prm_len,wrd_len,fct_stK]
def stA:List Kind→List (List Twist)
  | []=>[[]]
  | k :: r=>(twA k).flatMap fun t=>(stA r).map fun s=>t :: s
theorem st_mem:∀ ks:List Kind,(∀ k∈ks,kOk k)→∀ s,s∈stA ks↔s.length=ks.length∧∀ i,i<ks.length→twOk (ks.getD i default) (s.getD i default)
  | [],_,s=>by
    rw [stA,List.mem_singleton]
    constructor
    · rintro rfl;exact ⟨rfl,fun i hi=>absurd hi (Nat.not_lt_zero _)⟩
    · rintro ⟨h,_⟩;exact List.length_eq_zero_iff.1 h
  | k :: r,hk,s=>by
    rw [stA,prd_mem]
    have ih:=st_mem r (fun x hx=>hk x (List.mem_cons_of_mem _ hx))
    have hk0:=hk k (List.mem_cons_self ..)
    constructor
    · rintro ⟨t,ht,q,hq,rfl⟩
      obtain ⟨h1,h2⟩:=(ih q).1 hq
      refine ⟨by simp [h1],fun i hi=>?_⟩
      cases i with
      | zero=>exact (tw_mem hk0 t).1 ht
      | succ i=>exact h2 i (by simpa using hi)
    · rintro ⟨h1,h2⟩
      cases s with
      | nil=>cases h1
      | cons t q=>exact ⟨t,(tw_mem hk0 t).2 (h2 0 (by simp)),q,(ih q).2 ⟨by simpa using h1,fun i hi=>h2 (i+1) (by simpa using hi)⟩,rfl⟩
theorem st_nd:∀ ks:List Kind,(stA ks).Nodup
  | []=>by simp [stA]
  | k :: r=>by
    rw [stA]
    refine prd_nd (tw_nd k) (st_nd r) fun a _ b _ a' _ b' _ e=>?_
    injection e with e1 e2
    exact ⟨e1,e2⟩
theorem st_len:∀ ks:List Kind,(stA ks).length=stC ks
  | []=>rfl
  | k :: r=>by rw [stA,prd_len,tw_len,st_len r,stC]
theorem st_ok {ks:List Kind} (h:kindsOk ks) (s:List Twist):s∈stA ks↔psOk ks s:=by
  rw [st_mem ks h.2.1 s]
  exact ⟨fun q=>⟨h,q⟩,fun q=>q.2⟩
/-! a state is told by its permutation -/
theorem permOf_inj {ks:List Kind} {a b:List Twist} (pa:psOk ks a) (pb:psOk ks b) (h:permOf ks a=permOf ks b):a=b:=by
  refine ext_getD default (by rw [pa.2.1,pb.2.1]) fun k hk=>?_
  rw [pa.2.1] at hk
  have ta:=tw_get pa hk
  have tb:=tw_get pb hk
  have hko:=pa.1.2.1 _ (mem_getD ks k default hk)
  obtain ⟨c,o,hc,ho,la,la',c1,c2,o1,o2⟩:=twOk_facts ta hko
  obtain ⟨c',o',hc',ho',lb,lb',_⟩:=twOk_facts tb hko
  have key:∀ i,i<c→(a.getD k default).to.getD i 0=(b.getD k default).to.getD i 0∧(a.getD k default).by'.getD i 0=(b.getD k default).by'.getD i 0:=fun i hi=>by
    obtain ⟨t,y,m,h1,h2,h3,h4,h5,h6,h7⟩:=kinds_nat pa hk hc ho hi (show 0<o by omega)
    obtain ⟨t',y',m',g1,g2,g3,g4,g5,g6,g7⟩:=kinds_nat pb hk hc ho hi (show 0<o by omega)
    rw [h,g7] at h7
    have e:t'*o+m'=t*o+m:=by omega
    rw [Nat.zero_add,Nat.mod_eq_of_lt h4] at h6
    rw [Nat.zero_add,Nat.mod_eq_of_lt g4] at g6
    have e1:t'=t:=by
      have d1:(t'*o+m') / o=t':=by rw [Nat.mul_comm,Nat.mul_add_div (by omega),Nat.div_eq_of_lt g5,Nat.add_zero]
      have d2:(t*o+m) / o=t:=by rw [Nat.mul_comm,Nat.mul_add_div (by omega),Nat.div_eq_of_lt h5,Nat.add_zero]
      rw [← d1,← d2,e]
    subst e1
    exact ⟨by omega,by omega⟩
  have e1:(a.getD k default).to=(b.getD k default).to:=ext_getD 0 (by omega) fun i hi=>(key i (by omega)).1
  have e2:(a.getD k default).by'=(b.getD k default).by':=ext_getD 0 (by omega) fun i hi=>(key i (by omega)).2
  cases ha:a.getD k default
  cases hb:b.getD k default
  rw [ha,hb] at e1 e2
  dsimp only at e1 e2
  rw [e1,e2]
theorem comp_inj {ks:List Kind} {a b e:List Twist} (pa:psOk ks a) (pb:psOk ks b) (pe:psOk ks e) (h:compS ks a e=compS ks b e):a=b:=by
  refine permOf_inj pa pb ?_
  have h:=congrArg (permOf ks) h
  rw [perm_comp pa pe,perm_comp pb pe] at h
  have la:=permOf_length pa
  have lb:=permOf_length pb
  have le:=permOf_length pe
  have hp:=permOf_perm pe
  have ha:=permOf_perm pa
  have hb:=permOf_perm pb
  refine ext_getD 0 (by omega) fun i hi=>?_
  have hg:=congrArg (fun l=>l.getD i 0) h
  rw [compI_get _ _ _ hi,compI_get _ _ _ (by omega)] at hg
  have r1:=ha.2.1 _ (mem_getD _ i 0 hi)
  have r2:=hb.2.1 _ (mem_getD _ i 0 (show i<(permOf ks b).length by omega))
  have:=perm_inj hp (show ((permOf ks a).getD i 0).toNat<_ by omega) (show ((permOf ks b).getD i 0).toNat<_ by omega) hg
  omega
end Ct
end Go.AM
set_option maxRecDepth 8000
namespace Go.AM
namespace Ct
open Ih (sumI_add sumI_emod rng_self sumI_nonneg sum_reix sumI_rep okS sgn_neg oddS_comp par_run oddS_solved)
/-! sums over lists -/
def sm {α:Type} (f:α→Nat):List α→Nat
  | []=>0
  | x :: r=>f x+sm f r
theorem sm_congr {α:Type} {f g:α→Nat}:∀ {l:List α},(∀ x∈l,f x=g x)→sm f l=sm g l
  | [],_=>rfl
  | x :: r,h=>by rw [sm,sm,h x (List.mem_cons_self ..),sm_congr fun y hy=>h y (List.mem_cons_of_mem _ hy)]
theorem sm_add {α:Type} (f g:α→Nat):∀ l:List α,sm (fun x=>f x+g x) l=sm f l+sm g l
  | []=>rfl
  | x :: r=>by rw [sm,sm,sm,sm_add f g r];omega
theorem sm_ind {α:Type} (p:α→Bool) (d:Nat):∀ l:List α,sm (fun x=>if p x=true then d else 0) l=(l.filter p).length*d
  | []=>by simp [sm]
  | x :: r=>by
    rw [sm,sm_ind p d r,List.filter_cons]
    cases p x <;> simp [Nat.succ_mul];omega
theorem sm_const {α:Type} (d:Nat):∀ l:List α,sm (fun _=>d) l=l.length*d
  | []=>by simp [sm]
  | x :: r=>by rw [sm,sm_const d r,List.length_cons,Nat.succ_mul];omega
theorem sm_two {α:Type} (f:α→Nat):∀ l:List α,sm (fun x=>2*f x) l=2*sm f l
  | []=>rfl
  | x :: r=>by rw [sm,sm,sm_two f r];omega
theorem sm_dbl {α β:Type} (r:α→β→Bool) (B:List β):∀ A:List α,sm (fun a=>(B.filter (r a)).length) A=sm (fun b=>(A.filter fun a=>r a b).length) B
  | []=>by
    have:sm (fun b=>(([]:List α).filter fun a=>r a b).length) B=sm (fun _=>0) B:=sm_congr fun _ _=>rfl
    rw [this,sm_const,sm,Nat.mul_zero]
  | a :: A=>by
    have h:sm (fun b=>((a :: A).filter fun a=>r a b).length) B=sm (fun b=>(if r a b=true then 1 else 0)+(A.filter fun a=>r a b).length) B:=sm_congr fun b _=>by
      rw [List.filter_cons]
      cases r a b <;> simp;omega
    rw [h,sm_add,sm_ind,Nat.mul_one,sm,sm_dbl r B A]
/-! twists of a composition -/
theorem twS_add {ks:List Kind} {a b:List Twist} (pa:psOk ks a) (pb:psOk ks b) {n:Nat} (hn:n<ks.length) :
    twS (ks.getD n default) ((compS ks a b).getD n default)=(twS (ks.getD n default) (a.getD n default)+twS (ks.getD n default) (b.getD n default)) % (ks.getD n default).o:=by
  have hk:=pa.1.2.1 _ (mem_getD ks n default hn)
  have pc:=comp_ok pa pb
  have ta:=tw_get pa hn
  have tb:=tw_get pb hn
  have tc:=tw_get pc hn
  have e:(compS ks a b).getD n default=compT (ks.getD n default).o (a.getD n default) (b.getD n default):=by rw [compS,range_map_get _ _ _ _ hn]
  rw [e] at tc ⊢
  generalize ks.getD n default=k at *
  generalize a.getD n default=s at *
  generalize b.getD n default=t at *
  obtain ⟨c,o,hc,ho,la,la',c1,c2,o1,o2⟩:=twOk_facts ta hk
  obtain ⟨c',o',hc',ho',lb,lb',_⟩:=twOk_facts tb hk
  have na:=sumI_nonneg s.by' (fun x hx=>(ta.2.2.2 x hx).1)
  have nb:=sumI_nonneg t.by' (fun x hx=>(tb.2.2.2 x hx).1)
  have nc:=sumI_nonneg (compT k.o s t).by' (fun x hx=>(tc.2.2.2 x hx).1)
  unfold twS at *
  rw [Int.tmod_eq_emod_of_nonneg na,Int.tmod_eq_emod_of_nonneg nb,Int.tmod_eq_emod_of_nonneg nc]
  have eb:(compT k.o s t).by'=(List.range s.to.length).map fun i=>(s.by'.getD i 0+t.by'.getD (s.to.getD i 0).toNat 0) % k.o:=by
    refine List.map_congr_left fun i hi=>?_
    have hi:=List.mem_range.1 hi
    have h1:=by_get ta (show i<s.by'.length by omega)
    have h2:=to_get ta hi
    have h3:=by_get tb (show (s.to.getD i 0).toNat<t.by'.length by omega)
    show Int.tmod _ _=_
    exact Int.tmod_eq_emod_of_nonneg (by omega)
  have e1:sumI ((List.range s.to.length).map fun i=>s.by'.getD i 0)=sumI s.by':=by
    rw [show s.to.length=s.by'.length by omega,rng_self]
  have e2:=sum_reix (p:=s.to) (b:=t.by') ta.2.2.1 (by omega)
  rw [eb,sumI_emod,sumI_add,e1,e2,Int.add_emod]
theorem twS_rng {k:Kind} {t:Twist} (h:twOk k t) (hk:kOk k):0≤twS k t∧twS k t<k.o:=by
  have:=sumI_nonneg t.by' (fun x hx=>(h.2.2.2 x hx).1)
  exact tmod_in this (by have:=hk.2;omega)
/-! two turns -/
def onT (k:Kind):Twist:=⟨runI 0 k.c.toNat,(List.replicate k.c.toNat 0).set 0 1⟩
def onS (ks:List Kind) (j:Nat):List Twist:=(List.range ks.length).map fun n=>if n=j then onT (ks.getD n default) else solvedK (ks.getD n default)
def swI (c:Nat):List Int:=((runI 0 c).set 0 1).set 1 0
def swT (k:Kind):Twist:=⟨swI k.c.toNat,List.replicate k.c.toNat 0⟩
def swS (ks:List Kind) (j:Nat):List Twist:=(List.range ks.length).map fun n=>if n=j then swT (ks.getD n default) else solvedK (ks.getD n default)
theorem sol_get {ks:List Kind} {n:Nat} (hn:n<ks.length):(ks.map solvedK).getD n default=solvedK (ks.getD n default):=map_getD _ _ _ _ _ hn
theorem sol_tw {ks:List Kind} (hk:kindsOk ks) {n:Nat} (hn:n<ks.length):twOk (ks.getD n default) (solvedK (ks.getD n default)):=by
  have:=tw_get (solved_ok hk) hn
  rwa [sol_get hn] at this
theorem sum_set (x:Nat):sumI ((List.replicate (x+1) (0:Int)).set 0 1)=1:=by
  rw [List.replicate_succ,List.set_cons_zero,sumI,sumI_rep];rfl
theorem onS_ok {ks:List Kind} (hk:kindsOk ks) {j:Nat} (hj:2≤(ks.getD j default).o):psOk ks (onS ks j):=by
  refine ⟨hk,by simp [onS],fun n hn=>?_⟩
  have hs:=sol_tw hk hn
  unfold onS
  rw [range_map_get _ _ _ _ hn]
  split
  · rename_i e
    subst e
    refine ⟨hs.1,by rw [onT,List.length_set];exact hs.2.1,hs.2.2.1,fun x hx=>?_⟩
    rcases List.mem_or_eq_of_mem_set hx with q | q
    · have:=(List.mem_replicate.1 q).2;omega
    · omega
  · exact hs
theorem tw_sol {k:Kind}:twS k (solvedK k)=0:=by
  unfold twS solvedK
  rw [sumI_rep];simp
theorem onS_tw {ks:List Kind} (hk:kindsOk ks) {j n:Nat} (hn:n<ks.length) (hj:2≤(ks.getD j default).o):twS (ks.getD n default) ((onS ks j).getD n default)=if n=j then 1 else 0:=by
  unfold onS
  rw [range_map_get _ _ _ _ hn]
  split
  · rename_i e
    subst e
    have h1:=(hk.2.1 _ (mem_getD ks n default hn)).1
    obtain ⟨x,hx⟩:∃ x,(ks.getD n default).c.toNat=x+1:=⟨(ks.getD n default).c.toNat - 1,by omega⟩
    unfold twS onT
    rw [hx,sum_set,Int.tmod_eq_emod_of_nonneg (by decide)]
    exact Int.emod_eq_of_lt (by decide) (by omega)
  · exact tw_sol
theorem sw_perm:∀ c,c<21→2≤c→isPerm (swI c)∧(swI c).length=c∧sgnI (swI c)<0:=by decide +kernel
theorem swS_ok {ks:List Kind} (hk:kindsOk ks) {j:Nat} (hj:1<(ks.getD j default).c):psOk ks (swS ks j):=by
  refine ⟨hk,by simp [swS],fun n hn=>?_⟩
  have hs:=sol_tw hk hn
  unfold swS
  rw [range_map_get _ _ _ _ hn]
  split
  · rename_i e
    subst e
    have h1:=(hk.2.1 _ (mem_getD ks n default hn)).1
    obtain ⟨q1,q2,q3⟩:=sw_perm (ks.getD n default).c.toNat (by omega) (by omega)
    exact ⟨by show ((swI _).length:Int)=_;rw [q2];omega,hs.2.1,q1,hs.2.2.2⟩
  · exact hs
theorem swS_tw {ks:List Kind} {j n:Nat} (hn:n<ks.length):twS (ks.getD n default) ((swS ks j).getD n default)=0:=by
  unfold swS
  rw [range_map_get _ _ _ _ hn]
  split
  · unfold twS swT
    rw [sumI_rep];simp
  · exact tw_sol
theorem swS_odd {ks:List Kind} (hk:kindsOk ks) {j:Nat} (hj:1<(ks.getD j default).c) (set:Int):∀ n,n≤ks.length→oddS (swS ks j) set n=if j<n∧bitK set j=true then 1 else 0
  | 0,_=>by rw [oddS,if_neg (fun q=>absurd q.1 (Nat.not_lt_zero _))]
  | n+1,hn=>by
    have h1:=(hk.2.1 _ (mem_getD ks n default (show n<ks.length by omega))).1
    rw [oddS,swS_odd hk hj set n (by omega)]
    have e:(swS ks j).getD n default=if n=j then swT (ks.getD n default) else solvedK (ks.getD n default):=by
      unfold swS
      rw [range_map_get _ _ _ _ (by omega)]
    rw [e]
    by_cases c:n=j
    · subst c
      obtain ⟨q1,q2,q3⟩:=sw_perm (ks.getD n default).c.toNat (by omega) (by omega)
      have hw:sgnI (swT (ks.getD n default)).to<0:=q3
      rw [if_pos rfl,if_neg (fun q=>absurd q.1 (Nat.lt_irrefl _))]
      by_cases d:bitK set n=true
      · rw [if_pos ⟨d,hw⟩,if_pos ⟨by omega,d⟩]
      · rw [if_neg (fun q=>d q.1),if_neg (fun q=>d q.2)]
    · have hw:¬ sgnI (solvedK (ks.getD n default)).to<0:=par_run (n:=(ks.getD n default).c.toNat) (by omega) (by omega)
      rw [if_neg c,if_neg (fun q:bitK set n=true∧sgnI (solvedK (ks.getD n default)).to<0=>hw q.2)]
      by_cases d:bitK set j=true
      · by_cases f:j<n
        · rw [if_pos ⟨f,d⟩,if_pos ⟨by omega,d⟩]
        · rw [if_neg (fun q=>f q.1),if_neg (fun q=>by omega)]
      · rw [if_neg (fun q=>d q.2),if_neg (fun q=>d q.2)]
/-! the states without a twist -/
def zT (m:Model) (j:Nat) (s:List Twist):Bool:=(List.range j).all fun n=>!keepI m ⟨1,(n:Int)⟩ || twS (m.ks.getD n default) (s.getD n default) == 0
def KT (m:Model) (j:Nat):List (List Twist):=(stA m.ks).filter (zT m j)
theorem KT_mem {m:Model} (c:modelOk m) {j:Nat} {s:List Twist}:s∈KT m j↔psOk m.ks s∧zT m j s=true:=by
  unfold KT
  rw [List.mem_filter,st_ok c.1]
theorem KT_nd (m:Model) (j:Nat):(KT m j).Nodup:=(st_nd m.ks).filter _
theorem zT_succ (m:Model) (j:Nat) (s:List Twist):zT m (j+1) s=(zT m j s && (!keepI m ⟨1,(j:Int)⟩ || twS (m.ks.getD j default) (s.getD j default) == 0)):=by
  unfold zT
  rw [all_succ]
theorem zT_iff {m:Model} {j:Nat} {s:List Twist}:zT m j s=true↔∀ n,n<j→keepI m ⟨1,(n:Int)⟩=true→twS (m.ks.getD n default) (s.getD n default)=0:=by
  unfold zT
  rw [List.all_eq_true]
  constructor
  · intro h n hn hk
    have:=h n (List.mem_range.2 hn)
    rw [hk] at this
    simpa using this
  · intro h n hn
    have:=h n (List.mem_range.1 hn)
    cases q:keepI m ⟨1,(n:Int)⟩ with
    | false=>rfl
    | true=>rw [this q];rfl
theorem KT_len {m:Model} (c:modelOk m):∀ j,j≤m.ks.length→dvN m.ks ((twL j).filter (keepI m)) (stC m.ks)=((KT m j).length:Int)∧∃ F,stC m.ks=F*(KT m j).length
  | 0,_=>by
    have e:KT m 0=stA m.ks:=by
      unfold KT
      exact List.filter_eq_self.2 fun _ _=>rfl
    rw [e,st_len]
    exact ⟨rfl,1,(Nat.one_mul _).symm⟩
  | j+1,hj=>by
    obtain ⟨h1,F,h2⟩:=KT_len c j (by omega)
    have hf:=filter_snoc (keepI m) (twL j) ⟨1,(j:Int)⟩
    rw [← twL_succ] at hf
    have hs:KT m (j+1)=(KT m j).filter fun s=>!keepI m ⟨1,(j:Int)⟩ || twS (m.ks.getD j default) (s.getD j default) == 0:=by
      unfold KT
      rw [List.filter_filter]
      exact List.filter_congr fun s _=>by rw [zT_succ,Bool.and_comm]
    rw [hf]
    by_cases w:keepI m ⟨1,(j:Int)⟩=true
    · rw [if_pos w]
      have hko:=(c.1.2.1 _ (mem_getD m.ks j default (show j<m.ks.length by omega)))
      have ho:2≤(m.ks.getD j default).o:=by
        have:trivI m.ks ⟨1,(j:Int)⟩=false:=by
          unfold keepI at w
          rw [Bool.and_eq_true,Bool.not_eq_true'] at w
          exact w.1
        have h3:trivI m.ks ⟨1,(j:Int)⟩=decide ((m.ks.getD j default).o=1):=rfl
        rw [h3,decide_eq_false_iff_not] at this
        have:=hko.2
        omega
      have pe:=onS_ok c.1 ho
      have key:=fibre (KT_nd m j) (m:=(m.ks.getD j default).o.toNat) (by omega) (f:=fun s=>(twS (m.ks.getD j default) (s.getD j default)).toNat) (fun s hs=>by
        have:=twS_rng (tw_get ((KT_mem c).1 hs).1 (show j<m.ks.length by omega)) hko
        omega) (t:=fun s=>compS m.ks s (onS m.ks j)) (fun s hs=>by
        obtain ⟨a,b⟩:=(KT_mem c).1 hs
        refine (KT_mem c).2 ⟨comp_ok a pe,zT_iff.2 fun n hn hk=>?_⟩
        rw [twS_add a pe (by omega),onS_tw c.1 (by omega) ho,if_neg (by omega),zT_iff.1 b n hn hk]
        simp) (fun x hx y hy e=>comp_inj ((KT_mem c).1 hx).1 ((KT_mem c).1 hy).1 pe e) (fun s hs=>by
        obtain ⟨a,b⟩:=(KT_mem c).1 hs
        have:=twS_rng (tw_get a (show j<m.ks.length by omega)) hko
        rw [twS_add a pe (by omega),onS_tw c.1 (by omega) ho,if_pos rfl]
        generalize twS (m.ks.getD j default) (s.getD j default)=x at *
        generalize (m.ks.getD j default).o=o at *
        rw [show x.toNat+1=(x+1).toNat by omega,Int.toNat_emod (by omega) (by omega)])
      have hs2:KT m (j+1)=(KT m j).filter fun s=>(twS (m.ks.getD j default) (s.getD j default)).toNat == 0:=by
        rw [hs]
        refine List.filter_congr fun s hs=>?_
        have:=twS_rng (tw_get ((KT_mem c).1 hs).1 (show j<m.ks.length by omega)) hko
        rw [w,Bool.not_true,Bool.false_or,Bool.eq_iff_iff,beq_iff_eq,beq_iff_eq]
        omega
      rw [← hs2] at key
      have e:dvN m.ks ((twL j).filter (keepI m)++[⟨1,(j:Int)⟩]) (stC m.ks)=dvS m.ks (dvN m.ks ((twL j).filter (keepI m)) (stC m.ks)) ⟨1,(j:Int)⟩:=by
        unfold dvN;rw [List.foldl_append];rfl
      refine ⟨?_,F*(m.ks.getD j default).o.toNat,by rw [h2,key,Nat.mul_assoc]⟩
      rw [e,h1,dvS,if_pos rfl]
      simp only [Int.toNat_natCast]
      obtain ⟨o,ho2⟩:∃ o:Nat,(m.ks.getD j default).o=o:=⟨_,(Int.toNat_of_nonneg (by omega)).symm⟩
      rw [ho2,Int.toNat_natCast] at key
      rw [ho2,tdivN,key,Nat.mul_div_cancel_left _ (by omega)]
    · rw [if_neg w]
      have:KT m (j+1)=KT m j:=by
        rw [hs]
        refine List.filter_eq_self.2 fun s _=>?_
        simp only [Bool.not_eq_true] at w
        rw [w];rfl
      rw [this]
      exact ⟨h1,F,h2⟩
end Ct
end Go.AM
set_option maxRecDepth 8000
namespace Go.AM
namespace Ct
open Ih (okS oddS_comp)
/-! the parities -/
abbrev trvL (m:Model):List Nat:=(List.range (2 ^ m.ks.length)).filter (trB (dK m.ks) m.ks.length)
abbrev csvL (m:Model):List Nat:=(List.range (2 ^ m.ks.length)).filter (cB m)
def evO (m:Model) (s:List Twist) (v:Nat):Bool:=oddS s v m.ks.length % 2 == 0
def KK (m:Model):List (List Twist):=(KT m m.ks.length).filter fun s=>(csvL m).all (evO m s)
theorem KK_nd (m:Model):(KK m).Nodup:=(KT_nd m _).filter _
theorem odd_zero (s:List Twist):∀ n,n≤3→oddS s ((0:Nat):Int) n=0
  | 0,_=>rfl
  | n+1,h=>by
    rw [oddS,odd_zero s n (by omega),bitK_nat 0 (by omega) n (by omega),Nat.zero_testBit,if_neg (fun q=>absurd q.1 (by decide))]
theorem inv_par {ks:List Kind} {s:List Twist} (ps:psOk ks s) {v:Nat} (h1:1≤v) (h2:v<2 ^ ks.length):invV ks s ⟨2,(v:Int)⟩=((oddS s v ks.length % 2:Nat):Int):=by
  have e1:invV ks s ⟨2,(v:Int)⟩=parR ks s (v:Int):=rfl
  rw [e1,parR,if_pos ⟨ps,by omega,by omega⟩,parS,ps.2.1]
theorem inv_tw {ks:List Kind} {s:List Twist} (ps:psOk ks s) {n:Nat} (h:n<ks.length):invV ks s ⟨1,(n:Int)⟩=twS (ks.getD n default) (s.getD n default):=by
  have e1:invV ks s ⟨1,(n:Int)⟩=twR ks s (n:Int):=rfl
  rw [e1,twR,if_pos ⟨ps,by omega,by omega⟩,Int.toNat_natCast]
theorem triv_even {ks:List Kind} {s:List Twist} (ps:psOk ks s) {v:Nat} (h2:v<8) (ht:trB (dK ks) ks.length v=true):oddS s v ks.length=0 :=
  odd_triv ks s ps v ks.length (Nat.le_refl _) (by rw [triv_nat ks v h2 _ ps.1.1.2,ht])
theorem KK_mem {m:Model} (c:modelOk m) {s:List Twist}:s∈KK m↔okS m s:=by
  have hl3:=c.1.1.2
  have hp:=pow_small hl3
  have hcr:consR m=consL m:=if_pos c
  unfold KK okS
  rw [List.mem_filter,KT_mem c,hcr]
  constructor
  · rintro ⟨⟨ps,hz⟩,hv⟩
    refine ⟨ps,fun i hi=>?_⟩
    obtain ⟨hi,hk⟩:=List.mem_filter.1 hi
    rcases List.mem_append.1 hi with h | h
    · obtain ⟨n,hn,rfl⟩:=List.mem_map.1 h
      have hn:=List.mem_range.1 hn
      rw [inv_tw ps hn,zT_iff.1 hz n hn hk]
    · obtain ⟨n,hn,rfl⟩:=List.mem_map.1 h
      have hn:=List.mem_range.1 hn
      have hcs:consM m ⟨2,((n+1:Nat):Int)⟩:=by
        unfold keepI at hk
        rw [Bool.and_eq_true,decide_eq_true_eq] at hk
        exact hk.2
      have:=List.all_eq_true.1 hv (n+1) (List.mem_filter.2 ⟨List.mem_range.2 (by omega),by rw [cB_pos m (by omega),decide_eq_true hcs]⟩)
      unfold evO at this
      rw [inv_par ps (by omega) (by omega),beq_iff_eq.1 this];rfl
  · rintro ⟨ps,h⟩
    refine ⟨⟨ps,zT_iff.2 fun n hn hk=>?_⟩,List.all_eq_true.2 fun v hv=>?_⟩
    · rw [← inv_tw ps hn]
      exact h _ (List.mem_filter.2 ⟨List.mem_append.2 (.inl (List.mem_map.2 ⟨n,List.mem_range.2 hn,rfl⟩)),hk⟩)
    · obtain ⟨h1,h2⟩:=List.mem_filter.1 hv
      have h1:=List.mem_range.1 h1
      unfold evO
      rw [beq_iff_eq]
      by_cases v0:v=0
      · subst v0;rw [odd_zero s _ hl3]
      by_cases ht:trB (dK m.ks) m.ks.length v=true
      · rw [triv_even ps (by omega) ht]
      rw [cB_pos m (by omega),decide_eq_true_eq] at h2
      have hk:keepI m ⟨2,(v:Int)⟩=true:=by
        unfold keepI
        have h3:trivI m.ks ⟨2,(v:Int)⟩=trivK m.ks (v:Int) m.ks.length:=rfl
        rw [h3,triv_nat m.ks v (by omega) _ hl3,decide_eq_true h2]
        simp only [Bool.not_eq_true] at ht
        rw [ht];rfl
      have hm:(⟨2,(v:Int)⟩:Invar)∈allI m.ks:=List.mem_append.2 (.inr (List.mem_map.2 ⟨v - 1,List.mem_range.2 (by omega),by rw [show v - 1+1=v by omega]⟩))
      have:=h _ (List.mem_filter.2 ⟨hm,hk⟩)
      rw [inv_par ps (by omega) h1] at this
      omega
theorem trv_csv {m:Model} (c:modelOk m) {v:Nat} (h:v∈trvL m):v∈csvL m:=by
  have hl3:=c.1.1.2
  have hp:=pow_small hl3
  obtain ⟨h1,h2⟩:=List.mem_filter.1 h
  have h3:=List.mem_range.1 h1
  refine List.mem_filter.2 ⟨h1,?_⟩
  by_cases v0:v=0
  · subst v0;exact cB_zero m
  obtain ⟨j,rfl⟩:∃ j,v=j+1:=⟨v - 1,by omega⟩
  rw [cB_pos m (by omega),decide_eq_true_eq]
  exact triv_cons m c j (by omega) (by rw [triv_nat m.ks (j+1) (by omega) _ hl3,h2])
theorem csv_xor {m:Model} (c:modelOk m) {a b:Nat} (ha:a∈csvL m) (hb:b∈csvL m):a ^^^ b∈csvL m:=by
  obtain ⟨h1,h2⟩:=List.mem_filter.1 ha
  obtain ⟨h3,h4⟩:=List.mem_filter.1 hb
  have h1':=List.mem_range.1 h1
  have h3':=List.mem_range.1 h3
  refine List.mem_filter.2 ⟨List.mem_range.2 (xor_lt h1' h3'),?_⟩
  have:=List.all_eq_true.1 (List.all_eq_true.1 (cl_ok m c) a h1) b h3
  rw [h2,h4] at this
  simpa using this
theorem trB_xor {d:Nat→Bool} {n a b:Nat} (ha:trB d n a=true) (hb:trB d n b=true):trB d n (a ^^^ b)=true:=by
  unfold trB at *
  rw [List.all_eq_true] at *
  intro k hk
  have h1:=ha k hk
  have h2:=hb k hk
  rw [Nat.testBit_xor]
  cases q1:a.testBit k <;> cases q2:b.testBit k <;> cases q3:d k <;> simp_all
theorem xor_can (a b:Nat):a ^^^ (a ^^^ b)=b:=by rw [← Nat.xor_assoc,Nat.xor_self,Nat.zero_xor]
theorem trv_dvd {m:Model} (c:modelOk m):(trvL m).length ∣ (csvL m).length:=by
  have h0:0∈trvL m:=List.mem_filter.2 ⟨List.mem_range.2 (Nat.pow_pos (by omega)),by unfold trB;simp⟩
  refine lagr (fun a b:Nat=>a ^^^ b) (List.nodup_range.filter _) (List.length_pos_of_mem h0) _ _ (Nat.le_refl _) (List.nodup_range.filter _) (fun x hx g hg=>csv_xor c hx (trv_csv c hg)) (fun x _ g _ h _ e=>by
    rw [← xor_can x g,e,xor_can]) (fun x _=>List.mem_map.2 ⟨0,h0,Nat.xor_zero x⟩) (fun x _ y _ g hg h hh e=>?_)
  obtain ⟨g1,g2⟩:=List.mem_filter.1 hg
  obtain ⟨h1,h2⟩:=List.mem_filter.1 hh
  refine List.mem_map.2 ⟨h ^^^ g,List.mem_filter.2 ⟨List.mem_range.2 (xor_lt (List.mem_range.1 h1) (List.mem_range.1 g1)),trB_xor h2 g2⟩,?_⟩
  show x ^^^ (h ^^^ g)=y
  rw [← Nat.xor_assoc,← e,Nat.xor_assoc,Nat.xor_self,Nat.xor_zero]
theorem half_v {m:Model} (c:modelOk m) {v:Nat} (hv:v∈csvL m):2*((KT m m.ks.length).filter fun s=>evO m s v).length=(KT m m.ks.length).length+if trB (dK m.ks) m.ks.length v=true then (KT m m.ks.length).length else 0:=by
  have hl3:=c.1.1.2
  have hp:=pow_small hl3
  have hv8:=List.mem_range.1 (List.mem_filter.1 hv).1
  by_cases ht:trB (dK m.ks) m.ks.length v=true
  · rw [if_pos ht]
    have:((KT m m.ks.length).filter fun s=>evO m s v)=KT m m.ks.length:=List.filter_eq_self.2 fun s hs=>by
      unfold evO
      rw [triv_even ((KT_mem c).1 hs).1 (by omega) ht];rfl
    rw [this];omega
  · rw [if_neg ht]
    obtain ⟨k,hk,hb,hd⟩:∃ k,k<m.ks.length∧v.testBit k=true∧dK m.ks k=true:=by
      apply Decidable.byContradiction
      intro hn
      refine ht ?_
      unfold trB
      rw [List.all_eq_true]
      intro k hk
      have hk:=List.mem_range.1 hk
      cases q1:v.testBit k <;> cases q2:dK m.ks k <;> try rfl
      exact absurd ⟨k,hk,q1,q2⟩ hn
    have hd:=of_decide_eq_true hd
    have pe:=swS_ok c.1 hd
    have key:=fibre (KT_nd m m.ks.length) (m:=2) (by omega) (f:=fun s=>oddS s v m.ks.length % 2) (fun s _=>Nat.mod_lt _ (by omega)) (t:=fun s=>compS m.ks s (swS m.ks k)) (fun s hs=>by
        obtain ⟨a,b⟩:=(KT_mem c).1 hs
        refine (KT_mem c).2 ⟨comp_ok a pe,zT_iff.2 fun n hn hk=>?_⟩
        rw [twS_add a pe hn,swS_tw hn,zT_iff.1 b n hn hk]
        simp) (fun x hx y hy e=>comp_inj ((KT_mem c).1 hx).1 ((KT_mem c).1 hy).1 pe e) (fun s hs=>by
        obtain ⟨a,b⟩:=(KT_mem c).1 hs
        have h1:=oddS_comp a pe v m.ks.length (Nat.le_refl _)
        rw [swS_odd c.1 hd v m.ks.length (Nat.le_refl _),if_pos ⟨hk,by rw [bitK_nat v (by omega) k (by omega),hb]⟩] at h1
        omega)
    exact key.symm
theorem half_s {m:Model} (c:modelOk m) {s:List Twist}:2*((csvL m).filter fun v=>evO m s v).length=(csvL m).length+if (csvL m).all (evO m s)=true then (csvL m).length else 0:=by
  have hl3:=c.1.1.2
  have hp:=pow_small hl3
  by_cases ht:(csvL m).all (evO m s)=true
  · rw [if_pos ht,List.filter_eq_self.2 (List.all_eq_true.1 ht)];omega
  · rw [if_neg ht]
    obtain ⟨u,hu,hn⟩:∃ u∈csvL m,evO m s u=false:=by
      apply Decidable.byContradiction
      intro hn
      refine ht (List.all_eq_true.2 fun u hu=>?_)
      cases q:evO m s u
      · exact absurd ⟨u,hu,q⟩ hn
      · rfl
    have hnd:(csvL m).Nodup:=List.nodup_range.filter _
    have key:=fibre hnd (m:=2) (by omega) (f:=fun v=>oddS s v m.ks.length % 2) (fun s _=>Nat.mod_lt _ (by omega)) (t:=fun v=>v ^^^ u) (fun v hv=>csv_xor c hv hu) (fun x _ y _ e=>by
        rw [← xor_can u x,← xor_can u y,Nat.xor_comm u x,e,Nat.xor_comm y u]) (fun v hv=>by
        have v8:=List.mem_range.1 (List.mem_filter.1 hv).1
        have u8:=List.mem_range.1 (List.mem_filter.1 hu).1
        have:=odd_xor s v u (by omega) (by omega) m.ks.length hl3
        have hn:oddS s u m.ks.length % 2≠0:=fun q=>by
          unfold evO at hn
          rw [q] at hn;cases hn
        omega)
    exact key.symm
theorem two_ways {m:Model} (c:modelOk m):(trvL m).length*(KT m m.ks.length).length=(KK m).length*(csvL m).length:=by
  have h:=sm_dbl (fun v s=>evO m s v) (KT m m.ks.length) (csvL m)
  have h:=congrArg (fun x=>2*x) h
  rw [← sm_two,← sm_two,sm_congr fun v hv=>half_v c hv,sm_congr (l:=KT m m.ks.length) fun s _=>half_s c,sm_add,sm_add,sm_const,sm_const,sm_ind,sm_ind] at h
  have e:((csvL m).filter fun v=>trB (dK m.ks) m.ks.length v)=(List.range (2 ^ m.ks.length)).filter fun v=>trB (dK m.ks) m.ks.length v && cB m v:=List.filter_filter
  have e2:((csvL m).filter fun v=>trB (dK m.ks) m.ks.length v)=trvL m:=by
    rw [e]
    refine List.filter_congr fun v hv=>?_
    cases q:trB (dK m.ks) m.ks.length v with
    | false=>rfl
    | true=>rw [(List.mem_filter.1 (trv_csv c (List.mem_filter.2 ⟨hv,q⟩))).2];rfl
  rw [e2,Nat.mul_comm (csvL m).length] at h
  unfold KK
  omega
theorem csc_eq {m:Model} (c:modelOk m):cscR m=((KK m).length:Int)∧(KK m).length ∣ stC m.ks∧1≤(KK m).length:=by
  have hl3:=c.1.1.2
  have hp:=pow_small hl3
  have hpos:0<(KK m).length:=List.length_pos_of_mem ((KK_mem c).2 (Ih.okS_solved c))
  have hR:cscR m=(dvN m.ks (consL m) (stC m.ks)).tdiv ((goodN m (2 ^ m.ks.length - 1):Int).tdiv (trvN m.ks (2 ^ m.ks.length - 1))):=if_pos c
  obtain ⟨f1,F,f2⟩:=KT_len c m.ks.length (Nat.le_refl _)
  have hdv:dvN m.ks (consL m) (stC m.ks)=((KT m m.ks.length).length:Int):=by
    rw [← f1]
    unfold consL allI dvN
    rw [List.filter_append,List.foldl_append]
    refine dvN_id m.ks _ _ fun i hi=>?_
    obtain ⟨n,hn,rfl⟩:=List.mem_map.1 (List.mem_filter.1 hi).1
    simp
  have eg:goodN m (2 ^ m.ks.length - 1)=(csvL m).length:=by rw [goodN_nat,show 2 ^ m.ks.length - 1+1=2 ^ m.ks.length by omega]
  have et:trvN m.ks (2 ^ m.ks.length - 1)=(trvL m).length:=by rw [trvN_nat m.ks hl3 _ (by omega),show 2 ^ m.ks.length - 1+1=2 ^ m.ks.length by omega]
  have h2:=two_ways c
  obtain ⟨q,hq⟩:=trv_dvd c
  have h0:0∈trvL m:=List.mem_filter.2 ⟨List.mem_range.2 (Nat.pow_pos (by omega)),by unfold trB;simp⟩
  have ht:=List.length_pos_of_mem h0
  have hg:=List.length_pos_of_mem (trv_csv c h0)
  rw [hdv,eg,et,tdivN,tdivN] at hR
  generalize (trvL m).length=t at *
  generalize (csvL m).length=g at *
  generalize (KK m).length=k at *
  generalize (KT m m.ks.length).length=N at *
  subst hq
  have hq0:0<q:=Nat.pos_of_mul_pos_left hg
  have hN:N=k*q:=by
    rw [show k*(t*q)=t*(k*q) by simp only [Nat.mul_left_comm]] at h2
    exact Nat.eq_of_mul_eq_mul_left ht h2
  rw [Nat.mul_div_cancel_left _ ht,hN,Nat.mul_div_cancel _ hq0] at hR
  exact ⟨hR,⟨F*q,by rw [f2,hN];simp only [Nat.mul_left_comm,Nat.mul_comm]⟩,hpos⟩
end Ct
end Go.AM
set_option maxRecDepth 8000
namespace Go.AM
open Go.Proofs
def MF:FuncId→List Bool:=fun f=>if f=4294967295 then [true] else MM f
def cmpP (m:Model):Puzz:=⟨facets m.ks,m.nm,m.mv.map (permOf m.ks)⟩
def cmpR (m:Model):Puzz:=if modelOk m then cmpP m else ⟨0,[],[]⟩
theorem cmpP_small {m:Model} (h:modelOk m):smallP (cmpP m):=by
  have h1:=facets_bound m.ks h.1.2.1
  have h2:=h.1.1.2
  have h3:=h.2.1.2
  have h4:=h.2.2.1
  refine ⟨by unfold intOk;simp only [cmpP];omega,by simp only [cmpP];omega,by simp only [cmpP,List.length_map];omega,fun s hs=>?_⟩
  obtain ⟨t,ht,rfl⟩:=List.mem_map.1 hs
  have:=permOf_le (h.2.2.2 t ht)
  omega
theorem cp_take (f:List Twist→List Int) (l:List (List Twist)) (k:Nat) (hk:k<l.length):(l.take (k+1)).map f=(l.take k).map f++[f (l.getD k default)]:=by
  rw [take_succ_eq l k default hk,List.map_append];rfl
theorem sCompile (m:Model) (h:smallM m):SpecAt Try.prog 35 [m.sl] (.tup [(cmpR m).tr,.bl (decide (modelOk m))]):=by
  have q0:=sIsValidPieceModel m h
  by_cases c:modelOk m
  case neg =>
    have hR:cmpR m=⟨0,[],[]⟩:=if_neg c
    rw [decide_eq_false c] at q0
    rw [decide_eq_false c,hR]
    refine spec_of_awp (M:=MM) (np:=1) (fz:=false) mixed Try.func35 rfl rfl (by decide) rfl (Nat.le_refl _) (by decide +kernel) (.inl rfl) (by first | trivial | simp only [sigsOk_nil,sigsOk_some,sigsOk_none,sig_tr,sig_pt,sig_mt,sig_agg,List.map_cons,List.map_nil,sig1_tr,sig1_pt,sig1_v,and_self,true_and,List.length_map,List.length_set]) ?_
    simp -dsimp -implicitDefEqProofs (disch:=first|omega|(simp only [lenr];try omega)) only [↓amPre,↓reduceIte,reduceCtorEq,Nat.reduceEqDiff,Nat.reduceBEq,Nat.reduceAdd,Nat.reduceLeDiff,Nat.reduceSub,Nat.reduceMul,Int.reduceToNat,MM,bu0,cbU49,MF]
    refine callP_of (q0) ?_
    simp -dsimp -implicitDefEqProofs (disch:=first|omega|(simp only [lenr];try omega)) only [↓amPre,↓reduceIte,reduceCtorEq,Nat.reduceEqDiff,Nat.reduceBEq,Nat.reduceAdd,Nat.reduceLeDiff,Nat.reduceSub,Nat.reduceMul,Int.reduceToNat,MM,bu0,cbU49,MF]
  have hR:cmpR m=cmpP m:=if_pos c
  have hl3:=c.1.1.2
  have hl8:=c.2.1.2
  have q1:=sFacelets m.ks c.1
  rw [decide_eq_true c] at q0
  rw [decide_eq_true c,hR]
  refine spec_of_awp (M:=MM) (np:=1) (fz:=false) mixed Try.func35 rfl rfl (by decide) rfl (Nat.le_refl _) (by decide +kernel) (.inl rfl) (by first | trivial | simp only [sigsOk_nil,sigsOk_some,sigsOk_none,sig_tr,sig_pt,sig_mt,sig_agg,List.map_cons,List.map_nil,sig1_tr,sig1_pt,sig1_v,and_self,true_and,List.length_map,List.length_set]) ?_
  simp -dsimp -implicitDefEqProofs (disch:=first|omega|(simp only [lenr];try omega)) only [↓amPre,↓reduceIte,reduceCtorEq,Nat.reduceEqDiff,Nat.reduceBEq,Nat.reduceAdd,Nat.reduceLeDiff,Nat.reduceSub,Nat.reduceMul,Int.reduceToNat,MM,bu0,cbU49,MF]
  refine callP_of (q0) ?_
  simp -dsimp -implicitDefEqProofs (disch:=first|omega|(simp only [lenr];try omega)) only [↓amPre,↓reduceIte,reduceCtorEq,Nat.reduceEqDiff,Nat.reduceBEq,Nat.reduceAdd,Nat.reduceLeDiff,Nat.reduceSub,Nat.reduceMul,Int.reduceToNat,MM,bu0,cbU49,MF]
  refine callP_of (q1) ?_
  simp -dsimp -implicitDefEqProofs (disch:=first|omega|(simp only [lenr];try omega)) only [↓amPre,↓reduceIte,reduceCtorEq,Nat.reduceEqDiff,Nat.reduceBEq,Nat.reduceAdd,Nat.reduceLeDiff,Nat.reduceSub,Nat.reduceMul,Int.reduceToNat,MM,bu0,cbU49,MF]
  refine awp_loopC 4 2 3 1 [.i64 (facets m.ks),.st m.nm,.nilsl] (by simp -dsimp -implicitDefEqProofs (disch:=first|omega|(simp only [lenr];try omega)) only [↓amPre,↓reduceIte,reduceCtorEq,Nat.reduceEqDiff,Nat.reduceBEq,Nat.reduceAdd,Nat.reduceLeDiff,Nat.reduceSub,Nat.reduceMul,Int.reduceToNat,MM,bu0,cbU49,MF]) (by simp) (by simp) (fun k st=>k≤m.mv.length∧st.fr 5=.i64 k∧st.fr 1=.loc 1 [] 0 0∧st.fr 4=.loc 4 [] 0 0∧st.fr 2=.loc 2 [] 0 0∧st.mem 1=some (.pt 3 (.agg [ksl m.ks,.st m.nm,tssl m.mv]))∧st.mem 4=some (.pt 3 (.agg [.i64 (facets m.ks),.st m.nm,sst ((m.mv.take k).map (permOf m.ks))]))∧st.mem 2=some (.pt 3 (.agg [.i64 0,.st [],.nilsl]))) (m.mv.length) ?_ ?_
  · simp -dsimp -implicitDefEqProofs (disch:=first|omega|(simp only [lenr];try omega)) only [↓amPre,↓reduceIte,reduceCtorEq,Nat.reduceEqDiff,Nat.reduceBEq,Nat.reduceAdd,Nat.reduceLeDiff,Nat.reduceSub,Nat.reduceMul,Int.reduceToNat,MM,bu0,cbU49,MF,nilC_eq]
    simp
  rintro k st _ ⟨hk,f5,f1,f4,f2,m1,m4,m2⟩
  by_cases hlt:k<m.mv.length
  · have ps:=c.2.2.2 _ (mem_getD m.mv k default hlt)
    have hts:=cp_take (permOf m.ks) m.mv k hlt
    have hle:((m.mv.take k).map (permOf m.ks)).length=k:=by simp;omega
    have hle1:(m.mv.take (k+1)).length=k+1:=by simp;omega
    have h8:=c.2.2.1
    have q2:=sl21Permutation m.ks (m.mv.getD k default) ps
    generalize (m.mv.take k).map (permOf m.ks)=L at *
    simp -dsimp -implicitDefEqProofs (disch:=first|omega|(simp only [lenr];try omega)) only [↓amPre,↓reduceIte,reduceCtorEq,Nat.reduceEqDiff,Nat.reduceBEq,Nat.reduceAdd,Nat.reduceLeDiff,Nat.reduceSub,Nat.reduceMul,Int.reduceToNat,MM,bu0,cbU49,MF,f5,f1,f4,f2,m1,m4,m2]
    refine callP_of (q2) ?_
    simp -dsimp -implicitDefEqProofs (disch:=first|omega|(simp only [lenr];try omega)) only [↓amPre,↓reduceIte,reduceCtorEq,Nat.reduceEqDiff,Nat.reduceBEq,Nat.reduceAdd,Nat.reduceLeDiff,Nat.reduceSub,Nat.reduceMul,Int.reduceToNat,MM,bu0,cbU49,MF,f5,f1,f4,f2,m1,m4,m2,← hts,hle,hle1]
    repeat' (first|omega|rfl|exact i64c (by omega)|exact vic (by omega)|apply ai)
  · have hke:k=m.mv.length:=by omega
    subst hke
    rw [List.take_length] at m4
    simp -dsimp -implicitDefEqProofs (disch:=first|omega|(simp only [lenr];try omega)) only [↓amPre,↓reduceIte,reduceCtorEq,Nat.reduceEqDiff,Nat.reduceBEq,Nat.reduceAdd,Nat.reduceLeDiff,Nat.reduceSub,Nat.reduceMul,Int.reduceToNat,MM,bu0,cbU49,MF,f5,f1,f4,f2,m1,m4,m2,cmpP]
end Go.AM
set_option maxRecDepth 8000
namespace Go.AM
namespace Ct
open Ih (okS okS_solved okS_move okS_vio)
open Ch (PN pt idL Gen ordL elsL comp_assoc comp_inv id_comp)
open Sc (psS bld_iff FG)
open St (chP)
theorem cmp_puzz {m:Model} (c:modelOk m):puzzOk (cmpP m):=by
  have h1:=facets_bound m.ks c.1.2.1
  have h2:=c.1.1
  have h3:=c.2.1.2
  have h4:=c.2.2.1
  refine ⟨⟨⟨by simp only [cmpP];omega,c.1.2.2⟩,by simp only [cmpP,List.length_map];omega,fun s hs=>?_⟩,c.2.1,by simp only [cmpP,List.length_map];exact h4⟩
  obtain ⟨t,ht,rfl⟩:=List.mem_map.1 hs
  have pt:=c.2.2.2 t ht
  refine ⟨?_,permOf_perm pt⟩
  have:=permL_len m.ks t c.1.2.1 m.ks.length (Nat.le_refl _)
  rw [List.take_length] at this
  exact this
theorem cmp_n {m:Model} (c:modelOk m):(cmpP m).n.toNat=bas m.ks m.ks.length:=by
  rw [bas,List.take_length];rfl
theorem pn_of {m:Model} (c:modelOk m) {t:List Twist} (ps:psOk m.ks t):PN (cmpP m).n.toNat (permOf m.ks t):=⟨by rw [permOf_length ps,cmp_n c],permOf_perm ps⟩
theorem gen_ok {m:Model} (c:modelOk m) {g:List Int} (h:Gen (cmpP m).n.toNat (cmpP m).mv g):∃ t,okS m t∧permOf m.ks t=g:=by
  induction h with
  | one=>exact ⟨_,okS_solved c,by rw [permOf_solved c.1,cmp_n c]⟩
  | mul hg hs ih =>
    obtain ⟨t,h1,rfl⟩:=ih
    obtain ⟨s,hs2,rfl⟩:=List.mem_map.1 hs
    exact ⟨_,okS_move c h1 hs2,perm_comp h1.1 (c.2.2.2 s hs2)⟩
theorem okS_comp {m:Model} {s t:List Twist} (hs:okS m s) (ht:okS m t):okS m (compS m.ks s t):=⟨comp_ok hs.1 ht.1,fun i hi=>Ih.inv_comp hs.1 ht.1 (hs.2 i hi) (ht.2 i hi)⟩
theorem order_dvd {m:Model} (c:modelOk m):ordL (chP (cmpP m).n.toNat (cmpP m).mv) ∣ (KK m).length∧1≤ordL (chP (cmpP m).n.toNat (cmpP m).mv)∧ordL (chP (cmpP m).n.toNat (cmpP m).mv)≤2432902008176640000:=by
  have hz:=cmp_puzz c
  have h1:1≤(cmpP m).n.toNat:=by have:=hz.1.1;omega
  have h2:(cmpP m).n.toNat≤20:=by have:=hz.1.1;omega
  have hm:∀ s∈(cmpP m).mv,PN (cmpP m).n.toNat s:=fun s h=>by
    obtain ⟨t,ht,rfl⟩:=List.mem_map.1 h
    exact pn_of c (c.2.2.2 t ht)
  obtain ⟨_,e1,e2,e3,e4,e5⟩:=bld_iff h1 h2 hm (Nat.le_refl (FG (cmpP m).n.toNat 0))
  refine ⟨?_,e4,e5⟩
  have hpn:∀ x∈(KK m).map (permOf m.ks),∃ s,okS m s∧permOf m.ks s=x∧PN (cmpP m).n.toNat x:=fun x hx=>by
    obtain ⟨s,hs,rfl⟩:=List.mem_map.1 hx
    have hs:=(KK_mem c).1 hs
    exact ⟨s,hs,rfl,pn_of c hs.1⟩
  have hgp:∀ g∈elsL (cmpP m).n.toNat (chP (cmpP m).n.toNat (cmpP m).mv),Gen (cmpP m).n.toNat (cmpP m).mv g∧PN (cmpP m).n.toNat g:=fun g hg=>by
    have:=(e3 g).1 hg
    exact ⟨this,this.pn h1 h2 hm⟩
  have key:=lagr compI e1 (by rw [e2];omega) _ ((KK m).map (permOf m.ks)) (Nat.le_refl _) (List.pairwise_map.2 ((KK_nd m).imp_of_mem fun ha hb hne e=>hne (permOf_inj ((KK_mem c).1 ha).1 ((KK_mem c).1 hb).1 e)))
    (fun x hx g hg=>by
      obtain ⟨s,hs,rfl,_⟩:=hpn x hx
      obtain ⟨t,ht,rfl⟩:=gen_ok c (hgp g hg).1
      exact List.mem_map.2 ⟨_,(KK_mem c).2 (okS_comp hs ht),perm_comp hs.1 ht.1⟩)
    (fun x hx g hg h hh e=>by
      obtain ⟨s,hs,rfl,hx⟩:=hpn x hx
      have hg:=(hgp g hg).2
      have hh:=(hgp h hh).2
      have e:=congrArg (compI (invI (permOf m.ks s))) e
      rw [← comp_assoc hx.inv hx hg,← comp_assoc hx.inv hx hh,Ch.inv_comp hx,id_comp hg,id_comp hh] at e
      exact e)
    (fun x hx=>by
      obtain ⟨s,hs,rfl,hx⟩:=hpn x hx
      exact List.mem_map.2 ⟨idL _,(e3 _).2 .one,Ch.comp_id hx⟩)
    (fun x hx y hy g hg h hh e=>by
      obtain ⟨s,hs,rfl,hx⟩:=hpn x hx
      obtain ⟨t,ht,rfl,hy⟩:=hpn y hy
      obtain ⟨g1,g2⟩:=hgp g hg
      obtain ⟨h3,h4⟩:=hgp h hh
      refine List.mem_map.2 ⟨compI h (invI g),(e3 _).2 (Gen.comp h1 h2 hm h3 (g1.inv h1 h2 hm)),?_⟩
      rw [← comp_assoc hx h4 g2.inv,← e,comp_assoc hy g2 g2.inv,comp_inv g2,Ch.comp_id hy])
  rw [e2,List.length_map] at key
  exact key
theorem bad_reach {m:Model} (c:modelOk m) {s:List Twist} (ps:psOk m.ks s) {i:Invar} (h:vioO m s=some i):psS (chP (cmpP m).n.toNat (cmpP m).mv) 0 (permOf m.ks s)=false:=by
  have hz:=cmp_puzz c
  have h1:1≤(cmpP m).n.toNat:=by have:=hz.1.1;omega
  have h2:(cmpP m).n.toNat≤20:=by have:=hz.1.1;omega
  have hm:∀ s∈(cmpP m).mv,PN (cmpP m).n.toNat s:=fun s h=>by
    obtain ⟨t,ht,rfl⟩:=List.mem_map.1 h
    exact pn_of c (c.2.2.2 t ht)
  have hi:=(bld_iff h1 h2 hm (Nat.le_refl (FG (cmpP m).n.toNat 0))).1 _ (pn_of c ps)
  cases q:psS (chP (cmpP m).n.toNat (cmpP m).mv) 0 (permOf m.ks s) with
  | false=>rfl
  | true =>
    obtain ⟨t,ht,e⟩:=gen_ok c (hi.1 q)
    rw [← permOf_inj ht.1 ps e,okS_vio ht] at h
    cases h
theorem vio_pos {m:Model} (c:modelOk m) {s:List Twist} (ps:psOk m.ks s) {i:Invar} (h:vioO m s=some i):0<invV m.ks s i∧i∈consR m:=by
  unfold vioO at h
  rw [if_pos ps] at h
  have h3:=List.mem_of_find?_eq_some h
  have h4:=List.find?_some h
  refine ⟨?_,h3⟩
  have hne:invV m.ks s i≠0:=by simpa using h4
  have hl3:=c.1.1.2
  have hp:=pow_small hl3
  rcases List.mem_append.1 (Ih.cons_mem h3).2.1 with q | q
  · obtain ⟨n,hn,rfl⟩:=List.mem_map.1 q
    have hn:=List.mem_range.1 hn
    rw [inv_tw ps hn] at hne ⊢
    have:=twS_rng (tw_get ps hn) (c.1.2.1 _ (mem_getD m.ks n default hn))
    omega
  · obtain ⟨n,hn,rfl⟩:=List.mem_map.1 q
    have hn:=List.mem_range.1 hn
    rw [inv_par ps (by omega) (by omega)] at hne ⊢
    omega
end Ct
end Go.AM
set_option maxRecDepth 8000
namespace Go.AM
namespace Draws
open Go.Proofs
noncomputable def byK (s:Src) (o:Int):Nat→Src×List Int
  | 0=>(s,[])
  | k+1=>(bS (byK s o k).1 o,(byK s o k).2++[bX (byK s o k).1 o])
theorem byK_ok (s:Src) (o:Int) (h:s.ok) (ho:intOk o):∀ k,(byK s o k).1.ok∧(byK s o k).2.length=k
  | 0=>⟨h,rfl⟩
  | k+1=>by
    have ih:=byK_ok s o h ho k
    exact ⟨(belowF _ o ih.1 ho).2.1,by simp only [byK,List.length_append,List.length_singleton,ih.2]⟩
noncomputable def dsK (s:Src) (ks:List Kind):Nat→Src×List Twist
  | 0=>(s,[])
  | k+1=>((byK (ordK (dsK s ks k).1 (ks.getD k default).c.toNat).1 (ks.getD k default).o (ks.getD k default).c.toNat).1,(dsK s ks k).2++[⟨(ordK (dsK s ks k).1 (ks.getD k default).c.toNat).2,(byK (ordK (dsK s ks k).1 (ks.getD k default).c.toNat).1 (ks.getD k default).o (ks.getD k default).c.toNat).2⟩])
theorem dsK_ok (s:Src) (ks:List Kind) (h:s.ok) (hk:kindsOk ks):∀ k,k≤ks.length→(dsK s ks k).1.ok∧(dsK s ks k).2.length=k
  | 0,_=>⟨h,rfl⟩
  | k+1,hlt=>by
    have ih:=dsK_ok s ks h hk k (by omega)
    obtain ⟨c1,c2,o1,o2,_⟩:=kindsOk_kind hk (mem_getD ks k default (by omega))
    have h1:=ordK_ok (dsK s ks k).1 ih.1 (ks.getD k default).c.toNat (by omega)
    exact ⟨(byK_ok _ _ h1.1 (by unfold intOk;omega) _).1,by simp only [dsK,List.length_append,List.length_singleton,ih.2]⟩
theorem drawState (s:Src) (ks:List Kind) (h:s.ok) (hkk:kindsOk ks):SpecX Try.prog 162 [s.pt,ktr ks] [some (dsK s ks ks.length).1.pt,some (ktr ks)] (ttr (dsK s ks ks.length).2):=by
  have hl3:=hkk.1.2
  refine spec_of_awp_any (M:=MM) (np:=2) (X:=[9]) (fz:=false) mixed Try.func162 rfl rfl (by decide) rfl (Nat.le_refl _) (by decide +kernel) (.inl rfl) (by simp only [sigsOk_some,sigsOk_nil,and_true];rfl) ?_
  simp -dsimp -implicitDefEqProofs (disch:=first|omega|(simp only [lenr];try omega)) only [↓amPre,↓reduceIte,reduceCtorEq,Nat.reduceEqDiff,Nat.reduceBEq,Nat.reduceAdd,Nat.reduceLeDiff,Nat.reduceSub,Nat.reduceMul,Int.reduceToNat,MM,bu0,cbP2]
  refine awp_loopR 9 48 (.tr 2 []) (by simp -dsimp -implicitDefEqProofs (disch:=first|omega|(simp only [lenr];try omega)) only [↓amPre,↓reduceIte,reduceCtorEq,Nat.reduceEqDiff,Nat.reduceBEq,Nat.reduceAdd,Nat.reduceLeDiff,Nat.reduceSub,Nat.reduceMul,Int.reduceToNat,MM,bu0,cbP2]) (by decide) (by decide) (by decide) (fun k st=>k≤ks.length∧st.fr 6=.i64 k∧st.fr 1=.ref 1 [] 2 0 ks.length∧st.fr 5=.ref 48 [] 2 0 k∧st.fr 0=.loc 0 [] 0 0∧st.mem 48=some (ttr (dsK s ks k).2)∧st.mem 0=some ((dsK s ks k).1.pt)∧st.mem 1=some (ktr ks)) (ks.length) ?_ ?_
  · simp -dsimp -implicitDefEqProofs (disch:=first|omega|(simp only [lenr];try omega)) only [↓amPre,↓reduceIte,reduceCtorEq,Nat.reduceEqDiff,Nat.reduceBEq,Nat.reduceAdd,Nat.reduceLeDiff,Nat.reduceSub,Nat.reduceMul,Int.reduceToNat,MM,bu0,cbP2,ren_eq]
    simp [dsK]
  rintro k st _ ⟨hk,f6,f1,f5,f0,m48,m0,m1⟩
  have ho:=dsK_ok s ks h hkk k (by omega)
  have hds:dsK s ks (k+1)=_:=rfl
  conv at hds=>rhs;rw [dsK]
  by_cases hlt:k<ks.length
  · obtain ⟨c1,c2,o1,o2,_⟩:=kindsOk_kind hkk (mem_getD ks k default hlt)
    obtain ⟨c,hc⟩:∃ c:Nat,(ks.getD k default).c=c:=⟨(ks.getD k default).c.toNat,by omega⟩
    rw [hc,Int.toNat_natCast] at hds
    have hor:=ordK_ok (dsK s ks k).1 ho.1 c (by omega)
    have hdo:=drawOrder (dsK s ks k).1 c ho.1 (by omega)
    have hby:=byK_ok (ordK (dsK s ks k).1 c).1 (ks.getD k default).o hor.1 (by unfold intOk;omega)
    generalize hT:(dsK s ks k).2=T at hds ho m48
    generalize hS:(dsK s ks k).1=S at hds ho m0 hdo hor hby
    generalize hS1:(ordK S c).1=S1 at hds hdo hor hby
    generalize hL:(ordK S c).2=L at hds hdo hor
    simp -dsimp -implicitDefEqProofs (disch:=first|omega|(simp only [lenr];try omega)) only [↓amPre,↓reduceIte,reduceCtorEq,Nat.reduceEqDiff,Nat.reduceBEq,Nat.reduceAdd,Nat.reduceLeDiff,Nat.reduceSub,Nat.reduceMul,Int.reduceToNat,MM,bu0,cbP2,f6,f1,f5,f0,m48,m0,m1,hc,ho.2]
    refine callX_of (hdo) ?_
    simp -dsimp -implicitDefEqProofs (disch:=first|omega|(simp only [lenr];try omega)) only [↓amPre,↓reduceIte,reduceCtorEq,Nat.reduceEqDiff,Nat.reduceBEq,Nat.reduceAdd,Nat.reduceLeDiff,Nat.reduceSub,Nat.reduceMul,Int.reduceToNat,MM,bu0,cbP2,f6,f1,f5,f0,m48,m0,m1,hc,ho.2]
    refine awp_loopC 7 1 2 1 [itr L,.nilsl] (by simp -dsimp -implicitDefEqProofs (disch:=first|omega|(simp only [lenr];try omega)) only [↓amPre,↓reduceIte,reduceCtorEq,Nat.reduceEqDiff,Nat.reduceBEq,Nat.reduceAdd,Nat.reduceLeDiff,Nat.reduceSub,Nat.reduceMul,Int.reduceToNat,MM,bu0,cbP2,f6,f1,f5,f0,m48,m0,m1]) (by simp) (by simp) (fun i st=>i≤c∧st.fr 8=.i64 i∧st.fr 7=.loc 7 [] 0 0∧st.fr 6=.i64 k∧st.fr 1=.ref 1 [] 2 0 ks.length∧st.fr 5=.ref 48 [] 2 0 k∧st.fr 0=.loc 0 [] 0 0∧st.mem 48=some (ttr T)∧st.mem 7=some (.pt 2 (.agg [itr L,itr (byK S1 (ks.getD k default).o i).2]))∧st.mem 0=some ((byK S1 (ks.getD k default).o i).1.pt)∧st.mem 1=some (ktr ks)) (c) ?_ ?_
    · simp -dsimp -implicitDefEqProofs (disch:=first|omega|(simp only [lenr];try omega)) only [↓amPre,↓reduceIte,reduceCtorEq,Nat.reduceEqDiff,Nat.reduceBEq,Nat.reduceAdd,Nat.reduceLeDiff,Nat.reduceSub,Nat.reduceMul,Int.reduceToNat,MM,bu0,cbP2,nilC_eq,f6,f1,f5,f0,m48,m0,m1]
      simp [byK]
    rintro i st _ ⟨hi,f8,f7,f6,f1,f5,f0,m48,m7,m0,m1⟩
    have hbi:=hby i
    have hb1:byK S1 (ks.getD k default).o (i+1)=_:=rfl
    conv at hb1=>rhs;rw [byK]
    by_cases hlt':i<c
    · have hbf:=belowF (byK S1 (ks.getD k default).o i).1 (ks.getD k default).o hbi.1 (by unfold intOk;omega)
      generalize bS (byK S1 (ks.getD k default).o i).1 (ks.getD k default).o=S2 at hb1 hbf
      generalize bX (byK S1 (ks.getD k default).o i).1 (ks.getD k default).o=x at hb1 hbf
      have hlen:(byK S1 (ks.getD k default).o i).2.length≤1099511627775:=by omega
      simp -dsimp -implicitDefEqProofs (disch:=first|omega|(simp only [lenr];try omega)) only [↓amPre,↓reduceIte,reduceCtorEq,Nat.reduceEqDiff,Nat.reduceBEq,Nat.reduceAdd,Nat.reduceLeDiff,Nat.reduceSub,Nat.reduceMul,Int.reduceToNat,MM,bu0,cbP2,f8,f7,f6,f1,f5,f0,m48,m7,m0,m1,hc,hbi.2]
      refine piv_go 10 8 0 (by decide +kernel) ?_
      simp -dsimp -implicitDefEqProofs (disch:=first|omega|(simp only [lenr];try omega)) only [↓amPre,↓reduceIte,reduceCtorEq,Nat.reduceEqDiff,Nat.reduceBEq,Nat.reduceAdd,Nat.reduceLeDiff,Nat.reduceSub,Nat.reduceMul,Int.reduceToNat,MM,bu0,cbP2,f8,f7,f6,f1,f5,f0,m48,m7,m0,m1,hc,hbi.2]
      refine pvX_of (hbf.1) ?_
      simp -dsimp -implicitDefEqProofs (disch:=first|omega|(simp only [lenr];try omega)) only [↓amPre,↓reduceIte,reduceCtorEq,Nat.reduceEqDiff,Nat.reduceBEq,Nat.reduceAdd,Nat.reduceLeDiff,Nat.reduceSub,Nat.reduceMul,Int.reduceToNat,MM,bu0,cbP2,f8,f7,f6,f1,f5,f0,m48,m7,m0,m1,hc,hbi.2,hb1]
      repeat' (first|omega|rfl|exact i64c (by omega)|exact vic (by omega)|apply ai)
    · have hie:i=c:=by omega
      subst hie
      simp -dsimp -implicitDefEqProofs (disch:=first|omega|(simp only [lenr];try omega)) only [↓amPre,↓reduceIte,reduceCtorEq,Nat.reduceEqDiff,Nat.reduceBEq,Nat.reduceAdd,Nat.reduceLeDiff,Nat.reduceSub,Nat.reduceMul,Int.reduceToNat,MM,bu0,cbP2,f8,f7,f6,f1,f5,f0,m48,m7,m0,m1,hc,ho.2,hds]
      repeat' (first|omega|rfl|exact i64c (by omega)|exact vic (by omega)|apply ai)
  · have hke:k=ks.length:=by omega
    subst hke
    simp -dsimp -implicitDefEqProofs (disch:=first|omega|(simp only [lenr];try omega)) only [↓amPre,↓reduceIte,reduceCtorEq,Nat.reduceEqDiff,Nat.reduceBEq,Nat.reduceAdd,Nat.reduceLeDiff,Nat.reduceSub,Nat.reduceMul,Int.reduceToNat,MM,bu0,cbP2,f6,f1,f5,f0,m48,m0,m1,ho.2]
end Draws
end Go.AM
set_option maxRecDepth 8000
namespace Go.AM
namespace Draws
open Go.Proofs
theorem getD_snoc {α:Type} (l:List α) (x:α) (i:Nat) (d:α):(l++[x]).getD i d=if i<l.length then l.getD i d else if i=l.length then x else d:=by
  simp only [List.getD,List.getElem?_append]
  by_cases h:i<l.length
  · simp [h]
  · by_cases h2:i=l.length
    · subst h2;simp
    · have h3:i - l.length≠0:=by omega
      simp [h,h2]
      rw [List.getElem?_eq_none (by simp;omega)];rfl
theorem dsK_get (s:Src) (ks:List Kind) (h:s.ok) (hk:kindsOk ks):∀ k,k≤ks.length→∀ i,i<k→((dsK s ks k).2.getD i default).to.length=(ks.getD i default).c.toNat∧((dsK s ks k).2.getD i default).by'.length=(ks.getD i default).c.toNat
  | 0,_,i,hi=>by omega
  | k+1,hlt,i,hi=>by
    have ih:=dsK_ok s ks h hk k (by omega)
    rw [dsK]
    simp only
    rw [getD_snoc,ih.2]
    obtain ⟨c1,c2,o1,o2,_⟩:=kindsOk_kind hk (mem_getD ks k default (by omega))
    by_cases h1:i<k
    · rw [if_pos h1];exact dsK_get s ks h hk k (by omega) i h1
    · have h2:i=k:=by omega
      subst h2
      rw [if_neg (by omega),if_pos rfl]
      have h3:=ordK_ok (dsK s ks i).1 ih.1 (ks.getD i default).c.toNat (by omega)
      exact ⟨h3.2,(byK_ok _ _ h3.1 (by unfold intOk;omega) _).2⟩
theorem list_cons {α:Type}:∀ (l:List α),1≤l.length→∃ a r,l=a :: r
  | a :: r,_=>⟨a,r,rfl⟩
end Draws
end Go.AM
