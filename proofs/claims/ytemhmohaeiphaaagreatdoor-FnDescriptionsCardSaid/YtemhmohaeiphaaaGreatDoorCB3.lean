/-
 CONTRACTS of functions of the program,and what they compute,by content.
-/
import Derived.Test.YtemhmohaeiphaaaGreatDoorCB2
import Derived.Test.YtemhmohaeiphaaaGreatDoorCB0
import Derived.Lib.SplitLaws
import Derived.RangeFuncRecord
import Derived.Test.YtemhmohaeiphaaaGreatDoorCB1
import Derived.Test.YtemhmohaeiphaaaGreatDoorM2Facts
import Derived.Shelf.SlIter.Collect
import Derived.Shelf.Small.Strs
import Derived.RangeFuncBox
import Derived.RangeFuncBound
import Derived.RangeFuncLeaves
import Derived.Shelf.Abstract
import Derived.Shelf.RegionOpen
import Derived.OwnWalkIn
import Derived.TacticsInMore
import Derived.LoopNIn
import Derived.LoopIn
import Derived.Maps.AppendAt
open Nat (reduceEqDiff reduceAdd reduceLeDiff reduceSub reduceMul)
open Int (reduceToNat)
set_option linter.unusedVariables false
set_option linter.defProp false
set_option linter.unusedSimpArgs false
set_option maxRecDepth 8000
namespace Go.AM
namespace Ps
open Go.Proofs
def lnP (l:Ln):AV:=.st l.1
theorem lpgm (L:List Ln) (i:Nat) (h:i<L.length):(L.map lnP).getD i .any=.st (lat L i).1:=by
 simp [List.getD,h,lat];rfl
theorem lpfz (L:List Ln):(L.map lnP).map AV.fz=L.map lnP:=map_fz _ _ _ fun _=>fz_v _
theorem lpfzL (L:List Ln):AV.fzL (L.map lnP)=L.map lnP:=by rw [fzL_map,lpfz]
theorem stfzL (xs:List Tx):AV.fzL (xs.map AV.st)=xs.map AV.st:=by rw [fzL_map,stfz]
theorem kfzL (ks:List Kind):AV.fzL (ks.map Kind.av)=ks.map Kind.av:=by rw [fzL_map,kfz]
def iI (w:Tx):Int×Bool:=((pI w).1,(pI w).2 && decide ((pI w).1<1000))
theorem iI_num (w:Tx):num w=if (iI w).2=true then some (iI w).1 else none:=by
 unfold num iI pI
 by_cases c:isNum w
 ·rw [if_pos c]
  by_cases c2:valW w<1000
  ·rw [if_pos ⟨c,c2⟩,if_pos (by simp;omega)]
  ·rw [if_neg (fun q=>c2 q.2),if_neg (by simp;omega)]
 ·rw [if_neg c,if_neg (fun q=>c q.1),if_neg (by simp)]
theorem intS (w:Tx) (hw:w.length≤1048576):SpecAt Tryz.prog 116 [.st w] (.tup [.i64 (iI w).1,.bl (iI w).2]):=by
 have hp:=parseIntS w hw
 unfold iI
 cases hb:(pI w).2 with
 | true =>
  rw [hb] at hp
  refine spec_of_awp (M:=MM) (np:=1) (fz:=true) mixed Tryz.func116 rfl rfl (by decide) rfl (Nat.le_refl _) (by decide +kernel) (.inr ⟨rfl,rfl⟩) trivial ?_
  simp -dsimp -implicitDefEqProofs (disch:=first|omega|(simp only [lenr];try omega)) only [↓amPre,↓reduceIte,reduceCtorEq,reduceEqDiff,Nat.reduceBEq,reduceAdd,reduceLeDiff,reduceSub,reduceMul,reduceToNat,MM,bu0,cbJ7,Ps.lpgm,Ps.lpfz,Ps.lpfzL,Ps.stfzL,Ps.kfzL]
  refine callP_of (hp) ?_
  simp -dsimp -implicitDefEqProofs (disch:=first|omega|(simp only [lenr];try omega)) only [↓amPre,↓reduceIte,reduceCtorEq,reduceEqDiff,Nat.reduceBEq,reduceAdd,reduceLeDiff,reduceSub,reduceMul,reduceToNat,MM,bu0,cbJ7,Ps.lpgm,Ps.lpfz,Ps.lpfzL,Ps.stfzL,Ps.kfzL]
 | false =>
  rw [hb] at hp
  refine spec_of_awp (M:=MM) (np:=1) (fz:=true) mixed Tryz.func116 rfl rfl (by decide) rfl (Nat.le_refl _) (by decide +kernel) (.inr ⟨rfl,rfl⟩) trivial ?_
  simp -dsimp -implicitDefEqProofs (disch:=first|omega|(simp only [lenr];try omega)) only [↓amPre,↓reduceIte,reduceCtorEq,reduceEqDiff,Nat.reduceBEq,reduceAdd,reduceLeDiff,reduceSub,reduceMul,reduceToNat,MM,bu0,cbJ7,Ps.lpgm,Ps.lpfz,Ps.lpfzL,Ps.stfzL,Ps.kfzL]
  refine callP_of (hp) ?_
  simp -dsimp -implicitDefEqProofs (disch:=first|omega|(simp only [lenr];try omega)) only [↓amPre,↓reduceIte,reduceCtorEq,reduceEqDiff,Nat.reduceBEq,reduceAdd,reduceLeDiff,reduceSub,reduceMul,reduceToNat,MM,bu0,cbJ7,Ps.lpgm,Ps.lpfz,Ps.lpfzL,Ps.stfzL,Ps.kfzL]
theorem letterS (w:Tx):SpecAt Tryz.prog 55 [.st w] (.bl (decide (isLet w))):=by
 obtain ⟨x,hx⟩:∃ x,x=w.getD 0 0:=⟨_,rfl⟩
 by_cases c1:w.length=1
 ·have hpos:0<w.length:=by omega
  by_cases c2:65≤x.toNat
  ·refine spec_of_awp (M:=MM) (np:=1) (fz:=true) mixed Tryz.func55 rfl rfl (by decide) rfl (Nat.le_refl _) (by decide +kernel) (.inr ⟨rfl,rfl⟩) trivial ?_
   simp -dsimp -implicitDefEqProofs (disch:=first|omega|(simp only [lenr];try omega)) only [↓amPre,↓reduceIte,reduceCtorEq,reduceEqDiff,Nat.reduceBEq,reduceAdd,reduceLeDiff,reduceSub,reduceMul,reduceToNat,MM,bu0,cbJ7,Ps.lpgm,Ps.lpfz,Ps.lpfzL,Ps.stfzL,Ps.kfzL,eq_true (show ((w.length:Nat):Int)=1 by omega),← hx,le_true (show (65:Int)≤((x.toNat:Nat):Int) by omega)]
   refine bl_eq ?_
   simp only [decide_eq_true_eq]
   unfold isLet
   rw [← hx];omega
  ·refine spec_of_awp (M:=MM) (np:=1) (fz:=true) mixed Tryz.func55 rfl rfl (by decide) rfl (Nat.le_refl _) (by decide +kernel) (.inr ⟨rfl,rfl⟩) trivial ?_
   simp -dsimp -implicitDefEqProofs (disch:=first|omega|(simp only [lenr];try omega)) only [↓amPre,↓reduceIte,reduceCtorEq,reduceEqDiff,Nat.reduceBEq,reduceAdd,reduceLeDiff,reduceSub,reduceMul,reduceToNat,MM,bu0,cbJ7,Ps.lpgm,Ps.lpfz,Ps.lpfzL,Ps.stfzL,Ps.kfzL,eq_true (show ((w.length:Nat):Int)=1 by omega),← hx,le_false (show ((x.toNat:Nat):Int)<(65:Int) by omega)]
   refine bl_eq ?_
   simp only [Bool.false_eq_true,decide_eq_true_eq,false_iff]
   unfold isLet
   rw [← hx];omega
 ·refine spec_of_awp (M:=MM) (np:=1) (fz:=true) mixed Tryz.func55 rfl rfl (by decide) rfl (Nat.le_refl _) (by decide +kernel) (.inr ⟨rfl,rfl⟩) trivial ?_
  simp -dsimp -implicitDefEqProofs (disch:=first|omega|(simp only [lenr];try omega)) only [↓amPre,↓reduceIte,reduceCtorEq,reduceEqDiff,Nat.reduceBEq,reduceAdd,reduceLeDiff,reduceSub,reduceMul,reduceToNat,MM,bu0,cbJ7,Ps.lpgm,Ps.lpfz,Ps.lpfzL,Ps.stfzL,Ps.kfzL,eq_false (show ((w.length:Nat):Int)≠1 by omega)]
  refine bl_eq ?_
  simp only [Bool.false_eq_true,decide_eq_true_eq,false_iff]
  exact fun q=>c1 q.1
def endN (L:List Ln):Nat:=if endd L then L.length else L.length - 1
theorem linesS (s:Tx) (hs:s.length≤1048576):SpecAt Tryz.prog 52 [.st s] (.tup [.tr 1 ((lnsOf s).map lnP),.i64 (endN (lnsOf s))]):=by
 by_cases c0:s=[]
 ·subst c0
  refine spec_of_awp (M:=MM) (np:=1) (fz:=false) mixed Tryz.func52 rfl rfl (by decide) rfl (Nat.le_refl _) (by decide +kernel) (.inl rfl) (by first | trivial | simp only [sigsOk_nil,sigsOk_some,sigsOk_none,sig_tr,sig_pt,sig_mt,sig_agg,List.map_cons,List.map_nil,sig1_tr,sig1_pt,sig1_v,and_self,true_and,List.length_map,List.length_set]) ?_
  simp -dsimp -implicitDefEqProofs (disch:=first|omega|(simp only [lenr];try omega)) only [↓amPre,↓reduceIte,reduceCtorEq,reduceEqDiff,Nat.reduceBEq,reduceAdd,reduceLeDiff,reduceSub,reduceMul,reduceToNat,MM,bu0,cbJ7,Ps.lpgm,Ps.lpfz,Ps.lpfzL,Ps.stfzL,Ps.kfzL,txeq (rfl:([]:Tx)=[])]
  exact ⟨rfl,rfl⟩
 have hsp:=splitTextS s 10 hs
 have hl:=spl_lns s
 have hne:lnsOf s≠[]:=fun q=>c0 (lns_nil.1 q)
 have hpos:0<(lnsOf s).length:=List.length_pos_iff.2 hne
 have hll:=lns_len s
 by_cases ce:endd (lnsOf s)=true
 ·rw [if_pos ce] at hl
  have hlen:(spl 10 s).length=(lnsOf s).length+1:=by rw [hl];simp
  have hlast:(spl 10 s).getD (lnsOf s).length []=[]:=by rw [hl,List.getD_eq_getElem?_getD,List.getElem?_append_right (by simp)];simp
  have hE:endN (lnsOf s)=(lnsOf s).length:=if_pos ce
  have htk:((spl 10 s).map AV.st).take (lnsOf s).length=(lnsOf s).map lnP:=by
   rw [hl,List.map_append,List.take_append_of_le_length (by simp),List.take_of_length_le (by simp),List.map_map];rfl
  rw [hE]
  generalize (lnsOf s).length=N at *
  have hN:(((N+1:Nat):Int) - 1).toNat=N:=by omega
  refine spec_of_awp (M:=MM) (np:=1) (fz:=false) mixed Tryz.func52 rfl rfl (by decide) rfl (Nat.le_refl _) (by decide +kernel) (.inl rfl) (by first | trivial | simp only [sigsOk_nil,sigsOk_some,sigsOk_none,sig_tr,sig_pt,sig_mt,sig_agg,List.map_cons,List.map_nil,sig1_tr,sig1_pt,sig1_v,and_self,true_and,List.length_map,List.length_set]) ?_
  simp -dsimp -implicitDefEqProofs (disch:=first|omega|(simp only [lenr];try omega)) only [↓amPre,↓reduceIte,reduceCtorEq,reduceEqDiff,Nat.reduceBEq,reduceAdd,reduceLeDiff,reduceSub,reduceMul,reduceToNat,MM,bu0,cbJ7,Ps.lpgm,Ps.lpfz,Ps.lpfzL,Ps.stfzL,Ps.kfzL,txne c0]
  refine callP_of (hsp) ?_
  simp -dsimp -implicitDefEqProofs (disch:=first|omega|(simp only [lenr];try omega)) only [↓amPre,↓reduceIte,reduceCtorEq,reduceEqDiff,Nat.reduceBEq,reduceAdd,reduceLeDiff,reduceSub,reduceMul,reduceToNat,MM,bu0,cbJ7,Ps.lpgm,Ps.lpfz,Ps.lpfzL,Ps.stfzL,Ps.kfzL,hlen,hN,hlast,txeq (rfl:([]:Tx)=[])]
  exact ⟨by rw [Nat.sub_zero,List.map_take];exact htk,rfl⟩
 ·have ce:endd (lnsOf s)=false:=by simpa using ce
  rw [if_neg (by rw [ce];decide),List.append_nil] at hl
  obtain ⟨N,hN0⟩:∃ N,(lnsOf s).length=N+1:=⟨(lnsOf s).length - 1,by omega⟩
  have hlen:(spl 10 s).length=N+1:=by rw [hl];simp [hN0]
  have hlast:(spl 10 s).getD N []≠[]:=by
   have h1:((lnsOf s).getD N default).2=false:=by
    apply Decidable.byContradiction
    intro q
    have q:((lnsOf s).getD N default).2=true:=by simpa using q
    have:endd (lnsOf s)=true:=by
     unfold endd
     rw [List.all_eq_true]
     intro x hx
     obtain ⟨j,hj,rfl⟩:=List.getElem_of_mem hx
     by_cases hjn:j<N
     ·have:=lns_end s j (by omega)
      rw [getD_eq _ _ _ hj] at this
      exact this
     ·have:j=N:=by omega
      subst this
      rw [getD_eq _ _ _ hj] at q
      exact q
    rw [ce] at this;cases this
   have h2:=(lns_mem s _ (mem_getD (lnsOf s) N default (by omega))).2 h1
   have h3:(spl 10 s).getD N []=((lnsOf s).getD N default).1:=by
    rw [hl,getD_eq _ _ _ (by simp [hN0]),List.getElem_map,← getD_eq _ _ default]
   rw [h3];exact h2
  have hE:endN (lnsOf s)=N:=by unfold endN;rw [ce,hN0];rfl
  have hmp:(spl 10 s).map AV.st=(lnsOf s).map lnP:=by rw [hl,List.map_map];rfl
  have hN:(((N+1:Nat):Int) - 1).toNat=N:=by omega
  rw [hE]
  refine spec_of_awp (M:=MM) (np:=1) (fz:=false) mixed Tryz.func52 rfl rfl (by decide) rfl (Nat.le_refl _) (by decide +kernel) (.inl rfl) (by first | trivial | simp only [sigsOk_nil,sigsOk_some,sigsOk_none,sig_tr,sig_pt,sig_mt,sig_agg,List.map_cons,List.map_nil,sig1_tr,sig1_pt,sig1_v,and_self,true_and,List.length_map,List.length_set]) ?_
  simp -dsimp -implicitDefEqProofs (disch:=first|omega|(simp only [lenr];try omega)) only [↓amPre,↓reduceIte,reduceCtorEq,reduceEqDiff,Nat.reduceBEq,reduceAdd,reduceLeDiff,reduceSub,reduceMul,reduceToNat,MM,bu0,cbJ7,Ps.lpgm,Ps.lpfz,Ps.lpfzL,Ps.stfzL,Ps.kfzL,txne c0]
  refine callP_of (hsp) ?_
  simp -dsimp -implicitDefEqProofs (disch:=first|omega|(simp only [lenr];try omega)) only [↓amPre,↓reduceIte,reduceCtorEq,reduceEqDiff,Nat.reduceBEq,reduceAdd,reduceLeDiff,reduceSub,reduceMul,reduceToNat,MM,bu0,cbJ7,Ps.lpgm,Ps.lpfz,Ps.lpfzL,Ps.stfzL,Ps.kfzL,hlen,hN,txne hlast]
  exact ⟨hmp,vic (by omega)⟩
theorem numsW_iI:∀ us:List Tx,numsW us=if ∀ w∈us,(iI w).2=true then some (us.map fun w=>(iI w).1) else none
 | []=>rfl
 | w :: r=>by
  have ih:=numsW_iI r
  rw [numsW,iI_num w,ih]
  by_cases h1:(iI w).2=true
  ·rw [if_pos h1]
   by_cases h2:∀ w∈r,(iI w).2=true
   ·rw [if_pos h2,if_pos (fun x hx=>by
     rcases List.mem_cons.1 hx with rfl | hx
     ·exact h1
     ·exact h2 x hx)]
    rfl
   ·rw [if_neg h2,if_neg (fun q=>h2 fun x hx=>q x (List.mem_cons_of_mem _ hx))]
  ·have hn:¬ ∀ x∈w :: r,(iI x).2=true:=fun q=>h1 (q w (by simp))
   rw [if_neg h1,if_neg hn]
def liR (t f:Tx) (c:Nat):List Int×Bool:=match lineI (t,true) f c with | some l=>(l,true) | none=>([],false)
theorem intsS (t f:Tx) (c:Nat) (ht:t.length≤1048576) (hc:c≤1048576):SpecAt Tryz.prog 73 [.st t,.st f,.i64 c] (.tup [itr (liR t f c).1,.bl (liR t f c).2]):=by
 have hsp:=splitTextS t 32 ht
 have hsl:=spl_len 32 t
 have hpos:0<(spl 32 t).length:=List.length_pos_iff.2 (spl_ne _ _)
 have hmem:∀ w∈spl 32 t,w.length≤1048576:=fun w hw=>by have:=spl_mem 32 t w hw;omega
 obtain ⟨ws,hws⟩:∃ ws,ws=spl 32 t:=⟨_,rfl⟩
 have hw1:IntKind.i64.wrap (1+(c:Int))=1+(c:Int):=wrap64_id (by omega)
 have hno:¬ (ws.getD 0 []=f∧ws.length=c+1)→liR t f c=([],false):=fun q=>by
  unfold liR lineI lineW
  dsimp only
  rw [← hws,if_neg (fun q2=>q q2.2)]
 rw [← hws] at hsp hsl hpos hmem
 by_cases c1:ws.length=c+1
 case neg =>
  rw [hno (fun q=>c1 q.2)]
  refine spec_of_awp (M:=MM) (np:=3) (fz:=false) mixed Tryz.func73 rfl rfl (by decide) rfl (Nat.le_refl _) (by decide +kernel) (.inl rfl) (by first | trivial | simp only [sigsOk_nil,sigsOk_some,sigsOk_none,sig_tr,sig_pt,sig_mt,sig_agg,List.map_cons,List.map_nil,sig1_tr,sig1_pt,sig1_v,and_self,true_and,List.length_map,List.length_set]) ?_
  simp -dsimp -implicitDefEqProofs (disch:=first|omega|(simp only [lenr];try omega)) only [↓amPre,↓reduceIte,reduceCtorEq,reduceEqDiff,Nat.reduceBEq,reduceAdd,reduceLeDiff,reduceSub,reduceMul,reduceToNat,MM,bu0,cbJ7,Ps.lpgm,Ps.lpfz,Ps.lpfzL,Ps.stfzL,Ps.kfzL]
  refine callP_of (hsp) ?_
  simp -dsimp -implicitDefEqProofs (disch:=first|omega|(simp only [lenr];try omega)) only [↓amPre,↓reduceIte,reduceCtorEq,reduceEqDiff,Nat.reduceBEq,reduceAdd,reduceLeDiff,reduceSub,reduceMul,reduceToNat,MM,bu0,cbJ7,Ps.lpgm,Ps.lpfz,Ps.lpfzL,Ps.stfzL,Ps.kfzL,hw1,ne_true (show ((ws.length:Nat):Int)≠1+(c:Int) by omega)]
 by_cases c2:ws.getD 0 []=f
 case neg =>
  rw [hno (fun q=>c2 q.1)]
  refine spec_of_awp (M:=MM) (np:=3) (fz:=false) mixed Tryz.func73 rfl rfl (by decide) rfl (Nat.le_refl _) (by decide +kernel) (.inl rfl) (by first | trivial | simp only [sigsOk_nil,sigsOk_some,sigsOk_none,sig_tr,sig_pt,sig_mt,sig_agg,List.map_cons,List.map_nil,sig1_tr,sig1_pt,sig1_v,and_self,true_and,List.length_map,List.length_set]) ?_
  simp -dsimp -implicitDefEqProofs (disch:=first|omega|(simp only [lenr];try omega)) only [↓amPre,↓reduceIte,reduceCtorEq,reduceEqDiff,Nat.reduceBEq,reduceAdd,reduceLeDiff,reduceSub,reduceMul,reduceToNat,MM,bu0,cbJ7,Ps.lpgm,Ps.lpfz,Ps.lpfzL,Ps.stfzL,Ps.kfzL]
  refine callP_of (hsp) ?_
  simp -dsimp -implicitDefEqProofs (disch:=first|omega|(simp only [lenr];try omega)) only [↓amPre,↓reduceIte,reduceCtorEq,reduceEqDiff,Nat.reduceBEq,reduceAdd,reduceLeDiff,reduceSub,reduceMul,reduceToNat,MM,bu0,cbJ7,Ps.lpgm,Ps.lpfz,Ps.lpfzL,Ps.stfzL,Ps.kfzL,hw1,ne_false (show ((ws.length:Nat):Int)=1+(c:Int) by omega),txne c2]
 obtain ⟨us,hus⟩:∃ us,us=ws.drop 1:=⟨_,rfl⟩
 have hul:us.length=c:=by rw [hus,List.length_drop];omega
 have hli:liR t f c=(match numsW us with | some l=>(l,true) | none=>([],false)):=by
  unfold liR lineI lineW
  dsimp only
  rw [← hws,if_pos ⟨rfl,c2,c1⟩,← hus]
 rw [numsW_iI] at hli
 have hget:∀ k,ws.getD (k+1) []=us.getD k []:=fun k=>by
  rw [hus,List.getD_eq_getElem?_getD,List.getD_eq_getElem?_getD,List.getElem?_drop,Nat.add_comm]
 refine spec_of_awp (M:=MM) (np:=3) (fz:=false) mixed Tryz.func73 rfl rfl (by decide) rfl (Nat.le_refl _) (by decide +kernel) (.inl rfl) (by first | trivial | simp only [sigsOk_nil,sigsOk_some,sigsOk_none,sig_tr,sig_pt,sig_mt,sig_agg,List.map_cons,List.map_nil,sig1_tr,sig1_pt,sig1_v,and_self,true_and,List.length_map,List.length_set]) ?_
 simp -dsimp -implicitDefEqProofs (disch:=first|omega|(simp only [lenr];try omega)) only [↓amPre,↓reduceIte,reduceCtorEq,reduceEqDiff,Nat.reduceBEq,reduceAdd,reduceLeDiff,reduceSub,reduceMul,reduceToNat,MM,bu0,cbJ7,Ps.lpgm,Ps.lpfz,Ps.lpfzL,Ps.stfzL,Ps.kfzL]
 refine callP_of (hsp) ?_
 simp -dsimp -implicitDefEqProofs (disch:=first|omega|(simp only [lenr];try omega)) only [↓amPre,↓reduceIte,reduceCtorEq,reduceEqDiff,Nat.reduceBEq,reduceAdd,reduceLeDiff,reduceSub,reduceMul,reduceToNat,MM,bu0,cbJ7,Ps.lpgm,Ps.lpfz,Ps.lpfzL,Ps.stfzL,Ps.kfzL,hw1,ne_false (show ((ws.length:Nat):Int)=1+(c:Int) by omega),txeq c2]
 refine awp_loopR 28 49 (.tr 1 []) (by simp -dsimp -implicitDefEqProofs (disch:=first|omega|(simp only [lenr];try omega)) only [↓amPre,↓reduceIte,reduceCtorEq,reduceEqDiff,Nat.reduceBEq,reduceAdd,reduceLeDiff,reduceSub,reduceMul,reduceToNat,MM,bu0,cbJ7,Ps.lpgm,Ps.lpfz,Ps.lpfzL,Ps.stfzL,Ps.kfzL]) (by decide) (by decide) (by decide) (fun k st=>k≤c∧st.fr 10=.i64 (k+1:Nat)∧st.fr 8=.ref 14 [] 1 0 ws.length∧st.fr 9=.ref 49 [] 1 0 k∧st.mem 14=some (.tr 1 (ws.map AV.st))∧st.mem 49=some (itr ((us.take k).map fun w=>(iI w).1))∧(∀ w∈us.take k,(iI w).2=true)) (c) ?_ ?_
 ·simp -dsimp -implicitDefEqProofs (disch:=first|omega|(simp only [lenr];try omega)) only [↓amPre,↓reduceIte,reduceCtorEq,reduceEqDiff,Nat.reduceBEq,reduceAdd,reduceLeDiff,reduceSub,reduceMul,reduceToNat,MM,bu0,cbJ7,Ps.lpgm,Ps.lpfz,Ps.lpfzL,Ps.stfzL,Ps.kfzL,ren_eq,hw1,ne_false (show ((ws.length:Nat):Int)=1+(c:Int) by omega),txeq c2]
  exact ⟨Nat.zero_le _,rfl,rfl,fun w hw=>(by cases hw)⟩
 rintro k st _ ⟨hk,f10,f8,f9,m14,m49,ek⟩
 have hkl:((us.take k).map fun w=>(iI w).1).length=k:=by rw [List.length_map,List.length_take];omega
 by_cases hlt:k<c
 ·have hlt':((k+1:Nat):Int)<ws.length:=by omega
  have hm:=mem_getD us k [] (by omega)
  have hq:=intS (us.getD k []) (hmem _ (by rw [hus] at hm ⊢;exact List.mem_of_mem_drop hm))
  have hg:=hget k
  cases hb:(iI (us.getD k [])).2 with
  | false =>
   rw [hb] at hq
   have:liR t f c=([],false):=by
    rw [hli,if_neg (fun q=>by have:=q _ hm;rw [hb] at this;cases this)]
   rw [this]
   simp -dsimp -implicitDefEqProofs (disch:=first|omega|(simp only [lenr];try omega)) only [↓amPre,↓reduceIte,reduceCtorEq,reduceEqDiff,Nat.reduceBEq,reduceAdd,reduceLeDiff,reduceSub,reduceMul,reduceToNat,MM,bu0,cbJ7,Ps.lpgm,Ps.lpfz,Ps.lpfzL,Ps.stfzL,Ps.kfzL,f10,f8,f9,m14,m49,lt_true hlt',hg]
   refine callP_of (hq) ?_
   simp -dsimp -implicitDefEqProofs (disch:=first|omega|(simp only [lenr];try omega)) only [↓amPre,↓reduceIte,reduceCtorEq,reduceEqDiff,Nat.reduceBEq,reduceAdd,reduceLeDiff,reduceSub,reduceMul,reduceToNat,MM,bu0,cbJ7,Ps.lpgm,Ps.lpfz,Ps.lpfzL,Ps.stfzL,Ps.kfzL,f10,f8,f9,m14,m49]
  | true =>
   rw [hb] at hq
   have hs:=map_take_succ (fun w=>(iI w).1) us k [] (by omega)
   simp -dsimp -implicitDefEqProofs (disch:=first|omega|(simp only [lenr];try omega)) only [↓amPre,↓reduceIte,reduceCtorEq,reduceEqDiff,Nat.reduceBEq,reduceAdd,reduceLeDiff,reduceSub,reduceMul,reduceToNat,MM,bu0,cbJ7,Ps.lpgm,Ps.lpfz,Ps.lpfzL,Ps.stfzL,Ps.kfzL,f10,f8,f9,m14,m49,lt_true hlt',hg,hkl]
   refine callP_of (hq) ?_
   simp -dsimp -implicitDefEqProofs (disch:=first|omega|(simp only [lenr];try omega)) only [↓amPre,↓reduceIte,reduceCtorEq,reduceEqDiff,Nat.reduceBEq,reduceAdd,reduceLeDiff,reduceSub,reduceMul,reduceToNat,MM,bu0,cbJ7,Ps.lpgm,Ps.lpfz,Ps.lpfzL,Ps.stfzL,Ps.kfzL,f10,f8,f9,m14,m49,hkl,isnoc]
   exact ⟨hlt,by omega,by rw [hs],(mem_take_succ (d:=[]) (by omega)).2 ⟨ek,hb⟩⟩
 ·have hke:k=c:=by omega
  subst hke
  rw [List.take_of_length_le (by omega)] at ek hkl m49
  have:liR t f k=(us.map fun w=>(iI w).1,true):=by rw [hli,if_pos ek]
  rw [this]
  simp -dsimp -implicitDefEqProofs (disch:=first|omega|(simp only [lenr];try omega)) only [↓amPre,↓reduceIte,reduceCtorEq,reduceEqDiff,Nat.reduceBEq,reduceAdd,reduceLeDiff,reduceSub,reduceMul,reduceToNat,MM,bu0,cbJ7,Ps.lpgm,Ps.lpfz,Ps.lpfzL,Ps.stfzL,Ps.kfzL,f10,f8,f9,m14,m49,lt_false (show ((ws.length:Nat):Int)≤((k+1:Nat):Int) by omega),hkl]
def mvR (t:Tx) (n:Nat):Tx×List Int×Bool:=match lineM (t,true) n with | some (w,x)=>(w,x,true) | none=>([],[],false)
theorem moveS (t:Tx) (n:Nat) (ht:t.length≤1048576) (hn:n≤1048576):SpecAt Tryz.prog 75 [.st t,.i64 n] (.tup [.st (mvR t n).1,itr (mvR t n).2.1,.bl (mvR t n).2.2]):=by
 have hsp:=splitTextS t 32 ht
 have hsl:=spl_len 32 t
 have hpos:0<(spl 32 t).length:=List.length_pos_iff.2 (spl_ne _ _)
 have hmem:∀ w∈spl 32 t,w.length≤1048576:=fun w hw=>by have:=spl_mem 32 t w hw;omega
 obtain ⟨ws,hws⟩:∃ ws,ws=spl 32 t:=⟨_,rfl⟩
 have hw1:IntKind.i64.wrap (2+(n:Int))=2+(n:Int):=wrap64_id (by omega)
 rw [← hws] at hsp hsl hpos hmem
 by_cases c1:ws.length=n+2
 case neg =>
  have:mvR t n=([],[],false):=by
   unfold mvR lineM lineW
   dsimp only
   rw [← hws,if_neg (fun q=>c1 (by omega))]
  rw [this]
  refine spec_of_awp (M:=MM) (np:=2) (fz:=false) mixed Tryz.func75 rfl rfl (by decide) rfl (Nat.le_refl _) (by decide +kernel) (.inl rfl) (by first | trivial | simp only [sigsOk_nil,sigsOk_some,sigsOk_none,sig_tr,sig_pt,sig_mt,sig_agg,List.map_cons,List.map_nil,sig1_tr,sig1_pt,sig1_v,and_self,true_and,List.length_map,List.length_set]) ?_
  simp -dsimp -implicitDefEqProofs (disch:=first|omega|(simp only [lenr];try omega)) only [↓amPre,↓reduceIte,reduceCtorEq,reduceEqDiff,Nat.reduceBEq,reduceAdd,reduceLeDiff,reduceSub,reduceMul,reduceToNat,MM,bu0,cbJ7,Ps.lpgm,Ps.lpfz,Ps.lpfzL,Ps.stfzL,Ps.kfzL]
  refine callP_of (hsp) ?_
  simp -dsimp -implicitDefEqProofs (disch:=first|omega|(simp only [lenr];try omega)) only [↓amPre,↓reduceIte,reduceCtorEq,reduceEqDiff,Nat.reduceBEq,reduceAdd,reduceLeDiff,reduceSub,reduceMul,reduceToNat,MM,bu0,cbJ7,Ps.lpgm,Ps.lpfz,Ps.lpfzL,Ps.stfzL,Ps.kfzL,hw1,ne_true (show ((ws.length:Nat):Int)≠2+(n:Int) by omega)]
 by_cases c2:ws.getD 0 []=moveT
 case neg =>
  have:mvR t n=([],[],false):=by
   unfold mvR lineM lineW
   dsimp only
   rw [← hws,if_neg (fun q=>c2 q.2.1)]
  rw [this]
  refine spec_of_awp (M:=MM) (np:=2) (fz:=false) mixed Tryz.func75 rfl rfl (by decide) rfl (Nat.le_refl _) (by decide +kernel) (.inl rfl) (by first | trivial | simp only [sigsOk_nil,sigsOk_some,sigsOk_none,sig_tr,sig_pt,sig_mt,sig_agg,List.map_cons,List.map_nil,sig1_tr,sig1_pt,sig1_v,and_self,true_and,List.length_map,List.length_set]) ?_
  simp -dsimp -implicitDefEqProofs (disch:=first|omega|(simp only [lenr];try omega)) only [↓amPre,↓reduceIte,reduceCtorEq,reduceEqDiff,Nat.reduceBEq,reduceAdd,reduceLeDiff,reduceSub,reduceMul,reduceToNat,MM,bu0,cbJ7,Ps.lpgm,Ps.lpfz,Ps.lpfzL,Ps.stfzL,Ps.kfzL]
  refine callP_of (hsp) ?_
  simp -dsimp -implicitDefEqProofs (disch:=first|omega|(simp only [lenr];try omega)) only [↓amPre,↓reduceIte,reduceCtorEq,reduceEqDiff,Nat.reduceBEq,reduceAdd,reduceLeDiff,reduceSub,reduceMul,reduceToNat,MM,bu0,cbJ7,Ps.lpgm,Ps.lpfz,Ps.lpfzL,Ps.stfzL,Ps.kfzL,hw1,ne_false (show ((ws.length:Nat):Int)=2+(n:Int) by omega),(show (ws.getD 0 [] == [109,111,118,101])=false from txne c2)]
 obtain ⟨us,hus⟩:∃ us,us=ws.drop 2:=⟨_,rfl⟩
 have hul:us.length=n:=by rw [hus,List.length_drop];omega
 have hget:∀ k,ws.getD (k+2) []=us.getD k []:=fun k=>by
  rw [hus,List.getD_eq_getElem?_getD,List.getD_eq_getElem?_getD,List.getElem?_drop,Nat.add_comm]
 have hd1:ws.drop 1=ws.getD 1 [] :: us:=by
  rw [hus,List.drop_eq_getElem_cons (by omega),getD_eq _ _ _ (show 1<ws.length by omega)]
 have hmv:mvR t n=if isLet (ws.getD 1 []) then (match numsW us with | some x=>(ws.getD 1 [],x,true) | none=>([],[],false)) else ([],[],false):=by
  unfold mvR lineM lineW
  dsimp only
  rw [← hws,if_pos ⟨rfl,c2,by omega⟩,hd1]
  dsimp only
  by_cases q:isLet (ws.getD 1 [])
  ·rw [if_pos q,if_pos q]
   cases numsW us <;> rfl
  ·rw [if_neg q,if_neg q]
 obtain ⟨u,hu⟩:∃ u,u=ws.getD 1 []:=⟨_,rfl⟩
 rw [← hu] at hmv
 have hlet:=letterS u
 by_cases c3:isLet u
 case neg =>
  rw [decide_eq_false c3] at hlet
  rw [hmv,if_neg c3]
  refine spec_of_awp (M:=MM) (np:=2) (fz:=false) mixed Tryz.func75 rfl rfl (by decide) rfl (Nat.le_refl _) (by decide +kernel) (.inl rfl) (by first | trivial | simp only [sigsOk_nil,sigsOk_some,sigsOk_none,sig_tr,sig_pt,sig_mt,sig_agg,List.map_cons,List.map_nil,sig1_tr,sig1_pt,sig1_v,and_self,true_and,List.length_map,List.length_set]) ?_
  simp -dsimp -implicitDefEqProofs (disch:=first|omega|(simp only [lenr];try omega)) only [↓amPre,↓reduceIte,reduceCtorEq,reduceEqDiff,Nat.reduceBEq,reduceAdd,reduceLeDiff,reduceSub,reduceMul,reduceToNat,MM,bu0,cbJ7,Ps.lpgm,Ps.lpfz,Ps.lpfzL,Ps.stfzL,Ps.kfzL]
  refine callP_of (hsp) ?_
  simp -dsimp -implicitDefEqProofs (disch:=first|omega|(simp only [lenr];try omega)) only [↓amPre,↓reduceIte,reduceCtorEq,reduceEqDiff,Nat.reduceBEq,reduceAdd,reduceLeDiff,reduceSub,reduceMul,reduceToNat,MM,bu0,cbJ7,Ps.lpgm,Ps.lpfz,Ps.lpfzL,Ps.stfzL,Ps.kfzL,hw1,ne_false (show ((ws.length:Nat):Int)=2+(n:Int) by omega),(show (ws.getD 0 [] == [109,111,118,101])=true from txeq c2),← hu]
  refine callP_of (hlet) ?_
  simp -dsimp -implicitDefEqProofs (disch:=first|omega|(simp only [lenr];try omega)) only [↓amPre,↓reduceIte,reduceCtorEq,reduceEqDiff,Nat.reduceBEq,reduceAdd,reduceLeDiff,reduceSub,reduceMul,reduceToNat,MM,bu0,cbJ7,Ps.lpgm,Ps.lpfz,Ps.lpfzL,Ps.stfzL,Ps.kfzL]
 rw [decide_eq_true c3] at hlet
 rw [if_pos c3,numsW_iI] at hmv
 refine spec_of_awp (M:=MM) (np:=2) (fz:=false) mixed Tryz.func75 rfl rfl (by decide) rfl (Nat.le_refl _) (by decide +kernel) (.inl rfl) (by first | trivial | simp only [sigsOk_nil,sigsOk_some,sigsOk_none,sig_tr,sig_pt,sig_mt,sig_agg,List.map_cons,List.map_nil,sig1_tr,sig1_pt,sig1_v,and_self,true_and,List.length_map,List.length_set]) ?_
 simp -dsimp -implicitDefEqProofs (disch:=first|omega|(simp only [lenr];try omega)) only [↓amPre,↓reduceIte,reduceCtorEq,reduceEqDiff,Nat.reduceBEq,reduceAdd,reduceLeDiff,reduceSub,reduceMul,reduceToNat,MM,bu0,cbJ7,Ps.lpgm,Ps.lpfz,Ps.lpfzL,Ps.stfzL,Ps.kfzL]
 refine callP_of (hsp) ?_
 simp -dsimp -implicitDefEqProofs (disch:=first|omega|(simp only [lenr];try omega)) only [↓amPre,↓reduceIte,reduceCtorEq,reduceEqDiff,Nat.reduceBEq,reduceAdd,reduceLeDiff,reduceSub,reduceMul,reduceToNat,MM,bu0,cbJ7,Ps.lpgm,Ps.lpfz,Ps.lpfzL,Ps.stfzL,Ps.kfzL,hw1,ne_false (show ((ws.length:Nat):Int)=2+(n:Int) by omega),(show (ws.getD 0 [] == [109,111,118,101])=true from txeq c2),← hu]
 refine callP_of (hlet) ?_
 simp -dsimp -implicitDefEqProofs (disch:=first|omega|(simp only [lenr];try omega)) only [↓amPre,↓reduceIte,reduceCtorEq,reduceEqDiff,Nat.reduceBEq,reduceAdd,reduceLeDiff,reduceSub,reduceMul,reduceToNat,MM,bu0,cbJ7,Ps.lpgm,Ps.lpfz,Ps.lpfzL,Ps.stfzL,Ps.kfzL]
 refine awp_loopR 33 54 (.tr 1 []) (by simp -dsimp -implicitDefEqProofs (disch:=first|omega|(simp only [lenr];try omega)) only [↓amPre,↓reduceIte,reduceCtorEq,reduceEqDiff,Nat.reduceBEq,reduceAdd,reduceLeDiff,reduceSub,reduceMul,reduceToNat,MM,bu0,cbJ7,Ps.lpgm,Ps.lpfz,Ps.lpfzL,Ps.stfzL,Ps.kfzL]) (by decide) (by decide) (by decide) (fun k st=>k≤n∧st.fr 9=.i64 (k+2:Nat)∧st.fr 7=.ref 13 [] 1 0 ws.length∧st.fr 8=.ref 54 [] 1 0 k∧st.mem 13=some (.tr 1 (ws.map AV.st))∧st.mem 54=some (itr ((us.take k).map fun w=>(iI w).1))∧(∀ w∈us.take k,(iI w).2=true)) (n) ?_ ?_
 ·simp -dsimp -implicitDefEqProofs (disch:=first|omega|(simp only [lenr];try omega)) only [↓amPre,↓reduceIte,reduceCtorEq,reduceEqDiff,Nat.reduceBEq,reduceAdd,reduceLeDiff,reduceSub,reduceMul,reduceToNat,MM,bu0,cbJ7,Ps.lpgm,Ps.lpfz,Ps.lpfzL,Ps.stfzL,Ps.kfzL,ren_eq,hw1,ne_false (show ((ws.length:Nat):Int)=2+(n:Int) by omega)]
  exact ⟨Nat.zero_le _,rfl,rfl,fun w hw=>(by cases hw)⟩
 rintro k st _ ⟨hk,f9,f7,f8,m13,m54,ek⟩
 have hkl:((us.take k).map fun w=>(iI w).1).length=k:=by rw [List.length_map,List.length_take];omega
 by_cases hlt:k<n
 ·have hlt':((k+2:Nat):Int)<ws.length:=by omega
  have hm:=mem_getD us k [] (by omega)
  have hq:=intS (us.getD k []) (hmem _ (by rw [hus] at hm ⊢;exact List.mem_of_mem_drop hm))
  have hg:=hget k
  cases hb:(iI (us.getD k [])).2 with
  | false =>
   rw [hb] at hq
   have:mvR t n=([],[],false):=by
    rw [hmv,if_neg (fun q=>by have:=q _ hm;rw [hb] at this;cases this)]
   rw [this]
   simp -dsimp -implicitDefEqProofs (disch:=first|omega|(simp only [lenr];try omega)) only [↓amPre,↓reduceIte,reduceCtorEq,reduceEqDiff,Nat.reduceBEq,reduceAdd,reduceLeDiff,reduceSub,reduceMul,reduceToNat,MM,bu0,cbJ7,Ps.lpgm,Ps.lpfz,Ps.lpfzL,Ps.stfzL,Ps.kfzL,f9,f7,f8,m13,m54,lt_true hlt',hg]
   refine callP_of (hq) ?_
   simp -dsimp -implicitDefEqProofs (disch:=first|omega|(simp only [lenr];try omega)) only [↓amPre,↓reduceIte,reduceCtorEq,reduceEqDiff,Nat.reduceBEq,reduceAdd,reduceLeDiff,reduceSub,reduceMul,reduceToNat,MM,bu0,cbJ7,Ps.lpgm,Ps.lpfz,Ps.lpfzL,Ps.stfzL,Ps.kfzL,f9,f7,f8,m13,m54]
  | true =>
   rw [hb] at hq
   have hs:=map_take_succ (fun w=>(iI w).1) us k [] (by omega)
   simp -dsimp -implicitDefEqProofs (disch:=first|omega|(simp only [lenr];try omega)) only [↓amPre,↓reduceIte,reduceCtorEq,reduceEqDiff,Nat.reduceBEq,reduceAdd,reduceLeDiff,reduceSub,reduceMul,reduceToNat,MM,bu0,cbJ7,Ps.lpgm,Ps.lpfz,Ps.lpfzL,Ps.stfzL,Ps.kfzL,f9,f7,f8,m13,m54,lt_true hlt',hg,hkl]
   refine callP_of (hq) ?_
   simp -dsimp -implicitDefEqProofs (disch:=first|omega|(simp only [lenr];try omega)) only [↓amPre,↓reduceIte,reduceCtorEq,reduceEqDiff,Nat.reduceBEq,reduceAdd,reduceLeDiff,reduceSub,reduceMul,reduceToNat,MM,bu0,cbJ7,Ps.lpgm,Ps.lpfz,Ps.lpfzL,Ps.stfzL,Ps.kfzL,f9,f7,f8,m13,m54,hkl,isnoc]
   exact ⟨hlt,by omega,by rw [hs],(mem_take_succ (d:=[]) (by omega)).2 ⟨ek,hb⟩⟩
 ·have hke:k=n:=by omega
  subst hke
  rw [List.take_of_length_le (by omega)] at ek hkl m54
  have:mvR t k=(u,us.map fun w=>(iI w).1,true):=by rw [hmv,if_pos ek]
  rw [this]
  simp -dsimp -implicitDefEqProofs (disch:=first|omega|(simp only [lenr];try omega)) only [↓amPre,↓reduceIte,reduceCtorEq,reduceEqDiff,Nat.reduceBEq,reduceAdd,reduceLeDiff,reduceSub,reduceMul,reduceToNat,MM,bu0,cbJ7,Ps.lpgm,Ps.lpfz,Ps.lpfzL,Ps.stfzL,Ps.kfzL,f9,f7,f8,m13,m54,lt_false (show ((ws.length:Nat):Int)≤((k+2:Nat):Int) by omega),hkl,← hu]
end Ps
def cbJ16:=(ai (ai (cbJ7) (ai (@Ps.lpgm) (@Ps.lpfz))) (ai (@Ps.lpfzL) (ai (@Ps.stfzL) (@Ps.kfzL))))

end Go.AM
set_option maxRecDepth 8000
namespace Go.AM
namespace Ps
open Go.Proofs
open Go.Shelf
def sv (l:Tx):Value:=.string ⟨l.toArray⟩
theorem st_sv (xs:List Tx):xs.map AV.st=(xs.map sv).map AV.v:=by rw [List.map_map];rfl
theorem sv_one (xs:List Tx):∀ x∈xs.map sv,x.oneCell'=true:=fun x hx=>by
 obtain ⟨l,_,rfl⟩:=List.mem_map.1 hx
 rfl
theorem arg_st {I:Gh} {l:Tx} {v:Value} (h:RepS I (.st l) v):v=.string ⟨l.toArray⟩:=by
 have h:RepS I (.v (.string ⟨l.toArray⟩)) v:=h
 cases h;rfl
theorem arg_i {I:Gh} {n:Int} {v:Value} (h:RepS I (.i64 n) v):v=.int .i64 n:=by
 have h:RepS I (.v (.int .i64 n)) v:=h
 cases h;rfl
theorem numb_at {I:Gh} {w:World} (h:Held I w):∃ m,w.cell? ⟨1,0,none⟩=some (.int .i64 m):=by
 obtain ⟨⟨⟨cs,t⟩,m,hm⟩,f,x,h1,_⟩:=h.base 1 isNumb (by simp [baseRows])
 exact ⟨m,by simp [World.cell?,h1];exact hm⟩
theorem err_at {I:Gh} {w:World} (h:Held I w) (g:Nat) (hg:g=4∨g=5):∃ t x,w.cell? ⟨g,0,none⟩=some (.iface t x):=by
 obtain ⟨⟨⟨cs,t⟩,te,pe,hm⟩,f,x,h1,_⟩:=h.base g isErr (by rcases hg with rfl | rfl <;> simp [baseRows])
 exact ⟨te,pe,by simp [World.cell?,h1];exact hm⟩
theorem splitW (s:Tx) (c:UInt8) (hs:s.length≤1048576):SpecAt Tryz.prog 106 [.st s,.st [c]] (.tr 1 ((spl c s).map AV.st)):=by
 rw [st_sv]
 refine spec_vrow (f:=106) ⟨_,_,Tryz.func106,rfl,by decide⟩ _ rfl _ (sv_one _) 9 fun I w vals hI hvs hr=>?_
 obtain ⟨v0,v1,rfl⟩:∃ v0 v1,vals = #[v0,v1]:=by
  match vals,hvs with
  | ⟨[a,b]⟩,_=>exact ⟨a,b,rfl⟩
 obtain rfl:=arg_st (hr 0 (by simp) (by simp))
 obtain rfl:=arg_st (hr 1 (by simp) (by simp))
 obtain ⟨m,hm⟩:=numb_at hI
 refine (Any.strings_Split { Tryz.splitL with } Tryz.splitL.i9 ⟨s.toArray⟩ ⟨[c].toArray⟩ m w (by simp [ByteArray.size];omega) hm (by simp [ByteArray.size])).mono ?_
 rintro e w' ⟨rfl,rfl⟩
 have h1:((Lib.splitB ⟨[c].toArray⟩ 0 (Lib.countB ⟨s.toArray⟩ ⟨[c].toArray⟩) ⟨s.toArray⟩).map Value.string)=(spl c s).map sv:=by
  have h2:=Lib.splitB_data ⟨[c].toArray⟩ 0 (Lib.countB ⟨s.toArray⟩ ⟨[c].toArray⟩) ⟨s.toArray⟩
  have h3:Lib.countB ⟨s.toArray⟩ ⟨[c].toArray⟩=Lib.count s [c]:=rfl
  have h4:=split_one c s
  rw [h3] at h2 ⊢
  rw [show (ByteArray.mk s.toArray).data.toList=s by simp,show (ByteArray.mk [c].toArray).data.toList=[c] by simp,h4] at h2
  rw [← h2,List.map_map]
  refine List.map_congr_left fun b _=>?_
  show Value.string b=Value.string ⟨b.data.toList.toArray⟩
  simp
 have h5:Lib.countB ⟨s.toArray⟩ ⟨[c].toArray⟩+1=((spl c s).map sv).length:=by
  rw [← h1,List.length_map,Lib.splitB_all ⟨[c].toArray⟩ (by simp [ByteArray.size]) 0 _ _ rfl]
 have h6:=spl_len c s
 refine ⟨_,rfl,⟨by simp,.inr ⟨w.heap.size,_,_,by rw [h5],Nat.le_refl _,World.alloc_heap_new w _,Nat.le_of_eq h5.symm,?_,?_,?_⟩⟩,(RowKit.Below.refl _ w).alloc (Nat.le_refl _) _⟩
 ·rw [h5,List.length_map];unfold maxLen;omega
 ·rw [h1,h5];simp
 ·rw [h1];simp only [Nat.mul_one,List.length_map];exact List.take_of_length_le (by rw [List.length_map];exact Nat.le_refl _)
def piR (s:Tx):Int×AV:=match Lib.parseIntB 64 s with | .ok v=>(v,.v .nilIface) | .range=>(Lib.intSat 64 s,.ifc) | _=>(0,.ifc)
theorem parseW (s:Tx) (hs:s.length≤1048576):SpecAt Tryz.prog 152 [.st s,.i64 10,.i64 64] (.tup [.i64 (piR s).1,(piR s).2]):=by
 have hat:∀ p,(((piR s).2).at p).isNode=false:=fun p=>by
  unfold piR
  split
  ·exact vat _ p
  ·cases p with
   | nil=>rfl
   | cons a p=>show ((AV.any).at p).isNode=false;rw [any_at];rfl
  ·cases p with
   | nil=>rfl
   | cons a p=>show ((AV.any).at p).isNode=false;rw [any_at];rfl
 refine spec_two (f:=152) ⟨_,_,Tryz.func152,rfl,by decide⟩ _ rfl _ _ (vat _) hat (fun fs h=>by cases h) (fun fs h=>by unfold piR at h;split at h <;> cases h) fun I w vals hI hvs hr=>?_
 obtain ⟨v0,v1,v2,rfl⟩:∃ v0 v1 v2,vals = #[v0,v1,v2]:=by
  match vals,hvs with
  | ⟨[a,b,c]⟩,_=>exact ⟨a,b,c,rfl⟩
 obtain rfl:=arg_st (hr 0 (by simp) (by simp))
 obtain rfl:=arg_i (hr 1 (by simp) (by simp))
 obtain rfl:=arg_i (hr 2 (by simp) (by simp))
 have hsz:(⟨s.toArray⟩:ByteArray).size=s.length:=by simp [ByteArray.size]
 have hl:(⟨s.toArray⟩:ByteArray).data.toList=s:=by simp
 obtain ⟨t4,x4,h4⟩:=err_at hI 4 (.inl rfl)
 obtain ⟨t5,x5,h5⟩:=err_at hI 5 (.inr rfl)
 unfold piR
 split
 ·rename_i v h
  refine (Any.strconv_ParseInt_10_at64_ok Tryz.parseL ⟨s.toArray⟩ (by omega) v (by rw [hl];exact h) w).mono ?_
  rintro e w' ⟨rfl,hw⟩
  refine ⟨_,_,rfl,.v _,.v _,?_⟩
  rcases hw with rfl | ⟨t,rfl⟩
  ·exact RowKit.Below.refl _ _
  ·exact Lib.bytesWorld_below _ _ _
 ·rename_i h
  refine (Any.strconv_ParseInt_10_at64_range Tryz.parseL ⟨s.toArray⟩ (by omega) (by rw [hl];exact h) _ w h5 (.inr ⟨_,_,rfl⟩)).mono ?_
  rintro e w' ⟨N,rfl,_,_,hb⟩
  rw [hl]
  exact ⟨_,_,rfl,.v _,.ifc _ _,hb⟩
 ·rename_i h1 h2
  have h:Lib.parseIntB 64 s=Lib.NumEnd.syntax:=by
   cases q:Lib.parseIntB 64 s with
   | ok v=>exact absurd q (h1 v)
   | range=>exact absurd q h2
   | _=>rfl
  refine (Any.strconv_ParseInt_10_at64_syntax Tryz.parseL ⟨s.toArray⟩ (by omega) (by rw [hl];exact h) _ w h4 (.inr ⟨_,_,rfl⟩)).mono ?_
  rintro e w' ⟨N,rfl,_,_,hb⟩
  exact ⟨_,_,rfl,.v _,.ifc _ _,hb⟩
end Ps
end Go.AM
set_option maxRecDepth 8000
namespace Go.AM
namespace Ps
open Go.Proofs
def okL (L:List Ln):Prop:=L.length≤1048576∧∀ l∈L,(10:UInt8)∉l.1∧l.1.length≤1048576
theorem okL_at {L:List Ln} (h:okL L) {a:Nat} (ha:a<L.length):(10:UInt8)∉(lat L a).1∧(lat L a).1.length≤1048576:=h.2 _ (by
 unfold lat;rw [getD_eq _ _ _ ha];exact List.getElem_mem ha)
theorem rep_st (c:Nat):List.replicate c (AV.v (Value.string { data:=#[] }))=(List.replicate c ([]:Tx)).map AV.st:=by rw [List.map_replicate]
theorem wordsI (L:List Ln) (f:Tx) (c:Nat) (r:Rd) (hL:okL L) (ha:r.a≤L.length) (hc:c≤1048576):SpecX Tryz.prog 58 [rdT L r,.st f,.i64 c] [some (rdT L (wordsS L f c r).1)] (wtr (wordsS L f c r).2):=by
 have hl:=hL.1
 by_cases c1:r.t = -1
 case neg =>
  have hm:=moreI L r hl
  rw [wordsS_bad c1]
  have hmf:moreS L r=false:=by simp [moreS,c1]
  rw [hmf] at hm
  refine spec_of_awp_any (M:=MM) (np:=3) (X:=[5]) (fz:=false) mixed Tryz.func58 rfl rfl (by decide) rfl (Nat.le_refl _) (by decide +kernel) (.inl rfl) (by first | trivial | simp only [sigsOk_nil,sigsOk_some,sigsOk_none,sig_tr,sig_pt,sig_mt,sig_agg,List.map_cons,List.map_nil,sig1_tr,sig1_pt,sig1_v,and_self,true_and,List.length_map,List.length_set]) ?_
  simp -dsimp -implicitDefEqProofs (disch:=first|omega|(simp only [lenr];try omega)) only [↓amPre,↓reduceIte,reduceCtorEq,reduceEqDiff,Nat.reduceBEq,reduceAdd,reduceLeDiff,reduceSub,reduceMul,reduceToNat,MM,bu0,cbJ1,cbJ7,eq_false c1]
  refine callP_of (hm) ?_
  simp -dsimp -implicitDefEqProofs (disch:=first|omega|(simp only [lenr];try omega)) only [↓amPre,↓reduceIte,reduceCtorEq,reduceEqDiff,Nat.reduceBEq,reduceAdd,reduceLeDiff,reduceSub,reduceMul,reduceToNat,MM,bu0,cbJ1,cbJ7]
  exact rep_st c
 obtain ⟨a,t⟩:=r
 replace c1:t = -1:=c1
 replace ha:a≤L.length:=ha
 subst c1
 by_cases c2:L.length≤a
 ·have hae:a=L.length:=by omega
  subst hae
  have hm:=moreI L ⟨L.length,-3⟩ hl
  have hmf:moreS L ⟨L.length,-3⟩=false:=by simp [moreS]
  rw [hmf] at hm
  have hw:wordsS L f c ⟨L.length,-1⟩=(⟨L.length,-3⟩,List.replicate c []):=by
   unfold wordsS
   rw [if_pos rfl,if_pos (Nat.le_refl _)]
  rw [hw]
  refine spec_of_awp_any (M:=MM) (np:=3) (X:=[5]) (fz:=false) mixed Tryz.func58 rfl rfl (by decide) rfl (Nat.le_refl _) (by decide +kernel) (.inl rfl) (by first | trivial | simp only [sigsOk_nil,sigsOk_some,sigsOk_none,sig_tr,sig_pt,sig_mt,sig_agg,List.map_cons,List.map_nil,sig1_tr,sig1_pt,sig1_v,and_self,true_and,List.length_map,List.length_set]) ?_
  simp -dsimp -implicitDefEqProofs (disch:=first|omega|(simp only [lenr];try omega)) only [↓amPre,↓reduceIte,reduceCtorEq,reduceEqDiff,Nat.reduceBEq,reduceAdd,reduceLeDiff,reduceSub,reduceMul,reduceToNat,MM,bu0,cbJ1,cbJ7,eq_true (rfl:(-1:Int) = -1)]
  refine callP_of (lenL L) ?_
  simp -dsimp -implicitDefEqProofs (disch:=first|omega|(simp only [lenr];try omega)) only [↓amPre,↓reduceIte,reduceCtorEq,reduceEqDiff,Nat.reduceBEq,reduceAdd,reduceLeDiff,reduceSub,reduceMul,reduceToNat,MM,bu0,cbJ1,cbJ7,eq_true (rfl:((L.length:Nat):Int)=L.length)]
  refine callP_of (hm) ?_
  simp -dsimp -implicitDefEqProofs (disch:=first|omega|(simp only [lenr];try omega)) only [↓amPre,↓reduceIte,reduceCtorEq,reduceEqDiff,Nat.reduceBEq,reduceAdd,reduceLeDiff,reduceSub,reduceMul,reduceToNat,MM,bu0,cbJ1,cbJ7]
  exact rep_st c
 have hlt:a<L.length:=by omega
 have hne:(a:Int)≠L.length:=by omega
 have hm:=moreI L ⟨a,-1⟩ hl
 have hmt:moreS L ⟨a,-1⟩=true:=by simp [moreS,hlt]
 rw [hmt] at hm
 obtain ⟨hn,hs⟩:=okL_at hL hlt
 obtain ⟨l,hle⟩:∃ l,l=lat L a:=⟨_,rfl⟩
 have hcut:=cutSuf (lat L a) hn hs
 have hsp:=splitW (lat L a).1 32 hs
 have hpos:0<(spl 32 (lat L a).1).length:=List.length_pos_iff.2 (spl_ne _ _)
 have hslen:=spl_len 32 (lat L a).1
 have hr:=rejI L ⟨a+1,-1⟩ (by show a+1≤_;omega)
 have hrj:rej ⟨a+1,-1⟩=⟨a+1,a⟩:=by
  unfold rej;rw [if_pos rfl]
  show (⟨a+1,((a+1:Nat):Int) - 1⟩:Rd)=_
  congr 1;omega
 rw [hrj] at hr
 have hca:((a:Int)+1)=((a+1:Nat):Int):=by omega
 have hbad:lineW (lat L a) f c=none→wordsS L f c ⟨a,-1⟩=(⟨a+1,a⟩,List.replicate c []):=fun q=>by
  unfold wordsS
  rw [if_pos rfl,if_neg c2]
  dsimp only
  rw [q]
 rw [← hle] at hcut hsp hpos hslen hbad hs
 by_cases d1:l.2=true
 case neg =>
  have d1':l.2=false:=by simpa using d1
  rw [d1'] at hcut
  rw [hbad (if_neg (fun q=>d1 q.1))]
  refine spec_of_awp_any (M:=MM) (np:=3) (X:=[5]) (fz:=false) mixed Tryz.func58 rfl rfl (by decide) rfl (Nat.le_refl _) (by decide +kernel) (.inl rfl) (by first | trivial | simp only [sigsOk_nil,sigsOk_some,sigsOk_none,sig_tr,sig_pt,sig_mt,sig_agg,List.map_cons,List.map_nil,sig1_tr,sig1_pt,sig1_v,and_self,true_and,List.length_map,List.length_set]) ?_
  simp -dsimp -implicitDefEqProofs (disch:=first|omega|(simp only [lenr];try omega)) only [↓amPre,↓reduceIte,reduceCtorEq,reduceEqDiff,Nat.reduceBEq,reduceAdd,reduceLeDiff,reduceSub,reduceMul,reduceToNat,MM,bu0,cbJ1,cbJ7,eq_true (rfl:(-1:Int) = -1)]
  refine callP_of (lenL L) ?_
  simp -dsimp -implicitDefEqProofs (disch:=first|omega|(simp only [lenr];try omega)) only [↓amPre,↓reduceIte,reduceCtorEq,reduceEqDiff,Nat.reduceBEq,reduceAdd,reduceLeDiff,reduceSub,reduceMul,reduceToNat,MM,bu0,cbJ1,cbJ7,eq_false hne]
  refine callP_of (hm) ?_
  simp -dsimp -implicitDefEqProofs (disch:=first|omega|(simp only [lenr];try omega)) only [↓amPre,↓reduceIte,reduceCtorEq,reduceEqDiff,Nat.reduceBEq,reduceAdd,reduceLeDiff,reduceSub,reduceMul,reduceToNat,MM,bu0,cbJ1,cbJ7]
  refine split_go 15 (by decide +kernel) ?_
  simp -dsimp -implicitDefEqProofs (disch:=first|omega|(simp only [lenr];try omega)) only [↓amPre,↓reduceIte,reduceCtorEq,reduceEqDiff,Nat.reduceBEq,reduceAdd,reduceLeDiff,reduceSub,reduceMul,reduceToNat,MM,bu0,cbJ1,cbJ7,← hle]
  refine callP_of (hcut) ?_
  simp -dsimp -implicitDefEqProofs (disch:=first|omega|(simp only [lenr];try omega)) only [↓amPre,↓reduceIte,reduceCtorEq,reduceEqDiff,Nat.reduceBEq,reduceAdd,reduceLeDiff,reduceSub,reduceMul,reduceToNat,MM,bu0,cbJ1,cbJ7,hca]
  iterate 2 ((first|refine callP_of (hsp) ?_|refine callX_of (hr) ?_);simp -dsimp -implicitDefEqProofs (disch:=first|omega|(simp only [lenr];try omega)) only [↓amPre,↓reduceIte,reduceCtorEq,reduceEqDiff,Nat.reduceBEq,reduceAdd,reduceLeDiff,reduceSub,reduceMul,reduceToNat,MM,bu0,cbJ1,cbJ7])
  exact rep_st c
 by_cases d2:(spl 32 l.1).getD 0 []=f
 case neg =>
  rw [hbad (if_neg (fun q=>d2 q.2.1))]
  rw [d1] at hcut
  refine spec_of_awp_any (M:=MM) (np:=3) (X:=[5]) (fz:=false) mixed Tryz.func58 rfl rfl (by decide) rfl (Nat.le_refl _) (by decide +kernel) (.inl rfl) (by first | trivial | simp only [sigsOk_nil,sigsOk_some,sigsOk_none,sig_tr,sig_pt,sig_mt,sig_agg,List.map_cons,List.map_nil,sig1_tr,sig1_pt,sig1_v,and_self,true_and,List.length_map,List.length_set]) ?_
  simp -dsimp -implicitDefEqProofs (disch:=first|omega|(simp only [lenr];try omega)) only [↓amPre,↓reduceIte,reduceCtorEq,reduceEqDiff,Nat.reduceBEq,reduceAdd,reduceLeDiff,reduceSub,reduceMul,reduceToNat,MM,bu0,cbJ1,cbJ7,eq_true (rfl:(-1:Int) = -1)]
  refine callP_of (lenL L) ?_
  simp -dsimp -implicitDefEqProofs (disch:=first|omega|(simp only [lenr];try omega)) only [↓amPre,↓reduceIte,reduceCtorEq,reduceEqDiff,Nat.reduceBEq,reduceAdd,reduceLeDiff,reduceSub,reduceMul,reduceToNat,MM,bu0,cbJ1,cbJ7,eq_false hne]
  refine callP_of (hm) ?_
  simp -dsimp -implicitDefEqProofs (disch:=first|omega|(simp only [lenr];try omega)) only [↓amPre,↓reduceIte,reduceCtorEq,reduceEqDiff,Nat.reduceBEq,reduceAdd,reduceLeDiff,reduceSub,reduceMul,reduceToNat,MM,bu0,cbJ1,cbJ7]
  refine split_go 15 (by decide +kernel) ?_
  simp -dsimp -implicitDefEqProofs (disch:=first|omega|(simp only [lenr];try omega)) only [↓amPre,↓reduceIte,reduceCtorEq,reduceEqDiff,Nat.reduceBEq,reduceAdd,reduceLeDiff,reduceSub,reduceMul,reduceToNat,MM,bu0,cbJ1,cbJ7,← hle]
  refine callP_of (hcut) ?_
  simp -dsimp -implicitDefEqProofs (disch:=first|omega|(simp only [lenr];try omega)) only [↓amPre,↓reduceIte,reduceCtorEq,reduceEqDiff,Nat.reduceBEq,reduceAdd,reduceLeDiff,reduceSub,reduceMul,reduceToNat,MM,bu0,cbJ1,cbJ7,hca]
  refine callP_of (hsp) ?_
  simp -dsimp -implicitDefEqProofs (disch:=first|omega|(simp only [lenr];try omega)) only [↓amPre,↓reduceIte,reduceCtorEq,reduceEqDiff,Nat.reduceBEq,reduceAdd,reduceLeDiff,reduceSub,reduceMul,reduceToNat,MM,bu0,cbJ1,cbJ7,txne d2]
  refine callX_of (hr) ?_
  simp -dsimp -implicitDefEqProofs (disch:=first|omega|(simp only [lenr];try omega)) only [↓amPre,↓reduceIte,reduceCtorEq,reduceEqDiff,Nat.reduceBEq,reduceAdd,reduceLeDiff,reduceSub,reduceMul,reduceToNat,MM,bu0,cbJ1,cbJ7]
  exact rep_st c
 by_cases d3:(spl 32 l.1).length=c+1
 case neg =>
  have d3':(((spl 32 l.1).length:Nat):Int)≠(c:Int)+1:=by omega
  rw [hbad (if_neg (fun q=>d3 q.2.2))]
  rw [d1] at hcut
  refine spec_of_awp_any (M:=MM) (np:=3) (X:=[5]) (fz:=false) mixed Tryz.func58 rfl rfl (by decide) rfl (Nat.le_refl _) (by decide +kernel) (.inl rfl) (by first | trivial | simp only [sigsOk_nil,sigsOk_some,sigsOk_none,sig_tr,sig_pt,sig_mt,sig_agg,List.map_cons,List.map_nil,sig1_tr,sig1_pt,sig1_v,and_self,true_and,List.length_map,List.length_set]) ?_
  simp -dsimp -implicitDefEqProofs (disch:=first|omega|(simp only [lenr];try omega)) only [↓amPre,↓reduceIte,reduceCtorEq,reduceEqDiff,Nat.reduceBEq,reduceAdd,reduceLeDiff,reduceSub,reduceMul,reduceToNat,MM,bu0,cbJ1,cbJ7,eq_true (rfl:(-1:Int) = -1)]
  refine callP_of (lenL L) ?_
  simp -dsimp -implicitDefEqProofs (disch:=first|omega|(simp only [lenr];try omega)) only [↓amPre,↓reduceIte,reduceCtorEq,reduceEqDiff,Nat.reduceBEq,reduceAdd,reduceLeDiff,reduceSub,reduceMul,reduceToNat,MM,bu0,cbJ1,cbJ7,eq_false hne]
  refine callP_of (hm) ?_
  simp -dsimp -implicitDefEqProofs (disch:=first|omega|(simp only [lenr];try omega)) only [↓amPre,↓reduceIte,reduceCtorEq,reduceEqDiff,Nat.reduceBEq,reduceAdd,reduceLeDiff,reduceSub,reduceMul,reduceToNat,MM,bu0,cbJ1,cbJ7]
  refine split_go 15 (by decide +kernel) ?_
  simp -dsimp -implicitDefEqProofs (disch:=first|omega|(simp only [lenr];try omega)) only [↓amPre,↓reduceIte,reduceCtorEq,reduceEqDiff,Nat.reduceBEq,reduceAdd,reduceLeDiff,reduceSub,reduceMul,reduceToNat,MM,bu0,cbJ1,cbJ7,← hle]
  refine callP_of (hcut) ?_
  simp -dsimp -implicitDefEqProofs (disch:=first|omega|(simp only [lenr];try omega)) only [↓amPre,↓reduceIte,reduceCtorEq,reduceEqDiff,Nat.reduceBEq,reduceAdd,reduceLeDiff,reduceSub,reduceMul,reduceToNat,MM,bu0,cbJ1,cbJ7,hca]
  refine callP_of (hsp) ?_
  simp -dsimp -implicitDefEqProofs (disch:=first|omega|(simp only [lenr];try omega)) only [↓amPre,↓reduceIte,reduceCtorEq,reduceEqDiff,Nat.reduceBEq,reduceAdd,reduceLeDiff,reduceSub,reduceMul,reduceToNat,MM,bu0,cbJ1,cbJ7,txeq d2]
  refine callP_of (lenW _) ?_
  simp -dsimp -implicitDefEqProofs (disch:=first|omega|(simp only [lenr];try omega)) only [↓amPre,↓reduceIte,reduceCtorEq,reduceEqDiff,Nat.reduceBEq,reduceAdd,reduceLeDiff,reduceSub,reduceMul,reduceToNat,MM,bu0,cbJ1,cbJ7,ne_true d3']
  refine callX_of (hr) ?_
  simp -dsimp -implicitDefEqProofs (disch:=first|omega|(simp only [lenr];try omega)) only [↓amPre,↓reduceIte,reduceCtorEq,reduceEqDiff,Nat.reduceBEq,reduceAdd,reduceLeDiff,reduceSub,reduceMul,reduceToNat,MM,bu0,cbJ1,cbJ7]
  exact rep_st c
 have d3':(((spl 32 l.1).length:Nat):Int)=(c:Int)+1:=by omega
 have hgood:wordsS L f c ⟨a,-1⟩=(⟨a+1,-1⟩,(spl 32 l.1).drop 1):=by
  unfold wordsS
  rw [if_pos rfl,if_neg c2]
  dsimp only
  rw [← hle]
  unfold lineW
  rw [if_pos ⟨d1,d2,d3⟩]
 rw [hgood]
 rw [d1] at hcut
 refine spec_of_awp_any (M:=MM) (np:=3) (X:=[5]) (fz:=false) mixed Tryz.func58 rfl rfl (by decide) rfl (Nat.le_refl _) (by decide +kernel) (.inl rfl) (by first | trivial | simp only [sigsOk_nil,sigsOk_some,sigsOk_none,sig_tr,sig_pt,sig_mt,sig_agg,List.map_cons,List.map_nil,sig1_tr,sig1_pt,sig1_v,and_self,true_and,List.length_map,List.length_set]) ?_
 simp -dsimp -implicitDefEqProofs (disch:=first|omega|(simp only [lenr];try omega)) only [↓amPre,↓reduceIte,reduceCtorEq,reduceEqDiff,Nat.reduceBEq,reduceAdd,reduceLeDiff,reduceSub,reduceMul,reduceToNat,MM,bu0,cbJ1,cbJ7,eq_true (rfl:(-1:Int) = -1)]
 refine callP_of (lenL L) ?_
 simp -dsimp -implicitDefEqProofs (disch:=first|omega|(simp only [lenr];try omega)) only [↓amPre,↓reduceIte,reduceCtorEq,reduceEqDiff,Nat.reduceBEq,reduceAdd,reduceLeDiff,reduceSub,reduceMul,reduceToNat,MM,bu0,cbJ1,cbJ7,eq_false hne]
 refine callP_of (hm) ?_
 simp -dsimp -implicitDefEqProofs (disch:=first|omega|(simp only [lenr];try omega)) only [↓amPre,↓reduceIte,reduceCtorEq,reduceEqDiff,Nat.reduceBEq,reduceAdd,reduceLeDiff,reduceSub,reduceMul,reduceToNat,MM,bu0,cbJ1,cbJ7]
 refine split_go 15 (by decide +kernel) ?_
 simp -dsimp -implicitDefEqProofs (disch:=first|omega|(simp only [lenr];try omega)) only [↓amPre,↓reduceIte,reduceCtorEq,reduceEqDiff,Nat.reduceBEq,reduceAdd,reduceLeDiff,reduceSub,reduceMul,reduceToNat,MM,bu0,cbJ1,cbJ7,← hle]
 refine callP_of (hcut) ?_
 simp -dsimp -implicitDefEqProofs (disch:=first|omega|(simp only [lenr];try omega)) only [↓amPre,↓reduceIte,reduceCtorEq,reduceEqDiff,Nat.reduceBEq,reduceAdd,reduceLeDiff,reduceSub,reduceMul,reduceToNat,MM,bu0,cbJ1,cbJ7,hca]
 refine callP_of (hsp) ?_
 simp -dsimp -implicitDefEqProofs (disch:=first|omega|(simp only [lenr];try omega)) only [↓amPre,↓reduceIte,reduceCtorEq,reduceEqDiff,Nat.reduceBEq,reduceAdd,reduceLeDiff,reduceSub,reduceMul,reduceToNat,MM,bu0,cbJ1,cbJ7,txeq d2]
 refine callP_of (lenW _) ?_
 simp -dsimp -implicitDefEqProofs (disch:=first|omega|(simp only [lenr];try omega)) only [↓amPre,↓reduceIte,reduceCtorEq,reduceEqDiff,Nat.reduceBEq,reduceAdd,reduceLeDiff,reduceSub,reduceMul,reduceToNat,MM,bu0,cbJ1,cbJ7,ne_false d3']
end Ps
end Go.AM
set_option maxRecDepth 8000
namespace Go.AM
namespace Ps
open Go.Proofs
def endOk (L:List Ln):Prop:=∀ k,k<L.length→((lat L k).2=true↔k<endN L)
theorem endOk_lns (s:Tx):endOk (lnsOf s):=fun k hk=>by
 unfold endN
 by_cases ce:endd (lnsOf s)=true
 ·rw [if_pos ce]
  refine ⟨fun _=>hk,fun _=>?_⟩
  unfold endd at ce
  rw [List.all_eq_true] at ce
  exact ce _ (mem_getD (lnsOf s) k default hk)
 ·rw [if_neg ce]
  by_cases hlt:k+1<(lnsOf s).length
  ·refine ⟨fun _=>by omega,fun _=>?_⟩
   have:=lns_end s k hlt
   rw [getD_eq _ _ _ hk] at this
   unfold lat
   rw [getD_eq _ _ _ hk];exact this
  ·refine ⟨fun q=>?_,fun q=>by omega⟩
   exfalso
   apply ce
   unfold endd
   rw [List.all_eq_true]
   intro x hx
   obtain ⟨j,hj,rfl⟩:=List.getElem_of_mem hx
   by_cases hjn:j+1<(lnsOf s).length
   ·have:=lns_end s j hjn
    rw [getD_eq _ _ _ hj] at this
    exact this
   ·have:j=k:=by omega
    subst this
    unfold lat at q
    rw [getD_eq _ _ _ hj] at q
    exact q
def stOf {α:Type} (r:Except Int α):Int:=match r with | .ok _=>-1 | .error e=>e
theorem lineI_bool (l:Ln) (f:Tx) (c:Nat):lineI l f c=if l.2=true then lineI (l.1,true) f c else none:=by
 obtain ⟨t,e⟩:=l
 cases e with
 | true=>rw [if_pos rfl]
 | false =>
  rw [if_neg (fun q=>by cases q)]
  unfold lineI lineW
  rw [if_neg (fun q=>by cases q.1)]
theorem kindsS_spec (L:List Ln) (hL:okL L) (hE:endOk L):SpecAt Tryz.prog 53 [.sl 1 (L.map lnP),.i64 (endN L)] (.tup [ktr ((kpre L).take 3),.i64 (stOf (kdR L))]):=by
 have hll:=hL.1
 have hkl:=kpre_le L
 obtain ⟨n,hn⟩:∃ n,n=(kpre L).length:=⟨_,rfl⟩
 have hen:endN L≤L.length:=by unfold endN;split <;> omega
 refine spec_of_awp_any (M:=MM) (np:=2) (X:=[9]) (fz:=false) mixed Tryz.func53 rfl rfl (by decide) rfl (Nat.le_refl _) (by decide +kernel) (.inl rfl) (by first | trivial | simp only [sigsOk_nil,sigsOk_some,sigsOk_none,sig_tr,sig_pt,sig_mt,sig_agg,List.map_cons,List.map_nil,sig1_tr,sig1_pt,sig1_v,and_self,true_and,List.length_map,List.length_set]) ?_
 simp -dsimp -implicitDefEqProofs (disch:=first|omega|(simp only [lenr];try omega)) only [↓amPre,↓reduceIte,reduceCtorEq,reduceEqDiff,Nat.reduceBEq,reduceAdd,reduceLeDiff,reduceSub,reduceMul,reduceToNat,MM,bu0,cbJ1,cbJ16]
 refine awp_loopR 10 55 (.tr 2 []) (by simp -dsimp -implicitDefEqProofs (disch:=first|omega|(simp only [lenr];try omega)) only [↓amPre,↓reduceIte,reduceCtorEq,reduceEqDiff,Nat.reduceBEq,reduceAdd,reduceLeDiff,reduceSub,reduceMul,reduceToNat,MM,bu0,cbJ1,cbJ16]) (by decide) (by decide) (by decide) (fun k st=>k≤(min n 3)∧st.fr 7=.i64 k∧st.fr 0=.sl 1 (L.map lnP)∧st.fr 1=.i64 (endN L)∧st.fr 6=.ref 55 [] 2 0 k∧st.mem 55=some (ktr ((kpre L).take k))) ((min n 3)) ?_ ?_
 ·simp -dsimp -implicitDefEqProofs (disch:=first|omega|(simp only [lenr];try omega)) only [↓amPre,↓reduceIte,reduceCtorEq,reduceEqDiff,Nat.reduceBEq,reduceAdd,reduceLeDiff,reduceSub,reduceMul,reduceToNat,MM,bu0,cbJ1,cbJ16,ren_eq]
  exact ⟨Nat.zero_le _,rfl,rfl⟩
 rintro k st _ ⟨hk,f7,f0,f1,f6,m55⟩
 have hkn:k≤n∧k≤3:=by omega
 have htl:((kpre L).take k).length=k:=by rw [List.length_take];omega
 by_cases hlt:k<L.length
 ·have hlt':((k:Nat):Int)<L.length:=by omega
  obtain ⟨hnl,hls⟩:=okL_at hL hlt
  have hsp:=splitTextS (lat L k).1 32 hls
  have hpos:0<(spl 32 (lat L k).1).length:=List.length_pos_iff.2 (spl_ne _ _)
  have hin:=intsS (lat L k).1 kindT 2 hls (by omega)
  have hEk:=hE k hlt
  obtain ⟨l,hle⟩:∃ l,l=lat L k:=⟨_,rfl⟩
  by_cases hpar:k<n
  ·have hget:=kpre_get L k (by omega)
   have hks:=kline_some hget
   obtain ⟨hf,_⟩:=hks
   unfold kline at hget
   rw [lineI_bool] at hget
   rw [← hle] at hsp hpos hin hEk hget hf
   have he2:l.2=true:=by
    apply Decidable.byContradiction
    intro q
    rw [if_neg q] at hget
    cases hget
   rw [if_pos he2] at hget
   cases hx:lineI (l.1,true) kindT 2 with
   | none=>rw [hx] at hget;cases hget
   | some x =>
    rw [hx] at hget
    have hxK:(⟨x.getD 0 0,x.getD 1 0⟩:Kind)=(kpre L).getD k default:=by injection hget
    have hx2:=(lineI_some hx).1
    have hli:liR l.1 kindT 2=(x,true):=by unfold liR;rw [hx]
    rw [hli] at hin
    have hke:=hEk.1 he2
    by_cases h3:k<3
    ·have hts:(kpre L).take (k+1)=(kpre L).take k++[(⟨x.getD 0 0,x.getD 1 0⟩:Kind)]:=by rw [take_succ_eq _ k default (by omega),hxK]
     have hNk:k<min n 3:=by omega
     simp -dsimp -implicitDefEqProofs (disch:=first|omega|(simp only [lenr];try omega)) only [↓amPre,↓reduceIte,reduceCtorEq,reduceEqDiff,Nat.reduceBEq,reduceAdd,reduceLeDiff,reduceSub,reduceMul,reduceToNat,MM,bu0,cbJ1,cbJ16,f7,f0,f1,f6,m55,lt_true hlt',← hle]
     refine callP_of (hsp) ?_
     simp -dsimp -implicitDefEqProofs (disch:=first|omega|(simp only [lenr];try omega)) only [↓amPre,↓reduceIte,reduceCtorEq,reduceEqDiff,Nat.reduceBEq,reduceAdd,reduceLeDiff,reduceSub,reduceMul,reduceToNat,MM,bu0,cbJ1,cbJ16,f7,f0,f1,f6,m55,(show ((spl 32 l.1).getD 0 [] == [107,105,110,100])=true from txeq hf),lt_true hlt',← hle]
     refine callP_of (hin) ?_
     simp -dsimp -implicitDefEqProofs (disch:=first|omega|(simp only [lenr];try omega)) only [↓amPre,↓reduceIte,reduceCtorEq,reduceEqDiff,Nat.reduceBEq,reduceAdd,reduceLeDiff,reduceSub,reduceMul,reduceToNat,MM,bu0,cbJ1,cbJ16,f7,f0,f1,f6,m55,le_false (show ((k:Nat):Int)<((endN L:Nat):Int) by omega),le_false (show ((k:Nat):Int)<(3:Int) by omega)]
     refine split_go 9 (by decide +kernel) ?_
     simp -dsimp -implicitDefEqProofs (disch:=first|omega|(simp only [lenr];try omega)) only [↓amPre,↓reduceIte,reduceCtorEq,reduceEqDiff,Nat.reduceBEq,reduceAdd,reduceLeDiff,reduceSub,reduceMul,reduceToNat,MM,bu0,cbJ1,cbJ16,f7,f0,f1,f6,m55,hx2,htl]
     exact ⟨hNk,by omega,by rw [hts]⟩
    ·have hk3:k=3:=by omega
     subst hk3
     have hR:kdR L=.error 3:=by unfold kdR;rw [if_pos (by omega)]
     rw [hR]
     simp -dsimp -implicitDefEqProofs (disch:=first|omega|(simp only [lenr];try omega)) only [↓amPre,↓reduceIte,reduceCtorEq,reduceEqDiff,Nat.reduceBEq,reduceAdd,reduceLeDiff,reduceSub,reduceMul,reduceToNat,MM,bu0,cbJ1,cbJ16,f7,f0,f1,f6,m55,lt_true hlt',← hle]
     refine callP_of (hsp) ?_
     simp -dsimp -implicitDefEqProofs (disch:=first|omega|(simp only [lenr];try omega)) only [↓amPre,↓reduceIte,reduceCtorEq,reduceEqDiff,Nat.reduceBEq,reduceAdd,reduceLeDiff,reduceSub,reduceMul,reduceToNat,MM,bu0,cbJ1,cbJ16,f7,f0,f1,f6,m55,(show ((spl 32 l.1).getD 0 [] == [107,105,110,100])=true from txeq hf),lt_true hlt',← hle]
     refine callP_of (hin) ?_
     simp -dsimp -implicitDefEqProofs (disch:=first|omega|(simp only [lenr];try omega)) only [↓amPre,↓reduceIte,reduceCtorEq,reduceEqDiff,Nat.reduceBEq,reduceAdd,reduceLeDiff,reduceSub,reduceMul,reduceToNat,MM,bu0,cbJ1,cbJ16,f7,f0,f1,f6,m55,le_false (show ((3:Nat):Int)<((endN L:Nat):Int) by omega),le_true (show (3:Int)≤((3:Nat):Int) by omega),htl]
     rfl
  ·have hkn2:k=n:=by omega
   subst hkn2
   have h3:(kpre L).take 3=kpre L:=List.take_of_length_le (by omega)
   rw [List.take_of_length_le (by omega)] at htl m55
   rw [h3]
   rw [← hle] at hsp hpos hin hEk
   by_cases hf:(spl 32 l.1).getD 0 []=kindT
   ·have hR:kdR L=.error (k:Int):=by
     unfold kdR
     rw [if_neg (by omega),if_pos (by rw [← hn,← hle];exact ⟨hlt,hf⟩),← hn]
    have hend:=kpre_end L (by omega)
    rw [← hn,← hle] at hend
    unfold kline at hend
    rw [lineI_bool] at hend
    rw [hR]
    cases hx:lineI (l.1,true) kindT 2 with
    | none =>
     have hli:liR l.1 kindT 2=([],false):=by unfold liR;rw [hx]
     rw [hli] at hin
     simp -dsimp -implicitDefEqProofs (disch:=first|omega|(simp only [lenr];try omega)) only [↓amPre,↓reduceIte,reduceCtorEq,reduceEqDiff,Nat.reduceBEq,reduceAdd,reduceLeDiff,reduceSub,reduceMul,reduceToNat,MM,bu0,cbJ1,cbJ16,f7,f0,f1,f6,m55,lt_true hlt',← hle]
     refine callP_of (hsp) ?_
     simp -dsimp -implicitDefEqProofs (disch:=first|omega|(simp only [lenr];try omega)) only [↓amPre,↓reduceIte,reduceCtorEq,reduceEqDiff,Nat.reduceBEq,reduceAdd,reduceLeDiff,reduceSub,reduceMul,reduceToNat,MM,bu0,cbJ1,cbJ16,f7,f0,f1,f6,m55,(show ((spl 32 l.1).getD 0 [] == [107,105,110,100])=true from txeq hf),lt_true hlt',← hle]
     refine callP_of (hin) ?_
     simp -dsimp -implicitDefEqProofs (disch:=first|omega|(simp only [lenr];try omega)) only [↓amPre,↓reduceIte,reduceCtorEq,reduceEqDiff,Nat.reduceBEq,reduceAdd,reduceLeDiff,reduceSub,reduceMul,reduceToNat,MM,bu0,cbJ1,cbJ16,f7,f0,f1,f6,m55,htl]
     first | rfl | (rw [hnk];rfl)
    | some x =>
     have hli:liR l.1 kindT 2=(x,true):=by unfold liR;rw [hx]
     rw [hli] at hin
     have he2:¬ l.2=true:=fun q=>by
      rw [if_pos q,hx] at hend;cases hend
     have hke:¬ k<endN L:=fun q=>he2 (hEk.2 q)
     simp -dsimp -implicitDefEqProofs (disch:=first|omega|(simp only [lenr];try omega)) only [↓amPre,↓reduceIte,reduceCtorEq,reduceEqDiff,Nat.reduceBEq,reduceAdd,reduceLeDiff,reduceSub,reduceMul,reduceToNat,MM,bu0,cbJ1,cbJ16,f7,f0,f1,f6,m55,lt_true hlt',← hle]
     refine callP_of (hsp) ?_
     simp -dsimp -implicitDefEqProofs (disch:=first|omega|(simp only [lenr];try omega)) only [↓amPre,↓reduceIte,reduceCtorEq,reduceEqDiff,Nat.reduceBEq,reduceAdd,reduceLeDiff,reduceSub,reduceMul,reduceToNat,MM,bu0,cbJ1,cbJ16,f7,f0,f1,f6,m55,(show ((spl 32 l.1).getD 0 [] == [107,105,110,100])=true from txeq hf),lt_true hlt',← hle]
     refine callP_of (hin) ?_
     simp -dsimp -implicitDefEqProofs (disch:=first|omega|(simp only [lenr];try omega)) only [↓amPre,↓reduceIte,reduceCtorEq,reduceEqDiff,Nat.reduceBEq,reduceAdd,reduceLeDiff,reduceSub,reduceMul,reduceToNat,MM,bu0,cbJ1,cbJ16,f7,f0,f1,f6,m55,le_true (show ((endN L:Nat):Int)≤((k:Nat):Int) by omega),htl]
     first | rfl | (rw [hnk];rfl)
   ·obtain ⟨n,hnk⟩:∃ n,n=k:=⟨_,rfl⟩
    have hbrk:¬ (n<L.length∧(spl 32 (lat L n).1).getD 0 []=kindT):=by rw [hnk,← hle];exact fun q=>hf q.2
    rw [← hnk] at hn htl
    simp -dsimp -implicitDefEqProofs (disch:=first|omega|(simp only [lenr];try omega)) only [↓amPre,↓reduceIte,reduceCtorEq,reduceEqDiff,Nat.reduceBEq,reduceAdd,reduceLeDiff,reduceSub,reduceMul,reduceToNat,MM,bu0,cbJ1,cbJ16,f7,f0,f1,f6,m55,lt_true hlt',← hle]
    refine callP_of (hsp) ?_
    by_cases hz:n=0
    ·have hR:kdR L=.error 0:=by unfold kdR;rw [if_neg (by omega),if_neg (fun q=>hbrk (by rw [← hn] at q;exact q)),if_pos (by omega)]
     rw [hR]
     simp -dsimp -implicitDefEqProofs (disch:=first|omega|(simp only [lenr];try omega)) only [↓amPre,↓reduceIte,reduceCtorEq,reduceEqDiff,Nat.reduceBEq,reduceAdd,reduceLeDiff,reduceSub,reduceMul,reduceToNat,MM,bu0,cbJ1,cbJ16,f7,f0,f1,f6,m55,(show ((spl 32 l.1).getD 0 [] == [107,105,110,100])=false from txne hf),(fun Q st=>blockQ_exit_ne Q st 1 0 rfl),htl,eq_true (show ((n:Nat):Int)=0 by omega)]
     first | rfl | (rw [hnk];rfl)
    by_cases hko:kindsOk (kpre L)
    ·have hR:kdR L=.ok (kpre L):=by unfold kdR;rw [if_neg (by omega),if_neg (fun q=>hbrk (by rw [← hn] at q;exact q)),if_neg (by omega),if_pos hko]
     have hA:=sAreValidKinds (kpre L) (by omega)
     rw [decide_eq_true hko] at hA
     rw [hR]
     simp -dsimp -implicitDefEqProofs (disch:=first|omega|(simp only [lenr];try omega)) only [↓amPre,↓reduceIte,reduceCtorEq,reduceEqDiff,Nat.reduceBEq,reduceAdd,reduceLeDiff,reduceSub,reduceMul,reduceToNat,MM,bu0,cbJ1,cbJ16,f7,f0,f1,f6,m55,(show ((spl 32 l.1).getD 0 [] == [107,105,110,100])=false from txne hf),(fun Q st=>blockQ_exit_ne Q st 1 0 rfl),htl,eq_false (show ((n:Nat):Int)≠0 by omega),kfz]
     refine callP_of (hA) ?_
     simp -dsimp -implicitDefEqProofs (disch:=first|omega|(simp only [lenr];try omega)) only [↓amPre,↓reduceIte,reduceCtorEq,reduceEqDiff,Nat.reduceBEq,reduceAdd,reduceLeDiff,reduceSub,reduceMul,reduceToNat,MM,bu0,cbJ1,cbJ16,f7,f0,f1,f6,m55,htl,kfz]
     first | rfl | (rw [hnk];rfl)
    ·have hR:kdR L=.error (((kpre L).length:Int) - 1):=by unfold kdR;rw [if_neg (by omega),if_neg (fun q=>hbrk (by rw [← hn] at q;exact q)),if_neg (by omega),if_neg hko]
     have hA:=sAreValidKinds (kpre L) (by omega)
     rw [decide_eq_false hko] at hA
     have hwn:IntKind.i64.wrap ((n:Int) - 1)=(n:Int) - 1:=wrap64_id (by omega)
     rw [hR]
     simp -dsimp -implicitDefEqProofs (disch:=first|omega|(simp only [lenr];try omega)) only [↓amPre,↓reduceIte,reduceCtorEq,reduceEqDiff,Nat.reduceBEq,reduceAdd,reduceLeDiff,reduceSub,reduceMul,reduceToNat,MM,bu0,cbJ1,cbJ16,f7,f0,f1,f6,m55,(show ((spl 32 l.1).getD 0 [] == [107,105,110,100])=false from txne hf),(fun Q st=>blockQ_exit_ne Q st 1 0 rfl),htl,eq_false (show ((n:Nat):Int)≠0 by omega),kfz]
     refine callP_of (hA) ?_
     simp -dsimp -implicitDefEqProofs (disch:=first|omega|(simp only [lenr];try omega)) only [↓amPre,↓reduceIte,reduceCtorEq,reduceEqDiff,Nat.reduceBEq,reduceAdd,reduceLeDiff,reduceSub,reduceMul,reduceToNat,MM,bu0,cbJ1,cbJ16,f7,f0,f1,f6,m55,htl,kfz,hwn]
     first | rfl | (rw [hnk];rfl)
 ·have hkn2:k=n:=by omega
  subst hkn2
  have hkL:k=L.length:=by omega
  have h3:(kpre L).take 3=kpre L:=List.take_of_length_le (by omega)
  rw [List.take_of_length_le (by omega)] at htl m55
  rw [h3]
  obtain ⟨n,hnk⟩:∃ n,n=k:=⟨_,rfl⟩
  have hbrk:¬ (n<L.length∧(spl 32 (lat L n).1).getD 0 []=kindT):=fun q=>by omega
  rw [← hnk] at hn htl f6 f7
  by_cases hz:n=0
  ·have hR:kdR L=.error 0:=by unfold kdR;rw [if_neg (by omega),if_neg (fun q=>hbrk (by rw [← hn] at q;exact q)),if_pos (by omega)]
   rw [hR]
   simp -dsimp -implicitDefEqProofs (disch:=first|omega|(simp only [lenr];try omega)) only [↓amPre,↓reduceIte,reduceCtorEq,reduceEqDiff,Nat.reduceBEq,reduceAdd,reduceLeDiff,reduceSub,reduceMul,reduceToNat,MM,bu0,cbJ1,cbJ16,f7,f0,f1,f6,m55,lt_false (show ((L.length:Nat):Int)≤((n:Nat):Int) by omega),htl,eq_true (show ((n:Nat):Int)=0 by omega)]
   first | rfl | (rw [hnk];rfl)
  by_cases hko:kindsOk (kpre L)
  ·have hR:kdR L=.ok (kpre L):=by unfold kdR;rw [if_neg (by omega),if_neg (fun q=>hbrk (by rw [← hn] at q;exact q)),if_neg (by omega),if_pos hko]
   have hA:=sAreValidKinds (kpre L) (by omega)
   rw [decide_eq_true hko] at hA
   rw [hR]
   simp -dsimp -implicitDefEqProofs (disch:=first|omega|(simp only [lenr];try omega)) only [↓amPre,↓reduceIte,reduceCtorEq,reduceEqDiff,Nat.reduceBEq,reduceAdd,reduceLeDiff,reduceSub,reduceMul,reduceToNat,MM,bu0,cbJ1,cbJ16,f7,f0,f1,f6,m55,lt_false (show ((L.length:Nat):Int)≤((n:Nat):Int) by omega),htl,eq_false (show ((n:Nat):Int)≠0 by omega),kfz]
   refine callP_of (hA) ?_
   simp -dsimp -implicitDefEqProofs (disch:=first|omega|(simp only [lenr];try omega)) only [↓amPre,↓reduceIte,reduceCtorEq,reduceEqDiff,Nat.reduceBEq,reduceAdd,reduceLeDiff,reduceSub,reduceMul,reduceToNat,MM,bu0,cbJ1,cbJ16,f7,f0,f1,f6,m55,htl,kfz]
   first | rfl | (rw [hnk];rfl)
  ·have hR:kdR L=.error (((kpre L).length:Int) - 1):=by unfold kdR;rw [if_neg (by omega),if_neg (fun q=>hbrk (by rw [← hn] at q;exact q)),if_neg (by omega),if_neg hko]
   have hA:=sAreValidKinds (kpre L) (by omega)
   rw [decide_eq_false hko] at hA
   have hwn:IntKind.i64.wrap ((n:Int) - 1)=(n:Int) - 1:=wrap64_id (by omega)
   rw [hR]
   simp -dsimp -implicitDefEqProofs (disch:=first|omega|(simp only [lenr];try omega)) only [↓amPre,↓reduceIte,reduceCtorEq,reduceEqDiff,Nat.reduceBEq,reduceAdd,reduceLeDiff,reduceSub,reduceMul,reduceToNat,MM,bu0,cbJ1,cbJ16,f7,f0,f1,f6,m55,lt_false (show ((L.length:Nat):Int)≤((n:Nat):Int) by omega),htl,eq_false (show ((n:Nat):Int)≠0 by omega),kfz]
   refine callP_of (hA) ?_
   simp -dsimp -implicitDefEqProofs (disch:=first|omega|(simp only [lenr];try omega)) only [↓amPre,↓reduceIte,reduceCtorEq,reduceEqDiff,Nat.reduceBEq,reduceAdd,reduceLeDiff,reduceSub,reduceMul,reduceToNat,MM,bu0,cbJ1,cbJ16,f7,f0,f1,f6,m55,htl,kfz,hwn]
   first | rfl | (rw [hnk];rfl)
end Ps
end Go.AM
set_option maxRecDepth 8000
namespace Go.AM
namespace Ps
open Go.Proofs
def prA:List (List Int)→List AV
 | []=>[]
 | [x]=>[.agg [itr x,.nilsl]]
 | x :: y :: r=>.agg [itr x,itr y] :: prA r
theorem prA_even:∀ (m:Nat) (l:List (List Int)),l.length=2*m→prA l=(pr l).map Twist.tr
 | 0,l,h=>by
  have:l=[]:=List.eq_nil_of_length_eq_zero (by omega)
  subst this;rfl
 | m+1,a :: b :: r,h=>by
  have ih:=prA_even m r (by simp only [List.length_cons] at h;omega)
  show AV.agg [itr a,itr b] :: prA r=Twist.tr ⟨a,b⟩ :: (pr r).map Twist.tr
  rw [ih];rfl
 | m+1,[a],h=>by simp at h;omega
 | m+1,[],h=>by simp at h
theorem prA_odd (x:List Int):∀ (m:Nat) (l:List (List Int)),l.length=2*m→prA (l++[x])=prA l++[.agg [itr x,.nilsl]]
 | 0,l,h=>by
  have:l=[]:=List.eq_nil_of_length_eq_zero (by omega)
  subst this;rfl
 | m+1,a :: b :: r,h=>by
  have ih:=prA_odd x m r (by simp only [List.length_cons] at h;omega)
  show AV.agg [itr a,itr b] :: prA (r++[x])=_
  rw [ih];rfl
 | m+1,[a],h=>by simp at h;omega
 | m+1,[],h=>by simp at h
theorem prA_two (x y:List Int):∀ (m:Nat) (l:List (List Int)),l.length=2*m→prA (l++[x]++[y])=prA l++[.agg [itr x,itr y]]
 | 0,l,h=>by
  have:l=[]:=List.eq_nil_of_length_eq_zero (by omega)
  subst this;rfl
 | m+1,a :: b :: r,h=>by
  have ih:=prA_two x y m r (by simp only [List.length_cons] at h;omega)
  show AV.agg [itr a,itr b] :: prA (r++[x]++[y])=_
  rw [ih];rfl
 | m+1,[a],h=>by simp at h;omega
 | m+1,[],h=>by simp at h
theorem prA_len:∀ (m:Nat) (l:List (List Int)),l.length=2*m→(prA l).length=m:=fun m l h=>by
 rw [prA_even m l h,List.length_map,pr_len m l h]
theorem prA_len2:∀ l:List (List Int),(prA l).length=(l.length+1) / 2
 | []=>rfl
 | [x]=>by simp [prA]
 | x :: y :: r=>by
  have ih:=prA_len2 r
  show (prA r).length+1=(r.length+2+1) / 2
  omega
theorem get_last (A:List AV) (E:AV) (m:Nat) (h:A.length=m):(A++[E]).getD m .any=E:=by
 rw [List.getD_eq_getElem?_getD,List.getElem?_append_right (by omega),h,Nat.sub_self];rfl
theorem set_last (A:List AV) (E E':AV) (m:Nat) (h:A.length=m):(A++[E]).set m E'=A++[E']:=by
 rw [List.set_append_right _ _ (by omega),h,Nat.sub_self];rfl
theorem twists_spec (L:List Ln) (ks:List Kind) (a:Nat) (hL:okL L) (hE:endOk L) (ha:a≤1048577) (hks:ks.length≤1048576) (hkc:∀ k∈ks,0≤k.c∧k.c≤1048575) :
  SpecAt Tryz.prog 56 [ksl ks,.sl 1 (L.map lnP),.i64 (endN L),.i64 a] (.tup [.tr 2 (prA (hls L ks a)),.i64 (stOf (twR L ks a))]):=by
 have hll:=hL.1
 have hle:=hls_le L ks a
 obtain ⟨n,hn⟩:∃ n,n=(hls L ks a).length:=⟨_,rfl⟩
 have hw0:IntKind.i64.wrap (2*((ks.length:Nat):Int))=((2*ks.length:Nat):Int):=by rw [wrap64_id (by omega)];omega
 refine spec_of_awp (M:=MM) (np:=4) (fz:=false) mixed Tryz.func56 rfl rfl (by decide) rfl (Nat.le_refl _) (by decide +kernel) (.inl rfl) (by first | trivial | simp only [sigsOk_nil,sigsOk_some,sigsOk_none,sig_tr,sig_pt,sig_mt,sig_agg,List.map_cons,List.map_nil,sig1_tr,sig1_pt,sig1_v,and_self,true_and,List.length_map,List.length_set]) ?_
 simp -dsimp -implicitDefEqProofs (disch:=first|omega|(simp only [lenr];try omega)) only [↓amPre,↓reduceIte,reduceCtorEq,reduceEqDiff,Nat.reduceBEq,reduceAdd,reduceLeDiff,reduceSub,reduceMul,reduceToNat,MM,bu0,cbJ1,cbJ16]
 refine awp_loopR 16 72 (.tr 2 []) (by simp -dsimp -implicitDefEqProofs (disch:=first|omega|(simp only [lenr];try omega)) only [↓amPre,↓reduceIte,reduceCtorEq,reduceEqDiff,Nat.reduceBEq,reduceAdd,reduceLeDiff,reduceSub,reduceMul,reduceToNat,MM,bu0,cbJ1,cbJ16]) (by decide) (by decide) (by decide) (fun k st=>k≤n∧st.fr 11=.i64 k∧st.fr 0=ksl ks∧st.fr 1=.sl 1 (L.map lnP)∧st.fr 2=.i64 (endN L)∧st.fr 3=.i64 a∧st.fr 10=.ref 72 [] 2 0 ((k+1) / 2)∧st.mem 72=some (.tr 2 (prA ((hls L ks a).take k)))) (n) ?_ ?_
 ·simp -dsimp -implicitDefEqProofs (disch:=first|omega|(simp only [lenr];try omega)) only [↓amPre,↓reduceIte,reduceCtorEq,reduceEqDiff,Nat.reduceBEq,reduceAdd,reduceLeDiff,reduceSub,reduceMul,reduceToNat,MM,bu0,cbJ1,cbJ16,ren_eq]
  exact ⟨Nat.zero_le _,rfl,rfl⟩
 rintro k st _ ⟨hk,f11,f0,f1,f2,f3,f10,m72⟩
 have hwa:IntKind.i64.wrap ((a:Int)+(k:Int))=((a+k:Nat):Int):=by rw [wrap64_id (by omega)];omega
 by_cases hlt:k<2*ks.length
 ·have hlt':((k:Nat):Int)<((2*ks.length:Nat):Int):=by omega
  have hdiv:IntKind.i64.wrap (((k:Nat):Int).tdiv 2)=((k / 2:Nat):Int):=by
   rw [Int.tdiv_eq_ediv_of_nonneg (by omega),wrap64_id (by omega)];omega
  have hmod:((k:Nat):Int).tmod 2=((k % 2:Nat):Int):=by
   rw [Int.tmod_eq_emod_of_nonneg (by omega)];omega
  have hk2l:k / 2<ks.length:=by omega
  have hc:(ks.getD (k / 2) default).c=((cOf ks (k / 2):Nat):Int):=by
   have:=(hkc _ (mem_getD ks (k / 2) default hk2l)).1
   unfold cOf;omega
  have hcb:cOf ks (k / 2)≤1048575:=by
   have:=(hkc _ (mem_getD ks (k / 2) default hk2l)).2
   unfold cOf;omega
  have hpl:(prA ((hls L ks a).take k)).length=(k+1) / 2:=by
   rw [prA_len2,List.length_take];congr 2;omega
  by_cases par:k % 2=0
  ·have m0:((k % 2:Nat):Int)≠1:=by omega
   have m1:((k % 2:Nat):Int)=0:=by omega
   by_cases c1:k<n
   ·have he:=hls_get L ks a k (by omega)
    have hgx:=he
    unfold hl at he
    rw [if_pos par] at he
    obtain ⟨hak,hI⟩:=ln_ok he
    obtain ⟨x,hxe⟩:∃ x,x=(hls L ks a).getD k []:=⟨_,rfl⟩
    rw [← hxe] at hI
    obtain ⟨hnl,htx⟩:=okL_at hL hak
    have hin:=intsS (lat L (a+k)).1 toT (cOf ks (k / 2)) htx (by omega)
    have hEk:=hE (a+k) hak
    rw [lineI_bool] at hI
    obtain ⟨l,hlq⟩:∃ l,l=lat L (a+k):=⟨_,rfl⟩
    rw [← hlq] at hI hin hEk
    have hq:l.2=true:=by
     apply Decidable.byContradiction
     intro q
     rw [if_neg q] at hI
     cases hI
    rw [if_pos hq] at hI
    have hli:liR l.1 toT (cOf ks (k / 2))=(x,true):=by unfold liR;rw [hI]
    rw [hli] at hin
    have hke:=hEk.1 hq
    have hts:(hls L ks a).take (k+1)=(hls L ks a).take k++[x]:=by rw [take_succ_eq _ k [] (by omega),hxe]
    have htl:((hls L ks a).take k).length=k:=by rw [List.length_take];omega
    rw [hts]
    have hpo:=prA_odd x (k / 2) ((hls L ks a).take k) (by omega)
    rw [hpo]
    generalize prA ((hls L ks a).take k)=A at *
    have hk2:(k+1) / 2=k / 2:=by omega
    have hk3:(k+1+1) / 2=k / 2+1:=by omega
    rw [hk2] at f10 hpl
    rw [hk3]
    simp -dsimp -implicitDefEqProofs (disch:=first|omega|(simp only [lenr];try omega)) only [↓amPre,↓reduceIte,reduceCtorEq,reduceEqDiff,Nat.reduceBEq,reduceAdd,reduceLeDiff,reduceSub,reduceMul,reduceToNat,MM,bu0,cbJ1,cbJ16,f11,f0,f1,f2,f3,f10,m72,hw0,hwa,lt_true hlt',le_false (show ((a+k:Nat):Int)<((L.length:Nat):Int) by omega),hdiv,hmod,hc,eq_false m0]
    simp -dsimp -implicitDefEqProofs (disch:=first|omega|(simp only [lenr];try omega)) only [↓amPre,↓reduceIte,reduceCtorEq,reduceEqDiff,Nat.reduceBEq,reduceAdd,reduceLeDiff,reduceSub,reduceMul,reduceToNat,MM,bu0,cbJ1,cbJ16,f11,f0,f1,f2,f3,f10,m72,← hlq]
    refine callP_of (hin) ?_
    simp -dsimp -implicitDefEqProofs (disch:=first|omega|(simp only [lenr];try omega)) only [↓amPre,↓reduceIte,reduceCtorEq,reduceEqDiff,Nat.reduceBEq,reduceAdd,reduceLeDiff,reduceSub,reduceMul,reduceToNat,MM,bu0,cbJ1,cbJ16,f11,f0,f1,f2,f3,f10,m72,hwa,hpl,le_false (show ((a+k:Nat):Int)<((endN L:Nat):Int) by omega),hmod,eq_true m1]
    first | rfl | exact ⟨by omega,by omega⟩
   ·
    have hkn:k=n:=by omega
    have hpl2:(prA (hls L ks a)).length=(k+1) / 2:=by rw [prA_len2];omega
    obtain ⟨e,he,hR,_⟩:=twR_err (L:=L) (ks:=ks) (a:=a) (by omega)
    rw [← hn,← hkn] at he
    unfold hl ln at he
    rw [hR]
    by_cases c2:L.length≤a+k
    ·rw [if_pos c2] at he
     injection he with he
     subst he
     simp -dsimp -implicitDefEqProofs (disch:=first|omega|(simp only [lenr];try omega)) only [↓amPre,↓reduceIte,reduceCtorEq,reduceEqDiff,Nat.reduceBEq,reduceAdd,reduceLeDiff,reduceSub,reduceMul,reduceToNat,MM,bu0,cbJ1,cbJ16,f11,f0,f1,f2,f3,f10,m72,hw0,hwa,lt_true hlt',le_true (show ((L.length:Nat):Int)≤((a+k:Nat):Int) by omega),hpl,hpl2]
     first | rfl | exact ⟨by omega,by omega⟩
    ·rw [if_neg c2,if_pos par] at he
     obtain ⟨hnl,htx⟩:=okL_at hL (show a+k<L.length by omega)
     have hin:=intsS (lat L (a+k)).1 toT (cOf ks (k / 2)) htx (by omega)
     have hEk:=hE (a+k) (by omega)
     rw [lineI_bool] at he
     obtain ⟨l,hlq⟩:∃ l,l=lat L (a+k):=⟨_,rfl⟩
     rw [← hlq] at he hin hEk
     cases hx:lineI (l.1,true) toT (cOf ks (k / 2)) with
     | none =>
      have hli:liR l.1 toT (cOf ks (k / 2))=([],false):=by unfold liR;rw [hx]
      rw [hli] at hin
      have he2:e=((a+k:Nat):Int):=by
       rw [hx] at he
       by_cases q:l.2=true
       ·rw [if_pos q] at he;injection he with he;exact he.symm
       ·rw [if_neg q] at he;injection he with he;exact he.symm
      subst he2
      simp -dsimp -implicitDefEqProofs (disch:=first|omega|(simp only [lenr];try omega)) only [↓amPre,↓reduceIte,reduceCtorEq,reduceEqDiff,Nat.reduceBEq,reduceAdd,reduceLeDiff,reduceSub,reduceMul,reduceToNat,MM,bu0,cbJ1,cbJ16,f11,f0,f1,f2,f3,f10,m72,hw0,hwa,lt_true hlt',le_false (show ((a+k:Nat):Int)<((L.length:Nat):Int) by omega),hdiv,hmod,hc,eq_false m0]
      simp -dsimp -implicitDefEqProofs (disch:=first|omega|(simp only [lenr];try omega)) only [↓amPre,↓reduceIte,reduceCtorEq,reduceEqDiff,Nat.reduceBEq,reduceAdd,reduceLeDiff,reduceSub,reduceMul,reduceToNat,MM,bu0,cbJ1,cbJ16,f11,f0,f1,f2,f3,f10,m72,← hlq]
      refine callP_of (hin) ?_
      simp -dsimp -implicitDefEqProofs (disch:=first|omega|(simp only [lenr];try omega)) only [↓amPre,↓reduceIte,reduceCtorEq,reduceEqDiff,Nat.reduceBEq,reduceAdd,reduceLeDiff,reduceSub,reduceMul,reduceToNat,MM,bu0,cbJ1,cbJ16,f11,f0,f1,f2,f3,f10,m72,hwa,hpl,hpl2]
      first | rfl | exact ⟨by omega,by omega⟩
     | some x =>
      have hli:liR l.1 toT (cOf ks (k / 2))=(x,true):=by unfold liR;rw [hx]
      rw [hli] at hin
      have hq:¬ l.2=true:=fun q=>by
       rw [if_pos q,hx] at he;cases he
      have he2:e=((a+k:Nat):Int):=by
       rw [if_neg hq] at he;injection he with he;exact he.symm
      subst he2
      have hke:¬ a+k<endN L:=fun q=>hq (hEk.2 q)
      simp -dsimp -implicitDefEqProofs (disch:=first|omega|(simp only [lenr];try omega)) only [↓amPre,↓reduceIte,reduceCtorEq,reduceEqDiff,Nat.reduceBEq,reduceAdd,reduceLeDiff,reduceSub,reduceMul,reduceToNat,MM,bu0,cbJ1,cbJ16,f11,f0,f1,f2,f3,f10,m72,hw0,hwa,lt_true hlt',le_false (show ((a+k:Nat):Int)<((L.length:Nat):Int) by omega),hdiv,hmod,hc,eq_false m0]
      simp -dsimp -implicitDefEqProofs (disch:=first|omega|(simp only [lenr];try omega)) only [↓amPre,↓reduceIte,reduceCtorEq,reduceEqDiff,Nat.reduceBEq,reduceAdd,reduceLeDiff,reduceSub,reduceMul,reduceToNat,MM,bu0,cbJ1,cbJ16,f11,f0,f1,f2,f3,f10,m72,← hlq]
      refine callP_of (hin) ?_
      simp -dsimp -implicitDefEqProofs (disch:=first|omega|(simp only [lenr];try omega)) only [↓amPre,↓reduceIte,reduceCtorEq,reduceEqDiff,Nat.reduceBEq,reduceAdd,reduceLeDiff,reduceSub,reduceMul,reduceToNat,MM,bu0,cbJ1,cbJ16,f11,f0,f1,f2,f3,f10,m72,hwa,hpl,hpl2,le_true (show ((endN L:Nat):Int)≤((a+k:Nat):Int) by omega)]
      first | rfl | exact ⟨by omega,by omega⟩
  ·have m0:((k % 2:Nat):Int)=1:=by omega
   have m1:((k % 2:Nat):Int)≠0:=by omega
   by_cases c1:k<n
   ·have he:=hls_get L ks a k (by omega)
    have hgx:=he
    unfold hl at he
    rw [if_neg par] at he
    obtain ⟨hak,hI⟩:=ln_ok he
    obtain ⟨x,hxe⟩:∃ x,x=(hls L ks a).getD k []:=⟨_,rfl⟩
    rw [← hxe] at hI
    obtain ⟨hnl,htx⟩:=okL_at hL hak
    have hin:=intsS (lat L (a+k)).1 byT (cOf ks (k / 2)) htx (by omega)
    have hEk:=hE (a+k) hak
    rw [lineI_bool] at hI
    obtain ⟨l,hlq⟩:∃ l,l=lat L (a+k):=⟨_,rfl⟩
    rw [← hlq] at hI hin hEk
    have hq:l.2=true:=by
     apply Decidable.byContradiction
     intro q
     rw [if_neg q] at hI
     cases hI
    rw [if_pos hq] at hI
    have hli:liR l.1 byT (cOf ks (k / 2))=(x,true):=by unfold liR;rw [hI]
    rw [hli] at hin
    have hke:=hEk.1 hq
    have hts:(hls L ks a).take (k+1)=(hls L ks a).take k++[x]:=by rw [take_succ_eq _ k [] (by omega),hxe]
    have htl:((hls L ks a).take k).length=k:=by rw [List.length_take];omega
    rw [hts]
    obtain ⟨y,B,hB,hBl⟩:∃ (y:List Int) (B:List (List Int)),(hls L ks a).take k=B++[y]∧B.length=2*(k / 2):=by
     refine ⟨(hls L ks a).getD (2*(k / 2)) [],(hls L ks a).take (2*(k / 2)),?_,by rw [List.length_take];omega⟩
     rw [← take_succ_eq _ _ [] (by omega)]
     congr 1;omega
    have hpo:=prA_odd y (k / 2) B hBl
    have hpt:=prA_two y x (k / 2) B hBl
    have hAl:=prA_len (k / 2) B hBl
    rw [hB,hpo] at m72
    rw [hB,hpt]
    generalize prA B=A at *
    have hk2:(k+1) / 2=k / 2+1:=by omega
    have hk3:(k+1+1) / 2=k / 2+1:=by omega
    rw [hk2] at f10
    rw [hk3]
    have hgl:=fun E=>get_last A E (k / 2) hAl
    have hsl:=fun E E'=>set_last A E E' (k / 2) hAl
    have hall:∀ E,(A++[E]).length=k / 2+1:=fun E=>by rw [List.length_append,hAl];rfl
    simp -dsimp -implicitDefEqProofs (disch:=first|omega|(simp only [lenr];try omega)) only [↓amPre,↓reduceIte,reduceCtorEq,reduceEqDiff,Nat.reduceBEq,reduceAdd,reduceLeDiff,reduceSub,reduceMul,reduceToNat,MM,bu0,cbJ1,cbJ16,f11,f0,f1,f2,f3,f10,m72,hw0,hwa,lt_true hlt',le_false (show ((a+k:Nat):Int)<((L.length:Nat):Int) by omega),hdiv,hmod,hc,eq_true m0]
    simp -dsimp -implicitDefEqProofs (disch:=first|omega|(simp only [lenr];try omega)) only [↓amPre,↓reduceIte,reduceCtorEq,reduceEqDiff,Nat.reduceBEq,reduceAdd,reduceLeDiff,reduceSub,reduceMul,reduceToNat,MM,bu0,cbJ1,cbJ16,f11,f0,f1,f2,f3,f10,m72,← hlq]
    refine callP_of (hin) ?_
    simp -dsimp -implicitDefEqProofs (disch:=first|omega|(simp only [lenr];try omega)) only [↓amPre,↓reduceIte,reduceCtorEq,reduceEqDiff,Nat.reduceBEq,reduceAdd,reduceLeDiff,reduceSub,reduceMul,reduceToNat,MM,bu0,cbJ1,cbJ16,f11,f0,f1,f2,f3,f10,m72,hwa,hall,le_false (show ((a+k:Nat):Int)<((endN L:Nat):Int) by omega),hmod,hdiv,hgl,hsl,eq_false m1]
    first | rfl | exact ⟨by omega,by omega⟩
   ·
    have hkn:k=n:=by omega
    have hpl2:(prA (hls L ks a)).length=(k+1) / 2:=by rw [prA_len2];omega
    obtain ⟨e,he,hR,_⟩:=twR_err (L:=L) (ks:=ks) (a:=a) (by omega)
    rw [← hn,← hkn] at he
    unfold hl ln at he
    rw [hR]
    by_cases c2:L.length≤a+k
    ·rw [if_pos c2] at he
     injection he with he
     subst he
     simp -dsimp -implicitDefEqProofs (disch:=first|omega|(simp only [lenr];try omega)) only [↓amPre,↓reduceIte,reduceCtorEq,reduceEqDiff,Nat.reduceBEq,reduceAdd,reduceLeDiff,reduceSub,reduceMul,reduceToNat,MM,bu0,cbJ1,cbJ16,f11,f0,f1,f2,f3,f10,m72,hw0,hwa,lt_true hlt',le_true (show ((L.length:Nat):Int)≤((a+k:Nat):Int) by omega),hpl,hpl2]
     first | rfl | exact ⟨by omega,by omega⟩
    ·rw [if_neg c2,if_neg par] at he
     obtain ⟨hnl,htx⟩:=okL_at hL (show a+k<L.length by omega)
     have hin:=intsS (lat L (a+k)).1 byT (cOf ks (k / 2)) htx (by omega)
     have hEk:=hE (a+k) (by omega)
     rw [lineI_bool] at he
     obtain ⟨l,hlq⟩:∃ l,l=lat L (a+k):=⟨_,rfl⟩
     rw [← hlq] at he hin hEk
     cases hx:lineI (l.1,true) byT (cOf ks (k / 2)) with
     | none =>
      have hli:liR l.1 byT (cOf ks (k / 2))=([],false):=by unfold liR;rw [hx]
      rw [hli] at hin
      have he2:e=((a+k:Nat):Int):=by
       rw [hx] at he
       by_cases q:l.2=true
       ·rw [if_pos q] at he;injection he with he;exact he.symm
       ·rw [if_neg q] at he;injection he with he;exact he.symm
      subst he2
      simp -dsimp -implicitDefEqProofs (disch:=first|omega|(simp only [lenr];try omega)) only [↓amPre,↓reduceIte,reduceCtorEq,reduceEqDiff,Nat.reduceBEq,reduceAdd,reduceLeDiff,reduceSub,reduceMul,reduceToNat,MM,bu0,cbJ1,cbJ16,f11,f0,f1,f2,f3,f10,m72,hw0,hwa,lt_true hlt',le_false (show ((a+k:Nat):Int)<((L.length:Nat):Int) by omega),hdiv,hmod,hc,eq_true m0]
      simp -dsimp -implicitDefEqProofs (disch:=first|omega|(simp only [lenr];try omega)) only [↓amPre,↓reduceIte,reduceCtorEq,reduceEqDiff,Nat.reduceBEq,reduceAdd,reduceLeDiff,reduceSub,reduceMul,reduceToNat,MM,bu0,cbJ1,cbJ16,f11,f0,f1,f2,f3,f10,m72,← hlq]
      refine callP_of (hin) ?_
      simp -dsimp -implicitDefEqProofs (disch:=first|omega|(simp only [lenr];try omega)) only [↓amPre,↓reduceIte,reduceCtorEq,reduceEqDiff,Nat.reduceBEq,reduceAdd,reduceLeDiff,reduceSub,reduceMul,reduceToNat,MM,bu0,cbJ1,cbJ16,f11,f0,f1,f2,f3,f10,m72,hwa,hpl,hpl2]
      first | rfl | exact ⟨by omega,by omega⟩
     | some x =>
      have hli:liR l.1 byT (cOf ks (k / 2))=(x,true):=by unfold liR;rw [hx]
      rw [hli] at hin
      have hq:¬ l.2=true:=fun q=>by
       rw [if_pos q,hx] at he;cases he
      have he2:e=((a+k:Nat):Int):=by
       rw [if_neg hq] at he;injection he with he;exact he.symm
      subst he2
      have hke:¬ a+k<endN L:=fun q=>hq (hEk.2 q)
      simp -dsimp -implicitDefEqProofs (disch:=first|omega|(simp only [lenr];try omega)) only [↓amPre,↓reduceIte,reduceCtorEq,reduceEqDiff,Nat.reduceBEq,reduceAdd,reduceLeDiff,reduceSub,reduceMul,reduceToNat,MM,bu0,cbJ1,cbJ16,f11,f0,f1,f2,f3,f10,m72,hw0,hwa,lt_true hlt',le_false (show ((a+k:Nat):Int)<((L.length:Nat):Int) by omega),hdiv,hmod,hc,eq_true m0]
      simp -dsimp -implicitDefEqProofs (disch:=first|omega|(simp only [lenr];try omega)) only [↓amPre,↓reduceIte,reduceCtorEq,reduceEqDiff,Nat.reduceBEq,reduceAdd,reduceLeDiff,reduceSub,reduceMul,reduceToNat,MM,bu0,cbJ1,cbJ16,f11,f0,f1,f2,f3,f10,m72,← hlq]
      refine callP_of (hin) ?_
      simp -dsimp -implicitDefEqProofs (disch:=first|omega|(simp only [lenr];try omega)) only [↓amPre,↓reduceIte,reduceCtorEq,reduceEqDiff,Nat.reduceBEq,reduceAdd,reduceLeDiff,reduceSub,reduceMul,reduceToNat,MM,bu0,cbJ1,cbJ16,f11,f0,f1,f2,f3,f10,m72,hwa,hpl,hpl2,le_true (show ((endN L:Nat):Int)≤((a+k:Nat):Int) by omega)]
      first | rfl | exact ⟨by omega,by omega⟩
 ·have hke:k=2*ks.length:=by omega
  subst hke
  have hR:twR L ks a=.ok (pr (hls L ks a)):=if_pos (by omega)
  rw [hR]
  rw [List.take_of_length_le (by omega)] at m72
  have hpl:=prA_len ks.length (hls L ks a) (by omega)
  simp -dsimp -implicitDefEqProofs (disch:=first|omega|(simp only [lenr];try omega)) only [↓amPre,↓reduceIte,reduceCtorEq,reduceEqDiff,Nat.reduceBEq,reduceAdd,reduceLeDiff,reduceSub,reduceMul,reduceToNat,MM,bu0,cbJ1,cbJ16,f11,f0,f1,f2,f3,f10,m72,hw0,lt_false (Int.le_refl ((2*ks.length:Nat):Int)),hpl]
  rfl
end Ps
end Go.AM
set_option maxRecDepth 8000
namespace Go.AM
namespace Ps
open Go.Proofs
theorem okL_ln {s:Tx} (hs:s.length≤1048576):okL (lnsOf s):=⟨by have:=lns_len s;omega,fun l hl=>⟨lns_no s l hl,by have:=(lns_mem s l hl).1;omega⟩⟩
def pzU (n:Nat) (X:Except Int (Tx×List (List Int))):Except Int Puzz:=match X with
 | .error e=>.error e
 | .ok (nm,mv)=>if puzzOk ⟨n,nm,mv⟩ then .ok ⟨n,nm,mv⟩ else .error (-4)
theorem lineM_bool (l:Ln) (n:Nat):lineM l n=if l.2=true then lineM (l.1,true) n else none:=by
 obtain ⟨t,e⟩:=l
 cases e with
 | true=>rw [if_pos rfl]
 | false =>
  rw [if_neg (fun q=>by cases q)]
  unfold lineM lineW
  rw [if_neg (fun q=>by cases q.1)]
theorem lineM_len {l:Ln} {n:Nat} {w:Tx} {x:List Int} (h:lineM l n=some (w,x)):w.length=1∧x.length=n∧∀ y∈x,inNum y:=by
 unfold lineM at h
 split at h
 ·rename_i u us hu
  have h1:=(lineW_len hu).1
  split at h
  ·rename_i hl
   split at h
   ·rename_i y hy
    cases h
    have h2:=numsW_some hy
    simp only [List.length_cons] at h1
    exact ⟨hl.1,by omega,h2.2.1⟩
   ·cases h
  ·cases h
 ·cases h
theorem parsePuzzleS (s:Tx) (hs:s.length≤1048576):SpecAt Tryz.prog 22 [.st s] (.tup [(ppz s).1.tr,.i64 (ppz s).2]):=by
 by_cases c0:2000<s.length
 ·have hres:ppz s=(noP,-2):=by unfold ppz ppzE;rw [if_pos c0];rfl
  rw [hres]
  refine spec_of_awp_any (M:=MM) (np:=1) (X:=[13]) (fz:=false) mixed Tryz.func22 rfl rfl (by decide) rfl (Nat.le_refl _) (by decide +kernel) (.inl rfl) (by first | trivial | simp only [sigsOk_nil,sigsOk_some,sigsOk_none,sig_tr,sig_pt,sig_mt,sig_agg,List.map_cons,List.map_nil,sig1_tr,sig1_pt,sig1_v,and_self,true_and,List.length_map,List.length_set]) ?_
  simp -dsimp -implicitDefEqProofs (disch:=first|omega|(simp only [lenr];try omega)) only [↓amPre,↓reduceIte,reduceCtorEq,reduceEqDiff,Nat.reduceBEq,reduceAdd,reduceLeDiff,reduceSub,reduceMul,reduceToNat,MM,bu0,cbJ1,cbJ16,lt_true (show (2000:Int)<((s.length:Nat):Int) by omega)]
  exact ⟨rfl,rfl,rfl⟩
 have hli:=linesS s hs
 have hE:=endOk_lns s
 have hL:=okL_ln hs
 have hres:ppz s=outP noP (pzR (lnsOf s)):=by unfold ppz ppzE;rw [if_neg c0]
 generalize lnsOf s=L at *
 have hll:=hL.1
 obtain ⟨RS,hRS⟩:∃ RS,RS=pzR L:=⟨_,rfl⟩
 rw [← hRS] at hres
 have hen:endN L≤L.length:=by unfold endN;split <;> omega
 have hs0:∀ n,pzH L=.ok n→RS=pzU n (pzL L n L.length 1 [] []):=fun n h=>by
  rw [hRS];unfold pzR;rw [h];rfl
 have hs1:∀ e,pzH L=.error e→RS=.error e:=fun e h=>by
  rw [hRS];unfold pzR;rw [h]
 refine spec_of_awp_any (M:=MM) (np:=1) (X:=[13]) (fz:=false) mixed Tryz.func22 rfl rfl (by decide) rfl (Nat.le_refl _) (by decide +kernel) (.inl rfl) (by first | trivial | simp only [sigsOk_nil,sigsOk_some,sigsOk_none,sig_tr,sig_pt,sig_mt,sig_agg,List.map_cons,List.map_nil,sig1_tr,sig1_pt,sig1_v,and_self,true_and,List.length_map,List.length_set]) ?_
 simp -dsimp -implicitDefEqProofs (disch:=first|omega|(simp only [lenr];try omega)) only [↓amPre,↓reduceIte,reduceCtorEq,reduceEqDiff,Nat.reduceBEq,reduceAdd,reduceLeDiff,reduceSub,reduceMul,reduceToNat,MM,bu0,cbJ1,cbJ16,lt_false (show ((s.length:Nat):Int)≤(2000:Int) by omega)]
 refine callP_frz hli ?_
 simp -dsimp -implicitDefEqProofs (disch:=first|omega|(simp only [lenr];try omega)) only [↓amPre,↓reduceIte,reduceCtorEq,reduceEqDiff,Nat.reduceBEq,reduceAdd,reduceLeDiff,reduceSub,reduceMul,reduceToNat,MM,bu0,cbJ1,cbJ16,lpfz]
 refine awp_loopC 6 2 3 1 [.i64 0,.st [],.nilsl] (by simp -dsimp -implicitDefEqProofs (disch:=first|omega|(simp only [lenr];try omega)) only [↓amPre,↓reduceIte,reduceCtorEq,reduceEqDiff,Nat.reduceBEq,reduceAdd,reduceLeDiff,reduceSub,reduceMul,reduceToNat,MM,bu0,cbJ1,cbJ16]) (by simp) (by simp) (fun k st=>k≤L.length∧st.fr 7=.i64 k∧st.fr 4=.sl 1 (L.map lnP)∧st.fr 5=.i64 (endN L)∧st.fr 6=.loc 6 [] 0 0∧st.fr 2=.loc 2 [] 0 0∧st.mem 2=some (.pt 3 (.agg [.i64 0,.st [],.nilsl]))∧(∃ (n:Nat) (nm:Tx) (mv:List (List Int)),st.mem 6=some (.pt 3 (.agg [.i64 n,.st nm,sst mv]))∧(k=0→n=0∧nm=[]∧mv=[])∧nm.length=k - 1∧mv.length=k - 1∧n≤20∧(∀ x∈mv,x.length=n)∧(1≤k→RS=pzU n (pzL L n (L.length - (k - 1)) k nm mv)))) (L.length) ?_ ?_
 ·simp -dsimp -implicitDefEqProofs (disch:=first|omega|(simp only [lenr];try omega)) only [↓amPre,↓reduceIte,reduceCtorEq,reduceEqDiff,Nat.reduceBEq,reduceAdd,reduceLeDiff,reduceSub,reduceMul,reduceToNat,MM,bu0,cbJ1,cbJ16,nilC_eq]
  exact ⟨Nat.zero_le _,rfl,0,[],[],rfl,fun _=>⟨rfl,rfl,rfl⟩,rfl,rfl,by omega,fun x hx=>(by cases hx),fun q=>(by first | exact False.elim q | exact absurd q (by omega))⟩
 rintro k st _ ⟨hk,f7,f4,f5,f6,f2,m2,ek⟩
 obtain ⟨n,nm,mv,m6,hz,hnl,hml,hn20,hmn,hgo⟩:=ek
 by_cases hlt:k<L.length
 ·have hlt':((k:Nat):Int)<L.length:=by omega
  obtain ⟨hnl2,htx⟩:=okL_at hL hlt
  have hEk:=hE k hlt
  obtain ⟨l,hlq⟩:∃ l,l=lat L k:=⟨_,rfl⟩
  by_cases hk0:k=0
  ·subst hk0
   obtain ⟨rfl,rfl,rfl⟩:=hz rfl
   have hin:=intsS (lat L 0).1 pointsT 1 htx (by omega)
   have hH:pzH L=(match lineI (lat L 0) pointsT 1 with | some l=>(if 1≤l.getD 0 0∧l.getD 0 0≤20 then .ok (l.getD 0 0).toNat else .error 0) | none=>.error 0):=by
    unfold pzH ln
    rw [if_neg (by omega)]
    cases lineI (lat L 0) pointsT 1 <;> rfl
   rw [lineI_bool] at hH
   rw [← hlq] at hin hEk hH htx
   cases hx:lineI (l.1,true) pointsT 1 with
   | none =>
    have hli2:liR l.1 pointsT 1=([],false):=by unfold liR;rw [hx]
    have hP:pzH L=.error 0:=by rw [hH,hx];cases l.2 <;> rfl
    have hres2:ppz s=(noP,0):=by rw [hres,hs1 0 hP];rfl
    rw [hli2] at hin
    rw [hres2]
    simp -dsimp -implicitDefEqProofs (disch:=first|omega|(simp only [lenr];try omega)) only [↓amPre,↓reduceIte,reduceCtorEq,reduceEqDiff,Nat.reduceBEq,reduceAdd,reduceLeDiff,reduceSub,reduceMul,reduceToNat,MM,bu0,cbJ1,cbJ16,f7,f4,f5,f6,f2,m2,m6,lt_true hlt',eq_true (rfl:((0:Nat):Int)=0),← hlq]
    refine callP_of (hin) ?_
    simp -dsimp -implicitDefEqProofs (disch:=first|omega|(simp only [lenr];try omega)) only [↓amPre,↓reduceIte,reduceCtorEq,reduceEqDiff,Nat.reduceBEq,reduceAdd,reduceLeDiff,reduceSub,reduceMul,reduceToNat,MM,bu0,cbJ1,cbJ16,f7,f4,f5,f6,f2,m2,m6]
    first | exact ⟨rfl,rfl,rfl⟩ | exact ⟨⟨rfl,rfl,rfl⟩,rfl⟩
   | some x =>
    have hli2:liR l.1 pointsT 1=(x,true):=by unfold liR;rw [hx]
    rw [hli2] at hin
    have hxl:=lineI_some hx
    have hxi:=hxl.2.1 _ (mem_getD x 0 0 (by omega))
    have hxl1:=hxl.1
    by_cases he2:l.2=true
    ·rw [if_pos he2,hx] at hH
     have hke:=hEk.1 he2
     have hir:=inRange (x.getD 0 0) 1 20
     by_cases hb:1≤x.getD 0 0∧x.getD 0 0≤20
     ·have hw:within (x.getD 0 0) 1 20=true:=by simp [within];exact hb
      rw [hw] at hir
      have hH:pzH L=.ok (x.getD 0 0).toNat:=by rw [hH];exact if_pos hb
      have hxc:x.getD 0 0=(((x.getD 0 0).toNat:Nat):Int):=by omega
      have hgo1:=hs0 _ hH
      have hx20:(x.getD 0 0).toNat≤20:=by omega
      generalize (x.getD 0 0).toNat=n at *
      simp -dsimp -implicitDefEqProofs (disch:=first|omega|(simp only [lenr];try omega)) only [↓amPre,↓reduceIte,reduceCtorEq,reduceEqDiff,Nat.reduceBEq,reduceAdd,reduceLeDiff,reduceSub,reduceMul,reduceToNat,MM,bu0,cbJ1,cbJ16,f7,f4,f5,f6,f2,m2,m6,lt_true hlt',eq_true (rfl:((0:Nat):Int)=0),← hlq]
      refine callP_of (hin) ?_
      simp -dsimp -implicitDefEqProofs (disch:=first|omega|(simp only [lenr];try omega)) only [↓amPre,↓reduceIte,reduceCtorEq,reduceEqDiff,Nat.reduceBEq,reduceAdd,reduceLeDiff,reduceSub,reduceMul,reduceToNat,MM,bu0,cbJ1,cbJ16,f7,f4,f5,f6,f2,m2,m6,le_false (show ((0:Nat):Int)<((endN L:Nat):Int) by omega),hxl1]
      refine callP_of (hir) ?_
      simp -dsimp -implicitDefEqProofs (disch:=first|omega|(simp only [lenr];try omega)) only [↓amPre,↓reduceIte,reduceCtorEq,reduceEqDiff,Nat.reduceBEq,reduceAdd,reduceLeDiff,reduceSub,reduceMul,reduceToNat,MM,bu0,cbJ1,cbJ16,f7,f4,f5,f6,f2,m2,m6,hxl1,hxc,(fun Q st=>blockQ_exit_ne Q st 1 0 rfl)]
      exact ⟨hlt,by omega,n,[],[],rfl,fun q=>(by first | exact False.elim q | exact absurd q (by omega)),rfl,rfl,hx20,fun x hx=>(by cases hx),fun _=>hgo1⟩
     ·have hw:within (x.getD 0 0) 1 20=false:=by
       rw [Bool.eq_false_iff];intro q;apply hb;simpa [within] using q
      rw [hw] at hir
      have hH:pzH L=.error 0:=by rw [hH];exact if_neg hb
      have hres2:ppz s=(noP,0):=by rw [hres,hs1 0 hH];rfl
      rw [hres2]
      simp -dsimp -implicitDefEqProofs (disch:=first|omega|(simp only [lenr];try omega)) only [↓amPre,↓reduceIte,reduceCtorEq,reduceEqDiff,Nat.reduceBEq,reduceAdd,reduceLeDiff,reduceSub,reduceMul,reduceToNat,MM,bu0,cbJ1,cbJ16,f7,f4,f5,f6,f2,m2,m6,lt_true hlt',eq_true (rfl:((0:Nat):Int)=0),← hlq]
      refine callP_of (hin) ?_
      simp -dsimp -implicitDefEqProofs (disch:=first|omega|(simp only [lenr];try omega)) only [↓amPre,↓reduceIte,reduceCtorEq,reduceEqDiff,Nat.reduceBEq,reduceAdd,reduceLeDiff,reduceSub,reduceMul,reduceToNat,MM,bu0,cbJ1,cbJ16,f7,f4,f5,f6,f2,m2,m6,le_false (show ((0:Nat):Int)<((endN L:Nat):Int) by omega),hxl1]
      refine callP_of (hir) ?_
      simp -dsimp -implicitDefEqProofs (disch:=first|omega|(simp only [lenr];try omega)) only [↓amPre,↓reduceIte,reduceCtorEq,reduceEqDiff,Nat.reduceBEq,reduceAdd,reduceLeDiff,reduceSub,reduceMul,reduceToNat,MM,bu0,cbJ1,cbJ16,f7,f4,f5,f6,f2,m2,m6]
      first | exact ⟨rfl,rfl,rfl⟩ | exact ⟨⟨rfl,rfl,rfl⟩,rfl⟩
    ·rw [if_neg he2] at hH
     have hke:¬ 0<endN L:=fun q=>he2 (hEk.2 q)
     have hres2:ppz s=(noP,0):=by rw [hres,hs1 0 hH];rfl
     rw [hres2]
     simp -dsimp -implicitDefEqProofs (disch:=first|omega|(simp only [lenr];try omega)) only [↓amPre,↓reduceIte,reduceCtorEq,reduceEqDiff,Nat.reduceBEq,reduceAdd,reduceLeDiff,reduceSub,reduceMul,reduceToNat,MM,bu0,cbJ1,cbJ16,f7,f4,f5,f6,f2,m2,m6,lt_true hlt',eq_true (rfl:((0:Nat):Int)=0),← hlq]
     refine callP_of (hin) ?_
     simp -dsimp -implicitDefEqProofs (disch:=first|omega|(simp only [lenr];try omega)) only [↓amPre,↓reduceIte,reduceCtorEq,reduceEqDiff,Nat.reduceBEq,reduceAdd,reduceLeDiff,reduceSub,reduceMul,reduceToNat,MM,bu0,cbJ1,cbJ16,f7,f4,f5,f6,f2,m2,m6,le_true (show ((endN L:Nat):Int)≤((0:Nat):Int) by omega)]
     first | exact ⟨rfl,rfl,rfl⟩ | exact ⟨⟨rfl,rfl,rfl⟩,rfl⟩
  ·have hm:=moveS (lat L k).1 n htx (by omega)
   have hne0:((k:Nat):Int)≠0:=by omega
   have hgo:=hgo (by omega)
   have hMb:=lineM_bool (lat L k) n
   rw [show L.length - (k - 1)=(L.length - k)+1 by omega,pzL,if_neg (by omega)] at hgo
   rw [← hlq] at hm hEk hgo hMb htx
   cases hx:lineM (l.1,true) n with
   | none =>
    have hmv2:mvR l.1 n=([],[],false):=by unfold mvR;rw [hx]
    rw [hmv2] at hm
    have hMn:lineM l n=none:=by rw [hMb,hx];cases l.2 <;> rfl
    rw [hMn] at hgo
    have hres2:ppz s=(noP,(k:Int)):=by rw [hres,hgo];rfl
    rw [hres2]
    simp -dsimp -implicitDefEqProofs (disch:=first|omega|(simp only [lenr];try omega)) only [↓amPre,↓reduceIte,reduceCtorEq,reduceEqDiff,Nat.reduceBEq,reduceAdd,reduceLeDiff,reduceSub,reduceMul,reduceToNat,MM,bu0,cbJ1,cbJ16,f7,f4,f5,f6,f2,m2,m6,lt_true hlt',eq_false hne0]
    refine split_go 13 (by decide +kernel) ?_
    simp -dsimp -implicitDefEqProofs (disch:=first|omega|(simp only [lenr];try omega)) only [↓amPre,↓reduceIte,reduceCtorEq,reduceEqDiff,Nat.reduceBEq,reduceAdd,reduceLeDiff,reduceSub,reduceMul,reduceToNat,MM,bu0,cbJ1,cbJ16,f7,f4,f5,f6,f2,m2,m6,← hlq]
    refine callP_of (hm) ?_
    simp -dsimp -implicitDefEqProofs (disch:=first|omega|(simp only [lenr];try omega)) only [↓amPre,↓reduceIte,reduceCtorEq,reduceEqDiff,Nat.reduceBEq,reduceAdd,reduceLeDiff,reduceSub,reduceMul,reduceToNat,MM,bu0,cbJ1,cbJ16,f7,f4,f5,f6,f2,m2,m6]
    first | exact ⟨rfl,rfl,rfl⟩ | exact ⟨⟨rfl,rfl,rfl⟩,rfl⟩
   | some wx =>
    obtain ⟨w,x⟩:=wx
    have hmv2:mvR l.1 n=(w,x,true):=by unfold mvR;rw [hx]
    rw [hmv2] at hm
    obtain ⟨wl,xl,_⟩:=lineM_len hx
    by_cases he2:l.2=true
    ·have hMn:lineM l n=some (w,x):=by rw [hMb,if_pos he2,hx]
     rw [hMn] at hgo
     have hke:=hEk.1 he2
     simp -dsimp -implicitDefEqProofs (disch:=first|omega|(simp only [lenr];try omega)) only [↓amPre,↓reduceIte,reduceCtorEq,reduceEqDiff,Nat.reduceBEq,reduceAdd,reduceLeDiff,reduceSub,reduceMul,reduceToNat,MM,bu0,cbJ1,cbJ16,f7,f4,f5,f6,f2,m2,m6,lt_true hlt',eq_false hne0]
     refine split_go 13 (by decide +kernel) ?_
     simp -dsimp -implicitDefEqProofs (disch:=first|omega|(simp only [lenr];try omega)) only [↓amPre,↓reduceIte,reduceCtorEq,reduceEqDiff,Nat.reduceBEq,reduceAdd,reduceLeDiff,reduceSub,reduceMul,reduceToNat,MM,bu0,cbJ1,cbJ16,f7,f4,f5,f6,f2,m2,m6,← hlq]
     refine callP_of (hm) ?_
     simp -dsimp -implicitDefEqProofs (disch:=first|omega|(simp only [lenr];try omega)) only [↓amPre,↓reduceIte,reduceCtorEq,reduceEqDiff,Nat.reduceBEq,reduceAdd,reduceLeDiff,reduceSub,reduceMul,reduceToNat,MM,bu0,cbJ1,cbJ16,f7,f4,f5,f6,f2,m2,m6,xl,hml,le_false (show ((k:Nat):Int)<((endN L:Nat):Int) by omega)]
     refine ⟨hlt,by omega,n,nm++w,mv++[x],rfl,fun q=>(by first | exact False.elim q | exact absurd q (by omega)),by rw [List.length_append,hnl,wl];omega,by rw [List.length_append,hml,List.length_singleton];omega,hn20,fun y hy=>?_,fun _=>?_⟩
     ·rcases List.mem_append.1 hy with hy | hy
      ·exact hmn y hy
      ·rw [List.mem_singleton.1 hy];exact xl
     ·rw [hgo,show L.length - (k+1 - 1)=L.length - k by omega]
    ·have hMn:lineM l n=none:=by rw [hMb,if_neg he2]
     rw [hMn] at hgo
     have hke:¬ k<endN L:=fun q=>he2 (hEk.2 q)
     have hres2:ppz s=(noP,(k:Int)):=by rw [hres,hgo];rfl
     rw [hres2]
     simp -dsimp -implicitDefEqProofs (disch:=first|omega|(simp only [lenr];try omega)) only [↓amPre,↓reduceIte,reduceCtorEq,reduceEqDiff,Nat.reduceBEq,reduceAdd,reduceLeDiff,reduceSub,reduceMul,reduceToNat,MM,bu0,cbJ1,cbJ16,f7,f4,f5,f6,f2,m2,m6,lt_true hlt',eq_false hne0]
     refine split_go 13 (by decide +kernel) ?_
     simp -dsimp -implicitDefEqProofs (disch:=first|omega|(simp only [lenr];try omega)) only [↓amPre,↓reduceIte,reduceCtorEq,reduceEqDiff,Nat.reduceBEq,reduceAdd,reduceLeDiff,reduceSub,reduceMul,reduceToNat,MM,bu0,cbJ1,cbJ16,f7,f4,f5,f6,f2,m2,m6,← hlq]
     refine callP_of (hm) ?_
     simp -dsimp -implicitDefEqProofs (disch:=first|omega|(simp only [lenr];try omega)) only [↓amPre,↓reduceIte,reduceCtorEq,reduceEqDiff,Nat.reduceBEq,reduceAdd,reduceLeDiff,reduceSub,reduceMul,reduceToNat,MM,bu0,cbJ1,cbJ16,f7,f4,f5,f6,f2,m2,m6,xl,le_true (show ((endN L:Nat):Int)≤((k:Nat):Int) by omega)]
     first | exact ⟨rfl,rfl,rfl⟩ | exact ⟨⟨rfl,rfl,rfl⟩,rfl⟩
 ·have hke:k=L.length:=by omega
  subst hke
  have hltf:=lt_false (Int.le_refl ((L.length:Nat):Int))
  by_cases hmz:mv=[]
  ·subst hmz
   have hres2:ppz s=(noP,-3):=by
    by_cases hk0:L.length=0
    ·have:L=[]:=List.eq_nil_of_length_eq_zero hk0
     rw [hres,hs1 (-3) (by rw [this];rfl)];rfl
    ·have hl1:L.length=1:=by simp at hml;omega
     have hgo:=hgo (by omega)
     rw [hl1] at hgo
     rw [hres,hgo,pzL,if_pos (by omega),if_pos rfl];rfl
   rw [hres2]
   simp -dsimp -implicitDefEqProofs (disch:=first|omega|(simp only [lenr];try omega)) only [↓amPre,↓reduceIte,reduceCtorEq,reduceEqDiff,Nat.reduceBEq,reduceAdd,reduceLeDiff,reduceSub,reduceMul,reduceToNat,MM,bu0,cbJ1,cbJ16,f7,f4,f5,f6,f2,m2,m6,hltf]
   first | exact ⟨rfl,rfl,rfl⟩ | exact ⟨⟨rfl,rfl,rfl⟩,rfl⟩
  ·have hmp:0<mv.length:=List.length_pos_iff.2 hmz
   have hgo:=hgo (by omega)
   rw [show L.length - (L.length - 1)=0+1 by omega,pzL,if_pos (Nat.le_refl _),if_neg hmz] at hgo
   have hmz2:((mv.length:Nat):Int)≠0:=by omega
   have hsm:smallP ⟨n,nm,mv⟩:=⟨by show intOk (n:Int);unfold intOk;omega,by show nm.length≤_;omega,by show mv.length≤_;omega,fun x hx=>by rw [hmn x hx];omega⟩
   have hP:=sPuzzle ⟨n,nm,mv⟩ hsm
   by_cases c9:puzzOk ⟨n,nm,mv⟩
   ·have hres2:ppz s=(⟨n,nm,mv⟩,-1):=by
     rw [hres,hgo];show outP noP (if puzzOk ⟨n,nm,mv⟩ then _ else _)=_;rw [if_pos c9];rfl
    rw [decide_eq_true c9] at hP
    rw [hres2]
    simp -dsimp -implicitDefEqProofs (disch:=first|omega|(simp only [lenr];try omega)) only [↓amPre,↓reduceIte,reduceCtorEq,reduceEqDiff,Nat.reduceBEq,reduceAdd,reduceLeDiff,reduceSub,reduceMul,reduceToNat,MM,bu0,cbJ1,cbJ16,f7,f4,f5,f6,f2,m2,m6,hltf,eq_false hmz2,ssfz]
    refine callP_of (hP) ?_
    simp -dsimp -implicitDefEqProofs (disch:=first|omega|(simp only [lenr];try omega)) only [↓amPre,↓reduceIte,reduceCtorEq,reduceEqDiff,Nat.reduceBEq,reduceAdd,reduceLeDiff,reduceSub,reduceMul,reduceToNat,MM,bu0,cbJ1,cbJ16,f7,f4,f5,f6,f2,m2,m6,ssfz]
   ·have hres2:ppz s=(noP,-4):=by
     rw [hres,hgo];show outP noP (if puzzOk ⟨n,nm,mv⟩ then _ else _)=_;rw [if_neg c9];rfl
    rw [decide_eq_false c9] at hP
    rw [hres2]
    simp -dsimp -implicitDefEqProofs (disch:=first|omega|(simp only [lenr];try omega)) only [↓amPre,↓reduceIte,reduceCtorEq,reduceEqDiff,Nat.reduceBEq,reduceAdd,reduceLeDiff,reduceSub,reduceMul,reduceToNat,MM,bu0,cbJ1,cbJ16,f7,f4,f5,f6,f2,m2,m6,hltf,eq_false hmz2,ssfz]
    refine callP_of (hP) ?_
    simp -dsimp -implicitDefEqProofs (disch:=first|omega|(simp only [lenr];try omega)) only [↓amPre,↓reduceIte,reduceCtorEq,reduceEqDiff,Nat.reduceBEq,reduceAdd,reduceLeDiff,reduceSub,reduceMul,reduceToNat,MM,bu0,cbJ1,cbJ16,f7,f4,f5,f6,f2,m2,m6,ssfz]
    first | exact ⟨rfl,rfl,rfl⟩ | exact ⟨⟨rfl,rfl,rfl⟩,rfl⟩
end Ps
end Go.AM
set_option maxRecDepth 8000
namespace Go.AM
namespace Ps
open Go.Proofs
def mdU (ks:List Kind) (X:Except Int (Tx×List (List Twist))):Except Int Model:=match X with
 | .error e=>.error e
 | .ok (nm,mv)=>if modelOk ⟨ks,nm,mv⟩ then .ok ⟨ks,nm,mv⟩ else .error (-4)
theorem twR_ok {L:List Ln} {ks:List Kind} {a:Nat} {t:List Twist} (h:twR L ks a=.ok t) (hks:1≤ks.length):t=pr (hls L ks a)∧(hls L ks a).length=2*ks.length∧a+2*ks.length≤L.length:=by
 unfold twR at h
 split at h
 ·rename_i q
  cases h
  refine ⟨rfl,q,?_⟩
  have:=hls_get L ks a (2*ks.length - 1) (by omega)
  unfold hl at this
  have:=(ln_ok this).1
  omega
 ·split at h
  ·cases h
  ·cases h
theorem tw_smallT {L:List Ln} {ks:List Kind} {a:Nat} {t:List Twist} (h:twR L ks a=.ok t) (hk:kindsOk ks):smallT t:=by
 have hg:=twS_good L ks a
 rw [h] at hg
 have hlen:=twS_len L ks ⟨a,-1⟩ ks.length
 have hnum:=twS_num L ks ⟨a,-1⟩ ks.length
 rw [hg] at hlen hnum
 replace hlen:t.length=ks.length:=hlen
 have:=hk.1
 refine ⟨by omega,fun x hx=>?_⟩
 obtain ⟨i,hi,rfl⟩:=List.getElem_of_mem hx
 have h1:=hnum i (by omega)
 replace h1:numT (t.getD i default) (cOf ks i):=h1
 rw [getD_eq _ _ _ hi] at h1
 have hc:cOf ks i≤20:=by
  have:=kindsOk_kind hk (mem_getD ks i default (by omega))
  unfold cOf;omega
 unfold numT at h1
 omega
theorem parseModelS (s:Tx) (hs:s.length≤1048576):SpecAt Tryz.prog 15 [.st s] (.tup [(pmd s).1.sl,.i64 (pmd s).2]):=by
 by_cases c0:2000<s.length
 ·have hres:pmd s=(noM,-2):=by unfold pmd pmdE;rw [if_pos c0];rfl
  rw [hres]
  refine spec_of_awp_any (M:=MM) (np:=1) (X:=[19]) (fz:=true) mixed Tryz.func15 rfl rfl (by decide) rfl (Nat.le_refl _) (by decide +kernel) (.inr ⟨rfl,rfl⟩) trivial ?_
  simp -dsimp -implicitDefEqProofs (disch:=first|omega|(simp only [lenr];try omega)) only [↓amPre,↓reduceIte,reduceCtorEq,reduceEqDiff,Nat.reduceBEq,reduceAdd,reduceLeDiff,reduceSub,reduceMul,reduceToNat,MM,bu0,cbJ1,cbJ16,lt_true (show (2000:Int)<((s.length:Nat):Int) by omega)]
  exact ⟨rfl,rfl,rfl⟩
 have hli:=linesS s hs
 have hE:=endOk_lns s
 have hL:=okL_ln hs
 have hres:pmd s=outP noM (mdR (lnsOf s)):=by unfold pmd pmdE;rw [if_neg c0]
 generalize lnsOf s=L at *
 have hll:=hL.1
 obtain ⟨RS,hRS⟩:∃ RS,RS=mdR L:=⟨_,rfl⟩
 rw [← hRS] at hres
 have hen:endN L≤L.length:=by unfold endN;split <;> omega
 have hltf:=lt_false (show ((s.length:Nat):Int)≤(2000:Int) by omega)
 by_cases hz:L.length=0
 ·have hL0:L=[]:=List.eq_nil_of_length_eq_zero hz
  have hres2:pmd s=(noM,-3):=by rw [hres,hRS];unfold mdR;rw [if_pos hL0];rfl
  rw [hres2]
  refine spec_of_awp_any (M:=MM) (np:=1) (X:=[19]) (fz:=true) mixed Tryz.func15 rfl rfl (by decide) rfl (Nat.le_refl _) (by decide +kernel) (.inr ⟨rfl,rfl⟩) trivial ?_
  simp -dsimp -implicitDefEqProofs (disch:=first|omega|(simp only [lenr];try omega)) only [↓amPre,↓reduceIte,reduceCtorEq,reduceEqDiff,Nat.reduceBEq,reduceAdd,reduceLeDiff,reduceSub,reduceMul,reduceToNat,MM,bu0,cbJ1,cbJ16,hltf]
  refine callP_frz hli ?_
  simp -dsimp -implicitDefEqProofs (disch:=first|omega|(simp only [lenr];try omega)) only [↓amPre,↓reduceIte,reduceCtorEq,reduceEqDiff,Nat.reduceBEq,reduceAdd,reduceLeDiff,reduceSub,reduceMul,reduceToNat,MM,bu0,cbJ1,cbJ16,lpfz,eq_true (show ((L.length:Nat):Int)=0 by omega)]
  exact ⟨rfl,rfl,rfl⟩
 have hz0:=eq_false (show ((L.length:Nat):Int)≠0 by omega)
 have hne:L≠[]:=fun q=>hz (by rw [q];rfl)
 have hkd:=kindsS_spec L hL hE
 have hR1:RS=(match kdR L with | .error e=>.error e | .ok ks=>mdU ks (mdL L ks (L.length+1) ks.length [] [])):=by
  rw [hRS];unfold mdR;rw [if_neg hne];rfl
 cases hk:kdR L with
 | error e =>
  rw [hk] at hkd hR1
  have hg:=kindsS_good L
  rw [if_neg hne,hk] at hg
  have hres2:pmd s=(noM,e):=by rw [hres,hR1];rfl
  rw [hres2]
  refine spec_of_awp_any (M:=MM) (np:=1) (X:=[19]) (fz:=true) mixed Tryz.func15 rfl rfl (by decide) rfl (Nat.le_refl _) (by decide +kernel) (.inr ⟨rfl,rfl⟩) trivial ?_
  simp -dsimp -implicitDefEqProofs (disch:=first|omega|(simp only [lenr];try omega)) only [↓amPre,↓reduceIte,reduceCtorEq,reduceEqDiff,Nat.reduceBEq,reduceAdd,reduceLeDiff,reduceSub,reduceMul,reduceToNat,MM,bu0,cbJ1,cbJ16,hltf]
  refine callP_frz hli ?_
  simp -dsimp -implicitDefEqProofs (disch:=first|omega|(simp only [lenr];try omega)) only [↓amPre,↓reduceIte,reduceCtorEq,reduceEqDiff,Nat.reduceBEq,reduceAdd,reduceLeDiff,reduceSub,reduceMul,reduceToNat,MM,bu0,cbJ1,cbJ16,lpfz,hz0]
  refine callP_frz hkd ?_
  simp -dsimp -implicitDefEqProofs (disch:=first|omega|(simp only [lenr];try omega)) only [↓amPre,↓reduceIte,reduceCtorEq,reduceEqDiff,Nat.reduceBEq,reduceAdd,reduceLeDiff,reduceSub,reduceMul,reduceToNat,MM,bu0,cbJ1,cbJ16,kfz,stOf,ne_true hg.2]
  exact ⟨rfl,rfl,rfl⟩
 | ok ks =>
 rw [hk] at hkd hR1
 obtain ⟨hko,hkp⟩:=kdR_ok hk
 have hk3:(kpre L).take 3=ks:=by rw [← hkp];exact List.take_of_length_le (by have:=hko.1;omega)
 rw [hk3] at hkd
 have hkn:=hko.1
 have hkc:∀ k∈ks,0≤k.c∧k.c≤1048575:=fun k hk=>by have:=kindsOk_kind hko hk;omega
 have hkl2:=kpre_le L
 rw [← hkp] at hkl2
 replace hR1:RS=mdU ks (mdL L ks (L.length+1) ks.length [] []):=hR1
 refine spec_of_awp_any (M:=MM) (np:=1) (X:=[19]) (fz:=true) mixed Tryz.func15 rfl rfl (by decide) rfl (Nat.le_refl _) (by decide +kernel) (.inr ⟨rfl,rfl⟩) trivial ?_
 simp -dsimp -implicitDefEqProofs (disch:=first|omega|(simp only [lenr];try omega)) only [↓amPre,↓reduceIte,reduceCtorEq,reduceEqDiff,Nat.reduceBEq,reduceAdd,reduceLeDiff,reduceSub,reduceMul,reduceToNat,MM,bu0,cbJ1,cbJ16,hltf]
 refine callP_frz hli ?_
 simp -dsimp -implicitDefEqProofs (disch:=first|omega|(simp only [lenr];try omega)) only [↓amPre,↓reduceIte,reduceCtorEq,reduceEqDiff,Nat.reduceBEq,reduceAdd,reduceLeDiff,reduceSub,reduceMul,reduceToNat,MM,bu0,cbJ1,cbJ16,lpfz,hz0]
 refine callP_frz hkd ?_
 simp -dsimp -implicitDefEqProofs (disch:=first|omega|(simp only [lenr];try omega)) only [↓amPre,↓reduceIte,reduceCtorEq,reduceEqDiff,Nat.reduceBEq,reduceAdd,reduceLeDiff,reduceSub,reduceMul,reduceToNat,MM,bu0,cbJ1,cbJ16,kfz,stOf,ne_false (rfl:(-1:Int) = -1)]
 refine awp_loopC 8 2 3 1 [ksl ks,.st [],.nilsl] (by simp -dsimp -implicitDefEqProofs (disch:=first|omega|(simp only [lenr];try omega)) only [↓amPre,↓reduceIte,reduceCtorEq,reduceEqDiff,Nat.reduceBEq,reduceAdd,reduceLeDiff,reduceSub,reduceMul,reduceToNat,MM,bu0,cbJ1,cbJ16]) (by simp) (by simp) (fun k st=>k≤(L.length+1)∧st.fr 4=.sl 1 (L.map lnP)∧st.fr 5=.i64 (endN L)∧st.fr 6=ksl ks∧st.fr 8=.loc 8 [] 0 0∧st.fr 2=.loc 2 [] 0 0∧st.mem 2=some (.pt 3 (.agg [.nilsl,.st [],.nilsl]))∧(∃ (a:Nat) (nm:Tx) (mv:List (List Twist)),st.fr 9=.i64 a∧st.mem 8=some (.pt 3 (.agg [ksl ks,.st nm,tsst mv]))∧k≤a∧a≤L.length∧nm.length=k∧mv.length=k∧(∀ x∈mv,smallT x)∧RS=mdU ks (mdL L ks (L.length+1 - k) a nm mv))) ((L.length+1)) ?_ ?_
 ·simp -dsimp -implicitDefEqProofs (disch:=first|omega|(simp only [lenr];try omega)) only [↓amPre,↓reduceIte,reduceCtorEq,reduceEqDiff,Nat.reduceBEq,reduceAdd,reduceLeDiff,reduceSub,reduceMul,reduceToNat,MM,bu0,cbJ1,cbJ16,nilC_eq]
  exact ⟨ks.length,[],[],rfl,rfl,Nat.zero_le _,hkl2,rfl,rfl,fun x hx=>(by cases hx),hR1⟩
 rintro k st _ ⟨hk,f4,f5,f6,f8,f2,m2,ek⟩
 obtain ⟨a,nm,mv,f9,m8,hka,hal,hnl,hml,hmn,hgo⟩:=ek
 rw [show L.length+1 - k=(L.length - k)+1 by omega,mdL] at hgo
 by_cases hlt:a<L.length
 ·have hlt':((a:Nat):Int)<L.length:=by omega
  rw [if_neg (by omega)] at hgo
  obtain ⟨hnl2,htx⟩:=okL_at hL hlt
  have hEk:=hE a hlt
  obtain ⟨l,hlq⟩:∃ l,l=lat L a:=⟨_,rfl⟩
  have hsp:=splitTextS (lat L a).1 32 htx
  rw [← hlq] at hsp hEk hgo htx
  obtain ⟨ws,hws⟩:∃ ws,ws=spl 32 l.1:=⟨_,rfl⟩
  have hpos:0<(spl 32 l.1).length:=List.length_pos_iff.2 (spl_ne _ _)
  have hwl:=spl_len 32 l.1
  rw [← hws] at hsp hpos hwl
  have hbad:lineN l=none→pmd s=(noM,(a:Int)):=fun q=>by rw [q] at hgo;rw [hres,hgo];rfl
  have hN:lineN l=if l.2=true∧ws.getD 0 []=moveT∧ws.length=2 then (if isLet (ws.getD 1 []) then some (ws.getD 1 []) else none) else none:=by
   unfold lineN lineW
   rw [← hws]
   by_cases q:l.2=true∧ws.getD 0 []=moveT∧ws.length=1+1
   ·rw [if_pos q,if_pos q]
    obtain ⟨u,v,rfl⟩:∃ u v,ws=[u,v]:=by
     match ws,q.2.2 with
     | [u,v],_=>exact ⟨u,v,rfl⟩
    rfl
   ·rw [if_neg q,if_neg q]
  by_cases c1:ws.length=2
  case neg =>
   rw [hbad (by rw [hN,if_neg (fun q=>c1 q.2.2)])]
   simp -dsimp -implicitDefEqProofs (disch:=first|omega|(simp only [lenr];try omega)) only [↓amPre,↓reduceIte,reduceCtorEq,reduceEqDiff,Nat.reduceBEq,reduceAdd,reduceLeDiff,reduceSub,reduceMul,reduceToNat,MM,bu0,cbJ1,cbJ16,f4,f5,f6,f8,f2,m2,f9,m8,lt_true hlt',← hlq]
   refine callP_frz hsp ?_
   simp -dsimp -implicitDefEqProofs (disch:=first|omega|(simp only [lenr];try omega)) only [↓amPre,↓reduceIte,reduceCtorEq,reduceEqDiff,Nat.reduceBEq,reduceAdd,reduceLeDiff,reduceSub,reduceMul,reduceToNat,MM,bu0,cbJ1,cbJ16,f4,f5,f6,f8,f2,m2,f9,m8,stfz,ne_true (show ((ws.length:Nat):Int)≠2 by omega)]
   exact ⟨rfl,rfl,rfl⟩
  have c1':=ne_false (show ((ws.length:Nat):Int)=2 by omega)
  by_cases c2:ws.getD 0 []=moveT
  case neg =>
   rw [hbad (by rw [hN,if_neg (fun q=>c2 q.2.1)])]
   simp -dsimp -implicitDefEqProofs (disch:=first|omega|(simp only [lenr];try omega)) only [↓amPre,↓reduceIte,reduceCtorEq,reduceEqDiff,Nat.reduceBEq,reduceAdd,reduceLeDiff,reduceSub,reduceMul,reduceToNat,MM,bu0,cbJ1,cbJ16,f4,f5,f6,f8,f2,m2,f9,m8,lt_true hlt',← hlq]
   refine callP_frz hsp ?_
   simp -dsimp -implicitDefEqProofs (disch:=first|omega|(simp only [lenr];try omega)) only [↓amPre,↓reduceIte,reduceCtorEq,reduceEqDiff,Nat.reduceBEq,reduceAdd,reduceLeDiff,reduceSub,reduceMul,reduceToNat,MM,bu0,cbJ1,cbJ16,f4,f5,f6,f8,f2,m2,f9,m8,stfz,c1',(show (ws.getD 0 [] == [109,111,118,101])=false from txne c2)]
   exact ⟨rfl,rfl,rfl⟩
  have c2':(ws.getD 0 [] == [109,111,118,101])=true:=txeq c2
  obtain ⟨u,hu⟩:∃ u,u=ws.getD 1 []:=⟨_,rfl⟩
  rw [← hu] at hN
  have hlet:=letterS u
  by_cases c3:isLet u
  case neg =>
   rw [decide_eq_false c3] at hlet
   rw [hbad (by rw [hN];split <;> first | rfl | exact if_neg c3)]
   simp -dsimp -implicitDefEqProofs (disch:=first|omega|(simp only [lenr];try omega)) only [↓amPre,↓reduceIte,reduceCtorEq,reduceEqDiff,Nat.reduceBEq,reduceAdd,reduceLeDiff,reduceSub,reduceMul,reduceToNat,MM,bu0,cbJ1,cbJ16,f4,f5,f6,f8,f2,m2,f9,m8,lt_true hlt',← hlq]
   refine callP_frz hsp ?_
   simp -dsimp -implicitDefEqProofs (disch:=first|omega|(simp only [lenr];try omega)) only [↓amPre,↓reduceIte,reduceCtorEq,reduceEqDiff,Nat.reduceBEq,reduceAdd,reduceLeDiff,reduceSub,reduceMul,reduceToNat,MM,bu0,cbJ1,cbJ16,f4,f5,f6,f8,f2,m2,f9,m8,stfz,c1',c2',← hu]
   refine callP_of (hlet) ?_
   simp -dsimp -implicitDefEqProofs (disch:=first|omega|(simp only [lenr];try omega)) only [↓amPre,↓reduceIte,reduceCtorEq,reduceEqDiff,Nat.reduceBEq,reduceAdd,reduceLeDiff,reduceSub,reduceMul,reduceToNat,MM,bu0,cbJ1,cbJ16,f4,f5,f6,f8,f2,m2,f9,m8]
   exact ⟨rfl,rfl,rfl⟩
  rw [decide_eq_true c3] at hlet
  by_cases c4:l.2=true
  case neg =>
   have hke:¬ a<endN L:=fun q=>c4 (hEk.2 q)
   rw [hbad (by rw [hN,if_neg (fun q=>c4 q.1)])]
   simp -dsimp -implicitDefEqProofs (disch:=first|omega|(simp only [lenr];try omega)) only [↓amPre,↓reduceIte,reduceCtorEq,reduceEqDiff,Nat.reduceBEq,reduceAdd,reduceLeDiff,reduceSub,reduceMul,reduceToNat,MM,bu0,cbJ1,cbJ16,f4,f5,f6,f8,f2,m2,f9,m8,lt_true hlt',← hlq]
   refine callP_frz hsp ?_
   simp -dsimp -implicitDefEqProofs (disch:=first|omega|(simp only [lenr];try omega)) only [↓amPre,↓reduceIte,reduceCtorEq,reduceEqDiff,Nat.reduceBEq,reduceAdd,reduceLeDiff,reduceSub,reduceMul,reduceToNat,MM,bu0,cbJ1,cbJ16,f4,f5,f6,f8,f2,m2,f9,m8,stfz,c1',c2',← hu]
   refine callP_of (hlet) ?_
   simp -dsimp -implicitDefEqProofs (disch:=first|omega|(simp only [lenr];try omega)) only [↓amPre,↓reduceIte,reduceCtorEq,reduceEqDiff,Nat.reduceBEq,reduceAdd,reduceLeDiff,reduceSub,reduceMul,reduceToNat,MM,bu0,cbJ1,cbJ16,f4,f5,f6,f8,f2,m2,f9,m8,le_true (show ((endN L:Nat):Int)≤((a:Nat):Int) by omega)]
   exact ⟨rfl,rfl,rfl⟩
  have hke:=hEk.1 c4
  have hul1:u.length=1:=c3.1
  rw [if_pos ⟨c4,c2,c1⟩,if_pos c3] at hN
  rw [hN] at hgo
  dsimp only at hgo
  have htw:=twists_spec L ks (a+1) hL hE (by omega) (by omega) hkc
  have hcast:((a:Int)+1)=((a+1:Nat):Int):=by omega
  cases ht:twR L ks (a+1) with
  | error e =>
   rw [ht] at hgo htw
   have hg:=twS_good L ks (a+1)
   rw [ht] at hg
   have hres2:pmd s=(noM,e):=by rw [hres,hgo];rfl
   rw [hres2]
   simp -dsimp -implicitDefEqProofs (disch:=first|omega|(simp only [lenr];try omega)) only [↓amPre,↓reduceIte,reduceCtorEq,reduceEqDiff,Nat.reduceBEq,reduceAdd,reduceLeDiff,reduceSub,reduceMul,reduceToNat,MM,bu0,cbJ1,cbJ16,f4,f5,f6,f8,f2,m2,f9,m8,lt_true hlt',← hlq]
   refine callP_frz hsp ?_
   simp -dsimp -implicitDefEqProofs (disch:=first|omega|(simp only [lenr];try omega)) only [↓amPre,↓reduceIte,reduceCtorEq,reduceEqDiff,Nat.reduceBEq,reduceAdd,reduceLeDiff,reduceSub,reduceMul,reduceToNat,MM,bu0,cbJ1,cbJ16,f4,f5,f6,f8,f2,m2,f9,m8,stfz,c1',c2',← hu]
   refine callP_of (hlet) ?_
   simp -dsimp -implicitDefEqProofs (disch:=first|omega|(simp only [lenr];try omega)) only [↓amPre,↓reduceIte,reduceCtorEq,reduceEqDiff,Nat.reduceBEq,reduceAdd,reduceLeDiff,reduceSub,reduceMul,reduceToNat,MM,bu0,cbJ1,cbJ16,f4,f5,f6,f8,f2,m2,f9,m8,le_false (show ((a:Nat):Int)<((endN L:Nat):Int) by omega),hcast]
   refine callP_of (htw) ?_
   simp -dsimp -implicitDefEqProofs (disch:=first|omega|(simp only [lenr];try omega)) only [↓amPre,↓reduceIte,reduceCtorEq,reduceEqDiff,Nat.reduceBEq,reduceAdd,reduceLeDiff,reduceSub,reduceMul,reduceToNat,MM,bu0,cbJ1,cbJ16,f4,f5,f6,f8,f2,m2,f9,m8,stOf,ne_true hg.2]
   exact ⟨rfl,rfl,rfl⟩
  | ok t =>
   rw [ht] at hgo htw
   obtain ⟨h1,h2,h3⟩:=twR_ok ht hkn.1
   have hts:=tw_smallT ht hko
   rw [prA_even ks.length _ h2,← h1] at htw
   have htl:t.length=ks.length:=by rw [h1];exact pr_len _ _ h2
   have hw2:IntKind.i64.wrap (2*((ks.length:Nat):Int))=((2*ks.length:Nat):Int):=by rw [wrap64_id (by omega)];omega
   have hw3:IntKind.i64.wrap (((a+1:Nat):Int)+((2*ks.length:Nat):Int))=((a+1+2*ks.length:Nat):Int):=by rw [wrap64_id (by omega)];omega
   simp -dsimp -implicitDefEqProofs (disch:=first|omega|(simp only [lenr];try omega)) only [↓amPre,↓reduceIte,reduceCtorEq,reduceEqDiff,Nat.reduceBEq,reduceAdd,reduceLeDiff,reduceSub,reduceMul,reduceToNat,MM,bu0,cbJ1,cbJ16,f4,f5,f6,f8,f2,m2,f9,m8,lt_true hlt',← hlq]
   refine callP_frz hsp ?_
   simp -dsimp -implicitDefEqProofs (disch:=first|omega|(simp only [lenr];try omega)) only [↓amPre,↓reduceIte,reduceCtorEq,reduceEqDiff,Nat.reduceBEq,reduceAdd,reduceLeDiff,reduceSub,reduceMul,reduceToNat,MM,bu0,cbJ1,cbJ16,f4,f5,f6,f8,f2,m2,f9,m8,stfz,c1',c2',← hu]
   refine callP_of (hlet) ?_
   simp -dsimp -implicitDefEqProofs (disch:=first|omega|(simp only [lenr];try omega)) only [↓amPre,↓reduceIte,reduceCtorEq,reduceEqDiff,Nat.reduceBEq,reduceAdd,reduceLeDiff,reduceSub,reduceMul,reduceToNat,MM,bu0,cbJ1,cbJ16,f4,f5,f6,f8,f2,m2,f9,m8,le_false (show ((a:Nat):Int)<((endN L:Nat):Int) by omega),hcast]
   refine callP_of (htw) ?_
   simp -dsimp -implicitDefEqProofs (disch:=first|omega|(simp only [lenr];try omega)) only [↓amPre,↓reduceIte,reduceCtorEq,reduceEqDiff,Nat.reduceBEq,reduceAdd,reduceLeDiff,reduceSub,reduceMul,reduceToNat,MM,bu0,cbJ1,cbJ16,f4,f5,f6,f8,f2,m2,f9,m8,stOf,ne_false (rfl:(-1:Int) = -1),htl]
   refine split_go 5 (by decide +kernel) ?_
   simp -dsimp -implicitDefEqProofs (disch:=first|omega|(simp only [lenr];try omega)) only [↓amPre,↓reduceIte,reduceCtorEq,reduceEqDiff,Nat.reduceBEq,reduceAdd,reduceLeDiff,reduceSub,reduceMul,reduceToNat,MM,bu0,cbJ1,cbJ16,f4,f5,f6,f8,f2,m2,f9,m8,htl,hml,← hu,hcast,hw2,hw3]
   refine ⟨by omega,by omega,a+1+2*ks.length,nm++u,mv++[t],rfl,rfl,by omega,by omega,by rw [List.length_append,hnl,hul1],by rw [List.length_append,hml];rfl,fun y hy=>?_,?_⟩
   ·rcases List.mem_append.1 hy with hy | hy
    ·exact hmn y hy
    ·rw [List.mem_singleton.1 hy];exact hts
   ·rw [hgo,show L.length+1 - (k+1)=L.length - k by omega]
 ·have hae:a=L.length:=by omega
  subst hae
  have hltz:=lt_false (Int.le_refl ((L.length:Nat):Int))
  rw [if_pos (Nat.le_refl _)] at hgo
  by_cases hmz:mv=[]
  ·subst hmz
   rw [if_pos rfl] at hgo
   have hres2:pmd s=(noM,-3):=by rw [hres,hgo];rfl
   rw [hres2]
   simp -dsimp -implicitDefEqProofs (disch:=first|omega|(simp only [lenr];try omega)) only [↓amPre,↓reduceIte,reduceCtorEq,reduceEqDiff,Nat.reduceBEq,reduceAdd,reduceLeDiff,reduceSub,reduceMul,reduceToNat,MM,bu0,cbJ1,cbJ16,f4,f5,f6,f8,f2,m2,f9,m8,hltz]
   exact ⟨rfl,rfl,rfl⟩
  ·rw [if_neg hmz] at hgo
   have hmp:0<mv.length:=List.length_pos_iff.2 hmz
   have hmz2:((mv.length:Nat):Int)≠0:=by omega
   have hsm:smallM ⟨ks,nm,mv⟩:=⟨by show ks.length≤_;omega,by show nm.length≤_;omega,by show mv.length≤_;omega,hmn⟩
   have hP:=sIsValidPieceModel ⟨ks,nm,mv⟩ hsm
   by_cases c9:modelOk ⟨ks,nm,mv⟩
   ·have hres2:pmd s=(⟨ks,nm,mv⟩,-1):=by
     rw [hres,hgo];show outP noM (if modelOk ⟨ks,nm,mv⟩ then _ else _)=_;rw [if_pos c9];rfl
    rw [decide_eq_true c9] at hP
    rw [hres2]
    simp -dsimp -implicitDefEqProofs (disch:=first|omega|(simp only [lenr];try omega)) only [↓amPre,↓reduceIte,reduceCtorEq,reduceEqDiff,Nat.reduceBEq,reduceAdd,reduceLeDiff,reduceSub,reduceMul,reduceToNat,MM,bu0,cbJ1,cbJ16,f4,f5,f6,f8,f2,m2,f9,m8,hltz,eq_false hmz2,tssfz]
    refine callP_of (hP) ?_
    simp -dsimp -implicitDefEqProofs (disch:=first|omega|(simp only [lenr];try omega)) only [↓amPre,↓reduceIte,reduceCtorEq,reduceEqDiff,Nat.reduceBEq,reduceAdd,reduceLeDiff,reduceSub,reduceMul,reduceToNat,MM,bu0,cbJ1,cbJ16,f4,f5,f6,f8,f2,m2,m8,tssfz]
   ·have hres2:pmd s=(noM,-4):=by
     rw [hres,hgo];show outP noM (if modelOk ⟨ks,nm,mv⟩ then _ else _)=_;rw [if_neg c9];rfl
    rw [decide_eq_false c9] at hP
    rw [hres2]
    simp -dsimp -implicitDefEqProofs (disch:=first|omega|(simp only [lenr];try omega)) only [↓amPre,↓reduceIte,reduceCtorEq,reduceEqDiff,Nat.reduceBEq,reduceAdd,reduceLeDiff,reduceSub,reduceMul,reduceToNat,MM,bu0,cbJ1,cbJ16,f4,f5,f6,f8,f2,m2,f9,m8,hltz,eq_false hmz2,tssfz]
    refine callP_of (hP) ?_
    simp -dsimp -implicitDefEqProofs (disch:=first|omega|(simp only [lenr];try omega)) only [↓amPre,↓reduceIte,reduceCtorEq,reduceEqDiff,Nat.reduceBEq,reduceAdd,reduceLeDiff,reduceSub,reduceMul,reduceToNat,MM,bu0,cbJ1,cbJ16,f4,f5,f6,f8,f2,m2,m8,tssfz]
    exact ⟨rfl,rfl,rfl⟩
end Ps
end Go.AM
namespace Go.AM
/-! the effect of a word;the points that it moves -/
def letP (mv:List (List Int)) (x:Int):List Int:=if 0<x then mv.getD (x - 1).toNat default else invI (mv.getD (-x - 1).toNat default)
def effK (n:Int) (mv:List (List Int)) (w:List Int):Nat→List Int
 | 0=>runI 0 n.toNat
 | k+1=>compI (effK n mv w k) (letP mv (w.getD k 0))
def movL (p:List Int) (k:Nat):List Int:=((List.range k).filter fun i=>p.getD i 0 != (i:Int)).map fun (i:Nat)=>(i:Int)
def imgL (p:List Int) (k:Nat):List Int:=((List.range k).filter fun i=>p.getD i 0 != (i:Int)).map fun i=>p.getD i 0
end Go.AM
set_option maxRecDepth 8000
namespace Go.AM
open Go.Proofs
def supR (p:Puzz) (w:List Int):List Int:=if puzzOk p∧wordOk p.mv.length w then movL (effK p.n p.mv w w.length) p.n.toNat else []
end Go.AM
set_option maxRecDepth 8000
namespace Go.AM
open Go.Proofs
def canScr (p:Puzz) (x c:Int):Prop:=puzzOk p∧within x 0 2147483646=true∧within c 0 200=true
instance (p:Puzz) (x c:Int):Decidable (canScr p x c):=by unfold canScr;infer_instance
def scrR (p:Puzz) (x c:Int):List Int:=if canScr p x c then scrW p.mv.length x c.toNat else []
end Go.AM
set_option maxRecDepth 8000
namespace Go.AM
open Go.Proofs
def pwL (e:List Int) (k:Nat):List Int:=(List.range e.length).map fun x=>((itN (fOf e) k x:Nat):Int)
def lcmK (L:List (List Int)):Nat→Nat
 | 0=>1
 | j+1=>Nat.lcm (lcmK L j) (L.getD j default).length
def ordE (e:List Int):Nat:=lcmK (longC (cycI e)) (longC (cycI e)).length
def spK (e:List Int):Nat→Nat×Nat
 | 0=>(0,0)
 | j+1=>if (spK e j).1=0∨(movL (pwL e (j+1)) e.length).length<(spK e j).2 then (j+1,(movL (pwL e (j+1)) e.length).length) else spK e j
end Go.AM
set_option maxRecDepth 8000
namespace Go.AM
open Go.Proofs
def treeGcd:OT:=(.alt 0 (.alt 1 (.alt 2 (.alt 3 (.alt 4 (.alt 5 .done .stop) .stop) (.alt 4 (.alt 3 (.alt 5 .done .stop) .stop) .stop)) (.alt 4 (.alt 2 (.alt 3 (.alt 5 .done .stop) .stop) .stop) .stop)) (.alt 2 (.alt 1 (.alt 3 (.alt 4 (.alt 5 .done .stop) .stop) (.alt 4 (.alt 3 (.alt 5 .done .stop) .stop) .stop)) .stop) .stop)) (.alt 1 (.alt 0 (.alt 2 (.alt 3 (.alt 4 (.alt 5 .done .stop) .stop) (.alt 4 (.alt 3 (.alt 5 .done .stop) .stop) .stop)) (.alt 4 (.alt 2 (.alt 3 (.alt 5 .done .stop) .stop) .stop) .stop)) (.alt 2 (.alt 0 (.alt 3 (.alt 4 (.alt 5 .done .stop) .stop) (.alt 4 (.alt 3 (.alt 5 .done .stop) .stop) .stop)) (.alt 3 (.alt 0 (.alt 4 (.alt 5 .done .stop) .stop) .stop) .stop)) .stop)) (.alt 2 (.alt 0 (.alt 1 (.alt 3 (.alt 4 (.alt 5 .done .stop) .stop) (.alt 4 (.alt 3 (.alt 5 .done .stop) .stop) .stop)) .stop) (.alt 1 (.alt 0 (.alt 3 (.alt 4 (.alt 5 .done .stop) .stop) (.alt 4 (.alt 3 (.alt 5 .done .stop) .stop) .stop)) (.alt 3 (.alt 0 (.alt 4 (.alt 5 .done .stop) .stop) .stop) .stop)) .stop)) .stop)))
def gcK (a b:Nat):Nat→Nat×Nat
 | 0=>(a,b)
 | k+1=>((gcK a b k).2,(gcK a b k).1 % (gcK a b k).2)
end Go.AM
set_option maxRecDepth 8000
namespace Go.AM
open Go.Proofs
def spR (p:Puzz) (w:List Int):Nat×Nat:=if puzzOk p∧wordOk p.mv.length w then spK (effK p.n p.mv w w.length) (ordE (effK p.n p.mv w w.length) - 1) else (0,0)
abbrev spA (x:Nat×Nat):AV:=.tup [.i64 x.1,.i64 x.2]
end Go.AM
set_option maxRecDepth 8000
namespace Go.AM
open Go.Proofs
def pwK (p:List Int) (k i:Nat):List Int:=(List.range i).map fun x=>((itN (fOf p) k x:Nat):Int)
end Go.AM
set_option maxRecDepth 8000
namespace Go.AM
open Go.Proofs
def scrS (p:Puzz) (x c:Int):List Int:=if canScr p x c then effK p.n p.mv (scrR p x c) (scrR p x c).length else []
end Go.AM
set_option maxRecDepth 8000
namespace Go.AM
open Go.Proofs
theorem keyB_str (s:ByteArray):keyB true (.string s)=true:=rfl
theorem keyB_int (n:Int):keyB false (.int .i64 n)=true:=rfl
def cbU49:=(ai (cbP9) (ai (@keyB_str) (@keyB_int)))

end Go.AM
set_option maxRecDepth 8000
namespace Go.AM
open Go.Proofs
def MF:FuncId→List Bool:=fun f=>if f=4294967295 then [true] else MM f
def cmpP (m:Model):Puzz:=⟨facets m.ks,m.nm,m.mv.map (permOf m.ks)⟩
def cmpR (m:Model):Puzz:=if modelOk m then cmpP m else ⟨0,[],[]⟩
theorem cmpP_small {m:Model} (h:modelOk m):smallP (cmpP m):=by
 have h1:=facets_bound m.ks h.1.2.1
 have h2:=h.1.1.2
 have h3:=h.2.1.2
 have h4:=h.2.2.1
 refine ⟨by unfold intOk;simp only [cmpP];omega,by simp only [cmpP];omega,by simp only [cmpP,List.length_map];omega,fun s hs=>?_⟩
 obtain ⟨t,ht,rfl⟩:=List.mem_map.1 hs
 have:=permOf_le (h.2.2.2 t ht)
 omega
theorem cmpR_small (m:Model):smallP (cmpR m):=by
 unfold cmpR
 split
 ·rename_i h;exact cmpP_small h
 ·exact ⟨by unfold intOk;simp,by simp,by simp,fun s hs=>by cases hs⟩
theorem cp_take (f:List Twist→List Int) (l:List (List Twist)) (k:Nat) (hk:k<l.length):(l.take (k+1)).map f=(l.take k).map f++[f (l.getD k default)]:=by
 rw [take_succ_eq l k default hk,List.map_append];rfl
theorem sCompile (m:Model) (h:smallM m):SpecAt Tryz.prog 65 [m.sl] (.tup [(cmpR m).tr,.bl (decide (modelOk m))]):=by
 have q0:=sIsValidPieceModel m h
 by_cases c:modelOk m
 case neg =>
  have hR:cmpR m=⟨0,[],[]⟩:=if_neg c
  rw [decide_eq_false c] at q0
  rw [decide_eq_false c,hR]
  refine spec_of_awp (M:=MM) (np:=1) (fz:=false) mixed Tryz.func65 rfl rfl (by decide) rfl (Nat.le_refl _) (by decide +kernel) (.inl rfl) (by first | trivial | simp only [sigsOk_nil,sigsOk_some,sigsOk_none,sig_tr,sig_pt,sig_mt,sig_agg,List.map_cons,List.map_nil,sig1_tr,sig1_pt,sig1_v,and_self,true_and,List.length_map,List.length_set]) ?_
  simp -dsimp -implicitDefEqProofs (disch:=first|omega|(simp only [lenr];try omega)) only [↓amPre,↓reduceIte,reduceCtorEq,reduceEqDiff,Nat.reduceBEq,reduceAdd,reduceLeDiff,reduceSub,reduceMul,reduceToNat,MM,bu0,cbU49,MF]
  refine callP_of (q0) ?_
  simp -dsimp -implicitDefEqProofs (disch:=first|omega|(simp only [lenr];try omega)) only [↓amPre,↓reduceIte,reduceCtorEq,reduceEqDiff,Nat.reduceBEq,reduceAdd,reduceLeDiff,reduceSub,reduceMul,reduceToNat,MM,bu0,cbU49,MF]
 have hR:cmpR m=cmpP m:=if_pos c
 have hl3:=c.1.1.2
 have hl8:=c.2.1.2
 have q1:=sFacelets m.ks c.1
 rw [decide_eq_true c] at q0
 rw [decide_eq_true c,hR]
 refine spec_of_awp (M:=MM) (np:=1) (fz:=false) mixed Tryz.func65 rfl rfl (by decide) rfl (Nat.le_refl _) (by decide +kernel) (.inl rfl) (by first | trivial | simp only [sigsOk_nil,sigsOk_some,sigsOk_none,sig_tr,sig_pt,sig_mt,sig_agg,List.map_cons,List.map_nil,sig1_tr,sig1_pt,sig1_v,and_self,true_and,List.length_map,List.length_set]) ?_
 simp -dsimp -implicitDefEqProofs (disch:=first|omega|(simp only [lenr];try omega)) only [↓amPre,↓reduceIte,reduceCtorEq,reduceEqDiff,Nat.reduceBEq,reduceAdd,reduceLeDiff,reduceSub,reduceMul,reduceToNat,MM,bu0,cbU49,MF]
 iterate 2 ((first|refine callP_of (q0) ?_|refine callP_of (q1) ?_);simp -dsimp -implicitDefEqProofs (disch:=first|omega|(simp only [lenr];try omega)) only [↓amPre,↓reduceIte,reduceCtorEq,reduceEqDiff,Nat.reduceBEq,reduceAdd,reduceLeDiff,reduceSub,reduceMul,reduceToNat,MM,bu0,cbU49,MF])
 refine awp_loopC 4 2 3 1 [.i64 (facets m.ks),.st m.nm,.nilsl] (by simp -dsimp -implicitDefEqProofs (disch:=first|omega|(simp only [lenr];try omega)) only [↓amPre,↓reduceIte,reduceCtorEq,reduceEqDiff,Nat.reduceBEq,reduceAdd,reduceLeDiff,reduceSub,reduceMul,reduceToNat,MM,bu0,cbU49,MF]) (by simp) (by simp) (fun k st=>k≤m.mv.length∧st.fr 5=.i64 k∧st.fr 1=.loc 1 [] 0 0∧st.fr 4=.loc 4 [] 0 0∧st.fr 2=.loc 2 [] 0 0∧st.mem 1=some (.pt 3 (.agg [ksl m.ks,.st m.nm,tssl m.mv]))∧st.mem 4=some (.pt 3 (.agg [.i64 (facets m.ks),.st m.nm,sst ((m.mv.take k).map (permOf m.ks))]))∧st.mem 2=some (.pt 3 (.agg [.i64 0,.st [],.nilsl]))) (m.mv.length) ?_ ?_
 ·simp -dsimp -implicitDefEqProofs (disch:=first|omega|(simp only [lenr];try omega)) only [↓amPre,↓reduceIte,reduceCtorEq,reduceEqDiff,Nat.reduceBEq,reduceAdd,reduceLeDiff,reduceSub,reduceMul,reduceToNat,MM,bu0,cbU49,MF,nilC_eq]
  simp
 rintro k st _ ⟨hk,f5,f1,f4,f2,m1,m4,m2⟩
 by_cases hlt:k<m.mv.length
 ·have ps:=c.2.2.2 _ (mem_getD m.mv k default hlt)
  have hts:=cp_take (permOf m.ks) m.mv k hlt
  have hle:((m.mv.take k).map (permOf m.ks)).length=k:=by simp;omega
  have hle1:(m.mv.take (k+1)).length=k+1:=by simp;omega
  have h8:=c.2.2.1
  have q2:=sl21Permutation m.ks (m.mv.getD k default) ps
  generalize (m.mv.take k).map (permOf m.ks)=L at *
  simp -dsimp -implicitDefEqProofs (disch:=first|omega|(simp only [lenr];try omega)) only [↓amPre,↓reduceIte,reduceCtorEq,reduceEqDiff,Nat.reduceBEq,reduceAdd,reduceLeDiff,reduceSub,reduceMul,reduceToNat,MM,bu0,cbU49,MF,f5,f1,f4,f2,m1,m4,m2]
  refine callP_of (q2) ?_
  simp -dsimp -implicitDefEqProofs (disch:=first|omega|(simp only [lenr];try omega)) only [↓amPre,↓reduceIte,reduceCtorEq,reduceEqDiff,Nat.reduceBEq,reduceAdd,reduceLeDiff,reduceSub,reduceMul,reduceToNat,MM,bu0,cbU49,MF,f5,f1,f4,f2,m1,m4,m2,← hts,hle,hle1]
  repeat' (first|omega|rfl|exact i64c (by omega)|exact vic (by omega)|apply ai)
 ·have hke:k=m.mv.length:=by omega
  subst hke
  rw [List.take_length] at m4
  simp -dsimp -implicitDefEqProofs (disch:=first|omega|(simp only [lenr];try omega)) only [↓amPre,↓reduceIte,reduceCtorEq,reduceEqDiff,Nat.reduceBEq,reduceAdd,reduceLeDiff,reduceSub,reduceMul,reduceToNat,MM,bu0,cbU49,MF,f5,f1,f4,f2,m1,m4,m2,cmpP]
end Go.AM
set_option maxRecDepth 8000
namespace Go.AM
namespace Dx
open Go.Proofs
open Draws (bsl newSource sdK sdK_ok drawModel drawModelAny bend fewM mdOk_few bigF)
def MM:FuncId→List Bool:=fun f=>if f=66 then [true] else if f=79 then [true] else if f=67 then [true,false] else []
open Ps (Tx)
open Door (puzT puzK_len mdT mdK_len iFormatPuzzle sFormatPuzzle iFormatPM sFormatPM)
theorem fewM_small {m:Model} (h:fewM m):smallM m:=⟨by have:=h.1;omega,by have:=h.2.1;omega,by have:=h.2.2.1;omega,fun t ht=>fewT_small (h.2.2.2 t ht)⟩
theorem puzT_len (p:Puzz):(puzT p).length≤4000:=by
 unfold puzT
 split
 ·rename_i h
  have:=puzK_len h p.mv.length (Nat.le_refl _)
  have:=h.1.2.1
  have:=h.2.2
  omega
 ·simp
theorem mdT_len (m:Model):(mdT m).length≤22000:=by
 unfold mdT
 split
 ·rename_i h
  have:=mdK_len h m.mv.length (Nat.le_refl _)
  have h1:=h.2.1.2
  have h2:=h.2.2.1
  omega
 ·simp
theorem drawPP (l:List UInt8) (hl:l.length≤4096):∃ u:Tx,SpecAt Tryz.prog 20 [bsl l] (.st u)∧u.length≤30000:=by
 have q0:=newSource l hl
 have k0:(⟨l,0,sdK l l.length⟩:Draws.Src).ok:=⟨hl,by simp,by have:=sdK_ok l hl l.length;unfold intOk;simp only;omega⟩
 generalize (⟨l,0,sdK l l.length⟩:Draws.Src)=s0 at q0 k0
 obtain ⟨s1,m,q1,k1,hm⟩:=drawModel s0 k0
 have hsm:=fewM_small (mdOk_few hm)
 have q2:=sCompile m hsm
 have hcs:=cmpR_small m
 generalize cmpR m=p at q2 hcs
 have q3:=sFormatPuzzle p hcs
 have hpl:=puzT_len p
 obtain ⟨s2,u,q4,k2,hu⟩:=bend s1 (puzT p) k1 (by omega)
 have hmt:m.tr=.agg [ktr m.ks,.st m.nm,tsst m.mv]:=rfl
 rw [hmt] at q1
 refine ⟨u,?_,by omega⟩
 refine spec_of_awp (M:=MM) (np:=1) (fz:=true) mixed Tryz.func20 rfl rfl (by decide) rfl (Nat.le_refl _) (by decide +kernel) (.inr ⟨rfl,rfl⟩) trivial ?_
 simp -dsimp -implicitDefEqProofs (disch:=first|omega|(simp only [lenr];try omega)) only [↓amPre,↓reduceIte,reduceCtorEq,reduceEqDiff,Nat.reduceBEq,reduceAdd,reduceLeDiff,reduceSub,reduceMul,reduceToNat,MM,bu0,cbJ1,cbJ16,cbU49]
 refine callP_of (q0) ?_
 simp -dsimp -implicitDefEqProofs (disch:=first|omega|(simp only [lenr];try omega)) only [↓amPre,↓reduceIte,reduceCtorEq,reduceEqDiff,Nat.reduceBEq,reduceAdd,reduceLeDiff,reduceSub,reduceMul,reduceToNat,MM,bu0,cbJ1,cbJ16,cbU49]
 refine callX_of (q1) ?_
 simp -dsimp -implicitDefEqProofs (disch:=first|omega|(simp only [lenr];try omega)) only [↓amPre,↓reduceIte,reduceCtorEq,reduceEqDiff,Nat.reduceBEq,reduceAdd,reduceLeDiff,reduceSub,reduceMul,reduceToNat,MM,bu0,cbJ1,cbJ16,cbU49,kfz,tssfz]
 refine callP_of (q2) ?_
 simp -dsimp -implicitDefEqProofs (disch:=first|omega|(simp only [lenr];try omega)) only [↓amPre,↓reduceIte,reduceCtorEq,reduceEqDiff,Nat.reduceBEq,reduceAdd,reduceLeDiff,reduceSub,reduceMul,reduceToNat,MM,bu0,cbJ1,cbJ16,cbU49,ssfz]
 iterate 2 ((first|refine callP_of (q3) ?_|refine callX_of (q4) ?_);simp -dsimp -implicitDefEqProofs (disch:=first|omega|(simp only [lenr];try omega)) only [↓amPre,↓reduceIte,reduceCtorEq,reduceEqDiff,Nat.reduceBEq,reduceAdd,reduceLeDiff,reduceSub,reduceMul,reduceToNat,MM,bu0,cbJ1,cbJ16,cbU49])
theorem drawPM (l:List UInt8) (hl:l.length≤4096):∃ u:Tx,SpecAt Tryz.prog 24 [bsl l] (.st u)∧u.length≤30000:=by
 have q0:=newSource l hl
 have k0:(⟨l,0,sdK l l.length⟩:Draws.Src).ok:=⟨hl,by simp,by have:=sdK_ok l hl l.length;unfold intOk;simp only;omega⟩
 generalize (⟨l,0,sdK l l.length⟩:Draws.Src)=s0 at q0 k0
 obtain ⟨s1,m,q1,k1,hm⟩:=drawModel s0 k0
 have hsm:=fewM_small (mdOk_few hm)
 have q3:=sFormatPM m hsm
 have hpl:=mdT_len m
 obtain ⟨s2,u,q4,k2,hu⟩:=bend s1 (mdT m) k1 (by omega)
 have hmt:m.tr=.agg [ktr m.ks,.st m.nm,tsst m.mv]:=rfl
 rw [hmt] at q1
 refine ⟨u,?_,by omega⟩
 refine spec_of_awp (M:=MM) (np:=1) (fz:=true) mixed Tryz.func24 rfl rfl (by decide) rfl (Nat.le_refl _) (by decide +kernel) (.inr ⟨rfl,rfl⟩) trivial ?_
 simp -dsimp -implicitDefEqProofs (disch:=first|omega|(simp only [lenr];try omega)) only [↓amPre,↓reduceIte,reduceCtorEq,reduceEqDiff,Nat.reduceBEq,reduceAdd,reduceLeDiff,reduceSub,reduceMul,reduceToNat,MM,bu0,cbJ1,cbJ16,cbU49]
 refine callP_of (q0) ?_
 simp -dsimp -implicitDefEqProofs (disch:=first|omega|(simp only [lenr];try omega)) only [↓amPre,↓reduceIte,reduceCtorEq,reduceEqDiff,Nat.reduceBEq,reduceAdd,reduceLeDiff,reduceSub,reduceMul,reduceToNat,MM,bu0,cbJ1,cbJ16,cbU49]
 refine callX_of (q1) ?_
 simp -dsimp -implicitDefEqProofs (disch:=first|omega|(simp only [lenr];try omega)) only [↓amPre,↓reduceIte,reduceCtorEq,reduceEqDiff,Nat.reduceBEq,reduceAdd,reduceLeDiff,reduceSub,reduceMul,reduceToNat,MM,bu0,cbJ1,cbJ16,cbU49,kfz,tssfz]
 iterate 2 ((first|refine callP_of (q3) ?_|refine callX_of (q4) ?_);simp -dsimp -implicitDefEqProofs (disch:=first|omega|(simp only [lenr];try omega)) only [↓amPre,↓reduceIte,reduceCtorEq,reduceEqDiff,Nat.reduceBEq,reduceAdd,reduceLeDiff,reduceSub,reduceMul,reduceToNat,MM,bu0,cbJ1,cbJ16,cbU49])
theorem drawFM (l:List UInt8) (hl:l.length≤4096):∃ m:Model,SpecAt Tryz.prog 26 [bsl l] m.tr∧fewM m:=by
 have q0:=newSource l hl
 have k0:(⟨l,0,sdK l l.length⟩:Draws.Src).ok:=⟨hl,by simp,by have:=sdK_ok l hl l.length;unfold intOk;simp only;omega⟩
 generalize (⟨l,0,sdK l l.length⟩:Draws.Src)=s0 at q0 k0
 obtain ⟨s1,m,q1,k1,hm⟩:=drawModelAny s0 k0
 refine ⟨m,?_,hm⟩
 refine spec_of_awp (M:=MM) (np:=1) (fz:=false) mixed Tryz.func26 rfl rfl (by decide) rfl (Nat.le_refl _) (by decide +kernel) (.inl rfl) (by first | trivial | simp only [sigsOk_nil,sigsOk_some,sigsOk_none,sig_tr,sig_pt,sig_mt,sig_agg,List.map_cons,List.map_nil,sig1_tr,sig1_pt,sig1_v,and_self,true_and,List.length_map,List.length_set]) ?_
 simp -dsimp -implicitDefEqProofs (disch:=first|omega|(simp only [lenr];try omega)) only [↓amPre,↓reduceIte,reduceCtorEq,reduceEqDiff,Nat.reduceBEq,reduceAdd,reduceLeDiff,reduceSub,reduceMul,reduceToNat,MM,bu0,cbJ1,cbJ16,cbU49]
 iterate 2 ((first|refine callP_of (q0) ?_|refine callX_of (q1) ?_);simp -dsimp -implicitDefEqProofs (disch:=first|omega|(simp only [lenr];try omega)) only [↓amPre,↓reduceIte,reduceCtorEq,reduceEqDiff,Nat.reduceBEq,reduceAdd,reduceLeDiff,reduceSub,reduceMul,reduceToNat,MM,bu0,cbJ1,cbJ16,cbU49])
end Dx
end Go.AM
set_option maxRecDepth 8000
namespace Go.AM
namespace Ps
open Go.Proofs
open Door (decimal_spec)
theorem firstI (L:List Ln) (r:Rd) (hL:okL L):SpecAt Tryz.prog 104 [rdV L r] (.st (firstS L r)):=by
 have hm:=moreI L r hL.1
 by_cases c:r.t = -1∧r.a<L.length
 ·have hmt:moreS L r=true:=by simp [moreS,c]
  rw [hmt] at hm
  obtain ⟨hn,hs⟩:=okL_at hL c.2
  have hf:firstS L r=(spl 32 (lat L r.a).1).getD 0 []:=if_pos c
  have ht:=trimSuf (lat L r.a) hn hs
  have hsp:=splitW (lat L r.a).1 32 hs
  have hpos:0<(spl 32 (lat L r.a).1).length:=List.length_pos_iff.2 (spl_ne _ _)
  have hlt:=c.2
  rw [hf]
  obtain ⟨l,hle⟩:∃ l,l=lat L r.a:=⟨_,rfl⟩
  rw [← hle] at ht hsp hpos ⊢
  refine spec_of_awp_any (M:=MM) (np:=1) (X:=[3]) (fz:=true) mixed Tryz.func104 rfl rfl (by decide) rfl (Nat.le_refl _) (by decide +kernel) (.inr ⟨rfl,rfl⟩) trivial ?_
  simp -dsimp -implicitDefEqProofs (disch:=first|omega|(simp only [lenr];try omega)) only [↓amPre,↓reduceIte,reduceCtorEq,reduceEqDiff,Nat.reduceBEq,reduceAdd,reduceLeDiff,reduceSub,reduceMul,reduceToNat,MM,bu0,cbJ1,cbJ7]
  refine callP_of (hm) ?_
  simp -dsimp -implicitDefEqProofs (disch:=first|omega|(simp only [lenr];try omega)) only [↓amPre,↓reduceIte,reduceCtorEq,reduceEqDiff,Nat.reduceBEq,reduceAdd,reduceLeDiff,reduceSub,reduceMul,reduceToNat,MM,bu0,cbJ1,cbJ7]
  refine split_go 12 (by decide +kernel) ?_
  simp -dsimp -implicitDefEqProofs (disch:=first|omega|(simp only [lenr];try omega)) only [↓amPre,↓reduceIte,reduceCtorEq,reduceEqDiff,Nat.reduceBEq,reduceAdd,reduceLeDiff,reduceSub,reduceMul,reduceToNat,MM,bu0,cbJ1,cbJ7,← hle]
  iterate 2 ((first|refine callP_of (ht) ?_|refine callP_of (hsp) ?_);simp -dsimp -implicitDefEqProofs (disch:=first|omega|(simp only [lenr];try omega)) only [↓amPre,↓reduceIte,reduceCtorEq,reduceEqDiff,Nat.reduceBEq,reduceAdd,reduceLeDiff,reduceSub,reduceMul,reduceToNat,MM,bu0,cbJ1,cbJ7])
 ·have hmf:moreS L r=false:=by simp only [moreS,c,decide_false]
  rw [hmf] at hm
  rw [show firstS L r=[] from if_neg c]
  refine spec_of_awp_any (M:=MM) (np:=1) (X:=[3]) (fz:=true) mixed Tryz.func104 rfl rfl (by decide) rfl (Nat.le_refl _) (by decide +kernel) (.inr ⟨rfl,rfl⟩) trivial ?_
  simp -dsimp -implicitDefEqProofs (disch:=first|omega|(simp only [lenr];try omega)) only [↓amPre,↓reduceIte,reduceCtorEq,reduceEqDiff,Nat.reduceBEq,reduceAdd,reduceLeDiff,reduceSub,reduceMul,reduceToNat,MM,bu0,cbJ1,cbJ7]
  refine callP_of (hm) ?_
  simp -dsimp -implicitDefEqProofs (disch:=first|omega|(simp only [lenr];try omega)) only [↓amPre,↓reduceIte,reduceCtorEq,reduceEqDiff,Nat.reduceBEq,reduceAdd,reduceLeDiff,reduceSub,reduceMul,reduceToNat,MM,bu0,cbJ1,cbJ7]
theorem parse_in {w:Tx} {v:Int} (h:Lib.parseIntB 64 w=.ok v):intOk v:=by
 unfold Lib.parseIntB at h
 split at h
 ·cases h
 ·dsimp only at h
  split at h
  ·cases h
  ·cases h
  ·rename_i u _
   split at h
   ·cases h
   ·split at h
    ·cases h
    ·rename_i h1 h2
     cases h
     unfold intOk
     simp only [not_and,Nat.not_le,Nat.not_lt] at h1 h2
     split
     ·rename_i q
      have:=h2 q
      omega
     ·rename_i q
      have:=h1 q
      omega
theorem readNumberI (w:Tx) (hw:w.length≤1048576):SpecAt Tryz.prog 137 [.st w] (.tup [.i64 (rn w).1,.bl (rn w).2]):=by
 have hp:=parseW w hw
 unfold piR at hp
 unfold rn
 split at hp
 ·rename_i v hv
  have hd:=decimal_spec v (parse_in hv)
  rw [hv]
  refine spec_of_awp (M:=MM) (np:=1) (fz:=true) mixed Tryz.func137 rfl rfl (by decide) rfl (Nat.le_refl _) (by decide +kernel) (.inr ⟨rfl,rfl⟩) trivial ?_
  simp -dsimp -implicitDefEqProofs (disch:=first|omega|(simp only [lenr];try omega)) only [↓amPre,↓reduceIte,reduceCtorEq,reduceEqDiff,Nat.reduceBEq,reduceAdd,reduceLeDiff,reduceSub,reduceMul,reduceToNat,MM,bu0,cbJ1,cbJ7]
  refine callP_of (hp) ?_
  simp -dsimp -implicitDefEqProofs (disch:=first|omega|(simp only [lenr];try omega)) only [↓amPre,↓reduceIte,reduceCtorEq,reduceEqDiff,Nat.reduceBEq,reduceAdd,reduceLeDiff,reduceSub,reduceMul,reduceToNat,MM,bu0,cbJ1,cbJ7]
  refine callP_of (hd) ?_
  by_cases d1:Lib.itoa v=w
  ·simp -dsimp -implicitDefEqProofs (disch:=first|omega|(simp only [lenr];try omega)) only [↓amPre,↓reduceIte,reduceCtorEq,reduceEqDiff,Nat.reduceBEq,reduceAdd,reduceLeDiff,reduceSub,reduceMul,reduceToNat,MM,bu0,cbJ1,cbJ7,txeq d1]
   refine callP_of (iwithin _ _ _) ?_
   simp -dsimp -implicitDefEqProofs (disch:=first|omega|(simp only [lenr];try omega)) only [↓amPre,↓reduceIte,reduceCtorEq,reduceEqDiff,Nat.reduceBEq,reduceAdd,reduceLeDiff,reduceSub,reduceMul,reduceToNat,MM,bu0,cbJ1,cbJ7,txeq d1]
   refine bl_eq ?_
   simp [d1,within]
  ·simp -dsimp -implicitDefEqProofs (disch:=first|omega|(simp only [lenr];try omega)) only [↓amPre,↓reduceIte,reduceCtorEq,reduceEqDiff,Nat.reduceBEq,reduceAdd,reduceLeDiff,reduceSub,reduceMul,reduceToNat,MM,bu0,cbJ1,cbJ7,txne d1]
   refine bl_eq ?_
   simp [d1]
 ·rename_i hv
  rw [hv]
  refine spec_of_awp (M:=MM) (np:=1) (fz:=true) mixed Tryz.func137 rfl rfl (by decide) rfl (Nat.le_refl _) (by decide +kernel) (.inr ⟨rfl,rfl⟩) trivial ?_
  simp -dsimp -implicitDefEqProofs (disch:=first|omega|(simp only [lenr];try omega)) only [↓amPre,↓reduceIte,reduceCtorEq,reduceEqDiff,Nat.reduceBEq,reduceAdd,reduceLeDiff,reduceSub,reduceMul,reduceToNat,MM,bu0,cbJ1,cbJ7]
  refine callP_of (hp) ?_
  simp -dsimp -implicitDefEqProofs (disch:=first|omega|(simp only [lenr];try omega)) only [↓amPre,↓reduceIte,reduceCtorEq,reduceEqDiff,Nat.reduceBEq,reduceAdd,reduceLeDiff,reduceSub,reduceMul,reduceToNat,MM,bu0,cbJ1,cbJ7]
 ·rename_i h1 h2
  have h:Lib.parseIntB 64 w=Lib.NumEnd.syntax:=by
   cases q:Lib.parseIntB 64 w with
   | ok v=>exact absurd q (h1 v)
   | range=>exact absurd q h2
   | _=>rfl
  rw [h]
  refine spec_of_awp (M:=MM) (np:=1) (fz:=true) mixed Tryz.func137 rfl rfl (by decide) rfl (Nat.le_refl _) (by decide +kernel) (.inr ⟨rfl,rfl⟩) trivial ?_
  simp -dsimp -implicitDefEqProofs (disch:=first|omega|(simp only [lenr];try omega)) only [↓amPre,↓reduceIte,reduceCtorEq,reduceEqDiff,Nat.reduceBEq,reduceAdd,reduceLeDiff,reduceSub,reduceMul,reduceToNat,MM,bu0,cbJ1,cbJ7]
  refine callP_of (hp) ?_
  simp -dsimp -implicitDefEqProofs (disch:=first|omega|(simp only [lenr];try omega)) only [↓amPre,↓reduceIte,reduceCtorEq,reduceEqDiff,Nat.reduceBEq,reduceAdd,reduceLeDiff,reduceSub,reduceMul,reduceToNat,MM,bu0,cbJ1,cbJ7]
def rns (ws:List Tx):List Int×Bool:=if ∀ w∈ws,(rn w).2=true then (ws.map fun w=>(rn w).1,true) else ([],false)
theorem readNumbersI (ws:List Tx) (hl:ws.length≤1048577) (hw:∀ w∈ws,w.length≤1048576):SpecAt Tryz.prog 112 [wsl ws] (.tup [itr (rns ws).1,.bl (rns ws).2]):=by
 refine spec_of_awp (M:=MM) (np:=1) (fz:=false) mixed Tryz.func112 rfl rfl (by decide) rfl (Nat.le_refl _) (by decide +kernel) (.inl rfl) (by first | trivial | simp only [sigsOk_nil,sigsOk_some,sigsOk_none,sig_tr,sig_pt,sig_mt,sig_agg,List.map_cons,List.map_nil,sig1_tr,sig1_pt,sig1_v,and_self,true_and,List.length_map,List.length_set]) ?_
 simp -dsimp -implicitDefEqProofs (disch:=first|omega|(simp only [lenr];try omega)) only [↓amPre,↓reduceIte,reduceCtorEq,reduceEqDiff,Nat.reduceBEq,reduceAdd,reduceLeDiff,reduceSub,reduceMul,reduceToNat,MM,bu0,cbJ1,cbJ7]
 refine awp_loopN 4 25 1 (by simp -dsimp -implicitDefEqProofs (disch:=first|omega|(simp only [lenr];try omega)) only [↓amPre,↓reduceIte,reduceCtorEq,reduceEqDiff,Nat.reduceBEq,reduceAdd,reduceLeDiff,reduceSub,reduceMul,reduceToNat,MM,bu0,cbJ1,cbJ7]) (by decide) (fun k st=>k≤ws.length∧st.fr 11=.i64 k∧st.fr 9=.sl 1 (ws.map AV.st)∧st.fr 10=.i64 ws.length∧st.fr 4=.ref 25 [] 1 0 k∧st.mem 25=some (itr ((ws.take k).map fun w=>(rn w).1))∧(∀ w∈ws.take k,(rn w).2=true)) (ws.length) ?_ ?_
 ·simp -dsimp -implicitDefEqProofs (disch:=first|omega|(simp only [lenr];try omega)) only [↓amPre,↓reduceIte,reduceCtorEq,reduceEqDiff,Nat.reduceBEq,reduceAdd,reduceLeDiff,reduceSub,reduceMul,reduceToNat,MM,bu0,cbJ1,cbJ7,nilAs_eq]
  simp
 rintro k st _ ⟨hk,f11,f9,f10,f4,m25,ek⟩
 have hkl:((ws.take k).map fun w=>(rn w).1).length=k:=by rw [List.length_map,List.length_take];omega
 by_cases hlt:k<ws.length
 ·have hq:=readNumberI (ws.getD k []) (hw _ (mem_getD ws k [] hlt))
  cases hb:(rn (ws.getD k [])).2 with
  | false =>
   rw [hb] at hq
   have hr:rns ws=([],false):=if_neg fun q=>by
    have:=q _ (mem_getD ws k [] hlt)
    rw [hb] at this;cases this
   rw [hr]
   simp -dsimp -implicitDefEqProofs (disch:=first|omega|(simp only [lenr];try omega)) only [↓amPre,↓reduceIte,reduceCtorEq,reduceEqDiff,Nat.reduceBEq,reduceAdd,reduceLeDiff,reduceSub,reduceMul,reduceToNat,MM,bu0,cbJ1,cbJ7,f11,f9,f10,f4,m25]
   refine callP_of (hq) ?_
   simp -dsimp -implicitDefEqProofs (disch:=first|omega|(simp only [lenr];try omega)) only [↓amPre,↓reduceIte,reduceCtorEq,reduceEqDiff,Nat.reduceBEq,reduceAdd,reduceLeDiff,reduceSub,reduceMul,reduceToNat,MM,bu0,cbJ1,cbJ7,f11,f9,f10,f4,m25]
  | true =>
   rw [hb] at hq
   have hs:=map_take_succ (fun w=>(rn w).1) ws k [] hlt
   simp -dsimp -implicitDefEqProofs (disch:=first|omega|(simp only [lenr];try omega)) only [↓amPre,↓reduceIte,reduceCtorEq,reduceEqDiff,Nat.reduceBEq,reduceAdd,reduceLeDiff,reduceSub,reduceMul,reduceToNat,MM,bu0,cbJ1,cbJ7,f11,f9,f10,f4,m25,hkl]
   refine callP_of (hq) ?_
   simp -dsimp -implicitDefEqProofs (disch:=first|omega|(simp only [lenr];try omega)) only [↓amPre,↓reduceIte,reduceCtorEq,reduceEqDiff,Nat.reduceBEq,reduceAdd,reduceLeDiff,reduceSub,reduceMul,reduceToNat,MM,bu0,cbJ1,cbJ7,f11,f9,f10,f4,m25,hkl,isnoc]
   refine ⟨hlt,by omega,by rw [hs],(mem_take_succ (d:=[]) hlt).2 ⟨ek,hb⟩⟩
 ·have hke:k=ws.length:=by omega
  subst hke
  rw [List.take_length] at ek hkl
  have hr:rns ws=(ws.map fun w=>(rn w).1,true):=if_pos ek
  rw [hr]
  simp -dsimp -implicitDefEqProofs (disch:=first|omega|(simp only [lenr];try omega)) only [↓amPre,↓reduceIte,reduceCtorEq,reduceEqDiff,Nat.reduceBEq,reduceAdd,reduceLeDiff,reduceSub,reduceMul,reduceToNat,MM,bu0,cbJ1,cbJ7,f11,f9,f10,f4,m25,hkl,List.take_length]
theorem nums_rns (ws:List Tx):match numsW ws with
  | some l=>rns ws=(l,true)∧(l.any fun x=>!within x 0 999)=false
  | none=>(rns ws).2=false∨((rns ws).2=true∧((rns ws).1.any fun x=>!within x 0 999)=true):=by
 have hwi:∀ x:Int,within x 0 999=true↔0≤x∧x≤999:=fun x=>by simp [within]
 split
 ·rename_i l hl
  have h1:=numsW_some hl
  have hall:∀ w∈ws,(rn w).2=true:=fun w hw=>by
   rw [← h1.2.2] at hw
   obtain ⟨y,hy,rfl⟩:=List.mem_map.1 hw
   obtain ⟨n,rfl⟩:∃ n:Nat,y=n:=⟨y.toNat,by have:=h1.2.1 y hy;unfold inNum at this;omega⟩
   have hb:=h1.2.1 _ hy
   unfold inNum at hb
   have:=(rn_num _ _).1 (num_itoa n (by omega))
   rw [this.1]
  refine ⟨?_,?_⟩
  ·unfold rns
   rw [if_pos hall]
   congr 1
   rw [← h1.2.2,List.map_map]
   conv=>rhs;rw [← List.map_id l]
   refine List.map_congr_left fun y hy=>?_
   obtain ⟨n,rfl⟩:∃ n:Nat,y=n:=⟨y.toNat,by have:=h1.2.1 y hy;unfold inNum at this;omega⟩
   have hb:=h1.2.1 _ hy
   unfold inNum at hb
   have:=(rn_num _ _).1 (num_itoa n (by omega))
   show (rn (Lib.itoa (n:Int))).1=_
   rw [this.1];rfl
  ·rw [List.any_eq_false]
   intro x hx
   have:=h1.2.1 x hx
   unfold inNum at this
   simp [(hwi x).2 this]
 ·rename_i hn
  by_cases hall:∀ w∈ws,(rn w).2=true
  ·right
   have e:rns ws=(ws.map fun w=>(rn w).1,true):=if_pos hall
   rw [e]
   refine ⟨rfl,?_⟩
   apply Decidable.byContradiction
   intro hc
   have hc:((ws.map fun w=>(rn w).1).any fun x=>!within x 0 999)=false:=by simpa using hc
   rw [List.any_eq_false] at hc
   have:numsW ws=some (ws.map fun w=>(rn w).1):=numsW_all (by simp) fun i hi=>by
    have hm:=mem_getD ws i [] hi
    have h2:=hc ((rn (ws.getD i [])).1) (List.mem_map.2 ⟨_,hm,rfl⟩)
    have h2:within (rn (ws.getD i [])).1 0 999=true:=by simpa using h2
    have e:(ws.map fun w=>(rn w).1).getD i 0=(rn (ws.getD i [])).1:=by
     rw [getD_eq _ _ _ (by simpa using hi),List.getElem_map,← getD_eq _ _ [] hi]
    rw [e]
    refine (rn_num _ _).2 ⟨?_,(hwi _).1 h2⟩
    rw [← hall _ hm]
   rw [hn] at this;cases this
  ·left
   have e:rns ws=([],false):=if_neg hall
   rw [e]
theorem numbersI (L:List Ln) (ws:List Tx) (r:Rd) (ha:r.a≤1048576) (hl:ws.length≤1048576) (hw:∀ w∈ws,w.length≤1048576):SpecX Tryz.prog 69 [rdT L r,wsl ws] [some (rdT L (numbersS ws r).1)] (itr (numbersS ws r).2):=by
 have hq:=readNumbersI ws (by omega) hw
 have hr:=rejI L r ha
 have hN:=nums_rns ws
 have hc:∀ l:List Int,l.length≤1048576→SpecAt Tryz.prog 113 [isl l,.fn 114 []] (.bl (l.any fun x=>!within x 0 999)):=fun l hl=>containsFunc l _ _ _ rfl rfl (fun _=>rfl) (fun x _=>nums1 x) (by omega)
 have hrl:(rns ws).1.length≤ws.length:=by unfold rns;split <;> simp
 cases hs:numsW ws with
 | some l =>
  rw [hs] at hN
  obtain ⟨h1,h2⟩:=hN
  rw [h1] at hq
  have hcl:=hc l (by rw [h1] at hrl;exact Nat.le_trans hrl hl)
  rw [h2] at hcl
  have e:numbersS ws r=(r,l):=by unfold numbersS;rw [hs]
  rw [e]
  refine spec_of_awp (M:=MM) (np:=2) (fz:=false) mixed Tryz.func69 rfl rfl (by decide) rfl (Nat.le_refl _) (by decide +kernel) (.inl rfl) (by first | trivial | simp only [sigsOk_nil,sigsOk_some,sigsOk_none,sig_tr,sig_pt,sig_mt,sig_agg,List.map_cons,List.map_nil,sig1_tr,sig1_pt,sig1_v,and_self,true_and,List.length_map,List.length_set]) ?_
  simp -dsimp -implicitDefEqProofs (disch:=first|omega|(simp only [lenr];try omega)) only [↓amPre,↓reduceIte,reduceCtorEq,reduceEqDiff,Nat.reduceBEq,reduceAdd,reduceLeDiff,reduceSub,reduceMul,reduceToNat,MM,bu0,cbJ1,cbJ7]
  iterate 2 ((first|refine callP_of (hq) ?_|refine callP_of (hcl) ?_);simp -dsimp -implicitDefEqProofs (disch:=first|omega|(simp only [lenr];try omega)) only [↓amPre,↓reduceIte,reduceCtorEq,reduceEqDiff,Nat.reduceBEq,reduceAdd,reduceLeDiff,reduceSub,reduceMul,reduceToNat,MM,bu0,cbJ1,cbJ7])
 | none =>
  rw [hs] at hN
  have e:numbersS ws r=(rej r,List.replicate ws.length 0):=by unfold numbersS;rw [hs]
  rw [e]
  rcases hN with h1 | ⟨h1,h2⟩
  ·rw [h1] at hq
   refine spec_of_awp (M:=MM) (np:=2) (fz:=false) mixed Tryz.func69 rfl rfl (by decide) rfl (Nat.le_refl _) (by decide +kernel) (.inl rfl) (by first | trivial | simp only [sigsOk_nil,sigsOk_some,sigsOk_none,sig_tr,sig_pt,sig_mt,sig_agg,List.map_cons,List.map_nil,sig1_tr,sig1_pt,sig1_v,and_self,true_and,List.length_map,List.length_set]) ?_
   simp -dsimp -implicitDefEqProofs (disch:=first|omega|(simp only [lenr];try omega)) only [↓amPre,↓reduceIte,reduceCtorEq,reduceEqDiff,Nat.reduceBEq,reduceAdd,reduceLeDiff,reduceSub,reduceMul,reduceToNat,MM,bu0,cbJ1,cbJ7]
   iterate 2 ((first|refine callP_of (hq) ?_|refine callX_of (hr) ?_);simp -dsimp -implicitDefEqProofs (disch:=first|omega|(simp only [lenr];try omega)) only [↓amPre,↓reduceIte,reduceCtorEq,reduceEqDiff,Nat.reduceBEq,reduceAdd,reduceLeDiff,reduceSub,reduceMul,reduceToNat,MM,bu0,cbJ1,cbJ7])
  ·rw [h1] at hq
   have hcl:=hc _ (Nat.le_trans hrl hl)
   rw [h2] at hcl
   refine spec_of_awp (M:=MM) (np:=2) (fz:=false) mixed Tryz.func69 rfl rfl (by decide) rfl (Nat.le_refl _) (by decide +kernel) (.inl rfl) (by first | trivial | simp only [sigsOk_nil,sigsOk_some,sigsOk_none,sig_tr,sig_pt,sig_mt,sig_agg,List.map_cons,List.map_nil,sig1_tr,sig1_pt,sig1_v,and_self,true_and,List.length_map,List.length_set]) ?_
   simp -dsimp -implicitDefEqProofs (disch:=first|omega|(simp only [lenr];try omega)) only [↓amPre,↓reduceIte,reduceCtorEq,reduceEqDiff,Nat.reduceBEq,reduceAdd,reduceLeDiff,reduceSub,reduceMul,reduceToNat,MM,bu0,cbJ1,cbJ7]
   iterate 3 ((first|refine callP_of (hq) ?_|refine callP_of (hcl) ?_|refine callX_of (hr) ?_);simp -dsimp -implicitDefEqProofs (disch:=first|omega|(simp only [lenr];try omega)) only [↓amPre,↓reduceIte,reduceCtorEq,reduceEqDiff,Nat.reduceBEq,reduceAdd,reduceLeDiff,reduceSub,reduceMul,reduceToNat,MM,bu0,cbJ1,cbJ7])
end Ps
end Go.AM
set_option maxRecDepth 8000
namespace Go.AM
namespace Ps
open Go.Proofs
theorem wordsS_mem {L:List Ln} (hL:okL L) (f:Tx) (c:Nat) (r:Rd):∀ w∈(wordsS L f c r).2,w.length≤1048576:=by
 have hz:∀ w∈List.replicate c ([]:Tx),w.length≤1048576:=fun w hw=>by rw [(List.mem_replicate.1 hw).2];simp
 unfold wordsS
 split
 ·split
  ·exact hz
  ·rename_i h
   split
   ·rename_i ws hw
    intro w hm
    unfold lineW at hw
    split at hw
    ·cases hw
     have h1:=spl_mem 32 _ w (List.mem_of_mem_drop hm)
     have h2:=(okL_at hL (show r.a<L.length by omega)).2
     omega
    ·cases hw
   ·exact hz
 ·exact hz
theorem twistsI (L:List Ln) (ks:List Kind) (r:Rd) (hL:okL L) (ha:r.a≤L.length) (hl:ks.length≤1048576) (hkc:∀ k∈ks,0≤k.c∧k.c≤1048575):SpecX Tryz.prog 48 [rdT L r,ksl ks] [some (rdT L (twS L ks r ks.length).1)] (ttr (twS L ks r ks.length).2):=by
 have hll:=hL.1
 refine spec_of_awp (M:=MM) (np:=2) (fz:=false) mixed Tryz.func48 rfl rfl (by decide) rfl (Nat.le_refl _) (by decide +kernel) (.inl rfl) (by first | trivial | simp only [sigsOk_nil,sigsOk_some,sigsOk_none,sig_tr,sig_pt,sig_mt,sig_agg,List.map_cons,List.map_nil,sig1_tr,sig1_pt,sig1_v,and_self,true_and,List.length_map,List.length_set]) ?_
 simp -dsimp -implicitDefEqProofs (disch:=first|omega|(simp only [lenr];try omega)) only [↓amPre,↓reduceIte,reduceCtorEq,reduceEqDiff,Nat.reduceBEq,reduceAdd,reduceLeDiff,reduceSub,reduceMul,reduceToNat,MM,bu0,cbJ1,cbJ7]
 refine awp_loopN 5 33 2 (by simp -dsimp -implicitDefEqProofs (disch:=first|omega|(simp only [lenr];try omega)) only [↓amPre,↓reduceIte,reduceCtorEq,reduceEqDiff,Nat.reduceBEq,reduceAdd,reduceLeDiff,reduceSub,reduceMul,reduceToNat,MM,bu0,cbJ1,cbJ7]) (by decide) (fun k st=>k≤ks.length∧st.fr 12=.i64 k∧st.fr 11=.i64 ks.length∧st.fr 10=ksl ks∧st.fr 0=.loc 0 [] 0 0∧st.fr 5=.ref 33 [] 2 0 k∧st.mem 33=some (ttr (twS L ks r k).2)∧st.mem 0=some (rdT L (twS L ks r k).1)) (ks.length) ?_ ?_
 ·simp -dsimp -implicitDefEqProofs (disch:=first|omega|(simp only [lenr];try omega)) only [↓amPre,↓reduceIte,reduceCtorEq,reduceEqDiff,Nat.reduceBEq,reduceAdd,reduceLeDiff,reduceSub,reduceMul,reduceToNat,MM,bu0,cbJ1,cbJ7,nilAs_eq]
  simp [twS]
 rintro k st _ ⟨hk,f12,f11,f10,f0,f5,m33,m0⟩
 have hkl:=twS_len L ks r k
 by_cases hlt:k<ks.length
 ·have hak:=twS_a (ks:=ks) ha k
  have hc:(ks.getD k default).c=((cOf ks k:Nat):Int):=by
   have:=(hkc _ (mem_getD ks k default hlt)).1
   unfold cOf;omega
  have hcb:cOf ks k≤1048575:=by
   have:=(hkc _ (mem_getD ks k default hlt)).2
   unfold cOf;omega
  have hst:twS L ks r (k+1)=((lnS L byT (cOf ks k) (lnS L toT (cOf ks k) (twS L ks r k).1).1).1,
   (twS L ks r k).2++[(⟨(lnS L toT (cOf ks k) (twS L ks r k).1).2,(lnS L byT (cOf ks k) (lnS L toT (cOf ks k) (twS L ks r k).1).1).2⟩:Twist)]):=rfl
  rw [hst]
  generalize (twS L ks r k).2=T at *
  generalize (twS L ks r k).1=r1 at *
  have w1:=wordsI L toT (cOf ks k) r1 hL hak (by omega)
  have n1:=numbersI L (wordsS L toT (cOf ks k) r1).2 (wordsS L toT (cOf ks k) r1).1 (by have:=wordsS_a (f:=toT) (c:=cOf ks k) hak;omega) (by rw [wordsS_len];omega) (wordsS_mem hL _ _ _)
  have hq:=lnS_a (f:=toT) (c:=cOf ks k) hak
  have e1:numbersS (wordsS L toT (cOf ks k) r1).2 (wordsS L toT (cOf ks k) r1).1=lnS L toT (cOf ks k) r1:=rfl
  rw [e1] at n1
  generalize lnS L toT (cOf ks k) r1=q at *
  generalize wordsS L toT (cOf ks k) r1=u at *
  have w2:=wordsI L byT (cOf ks k) q.1 hL hq (by omega)
  have n2:=numbersI L (wordsS L byT (cOf ks k) q.1).2 (wordsS L byT (cOf ks k) q.1).1 (by have:=wordsS_a (f:=byT) (c:=cOf ks k) hq;omega) (by rw [wordsS_len];omega) (wordsS_mem hL _ _ _)
  have e2:numbersS (wordsS L byT (cOf ks k) q.1).2 (wordsS L byT (cOf ks k) q.1).1=lnS L byT (cOf ks k) q.1:=rfl
  rw [e2] at n2
  generalize lnS L byT (cOf ks k) q.1=p at *
  generalize wordsS L byT (cOf ks k) q.1=v at *
  simp -dsimp -implicitDefEqProofs (disch:=first|omega|(simp only [lenr];try omega)) only [↓amPre,↓reduceIte,reduceCtorEq,reduceEqDiff,Nat.reduceBEq,reduceAdd,reduceLeDiff,reduceSub,reduceMul,reduceToNat,MM,bu0,cbJ1,cbJ7,f12,f11,f10,f0,f5,m33,m0,hc]
  iterate 3 ((first|refine callX_of (w1) ?_|refine callX_of (n1) ?_|refine callX_of (w2) ?_);simp -dsimp -implicitDefEqProofs (disch:=first|omega|(simp only [lenr];try omega)) only [↓amPre,↓reduceIte,reduceCtorEq,reduceEqDiff,Nat.reduceBEq,reduceAdd,reduceLeDiff,reduceSub,reduceMul,reduceToNat,MM,bu0,cbJ1,cbJ7,f12,f11,f10,f0,f5,m33,m0,hc])
  refine callX_of (n2) ?_
  simp -dsimp -implicitDefEqProofs (disch:=first|omega|(simp only [lenr];try omega)) only [↓amPre,↓reduceIte,reduceCtorEq,reduceEqDiff,Nat.reduceBEq,reduceAdd,reduceLeDiff,reduceSub,reduceMul,reduceToNat,MM,bu0,cbJ1,cbJ7,f12,f11,f10,f0,f5,m33,m0,hc,hkl]
  exact ⟨hlt,by omega⟩
 ·have hke:k=ks.length:=by omega
  subst hke
  simp -dsimp -implicitDefEqProofs (disch:=first|omega|(simp only [lenr];try omega)) only [↓amPre,↓reduceIte,reduceCtorEq,reduceEqDiff,Nat.reduceBEq,reduceAdd,reduceLeDiff,reduceSub,reduceMul,reduceToNat,MM,bu0,cbJ1,cbJ7,f12,f11,f10,f0,f5,m33,m0,hkl]
theorem kindsI (L:List Ln) (r0:Rd) (hL:okL L) (ha:r0.a≤L.length):SpecX Tryz.prog 57 [rdT L r0] [some (rdT L (kindsS L r0).1)] (ktr (kindsS L r0).2):=by
 have hll:=hL.1
 obtain ⟨n1,n2,n3,n4⟩:=kdN_ok L r0
 refine spec_of_awp_any (M:=MM) (np:=1) (X:=[6]) (fz:=false) mixed Tryz.func57 rfl rfl (by decide) rfl (Nat.le_refl _) (by decide +kernel) (.inl rfl) (by first | trivial | simp only [sigsOk_nil,sigsOk_some,sigsOk_none,sig_tr,sig_pt,sig_mt,sig_agg,List.map_cons,List.map_nil,sig1_tr,sig1_pt,sig1_v,and_self,true_and,List.length_map,List.length_set]) ?_
 simp -dsimp -implicitDefEqProofs (disch:=first|omega|(simp only [lenr];try omega)) only [↓amPre,↓reduceIte,reduceCtorEq,reduceEqDiff,Nat.reduceBEq,reduceAdd,reduceLeDiff,reduceSub,reduceMul,reduceToNat,MM,bu0,cbJ1,cbJ7]
 refine awp_loopN 3 23 2 (by simp -dsimp -implicitDefEqProofs (disch:=first|omega|(simp only [lenr];try omega)) only [↓amPre,↓reduceIte,reduceCtorEq,reduceEqDiff,Nat.reduceBEq,reduceAdd,reduceLeDiff,reduceSub,reduceMul,reduceToNat,MM,bu0,cbJ1,cbJ7]) (by decide) (fun k st=>k≤(kdN L r0)∧st.fr 4=.bl (decide (k<kdN L r0))∧st.fr 0=.loc 0 [] 0 0∧st.fr 3=.ref 23 [] 2 0 k∧st.mem 23=some (ktr (kdS L r0 k).2)∧st.mem 0=some (rdT L (kdS L r0 k).1)) ((kdN L r0)) ?_ ?_
 ·simp -dsimp -implicitDefEqProofs (disch:=first|omega|(simp only [lenr];try omega)) only [↓amPre,↓reduceIte,reduceCtorEq,reduceEqDiff,Nat.reduceBEq,reduceAdd,reduceLeDiff,reduceSub,reduceMul,reduceToNat,MM,bu0,cbJ1,cbJ7,nilAs_eq]
  exact ⟨Nat.zero_le _,by rw [decide_eq_true (show 0<kdN L r0 by omega)],rfl,rfl⟩
 rintro k st _ ⟨hk,f4,f0,f3,m23,m0⟩
 have hkl:=kdS_len L r0 k
 have hak:=kdS_a ha k
 have hin:=kdS_in L r0 k
 by_cases hlt:k<kdN L r0
 ·have hst:kdS L r0 (k+1)=(if 3<k+1 then rej (lnS L kindT 2 (kdS L r0 k).1).1 else (lnS L kindT 2 (kdS L r0 k).1).1,
   (kdS L r0 k).2++[(⟨(lnS L kindT 2 (kdS L r0 k).1).2.getD 0 0,(lnS L kindT 2 (kdS L r0 k).1).2.getD 1 0⟩:Kind)]):=rfl
  have hf:=firstI L (kdS L r0 (k+1)).1 hL
  have hfk:(firstS L (kdS L r0 (k+1)).1 == kindT)=decide (k+1<kdN L r0):=by
   by_cases c:k+1<kdN L r0
   ·rw [decide_eq_true c];exact txeq (n4 _ (by omega) c)
   ·rw [decide_eq_false c,show k+1=kdN L r0 by omega];exact txne n3
  generalize firstS L (kdS L r0 (k+1)).1=FT at *
  rw [hst] at hf ⊢
  generalize (kdS L r0 k).2=T at *
  generalize (kdS L r0 k).1=r1 at *
  have w1:=wordsI L kindT 2 r1 hL hak (by omega)
  have n1:=numbersI L (wordsS L kindT 2 r1).2 (wordsS L kindT 2 r1).1 (by have:=wordsS_a (f:=kindT) (c:=2) hak;omega) (by rw [wordsS_len];omega) (wordsS_mem hL _ _ _)
  have hq:=lnS_a (f:=kindT) (c:=2) hak
  have hq2:=(lnS_len L kindT 2 r1).1
  have e1:numbersS (wordsS L kindT 2 r1).2 (wordsS L kindT 2 r1).1=lnS L kindT 2 r1:=rfl
  rw [e1] at n1
  generalize lnS L kindT 2 r1=q at *
  generalize wordsS L kindT 2 r1=u at *
  have hr:=rejI L q.1 (by omega)
  simp -dsimp -implicitDefEqProofs (disch:=first|omega|(simp only [lenr];try omega)) only [↓amPre,↓reduceIte,reduceCtorEq,reduceEqDiff,Nat.reduceBEq,reduceAdd,reduceLeDiff,reduceSub,reduceMul,reduceToNat,MM,bu0,cbJ1,cbJ7,f4,f0,f3,m23,m0,decide_eq_true hlt]
  iterate 2 ((first|refine callX_of (w1) ?_|refine callX_of (n1) ?_);simp -dsimp -implicitDefEqProofs (disch:=first|omega|(simp only [lenr];try omega)) only [↓amPre,↓reduceIte,reduceCtorEq,reduceEqDiff,Nat.reduceBEq,reduceAdd,reduceLeDiff,reduceSub,reduceMul,reduceToNat,MM,bu0,cbJ1,cbJ7,f4,f0,f3,m23,m0])
  refine split_go 9 (by decide +kernel) ?_
  simp -dsimp -implicitDefEqProofs (disch:=first|omega|(simp only [lenr];try omega)) only [↓amPre,↓reduceIte,reduceCtorEq,reduceEqDiff,Nat.reduceBEq,reduceAdd,reduceLeDiff,reduceSub,reduceMul,reduceToNat,MM,bu0,cbJ1,cbJ7,f4,f0,f3,m23,m0,hq2,hkl]
  by_cases c3:3<k+1
  ·have c3':(3:Int)<((k+1:Nat):Int):=by omega
   rw [if_pos c3] at hf ⊢
   simp -dsimp -implicitDefEqProofs (disch:=first|omega|(simp only [lenr];try omega)) only [↓amPre,↓reduceIte,reduceCtorEq,reduceEqDiff,Nat.reduceBEq,reduceAdd,reduceLeDiff,reduceSub,reduceMul,reduceToNat,MM,bu0,cbJ1,cbJ7,f4,f0,f3,m23,m0,hq2,hkl,lt_true c3']
   iterate 2 ((first|refine callX_of (hr) ?_|refine callP_of (hf) ?_);simp -dsimp -implicitDefEqProofs (disch:=first|omega|(simp only [lenr];try omega)) only [↓amPre,↓reduceIte,reduceCtorEq,reduceEqDiff,Nat.reduceBEq,reduceAdd,reduceLeDiff,reduceSub,reduceMul,reduceToNat,MM,bu0,cbJ1,cbJ7,f4,f0,f3,m23,m0])
   exact ⟨hlt,by omega,congrArg AV.bl hfk⟩
  ·have c3':((k+1:Nat):Int)≤(3:Int):=by omega
   rw [if_neg c3] at hf ⊢
   simp -dsimp -implicitDefEqProofs (disch:=first|omega|(simp only [lenr];try omega)) only [↓amPre,↓reduceIte,reduceCtorEq,reduceEqDiff,Nat.reduceBEq,reduceAdd,reduceLeDiff,reduceSub,reduceMul,reduceToNat,MM,bu0,cbJ1,cbJ7,f4,f0,f3,m23,m0,hq2,hkl,lt_false c3']
   refine callP_of (hf) ?_
   simp -dsimp -implicitDefEqProofs (disch:=first|omega|(simp only [lenr];try omega)) only [↓amPre,↓reduceIte,reduceCtorEq,reduceEqDiff,Nat.reduceBEq,reduceAdd,reduceLeDiff,reduceSub,reduceMul,reduceToNat,MM,bu0,cbJ1,cbJ7,f4,f0,f3,m23,m0]
   exact ⟨hlt,by omega,congrArg AV.bl hfk⟩
 ·have hke:k=kdN L r0:=by omega
  subst hke
  have hrl:(kdS L r0 (kdN L r0)).2.length≤1048576:=by omega
  have hr:=rejI L (kdS L r0 (kdN L r0)).1 (by omega)
  unfold kindsS
  generalize (kdS L r0 (kdN L r0)).2=T at *
  generalize (kdS L r0 (kdN L r0)).1=r1 at *
  have hdf:decide (kdN L r0<kdN L r0)=false:=decide_eq_false (Nat.lt_irrefl _)
  by_cases c:kindsOk T
  ·have hA:=iAreValidKinds T (by omega)
   rw [decide_eq_true c] at hA
   rw [if_pos c]
   simp -dsimp -implicitDefEqProofs (disch:=first|omega|(simp only [lenr];try omega)) only [↓amPre,↓reduceIte,reduceCtorEq,reduceEqDiff,Nat.reduceBEq,reduceAdd,reduceLeDiff,reduceSub,reduceMul,reduceToNat,MM,bu0,cbJ1,cbJ7,f4,f0,f3,m23,m0,hdf,hkl,kfz]
   refine callP_of (hA) ?_
   simp -dsimp -implicitDefEqProofs (disch:=first|omega|(simp only [lenr];try omega)) only [↓amPre,↓reduceIte,reduceCtorEq,reduceEqDiff,Nat.reduceBEq,reduceAdd,reduceLeDiff,reduceSub,reduceMul,reduceToNat,MM,bu0,cbJ1,cbJ7,f4,f0,f3,m23,m0,hkl]
  ·have hA:=iAreValidKinds T (by omega)
   rw [decide_eq_false c] at hA
   rw [if_neg c]
   simp -dsimp -implicitDefEqProofs (disch:=first|omega|(simp only [lenr];try omega)) only [↓amPre,↓reduceIte,reduceCtorEq,reduceEqDiff,Nat.reduceBEq,reduceAdd,reduceLeDiff,reduceSub,reduceMul,reduceToNat,MM,bu0,cbJ1,cbJ7,f4,f0,f3,m23,m0,hdf,hkl,kfz]
   iterate 2 ((first|refine callP_of (hA) ?_|refine callX_of (hr) ?_);simp -dsimp -implicitDefEqProofs (disch:=first|omega|(simp only [lenr];try omega)) only [↓amPre,↓reduceIte,reduceCtorEq,reduceEqDiff,Nat.reduceBEq,reduceAdd,reduceLeDiff,reduceSub,reduceMul,reduceToNat,MM,bu0,cbJ1,cbJ7,f4,f0,f3,m23,m0,hkl])
end Ps
end Go.AM
namespace Go.Proofs
open Go.Shelf
def Tryz.collectL_ren:Go.Shelf.Ren:=⟨fun | 8=>101 | 11=>129 | n=>n,fun | 26=>9 | 28=>125 | 24=>78 | 0=>0 | 33=>43 | 4=>4 | n=>n,fun | n=>n⟩
theorem Tryz.collectL:Go.Proofs.SlLaysZ.n8 Tryz.prog Tryz.collectL_ren:={
 mixed:=by kernel_rfl
 f8:=⟨Tryz.f101.name,by decide,Tryz.func101.trans (congrArg some (by kernel_rfl))⟩
 f11:=⟨Tryz.f129.name,by decide,Tryz.func129.trans (congrArg some (by kernel_rfl))⟩
 t0:=Tryz.underlying0
 a0:=Tryz.isAgg0
 z0:=Tryz.sizeOf0
 v0:=Tryz.zeroValue0
 t24:=Tryz.underlying78
 a24:=Tryz.isAgg78
 z24:=Tryz.sizeOf78
 v24:=Tryz.zeroValue78
 t26:=Tryz.underlying9
 a26:=Tryz.isAgg9
 z26:=Tryz.sizeOf9
 v26:=Tryz.zeroValue9
 t28:=Tryz.underlying125
 a28:=Tryz.isAgg125
 z28:=Tryz.sizeOf125
 v28:=Tryz.zeroValue125
 i26:=by kernel_rfl }
end Go.Proofs
namespace Go.Proofs
open Go.RowKit Go.Shelf
open Go.AM.Ps (lnsOf full)
attribute [local go_sem] Oper.semAt_some
/-! strings.Lines collected: the iterator shortens the text that it has captured -/
def Dn.cut (W:World) (n:Nat):World:={ W with heap:=W.heap.extract 0 n }
theorem Dn.cut_size {W:World} {n:Nat} (h:n≤W.heap.size):(Dn.cut W n).heap.size=n:=by
 simp [Dn.cut];omega
theorem Dn.cut_get {W:World} {n k:Nat} (h:k<n):(Dn.cut W n).heap[k]? = W.heap[k]?:=by
 simp [Dn.cut,Array.getElem?_extract,h]
 omega
theorem Dn.cut_below {W:World} {n:Nat} (h:n≤W.heap.size):Below (Dn.cut W n).heap.size (Dn.cut W n) W:=by
 rw [Dn.cut_size h]
 exact ⟨rfl,rfl,rfl,by rw [Dn.cut_size h];exact h,fun b hb=>(Dn.cut_get hb).symm⟩
structure Dn.Inv (w0:World) (n1:Nat) (fn:FuncId) (sv:Value) (q Bs l D:Nat) (rest:List UInt8) (ss:List (List UInt8)) (W:World):Prop where
 qbox:W.heap[q]? = some (.cells #[.string ⟨rest.toArray⟩] 9 (0,0))
 ap:AnyZ.ApAt Tryz.collectL_ren (Dn.cut W n1) fn sv Bs l D ss W
 below:Below w0.heap.size w0 W
 size:n1≤W.heap.size
theorem Dn.yield (F:Fence) (m:Nat) (w0:World) (n1:Nat) (fn:FuncId) (hfn:F.fn fn) (sv:Value) (q Bs l D:Nat) (hq:q<n1) (h01:w0.heap.size≤n1) (hBl:Bs≠l) (hDl:D≠l) (hDB:D≠Bs) (h1B:n1≤Bs) (h1l:n1≤l)
  (N:Nat) (hN:N≤maxLen) (hNb:N*16≤140737488355328) (rest:List UInt8) (ss:List (List UInt8)) (x:List UInt8) (W:World) (h:Dn.Inv w0 n1 fn sv q Bs l D rest ss W) (hlen:ss.length<N) :
  YieldAt F m Tryz.prog l #[encStr x] W fun e W'=>e=.returned (.bool true)∧Dn.Inv w0 n1 fn sv q Bs l D rest (ss++[x]) W':=by
 have hcs:=Dn.cut_size h.size
 refine (AnyZ.apYield { Tryz.collectL with } F m (Dn.cut W n1) fn hfn sv Bs l D hBl hDl hDB (by rw [hcs];exact h1B) (by rw [hcs];exact h1l) N hN hNb ss x W h.ap hlen).mono ?_
 rintro e W' ⟨rfl,hap,_⟩
 have hb:=hap.below
 have hsz:n1≤W'.heap.size:=by have:=hb.size;rw [hcs] at this;exact this
 have hblk:∀ k,k<n1→W'.heap[k]? = W.heap[k]?:=fun k hk=>(hb.block k (by rw [hcs];exact hk)).trans (Dn.cut_get hk)
 refine ⟨rfl,(hblk q hq).trans h.qbox,⟨?_,hap.L,hap.K,Dn.cut_below hsz⟩,?_,hsz⟩
 ·obtain ⟨v,h1,h2,h3⟩:=hap.box
  rw [hcs] at h2
  exact ⟨v,h1,by rw [Dn.cut_size hsz];exact h2,h3⟩
 ·have:=h.below
  exact ⟨hb.os.trans this.os,hb.tape.trans this.tape,hb.output.trans this.output,by omega,fun k hk=>(hblk k (by omega)).trans (this.block k hk)⟩
theorem Dn.Inv.store {w0:World} {n1:Nat} {fn:FuncId} {sv:Value} {q Bs l D:Nat} {rest:List UInt8} {ss:List (List UInt8)} {W:World} (h:Dn.Inv w0 n1 fn sv q Bs l D rest ss W) (hq:q<n1) (h0q:w0.heap.size≤q) (h1B:n1≤Bs) (h1l:n1≤l) (h1D:n1≤D) (r2:List UInt8) :
  Dn.Inv w0 n1 fn sv q Bs l D r2 ss (W.setCell ⟨q,0,none⟩ (.string ⟨r2.toArray⟩)):=by
 have hg:W.grownBy (W.setCell ⟨q,0,none⟩ (.string ⟨r2.toArray⟩)) (some q):=grownBy_setCell0_a _ _ _
 have hsz:n1≤(W.setCell ⟨q,0,none⟩ (.string ⟨r2.toArray⟩)).heap.size:=Nat.le_trans h.size (Nat.le_of_eq (by simp))
 have hblk:∀ k,k≠q→k<W.heap.size→(W.setCell ⟨q,0,none⟩ (.string ⟨r2.toArray⟩)).heap[k]? = W.heap[k]?:=fun k hk hl=>hg.block k hl (fun e=>hk (by cases e;rfl))
 have hlt:∀ {k:Nat} {o:Obj},W.heap[k]? = some o→k<W.heap.size:=fun hk=>(Array.getElem?_eq_some_iff.1 hk).1
 obtain ⟨v,b1,b2,b3⟩:=h.ap.box
 rw [Dn.cut_size h.size] at b2
 refine ⟨heap_setCell_box_a _ h.qbox,⟨⟨v,(hblk Bs (by omega) (hlt b1)).trans b1,?_,b3⟩,(hblk l (by omega) (hlt h.ap.L)).trans h.ap.L,(hblk D (by omega) (hlt h.ap.K)).trans h.ap.K,Dn.cut_below hsz⟩,?_,hsz⟩
 ·rw [Dn.cut_size hsz]
  refine b2.kept hg ?_
  rcases b2.2 with ⟨rfl,_⟩ | ⟨g,cap,cur,rfl,hgn,_⟩
  ·exact .inl rfl
  ·refine .inr fun e'=>?_
   have:g=q:=by simpa [Value.ownBlock] using e'
   omega
 ·exact h.below.grown hg h.below.size (fun k e=>by cases e;exact h0q)
theorem Dn.Inv.drew {w0:World} {n1:Nat} {fn:FuncId} {sv:Value} {q Bs l D:Nat} {rest:List UInt8} {ss:List (List UInt8)} {W:World} (h:Dn.Inv w0 n1 fn sv q Bs l D rest ss W):Dn.Inv w0 n1 fn sv q Bs l D rest ss W.drew :=
 ⟨h.qbox,⟨h.ap.box,h.ap.L,h.ap.K,Dn.cut_below (W:=W.drew) h.size⟩,h.below.drew,h.size⟩
def Dn.left (W:World) (q:Nat):Nat:=match W.cell? ⟨q,0,none⟩ with | some (.string b)=>b.size | _=>0
theorem Dn.box_cell {W:World} {q:Nat} {v:Value} {t:TypeId} (h:W.heap[q]? = some (.cells #[v] t (0,0))):W.cell? ⟨q,0,none⟩=some v∧W.frozen? ⟨q,0,none⟩=false:=cell_of_box_a h
def Dn.lines (s:List UInt8):List (List UInt8):=(lnsOf s).map full
theorem Dn.ib_spec:∀ r:List UInt8,(Lib.indexByte r 10 = -1∧(10:UInt8)∉r)∨∃ i:Nat,Lib.indexByte r 10=i∧∃ a b,r=a++10 :: b∧a.length=i∧(10:UInt8)∉a
 | []=>.inl ⟨rfl,by simp⟩
 | x :: r=>by
  by_cases hx:x=10
  ·subst hx
   exact .inr ⟨0,by simp [Lib.indexByte],[],r,rfl,rfl,by simp⟩
  ·have hb:(x == 10)=false:=by simpa using hx
   rcases Dn.ib_spec r with ⟨h1,h2⟩ | ⟨i,h1,a,b,h2,h3,h4⟩
   ·refine .inl ⟨by simp [Lib.indexByte,hb,h1],?_⟩
    simp only [List.mem_cons,not_or]
    exact ⟨Ne.symm hx,h2⟩
   ·refine .inr ⟨i+1,?_,x :: a,b,by rw [h2];rfl,by simp [h3],?_⟩
    ·have hn:¬ ((i:Int) == -1)=true:=fun q=>by have:=beq_iff_eq.1 q;omega
     unfold Lib.indexByte
     rw [hb,h1,if_neg (by decide),if_neg hn];omega
    ·simp only [List.mem_cons,not_or]
     exact ⟨Ne.symm hx,h4⟩
theorem Dn.lines_one {r:List UInt8} (h:(10:UInt8)∉r) (hr:r≠[]):Dn.lines r=[r]:=by
 unfold Dn.lines
 rw [Go.AM.Ps.lns_one r hr h];rfl
theorem Dn.lines_cut {a b:List UInt8} (h:(10:UInt8)∉a):Dn.lines (a++10 :: b)=(a++[10]) :: Dn.lines b:=by
 unfold Dn.lines
 rw [Go.AM.Ps.lns_cut a b h];rfl
theorem Dn.lines_len (s:List UInt8):(Dn.lines s).length≤s.length:=by
 unfold Dn.lines
 rw [List.length_map];exact Go.AM.Ps.lns_len s
theorem Dn.ext1 (a b:List UInt8):(ByteArray.mk (a++10 :: b).toArray).extract 0 (a.length+1)=⟨(a++[10]).toArray⟩:=by
 rw [Go.AM.stext]
 congr 2
 simp [List.take_append]
 exact List.take_of_length_le (by omega)
theorem Dn.ext2 (a b:List UInt8):(ByteArray.mk (a++10 :: b).toArray).extract (a.length+1) (a++10 :: b).length=⟨b.toArray⟩:=by
 rw [Go.AM.stext]
 congr 2
 simp [List.take_of_length_le,List.drop_append]
theorem Dn.left_of {w0:World} {n1:Nat} {fn:FuncId} {sv:Value} {q Bs l D:Nat} {rest:List UInt8} {ss:List (List UInt8)} {W:World} (h:Dn.Inv w0 n1 fn sv q Bs l D rest ss W):Dn.left W q=rest.length:=by
 unfold Dn.left
 rw [(Dn.box_cell h.qbox).1];rfl
theorem Dn.size_mk (r:List UInt8):(ByteArray.mk r.toArray).size=r.length:=rfl
set_option maxRecDepth 100000 in set_option maxHeartbeats 2000000 in
theorem Dn.lines1_in (n:Nat) (hn:1≤n) (w0:World) (n1:Nat) (fn:FuncId) (sv:Value) (q Bs l D:Nat) (hq:q<n1) (h0q:w0.heap.size≤q) (hBl:Bs≠l) (hDl:D≠l) (hDB:D≠Bs) (h1B:n1≤Bs) (h1l:n1≤l) (h1D:n1≤D)
  (s:List UInt8) (hs:s.length≤1048576) (W:World) (h:Dn.Inv w0 n1 fn sv q Bs l D s [] W) :
  CallsIn Fence.wide n Tryz.prog 130 #[.func (.yield l) #[] #[],.pointer (some ⟨q,0,none⟩)] W fun e W'=>(∃ v,e=.returned v)∧Dn.Inv w0 n1 fn sv q Bs l D [] (Dn.lines s) W':=by
 refine callsIn_of_wp Tryz.func130 rfl trivial ?_ rfl
 simp only [Tryz.ntmps130,List.size_toArray,List.length_cons,List.length_nil,reduceAdd,reduceSub,Array.replicate_succ,Array.replicate_zero,List.push_toArray,List.append_toArray,List.nil_append,List.cons_append]
 gi_wp2
 gi_loopw [] (fun wr=>∃ (ss:List (List UInt8)) (r:List UInt8),Dn.Inv w0 n1 fn sv q Bs l D r ss wr∧ss++Dn.lines r=Dn.lines s∧r.length≤s.length) (fun wr=>Dn.left wr q)
 case atStart=>exact ⟨[],s,h,rfl,Nat.le_refl _⟩
 case round =>
  obtain ⟨ss,r,hI,hss,hrl⟩:=hrel
  obtain ⟨hc,hf⟩:=Dn.box_cell hI.qbox
  have hmx:(1048577:Nat)≤maxLen:=by decide
  by_cases hr:r=[]
  ·subst hr
   gi_wp2
   go_end0
   refine ⟨⟨_,rfl⟩,?_⟩
   rw [← hss,show Dn.lines []=[] from rfl,List.append_nil];exact hI
  ·have hpos:0<r.length:=List.length_pos_iff.2 hr
   have hsz:=Dn.size_mk r
   have hll:=Dn.lines_len s
   have hib:=Any.strings_IndexByte Tryz.indexL ⟨r.toArray⟩ 10 wr
   rcases Dn.ib_spec r with ⟨h1,h2⟩ | ⟨i,h1,a,b,h2,h3,h4⟩
   ·have hl1:=Dn.lines_one h2 hr
    have hI2:=hI.store hq h0q h1B h1l h1D []
    have hlen:ss.length<1048577:=by rw [← hss,hl1] at hll;simp at hll;omega
    obtain ⟨fn',tmps,assign,body,hy,hR⟩:=Dn.yield Fence.wide (n - 1) w0 n1 fn trivial sv q Bs l D hq (by omega) hBl hDl hDB h1B h1l 1048577 hmx (by omega) [] ss r _ hI2 hlen
    have hib2:Calls Tryz.prog 131 #[.string ⟨r.toArray⟩,.int .u8 10] wr fun e w'=>e=.returned (.int .i64 (-1))∧w'=wr:=hib.mono fun e w' hh=>⟨by rw [hh.1,← h1];rfl,hh.2⟩
    clear hib
    gi_wp2_with (refine ⟨trivial,?_⟩;gi_at_call 131;refine (callsIn_wide.2 hib2).mono ?_;rintro e w' ⟨rfl,rfl⟩)
    refine hR.mono ?_
    rintro e W3 ⟨rfl,hI3⟩
    gi_wp2
    go_roundw
    case rel=>exact ⟨ss++[r],[],hI3,by rw [← hss,hl1,show Dn.lines []=[] from rfl,List.append_nil],Nat.zero_le _⟩
    case measure=>rw [Dn.left_of hI3,Dn.left_of hI];exact hpos
   ·have hl1:Dn.lines r=(a++[10]) :: Dn.lines b:=by rw [h2];exact Dn.lines_cut h4
    have hI2:=(hI.store hq h0q h1B h1l h1D b).drew
    have hlen:ss.length<1048577:=by rw [← hss,hl1] at hll;simp at hll;omega
    obtain ⟨fn',tmps,assign,body,hy,hR⟩:=Dn.yield Fence.wide (n - 1) w0 n1 fn trivial sv q Bs l D hq (by omega) hBl hDl hDB h1B h1l 1048577 hmx (by omega) b ss (a++[10]) _ hI2 hlen
    have hib2:Calls Tryz.prog 131 #[.string ⟨r.toArray⟩,.int .u8 10] wr fun e w'=>e=.returned (.int .i64 (i:Int))∧w'=wr:=hib.mono fun e w' hh=>⟨by rw [hh.1,← h1];rfl,hh.2⟩
    have e1:(ByteArray.mk r.toArray).extract 0 (i+1)=⟨(a++[10]).toArray⟩:=by rw [h2,← h3];exact Dn.ext1 a b
    have e2:(ByteArray.mk r.toArray).extract (i+1) r.length=⟨b.toArray⟩:=by rw [h2,← h3];exact Dn.ext2 a b
    have hb1:i+1≤r.length:=by rw [h2,← h3];simp
    have hb2:b.length<r.length:=by rw [h2];simp;omega
    clear hib h1 h2 h3 h4 hll
    gi_wp2_with (refine ⟨trivial,?_⟩;gi_at_call 131;refine (callsIn_wide.2 hib2).mono ?_;rintro e w' ⟨rfl,rfl⟩)
    have mixed:=Go.AM.mixed
    gi_region
    gi_wp2
    refine hR.mono ?_
    rintro e W3 ⟨rfl,hI3⟩
    gi_wp2
    go_roundw
    case rel=>exact ⟨ss++[a++[10]],b,hI3,by rw [← hss,hl1,List.append_assoc];rfl,by omega⟩
    case measure=>rw [Dn.left_of hI3,Dn.left_of hI];exact hb2
set_option maxRecDepth 100000 in set_option maxHeartbeats 2000000 in
theorem Dn.append_in (n:Nat) (hn:2≤n) (w0:World) (q:Nat) (s:List UInt8) (hs:s.length≤1048576) (w:World) (hq:q<w.heap.size) (h0q:w0.heap.size≤q) (hbox:w.heap[q]? = some (.cells #[.string ⟨s.toArray⟩] 9 (0,0))) (hb:Below w0.heap.size w0 w) :
    CallsIn Fence.wide n Tryz.prog 129 #[.slice none 0 0,.func (.func 130) #[] #[.pointer (some ⟨q,0,none⟩)]] w fun e w'=>∃ v,e=.returned v∧w'.ownsRow w.heap.size 9 1 v (Dn.lines s).length ((Dn.lines s).map encStr)∧Below w0.heap.size w0 w':=by
  have h1:1≤n:=by omega
  refine callsIn_of_wp_marks Tryz.func129 rfl trivial ?_ rfl
  simp only [Tryz.ntmps129,List.size_toArray,List.length_cons,List.length_nil,reduceAdd,reduceSub,Array.replicate_succ,Array.replicate_zero,List.push_toArray,List.append_toArray,List.nil_append,List.cons_append]
  gi_wp2
  refine wpIn_rangeFunc ?_
  intro fn hfn
  rw [show Fence.wide.round=none from rfl]
  obtain ⟨sv,hsv⟩:∃ sv:Value,sv=.func (.func 130) #[] #[.pointer (some ⟨q,0,none⟩)]:=⟨_,rfl⟩
  obtain ⟨W0,hW0⟩:∃ W0,w.alloc (.cells #[.slice none 0 0] 78)=W0:=⟨_,rfl⟩
  have hs0:W0.heap.size=w.heap.size+1:=by rw [← hW0];simp
  have hv0:W0.heap[w.heap.size]? = some (.cells #[.slice none 0 0] 78 (0,0)):=by rw [← hW0];exact World.alloc_heap_new w _
  have hb0:Below w0.heap.size w0 W0:=by rw [← hW0];exact hb.alloc hb.size _
  have hq0:W0.heap[q]? = w.heap[q]?:=by rw [← hW0];exact Below.heap_alloc _ _ q hq
  rw [hW0]
  obtain ⟨W1,hW1⟩:∃ W1,(W0.alloc (.deferred (some []))).alloc (.loop (AnyZ.apRec Tryz.collectL_ren fn sv w.heap.size W0.heap.size .ready none))=W1:=⟨_,rfl⟩
  have hold:∀ k,k<W0.heap.size→W1.heap[k]? = W0.heap[k]?:=fun k hk=>by
    rw [← hW1];exact (Below.heap_alloc _ _ k (by simp;omega)).trans (Below.heap_alloc _ _ k hk)
  have hb1:Below w0.heap.size w0 W1:=by rw [← hW1];exact (hb0.alloc hb0.size _).alloc (by have:=hb0.size;simp;omega) _
  have hs1:W1.heap.size=W0.heap.size+2:=by rw [← hW1];simp
  have hM:Dn.Inv w0 w.heap.size fn sv q w.heap.size (W0.heap.size+1) W0.heap.size s [] W1 :=
    ⟨(hold q (by omega)).trans (hq0.trans hbox),
     ⟨⟨_,(hold w.heap.size (by omega)).trans hv0,⟨rfl,.inl ⟨rfl,rfl⟩⟩,by simp⟩,
      by rw [← hW1];have:=World.alloc_heap_new (W0.alloc (.deferred (some []))) (.loop (AnyZ.apRec Tryz.collectL_ren fn sv w.heap.size W0.heap.size .ready none));rwa [World.size_alloc] at this,
      by rw [← hW1];exact (Below.heap_alloc _ _ _ (by simp)).trans (World.alloc_heap_new W0 _),Dn.cut_below (by omega)⟩,hb1,by omega⟩
  have e130:∀ args w,(callFunc 130 args).run Tryz.prog w=.ok (.enter 130 args) w:=enters_of Tryz.func130 (by kernel_rfl) rfl
  refine ⟨W0.heap.size+1,[{ target:=.collected W0.heap.size,args:=#[] }],W1,{ target:=.fn (.func 130) #[.pointer (some ⟨q,0,none⟩)],args:=#[.func (.yield (W0.heap.size+1)) #[] #[]] },W1,130,
    #[.func (.yield (W0.heap.size+1)) #[] #[]] ++ #[.pointer (some ⟨q,0,none⟩)],W1,?_,?_,?_,?_,fun _=>h1,?_⟩
  · rw [← hW1,hsv];exact run_enterLoop_outer _ _ _ _ _
  · simp [resolve,go_sem]
  · intro f' hf';trivial
  · simp [invoke,go_sem,e130]
  · refine (Dn.lines1_in (n - 1) (by omega) w0 w.heap.size fn sv q w.heap.size (W0.heap.size+1) W0.heap.size hq h0q (by omega) (by omega) (by omega) (Nat.le_refl _) (by omega) (by omega) s hs W1 hM).mono ?_
    rintro e W2 ⟨⟨v0,rfl⟩,h2⟩
    obtain ⟨v,hv,hrow,hnil⟩:=h2.ap.box
    rw [Dn.cut_size h2.size] at hrow
    have hend:=run_endLoop (P:=Tryz.prog) h2.ap.L (by simp [AnyZ.apRec])
    obtain ⟨W3,hW3⟩:∃ W3,W2.putObj (W0.heap.size+1) (.loop { AnyZ.apRec Tryz.collectL_ren fn sv w.heap.size W0.heap.size .ready none with state:=.exhausted })=W3:=⟨_,rfl⟩
    rw [hW3] at hend
    have hg3:W2.grownBy W3 (some (W0.heap.size+1)):=by rw [← hW3];exact grownBy_putObj_a _ _ _
    have hv3:W3.heap[w.heap.size]? = some (.cells #[v] 78 (0,0)):=by rw [← hW3];exact (World.putObj_heap_other (by omega)).trans hv
    have hK3:W3.heap[W0.heap.size]? = some (.deferred (some [])):=by rw [← hW3];exact (World.putObj_heap_other (by omega)).trans h2.ap.K
    have hrow3:=hrow.kept hg3 (ownsRow_ne_a hrow h2.ap.L (fun cur e=>by cases e))
    have hb3:Below w0.heap.size w0 W3:=h2.below.grown hg3 h2.below.size (fun k e=>by cases e;have:=hb.size;omega)
    obtain ⟨hc3,hf3⟩:=cell_of_box_a hv3
    clear hW3
    refine ⟨none,W3,hend,?_⟩
    gi_wp2
    rw [← hs0]
    refine ⟨by simp,.inl ⟨_,_,rfl,run_takeDeferred hK3,?_⟩⟩
    exact ⟨_,results_tmp rfl _ _ _,v,rfl,hrow3.kept (grownBy_putObj_a _ _ _) (ownsRow_ne_a hrow3 hK3 (fun cur e=>by cases e)),hb3.grown (grownBy_putObj_a _ _ _) hb3.size (fun k e=>by cases e;have:=hb.size;omega)⟩
set_option maxHeartbeats 1000000 in
theorem Dn.collect_in (n:Nat) (hn:3≤n) (w0:World) (q:Nat) (s:List UInt8) (hs:s.length≤1048576) (w:World) (hq:q<w.heap.size) (h0q:w0.heap.size≤q) (hbox:w.heap[q]? = some (.cells #[.string ⟨s.toArray⟩] 9 (0,0))) (hb:Below w0.heap.size w0 w) :
  CallsIn Fence.wide n Tryz.prog 101 #[.func (.func 130) #[] #[.pointer (some ⟨q,0,none⟩)]] w fun e w'=>∃ v,e=.returned v∧w'.ownsRow w.heap.size 9 1 v (Dn.lines s).length ((Dn.lines s).map encStr)∧Below w0.heap.size w0 w':=by
 have h1:1≤n:=by omega
 refine callsIn_of_wp Tryz.func101 rfl trivial ?_ rfl
 simp only [Tryz.ntmps101,List.size_toArray,List.length_cons,List.length_nil,reduceAdd,reduceSub,Array.replicate_succ,Array.replicate_zero,List.push_toArray,List.append_toArray,List.nil_append,List.cons_append]
 gi_wp2_with (refine ⟨trivial,?_⟩;gi_at_call 129;refine (Dn.append_in (n - 1) (by omega) w0 q s hs _ hq h0q hbox hb).mono ?_;rintro e w' ⟨v,rfl,hrow,hbl⟩)
 go_ret
 exact ⟨v,rfl,hrow,hbl⟩
set_option maxHeartbeats 1000000 in
theorem Dn.mk_in (n:Nat) (s:List UInt8) (w:World) :
  CallsIn Fence.wide n Tryz.prog 102 #[.string ⟨s.toArray⟩] w fun e w'=>e=.returned (.func (.func 130) #[] #[.pointer (some ⟨w.heap.size,0,none⟩)])∧w'=w.alloc (.cells #[.string ⟨s.toArray⟩] 9):=by
 refine callsIn_of_wp Tryz.func102 rfl trivial ?_ rfl
 simp only [Tryz.ntmps102,List.size_toArray,List.length_cons,List.length_nil,reduceAdd,reduceSub,Array.replicate_succ,Array.replicate_zero,List.push_toArray,List.append_toArray,List.nil_append,List.cons_append]
 gi_wp2
 go_ret
 exact ⟨rfl,rfl⟩
theorem Dn.row_slice {W:World} {base:Nat} {e:TypeId} {size:Nat} {v:Value} {k:Nat} {xs:List Value} (h:W.ownsRow base e size v k xs):∃ a n c,v=.slice a n c:=by
 rcases h.2 with ⟨rfl,_⟩ | ⟨g,cap,cur,rfl,_⟩ <;> exact ⟨_,_,_,rfl⟩
set_option maxHeartbeats 1000000 in
theorem Dn.new_in (n:Nat) (hn:4≤n) (s:List UInt8) (hs:s.length≤1048576) (w:World) :
    CallsIn Fence.wide n Tryz.prog 47 #[.string ⟨s.toArray⟩] w fun e w'=>∃ B v,e=.returned (.pointer (some ⟨B,0,none⟩))∧w.heap.size≤B∧w'.heap[B]? = some (.cells #[v,.int .i64 0,.int .i64 (if 2000<s.length then -2 else -1)] 80 (0,0))∧v.oneCell'=true∧v.ownBlock≠some B∧w'.ownsRow w.heap.size 9 1 v (Dn.lines s).length ((Dn.lines s).map encStr)∧Below w.heap.size w w':=by
  have h1:1≤n:=by omega
  refine callsIn_of_wp Tryz.func47 rfl trivial ?_ rfl
  simp only [Tryz.ntmps47,List.size_toArray,List.length_cons,List.length_nil,reduceAdd,reduceSub,Array.replicate_succ,Array.replicate_zero,List.push_toArray,List.append_toArray,List.nil_append,List.cons_append]
  have hsz:=Dn.size_mk s
  gi_wp2_with (first
    | (refine ⟨trivial,?_⟩;gi_at_call 102;refine (Dn.mk_in (n - 1) s w).mono ?_;rintro e w1 ⟨rfl,hw1⟩;have hb1:Below w.heap.size w w1:=by rw [hw1];exact (Below.refl _ w).alloc (Nat.le_refl _) _
       have hq1:w1.heap[w.heap.size]? = some (.cells #[.string ⟨s.toArray⟩] 9 (0,0)):=by rw [hw1];exact World.alloc_heap_new w _
       have hs1:w.heap.size<w1.heap.size:=by rw [hw1];simp
       clear hw1)
    | (refine ⟨trivial,?_⟩;gi_at_call 101;refine (Dn.collect_in (n - 1) (by omega) w w.heap.size s hs w1 hs1 (Nat.le_refl _) hq1 hb1).mono ?_;rintro e w2 ⟨v,rfl,hrow,hb2⟩;obtain ⟨va,vn,vc,rfl⟩:=Dn.row_slice hrow))
  all_goals go_ret
  all_goals
    refine ⟨w2.heap.size,rfl,hb2.size,.slice va vn vc,World.alloc_heap_new w2 _,rfl,?_,?_,hb2.alloc hb2.size _⟩
    · intro e
      have:=(hrow.lt _ e).2
      omega
    · exact ownsRow_base_a (hrow.alloc _) (Nat.le_of_lt hs1)
end Go.Proofs
namespace Go.AM
namespace Ps
open Go.Proofs
open Go.Shelf
theorem newI (s:Tx) (hs:s.length≤1048576):SpecAt Tryz.prog 47 [.st s] (rdT (lnsOf s) ⟨0,if 2000<s.length then -2 else -1⟩):=by
 have e:rdT (lnsOf s) ⟨0,if 2000<s.length then -2 else -1⟩=rdr ((Dn.lines s).map encStr) (.int .i64 0) (.int .i64 (if 2000<s.length then -2 else -1)):=by
  unfold rdT rdr Dn.lines
  rw [List.map_map,List.map_map];rfl
 rw [e]
 refine spec_rdr (f:=47) ⟨_,_,Tryz.func47,rfl,by decide⟩ _ rfl _ (fun x hx=>?_) _ _ rfl rfl 9 80 fun I w vals hI hvs hr=>?_
 ·obtain ⟨l,_,rfl⟩:=List.mem_map.1 hx;rfl
 obtain ⟨v0,rfl⟩:∃ v0,vals = #[v0]:=by
  match vals,hvs with
  | ⟨[a]⟩,_=>exact ⟨a,rfl⟩
 obtain rfl:=arg_st (hr 0 (by simp) (by simp))
 refine (callsIn_wide.1 (Dn.new_in 4 (Nat.le_refl _) s hs w)).mono ?_
 rintro e w' ⟨B,v,rfl,h1,h2,h3,h4,h5,h6⟩
 exact ⟨B,v,rfl,h1,h2,h3,h4,by rw [List.length_map];exact h5,h6⟩
end Ps
end Go.AM
