/-
  CONTRACTS of functions of the program,and what they compute,by content.
-/
import Derived.Test.YtenlmhbkigfjeaaCB1
import Derived.Test.YtenlmhbkigfjeaaCB0
import Derived.Test.YtenlmhbkigfjeaaM2SD
set_option linter.unusedVariables false
set_option linter.unusedSimpArgs false
set_option maxRecDepth 8000
namespace Go.AM
namespace Sq
open Go.Proofs
theorem sInvertWord (w:List Int) (hw:w.length≤1099511627775) (hv:∀ x∈w,-9223372036854775807≤x∧x≤9223372036854775807):SpecAt Try.prog 130 [isl w] (itr (invW w)):=by
  have hall:=invK_all w
  refine spec_of_awp (M:=MM) (np:=1) (fz:=false) mixed Try.func130 rfl rfl (by decide) rfl (Nat.le_refl _) (by decide +kernel) (.inl rfl) (by first | trivial | simp only [sigsOk_nil,sigsOk_some,sigsOk_none,sig_tr,sig_pt,sig_mt,sig_agg,List.map_cons,List.map_nil,sig1_tr,sig1_pt,sig1_v,and_self,true_and,List.length_map,List.length_set]) ?_
  simp -dsimp -implicitDefEqProofs (disch:=first | omega | (simp only [lenr];try omega)) only [↓amPre,amAll,↓reduceIte,reduceCtorEq,Nat.reduceEqDiff,Nat.reduceBEq,Nat.reduceAdd,Nat.reduceLeDiff,Nat.reduceSub,Nat.reduceMul,Int.reduceToNat,List.size_toArray,tyF,MM,bu0,cbU49]
  refine awp_loop (fun k st=>k≤w.length∧st.fr 4=.i64 ((w.length:Int) - 1 - k)∧st.fr 0=isl w∧((k=0∧st.fr 3=.ref 5 [] 1 0 0∧st.mem 5=some (.tr 1 []))∨(0<k∧st.fr 3=.ref 20 [] 1 0 k∧st.mem 20=some (itr (invK w k))))) (w.length) ?_ ?_
  · simp -dsimp -implicitDefEqProofs (disch:=first | omega | (simp only [lenr];try omega)) only [↓amPre,amAll,↓reduceIte,reduceCtorEq,Nat.reduceEqDiff,Nat.reduceBEq,Nat.reduceAdd,Nat.reduceLeDiff,Nat.reduceSub,Nat.reduceMul,Int.reduceToNat,List.size_toArray,tyF,MM,bu0,cbU49]
    simp
  rintro k st _ ⟨hk,f4,f0,ek⟩
  have hl:=invK_len w k
  by_cases hlt:k<w.length
  · obtain ⟨q,hq⟩:∃ q:Nat,q+1+k=w.length:=⟨w.length - 1 - k,by omega⟩
    have hqq:w.length - 1 - k=q:=by omega
    have e4:((w.length:Int) - 1 - k)=(q:Int):=by omega
    have hx:=hv _ (mem_getD w q 0 (by omega))
    have hs:invK w k++[-(w.getD q 0)]=invK w (k+1):=by rw [invK,hqq]
    have ex:IntKind.i64.wrap (0 - w.getD q 0) = -(w.getD q 0):=by rw [wrap64_id (by omega)];omega
    rw [e4] at f4
    have ew:IntKind.i64.wrap ((q:Int) - 1)=(w.length:Int) - 1 - ((k+1:Nat):Int):=by rw [wrap64_id (by omega)];omega
    have c1:(0:Int)≤(q:Int):=by omega
    rcases ek with ⟨rfl,g3,g5⟩ | ⟨h0,g3,g20⟩
    · simp -dsimp -implicitDefEqProofs (disch:=first | omega | (simp only [lenr];try omega)) only [↓amPre,amAll,↓reduceIte,reduceCtorEq,Nat.reduceEqDiff,Nat.reduceBEq,Nat.reduceAdd,Nat.reduceLeDiff,Nat.reduceSub,Nat.reduceMul,Int.reduceToNat,List.size_toArray,tyF,MM,bu0,cbU49,f4,f0,g3,g5,ex,ew,c1]
      refine ⟨hlt,by omega,by omega,?_⟩
      have:invK w 1=[-(w.getD q 0)]:=by rw [← hs];rfl
      rw [this];rfl
    · simp -dsimp -implicitDefEqProofs (disch:=first | omega | (simp only [lenr];try omega)) only [↓amPre,amAll,↓reduceIte,reduceCtorEq,Nat.reduceEqDiff,Nat.reduceBEq,Nat.reduceAdd,Nat.reduceLeDiff,Nat.reduceSub,Nat.reduceMul,Int.reduceToNat,List.size_toArray,tyF,MM,bu0,cbU49,f4,f0,g3,g20,hl,ex,ew,c1,hs]
      exact ⟨hlt,by omega,by omega⟩
  · have hke:k=w.length:=by omega
    subst hke
    have e4:((w.length:Int) - 1 - (w.length:Nat)) = -1:=by omega
    rw [e4] at f4
    rcases ek with ⟨h0,g3,g5⟩ | ⟨h0,g3,g20⟩
    · have hw0:w=[]:=List.length_eq_zero_iff.1 h0
      subst hw0
      simp -dsimp -implicitDefEqProofs (disch:=first | omega | (simp only [lenr];try omega)) only [↓amPre,amAll,↓reduceIte,reduceCtorEq,Nat.reduceEqDiff,Nat.reduceBEq,Nat.reduceAdd,Nat.reduceLeDiff,Nat.reduceSub,Nat.reduceMul,Int.reduceToNat,List.size_toArray,tyF,MM,bu0,cbU49,f4,f0,g3,g5]
      try rfl
    · have hwl:=invW_len w
      rw [hall] at g20
      rw [← hwl] at g3
      simp -dsimp -implicitDefEqProofs (disch:=first | omega | (simp only [lenr];try omega)) only [↓amPre,amAll,↓reduceIte,reduceCtorEq,Nat.reduceEqDiff,Nat.reduceBEq,Nat.reduceAdd,Nat.reduceLeDiff,Nat.reduceSub,Nat.reduceMul,Int.reduceToNat,List.size_toArray,tyF,MM,bu0,cbU49,f4,f0,g3,g20]
theorem sInvWord (w:List Int) (hw:wordOk 8 w):SpecAt Try.prog 48 [isl w] (itr (invW w)):=by
  have hl:=hw.1
  have hx:=hw.2
  have q1:=sWordOf 8 w (by unfold intOk;omega) (by omega) (fun y h=>by have:=hx y h;unfold letOk at this;unfold intOk;omega)
  rw [decide_eq_true hw] at q1
  have q0:SpecAt Try.prog 129 [isl w] (.bl true):=by
    refine spec_of_awp (M:=MM) (np:=1) (fz:=true) mixed Try.func129 rfl rfl (by decide) rfl (Nat.le_refl _) (by decide +kernel) (.inr ⟨rfl,rfl⟩) trivial ?_
    simp -dsimp -implicitDefEqProofs (disch:=first | omega | (simp only [lenr];try omega)) only [↓amPre,amAll,↓reduceIte,reduceCtorEq,Nat.reduceEqDiff,Nat.reduceBEq,Nat.reduceAdd,Nat.reduceLeDiff,Nat.reduceSub,Nat.reduceMul,Int.reduceToNat,List.size_toArray,tyF,MM,bu0,cbU49]
    refine callP_of (q1) ?_
    simp -dsimp -implicitDefEqProofs (disch:=first | omega | (simp only [lenr];try omega)) only [↓amPre,amAll,↓reduceIte,reduceCtorEq,Nat.reduceEqDiff,Nat.reduceBEq,Nat.reduceAdd,Nat.reduceLeDiff,Nat.reduceSub,Nat.reduceMul,Int.reduceToNat,List.size_toArray,tyF,MM,bu0,cbU49]
  have q2:=sInvertWord w (by omega) (fun y h=>by have:=hx y h;unfold letOk at this;omega)
  refine spec_of_awp (M:=MM) (np:=1) (fz:=false) mixed Try.func48 rfl rfl (by decide) rfl (Nat.le_refl _) (by decide +kernel) (.inl rfl) (by first | trivial | simp only [sigsOk_nil,sigsOk_some,sigsOk_none,sig_tr,sig_pt,sig_mt,sig_agg,List.map_cons,List.map_nil,sig1_tr,sig1_pt,sig1_v,and_self,true_and,List.length_map,List.length_set]) ?_
  simp -dsimp -implicitDefEqProofs (disch:=first | omega | (simp only [lenr];try omega)) only [↓amPre,amAll,↓reduceIte,reduceCtorEq,Nat.reduceEqDiff,Nat.reduceBEq,Nat.reduceAdd,Nat.reduceLeDiff,Nat.reduceSub,Nat.reduceMul,Int.reduceToNat,List.size_toArray,tyF,MM,bu0,cbU49]
  refine callP_of (q0) ?_
  simp -dsimp -implicitDefEqProofs (disch:=first | omega | (simp only [lenr];try omega)) only [↓amPre,amAll,↓reduceIte,reduceCtorEq,Nat.reduceEqDiff,Nat.reduceBEq,Nat.reduceAdd,Nat.reduceLeDiff,Nat.reduceSub,Nat.reduceMul,Int.reduceToNat,List.size_toArray,tyF,MM,bu0,cbU49]
  refine callP_of (q2) ?_
  simp -dsimp -implicitDefEqProofs (disch:=first | omega | (simp only [lenr];try omega)) only [↓amPre,amAll,↓reduceIte,reduceCtorEq,Nat.reduceEqDiff,Nat.reduceBEq,Nat.reduceAdd,Nat.reduceLeDiff,Nat.reduceSub,Nat.reduceMul,Int.reduceToNat,List.size_toArray,tyF,MM,bu0,cbU49]
theorem scrW_pre (n:Nat) (x:Int):∀ d k i,i<k→(scrW n x (k+d)).getD i 0=(scrW n x k).getD i 0
  | 0,_,_,_=>rfl
  | d+1,k,i,h=>by
    rw [← Nat.add_assoc,scrW,getD_app_l _ _ _ _ (by rw [scrW_len];omega)]
    exact scrW_pre n x d k i h
theorem scrW_prop {n:Nat} {x:Int} (hn:1<n) (h0:0≤x) (h1:x<2147483647) (c i:Nat) (hi:0<i) (hc:i<c):¬ sameI ((scrW n x c).getD (i - 1) 0) ((scrW n x c).getD i 0):=by
  have e1:=scrW_pre n x (c - (i+1)) (i+1) i (by omega)
  have e2:=scrW_pre n x (c - i) i (i - 1) (by omega)
  rw [show i+1+(c - (i+1))=c by omega] at e1
  rw [show i+(c - i)=c by omega] at e2
  have hl:=scrW_len n x i
  have hne:scrW n x i≠[]:=fun q=>by rw [q] at hl;simp at hl;omega
  have hix:=scr_ix (n:=n) (x:=x) (by omega) h0 h1 i (scrW n x i)
  have hm:=mem_getD (cndL n (scrW n x i)) ((rndK x (i+1)).tmod (cndL n (scrW n x i)).length).toNat 0 (by omega)
  have e3:(scrW n x (i+1)).getD i 0=(cndL n (scrW n x i)).getD ((rndK x (i+1)).tmod (cndL n (scrW n x i)).length).toNat 0:=by
    rw [scrW]
    have:=getD_app_r (scrW n x i) [(cndL n (scrW n x i)).getD ((rndK x (i+1)).tmod (cndL n (scrW n x i)).length).toNat 0] 0 0
    rw [hl] at this
    exact this
  rw [← e3] at hm
  unfold cndL at hm
  rw [if_pos ⟨hne,hn⟩,List.mem_filter] at hm
  have hs:=hm.2
  rw [e1,e2]
  have hlast:lastW (scrW n x i)=(scrW n x i).getD (i - 1) 0:=by unfold lastW;rw [hl]
  rw [hlast] at hs
  intro q
  have:sameI ((scrW n x (i+1)).getD i 0) ((scrW n x i).getD (i - 1) 0):=by
    unfold sameI at *
    rcases q with q | q
    · exact .inl q.symm
    · exact .inr (by omega)
  rw [decide_eq_true this] at hs
  cases hs
theorem scr_proper {p:Puzz} {x c:Int} (h:canScr p x c):scrOk p (scrR p x c):=by
  refine ⟨h.1,(scrR_word h).1,?_⟩
  have hx:=within_iff.1 h.2.1
  have hn:=puzz_nm h.1
  by_cases c1:p.mv.length=1
  · exact .inl c1
  · refine .inr fun i hi hl=>?_
    have hr:scrR p x c=scrW p.mv.length x c.toNat:=if_pos h
    rw [hr] at hl ⊢
    rw [scrW_len] at hl
    exact scrW_prop (by omega) hx.1 (by omega) c.toNat i hi hl
end Sq
end Go.AM
set_option maxRecDepth 8000
namespace Go.AM
namespace Dice
open Go.Proofs
def MM:FuncId→List Bool:=fun f=>if f=20 then [true,false] else if f=65 then [true] else []
structure Dc where
  b:List UInt8
  i:Nat
  h:Int
abbrev u64 (n:Int):AV:=.v (.int .u64 n)
abbrev bsl (l:List UInt8):AV:=.sl 1 (l.map fun x=>.u8 x.toNat)
abbrev Dc.pt (s:Dc):AV:=.pt 3 (.agg [bsl s.b,.i64 s.i,u64 s.h])
abbrev Dc.ok (s:Dc):Prop:=s.b.length≤4096∧s.i≤s.b.length
instance:Thing UInt8:=⟨⟩
theorem wrapU_id {x:Int} (h:0≤x∧x<18446744073709551616):IntKind.u64.wrap x=x:=by
  unfold IntKind.wrap
  simp only [IntKind.signed,IntKind.bits,Bool.false_and,Bool.false_eq_true,if_false]
  exact Int.emod_eq_of_lt h.1 h.2
theorem andU (a:Int):0≤bitsI .and .u64 a 16777215∧bitsI .and .u64 a 16777215≤16777215:=by
  have h:(BitVec.ofInt 64 a &&& BitVec.ofInt 64 16777215).toNat≤16777215:=by
    rw [BitVec.toNat_and]
    exact Nat.le_trans Nat.and_le_right (by decide)
  have e:bitsI .and .u64 a 16777215=((BitVec.ofInt 64 a &&& BitVec.ofInt 64 16777215).toNat:Int):=by
    show IntKind.u64.wrap ((BitVec.ofInt 64 a &&& BitVec.ofInt 64 16777215).toNat:Int)=_
    apply wrapU_id;omega
  rw [e];omega
def nxH (h:Int):Int:=IntKind.u64.wrap (IntKind.u64.wrap (h*6364136223846793005)+1442695040888963407)
theorem dbelow (s:Dc) (n:Int) (h:s.ok) (hn:1≤n∧n≤1000000):∃ (s':Dc) (x:Int),SpecX Try.prog 20 [s.pt,.i64 n] [some s'.pt] (.i64 x)∧s'.ok∧0≤x∧x<n:=by
  have h1:=h.1
  have h2:=h.2
  have hn':nxH s.h=IntKind.u64.wrap (IntKind.u64.wrap (s.h*6364136223846793005)+1442695040888963407):=rfl
  have ha:=andU ((nxH s.h).fdiv (2 ^ (min 33 64)))
  obtain ⟨y,hy⟩:∃ y,y=bitsI .and .u64 ((nxH s.h).fdiv (2 ^ (min 33 64))) 16777215:=⟨_,rfl⟩
  rw [← hy] at ha
  have e1:IntKind.i64.wrap y=y:=wrap64_id (by omega)
  have hne:n≠0:=by omega
  have hb:IntKind.u64.bits=64:=rfl
  by_cases hk:s.i<s.b.length
  · have hu:(s.b.getD s.i default).toNat<256:=(s.b.getD s.i default).toNat_lt
    have e2:IntKind.i64.wrap ((s.b.getD s.i default).toNat:Int)=(s.b.getD s.i default).toNat:=wrap64_id (by omega)
    have e3:IntKind.i64.wrap (y+((s.b.getD s.i default).toNat:Int))=y+((s.b.getD s.i default).toNat:Int):=wrap64_id (by omega)
    refine ⟨⟨s.b,s.i+1,nxH s.h⟩,(y+((s.b.getD s.i default).toNat:Int)).tmod n,?_,⟨h1,hk⟩,Int.tmod_nonneg _ (by omega),Int.tmod_lt_of_pos _ (by omega)⟩
    refine spec_of_awp (M:=MM) (np:=2) (fz:=false) mixed Try.func20 rfl rfl (by decide) rfl (Nat.le_refl _) (by decide +kernel) (.inl rfl) (by simp only [sigsOk_some,sigsOk_nil,and_true];rfl) ?_
    simp -dsimp -implicitDefEqProofs (disch:=first | omega | (simp only [lenr];try omega)) only [↓amPre,amAll,↓reduceIte,reduceCtorEq,Nat.reduceEqDiff,Nat.reduceBEq,Nat.reduceAdd,Nat.reduceLeDiff,Nat.reduceSub,Nat.reduceMul,Int.reduceToNat,List.size_toArray,tyF,MM,bu0,cbP9,hb,← hn',← hy,hne,e1,e2,e3]
  · refine ⟨⟨s.b,s.i,nxH s.h⟩,y.tmod n,?_,⟨h1,h2⟩,Int.tmod_nonneg _ (by omega),Int.tmod_lt_of_pos _ (by omega)⟩
    refine spec_of_awp (M:=MM) (np:=2) (fz:=false) mixed Try.func20 rfl rfl (by decide) rfl (Nat.le_refl _) (by decide +kernel) (.inl rfl) (by simp only [sigsOk_some,sigsOk_nil,and_true];rfl) ?_
    simp -dsimp -implicitDefEqProofs (disch:=first | omega | (simp only [lenr];try omega)) only [↓amPre,amAll,↓reduceIte,reduceCtorEq,Nat.reduceEqDiff,Nat.reduceBEq,Nat.reduceAdd,Nat.reduceLeDiff,Nat.reduceSub,Nat.reduceMul,Int.reduceToNat,List.size_toArray,tyF,MM,bu0,cbP9,hb,← hn',← hy,hne,e1]
def rlK (l:List UInt8) (h:Int):Nat→Int
  | 0=>IntKind.u64.wrap (IntKind.u64.wrap (h*7919)+IntKind.u64.wrap l.length)
  | k+1=>IntKind.u64.wrap (IntKind.u64.wrap (IntKind.u64.wrap (rlK l h k*1099511628211)+IntKind.u64.wrap (l.getD k default).toNat)+3)
theorem droll (l:List UInt8) (h:Int) (hl:l.length≤4096):SpecAt Try.prog 18 [bsl l,u64 h] (Dc.pt ⟨l,0,rlK l h l.length⟩):=by
  have h0:rlK l h 0=IntKind.u64.wrap (IntKind.u64.wrap (h*7919)+IntKind.u64.wrap l.length):=rfl
  refine spec_of_awp (M:=MM) (np:=2) (fz:=false) mixed Try.func18 rfl rfl (by decide) rfl (Nat.le_refl _) (by decide +kernel) (.inl rfl) (by first | trivial | simp only [sigsOk_nil,sigsOk_some,sigsOk_none,sig_tr,sig_pt,sig_mt,sig_agg,List.map_cons,List.map_nil,sig1_tr,sig1_pt,sig1_v,and_self,true_and,List.length_map,List.length_set]) ?_
  simp -dsimp -implicitDefEqProofs (disch:=first | omega | (simp only [lenr];try omega)) only [↓amPre,amAll,↓reduceIte,reduceCtorEq,Nat.reduceEqDiff,Nat.reduceBEq,Nat.reduceAdd,Nat.reduceLeDiff,Nat.reduceSub,Nat.reduceMul,Int.reduceToNat,List.size_toArray,tyF,MM,bu0,cbP9,← h0]
  refine awp_loop (fun k st=>k≤l.length∧st.fr 6=.i64 k∧st.fr 5=.loc 15 [] 0 0∧st.fr 0=bsl l∧st.mem 15=some (Dc.pt ⟨l,0,rlK l h k⟩)) (l.length) ?_ ?_
  · simp -dsimp -implicitDefEqProofs (disch:=first | omega | (simp only [lenr];try omega)) only [↓amPre,amAll,↓reduceIte,reduceCtorEq,Nat.reduceEqDiff,Nat.reduceBEq,Nat.reduceAdd,Nat.reduceLeDiff,Nat.reduceSub,Nat.reduceMul,Int.reduceToNat,List.size_toArray,tyF,MM,bu0,cbP9,← h0]
    exact ⟨Nat.zero_le _,rfl,rfl⟩
  rintro k st _ ⟨hk,f6,f5,f0,m15⟩
  have hs1:rlK l h (k+1)=IntKind.u64.wrap (IntKind.u64.wrap (IntKind.u64.wrap (rlK l h k*1099511628211)+IntKind.u64.wrap (l.getD k default).toNat)+3):=rfl
  by_cases hlt:k<l.length
  · simp -dsimp -implicitDefEqProofs (disch:=first | omega | (simp only [lenr];try omega)) only [↓amPre,amAll,↓reduceIte,reduceCtorEq,Nat.reduceEqDiff,Nat.reduceBEq,Nat.reduceAdd,Nat.reduceLeDiff,Nat.reduceSub,Nat.reduceMul,Int.reduceToNat,List.size_toArray,tyF,MM,bu0,cbP9,f6,f5,f0,m15,← hs1]
    repeat' (first | omega | rfl | exact i64c (by omega) | exact vic (by omega) | apply And.intro)
  · have hke:k=l.length:=by omega
    subst hke
    simp -dsimp -implicitDefEqProofs (disch:=first | omega | (simp only [lenr];try omega)) only [↓amPre,amAll,↓reduceIte,reduceCtorEq,Nat.reduceEqDiff,Nat.reduceBEq,Nat.reduceAdd,Nat.reduceLeDiff,Nat.reduceSub,Nat.reduceMul,Int.reduceToNat,List.size_toArray,tyF,MM,bu0,cbP9,f6,f5,f0,m15]
theorem dbig (l:List UInt8):SpecAt Try.prog 13 [bsl l] (.bl (decide ((4096:Int)<l.length))):=by
  refine spec_of_awp (M:=MM) (np:=1) (fz:=true) mixed Try.func13 rfl rfl (by decide) rfl (Nat.le_refl _) (by decide +kernel) (.inr ⟨rfl,rfl⟩) trivial ?_
  simp -dsimp -implicitDefEqProofs (disch:=first | omega | (simp only [lenr];try omega)) only [↓amPre,amAll,↓reduceIte,reduceCtorEq,Nat.reduceEqDiff,Nat.reduceBEq,Nat.reduceAdd,Nat.reduceLeDiff,Nat.reduceSub,Nat.reduceMul,Int.reduceToNat,List.size_toArray,tyF,MM,bu0,cbP9]
noncomputable def dS (s:Dc) (n:Int):Dc:=open Classical in if h:s.ok∧1≤n∧n≤1000000 then (dbelow s n h.1 h.2).choose else s
noncomputable def dX (s:Dc) (n:Int):Int:=open Classical in if h:s.ok∧1≤n∧n≤1000000 then (dbelow s n h.1 h.2).choose_spec.choose else 0
theorem dF (s:Dc) (n:Int) (h:s.ok) (hn:1≤n∧n≤1000000):SpecX Try.prog 20 [s.pt,.i64 n] [some (dS s n).pt] (.i64 (dX s n))∧(dS s n).ok∧0≤dX s n∧dX s n<n:=by
  have:=(dbelow s n h hn).choose_spec.choose_spec
  unfold dS dX
  rw [dif_pos ⟨h,hn⟩,dif_pos ⟨h,hn⟩]
  exact this
end Dice
end Go.AM
set_option maxRecDepth 8000
namespace Go.AM
namespace Dice
open Go.Proofs
def swp (m:List Int) (i j:Nat):List Int:=(m.set i (m.getD j 0)).set j (m.getD i 0)
noncomputable def swK (s:Dc) (m:List Int) (n:Int):Nat→Dc×List Int
  | 0=>(s,m)
  | k+1=>(dS (dS (swK s m n k).1 n) n,swp (swK s m n k).2 (dX (swK s m n k).1 n).toNat (dX (dS (swK s m n k).1 n) n).toNat)
noncomputable def pzK (s:Dc) (n:Nat):Nat→Dc×List (List Int)
  | 0=>(s,[])
  | k+1=>((swK (dS (pzK s n k).1 3) (runI 0 n) n (1+dX (pzK s n k).1 3).toNat).1,(pzK s n k).2++[(swK (dS (pzK s n k).1 3) (runI 0 n) n (1+dX (pzK s n k).1 3).toNat).2])
abbrev AB:AV:=.st [65,66]
end Dice
end Go.AM
set_option maxRecDepth 8000
namespace Go.AM
namespace D6s
open Go.Proofs
open Dice (Dc dF dS dX dbelow)
def MM:FuncId→List Bool:=fun f=>if f=20 then [true,false] else if f=118 then [true,false] else if f=42 then [true] else []
theorem ints_bears:∀ L:List Int,AV.bearsL (L.map AV.i64)=false
  | []=>rfl
  | _ :: r=>by rw [List.map_cons,AV.bearsL,ints_bears r];rfl
theorem grabL_ints (s:Nat) (p:Path):∀ (L:List Int) (i:Nat) (st:St) (K:List AV→St→Prop),grabL s p i (L.map AV.i64) st K=K (L.map AV.i64) st
  | [],_,_,_=>rfl
  | a :: r,i,st,K=>by
    have hb:AV.bears (AV.v (.int .i64 a))=false:=rfl
    rw [List.map_cons,grabL_cons,grabE_v,grabC_v,hb]
    refine (propext ⟨fun h=>?_,fun h=>?_⟩:_=_)
    · have h2:=h.2
      rw [grabL_ints s p r (i+1) st] at h2
      exact h2
    · refine ⟨rfl,?_⟩
      rw [grabL_ints s p r (i+1) st]
      exact h
noncomputable def odK (s:Dc):Nat→Dc×List Int
  | 0=>(s,[])
  | k+1=>(dS (odK s k).1 (k+1),(odK s k).2.take (dX (odK s k).1 (k+1)).toNat++[(k:Int)]++(odK s k).2.drop (dX (odK s k).1 (k+1)).toNat)
theorem odK_ok (s:Dc) (h:s.ok):∀ k,k≤100→(odK s k).1.ok∧(odK s k).2.length=k∧(∀ x∈(odK s k).2,0≤x∧x<k)∧(odK s k).2.Nodup
  | 0,_=>⟨h,rfl,⟨fun x hx=>absurd (show x∈([]:List Int) from hx) (List.not_mem_nil),List.nodup_nil⟩⟩
  | k+1,hk=>by
    obtain ⟨i1,i2,i3,i4⟩:=odK_ok s h k (by omega)
    obtain ⟨_,f1,f2,f3⟩:=dF (odK s k).1 ((k:Int)+1) i1 (by omega)
    have hp:List.Perm ((odK s k).2.take (dX (odK s k).1 (k+1)).toNat++[(k:Int)]++(odK s k).2.drop (dX (odK s k).1 (k+1)).toNat) ((k:Int) :: (odK s k).2):=by
      have e:∀ (a b:List Int) (y:Int),List.Perm (a++[y]++b) (y :: (a++b)):=fun a b y=>by
        rw [List.append_assoc]
        exact List.perm_middle
      refine (e _ _ _).trans ?_
      rw [List.take_append_drop]
    refine ⟨f1,?_,fun x hx=>?_,?_⟩
    · show (_:List Int).length=k+1
      rw [odK]
      have:=hp.length_eq
      dsimp only
      rw [this,List.length_cons,i2]
    · have:=hp.mem_iff.1 hx
      rcases List.mem_cons.1 this with q | q
      · rw [q];omega
      · have:=i3 x q;omega
    · refine hp.nodup_iff.2 (List.nodup_cons.2 ⟨fun q=>?_,i4⟩)
      have:=i3 _ q;omega
theorem w6Perm (s:Dc) (n:Nat) (h:s.ok) (hn:n≤20):SpecX Try.prog 118 [s.pt,.i64 n] [some (odK s n).1.pt] (itr (odK s n).2):=by
  refine spec_of_awp (M:=MM) (np:=2) (fz:=false) mixed Try.func118 rfl rfl (by decide) rfl (Nat.le_refl _) (by decide +kernel) (.inl rfl) (by simp only [sigsOk_some,sigsOk_nil,and_true];rfl) ?_
  simp -dsimp -implicitDefEqProofs (disch:=first | omega | (simp only [lenr];try omega)) only [↓amPre,amAll,↓reduceIte,reduceCtorEq,Nat.reduceEqDiff,Nat.reduceBEq,Nat.reduceAdd,Nat.reduceLeDiff,Nat.reduceSub,Nat.reduceMul,Int.reduceToNat,List.size_toArray,tyF,MM,bu0,cbP9]
  refine awp_loopR 9 32 (.tr 1 []) (by simp -dsimp -implicitDefEqProofs (disch:=first | omega | (simp only [lenr];try omega)) only [↓amPre,amAll,↓reduceIte,reduceCtorEq,Nat.reduceEqDiff,Nat.reduceBEq,Nat.reduceAdd,Nat.reduceLeDiff,Nat.reduceSub,Nat.reduceMul,Int.reduceToNat,List.size_toArray,tyF,MM,bu0,cbP9]) (by decide) (by decide) (by decide) (fun k st=>k≤n∧st.fr 6=.i64 k∧st.fr 1=.i64 n∧st.fr 5=.ref 32 [] 1 0 k∧st.fr 0=.loc 0 [] 0 0∧st.mem 32=some (itr (odK s k).2)∧st.mem 0=some ((odK s k).1.pt)) (n) ?_ ?_
  · simp -dsimp -implicitDefEqProofs (disch:=first | omega | (simp only [lenr];try omega)) only [↓amPre,amAll,↓reduceIte,reduceCtorEq,Nat.reduceEqDiff,Nat.reduceBEq,Nat.reduceAdd,Nat.reduceLeDiff,Nat.reduceSub,Nat.reduceMul,Int.reduceToNat,List.size_toArray,tyF,MM,bu0,cbP9,ren_eq]
    simp [odK]
  rintro k st _ ⟨hk,f6,f1,f5,f0,m32,m0⟩
  have ho:=odK_ok s h k (by omega)
  by_cases hlt:k<n
  · obtain ⟨q1,q2,q3,q4⟩:=dF (odK s k).1 ((k:Int)+1) ho.1 (by omega)
    have hs:odK s (k+1)=(dS (odK s k).1 (k+1),(odK s k).2.take (dX (odK s k).1 (k+1)).toNat++[(k:Int)]++(odK s k).2.drop (dX (odK s k).1 (k+1)).toNat):=rfl
    obtain ⟨m,hm⟩:∃ m:Nat,dX (odK s k).1 (k+1)=m:=⟨_,(Int.toNat_of_nonneg q3).symm⟩
    rw [hm] at q1 hs q4
    rw [Int.toNat_natCast] at hs
    generalize dS (odK s k).1 (k+1)=s2 at q1 q2 hs
    obtain ⟨ho1,ho2,ho3,ho4⟩:=ho
    generalize (odK s k).1=s1 at q1 ho1 m0
    generalize (odK s k).2=L at hs ho2 m32
    have hw1:IntKind.i64.wrap ((k:Int)+1)=(k:Int)+1:=wrap64_id (by omega)
    simp -dsimp -implicitDefEqProofs (disch:=first | omega | (simp only [lenr];try omega)) only [↓amPre,amAll,↓reduceIte,reduceCtorEq,Nat.reduceEqDiff,Nat.reduceBEq,Nat.reduceAdd,Nat.reduceLeDiff,Nat.reduceSub,Nat.reduceMul,Int.reduceToNat,List.size_toArray,tyF,MM,bu0,cbP9,f6,f1,f5,f0,m32,m0,ho2,hw1]
    refine callX_of (q1) ?_
    have hmk:m - 0≤k:=by omega
    have hbl:AV.bearsL (L.map AV.i64)=false:=ints_bears L
    have hT:List.take (m - 0) (List.drop 0 (L.map AV.i64))=(L.take m).map AV.i64:=by simp
    have hlm:(L.take m).length≤20:=by rw [List.length_take];omega
    simp -dsimp -implicitDefEqProofs (disch:=first | omega | (simp only [lenr];try omega)) only [↓amPre,amAll,↓reduceIte,reduceCtorEq,Nat.reduceEqDiff,Nat.reduceBEq,Nat.reduceAdd,Nat.reduceLeDiff,Nat.reduceSub,Nat.reduceMul,Int.reduceToNat,List.size_toArray,tyF,MM,bu0,cbP9,f6,f1,f5,f0,m32,m0,ho2,hmk,hbl,hT,grabL_ints]
    refine ⟨hlt,by omega,?_,?_,?_⟩
    · have:(List.take (m - 0) L).length+1+(List.drop m L).length=k+1:=by
        rw [List.length_take,List.length_drop];omega
      rw [this]
    · rw [hs,Nat.sub_zero]
      simp only [itr,List.map_append]
    · rw [hs]
  · have hke:k=n:=by omega
    subst hke
    simp -dsimp -implicitDefEqProofs (disch:=first | omega | (simp only [lenr];try omega)) only [↓amPre,amAll,↓reduceIte,reduceCtorEq,Nat.reduceEqDiff,Nat.reduceBEq,Nat.reduceAdd,Nat.reduceLeDiff,Nat.reduceSub,Nat.reduceMul,Int.reduceToNat,List.size_toArray,tyF,MM,bu0,cbP9,f6,f1,f5,f0,m32,m0,ho.2.1]
end D6s
end Go.AM
set_option maxRecDepth 8000
namespace Go.AM
namespace D6s
open Go.Proofs
open Dice (Dc dF dS dX dbelow)
noncomputable def pz6 (s:Dc) (n:Nat):Nat→Dc×List (List Int)
  | 0=>(s,[])
  | k+1=>((odK (pz6 s n k).1 n).1,(pz6 s n k).2++[(odK (pz6 s n k).1 n).2])
theorem pz6_ok (s:Dc) (n:Nat) (h:s.ok) (h1:1≤n) (h2:n≤20):∀ k,(pz6 s n k).1.ok∧(pz6 s n k).2.length=k∧∀ m∈(pz6 s n k).2,moveOk n m
  | 0=>⟨h,rfl,fun x hx=>absurd (show x∈([]:List (List Int)) from hx) (List.not_mem_nil)⟩
  | k+1=>by
    obtain ⟨g1,g2,g3⟩:=pz6_ok s n h h1 h2 k
    obtain ⟨o1,o2,o3,o4⟩:=odK_ok (pz6 s n k).1 g1 n (by omega)
    refine ⟨o1,by simp [pz6,g2],fun m hm=>?_⟩
    simp only [pz6,List.mem_append,List.mem_singleton] at hm
    rcases hm with hm | rfl
    · exact g3 m hm
    · exact ⟨by omega,⟨by omega,by omega⟩,fun x hx=>by have:=o3 x hx;omega,o4⟩
abbrev ABC (k:Nat):List UInt8:=([65,66,67]:List UInt8).take k
theorem w6PuzzleX (s:Dc) (h:s.ok):∃ (s':Dc) (p:Puzz),SpecX Try.prog 42 [s.pt] [some s'.pt] p.tr∧s'.ok∧puzzOk p∧smallP p∧1≤p.mv.length∧p.mv.length≤3∧p.n≤5:=by
  obtain ⟨s1,x1,q1,k1,b1⟩:=dbelow s 3 h (by omega)
  obtain ⟨n,hn⟩:∃ n:Nat,3+x1=n:=⟨_,(Int.toNat_of_nonneg (by omega)).symm⟩
  have hn3:3≤n:=by omega
  have hn5:n≤5:=by omega
  have e0:IntKind.i64.wrap (n:Int)=n:=wrap64_id (by omega)
  obtain ⟨s2,x2,q2,k2,b2⟩:=dbelow s1 3 k1 (by omega)
  obtain ⟨cc,hc⟩:∃ cc:Nat,1+x2=cc:=⟨_,(Int.toNat_of_nonneg (by omega)).symm⟩
  have hc1:1≤cc:=by omega
  have hc3:cc≤3:=by omega
  have e2:IntKind.i64.wrap (cc:Int)=cc:=wrap64_id (by omega)
  obtain ⟨z1,z2,z3⟩:=pz6_ok s2 n k2 (by omega) (by omega) cc
  have hlen:∀ m∈(pz6 s2 n cc).2,m.length≤20:=fun m hm=>(z3 m hm).2.1.2
  have hgen:genOk n (pz6 s2 n cc).2:=⟨by omega,by omega,z3⟩
  have hNl:(ABC cc).length=cc:=by simp;omega
  have hNo:namesOk (ABC cc):=by
    have:∀ cc,cc≤3→1≤cc→namesOk (ABC cc):=by decide
    exact this cc hc3 hc1
  refine ⟨(pz6 s2 n cc).1,⟨n,ABC cc,(pz6 s2 n cc).2⟩,?_,z1,⟨hgen,hNo,by simp only;rw [z2,hNl]⟩,⟨by unfold intOk;simp only;omega,by simp only;rw [hNl];omega,by simp only;omega,fun m hm=>by have:=hlen m hm;omega⟩,by simp only;omega,by simp only;omega,by simp only;omega⟩
  have hpt:(⟨n,ABC cc,(pz6 s2 n cc).2⟩:Puzz).tr=.agg [.i64 n,.st (ABC cc),sst (pz6 s2 n cc).2]:=rfl
  rw [hpt]
  refine spec_of_awp_any (M:=MM) (np:=1) (X:=[6]) (fz:=false) mixed Try.func42 rfl rfl (by decide) rfl (Nat.le_refl _) (by decide +kernel) (.inl rfl) (by simp only [sigsOk_some,sigsOk_nil,and_true];rfl) ?_
  simp -dsimp -implicitDefEqProofs (disch:=first | omega | (simp only [lenr];try omega)) only [↓amPre,amAll,↓reduceIte,reduceCtorEq,Nat.reduceEqDiff,Nat.reduceBEq,Nat.reduceAdd,Nat.reduceLeDiff,Nat.reduceSub,Nat.reduceMul,Int.reduceToNat,List.size_toArray,tyF,MM,bu0,cbP9]
  refine callX_of (q1) ?_
  simp -dsimp -implicitDefEqProofs (disch:=first | omega | (simp only [lenr];try omega)) only [↓amPre,amAll,↓reduceIte,reduceCtorEq,Nat.reduceEqDiff,Nat.reduceBEq,Nat.reduceAdd,Nat.reduceLeDiff,Nat.reduceSub,Nat.reduceMul,Int.reduceToNat,List.size_toArray,tyF,MM,bu0,cbP9,hn,e0]
  refine callX_of (q2) ?_
  simp -dsimp -implicitDefEqProofs (disch:=first | omega | (simp only [lenr];try omega)) only [↓amPre,amAll,↓reduceIte,reduceCtorEq,Nat.reduceEqDiff,Nat.reduceBEq,Nat.reduceAdd,Nat.reduceLeDiff,Nat.reduceSub,Nat.reduceMul,Int.reduceToNat,List.size_toArray,tyF,MM,bu0,cbP9,hc,e2]
  refine awp_loopC 4 2 3 1 [.i64 n,.st (ABC cc),.nilsl] (by simp -dsimp -implicitDefEqProofs (disch:=first | omega | (simp only [lenr];try omega)) only [↓amPre,amAll,↓reduceIte,reduceCtorEq,Nat.reduceEqDiff,Nat.reduceBEq,Nat.reduceAdd,Nat.reduceLeDiff,Nat.reduceSub,Nat.reduceMul,Int.reduceToNat,List.size_toArray,tyF,MM,bu0,cbP9]) (by simp) (by simp) (fun k st=>k≤cc∧st.fr 4=.loc 4 [] 0 0∧st.fr 2=.loc 2 [] 0 0∧st.fr 0=.loc 0 [] 0 0∧st.fr 3=.i64 n∧st.fr 5=.i64 k∧st.mem 4=some (.pt 3 (.agg [.i64 n,.st (ABC cc),sst (pz6 s2 n k).2]))∧st.mem 0=some ((pz6 s2 n k).1.pt)∧st.mem 2=some (.pt 3 (.agg [.i64 0,.st [],.nilsl]))) (cc) ?_ ?_
  · simp -dsimp -implicitDefEqProofs (disch:=first | omega | (simp only [lenr];try omega)) only [↓amPre,amAll,↓reduceIte,reduceCtorEq,Nat.reduceEqDiff,Nat.reduceBEq,Nat.reduceAdd,Nat.reduceLeDiff,Nat.reduceSub,Nat.reduceMul,Int.reduceToNat,List.size_toArray,tyF,MM,bu0,cbP9,nilC_eq]
    simp [pz6]
  rintro k st _ ⟨hk,f4,f2,f0,f3,f5,m4,m0,m2⟩
  obtain ⟨g1,g2,g3⟩:=pz6_ok s2 n k2 (by omega) (by omega) k
  by_cases hlt:k<cc
  · have hlt':(k:Int)<(cc:Int):=by omega
    have hst:pz6 s2 n (k+1)=((odK (pz6 s2 n k).1 n).1,(pz6 s2 n k).2++[(odK (pz6 s2 n k).1 n).2]):=rfl
    have qp:=w6Perm (pz6 s2 n k).1 n g1 (by omega)
    have hol:=(odK_ok (pz6 s2 n k).1 g1 n (by omega)).2.1
    rw [hst]
    generalize (odK (pz6 s2 n k).1 n).1=S1 at *
    generalize (odK (pz6 s2 n k).1 n).2=q at *
    generalize (pz6 s2 n k).1=S at *
    generalize (pz6 s2 n k).2=L at *
    dsimp only
    simp -dsimp -implicitDefEqProofs (disch:=first | omega | (simp only [lenr];try omega)) only [↓amPre,amAll,↓reduceIte,reduceCtorEq,Nat.reduceEqDiff,Nat.reduceBEq,Nat.reduceAdd,Nat.reduceLeDiff,Nat.reduceSub,Nat.reduceMul,Int.reduceToNat,List.size_toArray,tyF,MM,bu0,cbP9,f4,f2,f0,f3,f5,m4,m0,m2,hNl,lt_true hlt']
    refine lat_go [[],[0],[],[],[2,3],[2,3,4],[0,1,2,3,4,5],[0,1,2,3,4,5,6],[0,1,2,3,4,5,6,7]] [[1,6,7,8],[6,7,8],[4,5,6,7,8],[4,5,6,7,8],[5,6,7,8],[6,7,8],[7,8],[8],[]] [0,1,2,3,4,5,6,7,8] (fun c st=>st.fr 4=.loc 4 [] 0 0∧st.fr 2=.loc 2 [] 0 0∧st.fr 0=.loc 0 [] 0 0∧st.fr 3=.i64 n∧st.fr 5=.i64 k∧(c 0=true→st.fr 22=.loc 4 [] 0 2)∧(c 1=true→c 6=false→st.fr 23=.ref 4 [(0,2)] 1 0 k)∧(c 2=true→st.fr 24=.loc 0 [] 0 0)∧(c 3=true→st.fr 25=.i64 n)∧(c 4=true→c 6=false→st.fr 26=.ref 26 [] 1 0 n)∧(c 5=true→c 6=false→st.fr 27=.lst 1 [.ref 26 [] 1 0 n])∧(c 6=true→c 8=false→st.fr 28=.ref 28 [] 1 0 (k+1))∧(c 7=true→st.fr 29=.loc 4 [] 0 2)∧st.mem 2=some (.pt 3 (.agg [.i64 0,.st [],.nilsl]))∧st.mem 0=some (bif c 4 then (S1.pt) else (S.pt))∧st.mem 4=some (bif c 8 then (.pt 3 (.agg [.i64 n,.st (ABC cc),sst (L++[q])])) else (bif c 6 then (.pt 3 (.agg [.i64 n,.st (ABC cc),.any])) else (.pt 3 (.agg [.i64 n,.st (ABC cc),sst L]))))∧(c 4=true→c 6=false→st.mem 26=some (itr q))∧(c 6=true→c 8=false→st.mem 28=some (sst (L++[q])))) (by decide +kernel) ?_ ?_ ?_
    · (try simp -dsimp -implicitDefEqProofs (disch:=first | omega | (simp only [lenr];try omega)) only [↓amPre,amAll,↓reduceIte,reduceCtorEq,Nat.reduceEqDiff,Nat.reduceBEq,Nat.reduceAdd,Nat.reduceLeDiff,Nat.reduceSub,Nat.reduceMul,Int.reduceToNat,List.size_toArray,tyF,MM,bu0,cbP9,latj,g2,hol,f4,f2,f0,f3,f5,m4,m0,m2])
      all_goals (try (repeat' (first | apply And.intro | rfl | (intro _;rfl) | (intro _ _;rfl))))
    · refine ⟨?_,?_,?_,?_,?_,?_,?_,?_,?_,trivial⟩
      all_goals rintro c st R hC hJ hR
      all_goals simp only [latm] at hC
      all_goals simp only [hC,latj] at hJ
      all_goals simp -dsimp -implicitDefEqProofs (disch:=first | omega | (simp only [lenr];try omega)) only [↓amPre,amAll,↓reduceIte,reduceCtorEq,Nat.reduceEqDiff,Nat.reduceBEq,Nat.reduceAdd,Nat.reduceLeDiff,Nat.reduceSub,Nat.reduceMul,Int.reduceToNat,List.size_toArray,tyF,MM,bu0,cbP9,hJ,g2,hol]
      all_goals (try (refine callX_of qp ?_;simp -dsimp -implicitDefEqProofs (disch:=first | omega | (simp only [lenr];try omega)) only [↓amPre,amAll,↓reduceIte,reduceCtorEq,Nat.reduceEqDiff,Nat.reduceBEq,Nat.reduceAdd,Nat.reduceLeDiff,Nat.reduceSub,Nat.reduceMul,Int.reduceToNat,List.size_toArray,tyF,MM,bu0,cbP9,hJ,g2,hol]))
      all_goals refine hR _ ?_
      all_goals (simp +contextual -dsimp -implicitDefEqProofs only [amAll,↓reduceIte,reduceCtorEq,Nat.reduceEqDiff,Nat.reduceBEq,Nat.reduceAdd,latj,hC,hJ,g2,hol];try (repeat' (first | apply And.intro | rfl | (intro _;rfl) | (intro _ _;rfl))))
    intro c st hall hJ
    simp only [latm] at hall
    simp only [hall,latj] at hJ
    obtain ⟨f4,f2,f0,f3,f5,f22,f24,f25,f29,m2,m0,m4⟩:=hJ
    clear hall
    simp -dsimp -implicitDefEqProofs (disch:=first | omega | (simp only [lenr];try omega)) only [↓amPre,amAll,↓reduceIte,reduceCtorEq,Nat.reduceEqDiff,Nat.reduceBEq,Nat.reduceAdd,Nat.reduceLeDiff,Nat.reduceSub,Nat.reduceMul,Int.reduceToNat,List.size_toArray,tyF,MM,bu0,cbP9,f4,f2,f0,f3,f5,m2,m0,m4]
    exact ⟨hlt,by omega⟩
  · have hke:k=cc:=by omega
    subst hke
    have c1':¬ (k:Int)<(k:Int):=by omega
    simp -dsimp -implicitDefEqProofs (disch:=first | omega | (simp only [lenr];try omega)) only [↓amPre,amAll,↓reduceIte,reduceCtorEq,Nat.reduceEqDiff,Nat.reduceBEq,Nat.reduceAdd,Nat.reduceLeDiff,Nat.reduceSub,Nat.reduceMul,Int.reduceToNat,List.size_toArray,tyF,MM,bu0,cbP9,f4,f2,f0,f3,f5,m4,m0,m2,hNl,lt_false (Int.not_lt.1 c1')]
end D6s
end Go.AM
namespace Go.AM
namespace Bf
open Ch (PN pt idL Gen)
theorem eff_gen {n:Nat} {mv:List (List Int)} (h1:1≤n) (h2:n≤20) (hm:∀ s∈mv,PN n s) {w:List Int} (hw:∀ x∈w,x∈letL mv.length):∀ k,k≤w.length→PN n (effK n mv w k)∧Gen n mv (effK n mv w k)
  | 0,_=>⟨PN.one h1 h2,.one⟩
  | k+1,hk=>by
    rw [effK]
    exact nbr_ok h1 h2 hm (eff_gen h1 h2 hm hw k (by omega)) (hw _ (mem_getD w k 0 (by omega)))
theorem letOk_mem {m:Nat} {x:Int} (h:letOk m x):x∈letL m:=by
  rw [letL_mem]
  unfold letOk at h
  omega
def hsK (e:Ex) (st:Nat→List Int):Nat→List Int
  | 0=>List.replicate (e.D.getD (e.D.length - 1) 0+1) 0
  | k+1=>(hsK e st k).set (dOf e (st k)) ((hsK e st k).getD (dOf e (st k)) 0+1)
end Bf
end Go.AM
set_option maxRecDepth 8000
namespace Go.AM
namespace Sz2
open Go.Proofs
open Dice (Dc dF dS dX bsl dbig droll rlK dbelow)
open D6s (w6PuzzleX)
open Sq (sInvWord scr_proper)
open Sy (reachS)
def MM:FuncId→List Bool:=fun f=>if f=20 then [true,false] else if f=118 then [true,false] else if f=42 then [true] else []
theorem lawScrProper (l:List UInt8) (w:l.length≤9223372036854775807):SpecAt Try.prog 6 [bsl l] (.bl true):=by
  have qb:=dbig l
  by_cases c0:(4096:Int)<l.length
  · refine spec_of_awp_any (M:=MM) (np:=1) (X:=[11]) (fz:=true) mixed Try.func6 rfl rfl (by decide) rfl (Nat.le_refl _) (by decide +kernel) (.inr ⟨rfl,rfl⟩) trivial ?_
    simp -dsimp -implicitDefEqProofs (disch:=first | omega | (simp only [lenr];try omega)) only [↓amPre,amAll,↓reduceIte,reduceCtorEq,Nat.reduceEqDiff,Nat.reduceBEq,Nat.reduceAdd,Nat.reduceLeDiff,Nat.reduceSub,Nat.reduceMul,Int.reduceToNat,List.size_toArray,tyF,MM,bu0,cbU49]
    refine callP_of (qb) ?_
    simp -dsimp -implicitDefEqProofs (disch:=first | omega | (simp only [lenr];try omega)) only [↓amPre,amAll,↓reduceIte,reduceCtorEq,Nat.reduceEqDiff,Nat.reduceBEq,Nat.reduceAdd,Nat.reduceLeDiff,Nat.reduceSub,Nat.reduceMul,Int.reduceToNat,List.size_toArray,tyF,MM,bu0,cbU49,decide_eq_true c0]
  rw [decide_eq_false c0] at qb
  have q0:=droll l 908 (by omega)
  have k0:(⟨l,0,rlK l 908 l.length⟩:Dc).ok:=⟨by show l.length≤4096;omega,Nat.zero_le _⟩
  generalize (⟨l,0,rlK l 908 l.length⟩:Dc)=d0 at q0 k0
  obtain ⟨d1,p,q1,k1,hd,hsp,hp1,hp2,hp5⟩:=w6PuzzleX d0 k0
  obtain ⟨d2,x,q2,k2,hx0,hx3⟩:=dbelow d1 100000 k1 (by omega)
  obtain ⟨d3,c,q3,k3,hc0,hc3⟩:=dbelow d2 12 k2 (by omega)
  have hcan:canScr p x c:=⟨hd,within_iff.2 (by omega),within_iff.2 (by omega)⟩
  have hwd:=scrR_word hcan
  have hwl:((scrR p x c).length:Int)=c:=by rw [scrR,if_pos hcan,scrW_len];omega
  have q4:=iScrambleWord p x c hsp
  have q5:=iScrambledState p x c hsp
  rw [decide_eq_true hcan] at q5
  have q6:=iScr p (scrR p x c) hsp (by have:=hwd.1.1;omega)
  have q7:=sScr p (scrR p x c) hsp (by have:=hwd.1.1;omega) hwd.2
  have hpr:=scr_proper hcan
  rw [decide_eq_true hpr] at q6 q7
  have hn:=hd.1.1
  have hmp:∀ s∈p.mv,Ch.PN p.n.toNat s:=fun s hs=>by
    have:=hd.1.2.2 s hs
    exact ⟨by have:=this.1;omega,this.2⟩
  have hgp:Ch.PN p.n.toNat (scrS p x c)∧Ch.Gen p.n.toNat p.mv (scrS p x c):=by
    have hnn:((p.n.toNat:Nat):Int)=p.n:=by omega
    have hz:scrS p x c=effK p.n p.mv (scrR p x c) (scrR p x c).length:=if_pos hcan
    have:=Bf.eff_gen (n:=p.n.toNat) (mv:=p.mv) (by omega) (by omega) hmp (w:=scrR p x c) (fun y hy=>Bf.letOk_mem (hwd.1.2 y hy)) _ (Nat.le_refl _)
    rw [hnn,← hz] at this
    exact this
  obtain ⟨hpn,hgen⟩:=hgp
  have q8:=reachS p (scrS p x c) hd hsp hpn hgen
  have hm8:=hd.1.2.1
  have hw8:wordOk 8 (scrR p x c):=⟨hwd.1.1,fun y hy=>by have:=hwd.1.2 y hy;unfold letOk at *;omega⟩
  have q9:=sInvWord (scrR p x c) hw8
  have hiw:wordOk p.mv.length (invW (scrR p x c)):=⟨by rw [invW_len];exact hwd.1.1,fun y hy=>by have:=hwd.1.2 _ (invW_mem hy);unfold letOk at *;omega⟩
  have hsm:moveOk p.n (scrS p x c):=⟨by have:=hpn.1;omega,hpn.2⟩
  have q10:=sApplyWord p (scrS p x c) (invW (scrR p x c)) hsp hd hsm hiw (fun y hy=>by have:=hiw.2 y hy;unfold letOk at this;unfold intOk;omega)
  have hz:scrS p x c=effK p.n p.mv (scrR p x c) (scrR p x c).length:=if_pos hcan
  have hcomp:compI (scrS p x c) (effK p.n p.mv (invW (scrR p x c)) (invW (scrR p x c)).length)=runI 0 p.n.toNat:=by
    have hnn:((p.n.toNat:Nat):Int)=p.n:=by omega
    have:=Bf.eff_inv (n:=p.n.toNat) (mv:=p.mv) (by omega) (by omega) hmp (w:=scrR p x c) hwd.1.2
    rw [hnn] at this
    rw [hz];exact this
  rw [hcomp] at q10
  have q11:=sIsSolved p (runI 0 p.n.toNat) hsp hd ⟨by rw [runI_len];omega,run_perm (by omega) (by omega)⟩
  rw [decide_eq_true rfl] at q11
  have hsl:=hpn.1
  have hil:=invW_len (scrR p x c)
  obtain ⟨n,hnn⟩:∃ n:Nat,p.n=n:=⟨p.n.toNat,by omega⟩
  rw [hnn,Int.toNat_natCast] at q10 q11 hsl
  have hps:p.sl=.agg [.i64 n,.st p.nm,ssl p.mv]:=by rw [← hnn];rfl
  have hpt:p.tr=.agg [.i64 n,.st p.nm,sst p.mv]:=by rw [← hnn];rfl
  rw [hps] at q4 q5 q6 q7 q8 q10 q11
  rw [hpt] at q1
  generalize scrS p x c=s at *
  generalize scrR p x c=wd at *
  have ee:∀ X:List Int,AV.fzL (X.map AV.i64)=X.map AV.i64:=fun X=>by rw [fzL_map,ints_fz]
  refine spec_of_awp_any (M:=MM) (np:=1) (X:=[11]) (fz:=true) mixed Try.func6 rfl rfl (by decide) rfl (Nat.le_refl _) (by decide +kernel) (.inr ⟨rfl,rfl⟩) trivial ?_
  simp -dsimp -implicitDefEqProofs (disch:=first | omega | (simp only [lenr];try omega)) only [↓amPre,amAll,↓reduceIte,reduceCtorEq,Nat.reduceEqDiff,Nat.reduceBEq,Nat.reduceAdd,Nat.reduceLeDiff,Nat.reduceSub,Nat.reduceMul,Int.reduceToNat,List.size_toArray,tyF,MM,bu0,cbU49]
  refine callP_of (qb) ?_
  simp -dsimp -implicitDefEqProofs (disch:=first | omega | (simp only [lenr];try omega)) only [↓amPre,amAll,↓reduceIte,reduceCtorEq,Nat.reduceEqDiff,Nat.reduceBEq,Nat.reduceAdd,Nat.reduceLeDiff,Nat.reduceSub,Nat.reduceMul,Int.reduceToNat,List.size_toArray,tyF,MM,bu0,cbU49]
  refine callP_of (q0) ?_
  simp -dsimp -implicitDefEqProofs (disch:=first | omega | (simp only [lenr];try omega)) only [↓amPre,amAll,↓reduceIte,reduceCtorEq,Nat.reduceEqDiff,Nat.reduceBEq,Nat.reduceAdd,Nat.reduceLeDiff,Nat.reduceSub,Nat.reduceMul,Int.reduceToNat,List.size_toArray,tyF,MM,bu0,cbU49]
  refine callX_of (q1) ?_
  simp -dsimp -implicitDefEqProofs (disch:=first | omega | (simp only [lenr];try omega)) only [↓amPre,amAll,↓reduceIte,reduceCtorEq,Nat.reduceEqDiff,Nat.reduceBEq,Nat.reduceAdd,Nat.reduceLeDiff,Nat.reduceSub,Nat.reduceMul,Int.reduceToNat,List.size_toArray,tyF,MM,bu0,cbU49,ssfz]
  refine callX_of (q2) ?_
  simp -dsimp -implicitDefEqProofs (disch:=first | omega | (simp only [lenr];try omega)) only [↓amPre,amAll,↓reduceIte,reduceCtorEq,Nat.reduceEqDiff,Nat.reduceBEq,Nat.reduceAdd,Nat.reduceLeDiff,Nat.reduceSub,Nat.reduceMul,Int.reduceToNat,List.size_toArray,tyF,MM,bu0,cbU49,ssfz]
  refine callX_of (q3) ?_
  simp -dsimp -implicitDefEqProofs (disch:=first | omega | (simp only [lenr];try omega)) only [↓amPre,amAll,↓reduceIte,reduceCtorEq,Nat.reduceEqDiff,Nat.reduceBEq,Nat.reduceAdd,Nat.reduceLeDiff,Nat.reduceSub,Nat.reduceMul,Int.reduceToNat,List.size_toArray,tyF,MM,bu0,cbU49,ssfz]
  refine callP_frz q4 ?_
  simp -dsimp -implicitDefEqProofs (disch:=first | omega | (simp only [lenr];try omega)) only [↓amPre,amAll,↓reduceIte,reduceCtorEq,Nat.reduceEqDiff,Nat.reduceBEq,Nat.reduceAdd,Nat.reduceLeDiff,Nat.reduceSub,Nat.reduceMul,Int.reduceToNat,List.size_toArray,tyF,MM,bu0,cbU49,ssfz,ee]
  refine callP_frz q5 ?_
  simp -dsimp -implicitDefEqProofs (disch:=first | omega | (simp only [lenr];try omega)) only [↓amPre,amAll,↓reduceIte,reduceCtorEq,Nat.reduceEqDiff,Nat.reduceBEq,Nat.reduceAdd,Nat.reduceLeDiff,Nat.reduceSub,Nat.reduceMul,Int.reduceToNat,List.size_toArray,tyF,MM,bu0,cbU49,ssfz,ee,hwl]
  refine callP_of (q6) ?_
  simp -dsimp -implicitDefEqProofs (disch:=first | omega | (simp only [lenr];try omega)) only [↓amPre,amAll,↓reduceIte,reduceCtorEq,Nat.reduceEqDiff,Nat.reduceBEq,Nat.reduceAdd,Nat.reduceLeDiff,Nat.reduceSub,Nat.reduceMul,Int.reduceToNat,List.size_toArray,tyF,MM,bu0,cbU49,ssfz,ee]
  refine callP_of (q7) ?_
  simp -dsimp -implicitDefEqProofs (disch:=first | omega | (simp only [lenr];try omega)) only [↓amPre,amAll,↓reduceIte,reduceCtorEq,Nat.reduceEqDiff,Nat.reduceBEq,Nat.reduceAdd,Nat.reduceLeDiff,Nat.reduceSub,Nat.reduceMul,Int.reduceToNat,List.size_toArray,tyF,MM,bu0,cbU49,ssfz,ee]
  refine callP_of (q8) ?_
  simp -dsimp -implicitDefEqProofs (disch:=first | omega | (simp only [lenr];try omega)) only [↓amPre,amAll,↓reduceIte,reduceCtorEq,Nat.reduceEqDiff,Nat.reduceBEq,Nat.reduceAdd,Nat.reduceLeDiff,Nat.reduceSub,Nat.reduceMul,Int.reduceToNat,List.size_toArray,tyF,MM,bu0,cbU49,ssfz,ee]
  refine split_go 9 (by decide +kernel) ?_
  simp -dsimp -implicitDefEqProofs (disch:=first | omega | (simp only [lenr];try omega)) only [↓amPre,amAll,↓reduceIte,reduceCtorEq,Nat.reduceEqDiff,Nat.reduceBEq,Nat.reduceAdd,Nat.reduceLeDiff,Nat.reduceSub,Nat.reduceMul,Int.reduceToNat,List.size_toArray,tyF,MM,bu0,cbU49,ssfz,ee]
  refine callP_frz q9 ?_
  simp -dsimp -implicitDefEqProofs (disch:=first | omega | (simp only [lenr];try omega)) only [↓amPre,amAll,↓reduceIte,reduceCtorEq,Nat.reduceEqDiff,Nat.reduceBEq,Nat.reduceAdd,Nat.reduceLeDiff,Nat.reduceSub,Nat.reduceMul,Int.reduceToNat,List.size_toArray,tyF,MM,bu0,cbU49,ssfz,ee]
  refine callP_frz q10 ?_
  simp -dsimp -implicitDefEqProofs (disch:=first | omega | (simp only [lenr];try omega)) only [↓amPre,amAll,↓reduceIte,reduceCtorEq,Nat.reduceEqDiff,Nat.reduceBEq,Nat.reduceAdd,Nat.reduceLeDiff,Nat.reduceSub,Nat.reduceMul,Int.reduceToNat,List.size_toArray,tyF,MM,bu0,cbU49,ssfz,ee]
  refine callP_of (q11) ?_
  simp -dsimp -implicitDefEqProofs (disch:=first | omega | (simp only [lenr];try omega)) only [↓amPre,amAll,↓reduceIte,reduceCtorEq,Nat.reduceEqDiff,Nat.reduceBEq,Nat.reduceAdd,Nat.reduceLeDiff,Nat.reduceSub,Nat.reduceMul,Int.reduceToNat,List.size_toArray,tyF,MM,bu0,cbU49]
end Sz2
end Go.AM
