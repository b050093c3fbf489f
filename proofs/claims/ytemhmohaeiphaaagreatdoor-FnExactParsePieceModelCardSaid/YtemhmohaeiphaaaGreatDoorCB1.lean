/-
  CONTRACTS of functions of the program,and what they compute,by content.
-/
import Derived.Test.YtemhmohaeiphaaaGreatDoorCB0
set_option linter.unusedVariables false
set_option linter.unusedSimpArgs false
namespace Go.AM
def St.nilC2 (st:St) (s z w:Nat):St:=(st.nilC s 0 z w [.nilsl,.nilsl]).nilC s 1 z w [.tr w [],.nilsl]
end Go.AM
set_option maxRecDepth 8000
namespace Go.AM
open Go.Proofs
instance:Thing (List Int):=⟨⟩
abbrev smallSS (l:List (List Int)):Prop:=l.length≤1099511627776∧∀ s∈l,s.length≤1099511627776
abbrev wfSS (l:List (List Int)):Prop:=l.length≤9223372036854775807∧∀ s∈l,s.length≤9223372036854775807
def Puzz.size (p:Puzz):Nat:=p.nm.length+sizeI p.mv
abbrev wfP (p:Puzz):Prop:=intOk p.n∧p.nm.length≤9223372036854775807∧wfSS p.mv
abbrev smallP (p:Puzz):Prop:=intOk p.n∧p.nm.length≤1099511627776∧smallSS p.mv
end Go.AM
namespace Go.AM
/-! words of scrambles,plainly -/
def nextR (x:Int):Int:=(48271*(if x.tmod 2147483647<0 then x.tmod 2147483647+2147483647 else x.tmod 2147483647)+11).tmod 2147483647
def rndK (x:Int):Nat→Int
  | 0=>x
  | k+1=>nextR (rndK x k)
def letL:Nat→List Int
  | 0=>[]
  | k+1=>letL k++[(k:Int)+1,-((k:Int)+1)]
def lastW (w:List Int):Int:=w.getD (w.length - 1) 0
def cndL (n:Nat) (w:List Int):List Int:=if w≠[]∧1<n then (letL n).filter (fun x=>!decide (sameI x (lastW w))) else letL n
def cndB (n:Nat) (w:List Int) (k:Nat):Prop:=n=1∨w=[]∨genI (lastW w)≠k
instance (n:Nat) (w:List Int) (k:Nat):Decidable (cndB n w k):=by unfold cndB;infer_instance
def cndS (n:Nat) (w:List Int):Nat→List Int
  | 0=>[]
  | k+1=>if cndB n w k then cndS n w k++[(k:Int)+1,-(k:Int) - 1] else cndS n w k
def scrW (n:Nat) (x:Int):Nat→List Int
  | 0=>[]
  | k+1=>scrW n x k++[(cndL n (scrW n x k)).getD ((rndK x (k+1)).tmod (cndL n (scrW n x k)).length).toNat 0]
end Go.AM
set_option maxRecDepth 8000
namespace Go.AM
namespace Draws
open Go.Proofs
def MM:FuncId→List Bool:=fun f=>if f=123 then [true] else if f=94 then [true,false] else if f=93 then [true,false] else if f=96 then [true,false,false] else if f=95 then [true,false] else if f=124 then [true] else if f=91 then [true] else if f=122 then [true,false] else if f=92 then [true,true] else if f=41 then [true] else if f=66 then [true] else if f=79 then [true] else []
structure Src where
  b:List UInt8
  k:Nat
  s:Int
abbrev bsl (l:List UInt8):AV:=.sl 1 (l.map fun x=>.u8 x.toNat)
abbrev Src.pt (s:Src):AV:=.pt 3 (.agg [bsl s.b,.i64 s.k,.i64 s.s])
abbrev Src.ok (s:Src):Prop:=s.b.length≤4096∧s.k≤s.b.length∧intOk s.s
instance:Thing UInt8:=⟨⟩
def nxS (s:Int):Int:=IntKind.i64.wrap (IntKind.i64.wrap (s*6364136223846793005)+1442695040888963407)
def nxX (s:Int):Int:=bitsI .and .i64 (bitsI .xor .i64 (s.fdiv (2 ^ (min 33 64))) (s.fdiv (2 ^ (min 45 64)))) 255
theorem and255 (a:Int):0≤bitsI .and .i64 a 255∧bitsI .and .i64 a 255≤255:=by
  have h:(BitVec.ofInt 64 a &&& BitVec.ofInt 64 255).toNat≤255:=by
    rw [BitVec.toNat_and]
    exact Nat.le_trans Nat.and_le_right (by decide)
  have e:bitsI .and .i64 a 255=((BitVec.ofInt 64 a &&& BitVec.ofInt 64 255).toNat:Int):=by
    show IntKind.i64.wrap ((BitVec.ofInt 64 a &&& BitVec.ofInt 64 255).toNat:Int)=_
    apply wrap64_id;omega
  rw [e];omega
theorem wrap_ok (x:Int):intOk (IntKind.i64.wrap x):=by
  unfold intOk IntKind.wrap
  simp only [IntKind.signed,IntKind.bits,Bool.true_and,decide_eq_true_eq,ge_iff_le,Nat.reduceSub,Int.reducePow,Nat.reducePow]
  constructor <;> split <;> omega
theorem nextByte (s:Src) (h:s.ok):∃ (s':Src) (x:Int),SpecX Tryz.prog 123 [s.pt] [some s'.pt] (.i64 x)∧s'.ok∧0≤x∧x≤255:=by
  have h1:=h.1
  have h2:=h.2.1
  have h3:=h.2.2
  have hb:IntKind.i64.bits=64:=rfl
  have hw:intOk (nxS s.s):=wrap_ok _
  have ha:=and255 (bitsI .xor .i64 ((nxS s.s).fdiv (2 ^ (min 33 64))) ((nxS s.s).fdiv (2 ^ (min 45 64))))
  have hn:nxS s.s=IntKind.i64.wrap (IntKind.i64.wrap (s.s*6364136223846793005)+1442695040888963407):=rfl
  by_cases hk:s.k<s.b.length
  case neg =>
    refine ⟨⟨s.b,s.k,nxS s.s⟩,nxX (nxS s.s),?_,⟨h1,h2,hw⟩,ha⟩
    unfold intOk at h3
    have hkl:s.k=s.b.length:=by omega
    refine spec_of_awp (M:=MM) (np:=1) (fz:=false) mixed Tryz.func123 rfl rfl (by decide) rfl (Nat.le_refl _) (by decide +kernel) (.inl rfl) (by simp only [sigsOk_some,sigsOk_nil,and_true];rfl) ?_
    simp -dsimp -implicitDefEqProofs (disch:=first|omega|(simp only [lenr];try omega)) only [↓amPre,↓reduceIte,reduceCtorEq,Nat.reduceEqDiff,Nat.reduceBEq,Nat.reduceAdd,Nat.reduceLeDiff,Nat.reduceSub,Nat.reduceMul,Int.reduceToNat,MM,bu0,hb,hkl]
    exact ⟨rfl,rfl⟩
  have hu:(s.b.getD s.k default).toNat<256:=(s.b.getD s.k default).toNat_lt
  have hv:=and255 (nxX (nxS s.s)+((s.b.getD s.k default).toNat:Int))
  have hx:0≤nxX (nxS s.s)∧nxX (nxS s.s)≤255:=ha
  refine ⟨⟨s.b,s.k+1,nxS s.s⟩,bitsI .and .i64 (nxX (nxS s.s)+((s.b.getD s.k default).toNat:Int)) 255,?_,⟨h1,hk,hw⟩,hv⟩
  unfold intOk at h3
  have hX:bitsI .and .i64 (bitsI .xor .i64 ((nxS s.s).fdiv (2 ^ (min 33 64))) ((nxS s.s).fdiv (2 ^ (min 45 64)))) 255=nxX (nxS s.s):=rfl
  have e1:IntKind.i64.wrap ((s.b.getD s.k default).toNat:Int)=(s.b.getD s.k default).toNat:=wrap64_id (by omega)
  have e2:IntKind.i64.wrap (nxX (nxS s.s)+((s.b.getD s.k default).toNat:Int))=nxX (nxS s.s)+((s.b.getD s.k default).toNat:Int):=wrap64_id (by omega)
  refine spec_of_awp (M:=MM) (np:=1) (fz:=false) mixed Tryz.func123 rfl rfl (by decide) rfl (Nat.le_refl _) (by decide +kernel) (.inl rfl) (by simp only [sigsOk_some,sigsOk_nil,and_true];rfl) ?_
  simp -dsimp -implicitDefEqProofs (disch:=first|omega|(simp only [lenr];try omega)) only [↓amPre,↓reduceIte,reduceCtorEq,Nat.reduceEqDiff,Nat.reduceBEq,Nat.reduceAdd,Nat.reduceLeDiff,Nat.reduceSub,Nat.reduceMul,Int.reduceToNat,MM,bu0,hb,← hn,hX,e1,e2]
theorem below (s:Src) (n:Int) (h:s.ok) (hn:intOk n):∃ (s':Src) (x:Int),SpecX Tryz.prog 94 [s.pt,.i64 n] [some s'.pt] (.i64 x)∧s'.ok∧0≤x∧(0<n→x<n)∧(n≤0→x=0):=by
  unfold intOk at hn
  by_cases n0:n≤0
  · refine ⟨s,0,?_,h,by omega,by omega,fun _=>rfl⟩
    refine spec_of_awp (M:=MM) (np:=2) (fz:=false) mixed Tryz.func94 rfl rfl (by decide) rfl (Nat.le_refl _) (by decide +kernel) (.inl rfl) (by simp only [sigsOk_some,sigsOk_nil,and_true]) ?_
    simp -dsimp -implicitDefEqProofs (disch:=first|omega|(simp only [lenr];try omega)) only [↓amPre,↓reduceIte,reduceCtorEq,Nat.reduceEqDiff,Nat.reduceBEq,Nat.reduceAdd,Nat.reduceLeDiff,Nat.reduceSub,Nat.reduceMul,Int.reduceToNat,MM,bu0,lt_false n0]
  obtain ⟨s1,x1,q1,k1,b1⟩:=nextByte s h
  by_cases n1:n≤256
  · refine ⟨s1,x1.tmod n,?_,k1,Int.tmod_nonneg _ b1.1,fun q=>Int.tmod_lt_of_pos _ q,fun q=>by omega⟩
    have hne:n≠0:=by omega
    refine spec_of_awp (M:=MM) (np:=2) (fz:=false) mixed Tryz.func94 rfl rfl (by decide) rfl (Nat.le_refl _) (by decide +kernel) (.inl rfl) (by simp only [sigsOk_some,sigsOk_nil,and_true];rfl) ?_
    simp -dsimp -implicitDefEqProofs (disch:=first|omega|(simp only [lenr];try omega)) only [↓amPre,↓reduceIte,reduceCtorEq,Nat.reduceEqDiff,Nat.reduceBEq,Nat.reduceAdd,Nat.reduceLeDiff,Nat.reduceSub,Nat.reduceMul,Int.reduceToNat,MM,bu0,lt_true (Int.not_le.1 n0),lt_false n1]
    refine callX_of (q1) ?_
    simp -dsimp -implicitDefEqProofs (disch:=first|omega|(simp only [lenr];try omega)) only [↓amPre,↓reduceIte,reduceCtorEq,Nat.reduceEqDiff,Nat.reduceBEq,Nat.reduceAdd,Nat.reduceLeDiff,Nat.reduceSub,Nat.reduceMul,Int.reduceToNat,MM,bu0,hne]
  obtain ⟨s2,x2,q2,k2,b2⟩:=nextByte s1 k1
  obtain ⟨s3,x3,q3,k3,b3⟩:=nextByte s2 k2
  obtain ⟨s4,x4,q4,k4,b4⟩:=nextByte s3 k3
  refine ⟨s4,(x1*16777216+x2*65536+x3*256+x4).tmod n,?_,k4,Int.tmod_nonneg _ (by omega),fun q=>Int.tmod_lt_of_pos _ q,fun q=>by omega⟩
  have hne:n≠0:=by omega
  have e1:IntKind.i64.wrap (x1*16777216)=x1*16777216:=wrap64_id (by omega)
  have e2:IntKind.i64.wrap (x2*65536)=x2*65536:=wrap64_id (by omega)
  have e3:IntKind.i64.wrap (x3*256)=x3*256:=wrap64_id (by omega)
  have e4:IntKind.i64.wrap (x1*16777216+x2*65536)=x1*16777216+x2*65536:=wrap64_id (by omega)
  have e5:IntKind.i64.wrap (x1*16777216+x2*65536+x3*256)=x1*16777216+x2*65536+x3*256:=wrap64_id (by omega)
  have e6:IntKind.i64.wrap (x1*16777216+x2*65536+x3*256+x4)=x1*16777216+x2*65536+x3*256+x4:=wrap64_id (by omega)
  refine spec_of_awp (M:=MM) (np:=2) (fz:=false) mixed Tryz.func94 rfl rfl (by decide) rfl (Nat.le_refl _) (by decide +kernel) (.inl rfl) (by simp only [sigsOk_some,sigsOk_nil,and_true];rfl) ?_
  simp -dsimp -implicitDefEqProofs (disch:=first|omega|(simp only [lenr];try omega)) only [↓amPre,↓reduceIte,reduceCtorEq,Nat.reduceEqDiff,Nat.reduceBEq,Nat.reduceAdd,Nat.reduceLeDiff,Nat.reduceSub,Nat.reduceMul,Int.reduceToNat,MM,bu0,lt_true (Int.not_le.1 n0),lt_true (Int.not_le.1 n1)]
  refine callX_of (q1) ?_
  simp -dsimp -implicitDefEqProofs (disch:=first|omega|(simp only [lenr];try omega)) only [↓amPre,↓reduceIte,reduceCtorEq,Nat.reduceEqDiff,Nat.reduceBEq,Nat.reduceAdd,Nat.reduceLeDiff,Nat.reduceSub,Nat.reduceMul,Int.reduceToNat,MM,bu0]
  refine callX_of (q2) ?_
  simp -dsimp -implicitDefEqProofs (disch:=first|omega|(simp only [lenr];try omega)) only [↓amPre,↓reduceIte,reduceCtorEq,Nat.reduceEqDiff,Nat.reduceBEq,Nat.reduceAdd,Nat.reduceLeDiff,Nat.reduceSub,Nat.reduceMul,Int.reduceToNat,MM,bu0]
  refine callX_of (q3) ?_
  simp -dsimp -implicitDefEqProofs (disch:=first|omega|(simp only [lenr];try omega)) only [↓amPre,↓reduceIte,reduceCtorEq,Nat.reduceEqDiff,Nat.reduceBEq,Nat.reduceAdd,Nat.reduceLeDiff,Nat.reduceSub,Nat.reduceMul,Int.reduceToNat,MM,bu0]
  refine callX_of (q4) ?_
  simp -dsimp -implicitDefEqProofs (disch:=first|omega|(simp only [lenr];try omega)) only [↓amPre,↓reduceIte,reduceCtorEq,Nat.reduceEqDiff,Nat.reduceBEq,Nat.reduceAdd,Nat.reduceLeDiff,Nat.reduceSub,Nat.reduceMul,Int.reduceToNat,MM,bu0,hne,e1,e2,e3,e4,e5,e6]
end Draws
end Go.AM
set_option maxRecDepth 8000
namespace Go.AM
namespace Draws
open Go.Proofs
def sdK (l:List UInt8):Nat→Int
  | 0=>590033+l.length
  | k+1=>bitsI .and .i64 (sdK l k*337+(l.getD k default).toNat+11) 1073741823
end Draws
end Go.AM
set_option maxRecDepth 8000
namespace Go.AM
namespace Draws
open Go.Proofs
noncomputable def bS (s:Src) (n:Int):Src:=open Classical in if h:s.ok∧intOk n then (below s n h.1 h.2).choose else s
noncomputable def bX (s:Src) (n:Int):Int:=open Classical in if h:s.ok∧intOk n then (below s n h.1 h.2).choose_spec.choose else 0
noncomputable def ordK (s:Src):Nat→Src×List Int
  | 0=>(s,[])
  | k+1=>(bS (ordK s k).1 (k+1),(ordK s k).2.take (bX (ordK s k).1 (k+1)).toNat++[(k:Int)]++(ordK s k).2.drop (bX (ordK s k).1 (k+1)).toNat)
end Draws
end Go.AM
namespace Go.AM
/-! a permutation of the facelets as a piece state -/
def pAt (p:List Int) (b o i:Nat):Int:=p.getD (b+i*o) 0 - b
def ctL (p:List Int) (b o n:Nat):List Int:=(List.range n).map fun i=>(pAt p b o i).tdiv o
def cbL (p:List Int) (b o n:Nat):List Int:=(List.range n).map fun i=>(pAt p b o i).tmod o
def candT (ks:List Kind) (p:List Int) (k:Nat):Twist :=
  ⟨ctL p (facets (ks.take k)).toNat (ks.getD k default).o.toNat (ks.getD k default).c.toNat,cbL p (facets (ks.take k)).toNat (ks.getD k default).o.toNat (ks.getD k default).c.toNat⟩
def candL (ks:List Kind) (p:List Int) (n:Nat):List Twist:=(List.range n).map (candT ks p)
def ptpOk (ks:List Kind) (p:List Int):Prop:=kindsOk ks∧(p.length:Int)=facets ks∧psOk ks (candL ks p ks.length)∧permOf ks (candL ks p ks.length)=p
instance (ks:List Kind) (p:List Int):Decidable (ptpOk ks p):=by unfold ptpOk;infer_instance
def ptpR (ks:List Kind) (p:List Int):List Twist:=if ptpOk ks p then candL ks p ks.length else []
end Go.AM
set_option maxRecDepth 8000
namespace Go.AM
open Go.Proofs
def cpL (a b:List Int) (k:Nat):List Int:=(List.range k).map fun i=>b.getD (a.getD i 0).toNat 0
def cpR (a b:List Int):AV:=if isPerm a∧isPerm b∧a.length=b.length then .tup [itr (cpL a b a.length),.bl true] else .tup [.tr 1 [],.bl false]
def ivL (p:List Int):Nat→List Int
  | 0=>List.replicate p.length 0
  | k+1=>(ivL p k).set (p.getD k 0).toNat (k:Int)
end Go.AM
namespace Go.AM
/-! the permutation of a composite,and of an inverse,of piece states -/
def bas (ks:List Kind) (n:Nat):Nat:=(facets (ks.take n)).toNat
end Go.AM
set_option maxRecDepth 8000
namespace Go.AM
open Go.Proofs
def consM (m:Model) (i:Invar):Prop:=modelOk m∧∀ s∈m.mv,invV m.ks s i=0
instance (m:Model) (i:Invar):Decidable (consM m i):=by unfold consM;infer_instance
def trivK (ks:List Kind) (set:Int):Nat→Bool
  | 0=>true
  | k+1=>trivK ks set k && !(bitK set k && decide (1<(ks.getD k default).c))
def trivI (ks:List Kind) (i:Invar):Bool:=if i.k=1 then decide ((ks.getD i.s.toNat default).o=1) else trivK ks i.s ks.length
end Go.AM
set_option maxRecDepth 8000
namespace Go.AM
open Go.Proofs
def keepI (m:Model) (i:Invar):Bool:=!trivI m.ks i && decide (consM m i)
def allI (ks:List Kind):List Invar:=twL ks.length++paL (2 ^ ks.length - 1)
def consL (m:Model):List Invar:=(allI m.ks).filter (keepI m)
def consR (m:Model):List Invar:=if modelOk m then consL m else []
end Go.AM
set_option maxRecDepth 8000
namespace Go.AM
open Go.Proofs
def vioO (m:Model) (s:List Twist):Option Invar:=if psOk m.ks s then (consR m).find? (fun i=>invV m.ks s i != 0) else none
def vioR (o:Option Invar):AV:=match o with | some i=>.tup [i.av,.bl true] | none=>.tup [(⟨0,0⟩:Invar).av,.bl false]
end Go.AM
namespace Go.AM
/-! keys of states: their bytes -/
def skey (s:List Int):ByteArray:=pushB s
def smallE (s:List Int):Prop:=∀ x∈s,0≤x∧x<256
open Classical in
noncomputable def seenM (S:List (List Int)):Value→Option Value:=fun v=>if ∃ s∈S,v=.string (skey s) then some (.bool true) else none
def ixK (L:List (List Int)) (s:List Int):Int:=if s∈L then (L.idxOf s:Nat) else -1
end Go.AM
