/-
 CONTRACTS of functions of the program,and what they compute,by content.
-/
import Derived.Test.YtemhmohaeiphaaaGreatDoorM2Tool
import Derived.Test.YtemhmohaeiphaaaGreatDoorM2Facts
import Derived.Test.YtemhmohaeiphaaaGreatDoorM2SD
import Derived.Lib.SplitLaws
import Derived.Lib.ParseIntB
import Derived.Lib.ItoaNum
import Derived.Lib.ItoaLen
open Nat (reduceEqDiff reduceAdd reduceLeDiff reduceSub reduceMul)
open Int (reduceToNat)
set_option linter.unusedVariables false
set_option linter.defProp false
set_option linter.unusedSimpArgs false
namespace Go.AM
/-! content: lists of numbers,lists of things -/
abbrev ints (l:List Int):List AV:=l.map AV.i64
abbrev isl (l:List Int):AV:=.sl 1 (l.map AV.i64)
abbrev itr (l:List Int):AV:=.tr 1 (l.map AV.i64)
class Thing (α:Type) extends Inhabited α
instance:Thing (List Int):=⟨⟩
instance:Thing (List (List Int)):=⟨⟩
theorem gm {α:Type} [Thing α] (f:α→AV) (l:List α) (i:Nat) (h:i<l.length):(l.map f).getD i .any=f (l.getD i default):=by
 simp [List.getD,h]
theorem gi (l:List Int) (i:Nat) (h:i<l.length):(l.map AV.i64).getD i .any=.i64 (l.getD i 0):=by
 simp [List.getD,h]
theorem set_map {α:Type} (f:α→AV) (l:List α) (i:Nat) (x:α):(l.map f).set i (f x)=(l.set i x).map f:=by
 rw [List.map_set]
theorem map_snoc {α:Type} (f:α→AV) (l:List α) (x:α):l.map f++[f x]=(l++[x]).map f:=by simp
theorem map_take {α:Type} (f:α→AV) (l:List α) (n:Nat):(l.map f).take n=(l.take n).map f:=by rw [List.map_take]
theorem map_drop {α:Type} (f:α→AV) (l:List α) (n:Nat):(l.map f).drop n=(l.drop n).map f:=by rw [List.map_drop]
theorem take_map_all {α:Type} (f:α→AV) (l:List α) (n:Nat) (h:n=l.length):(l.map f).take n=l.map f:=by
 rw [List.take_of_length_le];simp;omega
theorem ints_fz (l:List Int):(l.map AV.i64).map AV.fz=l.map AV.i64:=by simp [fz_v]
theorem i64c {a b:Int} (h:a=b):AV.i64 a=AV.i64 b:=by rw [h]
theorem vic {k:IntKind} {a b:Int} (h:a=b):Value.int k a=Value.int k b:=by rw [h]
theorem cast1 (j:Nat):((j:Int)+1)=((j+1:Nat):Int):=by simp
theorem bl_eq {a b:Bool} (h:a=true↔b=true):Value.bool a=Value.bool b:=by rw [Bool.eq_iff_iff.2 h]
theorem getD_eq {α:Type} (l:List α) (i:Nat) (d:α) (h:i<l.length):l.getD i d=l[i]:=by simp [List.getD,h]
theorem take_succ_eq {α:Type} (l:List α) (i:Nat) (d:α) (h:i<l.length):l.take (i+1)=l.take i++[l.getD i d]:=by
 rw [List.take_succ_eq_append_getElem h,getD_eq l i d h]
theorem mem_take_succ {α:Type} {l:List α} {i:Nat} {d:α} (h:i<l.length) {p:α→Prop}:(∀ x∈l.take (i+1),p x)↔(∀ x∈l.take i,p x)∧p (l.getD i d):=by
 rw [take_succ_eq l i d h]
 constructor
 ·intro q;exact ⟨fun x hx=>q x (by simp [hx]),q _ (by simp)⟩
 ·rintro ⟨q1,q2⟩ x hx
  rcases List.mem_append.1 hx with hx | hx
  ·exact q1 x hx
  ·rw [List.mem_singleton.1 hx];exact q2
def runI (k:Int) (n:Nat):List Int:=(List.range n).map fun i=>k+(i:Nat)
theorem runI_len (k:Int) (n:Nat):(runI k n).length=n:=by simp [runI]
def mixL {α:Type} (a b:List α) (n:Nat):List α:=a.take n++b.drop n
theorem mixL_zero {α:Type} (a b:List α):mixL a b 0=b:=by simp [mixL]
theorem mixL_all {α:Type} (a b:List α) (n:Nat) (h:a.length≤n) (h':b.length≤n):mixL a b n=a:=by
 simp [mixL,List.take_of_length_le h,List.drop_of_length_le h']
theorem mixL_len {α:Type} (a b:List α) (n:Nat) (h:a.length=b.length):(mixL a b n).length=b.length:=by
 simp [mixL];omega
theorem mixL_set {α:Type} (a b:List α) (n:Nat) (d:α) (h:a.length=b.length) (hn:n<b.length):(mixL a b n).set n (a.getD n d)=mixL a b (n+1):=by
 apply List.ext_getElem
 ·simp [mixL];omega
 ·intro i h1 h2
  simp only [mixL,List.getElem_set,List.getElem_append,List.length_take,List.getElem_take,List.getElem_drop]
  have hd:a.getD n d=a[n]'(by omega):=getD_eq a n d (by omega)
  by_cases e:n=i
  ·subst e;rw [if_pos rfl,dif_pos (by omega)];exact hd
  ·by_cases hlt:i<n
   ·rw [if_neg e,dif_pos (by omega),dif_pos (by omega)]
   ·rw [if_neg e,dif_neg (by omega),dif_neg (by omega)]
    congr 1;omega
def szR (k:Int) (n:Nat):Int:=if k - n<0 then -1 else k - n
def within (x lo hi:Int):Bool:=decide (lo≤x) && decide (x≤hi)
theorem within_iff {x lo hi:Int}:within x lo hi=true↔lo≤x∧x≤hi:=by simp [within]
theorem within_not {x lo hi:Int}:within x lo hi=false↔¬ (lo≤x∧x≤hi):=by rw [← within_iff];simp
theorem map_fz {α:Type} (f g:α→AV) (l:List α) (h:∀ a,(f a).fz=g a):(l.map f).map AV.fz=l.map g:=by
 rw [List.map_map];exact List.map_congr_left fun a _=>h a
theorem getD_set_same {α:Type} (l:List α) (i:Nat) (x d:α) (h:i<l.length):(l.set i x).getD i d=x:=by simp [List.getD,h]
class Mk (α:Type) extends Thing α where
 mrk:Int→α→α
 cnt:α→Nat
instance:Mk (List Int):={ mrk:=fun k l=>runI k l.length,cnt:=List.length }
section
variable {α:Type} [Mk α]
def mks (k:Int):List α→List α
 | []=>[]
 | a :: r=>Mk.mrk k a :: mks (k+Mk.cnt a) r
def cnts:List α→Nat
 | []=>0
 | a :: r=>Mk.cnt a+cnts r
theorem mks_len:∀ (k:Int) (l:List α),(mks k l).length=l.length
 | _,[]=>rfl
 | k,a :: r=>by rw [mks,List.length_cons,List.length_cons,mks_len]
theorem cnts_bound:∀ (l:List α) (b:Nat),(∀ a∈l,Mk.cnt a≤b)→cnts l≤b*l.length
 | [],_,_=>by simp [cnts]
 | a :: r,b,h=>by
  have:=cnts_bound r b fun x hx=>h x (by simp [hx])
  have:=h a (by simp)
  simp only [cnts,List.length_cons,Nat.mul_succ];omega
instance:Mk (List α):={ mrk:=mks,cnt:=cnts }
end
def sizeL {α:Type} [Mk α] (l:List α):Nat:=l.length+cnts l
theorem mem_getD {α:Type} (l:List α) (i:Nat) (d:α) (h:i<l.length):l.getD i d∈l:=by rw [getD_eq l i d h];exact List.getElem_mem h
theorem hdV (x d:Value) (l:List Value):(x :: l).headD d=x:=rfl
theorem repI (n:Nat) (x:Int):List.replicate n (AV.v (.int .i64 x))=(List.replicate n x).map AV.i64:=by simp
theorem bbeq (b:Bool):(b == b)=true:=by cases b <;> rfl
def lenr:=(ai (@List.length_map.{0,0}) (ai (@List.length_set.{0}) (ai (@List.length_append.{0}) (ai (@List.length_cons.{0}) (ai (@List.length_nil.{0}) (ai (@List.length_replicate.{0}) (ai (@List.length_take.{0}) (ai runI_len (ai (@mks_len) (ai (@List.length_range) (@List.length_drop.{0})))))))))))

def bu0:=ai (ai amAll (ai tyF @List.size_toArray.{0})) (ai gi (ai @gm (ai @set_map (ai @map_snoc (ai @take_map_all (ai @map_take (ai @map_drop (ai ints_fz (ai cast1 (ai @getD_set_same (ai (@List.set_set.{0}) (ai hdV (ai repI (ai (@List.take_of_length_le.{0}) bbeq))))))))))))))

end Go.AM
set_option maxRecDepth 8000
namespace Go.AM
open Go.Proofs
def MM:FuncId→List Bool:=fun f=>if f=89 then [true,false] else if f=37 then [true,false] else if f=38 then [true,false] else if f=84 then [true,false] else if f=30 then [true,false] else if f=62 then [true,false] else if f=18 then [true,false] else []
abbrev big:Int:=1099511627776
end Go.AM
set_option maxRecDepth 8000
namespace Go.AM
namespace Draws
open Go.Proofs
def MM:FuncId→List Bool:=fun f=>if f=123 then [true] else if f=94 then [true,false] else if f=93 then [true,false] else if f=96 then [true,false,false] else if f=95 then [true,false] else if f=124 then [true] else if f=91 then [true] else if f=122 then [true,false] else if f=92 then [true,true] else if f=41 then [true] else if f=66 then [true] else if f=79 then [true] else []
structure Src where
 b:List UInt8
 k:Nat
 s:Int
abbrev bsl (l:List UInt8):AV:=.sl 1 (l.map fun x=>.u8 x.toNat)
abbrev Src.pt (s:Src):AV:=.pt 3 (.agg [bsl s.b,.i64 s.k,.i64 s.s])
abbrev Src.ok (s:Src):Prop:=s.b.length≤4096∧s.k≤s.b.length∧intOk s.s
instance:Thing UInt8:=⟨⟩
def nxS (s:Int):Int:=IntKind.i64.wrap (IntKind.i64.wrap (s*6364136223846793005)+1442695040888963407)
def nxX (s:Int):Int:=bitsI .and .i64 (bitsI .xor .i64 (s.fdiv (2 ^ (min 33 64))) (s.fdiv (2 ^ (min 45 64)))) 255
theorem and255 (a:Int):0≤bitsI .and .i64 a 255∧bitsI .and .i64 a 255≤255:=by
 have h:(BitVec.ofInt 64 a &&& BitVec.ofInt 64 255).toNat≤255:=by
  rw [BitVec.toNat_and]
  exact Nat.le_trans Nat.and_le_right (by decide)
 have e:bitsI .and .i64 a 255=((BitVec.ofInt 64 a &&& BitVec.ofInt 64 255).toNat:Int):=by
  show IntKind.i64.wrap ((BitVec.ofInt 64 a &&& BitVec.ofInt 64 255).toNat:Int)=_
  apply wrap64_id;omega
 rw [e];omega
theorem wrap_ok (x:Int):intOk (IntKind.i64.wrap x):=by
 unfold intOk IntKind.wrap
 simp only [IntKind.signed,IntKind.bits,Bool.true_and,decide_eq_true_eq,ge_iff_le,reduceSub,Int.reducePow,Nat.reducePow]
 constructor <;> split <;> omega
theorem nextByte (s:Src) (h:s.ok):∃ (s':Src) (x:Int),SpecX Tryz.prog 123 [s.pt] [some s'.pt] (.i64 x)∧s'.ok∧0≤x∧x≤255:=by
 have h1:=h.1
 have h2:=h.2.1
 have h3:=h.2.2
 have hb:IntKind.i64.bits=64:=rfl
 have hw:intOk (nxS s.s):=wrap_ok _
 have ha:=and255 (bitsI .xor .i64 ((nxS s.s).fdiv (2 ^ (min 33 64))) ((nxS s.s).fdiv (2 ^ (min 45 64))))
 have hn:nxS s.s=IntKind.i64.wrap (IntKind.i64.wrap (s.s*6364136223846793005)+1442695040888963407):=rfl
 by_cases hk:s.k<s.b.length
 case neg =>
  refine ⟨⟨s.b,s.k,nxS s.s⟩,nxX (nxS s.s),?_,⟨h1,h2,hw⟩,ha⟩
  unfold intOk at h3
  have hkl:s.k=s.b.length:=by omega
  refine spec_of_awp (M:=MM) (np:=1) (fz:=false) mixed Tryz.func123 rfl rfl (by decide) rfl (Nat.le_refl _) (by decide +kernel) (.inl rfl) (by simp only [sigsOk_some,sigsOk_nil,and_true];rfl) ?_
  simp -dsimp -implicitDefEqProofs (disch:=first|omega|(simp only [lenr];try omega)) only [↓amPre,↓reduceIte,reduceCtorEq,reduceEqDiff,Nat.reduceBEq,reduceAdd,reduceLeDiff,reduceSub,reduceMul,reduceToNat,MM,bu0,hb,hkl]
  exact ⟨rfl,rfl⟩
 have hu:(s.b.getD s.k default).toNat<256:=(s.b.getD s.k default).toNat_lt
 have hv:=and255 (nxX (nxS s.s)+((s.b.getD s.k default).toNat:Int))
 have hx:0≤nxX (nxS s.s)∧nxX (nxS s.s)≤255:=ha
 refine ⟨⟨s.b,s.k+1,nxS s.s⟩,bitsI .and .i64 (nxX (nxS s.s)+((s.b.getD s.k default).toNat:Int)) 255,?_,⟨h1,hk,hw⟩,hv⟩
 unfold intOk at h3
 have hX:bitsI .and .i64 (bitsI .xor .i64 ((nxS s.s).fdiv (2 ^ (min 33 64))) ((nxS s.s).fdiv (2 ^ (min 45 64)))) 255=nxX (nxS s.s):=rfl
 have e1:IntKind.i64.wrap ((s.b.getD s.k default).toNat:Int)=(s.b.getD s.k default).toNat:=wrap64_id (by omega)
 have e2:IntKind.i64.wrap (nxX (nxS s.s)+((s.b.getD s.k default).toNat:Int))=nxX (nxS s.s)+((s.b.getD s.k default).toNat:Int):=wrap64_id (by omega)
 refine spec_of_awp (M:=MM) (np:=1) (fz:=false) mixed Tryz.func123 rfl rfl (by decide) rfl (Nat.le_refl _) (by decide +kernel) (.inl rfl) (by simp only [sigsOk_some,sigsOk_nil,and_true];rfl) ?_
 simp -dsimp -implicitDefEqProofs (disch:=first|omega|(simp only [lenr];try omega)) only [↓amPre,↓reduceIte,reduceCtorEq,reduceEqDiff,Nat.reduceBEq,reduceAdd,reduceLeDiff,reduceSub,reduceMul,reduceToNat,MM,bu0,hb,← hn,hX,e1,e2]
theorem below (s:Src) (n:Int) (h:s.ok) (hn:intOk n):∃ (s':Src) (x:Int),SpecX Tryz.prog 94 [s.pt,.i64 n] [some s'.pt] (.i64 x)∧s'.ok∧0≤x∧(0<n→x<n)∧(n≤0→x=0):=by
 unfold intOk at hn
 by_cases n0:n≤0
 ·refine ⟨s,0,?_,h,by omega,by omega,fun _=>rfl⟩
  refine spec_of_awp (M:=MM) (np:=2) (fz:=false) mixed Tryz.func94 rfl rfl (by decide) rfl (Nat.le_refl _) (by decide +kernel) (.inl rfl) (by simp only [sigsOk_some,sigsOk_nil,and_true]) ?_
  simp -dsimp -implicitDefEqProofs (disch:=first|omega|(simp only [lenr];try omega)) only [↓amPre,↓reduceIte,reduceCtorEq,reduceEqDiff,Nat.reduceBEq,reduceAdd,reduceLeDiff,reduceSub,reduceMul,reduceToNat,MM,bu0,lt_false n0]
 obtain ⟨s1,x1,q1,k1,b1⟩:=nextByte s h
 by_cases n1:n≤256
 ·refine ⟨s1,x1.tmod n,?_,k1,Int.tmod_nonneg _ b1.1,fun q=>Int.tmod_lt_of_pos _ q,fun q=>by omega⟩
  have hne:n≠0:=by omega
  refine spec_of_awp (M:=MM) (np:=2) (fz:=false) mixed Tryz.func94 rfl rfl (by decide) rfl (Nat.le_refl _) (by decide +kernel) (.inl rfl) (by simp only [sigsOk_some,sigsOk_nil,and_true];rfl) ?_
  simp -dsimp -implicitDefEqProofs (disch:=first|omega|(simp only [lenr];try omega)) only [↓amPre,↓reduceIte,reduceCtorEq,reduceEqDiff,Nat.reduceBEq,reduceAdd,reduceLeDiff,reduceSub,reduceMul,reduceToNat,MM,bu0,lt_true (Int.not_le.1 n0),lt_false n1]
  refine callX_of (q1) ?_
  simp -dsimp -implicitDefEqProofs (disch:=first|omega|(simp only [lenr];try omega)) only [↓amPre,↓reduceIte,reduceCtorEq,reduceEqDiff,Nat.reduceBEq,reduceAdd,reduceLeDiff,reduceSub,reduceMul,reduceToNat,MM,bu0,hne]
 obtain ⟨s2,x2,q2,k2,b2⟩:=nextByte s1 k1
 obtain ⟨s3,x3,q3,k3,b3⟩:=nextByte s2 k2
 obtain ⟨s4,x4,q4,k4,b4⟩:=nextByte s3 k3
 refine ⟨s4,(x1*16777216+x2*65536+x3*256+x4).tmod n,?_,k4,Int.tmod_nonneg _ (by omega),fun q=>Int.tmod_lt_of_pos _ q,fun q=>by omega⟩
 have hne:n≠0:=by omega
 have e1:IntKind.i64.wrap (x1*16777216)=x1*16777216:=wrap64_id (by omega)
 have e2:IntKind.i64.wrap (x2*65536)=x2*65536:=wrap64_id (by omega)
 have e3:IntKind.i64.wrap (x3*256)=x3*256:=wrap64_id (by omega)
 have e4:IntKind.i64.wrap (x1*16777216+x2*65536)=x1*16777216+x2*65536:=wrap64_id (by omega)
 have e5:IntKind.i64.wrap (x1*16777216+x2*65536+x3*256)=x1*16777216+x2*65536+x3*256:=wrap64_id (by omega)
 have e6:IntKind.i64.wrap (x1*16777216+x2*65536+x3*256+x4)=x1*16777216+x2*65536+x3*256+x4:=wrap64_id (by omega)
 refine spec_of_awp (M:=MM) (np:=2) (fz:=false) mixed Tryz.func94 rfl rfl (by decide) rfl (Nat.le_refl _) (by decide +kernel) (.inl rfl) (by simp only [sigsOk_some,sigsOk_nil,and_true];rfl) ?_
 simp -dsimp -implicitDefEqProofs (disch:=first|omega|(simp only [lenr];try omega)) only [↓amPre,↓reduceIte,reduceCtorEq,reduceEqDiff,Nat.reduceBEq,reduceAdd,reduceLeDiff,reduceSub,reduceMul,reduceToNat,MM,bu0,lt_true (Int.not_le.1 n0),lt_true (Int.not_le.1 n1)]
 iterate 3 ((first|refine callX_of (q1) ?_|refine callX_of (q2) ?_|refine callX_of (q3) ?_);simp -dsimp -implicitDefEqProofs (disch:=first|omega|(simp only [lenr];try omega)) only [↓amPre,↓reduceIte,reduceCtorEq,reduceEqDiff,Nat.reduceBEq,reduceAdd,reduceLeDiff,reduceSub,reduceMul,reduceToNat,MM,bu0])
 refine callX_of (q4) ?_
 simp -dsimp -implicitDefEqProofs (disch:=first|omega|(simp only [lenr];try omega)) only [↓amPre,↓reduceIte,reduceCtorEq,reduceEqDiff,Nat.reduceBEq,reduceAdd,reduceLeDiff,reduceSub,reduceMul,reduceToNat,MM,bu0,hne,e1,e2,e3,e4,e5,e6]
theorem oneIn (s:Src) (n:Int) (h:s.ok) (hn:intOk n):∃ (s':Src) (b:Bool),SpecX Tryz.prog 93 [s.pt,.i64 n] [some s'.pt] (.bl b)∧s'.ok:=by
 obtain ⟨s1,x1,q1,k1,b1⟩:=below s n h hn
 refine ⟨s1,x1 == 0,?_,k1⟩
 refine spec_of_awp (M:=MM) (np:=2) (fz:=false) mixed Tryz.func93 rfl rfl (by decide) rfl (Nat.le_refl _) (by decide +kernel) (.inl rfl) (by simp only [sigsOk_some,sigsOk_nil,and_true];rfl) ?_
 simp -dsimp -implicitDefEqProofs (disch:=first|omega|(simp only [lenr];try omega)) only [↓amPre,↓reduceIte,reduceCtorEq,reduceEqDiff,Nat.reduceBEq,reduceAdd,reduceLeDiff,reduceSub,reduceMul,reduceToNat,MM,bu0]
 refine callX_of (q1) ?_
 simp -dsimp -implicitDefEqProofs (disch:=first|omega|(simp only [lenr];try omega)) only [↓amPre,↓reduceIte,reduceCtorEq,reduceEqDiff,Nat.reduceBEq,reduceAdd,reduceLeDiff,reduceSub,reduceMul,reduceToNat,MM,bu0]
theorem between (s:Src) (a b:Int) (h:s.ok) (ha:-1000≤a) (hab:a≤b) (hb:b≤1000):∃ (s':Src) (x:Int),SpecX Tryz.prog 96 [s.pt,.i64 a,.i64 b] [some s'.pt] (.i64 x)∧s'.ok∧a≤x∧x≤b:=by
 obtain ⟨s1,x1,q1,k1,b1,b2,b3⟩:=below s (b - a+1) h (by unfold intOk;omega)
 have b2:=b2 (by omega)
 refine ⟨s1,a+x1,?_,k1,by omega,by omega⟩
 refine spec_of_awp (M:=MM) (np:=3) (fz:=false) mixed Tryz.func96 rfl rfl (by decide) rfl (Nat.le_refl _) (by decide +kernel) (.inl rfl) (by simp only [sigsOk_some,sigsOk_nil,and_true];rfl) ?_
 simp -dsimp -implicitDefEqProofs (disch:=first|omega|(simp only [lenr];try omega)) only [↓amPre,↓reduceIte,reduceCtorEq,reduceEqDiff,Nat.reduceBEq,reduceAdd,reduceLeDiff,reduceSub,reduceMul,reduceToNat,MM,bu0]
 refine callX_of (q1) ?_
 simp -dsimp -implicitDefEqProofs (disch:=first|omega|(simp only [lenr];try omega)) only [↓amPre,↓reduceIte,reduceCtorEq,reduceEqDiff,Nat.reduceBEq,reduceAdd,reduceLeDiff,reduceSub,reduceMul,reduceToNat,MM,bu0]
theorem extremeInt (s:Src) (h:s.ok):∃ (s':Src) (x:Int),SpecX Tryz.prog 124 [s.pt] [some s'.pt] (.i64 x)∧s'.ok∧intOk x:=by
 obtain ⟨s1,x1,q1,k1,b1,b2,b3⟩:=below s 10 h (by unfold intOk;omega)
 have b2:=b2 (by omega)
 obtain ⟨n,hn⟩:∃ n:Nat,x1=n:=⟨_,(Int.toNat_of_nonneg b1).symm⟩
 have hn10:n<10:=by omega
 subst hn
 have hin:∀ n:Nat,n<10→-9223372036854775808≤([-1,0,1,2147483648,-2147483648,1099511627776,4611686018427387904,-4611686018427387904,9223372036854775807,-9223372036854775808]:List Int).getD n 0∧([-1,0,1,2147483648,-2147483648,1099511627776,4611686018427387904,-4611686018427387904,9223372036854775807,-9223372036854775808]:List Int).getD n 0≤9223372036854775807:=by decide +kernel
 refine ⟨s1,([-1,0,1,2147483648,-2147483648,1099511627776,4611686018427387904,-4611686018427387904,9223372036854775807,-9223372036854775808]:List Int).getD n 0,?_,k1,hin n hn10⟩
 have hg:([.i64 (-1),.i64 (0),.i64 (1),.i64 (2147483648),.i64 (-2147483648),.i64 (1099511627776),.i64 (4611686018427387904),.i64 (-4611686018427387904),.i64 (9223372036854775807),.i64 (-9223372036854775808)]:List AV).getD n .any=.i64 (([-1,0,1,2147483648,-2147483648,1099511627776,4611686018427387904,-4611686018427387904,9223372036854775807,-9223372036854775808]:List Int).getD n 0):=by
  match n,hn10 with
  | 0,_=>rfl
  | 1,_=>rfl
  | 2,_=>rfl
  | 3,_=>rfl
  | 4,_=>rfl
  | 5,_=>rfl
  | 6,_=>rfl
  | 7,_=>rfl
  | 8,_=>rfl
  | 9,_=>rfl
 generalize ([-1,0,1,2147483648,-2147483648,1099511627776,4611686018427387904,-4611686018427387904,9223372036854775807,-9223372036854775808]:List Int).getD n 0=y at hg ⊢
 refine spec_of_awp (M:=MM) (np:=1) (fz:=false) mixed Tryz.func124 rfl rfl (by decide) rfl (Nat.le_refl _) (by decide +kernel) (.inl rfl) (by simp only [sigsOk_some,sigsOk_nil,and_true];rfl) ?_
 simp -dsimp -implicitDefEqProofs (disch:=first|omega|(simp only [lenr];try omega)) only [↓amPre,↓reduceIte,reduceCtorEq,reduceEqDiff,Nat.reduceBEq,reduceAdd,reduceLeDiff,reduceSub,reduceMul,reduceToNat,MM,bu0]
 refine callX_of (q1) ?_
 simp -dsimp -implicitDefEqProofs (disch:=first|omega|(simp only [lenr];try omega)) only [↓amPre,↓reduceIte,reduceCtorEq,reduceEqDiff,Nat.reduceBEq,reduceAdd,reduceLeDiff,reduceSub,reduceMul,reduceToNat,MM,bu0,hg]
end Draws
end Go.AM
namespace Go.AM
namespace Draws
open Go.Proofs
theorem opens_u8 {P:Program} {t:TypeId} (ht:P.underlying t=some (.int .u8)):Opens P t UInt8 (fun b=>[.u8 b.toNat]) (fun _=>True):=by
 intro H enc w sp held fuel cs x h
 obtain ⟨n,rfl,_,hw⟩:=DataW.trod_int ht h
 simp only [Lit.wf,Bool.and_eq_true,decide_eq_true_eq] at hw
 have e1:IntKind.u8.min=0:=by decide
 have e2:IntKind.u8.max=255:=by decide
 rw [e1,e2] at hw
 refine ⟨UInt8.ofNat n.toNat,trivial,rfl,fun j hj hk=>?_⟩
 have:j=0:=by simp at hj;omega
 subst this
 have e:((UInt8.ofNat n.toNat).toNat:Int)=n:=by rw [UInt8.toNat_ofNat'];omega
 simp only [List.getElem_cons_zero]
 rw [e]
 exact ⟨.v _,rfl⟩
theorem openByte:Opens Tryz.prog 5 UInt8 (fun b=>[AV.u8 b.toNat]) (fun _=>True):=opens_u8 Tryz.underlying5
theorem openBytes:Opens Tryz.prog 22 (List UInt8) (fun l=>[AV.sl 1 (l.map fun x=>AV.u8 x.toNat)]) (fun l=>l.length≤9223372036854775807∧∀ b∈l,True) :=
 opens_slice Tryz.underlying22 (by kernel_rfl) (by decide) (fun x:UInt8=>AV.u8 x.toNat) (fun _=>rfl) openByte
end Draws
end Go.AM
namespace Go.AM
/-! permutations,plainly -/
def isPerm (p:List Int):Prop:=(1≤p.length∧p.length≤20)∧(∀ x∈p,0≤x∧x<p.length)∧p.Nodup
instance (p:List Int):Decidable (isPerm p):=by unfold isPerm;infer_instance
theorem len_le_of_sub {α:Type} [DecidableEq α]:∀ (a b:List α),a.Nodup→(∀ x∈a,x∈b)→a.length≤b.length
 | [],_,_,_=>Nat.zero_le _
 | x :: a,b,hn,hs=>by
  have hx:=hs x (by simp)
  have h1:=len_le_of_sub a (b.erase x) (List.nodup_cons.1 hn).2 fun y hy=>(List.mem_erase_of_ne (by rintro rfl;exact (List.nodup_cons.1 hn).1 hy)).2 (hs y (by simp [hy]))
  rw [List.length_erase_of_mem hx] at h1
  have:0<b.length:=List.length_pos_of_mem hx
  simp;omega
theorem dup_of_not_nodup {α:Type} [DecidableEq α]:∀ (p:List α),¬ p.Nodup→∃ x,x∈p.erase x
 | [],h=>(h List.nodup_nil).elim
 | a :: r,h=>by
  by_cases ha:a∈r
  ·exact ⟨a,by simpa using ha⟩
  ·obtain ⟨x,hx⟩:=dup_of_not_nodup r fun q=>h (List.nodup_cons.2 ⟨ha,q⟩)
   refine ⟨x,?_⟩
   have:x≠a:=by rintro rfl;exact ha (List.mem_of_mem_erase hx)
   rw [List.erase_cons,if_neg (by simpa using fun e=>this e.symm)]
   simp [hx]
theorem nodup_iff_all (p:List Nat) (n:Nat) (hl:p.length=n) (hlt:∀ x∈p,x<n):p.Nodup↔∀ i,i<n→i∈p:=by
 constructor
 ·intro hn i hi
  apply Decidable.byContradiction
  intro hni
  have:=len_le_of_sub p ((List.range n).erase i) hn fun x hx=>(List.mem_erase_of_ne (by rintro rfl;exact hni hx)).2 (List.mem_range.2 (hlt x hx))
  rw [List.length_erase_of_mem (List.mem_range.2 hi),List.length_range] at this
  omega
 ·intro h
  apply Decidable.byContradiction
  intro hn
  obtain ⟨x,hx⟩:=dup_of_not_nodup p hn
  have hxp:=List.mem_of_mem_erase hx
  have:=len_le_of_sub (List.range n) (p.erase x) List.nodup_range fun y hy=>by
   by_cases e:y=x
   ·subst e;exact hx
   ·exact (List.mem_erase_of_ne e).2 (h y (List.mem_range.1 hy))
  rw [List.length_erase_of_mem hxp,List.length_range] at this
  have:=List.length_pos_of_mem hxp
  omega
def maskN:List Nat→Nat
 | []=>0
 | x :: r=>(2 ^ x) ||| maskN r
theorem maskN_bit (l:List Nat) (i:Nat):(maskN l).testBit i=true↔i∈l:=by
 induction l with
 | nil=>simp [maskN]
 | cons x r ih=>rw [maskN,Nat.testBit_or,Bool.or_eq_true,ih,Nat.testBit_two_pow];simp [eq_comm]
theorem maskN_snoc (l:List Nat) (x:Nat):maskN (l++[x])=maskN l ||| 2 ^ x:=by
 apply Nat.eq_of_testBit_eq;intro i
 rw [Bool.eq_iff_iff,Nat.testBit_or,Bool.or_eq_true,maskN_bit,maskN_bit,Nat.testBit_two_pow];simp [eq_comm]
theorem maskN_lt (l:List Nat) (n:Nat) (h:∀ x∈l,x<n):maskN l<2 ^ n:=by
 induction l with
 | nil=>simp [maskN];exact Nat.pow_pos (by decide)
 | cons x r ih=>exact Nat.or_lt_two_pow (Nat.pow_lt_pow_right (by decide) (h x (by simp))) (ih fun y hy=>h y (by simp [hy]))
theorem maskN_full (l:List Nat) (n:Nat) (h:∀ x∈l,x<n):maskN l=2 ^ n - 1↔∀ i,i<n→i∈l:=by
 constructor
 ·intro e i hi
  rw [← maskN_bit,e,Nat.testBit_two_pow_sub_one];simpa using hi
 ·intro q
  apply Nat.eq_of_testBit_eq;intro i
  rw [Bool.eq_iff_iff,maskN_bit,Nat.testBit_two_pow_sub_one,decide_eq_true_iff]
  exact ⟨fun hi=>h i hi,q i⟩
def mask (p:List Int):Nat:=maskN (p.map Int.toNat)
theorem mask_snoc (l:List Int) (x:Int):mask (l++[x])=mask l ||| 2 ^ x.toNat:=by simp [mask,maskN_snoc]
theorem mask_perm (p:List Int) (h:∀ x∈p,0≤x∧x<p.length):mask p=2 ^ p.length - 1↔p.Nodup:=by
 have hlt:∀ x∈p.map Int.toNat,x<p.length:=by
  intro x hx
  obtain ⟨y,hy,rfl⟩:=List.mem_map.1 hx
  have:=h y hy;omega
 rw [mask,maskN_full _ _ hlt,← nodup_iff_all _ _ (by simp) hlt,List.Nodup,List.Nodup,List.pairwise_map]
 constructor
 ·intro q;exact q.imp fun hab e=>hab (by rw [e])
 ·intro q
  refine (List.Pairwise.imp_of_mem ?_ q)
  intro a b ha hb hab e
  have:=h a ha;have:=h b hb;exact hab (by omega)
theorem mask_lt (p:List Int) (n:Nat) (h:∀ x∈p,0≤x∧x<n):mask p<2 ^ n:=by
 apply maskN_lt
 intro x hx
 obtain ⟨y,hy,rfl⟩:=List.mem_map.1 hx
 have:=h y hy;omega
theorem bits_or (a b:Nat) (ha:a<2 ^ 62) (hb:b<2 ^ 62):bitsI .or .i64 (a:Int) (b:Int)=((a ||| b:Nat):Int):=by
 have h1:a ||| b<2 ^ 62:=Nat.or_lt_two_pow ha hb
 have e1:(BitVec.ofInt 64 (a:Int)).toNat=a:=by rw [BitVec.toNat_ofInt];omega
 have e2:(BitVec.ofInt 64 (b:Int)).toNat=b:=by rw [BitVec.toNat_ofInt];omega
 show IntKind.i64.wrap ((BitVec.ofInt 64 (a:Int) ||| BitVec.ofInt 64 (b:Int)).toNat:Int)=_
 rw [BitVec.toNat_or,e1,e2]
 apply wrap64_id;omega
end Go.AM
namespace Go.AM
/-! kinds,plainly -/
structure Kind where
 c:Int
 o:Int
 deriving DecidableEq
instance:Mk Kind:={ default:=⟨0,0⟩,mrk:=fun k _=>⟨k,k+1⟩,cnt:=fun _=>2 }
structure Twist where
 to:List Int
 by':List Int
 deriving DecidableEq
instance:Mk Twist:={ default:=⟨[],[]⟩,mrk:=fun k t=>⟨runI k t.to.length,runI (k+t.to.length) t.by'.length⟩,cnt:=fun t=>t.to.length+t.by'.length }
def kOk (k:Kind):Prop:=(1≤k.c∧k.c≤20)∧(1≤k.o∧k.o≤20)
instance (k:Kind):Decidable (kOk k):=by unfold kOk;infer_instance
def facets:List Kind→Int
 | []=>0
 | k :: r=>k.c*k.o+facets r
theorem facets_append:∀ a b:List Kind,facets (a++b)=facets a+facets b
 | [],b=>by simp [facets]
 | k :: r,b=>by simp only [List.cons_append,facets,facets_append r b];omega
theorem facets_take (l:List Kind) (i:Nat) (h:i<l.length):facets (l.take (i+1))=facets (l.take i)+(l.getD i default).c*(l.getD i default).o:=by
 rw [take_succ_eq l i default h,facets_append];simp [facets]
theorem kOk_prod {k:Kind} (h:kOk k):1≤k.c*k.o∧k.c*k.o≤400∧k.c≤k.c*k.o∧k.o≤k.c*k.o:=by
 obtain ⟨⟨h1,h2⟩,h3,h4⟩:=h
 have a1:1*1≤k.c*k.o:=Int.mul_le_mul h1 h3 (by omega) (by omega)
 have a2:k.c*k.o≤20*20:=Int.mul_le_mul h2 h4 (by omega) (by omega)
 have a3:k.c*1≤k.c*k.o:=Int.mul_le_mul_of_nonneg_left h3 (by omega)
 have a4:1*k.o≤k.c*k.o:=Int.mul_le_mul_of_nonneg_right h1 (by omega)
 omega
theorem facets_bound:∀ l:List Kind,(∀ k∈l,kOk k)→(l.length:Int)≤facets l∧facets l≤400*l.length
 | [],_=>by simp [facets]
 | k :: r,h=>by
  have h1:=facets_bound r fun x hx=>h x (by simp [hx])
  have h2:=kOk_prod (h k (by simp))
  simp only [facets,List.length_cons];omega
def kindsOk (l:List Kind):Prop:=(1≤l.length∧l.length≤3)∧(∀ k∈l,kOk k)∧facets l≤20
instance (l:List Kind):Decidable (kindsOk l):=by unfold kindsOk;infer_instance
theorem facets_mono (l:List Kind) (h:∀ k∈l,kOk k) (i:Nat):facets (l.take i)≤facets l∧0≤facets (l.take i):=by
 have e:=facets_append (l.take i) (l.drop i)
 rw [List.take_append_drop] at e
 have h1:=facets_bound (l.drop i) fun x hx=>h x (List.mem_of_mem_drop hx)
 have h2:=facets_bound (l.take i) fun x hx=>h x (List.mem_of_mem_take hx)
 omega
theorem kindsOk_kind {l:List Kind} (h:kindsOk l) {k:Kind} (hk:k∈l):1≤k.c∧k.c≤20∧1≤k.o∧k.o≤20∧k.c*k.o≤20:=by
 obtain ⟨_,h2,h3⟩:=h
 have hq:=h2 k hk
 refine ⟨hq.1.1,hq.1.2,hq.2.1,hq.2.2,?_⟩
 obtain ⟨i,hi,rfl⟩:=List.getElem_of_mem hk
 have:=facets_take l i hi
 rw [getD_eq l i default hi] at this
 have:=facets_mono l h2 (i+1)
 have:=facets_mono l h2 i
 omega
/-! how many piece states there are -/
def fct:Nat→Nat
 | 0=>1
 | n+1=>(n+1)*fct n
def stK (o:Nat):Nat→Nat
 | 0=>1
 | j+1=>stK o j*((j+1)*o)
def stC:List Kind→Nat
 | []=>1
 | k :: r=>stK k.o.toNat k.c.toNat*stC r
def twOk (k:Kind) (t:Twist):Prop:=(t.to.length:Int)=k.c∧(t.by'.length:Int)=k.c∧isPerm t.to∧∀ x∈t.by',0≤x∧x<k.o
instance (k:Kind) (t:Twist):Decidable (twOk k t):=by unfold twOk;infer_instance
def psOk (ks:List Kind) (s:List Twist):Prop:=kindsOk ks∧s.length=ks.length∧∀ i,i<ks.length→twOk (ks.getD i default) (s.getD i default)
instance (ks:List Kind) (s:List Twist):Decidable (psOk ks s):=by unfold psOk;infer_instance
def Kind.av (k:Kind):AV:=.agg [.i64 k.c,.i64 k.o]
abbrev ksl (ks:List Kind):AV:=.sl 2 (ks.map Kind.av)
abbrev ktr (ks:List Kind):AV:=.tr 2 (ks.map Kind.av)
theorem kset (ks:List Kind) (i:Nat) (a b:Int):(ks.map Kind.av).set i (.agg [.i64 a,.i64 b])=(ks.set i ⟨a,b⟩).map Kind.av:=by rw [List.map_set];rfl
theorem ksnoc (ks:List Kind) (a b:Int):ks.map Kind.av++[.agg [.i64 a,.i64 b]]=(ks++[(⟨a,b⟩:Kind)]).map Kind.av:=by simp [Kind.av]
theorem pureL_map {α:Type} (f:α→AV) (h:∀ a,(f a).pure=true):∀ l:List α,AV.pureL (l.map f)=true
 | []=>rfl
 | a :: r=>by rw [List.map_cons,AV.pureL,h,pureL_map f h r];rfl
theorem ipure (l:List Int):AV.pureL (l.map AV.i64)=true:=pureL_map _ (fun _=>rfl) l
abbrev ssl (l:List (List Int)):AV:=.sl 1 (l.map isl)
abbrev sst (l:List (List Int)):AV:=.tr 1 (l.map itr)
theorem sspure (l:List (List Int)):AV.pureL (l.map itr)=true:=pureL_map _ (fun t=>by simp [itr,AV.pure,ipure]) l
theorem ssfz (l:List (List Int)):(l.map itr).map AV.fz=l.map isl:=by
 rw [List.map_map];exact List.map_congr_left fun a _=>by simp [AV.fz,fzL_map,ints_fz]
theorem kpure (l:List Kind):AV.pureL (l.map Kind.av)=true:=pureL_map _ (fun _=>rfl) l
theorem kfz (ks:List Kind):(ks.map Kind.av).map AV.fz=ks.map Kind.av:=by
 rw [List.map_map];exact List.map_congr_left fun a _=>by simp [Kind.av,fz_v,AV.fz,AV.fzL]
def Twist.sl (t:Twist):AV:=.agg [isl t.to,isl t.by']
def Twist.tr (t:Twist):AV:=.agg [itr t.to,itr t.by']
abbrev tsl (ts:List Twist):AV:=.sl 2 (ts.map Twist.sl)
abbrev ttr (ts:List Twist):AV:=.tr 2 (ts.map Twist.tr)
theorem tset (ts:List Twist) (i:Nat) (a b:List Int):(ts.map Twist.tr).set i (.agg [itr a,itr b])=(ts.set i ⟨a,b⟩).map Twist.tr:=by rw [List.map_set];rfl
theorem tsnoc (ts:List Twist) (a b:List Int):ts.map Twist.tr++[.agg [itr a,itr b]]=(ts++[(⟨a,b⟩:Twist)]).map Twist.tr:=by simp [Twist.tr]
theorem tpure (l:List Twist):AV.pureL (l.map Twist.tr)=true:=pureL_map _ (fun t=>by simp [Twist.tr,AV.pure,AV.pureL,ipure]) l
theorem tfz (ts:List Twist):(ts.map Twist.tr).map AV.fz=ts.map Twist.sl:=by
 rw [List.map_map];exact List.map_congr_left fun a _=>by simp [Twist.tr,Twist.sl,AV.fz,AV.fzL,fzL_map,ints_fz]
structure Invar where
 k:Int
 s:Int
 deriving DecidableEq
instance:Mk Invar:={ default:=⟨0,0⟩,mrk:=fun k _=>⟨k,k+1⟩,cnt:=fun _=>2 }
def Invar.av (i:Invar):AV:=.agg [.i64 i.k,.i64 i.s]
def cbP2:=(ai (ai (ai (@ipure) (ai (@kpure) (@tpure))) (ai (@sspure) (ai (@kset) (@tset)))) (ai (ai (@ksnoc) (ai (@tsnoc) (@Kind.av.eq_1))) (ai (@Twist.sl.eq_1) (ai (@Twist.tr.eq_1) (@Invar.av.eq_1)))))

end Go.AM
namespace Go.AM
/-! texts -/
theorem stsize (l:List UInt8):ByteArray.size ⟨l.toArray⟩=l.length:=rfl
theorem stget (l:List UInt8) (i:Nat) (d:UInt8):(ByteArray.mk l.toArray).data.toList.getD i d=l.getD i d:=rfl
theorem sttl (l:List UInt8):(ByteArray.mk l.toArray).toList=l:=by simp
theorem stapp (a b:List UInt8):(ByteArray.mk a.toArray)++(ByteArray.mk b.toArray)=⟨(a++b).toArray⟩:=by
 apply ByteArray.ext;simp
theorem stext (l:List UInt8) (i j:Nat):(ByteArray.mk l.toArray).extract i j=⟨((l.take j).drop i).toArray⟩:=by
 apply ByteArray.ext;simp [List.drop_take]
theorem u8lt (b:UInt8):b.toNat<256:=UInt8.toNat_lt b
theorem u8eq {a b:UInt8}:((a.toNat:Int) == (b.toNat:Int))=decide (a=b):=by
 rw [Bool.eq_iff_iff,beq_iff_eq,decide_eq_true_iff]
 exact ⟨fun h=>UInt8.toNat_inj.1 (by omega),fun h=>by rw [h]⟩
def lettersOk (l:List UInt8):Prop:=(∀ b∈l,65≤b.toNat∧b.toNat≤90)∧l.Nodup
instance (l:List UInt8):Decidable (lettersOk l):=by unfold lettersOk;infer_instance
def namesOk (l:List UInt8):Prop:=lettersOk l∧1≤l.length∧l.length≤8
instance (l:List UInt8):Decidable (namesOk l):=by unfold namesOk;infer_instance
structure Model where
 ks:List Kind
 nm:List UInt8
 mv:List (List Twist)
 deriving DecidableEq
abbrev tssl (l:List (List Twist)):AV:=.sl 1 (l.map tsl)
abbrev tsst (l:List (List Twist)):AV:=.tr 1 (l.map ttr)
theorem tsspure (l:List (List Twist)):AV.pureL (l.map ttr)=true:=pureL_map _ (fun t=>by simp [AV.pure,tpure]) l
theorem tssfz (l:List (List Twist)):(l.map ttr).map AV.fz=l.map tsl:=by
 rw [List.map_map];exact List.map_congr_left fun a _=>by show (ttr a).fz=tsl a;rw [AV.fz,fzL_map,tfz]
def Model.sl (m:Model):AV:=.agg [ksl m.ks,.st m.nm,tssl m.mv]
def Model.tr (m:Model):AV:=.agg [ktr m.ks,.st m.nm,tsst m.mv]
def modelOk (m:Model):Prop:=kindsOk m.ks∧namesOk m.nm∧m.nm.length=m.mv.length∧∀ s∈m.mv,psOk m.ks s
instance (m:Model):Decidable (modelOk m):=by unfold modelOk;infer_instance
/-! what is done with piece states,plainly -/
def solvedK (k:Kind):Twist:=⟨runI 0 k.c.toNat,List.replicate k.c.toNat 0⟩
def solvedR (ks:List Kind):List Twist:=if kindsOk ks then ks.map solvedK else []
theorem map_take_succ {α β:Type} (f:α→β) (l:List α) (i:Nat) (d:α) (h:i<l.length):(l.take (i+1)).map f=(l.take i).map f++[f (l.getD i d)]:=by
 rw [take_succ_eq l i d h,List.map_append];rfl
def compI (p q:List Int):List Int:=p.map fun x=>q.getD x.toNat 0
def scat {α:Type} (base:List α) (p:List Int) (v:Nat→α):Nat→List α
 | 0=>base
 | i+1=>(scat base p v i).set (p.getD i 0).toNat (v i)
def invI (p:List Int):List Int:=scat (List.replicate p.length 0) p (fun i=>(i:Int)) p.length
def compB (o:Int) (a b:Twist) (i:Nat):Int:=(a.by'.getD i 0+b.by'.getD (a.to.getD i 0).toNat 0).tmod o
def compT (o:Int) (a b:Twist):Twist:=⟨compI a.to b.to,(List.range a.to.length).map (compB o a b)⟩
def compS (ks:List Kind) (a b:List Twist):List Twist:=(List.range ks.length).map fun n=>compT (ks.getD n default).o (a.getD n default) (b.getD n default)
def invB (o:Int) (a:Twist) (i:Nat):Int:=(o - a.by'.getD i 0).tmod o
def invT (o:Int) (a:Twist):Twist:=⟨invI a.to,scat (List.replicate a.to.length 0) a.to (invB o a) a.to.length⟩
def invS (ks:List Kind) (a:List Twist):List Twist:=(List.range ks.length).map fun n=>invT (ks.getD n default).o (a.getD n default)
def cellL (base o to by':Int) (j:Nat):List Int:=(List.range j).map fun (i:Nat)=>base+to*o+((i:Int)+by').tmod o
theorem cellL_succ (base o to by':Int) (j:Nat):cellL base o to by' (j+1)=cellL base o to by' j++[base+to*o+((j:Int)+by').tmod o]:=by simp [cellL,List.range_succ]
theorem cellL_len (base o to by':Int) (j:Nat):(cellL base o to by' j).length=j:=by simp [cellL]
def rowL (base o:Int) (t:Twist):Nat→List Int
 | 0=>[]
 | i+1=>rowL base o t i++cellL base o (t.to.getD i 0) (t.by'.getD i 0) o.toNat
theorem rowL_len (base o:Int) (t:Twist):∀ i,(rowL base o t i).length=i*o.toNat
 | 0=>by simp [rowL]
 | i+1=>by rw [rowL,List.length_append,rowL_len base o t i,cellL_len,Nat.succ_mul]
def permL (ks:List Kind) (s:List Twist):Nat→List Int
 | 0=>[]
 | n+1=>permL ks s n++rowL (permL ks s n).length (ks.getD n default).o (s.getD n default) (ks.getD n default).c.toNat
theorem permL_len (ks:List Kind) (s:List Twist) (h:∀ k∈ks,kOk k):∀ n,n≤ks.length→((permL ks s n).length:Int)=facets (ks.take n)
 | 0,_=>by simp [permL,facets]
 | n+1,hn=>by
  have hk:=h _ (mem_getD ks n default (by omega))
  rw [permL,List.length_append,rowL_len,facets_take ks n (by omega),Int.natCast_add,permL_len ks s h n (by omega),Int.natCast_mul,Int.toNat_of_nonneg (by have:=hk.1;omega),Int.toNat_of_nonneg (by have:=hk.2;omega)]
def permOf (ks:List Kind) (s:List Twist):List Int:=permL ks s ks.length
theorem tw_get {ks:List Kind} {s:List Twist} (h:psOk ks s) {n:Nat} (hn:n<ks.length):twOk (ks.getD n default) (s.getD n default):=h.2.2 n hn
theorem twOk_facts {k:Kind} {t:Twist} (h:twOk k t) (hk:kOk k):∃ c o:Nat,k.c=c∧k.o=o∧t.to.length=c∧t.by'.length=c∧1≤c∧c≤20∧1≤o∧o≤20:=by
 obtain ⟨h1,h2,h3,h4⟩:=h
 obtain ⟨h5,h6⟩:=hk
 exact ⟨t.to.length,k.o.toNat,h1.symm,by omega,rfl,by omega,by omega,by omega,by omega,by omega⟩
theorem to_get {k:Kind} {t:Twist} (h:twOk k t) {i:Nat} (hi:i<t.to.length):0≤t.to.getD i 0∧t.to.getD i 0<t.to.length:=h.2.2.1.2.1 _ (mem_getD t.to i 0 hi)
theorem by_get {k:Kind} {t:Twist} (h:twOk k t) {i:Nat} (hi:i<t.by'.length):0≤t.by'.getD i 0∧t.by'.getD i 0<k.o:=h.2.2.2 _ (mem_getD t.by' i 0 hi)
def cbP3:=(ai (ai (ai (cbP2) (@stsize)) (ai (@stget) (@sttl))) (ai (ai (@stapp) (@stext)) (ai (@tsspure) (ai (@Model.sl.eq_1) (@Model.tr.eq_1)))))

end Go.AM
namespace Go.AM
namespace Ps
/-! texts that are split,plainly -/
abbrev Tx:=List UInt8
def spl (c:UInt8):Tx→List Tx
 | []=>[[]]
 | x :: r=>if x=c then [] :: spl c r else match spl c r with | []=>[[x]] | w :: ws=>(x :: w) :: ws
theorem spl_ne (c:UInt8):∀ s,spl c s≠[]
 | []=>by simp [spl]
 | x :: r=>by
  rw [spl]
  split
  ·simp
  ·split <;> simp
def pre (a:Tx):List Tx→List Tx
 | []=>[a]
 | w :: ws=>(a++w) :: ws
theorem pre_nil {l:List Tx} (h:l≠[]):pre [] l=l:=by cases l with | nil=>exact absurd rfl h | cons w ws=>rfl
theorem spl_cons_ne {c x:UInt8} {r:Tx} (h:x≠c):spl c (x :: r)=pre [x] (spl c r):=by
 rw [spl,if_neg h]
 cases h2:spl c r with
 | nil=>rfl
 | cons w ws=>rfl
theorem pre_pre (a b:Tx) {l:List Tx} (h:l≠[]):pre a (pre b l)=pre (a++b) l:=by
 cases l with
 | nil=>exact absurd rfl h
 | cons w ws=>simp [pre]
def spS (c:UInt8) (s:Tx):Nat→List Tx×Nat
 | 0=>([],0)
 | i+1=>if i<s.length∧s.getD i 0≠c then spS c s i else ((spS c s i).1++[(s.take i).drop (spS c s i).2],i+1)
theorem spS_le (c:UInt8) (s:Tx):∀ i,(spS c s i).2≤i∧(spS c s i).1.length≤i
 | 0=>⟨Nat.le_refl _,Nat.le_refl _⟩
 | i+1=>by
  have:=spS_le c s i
  rw [spS];split
  ·omega
  ·simp only [List.length_append,List.length_singleton];omega
theorem spS_inv (c:UInt8) (s:Tx):∀ i,i≤s.length→(spS c s i).1++pre ((s.take i).drop (spS c s i).2) (spl c (s.drop i))=spl c s
 | 0,_=>by
  show []++pre [] (spl c s)=_
  rw [pre_nil (spl_ne c s)];rfl
 | i+1,hi=>by
  have ih:=spS_inv c s i (by omega)
  have hle:=(spS_le c s i).1
  have hd:s.drop i=s.getD i 0 :: s.drop (i+1):=by
   rw [List.drop_eq_getElem_cons (by omega)]
   simp [List.getD,show i<s.length by omega]
  have ht:s.take (i+1)=s.take i++[s.getD i 0]:=by
   rw [List.take_succ_eq_append_getElem (by omega)]
   simp [List.getD,show i<s.length by omega]
  rw [spS]
  by_cases hc:s.getD i 0≠c
  ·rw [if_pos ⟨by omega,hc⟩,ht,List.drop_append_of_le_length (by rw [List.length_take];omega),← pre_pre _ _ (spl_ne c _),← spl_cons_ne hc,← hd]
   exact ih
  ·rw [if_neg (fun q=>hc q.2)]
   have hc:s.getD i 0=c:=Decidable.not_not.1 hc
   have e:(s.take (i+1)).drop (i+1)=[]:=by rw [List.drop_eq_nil_of_le];rw [List.length_take];omega
   rw [e,pre_nil (spl_ne c _),List.append_assoc]
   rw [hd,hc,spl,if_pos rfl,pre,List.append_nil] at ih
   exact ih
theorem spS_all (c:UInt8) (s:Tx):(spS c s (s.length+1)).1=spl c s:=by
 have ih:=spS_inv c s s.length (Nat.le_refl _)
 rw [spS,if_neg (fun q=>absurd q.1 (Nat.lt_irrefl _))]
 rw [List.drop_length] at ih
 simpa [spl,pre] using ih
theorem spl_len (c:UInt8) (s:Tx):(spl c s).length≤s.length+1:=by
 rw [← spS_all];exact (spS_le c s _).2
theorem spl_mem (c:UInt8):∀ (s w:Tx),w∈spl c s→w.length≤s.length
 | [],w,h=>by simp [spl] at h;simp [h]
 | x :: r,w,h=>by
  have ih:=spl_mem c r
  by_cases hx:x=c
  ·rw [spl,if_pos hx] at h
   rcases List.mem_cons.1 h with rfl | h
   ·simp
   ·have:=ih w h;simp only [List.length_cons];omega
  ·rw [spl_cons_ne hx] at h
   cases hs:spl c r with
   | nil=>exact absurd hs (spl_ne c r)
   | cons a l =>
    rw [hs,pre] at h
    rcases List.mem_cons.1 h with rfl | h
    ·have:=ih a (by rw [hs];simp)
     simp only [List.singleton_append,List.length_cons];omega
    ·have:=ih w (by rw [hs];simp [h]);simp only [List.length_cons];omega
theorem split_one (c:UInt8):∀ s:Tx,Lib.splitK [c] 0 (Lib.count s [c]) s=spl c s
 | []=>by
  have:Lib.count [] [c]=0:=by rw [Lib.count_one];rfl
  rw [this];rfl
 | x :: r=>by
  have ih:=split_one c r
  by_cases hx:x=c
  ·subst hx
   have hi:Lib.index (x :: r) [x]=0:=Lib.index_first (i:=0) (Nat.zero_le _) (by simp [Lib.occAt]) (fun _ h=>absurd h (Nat.not_lt_zero _))
   rw [Lib.count_cons_eq,Nat.add_comm,Lib.splitK,if_neg (by rw [hi];decide),hi,spl,if_pos rfl,← ih]
   rfl
  ·rw [Lib.count_cons_ne x c r hx,spl_cons_ne hx,← ih]
   cases hk:Lib.count r [c] with
   | zero=>rfl
   | succ k =>
    have hne:Lib.index r [c]≠-1:=fun q=>by rw [Lib.count_miss q] at hk;cases hk
    have hge:=Lib.index_ge r [c]
    obtain ⟨i,hi⟩:∃ i:Nat,Lib.index r [c]=i:=⟨(Lib.index r [c]).toNat,by omega⟩
    have h0:Lib.NoOcc (x :: r) [c] 1:=fun j hj=>by
     have:j=0:=by omega
     subst this
     show List.isPrefixOf [c] (x :: r)=false
     have:(c == x)=false:=by simpa using Ne.symm hx
     simp [List.isPrefixOf,this]
    have hi2:Lib.index (x :: r) [c]=((i+1:Nat):Int):=by
     rw [Lib.index_drop h0 (by simp)]
     have:(x :: r).drop 1=r:=rfl
     have hn:¬ (((i:Nat):Int) == -1)=true:=fun q=>by have:=beq_iff_eq.1 q;omega
     rw [this,hi,if_neg hn];omega
    have n1:¬ (((i:Nat):Int) == -1)=true:=fun q=>by have:=beq_iff_eq.1 q;omega
    have n2:¬ (((i+1:Nat):Int) == -1)=true:=fun q=>by have:=beq_iff_eq.1 q;omega
    rw [Lib.splitK,Lib.splitK,hi2,hi,if_neg n1,if_neg n2,Int.toNat_natCast,Int.toNat_natCast]
    rfl
/-! lines -/
def lnsOf:Tx→List (Tx×Bool)
 | []=>[]
 | x :: r=>if x=10 then ([],true) :: lnsOf r else match lnsOf r with | []=>[([x],false)] | (t,e) :: l=>(x :: t,e) :: l
def full (l:Tx×Bool):Tx:=if l.2 then l.1++[10] else l.1
theorem lns_one:∀ s:Tx,s≠[]→(10:UInt8)∉s→lnsOf s=[(s,false)]
 | [],h,_=>absurd rfl h
 | [x],_,h=>by
  rw [lnsOf,if_neg (fun q=>h (by simp [q]))];rfl
 | x :: y :: r,_,h=>by
  have ih:=lns_one (y :: r) (by simp) (fun q=>h (List.mem_cons_of_mem _ q))
  rw [lnsOf,if_neg (fun q=>h (by simp [q])),ih]
theorem lns_cut:∀ a b:Tx,(10:UInt8)∉a→lnsOf (a++10 :: b)=(a,true) :: lnsOf b
 | [],b,_=>by rw [List.nil_append,lnsOf,if_pos rfl]
 | x :: r,b,h=>by
  have ih:=lns_cut r b (fun q=>h (List.mem_cons_of_mem _ q))
  rw [List.cons_append,lnsOf,if_neg (fun q=>h (by simp [q])),ih]
theorem lns_len:∀ s,(lnsOf s).length≤s.length
 | []=>Nat.le_refl _
 | x :: r=>by
  have ih:=lns_len r
  rw [lnsOf];split
  ·simp only [List.length_cons];omega
  ·split
   ·simp
   ·rename_i h;rw [h] at ih;simp only [List.length_cons] at ih ⊢;omega
theorem lns_nil {s:Tx}:lnsOf s=[]↔s=[]:=by
 cases s with
 | nil=>simp [lnsOf]
 | cons x r =>
  rw [lnsOf]
  split
  ·simp
  ·split <;> simp
def endd (l:List (Tx×Bool)):Bool:=l.all fun x=>x.2
theorem lns_mem:∀ (s:Tx) (x:Tx×Bool),x∈lnsOf s→x.1.length+(if x.2 then 1 else 0)≤s.length∧(x.2=false→x.1≠[])
 | [],x,h=>by cases h
 | y :: r,x,h=>by
  have ih:=lns_mem r
  rw [lnsOf] at h
  split at h
  ·rcases List.mem_cons.1 h with rfl | h
   ·simp
   ·have:=ih x h;simp only [List.length_cons];exact ⟨by omega,this.2⟩
  ·cases hr:lnsOf r with
   | nil =>
    rw [hr] at h
    simp at h;subst h;simp
   | cons z l =>
    obtain ⟨t,e⟩:=z
    rw [hr] at h
    rcases List.mem_cons.1 h with rfl | h
    ·have:=ih (t,e) (by rw [hr];simp)
     dsimp only at this ⊢
     simp only [List.length_cons]
     exact ⟨by omega,fun _=>by simp⟩
    ·have:=ih x (by rw [hr];simp [h]);simp only [List.length_cons];exact ⟨by omega,this.2⟩
theorem lns_end:∀ (s:Tx) i,i+1<(lnsOf s).length→((lnsOf s).getD i ([],true)).2=true
 | [],i,h=>by simp [lnsOf] at h
 | y :: r,i,h=>by
  have ih:=lns_end r
  rw [lnsOf] at h ⊢
  split at h
  ·rename_i hy
   rw [if_pos hy]
   cases i with
   | zero=>rfl
   | succ i =>
    have:=ih i (by simpa using h)
    simpa using this
  ·rename_i hy
   rw [if_neg hy]
   cases hr:lnsOf r with
   | nil=>rw [hr] at h;simp at h
   | cons z l =>
    obtain ⟨t,e⟩:=z
    rw [hr] at h
    have h:i+1<l.length+1:=by simpa using h
    have:=ih i (by rw [hr];simpa using h)
    rw [hr] at this
    cases i with
    | zero=>simpa using this
    | succ i=>simpa using this
theorem spl_lns:∀ s:Tx,spl 10 s=(lnsOf s).map (·.1)++if endd (lnsOf s) then [[]] else []
 | []=>rfl
 | y :: r=>by
  have ih:=spl_lns r
  by_cases hy:y=10
  ·have e:endd (([],true) :: lnsOf r)=endd (lnsOf r):=rfl
   rw [spl,if_pos hy,ih,lnsOf,if_pos hy,e];rfl
  ·rw [spl_cons_ne hy,ih,lnsOf,if_neg hy]
   cases hr:lnsOf r with
   | nil=>simp [endd,pre]
   | cons z l =>
    obtain ⟨t,e⟩:=z
    have e2:endd ((y :: t,e) :: l)=endd ((t,e) :: l):=rfl
    dsimp only
    rw [e2];rfl
end Ps
end Go.AM
namespace Go.AM
namespace Ps
/-! numbers below a thousand,plainly -/
def isNum (w:Tx):Prop:=(1≤w.length∧w.length≤9)∧¬ (w.getD 0 0=48∧1<w.length)∧∀ x∈w,48≤x.toNat∧x.toNat≤57
instance (w:Tx):Decidable (isNum w):=by unfold isNum;infer_instance
def valW (w:Tx):Nat:=w.foldl (fun n x=>n*10+(x.toNat - 48)) 0
def num (w:Tx):Option Int:=if isNum w∧valW w<1000 then some (valW w:Int) else none
theorem num_itoa:∀ v:Nat,v<1000→num (Lib.itoa (v:Int))=some (v:Int):=by decide +kernel
theorem itoa_num:∀ v:Nat,v<1000→Lib.parseIntB 64 (Lib.itoa (v:Int))=.ok (v:Int):=by decide +kernel
theorem val_app (a b:Tx):valW (a++b)=b.foldl (fun n x=>n*10+(x.toNat - 48)) (valW a):=by unfold valW;rw [List.foldl_append]
theorem fold_ge:∀ (b:Tx) (n:Nat),n*10 ^ b.length≤b.foldl (fun n x=>n*10+(x.toNat - 48)) n
 | [],n=>by simp
 | x :: r,n=>by
  have ih:=fold_ge r (n*10+(x.toNat - 48))
  rw [List.foldl_cons,List.length_cons]
  refine Nat.le_trans ?_ ih
  rw [Nat.pow_succ,Nat.mul_comm (10 ^ r.length) 10,← Nat.mul_assoc]
  exact Nat.mul_le_mul_right _ (by omega)
theorem d1:∀ a:Nat,a<10→Lib.itoa ((valW [UInt8.ofNat (48+a)]:Nat):Int)=[UInt8.ofNat (48+a)]:=by decide +kernel
theorem d2:∀ a:Nat,a<10→∀ b:Nat,b<10→a≠0→Lib.itoa ((valW [UInt8.ofNat (48+a),UInt8.ofNat (48+b)]:Nat):Int)=[UInt8.ofNat (48+a),UInt8.ofNat (48+b)]:=by decide +kernel
theorem d3:∀ a:Nat,a<10→∀ b:Nat,b<10→∀ c:Nat,c<10→a≠0→Lib.itoa ((valW [UInt8.ofNat (48+a),UInt8.ofNat (48+b),UInt8.ofNat (48+c)]:Nat):Int)=[UInt8.ofNat (48+a),UInt8.ofNat (48+b),UInt8.ofNat (48+c)]:=by decide +kernel
theorem dig {x:UInt8} (h:48≤x.toNat∧x.toNat≤57):∃ a,a<10∧x=UInt8.ofNat (48+a):=⟨x.toNat - 48,by omega,by
 apply UInt8.toNat_inj.1
 rw [UInt8.toNat_ofNat']
 have:=x.toNat_lt
 omega⟩
theorem num_some {w:Tx} {v:Int} (h:num w=some v):∃ n:Nat,v=n∧n<1000∧Lib.itoa v=w:=by
 unfold num at h
 split at h
 ·rename_i c
  obtain ⟨⟨hl,h0,hd⟩,hv⟩:=c
  cases h
  refine ⟨_,rfl,hv,?_⟩
  match w,hl,h0,hd,hv with
  | [x],_,_,hd,_ =>
   obtain ⟨a,ha,rfl⟩:=dig (hd x (by simp))
   exact d1 a ha
  | [x,y],_,h0,hd,_ =>
   obtain ⟨a,ha,rfl⟩:=dig (hd x (by simp))
   obtain ⟨b,hb,rfl⟩:=dig (hd y (by simp))
   exact d2 a ha b hb (fun q=>h0 (by subst q;exact ⟨rfl,by simp⟩))
  | [x,y,z],_,h0,hd,_ =>
   obtain ⟨a,ha,rfl⟩:=dig (hd x (by simp))
   obtain ⟨b,hb,rfl⟩:=dig (hd y (by simp))
   obtain ⟨c,hc,rfl⟩:=dig (hd z (by simp))
   exact d3 a ha b hb c hc (fun q=>h0 (by subst q;exact ⟨rfl,by simp⟩))
  | x :: y :: z :: u :: r,_,h0,hd,hv =>
   exfalso
   obtain ⟨a,ha,rfl⟩:=dig (hd x (by simp))
   have ha0:a≠0:=fun q=>h0 (by subst q;exact ⟨rfl,by simp⟩)
   have hge:=fold_ge (y :: z :: u :: r) a
   have e:valW (UInt8.ofNat (48+a) :: y :: z :: u :: r)=(y :: z :: u :: r).foldl (fun n x=>n*10+(x.toNat - 48)) a:=by
    unfold valW
    rw [List.foldl_cons]
    congr 1
    rw [UInt8.toNat_ofNat']
    omega
   rw [e] at hv
   have h3:10 ^ 3≤10 ^ (y :: z :: u :: r).length:=Nat.pow_le_pow_right (by decide) (by simp)
   have h4:1*10 ^ (y :: z :: u :: r).length≤a*10 ^ (y :: z :: u :: r).length:=Nat.mul_le_mul_right _ (by omega)
   omega
 ·cases h
def rn (w:Tx):Int×Bool:=match Lib.parseIntB 64 w with | .ok v=>(v,decide (Lib.itoa v=w) && decide (-999999999≤v∧v≤999999999)) | .range=>(Lib.intSat 64 w,false) | _=>(0,false)
theorem rn_num (w:Tx) (v:Int):num w=some v↔rn w=(v,true)∧0≤v∧v≤999:=by
 constructor
 ·intro h
  obtain ⟨n,rfl,hn,rfl⟩:=num_some h
  unfold rn
  rw [itoa_num n hn]
  simp;omega
 ·rintro ⟨h,h0,h1⟩
  unfold rn at h
  split at h
  ·rename_i u hu
   injection h with h2 h3
   subst h2
   rw [Bool.and_eq_true,decide_eq_true_eq] at h3
   obtain ⟨n,rfl⟩:∃ n:Nat,u=n:=⟨u.toNat,by omega⟩
   rw [← h3.1]
   exact num_itoa n (by omega)
  ·injection h with _ h3;cases h3
  ·injection h with _ h3;cases h3
end Ps
end Go.AM
namespace Go.AM
/-! cycles,plainly -/
def itN (f:Nat→Nat):Nat→Nat→Nat
 | 0,x=>x
 | k+1,x=>f (itN f k x)
theorem itN_add (f:Nat→Nat) (a:Nat):∀ b x,itN f (a+b) x=itN f b (itN f a x)
 | 0,_=>rfl
 | b+1,x=>by rw [← Nat.add_assoc,itN,itN,itN_add f a b x]
structure PermF (n:Nat) (f:Nat→Nat):Prop where
 lt:∀ x,x<n→f x<n
 inj:∀ x y,x<n→y<n→f x=f y→x=y
section
variable {n:Nat} {f:Nat→Nat}
theorem PermF.itlt (h:PermF n f):∀ k x,x<n→itN f k x<n
 | 0,_,hx=>hx
 | k+1,x,hx=>h.lt _ (h.itlt k x hx)
theorem PermF.itinj (h:PermF n f):∀ k x y,x<n→y<n→itN f k x=itN f k y→x=y
 | 0,_,_,_,_,e=>e
 | k+1,x,y,hx,hy,e=>h.itinj k x y hx hy (h.inj _ _ (h.itlt k x hx) (h.itlt k y hy) e)
theorem pigeon (g:Nat→Nat) (hg:∀ i,i≤n→g i<n):∃ i j,i<j∧j≤n∧g i=g j:=by
 apply Classical.byContradiction
 intro hno
 have hn:((List.range (n+1)).map g).Nodup:=by
  rw [List.Nodup,List.pairwise_map]
  refine List.Pairwise.imp_of_mem ?_ (List.nodup_range (n:=n+1))
  intro a b ha hb hab e
  rw [List.mem_range] at ha hb
  rcases Nat.lt_or_gt_of_ne hab with hlt | hlt
  ·exact hno ⟨a,b,hlt,by omega,e⟩
  ·exact hno ⟨b,a,hlt,by omega,e.symm⟩
 have:=len_le_of_sub _ (List.range n) hn fun x hx=>by
  obtain ⟨i,hi,rfl⟩:=List.mem_map.1 hx
  rw [List.mem_range] at hi ⊢
  exact hg i (by omega)
 simp at this
 omega
theorem PermF.back (h:PermF n f) (x:Nat) (hx:x<n):∃ k,1≤k∧k≤n∧itN f k x=x:=by
 obtain ⟨i,j,hij,hj,e⟩:=pigeon (n:=n) (fun i=>itN f i x) (fun i _=>h.itlt i x hx)
 refine ⟨j - i,by omega,by omega,?_⟩
 have e2:j=(j - i)+i:=by omega
 rw [e2,itN_add] at e
 exact (h.itinj i _ _ hx (h.itlt _ _ hx) e).symm
def perN (n:Nat) (f:Nat→Nat) (x:Nat):Nat:=((List.range n).find? fun k=>itN f (k+1) x == x).getD 0+1
def orbN (n:Nat) (f:Nat→Nat) (x:Nat):List Nat:=(List.range (perN n f x)).map fun i=>itN f i x
def minN (n:Nat) (f:Nat→Nat) (x:Nat):Bool:=(orbN n f x).all fun y=>decide (x≤y)
def cycN (n:Nat) (f:Nat→Nat):List (List Nat):=((List.range n).filter (minN n f)).map (orbN n f)
end
def fOf (p:List Int):Nat→Nat:=fun x=>(p.getD x 0).toNat
def orbI (p:List Int) (x:Nat):List Int:=(orbN p.length (fOf p) x).map fun (y:Nat)=>(y:Int)
def minI (p:List Int) (x:Nat):Bool:=minN p.length (fOf p) x
def cycI (p:List Int):List (List Int):=((List.range p.length).filter (minI p)).map (orbI p)
def sgnI (p:List Int):Int:=if (p.length - (cycI p).length) % 2=1 then -1 else 1
instance:Thing Bool:=⟨⟩
def seenB (p:List Int) (i y:Nat):Bool:=(List.range i).any fun z=>decide (y∈orbN p.length (fOf p) z)
def seenJ (p:List Int) (i j:Nat):List Bool:=(List.range p.length).map fun y=>seenB p i y || decide (y∈(orbN p.length (fOf p) i).take j)
section
variable {p:List Int} (hp:isPerm p)
include hp
end
end Go.AM
namespace Go.AM
/-! sizes of moves -/
def sizeLL (l:List (List Twist)):Nat:=match l with | []=>0 | a :: r=>1+sizeL a+sizeLL r
end Go.AM
namespace Go.AM
/-! lists of invariants -/
abbrev vsl (l:List Invar):AV:=.sl 2 (l.map Invar.av)
abbrev vtr (l:List Invar):AV:=.tr 2 (l.map Invar.av)
theorem vset (l:List Invar) (i:Nat) (a b:Int):(l.map Invar.av).set i (.agg [.i64 a,.i64 b])=(l.set i ⟨a,b⟩).map Invar.av:=by rw [List.map_set];rfl
theorem vsnoc (l:List Invar) (a b:Int):l.map Invar.av++[.agg [.i64 a,.i64 b]]=(l++[(⟨a,b⟩:Invar)]).map Invar.av:=by simp [Invar.av]
theorem vpure (l:List Invar):AV.pureL (l.map Invar.av)=true:=pureL_map _ (fun _=>rfl) l
def twL (k:Nat):List Invar:=(List.range k).map fun (i:Nat)=>⟨1,(i:Int)⟩
def paL (k:Nat):List Invar:=(List.range k).map fun (i:Nat)=>⟨2,((i+1:Nat):Int)⟩
theorem twL_len (k:Nat):(twL k).length=k:=by simp [twL]
def cbP6:=(ai (ai (cbP3) (@vset)) (ai (@vsnoc) (@vpure)))

end Go.AM
namespace Go.AM
/-! puzzles,plainly -/
def sizeI (l:List (List Int)):Nat:=match l with | []=>0 | a :: r=>1+a.length+sizeI r
structure Puzz where
 n:Int
 nm:List UInt8
 mv:List (List Int)
 deriving DecidableEq
def Puzz.sl (p:Puzz):AV:=.agg [.i64 p.n,.st p.nm,ssl p.mv]
def Puzz.tr (p:Puzz):AV:=.agg [.i64 p.n,.st p.nm,sst p.mv]
def cbP9:=(ai (cbP6) (ai (@Puzz.sl.eq_1) (@Puzz.tr.eq_1)))

end Go.AM
namespace Go.AM
def moveOk (n:Int) (s:List Int):Prop:=(s.length:Int)=n∧isPerm s
instance (n:Int) (s:List Int):Decidable (moveOk n s):=by unfold moveOk;infer_instance
def genOk (n:Int) (mv:List (List Int)):Prop:=(1≤n∧n≤20)∧mv.length≤8∧∀ s∈mv,moveOk n s
instance (n:Int) (mv:List (List Int)):Decidable (genOk n mv):=by unfold genOk;infer_instance
def puzzOk (p:Puzz):Prop:=genOk p.n p.mv∧namesOk p.nm∧p.nm.length=p.mv.length
instance (p:Puzz):Decidable (puzzOk p):=by unfold puzzOk;infer_instance
def letOk (n:Int) (x:Int):Prop:=x≠0∧(-8≤x∧x≤8)∧x≤n∧-x≤n
instance (n x:Int):Decidable (letOk n x):=by unfold letOk;infer_instance
def wordOk (n:Int) (w:List Int):Prop:=w.length≤200∧∀ x∈w,letOk n x
instance (n:Int) (w:List Int):Decidable (wordOk n w):=by unfold wordOk;infer_instance
def nameAt (l:List UInt8) (i:Nat):Prop:=(65≤(l.getD i 0).toNat∧(l.getD i 0).toNat≤90)∧∀ y∈l.take i,y≠l.getD i 0
instance (l:List UInt8) (i:Nat):Decidable (nameAt l i):=by unfold nameAt;infer_instance
theorem letters_take (l:List UInt8) (i:Nat) (h:i<l.length):lettersOk (l.take (i+1))↔lettersOk (l.take i)∧nameAt l i:=by
 rw [take_succ_eq l i 0 h]
 unfold lettersOk nameAt
 rw [List.nodup_append]
 constructor
 ·rintro ⟨h1,h2,_,h3⟩
  exact ⟨⟨fun b hb=>h1 b (by simp [hb]),h2⟩,h1 _ (by simp),fun y hy=>h3 y hy _ (by simp)⟩
 ·rintro ⟨⟨h1,h2⟩,h3,h4⟩
  refine ⟨fun b hb=>?_,h2,by simp,fun a ha b hb=>?_⟩
  ·rcases List.mem_append.1 hb with hb | hb
   ·exact h1 b hb
   ·rw [List.mem_singleton.1 hb];exact h3
  ·rw [List.mem_singleton.1 hb];exact h4 a ha
theorem letters_mono {l:List UInt8} (h:lettersOk l) (i:Nat):lettersOk (l.take i) :=
 ⟨fun b hb=>h.1 b (List.mem_of_mem_take hb),h.2.sublist (List.take_sublist i l)⟩
theorem puzz_nm {p:Puzz} (h:puzzOk p):1≤p.mv.length∧p.mv.length≤8:=by have:=h.2.1.2;have:=h.2.2;omega
def sameI (a b:Int):Prop:=a=b∨a = -b
instance (a b:Int):Decidable (sameI a b):=by unfold sameI;infer_instance
def genI (x:Int):Int:=if x<0 then -x - 1 else x - 1
def runsK (w:List Int):Nat→List (List Int)
 | 0=>[]
 | k+1=>if 0<k∧sameI (w.getD (k - 1) 0) (w.getD k 0) then (runsK w k).set ((runsK w k).length - 1) ((runsK w k).getD ((runsK w k).length - 1) default++[w.getD k 0]) else runsK w k++[[w.getD k 0]]
def scrOk (p:Puzz) (w:List Int):Prop:=puzzOk p∧wordOk p.mv.length w∧(p.mv.length=1∨∀ i,0<i→i<w.length→¬ sameI (w.getD (i - 1) 0) (w.getD i 0))
instance (p:Puzz) (w:List Int):Decidable (scrOk p w):=by
 unfold scrOk
 have:Decidable (∀ i,0<i→i<w.length→¬ sameI (w.getD (i - 1) 0) (w.getD i 0)):=decidable_of_iff (∀ i,i<w.length→0<i→¬ sameI (w.getD (i - 1) 0) (w.getD i 0)) ⟨fun h i a b=>h i b a,fun h i a b=>h i b a⟩
 infer_instance
end Go.AM
namespace Go.AM
namespace Ps
/-! what the readers of descriptions do,plainly -/
abbrev Ln:=Tx×Bool
theorem lns_no:∀ (s:Tx) (l:Ln),l∈lnsOf s→(10:UInt8)∉l.1
 | [],l,h=>by cases h
 | x :: r,l,h=>by
  have ih:=lns_no r
  rw [lnsOf] at h
  split at h
  ·rcases List.mem_cons.1 h with rfl | h
   ·simp
   ·exact ih l h
  ·rename_i hx
   cases hr:lnsOf r with
   | nil =>
    rw [hr] at h
    rw [List.mem_singleton.1 h]
    simpa using Ne.symm hx
   | cons z q =>
    obtain ⟨t,e⟩:=z
    rw [hr] at h ih
    rcases List.mem_cons.1 h with rfl | h
    ·have:=ih (t,e) (by simp)
     simp only [List.mem_cons,not_or]
     exact ⟨Ne.symm hx,this⟩
    ·exact ih l (List.mem_cons_of_mem _ h)
def pointsT:Tx:=[112,111,105,110,116,115]
def moveT:Tx:=[109,111,118,101]
def kindT:Tx:=[107,105,110,100]
def toT:Tx:=[116,111]
def byT:Tx:=[98,121]
def lat (L:List Ln) (a:Nat):Ln:=L.getD a default
structure Rd where
 a:Nat
 t:Int
def rej (r:Rd):Rd:=if r.t = -1 then ⟨r.a,(r.a:Int) - 1⟩ else r
theorem rej_a (r:Rd):(rej r).a=r.a:=by unfold rej;split <;> rfl
theorem rej_bad {r:Rd} (h:r.t≠-1):rej r=r:=if_neg h
def lineW (l:Ln) (f:Tx) (c:Nat):Option (List Tx):=if l.2=true∧(spl 32 l.1).getD 0 []=f∧(spl 32 l.1).length=c+1 then some ((spl 32 l.1).drop 1) else none
theorem lineW_len {l:Ln} {f:Tx} {c:Nat} {ws:List Tx} (h:lineW l f c=some ws):ws.length=c∧(spl 32 l.1).getD 0 []=f:=by
 unfold lineW at h
 split at h
 ·rename_i q
  cases h
  exact ⟨by rw [List.length_drop];omega,q.2.1⟩
 ·cases h
def numsW:List Tx→Option (List Int)
 | []=>some []
 | w :: r=>match num w,numsW r with | some v,some l=>some (v :: l) | _,_=>none
def inNum (x:Int):Prop:=0≤x∧x≤999
theorem num_in {w:Tx} {v:Int} (h:num w=some v):inNum v:=by
 obtain ⟨n,rfl,hn,_⟩:=num_some h
 unfold inNum;omega
theorem numsW_some:∀ {ws:List Tx} {l:List Int},numsW ws=some l→l.length=ws.length∧(∀ x∈l,inNum x)∧l.map Lib.itoa=ws
 | [],l,h=>by cases h;simp
 | w :: r,l,h=>by
  rw [numsW] at h
  split at h
  ·rename_i v l' h1 h2
   cases h
   have ih:=numsW_some h2
   obtain ⟨n,rfl,hn,hw⟩:=num_some h1
   refine ⟨by simp [ih.1],fun x hx=>?_,by simp [ih.2.2,hw]⟩
   rcases List.mem_cons.1 hx with rfl | hx
   ·exact num_in h1
   ·exact ih.2.1 x hx
  ·cases h
theorem numsW_all:∀ {ws:List Tx} {l:List Int},l.length=ws.length→(∀ i,i<ws.length→num (ws.getD i [])=some (l.getD i 0))→numsW ws=some l
 | [],l,hl,_=>by
  have:l=[]:=List.eq_nil_of_length_eq_zero hl
  subst this;rfl
 | w :: r,[],hl,_=>by simp at hl
 | w :: r,v :: l,hl,h=>by
  have h0:num w=some v:=h 0 (by simp)
  have ih:=numsW_all (ws:=r) (l:=l) (by simpa using hl) (fun i hi=>by
   have:=h (i+1) (by simpa using hi)
   simpa using this)
  rw [numsW,h0,ih]
def lineI (l:Ln) (f:Tx) (c:Nat):Option (List Int):=match lineW l f c with | some ws=>numsW ws | none=>none
theorem lineI_some {l:Ln} {f:Tx} {c:Nat} {x:List Int} (h:lineI l f c=some x):x.length=c∧(∀ y∈x,inNum y)∧(spl 32 l.1).getD 0 []=f:=by
 unfold lineI at h
 split at h
 ·rename_i ws hw
  have h1:=lineW_len hw
  have h2:=numsW_some h
  exact ⟨by rw [h2.1,h1.1],h2.2.1,h1.2⟩
 ·cases h
def wordsS (L:List Ln) (f:Tx) (c:Nat) (r:Rd):Rd×List Tx :=
 if r.t = -1 then
  if L.length≤r.a then (⟨r.a,-3⟩,List.replicate c [])
  else match lineW (lat L r.a) f c with
   | some ws=>(⟨r.a+1,-1⟩,ws)
   | none=>(⟨r.a+1,r.a⟩,List.replicate c [])
 else (r,List.replicate c [])
theorem wordsS_len (L:List Ln) (f:Tx) (c:Nat) (r:Rd):(wordsS L f c r).2.length=c:=by
 unfold wordsS
 split
 ·split
  ·simp
  ·split
   ·rename_i h;exact (lineW_len h).1
   ·simp
 ·simp
theorem wordsS_a {L:List Ln} {f:Tx} {c:Nat} {r:Rd} (h:r.a≤L.length):(wordsS L f c r).1.a≤L.length:=by
 unfold wordsS
 split
 ·split
  ·exact h
  ·split <;> (show r.a+1≤_;omega)
 ·exact h
theorem wordsS_bad {L:List Ln} {f:Tx} {c:Nat} {r:Rd} (h:r.t≠-1):wordsS L f c r=(r,List.replicate c []):=if_neg h
def numbersS (ws:List Tx) (r:Rd):Rd×List Int:=match numsW ws with | some l=>(r,l) | none=>(rej r,List.replicate ws.length 0)
theorem numbersS_len (ws:List Tx) (r:Rd):(numbersS ws r).2.length=ws.length∧∀ x∈(numbersS ws r).2,inNum x:=by
 unfold numbersS
 split
 ·rename_i h;exact ⟨(numsW_some h).1,(numsW_some h).2.1⟩
 ·refine ⟨by simp,fun x hx=>?_⟩
  rw [(List.mem_replicate.1 hx).2];unfold inNum;omega
theorem numbersS_a (ws:List Tx) (r:Rd):(numbersS ws r).1.a=r.a:=by
 unfold numbersS
 split
 ·rfl
 ·exact rej_a r
theorem numbersS_bad (ws:List Tx) {r:Rd} (h:r.t≠-1):(numbersS ws r).1=r:=by
 unfold numbersS
 split
 ·rfl
 ·exact rej_bad h
def lnS (L:List Ln) (f:Tx) (c:Nat) (r:Rd):Rd×List Int:=numbersS (wordsS L f c r).2 (wordsS L f c r).1
def ln (L:List Ln) (f:Tx) (c:Nat) (a:Nat):Except Int (List Int):=if L.length≤a then .error (-3) else match lineI (lat L a) f c with | some l=>.ok l | none=>.error a
theorem ln_ok {L:List Ln} {f:Tx} {c a:Nat} {l:List Int} (h:ln L f c a=.ok l):a<L.length∧lineI (lat L a) f c=some l:=by
 unfold ln at h
 split at h
 ·cases h
 ·rename_i q
  split at h
  ·rename_i h1;cases h;exact ⟨by omega,h1⟩
  ·cases h
theorem ln_err {L:List Ln} {f:Tx} {c a:Nat} {e:Int} (h:ln L f c a=.error e):e≠-1:=by
 unfold ln at h
 split at h
 ·cases h;decide
 ·split at h
  ·cases h
  ·cases h;omega
theorem lnS_len (L:List Ln) (f:Tx) (c:Nat) (r:Rd):(lnS L f c r).2.length=c∧∀ x∈(lnS L f c r).2,inNum x:=by
 have:=numbersS_len (wordsS L f c r).2 (wordsS L f c r).1
 rw [wordsS_len] at this
 exact this
theorem lnS_a {L:List Ln} {f:Tx} {c:Nat} {r:Rd} (h:r.a≤L.length):(lnS L f c r).1.a≤L.length:=by
 unfold lnS
 rw [numbersS_a];exact wordsS_a h
theorem lnS_bad {L:List Ln} {f:Tx} {c:Nat} {r:Rd} (h:r.t≠-1):(lnS L f c r).1=r:=by
 unfold lnS
 rw [wordsS_bad h];exact numbersS_bad _ h
theorem lnS_ok {L:List Ln} {f:Tx} {c:Nat} {r:Rd} {l:List Int} (h:r.t = -1) (hl:ln L f c r.a=.ok l):lnS L f c r=(⟨r.a+1,-1⟩,l):=by
 obtain ⟨h1,h2⟩:=ln_ok hl
 unfold lineI at h2
 unfold lnS wordsS
 rw [if_pos h,if_neg (by omega)]
 split at h2
 ·rename_i ws hw
  dsimp only
  unfold numbersS
  rw [h2]
 ·cases h2
theorem lnS_err {L:List Ln} {f:Tx} {c:Nat} {r:Rd} {e:Int} (h:r.t = -1) (hl:ln L f c r.a=.error e):(lnS L f c r).1.t=e:=by
 unfold ln at hl
 unfold lnS wordsS
 rw [if_pos h]
 split at hl
 ·cases hl
  rename_i q
  rw [if_pos q]
  rw [numbersS_bad _ (by simp)]
 ·rename_i q
  rw [if_neg q]
  unfold lineI at hl
  cases hw:lineW (lat L r.a) f c with
  | none =>
   rw [hw] at hl
   cases hl
   show (numbersS _ _).1.t=_
   rw [numbersS_bad _ (by show (r.a:Int)≠-1;omega)]
  | some ws =>
   rw [hw] at hl
   dsimp only at hl ⊢
   cases hn:numsW ws with
   | some l=>rw [hn] at hl;cases hl
   | none =>
    rw [hn] at hl
    cases hl
    unfold numbersS
    rw [hn]
    show (rej ⟨r.a+1,-1⟩).t=_
    unfold rej
    rw [if_pos rfl]
    show ((r.a+1:Nat):Int) - 1=_
    omega
/-! kinds -/
def kline (l:Ln):Option Kind:=match lineI l kindT 2 with | some x=>some ⟨x.getD 0 0,x.getD 1 0⟩ | none=>none
def kpre:List Ln→List Kind
 | []=>[]
 | l :: r=>match kline l with | some k=>k :: kpre r | none=>[]
theorem kpre_le:∀ L,(kpre L).length≤L.length
 | []=>Nat.le_refl _
 | l :: r=>by
  have:=kpre_le r
  rw [kpre]
  split <;> simp only [List.length_cons,List.length_nil] <;> omega
theorem kpre_get:∀ (L:List Ln) i,i<(kpre L).length→kline (lat L i)=some ((kpre L).getD i default)
 | [],i,h=>by simp [kpre] at h
 | l :: r,i,h=>by
  rw [kpre] at h ⊢
  split at h
  ·rename_i k hk
   cases i with
   | zero=>exact hk
   | succ i=>exact kpre_get r i (by simpa using h)
  ·simp at h
theorem kpre_end:∀ (L:List Ln),(kpre L).length<L.length→kline (lat L (kpre L).length)=none
 | [],h=>by simp at h
 | l :: r,h=>by
  rw [kpre] at h ⊢
  split at h
  ·rename_i k hk
   exact kpre_end r (by simpa using h)
  ·rename_i hk
   exact hk
theorem kline_some {l:Ln} {k:Kind} (h:kline l=some k):(spl 32 l.1).getD 0 []=kindT∧inNum k.c∧inNum k.o:=by
 unfold kline at h
 split at h
 ·rename_i x hx
  obtain ⟨h1,h2,h3⟩:=lineI_some hx
  cases h
  exact ⟨h3,h2 _ (mem_getD x 0 0 (by omega)),h2 _ (mem_getD x 1 0 (by omega))⟩
 ·cases h
def firstS (L:List Ln) (r:Rd):Tx:=if r.t = -1∧r.a<L.length then (spl 32 (lat L r.a).1).getD 0 [] else []
def kdS (L:List Ln) (r0:Rd):Nat→Rd×List Kind
  | 0=>(r0,[])
  | k + 1=>(if 3<k+1 then rej (lnS L kindT 2 (kdS L r0 k).1).1 else (lnS L kindT 2 (kdS L r0 k).1).1,
      (kdS L r0 k).2++[(⟨(lnS L kindT 2 (kdS L r0 k).1).2.getD 0 0,(lnS L kindT 2 (kdS L r0 k).1).2.getD 1 0⟩:Kind)])
theorem kdS_len (L:List Ln) (r0:Rd):∀ k,(kdS L r0 k).2.length=k
 | 0=>rfl
 | k+1=>by rw [kdS,List.length_append,kdS_len L r0 k];rfl
theorem kdS_a {L:List Ln} {r0:Rd} (h:r0.a≤L.length):∀ k,(kdS L r0 k).1.a≤L.length
 | 0=>h
 | k+1=>by
  have:=lnS_a (f:=kindT) (c:=2) (kdS_a h k)
  rw [kdS]
  dsimp only
  split
  ·rw [rej_a];exact this
  ·exact this
theorem kdS_in (L:List Ln) (r0:Rd):∀ k,∀ x∈(kdS L r0 k).2,inNum x.c∧inNum x.o
 | 0,x,h=>by cases h
 | k+1,x,h=>by
  rw [kdS] at h
  have q:=lnS_len L kindT 2 (kdS L r0 k).1
  rcases List.mem_append.1 h with h | h
  ·exact kdS_in L r0 k x h
  ·rw [List.mem_singleton.1 h]
   exact ⟨q.2 _ (mem_getD _ 0 0 (by omega)),q.2 _ (mem_getD _ 1 0 (by omega))⟩
def kdN (L:List Ln) (r0:Rd):Nat:=if firstS L (kdS L r0 1).1≠kindT then 1 else if firstS L (kdS L r0 2).1≠kindT then 2 else if firstS L (kdS L r0 3).1≠kindT then 3 else 4
theorem kdS_four (L:List Ln) (r0:Rd):firstS L (kdS L r0 4).1≠kindT:=by
 have:(kdS L r0 4).1=rej (lnS L kindT 2 (kdS L r0 3).1).1:=by rw [kdS];rfl
 rw [this]
 unfold firstS
 rw [if_neg]
 ·decide
 ·rintro ⟨h,_⟩
  unfold rej at h
  split at h
  ·rename_i q
   have h:((lnS L kindT 2 (kdS L r0 3).1).1.a:Int) - 1 = -1:=h
   have hbad:(lnS L kindT 2 (kdS L r0 3).1).1.t≠-1∨1≤(lnS L kindT 2 (kdS L r0 3).1).1.a:=by
    by_cases e:(kdS L r0 3).1.t = -1
    ·cases hl:ln L kindT 2 (kdS L r0 3).1.a with
     | ok l=>rw [lnS_ok e hl];right;show 1≤(kdS L r0 3).1.a+1;omega
     | error x=>rw [lnS_err e hl];left;exact ln_err hl
    ·left;rw [lnS_bad e];exact e
   rcases hbad with hb | hb
   ·exact hb q
   ·omega
  ·rename_i q;exact q h
theorem kdN_ok (L:List Ln) (r0:Rd):1≤kdN L r0∧kdN L r0≤4∧firstS L (kdS L r0 (kdN L r0)).1≠kindT∧∀ j,1≤j→j<kdN L r0→firstS L (kdS L r0 j).1=kindT:=by
 unfold kdN
 split
 ·rename_i h;exact ⟨by omega,by omega,h,fun j h1 h2=>by omega⟩
 ·rename_i h1
  have h1:=Decidable.not_not.1 h1
  split
  ·rename_i h;exact ⟨by omega,by omega,h,fun j q1 q2=>by rw [show j=1 by omega];exact h1⟩
  ·rename_i h2
   have h2:=Decidable.not_not.1 h2
   split
   ·rename_i h
    refine ⟨by omega,by omega,h,fun j q1 q2=>?_⟩
    rcases (by omega:j=1∨j=2) with rfl | rfl
    ·exact h1
    ·exact h2
   ·rename_i h3
    have h3:=Decidable.not_not.1 h3
    refine ⟨by omega,by omega,kdS_four L r0,fun j q1 q2=>?_⟩
    rcases (by omega:j=1∨j=2∨j=3) with rfl | rfl | rfl
    ·exact h1
    ·exact h2
    ·exact h3
def kindsS (L:List Ln) (r0:Rd):Rd×List Kind:=(if kindsOk (kdS L r0 (kdN L r0)).2 then (kdS L r0 (kdN L r0)).1 else rej (kdS L r0 (kdN L r0)).1,(kdS L r0 (kdN L r0)).2)
def kdR (L:List Ln):Except Int (List Kind) :=
 if 4≤(kpre L).length then .error 3
 else if (kpre L).length<L.length∧(spl 32 (lat L (kpre L).length).1).getD 0 []=kindT then .error (kpre L).length
 else if (kpre L).length=0 then .error 0
 else if kindsOk (kpre L) then .ok (kpre L) else .error (((kpre L).length:Int) - 1)
theorem kd_bad {L:List Ln} {r0:Rd} (h:r0.t≠-1):∀ k,(kdS L r0 k).1=r0
 | 0=>rfl
 | k+1=>by
  have ih:=kd_bad (L:=L) h k
  rw [kdS];dsimp only
  rw [ih,lnS_bad h,rej_bad h]
  split <;> rfl
theorem kindsS_bad {L:List Ln} {r0:Rd} (h:r0.t≠-1):(kindsS L r0).1=r0:=by
 unfold kindsS;dsimp only
 rw [kd_bad h,rej_bad h]
 split <;> rfl
theorem kline_ln {L:List Ln} {a:Nat} {k:Kind} (ha:a<L.length) (h:kline (lat L a)=some k):∃ x,ln L kindT 2 a=.ok x∧k=⟨x.getD 0 0,x.getD 1 0⟩:=by
 unfold kline at h
 split at h
 ·rename_i x hx
  cases h
  exact ⟨x,by unfold ln;rw [if_neg (by omega),hx],rfl⟩
 ·cases h
theorem kline_err {L:List Ln} {a:Nat} (ha:a<L.length) (h:kline (lat L a)=none):ln L kindT 2 a=.error a:=by
 unfold kline at h
 split at h
 ·cases h
 ·rename_i hx
  unfold ln;rw [if_neg (by omega),hx]
theorem kd_pre (L:List Ln):∀ k,k≤(kpre L).length→k≤3→kdS L ⟨0,-1⟩ k=(⟨k,-1⟩,(kpre L).take k)
 | 0,_,_=>rfl
 | k+1,h1,h2=>by
  have ih:=kd_pre L k (by omega) (by omega)
  have hl:=kpre_le L
  obtain ⟨x,hx,hk⟩:=kline_ln (by omega) (kpre_get L k (by omega))
  rw [kdS,ih,if_neg (by omega),lnS_ok rfl hx,take_succ_eq _ k default (by omega),hk]
theorem first_pre (L:List Ln) (k:Nat) (h1:k<(kpre L).length) (h2:k≤3):firstS L (kdS L ⟨0,-1⟩ k).1=kindT:=by
 rw [kd_pre L k (by omega) h2]
 have hl:=kpre_le L
 unfold firstS
 rw [if_pos ⟨rfl,by show k<_;omega⟩]
 exact (kline_some (kpre_get L k h1)).1
theorem kdN_at (L:List Ln) (r0:Rd) (m:Nat) (h1:1≤m) (h2:firstS L (kdS L r0 m).1≠kindT) (h3:∀ j,1≤j→j<m→firstS L (kdS L r0 j).1=kindT):kdN L r0=m:=by
 obtain ⟨a1,a2,a3,a4⟩:=kdN_ok L r0
 rcases Nat.lt_trichotomy (kdN L r0) m with h | h | h
 ·exact absurd (h3 _ a1 h) a3
 ·exact h
 ·exact absurd (a4 m h1 h) h2
theorem first_bad {L:List Ln} {r:Rd} (h:r.t≠-1):firstS L r≠kindT:=by
 unfold firstS
 rw [if_neg (fun q=>h q.1)];decide
theorem kindsS_good (L:List Ln):match (if L=[] then .error (-3) else kdR L:Except Int (List Kind)) with
  | .ok ks=>kindsS L ⟨0,-1⟩=(⟨ks.length,-1⟩,ks)
  | .error e=>(kindsS L ⟨0,-1⟩).1.t=e∧e≠-1:=by
 have hl:=kpre_le L
 -- one round from the k-th on
 have step:∀ k,k=(kpre L).length→k≤3→k<L.length→(kdS L ⟨0,-1⟩ (k+1)).1.t=k:=fun k hk h3 hlt=>by
  have e:=kd_pre L k (by omega) h3
  have hn:kline (lat L k)=none:=by rw [hk];exact kpre_end L (by omega)
  have hr:=kline_err hlt hn
  rw [kdS,e]
  have h1:(lnS L kindT 2 (⟨k,-1⟩:Rd)).1.t=k:=lnS_err rfl hr
  have h2:(lnS L kindT 2 (⟨k,-1⟩:Rd)).1.t≠-1:=by rw [h1];omega
  dsimp only
  rw [rej_bad h2]
  split <;> exact h1
 have fin:∀ m (e:Int),kdN L ⟨0,-1⟩=m→(kdS L ⟨0,-1⟩ m).1.t=e→e≠-1→(kindsS L ⟨0,-1⟩).1.t=e:=fun m e hm he hne=>by
  unfold kindsS;dsimp only
  rw [hm]
  split
  ·exact he
  ·rw [rej_bad (by rw [he];exact hne)];exact he
 by_cases h0:L=[]
 ·subst h0
  rw [if_pos rfl]
  have e1:(kdS [] ⟨0,-1⟩ 1).1.t = -3:=by
   have:ln [] kindT 2 0=.error (-3):=rfl
   have h1:(lnS [] kindT 2 (⟨0,-1⟩:Rd)).1.t = -3:=lnS_err rfl this
   rw [kdS];exact h1
  refine ⟨fin 1 (-3) (kdN_at _ _ 1 (by omega) (first_bad (by rw [e1];decide)) (fun j q1 q2=>by omega)) e1 (by decide),by decide⟩
 rw [if_neg h0]
 have hpos:0<L.length:=List.length_pos_iff.2 h0
 unfold kdR
 by_cases h4:4≤(kpre L).length
 ·rw [if_pos h4]
  have hN:kdN L ⟨0,-1⟩=4:=kdN_at _ _ 4 (by omega) (kdS_four L _) fun j q1 q2=>first_pre L j (by omega) (by omega)
  have e:(kdS L ⟨0,-1⟩ 4).1.t=3:=by
   obtain ⟨x,hx,_⟩:=kline_ln (by omega) (kpre_get L 3 (by omega))
   rw [kdS,kd_pre L 3 (by omega) (by omega),if_pos (by omega),lnS_ok rfl hx];rfl
  exact ⟨fin 4 3 hN e (by decide),by decide⟩
 rw [if_neg h4]
 by_cases hf:(kpre L).length<L.length∧(spl 32 (lat L (kpre L).length).1).getD 0 []=kindT
 ·rw [if_pos hf]
  have e:=step _ rfl (by omega) hf.1
  have hN:kdN L ⟨0,-1⟩=(kpre L).length+1:=kdN_at _ _ _ (by omega) (first_bad (by rw [e];omega)) fun j q1 q2=>by
   by_cases hj:j<(kpre L).length
   ·exact first_pre L j hj (by omega)
   ·have:j=(kpre L).length:=by omega
    subst this
    rw [kd_pre L _ (Nat.le_refl _) (by omega)]
    unfold firstS
    rw [if_pos ⟨rfl,hf.1⟩];exact hf.2
  exact ⟨fin _ _ hN e (by omega),by omega⟩
 rw [if_neg hf]
 by_cases hz:(kpre L).length=0
 ·rw [if_pos hz]
  have e:=step 0 hz.symm (by omega) hpos
  have hN:kdN L ⟨0,-1⟩=1:=kdN_at _ _ 1 (by omega) (first_bad (by rw [e];decide)) fun j q1 q2=>by omega
  exact ⟨fin 1 0 hN e (by decide),by decide⟩
 rw [if_neg hz]
 have e:=kd_pre L (kpre L).length (Nat.le_refl _) (by omega)
 rw [List.take_length] at e
 have hN:kdN L ⟨0,-1⟩=(kpre L).length:=kdN_at _ _ _ (by omega) (by
  rw [e]
  unfold firstS
  by_cases q:(kpre L).length<L.length
  ·rw [if_pos ⟨rfl,q⟩];exact fun q2=>hf ⟨q,q2⟩
  ·rw [if_neg (fun q2=>q q2.2)];decide) fun j q1 q2=>first_pre L j q2 (by omega)
 by_cases hk:kindsOk (kpre L)
 ·rw [if_pos hk]
  show kindsS L ⟨0,-1⟩=_
  unfold kindsS
  rw [hN,e,if_pos hk]
 ·rw [if_neg hk]
  refine ⟨?_,by omega⟩
  unfold kindsS;dsimp only
  rw [hN,e,if_neg hk]
  rfl
theorem kdR_ok {L:List Ln} {ks:List Kind} (h:kdR L=.ok ks):kindsOk ks∧ks=kpre L:=by
 unfold kdR at h
 split at h
 ·cases h
 ·split at h
  ·cases h
  ·split at h
   ·cases h
   ·split at h
    ·rename_i q;cases h;exact ⟨q,rfl⟩
    ·cases h
end Ps
end Go.AM
namespace Go.AM
namespace Ps
/-! the lines of a piece state -/
def cOf (ks:List Kind) (k:Nat):Nat:=(ks.getD k default).c.toNat
def hl (L:List Ln) (ks:List Kind) (a j:Nat):Except Int (List Int):=ln L (if j % 2=0 then toT else byT) (cOf ks (j / 2)) (a+j)
def hlsF (L:List Ln) (ks:List Kind) (a:Nat):Nat→Nat→List (List Int)
 | 0,_=>[]
 | f+1,j=>match hl L ks a j with | .ok l=>l :: hlsF L ks a f (j+1) | .error _=>[]
theorem hlsF_le (L:List Ln) (ks:List Kind) (a:Nat):∀ f j,(hlsF L ks a f j).length≤f
 | 0,_=>Nat.le_refl _
 | f+1,j=>by
  have:=hlsF_le L ks a f (j+1)
  rw [hlsF];split <;> simp only [List.length_cons,List.length_nil] <;> omega
theorem hlsF_get (L:List Ln) (ks:List Kind) (a:Nat):∀ f j i,i<(hlsF L ks a f j).length→hl L ks a (j+i)=.ok ((hlsF L ks a f j).getD i [])
 | 0,j,i,h=>by simp [hlsF] at h
 | f+1,j,i,h=>by
  rw [hlsF] at h ⊢
  split at h
  ·rename_i l hx
   cases i with
   | zero=>exact hx
   | succ i =>
    have:=hlsF_get L ks a f (j+1) i (by simpa using h)
    rw [show j+(i+1)=j+1+i by omega]
    exact this
  ·simp at h
theorem hlsF_end (L:List Ln) (ks:List Kind) (a:Nat):∀ f j,(hlsF L ks a f j).length<f→∃ e,hl L ks a (j+(hlsF L ks a f j).length)=.error e
 | 0,j,h=>by simp at h
 | f+1,j,h=>by
  rw [hlsF] at h ⊢
  split at h
  ·rename_i l hx
   obtain ⟨e,he⟩:=hlsF_end L ks a f (j+1) (by simpa using h)
   refine ⟨e,?_⟩
   rw [List.length_cons,show j+((hlsF L ks a f (j+1)).length+1)=j+1+(hlsF L ks a f (j+1)).length by omega]
   exact he
  ·rename_i e hx
   exact ⟨e,hx⟩
def hls (L:List Ln) (ks:List Kind) (a:Nat):List (List Int):=hlsF L ks a (2*ks.length) 0
theorem hls_le (L:List Ln) (ks:List Kind) (a:Nat):(hls L ks a).length≤2*ks.length:=hlsF_le _ _ _ _ _
theorem hls_get (L:List Ln) (ks:List Kind) (a i:Nat) (h:i<(hls L ks a).length):hl L ks a i=.ok ((hls L ks a).getD i []):=by
 have:=hlsF_get L ks a (2*ks.length) 0 i h
 rw [Nat.zero_add] at this
 exact this
theorem hls_end (L:List Ln) (ks:List Kind) (a:Nat) (h:(hls L ks a).length<2*ks.length):∃ e,hl L ks a (hls L ks a).length=.error e:=by
 have:=hlsF_end L ks a (2*ks.length) 0 h
 rw [Nat.zero_add] at this
 exact this
def pr:List (List Int)→List Twist
 | []=>[]
 | [x]=>[⟨x,[]⟩]
 | x :: y :: r=>⟨x,y⟩ :: pr r
theorem pr_two (x y:List Int):∀ (m:Nat) (l:List (List Int)),l.length=2*m→pr (l++[x,y])=pr l++[⟨x,y⟩]
 | 0,l,h=>by
  have:l=[]:=List.eq_nil_of_length_eq_zero (by omega)
  subst this;rfl
 | m+1,a :: b :: r,h=>by
  have ih:=pr_two x y m r (by simp only [List.length_cons] at h;omega)
  show (⟨a,b⟩:Twist) :: pr (r++[x,y])=_
  rw [ih];rfl
 | m+1,[a],h=>by simp at h;omega
 | m+1,[],h=>by simp at h
theorem pr_len:∀ (m:Nat) (l:List (List Int)),l.length=2*m→(pr l).length=m
 | 0,l,h=>by
  have:l=[]:=List.eq_nil_of_length_eq_zero (by omega)
  subst this;rfl
 | m+1,a :: b :: r,h=>by
  have ih:=pr_len m r (by simp only [List.length_cons] at h;omega)
  show (pr r).length+1=_
  omega
 | m+1,[a],h=>by simp at h;omega
 | m+1,[],h=>by simp at h
theorem pr_get:∀ (l:List (List Int)) (i:Nat),2*i+1<l.length→(pr l).getD i default=⟨l.getD (2*i) [],l.getD (2*i+1) []⟩
 | x :: y :: r,0,_=>rfl
 | x :: y :: r,i+1,h=>by
  have ih:=pr_get r i (by simp only [List.length_cons] at h;omega)
  show (pr r).getD i default=_
  rw [ih,show 2*(i+1)=2*i+1+1 by omega]
  rfl
 | [x],i,h=>by simp at h
 | [],i,h=>by simp at h
def twR (L:List Ln) (ks:List Kind) (a:Nat):Except Int (List Twist) :=
 if (hls L ks a).length=2*ks.length then .ok (pr (hls L ks a)) else match hl L ks a (hls L ks a).length with | .error e=>.error e | .ok _=>.error 0
theorem twR_err {L:List Ln} {ks:List Kind} {a:Nat} (h:(hls L ks a).length≠2*ks.length):∃ e,hl L ks a (hls L ks a).length=.error e∧twR L ks a=.error e∧e≠-1:=by
 obtain ⟨e,he⟩:=hls_end L ks a (by have:=hls_le L ks a;omega)
 refine ⟨e,he,?_,ln_err he⟩
 unfold twR
 rw [if_neg h,he]
def twS (L:List Ln) (ks:List Kind) (r:Rd):Nat→Rd×List Twist
  | 0=>(r,[])
  | k + 1=>((lnS L byT (cOf ks k) (lnS L toT (cOf ks k) (twS L ks r k).1).1).1,
      (twS L ks r k).2++[(⟨(lnS L toT (cOf ks k) (twS L ks r k).1).2,(lnS L byT (cOf ks k) (lnS L toT (cOf ks k) (twS L ks r k).1).1).2⟩:Twist)])
theorem twS_len (L:List Ln) (ks:List Kind) (r:Rd):∀ k,(twS L ks r k).2.length=k
 | 0=>rfl
 | k+1=>by rw [twS,List.length_append,twS_len L ks r k];rfl
theorem twS_a {L:List Ln} {ks:List Kind} {r:Rd} (h:r.a≤L.length):∀ k,(twS L ks r k).1.a≤L.length
 | 0=>h
 | k+1=>lnS_a (lnS_a (twS_a h k))
theorem twS_bad {L:List Ln} {ks:List Kind} {r:Rd} (h:r.t≠-1):∀ k,(twS L ks r k).1=r
 | 0=>rfl
 | k+1=>by
  have ih:=twS_bad (L:=L) (ks:=ks) h k
  rw [twS];dsimp only
  rw [ih,lnS_bad h,lnS_bad h]
def numT (t:Twist) (c:Nat):Prop:=(t.to.length=c∧∀ x∈t.to,inNum x)∧t.by'.length=c∧∀ x∈t.by',inNum x
theorem twS_num (L:List Ln) (ks:List Kind) (r:Rd):∀ k i,i<k→numT ((twS L ks r k).2.getD i default) (cOf ks i)
 | k+1,i,h=>by
  rw [twS];dsimp only
  rcases Nat.lt_or_ge i k with q | q
  ·have:=twS_num L ks r k i q
   have e:((twS L ks r k).2++[(⟨(lnS L toT (cOf ks k) (twS L ks r k).1).2,(lnS L byT (cOf ks k) (lnS L toT (cOf ks k) (twS L ks r k).1).1).2⟩:Twist)]).getD i default=(twS L ks r k).2.getD i default:=by
    rw [List.getD_eq_getElem?_getD,List.getElem?_append_left (by rw [twS_len];exact q),← List.getD_eq_getElem?_getD]
   rw [e];exact this
  ·have hi:i=k:=by omega
   subst hi
   have e:((twS L ks r i).2++[(⟨(lnS L toT (cOf ks i) (twS L ks r i).1).2,(lnS L byT (cOf ks i) (lnS L toT (cOf ks i) (twS L ks r i).1).1).2⟩:Twist)]).getD i default=⟨(lnS L toT (cOf ks i) (twS L ks r i).1).2,(lnS L byT (cOf ks i) (lnS L toT (cOf ks i) (twS L ks r i).1).1).2⟩:=by
    rw [List.getD_eq_getElem?_getD,List.getElem?_append_right (by rw [twS_len];omega),twS_len,Nat.sub_self];rfl
   rw [e]
   have h1:=lnS_len L toT (cOf ks i) (twS L ks r i).1
   have h2:=lnS_len L byT (cOf ks i) (lnS L toT (cOf ks i) (twS L ks r i).1).1
   exact ⟨⟨h1.1,h1.2⟩,h2.1,h2.2⟩
theorem tw_pre (L:List Ln) (ks:List Kind) (a:Nat):∀ k,2*k≤(hls L ks a).length→twS L ks ⟨a,-1⟩ k=(⟨a+2*k,-1⟩,pr ((hls L ks a).take (2*k)))
 | 0,_=>rfl
 | k+1,h=>by
  have ih:=tw_pre L ks a k (by omega)
  have g1:=hls_get L ks a (2*k) (by omega)
  have g2:=hls_get L ks a (2*k+1) (by omega)
  unfold hl at g1 g2
  rw [if_pos (by omega),show 2*k / 2=k by omega] at g1
  rw [if_neg (by omega),show (2*k+1) / 2=k by omega] at g2
  rw [twS,ih]
  dsimp only
  rw [lnS_ok (r:=⟨a+2*k,-1⟩) rfl g1]
  dsimp only
  rw [lnS_ok (r:=⟨a+2*k+1,-1⟩) rfl g2]
  dsimp only
  have e:(hls L ks a).take (2*(k+1))=(hls L ks a).take (2*k)++[(hls L ks a).getD (2*k) [],(hls L ks a).getD (2*k+1) []]:=by
   rw [show 2*(k+1)=2*k+1+1 by omega,take_succ_eq _ (2*k+1) [] (by omega),take_succ_eq _ (2*k) [] (by omega),List.append_assoc];rfl
  rw [e,pr_two _ _ k _ (by rw [List.length_take];omega)]
  refine Prod.ext ?_ rfl
  show (⟨a+2*k+1+1,-1⟩:Rd)=⟨a+2*(k+1),-1⟩
  congr 1
theorem tw_stay {L:List Ln} {ks:List Kind} {r:Rd} {m:Nat} (h:(twS L ks r m).1.t≠-1):∀ d,(twS L ks r (m+d)).1=(twS L ks r m).1
 | 0=>rfl
 | d+1=>by
  have ih:=tw_stay h d
  rw [← Nat.add_assoc,twS];dsimp only
  rw [ih,lnS_bad h,lnS_bad h]
theorem twS_good (L:List Ln) (ks:List Kind) (a:Nat):match twR L ks a with
  | .ok t=>twS L ks ⟨a,-1⟩ ks.length=(⟨a+2*ks.length,-1⟩,t)
  | .error e=>(twS L ks ⟨a,-1⟩ ks.length).1.t=e∧e≠-1:=by
 by_cases h:(hls L ks a).length=2*ks.length
 ·have:twR L ks a=.ok (pr (hls L ks a)):=if_pos h
  rw [this]
  have e:=tw_pre L ks a ks.length (by omega)
  rw [List.take_of_length_le (by omega)] at e
  exact e
 ·obtain ⟨e,he,ht,hne⟩:=twR_err h
  rw [ht]
  refine ⟨?_,hne⟩
  have hle:=hls_le L ks a
  obtain ⟨m,hm⟩:∃ m,m=(hls L ks a).length / 2:=⟨_,rfl⟩
  have ep:=tw_pre L ks a m (by omega)
  have key:(twS L ks ⟨a,-1⟩ (m+1)).1.t=e:=by
   rw [twS,ep]
   dsimp only
   unfold hl at he
   by_cases h2:(hls L ks a).length % 2=0
   ·rw [if_pos h2,← hm,show a+(hls L ks a).length=a+2*m by omega] at he
    have h1:=lnS_err (r:=⟨a+2*m,-1⟩) rfl he
    rw [lnS_bad (by rw [h1];exact hne)];exact h1
   ·rw [if_neg h2,← hm,show a+(hls L ks a).length=a+2*m+1 by omega] at he
    have g1:=hls_get L ks a (2*m) (by omega)
    unfold hl at g1
    rw [if_pos (by omega),show 2*m / 2=m by omega] at g1
    rw [lnS_ok (r:=⟨a+2*m,-1⟩) rfl g1]
    exact lnS_err (r:=⟨a+2*m+1,-1⟩) rfl he
  have:=tw_stay (m:=m+1) (by rw [key];exact hne) (ks.length - (m+1))
  rw [show m+1+(ks.length - (m+1))=ks.length by omega] at this
  rw [this];exact key
/-! letters,moves -/
def isLet (w:Tx):Prop:=w.length=1∧65≤(w.getD 0 0).toNat∧(w.getD 0 0).toNat≤90
instance (w:Tx):Decidable (isLet w):=by unfold isLet;infer_instance
def nameS (w:Tx) (r:Rd):Rd:=if isLet w then r else rej r
theorem nameS_a (w:Tx) (r:Rd):(nameS w r).a=r.a:=by
 unfold nameS
 split
 ·rfl
 ·exact rej_a r
def lineM (l:Ln) (n:Nat):Option (Tx×List Int):=match lineW l moveT (n+1) with
 | some (w :: ws)=>if isLet w then (match numsW ws with | some x=>some (w,x) | none=>none) else none
 | _=>none
def pzL (L:List Ln) (n:Nat):Nat→Nat→Tx→List (List Int)→Except Int (Tx×List (List Int))
 | 0,_,_,_=>.error 0
 | f+1,a,nm,mv=>if L.length≤a then (if mv=[] then .error (-3) else .ok (nm,mv)) else match lineM (lat L a) n with | none=>.error a | some (w,l)=>pzL L n f (a+1) (nm++w) (mv++[l])
def pzH (L:List Ln):Except Int Nat:=match ln L pointsT 1 0 with | .error e=>.error e | .ok l=>if 1≤l.getD 0 0∧l.getD 0 0≤20 then .ok (l.getD 0 0).toNat else .error 0
def pzR (L:List Ln):Except Int Puzz:=match pzH L with
 | .error e=>.error e
 | .ok n=>match pzL L n L.length 1 [] [] with
  | .error e=>.error e
  | .ok (nm,mv)=>if puzzOk ⟨n,nm,mv⟩ then .ok ⟨n,nm,mv⟩ else .error (-4)
def noP:Puzz:=⟨0,[],[]⟩
def outP {α:Type} (d:α) (r:Except Int α):α×Int:=match r with | .ok x=>(x,-1) | .error e=>(d,e)
def ppzE (s:Tx):Except Int Puzz:=if 2000<s.length then .error (-2) else pzR (lnsOf s)
def ppz (s:Tx):Puzz×Int:=outP noP (ppzE s)
def lineN (l:Ln):Option Tx:=match lineW l moveT 1 with
 | some (w :: _)=>if isLet w then some w else none
 | _=>none
def mdL (L:List Ln) (ks:List Kind):Nat→Nat→Tx→List (List Twist)→Except Int (Tx×List (List Twist))
 | 0,_,_,_=>.error 0
 | f+1,a,nm,mv=>if L.length≤a then (if mv=[] then .error (-3) else .ok (nm,mv)) else match lineN (lat L a) with
  | none=>.error a
  | some w=>match twR L ks (a+1) with | .error e=>.error e | .ok t=>mdL L ks f (a+1+2*ks.length) (nm++w) (mv++[t])
def mdR (L:List Ln):Except Int Model:=if L=[] then .error (-3) else match kdR L with
 | .error e=>.error e
 | .ok ks=>match mdL L ks (L.length+1) ks.length [] [] with
  | .error e=>.error e
  | .ok (nm,mv)=>if modelOk ⟨ks,nm,mv⟩ then .ok ⟨ks,nm,mv⟩ else .error (-4)
def noM:Model:=⟨[],[],[]⟩
def pmdE (s:Tx):Except Int Model:=if 2000<s.length then .error (-2) else mdR (lnsOf s)
def pmd (s:Tx):Model×Int:=outP noM (pmdE s)
def stR (ks:List Kind) (L:List Ln):Except Int (List Twist):=match twR L ks 0 with
 | .error e=>.error e
 | .ok t=>if 2*ks.length<L.length then .error (2*ks.length:Nat) else if psOk ks t then .ok t else .error (-4)
def pstE (ks:List Kind) (s:Tx):Except Int (List Twist):=if kindsOk ks then (if 2000<s.length then .error (-2) else stR ks (lnsOf s)) else .error (-4)
def pst (ks:List Kind) (s:Tx):List Twist×Int:=outP [] (pstE ks s)
theorem outP_cases {α:Type} (d:α) (r:Except Int α) (Q:α→Prop) (h1:∀ x,r=.ok x→Q x) (h2:∀ e,r=.error e→e≠-1):(∃ x,outP d r=(x,-1)∧r=.ok x∧Q x)∨∃ e,outP d r=(d,e)∧r=.error e∧e≠-1:=by
 cases r with
 | ok x=>exact .inl ⟨x,rfl,rfl,h1 x rfl⟩
 | error e=>exact .inr ⟨e,rfl,rfl,h2 e rfl⟩
theorem ppz_cases (s:Tx):(∃ p,ppz s=(p,-1)∧ppzE s=.ok p∧puzzOk p)∨∃ e,ppz s=(noP,e)∧ppzE s=.error e∧e≠-1:=by
 have hb:∀ n f a nm mv e,pzL (lnsOf s) n f a nm mv=.error e→e≠-1:=fun n f=>by
  induction f with
  | zero=>intro a nm mv e h;cases h;decide
  | succ f ih =>
   intro a nm mv e h
   rw [pzL] at h
   split at h
   ·split at h
    ·cases h;decide
    ·cases h
   ·split at h
    ·cases h;omega
    ·exact ih _ _ _ _ h
 refine outP_cases noP (ppzE s) puzzOk (fun p hp=>?_) (fun e he=>?_)
 ·unfold ppzE at hp
  split at hp
  ·cases hp
  ·unfold pzR at hp
   split at hp
   ·cases hp
   ·split at hp
    ·cases hp
    ·split at hp
     ·rename_i q;cases hp;exact q
     ·cases hp
 ·unfold ppzE at he
  split at he
  ·cases he;decide
  ·unfold pzR at he
   split at he
   ·rename_i q
    cases he
    unfold pzH at q
    split at q
    ·rename_i q2;cases q;exact ln_err q2
    ·split at q
     ·cases q
     ·cases q;decide
   ·split at he
    ·rename_i q;cases he;exact hb _ _ _ _ _ _ q
    ·split at he
     ·cases he
     ·cases he;decide
theorem pmd_cases (s:Tx):(∃ m,pmd s=(m,-1)∧pmdE s=.ok m∧modelOk m)∨∃ e,pmd s=(noM,e)∧pmdE s=.error e∧e≠-1:=by
 have hb:∀ ks f a nm mv e,mdL (lnsOf s) ks f a nm mv=.error e→e≠-1:=fun ks f=>by
  induction f with
  | zero=>intro a nm mv e h;cases h;decide
  | succ f ih =>
   intro a nm mv e h
   rw [mdL] at h
   split at h
   ·split at h
    ·cases h;decide
    ·cases h
   ·split at h
    ·cases h;omega
    ·split at h
     ·rename_i q
      have:=twS_good (lnsOf s) ks (a+1)
      rw [q] at this
      cases h
      exact this.2
     ·exact ih _ _ _ _ h
 refine outP_cases noM (pmdE s) modelOk (fun p hp=>?_) (fun e he=>?_)
 ·unfold pmdE at hp
  split at hp
  ·cases hp
  ·unfold mdR at hp
   split at hp
   ·cases hp
   ·split at hp
    ·cases hp
    ·split at hp
     ·cases hp
     ·split at hp
      ·rename_i q;cases hp;exact q
      ·cases hp
 ·unfold pmdE at he
  split at he
  ·cases he;decide
  ·unfold mdR at he
   split at he
   ·cases he;decide
   ·rename_i hne
    split at he
    ·rename_i e' q
     cases he
     have:=kindsS_good (lnsOf s)
     rw [if_neg hne,q] at this
     exact this.2
    ·split at he
     ·rename_i q;cases he;exact hb _ _ _ _ _ _ q
     ·split at he
      ·cases he
      ·cases he;decide
end Ps
end Go.AM
namespace Go.AM
theorem getD_eq' {α:Type} (l:List α) (i:Nat) (d:α) (h:i<l.length):l.getD i d=l[i]:=by simp [List.getD,h]
theorem any_at':∀ p:Path,AV.any.at p=.any
 | []=>rfl
 | ij :: p=>by
  have:AV.any.cellAt ij.1 ij.2=.any:=by simp [AV.cellAt]
  rw [AV.at,this,any_at' p]
theorem trn_at (z:Nat):∀ p:Path,p≠[]→(AV.tr z []).at p=.any
 | [],h=>(h rfl).elim
 | ij :: p,_=>by
  have:(AV.tr z []).cellAt ij.1 ij.2=.any:=by
   simp only [AV.cellAt,List.getD_nil,AV.cells]
   cases ij.2 <;> simp
  rw [AV.at,this,any_at' p]
def St.nilAs (st:St) (d s z:Nat):St:=((st.kill s).setMem s (.tr z [])).put (some d) (.ref s [] z 0 0)
theorem ent_nil (st:St) (d s z:Nat) (h:st.fr d=.nilsl) (hs:6≤s):Ent st (st.nilAs d s z):=by
 rintro N E a w h6 ⟨I,ρ,c⟩
 have c1:=c.kill (ρ':=fun s'=>if s'=s then (fun _=>none) else ρ s') s (fun s' hne=>by simp [hne])
 have hself:(fun s'=>if s'=s then (fun _=>none) else ρ s') s=(fun _=>none:Path→Option Plc):=by simp
 have hno:∀ s' T p k,(((st.kill s).setMem s (.tr z [])).mem s'=some T)→(T.at p).isNode=true→(if s'=s then (fun _=>none) else ρ s') p=some k→s'≠s∧(st.kill s).mem s'=some T:=by
  intro s' T p k hm _ hk
  by_cases e:s'=s
  ·subst e;simp at hk
  ·simp only [St.setMem,e,if_false] at hm;exact ⟨e,hm⟩
 have hget:∀ s' T,(((st.kill s).setMem s (.tr z [])).mem s'=some T)→(s'=s∧T=.tr z [])∨(s'≠s∧(st.kill s).mem s'=some T):=by
  intro s' T hm
  by_cases e:s'=s
  ·subst e;simp only [St.setMem,if_true] at hm;cases hm;exact .inl ⟨rfl,rfl⟩
  ·simp only [St.setMem,e,if_false] at hm;exact .inr ⟨e,hm⟩
 refine ⟨I,(fun s'=>if s'=s then (fun _=>none) else ρ s'),⟨c1.held,c1.below,c1.keeps,c1.size,c1.defers,fun i=>?_,⟨fun s' T p hm=>?_,fun s' T p k hm hn hk=>?_,fun s' T p k s'' T' p' k' h1 h2 h3 h4 h5 h7 hb=>?_⟩,fun b hb=>?_,fun i c' T q h1 h2 h3=>?_⟩⟩
 ·by_cases e:i=d
  ·subst e
   have hr:=c.fr i
   rw [h] at hr
   show Rep I _ ((St.nilAs st i s z).fr i) _
   simp only [St.nilAs,St.put,if_true]
   generalize a.tmps.getD i undef=y at hr
   cases hr with
   | stat q=>cases q;exact .ref0 s [] z 0 none
  ·show Rep I _ ((St.nilAs st d s z).fr i) _
   simp only [St.nilAs,St.put,e,if_false]
   exact c1.fr i
 ·rcases hget s' T hm with ⟨rfl,rfl⟩ | ⟨e,hm'⟩
  ·simp only [if_true]
   by_cases hp:p=[]
   ·subst hp;exact .inl ⟨rfl,rfl⟩
   ·rw [trn_at z p hp];trivial
  ·exact c1.mem.row s' T p hm'
 ·exact c1.mem.free s' T p k (hno s' T p k hm hn hk).2 hn hk
 ·exact c1.mem.inj s' T p k s'' T' p' k' (hno s' T p k h1 h2 h3).2 h2 h3 (hno s'' T' p' k' h4 h5 h7).2 h5 h7 hb
 ·obtain ⟨s',T,p,k,h1,h2,h3,h4⟩:=hb
  exact c1.lo b ⟨s',T,p,k,(hno s' T p k h1 h2 h3).2,h2,h3,h4⟩
 ·rcases hget i T h2 with ⟨rfl,rfl⟩ | ⟨e,hm'⟩
  ·have:i<E.args.length:=(List.getElem?_eq_some_iff.1 h1).1
   omega
  ·exact c1.fix i c' T q h1 hm' h3
theorem awp_loopN {P:Program} {M:FuncId→List Bool} {c:Code} {Q:Exit→St→Prop} {st:St} {l:Lock c} {m:Lock Q} (d s z:Nat) (hd:st.fr d=.nilsl) (hs:6≤s) (J:Nat→St→Prop) (N:Nat) (h0:J 0 (st.nilAs d s z))
  (h:∀ k st1,k≤N→J k st1→AWP P M c (thenQ (fun st'=>k<N∧J (k+1) st') Q) st1):LoopP P M c Q st l m :=
 awp_loopE (st.nilAs d s z) (ent_nil st d s z hd hs) J N h0 h
/-! an owned tree gets another number -/
def St.ren (st:St) (s s':Nat) (T:AV):St:=((st.mapF (moveF s [] s' [])).del s).setMem s' T
theorem ren_eq (st:St) (s s':Nat) (T:AV):st.ren s s' T=((st.mapF (moveF s [] s' [])).del s).setMem s' T:=rfl
theorem ent_ren (st:St) (s s':Nat) (T:AV) (hT:st.mem s=some T) (hs:6≤s) (hs':6≤s') (hne:s≠s'):Ent st (st.ren s s' T):=by
 rintro N E a w h6 ⟨I,ρ,c⟩
 have hget:∀ x X,(st.ren s s' T).mem x=some X→∃ y,st.mem y=some X∧(if x=s' then ρ s else ρ x)=ρ y∧(x=s'∧y=s∨x≠s'∧x≠s∧y=x):=by
  intro x X hx
  simp only [St.ren,St.setMem,St.del,St.mapF] at hx
  by_cases e:x=s'
  ·rw [if_pos e] at hx;cases hx;exact ⟨s,hT,by simp [e],.inl ⟨e,rfl⟩⟩
  ·rw [if_neg e] at hx
   by_cases e2:x=s
   ·rw [if_pos e2] at hx;cases hx
   ·rw [if_neg e2] at hx;exact ⟨x,hx,by simp [e],.inr ⟨e,e2,rfl⟩⟩
 refine ⟨I,(fun x=>if x=s' then ρ s else ρ x),?_⟩
 have hsep:Sep I (fun x=>if x=s' then ρ s else ρ x) w (st.ren s s' T).mem:=by
  refine ⟨fun x X p hx=>?_,fun x X p k hx hn hk=>?_,fun x X p k x' X' p' k' h1 h2 h3 h4 h5 h7 hb=>?_⟩
  ·obtain ⟨y,h1,h2,_⟩:=hget x X hx
   show NodeOk I ((fun x=>if x=s' then ρ s else ρ x) x) w p (X.at p)
   simp only [h2];exact c.mem.row y X p h1
  ·obtain ⟨y,h1,h2,_⟩:=hget x X hx
   simp only [h2] at hk;exact c.mem.free y X p k h1 hn hk
  ·obtain ⟨y,k1,k2,k3⟩:=hget x X h1
   obtain ⟨y',j1,j2,j3⟩:=hget x' X' h4
   simp only [k2] at h3;simp only [j2] at h7
   obtain ⟨q1,q2⟩:=c.mem.inj y X p k y' X' p' k' k1 h2 h3 j1 h5 h7 hb
   refine ⟨?_,q2⟩
   rcases k3 with ⟨a1,a2⟩ | ⟨a1,a2,a3⟩ <;> rcases j3 with ⟨b1,b2⟩ | ⟨b1,b2,b3⟩ <;> omega
 refine c.remap (ρ':=fun x=>if x=s' then ρ s else ρ x) (mem':=(st.ren s s' T).mem) (moveF s [] s' []) (fun x p x' p' hf=>?_) c.held (fun _ _ _ h=>h) c.below c.keeps hsep (fun b hb=>?_) (fun i c' X q h1 hX h3=>?_)
 ·unfold moveF at hf
  by_cases e:x=s
  ·rw [if_pos e] at hf
   have:isPref [] p=true:=by cases p <;> rfl
   rw [this] at hf
   simp only [List.length_nil,List.drop_zero,List.nil_append,Option.some.injEq,Prod.mk.injEq] at hf
   obtain ⟨rfl,rfl⟩:=hf
   simp [e]
  ·rw [if_neg e] at hf
   unfold fromF at hf
   by_cases e2:x=s'
   ·rw [if_pos e2] at hf
    have:isPref [] p=true:=by cases p <;> rfl
    rw [this] at hf;cases hf
   ·rw [if_neg e2] at hf;cases hf;simp [e2]
 ·obtain ⟨x,X,p,k,h1,h2,h3,h4⟩:=hb
  obtain ⟨y,k1,k2,_⟩:=hget x X h1
  simp only [k2] at h3
  exact c.lo b ⟨y,X,p,k,k1,h2,h3,h4⟩
 ·obtain ⟨y,k1,k2,k3⟩:=hget i X hX
  have hi:i<E.args.length:=(List.getElem?_eq_some_iff.1 h1).1
  rcases k3 with ⟨a1,_⟩ | ⟨a1,a2,a3⟩
  ·omega
  ·subst a3;simp only [a1,if_false];exact c.fix y c' X q h1 k1 h3
theorem awp_loopR {P:Program} {M:FuncId→List Bool} {c:Code} {Q:Exit→St→Prop} {st:St} {l:Lock c} {m:Lock Q} (s s':Nat) (T:AV) (hT:st.mem s=some T) (hs:6≤s) (hs':6≤s') (hne:s≠s') (J:Nat→St→Prop) (N:Nat) (h0:J 0 (st.ren s s' T))
  (h:∀ k st1,k≤N→J k st1→AWP P M c (thenQ (fun st'=>k<N∧J (k+1) st') Q) st1):LoopP P M c Q st l m :=
 awp_loopE (st.ren s s' T) (ent_ren st s s' T hT hs hs' hne) J N h0 h
def St.nilC (st:St) (s j z w:Nat) (cs:List AV):St:=(st.mapF (fromF s [(0,j)])).setMem s (.pt z (.agg (cs.set j (.tr w []))))
theorem nilC_eq (st:St) (s j z w:Nat) (cs:List AV):st.nilC s j z w cs=(st.mapF (fromF s [(0,j)])).setMem s (.pt z (.agg (cs.set j (.tr w [])))):=rfl
theorem pref1 (j:Nat) (p:Path):isPref [(0,j)] p=true↔∃ q,p=(0,j) :: q:=by
 cases p with
 | nil=>simp [isPref]
 | cons a q =>
  simp only [isPref,Bool.and_true,decide_eq_true_eq]
  constructor
  ·rintro ⟨h1,h2⟩;exact ⟨q,by rw [h1,h2]⟩
  ·rintro ⟨q',h⟩;cases h;simp
theorem ent_nilC (st:St) (s j z w:Nat) (cs:List AV) (hm:st.mem s=some (.pt z (.agg cs))) (hj:j<cs.length) (hc:cs.getD j .any=.nilsl):Ent st (st.nilC s j z w cs):=by
 rintro N E a wd h6 ⟨I,ρ,c⟩
 have hcj:cs[j]=.nilsl:=by rw [← getD_eq' cs j .any hj];exact hc
 let ρ':Pl:=fun x p=>if x=s∧isPref [(0,j)] p=true then none else ρ x p
 have hρ:∀ x p,¬ (x=s∧isPref [(0,j)] p=true)→ρ' x p=ρ x p:=fun x p h=>if_neg h
 have hρ0:∀ q,ρ' s ((0,j) :: q)=none:=fun q=>if_pos ⟨rfl,(pref1 j _).2 ⟨q,rfl⟩⟩
 have hcell:∀ i' j',¬ (i'=0∧j'=j)→(AV.pt z (.agg (cs.set j (.tr w [])))).cellAt i' j'=(AV.pt z (.agg cs)).cellAt i' j':=by
  intro i' j' hne
  cases i' with
  | zero =>
   show (cs.set j (.tr w [])).getD j' .any=cs.getD j' .any
   simp only [List.getD]
   rw [List.getElem?_set_ne (by rintro rfl;exact hne ⟨rfl,rfl⟩)]
  | succ i'=>rfl
 have hcell0:(AV.pt z (.agg (cs.set j (.tr w [])))).cellAt 0 j=.tr w []:=by
  show (cs.set j (.tr w [])).getD j .any=_
  simp [List.getD,hj]
 have hat:∀ p,(¬ ∃ q,p=(0,j) :: q)→p≠[]→(AV.pt z (.agg (cs.set j (.tr w [])))).at p=(AV.pt z (.agg cs)).at p:=by
  intro p hp hn
  cases p with
  | nil=>exact (hn rfl).elim
  | cons ij q =>
   rw [AV.at,AV.at,hcell ij.1 ij.2]
   rintro ⟨e1,e2⟩;exact hp ⟨q,by rw [← e1,← e2]⟩
 have hat0:∀ q,(AV.pt z (.agg (cs.set j (.tr w [])))).at ((0,j) :: q)=(AV.tr w []).at q:=by
  intro q;rw [AV.at];show ((AV.pt z (.agg (cs.set j (.tr w [])))).cellAt 0 j).at q=_;rw [hcell0]
 have hmem:∀ x X,(st.nilC s j z w cs).mem x=some X→(x=s∧X=.pt z (.agg (cs.set j (.tr w []))))∨(x≠s∧st.mem x=some X):=by
  intro x X hx
  simp only [St.nilC,St.setMem,St.mapF] at hx
  by_cases e:x=s
  ·rw [if_pos e] at hx;cases hx;exact .inl ⟨e,rfl⟩
  ·rw [if_neg e] at hx;exact .inr ⟨e,hx⟩
 -- a node of the new memory that has a place is a node of the old one
 have hold:∀ x X p k,(st.nilC s j z w cs).mem x=some X→(X.at p).isNode=true→ρ' x p=some k→∃ Y,st.mem x=some Y∧(Y.at p).isNode=true∧ρ x p=some k:=by
  intro x X p k hx hn hk
  rcases hmem x X hx with ⟨rfl,rfl⟩ | ⟨e,hx'⟩
  ·by_cases hp:∃ q,p=(0,j) :: q
   ·obtain ⟨q,rfl⟩:=hp;rw [hρ0] at hk;cases hk
   ·have hk':=hk
    rw [hρ x p (fun h=>hp ((pref1 j p).1 h.2))] at hk'
    by_cases hp0:p=[]
    ·subst hp0;exact ⟨_,hm,rfl,hk'⟩
    ·rw [hat p hp hp0] at hn;exact ⟨_,hm,hn,hk'⟩
  ·rw [hρ x p (fun h=>e h.1)] at hk;exact ⟨X,hx',hn,hk⟩
 have hsep:Sep I ρ' wd (st.nilC s j z w cs).mem:=by
  refine ⟨fun x X p hx=>?_,fun x X p k hx hn hk=>?_,fun x X p k x' X' p' k' h1 h2 h3 h4 h5 h7 hb=>?_⟩
  ·rcases hmem x X hx with ⟨rfl,rfl⟩ | ⟨e,hx'⟩
   ·by_cases hp:∃ q,p=(0,j) :: q
    ·obtain ⟨q,rfl⟩:=hp
     rw [hat0 q]
     cases q with
     | nil=>exact .inl ⟨hρ0 [],rfl⟩
     | cons ij q=>rw [trn_at w (ij :: q) (by simp)];trivial
    ·by_cases hp0:p=[]
     ·subst hp0
      have hold:=c.mem.row x _ [] hm
      show RowOk I (ρ' x) wd [] z [AV.agg (cs.set j (.tr w []))]
      have hold':RowOk I (ρ x) wd [] z [AV.agg cs]:=hold
      rcases hold' with ⟨_,h⟩ | ⟨k,E',arr,h1,h2,h3,h4,h5,h7,h8⟩
      ·cases h
      ·refine .inr ⟨k,E',arr,by rw [hρ x [] (fun h=>by cases h.2)];exact h1,h2,h3,h4,h5,h7,fun i hi=>?_⟩
       have hi0:i=0:=by simp at hi;omega
       subst hi0
       obtain ⟨g1,g2⟩:=h8 0 (by simp)
       refine ⟨by simpa [AV.cells] using g1,fun j' hj'=>?_⟩
       have hj2:j'<cs.length:=by simpa [AV.cells] using hj'
       obtain ⟨g3,g4⟩:=g2 j' (by simpa [AV.cells] using hj2)
       refine ⟨?_,g4⟩
       by_cases e:j'=j
       ·subst e
        have g3':CellOk I (ρ x ([]++[(0,j')])) (cs[j']) (arr.getD (k.off+0*z+j') undef):=by simpa [AV.cells] using g3
        rw [hcj] at g3'
        have hce:(AV.agg (cs.set j' (.tr w []))).cells[j']=.tr w []:=by simp [AV.cells]
        show CellOk I (ρ' x ([]++[(0,j')])) ((AV.agg (cs.set j' (.tr w []))).cells[j']) _
        rw [hce]
        refine .inl ⟨rfl,.inr ⟨rfl,?_⟩⟩
        rcases g3' with ⟨q,_⟩ | ⟨_,q⟩
        ·cases q
        ·generalize arr.getD (k.off+0*z+j') undef=y at q ⊢
         cases q;exact ⟨none,rfl⟩
       ·have hce:(AV.agg (cs.set j (.tr w []))).cells[j']=cs[j']:=by
         simp only [AV.cells];rw [List.getElem_set_ne (fun h=>e h.symm)]
        show CellOk I (ρ' x ([]++[(0,j')])) ((AV.agg (cs.set j (.tr w []))).cells[j']) _
        rw [hce,hρ x _ (fun h=>by obtain ⟨q,hq⟩:=(pref1 j _).1 h.2;simp at hq;exact e hq.1)]
        simpa [AV.cells] using g3
     ·rw [hat p hp hp0]
      have:=c.mem.row x _ p hm
      have hp1:∀ q:Path,¬ (x=x∧isPref [(0,j)] (p++q)=true):=by
       rintro q ⟨_,h⟩
       obtain ⟨r,hr⟩:=(pref1 j _).1 h
       cases p with
       | nil=>exact hp0 rfl
       | cons a p=>simp at hr;exact hp ⟨p,by rw [hr.1]⟩
      have hpp:ρ' x p=ρ x p:=by have:=hp1 [];rw [List.append_nil] at this;exact hρ x p this
      generalize (AV.pt z (AV.agg cs)).at p=Y at this ⊢
      cases Y with
      | tr z' es =>
       rcases this with ⟨h1,h2⟩ | ⟨k,E',arr,h1,h2,h3,h4,h5,h7,h8⟩
       ·exact .inl ⟨hpp.trans h1,h2⟩
       ·exact .inr ⟨k,E',arr,hpp.trans h1,h2,h3,h4,h5,h7,fun i hi=>⟨(h8 i hi).1,fun j' hj'=>by rw [hρ x _ (hp1 _)];exact (h8 i hi).2 j' hj'⟩⟩
      | pt z' y =>
       rcases this with ⟨h1,h2⟩ | ⟨k,E',arr,h1,h2,h3,h4,h5,h7,h8⟩
       ·cases h2
       ·exact .inr ⟨k,E',arr,hpp.trans h1,h2,h3,h4,h5,h7,fun i hi=>⟨(h8 i hi).1,fun j' hj'=>by rw [hρ x _ (hp1 _)];exact (h8 i hi).2 j' hj'⟩⟩
      | mt kd m=>obtain ⟨k,es,cp,h1,h2⟩:=this;exact ⟨k,es,cp,hpp.trans h1,h2⟩
      | _=>trivial
   ·have:ρ' x=ρ x:=by funext p;exact hρ x p (fun h=>e h.1)
    rw [this];exact c.mem.row x X p hx'
  ·obtain ⟨Y,k1,k2,k3⟩:=hold x X p k hx hn hk
   exact c.mem.free x Y p k k1 k2 k3
  ·obtain ⟨Y,k1,k2,k3⟩:=hold x X p k h1 h2 h3
   obtain ⟨Y',j1,j2,j3⟩:=hold x' X' p' k' h4 h5 h7
   exact c.mem.inj x Y p k x' Y' p' k' k1 k2 k3 j1 j2 j3 hb
 refine ⟨I,ρ',c.remap (ρ':=ρ') (mem':=(st.nilC s j z w cs).mem) (fromF s [(0,j)]) (fun x p x' p' hf=>?_) c.held (fun _ _ _ h=>h) c.below c.keeps hsep (fun b hb=>?_) (fun i c' X q h1 hX h3=>?_)⟩
 ·unfold fromF at hf
  by_cases e:x=s
  ·rw [if_pos e] at hf
   cases h:isPref [(0,j)] p with
   | true=>rw [h] at hf;cases hf
   | false=>rw [h] at hf;cases hf;exact hρ x p (fun q=>by rw [h] at q;cases q.2)
  ·rw [if_neg e] at hf;cases hf;exact hρ x p (fun q=>e q.1)
 ·obtain ⟨x,X,p,k,h1,h2,h3,h4⟩:=hb
  obtain ⟨Y,k1,k2,k3⟩:=hold x X p k h1 h2 h3
  exact c.lo b ⟨x,Y,p,k,k1,k2,k3,h4⟩
 ·rcases hmem i X hX with ⟨rfl,rfl⟩ | ⟨e,hx'⟩
  ·have hq:q=[]:=h3
   subst hq
   rw [hρ i [] (fun h=>by cases h.2)]
   exact c.fix i c' _ [] h1 hm rfl
  ·rw [hρ i q (fun h=>e h.1)];exact c.fix i c' X q h1 hx' h3
theorem awp_loopC {P:Program} {M:FuncId→List Bool} {c:Code} {Q:Exit→St→Prop} {st:St} {l:Lock c} {m:Lock Q} (s j z w:Nat) (cs:List AV) (hm:st.mem s=some (.pt z (.agg cs))) (hj:j<cs.length) (hc:cs.getD j .any=.nilsl) (J:Nat→St→Prop) (N:Nat) (h0:J 0 (st.nilC s j z w cs))
  (h:∀ k st1,k≤N→J k st1→AWP P M c (thenQ (fun st'=>k<N∧J (k+1) st') Q) st1):LoopP P M c Q st l m :=
 awp_loopE (st.nilC s j z w cs) (ent_nilC st s j z w cs hm hj hc) J N h0 h
theorem nilAs_eq (st:St) (d s z:Nat):st.nilAs d s z=((st.kill s).setMem s (.tr z [])).put (some d) (.ref s [] z 0 0):=rfl
end Go.AM
set_option maxRecDepth 8000
namespace Go.AM
open Go.Proofs
def nilTw:AV:=.agg [.nilsl,.nilsl]
end Go.AM
set_option maxRecDepth 8000
namespace Go.AM
open Go.Proofs
theorem inRange (x lo hi:Int):SpecAt Tryz.prog 74 [.i64 x,.i64 lo,.i64 hi] (.bl (within x lo hi)):=by
 refine spec_of_awp (M:=MM) (np:=3) (fz:=true) mixed Tryz.func74 rfl rfl (by decide) rfl (Nat.le_refl _) (by decide +kernel) (.inr ⟨rfl,rfl⟩) trivial ?_
 simp -dsimp -implicitDefEqProofs (disch:=first|omega|(simp only [lenr];try omega)) only [↓amPre,↓reduceIte,reduceCtorEq,reduceEqDiff,Nat.reduceBEq,reduceAdd,reduceLeDiff,reduceSub,reduceMul,reduceToNat,MM,bu0,cbP2]
 refine ifP_mk ?_ ?_ <;> intro h1
 ·simp -dsimp -implicitDefEqProofs (disch:=first|omega|(simp only [lenr];try omega)) only [↓amPre,↓reduceIte,reduceCtorEq,reduceEqDiff,Nat.reduceBEq,reduceAdd,reduceLeDiff,reduceSub,reduceMul,reduceToNat,MM,bu0,cbP2,h1]
  simp [within,h1]
 ·simp -dsimp -implicitDefEqProofs (disch:=first|omega|(simp only [lenr];try omega)) only [↓amPre,↓reduceIte,reduceCtorEq,reduceEqDiff,Nat.reduceBEq,reduceAdd,reduceLeDiff,reduceSub,reduceMul,reduceToNat,MM,bu0,cbP2,h1]
  simp [within,h1]
theorem iwithin (x lo hi:Int):SpecAt Tryz.prog 70 [.i64 x,.i64 lo,.i64 hi] (.bl (within x lo hi)):=by
 refine spec_of_awp (M:=MM) (np:=3) (fz:=true) mixed Tryz.func70 rfl rfl (by decide) rfl (Nat.le_refl _) (by decide +kernel) (.inr ⟨rfl,rfl⟩) trivial ?_
 simp -dsimp -implicitDefEqProofs (disch:=first|omega|(simp only [lenr];try omega)) only [↓amPre,↓reduceIte,reduceCtorEq,reduceEqDiff,Nat.reduceBEq,reduceAdd,reduceLeDiff,reduceSub,reduceMul,reduceToNat,MM,bu0,cbP2]
 refine ifP_mk ?_ ?_ <;> intro h1
 ·simp -dsimp -implicitDefEqProofs (disch:=first|omega|(simp only [lenr];try omega)) only [↓amPre,↓reduceIte,reduceCtorEq,reduceEqDiff,Nat.reduceBEq,reduceAdd,reduceLeDiff,reduceSub,reduceMul,reduceToNat,MM,bu0,cbP2,h1]
  simp [within,h1]
 ·simp -dsimp -implicitDefEqProofs (disch:=first|omega|(simp only [lenr];try omega)) only [↓amPre,↓reduceIte,reduceCtorEq,reduceEqDiff,Nat.reduceBEq,reduceAdd,reduceLeDiff,reduceSub,reduceMul,reduceToNat,MM,bu0,cbP2,h1]
  simp [within,h1]
theorem lenI (l:List Int):SpecAt Tryz.prog 125 [isl l] (.i64 l.length):=by
 refine spec_of_awp (M:=MM) (np:=1) (fz:=true) mixed Tryz.func125 rfl rfl (by decide) rfl (Nat.le_refl _) (by decide +kernel) (.inr ⟨rfl,rfl⟩) trivial ?_
 simp -dsimp -implicitDefEqProofs (disch:=first|omega|(simp only [lenr];try omega)) only [↓amPre,↓reduceIte,reduceCtorEq,reduceEqDiff,Nat.reduceBEq,reduceAdd,reduceLeDiff,reduceSub,reduceMul,reduceToNat,MM,bu0,cbP2]
theorem lenK (l:List Kind):SpecAt Tryz.prog 99 [ksl l] (.i64 l.length):=by
 refine spec_of_awp (M:=MM) (np:=1) (fz:=true) mixed Tryz.func99 rfl rfl (by decide) rfl (Nat.le_refl _) (by decide +kernel) (.inr ⟨rfl,rfl⟩) trivial ?_
 simp -dsimp -implicitDefEqProofs (disch:=first|omega|(simp only [lenr];try omega)) only [↓amPre,↓reduceIte,reduceCtorEq,reduceEqDiff,Nat.reduceBEq,reduceAdd,reduceLeDiff,reduceSub,reduceMul,reduceToNat,MM,bu0,cbP2]
theorem containsInt (l:List Int) (x:Int) (hl:l.length≤1099511627776):SpecAt Tryz.prog 128 [isl l,.i64 x] (.bl (decide (x∈l))):=by
 refine spec_of_awp (M:=MM) (np:=2) (fz:=true) mixed Tryz.func128 rfl rfl (by decide) rfl (Nat.le_refl _) (by decide +kernel) (.inr ⟨rfl,rfl⟩) trivial ?_
 simp -dsimp -implicitDefEqProofs (disch:=first|omega|(simp only [lenr];try omega)) only [↓amPre,↓reduceIte,reduceCtorEq,reduceEqDiff,Nat.reduceBEq,reduceAdd,reduceLeDiff,reduceSub,reduceMul,reduceToNat,MM,bu0,cbP2]
 refine awp_loop (fun k st=>k≤l.length∧st.fr 5=.i64 k∧st.fr 0=isl l∧st.fr 1=.i64 x∧∀ y∈l.take k,y≠x) (l.length) ?_ ?_
 ·simp -dsimp -implicitDefEqProofs (disch:=first|omega|(simp only [lenr];try omega)) only [↓amPre,↓reduceIte,reduceCtorEq,reduceEqDiff,Nat.reduceBEq,reduceAdd,reduceLeDiff,reduceSub,reduceMul,reduceToNat,MM,bu0,cbP2]
  simp
 rintro k st _ ⟨hk,f5,f0,f1,ek⟩
 by_cases hlt:k<l.length
 ·simp -dsimp -implicitDefEqProofs (disch:=first|omega|(simp only [lenr];try omega)) only [↓amPre,↓reduceIte,reduceCtorEq,reduceEqDiff,Nat.reduceBEq,reduceAdd,reduceLeDiff,reduceSub,reduceMul,reduceToNat,MM,bu0,cbP2,f5,f0,f1]
  refine ifP_mk ?_ ?_ <;> intro w
  ·simp -dsimp -implicitDefEqProofs (disch:=first|omega|(simp only [lenr];try omega)) only [↓amPre,↓reduceIte,reduceCtorEq,reduceEqDiff,Nat.reduceBEq,reduceAdd,reduceLeDiff,reduceSub,reduceMul,reduceToNat,MM,bu0,cbP2,w]
   simp only [beq_iff_eq,bne_iff_ne,ne_eq,beq_eq_false_iff_ne,bne_eq_false_iff_eq,decide_eq_true_eq,decide_eq_false_iff_not,Bool.not_eq_true',Bool.not_eq_false',Int.not_lt,Int.not_le,Bool.and_eq_true,Bool.or_eq_true,Bool.and_eq_false_iff,Bool.or_eq_false_iff,Decidable.not_not] at w
   have:=mem_getD l k 0 hlt
   rw [w] at this
   simp [this]
  ·simp -dsimp -implicitDefEqProofs (disch:=first|omega|(simp only [lenr];try omega)) only [↓amPre,↓reduceIte,reduceCtorEq,reduceEqDiff,Nat.reduceBEq,reduceAdd,reduceLeDiff,reduceSub,reduceMul,reduceToNat,MM,bu0,cbP2,w,f5,f0,f1]
   simp only [beq_iff_eq,bne_iff_ne,ne_eq,beq_eq_false_iff_ne,bne_eq_false_iff_eq,decide_eq_true_eq,decide_eq_false_iff_not,Bool.not_eq_true',Bool.not_eq_false',Int.not_lt,Int.not_le,Bool.and_eq_true,Bool.or_eq_true,Bool.and_eq_false_iff,Bool.or_eq_false_iff,Decidable.not_not] at w
   repeat' (first | omega | rfl | exact i64c (by omega) | exact vic (by omega) | exact (mem_take_succ (d:=0) hlt).2 ⟨ek,w⟩ | apply And.intro)
 ·have hke:k=l.length:=by omega
  subst hke
  simp -dsimp -implicitDefEqProofs (disch:=first|omega|(simp only [lenr];try omega)) only [↓amPre,↓reduceIte,reduceCtorEq,reduceEqDiff,Nat.reduceBEq,reduceAdd,reduceLeDiff,reduceSub,reduceMul,reduceToNat,MM,bu0,cbP2,f5,f0,f1]
  rw [List.take_length] at ek
  have:¬ x∈l:=fun q=>ek x q rfl
  simp [this]
theorem sIsPerm (p:List Int) (hl:p.length≤1099511627776):SpecAt Tryz.prog 98 [isl p] (.bl (decide (isPerm p))):=by
 refine spec_of_awp (M:=MM) (np:=1) (fz:=true) mixed Tryz.func98 rfl rfl (by decide) rfl (Nat.le_refl _) (by decide +kernel) (.inr ⟨rfl,rfl⟩) trivial ?_
 simp -dsimp -implicitDefEqProofs (disch:=first|omega|(simp only [lenr];try omega)) only [↓amPre,↓reduceIte,reduceCtorEq,reduceEqDiff,Nat.reduceBEq,reduceAdd,reduceLeDiff,reduceSub,reduceMul,reduceToNat,MM,bu0,cbP2]
 refine callP_of (inRange _ _ _) ?_
 cases w:within p.length 1 20 with
 | false =>
  simp -dsimp -implicitDefEqProofs (disch:=first|omega|(simp only [lenr];try omega)) only [↓amPre,↓reduceIte,reduceCtorEq,reduceEqDiff,Nat.reduceBEq,reduceAdd,reduceLeDiff,reduceSub,reduceMul,reduceToNat,MM,bu0,cbP2,w]
  rw [within_not] at w
  have:¬ isPerm p:=fun h=>by unfold isPerm at h;omega
  simp [this]
 | true =>
 rw [within_iff] at w
 simp -dsimp -implicitDefEqProofs (disch:=first|omega|(simp only [lenr];try omega)) only [↓amPre,↓reduceIte,reduceCtorEq,reduceEqDiff,Nat.reduceBEq,reduceAdd,reduceLeDiff,reduceSub,reduceMul,reduceToNat,MM,bu0,cbP2,within_iff.2 w]
 refine awp_loop (fun k st=>k≤p.length∧st.fr 4=.i64 k∧st.fr 0=isl p∧st.fr 3=.i64 p.length∧(∀ x∈p.take k,0≤x∧x<p.length)∧(p.take k).Nodup) (p.length) ?_ ?_
 ·simp -dsimp -implicitDefEqProofs (disch:=first|omega|(simp only [lenr];try omega)) only [↓amPre,↓reduceIte,reduceCtorEq,reduceEqDiff,Nat.reduceBEq,reduceAdd,reduceLeDiff,reduceSub,reduceMul,reduceToNat,MM,bu0,cbP2]
  simp
 rintro k st _ ⟨hk,f4,f0,f3,ek⟩
 by_cases hlt:k<p.length
 ·have hmem:=mem_getD p k 0 hlt
  simp -dsimp -implicitDefEqProofs (disch:=first|omega|(simp only [lenr];try omega)) only [↓amPre,↓reduceIte,reduceCtorEq,reduceEqDiff,Nat.reduceBEq,reduceAdd,reduceLeDiff,reduceSub,reduceMul,reduceToNat,MM,bu0,cbP2,f4,f0,f3]
  refine callP_of (inRange _ _ _) ?_
  cases w2:within (p.getD k 0) 0 (p.length - 1) with
  | false =>
   simp -dsimp -implicitDefEqProofs (disch:=first|omega|(simp only [lenr];try omega)) only [↓amPre,↓reduceIte,reduceCtorEq,reduceEqDiff,Nat.reduceBEq,reduceAdd,reduceLeDiff,reduceSub,reduceMul,reduceToNat,MM,bu0,cbP2,w2]
   rw [within_not] at w2
   have:¬ isPerm p:=fun h=>by have:=h.2.1 _ hmem;omega
   simp [this]
  | true =>
  simp -dsimp -implicitDefEqProofs (disch:=first|omega|(simp only [lenr];try omega)) only [↓amPre,↓reduceIte,reduceCtorEq,reduceEqDiff,Nat.reduceBEq,reduceAdd,reduceLeDiff,reduceSub,reduceMul,reduceToNat,MM,bu0,cbP2,w2,f4,f0,f3]
  refine callP_of (containsInt _ _ (by simp;omega)) ?_
  have hs:=take_succ_eq p k 0 hlt
  cases w3:decide (p.getD k 0∈p.take k) with
  | true =>
   simp -dsimp -implicitDefEqProofs (disch:=first|omega|(simp only [lenr];try omega)) only [↓amPre,↓reduceIte,reduceCtorEq,reduceEqDiff,Nat.reduceBEq,reduceAdd,reduceLeDiff,reduceSub,reduceMul,reduceToNat,MM,bu0,cbP2,w3]
   simp only [beq_iff_eq,bne_iff_ne,ne_eq,beq_eq_false_iff_ne,bne_eq_false_iff_eq,decide_eq_true_eq,decide_eq_false_iff_not,Bool.not_eq_true',Bool.not_eq_false',Int.not_lt,Int.not_le,Bool.and_eq_true,Bool.or_eq_true,Bool.and_eq_false_iff,Bool.or_eq_false_iff,Decidable.not_not] at w3
   have:¬ isPerm p:=fun h=>by
    have h2:=h.2.2
    have h3:(p.take (k+1)).Nodup:=h2.sublist (List.take_sublist _ _)
    rw [hs,List.nodup_append] at h3
    exact h3.2.2 _ (by simpa using w3) _ (by simp) rfl
   simp [this]
  | false =>
   simp -dsimp -implicitDefEqProofs (disch:=first|omega|(simp only [lenr];try omega)) only [↓amPre,↓reduceIte,reduceCtorEq,reduceEqDiff,Nat.reduceBEq,reduceAdd,reduceLeDiff,reduceSub,reduceMul,reduceToNat,MM,bu0,cbP2,w3,f4,f0,f3]
   simp only [decide_eq_false_iff_not] at w3
   rw [within_iff] at w2
   refine ⟨hlt,hlt,?_,?_⟩
   ·rw [mem_take_succ (d:=0) hlt];exact ⟨ek.1,by omega⟩
   ·rw [hs,List.nodup_append]
    refine ⟨ek.2,by simp,?_⟩
    intro a ha b hb e
    simp only [List.mem_singleton] at hb
    rw [e,hb] at ha;exact w3 ha
 ·have hke:k=p.length:=by omega
  subst hke
  rw [List.take_length] at ek
  simp -dsimp -implicitDefEqProofs (disch:=first|omega|(simp only [lenr];try omega)) only [↓amPre,↓reduceIte,reduceCtorEq,reduceEqDiff,Nat.reduceBEq,reduceAdd,reduceLeDiff,reduceSub,reduceMul,reduceToNat,MM,bu0,cbP2,f4,f0,f3]
  have:isPerm p:=⟨by omega,ek.1,ek.2⟩
  simp [this]
theorem iIsPerm (p:List Int) (hl:p.length≤1099511627776):SpecAt Tryz.prog 126 [isl p] (.bl (decide (isPerm p))):=by
 refine spec_of_awp (M:=MM) (np:=1) (fz:=true) mixed Tryz.func126 rfl rfl (by decide) rfl (Nat.le_refl _) (by decide +kernel) (.inr ⟨rfl,rfl⟩) trivial ?_
 simp -dsimp -implicitDefEqProofs (disch:=first|omega|(simp only [lenr];try omega)) only [↓amPre,↓reduceIte,reduceCtorEq,reduceEqDiff,Nat.reduceBEq,reduceAdd,reduceLeDiff,reduceSub,reduceMul,reduceToNat,MM,bu0,cbP2]
 refine callP_of (lenI _) ?_
 simp -dsimp -implicitDefEqProofs (disch:=first|omega|(simp only [lenr];try omega)) only [↓amPre,↓reduceIte,reduceCtorEq,reduceEqDiff,Nat.reduceBEq,reduceAdd,reduceLeDiff,reduceSub,reduceMul,reduceToNat,MM,bu0,cbP2]
 refine callP_of (iwithin _ _ _) ?_
 cases w:within p.length 1 20 with
 | false =>
  simp -dsimp -implicitDefEqProofs (disch:=first|omega|(simp only [lenr];try omega)) only [↓amPre,↓reduceIte,reduceCtorEq,reduceEqDiff,Nat.reduceBEq,reduceAdd,reduceLeDiff,reduceSub,reduceMul,reduceToNat,MM,bu0,cbP2,w]
  rw [within_not] at w
  have:¬ isPerm p:=fun h=>by unfold isPerm at h;omega
  simp [this]
 | true =>
 rw [within_iff] at w
 simp -dsimp -implicitDefEqProofs (disch:=first|omega|(simp only [lenr];try omega)) only [↓amPre,↓reduceIte,reduceCtorEq,reduceEqDiff,Nat.reduceBEq,reduceAdd,reduceLeDiff,reduceSub,reduceMul,reduceToNat,MM,bu0,cbP2,within_iff.2 w]
 refine awp_loop (fun k st=>k≤p.length∧st.fr 12=.i64 k∧st.fr 0=isl p∧st.fr 10=isl p∧st.fr 11=.i64 p.length∧st.fr 3=.i64 (mask (p.take k))∧(∀ x∈p.take k,0≤x∧x<p.length)) (p.length) ?_ ?_
 ·simp -dsimp -implicitDefEqProofs (disch:=first|omega|(simp only [lenr];try omega)) only [↓amPre,↓reduceIte,reduceCtorEq,reduceEqDiff,Nat.reduceBEq,reduceAdd,reduceLeDiff,reduceSub,reduceMul,reduceToNat,MM,bu0,cbP2]
  simp [mask,maskN]
 rintro k st _ ⟨hk,f12,f0,f10,f11,f3,ek⟩
 by_cases hlt:k<p.length
 ·have hmem:=mem_getD p k 0 hlt
  simp -dsimp -implicitDefEqProofs (disch:=first|omega|(simp only [lenr];try omega)) only [↓amPre,↓reduceIte,reduceCtorEq,reduceEqDiff,Nat.reduceBEq,reduceAdd,reduceLeDiff,reduceSub,reduceMul,reduceToNat,MM,bu0,cbP2,f12,f0,f10,f11,f3]
  refine callP_of (lenI _) ?_
  simp -dsimp -implicitDefEqProofs (disch:=first|omega|(simp only [lenr];try omega)) only [↓amPre,↓reduceIte,reduceCtorEq,reduceEqDiff,Nat.reduceBEq,reduceAdd,reduceLeDiff,reduceSub,reduceMul,reduceToNat,MM,bu0,cbP2,f12,f0,f10,f11,f3]
  refine callP_of (iwithin _ _ _) ?_
  cases w2:within (p.getD k 0) 0 (p.length - 1) with
  | false =>
   simp -dsimp -implicitDefEqProofs (disch:=first|omega|(simp only [lenr];try omega)) only [↓amPre,↓reduceIte,reduceCtorEq,reduceEqDiff,Nat.reduceBEq,reduceAdd,reduceLeDiff,reduceSub,reduceMul,reduceToNat,MM,bu0,cbP2,w2]
   rw [within_not] at w2
   have:¬ isPerm p:=fun h=>by have:=h.2.1 _ hmem;omega
   simp [this]
  | true =>
  have w2':=within_iff.1 w2
  obtain ⟨n,hn⟩:∃ n:Nat,p.getD k 0=n:=⟨(p.getD k 0).toNat,by omega⟩
  have hn20:n<20:=by omega
  have hp:(2:Nat) ^ n<2 ^ 20:=Nat.pow_lt_pow_right (by decide) hn20
  have hsh:IntKind.i64.wrap (1*2 ^ (min (p.getD k 0).toNat 64))=((2 ^ n:Nat):Int):=by
   have e2:(2:Int) ^ n=((2 ^ n:Nat):Int):=by simp
   rw [hn,Int.toNat_natCast,Nat.min_eq_left (by omega),Int.one_mul,e2]
   generalize (2 ^ n:Nat)=m at hp ⊢
   exact wrap64_id (by omega)
  have hm1:=mask_lt (p.take k) 20 fun x hx=>by have:=ek x hx;omega
  have hm2:=mask_lt (p.take k) p.length ek
  have hor:bitsI .or .i64 (mask (p.take k):Int) ((2 ^ n:Nat):Int)=((mask (p.take (k+1)):Nat):Int):=by
   rw [bits_or _ _ (by omega) (by omega),take_succ_eq p k 0 hlt,mask_snoc,hn,Int.toNat_natCast]
  have hb:(IntKind.i64.bits)=64:=rfl
  simp -dsimp -implicitDefEqProofs (disch:=first|omega|(simp only [lenr];try omega)) only [↓amPre,↓reduceIte,reduceCtorEq,reduceEqDiff,Nat.reduceBEq,reduceAdd,reduceLeDiff,reduceSub,reduceMul,reduceToNat,MM,bu0,cbP2,w2,f12,f0,f10,f11,f3,hb,hsh,hor]
  refine ⟨hlt,hlt,?_⟩
  rw [mem_take_succ (d:=0) hlt];exact ⟨ek,by omega⟩
 ·have hke:k=p.length:=by omega
  subst hke
  rw [List.take_length] at ek f3
  have hp:(2:Nat) ^ p.length≤2 ^ 20:=Nat.pow_le_pow_right (by decide) (by omega)
  have hsh:IntKind.i64.wrap (1*2 ^ (min p.length 64))=((2 ^ p.length:Nat):Int):=by
   have e2:(2:Int) ^ p.length=((2 ^ p.length:Nat):Int):=by simp
   rw [Nat.min_eq_left (by omega),Int.one_mul,e2]
   generalize (2 ^ p.length:Nat)=m at hp ⊢
   exact wrap64_id (by omega)
  have hwr:IntKind.i64.wrap (((2 ^ p.length:Nat):Int) - 1)=((2 ^ p.length:Nat):Int) - 1:=by
   generalize (2 ^ p.length:Nat)=m at hp ⊢
   exact wrap64_id (by omega)
  have hb:(IntKind.i64.bits)=64:=rfl
  simp -dsimp -implicitDefEqProofs (disch:=first|omega|(simp only [lenr];try omega)) only [↓amPre,↓reduceIte,reduceCtorEq,reduceEqDiff,Nat.reduceBEq,reduceAdd,reduceLeDiff,reduceSub,reduceMul,reduceToNat,MM,bu0,cbP2,f12,f0,f10,f11,f3,hb,hsh,hwr]
  refine bl_eq ?_
  have h1:=mask_perm p ek
  have h2:(0:Nat)<2 ^ p.length:=Nat.pow_pos (by decide)
  have h3:isPerm p↔p.Nodup:=⟨fun h=>h.2.2,fun h=>⟨by omega,ek,h⟩⟩
  simp only [beq_iff_eq,decide_eq_true_eq,h3,← h1]
  generalize (2 ^ p.length:Nat)=m at h2 ⊢
  omega
end Go.AM
set_option maxRecDepth 8000
namespace Go.AM
namespace Door
open Go.Proofs
def MM:FuncId→List Bool:=fun _=>[]
theorem pushB_one (x:Int):pushB [x]=⟨[UInt8.ofNat x.toNat].toArray⟩:=rfl
theorem iwithin (x lo hi:Int):SpecAt Tryz.prog 70 [.i64 x,.i64 lo,.i64 hi] (.bl (within x lo hi)):=by
 refine spec_of_awp (M:=MM) (np:=3) (fz:=true) mixed Tryz.func70 rfl rfl (by decide) rfl (Nat.le_refl _) (by decide +kernel) (.inr ⟨rfl,rfl⟩) trivial ?_
 simp -dsimp -implicitDefEqProofs (disch:=first|omega|(simp only [lenr];try omega)) only [↓amPre,↓reduceIte,reduceCtorEq,reduceEqDiff,Nat.reduceBEq,reduceAdd,reduceLeDiff,reduceSub,reduceMul,reduceToNat,MM,bu0,cbP3,sttl,stapp,stsize,Door.pushB_one]
 refine ifP_mk ?_ ?_ <;> intro h1
 ·simp -dsimp -implicitDefEqProofs (disch:=first|omega|(simp only [lenr];try omega)) only [↓amPre,↓reduceIte,reduceCtorEq,reduceEqDiff,Nat.reduceBEq,reduceAdd,reduceLeDiff,reduceSub,reduceMul,reduceToNat,MM,bu0,cbP3,sttl,stapp,stsize,Door.pushB_one,h1]
  simp [within,h1]
 ·simp -dsimp -implicitDefEqProofs (disch:=first|omega|(simp only [lenr];try omega)) only [↓amPre,↓reduceIte,reduceCtorEq,reduceEqDiff,Nat.reduceBEq,reduceAdd,reduceLeDiff,reduceSub,reduceMul,reduceToNat,MM,bu0,cbP3,sttl,stapp,stsize,Door.pushB_one,h1]
  simp [within,h1]
def twoD (n:Nat):List UInt8:=Lib.decDigits (n / 10)++Lib.decDigits (n % 10)
end Door
def cbQ1:=(ai (ai (cbP3) (@sttl)) (ai (@stapp) (ai (@stsize) (@Door.pushB_one))))

end Go.AM
set_option maxRecDepth 8000
namespace Go.AM
namespace Door
open Go.Proofs
def sL (n:Nat):Nat→List UInt8
 | 0=>[]
 | k+1=>UInt8.ofNat (48+n / 10 ^ k % 10) :: sL n k
theorem sL0 (n:Nat):sL n 0=[]:=rfl
theorem sLs (n k:Nat):sL n (k+1)=UInt8.ofNat (48+n / 10 ^ k % 10) :: sL n k:=rfl
theorem sL_len (n:Nat):∀ k,(sL n k).length=k
 | 0=>rfl
 | k+1=>by rw [sLs,List.length_cons,sL_len n k]
theorem pow_div (n k:Nat):n / 10 ^ (k+1)=n / 10 ^ k / 10:=by rw [Nat.pow_succ,Nat.div_div_eq_div_mul]
theorem dd_step (m:Nat) (s:List UInt8):Lib.decDigits m++s=(if m / 10=0 then [] else Lib.decDigits (m / 10))++(UInt8.ofNat (48+m % 10) :: s):=by
 by_cases h:m<10
 ·have:m / 10=0:=by omega
  have e:m % 10=m:=by omega
  rw [if_pos this,Lib.decDigits_one h,e];rfl
 ·have:¬ m / 10=0:=by omega
  rw [if_neg this]
  conv=>lhs;rw [Lib.decDigits,dif_neg h]
  simp
theorem formatInt_spec (n:Nat) (hn:n≤9223372036854775807):SpecAt Tryz.prog 81 [.i64 n] (AV.st (Lib.decDigits n)):=by
 have hlt:n<10 ^ 19:=by omega
 refine spec_of_awp (M:=MM) (np:=1) (fz:=true) mixed Tryz.func81 rfl rfl (by decide) rfl (Nat.le_refl _) (by decide +kernel) (.inr ⟨rfl,rfl⟩) trivial ?_
 simp -dsimp -implicitDefEqProofs (disch:=first|omega|(simp only [lenr];try omega)) only [↓amPre,↓reduceIte,reduceCtorEq,reduceEqDiff,Nat.reduceBEq,reduceAdd,reduceLeDiff,reduceSub,reduceMul,reduceToNat,MM,bu0,cbQ1,Door.sL0]
 refine awp_loop (fun k st=>k≤20∧st.fr 0=.i64 ((n / 10 ^ k:Nat):Int)∧st.fr 3=AV.st (sL n k)∧st.fr 4=.bl false∧(Lib.decDigits n=(if k≠0∧n / 10 ^ k=0 then [] else Lib.decDigits (n / 10 ^ k))++sL n k)) (20) ?_ ?_
 ·simp -dsimp -implicitDefEqProofs (disch:=first|omega|(simp only [lenr];try omega)) only [↓amPre,↓reduceIte,reduceCtorEq,reduceEqDiff,Nat.reduceBEq,reduceAdd,reduceLeDiff,reduceSub,reduceMul,reduceToNat,MM,bu0,cbQ1,Door.sL0]
  simp [sL]
 rintro k st _ ⟨hk,f0,f3,f4,ek⟩
 have hd:=sL_len n k
 have hle:n / 10 ^ k≤n:=Nat.div_le_self _ _
 by_cases hc:k≠0∧n / 10 ^ k=0
 ·have h0:¬ k=0:=hc.1
  rw [if_pos hc,List.nil_append] at ek
  have hne:(sL n k == [])=false:=by rw [← hd] at h0;cases he:sL n k with | nil=>rw [he] at h0;exact (h0 rfl).elim | cons a r=>rfl
  have hz:bne (((n / 10 ^ k:Nat):Int)) 0=false:=by rw [hc.2];rfl
  have hl21:=hd
  simp -dsimp -implicitDefEqProofs (disch:=first|omega|(simp only [lenr];try omega)) only [↓amPre,↓reduceIte,reduceCtorEq,reduceEqDiff,Nat.reduceBEq,reduceAdd,reduceLeDiff,reduceSub,reduceMul,reduceToNat,MM,bu0,cbQ1,Door.sL0,f0,f3,f4,hz,hne,ek]
  skip
 ·rw [if_neg hc] at ek
  have hk':k<19:=by
   apply Classical.byContradiction
   intro q
   have:n / 10 ^ k=0:=by
    apply Nat.div_eq_of_lt
    calc n<10 ^ 19:=hlt
     _≤10 ^ k:=Nat.pow_le_pow_right (by omega) (by omega)
   exact hc ⟨by omega,this⟩
  have hnn:(([]:List UInt8) == [])=true:=rfl
  have fin:Lib.decDigits n=(if k+1≠0∧n / 10 ^ (k+1)=0 then [] else Lib.decDigits (n / 10 ^ (k+1)))++sL n (k+1):=by
   rw [ek,sLs,pow_div,dd_step]
   by_cases hq:n / 10 ^ k / 10=0
   ·rw [if_pos hq,if_pos ⟨by omega,hq⟩]
   ·rw [if_neg hq,if_neg (fun q=>hq q.2)]
  have hs1:sL n (k+1)=UInt8.ofNat (48+n / 10 ^ k % 10) :: sL n k:=sLs n k
  have hm':=pow_div n k
  clear ek
  generalize hm:n / 10 ^ k=m at *
  generalize hM:n / 10 ^ (k+1)=m' at *
  generalize hS:sL n k=S at *
  generalize hS':sL n (k+1)=S' at *
  have e1:((m:Int)).tdiv 10=(m':Int):=by rw [hm'];rfl
  have e2:((m:Int)).tmod 10=((m % 10:Nat):Int):=rfl
  have ew:IntKind.u8.wrap ((48:Int)+((m % 10:Nat):Int))=((48+m % 10:Nat):Int):=by rw [IntWalk.u8_in _ (by omega)];omega
  have e3:((48+m % 10:Nat):Int).toNat=48+m % 10:=by omega
  by_cases h0:k=0
  ·have hSn:S=[]:=by rw [h0] at hd;exact List.eq_nil_of_length_eq_zero hd
   subst hSn
   simp -dsimp -implicitDefEqProofs (disch:=first|omega|(simp only [lenr];try omega)) only [↓amPre,↓reduceIte,reduceCtorEq,reduceEqDiff,Nat.reduceBEq,reduceAdd,reduceLeDiff,reduceSub,reduceMul,reduceToNat,MM,bu0,cbQ1,Door.sL0,f0,f3,f4,e1,e2,ew,e3,hnn]
   refine ⟨by omega,by omega,?_,fin⟩
   rw [hs1]
  ·have hne:(S == [])=false:=by rw [← hd] at h0;cases S with | nil=>exact (h0 rfl).elim | cons a r=>rfl
   have hz:bne (m:Int) 0=true:=by
    have:¬ m=0:=fun q=>hc ⟨h0,q⟩
    simp;omega
   simp -dsimp -implicitDefEqProofs (disch:=first|omega|(simp only [lenr];try omega)) only [↓amPre,↓reduceIte,reduceCtorEq,reduceEqDiff,Nat.reduceBEq,reduceAdd,reduceLeDiff,reduceSub,reduceMul,reduceToNat,MM,bu0,cbQ1,Door.sL0,f0,f3,f4,e1,e2,ew,e3,hne,hz]
   refine ⟨by omega,by omega,?_,fin⟩
   rw [hs1]
def timeT (n:Nat):List UInt8 :=
 if n<6000 then Lib.decDigits (n / 100)++[46]++twoD (n % 100)
 else Lib.decDigits (n / 6000)++[58]++twoD (n % 6000 / 100)++[46]++twoD (n % 100)
def fmtT (x:Int):List UInt8:=if x = -1 then [68,78,70] else if within x 0 360000=true then timeT x.toNat else []
end Door
def cbQ2:=(ai (cbQ1) (@Door.sL0))

end Go.AM
set_option maxRecDepth 8000
namespace Go.AM
open Go.Proofs
theorem kOk_of {k:Kind} (w1:within k.c 1 20=true) (w2:within k.o 1 20=true):kOk k:=⟨within_iff.1 w1,within_iff.1 w2⟩
def fcI (l:List Kind):Int:=if ∀ k∈l,kOk k then facets l else 21
theorem ifaceletCount (l:List Kind) (hl:l.length≤3):SpecAt Tryz.prog 100 [ksl l] (.i64 (fcI l)):=by
 refine spec_of_awp (M:=MM) (np:=1) (fz:=true) mixed Tryz.func100 rfl rfl (by decide) rfl (Nat.le_refl _) (by decide +kernel) (.inr ⟨rfl,rfl⟩) trivial ?_
 simp -dsimp -implicitDefEqProofs (disch:=first|omega|(simp only [lenr];try omega)) only [↓amPre,↓reduceIte,reduceCtorEq,reduceEqDiff,Nat.reduceBEq,reduceAdd,reduceLeDiff,reduceSub,reduceMul,reduceToNat,MM,bu0,cbP2]
 refine awp_loop (fun k st=>k≤l.length∧st.fr 8=.i64 k∧st.fr 7=.i64 l.length∧st.fr 6=ksl l∧st.fr 3=.i64 (facets (l.take k))∧∀ x∈l.take k,kOk x) (l.length) ?_ ?_
 ·simp -dsimp -implicitDefEqProofs (disch:=first|omega|(simp only [lenr];try omega)) only [↓amPre,↓reduceIte,reduceCtorEq,reduceEqDiff,Nat.reduceBEq,reduceAdd,reduceLeDiff,reduceSub,reduceMul,reduceToNat,MM,bu0,cbP2]
  simp [facets]
 rintro k st _ ⟨hk,f8,f7,f6,f3,ek⟩
 by_cases hlt:k<l.length
 ·have hmem:=mem_getD l k default hlt
  have hb:=facets_bound (l.take k) ek
  rw [List.length_take,Nat.min_eq_left (by omega)] at hb
  have ft:=facets_take l k hlt
  simp -dsimp -implicitDefEqProofs (disch:=first|omega|(simp only [lenr];try omega)) only [↓amPre,↓reduceIte,reduceCtorEq,reduceEqDiff,Nat.reduceBEq,reduceAdd,reduceLeDiff,reduceSub,reduceMul,reduceToNat,MM,bu0,cbP2,f8,f7,f6,f3]
  refine callP_of (iwithin _ _ _) ?_
  cases w1:within (l.getD k default).c 1 20 with
  | false =>
   simp -dsimp -implicitDefEqProofs (disch:=first|omega|(simp only [lenr];try omega)) only [↓amPre,↓reduceIte,reduceCtorEq,reduceEqDiff,Nat.reduceBEq,reduceAdd,reduceLeDiff,reduceSub,reduceMul,reduceToNat,MM,bu0,cbP2,w1]
   rw [fcI,if_neg]
   intro h;have:=within_iff.2 (h _ hmem).1;rw [w1] at this;cases this
  | true =>
  simp -dsimp -implicitDefEqProofs (disch:=first|omega|(simp only [lenr];try omega)) only [↓amPre,↓reduceIte,reduceCtorEq,reduceEqDiff,Nat.reduceBEq,reduceAdd,reduceLeDiff,reduceSub,reduceMul,reduceToNat,MM,bu0,cbP2,w1]
  refine callP_of (iwithin _ _ _) ?_
  cases w2:within (l.getD k default).o 1 20 with
  | false =>
   simp -dsimp -implicitDefEqProofs (disch:=first|omega|(simp only [lenr];try omega)) only [↓amPre,↓reduceIte,reduceCtorEq,reduceEqDiff,Nat.reduceBEq,reduceAdd,reduceLeDiff,reduceSub,reduceMul,reduceToNat,MM,bu0,cbP2,w1,w2]
   rw [fcI,if_neg]
   intro h;have:=within_iff.2 (h _ hmem).2;rw [w2] at this;cases this
  | true =>
  have hk:=kOk_of w1 w2
  have hp:=kOk_prod hk
  simp -dsimp -implicitDefEqProofs (disch:=first|omega|(simp only [lenr];try omega)) only [↓amPre,↓reduceIte,reduceCtorEq,reduceEqDiff,Nat.reduceBEq,reduceAdd,reduceLeDiff,reduceSub,reduceMul,reduceToNat,MM,bu0,cbP2,w1,w2,f8,f7,f6,f3,← ft]
  repeat' (first | omega | rfl | exact i64c (by omega) | exact vic (by omega) | exact (mem_take_succ (d:=default) hlt).2 ⟨ek,hk⟩ | apply And.intro)
 ·have hke:k=l.length:=by omega
  subst hke
  simp -dsimp -implicitDefEqProofs (disch:=first|omega|(simp only [lenr];try omega)) only [↓amPre,↓reduceIte,reduceCtorEq,reduceEqDiff,Nat.reduceBEq,reduceAdd,reduceLeDiff,reduceSub,reduceMul,reduceToNat,MM,bu0,cbP2,f8,f7,f6,f3,List.take_length]
  rw [List.take_length] at ek
  rw [fcI,if_pos ek]
theorem sFacelets (l:List Kind) (hl:kindsOk l):SpecAt Tryz.prog 110 [ksl l] (.i64 (facets l)):=by
 obtain ⟨⟨hl1,hl2⟩,hks,hf⟩:=hl
 refine spec_of_awp (M:=MM) (np:=1) (fz:=true) mixed Tryz.func110 rfl rfl (by decide) rfl (Nat.le_refl _) (by decide +kernel) (.inr ⟨rfl,rfl⟩) trivial ?_
 simp -dsimp -implicitDefEqProofs (disch:=first|omega|(simp only [lenr];try omega)) only [↓amPre,↓reduceIte,reduceCtorEq,reduceEqDiff,Nat.reduceBEq,reduceAdd,reduceLeDiff,reduceSub,reduceMul,reduceToNat,MM,bu0,cbP2]
 refine awp_loop (fun k st=>k≤l.length∧st.fr 4=.i64 k∧st.fr 0=ksl l∧st.fr 3=.i64 (facets (l.take k))) (l.length) ?_ ?_
 ·simp -dsimp -implicitDefEqProofs (disch:=first|omega|(simp only [lenr];try omega)) only [↓amPre,↓reduceIte,reduceCtorEq,reduceEqDiff,Nat.reduceBEq,reduceAdd,reduceLeDiff,reduceSub,reduceMul,reduceToNat,MM,bu0,cbP2]
  simp [facets]
 rintro k st _ ⟨hk,f4,f0,f3⟩
 by_cases hlt:k<l.length
 ·have hp:=kOk_prod (hks _ (mem_getD l k default hlt))
  have hm:=facets_mono l hks k
  have ft:=facets_take l k hlt
  simp -dsimp -implicitDefEqProofs (disch:=first|omega|(simp only [lenr];try omega)) only [↓amPre,↓reduceIte,reduceCtorEq,reduceEqDiff,Nat.reduceBEq,reduceAdd,reduceLeDiff,reduceSub,reduceMul,reduceToNat,MM,bu0,cbP2,f4,f0,f3,← ft]
  repeat' (first|omega|rfl|exact i64c (by omega)|exact vic (by omega)|apply ai)
 ·have hke:k=l.length:=by omega
  subst hke
  simp -dsimp -implicitDefEqProofs (disch:=first|omega|(simp only [lenr];try omega)) only [↓amPre,↓reduceIte,reduceCtorEq,reduceEqDiff,Nat.reduceBEq,reduceAdd,reduceLeDiff,reduceSub,reduceMul,reduceToNat,MM,bu0,cbP2,f4,f0,f3,List.take_length]
theorem iAreValidKinds (l:List Kind) (hl:l.length≤1099511627776):SpecAt Tryz.prog 46 [ksl l] (.bl (decide (kindsOk l))):=by
 refine spec_of_awp (M:=MM) (np:=1) (fz:=true) mixed Tryz.func46 rfl rfl (by decide) rfl (Nat.le_refl _) (by decide +kernel) (.inr ⟨rfl,rfl⟩) trivial ?_
 simp -dsimp -implicitDefEqProofs (disch:=first|omega|(simp only [lenr];try omega)) only [↓amPre,↓reduceIte,reduceCtorEq,reduceEqDiff,Nat.reduceBEq,reduceAdd,reduceLeDiff,reduceSub,reduceMul,reduceToNat,MM,bu0,cbP2]
 refine callP_of (lenK _) ?_
 simp -dsimp -implicitDefEqProofs (disch:=first|omega|(simp only [lenr];try omega)) only [↓amPre,↓reduceIte,reduceCtorEq,reduceEqDiff,Nat.reduceBEq,reduceAdd,reduceLeDiff,reduceSub,reduceMul,reduceToNat,MM,bu0,cbP2]
 refine callP_of (iwithin _ _ _) ?_
 cases w:within l.length 1 3 with
 | false =>
  simp -dsimp -implicitDefEqProofs (disch:=first|omega|(simp only [lenr];try omega)) only [↓amPre,↓reduceIte,reduceCtorEq,reduceEqDiff,Nat.reduceBEq,reduceAdd,reduceLeDiff,reduceSub,reduceMul,reduceToNat,MM,bu0,cbP2,w]
  rw [within_not] at w
  have:¬ kindsOk l:=fun h=>by have:=h.1;omega
  simp [this]
 | true =>
 have w':=within_iff.1 w
 simp -dsimp -implicitDefEqProofs (disch:=first|omega|(simp only [lenr];try omega)) only [↓amPre,↓reduceIte,reduceCtorEq,reduceEqDiff,Nat.reduceBEq,reduceAdd,reduceLeDiff,reduceSub,reduceMul,reduceToNat,MM,bu0,cbP2,w]
 refine callP_of (ifaceletCount _ (by omega)) ?_
 simp -dsimp -implicitDefEqProofs (disch:=first|omega|(simp only [lenr];try omega)) only [↓amPre,↓reduceIte,reduceCtorEq,reduceEqDiff,Nat.reduceBEq,reduceAdd,reduceLeDiff,reduceSub,reduceMul,reduceToNat,MM,bu0,cbP2,w]
 refine bl_eq ?_
 simp only [decide_eq_true_eq]
 unfold fcI kindsOk
 split
 ·rename_i h;exact ⟨fun q=>⟨by omega,h,q⟩,fun q=>q.2.2⟩
 ·rename_i h;exact ⟨fun q=>by omega,fun q=>(h q.2.1).elim⟩
theorem sAreValidKinds (l:List Kind) (hl:l.length≤1099511627776):SpecAt Tryz.prog 44 [ksl l] (.bl (decide (kindsOk l))):=by
 refine spec_of_awp (M:=MM) (np:=1) (fz:=true) mixed Tryz.func44 rfl rfl (by decide) rfl (Nat.le_refl _) (by decide +kernel) (.inr ⟨rfl,rfl⟩) trivial ?_
 simp -dsimp -implicitDefEqProofs (disch:=first|omega|(simp only [lenr];try omega)) only [↓amPre,↓reduceIte,reduceCtorEq,reduceEqDiff,Nat.reduceBEq,reduceAdd,reduceLeDiff,reduceSub,reduceMul,reduceToNat,MM,bu0,cbP2]
 refine callP_of (inRange _ _ _) ?_
 cases w:within l.length 1 3 with
 | false =>
  simp -dsimp -implicitDefEqProofs (disch:=first|omega|(simp only [lenr];try omega)) only [↓amPre,↓reduceIte,reduceCtorEq,reduceEqDiff,Nat.reduceBEq,reduceAdd,reduceLeDiff,reduceSub,reduceMul,reduceToNat,MM,bu0,cbP2,w]
  rw [within_not] at w
  have:¬ kindsOk l:=fun h=>by have:=h.1;omega
  simp [this]
 | true =>
 have w':=within_iff.1 w
 simp -dsimp -implicitDefEqProofs (disch:=first|omega|(simp only [lenr];try omega)) only [↓amPre,↓reduceIte,reduceCtorEq,reduceEqDiff,Nat.reduceBEq,reduceAdd,reduceLeDiff,reduceSub,reduceMul,reduceToNat,MM,bu0,cbP2,w]
 refine awp_loop (fun k st=>k≤l.length∧st.fr 4=.i64 k∧st.fr 0=ksl l∧st.fr 3=.i64 (facets (l.take k))∧∀ x∈l.take k,kOk x) (l.length) ?_ ?_
 ·simp -dsimp -implicitDefEqProofs (disch:=first|omega|(simp only [lenr];try omega)) only [↓amPre,↓reduceIte,reduceCtorEq,reduceEqDiff,Nat.reduceBEq,reduceAdd,reduceLeDiff,reduceSub,reduceMul,reduceToNat,MM,bu0,cbP2]
  simp [facets]
 rintro k st _ ⟨hk,f4,f0,f3,ek⟩
 by_cases hlt:k<l.length
 ·have hmem:=mem_getD l k default hlt
  have hb:=facets_bound (l.take k) ek
  rw [List.length_take,Nat.min_eq_left (by omega)] at hb
  have ft:=facets_take l k hlt
  simp -dsimp -implicitDefEqProofs (disch:=first|omega|(simp only [lenr];try omega)) only [↓amPre,↓reduceIte,reduceCtorEq,reduceEqDiff,Nat.reduceBEq,reduceAdd,reduceLeDiff,reduceSub,reduceMul,reduceToNat,MM,bu0,cbP2,f4,f0,f3]
  refine callP_of (inRange _ _ _) ?_
  cases w1:within (l.getD k default).c 1 20 with
  | false =>
   simp -dsimp -implicitDefEqProofs (disch:=first|omega|(simp only [lenr];try omega)) only [↓amPre,↓reduceIte,reduceCtorEq,reduceEqDiff,Nat.reduceBEq,reduceAdd,reduceLeDiff,reduceSub,reduceMul,reduceToNat,MM,bu0,cbP2,w1]
   have:¬ kindsOk l:=fun h=>by have:=within_iff.2 (h.2.1 _ hmem).1;rw [w1] at this;cases this
   simp [this]
  | true =>
  simp -dsimp -implicitDefEqProofs (disch:=first|omega|(simp only [lenr];try omega)) only [↓amPre,↓reduceIte,reduceCtorEq,reduceEqDiff,Nat.reduceBEq,reduceAdd,reduceLeDiff,reduceSub,reduceMul,reduceToNat,MM,bu0,cbP2,w1,f4,f0,f3]
  refine callP_of (inRange _ _ _) ?_
  cases w2:within (l.getD k default).o 1 20 with
  | false =>
   simp -dsimp -implicitDefEqProofs (disch:=first|omega|(simp only [lenr];try omega)) only [↓amPre,↓reduceIte,reduceCtorEq,reduceEqDiff,Nat.reduceBEq,reduceAdd,reduceLeDiff,reduceSub,reduceMul,reduceToNat,MM,bu0,cbP2,w1,w2]
   have:¬ kindsOk l:=fun h=>by have:=within_iff.2 (h.2.1 _ hmem).2;rw [w2] at this;cases this
   simp [this]
  | true =>
  have hk:=kOk_of w1 w2
  have hp:=kOk_prod hk
  simp -dsimp -implicitDefEqProofs (disch:=first|omega|(simp only [lenr];try omega)) only [↓amPre,↓reduceIte,reduceCtorEq,reduceEqDiff,Nat.reduceBEq,reduceAdd,reduceLeDiff,reduceSub,reduceMul,reduceToNat,MM,bu0,cbP2,w1,w2,f4,f0,f3,← ft]
  repeat' (first | omega | rfl | exact i64c (by omega) | exact vic (by omega) | exact (mem_take_succ (d:=default) hlt).2 ⟨ek,hk⟩ | apply And.intro)
 ·have hke:k=l.length:=by omega
  subst hke
  simp -dsimp -implicitDefEqProofs (disch:=first|omega|(simp only [lenr];try omega)) only [↓amPre,↓reduceIte,reduceCtorEq,reduceEqDiff,Nat.reduceBEq,reduceAdd,reduceLeDiff,reduceSub,reduceMul,reduceToNat,MM,bu0,cbP2,f4,f0,f3,List.take_length]
  rw [List.take_length] at ek
  refine bl_eq ?_
  simp only [decide_eq_true_eq]
  unfold kindsOk
  exact ⟨fun q=>⟨by omega,ek,q⟩,fun q=>q.2.2⟩
def stR (l:List Kind):Int:=if kindsOk l then stC l else 0
end Go.AM
set_option maxRecDepth 8000
namespace Go.AM
open Go.Proofs
def fidx (pr:Int→Bool) (l:List Int):Int:=match l.findIdx? pr with | some i=>i | none=>-1
theorem fidx_nonneg (pr:Int→Bool) (l:List Int):0≤fidx pr l↔l.any pr=true:=by
 unfold fidx
 split
 ·rename_i i e
  rw [List.findIdx?_eq_some_iff_getElem] at e
  obtain ⟨hi,h1,_⟩:=e
  simp only [List.any_eq_true]
  exact ⟨fun _=>⟨_,List.getElem_mem hi,h1⟩,fun _=>by omega⟩
 ·rename_i e
  rw [List.findIdx?_eq_none_iff] at e
  simp only [List.any_eq_true]
  exact ⟨fun q=>by omega,fun ⟨x,hx,hp⟩=>by rw [e x hx] at hp;cases hp⟩
theorem indexFunc (l:List Int) (g:FuncId) (caps:List AV) (pr:Int→Bool) (hM:MM g=[]) (hb:AV.bearsL caps=false) (hv:∀ mem,AV.views mem caps=caps) (h:∀ x∈l,SpecAt Tryz.prog g ([.i64 x]++caps) (.bl (pr x))) (hl:l.length≤1099511627776) :
  SpecAt Tryz.prog 138 [isl l,.fn g caps] (.i64 (fidx pr l)):=by
 unfold MM at hM
 refine spec_of_awp (M:=MM) (np:=2) (fz:=true) mixed Tryz.func138 rfl rfl (by decide) rfl (Nat.le_refl _) (by decide +kernel) (.inr ⟨rfl,rfl⟩) trivial ?_
 simp -dsimp -implicitDefEqProofs (disch:=first|omega|(simp only [lenr];try omega)) only [↓amPre,↓reduceIte,reduceCtorEq,reduceEqDiff,Nat.reduceBEq,reduceAdd,reduceLeDiff,reduceSub,reduceMul,reduceToNat,MM,bu0,cbP2]
 refine awp_loop (fun k st=>k≤l.length∧st.fr 8=.i64 k∧st.fr 7=.i64 l.length∧st.fr 0=isl l∧st.fr 1=.fn g caps∧∀ x∈l.take k,pr x=false) (l.length) ?_ ?_
 ·simp -dsimp -implicitDefEqProofs (disch:=first|omega|(simp only [lenr];try omega)) only [↓amPre,↓reduceIte,reduceCtorEq,reduceEqDiff,Nat.reduceBEq,reduceAdd,reduceLeDiff,reduceSub,reduceMul,reduceToNat,MM,bu0,cbP2]
  simp
 rintro k st _ ⟨hk,f8,f7,f0,f1,ek⟩
 by_cases hlt:k<l.length
 ·have hmem:=mem_getD l k 0 hlt
  simp -dsimp -implicitDefEqProofs (disch:=first|omega|(simp only [lenr];try omega)) only [↓amPre,↓reduceIte,reduceCtorEq,reduceEqDiff,Nat.reduceBEq,reduceAdd,reduceLeDiff,reduceSub,reduceMul,reduceToNat,MM,bu0,cbP2,f8,f7,f0,f1,hM,hb,hv]
  refine callP_of (h _ hmem) ?_
  cases w:pr (l.getD k 0) with
  | true =>
   simp -dsimp -implicitDefEqProofs (disch:=first|omega|(simp only [lenr];try omega)) only [↓amPre,↓reduceIte,reduceCtorEq,reduceEqDiff,Nat.reduceBEq,reduceAdd,reduceLeDiff,reduceSub,reduceMul,reduceToNat,MM,bu0,cbP2,f8,f7,f0,f1,w]
   have:l.findIdx? pr=some k:=by
    rw [List.findIdx?_eq_some_iff_getElem]
    refine ⟨hlt,by rw [← getD_eq l k 0 hlt];exact w,fun j hj=>?_⟩
    have:=ek (l[j]) (by rw [List.mem_take_iff_getElem];exact ⟨j,by omega,rfl⟩)
    simpa using this
   rw [fidx,this]
  | false =>
   simp -dsimp -implicitDefEqProofs (disch:=first|omega|(simp only [lenr];try omega)) only [↓amPre,↓reduceIte,reduceCtorEq,reduceEqDiff,Nat.reduceBEq,reduceAdd,reduceLeDiff,reduceSub,reduceMul,reduceToNat,MM,bu0,cbP2,f8,f7,f0,f1,w]
   repeat' (first | omega | rfl | exact i64c (by omega) | exact vic (by omega) | exact (mem_take_succ (d:=0) hlt).2 ⟨ek,w⟩ | apply And.intro)
 ·have hke:k=l.length:=by omega
  subst hke
  rw [List.take_length] at ek
  simp -dsimp -implicitDefEqProofs (disch:=first|omega|(simp only [lenr];try omega)) only [↓amPre,↓reduceIte,reduceCtorEq,reduceEqDiff,Nat.reduceBEq,reduceAdd,reduceLeDiff,reduceSub,reduceMul,reduceToNat,MM,bu0,cbP2,f8,f7,f0,f1]
  have:l.findIdx? pr=none:=by rw [List.findIdx?_eq_none_iff];exact ek
  rw [fidx,this]
theorem containsFunc (l:List Int) (g:FuncId) (caps:List AV) (pr:Int→Bool) (hM:MM g=[]) (hb:AV.bearsL caps=false) (hv:∀ mem,AV.views mem caps=caps) (h:∀ x∈l,SpecAt Tryz.prog g ([.i64 x]++caps) (.bl (pr x))) (hl:l.length≤1099511627776) :
  SpecAt Tryz.prog 113 [isl l,.fn g caps] (.bl (l.any pr)):=by
 refine spec_of_awp (M:=MM) (np:=2) (fz:=true) mixed Tryz.func113 rfl rfl (by decide) rfl (Nat.le_refl _) (by decide +kernel) (.inr ⟨rfl,rfl⟩) trivial ?_
 simp -dsimp -implicitDefEqProofs (disch:=first|omega|(simp only [lenr];try omega)) only [↓amPre,↓reduceIte,reduceCtorEq,reduceEqDiff,Nat.reduceBEq,reduceAdd,reduceLeDiff,reduceSub,reduceMul,reduceToNat,MM,bu0,cbP2,hb,hv]
 refine callP_of (indexFunc l g caps pr hM hb hv h hl) ?_
 simp -dsimp -implicitDefEqProofs (disch:=first|omega|(simp only [lenr];try omega)) only [↓amPre,↓reduceIte,reduceCtorEq,reduceEqDiff,Nat.reduceBEq,reduceAdd,reduceLeDiff,reduceSub,reduceMul,reduceToNat,MM,bu0,cbP2]
 refine bl_eq ?_
 simp only [decide_eq_true_eq,fidx_nonneg]
theorem isTwist1 (x c o:Int) (ho:0≤o) (ho1:o≤20):SpecAt Tryz.prog 127 [.i64 x,.ep [.i64 c,.i64 o]] (.bl (!within x 0 (o - 1))):=by
 refine spec_of_awp (M:=MM) (np:=2) (fz:=true) mixed Tryz.func127 rfl rfl (by decide) rfl (Nat.le_refl _) (by decide +kernel) (.inr ⟨rfl,rfl⟩) trivial ?_
 simp -dsimp -implicitDefEqProofs (disch:=first|omega|(simp only [lenr];try omega)) only [↓amPre,↓reduceIte,reduceCtorEq,reduceEqDiff,Nat.reduceBEq,reduceAdd,reduceLeDiff,reduceSub,reduceMul,reduceToNat,MM,bu0,cbP2]
 refine callP_of (iwithin _ _ _) ?_
 simp -dsimp -implicitDefEqProofs (disch:=first|omega|(simp only [lenr];try omega)) only [↓amPre,↓reduceIte,reduceCtorEq,reduceEqDiff,Nat.reduceBEq,reduceAdd,reduceLeDiff,reduceSub,reduceMul,reduceToNat,MM,bu0,cbP2]
theorem isTwist (k:Kind) (t:Twist) (hk:kOk k) (h1:t.to.length≤1099511627776) (h2:t.by'.length≤1099511627776):SpecAt Tryz.prog 97 [k.av,t.sl] (.bl (decide (twOk k t))):=by
 refine spec_of_awp (M:=MM) (np:=2) (fz:=true) mixed Tryz.func97 rfl rfl (by decide) rfl (Nat.le_refl _) (by decide +kernel) (.inr ⟨rfl,rfl⟩) trivial ?_
 simp -dsimp -implicitDefEqProofs (disch:=first|omega|(simp only [lenr];try omega)) only [↓amPre,↓reduceIte,reduceCtorEq,reduceEqDiff,Nat.reduceBEq,reduceAdd,reduceLeDiff,reduceSub,reduceMul,reduceToNat,MM,bu0,cbP2]
 refine callP_of (lenI _) ?_
 have fin:∀ b:Bool,(b=true↔twOk k t)→Value.bool b=Value.bool (decide (twOk k t)):=fun b h=>bl_eq (by rw [h,decide_eq_true_iff])
 by_cases c1:(t.to.length:Int)=k.c
 ·simp -dsimp -implicitDefEqProofs (disch:=first|omega|(simp only [lenr];try omega)) only [↓amPre,↓reduceIte,reduceCtorEq,reduceEqDiff,Nat.reduceBEq,reduceAdd,reduceLeDiff,reduceSub,reduceMul,reduceToNat,MM,bu0,cbP2,eq_true c1]
  refine callP_of (iIsPerm _ h1) ?_
  by_cases c2:isPerm t.to
  ·simp -dsimp -implicitDefEqProofs (disch:=first|omega|(simp only [lenr];try omega)) only [↓amPre,↓reduceIte,reduceCtorEq,reduceEqDiff,Nat.reduceBEq,reduceAdd,reduceLeDiff,reduceSub,reduceMul,reduceToNat,MM,bu0,cbP2,eq_true c1,c2]
   refine callP_of (lenI _) ?_
   by_cases c3:(t.by'.length:Int)=k.c
   ·simp -dsimp -implicitDefEqProofs (disch:=first|omega|(simp only [lenr];try omega)) only [↓amPre,↓reduceIte,reduceCtorEq,reduceEqDiff,Nat.reduceBEq,reduceAdd,reduceLeDiff,reduceSub,reduceMul,reduceToNat,MM,bu0,cbP2,eq_true c1,c2,eq_true c3]
    refine callP_of (containsFunc t.by' _ _ (fun x=>!within x 0 (k.o - 1)) rfl rfl (fun _=>rfl) (fun x _=>isTwist1 x k.c k.o (by have:=hk.2;omega) hk.2.2) h2) ?_
    simp -dsimp -implicitDefEqProofs (disch:=first|omega|(simp only [lenr];try omega)) only [↓amPre,↓reduceIte,reduceCtorEq,reduceEqDiff,Nat.reduceBEq,reduceAdd,reduceLeDiff,reduceSub,reduceMul,reduceToNat,MM,bu0,cbP2,eq_true c1,c2,eq_true c3]
    refine fin _ ?_
    simp only [Bool.not_eq_true',List.any_eq_false,Bool.not_eq_true,Bool.not_eq_false',Bool.not_eq_false,within_iff,twOk,c1,c2,c3,true_and]
    exact ⟨fun q x hx=>by have:=q x hx;omega,fun q x hx=>by have:=q x hx;omega⟩
   ·simp -dsimp -implicitDefEqProofs (disch:=first|omega|(simp only [lenr];try omega)) only [↓amPre,↓reduceIte,reduceCtorEq,reduceEqDiff,Nat.reduceBEq,reduceAdd,reduceLeDiff,reduceSub,reduceMul,reduceToNat,MM,bu0,cbP2,eq_true c1,c2,eq_false c3]
    refine fin _ ?_
    simp only [twOk,c3,false_and,and_false,reduceCtorEq]
  ·simp -dsimp -implicitDefEqProofs (disch:=first|omega|(simp only [lenr];try omega)) only [↓amPre,↓reduceIte,reduceCtorEq,reduceEqDiff,Nat.reduceBEq,reduceAdd,reduceLeDiff,reduceSub,reduceMul,reduceToNat,MM,bu0,cbP2,eq_true c1,c2]
   refine fin _ ?_
   simp only [twOk,c2,false_and,and_false,reduceCtorEq]
 ·simp -dsimp -implicitDefEqProofs (disch:=first|omega|(simp only [lenr];try omega)) only [↓amPre,↓reduceIte,reduceCtorEq,reduceEqDiff,Nat.reduceBEq,reduceAdd,reduceLeDiff,reduceSub,reduceMul,reduceToNat,MM,bu0,cbP2,eq_false c1]
  refine fin _ ?_
  simp only [twOk,c1,false_and,and_false,reduceCtorEq]
theorem sValidTwist (k:Kind) (t:Twist) (hk:kOk k) (h1:t.to.length≤1099511627776) (h2:t.by'.length≤1099511627776):SpecAt Tryz.prog 45 [k.av,t.sl] (.bl (decide (twOk k t))):=by
 have hk2:=hk.2
 refine spec_of_awp (M:=MM) (np:=2) (fz:=true) mixed Tryz.func45 rfl rfl (by decide) rfl (Nat.le_refl _) (by decide +kernel) (.inr ⟨rfl,rfl⟩) trivial ?_
 simp -dsimp -implicitDefEqProofs (disch:=first|omega|(simp only [lenr];try omega)) only [↓amPre,↓reduceIte,reduceCtorEq,reduceEqDiff,Nat.reduceBEq,reduceAdd,reduceLeDiff,reduceSub,reduceMul,reduceToNat,MM,bu0,cbP2]
 have fin:∀ b:Bool,(b=true↔twOk k t)→Value.bool b=Value.bool (decide (twOk k t)):=fun b h=>bl_eq (by rw [h,decide_eq_true_iff])
 by_cases c1:(t.to.length:Int)=k.c
 ·by_cases c3:(t.by'.length:Int)=k.c
  ·simp -dsimp -implicitDefEqProofs (disch:=first|omega|(simp only [lenr];try omega)) only [↓amPre,↓reduceIte,reduceCtorEq,reduceEqDiff,Nat.reduceBEq,reduceAdd,reduceLeDiff,reduceSub,reduceMul,reduceToNat,MM,bu0,cbP2,ne_false c1,ne_false c3]
   refine callP_of (sIsPerm _ h1) ?_
   by_cases c2:isPerm t.to
   ·simp -dsimp -implicitDefEqProofs (disch:=first|omega|(simp only [lenr];try omega)) only [↓amPre,↓reduceIte,reduceCtorEq,reduceEqDiff,Nat.reduceBEq,reduceAdd,reduceLeDiff,reduceSub,reduceMul,reduceToNat,MM,bu0,cbP2,c2]
    refine awp_loop (fun j st=>j≤t.by'.length∧st.fr 5=.i64 j∧st.fr 2=.loc 2 [] 0 0∧st.fr 3=.loc 3 [] 0 0∧st.mem 2=some (.pt 2 k.av)∧st.mem 3=some (.pt 2 (.agg [isl t.to,isl t.by']))∧∀ x∈t.by'.take j,0≤x∧x<k.o) (t.by'.length) ?_ ?_
    ·simp -dsimp -implicitDefEqProofs (disch:=first|omega|(simp only [lenr];try omega)) only [↓amPre,↓reduceIte,reduceCtorEq,reduceEqDiff,Nat.reduceBEq,reduceAdd,reduceLeDiff,reduceSub,reduceMul,reduceToNat,MM,bu0,cbP2]
     simp
    rintro j st _ ⟨hj,f5,f2,f3,m2,m3,ej⟩
    by_cases hlt:j<t.by'.length
    ·simp -dsimp -implicitDefEqProofs (disch:=first|omega|(simp only [lenr];try omega)) only [↓amPre,↓reduceIte,reduceCtorEq,reduceEqDiff,Nat.reduceBEq,reduceAdd,reduceLeDiff,reduceSub,reduceMul,reduceToNat,MM,bu0,cbP2,f5,f2,f3,m2,m3]
     refine callP_of (inRange _ _ _) ?_
     cases w:within (t.by'.getD j 0) 0 (k.o - 1) with
     | false =>
      simp -dsimp -implicitDefEqProofs (disch:=first|omega|(simp only [lenr];try omega)) only [↓amPre,↓reduceIte,reduceCtorEq,reduceEqDiff,Nat.reduceBEq,reduceAdd,reduceLeDiff,reduceSub,reduceMul,reduceToNat,MM,bu0,cbP2,w]
      refine fin _ ?_
      rw [within_not] at w
      simp only [reduceCtorEq,false_iff]
      intro q;have:=q.2.2.2 _ (mem_getD _ j 0 hlt);omega
     | true =>
      rw [within_iff] at w
      simp -dsimp -implicitDefEqProofs (disch:=first|omega|(simp only [lenr];try omega)) only [↓amPre,↓reduceIte,reduceCtorEq,reduceEqDiff,Nat.reduceBEq,reduceAdd,reduceLeDiff,reduceSub,reduceMul,reduceToNat,MM,bu0,cbP2,f5,f2,f3,m2,m3,within_iff.2 w]
      repeat' (first | omega | rfl | exact i64c (by omega) | exact vic (by omega) | exact (mem_take_succ (d:=0) hlt).2 ⟨ej,by omega⟩ | apply And.intro)
    ·have hje:j=t.by'.length:=by omega
     subst hje
     rw [List.take_length] at ej
     simp -dsimp -implicitDefEqProofs (disch:=first|omega|(simp only [lenr];try omega)) only [↓amPre,↓reduceIte,reduceCtorEq,reduceEqDiff,Nat.reduceBEq,reduceAdd,reduceLeDiff,reduceSub,reduceMul,reduceToNat,MM,bu0,cbP2,f5,f2,f3,m2,m3]
     refine fin _ ?_
     simp only [true_iff]
     exact ⟨c1,c3,c2,ej⟩
   ·simp -dsimp -implicitDefEqProofs (disch:=first|omega|(simp only [lenr];try omega)) only [↓amPre,↓reduceIte,reduceCtorEq,reduceEqDiff,Nat.reduceBEq,reduceAdd,reduceLeDiff,reduceSub,reduceMul,reduceToNat,MM,bu0,cbP2,c2]
    refine fin _ ?_
    simp only [twOk,c2,false_and,and_false,reduceCtorEq]
  ·simp -dsimp -implicitDefEqProofs (disch:=first|omega|(simp only [lenr];try omega)) only [↓amPre,↓reduceIte,reduceCtorEq,reduceEqDiff,Nat.reduceBEq,reduceAdd,reduceLeDiff,reduceSub,reduceMul,reduceToNat,MM,bu0,cbP2,ne_false c1,ne_true c3]
   refine fin _ ?_
   simp only [twOk,c3,false_and,and_false,reduceCtorEq]
 ·simp -dsimp -implicitDefEqProofs (disch:=first|omega|(simp only [lenr];try omega)) only [↓amPre,↓reduceIte,reduceCtorEq,reduceEqDiff,Nat.reduceBEq,reduceAdd,reduceLeDiff,reduceSub,reduceMul,reduceToNat,MM,bu0,cbP2,ne_true c1]
  refine fin _ ?_
  simp only [twOk,c1,false_and,and_false,reduceCtorEq]
theorem iIsPieceState (ks:List Kind) (s:List Twist) (h1:ks.length≤1099511627776) (h2:s.length≤1099511627776) (h3:∀ t∈s,t.to.length≤1099511627776∧t.by'.length≤1099511627776):SpecAt Tryz.prog 42 [ksl ks,tsl s] (.bl (decide (psOk ks s))):=by
 refine spec_of_awp (M:=MM) (np:=2) (fz:=true) mixed Tryz.func42 rfl rfl (by decide) rfl (Nat.le_refl _) (by decide +kernel) (.inr ⟨rfl,rfl⟩) trivial ?_
 simp -dsimp -implicitDefEqProofs (disch:=first|omega|(simp only [lenr];try omega)) only [↓amPre,↓reduceIte,reduceCtorEq,reduceEqDiff,Nat.reduceBEq,reduceAdd,reduceLeDiff,reduceSub,reduceMul,reduceToNat,MM,bu0,cbP2]
 refine callP_of (iAreValidKinds _ h1) ?_
 have fin:∀ b:Bool,(b=true↔psOk ks s)→Value.bool b=Value.bool (decide (psOk ks s)):=fun b h=>bl_eq (by rw [h,decide_eq_true_iff])
 by_cases c1:kindsOk ks
 ·by_cases c2:(s.length:Int)=ks.length
  ·have c2':s.length=ks.length:=by omega
   simp -dsimp -implicitDefEqProofs (disch:=first|omega|(simp only [lenr];try omega)) only [↓amPre,↓reduceIte,reduceCtorEq,reduceEqDiff,Nat.reduceBEq,reduceAdd,reduceLeDiff,reduceSub,reduceMul,reduceToNat,MM,bu0,cbP2,c1,ne_false c2]
   refine awp_loop (fun k st=>k≤ks.length∧st.fr 19=.i64 k∧st.fr 18=.i64 ks.length∧st.fr 17=ksl ks∧st.fr 1=tsl s∧∀ i,i<k→twOk (ks.getD i default) (s.getD i default)) (ks.length) ?_ ?_
   ·simp -dsimp -implicitDefEqProofs (disch:=first|omega|(simp only [lenr];try omega)) only [↓amPre,↓reduceIte,reduceCtorEq,reduceEqDiff,Nat.reduceBEq,reduceAdd,reduceLeDiff,reduceSub,reduceMul,reduceToNat,MM,bu0,cbP2]
    simp
   rintro k st _ ⟨hk,f19,f18,f17,f1,ek⟩
   by_cases hlt:k<ks.length
   ·obtain ⟨e1,e2⟩:=h3 _ (mem_getD s k default (by omega))
    simp -dsimp -implicitDefEqProofs (disch:=first|omega|(simp only [lenr];try omega)) only [↓amPre,↓reduceIte,reduceCtorEq,reduceEqDiff,Nat.reduceBEq,reduceAdd,reduceLeDiff,reduceSub,reduceMul,reduceToNat,MM,bu0,cbP2,f19,f18,f17,f1]
    refine callP_of (isTwist (ks.getD k default) (s.getD k default) (c1.2.1 _ (mem_getD ks k default hlt)) e1 e2) ?_
    by_cases w:twOk (ks.getD k default) (s.getD k default)
    ·simp -dsimp -implicitDefEqProofs (disch:=first|omega|(simp only [lenr];try omega)) only [↓amPre,↓reduceIte,reduceCtorEq,reduceEqDiff,Nat.reduceBEq,reduceAdd,reduceLeDiff,reduceSub,reduceMul,reduceToNat,MM,bu0,cbP2,f19,f18,f17,f1,w]
     refine ⟨hlt,hlt,fun i hi=>?_⟩
     by_cases e:i=k
     ·subst e;exact w
     ·exact ek i (by omega)
    ·simp -dsimp -implicitDefEqProofs (disch:=first|omega|(simp only [lenr];try omega)) only [↓amPre,↓reduceIte,reduceCtorEq,reduceEqDiff,Nat.reduceBEq,reduceAdd,reduceLeDiff,reduceSub,reduceMul,reduceToNat,MM,bu0,cbP2,f19,f18,f17,f1,w]
     refine fin _ ?_
     simp only [reduceCtorEq,false_iff]
     intro q;exact w (q.2.2 k hlt)
   ·have hke:k=ks.length:=by omega
    subst hke
    simp -dsimp -implicitDefEqProofs (disch:=first|omega|(simp only [lenr];try omega)) only [↓amPre,↓reduceIte,reduceCtorEq,reduceEqDiff,Nat.reduceBEq,reduceAdd,reduceLeDiff,reduceSub,reduceMul,reduceToNat,MM,bu0,cbP2,f19,f18,f17,f1]
    refine fin _ ?_
    simp only [true_iff]
    exact ⟨c1,c2',ek⟩
  ·simp -dsimp -implicitDefEqProofs (disch:=first|omega|(simp only [lenr];try omega)) only [↓amPre,↓reduceIte,reduceCtorEq,reduceEqDiff,Nat.reduceBEq,reduceAdd,reduceLeDiff,reduceSub,reduceMul,reduceToNat,MM,bu0,cbP2,c1,ne_true c2]
   refine fin _ ?_
   simp only [reduceCtorEq,false_iff]
   intro q;have:=q.2.1;omega
 ·simp -dsimp -implicitDefEqProofs (disch:=first|omega|(simp only [lenr];try omega)) only [↓amPre,↓reduceIte,reduceCtorEq,reduceEqDiff,Nat.reduceBEq,reduceAdd,reduceLeDiff,reduceSub,reduceMul,reduceToNat,MM,bu0,cbP2,c1]
  refine fin _ ?_
  simp only [reduceCtorEq,false_iff]
  exact fun q=>c1 q.1
theorem sIsPieceState (ks:List Kind) (s:List Twist) (h1:ks.length≤1099511627776) (h2:s.length≤1099511627776) (h3:∀ t∈s,t.to.length≤1099511627776∧t.by'.length≤1099511627776):SpecAt Tryz.prog 11 [ksl ks,tsl s] (.bl (decide (psOk ks s))):=by
 refine spec_of_awp (M:=MM) (np:=2) (fz:=true) mixed Tryz.func11 rfl rfl (by decide) rfl (Nat.le_refl _) (by decide +kernel) (.inr ⟨rfl,rfl⟩) trivial ?_
 simp -dsimp -implicitDefEqProofs (disch:=first|omega|(simp only [lenr];try omega)) only [↓amPre,↓reduceIte,reduceCtorEq,reduceEqDiff,Nat.reduceBEq,reduceAdd,reduceLeDiff,reduceSub,reduceMul,reduceToNat,MM,bu0,cbP2]
 refine callP_of (sAreValidKinds _ h1) ?_
 have fin:∀ b:Bool,(b=true↔psOk ks s)→Value.bool b=Value.bool (decide (psOk ks s)):=fun b h=>bl_eq (by rw [h,decide_eq_true_iff])
 by_cases c1:kindsOk ks
 ·by_cases c2:(s.length:Int)=ks.length
  ·have c2':s.length=ks.length:=by omega
   simp -dsimp -implicitDefEqProofs (disch:=first|omega|(simp only [lenr];try omega)) only [↓amPre,↓reduceIte,reduceCtorEq,reduceEqDiff,Nat.reduceBEq,reduceAdd,reduceLeDiff,reduceSub,reduceMul,reduceToNat,MM,bu0,cbP2,c1,ne_false c2]
   refine awp_loop (fun k st=>k≤ks.length∧st.fr 5=.i64 k∧st.fr 0=ksl ks∧st.fr 1=tsl s∧∀ i,i<k→twOk (ks.getD i default) (s.getD i default)) (ks.length) ?_ ?_
   ·simp -dsimp -implicitDefEqProofs (disch:=first|omega|(simp only [lenr];try omega)) only [↓amPre,↓reduceIte,reduceCtorEq,reduceEqDiff,Nat.reduceBEq,reduceAdd,reduceLeDiff,reduceSub,reduceMul,reduceToNat,MM,bu0,cbP2]
    simp
   rintro k st _ ⟨hk,f5,f0,f1,ek⟩
   by_cases hlt:k<ks.length
   ·obtain ⟨e1,e2⟩:=h3 _ (mem_getD s k default (by omega))
    simp -dsimp -implicitDefEqProofs (disch:=first|omega|(simp only [lenr];try omega)) only [↓amPre,↓reduceIte,reduceCtorEq,reduceEqDiff,Nat.reduceBEq,reduceAdd,reduceLeDiff,reduceSub,reduceMul,reduceToNat,MM,bu0,cbP2,f5,f0,f1]
    refine callP_of (sValidTwist (ks.getD k default) (s.getD k default) (c1.2.1 _ (mem_getD ks k default hlt)) e1 e2) ?_
    by_cases w:twOk (ks.getD k default) (s.getD k default)
    ·simp -dsimp -implicitDefEqProofs (disch:=first|omega|(simp only [lenr];try omega)) only [↓amPre,↓reduceIte,reduceCtorEq,reduceEqDiff,Nat.reduceBEq,reduceAdd,reduceLeDiff,reduceSub,reduceMul,reduceToNat,MM,bu0,cbP2,f5,f0,f1,w]
     refine ⟨hlt,hlt,fun i hi=>?_⟩
     by_cases e:i=k
     ·subst e;exact w
     ·exact ek i (by omega)
    ·simp -dsimp -implicitDefEqProofs (disch:=first|omega|(simp only [lenr];try omega)) only [↓amPre,↓reduceIte,reduceCtorEq,reduceEqDiff,Nat.reduceBEq,reduceAdd,reduceLeDiff,reduceSub,reduceMul,reduceToNat,MM,bu0,cbP2,f5,f0,f1,w]
     refine fin _ ?_
     simp only [reduceCtorEq,false_iff]
     intro q;exact w (q.2.2 k hlt)
   ·have hke:k=ks.length:=by omega
    subst hke
    simp -dsimp -implicitDefEqProofs (disch:=first|omega|(simp only [lenr];try omega)) only [↓amPre,↓reduceIte,reduceCtorEq,reduceEqDiff,Nat.reduceBEq,reduceAdd,reduceLeDiff,reduceSub,reduceMul,reduceToNat,MM,bu0,cbP2,f5,f0,f1]
    refine fin _ ?_
    simp only [true_iff]
    exact ⟨c1,c2',ek⟩
  ·simp -dsimp -implicitDefEqProofs (disch:=first|omega|(simp only [lenr];try omega)) only [↓amPre,↓reduceIte,reduceCtorEq,reduceEqDiff,Nat.reduceBEq,reduceAdd,reduceLeDiff,reduceSub,reduceMul,reduceToNat,MM,bu0,cbP2,c1,ne_true c2]
   refine fin _ ?_
   simp only [reduceCtorEq,false_iff]
   intro q;have:=q.2.1;omega
 ·simp -dsimp -implicitDefEqProofs (disch:=first|omega|(simp only [lenr];try omega)) only [↓amPre,↓reduceIte,reduceCtorEq,reduceEqDiff,Nat.reduceBEq,reduceAdd,reduceLeDiff,reduceSub,reduceMul,reduceToNat,MM,bu0,cbP2,c1]
  refine fin _ ?_
  simp only [reduceCtorEq,false_iff]
  exact fun q=>c1 q.1
end Go.AM
set_option maxRecDepth 8000
namespace Go.AM
open Go.Proofs
def compR (ks:List Kind) (a b:List Twist):AV:=if psOk ks a∧psOk ks b then .tup [ttr (compS ks a b),.bl true] else .tup [.tr 2 [],.bl false]
abbrev smallT (s:List Twist):Prop:=s.length≤1099511627776∧∀ t∈s,t.to.length≤1099511627776∧t.by'.length≤1099511627776
end Go.AM
set_option maxRecDepth 8000
namespace Go.AM
open Go.Proofs
def invR (ks:List Kind) (a:List Twist):AV:=if psOk ks a then .tup [ttr (invS ks a),.bl true] else .tup [.tr 2 [],.bl false]
end Go.AM
set_option maxRecDepth 8000
namespace Go.AM
open Go.Proofs
def fewT (s:List Twist):Prop:=s.length≤3∧(∀ t∈s,t.to.length≤20∧t.by'.length≤20)∧cnts s≤120
theorem fewT_of (s:List Twist) (h1:s.length≤3) (h2:∀ t∈s,t.to.length≤20∧t.by'.length≤20):fewT s:=by
 refine ⟨h1,h2,?_⟩
 have:=cnts_bound s 40 (fun t ht=>by have:=h2 t ht;show t.to.length+t.by'.length≤40;omega)
 omega
theorem fewT_small {s:List Twist} (h:fewT s):smallT s:=⟨by have:=h.1;omega,fun t ht=>by have:=h.2.1 t ht;omega⟩
abbrev wfT (s:List Twist):Prop:=s.length≤9223372036854775807∧∀ t∈s,t.to.length≤9223372036854775807∧t.by'.length≤9223372036854775807
end Go.AM
set_option maxRecDepth 8000
namespace Go.AM
open Go.Proofs
theorem prod_bound {a b:Int} (h1:0≤a) (h2:a≤20) (h3:0≤b) (h4:b≤20):0≤a*b∧a*b≤400:=by
 have:=Int.mul_le_mul h2 h4 h3 (by omega)
 have:=Int.mul_nonneg h1 h3
 omega
theorem natmul_bound {a b:Nat} (h2:a≤20) (h4:b≤20):a*b≤400:=Nat.mul_le_mul h2 h4
theorem permL_le {ks:List Kind} {s:List Twist} (h:kindsOk ks) {n:Nat} (hn:n≤ks.length):(permL ks s n).length≤20:=by
 have:=permL_len ks s h.2.1 n hn
 have:=(facets_mono ks h.2.1 n).1
 have:=h.2.2
 omega
theorem sl21Permutation (ks:List Kind) (s:List Twist) (ps:psOk ks s):SpecAt Tryz.prog 51 [ksl ks,tsl s] (itr (permOf ks s)):=by
 have hl3:=ps.1.1.2
 have hsl:=ps.2.1
 refine spec_of_awp (M:=MM) (np:=2) (fz:=false) mixed Tryz.func51 rfl rfl (by decide) rfl (Nat.le_refl _) (by decide +kernel) (.inl rfl) (by first | trivial | simp only [sigsOk_nil,sigsOk_some,sigsOk_none,sig_tr,sig_pt,sig_mt,sig_agg,List.map_cons,List.map_nil,sig1_tr,sig1_pt,sig1_v,and_self,true_and,List.length_map,List.length_set]) ?_
 simp -dsimp -implicitDefEqProofs (disch:=first|omega|(simp only [lenr];try omega)) only [↓amPre,↓reduceIte,reduceCtorEq,reduceEqDiff,Nat.reduceBEq,reduceAdd,reduceLeDiff,reduceSub,reduceMul,reduceToNat,MM,bu0,cbP3]
 refine awp_loopR 11 64 (.tr 1 []) (by simp -dsimp -implicitDefEqProofs (disch:=first|omega|(simp only [lenr];try omega)) only [↓amPre,↓reduceIte,reduceCtorEq,reduceEqDiff,Nat.reduceBEq,reduceAdd,reduceLeDiff,reduceSub,reduceMul,reduceToNat,MM,bu0,cbP3]) (by decide) (by decide) (by decide) (fun k st=>k≤ks.length∧st.fr 7=.i64 k∧st.fr 0=ksl ks∧st.fr 1=tsl s∧st.fr 6=.i64 (permL ks s k).length∧st.fr 5=.ref 64 [] 1 0 (permL ks s k).length∧st.mem 64=some (itr (permL ks s k))) (ks.length) ?_ ?_
 ·simp -dsimp -implicitDefEqProofs (disch:=first|omega|(simp only [lenr];try omega)) only [↓amPre,↓reduceIte,reduceCtorEq,reduceEqDiff,Nat.reduceBEq,reduceAdd,reduceLeDiff,reduceSub,reduceMul,reduceToNat,MM,bu0,cbP3,ren_eq]
  simp [permL]
 rintro k st _ ⟨hk,f7,f0,f1,f6,f5,m64⟩
 have hlen:=permL_le (s:=s) ps.1 hk
 by_cases hlt:k<ks.length
 ·have hk2:=ps.1.2.1 _ (mem_getD ks k default hlt)
  have ta:=tw_get ps hlt
  obtain ⟨c,o,hc,ho,la,la',c1,c2,o1,o2⟩:=twOk_facts ta hk2
  have hstep:permL ks s (k+1)=permL ks s k++rowL (permL ks s k).length o (s.getD k default) c:=by rw [permL,hc,ho,Int.toNat_natCast]
  generalize hA:s.getD k default=A at ta la la' hstep
  generalize hb:permL ks s k=B at hlen hstep f6 f5 m64
  simp -dsimp -implicitDefEqProofs (disch:=first|omega|(simp only [lenr];try omega)) only [↓amPre,↓reduceIte,reduceCtorEq,reduceEqDiff,Nat.reduceBEq,reduceAdd,reduceLeDiff,reduceSub,reduceMul,reduceToNat,MM,bu0,cbP3,f7,f0,f1,f6,f5,m64,hA,hc,ho]
  refine awp_loop (fun i st=>i≤c∧st.fr 9=.i64 i∧st.fr 8=.i64 o∧st.fr 7=.i64 k∧st.fr 0=ksl ks∧st.fr 1=tsl s∧st.fr 6=.i64 B.length∧st.fr 5=.ref 64 [] 1 0 (B++rowL B.length o A i).length∧st.mem 64=some (itr (B++rowL B.length o A i))) (c) ?_ ?_
  ·simp -dsimp -implicitDefEqProofs (disch:=first|omega|(simp only [lenr];try omega)) only [↓amPre,↓reduceIte,reduceCtorEq,reduceEqDiff,Nat.reduceBEq,reduceAdd,reduceLeDiff,reduceSub,reduceMul,reduceToNat,MM,bu0,cbP3,f7,f0,f1,f6,f5,m64,rowL]
   simp
  rintro i st _ ⟨hi,f9,f8,f7,f0,f1,f6,f5,m64⟩
  have hrl:=rowL_len B.length o A i
  rw [Int.toNat_natCast] at hrl
  have hio:=natmul_bound (show i≤20 by omega) o2
  by_cases hlt':i<c
  ·have hx:=to_get ta (show i<A.to.length by omega)
   have hy:=by_get ta (show i<A.by'.length by omega)
   have hxo:=prod_bound hx.1 (show A.to.getD i 0≤20 by omega) (show (0:Int)≤o by omega) (by omega)
   simp -dsimp -implicitDefEqProofs (disch:=first|omega|(simp only [lenr];try omega)) only [↓amPre,↓reduceIte,reduceCtorEq,reduceEqDiff,Nat.reduceBEq,reduceAdd,reduceLeDiff,reduceSub,reduceMul,reduceToNat,MM,bu0,cbP3,f9,f8,f7,f0,f1,f6,f5,m64,hA,hc,ho]
   refine awp_loop (fun j st=>j≤o∧st.fr 10=.i64 j∧st.fr 9=.i64 i∧st.fr 8=.i64 o∧st.fr 7=.i64 k∧st.fr 0=ksl ks∧st.fr 1=tsl s∧st.fr 6=.i64 B.length∧st.fr 5=.ref 64 [] 1 0 (B++rowL B.length o A i++cellL B.length o (A.to.getD i 0) (A.by'.getD i 0) j).length∧st.mem 64=some (itr (B++rowL B.length o A i++cellL B.length o (A.to.getD i 0) (A.by'.getD i 0) j))) (o) ?_ ?_
   ·simp -dsimp -implicitDefEqProofs (disch:=first|omega|(simp only [lenr];try omega)) only [↓amPre,↓reduceIte,reduceCtorEq,reduceEqDiff,Nat.reduceBEq,reduceAdd,reduceLeDiff,reduceSub,reduceMul,reduceToNat,MM,bu0,cbP3,f9,f8,f7,f0,f1,f6,f5,m64,cellL,hrl]
    simp
   rintro j st _ ⟨hj,f10,f9,f8,f7,f0,f1,f6,f5,m64⟩
   have hcl:=cellL_len B.length o (A.to.getD i 0) (A.by'.getD i 0) j
   have hll:(B++rowL B.length o A i++cellL B.length o (A.to.getD i 0) (A.by'.getD i 0) j).length=B.length+i*o+j:=by simp only [List.length_append,hrl,hcl]
   by_cases hlt'':j<o
   ·have hcs:=cellL_succ B.length o (A.to.getD i 0) (A.by'.getD i 0) j
    have hm1:=Int.tmod_nonneg (o:Int) (show (0:Int)≤j+A.by'.getD i 0 by omega)
    have hm2:=Int.tmod_lt_of_pos (j+A.by'.getD i 0) (show (0:Int)<o by omega)
    have hll2:(B++rowL B.length o A i++cellL B.length o (A.to.getD i 0) (A.by'.getD i 0) (j+1)).length=B.length+i*o+j+1:=by simp only [List.length_append,hrl,cellL_len];omega
    rw [hll] at f5
    have happ:B++rowL B.length o A i++cellL B.length o (A.to.getD i 0) (A.by'.getD i 0) j++[(B.length:Int)+A.to.getD i 0*o+((j:Int)+A.by'.getD i 0).tmod o]=B++rowL B.length o A i++cellL B.length o (A.to.getD i 0) (A.by'.getD i 0) (j+1):=by rw [hcs];simp only [List.append_assoc]
    simp -dsimp -implicitDefEqProofs (disch:=first|omega|(simp only [lenr];try omega)) only [↓amPre,↓reduceIte,reduceCtorEq,reduceEqDiff,Nat.reduceBEq,reduceAdd,reduceLeDiff,reduceSub,reduceMul,reduceToNat,MM,bu0,cbP3,f10,f9,f8,f7,f0,f1,f6,f5,m64,hA,hll,hll2,happ]
    repeat' (first|omega|rfl|exact i64c (by omega)|exact vic (by omega)|apply ai)
   ·have hje:j=o:=by omega
    subst hje
    have hrs:rowL B.length j A (i+1)=rowL B.length j A i++cellL B.length j (A.to.getD i 0) (A.by'.getD i 0) j:=by rw [rowL,Int.toNat_natCast]
    rw [List.append_assoc,← hrs] at f5 m64
    simp -dsimp -implicitDefEqProofs (disch:=first|omega|(simp only [lenr];try omega)) only [↓amPre,↓reduceIte,reduceCtorEq,reduceEqDiff,Nat.reduceBEq,reduceAdd,reduceLeDiff,reduceSub,reduceMul,reduceToNat,MM,bu0,cbP3,f10,f9,f8,f7,f0,f1,f6,f5,m64]
    repeat' (first|omega|rfl|exact i64c (by omega)|exact vic (by omega)|apply ai)
  ·have hie:i=c:=by omega
   subst hie
   rw [← hstep] at f5 m64
   have hlen2:(permL ks s (k+1)).length=B.length+i*o:=by rw [hstep,List.length_append,hrl]
   have hco:((i*o:Nat):Int)=(i:Int)*o:=by simp
   have hwr:IntKind.i64.wrap ((i:Int)*o)=((i*o:Nat):Int):=by rw [← hco];exact wrap64_id (by omega)
   simp -dsimp -implicitDefEqProofs (disch:=first|omega|(simp only [lenr];try omega)) only [↓amPre,↓reduceIte,reduceCtorEq,reduceEqDiff,Nat.reduceBEq,reduceAdd,reduceLeDiff,reduceSub,reduceMul,reduceToNat,MM,bu0,cbP3,f9,f8,f7,f0,f1,f6,f5,m64,hc,ho,hwr]
   refine ⟨hlt,hlt,?_⟩
   rw [hlen2]
   simp
 ·have hke:k=ks.length:=by omega
  subst hke
  simp -dsimp -implicitDefEqProofs (disch:=first|omega|(simp only [lenr];try omega)) only [↓amPre,↓reduceIte,reduceCtorEq,reduceEqDiff,Nat.reduceBEq,reduceAdd,reduceLeDiff,reduceSub,reduceMul,reduceToNat,MM,bu0,cbP3,f7,f0,f1,f6,f5,m64]
  rfl
end Go.AM
set_option maxRecDepth 8000
namespace Go.AM
open Go.Proofs
def permR (ks:List Kind) (s:List Twist):List Int:=if psOk ks s then permOf ks s else []
theorem permOf_le {ks:List Kind} {s:List Twist} (ps:psOk ks s):(permOf ks s).length≤20:=permL_le ps.1 (Nat.le_refl _)
end Go.AM
set_option maxRecDepth 8000
namespace Go.AM
open Go.Proofs
def sumI:List Int→Int
 | []=>0
 | x :: r=>x+sumI r
def twS (k:Kind) (t:Twist):Int:=(sumI t.by').tmod k.o
def twR (ks:List Kind) (s:List Twist) (n:Int):Int:=if psOk ks s∧0≤n∧n<ks.length then twS (ks.getD n.toNat default) (s.getD n.toNat default) else -1
end Go.AM
set_option maxRecDepth 8000
namespace Go.AM
open Go.Proofs
def itL (p:List Int) (x k:Nat):List Int:=(List.range k).map fun i=>((itN (fOf p) i x:Nat):Int)
def cycK (p:List Int) (k:Nat):List (List Int):=((List.range k).filter (minI p)).map (orbI p)
def longC (L:List (List Int)):List (List Int):=L.filter fun l=>decide (1<l.length)
end Go.AM
set_option maxRecDepth 8000
namespace Go.AM
open Go.Proofs
def bitK (set:Int) (k:Nat):Bool:=bitsI .and .i64 (set.fdiv (2 ^ (min k 64))) 1 == 1
def oddS (s:List Twist) (set:Int):Nat→Nat
 | 0=>0
 | k+1=>oddS s set k+if bitK set k=true∧sgnI (s.getD k default).to<0 then 1 else 0
def parS (s:List Twist) (set:Int):Int:=((oddS s set s.length % 2:Nat):Int)
def parR (ks:List Kind) (s:List Twist) (set:Int):Int:=if psOk ks s∧1≤set∧set≤((2 ^ ks.length:Nat):Int) - 1 then parS s set else -1
end Go.AM
set_option maxRecDepth 8000
namespace Go.AM
open Go.Proofs
def invV (ks:List Kind) (s:List Twist) (i:Invar):Int:=if i.k=1 then twR ks s i.s else if i.k=2 then parR ks s i.s else -1
end Go.AM
set_option maxRecDepth 8000
namespace Go.AM
open Go.Proofs
instance:Thing UInt8:=⟨⟩
theorem iisNames (l:List UInt8) (hl:l.length≤1099511627776):SpecAt Tryz.prog 107 [.st l] (.bl (decide (namesOk l))):=by
 refine spec_of_awp (M:=MM) (np:=1) (fz:=true) mixed Tryz.func107 rfl rfl (by decide) rfl (Nat.le_refl _) (by decide +kernel) (.inr ⟨rfl,rfl⟩) trivial ?_
 simp -dsimp -implicitDefEqProofs (disch:=first|omega|(simp only [lenr];try omega)) only [↓amPre,↓reduceIte,reduceCtorEq,reduceEqDiff,Nat.reduceBEq,reduceAdd,reduceLeDiff,reduceSub,reduceMul,reduceToNat,MM,bu0,cbP3]
 have fin:∀ b:Bool,(b=true↔namesOk l)→Value.bool b=Value.bool (decide (namesOk l)):=fun b h=>bl_eq (by rw [h,decide_eq_true_iff])
 refine awp_loop (fun i st=>i≤l.length∧st.fr 7=.i64 i∧st.fr 6=.i64 l.length∧st.fr 0=.st l∧lettersOk (l.take i)) (l.length) ?_ ?_
 ·simp -dsimp -implicitDefEqProofs (disch:=first|omega|(simp only [lenr];try omega)) only [↓amPre,↓reduceIte,reduceCtorEq,reduceEqDiff,Nat.reduceBEq,reduceAdd,reduceLeDiff,reduceSub,reduceMul,reduceToNat,MM,bu0,cbP3]
  simp [lettersOk]
 rintro i st _ ⟨hi,f7,f6,f0,ei⟩
 by_cases hlt:i<l.length
 ·have hmem:=mem_getD l i 0 hlt
  have hu:=u8lt (l.getD i 0)
  have hts:=take_succ_eq l i 0 hlt
  simp -dsimp -implicitDefEqProofs (disch:=first|omega|(simp only [lenr];try omega)) only [↓amPre,↓reduceIte,reduceCtorEq,reduceEqDiff,Nat.reduceBEq,reduceAdd,reduceLeDiff,reduceSub,reduceMul,reduceToNat,MM,bu0,cbP3,f7,f6,f0]
  refine callP_of (iwithin _ _ _) ?_
  cases w:within ((l.getD i 0).toNat:Int) 65 90 with
  | false =>
   simp -dsimp -implicitDefEqProofs (disch:=first|omega|(simp only [lenr];try omega)) only [↓amPre,↓reduceIte,reduceCtorEq,reduceEqDiff,Nat.reduceBEq,reduceAdd,reduceLeDiff,reduceSub,reduceMul,reduceToNat,MM,bu0,cbP3,w]
   refine fin _ ?_
   rw [within_not] at w
   simp only [reduceCtorEq,false_iff]
   intro q;have:=q.1.1 _ hmem;omega
  | true =>
   rw [within_iff] at w
   simp -dsimp -implicitDefEqProofs (disch:=first|omega|(simp only [lenr];try omega)) only [↓amPre,↓reduceIte,reduceCtorEq,reduceEqDiff,Nat.reduceBEq,reduceAdd,reduceLeDiff,reduceSub,reduceMul,reduceToNat,MM,bu0,cbP3,f7,f6,f0,within_iff.2 w]
   refine awp_loop (fun k st=>k≤i∧st.fr 17=.i64 k∧st.fr 16=.i64 i∧st.fr 3=.i64 i∧st.fr 7=.i64 i∧st.fr 6=.i64 l.length∧st.fr 0=.st l∧∀ y∈l.take k,y≠l.getD i 0) (i) ?_ ?_
   ·simp -dsimp -implicitDefEqProofs (disch:=first|omega|(simp only [lenr];try omega)) only [↓amPre,↓reduceIte,reduceCtorEq,reduceEqDiff,Nat.reduceBEq,reduceAdd,reduceLeDiff,reduceSub,reduceMul,reduceToNat,MM,bu0,cbP3,f7,f6,f0]
    simp
   rintro k st _ ⟨hk,f17,f16,f3,f7,f6,f0,ek⟩
   by_cases hk':k<i
   ·have hmk:=mem_take_succ (l:=l) (d:=0) (p:=fun y=>y≠l.getD i 0) (show k<l.length by omega)
    cases w2:decide (l.getD k 0=l.getD i 0) with
    | true =>
     simp -dsimp -implicitDefEqProofs (disch:=first|omega|(simp only [lenr];try omega)) only [↓amPre,↓reduceIte,reduceCtorEq,reduceEqDiff,Nat.reduceBEq,reduceAdd,reduceLeDiff,reduceSub,reduceMul,reduceToNat,MM,bu0,cbP3,f17,f16,f3,f7,f6,f0,u8eq,w2]
     refine fin _ ?_
     simp only [reduceCtorEq,false_iff]
     intro q
     simp only [decide_eq_true_eq] at w2
     rw [getD_eq _ _ _ (show k<l.length by omega),getD_eq _ _ _ hlt] at w2
     have:=(List.getElem_inj q.1.2).1 w2
     omega
    | false =>
     simp -dsimp -implicitDefEqProofs (disch:=first|omega|(simp only [lenr];try omega)) only [↓amPre,↓reduceIte,reduceCtorEq,reduceEqDiff,Nat.reduceBEq,reduceAdd,reduceLeDiff,reduceSub,reduceMul,reduceToNat,MM,bu0,cbP3,f17,f16,f3,f7,f6,f0,u8eq,w2]
     simp only [decide_eq_false_iff_not] at w2
     repeat' (first | omega | rfl | exact i64c (by omega) | exact vic (by omega) | exact hmk.2 ⟨ek,w2⟩ | apply And.intro)
   ·have hke:k=i:=by omega
    subst hke
    simp -dsimp -implicitDefEqProofs (disch:=first|omega|(simp only [lenr];try omega)) only [↓amPre,↓reduceIte,reduceCtorEq,reduceEqDiff,Nat.reduceBEq,reduceAdd,reduceLeDiff,reduceSub,reduceMul,reduceToNat,MM,bu0,cbP3,f17,f16,f3,f7,f6,f0]
    refine ⟨hlt,hlt,?_,?_⟩
    ·rw [hts];intro b hb
     rcases List.mem_append.1 hb with hb | hb
     ·exact ei.1 b hb
     ·rw [List.mem_singleton.1 hb];omega
    ·rw [hts,List.nodup_append]
     refine ⟨ei.2,by simp,?_⟩
     intro a ha b hb e
     simp only [List.mem_singleton] at hb
     exact ek a ha (e.trans hb)
 ·have hie:i=l.length:=by omega
  subst hie
  rw [List.take_length] at ei
  simp -dsimp -implicitDefEqProofs (disch:=first|omega|(simp only [lenr];try omega)) only [↓amPre,↓reduceIte,reduceCtorEq,reduceEqDiff,Nat.reduceBEq,reduceAdd,reduceLeDiff,reduceSub,reduceMul,reduceToNat,MM,bu0,cbP3,f7,f6,f0]
  refine callP_of (iwithin _ _ _) ?_
  simp -dsimp -implicitDefEqProofs (disch:=first|omega|(simp only [lenr];try omega)) only [↓amPre,↓reduceIte,reduceCtorEq,reduceEqDiff,Nat.reduceBEq,reduceAdd,reduceLeDiff,reduceSub,reduceMul,reduceToNat,MM,bu0,cbP3]
  refine fin _ ?_
  rw [within_iff]
  exact ⟨fun q=>⟨ei,by omega⟩,fun q=>by have:=q.2;omega⟩
theorem svalidNames (l:List UInt8) (n:Nat) (hl:l.length≤1099511627776):SpecAt Tryz.prog 80 [.st l,.i64 n] (.bl (decide (l.length=n∧lettersOk l))):=by
 refine spec_of_awp (M:=MM) (np:=2) (fz:=true) mixed Tryz.func80 rfl rfl (by decide) rfl (Nat.le_refl _) (by decide +kernel) (.inr ⟨rfl,rfl⟩) trivial ?_
 simp -dsimp -implicitDefEqProofs (disch:=first|omega|(simp only [lenr];try omega)) only [↓amPre,↓reduceIte,reduceCtorEq,reduceEqDiff,Nat.reduceBEq,reduceAdd,reduceLeDiff,reduceSub,reduceMul,reduceToNat,MM,bu0,cbP3]
 have fin:∀ b:Bool,(b=true↔(l.length=n∧lettersOk l))→Value.bool b=Value.bool (decide (l.length=n∧lettersOk l)):=fun b h=>bl_eq (by rw [h,decide_eq_true_iff])
 by_cases hn:(l.length:Int)=n
 case neg =>
  simp -dsimp -implicitDefEqProofs (disch:=first|omega|(simp only [lenr];try omega)) only [↓amPre,↓reduceIte,reduceCtorEq,reduceEqDiff,Nat.reduceBEq,reduceAdd,reduceLeDiff,reduceSub,reduceMul,reduceToNat,MM,bu0,cbP3,ne_true hn]
  refine fin _ ?_
  simp only [reduceCtorEq,false_iff]
  intro q;have:=q.1;omega
 have hn':l.length=n:=by omega
 simp -dsimp -implicitDefEqProofs (disch:=first|omega|(simp only [lenr];try omega)) only [↓amPre,↓reduceIte,reduceCtorEq,reduceEqDiff,Nat.reduceBEq,reduceAdd,reduceLeDiff,reduceSub,reduceMul,reduceToNat,MM,bu0,cbP3,ne_false hn]
 refine awp_loop (fun i st=>i≤l.length∧st.fr 5=.i64 i∧st.fr 0=.st l∧lettersOk (l.take i)) (l.length) ?_ ?_
 ·simp -dsimp -implicitDefEqProofs (disch:=first|omega|(simp only [lenr];try omega)) only [↓amPre,↓reduceIte,reduceCtorEq,reduceEqDiff,Nat.reduceBEq,reduceAdd,reduceLeDiff,reduceSub,reduceMul,reduceToNat,MM,bu0,cbP3]
  simp [lettersOk]
 rintro i st _ ⟨hi,f5,f0,ei⟩
 by_cases hlt:i<l.length
 ·have hmem:=mem_getD l i 0 hlt
  have hu:=u8lt (l.getD i 0)
  have hts:=take_succ_eq l i 0 hlt
  by_cases w1:((l.getD i 0).toNat:Int)<65
  ·simp -dsimp -implicitDefEqProofs (disch:=first|omega|(simp only [lenr];try omega)) only [↓amPre,↓reduceIte,reduceCtorEq,reduceEqDiff,Nat.reduceBEq,reduceAdd,reduceLeDiff,reduceSub,reduceMul,reduceToNat,MM,bu0,cbP3,f5,f0,lt_true w1]
   refine fin _ ?_
   simp only [reduceCtorEq,false_iff]
   intro q;have:=q.2.1 _ hmem;omega
  by_cases w2:(90:Int)<((l.getD i 0).toNat:Int)
  ·simp -dsimp -implicitDefEqProofs (disch:=first|omega|(simp only [lenr];try omega)) only [↓amPre,↓reduceIte,reduceCtorEq,reduceEqDiff,Nat.reduceBEq,reduceAdd,reduceLeDiff,reduceSub,reduceMul,reduceToNat,MM,bu0,cbP3,f5,f0,lt_false (Int.not_lt.1 w1),lt_true w2]
   refine fin _ ?_
   simp only [reduceCtorEq,false_iff]
   intro q;have:=q.2.1 _ hmem;omega
  simp -dsimp -implicitDefEqProofs (disch:=first|omega|(simp only [lenr];try omega)) only [↓amPre,↓reduceIte,reduceCtorEq,reduceEqDiff,Nat.reduceBEq,reduceAdd,reduceLeDiff,reduceSub,reduceMul,reduceToNat,MM,bu0,cbP3,f5,f0,lt_false (Int.not_lt.1 w1),lt_false (Int.not_lt.1 w2)]
  refine awp_loop (fun k st=>k≤i∧st.fr 6=.i64 k∧st.fr 5=.i64 i∧st.fr 0=.st l∧∀ y∈l.take k,y≠l.getD i 0) (i) ?_ ?_
  ·simp -dsimp -implicitDefEqProofs (disch:=first|omega|(simp only [lenr];try omega)) only [↓amPre,↓reduceIte,reduceCtorEq,reduceEqDiff,Nat.reduceBEq,reduceAdd,reduceLeDiff,reduceSub,reduceMul,reduceToNat,MM,bu0,cbP3,f5,f0]
   simp
  rintro k st _ ⟨hk,f6,f5,f0,ek⟩
  by_cases hk':k<i
  ·have hmk:=mem_take_succ (l:=l) (d:=0) (p:=fun y=>y≠l.getD i 0) (show k<l.length by omega)
   cases w2:decide (l.getD k 0=l.getD i 0) with
   | true =>
    simp -dsimp -implicitDefEqProofs (disch:=first|omega|(simp only [lenr];try omega)) only [↓amPre,↓reduceIte,reduceCtorEq,reduceEqDiff,Nat.reduceBEq,reduceAdd,reduceLeDiff,reduceSub,reduceMul,reduceToNat,MM,bu0,cbP3,f6,f5,f0,u8eq,w2]
    refine fin _ ?_
    simp only [reduceCtorEq,false_iff]
    intro q
    simp only [decide_eq_true_eq] at w2
    rw [getD_eq _ _ _ (show k<l.length by omega),getD_eq _ _ _ hlt] at w2
    have:=(List.getElem_inj q.2.2).1 w2
    omega
   | false =>
    simp -dsimp -implicitDefEqProofs (disch:=first|omega|(simp only [lenr];try omega)) only [↓amPre,↓reduceIte,reduceCtorEq,reduceEqDiff,Nat.reduceBEq,reduceAdd,reduceLeDiff,reduceSub,reduceMul,reduceToNat,MM,bu0,cbP3,f6,f5,f0,u8eq,w2]
    simp only [decide_eq_false_iff_not] at w2
    repeat' (first | omega | rfl | exact i64c (by omega) | exact vic (by omega) | exact hmk.2 ⟨ek,w2⟩ | apply And.intro)
  ·have hke:k=i:=by omega
   subst hke
   simp -dsimp -implicitDefEqProofs (disch:=first|omega|(simp only [lenr];try omega)) only [↓amPre,↓reduceIte,reduceCtorEq,reduceEqDiff,Nat.reduceBEq,reduceAdd,reduceLeDiff,reduceSub,reduceMul,reduceToNat,MM,bu0,cbP3,f6,f5,f0]
   refine ⟨hlt,hlt,?_,?_⟩
   ·rw [hts];intro b hb
    rcases List.mem_append.1 hb with hb | hb
    ·exact ei.1 b hb
    ·rw [List.mem_singleton.1 hb];omega
   ·rw [hts,List.nodup_append]
    refine ⟨ei.2,by simp,?_⟩
    intro a ha b hb e
    simp only [List.mem_singleton] at hb
    exact ek a ha (e.trans hb)
 ·have hie:i=l.length:=by omega
  subst hie
  rw [List.take_length] at ei
  simp -dsimp -implicitDefEqProofs (disch:=first|omega|(simp only [lenr];try omega)) only [↓amPre,↓reduceIte,reduceCtorEq,reduceEqDiff,Nat.reduceBEq,reduceAdd,reduceLeDiff,reduceSub,reduceMul,reduceToNat,MM,bu0,cbP3,f5,f0]
  refine fin _ ?_
  simp only [true_iff]
  exact ⟨hn',ei⟩
end Go.AM
set_option maxRecDepth 8000
namespace Go.AM
open Go.Proofs
instance:Thing (List Twist):=⟨⟩
abbrev smallTS (l:List (List Twist)):Prop:=l.length≤1099511627776∧∀ s∈l,smallT s
abbrev wfTS (l:List (List Twist)):Prop:=l.length≤9223372036854775807∧∀ s∈l,wfT s
def Model.size (m:Model):Nat:=m.ks.length+m.nm.length+sizeLL m.mv
abbrev wfM (m:Model):Prop:=m.ks.length≤9223372036854775807∧m.nm.length≤9223372036854775807∧wfTS m.mv
abbrev smallM (m:Model):Prop:=m.ks.length≤1099511627776∧m.nm.length≤1099511627776∧smallTS m.mv
end Go.AM
set_option maxRecDepth 8000
namespace Go.AM
open Go.Proofs
def fidxG {α:Type} (pr:α→Bool) (l:List α):Int:=match l.findIdx? pr with | some i=>i | none=>-1
theorem fidxG_nonneg {α:Type} (pr:α→Bool) (l:List α):0≤fidxG pr l↔l.any pr=true:=by
 unfold fidxG
 split
 ·rename_i i e
  rw [List.findIdx?_eq_some_iff_getElem] at e
  obtain ⟨hi,h1,_⟩:=e
  simp only [List.any_eq_true]
  exact ⟨fun _=>⟨_,List.getElem_mem hi,h1⟩,fun _=>by omega⟩
 ·rename_i e
  rw [List.findIdx?_eq_none_iff] at e
  simp only [List.any_eq_true]
  exact ⟨fun q=>by omega,fun ⟨x,hx,hp⟩=>by rw [e x hx] at hp;cases hp⟩
theorem fidxG_at {α:Type} (pr:α→Bool) (l:List α) (d:α) (k:Nat) (hk:k<l.length) (h1:∀ x∈l.take k,pr x=false) (h2:pr (l.getD k d)=true):fidxG pr l=k:=by
 have:l.findIdx? pr=some k:=by
  rw [List.findIdx?_eq_some_iff_getElem]
  refine ⟨hk,by rw [← getD_eq l k d hk];exact h2,fun j hj=>?_⟩
  have:=h1 (l[j]) (by rw [List.mem_take_iff_getElem];exact ⟨j,by omega,rfl⟩)
  simpa using this
 rw [fidxG,this]
theorem fidxG_none {α:Type} (pr:α→Bool) (l:List α) (h:∀ x∈l,pr x=false):fidxG pr l = -1:=by
 have:l.findIdx? pr=none:=by rw [List.findIdx?_eq_none_iff];exact h
 rw [fidxG,this]
theorem indexFuncT (l:List (List Twist)) (g:FuncId) (caps:List AV) (pr:List Twist→Bool) (hM:MM g=[]) (hb:AV.bearsL caps=false) (hv:∀ mem,AV.views mem caps=caps) (h:∀ x∈l,SpecAt Tryz.prog g ([tsl x]++caps) (.bl (pr x))) (hl:l.length≤1099511627776) :
  SpecAt Tryz.prog 135 [tssl l,.fn g caps] (.i64 (fidxG pr l)):=by
 unfold MM at hM
 refine spec_of_awp (M:=MM) (np:=2) (fz:=true) mixed Tryz.func135 rfl rfl (by decide) rfl (Nat.le_refl _) (by decide +kernel) (.inr ⟨rfl,rfl⟩) trivial ?_
 simp -dsimp -implicitDefEqProofs (disch:=first|omega|(simp only [lenr];try omega)) only [↓amPre,↓reduceIte,reduceCtorEq,reduceEqDiff,Nat.reduceBEq,reduceAdd,reduceLeDiff,reduceSub,reduceMul,reduceToNat,MM,bu0,cbP3]
 refine awp_loop (fun k st=>k≤l.length∧st.fr 8=.i64 k∧st.fr 7=.i64 l.length∧st.fr 0=tssl l∧st.fr 1=.fn g caps∧∀ x∈l.take k,pr x=false) (l.length) ?_ ?_
 ·simp -dsimp -implicitDefEqProofs (disch:=first|omega|(simp only [lenr];try omega)) only [↓amPre,↓reduceIte,reduceCtorEq,reduceEqDiff,Nat.reduceBEq,reduceAdd,reduceLeDiff,reduceSub,reduceMul,reduceToNat,MM,bu0,cbP3]
  simp
 rintro k st _ ⟨hk,f8,f7,f0,f1,ek⟩
 by_cases hlt:k<l.length
 ·have hmem:=mem_getD l k default hlt
  simp -dsimp -implicitDefEqProofs (disch:=first|omega|(simp only [lenr];try omega)) only [↓amPre,↓reduceIte,reduceCtorEq,reduceEqDiff,Nat.reduceBEq,reduceAdd,reduceLeDiff,reduceSub,reduceMul,reduceToNat,MM,bu0,cbP3,f8,f7,f0,f1,hM,hb,hv]
  refine callP_of (h _ hmem) ?_
  cases w:pr (l.getD k default) with
  | true =>
   simp -dsimp -implicitDefEqProofs (disch:=first|omega|(simp only [lenr];try omega)) only [↓amPre,↓reduceIte,reduceCtorEq,reduceEqDiff,Nat.reduceBEq,reduceAdd,reduceLeDiff,reduceSub,reduceMul,reduceToNat,MM,bu0,cbP3,f8,f7,f0,f1,w]
   rw [fidxG_at pr l default k hlt ek w]
  | false =>
   simp -dsimp -implicitDefEqProofs (disch:=first|omega|(simp only [lenr];try omega)) only [↓amPre,↓reduceIte,reduceCtorEq,reduceEqDiff,Nat.reduceBEq,reduceAdd,reduceLeDiff,reduceSub,reduceMul,reduceToNat,MM,bu0,cbP3,f8,f7,f0,f1,w]
   repeat' (first | omega | rfl | exact i64c (by omega) | exact vic (by omega) | exact (mem_take_succ (d:=default) hlt).2 ⟨ek,w⟩ | apply And.intro)
 ·have hke:k=l.length:=by omega
  subst hke
  rw [List.take_length] at ek
  simp -dsimp -implicitDefEqProofs (disch:=first|omega|(simp only [lenr];try omega)) only [↓amPre,↓reduceIte,reduceCtorEq,reduceEqDiff,Nat.reduceBEq,reduceAdd,reduceLeDiff,reduceSub,reduceMul,reduceToNat,MM,bu0,cbP3,f8,f7,f0,f1]
  rw [fidxG_none pr l ek]
theorem containsFuncT (l:List (List Twist)) (g:FuncId) (caps:List AV) (pr:List Twist→Bool) (hM:MM g=[]) (hb:AV.bearsL caps=false) (hv:∀ mem,AV.views mem caps=caps) (h:∀ x∈l,SpecAt Tryz.prog g ([tsl x]++caps) (.bl (pr x))) (hl:l.length≤1099511627776) :
  SpecAt Tryz.prog 108 [tssl l,.fn g caps] (.bl (l.any pr)):=by
 refine spec_of_awp (M:=MM) (np:=2) (fz:=true) mixed Tryz.func108 rfl rfl (by decide) rfl (Nat.le_refl _) (by decide +kernel) (.inr ⟨rfl,rfl⟩) trivial ?_
 simp -dsimp -implicitDefEqProofs (disch:=first|omega|(simp only [lenr];try omega)) only [↓amPre,↓reduceIte,reduceCtorEq,reduceEqDiff,Nat.reduceBEq,reduceAdd,reduceLeDiff,reduceSub,reduceMul,reduceToNat,MM,bu0,cbP3,hb,hv]
 refine callP_of (indexFuncT l g caps pr hM hb hv h hl) ?_
 simp -dsimp -implicitDefEqProofs (disch:=first|omega|(simp only [lenr];try omega)) only [↓amPre,↓reduceIte,reduceCtorEq,reduceEqDiff,Nat.reduceBEq,reduceAdd,reduceLeDiff,reduceSub,reduceMul,reduceToNat,MM,bu0,cbP3]
 refine bl_eq ?_
 simp only [decide_eq_true_eq,fidxG_nonneg]
theorem iIsValidPM1 (s:List Twist) (m:Model) (h1:m.ks.length≤1099511627776) (hs:smallT s):SpecAt Tryz.prog 109 [tsl s,.ep [ksl m.ks,.st m.nm,tssl m.mv]] (.bl (!decide (psOk m.ks s))):=by
 refine spec_of_awp (M:=MM) (np:=2) (fz:=true) mixed Tryz.func109 rfl rfl (by decide) rfl (Nat.le_refl _) (by decide +kernel) (.inr ⟨rfl,rfl⟩) trivial ?_
 simp -dsimp -implicitDefEqProofs (disch:=first|omega|(simp only [lenr];try omega)) only [↓amPre,↓reduceIte,reduceCtorEq,reduceEqDiff,Nat.reduceBEq,reduceAdd,reduceLeDiff,reduceSub,reduceMul,reduceToNat,MM,bu0,cbP3]
 refine callP_of (iIsPieceState m.ks s h1 hs.1 hs.2) ?_
 simp -dsimp -implicitDefEqProofs (disch:=first|omega|(simp only [lenr];try omega)) only [↓amPre,↓reduceIte,reduceCtorEq,reduceEqDiff,Nat.reduceBEq,reduceAdd,reduceLeDiff,reduceSub,reduceMul,reduceToNat,MM,bu0,cbP3]
theorem iIsValidPieceModel (m:Model) (h:smallM m):SpecAt Tryz.prog 60 [m.sl] (.bl (decide (modelOk m))):=by
 have h2:=h.2.1
 have h3:=h.2.2.1
 refine spec_of_awp (M:=MM) (np:=1) (fz:=true) mixed Tryz.func60 rfl rfl (by decide) rfl (Nat.le_refl _) (by decide +kernel) (.inr ⟨rfl,rfl⟩) trivial ?_
 have fin:∀ b:Bool,(b=true↔modelOk m)→Value.bool b=Value.bool (decide (modelOk m)):=fun b h=>bl_eq (by rw [h,decide_eq_true_iff])
 simp -dsimp -implicitDefEqProofs (disch:=first|omega|(simp only [lenr];try omega)) only [↓amPre,↓reduceIte,reduceCtorEq,reduceEqDiff,Nat.reduceBEq,reduceAdd,reduceLeDiff,reduceSub,reduceMul,reduceToNat,MM,bu0,cbP3]
 refine callP_of (iAreValidKinds m.ks h.1) ?_
 by_cases c1:kindsOk m.ks
 case neg =>
  simp -dsimp -implicitDefEqProofs (disch:=first|omega|(simp only [lenr];try omega)) only [↓amPre,↓reduceIte,reduceCtorEq,reduceEqDiff,Nat.reduceBEq,reduceAdd,reduceLeDiff,reduceSub,reduceMul,reduceToNat,MM,bu0,cbP3,c1]
  refine fin _ ?_
  simp only [modelOk,c1,false_and,reduceCtorEq]
 simp -dsimp -implicitDefEqProofs (disch:=first|omega|(simp only [lenr];try omega)) only [↓amPre,↓reduceIte,reduceCtorEq,reduceEqDiff,Nat.reduceBEq,reduceAdd,reduceLeDiff,reduceSub,reduceMul,reduceToNat,MM,bu0,cbP3,c1]
 refine callP_of (iisNames m.nm h.2.1) ?_
 by_cases c2:namesOk m.nm
 case neg =>
  simp -dsimp -implicitDefEqProofs (disch:=first|omega|(simp only [lenr];try omega)) only [↓amPre,↓reduceIte,reduceCtorEq,reduceEqDiff,Nat.reduceBEq,reduceAdd,reduceLeDiff,reduceSub,reduceMul,reduceToNat,MM,bu0,cbP3,c1,c2]
  refine fin _ ?_
  simp only [modelOk,c2,false_and,and_false,reduceCtorEq]
 by_cases c3:(m.nm.length:Int)=m.mv.length
 case neg =>
  simp -dsimp -implicitDefEqProofs (disch:=first|omega|(simp only [lenr];try omega)) only [↓amPre,↓reduceIte,reduceCtorEq,reduceEqDiff,Nat.reduceBEq,reduceAdd,reduceLeDiff,reduceSub,reduceMul,reduceToNat,MM,bu0,cbP3,c1,c2,eq_false c3]
  refine fin _ ?_
  simp only [reduceCtorEq,false_iff]
  intro q;have:=q.2.2.1;omega
 simp -dsimp -implicitDefEqProofs (disch:=first|omega|(simp only [lenr];try omega)) only [↓amPre,↓reduceIte,reduceCtorEq,reduceEqDiff,Nat.reduceBEq,reduceAdd,reduceLeDiff,reduceSub,reduceMul,reduceToNat,MM,bu0,cbP3,c1,c2,eq_true c3]
 refine callP_of (containsFuncT m.mv _ _ (fun s=>!decide (psOk m.ks s)) rfl rfl (fun _=>rfl) (fun s hs=>iIsValidPM1 s m h.1 (h.2.2.2 s hs)) h3) ?_
 simp -dsimp -implicitDefEqProofs (disch:=first|omega|(simp only [lenr];try omega)) only [↓amPre,↓reduceIte,reduceCtorEq,reduceEqDiff,Nat.reduceBEq,reduceAdd,reduceLeDiff,reduceSub,reduceMul,reduceToNat,MM,bu0,cbP3,c1,c2,eq_true c3]
 refine fin _ ?_
 have c3':m.nm.length=m.mv.length:=by omega
 simp only [Bool.not_eq_true',List.any_eq_false,Bool.not_eq_true,Bool.not_eq_false',decide_eq_false_iff_not,Decidable.not_not,modelOk,c1,c2,c3',true_and]
theorem sIsValidPieceModel (m:Model) (h:smallM m):SpecAt Tryz.prog 27 [m.sl] (.bl (decide (modelOk m))):=by
 have h2:=h.2.1
 have h3:=h.2.2.1
 refine spec_of_awp (M:=MM) (np:=1) (fz:=true) mixed Tryz.func27 rfl rfl (by decide) rfl (Nat.le_refl _) (by decide +kernel) (.inr ⟨rfl,rfl⟩) trivial ?_
 have fin:∀ b:Bool,(b=true↔modelOk m)→Value.bool b=Value.bool (decide (modelOk m)):=fun b h=>bl_eq (by rw [h,decide_eq_true_iff])
 simp -dsimp -implicitDefEqProofs (disch:=first|omega|(simp only [lenr];try omega)) only [↓amPre,↓reduceIte,reduceCtorEq,reduceEqDiff,Nat.reduceBEq,reduceAdd,reduceLeDiff,reduceSub,reduceMul,reduceToNat,MM,bu0,cbP3]
 refine callP_of (sAreValidKinds m.ks h.1) ?_
 by_cases c1:kindsOk m.ks
 case neg =>
  simp -dsimp -implicitDefEqProofs (disch:=first|omega|(simp only [lenr];try omega)) only [↓amPre,↓reduceIte,reduceCtorEq,reduceEqDiff,Nat.reduceBEq,reduceAdd,reduceLeDiff,reduceSub,reduceMul,reduceToNat,MM,bu0,cbP3,c1]
  refine fin _ ?_
  simp only [modelOk,c1,false_and,reduceCtorEq]
 simp -dsimp -implicitDefEqProofs (disch:=first|omega|(simp only [lenr];try omega)) only [↓amPre,↓reduceIte,reduceCtorEq,reduceEqDiff,Nat.reduceBEq,reduceAdd,reduceLeDiff,reduceSub,reduceMul,reduceToNat,MM,bu0,cbP3,c1]
 refine callP_of (inRange _ _ _) ?_
 by_cases c2:1≤(m.mv.length:Int)∧(m.mv.length:Int)≤8
 case neg =>
  simp -dsimp -implicitDefEqProofs (disch:=first|omega|(simp only [lenr];try omega)) only [↓amPre,↓reduceIte,reduceCtorEq,reduceEqDiff,Nat.reduceBEq,reduceAdd,reduceLeDiff,reduceSub,reduceMul,reduceToNat,MM,bu0,cbP3,within_not.2 c2]
  refine fin _ ?_
  simp only [reduceCtorEq,false_iff]
  intro q;have:=q.2.1.2;have:=q.2.2.1;omega
 simp -dsimp -implicitDefEqProofs (disch:=first|omega|(simp only [lenr];try omega)) only [↓amPre,↓reduceIte,reduceCtorEq,reduceEqDiff,Nat.reduceBEq,reduceAdd,reduceLeDiff,reduceSub,reduceMul,reduceToNat,MM,bu0,cbP3,within_iff.2 c2]
 refine callP_of (svalidNames m.nm m.mv.length h.2.1) ?_
 by_cases c3:m.nm.length=m.mv.length∧lettersOk m.nm
 case neg =>
  simp -dsimp -implicitDefEqProofs (disch:=first|omega|(simp only [lenr];try omega)) only [↓amPre,↓reduceIte,reduceCtorEq,reduceEqDiff,Nat.reduceBEq,reduceAdd,reduceLeDiff,reduceSub,reduceMul,reduceToNat,MM,bu0,cbP3,decide_eq_false c3]
  refine fin _ ?_
  simp only [reduceCtorEq,false_iff]
  intro q;exact c3 ⟨q.2.2.1,q.2.1.1⟩
 simp -dsimp -implicitDefEqProofs (disch:=first|omega|(simp only [lenr];try omega)) only [↓amPre,↓reduceIte,reduceCtorEq,reduceEqDiff,Nat.reduceBEq,reduceAdd,reduceLeDiff,reduceSub,reduceMul,reduceToNat,MM,bu0,cbP3,decide_eq_true c3]
 have hnk:namesOk m.nm:=⟨c3.2,by omega,by omega⟩
 refine awp_loop (fun k st=>k≤m.mv.length∧st.fr 3=.i64 k∧st.fr 1=.loc 1 [] 0 0∧st.mem 1=some (.pt 3 (.agg [ksl m.ks,.st m.nm,tssl m.mv]))∧∀ s∈m.mv.take k,psOk m.ks s) (m.mv.length) ?_ ?_
 ·simp -dsimp -implicitDefEqProofs (disch:=first|omega|(simp only [lenr];try omega)) only [↓amPre,↓reduceIte,reduceCtorEq,reduceEqDiff,Nat.reduceBEq,reduceAdd,reduceLeDiff,reduceSub,reduceMul,reduceToNat,MM,bu0,cbP3]
  simp
 rintro k st _ ⟨hk,f3,f1,m1,ek⟩
 by_cases hlt:k<m.mv.length
 ·have hsm:=h.2.2.2 _ (mem_getD m.mv k default hlt)
  simp -dsimp -implicitDefEqProofs (disch:=first|omega|(simp only [lenr];try omega)) only [↓amPre,↓reduceIte,reduceCtorEq,reduceEqDiff,Nat.reduceBEq,reduceAdd,reduceLeDiff,reduceSub,reduceMul,reduceToNat,MM,bu0,cbP3,f3,f1,m1]
  refine callP_of (sIsPieceState m.ks (m.mv.getD k default) h.1 hsm.1 hsm.2) ?_
  by_cases w:psOk m.ks (m.mv.getD k default)
  ·simp -dsimp -implicitDefEqProofs (disch:=first|omega|(simp only [lenr];try omega)) only [↓amPre,↓reduceIte,reduceCtorEq,reduceEqDiff,Nat.reduceBEq,reduceAdd,reduceLeDiff,reduceSub,reduceMul,reduceToNat,MM,bu0,cbP3,f3,f1,m1,w]
   repeat' (first | omega | rfl | exact i64c (by omega) | exact vic (by omega) | exact (mem_take_succ (d:=default) hlt).2 ⟨ek,w⟩ | apply And.intro)
  ·simp -dsimp -implicitDefEqProofs (disch:=first|omega|(simp only [lenr];try omega)) only [↓amPre,↓reduceIte,reduceCtorEq,reduceEqDiff,Nat.reduceBEq,reduceAdd,reduceLeDiff,reduceSub,reduceMul,reduceToNat,MM,bu0,cbP3,w]
   refine fin _ ?_
   simp only [reduceCtorEq,false_iff]
   intro q;exact w (q.2.2.2 _ (mem_getD m.mv k default hlt))
 ·have hke:k=m.mv.length:=by omega
  subst hke
  rw [List.take_length] at ek
  simp -dsimp -implicitDefEqProofs (disch:=first|omega|(simp only [lenr];try omega)) only [↓amPre,↓reduceIte,reduceCtorEq,reduceEqDiff,Nat.reduceBEq,reduceAdd,reduceLeDiff,reduceSub,reduceMul,reduceToNat,MM,bu0,cbP3,f3,f1,m1]
  refine fin _ ?_
  simp only [true_iff]
  exact ⟨c1,hnk,c3.1,ek⟩
end Go.AM
namespace Go.AM
def St.nilC2 (st:St) (s z w:Nat):St:=(st.nilC s 0 z w [.nilsl,.nilsl]).nilC s 1 z w [.tr w [],.nilsl]
end Go.AM
set_option maxRecDepth 8000
namespace Go.AM
open Go.Proofs
instance:Thing (List Int):=⟨⟩
abbrev smallSS (l:List (List Int)):Prop:=l.length≤1099511627776∧∀ s∈l,s.length≤1099511627776
abbrev wfSS (l:List (List Int)):Prop:=l.length≤9223372036854775807∧∀ s∈l,s.length≤9223372036854775807
def Puzz.size (p:Puzz):Nat:=p.nm.length+sizeI p.mv
abbrev wfP (p:Puzz):Prop:=intOk p.n∧p.nm.length≤9223372036854775807∧wfSS p.mv
abbrev smallP (p:Puzz):Prop:=intOk p.n∧p.nm.length≤1099511627776∧smallSS p.mv
theorem indexFuncI (l:List (List Int)) (g:FuncId) (caps:List AV) (pr:List Int→Bool) (hM:MM g=[]) (hb:AV.bearsL caps=false) (hv:∀ mem,AV.views mem caps=caps) (h:∀ x∈l,SpecAt Tryz.prog g ([isl x]++caps) (.bl (pr x))) (hl:l.length≤1099511627776) :
  SpecAt Tryz.prog 153 [ssl l,.fn g caps] (.i64 (fidxG pr l)):=by
 unfold MM at hM
 refine spec_of_awp (M:=MM) (np:=2) (fz:=true) mixed Tryz.func153 rfl rfl (by decide) rfl (Nat.le_refl _) (by decide +kernel) (.inr ⟨rfl,rfl⟩) trivial ?_
 simp -dsimp -implicitDefEqProofs (disch:=first|omega|(simp only [lenr];try omega)) only [↓amPre,↓reduceIte,reduceCtorEq,reduceEqDiff,Nat.reduceBEq,reduceAdd,reduceLeDiff,reduceSub,reduceMul,reduceToNat,MM,bu0,cbP9]
 refine awp_loop (fun k st=>k≤l.length∧st.fr 8=.i64 k∧st.fr 7=.i64 l.length∧st.fr 0=ssl l∧st.fr 1=.fn g caps∧∀ x∈l.take k,pr x=false) (l.length) ?_ ?_
 ·simp -dsimp -implicitDefEqProofs (disch:=first|omega|(simp only [lenr];try omega)) only [↓amPre,↓reduceIte,reduceCtorEq,reduceEqDiff,Nat.reduceBEq,reduceAdd,reduceLeDiff,reduceSub,reduceMul,reduceToNat,MM,bu0,cbP9]
  simp
 rintro k st _ ⟨hk,f8,f7,f0,f1,ek⟩
 by_cases hlt:k<l.length
 ·have hmem:=mem_getD l k default hlt
  simp -dsimp -implicitDefEqProofs (disch:=first|omega|(simp only [lenr];try omega)) only [↓amPre,↓reduceIte,reduceCtorEq,reduceEqDiff,Nat.reduceBEq,reduceAdd,reduceLeDiff,reduceSub,reduceMul,reduceToNat,MM,bu0,cbP9,f8,f7,f0,f1,hM,hb,hv]
  refine callP_of (h _ hmem) ?_
  cases w:pr (l.getD k default) with
  | true =>
   simp -dsimp -implicitDefEqProofs (disch:=first|omega|(simp only [lenr];try omega)) only [↓amPre,↓reduceIte,reduceCtorEq,reduceEqDiff,Nat.reduceBEq,reduceAdd,reduceLeDiff,reduceSub,reduceMul,reduceToNat,MM,bu0,cbP9,f8,f7,f0,f1,w]
   rw [fidxG_at pr l default k hlt ek w]
  | false =>
   simp -dsimp -implicitDefEqProofs (disch:=first|omega|(simp only [lenr];try omega)) only [↓amPre,↓reduceIte,reduceCtorEq,reduceEqDiff,Nat.reduceBEq,reduceAdd,reduceLeDiff,reduceSub,reduceMul,reduceToNat,MM,bu0,cbP9,f8,f7,f0,f1,w]
   repeat' (first | omega | rfl | exact i64c (by omega) | exact vic (by omega) | exact (mem_take_succ (d:=default) hlt).2 ⟨ek,w⟩ | apply And.intro)
 ·have hke:k=l.length:=by omega
  subst hke
  rw [List.take_length] at ek
  simp -dsimp -implicitDefEqProofs (disch:=first|omega|(simp only [lenr];try omega)) only [↓amPre,↓reduceIte,reduceCtorEq,reduceEqDiff,Nat.reduceBEq,reduceAdd,reduceLeDiff,reduceSub,reduceMul,reduceToNat,MM,bu0,cbP9,f8,f7,f0,f1]
  rw [fidxG_none pr l ek]
theorem containsFuncI (l:List (List Int)) (g:FuncId) (caps:List AV) (pr:List Int→Bool) (hM:MM g=[]) (hb:AV.bearsL caps=false) (hv:∀ mem,AV.views mem caps=caps) (h:∀ x∈l,SpecAt Tryz.prog g ([isl x]++caps) (.bl (pr x))) (hl:l.length≤1099511627776) :
  SpecAt Tryz.prog 139 [ssl l,.fn g caps] (.bl (l.any pr)):=by
 refine spec_of_awp (M:=MM) (np:=2) (fz:=true) mixed Tryz.func139 rfl rfl (by decide) rfl (Nat.le_refl _) (by decide +kernel) (.inr ⟨rfl,rfl⟩) trivial ?_
 simp -dsimp -implicitDefEqProofs (disch:=first|omega|(simp only [lenr];try omega)) only [↓amPre,↓reduceIte,reduceCtorEq,reduceEqDiff,Nat.reduceBEq,reduceAdd,reduceLeDiff,reduceSub,reduceMul,reduceToNat,MM,bu0,cbP9,hb,hv]
 refine callP_of (indexFuncI l g caps pr hM hb hv h hl) ?_
 simp -dsimp -implicitDefEqProofs (disch:=first|omega|(simp only [lenr];try omega)) only [↓amPre,↓reduceIte,reduceCtorEq,reduceEqDiff,Nat.reduceBEq,reduceAdd,reduceLeDiff,reduceSub,reduceMul,reduceToNat,MM,bu0,cbP9]
 refine bl_eq ?_
 simp only [decide_eq_true_eq,fidxG_nonneg]
end Go.AM
