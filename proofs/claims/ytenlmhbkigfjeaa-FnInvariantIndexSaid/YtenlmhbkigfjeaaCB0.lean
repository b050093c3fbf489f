/-
  CONTRACTS of functions of the program,and what they compute,by content.
-/
import Derived.Test.YtenlmhbkigfjeaaM2Tool
import Derived.Test.YtenlmhbkigfjeaaM2Facts
import Derived.Test.YtenlmhbkigfjeaaM2SD
set_option linter.unusedVariables false
set_option linter.defProp false
set_option linter.unusedSimpArgs false
namespace Go.AM
/-! content: lists of numbers,lists of things -/
abbrev isl (l:List Int):AV:=.sl 1 (l.map AV.i64)
abbrev itr (l:List Int):AV:=.tr 1 (l.map AV.i64)
class Thing (α:Type) extends Inhabited α
instance:Thing (List Int):=⟨⟩
instance:Thing (List (List Int)):=⟨⟩
theorem gm {α:Type} [Thing α] (f:α→AV) (l:List α) (i:Nat) (h:i<l.length):(l.map f).getD i .any=f (l.getD i default):=by
  simp [List.getD,h]
theorem gi (l:List Int) (i:Nat) (h:i<l.length):(l.map AV.i64).getD i .any=.i64 (l.getD i 0):=by
  simp [List.getD,h]
theorem set_map {α:Type} (f:α→AV) (l:List α) (i:Nat) (x:α):(l.map f).set i (f x)=(l.set i x).map f:=by
  rw [List.map_set]
theorem map_snoc {α:Type} (f:α→AV) (l:List α) (x:α):l.map f++[f x]=(l++[x]).map f:=by simp
theorem map_take {α:Type} (f:α→AV) (l:List α) (n:Nat):(l.map f).take n=(l.take n).map f:=by rw [List.map_take]
theorem map_drop {α:Type} (f:α→AV) (l:List α) (n:Nat):(l.map f).drop n=(l.drop n).map f:=by rw [List.map_drop]
theorem take_map_all {α:Type} (f:α→AV) (l:List α) (n:Nat) (h:n=l.length):(l.map f).take n=l.map f:=by
  rw [List.take_of_length_le];simp;omega
theorem ints_fz (l:List Int):(l.map AV.i64).map AV.fz=l.map AV.i64:=by simp [fz_v]
theorem i64c {a b:Int} (h:a=b):AV.i64 a=AV.i64 b:=by rw [h]
theorem vic {k:IntKind} {a b:Int} (h:a=b):Value.int k a=Value.int k b:=by rw [h]
theorem cast1 (j:Nat):((j:Int)+1)=((j+1:Nat):Int):=by simp
theorem bl_eq {a b:Bool} (h:a=true↔b=true):Value.bool a=Value.bool b:=by rw [Bool.eq_iff_iff.2 h]
theorem getD_eq {α:Type} (l:List α) (i:Nat) (d:α) (h:i<l.length):l.getD i d=l[i]:=by simp [List.getD,h]
theorem take_succ_eq {α:Type} (l:List α) (i:Nat) (d:α) (h:i<l.length):l.take (i+1)=l.take i++[l.getD i d]:=by
  rw [List.take_succ_eq_append_getElem h,getD_eq l i d h]
theorem mem_take_succ {α:Type} {l:List α} {i:Nat} {d:α} (h:i<l.length) {p:α→Prop}:(∀ x∈l.take (i+1),p x)↔(∀ x∈l.take i,p x)∧p (l.getD i d):=by
  rw [take_succ_eq l i d h]
  constructor
  · intro q;exact ⟨fun x hx=>q x (by simp [hx]),q _ (by simp)⟩
  · rintro ⟨q1,q2⟩ x hx
    rcases List.mem_append.1 hx with hx | hx
    · exact q1 x hx
    · rw [List.mem_singleton.1 hx];exact q2
def runI (k:Int) (n:Nat):List Int:=(List.range n).map fun i=>k+(i:Nat)
theorem runI_len (k:Int) (n:Nat):(runI k n).length=n:=by simp [runI]
theorem runI_get (k:Int) (n i:Nat) (h:i<n):(runI k n).getD i 0=k+i:=by simp [runI,List.getD,h]
def within (x lo hi:Int):Bool:=decide (lo≤x) && decide (x≤hi)
theorem within_iff {x lo hi:Int}:within x lo hi=true↔lo≤x∧x≤hi:=by simp [within]
theorem within_not {x lo hi:Int}:within x lo hi=false↔¬ (lo≤x∧x≤hi):=by rw [← within_iff];simp
theorem getD_set_same {α:Type} (l:List α) (i:Nat) (x d:α) (h:i<l.length):(l.set i x).getD i d=x:=by simp [List.getD,h]
theorem getD_set_ne {α:Type} (l:List α) (i j:Nat) (x d:α) (h:i≠j):(l.set i x).getD j d=l.getD j d:=by simp [List.getD,List.getElem?_set_ne h]
/-! things that are marked: each number of them gets one of its own -/
class Mk (α:Type) extends Thing α where
  mrk:Int→α→α
  cnt:α→Nat
instance:Mk (List Int):={ mrk:=fun k l=>runI k l.length,cnt:=List.length }
section
variable {α:Type} [Mk α]
def mks (k:Int):List α→List α
  | []=>[]
  | a :: r=>Mk.mrk k a :: mks (k+Mk.cnt a) r
def cnts:List α→Nat
  | []=>0
  | a :: r=>Mk.cnt a+cnts r
theorem mks_len:∀ (k:Int) (l:List α),(mks k l).length=l.length
  | _,[]=>rfl
  | k,a :: r=>by rw [mks,List.length_cons,List.length_cons,mks_len]
theorem cnts_bound:∀ (l:List α) (b:Nat),(∀ a∈l,Mk.cnt a≤b)→cnts l≤b*l.length
  | [],_,_=>by simp [cnts]
  | a :: r,b,h=>by
    have:=cnts_bound r b fun x hx=>h x (by simp [hx])
    have:=h a (by simp)
    simp only [cnts,List.length_cons,Nat.mul_succ];omega
instance:Mk (List α):={ mrk:=mks,cnt:=cnts }
end
def sizeL {α:Type} [Mk α] (l:List α):Nat:=l.length+cnts l
theorem mem_getD {α:Type} (l:List α) (i:Nat) (d:α) (h:i<l.length):l.getD i d∈l:=by rw [getD_eq l i d h];exact List.getElem_mem h
theorem hdV (x d:Value) (l:List Value):(x :: l).headD d=x:=rfl
theorem repI (n:Nat) (x:Int):List.replicate n (AV.v (.int .i64 x))=(List.replicate n x).map AV.i64:=by simp
theorem bbeq (b:Bool):(b == b)=true:=by cases b <;> rfl
def lenr:=(ai (@List.length_map.{0,0}) (ai (@List.length_set.{0}) (ai (@List.length_append.{0}) (ai (@List.length_cons.{0}) (ai (@List.length_nil.{0}) (ai (@List.length_replicate.{0}) (ai (@List.length_take.{0}) (ai runI_len (ai (@mks_len) (ai (@List.length_range) (@List.length_drop.{0})))))))))))

def bu0:=ai (ai amAll (ai tyF @List.size_toArray.{0})) (ai gi (ai @gm (ai @set_map (ai @map_snoc (ai @take_map_all (ai @map_take (ai @map_drop (ai ints_fz (ai cast1 (ai @getD_set_same (ai (@List.set_set.{0}) (ai hdV (ai repI (ai (@List.take_of_length_le.{0}) bbeq))))))))))))))

end Go.AM
set_option maxRecDepth 8000
namespace Go.AM
open Go.Proofs
def MM:FuncId→List Bool:=fun f=>if f=56 then [true,false] else if f=114 then [true,false] else if f=194 then [true,false] else if f=116 then [true,false] else if f=40 then [true,false] else if f=63 then [true,false] else if f=115 then [true,false] else if f=39 then [true,false] else if f=213 then [true] else if f=196 then [true,false] else []
end Go.AM
set_option maxRecDepth 8000
namespace Go.AM
namespace Draws
open Go.Proofs
def MM:FuncId→List Bool:=fun f=>if f=229 then [true] else if f=184 then [true,false] else if f=163 then [true,false] else if f=185 then [true,false,false] else if f=186 then [true,false] else if f=230 then [true] else if f=228 then [true] else if f=221 then [true,false] else if f=162 then [true,true] else if f=183 then [true] else if f=93 then [true] else if f=79 then [true] else []
structure Src where
  b:List UInt8
  k:Nat
  s:Int
abbrev bsl (l:List UInt8):AV:=.sl 1 (l.map fun x=>.u8 x.toNat)
abbrev Src.pt (s:Src):AV:=.pt 3 (.agg [bsl s.b,.i64 s.k,.i64 s.s])
abbrev Src.ok (s:Src):Prop:=s.b.length≤4096∧s.k≤s.b.length∧intOk s.s
instance:Thing UInt8:=⟨⟩
def nxS (s:Int):Int:=IntKind.i64.wrap (IntKind.i64.wrap (s*6364136223846793005)+1442695040888963407)
def nxX (s:Int):Int:=bitsI .and .i64 (bitsI .xor .i64 (s.fdiv (2 ^ (min 33 64))) (s.fdiv (2 ^ (min 45 64)))) 255
theorem and255 (a:Int):0≤bitsI .and .i64 a 255∧bitsI .and .i64 a 255≤255:=by
  have h:(BitVec.ofInt 64 a &&& BitVec.ofInt 64 255).toNat≤255:=by
    rw [BitVec.toNat_and]
    exact Nat.le_trans Nat.and_le_right (by decide)
  have e:bitsI .and .i64 a 255=((BitVec.ofInt 64 a &&& BitVec.ofInt 64 255).toNat:Int):=by
    show IntKind.i64.wrap ((BitVec.ofInt 64 a &&& BitVec.ofInt 64 255).toNat:Int)=_
    apply wrap64_id;omega
  rw [e];omega
theorem wrap_ok (x:Int):intOk (IntKind.i64.wrap x):=by
  unfold intOk IntKind.wrap
  simp only [IntKind.signed,IntKind.bits,Bool.true_and,decide_eq_true_eq,ge_iff_le,Nat.reduceSub,Int.reducePow,Nat.reducePow]
  constructor <;> split <;> omega
theorem nextByte (s:Src) (h:s.ok):∃ (s':Src) (x:Int),SpecX Try.prog 229 [s.pt] [some s'.pt] (.i64 x)∧s'.ok∧0≤x∧x≤255:=by
  have h1:=h.1
  have h2:=h.2.1
  have h3:=h.2.2
  have hb:IntKind.i64.bits=64:=rfl
  have hw:intOk (nxS s.s):=wrap_ok _
  have ha:=and255 (bitsI .xor .i64 ((nxS s.s).fdiv (2 ^ (min 33 64))) ((nxS s.s).fdiv (2 ^ (min 45 64))))
  have hn:nxS s.s=IntKind.i64.wrap (IntKind.i64.wrap (s.s*6364136223846793005)+1442695040888963407):=rfl
  by_cases hk:s.k<s.b.length
  case neg =>
    refine ⟨⟨s.b,s.k,nxS s.s⟩,nxX (nxS s.s),?_,⟨h1,h2,hw⟩,ha⟩
    unfold intOk at h3
    have hkl:s.k=s.b.length:=by omega
    refine spec_of_awp (M:=MM) (np:=1) (fz:=false) mixed Try.func229 rfl rfl (by decide) rfl (Nat.le_refl _) (by decide +kernel) (.inl rfl) (by simp only [sigsOk_some,sigsOk_nil,and_true];rfl) ?_
    simp -dsimp -implicitDefEqProofs (disch:=first|omega|(simp only [lenr];try omega)) only [↓amPre,↓reduceIte,reduceCtorEq,Nat.reduceEqDiff,Nat.reduceBEq,Nat.reduceAdd,Nat.reduceLeDiff,Nat.reduceSub,Nat.reduceMul,Int.reduceToNat,MM,bu0,hb,hkl]
    exact ⟨rfl,rfl⟩
  have hu:(s.b.getD s.k default).toNat<256:=(s.b.getD s.k default).toNat_lt
  have hv:=and255 (nxX (nxS s.s)+((s.b.getD s.k default).toNat:Int))
  have hx:0≤nxX (nxS s.s)∧nxX (nxS s.s)≤255:=ha
  refine ⟨⟨s.b,s.k+1,nxS s.s⟩,bitsI .and .i64 (nxX (nxS s.s)+((s.b.getD s.k default).toNat:Int)) 255,?_,⟨h1,hk,hw⟩,hv⟩
  unfold intOk at h3
  have hX:bitsI .and .i64 (bitsI .xor .i64 ((nxS s.s).fdiv (2 ^ (min 33 64))) ((nxS s.s).fdiv (2 ^ (min 45 64)))) 255=nxX (nxS s.s):=rfl
  have e1:IntKind.i64.wrap ((s.b.getD s.k default).toNat:Int)=(s.b.getD s.k default).toNat:=wrap64_id (by omega)
  have e2:IntKind.i64.wrap (nxX (nxS s.s)+((s.b.getD s.k default).toNat:Int))=nxX (nxS s.s)+((s.b.getD s.k default).toNat:Int):=wrap64_id (by omega)
  refine spec_of_awp (M:=MM) (np:=1) (fz:=false) mixed Try.func229 rfl rfl (by decide) rfl (Nat.le_refl _) (by decide +kernel) (.inl rfl) (by simp only [sigsOk_some,sigsOk_nil,and_true];rfl) ?_
  simp -dsimp -implicitDefEqProofs (disch:=first|omega|(simp only [lenr];try omega)) only [↓amPre,↓reduceIte,reduceCtorEq,Nat.reduceEqDiff,Nat.reduceBEq,Nat.reduceAdd,Nat.reduceLeDiff,Nat.reduceSub,Nat.reduceMul,Int.reduceToNat,MM,bu0,hb,← hn,hX,e1,e2]
theorem below (s:Src) (n:Int) (h:s.ok) (hn:intOk n):∃ (s':Src) (x:Int),SpecX Try.prog 184 [s.pt,.i64 n] [some s'.pt] (.i64 x)∧s'.ok∧0≤x∧(0<n→x<n)∧(n≤0→x=0):=by
  unfold intOk at hn
  by_cases n0:n≤0
  · refine ⟨s,0,?_,h,by omega,by omega,fun _=>rfl⟩
    refine spec_of_awp (M:=MM) (np:=2) (fz:=false) mixed Try.func184 rfl rfl (by decide) rfl (Nat.le_refl _) (by decide +kernel) (.inl rfl) (by simp only [sigsOk_some,sigsOk_nil,and_true]) ?_
    simp -dsimp -implicitDefEqProofs (disch:=first|omega|(simp only [lenr];try omega)) only [↓amPre,↓reduceIte,reduceCtorEq,Nat.reduceEqDiff,Nat.reduceBEq,Nat.reduceAdd,Nat.reduceLeDiff,Nat.reduceSub,Nat.reduceMul,Int.reduceToNat,MM,bu0,lt_false n0]
  obtain ⟨s1,x1,q1,k1,b1⟩:=nextByte s h
  by_cases n1:n≤256
  · refine ⟨s1,x1.tmod n,?_,k1,Int.tmod_nonneg _ b1.1,fun q=>Int.tmod_lt_of_pos _ q,fun q=>by omega⟩
    have hne:n≠0:=by omega
    refine spec_of_awp (M:=MM) (np:=2) (fz:=false) mixed Try.func184 rfl rfl (by decide) rfl (Nat.le_refl _) (by decide +kernel) (.inl rfl) (by simp only [sigsOk_some,sigsOk_nil,and_true];rfl) ?_
    simp -dsimp -implicitDefEqProofs (disch:=first|omega|(simp only [lenr];try omega)) only [↓amPre,↓reduceIte,reduceCtorEq,Nat.reduceEqDiff,Nat.reduceBEq,Nat.reduceAdd,Nat.reduceLeDiff,Nat.reduceSub,Nat.reduceMul,Int.reduceToNat,MM,bu0,lt_true (Int.not_le.1 n0),lt_false n1]
    refine callX_of (q1) ?_
    simp -dsimp -implicitDefEqProofs (disch:=first|omega|(simp only [lenr];try omega)) only [↓amPre,↓reduceIte,reduceCtorEq,Nat.reduceEqDiff,Nat.reduceBEq,Nat.reduceAdd,Nat.reduceLeDiff,Nat.reduceSub,Nat.reduceMul,Int.reduceToNat,MM,bu0,hne]
  obtain ⟨s2,x2,q2,k2,b2⟩:=nextByte s1 k1
  obtain ⟨s3,x3,q3,k3,b3⟩:=nextByte s2 k2
  obtain ⟨s4,x4,q4,k4,b4⟩:=nextByte s3 k3
  refine ⟨s4,(x1*16777216+x2*65536+x3*256+x4).tmod n,?_,k4,Int.tmod_nonneg _ (by omega),fun q=>Int.tmod_lt_of_pos _ q,fun q=>by omega⟩
  have hne:n≠0:=by omega
  have e1:IntKind.i64.wrap (x1*16777216)=x1*16777216:=wrap64_id (by omega)
  have e2:IntKind.i64.wrap (x2*65536)=x2*65536:=wrap64_id (by omega)
  have e3:IntKind.i64.wrap (x3*256)=x3*256:=wrap64_id (by omega)
  have e4:IntKind.i64.wrap (x1*16777216+x2*65536)=x1*16777216+x2*65536:=wrap64_id (by omega)
  have e5:IntKind.i64.wrap (x1*16777216+x2*65536+x3*256)=x1*16777216+x2*65536+x3*256:=wrap64_id (by omega)
  have e6:IntKind.i64.wrap (x1*16777216+x2*65536+x3*256+x4)=x1*16777216+x2*65536+x3*256+x4:=wrap64_id (by omega)
  refine spec_of_awp (M:=MM) (np:=2) (fz:=false) mixed Try.func184 rfl rfl (by decide) rfl (Nat.le_refl _) (by decide +kernel) (.inl rfl) (by simp only [sigsOk_some,sigsOk_nil,and_true];rfl) ?_
  simp -dsimp -implicitDefEqProofs (disch:=first|omega|(simp only [lenr];try omega)) only [↓amPre,↓reduceIte,reduceCtorEq,Nat.reduceEqDiff,Nat.reduceBEq,Nat.reduceAdd,Nat.reduceLeDiff,Nat.reduceSub,Nat.reduceMul,Int.reduceToNat,MM,bu0,lt_true (Int.not_le.1 n0),lt_true (Int.not_le.1 n1)]
  refine callX_of (q1) ?_
  simp -dsimp -implicitDefEqProofs (disch:=first|omega|(simp only [lenr];try omega)) only [↓amPre,↓reduceIte,reduceCtorEq,Nat.reduceEqDiff,Nat.reduceBEq,Nat.reduceAdd,Nat.reduceLeDiff,Nat.reduceSub,Nat.reduceMul,Int.reduceToNat,MM,bu0]
  refine callX_of (q2) ?_
  simp -dsimp -implicitDefEqProofs (disch:=first|omega|(simp only [lenr];try omega)) only [↓amPre,↓reduceIte,reduceCtorEq,Nat.reduceEqDiff,Nat.reduceBEq,Nat.reduceAdd,Nat.reduceLeDiff,Nat.reduceSub,Nat.reduceMul,Int.reduceToNat,MM,bu0]
  refine callX_of (q3) ?_
  simp -dsimp -implicitDefEqProofs (disch:=first|omega|(simp only [lenr];try omega)) only [↓amPre,↓reduceIte,reduceCtorEq,Nat.reduceEqDiff,Nat.reduceBEq,Nat.reduceAdd,Nat.reduceLeDiff,Nat.reduceSub,Nat.reduceMul,Int.reduceToNat,MM,bu0]
  refine callX_of (q4) ?_
  simp -dsimp -implicitDefEqProofs (disch:=first|omega|(simp only [lenr];try omega)) only [↓amPre,↓reduceIte,reduceCtorEq,Nat.reduceEqDiff,Nat.reduceBEq,Nat.reduceAdd,Nat.reduceLeDiff,Nat.reduceSub,Nat.reduceMul,Int.reduceToNat,MM,bu0,hne,e1,e2,e3,e4,e5,e6]
theorem oneIn (s:Src) (n:Int) (h:s.ok) (hn:intOk n):∃ (s':Src) (b:Bool),SpecX Try.prog 163 [s.pt,.i64 n] [some s'.pt] (.bl b)∧s'.ok:=by
  obtain ⟨s1,x1,q1,k1,b1⟩:=below s n h hn
  refine ⟨s1,x1 == 0,?_,k1⟩
  refine spec_of_awp (M:=MM) (np:=2) (fz:=false) mixed Try.func163 rfl rfl (by decide) rfl (Nat.le_refl _) (by decide +kernel) (.inl rfl) (by simp only [sigsOk_some,sigsOk_nil,and_true];rfl) ?_
  simp -dsimp -implicitDefEqProofs (disch:=first|omega|(simp only [lenr];try omega)) only [↓amPre,↓reduceIte,reduceCtorEq,Nat.reduceEqDiff,Nat.reduceBEq,Nat.reduceAdd,Nat.reduceLeDiff,Nat.reduceSub,Nat.reduceMul,Int.reduceToNat,MM,bu0]
  refine callX_of (q1) ?_
  simp -dsimp -implicitDefEqProofs (disch:=first|omega|(simp only [lenr];try omega)) only [↓amPre,↓reduceIte,reduceCtorEq,Nat.reduceEqDiff,Nat.reduceBEq,Nat.reduceAdd,Nat.reduceLeDiff,Nat.reduceSub,Nat.reduceMul,Int.reduceToNat,MM,bu0]
theorem between (s:Src) (a b:Int) (h:s.ok) (ha:-1000≤a) (hab:a≤b) (hb:b≤1000):∃ (s':Src) (x:Int),SpecX Try.prog 185 [s.pt,.i64 a,.i64 b] [some s'.pt] (.i64 x)∧s'.ok∧a≤x∧x≤b:=by
  obtain ⟨s1,x1,q1,k1,b1,b2,b3⟩:=below s (b - a+1) h (by unfold intOk;omega)
  have b2:=b2 (by omega)
  refine ⟨s1,a+x1,?_,k1,by omega,by omega⟩
  refine spec_of_awp (M:=MM) (np:=3) (fz:=false) mixed Try.func185 rfl rfl (by decide) rfl (Nat.le_refl _) (by decide +kernel) (.inl rfl) (by simp only [sigsOk_some,sigsOk_nil,and_true];rfl) ?_
  simp -dsimp -implicitDefEqProofs (disch:=first|omega|(simp only [lenr];try omega)) only [↓amPre,↓reduceIte,reduceCtorEq,Nat.reduceEqDiff,Nat.reduceBEq,Nat.reduceAdd,Nat.reduceLeDiff,Nat.reduceSub,Nat.reduceMul,Int.reduceToNat,MM,bu0]
  refine callX_of (q1) ?_
  simp -dsimp -implicitDefEqProofs (disch:=first|omega|(simp only [lenr];try omega)) only [↓amPre,↓reduceIte,reduceCtorEq,Nat.reduceEqDiff,Nat.reduceBEq,Nat.reduceAdd,Nat.reduceLeDiff,Nat.reduceSub,Nat.reduceMul,Int.reduceToNat,MM,bu0]
theorem extremeInt (s:Src) (h:s.ok):∃ (s':Src) (x:Int),SpecX Try.prog 230 [s.pt] [some s'.pt] (.i64 x)∧s'.ok∧intOk x:=by
  obtain ⟨s1,x1,q1,k1,b1,b2,b3⟩:=below s 10 h (by unfold intOk;omega)
  have b2:=b2 (by omega)
  obtain ⟨n,hn⟩:∃ n:Nat,x1=n:=⟨_,(Int.toNat_of_nonneg b1).symm⟩
  have hn10:n<10:=by omega
  subst hn
  have hin:∀ n:Nat,n<10→-9223372036854775808≤([-1,0,1,2147483648,-2147483648,1099511627776,4611686018427387904,-4611686018427387904,9223372036854775807,-9223372036854775808]:List Int).getD n 0∧([-1,0,1,2147483648,-2147483648,1099511627776,4611686018427387904,-4611686018427387904,9223372036854775807,-9223372036854775808]:List Int).getD n 0≤9223372036854775807:=by decide +kernel
  refine ⟨s1,([-1,0,1,2147483648,-2147483648,1099511627776,4611686018427387904,-4611686018427387904,9223372036854775807,-9223372036854775808]:List Int).getD n 0,?_,k1,hin n hn10⟩
  have hg:([.i64 (-1),.i64 (0),.i64 (1),.i64 (2147483648),.i64 (-2147483648),.i64 (1099511627776),.i64 (4611686018427387904),.i64 (-4611686018427387904),.i64 (9223372036854775807),.i64 (-9223372036854775808)]:List AV).getD n .any=.i64 (([-1,0,1,2147483648,-2147483648,1099511627776,4611686018427387904,-4611686018427387904,9223372036854775807,-9223372036854775808]:List Int).getD n 0):=by
    match n,hn10 with
    | 0,_=>rfl
    | 1,_=>rfl
    | 2,_=>rfl
    | 3,_=>rfl
    | 4,_=>rfl
    | 5,_=>rfl
    | 6,_=>rfl
    | 7,_=>rfl
    | 8,_=>rfl
    | 9,_=>rfl
  generalize ([-1,0,1,2147483648,-2147483648,1099511627776,4611686018427387904,-4611686018427387904,9223372036854775807,-9223372036854775808]:List Int).getD n 0=y at hg ⊢
  refine spec_of_awp (M:=MM) (np:=1) (fz:=false) mixed Try.func230 rfl rfl (by decide) rfl (Nat.le_refl _) (by decide +kernel) (.inl rfl) (by simp only [sigsOk_some,sigsOk_nil,and_true];rfl) ?_
  simp -dsimp -implicitDefEqProofs (disch:=first|omega|(simp only [lenr];try omega)) only [↓amPre,↓reduceIte,reduceCtorEq,Nat.reduceEqDiff,Nat.reduceBEq,Nat.reduceAdd,Nat.reduceLeDiff,Nat.reduceSub,Nat.reduceMul,Int.reduceToNat,MM,bu0]
  refine callX_of (q1) ?_
  simp -dsimp -implicitDefEqProofs (disch:=first|omega|(simp only [lenr];try omega)) only [↓amPre,↓reduceIte,reduceCtorEq,Nat.reduceEqDiff,Nat.reduceBEq,Nat.reduceAdd,Nat.reduceLeDiff,Nat.reduceSub,Nat.reduceMul,Int.reduceToNat,MM,bu0,hg]
end Draws
end Go.AM
namespace Go.AM
namespace Draws
open Go.Proofs
theorem opens_u8 {P:Program} {t:TypeId} (ht:P.underlying t=some (.int .u8)):Opens P t UInt8 (fun b=>[.u8 b.toNat]) (fun _=>True):=by
  intro H enc w sp held fuel cs x h
  obtain ⟨n,rfl,_,hw⟩:=DataW.trod_int ht h
  simp only [Lit.wf,Bool.and_eq_true,decide_eq_true_eq] at hw
  have e1:IntKind.u8.min=0:=by decide
  have e2:IntKind.u8.max=255:=by decide
  rw [e1,e2] at hw
  refine ⟨UInt8.ofNat n.toNat,trivial,rfl,fun j hj hk=>?_⟩
  have:j=0:=by simp at hj;omega
  subst this
  have e:((UInt8.ofNat n.toNat).toNat:Int)=n:=by rw [UInt8.toNat_ofNat'];omega
  simp only [List.getElem_cons_zero]
  rw [e]
  exact ⟨.v _,rfl⟩
theorem openByte:Opens Try.prog 5 UInt8 (fun b=>[AV.u8 b.toNat]) (fun _=>True):=opens_u8 Try.underlying5
theorem openBytes:Opens Try.prog 22 (List UInt8) (fun l=>[AV.sl 1 (l.map fun x=>AV.u8 x.toNat)]) (fun l=>l.length≤9223372036854775807∧∀ b∈l,True) :=
  opens_slice Try.underlying22 (by kernel_rfl) (by decide) (fun x:UInt8=>AV.u8 x.toNat) (fun _=>rfl) openByte
end Draws
end Go.AM
namespace Go.AM
/-! permutations,plainly -/
def isPerm (p:List Int):Prop:=(1≤p.length∧p.length≤20)∧(∀ x∈p,0≤x∧x<p.length)∧p.Nodup
instance (p:List Int):Decidable (isPerm p):=by unfold isPerm;infer_instance
theorem len_le_of_sub {α:Type} [DecidableEq α]:∀ (a b:List α),a.Nodup→(∀ x∈a,x∈b)→a.length≤b.length
  | [],_,_,_=>Nat.zero_le _
  | x :: a,b,hn,hs=>by
    have hx:=hs x (by simp)
    have h1:=len_le_of_sub a (b.erase x) (List.nodup_cons.1 hn).2 fun y hy=>(List.mem_erase_of_ne (by rintro rfl;exact (List.nodup_cons.1 hn).1 hy)).2 (hs y (by simp [hy]))
    rw [List.length_erase_of_mem hx] at h1
    have:0<b.length:=List.length_pos_of_mem hx
    simp;omega
theorem dup_of_not_nodup {α:Type} [DecidableEq α]:∀ (p:List α),¬ p.Nodup→∃ x,x∈p.erase x
  | [],h=>(h List.nodup_nil).elim
  | a :: r,h=>by
    by_cases ha:a∈r
    · exact ⟨a,by simpa using ha⟩
    · obtain ⟨x,hx⟩:=dup_of_not_nodup r fun q=>h (List.nodup_cons.2 ⟨ha,q⟩)
      refine ⟨x,?_⟩
      have:x≠a:=by rintro rfl;exact ha (List.mem_of_mem_erase hx)
      rw [List.erase_cons,if_neg (by simpa using fun e=>this e.symm)]
      simp [hx]
theorem nodup_iff_all (p:List Nat) (n:Nat) (hl:p.length=n) (hlt:∀ x∈p,x<n):p.Nodup↔∀ i,i<n→i∈p:=by
  constructor
  · intro hn i hi
    apply Decidable.byContradiction
    intro hni
    have:=len_le_of_sub p ((List.range n).erase i) hn fun x hx=>(List.mem_erase_of_ne (by rintro rfl;exact hni hx)).2 (List.mem_range.2 (hlt x hx))
    rw [List.length_erase_of_mem (List.mem_range.2 hi),List.length_range] at this
    omega
  · intro h
    apply Decidable.byContradiction
    intro hn
    obtain ⟨x,hx⟩:=dup_of_not_nodup p hn
    have hxp:=List.mem_of_mem_erase hx
    have:=len_le_of_sub (List.range n) (p.erase x) List.nodup_range fun y hy=>by
      by_cases e:y=x
      · subst e;exact hx
      · exact (List.mem_erase_of_ne e).2 (h y (List.mem_range.1 hy))
    rw [List.length_erase_of_mem hxp,List.length_range] at this
    have:=List.length_pos_of_mem hxp
    omega
def maskN:List Nat→Nat
  | []=>0
  | x :: r=>(2 ^ x) ||| maskN r
theorem maskN_bit (l:List Nat) (i:Nat):(maskN l).testBit i=true↔i∈l:=by
  induction l with
  | nil=>simp [maskN]
  | cons x r ih=>rw [maskN,Nat.testBit_or,Bool.or_eq_true,ih,Nat.testBit_two_pow];simp [eq_comm]
theorem maskN_snoc (l:List Nat) (x:Nat):maskN (l++[x])=maskN l ||| 2 ^ x:=by
  apply Nat.eq_of_testBit_eq;intro i
  rw [Bool.eq_iff_iff,Nat.testBit_or,Bool.or_eq_true,maskN_bit,maskN_bit,Nat.testBit_two_pow];simp [eq_comm]
theorem maskN_lt (l:List Nat) (n:Nat) (h:∀ x∈l,x<n):maskN l<2 ^ n:=by
  induction l with
  | nil=>simp [maskN];exact Nat.pow_pos (by decide)
  | cons x r ih=>exact Nat.or_lt_two_pow (Nat.pow_lt_pow_right (by decide) (h x (by simp))) (ih fun y hy=>h y (by simp [hy]))
theorem maskN_full (l:List Nat) (n:Nat) (h:∀ x∈l,x<n):maskN l=2 ^ n - 1↔∀ i,i<n→i∈l:=by
  constructor
  · intro e i hi
    rw [← maskN_bit,e,Nat.testBit_two_pow_sub_one];simpa using hi
  · intro q
    apply Nat.eq_of_testBit_eq;intro i
    rw [Bool.eq_iff_iff,maskN_bit,Nat.testBit_two_pow_sub_one,decide_eq_true_iff]
    exact ⟨fun hi=>h i hi,q i⟩
def mask (p:List Int):Nat:=maskN (p.map Int.toNat)
theorem mask_snoc (l:List Int) (x:Int):mask (l++[x])=mask l ||| 2 ^ x.toNat:=by simp [mask,maskN_snoc]
theorem mask_perm (p:List Int) (h:∀ x∈p,0≤x∧x<p.length):mask p=2 ^ p.length - 1↔p.Nodup:=by
  have hlt:∀ x∈p.map Int.toNat,x<p.length:=by
    intro x hx
    obtain ⟨y,hy,rfl⟩:=List.mem_map.1 hx
    have:=h y hy;omega
  rw [mask,maskN_full _ _ hlt,← nodup_iff_all _ _ (by simp) hlt,List.Nodup,List.Nodup,List.pairwise_map]
  constructor
  · intro q;exact q.imp fun hab e=>hab (by rw [e])
  · intro q
    refine (List.Pairwise.imp_of_mem ?_ q)
    intro a b ha hb hab e
    have:=h a ha;have:=h b hb;exact hab (by omega)
theorem mask_lt (p:List Int) (n:Nat) (h:∀ x∈p,0≤x∧x<n):mask p<2 ^ n:=by
  apply maskN_lt
  intro x hx
  obtain ⟨y,hy,rfl⟩:=List.mem_map.1 hx
  have:=h y hy;omega
theorem bits_or (a b:Nat) (ha:a<2 ^ 62) (hb:b<2 ^ 62):bitsI .or .i64 (a:Int) (b:Int)=((a ||| b:Nat):Int):=by
  have h1:a ||| b<2 ^ 62:=Nat.or_lt_two_pow ha hb
  have e1:(BitVec.ofInt 64 (a:Int)).toNat=a:=by rw [BitVec.toNat_ofInt];omega
  have e2:(BitVec.ofInt 64 (b:Int)).toNat=b:=by rw [BitVec.toNat_ofInt];omega
  show IntKind.i64.wrap ((BitVec.ofInt 64 (a:Int) ||| BitVec.ofInt 64 (b:Int)).toNat:Int)=_
  rw [BitVec.toNat_or,e1,e2]
  apply wrap64_id;omega
end Go.AM
namespace Go.AM
/-! kinds,plainly -/
structure Kind where
  c:Int
  o:Int
  deriving DecidableEq
instance:Mk Kind:={ default:=⟨0,0⟩,mrk:=fun k _=>⟨k,k+1⟩,cnt:=fun _=>2 }
structure Twist where
  to:List Int
  by':List Int
  deriving DecidableEq
instance:Mk Twist:={ default:=⟨[],[]⟩,mrk:=fun k t=>⟨runI k t.to.length,runI (k+t.to.length) t.by'.length⟩,cnt:=fun t=>t.to.length+t.by'.length }
def kOk (k:Kind):Prop:=(1≤k.c∧k.c≤20)∧(1≤k.o∧k.o≤20)
instance (k:Kind):Decidable (kOk k):=by unfold kOk;infer_instance
def facets:List Kind→Int
  | []=>0
  | k :: r=>k.c*k.o+facets r
theorem facets_append:∀ a b:List Kind,facets (a++b)=facets a+facets b
  | [],b=>by simp [facets]
  | k :: r,b=>by simp only [List.cons_append,facets,facets_append r b];omega
theorem facets_take (l:List Kind) (i:Nat) (h:i<l.length):facets (l.take (i+1))=facets (l.take i)+(l.getD i default).c*(l.getD i default).o:=by
  rw [take_succ_eq l i default h,facets_append];simp [facets]
theorem kOk_prod {k:Kind} (h:kOk k):1≤k.c*k.o∧k.c*k.o≤400∧k.c≤k.c*k.o∧k.o≤k.c*k.o:=by
  obtain ⟨⟨h1,h2⟩,h3,h4⟩:=h
  have a1:1*1≤k.c*k.o:=Int.mul_le_mul h1 h3 (by omega) (by omega)
  have a2:k.c*k.o≤20*20:=Int.mul_le_mul h2 h4 (by omega) (by omega)
  have a3:k.c*1≤k.c*k.o:=Int.mul_le_mul_of_nonneg_left h3 (by omega)
  have a4:1*k.o≤k.c*k.o:=Int.mul_le_mul_of_nonneg_right h1 (by omega)
  omega
theorem facets_bound:∀ l:List Kind,(∀ k∈l,kOk k)→(l.length:Int)≤facets l∧facets l≤400*l.length
  | [],_=>by simp [facets]
  | k :: r,h=>by
    have h1:=facets_bound r fun x hx=>h x (by simp [hx])
    have h2:=kOk_prod (h k (by simp))
    simp only [facets,List.length_cons];omega
def kindsOk (l:List Kind):Prop:=(1≤l.length∧l.length≤3)∧(∀ k∈l,kOk k)∧facets l≤20
instance (l:List Kind):Decidable (kindsOk l):=by unfold kindsOk;infer_instance
theorem facets_mono (l:List Kind) (h:∀ k∈l,kOk k) (i:Nat):facets (l.take i)≤facets l∧0≤facets (l.take i):=by
  have e:=facets_append (l.take i) (l.drop i)
  rw [List.take_append_drop] at e
  have h1:=facets_bound (l.drop i) fun x hx=>h x (List.mem_of_mem_drop hx)
  have h2:=facets_bound (l.take i) fun x hx=>h x (List.mem_of_mem_take hx)
  omega
theorem kindsOk_kind {l:List Kind} (h:kindsOk l) {k:Kind} (hk:k∈l):1≤k.c∧k.c≤20∧1≤k.o∧k.o≤20∧k.c*k.o≤20:=by
  obtain ⟨_,h2,h3⟩:=h
  have hq:=h2 k hk
  refine ⟨hq.1.1,hq.1.2,hq.2.1,hq.2.2,?_⟩
  obtain ⟨i,hi,rfl⟩:=List.getElem_of_mem hk
  have:=facets_take l i hi
  rw [getD_eq l i default hi] at this
  have:=facets_mono l h2 (i+1)
  have:=facets_mono l h2 i
  omega
/-! how many piece states there are -/
def fct:Nat→Nat
  | 0=>1
  | n+1=>(n+1)*fct n
theorem fct_mono {a b:Nat} (h:a≤b):fct a≤fct b:=by
  induction h with
  | refl=>exact Nat.le_refl _
  | step _ ih=>exact Nat.le_trans ih (Nat.le_mul_of_pos_left _ (Nat.succ_pos _))
def stK (o:Nat):Nat→Nat
  | 0=>1
  | j+1=>stK o j*((j+1)*o)
theorem fct_step (m:Nat):∀ o,1≤o→fct m*(m+o)≤fct (m+o)
  | 0,h=>by omega
  | 1,_=>by rw [fct,Nat.mul_comm];exact Nat.le_refl _
  | o+2,_=>by
    have ih:=fct_step m (o+1) (by omega)
    have h1:fct m≤fct m*(m+(o+1)):=Nat.le_mul_of_pos_right _ (by omega)
    have:fct (m+(o+2))=(m+(o+2))*fct (m+(o+1)):=rfl
    rw [this,Nat.mul_comm]
    exact Nat.mul_le_mul_left _ (Nat.le_trans h1 ih)
theorem stK_le (A m o:Nat) (ho:1≤o) (hA:A≤fct m):∀ j,A*stK o j≤fct (m+j*o)
  | 0=>by simpa [stK] using hA
  | j+1=>by
    have ih:=stK_le A m o ho hA j
    have h1:=fct_step (m+j*o) o ho
    have e:m+(j+1)*o=m+j*o+o:=by rw [Nat.succ_mul];omega
    have h2:(j+1)*o≤m+j*o+o:=by rw [Nat.succ_mul];omega
    rw [stK,e,← Nat.mul_assoc]
    exact Nat.le_trans (Nat.mul_le_mul ih h2) h1
def stC:List Kind→Nat
  | []=>1
  | k :: r=>stK k.o.toNat k.c.toNat*stC r
theorem stC_append:∀ a b:List Kind,stC (a++b)=stC a*stC b
  | [],b=>by simp [stC]
  | k :: r,b=>by simp only [List.cons_append,stC,stC_append r b,Nat.mul_assoc]
theorem stC_take (l:List Kind) (i:Nat) (h:i<l.length):stC (l.take (i+1))=stC (l.take i)*stK (l.getD i default).o.toNat (l.getD i default).c.toNat:=by
  rw [take_succ_eq l i default h,stC_append];simp [stC]
theorem stC_le (l:List Kind) (h:∀ k∈l,kOk k):∀ i,i≤l.length→stC (l.take i)≤fct (facets (l.take i)).toNat
  | 0,_=>by simp [stC,facets,fct]
  | i+1,hi=>by
    have ih:=stC_le l h i (by omega)
    have hk:=h _ (mem_getD l i default (by omega))
    have hp:=kOk_prod hk
    have hm:=facets_mono l h i
    rw [stC_take l i (by omega),facets_take l i (by omega)]
    have:=stK_le (stC (l.take i)) _ (l.getD i default).o.toNat (by have:=hk.2;omega) ih (l.getD i default).c.toNat
    have e:(facets (l.take i)+(l.getD i default).c*(l.getD i default).o).toNat=(facets (l.take i)).toNat+(l.getD i default).c.toNat*(l.getD i default).o.toNat:=by
      have:((l.getD i default).c.toNat*(l.getD i default).o.toNat:Nat)=((l.getD i default).c*(l.getD i default).o).toNat:=by
        rw [Int.toNat_mul] <;> (have:=hk.1;have:=hk.2;omega)
      rw [this];omega
    rw [e];exact this
theorem fct20:fct 20=2432902008176640000:=by decide +kernel
theorem st_part (l:List Kind) (hl:kindsOk l) (i:Nat) (hi:i<l.length) (j:Nat) (hj:(j:Int)≤(l.getD i default).c):stC (l.take i)*stK (l.getD i default).o.toNat j≤2432902008176640000:=by
  have hk:=hl.2.1 _ (mem_getD l i default hi)
  have hm:=facets_mono l hl.2.1 i
  have h1:=stK_le (stC (l.take i)) _ (l.getD i default).o.toNat (by have:=hk.2;omega) (stC_le l hl.2.1 i (by omega)) j
  refine Nat.le_trans h1 (Nat.le_trans (fct_mono ?_) (Nat.le_of_eq fct20))
  have e:=facets_take l i hi
  have hm2:=facets_mono l hl.2.1 (i+1)
  have h3:j*(l.getD i default).o.toNat≤(l.getD i default).c.toNat*(l.getD i default).o.toNat:=Nat.mul_le_mul_right _ (by omega)
  have h4:((l.getD i default).c.toNat*(l.getD i default).o.toNat:Nat)=((l.getD i default).c*(l.getD i default).o).toNat:=by
    rw [Int.toNat_mul] <;> (have:=hk.1;have:=hk.2;omega)
  have:=hl.2.2
  omega
theorem st_bound (l:List Kind) (hl:kindsOk l):stC l≤2432902008176640000:=by
  have:=stC_le l hl.2.1 l.length (Nat.le_refl _)
  rw [List.take_length] at this
  refine Nat.le_trans this (Nat.le_trans (fct_mono ?_) (Nat.le_of_eq fct20))
  have:=hl.2.2
  omega
/-! piece states -/
def twOk (k:Kind) (t:Twist):Prop:=(t.to.length:Int)=k.c∧(t.by'.length:Int)=k.c∧isPerm t.to∧∀ x∈t.by',0≤x∧x<k.o
instance (k:Kind) (t:Twist):Decidable (twOk k t):=by unfold twOk;infer_instance
def psOk (ks:List Kind) (s:List Twist):Prop:=kindsOk ks∧s.length=ks.length∧∀ i,i<ks.length→twOk (ks.getD i default) (s.getD i default)
instance (ks:List Kind) (s:List Twist):Decidable (psOk ks s):=by unfold psOk;infer_instance
def Kind.av (k:Kind):AV:=.agg [.i64 k.c,.i64 k.o]
abbrev ksl (ks:List Kind):AV:=.sl 2 (ks.map Kind.av)
abbrev ktr (ks:List Kind):AV:=.tr 2 (ks.map Kind.av)
theorem kset (ks:List Kind) (i:Nat) (a b:Int):(ks.map Kind.av).set i (.agg [.i64 a,.i64 b])=(ks.set i ⟨a,b⟩).map Kind.av:=by rw [List.map_set];rfl
theorem ksnoc (ks:List Kind) (a b:Int):ks.map Kind.av++[.agg [.i64 a,.i64 b]]=(ks++[(⟨a,b⟩:Kind)]).map Kind.av:=by simp [Kind.av]
theorem pureL_map {α:Type} (f:α→AV) (h:∀ a,(f a).pure=true):∀ l:List α,AV.pureL (l.map f)=true
  | []=>rfl
  | a :: r=>by rw [List.map_cons,AV.pureL,h,pureL_map f h r];rfl
theorem ipure (l:List Int):AV.pureL (l.map AV.i64)=true:=pureL_map _ (fun _=>rfl) l
abbrev ssl (l:List (List Int)):AV:=.sl 1 (l.map isl)
abbrev sst (l:List (List Int)):AV:=.tr 1 (l.map itr)
theorem sspure (l:List (List Int)):AV.pureL (l.map itr)=true:=pureL_map _ (fun t=>by simp [itr,AV.pure,ipure]) l
theorem ssfz (l:List (List Int)):(l.map itr).map AV.fz=l.map isl:=by
  rw [List.map_map];exact List.map_congr_left fun a _=>by simp [AV.fz,fzL_map,ints_fz]
theorem kpure (l:List Kind):AV.pureL (l.map Kind.av)=true:=pureL_map _ (fun _=>rfl) l
theorem kfz (ks:List Kind):(ks.map Kind.av).map AV.fz=ks.map Kind.av:=by
  rw [List.map_map];exact List.map_congr_left fun a _=>by simp [Kind.av,fz_v,AV.fz,AV.fzL]
def Twist.sl (t:Twist):AV:=.agg [isl t.to,isl t.by']
def Twist.tr (t:Twist):AV:=.agg [itr t.to,itr t.by']
abbrev tsl (ts:List Twist):AV:=.sl 2 (ts.map Twist.sl)
abbrev ttr (ts:List Twist):AV:=.tr 2 (ts.map Twist.tr)
theorem tset (ts:List Twist) (i:Nat) (a b:List Int):(ts.map Twist.tr).set i (.agg [itr a,itr b])=(ts.set i ⟨a,b⟩).map Twist.tr:=by rw [List.map_set];rfl
theorem tsnoc (ts:List Twist) (a b:List Int):ts.map Twist.tr++[.agg [itr a,itr b]]=(ts++[(⟨a,b⟩:Twist)]).map Twist.tr:=by simp [Twist.tr]
theorem tpure (l:List Twist):AV.pureL (l.map Twist.tr)=true:=pureL_map _ (fun t=>by simp [Twist.tr,AV.pure,AV.pureL,ipure]) l
theorem tfz (ts:List Twist):(ts.map Twist.tr).map AV.fz=ts.map Twist.sl:=by
  rw [List.map_map];exact List.map_congr_left fun a _=>by simp [Twist.tr,Twist.sl,AV.fz,AV.fzL,fzL_map,ints_fz]
structure Invar where
  k:Int
  s:Int
  deriving DecidableEq
instance:Mk Invar:={ default:=⟨0,0⟩,mrk:=fun k _=>⟨k,k+1⟩,cnt:=fun _=>2 }
def Invar.av (i:Invar):AV:=.agg [.i64 i.k,.i64 i.s]
def cbP2:=(ai (ai (ai (@ipure) (ai (@kpure) (@tpure))) (ai (@sspure) (ai (@kset) (@tset)))) (ai (ai (@ksnoc) (ai (@tsnoc) (@Kind.av.eq_1))) (ai (@Twist.sl.eq_1) (ai (@Twist.tr.eq_1) (@Invar.av.eq_1)))))

end Go.AM
set_option maxRecDepth 8000
namespace Go.AM
open Go.Proofs
theorem inRange (x lo hi:Int):SpecAt Try.prog 84 [.i64 x,.i64 lo,.i64 hi] (.bl (within x lo hi)):=by
  refine spec_of_awp (M:=MM) (np:=3) (fz:=true) mixed Try.func84 rfl rfl (by decide) rfl (Nat.le_refl _) (by decide +kernel) (.inr ⟨rfl,rfl⟩) trivial ?_
  simp -dsimp -implicitDefEqProofs (disch:=first|omega|(simp only [lenr];try omega)) only [↓amPre,↓reduceIte,reduceCtorEq,Nat.reduceEqDiff,Nat.reduceBEq,Nat.reduceAdd,Nat.reduceLeDiff,Nat.reduceSub,Nat.reduceMul,Int.reduceToNat,MM,bu0,cbP2]
  refine ifP_mk ?_ ?_ <;> intro h1
  · simp -dsimp -implicitDefEqProofs (disch:=first|omega|(simp only [lenr];try omega)) only [↓amPre,↓reduceIte,reduceCtorEq,Nat.reduceEqDiff,Nat.reduceBEq,Nat.reduceAdd,Nat.reduceLeDiff,Nat.reduceSub,Nat.reduceMul,Int.reduceToNat,MM,bu0,cbP2,h1]
    simp [within,h1]
  · simp -dsimp -implicitDefEqProofs (disch:=first|omega|(simp only [lenr];try omega)) only [↓amPre,↓reduceIte,reduceCtorEq,Nat.reduceEqDiff,Nat.reduceBEq,Nat.reduceAdd,Nat.reduceLeDiff,Nat.reduceSub,Nat.reduceMul,Int.reduceToNat,MM,bu0,cbP2,h1]
    simp [within,h1]
theorem iwithin (x lo hi:Int):SpecAt Try.prog 133 [.i64 x,.i64 lo,.i64 hi] (.bl (within x lo hi)):=by
  refine spec_of_awp (M:=MM) (np:=3) (fz:=true) mixed Try.func133 rfl rfl (by decide) rfl (Nat.le_refl _) (by decide +kernel) (.inr ⟨rfl,rfl⟩) trivial ?_
  simp -dsimp -implicitDefEqProofs (disch:=first|omega|(simp only [lenr];try omega)) only [↓amPre,↓reduceIte,reduceCtorEq,Nat.reduceEqDiff,Nat.reduceBEq,Nat.reduceAdd,Nat.reduceLeDiff,Nat.reduceSub,Nat.reduceMul,Int.reduceToNat,MM,bu0,cbP2]
  refine ifP_mk ?_ ?_ <;> intro h1
  · simp -dsimp -implicitDefEqProofs (disch:=first|omega|(simp only [lenr];try omega)) only [↓amPre,↓reduceIte,reduceCtorEq,Nat.reduceEqDiff,Nat.reduceBEq,Nat.reduceAdd,Nat.reduceLeDiff,Nat.reduceSub,Nat.reduceMul,Int.reduceToNat,MM,bu0,cbP2,h1]
    simp [within,h1]
  · simp -dsimp -implicitDefEqProofs (disch:=first|omega|(simp only [lenr];try omega)) only [↓amPre,↓reduceIte,reduceCtorEq,Nat.reduceEqDiff,Nat.reduceBEq,Nat.reduceAdd,Nat.reduceLeDiff,Nat.reduceSub,Nat.reduceMul,Int.reduceToNat,MM,bu0,cbP2,h1]
    simp [within,h1]
theorem lenI (l:List Int):SpecAt Try.prog 148 [isl l] (.i64 l.length):=by
  refine spec_of_awp (M:=MM) (np:=1) (fz:=true) mixed Try.func148 rfl rfl (by decide) rfl (Nat.le_refl _) (by decide +kernel) (.inr ⟨rfl,rfl⟩) trivial ?_
  simp -dsimp -implicitDefEqProofs (disch:=first|omega|(simp only [lenr];try omega)) only [↓amPre,↓reduceIte,reduceCtorEq,Nat.reduceEqDiff,Nat.reduceBEq,Nat.reduceAdd,Nat.reduceLeDiff,Nat.reduceSub,Nat.reduceMul,Int.reduceToNat,MM,bu0,cbP2]
theorem lenK (l:List Kind):SpecAt Try.prog 81 [ksl l] (.i64 l.length):=by
  refine spec_of_awp (M:=MM) (np:=1) (fz:=true) mixed Try.func81 rfl rfl (by decide) rfl (Nat.le_refl _) (by decide +kernel) (.inr ⟨rfl,rfl⟩) trivial ?_
  simp -dsimp -implicitDefEqProofs (disch:=first|omega|(simp only [lenr];try omega)) only [↓amPre,↓reduceIte,reduceCtorEq,Nat.reduceEqDiff,Nat.reduceBEq,Nat.reduceAdd,Nat.reduceLeDiff,Nat.reduceSub,Nat.reduceMul,Int.reduceToNat,MM,bu0,cbP2]
theorem containsInt (l:List Int) (x:Int) (hl:l.length≤1099511627776):SpecAt Try.prog 220 [isl l,.i64 x] (.bl (decide (x∈l))):=by
  refine spec_of_awp (M:=MM) (np:=2) (fz:=true) mixed Try.func220 rfl rfl (by decide) rfl (Nat.le_refl _) (by decide +kernel) (.inr ⟨rfl,rfl⟩) trivial ?_
  simp -dsimp -implicitDefEqProofs (disch:=first|omega|(simp only [lenr];try omega)) only [↓amPre,↓reduceIte,reduceCtorEq,Nat.reduceEqDiff,Nat.reduceBEq,Nat.reduceAdd,Nat.reduceLeDiff,Nat.reduceSub,Nat.reduceMul,Int.reduceToNat,MM,bu0,cbP2]
  refine awp_loop (fun k st=>k≤l.length∧st.fr 5=.i64 k∧st.fr 0=isl l∧st.fr 1=.i64 x∧∀ y∈l.take k,y≠x) (l.length) ?_ ?_
  · simp -dsimp -implicitDefEqProofs (disch:=first|omega|(simp only [lenr];try omega)) only [↓amPre,↓reduceIte,reduceCtorEq,Nat.reduceEqDiff,Nat.reduceBEq,Nat.reduceAdd,Nat.reduceLeDiff,Nat.reduceSub,Nat.reduceMul,Int.reduceToNat,MM,bu0,cbP2]
    simp
  rintro k st _ ⟨hk,f5,f0,f1,ek⟩
  by_cases hlt:k<l.length
  · simp -dsimp -implicitDefEqProofs (disch:=first|omega|(simp only [lenr];try omega)) only [↓amPre,↓reduceIte,reduceCtorEq,Nat.reduceEqDiff,Nat.reduceBEq,Nat.reduceAdd,Nat.reduceLeDiff,Nat.reduceSub,Nat.reduceMul,Int.reduceToNat,MM,bu0,cbP2,f5,f0,f1]
    refine ifP_mk ?_ ?_ <;> intro w
    · simp -dsimp -implicitDefEqProofs (disch:=first|omega|(simp only [lenr];try omega)) only [↓amPre,↓reduceIte,reduceCtorEq,Nat.reduceEqDiff,Nat.reduceBEq,Nat.reduceAdd,Nat.reduceLeDiff,Nat.reduceSub,Nat.reduceMul,Int.reduceToNat,MM,bu0,cbP2,w]
      simp only [beq_iff_eq,bne_iff_ne,ne_eq,beq_eq_false_iff_ne,bne_eq_false_iff_eq,decide_eq_true_eq,decide_eq_false_iff_not,Bool.not_eq_true',Bool.not_eq_false',Int.not_lt,Int.not_le,Bool.and_eq_true,Bool.or_eq_true,Bool.and_eq_false_iff,Bool.or_eq_false_iff,Decidable.not_not] at w
      have:=mem_getD l k 0 hlt
      rw [w] at this
      simp [this]
    · simp -dsimp -implicitDefEqProofs (disch:=first|omega|(simp only [lenr];try omega)) only [↓amPre,↓reduceIte,reduceCtorEq,Nat.reduceEqDiff,Nat.reduceBEq,Nat.reduceAdd,Nat.reduceLeDiff,Nat.reduceSub,Nat.reduceMul,Int.reduceToNat,MM,bu0,cbP2,w,f5,f0,f1]
      simp only [beq_iff_eq,bne_iff_ne,ne_eq,beq_eq_false_iff_ne,bne_eq_false_iff_eq,decide_eq_true_eq,decide_eq_false_iff_not,Bool.not_eq_true',Bool.not_eq_false',Int.not_lt,Int.not_le,Bool.and_eq_true,Bool.or_eq_true,Bool.and_eq_false_iff,Bool.or_eq_false_iff,Decidable.not_not] at w
      repeat' (first | omega | rfl | exact i64c (by omega) | exact vic (by omega) | exact (mem_take_succ (d:=0) hlt).2 ⟨ek,w⟩ | apply And.intro)
  · have hke:k=l.length:=by omega
    subst hke
    simp -dsimp -implicitDefEqProofs (disch:=first|omega|(simp only [lenr];try omega)) only [↓amPre,↓reduceIte,reduceCtorEq,Nat.reduceEqDiff,Nat.reduceBEq,Nat.reduceAdd,Nat.reduceLeDiff,Nat.reduceSub,Nat.reduceMul,Int.reduceToNat,MM,bu0,cbP2,f5,f0,f1]
    rw [List.take_length] at ek
    have:¬ x∈l:=fun q=>ek x q rfl
    simp [this]
theorem sIsPerm (p:List Int) (hl:p.length≤1099511627776):SpecAt Try.prog 161 [isl p] (.bl (decide (isPerm p))):=by
  refine spec_of_awp (M:=MM) (np:=1) (fz:=true) mixed Try.func161 rfl rfl (by decide) rfl (Nat.le_refl _) (by decide +kernel) (.inr ⟨rfl,rfl⟩) trivial ?_
  simp -dsimp -implicitDefEqProofs (disch:=first|omega|(simp only [lenr];try omega)) only [↓amPre,↓reduceIte,reduceCtorEq,Nat.reduceEqDiff,Nat.reduceBEq,Nat.reduceAdd,Nat.reduceLeDiff,Nat.reduceSub,Nat.reduceMul,Int.reduceToNat,MM,bu0,cbP2]
  refine callP_of (inRange _ _ _) ?_
  cases w:within p.length 1 20 with
  | false =>
    simp -dsimp -implicitDefEqProofs (disch:=first|omega|(simp only [lenr];try omega)) only [↓amPre,↓reduceIte,reduceCtorEq,Nat.reduceEqDiff,Nat.reduceBEq,Nat.reduceAdd,Nat.reduceLeDiff,Nat.reduceSub,Nat.reduceMul,Int.reduceToNat,MM,bu0,cbP2,w]
    rw [within_not] at w
    have:¬ isPerm p:=fun h=>by unfold isPerm at h;omega
    simp [this]
  | true =>
  rw [within_iff] at w
  simp -dsimp -implicitDefEqProofs (disch:=first|omega|(simp only [lenr];try omega)) only [↓amPre,↓reduceIte,reduceCtorEq,Nat.reduceEqDiff,Nat.reduceBEq,Nat.reduceAdd,Nat.reduceLeDiff,Nat.reduceSub,Nat.reduceMul,Int.reduceToNat,MM,bu0,cbP2,within_iff.2 w]
  refine awp_loop (fun k st=>k≤p.length∧st.fr 4=.i64 k∧st.fr 0=isl p∧st.fr 3=.i64 p.length∧(∀ x∈p.take k,0≤x∧x<p.length)∧(p.take k).Nodup) (p.length) ?_ ?_
  · simp -dsimp -implicitDefEqProofs (disch:=first|omega|(simp only [lenr];try omega)) only [↓amPre,↓reduceIte,reduceCtorEq,Nat.reduceEqDiff,Nat.reduceBEq,Nat.reduceAdd,Nat.reduceLeDiff,Nat.reduceSub,Nat.reduceMul,Int.reduceToNat,MM,bu0,cbP2]
    simp
  rintro k st _ ⟨hk,f4,f0,f3,ek⟩
  by_cases hlt:k<p.length
  · have hmem:=mem_getD p k 0 hlt
    simp -dsimp -implicitDefEqProofs (disch:=first|omega|(simp only [lenr];try omega)) only [↓amPre,↓reduceIte,reduceCtorEq,Nat.reduceEqDiff,Nat.reduceBEq,Nat.reduceAdd,Nat.reduceLeDiff,Nat.reduceSub,Nat.reduceMul,Int.reduceToNat,MM,bu0,cbP2,f4,f0,f3]
    refine callP_of (inRange _ _ _) ?_
    cases w2:within (p.getD k 0) 0 (p.length - 1) with
    | false =>
      simp -dsimp -implicitDefEqProofs (disch:=first|omega|(simp only [lenr];try omega)) only [↓amPre,↓reduceIte,reduceCtorEq,Nat.reduceEqDiff,Nat.reduceBEq,Nat.reduceAdd,Nat.reduceLeDiff,Nat.reduceSub,Nat.reduceMul,Int.reduceToNat,MM,bu0,cbP2,w2]
      rw [within_not] at w2
      have:¬ isPerm p:=fun h=>by have:=h.2.1 _ hmem;omega
      simp [this]
    | true =>
    simp -dsimp -implicitDefEqProofs (disch:=first|omega|(simp only [lenr];try omega)) only [↓amPre,↓reduceIte,reduceCtorEq,Nat.reduceEqDiff,Nat.reduceBEq,Nat.reduceAdd,Nat.reduceLeDiff,Nat.reduceSub,Nat.reduceMul,Int.reduceToNat,MM,bu0,cbP2,w2,f4,f0,f3]
    refine callP_of (containsInt _ _ (by simp;omega)) ?_
    have hs:=take_succ_eq p k 0 hlt
    cases w3:decide (p.getD k 0∈p.take k) with
    | true =>
      simp -dsimp -implicitDefEqProofs (disch:=first|omega|(simp only [lenr];try omega)) only [↓amPre,↓reduceIte,reduceCtorEq,Nat.reduceEqDiff,Nat.reduceBEq,Nat.reduceAdd,Nat.reduceLeDiff,Nat.reduceSub,Nat.reduceMul,Int.reduceToNat,MM,bu0,cbP2,w3]
      simp only [beq_iff_eq,bne_iff_ne,ne_eq,beq_eq_false_iff_ne,bne_eq_false_iff_eq,decide_eq_true_eq,decide_eq_false_iff_not,Bool.not_eq_true',Bool.not_eq_false',Int.not_lt,Int.not_le,Bool.and_eq_true,Bool.or_eq_true,Bool.and_eq_false_iff,Bool.or_eq_false_iff,Decidable.not_not] at w3
      have:¬ isPerm p:=fun h=>by
        have h2:=h.2.2
        have h3:(p.take (k+1)).Nodup:=h2.sublist (List.take_sublist _ _)
        rw [hs,List.nodup_append] at h3
        exact h3.2.2 _ (by simpa using w3) _ (by simp) rfl
      simp [this]
    | false =>
      simp -dsimp -implicitDefEqProofs (disch:=first|omega|(simp only [lenr];try omega)) only [↓amPre,↓reduceIte,reduceCtorEq,Nat.reduceEqDiff,Nat.reduceBEq,Nat.reduceAdd,Nat.reduceLeDiff,Nat.reduceSub,Nat.reduceMul,Int.reduceToNat,MM,bu0,cbP2,w3,f4,f0,f3]
      simp only [decide_eq_false_iff_not] at w3
      rw [within_iff] at w2
      refine ⟨hlt,hlt,?_,?_⟩
      · rw [mem_take_succ (d:=0) hlt];exact ⟨ek.1,by omega⟩
      · rw [hs,List.nodup_append]
        refine ⟨ek.2,by simp,?_⟩
        intro a ha b hb e
        simp only [List.mem_singleton] at hb
        rw [e,hb] at ha;exact w3 ha
  · have hke:k=p.length:=by omega
    subst hke
    rw [List.take_length] at ek
    simp -dsimp -implicitDefEqProofs (disch:=first|omega|(simp only [lenr];try omega)) only [↓amPre,↓reduceIte,reduceCtorEq,Nat.reduceEqDiff,Nat.reduceBEq,Nat.reduceAdd,Nat.reduceLeDiff,Nat.reduceSub,Nat.reduceMul,Int.reduceToNat,MM,bu0,cbP2,f4,f0,f3]
    have:isPerm p:=⟨by omega,ek.1,ek.2⟩
    simp [this]
theorem iIsPerm (p:List Int) (hl:p.length≤1099511627776):SpecAt Try.prog 212 [isl p] (.bl (decide (isPerm p))):=by
  refine spec_of_awp (M:=MM) (np:=1) (fz:=true) mixed Try.func212 rfl rfl (by decide) rfl (Nat.le_refl _) (by decide +kernel) (.inr ⟨rfl,rfl⟩) trivial ?_
  simp -dsimp -implicitDefEqProofs (disch:=first|omega|(simp only [lenr];try omega)) only [↓amPre,↓reduceIte,reduceCtorEq,Nat.reduceEqDiff,Nat.reduceBEq,Nat.reduceAdd,Nat.reduceLeDiff,Nat.reduceSub,Nat.reduceMul,Int.reduceToNat,MM,bu0,cbP2]
  refine callP_of (lenI _) ?_
  simp -dsimp -implicitDefEqProofs (disch:=first|omega|(simp only [lenr];try omega)) only [↓amPre,↓reduceIte,reduceCtorEq,Nat.reduceEqDiff,Nat.reduceBEq,Nat.reduceAdd,Nat.reduceLeDiff,Nat.reduceSub,Nat.reduceMul,Int.reduceToNat,MM,bu0,cbP2]
  refine callP_of (iwithin _ _ _) ?_
  cases w:within p.length 1 20 with
  | false =>
    simp -dsimp -implicitDefEqProofs (disch:=first|omega|(simp only [lenr];try omega)) only [↓amPre,↓reduceIte,reduceCtorEq,Nat.reduceEqDiff,Nat.reduceBEq,Nat.reduceAdd,Nat.reduceLeDiff,Nat.reduceSub,Nat.reduceMul,Int.reduceToNat,MM,bu0,cbP2,w]
    rw [within_not] at w
    have:¬ isPerm p:=fun h=>by unfold isPerm at h;omega
    simp [this]
  | true =>
  rw [within_iff] at w
  simp -dsimp -implicitDefEqProofs (disch:=first|omega|(simp only [lenr];try omega)) only [↓amPre,↓reduceIte,reduceCtorEq,Nat.reduceEqDiff,Nat.reduceBEq,Nat.reduceAdd,Nat.reduceLeDiff,Nat.reduceSub,Nat.reduceMul,Int.reduceToNat,MM,bu0,cbP2,within_iff.2 w]
  refine awp_loop (fun k st=>k≤p.length∧st.fr 12=.i64 k∧st.fr 0=isl p∧st.fr 10=isl p∧st.fr 11=.i64 p.length∧st.fr 3=.i64 (mask (p.take k))∧(∀ x∈p.take k,0≤x∧x<p.length)) (p.length) ?_ ?_
  · simp -dsimp -implicitDefEqProofs (disch:=first|omega|(simp only [lenr];try omega)) only [↓amPre,↓reduceIte,reduceCtorEq,Nat.reduceEqDiff,Nat.reduceBEq,Nat.reduceAdd,Nat.reduceLeDiff,Nat.reduceSub,Nat.reduceMul,Int.reduceToNat,MM,bu0,cbP2]
    simp [mask,maskN]
  rintro k st _ ⟨hk,f12,f0,f10,f11,f3,ek⟩
  by_cases hlt:k<p.length
  · have hmem:=mem_getD p k 0 hlt
    simp -dsimp -implicitDefEqProofs (disch:=first|omega|(simp only [lenr];try omega)) only [↓amPre,↓reduceIte,reduceCtorEq,Nat.reduceEqDiff,Nat.reduceBEq,Nat.reduceAdd,Nat.reduceLeDiff,Nat.reduceSub,Nat.reduceMul,Int.reduceToNat,MM,bu0,cbP2,f12,f0,f10,f11,f3]
    refine callP_of (lenI _) ?_
    simp -dsimp -implicitDefEqProofs (disch:=first|omega|(simp only [lenr];try omega)) only [↓amPre,↓reduceIte,reduceCtorEq,Nat.reduceEqDiff,Nat.reduceBEq,Nat.reduceAdd,Nat.reduceLeDiff,Nat.reduceSub,Nat.reduceMul,Int.reduceToNat,MM,bu0,cbP2,f12,f0,f10,f11,f3]
    refine callP_of (iwithin _ _ _) ?_
    cases w2:within (p.getD k 0) 0 (p.length - 1) with
    | false =>
      simp -dsimp -implicitDefEqProofs (disch:=first|omega|(simp only [lenr];try omega)) only [↓amPre,↓reduceIte,reduceCtorEq,Nat.reduceEqDiff,Nat.reduceBEq,Nat.reduceAdd,Nat.reduceLeDiff,Nat.reduceSub,Nat.reduceMul,Int.reduceToNat,MM,bu0,cbP2,w2]
      rw [within_not] at w2
      have:¬ isPerm p:=fun h=>by have:=h.2.1 _ hmem;omega
      simp [this]
    | true =>
    have w2':=within_iff.1 w2
    obtain ⟨n,hn⟩:∃ n:Nat,p.getD k 0=n:=⟨(p.getD k 0).toNat,by omega⟩
    have hn20:n<20:=by omega
    have hp:(2:Nat) ^ n<2 ^ 20:=Nat.pow_lt_pow_right (by decide) hn20
    have hsh:IntKind.i64.wrap (1*2 ^ (min (p.getD k 0).toNat 64))=((2 ^ n:Nat):Int):=by
      have e2:(2:Int) ^ n=((2 ^ n:Nat):Int):=by simp
      rw [hn,Int.toNat_natCast,Nat.min_eq_left (by omega),Int.one_mul,e2]
      generalize (2 ^ n:Nat)=m at hp ⊢
      exact wrap64_id (by omega)
    have hm1:=mask_lt (p.take k) 20 fun x hx=>by have:=ek x hx;omega
    have hm2:=mask_lt (p.take k) p.length ek
    have hor:bitsI .or .i64 (mask (p.take k):Int) ((2 ^ n:Nat):Int)=((mask (p.take (k+1)):Nat):Int):=by
      rw [bits_or _ _ (by omega) (by omega),take_succ_eq p k 0 hlt,mask_snoc,hn,Int.toNat_natCast]
    have hb:(IntKind.i64.bits)=64:=rfl
    simp -dsimp -implicitDefEqProofs (disch:=first|omega|(simp only [lenr];try omega)) only [↓amPre,↓reduceIte,reduceCtorEq,Nat.reduceEqDiff,Nat.reduceBEq,Nat.reduceAdd,Nat.reduceLeDiff,Nat.reduceSub,Nat.reduceMul,Int.reduceToNat,MM,bu0,cbP2,w2,f12,f0,f10,f11,f3,hb,hsh,hor]
    refine ⟨hlt,hlt,?_⟩
    rw [mem_take_succ (d:=0) hlt];exact ⟨ek,by omega⟩
  · have hke:k=p.length:=by omega
    subst hke
    rw [List.take_length] at ek f3
    have hp:(2:Nat) ^ p.length≤2 ^ 20:=Nat.pow_le_pow_right (by decide) (by omega)
    have hsh:IntKind.i64.wrap (1*2 ^ (min p.length 64))=((2 ^ p.length:Nat):Int):=by
      have e2:(2:Int) ^ p.length=((2 ^ p.length:Nat):Int):=by simp
      rw [Nat.min_eq_left (by omega),Int.one_mul,e2]
      generalize (2 ^ p.length:Nat)=m at hp ⊢
      exact wrap64_id (by omega)
    have hwr:IntKind.i64.wrap (((2 ^ p.length:Nat):Int) - 1)=((2 ^ p.length:Nat):Int) - 1:=by
      generalize (2 ^ p.length:Nat)=m at hp ⊢
      exact wrap64_id (by omega)
    have hb:(IntKind.i64.bits)=64:=rfl
    simp -dsimp -implicitDefEqProofs (disch:=first|omega|(simp only [lenr];try omega)) only [↓amPre,↓reduceIte,reduceCtorEq,Nat.reduceEqDiff,Nat.reduceBEq,Nat.reduceAdd,Nat.reduceLeDiff,Nat.reduceSub,Nat.reduceMul,Int.reduceToNat,MM,bu0,cbP2,f12,f0,f10,f11,f3,hb,hsh,hwr]
    refine bl_eq ?_
    have h1:=mask_perm p ek
    have h2:(0:Nat)<2 ^ p.length:=Nat.pow_pos (by decide)
    have h3:isPerm p↔p.Nodup:=⟨fun h=>h.2.2,fun h=>⟨by omega,ek,h⟩⟩
    simp only [beq_iff_eq,decide_eq_true_eq,h3,← h1]
    generalize (2 ^ p.length:Nat)=m at h2 ⊢
    omega
end Go.AM
set_option maxRecDepth 8000
namespace Go.AM
open Go.Proofs
theorem kOk_of {k:Kind} (w1:within k.c 1 20=true) (w2:within k.o 1 20=true):kOk k:=⟨within_iff.1 w1,within_iff.1 w2⟩
def fcI (l:List Kind):Int:=if ∀ k∈l,kOk k then facets l else 21
theorem ifaceletCount (l:List Kind) (hl:l.length≤3):SpecAt Try.prog 94 [ksl l] (.i64 (fcI l)):=by
  refine spec_of_awp (M:=MM) (np:=1) (fz:=true) mixed Try.func94 rfl rfl (by decide) rfl (Nat.le_refl _) (by decide +kernel) (.inr ⟨rfl,rfl⟩) trivial ?_
  simp -dsimp -implicitDefEqProofs (disch:=first|omega|(simp only [lenr];try omega)) only [↓amPre,↓reduceIte,reduceCtorEq,Nat.reduceEqDiff,Nat.reduceBEq,Nat.reduceAdd,Nat.reduceLeDiff,Nat.reduceSub,Nat.reduceMul,Int.reduceToNat,MM,bu0,cbP2]
  refine awp_loop (fun k st=>k≤l.length∧st.fr 8=.i64 k∧st.fr 7=.i64 l.length∧st.fr 6=ksl l∧st.fr 3=.i64 (facets (l.take k))∧∀ x∈l.take k,kOk x) (l.length) ?_ ?_
  · simp -dsimp -implicitDefEqProofs (disch:=first|omega|(simp only [lenr];try omega)) only [↓amPre,↓reduceIte,reduceCtorEq,Nat.reduceEqDiff,Nat.reduceBEq,Nat.reduceAdd,Nat.reduceLeDiff,Nat.reduceSub,Nat.reduceMul,Int.reduceToNat,MM,bu0,cbP2]
    simp [facets]
  rintro k st _ ⟨hk,f8,f7,f6,f3,ek⟩
  by_cases hlt:k<l.length
  · have hmem:=mem_getD l k default hlt
    have hb:=facets_bound (l.take k) ek
    rw [List.length_take,Nat.min_eq_left (by omega)] at hb
    have ft:=facets_take l k hlt
    simp -dsimp -implicitDefEqProofs (disch:=first|omega|(simp only [lenr];try omega)) only [↓amPre,↓reduceIte,reduceCtorEq,Nat.reduceEqDiff,Nat.reduceBEq,Nat.reduceAdd,Nat.reduceLeDiff,Nat.reduceSub,Nat.reduceMul,Int.reduceToNat,MM,bu0,cbP2,f8,f7,f6,f3]
    refine callP_of (iwithin _ _ _) ?_
    cases w1:within (l.getD k default).c 1 20 with
    | false =>
      simp -dsimp -implicitDefEqProofs (disch:=first|omega|(simp only [lenr];try omega)) only [↓amPre,↓reduceIte,reduceCtorEq,Nat.reduceEqDiff,Nat.reduceBEq,Nat.reduceAdd,Nat.reduceLeDiff,Nat.reduceSub,Nat.reduceMul,Int.reduceToNat,MM,bu0,cbP2,w1]
      rw [fcI,if_neg]
      intro h;have:=within_iff.2 (h _ hmem).1;rw [w1] at this;cases this
    | true =>
    simp -dsimp -implicitDefEqProofs (disch:=first|omega|(simp only [lenr];try omega)) only [↓amPre,↓reduceIte,reduceCtorEq,Nat.reduceEqDiff,Nat.reduceBEq,Nat.reduceAdd,Nat.reduceLeDiff,Nat.reduceSub,Nat.reduceMul,Int.reduceToNat,MM,bu0,cbP2,w1]
    refine callP_of (iwithin _ _ _) ?_
    cases w2:within (l.getD k default).o 1 20 with
    | false =>
      simp -dsimp -implicitDefEqProofs (disch:=first|omega|(simp only [lenr];try omega)) only [↓amPre,↓reduceIte,reduceCtorEq,Nat.reduceEqDiff,Nat.reduceBEq,Nat.reduceAdd,Nat.reduceLeDiff,Nat.reduceSub,Nat.reduceMul,Int.reduceToNat,MM,bu0,cbP2,w1,w2]
      rw [fcI,if_neg]
      intro h;have:=within_iff.2 (h _ hmem).2;rw [w2] at this;cases this
    | true =>
    have hk:=kOk_of w1 w2
    have hp:=kOk_prod hk
    simp -dsimp -implicitDefEqProofs (disch:=first|omega|(simp only [lenr];try omega)) only [↓amPre,↓reduceIte,reduceCtorEq,Nat.reduceEqDiff,Nat.reduceBEq,Nat.reduceAdd,Nat.reduceLeDiff,Nat.reduceSub,Nat.reduceMul,Int.reduceToNat,MM,bu0,cbP2,w1,w2,f8,f7,f6,f3,← ft]
    repeat' (first | omega | rfl | exact i64c (by omega) | exact vic (by omega) | exact (mem_take_succ (d:=default) hlt).2 ⟨ek,hk⟩ | apply And.intro)
  · have hke:k=l.length:=by omega
    subst hke
    simp -dsimp -implicitDefEqProofs (disch:=first|omega|(simp only [lenr];try omega)) only [↓amPre,↓reduceIte,reduceCtorEq,Nat.reduceEqDiff,Nat.reduceBEq,Nat.reduceAdd,Nat.reduceLeDiff,Nat.reduceSub,Nat.reduceMul,Int.reduceToNat,MM,bu0,cbP2,f8,f7,f6,f3,List.take_length]
    rw [List.take_length] at ek
    rw [fcI,if_pos ek]
theorem sFacelets (l:List Kind) (hl:kindsOk l):SpecAt Try.prog 107 [ksl l] (.i64 (facets l)):=by
  obtain ⟨⟨hl1,hl2⟩,hks,hf⟩:=hl
  refine spec_of_awp (M:=MM) (np:=1) (fz:=true) mixed Try.func107 rfl rfl (by decide) rfl (Nat.le_refl _) (by decide +kernel) (.inr ⟨rfl,rfl⟩) trivial ?_
  simp -dsimp -implicitDefEqProofs (disch:=first|omega|(simp only [lenr];try omega)) only [↓amPre,↓reduceIte,reduceCtorEq,Nat.reduceEqDiff,Nat.reduceBEq,Nat.reduceAdd,Nat.reduceLeDiff,Nat.reduceSub,Nat.reduceMul,Int.reduceToNat,MM,bu0,cbP2]
  refine awp_loop (fun k st=>k≤l.length∧st.fr 4=.i64 k∧st.fr 0=ksl l∧st.fr 3=.i64 (facets (l.take k))) (l.length) ?_ ?_
  · simp -dsimp -implicitDefEqProofs (disch:=first|omega|(simp only [lenr];try omega)) only [↓amPre,↓reduceIte,reduceCtorEq,Nat.reduceEqDiff,Nat.reduceBEq,Nat.reduceAdd,Nat.reduceLeDiff,Nat.reduceSub,Nat.reduceMul,Int.reduceToNat,MM,bu0,cbP2]
    simp [facets]
  rintro k st _ ⟨hk,f4,f0,f3⟩
  by_cases hlt:k<l.length
  · have hp:=kOk_prod (hks _ (mem_getD l k default hlt))
    have hm:=facets_mono l hks k
    have ft:=facets_take l k hlt
    simp -dsimp -implicitDefEqProofs (disch:=first|omega|(simp only [lenr];try omega)) only [↓amPre,↓reduceIte,reduceCtorEq,Nat.reduceEqDiff,Nat.reduceBEq,Nat.reduceAdd,Nat.reduceLeDiff,Nat.reduceSub,Nat.reduceMul,Int.reduceToNat,MM,bu0,cbP2,f4,f0,f3,← ft]
    repeat' (first|omega|rfl|exact i64c (by omega)|exact vic (by omega)|apply ai)
  · have hke:k=l.length:=by omega
    subst hke
    simp -dsimp -implicitDefEqProofs (disch:=first|omega|(simp only [lenr];try omega)) only [↓amPre,↓reduceIte,reduceCtorEq,Nat.reduceEqDiff,Nat.reduceBEq,Nat.reduceAdd,Nat.reduceLeDiff,Nat.reduceSub,Nat.reduceMul,Int.reduceToNat,MM,bu0,cbP2,f4,f0,f3,List.take_length]
theorem iAreValidKinds (l:List Kind) (hl:l.length≤1099511627776):SpecAt Try.prog 98 [ksl l] (.bl (decide (kindsOk l))):=by
  refine spec_of_awp (M:=MM) (np:=1) (fz:=true) mixed Try.func98 rfl rfl (by decide) rfl (Nat.le_refl _) (by decide +kernel) (.inr ⟨rfl,rfl⟩) trivial ?_
  simp -dsimp -implicitDefEqProofs (disch:=first|omega|(simp only [lenr];try omega)) only [↓amPre,↓reduceIte,reduceCtorEq,Nat.reduceEqDiff,Nat.reduceBEq,Nat.reduceAdd,Nat.reduceLeDiff,Nat.reduceSub,Nat.reduceMul,Int.reduceToNat,MM,bu0,cbP2]
  refine callP_of (lenK _) ?_
  simp -dsimp -implicitDefEqProofs (disch:=first|omega|(simp only [lenr];try omega)) only [↓amPre,↓reduceIte,reduceCtorEq,Nat.reduceEqDiff,Nat.reduceBEq,Nat.reduceAdd,Nat.reduceLeDiff,Nat.reduceSub,Nat.reduceMul,Int.reduceToNat,MM,bu0,cbP2]
  refine callP_of (iwithin _ _ _) ?_
  cases w:within l.length 1 3 with
  | false =>
    simp -dsimp -implicitDefEqProofs (disch:=first|omega|(simp only [lenr];try omega)) only [↓amPre,↓reduceIte,reduceCtorEq,Nat.reduceEqDiff,Nat.reduceBEq,Nat.reduceAdd,Nat.reduceLeDiff,Nat.reduceSub,Nat.reduceMul,Int.reduceToNat,MM,bu0,cbP2,w]
    rw [within_not] at w
    have:¬ kindsOk l:=fun h=>by have:=h.1;omega
    simp [this]
  | true =>
  have w':=within_iff.1 w
  simp -dsimp -implicitDefEqProofs (disch:=first|omega|(simp only [lenr];try omega)) only [↓amPre,↓reduceIte,reduceCtorEq,Nat.reduceEqDiff,Nat.reduceBEq,Nat.reduceAdd,Nat.reduceLeDiff,Nat.reduceSub,Nat.reduceMul,Int.reduceToNat,MM,bu0,cbP2,w]
  refine callP_of (ifaceletCount _ (by omega)) ?_
  simp -dsimp -implicitDefEqProofs (disch:=first|omega|(simp only [lenr];try omega)) only [↓amPre,↓reduceIte,reduceCtorEq,Nat.reduceEqDiff,Nat.reduceBEq,Nat.reduceAdd,Nat.reduceLeDiff,Nat.reduceSub,Nat.reduceMul,Int.reduceToNat,MM,bu0,cbP2,w]
  refine bl_eq ?_
  simp only [decide_eq_true_eq]
  unfold fcI kindsOk
  split
  · rename_i h;exact ⟨fun q=>⟨by omega,h,q⟩,fun q=>q.2.2⟩
  · rename_i h;exact ⟨fun q=>by omega,fun q=>(h q.2.1).elim⟩
theorem sAreValidKinds (l:List Kind) (hl:l.length≤1099511627776):SpecAt Try.prog 83 [ksl l] (.bl (decide (kindsOk l))):=by
  refine spec_of_awp (M:=MM) (np:=1) (fz:=true) mixed Try.func83 rfl rfl (by decide) rfl (Nat.le_refl _) (by decide +kernel) (.inr ⟨rfl,rfl⟩) trivial ?_
  simp -dsimp -implicitDefEqProofs (disch:=first|omega|(simp only [lenr];try omega)) only [↓amPre,↓reduceIte,reduceCtorEq,Nat.reduceEqDiff,Nat.reduceBEq,Nat.reduceAdd,Nat.reduceLeDiff,Nat.reduceSub,Nat.reduceMul,Int.reduceToNat,MM,bu0,cbP2]
  refine callP_of (inRange _ _ _) ?_
  cases w:within l.length 1 3 with
  | false =>
    simp -dsimp -implicitDefEqProofs (disch:=first|omega|(simp only [lenr];try omega)) only [↓amPre,↓reduceIte,reduceCtorEq,Nat.reduceEqDiff,Nat.reduceBEq,Nat.reduceAdd,Nat.reduceLeDiff,Nat.reduceSub,Nat.reduceMul,Int.reduceToNat,MM,bu0,cbP2,w]
    rw [within_not] at w
    have:¬ kindsOk l:=fun h=>by have:=h.1;omega
    simp [this]
  | true =>
  have w':=within_iff.1 w
  simp -dsimp -implicitDefEqProofs (disch:=first|omega|(simp only [lenr];try omega)) only [↓amPre,↓reduceIte,reduceCtorEq,Nat.reduceEqDiff,Nat.reduceBEq,Nat.reduceAdd,Nat.reduceLeDiff,Nat.reduceSub,Nat.reduceMul,Int.reduceToNat,MM,bu0,cbP2,w]
  refine awp_loop (fun k st=>k≤l.length∧st.fr 4=.i64 k∧st.fr 0=ksl l∧st.fr 3=.i64 (facets (l.take k))∧∀ x∈l.take k,kOk x) (l.length) ?_ ?_
  · simp -dsimp -implicitDefEqProofs (disch:=first|omega|(simp only [lenr];try omega)) only [↓amPre,↓reduceIte,reduceCtorEq,Nat.reduceEqDiff,Nat.reduceBEq,Nat.reduceAdd,Nat.reduceLeDiff,Nat.reduceSub,Nat.reduceMul,Int.reduceToNat,MM,bu0,cbP2]
    simp [facets]
  rintro k st _ ⟨hk,f4,f0,f3,ek⟩
  by_cases hlt:k<l.length
  · have hmem:=mem_getD l k default hlt
    have hb:=facets_bound (l.take k) ek
    rw [List.length_take,Nat.min_eq_left (by omega)] at hb
    have ft:=facets_take l k hlt
    simp -dsimp -implicitDefEqProofs (disch:=first|omega|(simp only [lenr];try omega)) only [↓amPre,↓reduceIte,reduceCtorEq,Nat.reduceEqDiff,Nat.reduceBEq,Nat.reduceAdd,Nat.reduceLeDiff,Nat.reduceSub,Nat.reduceMul,Int.reduceToNat,MM,bu0,cbP2,f4,f0,f3]
    refine callP_of (inRange _ _ _) ?_
    cases w1:within (l.getD k default).c 1 20 with
    | false =>
      simp -dsimp -implicitDefEqProofs (disch:=first|omega|(simp only [lenr];try omega)) only [↓amPre,↓reduceIte,reduceCtorEq,Nat.reduceEqDiff,Nat.reduceBEq,Nat.reduceAdd,Nat.reduceLeDiff,Nat.reduceSub,Nat.reduceMul,Int.reduceToNat,MM,bu0,cbP2,w1]
      have:¬ kindsOk l:=fun h=>by have:=within_iff.2 (h.2.1 _ hmem).1;rw [w1] at this;cases this
      simp [this]
    | true =>
    simp -dsimp -implicitDefEqProofs (disch:=first|omega|(simp only [lenr];try omega)) only [↓amPre,↓reduceIte,reduceCtorEq,Nat.reduceEqDiff,Nat.reduceBEq,Nat.reduceAdd,Nat.reduceLeDiff,Nat.reduceSub,Nat.reduceMul,Int.reduceToNat,MM,bu0,cbP2,w1,f4,f0,f3]
    refine callP_of (inRange _ _ _) ?_
    cases w2:within (l.getD k default).o 1 20 with
    | false =>
      simp -dsimp -implicitDefEqProofs (disch:=first|omega|(simp only [lenr];try omega)) only [↓amPre,↓reduceIte,reduceCtorEq,Nat.reduceEqDiff,Nat.reduceBEq,Nat.reduceAdd,Nat.reduceLeDiff,Nat.reduceSub,Nat.reduceMul,Int.reduceToNat,MM,bu0,cbP2,w1,w2]
      have:¬ kindsOk l:=fun h=>by have:=within_iff.2 (h.2.1 _ hmem).2;rw [w2] at this;cases this
      simp [this]
    | true =>
    have hk:=kOk_of w1 w2
    have hp:=kOk_prod hk
    simp -dsimp -implicitDefEqProofs (disch:=first|omega|(simp only [lenr];try omega)) only [↓amPre,↓reduceIte,reduceCtorEq,Nat.reduceEqDiff,Nat.reduceBEq,Nat.reduceAdd,Nat.reduceLeDiff,Nat.reduceSub,Nat.reduceMul,Int.reduceToNat,MM,bu0,cbP2,w1,w2,f4,f0,f3,← ft]
    repeat' (first | omega | rfl | exact i64c (by omega) | exact vic (by omega) | exact (mem_take_succ (d:=default) hlt).2 ⟨ek,hk⟩ | apply And.intro)
  · have hke:k=l.length:=by omega
    subst hke
    simp -dsimp -implicitDefEqProofs (disch:=first|omega|(simp only [lenr];try omega)) only [↓amPre,↓reduceIte,reduceCtorEq,Nat.reduceEqDiff,Nat.reduceBEq,Nat.reduceAdd,Nat.reduceLeDiff,Nat.reduceSub,Nat.reduceMul,Int.reduceToNat,MM,bu0,cbP2,f4,f0,f3,List.take_length]
    rw [List.take_length] at ek
    refine bl_eq ?_
    simp only [decide_eq_true_eq]
    unfold kindsOk
    exact ⟨fun q=>⟨by omega,ek,q⟩,fun q=>q.2.2⟩
theorem mul_wrap {a b:Int} {n:Nat} (h:a*b=n) (hn:n≤9223372036854775807):IntKind.i64.wrap (a*b)=n:=by rw [h];exact wrap64_id (by omega)
theorem istateCount (l:List Kind) (hl:kindsOk l):SpecAt Try.prog 164 [ksl l] (.i64 (stC l)):=by
  have hl3:=hl.1.2
  refine spec_of_awp (M:=MM) (np:=1) (fz:=true) mixed Try.func164 rfl rfl (by decide) rfl (Nat.le_refl _) (by decide +kernel) (.inr ⟨rfl,rfl⟩) trivial ?_
  simp -dsimp -implicitDefEqProofs (disch:=first|omega|(simp only [lenr];try omega)) only [↓amPre,↓reduceIte,reduceCtorEq,Nat.reduceEqDiff,Nat.reduceBEq,Nat.reduceAdd,Nat.reduceLeDiff,Nat.reduceSub,Nat.reduceMul,Int.reduceToNat,MM,bu0,cbP2]
  refine awp_loop (fun k st=>k≤l.length∧st.fr 9=.i64 k∧st.fr 8=.i64 l.length∧st.fr 7=ksl l∧st.fr 3=.i64 (stC (l.take k))) (l.length) ?_ ?_
  · simp -dsimp -implicitDefEqProofs (disch:=first|omega|(simp only [lenr];try omega)) only [↓amPre,↓reduceIte,reduceCtorEq,Nat.reduceEqDiff,Nat.reduceBEq,Nat.reduceAdd,Nat.reduceLeDiff,Nat.reduceSub,Nat.reduceMul,Int.reduceToNat,MM,bu0,cbP2]
    simp [stC]
  rintro k st _ ⟨hk,f9,f8,f7,f3⟩
  by_cases hlt:k<l.length
  · have hmem:=mem_getD l k default hlt
    obtain ⟨c1,c2,o1,o2,_⟩:=kindsOk_kind hl hmem
    have st:=stC_take l k hlt
    obtain ⟨c,hc⟩:∃ c:Nat,(l.getD k default).c=c:=⟨(l.getD k default).c.toNat,by omega⟩
    obtain ⟨o,ho⟩:∃ o:Nat,(l.getD k default).o=o:=⟨(l.getD k default).o.toNat,by omega⟩
    rw [hc,ho,Int.toNat_natCast,Int.toNat_natCast] at st
    have hpart:=st_part l hl k hlt
    rw [hc,ho,Int.toNat_natCast] at hpart
    simp -dsimp -implicitDefEqProofs (disch:=first|omega|(simp only [lenr];try omega)) only [↓amPre,↓reduceIte,reduceCtorEq,Nat.reduceEqDiff,Nat.reduceBEq,Nat.reduceAdd,Nat.reduceLeDiff,Nat.reduceSub,Nat.reduceMul,Int.reduceToNat,MM,bu0,cbP2,f9,f8,f7,f3,hc,ho]
    refine awp_loop (fun i st=>i≤c∧st.fr 15=.i64 i∧st.fr 14=.i64 c∧st.fr 9=.i64 k∧st.fr 8=.i64 l.length∧st.fr 7=ksl l∧st.fr 5=.loc 5 [] 0 0∧st.fr 3=.i64 (stC (l.take k)*stK o i:Nat)∧st.mem 5=some (.pt 2 (.agg [.i64 c,.i64 o]))) (c) ?_ ?_
    · simp -dsimp -implicitDefEqProofs (disch:=first|omega|(simp only [lenr];try omega)) only [↓amPre,↓reduceIte,reduceCtorEq,Nat.reduceEqDiff,Nat.reduceBEq,Nat.reduceAdd,Nat.reduceLeDiff,Nat.reduceSub,Nat.reduceMul,Int.reduceToNat,MM,bu0,cbP2,f9,f8,f7,f3]
      simp [stK]
    rintro i st _ ⟨hi,f15,f14,f9,f8,f7,f5,f3,m5⟩
    by_cases hlt':i<c
    · have h1:=hpart (i+1) (by omega)
      have w1:IntKind.i64.wrap (((i+1:Nat):Int)*(o:Int))=((i+1)*o:Nat):=mul_wrap (by simp) (by have:(i+1)*o≤20*20:=Nat.mul_le_mul (by omega) (by omega);omega)
      have w2:IntKind.i64.wrap (((stC (l.take k)*stK o i:Nat):Int)*((i+1)*o:Nat))=(stC (l.take k)*stK o (i+1):Nat):=mul_wrap (by rw [stK,← Nat.mul_assoc];simp) (by omega)
      simp -dsimp -implicitDefEqProofs (disch:=first|omega|(simp only [lenr];try omega)) only [↓amPre,↓reduceIte,reduceCtorEq,Nat.reduceEqDiff,Nat.reduceBEq,Nat.reduceAdd,Nat.reduceLeDiff,Nat.reduceSub,Nat.reduceMul,Int.reduceToNat,MM,bu0,cbP2,f15,f14,f9,f8,f7,f5,f3,m5,w1,w2]
      repeat' (first|omega|rfl|exact i64c (by omega)|exact vic (by omega)|apply ai)
    · have hie:i=c:=by omega
      subst hie
      simp -dsimp -implicitDefEqProofs (disch:=first|omega|(simp only [lenr];try omega)) only [↓amPre,↓reduceIte,reduceCtorEq,Nat.reduceEqDiff,Nat.reduceBEq,Nat.reduceAdd,Nat.reduceLeDiff,Nat.reduceSub,Nat.reduceMul,Int.reduceToNat,MM,bu0,cbP2,f15,f14,f9,f8,f7,f5,f3,m5,← st]
      repeat' (first|omega|rfl|exact i64c (by omega)|exact vic (by omega)|apply ai)
  · have hke:k=l.length:=by omega
    subst hke
    simp -dsimp -implicitDefEqProofs (disch:=first|omega|(simp only [lenr];try omega)) only [↓amPre,↓reduceIte,reduceCtorEq,Nat.reduceEqDiff,Nat.reduceBEq,Nat.reduceAdd,Nat.reduceLeDiff,Nat.reduceSub,Nat.reduceMul,Int.reduceToNat,MM,bu0,cbP2,f9,f8,f7,f3,List.take_length]
set_option maxRecDepth 4000 in
theorem sStates (l:List Kind) (hl:kindsOk l):SpecAt Try.prog 167 [ksl l] (.i64 (stC l)):=by
  have hl3:=hl.1.2
  refine spec_of_awp (M:=MM) (np:=1) (fz:=true) mixed Try.func167 rfl rfl (by decide) rfl (Nat.le_refl _) (by decide +kernel) (.inr ⟨rfl,rfl⟩) trivial ?_
  simp -dsimp -implicitDefEqProofs (disch:=first|omega|(simp only [lenr];try omega)) only [↓amPre,↓reduceIte,reduceCtorEq,Nat.reduceEqDiff,Nat.reduceBEq,Nat.reduceAdd,Nat.reduceLeDiff,Nat.reduceSub,Nat.reduceMul,Int.reduceToNat,MM,bu0,cbP2]
  refine awp_loop (fun k st=>k≤l.length∧st.fr 4=.i64 k∧st.fr 0=ksl l∧st.fr 3=.i64 (stC (l.take k))) (l.length) ?_ ?_
  · simp -dsimp -implicitDefEqProofs (disch:=first|omega|(simp only [lenr];try omega)) only [↓amPre,↓reduceIte,reduceCtorEq,Nat.reduceEqDiff,Nat.reduceBEq,Nat.reduceAdd,Nat.reduceLeDiff,Nat.reduceSub,Nat.reduceMul,Int.reduceToNat,MM,bu0,cbP2]
    simp [stC]
  rintro k st _ ⟨hk,f4,f0,f3⟩
  by_cases hlt:k<l.length
  · have hmem:=mem_getD l k default hlt
    obtain ⟨c1,c2,o1,o2,_⟩:=kindsOk_kind hl hmem
    have st:=stC_take l k hlt
    obtain ⟨c,hc⟩:∃ c:Nat,(l.getD k default).c=c:=⟨(l.getD k default).c.toNat,by omega⟩
    obtain ⟨o,ho⟩:∃ o:Nat,(l.getD k default).o=o:=⟨(l.getD k default).o.toNat,by omega⟩
    rw [hc,ho,Int.toNat_natCast,Int.toNat_natCast] at st
    have hpart:=st_part l hl k hlt
    rw [hc,ho,Int.toNat_natCast] at hpart
    simp -dsimp -implicitDefEqProofs (disch:=first|omega|(simp only [lenr];try omega)) only [↓amPre,↓reduceIte,reduceCtorEq,Nat.reduceEqDiff,Nat.reduceBEq,Nat.reduceAdd,Nat.reduceLeDiff,Nat.reduceSub,Nat.reduceMul,Int.reduceToNat,MM,bu0,cbP2,f4,f0,f3]
    refine awp_loop (fun i st=>i≤c∧st.fr 5=.i64 (i+1)∧st.fr 4=.i64 k∧st.fr 0=ksl l∧st.fr 3=.i64 (stC (l.take k)*stK o i:Nat)) (c) ?_ ?_
    · simp -dsimp -implicitDefEqProofs (disch:=first|omega|(simp only [lenr];try omega)) only [↓amPre,↓reduceIte,reduceCtorEq,Nat.reduceEqDiff,Nat.reduceBEq,Nat.reduceAdd,Nat.reduceLeDiff,Nat.reduceSub,Nat.reduceMul,Int.reduceToNat,MM,bu0,cbP2,f4,f0,f3]
      simp [stK]
    rintro i st _ ⟨hi,f5,f4,f0,f3⟩
    by_cases hlt':i<c
    · have h1:=hpart (i+1) (by omega)
      have e3:stC (l.take k)*stK o i*((i+1)*o)=stC (l.take k)*stK o (i+1):=by rw [stK,Nat.mul_assoc]
      have o1':1≤o:=by omega
      have w1:IntKind.i64.wrap (((stC (l.take k)*stK o i:Nat):Int)*((i+1:Nat):Int))=(stC (l.take k)*stK o i*(i+1):Nat):=mul_wrap (by simp) (by
        have:stC (l.take k)*stK o i*(i+1)≤stC (l.take k)*stK o i*((i+1)*o):=Nat.mul_le_mul_left _ (Nat.le_mul_of_pos_right _ o1')
        omega)
      have w2:IntKind.i64.wrap (((stC (l.take k)*stK o i*(i+1):Nat):Int)*o)=(stC (l.take k)*stK o (i+1):Nat):=mul_wrap (by rw [← e3,← Nat.mul_assoc];simp) (by omega)
      simp -dsimp -implicitDefEqProofs (disch:=first|omega|(simp only [lenr];try omega)) only [↓amPre,↓reduceIte,reduceCtorEq,Nat.reduceEqDiff,Nat.reduceBEq,Nat.reduceAdd,Nat.reduceLeDiff,Nat.reduceSub,Nat.reduceMul,Int.reduceToNat,MM,bu0,cbP2,f5,f4,f0,f3,hc,ho,w1,w2]
      repeat' (first|omega|rfl|exact i64c (by omega)|exact vic (by omega)|apply ai)
    · have hie:i=c:=by omega
      subst hie
      simp -dsimp -implicitDefEqProofs (disch:=first|omega|(simp only [lenr];try omega)) only [↓amPre,↓reduceIte,reduceCtorEq,Nat.reduceEqDiff,Nat.reduceBEq,Nat.reduceAdd,Nat.reduceLeDiff,Nat.reduceSub,Nat.reduceMul,Int.reduceToNat,MM,bu0,cbP2,f5,f4,f0,f3,hc,← st]
      repeat' (first|omega|rfl|exact i64c (by omega)|exact vic (by omega)|apply ai)
  · have hke:k=l.length:=by omega
    subst hke
    simp -dsimp -implicitDefEqProofs (disch:=first|omega|(simp only [lenr];try omega)) only [↓amPre,↓reduceIte,reduceCtorEq,Nat.reduceEqDiff,Nat.reduceBEq,Nat.reduceAdd,Nat.reduceLeDiff,Nat.reduceSub,Nat.reduceMul,Int.reduceToNat,MM,bu0,cbP2,f4,f0,f3,List.take_length]
def stR (l:List Kind):Int:=if kindsOk l then stC l else 0
theorem sPieceStateCount (l:List Kind) (hl:l.length≤1099511627776):SpecAt Try.prog 75 [ksl l] (.i64 (stR l)):=by
  refine spec_of_awp (M:=MM) (np:=1) (fz:=true) mixed Try.func75 rfl rfl (by decide) rfl (Nat.le_refl _) (by decide +kernel) (.inr ⟨rfl,rfl⟩) trivial ?_
  simp -dsimp -implicitDefEqProofs (disch:=first|omega|(simp only [lenr];try omega)) only [↓amPre,↓reduceIte,reduceCtorEq,Nat.reduceEqDiff,Nat.reduceBEq,Nat.reduceAdd,Nat.reduceLeDiff,Nat.reduceSub,Nat.reduceMul,Int.reduceToNat,MM,bu0,cbP2]
  refine callP_of (sAreValidKinds _ hl) ?_
  by_cases h:kindsOk l
  · simp -dsimp -implicitDefEqProofs (disch:=first|omega|(simp only [lenr];try omega)) only [↓amPre,↓reduceIte,reduceCtorEq,Nat.reduceEqDiff,Nat.reduceBEq,Nat.reduceAdd,Nat.reduceLeDiff,Nat.reduceSub,Nat.reduceMul,Int.reduceToNat,MM,bu0,cbP2,h]
    refine callP_of (sStates _ h) ?_
    simp -dsimp -implicitDefEqProofs (disch:=first|omega|(simp only [lenr];try omega)) only [↓amPre,↓reduceIte,reduceCtorEq,Nat.reduceEqDiff,Nat.reduceBEq,Nat.reduceAdd,Nat.reduceLeDiff,Nat.reduceSub,Nat.reduceMul,Int.reduceToNat,MM,bu0,cbP2,stR,h]
  · simp -dsimp -implicitDefEqProofs (disch:=first|omega|(simp only [lenr];try omega)) only [↓amPre,↓reduceIte,reduceCtorEq,Nat.reduceEqDiff,Nat.reduceBEq,Nat.reduceAdd,Nat.reduceLeDiff,Nat.reduceSub,Nat.reduceMul,Int.reduceToNat,MM,bu0,cbP2,h,stR]
end Go.AM
set_option maxRecDepth 8000
namespace Go.AM
open Go.Proofs
def fidx (pr:Int→Bool) (l:List Int):Int:=match l.findIdx? pr with | some i=>i | none=>-1
theorem fidx_nonneg (pr:Int→Bool) (l:List Int):0≤fidx pr l↔l.any pr=true:=by
  unfold fidx
  split
  · rename_i i e
    rw [List.findIdx?_eq_some_iff_getElem] at e
    obtain ⟨hi,h1,_⟩:=e
    simp only [List.any_eq_true]
    exact ⟨fun _=>⟨_,List.getElem_mem hi,h1⟩,fun _=>by omega⟩
  · rename_i e
    rw [List.findIdx?_eq_none_iff] at e
    simp only [List.any_eq_true]
    exact ⟨fun q=>by omega,fun ⟨x,hx,hp⟩=>by rw [e x hx] at hp;cases hp⟩
theorem indexFunc (l:List Int) (g:FuncId) (caps:List AV) (pr:Int→Bool) (hM:MM g=[]) (hb:AV.bearsL caps=false) (hv:∀ mem,AV.views mem caps=caps) (h:∀ x∈l,SpecAt Try.prog g ([.i64 x]++caps) (.bl (pr x))) (hl:l.length≤1099511627776) :
    SpecAt Try.prog 218 [isl l,.fn g caps] (.i64 (fidx pr l)):=by
  unfold MM at hM
  refine spec_of_awp (M:=MM) (np:=2) (fz:=true) mixed Try.func218 rfl rfl (by decide) rfl (Nat.le_refl _) (by decide +kernel) (.inr ⟨rfl,rfl⟩) trivial ?_
  simp -dsimp -implicitDefEqProofs (disch:=first|omega|(simp only [lenr];try omega)) only [↓amPre,↓reduceIte,reduceCtorEq,Nat.reduceEqDiff,Nat.reduceBEq,Nat.reduceAdd,Nat.reduceLeDiff,Nat.reduceSub,Nat.reduceMul,Int.reduceToNat,MM,bu0,cbP2]
  refine awp_loop (fun k st=>k≤l.length∧st.fr 8=.i64 k∧st.fr 7=.i64 l.length∧st.fr 0=isl l∧st.fr 1=.fn g caps∧∀ x∈l.take k,pr x=false) (l.length) ?_ ?_
  · simp -dsimp -implicitDefEqProofs (disch:=first|omega|(simp only [lenr];try omega)) only [↓amPre,↓reduceIte,reduceCtorEq,Nat.reduceEqDiff,Nat.reduceBEq,Nat.reduceAdd,Nat.reduceLeDiff,Nat.reduceSub,Nat.reduceMul,Int.reduceToNat,MM,bu0,cbP2]
    simp
  rintro k st _ ⟨hk,f8,f7,f0,f1,ek⟩
  by_cases hlt:k<l.length
  · have hmem:=mem_getD l k 0 hlt
    simp -dsimp -implicitDefEqProofs (disch:=first|omega|(simp only [lenr];try omega)) only [↓amPre,↓reduceIte,reduceCtorEq,Nat.reduceEqDiff,Nat.reduceBEq,Nat.reduceAdd,Nat.reduceLeDiff,Nat.reduceSub,Nat.reduceMul,Int.reduceToNat,MM,bu0,cbP2,f8,f7,f0,f1,hM,hb,hv]
    refine callP_of (h _ hmem) ?_
    cases w:pr (l.getD k 0) with
    | true =>
      simp -dsimp -implicitDefEqProofs (disch:=first|omega|(simp only [lenr];try omega)) only [↓amPre,↓reduceIte,reduceCtorEq,Nat.reduceEqDiff,Nat.reduceBEq,Nat.reduceAdd,Nat.reduceLeDiff,Nat.reduceSub,Nat.reduceMul,Int.reduceToNat,MM,bu0,cbP2,f8,f7,f0,f1,w]
      have:l.findIdx? pr=some k:=by
        rw [List.findIdx?_eq_some_iff_getElem]
        refine ⟨hlt,by rw [← getD_eq l k 0 hlt];exact w,fun j hj=>?_⟩
        have:=ek (l[j]) (by rw [List.mem_take_iff_getElem];exact ⟨j,by omega,rfl⟩)
        simpa using this
      rw [fidx,this]
    | false =>
      simp -dsimp -implicitDefEqProofs (disch:=first|omega|(simp only [lenr];try omega)) only [↓amPre,↓reduceIte,reduceCtorEq,Nat.reduceEqDiff,Nat.reduceBEq,Nat.reduceAdd,Nat.reduceLeDiff,Nat.reduceSub,Nat.reduceMul,Int.reduceToNat,MM,bu0,cbP2,f8,f7,f0,f1,w]
      repeat' (first | omega | rfl | exact i64c (by omega) | exact vic (by omega) | exact (mem_take_succ (d:=0) hlt).2 ⟨ek,w⟩ | apply And.intro)
  · have hke:k=l.length:=by omega
    subst hke
    rw [List.take_length] at ek
    simp -dsimp -implicitDefEqProofs (disch:=first|omega|(simp only [lenr];try omega)) only [↓amPre,↓reduceIte,reduceCtorEq,Nat.reduceEqDiff,Nat.reduceBEq,Nat.reduceAdd,Nat.reduceLeDiff,Nat.reduceSub,Nat.reduceMul,Int.reduceToNat,MM,bu0,cbP2,f8,f7,f0,f1]
    have:l.findIdx? pr=none:=by rw [List.findIdx?_eq_none_iff];exact ek
    rw [fidx,this]
theorem containsFunc (l:List Int) (g:FuncId) (caps:List AV) (pr:Int→Bool) (hM:MM g=[]) (hb:AV.bearsL caps=false) (hv:∀ mem,AV.views mem caps=caps) (h:∀ x∈l,SpecAt Try.prog g ([.i64 x]++caps) (.bl (pr x))) (hl:l.length≤1099511627776) :
    SpecAt Try.prog 156 [isl l,.fn g caps] (.bl (l.any pr)):=by
  refine spec_of_awp (M:=MM) (np:=2) (fz:=true) mixed Try.func156 rfl rfl (by decide) rfl (Nat.le_refl _) (by decide +kernel) (.inr ⟨rfl,rfl⟩) trivial ?_
  simp -dsimp -implicitDefEqProofs (disch:=first|omega|(simp only [lenr];try omega)) only [↓amPre,↓reduceIte,reduceCtorEq,Nat.reduceEqDiff,Nat.reduceBEq,Nat.reduceAdd,Nat.reduceLeDiff,Nat.reduceSub,Nat.reduceMul,Int.reduceToNat,MM,bu0,cbP2,hb,hv]
  refine callP_of (indexFunc l g caps pr hM hb hv h hl) ?_
  simp -dsimp -implicitDefEqProofs (disch:=first|omega|(simp only [lenr];try omega)) only [↓amPre,↓reduceIte,reduceCtorEq,Nat.reduceEqDiff,Nat.reduceBEq,Nat.reduceAdd,Nat.reduceLeDiff,Nat.reduceSub,Nat.reduceMul,Int.reduceToNat,MM,bu0,cbP2]
  refine bl_eq ?_
  simp only [decide_eq_true_eq,fidx_nonneg]
theorem isTwist1 (x c o:Int) (ho:0≤o) (ho1:o≤20):SpecAt Try.prog 227 [.i64 x,.ep [.i64 c,.i64 o]] (.bl (!within x 0 (o - 1))):=by
  refine spec_of_awp (M:=MM) (np:=2) (fz:=true) mixed Try.func227 rfl rfl (by decide) rfl (Nat.le_refl _) (by decide +kernel) (.inr ⟨rfl,rfl⟩) trivial ?_
  simp -dsimp -implicitDefEqProofs (disch:=first|omega|(simp only [lenr];try omega)) only [↓amPre,↓reduceIte,reduceCtorEq,Nat.reduceEqDiff,Nat.reduceBEq,Nat.reduceAdd,Nat.reduceLeDiff,Nat.reduceSub,Nat.reduceMul,Int.reduceToNat,MM,bu0,cbP2]
  refine callP_of (iwithin _ _ _) ?_
  simp -dsimp -implicitDefEqProofs (disch:=first|omega|(simp only [lenr];try omega)) only [↓amPre,↓reduceIte,reduceCtorEq,Nat.reduceEqDiff,Nat.reduceBEq,Nat.reduceAdd,Nat.reduceLeDiff,Nat.reduceSub,Nat.reduceMul,Int.reduceToNat,MM,bu0,cbP2]
theorem isTwist (k:Kind) (t:Twist) (hk:kOk k) (h1:t.to.length≤1099511627776) (h2:t.by'.length≤1099511627776):SpecAt Try.prog 182 [k.av,t.sl] (.bl (decide (twOk k t))):=by
  refine spec_of_awp (M:=MM) (np:=2) (fz:=true) mixed Try.func182 rfl rfl (by decide) rfl (Nat.le_refl _) (by decide +kernel) (.inr ⟨rfl,rfl⟩) trivial ?_
  simp -dsimp -implicitDefEqProofs (disch:=first|omega|(simp only [lenr];try omega)) only [↓amPre,↓reduceIte,reduceCtorEq,Nat.reduceEqDiff,Nat.reduceBEq,Nat.reduceAdd,Nat.reduceLeDiff,Nat.reduceSub,Nat.reduceMul,Int.reduceToNat,MM,bu0,cbP2]
  refine callP_of (lenI _) ?_
  have fin:∀ b:Bool,(b=true↔twOk k t)→Value.bool b=Value.bool (decide (twOk k t)):=fun b h=>bl_eq (by rw [h,decide_eq_true_iff])
  by_cases c1:(t.to.length:Int)=k.c
  · simp -dsimp -implicitDefEqProofs (disch:=first|omega|(simp only [lenr];try omega)) only [↓amPre,↓reduceIte,reduceCtorEq,Nat.reduceEqDiff,Nat.reduceBEq,Nat.reduceAdd,Nat.reduceLeDiff,Nat.reduceSub,Nat.reduceMul,Int.reduceToNat,MM,bu0,cbP2,eq_true c1]
    refine callP_of (iIsPerm _ h1) ?_
    by_cases c2:isPerm t.to
    · simp -dsimp -implicitDefEqProofs (disch:=first|omega|(simp only [lenr];try omega)) only [↓amPre,↓reduceIte,reduceCtorEq,Nat.reduceEqDiff,Nat.reduceBEq,Nat.reduceAdd,Nat.reduceLeDiff,Nat.reduceSub,Nat.reduceMul,Int.reduceToNat,MM,bu0,cbP2,eq_true c1,c2]
      refine callP_of (lenI _) ?_
      by_cases c3:(t.by'.length:Int)=k.c
      · simp -dsimp -implicitDefEqProofs (disch:=first|omega|(simp only [lenr];try omega)) only [↓amPre,↓reduceIte,reduceCtorEq,Nat.reduceEqDiff,Nat.reduceBEq,Nat.reduceAdd,Nat.reduceLeDiff,Nat.reduceSub,Nat.reduceMul,Int.reduceToNat,MM,bu0,cbP2,eq_true c1,c2,eq_true c3]
        refine callP_of (containsFunc t.by' _ _ (fun x=>!within x 0 (k.o - 1)) rfl rfl (fun _=>rfl) (fun x _=>isTwist1 x k.c k.o (by have:=hk.2;omega) hk.2.2) h2) ?_
        simp -dsimp -implicitDefEqProofs (disch:=first|omega|(simp only [lenr];try omega)) only [↓amPre,↓reduceIte,reduceCtorEq,Nat.reduceEqDiff,Nat.reduceBEq,Nat.reduceAdd,Nat.reduceLeDiff,Nat.reduceSub,Nat.reduceMul,Int.reduceToNat,MM,bu0,cbP2,eq_true c1,c2,eq_true c3]
        refine fin _ ?_
        simp only [Bool.not_eq_true',List.any_eq_false,Bool.not_eq_true,Bool.not_eq_false',Bool.not_eq_false,within_iff,twOk,c1,c2,c3,true_and]
        exact ⟨fun q x hx=>by have:=q x hx;omega,fun q x hx=>by have:=q x hx;omega⟩
      · simp -dsimp -implicitDefEqProofs (disch:=first|omega|(simp only [lenr];try omega)) only [↓amPre,↓reduceIte,reduceCtorEq,Nat.reduceEqDiff,Nat.reduceBEq,Nat.reduceAdd,Nat.reduceLeDiff,Nat.reduceSub,Nat.reduceMul,Int.reduceToNat,MM,bu0,cbP2,eq_true c1,c2,eq_false c3]
        refine fin _ ?_
        simp only [twOk,c3,false_and,and_false,reduceCtorEq]
    · simp -dsimp -implicitDefEqProofs (disch:=first|omega|(simp only [lenr];try omega)) only [↓amPre,↓reduceIte,reduceCtorEq,Nat.reduceEqDiff,Nat.reduceBEq,Nat.reduceAdd,Nat.reduceLeDiff,Nat.reduceSub,Nat.reduceMul,Int.reduceToNat,MM,bu0,cbP2,eq_true c1,c2]
      refine fin _ ?_
      simp only [twOk,c2,false_and,and_false,reduceCtorEq]
  · simp -dsimp -implicitDefEqProofs (disch:=first|omega|(simp only [lenr];try omega)) only [↓amPre,↓reduceIte,reduceCtorEq,Nat.reduceEqDiff,Nat.reduceBEq,Nat.reduceAdd,Nat.reduceLeDiff,Nat.reduceSub,Nat.reduceMul,Int.reduceToNat,MM,bu0,cbP2,eq_false c1]
    refine fin _ ?_
    simp only [twOk,c1,false_and,and_false,reduceCtorEq]
theorem sValidTwist (k:Kind) (t:Twist) (hk:kOk k) (h1:t.to.length≤1099511627776) (h2:t.by'.length≤1099511627776):SpecAt Try.prog 175 [k.av,t.sl] (.bl (decide (twOk k t))):=by
  have hk2:=hk.2
  refine spec_of_awp (M:=MM) (np:=2) (fz:=true) mixed Try.func175 rfl rfl (by decide) rfl (Nat.le_refl _) (by decide +kernel) (.inr ⟨rfl,rfl⟩) trivial ?_
  simp -dsimp -implicitDefEqProofs (disch:=first|omega|(simp only [lenr];try omega)) only [↓amPre,↓reduceIte,reduceCtorEq,Nat.reduceEqDiff,Nat.reduceBEq,Nat.reduceAdd,Nat.reduceLeDiff,Nat.reduceSub,Nat.reduceMul,Int.reduceToNat,MM,bu0,cbP2]
  have fin:∀ b:Bool,(b=true↔twOk k t)→Value.bool b=Value.bool (decide (twOk k t)):=fun b h=>bl_eq (by rw [h,decide_eq_true_iff])
  by_cases c1:(t.to.length:Int)=k.c
  · by_cases c3:(t.by'.length:Int)=k.c
    · simp -dsimp -implicitDefEqProofs (disch:=first|omega|(simp only [lenr];try omega)) only [↓amPre,↓reduceIte,reduceCtorEq,Nat.reduceEqDiff,Nat.reduceBEq,Nat.reduceAdd,Nat.reduceLeDiff,Nat.reduceSub,Nat.reduceMul,Int.reduceToNat,MM,bu0,cbP2,ne_false c1,ne_false c3]
      refine callP_of (sIsPerm _ h1) ?_
      by_cases c2:isPerm t.to
      · simp -dsimp -implicitDefEqProofs (disch:=first|omega|(simp only [lenr];try omega)) only [↓amPre,↓reduceIte,reduceCtorEq,Nat.reduceEqDiff,Nat.reduceBEq,Nat.reduceAdd,Nat.reduceLeDiff,Nat.reduceSub,Nat.reduceMul,Int.reduceToNat,MM,bu0,cbP2,c2]
        refine awp_loop (fun j st=>j≤t.by'.length∧st.fr 5=.i64 j∧st.fr 2=.loc 2 [] 0 0∧st.fr 3=.loc 3 [] 0 0∧st.mem 2=some (.pt 2 k.av)∧st.mem 3=some (.pt 2 (.agg [isl t.to,isl t.by']))∧∀ x∈t.by'.take j,0≤x∧x<k.o) (t.by'.length) ?_ ?_
        · simp -dsimp -implicitDefEqProofs (disch:=first|omega|(simp only [lenr];try omega)) only [↓amPre,↓reduceIte,reduceCtorEq,Nat.reduceEqDiff,Nat.reduceBEq,Nat.reduceAdd,Nat.reduceLeDiff,Nat.reduceSub,Nat.reduceMul,Int.reduceToNat,MM,bu0,cbP2]
          simp
        rintro j st _ ⟨hj,f5,f2,f3,m2,m3,ej⟩
        by_cases hlt:j<t.by'.length
        · simp -dsimp -implicitDefEqProofs (disch:=first|omega|(simp only [lenr];try omega)) only [↓amPre,↓reduceIte,reduceCtorEq,Nat.reduceEqDiff,Nat.reduceBEq,Nat.reduceAdd,Nat.reduceLeDiff,Nat.reduceSub,Nat.reduceMul,Int.reduceToNat,MM,bu0,cbP2,f5,f2,f3,m2,m3]
          refine callP_of (inRange _ _ _) ?_
          cases w:within (t.by'.getD j 0) 0 (k.o - 1) with
          | false =>
            simp -dsimp -implicitDefEqProofs (disch:=first|omega|(simp only [lenr];try omega)) only [↓amPre,↓reduceIte,reduceCtorEq,Nat.reduceEqDiff,Nat.reduceBEq,Nat.reduceAdd,Nat.reduceLeDiff,Nat.reduceSub,Nat.reduceMul,Int.reduceToNat,MM,bu0,cbP2,w]
            refine fin _ ?_
            rw [within_not] at w
            simp only [reduceCtorEq,false_iff]
            intro q;have:=q.2.2.2 _ (mem_getD _ j 0 hlt);omega
          | true =>
            rw [within_iff] at w
            simp -dsimp -implicitDefEqProofs (disch:=first|omega|(simp only [lenr];try omega)) only [↓amPre,↓reduceIte,reduceCtorEq,Nat.reduceEqDiff,Nat.reduceBEq,Nat.reduceAdd,Nat.reduceLeDiff,Nat.reduceSub,Nat.reduceMul,Int.reduceToNat,MM,bu0,cbP2,f5,f2,f3,m2,m3,within_iff.2 w]
            repeat' (first | omega | rfl | exact i64c (by omega) | exact vic (by omega) | exact (mem_take_succ (d:=0) hlt).2 ⟨ej,by omega⟩ | apply And.intro)
        · have hje:j=t.by'.length:=by omega
          subst hje
          rw [List.take_length] at ej
          simp -dsimp -implicitDefEqProofs (disch:=first|omega|(simp only [lenr];try omega)) only [↓amPre,↓reduceIte,reduceCtorEq,Nat.reduceEqDiff,Nat.reduceBEq,Nat.reduceAdd,Nat.reduceLeDiff,Nat.reduceSub,Nat.reduceMul,Int.reduceToNat,MM,bu0,cbP2,f5,f2,f3,m2,m3]
          refine fin _ ?_
          simp only [true_iff]
          exact ⟨c1,c3,c2,ej⟩
      · simp -dsimp -implicitDefEqProofs (disch:=first|omega|(simp only [lenr];try omega)) only [↓amPre,↓reduceIte,reduceCtorEq,Nat.reduceEqDiff,Nat.reduceBEq,Nat.reduceAdd,Nat.reduceLeDiff,Nat.reduceSub,Nat.reduceMul,Int.reduceToNat,MM,bu0,cbP2,c2]
        refine fin _ ?_
        simp only [twOk,c2,false_and,and_false,reduceCtorEq]
    · simp -dsimp -implicitDefEqProofs (disch:=first|omega|(simp only [lenr];try omega)) only [↓amPre,↓reduceIte,reduceCtorEq,Nat.reduceEqDiff,Nat.reduceBEq,Nat.reduceAdd,Nat.reduceLeDiff,Nat.reduceSub,Nat.reduceMul,Int.reduceToNat,MM,bu0,cbP2,ne_false c1,ne_true c3]
      refine fin _ ?_
      simp only [twOk,c3,false_and,and_false,reduceCtorEq]
  · simp -dsimp -implicitDefEqProofs (disch:=first|omega|(simp only [lenr];try omega)) only [↓amPre,↓reduceIte,reduceCtorEq,Nat.reduceEqDiff,Nat.reduceBEq,Nat.reduceAdd,Nat.reduceLeDiff,Nat.reduceSub,Nat.reduceMul,Int.reduceToNat,MM,bu0,cbP2,ne_true c1]
    refine fin _ ?_
    simp only [twOk,c1,false_and,and_false,reduceCtorEq]
theorem iIsPieceState (ks:List Kind) (s:List Twist) (h1:ks.length≤1099511627776) (h2:s.length≤1099511627776) (h3:∀ t∈s,t.to.length≤1099511627776∧t.by'.length≤1099511627776):SpecAt Try.prog 92 [ksl ks,tsl s] (.bl (decide (psOk ks s))):=by
  refine spec_of_awp (M:=MM) (np:=2) (fz:=true) mixed Try.func92 rfl rfl (by decide) rfl (Nat.le_refl _) (by decide +kernel) (.inr ⟨rfl,rfl⟩) trivial ?_
  simp -dsimp -implicitDefEqProofs (disch:=first|omega|(simp only [lenr];try omega)) only [↓amPre,↓reduceIte,reduceCtorEq,Nat.reduceEqDiff,Nat.reduceBEq,Nat.reduceAdd,Nat.reduceLeDiff,Nat.reduceSub,Nat.reduceMul,Int.reduceToNat,MM,bu0,cbP2]
  refine callP_of (iAreValidKinds _ h1) ?_
  have fin:∀ b:Bool,(b=true↔psOk ks s)→Value.bool b=Value.bool (decide (psOk ks s)):=fun b h=>bl_eq (by rw [h,decide_eq_true_iff])
  by_cases c1:kindsOk ks
  · by_cases c2:(s.length:Int)=ks.length
    · have c2':s.length=ks.length:=by omega
      simp -dsimp -implicitDefEqProofs (disch:=first|omega|(simp only [lenr];try omega)) only [↓amPre,↓reduceIte,reduceCtorEq,Nat.reduceEqDiff,Nat.reduceBEq,Nat.reduceAdd,Nat.reduceLeDiff,Nat.reduceSub,Nat.reduceMul,Int.reduceToNat,MM,bu0,cbP2,c1,ne_false c2]
      refine awp_loop (fun k st=>k≤ks.length∧st.fr 19=.i64 k∧st.fr 18=.i64 ks.length∧st.fr 17=ksl ks∧st.fr 1=tsl s∧∀ i,i<k→twOk (ks.getD i default) (s.getD i default)) (ks.length) ?_ ?_
      · simp -dsimp -implicitDefEqProofs (disch:=first|omega|(simp only [lenr];try omega)) only [↓amPre,↓reduceIte,reduceCtorEq,Nat.reduceEqDiff,Nat.reduceBEq,Nat.reduceAdd,Nat.reduceLeDiff,Nat.reduceSub,Nat.reduceMul,Int.reduceToNat,MM,bu0,cbP2]
        simp
      rintro k st _ ⟨hk,f19,f18,f17,f1,ek⟩
      by_cases hlt:k<ks.length
      · obtain ⟨e1,e2⟩:=h3 _ (mem_getD s k default (by omega))
        simp -dsimp -implicitDefEqProofs (disch:=first|omega|(simp only [lenr];try omega)) only [↓amPre,↓reduceIte,reduceCtorEq,Nat.reduceEqDiff,Nat.reduceBEq,Nat.reduceAdd,Nat.reduceLeDiff,Nat.reduceSub,Nat.reduceMul,Int.reduceToNat,MM,bu0,cbP2,f19,f18,f17,f1]
        refine callP_of (isTwist (ks.getD k default) (s.getD k default) (c1.2.1 _ (mem_getD ks k default hlt)) e1 e2) ?_
        by_cases w:twOk (ks.getD k default) (s.getD k default)
        · simp -dsimp -implicitDefEqProofs (disch:=first|omega|(simp only [lenr];try omega)) only [↓amPre,↓reduceIte,reduceCtorEq,Nat.reduceEqDiff,Nat.reduceBEq,Nat.reduceAdd,Nat.reduceLeDiff,Nat.reduceSub,Nat.reduceMul,Int.reduceToNat,MM,bu0,cbP2,f19,f18,f17,f1,w]
          refine ⟨hlt,hlt,fun i hi=>?_⟩
          by_cases e:i=k
          · subst e;exact w
          · exact ek i (by omega)
        · simp -dsimp -implicitDefEqProofs (disch:=first|omega|(simp only [lenr];try omega)) only [↓amPre,↓reduceIte,reduceCtorEq,Nat.reduceEqDiff,Nat.reduceBEq,Nat.reduceAdd,Nat.reduceLeDiff,Nat.reduceSub,Nat.reduceMul,Int.reduceToNat,MM,bu0,cbP2,f19,f18,f17,f1,w]
          refine fin _ ?_
          simp only [reduceCtorEq,false_iff]
          intro q;exact w (q.2.2 k hlt)
      · have hke:k=ks.length:=by omega
        subst hke
        simp -dsimp -implicitDefEqProofs (disch:=first|omega|(simp only [lenr];try omega)) only [↓amPre,↓reduceIte,reduceCtorEq,Nat.reduceEqDiff,Nat.reduceBEq,Nat.reduceAdd,Nat.reduceLeDiff,Nat.reduceSub,Nat.reduceMul,Int.reduceToNat,MM,bu0,cbP2,f19,f18,f17,f1]
        refine fin _ ?_
        simp only [true_iff]
        exact ⟨c1,c2',ek⟩
    · simp -dsimp -implicitDefEqProofs (disch:=first|omega|(simp only [lenr];try omega)) only [↓amPre,↓reduceIte,reduceCtorEq,Nat.reduceEqDiff,Nat.reduceBEq,Nat.reduceAdd,Nat.reduceLeDiff,Nat.reduceSub,Nat.reduceMul,Int.reduceToNat,MM,bu0,cbP2,c1,ne_true c2]
      refine fin _ ?_
      simp only [reduceCtorEq,false_iff]
      intro q;have:=q.2.1;omega
  · simp -dsimp -implicitDefEqProofs (disch:=first|omega|(simp only [lenr];try omega)) only [↓amPre,↓reduceIte,reduceCtorEq,Nat.reduceEqDiff,Nat.reduceBEq,Nat.reduceAdd,Nat.reduceLeDiff,Nat.reduceSub,Nat.reduceMul,Int.reduceToNat,MM,bu0,cbP2,c1]
    refine fin _ ?_
    simp only [reduceCtorEq,false_iff]
    exact fun q=>c1 q.1
theorem sIsPieceState (ks:List Kind) (s:List Twist) (h1:ks.length≤1099511627776) (h2:s.length≤1099511627776) (h3:∀ t∈s,t.to.length≤1099511627776∧t.by'.length≤1099511627776):SpecAt Try.prog 86 [ksl ks,tsl s] (.bl (decide (psOk ks s))):=by
  refine spec_of_awp (M:=MM) (np:=2) (fz:=true) mixed Try.func86 rfl rfl (by decide) rfl (Nat.le_refl _) (by decide +kernel) (.inr ⟨rfl,rfl⟩) trivial ?_
  simp -dsimp -implicitDefEqProofs (disch:=first|omega|(simp only [lenr];try omega)) only [↓amPre,↓reduceIte,reduceCtorEq,Nat.reduceEqDiff,Nat.reduceBEq,Nat.reduceAdd,Nat.reduceLeDiff,Nat.reduceSub,Nat.reduceMul,Int.reduceToNat,MM,bu0,cbP2]
  refine callP_of (sAreValidKinds _ h1) ?_
  have fin:∀ b:Bool,(b=true↔psOk ks s)→Value.bool b=Value.bool (decide (psOk ks s)):=fun b h=>bl_eq (by rw [h,decide_eq_true_iff])
  by_cases c1:kindsOk ks
  · by_cases c2:(s.length:Int)=ks.length
    · have c2':s.length=ks.length:=by omega
      simp -dsimp -implicitDefEqProofs (disch:=first|omega|(simp only [lenr];try omega)) only [↓amPre,↓reduceIte,reduceCtorEq,Nat.reduceEqDiff,Nat.reduceBEq,Nat.reduceAdd,Nat.reduceLeDiff,Nat.reduceSub,Nat.reduceMul,Int.reduceToNat,MM,bu0,cbP2,c1,ne_false c2]
      refine awp_loop (fun k st=>k≤ks.length∧st.fr 5=.i64 k∧st.fr 0=ksl ks∧st.fr 1=tsl s∧∀ i,i<k→twOk (ks.getD i default) (s.getD i default)) (ks.length) ?_ ?_
      · simp -dsimp -implicitDefEqProofs (disch:=first|omega|(simp only [lenr];try omega)) only [↓amPre,↓reduceIte,reduceCtorEq,Nat.reduceEqDiff,Nat.reduceBEq,Nat.reduceAdd,Nat.reduceLeDiff,Nat.reduceSub,Nat.reduceMul,Int.reduceToNat,MM,bu0,cbP2]
        simp
      rintro k st _ ⟨hk,f5,f0,f1,ek⟩
      by_cases hlt:k<ks.length
      · obtain ⟨e1,e2⟩:=h3 _ (mem_getD s k default (by omega))
        simp -dsimp -implicitDefEqProofs (disch:=first|omega|(simp only [lenr];try omega)) only [↓amPre,↓reduceIte,reduceCtorEq,Nat.reduceEqDiff,Nat.reduceBEq,Nat.reduceAdd,Nat.reduceLeDiff,Nat.reduceSub,Nat.reduceMul,Int.reduceToNat,MM,bu0,cbP2,f5,f0,f1]
        refine callP_of (sValidTwist (ks.getD k default) (s.getD k default) (c1.2.1 _ (mem_getD ks k default hlt)) e1 e2) ?_
        by_cases w:twOk (ks.getD k default) (s.getD k default)
        · simp -dsimp -implicitDefEqProofs (disch:=first|omega|(simp only [lenr];try omega)) only [↓amPre,↓reduceIte,reduceCtorEq,Nat.reduceEqDiff,Nat.reduceBEq,Nat.reduceAdd,Nat.reduceLeDiff,Nat.reduceSub,Nat.reduceMul,Int.reduceToNat,MM,bu0,cbP2,f5,f0,f1,w]
          refine ⟨hlt,hlt,fun i hi=>?_⟩
          by_cases e:i=k
          · subst e;exact w
          · exact ek i (by omega)
        · simp -dsimp -implicitDefEqProofs (disch:=first|omega|(simp only [lenr];try omega)) only [↓amPre,↓reduceIte,reduceCtorEq,Nat.reduceEqDiff,Nat.reduceBEq,Nat.reduceAdd,Nat.reduceLeDiff,Nat.reduceSub,Nat.reduceMul,Int.reduceToNat,MM,bu0,cbP2,f5,f0,f1,w]
          refine fin _ ?_
          simp only [reduceCtorEq,false_iff]
          intro q;exact w (q.2.2 k hlt)
      · have hke:k=ks.length:=by omega
        subst hke
        simp -dsimp -implicitDefEqProofs (disch:=first|omega|(simp only [lenr];try omega)) only [↓amPre,↓reduceIte,reduceCtorEq,Nat.reduceEqDiff,Nat.reduceBEq,Nat.reduceAdd,Nat.reduceLeDiff,Nat.reduceSub,Nat.reduceMul,Int.reduceToNat,MM,bu0,cbP2,f5,f0,f1]
        refine fin _ ?_
        simp only [true_iff]
        exact ⟨c1,c2',ek⟩
    · simp -dsimp -implicitDefEqProofs (disch:=first|omega|(simp only [lenr];try omega)) only [↓amPre,↓reduceIte,reduceCtorEq,Nat.reduceEqDiff,Nat.reduceBEq,Nat.reduceAdd,Nat.reduceLeDiff,Nat.reduceSub,Nat.reduceMul,Int.reduceToNat,MM,bu0,cbP2,c1,ne_true c2]
      refine fin _ ?_
      simp only [reduceCtorEq,false_iff]
      intro q;have:=q.2.1;omega
  · simp -dsimp -implicitDefEqProofs (disch:=first|omega|(simp only [lenr];try omega)) only [↓amPre,↓reduceIte,reduceCtorEq,Nat.reduceEqDiff,Nat.reduceBEq,Nat.reduceAdd,Nat.reduceLeDiff,Nat.reduceSub,Nat.reduceMul,Int.reduceToNat,MM,bu0,cbP2,c1]
    refine fin _ ?_
    simp only [reduceCtorEq,false_iff]
    exact fun q=>c1 q.1
end Go.AM
namespace Go.AM
/-! texts -/
theorem stsize (l:List UInt8):ByteArray.size ⟨l.toArray⟩=l.length:=rfl
theorem stget (l:List UInt8) (i:Nat) (d:UInt8):(ByteArray.mk l.toArray).data.toList.getD i d=l.getD i d:=rfl
theorem sttl (l:List UInt8):(ByteArray.mk l.toArray).toList=l:=by simp
theorem stapp (a b:List UInt8):(ByteArray.mk a.toArray)++(ByteArray.mk b.toArray)=⟨(a++b).toArray⟩:=by
  apply ByteArray.ext;simp
theorem stext (l:List UInt8) (i j:Nat):(ByteArray.mk l.toArray).extract i j=⟨((l.take j).drop i).toArray⟩:=by
  apply ByteArray.ext;simp [List.drop_take]
theorem u8lt (b:UInt8):b.toNat<256:=UInt8.toNat_lt b
theorem u8eq {a b:UInt8}:((a.toNat:Int) == (b.toNat:Int))=decide (a=b):=by
  rw [Bool.eq_iff_iff,beq_iff_eq,decide_eq_true_iff]
  exact ⟨fun h=>UInt8.toNat_inj.1 (by omega),fun h=>by rw [h]⟩
def lettersOk (l:List UInt8):Prop:=(∀ b∈l,65≤b.toNat∧b.toNat≤90)∧l.Nodup
instance (l:List UInt8):Decidable (lettersOk l):=by unfold lettersOk;infer_instance
def namesOk (l:List UInt8):Prop:=lettersOk l∧1≤l.length∧l.length≤8
instance (l:List UInt8):Decidable (namesOk l):=by unfold namesOk;infer_instance
structure Model where
  ks:List Kind
  nm:List UInt8
  mv:List (List Twist)
  deriving DecidableEq
abbrev tssl (l:List (List Twist)):AV:=.sl 1 (l.map tsl)
abbrev tsst (l:List (List Twist)):AV:=.tr 1 (l.map ttr)
theorem tsspure (l:List (List Twist)):AV.pureL (l.map ttr)=true:=pureL_map _ (fun t=>by simp [AV.pure,tpure]) l
theorem tssfz (l:List (List Twist)):(l.map ttr).map AV.fz=l.map tsl:=by
  rw [List.map_map];exact List.map_congr_left fun a _=>by show (ttr a).fz=tsl a;rw [AV.fz,fzL_map,tfz]
def Model.sl (m:Model):AV:=.agg [ksl m.ks,.st m.nm,tssl m.mv]
def Model.tr (m:Model):AV:=.agg [ktr m.ks,.st m.nm,tsst m.mv]
def modelOk (m:Model):Prop:=kindsOk m.ks∧namesOk m.nm∧m.nm.length=m.mv.length∧∀ s∈m.mv,psOk m.ks s
instance (m:Model):Decidable (modelOk m):=by unfold modelOk;infer_instance
/-! what is done with piece states,plainly -/
theorem runI_succ (k:Int) (n:Nat):runI k (n+1)=runI k n++[k+n]:=by simp [runI,List.range_succ]
def solvedK (k:Kind):Twist:=⟨runI 0 k.c.toNat,List.replicate k.c.toNat 0⟩
def compI (p q:List Int):List Int:=p.map fun x=>q.getD x.toNat 0
def scat {α:Type} (base:List α) (p:List Int) (v:Nat→α):Nat→List α
  | 0=>base
  | i+1=>(scat base p v i).set (p.getD i 0).toNat (v i)
theorem scat_len {α:Type} (base:List α) (p:List Int) (v:Nat→α):∀ i,(scat base p v i).length=base.length
  | 0=>rfl
  | i+1=>by rw [scat,List.length_set,scat_len base p v i]
theorem perm_inj {p:List Int} (h:isPerm p) {i j:Nat} (hi:i<p.length) (hj:j<p.length) (e:p.getD i 0=p.getD j 0):i=j:=by
  rw [getD_eq _ _ _ hi,getD_eq _ _ _ hj] at e
  exact (List.getElem_inj h.2.2).1 e
theorem perm_get {p:List Int} (h:isPerm p) {i:Nat} (hi:i<p.length):0≤p.getD i 0∧p.getD i 0<p.length:=h.2.1 _ (mem_getD p i 0 hi)
theorem scat_get {α:Type} (base:List α) (p:List Int) (v:Nat→α) (d:α) (h:isPerm p) (hb:base.length=p.length):∀ m,m≤p.length→∀ i,i<m→(scat base p v m).getD (p.getD i 0).toNat d=v i
  | m+1,hm,i,hi=>by
    have hg:=perm_get h (show m<p.length by omega)
    have hl:=scat_len base p v m
    rw [scat]
    by_cases e:i=m
    · subst e;rw [getD_set_same _ _ _ _ (by omega)]
    · rw [getD_set_ne _ _ _ _ _ (fun q=>e (perm_inj h (by omega) (by omega) (by have:=perm_get h (show i<p.length by omega);omega))),scat_get base p v d h hb m (by omega) i (by omega)]
theorem perm_surj {p:List Int} (h:isPerm p) (j:Nat) (hj:j<p.length):∃ i,i<p.length∧(p.getD i 0).toNat=j:=by
  have hlt:∀ x∈p.map Int.toNat,x<p.length:=by
    intro x hx
    obtain ⟨y,hy,rfl⟩:=List.mem_map.1 hx
    have:=h.2.1 y hy;omega
  have hn:(p.map Int.toNat).Nodup:=by
    rw [List.Nodup,List.pairwise_map]
    refine List.Pairwise.imp_of_mem ?_ h.2.2
    intro a b ha hb hab e
    have:=h.2.1 a ha;have:=h.2.1 b hb;exact hab (by omega)
  have:=(nodup_iff_all _ _ (by simp) hlt).1 hn j hj
  obtain ⟨y,hy,e⟩:=List.mem_map.1 this
  obtain ⟨i,hi,rfl⟩:=List.getElem_of_mem hy
  exact ⟨i,hi,by rw [getD_eq _ _ _ hi];exact e⟩
theorem ext_getD {α:Type} {a b:List α} (d:α) (hl:a.length=b.length) (h:∀ i,i<a.length→a.getD i d=b.getD i d):a=b:=by
  apply List.ext_getElem hl
  intro i h1 h2
  have:=h i h1
  rwa [getD_eq _ _ _ h1,getD_eq _ _ _ h2] at this
def invI (p:List Int):List Int:=scat (List.replicate p.length 0) p (fun i=>(i:Int)) p.length
def compB (o:Int) (a b:Twist) (i:Nat):Int:=(a.by'.getD i 0+b.by'.getD (a.to.getD i 0).toNat 0).tmod o
def compT (o:Int) (a b:Twist):Twist:=⟨compI a.to b.to,(List.range a.to.length).map (compB o a b)⟩
def compS (ks:List Kind) (a b:List Twist):List Twist:=(List.range ks.length).map fun n=>compT (ks.getD n default).o (a.getD n default) (b.getD n default)
def cellL (base o to by':Int) (j:Nat):List Int:=(List.range j).map fun (i:Nat)=>base+to*o+((i:Int)+by').tmod o
theorem cellL_succ (base o to by':Int) (j:Nat):cellL base o to by' (j+1)=cellL base o to by' j++[base+to*o+((j:Int)+by').tmod o]:=by simp [cellL,List.range_succ]
theorem cellL_len (base o to by':Int) (j:Nat):(cellL base o to by' j).length=j:=by simp [cellL]
def rowL (base o:Int) (t:Twist):Nat→List Int
  | 0=>[]
  | i+1=>rowL base o t i++cellL base o (t.to.getD i 0) (t.by'.getD i 0) o.toNat
theorem rowL_len (base o:Int) (t:Twist):∀ i,(rowL base o t i).length=i*o.toNat
  | 0=>by simp [rowL]
  | i+1=>by rw [rowL,List.length_append,rowL_len base o t i,cellL_len,Nat.succ_mul]
def permL (ks:List Kind) (s:List Twist):Nat→List Int
  | 0=>[]
  | n+1=>permL ks s n++rowL (permL ks s n).length (ks.getD n default).o (s.getD n default) (ks.getD n default).c.toNat
theorem permL_len (ks:List Kind) (s:List Twist) (h:∀ k∈ks,kOk k):∀ n,n≤ks.length→((permL ks s n).length:Int)=facets (ks.take n)
  | 0,_=>by simp [permL,facets]
  | n+1,hn=>by
    have hk:=h _ (mem_getD ks n default (by omega))
    rw [permL,List.length_append,rowL_len,facets_take ks n (by omega),Int.natCast_add,permL_len ks s h n (by omega),Int.natCast_mul,Int.toNat_of_nonneg (by have:=hk.1;omega),Int.toNat_of_nonneg (by have:=hk.2;omega)]
def permOf (ks:List Kind) (s:List Twist):List Int:=permL ks s ks.length
theorem range_succ_map {α:Type} (f:Nat→α) (n:Nat):(List.range (n+1)).map f=(List.range n).map f++[f n]:=by simp [List.range_succ]
theorem range_map_len {α:Type} (f:Nat→α) (n:Nat):((List.range n).map f).length=n:=by simp
theorem range_map_get {α:Type} (f:Nat→α) (n i:Nat) (d:α) (h:i<n):((List.range n).map f).getD i d=f i:=by simp [List.getD,h]
theorem map_getD {α β:Type} (f:α→β) (l:List α) (i:Nat) (d:α) (d':β) (h:i<l.length):(l.map f).getD i d'=f (l.getD i d):=by simp [List.getD,h]
theorem tw_get {ks:List Kind} {s:List Twist} (h:psOk ks s) {n:Nat} (hn:n<ks.length):twOk (ks.getD n default) (s.getD n default):=h.2.2 n hn
theorem twOk_facts {k:Kind} {t:Twist} (h:twOk k t) (hk:kOk k):∃ c o:Nat,k.c=c∧k.o=o∧t.to.length=c∧t.by'.length=c∧1≤c∧c≤20∧1≤o∧o≤20:=by
  obtain ⟨h1,h2,h3,h4⟩:=h
  obtain ⟨h5,h6⟩:=hk
  exact ⟨t.to.length,k.o.toNat,h1.symm,by omega,rfl,by omega,by omega,by omega,by omega,by omega⟩
theorem to_get {k:Kind} {t:Twist} (h:twOk k t) {i:Nat} (hi:i<t.to.length):0≤t.to.getD i 0∧t.to.getD i 0<t.to.length:=h.2.2.1.2.1 _ (mem_getD t.to i 0 hi)
theorem by_get {k:Kind} {t:Twist} (h:twOk k t) {i:Nat} (hi:i<t.by'.length):0≤t.by'.getD i 0∧t.by'.getD i 0<k.o:=h.2.2.2 _ (mem_getD t.by' i 0 hi)
theorem compI_len (p q:List Int):(compI p q).length=p.length:=by simp [compI]
theorem compI_get (p q:List Int) (i:Nat) (h:i<p.length):(compI p q).getD i 0=q.getD (p.getD i 0).toNat 0:=by simp [compI,List.getD,h]
theorem compS_len (ks:List Kind) (a b:List Twist):(compS ks a b).length=ks.length:=by simp [compS]
theorem invI_len (p:List Int):(invI p).length=p.length:=by rw [invI,scat_len];simp
def cbP3:=(ai (ai (ai (cbP2) (@stsize)) (ai (@stget) (@sttl))) (ai (ai (@stapp) (@stext)) (ai (@tsspure) (ai (@Model.sl.eq_1) (@Model.tr.eq_1)))))

end Go.AM
namespace Go.AM
theorem getD_eq' {α:Type} (l:List α) (i:Nat) (d:α) (h:i<l.length):l.getD i d=l[i]:=by simp [List.getD,h]
theorem any_at':∀ p:Path,AV.any.at p=.any
  | []=>rfl
  | ij :: p=>by
    have:AV.any.cellAt ij.1 ij.2=.any:=by simp [AV.cellAt]
    rw [AV.at,this,any_at' p]
theorem trn_at (z:Nat):∀ p:Path,p≠[]→(AV.tr z []).at p=.any
  | [],h=>(h rfl).elim
  | ij :: p,_=>by
    have:(AV.tr z []).cellAt ij.1 ij.2=.any:=by
      simp only [AV.cellAt,List.getD_nil,AV.cells]
      cases ij.2 <;> simp
    rw [AV.at,this,any_at' p]
def St.nilAs (st:St) (d s z:Nat):St:=((st.kill s).setMem s (.tr z [])).put (some d) (.ref s [] z 0 0)
theorem ent_nil (st:St) (d s z:Nat) (h:st.fr d=.nilsl) (hs:6≤s):Ent st (st.nilAs d s z):=by
  rintro N E a w h6 ⟨I,ρ,c⟩
  have c1:=c.kill (ρ':=fun s'=>if s'=s then (fun _=>none) else ρ s') s (fun s' hne=>by simp [hne])
  have hself:(fun s'=>if s'=s then (fun _=>none) else ρ s') s=(fun _=>none:Path→Option Plc):=by simp
  have hno:∀ s' T p k,(((st.kill s).setMem s (.tr z [])).mem s'=some T)→(T.at p).isNode=true→(if s'=s then (fun _=>none) else ρ s') p=some k→s'≠s∧(st.kill s).mem s'=some T:=by
    intro s' T p k hm _ hk
    by_cases e:s'=s
    · subst e;simp at hk
    · simp only [St.setMem,e,if_false] at hm;exact ⟨e,hm⟩
  have hget:∀ s' T,(((st.kill s).setMem s (.tr z [])).mem s'=some T)→(s'=s∧T=.tr z [])∨(s'≠s∧(st.kill s).mem s'=some T):=by
    intro s' T hm
    by_cases e:s'=s
    · subst e;simp only [St.setMem,if_true] at hm;cases hm;exact .inl ⟨rfl,rfl⟩
    · simp only [St.setMem,e,if_false] at hm;exact .inr ⟨e,hm⟩
  refine ⟨I,(fun s'=>if s'=s then (fun _=>none) else ρ s'),⟨c1.held,c1.below,c1.keeps,c1.size,c1.defers,fun i=>?_,⟨fun s' T p hm=>?_,fun s' T p k hm hn hk=>?_,fun s' T p k s'' T' p' k' h1 h2 h3 h4 h5 h7 hb=>?_⟩,fun b hb=>?_,fun i c' T q h1 h2 h3=>?_⟩⟩
  · by_cases e:i=d
    · subst e
      have hr:=c.fr i
      rw [h] at hr
      show Rep I _ ((St.nilAs st i s z).fr i) _
      simp only [St.nilAs,St.put,if_true]
      generalize a.tmps.getD i undef=y at hr
      cases hr with
      | stat q=>cases q;exact .ref0 s [] z 0 none
    · show Rep I _ ((St.nilAs st d s z).fr i) _
      simp only [St.nilAs,St.put,e,if_false]
      exact c1.fr i
  · rcases hget s' T hm with ⟨rfl,rfl⟩ | ⟨e,hm'⟩
    · simp only [if_true]
      by_cases hp:p=[]
      · subst hp;exact .inl ⟨rfl,rfl⟩
      · rw [trn_at z p hp];trivial
    · exact c1.mem.row s' T p hm'
  · exact c1.mem.free s' T p k (hno s' T p k hm hn hk).2 hn hk
  · exact c1.mem.inj s' T p k s'' T' p' k' (hno s' T p k h1 h2 h3).2 h2 h3 (hno s'' T' p' k' h4 h5 h7).2 h5 h7 hb
  · obtain ⟨s',T,p,k,h1,h2,h3,h4⟩:=hb
    exact c1.lo b ⟨s',T,p,k,(hno s' T p k h1 h2 h3).2,h2,h3,h4⟩
  · rcases hget i T h2 with ⟨rfl,rfl⟩ | ⟨e,hm'⟩
    · have:i<E.args.length:=(List.getElem?_eq_some_iff.1 h1).1
      omega
    · exact c1.fix i c' T q h1 hm' h3
theorem awp_loopN {P:Program} {M:FuncId→List Bool} {c:Code} {Q:Exit→St→Prop} {st:St} {l:Lock c} {m:Lock Q} (d s z:Nat) (hd:st.fr d=.nilsl) (hs:6≤s) (J:Nat→St→Prop) (N:Nat) (h0:J 0 (st.nilAs d s z))
    (h:∀ k st1,k≤N→J k st1→AWP P M c (thenQ (fun st'=>k<N∧J (k+1) st') Q) st1):LoopP P M c Q st l m :=
  awp_loopE (st.nilAs d s z) (ent_nil st d s z hd hs) J N h0 h
/-! an owned tree gets another number -/
def St.ren (st:St) (s s':Nat) (T:AV):St:=((st.mapF (moveF s [] s' [])).del s).setMem s' T
theorem ren_eq (st:St) (s s':Nat) (T:AV):st.ren s s' T=((st.mapF (moveF s [] s' [])).del s).setMem s' T:=rfl
theorem ent_ren (st:St) (s s':Nat) (T:AV) (hT:st.mem s=some T) (hs:6≤s) (hs':6≤s') (hne:s≠s'):Ent st (st.ren s s' T):=by
  rintro N E a w h6 ⟨I,ρ,c⟩
  have hget:∀ x X,(st.ren s s' T).mem x=some X→∃ y,st.mem y=some X∧(if x=s' then ρ s else ρ x)=ρ y∧(x=s'∧y=s∨x≠s'∧x≠s∧y=x):=by
    intro x X hx
    simp only [St.ren,St.setMem,St.del,St.mapF] at hx
    by_cases e:x=s'
    · rw [if_pos e] at hx;cases hx;exact ⟨s,hT,by simp [e],.inl ⟨e,rfl⟩⟩
    · rw [if_neg e] at hx
      by_cases e2:x=s
      · rw [if_pos e2] at hx;cases hx
      · rw [if_neg e2] at hx;exact ⟨x,hx,by simp [e],.inr ⟨e,e2,rfl⟩⟩
  refine ⟨I,(fun x=>if x=s' then ρ s else ρ x),?_⟩
  have hsep:Sep I (fun x=>if x=s' then ρ s else ρ x) w (st.ren s s' T).mem:=by
    refine ⟨fun x X p hx=>?_,fun x X p k hx hn hk=>?_,fun x X p k x' X' p' k' h1 h2 h3 h4 h5 h7 hb=>?_⟩
    · obtain ⟨y,h1,h2,_⟩:=hget x X hx
      show NodeOk I ((fun x=>if x=s' then ρ s else ρ x) x) w p (X.at p)
      simp only [h2];exact c.mem.row y X p h1
    · obtain ⟨y,h1,h2,_⟩:=hget x X hx
      simp only [h2] at hk;exact c.mem.free y X p k h1 hn hk
    · obtain ⟨y,k1,k2,k3⟩:=hget x X h1
      obtain ⟨y',j1,j2,j3⟩:=hget x' X' h4
      simp only [k2] at h3;simp only [j2] at h7
      obtain ⟨q1,q2⟩:=c.mem.inj y X p k y' X' p' k' k1 h2 h3 j1 h5 h7 hb
      refine ⟨?_,q2⟩
      rcases k3 with ⟨a1,a2⟩ | ⟨a1,a2,a3⟩ <;> rcases j3 with ⟨b1,b2⟩ | ⟨b1,b2,b3⟩ <;> omega
  refine c.remap (ρ':=fun x=>if x=s' then ρ s else ρ x) (mem':=(st.ren s s' T).mem) (moveF s [] s' []) (fun x p x' p' hf=>?_) c.held (fun _ _ _ h=>h) c.below c.keeps hsep (fun b hb=>?_) (fun i c' X q h1 hX h3=>?_)
  · unfold moveF at hf
    by_cases e:x=s
    · rw [if_pos e] at hf
      have:isPref [] p=true:=by cases p <;> rfl
      rw [this] at hf
      simp only [List.length_nil,List.drop_zero,List.nil_append,Option.some.injEq,Prod.mk.injEq] at hf
      obtain ⟨rfl,rfl⟩:=hf
      simp [e]
    · rw [if_neg e] at hf
      unfold fromF at hf
      by_cases e2:x=s'
      · rw [if_pos e2] at hf
        have:isPref [] p=true:=by cases p <;> rfl
        rw [this] at hf;cases hf
      · rw [if_neg e2] at hf;cases hf;simp [e2]
  · obtain ⟨x,X,p,k,h1,h2,h3,h4⟩:=hb
    obtain ⟨y,k1,k2,_⟩:=hget x X h1
    simp only [k2] at h3
    exact c.lo b ⟨y,X,p,k,k1,h2,h3,h4⟩
  · obtain ⟨y,k1,k2,k3⟩:=hget i X hX
    have hi:i<E.args.length:=(List.getElem?_eq_some_iff.1 h1).1
    rcases k3 with ⟨a1,_⟩ | ⟨a1,a2,a3⟩
    · omega
    · subst a3;simp only [a1,if_false];exact c.fix y c' X q h1 k1 h3
theorem awp_loopR {P:Program} {M:FuncId→List Bool} {c:Code} {Q:Exit→St→Prop} {st:St} {l:Lock c} {m:Lock Q} (s s':Nat) (T:AV) (hT:st.mem s=some T) (hs:6≤s) (hs':6≤s') (hne:s≠s') (J:Nat→St→Prop) (N:Nat) (h0:J 0 (st.ren s s' T))
    (h:∀ k st1,k≤N→J k st1→AWP P M c (thenQ (fun st'=>k<N∧J (k+1) st') Q) st1):LoopP P M c Q st l m :=
  awp_loopE (st.ren s s' T) (ent_ren st s s' T hT hs hs' hne) J N h0 h
def St.nilC (st:St) (s j z w:Nat) (cs:List AV):St:=(st.mapF (fromF s [(0,j)])).setMem s (.pt z (.agg (cs.set j (.tr w []))))
theorem nilC_eq (st:St) (s j z w:Nat) (cs:List AV):st.nilC s j z w cs=(st.mapF (fromF s [(0,j)])).setMem s (.pt z (.agg (cs.set j (.tr w [])))):=rfl
theorem pref1 (j:Nat) (p:Path):isPref [(0,j)] p=true↔∃ q,p=(0,j) :: q:=by
  cases p with
  | nil=>simp [isPref]
  | cons a q =>
    simp only [isPref,Bool.and_true,decide_eq_true_eq]
    constructor
    · rintro ⟨h1,h2⟩;exact ⟨q,by rw [h1,h2]⟩
    · rintro ⟨q',h⟩;cases h;simp
theorem ent_nilC (st:St) (s j z w:Nat) (cs:List AV) (hm:st.mem s=some (.pt z (.agg cs))) (hj:j<cs.length) (hc:cs.getD j .any=.nilsl):Ent st (st.nilC s j z w cs):=by
  rintro N E a wd h6 ⟨I,ρ,c⟩
  have hcj:cs[j]=.nilsl:=by rw [← getD_eq' cs j .any hj];exact hc
  let ρ':Pl:=fun x p=>if x=s∧isPref [(0,j)] p=true then none else ρ x p
  have hρ:∀ x p,¬ (x=s∧isPref [(0,j)] p=true)→ρ' x p=ρ x p:=fun x p h=>if_neg h
  have hρ0:∀ q,ρ' s ((0,j) :: q)=none:=fun q=>if_pos ⟨rfl,(pref1 j _).2 ⟨q,rfl⟩⟩
  have hcell:∀ i' j',¬ (i'=0∧j'=j)→(AV.pt z (.agg (cs.set j (.tr w [])))).cellAt i' j'=(AV.pt z (.agg cs)).cellAt i' j':=by
    intro i' j' hne
    cases i' with
    | zero =>
      show (cs.set j (.tr w [])).getD j' .any=cs.getD j' .any
      simp only [List.getD]
      rw [List.getElem?_set_ne (by rintro rfl;exact hne ⟨rfl,rfl⟩)]
    | succ i'=>rfl
  have hcell0:(AV.pt z (.agg (cs.set j (.tr w [])))).cellAt 0 j=.tr w []:=by
    show (cs.set j (.tr w [])).getD j .any=_
    simp [List.getD,hj]
  have hat:∀ p,(¬ ∃ q,p=(0,j) :: q)→p≠[]→(AV.pt z (.agg (cs.set j (.tr w [])))).at p=(AV.pt z (.agg cs)).at p:=by
    intro p hp hn
    cases p with
    | nil=>exact (hn rfl).elim
    | cons ij q =>
      rw [AV.at,AV.at,hcell ij.1 ij.2]
      rintro ⟨e1,e2⟩;exact hp ⟨q,by rw [← e1,← e2]⟩
  have hat0:∀ q,(AV.pt z (.agg (cs.set j (.tr w [])))).at ((0,j) :: q)=(AV.tr w []).at q:=by
    intro q;rw [AV.at];show ((AV.pt z (.agg (cs.set j (.tr w [])))).cellAt 0 j).at q=_;rw [hcell0]
  have hmem:∀ x X,(st.nilC s j z w cs).mem x=some X→(x=s∧X=.pt z (.agg (cs.set j (.tr w []))))∨(x≠s∧st.mem x=some X):=by
    intro x X hx
    simp only [St.nilC,St.setMem,St.mapF] at hx
    by_cases e:x=s
    · rw [if_pos e] at hx;cases hx;exact .inl ⟨e,rfl⟩
    · rw [if_neg e] at hx;exact .inr ⟨e,hx⟩
  -- a node of the new memory that has a place is a node of the old one
  have hold:∀ x X p k,(st.nilC s j z w cs).mem x=some X→(X.at p).isNode=true→ρ' x p=some k→∃ Y,st.mem x=some Y∧(Y.at p).isNode=true∧ρ x p=some k:=by
    intro x X p k hx hn hk
    rcases hmem x X hx with ⟨rfl,rfl⟩ | ⟨e,hx'⟩
    · by_cases hp:∃ q,p=(0,j) :: q
      · obtain ⟨q,rfl⟩:=hp;rw [hρ0] at hk;cases hk
      · have hk':=hk
        rw [hρ x p (fun h=>hp ((pref1 j p).1 h.2))] at hk'
        by_cases hp0:p=[]
        · subst hp0;exact ⟨_,hm,rfl,hk'⟩
        · rw [hat p hp hp0] at hn;exact ⟨_,hm,hn,hk'⟩
    · rw [hρ x p (fun h=>e h.1)] at hk;exact ⟨X,hx',hn,hk⟩
  have hsep:Sep I ρ' wd (st.nilC s j z w cs).mem:=by
    refine ⟨fun x X p hx=>?_,fun x X p k hx hn hk=>?_,fun x X p k x' X' p' k' h1 h2 h3 h4 h5 h7 hb=>?_⟩
    · rcases hmem x X hx with ⟨rfl,rfl⟩ | ⟨e,hx'⟩
      · by_cases hp:∃ q,p=(0,j) :: q
        · obtain ⟨q,rfl⟩:=hp
          rw [hat0 q]
          cases q with
          | nil=>exact .inl ⟨hρ0 [],rfl⟩
          | cons ij q=>rw [trn_at w (ij :: q) (by simp)];trivial
        · by_cases hp0:p=[]
          · subst hp0
            have hold:=c.mem.row x _ [] hm
            show RowOk I (ρ' x) wd [] z [AV.agg (cs.set j (.tr w []))]
            have hold':RowOk I (ρ x) wd [] z [AV.agg cs]:=hold
            rcases hold' with ⟨_,h⟩ | ⟨k,E',arr,h1,h2,h3,h4,h5,h7,h8⟩
            · cases h
            · refine .inr ⟨k,E',arr,by rw [hρ x [] (fun h=>by cases h.2)];exact h1,h2,h3,h4,h5,h7,fun i hi=>?_⟩
              have hi0:i=0:=by simp at hi;omega
              subst hi0
              obtain ⟨g1,g2⟩:=h8 0 (by simp)
              refine ⟨by simpa [AV.cells] using g1,fun j' hj'=>?_⟩
              have hj2:j'<cs.length:=by simpa [AV.cells] using hj'
              obtain ⟨g3,g4⟩:=g2 j' (by simpa [AV.cells] using hj2)
              refine ⟨?_,g4⟩
              by_cases e:j'=j
              · subst e
                have g3':CellOk I (ρ x ([]++[(0,j')])) (cs[j']) (arr.getD (k.off+0*z+j') undef):=by simpa [AV.cells] using g3
                rw [hcj] at g3'
                have hce:(AV.agg (cs.set j' (.tr w []))).cells[j']=.tr w []:=by simp [AV.cells]
                show CellOk I (ρ' x ([]++[(0,j')])) ((AV.agg (cs.set j' (.tr w []))).cells[j']) _
                rw [hce]
                refine .inl ⟨rfl,.inr ⟨rfl,?_⟩⟩
                rcases g3' with ⟨q,_⟩ | ⟨_,q⟩
                · cases q
                · generalize arr.getD (k.off+0*z+j') undef=y at q ⊢
                  cases q;exact ⟨none,rfl⟩
              · have hce:(AV.agg (cs.set j (.tr w []))).cells[j']=cs[j']:=by
                  simp only [AV.cells];rw [List.getElem_set_ne (fun h=>e h.symm)]
                show CellOk I (ρ' x ([]++[(0,j')])) ((AV.agg (cs.set j (.tr w []))).cells[j']) _
                rw [hce,hρ x _ (fun h=>by obtain ⟨q,hq⟩:=(pref1 j _).1 h.2;simp at hq;exact e hq.1)]
                simpa [AV.cells] using g3
          · rw [hat p hp hp0]
            have:=c.mem.row x _ p hm
            have hp1:∀ q:Path,¬ (x=x∧isPref [(0,j)] (p++q)=true):=by
              rintro q ⟨_,h⟩
              obtain ⟨r,hr⟩:=(pref1 j _).1 h
              cases p with
              | nil=>exact hp0 rfl
              | cons a p=>simp at hr;exact hp ⟨p,by rw [hr.1]⟩
            have hpp:ρ' x p=ρ x p:=by have:=hp1 [];rw [List.append_nil] at this;exact hρ x p this
            generalize (AV.pt z (AV.agg cs)).at p=Y at this ⊢
            cases Y with
            | tr z' es =>
              rcases this with ⟨h1,h2⟩ | ⟨k,E',arr,h1,h2,h3,h4,h5,h7,h8⟩
              · exact .inl ⟨hpp.trans h1,h2⟩
              · exact .inr ⟨k,E',arr,hpp.trans h1,h2,h3,h4,h5,h7,fun i hi=>⟨(h8 i hi).1,fun j' hj'=>by rw [hρ x _ (hp1 _)];exact (h8 i hi).2 j' hj'⟩⟩
            | pt z' y =>
              rcases this with ⟨h1,h2⟩ | ⟨k,E',arr,h1,h2,h3,h4,h5,h7,h8⟩
              · cases h2
              · exact .inr ⟨k,E',arr,hpp.trans h1,h2,h3,h4,h5,h7,fun i hi=>⟨(h8 i hi).1,fun j' hj'=>by rw [hρ x _ (hp1 _)];exact (h8 i hi).2 j' hj'⟩⟩
            | mt kd m=>obtain ⟨k,es,cp,h1,h2⟩:=this;exact ⟨k,es,cp,hpp.trans h1,h2⟩
            | _=>trivial
      · have:ρ' x=ρ x:=by funext p;exact hρ x p (fun h=>e h.1)
        rw [this];exact c.mem.row x X p hx'
    · obtain ⟨Y,k1,k2,k3⟩:=hold x X p k hx hn hk
      exact c.mem.free x Y p k k1 k2 k3
    · obtain ⟨Y,k1,k2,k3⟩:=hold x X p k h1 h2 h3
      obtain ⟨Y',j1,j2,j3⟩:=hold x' X' p' k' h4 h5 h7
      exact c.mem.inj x Y p k x' Y' p' k' k1 k2 k3 j1 j2 j3 hb
  refine ⟨I,ρ',c.remap (ρ':=ρ') (mem':=(st.nilC s j z w cs).mem) (fromF s [(0,j)]) (fun x p x' p' hf=>?_) c.held (fun _ _ _ h=>h) c.below c.keeps hsep (fun b hb=>?_) (fun i c' X q h1 hX h3=>?_)⟩
  · unfold fromF at hf
    by_cases e:x=s
    · rw [if_pos e] at hf
      cases h:isPref [(0,j)] p with
      | true=>rw [h] at hf;cases hf
      | false=>rw [h] at hf;cases hf;exact hρ x p (fun q=>by rw [h] at q;cases q.2)
    · rw [if_neg e] at hf;cases hf;exact hρ x p (fun q=>e q.1)
  · obtain ⟨x,X,p,k,h1,h2,h3,h4⟩:=hb
    obtain ⟨Y,k1,k2,k3⟩:=hold x X p k h1 h2 h3
    exact c.lo b ⟨x,Y,p,k,k1,k2,k3,h4⟩
  · rcases hmem i X hX with ⟨rfl,rfl⟩ | ⟨e,hx'⟩
    · have hq:q=[]:=h3
      subst hq
      rw [hρ i [] (fun h=>by cases h.2)]
      exact c.fix i c' _ [] h1 hm rfl
    · rw [hρ i q (fun h=>e h.1)];exact c.fix i c' X q h1 hx' h3
theorem awp_loopC {P:Program} {M:FuncId→List Bool} {c:Code} {Q:Exit→St→Prop} {st:St} {l:Lock c} {m:Lock Q} (s j z w:Nat) (cs:List AV) (hm:st.mem s=some (.pt z (.agg cs))) (hj:j<cs.length) (hc:cs.getD j .any=.nilsl) (J:Nat→St→Prop) (N:Nat) (h0:J 0 (st.nilC s j z w cs))
    (h:∀ k st1,k≤N→J k st1→AWP P M c (thenQ (fun st'=>k<N∧J (k+1) st') Q) st1):LoopP P M c Q st l m :=
  awp_loopE (st.nilC s j z w cs) (ent_nilC st s j z w cs hm hj hc) J N h0 h
theorem nilAs_eq (st:St) (d s z:Nat):st.nilAs d s z=((st.kill s).setMem s (.tr z [])).put (some d) (.ref s [] z 0 0):=rfl
end Go.AM
set_option maxRecDepth 8000
namespace Go.AM
open Go.Proofs
abbrev smallT (s:List Twist):Prop:=s.length≤1099511627776∧∀ t∈s,t.to.length≤1099511627776∧t.by'.length≤1099511627776
end Go.AM
set_option maxRecDepth 8000
namespace Go.AM
open Go.Proofs
def fewT (s:List Twist):Prop:=s.length≤3∧(∀ t∈s,t.to.length≤20∧t.by'.length≤20)∧cnts s≤120
theorem fewT_of (s:List Twist) (h1:s.length≤3) (h2:∀ t∈s,t.to.length≤20∧t.by'.length≤20):fewT s:=by
  refine ⟨h1,h2,?_⟩
  have:=cnts_bound s 40 (fun t ht=>by have:=h2 t ht;show t.to.length+t.by'.length≤40;omega)
  omega
theorem fewT_small {s:List Twist} (h:fewT s):smallT s:=⟨by have:=h.1;omega,fun t ht=>by have:=h.2.1 t ht;omega⟩
end Go.AM
set_option maxRecDepth 8000
namespace Go.AM
open Go.Proofs
theorem prod_bound {a b:Int} (h1:0≤a) (h2:a≤20) (h3:0≤b) (h4:b≤20):0≤a*b∧a*b≤400:=by
  have:=Int.mul_le_mul h2 h4 h3 (by omega)
  have:=Int.mul_nonneg h1 h3
  omega
theorem natmul_bound {a b:Nat} (h2:a≤20) (h4:b≤20):a*b≤400:=Nat.mul_le_mul h2 h4
theorem permL_le {ks:List Kind} {s:List Twist} (h:kindsOk ks) {n:Nat} (hn:n≤ks.length):(permL ks s n).length≤20:=by
  have:=permL_len ks s h.2.1 n hn
  have:=(facets_mono ks h.2.1 n).1
  have:=h.2.2
  omega
theorem sl21Permutation (ks:List Kind) (s:List Twist) (ps:psOk ks s):SpecAt Try.prog 108 [ksl ks,tsl s] (itr (permOf ks s)):=by
  have hl3:=ps.1.1.2
  have hsl:=ps.2.1
  refine spec_of_awp (M:=MM) (np:=2) (fz:=false) mixed Try.func108 rfl rfl (by decide) rfl (Nat.le_refl _) (by decide +kernel) (.inl rfl) (by first | trivial | simp only [sigsOk_nil,sigsOk_some,sigsOk_none,sig_tr,sig_pt,sig_mt,sig_agg,List.map_cons,List.map_nil,sig1_tr,sig1_pt,sig1_v,and_self,true_and,List.length_map,List.length_set]) ?_
  simp -dsimp -implicitDefEqProofs (disch:=first|omega|(simp only [lenr];try omega)) only [↓amPre,↓reduceIte,reduceCtorEq,Nat.reduceEqDiff,Nat.reduceBEq,Nat.reduceAdd,Nat.reduceLeDiff,Nat.reduceSub,Nat.reduceMul,Int.reduceToNat,MM,bu0,cbP3]
  refine awp_loopR 11 64 (.tr 1 []) (by simp -dsimp -implicitDefEqProofs (disch:=first|omega|(simp only [lenr];try omega)) only [↓amPre,↓reduceIte,reduceCtorEq,Nat.reduceEqDiff,Nat.reduceBEq,Nat.reduceAdd,Nat.reduceLeDiff,Nat.reduceSub,Nat.reduceMul,Int.reduceToNat,MM,bu0,cbP3]) (by decide) (by decide) (by decide) (fun k st=>k≤ks.length∧st.fr 7=.i64 k∧st.fr 0=ksl ks∧st.fr 1=tsl s∧st.fr 6=.i64 (permL ks s k).length∧st.fr 5=.ref 64 [] 1 0 (permL ks s k).length∧st.mem 64=some (itr (permL ks s k))) (ks.length) ?_ ?_
  · simp -dsimp -implicitDefEqProofs (disch:=first|omega|(simp only [lenr];try omega)) only [↓amPre,↓reduceIte,reduceCtorEq,Nat.reduceEqDiff,Nat.reduceBEq,Nat.reduceAdd,Nat.reduceLeDiff,Nat.reduceSub,Nat.reduceMul,Int.reduceToNat,MM,bu0,cbP3,ren_eq]
    simp [permL]
  rintro k st _ ⟨hk,f7,f0,f1,f6,f5,m64⟩
  have hlen:=permL_le (s:=s) ps.1 hk
  by_cases hlt:k<ks.length
  · have hk2:=ps.1.2.1 _ (mem_getD ks k default hlt)
    have ta:=tw_get ps hlt
    obtain ⟨c,o,hc,ho,la,la',c1,c2,o1,o2⟩:=twOk_facts ta hk2
    have hstep:permL ks s (k+1)=permL ks s k++rowL (permL ks s k).length o (s.getD k default) c:=by rw [permL,hc,ho,Int.toNat_natCast]
    generalize hA:s.getD k default=A at ta la la' hstep
    generalize hb:permL ks s k=B at hlen hstep f6 f5 m64
    simp -dsimp -implicitDefEqProofs (disch:=first|omega|(simp only [lenr];try omega)) only [↓amPre,↓reduceIte,reduceCtorEq,Nat.reduceEqDiff,Nat.reduceBEq,Nat.reduceAdd,Nat.reduceLeDiff,Nat.reduceSub,Nat.reduceMul,Int.reduceToNat,MM,bu0,cbP3,f7,f0,f1,f6,f5,m64,hA,hc,ho]
    refine awp_loop (fun i st=>i≤c∧st.fr 9=.i64 i∧st.fr 8=.i64 o∧st.fr 7=.i64 k∧st.fr 0=ksl ks∧st.fr 1=tsl s∧st.fr 6=.i64 B.length∧st.fr 5=.ref 64 [] 1 0 (B++rowL B.length o A i).length∧st.mem 64=some (itr (B++rowL B.length o A i))) (c) ?_ ?_
    · simp -dsimp -implicitDefEqProofs (disch:=first|omega|(simp only [lenr];try omega)) only [↓amPre,↓reduceIte,reduceCtorEq,Nat.reduceEqDiff,Nat.reduceBEq,Nat.reduceAdd,Nat.reduceLeDiff,Nat.reduceSub,Nat.reduceMul,Int.reduceToNat,MM,bu0,cbP3,f7,f0,f1,f6,f5,m64,rowL]
      simp
    rintro i st _ ⟨hi,f9,f8,f7,f0,f1,f6,f5,m64⟩
    have hrl:=rowL_len B.length o A i
    rw [Int.toNat_natCast] at hrl
    have hio:=natmul_bound (show i≤20 by omega) o2
    by_cases hlt':i<c
    · have hx:=to_get ta (show i<A.to.length by omega)
      have hy:=by_get ta (show i<A.by'.length by omega)
      have hxo:=prod_bound hx.1 (show A.to.getD i 0≤20 by omega) (show (0:Int)≤o by omega) (by omega)
      simp -dsimp -implicitDefEqProofs (disch:=first|omega|(simp only [lenr];try omega)) only [↓amPre,↓reduceIte,reduceCtorEq,Nat.reduceEqDiff,Nat.reduceBEq,Nat.reduceAdd,Nat.reduceLeDiff,Nat.reduceSub,Nat.reduceMul,Int.reduceToNat,MM,bu0,cbP3,f9,f8,f7,f0,f1,f6,f5,m64,hA,hc,ho]
      refine awp_loop (fun j st=>j≤o∧st.fr 10=.i64 j∧st.fr 9=.i64 i∧st.fr 8=.i64 o∧st.fr 7=.i64 k∧st.fr 0=ksl ks∧st.fr 1=tsl s∧st.fr 6=.i64 B.length∧st.fr 5=.ref 64 [] 1 0 (B++rowL B.length o A i++cellL B.length o (A.to.getD i 0) (A.by'.getD i 0) j).length∧st.mem 64=some (itr (B++rowL B.length o A i++cellL B.length o (A.to.getD i 0) (A.by'.getD i 0) j))) (o) ?_ ?_
      · simp -dsimp -implicitDefEqProofs (disch:=first|omega|(simp only [lenr];try omega)) only [↓amPre,↓reduceIte,reduceCtorEq,Nat.reduceEqDiff,Nat.reduceBEq,Nat.reduceAdd,Nat.reduceLeDiff,Nat.reduceSub,Nat.reduceMul,Int.reduceToNat,MM,bu0,cbP3,f9,f8,f7,f0,f1,f6,f5,m64,cellL,hrl]
        simp
      rintro j st _ ⟨hj,f10,f9,f8,f7,f0,f1,f6,f5,m64⟩
      have hcl:=cellL_len B.length o (A.to.getD i 0) (A.by'.getD i 0) j
      have hll:(B++rowL B.length o A i++cellL B.length o (A.to.getD i 0) (A.by'.getD i 0) j).length=B.length+i*o+j:=by simp only [List.length_append,hrl,hcl]
      by_cases hlt'':j<o
      · have hcs:=cellL_succ B.length o (A.to.getD i 0) (A.by'.getD i 0) j
        have hm1:=Int.tmod_nonneg (o:Int) (show (0:Int)≤j+A.by'.getD i 0 by omega)
        have hm2:=Int.tmod_lt_of_pos (j+A.by'.getD i 0) (show (0:Int)<o by omega)
        have hll2:(B++rowL B.length o A i++cellL B.length o (A.to.getD i 0) (A.by'.getD i 0) (j+1)).length=B.length+i*o+j+1:=by simp only [List.length_append,hrl,cellL_len];omega
        rw [hll] at f5
        have happ:B++rowL B.length o A i++cellL B.length o (A.to.getD i 0) (A.by'.getD i 0) j++[(B.length:Int)+A.to.getD i 0*o+((j:Int)+A.by'.getD i 0).tmod o]=B++rowL B.length o A i++cellL B.length o (A.to.getD i 0) (A.by'.getD i 0) (j+1):=by rw [hcs];simp only [List.append_assoc]
        simp -dsimp -implicitDefEqProofs (disch:=first|omega|(simp only [lenr];try omega)) only [↓amPre,↓reduceIte,reduceCtorEq,Nat.reduceEqDiff,Nat.reduceBEq,Nat.reduceAdd,Nat.reduceLeDiff,Nat.reduceSub,Nat.reduceMul,Int.reduceToNat,MM,bu0,cbP3,f10,f9,f8,f7,f0,f1,f6,f5,m64,hA,hll,hll2,happ]
        repeat' (first|omega|rfl|exact i64c (by omega)|exact vic (by omega)|apply ai)
      · have hje:j=o:=by omega
        subst hje
        have hrs:rowL B.length j A (i+1)=rowL B.length j A i++cellL B.length j (A.to.getD i 0) (A.by'.getD i 0) j:=by rw [rowL,Int.toNat_natCast]
        rw [List.append_assoc,← hrs] at f5 m64
        simp -dsimp -implicitDefEqProofs (disch:=first|omega|(simp only [lenr];try omega)) only [↓amPre,↓reduceIte,reduceCtorEq,Nat.reduceEqDiff,Nat.reduceBEq,Nat.reduceAdd,Nat.reduceLeDiff,Nat.reduceSub,Nat.reduceMul,Int.reduceToNat,MM,bu0,cbP3,f10,f9,f8,f7,f0,f1,f6,f5,m64]
        repeat' (first|omega|rfl|exact i64c (by omega)|exact vic (by omega)|apply ai)
    · have hie:i=c:=by omega
      subst hie
      rw [← hstep] at f5 m64
      have hlen2:(permL ks s (k+1)).length=B.length+i*o:=by rw [hstep,List.length_append,hrl]
      have hco:((i*o:Nat):Int)=(i:Int)*o:=by simp
      have hwr:IntKind.i64.wrap ((i:Int)*o)=((i*o:Nat):Int):=by rw [← hco];exact wrap64_id (by omega)
      simp -dsimp -implicitDefEqProofs (disch:=first|omega|(simp only [lenr];try omega)) only [↓amPre,↓reduceIte,reduceCtorEq,Nat.reduceEqDiff,Nat.reduceBEq,Nat.reduceAdd,Nat.reduceLeDiff,Nat.reduceSub,Nat.reduceMul,Int.reduceToNat,MM,bu0,cbP3,f9,f8,f7,f0,f1,f6,f5,m64,hc,ho,hwr]
      refine ⟨hlt,hlt,?_⟩
      rw [hlen2]
      simp
  · have hke:k=ks.length:=by omega
    subst hke
    simp -dsimp -implicitDefEqProofs (disch:=first|omega|(simp only [lenr];try omega)) only [↓amPre,↓reduceIte,reduceCtorEq,Nat.reduceEqDiff,Nat.reduceBEq,Nat.reduceAdd,Nat.reduceLeDiff,Nat.reduceSub,Nat.reduceMul,Int.reduceToNat,MM,bu0,cbP3,f7,f0,f1,f6,f5,m64]
    rfl
end Go.AM
set_option maxRecDepth 8000
namespace Go.AM
open Go.Proofs
def permR (ks:List Kind) (s:List Twist):List Int:=if psOk ks s then permOf ks s else []
theorem permOf_le {ks:List Kind} {s:List Twist} (ps:psOk ks s):(permOf ks s).length≤20:=permL_le ps.1 (Nat.le_refl _)
theorem sPiecesToPerm (ks:List Kind) (s:List Twist) (h1:ks.length≤1099511627776) (ha:smallT s):SpecAt Try.prog 76 [ksl ks,tsl s] (.tup [itr (permR ks s),.bl (decide (psOk ks s))]):=by
  refine spec_of_awp (M:=MM) (np:=2) (fz:=false) mixed Try.func76 rfl rfl (by decide) rfl (Nat.le_refl _) (by decide +kernel) (.inl rfl) (by first | trivial | simp only [sigsOk_nil,sigsOk_some,sigsOk_none,sig_tr,sig_pt,sig_mt,sig_agg,List.map_cons,List.map_nil,sig1_tr,sig1_pt,sig1_v,and_self,true_and,List.length_map,List.length_set]) ?_
  simp -dsimp -implicitDefEqProofs (disch:=first|omega|(simp only [lenr];try omega)) only [↓amPre,↓reduceIte,reduceCtorEq,Nat.reduceEqDiff,Nat.reduceBEq,Nat.reduceAdd,Nat.reduceLeDiff,Nat.reduceSub,Nat.reduceMul,Int.reduceToNat,MM,bu0,cbP3]
  refine callP_of (sIsPieceState ks s h1 ha.1 ha.2) ?_
  by_cases pa:psOk ks s
  · have hR:permR ks s=permOf ks s:=if_pos pa
    simp -dsimp -implicitDefEqProofs (disch:=first|omega|(simp only [lenr];try omega)) only [↓amPre,↓reduceIte,reduceCtorEq,Nat.reduceEqDiff,Nat.reduceBEq,Nat.reduceAdd,Nat.reduceLeDiff,Nat.reduceSub,Nat.reduceMul,Int.reduceToNat,MM,bu0,cbP3,pa]
    refine callP_of (sl21Permutation ks s pa) ?_
    simp -dsimp -implicitDefEqProofs (disch:=first|omega|(simp only [lenr];try omega)) only [↓amPre,↓reduceIte,reduceCtorEq,Nat.reduceEqDiff,Nat.reduceBEq,Nat.reduceAdd,Nat.reduceLeDiff,Nat.reduceSub,Nat.reduceMul,Int.reduceToNat,MM,bu0,cbP3,hR,pa]
  · have hR:permR ks s=[]:=if_neg pa
    simp -dsimp -implicitDefEqProofs (disch:=first|omega|(simp only [lenr];try omega)) only [↓amPre,↓reduceIte,reduceCtorEq,Nat.reduceEqDiff,Nat.reduceBEq,Nat.reduceAdd,Nat.reduceLeDiff,Nat.reduceSub,Nat.reduceMul,Int.reduceToNat,MM,bu0,cbP3,pa,hR]
end Go.AM
set_option maxRecDepth 8000
namespace Go.AM
open Go.Proofs
def sumI:List Int→Int
  | []=>0
  | x :: r=>x+sumI r
theorem sumI_append:∀ a b:List Int,sumI (a++b)=sumI a+sumI b
  | [],b=>by simp [sumI]
  | x :: r,b=>by simp only [List.cons_append,sumI,sumI_append r b];omega
theorem sumI_take (l:List Int) (i:Nat) (h:i<l.length):sumI (l.take (i+1))=sumI (l.take i)+l.getD i 0:=by
  rw [take_succ_eq l i 0 h,sumI_append];simp [sumI]
theorem sumI_bound:∀ (l:List Int) (b:Int),(∀ x∈l,0≤x∧x≤b)→0≤sumI l∧sumI l≤b*l.length
  | [],_,_=>by simp [sumI]
  | x :: r,b,h=>by
    have h1:=sumI_bound r b fun y hy=>h y (by simp [hy])
    have h2:=h x (by simp)
    have e:b*((x :: r).length:Int)=b*r.length+b:=by simp [Int.mul_add]
    rw [e];simp only [sumI];omega
theorem by_sum {k:Kind} {t:Twist} (h:twOk k t) (hk:kOk k) (i:Nat):0≤sumI (t.by'.take i)∧sumI (t.by'.take i)≤400:=by
  obtain ⟨c,o,hc,ho,la,la',c1,c2,o1,o2⟩:=twOk_facts h hk
  have h1:=sumI_bound (t.by'.take i) 20 fun x hx=>by have:=h.2.2.2 x (List.mem_of_mem_take hx);omega
  have:(t.by'.take i).length≤20:=by simp;omega
  omega
def twS (k:Kind) (t:Twist):Int:=(sumI t.by').tmod k.o
theorem sl22Twist (k:Kind) (t:Twist) (hk:kOk k) (h:twOk k t):SpecAt Try.prog 170 [k.av,t.sl] (.i64 (twS k t)):=by
  obtain ⟨c,o,hc,ho,la,la',c1,c2,o1,o2⟩:=twOk_facts h hk
  refine spec_of_awp (M:=MM) (np:=2) (fz:=true) mixed Try.func170 rfl rfl (by decide) rfl (Nat.le_refl _) (by decide +kernel) (.inr ⟨rfl,rfl⟩) trivial ?_
  simp -dsimp -implicitDefEqProofs (disch:=first|omega|(simp only [lenr];try omega)) only [↓amPre,↓reduceIte,reduceCtorEq,Nat.reduceEqDiff,Nat.reduceBEq,Nat.reduceAdd,Nat.reduceLeDiff,Nat.reduceSub,Nat.reduceMul,Int.reduceToNat,MM,bu0,cbP3]
  refine awp_loop (fun j st=>j≤c∧st.fr 6=.i64 j∧st.fr 5=.i64 (sumI (t.by'.take j))∧st.fr 2=.loc 2 [] 0 0∧st.fr 3=.loc 3 [] 0 0∧st.mem 2=some (.pt 2 k.av)∧st.mem 3=some (.pt 2 (.agg [isl t.to,isl t.by']))) (c) ?_ ?_
  · simp -dsimp -implicitDefEqProofs (disch:=first|omega|(simp only [lenr];try omega)) only [↓amPre,↓reduceIte,reduceCtorEq,Nat.reduceEqDiff,Nat.reduceBEq,Nat.reduceAdd,Nat.reduceLeDiff,Nat.reduceSub,Nat.reduceMul,Int.reduceToNat,MM,bu0,cbP3]
    simp [sumI]
  rintro j st _ ⟨hj,f6,f5,f2,f3,m2,m3⟩
  have hb:=by_sum h hk j
  by_cases hlt:j<c
  · have hs:=sumI_take t.by' j (by omega)
    have hy:=by_get h (show j<t.by'.length by omega)
    simp -dsimp -implicitDefEqProofs (disch:=first|omega|(simp only [lenr];try omega)) only [↓amPre,↓reduceIte,reduceCtorEq,Nat.reduceEqDiff,Nat.reduceBEq,Nat.reduceAdd,Nat.reduceLeDiff,Nat.reduceSub,Nat.reduceMul,Int.reduceToNat,MM,bu0,cbP3,f6,f5,f2,f3,m2,m3,← hs]
    repeat' (first|omega|rfl|exact i64c (by omega)|exact vic (by omega)|apply ai)
  · have hje:j=c:=by omega
    subst hje
    rw [← la',List.take_length] at f5
    simp -dsimp -implicitDefEqProofs (disch:=first|omega|(simp only [lenr];try omega)) only [↓amPre,↓reduceIte,reduceCtorEq,Nat.reduceEqDiff,Nat.reduceBEq,Nat.reduceAdd,Nat.reduceLeDiff,Nat.reduceSub,Nat.reduceMul,Int.reduceToNat,MM,bu0,cbP3,f6,f5,f2,f3,m2,m3,twS]
theorem itwistSum (ks:List Kind) (s:List Twist) (n:Nat) (ps:psOk ks s) (hn:n<ks.length):SpecAt Try.prog 179 [ksl ks,tsl s,.i64 n] (.i64 (twS (ks.getD n default) (s.getD n default))):=by
  have hl3:=ps.1.1.2
  have hsl:=ps.2.1
  have hk:=ps.1.2.1 _ (mem_getD ks n default hn)
  have h:=tw_get ps hn
  obtain ⟨c,o,hc,ho,la,la',c1,c2,o1,o2⟩:=twOk_facts h hk
  refine spec_of_awp (M:=MM) (np:=3) (fz:=true) mixed Try.func179 rfl rfl (by decide) rfl (Nat.le_refl _) (by decide +kernel) (.inr ⟨rfl,rfl⟩) trivial ?_
  simp -dsimp -implicitDefEqProofs (disch:=first|omega|(simp only [lenr];try omega)) only [↓amPre,↓reduceIte,reduceCtorEq,Nat.reduceEqDiff,Nat.reduceBEq,Nat.reduceAdd,Nat.reduceLeDiff,Nat.reduceSub,Nat.reduceMul,Int.reduceToNat,MM,bu0,cbP3]
  refine awp_loop (fun j st=>j≤c∧st.fr 16=.i64 j∧st.fr 15=.i64 c∧st.fr 14=isl (s.getD n default).by'∧st.fr 7=.i64 (sumI ((s.getD n default).by'.take j))∧st.fr 0=ksl ks∧st.fr 2=.i64 n) (c) ?_ ?_
  · simp -dsimp -implicitDefEqProofs (disch:=first|omega|(simp only [lenr];try omega)) only [↓amPre,↓reduceIte,reduceCtorEq,Nat.reduceEqDiff,Nat.reduceBEq,Nat.reduceAdd,Nat.reduceLeDiff,Nat.reduceSub,Nat.reduceMul,Int.reduceToNat,MM,bu0,cbP3,la']
    simp [sumI]
  rintro j st _ ⟨hj,f16,f15,f14,f7,f0,f2⟩
  have hb:=by_sum h hk j
  by_cases hlt:j<c
  · have hs:=sumI_take (s.getD n default).by' j (by omega)
    have hy:=by_get h (show j<(s.getD n default).by'.length by omega)
    simp -dsimp -implicitDefEqProofs (disch:=first|omega|(simp only [lenr];try omega)) only [↓amPre,↓reduceIte,reduceCtorEq,Nat.reduceEqDiff,Nat.reduceBEq,Nat.reduceAdd,Nat.reduceLeDiff,Nat.reduceSub,Nat.reduceMul,Int.reduceToNat,MM,bu0,cbP3,f16,f15,f14,f7,f0,f2,← hs]
    repeat' (first|omega|rfl|exact i64c (by omega)|exact vic (by omega)|apply ai)
  · have hje:j=c:=by omega
    subst hje
    rw [← la',List.take_length] at f7
    simp -dsimp -implicitDefEqProofs (disch:=first|omega|(simp only [lenr];try omega)) only [↓amPre,↓reduceIte,reduceCtorEq,Nat.reduceEqDiff,Nat.reduceBEq,Nat.reduceAdd,Nat.reduceLeDiff,Nat.reduceSub,Nat.reduceMul,Int.reduceToNat,MM,bu0,cbP3,f16,f15,f14,f7,f0,f2,twS]
def twR (ks:List Kind) (s:List Twist) (n:Int):Int:=if psOk ks s∧0≤n∧n<ks.length then twS (ks.getD n.toNat default) (s.getD n.toNat default) else -1
theorem itwistSumR (ks:List Kind) (s:List Twist) (n:Int) (h1:ks.length≤1099511627776) (ha:smallT s):SpecAt Try.prog 90 [ksl ks,tsl s,.i64 n] (.i64 (twR ks s n)):=by
  refine spec_of_awp (M:=MM) (np:=3) (fz:=true) mixed Try.func90 rfl rfl (by decide) rfl (Nat.le_refl _) (by decide +kernel) (.inr ⟨rfl,rfl⟩) trivial ?_
  simp -dsimp -implicitDefEqProofs (disch:=first|omega|(simp only [lenr];try omega)) only [↓amPre,↓reduceIte,reduceCtorEq,Nat.reduceEqDiff,Nat.reduceBEq,Nat.reduceAdd,Nat.reduceLeDiff,Nat.reduceSub,Nat.reduceMul,Int.reduceToNat,MM,bu0,cbP3]
  refine callP_of (iIsPieceState ks s h1 ha.1 ha.2) ?_
  by_cases ps:psOk ks s
  case neg =>
    have hR:twR ks s n = -1:=if_neg fun h=>ps h.1
    simp -dsimp -implicitDefEqProofs (disch:=first|omega|(simp only [lenr];try omega)) only [↓amPre,↓reduceIte,reduceCtorEq,Nat.reduceEqDiff,Nat.reduceBEq,Nat.reduceAdd,Nat.reduceLeDiff,Nat.reduceSub,Nat.reduceMul,Int.reduceToNat,MM,bu0,cbP3,ps,hR]
  simp -dsimp -implicitDefEqProofs (disch:=first|omega|(simp only [lenr];try omega)) only [↓amPre,↓reduceIte,reduceCtorEq,Nat.reduceEqDiff,Nat.reduceBEq,Nat.reduceAdd,Nat.reduceLeDiff,Nat.reduceSub,Nat.reduceMul,Int.reduceToNat,MM,bu0,cbP3,ps]
  refine callP_of (lenK ks) ?_
  simp -dsimp -implicitDefEqProofs (disch:=first|omega|(simp only [lenr];try omega)) only [↓amPre,↓reduceIte,reduceCtorEq,Nat.reduceEqDiff,Nat.reduceBEq,Nat.reduceAdd,Nat.reduceLeDiff,Nat.reduceSub,Nat.reduceMul,Int.reduceToNat,MM,bu0,cbP3,ps]
  refine callP_of (iwithin _ _ _) ?_
  by_cases c:0≤n∧n<ks.length
  · have hR:twR ks s n=_:=if_pos ⟨ps,c⟩
    have w:within n 0 (ks.length - 1)=true:=within_iff.2 (by omega)
    obtain ⟨m,rfl⟩:∃ m:Nat,n=m:=⟨n.toNat,by omega⟩
    simp -dsimp -implicitDefEqProofs (disch:=first|omega|(simp only [lenr];try omega)) only [↓amPre,↓reduceIte,reduceCtorEq,Nat.reduceEqDiff,Nat.reduceBEq,Nat.reduceAdd,Nat.reduceLeDiff,Nat.reduceSub,Nat.reduceMul,Int.reduceToNat,MM,bu0,cbP3,ps,w]
    refine callP_of (itwistSum ks s m ps (by omega)) ?_
    simp -dsimp -implicitDefEqProofs (disch:=first|omega|(simp only [lenr];try omega)) only [↓amPre,↓reduceIte,reduceCtorEq,Nat.reduceEqDiff,Nat.reduceBEq,Nat.reduceAdd,Nat.reduceLeDiff,Nat.reduceSub,Nat.reduceMul,Int.reduceToNat,MM,bu0,cbP3,hR,Int.toNat_natCast]
  · have hR:twR ks s n = -1:=if_neg fun h=>c h.2
    have w:within n 0 (ks.length - 1)=false:=within_not.2 (by omega)
    simp -dsimp -implicitDefEqProofs (disch:=first|omega|(simp only [lenr];try omega)) only [↓amPre,↓reduceIte,reduceCtorEq,Nat.reduceEqDiff,Nat.reduceBEq,Nat.reduceAdd,Nat.reduceLeDiff,Nat.reduceSub,Nat.reduceMul,Int.reduceToNat,MM,bu0,cbP3,ps,w,hR]
theorem stwistSumR (ks:List Kind) (s:List Twist) (n:Int) (h1:ks.length≤1099511627776) (ha:smallT s):SpecAt Try.prog 168 [ksl ks,tsl s,.i64 n] (.i64 (twR ks s n)):=by
  refine spec_of_awp (M:=MM) (np:=3) (fz:=true) mixed Try.func168 rfl rfl (by decide) rfl (Nat.le_refl _) (by decide +kernel) (.inr ⟨rfl,rfl⟩) trivial ?_
  simp -dsimp -implicitDefEqProofs (disch:=first|omega|(simp only [lenr];try omega)) only [↓amPre,↓reduceIte,reduceCtorEq,Nat.reduceEqDiff,Nat.reduceBEq,Nat.reduceAdd,Nat.reduceLeDiff,Nat.reduceSub,Nat.reduceMul,Int.reduceToNat,MM,bu0,cbP3]
  refine callP_of (sIsPieceState ks s h1 ha.1 ha.2) ?_
  by_cases ps:psOk ks s
  case neg =>
    have hR:twR ks s n = -1:=if_neg fun h=>ps h.1
    simp -dsimp -implicitDefEqProofs (disch:=first|omega|(simp only [lenr];try omega)) only [↓amPre,↓reduceIte,reduceCtorEq,Nat.reduceEqDiff,Nat.reduceBEq,Nat.reduceAdd,Nat.reduceLeDiff,Nat.reduceSub,Nat.reduceMul,Int.reduceToNat,MM,bu0,cbP3,ps,hR]
  simp -dsimp -implicitDefEqProofs (disch:=first|omega|(simp only [lenr];try omega)) only [↓amPre,↓reduceIte,reduceCtorEq,Nat.reduceEqDiff,Nat.reduceBEq,Nat.reduceAdd,Nat.reduceLeDiff,Nat.reduceSub,Nat.reduceMul,Int.reduceToNat,MM,bu0,cbP3,ps]
  refine callP_of (inRange _ _ _) ?_
  by_cases c:0≤n∧n<ks.length
  · have hR:twR ks s n=_:=if_pos ⟨ps,c⟩
    have w:within n 0 (ks.length - 1)=true:=within_iff.2 (by omega)
    obtain ⟨m,rfl⟩:∃ m:Nat,n=m:=⟨n.toNat,by omega⟩
    have hsl:=ps.2.1
    simp -dsimp -implicitDefEqProofs (disch:=first|omega|(simp only [lenr];try omega)) only [↓amPre,↓reduceIte,reduceCtorEq,Nat.reduceEqDiff,Nat.reduceBEq,Nat.reduceAdd,Nat.reduceLeDiff,Nat.reduceSub,Nat.reduceMul,Int.reduceToNat,MM,bu0,cbP3,ps,w]
    refine callP_of (sl22Twist (ks.getD m default) (s.getD m default) (ps.1.2.1 _ (mem_getD ks m default (by omega))) (tw_get ps (by omega))) ?_
    simp -dsimp -implicitDefEqProofs (disch:=first|omega|(simp only [lenr];try omega)) only [↓amPre,↓reduceIte,reduceCtorEq,Nat.reduceEqDiff,Nat.reduceBEq,Nat.reduceAdd,Nat.reduceLeDiff,Nat.reduceSub,Nat.reduceMul,Int.reduceToNat,MM,bu0,cbP3,hR,Int.toNat_natCast]
  · have hR:twR ks s n = -1:=if_neg fun h=>c h.2
    have w:within n 0 (ks.length - 1)=false:=within_not.2 (by omega)
    simp -dsimp -implicitDefEqProofs (disch:=first|omega|(simp only [lenr];try omega)) only [↓amPre,↓reduceIte,reduceCtorEq,Nat.reduceEqDiff,Nat.reduceBEq,Nat.reduceAdd,Nat.reduceLeDiff,Nat.reduceSub,Nat.reduceMul,Int.reduceToNat,MM,bu0,cbP3,ps,w,hR]
end Go.AM
namespace Go.AM
/-! cycles,plainly -/
def itN (f:Nat→Nat):Nat→Nat→Nat
  | 0,x=>x
  | k+1,x=>f (itN f k x)
theorem itN_add (f:Nat→Nat) (a:Nat):∀ b x,itN f (a+b) x=itN f b (itN f a x)
  | 0,_=>rfl
  | b+1,x=>by rw [← Nat.add_assoc,itN,itN,itN_add f a b x]
structure PermF (n:Nat) (f:Nat→Nat):Prop where
  lt:∀ x,x<n→f x<n
  inj:∀ x y,x<n→y<n→f x=f y→x=y
section
variable {n:Nat} {f:Nat→Nat}
theorem PermF.itlt (h:PermF n f):∀ k x,x<n→itN f k x<n
  | 0,_,hx=>hx
  | k+1,x,hx=>h.lt _ (h.itlt k x hx)
theorem PermF.itinj (h:PermF n f):∀ k x y,x<n→y<n→itN f k x=itN f k y→x=y
  | 0,_,_,_,_,e=>e
  | k+1,x,y,hx,hy,e=>h.itinj k x y hx hy (h.inj _ _ (h.itlt k x hx) (h.itlt k y hy) e)
theorem pigeon (g:Nat→Nat) (hg:∀ i,i≤n→g i<n):∃ i j,i<j∧j≤n∧g i=g j:=by
  apply Classical.byContradiction
  intro hno
  have hn:((List.range (n+1)).map g).Nodup:=by
    rw [List.Nodup,List.pairwise_map]
    refine List.Pairwise.imp_of_mem ?_ (List.nodup_range (n:=n+1))
    intro a b ha hb hab e
    rw [List.mem_range] at ha hb
    rcases Nat.lt_or_gt_of_ne hab with hlt | hlt
    · exact hno ⟨a,b,hlt,by omega,e⟩
    · exact hno ⟨b,a,hlt,by omega,e.symm⟩
  have:=len_le_of_sub _ (List.range n) hn fun x hx=>by
    obtain ⟨i,hi,rfl⟩:=List.mem_map.1 hx
    rw [List.mem_range] at hi ⊢
    exact hg i (by omega)
  simp at this
  omega
theorem PermF.back (h:PermF n f) (x:Nat) (hx:x<n):∃ k,1≤k∧k≤n∧itN f k x=x:=by
  obtain ⟨i,j,hij,hj,e⟩:=pigeon (n:=n) (fun i=>itN f i x) (fun i _=>h.itlt i x hx)
  refine ⟨j - i,by omega,by omega,?_⟩
  have e2:j=(j - i)+i:=by omega
  rw [e2,itN_add] at e
  exact (h.itinj i _ _ hx (h.itlt _ _ hx) e).symm
def perN (n:Nat) (f:Nat→Nat) (x:Nat):Nat:=((List.range n).find? fun k=>itN f (k+1) x == x).getD 0+1
theorem PermF.per (h:PermF n f) (x:Nat) (hx:x<n):1≤perN n f x∧perN n f x≤n∧itN f (perN n f x) x=x∧∀ k,1≤k→k<perN n f x→itN f k x≠x:=by
  unfold perN
  cases e:(List.range n).find? fun k=>itN f (k+1) x == x with
  | none =>
    obtain ⟨k,h1,h2,h3⟩:=h.back x hx
    rw [List.find?_eq_none] at e
    have:=e (k - 1) (List.mem_range.2 (by omega))
    rw [show k - 1+1=k by omega] at this
    simp [h3] at this
  | some k =>
    rw [List.find?_range_eq_some] at e
    obtain ⟨h1,h2,h3⟩:=e
    simp only [Option.getD_some]
    simp at h1
    rw [List.mem_range] at h2
    refine ⟨by omega,by omega,h1,fun j hj1 hj2=>?_⟩
    have:=h3 (j - 1) (by omega)
    rw [show j - 1+1=j by omega] at this
    simpa using this
def orbN (n:Nat) (f:Nat→Nat) (x:Nat):List Nat:=(List.range (perN n f x)).map fun i=>itN f i x
theorem orbN_len (x:Nat):(orbN n f x).length=perN n f x:=by simp [orbN]
theorem PermF.itmod (h:PermF n f) (x:Nat) (hx:x<n):∀ m k,itN f (k+m*perN n f x) x=itN f k x
  | 0,k=>by simp
  | m+1,k=>by
    have e:k+(m+1)*perN n f x=perN n f x+(k+m*perN n f x):=by rw [Nat.succ_mul];omega
    rw [e,itN_add,(h.per x hx).2.2.1,h.itmod x hx m k]
theorem PermF.mem_orb (h:PermF n f) (x:Nat) (hx:x<n) (y:Nat):y∈orbN n f x↔∃ k,itN f k x=y:=by
  unfold orbN
  rw [List.mem_map]
  constructor
  · rintro ⟨k,_,e⟩;exact ⟨k,e⟩
  · rintro ⟨k,e⟩
    have hp:=(h.per x hx).1
    refine ⟨k % perN n f x,List.mem_range.2 (Nat.mod_lt _ (by omega)),?_⟩
    have:=h.itmod x hx (k / perN n f x) (k % perN n f x)
    rw [Nat.mul_comm,Nat.mod_add_div] at this
    rw [← this];exact e
theorem PermF.orb_lt (h:PermF n f) (x:Nat) (hx:x<n) (y:Nat) (hy:y∈orbN n f x):y<n:=by
  obtain ⟨k,rfl⟩:=(h.mem_orb x hx y).1 hy;exact h.itlt k x hx
theorem PermF.orb_self (h:PermF n f) (x:Nat) (hx:x<n):x∈orbN n f x:=(h.mem_orb x hx x).2 ⟨0,rfl⟩
theorem PermF.orb_symm (h:PermF n f) (x:Nat) (hx:x<n) (y:Nat) (hy:y∈orbN n f x):x∈orbN n f y:=by
  have hyn:=h.orb_lt x hx y hy
  unfold orbN at hy
  obtain ⟨k,hk,rfl⟩:=List.mem_map.1 hy
  have hk':=List.mem_range.1 hk
  refine (h.mem_orb _ hyn x).2 ⟨perN n f x - k,?_⟩
  rw [← itN_add,show k+(perN n f x - k)=perN n f x by omega,(h.per x hx).2.2.1]
theorem PermF.orb_trans (h:PermF n f) (x y z:Nat) (hx:x<n) (hy:y∈orbN n f x) (hz:z∈orbN n f y):z∈orbN n f x:=by
  have hyn:=h.orb_lt x hx y hy
  obtain ⟨k,rfl⟩:=(h.mem_orb x hx y).1 hy
  obtain ⟨m,rfl⟩:=(h.mem_orb _ hyn z).1 hz
  exact (h.mem_orb x hx _).2 ⟨k+m,by rw [itN_add]⟩
theorem PermF.orb_nodup (h:PermF n f) (x:Nat) (hx:x<n):(orbN n f x).Nodup:=by
  unfold orbN
  rw [List.Nodup,List.pairwise_map]
  refine List.Pairwise.imp_of_mem ?_ (List.nodup_range (n:=perN n f x))
  have key:∀ a b,a<b→b<perN n f x→itN f a x=itN f b x→False:=by
    intro a b hab hb e
    have e2:b=(b - a)+a:=by omega
    rw [e2,itN_add] at e
    exact (h.per x hx).2.2.2 (b - a) (by omega) (by omega) (h.itinj a _ _ hx (h.itlt _ _ hx) e).symm
  intro a b ha hb hab e
  rw [List.mem_range] at ha hb
  rcases Nat.lt_or_gt_of_ne hab with hlt | hlt
  · exact key a b hlt hb e
  · exact key b a hlt ha e.symm
def minN (n:Nat) (f:Nat→Nat) (x:Nat):Bool:=(orbN n f x).all fun y=>decide (x≤y)
theorem minN_iff (x:Nat):minN n f x=true↔∀ y∈orbN n f x,x≤y:=by simp [minN]
def cycN (n:Nat) (f:Nat→Nat):List (List Nat):=((List.range n).filter (minN n f)).map (orbN n f)
theorem PermF.minrep (h:PermF n f) (x:Nat) (hx:x<n):∃ z,z≤x∧minN n f z=true∧x∈orbN n f z:=by
  -- the smallest of the orbit
  induction x using Nat.strongRecOn with
  | ind x ih =>
    by_cases hm:minN n f x=true
    · exact ⟨x,Nat.le_refl _,hm,h.orb_self x hx⟩
    · rw [minN_iff] at hm
      have:∃ y,y∈orbN n f x∧y<x:=by
        apply Classical.byContradiction
        intro hno
        exact hm fun y hy=>Nat.le_of_not_lt fun hlt=>hno ⟨y,hy,hlt⟩
      obtain ⟨y,hy,hlt⟩:=this
      obtain ⟨z,h1,h2,h3⟩:=ih y hlt (by omega)
      exact ⟨z,by omega,h2,h.orb_trans z y x (by omega) h3 (h.orb_symm x hx y hy)⟩
theorem PermF.cyc_flat (h:PermF n f):(cycN n f).flatten.length=n:=by
  have hmem:∀ y,y∈(cycN n f).flatten↔y<n:=by
    intro y
    simp only [List.mem_flatten,cycN,List.mem_map,List.mem_filter,List.mem_range]
    constructor
    · rintro ⟨l,⟨x,⟨hx,_⟩,rfl⟩,hy⟩;exact h.orb_lt x hx y hy
    · intro hy
      obtain ⟨z,h1,h2,h3⟩:=h.minrep y hy
      exact ⟨_,⟨z,⟨by omega,h2⟩,rfl⟩,h3⟩
  have hnd:(cycN n f).flatten.Nodup:=by
    rw [List.Nodup,List.pairwise_flatten]
    constructor
    · intro l hl
      obtain ⟨x,hx,rfl⟩:=List.mem_map.1 hl
      exact h.orb_nodup x (List.mem_range.1 (List.mem_filter.1 hx).1)
    · unfold cycN
      rw [List.pairwise_map]
      refine List.Pairwise.imp_of_mem ?_ ((List.nodup_range (n:=n)).filter (minN n f))
      intro a b ha hb hab y hy z hz e
      subst e
      rw [List.mem_filter,List.mem_range] at ha hb
      have h1:=h.orb_trans a y b ha.1 hy (h.orb_symm b hb.1 y hz)
      have h2:=h.orb_symm a ha.1 b h1
      have:=(minN_iff a).1 ha.2 b h1
      have:=(minN_iff b).1 hb.2 a h2
      exact hab (by omega)
  have a1:=len_le_of_sub _ (List.range n) hnd fun y hy=>List.mem_range.2 ((hmem y).1 hy)
  have a2:=len_le_of_sub (List.range n) _ List.nodup_range fun y hy=>(hmem y).2 (List.mem_range.1 hy)
  rw [List.length_range] at a1 a2
  omega
theorem even_count:∀ (L:List (List Nat)),(∀ l∈L,1≤l.length)→L.length≤L.flatten.length∧((L.filter fun l=>l.length % 2 == 0).length) % 2=(L.flatten.length - L.length) % 2
  | [],_=>by simp
  | l :: L,h=>by
    obtain ⟨h1,h2⟩:=even_count L fun x hx=>h x (by simp [hx])
    have hl:=h l (by simp)
    rw [List.flatten_cons,List.length_append,List.length_cons,List.filter_cons]
    refine ⟨by omega,?_⟩
    by_cases e:l.length % 2=0
    · simp only [e,beq_self_eq_true,if_true,List.length_cons];omega
    · have:(l.length % 2 == 0)=false:=by simpa using e
      simp only [this,Bool.false_eq_true,if_false];omega
end
def fOf (p:List Int):Nat→Nat:=fun x=>(p.getD x 0).toNat
theorem permF_of {p:List Int} (h:isPerm p):PermF p.length (fOf p) :=
  ⟨fun x hx=>by have:=perm_get h hx;unfold fOf;omega,fun x y hx hy e=>perm_inj h hx hy (by have:=perm_get h hx;have:=perm_get h hy;unfold fOf at e;omega)⟩
theorem p_it {p:List Int} (h:isPerm p) {x:Nat} (hx:x<p.length) (k:Nat):p.getD (itN (fOf p) k x) 0=((itN (fOf p) (k+1) x:Nat):Int):=by
  have:=perm_get h ((permF_of h).itlt k x hx)
  rw [itN,fOf];omega
def orbI (p:List Int) (x:Nat):List Int:=(orbN p.length (fOf p) x).map fun (y:Nat)=>(y:Int)
theorem orbI_eq (p:List Int) (x:Nat):orbI p x=(List.range (perN p.length (fOf p) x)).map fun i=>((itN (fOf p) i x:Nat):Int):=by
  rw [orbI,orbN,List.map_map];rfl
theorem orbI_len (p:List Int) (x:Nat):(orbI p x).length=perN p.length (fOf p) x:=by rw [orbI_eq];simp
def minI (p:List Int) (x:Nat):Bool:=minN p.length (fOf p) x
def cycI (p:List Int):List (List Int):=((List.range p.length).filter (minI p)).map (orbI p)
theorem cycI_eq (p:List Int):cycI p=(cycN p.length (fOf p)).map fun l=>l.map fun (y:Nat)=>(y:Int):=by
  rw [cycI,cycN,List.map_map];rfl
def sgnI (p:List Int):Int:=if (p.length - (cycI p).length) % 2=1 then -1 else 1
theorem cyc_facts {p:List Int} (h:isPerm p):(cycI p).length≤p.length∧(∀ l∈cycI p,1≤l.length∧l.length≤p.length)∧((cycI p).filter fun l=>l.length % 2 == 0).length % 2=(p.length - (cycI p).length) % 2:=by
  have hp:=permF_of h
  have hl:∀ l∈cycN p.length (fOf p),1≤l.length∧l.length≤p.length:=by
    intro l hl
    obtain ⟨x,hx,rfl⟩:=List.mem_map.1 hl
    have hx':=List.mem_range.1 (List.mem_filter.1 hx).1
    rw [orbN_len]
    have:=hp.per x hx';omega
  obtain ⟨h1,h2⟩:=even_count (cycN p.length (fOf p)) fun l hm=>(hl l hm).1
  rw [hp.cyc_flat] at h1 h2
  refine ⟨by rw [cycI_eq,List.length_map];exact h1,fun l hm=>?_,?_⟩
  · rw [cycI_eq] at hm
    obtain ⟨l',hl',rfl⟩:=List.mem_map.1 hm
    rw [List.length_map];exact hl l' hl'
  · have e:((cycI p).filter fun l=>l.length % 2 == 0).length=((cycN p.length (fOf p)).filter fun l=>l.length % 2 == 0).length:=by
      rw [cycI_eq,List.filter_map,List.length_map]
      congr 1
      apply List.filter_congr;intro l _;simp
    rw [e,cycI_eq,List.length_map];exact h2
instance:Thing Bool:=⟨⟩
theorem repB (n:Nat) (x:Bool):List.replicate n (AV.v (.bool x))=(List.replicate n x).map AV.bl:=by simp
def seenB (p:List Int) (i y:Nat):Bool:=(List.range i).any fun z=>decide (y∈orbN p.length (fOf p) z)
def seenJ (p:List Int) (i j:Nat):List Bool:=(List.range p.length).map fun y=>seenB p i y || decide (y∈(orbN p.length (fOf p) i).take j)
theorem seenJ_len (p:List Int) (i j:Nat):(seenJ p i j).length=p.length:=by simp [seenJ]
theorem seenJ_get (p:List Int) (i j y:Nat) (h:y<p.length):(seenJ p i j).getD y default=(seenB p i y || decide (y∈(orbN p.length (fOf p) i).take j)):=range_map_get _ _ _ _ h
theorem seenB_iff (p:List Int) (i y:Nat):seenB p i y=true↔∃ z,z<i∧y∈orbN p.length (fOf p) z:=by
  simp [seenB,List.any_eq_true]
section
variable {p:List Int} (hp:isPerm p)
include hp
theorem seen_min {i:Nat} (hi:i<p.length) (hm:minI p i=true) (j:Nat):seenB p i (itN (fOf p) j i)=false:=by
  have hF:=permF_of hp
  rw [← Bool.not_eq_true,seenB_iff]
  rintro ⟨z,hz,hy⟩
  have h1:=hF.orb_symm z (by omega) _ hy
  have h2:itN (fOf p) j i∈orbN p.length (fOf p) i:=(hF.mem_orb i hi _).2 ⟨j,rfl⟩
  have h3:=hF.orb_trans i _ z hi h2 h1
  have:=(minN_iff i).1 hm z h3
  omega
theorem seen_not {i:Nat} (hi:i<p.length) (hm:minI p i=false):∃ z,z<i∧i∈orbN p.length (fOf p) z:=by
  have hF:=permF_of hp
  obtain ⟨z,h1,h2,h3⟩:=hF.minrep i hi
  refine ⟨z,?_,h3⟩
  apply Classical.byContradiction
  intro h
  have:z=i:=by omega
  subst this
  rw [minI,h2] at hm;cases hm
theorem seen_next_min {i:Nat} (hi:i<p.length):seenJ p i (perN p.length (fOf p) i)=seenJ p (i+1) 0:=by
  have _:=permF_of hp
  unfold seenJ
  apply List.map_congr_left
  intro y _
  rw [List.take_of_length_le (by rw [orbN_len];exact Nat.le_refl _)]
  simp only [List.take_zero,List.not_mem_nil,decide_false,Bool.or_false]
  unfold seenB
  rw [List.range_succ,List.any_append];simp
theorem seen_next_not {i:Nat} (hi:i<p.length) (hm:minI p i=false):seenJ p i 0=seenJ p (i+1) 0:=by
  have hF:=permF_of hp
  unfold seenJ
  apply List.map_congr_left
  intro y _
  simp only [List.take_zero,List.not_mem_nil,decide_false,Bool.or_false]
  rw [Bool.eq_iff_iff,seenB_iff,seenB_iff]
  constructor
  · rintro ⟨z,h1,h2⟩;exact ⟨z,by omega,h2⟩
  · rintro ⟨z,h1,h2⟩
    by_cases e:z=i
    · subst e
      obtain ⟨w,hw,hiw⟩:=seen_not hp hi hm
      exact ⟨w,hw,hF.orb_trans w z y (by omega) hiw h2⟩
    · exact ⟨z,by omega,h2⟩
theorem orb_take_get {i:Nat} (hi:i<p.length) {j:Nat} (hj:j<perN p.length (fOf p) i):(orbN p.length (fOf p) i).take (j+1)=(orbN p.length (fOf p) i).take j++[itN (fOf p) j i]:=by
  have _:=permF_of hp
  rw [take_succ_eq _ j 0 (by rw [orbN_len];exact hj),orbN,range_map_get _ _ _ _ hj]
theorem seen_fresh {i:Nat} (hi:i<p.length) (hm:minI p i=true) {j:Nat} (hj:j<perN p.length (fOf p) i):(seenJ p i j).getD (itN (fOf p) j i) default=false:=by
  have hF:=permF_of hp
  rw [seenJ_get _ _ _ _ (hF.itlt j i hi),seen_min hp hi hm j,Bool.false_or]
  simp only [decide_eq_false_iff_not]
  intro h
  have hn:=hF.orb_nodup i hi
  have h2:((orbN p.length (fOf p) i).take (j+1)).Nodup:=hn.sublist (List.take_sublist _ _)
  rw [orb_take_get hp hi hj,List.nodup_append] at h2
  exact h2.2.2 _ h _ (by simp) rfl
theorem seen_set {i:Nat} (hi:i<p.length) {j:Nat} (hj:j<perN p.length (fOf p) i):(seenJ p i j).set (itN (fOf p) j i) true=seenJ p i (j+1):=by
  have hF:=permF_of hp
  have hl:=hF.itlt j i hi
  refine ext_getD default (by rw [List.length_set,seenJ_len,seenJ_len]) fun y hy=>?_
  rw [List.length_set,seenJ_len] at hy
  rw [seenJ_get _ _ _ _ hy,orb_take_get hp hi hj]
  by_cases e:itN (fOf p) j i=y
  · subst e;rw [getD_set_same _ _ _ _ (by rw [seenJ_len];exact hl)];simp
  · rw [getD_set_ne _ _ _ _ _ e,seenJ_get _ _ _ _ hy]
    have:¬ y=itN (fOf p) j i:=fun q=>e q.symm
    simp [this]
theorem seen_end {i:Nat} (hi:i<p.length):(seenJ p i (perN p.length (fOf p) i)).getD i default=true:=by
  rw [seenJ_get _ _ _ _ hi,List.take_of_length_le (by rw [orbN_len];exact Nat.le_refl _)]
  simp [(permF_of hp).orb_self i hi]
theorem seen_old {i:Nat} (hi:i<p.length) (hm:minI p i=false):(seenJ p i 0).getD i default=true:=by
  rw [seenJ_get _ _ _ _ hi,(seenB_iff p i i).2 (seen_not hp hi hm)];rfl
end
theorem seenJ_zero (p:List Int):seenJ p 0 0=List.replicate p.length false:=by
  refine ext_getD default (by rw [seenJ_len];simp) fun y hy=>?_
  rw [seenJ_len] at hy
  rw [seenJ_get _ _ _ _ hy]
  simp [seenB,List.getD,hy]
end Go.AM
set_option maxRecDepth 8000
namespace Go.AM
open Go.Proofs
def itL (p:List Int) (x k:Nat):List Int:=(List.range k).map fun i=>((itN (fOf p) i x:Nat):Int)
theorem itL_succ (p:List Int) (x k:Nat):itL p x (k+1)=itL p x k++[((itN (fOf p) k x:Nat):Int)]:=range_succ_map _ k
theorem itL_len (p:List Int) (x k:Nat):(itL p x k).length=k:=by simp [itL]
def cycK (p:List Int) (k:Nat):List (List Int):=((List.range k).filter (minI p)).map (orbI p)
theorem cycK_le (p:List Int) (k:Nat):(cycK p k).length≤k:=by
  rw [cycK,List.length_map];have:=List.length_filter_le (minI p) (List.range k);rw [List.length_range] at this;exact this
theorem filter_range_succ (pr:Nat→Bool) (k:Nat):(List.range (k+1)).filter pr=(List.range k).filter pr++(if pr k then [k] else []):=by
  rw [List.range_succ,List.filter_append]
  congr 1
  simp [List.filter_cons]
theorem cycK_succ (p:List Int) (k:Nat):cycK p (k+1)=cycK p k++(if minI p k then [orbI p k] else []):=by
  rw [cycK,filter_range_succ,List.map_append,← cycK];split <;> rfl
theorem orbI_itL (p:List Int) (x:Nat):orbI p x=itL p x (perN p.length (fOf p) x):=orbI_eq p x
theorem scycleOf (p:List Int) (hp:isPerm p) (x:Nat) (hx:x<p.length):SpecAt Try.prog 254 [isl p,.i64 x] (itr (orbI p x)):=by
  have hF:=permF_of hp
  obtain ⟨q1,q2,q3,q4⟩:=hF.per x hx
  have hl20:=hp.1.2
  have h0:=p_it hp hx 0
  rw [itN] at h0
  rw [orbI_itL]
  generalize hper:perN p.length (fOf p) x=N at q1 q2 q3 q4
  refine spec_of_awp (M:=MM) (np:=2) (fz:=false) mixed Try.func254 rfl rfl (by decide) rfl (Nat.le_refl _) (by decide +kernel) (.inl rfl) (by first | trivial | simp only [sigsOk_nil,sigsOk_some,sigsOk_none,sig_tr,sig_pt,sig_mt,sig_agg,List.map_cons,List.map_nil,sig1_tr,sig1_pt,sig1_v,and_self,true_and,List.length_map,List.length_set]) ?_
  simp -dsimp -implicitDefEqProofs (disch:=first|omega|(simp only [lenr];try omega)) only [↓amPre,↓reduceIte,reduceCtorEq,Nat.reduceEqDiff,Nat.reduceBEq,Nat.reduceAdd,Nat.reduceLeDiff,Nat.reduceSub,Nat.reduceMul,Int.reduceToNat,MM,bu0,cbP3,h0]
  refine awp_loopR 8 23 (.tr 1 [.i64 x]) (by simp -dsimp -implicitDefEqProofs (disch:=first|omega|(simp only [lenr];try omega)) only [↓amPre,↓reduceIte,reduceCtorEq,Nat.reduceEqDiff,Nat.reduceBEq,Nat.reduceAdd,Nat.reduceLeDiff,Nat.reduceSub,Nat.reduceMul,Int.reduceToNat,MM,bu0,cbP3]) (by decide) (by decide) (by decide) (fun k st=>k≤(N - 1)∧st.fr 6=.i64 (itN (fOf p) (k+1) x:Nat)∧st.fr 5=.ref 23 [] 1 0 (k+1)∧st.fr 0=isl p∧st.fr 1=.i64 x∧st.mem 23=some (itr (itL p x (k+1)))) ((N - 1)) ?_ ?_
  · simp -dsimp -implicitDefEqProofs (disch:=first|omega|(simp only [lenr];try omega)) only [↓amPre,↓reduceIte,reduceCtorEq,Nat.reduceEqDiff,Nat.reduceBEq,Nat.reduceAdd,Nat.reduceLeDiff,Nat.reduceSub,Nat.reduceMul,Int.reduceToNat,MM,bu0,cbP3,ren_eq,h0]
    simp [itN,itL]
  rintro k st _ ⟨hk,f6,f5,f0,f1,m23⟩
  have hy:=hF.itlt (k+1) x hx
  have hn:=p_it hp hx (k+1)
  have hrl:=itL_len p x (k+1)
  have hrl2:=itL_len p x (k+2)
  by_cases c:itN (fOf p) (k+1) x=x
  · have hk1:k+1=N:=by
      apply Classical.byContradiction
      intro hne
      exact q4 (k+1) (by omega) (by omega) c
    have c':(((itN (fOf p) (k+1) x:Nat):Int) != (x:Int))=false:=ne_false (by rw [c])
    subst hk1
    simp -dsimp -implicitDefEqProofs (disch:=first|omega|(simp only [lenr];try omega)) only [↓amPre,↓reduceIte,reduceCtorEq,Nat.reduceEqDiff,Nat.reduceBEq,Nat.reduceAdd,Nat.reduceLeDiff,Nat.reduceSub,Nat.reduceMul,Int.reduceToNat,MM,bu0,cbP3,f6,f5,f0,f1,m23,c',hrl]
  · have c':(((itN (fOf p) (k+1) x:Nat):Int) != (x:Int))=true:=ne_true (by omega)
    have hk1:k+1<N:=by
      apply Classical.byContradiction
      intro hge
      have:k+1=N:=by omega
      rw [this] at c;exact c q3
    have hsn:=itL_succ p x (k+1)
    simp -dsimp -implicitDefEqProofs (disch:=first|omega|(simp only [lenr];try omega)) only [↓amPre,↓reduceIte,reduceCtorEq,Nat.reduceEqDiff,Nat.reduceBEq,Nat.reduceAdd,Nat.reduceLeDiff,Nat.reduceSub,Nat.reduceMul,Int.reduceToNat,MM,bu0,cbP3,f6,f5,f0,f1,m23,c',hn,hrl,hrl2,← hsn]
    repeat' (first|omega|rfl|exact i64c (by omega)|exact vic (by omega)|apply ai)
theorem sisSmallest (l:List Int) (h1:1≤l.length) (h2:l.length≤20):SpecAt Try.prog 255 [isl l] (.bl (l.all fun y=>decide (l.getD 0 0≤y))):=by
  refine spec_of_awp (M:=MM) (np:=1) (fz:=true) mixed Try.func255 rfl rfl (by decide) rfl (Nat.le_refl _) (by decide +kernel) (.inr ⟨rfl,rfl⟩) trivial ?_
  simp -dsimp -implicitDefEqProofs (disch:=first|omega|(simp only [lenr];try omega)) only [↓amPre,↓reduceIte,reduceCtorEq,Nat.reduceEqDiff,Nat.reduceBEq,Nat.reduceAdd,Nat.reduceLeDiff,Nat.reduceSub,Nat.reduceMul,Int.reduceToNat,MM,bu0,cbP3]
  have fin:∀ b:Bool,(b=true↔∀ y∈l,l.getD 0 0≤y)→Value.bool b=Value.bool (l.all fun y=>decide (l.getD 0 0≤y)):=fun b h=>bl_eq (by rw [h];simp)
  refine awp_loop (fun k st=>k≤l.length∧st.fr 3=.i64 (k+1)∧st.fr 0=isl l∧∀ y∈l.take (k+1),l.getD 0 0≤y) (l.length) ?_ ?_
  · simp -dsimp -implicitDefEqProofs (disch:=first|omega|(simp only [lenr];try omega)) only [↓amPre,↓reduceIte,reduceCtorEq,Nat.reduceEqDiff,Nat.reduceBEq,Nat.reduceAdd,Nat.reduceLeDiff,Nat.reduceSub,Nat.reduceMul,Int.reduceToNat,MM,bu0,cbP3]
    refine ⟨Nat.zero_le _,rfl,fun y hy=>?_⟩
    rw [take_succ_eq l 0 0 h1] at hy
    simp only [List.take_zero,List.nil_append,List.mem_singleton] at hy
    rw [hy];exact Int.le_refl _
  rintro k st _ ⟨hk,f3,f0,ek⟩
  by_cases hlt:k+1<l.length
  · simp -dsimp -implicitDefEqProofs (disch:=first|omega|(simp only [lenr];try omega)) only [↓amPre,↓reduceIte,reduceCtorEq,Nat.reduceEqDiff,Nat.reduceBEq,Nat.reduceAdd,Nat.reduceLeDiff,Nat.reduceSub,Nat.reduceMul,Int.reduceToNat,MM,bu0,cbP3,f3,f0]
    refine ifP_mk ?_ ?_ <;> intro w
    · simp -dsimp -implicitDefEqProofs (disch:=first|omega|(simp only [lenr];try omega)) only [↓amPre,↓reduceIte,reduceCtorEq,Nat.reduceEqDiff,Nat.reduceBEq,Nat.reduceAdd,Nat.reduceLeDiff,Nat.reduceSub,Nat.reduceMul,Int.reduceToNat,MM,bu0,cbP3,w]
      simp only [beq_iff_eq,bne_iff_ne,ne_eq,beq_eq_false_iff_ne,bne_eq_false_iff_eq,decide_eq_true_eq,decide_eq_false_iff_not,Bool.not_eq_true',Bool.not_eq_false',Int.not_lt,Int.not_le,Bool.and_eq_true,Bool.or_eq_true,Bool.and_eq_false_iff,Bool.or_eq_false_iff,Decidable.not_not] at w
      refine fin _ ?_
      simp only [reduceCtorEq,false_iff]
      intro q;have:=q _ (mem_getD l (k+1) 0 hlt);omega
    · simp -dsimp -implicitDefEqProofs (disch:=first|omega|(simp only [lenr];try omega)) only [↓amPre,↓reduceIte,reduceCtorEq,Nat.reduceEqDiff,Nat.reduceBEq,Nat.reduceAdd,Nat.reduceLeDiff,Nat.reduceSub,Nat.reduceMul,Int.reduceToNat,MM,bu0,cbP3,w,f3,f0]
      simp only [beq_iff_eq,bne_iff_ne,ne_eq,beq_eq_false_iff_ne,bne_eq_false_iff_eq,decide_eq_true_eq,decide_eq_false_iff_not,Bool.not_eq_true',Bool.not_eq_false',Int.not_lt,Int.not_le,Bool.and_eq_true,Bool.or_eq_true,Bool.and_eq_false_iff,Bool.or_eq_false_iff,Decidable.not_not] at w
      repeat' (first | omega | rfl | exact i64c (by omega) | exact vic (by omega) | exact (mem_take_succ (d:=0) hlt).2 ⟨ek,w⟩ | apply And.intro)
  · simp -dsimp -implicitDefEqProofs (disch:=first|omega|(simp only [lenr];try omega)) only [↓amPre,↓reduceIte,reduceCtorEq,Nat.reduceEqDiff,Nat.reduceBEq,Nat.reduceAdd,Nat.reduceLeDiff,Nat.reduceSub,Nat.reduceMul,Int.reduceToNat,MM,bu0,cbP3,f3,f0]
    refine fin _ ?_
    simp only [true_iff]
    rw [List.take_of_length_le (by omega)] at ek
    exact ek
theorem orb_min (p:List Int) (x:Nat) (hp:isPerm p) (hx:x<p.length):((orbI p x).all fun y=>decide ((orbI p x).getD 0 0≤y))=minI p x:=by
  have h0:(orbI p x).getD 0 0=(x:Int):=by
    rw [orbI_eq,range_map_get _ _ _ _ (by have:=((permF_of hp).per x hx).1;omega)];rfl
  rw [Bool.eq_iff_iff,minI,minN_iff,h0]
  simp only [List.all_eq_true,decide_eq_true_eq,orbI,List.mem_map]
  constructor
  · intro q y hy;have:=q (y:Int) ⟨y,hy,rfl⟩;omega
  · rintro q _ ⟨y,hy,rfl⟩;have:=q y hy;omega
theorem sallCycles (p:List Int) (hp:isPerm p):SpecAt Try.prog 224 [isl p] (sst (cycI p)):=by
  have hl20:=hp.1.2
  refine spec_of_awp (M:=MM) (np:=1) (fz:=false) mixed Try.func224 rfl rfl (by decide) rfl (Nat.le_refl _) (by decide +kernel) (.inl rfl) (by first | trivial | simp only [sigsOk_nil,sigsOk_some,sigsOk_none,sig_tr,sig_pt,sig_mt,sig_agg,List.map_cons,List.map_nil,sig1_tr,sig1_pt,sig1_v,and_self,true_and,List.length_map,List.length_set]) ?_
  simp -dsimp -implicitDefEqProofs (disch:=first|omega|(simp only [lenr];try omega)) only [↓amPre,↓reduceIte,reduceCtorEq,Nat.reduceEqDiff,Nat.reduceBEq,Nat.reduceAdd,Nat.reduceLeDiff,Nat.reduceSub,Nat.reduceMul,Int.reduceToNat,MM,bu0,cbP3]
  refine awp_loopR 6 21 (.tr 1 []) (by simp -dsimp -implicitDefEqProofs (disch:=first|omega|(simp only [lenr];try omega)) only [↓amPre,↓reduceIte,reduceCtorEq,Nat.reduceEqDiff,Nat.reduceBEq,Nat.reduceAdd,Nat.reduceLeDiff,Nat.reduceSub,Nat.reduceMul,Int.reduceToNat,MM,bu0,cbP3]) (by decide) (by decide) (by decide) (fun k st=>k≤p.length∧st.fr 4=.i64 k∧st.fr 0=isl p∧st.fr 3=.ref 21 [] 1 0 (cycK p k).length∧st.mem 21=some (sst (cycK p k))) (p.length) ?_ ?_
  · simp -dsimp -implicitDefEqProofs (disch:=first|omega|(simp only [lenr];try omega)) only [↓amPre,↓reduceIte,reduceCtorEq,Nat.reduceEqDiff,Nat.reduceBEq,Nat.reduceAdd,Nat.reduceLeDiff,Nat.reduceSub,Nat.reduceMul,Int.reduceToNat,MM,bu0,cbP3,ren_eq]
    simp [cycK]
  rintro k st _ ⟨hk,f4,f0,f3,m21⟩
  have hll:=cycK_le p k
  have hfs:=cycK_succ p k
  by_cases hlt:k<p.length
  · have ho:=orbI_len p k
    have hper:=(permF_of hp).per k hlt
    have hmn:=orb_min p k hp hlt
    simp -dsimp -implicitDefEqProofs (disch:=first|omega|(simp only [lenr];try omega)) only [↓amPre,↓reduceIte,reduceCtorEq,Nat.reduceEqDiff,Nat.reduceBEq,Nat.reduceAdd,Nat.reduceLeDiff,Nat.reduceSub,Nat.reduceMul,Int.reduceToNat,MM,bu0,cbP3,f4,f0,f3,m21]
    refine callP_of (scycleOf p hp k hlt) ?_
    simp -dsimp -implicitDefEqProofs (disch:=first|omega|(simp only [lenr];try omega)) only [↓amPre,↓reduceIte,reduceCtorEq,Nat.reduceEqDiff,Nat.reduceBEq,Nat.reduceAdd,Nat.reduceLeDiff,Nat.reduceSub,Nat.reduceMul,Int.reduceToNat,MM,bu0,cbP3,f4,f0,f3,m21]
    refine callP_of (sisSmallest (orbI p k) (by omega) (by omega)) ?_
    cases hm:minI p k with
    | true =>
      have hs:cycK p k++[orbI p k]=cycK p (k+1):=by rw [hfs,hm];rfl
      have hs2:(cycK p (k+1)).length=(cycK p k).length+1:=by rw [← hs];simp
      simp -dsimp -implicitDefEqProofs (disch:=first|omega|(simp only [lenr];try omega)) only [↓amPre,↓reduceIte,reduceCtorEq,Nat.reduceEqDiff,Nat.reduceBEq,Nat.reduceAdd,Nat.reduceLeDiff,Nat.reduceSub,Nat.reduceMul,Int.reduceToNat,MM,bu0,cbP3,f4,f0,f3,m21,hmn,hm,hs,hs2]
      repeat' (first|omega|rfl|exact i64c (by omega)|exact vic (by omega)|apply ai)
    | false =>
      have hs:cycK p (k+1)=cycK p k:=by rw [hfs,hm];simp
      simp -dsimp -implicitDefEqProofs (disch:=first|omega|(simp only [lenr];try omega)) only [↓amPre,↓reduceIte,reduceCtorEq,Nat.reduceEqDiff,Nat.reduceBEq,Nat.reduceAdd,Nat.reduceLeDiff,Nat.reduceSub,Nat.reduceMul,Int.reduceToNat,MM,bu0,cbP3,f4,f0,f3,m21,hmn,hm,hs]
      repeat' (first|omega|rfl|exact i64c (by omega)|exact vic (by omega)|apply ai)
  · have hke:k=p.length:=by omega
    subst hke
    have:cycI p=cycK p p.length:=rfl
    simp -dsimp -implicitDefEqProofs (disch:=first|omega|(simp only [lenr];try omega)) only [↓amPre,↓reduceIte,reduceCtorEq,Nat.reduceEqDiff,Nat.reduceBEq,Nat.reduceAdd,Nat.reduceLeDiff,Nat.reduceSub,Nat.reduceMul,Int.reduceToNat,MM,bu0,cbP3,f4,f0,f3,m21,this]
theorem sSign (p:List Int) (hp:isPerm p):SpecAt Try.prog 171 [isl p] (.i64 (sgnI p)):=by
  obtain ⟨h1,h2,h3⟩:=cyc_facts hp
  have hl20:=hp.1.2
  refine spec_of_awp (M:=MM) (np:=1) (fz:=true) mixed Try.func171 rfl rfl (by decide) rfl (Nat.le_refl _) (by decide +kernel) (.inr ⟨rfl,rfl⟩) trivial ?_
  simp -dsimp -implicitDefEqProofs (disch:=first|omega|(simp only [lenr];try omega)) only [↓amPre,↓reduceIte,reduceCtorEq,Nat.reduceEqDiff,Nat.reduceBEq,Nat.reduceAdd,Nat.reduceLeDiff,Nat.reduceSub,Nat.reduceMul,Int.reduceToNat,MM,bu0,cbP3]
  refine callP_of (sIsPerm p (by omega)) ?_
  simp -dsimp -implicitDefEqProofs (disch:=first|omega|(simp only [lenr];try omega)) only [↓amPre,↓reduceIte,reduceCtorEq,Nat.reduceEqDiff,Nat.reduceBEq,Nat.reduceAdd,Nat.reduceLeDiff,Nat.reduceSub,Nat.reduceMul,Int.reduceToNat,MM,bu0,cbP3,hp]
  refine callP_of (sallCycles p hp) ?_
  have hmod:((p.length:Int) - (cycI p).length).tmod 2=(((p.length - (cycI p).length) % 2:Nat):Int):=by
    rw [Int.tmod_eq_emod_of_nonneg (by omega)];omega
  by_cases c:(p.length - (cycI p).length) % 2=1
  · have hs:sgnI p = -1:=if_pos c
    rw [c] at hmod
    simp -dsimp -implicitDefEqProofs (disch:=first|omega|(simp only [lenr];try omega)) only [↓amPre,↓reduceIte,reduceCtorEq,Nat.reduceEqDiff,Nat.reduceBEq,Nat.reduceAdd,Nat.reduceLeDiff,Nat.reduceSub,Nat.reduceMul,Int.reduceToNat,MM,bu0,cbP3,hmod,hs]
  · have hs:sgnI p=1:=if_neg c
    have c0:(p.length - (cycI p).length) % 2=0:=by omega
    rw [c0] at hmod
    simp -dsimp -implicitDefEqProofs (disch:=first|omega|(simp only [lenr];try omega)) only [↓amPre,↓reduceIte,reduceCtorEq,Nat.reduceEqDiff,Nat.reduceBEq,Nat.reduceAdd,Nat.reduceLeDiff,Nat.reduceSub,Nat.reduceMul,Int.reduceToNat,MM,bu0,cbP3,hmod,hs]
def longC (L:List (List Int)):List (List Int):=L.filter fun l=>decide (1<l.length)
theorem longC_snoc (L:List (List Int)) (l:List Int):longC (L++[l])=if 1<l.length then longC L++[l] else longC L:=by
  unfold longC;rw [List.filter_append];split <;> simp [List.filter_cons, *]
theorem longC_len (L:List (List Int)):(longC L).length≤L.length:=List.length_filter_le _ _
theorem icycles (p:List Int) (hp:isPerm p):SpecAt Try.prog 256 [isl p] (sst (longC (cycI p))):=by
  have hl20:=hp.1.2
  have hF:=permF_of hp
  refine spec_of_awp (M:=MM) (np:=1) (fz:=false) mixed Try.func256 rfl rfl (by decide) rfl (Nat.le_refl _) (by decide +kernel) (.inl rfl) (by first | trivial | simp only [sigsOk_nil,sigsOk_some,sigsOk_none,sig_tr,sig_pt,sig_mt,sig_agg,List.map_cons,List.map_nil,sig1_tr,sig1_pt,sig1_v,and_self,true_and,List.length_map,List.length_set]) ?_
  simp -dsimp -implicitDefEqProofs (disch:=first|omega|(simp only [lenr];try omega)) only [↓amPre,↓reduceIte,reduceCtorEq,Nat.reduceEqDiff,Nat.reduceBEq,Nat.reduceAdd,Nat.reduceLeDiff,Nat.reduceSub,Nat.reduceMul,Int.reduceToNat,MM,bu0,cbP3,repB]
  refine awp_loopN 3 39 1 (by simp -dsimp -implicitDefEqProofs (disch:=first|omega|(simp only [lenr];try omega)) only [↓amPre,↓reduceIte,reduceCtorEq,Nat.reduceEqDiff,Nat.reduceBEq,Nat.reduceAdd,Nat.reduceLeDiff,Nat.reduceSub,Nat.reduceMul,Int.reduceToNat,MM,bu0,cbP3]) (by decide) (fun i st=>i≤p.length∧st.fr 13=.i64 i∧st.fr 12=.i64 p.length∧st.fr 0=isl p∧st.fr 4=.ref 10 [] 1 0 p.length∧st.fr 3=.ref 39 [] 1 0 (longC (cycK p i)).length∧st.mem 10=some (.tr 1 ((seenJ p i 0).map AV.bl))∧st.mem 39=some (sst (longC (cycK p i)))) (p.length) ?_ ?_
  · simp -dsimp -implicitDefEqProofs (disch:=first|omega|(simp only [lenr];try omega)) only [↓amPre,↓reduceIte,reduceCtorEq,Nat.reduceEqDiff,Nat.reduceBEq,Nat.reduceAdd,Nat.reduceLeDiff,Nat.reduceSub,Nat.reduceMul,Int.reduceToNat,MM,bu0,cbP3,nilAs_eq,repB]
    simp [cycK,longC,seenJ_zero]
  rintro i st _ ⟨hi,f13,f12,f0,f4,f3,m10,m39⟩
  have hle1:=longC_len (cycK p i)
  have hle2:=cycK_le p i
  have hcs:=cycK_succ p i
  generalize hL:longC (cycK p i)=L at hle1 f3 m39
  by_cases hlt:i<p.length
  · obtain ⟨q1,q2,q3,q4⟩:=hF.per i hlt
    have hsl:=seenJ_len p i
    simp -dsimp -implicitDefEqProofs (disch:=first|omega|(simp only [lenr];try omega)) only [↓amPre,↓reduceIte,reduceCtorEq,Nat.reduceEqDiff,Nat.reduceBEq,Nat.reduceAdd,Nat.reduceLeDiff,Nat.reduceSub,Nat.reduceMul,Int.reduceToNat,MM,bu0,cbP3,f13,f12,f0,f4,f3,m10,m39,hsl]
    cases hm:minI p i with
    | true =>
      refine awp_loopN 6 32 1 (by simp -dsimp -implicitDefEqProofs (disch:=first|omega|(simp only [lenr];try omega)) only [↓amPre,↓reduceIte,reduceCtorEq,Nat.reduceEqDiff,Nat.reduceBEq,Nat.reduceAdd,Nat.reduceLeDiff,Nat.reduceSub,Nat.reduceMul,Int.reduceToNat,MM,bu0,cbP3,f13,f12,f0,f4,f3,m10,m39]) (by decide) (fun j st=>j≤(perN p.length (fOf p) i)∧st.fr 13=.i64 i∧st.fr 12=.i64 p.length∧st.fr 0=isl p∧st.fr 4=.ref 10 [] 1 0 p.length∧st.fr 3=.ref 39 [] 1 0 L.length∧st.fr 6=.ref 32 [] 1 0 j∧st.fr 7=.i64 (itN (fOf p) j i:Nat)∧st.mem 10=some (.tr 1 ((seenJ p i j).map AV.bl))∧st.mem 39=some (sst L)∧st.mem 32=some (itr (itL p i j))) ((perN p.length (fOf p) i)) ?_ ?_
      · simp -dsimp -implicitDefEqProofs (disch:=first|omega|(simp only [lenr];try omega)) only [↓amPre,↓reduceIte,reduceCtorEq,Nat.reduceEqDiff,Nat.reduceBEq,Nat.reduceAdd,Nat.reduceLeDiff,Nat.reduceSub,Nat.reduceMul,Int.reduceToNat,MM,bu0,cbP3,nilAs_eq,f13,f12,f0,f4,f3,m10,m39]
        simp [itN,itL]
      rintro j st _ ⟨hj,f13,f12,f0,f4,f3,f6,f7,m10,m39,m32⟩
      have hlj:=hF.itlt j i hlt
      have hn:=p_it hp hlt j
      have hil:=itL_len p i j
      have hs1:=seenJ_len p i j
      have hs2:=seenJ_len p i (j+1)
      have hs3:=seenJ_len p (i+1) 0
      by_cases hlt':j<perN p.length (fOf p) i
      · have hfr:=seen_fresh hp hlt hm hlt'
        have hst:=seen_set hp hlt hlt'
        have hss:=itL_succ p i j
        simp -dsimp -implicitDefEqProofs (disch:=first|omega|(simp only [lenr];try omega)) only [↓amPre,↓reduceIte,reduceCtorEq,Nat.reduceEqDiff,Nat.reduceBEq,Nat.reduceAdd,Nat.reduceLeDiff,Nat.reduceSub,Nat.reduceMul,Int.reduceToNat,MM,bu0,cbP3,f13,f12,f0,f4,f3,f6,f7,m10,m39,m32,hsl,hfr,hst,hn,← hss,hil]
        repeat' (first|omega|rfl|exact i64c (by omega)|exact vic (by omega)|apply ai)
      · have hje:j=perN p.length (fOf p) i:=by omega
        have hend:=seen_end hp hlt
        have hnx:=seen_next_min hp hlt
        rw [hje,q3] at f7
        rw [← hje] at hend hnx
        rw [hnx] at hend
        rw [hm] at hcs
        simp only [if_true] at hcs
        have hls:=longC_snoc (cycK p i) (orbI p i)
        rw [← hcs,hL,orbI_len,← hje] at hls
        have hoi:itL p i j=orbI p i:=by rw [orbI_itL,hje]
        by_cases c:1<j
        · rw [if_pos c] at hls
          have hll:(longC (cycK p (i+1))).length=L.length+1:=by rw [hls];simp
          rw [hoi] at m32
          have hol:=orbI_len p i
          rw [← hje] at hol
          simp -dsimp -implicitDefEqProofs (disch:=first|omega|(simp only [lenr];try omega)) only [↓amPre,↓reduceIte,reduceCtorEq,Nat.reduceEqDiff,Nat.reduceBEq,Nat.reduceAdd,Nat.reduceLeDiff,Nat.reduceSub,Nat.reduceMul,Int.reduceToNat,MM,bu0,cbP3,f13,f12,f0,f4,f3,f6,f7,m10,m39,m32,hsl,hend,lt_true (show ((1:Int))<(j:Int) by omega),hol,← hls,hll,hnx]
          repeat' (first|omega|rfl|exact i64c (by omega)|exact vic (by omega)|apply ai)
        · rw [if_neg c] at hls
          simp -dsimp -implicitDefEqProofs (disch:=first|omega|(simp only [lenr];try omega)) only [↓amPre,↓reduceIte,reduceCtorEq,Nat.reduceEqDiff,Nat.reduceBEq,Nat.reduceAdd,Nat.reduceLeDiff,Nat.reduceSub,Nat.reduceMul,Int.reduceToNat,MM,bu0,cbP3,f13,f12,f0,f4,f3,f6,f7,m10,m39,m32,hsl,hend,lt_false (show ((j:Int))≤1 by omega),hls,hnx]
          repeat' (first|omega|rfl|exact i64c (by omega)|exact vic (by omega)|apply ai)
    | false =>
      refine awp_loopN 6 32 1 (by simp -dsimp -implicitDefEqProofs (disch:=first|omega|(simp only [lenr];try omega)) only [↓amPre,↓reduceIte,reduceCtorEq,Nat.reduceEqDiff,Nat.reduceBEq,Nat.reduceAdd,Nat.reduceLeDiff,Nat.reduceSub,Nat.reduceMul,Int.reduceToNat,MM,bu0,cbP3,f13,f12,f0,f4,f3,m10,m39]) (by decide) (fun j st=>j≤0∧st.fr 13=.i64 i∧st.fr 12=.i64 p.length∧st.fr 0=isl p∧st.fr 4=.ref 10 [] 1 0 p.length∧st.fr 3=.ref 39 [] 1 0 L.length∧st.fr 6=.ref 32 [] 1 0 0∧st.fr 7=.i64 i∧st.mem 10=some (.tr 1 ((seenJ p i 0).map AV.bl))∧st.mem 39=some (sst L)∧st.mem 32=some (.tr 1 [])) (0) ?_ ?_
      · simp -dsimp -implicitDefEqProofs (disch:=first|omega|(simp only [lenr];try omega)) only [↓amPre,↓reduceIte,reduceCtorEq,Nat.reduceEqDiff,Nat.reduceBEq,Nat.reduceAdd,Nat.reduceLeDiff,Nat.reduceSub,Nat.reduceMul,Int.reduceToNat,MM,bu0,cbP3,nilAs_eq,f13,f12,f0,f4,f3,m10,m39]
      rintro j st _ ⟨hj,f13,f12,f0,f4,f3,f6,f7,m10,m39,m32⟩
      have hold:=seen_old hp hlt hm
      have hnx:=seen_next_not hp hlt hm
      rw [hnx] at hold
      have hs3:=seenJ_len p (i+1) 0
      rw [hm] at hcs
      simp only [Bool.false_eq_true,if_false,List.append_nil] at hcs
      simp -dsimp -implicitDefEqProofs (disch:=first|omega|(simp only [lenr];try omega)) only [↓amPre,↓reduceIte,reduceCtorEq,Nat.reduceEqDiff,Nat.reduceBEq,Nat.reduceAdd,Nat.reduceLeDiff,Nat.reduceSub,Nat.reduceMul,Int.reduceToNat,MM,bu0,cbP3,f13,f12,f0,f4,f3,f6,f7,m10,m39,m32,hsl,hold,hnx,hcs,hL]
      repeat' (first|omega|rfl|exact i64c (by omega)|exact vic (by omega)|apply ai)
  · have hie:i=p.length:=by omega
    subst hie
    have:longC (cycI p)=L:=hL
    simp -dsimp -implicitDefEqProofs (disch:=first|omega|(simp only [lenr];try omega)) only [↓amPre,↓reduceIte,reduceCtorEq,Nat.reduceEqDiff,Nat.reduceBEq,Nat.reduceAdd,Nat.reduceLeDiff,Nat.reduceSub,Nat.reduceMul,Int.reduceToNat,MM,bu0,cbP3,f13,f12,f0,f4,f3,m10,m39,this]
theorem isign (p:List Int) (hp:isPerm p):SpecAt Try.prog 226 [isl p] (.i64 (sgnI p)):=by
  obtain ⟨h1,h2,h3⟩:=cyc_facts hp
  have hl20:=hp.1.2
  have hle:=longC_len (cycI p)
  have hb:∀ l∈longC (cycI p),l.length≤20:=fun l hl=>by have:=h2 l (List.mem_filter.1 hl).1;omega
  have he:((longC (cycI p)).filter fun l=>l.length % 2 == 0).length=((cycI p).filter fun l=>l.length % 2 == 0).length:=by
    unfold longC
    rw [List.filter_filter]
    congr 1
    apply List.filter_congr
    intro l hl
    have:=(h2 l hl).1
    by_cases c:l.length % 2=0
    · have:1<l.length:=by omega
      simp [c,this]
    · simp [c]
  have hsg:sgnI p=if (((longC (cycI p)).filter fun l=>l.length % 2 == 0).length) % 2=1 then -1 else 1:=by rw [he,h3,sgnI]
  generalize hL:longC (cycI p)=L at hle hb he hsg
  have hev:∀ k,((L.take k).filter fun l=>l.length % 2 == 0).length≤k:=fun k=>by
    have a1:=List.length_filter_le (fun l:List Int=>l.length % 2 == 0) (L.take k)
    have a2:(L.take k).length≤k:=by simp;omega
    omega
  refine spec_of_awp (M:=MM) (np:=1) (fz:=true) mixed Try.func226 rfl rfl (by decide) rfl (Nat.le_refl _) (by decide +kernel) (.inr ⟨rfl,rfl⟩) trivial ?_
  simp -dsimp -implicitDefEqProofs (disch:=first|omega|(simp only [lenr];try omega)) only [↓amPre,↓reduceIte,reduceCtorEq,Nat.reduceEqDiff,Nat.reduceBEq,Nat.reduceAdd,Nat.reduceLeDiff,Nat.reduceSub,Nat.reduceMul,Int.reduceToNat,MM,bu0,cbP3]
  refine callP_of (icycles p hp) ?_
  simp -dsimp -implicitDefEqProofs (disch:=first|omega|(simp only [lenr];try omega)) only [↓amPre,↓reduceIte,reduceCtorEq,Nat.reduceEqDiff,Nat.reduceBEq,Nat.reduceAdd,Nat.reduceLeDiff,Nat.reduceSub,Nat.reduceMul,Int.reduceToNat,MM,bu0,cbP3,hL,ssfz]
  refine awp_loop (fun k st=>k≤L.length∧st.fr 9=.i64 k∧st.fr 8=.i64 L.length∧st.fr 7=.ref 7 [] 1 0 L.length∧st.fr 3=.i64 (if (((L.take k).filter fun l=>l.length % 2 == 0).length) % 2=1 then -1 else 1)∧st.mem 7=some (sst L)) (L.length) ?_ ?_
  · simp only [List.take_zero,List.filter_nil]
    simp -dsimp -implicitDefEqProofs (disch:=first|omega|(simp only [lenr];try omega)) only [↓amPre,↓reduceIte,reduceCtorEq,Nat.reduceEqDiff,Nat.reduceBEq,Nat.reduceAdd,Nat.reduceLeDiff,Nat.reduceSub,Nat.reduceMul,Int.reduceToNat,MM,bu0,cbP3]
    repeat' (first|omega|rfl|exact i64c (by omega)|exact vic (by omega)|apply ai)
  rintro k st _ ⟨hk,f9,f8,f7,f3,m7⟩
  by_cases hlt:k<L.length
  · have hts:=take_succ_eq L k default hlt
    have hlb:=hb _ (mem_getD L k default hlt)
    have hmod:(((L.getD k default).length:Int)).tmod 2=(((L.getD k default).length % 2:Nat):Int):=by
      rw [Int.tmod_eq_emod_of_nonneg (by omega)];omega
    have hfl:((L.take (k+1)).filter fun l=>l.length % 2 == 0).length=((L.take k).filter fun l=>l.length % 2 == 0).length+if (L.getD k default).length % 2=0 then 1 else 0:=by
      rw [hts,List.filter_append,List.length_append];congr 1
      generalize L.getD k default=x
      by_cases c:x.length % 2=0 <;> simp [List.filter_cons,c]
    by_cases c:(L.getD k default).length % 2=0
    · rw [c] at hmod
      rw [if_pos c] at hfl
      by_cases d:(((L.take k).filter fun l=>l.length % 2 == 0).length) % 2=1
      · have d2:¬ ((((L.take k).filter fun l=>l.length % 2 == 0).length+1) % 2=1):=by omega
        rw [if_pos d] at f3
        simp -dsimp -implicitDefEqProofs (disch:=first|omega|(simp only [lenr];try omega)) only [↓amPre,↓reduceIte,reduceCtorEq,Nat.reduceEqDiff,Nat.reduceBEq,Nat.reduceAdd,Nat.reduceLeDiff,Nat.reduceSub,Nat.reduceMul,Int.reduceToNat,MM,bu0,cbP3,f9,f8,f7,f3,m7,hmod,hfl,d2]
        repeat' (first|omega|rfl|exact i64c (by omega)|exact vic (by omega)|apply ai)
      · have d2:((((L.take k).filter fun l=>l.length % 2 == 0).length+1) % 2=1):=by omega
        rw [if_neg d] at f3
        simp -dsimp -implicitDefEqProofs (disch:=first|omega|(simp only [lenr];try omega)) only [↓amPre,↓reduceIte,reduceCtorEq,Nat.reduceEqDiff,Nat.reduceBEq,Nat.reduceAdd,Nat.reduceLeDiff,Nat.reduceSub,Nat.reduceMul,Int.reduceToNat,MM,bu0,cbP3,f9,f8,f7,f3,m7,hmod,hfl,d2]
        repeat' (first|omega|rfl|exact i64c (by omega)|exact vic (by omega)|apply ai)
    · have c1:(L.getD k default).length % 2=1:=by omega
      rw [c1] at hmod
      rw [if_neg c,Nat.add_zero] at hfl
      simp -dsimp -implicitDefEqProofs (disch:=first|omega|(simp only [lenr];try omega)) only [↓amPre,↓reduceIte,reduceCtorEq,Nat.reduceEqDiff,Nat.reduceBEq,Nat.reduceAdd,Nat.reduceLeDiff,Nat.reduceSub,Nat.reduceMul,Int.reduceToNat,MM,bu0,cbP3,f9,f8,f7,f3,m7,hmod,hfl]
      repeat' (first|omega|rfl|exact i64c (by omega)|exact vic (by omega)|apply ai)
  · have hke:k=L.length:=by omega
    subst hke
    rw [List.take_length] at f3
    simp -dsimp -implicitDefEqProofs (disch:=first|omega|(simp only [lenr];try omega)) only [↓amPre,↓reduceIte,reduceCtorEq,Nat.reduceEqDiff,Nat.reduceBEq,Nat.reduceAdd,Nat.reduceLeDiff,Nat.reduceSub,Nat.reduceMul,Int.reduceToNat,MM,bu0,cbP3,f9,f8,f7,f3,m7,hsg]
end Go.AM
set_option maxRecDepth 8000
namespace Go.AM
open Go.Proofs
def bitK (set:Int) (k:Nat):Bool:=bitsI .and .i64 (set.fdiv (2 ^ (min k 64))) 1 == 1
def oddS (s:List Twist) (set:Int):Nat→Nat
  | 0=>0
  | k+1=>oddS s set k+if bitK set k=true∧sgnI (s.getD k default).to<0 then 1 else 0
theorem oddS_le (s:List Twist) (set:Int):∀ k,oddS s set k≤k
  | 0=>Nat.le_refl _
  | k+1=>by have:=oddS_le s set k;rw [oddS];split <;> omega
def parS (s:List Twist) (set:Int):Int:=((oddS s set s.length % 2:Nat):Int)
theorem u64_small (k:Nat) (h:k≤3):IntKind.u64.wrap (k:Int)=k:=by
  match k,h with
  | 0,_=>rfl
  | 1,_=>rfl
  | 2,_=>rfl
  | 3,_=>rfl
theorem shl_small (k:Nat) (h:k≤3):IntKind.i64.wrap (1*2 ^ (min k 64))=((2 ^ k:Nat):Int):=by
  match k,h with
  | 0,_=>rfl
  | 1,_=>rfl
  | 2,_=>rfl
  | 3,_=>rfl
theorem sl22Parity (s:List Twist) (set:Int) (hs:s.length≤3) (hp:∀ t∈s,isPerm t.to):SpecAt Try.prog 223 [tsl s,.i64 set] (.i64 (parS s set)):=by
  have hb:IntKind.i64.bits=64:=rfl
  refine spec_of_awp (M:=MM) (np:=2) (fz:=true) mixed Try.func223 rfl rfl (by decide) rfl (Nat.le_refl _) (by decide +kernel) (.inr ⟨rfl,rfl⟩) trivial ?_
  simp -dsimp -implicitDefEqProofs (disch:=first|omega|(simp only [lenr];try omega)) only [↓amPre,↓reduceIte,reduceCtorEq,Nat.reduceEqDiff,Nat.reduceBEq,Nat.reduceAdd,Nat.reduceLeDiff,Nat.reduceSub,Nat.reduceMul,Int.reduceToNat,MM,bu0,cbP3]
  refine awp_loop (fun k st=>k≤s.length∧st.fr 6=.i64 k∧st.fr 5=.i64 (oddS s set k)∧st.fr 0=tsl s∧st.fr 1=.i64 set) (s.length) ?_ ?_
  · simp -dsimp -implicitDefEqProofs (disch:=first|omega|(simp only [lenr];try omega)) only [↓amPre,↓reduceIte,reduceCtorEq,Nat.reduceEqDiff,Nat.reduceBEq,Nat.reduceAdd,Nat.reduceLeDiff,Nat.reduceSub,Nat.reduceMul,Int.reduceToNat,MM,bu0,cbP3]
    simp [oddS]
  rintro k st _ ⟨hk,f6,f5,f0,f1⟩
  have hol:=oddS_le s set k
  by_cases hlt:k<s.length
  · have hu:=u64_small k (by omega)
    have hpk:=hp _ (mem_getD s k default hlt)
    have hst:oddS s set (k+1)=oddS s set k+if bitK set k=true∧sgnI (s.getD k default).to<0 then 1 else 0:=rfl
    cases hbk:bitK set k with
    | true =>
      have hbk':=hbk
      unfold bitK at hbk'
      simp -dsimp -implicitDefEqProofs (disch:=first|omega|(simp only [lenr];try omega)) only [↓amPre,↓reduceIte,reduceCtorEq,Nat.reduceEqDiff,Nat.reduceBEq,Nat.reduceAdd,Nat.reduceLeDiff,Nat.reduceSub,Nat.reduceMul,Int.reduceToNat,MM,bu0,cbP3,f6,f5,f0,f1,hb,hu,hbk']
      refine callP_of (sSign _ hpk) ?_
      by_cases hn:sgnI (s.getD k default).to<0
      · rw [hbk,if_pos ⟨rfl,hn⟩] at hst
        simp -dsimp -implicitDefEqProofs (disch:=first|omega|(simp only [lenr];try omega)) only [↓amPre,↓reduceIte,reduceCtorEq,Nat.reduceEqDiff,Nat.reduceBEq,Nat.reduceAdd,Nat.reduceLeDiff,Nat.reduceSub,Nat.reduceMul,Int.reduceToNat,MM,bu0,cbP3,f6,f5,f0,f1,hb,hu,hbk',lt_true hn,hst]
        repeat' (first|omega|rfl|exact i64c (by omega)|exact vic (by omega)|apply ai)
      · rw [hbk,if_neg (fun q=>hn q.2)] at hst
        simp -dsimp -implicitDefEqProofs (disch:=first|omega|(simp only [lenr];try omega)) only [↓amPre,↓reduceIte,reduceCtorEq,Nat.reduceEqDiff,Nat.reduceBEq,Nat.reduceAdd,Nat.reduceLeDiff,Nat.reduceSub,Nat.reduceMul,Int.reduceToNat,MM,bu0,cbP3,f6,f5,f0,f1,hb,hu,hbk',lt_false (Int.not_lt.1 hn),hst]
        repeat' (first|omega|rfl|exact i64c (by omega)|exact vic (by omega)|apply ai)
    | false =>
      have hbk':=hbk
      unfold bitK at hbk'
      rw [hbk,if_neg (fun q=>by cases q.1)] at hst
      simp -dsimp -implicitDefEqProofs (disch:=first|omega|(simp only [lenr];try omega)) only [↓amPre,↓reduceIte,reduceCtorEq,Nat.reduceEqDiff,Nat.reduceBEq,Nat.reduceAdd,Nat.reduceLeDiff,Nat.reduceSub,Nat.reduceMul,Int.reduceToNat,MM,bu0,cbP3,f6,f5,f0,f1,hb,hu,hbk',hst]
      repeat' (first|omega|rfl|exact i64c (by omega)|exact vic (by omega)|apply ai)
  · have hke:k=s.length:=by omega
    subst hke
    have hmod:((oddS s set s.length:Nat):Int).tmod 2=((oddS s set s.length % 2:Nat):Int):=by
      rw [Int.tmod_eq_emod_of_nonneg (by omega)];omega
    simp -dsimp -implicitDefEqProofs (disch:=first|omega|(simp only [lenr];try omega)) only [↓amPre,↓reduceIte,reduceCtorEq,Nat.reduceEqDiff,Nat.reduceBEq,Nat.reduceAdd,Nat.reduceLeDiff,Nat.reduceSub,Nat.reduceMul,Int.reduceToNat,MM,bu0,cbP3,f6,f5,f0,f1,hmod,parS]
theorem istateParity (s:List Twist) (set:Int) (hs:s.length≤3) (hp:∀ t∈s,isPerm t.to):SpecAt Try.prog 181 [tsl s,.i64 set] (.i64 (parS s set)):=by
  have hb:IntKind.i64.bits=64:=rfl
  have x0:bitsI .xor .i64 0 1=1:=rfl
  have x1:bitsI .xor .i64 1 1=0:=rfl
  refine spec_of_awp (M:=MM) (np:=2) (fz:=true) mixed Try.func181 rfl rfl (by decide) rfl (Nat.le_refl _) (by decide +kernel) (.inr ⟨rfl,rfl⟩) trivial ?_
  simp -dsimp -implicitDefEqProofs (disch:=first|omega|(simp only [lenr];try omega)) only [↓amPre,↓reduceIte,reduceCtorEq,Nat.reduceEqDiff,Nat.reduceBEq,Nat.reduceAdd,Nat.reduceLeDiff,Nat.reduceSub,Nat.reduceMul,Int.reduceToNat,MM,bu0,cbP3]
  refine awp_loop (fun k st=>k≤s.length∧st.fr 10=.i64 k∧st.fr 9=.i64 s.length∧st.fr 8=tsl s∧st.fr 1=.i64 set∧st.fr 5=.i64 (oddS s set k % 2:Nat)) (s.length) ?_ ?_
  · simp -dsimp -implicitDefEqProofs (disch:=first|omega|(simp only [lenr];try omega)) only [↓amPre,↓reduceIte,reduceCtorEq,Nat.reduceEqDiff,Nat.reduceBEq,Nat.reduceAdd,Nat.reduceLeDiff,Nat.reduceSub,Nat.reduceMul,Int.reduceToNat,MM,bu0,cbP3]
    simp [oddS]
  rintro k st _ ⟨hk,f10,f9,f8,f1,f5⟩
  have hol:=oddS_le s set k
  by_cases hlt:k<s.length
  · have hpk:=hp _ (mem_getD s k default hlt)
    have hst:oddS s set (k+1)=oddS s set k+if bitK set k=true∧sgnI (s.getD k default).to<0 then 1 else 0:=rfl
    cases hbk:bitK set k with
    | true =>
      have hbk':=hbk
      unfold bitK at hbk'
      simp -dsimp -implicitDefEqProofs (disch:=first|omega|(simp only [lenr];try omega)) only [↓amPre,↓reduceIte,reduceCtorEq,Nat.reduceEqDiff,Nat.reduceBEq,Nat.reduceAdd,Nat.reduceLeDiff,Nat.reduceSub,Nat.reduceMul,Int.reduceToNat,MM,bu0,cbP3,f10,f9,f8,f1,f5,hb,hbk']
      refine callP_of (isign _ hpk) ?_
      by_cases hn:sgnI (s.getD k default).to<0
      · rw [hbk,if_pos ⟨rfl,hn⟩] at hst
        by_cases hpar:oddS s set k % 2=1
        · have e:oddS s set (k+1) % 2=0:=by omega
          rw [hpar] at f5
          simp -dsimp -implicitDefEqProofs (disch:=first|omega|(simp only [lenr];try omega)) only [↓amPre,↓reduceIte,reduceCtorEq,Nat.reduceEqDiff,Nat.reduceBEq,Nat.reduceAdd,Nat.reduceLeDiff,Nat.reduceSub,Nat.reduceMul,Int.reduceToNat,MM,bu0,cbP3,f10,f9,f8,f1,f5,hb,hbk',lt_true hn,e,x1]
          repeat' (first|omega|rfl|exact i64c (by omega)|exact vic (by omega)|apply ai)
        · have hp0:oddS s set k % 2=0:=by omega
          have e:oddS s set (k+1) % 2=1:=by omega
          rw [hp0] at f5
          simp -dsimp -implicitDefEqProofs (disch:=first|omega|(simp only [lenr];try omega)) only [↓amPre,↓reduceIte,reduceCtorEq,Nat.reduceEqDiff,Nat.reduceBEq,Nat.reduceAdd,Nat.reduceLeDiff,Nat.reduceSub,Nat.reduceMul,Int.reduceToNat,MM,bu0,cbP3,f10,f9,f8,f1,f5,hb,hbk',lt_true hn,e,x0]
          repeat' (first|omega|rfl|exact i64c (by omega)|exact vic (by omega)|apply ai)
      · rw [hbk,if_neg (fun q=>hn q.2)] at hst
        simp -dsimp -implicitDefEqProofs (disch:=first|omega|(simp only [lenr];try omega)) only [↓amPre,↓reduceIte,reduceCtorEq,Nat.reduceEqDiff,Nat.reduceBEq,Nat.reduceAdd,Nat.reduceLeDiff,Nat.reduceSub,Nat.reduceMul,Int.reduceToNat,MM,bu0,cbP3,f10,f9,f8,f1,f5,hb,hbk',lt_false (Int.not_lt.1 hn),hst]
        repeat' (first|omega|rfl|exact i64c (by omega)|exact vic (by omega)|apply ai)
    | false =>
      have hbk':=hbk
      unfold bitK at hbk'
      rw [hbk,if_neg (fun q=>by cases q.1)] at hst
      simp -dsimp -implicitDefEqProofs (disch:=first|omega|(simp only [lenr];try omega)) only [↓amPre,↓reduceIte,reduceCtorEq,Nat.reduceEqDiff,Nat.reduceBEq,Nat.reduceAdd,Nat.reduceLeDiff,Nat.reduceSub,Nat.reduceMul,Int.reduceToNat,MM,bu0,cbP3,f10,f9,f8,f1,f5,hb,hbk',hst]
      repeat' (first|omega|rfl|exact i64c (by omega)|exact vic (by omega)|apply ai)
  · have hke:k=s.length:=by omega
    subst hke
    simp -dsimp -implicitDefEqProofs (disch:=first|omega|(simp only [lenr];try omega)) only [↓amPre,↓reduceIte,reduceCtorEq,Nat.reduceEqDiff,Nat.reduceBEq,Nat.reduceAdd,Nat.reduceLeDiff,Nat.reduceSub,Nat.reduceMul,Int.reduceToNat,MM,bu0,cbP3,f10,f9,f8,f1,f5,parS]
theorem sl22Sets (ks:List Kind) (h:kindsOk ks):SpecAt Try.prog 177 [ksl ks] (.i64 (2 ^ ks.length:Nat)):=by
  have hu:=u64_small ks.length h.1.2
  have hs:=shl_small ks.length h.1.2
  have hb:IntKind.i64.bits=64:=rfl
  refine spec_of_awp (M:=MM) (np:=1) (fz:=true) mixed Try.func177 rfl rfl (by decide) rfl (Nat.le_refl _) (by decide +kernel) (.inr ⟨rfl,rfl⟩) trivial ?_
  simp -dsimp -implicitDefEqProofs (disch:=first|omega|(simp only [lenr];try omega)) only [↓amPre,↓reduceIte,reduceCtorEq,Nat.reduceEqDiff,Nat.reduceBEq,Nat.reduceAdd,Nat.reduceLeDiff,Nat.reduceSub,Nat.reduceMul,Int.reduceToNat,MM,bu0,cbP3,hu,hs,hb]
theorem pow_small {k:Nat} (h:k≤3):(2:Nat) ^ k≤8∧1≤(2:Nat) ^ k:=⟨Nat.pow_le_pow_right (n:=2) (by decide) h,Nat.pow_pos (by decide)⟩
theorem iisKindSet (ks:List Kind) (set:Int) (h:kindsOk ks):SpecAt Try.prog 180 [ksl ks,.i64 set] (.bl (within set 1 (((2 ^ ks.length:Nat):Int) - 1))):=by
  have hs:=shl_small ks.length h.1.2
  have hb:IntKind.i64.bits=64:=rfl
  have hpw:=pow_small h.1.2
  refine spec_of_awp (M:=MM) (np:=2) (fz:=true) mixed Try.func180 rfl rfl (by decide) rfl (Nat.le_refl _) (by decide +kernel) (.inr ⟨rfl,rfl⟩) trivial ?_
  simp -dsimp -implicitDefEqProofs (disch:=first|omega|(simp only [lenr];try omega)) only [↓amPre,↓reduceIte,reduceCtorEq,Nat.reduceEqDiff,Nat.reduceBEq,Nat.reduceAdd,Nat.reduceLeDiff,Nat.reduceSub,Nat.reduceMul,Int.reduceToNat,MM,bu0,cbP3,hs,hb]
  refine callP_of (iwithin _ _ _) ?_
  simp -dsimp -implicitDefEqProofs (disch:=first|omega|(simp only [lenr];try omega)) only [↓amPre,↓reduceIte,reduceCtorEq,Nat.reduceEqDiff,Nat.reduceBEq,Nat.reduceAdd,Nat.reduceLeDiff,Nat.reduceSub,Nat.reduceMul,Int.reduceToNat,MM,bu0,cbP3]
def parR (ks:List Kind) (s:List Twist) (set:Int):Int:=if psOk ks s∧1≤set∧set≤((2 ^ ks.length:Nat):Int) - 1 then parS s set else -1
theorem ps_perms {ks:List Kind} {s:List Twist} (h:psOk ks s):s.length≤3∧∀ t∈s,isPerm t.to:=by
  refine ⟨by have:=h.2.1;have:=h.1.1.2;omega,fun t ht=>?_⟩
  obtain ⟨i,hi,rfl⟩:=List.getElem_of_mem ht
  have:=(h.2.2 i (by have:=h.2.1;omega)).2.2.1
  rwa [getD_eq s i default hi] at this
theorem iStateParity (ks:List Kind) (s:List Twist) (set:Int) (h1:ks.length≤1099511627776) (ha:smallT s) (hset:intOk set):SpecAt Try.prog 91 [ksl ks,tsl s,.i64 set] (.i64 (parR ks s set)):=by
  refine spec_of_awp (M:=MM) (np:=3) (fz:=true) mixed Try.func91 rfl rfl (by decide) rfl (Nat.le_refl _) (by decide +kernel) (.inr ⟨rfl,rfl⟩) trivial ?_
  simp -dsimp -implicitDefEqProofs (disch:=first|omega|(simp only [lenr];try omega)) only [↓amPre,↓reduceIte,reduceCtorEq,Nat.reduceEqDiff,Nat.reduceBEq,Nat.reduceAdd,Nat.reduceLeDiff,Nat.reduceSub,Nat.reduceMul,Int.reduceToNat,MM,bu0,cbP3]
  refine callP_of (iIsPieceState ks s h1 ha.1 ha.2) ?_
  by_cases ps:psOk ks s
  case neg =>
    have hR:parR ks s set = -1:=if_neg fun h=>ps h.1
    simp -dsimp -implicitDefEqProofs (disch:=first|omega|(simp only [lenr];try omega)) only [↓amPre,↓reduceIte,reduceCtorEq,Nat.reduceEqDiff,Nat.reduceBEq,Nat.reduceAdd,Nat.reduceLeDiff,Nat.reduceSub,Nat.reduceMul,Int.reduceToNat,MM,bu0,cbP3,ps,hR]
  simp -dsimp -implicitDefEqProofs (disch:=first|omega|(simp only [lenr];try omega)) only [↓amPre,↓reduceIte,reduceCtorEq,Nat.reduceEqDiff,Nat.reduceBEq,Nat.reduceAdd,Nat.reduceLeDiff,Nat.reduceSub,Nat.reduceMul,Int.reduceToNat,MM,bu0,cbP3,ps]
  refine callP_of (iisKindSet ks set ps.1) ?_
  by_cases c:1≤set∧set≤((2 ^ ks.length:Nat):Int) - 1
  · have hR:parR ks s set=_:=if_pos ⟨ps,c⟩
    have w:=within_iff.2 c
    simp -dsimp -implicitDefEqProofs (disch:=first|omega|(simp only [lenr];try omega)) only [↓amPre,↓reduceIte,reduceCtorEq,Nat.reduceEqDiff,Nat.reduceBEq,Nat.reduceAdd,Nat.reduceLeDiff,Nat.reduceSub,Nat.reduceMul,Int.reduceToNat,MM,bu0,cbP3,ps,w]
    refine callP_of (istateParity s set (ps_perms ps).1 (ps_perms ps).2) ?_
    simp -dsimp -implicitDefEqProofs (disch:=first|omega|(simp only [lenr];try omega)) only [↓amPre,↓reduceIte,reduceCtorEq,Nat.reduceEqDiff,Nat.reduceBEq,Nat.reduceAdd,Nat.reduceLeDiff,Nat.reduceSub,Nat.reduceMul,Int.reduceToNat,MM,bu0,cbP3,hR]
  · have hR:parR ks s set = -1:=if_neg fun h=>c h.2
    have w:within set 1 (((2 ^ ks.length:Nat):Int) - 1)=false:=within_not.2 c
    simp -dsimp -implicitDefEqProofs (disch:=first|omega|(simp only [lenr];try omega)) only [↓amPre,↓reduceIte,reduceCtorEq,Nat.reduceEqDiff,Nat.reduceBEq,Nat.reduceAdd,Nat.reduceLeDiff,Nat.reduceSub,Nat.reduceMul,Int.reduceToNat,MM,bu0,cbP3,ps,w,hR]
theorem sStateParity (ks:List Kind) (s:List Twist) (set:Int) (h1:ks.length≤1099511627776) (ha:smallT s) (hset:intOk set):SpecAt Try.prog 169 [ksl ks,tsl s,.i64 set] (.i64 (parR ks s set)):=by
  refine spec_of_awp (M:=MM) (np:=3) (fz:=true) mixed Try.func169 rfl rfl (by decide) rfl (Nat.le_refl _) (by decide +kernel) (.inr ⟨rfl,rfl⟩) trivial ?_
  simp -dsimp -implicitDefEqProofs (disch:=first|omega|(simp only [lenr];try omega)) only [↓amPre,↓reduceIte,reduceCtorEq,Nat.reduceEqDiff,Nat.reduceBEq,Nat.reduceAdd,Nat.reduceLeDiff,Nat.reduceSub,Nat.reduceMul,Int.reduceToNat,MM,bu0,cbP3]
  refine callP_of (sIsPieceState ks s h1 ha.1 ha.2) ?_
  by_cases ps:psOk ks s
  case neg =>
    have hR:parR ks s set = -1:=if_neg fun h=>ps h.1
    simp -dsimp -implicitDefEqProofs (disch:=first|omega|(simp only [lenr];try omega)) only [↓amPre,↓reduceIte,reduceCtorEq,Nat.reduceEqDiff,Nat.reduceBEq,Nat.reduceAdd,Nat.reduceLeDiff,Nat.reduceSub,Nat.reduceMul,Int.reduceToNat,MM,bu0,cbP3,ps,hR]
  have hpw:=pow_small ps.1.1.2
  simp -dsimp -implicitDefEqProofs (disch:=first|omega|(simp only [lenr];try omega)) only [↓amPre,↓reduceIte,reduceCtorEq,Nat.reduceEqDiff,Nat.reduceBEq,Nat.reduceAdd,Nat.reduceLeDiff,Nat.reduceSub,Nat.reduceMul,Int.reduceToNat,MM,bu0,cbP3,ps]
  refine callP_of (sl22Sets ks ps.1) ?_
  simp -dsimp -implicitDefEqProofs (disch:=first|omega|(simp only [lenr];try omega)) only [↓amPre,↓reduceIte,reduceCtorEq,Nat.reduceEqDiff,Nat.reduceBEq,Nat.reduceAdd,Nat.reduceLeDiff,Nat.reduceSub,Nat.reduceMul,Int.reduceToNat,MM,bu0,cbP3,ps]
  refine callP_of (inRange _ _ _) ?_
  by_cases c:1≤set∧set≤((2 ^ ks.length:Nat):Int) - 1
  · have hR:parR ks s set=_:=if_pos ⟨ps,c⟩
    have w:=within_iff.2 c
    simp -dsimp -implicitDefEqProofs (disch:=first|omega|(simp only [lenr];try omega)) only [↓amPre,↓reduceIte,reduceCtorEq,Nat.reduceEqDiff,Nat.reduceBEq,Nat.reduceAdd,Nat.reduceLeDiff,Nat.reduceSub,Nat.reduceMul,Int.reduceToNat,MM,bu0,cbP3,ps,w]
    refine callP_of (sl22Parity s set (ps_perms ps).1 (ps_perms ps).2) ?_
    simp -dsimp -implicitDefEqProofs (disch:=first|omega|(simp only [lenr];try omega)) only [↓amPre,↓reduceIte,reduceCtorEq,Nat.reduceEqDiff,Nat.reduceBEq,Nat.reduceAdd,Nat.reduceLeDiff,Nat.reduceSub,Nat.reduceMul,Int.reduceToNat,MM,bu0,cbP3,hR]
  · have hR:parR ks s set = -1:=if_neg fun h=>c h.2
    have w:within set 1 (((2 ^ ks.length:Nat):Int) - 1)=false:=within_not.2 c
    simp -dsimp -implicitDefEqProofs (disch:=first|omega|(simp only [lenr];try omega)) only [↓amPre,↓reduceIte,reduceCtorEq,Nat.reduceEqDiff,Nat.reduceBEq,Nat.reduceAdd,Nat.reduceLeDiff,Nat.reduceSub,Nat.reduceMul,Int.reduceToNat,MM,bu0,cbP3,ps,w,hR]
end Go.AM
set_option maxRecDepth 8000
namespace Go.AM
open Go.Proofs
def invV (ks:List Kind) (s:List Twist) (i:Invar):Int:=if i.k=1 then twR ks s i.s else if i.k=2 then parR ks s i.s else -1
theorem iInvariantValue (ks:List Kind) (s:List Twist) (i:Invar) (h1:ks.length≤1099511627776) (ha:smallT s) (hi:intOk i.s):SpecAt Try.prog 22 [ksl ks,tsl s,i.av] (.i64 (invV ks s i)):=by
  refine spec_of_awp (M:=MM) (np:=3) (fz:=true) mixed Try.func22 rfl rfl (by decide) rfl (Nat.le_refl _) (by decide +kernel) (.inr ⟨rfl,rfl⟩) trivial ?_
  simp -dsimp -implicitDefEqProofs (disch:=first|omega|(simp only [lenr];try omega)) only [↓amPre,↓reduceIte,reduceCtorEq,Nat.reduceEqDiff,Nat.reduceBEq,Nat.reduceAdd,Nat.reduceLeDiff,Nat.reduceSub,Nat.reduceMul,Int.reduceToNat,MM,bu0,cbP3]
  by_cases c1:i.k=1
  · simp -dsimp -implicitDefEqProofs (disch:=first|omega|(simp only [lenr];try omega)) only [↓amPre,↓reduceIte,reduceCtorEq,Nat.reduceEqDiff,Nat.reduceBEq,Nat.reduceAdd,Nat.reduceLeDiff,Nat.reduceSub,Nat.reduceMul,Int.reduceToNat,MM,bu0,cbP3,eq_true c1]
    refine callP_of (itwistSumR ks s i.s h1 ha) ?_
    simp -dsimp -implicitDefEqProofs (disch:=first|omega|(simp only [lenr];try omega)) only [↓amPre,↓reduceIte,reduceCtorEq,Nat.reduceEqDiff,Nat.reduceBEq,Nat.reduceAdd,Nat.reduceLeDiff,Nat.reduceSub,Nat.reduceMul,Int.reduceToNat,MM,bu0,cbP3,invV,if_pos c1]
  · by_cases c2:i.k=2
    · simp -dsimp -implicitDefEqProofs (disch:=first|omega|(simp only [lenr];try omega)) only [↓amPre,↓reduceIte,reduceCtorEq,Nat.reduceEqDiff,Nat.reduceBEq,Nat.reduceAdd,Nat.reduceLeDiff,Nat.reduceSub,Nat.reduceMul,Int.reduceToNat,MM,bu0,cbP3,eq_false c1,eq_true c2]
      refine callP_of (iStateParity ks s i.s h1 ha hi) ?_
      simp -dsimp -implicitDefEqProofs (disch:=first|omega|(simp only [lenr];try omega)) only [↓amPre,↓reduceIte,reduceCtorEq,Nat.reduceEqDiff,Nat.reduceBEq,Nat.reduceAdd,Nat.reduceLeDiff,Nat.reduceSub,Nat.reduceMul,Int.reduceToNat,MM,bu0,cbP3,invV,if_neg c1,if_pos c2]
    · simp -dsimp -implicitDefEqProofs (disch:=first|omega|(simp only [lenr];try omega)) only [↓amPre,↓reduceIte,reduceCtorEq,Nat.reduceEqDiff,Nat.reduceBEq,Nat.reduceAdd,Nat.reduceLeDiff,Nat.reduceSub,Nat.reduceMul,Int.reduceToNat,MM,bu0,cbP3,eq_false c1,eq_false c2,invV,if_neg c1,if_neg c2]
theorem sInvariantValue (ks:List Kind) (s:List Twist) (i:Invar) (h1:ks.length≤1099511627776) (ha:smallT s) (hi:intOk i.s):SpecAt Try.prog 77 [ksl ks,tsl s,i.av] (.i64 (invV ks s i)):=by
  refine spec_of_awp (M:=MM) (np:=3) (fz:=true) mixed Try.func77 rfl rfl (by decide) rfl (Nat.le_refl _) (by decide +kernel) (.inr ⟨rfl,rfl⟩) trivial ?_
  simp -dsimp -implicitDefEqProofs (disch:=first|omega|(simp only [lenr];try omega)) only [↓amPre,↓reduceIte,reduceCtorEq,Nat.reduceEqDiff,Nat.reduceBEq,Nat.reduceAdd,Nat.reduceLeDiff,Nat.reduceSub,Nat.reduceMul,Int.reduceToNat,MM,bu0,cbP3]
  by_cases c1:i.k=1
  · simp -dsimp -implicitDefEqProofs (disch:=first|omega|(simp only [lenr];try omega)) only [↓amPre,↓reduceIte,reduceCtorEq,Nat.reduceEqDiff,Nat.reduceBEq,Nat.reduceAdd,Nat.reduceLeDiff,Nat.reduceSub,Nat.reduceMul,Int.reduceToNat,MM,bu0,cbP3,eq_true c1]
    refine callP_of (stwistSumR ks s i.s h1 ha) ?_
    simp -dsimp -implicitDefEqProofs (disch:=first|omega|(simp only [lenr];try omega)) only [↓amPre,↓reduceIte,reduceCtorEq,Nat.reduceEqDiff,Nat.reduceBEq,Nat.reduceAdd,Nat.reduceLeDiff,Nat.reduceSub,Nat.reduceMul,Int.reduceToNat,MM,bu0,cbP3,invV,if_pos c1]
  · by_cases c2:i.k=2
    · simp -dsimp -implicitDefEqProofs (disch:=first|omega|(simp only [lenr];try omega)) only [↓amPre,↓reduceIte,reduceCtorEq,Nat.reduceEqDiff,Nat.reduceBEq,Nat.reduceAdd,Nat.reduceLeDiff,Nat.reduceSub,Nat.reduceMul,Int.reduceToNat,MM,bu0,cbP3,eq_false c1,eq_true c2]
      refine callP_of (sStateParity ks s i.s h1 ha hi) ?_
      simp -dsimp -implicitDefEqProofs (disch:=first|omega|(simp only [lenr];try omega)) only [↓amPre,↓reduceIte,reduceCtorEq,Nat.reduceEqDiff,Nat.reduceBEq,Nat.reduceAdd,Nat.reduceLeDiff,Nat.reduceSub,Nat.reduceMul,Int.reduceToNat,MM,bu0,cbP3,invV,if_neg c1,if_pos c2]
    · simp -dsimp -implicitDefEqProofs (disch:=first|omega|(simp only [lenr];try omega)) only [↓amPre,↓reduceIte,reduceCtorEq,Nat.reduceEqDiff,Nat.reduceBEq,Nat.reduceAdd,Nat.reduceLeDiff,Nat.reduceSub,Nat.reduceMul,Int.reduceToNat,MM,bu0,cbP3,eq_false c1,eq_false c2,invV,if_neg c1,if_neg c2]
end Go.AM
