/-
  CONTRACTS of functions of the program,and what they compute,by content.
-/
import Derived.Test.YtenlmhbkigfjeaaM2Tool
import Derived.Test.YtenlmhbkigfjeaaM2Facts
import Derived.Test.YtenlmhbkigfjeaaM2SD
import Derived.Sort.Grow
import Derived.Deep.Draws
import Derived.Lib.LaidTab
import Derived.Sort.Row
import Derived.Shelf.SlicesE.DeleteFunc
import Derived.Shelf.GgClosure.Gives
import Derived.Lib.SliceRun
import Derived.Shelf.SortM.Plain
import Derived.Shelf.SortM.SortNone
set_option linter.unusedVariables false
set_option linter.unusedSimpArgs false
namespace Go.AM
/-! content: lists of numbers,lists of things -/
abbrev ints (l:List Int):List AV:=l.map AV.i64
abbrev isl (l:List Int):AV:=.sl 1 (l.map AV.i64)
abbrev itr (l:List Int):AV:=.tr 1 (l.map AV.i64)
class Thing (α:Type) extends Inhabited α
instance:Thing (List Int):=⟨⟩
instance:Thing (List (List Int)):=⟨⟩
theorem gm {α:Type} [Thing α] (f:α→AV) (l:List α) (i:Nat) (h:i<l.length):(l.map f).getD i .any=f (l.getD i default):=by
  simp [List.getD,h]
theorem gi (l:List Int) (i:Nat) (h:i<l.length):(l.map AV.i64).getD i .any=.i64 (l.getD i 0):=by
  simp [List.getD,h]
theorem set_map {α:Type} (f:α→AV) (l:List α) (i:Nat) (x:α):(l.map f).set i (f x)=(l.set i x).map f:=by
  rw [List.map_set]
theorem map_snoc {α:Type} (f:α→AV) (l:List α) (x:α):l.map f++[f x]=(l++[x]).map f:=by simp
theorem map_take {α:Type} (f:α→AV) (l:List α) (n:Nat):(l.map f).take n=(l.take n).map f:=by rw [List.map_take]
theorem map_drop {α:Type} (f:α→AV) (l:List α) (n:Nat):(l.map f).drop n=(l.drop n).map f:=by rw [List.map_drop]
theorem take_map_all {α:Type} (f:α→AV) (l:List α) (n:Nat) (h:n=l.length):(l.map f).take n=l.map f:=by
  rw [List.take_of_length_le];simp;omega
theorem ints_fz (l:List Int):(l.map AV.i64).map AV.fz=l.map AV.i64:=by simp [fz_v]
theorem i64c {a b:Int} (h:a=b):AV.i64 a=AV.i64 b:=by rw [h]
theorem vic {k:IntKind} {a b:Int} (h:a=b):Value.int k a=Value.int k b:=by rw [h]
theorem cast1 (j:Nat):((j:Int)+1)=((j+1:Nat):Int):=by simp
theorem bl_eq {a b:Bool} (h:a=true↔b=true):Value.bool a=Value.bool b:=by rw [Bool.eq_iff_iff.2 h]
theorem getD_eq {α:Type} (l:List α) (i:Nat) (d:α) (h:i<l.length):l.getD i d=l[i]:=by simp [List.getD,h]
theorem take_succ_eq {α:Type} (l:List α) (i:Nat) (d:α) (h:i<l.length):l.take (i+1)=l.take i++[l.getD i d]:=by
  rw [List.take_succ_eq_append_getElem h,getD_eq l i d h]
theorem mem_take_succ {α:Type} {l:List α} {i:Nat} {d:α} (h:i<l.length) {p:α→Prop}:(∀ x∈l.take (i+1),p x)↔(∀ x∈l.take i,p x)∧p (l.getD i d):=by
  rw [take_succ_eq l i d h]
  constructor
  · intro q;exact ⟨fun x hx=>q x (by simp [hx]),q _ (by simp)⟩
  · rintro ⟨q1,q2⟩ x hx
    rcases List.mem_append.1 hx with hx | hx
    · exact q1 x hx
    · rw [List.mem_singleton.1 hx];exact q2
theorem take_eq_iff {α:Type} {a b:List α} (d:α) (k:Nat) (hk:k<a.length) (hk':k<b.length):a.take (k+1)=b.take (k+1)↔a.take k=b.take k∧a.getD k d=b.getD k d:=by
  rw [take_succ_eq a k d hk,take_succ_eq b k d hk']
  constructor
  · intro h
    obtain ⟨h1,h2⟩:=List.append_inj h (by simp;omega)
    exact ⟨h1,by simpa using h2⟩
  · rintro ⟨h1,h2⟩;rw [h1,h2]
theorem eq_of_takes {α:Type} {a b:List α} (hl:a.length=b.length) (h:a.take a.length=b.take a.length):a=b:=by
  have e1:a.take a.length=a:=List.take_length
  have e2:b.take a.length=b:=by rw [hl];exact List.take_length
  rw [← e1,← e2];exact h
def runI (k:Int) (n:Nat):List Int:=(List.range n).map fun i=>k+(i:Nat)
theorem runI_len (k:Int) (n:Nat):(runI k n).length=n:=by simp [runI]
theorem runI_get (k:Int) (n i:Nat) (h:i<n):(runI k n).getD i 0=k+i:=by simp [runI,List.getD,h]
def mixL {α:Type} (a b:List α) (n:Nat):List α:=a.take n++b.drop n
theorem mixL_zero {α:Type} (a b:List α):mixL a b 0=b:=by simp [mixL]
theorem mixL_all {α:Type} (a b:List α) (n:Nat) (h:a.length≤n) (h':b.length≤n):mixL a b n=a:=by
  simp [mixL,List.take_of_length_le h,List.drop_of_length_le h']
theorem mixL_len {α:Type} (a b:List α) (n:Nat) (h:a.length=b.length):(mixL a b n).length=b.length:=by
  simp [mixL];omega
theorem mixL_set {α:Type} (a b:List α) (n:Nat) (d:α) (h:a.length=b.length) (hn:n<b.length):(mixL a b n).set n (a.getD n d)=mixL a b (n+1):=by
  apply List.ext_getElem
  · simp [mixL];omega
  · intro i h1 h2
    simp only [mixL,List.getElem_set,List.getElem_append,List.length_take,List.getElem_take,List.getElem_drop]
    have hd:a.getD n d=a[n]'(by omega):=getD_eq a n d (by omega)
    by_cases e:n=i
    · subst e;rw [if_pos rfl,dif_pos (by omega)];exact hd
    · by_cases hlt:i<n
      · rw [if_neg e,dif_pos (by omega),dif_pos (by omega)]
      · rw [if_neg e,dif_neg (by omega),dif_neg (by omega)]
        congr 1;omega
def szR (k:Int) (n:Nat):Int:=if k - n<0 then -1 else k - n
def within (x lo hi:Int):Bool:=decide (lo≤x) && decide (x≤hi)
theorem within_iff {x lo hi:Int}:within x lo hi=true↔lo≤x∧x≤hi:=by simp [within]
theorem within_not {x lo hi:Int}:within x lo hi=false↔¬ (lo≤x∧x≤hi):=by rw [← within_iff];simp
theorem getD_set_same {α:Type} (l:List α) (i:Nat) (x d:α) (h:i<l.length):(l.set i x).getD i d=x:=by simp [List.getD,h]
theorem getD_set_ne {α:Type} (l:List α) (i j:Nat) (x d:α) (h:i≠j):(l.set i x).getD j d=l.getD j d:=by simp [List.getD,List.getElem?_set_ne h]
/-! things that are marked: each number of them gets one of its own -/
class Mk (α:Type) extends Thing α where
  mrk:Int→α→α
  cnt:α→Nat
instance:Mk (List Int):={ mrk:=fun k l=>runI k l.length,cnt:=List.length }
section
variable {α:Type} [Mk α]
def mks (k:Int):List α→List α
  | []=>[]
  | a :: r=>Mk.mrk k a :: mks (k+Mk.cnt a) r
def cnts:List α→Nat
  | []=>0
  | a :: r=>Mk.cnt a+cnts r
theorem mks_len:∀ (k:Int) (l:List α),(mks k l).length=l.length
  | _,[]=>rfl
  | k,a :: r=>by rw [mks,List.length_cons,List.length_cons,mks_len]
instance:Mk (List α):={ mrk:=mks,cnt:=cnts }
end
def sizeL {α:Type} [Mk α] (l:List α):Nat:=l.length+cnts l
theorem mem_getD {α:Type} (l:List α) (i:Nat) (d:α) (h:i<l.length):l.getD i d∈l:=by rw [getD_eq l i d h];exact List.getElem_mem h
theorem hdV (x d:Value) (l:List Value):(x :: l).headD d=x:=rfl
theorem repI (n:Nat) (x:Int):List.replicate n (AV.v (.int .i64 x))=(List.replicate n x).map AV.i64:=by simp
theorem bbeq (b:Bool):(b == b)=true:=by cases b <;> rfl
theorem lenr:type_of% (And.intro (@List.length_map.{0,0}) (And.intro (@List.length_set.{0}) (And.intro (@List.length_append.{0}) (And.intro (@List.length_cons.{0}) (And.intro (@List.length_nil.{0}) (And.intro (@List.length_replicate.{0}) (And.intro (@List.length_take.{0}) (And.intro runI_len (And.intro (@mks_len) (And.intro (@List.length_range) (@List.length_drop.{0}))))))))))) :=
  And.intro (@List.length_map.{0,0}) (And.intro (@List.length_set.{0}) (And.intro (@List.length_append.{0}) (And.intro (@List.length_cons.{0}) (And.intro (@List.length_nil.{0}) (And.intro (@List.length_replicate.{0}) (And.intro (@List.length_take.{0}) (And.intro runI_len (And.intro (@mks_len) (And.intro (@List.length_range) (@List.length_drop.{0}))))))))))
theorem bu0:type_of% (And.intro gi (And.intro @gm (And.intro @set_map (And.intro @map_snoc (And.intro @take_map_all (And.intro @map_take (And.intro @map_drop (And.intro ints_fz (And.intro cast1 (And.intro @getD_set_same (And.intro (@List.set_set.{0}) (And.intro hdV (And.intro repI (And.intro (@List.take_of_length_le.{0}) bbeq)))))))))))))) :=
  And.intro gi (And.intro @gm (And.intro @set_map (And.intro @map_snoc (And.intro @take_map_all (And.intro @map_take (And.intro @map_drop (And.intro ints_fz (And.intro cast1 (And.intro @getD_set_same (And.intro (@List.set_set.{0}) (And.intro hdV (And.intro repI (And.intro (@List.take_of_length_le.{0}) bbeq)))))))))))))
end Go.AM
set_option maxRecDepth 8000
namespace Go.AM
open Go.Proofs
def MM:FuncId→List Bool:=fun f=>if f=56 then [true,false] else if f=114 then [true,false] else if f=194 then [true,false] else if f=116 then [true,false] else if f=40 then [true,false] else if f=63 then [true,false] else if f=115 then [true,false] else if f=39 then [true,false] else if f=213 then [true] else if f=196 then [true,false] else []
abbrev big:Int:=1099511627776
end Go.AM
set_option maxRecDepth 8000
namespace Go.AM
namespace Draws
open Go.Proofs
def MM:FuncId→List Bool:=fun f=>if f=229 then [true] else if f=184 then [true,false] else if f=163 then [true,false] else if f=185 then [true,false,false] else if f=186 then [true,false] else if f=230 then [true] else if f=228 then [true] else if f=221 then [true,false] else if f=162 then [true,true] else if f=183 then [true] else if f=93 then [true] else if f=79 then [true] else []
structure Src where
  b:List UInt8
  k:Nat
  s:Int
abbrev bsl (l:List UInt8):AV:=.sl 1 (l.map fun x=>.u8 x.toNat)
abbrev Src.pt (s:Src):AV:=.pt 3 (.agg [bsl s.b,.i64 s.k,.i64 s.s])
abbrev Src.ok (s:Src):Prop:=s.b.length≤4096∧s.k≤s.b.length∧intOk s.s
instance:Thing UInt8:=⟨⟩
def nxS (s:Int):Int:=IntKind.i64.wrap (IntKind.i64.wrap (s*6364136223846793005)+1442695040888963407)
def nxX (s:Int):Int:=bitsI .and .i64 (bitsI .xor .i64 (s.fdiv (2 ^ (min 33 64))) (s.fdiv (2 ^ (min 45 64)))) 255
theorem and255 (a:Int):0≤bitsI .and .i64 a 255∧bitsI .and .i64 a 255≤255:=by
  have h:(BitVec.ofInt 64 a &&& BitVec.ofInt 64 255).toNat≤255:=by
    rw [BitVec.toNat_and]
    exact Nat.le_trans Nat.and_le_right (by decide)
  have e:bitsI .and .i64 a 255=((BitVec.ofInt 64 a &&& BitVec.ofInt 64 255).toNat:Int):=by
    show IntKind.i64.wrap ((BitVec.ofInt 64 a &&& BitVec.ofInt 64 255).toNat:Int)=_
    apply wrap64_id;omega
  rw [e];omega
theorem wrap_ok (x:Int):intOk (IntKind.i64.wrap x):=by
  unfold intOk IntKind.wrap
  simp only [IntKind.signed,IntKind.bits,Bool.true_and,decide_eq_true_eq,ge_iff_le,Nat.reduceSub,Int.reducePow,Nat.reducePow]
  constructor <;> split <;> omega
theorem nextByte (s:Src) (h:s.ok):∃ (s':Src) (x:Int),SpecX Try.prog 229 [s.pt] [some s'.pt] (.i64 x)∧s'.ok∧0≤x∧x≤255:=by
  have h1:=h.1
  have h2:=h.2.1
  have h3:=h.2.2
  have hb:IntKind.i64.bits=64:=rfl
  have hw:intOk (nxS s.s):=wrap_ok _
  have ha:=and255 (bitsI .xor .i64 ((nxS s.s).fdiv (2 ^ (min 33 64))) ((nxS s.s).fdiv (2 ^ (min 45 64))))
  have hn:nxS s.s=IntKind.i64.wrap (IntKind.i64.wrap (s.s*6364136223846793005)+1442695040888963407):=rfl
  by_cases hk:s.k<s.b.length
  case neg =>
    refine ⟨⟨s.b,s.k,nxS s.s⟩,nxX (nxS s.s),?_,⟨h1,h2,hw⟩,ha⟩
    unfold intOk at h3
    have hkl:s.k=s.b.length:=by omega
    refine spec_of_awp (M:=MM) (np:=1) (fz:=false) mixed Try.func229 rfl rfl (by decide) rfl (Nat.le_refl _) (by decide +kernel) (.inl rfl) (by simp only [sigsOk_some,sigsOk_nil,and_true];rfl) ?_
    simp -dsimp -implicitDefEqProofs (disch:=first | omega | (simp only [lenr];try omega)) only [↓amPre,amAll,↓reduceIte,reduceCtorEq,Nat.reduceEqDiff,Nat.reduceBEq,Nat.reduceAdd,Nat.reduceLeDiff,Nat.reduceSub,Nat.reduceMul,Int.reduceToNat,List.size_toArray,tyF,MM,bu0,hb,hkl]
    exact ⟨rfl,rfl⟩
  have hu:(s.b.getD s.k default).toNat<256:=(s.b.getD s.k default).toNat_lt
  have hv:=and255 (nxX (nxS s.s)+((s.b.getD s.k default).toNat:Int))
  have hx:0≤nxX (nxS s.s)∧nxX (nxS s.s)≤255:=ha
  refine ⟨⟨s.b,s.k+1,nxS s.s⟩,bitsI .and .i64 (nxX (nxS s.s)+((s.b.getD s.k default).toNat:Int)) 255,?_,⟨h1,hk,hw⟩,hv⟩
  unfold intOk at h3
  have hX:bitsI .and .i64 (bitsI .xor .i64 ((nxS s.s).fdiv (2 ^ (min 33 64))) ((nxS s.s).fdiv (2 ^ (min 45 64)))) 255=nxX (nxS s.s):=rfl
  have e1:IntKind.i64.wrap ((s.b.getD s.k default).toNat:Int)=(s.b.getD s.k default).toNat:=wrap64_id (by omega)
  have e2:IntKind.i64.wrap (nxX (nxS s.s)+((s.b.getD s.k default).toNat:Int))=nxX (nxS s.s)+((s.b.getD s.k default).toNat:Int):=wrap64_id (by omega)
  refine spec_of_awp (M:=MM) (np:=1) (fz:=false) mixed Try.func229 rfl rfl (by decide) rfl (Nat.le_refl _) (by decide +kernel) (.inl rfl) (by simp only [sigsOk_some,sigsOk_nil,and_true];rfl) ?_
  simp -dsimp -implicitDefEqProofs (disch:=first | omega | (simp only [lenr];try omega)) only [↓amPre,amAll,↓reduceIte,reduceCtorEq,Nat.reduceEqDiff,Nat.reduceBEq,Nat.reduceAdd,Nat.reduceLeDiff,Nat.reduceSub,Nat.reduceMul,Int.reduceToNat,List.size_toArray,tyF,MM,bu0,hb,← hn,hX,e1,e2]
theorem below (s:Src) (n:Int) (h:s.ok) (hn:intOk n):∃ (s':Src) (x:Int),SpecX Try.prog 184 [s.pt,.i64 n] [some s'.pt] (.i64 x)∧s'.ok∧0≤x∧(0<n→x<n)∧(n≤0→x=0):=by
  unfold intOk at hn
  by_cases n0:n≤0
  · refine ⟨s,0,?_,h,by omega,by omega,fun _=>rfl⟩
    refine spec_of_awp (M:=MM) (np:=2) (fz:=false) mixed Try.func184 rfl rfl (by decide) rfl (Nat.le_refl _) (by decide +kernel) (.inl rfl) (by simp only [sigsOk_some,sigsOk_nil,and_true]) ?_
    simp -dsimp -implicitDefEqProofs (disch:=first | omega | (simp only [lenr];try omega)) only [↓amPre,amAll,↓reduceIte,reduceCtorEq,Nat.reduceEqDiff,Nat.reduceBEq,Nat.reduceAdd,Nat.reduceLeDiff,Nat.reduceSub,Nat.reduceMul,Int.reduceToNat,List.size_toArray,tyF,MM,bu0,lt_false n0]
  obtain ⟨s1,x1,q1,k1,b1⟩:=nextByte s h
  by_cases n1:n≤256
  · refine ⟨s1,x1.tmod n,?_,k1,Int.tmod_nonneg _ b1.1,fun q=>Int.tmod_lt_of_pos _ q,fun q=>by omega⟩
    have hne:n≠0:=by omega
    refine spec_of_awp (M:=MM) (np:=2) (fz:=false) mixed Try.func184 rfl rfl (by decide) rfl (Nat.le_refl _) (by decide +kernel) (.inl rfl) (by simp only [sigsOk_some,sigsOk_nil,and_true];rfl) ?_
    simp -dsimp -implicitDefEqProofs (disch:=first | omega | (simp only [lenr];try omega)) only [↓amPre,amAll,↓reduceIte,reduceCtorEq,Nat.reduceEqDiff,Nat.reduceBEq,Nat.reduceAdd,Nat.reduceLeDiff,Nat.reduceSub,Nat.reduceMul,Int.reduceToNat,List.size_toArray,tyF,MM,bu0,lt_true (Int.not_le.1 n0),lt_false n1]
    refine callX_of (q1) ?_
    simp -dsimp -implicitDefEqProofs (disch:=first | omega | (simp only [lenr];try omega)) only [↓amPre,amAll,↓reduceIte,reduceCtorEq,Nat.reduceEqDiff,Nat.reduceBEq,Nat.reduceAdd,Nat.reduceLeDiff,Nat.reduceSub,Nat.reduceMul,Int.reduceToNat,List.size_toArray,tyF,MM,bu0,hne]
  obtain ⟨s2,x2,q2,k2,b2⟩:=nextByte s1 k1
  obtain ⟨s3,x3,q3,k3,b3⟩:=nextByte s2 k2
  obtain ⟨s4,x4,q4,k4,b4⟩:=nextByte s3 k3
  refine ⟨s4,(x1*16777216+x2*65536+x3*256+x4).tmod n,?_,k4,Int.tmod_nonneg _ (by omega),fun q=>Int.tmod_lt_of_pos _ q,fun q=>by omega⟩
  have hne:n≠0:=by omega
  have e1:IntKind.i64.wrap (x1*16777216)=x1*16777216:=wrap64_id (by omega)
  have e2:IntKind.i64.wrap (x2*65536)=x2*65536:=wrap64_id (by omega)
  have e3:IntKind.i64.wrap (x3*256)=x3*256:=wrap64_id (by omega)
  have e4:IntKind.i64.wrap (x1*16777216+x2*65536)=x1*16777216+x2*65536:=wrap64_id (by omega)
  have e5:IntKind.i64.wrap (x1*16777216+x2*65536+x3*256)=x1*16777216+x2*65536+x3*256:=wrap64_id (by omega)
  have e6:IntKind.i64.wrap (x1*16777216+x2*65536+x3*256+x4)=x1*16777216+x2*65536+x3*256+x4:=wrap64_id (by omega)
  refine spec_of_awp (M:=MM) (np:=2) (fz:=false) mixed Try.func184 rfl rfl (by decide) rfl (Nat.le_refl _) (by decide +kernel) (.inl rfl) (by simp only [sigsOk_some,sigsOk_nil,and_true];rfl) ?_
  simp -dsimp -implicitDefEqProofs (disch:=first | omega | (simp only [lenr];try omega)) only [↓amPre,amAll,↓reduceIte,reduceCtorEq,Nat.reduceEqDiff,Nat.reduceBEq,Nat.reduceAdd,Nat.reduceLeDiff,Nat.reduceSub,Nat.reduceMul,Int.reduceToNat,List.size_toArray,tyF,MM,bu0,lt_true (Int.not_le.1 n0),lt_true (Int.not_le.1 n1)]
  refine callX_of (q1) ?_
  simp -dsimp -implicitDefEqProofs (disch:=first | omega | (simp only [lenr];try omega)) only [↓amPre,amAll,↓reduceIte,reduceCtorEq,Nat.reduceEqDiff,Nat.reduceBEq,Nat.reduceAdd,Nat.reduceLeDiff,Nat.reduceSub,Nat.reduceMul,Int.reduceToNat,List.size_toArray,tyF,MM,bu0]
  refine callX_of (q2) ?_
  simp -dsimp -implicitDefEqProofs (disch:=first | omega | (simp only [lenr];try omega)) only [↓amPre,amAll,↓reduceIte,reduceCtorEq,Nat.reduceEqDiff,Nat.reduceBEq,Nat.reduceAdd,Nat.reduceLeDiff,Nat.reduceSub,Nat.reduceMul,Int.reduceToNat,List.size_toArray,tyF,MM,bu0]
  refine callX_of (q3) ?_
  simp -dsimp -implicitDefEqProofs (disch:=first | omega | (simp only [lenr];try omega)) only [↓amPre,amAll,↓reduceIte,reduceCtorEq,Nat.reduceEqDiff,Nat.reduceBEq,Nat.reduceAdd,Nat.reduceLeDiff,Nat.reduceSub,Nat.reduceMul,Int.reduceToNat,List.size_toArray,tyF,MM,bu0]
  refine callX_of (q4) ?_
  simp -dsimp -implicitDefEqProofs (disch:=first | omega | (simp only [lenr];try omega)) only [↓amPre,amAll,↓reduceIte,reduceCtorEq,Nat.reduceEqDiff,Nat.reduceBEq,Nat.reduceAdd,Nat.reduceLeDiff,Nat.reduceSub,Nat.reduceMul,Int.reduceToNat,List.size_toArray,tyF,MM,bu0,hne,e1,e2,e3,e4,e5,e6]
end Draws
end Go.AM
namespace Go.AM
namespace Draws
open Go.Proofs
theorem opens_u8 {P:Program} {t:TypeId} (ht:P.underlying t=some (.int .u8)):Opens P t UInt8 (fun b=>[.u8 b.toNat]) (fun _=>True):=by
  intro H enc w sp held fuel cs x h
  obtain ⟨n,rfl,_,hw⟩:=DataW.trod_int ht h
  simp only [Lit.wf,Bool.and_eq_true,decide_eq_true_eq] at hw
  have e1:IntKind.u8.min=0:=by decide
  have e2:IntKind.u8.max=255:=by decide
  rw [e1,e2] at hw
  refine ⟨UInt8.ofNat n.toNat,trivial,rfl,fun j hj hk=>?_⟩
  have:j=0:=by simp at hj;omega
  subst this
  have e:((UInt8.ofNat n.toNat).toNat:Int)=n:=by rw [UInt8.toNat_ofNat'];omega
  simp only [List.getElem_cons_zero]
  rw [e]
  exact ⟨.v _,rfl⟩
theorem openByte:Opens Try.prog 5 UInt8 (fun b=>[AV.u8 b.toNat]) (fun _=>True):=opens_u8 Try.underlying5
theorem openBytes:Opens Try.prog 22 (List UInt8) (fun l=>[AV.sl 1 (l.map fun x=>AV.u8 x.toNat)]) (fun l=>l.length≤9223372036854775807∧∀ b∈l,True) :=
  opens_slice Try.underlying22 (by kernel_rfl) (by decide) (fun x:UInt8=>AV.u8 x.toNat) (fun _=>rfl) openByte
end Draws
end Go.AM
namespace Go.AM
/-! permutations,plainly -/
def isPerm (p:List Int):Prop:=(1≤p.length∧p.length≤20)∧(∀ x∈p,0≤x∧x<p.length)∧p.Nodup
instance (p:List Int):Decidable (isPerm p):=by unfold isPerm;infer_instance
theorem len_le_of_sub {α:Type} [DecidableEq α]:∀ (a b:List α),a.Nodup→(∀ x∈a,x∈b)→a.length≤b.length
  | [],_,_,_=>Nat.zero_le _
  | x :: a,b,hn,hs=>by
    have hx:=hs x (by simp)
    have h1:=len_le_of_sub a (b.erase x) (List.nodup_cons.1 hn).2 fun y hy=>(List.mem_erase_of_ne (by rintro rfl;exact (List.nodup_cons.1 hn).1 hy)).2 (hs y (by simp [hy]))
    rw [List.length_erase_of_mem hx] at h1
    have:0<b.length:=List.length_pos_of_mem hx
    simp;omega
theorem dup_of_not_nodup {α:Type} [DecidableEq α]:∀ (p:List α),¬ p.Nodup→∃ x,x∈p.erase x
  | [],h=>(h List.nodup_nil).elim
  | a :: r,h=>by
    by_cases ha:a∈r
    · exact ⟨a,by simpa using ha⟩
    · obtain ⟨x,hx⟩:=dup_of_not_nodup r fun q=>h (List.nodup_cons.2 ⟨ha,q⟩)
      refine ⟨x,?_⟩
      have:x≠a:=by rintro rfl;exact ha (List.mem_of_mem_erase hx)
      rw [List.erase_cons,if_neg (by simpa using fun e=>this e.symm)]
      simp [hx]
theorem nodup_iff_all (p:List Nat) (n:Nat) (hl:p.length=n) (hlt:∀ x∈p,x<n):p.Nodup↔∀ i,i<n→i∈p:=by
  constructor
  · intro hn i hi
    apply Decidable.byContradiction
    intro hni
    have:=len_le_of_sub p ((List.range n).erase i) hn fun x hx=>(List.mem_erase_of_ne (by rintro rfl;exact hni hx)).2 (List.mem_range.2 (hlt x hx))
    rw [List.length_erase_of_mem (List.mem_range.2 hi),List.length_range] at this
    omega
  · intro h
    apply Decidable.byContradiction
    intro hn
    obtain ⟨x,hx⟩:=dup_of_not_nodup p hn
    have hxp:=List.mem_of_mem_erase hx
    have:=len_le_of_sub (List.range n) (p.erase x) List.nodup_range fun y hy=>by
      by_cases e:y=x
      · subst e;exact hx
      · exact (List.mem_erase_of_ne e).2 (h y (List.mem_range.1 hy))
    rw [List.length_erase_of_mem hxp,List.length_range] at this
    have:=List.length_pos_of_mem hxp
    omega
def maskN:List Nat→Nat
  | []=>0
  | x :: r=>(2 ^ x) ||| maskN r
theorem maskN_bit (l:List Nat) (i:Nat):(maskN l).testBit i=true↔i∈l:=by
  induction l with
  | nil=>simp [maskN]
  | cons x r ih=>rw [maskN,Nat.testBit_or,Bool.or_eq_true,ih,Nat.testBit_two_pow];simp [eq_comm]
theorem maskN_snoc (l:List Nat) (x:Nat):maskN (l++[x])=maskN l ||| 2 ^ x:=by
  apply Nat.eq_of_testBit_eq;intro i
  rw [Bool.eq_iff_iff,Nat.testBit_or,Bool.or_eq_true,maskN_bit,maskN_bit,Nat.testBit_two_pow];simp [eq_comm]
theorem maskN_lt (l:List Nat) (n:Nat) (h:∀ x∈l,x<n):maskN l<2 ^ n:=by
  induction l with
  | nil=>simp [maskN];exact Nat.pow_pos (by decide)
  | cons x r ih=>exact Nat.or_lt_two_pow (Nat.pow_lt_pow_right (by decide) (h x (by simp))) (ih fun y hy=>h y (by simp [hy]))
theorem maskN_full (l:List Nat) (n:Nat) (h:∀ x∈l,x<n):maskN l=2 ^ n - 1↔∀ i,i<n→i∈l:=by
  constructor
  · intro e i hi
    rw [← maskN_bit,e,Nat.testBit_two_pow_sub_one];simpa using hi
  · intro q
    apply Nat.eq_of_testBit_eq;intro i
    rw [Bool.eq_iff_iff,maskN_bit,Nat.testBit_two_pow_sub_one,decide_eq_true_iff]
    exact ⟨fun hi=>h i hi,q i⟩
def mask (p:List Int):Nat:=maskN (p.map Int.toNat)
theorem mask_snoc (l:List Int) (x:Int):mask (l++[x])=mask l ||| 2 ^ x.toNat:=by simp [mask,maskN_snoc]
theorem mask_perm (p:List Int) (h:∀ x∈p,0≤x∧x<p.length):mask p=2 ^ p.length - 1↔p.Nodup:=by
  have hlt:∀ x∈p.map Int.toNat,x<p.length:=by
    intro x hx
    obtain ⟨y,hy,rfl⟩:=List.mem_map.1 hx
    have:=h y hy;omega
  rw [mask,maskN_full _ _ hlt,← nodup_iff_all _ _ (by simp) hlt,List.Nodup,List.Nodup,List.pairwise_map]
  constructor
  · intro q;exact q.imp fun hab e=>hab (by rw [e])
  · intro q
    refine (List.Pairwise.imp_of_mem ?_ q)
    intro a b ha hb hab e
    have:=h a ha;have:=h b hb;exact hab (by omega)
theorem mask_lt (p:List Int) (n:Nat) (h:∀ x∈p,0≤x∧x<n):mask p<2 ^ n:=by
  apply maskN_lt
  intro x hx
  obtain ⟨y,hy,rfl⟩:=List.mem_map.1 hx
  have:=h y hy;omega
theorem bits_or (a b:Nat) (ha:a<2 ^ 62) (hb:b<2 ^ 62):bitsI .or .i64 (a:Int) (b:Int)=((a ||| b:Nat):Int):=by
  have h1:a ||| b<2 ^ 62:=Nat.or_lt_two_pow ha hb
  have e1:(BitVec.ofInt 64 (a:Int)).toNat=a:=by rw [BitVec.toNat_ofInt];omega
  have e2:(BitVec.ofInt 64 (b:Int)).toNat=b:=by rw [BitVec.toNat_ofInt];omega
  show IntKind.i64.wrap ((BitVec.ofInt 64 (a:Int) ||| BitVec.ofInt 64 (b:Int)).toNat:Int)=_
  rw [BitVec.toNat_or,e1,e2]
  apply wrap64_id;omega
end Go.AM
namespace Go.AM
/-! kinds,plainly -/
structure Kind where
  c:Int
  o:Int
  deriving DecidableEq
instance:Mk Kind:={ default:=⟨0,0⟩,mrk:=fun k _=>⟨k,k+1⟩,cnt:=fun _=>2 }
structure Twist where
  to:List Int
  by':List Int
  deriving DecidableEq
instance:Mk Twist:={ default:=⟨[],[]⟩,mrk:=fun k t=>⟨runI k t.to.length,runI (k+t.to.length) t.by'.length⟩,cnt:=fun t=>t.to.length+t.by'.length }
def kOk (k:Kind):Prop:=(1≤k.c∧k.c≤20)∧(1≤k.o∧k.o≤20)
instance (k:Kind):Decidable (kOk k):=by unfold kOk;infer_instance
def facets:List Kind→Int
  | []=>0
  | k :: r=>k.c*k.o+facets r
def kindsOk (l:List Kind):Prop:=(1≤l.length∧l.length≤3)∧(∀ k∈l,kOk k)∧facets l≤20
instance (l:List Kind):Decidable (kindsOk l):=by unfold kindsOk;infer_instance
def fct:Nat→Nat
  | 0=>1
  | n+1=>(n+1)*fct n
def stK (o:Nat):Nat→Nat
  | 0=>1
  | j+1=>stK o j*((j+1)*o)
def stC:List Kind→Nat
  | []=>1
  | k :: r=>stK k.o.toNat k.c.toNat*stC r
def twOk (k:Kind) (t:Twist):Prop:=(t.to.length:Int)=k.c∧(t.by'.length:Int)=k.c∧isPerm t.to∧∀ x∈t.by',0≤x∧x<k.o
instance (k:Kind) (t:Twist):Decidable (twOk k t):=by unfold twOk;infer_instance
def psOk (ks:List Kind) (s:List Twist):Prop:=kindsOk ks∧s.length=ks.length∧∀ i,i<ks.length→twOk (ks.getD i default) (s.getD i default)
instance (ks:List Kind) (s:List Twist):Decidable (psOk ks s):=by unfold psOk;infer_instance
def Kind.av (k:Kind):AV:=.agg [.i64 k.c,.i64 k.o]
abbrev ksl (ks:List Kind):AV:=.sl 2 (ks.map Kind.av)
abbrev ktr (ks:List Kind):AV:=.tr 2 (ks.map Kind.av)
theorem kset (ks:List Kind) (i:Nat) (a b:Int):(ks.map Kind.av).set i (.agg [.i64 a,.i64 b])=(ks.set i ⟨a,b⟩).map Kind.av:=by rw [List.map_set];rfl
theorem ksnoc (ks:List Kind) (a b:Int):ks.map Kind.av++[.agg [.i64 a,.i64 b]]=(ks++[(⟨a,b⟩:Kind)]).map Kind.av:=by simp [Kind.av]
theorem pureL_map {α:Type} (f:α→AV) (h:∀ a,(f a).pure=true):∀ l:List α,AV.pureL (l.map f)=true
  | []=>rfl
  | a :: r=>by rw [List.map_cons,AV.pureL,h,pureL_map f h r];rfl
theorem ipure (l:List Int):AV.pureL (l.map AV.i64)=true:=pureL_map _ (fun _=>rfl) l
abbrev ssl (l:List (List Int)):AV:=.sl 1 (l.map isl)
abbrev sst (l:List (List Int)):AV:=.tr 1 (l.map itr)
theorem sspure (l:List (List Int)):AV.pureL (l.map itr)=true:=pureL_map _ (fun t=>by simp [itr,AV.pure,ipure]) l
theorem ssfz (l:List (List Int)):(l.map itr).map AV.fz=l.map isl:=by
  rw [List.map_map];exact List.map_congr_left fun a _=>by simp [AV.fz,fzL_map,ints_fz]
theorem kpure (l:List Kind):AV.pureL (l.map Kind.av)=true:=pureL_map _ (fun _=>rfl) l
def Twist.sl (t:Twist):AV:=.agg [isl t.to,isl t.by']
def Twist.tr (t:Twist):AV:=.agg [itr t.to,itr t.by']
abbrev tsl (ts:List Twist):AV:=.sl 2 (ts.map Twist.sl)
abbrev ttr (ts:List Twist):AV:=.tr 2 (ts.map Twist.tr)
theorem tset (ts:List Twist) (i:Nat) (a b:List Int):(ts.map Twist.tr).set i (.agg [itr a,itr b])=(ts.set i ⟨a,b⟩).map Twist.tr:=by rw [List.map_set];rfl
theorem tsnoc (ts:List Twist) (a b:List Int):ts.map Twist.tr++[.agg [itr a,itr b]]=(ts++[(⟨a,b⟩:Twist)]).map Twist.tr:=by simp [Twist.tr]
theorem tpure (l:List Twist):AV.pureL (l.map Twist.tr)=true:=pureL_map _ (fun t=>by simp [Twist.tr,AV.pure,AV.pureL,ipure]) l
structure Invar where
  k:Int
  s:Int
  deriving DecidableEq
instance:Mk Invar:={ default:=⟨0,0⟩,mrk:=fun k _=>⟨k,k+1⟩,cnt:=fun _=>2 }
def Invar.av (i:Invar):AV:=.agg [.i64 i.k,.i64 i.s]
theorem cbP2:type_of% (And.intro (And.intro (And.intro (@ipure) (And.intro (@kpure) (@tpure))) (And.intro (@sspure) (And.intro (@kset) (@tset)))) (And.intro (And.intro (@ksnoc) (And.intro (@tsnoc) (@Kind.av.eq_1))) (And.intro (@Twist.sl.eq_1) (And.intro (@Twist.tr.eq_1) (@Invar.av.eq_1))))):=(And.intro (And.intro (And.intro (@ipure) (And.intro (@kpure) (@tpure))) (And.intro (@sspure) (And.intro (@kset) (@tset)))) (And.intro (And.intro (@ksnoc) (And.intro (@tsnoc) (@Kind.av.eq_1))) (And.intro (@Twist.sl.eq_1) (And.intro (@Twist.tr.eq_1) (@Invar.av.eq_1)))))
end Go.AM
set_option maxRecDepth 8000
namespace Go.AM
open Go.Proofs
def nilTw:AV:=.agg [.nilsl,.nilsl]
end Go.AM
set_option maxRecDepth 8000
namespace Go.AM
open Go.Proofs
theorem inRange (x lo hi:Int):SpecAt Try.prog 84 [.i64 x,.i64 lo,.i64 hi] (.bl (within x lo hi)):=by
  refine spec_of_awp (M:=MM) (np:=3) (fz:=true) mixed Try.func84 rfl rfl (by decide) rfl (Nat.le_refl _) (by decide +kernel) (.inr ⟨rfl,rfl⟩) trivial ?_
  simp -dsimp -implicitDefEqProofs (disch:=first | omega | (simp only [lenr];try omega)) only [↓amPre,amAll,↓reduceIte,reduceCtorEq,Nat.reduceEqDiff,Nat.reduceBEq,Nat.reduceAdd,Nat.reduceLeDiff,Nat.reduceSub,Nat.reduceMul,Int.reduceToNat,List.size_toArray,tyF,MM,bu0,cbP2]
  refine ifP_mk ?_ ?_ <;> intro h1
  · simp -dsimp -implicitDefEqProofs (disch:=first | omega | (simp only [lenr];try omega)) only [↓amPre,amAll,↓reduceIte,reduceCtorEq,Nat.reduceEqDiff,Nat.reduceBEq,Nat.reduceAdd,Nat.reduceLeDiff,Nat.reduceSub,Nat.reduceMul,Int.reduceToNat,List.size_toArray,tyF,MM,bu0,cbP2,h1]
    simp [within,h1]
  · simp -dsimp -implicitDefEqProofs (disch:=first | omega | (simp only [lenr];try omega)) only [↓amPre,amAll,↓reduceIte,reduceCtorEq,Nat.reduceEqDiff,Nat.reduceBEq,Nat.reduceAdd,Nat.reduceLeDiff,Nat.reduceSub,Nat.reduceMul,Int.reduceToNat,List.size_toArray,tyF,MM,bu0,cbP2,h1]
    simp [within,h1]
theorem iwithin (x lo hi:Int):SpecAt Try.prog 133 [.i64 x,.i64 lo,.i64 hi] (.bl (within x lo hi)):=by
  refine spec_of_awp (M:=MM) (np:=3) (fz:=true) mixed Try.func133 rfl rfl (by decide) rfl (Nat.le_refl _) (by decide +kernel) (.inr ⟨rfl,rfl⟩) trivial ?_
  simp -dsimp -implicitDefEqProofs (disch:=first | omega | (simp only [lenr];try omega)) only [↓amPre,amAll,↓reduceIte,reduceCtorEq,Nat.reduceEqDiff,Nat.reduceBEq,Nat.reduceAdd,Nat.reduceLeDiff,Nat.reduceSub,Nat.reduceMul,Int.reduceToNat,List.size_toArray,tyF,MM,bu0,cbP2]
  refine ifP_mk ?_ ?_ <;> intro h1
  · simp -dsimp -implicitDefEqProofs (disch:=first | omega | (simp only [lenr];try omega)) only [↓amPre,amAll,↓reduceIte,reduceCtorEq,Nat.reduceEqDiff,Nat.reduceBEq,Nat.reduceAdd,Nat.reduceLeDiff,Nat.reduceSub,Nat.reduceMul,Int.reduceToNat,List.size_toArray,tyF,MM,bu0,cbP2,h1]
    simp [within,h1]
  · simp -dsimp -implicitDefEqProofs (disch:=first | omega | (simp only [lenr];try omega)) only [↓amPre,amAll,↓reduceIte,reduceCtorEq,Nat.reduceEqDiff,Nat.reduceBEq,Nat.reduceAdd,Nat.reduceLeDiff,Nat.reduceSub,Nat.reduceMul,Int.reduceToNat,List.size_toArray,tyF,MM,bu0,cbP2,h1]
    simp [within,h1]
theorem lenI (l:List Int):SpecAt Try.prog 148 [isl l] (.i64 l.length):=by
  refine spec_of_awp (M:=MM) (np:=1) (fz:=true) mixed Try.func148 rfl rfl (by decide) rfl (Nat.le_refl _) (by decide +kernel) (.inr ⟨rfl,rfl⟩) trivial ?_
  simp -dsimp -implicitDefEqProofs (disch:=first | omega | (simp only [lenr];try omega)) only [↓amPre,amAll,↓reduceIte,reduceCtorEq,Nat.reduceEqDiff,Nat.reduceBEq,Nat.reduceAdd,Nat.reduceLeDiff,Nat.reduceSub,Nat.reduceMul,Int.reduceToNat,List.size_toArray,tyF,MM,bu0,cbP2]
theorem containsInt (l:List Int) (x:Int) (hl:l.length≤1099511627776):SpecAt Try.prog 220 [isl l,.i64 x] (.bl (decide (x∈l))):=by
  refine spec_of_awp (M:=MM) (np:=2) (fz:=true) mixed Try.func220 rfl rfl (by decide) rfl (Nat.le_refl _) (by decide +kernel) (.inr ⟨rfl,rfl⟩) trivial ?_
  simp -dsimp -implicitDefEqProofs (disch:=first | omega | (simp only [lenr];try omega)) only [↓amPre,amAll,↓reduceIte,reduceCtorEq,Nat.reduceEqDiff,Nat.reduceBEq,Nat.reduceAdd,Nat.reduceLeDiff,Nat.reduceSub,Nat.reduceMul,Int.reduceToNat,List.size_toArray,tyF,MM,bu0,cbP2]
  refine awp_loop (fun k st=>k≤l.length∧st.fr 5=.i64 k∧st.fr 0=isl l∧st.fr 1=.i64 x∧∀ y∈l.take k,y≠x) (l.length) ?_ ?_
  · simp -dsimp -implicitDefEqProofs (disch:=first | omega | (simp only [lenr];try omega)) only [↓amPre,amAll,↓reduceIte,reduceCtorEq,Nat.reduceEqDiff,Nat.reduceBEq,Nat.reduceAdd,Nat.reduceLeDiff,Nat.reduceSub,Nat.reduceMul,Int.reduceToNat,List.size_toArray,tyF,MM,bu0,cbP2]
    simp
  rintro k st _ ⟨hk,f5,f0,f1,ek⟩
  by_cases hlt:k<l.length
  · simp -dsimp -implicitDefEqProofs (disch:=first | omega | (simp only [lenr];try omega)) only [↓amPre,amAll,↓reduceIte,reduceCtorEq,Nat.reduceEqDiff,Nat.reduceBEq,Nat.reduceAdd,Nat.reduceLeDiff,Nat.reduceSub,Nat.reduceMul,Int.reduceToNat,List.size_toArray,tyF,MM,bu0,cbP2,f5,f0,f1]
    refine ifP_mk ?_ ?_ <;> intro w
    · simp -dsimp -implicitDefEqProofs (disch:=first | omega | (simp only [lenr];try omega)) only [↓amPre,amAll,↓reduceIte,reduceCtorEq,Nat.reduceEqDiff,Nat.reduceBEq,Nat.reduceAdd,Nat.reduceLeDiff,Nat.reduceSub,Nat.reduceMul,Int.reduceToNat,List.size_toArray,tyF,MM,bu0,cbP2,w]
      simp only [beq_iff_eq,bne_iff_ne,ne_eq,beq_eq_false_iff_ne,bne_eq_false_iff_eq,decide_eq_true_eq,decide_eq_false_iff_not,Bool.not_eq_true',Bool.not_eq_false',Int.not_lt,Int.not_le,Bool.and_eq_true,Bool.or_eq_true,Bool.and_eq_false_iff,Bool.or_eq_false_iff,Decidable.not_not] at w
      have:=mem_getD l k 0 hlt
      rw [w] at this
      simp [this]
    · simp -dsimp -implicitDefEqProofs (disch:=first | omega | (simp only [lenr];try omega)) only [↓amPre,amAll,↓reduceIte,reduceCtorEq,Nat.reduceEqDiff,Nat.reduceBEq,Nat.reduceAdd,Nat.reduceLeDiff,Nat.reduceSub,Nat.reduceMul,Int.reduceToNat,List.size_toArray,tyF,MM,bu0,cbP2,w,f5,f0,f1]
      simp only [beq_iff_eq,bne_iff_ne,ne_eq,beq_eq_false_iff_ne,bne_eq_false_iff_eq,decide_eq_true_eq,decide_eq_false_iff_not,Bool.not_eq_true',Bool.not_eq_false',Int.not_lt,Int.not_le,Bool.and_eq_true,Bool.or_eq_true,Bool.and_eq_false_iff,Bool.or_eq_false_iff,Decidable.not_not] at w
      repeat' (first | omega | rfl | exact i64c (by omega) | exact vic (by omega) | exact (mem_take_succ (d:=0) hlt).2 ⟨ek,w⟩ | apply And.intro)
  · have hke:k=l.length:=by omega
    subst hke
    simp -dsimp -implicitDefEqProofs (disch:=first | omega | (simp only [lenr];try omega)) only [↓amPre,amAll,↓reduceIte,reduceCtorEq,Nat.reduceEqDiff,Nat.reduceBEq,Nat.reduceAdd,Nat.reduceLeDiff,Nat.reduceSub,Nat.reduceMul,Int.reduceToNat,List.size_toArray,tyF,MM,bu0,cbP2,f5,f0,f1]
    rw [List.take_length] at ek
    have:¬ x∈l:=fun q=>ek x q rfl
    simp [this]
theorem sIsPerm (p:List Int) (hl:p.length≤1099511627776):SpecAt Try.prog 161 [isl p] (.bl (decide (isPerm p))):=by
  refine spec_of_awp (M:=MM) (np:=1) (fz:=true) mixed Try.func161 rfl rfl (by decide) rfl (Nat.le_refl _) (by decide +kernel) (.inr ⟨rfl,rfl⟩) trivial ?_
  simp -dsimp -implicitDefEqProofs (disch:=first | omega | (simp only [lenr];try omega)) only [↓amPre,amAll,↓reduceIte,reduceCtorEq,Nat.reduceEqDiff,Nat.reduceBEq,Nat.reduceAdd,Nat.reduceLeDiff,Nat.reduceSub,Nat.reduceMul,Int.reduceToNat,List.size_toArray,tyF,MM,bu0,cbP2]
  refine callP_of (inRange _ _ _) ?_
  cases w:within p.length 1 20 with
  | false =>
    simp -dsimp -implicitDefEqProofs (disch:=first | omega | (simp only [lenr];try omega)) only [↓amPre,amAll,↓reduceIte,reduceCtorEq,Nat.reduceEqDiff,Nat.reduceBEq,Nat.reduceAdd,Nat.reduceLeDiff,Nat.reduceSub,Nat.reduceMul,Int.reduceToNat,List.size_toArray,tyF,MM,bu0,cbP2,w]
    rw [within_not] at w
    have:¬ isPerm p:=fun h=>by unfold isPerm at h;omega
    simp [this]
  | true =>
  rw [within_iff] at w
  simp -dsimp -implicitDefEqProofs (disch:=first | omega | (simp only [lenr];try omega)) only [↓amPre,amAll,↓reduceIte,reduceCtorEq,Nat.reduceEqDiff,Nat.reduceBEq,Nat.reduceAdd,Nat.reduceLeDiff,Nat.reduceSub,Nat.reduceMul,Int.reduceToNat,List.size_toArray,tyF,MM,bu0,cbP2,within_iff.2 w]
  refine awp_loop (fun k st=>k≤p.length∧st.fr 4=.i64 k∧st.fr 0=isl p∧st.fr 3=.i64 p.length∧(∀ x∈p.take k,0≤x∧x<p.length)∧(p.take k).Nodup) (p.length) ?_ ?_
  · simp -dsimp -implicitDefEqProofs (disch:=first | omega | (simp only [lenr];try omega)) only [↓amPre,amAll,↓reduceIte,reduceCtorEq,Nat.reduceEqDiff,Nat.reduceBEq,Nat.reduceAdd,Nat.reduceLeDiff,Nat.reduceSub,Nat.reduceMul,Int.reduceToNat,List.size_toArray,tyF,MM,bu0,cbP2]
    simp
  rintro k st _ ⟨hk,f4,f0,f3,ek⟩
  by_cases hlt:k<p.length
  · have hmem:=mem_getD p k 0 hlt
    simp -dsimp -implicitDefEqProofs (disch:=first | omega | (simp only [lenr];try omega)) only [↓amPre,amAll,↓reduceIte,reduceCtorEq,Nat.reduceEqDiff,Nat.reduceBEq,Nat.reduceAdd,Nat.reduceLeDiff,Nat.reduceSub,Nat.reduceMul,Int.reduceToNat,List.size_toArray,tyF,MM,bu0,cbP2,f4,f0,f3]
    refine callP_of (inRange _ _ _) ?_
    cases w2:within (p.getD k 0) 0 (p.length - 1) with
    | false =>
      simp -dsimp -implicitDefEqProofs (disch:=first | omega | (simp only [lenr];try omega)) only [↓amPre,amAll,↓reduceIte,reduceCtorEq,Nat.reduceEqDiff,Nat.reduceBEq,Nat.reduceAdd,Nat.reduceLeDiff,Nat.reduceSub,Nat.reduceMul,Int.reduceToNat,List.size_toArray,tyF,MM,bu0,cbP2,w2]
      rw [within_not] at w2
      have:¬ isPerm p:=fun h=>by have:=h.2.1 _ hmem;omega
      simp [this]
    | true =>
    simp -dsimp -implicitDefEqProofs (disch:=first | omega | (simp only [lenr];try omega)) only [↓amPre,amAll,↓reduceIte,reduceCtorEq,Nat.reduceEqDiff,Nat.reduceBEq,Nat.reduceAdd,Nat.reduceLeDiff,Nat.reduceSub,Nat.reduceMul,Int.reduceToNat,List.size_toArray,tyF,MM,bu0,cbP2,w2,f4,f0,f3]
    refine callP_of (containsInt _ _ (by simp;omega)) ?_
    have hs:=take_succ_eq p k 0 hlt
    cases w3:decide (p.getD k 0∈p.take k) with
    | true =>
      simp -dsimp -implicitDefEqProofs (disch:=first | omega | (simp only [lenr];try omega)) only [↓amPre,amAll,↓reduceIte,reduceCtorEq,Nat.reduceEqDiff,Nat.reduceBEq,Nat.reduceAdd,Nat.reduceLeDiff,Nat.reduceSub,Nat.reduceMul,Int.reduceToNat,List.size_toArray,tyF,MM,bu0,cbP2,w3]
      simp only [beq_iff_eq,bne_iff_ne,ne_eq,beq_eq_false_iff_ne,bne_eq_false_iff_eq,decide_eq_true_eq,decide_eq_false_iff_not,Bool.not_eq_true',Bool.not_eq_false',Int.not_lt,Int.not_le,Bool.and_eq_true,Bool.or_eq_true,Bool.and_eq_false_iff,Bool.or_eq_false_iff,Decidable.not_not] at w3
      have:¬ isPerm p:=fun h=>by
        have h2:=h.2.2
        have h3:(p.take (k+1)).Nodup:=h2.sublist (List.take_sublist _ _)
        rw [hs,List.nodup_append] at h3
        exact h3.2.2 _ (by simpa using w3) _ (by simp) rfl
      simp [this]
    | false =>
      simp -dsimp -implicitDefEqProofs (disch:=first | omega | (simp only [lenr];try omega)) only [↓amPre,amAll,↓reduceIte,reduceCtorEq,Nat.reduceEqDiff,Nat.reduceBEq,Nat.reduceAdd,Nat.reduceLeDiff,Nat.reduceSub,Nat.reduceMul,Int.reduceToNat,List.size_toArray,tyF,MM,bu0,cbP2,w3,f4,f0,f3]
      simp only [decide_eq_false_iff_not] at w3
      rw [within_iff] at w2
      refine ⟨hlt,hlt,?_,?_⟩
      · rw [mem_take_succ (d:=0) hlt];exact ⟨ek.1,by omega⟩
      · rw [hs,List.nodup_append]
        refine ⟨ek.2,by simp,?_⟩
        intro a ha b hb e
        simp only [List.mem_singleton] at hb
        rw [e,hb] at ha;exact w3 ha
  · have hke:k=p.length:=by omega
    subst hke
    rw [List.take_length] at ek
    simp -dsimp -implicitDefEqProofs (disch:=first | omega | (simp only [lenr];try omega)) only [↓amPre,amAll,↓reduceIte,reduceCtorEq,Nat.reduceEqDiff,Nat.reduceBEq,Nat.reduceAdd,Nat.reduceLeDiff,Nat.reduceSub,Nat.reduceMul,Int.reduceToNat,List.size_toArray,tyF,MM,bu0,cbP2,f4,f0,f3]
    have:isPerm p:=⟨by omega,ek.1,ek.2⟩
    simp [this]
theorem iIsPerm (p:List Int) (hl:p.length≤1099511627776):SpecAt Try.prog 212 [isl p] (.bl (decide (isPerm p))):=by
  refine spec_of_awp (M:=MM) (np:=1) (fz:=true) mixed Try.func212 rfl rfl (by decide) rfl (Nat.le_refl _) (by decide +kernel) (.inr ⟨rfl,rfl⟩) trivial ?_
  simp -dsimp -implicitDefEqProofs (disch:=first | omega | (simp only [lenr];try omega)) only [↓amPre,amAll,↓reduceIte,reduceCtorEq,Nat.reduceEqDiff,Nat.reduceBEq,Nat.reduceAdd,Nat.reduceLeDiff,Nat.reduceSub,Nat.reduceMul,Int.reduceToNat,List.size_toArray,tyF,MM,bu0,cbP2]
  refine callP_of (lenI _) ?_
  simp -dsimp -implicitDefEqProofs (disch:=first | omega | (simp only [lenr];try omega)) only [↓amPre,amAll,↓reduceIte,reduceCtorEq,Nat.reduceEqDiff,Nat.reduceBEq,Nat.reduceAdd,Nat.reduceLeDiff,Nat.reduceSub,Nat.reduceMul,Int.reduceToNat,List.size_toArray,tyF,MM,bu0,cbP2]
  refine callP_of (iwithin _ _ _) ?_
  cases w:within p.length 1 20 with
  | false =>
    simp -dsimp -implicitDefEqProofs (disch:=first | omega | (simp only [lenr];try omega)) only [↓amPre,amAll,↓reduceIte,reduceCtorEq,Nat.reduceEqDiff,Nat.reduceBEq,Nat.reduceAdd,Nat.reduceLeDiff,Nat.reduceSub,Nat.reduceMul,Int.reduceToNat,List.size_toArray,tyF,MM,bu0,cbP2,w]
    rw [within_not] at w
    have:¬ isPerm p:=fun h=>by unfold isPerm at h;omega
    simp [this]
  | true =>
  rw [within_iff] at w
  simp -dsimp -implicitDefEqProofs (disch:=first | omega | (simp only [lenr];try omega)) only [↓amPre,amAll,↓reduceIte,reduceCtorEq,Nat.reduceEqDiff,Nat.reduceBEq,Nat.reduceAdd,Nat.reduceLeDiff,Nat.reduceSub,Nat.reduceMul,Int.reduceToNat,List.size_toArray,tyF,MM,bu0,cbP2,within_iff.2 w]
  refine awp_loop (fun k st=>k≤p.length∧st.fr 12=.i64 k∧st.fr 0=isl p∧st.fr 10=isl p∧st.fr 11=.i64 p.length∧st.fr 3=.i64 (mask (p.take k))∧(∀ x∈p.take k,0≤x∧x<p.length)) (p.length) ?_ ?_
  · simp -dsimp -implicitDefEqProofs (disch:=first | omega | (simp only [lenr];try omega)) only [↓amPre,amAll,↓reduceIte,reduceCtorEq,Nat.reduceEqDiff,Nat.reduceBEq,Nat.reduceAdd,Nat.reduceLeDiff,Nat.reduceSub,Nat.reduceMul,Int.reduceToNat,List.size_toArray,tyF,MM,bu0,cbP2]
    simp [mask,maskN]
  rintro k st _ ⟨hk,f12,f0,f10,f11,f3,ek⟩
  by_cases hlt:k<p.length
  · have hmem:=mem_getD p k 0 hlt
    simp -dsimp -implicitDefEqProofs (disch:=first | omega | (simp only [lenr];try omega)) only [↓amPre,amAll,↓reduceIte,reduceCtorEq,Nat.reduceEqDiff,Nat.reduceBEq,Nat.reduceAdd,Nat.reduceLeDiff,Nat.reduceSub,Nat.reduceMul,Int.reduceToNat,List.size_toArray,tyF,MM,bu0,cbP2,f12,f0,f10,f11,f3]
    refine callP_of (lenI _) ?_
    simp -dsimp -implicitDefEqProofs (disch:=first | omega | (simp only [lenr];try omega)) only [↓amPre,amAll,↓reduceIte,reduceCtorEq,Nat.reduceEqDiff,Nat.reduceBEq,Nat.reduceAdd,Nat.reduceLeDiff,Nat.reduceSub,Nat.reduceMul,Int.reduceToNat,List.size_toArray,tyF,MM,bu0,cbP2,f12,f0,f10,f11,f3]
    refine callP_of (iwithin _ _ _) ?_
    cases w2:within (p.getD k 0) 0 (p.length - 1) with
    | false =>
      simp -dsimp -implicitDefEqProofs (disch:=first | omega | (simp only [lenr];try omega)) only [↓amPre,amAll,↓reduceIte,reduceCtorEq,Nat.reduceEqDiff,Nat.reduceBEq,Nat.reduceAdd,Nat.reduceLeDiff,Nat.reduceSub,Nat.reduceMul,Int.reduceToNat,List.size_toArray,tyF,MM,bu0,cbP2,w2]
      rw [within_not] at w2
      have:¬ isPerm p:=fun h=>by have:=h.2.1 _ hmem;omega
      simp [this]
    | true =>
    have w2':=within_iff.1 w2
    obtain ⟨n,hn⟩:∃ n:Nat,p.getD k 0=n:=⟨(p.getD k 0).toNat,by omega⟩
    have hn20:n<20:=by omega
    have hp:(2:Nat) ^ n<2 ^ 20:=Nat.pow_lt_pow_right (by decide) hn20
    have hsh:IntKind.i64.wrap (1*2 ^ (min (p.getD k 0).toNat 64))=((2 ^ n:Nat):Int):=by
      have e2:(2:Int) ^ n=((2 ^ n:Nat):Int):=by simp
      rw [hn,Int.toNat_natCast,Nat.min_eq_left (by omega),Int.one_mul,e2]
      generalize (2 ^ n:Nat)=m at hp ⊢
      exact wrap64_id (by omega)
    have hm1:=mask_lt (p.take k) 20 fun x hx=>by have:=ek x hx;omega
    have hm2:=mask_lt (p.take k) p.length ek
    have hor:bitsI .or .i64 (mask (p.take k):Int) ((2 ^ n:Nat):Int)=((mask (p.take (k+1)):Nat):Int):=by
      rw [bits_or _ _ (by omega) (by omega),take_succ_eq p k 0 hlt,mask_snoc,hn,Int.toNat_natCast]
    have hb:(IntKind.i64.bits)=64:=rfl
    simp -dsimp -implicitDefEqProofs (disch:=first | omega | (simp only [lenr];try omega)) only [↓amPre,amAll,↓reduceIte,reduceCtorEq,Nat.reduceEqDiff,Nat.reduceBEq,Nat.reduceAdd,Nat.reduceLeDiff,Nat.reduceSub,Nat.reduceMul,Int.reduceToNat,List.size_toArray,tyF,MM,bu0,cbP2,w2,f12,f0,f10,f11,f3,hb,hsh,hor]
    refine ⟨hlt,hlt,?_⟩
    rw [mem_take_succ (d:=0) hlt];exact ⟨ek,by omega⟩
  · have hke:k=p.length:=by omega
    subst hke
    rw [List.take_length] at ek f3
    have hp:(2:Nat) ^ p.length≤2 ^ 20:=Nat.pow_le_pow_right (by decide) (by omega)
    have hsh:IntKind.i64.wrap (1*2 ^ (min p.length 64))=((2 ^ p.length:Nat):Int):=by
      have e2:(2:Int) ^ p.length=((2 ^ p.length:Nat):Int):=by simp
      rw [Nat.min_eq_left (by omega),Int.one_mul,e2]
      generalize (2 ^ p.length:Nat)=m at hp ⊢
      exact wrap64_id (by omega)
    have hwr:IntKind.i64.wrap (((2 ^ p.length:Nat):Int) - 1)=((2 ^ p.length:Nat):Int) - 1:=by
      generalize (2 ^ p.length:Nat)=m at hp ⊢
      exact wrap64_id (by omega)
    have hb:(IntKind.i64.bits)=64:=rfl
    simp -dsimp -implicitDefEqProofs (disch:=first | omega | (simp only [lenr];try omega)) only [↓amPre,amAll,↓reduceIte,reduceCtorEq,Nat.reduceEqDiff,Nat.reduceBEq,Nat.reduceAdd,Nat.reduceLeDiff,Nat.reduceSub,Nat.reduceMul,Int.reduceToNat,List.size_toArray,tyF,MM,bu0,cbP2,f12,f0,f10,f11,f3,hb,hsh,hwr]
    refine bl_eq ?_
    have h1:=mask_perm p ek
    have h2:(0:Nat)<2 ^ p.length:=Nat.pow_pos (by decide)
    have h3:isPerm p↔p.Nodup:=⟨fun h=>h.2.2,fun h=>⟨by omega,ek,h⟩⟩
    simp only [beq_iff_eq,decide_eq_true_eq,h3,← h1]
    generalize (2 ^ p.length:Nat)=m at h2 ⊢
    omega
end Go.AM
set_option maxRecDepth 8000
namespace Go.AM
open Go.Proofs
def fcI (l:List Kind):Int:=if ∀ k∈l,kOk k then facets l else 21
def stR (l:List Kind):Int:=if kindsOk l then stC l else 0
end Go.AM
set_option maxRecDepth 8000
namespace Go.AM
open Go.Proofs
def fidx (pr:Int→Bool) (l:List Int):Int:=match l.findIdx? pr with | some i=>i | none=>-1
theorem fidx_nonneg (pr:Int→Bool) (l:List Int):0≤fidx pr l↔l.any pr=true:=by
  unfold fidx
  split
  · rename_i i e
    rw [List.findIdx?_eq_some_iff_getElem] at e
    obtain ⟨hi,h1,_⟩:=e
    simp only [List.any_eq_true]
    exact ⟨fun _=>⟨_,List.getElem_mem hi,h1⟩,fun _=>by omega⟩
  · rename_i e
    rw [List.findIdx?_eq_none_iff] at e
    simp only [List.any_eq_true]
    exact ⟨fun q=>by omega,fun ⟨x,hx,hp⟩=>by rw [e x hx] at hp;cases hp⟩
theorem indexFunc (l:List Int) (g:FuncId) (caps:List AV) (pr:Int→Bool) (hM:MM g=[]) (hb:AV.bearsL caps=false) (hv:∀ mem,AV.views mem caps=caps) (h:∀ x∈l,SpecAt Try.prog g ([.i64 x]++caps) (.bl (pr x))) (hl:l.length≤1099511627776) :
    SpecAt Try.prog 218 [isl l,.fn g caps] (.i64 (fidx pr l)):=by
  unfold MM at hM
  refine spec_of_awp (M:=MM) (np:=2) (fz:=true) mixed Try.func218 rfl rfl (by decide) rfl (Nat.le_refl _) (by decide +kernel) (.inr ⟨rfl,rfl⟩) trivial ?_
  simp -dsimp -implicitDefEqProofs (disch:=first | omega | (simp only [lenr];try omega)) only [↓amPre,amAll,↓reduceIte,reduceCtorEq,Nat.reduceEqDiff,Nat.reduceBEq,Nat.reduceAdd,Nat.reduceLeDiff,Nat.reduceSub,Nat.reduceMul,Int.reduceToNat,List.size_toArray,tyF,MM,bu0,cbP2]
  refine awp_loop (fun k st=>k≤l.length∧st.fr 8=.i64 k∧st.fr 7=.i64 l.length∧st.fr 0=isl l∧st.fr 1=.fn g caps∧∀ x∈l.take k,pr x=false) (l.length) ?_ ?_
  · simp -dsimp -implicitDefEqProofs (disch:=first | omega | (simp only [lenr];try omega)) only [↓amPre,amAll,↓reduceIte,reduceCtorEq,Nat.reduceEqDiff,Nat.reduceBEq,Nat.reduceAdd,Nat.reduceLeDiff,Nat.reduceSub,Nat.reduceMul,Int.reduceToNat,List.size_toArray,tyF,MM,bu0,cbP2]
    simp
  rintro k st _ ⟨hk,f8,f7,f0,f1,ek⟩
  by_cases hlt:k<l.length
  · have hmem:=mem_getD l k 0 hlt
    simp -dsimp -implicitDefEqProofs (disch:=first | omega | (simp only [lenr];try omega)) only [↓amPre,amAll,↓reduceIte,reduceCtorEq,Nat.reduceEqDiff,Nat.reduceBEq,Nat.reduceAdd,Nat.reduceLeDiff,Nat.reduceSub,Nat.reduceMul,Int.reduceToNat,List.size_toArray,tyF,MM,bu0,cbP2,f8,f7,f0,f1,hM,hb,hv]
    refine callP_of (h _ hmem) ?_
    cases w:pr (l.getD k 0) with
    | true =>
      simp -dsimp -implicitDefEqProofs (disch:=first | omega | (simp only [lenr];try omega)) only [↓amPre,amAll,↓reduceIte,reduceCtorEq,Nat.reduceEqDiff,Nat.reduceBEq,Nat.reduceAdd,Nat.reduceLeDiff,Nat.reduceSub,Nat.reduceMul,Int.reduceToNat,List.size_toArray,tyF,MM,bu0,cbP2,f8,f7,f0,f1,w]
      have:l.findIdx? pr=some k:=by
        rw [List.findIdx?_eq_some_iff_getElem]
        refine ⟨hlt,by rw [← getD_eq l k 0 hlt];exact w,fun j hj=>?_⟩
        have:=ek (l[j]) (by rw [List.mem_take_iff_getElem];exact ⟨j,by omega,rfl⟩)
        simpa using this
      rw [fidx,this]
    | false =>
      simp -dsimp -implicitDefEqProofs (disch:=first | omega | (simp only [lenr];try omega)) only [↓amPre,amAll,↓reduceIte,reduceCtorEq,Nat.reduceEqDiff,Nat.reduceBEq,Nat.reduceAdd,Nat.reduceLeDiff,Nat.reduceSub,Nat.reduceMul,Int.reduceToNat,List.size_toArray,tyF,MM,bu0,cbP2,f8,f7,f0,f1,w]
      repeat' (first | omega | rfl | exact i64c (by omega) | exact vic (by omega) | exact (mem_take_succ (d:=0) hlt).2 ⟨ek,w⟩ | apply And.intro)
  · have hke:k=l.length:=by omega
    subst hke
    rw [List.take_length] at ek
    simp -dsimp -implicitDefEqProofs (disch:=first | omega | (simp only [lenr];try omega)) only [↓amPre,amAll,↓reduceIte,reduceCtorEq,Nat.reduceEqDiff,Nat.reduceBEq,Nat.reduceAdd,Nat.reduceLeDiff,Nat.reduceSub,Nat.reduceMul,Int.reduceToNat,List.size_toArray,tyF,MM,bu0,cbP2,f8,f7,f0,f1]
    have:l.findIdx? pr=none:=by rw [List.findIdx?_eq_none_iff];exact ek
    rw [fidx,this]
theorem containsFunc (l:List Int) (g:FuncId) (caps:List AV) (pr:Int→Bool) (hM:MM g=[]) (hb:AV.bearsL caps=false) (hv:∀ mem,AV.views mem caps=caps) (h:∀ x∈l,SpecAt Try.prog g ([.i64 x]++caps) (.bl (pr x))) (hl:l.length≤1099511627776) :
    SpecAt Try.prog 156 [isl l,.fn g caps] (.bl (l.any pr)):=by
  refine spec_of_awp (M:=MM) (np:=2) (fz:=true) mixed Try.func156 rfl rfl (by decide) rfl (Nat.le_refl _) (by decide +kernel) (.inr ⟨rfl,rfl⟩) trivial ?_
  simp -dsimp -implicitDefEqProofs (disch:=first | omega | (simp only [lenr];try omega)) only [↓amPre,amAll,↓reduceIte,reduceCtorEq,Nat.reduceEqDiff,Nat.reduceBEq,Nat.reduceAdd,Nat.reduceLeDiff,Nat.reduceSub,Nat.reduceMul,Int.reduceToNat,List.size_toArray,tyF,MM,bu0,cbP2,hb,hv]
  refine callP_of (indexFunc l g caps pr hM hb hv h hl) ?_
  simp -dsimp -implicitDefEqProofs (disch:=first | omega | (simp only [lenr];try omega)) only [↓amPre,amAll,↓reduceIte,reduceCtorEq,Nat.reduceEqDiff,Nat.reduceBEq,Nat.reduceAdd,Nat.reduceLeDiff,Nat.reduceSub,Nat.reduceMul,Int.reduceToNat,List.size_toArray,tyF,MM,bu0,cbP2]
  refine bl_eq ?_
  simp only [decide_eq_true_eq,fidx_nonneg]
end Go.AM
namespace Go.AM
/-! texts -/
theorem stsize (l:List UInt8):ByteArray.size ⟨l.toArray⟩=l.length:=rfl
theorem stget (l:List UInt8) (i:Nat) (d:UInt8):(ByteArray.mk l.toArray).data.toList.getD i d=l.getD i d:=rfl
theorem sttl (l:List UInt8):(ByteArray.mk l.toArray).toList=l:=by simp
theorem stapp (a b:List UInt8):(ByteArray.mk a.toArray)++(ByteArray.mk b.toArray)=⟨(a++b).toArray⟩:=by
  apply ByteArray.ext;simp
theorem stext (l:List UInt8) (i j:Nat):(ByteArray.mk l.toArray).extract i j=⟨((l.take j).drop i).toArray⟩:=by
  apply ByteArray.ext;simp [List.drop_take]
theorem u8lt (b:UInt8):b.toNat<256:=UInt8.toNat_lt b
theorem u8eq {a b:UInt8}:((a.toNat:Int) == (b.toNat:Int))=decide (a=b):=by
  rw [Bool.eq_iff_iff,beq_iff_eq,decide_eq_true_iff]
  exact ⟨fun h=>UInt8.toNat_inj.1 (by omega),fun h=>by rw [h]⟩
def lettersOk (l:List UInt8):Prop:=(∀ b∈l,65≤b.toNat∧b.toNat≤90)∧l.Nodup
instance (l:List UInt8):Decidable (lettersOk l):=by unfold lettersOk;infer_instance
def namesOk (l:List UInt8):Prop:=lettersOk l∧1≤l.length∧l.length≤8
instance (l:List UInt8):Decidable (namesOk l):=by unfold namesOk;infer_instance
structure Model where
  ks:List Kind
  nm:List UInt8
  mv:List (List Twist)
  deriving DecidableEq
abbrev tssl (l:List (List Twist)):AV:=.sl 1 (l.map tsl)
abbrev tsst (l:List (List Twist)):AV:=.tr 1 (l.map ttr)
theorem tsspure (l:List (List Twist)):AV.pureL (l.map ttr)=true:=pureL_map _ (fun t=>by simp [AV.pure,tpure]) l
def Model.sl (m:Model):AV:=.agg [ksl m.ks,.st m.nm,tssl m.mv]
def Model.tr (m:Model):AV:=.agg [ktr m.ks,.st m.nm,tsst m.mv]
def modelOk (m:Model):Prop:=kindsOk m.ks∧namesOk m.nm∧m.nm.length=m.mv.length∧∀ s∈m.mv,psOk m.ks s
instance (m:Model):Decidable (modelOk m):=by unfold modelOk;infer_instance
/-! what is done with piece states,plainly -/
theorem runI_succ (k:Int) (n:Nat):runI k (n+1)=runI k n++[k+n]:=by simp [runI,List.range_succ]
def solvedK (k:Kind):Twist:=⟨runI 0 k.c.toNat,List.replicate k.c.toNat 0⟩
def solvedR (ks:List Kind):List Twist:=if kindsOk ks then ks.map solvedK else []
def compI (p q:List Int):List Int:=p.map fun x=>q.getD x.toNat 0
def scat {α:Type} (base:List α) (p:List Int) (v:Nat→α):Nat→List α
  | 0=>base
  | i+1=>(scat base p v i).set (p.getD i 0).toNat (v i)
theorem scat_len {α:Type} (base:List α) (p:List Int) (v:Nat→α):∀ i,(scat base p v i).length=base.length
  | 0=>rfl
  | i+1=>by rw [scat,List.length_set,scat_len base p v i]
theorem perm_inj {p:List Int} (h:isPerm p) {i j:Nat} (hi:i<p.length) (hj:j<p.length) (e:p.getD i 0=p.getD j 0):i=j:=by
  rw [getD_eq _ _ _ hi,getD_eq _ _ _ hj] at e
  exact (List.getElem_inj h.2.2).1 e
theorem perm_get {p:List Int} (h:isPerm p) {i:Nat} (hi:i<p.length):0≤p.getD i 0∧p.getD i 0<p.length:=h.2.1 _ (mem_getD p i 0 hi)
theorem scat_get {α:Type} (base:List α) (p:List Int) (v:Nat→α) (d:α) (h:isPerm p) (hb:base.length=p.length):∀ m,m≤p.length→∀ i,i<m→(scat base p v m).getD (p.getD i 0).toNat d=v i
  | m+1,hm,i,hi=>by
    have hg:=perm_get h (show m<p.length by omega)
    have hl:=scat_len base p v m
    rw [scat]
    by_cases e:i=m
    · subst e;rw [getD_set_same _ _ _ _ (by omega)]
    · rw [getD_set_ne _ _ _ _ _ (fun q=>e (perm_inj h (by omega) (by omega) (by have:=perm_get h (show i<p.length by omega);omega))),scat_get base p v d h hb m (by omega) i (by omega)]
theorem perm_surj {p:List Int} (h:isPerm p) (j:Nat) (hj:j<p.length):∃ i,i<p.length∧(p.getD i 0).toNat=j:=by
  have hlt:∀ x∈p.map Int.toNat,x<p.length:=by
    intro x hx
    obtain ⟨y,hy,rfl⟩:=List.mem_map.1 hx
    have:=h.2.1 y hy;omega
  have hn:(p.map Int.toNat).Nodup:=by
    rw [List.Nodup,List.pairwise_map]
    refine List.Pairwise.imp_of_mem ?_ h.2.2
    intro a b ha hb hab e
    have:=h.2.1 a ha;have:=h.2.1 b hb;exact hab (by omega)
  have:=(nodup_iff_all _ _ (by simp) hlt).1 hn j hj
  obtain ⟨y,hy,e⟩:=List.mem_map.1 this
  obtain ⟨i,hi,rfl⟩:=List.getElem_of_mem hy
  exact ⟨i,hi,by rw [getD_eq _ _ _ hi];exact e⟩
theorem ext_getD {α:Type} {a b:List α} (d:α) (hl:a.length=b.length) (h:∀ i,i<a.length→a.getD i d=b.getD i d):a=b:=by
  apply List.ext_getElem hl
  intro i h1 h2
  have:=h i h1
  rwa [getD_eq _ _ _ h1,getD_eq _ _ _ h2] at this
def invI (p:List Int):List Int:=scat (List.replicate p.length 0) p (fun i=>(i:Int)) p.length
def compB (o:Int) (a b:Twist) (i:Nat):Int:=(a.by'.getD i 0+b.by'.getD (a.to.getD i 0).toNat 0).tmod o
def compT (o:Int) (a b:Twist):Twist:=⟨compI a.to b.to,(List.range a.to.length).map (compB o a b)⟩
def compS (ks:List Kind) (a b:List Twist):List Twist:=(List.range ks.length).map fun n=>compT (ks.getD n default).o (a.getD n default) (b.getD n default)
def invB (o:Int) (a:Twist) (i:Nat):Int:=(o - a.by'.getD i 0).tmod o
def invT (o:Int) (a:Twist):Twist:=⟨invI a.to,scat (List.replicate a.to.length 0) a.to (invB o a) a.to.length⟩
def invS (ks:List Kind) (a:List Twist):List Twist:=(List.range ks.length).map fun n=>invT (ks.getD n default).o (a.getD n default)
def cellL (base o to by':Int) (j:Nat):List Int:=(List.range j).map fun (i:Nat)=>base+to*o+((i:Int)+by').tmod o
def rowL (base o:Int) (t:Twist):Nat→List Int
  | 0=>[]
  | i+1=>rowL base o t i++cellL base o (t.to.getD i 0) (t.by'.getD i 0) o.toNat
def permL (ks:List Kind) (s:List Twist):Nat→List Int
  | 0=>[]
  | n+1=>permL ks s n++rowL (permL ks s n).length (ks.getD n default).o (s.getD n default) (ks.getD n default).c.toNat
def permOf (ks:List Kind) (s:List Twist):List Int:=permL ks s ks.length
theorem range_succ_map {α:Type} (f:Nat→α) (n:Nat):(List.range (n+1)).map f=(List.range n).map f++[f n]:=by simp [List.range_succ]
theorem range_map_get {α:Type} (f:Nat→α) (n i:Nat) (d:α) (h:i<n):((List.range n).map f).getD i d=f i:=by simp [List.getD,h]
theorem compI_len (p q:List Int):(compI p q).length=p.length:=by simp [compI]
theorem compI_get (p q:List Int) (i:Nat) (h:i<p.length):(compI p q).getD i 0=q.getD (p.getD i 0).toNat 0:=by simp [compI,List.getD,h]
theorem invI_len (p:List Int):(invI p).length=p.length:=by rw [invI,scat_len];simp
theorem cbP3:type_of% (And.intro (And.intro (And.intro (cbP2) (@stsize)) (And.intro (@stget) (@sttl))) (And.intro (And.intro (@stapp) (@stext)) (And.intro (@tsspure) (And.intro (@Model.sl.eq_1) (@Model.tr.eq_1))))):=(And.intro (And.intro (And.intro (cbP2) (@stsize)) (And.intro (@stget) (@sttl))) (And.intro (And.intro (@stapp) (@stext)) (And.intro (@tsspure) (And.intro (@Model.sl.eq_1) (@Model.tr.eq_1)))))
end Go.AM
namespace Go.AM
theorem getD_eq' {α:Type} (l:List α) (i:Nat) (d:α) (h:i<l.length):l.getD i d=l[i]:=by simp [List.getD,h]
theorem any_at':∀ p:Path,AV.any.at p=.any
  | []=>rfl
  | ij :: p=>by
    have:AV.any.cellAt ij.1 ij.2=.any:=by simp [AV.cellAt]
    rw [AV.at,this,any_at' p]
theorem trn_at (z:Nat):∀ p:Path,p≠[]→(AV.tr z []).at p=.any
  | [],h=>(h rfl).elim
  | ij :: p,_=>by
    have:(AV.tr z []).cellAt ij.1 ij.2=.any:=by
      simp only [AV.cellAt,List.getD_nil,AV.cells]
      cases ij.2 <;> simp
    rw [AV.at,this,any_at' p]
def St.nilAs (st:St) (d s z:Nat):St:=((st.kill s).setMem s (.tr z [])).put (some d) (.ref s [] z 0 0)
theorem ent_nil (st:St) (d s z:Nat) (h:st.fr d=.nilsl) (hs:6≤s):Ent st (st.nilAs d s z):=by
  rintro N E a w h6 ⟨I,ρ,c⟩
  have c1:=c.kill (ρ':=fun s'=>if s'=s then (fun _=>none) else ρ s') s (fun s' hne=>by simp [hne])
  have hself:(fun s'=>if s'=s then (fun _=>none) else ρ s') s=(fun _=>none:Path→Option Plc):=by simp
  have hno:∀ s' T p k,(((st.kill s).setMem s (.tr z [])).mem s'=some T)→(T.at p).isNode=true→(if s'=s then (fun _=>none) else ρ s') p=some k→s'≠s∧(st.kill s).mem s'=some T:=by
    intro s' T p k hm _ hk
    by_cases e:s'=s
    · subst e;simp at hk
    · simp only [St.setMem,e,if_false] at hm;exact ⟨e,hm⟩
  have hget:∀ s' T,(((st.kill s).setMem s (.tr z [])).mem s'=some T)→(s'=s∧T=.tr z [])∨(s'≠s∧(st.kill s).mem s'=some T):=by
    intro s' T hm
    by_cases e:s'=s
    · subst e;simp only [St.setMem,if_true] at hm;cases hm;exact .inl ⟨rfl,rfl⟩
    · simp only [St.setMem,e,if_false] at hm;exact .inr ⟨e,hm⟩
  refine ⟨I,(fun s'=>if s'=s then (fun _=>none) else ρ s'),⟨c1.held,c1.below,c1.keeps,c1.size,c1.defers,fun i=>?_,⟨fun s' T p hm=>?_,fun s' T p k hm hn hk=>?_,fun s' T p k s'' T' p' k' h1 h2 h3 h4 h5 h7 hb=>?_⟩,fun b hb=>?_,fun i c' T q h1 h2 h3=>?_⟩⟩
  · by_cases e:i=d
    · subst e
      have hr:=c.fr i
      rw [h] at hr
      show Rep I _ ((St.nilAs st i s z).fr i) _
      simp only [St.nilAs,St.put,if_true]
      generalize a.tmps.getD i undef=y at hr
      cases hr with
      | stat q=>cases q;exact .ref0 s [] z 0 none
    · show Rep I _ ((St.nilAs st d s z).fr i) _
      simp only [St.nilAs,St.put,e,if_false]
      exact c1.fr i
  · rcases hget s' T hm with ⟨rfl,rfl⟩ | ⟨e,hm'⟩
    · simp only [if_true]
      by_cases hp:p=[]
      · subst hp;exact .inl ⟨rfl,rfl⟩
      · rw [trn_at z p hp];trivial
    · exact c1.mem.row s' T p hm'
  · exact c1.mem.free s' T p k (hno s' T p k hm hn hk).2 hn hk
  · exact c1.mem.inj s' T p k s'' T' p' k' (hno s' T p k h1 h2 h3).2 h2 h3 (hno s'' T' p' k' h4 h5 h7).2 h5 h7 hb
  · obtain ⟨s',T,p,k,h1,h2,h3,h4⟩:=hb
    exact c1.lo b ⟨s',T,p,k,(hno s' T p k h1 h2 h3).2,h2,h3,h4⟩
  · rcases hget i T h2 with ⟨rfl,rfl⟩ | ⟨e,hm'⟩
    · have:i<E.args.length:=(List.getElem?_eq_some_iff.1 h1).1
      omega
    · exact c1.fix i c' T q h1 hm' h3
theorem awp_loopN {P:Program} {M:FuncId→List Bool} {c:Code} {Q:Exit→St→Prop} {st:St} {l:Lock c} {m:Lock Q} (d s z:Nat) (hd:st.fr d=.nilsl) (hs:6≤s) (J:Nat→St→Prop) (N:Nat) (h0:J 0 (st.nilAs d s z))
    (h:∀ k st1,k≤N→J k st1→AWP P M c (thenQ (fun st'=>k<N∧J (k+1) st') Q) st1):LoopP P M c Q st l m :=
  awp_loopE (st.nilAs d s z) (ent_nil st d s z hd hs) J N h0 h
/-! an owned tree gets another number -/
def St.ren (st:St) (s s':Nat) (T:AV):St:=((st.mapF (moveF s [] s' [])).del s).setMem s' T
theorem ren_eq (st:St) (s s':Nat) (T:AV):st.ren s s' T=((st.mapF (moveF s [] s' [])).del s).setMem s' T:=rfl
theorem ent_ren (st:St) (s s':Nat) (T:AV) (hT:st.mem s=some T) (hs:6≤s) (hs':6≤s') (hne:s≠s'):Ent st (st.ren s s' T):=by
  rintro N E a w h6 ⟨I,ρ,c⟩
  have hget:∀ x X,(st.ren s s' T).mem x=some X→∃ y,st.mem y=some X∧(if x=s' then ρ s else ρ x)=ρ y∧(x=s'∧y=s∨x≠s'∧x≠s∧y=x):=by
    intro x X hx
    simp only [St.ren,St.setMem,St.del,St.mapF] at hx
    by_cases e:x=s'
    · rw [if_pos e] at hx;cases hx;exact ⟨s,hT,by simp [e],.inl ⟨e,rfl⟩⟩
    · rw [if_neg e] at hx
      by_cases e2:x=s
      · rw [if_pos e2] at hx;cases hx
      · rw [if_neg e2] at hx;exact ⟨x,hx,by simp [e],.inr ⟨e,e2,rfl⟩⟩
  refine ⟨I,(fun x=>if x=s' then ρ s else ρ x),?_⟩
  have hsep:Sep I (fun x=>if x=s' then ρ s else ρ x) w (st.ren s s' T).mem:=by
    refine ⟨fun x X p hx=>?_,fun x X p k hx hn hk=>?_,fun x X p k x' X' p' k' h1 h2 h3 h4 h5 h7 hb=>?_⟩
    · obtain ⟨y,h1,h2,_⟩:=hget x X hx
      show NodeOk I ((fun x=>if x=s' then ρ s else ρ x) x) w p (X.at p)
      simp only [h2];exact c.mem.row y X p h1
    · obtain ⟨y,h1,h2,_⟩:=hget x X hx
      simp only [h2] at hk;exact c.mem.free y X p k h1 hn hk
    · obtain ⟨y,k1,k2,k3⟩:=hget x X h1
      obtain ⟨y',j1,j2,j3⟩:=hget x' X' h4
      simp only [k2] at h3;simp only [j2] at h7
      obtain ⟨q1,q2⟩:=c.mem.inj y X p k y' X' p' k' k1 h2 h3 j1 h5 h7 hb
      refine ⟨?_,q2⟩
      rcases k3 with ⟨a1,a2⟩ | ⟨a1,a2,a3⟩ <;> rcases j3 with ⟨b1,b2⟩ | ⟨b1,b2,b3⟩ <;> omega
  refine c.remap (ρ':=fun x=>if x=s' then ρ s else ρ x) (mem':=(st.ren s s' T).mem) (moveF s [] s' []) (fun x p x' p' hf=>?_) c.held (fun _ _ _ h=>h) c.below c.keeps hsep (fun b hb=>?_) (fun i c' X q h1 hX h3=>?_)
  · unfold moveF at hf
    by_cases e:x=s
    · rw [if_pos e] at hf
      have:isPref [] p=true:=by cases p <;> rfl
      rw [this] at hf
      simp only [List.length_nil,List.drop_zero,List.nil_append,Option.some.injEq,Prod.mk.injEq] at hf
      obtain ⟨rfl,rfl⟩:=hf
      simp [e]
    · rw [if_neg e] at hf
      unfold fromF at hf
      by_cases e2:x=s'
      · rw [if_pos e2] at hf
        have:isPref [] p=true:=by cases p <;> rfl
        rw [this] at hf;cases hf
      · rw [if_neg e2] at hf;cases hf;simp [e2]
  · obtain ⟨x,X,p,k,h1,h2,h3,h4⟩:=hb
    obtain ⟨y,k1,k2,_⟩:=hget x X h1
    simp only [k2] at h3
    exact c.lo b ⟨y,X,p,k,k1,h2,h3,h4⟩
  · obtain ⟨y,k1,k2,k3⟩:=hget i X hX
    have hi:i<E.args.length:=(List.getElem?_eq_some_iff.1 h1).1
    rcases k3 with ⟨a1,_⟩ | ⟨a1,a2,a3⟩
    · omega
    · subst a3;simp only [a1,if_false];exact c.fix y c' X q h1 k1 h3
theorem awp_loopR {P:Program} {M:FuncId→List Bool} {c:Code} {Q:Exit→St→Prop} {st:St} {l:Lock c} {m:Lock Q} (s s':Nat) (T:AV) (hT:st.mem s=some T) (hs:6≤s) (hs':6≤s') (hne:s≠s') (J:Nat→St→Prop) (N:Nat) (h0:J 0 (st.ren s s' T))
    (h:∀ k st1,k≤N→J k st1→AWP P M c (thenQ (fun st'=>k<N∧J (k+1) st') Q) st1):LoopP P M c Q st l m :=
  awp_loopE (st.ren s s' T) (ent_ren st s s' T hT hs hs' hne) J N h0 h
def St.nilC (st:St) (s j z w:Nat) (cs:List AV):St:=(st.mapF (fromF s [(0,j)])).setMem s (.pt z (.agg (cs.set j (.tr w []))))
theorem nilC_eq (st:St) (s j z w:Nat) (cs:List AV):st.nilC s j z w cs=(st.mapF (fromF s [(0,j)])).setMem s (.pt z (.agg (cs.set j (.tr w [])))):=rfl
theorem pref1 (j:Nat) (p:Path):isPref [(0,j)] p=true↔∃ q,p=(0,j) :: q:=by
  cases p with
  | nil=>simp [isPref]
  | cons a q =>
    simp only [isPref,Bool.and_true,decide_eq_true_eq]
    constructor
    · rintro ⟨h1,h2⟩;exact ⟨q,by rw [h1,h2]⟩
    · rintro ⟨q',h⟩;cases h;simp
theorem ent_nilC (st:St) (s j z w:Nat) (cs:List AV) (hm:st.mem s=some (.pt z (.agg cs))) (hj:j<cs.length) (hc:cs.getD j .any=.nilsl):Ent st (st.nilC s j z w cs):=by
  rintro N E a wd h6 ⟨I,ρ,c⟩
  have hcj:cs[j]=.nilsl:=by rw [← getD_eq' cs j .any hj];exact hc
  let ρ':Pl:=fun x p=>if x=s∧isPref [(0,j)] p=true then none else ρ x p
  have hρ:∀ x p,¬ (x=s∧isPref [(0,j)] p=true)→ρ' x p=ρ x p:=fun x p h=>if_neg h
  have hρ0:∀ q,ρ' s ((0,j) :: q)=none:=fun q=>if_pos ⟨rfl,(pref1 j _).2 ⟨q,rfl⟩⟩
  have hcell:∀ i' j',¬ (i'=0∧j'=j)→(AV.pt z (.agg (cs.set j (.tr w [])))).cellAt i' j'=(AV.pt z (.agg cs)).cellAt i' j':=by
    intro i' j' hne
    cases i' with
    | zero =>
      show (cs.set j (.tr w [])).getD j' .any=cs.getD j' .any
      simp only [List.getD]
      rw [List.getElem?_set_ne (by rintro rfl;exact hne ⟨rfl,rfl⟩)]
    | succ i'=>rfl
  have hcell0:(AV.pt z (.agg (cs.set j (.tr w [])))).cellAt 0 j=.tr w []:=by
    show (cs.set j (.tr w [])).getD j .any=_
    simp [List.getD,hj]
  have hat:∀ p,(¬ ∃ q,p=(0,j) :: q)→p≠[]→(AV.pt z (.agg (cs.set j (.tr w [])))).at p=(AV.pt z (.agg cs)).at p:=by
    intro p hp hn
    cases p with
    | nil=>exact (hn rfl).elim
    | cons ij q =>
      rw [AV.at,AV.at,hcell ij.1 ij.2]
      rintro ⟨e1,e2⟩;exact hp ⟨q,by rw [← e1,← e2]⟩
  have hat0:∀ q,(AV.pt z (.agg (cs.set j (.tr w [])))).at ((0,j) :: q)=(AV.tr w []).at q:=by
    intro q;rw [AV.at];show ((AV.pt z (.agg (cs.set j (.tr w [])))).cellAt 0 j).at q=_;rw [hcell0]
  have hmem:∀ x X,(st.nilC s j z w cs).mem x=some X→(x=s∧X=.pt z (.agg (cs.set j (.tr w []))))∨(x≠s∧st.mem x=some X):=by
    intro x X hx
    simp only [St.nilC,St.setMem,St.mapF] at hx
    by_cases e:x=s
    · rw [if_pos e] at hx;cases hx;exact .inl ⟨e,rfl⟩
    · rw [if_neg e] at hx;exact .inr ⟨e,hx⟩
  -- a node of the new memory that has a place is a node of the old one
  have hold:∀ x X p k,(st.nilC s j z w cs).mem x=some X→(X.at p).isNode=true→ρ' x p=some k→∃ Y,st.mem x=some Y∧(Y.at p).isNode=true∧ρ x p=some k:=by
    intro x X p k hx hn hk
    rcases hmem x X hx with ⟨rfl,rfl⟩ | ⟨e,hx'⟩
    · by_cases hp:∃ q,p=(0,j) :: q
      · obtain ⟨q,rfl⟩:=hp;rw [hρ0] at hk;cases hk
      · have hk':=hk
        rw [hρ x p (fun h=>hp ((pref1 j p).1 h.2))] at hk'
        by_cases hp0:p=[]
        · subst hp0;exact ⟨_,hm,rfl,hk'⟩
        · rw [hat p hp hp0] at hn;exact ⟨_,hm,hn,hk'⟩
    · rw [hρ x p (fun h=>e h.1)] at hk;exact ⟨X,hx',hn,hk⟩
  have hsep:Sep I ρ' wd (st.nilC s j z w cs).mem:=by
    refine ⟨fun x X p hx=>?_,fun x X p k hx hn hk=>?_,fun x X p k x' X' p' k' h1 h2 h3 h4 h5 h7 hb=>?_⟩
    · rcases hmem x X hx with ⟨rfl,rfl⟩ | ⟨e,hx'⟩
      · by_cases hp:∃ q,p=(0,j) :: q
        · obtain ⟨q,rfl⟩:=hp
          rw [hat0 q]
          cases q with
          | nil=>exact .inl ⟨hρ0 [],rfl⟩
          | cons ij q=>rw [trn_at w (ij :: q) (by simp)];trivial
        · by_cases hp0:p=[]
          · subst hp0
            have hold:=c.mem.row x _ [] hm
            show RowOk I (ρ' x) wd [] z [AV.agg (cs.set j (.tr w []))]
            have hold':RowOk I (ρ x) wd [] z [AV.agg cs]:=hold
            rcases hold' with ⟨_,h⟩ | ⟨k,E',arr,h1,h2,h3,h4,h5,h7,h8⟩
            · cases h
            · refine .inr ⟨k,E',arr,by rw [hρ x [] (fun h=>by cases h.2)];exact h1,h2,h3,h4,h5,h7,fun i hi=>?_⟩
              have hi0:i=0:=by simp at hi;omega
              subst hi0
              obtain ⟨g1,g2⟩:=h8 0 (by simp)
              refine ⟨by simpa [AV.cells] using g1,fun j' hj'=>?_⟩
              have hj2:j'<cs.length:=by simpa [AV.cells] using hj'
              obtain ⟨g3,g4⟩:=g2 j' (by simpa [AV.cells] using hj2)
              refine ⟨?_,g4⟩
              by_cases e:j'=j
              · subst e
                have g3':CellOk I (ρ x ([]++[(0,j')])) (cs[j']) (arr.getD (k.off+0*z+j') undef):=by simpa [AV.cells] using g3
                rw [hcj] at g3'
                have hce:(AV.agg (cs.set j' (.tr w []))).cells[j']=.tr w []:=by simp [AV.cells]
                show CellOk I (ρ' x ([]++[(0,j')])) ((AV.agg (cs.set j' (.tr w []))).cells[j']) _
                rw [hce]
                refine .inl ⟨rfl,.inr ⟨rfl,?_⟩⟩
                rcases g3' with ⟨q,_⟩ | ⟨_,q⟩
                · cases q
                · generalize arr.getD (k.off+0*z+j') undef=y at q ⊢
                  cases q;exact ⟨none,rfl⟩
              · have hce:(AV.agg (cs.set j (.tr w []))).cells[j']=cs[j']:=by
                  simp only [AV.cells];rw [List.getElem_set_ne (fun h=>e h.symm)]
                show CellOk I (ρ' x ([]++[(0,j')])) ((AV.agg (cs.set j (.tr w []))).cells[j']) _
                rw [hce,hρ x _ (fun h=>by obtain ⟨q,hq⟩:=(pref1 j _).1 h.2;simp at hq;exact e hq.1)]
                simpa [AV.cells] using g3
          · rw [hat p hp hp0]
            have:=c.mem.row x _ p hm
            have hp1:∀ q:Path,¬ (x=x∧isPref [(0,j)] (p++q)=true):=by
              rintro q ⟨_,h⟩
              obtain ⟨r,hr⟩:=(pref1 j _).1 h
              cases p with
              | nil=>exact hp0 rfl
              | cons a p=>simp at hr;exact hp ⟨p,by rw [hr.1]⟩
            have hpp:ρ' x p=ρ x p:=by have:=hp1 [];rw [List.append_nil] at this;exact hρ x p this
            generalize (AV.pt z (AV.agg cs)).at p=Y at this ⊢
            cases Y with
            | tr z' es =>
              rcases this with ⟨h1,h2⟩ | ⟨k,E',arr,h1,h2,h3,h4,h5,h7,h8⟩
              · exact .inl ⟨hpp.trans h1,h2⟩
              · exact .inr ⟨k,E',arr,hpp.trans h1,h2,h3,h4,h5,h7,fun i hi=>⟨(h8 i hi).1,fun j' hj'=>by rw [hρ x _ (hp1 _)];exact (h8 i hi).2 j' hj'⟩⟩
            | pt z' y =>
              rcases this with ⟨h1,h2⟩ | ⟨k,E',arr,h1,h2,h3,h4,h5,h7,h8⟩
              · cases h2
              · exact .inr ⟨k,E',arr,hpp.trans h1,h2,h3,h4,h5,h7,fun i hi=>⟨(h8 i hi).1,fun j' hj'=>by rw [hρ x _ (hp1 _)];exact (h8 i hi).2 j' hj'⟩⟩
            | mt kd m=>obtain ⟨k,es,cp,h1,h2⟩:=this;exact ⟨k,es,cp,hpp.trans h1,h2⟩
            | _=>trivial
      · have:ρ' x=ρ x:=by funext p;exact hρ x p (fun h=>e h.1)
        rw [this];exact c.mem.row x X p hx'
    · obtain ⟨Y,k1,k2,k3⟩:=hold x X p k hx hn hk
      exact c.mem.free x Y p k k1 k2 k3
    · obtain ⟨Y,k1,k2,k3⟩:=hold x X p k h1 h2 h3
      obtain ⟨Y',j1,j2,j3⟩:=hold x' X' p' k' h4 h5 h7
      exact c.mem.inj x Y p k x' Y' p' k' k1 k2 k3 j1 j2 j3 hb
  refine ⟨I,ρ',c.remap (ρ':=ρ') (mem':=(st.nilC s j z w cs).mem) (fromF s [(0,j)]) (fun x p x' p' hf=>?_) c.held (fun _ _ _ h=>h) c.below c.keeps hsep (fun b hb=>?_) (fun i c' X q h1 hX h3=>?_)⟩
  · unfold fromF at hf
    by_cases e:x=s
    · rw [if_pos e] at hf
      cases h:isPref [(0,j)] p with
      | true=>rw [h] at hf;cases hf
      | false=>rw [h] at hf;cases hf;exact hρ x p (fun q=>by rw [h] at q;cases q.2)
    · rw [if_neg e] at hf;cases hf;exact hρ x p (fun q=>e q.1)
  · obtain ⟨x,X,p,k,h1,h2,h3,h4⟩:=hb
    obtain ⟨Y,k1,k2,k3⟩:=hold x X p k h1 h2 h3
    exact c.lo b ⟨x,Y,p,k,k1,k2,k3,h4⟩
  · rcases hmem i X hX with ⟨rfl,rfl⟩ | ⟨e,hx'⟩
    · have hq:q=[]:=h3
      subst hq
      rw [hρ i [] (fun h=>by cases h.2)]
      exact c.fix i c' _ [] h1 hm rfl
    · rw [hρ i q (fun h=>e h.1)];exact c.fix i c' X q h1 hx' h3
theorem awp_loopC {P:Program} {M:FuncId→List Bool} {c:Code} {Q:Exit→St→Prop} {st:St} {l:Lock c} {m:Lock Q} (s j z w:Nat) (cs:List AV) (hm:st.mem s=some (.pt z (.agg cs))) (hj:j<cs.length) (hc:cs.getD j .any=.nilsl) (J:Nat→St→Prop) (N:Nat) (h0:J 0 (st.nilC s j z w cs))
    (h:∀ k st1,k≤N→J k st1→AWP P M c (thenQ (fun st'=>k<N∧J (k+1) st') Q) st1):LoopP P M c Q st l m :=
  awp_loopE (st.nilC s j z w cs) (ent_nilC st s j z w cs hm hj hc) J N h0 h
theorem nilAs_eq (st:St) (d s z:Nat):st.nilAs d s z=((st.kill s).setMem s (.tr z [])).put (some d) (.ref s [] z 0 0):=rfl
end Go.AM
set_option maxRecDepth 8000
namespace Go.AM
open Go.Proofs
theorem iidentity (n:Nat) (hn:n≤1099511627776):SpecAt Try.prog 99 [.i64 n] (itr (runI 0 n)):=by
  refine spec_of_awp (M:=MM) (np:=1) (fz:=false) mixed Try.func99 rfl rfl (by decide) rfl (Nat.le_refl _) (by decide +kernel) (.inl rfl) (by first | trivial | simp only [sigsOk_nil,sigsOk_some,sigsOk_none,sig_tr,sig_pt,sig_mt,sig_agg,List.map_cons,List.map_nil,sig1_tr,sig1_pt,sig1_v,and_self,true_and,List.length_map,List.length_set]) ?_
  have hr:=runI_len 0 n
  simp -dsimp -implicitDefEqProofs (disch:=first | omega | (simp only [lenr];try omega)) only [↓amPre,amAll,↓reduceIte,reduceCtorEq,Nat.reduceEqDiff,Nat.reduceBEq,Nat.reduceAdd,Nat.reduceLeDiff,Nat.reduceSub,Nat.reduceMul,Int.reduceToNat,List.size_toArray,tyF,MM,bu0,cbP3]
  refine awp_loop (fun j st=>j≤n∧st.fr 9=.i64 j∧st.fr 8=.i64 n∧st.fr 3=.ref 6 [] 1 0 n∧st.mem 6=some (itr (mixL (runI 0 n) (List.replicate n 0) j))) (n) ?_ ?_
  · simp -dsimp -implicitDefEqProofs (disch:=first | omega | (simp only [lenr];try omega)) only [↓amPre,amAll,↓reduceIte,reduceCtorEq,Nat.reduceEqDiff,Nat.reduceBEq,Nat.reduceAdd,Nat.reduceLeDiff,Nat.reduceSub,Nat.reduceMul,Int.reduceToNat,List.size_toArray,tyF,MM,bu0,cbP3,mixL_zero]
    simp
  rintro j st _ ⟨hj,f9,f8,f3,m6⟩
  have hm:=mixL_len (runI 0 n) (List.replicate n 0) j (by simp [hr])
  rw [List.length_replicate] at hm
  by_cases hlt:j<n
  · have hs:=mixL_set (runI 0 n) (List.replicate n 0) j 0 (by simp [hr]) (by simp;omega)
    rw [runI_get 0 n j hlt,Int.zero_add] at hs
    simp -dsimp -implicitDefEqProofs (disch:=first | omega | (simp only [lenr];try omega)) only [↓amPre,amAll,↓reduceIte,reduceCtorEq,Nat.reduceEqDiff,Nat.reduceBEq,Nat.reduceAdd,Nat.reduceLeDiff,Nat.reduceSub,Nat.reduceMul,Int.reduceToNat,List.size_toArray,tyF,MM,bu0,cbP3,f9,f8,f3,m6,hm,hs]
    repeat' (first | omega | rfl | exact i64c (by omega) | exact vic (by omega) | apply And.intro)
  · have hje:j=n:=by omega
    subst hje
    have:=mixL_all (runI 0 j) (List.replicate j 0) j (by omega) (by simp)
    simp -dsimp -implicitDefEqProofs (disch:=first | omega | (simp only [lenr];try omega)) only [↓amPre,amAll,↓reduceIte,reduceCtorEq,Nat.reduceEqDiff,Nat.reduceBEq,Nat.reduceAdd,Nat.reduceLeDiff,Nat.reduceSub,Nat.reduceMul,Int.reduceToNat,List.size_toArray,tyF,MM,bu0,cbP3,f9,f8,f3,m6,hm,hr,this]
theorem icompose (p q:List Int) (hp:p.length≤1099511627776) (hq:∀ x∈p,0≤x∧x<q.length):SpecAt Try.prog 100 [isl p,isl q] (itr (compI p q)):=by
  have hc:(compI p q).length=p.length:=by simp [compI]
  refine spec_of_awp (M:=MM) (np:=2) (fz:=false) mixed Try.func100 rfl rfl (by decide) rfl (Nat.le_refl _) (by decide +kernel) (.inl rfl) (by first | trivial | simp only [sigsOk_nil,sigsOk_some,sigsOk_none,sig_tr,sig_pt,sig_mt,sig_agg,List.map_cons,List.map_nil,sig1_tr,sig1_pt,sig1_v,and_self,true_and,List.length_map,List.length_set]) ?_
  simp -dsimp -implicitDefEqProofs (disch:=first | omega | (simp only [lenr];try omega)) only [↓amPre,amAll,↓reduceIte,reduceCtorEq,Nat.reduceEqDiff,Nat.reduceBEq,Nat.reduceAdd,Nat.reduceLeDiff,Nat.reduceSub,Nat.reduceMul,Int.reduceToNat,List.size_toArray,tyF,MM,bu0,cbP3]
  refine awp_loop (fun j st=>j≤p.length∧st.fr 13=.i64 j∧st.fr 12=.i64 p.length∧st.fr 11=isl p∧st.fr 1=isl q∧st.fr 5=.ref 10 [] 1 0 p.length∧st.mem 10=some (itr (mixL (compI p q) (List.replicate p.length 0) j))) (p.length) ?_ ?_
  · simp -dsimp -implicitDefEqProofs (disch:=first | omega | (simp only [lenr];try omega)) only [↓amPre,amAll,↓reduceIte,reduceCtorEq,Nat.reduceEqDiff,Nat.reduceBEq,Nat.reduceAdd,Nat.reduceLeDiff,Nat.reduceSub,Nat.reduceMul,Int.reduceToNat,List.size_toArray,tyF,MM,bu0,cbP3,mixL_zero]
    simp
  rintro j st _ ⟨hj,f13,f12,f11,f1,f5,m10⟩
  have hm:=mixL_len (compI p q) (List.replicate p.length 0) j (by simp [hc])
  rw [List.length_replicate] at hm
  by_cases hlt:j<p.length
  · have hx:=hq _ (mem_getD p j 0 hlt)
    have hs:=mixL_set (compI p q) (List.replicate p.length 0) j 0 (by simp [hc]) (by simp;omega)
    have hg:(compI p q).getD j 0=q.getD (p.getD j 0).toNat 0:=by simp [compI,List.getD,hlt]
    rw [hg] at hs
    simp -dsimp -implicitDefEqProofs (disch:=first | omega | (simp only [lenr];try omega)) only [↓amPre,amAll,↓reduceIte,reduceCtorEq,Nat.reduceEqDiff,Nat.reduceBEq,Nat.reduceAdd,Nat.reduceLeDiff,Nat.reduceSub,Nat.reduceMul,Int.reduceToNat,List.size_toArray,tyF,MM,bu0,cbP3,f13,f12,f11,f1,f5,m10,hm,hs]
    repeat' (first | omega | rfl | exact i64c (by omega) | exact vic (by omega) | apply And.intro)
  · have hje:j=p.length:=by omega
    subst hje
    have:=mixL_all (compI p q) (List.replicate p.length 0) p.length (by omega) (by simp)
    simp -dsimp -implicitDefEqProofs (disch:=first | omega | (simp only [lenr];try omega)) only [↓amPre,amAll,↓reduceIte,reduceCtorEq,Nat.reduceEqDiff,Nat.reduceBEq,Nat.reduceAdd,Nat.reduceLeDiff,Nat.reduceSub,Nat.reduceMul,Int.reduceToNat,List.size_toArray,tyF,MM,bu0,cbP3,f13,f12,f11,f1,f5,m10,hm,hc,this]
theorem iinverse (p:List Int) (hp:p.length≤1099511627776) (hq:∀ x∈p,0≤x∧x<p.length):SpecAt Try.prog 257 [isl p] (itr (invI p)):=by
  refine spec_of_awp (M:=MM) (np:=1) (fz:=false) mixed Try.func257 rfl rfl (by decide) rfl (Nat.le_refl _) (by decide +kernel) (.inl rfl) (by first | trivial | simp only [sigsOk_nil,sigsOk_some,sigsOk_none,sig_tr,sig_pt,sig_mt,sig_agg,List.map_cons,List.map_nil,sig1_tr,sig1_pt,sig1_v,and_self,true_and,List.length_map,List.length_set]) ?_
  simp -dsimp -implicitDefEqProofs (disch:=first | omega | (simp only [lenr];try omega)) only [↓amPre,amAll,↓reduceIte,reduceCtorEq,Nat.reduceEqDiff,Nat.reduceBEq,Nat.reduceAdd,Nat.reduceLeDiff,Nat.reduceSub,Nat.reduceMul,Int.reduceToNat,List.size_toArray,tyF,MM,bu0,cbP3]
  refine awp_loop (fun j st=>j≤p.length∧st.fr 11=.i64 j∧st.fr 10=.i64 p.length∧st.fr 9=isl p∧st.fr 3=.ref 8 [] 1 0 p.length∧st.mem 8=some (itr (scat (List.replicate p.length 0) p (fun i=>(i:Int)) j))) (p.length) ?_ ?_
  · simp -dsimp -implicitDefEqProofs (disch:=first | omega | (simp only [lenr];try omega)) only [↓amPre,amAll,↓reduceIte,reduceCtorEq,Nat.reduceEqDiff,Nat.reduceBEq,Nat.reduceAdd,Nat.reduceLeDiff,Nat.reduceSub,Nat.reduceMul,Int.reduceToNat,List.size_toArray,tyF,MM,bu0,cbP3]
    simp [scat]
  rintro j st _ ⟨hj,f11,f10,f9,f3,m8⟩
  have hm:=scat_len (List.replicate p.length 0) p (fun i=>(i:Int)) j
  rw [List.length_replicate] at hm
  by_cases hlt:j<p.length
  · have hx:=hq _ (mem_getD p j 0 hlt)
    have hs:(scat (List.replicate p.length 0) p (fun i=>(i:Int)) j).set (p.getD j 0).toNat (j:Int)=scat (List.replicate p.length 0) p (fun i=>(i:Int)) (j+1):=rfl
    simp -dsimp -implicitDefEqProofs (disch:=first | omega | (simp only [lenr];try omega)) only [↓amPre,amAll,↓reduceIte,reduceCtorEq,Nat.reduceEqDiff,Nat.reduceBEq,Nat.reduceAdd,Nat.reduceLeDiff,Nat.reduceSub,Nat.reduceMul,Int.reduceToNat,List.size_toArray,tyF,MM,bu0,cbP3,f11,f10,f9,f3,m8,hm,hs]
    repeat' (first | omega | rfl | exact i64c (by omega) | exact vic (by omega) | apply And.intro)
  · have hje:j=p.length:=by omega
    subst hje
    simp -dsimp -implicitDefEqProofs (disch:=first | omega | (simp only [lenr];try omega)) only [↓amPre,amAll,↓reduceIte,reduceCtorEq,Nat.reduceEqDiff,Nat.reduceBEq,Nat.reduceAdd,Nat.reduceLeDiff,Nat.reduceSub,Nat.reduceMul,Int.reduceToNat,List.size_toArray,tyF,MM,bu0,cbP3,f11,f10,f9,f3,m8,hm]
    repeat' (first | omega | rfl | exact i64c (by omega) | exact vic (by omega) | apply And.intro)
end Go.AM
set_option maxRecDepth 8000
namespace Go.AM
open Go.Proofs
def compR (ks:List Kind) (a b:List Twist):AV:=if psOk ks a∧psOk ks b then .tup [ttr (compS ks a b),.bl true] else .tup [.tr 2 [],.bl false]
abbrev smallT (s:List Twist):Prop:=s.length≤1099511627776∧∀ t∈s,t.to.length≤1099511627776∧t.by'.length≤1099511627776
end Go.AM
set_option maxRecDepth 8000
namespace Go.AM
open Go.Proofs
def invR (ks:List Kind) (a:List Twist):AV:=if psOk ks a then .tup [ttr (invS ks a),.bl true] else .tup [.tr 2 [],.bl false]
end Go.AM
set_option maxRecDepth 8000
namespace Go.AM
open Go.Proofs
def fewT (s:List Twist):Prop:=s.length≤3∧(∀ t∈s,t.to.length≤20∧t.by'.length≤20)∧cnts s≤120
abbrev wfT (s:List Twist):Prop:=s.length≤9223372036854775807∧∀ t∈s,t.to.length≤9223372036854775807∧t.by'.length≤9223372036854775807
end Go.AM
set_option maxRecDepth 8000
namespace Go.AM
open Go.Proofs
def permR (ks:List Kind) (s:List Twist):List Int:=if psOk ks s then permOf ks s else []
end Go.AM
set_option maxRecDepth 8000
namespace Go.AM
open Go.Proofs
def sumI:List Int→Int
  | []=>0
  | x :: r=>x+sumI r
def twS (k:Kind) (t:Twist):Int:=(sumI t.by').tmod k.o
def twR (ks:List Kind) (s:List Twist) (n:Int):Int:=if psOk ks s∧0≤n∧n<ks.length then twS (ks.getD n.toNat default) (s.getD n.toNat default) else -1
end Go.AM
namespace Go.AM
/-! cycles,plainly -/
def itN (f:Nat→Nat):Nat→Nat→Nat
  | 0,x=>x
  | k+1,x=>f (itN f k x)
theorem itN_add (f:Nat→Nat) (a:Nat):∀ b x,itN f (a+b) x=itN f b (itN f a x)
  | 0,_=>rfl
  | b+1,x=>by rw [← Nat.add_assoc,itN,itN,itN_add f a b x]
structure PermF (n:Nat) (f:Nat→Nat):Prop where
  lt:∀ x,x<n→f x<n
  inj:∀ x y,x<n→y<n→f x=f y→x=y
section
variable {n:Nat} {f:Nat→Nat}
theorem PermF.itlt (h:PermF n f):∀ k x,x<n→itN f k x<n
  | 0,_,hx=>hx
  | k+1,x,hx=>h.lt _ (h.itlt k x hx)
theorem PermF.itinj (h:PermF n f):∀ k x y,x<n→y<n→itN f k x=itN f k y→x=y
  | 0,_,_,_,_,e=>e
  | k+1,x,y,hx,hy,e=>h.itinj k x y hx hy (h.inj _ _ (h.itlt k x hx) (h.itlt k y hy) e)
theorem pigeon (g:Nat→Nat) (hg:∀ i,i≤n→g i<n):∃ i j,i<j∧j≤n∧g i=g j:=by
  apply Classical.byContradiction
  intro hno
  have hn:((List.range (n+1)).map g).Nodup:=by
    rw [List.Nodup,List.pairwise_map]
    refine List.Pairwise.imp_of_mem ?_ (List.nodup_range (n:=n+1))
    intro a b ha hb hab e
    rw [List.mem_range] at ha hb
    rcases Nat.lt_or_gt_of_ne hab with hlt | hlt
    · exact hno ⟨a,b,hlt,by omega,e⟩
    · exact hno ⟨b,a,hlt,by omega,e.symm⟩
  have:=len_le_of_sub _ (List.range n) hn fun x hx=>by
    obtain ⟨i,hi,rfl⟩:=List.mem_map.1 hx
    rw [List.mem_range] at hi ⊢
    exact hg i (by omega)
  simp at this
  omega
theorem PermF.back (h:PermF n f) (x:Nat) (hx:x<n):∃ k,1≤k∧k≤n∧itN f k x=x:=by
  obtain ⟨i,j,hij,hj,e⟩:=pigeon (n:=n) (fun i=>itN f i x) (fun i _=>h.itlt i x hx)
  refine ⟨j - i,by omega,by omega,?_⟩
  have e2:j=(j - i)+i:=by omega
  rw [e2,itN_add] at e
  exact (h.itinj i _ _ hx (h.itlt _ _ hx) e).symm
def perN (n:Nat) (f:Nat→Nat) (x:Nat):Nat:=((List.range n).find? fun k=>itN f (k+1) x == x).getD 0+1
theorem PermF.per (h:PermF n f) (x:Nat) (hx:x<n):1≤perN n f x∧perN n f x≤n∧itN f (perN n f x) x=x∧∀ k,1≤k→k<perN n f x→itN f k x≠x:=by
  unfold perN
  cases e:(List.range n).find? fun k=>itN f (k+1) x == x with
  | none =>
    obtain ⟨k,h1,h2,h3⟩:=h.back x hx
    rw [List.find?_eq_none] at e
    have:=e (k - 1) (List.mem_range.2 (by omega))
    rw [show k - 1+1=k by omega] at this
    simp [h3] at this
  | some k =>
    rw [List.find?_range_eq_some] at e
    obtain ⟨h1,h2,h3⟩:=e
    simp only [Option.getD_some]
    simp at h1
    rw [List.mem_range] at h2
    refine ⟨by omega,by omega,h1,fun j hj1 hj2=>?_⟩
    have:=h3 (j - 1) (by omega)
    rw [show j - 1+1=j by omega] at this
    simpa using this
def orbN (n:Nat) (f:Nat→Nat) (x:Nat):List Nat:=(List.range (perN n f x)).map fun i=>itN f i x
theorem orbN_len (x:Nat):(orbN n f x).length=perN n f x:=by simp [orbN]
theorem PermF.itmod (h:PermF n f) (x:Nat) (hx:x<n):∀ m k,itN f (k+m*perN n f x) x=itN f k x
  | 0,k=>by simp
  | m+1,k=>by
    have e:k+(m+1)*perN n f x=perN n f x+(k+m*perN n f x):=by rw [Nat.succ_mul];omega
    rw [e,itN_add,(h.per x hx).2.2.1,h.itmod x hx m k]
theorem PermF.mem_orb (h:PermF n f) (x:Nat) (hx:x<n) (y:Nat):y∈orbN n f x↔∃ k,itN f k x=y:=by
  unfold orbN
  rw [List.mem_map]
  constructor
  · rintro ⟨k,_,e⟩;exact ⟨k,e⟩
  · rintro ⟨k,e⟩
    have hp:=(h.per x hx).1
    refine ⟨k % perN n f x,List.mem_range.2 (Nat.mod_lt _ (by omega)),?_⟩
    have:=h.itmod x hx (k / perN n f x) (k % perN n f x)
    rw [Nat.mul_comm,Nat.mod_add_div] at this
    rw [← this];exact e
theorem PermF.orb_lt (h:PermF n f) (x:Nat) (hx:x<n) (y:Nat) (hy:y∈orbN n f x):y<n:=by
  obtain ⟨k,rfl⟩:=(h.mem_orb x hx y).1 hy;exact h.itlt k x hx
theorem PermF.orb_self (h:PermF n f) (x:Nat) (hx:x<n):x∈orbN n f x:=(h.mem_orb x hx x).2 ⟨0,rfl⟩
theorem PermF.orb_symm (h:PermF n f) (x:Nat) (hx:x<n) (y:Nat) (hy:y∈orbN n f x):x∈orbN n f y:=by
  have hyn:=h.orb_lt x hx y hy
  unfold orbN at hy
  obtain ⟨k,hk,rfl⟩:=List.mem_map.1 hy
  have hk':=List.mem_range.1 hk
  refine (h.mem_orb _ hyn x).2 ⟨perN n f x - k,?_⟩
  rw [← itN_add,show k+(perN n f x - k)=perN n f x by omega,(h.per x hx).2.2.1]
theorem PermF.orb_trans (h:PermF n f) (x y z:Nat) (hx:x<n) (hy:y∈orbN n f x) (hz:z∈orbN n f y):z∈orbN n f x:=by
  have hyn:=h.orb_lt x hx y hy
  obtain ⟨k,rfl⟩:=(h.mem_orb x hx y).1 hy
  obtain ⟨m,rfl⟩:=(h.mem_orb _ hyn z).1 hz
  exact (h.mem_orb x hx _).2 ⟨k+m,by rw [itN_add]⟩
theorem PermF.orb_nodup (h:PermF n f) (x:Nat) (hx:x<n):(orbN n f x).Nodup:=by
  unfold orbN
  rw [List.Nodup,List.pairwise_map]
  refine List.Pairwise.imp_of_mem ?_ (List.nodup_range (n:=perN n f x))
  have key:∀ a b,a<b→b<perN n f x→itN f a x=itN f b x→False:=by
    intro a b hab hb e
    have e2:b=(b - a)+a:=by omega
    rw [e2,itN_add] at e
    exact (h.per x hx).2.2.2 (b - a) (by omega) (by omega) (h.itinj a _ _ hx (h.itlt _ _ hx) e).symm
  intro a b ha hb hab e
  rw [List.mem_range] at ha hb
  rcases Nat.lt_or_gt_of_ne hab with hlt | hlt
  · exact key a b hlt hb e
  · exact key b a hlt ha e.symm
def minN (n:Nat) (f:Nat→Nat) (x:Nat):Bool:=(orbN n f x).all fun y=>decide (x≤y)
theorem minN_iff (x:Nat):minN n f x=true↔∀ y∈orbN n f x,x≤y:=by simp [minN]
def cycN (n:Nat) (f:Nat→Nat):List (List Nat):=((List.range n).filter (minN n f)).map (orbN n f)
theorem PermF.minrep (h:PermF n f) (x:Nat) (hx:x<n):∃ z,z≤x∧minN n f z=true∧x∈orbN n f z:=by
  -- the smallest of the orbit
  induction x using Nat.strongRecOn with
  | ind x ih =>
    by_cases hm:minN n f x=true
    · exact ⟨x,Nat.le_refl _,hm,h.orb_self x hx⟩
    · rw [minN_iff] at hm
      have:∃ y,y∈orbN n f x∧y<x:=by
        apply Classical.byContradiction
        intro hno
        exact hm fun y hy=>Nat.le_of_not_lt fun hlt=>hno ⟨y,hy,hlt⟩
      obtain ⟨y,hy,hlt⟩:=this
      obtain ⟨z,h1,h2,h3⟩:=ih y hlt (by omega)
      exact ⟨z,by omega,h2,h.orb_trans z y x (by omega) h3 (h.orb_symm x hx y hy)⟩
theorem PermF.cyc_flat (h:PermF n f):(cycN n f).flatten.length=n:=by
  have hmem:∀ y,y∈(cycN n f).flatten↔y<n:=by
    intro y
    simp only [List.mem_flatten,cycN,List.mem_map,List.mem_filter,List.mem_range]
    constructor
    · rintro ⟨l,⟨x,⟨hx,_⟩,rfl⟩,hy⟩;exact h.orb_lt x hx y hy
    · intro hy
      obtain ⟨z,h1,h2,h3⟩:=h.minrep y hy
      exact ⟨_,⟨z,⟨by omega,h2⟩,rfl⟩,h3⟩
  have hnd:(cycN n f).flatten.Nodup:=by
    rw [List.Nodup,List.pairwise_flatten]
    constructor
    · intro l hl
      obtain ⟨x,hx,rfl⟩:=List.mem_map.1 hl
      exact h.orb_nodup x (List.mem_range.1 (List.mem_filter.1 hx).1)
    · unfold cycN
      rw [List.pairwise_map]
      refine List.Pairwise.imp_of_mem ?_ ((List.nodup_range (n:=n)).filter (minN n f))
      intro a b ha hb hab y hy z hz e
      subst e
      rw [List.mem_filter,List.mem_range] at ha hb
      have h1:=h.orb_trans a y b ha.1 hy (h.orb_symm b hb.1 y hz)
      have h2:=h.orb_symm a ha.1 b h1
      have:=(minN_iff a).1 ha.2 b h1
      have:=(minN_iff b).1 hb.2 a h2
      exact hab (by omega)
  have a1:=len_le_of_sub _ (List.range n) hnd fun y hy=>List.mem_range.2 ((hmem y).1 hy)
  have a2:=len_le_of_sub (List.range n) _ List.nodup_range fun y hy=>(hmem y).2 (List.mem_range.1 hy)
  rw [List.length_range] at a1 a2
  omega
theorem even_count:∀ (L:List (List Nat)),(∀ l∈L,1≤l.length)→L.length≤L.flatten.length∧((L.filter fun l=>l.length % 2 == 0).length) % 2=(L.flatten.length - L.length) % 2
  | [],_=>by simp
  | l :: L,h=>by
    obtain ⟨h1,h2⟩:=even_count L fun x hx=>h x (by simp [hx])
    have hl:=h l (by simp)
    rw [List.flatten_cons,List.length_append,List.length_cons,List.filter_cons]
    refine ⟨by omega,?_⟩
    by_cases e:l.length % 2=0
    · simp only [e,beq_self_eq_true,if_true,List.length_cons];omega
    · have:(l.length % 2 == 0)=false:=by simpa using e
      simp only [this,Bool.false_eq_true,if_false];omega
end
def fOf (p:List Int):Nat→Nat:=fun x=>(p.getD x 0).toNat
theorem permF_of {p:List Int} (h:isPerm p):PermF p.length (fOf p) :=
  ⟨fun x hx=>by have:=perm_get h hx;unfold fOf;omega,fun x y hx hy e=>perm_inj h hx hy (by have:=perm_get h hx;have:=perm_get h hy;unfold fOf at e;omega)⟩
theorem p_it {p:List Int} (h:isPerm p) {x:Nat} (hx:x<p.length) (k:Nat):p.getD (itN (fOf p) k x) 0=((itN (fOf p) (k+1) x:Nat):Int):=by
  have:=perm_get h ((permF_of h).itlt k x hx)
  rw [itN,fOf];omega
def orbI (p:List Int) (x:Nat):List Int:=(orbN p.length (fOf p) x).map fun (y:Nat)=>(y:Int)
theorem orbI_eq (p:List Int) (x:Nat):orbI p x=(List.range (perN p.length (fOf p) x)).map fun i=>((itN (fOf p) i x:Nat):Int):=by
  rw [orbI,orbN,List.map_map];rfl
theorem orbI_len (p:List Int) (x:Nat):(orbI p x).length=perN p.length (fOf p) x:=by rw [orbI_eq];simp
def minI (p:List Int) (x:Nat):Bool:=minN p.length (fOf p) x
def cycI (p:List Int):List (List Int):=((List.range p.length).filter (minI p)).map (orbI p)
theorem cycI_eq (p:List Int):cycI p=(cycN p.length (fOf p)).map fun l=>l.map fun (y:Nat)=>(y:Int):=by
  rw [cycI,cycN,List.map_map];rfl
def sgnI (p:List Int):Int:=if (p.length - (cycI p).length) % 2=1 then -1 else 1
theorem cyc_facts {p:List Int} (h:isPerm p):(cycI p).length≤p.length∧(∀ l∈cycI p,1≤l.length∧l.length≤p.length)∧((cycI p).filter fun l=>l.length % 2 == 0).length % 2=(p.length - (cycI p).length) % 2:=by
  have hp:=permF_of h
  have hl:∀ l∈cycN p.length (fOf p),1≤l.length∧l.length≤p.length:=by
    intro l hl
    obtain ⟨x,hx,rfl⟩:=List.mem_map.1 hl
    have hx':=List.mem_range.1 (List.mem_filter.1 hx).1
    rw [orbN_len]
    have:=hp.per x hx';omega
  obtain ⟨h1,h2⟩:=even_count (cycN p.length (fOf p)) fun l hm=>(hl l hm).1
  rw [hp.cyc_flat] at h1 h2
  refine ⟨by rw [cycI_eq,List.length_map];exact h1,fun l hm=>?_,?_⟩
  · rw [cycI_eq] at hm
    obtain ⟨l',hl',rfl⟩:=List.mem_map.1 hm
    rw [List.length_map];exact hl l' hl'
  · have e:((cycI p).filter fun l=>l.length % 2 == 0).length=((cycN p.length (fOf p)).filter fun l=>l.length % 2 == 0).length:=by
      rw [cycI_eq,List.filter_map,List.length_map]
      congr 1
      apply List.filter_congr;intro l _;simp
    rw [e,cycI_eq,List.length_map];exact h2
instance:Thing Bool:=⟨⟩
def seenB (p:List Int) (i y:Nat):Bool:=(List.range i).any fun z=>decide (y∈orbN p.length (fOf p) z)
def seenJ (p:List Int) (i j:Nat):List Bool:=(List.range p.length).map fun y=>seenB p i y || decide (y∈(orbN p.length (fOf p) i).take j)
section
variable {p:List Int} (hp:isPerm p)
include hp
end
end Go.AM
set_option maxRecDepth 8000
namespace Go.AM
open Go.Proofs
def itL (p:List Int) (x k:Nat):List Int:=(List.range k).map fun i=>((itN (fOf p) i x:Nat):Int)
def cycK (p:List Int) (k:Nat):List (List Int):=((List.range k).filter (minI p)).map (orbI p)
def longC (L:List (List Int)):List (List Int):=L.filter fun l=>decide (1<l.length)
end Go.AM
set_option maxRecDepth 8000
namespace Go.AM
open Go.Proofs
def bitK (set:Int) (k:Nat):Bool:=bitsI .and .i64 (set.fdiv (2 ^ (min k 64))) 1 == 1
def oddS (s:List Twist) (set:Int):Nat→Nat
  | 0=>0
  | k+1=>oddS s set k+if bitK set k=true∧sgnI (s.getD k default).to<0 then 1 else 0
def parS (s:List Twist) (set:Int):Int:=((oddS s set s.length % 2:Nat):Int)
def parR (ks:List Kind) (s:List Twist) (set:Int):Int:=if psOk ks s∧1≤set∧set≤((2 ^ ks.length:Nat):Int) - 1 then parS s set else -1
end Go.AM
set_option maxRecDepth 8000
namespace Go.AM
open Go.Proofs
def invV (ks:List Kind) (s:List Twist) (i:Invar):Int:=if i.k=1 then twR ks s i.s else if i.k=2 then parR ks s i.s else -1
end Go.AM
set_option maxRecDepth 8000
namespace Go.AM
open Go.Proofs
instance:Thing UInt8:=⟨⟩
theorem iisNames (l:List UInt8) (hl:l.length≤1099511627776):SpecAt Try.prog 172 [.st l] (.bl (decide (namesOk l))):=by
  refine spec_of_awp (M:=MM) (np:=1) (fz:=true) mixed Try.func172 rfl rfl (by decide) rfl (Nat.le_refl _) (by decide +kernel) (.inr ⟨rfl,rfl⟩) trivial ?_
  simp -dsimp -implicitDefEqProofs (disch:=first | omega | (simp only [lenr];try omega)) only [↓amPre,amAll,↓reduceIte,reduceCtorEq,Nat.reduceEqDiff,Nat.reduceBEq,Nat.reduceAdd,Nat.reduceLeDiff,Nat.reduceSub,Nat.reduceMul,Int.reduceToNat,List.size_toArray,tyF,MM,bu0,cbP3]
  have fin:∀ b:Bool,(b=true↔namesOk l)→Value.bool b=Value.bool (decide (namesOk l)):=fun b h=>bl_eq (by rw [h,decide_eq_true_iff])
  refine awp_loop (fun i st=>i≤l.length∧st.fr 7=.i64 i∧st.fr 6=.i64 l.length∧st.fr 0=.st l∧lettersOk (l.take i)) (l.length) ?_ ?_
  · simp -dsimp -implicitDefEqProofs (disch:=first | omega | (simp only [lenr];try omega)) only [↓amPre,amAll,↓reduceIte,reduceCtorEq,Nat.reduceEqDiff,Nat.reduceBEq,Nat.reduceAdd,Nat.reduceLeDiff,Nat.reduceSub,Nat.reduceMul,Int.reduceToNat,List.size_toArray,tyF,MM,bu0,cbP3]
    simp [lettersOk]
  rintro i st _ ⟨hi,f7,f6,f0,ei⟩
  by_cases hlt:i<l.length
  · have hmem:=mem_getD l i 0 hlt
    have hu:=u8lt (l.getD i 0)
    have hts:=take_succ_eq l i 0 hlt
    simp -dsimp -implicitDefEqProofs (disch:=first | omega | (simp only [lenr];try omega)) only [↓amPre,amAll,↓reduceIte,reduceCtorEq,Nat.reduceEqDiff,Nat.reduceBEq,Nat.reduceAdd,Nat.reduceLeDiff,Nat.reduceSub,Nat.reduceMul,Int.reduceToNat,List.size_toArray,tyF,MM,bu0,cbP3,f7,f6,f0]
    refine callP_of (iwithin _ _ _) ?_
    cases w:within ((l.getD i 0).toNat:Int) 65 90 with
    | false =>
      simp -dsimp -implicitDefEqProofs (disch:=first | omega | (simp only [lenr];try omega)) only [↓amPre,amAll,↓reduceIte,reduceCtorEq,Nat.reduceEqDiff,Nat.reduceBEq,Nat.reduceAdd,Nat.reduceLeDiff,Nat.reduceSub,Nat.reduceMul,Int.reduceToNat,List.size_toArray,tyF,MM,bu0,cbP3,w]
      refine fin _ ?_
      rw [within_not] at w
      simp only [reduceCtorEq,false_iff]
      intro q;have:=q.1.1 _ hmem;omega
    | true =>
      rw [within_iff] at w
      simp -dsimp -implicitDefEqProofs (disch:=first | omega | (simp only [lenr];try omega)) only [↓amPre,amAll,↓reduceIte,reduceCtorEq,Nat.reduceEqDiff,Nat.reduceBEq,Nat.reduceAdd,Nat.reduceLeDiff,Nat.reduceSub,Nat.reduceMul,Int.reduceToNat,List.size_toArray,tyF,MM,bu0,cbP3,f7,f6,f0,within_iff.2 w]
      refine awp_loop (fun k st=>k≤i∧st.fr 17=.i64 k∧st.fr 16=.i64 i∧st.fr 3=.i64 i∧st.fr 7=.i64 i∧st.fr 6=.i64 l.length∧st.fr 0=.st l∧∀ y∈l.take k,y≠l.getD i 0) (i) ?_ ?_
      · simp -dsimp -implicitDefEqProofs (disch:=first | omega | (simp only [lenr];try omega)) only [↓amPre,amAll,↓reduceIte,reduceCtorEq,Nat.reduceEqDiff,Nat.reduceBEq,Nat.reduceAdd,Nat.reduceLeDiff,Nat.reduceSub,Nat.reduceMul,Int.reduceToNat,List.size_toArray,tyF,MM,bu0,cbP3,f7,f6,f0]
        simp
      rintro k st _ ⟨hk,f17,f16,f3,f7,f6,f0,ek⟩
      by_cases hk':k<i
      · have hmk:=mem_take_succ (l:=l) (d:=0) (p:=fun y=>y≠l.getD i 0) (show k<l.length by omega)
        cases w2:decide (l.getD k 0=l.getD i 0) with
        | true =>
          simp -dsimp -implicitDefEqProofs (disch:=first | omega | (simp only [lenr];try omega)) only [↓amPre,amAll,↓reduceIte,reduceCtorEq,Nat.reduceEqDiff,Nat.reduceBEq,Nat.reduceAdd,Nat.reduceLeDiff,Nat.reduceSub,Nat.reduceMul,Int.reduceToNat,List.size_toArray,tyF,MM,bu0,cbP3,f17,f16,f3,f7,f6,f0,u8eq,w2]
          refine fin _ ?_
          simp only [reduceCtorEq,false_iff]
          intro q
          simp only [decide_eq_true_eq] at w2
          rw [getD_eq _ _ _ (show k<l.length by omega),getD_eq _ _ _ hlt] at w2
          have:=(List.getElem_inj q.1.2).1 w2
          omega
        | false =>
          simp -dsimp -implicitDefEqProofs (disch:=first | omega | (simp only [lenr];try omega)) only [↓amPre,amAll,↓reduceIte,reduceCtorEq,Nat.reduceEqDiff,Nat.reduceBEq,Nat.reduceAdd,Nat.reduceLeDiff,Nat.reduceSub,Nat.reduceMul,Int.reduceToNat,List.size_toArray,tyF,MM,bu0,cbP3,f17,f16,f3,f7,f6,f0,u8eq,w2]
          simp only [decide_eq_false_iff_not] at w2
          repeat' (first | omega | rfl | exact i64c (by omega) | exact vic (by omega) | exact hmk.2 ⟨ek,w2⟩ | apply And.intro)
      · have hke:k=i:=by omega
        subst hke
        simp -dsimp -implicitDefEqProofs (disch:=first | omega | (simp only [lenr];try omega)) only [↓amPre,amAll,↓reduceIte,reduceCtorEq,Nat.reduceEqDiff,Nat.reduceBEq,Nat.reduceAdd,Nat.reduceLeDiff,Nat.reduceSub,Nat.reduceMul,Int.reduceToNat,List.size_toArray,tyF,MM,bu0,cbP3,f17,f16,f3,f7,f6,f0]
        refine ⟨hlt,hlt,?_,?_⟩
        · rw [hts];intro b hb
          rcases List.mem_append.1 hb with hb | hb
          · exact ei.1 b hb
          · rw [List.mem_singleton.1 hb];omega
        · rw [hts,List.nodup_append]
          refine ⟨ei.2,by simp,?_⟩
          intro a ha b hb e
          simp only [List.mem_singleton] at hb
          exact ek a ha (e.trans hb)
  · have hie:i=l.length:=by omega
    subst hie
    rw [List.take_length] at ei
    simp -dsimp -implicitDefEqProofs (disch:=first | omega | (simp only [lenr];try omega)) only [↓amPre,amAll,↓reduceIte,reduceCtorEq,Nat.reduceEqDiff,Nat.reduceBEq,Nat.reduceAdd,Nat.reduceLeDiff,Nat.reduceSub,Nat.reduceMul,Int.reduceToNat,List.size_toArray,tyF,MM,bu0,cbP3,f7,f6,f0]
    refine callP_of (iwithin _ _ _) ?_
    simp -dsimp -implicitDefEqProofs (disch:=first | omega | (simp only [lenr];try omega)) only [↓amPre,amAll,↓reduceIte,reduceCtorEq,Nat.reduceEqDiff,Nat.reduceBEq,Nat.reduceAdd,Nat.reduceLeDiff,Nat.reduceSub,Nat.reduceMul,Int.reduceToNat,List.size_toArray,tyF,MM,bu0,cbP3]
    refine fin _ ?_
    rw [within_iff]
    exact ⟨fun q=>⟨ei,by omega⟩,fun q=>by have:=q.2;omega⟩
end Go.AM
namespace Go.AM
/-! sizes of moves -/
def sizeLL (l:List (List Twist)):Nat:=match l with | []=>0 | a :: r=>1+sizeL a+sizeLL r
end Go.AM
set_option maxRecDepth 8000
namespace Go.AM
open Go.Proofs
instance:Thing (List Twist):=⟨⟩
abbrev smallTS (l:List (List Twist)):Prop:=l.length≤1099511627776∧∀ s∈l,smallT s
abbrev wfTS (l:List (List Twist)):Prop:=l.length≤9223372036854775807∧∀ s∈l,wfT s
def Model.size (m:Model):Nat:=m.ks.length+m.nm.length+sizeLL m.mv
abbrev wfM (m:Model):Prop:=m.ks.length≤9223372036854775807∧m.nm.length≤9223372036854775807∧wfTS m.mv
abbrev smallM (m:Model):Prop:=m.ks.length≤1099511627776∧m.nm.length≤1099511627776∧smallTS m.mv
end Go.AM
set_option maxRecDepth 8000
namespace Go.AM
open Go.Proofs
def fidxG {α:Type} (pr:α→Bool) (l:List α):Int:=match l.findIdx? pr with | some i=>i | none=>-1
theorem fidxG_nonneg {α:Type} (pr:α→Bool) (l:List α):0≤fidxG pr l↔l.any pr=true:=by
  unfold fidxG
  split
  · rename_i i e
    rw [List.findIdx?_eq_some_iff_getElem] at e
    obtain ⟨hi,h1,_⟩:=e
    simp only [List.any_eq_true]
    exact ⟨fun _=>⟨_,List.getElem_mem hi,h1⟩,fun _=>by omega⟩
  · rename_i e
    rw [List.findIdx?_eq_none_iff] at e
    simp only [List.any_eq_true]
    exact ⟨fun q=>by omega,fun ⟨x,hx,hp⟩=>by rw [e x hx] at hp;cases hp⟩
theorem fidxG_at {α:Type} (pr:α→Bool) (l:List α) (d:α) (k:Nat) (hk:k<l.length) (h1:∀ x∈l.take k,pr x=false) (h2:pr (l.getD k d)=true):fidxG pr l=k:=by
  have:l.findIdx? pr=some k:=by
    rw [List.findIdx?_eq_some_iff_getElem]
    refine ⟨hk,by rw [← getD_eq l k d hk];exact h2,fun j hj=>?_⟩
    have:=h1 (l[j]) (by rw [List.mem_take_iff_getElem];exact ⟨j,by omega,rfl⟩)
    simpa using this
  rw [fidxG,this]
theorem fidxG_none {α:Type} (pr:α→Bool) (l:List α) (h:∀ x∈l,pr x=false):fidxG pr l = -1:=by
  have:l.findIdx? pr=none:=by rw [List.findIdx?_eq_none_iff];exact h
  rw [fidxG,this]
end Go.AM
namespace Go.AM
def St.nilC2 (st:St) (s z w:Nat):St:=(st.nilC s 0 z w [.nilsl,.nilsl]).nilC s 1 z w [.tr w [],.nilsl]
end Go.AM
namespace Go.AM
/-! lists of invariants -/
abbrev vsl (l:List Invar):AV:=.sl 2 (l.map Invar.av)
abbrev vtr (l:List Invar):AV:=.tr 2 (l.map Invar.av)
theorem vset (l:List Invar) (i:Nat) (a b:Int):(l.map Invar.av).set i (.agg [.i64 a,.i64 b])=(l.set i ⟨a,b⟩).map Invar.av:=by rw [List.map_set];rfl
theorem vsnoc (l:List Invar) (a b:Int):l.map Invar.av++[.agg [.i64 a,.i64 b]]=(l++[(⟨a,b⟩:Invar)]).map Invar.av:=by simp [Invar.av]
theorem vpure (l:List Invar):AV.pureL (l.map Invar.av)=true:=pureL_map _ (fun _=>rfl) l
def twL (k:Nat):List Invar:=(List.range k).map fun (i:Nat)=>⟨1,(i:Int)⟩
def paL (k:Nat):List Invar:=(List.range k).map fun (i:Nat)=>⟨2,((i+1:Nat):Int)⟩
theorem cbP6:type_of% (And.intro (And.intro (cbP3) (@vset)) (And.intro (@vsnoc) (@vpure))):=(And.intro (And.intro (cbP3) (@vset)) (And.intro (@vsnoc) (@vpure)))
end Go.AM
namespace Go.AM
/-! puzzles,plainly -/
def sizeI (l:List (List Int)):Nat:=match l with | []=>0 | a :: r=>1+a.length+sizeI r
structure Puzz where
  n:Int
  nm:List UInt8
  mv:List (List Int)
  deriving DecidableEq
def Puzz.sl (p:Puzz):AV:=.agg [.i64 p.n,.st p.nm,ssl p.mv]
def Puzz.tr (p:Puzz):AV:=.agg [.i64 p.n,.st p.nm,sst p.mv]
theorem cbP9:type_of% (And.intro (cbP6) (And.intro (@Puzz.sl.eq_1) (@Puzz.tr.eq_1))):=(And.intro (cbP6) (And.intro (@Puzz.sl.eq_1) (@Puzz.tr.eq_1)))
end Go.AM
set_option maxRecDepth 8000
namespace Go.AM
open Go.Proofs
instance:Thing (List Int):=⟨⟩
abbrev smallSS (l:List (List Int)):Prop:=l.length≤1099511627776∧∀ s∈l,s.length≤1099511627776
abbrev wfSS (l:List (List Int)):Prop:=l.length≤9223372036854775807∧∀ s∈l,s.length≤9223372036854775807
def Puzz.size (p:Puzz):Nat:=p.nm.length+sizeI p.mv
abbrev wfP (p:Puzz):Prop:=intOk p.n∧p.nm.length≤9223372036854775807∧wfSS p.mv
abbrev smallP (p:Puzz):Prop:=intOk p.n∧p.nm.length≤1099511627776∧smallSS p.mv
theorem indexFuncI (l:List (List Int)) (g:FuncId) (caps:List AV) (pr:List Int→Bool) (hM:MM g=[]) (hb:AV.bearsL caps=false) (hv:∀ mem,AV.views mem caps=caps) (h:∀ x∈l,SpecAt Try.prog g ([isl x]++caps) (.bl (pr x))) (hl:l.length≤1099511627776) :
    SpecAt Try.prog 258 [ssl l,.fn g caps] (.i64 (fidxG pr l)):=by
  unfold MM at hM
  refine spec_of_awp (M:=MM) (np:=2) (fz:=true) mixed Try.func258 rfl rfl (by decide) rfl (Nat.le_refl _) (by decide +kernel) (.inr ⟨rfl,rfl⟩) trivial ?_
  simp -dsimp -implicitDefEqProofs (disch:=first | omega | (simp only [lenr];try omega)) only [↓amPre,amAll,↓reduceIte,reduceCtorEq,Nat.reduceEqDiff,Nat.reduceBEq,Nat.reduceAdd,Nat.reduceLeDiff,Nat.reduceSub,Nat.reduceMul,Int.reduceToNat,List.size_toArray,tyF,MM,bu0,cbP9]
  refine awp_loop (fun k st=>k≤l.length∧st.fr 8=.i64 k∧st.fr 7=.i64 l.length∧st.fr 0=ssl l∧st.fr 1=.fn g caps∧∀ x∈l.take k,pr x=false) (l.length) ?_ ?_
  · simp -dsimp -implicitDefEqProofs (disch:=first | omega | (simp only [lenr];try omega)) only [↓amPre,amAll,↓reduceIte,reduceCtorEq,Nat.reduceEqDiff,Nat.reduceBEq,Nat.reduceAdd,Nat.reduceLeDiff,Nat.reduceSub,Nat.reduceMul,Int.reduceToNat,List.size_toArray,tyF,MM,bu0,cbP9]
    simp
  rintro k st _ ⟨hk,f8,f7,f0,f1,ek⟩
  by_cases hlt:k<l.length
  · have hmem:=mem_getD l k default hlt
    simp -dsimp -implicitDefEqProofs (disch:=first | omega | (simp only [lenr];try omega)) only [↓amPre,amAll,↓reduceIte,reduceCtorEq,Nat.reduceEqDiff,Nat.reduceBEq,Nat.reduceAdd,Nat.reduceLeDiff,Nat.reduceSub,Nat.reduceMul,Int.reduceToNat,List.size_toArray,tyF,MM,bu0,cbP9,f8,f7,f0,f1,hM,hb,hv]
    refine callP_of (h _ hmem) ?_
    cases w:pr (l.getD k default) with
    | true =>
      simp -dsimp -implicitDefEqProofs (disch:=first | omega | (simp only [lenr];try omega)) only [↓amPre,amAll,↓reduceIte,reduceCtorEq,Nat.reduceEqDiff,Nat.reduceBEq,Nat.reduceAdd,Nat.reduceLeDiff,Nat.reduceSub,Nat.reduceMul,Int.reduceToNat,List.size_toArray,tyF,MM,bu0,cbP9,f8,f7,f0,f1,w]
      rw [fidxG_at pr l default k hlt ek w]
    | false =>
      simp -dsimp -implicitDefEqProofs (disch:=first | omega | (simp only [lenr];try omega)) only [↓amPre,amAll,↓reduceIte,reduceCtorEq,Nat.reduceEqDiff,Nat.reduceBEq,Nat.reduceAdd,Nat.reduceLeDiff,Nat.reduceSub,Nat.reduceMul,Int.reduceToNat,List.size_toArray,tyF,MM,bu0,cbP9,f8,f7,f0,f1,w]
      repeat' (first | omega | rfl | exact i64c (by omega) | exact vic (by omega) | exact (mem_take_succ (d:=default) hlt).2 ⟨ek,w⟩ | apply And.intro)
  · have hke:k=l.length:=by omega
    subst hke
    rw [List.take_length] at ek
    simp -dsimp -implicitDefEqProofs (disch:=first | omega | (simp only [lenr];try omega)) only [↓amPre,amAll,↓reduceIte,reduceCtorEq,Nat.reduceEqDiff,Nat.reduceBEq,Nat.reduceAdd,Nat.reduceLeDiff,Nat.reduceSub,Nat.reduceMul,Int.reduceToNat,List.size_toArray,tyF,MM,bu0,cbP9,f8,f7,f0,f1]
    rw [fidxG_none pr l ek]
theorem containsFuncI (l:List (List Int)) (g:FuncId) (caps:List AV) (pr:List Int→Bool) (hM:MM g=[]) (hb:AV.bearsL caps=false) (hv:∀ mem,AV.views mem caps=caps) (h:∀ x∈l,SpecAt Try.prog g ([isl x]++caps) (.bl (pr x))) (hl:l.length≤1099511627776) :
    SpecAt Try.prog 236 [ssl l,.fn g caps] (.bl (l.any pr)):=by
  refine spec_of_awp (M:=MM) (np:=2) (fz:=true) mixed Try.func236 rfl rfl (by decide) rfl (Nat.le_refl _) (by decide +kernel) (.inr ⟨rfl,rfl⟩) trivial ?_
  simp -dsimp -implicitDefEqProofs (disch:=first | omega | (simp only [lenr];try omega)) only [↓amPre,amAll,↓reduceIte,reduceCtorEq,Nat.reduceEqDiff,Nat.reduceBEq,Nat.reduceAdd,Nat.reduceLeDiff,Nat.reduceSub,Nat.reduceMul,Int.reduceToNat,List.size_toArray,tyF,MM,bu0,cbP9,hb,hv]
  refine callP_of (indexFuncI l g caps pr hM hb hv h hl) ?_
  simp -dsimp -implicitDefEqProofs (disch:=first | omega | (simp only [lenr];try omega)) only [↓amPre,amAll,↓reduceIte,reduceCtorEq,Nat.reduceEqDiff,Nat.reduceBEq,Nat.reduceAdd,Nat.reduceLeDiff,Nat.reduceSub,Nat.reduceMul,Int.reduceToNat,List.size_toArray,tyF,MM,bu0,cbP9]
  refine bl_eq ?_
  simp only [decide_eq_true_eq,fidxG_nonneg]
end Go.AM
namespace Go.AM
def moveOk (n:Int) (s:List Int):Prop:=(s.length:Int)=n∧isPerm s
instance (n:Int) (s:List Int):Decidable (moveOk n s):=by unfold moveOk;infer_instance
def genOk (n:Int) (mv:List (List Int)):Prop:=(1≤n∧n≤20)∧mv.length≤8∧∀ s∈mv,moveOk n s
instance (n:Int) (mv:List (List Int)):Decidable (genOk n mv):=by unfold genOk;infer_instance
def puzzOk (p:Puzz):Prop:=genOk p.n p.mv∧namesOk p.nm∧p.nm.length=p.mv.length
instance (p:Puzz):Decidable (puzzOk p):=by unfold puzzOk;infer_instance
def letOk (n:Int) (x:Int):Prop:=x≠0∧(-8≤x∧x≤8)∧x≤n∧-x≤n
instance (n x:Int):Decidable (letOk n x):=by unfold letOk;infer_instance
def wordOk (n:Int) (w:List Int):Prop:=w.length≤200∧∀ x∈w,letOk n x
instance (n:Int) (w:List Int):Decidable (wordOk n w):=by unfold wordOk;infer_instance
def nameAt (l:List UInt8) (i:Nat):Prop:=(65≤(l.getD i 0).toNat∧(l.getD i 0).toNat≤90)∧∀ y∈l.take i,y≠l.getD i 0
instance (l:List UInt8) (i:Nat):Decidable (nameAt l i):=by unfold nameAt;infer_instance
theorem letters_take (l:List UInt8) (i:Nat) (h:i<l.length):lettersOk (l.take (i+1))↔lettersOk (l.take i)∧nameAt l i:=by
  rw [take_succ_eq l i 0 h]
  unfold lettersOk nameAt
  rw [List.nodup_append]
  constructor
  · rintro ⟨h1,h2,_,h3⟩
    exact ⟨⟨fun b hb=>h1 b (by simp [hb]),h2⟩,h1 _ (by simp),fun y hy=>h3 y hy _ (by simp)⟩
  · rintro ⟨⟨h1,h2⟩,h3,h4⟩
    refine ⟨fun b hb=>?_,h2,by simp,fun a ha b hb=>?_⟩
    · rcases List.mem_append.1 hb with hb | hb
      · exact h1 b hb
      · rw [List.mem_singleton.1 hb];exact h3
    · rw [List.mem_singleton.1 hb];exact h4 a ha
theorem letters_mono {l:List UInt8} (h:lettersOk l) (i:Nat):lettersOk (l.take i) :=
  ⟨fun b hb=>h.1 b (List.mem_of_mem_take hb),h.2.sublist (List.take_sublist i l)⟩
theorem puzz_nm {p:Puzz} (h:puzzOk p):1≤p.mv.length∧p.mv.length≤8:=by have:=h.2.1.2;have:=h.2.2;omega
theorem letOk_iff {n:Int} (x:Int) (h:0≤n):letOk n x↔x≠0∧-(if (8:Int)<n then 8 else n)≤x∧x≤(if (8:Int)<n then 8 else n):=by
  unfold letOk
  split <;> (constructor <;> intro q <;> omega)
def sameI (a b:Int):Prop:=a=b∨a = -b
instance (a b:Int):Decidable (sameI a b):=by unfold sameI;infer_instance
def genI (x:Int):Int:=if x<0 then -x - 1 else x - 1
theorem genI_iff (a b:Int) (ha:a≠0) (hb:b≠0):genI a=genI b↔sameI a b:=by
  unfold genI sameI
  split <;> split <;> omega
def runsK (w:List Int):Nat→List (List Int)
  | 0=>[]
  | k+1=>if 0<k∧sameI (w.getD (k - 1) 0) (w.getD k 0) then (runsK w k).set ((runsK w k).length - 1) ((runsK w k).getD ((runsK w k).length - 1) default++[w.getD k 0]) else runsK w k++[[w.getD k 0]]
theorem runsK_len (w:List Int):∀ k,(runsK w k).length≤k∧(0<k→1≤(runsK w k).length)∧((runsK w k).length=k↔∀ i,0<i→i<k→¬ sameI (w.getD (i - 1) 0) (w.getD i 0))
  | 0=>by simp [runsK]
  | k+1=>by
    obtain ⟨h1,h2,h3⟩:=runsK_len w k
    rw [runsK]
    split
    · rename_i c
      rw [List.length_set]
      refine ⟨by omega,fun _=>h2 c.1,⟨fun q=>by omega,fun q=>absurd c.2 (q k c.1 (by omega))⟩⟩
    · rename_i c
      rw [List.length_append,List.length_singleton]
      refine ⟨by omega,fun _=>by omega,⟨fun q i hi hk=>?_,fun q=>?_⟩⟩
      · by_cases e:i=k
        · subst e;exact fun s=>c ⟨hi,s⟩
        · exact h3.1 (by omega) i hi (by omega)
      · have:=h3.2 fun i hi hk=>q i hi (by omega);omega
theorem runsK_mem (w:List Int):∀ k,∀ s∈runsK w k,s.length≤k
  | 0=>by simp [runsK]
  | k+1=>by
    have h1:=runsK_mem w k
    rw [runsK]
    split
    · rename_i c
      have h0:=(runsK_len w k).2.1 c.1
      intro s hs
      rcases List.mem_or_eq_of_mem_set hs with hs | hs
      · have:=h1 s hs;omega
      · have:=h1 _ (mem_getD (runsK w k) ((runsK w k).length - 1) default (by omega))
        rw [hs,List.length_append,List.length_singleton];omega
    · intro s hs
      rcases List.mem_append.1 hs with hs | hs
      · have:=h1 s hs;omega
      · rw [List.mem_singleton.1 hs];simp
def scrOk (p:Puzz) (w:List Int):Prop:=puzzOk p∧wordOk p.mv.length w∧(p.mv.length=1∨∀ i,0<i→i<w.length→¬ sameI (w.getD (i - 1) 0) (w.getD i 0))
instance (p:Puzz) (w:List Int):Decidable (scrOk p w):=by
  unfold scrOk
  have:Decidable (∀ i,0<i→i<w.length→¬ sameI (w.getD (i - 1) 0) (w.getD i 0)):=decidable_of_iff (∀ i,i<w.length→0<i→¬ sameI (w.getD (i - 1) 0) (w.getD i 0)) ⟨fun h i a b=>h i b a,fun h i a b=>h i b a⟩
  infer_instance
end Go.AM
set_option maxRecDepth 8000
namespace Go.AM
open Go.Proofs
theorem lenSS (l:List (List Int)):SpecAt Try.prog 202 [ssl l] (.i64 l.length):=by
  refine spec_of_awp (M:=MM) (np:=1) (fz:=true) mixed Try.func202 rfl rfl (by decide) rfl (Nat.le_refl _) (by decide +kernel) (.inr ⟨rfl,rfl⟩) trivial ?_
  simp -dsimp -implicitDefEqProofs (disch:=first | omega | (simp only [lenr];try omega)) only [↓amPre,amAll,↓reduceIte,reduceCtorEq,Nat.reduceEqDiff,Nat.reduceBEq,Nat.reduceAdd,Nat.reduceLeDiff,Nat.reduceSub,Nat.reduceMul,Int.reduceToNat,List.size_toArray,tyF,MM,bu0,cbP9]
theorem sGen (n:Int) (mv:List (List Int)) (hn:intOk n) (h:smallSS mv):SpecAt Try.prog 96 [.i64 n,ssl mv] (.bl (decide (genOk n mv))):=by
  have h1:=h.1
  unfold intOk at hn
  refine spec_of_awp (M:=MM) (np:=2) (fz:=true) mixed Try.func96 rfl rfl (by decide) rfl (Nat.le_refl _) (by decide +kernel) (.inr ⟨rfl,rfl⟩) trivial ?_
  have fin:∀ b:Bool,(b=true↔genOk n mv)→Value.bool b=Value.bool (decide (genOk n mv)):=fun b h=>bl_eq (by rw [h,decide_eq_true_iff])
  simp -dsimp -implicitDefEqProofs (disch:=first | omega | (simp only [lenr];try omega)) only [↓amPre,amAll,↓reduceIte,reduceCtorEq,Nat.reduceEqDiff,Nat.reduceBEq,Nat.reduceAdd,Nat.reduceLeDiff,Nat.reduceSub,Nat.reduceMul,Int.reduceToNat,List.size_toArray,tyF,MM,bu0,cbP9]
  refine callP_of (inRange _ _ _) ?_
  by_cases c1:1≤n∧n≤20
  case neg =>
    simp -dsimp -implicitDefEqProofs (disch:=first | omega | (simp only [lenr];try omega)) only [↓amPre,amAll,↓reduceIte,reduceCtorEq,Nat.reduceEqDiff,Nat.reduceBEq,Nat.reduceAdd,Nat.reduceLeDiff,Nat.reduceSub,Nat.reduceMul,Int.reduceToNat,List.size_toArray,tyF,MM,bu0,cbP9,within_not.2 c1]
    refine fin _ ?_
    simp only [reduceCtorEq,false_iff]
    exact fun q=>c1 q.1
  by_cases c2:(8:Int)<mv.length
  · simp -dsimp -implicitDefEqProofs (disch:=first | omega | (simp only [lenr];try omega)) only [↓amPre,amAll,↓reduceIte,reduceCtorEq,Nat.reduceEqDiff,Nat.reduceBEq,Nat.reduceAdd,Nat.reduceLeDiff,Nat.reduceSub,Nat.reduceMul,Int.reduceToNat,List.size_toArray,tyF,MM,bu0,cbP9,within_iff.2 c1,lt_true c2]
    refine fin _ ?_
    simp only [reduceCtorEq,false_iff]
    intro q;have:=q.2.1;omega
  simp -dsimp -implicitDefEqProofs (disch:=first | omega | (simp only [lenr];try omega)) only [↓amPre,amAll,↓reduceIte,reduceCtorEq,Nat.reduceEqDiff,Nat.reduceBEq,Nat.reduceAdd,Nat.reduceLeDiff,Nat.reduceSub,Nat.reduceMul,Int.reduceToNat,List.size_toArray,tyF,MM,bu0,cbP9,within_iff.2 c1,lt_false (Int.not_lt.1 c2)]
  refine awp_loop (fun k st=>k≤mv.length∧st.fr 5=.i64 k∧st.fr 0=.i64 n∧st.fr 1=ssl mv∧∀ s∈mv.take k,moveOk n s) (mv.length) ?_ ?_
  · simp -dsimp -implicitDefEqProofs (disch:=first | omega | (simp only [lenr];try omega)) only [↓amPre,amAll,↓reduceIte,reduceCtorEq,Nat.reduceEqDiff,Nat.reduceBEq,Nat.reduceAdd,Nat.reduceLeDiff,Nat.reduceSub,Nat.reduceMul,Int.reduceToNat,List.size_toArray,tyF,MM,bu0,cbP9]
    simp
  rintro k st _ ⟨hk,f5,f0,f1,ek⟩
  by_cases hlt:k<mv.length
  · have hmem:=mem_getD mv k default hlt
    have hsm:=h.2 _ hmem
    by_cases w:((mv.getD k default).length:Int)=n
    case neg =>
      simp -dsimp -implicitDefEqProofs (disch:=first | omega | (simp only [lenr];try omega)) only [↓amPre,amAll,↓reduceIte,reduceCtorEq,Nat.reduceEqDiff,Nat.reduceBEq,Nat.reduceAdd,Nat.reduceLeDiff,Nat.reduceSub,Nat.reduceMul,Int.reduceToNat,List.size_toArray,tyF,MM,bu0,cbP9,f5,f0,f1,ne_true w]
      refine fin _ ?_
      simp only [reduceCtorEq,false_iff]
      exact fun q=>w (q.2.2 _ hmem).1
    simp -dsimp -implicitDefEqProofs (disch:=first | omega | (simp only [lenr];try omega)) only [↓amPre,amAll,↓reduceIte,reduceCtorEq,Nat.reduceEqDiff,Nat.reduceBEq,Nat.reduceAdd,Nat.reduceLeDiff,Nat.reduceSub,Nat.reduceMul,Int.reduceToNat,List.size_toArray,tyF,MM,bu0,cbP9,f5,f0,f1,ne_false w]
    refine callP_of (sIsPerm (mv.getD k default) hsm) ?_
    by_cases w2:isPerm (mv.getD k default)
    · simp -dsimp -implicitDefEqProofs (disch:=first | omega | (simp only [lenr];try omega)) only [↓amPre,amAll,↓reduceIte,reduceCtorEq,Nat.reduceEqDiff,Nat.reduceBEq,Nat.reduceAdd,Nat.reduceLeDiff,Nat.reduceSub,Nat.reduceMul,Int.reduceToNat,List.size_toArray,tyF,MM,bu0,cbP9,f5,f0,f1,w2]
      repeat' (first | omega | rfl | exact i64c (by omega) | exact vic (by omega) | exact (mem_take_succ (d:=default) hlt).2 ⟨ek,w,w2⟩ | apply And.intro)
    · simp -dsimp -implicitDefEqProofs (disch:=first | omega | (simp only [lenr];try omega)) only [↓amPre,amAll,↓reduceIte,reduceCtorEq,Nat.reduceEqDiff,Nat.reduceBEq,Nat.reduceAdd,Nat.reduceLeDiff,Nat.reduceSub,Nat.reduceMul,Int.reduceToNat,List.size_toArray,tyF,MM,bu0,cbP9,w2]
      refine fin _ ?_
      simp only [reduceCtorEq,false_iff]
      exact fun q=>w2 (q.2.2 _ hmem).2
  · have hke:k=mv.length:=by omega
    subst hke
    rw [List.take_length] at ek
    simp -dsimp -implicitDefEqProofs (disch:=first | omega | (simp only [lenr];try omega)) only [↓amPre,amAll,↓reduceIte,reduceCtorEq,Nat.reduceEqDiff,Nat.reduceBEq,Nat.reduceAdd,Nat.reduceLeDiff,Nat.reduceSub,Nat.reduceMul,Int.reduceToNat,List.size_toArray,tyF,MM,bu0,cbP9,f5,f0,f1]
    refine fin _ ?_
    simp only [true_iff]
    exact ⟨c1,by omega,ek⟩
theorem iGen1 (n:Int) (s:List Int) (hs:s.length≤1099511627776):SpecAt Try.prog 237 [isl s,.ep [.i64 n]] (.bl (!decide (moveOk n s))):=by
  refine spec_of_awp (M:=MM) (np:=2) (fz:=true) mixed Try.func237 rfl rfl (by decide) rfl (Nat.le_refl _) (by decide +kernel) (.inr ⟨rfl,rfl⟩) trivial ?_
  simp -dsimp -implicitDefEqProofs (disch:=first | omega | (simp only [lenr];try omega)) only [↓amPre,amAll,↓reduceIte,reduceCtorEq,Nat.reduceEqDiff,Nat.reduceBEq,Nat.reduceAdd,Nat.reduceLeDiff,Nat.reduceSub,Nat.reduceMul,Int.reduceToNat,List.size_toArray,tyF,MM,bu0,cbP9]
  refine callP_of (lenI _) ?_
  by_cases w:(s.length:Int)=n
  case neg =>
    simp -dsimp -implicitDefEqProofs (disch:=first | omega | (simp only [lenr];try omega)) only [↓amPre,amAll,↓reduceIte,reduceCtorEq,Nat.reduceEqDiff,Nat.reduceBEq,Nat.reduceAdd,Nat.reduceLeDiff,Nat.reduceSub,Nat.reduceMul,Int.reduceToNat,List.size_toArray,tyF,MM,bu0,cbP9,ne_true w]
    all_goals simp [moveOk,w]
  simp -dsimp -implicitDefEqProofs (disch:=first | omega | (simp only [lenr];try omega)) only [↓amPre,amAll,↓reduceIte,reduceCtorEq,Nat.reduceEqDiff,Nat.reduceBEq,Nat.reduceAdd,Nat.reduceLeDiff,Nat.reduceSub,Nat.reduceMul,Int.reduceToNat,List.size_toArray,tyF,MM,bu0,cbP9,ne_false w]
  refine callP_of (iIsPerm s hs) ?_
  simp -dsimp -implicitDefEqProofs (disch:=first | omega | (simp only [lenr];try omega)) only [↓amPre,amAll,↓reduceIte,reduceCtorEq,Nat.reduceEqDiff,Nat.reduceBEq,Nat.reduceAdd,Nat.reduceLeDiff,Nat.reduceSub,Nat.reduceMul,Int.reduceToNat,List.size_toArray,tyF,MM,bu0,cbP9]
  all_goals simp [moveOk,w]
theorem iGen (n:Int) (mv:List (List Int)) (hn:intOk n) (h:smallSS mv):SpecAt Try.prog 200 [.i64 n,ssl mv] (.bl (decide (genOk n mv))):=by
  have h1:=h.1
  unfold intOk at hn
  refine spec_of_awp (M:=MM) (np:=2) (fz:=true) mixed Try.func200 rfl rfl (by decide) rfl (Nat.le_refl _) (by decide +kernel) (.inr ⟨rfl,rfl⟩) trivial ?_
  have fin:∀ b:Bool,(b=true↔genOk n mv)→Value.bool b=Value.bool (decide (genOk n mv)):=fun b h=>bl_eq (by rw [h,decide_eq_true_iff])
  simp -dsimp -implicitDefEqProofs (disch:=first | omega | (simp only [lenr];try omega)) only [↓amPre,amAll,↓reduceIte,reduceCtorEq,Nat.reduceEqDiff,Nat.reduceBEq,Nat.reduceAdd,Nat.reduceLeDiff,Nat.reduceSub,Nat.reduceMul,Int.reduceToNat,List.size_toArray,tyF,MM,bu0,cbP9]
  refine callP_of (iwithin _ _ _) ?_
  by_cases c1:1≤n∧n≤20
  case neg =>
    simp -dsimp -implicitDefEqProofs (disch:=first | omega | (simp only [lenr];try omega)) only [↓amPre,amAll,↓reduceIte,reduceCtorEq,Nat.reduceEqDiff,Nat.reduceBEq,Nat.reduceAdd,Nat.reduceLeDiff,Nat.reduceSub,Nat.reduceMul,Int.reduceToNat,List.size_toArray,tyF,MM,bu0,cbP9,within_not.2 c1]
    refine fin _ ?_
    simp only [reduceCtorEq,false_iff]
    exact fun q=>c1 q.1
  by_cases c2:(8:Int)<mv.length
  · simp -dsimp -implicitDefEqProofs (disch:=first | omega | (simp only [lenr];try omega)) only [↓amPre,amAll,↓reduceIte,reduceCtorEq,Nat.reduceEqDiff,Nat.reduceBEq,Nat.reduceAdd,Nat.reduceLeDiff,Nat.reduceSub,Nat.reduceMul,Int.reduceToNat,List.size_toArray,tyF,MM,bu0,cbP9,within_iff.2 c1,lt_true c2]
    refine fin _ ?_
    simp only [reduceCtorEq,false_iff]
    intro q;have:=q.2.1;omega
  simp -dsimp -implicitDefEqProofs (disch:=first | omega | (simp only [lenr];try omega)) only [↓amPre,amAll,↓reduceIte,reduceCtorEq,Nat.reduceEqDiff,Nat.reduceBEq,Nat.reduceAdd,Nat.reduceLeDiff,Nat.reduceSub,Nat.reduceMul,Int.reduceToNat,List.size_toArray,tyF,MM,bu0,cbP9,within_iff.2 c1,lt_false (Int.not_lt.1 c2)]
  refine callP_of (containsFuncI mv _ _ (fun s=>!decide (moveOk n s)) rfl rfl (fun _=>rfl) (fun s hs=>iGen1 n s (h.2 s hs)) h1) ?_
  simp -dsimp -implicitDefEqProofs (disch:=first | omega | (simp only [lenr];try omega)) only [↓amPre,amAll,↓reduceIte,reduceCtorEq,Nat.reduceEqDiff,Nat.reduceBEq,Nat.reduceAdd,Nat.reduceLeDiff,Nat.reduceSub,Nat.reduceMul,Int.reduceToNat,List.size_toArray,tyF,MM,bu0,cbP9]
  refine fin _ ?_
  simp only [Bool.not_eq_true',List.any_eq_false,Bool.not_eq_true,Bool.not_eq_false',decide_eq_false_iff_not,Decidable.not_not,genOk,c1,true_and]
  exact ⟨fun q=>⟨by omega,by simpa using q⟩,fun q=>by simpa using q.2⟩
end Go.AM
set_option maxRecDepth 8000
namespace Go.AM
open Go.Proofs
theorem moveName (l:List UInt8) (i:Nat) (hi:i<l.length) (hl:l.length≤1099511627776):SpecAt Try.prog 97 [.st l,.i64 i] (.bl (decide (nameAt l i))):=by
  refine spec_of_awp (M:=MM) (np:=2) (fz:=true) mixed Try.func97 rfl rfl (by decide) rfl (Nat.le_refl _) (by decide +kernel) (.inr ⟨rfl,rfl⟩) trivial ?_
  have fin:∀ b:Bool,(b=true↔nameAt l i)→Value.bool b=Value.bool (decide (nameAt l i)):=fun b h=>bl_eq (by rw [h,decide_eq_true_iff])
  have hu:=u8lt (l.getD i 0)
  by_cases w1:((l.getD i 0).toNat:Int)<65
  · simp -dsimp -implicitDefEqProofs (disch:=first | omega | (simp only [lenr];try omega)) only [↓amPre,amAll,↓reduceIte,reduceCtorEq,Nat.reduceEqDiff,Nat.reduceBEq,Nat.reduceAdd,Nat.reduceLeDiff,Nat.reduceSub,Nat.reduceMul,Int.reduceToNat,List.size_toArray,tyF,MM,bu0,cbP9,lt_true w1]
    refine fin _ ?_
    simp only [reduceCtorEq,false_iff]
    intro q;have:=q.1;omega
  by_cases w2:(90:Int)<((l.getD i 0).toNat:Int)
  · simp -dsimp -implicitDefEqProofs (disch:=first | omega | (simp only [lenr];try omega)) only [↓amPre,amAll,↓reduceIte,reduceCtorEq,Nat.reduceEqDiff,Nat.reduceBEq,Nat.reduceAdd,Nat.reduceLeDiff,Nat.reduceSub,Nat.reduceMul,Int.reduceToNat,List.size_toArray,tyF,MM,bu0,cbP9,lt_false (Int.not_lt.1 w1),lt_true w2]
    refine fin _ ?_
    simp only [reduceCtorEq,false_iff]
    intro q;have:=q.1;omega
  simp -dsimp -implicitDefEqProofs (disch:=first | omega | (simp only [lenr];try omega)) only [↓amPre,amAll,↓reduceIte,reduceCtorEq,Nat.reduceEqDiff,Nat.reduceBEq,Nat.reduceAdd,Nat.reduceLeDiff,Nat.reduceSub,Nat.reduceMul,Int.reduceToNat,List.size_toArray,tyF,MM,bu0,cbP9,lt_false (Int.not_lt.1 w1),lt_false (Int.not_lt.1 w2)]
  refine awp_loop (fun k st=>k≤i∧st.fr 5=.i64 k∧st.fr 1=.i64 i∧st.fr 0=.st l∧∀ y∈l.take k,y≠l.getD i 0) (i) ?_ ?_
  · simp -dsimp -implicitDefEqProofs (disch:=first | omega | (simp only [lenr];try omega)) only [↓amPre,amAll,↓reduceIte,reduceCtorEq,Nat.reduceEqDiff,Nat.reduceBEq,Nat.reduceAdd,Nat.reduceLeDiff,Nat.reduceSub,Nat.reduceMul,Int.reduceToNat,List.size_toArray,tyF,MM,bu0,cbP9]
    simp
  rintro k st _ ⟨hk,f5,f1,f0,ek⟩
  by_cases hk':k<i
  · have hmk:=mem_take_succ (l:=l) (d:=0) (p:=fun y=>y≠l.getD i 0) (show k<l.length by omega)
    cases w2:decide (l.getD k 0=l.getD i 0) with
    | true =>
      simp -dsimp -implicitDefEqProofs (disch:=first | omega | (simp only [lenr];try omega)) only [↓amPre,amAll,↓reduceIte,reduceCtorEq,Nat.reduceEqDiff,Nat.reduceBEq,Nat.reduceAdd,Nat.reduceLeDiff,Nat.reduceSub,Nat.reduceMul,Int.reduceToNat,List.size_toArray,tyF,MM,bu0,cbP9,f5,f1,f0,u8eq,w2]
      refine fin _ ?_
      simp only [reduceCtorEq,false_iff]
      intro q
      simp only [decide_eq_true_eq] at w2
      refine q.2 _ ?_ w2
      rw [List.mem_take_iff_getElem]
      exact ⟨k,by omega,(getD_eq _ _ _ (show k<l.length by omega)).symm⟩
    | false =>
      simp -dsimp -implicitDefEqProofs (disch:=first | omega | (simp only [lenr];try omega)) only [↓amPre,amAll,↓reduceIte,reduceCtorEq,Nat.reduceEqDiff,Nat.reduceBEq,Nat.reduceAdd,Nat.reduceLeDiff,Nat.reduceSub,Nat.reduceMul,Int.reduceToNat,List.size_toArray,tyF,MM,bu0,cbP9,f5,f1,f0,u8eq,w2]
      simp only [decide_eq_false_iff_not] at w2
      repeat' (first | omega | rfl | exact i64c (by omega) | exact vic (by omega) | exact hmk.2 ⟨ek,w2⟩ | apply And.intro)
  · have hke:k=i:=by omega
    subst hke
    simp -dsimp -implicitDefEqProofs (disch:=first | omega | (simp only [lenr];try omega)) only [↓amPre,amAll,↓reduceIte,reduceCtorEq,Nat.reduceEqDiff,Nat.reduceBEq,Nat.reduceAdd,Nat.reduceLeDiff,Nat.reduceSub,Nat.reduceMul,Int.reduceToNat,List.size_toArray,tyF,MM,bu0,cbP9,f5,f1,f0]
    refine fin _ ?_
    simp only [true_iff]
    exact ⟨by omega,ek⟩
theorem sPuzzle (p:Puzz) (h:smallP p):SpecAt Try.prog 27 [p.sl] (.bl (decide (puzzOk p))):=by
  have h2:=h.2.1
  have h3:=h.2.2.1
  refine spec_of_awp (M:=MM) (np:=1) (fz:=true) mixed Try.func27 rfl rfl (by decide) rfl (Nat.le_refl _) (by decide +kernel) (.inr ⟨rfl,rfl⟩) trivial ?_
  have fin:∀ b:Bool,(b=true↔puzzOk p)→Value.bool b=Value.bool (decide (puzzOk p)):=fun b h=>bl_eq (by rw [h,decide_eq_true_iff])
  by_cases c0:(p.mv.length:Int)=0
  · simp -dsimp -implicitDefEqProofs (disch:=first | omega | (simp only [lenr];try omega)) only [↓amPre,amAll,↓reduceIte,reduceCtorEq,Nat.reduceEqDiff,Nat.reduceBEq,Nat.reduceAdd,Nat.reduceLeDiff,Nat.reduceSub,Nat.reduceMul,Int.reduceToNat,List.size_toArray,tyF,MM,bu0,cbP9,eq_true c0]
    refine fin _ ?_
    simp only [reduceCtorEq,false_iff]
    intro q;have:=puzz_nm q;omega
  by_cases c1:(p.nm.length:Int)=p.mv.length
  case neg =>
    simp -dsimp -implicitDefEqProofs (disch:=first | omega | (simp only [lenr];try omega)) only [↓amPre,amAll,↓reduceIte,reduceCtorEq,Nat.reduceEqDiff,Nat.reduceBEq,Nat.reduceAdd,Nat.reduceLeDiff,Nat.reduceSub,Nat.reduceMul,Int.reduceToNat,List.size_toArray,tyF,MM,bu0,cbP9,eq_false c0,ne_true c1]
    refine fin _ ?_
    simp only [reduceCtorEq,false_iff]
    intro q;have:=q.2.2;omega
  simp -dsimp -implicitDefEqProofs (disch:=first | omega | (simp only [lenr];try omega)) only [↓amPre,amAll,↓reduceIte,reduceCtorEq,Nat.reduceEqDiff,Nat.reduceBEq,Nat.reduceAdd,Nat.reduceLeDiff,Nat.reduceSub,Nat.reduceMul,Int.reduceToNat,List.size_toArray,tyF,MM,bu0,cbP9,eq_false c0,ne_false c1]
  refine callP_of (sGen p.n p.mv h.1 h.2.2) ?_
  by_cases c2:genOk p.n p.mv
  case neg =>
    simp -dsimp -implicitDefEqProofs (disch:=first | omega | (simp only [lenr];try omega)) only [↓amPre,amAll,↓reduceIte,reduceCtorEq,Nat.reduceEqDiff,Nat.reduceBEq,Nat.reduceAdd,Nat.reduceLeDiff,Nat.reduceSub,Nat.reduceMul,Int.reduceToNat,List.size_toArray,tyF,MM,bu0,cbP9,c2]
    refine fin _ ?_
    simp only [reduceCtorEq,false_iff]
    exact fun q=>c2 q.1
  simp -dsimp -implicitDefEqProofs (disch:=first | omega | (simp only [lenr];try omega)) only [↓amPre,amAll,↓reduceIte,reduceCtorEq,Nat.reduceEqDiff,Nat.reduceBEq,Nat.reduceAdd,Nat.reduceLeDiff,Nat.reduceSub,Nat.reduceMul,Int.reduceToNat,List.size_toArray,tyF,MM,bu0,cbP9,c2]
  have c2l:=c2.2.1
  refine awp_loop (fun k st=>k≤p.nm.length∧st.fr 3=.i64 k∧st.fr 1=.loc 1 [] 0 0∧st.mem 1=some (.pt 3 (.agg [.i64 p.n,.st p.nm,ssl p.mv]))∧lettersOk (p.nm.take k)) (p.nm.length) ?_ ?_
  · simp -dsimp -implicitDefEqProofs (disch:=first | omega | (simp only [lenr];try omega)) only [↓amPre,amAll,↓reduceIte,reduceCtorEq,Nat.reduceEqDiff,Nat.reduceBEq,Nat.reduceAdd,Nat.reduceLeDiff,Nat.reduceSub,Nat.reduceMul,Int.reduceToNat,List.size_toArray,tyF,MM,bu0,cbP9]
    simp [lettersOk]
  rintro k st _ ⟨hk,f3,f1,m1,ek⟩
  by_cases hlt:k<p.nm.length
  · have hlt2:=letters_take p.nm k hlt
    simp -dsimp -implicitDefEqProofs (disch:=first | omega | (simp only [lenr];try omega)) only [↓amPre,amAll,↓reduceIte,reduceCtorEq,Nat.reduceEqDiff,Nat.reduceBEq,Nat.reduceAdd,Nat.reduceLeDiff,Nat.reduceSub,Nat.reduceMul,Int.reduceToNat,List.size_toArray,tyF,MM,bu0,cbP9,f3,f1,m1]
    refine callP_of (moveName p.nm k hlt h2) ?_
    by_cases w:nameAt p.nm k
    · simp -dsimp -implicitDefEqProofs (disch:=first | omega | (simp only [lenr];try omega)) only [↓amPre,amAll,↓reduceIte,reduceCtorEq,Nat.reduceEqDiff,Nat.reduceBEq,Nat.reduceAdd,Nat.reduceLeDiff,Nat.reduceSub,Nat.reduceMul,Int.reduceToNat,List.size_toArray,tyF,MM,bu0,cbP9,f3,f1,m1,w]
      repeat' (first | omega | rfl | exact i64c (by omega) | exact vic (by omega) | exact hlt2.2 ⟨ek,w⟩ | apply And.intro)
    · simp -dsimp -implicitDefEqProofs (disch:=first | omega | (simp only [lenr];try omega)) only [↓amPre,amAll,↓reduceIte,reduceCtorEq,Nat.reduceEqDiff,Nat.reduceBEq,Nat.reduceAdd,Nat.reduceLeDiff,Nat.reduceSub,Nat.reduceMul,Int.reduceToNat,List.size_toArray,tyF,MM,bu0,cbP9,w]
      refine fin _ ?_
      simp only [reduceCtorEq,false_iff]
      exact fun q=>w (hlt2.1 (letters_mono q.2.1.1 _)).2
  · have hke:k=p.nm.length:=by omega
    subst hke
    rw [List.take_length] at ek
    simp -dsimp -implicitDefEqProofs (disch:=first | omega | (simp only [lenr];try omega)) only [↓amPre,amAll,↓reduceIte,reduceCtorEq,Nat.reduceEqDiff,Nat.reduceBEq,Nat.reduceAdd,Nat.reduceLeDiff,Nat.reduceSub,Nat.reduceMul,Int.reduceToNat,List.size_toArray,tyF,MM,bu0,cbP9,f3,f1,m1]
    refine fin _ ?_
    simp only [true_iff]
    exact ⟨c2,⟨ek,by omega,by omega⟩,by omega⟩
theorem iPuzzle (p:Puzz) (h:smallP p):SpecAt Try.prog 122 [p.sl] (.bl (decide (puzzOk p))):=by
  have h2:=h.2.1
  have h3:=h.2.2.1
  refine spec_of_awp (M:=MM) (np:=1) (fz:=true) mixed Try.func122 rfl rfl (by decide) rfl (Nat.le_refl _) (by decide +kernel) (.inr ⟨rfl,rfl⟩) trivial ?_
  simp -dsimp -implicitDefEqProofs (disch:=first | omega | (simp only [lenr];try omega)) only [↓amPre,amAll,↓reduceIte,reduceCtorEq,Nat.reduceEqDiff,Nat.reduceBEq,Nat.reduceAdd,Nat.reduceLeDiff,Nat.reduceSub,Nat.reduceMul,Int.reduceToNat,List.size_toArray,tyF,MM,bu0,cbP9]
  refine callP_of (iGen p.n p.mv h.1 h.2.2) ?_
  by_cases c2:genOk p.n p.mv
  case neg =>
    simp -dsimp -implicitDefEqProofs (disch:=first | omega | (simp only [lenr];try omega)) only [↓amPre,amAll,↓reduceIte,reduceCtorEq,Nat.reduceEqDiff,Nat.reduceBEq,Nat.reduceAdd,Nat.reduceLeDiff,Nat.reduceSub,Nat.reduceMul,Int.reduceToNat,List.size_toArray,tyF,MM,bu0,cbP9,c2]
    all_goals simp [puzzOk,c2]
  simp -dsimp -implicitDefEqProofs (disch:=first | omega | (simp only [lenr];try omega)) only [↓amPre,amAll,↓reduceIte,reduceCtorEq,Nat.reduceEqDiff,Nat.reduceBEq,Nat.reduceAdd,Nat.reduceLeDiff,Nat.reduceSub,Nat.reduceMul,Int.reduceToNat,List.size_toArray,tyF,MM,bu0,cbP9,c2]
  refine callP_of (iisNames p.nm h2) ?_
  by_cases c3:namesOk p.nm
  case neg =>
    simp -dsimp -implicitDefEqProofs (disch:=first | omega | (simp only [lenr];try omega)) only [↓amPre,amAll,↓reduceIte,reduceCtorEq,Nat.reduceEqDiff,Nat.reduceBEq,Nat.reduceAdd,Nat.reduceLeDiff,Nat.reduceSub,Nat.reduceMul,Int.reduceToNat,List.size_toArray,tyF,MM,bu0,cbP9,c3,c2]
    all_goals simp [puzzOk,c3]
  by_cases c1:(p.nm.length:Int)=p.mv.length
  case neg =>
    simp -dsimp -implicitDefEqProofs (disch:=first | omega | (simp only [lenr];try omega)) only [↓amPre,amAll,↓reduceIte,reduceCtorEq,Nat.reduceEqDiff,Nat.reduceBEq,Nat.reduceAdd,Nat.reduceLeDiff,Nat.reduceSub,Nat.reduceMul,Int.reduceToNat,List.size_toArray,tyF,MM,bu0,cbP9,c3,c2,eq_false c1]
    have:¬ p.nm.length=p.mv.length:=by omega
    all_goals simp [puzzOk,this]
  simp -dsimp -implicitDefEqProofs (disch:=first | omega | (simp only [lenr];try omega)) only [↓amPre,amAll,↓reduceIte,reduceCtorEq,Nat.reduceEqDiff,Nat.reduceBEq,Nat.reduceAdd,Nat.reduceLeDiff,Nat.reduceSub,Nat.reduceMul,Int.reduceToNat,List.size_toArray,tyF,MM,bu0,cbP9,c3,c2,eq_true c1]
  have:p.nm.length=p.mv.length:=by omega
  all_goals simp [puzzOk,this,c2,c3]
theorem sWordOf (n:Int) (w:List Int) (hn:intOk n) (hw:w.length≤1099511627776) (hv:∀ x∈w,intOk x):SpecAt Try.prog 102 [.i64 n,isl w] (.bl (decide (wordOk n w))):=by
  unfold intOk at hn
  refine spec_of_awp (M:=MM) (np:=2) (fz:=true) mixed Try.func102 rfl rfl (by decide) rfl (Nat.le_refl _) (by decide +kernel) (.inr ⟨rfl,rfl⟩) trivial ?_
  have fin:∀ b:Bool,(b=true↔wordOk n w)→Value.bool b=Value.bool (decide (wordOk n w)):=fun b h=>bl_eq (by rw [h,decide_eq_true_iff])
  by_cases c1:(200:Int)<w.length
  · simp -dsimp -implicitDefEqProofs (disch:=first | omega | (simp only [lenr];try omega)) only [↓amPre,amAll,↓reduceIte,reduceCtorEq,Nat.reduceEqDiff,Nat.reduceBEq,Nat.reduceAdd,Nat.reduceLeDiff,Nat.reduceSub,Nat.reduceMul,Int.reduceToNat,List.size_toArray,tyF,MM,bu0,cbP9,lt_true c1]
    refine fin _ ?_
    simp only [reduceCtorEq,false_iff]
    intro q;have:=q.1;omega
  simp -dsimp -implicitDefEqProofs (disch:=first | omega | (simp only [lenr];try omega)) only [↓amPre,amAll,↓reduceIte,reduceCtorEq,Nat.reduceEqDiff,Nat.reduceBEq,Nat.reduceAdd,Nat.reduceLeDiff,Nat.reduceSub,Nat.reduceMul,Int.reduceToNat,List.size_toArray,tyF,MM,bu0,cbP9,lt_false (Int.not_lt.1 c1)]
  refine awp_loop (fun k st=>k≤w.length∧st.fr 5=.i64 k∧st.fr 0=.i64 n∧st.fr 1=isl w∧∀ x∈w.take k,letOk n x) (w.length) ?_ ?_
  · simp -dsimp -implicitDefEqProofs (disch:=first | omega | (simp only [lenr];try omega)) only [↓amPre,amAll,↓reduceIte,reduceCtorEq,Nat.reduceEqDiff,Nat.reduceBEq,Nat.reduceAdd,Nat.reduceLeDiff,Nat.reduceSub,Nat.reduceMul,Int.reduceToNat,List.size_toArray,tyF,MM,bu0,cbP9]
    simp
  rintro k st _ ⟨hk,f5,f0,f1,ek⟩
  by_cases hlt:k<w.length
  · have hmem:=mem_getD w k 0 hlt
    have hx:=hv _ hmem
    unfold intOk at hx
    by_cases d1:w.getD k 0=0
    · simp -dsimp -implicitDefEqProofs (disch:=first | omega | (simp only [lenr];try omega)) only [↓amPre,amAll,↓reduceIte,reduceCtorEq,Nat.reduceEqDiff,Nat.reduceBEq,Nat.reduceAdd,Nat.reduceLeDiff,Nat.reduceSub,Nat.reduceMul,Int.reduceToNat,List.size_toArray,tyF,MM,bu0,cbP9,f5,f0,f1,d1]
      refine fin _ ?_
      simp only [reduceCtorEq,false_iff]
      exact fun q=>(q.2 _ hmem).1 d1
    simp -dsimp -implicitDefEqProofs (disch:=first | omega | (simp only [lenr];try omega)) only [↓amPre,amAll,↓reduceIte,reduceCtorEq,Nat.reduceEqDiff,Nat.reduceBEq,Nat.reduceAdd,Nat.reduceLeDiff,Nat.reduceSub,Nat.reduceMul,Int.reduceToNat,List.size_toArray,tyF,MM,bu0,cbP9,f5,f0,f1,eq_false d1]
    refine callP_of (inRange _ _ _) ?_
    by_cases d2:-8≤w.getD k 0∧w.getD k 0≤8
    case neg =>
      simp -dsimp -implicitDefEqProofs (disch:=first | omega | (simp only [lenr];try omega)) only [↓amPre,amAll,↓reduceIte,reduceCtorEq,Nat.reduceEqDiff,Nat.reduceBEq,Nat.reduceAdd,Nat.reduceLeDiff,Nat.reduceSub,Nat.reduceMul,Int.reduceToNat,List.size_toArray,tyF,MM,bu0,cbP9,f5,f0,f1,within_not.2 d2]
      refine fin _ ?_
      simp only [reduceCtorEq,false_iff]
      exact fun q=>d2 (q.2 _ hmem).2.1
    by_cases d3:n<w.getD k 0
    · simp -dsimp -implicitDefEqProofs (disch:=first | omega | (simp only [lenr];try omega)) only [↓amPre,amAll,↓reduceIte,reduceCtorEq,Nat.reduceEqDiff,Nat.reduceBEq,Nat.reduceAdd,Nat.reduceLeDiff,Nat.reduceSub,Nat.reduceMul,Int.reduceToNat,List.size_toArray,tyF,MM,bu0,cbP9,f5,f0,f1,within_iff.2 d2,lt_true d3]
      refine fin _ ?_
      simp only [reduceCtorEq,false_iff]
      intro q;have:=(q.2 _ hmem).2.2.1;omega
    by_cases d4:n < -w.getD k 0
    · simp -dsimp -implicitDefEqProofs (disch:=first | omega | (simp only [lenr];try omega)) only [↓amPre,amAll,↓reduceIte,reduceCtorEq,Nat.reduceEqDiff,Nat.reduceBEq,Nat.reduceAdd,Nat.reduceLeDiff,Nat.reduceSub,Nat.reduceMul,Int.reduceToNat,List.size_toArray,tyF,MM,bu0,cbP9,f5,f0,f1,within_iff.2 d2,lt_false (Int.not_lt.1 d3),lt_true d4]
      refine fin _ ?_
      simp only [reduceCtorEq,false_iff]
      intro q;have:=(q.2 _ hmem).2.2.2;omega
    simp -dsimp -implicitDefEqProofs (disch:=first | omega | (simp only [lenr];try omega)) only [↓amPre,amAll,↓reduceIte,reduceCtorEq,Nat.reduceEqDiff,Nat.reduceBEq,Nat.reduceAdd,Nat.reduceLeDiff,Nat.reduceSub,Nat.reduceMul,Int.reduceToNat,List.size_toArray,tyF,MM,bu0,cbP9,f5,f0,f1,within_iff.2 d2,lt_false (Int.not_lt.1 d3),lt_false (Int.not_lt.1 d4)]
    repeat' (first | omega | rfl | exact i64c (by omega) | exact vic (by omega) | exact (mem_take_succ (d:=0) hlt).2 ⟨ek,d1,d2,by omega,by omega⟩ | apply And.intro)
  · have hke:k=w.length:=by omega
    subst hke
    rw [List.take_length] at ek
    simp -dsimp -implicitDefEqProofs (disch:=first | omega | (simp only [lenr];try omega)) only [↓amPre,amAll,↓reduceIte,reduceCtorEq,Nat.reduceEqDiff,Nat.reduceBEq,Nat.reduceAdd,Nat.reduceLeDiff,Nat.reduceSub,Nat.reduceMul,Int.reduceToNat,List.size_toArray,tyF,MM,bu0,cbP9,f5,f0,f1]
    refine fin _ ?_
    simp only [true_iff]
    exact ⟨by omega,ek⟩
theorem sWord (n:Int) (w:List Int) (hn:intOk n) (hw:w.length≤1099511627776) (hv:∀ x∈w,intOk x):SpecAt Try.prog 126 [.i64 n,isl w] (.bl (decide (wordOk n w))):=by
  refine spec_of_awp (M:=MM) (np:=2) (fz:=true) mixed Try.func126 rfl rfl (by decide) rfl (Nat.le_refl _) (by decide +kernel) (.inr ⟨rfl,rfl⟩) trivial ?_
  simp -dsimp -implicitDefEqProofs (disch:=first | omega | (simp only [lenr];try omega)) only [↓amPre,amAll,↓reduceIte,reduceCtorEq,Nat.reduceEqDiff,Nat.reduceBEq,Nat.reduceAdd,Nat.reduceLeDiff,Nat.reduceSub,Nat.reduceMul,Int.reduceToNat,List.size_toArray,tyF,MM,bu0,cbP9]
  refine callP_of (sWordOf n w hn hw hv) ?_
  simp -dsimp -implicitDefEqProofs (disch:=first | omega | (simp only [lenr];try omega)) only [↓amPre,amAll,↓reduceIte,reduceCtorEq,Nat.reduceEqDiff,Nat.reduceBEq,Nat.reduceAdd,Nat.reduceLeDiff,Nat.reduceSub,Nat.reduceMul,Int.reduceToNat,List.size_toArray,tyF,MM,bu0,cbP9]
end Go.AM
set_option maxRecDepth 8000
namespace Go.AM
open Go.Proofs
theorem iWord1 (x m:Int) (hm:0≤m) (hm8:m≤8):SpecAt Try.prog 238 [.i64 x,.ep [.i64 m]] (.bl (decide (¬ (x≠0∧-m≤x∧x≤m)))):=by
  refine spec_of_awp (M:=MM) (np:=2) (fz:=true) mixed Try.func238 rfl rfl (by decide) rfl (Nat.le_refl _) (by decide +kernel) (.inr ⟨rfl,rfl⟩) trivial ?_
  have fin:∀ b:Bool,(b=true↔¬ (x≠0∧-m≤x∧x≤m))→Value.bool b=Value.bool (decide (¬ (x≠0∧-m≤x∧x≤m))):=fun b h=>bl_eq (by rw [h,decide_eq_true_iff])
  by_cases d1:x=0
  · subst d1
    simp -dsimp -implicitDefEqProofs (disch:=first | omega | (simp only [lenr];try omega)) only [↓amPre,amAll,↓reduceIte,reduceCtorEq,Nat.reduceEqDiff,Nat.reduceBEq,Nat.reduceAdd,Nat.reduceLeDiff,Nat.reduceSub,Nat.reduceMul,Int.reduceToNat,List.size_toArray,tyF,MM,bu0,cbP9]
    all_goals simp
  simp -dsimp -implicitDefEqProofs (disch:=first | omega | (simp only [lenr];try omega)) only [↓amPre,amAll,↓reduceIte,reduceCtorEq,Nat.reduceEqDiff,Nat.reduceBEq,Nat.reduceAdd,Nat.reduceLeDiff,Nat.reduceSub,Nat.reduceMul,Int.reduceToNat,List.size_toArray,tyF,MM,bu0,cbP9,eq_false d1]
  refine callP_of (iwithin _ _ _) ?_
  by_cases d2:0 - m≤x∧x≤m
  · simp -dsimp -implicitDefEqProofs (disch:=first | omega | (simp only [lenr];try omega)) only [↓amPre,amAll,↓reduceIte,reduceCtorEq,Nat.reduceEqDiff,Nat.reduceBEq,Nat.reduceAdd,Nat.reduceLeDiff,Nat.reduceSub,Nat.reduceMul,Int.reduceToNat,List.size_toArray,tyF,MM,bu0,cbP9,within_iff.2 d2]
    refine fin _ ?_
    simp only [reduceCtorEq,false_iff,Bool.not_true,Decidable.not_not]
    exact ⟨d1,by omega,d2.2⟩
  · simp -dsimp -implicitDefEqProofs (disch:=first | omega | (simp only [lenr];try omega)) only [↓amPre,amAll,↓reduceIte,reduceCtorEq,Nat.reduceEqDiff,Nat.reduceBEq,Nat.reduceAdd,Nat.reduceLeDiff,Nat.reduceSub,Nat.reduceMul,Int.reduceToNat,List.size_toArray,tyF,MM,bu0,cbP9,within_not.2 d2]
    refine fin _ ?_
    simp only [true_iff,Bool.not_false]
    exact fun q=>d2 ⟨by omega,q.2.2⟩
theorem iWord (n:Int) (w:List Int) (hn:intOk n) (hn0:0≤n) (hw:w.length≤1099511627776):SpecAt Try.prog 201 [.i64 n,isl w] (.bl (decide (wordOk n w))):=by
  unfold intOk at hn
  refine spec_of_awp (M:=MM) (np:=2) (fz:=true) mixed Try.func201 rfl rfl (by decide) rfl (Nat.le_refl _) (by decide +kernel) (.inr ⟨rfl,rfl⟩) trivial ?_
  have fin:∀ b:Bool,(b=true↔wordOk n w)→Value.bool b=Value.bool (decide (wordOk n w)):=fun b h=>bl_eq (by rw [h,decide_eq_true_iff])
  by_cases c1:(200:Int)<w.length
  · simp -dsimp -implicitDefEqProofs (disch:=first | omega | (simp only [lenr];try omega)) only [↓amPre,amAll,↓reduceIte,reduceCtorEq,Nat.reduceEqDiff,Nat.reduceBEq,Nat.reduceAdd,Nat.reduceLeDiff,Nat.reduceSub,Nat.reduceMul,Int.reduceToNat,List.size_toArray,tyF,MM,bu0,cbP9,minmaxP_int,lt_true c1]
    refine fin _ ?_
    simp only [reduceCtorEq,false_iff]
    intro q;have:=q.1;omega
  have hm:0≤(if (8:Int)<n then 8 else n)∧(if (8:Int)<n then 8 else n)≤8:=by split <;> omega
  simp -dsimp -implicitDefEqProofs (disch:=first | omega | (simp only [lenr];try omega)) only [↓amPre,amAll,↓reduceIte,reduceCtorEq,Nat.reduceEqDiff,Nat.reduceBEq,Nat.reduceAdd,Nat.reduceLeDiff,Nat.reduceSub,Nat.reduceMul,Int.reduceToNat,List.size_toArray,tyF,MM,bu0,cbP9,minmaxP_int,lt_false (Int.not_lt.1 c1)]
  refine callP_of (containsFunc w _ _ (fun x=>decide (¬ (x≠0∧-(if (8:Int)<n then 8 else n)≤x∧x≤(if (8:Int)<n then 8 else n)))) rfl rfl (fun _=>rfl) (fun x _=>iWord1 x (if (8:Int)<n then 8 else n) hm.1 hm.2) hw) ?_
  simp -dsimp -implicitDefEqProofs (disch:=first | omega | (simp only [lenr];try omega)) only [↓amPre,amAll,↓reduceIte,reduceCtorEq,Nat.reduceEqDiff,Nat.reduceBEq,Nat.reduceAdd,Nat.reduceLeDiff,Nat.reduceSub,Nat.reduceMul,Int.reduceToNat,List.size_toArray,tyF,MM,bu0,cbP9]
  refine fin _ ?_
  simp only [← letOk_iff _ hn0]
  simp only [Bool.not_eq_true',List.any_eq_false,Bool.not_eq_true,Bool.not_eq_false',decide_eq_false_iff_not,Decidable.not_not,wordOk]
  exact ⟨fun q=>⟨by omega,by simpa using q⟩,fun q=>by simpa using q.2⟩
theorem isWordM (p:Puzz) (w:List Int) (h:smallP p) (hw:w.length≤1099511627776):SpecAt Try.prog 123 [p.sl,isl w] (.bl (decide (wordOk p.mv.length w))):=by
  have h3:=h.2.2.1
  refine spec_of_awp (M:=MM) (np:=2) (fz:=true) mixed Try.func123 rfl rfl (by decide) rfl (Nat.le_refl _) (by decide +kernel) (.inr ⟨rfl,rfl⟩) trivial ?_
  simp -dsimp -implicitDefEqProofs (disch:=first | omega | (simp only [lenr];try omega)) only [↓amPre,amAll,↓reduceIte,reduceCtorEq,Nat.reduceEqDiff,Nat.reduceBEq,Nat.reduceAdd,Nat.reduceLeDiff,Nat.reduceSub,Nat.reduceMul,Int.reduceToNat,List.size_toArray,tyF,MM,bu0,cbP9]
  refine callP_of (lenSS p.mv) ?_
  simp -dsimp -implicitDefEqProofs (disch:=first | omega | (simp only [lenr];try omega)) only [↓amPre,amAll,↓reduceIte,reduceCtorEq,Nat.reduceEqDiff,Nat.reduceBEq,Nat.reduceAdd,Nat.reduceLeDiff,Nat.reduceSub,Nat.reduceMul,Int.reduceToNat,List.size_toArray,tyF,MM,bu0,cbP9]
  refine callP_of (iWord p.mv.length w (by unfold intOk;omega) (by omega) hw) ?_
  simp -dsimp -implicitDefEqProofs (disch:=first | omega | (simp only [lenr];try omega)) only [↓amPre,amAll,↓reduceIte,reduceCtorEq,Nat.reduceEqDiff,Nat.reduceBEq,Nat.reduceAdd,Nat.reduceLeDiff,Nat.reduceSub,Nat.reduceMul,Int.reduceToNat,List.size_toArray,tyF,MM,bu0,cbP9]
theorem sameMove (a b:Int) (hb:-9223372036854775807≤b∧b≤9223372036854775807):SpecAt Try.prog 125 [.i64 a,.i64 b] (.bl (decide (sameI a b))):=by
  refine spec_of_awp (M:=MM) (np:=2) (fz:=true) mixed Try.func125 rfl rfl (by decide) rfl (Nat.le_refl _) (by decide +kernel) (.inr ⟨rfl,rfl⟩) trivial ?_
  by_cases d1:a=b
  · subst d1
    simp -dsimp -implicitDefEqProofs (disch:=first | omega | (simp only [lenr];try omega)) only [↓amPre,amAll,↓reduceIte,reduceCtorEq,Nat.reduceEqDiff,Nat.reduceBEq,Nat.reduceAdd,Nat.reduceLeDiff,Nat.reduceSub,Nat.reduceMul,Int.reduceToNat,List.size_toArray,tyF,MM,bu0,cbP9]
    all_goals simp [sameI]
  simp -dsimp -implicitDefEqProofs (disch:=first | omega | (simp only [lenr];try omega)) only [↓amPre,amAll,↓reduceIte,reduceCtorEq,Nat.reduceEqDiff,Nat.reduceBEq,Nat.reduceAdd,Nat.reduceLeDiff,Nat.reduceSub,Nat.reduceMul,Int.reduceToNat,List.size_toArray,tyF,MM,bu0,cbP9,eq_false d1]
  all_goals by_cases d2:a = -b <;> simp [sameI,d1,d2]
theorem l24Gen (x:Int) (hx:-9223372036854775807≤x∧x≤9223372036854775807):SpecAt Try.prog 127 [.i64 x] (.i64 (genI x)):=by
  refine spec_of_awp (M:=MM) (np:=1) (fz:=true) mixed Try.func127 rfl rfl (by decide) rfl (Nat.le_refl _) (by decide +kernel) (.inr ⟨rfl,rfl⟩) trivial ?_
  by_cases d1:x<0
  · simp -dsimp -implicitDefEqProofs (disch:=first | omega | (simp only [lenr];try omega)) only [↓amPre,amAll,↓reduceIte,reduceCtorEq,Nat.reduceEqDiff,Nat.reduceBEq,Nat.reduceAdd,Nat.reduceLeDiff,Nat.reduceSub,Nat.reduceMul,Int.reduceToNat,List.size_toArray,tyF,MM,bu0,cbP9,lt_true d1]
    exact vic (by unfold genI;rw [if_pos d1];omega)
  · simp -dsimp -implicitDefEqProofs (disch:=first | omega | (simp only [lenr];try omega)) only [↓amPre,amAll,↓reduceIte,reduceCtorEq,Nat.reduceEqDiff,Nat.reduceBEq,Nat.reduceAdd,Nat.reduceLeDiff,Nat.reduceSub,Nat.reduceMul,Int.reduceToNat,List.size_toArray,tyF,MM,bu0,cbP9,lt_false (Int.not_lt.1 d1)]
    exact vic (by unfold genI;rw [if_neg d1])
theorem runsC (w:List Int) (hw:w.length≤1099511627776) (hv:∀ x∈w,-9223372036854775807≤x∧x≤9223372036854775807):SpecAt Try.prog 124 [isl w,.fn 125 []] (sst (runsK w w.length)):=by
  refine spec_of_awp (M:=MM) (np:=2) (fz:=false) mixed Try.func124 rfl rfl (by decide) rfl (Nat.le_refl _) (by decide +kernel) (.inl rfl) (by first | trivial | simp only [sigsOk_nil,sigsOk_some,sigsOk_none,sig_tr,sig_pt,sig_mt,sig_agg,List.map_cons,List.map_nil,sig1_tr,sig1_pt,sig1_v,and_self,true_and,List.length_map,List.length_set]) ?_
  simp -dsimp -implicitDefEqProofs (disch:=first | omega | (simp only [lenr];try omega)) only [↓amPre,amAll,↓reduceIte,reduceCtorEq,Nat.reduceEqDiff,Nat.reduceBEq,Nat.reduceAdd,Nat.reduceLeDiff,Nat.reduceSub,Nat.reduceMul,Int.reduceToNat,List.size_toArray,tyF,MM,bu0,cbP9]
  refine awp_loopN 5 45 1 (by simp -dsimp -implicitDefEqProofs (disch:=first | omega | (simp only [lenr];try omega)) only [↓amPre,amAll,↓reduceIte,reduceCtorEq,Nat.reduceEqDiff,Nat.reduceBEq,Nat.reduceAdd,Nat.reduceLeDiff,Nat.reduceSub,Nat.reduceMul,Int.reduceToNat,List.size_toArray,tyF,MM,bu0,cbP9]) (by decide) (fun k st=>k≤w.length∧st.fr 10=.i64 k∧st.fr 9=.i64 w.length∧st.fr 8=isl w∧st.fr 0=isl w∧st.fr 1=.fn 125 []∧st.fr 5=.ref 45 [] 1 0 (runsK w k).length∧st.mem 45=some (sst (runsK w k))) (w.length) ?_ ?_
  · simp -dsimp -implicitDefEqProofs (disch:=first | omega | (simp only [lenr];try omega)) only [↓amPre,amAll,↓reduceIte,reduceCtorEq,Nat.reduceEqDiff,Nat.reduceBEq,Nat.reduceAdd,Nat.reduceLeDiff,Nat.reduceSub,Nat.reduceMul,Int.reduceToNat,List.size_toArray,tyF,MM,bu0,cbP9,nilAs_eq]
    simp [runsK]
  rintro k st _ ⟨hk,f10,f9,f8,f0,f1,f5,m45⟩
  have hlen:=runsK_len w k
  have hs:runsK w (k+1)=_:=rfl
  conv at hs=>rhs;rw [runsK]
  by_cases hlt:k<w.length
  · have hx:=hv _ (mem_getD w k 0 hlt)
    by_cases k0:0<k
    case neg =>
      have hk0:k=0:=by omega
      subst hk0
      rw [if_neg (fun q=>k0 q.1)] at hs
      simp -dsimp -implicitDefEqProofs (disch:=first | omega | (simp only [lenr];try omega)) only [↓amPre,amAll,↓reduceIte,reduceCtorEq,Nat.reduceEqDiff,Nat.reduceBEq,Nat.reduceAdd,Nat.reduceLeDiff,Nat.reduceSub,Nat.reduceMul,Int.reduceToNat,List.size_toArray,tyF,MM,bu0,cbP9,f10,f9,f8,f0,f1,f5,m45,hs]
      repeat' (first | omega | rfl | exact i64c (by omega) | exact vic (by omega) | apply And.intro)
    have hy:=hv _ (mem_getD w (k - 1) 0 (by omega))
    have ik:((k:Int) - 1)=((k - 1:Nat):Int):=by omega
    simp -dsimp -implicitDefEqProofs (disch:=first | omega | (simp only [lenr];try omega)) only [↓amPre,amAll,↓reduceIte,reduceCtorEq,Nat.reduceEqDiff,Nat.reduceBEq,Nat.reduceAdd,Nat.reduceLeDiff,Nat.reduceSub,Nat.reduceMul,Int.reduceToNat,List.size_toArray,tyF,MM,bu0,cbP9,f10,f9,f8,f0,f1,f5,m45,lt_true (show (0:Int)<k by omega),ik]
    refine callP_of (sameMove (w.getD (k - 1) 0) (w.getD k 0) hx) ?_
    by_cases c:sameI (w.getD (k - 1) 0) (w.getD k 0)
    · rw [if_pos ⟨k0,c⟩] at hs
      have il:(((runsK w k).length:Int) - 1)=(((runsK w k).length - 1:Nat):Int):=by have:=hlen.2.1 k0;omega
      have hlt2:(runsK w k).length - 1<(runsK w k).length:=by have:=hlen.2.1 k0;omega
      have hin:=runsK_mem w k _ (mem_getD (runsK w k) ((runsK w k).length - 1) default hlt2)
      have hin:((runsK w k).getD ((runsK w k).length - 1) default).length≤1099511627775:=by omega
      simp -dsimp -implicitDefEqProofs (disch:=first | omega | (simp only [lenr];try omega)) only [↓amPre,amAll,↓reduceIte,reduceCtorEq,Nat.reduceEqDiff,Nat.reduceBEq,Nat.reduceAdd,Nat.reduceLeDiff,Nat.reduceSub,Nat.reduceMul,Int.reduceToNat,List.size_toArray,tyF,MM,bu0,cbP9,f10,f9,f8,f0,f1,f5,m45,hs,c,il,hin]
      repeat' (first | omega | rfl | exact i64c (by omega) | exact vic (by omega) | apply And.intro)
    · rw [if_neg (fun q=>c q.2)] at hs
      have hsn:(runsK w k).map itr++[.tr 1 [.i64 (w.getD k 0)]]=(runsK w k++[[w.getD k 0]]).map itr:=by simp [itr]
      simp -dsimp -implicitDefEqProofs (disch:=first | omega | (simp only [lenr];try omega)) only [↓amPre,amAll,↓reduceIte,reduceCtorEq,Nat.reduceEqDiff,Nat.reduceBEq,Nat.reduceAdd,Nat.reduceLeDiff,Nat.reduceSub,Nat.reduceMul,Int.reduceToNat,List.size_toArray,tyF,MM,bu0,cbP9,f10,f9,f8,f0,f1,f5,m45,hs,c,hsn]
      repeat' (first | omega | rfl | exact i64c (by omega) | exact vic (by omega) | apply And.intro)
  · have hke:k=w.length:=by omega
    subst hke
    simp -dsimp -implicitDefEqProofs (disch:=first | omega | (simp only [lenr];try omega)) only [↓amPre,amAll,↓reduceIte,reduceCtorEq,Nat.reduceEqDiff,Nat.reduceBEq,Nat.reduceAdd,Nat.reduceLeDiff,Nat.reduceSub,Nat.reduceMul,Int.reduceToNat,List.size_toArray,tyF,MM,bu0,cbP9,f10,f9,f8,f0,f1,f5,m45]
end Go.AM
namespace Go.AM
/-! the library's contracts in this machine's words: plain values in,a plain value out -/
theorem Held.same {I:Gh} {w w':World} (hh:Held I w) (h:∀ b o x,I b o=some x→w'.heap[b]? = w.heap[b]?):Held I w' :=
  ⟨fun b o x hx=>by
    have h1:=hh.cell b o x hx
    exact ⟨(World.cell?_of_block (w:=w) (a:=⟨b,o,none⟩) (h b o x hx)).trans h1.1,h1.2⟩,
   fun b cs hc=>by
    obtain ⟨t,f,x,h1,h2⟩:=hh.base b cs hc
    exact ⟨t,f,x,(h b 0 x h2).trans h1,h2⟩⟩
end Go.AM
namespace Go.AM
/-! a sort of the library's,as its own contract tells it,in this machine's words -/
def srt (l:List Int):List Int:=l.mergeSort fun x y=>decide (x≤y)
theorem putRow_block {α:Type} [Inhabited α] (enc:α→Value) (w:World) (blk off n:Nat) (d:Array α) (os:Array Obj) {arr:Array Value} {E:TypeId} {fr:Nat×Nat} (h:w.heap[blk]? = some (.cells arr E fr)) :
    (Sort.grow (Sort.putRow enc (Sort.ahead w n) blk off d) os).heap[blk]? = some (.cells (Sort.putCells enc off d arr) E fr):=by
  have hlt:blk<w.heap.size:=(Array.getElem?_eq_some_iff.1 h).1
  simp only [Sort.grow,Sort.putRow,Sort.mapBlock,Sort.ahead]
  rw [Array.getElem?_append_left (by simpa using hlt),Array.getElem?_modify,if_pos rfl,h]
  rfl
theorem putRow_other {α:Type} [Inhabited α] (enc:α→Value) (w:World) (blk off n:Nat) (d:Array α) (os:Array Obj) {k:Nat} (hk:k<w.heap.size) (hne:k≠blk) :
    (Sort.grow (Sort.putRow enc (Sort.ahead w n) blk off d) os).heap[k]? = w.heap[k]?:=by
  simp only [Sort.grow,Sort.putRow,Sort.mapBlock,Sort.ahead]
  rw [Array.getElem?_append_left (by simpa using hk),Array.getElem?_modify,if_neg (Ne.symm hne)]
theorem putRow_size {α:Type} [Inhabited α] (enc:α→Value) (w:World) (blk off n:Nat) (d:Array α) (os:Array Obj):w.heap.size≤(Sort.grow (Sort.putRow enc (Sort.ahead w n) blk off d) os).heap.size:=by
  simp only [Sort.grow,Sort.putRow,Sort.mapBlock,Sort.ahead,Array.size_append,Array.size_modify];omega
theorem putCells_get {α:Type} [Inhabited α] (enc:α→Value) (off:Nat) (d:Array α) (c:Array Value) (k:Nat) (hk:k<c.size):(Sort.putCells enc off d c).getD k undef=if off≤k∧k<off+d.size then enc d[k - off]! else c.getD k undef:=by
  simp only [Sort.putCells,Array.getD_eq_getD_getElem?,Array.getElem?_mapIdx]
  rw [Array.getElem?_eq_getElem hk]
  simp only [Option.map_some,Option.getD_some]
theorem itr_at (l:List Int):∀ (ij:Nat×Nat) (p:Path),((itr l).at (ij :: p)).isNode=false:=fun ij p=>by
  show (AV.at (((l.map AV.i64).getD ij.1 .any).cells.getD ij.2 .any) p).isNode=false
  by_cases h:ij.1<l.length
  · rw [gi l _ h]
    show (AV.at (([AV.i64 (l.getD ij.1 0)]:List AV).getD ij.2 .any) p).isNode=false
    cases ij.2 with
    | zero =>
      show (AV.at (AV.i64 (l.getD ij.1 0)) p).isNode=false
      cases p with
      | nil=>rfl
      | cons a p =>
        show (AV.at .any p).isNode=false
        rw [any_at];rfl
    | succ j =>
      show (AV.at .any p).isNode=false
      rw [any_at];rfl
  · have e:(l.map AV.i64).getD ij.1 .any=.any:=getD_ge (by simp;omega)
    rw [e]
    have e2:(AV.any).cells.getD ij.2 .any=.any:=by cases ij.2 <;> rfl
    rw [e2,any_at];rfl
theorem node_itr {l:List Int} {p:Path} (h:((itr l).at p).isNode=true):p=[]:=by
  cases p with
  | nil=>rfl
  | cons ij p=>rw [itr_at] at h;cases h
end Go.AM
namespace Go.Proofs
open Go.Shelf
def Try.delL_ren:Go.Shelf.Ren:=⟨fun | 10=>196 | 6=>218 | n=>n,fun | 22=>52 | 23=>2 | 25=>139 | 3=>3 | 4=>4 | 0=>0 | n=>n,fun | n=>n⟩
theorem Try.delL:Go.Proofs.SlLaysH.n10 Try.prog Try.delL_ren:={
  mixed:=by kernel_rfl
  f6:=⟨Try.f218.name,by decide,Try.func218.trans (congrArg some (by kernel_rfl))⟩
  f10:=⟨Try.f196.name,by decide,Try.func196.trans (congrArg some (by kernel_rfl))⟩
  t0:=Try.underlying0
  a0:=Try.isAgg0
  z0:=Try.sizeOf0
  v0:=Try.zeroValue0
  t3:=Try.underlying3
  a3:=Try.isAgg3
  z3:=Try.sizeOf3
  v3:=Try.zeroValue3
  t4:=Try.underlying4
  a4:=Try.isAgg4
  z4:=Try.sizeOf4
  v4:=Try.zeroValue4
  t22:=Try.underlying52
  a22:=Try.isAgg52
  z22:=Try.sizeOf52
  v22:=Try.zeroValue52
  a23:=Try.isAgg2
  z23:=Try.sizeOf2
  t25:=Try.underlying139
  a25:=Try.isAgg139
  z25:=Try.sizeOf139
  v25:=Try.zeroValue139 }
end Go.Proofs
set_option maxRecDepth 8000
namespace Go.Proofs
open Go.Shelf Go.RowKit Go.Lib Go.Sort
theorem Scr.same (a b:Int) (hb:-9223372036854775807≤b∧b≤9223372036854775807) (W:World):Calls Try.prog 125 #[.int .i64 a,.int .i64 b] W fun e w'=>e=.returned (.bool (decide (Go.AM.sameI a b)))∧∃ q,w'=W.drewN q:=by
  have e1:IntKind.i64.wrap (-b) = -b:=IntWalk.i64_in _ (by omega)
  have e2:IntKind.i64.wrap (0 - b) = -b:=by rw [Int.zero_sub];exact e1
  go_enter Try.func125,Try.ntmps125
  go_wp2
  · go_ret
    rename_i h
    exact ⟨by simp [AM.sameI,h],0,rfl⟩
  · go_ret
    have e3:(a == b || a == -b)=decide (AM.sameI a b):=by rw [Bool.eq_iff_iff,decide_eq_true_iff];simp [AM.sameI]
    exact ⟨by rw [← e3];rfl,0,rfl⟩
theorem Scr.gives (i x y:Int) (B o1 B2 o2 b off len cap:Nat) (W:World) (hw:W.cell? ⟨B,o1,none⟩=some (.slice (some ⟨b,off,none⟩) len cap)) (hi:W.cell? ⟨B2,o2,none⟩=some (.int .i64 i)) (h1:1≤i) (h2:i≤len) (h3:len≤1099511627776)
    (hy:W.cell? ⟨b,off+(i.toNat - 1),none⟩=some (.int .i64 y)) (hb:-9223372036854775807≤y∧y≤9223372036854775807) :
    FnGives Try.prog 197 #[.pointer (some ⟨B,o1,none⟩),.pointer (some ⟨B2,o2,none⟩)] #[.int .i64 x] (.bool (decide (AM.sameI x y))) W:=by
  have e1:IntKind.i64.wrap (i - 1)=i - 1:=IntWalk.i64_in _ (by omega)
  show Calls Try.prog 197 #[.int .i64 x,.pointer (some ⟨B,o1,none⟩),.pointer (some ⟨B2,o2,none⟩)] W _
  go_enter Try.func197,Try.ntmps197
  go_wp2_with (go_at_call 125;refine (Scr.same _ _ hb W).mono ?_;rintro e w' ⟨rfl,q,rfl⟩)
  go_ret
  exact ⟨rfl,q,rfl⟩
end Go.Proofs
set_option maxRecDepth 8000
namespace Go.AM
open Go.Proofs
/-! slices.DeleteFunc with the closure of a scramble -/
theorem holds_row {I:Gh} {π:Pl} {w:World} {l:List Int} {k:Plc} {arr:Array Value} {E:TypeId} (hblk:w.heap[k.b]? = some (.cells arr E (0,0))) (harr:k.off+l.length≤arr.size)
    (hvals:∀ i,i<l.length→arr.getD (k.off+i) undef=.int .i64 (l.getD i 0)):Sort.Holds (Value.int .i64) w k.b k.off l.toArray:=fun j hj=>by
  have hj:j<l.length:=by simpa using hj
  have hlt2:k.off+j<arr.size:=by omega
  have hv:=hvals j hj
  constructor
  · show (match w.heap[k.b]? with | some (.cells c _ _)=>if (none:Option _).isSome then none else c[k.off+j]? | _=>none)=_
    rw [hblk]
    simp only [Option.isSome_none,Bool.false_eq_true,if_false]
    rw [Array.getElem?_eq_getElem hlt2]
    rw [Array.getD_eq_getD_getElem?,Array.getElem?_eq_getElem hlt2,Option.getD_some] at hv
    rw [hv,getD_eq _ _ _ hj]
    simp [hj]
  · show (match w.heap[k.b]? with | some (.cells _ _ (lo,hi))=>decide (lo≤k.off+j) && decide (k.off+j<hi) | _=>false)=false
    rw [hblk];simp
theorem put_facts (W:World) (blk off n:Nat) (d:Array Int) {arr:Array Value} {E:TypeId} {fr:Nat×Nat} (h:W.heap[blk]? = some (.cells arr E fr)) (w':World) (hw:w'=Sort.putRow (Value.int .i64) (Sort.ahead W n) blk off d) :
    w'.heap[blk]? = some (.cells (Sort.putCells (Value.int .i64) off d arr) E fr)∧(∀ b,b<W.heap.size→b≠blk→w'.heap[b]? = W.heap[b]?)∧W.heap.size≤w'.heap.size∧(w'.os=W.os∧w'.tape=W.tape∧w'.output=W.output):=by
  subst hw
  refine ⟨?_,fun b h1 h2=>?_,?_,rfl,rfl,rfl⟩
  · have q:=putRow_block (Value.int .i64) W blk off n d #[] h
    rwa [Sort.grow_empty] at q
  · have q:=putRow_other (Value.int .i64) W blk off n d #[] h1 h2
    rwa [Sort.grow_empty] at q
  · have q:=putRow_size (Value.int .i64) W blk off n d #[]
    rwa [Sort.grow_empty] at q
set_option maxHeartbeats 1000000 in
theorem deleteFunc (l w:List Int) (i:Int) (hl:0<l.length) (hl2:l.length≤1099511627776) (h1:1≤i) (h2:i≤w.length) (h3:w.length≤1099511627776) (hv:∀ x∈w,-9223372036854775807≤x∧x≤9223372036854775807) :
    SpecX Try.prog 196 [itr l,.fn 197 [.ep [isl w],.ep [.i64 i]]] [] (itr (l.filter fun x=>!decide (sameI x (w.getD (i.toNat - 1) 0)))):=by
  refine ⟨⟨_,_,Try.func196,rfl,by decide⟩,by simp,fun j T hj=>by simp at hj,fun I π W vals hI hvs hsep htop=>?_⟩
  obtain ⟨v,fv,rfl⟩:∃ v fv,vals = #[v,fv]:=by
    match vals,hvs with
    | ⟨[a,b]⟩,_=>exact ⟨a,b,rfl⟩
  have h0:CellOk I (π 0 []) (itr l) v:=htop 0 (by simp) (by simp)
  have hf:=top_stat (htop 1 (by simp) (by simp)) rfl
  have hf:RepS I (.fn 197 [.ep [isl w],.ep [.i64 i]]) fv:=hf
  have hrow:=hsep.row 0 (itr l) [] rfl
  -- the row
  rcases h0 with ⟨_,hd⟩ | ⟨h,_⟩
  case inr=>cases h
  rcases hd with ⟨k,hk,hkz,hkc,rfl⟩ | ⟨he,a,rfl⟩
  case inr=>have h9:=List.map_eq_nil_iff.1 he;rw [h9] at hl;exact absurd hl (Nat.lt_irrefl 0)
  rcases hrow with ⟨hno,_⟩ | ⟨k',E,arr,hk',hz',hc',hcap,hblk,harr,hcell⟩
  · rw [hk] at hno;cases hno
  rw [hk] at hk';cases hk'
  simp only [List.length_map] at hkc hc' ⊢
  have hlt:k.b<W.heap.size:=(Array.getElem?_eq_some_iff.1 hblk).1
  have harr:k.off+l.length≤arr.size:=by
    have:=Nat.mul_le_mul_right 1 hkc
    simp only [hz',Nat.mul_one] at harr;omega
  have hvals:∀ i,i<l.length→arr.getD (k.off+i) undef=.int .i64 (l.getD i 0):=fun i hi=>by
    have h:=(hcell i (by simpa using hi)).2 0 (by simp [AV.cells])
    have h1:CellOk I (π 0 [(i,0)]) (AV.i64 l[i]) (arr.getD (k.off+i) undef):=by have h3:=h.1;simpa [AV.cells] using h3
    rcases h1 with ⟨h2,_⟩ | ⟨_,h2⟩
    · cases h2
    · rw [getD_eq _ _ _ hi]
      exact rep_v (.stat (ρ:=π) h2)
  have hholds:=holds_row (I:=I) (π:=π) hblk harr hvals
  have hfree:=hsep.free 0 (itr l) [] k rfl rfl hk
  -- the closure's variables
  obtain ⟨x0,x1,rfl,hr0,hr1⟩:∃ x0 x1:Value,fv=.func (.func 197) #[] #[x0,x1]∧RepS I (.ep [isl w]) x0∧RepS I (.ep [.i64 i]) x1:=by
    cases hf with
    | fn _ _ arr2 hn hr =>
      have hn2:arr2.size=2:=by simpa using hn
      have e:arr2 = #[arr2[0],arr2[1]]:=by
        apply Array.ext
        · simp [hn2]
        · intro j hj1 hj2
          have hj:j=0∨j=1:=by omega
          rcases hj with rfl | rfl <;> simp
      exact ⟨arr2[0],arr2[1],by rw [← e],hr 0 (by simp) (by omega),hr 1 (by simp) (by omega)⟩
  obtain ⟨B,o1,rfl,hd1,c1,r1⟩:∃ B o1,x0=.pointer (some ⟨B,o1,none⟩)∧∃ hd,I B o1=some hd∧RepS I (isl w) hd:=by
    cases hr0 with
    | ep _ b off vals hI' hr'=>exact ⟨b,off,rfl,vals 0,hI' 0 (by simp),hr' 0 (by simp)⟩
  obtain ⟨B2,o2,rfl,c2⟩:∃ B o1,x1=.pointer (some ⟨B,o1,none⟩)∧I B o1=some (.int .i64 i):=by
    cases hr1 with
    | ep _ b off vals hI' hr' =>
      have q:RepS I (.i64 i) (vals 0):=hr' 0 (by simp)
      have q2:=rep_v (.stat (ρ:=π) q)
      have q3:=hI' 0 (by simp)
      rw [q2] at q3
      exact ⟨b,off,rfl,q3⟩
  have hwn:0<w.length:=by omega
  obtain ⟨b,off,cap,rfl,c3⟩:∃ b off cap,hd1=.slice (some ⟨b,off,none⟩) w.length cap∧∀ j,j<w.length→I b (off+j)=some (.int .i64 (w.getD j 0)):=by
    have r1:RepS I (.sl 1 (w.map AV.i64)) hd1:=r1
    generalize hes:w.map AV.i64=es at r1
    have hel:es.length=w.length:=by rw [← hes];simp
    cases r1 with
    | nil=>simp at hel;omega
    | nila=>simp at hel;omega
    | sl _ _ b off cap vs hsz hc hI' hr' =>
      refine ⟨b,off,cap,by rw [hel],fun j hj=>?_⟩
      have hj':j<es.length:=by omega
      have e:es[j]=AV.i64 (w.getD j 0):=by subst hes;simp [List.getD,hj]
      have hlen:0<(es[j]).cells.length:=by rw [e];simp [AV.cells]
      have q:=hr' j hj' 0 hlen
      have e2:(es[j]).cells[0]=AV.i64 (w.getD j 0):=by
        have:(es[j]).cells=[AV.i64 (w.getD j 0)]:=by rw [e];rfl
        simp [this]
      rw [e2] at q
      have q2:=rep_v (.stat (ρ:=π) q)
      have q3:=hI' j hj' 0 (by omega)
      rw [q2] at q3
      simpa using q3
  have hy:=c3 (i.toNat - 1) (by omega)
  have hb:-9223372036854775807≤w.getD (i.toNat - 1) 0∧w.getD (i.toNat - 1) 0≤9223372036854775807:=by
    rw [getD_eq _ _ _ (by omega)];exact hv _ (List.getElem_mem (by omega))
  generalize hyv:w.getD (i.toNat - 1) 0=y at hy hb ⊢
  have ne:∀ {B o x},I B o=some x→B≠k.b:=fun h e=>by rw [e,hfree] at h;cases h
  have gives:∀ (W':World) (x:Int),(∀ B o z,I B o=some z→W'.cell? ⟨B,o,none⟩=some z)→FnGives Try.prog 197 #[.pointer (some ⟨B,o1,none⟩),.pointer (some ⟨B2,o2,none⟩)] #[.int .i64 x] (.bool (decide (sameI x y))) W':=fun W' x h =>
    Scr.gives i x y B o1 B2 o2 b off w.length cap W' (h _ _ _ c1) (h _ _ _ c2) h1 h2 h3 (h _ _ _ hy) hb
  have eg:∀ args w,(callFunc 197 args).run Try.prog w=.ok (.enter 197 args) w:=enters_of Try.func197 (by kernel_rfl) rfl
  have key:=AnyE.slices_DeleteFunc Try.delL (Value.int .i64) (fun _=>rfl) (fun x=>decide (sameI x y)) 197 #[.pointer (some ⟨B,o1,none⟩),.pointer (some ⟨B2,o2,none⟩)] eg 0 Try.zeroValue2 k.b k.off k.cap l.toArray W
    (fun W' x hb'=>gives W' x fun B o z hz=>(hb'.cell (p:=⟨B,o,none⟩) (hI.lt hz)).trans (hI.cell _ _ _ hz).1)
    (fun n os dk x _=>gives _ x fun B o z hz=>by
      unfold sortWorld
      rw [Sort.cell?_grow _ _ _ (by show B<(Sort.putRow _ _ _ _ _).heap.size;rw [Sort.size_putRow];exact hI.lt hz),Sort.cell?_putRow_other _ _ k.b k.off _ _ (Or.inl (ne hz))]
      exact (hI.cell _ _ _ hz).1)
    hholds (by simp;omega) (by simpa using hkc)
  have key:Calls Try.prog 196 #[.slice (some ⟨k.b,k.off,none⟩) l.length k.cap,.func (.func 197) #[] #[.pointer (some ⟨B,o1,none⟩),.pointer (some ⟨B2,o2,none⟩)]] W fun e w' =>
      e=.returned (.slice (some ⟨k.b,k.off,none⟩) (l.filter fun x=>!decide (sameI x y)).length k.cap)∧∃ q,w'=Sort.putRow (Value.int .i64) (Sort.ahead W q) k.b k.off ((l.filter fun x=>!decide (sameI x y))++List.replicate (l.length - (l.filter fun x=>!decide (sameI x y)).length) 0).toArray:=by
    have e1:l.toArray.toList=l:=rfl
    have e2:l.toArray.size=l.length:=rfl
    rw [e1,e2] at key
    exact key
  have hfl:(l.filter fun x=>!decide (sameI x y)).length≤l.length:=List.length_filter_le _ _
  generalize (l.filter fun x=>!decide (sameI x y))=r at key hfl ⊢
  refine key.mono ?_
  rintro e w' ⟨rfl,n,hw⟩
  obtain ⟨hb',ho',hsz,hos⟩:=put_facts W k.b k.off n _ hblk w' hw
  clear hw key
  have hmem:∀ {i T p},outMem 2 [] (itr r) i=some T→(T.at p).isNode=true→i=2∧T=itr r∧p=[]:=fun {i T p} h1 h2=>by
    unfold outMem at h1
    split at h1
    · rename_i e;cases h1;exact ⟨e,rfl,node_itr h2⟩
    · simp at h1
  have hown:Owns π (fun j=>([itr l,.fn 197 [.ep [isl w],.ep [.i64 i]]]:List AV)[j]?) k.b:=⟨0,itr l,[],k,rfl,rfl,hk,rfl⟩
  have hlen2:([itr l,.fn 197 [.ep [isl w],.ep [.i64 i]]]:List AV).length=2:=rfl
  rw [hlen2]
  refine ⟨I,fun _=>π 0,_,rfl,hI.same fun b o x hx=>ho' b (hI.lt hx) (ne hx),⟨fun i T p h1=>?_,fun i T p k2 h1 h2 h3=>?_,fun i T p k2 i' T' p' k2' h1 h2 h3 h1' h2' h3' he=>?_⟩,.inl ⟨rfl,.inl ⟨k,hk,hkz,by simp;omega,by simp⟩⟩,fun j T hT=>by simp at hT,⟨hos.1,hos.2.1,hos.2.2,hsz,fun b h1 h2=>?_⟩,fun _ _ _=>rfl,fun b hb2=>?_⟩
  · cases hnn:(T.at p).isNode with
    | false=>exact node_false hnn
    | true =>
      obtain ⟨rfl,rfl,rfl⟩:=hmem h1 hnn
      refine .inr ⟨k,E,_,hk,hkz,by simp;omega,hcap,hb',by simpa [Sort.putCells] using (by assumption:k.off+k.cap*1≤arr.size),fun i hi=>?_⟩
      have hi:i<r.length:=by simpa using hi
      have hia:k.off+i<arr.size:=by omega
      refine ⟨by simp [AV.cells],fun j hj=>?_⟩
      have hj:j=0:=by simp [AV.cells] at hj;exact hj
      subst hj
      simp only [List.getElem_map,Nat.mul_one,Nat.add_zero]
      rw [putCells_get _ _ _ _ _ hia,if_pos ⟨by omega,by simp;omega⟩]
      have e:(r++List.replicate (l.length - r.length) 0).toArray[k.off+i - k.off]! = r[i]:=by
        rw [show k.off+i - k.off=i by omega]
        have h8:i<(r++List.replicate (l.length - r.length) (0:Int)).toArray.size:=by simp;omega
        rw [getElem!_pos (r++List.replicate (l.length - r.length) (0:Int)).toArray i h8]
        simp [List.getElem_append_left hi]
      rw [e]
      exact ⟨.inr ⟨rfl,.v _⟩,rfl⟩
  · obtain ⟨rfl,rfl,rfl⟩:=hmem h1 h2
    exact hsep.free 0 (itr l) [] k2 rfl rfl h3
  · obtain ⟨rfl,rfl,rfl⟩:=hmem h1 h2
    obtain ⟨rfl,rfl,rfl⟩:=hmem h1' h2'
    exact ⟨rfl,rfl⟩
  · exact ho' b h1 fun e=>by subst e;exact h2 hown
  · obtain ⟨i,T,p,k2,h1,h2,h3,rfl⟩:=hb2
    obtain ⟨rfl,rfl,rfl⟩:=hmem h1 h2
    exact .inl ⟨0,itr l,[],k2,rfl,rfl,h3,rfl⟩
end Go.AM
namespace Go.AM
/-! words of scrambles,plainly -/
def nextR (x:Int):Int:=(48271*(if x.tmod 2147483647<0 then x.tmod 2147483647+2147483647 else x.tmod 2147483647)+11).tmod 2147483647
theorem nextR_bd {x:Int} (h0:0≤x):0≤nextR x∧nextR x<2147483647:=by
  have h1:0≤x.tmod 2147483647:=Int.tmod_nonneg _ h0
  unfold nextR
  rw [if_neg (by omega)]
  have h2:0≤48271*x.tmod 2147483647+11:=by omega
  exact ⟨Int.tmod_nonneg _ h2,Int.tmod_lt_of_pos _ (by omega)⟩
def rndK (x:Int):Nat→Int
  | 0=>x
  | k+1=>nextR (rndK x k)
theorem rndK_bd {x:Int} (h0:0≤x) (h1:x<2147483647):∀ k,0≤rndK x k∧rndK x k<2147483647
  | 0=>⟨h0,h1⟩
  | k+1=>nextR_bd (rndK_bd h0 h1 k).1
def letL:Nat→List Int
  | 0=>[]
  | k+1=>letL k++[(k:Int)+1,-((k:Int)+1)]
theorem letL_len:∀ n,(letL n).length=2*n
  | 0=>rfl
  | n+1=>by rw [letL,List.length_append,letL_len n];simp;omega
theorem letL_mem:∀ {n:Nat} {x:Int},x∈letL n↔x≠0∧-(n:Int)≤x∧x≤n
  | 0,x=>by simp [letL];omega
  | n+1,x=>by
    rw [letL,List.mem_append,letL_mem]
    simp only [List.mem_cons,List.not_mem_nil,or_false]
    omega
def lastW (w:List Int):Int:=w.getD (w.length - 1) 0
def cndL (n:Nat) (w:List Int):List Int:=if w≠[]∧1<n then (letL n).filter (fun x=>!decide (sameI x (lastW w))) else letL n
def cndB (n:Nat) (w:List Int) (k:Nat):Prop:=n=1∨w=[]∨genI (lastW w)≠k
instance (n:Nat) (w:List Int) (k:Nat):Decidable (cndB n w k):=by unfold cndB;infer_instance
def cndS (n:Nat) (w:List Int):Nat→List Int
  | 0=>[]
  | k+1=>if cndB n w k then cndS n w k++[(k:Int)+1,-(k:Int) - 1] else cndS n w k
theorem cndL_mem {n:Nat} {w:List Int} {x:Int} (h:x∈cndL n w):x∈letL n:=by
  unfold cndL at h
  split at h
  · exact (List.mem_filter.1 h).1
  · exact h
theorem cndL_len {n:Nat} {w:List Int} (hn:1≤n):0<(cndL n w).length∧(cndL n w).length≤2*n:=by
  unfold cndL
  split
  · rename_i c
    refine ⟨?_,by have:=List.length_filter_le (fun x=>!decide (sameI x (lastW w))) (letL n);rw [letL_len] at this;exact this⟩
    by_cases h:sameI 1 (lastW w)
    · refine List.length_pos_of_mem (a:=2) (List.mem_filter.2 ⟨letL_mem.2 ⟨by omega,by omega,by omega⟩,?_⟩)
      have:¬ sameI 2 (lastW w):=by unfold sameI at h ⊢;omega
      simp [this]
    · exact List.length_pos_of_mem (a:=1) (List.mem_filter.2 ⟨letL_mem.2 ⟨by omega,by omega,by omega⟩,by simp [h]⟩)
  · rw [letL_len];omega
def scrW (n:Nat) (x:Int):Nat→List Int
  | 0=>[]
  | k+1=>scrW n x k++[(cndL n (scrW n x k)).getD ((rndK x (k+1)).tmod (cndL n (scrW n x k)).length).toNat 0]
theorem scrW_len (n:Nat) (x:Int):∀ k,(scrW n x k).length=k
  | 0=>rfl
  | k+1=>by rw [scrW,List.length_append,scrW_len n x k];rfl
theorem scr_ix {n:Nat} {x:Int} (hn:1≤n) (h0:0≤x) (h1:x<2147483647) (k:Nat) (w:List Int):0≤(rndK x (k+1)).tmod (cndL n w).length∧(rndK x (k+1)).tmod (cndL n w).length<(cndL n w).length:=by
  have hl:=cndL_len (n:=n) (w:=w) hn
  exact ⟨Int.tmod_nonneg _ (rndK_bd h0 h1 (k+1)).1,Int.tmod_lt_of_pos _ (by omega)⟩
theorem scrW_mem {n:Nat} {x:Int} (hn:1≤n) (h0:0≤x) (h1:x<2147483647):∀ k,∀ y∈scrW n x k,y∈letL n
  | 0,y,h=>by cases h
  | k+1,y,h=>by
    rw [scrW,List.mem_append] at h
    rcases h with h | h
    · exact scrW_mem hn h0 h1 k y h
    · have hi:=scr_ix hn h0 h1 k (scrW n x k)
      rw [List.mem_singleton] at h
      subst h
      have hlt:((rndK x (k+1)).tmod (cndL n (scrW n x k)).length).toNat<(cndL n (scrW n x k)).length:=by omega
      rw [getD_eq _ _ _ hlt]
      exact cndL_mem (List.getElem_mem hlt)
end Go.AM
set_option maxRecDepth 8000
namespace Go.AM
open Go.Proofs
theorem iNext (x:Int) (hx:intOk x):SpecAt Try.prog 198 [.i64 x] (.i64 (nextR x)):=by
  have hb:-2147483647<x.tmod 2147483647∧x.tmod 2147483647<2147483647:=by
    have h1:=Int.tmod_lt_of_pos x (b:=2147483647) (by omega)
    have h2:=Int.lt_tmod_of_pos x (b:=2147483647) (by omega)
    exact ⟨h2,h1⟩
  refine spec_of_awp (M:=MM) (np:=1) (fz:=true) mixed Try.func198 rfl rfl (by decide) rfl (Nat.le_refl _) (by decide +kernel) (.inr ⟨rfl,rfl⟩) trivial ?_
  unfold nextR
  generalize hyd:x.tmod 2147483647=y at hb ⊢
  by_cases c:y<0
  · rw [if_pos c]
    simp -dsimp -implicitDefEqProofs (disch:=first | omega | (simp only [lenr];try omega)) only [↓amPre,amAll,↓reduceIte,reduceCtorEq,Nat.reduceEqDiff,Nat.reduceBEq,Nat.reduceAdd,Nat.reduceLeDiff,Nat.reduceSub,Nat.reduceMul,Int.reduceToNat,List.size_toArray,tyF,MM,bu0,cbP9,hyd,lt_true c]
  · rw [if_neg c]
    simp -dsimp -implicitDefEqProofs (disch:=first | omega | (simp only [lenr];try omega)) only [↓amPre,amAll,↓reduceIte,reduceCtorEq,Nat.reduceEqDiff,Nat.reduceBEq,Nat.reduceAdd,Nat.reduceLeDiff,Nat.reduceSub,Nat.reduceMul,Int.reduceToNat,List.size_toArray,tyF,MM,bu0,cbP9,hyd,lt_false (Int.not_lt.1 c)]

theorem lettersI (n:Nat) (hn:n≤8):SpecAt Try.prog 195 [.i64 n] (itr (letL n)):=by
  refine spec_of_awp (M:=MM) (np:=1) (fz:=false) mixed Try.func195 rfl rfl (by decide) rfl (Nat.le_refl _) (by decide +kernel) (.inl rfl) (by first | trivial | simp only [sigsOk_nil,sigsOk_some,sigsOk_none,sig_tr,sig_pt,sig_mt,sig_agg,List.map_cons,List.map_nil,sig1_tr,sig1_pt,sig1_v,and_self,true_and,List.length_map,List.length_set]) ?_
  simp -dsimp -implicitDefEqProofs (disch:=first | omega | (simp only [lenr];try omega)) only [↓amPre,amAll,↓reduceIte,reduceCtorEq,Nat.reduceEqDiff,Nat.reduceBEq,Nat.reduceAdd,Nat.reduceLeDiff,Nat.reduceSub,Nat.reduceMul,Int.reduceToNat,List.size_toArray,tyF,MM,bu0,cbP9]
  refine awp_loopN 3 16 1 (by simp -dsimp -implicitDefEqProofs (disch:=first | omega | (simp only [lenr];try omega)) only [↓amPre,amAll,↓reduceIte,reduceCtorEq,Nat.reduceEqDiff,Nat.reduceBEq,Nat.reduceAdd,Nat.reduceLeDiff,Nat.reduceSub,Nat.reduceMul,Int.reduceToNat,List.size_toArray,tyF,MM,bu0,cbP9]) (by decide) (fun k st=>k≤n∧st.fr 6=.i64 k∧st.fr 5=.i64 n∧st.fr 3=.ref 16 [] 1 0 (2*k)∧st.mem 16=some (itr (letL k))) (n) ?_ ?_
  · simp -dsimp -implicitDefEqProofs (disch:=first | omega | (simp only [lenr];try omega)) only [↓amPre,amAll,↓reduceIte,reduceCtorEq,Nat.reduceEqDiff,Nat.reduceBEq,Nat.reduceAdd,Nat.reduceLeDiff,Nat.reduceSub,Nat.reduceMul,Int.reduceToNat,List.size_toArray,tyF,MM,bu0,cbP9,nilAs_eq]
    simp [letL]
  rintro k st _ ⟨hk,f6,f5,f3,m16⟩
  have hl:=letL_len k
  by_cases hlt:k<n
  · simp -dsimp -implicitDefEqProofs (disch:=first | omega | (simp only [lenr];try omega)) only [↓amPre,amAll,↓reduceIte,reduceCtorEq,Nat.reduceEqDiff,Nat.reduceBEq,Nat.reduceAdd,Nat.reduceLeDiff,Nat.reduceSub,Nat.reduceMul,Int.reduceToNat,List.size_toArray,tyF,MM,bu0,cbP9,f6,f5,f3,m16,hl]
    refine ⟨hlt,by omega,by rw [show 2*k+2=2*(k+1) by omega],?_⟩
    simp [letL]
  · have hk:k=n:=by omega
    subst hk
    simp -dsimp -implicitDefEqProofs (disch:=first | omega | (simp only [lenr];try omega)) only [↓amPre,amAll,↓reduceIte,reduceCtorEq,Nat.reduceEqDiff,Nat.reduceBEq,Nat.reduceAdd,Nat.reduceLeDiff,Nat.reduceSub,Nat.reduceMul,Int.reduceToNat,List.size_toArray,tyF,MM,bu0,cbP9,f6,f5,f3,m16,hl]
end Go.AM
set_option maxRecDepth 8000
namespace Go.AM
open Go.Proofs
theorem fzL_ints:∀ l:List Int,AV.fzL (l.map AV.i64)=l.map AV.i64
  | []=>by simp [AV.fzL]
  | a :: r=>by simp [AV.fzL,AV.fz,fzL_ints r]
theorem scr_bd {n:Nat} {x:Int} (hn:1≤n) (hn8:n≤8) (h0:0≤x) (h1:x<2147483647) (k:Nat):∀ y∈scrW n x k,-9223372036854775807≤y∧y≤9223372036854775807:=fun y hy=>by
  have:=letL_mem.1 (scrW_mem hn h0 h1 k y hy);omega
theorem scramble (p:Puzz) (x:Int) (c:Nat) (hn:1≤p.mv.length∧p.mv.length≤8) (h0:0≤x) (h1:x<2147483647) (hc:c≤200):SpecAt Try.prog 120 [p.sl,.i64 x,.i64 c] (itr (scrW p.mv.length x c)):=by
  refine spec_of_awp_any (M:=MM) (np:=3) (X:=[9]) (fz:=false) mixed Try.func120 rfl rfl (by decide) rfl (Nat.le_refl _) (by decide +kernel) (.inl rfl) (by first | trivial | simp only [sigsOk_nil,sigsOk_some,sigsOk_none,sig_tr,sig_pt,sig_mt,sig_agg,List.map_cons,List.map_nil,sig1_tr,sig1_pt,sig1_v,and_self,true_and,List.length_map,List.length_set]) ?_
  simp -dsimp -implicitDefEqProofs (disch:=first | omega | (simp only [lenr];try omega)) only [↓amPre,amAll,↓reduceIte,reduceCtorEq,Nat.reduceEqDiff,Nat.reduceBEq,Nat.reduceAdd,Nat.reduceLeDiff,Nat.reduceSub,Nat.reduceMul,Int.reduceToNat,List.size_toArray,tyF,MM,bu0,cbP9]
  refine awp_loop (fun k st=>k≤c∧st.fr 11=.i64 k∧st.fr 10=.i64 c∧st.fr 1=.i64 (rndK x k)∧st.fr 7=.loc 7 [] 0 0∧st.fr 3=.loc 3 [] 0 0∧st.mem 3=some (.pt 3 p.sl)∧((k=0∧st.mem 7=some (.pt 1 .nilsl))∨(0<k∧st.mem 7=some (.pt 1 (itr (scrW p.mv.length x k)))))) (c) ?_ ?_
  · simp -dsimp -implicitDefEqProofs (disch:=first | omega | (simp only [lenr];try omega)) only [↓amPre,amAll,↓reduceIte,reduceCtorEq,Nat.reduceEqDiff,Nat.reduceBEq,Nat.reduceAdd,Nat.reduceLeDiff,Nat.reduceSub,Nat.reduceMul,Int.reduceToNat,List.size_toArray,tyF,MM,bu0,cbP9]
    exact ⟨by omega,rfl,rfl⟩
  rintro k st _ ⟨hk,f11,f10,f1,f7,f3,m3,ek⟩
  have hl:=scrW_len p.mv.length x k
  have hr:=rndK_bd h0 h1 k
  have hr1:=rndK_bd h0 h1 (k+1)
  have hix:=scr_ix hn.1 h0 h1 k (scrW p.mv.length x k)
  have hcl:=cndL_len (n:=p.mv.length) (w:=scrW p.mv.length x k) hn.1
  have hst:scrW p.mv.length x (k+1)=scrW p.mv.length x k++[(cndL p.mv.length (scrW p.mv.length x k)).getD ((rndK x (k+1)).tmod (cndL p.mv.length (scrW p.mv.length x k)).length).toNat 0]:=rfl
  have hrs:nextR (rndK x k)=rndK x (k+1):=rfl
  have hll:=letL_len p.mv.length
  by_cases hlt:k<c
  · rcases ek with ⟨rfl,m7⟩ | ⟨hk0,m7⟩
    · have hcl0:cndL p.mv.length (scrW p.mv.length x 0)=letL p.mv.length:=by simp [cndL,scrW]
      rw [hcl0] at hix hcl hst
      rw [hll] at hix hst
      simp only [Nat.zero_add] at hix hst hr1
      simp -dsimp -implicitDefEqProofs (disch:=first | omega | (simp only [lenr];try omega)) only [↓amPre,amAll,↓reduceIte,reduceCtorEq,Nat.reduceEqDiff,Nat.reduceBEq,Nat.reduceAdd,Nat.reduceLeDiff,Nat.reduceSub,Nat.reduceMul,Int.reduceToNat,List.size_toArray,tyF,MM,bu0,cbP9,f11,f10,f1,f7,f3,m3,m7]
      refine callP_of (lettersI _ hn.2) ?_
      simp -dsimp -implicitDefEqProofs (disch:=first | omega | (simp only [lenr];try omega)) only [↓amPre,amAll,↓reduceIte,reduceCtorEq,Nat.reduceEqDiff,Nat.reduceBEq,Nat.reduceAdd,Nat.reduceLeDiff,Nat.reduceSub,Nat.reduceMul,Int.reduceToNat,List.size_toArray,tyF,MM,bu0,cbP9,f11,f10,f1,f7,f3,m3,m7,hll]
      refine callP_of (iNext _ (by unfold intOk;omega)) ?_
      simp -dsimp -implicitDefEqProofs (disch:=first | omega | (simp only [lenr];try omega)) only [↓amPre,amAll,↓reduceIte,reduceCtorEq,Nat.reduceEqDiff,Nat.reduceBEq,Nat.reduceAdd,Nat.reduceLeDiff,Nat.reduceSub,Nat.reduceMul,Int.reduceToNat,List.size_toArray,tyF,MM,bu0,cbP9,f11,f10,f1,f7,f3,m3,m7,hll,hrs]
      refine split_go 9 (by decide +kernel) ?_
      simp -dsimp -implicitDefEqProofs (disch:=first | omega | (simp only [lenr];try omega)) only [↓amPre,amAll,↓reduceIte,reduceCtorEq,Nat.reduceEqDiff,Nat.reduceBEq,Nat.reduceAdd,Nat.reduceLeDiff,Nat.reduceSub,Nat.reduceMul,Int.reduceToNat,List.size_toArray,tyF,MM,bu0,cbP9,f11,f10,f1,f7,f3,m3,m7,hll,hrs]
      refine callP_of (lenI (letL p.mv.length)) ?_
      generalize hC:letL p.mv.length=C at hix hcl hst hll ⊢
      simp -dsimp -implicitDefEqProofs (disch:=first | omega | (simp only [lenr];try omega)) only [↓amPre,amAll,↓reduceIte,reduceCtorEq,Nat.reduceEqDiff,Nat.reduceBEq,Nat.reduceAdd,Nat.reduceLeDiff,Nat.reduceSub,Nat.reduceMul,Int.reduceToNat,List.size_toArray,tyF,MM,bu0,cbP9,f11,f10,f1,f7,f3,m3,m7,hll,hrs]
      refine ⟨by omega,by omega,by omega,?_⟩
      rw [hst];simp [scrW]
    · have hk0':(0:Int)<k:=by omega
      by_cases c1:p.mv.length=1
      · have b1:decide (1<(p.mv.length:Int))=false:=by simp;omega
        have hcl0:cndL p.mv.length (scrW p.mv.length x k)=letL p.mv.length:=by simp [cndL,c1]
        rw [hcl0] at hix hcl hst
        rw [hll] at hix hst
        simp -dsimp -implicitDefEqProofs (disch:=first | omega | (simp only [lenr];try omega)) only [↓amPre,amAll,↓reduceIte,reduceCtorEq,Nat.reduceEqDiff,Nat.reduceBEq,Nat.reduceAdd,Nat.reduceLeDiff,Nat.reduceSub,Nat.reduceMul,Int.reduceToNat,List.size_toArray,tyF,MM,bu0,cbP9,f11,f10,f1,f7,f3,m3,m7]
        refine callP_of (lettersI _ hn.2) ?_
        simp -dsimp -implicitDefEqProofs (disch:=first | omega | (simp only [lenr];try omega)) only [↓amPre,amAll,↓reduceIte,reduceCtorEq,Nat.reduceEqDiff,Nat.reduceBEq,Nat.reduceAdd,Nat.reduceLeDiff,Nat.reduceSub,Nat.reduceMul,Int.reduceToNat,List.size_toArray,tyF,MM,bu0,cbP9,f11,f10,f1,f7,f3,m3,m7,hll,lt_true hk0',b1]
        refine callP_of (iNext _ (by unfold intOk;omega)) ?_
        simp -dsimp -implicitDefEqProofs (disch:=first | omega | (simp only [lenr];try omega)) only [↓amPre,amAll,↓reduceIte,reduceCtorEq,Nat.reduceEqDiff,Nat.reduceBEq,Nat.reduceAdd,Nat.reduceLeDiff,Nat.reduceSub,Nat.reduceMul,Int.reduceToNat,List.size_toArray,tyF,MM,bu0,cbP9,f11,f10,f1,f7,f3,m3,m7,hll,hrs]
        refine split_go 9 (by decide +kernel) ?_
        simp -dsimp -implicitDefEqProofs (disch:=first | omega | (simp only [lenr];try omega)) only [↓amPre,amAll,↓reduceIte,reduceCtorEq,Nat.reduceEqDiff,Nat.reduceBEq,Nat.reduceAdd,Nat.reduceLeDiff,Nat.reduceSub,Nat.reduceMul,Int.reduceToNat,List.size_toArray,tyF,MM,bu0,cbP9,f11,f10,f1,f7,f3,m3,m7,hll,hrs]
        refine callP_of (lenI (letL p.mv.length)) ?_
        generalize hC:letL p.mv.length=C at hix hcl hst hll ⊢
        simp -dsimp -implicitDefEqProofs (disch:=first | omega | (simp only [lenr];try omega)) only [↓amPre,amAll,↓reduceIte,reduceCtorEq,Nat.reduceEqDiff,Nat.reduceBEq,Nat.reduceAdd,Nat.reduceLeDiff,Nat.reduceSub,Nat.reduceMul,Int.reduceToNat,List.size_toArray,tyF,MM,bu0,cbP9,f11,f10,f1,f7,f3,m3,m7,hll,hrs,hl]
        refine ⟨by omega,by omega,by omega,?_⟩
        rw [hst]
      · have b1:decide (1<(p.mv.length:Int))=true:=by simp;omega
        have hwn:scrW p.mv.length x k≠[]:=by intro e;rw [e] at hl;simp at hl;omega
        have hdf:=deleteFunc (letL p.mv.length) (scrW p.mv.length x k) k (by rw [hll];omega) (by rw [hll];omega) (by omega) (by omega) (by omega) (scr_bd hn.1 hn.2 h0 h1 k)
        rw [show (scrW p.mv.length x k).getD ((k:Int).toNat - 1) 0=lastW (scrW p.mv.length x k) by unfold lastW;rw [hl];simp,show (letL p.mv.length).filter (fun y=>!decide (sameI y (lastW (scrW p.mv.length x k))))=cndL p.mv.length (scrW p.mv.length x k) from (if_pos ⟨hwn,by omega⟩).symm] at hdf
        generalize hC:cndL p.mv.length (scrW p.mv.length x k)=C at hix hcl hst hdf
        simp -dsimp -implicitDefEqProofs (disch:=first | omega | (simp only [lenr];try omega)) only [↓amPre,amAll,↓reduceIte,reduceCtorEq,Nat.reduceEqDiff,Nat.reduceBEq,Nat.reduceAdd,Nat.reduceLeDiff,Nat.reduceSub,Nat.reduceMul,Int.reduceToNat,List.size_toArray,tyF,MM,bu0,cbP9,f11,f10,f1,f7,f3,m3,m7]
        refine callP_of (lettersI _ hn.2) ?_
        simp -dsimp -implicitDefEqProofs (disch:=first | omega | (simp only [lenr];try omega)) only [↓amPre,amAll,↓reduceIte,reduceCtorEq,Nat.reduceEqDiff,Nat.reduceBEq,Nat.reduceAdd,Nat.reduceLeDiff,Nat.reduceSub,Nat.reduceMul,Int.reduceToNat,List.size_toArray,tyF,MM,bu0,cbP9,f11,f10,f1,f7,f3,m3,m7,hll,lt_true hk0',b1,fzL_ints]
        refine callX_of (hdf) ?_
        simp -dsimp -implicitDefEqProofs (disch:=first | omega | (simp only [lenr];try omega)) only [↓amPre,amAll,↓reduceIte,reduceCtorEq,Nat.reduceEqDiff,Nat.reduceBEq,Nat.reduceAdd,Nat.reduceLeDiff,Nat.reduceSub,Nat.reduceMul,Int.reduceToNat,List.size_toArray,tyF,MM,bu0,cbP9,f11,f10,f1,f7,f3,m3,m7,hll]
        refine callP_of (iNext _ (by unfold intOk;omega)) ?_
        simp -dsimp -implicitDefEqProofs (disch:=first | omega | (simp only [lenr];try omega)) only [↓amPre,amAll,↓reduceIte,reduceCtorEq,Nat.reduceEqDiff,Nat.reduceBEq,Nat.reduceAdd,Nat.reduceLeDiff,Nat.reduceSub,Nat.reduceMul,Int.reduceToNat,List.size_toArray,tyF,MM,bu0,cbP9,f11,f10,f1,f7,f3,m3,m7,hll,hrs]
        refine split_go 9 (by decide +kernel) ?_
        simp -dsimp -implicitDefEqProofs (disch:=first | omega | (simp only [lenr];try omega)) only [↓amPre,amAll,↓reduceIte,reduceCtorEq,Nat.reduceEqDiff,Nat.reduceBEq,Nat.reduceAdd,Nat.reduceLeDiff,Nat.reduceSub,Nat.reduceMul,Int.reduceToNat,List.size_toArray,tyF,MM,bu0,cbP9,f11,f10,f1,f7,f3,m3,m7,hll,hrs]
        refine callP_of (lenI C) ?_
        simp -dsimp -implicitDefEqProofs (disch:=first | omega | (simp only [lenr];try omega)) only [↓amPre,amAll,↓reduceIte,reduceCtorEq,Nat.reduceEqDiff,Nat.reduceBEq,Nat.reduceAdd,Nat.reduceLeDiff,Nat.reduceSub,Nat.reduceMul,Int.reduceToNat,List.size_toArray,tyF,MM,bu0,cbP9,f11,f10,f1,f7,f3,m3,m7,hll,hrs,hl]
        refine ⟨by omega,by omega,by omega,?_⟩
        rw [hst]
  · have hk:k=c:=by omega
    subst hk
    rcases ek with ⟨rfl,m7⟩ | ⟨hk0,m7⟩
    · simp -dsimp -implicitDefEqProofs (disch:=first | omega | (simp only [lenr];try omega)) only [↓amPre,amAll,↓reduceIte,reduceCtorEq,Nat.reduceEqDiff,Nat.reduceBEq,Nat.reduceAdd,Nat.reduceLeDiff,Nat.reduceSub,Nat.reduceMul,Int.reduceToNat,List.size_toArray,tyF,MM,bu0,cbP9,f11,f10,f1,f7,f3,m3,m7]
      simp [scrW]
    · simp -dsimp -implicitDefEqProofs (disch:=first | omega | (simp only [lenr];try omega)) only [↓amPre,amAll,↓reduceIte,reduceCtorEq,Nat.reduceEqDiff,Nat.reduceBEq,Nat.reduceAdd,Nat.reduceLeDiff,Nat.reduceSub,Nat.reduceMul,Int.reduceToNat,List.size_toArray,tyF,MM,bu0,cbP9,f11,f10,f1,f7,f3,m3,m7]
end Go.AM
set_option maxRecDepth 8000
namespace Go.AM
namespace Draws
open Go.Proofs
def sdK (l:List UInt8):Nat→Int
  | 0=>590033+l.length
  | k+1=>bitsI .and .i64 (sdK l k*337+(l.getD k default).toNat+11) 1073741823
end Draws
end Go.AM
set_option maxRecDepth 8000
namespace Go.AM
namespace Draws
open Go.Proofs
noncomputable def bS (s:Src) (n:Int):Src:=open Classical in if h:s.ok∧intOk n then (below s n h.1 h.2).choose else s
noncomputable def bX (s:Src) (n:Int):Int:=open Classical in if h:s.ok∧intOk n then (below s n h.1 h.2).choose_spec.choose else 0
theorem ints_bears:∀ L:List Int,AV.bearsL (L.map AV.i64)=false
  | []=>rfl
  | _ :: r=>by rw [List.map_cons,AV.bearsL,ints_bears r];rfl
theorem grabL_ints (s:Nat) (p:Path):∀ (L:List Int) (i:Nat) (st:St) (K:List AV→St→Prop),grabL s p i (L.map AV.i64) st K=K (L.map AV.i64) st
  | [],_,_,_=>rfl
  | a :: r,i,st,K=>by
    have hb:AV.bears (AV.v (.int .i64 a))=false:=rfl
    rw [List.map_cons,grabL_cons,grabE_v,grabC_v,hb]
    refine (propext ⟨fun h=>?_,fun h=>?_⟩:_=_)
    · have h2:=h.2
      rw [grabL_ints s p r (i+1) st] at h2
      exact h2
    · refine ⟨rfl,?_⟩
      rw [grabL_ints s p r (i+1) st]
      exact h
noncomputable def ordK (s:Src):Nat→Src×List Int
  | 0=>(s,[])
  | k+1=>(bS (ordK s k).1 (k+1),(ordK s k).2.take (bX (ordK s k).1 (k+1)).toNat++[(k:Int)]++(ordK s k).2.drop (bX (ordK s k).1 (k+1)).toNat)
end Draws
end Go.AM
namespace Go.AM
/-! a permutation of the facelets as a piece state -/
def pAt (p:List Int) (b o i:Nat):Int:=p.getD (b+i*o) 0 - b
def ctL (p:List Int) (b o n:Nat):List Int:=(List.range n).map fun i=>(pAt p b o i).tdiv o
def cbL (p:List Int) (b o n:Nat):List Int:=(List.range n).map fun i=>(pAt p b o i).tmod o
def candT (ks:List Kind) (p:List Int) (k:Nat):Twist :=
  ⟨ctL p (facets (ks.take k)).toNat (ks.getD k default).o.toNat (ks.getD k default).c.toNat,cbL p (facets (ks.take k)).toNat (ks.getD k default).o.toNat (ks.getD k default).c.toNat⟩
def candL (ks:List Kind) (p:List Int) (n:Nat):List Twist:=(List.range n).map (candT ks p)
def ptpOk (ks:List Kind) (p:List Int):Prop:=kindsOk ks∧(p.length:Int)=facets ks∧psOk ks (candL ks p ks.length)∧permOf ks (candL ks p ks.length)=p
instance (ks:List Kind) (p:List Int):Decidable (ptpOk ks p):=by unfold ptpOk;infer_instance
def ptpR (ks:List Kind) (p:List Int):List Twist:=if ptpOk ks p then candL ks p ks.length else []
end Go.AM
set_option maxRecDepth 8000
namespace Go.AM
open Go.Proofs
def cpL (a b:List Int) (k:Nat):List Int:=(List.range k).map fun i=>b.getD (a.getD i 0).toNat 0
theorem cpL_succ (a b:List Int) (k:Nat):cpL a b (k+1)=cpL a b k++[b.getD (a.getD k 0).toNat 0]:=range_succ_map _ k
theorem cpL_len (a b:List Int) (k:Nat):(cpL a b k).length=k:=by simp [cpL]
theorem scompose (a b:List Int) (hl:a.length≤20) (h:∀ x∈a,0≤x∧x<b.length):SpecAt Try.prog 103 [isl a,isl b] (itr (cpL a b a.length)):=by
  refine spec_of_awp (M:=MM) (np:=2) (fz:=false) mixed Try.func103 rfl rfl (by decide) rfl (Nat.le_refl _) (by decide +kernel) (.inl rfl) (by first | trivial | simp only [sigsOk_nil,sigsOk_some,sigsOk_none,sig_tr,sig_pt,sig_mt,sig_agg,List.map_cons,List.map_nil,sig1_tr,sig1_pt,sig1_v,and_self,true_and,List.length_map,List.length_set]) ?_
  simp -dsimp -implicitDefEqProofs (disch:=first | omega | (simp only [lenr];try omega)) only [↓amPre,amAll,↓reduceIte,reduceCtorEq,Nat.reduceEqDiff,Nat.reduceBEq,Nat.reduceAdd,Nat.reduceLeDiff,Nat.reduceSub,Nat.reduceMul,Int.reduceToNat,List.size_toArray,tyF,MM,bu0,cbP6]
  refine awp_loopR 7 23 (.tr 1 []) (by simp -dsimp -implicitDefEqProofs (disch:=first | omega | (simp only [lenr];try omega)) only [↓amPre,amAll,↓reduceIte,reduceCtorEq,Nat.reduceEqDiff,Nat.reduceBEq,Nat.reduceAdd,Nat.reduceLeDiff,Nat.reduceSub,Nat.reduceMul,Int.reduceToNat,List.size_toArray,tyF,MM,bu0,cbP6]) (by decide) (by decide) (by decide) (fun k st=>k≤a.length∧st.fr 6=.i64 k∧st.fr 0=isl a∧st.fr 1=isl b∧st.fr 5=.ref 23 [] 1 0 k∧st.mem 23=some (itr (cpL a b k))) (a.length) ?_ ?_
  · simp -dsimp -implicitDefEqProofs (disch:=first | omega | (simp only [lenr];try omega)) only [↓amPre,amAll,↓reduceIte,reduceCtorEq,Nat.reduceEqDiff,Nat.reduceBEq,Nat.reduceAdd,Nat.reduceLeDiff,Nat.reduceSub,Nat.reduceMul,Int.reduceToNat,List.size_toArray,tyF,MM,bu0,cbP6,ren_eq]
    simp [cpL]
  rintro k st _ ⟨hk,f6,f0,f1,f5,m23⟩
  have hcl:=cpL_len a b k
  have hcs:=cpL_succ a b k
  by_cases hlt:k<a.length
  · obtain ⟨x0,x1⟩:=h _ (mem_getD a k 0 hlt)
    obtain ⟨m,hm⟩:∃ m:Nat,a.getD k 0=m:=⟨_,(Int.toNat_of_nonneg x0).symm⟩
    rw [hm,Int.toNat_natCast] at hcs
    have hmb:m<b.length:=by omega
    simp -dsimp -implicitDefEqProofs (disch:=first | omega | (simp only [lenr];try omega)) only [↓amPre,amAll,↓reduceIte,reduceCtorEq,Nat.reduceEqDiff,Nat.reduceBEq,Nat.reduceAdd,Nat.reduceLeDiff,Nat.reduceSub,Nat.reduceMul,Int.reduceToNat,List.size_toArray,tyF,MM,bu0,cbP6,f6,f0,f1,f5,m23,hm,hcl,← hcs]
    repeat' (first | omega | rfl | exact i64c (by omega) | exact vic (by omega) | apply And.intro)
  · have hke:k=a.length:=by omega
    subst hke
    simp -dsimp -implicitDefEqProofs (disch:=first | omega | (simp only [lenr];try omega)) only [↓amPre,amAll,↓reduceIte,reduceCtorEq,Nat.reduceEqDiff,Nat.reduceBEq,Nat.reduceAdd,Nat.reduceLeDiff,Nat.reduceSub,Nat.reduceMul,Int.reduceToNat,List.size_toArray,tyF,MM,bu0,cbP6,f6,f0,f1,f5,m23,hcl]
def cpR (a b:List Int):AV:=if isPerm a∧isPerm b∧a.length=b.length then .tup [itr (cpL a b a.length),.bl true] else .tup [.tr 1 [],.bl false]
def ivL (p:List Int):Nat→List Int
  | 0=>List.replicate p.length 0
  | k+1=>(ivL p k).set (p.getD k 0).toNat (k:Int)
theorem ivL_len (p:List Int):∀ k,(ivL p k).length=p.length
  | 0=>by simp [ivL]
  | k+1=>by rw [ivL,List.length_set,ivL_len p k]
theorem sinverse (p:List Int) (hp:isPerm p):SpecAt Try.prog 231 [isl p] (itr (ivL p p.length)):=by
  have hl20:=hp.1.2
  refine spec_of_awp (M:=MM) (np:=1) (fz:=false) mixed Try.func231 rfl rfl (by decide) rfl (Nat.le_refl _) (by decide +kernel) (.inl rfl) (by first | trivial | simp only [sigsOk_nil,sigsOk_some,sigsOk_none,sig_tr,sig_pt,sig_mt,sig_agg,List.map_cons,List.map_nil,sig1_tr,sig1_pt,sig1_v,and_self,true_and,List.length_map,List.length_set]) ?_
  simp -dsimp -implicitDefEqProofs (disch:=first | omega | (simp only [lenr];try omega)) only [↓amPre,amAll,↓reduceIte,reduceCtorEq,Nat.reduceEqDiff,Nat.reduceBEq,Nat.reduceAdd,Nat.reduceLeDiff,Nat.reduceSub,Nat.reduceMul,Int.reduceToNat,List.size_toArray,tyF,MM,bu0,cbP6]
  refine awp_loop (fun k st=>k≤p.length∧st.fr 4=.i64 k∧st.fr 0=isl p∧st.fr 3=.ref 7 [] 1 0 p.length∧st.mem 7=some (itr (ivL p k))) (p.length) ?_ ?_
  · simp -dsimp -implicitDefEqProofs (disch:=first | omega | (simp only [lenr];try omega)) only [↓amPre,amAll,↓reduceIte,reduceCtorEq,Nat.reduceEqDiff,Nat.reduceBEq,Nat.reduceAdd,Nat.reduceLeDiff,Nat.reduceSub,Nat.reduceMul,Int.reduceToNat,List.size_toArray,tyF,MM,bu0,cbP6]
    simp [ivL]
  rintro k st _ ⟨hk,f4,f0,f3,m7⟩
  have hil:=ivL_len p k
  have his:ivL p (k+1)=(ivL p k).set (p.getD k 0).toNat (k:Int):=rfl
  by_cases hlt:k<p.length
  · have hx:=hp.2.1 _ (mem_getD p k 0 hlt)
    obtain ⟨m,hm⟩:∃ m:Nat,p.getD k 0=m:=⟨_,(Int.toNat_of_nonneg hx.1).symm⟩
    rw [hm,Int.toNat_natCast] at his
    have hmb:m<p.length:=by omega
    simp -dsimp -implicitDefEqProofs (disch:=first | omega | (simp only [lenr];try omega)) only [↓amPre,amAll,↓reduceIte,reduceCtorEq,Nat.reduceEqDiff,Nat.reduceBEq,Nat.reduceAdd,Nat.reduceLeDiff,Nat.reduceSub,Nat.reduceMul,Int.reduceToNat,List.size_toArray,tyF,MM,bu0,cbP6,f4,f0,f3,m7,hm,hil,← his]
    repeat' (first | omega | rfl | exact i64c (by omega) | exact vic (by omega) | apply And.intro)
  · have hke:k=p.length:=by omega
    subst hke
    simp -dsimp -implicitDefEqProofs (disch:=first | omega | (simp only [lenr];try omega)) only [↓amPre,amAll,↓reduceIte,reduceCtorEq,Nat.reduceEqDiff,Nat.reduceBEq,Nat.reduceAdd,Nat.reduceLeDiff,Nat.reduceSub,Nat.reduceMul,Int.reduceToNat,List.size_toArray,tyF,MM,bu0,cbP6,f4,f0,f3,m7,hil]
end Go.AM
namespace Go.AM
/-! the permutation of a composite,and of an inverse,of piece states -/
theorem isPerm_of {l:List Int} (h1:1≤l.length∧l.length≤20) (hr:∀ i,i<l.length→0≤l.getD i 0∧l.getD i 0<l.length) (inj:∀ i j,i<l.length→j<l.length→l.getD i 0=l.getD j 0→i=j):isPerm l:=by
  refine ⟨h1,fun x hx=>?_,?_⟩
  · obtain ⟨i,hi,rfl⟩:=List.getElem_of_mem hx
    have:=hr i hi
    rwa [getD_eq _ _ _ hi] at this
  · rw [List.Nodup,List.pairwise_iff_getElem]
    intro i j hi hj hij e
    have:=inj i j hi hj (by rw [getD_eq _ _ _ hi,getD_eq _ _ _ hj];exact e)
    omega
theorem compI_perm {p q:List Int} (hp:isPerm p) (hq:isPerm q) (hl:p.length=q.length):isPerm (compI p q):=by
  refine isPerm_of (by rw [compI_len];exact hp.1) (fun i hi=>?_) (fun i j hi hj e=>?_)
  · rw [compI_len] at hi ⊢
    rw [compI_get _ _ _ hi]
    have h1:=perm_get hp hi
    have h2:=perm_get hq (show (p.getD i 0).toNat<q.length by omega)
    omega
  · rw [compI_len] at hi hj
    rw [compI_get _ _ _ hi,compI_get _ _ _ hj] at e
    have h1:=perm_get hp hi
    have h2:=perm_get hp hj
    have:=perm_inj hq (by omega) (by omega) e
    exact perm_inj hp hi hj (by omega)
theorem invI_get {p:List Int} (hp:isPerm p) {i:Nat} (hi:i<p.length):(invI p).getD (p.getD i 0).toNat 0=i:=by
  rw [invI,scat_get _ p _ 0 hp (by simp) _ (Nat.le_refl _) i hi]
theorem invI_perm {p:List Int} (hp:isPerm p):isPerm (invI p):=by
  refine isPerm_of (by rw [invI_len];exact hp.1) (fun j hj=>?_) (fun j j' hj hj' e=>?_)
  · rw [invI_len] at hj ⊢
    obtain ⟨i,hi,rfl⟩:=perm_surj hp j hj
    rw [invI_get hp hi];omega
  · rw [invI_len] at hj hj'
    obtain ⟨i,hi,rfl⟩:=perm_surj hp j hj
    obtain ⟨i',hi',rfl⟩:=perm_surj hp j' hj'
    rw [invI_get hp hi,invI_get hp hi'] at e
    have:i=i':=by omega
    rw [this]
def bas (ks:List Kind) (n:Nat):Nat:=(facets (ks.take n)).toNat
theorem getD_app_l {α:Type} (a b:List α) (i:Nat) (d:α) (h:i<a.length):(a++b).getD i d=a.getD i d:=by
  simp only [List.getD,List.getElem?_append_left h]
theorem getD_app_r {α:Type} (a b:List α) (i:Nat) (d:α):(a++b).getD (a.length+i) d=b.getD i d:=by
  simp only [List.getD,List.getElem?_append_right (show a.length≤a.length+i by omega)]
  congr 2;omega
end Go.AM
namespace Go.AM
/-! the effect of a word;the points that it moves -/
def letP (mv:List (List Int)) (x:Int):List Int:=if 0<x then mv.getD (x - 1).toNat default else invI (mv.getD (-x - 1).toNat default)
def effK (n:Int) (mv:List (List Int)) (w:List Int):Nat→List Int
  | 0=>runI 0 n.toNat
  | k+1=>compI (effK n mv w k) (letP mv (w.getD k 0))
theorem run_perm {n:Nat} (h1:1≤n) (h2:n≤20):isPerm (runI 0 n):=by
  refine isPerm_of (by rw [runI_len];omega) (fun i hi=>?_) (fun i j hi hj e=>?_)
  · rw [runI_len] at hi ⊢
    rw [runI_get 0 n i hi];omega
  · rw [runI_len] at hi hj
    rw [runI_get 0 n i hi,runI_get 0 n j hj] at e;omega
theorem letP_ok {n:Int} {mv:List (List Int)} (h:genOk n mv) {x:Int} (hx:letOk mv.length x):moveOk n (letP mv x):=by
  unfold letOk at hx
  unfold letP
  split
  · exact h.2.2 _ (mem_getD mv _ default (by omega))
  · have:=h.2.2 _ (mem_getD mv (-x - 1).toNat default (by omega))
    exact ⟨by rw [invI_len];exact this.1,invI_perm this.2⟩
theorem effK_ok {n:Int} {mv:List (List Int)} {w:List Int} (h:genOk n mv) (hw:wordOk mv.length w):∀ k,k≤w.length→moveOk n (effK n mv w k)
  | 0,_=>⟨by rw [effK,runI_len];have:=h.1;omega,run_perm (by have:=h.1;omega) (by have:=h.1;omega)⟩
  | k+1,hk=>by
    have ih:=effK_ok h hw k (by omega)
    have hl:=letP_ok h (hw.2 _ (mem_getD w k 0 (by omega)))
    exact ⟨by rw [effK,compI_len];exact ih.1,compI_perm ih.2 hl.2 (by have:=ih.1;have:=hl.1;omega)⟩
def movL (p:List Int) (k:Nat):List Int:=((List.range k).filter fun i=>p.getD i 0 != (i:Int)).map fun (i:Nat)=>(i:Int)
def imgL (p:List Int) (k:Nat):List Int:=((List.range k).filter fun i=>p.getD i 0 != (i:Int)).map fun i=>p.getD i 0
theorem mem_movL {p:List Int} {k:Nat} {x:Int}:x∈movL p k↔∃ i:Nat,i<k∧p.getD i 0≠i∧x=i:=by
  unfold movL
  simp only [List.mem_map,List.mem_filter,List.mem_range,bne_iff_ne,ne_eq]
  constructor
  · rintro ⟨i,⟨h1,h2⟩,h3⟩;exact ⟨i,h1,h2,h3.symm⟩
  · rintro ⟨i,h1,h2,h3⟩;exact ⟨i,⟨h1,h2⟩,h3.symm⟩
end Go.AM
namespace Go.Proofs
open Go.Shelf
def Try.sortL_ren:Go.Shelf.Ren:=⟨fun | 5=>213 | 8=>252 | 7=>251 | 19=>272 | 20=>273 | 10=>263 | 11=>264 | 12=>265 | 13=>266 | 14=>267 | 15=>268 | 16=>269 | 17=>270 | 18=>271 | 30=>277 | 31=>278 | 32=>279 | 33=>280 | 34=>281 | 35=>282 | 40=>283 | n=>n,fun | 23=>52 | 25=>2 | 3=>3 | 32=>111 | 22=>52 | 0=>0 | 44=>243 | 46=>34 | 4=>4 | 36=>236 | 35=>235 | 41=>240 | 5=>5 | 9=>9 | 53=>247 | 57=>251 | 63=>253 | 64=>254 | n=>n,fun | n=>n⟩
end Go.Proofs
set_option maxRecDepth 8000
namespace Go.AM
open Go.Proofs
theorem sIdentity (n:Nat) (hn:n≤20):SpecAt Try.prog 132 [.i64 n] (itr (runI 0 n)):=by
  refine spec_of_awp (M:=MM) (np:=1) (fz:=false) mixed Try.func132 rfl rfl (by decide) rfl (Nat.le_refl _) (by decide +kernel) (.inl rfl) (by first | trivial | simp only [sigsOk_nil,sigsOk_some,sigsOk_none,sig_tr,sig_pt,sig_mt,sig_agg,List.map_cons,List.map_nil,sig1_tr,sig1_pt,sig1_v,and_self,true_and,List.length_map,List.length_set]) ?_
  simp -dsimp -implicitDefEqProofs (disch:=first | omega | (simp only [lenr];try omega)) only [↓amPre,amAll,↓reduceIte,reduceCtorEq,Nat.reduceEqDiff,Nat.reduceBEq,Nat.reduceAdd,Nat.reduceLeDiff,Nat.reduceSub,Nat.reduceMul,Int.reduceToNat,List.size_toArray,tyF,MM,bu0,cbP9]
  refine awp_loop (fun k st=>k≤n∧st.fr 4=.i64 k∧st.fr 0=.i64 n∧((k=0∧st.fr 3=.ref 5 [] 1 0 0∧st.mem 5=some (.tr 1 []))∨(0<k∧st.fr 3=.ref 14 [] 1 0 k∧st.mem 14=some (itr (runI 0 k))))) (n) ?_ ?_
  · simp -dsimp -implicitDefEqProofs (disch:=first | omega | (simp only [lenr];try omega)) only [↓amPre,amAll,↓reduceIte,reduceCtorEq,Nat.reduceEqDiff,Nat.reduceBEq,Nat.reduceAdd,Nat.reduceLeDiff,Nat.reduceSub,Nat.reduceMul,Int.reduceToNat,List.size_toArray,tyF,MM,bu0,cbP9]
    simp
  rintro k st _ ⟨hk,f4,f0,ek⟩
  have hr:=runI_succ 0 k
  rw [Int.zero_add] at hr
  have hl:=runI_len 0 k
  have hl2:=runI_len 0 (k+1)
  rcases ek with ⟨rfl,g3,g5⟩ | ⟨h0,g3,g5⟩
  · by_cases hlt:0<n
    · have h1:runI 0 1=[0]:=rfl
      simp -dsimp -implicitDefEqProofs (disch:=first | omega | (simp only [lenr];try omega)) only [↓amPre,amAll,↓reduceIte,reduceCtorEq,Nat.reduceEqDiff,Nat.reduceBEq,Nat.reduceAdd,Nat.reduceLeDiff,Nat.reduceSub,Nat.reduceMul,Int.reduceToNat,List.size_toArray,tyF,MM,bu0,cbP9,f4,f0,g3,g5]
      repeat' (first | omega | rfl | exact i64c (by omega) | exact vic (by omega) | apply And.intro)
    · have hke:n=0:=by omega
      subst hke
      simp -dsimp -implicitDefEqProofs (disch:=first | omega | (simp only [lenr];try omega)) only [↓amPre,amAll,↓reduceIte,reduceCtorEq,Nat.reduceEqDiff,Nat.reduceBEq,Nat.reduceAdd,Nat.reduceLeDiff,Nat.reduceSub,Nat.reduceMul,Int.reduceToNat,List.size_toArray,tyF,MM,bu0,cbP9,f4,f0,g3,g5]
      rfl
  · by_cases hlt:k<n
    · simp -dsimp -implicitDefEqProofs (disch:=first | omega | (simp only [lenr];try omega)) only [↓amPre,amAll,↓reduceIte,reduceCtorEq,Nat.reduceEqDiff,Nat.reduceBEq,Nat.reduceAdd,Nat.reduceLeDiff,Nat.reduceSub,Nat.reduceMul,Int.reduceToNat,List.size_toArray,tyF,MM,bu0,cbP9,f4,f0,g3,g5,hl,← hr]
      repeat' (first | omega | rfl | exact i64c (by omega) | exact vic (by omega) | apply And.intro)
    · have hke:k=n:=by omega
      subst hke
      simp -dsimp -implicitDefEqProofs (disch:=first | omega | (simp only [lenr];try omega)) only [↓amPre,amAll,↓reduceIte,reduceCtorEq,Nat.reduceEqDiff,Nat.reduceBEq,Nat.reduceAdd,Nat.reduceLeDiff,Nat.reduceSub,Nat.reduceMul,Int.reduceToNat,List.size_toArray,tyF,MM,bu0,cbP9,f4,f0,g3,g5,hl]
theorem copyI (l:List Int) (hl:l.length≤1099511627775):SpecAt Try.prog 160 [isl l] (itr l):=by
  refine spec_of_awp (M:=MM) (np:=1) (fz:=false) mixed Try.func160 rfl rfl (by decide) rfl (Nat.le_refl _) (by decide +kernel) (.inl rfl) (by first | trivial | simp only [sigsOk_nil,sigsOk_some,sigsOk_none,sig_tr,sig_pt,sig_mt,sig_agg,List.map_cons,List.map_nil,sig1_tr,sig1_pt,sig1_v,and_self,true_and,List.length_map,List.length_set]) ?_
  have ht:(l.map AV.i64).take l.length=l.map AV.i64:=List.take_of_length_le (by simp)
  simp -dsimp -implicitDefEqProofs (disch:=first | omega | (simp only [lenr];try omega)) only [↓amPre,amAll,↓reduceIte,reduceCtorEq,Nat.reduceEqDiff,Nat.reduceBEq,Nat.reduceAdd,Nat.reduceLeDiff,Nat.reduceSub,Nat.reduceMul,Int.reduceToNat,List.size_toArray,tyF,MM,bu0,cbP9,Draws.grabL_ints,ht]
theorem ivL_invI (p:List Int):ivL p p.length=invI p:=by
  have h:∀ k,ivL p k=scat (List.replicate p.length 0) p (fun i=>(i:Int)) k:=by
    intro k
    induction k with
    | zero=>rfl
    | succ k ih=>rw [ivL,scat,ih]
  exact h _
end Go.AM
set_option maxRecDepth 8000
namespace Go.AM
open Go.Proofs
theorem iLetter (n:Int) (mv:List (List Int)) (x:Int) (hp:genOk n mv) (hx:letOk mv.length x):SpecAt Try.prog 235 [ssl mv,.i64 x] (isl (letP mv x))∨SpecAt Try.prog 235 [ssl mv,.i64 x] (itr (letP mv x)):=by
  have hlx:letP mv x=_:=rfl
  conv at hlx=>rhs;rw [letP]
  unfold letOk at hx
  have hm8:=hp.2.1
  by_cases c0:0<x
  · obtain ⟨m,hm1⟩:∃ m:Nat,x - 1=m:=⟨_,(Int.toNat_of_nonneg (by omega)).symm⟩
    rw [if_pos c0,hm1,Int.toNat_natCast] at hlx
    have hmlt:m<mv.length:=by omega
    rw [hlx]
    left
    refine spec_of_awp (M:=MM) (np:=2) (fz:=true) mixed Try.func235 rfl rfl (by decide) rfl (Nat.le_refl _) (by decide +kernel) (.inr ⟨rfl,rfl⟩) trivial ?_
    simp -dsimp -implicitDefEqProofs (disch:=first | omega | (simp only [lenr];try omega)) only [↓amPre,amAll,↓reduceIte,reduceCtorEq,Nat.reduceEqDiff,Nat.reduceBEq,Nat.reduceAdd,Nat.reduceLeDiff,Nat.reduceSub,Nat.reduceMul,Int.reduceToNat,List.size_toArray,tyF,MM,bu0,cbP9,lt_true c0,hm1]
  · obtain ⟨m,hm1⟩:∃ m:Nat,-x - 1=m:=⟨_,(Int.toNat_of_nonneg (by omega)).symm⟩
    rw [if_neg c0,hm1,Int.toNat_natCast] at hlx
    have hmlt:m<mv.length:=by omega
    have hw:IntKind.i64.wrap (0 - x)=0 - x:=wrap64_id (by omega)
    have hm2:0 - x - 1=m:=by omega
    have hq:=hp.2.2 _ (mem_getD mv m default hmlt)
    rw [hlx]
    generalize hM:mv.getD m default=M at hq
    have hM20:=hq.2.1.2
    have hv:=iinverse M (by omega) hq.2.2.1
    right
    refine spec_of_awp (M:=MM) (np:=2) (fz:=false) mixed Try.func235 rfl rfl (by decide) rfl (Nat.le_refl _) (by decide +kernel) (.inl rfl) (by first | trivial | simp only [sigsOk_nil,sigsOk_some,sigsOk_none,sig_tr,sig_pt,sig_mt,sig_agg,List.map_cons,List.map_nil,sig1_tr,sig1_pt,sig1_v,and_self,true_and,List.length_map,List.length_set]) ?_
    simp -dsimp -implicitDefEqProofs (disch:=first | omega | (simp only [lenr];try omega)) only [↓amPre,amAll,↓reduceIte,reduceCtorEq,Nat.reduceEqDiff,Nat.reduceBEq,Nat.reduceAdd,Nat.reduceLeDiff,Nat.reduceSub,Nat.reduceMul,Int.reduceToNat,List.size_toArray,tyF,MM,bu0,cbP9,lt_false (Int.not_lt.1 c0),hw,hm2,hM]
    refine callP_of (hv) ?_
    simp -dsimp -implicitDefEqProofs (disch:=first | omega | (simp only [lenr];try omega)) only [↓amPre,amAll,↓reduceIte,reduceCtorEq,Nat.reduceEqDiff,Nat.reduceBEq,Nat.reduceAdd,Nat.reduceLeDiff,Nat.reduceSub,Nat.reduceMul,Int.reduceToNat,List.size_toArray,tyF,MM,bu0,cbP9,hM]
theorem iEvaluate (n:Nat) (mv:List (List Int)) (w:List Int) (hp:genOk n mv) (hw:wordOk mv.length w):SpecAt Try.prog 199 [.i64 n,ssl mv,isl w] (itr (effK n mv w w.length)):=by
  have hn:=hp.1
  have h1:=iidentity n (by omega)
  have hw2:=hw.1
  have hr:=runI_len 0 n
  refine spec_of_awp (M:=MM) (np:=3) (fz:=false) mixed Try.func199 rfl rfl (by decide) rfl (Nat.le_refl _) (by decide +kernel) (.inl rfl) (by first | trivial | simp only [sigsOk_nil,sigsOk_some,sigsOk_none,sig_tr,sig_pt,sig_mt,sig_agg,List.map_cons,List.map_nil,sig1_tr,sig1_pt,sig1_v,and_self,true_and,List.length_map,List.length_set]) ?_
  simp -dsimp -implicitDefEqProofs (disch:=first | omega | (simp only [lenr];try omega)) only [↓amPre,amAll,↓reduceIte,reduceCtorEq,Nat.reduceEqDiff,Nat.reduceBEq,Nat.reduceAdd,Nat.reduceLeDiff,Nat.reduceSub,Nat.reduceMul,Int.reduceToNat,List.size_toArray,tyF,MM,bu0,cbP9]
  refine callP_of (h1) ?_
  simp -dsimp -implicitDefEqProofs (disch:=first | omega | (simp only [lenr];try omega)) only [↓amPre,amAll,↓reduceIte,reduceCtorEq,Nat.reduceEqDiff,Nat.reduceBEq,Nat.reduceAdd,Nat.reduceLeDiff,Nat.reduceSub,Nat.reduceMul,Int.reduceToNat,List.size_toArray,tyF,MM,bu0,cbP9,hr]
  refine awp_loopR 11 22 (itr (runI 0 n)) (by simp -dsimp -implicitDefEqProofs (disch:=first | omega | (simp only [lenr];try omega)) only [↓amPre,amAll,↓reduceIte,reduceCtorEq,Nat.reduceEqDiff,Nat.reduceBEq,Nat.reduceAdd,Nat.reduceLeDiff,Nat.reduceSub,Nat.reduceMul,Int.reduceToNat,List.size_toArray,tyF,MM,bu0,cbP9]) (by decide) (by decide) (by decide) (fun k st=>k≤w.length∧st.fr 14=.i64 k∧st.fr 13=.i64 w.length∧st.fr 12=isl w∧st.fr 7=.ref 22 [] 1 0 (effK n mv w k).length∧st.fr 1=ssl mv∧st.mem 22=some (itr (effK n mv w k))) (w.length) ?_ ?_
  · simp -dsimp -implicitDefEqProofs (disch:=first | omega | (simp only [lenr];try omega)) only [↓amPre,amAll,↓reduceIte,reduceCtorEq,Nat.reduceEqDiff,Nat.reduceBEq,Nat.reduceAdd,Nat.reduceLeDiff,Nat.reduceSub,Nat.reduceMul,Int.reduceToNat,List.size_toArray,tyF,MM,bu0,cbP9,ren_eq,effK]
    exact ⟨Nat.zero_le _,rfl,by simp [runI_len]⟩
  rintro k st _ ⟨hk,f14,f13,f12,f7,f1,m22⟩
  have hk1:=effK_ok hp hw k hk
  have hef:effK n mv w (k+1)=compI (effK n mv w k) (letP mv (w.getD k 0)):=rfl
  by_cases hlt:k<w.length
  · have hx:=hw.2 _ (mem_getD w k 0 hlt)
    have hlo:=letP_ok hp hx
    have hl:(effK n mv w (k+1)).length=(effK n mv w k).length:=by rw [hef,compI_len]
    have hl20:=hk1.2.1.2
    have hq:=icompose (effK n mv w k) (letP mv (w.getD k 0)) (by omega) (fun y hy=>by have:=hk1.2.2.1 y hy;have:=hk1.1;have:=hlo.1;omega)
    rw [← hef] at hq
    rcases iLetter n mv (w.getD k 0) hp hx with ha | ha
    · simp -dsimp -implicitDefEqProofs (disch:=first | omega | (simp only [lenr];try omega)) only [↓amPre,amAll,↓reduceIte,reduceCtorEq,Nat.reduceEqDiff,Nat.reduceBEq,Nat.reduceAdd,Nat.reduceLeDiff,Nat.reduceSub,Nat.reduceMul,Int.reduceToNat,List.size_toArray,tyF,MM,bu0,cbP9,f14,f13,f12,f7,f1,m22]
      refine callP_of (ha) ?_
      simp -dsimp -implicitDefEqProofs (disch:=first | omega | (simp only [lenr];try omega)) only [↓amPre,amAll,↓reduceIte,reduceCtorEq,Nat.reduceEqDiff,Nat.reduceBEq,Nat.reduceAdd,Nat.reduceLeDiff,Nat.reduceSub,Nat.reduceMul,Int.reduceToNat,List.size_toArray,tyF,MM,bu0,cbP9,f14,f13,f12,f7,f1,m22]
      refine callP_of (hq) ?_
      simp -dsimp -implicitDefEqProofs (disch:=first | omega | (simp only [lenr];try omega)) only [↓amPre,amAll,↓reduceIte,reduceCtorEq,Nat.reduceEqDiff,Nat.reduceBEq,Nat.reduceAdd,Nat.reduceLeDiff,Nat.reduceSub,Nat.reduceMul,Int.reduceToNat,List.size_toArray,tyF,MM,bu0,cbP9,f14,f13,f12,f7,f1,m22,hl]
      repeat' (first | omega | rfl | exact i64c (by omega) | exact vic (by omega) | apply And.intro)
    · simp -dsimp -implicitDefEqProofs (disch:=first | omega | (simp only [lenr];try omega)) only [↓amPre,amAll,↓reduceIte,reduceCtorEq,Nat.reduceEqDiff,Nat.reduceBEq,Nat.reduceAdd,Nat.reduceLeDiff,Nat.reduceSub,Nat.reduceMul,Int.reduceToNat,List.size_toArray,tyF,MM,bu0,cbP9,f14,f13,f12,f7,f1,m22]
      refine callP_of (ha) ?_
      simp -dsimp -implicitDefEqProofs (disch:=first | omega | (simp only [lenr];try omega)) only [↓amPre,amAll,↓reduceIte,reduceCtorEq,Nat.reduceEqDiff,Nat.reduceBEq,Nat.reduceAdd,Nat.reduceLeDiff,Nat.reduceSub,Nat.reduceMul,Int.reduceToNat,List.size_toArray,tyF,MM,bu0,cbP9,f14,f13,f12,f7,f1,m22]
      refine callP_of (hq) ?_
      simp -dsimp -implicitDefEqProofs (disch:=first | omega | (simp only [lenr];try omega)) only [↓amPre,amAll,↓reduceIte,reduceCtorEq,Nat.reduceEqDiff,Nat.reduceBEq,Nat.reduceAdd,Nat.reduceLeDiff,Nat.reduceSub,Nat.reduceMul,Int.reduceToNat,List.size_toArray,tyF,MM,bu0,cbP9,f14,f13,f12,f7,f1,m22,hl]
      repeat' (first | omega | rfl | exact i64c (by omega) | exact vic (by omega) | apply And.intro)
  · have hke:k=w.length:=by omega
    subst hke
    simp -dsimp -implicitDefEqProofs (disch:=first | omega | (simp only [lenr];try omega)) only [↓amPre,amAll,↓reduceIte,reduceCtorEq,Nat.reduceEqDiff,Nat.reduceBEq,Nat.reduceAdd,Nat.reduceLeDiff,Nat.reduceSub,Nat.reduceMul,Int.reduceToNat,List.size_toArray,tyF,MM,bu0,cbP9,f14,f13,f12,f7,f1,m22]
theorem iEffect (p:Puzz) (w:List Int) (hp:genOk p.n p.mv) (hw:wordOk p.mv.length w):SpecAt Try.prog 121 [p.sl,isl w] (itr (effK p.n p.mv w w.length)):=by
  obtain ⟨pn,nm,mv⟩:=p
  have hn:=hp.1
  simp only at hn
  obtain ⟨n,rfl⟩:∃ n:Nat,pn=n:=⟨pn.toNat,by omega⟩
  have h1:=iEvaluate n mv w hp hw
  refine spec_of_awp (M:=MM) (np:=2) (fz:=false) mixed Try.func121 rfl rfl (by decide) rfl (Nat.le_refl _) (by decide +kernel) (.inl rfl) (by first | trivial | simp only [sigsOk_nil,sigsOk_some,sigsOk_none,sig_tr,sig_pt,sig_mt,sig_agg,List.map_cons,List.map_nil,sig1_tr,sig1_pt,sig1_v,and_self,true_and,List.length_map,List.length_set]) ?_
  simp -dsimp -implicitDefEqProofs (disch:=first | omega | (simp only [lenr];try omega)) only [↓amPre,amAll,↓reduceIte,reduceCtorEq,Nat.reduceEqDiff,Nat.reduceBEq,Nat.reduceAdd,Nat.reduceLeDiff,Nat.reduceSub,Nat.reduceMul,Int.reduceToNat,List.size_toArray,tyF,MM,bu0,cbP9]
  refine callP_of (h1) ?_
  simp -dsimp -implicitDefEqProofs (disch:=first | omega | (simp only [lenr];try omega)) only [↓amPre,amAll,↓reduceIte,reduceCtorEq,Nat.reduceEqDiff,Nat.reduceBEq,Nat.reduceAdd,Nat.reduceLeDiff,Nat.reduceSub,Nat.reduceMul,Int.reduceToNat,List.size_toArray,tyF,MM,bu0,cbP9]
end Go.AM
set_option maxRecDepth 8000
namespace Go.AM
open Go.Proofs
def supR (p:Puzz) (w:List Int):List Int:=if puzzOk p∧wordOk p.mv.length w then movL (effK p.n p.mv w w.length) p.n.toNat else []
end Go.AM
