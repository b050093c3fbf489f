/-
  CONTRACTS of functions of the program,and what they compute,by content.
-/
import Derived.Test.YtenlmhbkigfjeaaCB0
import Derived.Test.YtenlmhbkigfjeaaM2Tool
import Derived.Test.YtenlmhbkigfjeaaM2SD
set_option linter.unusedVariables false
set_option linter.unusedSimpArgs false
set_option maxRecDepth 8000
namespace Go.AM
open Go.Proofs
def canScr (p:Puzz) (x c:Int):Prop:=puzzOk p∧within x 0 2147483646=true∧within c 0 200=true
instance (p:Puzz) (x c:Int):Decidable (canScr p x c):=by unfold canScr;infer_instance
def scrR (p:Puzz) (x c:Int):List Int:=if canScr p x c then scrW p.mv.length x c.toNat else []
theorem scrR_len (p:Puzz) (x c:Int):(scrR p x c).length≤200:=by
  unfold scrR
  split
  · rename_i h
    rw [scrW_len]
    have:=within_iff.1 h.2.2
    omega
  · simp
theorem isSeedI (x:Int):SpecAt Try.prog 134 [.i64 x] (.bl (within x 0 2147483646)):=by
  refine spec_of_awp (M:=MM) (np:=1) (fz:=true) mixed Try.func134 rfl rfl (by decide) rfl (Nat.le_refl _) (by decide +kernel) (.inr ⟨rfl,rfl⟩) trivial ?_
  simp -dsimp -implicitDefEqProofs (disch:=first | omega | (simp only [lenr];try omega)) only [↓amPre,amAll,↓reduceIte,reduceCtorEq,Nat.reduceEqDiff,Nat.reduceBEq,Nat.reduceAdd,Nat.reduceLeDiff,Nat.reduceSub,Nat.reduceMul,Int.reduceToNat,List.size_toArray,tyF,MM,bu0,cbP9]
  refine callP_of (iwithin _ _ _) ?_
  simp -dsimp -implicitDefEqProofs (disch:=first | omega | (simp only [lenr];try omega)) only [↓amPre,amAll,↓reduceIte,reduceCtorEq,Nat.reduceEqDiff,Nat.reduceBEq,Nat.reduceAdd,Nat.reduceLeDiff,Nat.reduceSub,Nat.reduceMul,Int.reduceToNat,List.size_toArray,tyF,MM,bu0,cbP9]
theorem isSeedS (x:Int):SpecAt Try.prog 141 [.i64 x] (.bl (within x 0 2147483646)):=by
  refine spec_of_awp (M:=MM) (np:=1) (fz:=true) mixed Try.func141 rfl rfl (by decide) rfl (Nat.le_refl _) (by decide +kernel) (.inr ⟨rfl,rfl⟩) trivial ?_
  simp -dsimp -implicitDefEqProofs (disch:=first | omega | (simp only [lenr];try omega)) only [↓amPre,amAll,↓reduceIte,reduceCtorEq,Nat.reduceEqDiff,Nat.reduceBEq,Nat.reduceAdd,Nat.reduceLeDiff,Nat.reduceSub,Nat.reduceMul,Int.reduceToNat,List.size_toArray,tyF,MM,bu0,cbP9]
  refine callP_of (inRange _ _ _) ?_
  simp -dsimp -implicitDefEqProofs (disch:=first | omega | (simp only [lenr];try omega)) only [↓amPre,amAll,↓reduceIte,reduceCtorEq,Nat.reduceEqDiff,Nat.reduceBEq,Nat.reduceAdd,Nat.reduceLeDiff,Nat.reduceSub,Nat.reduceMul,Int.reduceToNat,List.size_toArray,tyF,MM,bu0,cbP9]
theorem isLenS (x:Int):SpecAt Try.prog 142 [.i64 x] (.bl (within x 0 200)):=by
  refine spec_of_awp (M:=MM) (np:=1) (fz:=true) mixed Try.func142 rfl rfl (by decide) rfl (Nat.le_refl _) (by decide +kernel) (.inr ⟨rfl,rfl⟩) trivial ?_
  simp -dsimp -implicitDefEqProofs (disch:=first | omega | (simp only [lenr];try omega)) only [↓amPre,amAll,↓reduceIte,reduceCtorEq,Nat.reduceEqDiff,Nat.reduceBEq,Nat.reduceAdd,Nat.reduceLeDiff,Nat.reduceSub,Nat.reduceMul,Int.reduceToNat,List.size_toArray,tyF,MM,bu0,cbP9]
  refine callP_of (inRange _ _ _) ?_
  simp -dsimp -implicitDefEqProofs (disch:=first | omega | (simp only [lenr];try omega)) only [↓amPre,amAll,↓reduceIte,reduceCtorEq,Nat.reduceEqDiff,Nat.reduceBEq,Nat.reduceAdd,Nat.reduceLeDiff,Nat.reduceSub,Nat.reduceMul,Int.reduceToNat,List.size_toArray,tyF,MM,bu0,cbP9]
theorem canScramble (p:Puzz) (x c:Int) (h:smallP p):SpecAt Try.prog 119 [p.sl,.i64 x,.i64 c] (.bl (decide (canScr p x c))):=by
  refine spec_of_awp (M:=MM) (np:=3) (fz:=true) mixed Try.func119 rfl rfl (by decide) rfl (Nat.le_refl _) (by decide +kernel) (.inr ⟨rfl,rfl⟩) trivial ?_
  simp -dsimp -implicitDefEqProofs (disch:=first | omega | (simp only [lenr];try omega)) only [↓amPre,amAll,↓reduceIte,reduceCtorEq,Nat.reduceEqDiff,Nat.reduceBEq,Nat.reduceAdd,Nat.reduceLeDiff,Nat.reduceSub,Nat.reduceMul,Int.reduceToNat,List.size_toArray,tyF,MM,bu0,cbP9]
  refine callP_of (iPuzzle p h) ?_
  by_cases c1:puzzOk p
  case neg =>
    simp -dsimp -implicitDefEqProofs (disch:=first | omega | (simp only [lenr];try omega)) only [↓amPre,amAll,↓reduceIte,reduceCtorEq,Nat.reduceEqDiff,Nat.reduceBEq,Nat.reduceAdd,Nat.reduceLeDiff,Nat.reduceSub,Nat.reduceMul,Int.reduceToNat,List.size_toArray,tyF,MM,bu0,cbP9,c1]
    simp [canScr,c1]
  simp -dsimp -implicitDefEqProofs (disch:=first | omega | (simp only [lenr];try omega)) only [↓amPre,amAll,↓reduceIte,reduceCtorEq,Nat.reduceEqDiff,Nat.reduceBEq,Nat.reduceAdd,Nat.reduceLeDiff,Nat.reduceSub,Nat.reduceMul,Int.reduceToNat,List.size_toArray,tyF,MM,bu0,cbP9,c1]
  refine callP_of (isSeedI x) ?_
  cases c2:within x 0 2147483646 with
  | false =>
    simp -dsimp -implicitDefEqProofs (disch:=first | omega | (simp only [lenr];try omega)) only [↓amPre,amAll,↓reduceIte,reduceCtorEq,Nat.reduceEqDiff,Nat.reduceBEq,Nat.reduceAdd,Nat.reduceLeDiff,Nat.reduceSub,Nat.reduceMul,Int.reduceToNat,List.size_toArray,tyF,MM,bu0,cbP9,c1]
    simp [canScr,c2]
  | true =>
    simp -dsimp -implicitDefEqProofs (disch:=first | omega | (simp only [lenr];try omega)) only [↓amPre,amAll,↓reduceIte,reduceCtorEq,Nat.reduceEqDiff,Nat.reduceBEq,Nat.reduceAdd,Nat.reduceLeDiff,Nat.reduceSub,Nat.reduceMul,Int.reduceToNat,List.size_toArray,tyF,MM,bu0,cbP9,c1]
    refine callP_of (iwithin _ _ _) ?_
    simp -dsimp -implicitDefEqProofs (disch:=first | omega | (simp only [lenr];try omega)) only [↓amPre,amAll,↓reduceIte,reduceCtorEq,Nat.reduceEqDiff,Nat.reduceBEq,Nat.reduceAdd,Nat.reduceLeDiff,Nat.reduceSub,Nat.reduceMul,Int.reduceToNat,List.size_toArray,tyF,MM,bu0,cbP9,c1]
    simp [canScr,c1,c2]
end Go.AM
set_option maxRecDepth 8000
namespace Go.AM
open Go.Proofs
def pwL (e:List Int) (k:Nat):List Int:=(List.range e.length).map fun x=>((itN (fOf e) k x:Nat):Int)
theorem pwL_len (e:List Int) (k:Nat):(pwL e k).length=e.length:=by simp [pwL]
theorem pwL_get (e:List Int) (k:Nat) {x:Nat} (h:x<e.length):(pwL e k).getD x 0=itN (fOf e) k x:=by rw [pwL,range_map_get _ _ _ _ h]
theorem pwL_succ {e:List Int} (he:isPerm e) (k:Nat):compI (pwL e k) e=pwL e (k+1):=by
  refine ext_getD 0 (by rw [compI_len,pwL_len,pwL_len]) fun x hx=>?_
  rw [compI_len,pwL_len] at hx
  rw [compI_get _ _ _ (by rw [pwL_len];exact hx),pwL_get e k hx,Int.toNat_natCast,p_it he hx,pwL_get e (k+1) hx]
theorem pw_fix (e:List Int) (k:Nat):movL (pwL e k) e.length=[]↔∀ x,x<e.length→itN (fOf e) k x=x:=by
  constructor
  · intro h x hx
    refine Classical.byContradiction fun hne=>?_
    have:(x:Int)∈movL (pwL e k) e.length:=mem_movL.2 ⟨x,hx,by rw [pwL_get e k hx];omega,rfl⟩
    rw [h] at this;cases this
  · intro h
    refine List.eq_nil_iff_forall_not_mem.2 fun y hy=>?_
    obtain ⟨x,h1,h2,_⟩:=mem_movL.1 hy
    rw [pwL_get e k h1,h x h1] at h2
    exact h2 rfl
theorem per_dvd {n:Nat} {f:Nat→Nat} (h:PermF n f) {x:Nat} (hx:x<n) (k:Nat):itN f k x=x↔perN n f x ∣ k:=by
  obtain ⟨h1,h2,h3,h4⟩:=h.per x hx
  have e:k % perN n f x+k / perN n f x*perN n f x=k:=by rw [Nat.mul_comm];exact Nat.mod_add_div k _
  have hm:=h.itmod x hx (k / perN n f x) (k % perN n f x)
  rw [e] at hm
  rw [hm]
  constructor
  · intro q
    by_cases h0:k % perN n f x=0
    · exact Nat.dvd_of_mod_eq_zero h0
    · exact absurd q (h4 _ (by omega) (Nat.mod_lt _ h1))
  · intro q
    rw [Nat.mod_eq_zero_of_dvd q];rfl
theorem per_orb {n:Nat} {f:Nat→Nat} (h:PermF n f) {z y:Nat} (hz:z<n) (hy:y∈orbN n f z) (k:Nat) (hk:itN f k z=z):itN f k y=y:=by
  obtain ⟨j,rfl⟩:=(h.mem_orb z hz y).1 hy
  rw [← itN_add,Nat.add_comm,itN_add,hk]
theorem all_dvd {e:List Int} (he:isPerm e) (k:Nat):(∀ x,x<e.length→itN (fOf e) k x=x)↔∀ l∈longC (cycI e),l.length ∣ k:=by
  have hf:=permF_of he
  constructor
  · intro h l hl
    obtain ⟨h1,_⟩:=List.mem_filter.1 hl
    obtain ⟨z,h2,rfl⟩:=List.mem_map.1 h1
    have hz:=List.mem_range.1 (List.mem_filter.1 h2).1
    rw [orbI_len]
    exact (per_dvd hf hz k).1 (h z hz)
  · intro h x hx
    obtain ⟨z,h1,h2,h3⟩:=hf.minrep x hx
    have hz:z<e.length:=by omega
    refine per_orb hf hz h3 k ((per_dvd hf hz k).2 ?_)
    by_cases hp:1<perN e.length (fOf e) z
    · have:=h (orbI e z) (List.mem_filter.2 ⟨List.mem_map.2 ⟨z,List.mem_filter.2 ⟨List.mem_range.2 hz,h2⟩,rfl⟩,by rw [orbI_len];simpa using hp⟩)
      rwa [orbI_len] at this
    · have:=(hf.per z hz).1
      rw [show perN e.length (fOf e) z=1 by omega];exact Nat.one_dvd k
def lcmK (L:List (List Int)):Nat→Nat
  | 0=>1
  | j+1=>Nat.lcm (lcmK L j) (L.getD j default).length
theorem lcm_dvd_all (L:List (List Int)) (k:Nat):∀ j,j≤L.length→(lcmK L j ∣ k↔∀ i,i<j→(L.getD i default).length ∣ k)
  | 0,_=>by simp [lcmK]
  | j+1,hj=>by
    rw [lcmK,Nat.lcm_dvd_iff,lcm_dvd_all L k j (by omega)]
    constructor
    · rintro ⟨h1,h2⟩ i hi
      by_cases e:i=j
      · subst e;exact h2
      · exact h1 i (by omega)
    · intro h;exact ⟨fun i hi=>h i (by omega),h j (by omega)⟩
theorem dvd_big:∀ l,l<21→0<l→l ∣ 232792560:=by decide
theorem lcm_big (L:List (List Int)) (h:∀ l∈L,1≤l.length∧l.length≤20) (j:Nat) (hj:j≤L.length):lcmK L j ∣ 232792560:=(lcm_dvd_all L _ j hj).2 fun i hi=>by
  have:=h _ (mem_getD L i default (by omega))
  exact dvd_big _ (by omega) (by omega)
theorem lcm_rng (L:List (List Int)) (h:∀ l∈L,1≤l.length∧l.length≤20) (j:Nat) (hj:j≤L.length):1≤lcmK L j∧lcmK L j≤232792560:=by
  have h1:=lcm_big L h j hj
  have h2:=Nat.le_of_dvd (by decide) h1
  have h3:=Nat.pos_of_dvd_of_pos h1 (by decide)
  omega
def ordE (e:List Int):Nat:=lcmK (longC (cycI e)) (longC (cycI e)).length
theorem long_rng {e:List Int} (he:isPerm e):∀ l∈longC (cycI e),1≤l.length∧l.length≤20:=fun l hl=>by
  have:=(cyc_facts he).2.1 l (List.mem_filter.1 hl).1
  have:=he.1.2;omega
theorem ord_rng {e:List Int} (he:isPerm e):1≤ordE e∧ordE e≤232792560:=lcm_rng _ (long_rng he) _ (Nat.le_refl _)
theorem ord_spec {e:List Int} (he:isPerm e) (k:Nat):movL (pwL e k) e.length=[]↔ordE e ∣ k:=by
  rw [pw_fix,all_dvd he,ordE,lcm_dvd_all _ _ _ (Nat.le_refl _)]
  constructor
  · intro h i hi;exact h _ (mem_getD _ i default hi)
  · intro h l hl
    obtain ⟨i,hi,rfl⟩:=List.getElem_of_mem hl
    have:=h i hi
    rwa [getD_eq _ _ _ hi] at this
theorem ord_end {e:List Int} (he:isPerm e):movL (pwL e (ordE e)) e.length=[]:=(ord_spec he _).2 (Nat.dvd_refl _)
def spK (e:List Int):Nat→Nat×Nat
  | 0=>(0,0)
  | j+1=>if (spK e j).1=0∨(movL (pwL e (j+1)) e.length).length<(spK e j).2 then (j+1,(movL (pwL e (j+1)) e.length).length) else spK e j
end Go.AM
set_option maxRecDepth 8000
namespace Go.AM
open Go.Proofs
def treeGcd:OT:=(.alt 0 (.alt 1 (.alt 2 (.alt 3 (.alt 4 (.alt 5 .done .stop) .stop) (.alt 4 (.alt 3 (.alt 5 .done .stop) .stop) .stop)) (.alt 4 (.alt 2 (.alt 3 (.alt 5 .done .stop) .stop) .stop) .stop)) (.alt 2 (.alt 1 (.alt 3 (.alt 4 (.alt 5 .done .stop) .stop) (.alt 4 (.alt 3 (.alt 5 .done .stop) .stop) .stop)) .stop) .stop)) (.alt 1 (.alt 0 (.alt 2 (.alt 3 (.alt 4 (.alt 5 .done .stop) .stop) (.alt 4 (.alt 3 (.alt 5 .done .stop) .stop) .stop)) (.alt 4 (.alt 2 (.alt 3 (.alt 5 .done .stop) .stop) .stop) .stop)) (.alt 2 (.alt 0 (.alt 3 (.alt 4 (.alt 5 .done .stop) .stop) (.alt 4 (.alt 3 (.alt 5 .done .stop) .stop) .stop)) (.alt 3 (.alt 0 (.alt 4 (.alt 5 .done .stop) .stop) .stop) .stop)) .stop)) (.alt 2 (.alt 0 (.alt 1 (.alt 3 (.alt 4 (.alt 5 .done .stop) .stop) (.alt 4 (.alt 3 (.alt 5 .done .stop) .stop) .stop)) .stop) (.alt 1 (.alt 0 (.alt 3 (.alt 4 (.alt 5 .done .stop) .stop) (.alt 4 (.alt 3 (.alt 5 .done .stop) .stop) .stop)) (.alt 3 (.alt 0 (.alt 4 (.alt 5 .done .stop) .stop) .stop) .stop)) .stop)) .stop)))
def gcK (a b:Nat):Nat→Nat×Nat
  | 0=>(a,b)
  | k+1=>((gcK a b k).2,(gcK a b k).1 % (gcK a b k).2)
end Go.AM
set_option maxRecDepth 8000
namespace Go.AM
open Go.Proofs
theorem cp_comp (p q:List Int):cpL p q p.length=compI p q:=by
  refine ext_getD 0 (by rw [cpL_len,compI_len]) fun i hi=>?_
  rw [cpL_len] at hi
  rw [cpL,range_map_get _ _ _ _ hi,compI_get _ _ _ hi]
def spR (p:Puzz) (w:List Int):Nat×Nat:=if puzzOk p∧wordOk p.mv.length w then spK (effK p.n p.mv w w.length) (ordE (effK p.n p.mv w w.length) - 1) else (0,0)
abbrev spA (x:Nat×Nat):AV:=.tup [.i64 x.1,.i64 x.2]
end Go.AM
set_option maxRecDepth 8000
namespace Go.AM
open Go.Proofs
def consM (m:Model) (i:Invar):Prop:=modelOk m∧∀ s∈m.mv,invV m.ks s i=0
instance (m:Model) (i:Invar):Decidable (consM m i):=by unfold consM;infer_instance
def trivK (ks:List Kind) (set:Int):Nat→Bool
  | 0=>true
  | k+1=>trivK ks set k && !(bitK set k && decide (1<(ks.getD k default).c))
def trivI (ks:List Kind) (i:Invar):Bool:=if i.k=1 then decide ((ks.getD i.s.toNat default).o=1) else trivK ks i.s ks.length
end Go.AM
set_option maxRecDepth 8000
namespace Go.AM
open Go.Proofs
def keepI (m:Model) (i:Invar):Bool:=!trivI m.ks i && decide (consM m i)
def allI (ks:List Kind):List Invar:=twL ks.length++paL (2 ^ ks.length - 1)
def consL (m:Model):List Invar:=(allI m.ks).filter (keepI m)
def consR (m:Model):List Invar:=if modelOk m then consL m else []
end Go.AM
set_option maxRecDepth 8000
namespace Go.AM
open Go.Proofs
def vioO (m:Model) (s:List Twist):Option Invar:=if psOk m.ks s then (consR m).find? (fun i=>invV m.ks s i != 0) else none
def vioR (o:Option Invar):AV:=match o with | some i=>.tup [i.av,.bl true] | none=>.tup [(⟨0,0⟩:Invar).av,.bl false]
end Go.AM
set_option maxRecDepth 8000
namespace Go.AM
open Go.Proofs
theorem sEqualInts (a b:List Int) (ha:a.length≤1099511627776):SpecAt Try.prog 131 [isl a,isl b] (.bl (decide (a=b))):=by
  refine spec_of_awp (M:=MM) (np:=2) (fz:=true) mixed Try.func131 rfl rfl (by decide) rfl (Nat.le_refl _) (by decide +kernel) (.inr ⟨rfl,rfl⟩) trivial ?_
  simp -dsimp -implicitDefEqProofs (disch:=first | omega | (simp only [lenr];try omega)) only [↓amPre,amAll,↓reduceIte,reduceCtorEq,Nat.reduceEqDiff,Nat.reduceBEq,Nat.reduceAdd,Nat.reduceLeDiff,Nat.reduceSub,Nat.reduceMul,Int.reduceToNat,List.size_toArray,tyF,MM,bu0,cbP6]
  refine ifP_mk ?_ ?_ <;> intro h1
  · simp -dsimp -implicitDefEqProofs (disch:=first | omega | (simp only [lenr];try omega)) only [↓amPre,amAll,↓reduceIte,reduceCtorEq,Nat.reduceEqDiff,Nat.reduceBEq,Nat.reduceAdd,Nat.reduceLeDiff,Nat.reduceSub,Nat.reduceMul,Int.reduceToNat,List.size_toArray,tyF,MM,bu0,cbP6,h1]
    have:¬ a=b:=by intro e;subst e;simp at h1
    simp [this]
  simp -dsimp -implicitDefEqProofs (disch:=first | omega | (simp only [lenr];try omega)) only [↓amPre,amAll,↓reduceIte,reduceCtorEq,Nat.reduceEqDiff,Nat.reduceBEq,Nat.reduceAdd,Nat.reduceLeDiff,Nat.reduceSub,Nat.reduceMul,Int.reduceToNat,List.size_toArray,tyF,MM,bu0,cbP6,h1]
  have hab:a.length=b.length:=by simp at h1;omega
  refine awp_loop (fun k st=>k≤a.length∧st.fr 5=.i64 k∧st.fr 0=isl a∧st.fr 1=isl b∧a.take k=b.take k) (a.length) ?_ ?_
  · simp -dsimp -implicitDefEqProofs (disch:=first | omega | (simp only [lenr];try omega)) only [↓amPre,amAll,↓reduceIte,reduceCtorEq,Nat.reduceEqDiff,Nat.reduceBEq,Nat.reduceAdd,Nat.reduceLeDiff,Nat.reduceSub,Nat.reduceMul,Int.reduceToNat,List.size_toArray,tyF,MM,bu0,cbP6]
    repeat' (first | omega | rfl | exact i64c (by omega) | exact vic (by omega) | apply And.intro)
  rintro k st _ ⟨hk,f5,f0,f1,ek⟩
  by_cases hlt:k<a.length
  · simp -dsimp -implicitDefEqProofs (disch:=first | omega | (simp only [lenr];try omega)) only [↓amPre,amAll,↓reduceIte,reduceCtorEq,Nat.reduceEqDiff,Nat.reduceBEq,Nat.reduceAdd,Nat.reduceLeDiff,Nat.reduceSub,Nat.reduceMul,Int.reduceToNat,List.size_toArray,tyF,MM,bu0,cbP6,f5,f0,f1]
    refine ifP_mk ?_ ?_ <;> intro w1
    · simp -dsimp -implicitDefEqProofs (disch:=first | omega | (simp only [lenr];try omega)) only [↓amPre,amAll,↓reduceIte,reduceCtorEq,Nat.reduceEqDiff,Nat.reduceBEq,Nat.reduceAdd,Nat.reduceLeDiff,Nat.reduceSub,Nat.reduceMul,Int.reduceToNat,List.size_toArray,tyF,MM,bu0,cbP6,f5,f0,f1,w1]
      have hne:¬ a=b:=by
        intro e;subst e;simp at w1
      simp [hne]
    · simp -dsimp -implicitDefEqProofs (disch:=first | omega | (simp only [lenr];try omega)) only [↓amPre,amAll,↓reduceIte,reduceCtorEq,Nat.reduceEqDiff,Nat.reduceBEq,Nat.reduceAdd,Nat.reduceLeDiff,Nat.reduceSub,Nat.reduceMul,Int.reduceToNat,List.size_toArray,tyF,MM,bu0,cbP6,f5,f0,f1,w1]
      simp only [bne_eq_false_iff_eq] at w1
      repeat' (first | omega | rfl | exact i64c (by omega) | exact vic (by omega) | exact (take_eq_iff 0 k hlt (by omega)).2 ⟨ek,w1⟩ | apply And.intro)
  · have hke:k=a.length:=by omega
    subst hke
    simp -dsimp -implicitDefEqProofs (disch:=first | omega | (simp only [lenr];try omega)) only [↓amPre,amAll,↓reduceIte,reduceCtorEq,Nat.reduceEqDiff,Nat.reduceBEq,Nat.reduceAdd,Nat.reduceLeDiff,Nat.reduceSub,Nat.reduceMul,Int.reduceToNat,List.size_toArray,tyF,MM,bu0,cbP6,f5,f0,f1]
    simp [eq_of_takes hab ek]
end Go.AM
set_option maxRecDepth 8000
namespace Go.AM
open Go.Proofs
theorem sLetter (n:Int) (mv:List (List Int)) (x:Int) (hp:genOk n mv) (hx:letOk mv.length x):SpecAt Try.prog 188 [ssl mv,.i64 x] (isl (letP mv x))∨SpecAt Try.prog 188 [ssl mv,.i64 x] (itr (letP mv x)):=by
  have hlx:letP mv x=_:=rfl
  conv at hlx=>rhs;rw [letP]
  unfold letOk at hx
  have hm8:=hp.2.1
  by_cases c0:0<x
  · obtain ⟨m,hm1⟩:∃ m:Nat,x - 1=m:=⟨_,(Int.toNat_of_nonneg (by omega)).symm⟩
    rw [if_pos c0,hm1,Int.toNat_natCast] at hlx
    have hmlt:m<mv.length:=by omega
    have c1:0≤x:=by omega
    rw [hlx]
    left
    refine spec_of_awp (M:=MM) (np:=2) (fz:=true) mixed Try.func188 rfl rfl (by decide) rfl (Nat.le_refl _) (by decide +kernel) (.inr ⟨rfl,rfl⟩) trivial ?_
    simp -dsimp -implicitDefEqProofs (disch:=first | omega | (simp only [lenr];try omega)) only [↓amPre,amAll,↓reduceIte,reduceCtorEq,Nat.reduceEqDiff,Nat.reduceBEq,Nat.reduceAdd,Nat.reduceLeDiff,Nat.reduceSub,Nat.reduceMul,Int.reduceToNat,List.size_toArray,tyF,MM,bu0,cbP9,lt_false c1,hm1]
  · obtain ⟨m,hm1⟩:∃ m:Nat,-x - 1=m:=⟨_,(Int.toNat_of_nonneg (by omega)).symm⟩
    rw [if_neg c0,hm1,Int.toNat_natCast] at hlx
    have hmlt:m<mv.length:=by omega
    have hw:IntKind.i64.wrap (0 - x)=0 - x:=wrap64_id (by omega)
    have hm2:0 - x - 1=m:=by omega
    have c1:x<0:=by omega
    have hq:=hp.2.2 _ (mem_getD mv m default hmlt)
    rw [hlx]
    generalize hM:mv.getD m default=M at hq
    have hM20:=hq.2.1.2
    have hv:=sinverse M hq.2
    rw [ivL_invI] at hv
    right
    refine spec_of_awp (M:=MM) (np:=2) (fz:=false) mixed Try.func188 rfl rfl (by decide) rfl (Nat.le_refl _) (by decide +kernel) (.inl rfl) (by first | trivial | simp only [sigsOk_nil,sigsOk_some,sigsOk_none,sig_tr,sig_pt,sig_mt,sig_agg,List.map_cons,List.map_nil,sig1_tr,sig1_pt,sig1_v,and_self,true_and,List.length_map,List.length_set]) ?_
    simp -dsimp -implicitDefEqProofs (disch:=first | omega | (simp only [lenr];try omega)) only [↓amPre,amAll,↓reduceIte,reduceCtorEq,Nat.reduceEqDiff,Nat.reduceBEq,Nat.reduceAdd,Nat.reduceLeDiff,Nat.reduceSub,Nat.reduceMul,Int.reduceToNat,List.size_toArray,tyF,MM,bu0,cbP9,lt_true c1,hw,hm2,hM]
    refine callP_of (hv) ?_
    simp -dsimp -implicitDefEqProofs (disch:=first | omega | (simp only [lenr];try omega)) only [↓amPre,amAll,↓reduceIte,reduceCtorEq,Nat.reduceEqDiff,Nat.reduceBEq,Nat.reduceAdd,Nat.reduceLeDiff,Nat.reduceSub,Nat.reduceMul,Int.reduceToNat,List.size_toArray,tyF,MM,bu0,cbP9,hM]
theorem sEvaluate (n:Nat) (mv:List (List Int)) (w:List Int) (hp:genOk n mv) (hw:wordOk mv.length w):SpecAt Try.prog 104 [.i64 n,ssl mv,isl w] (itr (effK n mv w w.length)):=by
  have hn:=hp.1
  have h1:=sIdentity n (by omega)
  have hw2:=hw.1
  have hr:=runI_len 0 n
  refine spec_of_awp (M:=MM) (np:=3) (fz:=false) mixed Try.func104 rfl rfl (by decide) rfl (Nat.le_refl _) (by decide +kernel) (.inl rfl) (by first | trivial | simp only [sigsOk_nil,sigsOk_some,sigsOk_none,sig_tr,sig_pt,sig_mt,sig_agg,List.map_cons,List.map_nil,sig1_tr,sig1_pt,sig1_v,and_self,true_and,List.length_map,List.length_set]) ?_
  simp -dsimp -implicitDefEqProofs (disch:=first | omega | (simp only [lenr];try omega)) only [↓amPre,amAll,↓reduceIte,reduceCtorEq,Nat.reduceEqDiff,Nat.reduceBEq,Nat.reduceAdd,Nat.reduceLeDiff,Nat.reduceSub,Nat.reduceMul,Int.reduceToNat,List.size_toArray,tyF,MM,bu0,cbP9]
  refine callP_of (h1) ?_
  simp -dsimp -implicitDefEqProofs (disch:=first | omega | (simp only [lenr];try omega)) only [↓amPre,amAll,↓reduceIte,reduceCtorEq,Nat.reduceEqDiff,Nat.reduceBEq,Nat.reduceAdd,Nat.reduceLeDiff,Nat.reduceSub,Nat.reduceMul,Int.reduceToNat,List.size_toArray,tyF,MM,bu0,cbP9,hr]
  refine awp_loopR 10 24 (itr (runI 0 n)) (by simp -dsimp -implicitDefEqProofs (disch:=first | omega | (simp only [lenr];try omega)) only [↓amPre,amAll,↓reduceIte,reduceCtorEq,Nat.reduceEqDiff,Nat.reduceBEq,Nat.reduceAdd,Nat.reduceLeDiff,Nat.reduceSub,Nat.reduceMul,Int.reduceToNat,List.size_toArray,tyF,MM,bu0,cbP9]) (by decide) (by decide) (by decide) (fun k st=>k≤w.length∧st.fr 8=.i64 k∧st.fr 7=.ref 24 [] 1 0 (effK n mv w k).length∧st.fr 1=ssl mv∧st.fr 2=isl w∧st.mem 24=some (itr (effK n mv w k))) (w.length) ?_ ?_
  · simp -dsimp -implicitDefEqProofs (disch:=first | omega | (simp only [lenr];try omega)) only [↓amPre,amAll,↓reduceIte,reduceCtorEq,Nat.reduceEqDiff,Nat.reduceBEq,Nat.reduceAdd,Nat.reduceLeDiff,Nat.reduceSub,Nat.reduceMul,Int.reduceToNat,List.size_toArray,tyF,MM,bu0,cbP9,ren_eq,effK]
    exact ⟨Nat.zero_le _,rfl,by simp [runI_len]⟩
  rintro k st _ ⟨hk,f8,f7,f1,f2,m24⟩
  have hk1:=effK_ok hp hw k hk
  have hef:effK n mv w (k+1)=compI (effK n mv w k) (letP mv (w.getD k 0)):=rfl
  by_cases hlt:k<w.length
  · have hx:=hw.2 _ (mem_getD w k 0 hlt)
    have hlo:=letP_ok hp hx
    have hl:(effK n mv w (k+1)).length=(effK n mv w k).length:=by rw [hef,compI_len]
    have hl20:=hk1.2.1.2
    have hq:=scompose (effK n mv w k) (letP mv (w.getD k 0)) (by omega) (fun y hy=>by have:=hk1.2.2.1 y hy;have:=hk1.1;have:=hlo.1;omega)
    rw [cp_comp,← hef] at hq
    rcases sLetter n mv (w.getD k 0) hp hx with ha | ha
    · simp -dsimp -implicitDefEqProofs (disch:=first | omega | (simp only [lenr];try omega)) only [↓amPre,amAll,↓reduceIte,reduceCtorEq,Nat.reduceEqDiff,Nat.reduceBEq,Nat.reduceAdd,Nat.reduceLeDiff,Nat.reduceSub,Nat.reduceMul,Int.reduceToNat,List.size_toArray,tyF,MM,bu0,cbP9,f8,f7,f1,f2,m24]
      refine callP_of (ha) ?_
      simp -dsimp -implicitDefEqProofs (disch:=first | omega | (simp only [lenr];try omega)) only [↓amPre,amAll,↓reduceIte,reduceCtorEq,Nat.reduceEqDiff,Nat.reduceBEq,Nat.reduceAdd,Nat.reduceLeDiff,Nat.reduceSub,Nat.reduceMul,Int.reduceToNat,List.size_toArray,tyF,MM,bu0,cbP9,f8,f7,f1,f2,m24]
      refine callP_of (hq) ?_
      simp -dsimp -implicitDefEqProofs (disch:=first | omega | (simp only [lenr];try omega)) only [↓amPre,amAll,↓reduceIte,reduceCtorEq,Nat.reduceEqDiff,Nat.reduceBEq,Nat.reduceAdd,Nat.reduceLeDiff,Nat.reduceSub,Nat.reduceMul,Int.reduceToNat,List.size_toArray,tyF,MM,bu0,cbP9,f8,f7,f1,f2,m24,hl]
      repeat' (first | omega | rfl | exact i64c (by omega) | exact vic (by omega) | apply And.intro)
    · simp -dsimp -implicitDefEqProofs (disch:=first | omega | (simp only [lenr];try omega)) only [↓amPre,amAll,↓reduceIte,reduceCtorEq,Nat.reduceEqDiff,Nat.reduceBEq,Nat.reduceAdd,Nat.reduceLeDiff,Nat.reduceSub,Nat.reduceMul,Int.reduceToNat,List.size_toArray,tyF,MM,bu0,cbP9,f8,f7,f1,f2,m24]
      refine callP_of (ha) ?_
      simp -dsimp -implicitDefEqProofs (disch:=first | omega | (simp only [lenr];try omega)) only [↓amPre,amAll,↓reduceIte,reduceCtorEq,Nat.reduceEqDiff,Nat.reduceBEq,Nat.reduceAdd,Nat.reduceLeDiff,Nat.reduceSub,Nat.reduceMul,Int.reduceToNat,List.size_toArray,tyF,MM,bu0,cbP9,f8,f7,f1,f2,m24]
      refine callP_of (hq) ?_
      simp -dsimp -implicitDefEqProofs (disch:=first | omega | (simp only [lenr];try omega)) only [↓amPre,amAll,↓reduceIte,reduceCtorEq,Nat.reduceEqDiff,Nat.reduceBEq,Nat.reduceAdd,Nat.reduceLeDiff,Nat.reduceSub,Nat.reduceMul,Int.reduceToNat,List.size_toArray,tyF,MM,bu0,cbP9,f8,f7,f1,f2,m24,hl]
      repeat' (first | omega | rfl | exact i64c (by omega) | exact vic (by omega) | apply And.intro)
  · have hke:k=w.length:=by omega
    subst hke
    simp -dsimp -implicitDefEqProofs (disch:=first | omega | (simp only [lenr];try omega)) only [↓amPre,amAll,↓reduceIte,reduceCtorEq,Nat.reduceEqDiff,Nat.reduceBEq,Nat.reduceAdd,Nat.reduceLeDiff,Nat.reduceSub,Nat.reduceMul,Int.reduceToNat,List.size_toArray,tyF,MM,bu0,cbP9,f8,f7,f1,f2,m24]
def pwK (p:List Int) (k i:Nat):List Int:=(List.range i).map fun x=>((itN (fOf p) k x:Nat):Int)
theorem sPermOf (n:Nat) (s:List Int) (hs:moveOk n s):SpecAt Try.prog 187 [.i64 n,isl s] (.bl true):=by
  have h20:=hs.2.1.2
  have q1:=sIsPerm s (by omega)
  rw [decide_eq_true hs.2] at q1
  have hl:=hs.1
  refine spec_of_awp (M:=MM) (np:=2) (fz:=true) mixed Try.func187 rfl rfl (by decide) rfl (Nat.le_refl _) (by decide +kernel) (.inr ⟨rfl,rfl⟩) trivial ?_
  simp -dsimp -implicitDefEqProofs (disch:=first | omega | (simp only [lenr];try omega)) only [↓amPre,amAll,↓reduceIte,reduceCtorEq,Nat.reduceEqDiff,Nat.reduceBEq,Nat.reduceAdd,Nat.reduceLeDiff,Nat.reduceSub,Nat.reduceMul,Int.reduceToNat,List.size_toArray,tyF,MM,bu0,cbP9,hl]
  refine callP_of (q1) ?_
  simp -dsimp -implicitDefEqProofs (disch:=first | omega | (simp only [lenr];try omega)) only [↓amPre,amAll,↓reduceIte,reduceCtorEq,Nat.reduceEqDiff,Nat.reduceBEq,Nat.reduceAdd,Nat.reduceLeDiff,Nat.reduceSub,Nat.reduceMul,Int.reduceToNat,List.size_toArray,tyF,MM,bu0,cbP9]
end Go.AM
set_option maxRecDepth 8000
namespace Go.AM
open Go.Proofs
theorem comp_id {n:Nat} {s:List Int} (hs:isPerm s) (hl:s.length=n):compI (runI 0 n) s=s:=by
  refine ext_getD 0 (by rw [compI_len,runI_len,hl]) fun i hi=>?_
  rw [compI_len,runI_len] at hi
  rw [compI_get _ _ _ (by rw [runI_len];exact hi),runI_get _ _ _ hi]
  congr 1;omega
theorem sIsState (p:Puzz) (s:List Int) (h:smallP p) (hp:puzzOk p) (hs:moveOk p.n s):SpecAt Try.prog 101 [p.sl,isl s] (.bl true):=by
  have q1:=sPuzzle p h
  rw [decide_eq_true hp] at q1
  obtain ⟨pn,nm,mv⟩:=p
  have hn:=hp.1.1
  simp only at hn hs ⊢
  obtain ⟨n,rfl⟩:∃ n:Nat,pn=n:=⟨pn.toNat,by omega⟩
  have q2:=sPermOf n s hs
  refine spec_of_awp (M:=MM) (np:=2) (fz:=true) mixed Try.func101 rfl rfl (by decide) rfl (Nat.le_refl _) (by decide +kernel) (.inr ⟨rfl,rfl⟩) trivial ?_
  simp -dsimp -implicitDefEqProofs (disch:=first | omega | (simp only [lenr];try omega)) only [↓amPre,amAll,↓reduceIte,reduceCtorEq,Nat.reduceEqDiff,Nat.reduceBEq,Nat.reduceAdd,Nat.reduceLeDiff,Nat.reduceSub,Nat.reduceMul,Int.reduceToNat,List.size_toArray,tyF,MM,bu0,cbP9]
  refine callP_of (q1) ?_
  simp -dsimp -implicitDefEqProofs (disch:=first | omega | (simp only [lenr];try omega)) only [↓amPre,amAll,↓reduceIte,reduceCtorEq,Nat.reduceEqDiff,Nat.reduceBEq,Nat.reduceAdd,Nat.reduceLeDiff,Nat.reduceSub,Nat.reduceMul,Int.reduceToNat,List.size_toArray,tyF,MM,bu0,cbP9]
  refine callP_of (q2) ?_
  simp -dsimp -implicitDefEqProofs (disch:=first | omega | (simp only [lenr];try omega)) only [↓amPre,amAll,↓reduceIte,reduceCtorEq,Nat.reduceEqDiff,Nat.reduceBEq,Nat.reduceAdd,Nat.reduceLeDiff,Nat.reduceSub,Nat.reduceMul,Int.reduceToNat,List.size_toArray,tyF,MM,bu0,cbP9]
theorem sApplyWord (p:Puzz) (s w:List Int) (h:smallP p) (hp:puzzOk p) (hs:moveOk p.n s) (hw:wordOk p.mv.length w) (hv:∀ x∈w,intOk x):SpecAt Try.prog 30 [p.sl,isl s,isl w] (.tup [itr (compI s (effK p.n p.mv w w.length)),.bl true]):=by
  have q1:=sIsState p s h hp hs
  have hw2:=hw.1
  have h20:=hs.2.1.2
  have hm8:=hp.1.2.1
  have q2:=sWordOf p.mv.length w (by unfold intOk;omega) (by omega) hv
  rw [decide_eq_true hw] at q2
  have hek:=effK_ok hp.1 hw w.length (Nat.le_refl _)
  obtain ⟨pn,nm,mv⟩:=p
  have hn:=hp.1.1
  simp only at hn hs hek hw q1 q2 ⊢
  obtain ⟨n,rfl⟩:∃ n:Nat,pn=n:=⟨pn.toNat,by omega⟩
  have q3:=sEvaluate n mv w hp.1 hw
  have q4:=scompose s (effK n mv w w.length) (by omega) (fun y hy=>by have:=hs.2.2.1 y hy;have:=hs.1;have:=hek.1;omega)
  rw [cp_comp] at q4
  generalize effK (n:Int) mv w w.length=X at q3 q4 hek
  generalize compI s X=Y at q4
  have hx:=hek.2.1.2
  refine spec_of_awp (M:=MM) (np:=3) (fz:=false) mixed Try.func30 rfl rfl (by decide) rfl (Nat.le_refl _) (by decide +kernel) (.inl rfl) (by first | trivial | simp only [sigsOk_nil,sigsOk_some,sigsOk_none,sig_tr,sig_pt,sig_mt,sig_agg,List.map_cons,List.map_nil,sig1_tr,sig1_pt,sig1_v,and_self,true_and,List.length_map,List.length_set]) ?_
  simp -dsimp -implicitDefEqProofs (disch:=first | omega | (simp only [lenr];try omega)) only [↓amPre,amAll,↓reduceIte,reduceCtorEq,Nat.reduceEqDiff,Nat.reduceBEq,Nat.reduceAdd,Nat.reduceLeDiff,Nat.reduceSub,Nat.reduceMul,Int.reduceToNat,List.size_toArray,tyF,MM,bu0,cbP9]
  refine callP_of (q1) ?_
  simp -dsimp -implicitDefEqProofs (disch:=first | omega | (simp only [lenr];try omega)) only [↓amPre,amAll,↓reduceIte,reduceCtorEq,Nat.reduceEqDiff,Nat.reduceBEq,Nat.reduceAdd,Nat.reduceLeDiff,Nat.reduceSub,Nat.reduceMul,Int.reduceToNat,List.size_toArray,tyF,MM,bu0,cbP9]
  refine callP_of (q2) ?_
  simp -dsimp -implicitDefEqProofs (disch:=first | omega | (simp only [lenr];try omega)) only [↓amPre,amAll,↓reduceIte,reduceCtorEq,Nat.reduceEqDiff,Nat.reduceBEq,Nat.reduceAdd,Nat.reduceLeDiff,Nat.reduceSub,Nat.reduceMul,Int.reduceToNat,List.size_toArray,tyF,MM,bu0,cbP9]
  refine callP_of (q3) ?_
  simp -dsimp -implicitDefEqProofs (disch:=first | omega | (simp only [lenr];try omega)) only [↓amPre,amAll,↓reduceIte,reduceCtorEq,Nat.reduceEqDiff,Nat.reduceBEq,Nat.reduceAdd,Nat.reduceLeDiff,Nat.reduceSub,Nat.reduceMul,Int.reduceToNat,List.size_toArray,tyF,MM,bu0,cbP9]
  refine callP_of (q4) ?_
  simp -dsimp -implicitDefEqProofs (disch:=first | omega | (simp only [lenr];try omega)) only [↓amPre,amAll,↓reduceIte,reduceCtorEq,Nat.reduceEqDiff,Nat.reduceBEq,Nat.reduceAdd,Nat.reduceLeDiff,Nat.reduceSub,Nat.reduceMul,Int.reduceToNat,List.size_toArray,tyF,MM,bu0,cbP9]
def scrS (p:Puzz) (x c:Int):List Int:=if canScr p x c then effK p.n p.mv (scrR p x c) (scrR p x c).length else []
theorem scrR_word {p:Puzz} {x c:Int} (h:canScr p x c):wordOk p.mv.length (scrR p x c)∧∀ y∈scrR p x c,intOk y:=by
  have hl:=scrR_len p x c
  obtain ⟨q1,q2,q3⟩:=h
  have hx:=within_iff.1 q2
  have hn:=puzz_nm q1
  have hr:scrR p x c=scrW p.mv.length x c.toNat:=if_pos ⟨q1,q2,q3⟩
  have hm:∀ y∈scrR p x c,y≠0∧-(p.mv.length:Int)≤y∧y≤p.mv.length:=fun y hy=>by
    rw [hr] at hy
    exact letL_mem.1 (scrW_mem hn.1 hx.1 (by omega) _ y hy)
  refine ⟨⟨hl,fun y hy=>?_⟩,fun y hy=>?_⟩
  · have:=hm y hy
    exact ⟨this.1,⟨by omega,by omega⟩,by omega,by omega⟩
  · have:=hm y hy
    unfold intOk;omega
theorem scrS_len (p:Puzz) (x c:Int):(scrS p x c).length≤20:=by
  unfold scrS
  split
  · rename_i h
    exact (effK_ok h.1.1 (scrR_word h).1 _ (Nat.le_refl _)).2.1.2
  · simp
theorem sScrambledState (p:Puzz) (x c:Int) (h:smallP p):SpecAt Try.prog 143 [p.sl,.i64 x,.i64 c] (.tup [itr (scrS p x c),.bl (decide (canScr p x c))]):=by
  have q0:=sPuzzle p h
  by_cases q1:puzzOk p
  case neg =>
    have hn:¬ canScr p x c:=fun q=>q1 q.1
    rw [decide_eq_false q1] at q0
    have hz:scrS p x c=[]:=if_neg hn
    rw [decide_eq_false hn,hz]
    refine spec_of_awp_any (M:=MM) (np:=3) (X:=[3]) (fz:=false) mixed Try.func143 rfl rfl (by decide) rfl (Nat.le_refl _) (by decide +kernel) (.inl rfl) (by first | trivial | simp only [sigsOk_nil,sigsOk_some,sigsOk_none,sig_tr,sig_pt,sig_mt,sig_agg,List.map_cons,List.map_nil,sig1_tr,sig1_pt,sig1_v,and_self,true_and,List.length_map,List.length_set]) ?_
    simp -dsimp -implicitDefEqProofs (disch:=first | omega | (simp only [lenr];try omega)) only [↓amPre,amAll,↓reduceIte,reduceCtorEq,Nat.reduceEqDiff,Nat.reduceBEq,Nat.reduceAdd,Nat.reduceLeDiff,Nat.reduceSub,Nat.reduceMul,Int.reduceToNat,List.size_toArray,tyF,MM,bu0,cbP9]
    refine callP_of (q0) ?_
    simp -dsimp -implicitDefEqProofs (disch:=first | omega | (simp only [lenr];try omega)) only [↓amPre,amAll,↓reduceIte,reduceCtorEq,Nat.reduceEqDiff,Nat.reduceBEq,Nat.reduceAdd,Nat.reduceLeDiff,Nat.reduceSub,Nat.reduceMul,Int.reduceToNat,List.size_toArray,tyF,MM,bu0,cbP9]
  rw [decide_eq_true q1] at q0
  cases q2:within x 0 2147483646 with
  | false =>
    have hn:¬ canScr p x c:=fun q=>by rw [q.2.1] at q2;cases q2
    have hz:scrS p x c=[]:=if_neg hn
    rw [decide_eq_false hn,hz]
    refine spec_of_awp_any (M:=MM) (np:=3) (X:=[3]) (fz:=false) mixed Try.func143 rfl rfl (by decide) rfl (Nat.le_refl _) (by decide +kernel) (.inl rfl) (by first | trivial | simp only [sigsOk_nil,sigsOk_some,sigsOk_none,sig_tr,sig_pt,sig_mt,sig_agg,List.map_cons,List.map_nil,sig1_tr,sig1_pt,sig1_v,and_self,true_and,List.length_map,List.length_set]) ?_
    simp -dsimp -implicitDefEqProofs (disch:=first | omega | (simp only [lenr];try omega)) only [↓amPre,amAll,↓reduceIte,reduceCtorEq,Nat.reduceEqDiff,Nat.reduceBEq,Nat.reduceAdd,Nat.reduceLeDiff,Nat.reduceSub,Nat.reduceMul,Int.reduceToNat,List.size_toArray,tyF,MM,bu0,cbP9]
    refine callP_of (q0) ?_
    simp -dsimp -implicitDefEqProofs (disch:=first | omega | (simp only [lenr];try omega)) only [↓amPre,amAll,↓reduceIte,reduceCtorEq,Nat.reduceEqDiff,Nat.reduceBEq,Nat.reduceAdd,Nat.reduceLeDiff,Nat.reduceSub,Nat.reduceMul,Int.reduceToNat,List.size_toArray,tyF,MM,bu0,cbP9]
    refine callP_of (isSeedS x) ?_
    simp -dsimp -implicitDefEqProofs (disch:=first | omega | (simp only [lenr];try omega)) only [↓amPre,amAll,↓reduceIte,reduceCtorEq,Nat.reduceEqDiff,Nat.reduceBEq,Nat.reduceAdd,Nat.reduceLeDiff,Nat.reduceSub,Nat.reduceMul,Int.reduceToNat,List.size_toArray,tyF,MM,bu0,cbP9,q2]
  | true =>
    cases q3:within c 0 200 with
    | false =>
      have hn:¬ canScr p x c:=fun q=>by rw [q.2.2] at q3;cases q3
      have hz:scrS p x c=[]:=if_neg hn
      rw [decide_eq_false hn,hz]
      refine spec_of_awp_any (M:=MM) (np:=3) (X:=[3]) (fz:=false) mixed Try.func143 rfl rfl (by decide) rfl (Nat.le_refl _) (by decide +kernel) (.inl rfl) (by first | trivial | simp only [sigsOk_nil,sigsOk_some,sigsOk_none,sig_tr,sig_pt,sig_mt,sig_agg,List.map_cons,List.map_nil,sig1_tr,sig1_pt,sig1_v,and_self,true_and,List.length_map,List.length_set]) ?_
      simp -dsimp -implicitDefEqProofs (disch:=first | omega | (simp only [lenr];try omega)) only [↓amPre,amAll,↓reduceIte,reduceCtorEq,Nat.reduceEqDiff,Nat.reduceBEq,Nat.reduceAdd,Nat.reduceLeDiff,Nat.reduceSub,Nat.reduceMul,Int.reduceToNat,List.size_toArray,tyF,MM,bu0,cbP9]
      refine callP_of (q0) ?_
      simp -dsimp -implicitDefEqProofs (disch:=first | omega | (simp only [lenr];try omega)) only [↓amPre,amAll,↓reduceIte,reduceCtorEq,Nat.reduceEqDiff,Nat.reduceBEq,Nat.reduceAdd,Nat.reduceLeDiff,Nat.reduceSub,Nat.reduceMul,Int.reduceToNat,List.size_toArray,tyF,MM,bu0,cbP9]
      refine callP_of (isSeedS x) ?_
      simp -dsimp -implicitDefEqProofs (disch:=first | omega | (simp only [lenr];try omega)) only [↓amPre,amAll,↓reduceIte,reduceCtorEq,Nat.reduceEqDiff,Nat.reduceBEq,Nat.reduceAdd,Nat.reduceLeDiff,Nat.reduceSub,Nat.reduceMul,Int.reduceToNat,List.size_toArray,tyF,MM,bu0,cbP9,q2]
      refine callP_of (isLenS c) ?_
      simp -dsimp -implicitDefEqProofs (disch:=first | omega | (simp only [lenr];try omega)) only [↓amPre,amAll,↓reduceIte,reduceCtorEq,Nat.reduceEqDiff,Nat.reduceBEq,Nat.reduceAdd,Nat.reduceLeDiff,Nat.reduceSub,Nat.reduceMul,Int.reduceToNat,List.size_toArray,tyF,MM,bu0,cbP9,q3]
    | true =>
      have hd:canScr p x c:=⟨q1,q2,q3⟩
      have hx:=within_iff.1 q2
      have hc:=within_iff.1 q3
      have hwd:=scrR_word hd
      have hrl:=scrR_len p x c
      have hz:scrS p x c=effK p.n p.mv (scrR p x c) (scrR p x c).length:=if_pos hd
      have hr:scrR p x c=scrW p.mv.length x c.toNat:=if_pos hd
      have hek:=effK_ok q1.1 hwd.1 (scrR p x c).length (Nat.le_refl _)
      rw [← hz] at hek
      obtain ⟨k,rfl⟩:∃ n:Nat,c=n:=⟨c.toNat,by omega⟩
      rw [Int.toNat_natCast] at hr
      have l1:=l24Word p x k (puzz_nm q1) hx.1 (by omega) (by omega)
      rw [← hr] at l1
      have hn:=q1.1.1
      have hid:moveOk p.n (runI 0 p.n.toNat):=⟨by rw [runI_len];omega,run_perm (by omega) (by omega)⟩
      have l2:=sApplyWord p (runI 0 p.n.toNat) (scrR p x k) h q1 hid hwd.1 hwd.2
      rw [← hz,comp_id hek.2 (by have:=hek.1;omega)] at l2
      rw [decide_eq_true hd]
      have l3:=sIdentity p.n.toNat (by omega)
      obtain ⟨pn,nm,mv⟩:=p
      simp only at hn l3 ⊢
      obtain ⟨n,rfl⟩:∃ n:Nat,pn=n:=⟨pn.toNat,by omega⟩
      simp only [Int.toNat_natCast] at l2 l3
      have hrn:=runI_len 0 n
      generalize scrR ⟨n,nm,mv⟩ x k=R at l1 l2 hrl
      generalize scrS ⟨n,nm,mv⟩ x k=S at l2
      refine spec_of_awp_any (M:=MM) (np:=3) (X:=[3]) (fz:=false) mixed Try.func143 rfl rfl (by decide) rfl (Nat.le_refl _) (by decide +kernel) (.inl rfl) (by first | trivial | simp only [sigsOk_nil,sigsOk_some,sigsOk_none,sig_tr,sig_pt,sig_mt,sig_agg,List.map_cons,List.map_nil,sig1_tr,sig1_pt,sig1_v,and_self,true_and,List.length_map,List.length_set]) ?_
      simp -dsimp -implicitDefEqProofs (disch:=first | omega | (simp only [lenr];try omega)) only [↓amPre,amAll,↓reduceIte,reduceCtorEq,Nat.reduceEqDiff,Nat.reduceBEq,Nat.reduceAdd,Nat.reduceLeDiff,Nat.reduceSub,Nat.reduceMul,Int.reduceToNat,List.size_toArray,tyF,MM,bu0,cbP9]
      refine callP_of (q0) ?_
      simp -dsimp -implicitDefEqProofs (disch:=first | omega | (simp only [lenr];try omega)) only [↓amPre,amAll,↓reduceIte,reduceCtorEq,Nat.reduceEqDiff,Nat.reduceBEq,Nat.reduceAdd,Nat.reduceLeDiff,Nat.reduceSub,Nat.reduceMul,Int.reduceToNat,List.size_toArray,tyF,MM,bu0,cbP9]
      refine callP_of (isSeedS x) ?_
      simp -dsimp -implicitDefEqProofs (disch:=first | omega | (simp only [lenr];try omega)) only [↓amPre,amAll,↓reduceIte,reduceCtorEq,Nat.reduceEqDiff,Nat.reduceBEq,Nat.reduceAdd,Nat.reduceLeDiff,Nat.reduceSub,Nat.reduceMul,Int.reduceToNat,List.size_toArray,tyF,MM,bu0,cbP9,q2]
      refine callP_of (isLenS k) ?_
      simp -dsimp -implicitDefEqProofs (disch:=first | omega | (simp only [lenr];try omega)) only [↓amPre,amAll,↓reduceIte,reduceCtorEq,Nat.reduceEqDiff,Nat.reduceBEq,Nat.reduceAdd,Nat.reduceLeDiff,Nat.reduceSub,Nat.reduceMul,Int.reduceToNat,List.size_toArray,tyF,MM,bu0,cbP9,q3]
      refine made_go 11 [[],[],[],[],[],[],[],[],[25,29],[],[]] (by decide +kernel) ?_
      simp -dsimp -implicitDefEqProofs (disch:=first | omega | (simp only [lenr];try omega)) only [↓amPre,amAll,↓reduceIte,reduceCtorEq,Nat.reduceEqDiff,Nat.reduceBEq,Nat.reduceAdd,Nat.reduceLeDiff,Nat.reduceSub,Nat.reduceMul,Int.reduceToNat,List.size_toArray,tyF,MM,bu0,cbP9]
      refine callP_of (l3) ?_
      simp -dsimp -implicitDefEqProofs (disch:=first | omega | (simp only [lenr];try omega)) only [↓amPre,amAll,↓reduceIte,reduceCtorEq,Nat.reduceEqDiff,Nat.reduceBEq,Nat.reduceAdd,Nat.reduceLeDiff,Nat.reduceSub,Nat.reduceMul,Int.reduceToNat,List.size_toArray,tyF,MM,bu0,cbP9,hrn]
      refine callP_of (l1) ?_
      simp -dsimp -implicitDefEqProofs (disch:=first | omega | (simp only [lenr];try omega)) only [↓amPre,amAll,↓reduceIte,reduceCtorEq,Nat.reduceEqDiff,Nat.reduceBEq,Nat.reduceAdd,Nat.reduceLeDiff,Nat.reduceSub,Nat.reduceMul,Int.reduceToNat,List.size_toArray,tyF,MM,bu0,cbP9,hrn]
      refine callP_of (l2) ?_
      simp -dsimp -implicitDefEqProofs (disch:=first | omega | (simp only [lenr];try omega)) only [↓amPre,amAll,↓reduceIte,reduceCtorEq,Nat.reduceEqDiff,Nat.reduceBEq,Nat.reduceAdd,Nat.reduceLeDiff,Nat.reduceSub,Nat.reduceMul,Int.reduceToNat,List.size_toArray,tyF,MM,bu0,cbP9]
end Go.AM
namespace Go.AM
/-! keys of states: their bytes -/
def skey (s:List Int):ByteArray:=pushB s
theorem pushB_go:∀ (s:List Int) (r:ByteArray),s.foldl (fun r n=>r.push (UInt8.ofNat n.toNat)) r=⟨r.data++(s.map fun n=>UInt8.ofNat n.toNat).toArray⟩
  | [],r=>by cases r;simp
  | a :: l,r=>by
    rw [List.foldl_cons,pushB_go l]
    cases r
    simp [ByteArray.push]
theorem skey_eq (s:List Int):skey s=⟨(s.map fun n=>UInt8.ofNat n.toNat).toArray⟩:=by
  unfold skey pushB
  rw [pushB_go]
  congr 1
  show (#[]:Array UInt8)++_=_
  simp
def smallE (s:List Int):Prop:=∀ x∈s,0≤x∧x<256
theorem map_inj_on {α β:Type} (f:α→β):∀ (a b:List α),(∀ x∈a,∀ y∈b,f x=f y→x=y)→a.map f=b.map f→a=b
  | [],[],_,_=>rfl
  | [],_ :: _,_,h=>by simp at h
  | _ :: _,[],_,h=>by simp at h
  | x :: a,y :: b,hf,h=>by
    simp only [List.map_cons,List.cons.injEq] at h
    rw [hf x (by simp) y (by simp) h.1,map_inj_on f a b (fun u hu v hv=>hf u (by simp [hu]) v (by simp [hv])) h.2]
theorem skey_inj {a b:List Int} (ha:smallE a) (hb:smallE b) (h:skey a=skey b):a=b:=by
  rw [skey_eq,skey_eq] at h
  injection h with h
  have h2:(a.map fun n=>UInt8.ofNat n.toNat)=b.map fun n=>UInt8.ofNat n.toNat:=by
    have:=congrArg Array.toList h
    simpa using this
  refine map_inj_on _ a b (fun x hx y hy e=>?_) h2
  have h3:=ha x hx
  have h4:=hb y hy
  have h5:=congrArg UInt8.toNat e
  simp at h5
  omega
open Classical in
noncomputable def seenM (S:List (List Int)):Value→Option Value:=fun v=>if ∃ s∈S,v=.string (skey s) then some (.bool true) else none
theorem seenM_nil:seenM []=fun _=>none:=by
  funext v;unfold seenM
  rw [if_neg];rintro ⟨s,h,_⟩;cases h
theorem seenM_upd (S:List (List Int)) (s:List Int):updM (seenM S) (.string (skey s)) (.bool true)=seenM (S++[s]):=by
  funext v;unfold updM seenM
  by_cases h:v=.string (skey s)
  · rw [if_pos h,if_pos];exact ⟨s,by simp,h⟩
  · rw [if_neg h]
    by_cases h2:∃ t∈S,v=.string (skey t)
    · rw [if_pos h2,if_pos]
      obtain ⟨t,ht,e⟩:=h2
      exact ⟨t,by simp [ht],e⟩
    · rw [if_neg h2,if_neg]
      rintro ⟨t,ht,e⟩
      rcases List.mem_append.1 ht with ht | ht
      · exact h2 ⟨t,ht,e⟩
      · rw [List.mem_singleton] at ht;subst ht;exact h e
theorem seenM_at {S:List (List Int)} (hS:∀ s∈S,smallE s) {s:List Int} (hs:smallE s):seenM S (.string (skey s))=if s∈S then some (.bool true) else none:=by
  unfold seenM
  by_cases h:s∈S
  · rw [if_pos h,if_pos];exact ⟨s,h,rfl⟩
  · rw [if_neg h,if_neg]
    rintro ⟨t,ht,e⟩
    injection e with e
    rw [skey_inj hs (hS t ht) e] at h;exact h ht
def ixK (L:List (List Int)) (s:List Int):Int:=if s∈L then (L.idxOf s:Nat) else -1
theorem ix_none {L:List (List Int)} {s:List Int} (h1:∀ t∈L,t≠s):ixK L s = -1:=by
  unfold ixK;rw [if_neg];exact fun q=>h1 _ q rfl
end Go.AM
set_option maxRecDepth 8000
namespace Go.AM
open Go.Proofs
theorem keyB_str (s:ByteArray):keyB true (.string s)=true:=rfl
theorem keyB_int (n:Int):keyB false (.int .i64 n)=true:=rfl
theorem u8_all:∀ l:List Int,(l.map AV.u8).all isU8=true
  | []=>rfl
  | a :: l=>by rw [List.map_cons,List.all_cons,u8_all l];rfl
theorem u8_bytes:∀ l:List Int,(l.map AV.u8).map byteV=l
  | []=>rfl
  | a :: l=>by rw [List.map_cons,List.map_cons,u8_bytes l];rfl
theorem u8_rep (n:Nat) (x:Int):List.replicate n (AV.v (.int .u8 x))=(List.replicate n x).map AV.u8:=by simp
theorem stateKeyI (s:List Int) (hs:smallE s) (hl:s.length≤1099511627776):SpecAt Try.prog 135 [isl s] (.v (.string (skey s))):=by
  refine spec_of_awp (M:=MM) (np:=1) (fz:=true) mixed Try.func135 rfl rfl (by decide) rfl (Nat.le_refl _) (by decide +kernel) (.inr ⟨rfl,rfl⟩) trivial ?_
  simp -dsimp -implicitDefEqProofs (disch:=first | omega | (simp only [lenr];try omega)) only [↓amPre,amAll,↓reduceIte,reduceCtorEq,Nat.reduceEqDiff,Nat.reduceBEq,Nat.reduceAdd,Nat.reduceLeDiff,Nat.reduceSub,Nat.reduceMul,Int.reduceToNat,List.size_toArray,tyF,MM,bu0,cbP9,keyB_str,keyB_int,u8_rep]
  refine awp_loop (fun k st=>k≤s.length∧st.fr 11=.i64 k∧st.fr 10=.i64 s.length∧st.fr 9=isl s∧st.fr 3=.ref 8 [] 1 0 s.length∧st.mem 8=some (.tr 1 ((mixL s (List.replicate s.length 0) k).map AV.u8))) (s.length) ?_ ?_
  · simp -dsimp -implicitDefEqProofs (disch:=first | omega | (simp only [lenr];try omega)) only [↓amPre,amAll,↓reduceIte,reduceCtorEq,Nat.reduceEqDiff,Nat.reduceBEq,Nat.reduceAdd,Nat.reduceLeDiff,Nat.reduceSub,Nat.reduceMul,Int.reduceToNat,List.size_toArray,tyF,MM,bu0,cbP9,keyB_str,keyB_int,mixL_zero]
    simp
  rintro k st _ ⟨hk,f11,f10,f9,f3,m8⟩
  have hr:s.length=(List.replicate s.length (0:Int)).length:=by simp
  have hm:=mixL_len s (List.replicate s.length 0) k hr
  by_cases hlt:k<s.length
  · have hx:=hs _ (mem_getD s k 0 hlt)
    have hw:IntKind.u8.wrap (s.getD k 0)=s.getD k 0:=IntWalk.u8_in _ (by omega)
    have hset:=mixL_set s (List.replicate s.length 0) k 0 hr (by omega)
    simp -dsimp -implicitDefEqProofs (disch:=first | omega | (simp only [lenr];try omega)) only [↓amPre,amAll,↓reduceIte,reduceCtorEq,Nat.reduceEqDiff,Nat.reduceBEq,Nat.reduceAdd,Nat.reduceLeDiff,Nat.reduceSub,Nat.reduceMul,Int.reduceToNat,List.size_toArray,tyF,MM,bu0,cbP9,keyB_str,keyB_int,f11,f10,f9,f3,m8,hm,hset,hw]
    repeat' (first | omega | rfl | exact i64c (by omega) | exact vic (by omega) | apply And.intro)
  · have hk':k=s.length:=by omega
    subst hk'
    have:=mixL_all s (List.replicate s.length 0) s.length (by omega) (by simp)
    simp -dsimp -implicitDefEqProofs (disch:=first | omega | (simp only [lenr];try omega)) only [↓amPre,amAll,↓reduceIte,reduceCtorEq,Nat.reduceEqDiff,Nat.reduceBEq,Nat.reduceAdd,Nat.reduceLeDiff,Nat.reduceSub,Nat.reduceMul,Int.reduceToNat,List.size_toArray,tyF,MM,bu0,cbP9,keyB_str,keyB_int,f11,f10,f9,f3,m8,hm,this,u8_all,u8_bytes]
    try rfl
theorem cbU49:type_of% (And.intro (cbP9) (And.intro (@keyB_str) (@keyB_int))):=(And.intro (cbP9) (And.intro (@keyB_str) (@keyB_int)))
end Go.AM
namespace Go.AM
namespace Ch
/-! permutations of n points as a group: what a chain of stabilizers rests on -/
def PN (n:Nat) (p:List Int):Prop:=p.length=n∧isPerm p
def pt (p:List Int) (i:Nat):Nat:=(p.getD i 0).toNat
abbrev idL (n:Nat):List Int:=runI 0 n
theorem PN.get {n:Nat} {p:List Int} (h:PN n p) {i:Nat} (hi:i<n):p.getD i 0=(pt p i:Int)∧pt p i<n:=by
  have hm:=h.2.2.1 _ (mem_getD p i 0 (by rw [h.1];exact hi))
  have:=h.1
  unfold pt
  omega
theorem pl_ext {a b:List Int} (h:a.length=b.length) (hg:∀ i,i<a.length→a.getD i 0=b.getD i 0):a=b:=by
  apply List.ext_getElem h
  intro i h1 h2
  have:=hg i h1
  rwa [getD_eq _ _ _ h1,getD_eq _ _ _ h2] at this
theorem PN.ext {n:Nat} {p q:List Int} (hp:PN n p) (hq:PN n q) (h:∀ i,i<n→pt p i=pt q i):p=q:=by
  refine pl_ext (by rw [hp.1,hq.1]) fun i hi=>?_
  rw [hp.1] at hi
  rw [(hp.get hi).1,(hq.get hi).1,h i hi]
theorem cmpI_len (p q:List Int):(compI p q).length=p.length:=by simp [compI]
theorem cmpI_get {p q:List Int} {i:Nat} (hi:i<p.length):(compI p q).getD i 0=q.getD (pt p i) 0:=by
  unfold compI pt
  rw [getD_eq _ _ _ (by simpa using hi),List.getElem_map,getD_eq _ _ _ hi]
theorem pt_comp {n:Nat} {p q:List Int} (hp:PN n p) (i:Nat) (hi:i<n):pt (compI p q) i=pt q (pt p i):=by
  have:=cmpI_get (q:=q) (show i<p.length by rw [hp.1];exact hi)
  unfold pt at *
  rw [this]
theorem PN.comp {n:Nat} {p q:List Int} (hp:PN n p) (hq:PN n q):PN n (compI p q):=⟨by rw [cmpI_len,hp.1],compI_perm hp.2 hq.2 (by rw [hp.1,hq.1])⟩
theorem PN.inv {n:Nat} {p:List Int} (hp:PN n p):PN n (invI p):=⟨by
  have:∀ k,(scat (List.replicate p.length 0) p (fun i=>(i:Int)) k).length=p.length:=fun k=>by
    induction k with
    | zero=>simp [scat]
    | succ k ih=>rw [scat,List.length_set,ih]
  rw [invI,this,hp.1],invI_perm hp.2⟩
theorem PN.one {n:Nat} (h1:1≤n) (h2:n≤20):PN n (idL n):=⟨runI_len 0 n,run_perm h1 h2⟩
theorem pt_id {n i:Nat} (hi:i<n):pt (idL n) i=i:=by
  unfold pt idL
  rw [runI_get 0 n i hi];omega
theorem PN.inj {n:Nat} {p:List Int} (hp:PN n p) {i j:Nat} (hi:i<n) (hj:j<n) (h:pt p i=pt p j):i=j:=by
  have h1:=(hp.get hi).1
  have h2:=(hp.get hj).1
  have hn:=hp.2.2.2
  have hi':i<p.length:=by rw [hp.1];exact hi
  have hj':j<p.length:=by rw [hp.1];exact hj
  rw [getD_eq _ _ _ hi'] at h1
  rw [getD_eq _ _ _ hj'] at h2
  have hpw:=List.pairwise_iff_getElem.1 hn
  rcases Nat.lt_trichotomy i j with hij | hij | hij
  · exact absurd (by rw [h1,h2,h]) (hpw i j hi' hj' hij)
  · exact hij
  · exact absurd (by rw [h1,h2,h]) (hpw j i hj' hi' hij)
theorem pt_inv {n:Nat} {p:List Int} (hp:PN n p) {i:Nat} (hi:i<n):pt (invI p) (pt p i)=i:=by
  have:=invI_get hp.2 (show i<p.length by rw [hp.1];exact hi)
  unfold pt at *
  rw [this];omega
theorem comp_assoc {n:Nat} {a b c:List Int} (ha:PN n a) (hb:PN n b) (hc:PN n c):compI (compI a b) c=compI a (compI b c) :=
  ((ha.comp hb).comp hc).ext (ha.comp (hb.comp hc)) fun i hi=>by
    rw [pt_comp (ha.comp hb) i hi,pt_comp ha i hi,pt_comp ha i hi,pt_comp hb _ (ha.get hi).2]
theorem comp_id {n:Nat} {a:List Int} (ha:PN n a):compI a (idL n)=a :=
  have h1:=ha.2.1
  have hl:=ha.1
  have h0:=PN.one (n:=n) (by omega) (by omega)
  (ha.comp h0).ext ha fun i hi=>by rw [pt_comp ha i hi,pt_id (ha.get hi).2]
theorem id_comp {n:Nat} {a:List Int} (ha:PN n a):compI (idL n) a=a :=
  have h1:=ha.2.1
  have hl:=ha.1
  have h0:=PN.one (n:=n) (by omega) (by omega)
  (h0.comp ha).ext ha fun i hi=>by rw [pt_comp h0 i hi,pt_id hi]
theorem comp_inv {n:Nat} {a:List Int} (ha:PN n a):compI a (invI a)=idL n :=
  have h1:=ha.2.1
  have hl:=ha.1
  have h0:=PN.one (n:=n) (by omega) (by omega)
  (ha.comp ha.inv).ext h0 fun i hi=>by rw [pt_comp ha i hi,pt_inv ha hi,pt_id hi]
theorem inv_comp {n:Nat} {a:List Int} (ha:PN n a):compI (invI a) a=idL n:=by
  have h1:=ha.2.1
  have hl:=ha.1
  have h0:=PN.one (n:=n) (by omega) (by omega)
  refine (ha.inv.comp ha).ext h0 fun i hi=>?_
  rw [pt_comp ha.inv i hi,pt_id hi]
  have hi2:=(ha.inv.get hi).2
  have e:=pt_inv ha hi2
  -- invI a is injective: pt (invI a) (pt a (pt (invI a) i)) = pt (invI a) i
  exact ha.inv.inj (ha.get hi2).2 hi e
inductive Gen (n:Nat) (S:List (List Int)):List Int→Prop
  | one:Gen n S (idL n)
  | mul {g s:List Int} (h:Gen n S g) (hs:s∈S):Gen n S (compI g s)
theorem Gen.pn {n:Nat} {S:List (List Int)} (h1:1≤n) (h2:n≤20) (hS:∀ s∈S,PN n s) {g:List Int} (h:Gen n S g):PN n g:=by
  induction h with
  | one=>exact PN.one h1 h2
  | mul _ hs ih=>exact ih.comp (hS _ hs)
theorem Gen.mono {n:Nat} {S T:List (List Int)} (hST:∀ s∈S,s∈T) {g:List Int} (h:Gen n S g):Gen n T g:=by
  induction h with
  | one=>exact .one
  | mul _ hs ih=>exact .mul ih (hST _ hs)
theorem Gen.of {n:Nat} {S:List (List Int)} (hS:∀ s∈S,PN n s) {s:List Int} (hs:s∈S):Gen n S s:=by
  have:=Gen.mul (n:=n) .one hs
  rwa [id_comp (hS s hs)] at this
theorem Gen.comp {n:Nat} {S:List (List Int)} (h1:1≤n) (h2:n≤20) (hS:∀ s∈S,PN n s) {a b:List Int} (ha:Gen n S a) (hb:Gen n S b):Gen n S (compI a b):=by
  induction hb with
  | one=>rw [comp_id (ha.pn h1 h2 hS)];exact ha
  | @mul g s hg hs ih =>
    rw [← comp_assoc (ha.pn h1 h2 hS) (hg.pn h1 h2 hS) (hS s hs)]
    exact .mul ih hs
theorem Gen.sub {n:Nat} {S T:List (List Int)} (h1:1≤n) (h2:n≤20) (hT:∀ s∈T,PN n s) (hST:∀ s∈S,Gen n T s) {g:List Int} (h:Gen n S g):Gen n T g:=by
  induction h with
  | one=>exact .one
  | mul _ hs ih=>exact Gen.comp h1 h2 hT ih (hST _ hs)
theorem Gen.fix {n:Nat} {S:List (List Int)} (h1:1≤n) (h2:n≤20) (hS:∀ s∈S,PN n s) {i:Nat} (hi:i<n) (hf:∀ s∈S,pt s i=i) {g:List Int} (h:Gen n S g):pt g i=i:=by
  induction h with
  | one=>exact pt_id hi
  | @mul g s hg hs ih=>rw [pt_comp (hg.pn h1 h2 hS) i hi,ih,hf s hs]
end Ch
end Go.AM
namespace Go.AM
namespace Ch
/-! chains of stabilizers,plainly -/
theorem mov_nil {n:Nat} {p:List Int} (hp:PN n p) (h:movL p p.length=[]):p=idL n:=by
  have h1:=hp.2.1
  have hl:=hp.1
  refine hp.ext (PN.one (by omega) (by omega)) fun i hi=>?_
  rw [pt_id hi]
  by_cases e:p.getD i 0=i
  · unfold pt;rw [e];omega
  · have:(i:Int)∈movL p p.length:=mem_movL.2 ⟨i,by rw [hl];exact hi,e,rfl⟩
    rw [h] at this;cases this
structure Lv where
  gens:List (List Int)
  row:List (List Int)
def headG (C:List Lv):List (List Int):=match C with | []=>[] | L :: _=>L.gens
def hasL:List Lv→Nat→List Int→Bool
  | [],_,_=>true
  | L :: C,l,g=>if L.row.getD (pt g l) []=[] then false else hasL C (l+1) (compI g (invI (L.row.getD (pt g l) [])))
structure LvOk (n l:Nat) (L:Lv):Prop where
  gens:∀ s∈L.gens,PN n s∧∀ i,i<l→pt s i=i
  len:L.row.length=n
  base:L.row.getD l []=idL n
  row:∀ p,p<n→L.row.getD p []≠[]→PN n (L.row.getD p [])∧Gen n L.gens (L.row.getD p [])∧pt (L.row.getD p []) l=p
def Good (n:Nat):List Lv→Nat→Prop
  | [],l=>l=n
  | L :: C,l=>l<n∧LvOk n l L∧(∀ p,p<n→L.row.getD p []≠[]→∀ s∈L.gens,L.row.getD (pt s p) []≠[]) ∧
      (∀ p,p<n→L.row.getD p []≠[]→∀ s∈L.gens,Gen n (headG C) (compI (compI (L.row.getD p []) s) (invI (L.row.getD (pt s p) [])))) ∧
      (∀ s∈headG C,Gen n L.gens s)∧Good n C (l+1)
theorem good_pn {n:Nat} {C:List Lv} {l:Nat} (h:Good n C l):∀ s∈headG C,PN n s∧∀ i,i<l→pt s i=i:=by
  cases C with
  | nil=>intro s hs;cases hs
  | cons L C=>exact h.2.1.gens
theorem good_has {n:Nat} (h1:1≤n) (h2:n≤20):∀ (C:List Lv) (l:Nat),Good n C l→∀ g,PN n g→(∀ i,i<l→pt g i=i)→(hasL C l g=true↔Gen n (headG C) g)
  | [],l,h,g,hg,hf=>by
    have h:l=n:=h
    subst h
    have:g=idL l:=hg.ext (PN.one h1 h2) fun i hi=>by rw [hf i hi,pt_id hi]
    rw [this]
    exact ⟨fun _=>.one,fun _=>rfl⟩
  | L :: C,l,h,g,hg,hf=>by
    obtain ⟨hl,hok,hcl,hsc,hsub,hC⟩:=h
    have hG:∀ s∈L.gens,PN n s:=fun s hs=>(hok.gens s hs).1
    have hGC:∀ s∈headG C,PN n s:=fun s hs=>(good_pn hC s hs).1
    have ih:=good_has h1 h2 C (l+1) hC
    -- one step down
    have step:∀ g,PN n g→(∀ i,i<l→pt g i=i)→L.row.getD (pt g l) []≠[]→PN n (compI g (invI (L.row.getD (pt g l) [])))∧(∀ i,i<l+1→pt (compI g (invI (L.row.getD (pt g l) []))) i=i)∧compI (compI g (invI (L.row.getD (pt g l) []))) (L.row.getD (pt g l) [])=g:=fun g hg hf hne=>by
      obtain ⟨t1,t2,t3⟩:=hok.row (pt g l) (hg.get hl).2 hne
      refine ⟨hg.comp t1.inv,fun i hi=>?_,?_⟩
      · rw [pt_comp hg i (by omega)]
        by_cases e:i=l
        · subst e
          have:=pt_inv t1 hl
          rw [t3] at this
          exact this
        · rw [hf i (by omega)]
          have hfx:=Gen.fix h1 h2 hG (i:=i) (by omega) (fun s hs=>(hok.gens s hs).2 i (by omega)) t2
          have:=pt_inv t1 (show i<n by omega)
          rwa [hfx] at this
      · rw [comp_assoc hg t1.inv t1,inv_comp t1,comp_id hg]
    constructor
    · intro hh
      rw [hasL] at hh
      by_cases hne:L.row.getD (pt g l) []=[]
      · rw [if_pos hne] at hh;cases hh
      rw [if_neg hne] at hh
      obtain ⟨s1,s2,s3⟩:=step g hg hf hne
      have hu:=(ih _ s1 s2).1 hh
      rw [← s3]
      exact Gen.comp h1 h2 hG (Gen.sub h1 h2 hG hsub hu) (hok.row _ (hg.get hl).2 hne).2.1
    · intro hgen
      -- the set of the chain is closed under the generators
      have key:∀ g,Gen n L.gens g→∃ u,Gen n (headG C) u∧L.row.getD (pt g l) []≠[]∧g=compI u (L.row.getD (pt g l) []):=by
        intro g hgen
        induction hgen with
        | one =>
          refine ⟨idL n,.one,?_,?_⟩
          · rw [pt_id hl,hok.base]
            intro e
            have:=congrArg List.length e
            rw [runI_len] at this
            simp at this;omega
          · rw [pt_id hl,hok.base,comp_id (PN.one h1 h2)]
        | @mul g s hgg hs ih2 =>
          obtain ⟨u,hu,hne,he⟩:=ih2
          have hgp:=hgg.pn h1 h2 hG
          have hp:=(hgp.get hl).2
          have hsp:=hG s hs
          obtain ⟨t1,t2,t3⟩:=hok.row _ hp hne
          have hne2:=hcl _ hp hne s hs
          have hptc:pt (compI g s) l=pt s (pt g l):=pt_comp hgp l hl
          rw [hptc]
          obtain ⟨w1,w2,w3⟩:=hok.row _ (hsp.get hp).2 hne2
          have hup:=hu.pn h1 h2 hGC
          refine ⟨compI u (compI (compI (L.row.getD (pt g l) []) s) (invI (L.row.getD (pt s (pt g l)) []))),Gen.comp h1 h2 hGC hu (hsc _ hp hne s hs),hne2,?_⟩
          rw [comp_assoc hup ((t1.comp hsp).comp w1.inv) w1,comp_assoc (t1.comp hsp) w1.inv w1,inv_comp w1,comp_id (t1.comp hsp),← comp_assoc hup t1 hsp,← he]
      obtain ⟨u,hu,hne,he⟩:=key g hgen
      rw [hasL,if_neg hne]
      obtain ⟨s1,s2,s3⟩:=step g hg hf hne
      refine (ih _ s1 s2).2 ?_
      obtain ⟨t1,t2,t3⟩:=hok.row _ (hg.get hl).2 hne
      have hup:=hu.pn h1 h2 hGC
      have gen:∀ t,PN n t→g=compI u t→compI g (invI t)=u:=fun t ht e=>by rw [e,comp_assoc hup ht ht.inv,comp_inv ht,comp_id hup]
      rw [gen _ t1 he];exact hu
theorem Gen.inv {n:Nat} {S:List (List Int)} (h1:1≤n) (h2:n≤20) (hS:∀ s∈S,PN n s) {a:List Int} (ha:Gen n S a):Gen n S (invI a):=by
  have hp:=ha.pn h1 h2 hS
  have hpw:∀ k,PN n (pwL a k)∧Gen n S (pwL a k):=fun k=>by
    induction k with
    | zero =>
      have:pwL a 0=idL n:=by
        refine pl_ext (by rw [pwL_len,runI_len,hp.1]) fun i hi=>?_
        rw [pwL_len] at hi
        rw [pwL_get a 0 hi,runI_get 0 n i (by rw [← hp.1];exact hi)]
        simp [itN]
      rw [this];exact ⟨PN.one h1 h2,.one⟩
    | succ k ih=>rw [← pwL_succ hp.2 k];exact ⟨ih.1.comp hp,Gen.comp h1 h2 hS ih.2 ha⟩
  have ho:=ord_rng hp.2
  obtain ⟨k,hk⟩:∃ k,ordE a=k+1:=⟨ordE a - 1,by omega⟩
  have he:=ord_end hp.2
  rw [hk] at he
  have hid:=mov_nil (hpw (k+1)).1 (by rw [pwL_len];exact he)
  rw [← pwL_succ hp.2 k] at hid
  have:invI a=pwL a k:=by
    have e:=congrArg (fun x=>compI x (invI a)) hid
    rw [comp_assoc (hpw k).1 hp hp.inv,comp_inv hp,comp_id (hpw k).1,id_comp hp.inv] at e
    exact e.symm
  rw [this];exact (hpw k).2
/-! the elements -/
def filL (r:List (List Int)):List Nat:=(List.range r.length).filter fun p=>r.getD p [] != []
theorem mem_filL {r:List (List Int)} {p:Nat}:p∈filL r↔p<r.length∧r.getD p []≠[]:=by simp [filL]
theorem filL_nodup (r:List (List Int)):(filL r).Nodup:=List.Pairwise.filter _ List.nodup_range
def elsL (n:Nat):List Lv→List (List Int)
  | []=>[idL n]
  | L :: C=>(filL L.row).flatMap fun p=>(elsL n C).map fun u=>compI u (L.row.getD p [])
def ordL:List Lv→Nat
  | []=>1
  | L :: C=>(filL L.row).length*ordL C
theorem flat_len_const {α β:Type} (f:α→List β) (k:Nat):∀ l:List α,(∀ a∈l,(f a).length=k)→(l.flatMap f).length=l.length*k
  | [],_=>by simp
  | a :: l,h=>by
    rw [List.flatMap_cons,List.length_append,h a (by simp),flat_len_const f k l fun b hb=>h b (by simp [hb]),List.length_cons,Nat.succ_mul,Nat.add_comm]
theorem els_len (n:Nat):∀ C,(elsL n C).length=ordL C
  | []=>rfl
  | L :: C=>by rw [elsL,ordL,flat_len_const _ (ordL C) _ fun a _=>by rw [List.length_map,els_len n C]]
theorem good_els {n:Nat} (h1:1≤n) (h2:n≤20):∀ (C:List Lv) (l:Nat),Good n C l→(elsL n C).Nodup∧∀ g,g∈elsL n C↔Gen n (headG C) g
  | [],l,h=>⟨by simp [elsL],fun g=>by
    rw [elsL,List.mem_singleton]
    constructor
    · rintro rfl;exact .one
    · intro hg
      induction hg with
      | one=>rfl
      | mul _ hs _=>cases hs⟩
  | L :: C,l,h=>by
    have hh:=h
    obtain ⟨hl,hok,hcl,hsc,hsub,hC⟩:=h
    have hG:∀ s∈L.gens,PN n s:=fun s hs=>(hok.gens s hs).1
    have hGC:∀ s∈headG C,PN n s:=fun s hs=>(good_pn hC s hs).1
    obtain ⟨ihn,ihm⟩:=good_els h1 h2 C (l+1) hC
    have hfil:∀ p∈filL L.row,PN n (L.row.getD p [])∧Gen n L.gens (L.row.getD p [])∧pt (L.row.getD p []) l=p:=fun p hp=>by
      obtain ⟨q1,q2⟩:=mem_filL.1 hp
      rw [hok.len] at q1
      exact hok.row p q1 q2
    have hu:∀ u∈elsL n C,PN n u∧pt u l=l:=fun u hm=>by
      have hg:=(ihm u).1 hm
      exact ⟨hg.pn h1 h2 hGC,Gen.fix h1 h2 hGC hl (fun s hs=>(good_pn hC s hs).2 l (by omega)) hg⟩
    refine ⟨?_,fun g=>?_⟩
    · rw [elsL,List.Nodup,List.pairwise_flatMap]
      refine ⟨fun p hp=>?_,?_⟩
      · refine (List.pairwise_map.2 (ihn.imp_of_mem fun {a b} ha hb hab e=>hab ?_))
        obtain ⟨t1,_,_⟩:=hfil p hp
        have e:=congrArg (fun x=>compI x (invI (L.row.getD p []))) e
        simp only [comp_assoc (hu a ha).1 t1 t1.inv,comp_assoc (hu b hb).1 t1 t1.inv,comp_inv t1,comp_id (hu a ha).1,comp_id (hu b hb).1] at e
        exact e
      · refine (filL_nodup L.row).imp_of_mem fun {p q} hp hq hpq=>?_
        intro x hx y hy e
        obtain ⟨u,hu1,rfl⟩:=List.mem_map.1 hx
        obtain ⟨v,hv1,rfl⟩:=List.mem_map.1 hy
        have e1:pt (compI u (L.row.getD p [])) l=pt (compI v (L.row.getD q [])) l:=by rw [e]
        rw [pt_comp (hu v hv1).1 l hl,pt_comp (hu u hu1).1 l hl,(hu u hu1).2,(hu v hv1).2,(hfil p hp).2.2,(hfil q hq).2.2] at e1
        exact hpq e1
    · rw [elsL,List.mem_flatMap]
      constructor
      · rintro ⟨p,hp,hx⟩
        obtain ⟨u,hu1,rfl⟩:=List.mem_map.1 hx
        exact Gen.comp h1 h2 hG (Gen.sub h1 h2 hG hsub ((ihm u).1 hu1)) (hfil p hp).2.1
      · intro hg
        have hgp:=hg.pn h1 h2 hG
        have hfx:∀ i,i<l→pt g i=i:=fun i hi=>Gen.fix h1 h2 hG (by omega) (fun s hs=>(hok.gens s hs).2 i hi) hg
        have hh:=(good_has h1 h2 (L :: C) l hh g hgp hfx).2 hg
        rw [hasL] at hh
        by_cases hne:L.row.getD (pt g l) []=[]
        · rw [if_pos hne] at hh;cases hh
        rw [if_neg hne] at hh
        have hpm:pt g l∈filL L.row:=mem_filL.2 ⟨by rw [hok.len];exact (hgp.get hl).2,hne⟩
        obtain ⟨t1,t2,t3⟩:=hfil _ hpm
        refine ⟨pt g l,hpm,List.mem_map.2 ⟨compI g (invI (L.row.getD (pt g l) [])),?_,?_⟩⟩
        · rw [ihm]
          refine (good_has h1 h2 C (l+1) hC _ (hgp.comp t1.inv) (fun i hi=>?_)).1 hh
          rw [pt_comp hgp i (by omega)]
          by_cases e:i=l
          · subst e
            have:=pt_inv t1 hl
            rwa [t3] at this
          · rw [hfx i (by omega)]
            have hfx2:=Gen.fix h1 h2 hG (i:=i) (by omega) (fun s hs=>(hok.gens s hs).2 i (by omega)) t2
            have:=pt_inv t1 (show i<n by omega)
            rwa [hfx2] at this
        · rw [comp_assoc hgp t1.inv t1,inv_comp t1,comp_id hgp]
end Ch
end Go.AM
namespace Go.AM
namespace Ch
/-! a chain grows -/
def brStep (q:Nat) (s:List (List Int)×List Nat) (g:List Int):List (List Int)×List Nat :=
  if s.1.getD (pt g q) []=[] then (s.1.set (pt g q) (compI (s.1.getD q []) g),s.2++[pt g q]) else s
def brIn (gens:List (List Int)) (q:Nat) (s:List (List Int)×List Nat):Nat→List (List Int)×List Nat
  | 0=>s
  | j+1=>brStep q (brIn gens q s j) (gens.getD j default)
def brK (gens:List (List Int)) (row:List (List Int)):Nat→List (List Int)×List Nat
  | 0=>(row,filL row)
  | k+1=>if k<(brK gens row k).2.length then brIn gens ((brK gens row k).2.getD k 0) (brK gens row k) gens.length else brK gens row k
structure BrOk (n l:Nat) (gens:List (List Int)) (s:List (List Int)×List Nat):Prop where
  lv:LvOk n l ⟨gens,s.1⟩
  nd:s.2.Nodup
  mem:∀ p,p∈s.2↔p<n∧s.1.getD p []≠[]
theorem getD_set' {α:Type} (l:List α) (i j:Nat) (a d:α) (hi:i<l.length):(l.set i a).getD j d=if j=i then a else l.getD j d:=by
  by_cases h:j=i
  · subst h;simp [List.getD,hi]
  · rw [if_neg h];simp [List.getD,List.getElem?_set,Ne.symm h]
def Grows (s t:List (List Int)×List Nat):Prop:=(∃ e,t.2=s.2++e)∧∀ p,s.1.getD p []≠[]→t.1.getD p []=s.1.getD p []
theorem Grows.refl (s:List (List Int)×List Nat):Grows s s:=⟨⟨[],by simp⟩,fun _ _=>rfl⟩
theorem Grows.trans {s t u:List (List Int)×List Nat} (h:Grows s t) (k:Grows t u):Grows s u:=by
  obtain ⟨⟨e,he⟩,h2⟩:=h
  obtain ⟨⟨f,hf⟩,k2⟩:=k
  exact ⟨⟨e++f,by rw [hf,he,List.append_assoc]⟩,fun p hp=>by rw [k2 p (by rw [h2 p hp];exact hp),h2 p hp]⟩
theorem brStep_ok {n l:Nat} (h1:1≤n) (h2:n≤20) {gens:List (List Int)} {s:List (List Int)×List Nat} (h:BrOk n l gens s) (hl:l<n) {q:Nat} (hq:q∈s.2) {g:List Int} (hg:g∈gens) :
    BrOk n l gens (brStep q s g)∧Grows s (brStep q s g)∧(brStep q s g).1.getD (pt g q) []≠[]:=by
  have hG:∀ s∈gens,PN n s:=fun s hs=>(h.lv.gens s hs).1
  obtain ⟨hq1,hq2⟩:=(h.mem q).1 hq
  have hgp:=hG g hg
  have hpn:=(hgp.get hq1).2
  obtain ⟨t1,t2,t3⟩:=h.lv.row q hq1 hq2
  have hlen:s.1.length=n:=h.lv.len
  unfold brStep
  by_cases he:s.1.getD (pt g q) []=[]
  · rw [if_pos he]
    have hgs:∀ p,(s.1.set (pt g q) (compI (s.1.getD q []) g)).getD p []=if p=pt g q then compI (s.1.getD q []) g else s.1.getD p []:=fun p=>getD_set' _ _ _ _ _ (by rw [hlen];exact hpn)
    have hcp:=t1.comp hgp
    have hne:compI (s.1.getD q []) g≠[]:=fun e=>by
      have:=hcp.1;rw [e] at this;simp at this;omega
    have hlne:l≠pt g q:=fun e=>by
      have:=h.lv.base
      rw [e] at this
      simp only at this
      rw [he] at this
      have:=congrArg List.length this
      rw [runI_len] at this;simp at this;omega
    refine ⟨⟨⟨h.lv.gens,by rw [List.length_set];exact hlen,?_,fun p hp hpe=>?_⟩,?_,fun p=>?_⟩,⟨⟨[pt g q],rfl⟩,fun p hp=>?_⟩,?_⟩
    · simp only [hgs];rw [if_neg hlne];exact h.lv.base
    · simp only [hgs] at hpe ⊢
      by_cases e:p=pt g q
      · rw [if_pos e]
        refine ⟨hcp,.mul t2 hg,?_⟩
        rw [pt_comp t1 l hl,t3,e]
      · rw [if_neg e] at hpe ⊢
        exact h.lv.row p hp hpe
    · rw [List.nodup_append]
      refine ⟨h.nd,by simp,fun a ha b hb=>?_⟩
      rw [List.mem_singleton] at hb
      rintro rfl
      rw [hb] at ha
      exact ((h.mem _).1 ha).2 he
    · rw [List.mem_append,List.mem_singleton,h.mem,hgs]
      by_cases e:p=pt g q
      · rw [if_pos e];exact ⟨fun _=>⟨by omega,hne⟩,fun _=>.inr e⟩
      · rw [if_neg e];simp [e]
    · simp only [hgs]
      rw [if_neg (fun e=>hp (by rw [e];exact he))]
    · simp only [hgs];rw [if_pos trivial];exact hne
  · rw [if_neg he];exact ⟨h,Grows.refl _,he⟩
theorem brIn_ok {n l:Nat} (h1:1≤n) (h2:n≤20) {gens:List (List Int)} {s:List (List Int)×List Nat} (h:BrOk n l gens s) (hl:l<n) {q:Nat} (hq:q∈s.2):∀ j,j≤gens.length →
    BrOk n l gens (brIn gens q s j)∧Grows s (brIn gens q s j)∧∀ i,i<j→(brIn gens q s j).1.getD (pt (gens.getD i default) q) []≠[]
  | 0,_=>⟨h,Grows.refl _,fun i hi=>absurd hi (Nat.not_lt_zero i)⟩
  | j+1,hj=>by
    obtain ⟨a,b,c⟩:=brIn_ok h1 h2 h hl hq j (by omega)
    have hq':q∈(brIn gens q s j).2:=by obtain ⟨⟨e,he⟩,_⟩:=b;rw [he];exact List.mem_append_left _ hq
    obtain ⟨a2,b2,c2⟩:=brStep_ok h1 h2 a hl hq' (mem_getD gens j default (by omega))
    refine ⟨a2,b.trans b2,fun i hi=>?_⟩
    by_cases e:i=j
    · subst e;exact c2
    · have:=c i (by omega)
      show (brStep q (brIn gens q s j) (gens.getD j default)).1.getD (pt (gens.getD i default) q) []≠[]
      rw [b2.2 _ this];exact this
theorem brK_ok {n l:Nat} (h1:1≤n) (h2:n≤20) {gens row:List (List Int)} (h:LvOk n l ⟨gens,row⟩) (hl:l<n):∀ k,
    BrOk n l gens (brK gens row k)∧Grows (row,filL row) (brK gens row k)∧∀ i,i<k→i<(brK gens row k).2.length→∀ s∈gens,(brK gens row k).1.getD (pt s ((brK gens row k).2.getD i 0)) []≠[]
  | 0=>⟨⟨h,filL_nodup _,fun p=>by rw [show (brK gens row 0)=(row,filL row) from rfl,mem_filL,show row.length=n from h.len]⟩,Grows.refl _,fun i hi=>absurd hi (Nat.not_lt_zero i)⟩
  | k+1=>by
    obtain ⟨a,b,c⟩:=brK_ok h1 h2 h hl k
    rw [brK]
    split
    · rename_i hk
      have hm:=mem_getD (brK gens row k).2 k 0 hk
      obtain ⟨a2,b2,c2⟩:=brIn_ok h1 h2 a hl hm gens.length (Nat.le_refl _)
      refine ⟨a2,b.trans b2,fun i hi hi2 s hs=>?_⟩
      obtain ⟨⟨e,he⟩,b3⟩:=b2
      have hgi:∀ i,i<(brK gens row k).2.length→(brIn gens ((brK gens row k).2.getD k 0) (brK gens row k) gens.length).2.getD i 0=(brK gens row k).2.getD i 0:=fun i hi=>by
        rw [he];exact getD_app_l _ _ _ _ hi
      by_cases ei:i=k
      · subst ei
        rw [hgi i hk]
        obtain ⟨j,hj,hs2⟩:=List.mem_iff_getElem.1 hs
        have:=c2 j hj
        rwa [getD_eq _ _ _ hj,hs2] at this
      · have hik:i<(brK gens row k).2.length:=by omega
        rw [hgi i hik]
        have:=c i (by omega) hik s hs
        rw [b3 _ this];exact this
    · rename_i hk
      exact ⟨a,b,fun i hi hi2=>c i (by omega) hi2⟩
def brR (n:Nat) (gens row:List (List Int)):List (List Int):=(brK gens row n).1
theorem nodup_lt_len {n:Nat} {l:List Nat} (hd:l.Nodup) (h:∀ x∈l,x<n):l.length≤n:=by
  have:=len_le_of_sub l (List.range n) hd fun x hx=>List.mem_range.2 (h x hx)
  simpa using this
theorem brR_ok {n l:Nat} (h1:1≤n) (h2:n≤20) {gens row:List (List Int)} (h:LvOk n l ⟨gens,row⟩) (hl:l<n) :
    LvOk n l ⟨gens,brR n gens row⟩∧(∀ p,row.getD p []≠[]→(brR n gens row).getD p []=row.getD p [])∧∀ p,p<n→(brR n gens row).getD p []≠[]→∀ s∈gens,(brR n gens row).getD (pt s p) []≠[]:=by
  obtain ⟨a,b,c⟩:=brK_ok h1 h2 h hl n
  refine ⟨a.lv,fun p hp=>b.2 p hp,fun p hp hpe s hs=>?_⟩
  have hm:=(a.mem p).2 ⟨hp,hpe⟩
  obtain ⟨i,hi,e⟩:=List.mem_iff_getElem.1 hm
  have hle:=nodup_lt_len a.nd fun x hx=>((a.mem x).1 hx).1
  have:=c i (by omega) hi s hs
  rwa [getD_eq _ _ _ hi,e] at this
end Ch
end Go.AM
namespace Go.AM
namespace Ch
def schL (gens row:List (List Int)):List (List Int):=(filL row).flatMap fun p=>gens.map fun s=>compI (compI (row.getD p []) s) (invI (row.getD (pt s p) []))
def addL (n:Nat):Nat→List Lv→Nat→List Int→List Lv
  | 0,C,_,_=>C
  | _+1,[],_,_=>[]
  | d+1,L :: C,l,g=>if hasL (L :: C) l g=true then L :: C else ⟨L.gens++[g],brR n (L.gens++[g]) L.row⟩ :: (schL (L.gens++[g]) (brR n (L.gens++[g]) L.row)).foldl (fun C h=>addL n d C (l+1) h) C
structure AddOk (n l:Nat) (C C':List Lv):Prop where
  good:Good n C' l
  len:C'.length=C.length
  sub:∀ s∈headG C,s∈headG C'
theorem foldl_add {n l d:Nat} (f:List Lv→List Int→List Lv) (hf:∀ C h,Good n C l→C.length=d→PN n h→(∀ i,i<l→pt h i=i)→AddOk n l C (f C h)∧Gen n (headG (f C h)) h∧∀ s∈headG (f C h),s∈headG C∨s=h) :
    ∀ (hs:List (List Int)) (C:List Lv),Good n C l→C.length=d→(∀ h∈hs,PN n h∧∀ i,i<l→pt h i=i)→AddOk n l C (hs.foldl f C)∧(∀ h∈hs,Gen n (headG (hs.foldl f C)) h)∧∀ s∈headG (hs.foldl f C),s∈headG C∨s∈hs
  | [],C,hC,hd,_=>⟨⟨hC,rfl,fun _ h=>h⟩,fun h hh=>(by cases hh),fun s hs=>.inl hs⟩
  | h :: hs,C,hC,hd,hh=>by
    obtain ⟨a,b,c⟩:=hf C h hC hd (hh h (by simp)).1 (hh h (by simp)).2
    obtain ⟨a2,b2,c2⟩:=foldl_add f hf hs (f C h) a.good (by rw [a.len,hd]) fun x hx=>hh x (by simp [hx])
    refine ⟨⟨a2.good,by rw [List.foldl_cons,a2.len,a.len],fun s hs'=>a2.sub s (a.sub s hs')⟩,fun x hx=>?_,fun s hs'=>?_⟩
    · rcases List.mem_cons.1 hx with rfl | hx
      · exact Gen.mono a2.sub b
      · exact b2 x hx
    · rcases c2 s hs' with q | q
      · rcases c s q with q | q
        · exact .inl q
        · exact .inr (by simp [q])
      · exact .inr (by simp [q])
theorem addL_ok {n:Nat} (h1:1≤n) (h2:n≤20):∀ (d:Nat) (C:List Lv) (l:Nat) (g:List Int),Good n C l→C.length=d→l+d=n→PN n g→(∀ i,i<l→pt g i=i) →
    AddOk n l C (addL n d C l g)∧Gen n (headG (addL n d C l g)) g∧∀ s∈headG (addL n d C l g),s∈headG C∨s=g
  | 0,C,l,g,hC,hd,hn,hg,hf=>by
    have:C=[]:=List.length_eq_zero_iff.1 hd
    subst this
    have:l=n:=by omega
    subst this
    refine ⟨⟨hC,rfl,fun _ h=>h⟩,?_,fun s hs=>.inl hs⟩
    rw [hg.ext (PN.one h1 h2) fun i hi=>by rw [hf i hi,pt_id hi]]
    exact .one
  | d+1,[],l,g,hC,hd,hn,hg,hf=>by cases hd
  | d+1,L :: C,l,g,hC,hd,hn,hg,hf=>by
    rw [addL]
    by_cases hh:hasL (L :: C) l g=true
    · rw [if_pos hh]
      exact ⟨⟨hC,rfl,fun _ h=>h⟩,(good_has h1 h2 (L :: C) l hC g hg hf).1 hh,fun s hs=>.inl hs⟩
    rw [if_neg hh]
    obtain ⟨hl,hok,hcl,hsc,hsub,hG⟩:=hC
    have hgs:∀ s∈L.gens++[g],PN n s∧∀ i,i<l→pt s i=i:=fun s hs=>by
      rcases List.mem_append.1 hs with hs | hs
      · exact hok.gens s hs
      · rw [List.mem_singleton.1 hs];exact ⟨hg,hf⟩
    have hgp:∀ s∈L.gens++[g],PN n s:=fun s hs=>(hgs s hs).1
    have hok2:LvOk n l ⟨L.gens++[g],L.row⟩:=⟨hgs,hok.len,hok.base,fun p hp hpe=>by
      obtain ⟨q1,q2,q3⟩:=hok.row p hp hpe
      exact ⟨q1,Gen.mono (fun s hs=>List.mem_append_left _ hs) q2,q3⟩⟩
    obtain ⟨b1,b2,b3⟩:=brR_ok h1 h2 hok2 hl
    generalize hrow:brR n (L.gens++[g]) L.row=row at *
    generalize hgens:L.gens++[g]=gens at *
    -- the Schreier generators
    have hsch:∀ h∈schL gens row,(PN n h∧∀ i,i<l+1→pt h i=i)∧Gen n gens h:=fun h hh=>by
      unfold schL at hh
      obtain ⟨p,hp,hh⟩:=List.mem_flatMap.1 hh
      obtain ⟨s,hs,rfl⟩:=List.mem_map.1 hh
      obtain ⟨p1,p2⟩:=mem_filL.1 hp
      have p1:p<n:=by rw [show row.length=n from b1.len] at p1;exact p1
      have hsp:=hgp s hs
      obtain ⟨t1,t2,t3⟩:=b1.row p p1 p2
      have hne:=b3 p p1 p2 s hs
      obtain ⟨w1,w2,w3⟩:=b1.row (pt s p) (hsp.get p1).2 hne
      have hgen:Gen n gens (compI (compI (row.getD p []) s) (invI (row.getD (pt s p) []))):=Gen.comp h1 h2 hgp (Gen.mul t2 hs) (Gen.inv h1 h2 hgp w2)
      refine ⟨⟨(t1.comp hsp).comp w1.inv,fun i hi=>?_⟩,hgen⟩
      by_cases e:i=l
      · subst e
        rw [pt_comp (t1.comp hsp) i (by omega),pt_comp t1 i (by omega),t3]
        have:=pt_inv w1 hl
        rwa [w3] at this
      · exact Gen.fix h1 h2 hgp (by omega) (fun s hs=>(hgs s hs).2 i (by omega)) hgen
    obtain ⟨a,b,c⟩:=foldl_add (fun C h=>addL n d C (l+1) h) (fun C h hC hd' hp hf'=>addL_ok h1 h2 d C (l+1) h hC hd' (by omega) hp hf') (schL gens row) C hG (by simpa using hd) fun h hh=>(hsch h hh).1
    generalize (schL gens row).foldl (fun C h=>addL n d C (l+1) h) C=C' at *
    refine ⟨⟨⟨hl,b1,b3,fun p hp hpe s hs=>?_,fun s hs=>?_,a.good⟩,by simp [a.len],fun s hs=>?_⟩,?_,fun s hs=>?_⟩
    · refine b _ ?_
      unfold schL
      exact List.mem_flatMap.2 ⟨p,mem_filL.2 ⟨by rw [show row.length=n from b1.len];exact hp,hpe⟩,List.mem_map.2 ⟨s,hs,rfl⟩⟩
    · rcases c s hs with q | q
      · exact Gen.mono (fun s hs=>by rw [← hgens];exact List.mem_append_left _ hs) (hsub s q)
      · exact (hsch s q).2
    · show s∈gens
      rw [← hgens];exact List.mem_append_left _ hs
    · show Gen n gens g
      exact Gen.of hgp (by rw [← hgens];simp)
    · have hs:s∈gens:=hs
      rw [← hgens,List.mem_append,List.mem_singleton] at hs
      exact hs
end Ch
end Go.AM
namespace Go.AM
namespace Ch
def trvL (n:Nat):Nat→Nat→List Lv
  | 0,_=>[]
  | d+1,l=>⟨[],(List.replicate n []).set l (idL n)⟩ :: trvL n d (l+1)
theorem trvL_head (n d l:Nat):headG (trvL n d l)=[]:=by cases d <;> rfl
theorem trvL_len (n:Nat):∀ d l,(trvL n d l).length=d
  | 0,_=>rfl
  | d+1,l=>by rw [trvL,List.length_cons,trvL_len n d]
theorem trvL_good {n:Nat} (h1:1≤n) (h2:n≤20):∀ d l,l+d=n→Good n (trvL n d l) l
  | 0,l,h=>by show l=n;omega
  | d+1,l,h=>by
    have hg:∀ p,((List.replicate n ([]:List Int)).set l (idL n)).getD p []=if p=l then idL n else []:=fun p=>by
      rw [getD_set' _ _ _ _ _ (by simp;omega)]
      split
      · rfl
      · by_cases hp:p<n
        · simp [List.getD,hp]
        · simp [List.getD,hp]
    have h0:=PN.one (n:=n) h1 h2
    refine ⟨by omega,⟨fun s hs=>(by cases hs),by simp,(by simp only [hg];simp),fun p hp hpe=>?_⟩,fun p hp hpe s hs=>(by cases hs),fun p hp hpe s hs=>(by cases hs),fun s hs=>(by rw [trvL_head] at hs;cases hs),trvL_good h1 h2 d (l+1) (by omega)⟩
    simp only [hg] at hpe ⊢
    by_cases e:p=l
    · rw [if_pos e];exact ⟨h0,.one,by rw [pt_id (by omega),e]⟩
    · rw [if_neg e] at hpe;exact absurd rfl hpe
def newL (n:Nat) (G:List (List Int)):List Lv:=G.foldl (fun C g=>addL n n C 0 g) (trvL n n 0)
theorem newL_ok {n:Nat} (h1:1≤n) (h2:n≤20) (G:List (List Int)) (hG:∀ g∈G,PN n g):Good n (newL n G) 0∧(newL n G).length=n∧∀ g,Gen n (headG (newL n G)) g↔Gen n G g:=by
  have h0:=trvL_good h1 h2 n 0 (by omega)
  obtain ⟨a,b,c⟩:=foldl_add (n:=n) (l:=0) (d:=n) (fun C g=>addL n n C 0 g) (fun C h hC hd hp hf=>addL_ok h1 h2 n C 0 h hC hd (by omega) hp hf) G (trvL n n 0) h0 (trvL_len n n 0) fun h hh=>⟨hG h hh,fun i hi=>absurd hi (Nat.not_lt_zero i)⟩
  have hgp:∀ s∈headG (newL n G),PN n s:=fun s hs=>(good_pn a.good s hs).1
  refine ⟨a.good,by rw [newL,a.len,trvL_len],fun g=>⟨fun h=>Gen.mono (fun s hs=>?_) h,fun h=>Gen.sub h1 h2 hgp b h⟩⟩
  rcases c s hs with q | q
  · rw [trvL_head] at q;cases q
  · exact q
theorem newL_els {n:Nat} (h1:1≤n) (h2:n≤20) (G:List (List Int)) (hG:∀ g∈G,PN n g):(elsL n (newL n G)).Nodup∧(elsL n (newL n G)).length=ordL (newL n G)∧∀ g,g∈elsL n (newL n G)↔Gen n G g:=by
  obtain ⟨a,b,c⟩:=newL_ok h1 h2 G hG
  obtain ⟨q1,q2⟩:=good_els h1 h2 _ 0 a
  exact ⟨q1,els_len n _,fun g=>by rw [q2,c]⟩
/-! how many generators a level may hold -/
def wtL:List Lv→Nat
  | []=>0
  | L :: C=>(filL L.row).length+wtL C
def Wt:List Lv→Prop
  | []=>True
  | L :: C=>L.gens.length+(C.length+1)≤wtL (L :: C)∧Wt C
def GrwL:List Lv→List Lv→Prop
  | [],[]=>True
  | L :: C,L' :: C'=>L'.row.length=L.row.length∧(∀ p,L.row.getD p []≠[]→L'.row.getD p []=L.row.getD p [])∧GrwL C C'
  | _,_=>False
theorem GrwL.refl:∀ C,GrwL C C
  | []=>trivial
  | L :: C=>⟨rfl,fun _ _=>rfl,GrwL.refl C⟩
theorem GrwL.trans:∀ {A B C:List Lv},GrwL A B→GrwL B C→GrwL A C
  | [],[],[],_,_=>trivial
  | L :: A,M :: B,N :: C,⟨h1,h2,h3⟩,⟨k1,k2,k3⟩=>⟨by rw [k1,h1],fun p hp=>by rw [k2 p (by rw [h2 p hp];exact hp),h2 p hp],h3.trans k3⟩
  | [],[],_ :: _,_,h=>h.elim
  | [],_ :: _,_,h,_=>h.elim
  | _ :: _,[],_,h,_=>h.elim
  | _ :: _,_ :: _,[],_,h=>h.elim
theorem fil_sub {r r':List (List Int)} (hl:r'.length=r.length) (h:∀ p,r.getD p []≠[]→r'.getD p []=r.getD p []):∀ p∈filL r,p∈filL r':=fun p hp=>by
  obtain ⟨q1,q2⟩:=mem_filL.1 hp
  exact mem_filL.2 ⟨by omega,by rw [h p q2];exact q2⟩
theorem fil_same {r r':List (List Int)} (hl:r'.length=r.length) (h:∀ p,r.getD p []≠[]→r'.getD p []=r.getD p []) (hc:(filL r').length≤(filL r).length):r'=r:=by
  have hsub:∀ p∈filL r',p∈filL r:=by
    intro p hp
    by_cases hq:p∈filL r
    · exact hq
    · have hnd:(p :: filL r).Nodup:=List.nodup_cons.2 ⟨hq,filL_nodup r⟩
      have:=len_le_of_sub (p :: filL r) (filL r') hnd fun x hx=>by
        rcases List.mem_cons.1 hx with rfl | hx
        · exact hp
        · exact fil_sub hl h x hx
      simp at this;omega
  apply List.ext_getElem hl
  intro i hi hi'
  have e1:=getD_eq r' i [] hi
  have e2:=getD_eq r i [] hi'
  rw [← e1,← e2]
  by_cases hr:r.getD i []=[]
  · rw [hr]
    by_cases hr':r'.getD i []=[]
    · exact hr'
    · exact absurd (mem_filL.1 (hsub i (mem_filL.2 ⟨hi,hr'⟩))).2 (by rw [hr];simp)
  · exact h i hr
theorem wt_le:∀ {C C':List Lv},GrwL C C'→wtL C≤wtL C'
  | [],[],_=>Nat.le_refl _
  | L :: C,L' :: C',⟨h1,h2,h3⟩=>by
    have:=len_le_of_sub (filL L.row) (filL L'.row) (filL_nodup _) (fil_sub h1 h2)
    have:=wt_le h3
    simp only [wtL];omega
  | [],_ :: _,h=>h.elim
  | _ :: _,[],h=>h.elim
theorem has_same:∀ {C C':List Lv},GrwL C C'→wtL C'≤wtL C→∀ l g,hasL C' l g=hasL C l g
  | [],[],_,_,_,_=>rfl
  | L :: C,L' :: C',⟨h1,h2,h3⟩,hw,l,g=>by
    have a:=len_le_of_sub (filL L.row) (filL L'.row) (filL_nodup _) (fil_sub h1 h2)
    have b:=wt_le h3
    simp only [wtL] at hw
    have e:=fil_same h1 h2 (by omega)
    rw [hasL,hasL,e,has_same h3 (by omega)]
  | [],_ :: _,h,_,_,_=>h.elim
  | _ :: _,[],h,_,_,_=>h.elim
end Ch
end Go.AM
namespace Go.AM
namespace Ch
structure GrwOk (C C':List Lv):Prop where
  grw:GrwL C C'
  wt:Wt C→Wt C'
theorem foldl_grw {n l d:Nat} (f:List Lv→List Int→List Lv) (hf:∀ C h,Good n C l→C.length=d→PN n h→(∀ i,i<l→pt h i=i)→AddOk n l C (f C h)∧GrwOk C (f C h)) :
    ∀ (hs:List (List Int)) (C:List Lv),Good n C l→C.length=d→(∀ h∈hs,PN n h∧∀ i,i<l→pt h i=i)→GrwOk C (hs.foldl f C)
  | [],C,_,_,_=>⟨GrwL.refl C,fun h=>h⟩
  | h :: hs,C,hC,hd,hh=>by
    obtain ⟨a,b⟩:=hf C h hC hd (hh h (by simp)).1 (hh h (by simp)).2
    have c:=foldl_grw f hf hs (f C h) a.good (by rw [a.len,hd]) fun x hx=>hh x (by simp [hx])
    exact ⟨b.grw.trans c.grw,fun w=>c.wt (b.wt w)⟩
theorem sch_fix {n l:Nat} (h1:1≤n) (h2:n≤20) {gens row:List (List Int)} (hl:l<n) (b1:LvOk n l ⟨gens,row⟩) (b3:∀ p,p<n→row.getD p []≠[]→∀ s∈gens,row.getD (pt s p) []≠[]):∀ h∈schL gens row,PN n h∧∀ i,i<l+1→pt h i=i:=fun h hh=>by
  have hgp:∀ s∈gens,PN n s:=fun s hs=>(b1.gens s hs).1
  unfold schL at hh
  obtain ⟨p,hp,hh⟩:=List.mem_flatMap.1 hh
  obtain ⟨s,hs,rfl⟩:=List.mem_map.1 hh
  obtain ⟨p1,p2⟩:=mem_filL.1 hp
  have p1:p<n:=by rw [show row.length=n from b1.len] at p1;exact p1
  have hsp:=hgp s hs
  obtain ⟨t1,t2,t3⟩:=b1.row p p1 p2
  have hne:=b3 p p1 p2 s hs
  obtain ⟨w1,w2,w3⟩:=b1.row (pt s p) (hsp.get p1).2 hne
  have hgen:Gen n gens (compI (compI (row.getD p []) s) (invI (row.getD (pt s p) []))):=Gen.comp h1 h2 hgp (Gen.mul t2 hs) (Gen.inv h1 h2 hgp w2)
  refine ⟨(t1.comp hsp).comp w1.inv,fun i hi=>?_⟩
  by_cases e:i=l
  · subst e
    rw [pt_comp (t1.comp hsp) i (by omega),pt_comp t1 i (by omega),t3]
    have:=pt_inv w1 hl
    rwa [w3] at this
  · exact Gen.fix h1 h2 hgp (by omega) (fun s hs=>(b1.gens s hs).2 i (by omega)) hgen
theorem addL_grw {n:Nat} (h1:1≤n) (h2:n≤20):∀ (d:Nat) (C:List Lv) (l:Nat) (g:List Int),Good n C l→C.length=d→l+d=n→PN n g→(∀ i,i<l→pt g i=i)→GrwOk C (addL n d C l g)
  | 0,C,l,g,_,_,_,_,_=>⟨GrwL.refl C,fun h=>h⟩
  | d+1,[],l,g,_,hd,_,_,_=>by cases hd
  | d+1,L :: C,l,g,hC,hd,hn,hg,hf=>by
    have hall:=addL_ok h1 h2 (d+1) (L :: C) l g hC hd hn hg hf
    rw [addL] at hall ⊢
    by_cases hh:hasL (L :: C) l g=true
    · rw [if_pos hh];exact ⟨GrwL.refl _,fun h=>h⟩
    rw [if_neg hh] at hall ⊢
    have hC0:=hC
    obtain ⟨hl,hok,hcl,hsc,hsub,hG⟩:=hC
    have hgs:∀ s∈L.gens++[g],PN n s∧∀ i,i<l→pt s i=i:=fun s hs=>by
      rcases List.mem_append.1 hs with hs | hs
      · exact hok.gens s hs
      · rw [List.mem_singleton.1 hs];exact ⟨hg,hf⟩
    have hok2:LvOk n l ⟨L.gens++[g],L.row⟩:=⟨hgs,hok.len,hok.base,fun p hp hpe=>by
      obtain ⟨q1,q2,q3⟩:=hok.row p hp hpe
      exact ⟨q1,Gen.mono (fun s hs=>List.mem_append_left _ hs) q2,q3⟩⟩
    obtain ⟨b1,b2,b3⟩:=brR_ok h1 h2 hok2 hl
    have hfx:=sch_fix h1 h2 hl b1 b3
    have hfold:=foldl_grw (fun C h=>addL n d C (l+1) h) (fun C h hC hd' hp hf'=>⟨(addL_ok h1 h2 d C (l+1) h hC hd' (by omega) hp hf').1,addL_grw h1 h2 d C (l+1) h hC hd' (by omega) hp hf'⟩) (schL (L.gens++[g]) (brR n (L.gens++[g]) L.row)) C hG (by simpa using hd) hfx
    have hgrw:GrwL (L :: C) (⟨L.gens++[g],brR n (L.gens++[g]) L.row⟩ :: (schL (L.gens++[g]) (brR n (L.gens++[g]) L.row)).foldl (fun C h=>addL n d C (l+1) h) C) :=
      ⟨by rw [show (brR n (L.gens++[g]) L.row).length=n from b1.len,hok.len],b2,hfold.grw⟩
    refine ⟨hgrw,fun hw=>⟨?_,hfold.wt hw.2⟩⟩
    have hlen:=hall.1.len
    have hgood:=hall.1.good
    have hgen:=hall.2.1
    have hw1:=hw.1
    -- the weight has grown
    have hlt:wtL (L :: C)<wtL (⟨L.gens++[g],brR n (L.gens++[g]) L.row⟩ :: (schL (L.gens++[g]) (brR n (L.gens++[g]) L.row)).foldl (fun C h=>addL n d C (l+1) h) C):=by
      rcases Nat.lt_or_ge (wtL (L :: C)) (wtL (⟨L.gens++[g],brR n (L.gens++[g]) L.row⟩ :: (schL (L.gens++[g]) (brR n (L.gens++[g]) L.row)).foldl (fun C h=>addL n d C (l+1) h) C)) with q | q
      · exact q
      · have e:=has_same hgrw q l g
        rw [(good_has h1 h2 _ l hgood g hg hf).2 hgen] at e
        exact absurd e.symm hh
    simp only [List.length_cons,Nat.add_right_cancel_iff] at hlen
    rw [hlen,List.length_append,List.length_singleton]
    omega
theorem trvL_wt {n:Nat} (h1:1≤n) (h2:n≤20):∀ d l,l+d=n→wtL (trvL n d l)=d∧Wt (trvL n d l)
  | 0,l,h=>⟨rfl,trivial⟩
  | d+1,l,h=>by
    obtain ⟨a,b⟩:=trvL_wt h1 h2 d (l+1) (by omega)
    have hfil:(filL ((List.replicate n ([]:List Int)).set l (idL n))).length=1:=by
      have hg:∀ p,((List.replicate n ([]:List Int)).set l (idL n)).getD p []=if p=l then idL n else []:=fun p=>by
        rw [getD_set' _ _ _ _ _ (by simp;omega)]
        split
        · rfl
        · by_cases hp:p<n
          · simp [List.getD,hp]
          · simp [List.getD,hp]
      have hmem:∀ p,p∈filL ((List.replicate n ([]:List Int)).set l (idL n))↔p∈[l]:=fun p=>by
        rw [mem_filL,hg,List.mem_singleton,List.length_set,List.length_replicate]
        constructor
        · rintro ⟨_,q⟩
          by_cases e:p=l
          · exact e
          · rw [if_neg e] at q;exact absurd rfl q
        · rintro rfl
          rw [if_pos rfl]
          refine ⟨by omega,fun e=>?_⟩
          have:=congrArg List.length e
          rw [runI_len] at this;simp at this;omega
      have l1:=len_le_of_sub _ [l] (filL_nodup _) fun x hx=>(hmem x).1 hx
      have l2:=len_le_of_sub [l] _ (by simp) fun x hx=>(hmem x).2 hx
      simp at l1 l2 ⊢;omega
    rw [trvL]
    refine ⟨by simp only [wtL,hfil,a];omega,⟨?_,b⟩⟩
    simp only [wtL,hfil,a,trvL_len,List.length_nil];omega
theorem wt_bound:∀ (C:List Lv) (n:Nat),(∀ L∈C,L.row.length≤n)→wtL C≤n*C.length
  | [],_,_=>by simp [wtL]
  | L :: C,n,h=>by
    have:=wt_bound C n fun M hM=>h M (by simp [hM])
    have h2:=h L (by simp)
    have:(filL L.row).length≤L.row.length:=by
      have:=List.length_filter_le (fun p=>L.row.getD p [] != []) (List.range L.row.length)
      simpa [filL] using this
    rw [wtL,List.length_cons,Nat.mul_succ];omega
theorem wt_gens:∀ {C:List Lv},Wt C→∀ L∈C,L.gens.length≤wtL C
  | L :: C,h,M,hM=>by
    rcases List.mem_cons.1 hM with rfl | hM
    · have:=h.1;omega
    · have:=wt_gens h.2 M hM
      simp only [wtL];omega
theorem good_rows {n:Nat}:∀ {C:List Lv} {l:Nat},Good n C l→∀ L∈C,L.row.length=n
  | L :: C,l,h,M,hM=>by
    rcases List.mem_cons.1 hM with rfl | hM
    · exact h.2.1.len
    · exact good_rows h.2.2.2.2.2 M hM
theorem gens_400 {n:Nat} (h2:n≤20) {C:List Lv} {l:Nat} (hg:Good n C l) (hw:Wt C) (hl:C.length≤n):∀ L∈C,L.gens.length≤400:=fun L hL=>by
  have a:=wt_gens hw L hL
  have b:=wt_bound C n fun M hM=>Nat.le_of_eq (good_rows hg M hM)
  have:n*C.length≤20*20:=Nat.mul_le_mul h2 (by omega)
  omega
end Ch
end Go.AM
namespace Go.AM
/-! what a call yields may be looked at by content alone -/
section
variable {I:Gh} {ρ:Pl} {w:World} {mem:Nat→Option AV}
theorem top1_fz (m:Sep I ρ w mem) {s:Nat} {R:AV} (hR:mem s=some R) {q:Path} {a:AV} {x:Value} (e:R.at q=a) (h:TopOk1 I (ρ s) q a x):RepS (lend I ρ mem w) a.fz x:=by
  by_cases ha:∃ fs,a=.agg fs
  · obtain ⟨fs,rfl⟩:=ha
    obtain ⟨arr,rfl,hn,hr⟩:=h
    simp only [AV.fz,fzL_map]
    refine .agg _ arr (by simpa using hn) fun j hj hk=>?_
    have hj':j<fs.length:=by simpa using hj
    simp only [List.getElem_map]
    refine fz_cell m hR _ (q++[(0,j)]) _ ?_ (hr j hj' hk)
    rw [at_snoc,e]
    show fs.getD j .any=_
    rw [getD_lt hj']
  · have h':CellOk I (ρ s q) a x:=by cases a <;> first | exact h | exact absurd ⟨_,rfl⟩ ha
    exact fz_cell m hR _ q _ e h'
theorem top_fz (m:Sep I ρ w mem) {s:Nat} {R:AV} (hR:mem s=some R) {x:Value} (h:TopOk I (ρ s) [] R x):RepS (lend I ρ mem w) R.fz x:=by
  by_cases ha:∃ fs,R=.tup fs
  · obtain ⟨fs,rfl⟩:=ha
    obtain ⟨arr,rfl,hn,hr⟩:=h
    simp only [AV.fz,fzL_map]
    refine .tup _ arr (by simpa using hn) fun j hj hk=>?_
    have hj':j<fs.length:=by simpa using hj
    simp only [List.getElem_map]
    refine top1_fz m hR (q:=[(0,j)]) ?_ (hr j hj' hk)
    show AV.at ((AV.tup fs).cellAt 0 j) []=_
    show fs.getD j .any=_
    rw [getD_lt hj']
  · have h':TopOk1 I (ρ s) [] R x:=by cases R <;> first | exact h | exact absurd ⟨_,rfl⟩ ha
    exact top1_fz m hR rfl h'
end
theorem spec_frz {P:Program} {f:FuncId} {args:List AV} {r r':AV} (h:SpecAt P f args r) (ha:(args.all fun a=>!a.nodeB)=true) (hr':r.fz=r'):SpecAt P f args r':=by
  subst hr'
  obtain ⟨h1,h2,h3,h4⟩:=h
  refine ⟨h1,h2,h3,fun I π w vals hh hn hs hr=>(h4 I π w vals hh hn hs hr).mono ?_⟩
  rintro e w' ⟨I',π',x,rfl,k1,k2,k3,k4,k5,k6,k7⟩
  have hmem:outMem args.length [] r args.length=some r:=by simp [outMem]
  have hnolent:∀ b,¬ Owns π (fun i=>args[i]?) b:=by
    rintro b ⟨i,T,p,k,g1,g2,_⟩
    obtain ⟨hlt,rfl⟩:=List.getElem?_eq_some_iff.1 g1
    have:=List.all_eq_true.1 ha _ (List.getElem_mem hlt)
    simp only [Bool.not_eq_true'] at this
    have:=top_stat (hr i hlt (by omega)) this
    rw [rs_at this p] at g2;cases g2
  have hx:=top_fz k2 hmem k3
  have hno:∀ s T p,outMem args.length [] r.fz s=some T→(T.at p).isNode=false:=fun s T p hT=>by
    unfold outMem at hT
    split at hT
    · cases hT;exact rs_at hx p
    · simp at hT
  refine ⟨lend I' π' (outMem args.length [] r) w',π',x,rfl,lend_held k2 k1,⟨fun s T p hT=>node_false (hno s T p hT),fun s T p k hT g=>(by rw [hno s T p hT] at g;cases g),fun s T p k s' T' p' k' hT g=>(by rw [hno s T p hT] at g;cases g)⟩,rs_top hx _ _,(fun j T hT=>by simp at hT),k5,fun b o hb=>?_,?_⟩
  · rw [lend_not]
    · exact k6 b o hb
    · intro hb2
      rcases k7 b hb2 with q | q
      · exact hnolent b q
      · omega
  · rintro b ⟨s,T,p,k,g1,g2,_⟩
    rw [hno s T p g1] at g2;cases g2
end Go.AM
set_option maxRecDepth 8000
namespace Go.AM
open Go.Proofs
open Ch (filL mem_filL)
def nlv (t:List Int):AV:=match t with | []=>.nilsl | x :: r=>isl (x :: r)
theorem nlv_nil:nlv []=.nilsl:=rfl
theorem nlv_ne {t:List Int} (h:t≠[]):nlv t=isl t:=by cases t with | nil=>exact absurd rfl h | cons=>rfl
def orbK (row:List (List Int)):Nat→List Int
  | 0=>[]
  | k+1=>if row.getD k []=[] then orbK row k else orbK row k++[(k:Int)]
theorem orbK_len (row:List (List Int)):∀ k,(orbK row k).length≤k
  | 0=>Nat.le_refl _
  | k+1=>by have:=orbK_len row k;rw [orbK];split <;> (try simp) <;> omega
theorem orbitOfS (row:List (List Int)) (hl:row.length≤1099511627776):SpecAt Try.prog 261 [.sl 1 (row.map nlv)] (itr (orbK row row.length)):=by
  refine spec_of_awp (M:=MM) (np:=1) (fz:=false) mixed Try.func261 rfl rfl (by decide) rfl (Nat.le_refl _) (by decide +kernel) (.inl rfl) (by first | trivial | simp only [sigsOk_nil,sigsOk_some,sigsOk_none,sig_tr,sig_pt,sig_mt,sig_agg,List.map_cons,List.map_nil,sig1_tr,sig1_pt,sig1_v,and_self,true_and,List.length_map,List.length_set]) ?_
  simp -dsimp -implicitDefEqProofs (disch:=first | omega | (simp only [lenr];try omega)) only [↓amPre,amAll,↓reduceIte,reduceCtorEq,Nat.reduceEqDiff,Nat.reduceBEq,Nat.reduceAdd,Nat.reduceLeDiff,Nat.reduceSub,Nat.reduceMul,Int.reduceToNat,List.size_toArray,tyF,MM,bu0,cbU49]
  refine awp_loopN 3 18 1 (by simp -dsimp -implicitDefEqProofs (disch:=first | omega | (simp only [lenr];try omega)) only [↓amPre,amAll,↓reduceIte,reduceCtorEq,Nat.reduceEqDiff,Nat.reduceBEq,Nat.reduceAdd,Nat.reduceLeDiff,Nat.reduceSub,Nat.reduceMul,Int.reduceToNat,List.size_toArray,tyF,MM,bu0,cbU49]) (by decide) (fun k st=>k≤row.length∧st.fr 8=.i64 k∧st.fr 7=.i64 row.length∧st.fr 6=.sl 1 (row.map nlv)∧st.fr 3=.ref 18 [] 1 0 (orbK row k).length∧st.mem 18=some (itr (orbK row k))) (row.length) ?_ ?_
  · simp -dsimp -implicitDefEqProofs (disch:=first | omega | (simp only [lenr];try omega)) only [↓amPre,amAll,↓reduceIte,reduceCtorEq,Nat.reduceEqDiff,Nat.reduceBEq,Nat.reduceAdd,Nat.reduceLeDiff,Nat.reduceSub,Nat.reduceMul,Int.reduceToNat,List.size_toArray,tyF,MM,bu0,cbU49,nilAs_eq]
    simp [orbK]
  rintro k st _ ⟨hk,f8,f7,f6,f3,m18⟩
  have hkl:=orbK_len row k
  by_cases hlt:k<row.length
  · have hg:(row.map nlv).getD k .any=nlv (row.getD k []):=by rw [getD_eq _ _ _ (by simpa using hlt),List.getElem_map,getD_eq _ _ _ hlt]
    have hs:orbK row (k+1)=if row.getD k []=[] then orbK row k else orbK row k++[(k:Int)]:=rfl
    by_cases he:row.getD k []=[]
    · rw [if_pos he] at hs
      rw [he,nlv_nil] at hg
      simp -dsimp -implicitDefEqProofs (disch:=first | omega | (simp only [lenr];try omega)) only [↓amPre,amAll,↓reduceIte,reduceCtorEq,Nat.reduceEqDiff,Nat.reduceBEq,Nat.reduceAdd,Nat.reduceLeDiff,Nat.reduceSub,Nat.reduceMul,Int.reduceToNat,List.size_toArray,tyF,MM,bu0,cbU49,f8,f7,f6,f3,m18,hg]
      exact ⟨hlt,by omega,by rw [hs],by rw [hs]⟩
    · rw [if_neg he] at hs
      obtain ⟨x,r,hx⟩:=List.exists_cons_of_ne_nil he
      rw [hx] at hg
      have hg2:(row.map nlv).getD k .any=.sl 1 (AV.i64 x :: r.map AV.i64):=hg
      have hol:(orbK row (k+1)).length=(orbK row k).length+1:=by rw [hs];simp
      simp -dsimp -implicitDefEqProofs (disch:=first | omega | (simp only [lenr];try omega)) only [↓amPre,amAll,↓reduceIte,reduceCtorEq,Nat.reduceEqDiff,Nat.reduceBEq,Nat.reduceAdd,Nat.reduceLeDiff,Nat.reduceSub,Nat.reduceMul,Int.reduceToNat,List.size_toArray,tyF,MM,bu0,cbU49,f8,f7,f6,f3,m18,hg2,← hs]
      exact ⟨hlt,by omega,by rw [hol]⟩
  · have hke:k=row.length:=by omega
    subst hke
    simp -dsimp -implicitDefEqProofs (disch:=first | omega | (simp only [lenr];try omega)) only [↓amPre,amAll,↓reduceIte,reduceCtorEq,Nat.reduceEqDiff,Nat.reduceBEq,Nat.reduceAdd,Nat.reduceLeDiff,Nat.reduceSub,Nat.reduceMul,Int.reduceToNat,List.size_toArray,tyF,MM,bu0,cbU49,f8,f7,f6,f3,m18]
end Go.AM
set_option maxRecDepth 8000
namespace Go.AM
open Go.Proofs
open Ch (Lv hasL PN pt Good)
abbrev rowsL (C:List Lv):AV:=.sl 1 (C.map fun L=>.sl 1 (L.row.map nlv))
abbrev gensL (C:List Lv):AV:=.sl 1 (C.map fun L=>.sl 1 (L.gens.map isl))
abbrev chnE (C:List Lv):AV:=.ep [.i64 C.length,gensL C,rowsL C]
def hasG (C:List Lv) (l:Nat) (g:List Int):Nat→List Int
  | 0=>g
  | k+1=>compI (hasG C l g k) (invI ((C.getD (l+k) ⟨[],[]⟩).row.getD (pt (hasG C l g k) (l+k)) []))
theorem itrF (l:List Int):(itr l).fz=isl l:=by rw [AV.fz,fzL_map,ints_fz]
end Go.AM
namespace Go.AM
namespace Ch
/-! the order's size -/
theorem fil_ge {n l:Nat} (h1:1≤n) (h2:n≤20) {L:Lv} (hl:l<n) (h:LvOk n l L):∀ p∈filL L.row,l≤p:=fun p hp=>by
  obtain ⟨q1,q2⟩:=mem_filL.1 hp
  rw [h.len] at q1
  obtain ⟨t1,t2,t3⟩:=h.row p q1 q2
  rcases Nat.lt_or_ge p l with q | q
  · have:=Gen.fix h1 h2 (fun s hs=>(h.gens s hs).1) q1 (fun s hs=>(h.gens s hs).2 p q) t2
    have:=t1.inj q1 hl (by rw [this,t3])
    omega
  · exact q
theorem fil_cnt {n l:Nat} (h1:1≤n) (h2:n≤20) {L:Lv} (hl:l<n) (h:LvOk n l L):1≤(filL L.row).length∧(filL L.row).length≤n - l:=by
  constructor
  · have:l∈filL L.row:=mem_filL.2 ⟨by rw [h.len];exact hl,by
      rw [h.base];intro e
      have:=congrArg List.length e
      rw [runI_len] at this;simp at this;omega⟩
    exact List.length_pos_iff.2 fun e=>by rw [e] at this;cases this
  · have:=len_le_of_sub (filL L.row) ((List.range (n - l)).map (· + l)) (filL_nodup _) fun p hp=>by
      have a:=fil_ge h1 h2 hl h p hp
      have b:=(mem_filL.1 hp).1
      rw [h.len] at b
      exact List.mem_map.2 ⟨p - l,List.mem_range.2 (by omega),by omega⟩
    simpa using this
def facN:Nat→Nat
  | 0=>1
  | n+1=>(n+1)*facN n
theorem fac_mono:∀ d,facN d≤facN (d+1):=fun d=>by
  rw [facN]
  exact Nat.le_mul_of_pos_left _ (Nat.succ_pos d)
theorem fac_le {a b:Nat} (h:a≤b):facN a≤facN b:=by
  induction h with
  | refl=>exact Nat.le_refl _
  | step _ ih=>exact Nat.le_trans ih (fac_mono _)
theorem ord_fac {n:Nat} (h1:1≤n) (h2:n≤20):∀ (C:List Lv) (l:Nat),Good n C l→1≤ordL C∧ordL C≤facN (n - l)
  | [],l,h=>⟨Nat.le_refl _,by rw [ordL,show n - l=0 by have:l=n:=h;omega];exact Nat.le_refl _⟩
  | L :: C,l,h=>by
    obtain ⟨a,b⟩:=ord_fac h1 h2 C (l+1) h.2.2.2.2.2
    obtain ⟨c,d⟩:=fil_cnt h1 h2 h.1 h.2.1
    obtain ⟨m,hm⟩:∃ m,n - l=m+1:=⟨n - l - 1,by have:=h.1;omega⟩
    rw [ordL,hm,facN]
    rw [hm] at d
    rw [show n - (l+1)=m by omega] at b
    exact ⟨Nat.mul_le_mul c a,Nat.mul_le_mul d b⟩
def prdK (C:List Lv):Nat→Nat
  | 0=>1
  | k+1=>prdK C k*(filL (C.getD k ⟨[],[]⟩).row).length
theorem prd_drop (C:List Lv):∀ k,k≤C.length→prdK C k*ordL (C.drop k)=ordL C
  | 0,_=>by simp [prdK]
  | k+1,h=>by
    have ih:=prd_drop C k (by omega)
    have hd:C.drop k=C.getD k ⟨[],[]⟩ :: C.drop (k+1):=by rw [List.drop_eq_getElem_cons (by omega),getD_eq _ _ _ (by omega)]
    rw [hd,ordL,← Nat.mul_assoc] at ih
    exact ih
theorem good_drop {n:Nat}:∀ (k:Nat) (C:List Lv) (l:Nat),Good n C l→k≤C.length→Good n (C.drop k) (l+k)
  | 0,C,l,h,_=>h
  | k+1,[],l,h,hk=>by simp at hk
  | k+1,L :: C,l,h,hk=>by
    have:=good_drop k C (l+1) h.2.2.2.2.2 (by simpa using hk)
    rw [List.drop_succ_cons,show l+(k+1)=l+1+k by omega];exact this
theorem prd_le {n:Nat} (h1:1≤n) (h2:n≤20) {C:List Lv} {l:Nat} (h:Good n C l) {k:Nat} (hk:k≤C.length):prdK C k≤2432902008176640000:=by
  have a:=prd_drop C k hk
  have b:=(ord_fac h1 h2 _ _ (good_drop k C l h hk)).1
  have c:=(ord_fac h1 h2 C l h).2
  have d:=fac_le (show n - l≤20 by omega)
  have e:facN 20=2432902008176640000:=by decide
  have:prdK C k≤prdK C k*ordL (C.drop k):=Nat.le_mul_of_pos_right _ b
  omega
end Ch
end Go.AM
set_option maxRecDepth 8000
namespace Go.AM
open Go.Proofs
open Ch (Lv hasL PN pt filL ordL prdK)
theorem orbK_fil (row:List (List Int)):∀ k,(orbK row k).length=((List.range k).filter fun p=>row.getD p [] != []).length
  | 0=>rfl
  | k+1=>by
    have ih:=orbK_fil row k
    rw [orbK,List.range_succ,List.filter_append,List.length_append,← ih]
    by_cases h:row.getD k []=[]
    · rw [if_pos h]
      have:(row.getD k [] != [])=false:=by rw [h];rfl
      simp only [List.filter_cons,this]
      simp
    · rw [if_neg h]
      have:(row.getD k [] != [])=true:=by simpa using h
      simp only [List.filter_cons,this]
      simp
end Go.AM
set_option maxRecDepth 8000
namespace Go.AM
namespace Ck
open Go.Proofs
open Ch (Lv hasL PN pt Good)
/-! a chain from level l on;what lies ahead of it is not looked at -/
abbrev rE (L:Lv):AV:=.sl 1 (L.row.map nlv)
abbrev rN (L:Lv):AV:=.tr 1 (L.row.map nlv)
def gN (L:Lv):AV:=match L.gens with | []=>.nilsl | g :: r=>.tr 1 ((g :: r).map fun s=>isl s)
theorem gN_nil {L:Lv} (h:L.gens=[]):gN L=.nilsl:=by unfold gN;rw [h]
theorem gN_ne {L:Lv} (h:L.gens≠[]):gN L=.tr 1 (L.gens.map fun s=>isl s):=by
  unfold gN
  cases hg:L.gens with
  | nil=>exact absurd hg h
  | cons a r=>rfl
def hasH (C:List Lv) (l:Nat) (g:List Int):Nat→List Int
  | 0=>g
  | k+1=>compI (hasH C l g k) (invI ((C.getD k ⟨[],[]⟩).row.getD (pt (hasH C l g k) (l+k)) []))
theorem hasX (n:Nat) (Gs:AV) (R0:List AV) (C:List Lv) (l:Nat) (g:List Int) (hR:R0.length=l) (hn:l+C.length=n) (h1:1≤n) (h2:n≤20) (hC:∀ L∈C,L.row.length=n∧∀ p,p<n→L.row.getD p []≠[]→PN n (L.row.getD p [])) (hg:PN n g) :
    SpecAt Try.prog 275 [.ep [.i64 n,Gs,.sl 1 (R0++C.map rE)],.i64 l,isl g] (.bl (hasL C l g)):=by
  refine spec_of_awp (M:=MM) (np:=3) (fz:=true) mixed Try.func275 rfl rfl (by decide) rfl (Nat.le_refl _) (by decide +kernel) (.inr ⟨rfl,rfl⟩) trivial ?_
  simp -dsimp -implicitDefEqProofs (disch:=first | omega | (simp only [lenr];try omega)) only [↓amPre,amAll,↓reduceIte,reduceCtorEq,Nat.reduceEqDiff,Nat.reduceBEq,Nat.reduceAdd,Nat.reduceLeDiff,Nat.reduceSub,Nat.reduceMul,Int.reduceToNat,List.size_toArray,tyF,MM,bu0,cbU49]
  refine awp_loop (fun k st=>k≤(n - l)∧st.fr 7=.i64 ((l+k:Nat):Int)∧st.fr 0=.ep [.i64 n,Gs,.sl 1 (R0++C.map rE)]∧st.fr 2=isl (hasH C l g k)∧(hasL (C.drop k) (l+k) (hasH C l g k)=hasL C l g∧PN n (hasH C l g k))) ((n - l)) ?_ ?_
  · simp -dsimp -implicitDefEqProofs (disch:=first | omega | (simp only [lenr];try omega)) only [↓amPre,amAll,↓reduceIte,reduceCtorEq,Nat.reduceEqDiff,Nat.reduceBEq,Nat.reduceAdd,Nat.reduceLeDiff,Nat.reduceSub,Nat.reduceMul,Int.reduceToNat,List.size_toArray,tyF,MM,bu0,cbU49]
    simp [hasH,hg]
  rintro k st _ ⟨hk,f7,f0,f2,ek⟩
  obtain ⟨e1,e2⟩:=ek
  have hlen:(R0++C.map rE).length=n:=by simp;omega
  by_cases hlt:l+k<n
  · have hkC:k<C.length:=by omega
    have hd:C.drop k=C.getD k ⟨[],[]⟩ :: C.drop (k+1):=by rw [List.drop_eq_getElem_cons hkC,getD_eq _ _ _ hkC]
    obtain ⟨w1,w2⟩:=hC (C.getD k ⟨[],[]⟩) (mem_getD C k ⟨[],[]⟩ hkC)
    have r1:(R0++C.map rE).getD (l+k) .any=.sl 1 ((C.getD k ⟨[],[]⟩).row.map nlv):=by
      rw [← hR,getD_app_r,getD_eq _ _ _ (by simpa using hkC),List.getElem_map,getD_eq _ _ _ hkC]
    obtain ⟨p1,p2⟩:=e2.get hlt
    have r2:((C.getD k ⟨[],[]⟩).row.map nlv).getD (pt (hasH C l g k) (l+k)) .any=nlv ((C.getD k ⟨[],[]⟩).row.getD (pt (hasH C l g k) (l+k)) []):=by
      rw [getD_eq _ _ _ (by rw [List.length_map,w1];exact p2),List.getElem_map]
      exact congrArg nlv (getD_eq _ _ _ _).symm
    have hk1:hasH C l g (k+1)=compI (hasH C l g k) (invI ((C.getD k ⟨[],[]⟩).row.getD (pt (hasH C l g k) (l+k)) [])):=rfl
    have hgl:=e2.1
    rw [hd,hasL] at e1
    generalize hasH C l g (k+1)=G' at *
    generalize hasH C l g k=G at *
    by_cases he:(C.getD k ⟨[],[]⟩).row.getD (pt G (l+k)) []=[]
    · rw [he,nlv_nil] at r2
      rw [if_pos he] at e1
      rw [← e1]
      simp -dsimp -implicitDefEqProofs (disch:=first | omega | (simp only [lenr];try omega)) only [↓amPre,amAll,↓reduceIte,reduceCtorEq,Nat.reduceEqDiff,Nat.reduceBEq,Nat.reduceAdd,Nat.reduceLeDiff,Nat.reduceSub,Nat.reduceMul,Int.reduceToNat,List.size_toArray,tyF,MM,bu0,cbU49,f7,f0,f2,r1,p1,r2,w1,hlen]
    · rw [if_neg he] at e1
      obtain ⟨x,r,hx⟩:=List.exists_cons_of_ne_nil he
      have hT:=w2 _ p2 he
      have r3:((C.getD k ⟨[],[]⟩).row.map nlv).getD (pt G (l+k)) .any=.sl 1 (AV.i64 x :: r.map AV.i64):=by rw [r2,hx];rfl
      have hTi:=hT.inv
      rw [hx] at e1 hT hTi hk1
      have q1:=iinverse (x :: r) (by rw [hT.1];omega) (fun y hy=>by have:=hT.2.2.1 y hy;exact this)
      have q2:=icompose G (invI (x :: r)) (by omega) (fun y hy=>by have:=e2.2.2.1 y hy;rw [hTi.1];have:=e2.1;omega)
      rw [← hk1] at q2 e1
      have hG':PN n G':=by rw [hk1];exact e2.comp hTi
      simp -dsimp -implicitDefEqProofs (disch:=first | omega | (simp only [lenr];try omega)) only [↓amPre,amAll,↓reduceIte,reduceCtorEq,Nat.reduceEqDiff,Nat.reduceBEq,Nat.reduceAdd,Nat.reduceLeDiff,Nat.reduceSub,Nat.reduceMul,Int.reduceToNat,List.size_toArray,tyF,MM,bu0,cbU49,f7,f0,f2,r1,p1,r3,w1,hlen]
      refine callP_of (q1) ?_
      simp -dsimp -implicitDefEqProofs (disch:=first | omega | (simp only [lenr];try omega)) only [↓amPre,amAll,↓reduceIte,reduceCtorEq,Nat.reduceEqDiff,Nat.reduceBEq,Nat.reduceAdd,Nat.reduceLeDiff,Nat.reduceSub,Nat.reduceMul,Int.reduceToNat,List.size_toArray,tyF,MM,bu0,cbU49,f7,f0,f2]
      refine callP_frz q2 ?_
      simp -dsimp -implicitDefEqProofs (disch:=first | omega | (simp only [lenr];try omega)) only [↓amPre,amAll,↓reduceIte,reduceCtorEq,Nat.reduceEqDiff,Nat.reduceBEq,Nat.reduceAdd,Nat.reduceLeDiff,Nat.reduceSub,Nat.reduceMul,Int.reduceToNat,List.size_toArray,tyF,MM,bu0,cbU49,f7,f0,f2,itrF]
      have e4:AV.fzL (G'.map AV.i64)=G'.map AV.i64:=by rw [fzL_map,ints_fz]
      exact ⟨by omega,by omega,i64c (by omega),by rw [e4],e1,hG'⟩
  · have hke:l+k=n:=by omega
    rw [show C.drop k=[] from List.drop_of_length_le (by omega),hasL] at e1
    rw [← e1]
    simp -dsimp -implicitDefEqProofs (disch:=first | omega | (simp only [lenr];try omega)) only [↓amPre,amAll,↓reduceIte,reduceCtorEq,Nat.reduceEqDiff,Nat.reduceBEq,Nat.reduceAdd,Nat.reduceLeDiff,Nat.reduceSub,Nat.reduceMul,Int.reduceToNat,List.size_toArray,tyF,MM,bu0,cbU49,f7,f0,f2,hke]
abbrev chA (n:Nat) (G R:List AV):AV:=.pt 3 (.agg [.i64 n,.tr 1 G,.tr 1 R])
section
variable {n l:Nat} {G0 R0:List AV}
theorem app_at (hG:G0.length=l) (X:AV) (Z:List AV):(G0++X :: Z).getD l .any=X:=by rw [← hG];simp
theorem app_set (hG:G0.length=l) (X Y:AV) (Z:List AV):(G0++X :: Z).set l Y=G0++Y :: Z:=by rw [← hG];simp
theorem chA_set1 (hG:G0.length=l) (X Y:AV) (Z R:List AV) (h:X.setC 0 Y=Y):(chA n (G0++X :: Z) R).setP ([(0,1)]++[(l,0)]) Y=chA n (G0++Y :: Z) R:=by
  show AV.pt 3 (.agg [.i64 n,.tr 1 ((G0++X :: Z).set l (((G0++X :: Z).getD l .any).setC 0 Y)),.tr 1 R])=_
  rw [app_at hG,h,app_set hG]
theorem chA_set2 (hR:R0.length=l) (X Y:AV) (Z G:List AV) (h:X.setC 0 Y=Y):(chA n G (R0++X :: Z)).setP ([(0,2)]++[(l,0)]) Y=chA n G (R0++Y :: Z):=by
  show AV.pt 3 (.agg [.i64 n,.tr 1 G,.tr 1 ((R0++X :: Z).set l (((R0++X :: Z).getD l .any).setC 0 Y))])=_
  rw [app_at hR,h,app_set hR]
theorem chA_at1 (hG:G0.length=l) (X:AV) (Z R:List AV) (h:X.cells=[X]):(chA n (G0++X :: Z) R).at ([(0,1)]++[(l,0)])=X:=by
  show ((G0++X :: Z).getD l .any).cells.getD 0 .any=X
  rw [app_at hG,h];rfl
theorem chA_at2 (hR:R0.length=l) (X:AV) (Z G:List AV) (h:X.cells=[X]):(chA n G (R0++X :: Z)).at ([(0,2)]++[(l,0)])=X:=by
  show ((R0++X :: Z).getD l .any).cells.getD 0 .any=X
  rw [app_at hR,h];rfl
end
theorem specP_of {P:Program} {f:FuncId} {args:List AV} {outs:List (Option AV)} {r:AV} (h:SpecX P f args outs r):SpecP P f args outs r (fun _ _=>false):=by
  obtain ⟨a,b,c,d⟩:=h
  refine ⟨a,b,c,fun I π w vals h1 h2 h3 h4=>(d I π w vals h1 h2 h3 h4).mono ?_⟩
  rintro e w' ⟨I',π',x,g1,g2,g3,g4,g5,g6⟩
  refine ⟨I',π',x,g1,g2,g3,g4,fun j T hT q hq=>?_,g6⟩
  rcases hq with hq | hq
  · exact g5 j T hT q hq
  · cases hq
theorem inR_app {G0:List AV} {l:Nat} (hG:G0.length=l) (x:Value) (Z:List AV):InR (.tr 1 (G0++.v x :: Z)) l 0:=by
  have hl:l<(G0++AV.v x :: Z).length:=by simp;omega
  refine ⟨hl,?_⟩
  have:(G0++AV.v x :: Z)[l]=.v x:=by
    rw [← getD_eq _ _ .any hl,app_at hG]
  rw [this];exact Nat.zero_lt_one
theorem add_pin {P:Program} {f:FuncId} {n l:Nat} {G0 R0:List AV} (hG:G0.length=l) (hR:R0.length=l) (xs ys:List AV) (Ag Ar Ag' Ar':List AV) (a1 a2 r:AV)
    (h:∀ x y:Value,SpecX P f [chA n (G0++.v x :: Ag) (R0++.v y :: Ar),a1,a2] [some (chA n (G0++.v x :: Ag') (R0++.v y :: Ar'))] r) :
    SpecP P f [chA n (G0++.tr 1 xs :: Ag) (R0++.tr 1 ys :: Ar),a1,a2] [some (chA n (G0++.tr 1 xs :: Ag') (R0++.tr 1 ys :: Ar'))] r (pinAdd (pinAdd (fun _ _=>false) 0 [(0,2),(l,0)]) 0 [(0,1),(l,0)]):=by
  refine spec_pin (j0:=0) (z:=3) (z':=3) (X:=.tr 1 xs) (T2:=fun x=>chA n (G0++.v x :: Ag') (R0++.tr 1 ys :: Ar')) (p:=[(0,1)]) (i:=l) (j:=0) rfl rfl (chA_at1 hG _ _ _ rfl) rfl rfl (fun x=>⟨_,rfl⟩) (fun x=>rfl) (fun x=>⟨inR_app hG x Ag',chA_at1 hG _ _ _ rfl⟩) (fun x=>chA_set1 hG _ _ _ _ rfl) fun x=>?_
  rw [chA_set1 hG _ _ _ _ rfl]
  refine spec_pin (j0:=0) (z:=3) (z':=3) (X:=.tr 1 ys) (T2:=fun y=>chA n (G0++.v x :: Ag') (R0++.v y :: Ar')) (p:=[(0,2)]) (i:=l) (j:=0) rfl rfl (chA_at2 hR _ _ _ rfl) rfl rfl (fun x=>⟨_,rfl⟩) (fun x=>rfl) (fun x=>⟨inR_app hR x Ar',chA_at2 hR _ _ _ rfl⟩) (fun x=>chA_set2 hR _ _ _ _ rfl) fun y=>?_
  rw [List.set_cons_zero,chA_set2 hR _ _ _ _ rfl]
  exact specP_of (h x y)
end Ck
end Go.AM
namespace Go.AM
namespace Ch
/-! what the walk of 'add' goes through -/
def cst (l:List Nat):List Int:=l.map fun (x:Nat)=>(x:Int)
theorem cst_len (l:List Nat):(cst l).length=l.length:=by simp [cst]
theorem cst_app (a b:List Nat):cst (a++b)=cst a++cst b:=by simp [cst]
theorem cst_get {l:List Nat} {i:Nat} (h:i<l.length):(cst l).getD i 0=(l.getD i 0:Nat):=by
  unfold cst
  rw [getD_eq _ _ _ (by simpa using h),List.getElem_map,getD_eq _ _ _ h]
theorem cst_drop (l:List Nat) (k:Nat):(cst l).drop k=cst (l.drop k):=by simp [cst]
theorem que_head {es:List Int} {O:List Nat} {k o:Nat} (h:es.drop o=cst (O.drop k)) (hk:k<O.length):o<es.length∧es.getD o 0=(O.getD k 0:Nat):=by
  have hl:=congrArg List.length h
  rw [List.length_drop,cst_len,List.length_drop] at hl
  have ho:o<es.length:=by omega
  refine ⟨ho,?_⟩
  rw [List.drop_eq_getElem_cons ho,List.drop_eq_getElem_cons hk] at h
  simp only [cst,List.map_cons,List.cons.injEq] at h
  rw [getD_eq _ _ _ ho,getD_eq _ _ _ hk,h.1]
theorem que_tail {es:List Int} {O:List Nat} {k o:Nat} (h:es.drop o=cst (O.drop k)):es.drop (o+1)=cst (O.drop (k+1)):=by
  have:=congrArg (List.drop 1) h
  rwa [List.drop_drop,cst_drop,List.drop_drop] at this
theorem que_app {es:List Int} {O:List Nat} {k o:Nat} (h:es.drop o=cst (O.drop k)) (hk:k≤O.length) (p:Nat):((es.drop o).take (O.length - k)++[(p:Int)]).drop 0=cst ((O++[p]).drop k)∧((es.drop o).take (O.length - k)++[(p:Int)]).length=0+((O++[p]).length - k):=by
  rw [h,List.take_of_length_le (by rw [cst_len,List.length_drop];exact Nat.le_refl _),List.drop_append_of_le_length hk,cst_app]
  refine ⟨rfl,?_⟩
  rw [List.length_append,cst_len,List.length_drop,List.length_append];simp;omega
theorem brK_stay {gens row:List (List Int)} {k:Nat} (h:(brK gens row k).2.length≤k):∀ d,brK gens row (k+d)=brK gens row k
  | 0=>rfl
  | d+1=>by rw [← Nat.add_assoc,brK,brK_stay h d,if_neg (by omega)]
def sch (gs row:List (List Int)) (p j:Nat):List Int:=compI (compI (row.getD p []) (gs.getD j default)) (invI (row.getD (pt (gs.getD j default) p) []))
def adI (n d l:Nat) (gs row:List (List Int)) (p:Nat) (C:List Lv):Nat→List Lv
  | 0=>C
  | j+1=>addL n d (adI n d l gs row p C j) (l+1) (sch gs row p j)
def adO (n d l:Nat) (gs row:List (List Int)) (O:List Nat) (C:List Lv):Nat→List Lv
  | 0=>C
  | i+1=>adI n d l gs row (O.getD i 0) (adO n d l gs row O C i) gs.length
theorem adI_fold (n d l:Nat) (gs row:List (List Int)) (p:Nat) (C:List Lv):∀ j,j≤gs.length→adI n d l gs row p C j=((gs.take j).map fun s=>compI (compI (row.getD p []) s) (invI (row.getD (pt s p) []))).foldl (fun C h=>addL n d C (l+1) h) C
  | 0,_=>by simp [adI]
  | j+1,h=>by
    rw [adI,adI_fold n d l gs row p C j (by omega),take_succ_eq gs j default (by omega),List.map_append,List.foldl_append]
    rfl
theorem adO_fold (n d l:Nat) (gs row:List (List Int)) (O:List Nat) (C:List Lv):∀ i,i≤O.length→adO n d l gs row O C i=((O.take i).flatMap fun p=>gs.map fun s=>compI (compI (row.getD p []) s) (invI (row.getD (pt s p) []))).foldl (fun C h=>addL n d C (l+1) h) C
  | 0,_=>by simp [adO]
  | i+1,h=>by
    rw [adO,adI_fold _ _ _ _ _ _ _ _ (Nat.le_refl _),adO_fold n d l gs row O C i (by omega),take_succ_eq O i 0 (by omega),List.flatMap_append,List.foldl_append,List.take_length]
    simp
theorem adO_all (n d l:Nat) (gs row:List (List Int)) (C:List Lv):adO n d l gs row (filL row) C (filL row).length=(schL gs row).foldl (fun C h=>addL n d C (l+1) h) C:=by
  rw [adO_fold _ _ _ _ _ _ _ _ (Nat.le_refl _),List.take_length];rfl
structure Part (n d l:Nat) (C:List Lv):Prop where
  good:Good n C l
  len:C.length=d
  wt:Wt C
theorem Part.add {n d l:Nat} (h1:1≤n) (h2:n≤20) {C:List Lv} (h:Part n d l C) (hn:l+d=n) {g:List Int} (hg:PN n g) (hf:∀ i,i<l→pt g i=i):Part n d l (addL n d C l g):=by
  have a:=(addL_ok h1 h2 d C l g h.good h.len hn hg hf).1
  exact ⟨a.good,by rw [a.len,h.len],(addL_grw h1 h2 d C l g h.good h.len hn hg hf).wt h.wt⟩
theorem sch_ok {n l:Nat} (h1:1≤n) (h2:n≤20) {gs row:List (List Int)} (hl:l<n) (b1:LvOk n l ⟨gs,row⟩) (b3:∀ p,p<n→row.getD p []≠[]→∀ s∈gs,row.getD (pt s p) []≠[]) {p j:Nat} (hp:p∈filL row) (hj:j<gs.length):PN n (sch gs row p j)∧∀ i,i<l+1→pt (sch gs row p j) i=i :=
  sch_fix h1 h2 hl b1 b3 _ (List.mem_flatMap.2 ⟨p,hp,List.mem_map.2 ⟨gs.getD j default,mem_getD gs j default hj,rfl⟩⟩)
theorem adI_part {n d l:Nat} (h1:1≤n) (h2:n≤20) {gs row:List (List Int)} (hn:l+1+d=n) (b1:LvOk n l ⟨gs,row⟩) (b3:∀ p,p<n→row.getD p []≠[]→∀ s∈gs,row.getD (pt s p) []≠[]) {p:Nat} (hp:p∈filL row) {C:List Lv} (h:Part n d (l+1) C):∀ j,j≤gs.length→Part n d (l+1) (adI n d l gs row p C j)
  | 0,_=>h
  | j+1,hj=>by
    obtain ⟨a,b⟩:=sch_ok h1 h2 (by omega) b1 b3 hp (show j<gs.length by omega)
    exact (adI_part h1 h2 hn b1 b3 hp h j (by omega)).add h1 h2 hn a b
theorem adO_part {n d l:Nat} (h1:1≤n) (h2:n≤20) {gs row:List (List Int)} (hn:l+1+d=n) (b1:LvOk n l ⟨gs,row⟩) (b3:∀ p,p<n→row.getD p []≠[]→∀ s∈gs,row.getD (pt s p) []≠[]) {C:List Lv} (h:Part n d (l+1) C):∀ i,i≤(filL row).length→Part n d (l+1) (adO n d l gs row (filL row) C i)
  | 0,_=>h
  | i+1,hi=>adI_part h1 h2 hn b1 b3 (mem_getD _ _ _ (by omega)) (adO_part h1 h2 hn b1 b3 h i (by omega)) _ (Nat.le_refl _)
end Ch
end Go.AM
set_option maxRecDepth 8000
namespace Go.AM
namespace Ck
open Go.Proofs
open Ch (Lv hasL PN pt Good)
def MM:FuncId→List Bool:=fun f=>if f=260 then [true,false,false] else []
theorem fz_rows (C:List Lv):(C.map rN).map AV.fz=C.map rE:=by
  rw [List.map_map]
  refine List.map_congr_left fun L _=>?_
  show AV.sl 1 (AV.fzL (L.row.map nlv))=_
  rw [fzL_map,List.map_map]
  congr 1
  refine List.map_congr_left fun t _=>?_
  cases t <;> rfl
theorem chain_rows {n:Nat}:∀ {C:List Lv} {l:Nat},Ch.Good n C l→∀ L∈C,L.row.length=n∧∀ p,p<n→L.row.getD p []≠[]→PN n (L.row.getD p [])
  | L :: C,l,h,M,hM=>by
    rcases List.mem_cons.1 hM with rfl | hM
    · exact ⟨h.2.1.len,fun p hp hpe=>(h.2.1.row p hp hpe).1⟩
    · exact chain_rows h.2.2.2.2.2 M hM
theorem nlv_fz (r:List (List Int)):AV.fzL (r.map nlv)=r.map nlv:=by
  rw [fzL_map,List.map_map]
  refine List.map_congr_left fun t _=>?_
  cases t <;> rfl
theorem pinAdd_go (pins:Nat→Path→Bool) (j:Nat) (d:Path) (i:Nat) (q:Path):pinAdd pins j d i q=(pins i q || (decide (i=j) && isPref d q)):=rfl
theorem bears_ints:∀ l:List Int,AV.bearsL (l.map AV.i64)=false
  | []=>rfl
  | a :: l=>by rw [List.map_cons,AV.bearsL,bears_ints l];rfl
theorem nlv_fm (r:List (List Int)):(r.map nlv).map AV.fz=r.map nlv:=by rw [← fzL_map,nlv_fz]
theorem orb_cst (row:List (List Int)):orbK row row.length=Ch.cst (Ch.filL row):=by
  have key:∀ k,orbK row k=Ch.cst ((List.range k).filter fun p=>row.getD p [] != []):=by
    intro k
    induction k with
    | zero=>rfl
    | succ k ih =>
      rw [orbK,List.range_succ,List.filter_append,Ch.cst_app,← ih]
      by_cases h:row.getD k []=[]
      · rw [if_pos h]
        have:(row.getD k [] != [])=false:=by rw [h];rfl
        rw [List.filter_cons,this];simp [Ch.cst]
      · rw [if_neg h]
        have:(row.getD k [] != [])=true:=by simpa using h
        rw [List.filter_cons,this];simp [Ch.cst]
  exact key _
set_option maxHeartbeats 8000000 in
theorem addI {n:Nat} (h1:1≤n) (h2:n≤20):∀ (d:Nat) (C:List Lv) (G0 R0:List AV) (l:Nat) (g:List Int),G0.length=l→R0.length=l→C.length=d→l+d=n→Ch.Good n C l→Ch.Wt C→PN n g→(∀ i,i<l→pt g i=i) →
    SpecX Try.prog 260 [chA n (G0++C.map gN) (R0++C.map rN),.i64 l,isl g] [some (chA n (G0++(Ch.addL n d C l g).map gN) (R0++(Ch.addL n d C l g).map rN))] (.tup []):=by
  intro d
  induction d with
  | zero =>
    intro C G0 R0 l g hG hR hC hl hgood hwt hg hf
    have hC0:=List.length_eq_zero_iff.1 hC
    subst hC0
    rw [show Ch.addL n 0 [] l g=[] from rfl]
    simp only [List.map_nil,List.append_nil]
    have q:=hasX n (.sl 1 (G0.map AV.fz)) (R0.map AV.fz) [] l g (by simpa using hR) (by simpa using hl) h1 h2 (fun L hL=>by cases hL) hg
    rw [hasL] at q
    simp only [List.map_nil,List.append_nil] at q
    refine spec_of_awp_any (M:=MM) (np:=3) (X:=[1,20]) (fz:=false) mixed Try.func260 rfl rfl (by decide) rfl (Nat.le_refl _) (by decide +kernel) (.inl rfl) (by first | trivial | simp only [sigsOk_nil,sigsOk_some,sigsOk_none,sig_tr,sig_pt,sig_mt,sig_agg,List.map_cons,List.map_nil,sig1_tr,sig1_pt,sig1_v,and_self,true_and,List.length_map,List.length_set]) ?_
    simp -dsimp -implicitDefEqProofs (disch:=first | omega | (simp only [lenr];try omega)) only [↓amPre,amAll,↓reduceIte,reduceCtorEq,Nat.reduceEqDiff,Nat.reduceBEq,Nat.reduceAdd,Nat.reduceLeDiff,Nat.reduceSub,Nat.reduceMul,Int.reduceToNat,List.size_toArray,tyF,MM,bu0,cbU49,fzL_map]
    refine callP_of (q) ?_
    simp -dsimp -implicitDefEqProofs (disch:=first | omega | (simp only [lenr];try omega)) only [↓amPre,amAll,↓reduceIte,reduceCtorEq,Nat.reduceEqDiff,Nat.reduceBEq,Nat.reduceAdd,Nat.reduceLeDiff,Nat.reduceSub,Nat.reduceMul,Int.reduceToNat,List.size_toArray,tyF,MM,bu0,cbU49]
    try rfl
  | succ d ih =>
    intro C G0 R0 l g hG hR hC hl hgood hwt hg hf
    obtain ⟨L,C',rfl⟩:=List.exists_cons_of_length_eq_add_one hC
    have hCl:C'.length=d:=by simpa using hC
    have hrows:=Ch.good_rows hgood
    have hL400:=Ch.gens_400 h2 hgood hwt (by rw [hC];omega) L (by simp)
    have hok:=hgood.2.1
    have hln:=hgood.1
    have q:=hasX n (.sl 1 ((G0++(L :: C').map gN).map AV.fz)) (R0.map AV.fz) (L :: C') l g (by simpa using hR) (by rw [hC];omega) h1 h2 (chain_rows hgood) hg
    have hzr:((R0++rN L :: C'.map rN).map AV.fz)=R0.map AV.fz++(L :: C').map rE:=by rw [List.map_append,← fz_rows (L :: C')];rfl
    by_cases hh:hasL (L :: C') l g=true
    · rw [hh] at q
      have hadd:Ch.addL n (d+1) (L :: C') l g=L :: C':=by rw [Ch.addL,if_pos hh]
      rw [hadd]
      refine spec_of_awp_any (M:=MM) (np:=3) (X:=[1,20]) (fz:=false) mixed Try.func260 rfl rfl (by decide) rfl (Nat.le_refl _) (by decide +kernel) (.inl rfl) (by first | trivial | simp only [sigsOk_nil,sigsOk_some,sigsOk_none,sig_tr,sig_pt,sig_mt,sig_agg,List.map_cons,List.map_nil,sig1_tr,sig1_pt,sig1_v,and_self,true_and,List.length_map,List.length_set]) ?_
      simp -dsimp -implicitDefEqProofs (disch:=first | omega | (simp only [lenr];try omega)) only [↓amPre,amAll,↓reduceIte,reduceCtorEq,Nat.reduceEqDiff,Nat.reduceBEq,Nat.reduceAdd,Nat.reduceLeDiff,Nat.reduceSub,Nat.reduceMul,Int.reduceToNat,List.size_toArray,tyF,MM,bu0,cbU49,fzL_map,hzr]
      refine callP_of (q) ?_
      simp -dsimp -implicitDefEqProofs (disch:=first | omega | (simp only [lenr];try omega)) only [↓amPre,amAll,↓reduceIte,reduceCtorEq,Nat.reduceEqDiff,Nat.reduceBEq,Nat.reduceAdd,Nat.reduceLeDiff,Nat.reduceSub,Nat.reduceMul,Int.reduceToNat,List.size_toArray,tyF,MM,bu0,cbU49]
      try rfl
    have hhf:hasL (L :: C') l g=false:=by simpa using hh
    rw [hhf] at q
    have hadd:Ch.addL n (d+1) (L :: C') l g=⟨L.gens++[g],Ch.brR n (L.gens++[g]) L.row⟩ :: (Ch.schL (L.gens++[g]) (Ch.brR n (L.gens++[g]) L.row)).foldl (fun C h=>Ch.addL n d C (l+1) h) C':=by rw [Ch.addL,if_neg hh]
    rw [hadd]
    have hgN2:gN ⟨L.gens++[g],Ch.brR n (L.gens++[g]) L.row⟩=.tr 1 ((L.gens++[g]).map fun s=>isl s):=gN_ne (by simp)
    simp only [List.map_cons] at q ⊢
    rw [hgN2]
    clear hgN2
    have hCGl:(C'.map gN).length=d:=by simpa using hCl
    have hCRl:(C'.map rN).length=d:=by simpa using hCl
    generalize hCG:C'.map gN=CG at *
    generalize hCR:C'.map rN=CR at *
    have gG:∀ (X:AV) (Z:List AV),(G0++X :: Z).getD l .any=X:=fun X Z=>app_at hG X Z
    have gR:∀ (X:AV) (Z:List AV),(R0++X :: Z).getD l .any=X:=fun X Z=>app_at hR X Z
    have sG:∀ (X Y:AV) (Z:List AV),(G0++X :: Z).set l Y=G0++Y :: Z:=fun X Y Z=>by rw [← hG];simp
    have sR:∀ (X Y:AV) (Z:List AV),(R0++X :: Z).set l Y=R0++Y :: Z:=fun X Y Z=>by rw [← hR];simp
    have lG:G0.length+(CG.length+1)=n:=by omega
    have lR:R0.length+(CR.length+1)=n:=by omega
    have hm:(L.gens++[g]).length=L.gens.length+1:=by simp
    refine spec_of_awp_any (M:=MM) (np:=3) (X:=[1,20]) (fz:=false) mixed Try.func260 rfl rfl (by decide) rfl (Nat.le_refl _) (by decide +kernel) (.inl rfl) (by first | trivial | simp only [sigsOk_nil,sigsOk_some,sigsOk_none,sig_tr,sig_pt,sig_mt,sig_agg,List.map_cons,List.map_nil,sig1_tr,sig1_pt,sig1_v,and_self,true_and,List.length_map,List.length_set]) ?_
    simp -dsimp -implicitDefEqProofs (disch:=first | omega | (simp only [lenr];try omega)) only [↓amPre,amAll,↓reduceIte,reduceCtorEq,Nat.reduceEqDiff,Nat.reduceBEq,Nat.reduceAdd,Nat.reduceLeDiff,Nat.reduceSub,Nat.reduceMul,Int.reduceToNat,List.size_toArray,tyF,MM,bu0,cbU49,fzL_map,hzr]
    refine callP_of (q) ?_
    simp -dsimp -implicitDefEqProofs (disch:=first | omega | (simp only [lenr];try omega)) only [↓amPre,amAll,↓reduceIte,reduceCtorEq,Nat.reduceEqDiff,Nat.reduceBEq,Nat.reduceAdd,Nat.reduceLeDiff,Nat.reduceSub,Nat.reduceMul,Int.reduceToNat,List.size_toArray,tyF,MM,bu0,cbU49]
    refine any_fin (fun st=>st.fr 0=.loc 0 [] 0 0∧st.fr 1=.i64 l∧st.fr 2=isl g∧st.mem 0=some (chA n (G0++.tr 1 ((L.gens++[g]).map fun s=>isl s) :: CG) (R0++rN L :: CR))) ?_ ?_
    · intro hfin
      by_cases hge:L.gens=[]
      · have hgN:=gN_nil hge
        refine lat_go [[],[0],[0,1],[0,1,2],[],[],[5],[5,6],[5,6,7],[],[5,6,7,8,9],[5,6,7,8,9,10],[],[12],[5,6,7,8,9,10,11,12,13],[0,1,2,3,4,5,6,7,8,9,10,11,12,13,14],[0,1,2,3,4,5,6,7,8,9,10,11,12,13,14,15]] [[1,2,3,15,16],[2,3,15,16],[3,15,16],[15,16],[15,16],[6,7,8,10,11,14,15,16],[7,8,10,11,14,15,16],[8,10,11,14,15,16],[10,11,14,15,16],[10,11,14,15,16],[11,14,15,16],[14,15,16],[13,14,15,16],[14,15,16],[15,16],[16],[]] [0,1,2,3,4,5,6,7,8,9,10,11,12,13,14,15,16] (fun c st=>st.fr 0=.loc 0 [] 0 0∧st.fr 1=.i64 l∧st.fr 2=isl g∧(c 0=true→st.fr 19=.loc 0 [] 0 0)∧(c 1=true→st.fr 20=.loc 0 [] 0 0)∧(c 2=true→st.fr 21=.loc 0 [] 0 1)∧(c 3=true→st.fr 22=.ref 0 [(0,1)] 1 0 n)∧(c 4=true→st.fr 23=.i64 l)∧(c 5=true→st.fr 24=.loc 0 [] 0 0)∧(c 6=true→st.fr 25=.loc 0 [] 0 0)∧(c 7=true→st.fr 26=.loc 0 [] 0 1)∧(c 8=true→st.fr 27=.ref 0 [(0,1)] 1 0 n)∧(c 9=true→st.fr 28=.i64 l)∧(c 10=true→st.fr 29=.loc 0 [(0,1)] l 0)∧(c 11=true→st.fr 30=.nilsl)∧(c 12=true→st.fr 31=isl g)∧(c 13=true→st.fr 32=.ref 32 [] 1 0 1)∧(c 14=true→c 16=false→st.fr 33=.ref 33 [] 1 0 1)∧(c 15=true→st.fr 34=.loc 0 [(0,1)] l 0)∧st.mem 0=some (bif c 16 then (chA n (G0++.tr 1 [isl g] :: CG) (R0++rN L :: CR)) else (chA n (G0++.nilsl :: CG) (R0++rN L :: CR)))∧(c 13=true→st.mem 32=some (.tr 1 [isl g]))∧(c 14=true→c 16=false→st.mem 33=some (.tr 1 [isl g]))) (by decide +kernel) ?_ ?_ ?_
        · (try simp -dsimp -implicitDefEqProofs (disch:=first | omega | (simp only [lenr];try omega)) only [↓amPre,amAll,↓reduceIte,reduceCtorEq,Nat.reduceEqDiff,Nat.reduceBEq,Nat.reduceAdd,Nat.reduceLeDiff,Nat.reduceSub,Nat.reduceMul,Int.reduceToNat,List.size_toArray,tyF,MM,bu0,cbU49,latj,gG,sG,lG,lR,hgN])
          all_goals (try (repeat' (first | apply And.intro | rfl | (intro _;rfl) | (intro _ _;rfl))))
        · refine ⟨?_,?_,?_,?_,?_,?_,?_,?_,?_,?_,?_,?_,?_,?_,?_,?_,?_,trivial⟩
          all_goals rintro c st R hC hJ hR
          all_goals simp only [latm] at hC
          all_goals simp only [hC,latj] at hJ
          all_goals simp -dsimp -implicitDefEqProofs (disch:=first | omega | (simp only [lenr];try omega)) only [↓amPre,amAll,↓reduceIte,reduceCtorEq,Nat.reduceEqDiff,Nat.reduceBEq,Nat.reduceAdd,Nat.reduceLeDiff,Nat.reduceSub,Nat.reduceMul,Int.reduceToNat,List.size_toArray,tyF,MM,bu0,cbU49,hJ,gG,sG,lG,lR,hgN]
          all_goals refine hR _ ?_
          all_goals (simp +contextual -dsimp -implicitDefEqProofs only [amAll,↓reduceIte,reduceCtorEq,Nat.reduceEqDiff,Nat.reduceBEq,Nat.reduceAdd,latj,hC,hJ,gG,sG,lG,lR,hgN];try (repeat' (first | apply And.intro | rfl | (intro _;rfl) | (intro _ _;rfl))))
        intro c st hall hJ
        simp only [latm] at hall
        simp only [hall,latj] at hJ
        obtain ⟨f0,f1,f2,f19,f20,f21,f22,f23,f24,f25,f26,f27,f28,f29,f30,f31,f32,f34,m0,m32⟩:=hJ
        clear hall
        refine hfin st ⟨f0,f1,f2,?_⟩
        rw [hge];exact m0
      · have hgN:=gN_ne hge
        refine lat_go [[],[0],[0,1],[0,1,2],[],[],[5],[5,6],[5,6,7],[],[5,6,7,8,9],[5,6,7,8,9,10],[],[12],[5,6,7,8,9,10,11,12,13],[0,1,2,3,4,5,6,7,8,9,10,11,12,13,14],[0,1,2,3,4,5,6,7,8,9,10,11,12,13,14,15]] [[1,2,3,15,16],[2,3,15,16],[3,15,16],[15,16],[15,16],[6,7,8,10,11,14,15,16],[7,8,10,11,14,15,16],[8,10,11,14,15,16],[10,11,14,15,16],[10,11,14,15,16],[11,14,15,16],[14,15,16],[13,14,15,16],[14,15,16],[15,16],[16],[]] [0,1,2,3,4,5,6,7,8,9,10,11,12,13,14,15,16] (fun c st=>st.fr 0=.loc 0 [] 0 0∧st.fr 1=.i64 l∧st.fr 2=isl g∧(c 0=true→st.fr 19=.loc 0 [] 0 0)∧(c 1=true→st.fr 20=.loc 0 [] 0 0)∧(c 2=true→st.fr 21=.loc 0 [] 0 1)∧(c 3=true→st.fr 22=.ref 0 [(0,1)] 1 0 n)∧(c 4=true→st.fr 23=.i64 l)∧(c 5=true→st.fr 24=.loc 0 [] 0 0)∧(c 6=true→st.fr 25=.loc 0 [] 0 0)∧(c 7=true→st.fr 26=.loc 0 [] 0 1)∧(c 8=true→st.fr 27=.ref 0 [(0,1)] 1 0 n)∧(c 9=true→st.fr 28=.i64 l)∧(c 10=true→st.fr 29=.loc 0 [(0,1)] l 0)∧(c 11=true→c 14=false→st.fr 30=.ref 0 [(0,1),(l,0)] 1 0 L.gens.length)∧(c 12=true→st.fr 31=isl g)∧(c 13=true→st.fr 32=.ref 32 [] 1 0 1)∧(c 14=true→c 16=false→st.fr 33=.ref 33 [] 1 0 (L.gens.length+1))∧(c 15=true→st.fr 34=.loc 0 [(0,1)] l 0)∧st.mem 0=some (bif c 16 then (chA n (G0++.tr 1 ((L.gens++[g]).map fun s=>isl s) :: CG) (R0++rN L :: CR)) else (bif c 14 then (chA n (G0++.any :: CG) (R0++rN L :: CR)) else (chA n (G0++.tr 1 (L.gens.map fun s=>isl s) :: CG) (R0++rN L :: CR))))∧(c 13=true→st.mem 32=some (.tr 1 [isl g]))∧(c 14=true→c 16=false→st.mem 33=some (.tr 1 ((L.gens++[g]).map fun s=>isl s)))) (by decide +kernel) ?_ ?_ ?_
        · (try simp -dsimp -implicitDefEqProofs (disch:=first | omega | (simp only [lenr];try omega)) only [↓amPre,amAll,↓reduceIte,reduceCtorEq,Nat.reduceEqDiff,Nat.reduceBEq,Nat.reduceAdd,Nat.reduceLeDiff,Nat.reduceSub,Nat.reduceMul,Int.reduceToNat,List.size_toArray,tyF,MM,bu0,cbU49,latj,gG,sG,lG,lR,hgN])
          all_goals (try (repeat' (first | apply And.intro | rfl | (intro _;rfl) | (intro _ _;rfl))))
        · refine ⟨?_,?_,?_,?_,?_,?_,?_,?_,?_,?_,?_,?_,?_,?_,?_,?_,?_,trivial⟩
          all_goals rintro c st R hC hJ hR
          all_goals simp only [latm] at hC
          all_goals rcases Bool.eq_false_or_eq_true (c 14) with hx14 | hx14
          all_goals simp only [hC,hx14,latj] at hJ
          all_goals simp -dsimp -implicitDefEqProofs (disch:=first | omega | (simp only [lenr];try omega)) only [↓amPre,amAll,↓reduceIte,reduceCtorEq,Nat.reduceEqDiff,Nat.reduceBEq,Nat.reduceAdd,Nat.reduceLeDiff,Nat.reduceSub,Nat.reduceMul,Int.reduceToNat,List.size_toArray,tyF,MM,bu0,cbU49,hJ,gG,sG,lG,lR,hgN]
          all_goals refine hR _ ?_
          all_goals (simp +contextual -dsimp -implicitDefEqProofs only [amAll,↓reduceIte,reduceCtorEq,Nat.reduceEqDiff,Nat.reduceBEq,Nat.reduceAdd,latj,hC,hJ,hx14,gG,sG,lG,lR,hgN];try (repeat' (first | apply And.intro | rfl | (intro _;rfl) | (intro _ _;rfl))))
        intro c st hall hJ
        simp only [latm] at hall
        simp only [hall,latj] at hJ
        obtain ⟨f0,f1,f2,f19,f20,f21,f22,f23,f24,f25,f26,f27,f28,f29,f31,f32,f34,m0,m32⟩:=hJ
        clear hall
        exact hfin st ⟨f0,f1,f2,m0⟩
    rintro st ⟨f0,f1,f2,m0⟩
    clear q hh hhf hadd hzr
    obtain ⟨gs,hgs⟩:∃ gs,gs=L.gens++[g]:=⟨_,rfl⟩
    rw [← hgs] at m0 hm ⊢
    have hgl:gs.length≤401:=by omega
    have hgp:∀ s∈gs,PN n s:=fun s hs=>by
      rw [hgs] at hs
      rcases List.mem_append.1 hs with q | q
      · exact (hok.gens _ q).1
      · rw [List.mem_singleton.1 q];exact hg
    have hgm:∀ j,j<gs.length→PN n (gs.getD j default):=fun j hj=>hgp _ (mem_getD gs j default hj)
    have hrl:=hok.len
    have q0:=orbitOfS L.row (by omega)
    rw [orb_cst] at q0
    simp -dsimp -implicitDefEqProofs (disch:=first | omega | (simp only [lenr];try omega)) only [↓amPre,amAll,↓reduceIte,reduceCtorEq,Nat.reduceEqDiff,Nat.reduceBEq,Nat.reduceAdd,Nat.reduceLeDiff,Nat.reduceSub,Nat.reduceMul,Int.reduceToNat,List.size_toArray,tyF,MM,bu0,cbU49,f0,f1,f2,m0,gG,gR,sG,sR,lG,lR,nlv_fz,nlv_fm]
    have hok2:Ch.LvOk n l ⟨gs,L.row⟩:=by
      refine ⟨fun s hs=>?_,hok.len,hok.base,fun p hp hpe=>?_⟩
      · rw [hgs] at hs
        rcases List.mem_append.1 hs with q | q
        · exact hok.gens _ q
        · rw [List.mem_singleton.1 q];exact ⟨hg,hf⟩
      · obtain ⟨q1,q2,q3⟩:=hok.row p hp hpe
        exact ⟨q1,Ch.Gen.mono (fun s hs=>by rw [hgs];exact List.mem_append_left _ hs) q2,q3⟩
    have hbr:=fun k=>(Ch.brK_ok h1 h2 hok2 hln k).1
    have hbn:=fun k=>Ch.nodup_lt_len (hbr k).nd fun x hx=>(((hbr k).mem x).1 hx).1
    refine callP_of (q0) ?_
    simp -dsimp -implicitDefEqProofs (disch:=first | omega | (simp only [lenr];try omega)) only [↓amPre,amAll,↓reduceIte,reduceCtorEq,Nat.reduceEqDiff,Nat.reduceBEq,Nat.reduceAdd,Nat.reduceLeDiff,Nat.reduceSub,Nat.reduceMul,Int.reduceToNat,List.size_toArray,tyF,MM,bu0,cbU49]
    refine awp_loopR 43 86 (itr (Ch.cst (Ch.filL L.row))) (by simp -dsimp -implicitDefEqProofs (disch:=first | omega | (simp only [lenr];try omega)) only [↓amPre,amAll,↓reduceIte,reduceCtorEq,Nat.reduceEqDiff,Nat.reduceBEq,Nat.reduceAdd,Nat.reduceLeDiff,Nat.reduceSub,Nat.reduceMul,Int.reduceToNat,List.size_toArray,tyF,MM,bu0,cbU49]) (by decide) (by decide) (by decide) (fun k st=>k≤n∧st.fr 0=.loc 0 [] 0 0∧st.fr 1=.i64 l∧st.fr 6=.ref 0 [(0,2),(l,0)] 1 0 n∧st.mem 0=some (chA n (G0++.tr 1 (gs.map fun s=>isl s) :: CG) (R0++.tr 1 ((Ch.brK gs L.row k).1.map nlv) :: CR))∧(k≤(Ch.brK gs L.row k).2.length∧∃ o es,st.fr 7=.ref 86 [] 1 o ((Ch.brK gs L.row k).2.length - k)∧st.mem 86=some (itr es)∧es.drop o=Ch.cst ((Ch.brK gs L.row k).2.drop k)∧es.length=o+((Ch.brK gs L.row k).2.length - k))) (n) ?_ ?_
    · simp -dsimp -implicitDefEqProofs (disch:=first | omega | (simp only [lenr];try omega)) only [↓amPre,amAll,↓reduceIte,reduceCtorEq,Nat.reduceEqDiff,Nat.reduceBEq,Nat.reduceAdd,Nat.reduceLeDiff,Nat.reduceSub,Nat.reduceMul,Int.reduceToNat,List.size_toArray,tyF,MM,bu0,cbU49,ren_eq,f0,f1,m0,hrl,Ch.cst_len]
      refine ⟨Nat.zero_le _,rfl,Nat.zero_le _,0,Ch.cst (Ch.filL L.row),rfl,rfl,rfl,?_⟩
      rw [Ch.cst_len];exact (Nat.zero_add _).symm
    rintro k st _ ⟨hk,f0,f1,f6,m0,ek⟩
    obtain ⟨hkl,o,es,f7,m86,hes,hel⟩:=ek
    have hbk:=hbr k
    have hbnk:=hbn k
    have hbk1:k<(Ch.brK gs L.row k).2.length→Ch.brK gs L.row (k+1)=Ch.brIn gs ((Ch.brK gs L.row k).2.getD k 0) (Ch.brK gs L.row k) gs.length:=fun h=>by rw [Ch.brK,if_pos h]
    have hsty:=Ch.brK_stay (gens:=gs) (row:=L.row) (k:=k)
    have hbn1:=hbn (k+1)
    obtain ⟨S,hS⟩:∃ S,S=Ch.brK gs L.row k:=⟨_,rfl⟩
    rw [← hS] at f7 m0 hes hel hkl hbk hbnk hbk1 hsty
    by_cases c1:k<S.2.length
    · have hq:=Ch.que_head hes c1
      obtain ⟨y,hy⟩:∃ y,y=S.2.getD k 0:=⟨_,rfl⟩
      have hyS:y∈S.2:=by rw [hy];exact mem_getD _ _ _ c1
      have hyn:=((hbk.mem y).1 hyS).1
      have hyne:=((hbk.mem y).1 hyS).2
      have hbi:=fun j hj=>Ch.brIn_ok h1 h2 hbk hln hyS j hj
      rw [← hy] at hq
      rw [hbk1 c1,← hy] at hbn1
      rw [hbk1 c1,← hy]
      simp -dsimp -implicitDefEqProofs (disch:=first | omega | (simp only [lenr];try omega)) only [↓amPre,amAll,↓reduceIte,reduceCtorEq,Nat.reduceEqDiff,Nat.reduceBEq,Nat.reduceAdd,Nat.reduceLeDiff,Nat.reduceSub,Nat.reduceMul,Int.reduceToNat,List.size_toArray,tyF,MM,bu0,cbU49,f0,f1,f6,m0,f7,m86,gG,gR,lG,lR]
      refine awp_loop (fun j st=>j≤gs.length∧st.fr 57=.i64 j∧st.fr 56=.i64 gs.length∧st.fr 55=.ref 0 [(0,1),(l,0)] 1 0 gs.length∧st.fr 0=.loc 0 [] 0 0∧st.fr 1=.i64 l∧st.fr 6=.ref 0 [(0,2),(l,0)] 1 0 n∧st.mem 0=some (chA n (G0++.tr 1 (gs.map fun s=>isl s) :: CG) (R0++.tr 1 ((Ch.brIn gs y S j).1.map nlv) :: CR))∧(∃ o es,st.fr 7=.ref 86 [] 1 o ((Ch.brIn gs y S j).2.length - k)∧st.mem 86=some (itr es)∧es.drop o=Ch.cst ((Ch.brIn gs y S j).2.drop k)∧es.length=o+((Ch.brIn gs y S j).2.length - k))) (gs.length) ?_ ?_
      · simp -dsimp -implicitDefEqProofs (disch:=first | omega | (simp only [lenr];try omega)) only [↓amPre,amAll,↓reduceIte,reduceCtorEq,Nat.reduceEqDiff,Nat.reduceBEq,Nat.reduceAdd,Nat.reduceLeDiff,Nat.reduceSub,Nat.reduceMul,Int.reduceToNat,List.size_toArray,tyF,MM,bu0,cbU49,f0,f1,f6,m0,f7,m86,m0]
        exact ⟨Nat.zero_le _,rfl,rfl,o,es,rfl,rfl,hes,hel⟩
      rintro j st _ ⟨hj,f57,f56,f55,f0,f1,f6,m0,ej⟩
      obtain ⟨o,es,f7,m86,hes,hel⟩:=ej
      obtain ⟨hb1,hgr,_⟩:=hbi j hj
      have hst:Ch.brIn gs y S (j+1)=Ch.brStep y (Ch.brIn gs y S j) (gs.getD j default):=rfl
      have hbn2:=Ch.nodup_lt_len (hbi j hj).1.nd fun x hx=>(((hbi j hj).1.mem x).1 hx).1
      have hq2:k<(Ch.brIn gs y S j).2.length∧(Ch.brIn gs y S j).2.getD k 0=y:=by
        obtain ⟨⟨e,he⟩,_⟩:=hgr
        rw [he,List.length_append,getD_app_l _ _ _ _ c1]
        exact ⟨by omega,hy.symm⟩
      obtain ⟨S3,hS3⟩:∃ S3,S3=Ch.brIn gs y S (j+1):=⟨_,rfl⟩
      rw [← hS3] at hst ⊢
      obtain ⟨S2,hS2⟩:∃ S2,S2=Ch.brIn gs y S j:=⟨_,rfl⟩
      rw [← hS2] at f7 m0 hes hel hb1 hst hbn2 hq2
      have hq:=Ch.que_head hes hq2.1
      rw [hq2.2] at hq
      have hrl2:S2.1.length=n:=hb1.lv.len
      by_cases c2:j<gs.length
      · have hgj:=hgm j c2
        obtain ⟨v,hv⟩:∃ v,v=gs.getD j default:=⟨_,rfl⟩
        rw [← hv] at hgj hst
        obtain ⟨p1,p2⟩:=hgj.get hyn
        have hvl:=hgj.1
        have r2:(S2.1.map nlv).getD (pt v y) .any=nlv (S2.1.getD (pt v y) []):=by
          rw [getD_eq _ _ _ (by rw [List.length_map,hrl2];exact p2),List.getElem_map]
          exact congrArg nlv (getD_eq _ _ _ _).symm
        unfold Ch.brStep at hst
        by_cases he:S2.1.getD (pt v y) []=[]
        · rw [if_pos he] at hst
          rw [he,nlv_nil] at r2
          have hy2:=(hb1.mem y).1 (by rw [← hq2.2];exact mem_getD _ _ _ hq2.1)
          obtain ⟨t1,_,_⟩:=hb1.lv.row y hy2.1 hy2.2
          have r3:(S2.1.map nlv).getD y .any=isl (S2.1.getD y []):=by
            rw [getD_eq _ _ _ (by rw [List.length_map,hrl2];exact hyn),List.getElem_map,← nlv_ne hy2.2]
            exact congrArg nlv (getD_eq _ _ _ _).symm
          have hS31:S3.1=S2.1.set (pt v y) (compI (S2.1.getD y []) v):=by rw [hst]
          have hS32:S3.2=S2.2++[pt v y]:=by rw [hst]
          have hcp:=t1.comp hgj
          have hset:(S2.1.map nlv).set (pt v y) (isl (compI (S2.1.getD y []) v))=S3.1.map nlv:=by
            rw [hS31,← nlv_ne (show compI (S2.1.getD y []) v≠[] from fun e=>by have:=hcp.1;rw [e] at this;simp at this;omega),List.map_set]
          have hqa:=Ch.que_app hes (Nat.le_of_lt hq2.1) (pt v y)
          rw [← hS32] at hqa
          have hl3:S3.2.length=S2.2.length+1:=by rw [hS32];simp
          generalize hT:S2.1.getD y []=T at *
          have q1:=icompose T v (by have:=t1.1;omega) (fun x hx=>by have:=t1.2.2.1 x hx;have:=t1.1;omega)
          generalize compI T v=X at *
          have e4:AV.fzL (X.map AV.i64)=X.map AV.i64:=by rw [fzL_map,ints_fz]
          have htk:(es.drop o).take (S2.2.length - k)=es.drop o:=List.take_of_length_le (by simp;omega)
          rw [htk] at hqa
          simp -dsimp -implicitDefEqProofs (disch:=first | omega | (simp only [lenr];try omega)) only [↓amPre,amAll,↓reduceIte,reduceCtorEq,Nat.reduceEqDiff,Nat.reduceBEq,Nat.reduceAdd,Nat.reduceLeDiff,Nat.reduceSub,Nat.reduceMul,Int.reduceToNat,List.size_toArray,tyF,MM,bu0,cbU49,f57,f56,f55,f0,f1,f6,m0,f7,m86,gG,gR,lG,lR,← hv,hq.2,p1,r2,r3,hrl2]
          refine callP_frz q1 ?_
          have hbe:AV.bearsL (es.map AV.i64)=false:=bears_ints es
          simp -dsimp -implicitDefEqProofs (disch:=first | omega | (simp only [lenr];try omega)) only [↓amPre,amAll,↓reduceIte,reduceCtorEq,Nat.reduceEqDiff,Nat.reduceBEq,Nat.reduceAdd,Nat.reduceLeDiff,Nat.reduceSub,Nat.reduceMul,Int.reduceToNat,List.size_toArray,tyF,MM,bu0,cbU49,f57,f56,f55,f0,f1,f6,m0,f7,m86,gG,gR,sG,sR,lG,lR,itrF,hset,e4,hrl2,hbe,hel]
          exact ⟨c2,by omega,0,es.drop o++[((pt v y:Nat):Int)],by rw [List.length_drop,show es.length - o+1=S3.2.length - k by omega],rfl,hqa.1,hqa.2⟩
        · rw [if_neg he] at hst
          obtain ⟨x,r,hx⟩:=List.exists_cons_of_ne_nil he
          have r3:(S2.1.map nlv).getD (pt v y) .any=.sl 1 (AV.i64 x :: r.map AV.i64):=by rw [r2,hx];rfl
          rw [hst]
          simp -dsimp -implicitDefEqProofs (disch:=first | omega | (simp only [lenr];try omega)) only [↓amPre,amAll,↓reduceIte,reduceCtorEq,Nat.reduceEqDiff,Nat.reduceBEq,Nat.reduceAdd,Nat.reduceLeDiff,Nat.reduceSub,Nat.reduceMul,Int.reduceToNat,List.size_toArray,tyF,MM,bu0,cbU49,f57,f56,f55,f0,f1,f6,m0,f7,m86,gG,gR,lG,lR,← hv,hq.2,p1,r3,hrl2]
          exact ⟨c2,by omega,o,es,rfl,rfl,hes,hel⟩
      · have hje:j=gs.length:=by omega
        subst hje
        rw [← hS2]
        simp -dsimp -implicitDefEqProofs (disch:=first | omega | (simp only [lenr];try omega)) only [↓amPre,amAll,↓reduceIte,reduceCtorEq,Nat.reduceEqDiff,Nat.reduceBEq,Nat.reduceAdd,Nat.reduceLeDiff,Nat.reduceSub,Nat.reduceMul,Int.reduceToNat,List.size_toArray,tyF,MM,bu0,cbU49,f57,f56,f55,f0,f1,f6,m0,f7,m86]
        exact ⟨by omega,by omega,by omega,o+1,es,(by rw [Nat.sub_sub]),rfl,Ch.que_tail hes,by omega⟩
    · have hke:k=S.2.length:=by omega
      have hbrR:Ch.brR n gs L.row=S.1:=by
        have:=hsty (by omega) (n - k)
        rw [show k+(n - k)=n by omega] at this
        rw [Ch.brR,this]
      rw [hbrR]
      have hrow:=hbk.lv
      obtain ⟨_,_,b3⟩:=Ch.brR_ok h1 h2 hok2 hln
      rw [hbrR] at b3
      obtain ⟨row,hrw⟩:∃ row,row=S.1:=⟨_,rfl⟩
      rw [← hrw] at hrow b3 m0 ⊢
      have hz:S.2.length - k=0:=by omega
      have hrwl:row.length=n:=hrow.len
      rw [hz] at f7
      have q0:=orbitOfS row (by have:row.length=n:=hrow.len;omega)
      rw [orb_cst] at q0
      simp -dsimp -implicitDefEqProofs (disch:=first | omega | (simp only [lenr];try omega)) only [↓amPre,amAll,↓reduceIte,reduceCtorEq,Nat.reduceEqDiff,Nat.reduceBEq,Nat.reduceAdd,Nat.reduceLeDiff,Nat.reduceSub,Nat.reduceMul,Int.reduceToNat,List.size_toArray,tyF,MM,bu0,cbU49,f0,f1,f6,m0,f7,m86,gG,gR,lG,lR,nlv_fz,nlv_fm,hrwl]
      refine callP_of (q0) ?_
      simp -dsimp -implicitDefEqProofs (disch:=first | omega | (simp only [lenr];try omega)) only [↓amPre,amAll,↓reduceIte,reduceCtorEq,Nat.reduceEqDiff,Nat.reduceBEq,Nat.reduceAdd,Nat.reduceLeDiff,Nat.reduceSub,Nat.reduceMul,Int.reduceToNat,List.size_toArray,tyF,MM,bu0,cbU49,f0,f1,f6,m0]
      clear f7 m86 hes hel hbk1 hbn1 hsty hbk hbnk
      have hP0:Ch.Part n d (l+1) C':=⟨hgood.2.2.2.2.2,hCl,hwt.2⟩
      have hAO:=fun i hi=>Ch.adO_part h1 h2 (d:=d) (by omega) hrow b3 hP0 i hi
      have hAll:=Ch.adO_all n d l gs row C'
      have hrl3:row.length=n:=hrow.len
      have hfl:(Ch.filL row).length≤n:=by
        have:=List.length_filter_le (fun p=>row.getD p [] != []) (List.range row.length)
        unfold Ch.filL;rw [hrl3] at this ⊢;simpa using this
      rw [← hCG,← hCR] at m0
      rw [← hAll]
      refine awp_loop (fun i st=>i≤(Ch.filL row).length∧st.fr 91=.i64 i∧st.fr 90=.i64 (Ch.filL row).length∧st.fr 89=.ref 89 [] 1 0 (Ch.filL row).length∧st.fr 0=.loc 0 [] 0 0∧st.fr 1=.i64 l∧st.fr 6=.ref 0 [(0,2),(l,0)] 1 0 n∧st.mem 89=some (itr (Ch.cst (Ch.filL row)))∧st.mem 0=some (chA n (G0++.tr 1 (gs.map fun s=>isl s) :: (Ch.adO n d l gs row (Ch.filL row) C' i).map gN) (R0++.tr 1 (row.map nlv) :: (Ch.adO n d l gs row (Ch.filL row) C' i).map rN))) ((Ch.filL row).length) ?_ ?_
      · simp -dsimp -implicitDefEqProofs (disch:=first | omega | (simp only [lenr];try omega)) only [↓amPre,amAll,↓reduceIte,reduceCtorEq,Nat.reduceEqDiff,Nat.reduceBEq,Nat.reduceAdd,Nat.reduceLeDiff,Nat.reduceSub,Nat.reduceMul,Int.reduceToNat,List.size_toArray,tyF,MM,bu0,cbU49,f0,f1,f6,m0,Ch.cst_len]
        exact ⟨Nat.zero_le _,rfl,rfl⟩
      rintro i st _ ⟨hi,f91,f90,f89,f0,f1,f6,m89,m0⟩
      by_cases c2:i<(Ch.filL row).length
      · have hPi:=hAO i (by omega)
        have hsti:Ch.adO n d l gs row (Ch.filL row) C' (i+1)=Ch.adI n d l gs row ((Ch.filL row).getD i 0) (Ch.adO n d l gs row (Ch.filL row) C' i) gs.length:=rfl
        have hym:=mem_getD (Ch.filL row) i 0 c2
        have hcy:=Ch.cst_get c2
        rw [hsti]
        obtain ⟨y,hy⟩:∃ y,y=(Ch.filL row).getD i 0:=⟨_,rfl⟩
        rw [← hy] at hym hcy ⊢
        have hcy2:((Ch.cst (Ch.filL row)).map AV.i64).getD i .any=.i64 y:=by rw [getD_eq _ _ _ (by simpa [Ch.cst_len] using c2),List.getElem_map,← getD_eq _ _ 0,hcy]
        obtain ⟨A,hA⟩:∃ A,A=Ch.adO n d l gs row (Ch.filL row) C' i:=⟨_,rfl⟩
        rw [← hA] at m0 hPi ⊢
        obtain ⟨hy1,hy2⟩:=Ch.mem_filL.1 hym
        rw [hrl3] at hy1
        have lA:G0.length+(A.length+1)=n:=by have:=hPi.len;omega
        simp -dsimp -implicitDefEqProofs (disch:=first | omega | (simp only [lenr];try omega)) only [↓amPre,amAll,↓reduceIte,reduceCtorEq,Nat.reduceEqDiff,Nat.reduceBEq,Nat.reduceAdd,Nat.reduceLeDiff,Nat.reduceSub,Nat.reduceMul,Int.reduceToNat,List.size_toArray,tyF,MM,bu0,cbU49,f91,f90,f89,f0,f1,f6,m89,m0,gG,gR,lA,Ch.cst_len,hcy2]
        have hAI:=fun j hj=>Ch.adI_part h1 h2 (d:=d) (by omega) hrow b3 hym hPi j hj
        refine awp_loop (fun j st=>j≤gs.length∧st.fr 103=.i64 j∧st.fr 102=.i64 gs.length∧st.fr 101=.ref 0 [(0,1),(l,0)] 1 0 gs.length∧st.fr 12=.i64 y∧st.fr 91=.i64 i∧st.fr 90=.i64 (Ch.filL row).length∧st.fr 89=.ref 89 [] 1 0 (Ch.filL row).length∧st.fr 0=.loc 0 [] 0 0∧st.fr 1=.i64 l∧st.fr 6=.ref 0 [(0,2),(l,0)] 1 0 n∧st.mem 89=some (itr (Ch.cst (Ch.filL row)))∧st.mem 0=some (chA n (G0++.tr 1 (gs.map fun s=>isl s) :: (Ch.adI n d l gs row y A j).map gN) (R0++.tr 1 (row.map nlv) :: (Ch.adI n d l gs row y A j).map rN))) (gs.length) ?_ ?_
        · simp -dsimp -implicitDefEqProofs (disch:=first | omega | (simp only [lenr];try omega)) only [↓amPre,amAll,↓reduceIte,reduceCtorEq,Nat.reduceEqDiff,Nat.reduceBEq,Nat.reduceAdd,Nat.reduceLeDiff,Nat.reduceSub,Nat.reduceMul,Int.reduceToNat,List.size_toArray,tyF,MM,bu0,cbU49,f91,f90,f89,f0,f1,f6,m89,m0]
          exact ⟨Nat.zero_le _,rfl,rfl⟩
        rintro j st _ ⟨hj,f103,f102,f101,f12,f91,f90,f89,f0,f1,f6,m89,m0⟩
        by_cases c3:j<gs.length
        · have hPj:=hAI j (by omega)
          have hstj:Ch.adI n d l gs row y A (j+1)=Ch.addL n d (Ch.adI n d l gs row y A j) (l+1) (Ch.sch gs row y j):=rfl
          rw [hstj]
          obtain ⟨B,hB⟩:∃ B,B=Ch.adI n d l gs row y A j:=⟨_,rfl⟩
          rw [← hB] at m0 hPj ⊢
          have hgj:=hgm j c3
          have hne2:=b3 y hy1 hy2 _ (mem_getD gs j default c3)
          obtain ⟨hsc1,hsc2⟩:=Ch.sch_ok h1 h2 hln hrow b3 hym c3
          have hsch:Ch.sch gs row y j=compI (compI (row.getD y []) (gs.getD j default)) (invI (row.getD (pt (gs.getD j default) y) [])):=rfl
          obtain ⟨v,hv⟩:∃ v,v=gs.getD j default:=⟨_,rfl⟩
          rw [← hv] at hgj hne2 hsch
          obtain ⟨p1,p2⟩:=hgj.get hy1
          have hvl:=hgj.1
          have t1:PN n (row.getD y []):=(hrow.row y hy1 hy2).1
          have t2:PN n (row.getD (pt v y) []):=(hrow.row (pt v y) p2 hne2).1
          have r3:(row.map nlv).getD y .any=isl (row.getD y []):=by
            rw [getD_eq _ _ _ (by rw [List.length_map,hrl3];exact hy1),List.getElem_map,← nlv_ne hy2]
            exact congrArg nlv (getD_eq _ _ _ _).symm
          have r4:(row.map nlv).getD (pt v y) .any=isl (row.getD (pt v y) []):=by
            rw [getD_eq _ _ _ (by rw [List.length_map,hrl3];exact p2),List.getElem_map,← nlv_ne hne2]
            exact congrArg nlv (getD_eq _ _ _ _).symm
          have t3:=t1.comp hgj
          have t4:=t2.inv
          have bd:∀ {x:List Int},PN n x→∀ {u:List Int},PN n u→∀ z∈x,0≤z∧z<u.length:=fun hx u hu z hz=>by have:=hx.2.2.1 z hz;have:=hx.1;have:=hu.1;omega
          have q1:=icompose (row.getD y []) v (by have:=t1.1;omega) (bd t1 hgj)
          have q2:=iinverse (row.getD (pt v y) []) (by have:=t2.1;omega) (fun z hz=>t2.2.2.1 z hz)
          have q3:=icompose (compI (row.getD y []) v) (invI (row.getD (pt v y) [])) (by have:=t3.1;omega) (bd t3 t4)
          rw [← hsch] at q3
          have l2:=t1.1
          have l3:=t2.1
          have hcall:=add_pin (P:=Try.prog) (f:=260) (n:=n) hG hR (gs.map fun s=>isl s) (row.map nlv) (B.map gN) (B.map rN) ((Ch.addL n d B (l+1) (Ch.sch gs row y j)).map gN) ((Ch.addL n d B (l+1) (Ch.sch gs row y j)).map rN) (.i64 ((l+1:Nat):Int)) (isl (Ch.sch gs row y j)) (.tup []) (fun x y'=>by
            have:=ih B (G0++[.v x]) (R0++[.v y']) (l+1) (Ch.sch gs row y j) (by simpa using hG) (by simpa using hR) hPj.len (by omega) hPj.good hPj.wt hsc1 hsc2
            simpa only [List.append_assoc,List.cons_append,List.nil_append] using this)
          generalize Ch.sch gs row y j=X at *
          generalize hT1:row.getD y []=T1 at *
          generalize hT2:row.getD (pt v y) []=T2 at *
          generalize compI T1 v=X1 at *
          generalize invI T2=X2 at *
          have e1:AV.fzL (X1.map AV.i64)=X1.map AV.i64:=by rw [fzL_map,ints_fz]
          have e2:AV.fzL (X2.map AV.i64)=X2.map AV.i64:=by rw [fzL_map,ints_fz]
          have e3:AV.fzL (X.map AV.i64)=X.map AV.i64:=by rw [fzL_map,ints_fz]
          have lB:G0.length+(B.length+1)=n:=by have:=hPj.len;omega
          simp -dsimp -implicitDefEqProofs (disch:=first | omega | (simp only [lenr];try omega)) only [↓amPre,amAll,↓reduceIte,reduceCtorEq,Nat.reduceEqDiff,Nat.reduceBEq,Nat.reduceAdd,Nat.reduceLeDiff,Nat.reduceSub,Nat.reduceMul,Int.reduceToNat,List.size_toArray,tyF,MM,bu0,cbU49,f103,f102,f101,f12,f91,f90,f89,f0,f1,f6,m89,m0,gG,gR,lB,← hv]
          refine split_go 18 (by decide +kernel) ?_
          simp -dsimp -implicitDefEqProofs (disch:=first | omega | (simp only [lenr];try omega)) only [↓amPre,amAll,↓reduceIte,reduceCtorEq,Nat.reduceEqDiff,Nat.reduceBEq,Nat.reduceAdd,Nat.reduceLeDiff,Nat.reduceSub,Nat.reduceMul,Int.reduceToNat,List.size_toArray,tyF,MM,bu0,cbU49,f103,f102,f101,f12,f91,f90,f89,f0,f1,f6,m89,m0,gG,gR,lB,r3,r4,p1,hrl3]
          refine callP_frz q1 ?_
          simp -dsimp -implicitDefEqProofs (disch:=first | omega | (simp only [lenr];try omega)) only [↓amPre,amAll,↓reduceIte,reduceCtorEq,Nat.reduceEqDiff,Nat.reduceBEq,Nat.reduceAdd,Nat.reduceLeDiff,Nat.reduceSub,Nat.reduceMul,Int.reduceToNat,List.size_toArray,tyF,MM,bu0,cbU49,f103,f102,f101,f12,f91,f90,f89,f0,f1,f6,m89,m0,gG,gR,lB,r3,r4,p1,hrl3,itrF,e1]
          refine callP_frz q2 ?_
          simp -dsimp -implicitDefEqProofs (disch:=first | omega | (simp only [lenr];try omega)) only [↓amPre,amAll,↓reduceIte,reduceCtorEq,Nat.reduceEqDiff,Nat.reduceBEq,Nat.reduceAdd,Nat.reduceLeDiff,Nat.reduceSub,Nat.reduceMul,Int.reduceToNat,List.size_toArray,tyF,MM,bu0,cbU49,f103,f102,f101,f12,f91,f90,f89,f0,f1,f6,m89,m0,gG,gR,lB,r3,r4,p1,hrl3,itrF,e2]
          refine callP_frz q3 ?_
          simp -dsimp -implicitDefEqProofs (disch:=first | omega | (simp only [lenr];try omega)) only [↓amPre,amAll,↓reduceIte,reduceCtorEq,Nat.reduceEqDiff,Nat.reduceBEq,Nat.reduceAdd,Nat.reduceLeDiff,Nat.reduceSub,Nat.reduceMul,Int.reduceToNat,List.size_toArray,tyF,MM,bu0,cbU49,f103,f102,f101,f12,f91,f90,f89,f0,f1,f6,m89,m0,gG,gR,lB,itrF,e3]
          refine callXP_of hcall ?_
          simp -dsimp -implicitDefEqProofs (disch:=first | omega | (simp only [lenr];try omega)) only [↓amPre,amAll,↓reduceIte,reduceCtorEq,Nat.reduceEqDiff,Nat.reduceBEq,Nat.reduceAdd,Nat.reduceLeDiff,Nat.reduceSub,Nat.reduceMul,Int.reduceToNat,List.size_toArray,tyF,MM,bu0,cbU49,f103,f102,f101,f12,f91,f90,f89,f0,f1,f6,m89,m0,gG,gR,lB,pinAdd_go]
          exact ⟨c3,by omega⟩
        · have hje:j=gs.length:=by omega
          subst hje
          simp -dsimp -implicitDefEqProofs (disch:=first | omega | (simp only [lenr];try omega)) only [↓amPre,amAll,↓reduceIte,reduceCtorEq,Nat.reduceEqDiff,Nat.reduceBEq,Nat.reduceAdd,Nat.reduceLeDiff,Nat.reduceSub,Nat.reduceMul,Int.reduceToNat,List.size_toArray,tyF,MM,bu0,cbU49,f103,f102,f101,f12,f91,f90,f89,f0,f1,f6,m89,m0]
          exact ⟨c2,by omega⟩
      · have hie:i=(Ch.filL row).length:=by omega
        subst hie
        simp -dsimp -implicitDefEqProofs (disch:=first | omega | (simp only [lenr];try omega)) only [↓amPre,amAll,↓reduceIte,reduceCtorEq,Nat.reduceEqDiff,Nat.reduceBEq,Nat.reduceAdd,Nat.reduceLeDiff,Nat.reduceSub,Nat.reduceMul,Int.reduceToNat,List.size_toArray,tyF,MM,bu0,cbU49,f91,f90,f89,f0,f1,f6,m89,m0]
end Ck
end Go.AM
namespace Go.AM
namespace Ch
def nwK (n:Nat) (G:List (List Int)):Nat→List Lv
  | 0=>trvL n n 0
  | j+1=>addL n n (nwK n G j) 0 (G.getD j default)
theorem nwK_fold (n:Nat) (G:List (List Int)):∀ j,j≤G.length→nwK n G j=(G.take j).foldl (fun C g=>addL n n C 0 g) (trvL n n 0)
  | 0,_=>by simp [nwK]
  | j+1,h=>by
    rw [nwK,nwK_fold n G j (by omega),take_succ_eq G j default (by omega),List.foldl_append];rfl
theorem nwK_all (n:Nat) (G:List (List Int)):nwK n G G.length=newL n G:=by rw [nwK_fold n G _ (Nat.le_refl _),List.take_length];rfl
theorem nwK_part {n:Nat} (h1:1≤n) (h2:n≤20) {G:List (List Int)} (hG:∀ g∈G,PN n g):∀ j,j≤G.length→Part n n 0 (nwK n G j)
  | 0,_=>⟨trvL_good h1 h2 n 0 (by omega),trvL_len n n 0,(trvL_wt h1 h2 n 0 (by omega)).2⟩
  | j+1,h=>(nwK_part h1 h2 hG j (by omega)).add h1 h2 (by omega) (hG _ (mem_getD G j default (by omega))) fun i hi=>absurd hi (Nat.not_lt_zero i)
theorem newL_part {n:Nat} (h1:1≤n) (h2:n≤20) {G:List (List Int)} (hG:∀ g∈G,PN n g):Part n n 0 (newL n G):=by
  rw [← nwK_all];exact nwK_part h1 h2 hG _ (Nat.le_refl _)
def trvR (n i:Nat):List (List Int):=(List.replicate n []).set i (idL n)
theorem trvL_get (n:Nat):∀ d l i,i<d→(trvL n d l).getD i ⟨[],[]⟩=⟨[],trvR n (l+i)⟩
  | d+1,l,0,_=>rfl
  | d+1,l,i+1,h=>by
    rw [trvL,List.getD_cons_succ,trvL_get n d (l+1) i (by omega),show l+(i+1)=l+1+i by omega]
theorem trvL_gens (n:Nat):∀ d l,∀ L∈trvL n d l,L.gens=[]
  | 0,_,L,h=>by cases h
  | d+1,l,L,h=>by
    rcases List.mem_cons.1 h with rfl | h
    · rfl
    · exact trvL_gens n d (l+1) L h
end Ch
end Go.AM
set_option maxRecDepth 8000
namespace Go.AM
namespace Ck
open Go.Proofs
open Ch (Lv hasL PN pt idL)
theorem trv_gN (n:Nat):(Ch.trvL n n 0).map gN=List.replicate n .nilsl:=by
  have h:∀ L∈Ch.trvL n n 0,gN L=.nilsl:=fun L hL=>gN_nil (Ch.trvL_gens n n 0 L hL)
  rw [List.map_congr_left h,List.map_const',Ch.trvL_len]
theorem rep_nlv (n:Nat):List.replicate n AV.nilsl=(List.replicate n ([]:List Int)).map nlv:=by simp [nlv]
def tR (n i:Nat):List AV:=(List.range i).map fun k=>.tr 1 ((Ch.trvR n k).map nlv)
theorem tR_len (n i:Nat):(tR n i).length=i:=by simp [tR]
theorem tR_succ (n i:Nat):tR n (i+1)=tR n i++[.tr 1 ((Ch.trvR n i).map nlv)]:=by simp [tR,List.range_succ]
theorem tR_all (n:Nat):tR n n=(Ch.trvL n n 0).map rN:=by
  apply List.ext_getElem
  · simp [tR,Ch.trvL_len]
  · intro i hi hj
    have hi':i<n:=by simpa [tR] using hi
    have:=Ch.trvL_get n n 0 i hi'
    rw [getD_eq _ _ _ (by rw [Ch.trvL_len];exact hi'),Nat.zero_add] at this
    simp only [tR,List.getElem_map,List.getElem_range,this]
theorem newChainI (n:Nat) (mv:List (List Int)) (h1:1≤n) (h2:n≤20) (hmv:∀ s∈mv,PN n s) (hl:mv.length≤8) :
    SpecAt Try.prog 242 [.i64 n,ssl mv] (chA n ((Ch.newL n mv).map gN) ((Ch.newL n mv).map rN)):=by
  have hP:=fun j hj=>Ch.nwK_part h1 h2 hmv (j:=j) hj
  have qi:=iidentity n (by omega)
  have hid:(idL n)≠[]:=fun e=>by have:=congrArg List.length e;rw [runI_len] at this;simp at this;omega
  refine spec_of_awp (M:=MM) (np:=2) (fz:=false) mixed Try.func242 rfl rfl (by decide) rfl (Nat.le_refl _) (by decide +kernel) (.inl rfl) (by first | trivial | simp only [sigsOk_nil,sigsOk_some,sigsOk_none,sig_tr,sig_pt,sig_mt,sig_agg,List.map_cons,List.map_nil,sig1_tr,sig1_pt,sig1_v,and_self,true_and,List.length_map,List.length_set]) ?_
  simp -dsimp -implicitDefEqProofs (disch:=first | omega | (simp only [lenr];try omega)) only [↓amPre,amAll,↓reduceIte,reduceCtorEq,Nat.reduceEqDiff,Nat.reduceBEq,Nat.reduceAdd,Nat.reduceLeDiff,Nat.reduceSub,Nat.reduceMul,Int.reduceToNat,List.size_toArray,tyF,MM,bu0,cbU49]
  refine awp_loopC 14 2 3 1 [.i64 n,.tr 1 (List.replicate n .nilsl),.nilsl] (by simp -dsimp -implicitDefEqProofs (disch:=first | omega | (simp only [lenr];try omega)) only [↓amPre,amAll,↓reduceIte,reduceCtorEq,Nat.reduceEqDiff,Nat.reduceBEq,Nat.reduceAdd,Nat.reduceLeDiff,Nat.reduceSub,Nat.reduceMul,Int.reduceToNat,List.size_toArray,tyF,MM,bu0,cbU49]) (by simp) (by simp) (fun i st=>i≤n∧st.fr 16=.i64 i∧st.fr 15=.i64 n∧st.fr 0=.i64 n∧st.fr 5=.loc 14 [] 0 0∧st.fr 1=ssl mv∧st.mem 14=some (.pt 3 (.agg [.i64 n,.tr 1 (List.replicate n .nilsl),.tr 1 (tR n i)]))) (n) ?_ ?_
  · simp -dsimp -implicitDefEqProofs (disch:=first | omega | (simp only [lenr];try omega)) only [↓amPre,amAll,↓reduceIte,reduceCtorEq,Nat.reduceEqDiff,Nat.reduceBEq,Nat.reduceAdd,Nat.reduceLeDiff,Nat.reduceSub,Nat.reduceMul,Int.reduceToNat,List.size_toArray,tyF,MM,bu0,cbU49,nilC_eq]
    exact ⟨Nat.zero_le _,rfl,rfl⟩
  rintro i st _ ⟨hi,f16,f15,f0,f5,f1,m14⟩
  have htl1:=tR_len n (i+1)
  have htl:=tR_len n i
  by_cases c1:i<n
  · have hs:=tR_succ n i
    have hset:(List.replicate n AV.nilsl).set i (isl (idL n))=(Ch.trvR n i).map nlv:=by rw [rep_nlv,← nlv_ne hid,← List.map_set];rfl
    have e1:AV.fzL ((idL n).map AV.i64)=(idL n).map AV.i64:=by rw [fzL_map,ints_fz]
    have hrl:(Ch.trvR n i).length=n:=by simp [Ch.trvR]
    simp -dsimp -implicitDefEqProofs (disch:=first | omega | (simp only [lenr];try omega)) only [↓amPre,amAll,↓reduceIte,reduceCtorEq,Nat.reduceEqDiff,Nat.reduceBEq,Nat.reduceAdd,Nat.reduceLeDiff,Nat.reduceSub,Nat.reduceMul,Int.reduceToNat,List.size_toArray,tyF,MM,bu0,cbU49,f16,f15,f0,f5,f1,m14,c1]
    refine callP_frz qi ?_
    simp -dsimp -implicitDefEqProofs (disch:=first | omega | (simp only [lenr];try omega)) only [↓amPre,amAll,↓reduceIte,reduceCtorEq,Nat.reduceEqDiff,Nat.reduceBEq,Nat.reduceAdd,Nat.reduceLeDiff,Nat.reduceSub,Nat.reduceMul,Int.reduceToNat,List.size_toArray,tyF,MM,bu0,cbU49,f16,f15,f0,f5,f1,m14,itrF,e1,hset,hrl,htl,htl1,← hs]
    exact ⟨c1,by omega⟩
  · have hie:i=n:=by omega
    rw [hie,tR_all,← trv_gN] at m14
    have hl0:(Ch.trvL n n 0).length=n:=Ch.trvL_len n n 0
    simp -dsimp -implicitDefEqProofs (disch:=first | omega | (simp only [lenr];try omega)) only [↓amPre,amAll,↓reduceIte,reduceCtorEq,Nat.reduceEqDiff,Nat.reduceBEq,Nat.reduceAdd,Nat.reduceLeDiff,Nat.reduceSub,Nat.reduceMul,Int.reduceToNat,List.size_toArray,tyF,MM,bu0,cbU49,f16,f15,f0,f5,f1,m14,c1]
    refine awp_loop (fun j st=>j≤mv.length∧st.fr 39=.i64 j∧st.fr 38=.i64 mv.length∧st.fr 37=ssl mv∧st.fr 5=.loc 14 [] 0 0∧st.mem 14=some (chA n ((Ch.nwK n mv j).map gN) ((Ch.nwK n mv j).map rN))) (mv.length) ?_ ?_
    · simp -dsimp -implicitDefEqProofs (disch:=first | omega | (simp only [lenr];try omega)) only [↓amPre,amAll,↓reduceIte,reduceCtorEq,Nat.reduceEqDiff,Nat.reduceBEq,Nat.reduceAdd,Nat.reduceLeDiff,Nat.reduceSub,Nat.reduceMul,Int.reduceToNat,List.size_toArray,tyF,MM,bu0,cbU49,f16,f15,f0,f5,f1,m14,m14]
      exact ⟨Nat.zero_le _,rfl,rfl⟩
    rintro j st _ ⟨hj,f39,f38,f37,f5,m14⟩
    by_cases c2:j<mv.length
    · have hs:Ch.nwK n mv (j+1)=Ch.addL n n (Ch.nwK n mv j) 0 (mv.getD j default):=rfl
      have hPj:=hP j (by omega)
      have hq:=addI h1 h2 n (Ch.nwK n mv j) [] [] 0 (mv.getD j default) rfl rfl hPj.len (by omega) hPj.good hPj.wt (hmv _ (mem_getD mv j default c2)) (fun i hi=>absurd hi (Nat.not_lt_zero i))
      rw [← hs] at hq
      simp only [List.nil_append] at hq
      simp -dsimp -implicitDefEqProofs (disch:=first | omega | (simp only [lenr];try omega)) only [↓amPre,amAll,↓reduceIte,reduceCtorEq,Nat.reduceEqDiff,Nat.reduceBEq,Nat.reduceAdd,Nat.reduceLeDiff,Nat.reduceSub,Nat.reduceMul,Int.reduceToNat,List.size_toArray,tyF,MM,bu0,cbU49,f39,f38,f37,f5,m14]
      refine callX_of hq ?_
      simp -dsimp -implicitDefEqProofs (disch:=first | omega | (simp only [lenr];try omega)) only [↓amPre,amAll,↓reduceIte,reduceCtorEq,Nat.reduceEqDiff,Nat.reduceBEq,Nat.reduceAdd,Nat.reduceLeDiff,Nat.reduceSub,Nat.reduceMul,Int.reduceToNat,List.size_toArray,tyF,MM,bu0,cbU49,f39,f38,f37,f5,m14]
      exact ⟨c2,by omega⟩
    · have hje:j=mv.length:=by omega
      subst hje
      rw [Ch.nwK_all] at m14
      simp -dsimp -implicitDefEqProofs (disch:=first | omega | (simp only [lenr];try omega)) only [↓amPre,amAll,↓reduceIte,reduceCtorEq,Nat.reduceEqDiff,Nat.reduceBEq,Nat.reduceAdd,Nat.reduceLeDiff,Nat.reduceSub,Nat.reduceMul,Int.reduceToNat,List.size_toArray,tyF,MM,bu0,cbU49,f39,f38,f37,f5,m14,m14]
end Ck
end Go.AM
namespace Go.AM
namespace Bf
open Ch (PN pt idL Gen newL ordL elsL newL_els)
/-! breadth-first search over the states of a puzzle,plainly -/
structure Ex where
  S:List (List Int)
  D:List Nat
  Pa:List Nat
  J:List Nat
abbrev nbr (mv:List (List Int)) (e:Ex) (k:Nat) (l:Int):List Int:=compI (e.S.getD k default) (letP mv l)
def stp (mv:List (List Int)) (A:List Int) (k:Nat) (e:Ex) (j:Nat):Ex :=
  if nbr mv e k (A.getD j 0)∈e.S then e else ⟨e.S++[nbr mv e k (A.getD j 0)],e.D++[e.D.getD k 0+1],e.Pa++[k],e.J++[j]⟩
def inn (mv:List (List Int)) (A:List Int) (k:Nat) (e:Ex):Nat→Ex
  | 0=>e
  | j+1=>stp mv A k (inn mv A k e j) j
abbrev ex0 (n:Nat):Ex:=⟨[idL n],[0],[0],[0]⟩
def out (mv:List (List Int)) (A:List Int) (n:Nat):Nat→Ex
  | 0=>ex0 n
  | k+1=>if k<(out mv A n k).S.length then inn mv A k (out mv A n k) A.length else out mv A n k
section
variable {n:Nat} {mv:List (List Int)}
theorem let_ok (h1:1≤n) (h2:n≤20) (hm:∀ s∈mv,PN n s) {l:Int} (hl:l∈letL mv.length):PN n (letP mv l)∧Gen n mv (letP mv l):=by
  obtain ⟨a,b,c⟩:=letL_mem.1 hl
  unfold letP
  by_cases h:0<l
  · rw [if_pos h]
    have:=mem_getD mv (l - 1).toNat default (by omega)
    exact ⟨hm _ this,Gen.of hm this⟩
  · rw [if_neg h]
    have:=mem_getD mv (-l - 1).toNat default (by omega)
    exact ⟨(hm _ this).inv,Gen.inv h1 h2 hm (Gen.of hm this)⟩
theorem nbr_ok (h1:1≤n) (h2:n≤20) (hm:∀ s∈mv,PN n s) {s:List Int} (hs:PN n s∧Gen n mv s) {l:Int} (hl:l∈letL mv.length):PN n (compI s (letP mv l))∧Gen n mv (compI s (letP mv l)):=by
  obtain ⟨a,b⟩:=let_ok h1 h2 hm hl
  exact ⟨hs.1.comp a,Gen.comp h1 h2 hm hs.2 b⟩
theorem closed_all {T:List (List Int)} (h0:idL n∈T) (hc:∀ s∈T,∀ l∈letL mv.length,compI s (letP mv l)∈T) {g:List Int} (hg:Gen n mv g):g∈T:=by
  induction hg with
  | one=>exact h0
  | @mul g s hg hs ih =>
    obtain ⟨i,hi,rfl⟩:=List.mem_iff_getElem.1 hs
    have hl:((i:Int)+1)∈letL mv.length:=letL_mem.2 ⟨by omega,by omega,by omega⟩
    have:=hc g ih _ hl
    have e:letP mv ((i:Int)+1)=mv[i]:=by
      unfold letP
      rw [if_pos (by omega),show ((i:Int)+1 - 1).toNat=i by omega,getD_eq _ _ _ hi]
    rwa [e] at this
theorem sub_ord (h1:1≤n) (h2:n≤20) (hm:∀ s∈mv,PN n s) {T:List (List Int)} (hd:T.Nodup) (h:∀ s∈T,Gen n mv s):T.length≤ordL (newL n mv):=by
  obtain ⟨a,b,c⟩:=newL_els h1 h2 mv hm
  rw [← b]
  exact len_le_of_sub T _ hd fun x hx=>(c x).2 (h x hx)
theorem all_ord (h1:1≤n) (h2:n≤20) (hm:∀ s∈mv,PN n s) {T:List (List Int)} (h0:idL n∈T) (hc:∀ s∈T,∀ l∈letL mv.length,compI s (letP mv l)∈T):ordL (newL n mv)≤T.length:=by
  obtain ⟨a,b,c⟩:=newL_els h1 h2 mv hm
  rw [← b]
  exact len_le_of_sub _ T a fun x hx=>closed_all h0 hc ((c x).1 hx)
structure Ok (n:Nat) (mv:List (List Int)) (e:Ex):Prop where
  nd:e.S.Nodup
  el:∀ s∈e.S,PN n s∧Gen n mv s
  lD:e.D.length=e.S.length
  lP:e.Pa.length=e.S.length
  lJ:e.J.length=e.S.length
  z:0<e.S.length∧e.S.getD 0 default=idL n
def Grw (e f:Ex):Prop:=∃ a b c d,f.S=e.S++a∧f.D=e.D++b∧f.Pa=e.Pa++c∧f.J=e.J++d
theorem Grw.refl (e:Ex):Grw e e:=⟨[],[],[],[],by simp⟩
theorem Grw.trans {e f g:Ex} (h:Grw e f) (k:Grw f g):Grw e g:=by
  obtain ⟨a,b,c,d,h1,h2,h3,h4⟩:=h
  obtain ⟨a',b',c',d',k1,k2,k3,k4⟩:=k
  exact ⟨a++a',b++b',c++c',d++d',by rw [k1,h1,List.append_assoc],by rw [k2,h2,List.append_assoc],by rw [k3,h3,List.append_assoc],by rw [k4,h4,List.append_assoc]⟩
theorem Grw.sub {e f:Ex} (h:Grw e f) {s:List Int} (hs:s∈e.S):s∈f.S:=by
  obtain ⟨a,b,c,d,h1,_⟩:=h
  rw [h1];exact List.mem_append_left _ hs
theorem Grw.len {e f:Ex} (h:Grw e f):e.S.length≤f.S.length:=by
  obtain ⟨a,b,c,d,h1,_⟩:=h
  rw [h1,List.length_append];omega
theorem Grw.get {e f:Ex} (h:Grw e f) {i:Nat} (hi:i<e.S.length):f.S.getD i default=e.S.getD i default:=by
  obtain ⟨a,b,c,d,h1,_⟩:=h
  rw [h1,getD_app_l _ _ _ _ hi]
theorem stp_grw (mv:List (List Int)) (A:List Int) (k:Nat) (e:Ex) (j:Nat):Grw e (stp mv A k e j):=by
  unfold stp;split
  · exact Grw.refl e
  · exact ⟨_,_,_,_,rfl,rfl,rfl,rfl⟩
theorem stp_mem (mv:List (List Int)) (A:List Int) (k:Nat) (e:Ex) (j:Nat):nbr mv e k (A.getD j 0)∈(stp mv A k e j).S:=by
  unfold stp;split
  · assumption
  · simp
theorem stp_ok (h1:1≤n) (h2:n≤20) (hm:∀ s∈mv,PN n s) {e:Ex} (h:Ok n mv e) {k j:Nat} (hk:k<e.S.length) (hj:j<(letL mv.length).length):Ok n mv (stp mv (letL mv.length) k e j):=by
  unfold stp;split
  · exact h
  · rename_i hn
    have hx:=nbr_ok h1 h2 hm (h.el _ (mem_getD e.S k default hk)) (mem_getD (letL mv.length) j 0 hj)
    refine ⟨?_,fun s hs=>?_,by simp [h.lD],by simp [h.lP],by simp [h.lJ],by simp,?_⟩
    · rw [List.nodup_append]
      refine ⟨h.nd,by simp,fun a ha b hb=>?_⟩
      rw [List.mem_singleton] at hb
      rintro rfl
      exact hn (hb ▸ ha)
    · rcases List.mem_append.1 hs with hs | hs
      · exact h.el s hs
      · rw [List.mem_singleton.1 hs];exact hx
    · rw [getD_app_l _ _ _ _ h.z.1];exact h.z.2
theorem inn_grw (mv:List (List Int)) (A:List Int) (k:Nat) (e:Ex):∀ j,Grw e (inn mv A k e j)
  | 0=>Grw.refl e
  | j+1=>(inn_grw mv A k e j).trans (stp_grw ..)
theorem inn_ok (h1:1≤n) (h2:n≤20) (hm:∀ s∈mv,PN n s) {e:Ex} (h:Ok n mv e) {k:Nat} (hk:k<e.S.length):∀ j,j≤(letL mv.length).length→Ok n mv (inn mv (letL mv.length) k e j)∧∀ i,i<j→nbr mv e k ((letL mv.length).getD i 0)∈(inn mv (letL mv.length) k e j).S
  | 0,_=>⟨h,fun i hi=>absurd hi (Nat.not_lt_zero i)⟩
  | j+1,hj=>by
    obtain ⟨a,b⟩:=inn_ok h1 h2 hm h hk j (by omega)
    have g:=inn_grw mv (letL mv.length) k e j
    have hk':=Nat.lt_of_lt_of_le hk g.len
    refine ⟨stp_ok h1 h2 hm a hk' (by omega),fun i hi=>?_⟩
    by_cases c:i=j
    · subst c
      have:=stp_mem mv (letL mv.length) k (inn mv (letL mv.length) k e i) i
      unfold nbr at this ⊢
      rwa [g.get hk] at this
    · exact (stp_grw ..).sub (b i (by omega))
theorem out_grw1 (mv:List (List Int)) (A:List Int) (n k:Nat):Grw (out mv A n k) (out mv A n (k+1)):=by
  rw [out];split
  · exact inn_grw ..
  · exact Grw.refl _
theorem out_ok (h1:1≤n) (h2:n≤20) (hm:∀ s∈mv,PN n s):∀ k,Ok n mv (out mv (letL mv.length) n k)∧∀ i,i<k→i<(out mv (letL mv.length) n k).S.length→∀ l∈letL mv.length,nbr mv (out mv (letL mv.length) n k) i l∈(out mv (letL mv.length) n k).S
  | 0=>⟨⟨by simp [out],fun s hs=>by simp only [out,List.mem_singleton] at hs;rw [hs];exact ⟨PN.one h1 h2,.one⟩,rfl,rfl,rfl,by simp [out],rfl⟩,fun i hi=>absurd hi (Nat.not_lt_zero i)⟩
  | k+1=>by
    obtain ⟨a,b⟩:=out_ok h1 h2 hm k
    rw [out];split
    · rename_i hk
      obtain ⟨a2,b2⟩:=inn_ok h1 h2 hm a hk _ (Nat.le_refl _)
      refine ⟨a2,fun i hi hi2 l hl=>?_⟩
      have g:=inn_grw mv (letL mv.length) k (out mv (letL mv.length) n k) (letL mv.length).length
      by_cases c:i=k
      · subst c
        obtain ⟨j,hj,rfl⟩:=List.mem_iff_getElem.1 hl
        have:=b2 j hj
        unfold nbr at this ⊢
        rw [g.get hk]
        rwa [getD_eq _ _ _ hj] at this
      · have hik:i<(out mv (letL mv.length) n k).S.length:=by omega
        have:=b i (by omega) hik l hl
        unfold nbr at this ⊢
        rw [g.get hik]
        exact g.sub this
    · rename_i hk
      exact ⟨a,fun i hi hi2=>b i (by omega) hi2⟩
theorem out_stay {mv:List (List Int)} {A:List Int} {n k:Nat} (h:(out mv A n k).S.length≤k):∀ d,out mv A n (k+d)=out mv A n k
  | 0=>rfl
  | d+1=>by
    rw [← Nat.add_assoc,out,out_stay h d,if_neg (by omega)]
theorem out_end (h1:1≤n) (h2:n≤20) (hm:∀ s∈mv,PN n s) {k:Nat} (hk:(out mv (letL mv.length) n k).S.length≤k) :
    (out mv (letL mv.length) n k).S.length=ordL (newL n mv)∧∀ g,g∈(out mv (letL mv.length) n k).S↔Gen n mv g:=by
  obtain ⟨a,b⟩:=out_ok h1 h2 hm k
  have h0:idL n∈(out mv (letL mv.length) n k).S:=by rw [← a.z.2];exact mem_getD _ _ _ a.z.1
  have hc:∀ s∈(out mv (letL mv.length) n k).S,∀ l∈letL mv.length,compI s (letP mv l)∈(out mv (letL mv.length) n k).S:=fun s hs l hl=>by
    obtain ⟨i,hi,rfl⟩:=List.mem_iff_getElem.1 hs
    have:=b i (by omega) hi l hl
    unfold nbr at this
    rwa [getD_eq _ _ _ hi] at this
  exact ⟨Nat.le_antisymm (sub_ord h1 h2 hm a.nd fun s hs=>(a.el s hs).2) (all_ord h1 h2 hm h0 hc),fun g=>⟨fun hg=>(a.el g hg).2,fun hg=>closed_all h0 hc hg⟩⟩
theorem out_le (h1:1≤n) (h2:n≤20) (hm:∀ s∈mv,PN n s) (k:Nat):(out mv (letL mv.length) n k).S.length≤ordL (newL n mv) :=
  sub_ord h1 h2 hm (out_ok h1 h2 hm k).1.nd fun s hs=>((out_ok h1 h2 hm k).1.el s hs).2
theorem inn_le (h1:1≤n) (h2:n≤20) (hm:∀ s∈mv,PN n s) {e:Ex} (h:Ok n mv e) {k:Nat} (hk:k<e.S.length) {j:Nat} (hj:j≤(letL mv.length).length):(inn mv (letL mv.length) k e j).S.length≤ordL (newL n mv) :=
  sub_ord h1 h2 hm (inn_ok h1 h2 hm h hk j hj).1.nd fun s hs=>((inn_ok h1 h2 hm h hk j hj).1.el s hs).2
/-! the search that stops at 3000 states -/
def stpF (mv:List (List Int)) (A:List Int) (k:Nat) (s:Ex×Bool) (j:Nat):Ex×Bool :=
  if s.2=true then s else if nbr mv s.1 k (A.getD j 0)∈s.1.S then s else if s.1.S.length=3000 then (s.1,true) else (stp mv A k s.1 j,false)
def innF (mv:List (List Int)) (A:List Int) (k:Nat) (s:Ex×Bool):Nat→Ex×Bool
  | 0=>s
  | j+1=>stpF mv A k (innF mv A k s j) j
def outF (mv:List (List Int)) (A:List Int) (n:Nat):Nat→Ex×Bool
  | 0=>(ex0 n,false)
  | k+1=>if k<(outF mv A n k).1.S.length then innF mv A k (outF mv A n k) A.length else outF mv A n k
theorem innF_stay {mv:List (List Int)} {A:List Int} {k:Nat} {s:Ex×Bool} {j:Nat} (h:(innF mv A k s j).2=true):∀ d,innF mv A k s (j+d)=innF mv A k s j
  | 0=>rfl
  | d+1=>by rw [← Nat.add_assoc,innF,innF_stay h d,stpF,if_pos h]
theorem innF_t {mv:List (List Int)} {A:List Int} {k:Nat} {s:Ex×Bool} (h:s.2=true):∀ j,innF mv A k s j=s:=fun j=>by
  have:=innF_stay (mv:=mv) (A:=A) (k:=k) (s:=s) (j:=0) h j
  simpa [innF] using this
theorem outF_stay {mv:List (List Int)} {A:List Int} {n k:Nat} (h:(outF mv A n k).2=true∨(outF mv A n k).1.S.length≤k):∀ d,outF mv A n (k+d)=outF mv A n k
  | 0=>rfl
  | d+1=>by
    rw [← Nat.add_assoc,outF,outF_stay h d]
    rcases h with h | h
    · rw [innF_t h];split <;> rfl
    · rw [if_neg (by omega)]
theorem innF_f {mv:List (List Int)} {A:List Int} {k:Nat} {s:Ex×Bool}:∀ j,(innF mv A k s j).2=false→s.2=false∧(innF mv A k s j).1=inn mv A k s.1 j
  | 0,h=>⟨h,rfl⟩
  | j+1,h=>by
    rw [innF,stpF] at h ⊢
    by_cases c:(innF mv A k s j).2=true
    · rw [if_pos c] at h;rw [c] at h;cases h
    have cf:(innF mv A k s j).2=false:=by simpa using c
    obtain ⟨a,b⟩:=innF_f j cf
    refine ⟨a,?_⟩
    rw [if_neg c] at h ⊢
    rw [inn,← b]
    by_cases c2:nbr mv (innF mv A k s j).1 k (A.getD j 0)∈(innF mv A k s j).1.S
    · rw [if_pos c2,stp,if_pos c2]
    · rw [if_neg c2] at h ⊢
      by_cases c3:(innF mv A k s j).1.S.length=3000
      · rw [if_pos c3] at h;cases h
      · rw [if_neg c3]
theorem outF_f {mv:List (List Int)} {A:List Int} {n:Nat}:∀ k,(outF mv A n k).2=false→(outF mv A n k).1=out mv A n k
  | 0,_=>rfl
  | k+1,h=>by
    rw [outF] at h ⊢
    rw [out]
    by_cases c:k<(outF mv A n k).1.S.length
    · rw [if_pos c] at h ⊢
      obtain ⟨a,b⟩:=innF_f _ h
      have ih:=outF_f k a
      rw [b,ih,if_pos (by rw [← ih];exact c)]
    · rw [if_neg c] at h ⊢
      have ih:=outF_f k h
      rw [← ih,if_neg c]
theorem stpF_len {mv:List (List Int)} {A:List Int} {k j:Nat} {s:Ex×Bool} (h:s.1.S.length≤3000):(stpF mv A k s j).1.S.length≤3000:=by
  unfold stpF
  split
  · exact h
  · split
    · exact h
    · split
      · exact h
      · rename_i c2 c3
        simp only [stp]
        rw [if_neg c2];simp;omega
theorem innF_len {mv:List (List Int)} {A:List Int} {k:Nat} {s:Ex×Bool} (h:s.1.S.length≤3000):∀ j,(innF mv A k s j).1.S.length≤3000
  | 0=>h
  | j+1=>stpF_len (innF_len h j)
theorem outF_len (mv:List (List Int)) (A:List Int) (n:Nat):∀ k,(outF mv A n k).1.S.length≤3000
  | 0=>by simp [outF]
  | k+1=>by
    rw [outF];split
    · exact innF_len (outF_len mv A n k) _
    · exact outF_len mv A n k
theorem outF_whole (h1:1≤n) (h2:n≤20) (hm:∀ s∈mv,PN n s):((outF mv (letL mv.length) n 3000).2=false↔ordL (newL n mv)≤3000):=by
  constructor
  · intro h
    have e:=outF_f 3000 h
    have hl:=outF_len mv (letL mv.length) n 3000
    rw [e] at hl
    have:=(out_end h1 h2 hm hl).1
    omega
  · intro h
    have key:∀ k,(outF mv (letL mv.length) n k).2=false:=by
      intro k
      induction k with
      | zero=>rfl
      | succ k ih =>
        rw [outF];split
        · rename_i c
          have e:=outF_f k ih
          have inn2:∀ j,j≤(letL mv.length).length→(innF mv (letL mv.length) k (outF mv (letL mv.length) n k) j).2=false:=by
            intro j
            induction j with
            | zero=>intro _;exact ih
            | succ j ihj =>
              intro hj
              have q:=ihj (by omega)
              have e2:=(innF_f j q).2
              rw [innF,stpF,if_neg (by rw [q];simp)]
              split
              · exact q
              · rename_i c2
                rw [if_neg]
                intro c3
                rw [e2,e] at c2 c3
                have hk:k<(out mv (letL mv.length) n k).S.length:=by rw [← e];exact c
                have hs:=inn_le h1 h2 hm (out_ok h1 h2 hm k).1 hk (j:=j+1) hj
                rw [inn,stp,if_neg c2] at hs
                simp at hs;omega
          exact inn2 _ (Nat.le_refl _)
        · exact ih
    exact key 3000
end
end Bf
end Go.AM
namespace Go.AM
namespace Bf
/-! lists in their order,and the place of one among sorted ones -/
def lexLt:List Int→List Int→Bool
  | x :: a,y :: b=>if x=y then lexLt a b else decide (x<y)
  | _,_=>false
theorem lex_irr:∀ a:List Int,lexLt a a=false
  | []=>rfl
  | x :: a=>by rw [lexLt,if_pos rfl];exact lex_irr a
theorem lex_tr:∀ {a b c:List Int},lexLt a b=true→lexLt b c=true→lexLt a c=true
  | [],_,_,h,_=>by simp [lexLt] at h
  | _ :: _,[],_,h,_=>by simp [lexLt] at h
  | _ :: _,_ :: _,[],_,h=>by simp [lexLt] at h
  | x :: a,y :: b,z :: c,h,k=>by
    rw [lexLt] at h k ⊢
    by_cases e1:x=y
    · rw [if_pos e1] at h
      by_cases e2:y=z
      · rw [if_pos e2] at k
        rw [if_pos (e1.trans e2)];exact lex_tr h k
      · rw [if_neg e2] at k
        rw [if_neg (by rw [e1];exact e2),e1];exact k
    · rw [if_neg e1] at h
      by_cases e2:y=z
      · rw [← e2,if_neg e1];exact h
      · rw [if_neg e2] at k
        simp only [decide_eq_true_eq] at h k
        rw [if_neg (by omega)]
        simp;omega
theorem lex_tot:∀ {a b:List Int},a.length=b.length→a≠b→lexLt a b=true∨lexLt b a=true
  | [],[],_,h=>absurd rfl h
  | [],_ :: _,h,_=>by simp at h
  | _ :: _,[],h,_=>by simp at h
  | x :: a,y :: b,h,k=>by
    rw [lexLt,lexLt]
    by_cases e:x=y
    · rw [if_pos e,if_pos e.symm]
      refine lex_tot (by simpa using h) fun q=>k (by rw [e,q])
    · rw [if_neg e,if_neg (Ne.symm e)]
      simp;omega
theorem lex_drop:∀ (k:Nat) {a b:List Int},a.length=b.length→a.take k=b.take k→lexLt (a.drop k) (b.drop k)=lexLt a b
  | 0,_,_,_,_=>rfl
  | k+1,[],[],_,_=>rfl
  | k+1,[],_ :: _,h,_=>by simp at h
  | k+1,_ :: _,[],h,_=>by simp at h
  | k+1,x :: a,y :: b,h,e=>by
    simp only [List.take_succ_cons,List.cons.injEq] at e
    rw [List.drop_succ_cons,List.drop_succ_cons,lexLt,if_pos e.1]
    exact lex_drop k (by simpa using h) e.2
theorem lex_at {k:Nat} {a b:List Int} (h:a.length=b.length) (e:a.take k=b.take k) (hk:k<a.length) (hne:a.getD k 0≠b.getD k 0):lexLt a b=decide (a.getD k 0<b.getD k 0):=by
  have hk2:k<b.length:=by omega
  rw [getD_eq _ _ _ hk,getD_eq _ _ _ hk2] at hne ⊢
  rw [← lex_drop k h e,List.drop_eq_getElem_cons hk,List.drop_eq_getElem_cons hk2,lexLt,if_neg hne]
theorem filt_pre {α:Type} (p:α→Bool):∀ l:List α,l.Pairwise (fun a b=>p b=true→p a=true)→∀ m (hm:m<l.length),(p l[m]=true↔m<(l.filter p).length)
  | [],_,m,hm=>by cases hm
  | a :: l,h,m,hm=>by
    obtain ⟨h1,h2⟩:=List.pairwise_cons.1 h
    by_cases c:p a=true
    · rw [List.filter_cons,if_pos c]
      cases m with
      | zero=>simp [c]
      | succ m =>
        have:=filt_pre p l h2 m (by simpa using hm)
        simpa using this
    · have hn:∀ b∈l,¬ p b=true:=fun b hb q=>c (h1 b hb q)
      have hf:l.filter p=[]:=List.filter_eq_nil_iff.2 hn
      rw [List.filter_cons,if_neg c,hf]
      cases m with
      | zero=>simp [c]
      | succ m=>simp;exact by simpa using hn _ (List.getElem_mem _)
def slotC (S:List (List Int)) (srt:List Nat) (s:List Int):Nat:=(srt.filter fun i=>lexLt (S.getD i default) s).length
structure SrtOk (n:Nat) (S:List (List Int)) (srt:List Nat):Prop where
  nd:srt.Nodup
  mem:∀ i,i∈srt↔i<S.length
  len:srt.length=S.length
  pw:srt.Pairwise fun i j=>lexLt (S.getD i default) (S.getD j default)=true
  ll:∀ s∈S,s.length=n
section
variable {n:Nat} {S:List (List Int)} {srt:List Nat}
theorem slot_iff (h:SrtOk n S srt) (s:List Int) {m:Nat} (hm:m<srt.length):(lexLt (S.getD (srt.getD m 0) default) s=true↔m<slotC S srt s):=by
  have:=filt_pre (fun i=>lexLt (S.getD i default) s) srt (h.pw.imp fun {a b} q r=>lex_tr q r) m hm
  rw [getD_eq _ _ _ hm]
  exact this
theorem slot_le (S:List (List Int)) (srt:List Nat) (s:List Int):slotC S srt s≤srt.length:=List.length_filter_le _ _
theorem slot_hit (h:SrtOk n S srt) {s:List Int} (hs:s∈S):slotC S srt s<srt.length∧S.getD (srt.getD (slotC S srt s) 0) default=s:=by
  obtain ⟨i,hi,rfl⟩:=List.mem_iff_getElem.1 hs
  obtain ⟨m,hm,e⟩:=List.mem_iff_getElem.1 ((h.mem i).2 hi)
  have hg:∀ q (hq:q<srt.length),lexLt (S.getD (srt.getD q 0) default) S[i]=true↔q<m:=fun q hq=>by
    constructor
    · intro hl
      rcases Nat.lt_trichotomy q m with a | a | a
      · exact a
      · subst a
        rw [getD_eq _ _ _ hq,e,getD_eq _ _ _ hi,lex_irr] at hl;cases hl
      · have:=List.pairwise_iff_getElem.1 h.pw m q hm hq a
        rw [e,getD_eq _ _ _ hi] at this
        rw [getD_eq _ _ _ hq] at hl
        have:=lex_tr this hl
        rw [lex_irr] at this;cases this
    · intro hl
      have:=List.pairwise_iff_getElem.1 h.pw q m hq hm hl
      rw [e,getD_eq _ _ _ hi] at this
      rwa [getD_eq _ _ _ hq]
  have hsl:slotC S srt S[i]=m:=by
    have hle:=slot_le S srt S[i]
    rcases Nat.lt_trichotomy (slotC S srt S[i]) m with a | a | a
    · have:=(hg _ (by omega)).2 a
      have:=(slot_iff h S[i] (by omega)).1 this
      omega
    · exact a
    · have:=(slot_iff h S[i] hm).2 a
      have:=(hg m hm).1 this
      omega
  rw [hsl,getD_eq _ _ _ hm,e,getD_eq _ _ _ hi]
  exact ⟨hm,rfl⟩
theorem idx_of_get {S:List (List Int)} (hd:S.Nodup) {i:Nat} (hi:i<S.length):ixK S (S.getD i default)=i:=by
  have hm:=mem_getD S i default hi
  unfold ixK
  rw [if_pos hm]
  congr 1
  rw [getD_eq _ _ _ hi]
  exact hd.idxOf_getElem i hi
theorem slot_ix (h:SrtOk n S srt) (hd:S.Nodup) (s:List Int):ixK S s=if slotC S srt s<srt.length∧S.getD (srt.getD (slotC S srt s) 0) default=s then (srt.getD (slotC S srt s) 0:Int) else -1:=by
  by_cases hs:s∈S
  · obtain ⟨a,b⟩:=slot_hit h hs
    rw [if_pos ⟨a,b⟩]
    have hi:=(h.mem _).1 (mem_getD srt _ 0 a)
    have:=idx_of_get hd hi
    rwa [b] at this
  · rw [if_neg,ix_none (fun t ht e=>hs (e ▸ ht):∀ t∈S,t≠s)]
    rintro ⟨a,b⟩
    have hi:=(h.mem _).1 (mem_getD srt _ 0 a)
    exact hs (b ▸ mem_getD S _ default hi)
def insS (S:List (List Int)) (srt:List Nat) (s:List Int):List Nat:=srt.take (slotC S srt s)++S.length :: srt.drop (slotC S srt s)
theorem ins_ok (h:SrtOk n S srt) {s:List Int} (hl:s.length=n) (hs:s∉S):SrtOk n (S++[s]) (insS S srt s):=by
  have hin:∀ i∈srt,i<S.length:=fun i hi=>(h.mem i).1 hi
  have hold:∀ i,i<S.length→(S++[s]).getD i default=S.getD i default:=fun i hi=>getD_app_l _ _ _ _ hi
  have hnew:(S++[s]).getD S.length default=s:=by
    simp
  have hperm:∀ i,i∈insS S srt s↔i∈srt∨i=S.length:=fun i=>by
    unfold insS
    conv=>rhs;rw [← List.take_append_drop (slotC S srt s) srt]
    simp only [List.mem_append,List.mem_cons]
    constructor
    · rintro (q | q | q)
      · exact .inl (.inl q)
      · exact .inr q
      · exact .inl (.inr q)
    · rintro ((q | q) | q)
      · exact .inl q
      · exact .inr (.inr q)
      · exact .inr (.inl q)
  have hlt:∀ i∈srt.take (slotC S srt s),lexLt (S.getD i default) s=true:=fun i hi=>by
    obtain ⟨m,hm,rfl⟩:=List.mem_iff_getElem.1 hi
    rw [List.length_take] at hm
    rw [List.getElem_take]
    have:=(slot_iff h s (show m<srt.length by omega)).2 (by omega)
    rwa [getD_eq _ _ _ (show m<srt.length by omega)] at this
  have hgt:∀ i∈srt.drop (slotC S srt s),lexLt s (S.getD i default)=true:=fun i hi=>by
    obtain ⟨m,hm,rfl⟩:=List.mem_iff_getElem.1 hi
    rw [List.length_drop] at hm
    rw [List.getElem_drop]
    have hq:slotC S srt s+m<srt.length:=by omega
    have hni:¬ lexLt (S.getD (srt.getD (slotC S srt s+m) 0) default) s=true:=fun q=>by
      have:=(slot_iff h s hq).1 q;omega
    rw [getD_eq _ _ _ hq] at hni
    have hi:=hin _ (List.getElem_mem hq)
    have hm2:=mem_getD S srt[slotC S srt s+m] default hi
    rcases lex_tot (a:=s) (b:=S.getD srt[slotC S srt s+m] default) (by rw [hl,h.ll _ hm2]) (fun e=>hs (e ▸ hm2)) with q | q
    · exact q
    · exact absurd q hni
  refine ⟨?_,fun i=>?_,?_,?_,fun t ht=>?_⟩
  · have hp:(insS S srt s).Perm (S.length :: srt):=by
      unfold insS
      have:=List.perm_middle (a:=S.length) (l₁:=srt.take (slotC S srt s)) (l₂:=srt.drop (slotC S srt s))
      rwa [List.take_append_drop] at this
    refine (hp.nodup_iff).2 (List.nodup_cons.2 ⟨fun q=>?_,h.nd⟩)
    have:=hin _ q;omega
  · rw [hperm,h.mem,List.length_append,List.length_singleton];omega
  · unfold insS
    have:=h.len
    have:=slot_le S srt s
    simp;omega
  · unfold insS
    have hp:∀ l:List Nat,(∀ i∈l,i∈srt)→l.Pairwise (fun i j=>lexLt (S.getD i default) (S.getD j default)=true)→l.Pairwise fun i j=>lexLt ((S++[s]).getD i default) ((S++[s]).getD j default)=true:=fun l hl hp=>hp.imp_of_mem fun {a b} ha hb q=>by
      rw [hold _ (hin _ (hl _ ha)),hold _ (hin _ (hl _ hb))];exact q
    rw [List.pairwise_append,List.pairwise_cons]
    refine ⟨hp _ (fun i hi=>List.mem_of_mem_take hi) (h.pw.sublist (List.take_sublist _ _)),⟨fun i hi=>?_,hp _ (fun i hi=>List.mem_of_mem_drop hi) (h.pw.sublist (List.drop_sublist _ _))⟩,fun a ha b hb=>?_⟩
    · rw [hnew,hold _ (hin _ (List.mem_of_mem_drop hi))];exact hgt i hi
    · rw [hold _ (hin _ (List.mem_of_mem_take ha))]
      rcases List.mem_cons.1 hb with rfl | hb
      · rw [hnew];exact hlt a ha
      · rw [hold _ (hin _ (List.mem_of_mem_drop hb))]
        exact lex_tr (hlt a ha) (hgt b hb)
  · rcases List.mem_append.1 ht with q | q
    · exact h.ll t q
    · rw [List.mem_singleton.1 q];exact hl
end
def srtK (S:List (List Int)):Nat→List Nat
  | 0=>[]
  | m+1=>insS (S.take m) (srtK S m) (S.getD m default)
abbrev srtS (S:List (List Int)):List Nat:=srtK S S.length
theorem srtK_app (S T:List (List Int)):∀ m,m≤S.length→srtK (S++T) m=srtK S m
  | 0,_=>rfl
  | m+1,h=>by
    rw [srtK,srtK,srtK_app S T m (by omega),List.take_append_of_le_length (by omega),getD_app_l _ _ _ _ (by omega)]
theorem srtS_add (S:List (List Int)) (s:List Int):srtS (S++[s])=insS S (srtS S) s:=by
  have h:(S++[s]).length=S.length+1:=by simp
  have hg:(S++[s]).getD S.length default=s:=by
    simp
  unfold srtS
  rw [h,srtK,srtK_app S [s] _ (Nat.le_refl _),hg,List.take_append_of_le_length (Nat.le_refl _),List.take_length]
theorem srtK_ok {n:Nat} {S:List (List Int)} (hd:S.Nodup) (hl:∀ s∈S,s.length=n):∀ m,m≤S.length→SrtOk n (S.take m) (srtK S m)
  | 0,_=>⟨by simp [srtK],fun i=>by simp [srtK],by simp [srtK],by simp [srtK],fun s hs=>by simp at hs⟩
  | m+1,h=>by
    have e:=take_succ_eq S m default (show m<S.length by omega)
    rw [e,srtK]
    have hd2:(S.take m++[S.getD m default]).Nodup:=by rw [← e];exact hd.sublist (List.take_sublist _ _)
    rw [List.nodup_append] at hd2
    exact ins_ok (srtK_ok hd hl m (by omega)) (hl _ (mem_getD S m default (by omega))) fun q=>hd2.2.2 _ q _ (by simp) rfl
theorem srtS_ok {n:Nat} {S:List (List Int)} (hd:S.Nodup) (hl:∀ s∈S,s.length=n):SrtOk n S (srtS S):=by
  have:=srtK_ok hd hl S.length (Nat.le_refl _)
  rwa [List.take_length] at this
end Bf
end Go.AM
namespace Go.AM
namespace Bf
open Ch (PN pt idL Gen newL ordL elsL newL_els)
/-! the words that the search finds: the smallest of the shortest -/
def tau (m:Nat) (e:Ex) (i:Nat):Nat:=e.Pa.getD i 0*m+e.J.getD i 0
structure Tm (mv:List (List Int)) (A:List Int) (e:Ex) (T:Nat):Prop where
  d0:e.D.getD 0 0=0
  old:∀ i,0<i→i<e.S.length→tau A.length e i<T∧e.Pa.getD i 0<i∧e.J.getD i 0<A.length∧e.S.getD i default=nbr mv e (e.Pa.getD i 0) (A.getD (e.J.getD i 0) 0)∧e.D.getD i 0=e.D.getD (e.Pa.getD i 0) 0+1
  ord:∀ i j,0<i→i<j→j<e.S.length→tau A.length e i<tau A.length e j
  fst:∀ k j,j<A.length→k*A.length+j<T→k<e.S.length→∃ i,i<e.S.length∧e.S.getD i default=nbr mv e k (A.getD j 0)∧(i=0∨tau A.length e i≤k*A.length+j)
section
variable {n:Nat} {mv:List (List Int)} {A:List Int}
theorem ex0_tm (mv:List (List Int)) (A:List Int) (n:Nat):Tm mv A (ex0 n) 0:=⟨rfl,fun i h1 h2=>by simp at h2;omega,fun i j h1 h2 h3=>by simp at h3;omega,fun k j _ h=>absurd h (Nat.not_lt_zero _)⟩
theorem pair_lt {m k j k' j':Nat} (hj:j<m) (hj':j'<m) (h:k*m+j<k'*m+j'):k<k'∨(k=k'∧j<j'):=by
  rcases Nat.lt_trichotomy k k' with q | q | q
  · exact .inl q
  · subst q;exact .inr ⟨rfl,by omega⟩
  · have:(k'+1)*m≤k*m:=Nat.mul_le_mul_right _ q
    rw [Nat.succ_mul] at this;omega
theorem pair_of {m k j k' j':Nat} (hj:j<m) (h:k<k'):k*m+j<k'*m+j':=by
  have:(k+1)*m≤k'*m:=Nat.mul_le_mul_right _ h
  rw [Nat.succ_mul] at this;omega
theorem stp_tm {e:Ex} (h:Ok n mv e) {k j:Nat} (hk:k<e.S.length) (hj:j<A.length) (t:Tm mv A e (k*A.length+j)):Tm mv A (stp mv A k e j) (k*A.length+(j+1)):=by
  unfold stp
  split
  · rename_i hm
    refine ⟨t.d0,fun i h1 h2=>?_,t.ord,fun k' j' hj' hlt hk'=>?_⟩
    · obtain ⟨a,b⟩:=t.old i h1 h2;exact ⟨by omega,b⟩
    · by_cases c:k'*A.length+j'<k*A.length+j
      · exact t.fst k' j' hj' c hk'
      · have:k'=k∧j'=j:=by
          rcases Nat.lt_trichotomy k' k with q | q | q
          · have:=pair_of (j':=j) hj' q;omega
          · subst q;exact ⟨rfl,by omega⟩
          · have:=pair_of (j':=j') hj q;omega
        obtain ⟨rfl,rfl⟩:=this
        obtain ⟨i,hi,he⟩:=List.mem_iff_getElem.1 hm
        refine ⟨i,hi,by rw [getD_eq _ _ _ hi];exact he,?_⟩
        by_cases c0:i=0
        · exact .inl c0
        · exact .inr (Nat.le_of_lt (t.old i (by omega) hi).1)
  · rename_i hm
    have l1:=h.lD
    have l2:=h.lP
    have l3:=h.lJ
    have gS:∀ i,i<e.S.length→(e.S++[nbr mv e k (A.getD j 0)]).getD i default=e.S.getD i default:=fun i hi=>getD_app_l _ _ _ _ hi
    have gD:∀ i,i<e.S.length→(e.D++[e.D.getD k 0+1]).getD i 0=e.D.getD i 0:=fun i hi=>getD_app_l _ _ _ _ (by omega)
    have gP:∀ i,i<e.S.length→(e.Pa++[k]).getD i 0=e.Pa.getD i 0:=fun i hi=>getD_app_l _ _ _ _ (by omega)
    have gJ:∀ i,i<e.S.length→(e.J++[j]).getD i 0=e.J.getD i 0:=fun i hi=>getD_app_l _ _ _ _ (by omega)
    have nS:(e.S++[nbr mv e k (A.getD j 0)]).getD e.S.length default=nbr mv e k (A.getD j 0):=by simp
    have nD:(e.D++[e.D.getD k 0+1]).getD e.S.length 0=e.D.getD k 0+1:=by have:=getD_app_r e.D [e.D.getD k 0+1] 0 0;rw [l1] at this;simpa using this
    have nP:(e.Pa++[k]).getD e.S.length 0=k:=by have:=getD_app_r e.Pa [k] 0 0;rw [l2] at this;simpa using this
    have nJ:(e.J++[j]).getD e.S.length 0=j:=by have:=getD_app_r e.J [j] 0 0;rw [l3] at this;simpa using this
    have gT:∀ i,i<e.S.length→tau A.length ⟨e.S++[nbr mv e k (A.getD j 0)],e.D++[e.D.getD k 0+1],e.Pa++[k],e.J++[j]⟩ i=tau A.length e i:=fun i hi=>by simp only [tau,gP i hi,gJ i hi]
    have nT:tau A.length ⟨e.S++[nbr mv e k (A.getD j 0)],e.D++[e.D.getD k 0+1],e.Pa++[k],e.J++[j]⟩ e.S.length=k*A.length+j:=by simp only [tau,nP,nJ]
    refine ⟨by simp only [gD 0 h.z.1];exact t.d0,fun i h1 h2=>?_,fun i i' h1 h2 h3=>?_,fun k' j' hj' hlt hk'=>?_⟩
    · rw [List.length_append,List.length_singleton] at h2
      by_cases c:i<e.S.length
      · obtain ⟨a,b1,b2,b3,b4⟩:=t.old i h1 c
        simp only [gT i c,gP i c,gJ i c,gD i c,nbr,gS i c,gS _ (Nat.lt_trans b1 c),gD _ (Nat.lt_trans b1 c)]
        exact ⟨by omega,b1,b2,b3,b4⟩
      · have:i=e.S.length:=by omega
        subst this
        simp only [nT,nP,nJ,nS,nD,gS k hk,gD k hk,nbr]
        exact ⟨by omega,hk,hj,trivial,trivial⟩
    · simp only [List.length_append,List.length_singleton] at h3
      by_cases c:i'<e.S.length
      · rw [gT i' c,gT i (by omega)];exact t.ord i i' h1 h2 c
      · have:i'=e.S.length:=by omega
        subst this
        rw [nT,gT i h2];exact (t.old i h1 h2).1
    · simp only [List.length_append,List.length_singleton] at hk' ⊢
      by_cases c:k'*A.length+j'<k*A.length+j
      · have hk2:k'<e.S.length:=by
          rcases pair_lt hj' hj c with q | q
          · omega
          · omega
        obtain ⟨i,a,b,d⟩:=t.fst k' j' hj' c hk2
        exact ⟨i,by omega,by simp only [nbr,gS i a,gS k' hk2];exact b,by rw [gT i a];exact d⟩
      · have:k'=k∧j'=j:=by
          rcases Nat.lt_trichotomy k' k with q | q | q
          · have:=pair_of (j':=j) hj' q;omega
          · subst q;exact ⟨rfl,by omega⟩
          · have:=pair_of (j':=j') hj q;omega
        obtain ⟨rfl,rfl⟩:=this
        exact ⟨e.S.length,by omega,by simp only [nbr,nS,gS k' hk],.inr (by rw [nT];omega)⟩
theorem inn_tm (h1:1≤n) (h2:n≤20) (hm:∀ s∈mv,PN n s) {e:Ex} (h:Ok n mv e) {k:Nat} (hk:k<e.S.length) (t:Tm mv (letL mv.length) e (k*(letL mv.length).length)):∀ j,j≤(letL mv.length).length→Tm mv (letL mv.length) (inn mv (letL mv.length) k e j) (k*(letL mv.length).length+j)
  | 0,_=>t
  | j+1,hj=>stp_tm (inn_ok h1 h2 hm h hk j (by omega)).1 (Nat.lt_of_lt_of_le hk (inn_grw ..).len) hj (inn_tm h1 h2 hm h hk t j (by omega))
theorem out_tm (h1:1≤n) (h2:n≤20) (hm:∀ s∈mv,PN n s):∀ k,k≤(out mv (letL mv.length) n k).S.length→Tm mv (letL mv.length) (out mv (letL mv.length) n k) (k*(letL mv.length).length)
  | 0,_=>by rw [Nat.zero_mul];exact ex0_tm ..
  | k+1,hk=>by
    by_cases c:k<(out mv (letL mv.length) n k).S.length
    · have:=inn_tm h1 h2 hm (out_ok h1 h2 hm k).1 c (out_tm h1 h2 hm k (by omega)) _ (Nat.le_refl _)
      rw [out,if_pos c,Nat.succ_mul];exact this
    · rw [out,if_neg c] at hk;omega
/-! a finished search -/
structure Fin (n:Nat) (mv:List (List Int)) (A:List Int) (e:Ex):Prop where
  ok:Ok n mv e
  tm:Tm mv A e (e.S.length*A.length)
  all:∀ g,g∈e.S↔Gen n mv g
theorem out_fin (h1:1≤n) (h2:n≤20) (hm:∀ s∈mv,PN n s) {N:Nat} (hN:(out mv (letL mv.length) n N).S.length≤N):Fin n mv (letL mv.length) (out mv (letL mv.length) n N):=by
  have hall:=(out_end h1 h2 hm hN).2
  refine ⟨(out_ok h1 h2 hm N).1,?_,hall⟩
  -- the first k with k = the number of states
  have key:∀ N,(out mv (letL mv.length) n N).S.length≤N→∃ k,(out mv (letL mv.length) n k).S.length=k∧out mv (letL mv.length) n N=out mv (letL mv.length) n k:=by
    intro N
    induction N with
    | zero=>intro h;simp [out] at h
    | succ N ih =>
      intro h
      by_cases c:N<(out mv (letL mv.length) n N).S.length
      · have hg:=(out_grw1 mv (letL mv.length) n N).len
        exact ⟨N+1,by omega,rfl⟩
      · obtain ⟨k,a,b⟩:=ih (by omega)
        exact ⟨k,a,by rw [out,if_neg c];exact b⟩
  obtain ⟨k,a,b⟩:=key N hN
  rw [b]
  have:=out_tm h1 h2 hm k (by omega)
  rw [a];exact this
variable {e:Ex}
def wd (e:Ex):Nat→Nat→List Nat
  | 0,_=>[]
  | f+1,i=>if i=0 then [] else wd e f (e.Pa.getD i 0)++[e.J.getD i 0]
theorem Tm.dep {T:Nat} (t:Tm mv A e T):∀ i j,i≤j→j<e.S.length→e.D.getD i 0≤e.D.getD j 0:=by
  have key:∀ N j,j≤N→∀ i,i≤j→j<e.S.length→e.D.getD i 0≤e.D.getD j 0:=by
    intro N
    induction N with
    | zero=>intro j hj i hi _;rw [show i=j by omega];exact Nat.le_refl _
    | succ N ih =>
      intro j hj i hi hl
      by_cases c0:i=0
      · subst c0;rw [t.d0];exact Nat.zero_le _
      by_cases c:i=j
      · subst c;exact Nat.le_refl _
      obtain ⟨a1,a2,a3,a4,a5⟩:=t.old i (by omega) (by omega)
      obtain ⟨b1,b2,b3,b4,b5⟩:=t.old j (by omega) hl
      have:=t.ord i j (by omega) (by omega) hl
      unfold tau at this
      have hp:e.Pa.getD i 0≤e.Pa.getD j 0:=by
        rcases pair_lt a3 b3 this with q | q <;> omega
      have:=ih (e.Pa.getD j 0) (by omega) (e.Pa.getD i 0) hp (by omega)
      omega
  exact fun i j hi hl=>key j j (Nat.le_refl _) i hi hl
theorem Tm.wd_f {T:Nat} (t:Tm mv A e T):∀ f g i,i<f→i<g→i<e.S.length→wd e f i=wd e g i
  | 0,_,_,h,_,_=>by omega
  | _+1,0,_,_,h,_=>by omega
  | f+1,g+1,i,hf,hg,hi=>by
    rw [wd,wd]
    by_cases c:i=0
    · rw [if_pos c,if_pos c]
    · obtain ⟨a1,a2,_⟩:=t.old i (by omega) hi
      rw [if_neg c,if_neg c,t.wd_f f g _ (by omega) (by omega) (by omega)]
abbrev wdE (e:Ex) (i:Nat):List Nat:=wd e e.S.length i
theorem Tm.wd_0 {T:Nat} (t:Tm mv A e T) (h:0<e.S.length):wdE e 0=[]:=by
  obtain ⟨m,hm⟩:∃ m,e.S.length=m+1:=⟨e.S.length - 1,by omega⟩
  unfold wdE;rw [hm,wd,if_pos rfl]
theorem Tm.wd_s {T:Nat} (t:Tm mv A e T) {i:Nat} (h0:0<i) (hi:i<e.S.length):wdE e i=wdE e (e.Pa.getD i 0)++[e.J.getD i 0]:=by
  obtain ⟨a1,a2,_⟩:=t.old i h0 hi
  obtain ⟨m,hm⟩:∃ m,e.S.length=m+1:=⟨e.S.length - 1,by omega⟩
  have:=t.wd_f m e.S.length (e.Pa.getD i 0) (by omega) (by omega) (by omega)
  unfold wdE
  rw [← this]
  conv=>lhs;rw [hm]
  rw [wd,if_neg (by omega)]
theorem Tm.wd_len {T:Nat} (t:Tm mv A e T) (hz:0<e.S.length):∀ N i,i≤N→i<e.S.length→(wdE e i).length=e.D.getD i 0
  | N,0,_,h=>by rw [t.wd_0 h,t.d0];rfl
  | 0,i+1,hN,h=>by omega
  | N+1,i+1,hN,h=>by
    obtain ⟨a1,a2,a3,a4,a5⟩:=t.old (i+1) (by omega) h
    rw [t.wd_s (by omega) h,List.length_append,t.wd_len hz N _ (by omega) (by omega),a5];rfl
/-! words by their letters' places -/
def lexN (a b:List Nat):Bool:=lexLt (a.map fun (x:Nat)=>(x:Int)) (b.map fun (x:Nat)=>(x:Int))
theorem lexLt_snoc:∀ {a b:List Int} {x y:Int},a.length=b.length→lexLt (a++[x]) (b++[y])=(lexLt a b || (decide (a=b) && decide (x<y)))
  | [],[],x,y,_=>by
    simp only [List.nil_append,lexLt]
    by_cases h:x=y
    · subst h;simp
    · simp [h]
  | [],_ :: _,_,_,h=>by simp at h
  | _ :: _,[],_,_,h=>by simp at h
  | u :: a,v :: b,x,y,h=>by
    rw [List.cons_append,List.cons_append,lexLt,lexLt]
    by_cases e:u=v
    · subst e
      rw [if_pos rfl,if_pos rfl,lexLt_snoc (by simpa using h)]
      simp
    · rw [if_neg e,if_neg e];simp [e]
theorem cast_inj:∀ {a b:List Nat},(a.map fun (x:Nat)=>(x:Int))=(b.map fun (x:Nat)=>(x:Int))→a=b
  | [],[],_=>rfl
  | [],_ :: _,h=>by simp at h
  | _ :: _,[],h=>by simp at h
  | x :: a,y :: b,h=>by
    simp only [List.map_cons,List.cons.injEq] at h
    rw [cast_inj h.2,show x=y by omega]
theorem lexN_snoc {a b:List Nat} {x y:Nat} (h:a.length=b.length):lexN (a++[x]) (b++[y])=true↔lexN a b=true∨(a=b∧x<y):=by
  unfold lexN
  rw [List.map_append,List.map_append,List.map_singleton,List.map_singleton,lexLt_snoc (by simpa using h)]
  simp only [Bool.or_eq_true,Bool.and_eq_true,decide_eq_true_eq]
  constructor
  · rintro (q | ⟨q,r⟩)
    · exact .inl q
    · exact .inr ⟨cast_inj q,by omega⟩
  · rintro (q | ⟨q,r⟩)
    · exact .inl q
    · exact .inr ⟨by rw [q],by omega⟩
theorem lexN_tr {a b c:List Nat} (h:lexN a b=true) (k:lexN b c=true):lexN a c=true:=lex_tr h k
theorem Tm.wd_lt {T:Nat} (t:Tm mv A e T) (hz:0<e.S.length):∀ N i j,j≤N→i<j→j<e.S.length→e.D.getD i 0=e.D.getD j 0→lexN (wdE e i) (wdE e j)=true
  | 0,i,j,h,h1,_,_=>by omega
  | N+1,i,j,h,h1,h2,h3=>by
    obtain ⟨b1,b2,b3,b4,b5⟩:=t.old j (by omega) h2
    have hi0:0<i:=by
      rcases Nat.eq_zero_or_pos i with c | c
      · subst c;rw [t.d0] at h3;omega
      · exact c
    obtain ⟨a1,a2,a3,a4,a5⟩:=t.old i hi0 (by omega)
    have ho:=t.ord i j hi0 h1 h2
    unfold tau at ho
    rw [t.wd_s hi0 (by omega),t.wd_s (by omega) h2,lexN_snoc (by rw [t.wd_len hz _ _ (Nat.le_refl _) (by omega),t.wd_len hz _ _ (Nat.le_refl _) (by omega)];omega)]
    rcases pair_lt a3 b3 ho with q | ⟨q1,q2⟩
    · exact .inl (t.wd_lt hz N _ _ (by omega) q (by omega) (by omega))
    · exact .inr ⟨by rw [q1],q2⟩
def evN (n:Nat) (mv:List (List Int)) (A:List Int) (s:List Int):List Nat→List Int
  | []=>s
  | j :: r=>evN n mv A (compI s (letP mv (A.getD j 0))) r
theorem evN_app (n:Nat) (mv:List (List Int)) (A:List Int):∀ (u v:List Nat) (s:List Int),evN n mv A s (u++v)=evN n mv A (evN n mv A s u) v
  | [],_,_=>rfl
  | j :: u,v,s=>by rw [List.cons_append,evN,evN,evN_app n mv A u v]
end
end Bf
end Go.AM
namespace Go.AM
namespace Bf
open Ch (PN pt idL Gen newL ordL elsL newL_els comp_assoc id_comp comp_inv inv_comp)
section
variable {n:Nat} {mv:List (List Int)} {e:Ex}
theorem S_inj (h:Ok n mv e) {i j:Nat} (hi:i<e.S.length) (hj:j<e.S.length) (q:e.S.getD i default=e.S.getD j default):i=j:=by
  rw [getD_eq _ _ _ hi,getD_eq _ _ _ hj] at q
  exact (List.getElem_inj h.nd).1 q
theorem ev_ok (h1:1≤n) (h2:n≤20) (hm:∀ s∈mv,PN n s):∀ (u:List Nat) (s:List Int),PN n s∧Gen n mv s→(∀ j∈u,j<(letL mv.length).length)→PN n (evN n mv (letL mv.length) s u)∧Gen n mv (evN n mv (letL mv.length) s u)
  | [],s,hs,_=>hs
  | j :: u,s,hs,hu=>ev_ok h1 h2 hm u _ (nbr_ok h1 h2 hm hs (mem_getD (letL mv.length) j 0 (hu j (by simp)))) fun k hk=>hu k (by simp [hk])
theorem Fin.min (h1:1≤n) (h2:n≤20) (hm:∀ s∈mv,PN n s) (f:Fin n mv (letL mv.length) e):∀ (L:Nat) (u:List Nat),u.length=L→(∀ j∈u,j<(letL mv.length).length)→∀ i,i<e.S.length→evN n mv (letL mv.length) (idL n) u=e.S.getD i default →
    e.D.getD i 0≤u.length∧(e.D.getD i 0=u.length→wdE e i=u∨lexN (wdE e i) u=true)
  | 0,u,hL,hu,i,hi,he=>by
    have hu0:=List.length_eq_zero_iff.1 hL
    subst hu0
    rw [evN,← f.ok.z.2] at he
    have:=S_inj f.ok f.ok.z.1 hi he
    subst this
    rw [f.tm.d0,f.tm.wd_0 hi]
    exact ⟨Nat.le_refl _,fun _=>.inl rfl⟩
  | L+1,u,hL,hu,i,hi,he=>by
    rcases List.eq_nil_or_concat u with rfl | ⟨v,y,rfl⟩
    · cases hL
    rw [List.concat_eq_append] at *
    have hv:∀ j∈v,j<(letL mv.length).length:=fun j hj=>hu j (by simp [hj])
    have hy:=hu y (by simp)
    have hvL:v.length=L:=by simpa using hL
    have hE:=ev_ok h1 h2 hm v (idL n) ⟨PN.one h1 h2,.one⟩ hv
    obtain ⟨k,hk,hke⟩:=List.mem_iff_getElem.1 ((f.all _).2 hE.2)
    have hke':evN n mv (letL mv.length) (idL n) v=e.S.getD k default:=by rw [getD_eq _ _ _ hk,hke]
    obtain ⟨c1,c2⟩:=Fin.min h1 h2 hm f L v hvL hv k hk hke'
    obtain ⟨i',g1,g2,g3⟩:=f.tm.fst k y hy (by
      have:(k+1)*(letL mv.length).length≤e.S.length*(letL mv.length).length:=Nat.mul_le_mul_right _ hk
      rw [Nat.succ_mul] at this;omega) hk
    have hii:i'=i:=by
      refine S_inj f.ok g1 hi ?_
      rw [g2,← he,evN_app,hke'];rfl
    subst hii
    rw [List.length_append,List.length_singleton]
    rcases Nat.eq_zero_or_pos i' with c | c
    · subst c;rw [f.tm.d0];exact ⟨by omega,fun q=>by omega⟩
    rcases g3 with g3 | g3
    · omega
    obtain ⟨a1,a2,a3,a4,a5⟩:=f.tm.old i' c hi
    have hpk:e.Pa.getD i' 0<k∨(e.Pa.getD i' 0=k∧e.J.getD i' 0≤y):=by
      unfold tau at g3
      rcases Nat.lt_or_ge (e.Pa.getD i' 0) k with q | q
      · exact .inl q
      · rcases Nat.lt_or_ge k (e.Pa.getD i' 0) with q2 | q2
        · have:=pair_of (j':=e.J.getD i' 0) hy q2;omega
        · have:e.Pa.getD i' 0=k:=by omega
          rw [this] at g3;exact .inr ⟨this,by omega⟩
    have hdp:=f.tm.dep (e.Pa.getD i' 0) k (by omega) hk
    refine ⟨by omega,fun q=>?_⟩
    have hdk:e.D.getD k 0=v.length:=by omega
    have hlw:(wdE e (e.Pa.getD i' 0)).length=v.length:=by rw [f.tm.wd_len f.ok.z.1 _ _ (Nat.le_refl _) (by omega)];omega
    rw [f.tm.wd_s c hi]
    rw [lexN_snoc hlw]
    rcases hpk with q2 | ⟨q2,q3⟩
    · have hlt:=f.tm.wd_lt f.ok.z.1 _ (e.Pa.getD i' 0) k (Nat.le_refl _) q2 hk (by omega)
      rcases c2 hdk with r | r
      · rw [r] at hlt;exact .inr (.inl hlt)
      · exact .inr (.inl (lexN_tr hlt r))
    · rw [q2]
      rcases c2 hdk with r | r
      · rw [r]
        rcases Nat.lt_or_ge (e.J.getD i' 0) y with s | s
        · exact .inr (.inr ⟨rfl,s⟩)
        · rw [show e.J.getD i' 0=y by omega];exact .inl rfl
      · exact .inr (.inl r)
/-! the other way about: words that lead back -/
def jinv (j:Nat):Nat:=if j % 2=0 then j+1 else j - 1
def rinv (u:List Nat):List Nat:=(u.map jinv).reverse
def dOf (e:Ex) (x:List Int):Nat:=e.D.getD (e.S.idxOf x) 0
def dw (mv:List (List Int)) (A:List Int) (e:Ex):Nat→List Int→List Nat
  | 0,_=>[]
  | d+1,s=>match (List.range A.length).find? (fun j=>decide (dOf e (compI s (letP mv (A.getD j 0)))=d)) with
    | some j=>j :: dw mv A e d (compI s (letP mv (A.getD j 0)))
    | none=>dw mv A e d s
end
end Bf
end Go.AM
set_option maxRecDepth 8000
namespace Go.AM
open Go.Proofs
def macOk (p:Puzz) (m:Twist):Prop:=puzzOk p∧wordOk p.mv.length m.to∧0<m.by'.length∧supR p m.to=m.by'
instance (p:Puzz) (m:Twist):Decidable (macOk p m):=by unfold macOk;infer_instance
end Go.AM
namespace Go.AM
/-! commutators,plainly -/
abbrev cmW (x y:Int):List Int:=[x,y,-x,-y]
def cmE (p:Puzz) (x y:Int):List Int:=effK p.n p.mv (cmW x y) 4
def cmStep (p:Puzz) (s:List (List Int)×List Twist) (x y:Int):List (List Int)×List Twist:=if sameI x y∨cmE p x y∈s.1 then s else (s.1++[cmE p x y],s.2++[⟨cmW x y,movL (cmE p x y) p.n.toNat⟩])
def cmI (p:Puzz) (A:List Int) (s:List (List Int)×List Twist) (x:Int):Nat→List (List Int)×List Twist
  | 0=>s
  | j+1=>cmStep p (cmI p A s x j) x (A.getD j 0)
def cmO (p:Puzz) (A:List Int):Nat→List (List Int)×List Twist
  | 0=>([runI 0 p.n.toNat],[])
  | i+1=>cmI p A (cmO p A i) (A.getD i 0) A.length
structure CmOk (n:Int) (b:Nat) (s:List (List Int)×List Twist):Prop where
  len:s.1.length=s.2.length+1
  le:s.2.length≤b
  st:∀ e∈s.1,moveOk n e
  mac:∀ t∈s.2,t.to.length=4∧t.by'.length≤20
def cmR (p:Puzz):List Twist:=if puzzOk p then (cmO p (letL p.mv.length) (letL p.mv.length).length).2 else []
end Go.AM
set_option maxRecDepth 8000
namespace Go.AM
open Go.Proofs
theorem islfz (L:List (List Int)):(L.map fun l=>isl l).map AV.fz=L.map fun l=>isl l:=by
  rw [List.map_map];exact List.map_congr_left fun a _=>by simp [AV.fz]
theorem itr_fz (l:List Int):(itr l).fz=isl l:=by rw [AV.fz,fzL_map,ints_fz]
theorem lettersS (p:Puzz) (hn:p.mv.length≤8):SpecAt Try.prog 248 [p.sl] (itr (letL p.mv.length)):=by
  refine spec_of_awp (M:=MM) (np:=1) (fz:=false) mixed Try.func248 rfl rfl (by decide) rfl (Nat.le_refl _) (by decide +kernel) (.inl rfl) (by first | trivial | simp only [sigsOk_nil,sigsOk_some,sigsOk_none,sig_tr,sig_pt,sig_mt,sig_agg,List.map_cons,List.map_nil,sig1_tr,sig1_pt,sig1_v,and_self,true_and,List.length_map,List.length_set]) ?_
  simp -dsimp -implicitDefEqProofs (disch:=first | omega | (simp only [lenr];try omega)) only [↓amPre,amAll,↓reduceIte,reduceCtorEq,Nat.reduceEqDiff,Nat.reduceBEq,Nat.reduceAdd,Nat.reduceLeDiff,Nat.reduceSub,Nat.reduceMul,Int.reduceToNat,List.size_toArray,tyF,MM,bu0,cbU49]
  refine awp_loop (fun k st=>k≤p.mv.length∧st.fr 4=.i64 ((k:Int)+1)∧st.fr 1=.loc 1 [] 0 0∧st.mem 1=some (.pt 3 p.sl)∧((k=0∧st.fr 3=.ref 5 [] 1 0 0∧st.mem 5=some (.tr 1 []))∨(0<k∧st.fr 3=.ref 18 [] 1 0 (2*k)∧st.mem 18=some (itr (letL k))))) (p.mv.length) ?_ ?_
  · simp -dsimp -implicitDefEqProofs (disch:=first | omega | (simp only [lenr];try omega)) only [↓amPre,amAll,↓reduceIte,reduceCtorEq,Nat.reduceEqDiff,Nat.reduceBEq,Nat.reduceAdd,Nat.reduceLeDiff,Nat.reduceSub,Nat.reduceMul,Int.reduceToNat,List.size_toArray,tyF,MM,bu0,cbU49]
    simp
  rintro k st _ ⟨hk,f4,f1,m1,ek⟩
  have hl:=letL_len k
  have hs:letL (k+1)=letL k++[(k:Int)+1,-((k:Int)+1)]:=rfl
  by_cases hlt:k<p.mv.length
  · have c1:((k:Int)+1≤(p.mv.length:Int)):=by omega
    have ew:IntKind.i64.wrap (0 - ((k:Int)+1)) = -((k:Int)+1):=by rw [wrap64_id (by omega)];omega
    have ew2:IntKind.i64.wrap ((k:Int)+1+1)=((k+1:Nat):Int)+1:=by rw [wrap64_id (by omega)];omega
    rcases ek with ⟨rfl,g3,g5⟩ | ⟨h0,g3,g5⟩
    · simp -dsimp -implicitDefEqProofs (disch:=first | omega | (simp only [lenr];try omega)) only [↓amPre,amAll,↓reduceIte,reduceCtorEq,Nat.reduceEqDiff,Nat.reduceBEq,Nat.reduceAdd,Nat.reduceLeDiff,Nat.reduceSub,Nat.reduceMul,Int.reduceToNat,List.size_toArray,tyF,MM,bu0,cbU49,f4,f1,m1,g3,g5,c1,ew,ew2,hl]
      refine ⟨hlt,by omega,by omega,?_⟩
      simp [letL]
    · simp -dsimp -implicitDefEqProofs (disch:=first | omega | (simp only [lenr];try omega)) only [↓amPre,amAll,↓reduceIte,reduceCtorEq,Nat.reduceEqDiff,Nat.reduceBEq,Nat.reduceAdd,Nat.reduceLeDiff,Nat.reduceSub,Nat.reduceMul,Int.reduceToNat,List.size_toArray,tyF,MM,bu0,cbU49,f4,f1,m1,g3,g5,c1,ew,ew2,hl]
      refine ⟨hlt,by omega,by omega,by rw [show 2*k+2=2*(k+1) by omega],?_⟩
      simp [letL]
  · have hk:k=p.mv.length:=by omega
    subst hk
    have c1:¬ ((p.mv.length:Int)+1≤(p.mv.length:Int)):=by omega
    rcases ek with ⟨h0,g3,g5⟩ | ⟨h0,g3,g5⟩
    · rw [h0]
      rw [h0] at c1
      simp -dsimp -implicitDefEqProofs (disch:=first | omega | (simp only [lenr];try omega)) only [↓amPre,amAll,↓reduceIte,reduceCtorEq,Nat.reduceEqDiff,Nat.reduceBEq,Nat.reduceAdd,Nat.reduceLeDiff,Nat.reduceSub,Nat.reduceMul,Int.reduceToNat,List.size_toArray,tyF,MM,bu0,cbU49,f4,f1,m1,g3,g5,c1,h0]
      simp [letL]
    · simp -dsimp -implicitDefEqProofs (disch:=first | omega | (simp only [lenr];try omega)) only [↓amPre,amAll,↓reduceIte,reduceCtorEq,Nat.reduceEqDiff,Nat.reduceBEq,Nat.reduceAdd,Nat.reduceLeDiff,Nat.reduceSub,Nat.reduceMul,Int.reduceToNat,List.size_toArray,tyF,MM,bu0,cbU49,f4,f1,m1,g3,g5,c1,hl]
end Go.AM
