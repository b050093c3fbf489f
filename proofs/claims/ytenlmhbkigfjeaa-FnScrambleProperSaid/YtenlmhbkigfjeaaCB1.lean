/-
  CONTRACTS of functions of the program,and what they compute,by content.
-/
import Derived.Test.YtenlmhbkigfjeaaCB0
import Derived.Test.YtenlmhbkigfjeaaM2Tool
import Derived.Test.YtenlmhbkigfjeaaM2SD
set_option linter.unusedVariables false
set_option linter.unusedSimpArgs false
set_option maxRecDepth 8000
namespace Go.AM
open Go.Proofs
def canScr (p:Puzz) (x c:Int):Prop:=puzzOk p∧within x 0 2147483646=true∧within c 0 200=true
instance (p:Puzz) (x c:Int):Decidable (canScr p x c):=by unfold canScr;infer_instance
def scrR (p:Puzz) (x c:Int):List Int:=if canScr p x c then scrW p.mv.length x c.toNat else []
theorem scrR_len (p:Puzz) (x c:Int):(scrR p x c).length≤200:=by
  unfold scrR
  split
  · rename_i h
    rw [scrW_len]
    have:=within_iff.1 h.2.2
    omega
  · simp
theorem isSeedI (x:Int):SpecAt Try.prog 134 [.i64 x] (.bl (within x 0 2147483646)):=by
  refine spec_of_awp (M:=MM) (np:=1) (fz:=true) mixed Try.func134 rfl rfl (by decide) rfl (Nat.le_refl _) (by decide +kernel) (.inr ⟨rfl,rfl⟩) trivial ?_
  simp -dsimp -implicitDefEqProofs (disch:=first | omega | (simp only [lenr];try omega)) only [↓amPre,amAll,↓reduceIte,reduceCtorEq,Nat.reduceEqDiff,Nat.reduceBEq,Nat.reduceAdd,Nat.reduceLeDiff,Nat.reduceSub,Nat.reduceMul,Int.reduceToNat,List.size_toArray,tyF,MM,bu0,cbP9]
  refine callP_of (iwithin _ _ _) ?_
  simp -dsimp -implicitDefEqProofs (disch:=first | omega | (simp only [lenr];try omega)) only [↓amPre,amAll,↓reduceIte,reduceCtorEq,Nat.reduceEqDiff,Nat.reduceBEq,Nat.reduceAdd,Nat.reduceLeDiff,Nat.reduceSub,Nat.reduceMul,Int.reduceToNat,List.size_toArray,tyF,MM,bu0,cbP9]
theorem canScramble (p:Puzz) (x c:Int) (h:smallP p):SpecAt Try.prog 119 [p.sl,.i64 x,.i64 c] (.bl (decide (canScr p x c))):=by
  refine spec_of_awp (M:=MM) (np:=3) (fz:=true) mixed Try.func119 rfl rfl (by decide) rfl (Nat.le_refl _) (by decide +kernel) (.inr ⟨rfl,rfl⟩) trivial ?_
  simp -dsimp -implicitDefEqProofs (disch:=first | omega | (simp only [lenr];try omega)) only [↓amPre,amAll,↓reduceIte,reduceCtorEq,Nat.reduceEqDiff,Nat.reduceBEq,Nat.reduceAdd,Nat.reduceLeDiff,Nat.reduceSub,Nat.reduceMul,Int.reduceToNat,List.size_toArray,tyF,MM,bu0,cbP9]
  refine callP_of (iPuzzle p h) ?_
  by_cases c1:puzzOk p
  case neg =>
    simp -dsimp -implicitDefEqProofs (disch:=first | omega | (simp only [lenr];try omega)) only [↓amPre,amAll,↓reduceIte,reduceCtorEq,Nat.reduceEqDiff,Nat.reduceBEq,Nat.reduceAdd,Nat.reduceLeDiff,Nat.reduceSub,Nat.reduceMul,Int.reduceToNat,List.size_toArray,tyF,MM,bu0,cbP9,c1]
    simp [canScr,c1]
  simp -dsimp -implicitDefEqProofs (disch:=first | omega | (simp only [lenr];try omega)) only [↓amPre,amAll,↓reduceIte,reduceCtorEq,Nat.reduceEqDiff,Nat.reduceBEq,Nat.reduceAdd,Nat.reduceLeDiff,Nat.reduceSub,Nat.reduceMul,Int.reduceToNat,List.size_toArray,tyF,MM,bu0,cbP9,c1]
  refine callP_of (isSeedI x) ?_
  cases c2:within x 0 2147483646 with
  | false =>
    simp -dsimp -implicitDefEqProofs (disch:=first | omega | (simp only [lenr];try omega)) only [↓amPre,amAll,↓reduceIte,reduceCtorEq,Nat.reduceEqDiff,Nat.reduceBEq,Nat.reduceAdd,Nat.reduceLeDiff,Nat.reduceSub,Nat.reduceMul,Int.reduceToNat,List.size_toArray,tyF,MM,bu0,cbP9,c1]
    simp [canScr,c2]
  | true =>
    simp -dsimp -implicitDefEqProofs (disch:=first | omega | (simp only [lenr];try omega)) only [↓amPre,amAll,↓reduceIte,reduceCtorEq,Nat.reduceEqDiff,Nat.reduceBEq,Nat.reduceAdd,Nat.reduceLeDiff,Nat.reduceSub,Nat.reduceMul,Int.reduceToNat,List.size_toArray,tyF,MM,bu0,cbP9,c1]
    refine callP_of (iwithin _ _ _) ?_
    simp -dsimp -implicitDefEqProofs (disch:=first | omega | (simp only [lenr];try omega)) only [↓amPre,amAll,↓reduceIte,reduceCtorEq,Nat.reduceEqDiff,Nat.reduceBEq,Nat.reduceAdd,Nat.reduceLeDiff,Nat.reduceSub,Nat.reduceMul,Int.reduceToNat,List.size_toArray,tyF,MM,bu0,cbP9,c1]
    simp [canScr,c1,c2]
theorem iScrambleWord (p:Puzz) (x c:Int) (h:smallP p):SpecAt Try.prog 43 [p.sl,.i64 x,.i64 c] (itr (scrR p x c)):=by
  refine spec_of_awp (M:=MM) (np:=3) (fz:=false) mixed Try.func43 rfl rfl (by decide) rfl (Nat.le_refl _) (by decide +kernel) (.inl rfl) (by first | trivial | simp only [sigsOk_nil,sigsOk_some,sigsOk_none,sig_tr,sig_pt,sig_mt,sig_agg,List.map_cons,List.map_nil,sig1_tr,sig1_pt,sig1_v,and_self,true_and,List.length_map,List.length_set]) ?_
  simp -dsimp -implicitDefEqProofs (disch:=first | omega | (simp only [lenr];try omega)) only [↓amPre,amAll,↓reduceIte,reduceCtorEq,Nat.reduceEqDiff,Nat.reduceBEq,Nat.reduceAdd,Nat.reduceLeDiff,Nat.reduceSub,Nat.reduceMul,Int.reduceToNat,List.size_toArray,tyF,MM,bu0,cbP9]
  refine callP_of (canScramble p x c h) ?_
  by_cases c1:canScr p x c
  case neg =>
    simp -dsimp -implicitDefEqProofs (disch:=first | omega | (simp only [lenr];try omega)) only [↓amPre,amAll,↓reduceIte,reduceCtorEq,Nat.reduceEqDiff,Nat.reduceBEq,Nat.reduceAdd,Nat.reduceLeDiff,Nat.reduceSub,Nat.reduceMul,Int.reduceToNat,List.size_toArray,tyF,MM,bu0,cbP9,c1,scrR]
  obtain ⟨q1,q2,q3⟩:=c1
  have hx:=within_iff.1 q2
  have hc:=within_iff.1 q3
  obtain ⟨n,rfl⟩:∃ n:Nat,c=n:=⟨c.toNat,by omega⟩
  have hr:scrR p x n=scrW p.mv.length x n:=if_pos ⟨q1,q2,q3⟩
  have hd:canScr p x n:=⟨q1,q2,q3⟩
  rw [hr]
  simp -dsimp -implicitDefEqProofs (disch:=first | omega | (simp only [lenr];try omega)) only [↓amPre,amAll,↓reduceIte,reduceCtorEq,Nat.reduceEqDiff,Nat.reduceBEq,Nat.reduceAdd,Nat.reduceLeDiff,Nat.reduceSub,Nat.reduceMul,Int.reduceToNat,List.size_toArray,tyF,MM,bu0,cbP9,hd]
  refine callP_of (scramble p x n (puzz_nm q1) hx.1 (by omega) (by omega)) ?_
  simp -dsimp -implicitDefEqProofs (disch:=first | omega | (simp only [lenr];try omega)) only [↓amPre,amAll,↓reduceIte,reduceCtorEq,Nat.reduceEqDiff,Nat.reduceBEq,Nat.reduceAdd,Nat.reduceLeDiff,Nat.reduceSub,Nat.reduceMul,Int.reduceToNat,List.size_toArray,tyF,MM,bu0,cbP9]
end Go.AM
set_option maxRecDepth 8000
namespace Go.AM
open Go.Proofs
def pwL (e:List Int) (k:Nat):List Int:=(List.range e.length).map fun x=>((itN (fOf e) k x:Nat):Int)
theorem pwL_len (e:List Int) (k:Nat):(pwL e k).length=e.length:=by simp [pwL]
theorem pwL_get (e:List Int) (k:Nat) {x:Nat} (h:x<e.length):(pwL e k).getD x 0=itN (fOf e) k x:=by rw [pwL,range_map_get _ _ _ _ h]
theorem pwL_succ {e:List Int} (he:isPerm e) (k:Nat):compI (pwL e k) e=pwL e (k+1):=by
  refine ext_getD 0 (by rw [compI_len,pwL_len,pwL_len]) fun x hx=>?_
  rw [compI_len,pwL_len] at hx
  rw [compI_get _ _ _ (by rw [pwL_len];exact hx),pwL_get e k hx,Int.toNat_natCast,p_it he hx,pwL_get e (k+1) hx]
theorem pw_fix (e:List Int) (k:Nat):movL (pwL e k) e.length=[]↔∀ x,x<e.length→itN (fOf e) k x=x:=by
  constructor
  · intro h x hx
    refine Classical.byContradiction fun hne=>?_
    have:(x:Int)∈movL (pwL e k) e.length:=mem_movL.2 ⟨x,hx,by rw [pwL_get e k hx];omega,rfl⟩
    rw [h] at this;cases this
  · intro h
    refine List.eq_nil_iff_forall_not_mem.2 fun y hy=>?_
    obtain ⟨x,h1,h2,_⟩:=mem_movL.1 hy
    rw [pwL_get e k h1,h x h1] at h2
    exact h2 rfl
theorem per_dvd {n:Nat} {f:Nat→Nat} (h:PermF n f) {x:Nat} (hx:x<n) (k:Nat):itN f k x=x↔perN n f x ∣ k:=by
  obtain ⟨h1,h2,h3,h4⟩:=h.per x hx
  have e:k % perN n f x+k / perN n f x*perN n f x=k:=by rw [Nat.mul_comm];exact Nat.mod_add_div k _
  have hm:=h.itmod x hx (k / perN n f x) (k % perN n f x)
  rw [e] at hm
  rw [hm]
  constructor
  · intro q
    by_cases h0:k % perN n f x=0
    · exact Nat.dvd_of_mod_eq_zero h0
    · exact absurd q (h4 _ (by omega) (Nat.mod_lt _ h1))
  · intro q
    rw [Nat.mod_eq_zero_of_dvd q];rfl
theorem per_orb {n:Nat} {f:Nat→Nat} (h:PermF n f) {z y:Nat} (hz:z<n) (hy:y∈orbN n f z) (k:Nat) (hk:itN f k z=z):itN f k y=y:=by
  obtain ⟨j,rfl⟩:=(h.mem_orb z hz y).1 hy
  rw [← itN_add,Nat.add_comm,itN_add,hk]
theorem all_dvd {e:List Int} (he:isPerm e) (k:Nat):(∀ x,x<e.length→itN (fOf e) k x=x)↔∀ l∈longC (cycI e),l.length ∣ k:=by
  have hf:=permF_of he
  constructor
  · intro h l hl
    obtain ⟨h1,_⟩:=List.mem_filter.1 hl
    obtain ⟨z,h2,rfl⟩:=List.mem_map.1 h1
    have hz:=List.mem_range.1 (List.mem_filter.1 h2).1
    rw [orbI_len]
    exact (per_dvd hf hz k).1 (h z hz)
  · intro h x hx
    obtain ⟨z,h1,h2,h3⟩:=hf.minrep x hx
    have hz:z<e.length:=by omega
    refine per_orb hf hz h3 k ((per_dvd hf hz k).2 ?_)
    by_cases hp:1<perN e.length (fOf e) z
    · have:=h (orbI e z) (List.mem_filter.2 ⟨List.mem_map.2 ⟨z,List.mem_filter.2 ⟨List.mem_range.2 hz,h2⟩,rfl⟩,by rw [orbI_len];simpa using hp⟩)
      rwa [orbI_len] at this
    · have:=(hf.per z hz).1
      rw [show perN e.length (fOf e) z=1 by omega];exact Nat.one_dvd k
def lcmK (L:List (List Int)):Nat→Nat
  | 0=>1
  | j+1=>Nat.lcm (lcmK L j) (L.getD j default).length
theorem lcm_dvd_all (L:List (List Int)) (k:Nat):∀ j,j≤L.length→(lcmK L j ∣ k↔∀ i,i<j→(L.getD i default).length ∣ k)
  | 0,_=>by simp [lcmK]
  | j+1,hj=>by
    rw [lcmK,Nat.lcm_dvd_iff,lcm_dvd_all L k j (by omega)]
    constructor
    · rintro ⟨h1,h2⟩ i hi
      by_cases e:i=j
      · subst e;exact h2
      · exact h1 i (by omega)
    · intro h;exact ⟨fun i hi=>h i (by omega),h j (by omega)⟩
theorem dvd_big:∀ l,l<21→0<l→l ∣ 232792560:=by decide
theorem lcm_big (L:List (List Int)) (h:∀ l∈L,1≤l.length∧l.length≤20) (j:Nat) (hj:j≤L.length):lcmK L j ∣ 232792560:=(lcm_dvd_all L _ j hj).2 fun i hi=>by
  have:=h _ (mem_getD L i default (by omega))
  exact dvd_big _ (by omega) (by omega)
theorem lcm_rng (L:List (List Int)) (h:∀ l∈L,1≤l.length∧l.length≤20) (j:Nat) (hj:j≤L.length):1≤lcmK L j∧lcmK L j≤232792560:=by
  have h1:=lcm_big L h j hj
  have h2:=Nat.le_of_dvd (by decide) h1
  have h3:=Nat.pos_of_dvd_of_pos h1 (by decide)
  omega
def ordE (e:List Int):Nat:=lcmK (longC (cycI e)) (longC (cycI e)).length
theorem long_rng {e:List Int} (he:isPerm e):∀ l∈longC (cycI e),1≤l.length∧l.length≤20:=fun l hl=>by
  have:=(cyc_facts he).2.1 l (List.mem_filter.1 hl).1
  have:=he.1.2;omega
theorem ord_rng {e:List Int} (he:isPerm e):1≤ordE e∧ordE e≤232792560:=lcm_rng _ (long_rng he) _ (Nat.le_refl _)
theorem ord_spec {e:List Int} (he:isPerm e) (k:Nat):movL (pwL e k) e.length=[]↔ordE e ∣ k:=by
  rw [pw_fix,all_dvd he,ordE,lcm_dvd_all _ _ _ (Nat.le_refl _)]
  constructor
  · intro h i hi;exact h _ (mem_getD _ i default hi)
  · intro h l hl
    obtain ⟨i,hi,rfl⟩:=List.getElem_of_mem hl
    have:=h i hi
    rwa [getD_eq _ _ _ hi] at this
theorem ord_end {e:List Int} (he:isPerm e):movL (pwL e (ordE e)) e.length=[]:=(ord_spec he _).2 (Nat.dvd_refl _)
def spK (e:List Int):Nat→Nat×Nat
  | 0=>(0,0)
  | j+1=>if (spK e j).1=0∨(movL (pwL e (j+1)) e.length).length<(spK e j).2 then (j+1,(movL (pwL e (j+1)) e.length).length) else spK e j
end Go.AM
set_option maxRecDepth 8000
namespace Go.AM
open Go.Proofs
def treeGcd:OT:=(.alt 0 (.alt 1 (.alt 2 (.alt 3 (.alt 4 (.alt 5 .done .stop) .stop) (.alt 4 (.alt 3 (.alt 5 .done .stop) .stop) .stop)) (.alt 4 (.alt 2 (.alt 3 (.alt 5 .done .stop) .stop) .stop) .stop)) (.alt 2 (.alt 1 (.alt 3 (.alt 4 (.alt 5 .done .stop) .stop) (.alt 4 (.alt 3 (.alt 5 .done .stop) .stop) .stop)) .stop) .stop)) (.alt 1 (.alt 0 (.alt 2 (.alt 3 (.alt 4 (.alt 5 .done .stop) .stop) (.alt 4 (.alt 3 (.alt 5 .done .stop) .stop) .stop)) (.alt 4 (.alt 2 (.alt 3 (.alt 5 .done .stop) .stop) .stop) .stop)) (.alt 2 (.alt 0 (.alt 3 (.alt 4 (.alt 5 .done .stop) .stop) (.alt 4 (.alt 3 (.alt 5 .done .stop) .stop) .stop)) (.alt 3 (.alt 0 (.alt 4 (.alt 5 .done .stop) .stop) .stop) .stop)) .stop)) (.alt 2 (.alt 0 (.alt 1 (.alt 3 (.alt 4 (.alt 5 .done .stop) .stop) (.alt 4 (.alt 3 (.alt 5 .done .stop) .stop) .stop)) .stop) (.alt 1 (.alt 0 (.alt 3 (.alt 4 (.alt 5 .done .stop) .stop) (.alt 4 (.alt 3 (.alt 5 .done .stop) .stop) .stop)) (.alt 3 (.alt 0 (.alt 4 (.alt 5 .done .stop) .stop) .stop) .stop)) .stop)) .stop)))
def gcK (a b:Nat):Nat→Nat×Nat
  | 0=>(a,b)
  | k+1=>((gcK a b k).2,(gcK a b k).1 % (gcK a b k).2)
end Go.AM
set_option maxRecDepth 8000
namespace Go.AM
open Go.Proofs
theorem cp_comp (p q:List Int):cpL p q p.length=compI p q:=by
  refine ext_getD 0 (by rw [cpL_len,compI_len]) fun i hi=>?_
  rw [cpL_len] at hi
  rw [cpL,range_map_get _ _ _ _ hi,compI_get _ _ _ hi]
def spR (p:Puzz) (w:List Int):Nat×Nat:=if puzzOk p∧wordOk p.mv.length w then spK (effK p.n p.mv w w.length) (ordE (effK p.n p.mv w w.length) - 1) else (0,0)
abbrev spA (x:Nat×Nat):AV:=.tup [.i64 x.1,.i64 x.2]
end Go.AM
set_option maxRecDepth 8000
namespace Go.AM
open Go.Proofs
def consM (m:Model) (i:Invar):Prop:=modelOk m∧∀ s∈m.mv,invV m.ks s i=0
instance (m:Model) (i:Invar):Decidable (consM m i):=by unfold consM;infer_instance
def trivK (ks:List Kind) (set:Int):Nat→Bool
  | 0=>true
  | k+1=>trivK ks set k && !(bitK set k && decide (1<(ks.getD k default).c))
def trivI (ks:List Kind) (i:Invar):Bool:=if i.k=1 then decide ((ks.getD i.s.toNat default).o=1) else trivK ks i.s ks.length
end Go.AM
set_option maxRecDepth 8000
namespace Go.AM
open Go.Proofs
def keepI (m:Model) (i:Invar):Bool:=!trivI m.ks i && decide (consM m i)
def allI (ks:List Kind):List Invar:=twL ks.length++paL (2 ^ ks.length - 1)
def consL (m:Model):List Invar:=(allI m.ks).filter (keepI m)
def consR (m:Model):List Invar:=if modelOk m then consL m else []
end Go.AM
set_option maxRecDepth 8000
namespace Go.AM
open Go.Proofs
def vioO (m:Model) (s:List Twist):Option Invar:=if psOk m.ks s then (consR m).find? (fun i=>invV m.ks s i != 0) else none
def vioR (o:Option Invar):AV:=match o with | some i=>.tup [i.av,.bl true] | none=>.tup [(⟨0,0⟩:Invar).av,.bl false]
end Go.AM
set_option maxRecDepth 8000
namespace Go.AM
open Go.Proofs
theorem sEqualInts (a b:List Int) (ha:a.length≤1099511627776):SpecAt Try.prog 131 [isl a,isl b] (.bl (decide (a=b))):=by
  refine spec_of_awp (M:=MM) (np:=2) (fz:=true) mixed Try.func131 rfl rfl (by decide) rfl (Nat.le_refl _) (by decide +kernel) (.inr ⟨rfl,rfl⟩) trivial ?_
  simp -dsimp -implicitDefEqProofs (disch:=first | omega | (simp only [lenr];try omega)) only [↓amPre,amAll,↓reduceIte,reduceCtorEq,Nat.reduceEqDiff,Nat.reduceBEq,Nat.reduceAdd,Nat.reduceLeDiff,Nat.reduceSub,Nat.reduceMul,Int.reduceToNat,List.size_toArray,tyF,MM,bu0,cbP6]
  refine ifP_mk ?_ ?_ <;> intro h1
  · simp -dsimp -implicitDefEqProofs (disch:=first | omega | (simp only [lenr];try omega)) only [↓amPre,amAll,↓reduceIte,reduceCtorEq,Nat.reduceEqDiff,Nat.reduceBEq,Nat.reduceAdd,Nat.reduceLeDiff,Nat.reduceSub,Nat.reduceMul,Int.reduceToNat,List.size_toArray,tyF,MM,bu0,cbP6,h1]
    have:¬ a=b:=by intro e;subst e;simp at h1
    simp [this]
  simp -dsimp -implicitDefEqProofs (disch:=first | omega | (simp only [lenr];try omega)) only [↓amPre,amAll,↓reduceIte,reduceCtorEq,Nat.reduceEqDiff,Nat.reduceBEq,Nat.reduceAdd,Nat.reduceLeDiff,Nat.reduceSub,Nat.reduceMul,Int.reduceToNat,List.size_toArray,tyF,MM,bu0,cbP6,h1]
  have hab:a.length=b.length:=by simp at h1;omega
  refine awp_loop (fun k st=>k≤a.length∧st.fr 5=.i64 k∧st.fr 0=isl a∧st.fr 1=isl b∧a.take k=b.take k) (a.length) ?_ ?_
  · simp -dsimp -implicitDefEqProofs (disch:=first | omega | (simp only [lenr];try omega)) only [↓amPre,amAll,↓reduceIte,reduceCtorEq,Nat.reduceEqDiff,Nat.reduceBEq,Nat.reduceAdd,Nat.reduceLeDiff,Nat.reduceSub,Nat.reduceMul,Int.reduceToNat,List.size_toArray,tyF,MM,bu0,cbP6]
    repeat' (first | omega | rfl | exact i64c (by omega) | exact vic (by omega) | apply And.intro)
  rintro k st _ ⟨hk,f5,f0,f1,ek⟩
  by_cases hlt:k<a.length
  · simp -dsimp -implicitDefEqProofs (disch:=first | omega | (simp only [lenr];try omega)) only [↓amPre,amAll,↓reduceIte,reduceCtorEq,Nat.reduceEqDiff,Nat.reduceBEq,Nat.reduceAdd,Nat.reduceLeDiff,Nat.reduceSub,Nat.reduceMul,Int.reduceToNat,List.size_toArray,tyF,MM,bu0,cbP6,f5,f0,f1]
    refine ifP_mk ?_ ?_ <;> intro w1
    · simp -dsimp -implicitDefEqProofs (disch:=first | omega | (simp only [lenr];try omega)) only [↓amPre,amAll,↓reduceIte,reduceCtorEq,Nat.reduceEqDiff,Nat.reduceBEq,Nat.reduceAdd,Nat.reduceLeDiff,Nat.reduceSub,Nat.reduceMul,Int.reduceToNat,List.size_toArray,tyF,MM,bu0,cbP6,f5,f0,f1,w1]
      have hne:¬ a=b:=by
        intro e;subst e;simp at w1
      simp [hne]
    · simp -dsimp -implicitDefEqProofs (disch:=first | omega | (simp only [lenr];try omega)) only [↓amPre,amAll,↓reduceIte,reduceCtorEq,Nat.reduceEqDiff,Nat.reduceBEq,Nat.reduceAdd,Nat.reduceLeDiff,Nat.reduceSub,Nat.reduceMul,Int.reduceToNat,List.size_toArray,tyF,MM,bu0,cbP6,f5,f0,f1,w1]
      simp only [bne_eq_false_iff_eq] at w1
      repeat' (first | omega | rfl | exact i64c (by omega) | exact vic (by omega) | exact (take_eq_iff 0 k hlt (by omega)).2 ⟨ek,w1⟩ | apply And.intro)
  · have hke:k=a.length:=by omega
    subst hke
    simp -dsimp -implicitDefEqProofs (disch:=first | omega | (simp only [lenr];try omega)) only [↓amPre,amAll,↓reduceIte,reduceCtorEq,Nat.reduceEqDiff,Nat.reduceBEq,Nat.reduceAdd,Nat.reduceLeDiff,Nat.reduceSub,Nat.reduceMul,Int.reduceToNat,List.size_toArray,tyF,MM,bu0,cbP6,f5,f0,f1]
    simp [eq_of_takes hab ek]
end Go.AM
set_option maxRecDepth 8000
namespace Go.AM
open Go.Proofs
theorem sLetter (n:Int) (mv:List (List Int)) (x:Int) (hp:genOk n mv) (hx:letOk mv.length x):SpecAt Try.prog 188 [ssl mv,.i64 x] (isl (letP mv x))∨SpecAt Try.prog 188 [ssl mv,.i64 x] (itr (letP mv x)):=by
  have hlx:letP mv x=_:=rfl
  conv at hlx=>rhs;rw [letP]
  unfold letOk at hx
  have hm8:=hp.2.1
  by_cases c0:0<x
  · obtain ⟨m,hm1⟩:∃ m:Nat,x - 1=m:=⟨_,(Int.toNat_of_nonneg (by omega)).symm⟩
    rw [if_pos c0,hm1,Int.toNat_natCast] at hlx
    have hmlt:m<mv.length:=by omega
    have c1:0≤x:=by omega
    rw [hlx]
    left
    refine spec_of_awp (M:=MM) (np:=2) (fz:=true) mixed Try.func188 rfl rfl (by decide) rfl (Nat.le_refl _) (by decide +kernel) (.inr ⟨rfl,rfl⟩) trivial ?_
    simp -dsimp -implicitDefEqProofs (disch:=first | omega | (simp only [lenr];try omega)) only [↓amPre,amAll,↓reduceIte,reduceCtorEq,Nat.reduceEqDiff,Nat.reduceBEq,Nat.reduceAdd,Nat.reduceLeDiff,Nat.reduceSub,Nat.reduceMul,Int.reduceToNat,List.size_toArray,tyF,MM,bu0,cbP9,lt_false c1,hm1]
  · obtain ⟨m,hm1⟩:∃ m:Nat,-x - 1=m:=⟨_,(Int.toNat_of_nonneg (by omega)).symm⟩
    rw [if_neg c0,hm1,Int.toNat_natCast] at hlx
    have hmlt:m<mv.length:=by omega
    have hw:IntKind.i64.wrap (0 - x)=0 - x:=wrap64_id (by omega)
    have hm2:0 - x - 1=m:=by omega
    have c1:x<0:=by omega
    have hq:=hp.2.2 _ (mem_getD mv m default hmlt)
    rw [hlx]
    generalize hM:mv.getD m default=M at hq
    have hM20:=hq.2.1.2
    have hv:=sinverse M hq.2
    rw [ivL_invI] at hv
    right
    refine spec_of_awp (M:=MM) (np:=2) (fz:=false) mixed Try.func188 rfl rfl (by decide) rfl (Nat.le_refl _) (by decide +kernel) (.inl rfl) (by first | trivial | simp only [sigsOk_nil,sigsOk_some,sigsOk_none,sig_tr,sig_pt,sig_mt,sig_agg,List.map_cons,List.map_nil,sig1_tr,sig1_pt,sig1_v,and_self,true_and,List.length_map,List.length_set]) ?_
    simp -dsimp -implicitDefEqProofs (disch:=first | omega | (simp only [lenr];try omega)) only [↓amPre,amAll,↓reduceIte,reduceCtorEq,Nat.reduceEqDiff,Nat.reduceBEq,Nat.reduceAdd,Nat.reduceLeDiff,Nat.reduceSub,Nat.reduceMul,Int.reduceToNat,List.size_toArray,tyF,MM,bu0,cbP9,lt_true c1,hw,hm2,hM]
    refine callP_of (hv) ?_
    simp -dsimp -implicitDefEqProofs (disch:=first | omega | (simp only [lenr];try omega)) only [↓amPre,amAll,↓reduceIte,reduceCtorEq,Nat.reduceEqDiff,Nat.reduceBEq,Nat.reduceAdd,Nat.reduceLeDiff,Nat.reduceSub,Nat.reduceMul,Int.reduceToNat,List.size_toArray,tyF,MM,bu0,cbP9,hM]
theorem sEvaluate (n:Nat) (mv:List (List Int)) (w:List Int) (hp:genOk n mv) (hw:wordOk mv.length w):SpecAt Try.prog 104 [.i64 n,ssl mv,isl w] (itr (effK n mv w w.length)):=by
  have hn:=hp.1
  have h1:=sIdentity n (by omega)
  have hw2:=hw.1
  have hr:=runI_len 0 n
  refine spec_of_awp (M:=MM) (np:=3) (fz:=false) mixed Try.func104 rfl rfl (by decide) rfl (Nat.le_refl _) (by decide +kernel) (.inl rfl) (by first | trivial | simp only [sigsOk_nil,sigsOk_some,sigsOk_none,sig_tr,sig_pt,sig_mt,sig_agg,List.map_cons,List.map_nil,sig1_tr,sig1_pt,sig1_v,and_self,true_and,List.length_map,List.length_set]) ?_
  simp -dsimp -implicitDefEqProofs (disch:=first | omega | (simp only [lenr];try omega)) only [↓amPre,amAll,↓reduceIte,reduceCtorEq,Nat.reduceEqDiff,Nat.reduceBEq,Nat.reduceAdd,Nat.reduceLeDiff,Nat.reduceSub,Nat.reduceMul,Int.reduceToNat,List.size_toArray,tyF,MM,bu0,cbP9]
  refine callP_of (h1) ?_
  simp -dsimp -implicitDefEqProofs (disch:=first | omega | (simp only [lenr];try omega)) only [↓amPre,amAll,↓reduceIte,reduceCtorEq,Nat.reduceEqDiff,Nat.reduceBEq,Nat.reduceAdd,Nat.reduceLeDiff,Nat.reduceSub,Nat.reduceMul,Int.reduceToNat,List.size_toArray,tyF,MM,bu0,cbP9,hr]
  refine awp_loopR 10 24 (itr (runI 0 n)) (by simp -dsimp -implicitDefEqProofs (disch:=first | omega | (simp only [lenr];try omega)) only [↓amPre,amAll,↓reduceIte,reduceCtorEq,Nat.reduceEqDiff,Nat.reduceBEq,Nat.reduceAdd,Nat.reduceLeDiff,Nat.reduceSub,Nat.reduceMul,Int.reduceToNat,List.size_toArray,tyF,MM,bu0,cbP9]) (by decide) (by decide) (by decide) (fun k st=>k≤w.length∧st.fr 8=.i64 k∧st.fr 7=.ref 24 [] 1 0 (effK n mv w k).length∧st.fr 1=ssl mv∧st.fr 2=isl w∧st.mem 24=some (itr (effK n mv w k))) (w.length) ?_ ?_
  · simp -dsimp -implicitDefEqProofs (disch:=first | omega | (simp only [lenr];try omega)) only [↓amPre,amAll,↓reduceIte,reduceCtorEq,Nat.reduceEqDiff,Nat.reduceBEq,Nat.reduceAdd,Nat.reduceLeDiff,Nat.reduceSub,Nat.reduceMul,Int.reduceToNat,List.size_toArray,tyF,MM,bu0,cbP9,ren_eq,effK]
    exact ⟨Nat.zero_le _,rfl,by simp [runI_len]⟩
  rintro k st _ ⟨hk,f8,f7,f1,f2,m24⟩
  have hk1:=effK_ok hp hw k hk
  have hef:effK n mv w (k+1)=compI (effK n mv w k) (letP mv (w.getD k 0)):=rfl
  by_cases hlt:k<w.length
  · have hx:=hw.2 _ (mem_getD w k 0 hlt)
    have hlo:=letP_ok hp hx
    have hl:(effK n mv w (k+1)).length=(effK n mv w k).length:=by rw [hef,compI_len]
    have hl20:=hk1.2.1.2
    have hq:=scompose (effK n mv w k) (letP mv (w.getD k 0)) (by omega) (fun y hy=>by have:=hk1.2.2.1 y hy;have:=hk1.1;have:=hlo.1;omega)
    rw [cp_comp,← hef] at hq
    rcases sLetter n mv (w.getD k 0) hp hx with ha | ha
    · simp -dsimp -implicitDefEqProofs (disch:=first | omega | (simp only [lenr];try omega)) only [↓amPre,amAll,↓reduceIte,reduceCtorEq,Nat.reduceEqDiff,Nat.reduceBEq,Nat.reduceAdd,Nat.reduceLeDiff,Nat.reduceSub,Nat.reduceMul,Int.reduceToNat,List.size_toArray,tyF,MM,bu0,cbP9,f8,f7,f1,f2,m24]
      refine callP_of (ha) ?_
      simp -dsimp -implicitDefEqProofs (disch:=first | omega | (simp only [lenr];try omega)) only [↓amPre,amAll,↓reduceIte,reduceCtorEq,Nat.reduceEqDiff,Nat.reduceBEq,Nat.reduceAdd,Nat.reduceLeDiff,Nat.reduceSub,Nat.reduceMul,Int.reduceToNat,List.size_toArray,tyF,MM,bu0,cbP9,f8,f7,f1,f2,m24]
      refine callP_of (hq) ?_
      simp -dsimp -implicitDefEqProofs (disch:=first | omega | (simp only [lenr];try omega)) only [↓amPre,amAll,↓reduceIte,reduceCtorEq,Nat.reduceEqDiff,Nat.reduceBEq,Nat.reduceAdd,Nat.reduceLeDiff,Nat.reduceSub,Nat.reduceMul,Int.reduceToNat,List.size_toArray,tyF,MM,bu0,cbP9,f8,f7,f1,f2,m24,hl]
      repeat' (first | omega | rfl | exact i64c (by omega) | exact vic (by omega) | apply And.intro)
    · simp -dsimp -implicitDefEqProofs (disch:=first | omega | (simp only [lenr];try omega)) only [↓amPre,amAll,↓reduceIte,reduceCtorEq,Nat.reduceEqDiff,Nat.reduceBEq,Nat.reduceAdd,Nat.reduceLeDiff,Nat.reduceSub,Nat.reduceMul,Int.reduceToNat,List.size_toArray,tyF,MM,bu0,cbP9,f8,f7,f1,f2,m24]
      refine callP_of (ha) ?_
      simp -dsimp -implicitDefEqProofs (disch:=first | omega | (simp only [lenr];try omega)) only [↓amPre,amAll,↓reduceIte,reduceCtorEq,Nat.reduceEqDiff,Nat.reduceBEq,Nat.reduceAdd,Nat.reduceLeDiff,Nat.reduceSub,Nat.reduceMul,Int.reduceToNat,List.size_toArray,tyF,MM,bu0,cbP9,f8,f7,f1,f2,m24]
      refine callP_of (hq) ?_
      simp -dsimp -implicitDefEqProofs (disch:=first | omega | (simp only [lenr];try omega)) only [↓amPre,amAll,↓reduceIte,reduceCtorEq,Nat.reduceEqDiff,Nat.reduceBEq,Nat.reduceAdd,Nat.reduceLeDiff,Nat.reduceSub,Nat.reduceMul,Int.reduceToNat,List.size_toArray,tyF,MM,bu0,cbP9,f8,f7,f1,f2,m24,hl]
      repeat' (first | omega | rfl | exact i64c (by omega) | exact vic (by omega) | apply And.intro)
  · have hke:k=w.length:=by omega
    subst hke
    simp -dsimp -implicitDefEqProofs (disch:=first | omega | (simp only [lenr];try omega)) only [↓amPre,amAll,↓reduceIte,reduceCtorEq,Nat.reduceEqDiff,Nat.reduceBEq,Nat.reduceAdd,Nat.reduceLeDiff,Nat.reduceSub,Nat.reduceMul,Int.reduceToNat,List.size_toArray,tyF,MM,bu0,cbP9,f8,f7,f1,f2,m24]
def pwK (p:List Int) (k i:Nat):List Int:=(List.range i).map fun x=>((itN (fOf p) k x:Nat):Int)
theorem sPermOf (n:Nat) (s:List Int) (hs:moveOk n s):SpecAt Try.prog 187 [.i64 n,isl s] (.bl true):=by
  have h20:=hs.2.1.2
  have q1:=sIsPerm s (by omega)
  rw [decide_eq_true hs.2] at q1
  have hl:=hs.1
  refine spec_of_awp (M:=MM) (np:=2) (fz:=true) mixed Try.func187 rfl rfl (by decide) rfl (Nat.le_refl _) (by decide +kernel) (.inr ⟨rfl,rfl⟩) trivial ?_
  simp -dsimp -implicitDefEqProofs (disch:=first | omega | (simp only [lenr];try omega)) only [↓amPre,amAll,↓reduceIte,reduceCtorEq,Nat.reduceEqDiff,Nat.reduceBEq,Nat.reduceAdd,Nat.reduceLeDiff,Nat.reduceSub,Nat.reduceMul,Int.reduceToNat,List.size_toArray,tyF,MM,bu0,cbP9,hl]
  refine callP_of (q1) ?_
  simp -dsimp -implicitDefEqProofs (disch:=first | omega | (simp only [lenr];try omega)) only [↓amPre,amAll,↓reduceIte,reduceCtorEq,Nat.reduceEqDiff,Nat.reduceBEq,Nat.reduceAdd,Nat.reduceLeDiff,Nat.reduceSub,Nat.reduceMul,Int.reduceToNat,List.size_toArray,tyF,MM,bu0,cbP9]
theorem sIsSolved (p:Puzz) (s:List Int) (h:smallP p) (hp:puzzOk p) (hs:moveOk p.n s):SpecAt Try.prog 49 [p.sl,isl s] (.bl (decide (s=runI 0 p.n.toNat))):=by
  have q1:=sPuzzle p h
  rw [decide_eq_true hp] at q1
  have h20:=hs.2.1.2
  obtain ⟨pn,nm,mv⟩:=p
  have hn:=hp.1.1
  simp only at hn hs ⊢
  obtain ⟨n,rfl⟩:∃ n:Nat,pn=n:=⟨pn.toNat,by omega⟩
  simp only [Int.toNat_natCast]
  have q2:=sPermOf n s hs
  have q3:=sIdentity n (by omega)
  have q4:=sEqualInts s (runI 0 n) (by omega)
  have q0:SpecAt Try.prog 101 [(⟨n,nm,mv⟩:Puzz).sl,isl s] (.bl true):=by
    refine spec_of_awp (M:=MM) (np:=2) (fz:=true) mixed Try.func101 rfl rfl (by decide) rfl (Nat.le_refl _) (by decide +kernel) (.inr ⟨rfl,rfl⟩) trivial ?_
    simp -dsimp -implicitDefEqProofs (disch:=first | omega | (simp only [lenr];try omega)) only [↓amPre,amAll,↓reduceIte,reduceCtorEq,Nat.reduceEqDiff,Nat.reduceBEq,Nat.reduceAdd,Nat.reduceLeDiff,Nat.reduceSub,Nat.reduceMul,Int.reduceToNat,List.size_toArray,tyF,MM,bu0,cbP9]
    refine callP_of (q1) ?_
    simp -dsimp -implicitDefEqProofs (disch:=first | omega | (simp only [lenr];try omega)) only [↓amPre,amAll,↓reduceIte,reduceCtorEq,Nat.reduceEqDiff,Nat.reduceBEq,Nat.reduceAdd,Nat.reduceLeDiff,Nat.reduceSub,Nat.reduceMul,Int.reduceToNat,List.size_toArray,tyF,MM,bu0,cbP9]
    refine callP_of (q2) ?_
    simp -dsimp -implicitDefEqProofs (disch:=first | omega | (simp only [lenr];try omega)) only [↓amPre,amAll,↓reduceIte,reduceCtorEq,Nat.reduceEqDiff,Nat.reduceBEq,Nat.reduceAdd,Nat.reduceLeDiff,Nat.reduceSub,Nat.reduceMul,Int.reduceToNat,List.size_toArray,tyF,MM,bu0,cbP9]
  have hr:=runI_len 0 n
  refine spec_of_awp (M:=MM) (np:=2) (fz:=true) mixed Try.func49 rfl rfl (by decide) rfl (Nat.le_refl _) (by decide +kernel) (.inr ⟨rfl,rfl⟩) trivial ?_
  simp -dsimp -implicitDefEqProofs (disch:=first | omega | (simp only [lenr];try omega)) only [↓amPre,amAll,↓reduceIte,reduceCtorEq,Nat.reduceEqDiff,Nat.reduceBEq,Nat.reduceAdd,Nat.reduceLeDiff,Nat.reduceSub,Nat.reduceMul,Int.reduceToNat,List.size_toArray,tyF,MM,bu0,cbP9]
  refine callP_of (q0) ?_
  simp -dsimp -implicitDefEqProofs (disch:=first | omega | (simp only [lenr];try omega)) only [↓amPre,amAll,↓reduceIte,reduceCtorEq,Nat.reduceEqDiff,Nat.reduceBEq,Nat.reduceAdd,Nat.reduceLeDiff,Nat.reduceSub,Nat.reduceMul,Int.reduceToNat,List.size_toArray,tyF,MM,bu0,cbP9]
  refine callP_of (q3) ?_
  simp -dsimp -implicitDefEqProofs (disch:=first | omega | (simp only [lenr];try omega)) only [↓amPre,amAll,↓reduceIte,reduceCtorEq,Nat.reduceEqDiff,Nat.reduceBEq,Nat.reduceAdd,Nat.reduceLeDiff,Nat.reduceSub,Nat.reduceMul,Int.reduceToNat,List.size_toArray,tyF,MM,bu0,cbP9,hr]
  refine callP_of (q4) ?_
  simp -dsimp -implicitDefEqProofs (disch:=first | omega | (simp only [lenr];try omega)) only [↓amPre,amAll,↓reduceIte,reduceCtorEq,Nat.reduceEqDiff,Nat.reduceBEq,Nat.reduceAdd,Nat.reduceLeDiff,Nat.reduceSub,Nat.reduceMul,Int.reduceToNat,List.size_toArray,tyF,MM,bu0,cbP9]
end Go.AM
set_option maxRecDepth 8000
namespace Go.AM
open Go.Proofs
theorem comp_id {n:Nat} {s:List Int} (hs:isPerm s) (hl:s.length=n):compI (runI 0 n) s=s:=by
  refine ext_getD 0 (by rw [compI_len,runI_len,hl]) fun i hi=>?_
  rw [compI_len,runI_len] at hi
  rw [compI_get _ _ _ (by rw [runI_len];exact hi),runI_get _ _ _ hi]
  congr 1;omega
theorem sIsState (p:Puzz) (s:List Int) (h:smallP p) (hp:puzzOk p) (hs:moveOk p.n s):SpecAt Try.prog 101 [p.sl,isl s] (.bl true):=by
  have q1:=sPuzzle p h
  rw [decide_eq_true hp] at q1
  obtain ⟨pn,nm,mv⟩:=p
  have hn:=hp.1.1
  simp only at hn hs ⊢
  obtain ⟨n,rfl⟩:∃ n:Nat,pn=n:=⟨pn.toNat,by omega⟩
  have q2:=sPermOf n s hs
  refine spec_of_awp (M:=MM) (np:=2) (fz:=true) mixed Try.func101 rfl rfl (by decide) rfl (Nat.le_refl _) (by decide +kernel) (.inr ⟨rfl,rfl⟩) trivial ?_
  simp -dsimp -implicitDefEqProofs (disch:=first | omega | (simp only [lenr];try omega)) only [↓amPre,amAll,↓reduceIte,reduceCtorEq,Nat.reduceEqDiff,Nat.reduceBEq,Nat.reduceAdd,Nat.reduceLeDiff,Nat.reduceSub,Nat.reduceMul,Int.reduceToNat,List.size_toArray,tyF,MM,bu0,cbP9]
  refine callP_of (q1) ?_
  simp -dsimp -implicitDefEqProofs (disch:=first | omega | (simp only [lenr];try omega)) only [↓amPre,amAll,↓reduceIte,reduceCtorEq,Nat.reduceEqDiff,Nat.reduceBEq,Nat.reduceAdd,Nat.reduceLeDiff,Nat.reduceSub,Nat.reduceMul,Int.reduceToNat,List.size_toArray,tyF,MM,bu0,cbP9]
  refine callP_of (q2) ?_
  simp -dsimp -implicitDefEqProofs (disch:=first | omega | (simp only [lenr];try omega)) only [↓amPre,amAll,↓reduceIte,reduceCtorEq,Nat.reduceEqDiff,Nat.reduceBEq,Nat.reduceAdd,Nat.reduceLeDiff,Nat.reduceSub,Nat.reduceMul,Int.reduceToNat,List.size_toArray,tyF,MM,bu0,cbP9]
theorem sApplyWord (p:Puzz) (s w:List Int) (h:smallP p) (hp:puzzOk p) (hs:moveOk p.n s) (hw:wordOk p.mv.length w) (hv:∀ x∈w,intOk x):SpecAt Try.prog 30 [p.sl,isl s,isl w] (.tup [itr (compI s (effK p.n p.mv w w.length)),.bl true]):=by
  have q1:=sIsState p s h hp hs
  have hw2:=hw.1
  have h20:=hs.2.1.2
  have hm8:=hp.1.2.1
  have q2:=sWordOf p.mv.length w (by unfold intOk;omega) (by omega) hv
  rw [decide_eq_true hw] at q2
  have hek:=effK_ok hp.1 hw w.length (Nat.le_refl _)
  obtain ⟨pn,nm,mv⟩:=p
  have hn:=hp.1.1
  simp only at hn hs hek hw q1 q2 ⊢
  obtain ⟨n,rfl⟩:∃ n:Nat,pn=n:=⟨pn.toNat,by omega⟩
  have q3:=sEvaluate n mv w hp.1 hw
  have q4:=scompose s (effK n mv w w.length) (by omega) (fun y hy=>by have:=hs.2.2.1 y hy;have:=hs.1;have:=hek.1;omega)
  rw [cp_comp] at q4
  generalize effK (n:Int) mv w w.length=X at q3 q4 hek
  generalize compI s X=Y at q4
  have hx:=hek.2.1.2
  refine spec_of_awp (M:=MM) (np:=3) (fz:=false) mixed Try.func30 rfl rfl (by decide) rfl (Nat.le_refl _) (by decide +kernel) (.inl rfl) (by first | trivial | simp only [sigsOk_nil,sigsOk_some,sigsOk_none,sig_tr,sig_pt,sig_mt,sig_agg,List.map_cons,List.map_nil,sig1_tr,sig1_pt,sig1_v,and_self,true_and,List.length_map,List.length_set]) ?_
  simp -dsimp -implicitDefEqProofs (disch:=first | omega | (simp only [lenr];try omega)) only [↓amPre,amAll,↓reduceIte,reduceCtorEq,Nat.reduceEqDiff,Nat.reduceBEq,Nat.reduceAdd,Nat.reduceLeDiff,Nat.reduceSub,Nat.reduceMul,Int.reduceToNat,List.size_toArray,tyF,MM,bu0,cbP9]
  refine callP_of (q1) ?_
  simp -dsimp -implicitDefEqProofs (disch:=first | omega | (simp only [lenr];try omega)) only [↓amPre,amAll,↓reduceIte,reduceCtorEq,Nat.reduceEqDiff,Nat.reduceBEq,Nat.reduceAdd,Nat.reduceLeDiff,Nat.reduceSub,Nat.reduceMul,Int.reduceToNat,List.size_toArray,tyF,MM,bu0,cbP9]
  refine callP_of (q2) ?_
  simp -dsimp -implicitDefEqProofs (disch:=first | omega | (simp only [lenr];try omega)) only [↓amPre,amAll,↓reduceIte,reduceCtorEq,Nat.reduceEqDiff,Nat.reduceBEq,Nat.reduceAdd,Nat.reduceLeDiff,Nat.reduceSub,Nat.reduceMul,Int.reduceToNat,List.size_toArray,tyF,MM,bu0,cbP9]
  refine callP_of (q3) ?_
  simp -dsimp -implicitDefEqProofs (disch:=first | omega | (simp only [lenr];try omega)) only [↓amPre,amAll,↓reduceIte,reduceCtorEq,Nat.reduceEqDiff,Nat.reduceBEq,Nat.reduceAdd,Nat.reduceLeDiff,Nat.reduceSub,Nat.reduceMul,Int.reduceToNat,List.size_toArray,tyF,MM,bu0,cbP9]
  refine callP_of (q4) ?_
  simp -dsimp -implicitDefEqProofs (disch:=first | omega | (simp only [lenr];try omega)) only [↓amPre,amAll,↓reduceIte,reduceCtorEq,Nat.reduceEqDiff,Nat.reduceBEq,Nat.reduceAdd,Nat.reduceLeDiff,Nat.reduceSub,Nat.reduceMul,Int.reduceToNat,List.size_toArray,tyF,MM,bu0,cbP9]
def scrS (p:Puzz) (x c:Int):List Int:=if canScr p x c then effK p.n p.mv (scrR p x c) (scrR p x c).length else []
theorem scrR_word {p:Puzz} {x c:Int} (h:canScr p x c):wordOk p.mv.length (scrR p x c)∧∀ y∈scrR p x c,intOk y:=by
  have hl:=scrR_len p x c
  obtain ⟨q1,q2,q3⟩:=h
  have hx:=within_iff.1 q2
  have hn:=puzz_nm q1
  have hr:scrR p x c=scrW p.mv.length x c.toNat:=if_pos ⟨q1,q2,q3⟩
  have hm:∀ y∈scrR p x c,y≠0∧-(p.mv.length:Int)≤y∧y≤p.mv.length:=fun y hy=>by
    rw [hr] at hy
    exact letL_mem.1 (scrW_mem hn.1 hx.1 (by omega) _ y hy)
  refine ⟨⟨hl,fun y hy=>?_⟩,fun y hy=>?_⟩
  · have:=hm y hy
    exact ⟨this.1,⟨by omega,by omega⟩,by omega,by omega⟩
  · have:=hm y hy
    unfold intOk;omega
theorem iScrambledState (p:Puzz) (x c:Int) (h:smallP p):SpecAt Try.prog 44 [p.sl,.i64 x,.i64 c] (.tup [itr (scrS p x c),.bl (decide (canScr p x c))]):=by
  have q0:=canScramble p x c h
  by_cases hd:canScr p x c
  case neg =>
    have hz:scrS p x c=[]:=if_neg hd
    rw [decide_eq_false hd] at q0
    rw [decide_eq_false hd,hz]
    refine spec_of_awp_any (M:=MM) (np:=3) (X:=[3]) (fz:=false) mixed Try.func44 rfl rfl (by decide) rfl (Nat.le_refl _) (by decide +kernel) (.inl rfl) (by first | trivial | simp only [sigsOk_nil,sigsOk_some,sigsOk_none,sig_tr,sig_pt,sig_mt,sig_agg,List.map_cons,List.map_nil,sig1_tr,sig1_pt,sig1_v,and_self,true_and,List.length_map,List.length_set]) ?_
    simp -dsimp -implicitDefEqProofs (disch:=first | omega | (simp only [lenr];try omega)) only [↓amPre,amAll,↓reduceIte,reduceCtorEq,Nat.reduceEqDiff,Nat.reduceBEq,Nat.reduceAdd,Nat.reduceLeDiff,Nat.reduceSub,Nat.reduceMul,Int.reduceToNat,List.size_toArray,tyF,MM,bu0,cbP9]
    refine callP_of (q0) ?_
    simp -dsimp -implicitDefEqProofs (disch:=first | omega | (simp only [lenr];try omega)) only [↓amPre,amAll,↓reduceIte,reduceCtorEq,Nat.reduceEqDiff,Nat.reduceBEq,Nat.reduceAdd,Nat.reduceLeDiff,Nat.reduceSub,Nat.reduceMul,Int.reduceToNat,List.size_toArray,tyF,MM,bu0,cbP9]
    try rfl
  have hx:=within_iff.1 hd.2.1
  have hc:=within_iff.1 hd.2.2
  have hwd:=scrR_word hd
  have hrl:=scrR_len p x c
  have hz:scrS p x c=effK p.n p.mv (scrR p x c) (scrR p x c).length:=if_pos hd
  have hr:scrR p x c=scrW p.mv.length x c.toNat:=if_pos hd
  obtain ⟨k,rfl⟩:∃ n:Nat,c=n:=⟨c.toNat,by omega⟩
  rw [Int.toNat_natCast] at hr
  have l1:=scramble p x k (puzz_nm hd.1) hx.1 (by omega) (by omega)
  rw [← hr] at l1
  have l2:=iEffect p (scrR p x k) hd.1.1 hwd.1
  rw [← hz] at l2
  rw [decide_eq_true hd] at q0
  rw [decide_eq_true hd]
  generalize scrR p x k=R at l1 l2 hrl
  generalize scrS p x k=S at l2
  refine spec_of_awp_any (M:=MM) (np:=3) (X:=[3]) (fz:=false) mixed Try.func44 rfl rfl (by decide) rfl (Nat.le_refl _) (by decide +kernel) (.inl rfl) (by first | trivial | simp only [sigsOk_nil,sigsOk_some,sigsOk_none,sig_tr,sig_pt,sig_mt,sig_agg,List.map_cons,List.map_nil,sig1_tr,sig1_pt,sig1_v,and_self,true_and,List.length_map,List.length_set]) ?_
  simp -dsimp -implicitDefEqProofs (disch:=first | omega | (simp only [lenr];try omega)) only [↓amPre,amAll,↓reduceIte,reduceCtorEq,Nat.reduceEqDiff,Nat.reduceBEq,Nat.reduceAdd,Nat.reduceLeDiff,Nat.reduceSub,Nat.reduceMul,Int.reduceToNat,List.size_toArray,tyF,MM,bu0,cbP9]
  refine callP_of (q0) ?_
  simp -dsimp -implicitDefEqProofs (disch:=first | omega | (simp only [lenr];try omega)) only [↓amPre,amAll,↓reduceIte,reduceCtorEq,Nat.reduceEqDiff,Nat.reduceBEq,Nat.reduceAdd,Nat.reduceLeDiff,Nat.reduceSub,Nat.reduceMul,Int.reduceToNat,List.size_toArray,tyF,MM,bu0,cbP9]
  refine made_go 6 [[],[],[],[],[],[17]] (by decide +kernel) ?_
  simp -dsimp -implicitDefEqProofs (disch:=first | omega | (simp only [lenr];try omega)) only [↓amPre,amAll,↓reduceIte,reduceCtorEq,Nat.reduceEqDiff,Nat.reduceBEq,Nat.reduceAdd,Nat.reduceLeDiff,Nat.reduceSub,Nat.reduceMul,Int.reduceToNat,List.size_toArray,tyF,MM,bu0,cbP9]
  refine callP_of (l1) ?_
  simp -dsimp -implicitDefEqProofs (disch:=first | omega | (simp only [lenr];try omega)) only [↓amPre,amAll,↓reduceIte,reduceCtorEq,Nat.reduceEqDiff,Nat.reduceBEq,Nat.reduceAdd,Nat.reduceLeDiff,Nat.reduceSub,Nat.reduceMul,Int.reduceToNat,List.size_toArray,tyF,MM,bu0,cbP9]
  refine callP_of (l2) ?_
  simp -dsimp -implicitDefEqProofs (disch:=first | omega | (simp only [lenr];try omega)) only [↓amPre,amAll,↓reduceIte,reduceCtorEq,Nat.reduceEqDiff,Nat.reduceBEq,Nat.reduceAdd,Nat.reduceLeDiff,Nat.reduceSub,Nat.reduceMul,Int.reduceToNat,List.size_toArray,tyF,MM,bu0,cbP9]
end Go.AM
namespace Go.AM
/-! keys of states: their bytes -/
def skey (s:List Int):ByteArray:=pushB s
def smallE (s:List Int):Prop:=∀ x∈s,0≤x∧x<256
open Classical in
noncomputable def seenM (S:List (List Int)):Value→Option Value:=fun v=>if ∃ s∈S,v=.string (skey s) then some (.bool true) else none
def ixK (L:List (List Int)) (s:List Int):Int:=if s∈L then (L.idxOf s:Nat) else -1
end Go.AM
set_option maxRecDepth 8000
namespace Go.AM
open Go.Proofs
theorem keyB_str (s:ByteArray):keyB true (.string s)=true:=rfl
theorem keyB_int (n:Int):keyB false (.int .i64 n)=true:=rfl
theorem cbU49:type_of% (And.intro (cbP9) (And.intro (@keyB_str) (@keyB_int))):=(And.intro (cbP9) (And.intro (@keyB_str) (@keyB_int)))
end Go.AM
namespace Go.AM
namespace Ch
/-! permutations of n points as a group: what a chain of stabilizers rests on -/
def PN (n:Nat) (p:List Int):Prop:=p.length=n∧isPerm p
def pt (p:List Int) (i:Nat):Nat:=(p.getD i 0).toNat
abbrev idL (n:Nat):List Int:=runI 0 n
theorem PN.get {n:Nat} {p:List Int} (h:PN n p) {i:Nat} (hi:i<n):p.getD i 0=(pt p i:Int)∧pt p i<n:=by
  have hm:=h.2.2.1 _ (mem_getD p i 0 (by rw [h.1];exact hi))
  have:=h.1
  unfold pt
  omega
theorem pl_ext {a b:List Int} (h:a.length=b.length) (hg:∀ i,i<a.length→a.getD i 0=b.getD i 0):a=b:=by
  apply List.ext_getElem h
  intro i h1 h2
  have:=hg i h1
  rwa [getD_eq _ _ _ h1,getD_eq _ _ _ h2] at this
theorem PN.ext {n:Nat} {p q:List Int} (hp:PN n p) (hq:PN n q) (h:∀ i,i<n→pt p i=pt q i):p=q:=by
  refine pl_ext (by rw [hp.1,hq.1]) fun i hi=>?_
  rw [hp.1] at hi
  rw [(hp.get hi).1,(hq.get hi).1,h i hi]
theorem cmpI_len (p q:List Int):(compI p q).length=p.length:=by simp [compI]
theorem cmpI_get {p q:List Int} {i:Nat} (hi:i<p.length):(compI p q).getD i 0=q.getD (pt p i) 0:=by
  unfold compI pt
  rw [getD_eq _ _ _ (by simpa using hi),List.getElem_map,getD_eq _ _ _ hi]
theorem pt_comp {n:Nat} {p q:List Int} (hp:PN n p) (i:Nat) (hi:i<n):pt (compI p q) i=pt q (pt p i):=by
  have:=cmpI_get (q:=q) (show i<p.length by rw [hp.1];exact hi)
  unfold pt at *
  rw [this]
theorem PN.comp {n:Nat} {p q:List Int} (hp:PN n p) (hq:PN n q):PN n (compI p q):=⟨by rw [cmpI_len,hp.1],compI_perm hp.2 hq.2 (by rw [hp.1,hq.1])⟩
theorem PN.inv {n:Nat} {p:List Int} (hp:PN n p):PN n (invI p):=⟨by
  have:∀ k,(scat (List.replicate p.length 0) p (fun i=>(i:Int)) k).length=p.length:=fun k=>by
    induction k with
    | zero=>simp [scat]
    | succ k ih=>rw [scat,List.length_set,ih]
  rw [invI,this,hp.1],invI_perm hp.2⟩
theorem PN.one {n:Nat} (h1:1≤n) (h2:n≤20):PN n (idL n):=⟨runI_len 0 n,run_perm h1 h2⟩
theorem pt_id {n i:Nat} (hi:i<n):pt (idL n) i=i:=by
  unfold pt idL
  rw [runI_get 0 n i hi];omega
theorem PN.inj {n:Nat} {p:List Int} (hp:PN n p) {i j:Nat} (hi:i<n) (hj:j<n) (h:pt p i=pt p j):i=j:=by
  have h1:=(hp.get hi).1
  have h2:=(hp.get hj).1
  have hn:=hp.2.2.2
  have hi':i<p.length:=by rw [hp.1];exact hi
  have hj':j<p.length:=by rw [hp.1];exact hj
  rw [getD_eq _ _ _ hi'] at h1
  rw [getD_eq _ _ _ hj'] at h2
  have hpw:=List.pairwise_iff_getElem.1 hn
  rcases Nat.lt_trichotomy i j with hij | hij | hij
  · exact absurd (by rw [h1,h2,h]) (hpw i j hi' hj' hij)
  · exact hij
  · exact absurd (by rw [h1,h2,h]) (hpw j i hj' hi' hij)
theorem pt_inv {n:Nat} {p:List Int} (hp:PN n p) {i:Nat} (hi:i<n):pt (invI p) (pt p i)=i:=by
  have:=invI_get hp.2 (show i<p.length by rw [hp.1];exact hi)
  unfold pt at *
  rw [this];omega
theorem comp_assoc {n:Nat} {a b c:List Int} (ha:PN n a) (hb:PN n b) (hc:PN n c):compI (compI a b) c=compI a (compI b c) :=
  ((ha.comp hb).comp hc).ext (ha.comp (hb.comp hc)) fun i hi=>by
    rw [pt_comp (ha.comp hb) i hi,pt_comp ha i hi,pt_comp ha i hi,pt_comp hb _ (ha.get hi).2]
theorem comp_id {n:Nat} {a:List Int} (ha:PN n a):compI a (idL n)=a :=
  have h1:=ha.2.1
  have hl:=ha.1
  have h0:=PN.one (n:=n) (by omega) (by omega)
  (ha.comp h0).ext ha fun i hi=>by rw [pt_comp ha i hi,pt_id (ha.get hi).2]
theorem id_comp {n:Nat} {a:List Int} (ha:PN n a):compI (idL n) a=a :=
  have h1:=ha.2.1
  have hl:=ha.1
  have h0:=PN.one (n:=n) (by omega) (by omega)
  (h0.comp ha).ext ha fun i hi=>by rw [pt_comp h0 i hi,pt_id hi]
theorem comp_inv {n:Nat} {a:List Int} (ha:PN n a):compI a (invI a)=idL n :=
  have h1:=ha.2.1
  have hl:=ha.1
  have h0:=PN.one (n:=n) (by omega) (by omega)
  (ha.comp ha.inv).ext h0 fun i hi=>by rw [pt_comp ha i hi,pt_inv ha hi,pt_id hi]
theorem inv_comp {n:Nat} {a:List Int} (ha:PN n a):compI (invI a) a=idL n:=by
  have h1:=ha.2.1
  have hl:=ha.1
  have h0:=PN.one (n:=n) (by omega) (by omega)
  refine (ha.inv.comp ha).ext h0 fun i hi=>?_
  rw [pt_comp ha.inv i hi,pt_id hi]
  have hi2:=(ha.inv.get hi).2
  have e:=pt_inv ha hi2
  -- invI a is injective: pt (invI a) (pt a (pt (invI a) i)) = pt (invI a) i
  exact ha.inv.inj (ha.get hi2).2 hi e
inductive Gen (n:Nat) (S:List (List Int)):List Int→Prop
  | one:Gen n S (idL n)
  | mul {g s:List Int} (h:Gen n S g) (hs:s∈S):Gen n S (compI g s)
theorem Gen.pn {n:Nat} {S:List (List Int)} (h1:1≤n) (h2:n≤20) (hS:∀ s∈S,PN n s) {g:List Int} (h:Gen n S g):PN n g:=by
  induction h with
  | one=>exact PN.one h1 h2
  | mul _ hs ih=>exact ih.comp (hS _ hs)
theorem Gen.mono {n:Nat} {S T:List (List Int)} (hST:∀ s∈S,s∈T) {g:List Int} (h:Gen n S g):Gen n T g:=by
  induction h with
  | one=>exact .one
  | mul _ hs ih=>exact .mul ih (hST _ hs)
theorem Gen.of {n:Nat} {S:List (List Int)} (hS:∀ s∈S,PN n s) {s:List Int} (hs:s∈S):Gen n S s:=by
  have:=Gen.mul (n:=n) .one hs
  rwa [id_comp (hS s hs)] at this
theorem Gen.comp {n:Nat} {S:List (List Int)} (h1:1≤n) (h2:n≤20) (hS:∀ s∈S,PN n s) {a b:List Int} (ha:Gen n S a) (hb:Gen n S b):Gen n S (compI a b):=by
  induction hb with
  | one=>rw [comp_id (ha.pn h1 h2 hS)];exact ha
  | @mul g s hg hs ih =>
    rw [← comp_assoc (ha.pn h1 h2 hS) (hg.pn h1 h2 hS) (hS s hs)]
    exact .mul ih hs
theorem Gen.sub {n:Nat} {S T:List (List Int)} (h1:1≤n) (h2:n≤20) (hT:∀ s∈T,PN n s) (hST:∀ s∈S,Gen n T s) {g:List Int} (h:Gen n S g):Gen n T g:=by
  induction h with
  | one=>exact .one
  | mul _ hs ih=>exact Gen.comp h1 h2 hT ih (hST _ hs)
theorem Gen.fix {n:Nat} {S:List (List Int)} (h1:1≤n) (h2:n≤20) (hS:∀ s∈S,PN n s) {i:Nat} (hi:i<n) (hf:∀ s∈S,pt s i=i) {g:List Int} (h:Gen n S g):pt g i=i:=by
  induction h with
  | one=>exact pt_id hi
  | @mul g s hg hs ih=>rw [pt_comp (hg.pn h1 h2 hS) i hi,ih,hf s hs]
end Ch
end Go.AM
namespace Go.AM
namespace Ch
/-! chains of stabilizers,plainly -/
theorem mov_nil {n:Nat} {p:List Int} (hp:PN n p) (h:movL p p.length=[]):p=idL n:=by
  have h1:=hp.2.1
  have hl:=hp.1
  refine hp.ext (PN.one (by omega) (by omega)) fun i hi=>?_
  rw [pt_id hi]
  by_cases e:p.getD i 0=i
  · unfold pt;rw [e];omega
  · have:(i:Int)∈movL p p.length:=mem_movL.2 ⟨i,by rw [hl];exact hi,e,rfl⟩
    rw [h] at this;cases this
structure Lv where
  gens:List (List Int)
  row:List (List Int)
def headG (C:List Lv):List (List Int):=match C with | []=>[] | L :: _=>L.gens
def hasL:List Lv→Nat→List Int→Bool
  | [],_,_=>true
  | L :: C,l,g=>if L.row.getD (pt g l) []=[] then false else hasL C (l+1) (compI g (invI (L.row.getD (pt g l) [])))
structure LvOk (n l:Nat) (L:Lv):Prop where
  gens:∀ s∈L.gens,PN n s∧∀ i,i<l→pt s i=i
  len:L.row.length=n
  base:L.row.getD l []=idL n
  row:∀ p,p<n→L.row.getD p []≠[]→PN n (L.row.getD p [])∧Gen n L.gens (L.row.getD p [])∧pt (L.row.getD p []) l=p
def Good (n:Nat):List Lv→Nat→Prop
  | [],l=>l=n
  | L :: C,l=>l<n∧LvOk n l L∧(∀ p,p<n→L.row.getD p []≠[]→∀ s∈L.gens,L.row.getD (pt s p) []≠[]) ∧
      (∀ p,p<n→L.row.getD p []≠[]→∀ s∈L.gens,Gen n (headG C) (compI (compI (L.row.getD p []) s) (invI (L.row.getD (pt s p) [])))) ∧
      (∀ s∈headG C,Gen n L.gens s)∧Good n C (l+1)
theorem good_pn {n:Nat} {C:List Lv} {l:Nat} (h:Good n C l):∀ s∈headG C,PN n s∧∀ i,i<l→pt s i=i:=by
  cases C with
  | nil=>intro s hs;cases hs
  | cons L C=>exact h.2.1.gens
theorem good_has {n:Nat} (h1:1≤n) (h2:n≤20):∀ (C:List Lv) (l:Nat),Good n C l→∀ g,PN n g→(∀ i,i<l→pt g i=i)→(hasL C l g=true↔Gen n (headG C) g)
  | [],l,h,g,hg,hf=>by
    have h:l=n:=h
    subst h
    have:g=idL l:=hg.ext (PN.one h1 h2) fun i hi=>by rw [hf i hi,pt_id hi]
    rw [this]
    exact ⟨fun _=>.one,fun _=>rfl⟩
  | L :: C,l,h,g,hg,hf=>by
    obtain ⟨hl,hok,hcl,hsc,hsub,hC⟩:=h
    have hG:∀ s∈L.gens,PN n s:=fun s hs=>(hok.gens s hs).1
    have hGC:∀ s∈headG C,PN n s:=fun s hs=>(good_pn hC s hs).1
    have ih:=good_has h1 h2 C (l+1) hC
    -- one step down
    have step:∀ g,PN n g→(∀ i,i<l→pt g i=i)→L.row.getD (pt g l) []≠[]→PN n (compI g (invI (L.row.getD (pt g l) [])))∧(∀ i,i<l+1→pt (compI g (invI (L.row.getD (pt g l) []))) i=i)∧compI (compI g (invI (L.row.getD (pt g l) []))) (L.row.getD (pt g l) [])=g:=fun g hg hf hne=>by
      obtain ⟨t1,t2,t3⟩:=hok.row (pt g l) (hg.get hl).2 hne
      refine ⟨hg.comp t1.inv,fun i hi=>?_,?_⟩
      · rw [pt_comp hg i (by omega)]
        by_cases e:i=l
        · subst e
          have:=pt_inv t1 hl
          rw [t3] at this
          exact this
        · rw [hf i (by omega)]
          have hfx:=Gen.fix h1 h2 hG (i:=i) (by omega) (fun s hs=>(hok.gens s hs).2 i (by omega)) t2
          have:=pt_inv t1 (show i<n by omega)
          rwa [hfx] at this
      · rw [comp_assoc hg t1.inv t1,inv_comp t1,comp_id hg]
    constructor
    · intro hh
      rw [hasL] at hh
      by_cases hne:L.row.getD (pt g l) []=[]
      · rw [if_pos hne] at hh;cases hh
      rw [if_neg hne] at hh
      obtain ⟨s1,s2,s3⟩:=step g hg hf hne
      have hu:=(ih _ s1 s2).1 hh
      rw [← s3]
      exact Gen.comp h1 h2 hG (Gen.sub h1 h2 hG hsub hu) (hok.row _ (hg.get hl).2 hne).2.1
    · intro hgen
      -- the set of the chain is closed under the generators
      have key:∀ g,Gen n L.gens g→∃ u,Gen n (headG C) u∧L.row.getD (pt g l) []≠[]∧g=compI u (L.row.getD (pt g l) []):=by
        intro g hgen
        induction hgen with
        | one =>
          refine ⟨idL n,.one,?_,?_⟩
          · rw [pt_id hl,hok.base]
            intro e
            have:=congrArg List.length e
            rw [runI_len] at this
            simp at this;omega
          · rw [pt_id hl,hok.base,comp_id (PN.one h1 h2)]
        | @mul g s hgg hs ih2 =>
          obtain ⟨u,hu,hne,he⟩:=ih2
          have hgp:=hgg.pn h1 h2 hG
          have hp:=(hgp.get hl).2
          have hsp:=hG s hs
          obtain ⟨t1,t2,t3⟩:=hok.row _ hp hne
          have hne2:=hcl _ hp hne s hs
          have hptc:pt (compI g s) l=pt s (pt g l):=pt_comp hgp l hl
          rw [hptc]
          obtain ⟨w1,w2,w3⟩:=hok.row _ (hsp.get hp).2 hne2
          have hup:=hu.pn h1 h2 hGC
          refine ⟨compI u (compI (compI (L.row.getD (pt g l) []) s) (invI (L.row.getD (pt s (pt g l)) []))),Gen.comp h1 h2 hGC hu (hsc _ hp hne s hs),hne2,?_⟩
          rw [comp_assoc hup ((t1.comp hsp).comp w1.inv) w1,comp_assoc (t1.comp hsp) w1.inv w1,inv_comp w1,comp_id (t1.comp hsp),← comp_assoc hup t1 hsp,← he]
      obtain ⟨u,hu,hne,he⟩:=key g hgen
      rw [hasL,if_neg hne]
      obtain ⟨s1,s2,s3⟩:=step g hg hf hne
      refine (ih _ s1 s2).2 ?_
      obtain ⟨t1,t2,t3⟩:=hok.row _ (hg.get hl).2 hne
      have hup:=hu.pn h1 h2 hGC
      have gen:∀ t,PN n t→g=compI u t→compI g (invI t)=u:=fun t ht e=>by rw [e,comp_assoc hup ht ht.inv,comp_inv ht,comp_id hup]
      rw [gen _ t1 he];exact hu
theorem Gen.inv {n:Nat} {S:List (List Int)} (h1:1≤n) (h2:n≤20) (hS:∀ s∈S,PN n s) {a:List Int} (ha:Gen n S a):Gen n S (invI a):=by
  have hp:=ha.pn h1 h2 hS
  have hpw:∀ k,PN n (pwL a k)∧Gen n S (pwL a k):=fun k=>by
    induction k with
    | zero =>
      have:pwL a 0=idL n:=by
        refine pl_ext (by rw [pwL_len,runI_len,hp.1]) fun i hi=>?_
        rw [pwL_len] at hi
        rw [pwL_get a 0 hi,runI_get 0 n i (by rw [← hp.1];exact hi)]
        simp [itN]
      rw [this];exact ⟨PN.one h1 h2,.one⟩
    | succ k ih=>rw [← pwL_succ hp.2 k];exact ⟨ih.1.comp hp,Gen.comp h1 h2 hS ih.2 ha⟩
  have ho:=ord_rng hp.2
  obtain ⟨k,hk⟩:∃ k,ordE a=k+1:=⟨ordE a - 1,by omega⟩
  have he:=ord_end hp.2
  rw [hk] at he
  have hid:=mov_nil (hpw (k+1)).1 (by rw [pwL_len];exact he)
  rw [← pwL_succ hp.2 k] at hid
  have:invI a=pwL a k:=by
    have e:=congrArg (fun x=>compI x (invI a)) hid
    rw [comp_assoc (hpw k).1 hp hp.inv,comp_inv hp,comp_id (hpw k).1,id_comp hp.inv] at e
    exact e.symm
  rw [this];exact (hpw k).2
/-! the elements -/
def filL (r:List (List Int)):List Nat:=(List.range r.length).filter fun p=>r.getD p [] != []
theorem mem_filL {r:List (List Int)} {p:Nat}:p∈filL r↔p<r.length∧r.getD p []≠[]:=by simp [filL]
theorem filL_nodup (r:List (List Int)):(filL r).Nodup:=List.Pairwise.filter _ List.nodup_range
def elsL (n:Nat):List Lv→List (List Int)
  | []=>[idL n]
  | L :: C=>(filL L.row).flatMap fun p=>(elsL n C).map fun u=>compI u (L.row.getD p [])
def ordL:List Lv→Nat
  | []=>1
  | L :: C=>(filL L.row).length*ordL C
theorem flat_len_const {α β:Type} (f:α→List β) (k:Nat):∀ l:List α,(∀ a∈l,(f a).length=k)→(l.flatMap f).length=l.length*k
  | [],_=>by simp
  | a :: l,h=>by
    rw [List.flatMap_cons,List.length_append,h a (by simp),flat_len_const f k l fun b hb=>h b (by simp [hb]),List.length_cons,Nat.succ_mul,Nat.add_comm]
theorem els_len (n:Nat):∀ C,(elsL n C).length=ordL C
  | []=>rfl
  | L :: C=>by rw [elsL,ordL,flat_len_const _ (ordL C) _ fun a _=>by rw [List.length_map,els_len n C]]
theorem good_els {n:Nat} (h1:1≤n) (h2:n≤20):∀ (C:List Lv) (l:Nat),Good n C l→(elsL n C).Nodup∧∀ g,g∈elsL n C↔Gen n (headG C) g
  | [],l,h=>⟨by simp [elsL],fun g=>by
    rw [elsL,List.mem_singleton]
    constructor
    · rintro rfl;exact .one
    · intro hg
      induction hg with
      | one=>rfl
      | mul _ hs _=>cases hs⟩
  | L :: C,l,h=>by
    have hh:=h
    obtain ⟨hl,hok,hcl,hsc,hsub,hC⟩:=h
    have hG:∀ s∈L.gens,PN n s:=fun s hs=>(hok.gens s hs).1
    have hGC:∀ s∈headG C,PN n s:=fun s hs=>(good_pn hC s hs).1
    obtain ⟨ihn,ihm⟩:=good_els h1 h2 C (l+1) hC
    have hfil:∀ p∈filL L.row,PN n (L.row.getD p [])∧Gen n L.gens (L.row.getD p [])∧pt (L.row.getD p []) l=p:=fun p hp=>by
      obtain ⟨q1,q2⟩:=mem_filL.1 hp
      rw [hok.len] at q1
      exact hok.row p q1 q2
    have hu:∀ u∈elsL n C,PN n u∧pt u l=l:=fun u hm=>by
      have hg:=(ihm u).1 hm
      exact ⟨hg.pn h1 h2 hGC,Gen.fix h1 h2 hGC hl (fun s hs=>(good_pn hC s hs).2 l (by omega)) hg⟩
    refine ⟨?_,fun g=>?_⟩
    · rw [elsL,List.Nodup,List.pairwise_flatMap]
      refine ⟨fun p hp=>?_,?_⟩
      · refine (List.pairwise_map.2 (ihn.imp_of_mem fun {a b} ha hb hab e=>hab ?_))
        obtain ⟨t1,_,_⟩:=hfil p hp
        have e:=congrArg (fun x=>compI x (invI (L.row.getD p []))) e
        simp only [comp_assoc (hu a ha).1 t1 t1.inv,comp_assoc (hu b hb).1 t1 t1.inv,comp_inv t1,comp_id (hu a ha).1,comp_id (hu b hb).1] at e
        exact e
      · refine (filL_nodup L.row).imp_of_mem fun {p q} hp hq hpq=>?_
        intro x hx y hy e
        obtain ⟨u,hu1,rfl⟩:=List.mem_map.1 hx
        obtain ⟨v,hv1,rfl⟩:=List.mem_map.1 hy
        have e1:pt (compI u (L.row.getD p [])) l=pt (compI v (L.row.getD q [])) l:=by rw [e]
        rw [pt_comp (hu v hv1).1 l hl,pt_comp (hu u hu1).1 l hl,(hu u hu1).2,(hu v hv1).2,(hfil p hp).2.2,(hfil q hq).2.2] at e1
        exact hpq e1
    · rw [elsL,List.mem_flatMap]
      constructor
      · rintro ⟨p,hp,hx⟩
        obtain ⟨u,hu1,rfl⟩:=List.mem_map.1 hx
        exact Gen.comp h1 h2 hG (Gen.sub h1 h2 hG hsub ((ihm u).1 hu1)) (hfil p hp).2.1
      · intro hg
        have hgp:=hg.pn h1 h2 hG
        have hfx:∀ i,i<l→pt g i=i:=fun i hi=>Gen.fix h1 h2 hG (by omega) (fun s hs=>(hok.gens s hs).2 i hi) hg
        have hh:=(good_has h1 h2 (L :: C) l hh g hgp hfx).2 hg
        rw [hasL] at hh
        by_cases hne:L.row.getD (pt g l) []=[]
        · rw [if_pos hne] at hh;cases hh
        rw [if_neg hne] at hh
        have hpm:pt g l∈filL L.row:=mem_filL.2 ⟨by rw [hok.len];exact (hgp.get hl).2,hne⟩
        obtain ⟨t1,t2,t3⟩:=hfil _ hpm
        refine ⟨pt g l,hpm,List.mem_map.2 ⟨compI g (invI (L.row.getD (pt g l) [])),?_,?_⟩⟩
        · rw [ihm]
          refine (good_has h1 h2 C (l+1) hC _ (hgp.comp t1.inv) (fun i hi=>?_)).1 hh
          rw [pt_comp hgp i (by omega)]
          by_cases e:i=l
          · subst e
            have:=pt_inv t1 hl
            rwa [t3] at this
          · rw [hfx i (by omega)]
            have hfx2:=Gen.fix h1 h2 hG (i:=i) (by omega) (fun s hs=>(hok.gens s hs).2 i (by omega)) t2
            have:=pt_inv t1 (show i<n by omega)
            rwa [hfx2] at this
        · rw [comp_assoc hgp t1.inv t1,inv_comp t1,comp_id hgp]
end Ch
end Go.AM
namespace Go.AM
namespace Ch
/-! a chain grows -/
def brStep (q:Nat) (s:List (List Int)×List Nat) (g:List Int):List (List Int)×List Nat :=
  if s.1.getD (pt g q) []=[] then (s.1.set (pt g q) (compI (s.1.getD q []) g),s.2++[pt g q]) else s
def brIn (gens:List (List Int)) (q:Nat) (s:List (List Int)×List Nat):Nat→List (List Int)×List Nat
  | 0=>s
  | j+1=>brStep q (brIn gens q s j) (gens.getD j default)
def brK (gens:List (List Int)) (row:List (List Int)):Nat→List (List Int)×List Nat
  | 0=>(row,filL row)
  | k+1=>if k<(brK gens row k).2.length then brIn gens ((brK gens row k).2.getD k 0) (brK gens row k) gens.length else brK gens row k
structure BrOk (n l:Nat) (gens:List (List Int)) (s:List (List Int)×List Nat):Prop where
  lv:LvOk n l ⟨gens,s.1⟩
  nd:s.2.Nodup
  mem:∀ p,p∈s.2↔p<n∧s.1.getD p []≠[]
theorem getD_set' {α:Type} (l:List α) (i j:Nat) (a d:α) (hi:i<l.length):(l.set i a).getD j d=if j=i then a else l.getD j d:=by
  by_cases h:j=i
  · subst h;simp [List.getD,hi]
  · rw [if_neg h];simp [List.getD,List.getElem?_set,Ne.symm h]
def Grows (s t:List (List Int)×List Nat):Prop:=(∃ e,t.2=s.2++e)∧∀ p,s.1.getD p []≠[]→t.1.getD p []=s.1.getD p []
theorem Grows.refl (s:List (List Int)×List Nat):Grows s s:=⟨⟨[],by simp⟩,fun _ _=>rfl⟩
theorem Grows.trans {s t u:List (List Int)×List Nat} (h:Grows s t) (k:Grows t u):Grows s u:=by
  obtain ⟨⟨e,he⟩,h2⟩:=h
  obtain ⟨⟨f,hf⟩,k2⟩:=k
  exact ⟨⟨e++f,by rw [hf,he,List.append_assoc]⟩,fun p hp=>by rw [k2 p (by rw [h2 p hp];exact hp),h2 p hp]⟩
theorem brStep_ok {n l:Nat} (h1:1≤n) (h2:n≤20) {gens:List (List Int)} {s:List (List Int)×List Nat} (h:BrOk n l gens s) (hl:l<n) {q:Nat} (hq:q∈s.2) {g:List Int} (hg:g∈gens) :
    BrOk n l gens (brStep q s g)∧Grows s (brStep q s g)∧(brStep q s g).1.getD (pt g q) []≠[]:=by
  have hG:∀ s∈gens,PN n s:=fun s hs=>(h.lv.gens s hs).1
  obtain ⟨hq1,hq2⟩:=(h.mem q).1 hq
  have hgp:=hG g hg
  have hpn:=(hgp.get hq1).2
  obtain ⟨t1,t2,t3⟩:=h.lv.row q hq1 hq2
  have hlen:s.1.length=n:=h.lv.len
  unfold brStep
  by_cases he:s.1.getD (pt g q) []=[]
  · rw [if_pos he]
    have hgs:∀ p,(s.1.set (pt g q) (compI (s.1.getD q []) g)).getD p []=if p=pt g q then compI (s.1.getD q []) g else s.1.getD p []:=fun p=>getD_set' _ _ _ _ _ (by rw [hlen];exact hpn)
    have hcp:=t1.comp hgp
    have hne:compI (s.1.getD q []) g≠[]:=fun e=>by
      have:=hcp.1;rw [e] at this;simp at this;omega
    have hlne:l≠pt g q:=fun e=>by
      have:=h.lv.base
      rw [e] at this
      simp only at this
      rw [he] at this
      have:=congrArg List.length this
      rw [runI_len] at this;simp at this;omega
    refine ⟨⟨⟨h.lv.gens,by rw [List.length_set];exact hlen,?_,fun p hp hpe=>?_⟩,?_,fun p=>?_⟩,⟨⟨[pt g q],rfl⟩,fun p hp=>?_⟩,?_⟩
    · simp only [hgs];rw [if_neg hlne];exact h.lv.base
    · simp only [hgs] at hpe ⊢
      by_cases e:p=pt g q
      · rw [if_pos e]
        refine ⟨hcp,.mul t2 hg,?_⟩
        rw [pt_comp t1 l hl,t3,e]
      · rw [if_neg e] at hpe ⊢
        exact h.lv.row p hp hpe
    · rw [List.nodup_append]
      refine ⟨h.nd,by simp,fun a ha b hb=>?_⟩
      rw [List.mem_singleton] at hb
      rintro rfl
      rw [hb] at ha
      exact ((h.mem _).1 ha).2 he
    · rw [List.mem_append,List.mem_singleton,h.mem,hgs]
      by_cases e:p=pt g q
      · rw [if_pos e];exact ⟨fun _=>⟨by omega,hne⟩,fun _=>.inr e⟩
      · rw [if_neg e];simp [e]
    · simp only [hgs]
      rw [if_neg (fun e=>hp (by rw [e];exact he))]
    · simp only [hgs];rw [if_pos trivial];exact hne
  · rw [if_neg he];exact ⟨h,Grows.refl _,he⟩
theorem brIn_ok {n l:Nat} (h1:1≤n) (h2:n≤20) {gens:List (List Int)} {s:List (List Int)×List Nat} (h:BrOk n l gens s) (hl:l<n) {q:Nat} (hq:q∈s.2):∀ j,j≤gens.length →
    BrOk n l gens (brIn gens q s j)∧Grows s (brIn gens q s j)∧∀ i,i<j→(brIn gens q s j).1.getD (pt (gens.getD i default) q) []≠[]
  | 0,_=>⟨h,Grows.refl _,fun i hi=>absurd hi (Nat.not_lt_zero i)⟩
  | j+1,hj=>by
    obtain ⟨a,b,c⟩:=brIn_ok h1 h2 h hl hq j (by omega)
    have hq':q∈(brIn gens q s j).2:=by obtain ⟨⟨e,he⟩,_⟩:=b;rw [he];exact List.mem_append_left _ hq
    obtain ⟨a2,b2,c2⟩:=brStep_ok h1 h2 a hl hq' (mem_getD gens j default (by omega))
    refine ⟨a2,b.trans b2,fun i hi=>?_⟩
    by_cases e:i=j
    · subst e;exact c2
    · have:=c i (by omega)
      show (brStep q (brIn gens q s j) (gens.getD j default)).1.getD (pt (gens.getD i default) q) []≠[]
      rw [b2.2 _ this];exact this
theorem brK_ok {n l:Nat} (h1:1≤n) (h2:n≤20) {gens row:List (List Int)} (h:LvOk n l ⟨gens,row⟩) (hl:l<n):∀ k,
    BrOk n l gens (brK gens row k)∧Grows (row,filL row) (brK gens row k)∧∀ i,i<k→i<(brK gens row k).2.length→∀ s∈gens,(brK gens row k).1.getD (pt s ((brK gens row k).2.getD i 0)) []≠[]
  | 0=>⟨⟨h,filL_nodup _,fun p=>by rw [show (brK gens row 0)=(row,filL row) from rfl,mem_filL,show row.length=n from h.len]⟩,Grows.refl _,fun i hi=>absurd hi (Nat.not_lt_zero i)⟩
  | k+1=>by
    obtain ⟨a,b,c⟩:=brK_ok h1 h2 h hl k
    rw [brK]
    split
    · rename_i hk
      have hm:=mem_getD (brK gens row k).2 k 0 hk
      obtain ⟨a2,b2,c2⟩:=brIn_ok h1 h2 a hl hm gens.length (Nat.le_refl _)
      refine ⟨a2,b.trans b2,fun i hi hi2 s hs=>?_⟩
      obtain ⟨⟨e,he⟩,b3⟩:=b2
      have hgi:∀ i,i<(brK gens row k).2.length→(brIn gens ((brK gens row k).2.getD k 0) (brK gens row k) gens.length).2.getD i 0=(brK gens row k).2.getD i 0:=fun i hi=>by
        rw [he];exact getD_app_l _ _ _ _ hi
      by_cases ei:i=k
      · subst ei
        rw [hgi i hk]
        obtain ⟨j,hj,hs2⟩:=List.mem_iff_getElem.1 hs
        have:=c2 j hj
        rwa [getD_eq _ _ _ hj,hs2] at this
      · have hik:i<(brK gens row k).2.length:=by omega
        rw [hgi i hik]
        have:=c i (by omega) hik s hs
        rw [b3 _ this];exact this
    · rename_i hk
      exact ⟨a,b,fun i hi hi2=>c i (by omega) hi2⟩
def brR (n:Nat) (gens row:List (List Int)):List (List Int):=(brK gens row n).1
theorem nodup_lt_len {n:Nat} {l:List Nat} (hd:l.Nodup) (h:∀ x∈l,x<n):l.length≤n:=by
  have:=len_le_of_sub l (List.range n) hd fun x hx=>List.mem_range.2 (h x hx)
  simpa using this
theorem brR_ok {n l:Nat} (h1:1≤n) (h2:n≤20) {gens row:List (List Int)} (h:LvOk n l ⟨gens,row⟩) (hl:l<n) :
    LvOk n l ⟨gens,brR n gens row⟩∧(∀ p,row.getD p []≠[]→(brR n gens row).getD p []=row.getD p [])∧∀ p,p<n→(brR n gens row).getD p []≠[]→∀ s∈gens,(brR n gens row).getD (pt s p) []≠[]:=by
  obtain ⟨a,b,c⟩:=brK_ok h1 h2 h hl n
  refine ⟨a.lv,fun p hp=>b.2 p hp,fun p hp hpe s hs=>?_⟩
  have hm:=(a.mem p).2 ⟨hp,hpe⟩
  obtain ⟨i,hi,e⟩:=List.mem_iff_getElem.1 hm
  have hle:=nodup_lt_len a.nd fun x hx=>((a.mem x).1 hx).1
  have:=c i (by omega) hi s hs
  rwa [getD_eq _ _ _ hi,e] at this
end Ch
end Go.AM
namespace Go.AM
namespace Ch
def schL (gens row:List (List Int)):List (List Int):=(filL row).flatMap fun p=>gens.map fun s=>compI (compI (row.getD p []) s) (invI (row.getD (pt s p) []))
def addL (n:Nat):Nat→List Lv→Nat→List Int→List Lv
  | 0,C,_,_=>C
  | _+1,[],_,_=>[]
  | d+1,L :: C,l,g=>if hasL (L :: C) l g=true then L :: C else ⟨L.gens++[g],brR n (L.gens++[g]) L.row⟩ :: (schL (L.gens++[g]) (brR n (L.gens++[g]) L.row)).foldl (fun C h=>addL n d C (l+1) h) C
structure AddOk (n l:Nat) (C C':List Lv):Prop where
  good:Good n C' l
  len:C'.length=C.length
  sub:∀ s∈headG C,s∈headG C'
theorem foldl_add {n l d:Nat} (f:List Lv→List Int→List Lv) (hf:∀ C h,Good n C l→C.length=d→PN n h→(∀ i,i<l→pt h i=i)→AddOk n l C (f C h)∧Gen n (headG (f C h)) h∧∀ s∈headG (f C h),s∈headG C∨s=h) :
    ∀ (hs:List (List Int)) (C:List Lv),Good n C l→C.length=d→(∀ h∈hs,PN n h∧∀ i,i<l→pt h i=i)→AddOk n l C (hs.foldl f C)∧(∀ h∈hs,Gen n (headG (hs.foldl f C)) h)∧∀ s∈headG (hs.foldl f C),s∈headG C∨s∈hs
  | [],C,hC,hd,_=>⟨⟨hC,rfl,fun _ h=>h⟩,fun h hh=>(by cases hh),fun s hs=>.inl hs⟩
  | h :: hs,C,hC,hd,hh=>by
    obtain ⟨a,b,c⟩:=hf C h hC hd (hh h (by simp)).1 (hh h (by simp)).2
    obtain ⟨a2,b2,c2⟩:=foldl_add f hf hs (f C h) a.good (by rw [a.len,hd]) fun x hx=>hh x (by simp [hx])
    refine ⟨⟨a2.good,by rw [List.foldl_cons,a2.len,a.len],fun s hs'=>a2.sub s (a.sub s hs')⟩,fun x hx=>?_,fun s hs'=>?_⟩
    · rcases List.mem_cons.1 hx with rfl | hx
      · exact Gen.mono a2.sub b
      · exact b2 x hx
    · rcases c2 s hs' with q | q
      · rcases c s q with q | q
        · exact .inl q
        · exact .inr (by simp [q])
      · exact .inr (by simp [q])
theorem addL_ok {n:Nat} (h1:1≤n) (h2:n≤20):∀ (d:Nat) (C:List Lv) (l:Nat) (g:List Int),Good n C l→C.length=d→l+d=n→PN n g→(∀ i,i<l→pt g i=i) →
    AddOk n l C (addL n d C l g)∧Gen n (headG (addL n d C l g)) g∧∀ s∈headG (addL n d C l g),s∈headG C∨s=g
  | 0,C,l,g,hC,hd,hn,hg,hf=>by
    have:C=[]:=List.length_eq_zero_iff.1 hd
    subst this
    have:l=n:=by omega
    subst this
    refine ⟨⟨hC,rfl,fun _ h=>h⟩,?_,fun s hs=>.inl hs⟩
    rw [hg.ext (PN.one h1 h2) fun i hi=>by rw [hf i hi,pt_id hi]]
    exact .one
  | d+1,[],l,g,hC,hd,hn,hg,hf=>by cases hd
  | d+1,L :: C,l,g,hC,hd,hn,hg,hf=>by
    rw [addL]
    by_cases hh:hasL (L :: C) l g=true
    · rw [if_pos hh]
      exact ⟨⟨hC,rfl,fun _ h=>h⟩,(good_has h1 h2 (L :: C) l hC g hg hf).1 hh,fun s hs=>.inl hs⟩
    rw [if_neg hh]
    obtain ⟨hl,hok,hcl,hsc,hsub,hG⟩:=hC
    have hgs:∀ s∈L.gens++[g],PN n s∧∀ i,i<l→pt s i=i:=fun s hs=>by
      rcases List.mem_append.1 hs with hs | hs
      · exact hok.gens s hs
      · rw [List.mem_singleton.1 hs];exact ⟨hg,hf⟩
    have hgp:∀ s∈L.gens++[g],PN n s:=fun s hs=>(hgs s hs).1
    have hok2:LvOk n l ⟨L.gens++[g],L.row⟩:=⟨hgs,hok.len,hok.base,fun p hp hpe=>by
      obtain ⟨q1,q2,q3⟩:=hok.row p hp hpe
      exact ⟨q1,Gen.mono (fun s hs=>List.mem_append_left _ hs) q2,q3⟩⟩
    obtain ⟨b1,b2,b3⟩:=brR_ok h1 h2 hok2 hl
    generalize hrow:brR n (L.gens++[g]) L.row=row at *
    generalize hgens:L.gens++[g]=gens at *
    -- the Schreier generators
    have hsch:∀ h∈schL gens row,(PN n h∧∀ i,i<l+1→pt h i=i)∧Gen n gens h:=fun h hh=>by
      unfold schL at hh
      obtain ⟨p,hp,hh⟩:=List.mem_flatMap.1 hh
      obtain ⟨s,hs,rfl⟩:=List.mem_map.1 hh
      obtain ⟨p1,p2⟩:=mem_filL.1 hp
      have p1:p<n:=by rw [show row.length=n from b1.len] at p1;exact p1
      have hsp:=hgp s hs
      obtain ⟨t1,t2,t3⟩:=b1.row p p1 p2
      have hne:=b3 p p1 p2 s hs
      obtain ⟨w1,w2,w3⟩:=b1.row (pt s p) (hsp.get p1).2 hne
      have hgen:Gen n gens (compI (compI (row.getD p []) s) (invI (row.getD (pt s p) []))):=Gen.comp h1 h2 hgp (Gen.mul t2 hs) (Gen.inv h1 h2 hgp w2)
      refine ⟨⟨(t1.comp hsp).comp w1.inv,fun i hi=>?_⟩,hgen⟩
      by_cases e:i=l
      · subst e
        rw [pt_comp (t1.comp hsp) i (by omega),pt_comp t1 i (by omega),t3]
        have:=pt_inv w1 hl
        rwa [w3] at this
      · exact Gen.fix h1 h2 hgp (by omega) (fun s hs=>(hgs s hs).2 i (by omega)) hgen
    obtain ⟨a,b,c⟩:=foldl_add (fun C h=>addL n d C (l+1) h) (fun C h hC hd' hp hf'=>addL_ok h1 h2 d C (l+1) h hC hd' (by omega) hp hf') (schL gens row) C hG (by simpa using hd) fun h hh=>(hsch h hh).1
    generalize (schL gens row).foldl (fun C h=>addL n d C (l+1) h) C=C' at *
    refine ⟨⟨⟨hl,b1,b3,fun p hp hpe s hs=>?_,fun s hs=>?_,a.good⟩,by simp [a.len],fun s hs=>?_⟩,?_,fun s hs=>?_⟩
    · refine b _ ?_
      unfold schL
      exact List.mem_flatMap.2 ⟨p,mem_filL.2 ⟨by rw [show row.length=n from b1.len];exact hp,hpe⟩,List.mem_map.2 ⟨s,hs,rfl⟩⟩
    · rcases c s hs with q | q
      · exact Gen.mono (fun s hs=>by rw [← hgens];exact List.mem_append_left _ hs) (hsub s q)
      · exact (hsch s q).2
    · show s∈gens
      rw [← hgens];exact List.mem_append_left _ hs
    · show Gen n gens g
      exact Gen.of hgp (by rw [← hgens];simp)
    · have hs:s∈gens:=hs
      rw [← hgens,List.mem_append,List.mem_singleton] at hs
      exact hs
end Ch
end Go.AM
namespace Go.AM
namespace Ch
def trvL (n:Nat):Nat→Nat→List Lv
  | 0,_=>[]
  | d+1,l=>⟨[],(List.replicate n []).set l (idL n)⟩ :: trvL n d (l+1)
theorem trvL_head (n d l:Nat):headG (trvL n d l)=[]:=by cases d <;> rfl
theorem trvL_len (n:Nat):∀ d l,(trvL n d l).length=d
  | 0,_=>rfl
  | d+1,l=>by rw [trvL,List.length_cons,trvL_len n d]
theorem trvL_good {n:Nat} (h1:1≤n) (h2:n≤20):∀ d l,l+d=n→Good n (trvL n d l) l
  | 0,l,h=>by show l=n;omega
  | d+1,l,h=>by
    have hg:∀ p,((List.replicate n ([]:List Int)).set l (idL n)).getD p []=if p=l then idL n else []:=fun p=>by
      rw [getD_set' _ _ _ _ _ (by simp;omega)]
      split
      · rfl
      · by_cases hp:p<n
        · simp [List.getD,hp]
        · simp [List.getD,hp]
    have h0:=PN.one (n:=n) h1 h2
    refine ⟨by omega,⟨fun s hs=>(by cases hs),by simp,(by simp only [hg];simp),fun p hp hpe=>?_⟩,fun p hp hpe s hs=>(by cases hs),fun p hp hpe s hs=>(by cases hs),fun s hs=>(by rw [trvL_head] at hs;cases hs),trvL_good h1 h2 d (l+1) (by omega)⟩
    simp only [hg] at hpe ⊢
    by_cases e:p=l
    · rw [if_pos e];exact ⟨h0,.one,by rw [pt_id (by omega),e]⟩
    · rw [if_neg e] at hpe;exact absurd rfl hpe
def newL (n:Nat) (G:List (List Int)):List Lv:=G.foldl (fun C g=>addL n n C 0 g) (trvL n n 0)
theorem newL_ok {n:Nat} (h1:1≤n) (h2:n≤20) (G:List (List Int)) (hG:∀ g∈G,PN n g):Good n (newL n G) 0∧(newL n G).length=n∧∀ g,Gen n (headG (newL n G)) g↔Gen n G g:=by
  have h0:=trvL_good h1 h2 n 0 (by omega)
  obtain ⟨a,b,c⟩:=foldl_add (n:=n) (l:=0) (d:=n) (fun C g=>addL n n C 0 g) (fun C h hC hd hp hf=>addL_ok h1 h2 n C 0 h hC hd (by omega) hp hf) G (trvL n n 0) h0 (trvL_len n n 0) fun h hh=>⟨hG h hh,fun i hi=>absurd hi (Nat.not_lt_zero i)⟩
  have hgp:∀ s∈headG (newL n G),PN n s:=fun s hs=>(good_pn a.good s hs).1
  refine ⟨a.good,by rw [newL,a.len,trvL_len],fun g=>⟨fun h=>Gen.mono (fun s hs=>?_) h,fun h=>Gen.sub h1 h2 hgp b h⟩⟩
  rcases c s hs with q | q
  · rw [trvL_head] at q;cases q
  · exact q
theorem newL_els {n:Nat} (h1:1≤n) (h2:n≤20) (G:List (List Int)) (hG:∀ g∈G,PN n g):(elsL n (newL n G)).Nodup∧(elsL n (newL n G)).length=ordL (newL n G)∧∀ g,g∈elsL n (newL n G)↔Gen n G g:=by
  obtain ⟨a,b,c⟩:=newL_ok h1 h2 G hG
  obtain ⟨q1,q2⟩:=good_els h1 h2 _ 0 a
  exact ⟨q1,els_len n _,fun g=>by rw [q2,c]⟩
/-! how many generators a level may hold -/
def wtL:List Lv→Nat
  | []=>0
  | L :: C=>(filL L.row).length+wtL C
def Wt:List Lv→Prop
  | []=>True
  | L :: C=>L.gens.length+(C.length+1)≤wtL (L :: C)∧Wt C
def GrwL:List Lv→List Lv→Prop
  | [],[]=>True
  | L :: C,L' :: C'=>L'.row.length=L.row.length∧(∀ p,L.row.getD p []≠[]→L'.row.getD p []=L.row.getD p [])∧GrwL C C'
  | _,_=>False
theorem GrwL.refl:∀ C,GrwL C C
  | []=>trivial
  | L :: C=>⟨rfl,fun _ _=>rfl,GrwL.refl C⟩
theorem GrwL.trans:∀ {A B C:List Lv},GrwL A B→GrwL B C→GrwL A C
  | [],[],[],_,_=>trivial
  | L :: A,M :: B,N :: C,⟨h1,h2,h3⟩,⟨k1,k2,k3⟩=>⟨by rw [k1,h1],fun p hp=>by rw [k2 p (by rw [h2 p hp];exact hp),h2 p hp],h3.trans k3⟩
  | [],[],_ :: _,_,h=>h.elim
  | [],_ :: _,_,h,_=>h.elim
  | _ :: _,[],_,h,_=>h.elim
  | _ :: _,_ :: _,[],_,h=>h.elim
theorem fil_sub {r r':List (List Int)} (hl:r'.length=r.length) (h:∀ p,r.getD p []≠[]→r'.getD p []=r.getD p []):∀ p∈filL r,p∈filL r':=fun p hp=>by
  obtain ⟨q1,q2⟩:=mem_filL.1 hp
  exact mem_filL.2 ⟨by omega,by rw [h p q2];exact q2⟩
theorem fil_same {r r':List (List Int)} (hl:r'.length=r.length) (h:∀ p,r.getD p []≠[]→r'.getD p []=r.getD p []) (hc:(filL r').length≤(filL r).length):r'=r:=by
  have hsub:∀ p∈filL r',p∈filL r:=by
    intro p hp
    by_cases hq:p∈filL r
    · exact hq
    · have hnd:(p :: filL r).Nodup:=List.nodup_cons.2 ⟨hq,filL_nodup r⟩
      have:=len_le_of_sub (p :: filL r) (filL r') hnd fun x hx=>by
        rcases List.mem_cons.1 hx with rfl | hx
        · exact hp
        · exact fil_sub hl h x hx
      simp at this;omega
  apply List.ext_getElem hl
  intro i hi hi'
  have e1:=getD_eq r' i [] hi
  have e2:=getD_eq r i [] hi'
  rw [← e1,← e2]
  by_cases hr:r.getD i []=[]
  · rw [hr]
    by_cases hr':r'.getD i []=[]
    · exact hr'
    · exact absurd (mem_filL.1 (hsub i (mem_filL.2 ⟨hi,hr'⟩))).2 (by rw [hr];simp)
  · exact h i hr
theorem wt_le:∀ {C C':List Lv},GrwL C C'→wtL C≤wtL C'
  | [],[],_=>Nat.le_refl _
  | L :: C,L' :: C',⟨h1,h2,h3⟩=>by
    have:=len_le_of_sub (filL L.row) (filL L'.row) (filL_nodup _) (fil_sub h1 h2)
    have:=wt_le h3
    simp only [wtL];omega
  | [],_ :: _,h=>h.elim
  | _ :: _,[],h=>h.elim
theorem has_same:∀ {C C':List Lv},GrwL C C'→wtL C'≤wtL C→∀ l g,hasL C' l g=hasL C l g
  | [],[],_,_,_,_=>rfl
  | L :: C,L' :: C',⟨h1,h2,h3⟩,hw,l,g=>by
    have a:=len_le_of_sub (filL L.row) (filL L'.row) (filL_nodup _) (fil_sub h1 h2)
    have b:=wt_le h3
    simp only [wtL] at hw
    have e:=fil_same h1 h2 (by omega)
    rw [hasL,hasL,e,has_same h3 (by omega)]
  | [],_ :: _,h,_,_,_=>h.elim
  | _ :: _,[],h,_,_,_=>h.elim
end Ch
end Go.AM
namespace Go.AM
namespace Ch
structure GrwOk (C C':List Lv):Prop where
  grw:GrwL C C'
  wt:Wt C→Wt C'
theorem foldl_grw {n l d:Nat} (f:List Lv→List Int→List Lv) (hf:∀ C h,Good n C l→C.length=d→PN n h→(∀ i,i<l→pt h i=i)→AddOk n l C (f C h)∧GrwOk C (f C h)) :
    ∀ (hs:List (List Int)) (C:List Lv),Good n C l→C.length=d→(∀ h∈hs,PN n h∧∀ i,i<l→pt h i=i)→GrwOk C (hs.foldl f C)
  | [],C,_,_,_=>⟨GrwL.refl C,fun h=>h⟩
  | h :: hs,C,hC,hd,hh=>by
    obtain ⟨a,b⟩:=hf C h hC hd (hh h (by simp)).1 (hh h (by simp)).2
    have c:=foldl_grw f hf hs (f C h) a.good (by rw [a.len,hd]) fun x hx=>hh x (by simp [hx])
    exact ⟨b.grw.trans c.grw,fun w=>c.wt (b.wt w)⟩
theorem sch_fix {n l:Nat} (h1:1≤n) (h2:n≤20) {gens row:List (List Int)} (hl:l<n) (b1:LvOk n l ⟨gens,row⟩) (b3:∀ p,p<n→row.getD p []≠[]→∀ s∈gens,row.getD (pt s p) []≠[]):∀ h∈schL gens row,PN n h∧∀ i,i<l+1→pt h i=i:=fun h hh=>by
  have hgp:∀ s∈gens,PN n s:=fun s hs=>(b1.gens s hs).1
  unfold schL at hh
  obtain ⟨p,hp,hh⟩:=List.mem_flatMap.1 hh
  obtain ⟨s,hs,rfl⟩:=List.mem_map.1 hh
  obtain ⟨p1,p2⟩:=mem_filL.1 hp
  have p1:p<n:=by rw [show row.length=n from b1.len] at p1;exact p1
  have hsp:=hgp s hs
  obtain ⟨t1,t2,t3⟩:=b1.row p p1 p2
  have hne:=b3 p p1 p2 s hs
  obtain ⟨w1,w2,w3⟩:=b1.row (pt s p) (hsp.get p1).2 hne
  have hgen:Gen n gens (compI (compI (row.getD p []) s) (invI (row.getD (pt s p) []))):=Gen.comp h1 h2 hgp (Gen.mul t2 hs) (Gen.inv h1 h2 hgp w2)
  refine ⟨(t1.comp hsp).comp w1.inv,fun i hi=>?_⟩
  by_cases e:i=l
  · subst e
    rw [pt_comp (t1.comp hsp) i (by omega),pt_comp t1 i (by omega),t3]
    have:=pt_inv w1 hl
    rwa [w3] at this
  · exact Gen.fix h1 h2 hgp (by omega) (fun s hs=>(b1.gens s hs).2 i (by omega)) hgen
theorem addL_grw {n:Nat} (h1:1≤n) (h2:n≤20):∀ (d:Nat) (C:List Lv) (l:Nat) (g:List Int),Good n C l→C.length=d→l+d=n→PN n g→(∀ i,i<l→pt g i=i)→GrwOk C (addL n d C l g)
  | 0,C,l,g,_,_,_,_,_=>⟨GrwL.refl C,fun h=>h⟩
  | d+1,[],l,g,_,hd,_,_,_=>by cases hd
  | d+1,L :: C,l,g,hC,hd,hn,hg,hf=>by
    have hall:=addL_ok h1 h2 (d+1) (L :: C) l g hC hd hn hg hf
    rw [addL] at hall ⊢
    by_cases hh:hasL (L :: C) l g=true
    · rw [if_pos hh];exact ⟨GrwL.refl _,fun h=>h⟩
    rw [if_neg hh] at hall ⊢
    have hC0:=hC
    obtain ⟨hl,hok,hcl,hsc,hsub,hG⟩:=hC
    have hgs:∀ s∈L.gens++[g],PN n s∧∀ i,i<l→pt s i=i:=fun s hs=>by
      rcases List.mem_append.1 hs with hs | hs
      · exact hok.gens s hs
      · rw [List.mem_singleton.1 hs];exact ⟨hg,hf⟩
    have hok2:LvOk n l ⟨L.gens++[g],L.row⟩:=⟨hgs,hok.len,hok.base,fun p hp hpe=>by
      obtain ⟨q1,q2,q3⟩:=hok.row p hp hpe
      exact ⟨q1,Gen.mono (fun s hs=>List.mem_append_left _ hs) q2,q3⟩⟩
    obtain ⟨b1,b2,b3⟩:=brR_ok h1 h2 hok2 hl
    have hfx:=sch_fix h1 h2 hl b1 b3
    have hfold:=foldl_grw (fun C h=>addL n d C (l+1) h) (fun C h hC hd' hp hf'=>⟨(addL_ok h1 h2 d C (l+1) h hC hd' (by omega) hp hf').1,addL_grw h1 h2 d C (l+1) h hC hd' (by omega) hp hf'⟩) (schL (L.gens++[g]) (brR n (L.gens++[g]) L.row)) C hG (by simpa using hd) hfx
    have hgrw:GrwL (L :: C) (⟨L.gens++[g],brR n (L.gens++[g]) L.row⟩ :: (schL (L.gens++[g]) (brR n (L.gens++[g]) L.row)).foldl (fun C h=>addL n d C (l+1) h) C) :=
      ⟨by rw [show (brR n (L.gens++[g]) L.row).length=n from b1.len,hok.len],b2,hfold.grw⟩
    refine ⟨hgrw,fun hw=>⟨?_,hfold.wt hw.2⟩⟩
    have hlen:=hall.1.len
    have hgood:=hall.1.good
    have hgen:=hall.2.1
    have hw1:=hw.1
    -- the weight has grown
    have hlt:wtL (L :: C)<wtL (⟨L.gens++[g],brR n (L.gens++[g]) L.row⟩ :: (schL (L.gens++[g]) (brR n (L.gens++[g]) L.row)).foldl (fun C h=>addL n d C (l+1) h) C):=by
      rcases Nat.lt_or_ge (wtL (L :: C)) (wtL (⟨L.gens++[g],brR n (L.gens++[g]) L.row⟩ :: (schL (L.gens++[g]) (brR n (L.gens++[g]) L.row)).foldl (fun C h=>addL n d C (l+1) h) C)) with q | q
      · exact q
      · have e:=has_same hgrw q l g
        rw [(good_has h1 h2 _ l hgood g hg hf).2 hgen] at e
        exact absurd e.symm hh
    simp only [List.length_cons,Nat.add_right_cancel_iff] at hlen
    rw [hlen,List.length_append,List.length_singleton]
    omega
end Ch
end Go.AM
set_option maxRecDepth 8000
namespace Go.AM
open Go.Proofs
open Ch (filL mem_filL)
def nlv (t:List Int):AV:=match t with | []=>.nilsl | x :: r=>isl (x :: r)
theorem nlv_nil:nlv []=.nilsl:=rfl
theorem nlv_ne {t:List Int} (h:t≠[]):nlv t=isl t:=by cases t with | nil=>exact absurd rfl h | cons=>rfl
def orbK (row:List (List Int)):Nat→List Int
  | 0=>[]
  | k+1=>if row.getD k []=[] then orbK row k else orbK row k++[(k:Int)]
end Go.AM
namespace Go.AM
namespace Sc
/-! the reference's chain of stabilizers,plainly -/
open Ch (PN pt idL Gen Lv LvOk Good hasL headG good_has id_comp comp_assoc pt_comp pt_id pt_inv comp_inv inv_comp)
instance:Inhabited Lv:=⟨⟨[],[]⟩⟩
def lv (C:List Lv) (k:Nat):Lv:=C.getD k default
def rep (C:List Lv) (k y:Nat):List Int:=(lv C k).row.getD y []
def psS (C:List Lv) (k:Nat) (g:List Int):Bool:=hasL (C.drop k) k g
theorem drop_lv {C:List Lv} {k:Nat} (h:k<C.length):C.drop k=lv C k :: C.drop (k+1):=by
  rw [lv,getD_eq _ _ _ h];exact List.drop_eq_getElem_cons h
theorem ps_step {C:List Lv} {k:Nat} (h:k<C.length) (g:List Int):psS C k g=if rep C k (pt g k)=[] then false else psS C (k+1) (compI g (invI (rep C k (pt g k)))):=by
  unfold psS
  rw [drop_lv h,hasL];rfl
theorem ps_end {C:List Lv} {k:Nat} (h:C.length≤k) (g:List Int):psS C k g=true:=by
  unfold psS
  rw [List.drop_eq_nil_of_le h];rfl
theorem lv_set {C:List Lv} {k:Nat} (L:Lv) (h:k<C.length) (j:Nat):lv (C.set k L) j=if j=k then L else lv C j:=by
  unfold lv
  by_cases c:j=k
  · subst c;rw [if_pos rfl,getD_set_same _ _ _ _ h]
  · rw [if_neg c,getD_set_ne _ _ _ _ _ (Ne.symm c)]
structure Ext (C C':List Lv):Prop where
  len:C'.length=C.length
  gens:∀ j,∀ s∈(lv C j).gens,s∈(lv C' j).gens
  row:∀ j y,rep C j y≠[]→rep C' j y=rep C j y
theorem Ext.refl (C:List Lv):Ext C C:=⟨rfl,fun _ _ h=>h,fun _ _ _=>rfl⟩
theorem Ext.trans {A B C:List Lv} (h:Ext A B) (k:Ext B C):Ext A C :=
  ⟨k.len.trans h.len,fun j s hs=>k.gens j s (h.gens j s hs),fun j y hy=>(k.row j y (by rw [h.row j y hy];exact hy)).trans (h.row j y hy)⟩
theorem ps_mono {C C':List Lv} (e:Ext C C'):∀ d k g,k+d=C.length→psS C k g=true→psS C' k g=true
  | 0,k,g,h,_=>ps_end (by have:=e.len;omega) g
  | d+1,k,g,h,q=>by
    have hk:k<C.length:=by omega
    rw [ps_step hk] at q
    rw [ps_step (by have:=e.len;omega)]
    by_cases c:rep C k (pt g k)=[]
    · rw [if_pos c] at q;cases q
    · rw [if_neg c] at q
      have hr:=e.row k (pt g k) c
      rw [hr,if_neg c]
      exact ps_mono e d (k+1) _ (by omega) q
theorem ps_up {C C':List Lv} (e:Ext C C') {k:Nat} (h:k≤C.length) {g:List Int} (q:psS C k g=true):psS C' k g=true:=ps_mono e (C.length - k) k g (by omega) q
theorem ps_same {C C':List Lv} (hl:C'.length=C.length):∀ d k g,k+d=C.length→(∀ j,k≤j→lv C' j=lv C j)→psS C' k g=psS C k g
  | 0,k,g,h,_=>by rw [ps_end (by omega),ps_end (by omega)]
  | d+1,k,g,h,q=>by
    have e:∀ y,rep C' k y=rep C k y:=fun y=>by unfold rep;rw [q k (Nat.le_refl _)]
    have s1:=ps_step (C:=C') (k:=k) (by omega) g
    have s2:=ps_step (C:=C) (k:=k) (by omega) g
    rw [s1,s2,e,ps_same hl d (k+1) _ (by omega) (fun j hj=>q j (by omega))]
def Hd (C:List Lv) (k:Nat) (p:List Int):Prop:=rep C k (pt p k)≠[]∧psS C (k+1) (compI p (invI (rep C k (pt p k))))=true
theorem Hd.mono {C C':List Lv} (e:Ext C C') {k:Nat} (hk:k<C.length) {p:List Int} (h:Hd C k p):Hd C' k p:=by
  have hr:=e.row k (pt p k) h.1
  refine ⟨by rw [hr];exact h.1,?_⟩
  rw [hr]
  exact ps_up e (by omega) h.2
theorem Hd.ps {C:List Lv} {k:Nat} (hk:k<C.length) {p:List Int} (h:Hd C k p):psS C k p=true:=by
  rw [ps_step hk,if_neg h.1];exact h.2
structure WF (n:Nat) (C:List Lv):Prop where
  len:C.length=n
  lv:∀ k,k<n→LvOk n k (lv C k)
  sub:∀ k,k+1<n→∀ s∈(Sc.lv C (k+1)).gens,Gen n (Sc.lv C k).gens s
def Cl (n:Nat) (C:List Lv) (k:Nat):Prop:=∀ y,y<n→rep C k y≠[]→∀ s∈(lv C k).gens,Hd C k (compI (rep C k y) s)
def CC (n:Nat) (C:List Lv) (k:Nat):Prop:=∀ j,k≤j→j<n→Cl n C j
theorem CC_same {n:Nat} {C C':List Lv} {k:Nat} (hC:C.length=n) (hl:C'.length=C.length) (q:∀ j,k≤j→lv C' j=lv C j) (h:CC n C k):CC n C' k:=by
  intro j hj hn y hy hr s hs
  have e:∀ y,rep C' j y=rep C j y:=fun y=>by unfold rep;rw [q j hj]
  rw [e] at hr
  rw [q j hj] at hs
  obtain ⟨a,b⟩:=h j hj hn y hy hr s hs
  unfold Hd
  rw [e y,e]
  refine ⟨a,?_⟩
  rw [ps_same hl (C.length - (j+1)) (j+1) _ (by omega) (fun i hi=>q i (by omega))]
  exact b
def mis (C:List Lv) (k:Nat):Nat:=((lv C k).row.filter fun r=>r == []).length
theorem mis_le:∀ (a b:List (List Int)),a.length=b.length→(∀ y,a.getD y []≠[]→b.getD y []≠[])→(b.filter fun r=>r == []).length≤(a.filter fun r=>r == []).length
  | [],[],_,_=>Nat.le_refl _
  | [],_ :: _,h,_=>by simp at h
  | _ :: _,[],h,_=>by simp at h
  | x :: a,y :: b,h,hh=>by
    have ih:=mis_le a b (by simpa using h) (fun j hj=>by have:=hh (j+1);simpa using this (by simpa using hj))
    have h0:=hh 0
    simp only [List.getD_cons_zero] at h0
    rw [List.filter_cons,List.filter_cons]
    by_cases c:y=[]
    · have cx:x=[]:=by
        by_cases d:x=[]
        · exact d
        · exact absurd c (h0 d)
      subst c;subst cx
      have e:(([]:List Int) == [])=true:=rfl
      rw [e,if_pos rfl,if_pos rfl,List.length_cons,List.length_cons]
      omega
    · have c1:(y == [])=false:=by simpa using c
      rw [c1]
      simp only [Bool.false_eq_true,if_false]
      split
      · rw [List.length_cons];omega
      · exact ih
theorem mis_set (p:List Int) (hp:p≠[]):∀ (a:List (List Int)) (y:Nat),y<a.length→a.getD y []=[]→((a.set y p).filter fun r=>r == []).length+1=(a.filter fun r=>r == []).length
  | [],_,h,_=>by simp at h
  | x :: a,0,_,hx=>by
    simp only [List.getD_cons_zero] at hx
    subst hx
    have c1:(p == [])=false:=by simpa using hp
    rw [List.set_cons_zero,List.filter_cons,List.filter_cons,c1]
    simp
  | x :: a,y+1,h,hx=>by
    have ih:=mis_set p hp a y (by simpa using h) (by simpa using hx)
    rw [List.set_cons_succ,List.filter_cons,List.filter_cons]
    split
    · simp only [List.length_cons];omega
    · exact ih
theorem mis_n {n:Nat} {C:List Lv} (h:WF n C) {k:Nat} (hk:k<n):mis C k≤n:=by
  have:=List.length_filter_le (fun r=>r == []) (lv C k).row
  rw [(h.lv k hk).len] at this
  exact this
theorem mis_mono {n:Nat} {C C':List Lv} (h:WF n C) (h':WF n C') (e:Ext C C') {k:Nat} (hk:k<n):mis C' k≤mis C k :=
  mis_le _ _ (by rw [(h.lv k hk).len,(h'.lv k hk).len]) fun y hy=>by
    have:=e.row k y hy
    unfold rep at this
    rw [this];exact hy
def FG (n k:Nat):Nat:=(n - k)*(n+2)+1
def FP (n k m:Nat):Nat:=m+1+FG n (k+1)
theorem FG_FP {n k m:Nat} (hk:k<n) (hm:m≤n):FP n k m+1≤FG n k:=by
  unfold FP FG
  have:(n - k)*(n+2)=(n - (k+1))*(n+2)+(n+2):=by
    rw [show n - k=(n - (k+1))+1 by omega,Nat.succ_mul]
  omega
def add:Nat→Bool→List Lv→Nat→List Int→List Lv
  | 0,_,C,_,_=>C
  | f + 1,true,C,k,p=>if C.length≤k then C else if psS C k p=true then C else
      ((lv C k).row.filter fun r=>!(r == [])).foldl (fun C r=>add f false C k (compI r p)) (C.set k ⟨(lv C k).gens++[p],(lv C k).row⟩)
  | f + 1,false,C,k,p=>if rep C k (pt p k)=[] then
      (lv C k).gens.foldl (fun C g=>add f false C k (compI p g)) (C.set k ⟨(lv C k).gens,(lv C k).row.set (pt p k) p⟩)
    else add f true C (k+1) (compI p (invI (rep C k (pt p k))))
structure PG (n:Nat) (C C':List Lv) (k:Nat) (p:List Int):Prop where
  wf:WF n C'
  ext:Ext C C'
  cc:CC n C' k
  ps:psS C' k p=true
  low:∀ j,j<k→lv C' j=lv C j
structure PP (n:Nat) (C C':List Lv) (k:Nat):Prop where
  wf:WF n C'
  ext:Ext C C'
  cc:CC n C' (k+1)
  gens:(lv C' k).gens=(lv C k).gens
  low:∀ j,j<k→lv C' j=lv C j
  nc:∀ y,y<n→rep C k y=[]→rep C' k y≠[]→∀ s∈(lv C k).gens,Hd C' k (compI (rep C' k y) s)
theorem PP.refl {n:Nat} {C:List Lv} {k:Nat} (h:WF n C) (c:CC n C (k+1)):PP n C C k:=⟨h,.refl C,c,rfl,fun _ _=>rfl,fun _ _ a b=>absurd a b⟩
theorem PP.trans {n:Nat} {A B C:List Lv} {k:Nat} (hk:k<n) (h:PP n A B k) (g:PP n B C k):PP n A C k:=by
  refine ⟨g.wf,h.ext.trans g.ext,g.cc,g.gens.trans h.gens,fun j hj=>(g.low j hj).trans (h.low j hj),fun y hy a b s hs=>?_⟩
  by_cases c:rep B k y=[]
  · exact g.nc y hy c b s (by rw [h.gens];exact hs)
  · have e:=g.ext.row k y c
    rw [e]
    exact (h.nc y hy a c s hs).mono g.ext (by rw [h.wf.len];exact hk)
structure El (n:Nat) (C:List Lv) (k:Nat) (p:List Int):Prop where
  pn:PN n p
  fix:∀ i,i<k→pt p i=i
  gen:Gen n (lv C k).gens p
section
variable {n:Nat}
theorem fold_ok (f:Nat) (ihP:∀ C k p,WF n C→k<n→El n C k p→CC n C (k+1)→FP n k (mis C k)≤f→PP n C (add f false C k p) k∧Hd (add f false C k p) k p) {k:Nat} (hk:k<n) :
    ∀ (qs:List (List Int)) (C:List Lv),WF n C→CC n C (k+1)→FP n k (mis C k)≤f→(∀ q∈qs,El n C k q)→PP n C (qs.foldl (fun C q=>add f false C k q) C) k∧∀ q∈qs,Hd (qs.foldl (fun C q=>add f false C k q) C) k q
  | [],C,hw,hc,_,_=>⟨.refl hw hc,fun q hq=>absurd hq (List.not_mem_nil)⟩
  | q :: qs,C,hw,hc,hf,hq=>by
    obtain ⟨a,b⟩:=ihP C k q hw hk (hq q (List.mem_cons_self ..)) hc hf
    have hm:=mis_mono hw a.wf a.ext hk
    obtain ⟨c,d⟩:=fold_ok f ihP hk qs (add f false C k q) a.wf a.cc (by unfold FP at *;omega) (fun r hr=>by
      have:=hq r (List.mem_cons_of_mem _ hr)
      exact ⟨this.pn,this.fix,by rw [a.gens];exact this.gen⟩)
    rw [List.foldl_cons]
    refine ⟨a.trans hk c,fun r hr=>?_⟩
    rcases List.mem_cons.1 hr with e | e
    · rw [e];exact b.mono c.ext (by rw [a.wf.len];exact hk)
    · exact d r e
theorem pn_ne {p:List Int} (h:PN n p):p≠[]:=fun e=>by
  have:=h.2.1
  rw [e] at this
  simp at this
theorem add_ok (h1:1≤n) (h2:n≤20):∀ f,(∀ C k p,WF n C→k≤n→PN n p→(∀ i,i<k→pt p i=i)→(∀ j,k=j+1→Gen n (lv C j).gens p)→CC n C k→FG n k≤f→PG n C (add f true C k p) k p) ∧
    (∀ C k p,WF n C→k<n→El n C k p→CC n C (k+1)→FP n k (mis C k)≤f→PP n C (add f false C k p) k∧Hd (add f false C k p) k p)
  | 0=>⟨fun C k p _ _ _ _ _ _ hf=>absurd hf (by unfold FG;omega),fun C k p _ _ _ _ hf=>absurd hf (by unfold FP;omega)⟩
  | f+1=>by
    obtain ⟨ihG,ihP⟩:=add_ok h1 h2 f
    refine ⟨fun C k p hw hkn hp hfx hgn hcc hf=>?_,fun C k p hw hk hel hcc hf=>?_⟩
    · rw [add]
      have hlen:=hw.len
      by_cases ck:C.length≤k
      · rw [if_pos ck]
        exact ⟨hw,.refl C,hcc,ps_end ck p,fun _ _=>rfl⟩
      rw [if_neg ck]
      by_cases cp:psS C k p=true
      · rw [if_pos cp]
        exact ⟨hw,.refl C,hcc,cp,fun _ _=>rfl⟩
      rw [if_neg cp]
      have hk:k<n:=by omega
      have hkC:k<C.length:=by omega
      have hL:=hw.lv k hk
      -- the chain with the new generator
      obtain ⟨C1,hC1⟩:∃ C1,C1=C.set k ⟨(lv C k).gens++[p],(lv C k).row⟩:=⟨_,rfl⟩
      have l1:∀ j,lv C1 j=if j=k then ⟨(lv C k).gens++[p],(lv C k).row⟩ else lv C j:=fun j=>by rw [hC1];exact lv_set _ hkC j
      have l1k:lv C1 k=⟨(lv C k).gens++[p],(lv C k).row⟩:=by rw [l1,if_pos rfl]
      have len1:C1.length=C.length:=by rw [hC1,List.length_set]
      have r1:∀ j y,rep C1 j y=rep C j y:=fun j y=>by
        unfold rep
        rw [l1]
        by_cases c:j=k
        · subst c;rw [if_pos rfl]
        · rw [if_neg c]
      have hgm:∀ {g},Gen n (lv C k).gens g→Gen n ((lv C k).gens++[p]) g:=fun h=>h.mono fun s hs=>List.mem_append_left _ hs
      have hG1:∀ s∈(lv C k).gens++[p],PN n s∧∀ i,i<k→pt s i=i:=fun s hs=>by
        rcases List.mem_append.1 hs with q | q
        · exact hL.gens s q
        · rw [List.mem_singleton.1 q];exact ⟨hp,hfx⟩
      have ext1:Ext C C1:=⟨len1,fun j s hs=>by
        rw [l1]
        by_cases c:j=k
        · subst c;rw [if_pos rfl];exact List.mem_append_left _ hs
        · rw [if_neg c];exact hs,fun j y _=>r1 j y⟩
      have wf1:WF n C1:=by
        refine ⟨by omega,fun j hj=>?_,fun j hj s hs=>?_⟩
        · rw [l1]
          by_cases c:j=k
          · subst c
            rw [if_pos rfl]
            exact ⟨hG1,hL.len,hL.base,fun y hy hr=>by obtain ⟨a,b,c⟩:=hL.row y hy hr;exact ⟨a,hgm b,c⟩⟩
          · rw [if_neg c];exact hw.lv j hj
        · rw [l1] at hs
          rw [l1]
          by_cases c:j=k
          · subst c
            rw [if_pos rfl]
            rw [if_neg (by omega)] at hs
            exact hgm (hw.sub j hj s hs)
          · rw [if_neg c]
            by_cases c2:j+1=k
            · rw [if_pos c2] at hs
              rcases List.mem_append.1 hs with q | q
              · exact hw.sub j hj s (by rw [c2];exact q)
              · rw [List.mem_singleton.1 q];exact hgn j c2.symm
            · rw [if_neg c2] at hs;exact hw.sub j hj s hs
      have cc1:CC n C1 (k+1):=CC_same hlen len1 (fun j hj=>by rw [l1,if_neg (by omega)]) (fun j a b=>hcc j (by omega) b)
      have hm1:mis C1 k≤n:=mis_n wf1 hk
      have hf1:FP n k (mis C1 k)≤f:=by have:=FG_FP hk hm1;omega
      have hmemr:∀ r,r∈((lv C k).row.filter fun r=>!(r == []))↔∃ y,y<n∧rep C k y=r∧r≠[]:=fun r=>by
        rw [List.mem_filter]
        constructor
        · rintro ⟨a,b⟩
          obtain ⟨y,hy,e⟩:=List.getElem_of_mem a
          refine ⟨y,by rw [← hL.len];exact hy,?_,by simpa using b⟩
          unfold rep
          rw [getD_eq _ _ _ hy,e]
        · rintro ⟨y,hy,e,hne⟩
          refine ⟨?_,by simpa using hne⟩
          rw [← e]
          exact mem_getD _ y [] (by rw [hL.len];exact hy)
      have hel:∀ q∈(((lv C k).row.filter fun r=>!(r == [])).map fun r=>compI r p),El n C1 k q:=fun q hq=>by
        obtain ⟨r,hr,rfl⟩:=List.mem_map.1 hq
        obtain ⟨y,hy,e,hne⟩:=(hmemr r).1 hr
        obtain ⟨a,b,c⟩:=hL.row y hy (by show rep C k y≠[];rw [e];exact hne)
        rw [show (lv C k).row.getD y []=r from e] at a b c
        have hfr:=fun i (hi:i<k)=>Gen.fix h1 h2 (fun s hs=>(hL.gens s hs).1) (i:=i) (by omega) (fun s hs=>(hL.gens s hs).2 i hi) b
        refine ⟨a.comp hp,fun i hi=>?_,?_⟩
        · rw [pt_comp a i (by omega),hfr i hi,hfx i hi]
        · rw [l1k]
          exact .mul (hgm b) (List.mem_append_right _ (List.mem_singleton.2 rfl))
      obtain ⟨c,d⟩:=fold_ok f ihP hk _ C1 wf1 cc1 hf1 hel
      rw [List.foldl_map] at c d
      rw [← hC1]
      generalize ((lv C k).row.filter fun r=>!(r == [])).foldl (fun C r=>add f false C k (compI r p)) C1=C' at c d ⊢
      have ext2:=ext1.trans c.ext
      have hbase:rep C k k=idL n:=hL.base
      have hidne:idL n≠[]:=pn_ne (PN.one h1 h2)
      refine ⟨c.wf,ext2,fun j hj hjn=>?_,?_,fun j hj=>?_⟩
      · by_cases e:j=k
        · subst e
          intro y hy hr s hs
          rw [c.gens,l1k] at hs
          by_cases cr:rep C j y=[]
          · exact c.nc y hy (by rw [r1];exact cr) hr s (by rw [l1k];exact hs)
          · have er:=ext2.row j y cr
            rw [er]
            rcases List.mem_append.1 hs with q | q
            · exact (hcc j (Nat.le_refl _) hjn y hy cr s q).mono ext2 hkC
            · rw [List.mem_singleton.1 q]
              exact d _ (List.mem_map.2 ⟨rep C j y,(hmemr _).2 ⟨y,hy,rfl,cr⟩,rfl⟩)
        · exact c.cc j (by omega) hjn
      · have:=d (compI (idL n) p) (List.mem_map.2 ⟨idL n,(hmemr _).2 ⟨k,hk,hbase,hidne⟩,rfl⟩)
        rw [id_comp hp] at this
        exact this.ps (by rw [c.wf.len];exact hk)
      · rw [c.low j hj,l1,if_neg (by omega)]
    · rw [add]
      have hlen:=hw.len
      have hkC:k<C.length:=by omega
      have hL:=hw.lv k hk
      have hpy:=(hel.pn.get hk).2
      have hpne:=pn_ne hel.pn
      by_cases cr:rep C k (pt p k)=[]
      · rw [if_pos cr]
        obtain ⟨C1,hC1⟩:∃ C1,C1=C.set k ⟨(lv C k).gens,(lv C k).row.set (pt p k) p⟩:=⟨_,rfl⟩
        have l1:∀ j,lv C1 j=if j=k then ⟨(lv C k).gens,(lv C k).row.set (pt p k) p⟩ else lv C j:=fun j=>by rw [hC1];exact lv_set _ hkC j
        have l1k:lv C1 k=⟨(lv C k).gens,(lv C k).row.set (pt p k) p⟩:=by rw [l1,if_pos rfl]
        have len1:C1.length=C.length:=by rw [hC1,List.length_set]
        have rk:∀ y,rep C1 k y=if y=pt p k then p else rep C k y:=fun y=>by
          unfold rep
          rw [l1k]
          by_cases c:y=pt p k
          · rw [if_pos c,c,getD_set_same _ _ _ _ (by rw [hL.len];exact hpy)]
          · rw [if_neg c,getD_set_ne _ _ _ _ _ (Ne.symm c)]
        have ro:∀ j y,j≠k→rep C1 j y=rep C j y:=fun j y c=>by unfold rep;rw [l1,if_neg c]
        have ext1:Ext C C1:=⟨len1,fun j s hs=>by
          rw [l1]
          by_cases c:j=k
          · subst c;rw [if_pos rfl];exact hs
          · rw [if_neg c];exact hs,fun j y hy=>by
          by_cases c:j=k
          · subst c
            rw [rk,if_neg (fun e=>hy (by rw [e];exact cr))]
          · exact ro j y c⟩
        have wf1:WF n C1:=by
          refine ⟨by omega,fun j hj=>?_,fun j hj s hs=>?_⟩
          · rw [l1]
            by_cases c:j=k
            · subst c
              rw [if_pos rfl]
              refine ⟨hL.gens,by simp only [List.length_set];exact hL.len,?_,fun y hy hr=>?_⟩
              · have:j≠pt p j:=fun e=>by
                  rw [← e] at cr
                  exact pn_ne (PN.one h1 h2) (hL.base.symm.trans cr)
                simp only
                rw [getD_set_ne _ _ _ _ _ (Ne.symm this)]
                exact hL.base
              · have hry:=rk y
                unfold rep at hry
                rw [l1k] at hry
                simp only at hry hr ⊢
                rw [hry] at hr ⊢
                by_cases c:y=pt p j
                · rw [if_pos c];exact ⟨hel.pn,hel.gen,c.symm⟩
                · rw [if_neg c] at hr ⊢
                  exact hL.row y hy hr
            · rw [if_neg c];exact hw.lv j hj
          · rw [l1] at hs
            rw [l1]
            have hg2:∀ i,(if i=k then (⟨(lv C k).gens,(lv C k).row.set (pt p k) p⟩:Lv) else lv C i).gens=(lv C i).gens:=fun i=>by
              by_cases c:i=k
              · subst c;rw [if_pos rfl]
              · rw [if_neg c]
            rw [hg2] at hs
            rw [hg2]
            exact hw.sub j hj s hs
        have cc1:CC n C1 (k+1):=CC_same hlen len1 (fun j hj=>by rw [l1,if_neg (by omega)]) hcc
        have hm1:mis C1 k+1=mis C k:=by
          unfold mis
          rw [l1k]
          exact mis_set p hpne _ _ (by rw [hL.len];exact hpy) cr
        have hel1:∀ q∈((lv C k).gens.map fun g=>compI p g),El n C1 k q:=fun q hq=>by
          obtain ⟨g,hg,rfl⟩:=List.mem_map.1 hq
          obtain ⟨a,b⟩:=hL.gens g hg
          refine ⟨hel.pn.comp a,fun i hi=>?_,?_⟩
          · rw [pt_comp hel.pn i (by omega),hel.fix i hi,b i hi]
          · rw [l1k];exact .mul hel.gen hg
        obtain ⟨c,d⟩:=fold_ok f ihP hk _ C1 wf1 cc1 (by unfold FP at *;omega) hel1
        rw [List.foldl_map] at c d
        rw [← hC1]
        generalize (lv C k).gens.foldl (fun C g=>add f false C k (compI p g)) C1=C' at c d ⊢
        have hr1:rep C1 k (pt p k)=p:=by rw [rk,if_pos rfl]
        have hr2:rep C' k (pt p k)=p:=by rw [c.ext.row k _ (by rw [hr1];exact hpne),hr1]
        refine ⟨⟨c.wf,ext1.trans c.ext,c.cc,by rw [c.gens,l1k],fun j hj=>by rw [c.low j hj,l1,if_neg (by omega)],fun y hy a b s hs=>?_⟩,?_,?_⟩
        · by_cases e:y=pt p k
          · rw [e,hr2]
            exact d _ (List.mem_map.2 ⟨s,hs,rfl⟩)
          · exact c.nc y hy (by rw [rk,if_neg e];exact a) b s (by rw [l1k];exact hs)
        · rw [hr2];exact hpne
        · rw [hr2,comp_inv hel.pn]
          -- the identity is in every chain
          have hid:∀ d j,j+d=n→psS C' j (idL n)=true:=by
            intro d
            induction d with
            | zero=>intro j hj;exact ps_end (by rw [c.wf.len];omega) _
            | succ d ih =>
              intro j hj
              have hjn:j<n:=by omega
              have hb:rep C' j j=idL n:=(c.wf.lv j hjn).base
              have hi:=PN.one h1 h2
              rw [ps_step (by rw [c.wf.len];exact hjn),pt_id hjn,hb,if_neg (pn_ne hi),comp_inv hi]
              exact ih (j+1) (by omega)
          exact hid (n - (k+1)) (k+1) (by omega)
      · rw [if_neg cr]
        obtain ⟨t1,t2,t3⟩:=hL.row (pt p k) hpy cr
        rw [show (lv C k).row.getD (pt p k) []=rep C k (pt p k) from rfl] at t1 t2 t3
        have hGp:∀ s∈(lv C k).gens,PN n s:=fun s hs=>(hL.gens s hs).1
        have hfr:=fun i (hi:i<k)=>Gen.fix h1 h2 hGp (i:=i) (by omega) (fun s hs=>(hL.gens s hs).2 i hi) t2
        have hq:=ihG C (k+1) (compI p (invI (rep C k (pt p k)))) hw (by omega) (hel.pn.comp t1.inv) (fun i hi=>by
          rw [pt_comp hel.pn i (by omega)]
          by_cases e:i=k
          · subst e
            have:=pt_inv t1 hk
            rw [t3] at this
            exact this
          · rw [hel.fix i (by omega)]
            have:=pt_inv t1 (show i<n by omega)
            rwa [hfr i (by omega)] at this) (fun j hj=>by
          have:j=k:=by omega
          subst this
          exact Gen.comp h1 h2 hGp hel.gen (Gen.inv h1 h2 hGp t2)) hcc (by unfold FP at hf;omega)
        have hlow:=hq.low k (by omega)
        generalize add f true C (k+1) (compI p (invI (rep C k (pt p k))))=C' at *
        have hrk:∀ y,rep C' k y=rep C k y:=fun y=>by
          show (lv C' k).row.getD y []=_
          rw [hlow];rfl
        refine ⟨⟨hq.wf,hq.ext,hq.cc,by rw [hlow],fun j hj=>hq.low j (by omega),fun y hy a b s hs=>?_⟩,?_,?_⟩
        · rw [hrk] at b;exact absurd a b
        · rw [hrk];exact cr
        · rw [hrk];exact hq.ps
end
end Sc
end Go.AM
namespace Go.AM
namespace Sc
open Ch (PN pt idL Gen Lv LvOk hasL headG good_has good_pn id_comp comp_assoc pt_comp pt_id pt_inv comp_inv inv_comp)
theorem good_of {n:Nat} {C:List Lv} (h1:1≤n) (h2:n≤20) {k0:Nat} (hw:WF n C) (hc:CC n C k0):∀ d k,k0≤k→k+d=n→Ch.Good n (C.drop k) k
  | 0,k,_,h=>by
    rw [List.drop_eq_nil_of_le (by rw [hw.len];omega)]
    exact (by omega:k=n)
  | d+1,k,hk0,h=>by
    have hk:k<n:=by omega
    have ih:=good_of h1 h2 hw hc d (k+1) (by omega) (by omega)
    have hL:=hw.lv k hk
    have hG:∀ s∈(lv C k).gens,PN n s:=fun s hs=>(hL.gens s hs).1
    rw [drop_lv (by rw [hw.len];exact hk)]
    have key:∀ y,y<n→(lv C k).row.getD y []≠[]→∀ s∈(lv C k).gens,(lv C k).row.getD (pt s y) []≠[]∧Gen n (headG (C.drop (k+1))) (compI (compI ((lv C k).row.getD y []) s) (invI ((lv C k).row.getD (pt s y) []))):=by
      intro y hy hr s hs
      obtain ⟨r1,r2,r3⟩:=hL.row y hy hr
      obtain ⟨s1,s2⟩:=hL.gens s hs
      obtain ⟨a,b⟩:=hc k hk0 hk y hy hr s hs
      have hpt:pt (compI (rep C k y) s) k=pt s y:=by
        rw [pt_comp (show PN n (rep C k y) from r1) k hk,show pt (rep C k y) k=y from r3]
      rw [hpt] at a b
      refine ⟨a,?_⟩
      have hsy:=(s1.get hy).2
      obtain ⟨t1,t2,t3⟩:=hL.row (pt s y) hsy a
      have hfr:=fun i (hi:i<k)=>Gen.fix h1 h2 hG (i:=i) (by omega) (fun s hs=>(hL.gens s hs).2 i hi) r2
      have hft:=fun i (hi:i<k)=>Gen.fix h1 h2 hG (i:=i) (by omega) (fun s hs=>(hL.gens s hs).2 i hi) t2
      refine (good_has h1 h2 (C.drop (k+1)) (k+1) ih _ ((r1.comp s1).comp t1.inv) fun i hi=>?_).1 b
      rw [pt_comp (r1.comp s1) i (by omega),pt_comp r1 i (by omega)]
      by_cases e:i=k
      · subst e
        rw [r3]
        have:=pt_inv t1 hk
        rw [t3] at this
        exact this
      · rw [hfr i (by omega),s2 i (by omega)]
        have:=pt_inv t1 (show i<n by omega)
        rwa [hft i (by omega)] at this
    refine ⟨hk,hL,fun y hy hr s hs=>(key y hy hr s hs).1,fun y hy hr s hs=>(key y hy hr s hs).2,fun s hs=>?_,ih⟩
    by_cases c:k+1<n
    · rw [drop_lv (by rw [hw.len];exact c)] at hs
      exact hw.sub k c s hs
    · rw [List.drop_eq_nil_of_le (by rw [hw.len];omega)] at hs
      cases hs
def emK (n k:Nat):List Lv:=(List.range k).map fun j=>⟨[],(List.replicate n []).set j (idL n)⟩
theorem emK_len (n k:Nat):(emK n k).length=k:=by simp [emK]
theorem emK_lv {n k j:Nat} (h:j<k):lv (emK n k) j=⟨[],(List.replicate n []).set j (idL n)⟩:=by
  unfold lv emK
  rw [range_map_get _ _ _ _ h]
theorem em_wf {n:Nat} (h1:1≤n) (h2:n≤20):WF n (emK n n)∧CC n (emK n n) 0:=by
  refine ⟨⟨emK_len n n,fun k hk=>?_,fun k hk s hs=>?_⟩,fun j _ hj y _ _ s hs=>?_⟩
  · rw [emK_lv hk]
    refine ⟨fun s hs=>absurd hs List.not_mem_nil,by simp,?_,fun y hy hr=>?_⟩
    · simp only
      rw [getD_set_same _ _ _ _ (by simp;exact hk)]
    · simp only at hr ⊢
      by_cases c:y=k
      · subst c
        rw [getD_set_same _ _ _ _ (by simp;exact hk)]
        exact ⟨PN.one h1 h2,.one,pt_id hy⟩
      · rw [getD_set_ne _ _ _ _ _ (Ne.symm c)] at hr
        exact absurd (by rw [getD_eq _ _ _ (by simpa using hy)];simp) hr
  · rw [emK_lv hk] at hs;cases hs
  · rw [emK_lv hj] at hs;cases hs
def bld (n F:Nat) (mv:List (List Int)):Nat→List Lv
  | 0=>emK n n
  | k+1=>add F true (bld n F mv k) 0 (mv.getD k default)
theorem bld_ok {n F:Nat} {mv:List (List Int)} (h1:1≤n) (h2:n≤20) (hm:∀ s∈mv,PN n s) (hF:FG n 0≤F):∀ k,k≤mv.length→WF n (bld n F mv k)∧CC n (bld n F mv k) 0∧∀ j,j<k→psS (bld n F mv k) 0 (mv.getD j default)=true
  | 0,_=>⟨(em_wf h1 h2).1,(em_wf h1 h2).2,fun j hj=>absurd hj (Nat.not_lt_zero _)⟩
  | k+1,hk=>by
    obtain ⟨a,b,c⟩:=bld_ok h1 h2 hm hF k (by omega)
    have hg:=(add_ok h1 h2 F).1 (bld n F mv k) 0 (mv.getD k default) a (Nat.zero_le _) (hm _ (mem_getD mv k default (by omega))) (fun i hi=>absurd hi (Nat.not_lt_zero _)) (fun j hj=>by omega) b hF
    refine ⟨hg.wf,hg.cc,fun j hj=>?_⟩
    rcases Nat.lt_or_ge j k with q | q
    · exact ps_up hg.ext (Nat.zero_le _) (c j q)
    · rw [show j=k by omega];exact hg.ps
theorem bld_has {n F:Nat} {mv:List (List Int)} (h1:1≤n) (h2:n≤20) (hm:∀ s∈mv,PN n s) (hF:FG n 0≤F) {s:List Int} (hs:Gen n mv s):psS (bld n F mv mv.length) 0 s=true:=by
  obtain ⟨a,b,c⟩:=bld_ok h1 h2 hm hF mv.length (Nat.le_refl _)
  have hG:=good_of h1 h2 a b n 0 (Nat.le_refl _) (by omega)
  have hg:=good_has h1 h2 _ 0 hG
  have hpn:=good_pn hG
  refine (hg s (hs.pn h1 h2 hm) (fun i hi=>absurd hi (Nat.not_lt_zero _))).2 ?_
  refine Gen.sub h1 h2 (fun t ht=>(hpn t ht).1) (fun t ht=>?_) hs
  obtain ⟨j,hj,rfl⟩:=List.getElem_of_mem ht
  refine (hg _ (hm _ ht) (fun i hi=>absurd hi (Nat.not_lt_zero _))).1 ?_
  have:=c j hj
  rwa [getD_eq _ _ _ hj] at this
end Sc
end Go.AM
set_option maxRecDepth 8000
namespace Go.AM
namespace Sw
open Go.Proofs
open Ch (PN pt idL Gen Lv LvOk pt_comp)
open Sc (lv rep psS ps_step ps_end WF El Hd add add_ok FG FP mis)
def MM:FuncId→List Bool:=fun f=>if f=239 then [true,false,false] else if f=241 then [true,false,false] else if f=259 then [true,false,false] else []
abbrev rowA (L:Lv):AV:=.tr 1 (L.row.map nlv)
abbrev genA (L:Lv):AV:=.tr 1 (L.gens.map isl)
abbrev scA (n:Nat) (C:List Lv):AV:=.pt 3 (.agg [.i64 n,.tr 1 (C.map rowA),.tr 1 (C.map genA)])
def sif (C:List Lv):Nat→Nat→List Int→List Int×Nat
  | 0,k,p=>(p,k)
  | d+1,k,p=>if rep C k (pt p k)=[] then (p,k) else sif C d (k+1) (compI p (invI (rep C k (pt p k))))
theorem sif_ps {C:List Lv}:∀ d k p,k+d=C.length→(psS C k p=true↔(sif C d k p).2=C.length)∧(sif C d k p).2≤C.length
  | 0,k,p,h=>⟨⟨fun _=>h,fun _=>ps_end (by omega) p⟩,by show k≤_;omega⟩
  | d+1,k,p,h=>by
    rw [ps_step (by omega),sif]
    split
    · refine ⟨⟨fun q=>(by cases q),fun q=>?_⟩,by show k≤_;omega⟩
      have:k=C.length:=q
      omega
    · exact sif_ps d (k+1) _ (by omega)
theorem pn_ne {n:Nat} {p:List Int} (h:PN n p):p≠[]:=Sc.pn_ne h
theorem siftS (n:Nat) (h2:n≤20) (C:List Lv) (hw:WF n C) (k:Nat) (p:List Int) (hk:k≤n) (hp:PN n p) :
    SpecX Try.prog 239 [scA n C,.i64 k,isl p] [some (scA n C)] (.tup [isl (sif C (n - k) k p).1,.i64 ((sif C (n - k) k p).2:Nat)]):=by
  have hlen:=hw.len
  have ee:∀ X:List Int,AV.fzL (X.map AV.i64)=X.map AV.i64:=fun X=>by rw [fzL_map,ints_fz]
  refine spec_of_awp_any (M:=MM) (np:=3) (X:=[8]) (fz:=false) mixed Try.func239 rfl rfl (by decide) rfl (Nat.le_refl _) (by decide +kernel) (.inl rfl) (by simp only [sigsOk_some,sigsOk_nil,and_true]) ?_
  simp -dsimp -implicitDefEqProofs (disch:=first | omega | (simp only [lenr];try omega)) only [↓amPre,amAll,↓reduceIte,reduceCtorEq,Nat.reduceEqDiff,Nat.reduceBEq,Nat.reduceAdd,Nat.reduceLeDiff,Nat.reduceSub,Nat.reduceMul,Int.reduceToNat,List.size_toArray,tyF,MM,bu0,cbU49]
  refine awp_loop (fun j st=>j≤(n - k)∧st.fr 8=.i64 (k+j:Nat)∧st.fr 0=.loc 0 [] 0 0∧st.mem 0=some (scA n C)∧(∃ q,PN n q∧st.fr 2=isl q∧sif C (n - k) k p=sif C (n - (k+j)) (k+j) q)) ((n - k)) ?_ ?_
  · simp -dsimp -implicitDefEqProofs (disch:=first | omega | (simp only [lenr];try omega)) only [↓amPre,amAll,↓reduceIte,reduceCtorEq,Nat.reduceEqDiff,Nat.reduceBEq,Nat.reduceAdd,Nat.reduceLeDiff,Nat.reduceSub,Nat.reduceMul,Int.reduceToNat,List.size_toArray,tyF,MM,bu0,cbU49]
    exact ⟨Nat.zero_le _,p,hp,rfl,rfl⟩
  rintro j st _ ⟨hj,f8,f0,m0,ej⟩
  obtain ⟨q,hq,f2,hs⟩:=ej
  have hql:=hq.1
  by_cases hlt:k+j<n
  · have hlt':((k+j:Nat):Int)<(n:Int):=by omega
    have hL:=hw.lv (k+j) hlt
    have hpt:=hq.get hlt
    have hgr:(C.map rowA).getD (k+j) .any=.tr 1 ((lv C (k+j)).row.map nlv):=by rw [getD_eq _ _ _ (by rw [List.length_map];omega),List.getElem_map,lv,getD_eq C _ _ (by omega)]
    have hCl:(C.map rowA).length=n:=by rw [List.length_map];exact hlen
    have hge:((lv C (k+j)).row.map nlv).getD (pt q (k+j)) .any=nlv (rep C (k+j) (pt q (k+j))):=by
      have hy:=hpt.2
      rw [getD_eq _ (pt q (k+j)) AV.any (by rw [List.length_map,hL.len];exact hy),List.getElem_map,rep,getD_eq (lv C (k+j)).row (pt q (k+j)) [] (by rw [hL.len];exact hy)]
    have hrl:=hL.len
    have hsd:sif C (n - (k+j)) (k+j) q=if rep C (k+j) (pt q (k+j))=[] then (q,k+j) else sif C (n - (k+(j+1))) (k+(j+1)) (compI q (invI (rep C (k+j) (pt q (k+j))))):=by
      rw [show n - (k+j)=(n - (k+(j+1)))+1 by omega,sif];rfl
    have hrow:=hL.row (pt q (k+j)) hpt.2
    rw [show (lv C (k+j)).row.getD (pt q (k+j)) []=rep C (k+j) (pt q (k+j)) from rfl] at hrow
    have hptI:=hpt.1
    have hptL:=hpt.2
    generalize rep C (k+j) (pt q (k+j))=r at *
    generalize pt q (k+j)=y at *
    generalize (lv C (k+j)).row=R at *
    by_cases hr:r=[]
    · rw [if_pos hr] at hsd
      rw [hs,hsd]
      rw [hr,nlv_nil] at hge
      simp -dsimp -implicitDefEqProofs (disch:=first | omega | (simp only [lenr];try omega)) only [↓amPre,amAll,↓reduceIte,reduceCtorEq,Nat.reduceEqDiff,Nat.reduceBEq,Nat.reduceAdd,Nat.reduceLeDiff,Nat.reduceSub,Nat.reduceMul,Int.reduceToNat,List.size_toArray,tyF,MM,bu0,cbU49,f8,f0,m0,f2,lt_true hlt',hgr,hCl,hge,hptI]
    · rw [if_neg hr] at hsd
      rw [nlv_ne hr] at hge
      obtain ⟨t1,_,_⟩:=hrow hr
      have qi:=sinverse r t1.2
      rw [ivL_invI] at qi
      have qc:=scompose q (invI r) (by omega) (fun x hx=>by have:=hq.2.2.1 x hx;have:=t1.inv.1;omega)
      rw [cp_comp] at qc
      have hnx:=hq.comp t1.inv
      have hrn:¬ (r.length:Int)=0:=by have:=t1.1;omega
      simp -dsimp -implicitDefEqProofs (disch:=first | omega | (simp only [lenr];try omega)) only [↓amPre,amAll,↓reduceIte,reduceCtorEq,Nat.reduceEqDiff,Nat.reduceBEq,Nat.reduceAdd,Nat.reduceLeDiff,Nat.reduceSub,Nat.reduceMul,Int.reduceToNat,List.size_toArray,tyF,MM,bu0,cbU49,f8,f0,m0,f2,lt_true hlt',hgr,hCl,hge,hptI,hrn]
      refine callP_frz qi ?_
      simp -dsimp -implicitDefEqProofs (disch:=first | omega | (simp only [lenr];try omega)) only [↓amPre,amAll,↓reduceIte,reduceCtorEq,Nat.reduceEqDiff,Nat.reduceBEq,Nat.reduceAdd,Nat.reduceLeDiff,Nat.reduceSub,Nat.reduceMul,Int.reduceToNat,List.size_toArray,tyF,MM,bu0,cbU49,f8,f0,m0,f2,ee]
      refine callP_frz qc ?_
      simp -dsimp -implicitDefEqProofs (disch:=first | omega | (simp only [lenr];try omega)) only [↓amPre,amAll,↓reduceIte,reduceCtorEq,Nat.reduceEqDiff,Nat.reduceBEq,Nat.reduceAdd,Nat.reduceLeDiff,Nat.reduceSub,Nat.reduceMul,Int.reduceToNat,List.size_toArray,tyF,MM,bu0,cbU49,f8,f0,m0,f2,ee]
      exact ⟨by omega,by omega,i64c (by omega),_,hnx,rfl,hs.trans hsd⟩
  · have hje:k+j=n:=by omega
    have hlt':¬ ((k+j:Nat):Int)<(n:Int):=by omega
    have hsd:sif C (n - (k+j)) (k+j) q=(q,k+j):=by rw [show n - (k+j)=0 by omega,sif]
    rw [hs,hsd]
    simp -dsimp -implicitDefEqProofs (disch:=first | omega | (simp only [lenr];try omega)) only [↓amPre,amAll,↓reduceIte,reduceCtorEq,Nat.reduceEqDiff,Nat.reduceBEq,Nat.reduceAdd,Nat.reduceLeDiff,Nat.reduceSub,Nat.reduceMul,Int.reduceToNat,List.size_toArray,tyF,MM,bu0,cbU49,f8,f0,m0,f2,lt_false (Int.not_lt.1 hlt')]
    refine split_go 6 (by decide +kernel) ?_
    simp -dsimp -implicitDefEqProofs (disch:=first | omega | (simp only [lenr];try omega)) only [↓amPre,amAll,↓reduceIte,reduceCtorEq,Nat.reduceEqDiff,Nat.reduceBEq,Nat.reduceAdd,Nat.reduceLeDiff,Nat.reduceSub,Nat.reduceMul,Int.reduceToNat,List.size_toArray,tyF,MM,bu0,cbU49,f8,f0,m0,f2]
    rw [hje]
theorem scA_set {n:Nat} {C:List Lv} {k:Nat} (L:Lv):scA n (C.set k L)=.pt 3 (.agg [.i64 n,.tr 1 ((C.map rowA).set k (rowA L)),.tr 1 ((C.map genA).set k (genA L))]):=by
  rw [← List.map_set,← List.map_set]
theorem row_at {n:Nat} {C:List Lv} (hw:WF n C) {k:Nat} (hk:k<n):(C.map rowA).getD k .any=.tr 1 ((lv C k).row.map nlv)∧(C.map rowA).length=n∧(C.map genA).getD k .any=.tr 1 ((lv C k).gens.map isl)∧(C.map genA).length=n:=by
  have hlen:=hw.len
  refine ⟨?_,by rw [List.length_map];exact hlen,?_,by rw [List.length_map];exact hlen⟩
  · rw [getD_eq _ _ _ (by rw [List.length_map];omega),List.getElem_map,lv,getD_eq C _ _ (by omega)]
  · rw [getD_eq _ _ _ (by rw [List.length_map];omega),List.getElem_map,lv,getD_eq C _ _ (by omega)]
theorem ent_at {n:Nat} {C:List Lv} (hw:WF n C) {k:Nat} (hk:k<n) {y:Nat} (hy:y<n):((lv C k).row.map nlv).getD y .any=nlv (rep C k y):=by
  have hL:=hw.lv k hk
  rw [getD_eq _ y AV.any (by rw [List.length_map,hL.len];exact hy),List.getElem_map,rep,getD_eq (lv C k).row y [] (by rw [hL.len];exact hy)]
theorem nlv_set {p:List Int} (hp:p≠[]) (R:List (List Int)) (y:Nat):(R.map nlv).set y (isl p)=(R.set y p).map nlv:=by rw [List.map_set,nlv_ne hp]
end Sw
end Go.AM
namespace Go.AM
namespace Sc
open Ch (PN pt idL Gen Lv LvOk hasL headG good_has id_comp comp_assoc pt_comp pt_id pt_inv comp_inv inv_comp)
section
variable {n:Nat}
theorem gen_start (h1:1≤n) (h2:n≤20) {f:Nat} {C:List Lv} {k:Nat} {p:List Int} (hw:WF n C) (ck:¬ C.length≤k) (hp:PN n p) (hfx:∀ i,i<k→pt p i=i) (hgn:∀ j,k=j+1→Gen n (lv C j).gens p) (hcc:CC n C k) (hf:FG n k≤f+1) :
    WF n (C.set k ⟨(lv C k).gens++[p],(lv C k).row⟩)∧CC n (C.set k ⟨(lv C k).gens++[p],(lv C k).row⟩) (k+1)∧FP n k (mis (C.set k ⟨(lv C k).gens++[p],(lv C k).row⟩) k)≤f ∧
    (∀ q∈(((lv C k).row.filter fun r=>!(r == [])).map fun r=>compI r p),El n (C.set k ⟨(lv C k).gens++[p],(lv C k).row⟩) k q)∧∀ r∈(lv C k).row.filter fun r=>!(r == []),PN n r:=by
  have hlen:=hw.len
  have hk:k<n:=by omega
  have hkC:k<C.length:=by omega
  have hL:=hw.lv k hk
  -- the chain with the new generator
  obtain ⟨C1,hC1⟩:∃ C1,C1=C.set k ⟨(lv C k).gens++[p],(lv C k).row⟩:=⟨_,rfl⟩
  have l1:∀ j,lv C1 j=if j=k then ⟨(lv C k).gens++[p],(lv C k).row⟩ else lv C j:=fun j=>by rw [hC1];exact lv_set _ hkC j
  have l1k:lv C1 k=⟨(lv C k).gens++[p],(lv C k).row⟩:=by rw [l1,if_pos rfl]
  have len1:C1.length=C.length:=by rw [hC1,List.length_set]
  have r1:∀ j y,rep C1 j y=rep C j y:=fun j y=>by
    unfold rep
    rw [l1]
    by_cases c:j=k
    · subst c;rw [if_pos rfl]
    · rw [if_neg c]
  have hgm:∀ {g},Gen n (lv C k).gens g→Gen n ((lv C k).gens++[p]) g:=fun h=>h.mono fun s hs=>List.mem_append_left _ hs
  have hG1:∀ s∈(lv C k).gens++[p],PN n s∧∀ i,i<k→pt s i=i:=fun s hs=>by
    rcases List.mem_append.1 hs with q | q
    · exact hL.gens s q
    · rw [List.mem_singleton.1 q];exact ⟨hp,hfx⟩
  have ext1:Ext C C1:=⟨len1,fun j s hs=>by
    rw [l1]
    by_cases c:j=k
    · subst c;rw [if_pos rfl];exact List.mem_append_left _ hs
    · rw [if_neg c];exact hs,fun j y _=>r1 j y⟩
  have wf1:WF n C1:=by
    refine ⟨by omega,fun j hj=>?_,fun j hj s hs=>?_⟩
    · rw [l1]
      by_cases c:j=k
      · subst c
        rw [if_pos rfl]
        exact ⟨hG1,hL.len,hL.base,fun y hy hr=>by obtain ⟨a,b,c⟩:=hL.row y hy hr;exact ⟨a,hgm b,c⟩⟩
      · rw [if_neg c];exact hw.lv j hj
    · rw [l1] at hs
      rw [l1]
      by_cases c:j=k
      · subst c
        rw [if_pos rfl]
        rw [if_neg (by omega)] at hs
        exact hgm (hw.sub j hj s hs)
      · rw [if_neg c]
        by_cases c2:j+1=k
        · rw [if_pos c2] at hs
          rcases List.mem_append.1 hs with q | q
          · exact hw.sub j hj s (by rw [c2];exact q)
          · rw [List.mem_singleton.1 q];exact hgn j c2.symm
        · rw [if_neg c2] at hs;exact hw.sub j hj s hs
  have cc1:CC n C1 (k+1):=CC_same hlen len1 (fun j hj=>by rw [l1,if_neg (by omega)]) (fun j a b=>hcc j (by omega) b)
  have hm1:mis C1 k≤n:=mis_n wf1 hk
  have hf1:FP n k (mis C1 k)≤f:=by have:=FG_FP hk hm1;omega
  have hmemr:∀ r,r∈((lv C k).row.filter fun r=>!(r == []))↔∃ y,y<n∧rep C k y=r∧r≠[]:=fun r=>by
    rw [List.mem_filter]
    constructor
    · rintro ⟨a,b⟩
      obtain ⟨y,hy,e⟩:=List.getElem_of_mem a
      refine ⟨y,by rw [← hL.len];exact hy,?_,by simpa using b⟩
      unfold rep
      rw [getD_eq _ _ _ hy,e]
    · rintro ⟨y,hy,e,hne⟩
      refine ⟨?_,by simpa using hne⟩
      rw [← e]
      exact mem_getD _ y [] (by rw [hL.len];exact hy)
  have hel:∀ q∈(((lv C k).row.filter fun r=>!(r == [])).map fun r=>compI r p),El n C1 k q:=fun q hq=>by
    obtain ⟨r,hr,rfl⟩:=List.mem_map.1 hq
    obtain ⟨y,hy,e,hne⟩:=(hmemr r).1 hr
    obtain ⟨a,b,c⟩:=hL.row y hy (by show rep C k y≠[];rw [e];exact hne)
    rw [show (lv C k).row.getD y []=r from e] at a b c
    have hfr:=fun i (hi:i<k)=>Gen.fix h1 h2 (fun s hs=>(hL.gens s hs).1) (i:=i) (by omega) (fun s hs=>(hL.gens s hs).2 i hi) b
    refine ⟨a.comp hp,fun i hi=>?_,?_⟩
    · rw [pt_comp a i (by omega),hfr i hi,hfx i hi]
    · rw [l1k]
      exact .mul (hgm b) (List.mem_append_right _ (List.mem_singleton.2 rfl))
  rw [← hC1]
  refine ⟨wf1,cc1,hf1,hel,fun r hr=>?_⟩
  obtain ⟨y,hy,e,hne⟩:=(hmemr r).1 hr
  have:=(hL.row y hy (by show rep C k y≠[];rw [e];exact hne)).1
  rw [show (lv C k).row.getD y []=r from e] at this
  exact this
theorem prod_start (h1:1≤n) (h2:n≤20) {f:Nat} {C:List Lv} {k:Nat} {p:List Int} (hw:WF n C) (hk:k<n) (hel:El n C k p) (hcc:CC n C (k+1)) (hf:FP n k (mis C k)≤f+1) (cr:rep C k (pt p k)=[]) :
    WF n (C.set k ⟨(lv C k).gens,(lv C k).row.set (pt p k) p⟩)∧CC n (C.set k ⟨(lv C k).gens,(lv C k).row.set (pt p k) p⟩) (k+1)∧FP n k (mis (C.set k ⟨(lv C k).gens,(lv C k).row.set (pt p k) p⟩) k)≤f ∧
    (∀ q∈((lv C k).gens.map fun g=>compI p g),El n (C.set k ⟨(lv C k).gens,(lv C k).row.set (pt p k) p⟩) k q):=by
  have hlen:=hw.len
  have hkC:k<C.length:=by omega
  have hL:=hw.lv k hk
  have hpy:=(hel.pn.get hk).2
  have hpne:=pn_ne hel.pn
  obtain ⟨C1,hC1⟩:∃ C1,C1=C.set k ⟨(lv C k).gens,(lv C k).row.set (pt p k) p⟩:=⟨_,rfl⟩
  have l1:∀ j,lv C1 j=if j=k then ⟨(lv C k).gens,(lv C k).row.set (pt p k) p⟩ else lv C j:=fun j=>by rw [hC1];exact lv_set _ hkC j
  have l1k:lv C1 k=⟨(lv C k).gens,(lv C k).row.set (pt p k) p⟩:=by rw [l1,if_pos rfl]
  have len1:C1.length=C.length:=by rw [hC1,List.length_set]
  have rk:∀ y,rep C1 k y=if y=pt p k then p else rep C k y:=fun y=>by
    unfold rep
    rw [l1k]
    by_cases c:y=pt p k
    · rw [if_pos c,c,getD_set_same _ _ _ _ (by rw [hL.len];exact hpy)]
    · rw [if_neg c,getD_set_ne _ _ _ _ _ (Ne.symm c)]
  have ro:∀ j y,j≠k→rep C1 j y=rep C j y:=fun j y c=>by unfold rep;rw [l1,if_neg c]
  have ext1:Ext C C1:=⟨len1,fun j s hs=>by
    rw [l1]
    by_cases c:j=k
    · subst c;rw [if_pos rfl];exact hs
    · rw [if_neg c];exact hs,fun j y hy=>by
    by_cases c:j=k
    · subst c
      rw [rk,if_neg (fun e=>hy (by rw [e];exact cr))]
    · exact ro j y c⟩
  have wf1:WF n C1:=by
    refine ⟨by omega,fun j hj=>?_,fun j hj s hs=>?_⟩
    · rw [l1]
      by_cases c:j=k
      · subst c
        rw [if_pos rfl]
        refine ⟨hL.gens,by simp only [List.length_set];exact hL.len,?_,fun y hy hr=>?_⟩
        · have:j≠pt p j:=fun e=>by
            rw [← e] at cr
            exact pn_ne (PN.one h1 h2) (hL.base.symm.trans cr)
          simp only
          rw [getD_set_ne _ _ _ _ _ (Ne.symm this)]
          exact hL.base
        · have hry:=rk y
          unfold rep at hry
          rw [l1k] at hry
          simp only at hry hr ⊢
          rw [hry] at hr ⊢
          by_cases c:y=pt p j
          · rw [if_pos c];exact ⟨hel.pn,hel.gen,c.symm⟩
          · rw [if_neg c] at hr ⊢
            exact hL.row y hy hr
      · rw [if_neg c];exact hw.lv j hj
    · rw [l1] at hs
      rw [l1]
      have hg2:∀ i,(if i=k then (⟨(lv C k).gens,(lv C k).row.set (pt p k) p⟩:Lv) else lv C i).gens=(lv C i).gens:=fun i=>by
        by_cases c:i=k
        · subst c;rw [if_pos rfl]
        · rw [if_neg c]
      rw [hg2] at hs
      rw [hg2]
      exact hw.sub j hj s hs
  have cc1:CC n C1 (k+1):=CC_same hlen len1 (fun j hj=>by rw [l1,if_neg (by omega)]) hcc
  have hm1:mis C1 k+1=mis C k:=by
    unfold mis
    rw [l1k]
    exact mis_set p hpne _ _ (by rw [hL.len];exact hpy) cr
  have hel1:∀ q∈((lv C k).gens.map fun g=>compI p g),El n C1 k q:=fun q hq=>by
    obtain ⟨g,hg,rfl⟩:=List.mem_map.1 hq
    obtain ⟨a,b⟩:=hL.gens g hg
    refine ⟨hel.pn.comp a,fun i hi=>?_,?_⟩
    · rw [pt_comp hel.pn i (by omega),hel.fix i hi,b i hi]
    · rw [l1k];exact .mul hel.gen hg
  rw [← hC1]
  exact ⟨wf1,cc1,by unfold FP at *;omega,hel1⟩
end
end Sc
end Go.AM
namespace Go.AM
namespace Ch
/-! the order's size -/
theorem fil_ge {n l:Nat} (h1:1≤n) (h2:n≤20) {L:Lv} (hl:l<n) (h:LvOk n l L):∀ p∈filL L.row,l≤p:=fun p hp=>by
  obtain ⟨q1,q2⟩:=mem_filL.1 hp
  rw [h.len] at q1
  obtain ⟨t1,t2,t3⟩:=h.row p q1 q2
  rcases Nat.lt_or_ge p l with q | q
  · have:=Gen.fix h1 h2 (fun s hs=>(h.gens s hs).1) q1 (fun s hs=>(h.gens s hs).2 p q) t2
    have:=t1.inj q1 hl (by rw [this,t3])
    omega
  · exact q
theorem fil_cnt {n l:Nat} (h1:1≤n) (h2:n≤20) {L:Lv} (hl:l<n) (h:LvOk n l L):1≤(filL L.row).length∧(filL L.row).length≤n - l:=by
  constructor
  · have:l∈filL L.row:=mem_filL.2 ⟨by rw [h.len];exact hl,by
      rw [h.base];intro e
      have:=congrArg List.length e
      rw [runI_len] at this;simp at this;omega⟩
    exact List.length_pos_iff.2 fun e=>by rw [e] at this;cases this
  · have:=len_le_of_sub (filL L.row) ((List.range (n - l)).map (· + l)) (filL_nodup _) fun p hp=>by
      have a:=fil_ge h1 h2 hl h p hp
      have b:=(mem_filL.1 hp).1
      rw [h.len] at b
      exact List.mem_map.2 ⟨p - l,List.mem_range.2 (by omega),by omega⟩
    simpa using this
def facN:Nat→Nat
  | 0=>1
  | n+1=>(n+1)*facN n
theorem ord_fac {n:Nat} (h1:1≤n) (h2:n≤20):∀ (C:List Lv) (l:Nat),Good n C l→1≤ordL C∧ordL C≤facN (n - l)
  | [],l,h=>⟨Nat.le_refl _,by rw [ordL,show n - l=0 by have:l=n:=h;omega];exact Nat.le_refl _⟩
  | L :: C,l,h=>by
    obtain ⟨a,b⟩:=ord_fac h1 h2 C (l+1) h.2.2.2.2.2
    obtain ⟨c,d⟩:=fil_cnt h1 h2 h.1 h.2.1
    obtain ⟨m,hm⟩:∃ m,n - l=m+1:=⟨n - l - 1,by have:=h.1;omega⟩
    rw [ordL,hm,facN]
    rw [hm] at d
    rw [show n - (l+1)=m by omega] at b
    exact ⟨Nat.mul_le_mul c a,Nat.mul_le_mul d b⟩
def prdK (C:List Lv):Nat→Nat
  | 0=>1
  | k+1=>prdK C k*(filL (C.getD k ⟨[],[]⟩).row).length
end Ch
end Go.AM
namespace Go.AM
namespace Bf
open Ch (PN pt idL Gen newL ordL elsL newL_els)
/-! breadth-first search over the states of a puzzle,plainly -/
structure Ex where
  S:List (List Int)
  D:List Nat
  Pa:List Nat
  J:List Nat
abbrev nbr (mv:List (List Int)) (e:Ex) (k:Nat) (l:Int):List Int:=compI (e.S.getD k default) (letP mv l)
def stp (mv:List (List Int)) (A:List Int) (k:Nat) (e:Ex) (j:Nat):Ex :=
  if nbr mv e k (A.getD j 0)∈e.S then e else ⟨e.S++[nbr mv e k (A.getD j 0)],e.D++[e.D.getD k 0+1],e.Pa++[k],e.J++[j]⟩
def inn (mv:List (List Int)) (A:List Int) (k:Nat) (e:Ex):Nat→Ex
  | 0=>e
  | j+1=>stp mv A k (inn mv A k e j) j
abbrev ex0 (n:Nat):Ex:=⟨[idL n],[0],[0],[0]⟩
def out (mv:List (List Int)) (A:List Int) (n:Nat):Nat→Ex
  | 0=>ex0 n
  | k+1=>if k<(out mv A n k).S.length then inn mv A k (out mv A n k) A.length else out mv A n k
section
variable {n:Nat} {mv:List (List Int)}
theorem let_ok (h1:1≤n) (h2:n≤20) (hm:∀ s∈mv,PN n s) {l:Int} (hl:l∈letL mv.length):PN n (letP mv l)∧Gen n mv (letP mv l):=by
  obtain ⟨a,b,c⟩:=letL_mem.1 hl
  unfold letP
  by_cases h:0<l
  · rw [if_pos h]
    have:=mem_getD mv (l - 1).toNat default (by omega)
    exact ⟨hm _ this,Gen.of hm this⟩
  · rw [if_neg h]
    have:=mem_getD mv (-l - 1).toNat default (by omega)
    exact ⟨(hm _ this).inv,Gen.inv h1 h2 hm (Gen.of hm this)⟩
theorem nbr_ok (h1:1≤n) (h2:n≤20) (hm:∀ s∈mv,PN n s) {s:List Int} (hs:PN n s∧Gen n mv s) {l:Int} (hl:l∈letL mv.length):PN n (compI s (letP mv l))∧Gen n mv (compI s (letP mv l)):=by
  obtain ⟨a,b⟩:=let_ok h1 h2 hm hl
  exact ⟨hs.1.comp a,Gen.comp h1 h2 hm hs.2 b⟩
theorem sub_ord (h1:1≤n) (h2:n≤20) (hm:∀ s∈mv,PN n s) {T:List (List Int)} (hd:T.Nodup) (h:∀ s∈T,Gen n mv s):T.length≤ordL (newL n mv):=by
  obtain ⟨a,b,c⟩:=newL_els h1 h2 mv hm
  rw [← b]
  exact len_le_of_sub T _ hd fun x hx=>(c x).2 (h x hx)
structure Ok (n:Nat) (mv:List (List Int)) (e:Ex):Prop where
  nd:e.S.Nodup
  el:∀ s∈e.S,PN n s∧Gen n mv s
  lD:e.D.length=e.S.length
  lP:e.Pa.length=e.S.length
  lJ:e.J.length=e.S.length
  z:0<e.S.length∧e.S.getD 0 default=idL n
def Grw (e f:Ex):Prop:=∃ a b c d,f.S=e.S++a∧f.D=e.D++b∧f.Pa=e.Pa++c∧f.J=e.J++d
theorem Grw.refl (e:Ex):Grw e e:=⟨[],[],[],[],by simp⟩
theorem Grw.trans {e f g:Ex} (h:Grw e f) (k:Grw f g):Grw e g:=by
  obtain ⟨a,b,c,d,h1,h2,h3,h4⟩:=h
  obtain ⟨a',b',c',d',k1,k2,k3,k4⟩:=k
  exact ⟨a++a',b++b',c++c',d++d',by rw [k1,h1,List.append_assoc],by rw [k2,h2,List.append_assoc],by rw [k3,h3,List.append_assoc],by rw [k4,h4,List.append_assoc]⟩
theorem Grw.sub {e f:Ex} (h:Grw e f) {s:List Int} (hs:s∈e.S):s∈f.S:=by
  obtain ⟨a,b,c,d,h1,_⟩:=h
  rw [h1];exact List.mem_append_left _ hs
theorem Grw.len {e f:Ex} (h:Grw e f):e.S.length≤f.S.length:=by
  obtain ⟨a,b,c,d,h1,_⟩:=h
  rw [h1,List.length_append];omega
theorem Grw.get {e f:Ex} (h:Grw e f) {i:Nat} (hi:i<e.S.length):f.S.getD i default=e.S.getD i default:=by
  obtain ⟨a,b,c,d,h1,_⟩:=h
  rw [h1,getD_app_l _ _ _ _ hi]
def stpF (mv:List (List Int)) (A:List Int) (k:Nat) (s:Ex×Bool) (j:Nat):Ex×Bool :=
  if s.2=true then s else if nbr mv s.1 k (A.getD j 0)∈s.1.S then s else if s.1.S.length=3000 then (s.1,true) else (stp mv A k s.1 j,false)
def innF (mv:List (List Int)) (A:List Int) (k:Nat) (s:Ex×Bool):Nat→Ex×Bool
  | 0=>s
  | j+1=>stpF mv A k (innF mv A k s j) j
def outF (mv:List (List Int)) (A:List Int) (n:Nat):Nat→Ex×Bool
  | 0=>(ex0 n,false)
  | k+1=>if k<(outF mv A n k).1.S.length then innF mv A k (outF mv A n k) A.length else outF mv A n k
end
end Bf
end Go.AM
namespace Go.AM
namespace Sc
open Ch (PN pt idL Gen Lv LvOk hasL headG good_has id_comp comp_assoc pt_comp pt_id pt_inv comp_inv inv_comp elsL ordL newL newL_els facN)
section
variable {n:Nat}
theorem ord_double (h1:1≤n) (h2:n≤20) {S:List (List Int)} (hS:∀ s∈S,PN n s) {p:List Int} (hp:PN n p) (hno:¬ Gen n S p):2*ordL (newL n S)≤ordL (newL n (S++[p])):=by
  obtain ⟨e1,e2,e3⟩:=newL_els h1 h2 S hS
  have hS2:∀ s∈S++[p],PN n s:=fun s hs=>by
    rcases List.mem_append.1 hs with q | q
    · exact hS s q
    · rw [List.mem_singleton.1 q];exact hp
  have hpn:∀ g∈elsL n (newL n S),PN n g:=fun g hg=>((e3 g).1 hg).pn h1 h2 hS
  have hcan:∀ a b,PN n a→PN n b→compI a p=compI b p→a=b:=fun a b ha hb e=>by
    have:compI (compI a p) (invI p)=compI (compI b p) (invI p):=by rw [e]
    rwa [comp_assoc ha hp hp.inv,comp_assoc hb hp hp.inv,comp_inv hp,Ch.comp_id ha,Ch.comp_id hb] at this
  have hnd:(elsL n (newL n S)++(elsL n (newL n S)).map fun g=>compI g p).Nodup:=by
    refine List.nodup_append.2 ⟨e1,List.pairwise_map.2 (e1.imp_of_mem fun ha hb hne e=>hne (hcan _ _ (hpn _ ha) (hpn _ hb) e)),fun a ha b hb e=>hno ?_⟩
    obtain ⟨g,hg,rfl⟩:=List.mem_map.1 hb
    have g1:=(e3 g).1 hg
    have a1:=(e3 a).1 ha
    have:p=compI (invI g) a:=by
      rw [e,← comp_assoc (hpn g hg).inv (hpn g hg) hp,inv_comp (hpn g hg),id_comp hp]
    rw [this]
    exact Gen.comp h1 h2 hS (Gen.inv h1 h2 hS g1) a1
  have hmem:∀ s∈elsL n (newL n S)++(elsL n (newL n S)).map fun g=>compI g p,Gen n (S++[p]) s:=fun s hs=>by
    rcases List.mem_append.1 hs with q | q
    · exact ((e3 s).1 q).mono fun t ht=>List.mem_append_left _ ht
    · obtain ⟨g,hg,rfl⟩:=List.mem_map.1 q
      exact .mul (((e3 g).1 hg).mono fun t ht=>List.mem_append_left _ ht) (List.mem_append_right _ (List.mem_singleton.2 rfl))
  have:=Bf.sub_ord h1 h2 hS2 hnd hmem
  rw [List.length_append,List.length_map,e2] at this
  omega
def Ln (n:Nat) (C:List Lv):Prop:=∀ k,k<n→2 ^ (lv C k).gens.length≤ordL (newL n (lv C k).gens)
theorem Ln.le (h1:1≤n) (h2:n≤20) {C:List Lv} (hw:WF n C) (h:Ln n C) {k:Nat} (hk:k<n):(lv C k).gens.length≤61:=by
  have hG:∀ s∈(lv C k).gens,PN n s:=fun s hs=>((hw.lv k hk).gens s hs).1
  have h3:=h k hk
  have h4:=(Ch.ord_fac h1 h2 _ 0 (Ch.newL_ok h1 h2 _ hG).1).2
  have hf:∀ m,m≤20→facN m≤2432902008176640000:=by decide
  have h5:=hf n h2
  rw [Nat.sub_zero] at h4
  by_cases c:(lv C k).gens.length≤61
  · exact c
  · have:2 ^ 62≤2 ^ (lv C k).gens.length:=Nat.pow_le_pow_right (by decide) (by omega)
    have e:(2:Nat) ^ 62=4611686018427387904:=by decide
    omega
theorem Ln.set {C:List Lv} {k:Nat} {L:Lv} (hk:k<C.length) (h:Ln n C) (hL:k<n→2 ^ L.gens.length≤ordL (newL n L.gens)):Ln n (C.set k L):=by
  intro j hj
  rw [lv_set L hk]
  by_cases c:j=k
  · rw [if_pos c];exact hL (by omega)
  · rw [if_neg c];exact h j hj
theorem fold_ln (h1:1≤n) (h2:n≤20) (f:Nat) (ihL:∀ C k p,WF n C→k<n→El n C k p→CC n C (k+1)→FP n k (mis C k)≤f→Ln n C→Ln n (add f false C k p)) {k:Nat} (hk:k<n) :
    ∀ (qs:List (List Int)) (C:List Lv),WF n C→CC n C (k+1)→FP n k (mis C k)≤f→(∀ q∈qs,El n C k q)→Ln n C→Ln n (qs.foldl (fun C q=>add f false C k q) C)
  | [],_,_,_,_,_,h=>h
  | q :: qs,C,hw,hc,hf,hq,h=>by
    obtain ⟨a,b⟩:=(add_ok h1 h2 f).2 C k q hw hk (hq q (List.mem_cons_self ..)) hc hf
    have hm:=mis_mono hw a.wf a.ext hk
    rw [List.foldl_cons]
    exact fold_ln h1 h2 f ihL hk qs (add f false C k q) a.wf a.cc (by unfold FP at *;omega) (fun r hr=>by
      have:=hq r (List.mem_cons_of_mem _ hr)
      exact ⟨this.pn,this.fix,by rw [a.gens];exact this.gen⟩) (ihL C k q hw hk (hq q (List.mem_cons_self ..)) hc hf h)
theorem add_ln (h1:1≤n) (h2:n≤20):∀ f,(∀ C k p,WF n C→k≤n→PN n p→(∀ i,i<k→pt p i=i)→(∀ j,k=j+1→Gen n (lv C j).gens p)→CC n C k→FG n k≤f→Ln n C→Ln n (add f true C k p)) ∧
    (∀ C k p,WF n C→k<n→El n C k p→CC n C (k+1)→FP n k (mis C k)≤f→Ln n C→Ln n (add f false C k p))
  | 0=>⟨fun C k p _ _ _ _ _ _ hf=>absurd hf (by unfold FG;omega),fun C k p _ _ _ _ hf=>absurd hf (by unfold FP;omega)⟩
  | f+1=>by
    obtain ⟨ihG,ihP⟩:=add_ln h1 h2 f
    refine ⟨fun C k p hw hkn hp hfx hgn hcc hf hl=>?_,fun C k p hw hk hel hcc hf hl=>?_⟩
    · rw [add]
      have hlen:=hw.len
      by_cases ck:C.length≤k
      · rw [if_pos ck];exact hl
      rw [if_neg ck]
      by_cases cp:psS C k p=true
      · rw [if_pos cp];exact hl
      rw [if_neg cp]
      have hk:k<n:=by omega
      obtain ⟨a,b,c,d,_⟩:=gen_start h1 h2 hw ck hp hfx hgn hcc hf
      have hgd:=good_of h1 h2 hw hcc (n - k) k (Nat.le_refl _) (by omega)
      have hno:¬ Gen n (lv C k).gens p:=fun q=>by
        have:=(good_has h1 h2 _ k hgd p hp hfx).2 (by rw [drop_lv (by omega)];exact q)
        exact cp this
      have hG:∀ s∈(lv C k).gens,PN n s:=fun s hs=>((hw.lv k hk).gens s hs).1
      have hdb:=ord_double h1 h2 hG hp hno
      have:=fold_ln h1 h2 f ihP hk _ _ a b c d (hl.set (by omega) fun _=>by
        simp only [List.length_append,List.length_singleton]
        rw [Nat.pow_succ]
        have:=hl k hk
        omega)
      rw [List.foldl_map] at this
      exact this
    · rw [add]
      by_cases cr:rep C k (pt p k)=[]
      · rw [if_pos cr]
        obtain ⟨a,b,c,d⟩:=prod_start h1 h2 hw hk hel hcc hf cr
        have:=fold_ln h1 h2 f ihP hk _ _ a b c d (hl.set (by rw [hw.len];exact hk) fun _=>hl k hk)
        rw [List.foldl_map] at this
        exact this
      · rw [if_neg cr]
        have hL:=hw.lv k hk
        obtain ⟨t1,t2,t3⟩:=hL.row (pt p k) (hel.pn.get hk).2 cr
        rw [show (lv C k).row.getD (pt p k) []=rep C k (pt p k) from rfl] at t1 t2 t3
        have hGp:∀ s∈(lv C k).gens,PN n s:=fun s hs=>(hL.gens s hs).1
        have hfr:=fun i (hi:i<k)=>Gen.fix h1 h2 hGp (i:=i) (by omega) (fun s hs=>(hL.gens s hs).2 i hi) t2
        exact ihG C (k+1) (compI p (invI (rep C k (pt p k)))) hw (by omega) (hel.pn.comp t1.inv) (fun i hi=>by
          rw [pt_comp hel.pn i (by omega)]
          by_cases e:i=k
          · subst e
            have:=pt_inv t1 hk
            rw [t3] at this
            exact this
          · rw [hel.fix i (by omega)]
            have:=pt_inv t1 (show i<n by omega)
            rwa [hfr i (by omega)] at this) (fun j hj=>by
          have:j=k:=by omega
          subst this
          exact Gen.comp h1 h2 hGp hel.gen (Gen.inv h1 h2 hGp t2)) hcc (by unfold FP at hf;omega) hl
theorem em_ln (h1:1≤n) (h2:n≤20):Ln n (emK n n):=by
  intro k hk
  rw [emK_lv hk]
  have hG:∀ s∈([]:List (List Int)),PN n s:=fun s hs=>absurd hs List.not_mem_nil
  exact (Ch.ord_fac h1 h2 _ 0 (Ch.newL_ok h1 h2 _ hG).1).1
theorem bld_ln {F:Nat} {mv:List (List Int)} (h1:1≤n) (h2:n≤20) (hm:∀ s∈mv,PN n s) (hF:FG n 0≤F):∀ k,k≤mv.length→Ln n (bld n F mv k)
  | 0,_=>em_ln h1 h2
  | k+1,hk=>by
    obtain ⟨a,b,c⟩:=bld_ok h1 h2 hm hF k (by omega)
    exact (add_ln h1 h2 F).1 (bld n F mv k) 0 (mv.getD k default) a (Nat.zero_le _) (hm _ (mem_getD mv k default (by omega))) (fun i hi=>absurd hi (Nat.not_lt_zero _)) (fun j hj=>by omega) b hF (bld_ln h1 h2 hm hF k (by omega))
end
end Sc
end Go.AM
set_option maxRecDepth 8000
namespace Go.AM
namespace Sw
open Go.Proofs
open Ch (PN pt idL Gen Lv LvOk pt_comp)
open Sc (lv rep psS ps_step ps_end WF El Hd PP add add_ok fold_ok FG FP mis gen_start prod_start Ln fold_ln add_ln)
theorem scA_row {n:Nat} {C:List Lv} {k y:Nat} {p:List Int} (hw:WF n C) (hk:k<n) (hp:p≠[]):scA n (C.set k ⟨(lv C k).gens,(lv C k).row.set y p⟩)=.pt 3 (.agg [.i64 n,.tr 1 ((C.map rowA).set k (.tr 1 (((lv C k).row.map nlv).set y (isl p)))),.tr 1 (C.map genA)]):=by
  have hlen:=hw.len
  have e:(C.map genA).set k (genA ⟨(lv C k).gens,(lv C k).row.set y p⟩)=C.map genA:=by
    refine List.ext_getElem (by simp) fun i h1 h2=>?_
    rw [List.getElem_set]
    split
    · rename_i c
      subst c
      rw [List.getElem_map,lv,getD_eq C _ _ (by omega)]
    · rfl
  rw [scA_set,e,nlv_set hp]
theorem fold_at {f k:Nat} {C1:List Lv} (qs:List (List Int)) (i:Nat) (hi:i<qs.length):(qs.take (i+1)).foldl (fun C q=>add f false C k q) C1=add f false ((qs.take i).foldl (fun C q=>add f false C k q) C1) k (qs.getD i default):=by
  rw [List.take_succ_eq_append_getElem hi,List.foldl_append,getD_eq qs i default hi]
  rfl
theorem prodW (n:Nat) (h1:1≤n) (h2:n≤20) (f:Nat)
    (ihG:∀ C k p,WF n C→k≤n→PN n p→(∀ i,i<k→pt p i=i)→(∀ j,k=j+1→Gen n (lv C j).gens p)→Sc.CC n C k→FG n k≤f→Ln n C→SpecX Try.prog 241 [scA n C,.i64 k,isl p] [some (scA n (add f true C k p))] (.tup []))
    (ihP:∀ C k p,WF n C→k<n→El n C k p→Sc.CC n C (k+1)→FP n k (mis C k)≤f→Ln n C→SpecX Try.prog 259 [scA n C,.i64 k,isl p] [some (scA n (add f false C k p))] (.tup []))
    (C:List Lv) (k:Nat) (p:List Int) (hw:WF n C) (hk:k<n) (hel:El n C k p) (hcc:Sc.CC n C (k+1)) (hf:FP n k (mis C k)≤f+1) (hln:Ln n C) :
    SpecX Try.prog 259 [scA n C,.i64 k,isl p] [some (scA n (add (f+1) false C k p))] (.tup []):=by
  have ee:∀ X:List Int,AV.fzL (X.map AV.i64)=X.map AV.i64:=fun X=>by rw [fzL_map,ints_fz]
  have hlen:=hw.len
  have hL:=hw.lv k hk
  have hpl:=hel.pn.1
  have hpk:=hel.pn.get hk
  obtain ⟨hgr,hCl,hgg,hGl⟩:=row_at hw hk
  have hge:=ent_at hw hk hpk.2
  have hrow:=hL.row (pt p k) hpk.2
  rw [show (lv C k).row.getD (pt p k) []=rep C k (pt p k) from rfl] at hrow
  have hptI:=hpk.1
  have hptL:=hpk.2
  have hrl:=hL.len
  by_cases cr:rep C k (pt p k)=[]
  · have hps:=prod_start h1 h2 hw hk hel hcc hf cr
    obtain ⟨wf1,cc1,hf1,hel1⟩:=hps
    have hl1:Ln n (C.set k ⟨(lv C k).gens,(lv C k).row.set (pt p k) p⟩):=hln.set (by omega) fun _=>hln k hk
    have hGb:=hln.le h1 h2 hw hk
    have hadd:add (f+1) false C k p=((lv C k).gens.map fun g=>compI p g).foldl (fun C q=>add f false C k q) (C.set k ⟨(lv C k).gens,(lv C k).row.set (pt p k) p⟩):=by
      rw [add,if_pos cr,List.foldl_map]
    rw [hadd]
    have hsr:=scA_row (y:=pt p k) hw hk (pn_ne hel.pn)
    have hg1:(lv (C.set k ⟨(lv C k).gens,(lv C k).row.set (pt p k) p⟩) k).gens=(lv C k).gens:=by rw [Sc.lv_set _ (by omega),if_pos rfl]
    rw [cr,nlv_nil] at hge
    have hGp:∀ g∈(lv C k).gens,PN n g:=fun g hg=>(hL.gens g hg).1
    generalize hC1:C.set k ⟨(lv C k).gens,(lv C k).row.set (pt p k) p⟩=C1 at *
    generalize hG:(lv C k).gens=G at *
    generalize hR:(lv C k).row=R at *
    generalize hy:pt p k=y at *
    refine spec_of_awp (M:=MM) (np:=3) (fz:=false) mixed Try.func259 rfl rfl (by decide) rfl (Nat.le_refl _) (by decide +kernel) (.inl rfl) (by simp only [sigsOk_some,sigsOk_nil,and_true];rfl) ?_
    simp -dsimp -implicitDefEqProofs (disch:=first | omega | (simp only [lenr];try omega)) only [↓amPre,amAll,↓reduceIte,reduceCtorEq,Nat.reduceEqDiff,Nat.reduceBEq,Nat.reduceAdd,Nat.reduceLeDiff,Nat.reduceSub,Nat.reduceMul,Int.reduceToNat,List.size_toArray,tyF,MM,bu0,cbU49,hgr,hCl,hge,hptI,hrl]
    refine awp_loop (fun i st=>i≤G.length∧st.fr 7=.i64 i∧st.fr 0=.loc 0 [] 0 0∧st.fr 1=.i64 k∧st.fr 2=isl p∧st.mem 0=some (scA n (((G.map fun g=>compI p g).take i).foldl (fun C q=>add f false C k q) C1))) (G.length) ?_ ?_
    · simp -dsimp -implicitDefEqProofs (disch:=first | omega | (simp only [lenr];try omega)) only [↓amPre,amAll,↓reduceIte,reduceCtorEq,Nat.reduceEqDiff,Nat.reduceBEq,Nat.reduceAdd,Nat.reduceLeDiff,Nat.reduceSub,Nat.reduceMul,Int.reduceToNat,List.size_toArray,tyF,MM,bu0,cbU49,hgr,hCl,hge,hptI,hrl]
      rw [List.foldl_nil,hsr]
      exact ⟨Nat.zero_le _,rfl,rfl⟩
    rintro i st _ ⟨hi,f7,f0,f1,f2,m0⟩
    have hpp:=fold_ok f (fun C k p a b c d e=>(add_ok h1 h2 f).2 C k p a b c d e) hk ((G.map fun g=>compI p g).take i) C1 wf1 cc1 hf1 (fun q hq=>hel1 q (List.mem_of_mem_take hq))
    obtain ⟨pp,_⟩:=hpp
    have hlD:=fold_ln h1 h2 f (add_ln h1 h2 f).2 hk ((G.map fun g=>compI p g).take i) C1 wf1 cc1 hf1 (fun q hq=>hel1 q (List.mem_of_mem_take hq)) hl1
    have hm:=Sc.mis_mono wf1 pp.wf pp.ext hk
    obtain ⟨_,_,hgg2,hGl2⟩:=row_at pp.wf hk
    rw [pp.gens,hg1] at hgg2
    by_cases hlt:i<G.length
    · have hlt':(i:Int)<(G.length:Int):=by omega
      have hfa:=fold_at (f:=f) (k:=k) (C1:=C1) (G.map fun g=>compI p g) i (by rw [List.length_map];exact hlt)
      rw [show (G.map fun g=>compI p g).getD i default=compI p (G.getD i default) by rw [getD_eq _ _ _ (by rw [List.length_map];exact hlt),List.getElem_map,getD_eq G _ _ hlt]] at hfa
      have hgi:=hGp _ (mem_getD G i default hlt)
      have hel2:=hel1 (compI p (G.getD i default)) (List.mem_map.2 ⟨_,mem_getD G i default hlt,rfl⟩)
      have hg3:(G.map isl).getD i .any=isl (G.getD i default):=by rw [getD_eq _ _ _ (by rw [List.length_map];exact hlt),List.getElem_map,getD_eq G _ _ hlt]
      have hGml:(G.map isl).length=G.length:=by simp
      rw [hfa]
      generalize ((G.map fun g=>compI p g).take i).foldl (fun C q=>add f false C k q) C1=D at *
      have qx:=ihP D k (compI p (G.getD i default)) pp.wf hk ⟨hel2.pn,hel2.fix,by rw [pp.gens];exact hel2.gen⟩ pp.cc (by unfold FP at *;omega) hlD
      have qc:=scompose p (G.getD i default) (by omega) (fun x hx=>by have:=hel.pn.2.2.1 x hx;have:=hgi.1;omega)
      rw [cp_comp] at qc
      simp -dsimp -implicitDefEqProofs (disch:=first | omega | (simp only [lenr];try omega)) only [↓amPre,amAll,↓reduceIte,reduceCtorEq,Nat.reduceEqDiff,Nat.reduceBEq,Nat.reduceAdd,Nat.reduceLeDiff,Nat.reduceSub,Nat.reduceMul,Int.reduceToNat,List.size_toArray,tyF,MM,bu0,cbU49,f7,f0,f1,f2,m0,hgg2,hGl2,hGml,lt_true hlt',hg3]
      refine callP_frz qc ?_
      simp -dsimp -implicitDefEqProofs (disch:=first | omega | (simp only [lenr];try omega)) only [↓amPre,amAll,↓reduceIte,reduceCtorEq,Nat.reduceEqDiff,Nat.reduceBEq,Nat.reduceAdd,Nat.reduceLeDiff,Nat.reduceSub,Nat.reduceMul,Int.reduceToNat,List.size_toArray,tyF,MM,bu0,cbU49,f7,f0,f1,f2,m0,ee]
      refine callX_of (qx) ?_
      simp -dsimp -implicitDefEqProofs (disch:=first | omega | (simp only [lenr];try omega)) only [↓amPre,amAll,↓reduceIte,reduceCtorEq,Nat.reduceEqDiff,Nat.reduceBEq,Nat.reduceAdd,Nat.reduceLeDiff,Nat.reduceSub,Nat.reduceMul,Int.reduceToNat,List.size_toArray,tyF,MM,bu0,cbU49,f7,f0,f1,f2,m0]
      trace_state
      exact ⟨hlt,by omega⟩
    · have hie:i=G.length:=by omega
      have c1':¬ (i:Int)<(G.length:Int):=by omega
      have hGml:(G.map isl).length=G.length:=by simp
      rw [show (G.map fun g=>compI p g).take i=G.map fun g=>compI p g from List.take_of_length_le (by rw [List.length_map];omega)] at m0 hgg2 hGl2
      simp -dsimp -implicitDefEqProofs (disch:=first | omega | (simp only [lenr];try omega)) only [↓amPre,amAll,↓reduceIte,reduceCtorEq,Nat.reduceEqDiff,Nat.reduceBEq,Nat.reduceAdd,Nat.reduceLeDiff,Nat.reduceSub,Nat.reduceMul,Int.reduceToNat,List.size_toArray,tyF,MM,bu0,cbU49,f7,f0,f1,f2,m0,hgg2,hGl2,hGml,lt_false (Int.not_lt.1 c1')]
  · obtain ⟨t1,t2,t3⟩:=hrow cr
    have hadd:add (f+1) false C k p=add f true C (k+1) (compI p (invI (rep C k (pt p k)))):=by rw [add,if_neg cr]
    rw [hadd]
    have hGp:∀ s∈(lv C k).gens,PN n s:=fun s hs=>(hL.gens s hs).1
    have hfr:=fun i (hi:i<k)=>Gen.fix h1 h2 hGp (i:=i) (by omega) (fun s hs=>(hL.gens s hs).2 i hi) t2
    have qx:=ihG C (k+1) (compI p (invI (rep C k (pt p k)))) hw (by omega) (hel.pn.comp t1.inv) (fun i hi=>by
      rw [pt_comp hel.pn i (by omega)]
      by_cases e:i=k
      · subst e
        have:=Ch.pt_inv t1 hk
        rw [t3] at this
        exact this
      · rw [hel.fix i (by omega)]
        have:=Ch.pt_inv t1 (show i<n by omega)
        rwa [hfr i (by omega)] at this) (fun j hj=>by
      have:j=k:=by omega
      subst this
      exact Gen.comp h1 h2 hGp hel.gen (Gen.inv h1 h2 hGp t2)) hcc (by unfold FP at hf;omega) hln
    rw [nlv_ne cr] at hge
    have qi:=sinverse (rep C k (pt p k)) t1.2
    rw [ivL_invI] at qi
    have qc:=scompose p (invI (rep C k (pt p k))) (by omega) (fun x hx=>by have:=hel.pn.2.2.1 x hx;have:=t1.inv.1;omega)
    rw [cp_comp] at qc
    have hrp:(0:Int)<((rep C k (pt p k)).length:Int):=by have:=t1.1;omega
    generalize rep C k (pt p k)=r at *
    generalize (lv C k).row=R at *
    generalize pt p k=y at *
    refine spec_of_awp (M:=MM) (np:=3) (fz:=false) mixed Try.func259 rfl rfl (by decide) rfl (Nat.le_refl _) (by decide +kernel) (.inl rfl) (by simp only [sigsOk_some,sigsOk_nil,and_true];rfl) ?_
    simp -dsimp -implicitDefEqProofs (disch:=first | omega | (simp only [lenr];try omega)) only [↓amPre,amAll,↓reduceIte,reduceCtorEq,Nat.reduceEqDiff,Nat.reduceBEq,Nat.reduceAdd,Nat.reduceLeDiff,Nat.reduceSub,Nat.reduceMul,Int.reduceToNat,List.size_toArray,tyF,MM,bu0,cbU49,hgr,hCl,hge,hptI,hrl,lt_true hrp]
    refine callP_frz qi ?_
    simp -dsimp -implicitDefEqProofs (disch:=first | omega | (simp only [lenr];try omega)) only [↓amPre,amAll,↓reduceIte,reduceCtorEq,Nat.reduceEqDiff,Nat.reduceBEq,Nat.reduceAdd,Nat.reduceLeDiff,Nat.reduceSub,Nat.reduceMul,Int.reduceToNat,List.size_toArray,tyF,MM,bu0,cbU49,ee]
    refine callP_frz qc ?_
    simp -dsimp -implicitDefEqProofs (disch:=first | omega | (simp only [lenr];try omega)) only [↓amPre,amAll,↓reduceIte,reduceCtorEq,Nat.reduceEqDiff,Nat.reduceBEq,Nat.reduceAdd,Nat.reduceLeDiff,Nat.reduceSub,Nat.reduceMul,Int.reduceToNat,List.size_toArray,tyF,MM,bu0,cbU49,ee]
    refine callX_of (qx) ?_
    simp -dsimp -implicitDefEqProofs (disch:=first | omega | (simp only [lenr];try omega)) only [↓amPre,amAll,↓reduceIte,reduceCtorEq,Nat.reduceEqDiff,Nat.reduceBEq,Nat.reduceAdd,Nat.reduceLeDiff,Nat.reduceSub,Nat.reduceMul,Int.reduceToNat,List.size_toArray,tyF,MM,bu0,cbU49]
end Sw
end Go.AM
set_option maxRecDepth 8000
namespace Go.AM
namespace Sw
open Go.Proofs
open Ch (PN pt idL Gen Lv LvOk pt_comp)
open Sc (lv rep psS ps_step ps_end WF El Hd PP add add_ok fold_ok FG FP mis gen_start prod_start Ln fold_ln add_ln)
theorem scA_gen {n:Nat} {C:List Lv} {k:Nat} {p:List Int} (hw:WF n C) (hk:k<n):scA n (C.set k ⟨(lv C k).gens++[p],(lv C k).row⟩)=.pt 3 (.agg [.i64 n,.tr 1 (C.map rowA),.tr 1 ((C.map genA).set k (.tr 1 (((lv C k).gens++[p]).map isl)))]):=by
  have hlen:=hw.len
  have e:(C.map rowA).set k (rowA ⟨(lv C k).gens++[p],(lv C k).row⟩)=C.map rowA:=by
    refine List.ext_getElem (by simp) fun i h1 h2=>?_
    rw [List.getElem_set]
    split
    · rename_i c
      subst c
      rw [List.getElem_map,lv,getD_eq C _ _ (by omega)]
    · rfl
  rw [scA_set,e]
def kn (R:List (List Int)) (j:Nat):List (List Int):=(R.take j).filter fun r=>!(r == [])
theorem kn_succ {R:List (List Int)} {j:Nat} (h:j<R.length):kn R (j+1)=if R.getD j []=[] then kn R j else kn R j++[R.getD j []]:=by
  unfold kn
  rw [List.take_succ_eq_append_getElem h,List.filter_append,getD_eq R j [] h]
  by_cases c:R[j]=[]
  · rw [if_pos c,c];simp
  · rw [if_neg c]
    have:(!(R[j] == []))=true:=by simpa using c
    rw [List.filter_cons,this];rfl
theorem kn_len (R:List (List Int)) (j:Nat):(kn R j).length≤R.length:=by
  unfold kn
  have:=List.length_filter_le (fun r=>!(r == [])) (R.take j)
  rw [List.length_take] at this
  omega
set_option maxHeartbeats 2000000 in
theorem genW (n:Nat) (h1:1≤n) (h2:n≤20) (f:Nat)
    (ihP:∀ C k p,WF n C→k<n→El n C k p→Sc.CC n C (k+1)→FP n k (mis C k)≤f→Ln n C→SpecX Try.prog 259 [scA n C,.i64 k,isl p] [some (scA n (add f false C k p))] (.tup []))
    (C:List Lv) (k:Nat) (p:List Int) (hw:WF n C) (hkn:k≤n) (hp:PN n p) (hfx:∀ i,i<k→pt p i=i) (hgn:∀ j,k=j+1→Gen n (lv C j).gens p) (hcc:Sc.CC n C k) (hf:FG n k≤f+1) (hln:Ln n C) :
    SpecX Try.prog 241 [scA n C,.i64 k,isl p] [some (scA n (add (f+1) true C k p))] (.tup []):=by
  have ee:∀ X:List Int,AV.fzL (X.map AV.i64)=X.map AV.i64:=fun X=>by rw [fzL_map,ints_fz]
  have hlen:=hw.len
  have hpl:=hp.1
  by_cases ck:C.length≤k
  · have hadd:add (f+1) true C k p=C:=by rw [add,if_pos ck]
    rw [hadd]
    have hge:(n:Int)≤(k:Int):=by omega
    refine spec_of_awp_any (M:=MM) (np:=3) (X:=[3]) (fz:=false) mixed Try.func241 rfl rfl (by decide) rfl (Nat.le_refl _) (by decide +kernel) (.inl rfl) (by simp only [sigsOk_some,sigsOk_nil,and_true]) ?_
    simp -dsimp -implicitDefEqProofs (disch:=first | omega | (simp only [lenr];try omega)) only [↓amPre,amAll,↓reduceIte,reduceCtorEq,Nat.reduceEqDiff,Nat.reduceBEq,Nat.reduceAdd,Nat.reduceLeDiff,Nat.reduceSub,Nat.reduceMul,Int.reduceToNat,List.size_toArray,tyF,MM,bu0,cbU49,hge]
  have hk:k<n:=by omega
  have hge:¬ (n:Int)≤(k:Int):=by omega
  have qs:=siftS n h2 C hw k p hkn hp
  obtain ⟨hs1,hs2⟩:=sif_ps (C:=C) (n - k) k p (by omega)
  rw [hlen] at hs1 hs2
  by_cases cp:psS C k p=true
  · have hadd:add (f+1) true C k p=C:=by rw [add,if_neg ck,if_pos cp]
    rw [hadd]
    have hl:=hs1.1 cp
    have hl':(((sif C (n - k) k p).2:Nat):Int)=(n:Int):=by omega
    refine spec_of_awp_any (M:=MM) (np:=3) (X:=[3]) (fz:=false) mixed Try.func241 rfl rfl (by decide) rfl (Nat.le_refl _) (by decide +kernel) (.inl rfl) (by simp only [sigsOk_some,sigsOk_nil,and_true]) ?_
    simp -dsimp -implicitDefEqProofs (disch:=first | omega | (simp only [lenr];try omega)) only [↓amPre,amAll,↓reduceIte,reduceCtorEq,Nat.reduceEqDiff,Nat.reduceBEq,Nat.reduceAdd,Nat.reduceLeDiff,Nat.reduceSub,Nat.reduceMul,Int.reduceToNat,List.size_toArray,tyF,MM,bu0,cbU49,le_false (Int.not_le.1 hge)]
    refine callX_of (qs) ?_
    simp -dsimp -implicitDefEqProofs (disch:=first | omega | (simp only [lenr];try omega)) only [↓amPre,amAll,↓reduceIte,reduceCtorEq,Nat.reduceEqDiff,Nat.reduceBEq,Nat.reduceAdd,Nat.reduceLeDiff,Nat.reduceSub,Nat.reduceMul,Int.reduceToNat,List.size_toArray,tyF,MM,bu0,cbU49,hl']
  have hl:¬ (((sif C (n - k) k p).2:Nat):Int)=(n:Int):=fun q=>cp (hs1.2 (by omega))
  obtain ⟨wf1,cc1,hf1,hel1,hrp⟩:=gen_start h1 h2 hw ck hp hfx hgn hcc hf
  have hl1:Ln n (C.set k ⟨(lv C k).gens++[p],(lv C k).row⟩):=by
    have:=(add_ln h1 h2 (f+1)).1 C k p hw hkn hp hfx hgn hcc hf hln
    refine hln.set (by omega) fun _=>?_
    have hgd:=Sc.good_of h1 h2 hw hcc (n - k) k (Nat.le_refl _) (by omega)
    have hno:¬ Gen n (lv C k).gens p:=fun q=>by
      have:=(Ch.good_has h1 h2 _ k hgd p hp hfx).2 (by rw [Sc.drop_lv (by omega)];exact q)
      exact cp this
    have hdb:=Sc.ord_double h1 h2 (fun s hs=>((hw.lv k hk).gens s hs).1) hp hno
    simp only [List.length_append,List.length_singleton]
    rw [Nat.pow_succ]
    have:=hln k hk
    omega
  have hadd:add (f+1) true C k p=(((lv C k).row.filter fun r=>!(r == [])).map fun r=>compI r p).foldl (fun C q=>add f false C k q) (C.set k ⟨(lv C k).gens++[p],(lv C k).row⟩):=by
    rw [add,if_neg ck,if_neg cp,List.foldl_map]
  rw [hadd]
  have hsg:=scA_gen (p:=p) hw hk
  have hL:=hw.lv k hk
  have hRl:=hL.len
  obtain ⟨hgr,hCl,hgg,hGl⟩:=row_at hw hk
  obtain ⟨hgr1,hCl1,_,_⟩:=row_at wf1 hk
  have hG1:=hln.le h1 h2 hw hk
  have hrow1:(lv (C.set k ⟨(lv C k).gens++[p],(lv C k).row⟩) k).row=(lv C k).row:=by rw [Sc.lv_set _ (by omega),if_pos rfl]
  rw [hrow1] at hgr1
  have hkl:=kn_len (lv C k).row
  have hks:=fun j hj=>kn_succ (R:=(lv C k).row) (j:=j) hj
  have hkn2:(lv C k).row.filter (fun r=>!(r == []))=kn (lv C k).row n:=by
    unfold kn
    rw [List.take_of_length_le (by omega)]
  rw [hkn2] at hel1 hrp ⊢
  generalize hC1:C.set k ⟨(lv C k).gens++[p],(lv C k).row⟩=C1 at *
  generalize hG:(lv C k).gens=G at *
  generalize hR:(lv C k).row=R at *
  have hGml:(G.map isl).length=G.length:=by simp
  refine spec_of_awp_any (M:=MM) (np:=3) (X:=[3]) (fz:=false) mixed Try.func241 rfl rfl (by decide) rfl (Nat.le_refl _) (by decide +kernel) (.inl rfl) (by simp only [sigsOk_some,sigsOk_nil,and_true];rfl) ?_
  simp -dsimp -implicitDefEqProofs (disch:=first | omega | (simp only [lenr];try omega)) only [↓amPre,amAll,↓reduceIte,reduceCtorEq,Nat.reduceEqDiff,Nat.reduceBEq,Nat.reduceAdd,Nat.reduceLeDiff,Nat.reduceSub,Nat.reduceMul,Int.reduceToNat,List.size_toArray,tyF,MM,bu0,cbU49,le_false (Int.not_le.1 hge)]
  refine callX_of (qs) ?_
  simp -dsimp -implicitDefEqProofs (disch:=first | omega | (simp only [lenr];try omega)) only [↓amPre,amAll,↓reduceIte,reduceCtorEq,Nat.reduceEqDiff,Nat.reduceBEq,Nat.reduceAdd,Nat.reduceLeDiff,Nat.reduceSub,Nat.reduceMul,Int.reduceToNat,List.size_toArray,tyF,MM,bu0,cbU49,hl]
  refine lat_go [[],[0],[0,1],[0,1,2],[],[],[5],[5,6],[5,6,7],[],[5,6,7,8,9],[5,6,7,8,9,10],[],[12],[5,6,7,8,9,10,11,12,13],[0,1,2,3,4,5,6,7,8,9,10,11,12,13,14],[0,1,2,3,4,5,6,7,8,9,10,11,12,13,14,15]] [[1,2,3,15,16],[2,3,15,16],[3,15,16],[15,16],[15,16],[6,7,8,10,11,14,15,16],[7,8,10,11,14,15,16],[8,10,11,14,15,16],[10,11,14,15,16],[10,11,14,15,16],[11,14,15,16],[14,15,16],[13,14,15,16],[14,15,16],[15,16],[16],[]] [0,1,2,3,4,5,6,7,8,9,10,11,12,13,14,15,16] (fun c st=>st.fr 0=.loc 0 [] 0 0∧st.fr 1=.i64 k∧st.fr 2=isl p∧(c 0=true→st.fr 30=.loc 0 [] 0 0)∧(c 1=true→st.fr 31=.loc 0 [] 0 0)∧(c 2=true→st.fr 32=.loc 0 [] 0 2)∧(c 3=true→st.fr 33=.ref 0 [(0,2)] 1 0 n)∧(c 4=true→st.fr 34=.i64 k)∧(c 5=true→st.fr 35=.loc 0 [] 0 0)∧(c 6=true→st.fr 36=.loc 0 [] 0 0)∧(c 7=true→st.fr 37=.loc 0 [] 0 2)∧(c 8=true→st.fr 38=.ref 0 [(0,2)] 1 0 n)∧(c 9=true→st.fr 39=.i64 k)∧(c 10=true→st.fr 40=.loc 0 [(0,2)] k 0)∧(c 11=true→c 14=false→st.fr 41=.ref 0 [(0,2),(k,0)] 1 0 G.length)∧(c 12=true→st.fr 42=isl p)∧(c 13=true→st.fr 43=.ref 43 [] 1 0 1)∧(c 14=true→c 16=false→st.fr 44=.ref 44 [] 1 0 (G.length+1))∧(c 15=true→st.fr 45=.loc 0 [(0,2)] k 0)∧st.mem 0=some (bif c 16 then (.pt 3 (.agg [.i64 n,.tr 1 (C.map rowA),.tr 1 ((C.map genA).set k (.tr 1 ((G++[p]).map isl)))])) else (bif c 14 then (.pt 3 (.agg [.i64 n,.tr 1 (C.map rowA),.tr 1 ((C.map genA).set k .any)])) else (scA n C)))∧(c 13=true→st.mem 43=some (.tr 1 [isl p]))∧(c 14=true→c 16=false→st.mem 44=some (.tr 1 ((G++[p]).map isl)))) (by decide +kernel) ?_ ?_ ?_
  · (try simp -dsimp -implicitDefEqProofs (disch:=first | omega | (simp only [lenr];try omega)) only [↓amPre,amAll,↓reduceIte,reduceCtorEq,Nat.reduceEqDiff,Nat.reduceBEq,Nat.reduceAdd,Nat.reduceLeDiff,Nat.reduceSub,Nat.reduceMul,Int.reduceToNat,List.size_toArray,tyF,MM,bu0,cbU49,latj,hgg,hGl,hGml])
    all_goals (try (repeat' (first | apply And.intro | rfl | (intro _;rfl) | (intro _ _;rfl))))
  · refine ⟨?_,?_,?_,?_,?_,?_,?_,?_,?_,?_,?_,?_,?_,?_,?_,?_,?_,trivial⟩
    all_goals rintro c st R hC hJ hR
    all_goals simp only [latm] at hC
    all_goals rcases Bool.eq_false_or_eq_true (c 14) with hx14 | hx14
    all_goals simp only [hC,hx14,latj] at hJ
    all_goals simp -dsimp -implicitDefEqProofs (disch:=first | omega | (simp only [lenr];try omega)) only [↓amPre,amAll,↓reduceIte,reduceCtorEq,Nat.reduceEqDiff,Nat.reduceBEq,Nat.reduceAdd,Nat.reduceLeDiff,Nat.reduceSub,Nat.reduceMul,Int.reduceToNat,List.size_toArray,tyF,MM,bu0,cbU49,hJ,hgg,hGl,hGml]
    all_goals refine hR _ ?_
    all_goals (simp +contextual -dsimp -implicitDefEqProofs only [amAll,↓reduceIte,reduceCtorEq,Nat.reduceEqDiff,Nat.reduceBEq,Nat.reduceAdd,latj,hC,hJ,hx14,hgg,hGl,hGml];try (repeat' (first | apply And.intro | rfl | (intro _;rfl) | (intro _ _;rfl))))
  intro c st hall hJ
  simp only [latm] at hall
  simp only [hall,latj] at hJ
  obtain ⟨f0,f1,f2,f30,f31,f32,f33,f34,f35,f36,f37,f38,f39,f40,f42,f43,f45,m0,m43⟩:=hJ
  clear hall
  rw [← hsg] at m0
  simp -dsimp -implicitDefEqProofs (disch:=first | omega | (simp only [lenr];try omega)) only [↓amPre,amAll,↓reduceIte,reduceCtorEq,Nat.reduceEqDiff,Nat.reduceBEq,Nat.reduceAdd,Nat.reduceLeDiff,Nat.reduceSub,Nat.reduceMul,Int.reduceToNat,List.size_toArray,tyF,MM,bu0,cbU49,f0,f1,f2,m0]
  skip
  refine awp_loopR 46 79 (.tr 1 []) (by simp -dsimp -implicitDefEqProofs (disch:=first | omega | (simp only [lenr];try omega)) only [↓amPre,amAll,↓reduceIte,reduceCtorEq,Nat.reduceEqDiff,Nat.reduceBEq,Nat.reduceAdd,Nat.reduceLeDiff,Nat.reduceSub,Nat.reduceMul,Int.reduceToNat,List.size_toArray,tyF,MM,bu0,cbU49,f0,f1,f2,m0]) (by decide) (by decide) (by decide) (fun j st=>j≤n∧st.fr 9=.i64 j∧st.fr 0=.loc 0 [] 0 0∧st.fr 1=.i64 k∧st.fr 2=isl p∧st.fr 8=.ref 79 [] 1 0 (kn R j).length∧st.mem 0=some (scA n C1)∧st.mem 79=some (.tr 1 ((kn R j).map isl))) (n) ?_ ?_
  · simp -dsimp -implicitDefEqProofs (disch:=first | omega | (simp only [lenr];try omega)) only [↓amPre,amAll,↓reduceIte,reduceCtorEq,Nat.reduceEqDiff,Nat.reduceBEq,Nat.reduceAdd,Nat.reduceLeDiff,Nat.reduceSub,Nat.reduceMul,Int.reduceToNat,List.size_toArray,tyF,MM,bu0,cbU49,ren_eq,f0,f1,f2,m0]
    exact ⟨Nat.zero_le _,rfl,rfl,rfl⟩
  rintro j st _ ⟨hj,f9,f0,f1,f2,f8,m0,m79⟩
  have hkj:=hkl j
  by_cases hlt:j<n
  · have hlt':(j:Int)<(n:Int):=by omega
    have hent:(R.map nlv).getD j .any=nlv (R.getD j []):=by rw [getD_eq _ j AV.any (by rw [List.length_map];omega),List.getElem_map,getD_eq R j [] (by omega)]
    have hksj:=hks j (by omega)
    have hkml:((kn R j).map isl).length=(kn R j).length:=by simp
    rw [hksj]
    by_cases hr:R.getD j []=[]
    · rw [if_pos hr]
      rw [hr,nlv_nil] at hent
      simp -dsimp -implicitDefEqProofs (disch:=first | omega | (simp only [lenr];try omega)) only [↓amPre,amAll,↓reduceIte,reduceCtorEq,Nat.reduceEqDiff,Nat.reduceBEq,Nat.reduceAdd,Nat.reduceLeDiff,Nat.reduceSub,Nat.reduceMul,Int.reduceToNat,List.size_toArray,tyF,MM,bu0,cbU49,f9,f0,f1,f2,f8,m0,m79,hgr1,hCl1,hRl,hent,lt_true hlt']
      exact ⟨hlt,by omega⟩
    · rw [if_neg hr]
      rw [nlv_ne hr] at hent
      have hpos:(0:Int)<((R.getD j []).length:Int):=by
        have:(R.getD j []).length≠0:=fun q=>hr (List.length_eq_zero_iff.1 q)
        omega
      simp -dsimp -implicitDefEqProofs (disch:=first | omega | (simp only [lenr];try omega)) only [↓amPre,amAll,↓reduceIte,reduceCtorEq,Nat.reduceEqDiff,Nat.reduceBEq,Nat.reduceAdd,Nat.reduceLeDiff,Nat.reduceSub,Nat.reduceMul,Int.reduceToNat,List.size_toArray,tyF,MM,bu0,cbU49,f9,f0,f1,f2,f8,m0,m79,hgr1,hCl1,hRl,hent,lt_true hlt',lt_true hpos,hkml]
      exact ⟨hlt,by omega⟩
  · have hje:j=n:=by omega
    have c1':¬ (j:Int)<(n:Int):=by omega
    have hKb:=hkl n
    rw [hje] at f8 m79
    generalize kn R n=KN at *
    have hKl:(KN.map isl).length=KN.length:=by simp
    simp -dsimp -implicitDefEqProofs (disch:=first | omega | (simp only [lenr];try omega)) only [↓amPre,amAll,↓reduceIte,reduceCtorEq,Nat.reduceEqDiff,Nat.reduceBEq,Nat.reduceAdd,Nat.reduceLeDiff,Nat.reduceSub,Nat.reduceMul,Int.reduceToNat,List.size_toArray,tyF,MM,bu0,cbU49,f9,f0,f1,f2,f8,m0,m79,lt_false (Int.not_lt.1 c1')]
    refine awp_loop (fun i st=>i≤KN.length∧st.fr 10=.i64 i∧st.fr 8=.ref 79 [] 1 0 KN.length∧st.fr 0=.loc 0 [] 0 0∧st.fr 1=.i64 k∧st.fr 2=isl p∧st.mem 79=some (.tr 1 (KN.map isl))∧st.mem 0=some (scA n (((KN.map fun r=>compI r p).take i).foldl (fun C q=>add f false C k q) C1))) (KN.length) ?_ ?_
    · simp -dsimp -implicitDefEqProofs (disch:=first | omega | (simp only [lenr];try omega)) only [↓amPre,amAll,↓reduceIte,reduceCtorEq,Nat.reduceEqDiff,Nat.reduceBEq,Nat.reduceAdd,Nat.reduceLeDiff,Nat.reduceSub,Nat.reduceMul,Int.reduceToNat,List.size_toArray,tyF,MM,bu0,cbU49,f9,f0,f1,f2,f8,m0,m79]
      exact ⟨Nat.zero_le _,rfl,rfl⟩
    rintro i st _ ⟨hi,f10,f8,f0,f1,f2,m79,m0⟩
    have hpp:=fold_ok f (fun C k p a b c d e=>(add_ok h1 h2 f).2 C k p a b c d e) hk ((KN.map fun r=>compI r p).take i) C1 wf1 cc1 hf1 (fun q hq=>hel1 q (List.mem_of_mem_take hq))
    obtain ⟨pp,_⟩:=hpp
    have hlD:=fold_ln h1 h2 f (add_ln h1 h2 f).2 hk ((KN.map fun r=>compI r p).take i) C1 wf1 cc1 hf1 (fun q hq=>hel1 q (List.mem_of_mem_take hq)) hl1
    have hm:=Sc.mis_mono wf1 pp.wf pp.ext hk
    by_cases hli:i<KN.length
    · have hli':(i:Int)<(KN.length:Int):=by omega
      have hfa:=fold_at (f:=f) (k:=k) (C1:=C1) (KN.map fun r=>compI r p) i (by rw [List.length_map];exact hli)
      rw [show (KN.map fun r=>compI r p).getD i default=compI (KN.getD i default) p by rw [getD_eq _ _ _ (by rw [List.length_map];exact hli),List.getElem_map,getD_eq KN _ _ hli]] at hfa
      have hri:=hrp _ (mem_getD KN i default hli)
      have hel2:=hel1 (compI (KN.getD i default) p) (List.mem_map.2 ⟨_,mem_getD KN i default hli,rfl⟩)
      have hg3:(KN.map isl).getD i .any=isl (KN.getD i default):=by rw [getD_eq _ _ _ (by rw [List.length_map];exact hli),List.getElem_map,getD_eq KN _ _ hli]
      rw [hfa]
      generalize ((KN.map fun r=>compI r p).take i).foldl (fun C q=>add f false C k q) C1=D at *
      have qx:=ihP D k (compI (KN.getD i default) p) pp.wf hk ⟨hel2.pn,hel2.fix,by rw [pp.gens];exact hel2.gen⟩ pp.cc (by unfold FP at *;omega) hlD
      have qc:=scompose (KN.getD i default) p (by have:=hri.1;omega) (fun x hx=>by have:=hri.2.2.1 x hx;have:=hri.1;omega)
      rw [cp_comp] at qc
      simp -dsimp -implicitDefEqProofs (disch:=first | omega | (simp only [lenr];try omega)) only [↓amPre,amAll,↓reduceIte,reduceCtorEq,Nat.reduceEqDiff,Nat.reduceBEq,Nat.reduceAdd,Nat.reduceLeDiff,Nat.reduceSub,Nat.reduceMul,Int.reduceToNat,List.size_toArray,tyF,MM,bu0,cbU49,f10,f8,f0,f1,f2,m79,m0,hKl,lt_true hli',hg3]
      refine callP_frz qc ?_
      simp -dsimp -implicitDefEqProofs (disch:=first | omega | (simp only [lenr];try omega)) only [↓amPre,amAll,↓reduceIte,reduceCtorEq,Nat.reduceEqDiff,Nat.reduceBEq,Nat.reduceAdd,Nat.reduceLeDiff,Nat.reduceSub,Nat.reduceMul,Int.reduceToNat,List.size_toArray,tyF,MM,bu0,cbU49,f10,f8,f0,f1,f2,m79,m0,ee]
      refine callX_of (qx) ?_
      simp -dsimp -implicitDefEqProofs (disch:=first | omega | (simp only [lenr];try omega)) only [↓amPre,amAll,↓reduceIte,reduceCtorEq,Nat.reduceEqDiff,Nat.reduceBEq,Nat.reduceAdd,Nat.reduceLeDiff,Nat.reduceSub,Nat.reduceMul,Int.reduceToNat,List.size_toArray,tyF,MM,bu0,cbU49,f10,f8,f0,f1,f2,m79,m0]
      exact ⟨hli,by omega⟩
    · have hie:i=KN.length:=by omega
      have c2':¬ (i:Int)<(KN.length:Int):=by omega
      rw [show (KN.map fun r=>compI r p).take i=KN.map fun r=>compI r p from List.take_of_length_le (by rw [List.length_map];omega)] at m0
      simp -dsimp -implicitDefEqProofs (disch:=first | omega | (simp only [lenr];try omega)) only [↓amPre,amAll,↓reduceIte,reduceCtorEq,Nat.reduceEqDiff,Nat.reduceBEq,Nat.reduceAdd,Nat.reduceLeDiff,Nat.reduceSub,Nat.reduceMul,Int.reduceToNat,List.size_toArray,tyF,MM,bu0,cbU49,f10,f8,f0,f1,f2,m79,m0,hKl,lt_false (Int.not_lt.1 c2')]
end Sw
end Go.AM
set_option maxRecDepth 8000
namespace Go.AM
namespace Sw
open Go.Proofs
open Ch (PN pt idL Gen Lv LvOk pt_comp)
open Sc (lv rep psS ps_step ps_end WF El add FG FP mis Ln emK emK_len emK_lv bld bld_ok bld_ln bld_has)
theorem walk (n:Nat) (h1:1≤n) (h2:n≤20):∀ f,
    (∀ C k p,WF n C→k≤n→PN n p→(∀ i,i<k→pt p i=i)→(∀ j,k=j+1→Gen n (lv C j).gens p)→Sc.CC n C k→FG n k≤f→Ln n C→SpecX Try.prog 241 [scA n C,.i64 k,isl p] [some (scA n (add f true C k p))] (.tup [])) ∧
    (∀ C k p,WF n C→k<n→El n C k p→Sc.CC n C (k+1)→FP n k (mis C k)≤f→Ln n C→SpecX Try.prog 259 [scA n C,.i64 k,isl p] [some (scA n (add f false C k p))] (.tup []))
  | 0=>⟨fun C k p _ _ _ _ _ _ hf=>absurd hf (by unfold FG;omega),fun C k p _ _ _ _ hf=>absurd hf (by unfold FP;omega)⟩
  | f+1=>⟨genW n h1 h2 f (walk n h1 h2 f).2,prodW n h1 h2 f (walk n h1 h2 f).1 (walk n h1 h2 f).2⟩
theorem emK_succ (n k:Nat):emK n (k+1)=emK n k++[⟨[],(List.replicate n []).set k (idL n)⟩]:=by
  unfold emK
  rw [List.range_succ,List.map_append];rfl
theorem em_row (n k:Nat) (h1:1≤n) (h2:n≤20):(List.replicate n AV.nilsl).set k (isl (idL n))=((List.replicate n ([]:List Int)).set k (idL n)).map nlv:=by
  rw [List.map_set,List.map_replicate,nlv_nil,nlv_ne (pn_ne (PN.one h1 h2))]
theorem em_next (n k:Nat) (h1:1≤n) (h2:n≤20):scA n (emK n (k+1))=.pt 3 (.agg [.i64 n,.tr 1 ((emK n k).map rowA++[.tr 1 ((List.replicate n AV.nilsl).set k (isl (idL n)))]),.tr 1 ((emK n k).map genA++[.tr 1 []])]):=by
  have e1:(emK n (k+1)).map rowA=(emK n k).map rowA++[.tr 1 ((List.replicate n AV.nilsl).set k (isl (idL n)))]:=by
    rw [emK_succ,List.map_append,em_row n k h1 h2];rfl
  have e2:(emK n (k+1)).map genA=(emK n k).map genA++[.tr 1 []]:=by
    rw [emK_succ,List.map_append];rfl
  show AV.pt 3 (.agg [.i64 n,.tr 1 ((emK n (k+1)).map rowA),.tr 1 ((emK n (k+1)).map genA)])=_
  rw [e1,e2]
theorem emptyW (n:Nat) (h1:1≤n) (h2:n≤20):SpecAt Try.prog 240 [.i64 n] (scA n (emK n n)):=by
  have ee:∀ X:List Int,AV.fzL (X.map AV.i64)=X.map AV.i64:=fun X=>by rw [fzL_map,ints_fz]
  have qi:=sIdentity n h2
  refine spec_of_awp (M:=MM) (np:=1) (fz:=false) mixed Try.func240 rfl rfl (by decide) rfl (Nat.le_refl _) (by decide +kernel) (.inl rfl) (by first | trivial | simp only [sigsOk_nil,sigsOk_some,sigsOk_none,sig_tr,sig_pt,sig_mt,sig_agg,List.map_cons,List.map_nil,sig1_tr,sig1_pt,sig1_v,and_self,true_and,List.length_map,List.length_set]) ?_
  simp -dsimp -implicitDefEqProofs (disch:=first | omega | (simp only [lenr];try omega)) only [↓amPre,amAll,↓reduceIte,reduceCtorEq,Nat.reduceEqDiff,Nat.reduceBEq,Nat.reduceAdd,Nat.reduceLeDiff,Nat.reduceSub,Nat.reduceMul,Int.reduceToNat,List.size_toArray,tyF,MM,bu0,cbU49]
  refine awp_loop (fun k st=>k≤n∧st.fr 4=.i64 k∧st.fr 0=.i64 n∧st.fr 3=.loc 8 [] 0 0∧((k=0∧st.mem 8=some (.pt 3 (.agg [.i64 n,.nilsl,.nilsl])))∨(0<k∧st.mem 8=some (scA n (emK n k))))) (n) ?_ ?_
  · simp -dsimp -implicitDefEqProofs (disch:=first | omega | (simp only [lenr];try omega)) only [↓amPre,amAll,↓reduceIte,reduceCtorEq,Nat.reduceEqDiff,Nat.reduceBEq,Nat.reduceAdd,Nat.reduceLeDiff,Nat.reduceSub,Nat.reduceMul,Int.reduceToNat,List.size_toArray,tyF,MM,bu0,cbU49]
    exact ⟨Nat.zero_le _,rfl⟩
  rintro k st _ ⟨hk,f4,f0,f3,ek⟩
  have hel:=emK_len n k
  have hes:=emK_succ n k
  by_cases hlt:k<n
  · have hlt':(k:Int)<(n:Int):=by omega
    rcases ek with ⟨k0,m8⟩ | ⟨k0,m8⟩
    · subst k0
      simp -dsimp -implicitDefEqProofs (disch:=first | omega | (simp only [lenr];try omega)) only [↓amPre,amAll,↓reduceIte,reduceCtorEq,Nat.reduceEqDiff,Nat.reduceBEq,Nat.reduceAdd,Nat.reduceLeDiff,Nat.reduceSub,Nat.reduceMul,Int.reduceToNat,List.size_toArray,tyF,MM,bu0,cbU49,f4,f0,f3,m8,lt_true hlt']
      refine callP_frz qi ?_
      simp -dsimp -implicitDefEqProofs (disch:=first | omega | (simp only [lenr];try omega)) only [↓amPre,amAll,↓reduceIte,reduceCtorEq,Nat.reduceEqDiff,Nat.reduceBEq,Nat.reduceAdd,Nat.reduceLeDiff,Nat.reduceSub,Nat.reduceMul,Int.reduceToNat,List.size_toArray,tyF,MM,bu0,cbU49,f4,f0,f3,m8,ee]
      refine ⟨hlt,by omega,by omega,?_⟩
      rw [em_next n _ h1 h2]
      rfl
    · simp -dsimp -implicitDefEqProofs (disch:=first | omega | (simp only [lenr];try omega)) only [↓amPre,amAll,↓reduceIte,reduceCtorEq,Nat.reduceEqDiff,Nat.reduceBEq,Nat.reduceAdd,Nat.reduceLeDiff,Nat.reduceSub,Nat.reduceMul,Int.reduceToNat,List.size_toArray,tyF,MM,bu0,cbU49,f4,f0,f3,m8,lt_true hlt']
      refine callP_frz qi ?_
      simp -dsimp -implicitDefEqProofs (disch:=first | omega | (simp only [lenr];try omega)) only [↓amPre,amAll,↓reduceIte,reduceCtorEq,Nat.reduceEqDiff,Nat.reduceBEq,Nat.reduceAdd,Nat.reduceLeDiff,Nat.reduceSub,Nat.reduceMul,Int.reduceToNat,List.size_toArray,tyF,MM,bu0,cbU49,f4,f0,f3,m8,ee]
      refine ⟨hlt,by omega,by omega,?_⟩
      rw [em_next n _ h1 h2]
  · have hke:k=n:=by omega
    subst hke
    have c1':¬ (k:Int)<(k:Int):=by omega
    rcases ek with ⟨k0,m8⟩ | ⟨k0,m8⟩
    · omega
    · simp -dsimp -implicitDefEqProofs (disch:=first | omega | (simp only [lenr];try omega)) only [↓amPre,amAll,↓reduceIte,reduceCtorEq,Nat.reduceEqDiff,Nat.reduceBEq,Nat.reduceAdd,Nat.reduceLeDiff,Nat.reduceSub,Nat.reduceMul,Int.reduceToNat,List.size_toArray,tyF,MM,bu0,cbU49,f4,f0,f3,m8,lt_false (Int.not_lt.1 c1')]
theorem buildW (n:Nat) (mv:List (List Int)) (h1:1≤n) (h2:n≤20) (hm:∀ s∈mv,PN n s) (hl:mv.length≤8):SpecAt Try.prog 204 [.i64 n,ssl mv] (scA n (bld n (FG n 0) mv mv.length)):=by
  have ee:∀ X:List Int,AV.fzL (X.map AV.i64)=X.map AV.i64:=fun X=>by rw [fzL_map,ints_fz]
  have q1:=emptyW n h1 h2
  refine spec_of_awp (M:=MM) (np:=2) (fz:=false) mixed Try.func204 rfl rfl (by decide) rfl (Nat.le_refl _) (by decide +kernel) (.inl rfl) (by first | trivial | simp only [sigsOk_nil,sigsOk_some,sigsOk_none,sig_tr,sig_pt,sig_mt,sig_agg,List.map_cons,List.map_nil,sig1_tr,sig1_pt,sig1_v,and_self,true_and,List.length_map,List.length_set]) ?_
  simp -dsimp -implicitDefEqProofs (disch:=first | omega | (simp only [lenr];try omega)) only [↓amPre,amAll,↓reduceIte,reduceCtorEq,Nat.reduceEqDiff,Nat.reduceBEq,Nat.reduceAdd,Nat.reduceLeDiff,Nat.reduceSub,Nat.reduceMul,Int.reduceToNat,List.size_toArray,tyF,MM,bu0,cbU49]
  refine callP_of (q1) ?_
  simp -dsimp -implicitDefEqProofs (disch:=first | omega | (simp only [lenr];try omega)) only [↓amPre,amAll,↓reduceIte,reduceCtorEq,Nat.reduceEqDiff,Nat.reduceBEq,Nat.reduceAdd,Nat.reduceLeDiff,Nat.reduceSub,Nat.reduceMul,Int.reduceToNat,List.size_toArray,tyF,MM,bu0,cbU49]
  refine awp_loop (fun i st=>i≤mv.length∧st.fr 6=.i64 i∧st.fr 5=.loc 8 [] 0 0∧st.fr 1=ssl mv∧st.mem 8=some (scA n (bld n (FG n 0) mv i))) (mv.length) ?_ ?_
  · simp -dsimp -implicitDefEqProofs (disch:=first | omega | (simp only [lenr];try omega)) only [↓amPre,amAll,↓reduceIte,reduceCtorEq,Nat.reduceEqDiff,Nat.reduceBEq,Nat.reduceAdd,Nat.reduceLeDiff,Nat.reduceSub,Nat.reduceMul,Int.reduceToNat,List.size_toArray,tyF,MM,bu0,cbU49]
    exact ⟨Nat.zero_le _,rfl,rfl⟩
  rintro i st _ ⟨hi,f6,f5,f1,m8⟩
  obtain ⟨a,b,c⟩:=bld_ok h1 h2 hm (Nat.le_refl _) i hi
  have d:=bld_ln h1 h2 hm (Nat.le_refl _) i hi
  by_cases hlt:i<mv.length
  · have hlt':(i:Int)<(mv.length:Int):=by omega
    have hmi:=hm _ (mem_getD mv i default hlt)
    have qc:=copyI (mv.getD i default) (by have:=hmi.1;omega)
    have qx:=(walk n h1 h2 (FG n 0)).1 (bld n (FG n 0) mv i) 0 (mv.getD i default) a (Nat.zero_le _) hmi (fun j hj=>absurd hj (Nat.not_lt_zero _)) (fun j hj=>by omega) b (Nat.le_refl _) d
    have hst:bld n (FG n 0) mv (i+1)=add (FG n 0) true (bld n (FG n 0) mv i) 0 (mv.getD i default):=rfl
    rw [hst]
    simp -dsimp -implicitDefEqProofs (disch:=first | omega | (simp only [lenr];try omega)) only [↓amPre,amAll,↓reduceIte,reduceCtorEq,Nat.reduceEqDiff,Nat.reduceBEq,Nat.reduceAdd,Nat.reduceLeDiff,Nat.reduceSub,Nat.reduceMul,Int.reduceToNat,List.size_toArray,tyF,MM,bu0,cbU49,f6,f5,f1,m8,lt_true hlt']
    refine callP_frz qc ?_
    simp -dsimp -implicitDefEqProofs (disch:=first | omega | (simp only [lenr];try omega)) only [↓amPre,amAll,↓reduceIte,reduceCtorEq,Nat.reduceEqDiff,Nat.reduceBEq,Nat.reduceAdd,Nat.reduceLeDiff,Nat.reduceSub,Nat.reduceMul,Int.reduceToNat,List.size_toArray,tyF,MM,bu0,cbU49,f6,f5,f1,m8,ee]
    refine callX_of (qx) ?_
    simp -dsimp -implicitDefEqProofs (disch:=first | omega | (simp only [lenr];try omega)) only [↓amPre,amAll,↓reduceIte,reduceCtorEq,Nat.reduceEqDiff,Nat.reduceBEq,Nat.reduceAdd,Nat.reduceLeDiff,Nat.reduceSub,Nat.reduceMul,Int.reduceToNat,List.size_toArray,tyF,MM,bu0,cbU49,f6,f5,f1,m8]
    exact ⟨hlt,by omega⟩
  · have hie:i=mv.length:=by omega
    subst hie
    have c1':¬ (mv.length:Int)<(mv.length:Int):=by omega
    simp -dsimp -implicitDefEqProofs (disch:=first | omega | (simp only [lenr];try omega)) only [↓amPre,amAll,↓reduceIte,reduceCtorEq,Nat.reduceEqDiff,Nat.reduceBEq,Nat.reduceAdd,Nat.reduceLeDiff,Nat.reduceSub,Nat.reduceMul,Int.reduceToNat,List.size_toArray,tyF,MM,bu0,cbU49,f6,f5,f1,m8,lt_false (Int.not_lt.1 c1')]
theorem hasW (n:Nat) (h2:n≤20) (C:List Lv) (hw:WF n C) (p:List Int) (hp:PN n p):SpecX Try.prog 203 [scA n C,isl p] [some (scA n C)] (.bl (psS C 0 p)):=by
  have hlen:=hw.len
  have qs:=siftS n h2 C hw 0 p (Nat.zero_le _) hp
  obtain ⟨hs1,hs2⟩:=sif_ps (C:=C) (n - 0) 0 p (by omega)
  rw [hlen] at hs1 hs2
  have hb:((((sif C (n - 0) 0 p).2:Nat):Int) == (n:Int))=psS C 0 p:=by
    rw [Bool.eq_iff_iff,beq_iff_eq]
    exact ⟨fun q=>hs1.2 (by omega),fun q=>by have:=hs1.1 q;omega⟩
  refine spec_of_awp (M:=MM) (np:=2) (fz:=false) mixed Try.func203 rfl rfl (by decide) rfl (Nat.le_refl _) (by decide +kernel) (.inl rfl) (by simp only [sigsOk_some,sigsOk_nil,and_true]) ?_
  simp -dsimp -implicitDefEqProofs (disch:=first | omega | (simp only [lenr];try omega)) only [↓amPre,amAll,↓reduceIte,reduceCtorEq,Nat.reduceEqDiff,Nat.reduceBEq,Nat.reduceAdd,Nat.reduceLeDiff,Nat.reduceSub,Nat.reduceMul,Int.reduceToNat,List.size_toArray,tyF,MM,bu0,cbU49]
  refine callX_of (qs) ?_
  simp -dsimp -implicitDefEqProofs (disch:=first | omega | (simp only [lenr];try omega)) only [↓amPre,amAll,↓reduceIte,reduceCtorEq,Nat.reduceEqDiff,Nat.reduceBEq,Nat.reduceAdd,Nat.reduceLeDiff,Nat.reduceSub,Nat.reduceMul,Int.reduceToNat,List.size_toArray,tyF,MM,bu0,cbU49]
  rw [hb]
end Sw
namespace Sy
open Go.Proofs
open Ch (PN pt idL Gen)
open Sc (bld bld_ok bld_has FG psS)
open Sw (scA buildW hasW)
def MM:FuncId→List Bool:=fun f=>if f=203 then [true,false] else []
theorem memberS (n:Nat) (mv:List (List Int)) (p:List Int) (hg:genOk n mv) (hs:smallSS mv) (hp:PN n p) (hgen:Gen n mv p):SpecAt Try.prog 128 [.i64 n,ssl mv,isl p] (.bl true):=by
  have hn:=hg.1
  have h1:1≤n:=by omega
  have h2:n≤20:=by omega
  have hm:∀ s∈mv,PN n s:=fun s h=>⟨by have:=(hg.2.2 s h).1;omega,(hg.2.2 s h).2⟩
  have q1:=sGen n mv (by unfold intOk;omega) hs
  rw [decide_eq_true hg] at q1
  have q2:=sIsPerm p (by have:=hp.1;omega)
  rw [decide_eq_true hp.2] at q2
  have q3:=buildW n mv h1 h2 hm hg.2.1
  have hw:=(bld_ok h1 h2 hm (Nat.le_refl _) mv.length (Nat.le_refl _)).1
  have q4:=hasW n h2 _ hw p hp
  rw [bld_has h1 h2 hm (Nat.le_refl _) hgen] at q4
  generalize bld n (FG n 0) mv mv.length=C at *
  have hpl:(p.length:Int)=(n:Int):=by have:=hp.1;omega
  refine spec_of_awp (M:=MM) (np:=3) (fz:=false) mixed Try.func128 rfl rfl (by decide) rfl (Nat.le_refl _) (by decide +kernel) (.inl rfl) (by first | trivial | simp only [sigsOk_nil,sigsOk_some,sigsOk_none,sig_tr,sig_pt,sig_mt,sig_agg,List.map_cons,List.map_nil,sig1_tr,sig1_pt,sig1_v,and_self,true_and,List.length_map,List.length_set]) ?_
  simp -dsimp -implicitDefEqProofs (disch:=first | omega | (simp only [lenr];try omega)) only [↓amPre,amAll,↓reduceIte,reduceCtorEq,Nat.reduceEqDiff,Nat.reduceBEq,Nat.reduceAdd,Nat.reduceLeDiff,Nat.reduceSub,Nat.reduceMul,Int.reduceToNat,List.size_toArray,tyF,MM,bu0,cbU49]
  refine callP_of (q1) ?_
  simp -dsimp -implicitDefEqProofs (disch:=first | omega | (simp only [lenr];try omega)) only [↓amPre,amAll,↓reduceIte,reduceCtorEq,Nat.reduceEqDiff,Nat.reduceBEq,Nat.reduceAdd,Nat.reduceLeDiff,Nat.reduceSub,Nat.reduceMul,Int.reduceToNat,List.size_toArray,tyF,MM,bu0,cbU49,hpl]
  refine callP_of (q2) ?_
  simp -dsimp -implicitDefEqProofs (disch:=first | omega | (simp only [lenr];try omega)) only [↓amPre,amAll,↓reduceIte,reduceCtorEq,Nat.reduceEqDiff,Nat.reduceBEq,Nat.reduceAdd,Nat.reduceLeDiff,Nat.reduceSub,Nat.reduceMul,Int.reduceToNat,List.size_toArray,tyF,MM,bu0,cbU49,hpl]
  refine callP_of (q3) ?_
  simp -dsimp -implicitDefEqProofs (disch:=first | omega | (simp only [lenr];try omega)) only [↓amPre,amAll,↓reduceIte,reduceCtorEq,Nat.reduceEqDiff,Nat.reduceBEq,Nat.reduceAdd,Nat.reduceLeDiff,Nat.reduceSub,Nat.reduceMul,Int.reduceToNat,List.size_toArray,tyF,MM,bu0,cbU49]
  refine callX_of (q4) ?_
  simp -dsimp -implicitDefEqProofs (disch:=first | omega | (simp only [lenr];try omega)) only [↓amPre,amAll,↓reduceIte,reduceCtorEq,Nat.reduceEqDiff,Nat.reduceBEq,Nat.reduceAdd,Nat.reduceLeDiff,Nat.reduceSub,Nat.reduceMul,Int.reduceToNat,List.size_toArray,tyF,MM,bu0,cbU49]
theorem reachS (p:Puzz) (s:List Int) (hp:puzzOk p) (h:smallP p) (hs:PN p.n.toNat s) (hgen:Gen p.n.toNat p.mv s):SpecAt Try.prog 47 [p.sl,isl s] (.bl true):=by
  obtain ⟨pn,nm,mv⟩:=p
  have hn:=hp.1.1
  obtain ⟨n,rfl⟩:∃ n:Nat,pn=n:=⟨pn.toNat,by dsimp only at hn;omega⟩
  dsimp only at hs hgen hn
  rw [Int.toNat_natCast] at hs hgen
  have q1:=sIsState ⟨n,nm,mv⟩ s h hp ⟨by have:=hs.1;dsimp only;omega,hs.2⟩
  have q2:=memberS n mv s hp.1 h.2.2 hs hgen
  refine spec_of_awp (M:=MM) (np:=2) (fz:=true) mixed Try.func47 rfl rfl (by decide) rfl (Nat.le_refl _) (by decide +kernel) (.inr ⟨rfl,rfl⟩) trivial ?_
  simp -dsimp -implicitDefEqProofs (disch:=first | omega | (simp only [lenr];try omega)) only [↓amPre,amAll,↓reduceIte,reduceCtorEq,Nat.reduceEqDiff,Nat.reduceBEq,Nat.reduceAdd,Nat.reduceLeDiff,Nat.reduceSub,Nat.reduceMul,Int.reduceToNat,List.size_toArray,tyF,MM,bu0,cbU49]
  refine callP_of (q1) ?_
  simp -dsimp -implicitDefEqProofs (disch:=first | omega | (simp only [lenr];try omega)) only [↓amPre,amAll,↓reduceIte,reduceCtorEq,Nat.reduceEqDiff,Nat.reduceBEq,Nat.reduceAdd,Nat.reduceLeDiff,Nat.reduceSub,Nat.reduceMul,Int.reduceToNat,List.size_toArray,tyF,MM,bu0,cbU49]
  refine callP_of (q2) ?_
  simp -dsimp -implicitDefEqProofs (disch:=first | omega | (simp only [lenr];try omega)) only [↓amPre,amAll,↓reduceIte,reduceCtorEq,Nat.reduceEqDiff,Nat.reduceBEq,Nat.reduceAdd,Nat.reduceLeDiff,Nat.reduceSub,Nat.reduceMul,Int.reduceToNat,List.size_toArray,tyF,MM,bu0,cbU49]
end Sy
end Go.AM
set_option maxRecDepth 8000
namespace Go.AM
open Go.Proofs
theorem sScr (p:Puzz) (w:List Int) (h:smallP p) (hw:w.length≤1099511627776) (hv:∀ x∈w,intOk x):SpecAt Try.prog 46 [p.sl,isl w] (.bl (decide (scrOk p w))):=by
  have h3:=h.2.2.1
  refine spec_of_awp (M:=MM) (np:=2) (fz:=true) mixed Try.func46 rfl rfl (by decide) rfl (Nat.le_refl _) (by decide +kernel) (.inr ⟨rfl,rfl⟩) trivial ?_
  have fin:∀ b:Bool,(b=true↔scrOk p w)→Value.bool b=Value.bool (decide (scrOk p w)):=fun b h=>bl_eq (by rw [h,decide_eq_true_iff])
  simp -dsimp -implicitDefEqProofs (disch:=first | omega | (simp only [lenr];try omega)) only [↓amPre,amAll,↓reduceIte,reduceCtorEq,Nat.reduceEqDiff,Nat.reduceBEq,Nat.reduceAdd,Nat.reduceLeDiff,Nat.reduceSub,Nat.reduceMul,Int.reduceToNat,List.size_toArray,tyF,MM,bu0,cbP9]
  refine callP_of (sPuzzle p h) ?_
  by_cases c1:puzzOk p
  case neg =>
    simp -dsimp -implicitDefEqProofs (disch:=first | omega | (simp only [lenr];try omega)) only [↓amPre,amAll,↓reduceIte,reduceCtorEq,Nat.reduceEqDiff,Nat.reduceBEq,Nat.reduceAdd,Nat.reduceLeDiff,Nat.reduceSub,Nat.reduceMul,Int.reduceToNat,List.size_toArray,tyF,MM,bu0,cbP9,c1]
    refine fin _ ?_
    simp only [reduceCtorEq,false_iff]
    exact fun q=>c1 q.1
  have hmv:=puzz_nm c1
  simp -dsimp -implicitDefEqProofs (disch:=first | omega | (simp only [lenr];try omega)) only [↓amPre,amAll,↓reduceIte,reduceCtorEq,Nat.reduceEqDiff,Nat.reduceBEq,Nat.reduceAdd,Nat.reduceLeDiff,Nat.reduceSub,Nat.reduceMul,Int.reduceToNat,List.size_toArray,tyF,MM,bu0,cbP9,c1]
  refine callP_of (sWord p.mv.length w (by unfold intOk;omega) hw hv) ?_
  by_cases c2:wordOk p.mv.length w
  case neg =>
    simp -dsimp -implicitDefEqProofs (disch:=first | omega | (simp only [lenr];try omega)) only [↓amPre,amAll,↓reduceIte,reduceCtorEq,Nat.reduceEqDiff,Nat.reduceBEq,Nat.reduceAdd,Nat.reduceLeDiff,Nat.reduceSub,Nat.reduceMul,Int.reduceToNat,List.size_toArray,tyF,MM,bu0,cbP9,c2]
    refine fin _ ?_
    simp only [reduceCtorEq,false_iff]
    exact fun q=>c2 q.2.1
  simp -dsimp -implicitDefEqProofs (disch:=first | omega | (simp only [lenr];try omega)) only [↓amPre,amAll,↓reduceIte,reduceCtorEq,Nat.reduceEqDiff,Nat.reduceBEq,Nat.reduceAdd,Nat.reduceLeDiff,Nat.reduceSub,Nat.reduceMul,Int.reduceToNat,List.size_toArray,tyF,MM,bu0,cbP9,c2]
  refine awp_loop (fun k st=>k≤w.length∧st.fr 5=.i64 (k+1)∧st.fr 1=isl w∧st.fr 2=.loc 2 [] 0 0∧st.mem 2=some (.pt 3 (.agg [.i64 p.n,.st p.nm,ssl p.mv]))∧∀ i,0<i→i<k+1→¬ sameI (w.getD (i - 1) 0) (w.getD i 0)) (w.length) ?_ ?_
  · simp -dsimp -implicitDefEqProofs (disch:=first | omega | (simp only [lenr];try omega)) only [↓amPre,amAll,↓reduceIte,reduceCtorEq,Nat.reduceEqDiff,Nat.reduceBEq,Nat.reduceAdd,Nat.reduceLeDiff,Nat.reduceSub,Nat.reduceMul,Int.reduceToNat,List.size_toArray,tyF,MM,bu0,cbP9]
    exact ⟨by omega,rfl,fun i h1 h2=>by omega⟩
  rintro k st _ ⟨hk,f5,f1,f2,m2,ek⟩
  by_cases hlt:(k:Int)+1<w.length
  · by_cases c3:(1:Int)<p.mv.length
    case neg =>
      simp -dsimp -implicitDefEqProofs (disch:=first | omega | (simp only [lenr];try omega)) only [↓amPre,amAll,↓reduceIte,reduceCtorEq,Nat.reduceEqDiff,Nat.reduceBEq,Nat.reduceAdd,Nat.reduceLeDiff,Nat.reduceSub,Nat.reduceMul,Int.reduceToNat,List.size_toArray,tyF,MM,bu0,cbP9,f5,f1,f2,m2,lt_true hlt,lt_false (Int.not_lt.1 c3)]
      refine fin _ ?_
      simp only [true_iff]
      exact ⟨c1,c2,Or.inl (by omega)⟩
    have hx:=c2.2 _ (mem_getD w k 0 (by omega))
    have hy:=c2.2 _ (mem_getD w (k+1) 0 (by omega))
    have hx0:=hx.2.1
    have hy0:=hy.2.1
    have ik:((k:Int)+1)=((k+1:Nat):Int):=by omega
    have ik2:(((k+1:Nat):Int) - 1)=(k:Int):=by omega
    simp -dsimp -implicitDefEqProofs (disch:=first | omega | (simp only [lenr];try omega)) only [↓amPre,amAll,↓reduceIte,reduceCtorEq,Nat.reduceEqDiff,Nat.reduceBEq,Nat.reduceAdd,Nat.reduceLeDiff,Nat.reduceSub,Nat.reduceMul,Int.reduceToNat,List.size_toArray,tyF,MM,bu0,cbP9,f5,f1,f2,m2,lt_true hlt,lt_true c3,ik,ik2]
    refine callP_of (l24Gen (w.getD (k+1) 0) (by omega)) ?_
    simp -dsimp -implicitDefEqProofs (disch:=first | omega | (simp only [lenr];try omega)) only [↓amPre,amAll,↓reduceIte,reduceCtorEq,Nat.reduceEqDiff,Nat.reduceBEq,Nat.reduceAdd,Nat.reduceLeDiff,Nat.reduceSub,Nat.reduceMul,Int.reduceToNat,List.size_toArray,tyF,MM,bu0,cbP9,f5,f1,f2,m2,ik2]
    refine callP_of (l24Gen (w.getD k 0) (by omega)) ?_
    have hg:=genI_iff (w.getD (k+1) 0) (w.getD k 0) hy.1 hx.1
    have hsm:sameI (w.getD (k+1) 0) (w.getD k 0)↔sameI (w.getD k 0) (w.getD (k+1) 0):=by unfold sameI;omega
    by_cases c4:genI (w.getD (k+1) 0)=genI (w.getD k 0)
    · simp -dsimp -implicitDefEqProofs (disch:=first | omega | (simp only [lenr];try omega)) only [↓amPre,amAll,↓reduceIte,reduceCtorEq,Nat.reduceEqDiff,Nat.reduceBEq,Nat.reduceAdd,Nat.reduceLeDiff,Nat.reduceSub,Nat.reduceMul,Int.reduceToNat,List.size_toArray,tyF,MM,bu0,cbP9,f5,f1,f2,m2,eq_true c4]
      refine fin _ ?_
      simp only [reduceCtorEq,false_iff]
      intro q
      rcases q.2.2 with q | q
      · omega
      · exact q (k+1) (by omega) (by omega) (hsm.1 (hg.1 c4))
    · simp -dsimp -implicitDefEqProofs (disch:=first | omega | (simp only [lenr];try omega)) only [↓amPre,amAll,↓reduceIte,reduceCtorEq,Nat.reduceEqDiff,Nat.reduceBEq,Nat.reduceAdd,Nat.reduceLeDiff,Nat.reduceSub,Nat.reduceMul,Int.reduceToNat,List.size_toArray,tyF,MM,bu0,cbP9,f5,f1,f2,m2,eq_false c4]
      refine ⟨by omega,by omega,?_⟩
      intro i h1 h2
      by_cases e:i=k+1
      · subst e;exact fun s=>c4 (hg.2 (hsm.2 s))
      · exact ek i h1 (by omega)
  · simp -dsimp -implicitDefEqProofs (disch:=first | omega | (simp only [lenr];try omega)) only [↓amPre,amAll,↓reduceIte,reduceCtorEq,Nat.reduceEqDiff,Nat.reduceBEq,Nat.reduceAdd,Nat.reduceLeDiff,Nat.reduceSub,Nat.reduceMul,Int.reduceToNat,List.size_toArray,tyF,MM,bu0,cbP9,f5,f1,f2,m2,lt_false (Int.not_lt.1 hlt)]
    refine fin _ ?_
    simp only [true_iff]
    exact ⟨c1,c2,Or.inr fun i h1 h2=>ek i h1 (by omega)⟩
theorem iScr (p:Puzz) (w:List Int) (h:smallP p) (hw:w.length≤1099511627776):SpecAt Try.prog 45 [p.sl,isl w] (.bl (decide (scrOk p w))):=by
  have h3:=h.2.2.1
  refine spec_of_awp (M:=MM) (np:=2) (fz:=true) mixed Try.func45 rfl rfl (by decide) rfl (Nat.le_refl _) (by decide +kernel) (.inr ⟨rfl,rfl⟩) trivial ?_
  have fin:∀ b:Bool,(b=true↔scrOk p w)→Value.bool b=Value.bool (decide (scrOk p w)):=fun b h=>bl_eq (by rw [h,decide_eq_true_iff])
  simp -dsimp -implicitDefEqProofs (disch:=first | omega | (simp only [lenr];try omega)) only [↓amPre,amAll,↓reduceIte,reduceCtorEq,Nat.reduceEqDiff,Nat.reduceBEq,Nat.reduceAdd,Nat.reduceLeDiff,Nat.reduceSub,Nat.reduceMul,Int.reduceToNat,List.size_toArray,tyF,MM,bu0,cbP9]
  refine callP_of (iPuzzle p h) ?_
  by_cases c1:puzzOk p
  case neg =>
    simp -dsimp -implicitDefEqProofs (disch:=first | omega | (simp only [lenr];try omega)) only [↓amPre,amAll,↓reduceIte,reduceCtorEq,Nat.reduceEqDiff,Nat.reduceBEq,Nat.reduceAdd,Nat.reduceLeDiff,Nat.reduceSub,Nat.reduceMul,Int.reduceToNat,List.size_toArray,tyF,MM,bu0,cbP9,c1]
    refine fin _ ?_
    simp only [reduceCtorEq,false_iff]
    exact fun q=>c1 q.1
  have hmv:=puzz_nm c1
  simp -dsimp -implicitDefEqProofs (disch:=first | omega | (simp only [lenr];try omega)) only [↓amPre,amAll,↓reduceIte,reduceCtorEq,Nat.reduceEqDiff,Nat.reduceBEq,Nat.reduceAdd,Nat.reduceLeDiff,Nat.reduceSub,Nat.reduceMul,Int.reduceToNat,List.size_toArray,tyF,MM,bu0,cbP9,c1]
  refine callP_of (isWordM p w h hw) ?_
  by_cases c2:wordOk p.mv.length w
  case neg =>
    simp -dsimp -implicitDefEqProofs (disch:=first | omega | (simp only [lenr];try omega)) only [↓amPre,amAll,↓reduceIte,reduceCtorEq,Nat.reduceEqDiff,Nat.reduceBEq,Nat.reduceAdd,Nat.reduceLeDiff,Nat.reduceSub,Nat.reduceMul,Int.reduceToNat,List.size_toArray,tyF,MM,bu0,cbP9,c2]
    refine fin _ ?_
    simp only [reduceCtorEq,false_iff]
    exact fun q=>c2 q.2.1
  by_cases c3:(p.mv.length:Int)=1
  · simp -dsimp -implicitDefEqProofs (disch:=first | omega | (simp only [lenr];try omega)) only [↓amPre,amAll,↓reduceIte,reduceCtorEq,Nat.reduceEqDiff,Nat.reduceBEq,Nat.reduceAdd,Nat.reduceLeDiff,Nat.reduceSub,Nat.reduceMul,Int.reduceToNat,List.size_toArray,tyF,MM,bu0,cbP9,c2,eq_true c3]
    refine fin _ ?_
    simp only [true_iff]
    exact ⟨c1,c2,Or.inl (by omega)⟩
  have hrl:=runsK_len w w.length
  have hvv:∀ x∈w,-9223372036854775807≤x∧x≤9223372036854775807:=fun x hx=>by have:=(c2.2 x hx).2.1;omega
  simp -dsimp -implicitDefEqProofs (disch:=first | omega | (simp only [lenr];try omega)) only [↓amPre,amAll,↓reduceIte,reduceCtorEq,Nat.reduceEqDiff,Nat.reduceBEq,Nat.reduceAdd,Nat.reduceLeDiff,Nat.reduceSub,Nat.reduceMul,Int.reduceToNat,List.size_toArray,tyF,MM,bu0,cbP9,c2,eq_false c3]
  refine callP_of (runsC w hw hvv) ?_
  simp -dsimp -implicitDefEqProofs (disch:=first | omega | (simp only [lenr];try omega)) only [↓amPre,amAll,↓reduceIte,reduceCtorEq,Nat.reduceEqDiff,Nat.reduceBEq,Nat.reduceAdd,Nat.reduceLeDiff,Nat.reduceSub,Nat.reduceMul,Int.reduceToNat,List.size_toArray,tyF,MM,bu0,cbP9,ssfz]
  refine fin _ ?_
  rw [beq_iff_eq]
  have e1:((runsK w w.length).length:Int)=w.length↔(runsK w w.length).length=w.length:=by omega
  rw [e1,hrl.2.2]
  exact ⟨fun q=>⟨c1,c2,Or.inr q⟩,fun q=>q.2.2.resolve_left (by omega)⟩
end Go.AM
namespace Go.AM
namespace Bf
/-! lists in their order,and the place of one among sorted ones -/
def lexLt:List Int→List Int→Bool
  | x :: a,y :: b=>if x=y then lexLt a b else decide (x<y)
  | _,_=>false
theorem lex_tr:∀ {a b c:List Int},lexLt a b=true→lexLt b c=true→lexLt a c=true
  | [],_,_,h,_=>by simp [lexLt] at h
  | _ :: _,[],_,h,_=>by simp [lexLt] at h
  | _ :: _,_ :: _,[],_,h=>by simp [lexLt] at h
  | x :: a,y :: b,z :: c,h,k=>by
    rw [lexLt] at h k ⊢
    by_cases e1:x=y
    · rw [if_pos e1] at h
      by_cases e2:y=z
      · rw [if_pos e2] at k
        rw [if_pos (e1.trans e2)];exact lex_tr h k
      · rw [if_neg e2] at k
        rw [if_neg (by rw [e1];exact e2),e1];exact k
    · rw [if_neg e1] at h
      by_cases e2:y=z
      · rw [← e2,if_neg e1];exact h
      · rw [if_neg e2] at k
        simp only [decide_eq_true_eq] at h k
        rw [if_neg (by omega)]
        simp;omega
def slotC (S:List (List Int)) (srt:List Nat) (s:List Int):Nat:=(srt.filter fun i=>lexLt (S.getD i default) s).length
structure SrtOk (n:Nat) (S:List (List Int)) (srt:List Nat):Prop where
  nd:srt.Nodup
  mem:∀ i,i∈srt↔i<S.length
  len:srt.length=S.length
  pw:srt.Pairwise fun i j=>lexLt (S.getD i default) (S.getD j default)=true
  ll:∀ s∈S,s.length=n
section
variable {n:Nat} {S:List (List Int)} {srt:List Nat}
def insS (S:List (List Int)) (srt:List Nat) (s:List Int):List Nat:=srt.take (slotC S srt s)++S.length :: srt.drop (slotC S srt s)
end
def srtK (S:List (List Int)):Nat→List Nat
  | 0=>[]
  | m+1=>insS (S.take m) (srtK S m) (S.getD m default)
abbrev srtS (S:List (List Int)):List Nat:=srtK S S.length
end Bf
end Go.AM
namespace Go.AM
namespace Bf
open Ch (PN pt idL Gen newL ordL elsL newL_els)
/-! the words that the search finds: the smallest of the shortest -/
def tau (m:Nat) (e:Ex) (i:Nat):Nat:=e.Pa.getD i 0*m+e.J.getD i 0
structure Tm (mv:List (List Int)) (A:List Int) (e:Ex) (T:Nat):Prop where
  d0:e.D.getD 0 0=0
  old:∀ i,0<i→i<e.S.length→tau A.length e i<T∧e.Pa.getD i 0<i∧e.J.getD i 0<A.length∧e.S.getD i default=nbr mv e (e.Pa.getD i 0) (A.getD (e.J.getD i 0) 0)∧e.D.getD i 0=e.D.getD (e.Pa.getD i 0) 0+1
  ord:∀ i j,0<i→i<j→j<e.S.length→tau A.length e i<tau A.length e j
  fst:∀ k j,j<A.length→k*A.length+j<T→k<e.S.length→∃ i,i<e.S.length∧e.S.getD i default=nbr mv e k (A.getD j 0)∧(i=0∨tau A.length e i≤k*A.length+j)
section
variable {n:Nat} {mv:List (List Int)} {A:List Int}
theorem pair_lt {m k j k' j':Nat} (hj:j<m) (hj':j'<m) (h:k*m+j<k'*m+j'):k<k'∨(k=k'∧j<j'):=by
  rcases Nat.lt_trichotomy k k' with q | q | q
  · exact .inl q
  · subst q;exact .inr ⟨rfl,by omega⟩
  · have:(k'+1)*m≤k*m:=Nat.mul_le_mul_right _ q
    rw [Nat.succ_mul] at this;omega
theorem pair_of {m k j k' j':Nat} (hj:j<m) (h:k<k'):k*m+j<k'*m+j':=by
  have:(k+1)*m≤k'*m:=Nat.mul_le_mul_right _ h
  rw [Nat.succ_mul] at this;omega
structure Fin (n:Nat) (mv:List (List Int)) (A:List Int) (e:Ex):Prop where
  ok:Ok n mv e
  tm:Tm mv A e (e.S.length*A.length)
  all:∀ g,g∈e.S↔Gen n mv g
variable {e:Ex}
def wd (e:Ex):Nat→Nat→List Nat
  | 0,_=>[]
  | f+1,i=>if i=0 then [] else wd e f (e.Pa.getD i 0)++[e.J.getD i 0]
theorem Tm.dep {T:Nat} (t:Tm mv A e T):∀ i j,i≤j→j<e.S.length→e.D.getD i 0≤e.D.getD j 0:=by
  have key:∀ N j,j≤N→∀ i,i≤j→j<e.S.length→e.D.getD i 0≤e.D.getD j 0:=by
    intro N
    induction N with
    | zero=>intro j hj i hi _;rw [show i=j by omega];exact Nat.le_refl _
    | succ N ih =>
      intro j hj i hi hl
      by_cases c0:i=0
      · subst c0;rw [t.d0];exact Nat.zero_le _
      by_cases c:i=j
      · subst c;exact Nat.le_refl _
      obtain ⟨a1,a2,a3,a4,a5⟩:=t.old i (by omega) (by omega)
      obtain ⟨b1,b2,b3,b4,b5⟩:=t.old j (by omega) hl
      have:=t.ord i j (by omega) (by omega) hl
      unfold tau at this
      have hp:e.Pa.getD i 0≤e.Pa.getD j 0:=by
        rcases pair_lt a3 b3 this with q | q <;> omega
      have:=ih (e.Pa.getD j 0) (by omega) (e.Pa.getD i 0) hp (by omega)
      omega
  exact fun i j hi hl=>key j j (Nat.le_refl _) i hi hl
theorem Tm.wd_f {T:Nat} (t:Tm mv A e T):∀ f g i,i<f→i<g→i<e.S.length→wd e f i=wd e g i
  | 0,_,_,h,_,_=>by omega
  | _+1,0,_,_,h,_=>by omega
  | f+1,g+1,i,hf,hg,hi=>by
    rw [wd,wd]
    by_cases c:i=0
    · rw [if_pos c,if_pos c]
    · obtain ⟨a1,a2,_⟩:=t.old i (by omega) hi
      rw [if_neg c,if_neg c,t.wd_f f g _ (by omega) (by omega) (by omega)]
abbrev wdE (e:Ex) (i:Nat):List Nat:=wd e e.S.length i
theorem Tm.wd_0 {T:Nat} (t:Tm mv A e T) (h:0<e.S.length):wdE e 0=[]:=by
  obtain ⟨m,hm⟩:∃ m,e.S.length=m+1:=⟨e.S.length - 1,by omega⟩
  unfold wdE;rw [hm,wd,if_pos rfl]
theorem Tm.wd_s {T:Nat} (t:Tm mv A e T) {i:Nat} (h0:0<i) (hi:i<e.S.length):wdE e i=wdE e (e.Pa.getD i 0)++[e.J.getD i 0]:=by
  obtain ⟨a1,a2,_⟩:=t.old i h0 hi
  obtain ⟨m,hm⟩:∃ m,e.S.length=m+1:=⟨e.S.length - 1,by omega⟩
  have:=t.wd_f m e.S.length (e.Pa.getD i 0) (by omega) (by omega) (by omega)
  unfold wdE
  rw [← this]
  conv=>lhs;rw [hm]
  rw [wd,if_neg (by omega)]
theorem Tm.wd_len {T:Nat} (t:Tm mv A e T) (hz:0<e.S.length):∀ N i,i≤N→i<e.S.length→(wdE e i).length=e.D.getD i 0
  | N,0,_,h=>by rw [t.wd_0 h,t.d0];rfl
  | 0,i+1,hN,h=>by omega
  | N+1,i+1,hN,h=>by
    obtain ⟨a1,a2,a3,a4,a5⟩:=t.old (i+1) (by omega) h
    rw [t.wd_s (by omega) h,List.length_append,t.wd_len hz N _ (by omega) (by omega),a5];rfl
/-! words by their letters' places -/
def lexN (a b:List Nat):Bool:=lexLt (a.map fun (x:Nat)=>(x:Int)) (b.map fun (x:Nat)=>(x:Int))
theorem lexLt_snoc:∀ {a b:List Int} {x y:Int},a.length=b.length→lexLt (a++[x]) (b++[y])=(lexLt a b || (decide (a=b) && decide (x<y)))
  | [],[],x,y,_=>by
    simp only [List.nil_append,lexLt]
    by_cases h:x=y
    · subst h;simp
    · simp [h]
  | [],_ :: _,_,_,h=>by simp at h
  | _ :: _,[],_,_,h=>by simp at h
  | u :: a,v :: b,x,y,h=>by
    rw [List.cons_append,List.cons_append,lexLt,lexLt]
    by_cases e:u=v
    · subst e
      rw [if_pos rfl,if_pos rfl,lexLt_snoc (by simpa using h)]
      simp
    · rw [if_neg e,if_neg e];simp [e]
theorem cast_inj:∀ {a b:List Nat},(a.map fun (x:Nat)=>(x:Int))=(b.map fun (x:Nat)=>(x:Int))→a=b
  | [],[],_=>rfl
  | [],_ :: _,h=>by simp at h
  | _ :: _,[],h=>by simp at h
  | x :: a,y :: b,h=>by
    simp only [List.map_cons,List.cons.injEq] at h
    rw [cast_inj h.2,show x=y by omega]
theorem lexN_snoc {a b:List Nat} {x y:Nat} (h:a.length=b.length):lexN (a++[x]) (b++[y])=true↔lexN a b=true∨(a=b∧x<y):=by
  unfold lexN
  rw [List.map_append,List.map_append,List.map_singleton,List.map_singleton,lexLt_snoc (by simpa using h)]
  simp only [Bool.or_eq_true,Bool.and_eq_true,decide_eq_true_eq]
  constructor
  · rintro (q | ⟨q,r⟩)
    · exact .inl q
    · exact .inr ⟨cast_inj q,by omega⟩
  · rintro (q | ⟨q,r⟩)
    · exact .inl q
    · exact .inr ⟨by rw [q],by omega⟩
theorem lexN_tr {a b c:List Nat} (h:lexN a b=true) (k:lexN b c=true):lexN a c=true:=lex_tr h k
theorem Tm.wd_lt {T:Nat} (t:Tm mv A e T) (hz:0<e.S.length):∀ N i j,j≤N→i<j→j<e.S.length→e.D.getD i 0=e.D.getD j 0→lexN (wdE e i) (wdE e j)=true
  | 0,i,j,h,h1,_,_=>by omega
  | N+1,i,j,h,h1,h2,h3=>by
    obtain ⟨b1,b2,b3,b4,b5⟩:=t.old j (by omega) h2
    have hi0:0<i:=by
      rcases Nat.eq_zero_or_pos i with c | c
      · subst c;rw [t.d0] at h3;omega
      · exact c
    obtain ⟨a1,a2,a3,a4,a5⟩:=t.old i hi0 (by omega)
    have ho:=t.ord i j hi0 h1 h2
    unfold tau at ho
    rw [t.wd_s hi0 (by omega),t.wd_s (by omega) h2,lexN_snoc (by rw [t.wd_len hz _ _ (Nat.le_refl _) (by omega),t.wd_len hz _ _ (Nat.le_refl _) (by omega)];omega)]
    rcases pair_lt a3 b3 ho with q | ⟨q1,q2⟩
    · exact .inl (t.wd_lt hz N _ _ (by omega) q (by omega) (by omega))
    · exact .inr ⟨by rw [q1],q2⟩
def evN (n:Nat) (mv:List (List Int)) (A:List Int) (s:List Int):List Nat→List Int
  | []=>s
  | j :: r=>evN n mv A (compI s (letP mv (A.getD j 0))) r
theorem evN_app (n:Nat) (mv:List (List Int)) (A:List Int):∀ (u v:List Nat) (s:List Int),evN n mv A s (u++v)=evN n mv A (evN n mv A s u) v
  | [],_,_=>rfl
  | j :: u,v,s=>by rw [List.cons_append,evN,evN,evN_app n mv A u v]
end
end Bf
end Go.AM
namespace Go.AM
namespace Bf
open Ch (PN pt idL Gen newL ordL elsL newL_els comp_assoc id_comp comp_inv inv_comp)
section
variable {n:Nat} {mv:List (List Int)} {e:Ex}
theorem S_inj (h:Ok n mv e) {i j:Nat} (hi:i<e.S.length) (hj:j<e.S.length) (q:e.S.getD i default=e.S.getD j default):i=j:=by
  rw [getD_eq _ _ _ hi,getD_eq _ _ _ hj] at q
  exact (List.getElem_inj h.nd).1 q
theorem ev_ok (h1:1≤n) (h2:n≤20) (hm:∀ s∈mv,PN n s):∀ (u:List Nat) (s:List Int),PN n s∧Gen n mv s→(∀ j∈u,j<(letL mv.length).length)→PN n (evN n mv (letL mv.length) s u)∧Gen n mv (evN n mv (letL mv.length) s u)
  | [],s,hs,_=>hs
  | j :: u,s,hs,hu=>ev_ok h1 h2 hm u _ (nbr_ok h1 h2 hm hs (mem_getD (letL mv.length) j 0 (hu j (by simp)))) fun k hk=>hu k (by simp [hk])
theorem Fin.min (h1:1≤n) (h2:n≤20) (hm:∀ s∈mv,PN n s) (f:Fin n mv (letL mv.length) e):∀ (L:Nat) (u:List Nat),u.length=L→(∀ j∈u,j<(letL mv.length).length)→∀ i,i<e.S.length→evN n mv (letL mv.length) (idL n) u=e.S.getD i default →
    e.D.getD i 0≤u.length∧(e.D.getD i 0=u.length→wdE e i=u∨lexN (wdE e i) u=true)
  | 0,u,hL,hu,i,hi,he=>by
    have hu0:=List.length_eq_zero_iff.1 hL
    subst hu0
    rw [evN,← f.ok.z.2] at he
    have:=S_inj f.ok f.ok.z.1 hi he
    subst this
    rw [f.tm.d0,f.tm.wd_0 hi]
    exact ⟨Nat.le_refl _,fun _=>.inl rfl⟩
  | L+1,u,hL,hu,i,hi,he=>by
    rcases List.eq_nil_or_concat u with rfl | ⟨v,y,rfl⟩
    · cases hL
    rw [List.concat_eq_append] at *
    have hv:∀ j∈v,j<(letL mv.length).length:=fun j hj=>hu j (by simp [hj])
    have hy:=hu y (by simp)
    have hvL:v.length=L:=by simpa using hL
    have hE:=ev_ok h1 h2 hm v (idL n) ⟨PN.one h1 h2,.one⟩ hv
    obtain ⟨k,hk,hke⟩:=List.mem_iff_getElem.1 ((f.all _).2 hE.2)
    have hke':evN n mv (letL mv.length) (idL n) v=e.S.getD k default:=by rw [getD_eq _ _ _ hk,hke]
    obtain ⟨c1,c2⟩:=Fin.min h1 h2 hm f L v hvL hv k hk hke'
    obtain ⟨i',g1,g2,g3⟩:=f.tm.fst k y hy (by
      have:(k+1)*(letL mv.length).length≤e.S.length*(letL mv.length).length:=Nat.mul_le_mul_right _ hk
      rw [Nat.succ_mul] at this;omega) hk
    have hii:i'=i:=by
      refine S_inj f.ok g1 hi ?_
      rw [g2,← he,evN_app,hke'];rfl
    subst hii
    rw [List.length_append,List.length_singleton]
    rcases Nat.eq_zero_or_pos i' with c | c
    · subst c;rw [f.tm.d0];exact ⟨by omega,fun q=>by omega⟩
    rcases g3 with g3 | g3
    · omega
    obtain ⟨a1,a2,a3,a4,a5⟩:=f.tm.old i' c hi
    have hpk:e.Pa.getD i' 0<k∨(e.Pa.getD i' 0=k∧e.J.getD i' 0≤y):=by
      unfold tau at g3
      rcases Nat.lt_or_ge (e.Pa.getD i' 0) k with q | q
      · exact .inl q
      · rcases Nat.lt_or_ge k (e.Pa.getD i' 0) with q2 | q2
        · have:=pair_of (j':=e.J.getD i' 0) hy q2;omega
        · have:e.Pa.getD i' 0=k:=by omega
          rw [this] at g3;exact .inr ⟨this,by omega⟩
    have hdp:=f.tm.dep (e.Pa.getD i' 0) k (by omega) hk
    refine ⟨by omega,fun q=>?_⟩
    have hdk:e.D.getD k 0=v.length:=by omega
    have hlw:(wdE e (e.Pa.getD i' 0)).length=v.length:=by rw [f.tm.wd_len f.ok.z.1 _ _ (Nat.le_refl _) (by omega)];omega
    rw [f.tm.wd_s c hi]
    rw [lexN_snoc hlw]
    rcases hpk with q2 | ⟨q2,q3⟩
    · have hlt:=f.tm.wd_lt f.ok.z.1 _ (e.Pa.getD i' 0) k (Nat.le_refl _) q2 hk (by omega)
      rcases c2 hdk with r | r
      · rw [r] at hlt;exact .inr (.inl hlt)
      · exact .inr (.inl (lexN_tr hlt r))
    · rw [q2]
      rcases c2 hdk with r | r
      · rw [r]
        rcases Nat.lt_or_ge (e.J.getD i' 0) y with s | s
        · exact .inr (.inr ⟨rfl,s⟩)
        · rw [show e.J.getD i' 0=y by omega];exact .inl rfl
      · exact .inr (.inl r)
/-! the other way about: words that lead back -/
def jinv (j:Nat):Nat:=if j % 2=0 then j+1 else j - 1
def rinv (u:List Nat):List Nat:=(u.map jinv).reverse
def dOf (e:Ex) (x:List Int):Nat:=e.D.getD (e.S.idxOf x) 0
def dw (mv:List (List Int)) (A:List Int) (e:Ex):Nat→List Int→List Nat
  | 0,_=>[]
  | d+1,s=>match (List.range A.length).find? (fun j=>decide (dOf e (compI s (letP mv (A.getD j 0)))=d)) with
    | some j=>j :: dw mv A e d (compI s (letP mv (A.getD j 0)))
    | none=>dw mv A e d s
end
end Bf
end Go.AM
namespace Go.AM
namespace Ch
/-! what the walk of 'add' goes through -/
def cst (l:List Nat):List Int:=l.map fun (x:Nat)=>(x:Int)
theorem cst_len (l:List Nat):(cst l).length=l.length:=by simp [cst]
theorem cst_app (a b:List Nat):cst (a++b)=cst a++cst b:=by simp [cst]
def sch (gs row:List (List Int)) (p j:Nat):List Int:=compI (compI (row.getD p []) (gs.getD j default)) (invI (row.getD (pt (gs.getD j default) p) []))
def adI (n d l:Nat) (gs row:List (List Int)) (p:Nat) (C:List Lv):Nat→List Lv
  | 0=>C
  | j+1=>addL n d (adI n d l gs row p C j) (l+1) (sch gs row p j)
def adO (n d l:Nat) (gs row:List (List Int)) (O:List Nat) (C:List Lv):Nat→List Lv
  | 0=>C
  | i+1=>adI n d l gs row (O.getD i 0) (adO n d l gs row O C i) gs.length
structure Part (n d l:Nat) (C:List Lv):Prop where
  good:Good n C l
  len:C.length=d
  wt:Wt C
theorem Part.add {n d l:Nat} (h1:1≤n) (h2:n≤20) {C:List Lv} (h:Part n d l C) (hn:l+d=n) {g:List Int} (hg:PN n g) (hf:∀ i,i<l→pt g i=i):Part n d l (addL n d C l g):=by
  have a:=(addL_ok h1 h2 d C l g h.good h.len hn hg hf).1
  exact ⟨a.good,by rw [a.len,h.len],(addL_grw h1 h2 d C l g h.good h.len hn hg hf).wt h.wt⟩
end Ch
end Go.AM
namespace Go.AM
namespace Bf
open Ch (PN pt idL Gen newL ordL cst cst_app cst_len)
/-! the map from a state's key to its place -/
open Classical in
noncomputable def idxF (v:Value):List (List Int)→Nat→Option Value
  | [],_=>none
  | s :: S,i=>if v=.string (skey s) then some (.int .i64 i) else idxF v S (i+1)
noncomputable def idxM (S:List (List Int)):Value→Option Value:=fun v=>idxF v S 0
open Classical in
theorem idxF_app (v:Value) (s:List Int):∀ (S:List (List Int)) (i:Nat),idxF v (S++[s]) i=match idxF v S i with | some x=>some x | none=>if v=.string (skey s) then some (.int .i64 ((i+S.length:Nat))) else none
  | [],i=>by
    show (if v=.string (skey s) then some (Value.int .i64 i) else none)=_
    simp [idxF]
  | t :: S,i=>by
    rw [List.cons_append,idxF,idxF]
    by_cases h:v=.string (skey t)
    · rw [if_pos h,if_pos h]
    · rw [if_neg h,if_neg h,idxF_app v s S (i+1)]
      rw [List.length_cons,show i+1+S.length=i+(S.length+1) by omega]
def nxR (mv:List (List Int)) (A:List Int) (k:Nat) (e:Ex):Nat→List Nat
  | 0=>[]
  | j+1=>nxR mv A k e j++[(inn mv A k e (j+1)).S.idxOf (nbr mv e k (A.getD j 0))]
def nxO (mv:List (List Int)) (A:List Int) (n:Nat):Nat→List (List Nat)
  | 0=>[]
  | k+1=>if k<(out mv A n k).S.length then nxO mv A n k++[nxR mv A k (out mv A n k) A.length] else nxO mv A n k
def byL (A:List Int) (J:List Nat):List Int:=match J with | []=>[] | _ :: r=>0 :: r.map fun j=>A.getD j 0
end Bf
end Go.AM
namespace Go.AM
namespace Bf
open Ch (PN pt idL Gen cst cst_app cst_len)
/-! reversal by exchanges -/
def rvK (l:List Int) (k:Nat):List Int:=(List.range l.length).map fun i=>if i<k∨l.length - k≤i then l.getD (l.length - 1 - i) 0 else l.getD i 0
def ltr (A:List Int) (w:List Nat):List Int:=w.map fun j=>A.getD j 0
end Bf
end Go.AM
namespace Go.AM
namespace Bf
open Ch (PN pt idL)
def lsN (S:List (List Int)) (k:Nat):Int:=((movL (S.getD k default) (S.getD k default).length).length:Int)
def lsK (S:List (List Int)):Nat→Int
  | 0=>-1
  | k+1=>if lsK S k<0∨lsN S (k+1)<lsK S k then lsN S (k+1) else lsK S k
end Bf
end Go.AM
namespace Go.AM
namespace Bf
open Ch (PN pt idL)
def fmT (A:List Int) (e:Ex) (i:Nat):Twist:=⟨ltr A (wdE e i),movL (e.S.getD i default) (e.S.getD i default).length⟩
def fmC (e:Ex) (md ms:Int) (i:Nat):Prop:=(e.D.getD i 0:Int)≤md∧lsN e.S i≤ms
instance (e:Ex) (md ms:Int) (i:Nat):Decidable (fmC e md ms i):=by unfold fmC;infer_instance
def fmA (A:List Int) (e:Ex) (md ms:Int):Nat→List Twist
  | 0=>[]
  | i+1=>if i≠0∧fmC e md ms i then fmA A e md ms i++[fmT A e i] else fmA A e md ms i
section
variable {A:List Int} {e:Ex} {md ms:Int}
def fmR (A:List Int) (e:Ex) (w:Bool) (md ms:Int):List Twist×Bool :=
  if w=true∧(within md 0 30=true∧within ms 0 20=true)∧(fmA A e md ms e.S.length).length≤200 then (fmA A e md ms e.S.length,true) else ([],false)
end
end Bf
end Go.AM
namespace Go.AM
namespace Bf
def wsB (e:Ex) (T:List Int) (i:Nat):Bool:=!(i == 0) && !((movL (e.S.getD i default) (e.S.getD i default).length).any fun x=>!(T.any fun y=>x == y))
def wsR (A:List Int) (e:Ex) (ok:Bool) (T:List Int):List Int×Bool :=
  if ok=true then match (List.range e.S.length).find? (wsB e T) with
    | some i=>if e.D.getD i 0≤200 then (ltr A (wdE e i),true) else ([],false)
    | none=>([],false)
  else ([],false)
end Bf
end Go.AM
namespace Go.AM
namespace Bf
open Ch (PN pt idL)
theorem mov_nil {n:Nat} {s:List Int} (h:PN n s) (hm:movL s n=[]):s=idL n:=by
  refine ext_getD 0 (by rw [runI_len];exact h.1) fun x hx=>?_
  have hx':x<n:=by have:=h.1;omega
  rw [runI_get 0 _ x hx']
  have:¬ ((x:Int)∈movL s n):=by rw [hm];simp
  rw [mem_movL] at this
  by_cases c:s.getD x 0=(x:Int)
  · rw [c];omega
  · exact absurd ⟨x,hx',c,rfl⟩ this
def inT (T:List Int) (s:List Int):Bool:=!((movL s s.length).any fun x=>!(T.any fun y=>x == y))
def fdK (e:Ex) (T:List Int):Nat→Bool
  | 0=>false
  | k+1=>fdK e T k || inT T (e.S.getD (k+1) default)
end Bf
end Go.AM
namespace Go.AM
/-! a word backwards,each letter turned -/
def invW (w:List Int):List Int:=w.reverse.map fun x=>-x
def invK (w:List Int):Nat→List Int
  | 0=>[]
  | k+1=>invK w k++[-(w.getD (w.length - 1 - k) 0)]
theorem invK_len (w:List Int):∀ k,(invK w k).length=k
  | 0=>rfl
  | k+1=>by rw [invK,List.length_append,invK_len w k];rfl
theorem invW_len (w:List Int):(invW w).length=w.length:=by simp [invW]
theorem invK_take (w:List Int):∀ k,k≤w.length→invK w k=(w.reverse.take k).map fun x=>-x
  | 0,_=>rfl
  | k+1,h=>by
    rw [invK,invK_take w k (by omega)]
    have hk:k<w.reverse.length:=by simpa using (by omega:k<w.length)
    rw [List.take_succ_eq_append_getElem hk,List.map_append]
    congr 1
    simp only [List.map_cons,List.map_nil,List.getElem_reverse]
    rw [List.getD_eq_getElem?_getD,List.getElem?_eq_getElem (by omega),Option.getD_some]
theorem invK_all (w:List Int):invK w w.length=invW w:=by
  rw [invK_take w _ (Nat.le_refl _),invW,List.take_of_length_le (by simp)]
theorem invW_mem {w:List Int} {x:Int} (h:x∈invW w):-x∈w:=by
  unfold invW at h
  obtain ⟨y,hy,rfl⟩:=List.mem_map.1 h
  rw [Int.neg_neg];exact List.mem_reverse.1 hy
end Go.AM
namespace Go.AM
/-! the solved state,and what a word of moves does to it -/
theorem effK_app (n:Int) (mv:List (List Int)) (w v:List Int):∀ k,k≤w.length→effK n mv (w++v) k=effK n mv w k
  | 0,_=>rfl
  | k+1,hk=>by
    rw [effK,effK,effK_app n mv w v k (by omega),getD_app_l _ _ _ _ (by omega)]
end Go.AM
namespace Go.AM
namespace Bf
open Ch (PN pt idL pt_comp comp_assoc comp_inv inv_comp id_comp pt_id)
section
variable {n:Nat} {mv:List (List Int)}
theorem let_pn (h1:1≤n) (h2:n≤20) (hm:∀ s∈mv,PN n s) {x:Int} (hx:letOk mv.length x):PN n (letP mv x)∧PN n (letP mv (-x))∧compI (letP mv x) (letP mv (-x))=idL n:=by
  unfold letOk at hx
  by_cases c:0<x
  · have hM:=hm _ (mem_getD mv (x - 1).toNat default (by omega))
    have e1:letP mv x=mv.getD (x - 1).toNat default:=by unfold letP;rw [if_pos c]
    have e2:letP mv (-x)=invI (mv.getD (x - 1).toNat default):=by unfold letP;rw [if_neg (by omega),Int.neg_neg]
    rw [e1,e2]
    exact ⟨hM,hM.inv,comp_inv hM⟩
  · have hM:=hm _ (mem_getD mv (-x - 1).toNat default (by omega))
    have e1:letP mv x=invI (mv.getD (-x - 1).toNat default):=by unfold letP;rw [if_neg c]
    have e2:letP mv (-x)=mv.getD (-x - 1).toNat default:=by unfold letP;rw [if_pos (by omega)]
    rw [e1,e2]
    exact ⟨hM.inv,hM,inv_comp hM⟩
theorem eff_pn (h1:1≤n) (h2:n≤20) (hm:∀ s∈mv,PN n s) {w:List Int} (hw:∀ x∈w,letOk mv.length x):∀ k,k≤w.length→PN n (effK n mv w k)
  | 0,_=>PN.one h1 h2
  | k+1,hk=>by
    rw [effK]
    exact (eff_pn h1 h2 hm hw k (by omega)).comp (let_pn h1 h2 hm (hw _ (mem_getD w k 0 (by omega)))).1
theorem eff_mul (h1:1≤n) (h2:n≤20) (hm:∀ s∈mv,PN n s) {u v:List Int} (hu:∀ x∈u,letOk mv.length x) (hv:∀ x∈v,letOk mv.length x):∀ k,k≤v.length→effK n mv (u++v) (u.length+k)=compI (effK n mv u u.length) (effK n mv v k)
  | 0,_=>by
    have hp:=eff_pn h1 h2 hm hu u.length (Nat.le_refl _)
    rw [Nat.add_zero,effK_app _ _ _ _ _ (Nat.le_refl _)]
    exact (Ch.comp_id hp).symm
  | k+1,hk=>by
    rw [← Nat.add_assoc,effK,effK,eff_mul h1 h2 hm hu hv k (by omega),getD_app_r]
    exact comp_assoc (eff_pn h1 h2 hm hu _ (Nat.le_refl _)) (eff_pn h1 h2 hm hv k (by omega)) (let_pn h1 h2 hm (hv _ (mem_getD v k 0 (by omega)))).1
theorem eff_app (h1:1≤n) (h2:n≤20) (hm:∀ s∈mv,PN n s) {u v:List Int} (hu:∀ x∈u,letOk mv.length x) (hv:∀ x∈v,letOk mv.length x):effK n mv (u++v) (u++v).length=compI (effK n mv u u.length) (effK n mv v v.length):=by
  rw [List.length_append,eff_mul h1 h2 hm hu hv _ (Nat.le_refl _)]
theorem eff_one (h1:1≤n) (h2:n≤20) (hm:∀ s∈mv,PN n s) {x:Int} (hx:letOk mv.length x):effK n mv [x] [x].length=letP mv x:=by
  show compI (idL n) (letP mv x)=_
  exact id_comp (let_pn h1 h2 hm hx).1
theorem let_neg {x:Int} (h:letOk mv.length x):letOk mv.length (-x):=by unfold letOk at *;omega
theorem eff_inv1 (h1:1≤n) (h2:n≤20) (hm:∀ s∈mv,PN n s):∀ r:List Int,(∀ x∈r,letOk mv.length x)→compI (effK n mv r.reverse r.reverse.length) (effK n mv (r.map fun x=>-x) (r.map fun x=>-x).length)=idL n
  | [],_=>Ch.comp_id (PN.one h1 h2)
  | x :: r,h=>by
    have hx:=h x (List.mem_cons_self ..)
    have hr:=fun y hy=>h y (List.mem_cons_of_mem _ hy)
    have hr1:∀ y∈r.reverse,letOk mv.length y:=fun y hy=>hr y (List.mem_reverse.1 hy)
    have hr2:∀ y∈r.map fun x=>-x,letOk mv.length y:=fun y hy=>by
      obtain ⟨z,hz,rfl⟩:=List.mem_map.1 hy
      exact let_neg (hr z hz)
    have s1:∀ y∈[x],letOk mv.length y:=fun y hy=>by rw [List.mem_singleton.1 hy];exact hx
    have s2:∀ y∈[-x],letOk mv.length y:=fun y hy=>by rw [List.mem_singleton.1 hy];exact let_neg hx
    obtain ⟨l1,l2,l3⟩:=let_pn h1 h2 hm hx
    have p1:=eff_pn h1 h2 hm hr1 _ (Nat.le_refl _)
    have p2:=eff_pn h1 h2 hm hr2 _ (Nat.le_refl _)
    have ih:=eff_inv1 h1 h2 hm r hr
    have e1:(x :: r).reverse=r.reverse++[x]:=by simp
    have e2:((x :: r).map fun x=>-x)=[-x]++r.map fun x=>-x:=by simp
    rw [e1,e2,eff_app h1 h2 hm hr1 s1,eff_app h1 h2 hm s2 hr2,eff_one h1 h2 hm hx,eff_one h1 h2 hm (let_neg hx)]
    rw [comp_assoc p1 l1 (l2.comp p2),← comp_assoc l1 l2 p2,l3,id_comp p2,ih]
theorem eff_inv (h1:1≤n) (h2:n≤20) (hm:∀ s∈mv,PN n s) {w:List Int} (hw:∀ x∈w,letOk mv.length x):compI (effK n mv w w.length) (effK n mv (invW w) (invW w).length)=idL n:=by
  have:=eff_inv1 h1 h2 hm w.reverse (fun x hx=>hw x (List.mem_reverse.1 hx))
  rwa [List.reverse_reverse] at this
end
end Bf
end Go.AM
