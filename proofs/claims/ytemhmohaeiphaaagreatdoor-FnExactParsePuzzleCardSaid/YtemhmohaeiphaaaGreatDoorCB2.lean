/-
  CONTRACTS of functions of the program,and what they compute,by content.
-/
import Derived.Test.YtemhmohaeiphaaaGreatDoorCB0
import Derived.Test.YtemhmohaeiphaaaGreatDoorCB1
import Derived.Test.YtemhmohaeiphaaaGreatDoorM2Facts
set_option linter.unusedVariables false
set_option linter.defProp false
set_option linter.unusedSimpArgs false
set_option maxRecDepth 8000
namespace Go.AM
open Go.Proofs
def supR (p:Puzz) (w:List Int):List Int:=if puzzOk p∧wordOk p.mv.length w then movL (effK p.n p.mv w w.length) p.n.toNat else []
theorem markInt64SS (l:List (List Int)) (k:Int) (h0:0≤k) (h1:k+cnts l≤1099511627776) (hl:smallSS l):SpecX Tryz.prog 84 [sst l,.i64 k] [some (sst (mks k l))] (.i64 (k+cnts l)):=by
  have hl0:=hl.1
  refine spec_of_awp (M:=MM) (np:=2) (fz:=false) mixed Tryz.func84 rfl rfl (by decide) rfl (Nat.le_refl _) (by decide +kernel) (.inl rfl) (by simp only [sigsOk_some,sigsOk_nil,sig_tr,List.length_map,mks_len,and_self]) ?_
  simp -dsimp -implicitDefEqProofs (disch:=first|omega|(simp only [lenr];try omega)) only [↓amPre,↓reduceIte,reduceCtorEq,Nat.reduceEqDiff,Nat.reduceBEq,Nat.reduceAdd,Nat.reduceLeDiff,Nat.reduceSub,Nat.reduceMul,Int.reduceToNat,MM,bu0,cbP9]
  have hr:=mks_len k l
  refine awp_loop (fun j st=>j≤l.length∧st.fr 5=.i64 j∧st.fr 1=.i64 (k+cnts (l.take j))∧st.fr 0=.ref 0 [] 1 0 l.length∧st.mem 0=some (sst (mixL (mks k l) l j))) (l.length) ?_ ?_
  · simp -dsimp -implicitDefEqProofs (disch:=first|omega|(simp only [lenr];try omega)) only [↓amPre,↓reduceIte,reduceCtorEq,Nat.reduceEqDiff,Nat.reduceBEq,Nat.reduceAdd,Nat.reduceLeDiff,Nat.reduceSub,Nat.reduceMul,Int.reduceToNat,MM,bu0,cbP9,mixL_zero]
    simp [cnts]
  rintro j st _ ⟨hj,f5,f1,f0,m0⟩
  have hml:=mixL_len (mks k l) l j hr
  by_cases hlt:j<l.length
  · have hs:=mixL_set (mks k l) l j default hr hlt
    have hg:=mixL_get (mks k l) l j default hr hlt
    rw [mks_get _ _ _ hlt,mk_ints] at hs
    have ct:=cnts_take l j hlt
    have cl:=cnts_le1 l j hlt
    rw [cnt_ints] at ct cl
    simp -dsimp -implicitDefEqProofs (disch:=first|omega|(simp only [lenr];try omega)) only [↓amPre,↓reduceIte,reduceCtorEq,Nat.reduceEqDiff,Nat.reduceBEq,Nat.reduceAdd,Nat.reduceLeDiff,Nat.reduceSub,Nat.reduceMul,Int.reduceToNat,MM,bu0,cbP9,f5,f1,f0,m0,hml,hg]
    refine callX_of (markInt64S (l.getD j default) _ (by omega) (by omega) (by omega)) ?_
    simp -dsimp -implicitDefEqProofs (disch:=first|omega|(simp only [lenr];try omega)) only [↓amPre,↓reduceIte,reduceCtorEq,Nat.reduceEqDiff,Nat.reduceBEq,Nat.reduceAdd,Nat.reduceLeDiff,Nat.reduceSub,Nat.reduceMul,Int.reduceToNat,MM,bu0,cbP9,f5,f1,f0,m0,hml,hg,hs,runI_len]
    repeat' (first|omega|rfl|exact i64c (by omega)|exact vic (by omega)|apply ai)
  · have hj':j=l.length:=by omega
    subst hj'
    have:=mixL_all (mks k l) l l.length (by omega) (by omega)
    simp -dsimp -implicitDefEqProofs (disch:=first|omega|(simp only [lenr];try omega)) only [↓amPre,↓reduceIte,reduceCtorEq,Nat.reduceEqDiff,Nat.reduceBEq,Nat.reduceAdd,Nat.reduceLeDiff,Nat.reduceSub,Nat.reduceMul,Int.reduceToNat,MM,bu0,cbP9,f5,f1,f0,m0,hml,this,List.take_length]
end Go.AM
set_option maxRecDepth 8000
namespace Go.AM
open Go.Proofs
def canScr (p:Puzz) (x c:Int):Prop:=puzzOk p∧within x 0 2147483646=true∧within c 0 200=true
instance (p:Puzz) (x c:Int):Decidable (canScr p x c):=by unfold canScr;infer_instance
def scrR (p:Puzz) (x c:Int):List Int:=if canScr p x c then scrW p.mv.length x c.toNat else []
end Go.AM
set_option maxRecDepth 8000
namespace Go.AM
open Go.Proofs
def pwL (e:List Int) (k:Nat):List Int:=(List.range e.length).map fun x=>((itN (fOf e) k x:Nat):Int)
def lcmK (L:List (List Int)):Nat→Nat
  | 0=>1
  | j+1=>Nat.lcm (lcmK L j) (L.getD j default).length
def ordE (e:List Int):Nat:=lcmK (longC (cycI e)) (longC (cycI e)).length
def spK (e:List Int):Nat→Nat×Nat
  | 0=>(0,0)
  | j+1=>if (spK e j).1=0∨(movL (pwL e (j+1)) e.length).length<(spK e j).2 then (j+1,(movL (pwL e (j+1)) e.length).length) else spK e j
end Go.AM
set_option maxRecDepth 8000
namespace Go.AM
open Go.Proofs
def treeGcd:OT:=(.alt 0 (.alt 1 (.alt 2 (.alt 3 (.alt 4 (.alt 5 .done .stop) .stop) (.alt 4 (.alt 3 (.alt 5 .done .stop) .stop) .stop)) (.alt 4 (.alt 2 (.alt 3 (.alt 5 .done .stop) .stop) .stop) .stop)) (.alt 2 (.alt 1 (.alt 3 (.alt 4 (.alt 5 .done .stop) .stop) (.alt 4 (.alt 3 (.alt 5 .done .stop) .stop) .stop)) .stop) .stop)) (.alt 1 (.alt 0 (.alt 2 (.alt 3 (.alt 4 (.alt 5 .done .stop) .stop) (.alt 4 (.alt 3 (.alt 5 .done .stop) .stop) .stop)) (.alt 4 (.alt 2 (.alt 3 (.alt 5 .done .stop) .stop) .stop) .stop)) (.alt 2 (.alt 0 (.alt 3 (.alt 4 (.alt 5 .done .stop) .stop) (.alt 4 (.alt 3 (.alt 5 .done .stop) .stop) .stop)) (.alt 3 (.alt 0 (.alt 4 (.alt 5 .done .stop) .stop) .stop) .stop)) .stop)) (.alt 2 (.alt 0 (.alt 1 (.alt 3 (.alt 4 (.alt 5 .done .stop) .stop) (.alt 4 (.alt 3 (.alt 5 .done .stop) .stop) .stop)) .stop) (.alt 1 (.alt 0 (.alt 3 (.alt 4 (.alt 5 .done .stop) .stop) (.alt 4 (.alt 3 (.alt 5 .done .stop) .stop) .stop)) (.alt 3 (.alt 0 (.alt 4 (.alt 5 .done .stop) .stop) .stop) .stop)) .stop)) .stop)))
def gcK (a b:Nat):Nat→Nat×Nat
  | 0=>(a,b)
  | k+1=>((gcK a b k).2,(gcK a b k).1 % (gcK a b k).2)
end Go.AM
set_option maxRecDepth 8000
namespace Go.AM
open Go.Proofs
def spR (p:Puzz) (w:List Int):Nat×Nat:=if puzzOk p∧wordOk p.mv.length w then spK (effK p.n p.mv w w.length) (ordE (effK p.n p.mv w w.length) - 1) else (0,0)
abbrev spA (x:Nat×Nat):AV:=.tup [.i64 x.1,.i64 x.2]
end Go.AM
set_option maxRecDepth 8000
namespace Go.AM
open Go.Proofs
def pwK (p:List Int) (k i:Nat):List Int:=(List.range i).map fun x=>((itN (fOf p) k x:Nat):Int)
end Go.AM
set_option maxRecDepth 8000
namespace Go.AM
open Go.Proofs
def scrS (p:Puzz) (x c:Int):List Int:=if canScr p x c then effK p.n p.mv (scrR p x c) (scrR p x c).length else []
end Go.AM
set_option maxRecDepth 8000
namespace Go.AM
open Go.Proofs
theorem keyB_str (s:ByteArray):keyB true (.string s)=true:=rfl
theorem keyB_int (n:Int):keyB false (.int .i64 n)=true:=rfl
theorem heldInt64SS (l:List (List Int)) (k:Int) (h0:0≤k) (h1:k+cnts l≤1099511627776) (hl:smallSS l):SpecAt Tryz.prog 85 [ssl (mks k l),.i64 k] (.i64 (k+cnts l)):=by
  have hl0:=hl.1
  refine spec_of_awp (M:=MM) (np:=2) (fz:=true) mixed Tryz.func85 rfl rfl (by decide) rfl (Nat.le_refl _) (by decide +kernel) (.inr ⟨rfl,rfl⟩) trivial ?_
  simp -dsimp -implicitDefEqProofs (disch:=first|omega|(simp only [lenr];try omega)) only [↓amPre,↓reduceIte,reduceCtorEq,Nat.reduceEqDiff,Nat.reduceBEq,Nat.reduceAdd,Nat.reduceLeDiff,Nat.reduceSub,Nat.reduceMul,Int.reduceToNat,MM,bu0,cbP9,keyB_str,keyB_int]
  have hr:=mks_len k l
  refine awp_loop (fun j st=>j≤l.length∧st.fr 5=.i64 j∧st.fr 1=.i64 (k+cnts (l.take j))∧st.fr 0=ssl (mks k l)) (l.length) ?_ ?_
  · simp -dsimp -implicitDefEqProofs (disch:=first|omega|(simp only [lenr];try omega)) only [↓amPre,↓reduceIte,reduceCtorEq,Nat.reduceEqDiff,Nat.reduceBEq,Nat.reduceAdd,Nat.reduceLeDiff,Nat.reduceSub,Nat.reduceMul,Int.reduceToNat,MM,bu0,cbP9,keyB_str,keyB_int]
    simp [cnts]
  rintro j st _ ⟨hj,f5,f1,f0⟩
  by_cases hlt:j<l.length
  · have hg:=mks_get k l j hlt
    rw [mk_ints] at hg
    have ct:=cnts_take l j hlt
    have cl:=cnts_le1 l j hlt
    rw [cnt_ints] at ct cl
    simp -dsimp -implicitDefEqProofs (disch:=first|omega|(simp only [lenr];try omega)) only [↓amPre,↓reduceIte,reduceCtorEq,Nat.reduceEqDiff,Nat.reduceBEq,Nat.reduceAdd,Nat.reduceLeDiff,Nat.reduceSub,Nat.reduceMul,Int.reduceToNat,MM,bu0,cbP9,keyB_str,keyB_int,f5,f1,f0,hr,hg]
    refine callP_of (heldInt64S (k+cnts (l.take j)) (l.getD j default).length (by omega) (by omega) (by omega)) ?_
    simp -dsimp -implicitDefEqProofs (disch:=first|omega|(simp only [lenr];try omega)) only [↓amPre,↓reduceIte,reduceCtorEq,Nat.reduceEqDiff,Nat.reduceBEq,Nat.reduceAdd,Nat.reduceLeDiff,Nat.reduceSub,Nat.reduceMul,Int.reduceToNat,MM,bu0,cbP9,keyB_str,keyB_int,f5,f1,f0,hr,hg]
    repeat' (first|omega|rfl|exact i64c (by omega)|exact vic (by omega)|apply ai)
  · have hj':j=l.length:=by omega
    subst hj'
    simp -dsimp -implicitDefEqProofs (disch:=first|omega|(simp only [lenr];try omega)) only [↓amPre,↓reduceIte,reduceCtorEq,Nat.reduceEqDiff,Nat.reduceBEq,Nat.reduceAdd,Nat.reduceLeDiff,Nat.reduceSub,Nat.reduceMul,Int.reduceToNat,MM,bu0,cbP9,keyB_str,keyB_int,f5,f1,f0,hr,List.take_length]
def cbU49:=(ai (cbP9) (ai (@keyB_str) (@keyB_int)))

end Go.AM
set_option maxRecDepth 8000
namespace Go.AM
open Go.Proofs
def MF:FuncId→List Bool:=fun f=>if f=4294967295 then [true] else MM f
theorem markPuzzleX (p:Puzz) (k:Int) (h0:0≤k) (h1:k+cnts p.mv≤1099511627776) (h:smallP p):SpecX Tryz.prog 30 [p.tr,.i64 k] [some (Puzz.tr ⟨p.n,p.nm,mks k p.mv⟩)] (.i64 (k+cnts p.mv)):=by
  refine spec_of_awp (M:=MF) (np:=2) (fz:=false) mixed Tryz.func30 rfl rfl (by decide) rfl (Nat.le_refl _) (by decide +kernel) (.inl rfl) (by simp only [sigsOk_some,sigsOk_nil,and_true,Puzz.tr,sig_agg,List.map_cons,List.map_nil,sig1_v,sig1_tr,List.length_map,mks_len]) ?_
  simp -dsimp -implicitDefEqProofs (disch:=first|omega|(simp only [lenr];try omega)) only [↓amPre,↓reduceIte,reduceCtorEq,Nat.reduceEqDiff,Nat.reduceBEq,Nat.reduceAdd,Nat.reduceLeDiff,Nat.reduceSub,Nat.reduceMul,Int.reduceToNat,MM,bu0,cbU49,MF]
  refine callX_of (markInt64SS p.mv _ h0 h1 h.2.2) ?_
  simp -dsimp -implicitDefEqProofs (disch:=first|omega|(simp only [lenr];try omega)) only [↓amPre,↓reduceIte,reduceCtorEq,Nat.reduceEqDiff,Nat.reduceBEq,Nat.reduceAdd,Nat.reduceLeDiff,Nat.reduceSub,Nat.reduceMul,Int.reduceToNat,MM,bu0,cbU49,MF,mks_len]
theorem heldPuzzle (p:Puzz) (k:Int) (h0:0≤k) (h1:k+cnts p.mv≤1099511627776) (h:smallP p):SpecAt Tryz.prog 31 [Puzz.sl ⟨p.n,p.nm,mks k p.mv⟩,.i64 k] (.i64 (k+cnts p.mv)):=by
  refine spec_of_awp (M:=MM) (np:=2) (fz:=true) mixed Tryz.func31 rfl rfl (by decide) rfl (Nat.le_refl _) (by decide +kernel) (.inr ⟨rfl,rfl⟩) trivial ?_
  simp -dsimp -implicitDefEqProofs (disch:=first|omega|(simp only [lenr];try omega)) only [↓amPre,↓reduceIte,reduceCtorEq,Nat.reduceEqDiff,Nat.reduceBEq,Nat.reduceAdd,Nat.reduceLeDiff,Nat.reduceSub,Nat.reduceMul,Int.reduceToNat,MM,bu0,cbU49,MF]
  refine callP_of (heldInt64SS p.mv _ h0 h1 h.2.2) ?_
  have hn:¬ k+cnts p.mv<0:=by omega
  simp -dsimp -implicitDefEqProofs (disch:=first|omega|(simp only [lenr];try omega)) only [↓amPre,↓reduceIte,reduceCtorEq,Nat.reduceEqDiff,Nat.reduceBEq,Nat.reduceAdd,Nat.reduceLeDiff,Nat.reduceSub,Nat.reduceMul,Int.reduceToNat,MM,bu0,cbU49,MF,hn]
def cmpP (m:Model):Puzz:=⟨facets m.ks,m.nm,m.mv.map (permOf m.ks)⟩
def cmpR (m:Model):Puzz:=if modelOk m then cmpP m else ⟨0,[],[]⟩
end Go.AM
set_option maxRecDepth 8000
namespace Go.AM
open Go.Proofs
open Ps (ppz pmd pst)
theorem ppz_small (s:List UInt8):smallP (ppz s).1∧cnts (ppz s).1.mv≤160:=by
  rcases Ps.ppz_cases s with ⟨p,hp,_,ok⟩ | ⟨e,he,_⟩
  · rw [hp]
    have h1:=ok.1.1
    have h2:=ok.1.2.1
    have h3:=ok.2.2
    have h4:∀ s∈p.mv,s.length≤20:=fun s hs=>by have:=ok.1.2.2 s hs;have:=this.1;omega
    refine ⟨⟨by show intOk p.n;unfold intOk;omega,by show p.nm.length≤_;omega,by show p.mv.length≤_;omega,fun s hs=>by have:=h4 s hs;omega⟩,?_⟩
    have:=cnts_bound p.mv 20 h4
    show cnts p.mv≤160
    omega
  · rw [he]
    exact ⟨⟨by show intOk 0;unfold intOk;omega,by simp [Ps.noP],by simp [Ps.noP],fun s hs=>by cases hs⟩,by simp [Ps.noP,cnts]⟩
theorem lawParsePuzzle (s:List UInt8):SpecAt Tryz.prog 6 [.st s] (.bl true):=by
  refine spec_of_awp (M:=MM) (np:=1) (fz:=true) mixed Tryz.func6 rfl rfl (by decide) rfl (Nat.le_refl _) (by decide +kernel) (.inr ⟨rfl,rfl⟩) trivial ?_
  by_cases c:(1048576:Int)<((s.length:Nat):Int)
  · simp -dsimp -implicitDefEqProofs (disch:=first|omega|(simp only [lenr];try omega)) only [↓amPre,↓reduceIte,reduceCtorEq,Nat.reduceEqDiff,Nat.reduceBEq,Nat.reduceAdd,Nat.reduceLeDiff,Nat.reduceSub,Nat.reduceMul,Int.reduceToNat,MM,bu0,cbJ1,cbJ16,cbU49,MF,lt_true c]
  obtain ⟨hr,hc⟩:=ppz_small s
  have q1:=Ps.parsePuzzleS s (by omega)
  have q2:=Ps.parsePuzzleI s (by omega)
  generalize (ppz s).1=r at *
  generalize (ppz s).2=b at *
  have hrf:Puzz.sl ⟨r.n,r.nm,r.mv⟩=r.sl:=rfl
  simp -dsimp -implicitDefEqProofs (disch:=first|omega|(simp only [lenr];try omega)) only [↓amPre,↓reduceIte,reduceCtorEq,Nat.reduceEqDiff,Nat.reduceBEq,Nat.reduceAdd,Nat.reduceLeDiff,Nat.reduceSub,Nat.reduceMul,Int.reduceToNat,MM,bu0,cbJ1,cbJ16,cbU49,MF,lt_false (Int.not_lt.1 c)]
  refine callP_of (q1) ?_
  simp -dsimp -implicitDefEqProofs (disch:=first|omega|(simp only [lenr];try omega)) only [↓amPre,↓reduceIte,reduceCtorEq,Nat.reduceEqDiff,Nat.reduceBEq,Nat.reduceAdd,Nat.reduceLeDiff,Nat.reduceSub,Nat.reduceMul,Int.reduceToNat,MM,bu0,cbJ1,cbJ16,cbU49,MF,ssfz,mks_len,bne_self_eq_false]
  refine callP_of (q2) ?_
  simp -dsimp -implicitDefEqProofs (disch:=first|omega|(simp only [lenr];try omega)) only [↓amPre,↓reduceIte,reduceCtorEq,Nat.reduceEqDiff,Nat.reduceBEq,Nat.reduceAdd,Nat.reduceLeDiff,Nat.reduceSub,Nat.reduceMul,Int.reduceToNat,MM,bu0,cbJ1,cbJ16,cbU49,MF,ssfz,mks_len,bne_self_eq_false]
  refine callP_of (eqPuzzle r r hr) ?_
  simp -dsimp -implicitDefEqProofs (disch:=first|omega|(simp only [lenr];try omega)) only [↓amPre,↓reduceIte,reduceCtorEq,Nat.reduceEqDiff,Nat.reduceBEq,Nat.reduceAdd,Nat.reduceLeDiff,Nat.reduceSub,Nat.reduceMul,Int.reduceToNat,MM,bu0,cbJ1,cbJ16,cbU49,MF,ssfz,mks_len,bne_self_eq_false]
  refine callX_of (markPuzzleX r 1 (by omega) (by omega) hr) ?_
  simp -dsimp -implicitDefEqProofs (disch:=first|omega|(simp only [lenr];try omega)) only [↓amPre,↓reduceIte,reduceCtorEq,Nat.reduceEqDiff,Nat.reduceBEq,Nat.reduceAdd,Nat.reduceLeDiff,Nat.reduceSub,Nat.reduceMul,Int.reduceToNat,MM,bu0,cbJ1,cbJ16,cbU49,MF,ssfz,mks_len,bne_self_eq_false]
  refine callP_of (heldPuzzle r 1 (by omega) (by omega) hr) ?_
  simp -dsimp -implicitDefEqProofs (disch:=first|omega|(simp only [lenr];try omega)) only [↓amPre,↓reduceIte,reduceCtorEq,Nat.reduceEqDiff,Nat.reduceBEq,Nat.reduceAdd,Nat.reduceLeDiff,Nat.reduceSub,Nat.reduceMul,Int.reduceToNat,MM,bu0,cbJ1,cbJ16,cbU49,MF,ssfz,mks_len,bne_self_eq_false]
  refine callP_of (q2) ?_
  simp -dsimp -implicitDefEqProofs (disch:=first|omega|(simp only [lenr];try omega)) only [↓amPre,↓reduceIte,reduceCtorEq,Nat.reduceEqDiff,Nat.reduceBEq,Nat.reduceAdd,Nat.reduceLeDiff,Nat.reduceSub,Nat.reduceMul,Int.reduceToNat,MM,bu0,cbJ1,cbJ16,cbU49,MF,ssfz,mks_len,bne_self_eq_false]
  refine callP_of (eqPuzzle r r hr) ?_
  simp -dsimp -implicitDefEqProofs (disch:=first|omega|(simp only [lenr];try omega)) only [↓amPre,↓reduceIte,reduceCtorEq,Nat.reduceEqDiff,Nat.reduceBEq,Nat.reduceAdd,Nat.reduceLeDiff,Nat.reduceSub,Nat.reduceMul,Int.reduceToNat,MM,bu0,cbJ1,cbJ16,cbU49,MF,ssfz,mks_len,bne_self_eq_false]
  refine callP_of (heldPuzzle r 1 (by omega) (by omega) hr) ?_
  simp -dsimp -implicitDefEqProofs (disch:=first|omega|(simp only [lenr];try omega)) only [↓amPre,↓reduceIte,reduceCtorEq,Nat.reduceEqDiff,Nat.reduceBEq,Nat.reduceAdd,Nat.reduceLeDiff,Nat.reduceSub,Nat.reduceMul,Int.reduceToNat,MM,bu0,cbJ1,cbJ16,cbU49,MF,ssfz,mks_len,bne_self_eq_false]
end Go.AM
