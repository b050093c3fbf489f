/-
 THE ABSTRACT MACHINE IS SOUND,second part: stores,boxes,maps,appends.
-/
import Derived.Test.YtemhmohaeiphaaaGreatDoorM2SA
import Derived.Laws.AppendOwn
set_option linter.unusedVariables false
set_option linter.unusedSimpArgs false
namespace Go.AM
open Go.RowKit (Below)

def InR (a:AV) (i j:Nat):Prop :=
 match a with
 | .tr _ es=>∃ h:i<es.length,j<(es[i]).cells.length
 | .pt _ x=>i=0∧j<x.cells.length
 | .agg fs=>i=0∧j<fs.length
 | .tup fs=>i=0∧j<fs.length
 | _=>False
def Sing (a:AV):Prop:=a.cells=[a]
theorem sing_of {a:AV} (h:∀ fs,a≠.agg fs):Sing a:=by cases a <;> first | rfl | exact absurd rfl (h _)
theorem sing_node {a:AV} (h:a.isNode=true):Sing a:=sing_of fun fs e=>by subst e;cases h

theorem getD_lt {l:List AV} {j:Nat} (h:j<l.length):l.getD j .any=l[j]:=by simp [List.getD,h]
theorem getD_ge {l:List AV} {j:Nat} (h:l.length≤j):l.getD j .any=.any:=by simp [List.getD,List.getElem?_eq_none h]
theorem set_getD_same {l:List AV} {j:Nat} (h:j<l.length) (x:AV):(l.set j x).getD j .any=x:=by rw [getD_lt (by simpa using h)];simp
theorem set_getD_ne {l:List AV} {i j:Nat} (h:i≠j) (x:AV):(l.set i x).getD j .any=l.getD j .any:=by simp [List.getD,List.getElem?_set_ne h]

theorem inR_of_ne {a:AV} {i j:Nat} (h:a.cellAt i j≠.any):InR a i j:=by
 have key:∀ (l:List AV),l.getD j .any≠.any→j<l.length:=fun l hl=>by
  rcases Nat.lt_or_ge j l.length with q | q
  ·exact q
  ·exact absurd (getD_ge q) hl
 have up:∀ x:AV,(match i with | 0=>x | _+1=>AV.any)≠.any→i=0:=fun x hx=>by
  cases i with
  | zero=>rfl
  | succ i=>exact absurd rfl hx
 cases a <;> try exact absurd rfl h
 case tr z es =>
  have h:(es.getD i .any).cells.getD j .any≠.any:=h
  rcases Nat.lt_or_ge i es.length with q | q
  ·rw [getD_lt q] at h;exact ⟨q,key _ h⟩
  ·rw [getD_ge q] at h
   cases j with
   | zero=>exact absurd rfl h
   | succ j=>exact absurd rfl h
 case pt z x =>
  have h0:=up _ h;subst h0
  exact ⟨rfl,key _ h⟩
 case agg fs =>
  have h0:=up _ h;subst h0
  exact ⟨rfl,key _ h⟩
 case tup fs =>
  have h0:=up _ h;subst h0
  exact ⟨rfl,key _ h⟩

theorem setC_cells (e:AV) (j:Nat) (x:AV) (hj:j<e.cells.length) (hx:Sing x):(e.setC j x).cells=e.cells.set j x:=by
  cases e <;> try (have hj0:j=0:=by simpa [AV.cells] using hj
                   subst hj0;exact hx)
  rfl
theorem cellAt_setAt_same {a:AV} {i j:Nat} {x:AV} (h:InR a i j) (hx:Sing x∨(∃ fs,a=.agg fs)∨∃ fs,a=.tup fs):(a.setAt i j x).cellAt i j=x:=by
 cases a <;> try exact h.elim
 case tr z es =>
  obtain ⟨hi,hj⟩:=h
  have hx:Sing x:=by rcases hx with h | ⟨_,h⟩ | ⟨_,h⟩;exact h;cases h;cases h
  show ((es.set i ((es.getD i .any).setC j x)).getD i .any).cells.getD j .any=x
  rw [set_getD_same hi,getD_lt hi,setC_cells _ _ _ hj hx,set_getD_same hj]
 case pt z y =>
  obtain ⟨rfl,hj⟩:=h
  have hx:Sing x:=by rcases hx with h | ⟨_,h⟩ | ⟨_,h⟩;exact h;cases h;cases h
  show (y.setC j x).cells.getD j .any=x
  rw [setC_cells _ _ _ hj hx,set_getD_same hj]
 case agg fs=>obtain ⟨rfl,hj⟩:=h;exact set_getD_same hj x
 case tup fs=>obtain ⟨rfl,hj⟩:=h;exact set_getD_same hj x
theorem cellAt_setAt_ne {a:AV} {i j i' j':Nat} {x:AV} (h:InR a i j) (hx:Sing x∨(∃ fs,a=.agg fs)∨∃ fs,a=.tup fs) (hne:(i',j')≠(i,j)):(a.setAt i j x).cellAt i' j'=a.cellAt i' j':=by
 have hne':i'≠i∨j'≠j:=by
  by_cases q:i'=i
  ·right;rintro rfl;exact hne (by rw [q])
  ·exact .inl q
 cases a <;> try exact h.elim
 case tr z es =>
  obtain ⟨hi,hj⟩:=h
  have hx:Sing x:=by rcases hx with h | ⟨_,h⟩ | ⟨_,h⟩;exact h;cases h;cases h
  show ((es.set i ((es.getD i .any).setC j x)).getD i' .any).cells.getD j' .any=(es.getD i' .any).cells.getD j' .any
  by_cases q:i'=i
  ·subst q
   rw [set_getD_same hi,getD_lt hi,setC_cells _ _ _ hj hx,set_getD_ne (Ne.symm (hne'.resolve_left (fun q=>q rfl)))]
  ·rw [set_getD_ne (Ne.symm q)]
 case pt z y =>
  obtain ⟨rfl,hj⟩:=h
  have hx:Sing x:=by rcases hx with h | ⟨_,h⟩ | ⟨_,h⟩;exact h;cases h;cases h
  cases i' with
  | succ i'=>rfl
  | zero =>
   show (y.setC j x).cells.getD j' .any=y.cells.getD j' .any
   rw [setC_cells _ _ _ hj hx,set_getD_ne (Ne.symm (hne'.resolve_left (fun q=>q rfl)))]
 case agg fs =>
  obtain ⟨rfl,hj⟩:=h
  cases i' with
  | succ i'=>rfl
  | zero=>exact set_getD_ne (Ne.symm (hne'.resolve_left (fun q=>q rfl))) x
 case tup fs =>
  obtain ⟨rfl,hj⟩:=h
  cases i' with
  | succ i'=>rfl
  | zero=>exact set_getD_ne (Ne.symm (hne'.resolve_left (fun q=>q rfl))) x

def ValidP (x:AV):AV→Path→Prop
 | _,[]=>True
 | R,ij :: Q=>InR R ij.1 ij.2∧((∃ fs,R=.agg fs)∨(∃ fs,R=.tup fs)∨(Sing (R.cellAt ij.1 ij.2)∧(Q=[]→Sing x)))∧ValidP x (R.cellAt ij.1 ij.2) Q

theorem setAt_sing {a:AV} {i j:Nat} {x:AV} (h:Sing a):Sing (a.setAt i j x):=by
 cases a <;> first | rfl | skip
 ·rename_i fs
  have:fs=[.agg fs]:=h
  have:=congrArg SizeOf.sizeOf this
  simp at this
  omega
theorem setP_sing {x:AV}:∀ (Q:Path) (R:AV),Sing R→(Q=[]→Sing x)→Sing (R.setP Q x)
 | [],_,_,h=>h rfl
 | _ :: _,_,h,_=>setAt_sing h
theorem valid_sing {x R:AV} {ij:Nat×Nat} {Q:Path} (h:(∃ fs,R=.agg fs)∨(∃ fs,R=.tup fs)∨(Sing (R.cellAt ij.1 ij.2)∧(Q=[]→Sing x))) :
  Sing ((R.cellAt ij.1 ij.2).setP Q x)∨(∃ fs,R=.agg fs)∨∃ fs,R=.tup fs:=by
 rcases h with h | h | ⟨h1,h2⟩
 ·exact .inr (.inl h)
 ·exact .inr (.inr h)
 ·exact .inl (setP_sing Q _ h1 h2)

theorem at_setP {x:AV}:∀ (Q:Path) (R:AV) (r:Path),ValidP x R Q→(R.setP Q x).at (Q++r)=x.at r
 | [],_,_,_=>rfl
 | ij :: Q,R,r,⟨h1,h2,h3⟩=>by
  show AV.at ((R.setAt ij.1 ij.2 ((R.cellAt ij.1 ij.2).setP Q x)).cellAt ij.1 ij.2) (Q++r)=_
  rw [cellAt_setAt_same h1 (valid_sing h2)]
  exact at_setP Q _ r h3
theorem at_setP_ne {x:AV}:∀ (Q:Path) (R:AV) (p:Path),ValidP x R Q→¬ Q <+: p →
  ((R.setP Q x).at p=R.at p∧¬ p <+: Q)∨∃ ij Q',Q=p++ij :: Q'∧(R.setP Q x).at p=(R.at p).setAt ij.1 ij.2 (((R.at p).cellAt ij.1 ij.2).setP Q' x)∧InR (R.at p) ij.1 ij.2∧ValidP x ((R.at p).cellAt ij.1 ij.2) Q' ∧
   ((∃ fs,R.at p=.agg fs)∨(∃ fs,R.at p=.tup fs)∨(Sing ((R.at p).cellAt ij.1 ij.2)∧(Q'=[]→Sing x)))
 | [],_,p,_,h=>(h (List.nil_prefix)).elim
 | ij :: Q,R,[],⟨h1,h2,h3⟩,_=>.inr ⟨ij,Q,rfl,rfl,h1,h3,h2⟩
 | ij :: Q,R,ij' :: p,⟨h1,h2,h3⟩,hn=>by
  have e0:(R.setP (ij :: Q) x).at (ij' :: p)=AV.at ((R.setAt ij.1 ij.2 ((R.cellAt ij.1 ij.2).setP Q x)).cellAt ij'.1 ij'.2) p:=rfl
  by_cases q:ij'=ij
  ·subst q
   rw [e0,cellAt_setAt_same h1 (valid_sing h2)]
   have hn':¬ Q <+: p:=fun hp=>hn (List.cons_prefix_cons.2 ⟨rfl,hp⟩)
   rcases at_setP_ne Q (R.cellAt ij'.1 ij'.2) p h3 hn' with ⟨h,h'⟩ | ⟨kl,Q',e1,e2,e3,e4,e5⟩
   ·exact .inl ⟨h,fun hp=>h' (List.cons_prefix_cons.1 hp).2⟩
   ·exact .inr ⟨kl,Q',by rw [e1];rfl,e2,e3,e4,e5⟩
  ·left
   rw [e0,cellAt_setAt_ne h1 (valid_sing h2) (by obtain ⟨_,_⟩:=ij;obtain ⟨_,_⟩:=ij';exact q)]
   exact ⟨rfl,fun hp=>q (List.cons_prefix_cons.1 hp).1⟩

theorem prefix_iff:∀ (p q:Path),isPref p q=true↔∃ r,q=p++r
 | [],q=>by simp [isPref]
 | a :: p,[]=>by simp [isPref]
 | a :: p,b :: q=>by
  simp only [isPref,Bool.and_eq_true,decide_eq_true_eq,prefix_iff p q,List.cons_append,List.cons.injEq]
  constructor
  ·rintro ⟨⟨h1,h2⟩,r,hr⟩
   exact ⟨r,by obtain ⟨a1,a2⟩:=a;obtain ⟨b1,b2⟩:=b;simp at h1 h2;simp [h1,h2],hr⟩
  ·rintro ⟨r,h1,h2⟩
   exact ⟨by rw [h1];simp,r,h2⟩
theorem isPref_false {p q:Path}:isPref p q=false↔¬ p <+: q:=by
 rw [Bool.eq_false_iff,ne_eq,prefix_iff]
 constructor
 ·rintro h ⟨r,hr⟩;exact h ⟨r,hr.symm⟩
 ·rintro h ⟨r,hr⟩;exact h ⟨r,hr.symm⟩

section
variable {I:Gh} {ρ ρ':Pl}
theorem mapHL_len (f:Nat→Path→Option (Nat×Path)):∀ l:List AV,(AV.mapHL f l).length=l.length
 | []=>by simp [AV.mapHL]
 | a :: r=>by simp [AV.mapHL,mapHL_len f r]
theorem mapHL_get (f:Nat→Path→Option (Nat×Path)):∀ (l:List AV) (j:Nat) (h:j<(AV.mapHL f l).length) (h':j<l.length),(AV.mapHL f l)[j]=(l[j]).mapH f
 | a :: r,0,_,_=>by simp [AV.mapHL]
 | a :: r,j+1,h,h'=>by
  have:=mapHL_get f r j (by simpa [AV.mapHL] using h) (by simpa using h')
  simpa [AV.mapHL] using this
 | [],j,_,h'=>by cases h'
theorem rs_mapH (f:Nat→Path→Option (Nat×Path)) {a:AV} {x:Value} (r:RepS I a x):RepS I (a.mapH f) x:=by
 induction r with
 | any x=>simp only [AV.mapH];exact .any x
 | v x=>simp only [AV.mapH];exact .v x
 | nil sz a=>simp only [AV.mapH];exact .nil sz a
 | nila sz a cap=>simp only [AV.mapH];exact .nila sz a cap
 | sl sz es b off cap vals hsz hc hI hr ih=>simp only [AV.mapH];exact .sl sz es b off cap vals hsz hc hI hr
 | agg fs arr hn hr ih=>simp only [AV.mapH];exact .agg _ arr (by rw [mapHL_len];exact hn) (fun j hj hk=>by rw [mapHL_len] at hj;rw [mapHL_get _ _ _ _ hj];exact ih j hj hk)
 | tup fs arr hn hr ih=>simp only [AV.mapH];exact .tup _ arr (by rw [mapHL_len];exact hn) (fun j hj hk=>by rw [mapHL_len] at hj;rw [mapHL_get _ _ _ _ hj];exact ih j hj hk)
 | ep cs b off vals hI hr ih=>simp only [AV.mapH];exact .ep cs b off vals hI hr
 | fn f' caps arr hn hr ih=>simp only [AV.mapH];exact .fn f' _ arr (by rw [mapHL_len];exact hn) (fun j hj hk=>by rw [mapHL_len] at hj;rw [mapHL_get _ _ _ _ hj];exact ih j hj hk)
 | ifc t x=>simp only [AV.mapH];exact .ifc t x
theorem cells_mapH (f:Nat→Path→Option (Nat×Path)) (e:AV):(e.mapH f).cells=e.cells.map (AV.mapH f):=by
 have hl:∀ l:List AV,AV.mapHL f l=l.map (AV.mapH f):=by
  intro l
  induction l with
  | nil=>simp [AV.mapHL]
  | cons a r ih=>simp [AV.mapHL,ih]
 cases e with
 | ref s p z o n=>simp only [AV.mapH];cases h:f s p <;> simp [AV.cells,AV.mapH,h]
 | loc s p i j=>simp only [AV.mapH];cases h:f s p <;> simp [AV.cells,AV.mapH,h]
 | mref s p=>simp only [AV.mapH];cases h:f s p <;> simp [AV.cells,AV.mapH,h]
 | agg fs=>simp only [AV.mapH,AV.cells,hl]
 | _=>simp [AV.mapH,AV.cells]
theorem rep_mapH {f:Nat→Path→Option (Nat×Path)} (hf:∀ s p s' p',f s p=some (s',p')→ρ' s' p'=ρ s p) {a:AV} {x:Value} (r:Rep I ρ a x):Rep I ρ' (a.mapH f) x:=by
 induction r with
 | stat r=>exact .stat (rs_mapH f r)
 | ref s p z o n k h hz hc =>
  simp only [AV.mapH]
  cases h1:f s p with
  | none=>exact .any _
  | some sp=>exact .ref sp.1 sp.2 z o n k ((hf s p sp.1 sp.2 h1).trans h) hz hc
 | ref0 s p z o a =>
  simp only [AV.mapH]
  cases h1:f s p with
  | none=>exact .any _
  | some sp=>exact .ref0 _ _ _ _ _
 | loc s p i j k h =>
  simp only [AV.mapH]
  cases h1:f s p with
  | none=>exact .any _
  | some sp=>exact .loc sp.1 sp.2 i j k ((hf s p sp.1 sp.2 h1).trans h)
 | mref s p k h =>
  simp only [AV.mapH]
  cases h1:f s p with
  | none=>exact .any _
  | some sp=>exact .mref sp.1 sp.2 k ((hf s p sp.1 sp.2 h1).trans h)
 | lst sz es b off cap vals hsz hc hI hr ih =>
  simp only [AV.mapH]
  have hlen:=mapHL_len f es
  have:=Rep.lst (I:=I) (ρ:=ρ') sz (AV.mapHL f es) b off cap vals (fun i hi=>by rw [hlen] at hi;rw [mapHL_get _ _ _ _ hi,cells_mapH,List.length_map];exact hsz i hi) (by rw [hlen];exact hc) (fun i hi j hj=>by rw [hlen] at hi;exact hI i hi j hj)
   (fun i hi j hj=>by
    rw [hlen] at hi
    have e1:=mapHL_get f es i (by rw [hlen];exact hi) hi
    have hj':j<(es[i]).cells.length:=by rw [e1,cells_mapH,List.length_map] at hj;exact hj
    have e2:((AV.mapHL f es)[i]).cells[j]=((es[i]).cells[j]).mapH f:=by simp only [e1,cells_mapH,List.getElem_map]
    rw [e2];exact ih i hi j hj')
  rw [hlen] at this
  exact this
 | bx cs b off vals hI hr ih=>simp only [AV.mapH];exact .bx _ b off vals (fun j hj=>by rw [mapHL_len] at hj;exact hI j hj) (fun j hj=>by rw [mapHL_len] at hj;rw [mapHL_get _ _ _ _ hj];exact ih j hj)
 | agg fs arr hn hr ih=>simp only [AV.mapH];exact .agg _ arr (by rw [mapHL_len];exact hn) (fun j hj hk=>by rw [mapHL_len] at hj;rw [mapHL_get _ _ _ _ hj];exact ih j hj hk)
 | tup fs arr hn hr ih=>simp only [AV.mapH];exact .tup _ arr (by rw [mapHL_len];exact hn) (fun j hj hk=>by rw [mapHL_len] at hj;rw [mapHL_get _ _ _ _ hj];exact ih j hj hk)
 | fn f' caps arr hn hr ih=>simp only [AV.mapH];exact .fn f' _ arr (by rw [mapHL_len];exact hn) (fun j hj hk=>by rw [mapHL_len] at hj;rw [mapHL_get _ _ _ _ hj];exact ih j hj hk)
end

section
variable {N:Nat} {E:Entry} {st:St} {a:Act} {w w':World} {I I':Gh} {ρ ρ':Pl} {mem mem':Nat→Option AV}
theorem Sep.sub (m:Sep I ρ w mem) (h:∀ s T,mem' s=some T→mem s=some T∧ρ' s=ρ s):Sep I ρ' w mem':=by
 refine ⟨fun s T p hs=>?_,fun s T p k hs h1 h2=>?_,fun s T p k s' T' p' k' hs h1 h2 hs' h1' h2' he=>?_⟩
 ·obtain ⟨q1,q2⟩:=h s T hs
  rw [q2];exact m.row s T p q1
 ·obtain ⟨q1,q2⟩:=h s T hs
  rw [q2] at h2;exact m.free s T p k q1 h1 h2
 ·obtain ⟨q1,q2⟩:=h s T hs
  obtain ⟨q1',q2'⟩:=h s' T' hs'
  rw [q2] at h2;rw [q2'] at h2'
  exact m.inj s T p k s' T' p' k' q1 h1 h2 q1' h1' h2' he
theorem owns_sub (h:∀ s T,mem' s=some T→mem s=some T∧ρ' s=ρ s) {b:Nat} (ho:Owns ρ' mem' b):Owns ρ mem b:=by
 obtain ⟨s,T,p,k,h1,h2,h3,h4⟩:=ho
 obtain ⟨q1,q2⟩:=h s T h1
 exact ⟨s,T,p,k,q1,h2,by rw [← q2];exact h3,h4⟩

theorem Conc.remap (c:Conc N E st a w I ρ) (f:Nat→Path→Option (Nat×Path)) (hf:∀ s p s' p',f s p=some (s',p')→ρ' s' p'=ρ s p) (hheld:Held I' w') (hle:∀ b o x,I b o=some x→I' b o=some x)
  (hbel:BelowX E.lent E.w0.heap.size E.w0 w') (hkeep:∀ b o,b<E.w0.heap.size→I' b o=E.I0 b o) (hm:Sep I' ρ' w' mem') (hlo:∀ b,Owns ρ' mem' b→E.w0.heap.size≤b∨E.lent b)
  (hfix:∀ i c T q,E.args[i]? = some c→mem' i=some T→TopPos T q→ρ' i q=E.π0 i q):Conc N E { fr:=fun i=>(st.fr i).mapH f,mem:=mem' } a w' I' ρ' :=
 ⟨hheld,hbel,hkeep,c.size,c.defers,fun i=>(rep_mapH hf (c.fr i)).mono hle,hm,hlo,hfix⟩

theorem Conc.kill (c:Conc N E st a w I ρ) (d:Nat) (h:∀ s,s≠d→ρ' s=ρ s):Conc N E (st.kill d) a w I ρ':=by
 have hsub:∀ s T,(st.kill d).mem s=some T→st.mem s=some T∧ρ' s=ρ s:=by
  intro s T hs
  simp only [St.kill,St.del,St.mapF] at hs
  split at hs
  ·cases hs
  ·rename_i hne;exact ⟨hs,h s hne⟩
 refine c.remap (mem':=(st.kill d).mem) (killF d) (fun s p s' p' hf=>?_) c.held (fun _ _ _ h=>h) c.below c.keeps (c.mem.sub hsub) (fun b hb=>c.lo b (owns_sub hsub hb)) (fun i c' T q h1 hT h3=>?_)
 ·unfold killF at hf
  split at hf
  ·cases hf
  ·rename_i hne;cases hf;rw [h _ hne]
 ·obtain ⟨q1,q2⟩:=hsub i T hT
  rw [q2];exact c.fix i c' T q h1 q1 h3
theorem kill_mem_self (st:St) (d:Nat):(st.kill d).mem d=none:=by simp [St.kill,St.del]
theorem kill_mem_of {st:St} {d s:Nat} {T:AV} (h:(st.kill d).mem s=some T):s≠d∧st.mem s=some T:=by
 simp only [St.kill,St.del,St.mapF] at h
 split at h
 ·cases h
 ·rename_i hne;exact ⟨hne,h⟩

theorem Conc.grow (c:Conc N E st a w I ρ) (g:Grow I w I' w'):Conc N E st a w' I' ρ:=by
 have hle:=g.le c.held
 refine ⟨g.held,c.below.trans (g.below.mono c.below.size (fun _ _ q=>q.elim)),fun b o hb=>(g.keeps b o (Nat.lt_of_lt_of_le hb c.below.size)).trans (c.keeps b o hb),c.size,c.defers,fun i=>(c.fr i).mono hle,
  c.mem.mono hle (fun b hb=>g.block (c.mem.owns_lt hb)) (fun b hb o=>?_),c.lo,c.fix⟩
 rw [g.keeps b o (c.mem.owns_lt hb)]
 obtain ⟨s,T,p,k,h1,h2,h3,rfl⟩:=hb
 exact c.mem.free s T p k h1 h2 h3 o

theorem Conc.setNew (c:Conc N E st a w I ρ) {d n:Nat} {T:AV} {π:Path→Option Plc} (hd:ρ d=π) (hno:st.mem d=none) (hnp:E.args[d]? = none) (hn:E.w0.heap.size≤n) (hT:NewTree I π w n T)
  (hold:∀ b,Owns ρ st.mem b→b<n):Conc N E (st.setMem d T) a w I ρ:=by
 subst hd
 have hm:∀ {s T'},(st.setMem d T).mem s=some T'→(s=d∧T'=T)∨(s≠d∧st.mem s=some T'):=by
  intro s T' h
  simp only [St.setMem] at h
  split at h
  ·rename_i e;cases h;exact .inl ⟨e,rfl⟩
  ·rename_i e;exact .inr ⟨e,h⟩
 have h00:(fun i=>if i=0 then some T else none:Nat→Option AV) 0=some T:=rfl
 refine ⟨c.held,c.below,c.keeps,c.size,c.defers,c.fr,⟨fun s T' p h=>?_,fun s T' p k h h1 h2=>?_,fun s T1 p k s' T2 p' k' h h1 h2 h' h1' h2' he=>?_⟩,fun b hb=>?_,fun i c' T' q h1 hT' h3=>?_⟩
 ·rcases hm h with ⟨rfl,rfl⟩ | ⟨_,h⟩
  ·exact hT.sep.row 0 _ p h00
  ·exact c.mem.row s T' p h
 ·rcases hm h with ⟨rfl,rfl⟩ | ⟨_,h⟩
  ·exact hT.sep.free 0 _ p k h00 h1 h2
  ·exact c.mem.free s T' p k h h1 h2
 ·rcases hm h with ⟨rfl,rfl⟩ | ⟨hne,h⟩
  ·rcases hm h' with ⟨rfl,rfl⟩ | ⟨hne',h'⟩
   ·exact ⟨rfl,(hT.sep.inj 0 _ p k 0 _ p' k' h00 h1 h2 h00 h1' h2' he).2⟩
   ·have g1:=hT.new p k h1 h2
    have g2:=hold k'.b ⟨s',T2,p',k',h',h1',h2',rfl⟩
    omega
  ·have h5:=h
   rcases hm h' with ⟨rfl,rfl⟩ | ⟨hne',h'⟩
   ·have g1:=hT.new p' k' h1' h2'
    have g2:=hold k.b ⟨s,T1,p,k,h5,h1,h2,rfl⟩
    omega
   ·exact c.mem.inj s T1 p k s' T2 p' k' h5 h1 h2 h' h1' h2' he
 ·obtain ⟨s,T',p,k,h1,h2,h3,rfl⟩:=hb
  rcases hm h1 with ⟨rfl,rfl⟩ | ⟨_,h1⟩
  ·exact .inl (Nat.le_trans hn (hT.new p k h2 h3))
  ·exact c.lo k.b ⟨s,T',p,k,h1,h2,h3,rfl⟩
 ·rcases hm hT' with ⟨rfl,rfl⟩ | ⟨_,h⟩
  ·rw [hnp] at h1;cases h1
  ·exact c.fix i c' T' q h1 h h3

theorem Conc.addB (c:Conc N E st a w I ρ) (d:Option Nat) (hd:∀ t,d=some t→t<N) (hnp:∀ t,d=some t→E.args[t]? = none) {T:AV} {x:Value} {π:Path→Option Plc} (g:Grow I w I' w') (ht:TopOk I' π [] T x) (hT:NewTree I' π w' w.heap.size T):CC N E (st.addB d T) (a.put d x) w':=by
 cases d with
 | none=>exact ⟨I',ρ,(c.grow g).put none hd (v:=.any) (.any x)⟩
 | some D =>
  let ρ':Pl:=fun s=>if s=D then π else ρ s
  have h1:∀ s,s≠D→ρ' s=ρ s:=fun s h=>by simp [ρ',h]
  have h2:ρ' D=π:=by simp [ρ']
  have c1:=(c.grow g).kill D h1
  have c2:=c1.setNew (d:=D) (n:=w.heap.size) h2 (kill_mem_self st D) (hnp D rfl) c.below.size hT (fun b hb=>by
   obtain ⟨s,T',p,k,q1,q2,q3,rfl⟩:=hb
   obtain ⟨hne,q1⟩:=kill_mem_of q1
   rw [h1 s hne] at q3
   exact c.mem.lt q1 q2 q3)
  refine ⟨I',ρ',?_⟩
  have e:st.addB (some D) T=((st.kill D).setMem D T).put (some D) (T.atoms D []):=rfl
  rw [e]
  exact c2.put (some D) hd (top_rep (by rw [h2];exact ht))
end
end Go.AM
namespace Go.AM
open Go.RowKit (Below)

theorem modP_eq (f:AV→AV):∀ (Q:Path) (R:AV),R.modP Q f=R.setP Q (f (R.at Q))
 | [],_=>rfl
 | ij :: Q,R=>by
  show R.setAt ij.1 ij.2 ((R.cellAt ij.1 ij.2).modP Q f)=R.setAt ij.1 ij.2 ((R.cellAt ij.1 ij.2).setP Q (f ((R.cellAt ij.1 ij.2).at Q)))
  rw [modP_eq f Q]

section
variable {w w':World} {I I':Gh} {ρ ρ':Pl} {mem:Nat→Option AV}

theorem cell_sing {k:Option Plc} {a:AV} {v:Value} (h:CellOk I k a v) (h1:v.oneCell'=true):Sing a:=by
 rcases h with ⟨h,_⟩ | ⟨_,h⟩
 ·exact sing_node h
 ·refine sing_of fun fs e=>?_
  subst e
  cases h with | agg _ arr hn hr=>simp [Value.oneCell'] at h1

def InP:AV→Path→Prop
 | _,[]=>True
 | R,ij :: Q=>InR R ij.1 ij.2∧InP (R.cellAt ij.1 ij.2) Q
theorem inP_of_ne:∀ (Q:Path) (R:AV),R.at Q≠.any→InP R Q
 | [],_,_=>trivial
 | ij :: Q,R,h=>by
  have h:AV.at (R.cellAt ij.1 ij.2) Q≠.any:=h
  exact ⟨inR_of_ne fun e=>by rw [e,any_at] at h;exact h rfl,inP_of_ne Q _ h⟩
theorem inP_snoc:∀ (Q:Path) (R:AV) {i j:Nat},InP R Q→InR (R.at Q) i j→InP R (Q++[(i,j)])
 | [],_,_,_,_,h=>⟨h,trivial⟩
 | ij :: Q,R,_,_,⟨h1,h2⟩,h=>⟨h1,inP_snoc Q _ h2 h⟩
theorem inP_node {Q:Path} {R:AV} (h:(R.at Q).isNode=true):InP R Q:=inP_of_ne Q R fun e=>by rw [e] at h;cases h
theorem valid_of (m:Sep I ρ w mem) {s:Nat} {R:AV} (hR:mem s=some R) {x:AV}:∀ (Q p1:Path),InP (R.at p1) Q→(Q≠[]→Sing x)→ValidP x (R.at p1) Q
 | [],_,_,_=>trivial
 | ij :: Q,p1,h,hx=>by
  obtain ⟨hin,h⟩:=h
  have e1:R.at (p1++[ij])=(R.at p1).cellAt ij.1 ij.2:=by rw [at_append];rfl
  refine ⟨hin,?_,?_⟩
  ·have hrow:=m.row s R p1 hR
   generalize R.at p1=N at hin hrow
   have row:∀ z es,RowOk I (ρ s) w p1 z es→∀ (h:ij.1<es.length) (hj:ij.2<(es[ij.1]).cells.length),Sing ((es[ij.1]).cells[ij.2]):=by
    intro z es hr h hj
    obtain ⟨k,E,arr,_,_,_,_,_,_,_,h1,h2⟩:=NodeOk.cells hr h hj
    exact cell_sing h1 h2
   cases N <;> try exact hin.elim
   case tr z es =>
    obtain ⟨hi,hj⟩:=hin
    refine .inr (.inr ⟨?_,fun q=>hx (by simp)⟩)
    have:(AV.tr z es).cellAt ij.1 ij.2=(es[ij.1]).cells[ij.2]:=by
     show (es.getD ij.1 .any).cells.getD ij.2 .any=_
     rw [getD_lt hi,getD_lt hj]
    rw [this];exact row z es hrow hi hj
   case pt z y =>
    obtain ⟨hi,hj⟩:=hin
    refine .inr (.inr ⟨?_,fun q=>hx (by simp)⟩)
    have:(AV.pt z y).cellAt ij.1 ij.2=y.cells[ij.2]:=by
     rw [hi]
     show y.cells.getD ij.2 .any=_
     rw [getD_lt hj]
    rw [this]
    obtain ⟨k,E,arr,_,_,_,_,_,_,_,h1,h2⟩:=NodeOk.cells (i:=0) (j:=ij.2) hrow (by simp) hj
    exact cell_sing h1 h2
   case agg fs=>exact .inl ⟨fs,rfl⟩
   case tup fs=>exact .inr (.inl ⟨fs,rfl⟩)
  ·rw [← e1]
   rw [← e1] at h
   exact valid_of m hR Q (p1++[ij]) h (fun _=>hx (by simp))

theorem node_setAt {π π':Path→Option Plc} {p:Path} {a:AV} {i j:Nat} {y:AV} (hin:InR a i j) (h:NodeOk I π w p a) (hle:∀ b o x,I b o=some x→I' b o=some x) (hb:∀ k,a.isNode=true→π p=some k→w'.heap[k.b]? = w.heap[k.b]?)
  (hπ:π' p=π p) (hπ':∀ i' j',(i',j')≠(i,j)→π' (p++[(i',j')])=π (p++[(i',j')])) (hy:Sing y) (hcell:∀ v,v.oneCell'=true→(∀ k,π p=some k→w.cell? ⟨k.b,k.off+i*k.z+j,none⟩=some v)→CellOk I (π (p++[(i,j)])) (a.cellAt i j) v→CellOk I' (π' (p++[(i,j)])) y v):NodeOk I' π' w' p (a.setAt i j y):=by
 have row:∀ z (es:List AV) (hi:i<es.length) (hj:j<(es[i]).cells.length),(∀ v,v.oneCell'=true→(∀ k,π p=some k→w.cell? ⟨k.b,k.off+i*k.z+j,none⟩=some v)→CellOk I (π (p++[(i,j)])) ((es[i]).cells[j]) v→CellOk I' (π' (p++[(i,j)])) y v)→(∀ k,π p=some k→w'.heap[k.b]? = w.heap[k.b]?)→RowOk I π w p z es→RowOk I' π' w' p z (es.set i ((es[i]).setC j y)):=by
  intro z es hi hj hc hb hr
  rcases hr with ⟨_,rfl⟩ | ⟨k,E,arr,h1,h2,h3,h3',h4,h5,h6⟩
  ·cases hi
  ·refine .inr ⟨k,E,arr,hπ.trans h1,h2,by simpa using h3,h3',(hb k h1).trans h4,h5,fun i' hi'=>?_⟩
   have hi'':i'<es.length:=by simpa using hi'
   obtain ⟨h7,h8⟩:=h6 i' hi''
   by_cases q:i'=i
   ·subst q
    have e1:(es.set i' ((es[i']).setC j y))[i']=(es[i']).setC j y:=by simp
    have e2:=setC_cells (es[i']) j y hj hy
    rw [e1]
    refine ⟨by rw [e2,List.length_set];exact h7,fun j' hj'=>?_⟩
    have hj'':j'<(es[i']).cells.length:=by rw [e2,List.length_set] at hj';exact hj'
    by_cases q2:j'=j
    ·subst q2
     have e3:((es[i']).setC j' y).cells[j']=y:=by simp [e2]
     rw [e3]
     refine ⟨hc _ (h8 j' hj'').2 (fun k' hk'=>?_) (h8 j' hj'').1,(h8 j' hj'').2⟩
     rw [h1] at hk';cases hk'
     have hin2:i'*z+z≤k.cap*z:=by rw [← Nat.succ_mul];exact Nat.mul_le_mul_right _ (by omega)
     rw [h2,cell_arr h4 (by omega)]
    ·have e3:((es[i']).setC j y).cells[j']=(es[i']).cells[j']:=by simp [e2,List.getElem_set_ne (Ne.symm q2)]
     rw [e3,hπ' i' j' (by simp [q2])]
     exact ⟨((h8 j' hj'').1).mono hle,(h8 j' hj'').2⟩
   ·have e1:(es.set i ((es[i]).setC j y))[i']=es[i']:=by simp [List.getElem_set_ne (Ne.symm q)]
    rw [e1]
    refine ⟨h7,fun j' hj'=>?_⟩
    rw [hπ' i' j' (by simp [q])]
    exact ⟨((h8 j' hj').1).mono hle,(h8 j' hj').2⟩
 cases a <;> try exact hin.elim
 case tr z es =>
  obtain ⟨hi,hj⟩:=hin
  have e1:(AV.tr z es).setAt i j y=.tr z (es.set i ((es[i]).setC j y)):=by show AV.tr z (es.set i ((es.getD i .any).setC j y))=_;rw [getD_lt hi]
  have e2:(AV.tr z es).cellAt i j=(es[i]).cells[j]:=by show (es.getD i .any).cells.getD j .any=_;rw [getD_lt hi,getD_lt hj]
  rw [e1];rw [e2] at hcell
  exact row z es hi hj hcell (fun k hk=>hb k rfl hk) h
 case pt z x =>
  obtain ⟨rfl,hj⟩:=hin
  have e2:(AV.pt z x).cellAt 0 j=x.cells[j]:=by show x.cells.getD j .any=_;rw [getD_lt hj]
  rw [e2] at hcell
  have:=row z [x] (by simp) hj hcell (fun k hk=>hb k rfl hk) h
  simpa [AV.setAt,NodeOk] using this
 case agg fs=>trivial
 case tup fs=>trivial

theorem setP_atom {x:AV} {ij:Nat×Nat} {Q:Path} (R:AV) (k:Option Plc) (v:Value) (h1:v.oneCell'=true) (h:CellOk I k R v) (hin:InR R ij.1 ij.2):CellOk I k (R.setP (ij :: Q) x) v:=by
 show CellOk I k (R.setAt ij.1 ij.2 _) v
 cases R <;> try exact hin.elim
 case tr z es =>
  rcases h with ⟨_,h⟩ | ⟨h,_⟩
  ·refine .inl ⟨rfl,?_⟩
   rcases h with ⟨k',h1,h2,h3,h4⟩ | ⟨h2,h3⟩
   ·exact .inl ⟨k',h1,h2,by simpa using h3,by simpa using h4⟩
   ·subst h2;obtain ⟨q,_⟩:=hin;cases q
  ·cases h
 case pt z y =>
  rcases h with ⟨_,h⟩ | ⟨h,_⟩
  ·exact .inl ⟨rfl,h⟩
  ·cases h
 case agg fs =>
  rcases h with ⟨h,_⟩ | ⟨_,h⟩
  ·cases h
  ·cases h with | agg _ arr hn hr=>simp [Value.oneCell'] at h1
 case tup fs =>
  rcases h with ⟨h,_⟩ | ⟨_,h⟩
  ·cases h
  ·cases h with | tup _ arr hn hr=>simp [Value.oneCell'] at h1

theorem not_pref_snoc {p:Path} {ij:Nat×Nat} {Q':Path} {i' j':Nat} (h:(i',j')≠ij):¬ (p++ij :: Q') <+: (p++[(i',j')]):=by
 rintro ⟨r,hr⟩
 rw [List.append_assoc] at hr
 have:=List.append_cancel_left hr
 simp at this
 exact h this.1.symm
theorem Sep.setP (m:Sep I ρ w mem) {s:Nat} {R x:AV} {Q:Path} (hR:mem s=some R) (hv:ValidP x R Q) (hx:Q≠[]→Sing x) (hle:∀ b o v,I b o=some v→I' b o=some v)
  (hcell:∀ v,v.oneCell'=true→(∀ P0 i j k,Q=P0++[(i,j)]→ρ s P0=some k→w.cell? ⟨k.b,k.off+i*k.z+j,none⟩=some v)→CellOk I (ρ s Q) (R.at Q) v→CellOk I' (ρ' s Q) x v) (hρ:∀ s' p',(s'≠s∨¬ Q <+: p')→ρ' s' p'=ρ s' p')
  (hblk:∀ s' T' p' k,mem s'=some T'→(T'.at p').isNode=true→ρ s' p'=some k→(s'≠s∨¬ Q <+: p')→w'.heap[k.b]? = w.heap[k.b]?∧∀ o,I' k.b o=none)
  (hrow:∀ r,NodeOk I' (ρ' s) w' (Q++r) (x.at r)) (hfree:∀ r k,(x.at r).isNode=true→ρ' s (Q++r)=some k→∀ o,I' k.b o=none)
  (hinj:∀ r k r' k',(x.at r).isNode=true→ρ' s (Q++r)=some k→(x.at r').isNode=true→ρ' s (Q++r')=some k'→k.b=k'.b→r=r')
  (hsep:∀ r k s' T' p' k',(x.at r).isNode=true→ρ' s (Q++r)=some k→mem s'=some T'→(T'.at p').isNode=true→ρ s' p'=some k'→(s'≠s∨¬ Q <+: p')→k.b≠k'.b) :
  Sep I' ρ' w' (fun i=>if i=s then some (R.setP Q x) else mem i):=by
 have hat:∀ r,(R.setP Q x).at (Q++r)=x.at r:=fun r=>at_setP Q R r hv
 have hnode:∀ p,¬ Q <+: p→((R.setP Q x).at p).isNode=(R.at p).isNode:=by
  intro p hp
  rcases at_setP_ne Q R p hv hp with ⟨h,_⟩ | ⟨ij,Q',_,h,hin,_⟩
  ·rw [h]
  ·rw [h]
   generalize R.at p=A at hin ⊢
   cases A <;> first | rfl | exact hin.elim
 have hold:∀ s' T' p,(if s'=s then some (R.setP Q x) else mem s')=some T'→(T'.at p).isNode=true→(s'≠s∨¬ Q <+: p)→∃ T0,mem s'=some T0∧(T0.at p).isNode=true:=by
  intro s' T' p h h1 h2
  split at h
  ·rename_i e
   cases h
   subst e
   have hp:=h2.resolve_left (fun q=>q rfl)
   exact ⟨R,hR,by rw [← hnode p hp];exact h1⟩
  ·exact ⟨T',h,h1⟩
 have hsplit:∀ s' T' p,(if s'=s then some (R.setP Q x) else mem s')=some T'→(s'=s∧∃ r,p=Q++r∧T'.at p=x.at r)∨(s'≠s∨¬ Q <+: p):=by
  intro s' T' p h
  by_cases e:s'=s
  ·by_cases hp:Q <+: p
   ·obtain ⟨r,rfl⟩:=hp
    rw [if_pos e] at h
    cases h
    exact .inl ⟨e,r,rfl,hat r⟩
   ·exact .inr (.inr hp)
  ·exact .inr (.inl e)
 refine ⟨fun s' T' p h=>?_,fun s' T' p k h h1 h2=>?_,fun s1 T1 p1 k1 s2 T2 p2 k2 h1 g1 q1 h2 g2 q2 he=>?_⟩
 ·rcases hsplit s' T' p h with ⟨rfl,r,rfl,e⟩ | hp
  ·rw [e];exact hrow r
  ·by_cases e:s'=s
   ·subst e
    have hp:=hp.resolve_left (fun q=>q rfl)
    rw [if_pos rfl] at h
    cases h
    have hρ':∀ p',¬ Q <+: p'→ρ' s' p'=ρ s' p':=fun p' q=>hρ s' p' (.inr q)
    rcases at_setP_ne Q R p hv hp with ⟨h,hpq⟩ | ⟨ij,Q',hQ,h,hin,hvv,hsg⟩
    ·rw [h]
     have hr:=m.row s' R p hR
     have hex:¬ ∃ i' j',Q <+: p++[(i',j')]:=by
      rintro ⟨i',j',hq⟩
      have h1:p <+: p++[(i',j')]:=List.prefix_append _ _
      rcases Nat.le_total Q.length p.length with hl | hl
      ·exact hp (List.prefix_of_prefix_length_le hq h1 hl)
      ·exact hpq (List.prefix_of_prefix_length_le h1 hq hl)
     show NodeOk I' (ρ' s') w' p (R.at p)
     have hπ:∀ i' j',ρ' s' (p++[(i',j')])=ρ s' (p++[(i',j')]):=fun i' j'=>hρ' _ fun q=>hex ⟨i',j',q⟩
     have row:∀ z es,(∀ k,ρ s' p=some k→w'.heap[k.b]? = w.heap[k.b]?)→RowOk I (ρ s') w p z es→RowOk I' (ρ' s') w' p z es:=by
      intro z es hb hrr
      rcases hrr with ⟨q1,q2⟩ | ⟨k,E,arr,q1,q2,q3,q3',q4,q5,q6⟩
      ·exact .inl ⟨by rw [hρ' p hp];exact q1,q2⟩
      ·exact .inr ⟨k,E,arr,by rw [hρ' p hp];exact q1,q2,q3,q3',(hb k q1).trans q4,q5,fun i hi=>⟨(q6 i hi).1,fun j hj=>by rw [hπ i j];exact ⟨((q6 i hi).2 j hj).1.mono hle,((q6 i hi).2 j hj).2⟩⟩⟩
     have hb:∀ k,(R.at p).isNode=true→ρ s' p=some k→w'.heap[k.b]? = w.heap[k.b]?:=fun k hn hk=>(hblk s' R p k hR hn hk (.inr hp)).1
     generalize R.at p=A at hr hb ⊢
     cases A <;> try trivial
     case tr z es=>exact row z es (fun k hk=>hb k rfl hk) hr
     case pt z y=>exact row z [y] (fun k hk=>hb k rfl hk) hr
     case mt kd f =>
      obtain ⟨k,es,c,q1,q2,q3⟩:=hr
      exact ⟨k,es,c,by rw [hρ' p hp];exact q1,(hb k rfl q1).trans q2,q3⟩
    ·rw [h]
     have hr:=m.row s' R p hR
     rcases hsg with ⟨fs,e⟩ | ⟨fs,e⟩ | ⟨hsg,_⟩
     ·rw [e];trivial
     ·rw [e];trivial
     refine node_setAt hin hr hle (fun k hn hk=>(hblk s' R p k hR hn hk (.inr hp)).1) (hρ' p hp) (fun a b hab=>hρ' _ (by rw [hQ];exact not_pref_snoc (by obtain ⟨_,_⟩:=ij;exact hab))) ?_ ?_
     ·cases Q' with
      | nil=>exact hx (by rw [hQ];simp)
      | cons kl Q'' =>
       exact setAt_sing hsg
     ·intro v h1 hk h2
      cases Q' with
      | nil =>
       have:=hcell v h1 (fun P0 i j k e hk'=>by
        rw [hQ] at e
        have e1:=List.append_inj' e rfl
        obtain ⟨rfl,e2⟩:=e1
        cases e2
        exact hk k hk')
       rw [hQ,at_snoc] at this
       exact this h2
      | cons kl Q'' =>
       have hnp:¬ Q <+: p++[(ij.1,ij.2)]:=by
        rintro ⟨r,hr'⟩
        have:=congrArg List.length hr'
        rw [hQ] at this
        simp at this
       have h3:CellOk I' (ρ' s' (p++[(ij.1,ij.2)])) ((R.at p).cellAt ij.1 ij.2) v:=by rw [hρ' _ hnp];exact h2.mono hle
       exact setP_atom _ _ v h1 h3 hvv.1
   ·rw [if_neg e] at h
    have hr:=m.row s' T' p h
    have h1:∀ p',ρ' s' p'=ρ s' p':=fun p'=>hρ s' p' (.inl e)
    have e2:ρ' s'=ρ s':=funext h1
    rw [e2]
    exact NodeOk.mono hle (fun k hn hk=>(hblk s' T' p k h hn hk (.inl e)).1) hr
 ·rcases hsplit s' T' p h with ⟨rfl,r,rfl,e⟩ | hp
  ·rw [e] at h1;exact hfree r k h1 h2
  ·obtain ⟨T0,q1,q2⟩:=hold s' T' p h h1 hp
   rw [hρ s' p hp] at h2
   exact (hblk s' T0 p k q1 q2 h2 hp).2
 ·rcases hsplit s1 T1 p1 h1 with ⟨rfl,r1,rfl,e1⟩ | hp1
  ·rw [e1] at g1
   rcases hsplit s2 T2 p2 h2 with ⟨rfl,r2,rfl,e2⟩ | hp2
   ·rw [e2] at g2
    exact ⟨rfl,by rw [hinj r1 k1 r2 k2 g1 q1 g2 q2 he]⟩
   ·obtain ⟨T0,o1,o2⟩:=hold s2 T2 p2 h2 g2 hp2
    rw [hρ s2 p2 hp2] at q2
    exact (hsep r1 k1 s2 T0 p2 k2 g1 q1 o1 o2 q2 hp2 he).elim
  ·obtain ⟨T0,o1,o2⟩:=hold s1 T1 p1 h1 g1 hp1
   rw [hρ s1 p1 hp1] at q1
   rcases hsplit s2 T2 p2 h2 with ⟨rfl,r2,rfl,e2⟩ | hp2
   ·rw [e2] at g2
    exact (hsep r2 k2 s1 T0 p1 k1 g2 q2 o1 o2 q1 hp1 he.symm).elim
   ·obtain ⟨T0',o1',o2'⟩:=hold s2 T2 p2 h2 g2 hp2
    rw [hρ s2 p2 hp2] at q2
    exact m.inj s1 T0 p1 k1 s2 T0' p2 k2 o1 o2 q1 o1' o2' q2 he
end
end Go.AM
namespace Go.AM
open Go.RowKit (Below)

def nodeEs (a:AV):Option (Nat×List AV) :=
 match a with
 | .tr z es=>some (z,es)
 | .pt z x=>some (z,[x])
 | _=>none
theorem nodeEs_node {a:AV} {p:Nat×List AV} (h:nodeEs a=some p):a.isNode=true:=by cases a <;> first | rfl | cases h
theorem nodeEs_row {I:Gh} {π:Path→Option Plc} {w:World} {p:Path} {a:AV} {z:Nat} {es:List AV} (h:nodeEs a=some (z,es)):NodeOk I π w p a↔RowOk I π w p z es:=by
 cases a <;> cases h <;> exact Iff.rfl
theorem cellAt_es {a:AV} {z:Nat} {es:List AV} (h:nodeEs a=some (z,es)) (i j:Nat):a.cellAt i j=(es.getD i .any).cells.getD j .any:=by
 cases a <;> cases h
 case tr=>rfl
 case pt x =>
  cases i with
  | zero=>rfl
  | succ i =>
   show AV.any=_
   have:([x]:List AV).getD (i+1) .any=.any:=by simp [List.getD]
   rw [this]
   cases j <;> rfl
theorem setE_es {a:AV} {z:Nat} {es:List AV} (h:nodeEs a=some (z,es)) {i:Nat} (hi:i<es.length) (j:Nat) (x:AV):nodeEs (a.setE i j x)=some (z,es.set i (setEl z (es[i]) j x)):=by
 cases a <;> cases h
 case tr=>show some (z,es.set i (setEl z (es.getD i .any) j x))=_;rw [getD_lt hi]
 case pt y =>
  have:i=0:=by simpa using hi
  subst this
  rfl
theorem hdr_es {a b:AV} {z:Nat} {es es':List AV} {k:Option Plc} {v:Value} (h:nodeEs a=some (z,es)) (hs:(∃ i j x,b=a.setE i j x)) (hd:Hdr k a v):Hdr k b v:=by
 obtain ⟨i,j,x,rfl⟩:=hs
 cases a <;> cases h
 case tr =>
  rcases hd with ⟨k',h1,h2,h3,h4⟩ | ⟨h1,h2⟩
  ·exact .inl ⟨k',h1,h2,by simpa using h3,by simpa using h4⟩
  ·subst h1;exact .inr ⟨rfl,h2⟩
 case pt=>exact hd

theorem setCs_cells:∀ (xs:List AV) (e:AV) (j:Nat),(∀ x∈xs,Sing x)→j+xs.length≤e.cells.length→(setCs e j xs).cells=e.cells.take j++xs++e.cells.drop (j+xs.length)
 | [],e,j,_,_=>by simp [setCs]
 | x :: r,e,j,hs,h=>by
  simp at h
  have h1:=setC_cells e j x (by omega) (hs x (by simp))
  rw [setCs,setCs_cells r (e.setC j x) (j+1) (fun y hy=>hs y (by simp [hy])) (by rw [h1,List.length_set];omega),h1]
  apply List.ext_getElem?
  intro q
  rw [splice_get _ _ _ _ _ rfl (by simp;omega),splice_get _ _ _ _ _ rfl (by simp;omega)]
  simp only [List.length_cons,List.getElem?_set]
  by_cases c1:q<j
  ·rw [if_pos (by omega),if_pos c1,if_neg (by omega)]
  ·rw [if_neg c1]
   by_cases c2:q=j
   ·subst c2
    rw [if_pos (by omega),if_pos (by omega),if_pos (by omega)];simp
   ·rw [if_neg (by omega)]
    by_cases c3:q<j+1+r.length
    ·rw [if_pos c3,if_pos (by omega)]
     obtain ⟨m,rfl⟩:∃ m,q=j+1+m:=⟨q - (j+1),by omega⟩
     have e1:j+1+m - (j+1)=m:=by omega
     have e2:j+1+m - j=m+1:=by omega
     rw [e1,e2];simp
    ·rw [if_neg c3,if_neg (by omega),if_neg (by omega)]
theorem setEl_cells {z:Nat} {e:AV} {j:Nat} {x:AV} (hz:e.cells.length=z) (hs:∀ y∈x.cells,Sing y) (hf:j+x.cells.length≤z):(setEl z e j x).cells=e.cells.take j++x.cells++e.cells.drop (j+x.cells.length):=by
 unfold setEl
 cases h:decide (j=0∧x.cells.length=z) with
 | true =>
  simp at h
  obtain ⟨rfl,h⟩:=h
  simp [h,hz]
 | false=>exact setCs_cells _ _ _ hs (by omega)

section
variable {P:Program} {N:Nat} {E:Entry} {st:St} {a:Act} {w w':World} {I I':Gh} {ρ ρ':Pl} {mem mem':Nat→Option AV}

theorem rs_sing {x:AV} {v:Value} (r:RepS I x v) (h:v.oneCell'=true):Sing x:=by
 refine sing_of fun fs e=>?_
 subst e
 cases r with | agg _ arr hn hr=>simp [Value.oneCell'] at h

theorem store_core (c:Conc N E st a w I ρ) {s i j:Nat} {p:Path} {R M:AV} {z:Nat} {es:List AV} (hR:st.mem s=some R) (hM:R.at p=M) (hes:nodeEs M=some (z,es)) (hi:i<es.length) {y:AV} {V:Value}
  (hfit:j+y.cells.length≤z) (hlen:V.cells.size=y.cells.length) (hrep:∀ q (h:q<y.cells.length) (h':q<V.cells.size),RepS I (y.cells[q]) (V.cells[q])∧(V.cells[q]).oneCell'=true)
  {ty:TypeId} {inf:TypeInfo} (hty:P.info? ty=some inf) (hsz:inf.size=y.cells.length) {u:Value} (hu:Rep I ρ (.loc s p i j) u) :
  ∃ w' k,ρ s p=some k∧k.z=z∧(Instr.storeAt ty u V).run P w=.ok () w'∧Conc N E (st.setMem s (R.modP p fun A=>A.setE i j y)) a w' I ρ∧∀ q (hq:q<V.cells.size),w'.cell? ⟨k.b,k.off+i*z+j+q,none⟩=some (V.cells[q]):=by
 obtain ⟨k0,hk0,rfl⟩:=rep_loc hu
 have hnode:=nodeEs_node hes
 have hrow:=c.mem.row s R p hR
 rw [hM,nodeEs_row hes] at hrow
 have hrow0:=hrow
 rcases hrow with ⟨_,rfl⟩ | ⟨k,Et,arr,h1,h2,h3,h3',h4,h5,h6⟩
 ·cases hi
 rw [hk0] at h1;cases h1
 have hzi:(es[i]).cells.length=z:=(h6 i hi).1
 have hin:i*z+z≤k0.cap*z:=by rw [← Nat.succ_mul];exact Nat.mul_le_mul_right _ (by omega)
 have hsing:∀ x∈y.cells,Sing x:=by
  intro x hx
  obtain ⟨q,hq,rfl⟩:=List.mem_iff_getElem.1 hx
  have:=hrep q hq (by omega)
  exact rs_sing this.1 this.2
 let off:=k0.off+i*z+j
 let arr':=(arr.toList.take off++V.cells.toList++arr.toList.drop (off+V.cells.size)).toArray
 have hst:=run_storeCells_at P k0.b off Et V.cells.toList 0 arr w h4 (by simp [off];omega) (fun v hv=>by
  obtain ⟨q,hq,rfl⟩:=List.mem_iff_getElem.1 hv
  simp at hq ⊢
  exact (hrep q (by omega) hq).2)
 simp only [Nat.add_zero,Array.length_toList] at hst
 have hrun:(Instr.storeAt ty (.pointer (some ⟨k0.b,k0.off+i*k0.z+j,none⟩)) V).run P w=.ok () (w.setRow k0.b arr'):=by
  have hsr:(sizeOf ty).run P w=.ok (sizeT P ty) w:=sizeT_run hty w
  have hsz':sizeT P ty=V.cells.size:=by unfold sizeT;rw [hty];simp only;omega
  rw [h2]
  simp [Instr.storeAt,Instr.sureAddr,storeVar,hsr,hsz',hst,off,arr']
 have hgetA:∀ o,arr'.getD o undef=if o<off then arr.getD o undef else if o<off+V.cells.size then V.cells.getD (o - off) undef else arr.getD o undef:=by
  intro o
  rw [Array.getD_eq_getD_getElem?]
  show ((List.toArray _)[o]?).getD undef=_
  rw [List.getElem?_toArray,splice_get _ _ _ _ _ (by simp) (by simp [off];omega)]
  split
  ·rw [Array.getD_eq_getD_getElem?];simp
  ·split
   ·rw [Array.getD_eq_getD_getElem?];simp
   ·rw [Array.getD_eq_getD_getElem?];simp
 have hszA:arr'.size=arr.size:=by simp [arr',off];omega
 have hh':(w.setRow k0.b arr').heap[k0.b]? = some (.cells arr' Et (0,0)):=setRow_heap w _ _ _ _ _ h4
 have hother:∀ b,b≠k0.b→(w.setRow k0.b arr').heap[b]? = w.heap[b]?:=fun b hb=>setRow_other w _ b _ hb
 have hlo:=c.lo k0.b ⟨s,R,p,k0,hR,by rw [hM];exact hnode,hk0,rfl⟩
 refine ⟨w.setRow k0.b arr',k0,hk0,h2,hrun,?_,fun q hq=>?_⟩
 ·have hes':=setE_es hes hi j y
  have hnode':=nodeEs_node hes'
  have hcells:=setEl_cells hzi hsing hfit
  rw [modP_eq,hM]
  have hcase:∀ ij:Nat×Nat,(M.setE i j y).cellAt ij.1 ij.2=M.cellAt ij.1 ij.2∨∃ v,RepS I ((M.setE i j y).cellAt ij.1 ij.2) v:=by
   intro ij
   rw [cellAt_es hes',cellAt_es hes]
   by_cases q:ij.1=i
   ·rw [q,set_getD_same hi,getD_lt hi,hcells]
    by_cases c2:j≤ij.2∧ij.2<j+y.cells.length
    ·right
     have hq:ij.2 - j<y.cells.length:=by omega
     refine ⟨V.cells[ij.2 - j]'(by omega),?_⟩
     have:((es[i]).cells.take j++y.cells++(es[i]).cells.drop (j+y.cells.length)).getD ij.2 .any=y.cells[ij.2 - j]:=by
      rw [List.getD,splice_get _ _ _ _ _ rfl (by omega),if_neg (by omega),if_pos c2.2,List.getElem?_eq_getElem hq];rfl
     rw [this]
     exact (hrep _ hq (by omega)).1
    ·left
     rw [List.getD,splice_get _ _ _ _ _ rfl (by omega)]
     by_cases c1:ij.2<j
     ·rw [if_pos c1,List.getD]
     ·rw [if_neg c1,if_neg (by omega),List.getD]
   ·left;rw [set_getD_ne (Ne.symm q)]
  have hMn:(R.at p).isNode=true:=by rw [hM];exact hnode
  have hold:∀ r,((M.setE i j y).at r).isNode=true→(R.at (p++r)).isNode=true:=by
   intro r hn
   cases r with
   | nil=>rw [List.append_nil];exact hMn
   | cons ij r =>
    have e2:R.at (p++ij :: r)=AV.at (M.cellAt ij.1 ij.2) r:=by rw [at_append,hM];rfl
    have hn:(AV.at ((M.setE i j y).cellAt ij.1 ij.2) r).isNode=true:=hn
    rcases hcase ij with e1 | ⟨v,e1⟩
    ·rw [e2,← e1];exact hn
    ·rw [rs_at e1 r] at hn;cases hn
  have hsep:=Sep.setP (w':=w.setRow k0.b arr') (I':=I) (ρ':=ρ) (x:=M.setE i j y) (Q:=p) c.mem hR
   (valid_of c.mem hR p [] (inP_node (R:=R) (by rw [hM];exact hnode)) (fun _=>sing_node hnode')) (fun _=>sing_node hnode') (fun _ _ _ h=>h)
   (fun v h1v _ hc=>by
    rw [hM] at hc
    rcases hc with ⟨_,hc⟩ | ⟨hc,_⟩
    ·exact .inl ⟨hnode',hdr_es (es':=es) hes ⟨i,j,y,rfl⟩ hc⟩
    ·rw [hnode] at hc;cases hc)
   (fun _ _ _=>rfl)
   (fun s' T' p' k' e1 e2 e3 e4=>by
    have hne:k'.b≠k0.b:=fun he=>by
     obtain ⟨q1,q2⟩:=c.mem.inj s' T' p' k' s R p k0 e1 e2 e3 hR (by rw [hM];exact hnode) hk0 he
     rcases e4 with e4 | e4
     ·exact e4 q1
     ·subst q2;exact e4 (List.prefix_refl _)
    exact ⟨hother _ hne,fun o=>c.mem.free s' T' p' k' e1 e2 e3 o⟩)
   (fun r=>by
    cases r with
    | nil =>
     rw [List.append_nil]
     show NodeOk I (ρ s) _ p (M.setE i j y)
     rw [nodeEs_row hes']
     refine .inr ⟨k0,Et,arr',hk0,h2,by simpa using h3,h3',hh',by rw [hszA];exact h5,fun i' hi'=>?_⟩
     have hi'':i'<es.length:=by simpa using hi'
     obtain ⟨h7,h8⟩:=h6 i' hi''
     by_cases q:i'=i
     ·subst q
      have e1:(es.set i' (setEl z (es[i']) j y))[i']=setEl z (es[i']) j y:=by simp
      rw [e1]
      have hlen':(setEl z (es[i']) j y).cells.length=z:=by rw [hcells];simp;omega
      refine ⟨hlen',fun j' hj'=>?_⟩
      have hg:=List.getElem?_eq_getElem hj'
      have hg2:(setEl z (es[i']) j y).cells[j']? = _:=congrArg (fun l:List AV=>l[j']?) hcells
      rw [hg2,splice_get _ _ _ _ _ rfl (by omega)] at hg
      have hA:=hgetA (k0.off+i'*z+j')
      by_cases c1:j'<j
      ·rw [if_pos c1] at hg
       rw [if_pos (by simp only [off];omega)] at hA
       obtain ⟨l1,l2⟩:=List.getElem?_eq_some_iff.1 hg
       rw [hA,← l2]
       exact h8 j' l1
      ·rw [if_neg c1] at hg
       rw [if_neg (by simp only [off];omega)] at hA
       by_cases c2:j'<j+y.cells.length
       ·rw [if_pos c2] at hg
        rw [if_pos (by simp only [off];omega)] at hA
        obtain ⟨l1,l2⟩:=List.getElem?_eq_some_iff.1 hg
        have e3:k0.off+i'*z+j' - off=j' - j:=by simp only [off];omega
        have hq:j' - j<V.cells.size:=by omega
        rw [hA,← l2,e3]
        have e4:V.cells.getD (j' - j) undef=V.cells[j' - j]:=by simp [Array.getD,hq]
        rw [e4]
        obtain ⟨g1,g2⟩:=hrep (j' - j) l1 hq
        exact ⟨rs_cell g1 _,g2⟩
       ·rw [if_neg c2] at hg
        rw [if_neg (by simp only [off];omega)] at hA
        obtain ⟨l1,l2⟩:=List.getElem?_eq_some_iff.1 hg
        rw [hA,← l2]
        exact h8 j' l1
     ·have e1:(es.set i (setEl z (es[i]) j y))[i']=es[i']:=by simp [List.getElem_set_ne (Ne.symm q)]
      rw [e1]
      refine ⟨h7,fun j' hj'=>?_⟩
      have hA:=hgetA (k0.off+i'*z+j')
      have:arr'.getD (k0.off+i'*z+j') undef=arr.getD (k0.off+i'*z+j') undef:=by
       rw [hA]
       rcases Nat.lt_or_ge i' i with hl | hl
       ·have:i'*z+z≤i*z:=by rw [← Nat.succ_mul];exact Nat.mul_le_mul_right _ hl
        rw [if_pos (by simp only [off];omega)]
       ·have:i*z+z≤i'*z:=by rw [← Nat.succ_mul];exact Nat.mul_le_mul_right _ (by omega)
        rw [if_neg (by simp only [off];omega),if_neg (by simp only [off];omega)]
      rw [this]
      exact h8 j' hj'
    | cons ij r =>
     show NodeOk I (ρ s) _ _ (AV.at ((M.setE i j y).cellAt ij.1 ij.2) r)
     rcases hcase ij with e1 | ⟨v,e1⟩
     ·rw [e1]
      have hr:=c.mem.row s R (p++ij :: r) hR
      have e2:R.at (p++ij :: r)=AV.at (M.cellAt ij.1 ij.2) r:=by rw [at_append,hM];rfl
      rw [e2] at hr
      refine NodeOk.mono (fun _ _ _ h=>h) (fun k' hn hk'=>?_) hr
      refine hother _ fun he=>?_
      obtain ⟨_,q2⟩:=c.mem.inj s R (p++ij :: r) k' s R p k0 hR (by rw [e2];exact hn) hk' hR (by rw [hM];exact hnode) hk0 he
      have:=congrArg List.length q2
      simp at this
     ·exact node_false (rs_at e1 r))
   (fun r k' hn hk' o=>c.mem.free s R (p++r) k' hR (hold r hn) hk' o)
   (fun r k1 r' k2 hn hk1 hn' hk2 he=>List.append_cancel_left (c.mem.inj s R (p++r) k1 s R (p++r') k2 hR (hold r hn) hk1 hR (hold r' hn') hk2 he).2)
   (fun r k1 s' T' p' k2 hn hk1 e1 e2 e3 e4 he=>by
    obtain ⟨q1,q2⟩:=c.mem.inj s R (p++r) k1 s' T' p' k2 hR (hold r hn) hk1 e1 e2 e3 he
    rcases e4 with e4 | e4
    ·exact e4 q1.symm
    ·exact e4 ⟨r,q2⟩)
  refine ⟨⟨fun b o x h=>?_,fun b cs h=>by
   obtain ⟨t,f,x,h1,h2⟩:=c.held.base b cs h
   have hb:b≠k0.b:=fun e=>by rw [e,c.mem.free s R p k0 hR hMn hk0 0] at h2;cases h2
   exact ⟨t,f,x,(hother b hb).trans h1,h2⟩⟩,?_,c.keeps,c.size,c.defers,c.fr,hsep,?_,?_⟩
  ·have:=c.held.cell b o x h
   refine ⟨?_,this.2⟩
   have hb:b≠k0.b:=fun e=>by rw [e,c.mem.free s R p k0 hR hMn hk0 o] at h;cases h
   exact (World.cell?_of_block (w:=w) (a:=⟨b,o,none⟩) (hother b hb)).trans this.1
  ·refine ⟨c.below.os,c.below.tape,c.below.output,by have:=c.below.size;simpa [World.setRow] using this,fun k hk hb=>?_⟩
   rw [hother k fun e=>?_]
   ·exact c.below.block k hk hb
   ·subst e
    rcases hlo with hlo | hlo
    ·omega
    ·exact hb hlo
  ·rintro b ⟨s',T',p',k',q1,q2,q3,rfl⟩
   simp only [St.setMem] at q1
   by_cases e:s'=s
   ·rw [if_pos e] at q1
    cases q1
    subst e
    by_cases hp:p <+: p'
    ·obtain ⟨r,rfl⟩:=hp
     rw [at_setP p R r (valid_of c.mem hR p [] (inP_node (R:=R) (by rw [hM];exact hnode)) (fun _=>sing_node hnode'))] at q2
     exact c.lo _ ⟨s',R,p++r,k',hR,hold r q2,q3,rfl⟩
    ·refine c.lo _ ⟨s',R,p',k',hR,?_,q3,rfl⟩
     rcases at_setP_ne p R p' (valid_of c.mem hR p [] (inP_node (R:=R) (by rw [hM];exact hnode)) (fun _=>sing_node hnode')) hp with ⟨h,_⟩ | ⟨ij,Q',_,h,hin,_⟩
     ·rw [h] at q2;exact q2
     ·rw [h] at q2
      generalize R.at p'=A at hin q2 ⊢
      cases A <;> first | rfl | exact hin.elim | exact q2
   ·rw [if_neg e] at q1
    exact c.lo _ ⟨s',T',p',k',q1,q2,q3,rfl⟩
  ·intro i' c' T' q g1 g2 g3
   simp only [St.setMem] at g2
   by_cases e:i'=s
   ·rw [if_pos e] at g2
    cases g2
    subst e
    refine c.fix i' c' R q g1 hR ?_
    cases p with
    | nil =>
     have hMR:R=M:=hM
     have g3:TopPos (M.setE i j y) q:=g3
     rw [hMR]
     generalize M=A at hes g3
     cases A <;> first | exact g3 | cases hes
    | cons ij p =>
     have g3:TopPos (R.setAt ij.1 ij.2 _) q:=g3
     generalize R=A at g3
     cases A <;> exact g3
   ·rw [if_neg e] at g2
    exact c.fix i' c' T' q g1 g2 g3
 ·have:k0.off+i*z+j+q<arr'.size:=by rw [hszA];omega
  rw [cell_arr hh' this,hgetA,if_neg (by simp only [off];omega),if_pos (by simp only [off];omega)]
  have e3:k0.off+i*z+j+q - off=q:=by simp only [off];omega
  rw [e3]
  simp [Array.getD,hq]
end
end Go.AM
namespace Go.AM
open Go.RowKit (Below)

section
variable {P:Program} {N:Nat} {E:Entry} {st:St} {a:Act} {w w':World} {I I':Gh} {ρ ρ':Pl} {mem mem':Nat→Option AV}

theorem node_setP {x R:AV} {Q p:Path} (hv:ValidP x R Q) (hp:¬ Q <+: p) (h:((R.setP Q x).at p).isNode=true):(R.at p).isNode=true:=by
 rcases at_setP_ne Q R p hv hp with ⟨h1,_⟩ | ⟨ij,Q',_,h1,hin,_⟩
 ·rw [h1] at h;exact h
 ·rw [h1] at h
  generalize R.at p=A at hin h ⊢
  cases A <;> first | rfl | exact hin.elim | exact h
theorem topPos_setP {x R:AV} {Q q:Path} (hQ:Q≠[]) (h:TopPos (R.setP Q x) q):TopPos R q:=by
 cases Q with
 | nil=>exact (hQ rfl).elim
 | cons ij Q =>
  have h:TopPos (R.setAt ij.1 ij.2 _) q:=h
  cases R <;> exact h

def rmvM (mem:Nat→Option AV) (t:Nat) (q:Path) (R:AV):Nat→Option AV:=fun i=>if i=t then (match q with | []=>none | _=>some (R.setP q .any)) else mem i
theorem rmv_mem (st:St) (t:Nat) (q:Path) (R:AV):(st.rmv t q R).mem=rmvM st.mem t q R:=by
 funext i
 unfold St.rmv rmvM
 cases q with
 | nil=>simp only [St.del]
 | cons ij q=>simp only [St.setMem]
theorem rmv_fr (st:St) (t:Nat) (q:Path) (R:AV):(st.rmv t q R).fr=st.fr:=by unfold St.rmv;cases q <;> rfl
theorem sing_any:Sing .any:=rfl
theorem Sep.rmv (m:Sep I ρ w mem) {t:Nat} {q:Path} {R:AV} (hR:mem t=some R) (hn:(R.at q).isNode=true) :
  Sep I ρ w (rmvM mem t q R)∧∀ s T p,rmvM mem t q R s=some T→(T.at p).isNode=true→∃ T0,mem s=some T0∧(T0.at p).isNode=true∧(s≠t∨¬ q <+: p):=by
 cases q with
 | nil =>
  have hs:∀ s T,rmvM mem t [] R s=some T→s≠t∧mem s=some T:=by
   intro s T h
   unfold rmvM at h
   split at h
   ·cases h
   ·rename_i e;exact ⟨e,h⟩
  exact ⟨m.sub fun s T h=>⟨(hs s T h).2,rfl⟩,fun s T p h h1=>⟨T,(hs s T h).2,h1,.inl (hs s T h).1⟩⟩
 | cons ij q =>
  have hv:ValidP .any R (ij :: q):=valid_of m hR (ij :: q) [] (inP_node hn) (fun _=>sing_any)
  have hno:∀ r,(AV.at .any r).isNode=true→False:=fun r h=>by rw [any_at] at h;cases h
  have hsep:=Sep.setP (w':=w) (I':=I) (ρ':=ρ) (x:=.any) (Q:=ij :: q) m hR hv (fun _=>sing_any) (fun _ _ _ h=>h) (fun v _ _ _=>.inr ⟨rfl,.any v⟩) (fun _ _ _=>rfl)
   (fun s' T' p' k e1 e2 e3 _=>⟨rfl,fun o=>m.free s' T' p' k e1 e2 e3 o⟩) (fun r=>by rw [any_at];trivial) (fun r k h=>(hno r h).elim) (fun r k r' k' h=>(hno r h).elim) (fun r k s' T' p' k' h=>(hno r h).elim)
  have e:rmvM mem t (ij :: q) R=fun i=>if i=t then some (R.setP (ij :: q) .any) else mem i:=rfl
  refine ⟨by rw [e];exact hsep,fun s T p h h1=>?_⟩
  rw [e] at h
  simp only at h
  by_cases c:s=t
  ·rw [if_pos c] at h
   cases h
   by_cases hp:(ij :: q) <+: p
   ·obtain ⟨r,rfl⟩:=hp
    rw [at_setP _ R r hv] at h1
    exact (hno r h1).elim
   ·exact ⟨R,by rw [c];exact hR,node_setP hv hp h1,.inr hp⟩
  ·rw [if_neg c] at h
   exact ⟨T,h,h1,.inl c⟩

def PartOf (X M:AV):Prop:=X=M∨∃ z es m,M=.tr z es∧X=.tr z (es.take m)
theorem partOf_at {X M:AV} (h:PartOf X M) (ij:Nat×Nat) (r:Path):X.at (ij :: r)=M.at (ij :: r)∨X.at (ij :: r)=.any:=by
 rcases h with rfl | ⟨z,es,m,rfl,rfl⟩
 ·exact .inl rfl
 ·show AV.at (((es.take m).getD ij.1 .any).cells.getD ij.2 .any) r=AV.at ((es.getD ij.1 .any).cells.getD ij.2 .any) r∨AV.at (((es.take m).getD ij.1 .any).cells.getD ij.2 .any) r=.any
  by_cases hm:ij.1<m
  ·left
   have:(es.take m).getD ij.1 .any=es.getD ij.1 .any:=by simp [List.getD,List.getElem?_take,hm]
   rw [this]
  ·right
   have e0:(es.take m).getD ij.1 .any=.any:=getD_ge (by simp;omega)
   rw [e0]
   cases ij.2 with
   | zero=>exact any_at r
   | succ j=>exact any_at r
theorem partOf_node {X M:AV} (h:PartOf X M) (hn:M.isNode=true):X.isNode=true:=by
 rcases h with rfl | ⟨z,es,m,rfl,rfl⟩
 ·exact hn
 ·rfl
theorem node_shift {π π':Path→Option Plc} {p p':Path} {a:AV} (h:NodeOk I π w p a) (e:∀ r,π' (p'++r)=π (p++r)):NodeOk I π' w p' a:=by
 have e0:π' p'=π p:=by have:=e [];simpa using this
 have row:∀ z es,RowOk I π w p z es→RowOk I π' w p' z es:=by
  intro z es h
  rcases h with ⟨h1,h2⟩ | ⟨k,E,arr,h1,h2,h3,h3',h4,h5,h6⟩
  ·exact .inl ⟨e0.trans h1,h2⟩
  ·exact .inr ⟨k,E,arr,e0.trans h1,h2,h3,h3',h4,h5,fun i hi=>⟨(h6 i hi).1,fun j hj=>by rw [e];exact (h6 i hi).2 j hj⟩⟩
 cases a <;> try trivial
 case tr z es=>exact row z es h
 case pt z x=>exact row z [x] h
 case mt kd f =>
  obtain ⟨k,es,c,h1,h2⟩:=h
  exact ⟨k,es,c,e0.trans h1,h2⟩
theorem partOf_ok {π:Path→Option Plc} {p:Path} {X M:AV} (hp:PartOf X M) (h:NodeOk I π w p M):NodeOk I π w p X:=by
 rcases hp with rfl | ⟨z,es,m,rfl,rfl⟩
 ·exact h
 ·rcases h with ⟨h1,h2⟩ | ⟨k,E,arr,h1,h2,h3,h3',h4,h5,h6⟩
  ·exact .inl ⟨h1,by rw [h2];simp⟩
  ·refine .inr ⟨k,E,arr,h1,h2,by simp;omega,h3',h4,h5,fun i hi=>?_⟩
   have hi':i<es.length:=by simp at hi;omega
   have e1:(es.take m)[i]=es[i]:=by simp
   rw [e1]
   exact h6 i hi'

open Classical in
noncomputable def moveP (ρ:Pl) (t:Nat) (q:Path) (s:Nat) (Q:Path):Pl:=fun s' p'=>if s'=s∧Q <+: p' then ρ t (q++p'.drop Q.length) else ρ s' p'
theorem moveP_at (ρ:Pl) (t:Nat) (q:Path) (s:Nat) (Q r:Path):moveP ρ t q s Q s (Q++r)=ρ t (q++r):=by
 unfold moveP
 rw [if_pos ⟨rfl,r,rfl⟩]
 simp
theorem moveP_ne {ρ:Pl} {t:Nat} {q:Path} {s:Nat} {Q:Path} {s':Nat} {p':Path} (h:s'≠s∨¬ Q <+: p'):moveP ρ t q s Q s' p'=ρ s' p':=by
 unfold moveP
 rw [if_neg]
 rintro ⟨h1,h2⟩
 rcases h with h | h
 ·exact h h1
 ·exact h h2
theorem moveF_ok {ρ:Pl} {t:Nat} {q:Path} {s:Nat} {Q:Path} (hts:t≠s) (s':Nat) (p':Path) (s1:Nat) (p1:Path) (h:moveF t q s Q s' p'=some (s1,p1)):moveP ρ t q s Q s1 p1=ρ s' p':=by
 unfold moveF at h
 split at h
 ·rename_i e
  subst e
  cases hp:isPref q p' with
  | true =>
   rw [hp] at h
   simp only [Option.some.injEq,Prod.mk.injEq] at h
   obtain ⟨rfl,rfl⟩:=h
   obtain ⟨r,rfl⟩:=(prefix_iff q p').1 hp
   rw [moveP_at];simp
  | false =>
   rw [hp] at h
   simp only [Option.some.injEq,Prod.mk.injEq] at h
   obtain ⟨rfl,rfl⟩:=h
   exact moveP_ne (.inl hts)
 ·unfold fromF at h
  split at h
  ·rename_i e
   subst e
   cases hp:isPref Q p' with
   | true=>rw [hp] at h;cases h
   | false =>
    rw [hp] at h
    simp only [Option.some.injEq,Prod.mk.injEq] at h
    obtain ⟨rfl,rfl⟩:=h
    exact moveP_ne (.inr (isPref_false.1 hp))
  ·rename_i e
   simp only [Option.some.injEq,Prod.mk.injEq] at h
   obtain ⟨rfl,rfl⟩:=h
   exact moveP_ne (.inl e)

theorem Conc.graft (c:Conc N E st a w I ρ) {t s i j:Nat} {q P0:Path} {R S X:AV} (hR:st.mem t=some R) (hn:(R.at q).isNode=true) (hS:st.mem s=some S) (hts:t≠s) (hP:(S.at P0).isNode=true) (hin:InR (S.at P0) i j)
  (hany:S.at (P0++[(i,j)])=.any) (hX:PartOf X (R.at q)) {k:Plc} {v:Value} (hk:ρ s P0=some k) (hv:w.cell? ⟨k.b,k.off+i*k.z+j,none⟩=some v) (hh:Hdr (ρ t q) X v) :
  Conc N E ((st.mv t q R s (P0++[(i,j)])).setMem s (S.setP (P0++[(i,j)]) X)) a w I (moveP ρ t q s (P0++[(i,j)])):=by
 have hXn:=partOf_node hX hn
 obtain ⟨m1,hold⟩:=c.mem.rmv hR hn
 have hS1:rmvM st.mem t q R s=some S:=by unfold rmvM;rw [if_neg (Ne.symm hts)];exact hS
 have hQ:P0++[(i,j)]≠[]:=by simp
 have hvS:ValidP X S (P0++[(i,j)]):=valid_of m1 hS1 _ [] (inP_snoc P0 S (inP_node hP) hin) (fun _=>sing_node hXn)
 have hXat:∀ r,(X.at r).isNode=true→(R.at (q++r)).isNode=true:=by
  intro r h
  cases r with
  | nil=>rw [List.append_nil];exact hn
  | cons ij r =>
   rw [at_append]
   rcases partOf_at hX ij r with e | e
   ·rw [← e];exact h
   ·rw [e] at h;cases h
 have hsep:=Sep.setP (w':=w) (I':=I) (ρ':=moveP ρ t q s (P0++[(i,j)])) (x:=X) (Q:=P0++[(i,j)]) m1 hS1 hvS (fun _=>sing_node hXn) (fun _ _ _ h=>h)
  (fun v' _ hk' _=>by
   have e1:=hk' P0 i j k rfl hk
   rw [hv] at e1
   cases e1
   have e0:=moveP_at ρ t q s (P0++[(i,j)]) []
   rw [List.append_nil,List.append_nil] at e0
   rw [e0]
   exact .inl ⟨hXn,hh⟩)
  (fun s' p' h=>moveP_ne h)
  (fun s' T' p' k' e1 e2 e3 _=>⟨rfl,fun o=>m1.free s' T' p' k' e1 e2 e3 o⟩)
  (fun r=>by
   refine node_shift (π:=ρ t) (p:=q++r) ?_ (fun r'=>by rw [List.append_assoc,moveP_at,List.append_assoc])
   cases r with
   | nil=>rw [List.append_nil];exact partOf_ok hX (c.mem.row t R q hR)
   | cons ij r =>
    rcases partOf_at hX ij r with e | e
    ·rw [e,← at_append];exact c.mem.row t R _ hR
    ·rw [e];trivial)
  (fun r k' h1 h2 o=>by rw [moveP_at] at h2;exact c.mem.free t R _ k' hR (hXat r h1) h2 o)
  (fun r k1 r' k2 h1 h2 h1' h2' he=>by
   rw [moveP_at] at h2 h2'
   exact List.append_cancel_left (c.mem.inj t R _ k1 t R _ k2 hR (hXat r h1) h2 hR (hXat r' h1') h2' he).2)
  (fun r k1 s' T' p' k2 h1 h2 e1 e2 e3 e4 he=>by
   rw [moveP_at] at h2
   obtain ⟨T0,g1,g2,g3⟩:=hold s' T' p' e1 e2
   obtain ⟨q1,q2⟩:=c.mem.inj t R _ k1 s' T0 p' k2 hR (hXat r h1) h2 g1 g2 e3 he
   rcases g3 with g3 | g3
   ·exact g3 q1.symm
   ·exact g3 ⟨r,q2⟩)
 have hmem:((st.mv t q R s (P0++[(i,j)])).setMem s (S.setP (P0++[(i,j)]) X)).mem=fun i'=>if i'=s then some (S.setP (P0++[(i,j)]) X) else rmvM st.mem t q R i':=by
  funext i'
  simp only [St.setMem,St.mv]
  rw [rmv_mem]
  rfl
 have hst:(st.mv t q R s (P0++[(i,j)])).setMem s (S.setP (P0++[(i,j)]) X)={ fr:=fun i'=>(st.fr i').mapH (moveF t q s (P0++[(i,j)])),mem:=fun i'=>if i'=s then some (S.setP (P0++[(i,j)]) X) else rmvM st.mem t q R i' }:=by
  have hfr:((st.mv t q R s (P0++[(i,j)])).setMem s (S.setP (P0++[(i,j)]) X)).fr=fun i'=>(st.fr i').mapH (moveF t q s (P0++[(i,j)])):=by
   show ((st.mapF (moveF t q s (P0++[(i,j)]))).rmv t q R).fr=_
   rw [rmv_fr];rfl
  generalize hZ:(st.mv t q R s (P0++[(i,j)])).setMem s (S.setP (P0++[(i,j)]) X)=Z at hmem hfr
  cases Z
  simp only at hmem hfr
  rw [hmem,hfr]
 rw [hst]
 refine c.remap (moveF t q s (P0++[(i,j)])) (fun s' p' s1 p1 h=>moveF_ok hts s' p' s1 p1 h) c.held (fun _ _ _ h=>h) c.below c.keeps hsep ?_ ?_
 ·rintro b ⟨s',T',p',k',q1,q2,q3,rfl⟩
  (try simp only at q1)
  by_cases e:s'=s
  ·rw [if_pos e] at q1
   cases q1
   subst e
   by_cases hp:(P0++[(i,j)]) <+: p'
   ·obtain ⟨r,rfl⟩:=hp
    rw [at_setP _ S r hvS] at q2
    rw [moveP_at] at q3
    exact c.lo _ ⟨t,R,_,k',hR,hXat r q2,q3,rfl⟩
   ·rw [moveP_ne (.inr hp)] at q3
    exact c.lo _ ⟨s',S,p',k',hS,node_setP hvS hp q2,q3,rfl⟩
  ·rw [if_neg e] at q1
   rw [moveP_ne (.inl e)] at q3
   obtain ⟨T0,g1,g2,_⟩:=hold s' T' p' q1 q2
   exact c.lo _ ⟨s',T0,p',k',g1,g2,q3,rfl⟩
 ·intro i' c' T' q' g1 g2 g3
  (try simp only at g2)
  by_cases e:i'=s
  ·rw [if_pos e] at g2
   cases g2
   subst e
   have g3:=topPos_setP hQ g3
   have hnp:¬ (P0++[(i,j)]) <+: q':=by
    rintro ⟨r,hr⟩
    cases hS':S with
    | agg fs =>
     rw [hS'] at g3
     obtain ⟨j',rfl⟩:=g3
     have:=congrArg List.length hr
     simp at this
     have hP0:P0=[]:=List.eq_nil_of_length_eq_zero (by omega)
     subst hP0
     rw [hS'] at hP;cases hP
    | tup fs=>rw [hS'] at g3;exact g3
    | _ =>
     rw [hS'] at g3
     simp only [TopPos] at g3
     subst g3
     have:=congrArg List.length hr
     simp at this
   rw [moveP_ne (.inr hnp)]
   exact c.fix i' c' S q' g1 hS g3
  ·rw [if_neg e] at g2
   rw [moveP_ne (.inl e)]
   unfold rmvM at g2
   by_cases e2:i'=t
   ·rw [if_pos e2] at g2
    subst e2
    cases q with
    | nil=>cases g2
    | cons ij q =>
     cases g2
     exact c.fix i' c' R q' g1 hR (topPos_setP (by simp) g3)
   ·rw [if_neg e2] at g2
    exact c.fix i' c' T' q' g1 g2 g3
end
end Go.AM
namespace Go.AM
open Go.RowKit (Below)

def setCells (S:AV) (p:Path) (i:Nat):Nat→List AV→AV
 | _,[]=>S
 | j,x :: r=>setCells (S.setP (p++[(i,j)]) x) p i (j+1) r
def setAts (S:AV) (i:Nat):Nat→List AV→AV
 | _,[]=>S
 | j,x :: r=>setAts (S.setAt i j x) i (j+1) r
def blankC (x:AV):AV:=match x.bears with | true=>.any | false=>x
theorem blank_sing {x:AV} (h:Sing x):Sing (blankC x):=by unfold blankC;cases x.bears <;> first | rfl | exact h

theorem setAt_self {a:AV} {i j:Nat} (h:InR a i j) (hs:Sing (a.cellAt i j)∨(∃ fs,a=.agg fs)∨∃ fs,a=.tup fs):a.setAt i j (a.cellAt i j)=a:=by
  have key:∀ (e:AV) (hj:j<e.cells.length),e.setC j (e.cells[j])=e:=by
    intro e hj
    cases e <;> try (have hj0:j=0:=by simpa [AV.cells] using hj
                     subst hj0;rfl)
    rename_i fs
    have hj':j<fs.length:=hj
    show AV.agg (fs.set j (fs[j]'hj'))=_
    rw [List.set_getElem_self]
  cases a <;> try exact h.elim
  case tr z es =>
    obtain ⟨hi,hj⟩:=h
    show AV.tr z (es.set i ((es.getD i .any).setC j ((es.getD i .any).cells.getD j .any)))=_
    rw [getD_lt hi,getD_lt hj,key _ hj,List.set_getElem_self]
  case pt z x =>
    obtain ⟨rfl,hj⟩:=h
    show AV.pt z (x.setC j (x.cells.getD j .any))=_
    rw [getD_lt hj,key _ hj]
  case agg fs =>
    obtain ⟨rfl,hj⟩:=h
    show AV.agg (fs.set j (fs.getD j .any))=_
    rw [getD_lt hj,List.set_getElem_self]
  case tup fs =>
    obtain ⟨rfl,hj⟩:=h
    show AV.tup (fs.set j (fs.getD j .any))=_
    rw [getD_lt hj,List.set_getElem_self]
theorem setP_self:∀ (Q:Path) (R:AV),ValidP (R.at Q) R Q→R.setP Q (R.at Q)=R
 | [],_,_=>rfl
 | ij :: Q,R,⟨h1,h2,h3⟩=>by
  have e:(R.cellAt ij.1 ij.2).setP Q ((R.cellAt ij.1 ij.2).at Q)=R.cellAt ij.1 ij.2:=setP_self Q _ h3
  show R.setAt ij.1 ij.2 ((R.cellAt ij.1 ij.2).setP Q ((R.cellAt ij.1 ij.2).at Q))=R
  rw [e]
  refine setAt_self h1 ?_
  rcases h2 with h | h | h
  ·exact .inr (.inl h)
  ·exact .inr (.inr h)
  ·exact .inl h.1
theorem inR_setAt {a x:AV} {i j i' j':Nat} (h:InR a i j) (hx:Sing x) (h':InR a i' j'):InR (a.setAt i j x) i' j':=by
 cases a <;> try exact h.elim
 case tr z es =>
  obtain ⟨hi,hj⟩:=h
  obtain ⟨hi',hj'⟩:=h'
  show ∃ h:i'<(es.set i ((es.getD i .any).setC j x)).length,j'<((es.set i ((es.getD i .any).setC j x))[i']).cells.length
  refine ⟨by simpa using hi',?_⟩
  by_cases q:i'=i
  ·subst q
   simp only [List.getElem_set_self]
   rw [getD_lt hi,setC_cells _ _ _ hj hx,List.length_set];exact hj'
  ·simp only [List.getElem_set_ne (Ne.symm q)];exact hj'
 case pt z y =>
  obtain ⟨rfl,hj⟩:=h
  obtain ⟨rfl,hj'⟩:=h'
  exact ⟨rfl,by rw [setC_cells _ _ _ hj hx,List.length_set];exact hj'⟩
 case agg fs=>exact ⟨h'.1,by simpa using h'.2⟩
 case tup fs=>exact ⟨h'.1,by simpa using h'.2⟩
theorem setAt_node {a x:AV} {i j:Nat} (h:a.isNode=true):(a.setAt i j x).isNode=true:=by cases a <;> first | rfl | cases h

theorem setC_setC {e x y:AV} {j:Nat} (hj:j<e.cells.length) (hx:Sing x):(e.setC j x).setC j y=e.setC j y:=by
 cases e
 case agg fs=>show AV.agg ((fs.set j x).set j y)=.agg (fs.set j y);rw [List.set_set]
 all_goals
  show x.setC j y=y
  cases x
  case agg fs =>
   have:fs=[.agg fs]:=hx
   have:=congrArg SizeOf.sizeOf this
   simp at this
   omega
  all_goals rfl
theorem setAt_setAt {a x y:AV} {i j:Nat} (h:InR a i j) (hx:Sing x∨(∃ fs,a=.agg fs)∨∃ fs,a=.tup fs):(a.setAt i j x).setAt i j y=a.setAt i j y:=by
 cases a <;> try exact h.elim
 case tr z es =>
  obtain ⟨hi,hj⟩:=h
  have hx:Sing x:=by rcases hx with h | ⟨_,h⟩ | ⟨_,h⟩;exact h;cases h;cases h
  show AV.tr z ((es.set i ((es.getD i .any).setC j x)).set i (((es.set i ((es.getD i .any).setC j x)).getD i .any).setC j y))=.tr z (es.set i ((es.getD i .any).setC j y))
  rw [set_getD_same hi,List.set_set,getD_lt hi,setC_setC hj hx]
 case pt z e =>
  obtain ⟨rfl,hj⟩:=h
  have hx:Sing x:=by rcases hx with h | ⟨_,h⟩ | ⟨_,h⟩;exact h;cases h;cases h
  show AV.pt z ((e.setC j x).setC j y)=.pt z (e.setC j y)
  rw [setC_setC hj hx]
 case agg fs=>show AV.agg ((fs.set j x).set j y)=.agg (fs.set j y);rw [List.set_set]
 case tup fs=>show AV.tup ((fs.set j x).set j y)=.tup (fs.set j y);rw [List.set_set]
theorem setP_setP {N' x:AV} {r:Path}:∀ (p:Path) (R:AV),ValidP N' R p→(p≠[]→Sing N')→(R.setP p N').setP (p++r) x=R.setP p (N'.setP r x)
 | [],_,_,_=>rfl
 | ij :: p,R,⟨h1,h2,h3⟩,hs=>by
  show (R.setAt ij.1 ij.2 _).setAt ij.1 ij.2 (((R.setAt ij.1 ij.2 ((R.cellAt ij.1 ij.2).setP p N')).cellAt ij.1 ij.2).setP (p++r) x)=R.setAt ij.1 ij.2 ((R.cellAt ij.1 ij.2).setP p (N'.setP r x))
  have hv:=valid_sing h2
  rw [cellAt_setAt_same h1 hv,setP_setP p _ h3 (fun _=>hs (by simp)),setAt_setAt h1 hv]
theorem setCells_setP {N':AV} {R:AV} {p:Path} {i:Nat} (hn:N'.isNode=true) (hR:InP R p) (hv:∀ M:AV,M.isNode=true→ValidP M R p):∀ (xs:List AV) (j:Nat) (M:AV),M.isNode=true→setCells (R.setP p M) p i j xs=R.setP p (setAts M i j xs)
 | [],_,_,_=>rfl
 | x :: r,j,M,hM=>by
  have e:(R.setP p M).setP (p++[(i,j)]) x=R.setP p (M.setAt i j x):=setP_setP p R (hv M hM) (fun _=>sing_node hM)
  show setCells ((R.setP p M).setP (p++[(i,j)]) x) p i (j+1) r=_
  rw [e]
  exact setCells_setP hn hR hv r (j+1) _ (setAt_node hM)
theorem setAts_tr {z i:Nat} {es:List AV} (hi:i<es.length):∀ (xs:List AV) (j:Nat) (e:AV),setAts (.tr z (es.set i e)) i j xs=.tr z (es.set i (setCs e j xs))
 | [],_,_=>rfl
 | x :: r,j,e=>by
  have h1:(AV.tr z (es.set i e)).setAt i j x=.tr z (es.set i (e.setC j x)):=by
   show AV.tr z ((es.set i e).set i (((es.set i e).getD i .any).setC j x))=_
   rw [set_getD_same hi,List.set_set]
  show setAts ((AV.tr z (es.set i e)).setAt i j x) i (j+1) r=_
  rw [h1]
  exact setAts_tr hi r (j+1) _
theorem setAts_pt {z:Nat}:∀ (xs:List AV) (j:Nat) (e:AV),setAts (.pt z e) 0 j xs=.pt z (setCs e j xs)
 | [],_,_=>rfl
 | x :: r,j,e=>setAts_pt r (j+1) (e.setC j x)
theorem setCs_agg:∀ (xs fs:List AV) (j:Nat),∃ gs,setCs (.agg fs) j xs=.agg gs
 | [],fs,_=>⟨fs,rfl⟩
 | x :: r,fs,j=>setCs_agg r (fs.set j x) (j+1)
theorem agg_of_cells {a b:AV} (ha:∃ fs,a=.agg fs) (hb:∃ fs,b=.agg fs) (h:a.cells=b.cells):a=b:=by
 obtain ⟨fs,rfl⟩:=ha
 obtain ⟨gs,rfl⟩:=hb
 have:fs=gs:=h
 rw [this]

theorem fill_el {z j:Nat} {e y x':AV} (hz:e.cells.length=z) (hsy:∀ q∈y.cells,Sing q) (hsx:∀ q∈x'.cells,Sing q) (hl:y.cells.length=x'.cells.length) (hk:(Sing y∧Sing x')∨((∃ fs,y=.agg fs)∧∃ fs,x'=.agg fs)) (hf:j+y.cells.length≤z) :
  setCs (setEl z e j y) j x'.cells=setEl z e j x':=by
 have c1:=setEl_cells hz hsy hf
 have c2:=setEl_cells (e:=e) (j:=j) (x:=x') hz hsx (by omega)
 have c3:=setCs_cells x'.cells (setEl z e j y) j hsx (by rw [c1];simp;omega)
 have hcells:(setCs (setEl z e j y) j x'.cells).cells=(setEl z e j x').cells:=by
  rw [c3,c1,c2]
  apply List.ext_getElem?
  intro q
  have A:=splice_get (e.cells.take j++y.cells++e.cells.drop (j+y.cells.length)) x'.cells j x'.cells.length q rfl (by simp;omega)
  have B:=splice_get e.cells x'.cells j x'.cells.length q rfl (by omega)
  have C:=splice_get e.cells y.cells j y.cells.length q rfl (by omega)
  rw [A,B,C]
  by_cases q1:q<j
  ·rw [if_pos q1,if_pos q1,if_pos q1]
  ·rw [if_neg q1,if_neg q1,if_neg q1]
   by_cases q2:q<j+x'.cells.length
   ·rw [if_pos q2,if_pos q2]
   ·rw [if_neg q2,if_neg q2,if_neg (by omega)]
 unfold setEl at c1 c2 c3 hcells ⊢
 rw [← hl] at c2 hcells ⊢
 cases hd:decide (j=0∧y.cells.length=z) with
 | true =>
  rw [hd] at hcells
  simp only at hcells ⊢
  simp at hd
  obtain ⟨rfl,hd⟩:=hd
  rcases hk with ⟨h1,h2⟩ | ⟨⟨fs,rfl⟩,⟨gs,rfl⟩⟩
  ·have:x'.cells=[x']:=h2
   rw [this]
   show y.setC 0 x'=x'
   cases y
   case agg fs =>
    have:fs=[.agg fs]:=h1
    have:=congrArg SizeOf.sizeOf this
    simp at this
    omega
   all_goals rfl
  ·exact agg_of_cells (setCs_agg _ _ _) ⟨gs,rfl⟩ hcells
 | false =>
  rw [hd] at hcells
  simp only at hcells ⊢
  by_cases hagg:∃ fs,e=.agg fs
  ·obtain ⟨fs,rfl⟩:=hagg
   obtain ⟨gs,hgs⟩:=setCs_agg y.cells fs j
   exact agg_of_cells (by rw [hgs];exact setCs_agg _ _ _) (setCs_agg _ _ _) hcells
  ·have he:Sing e:=sing_of fun fs h=>hagg ⟨fs,h⟩
   have he1:e.cells.length=1:=by rw [he];rfl
   simp at hd
   have h0:y.cells.length=0:=by
    rcases Nat.eq_zero_or_pos j with q | q
    ·have:=hd q;omega
    ·omega
   have hx0:x'.cells=[]:=List.eq_nil_of_length_eq_zero (by omega)
   have hy0:y.cells=[]:=List.eq_nil_of_length_eq_zero h0
   rw [hx0,hy0];rfl

section
variable {P:Program} {N:Nat} {E:Entry} {st:St} {a:Act} {w w':World} {I I':Gh} {ρ ρ':Pl} {mem mem':Nat→Option AV}

theorem setMem_mv {st:St} {t s:Nat} {q Q:Path} {T S Y:AV}:((st.setMem s S).mv t q T s Q).setMem s Y=(st.mv t q T s Q).setMem s Y:=by
 have e1:∀ Z:St,∀ W:St,Z.fr=W.fr→Z.mem=W.mem→Z=W:=fun Z W h1 h2=>by cases Z;cases W;simp only at h1 h2;rw [h1,h2]
 refine e1 _ _ ?_ ?_
 ·show (((st.setMem s S).mapF _).rmv t q T).fr=((st.mapF _).rmv t q T).fr
  rw [rmv_fr,rmv_fr];rfl
 ·funext i
  simp only [St.setMem,St.mv]
  rw [rmv_mem,rmv_mem]
  by_cases e:i=s
  ·rw [if_pos e,if_pos e]
  ·rw [if_neg e,if_neg e]
   unfold rmvM
   by_cases e2:i=t
   ·rw [if_pos e2,if_pos e2]
   ·rw [if_neg e2,if_neg e2]
    show (if i=s then some S else st.mem i)=st.mem i
    rw [if_neg e]
theorem setMem_self {st:St} {s:Nat} {S:AV}:(st.setMem s S).mem s=some S:=by simp [St.setMem]
theorem setMem_ne {st:St} {s t:Nat} {S:AV} (h:t≠s):(st.setMem s S).mem t=st.mem t:=by simp [St.setMem,h]

theorem mv_mem {st:St} {t s:Nat} {q Q:Path} {T:AV} (h:t≠s):(st.mv t q T s Q).mem s=st.mem s:=by
 show ((st.mapF _).rmv t q T).mem s=_
 rw [rmv_mem]
 unfold rmvM
 rw [if_neg (Ne.symm h)]
 rfl
theorem rep_off {t:Nat} {q:Path} {z o n:Nat} {v:Value} (h:ρ' t=ρ t) (r:Rep I ρ (.ref t q z o n) v):Rep I ρ' (.ref t q z o n) v:=by
 cases r with
 | stat r=>cases r
 | ref _ _ _ _ _ k hk hz hc=>exact .ref _ _ _ _ _ k (by rw [h];exact hk) hz hc
 | ref0 _ _ _ _ a=>exact .ref0 _ _ _ _ a
theorem rep_offL {t:Nat} {q:Path} {i j:Nat} {v:Value} (h:ρ' t=ρ t) (r:Rep I ρ (.loc t q i j) v):Rep I ρ' (.loc t q i j) v:=by
 cases r with
 | stat r=>cases r
 | loc _ _ _ _ k hk=>exact .loc _ _ _ _ k (by rw [h];exact hk)
theorem rep_offM {t:Nat} {q:Path} {v:Value} (h:ρ' t=ρ t) (r:Rep I ρ (.mref t q) v):Rep I ρ' (.mref t q) v:=by
 cases r with
 | stat r=>cases r
 | mref _ _ k hk=>exact .mref _ _ k (by rw [h];exact hk)

theorem at_setP_pre {x:AV} {i j:Nat}:∀ (p:Path) (R:AV),ValidP x R (p++[(i,j)])→(R.setP (p++[(i,j)]) x).at p=(R.at p).setAt i j x
 | [],_,_=>rfl
 | kl :: p,R,h=>by
  have h:InR R kl.1 kl.2∧((∃ fs,R=.agg fs)∨(∃ fs,R=.tup fs)∨(Sing (R.cellAt kl.1 kl.2)∧(p++[(i,j)]=[]→Sing x)))∧ValidP x (R.cellAt kl.1 kl.2) (p++[(i,j)]):=h
  obtain ⟨v1,v2,v3⟩:=h
  exact (congrArg (fun A:AV=>A.at p) (cellAt_setAt_same v1 (valid_sing v2))).trans (at_setP_pre p _ v3)
theorem grabC_sound {ρ0:Pl} {s i j:Nat} {P0:Path} {S x:AV} {K:AV→St→Prop} {k:Plc} {v:Value} (c:Conc N E (st.setMem s S) a w I ρ) (h:grabC st x s (P0++[(i,j)]) K .mk) (hoff:∀ t,t≠s→ρ t=ρ0 t)
  (hP:(S.at P0).isNode=true) (hin:InR (S.at P0) i j) (hb:S.at (P0++[(i,j)])=blankC x) (hk:ρ s P0=some k) (hv:w.cell? ⟨k.b,k.off+i*k.z+j,none⟩=some v) (hr:Rep I ρ0 x v) (h1:v.oneCell'=true) :
  ∃ x' st' ρ',K x' st'∧Conc N E (st'.setMem s (S.setP (P0++[(i,j)]) x')) a w I ρ'∧(∀ t,t≠s→ρ' t=ρ0 t)∧ρ' s P0=ρ s P0∧Sing x'∧st'.mem s=st.mem s:=by
 have hmv:∀ t q,(∀ t',t'≠s→moveP ρ t q s (P0++[(i,j)]) t'=ρ0 t')∧moveP ρ t q s (P0++[(i,j)]) s P0=ρ s P0:=fun t q=>by
  refine ⟨fun t' ht'=>?_,moveP_ne (.inr fun hp=>by have:=hp.length_le;simp at this;omega)⟩
  rw [← hoff t' ht']
  funext p'
  exact moveP_ne (.inl ht')
 unfold grabC at h
 split at h
 ·rename_i t q z o m
  obtain ⟨rfl,h⟩:=h
  cases hT:st.mem t with
  | none=>rw [hT] at h;exact h.elim
  | some T =>
   rw [hT] at h
   simp only [optP] at h
   unfold grabTr at h
   split at h
   ·rename_i z' es hTq
    obtain ⟨⟨hts,rfl,hm⟩,hK⟩:=h
    have hr':Rep I ρ (.ref t q z 0 m) v:=rep_off (hoff t hts) hr
    have hh:Hdr (ρ t q) (.tr z (es.take m)) v:=by
     have hl:(es.take m).length=m:=by simp;omega
     rcases rep_ref hr' with ⟨k',g1,g2,g3,rfl⟩ | ⟨rfl,a',rfl⟩
     ·exact .inl ⟨k',g1,g2,by omega,by rw [hl];simp⟩
     ·exact .inr ⟨rfl,a',rfl⟩
    have hbk:S.at (P0++[(i,j)])=.any:=hb
    have:=c.graft (t:=t) (s:=s) (by rw [setMem_ne hts];exact hT) (by rw [hTq];rfl) setMem_self hts hP hin hbk (X:=.tr z (es.take m)) (.inr ⟨z,es,m,hTq,rfl⟩) hk hv hh
    rw [setMem_mv] at this
    exact ⟨_,_,_,hK,this,(hmv t q).1,(hmv t q).2,rfl,mv_mem hts⟩
   ·exact h.elim
 ·rename_i t q i' j'
  obtain ⟨⟨rfl,rfl⟩,h⟩:=h
  cases hT:st.mem t with
  | none=>rw [hT] at h;exact h.elim
  | some T =>
   rw [hT] at h
   simp only [optP] at h
   unfold grabPt at h
   split at h
   ·rename_i z y hTq
    obtain ⟨hts,hK⟩:=h
    have hr':Rep I ρ (.loc t q 0 0) v:=rep_offL (hoff t hts) hr
    obtain ⟨k',g1,rfl⟩:=rep_loc hr'
    have hrow:=c.mem.row t T q (by rw [setMem_ne hts];exact hT)
    rw [hTq] at hrow
    have hh:Hdr (ρ t q) (.pt z y) (.pointer (some ⟨k'.b,k'.off+0*k'.z+0,none⟩)):=by
     rcases hrow with ⟨_,q2⟩ | ⟨k2,E2,arr,q1,q2,q3,_⟩
     ·cases q2
     ·rw [g1] at q1;cases q1
      exact ⟨k',g1,q2,by simpa using q3,by simp⟩
    have hbk:S.at (P0++[(i,j)])=.any:=hb
    have:=c.graft (t:=t) (s:=s) (by rw [setMem_ne hts];exact hT) (by rw [hTq];rfl) setMem_self hts hP hin hbk (X:=.pt z y) (.inl hTq.symm) hk hv hh
    rw [setMem_mv] at this
    exact ⟨_,_,_,hK,this,(hmv t q).1,(hmv t q).2,rfl,mv_mem hts⟩
   ·exact h.elim
 ·rename_i t q
  cases hT:st.mem t with
  | none=>rw [hT] at h;exact h.elim
  | some T =>
   rw [hT] at h
   simp only [optP] at h
   unfold grabMt at h
   split at h
   ·rename_i kd f hTq
    obtain ⟨hts,hK⟩:=h
    have hr':Rep I ρ (.mref t q) v:=rep_offM (hoff t hts) hr
    obtain ⟨k',g1,rfl⟩:=rep_mref hr'
    have hbk:S.at (P0++[(i,j)])=.any:=hb
    have:=c.graft (t:=t) (s:=s) (by rw [setMem_ne hts];exact hT) (by rw [hTq];rfl) setMem_self hts hP hin hbk (X:=.mt kd f) (.inl hTq.symm) hk hv ⟨k',g1,rfl⟩
    rw [setMem_mv] at this
    exact ⟨_,_,_,hK,this,(hmv t q).1,(hmv t q).2,rfl,mv_mem hts⟩
   ·exact h.elim
 ·obtain ⟨hnb,hK⟩:=h
  have hx:S.at (P0++[(i,j)])=x:=by rw [hb];unfold blankC;rw [hnb]
  have hs:Sing x:=rs_sing (nb_stat hr hnb) h1
  refine ⟨x,st,ρ,hK,?_,hoff,rfl,hs,rfl⟩
  have hv':ValidP (S.at (P0++[(i,j)])) S (P0++[(i,j)]):=valid_of c.mem setMem_self _ [] (inP_snoc P0 S (inP_node hP) hin) (fun _=>by rw [hx];exact hs)
  have e:=setP_self _ _ hv'
  rw [hx] at e
  rw [e];exact c

theorem grabCs_sound {ρ0:Pl} {s i:Nat} {P0:Path} {k:Plc}:∀ (xs:List AV) (j:Nat) (st:St) (S:AV) (ρ:Pl) (K:List AV→St→Prop),Conc N E (st.setMem s S) a w I ρ→grabCs s P0 i j xs st K→(∀ t,t≠s→ρ t=ρ0 t) →
  (S.at P0).isNode=true→ρ s P0=some k→(∀ q (hq:q<xs.length),InR (S.at P0) i (j+q)∧S.at (P0++[(i,j+q)])=blankC (xs[q])∧∃ v,w.cell? ⟨k.b,k.off+i*k.z+(j+q),none⟩=some v∧Rep I ρ0 (xs[q]) v∧v.oneCell'=true) →
  ∃ xs' st' ρ',K xs' st'∧Conc N E (st'.setMem s (setCells S P0 i j xs')) a w I ρ'∧(∀ t,t≠s→ρ' t=ρ0 t)∧ρ' s P0=some k∧xs'.length=xs.length∧(∀ x∈xs',Sing x)∧st'.mem s=st.mem s
 | [],j,st,S,ρ,K,c,h,hoff,_,hk,_=>⟨[],st,ρ,h,c,hoff,hk,rfl,(fun x hx=>by cases hx),rfl⟩
 | x :: r,j,st,S,ρ,K,c,h,hoff,hP,hk,hall=>by
  obtain ⟨h0,h1,v,h2,h3,h4⟩:=hall 0 (by simp)
  simp only [Nat.add_zero,List.getElem_cons_zero] at h0 h1 h2 h3
  obtain ⟨x',st1,ρ1,hK,c1,hoff1,hk1,hs1,hm1⟩:=grabC_sound c h hoff hP h0 h1 hk h2 h3 h4
  have hinP:InP S (P0++[(i,j)]):=inP_snoc P0 S (inP_node hP) h0
  have hv:ValidP x' S (P0++[(i,j)]):=valid_of c.mem setMem_self _ [] hinP (fun _=>hs1)
  have hnp:¬ (P0++[(i,j)]) <+: P0:=fun hp=>by have:=hp.length_le;simp at this;omega
  have hat:(S.setP (P0++[(i,j)]) x').at P0=(S.at P0).setAt i j x':=by
   exact at_setP_pre P0 S hv
  obtain ⟨xs',st2,ρ2,hK2,c2,hoff2,hk2,hl2,hs2,hm2⟩:=grabCs_sound (k:=k) r (j+1) st1 (S.setP (P0++[(i,j)]) x') ρ1 _ c1 hK hoff1 (by rw [hat];exact setAt_node hP) (hk1.trans hk) (fun q hq=>by
   obtain ⟨g0,g1,v',g2,g3,g4⟩:=hall (q+1) (by simpa using hq)
   have e:j+(q+1)=j+1+q:=by omega
   rw [e] at g0 g1 g2
   refine ⟨by rw [hat];exact inR_setAt h0 hs1 g0,?_,v',g2,by simpa using g3,g4⟩
   rw [at_snoc,hat,cellAt_setAt_ne h0 (.inl hs1) (by simp;omega),← at_snoc]
   simpa using g1)
  exact ⟨x' :: xs',st2,ρ2,hK2,c2,hoff2,hk2,by simp [hl2],(fun y hy=>by
   rcases List.mem_cons.1 hy with rfl | hy
   ·exact hs1
   ·exact hs2 y hy),hm2.trans hm1⟩
end
end Go.AM
namespace Go.AM
open Go.RowKit (Below)

def AOut (N:Nat) (E:Entry) (K:St→Prop) (a':Act) (w':World):Prop:=∃ st',K st'∧CC N E st' a' w'
def blankE (x:AV):AV:=match x with | .agg fs=>.agg (fs.map blankC) | a=>blankC a
theorem blankE_non {x:AV} (h:∀ fs,x≠.agg fs):blankE x=blankC x:=by cases x <;> first | rfl | exact absurd rfl (h _)
theorem blankE_cells (x:AV):(blankE x).cells=x.cells.map blankC:=by
 by_cases hx:∃ fs,x=.agg fs
 ·obtain ⟨fs,rfl⟩:=hx;rfl
 ·have h:∀ fs,x≠.agg fs:=fun fs e=>hx ⟨fs,e⟩
  have hs:x.cells=[x]:=sing_of h
  have hb:(blankC x).cells=[blankC x]:=blank_sing (sing_of h)
  rw [blankE_non h,hb,hs];rfl
theorem nodeEs_cases {M:AV} {z:Nat} {es:List AV} (h:nodeEs M=some (z,es)):M=.tr z es∨∃ e,M=.pt z e∧es=[e]:=by
 cases M <;> cases h
 ·exact .inl rfl
 ·exact .inr ⟨_,rfl,rfl⟩

section
variable {P:Program} {N:Nat} {E:Entry} {st:St} {a:Act} {w w':World} {I I':Gh} {ρ ρ':Pl} {mem mem':Nat→Option AV}
variable {d:Option Nat} {t:TypeId} {pos:String} {after:Array Edge} {g:Option (Nat×Bool)} {K:St→Prop} {Q:Exit→Act→World→Prop}

theorem grabE_sound {ρ0:Pl} {s i j:Nat} {P0:Path} {k:Plc} {x S:AV} {KE:AV→St→Prop} (c:Conc N E (st.setMem s S) a w I ρ) (h:grabE s P0 i j x st KE) (hoff:∀ t,t≠s→ρ t=ρ0 t)
  (hP:(S.at P0).isNode=true) (hk:ρ s P0=some k) (hall:∀ q (hq:q<x.cells.length),InR (S.at P0) i (j+q)∧S.at (P0++[(i,j+q)])=blankC (x.cells[q])∧∃ v,w.cell? ⟨k.b,k.off+i*k.z+(j+q),none⟩=some v∧Rep I ρ0 (x.cells[q]) v∧v.oneCell'=true) :
  ∃ x' st' ρ',KE x' st'∧Conc N E (st'.setMem s (setCells S P0 i j x'.cells)) a w I ρ'∧(∀ t,t≠s→ρ' t=ρ0 t)∧ρ' s P0=some k∧x'.cells.length=x.cells.length∧(∀ y∈x'.cells,Sing y)∧st'.mem s=st.mem s ∧
   ((Sing (blankE x)∧Sing x')∨((∃ fs,blankE x=.agg fs)∧∃ fs,x'=.agg fs)):=by
 by_cases hx:∃ fs,x=.agg fs
 ·obtain ⟨fs,rfl⟩:=hx
  obtain ⟨xs',st',ρ',g1,g2,g3,g4,g5,g6,g7⟩:=grabCs_sound (ρ0:=ρ0) (k:=k) fs j st S ρ _ c h hoff hP hk hall
  exact ⟨.agg xs',st',ρ',g1,g2,g3,g4,g5,g6,g7,.inr ⟨⟨_,rfl⟩,_,rfl⟩⟩
 ·have hs:Sing x:=sing_of fun fs e=>hx ⟨fs,e⟩
  have hE:grabE s P0 i j x st KE=grabC st x s (P0++[(i,j)]) KE .mk:=by
   cases x <;> first | rfl | exact absurd ⟨_,rfl⟩ hx
  rw [hE] at h
  have hl:x.cells.length=1:=by rw [hs];rfl
  obtain ⟨h0,h1,v,h2,h3,h4⟩:=hall 0 (by omega)
  have e0:x.cells[0]'(by omega)=x:=by
   have:x.cells[0]? = [x][0]?:=by rw [hs]
   rw [List.getElem?_eq_getElem (by omega)] at this
   exact Option.some.inj this
  simp only [Nat.add_zero,e0] at h0 h1 h2 h3
  obtain ⟨x',st',ρ',g1,g2,g3,g4,g5,g6⟩:=grabC_sound c h hoff hP h0 h1 hk h2 h3 h4
  have hc:x'.cells=[x']:=g5
  refine ⟨x',st',ρ',g1,by rw [hc];exact g2,g3,g4.trans hk,by rw [hc,hl];rfl,fun y hy=>by rw [hc] at hy;simp at hy;subst hy;exact g5,g6,.inl ⟨?_,g5⟩⟩
  rw [blankE_non fun fs e=>hx ⟨fs,e⟩];exact blank_sing hs

theorem fits_spec {M:AV} {i j n:Nat} {Kp:Prop} (h:fitsN M i j n Kp .mk):∃ z es,nodeEs M=some (z,es)∧i<es.length∧j+n≤z∧Kp:=by
 unfold fitsN at h
 split at h
 ·exact ⟨_,_,rfl,h.1.1,h.1.2,h.2⟩
 ·exact ⟨_,_,rfl,by simp [h.1.1],h.1.2,h.2⟩
 ·exact h.elim

theorem fill_tree {R M:AV} {p:Path} {z:Nat} {es:List AV} {i j:Nat} {x' y:AV} (hM:R.at p=M) (hes:nodeEs M=some (z,es)) (hi:i<es.length) (hzi:(es[i]).cells.length=z) (hv:∀ L:AV,L.isNode=true→ValidP L R p)
  (hsy:∀ q∈y.cells,Sing q) (hsx:∀ q∈x'.cells,Sing q) (hl:y.cells.length=x'.cells.length) (hk:(Sing y∧Sing x')∨((∃ fs,y=.agg fs)∧∃ fs,x'=.agg fs)) (hf:j+y.cells.length≤z) :
  setCells (R.modP p fun A=>A.setE i j y) p i j x'.cells=R.modP p fun A=>A.setE i j x':=by
 have hn:=nodeEs_node hes
 rw [modP_eq,modP_eq,hM]
 have hn':=nodeEs_node (setE_es hes hi j y)
 rw [setCells_setP hn' (inP_node (by rw [hM];exact hn)) hv _ _ _ hn']
 have hfill:=fill_el hzi hsy hsx hl hk hf
 rcases nodeEs_cases hes with rfl | ⟨e,rfl,rfl⟩
 ·have e1:(AV.tr z es).setE i j y=.tr z (es.set i (setEl z (es[i]) j y)):=by show AV.tr z (es.set i (setEl z (es.getD i .any) j y))=_;rw [getD_lt hi]
  have e2:(AV.tr z es).setE i j x'=.tr z (es.set i (setEl z (es[i]) j x')):=by show AV.tr z (es.set i (setEl z (es.getD i .any) j x'))=_;rw [getD_lt hi]
  rw [e1,e2,setAts_tr hi,hfill]
 ·have hi0:i=0:=by simpa using hi
  subst hi0
  have e1:(AV.pt z e).setE 0 j y=.pt z (setEl z e j y):=rfl
  have e2:(AV.pt z e).setE 0 j x'=.pt z (setEl z e j x'):=rfl
  rw [e1,e2,setAts_pt]
  have:([e]:List AV)[0]=e:=rfl
  rw [this] at hfill
  rw [hfill]

theorem blank_rep {x:AV} {V:Value} (r:Rep I ρ x V) (hk:knownCells x=true):V.cells.size=(blankE x).cells.length∧∀ q (h:q<(blankE x).cells.length) (h':q<V.cells.size),RepS I ((blankE x).cells[q]) (V.cells[q])∧(V.cells[q]).oneCell'=true:=by
 obtain ⟨r1,r2⟩:=rep_cells r hk
 have e:=blankE_cells x
 refine ⟨by rw [e,List.length_map];exact r1,fun q h h'=>?_⟩
 have hq:q<x.cells.length:=by rw [e,List.length_map] at h;exact h
 have e1:(blankE x).cells[q]=blankC (x.cells[q]):=by simp only [e,List.getElem_map]
 obtain ⟨g1,g2⟩:=r2 q hq h'
 refine ⟨?_,g2⟩
 rw [e1]
 unfold blankC
 cases hb:(x.cells[q]).bears with
 | true=>exact .any _
 | false=>exact nb_stat g1 hb
theorem blank_same {x:AV} (h:x.bears=false):blankE x=x:=by
 by_cases hx:∃ fs,x=.agg fs
 ·obtain ⟨fs,rfl⟩:=hx
  simp only [AV.bears] at h
  show AV.agg (fs.map blankC)=.agg fs
  congr 1
  apply List.ext_getElem
  ·simp
  ·intro j h1 h2
   simp only [List.getElem_map]
   unfold blankC
   rw [bearsL_get h j h2]
 ·rw [blankE_non fun fs e=>hx ⟨fs,e⟩]
  unfold blankC
  rw [h]

theorem store_sound (c:Conc N E st a w I ρ) (hd:∀ t,d=some t→t<N) {ty:TypeId} {ad x:Operand}
  (h:storeP st (szT P ty) (st.ev ad) (st.ev x) (fun st'=>K (st'.put d .un)) .mk):(⟨d,.store ty ad x,t,pos,after,g⟩:Oper).wp P a w (AOut N E K) Q:=by
 unfold storeP at h
 split at h
 ·rename_i s p i j hloc
  obtain ⟨⟨hkn,hn⟩,h⟩:=h
  have hu:=c.ev ad
  rw [hloc] at hu
  obtain ⟨z,es,hes,hi,hfit,hF⟩:=fits_spec h
  obtain ⟨R,hR,hRM⟩:=nodeAt_some rfl (nodeEs_node hes)
  obtain ⟨inf,hinf,hsz⟩:∃ inf,P.info? ty=some inf∧inf.size=(st.ev x).cells.length:=by
   unfold szT at hn
   obtain ⟨i,hi,e⟩:=Option.map_eq_some_iff.1 hn
   exact ⟨i,hi,e⟩
  have hbl:=blankE_cells (st.ev x)
  have hbll:(blankE (st.ev x)).cells.length=(st.ev x).cells.length:=by rw [hbl,List.length_map]
  obtain ⟨b1,b2⟩:=blank_rep (c.ev x) hkn
  obtain ⟨w',k,hk,hkz,hrun,c1,hcell⟩:=store_core (P:=P) c hR hRM hes hi (y:=blankE (st.ev x)) (V:=a.eval x) (by rw [hbll];exact hfit) b1 b2 hinf (by rw [hbll];exact hsz) hu
  have hrun':(execOp a.eval ⟨d,.store ty ad x,t,pos,after,g⟩).run P w=.ok .skip w':=by
   have he:execOp a.eval ⟨d,.store ty ad x,t,pos,after,g⟩=(do Instr.storeAt ty (a.eval ad) (a.eval x);pure .skip):=rfl
   rw [he,Sem.run_bind,hrun];rfl
  refine wp_skip' hrun' ?_
  cases hb:(st.ev x).bears with
  | false =>
   rw [hb] at hF
   have hF:optP (st.mem s) (fun T=>valP (T.modP p fun A=>A.setE i j (st.ev x)) (fun T'=>K ((st.setMem s T').put d .un)) .mk) .mk:=hF
   rw [hR] at hF
   rw [blank_same hb] at c1
   exact ⟨_,hF,I,ρ,c1.put d hd (.stat (.v _))⟩
  | true =>
   rw [hb] at hF
   have hF:grabE s p i j (st.ev x) st fun x' st'=>optP (st'.mem s) (fun T=>valP (T.modP p fun A=>A.setE i j x') (fun T'=>K ((st'.setMem s T').put d .un)) .mk) .mk:=hF
   have hrow:=c.mem.row s R p hR
   rw [hRM,nodeEs_row hes] at hrow
   have hzi:(es[i]).cells.length=z:=by
    rcases hrow with ⟨_,rfl⟩ | ⟨k,Et,arr,_,_,_,_,_,_,h6⟩
    ·cases hi
    ·exact (h6 i hi).1
   have hsy:∀ y∈(blankE (st.ev x)).cells,Sing y:=by
    intro y hy
    obtain ⟨q,hq,rfl⟩:=List.mem_iff_getElem.1 hy
    have:=b2 q hq (by omega)
    exact rs_sing this.1 this.2
   have hes':=setE_es hes hi j (blankE (st.ev x))
   have hn':=nodeEs_node hes'
   have hval:∀ L:AV,L.isNode=true→ValidP L R p:=fun L hL=>valid_of c.mem hR p [] (inP_node (R:=R) (by rw [hRM];exact nodeEs_node hes)) (fun _=>sing_node hL)
   have hS0:(R.modP p fun A=>A.setE i j (blankE (st.ev x))).at p=(nodeAt st.mem s p).setE i j (blankE (st.ev x)):=by
    rw [modP_eq,hRM]
    have:=at_setP p R [] (hval _ hn')
    rw [List.append_nil] at this
    exact this
   have hcells:=setEl_cells hzi hsy (by rw [hbll];exact hfit:j+(blankE (st.ev x)).cells.length≤z)
   obtain ⟨x',st',ρ',g1,g2,g3,g4,g5,g6,g7,g8⟩:=grabE_sound (ρ0:=ρ) (k:=k) c1 hF (fun _ _=>rfl) (by rw [hS0];exact hn') hk (fun q hq=>by
    have hlen:(setEl z (es[i]) j (blankE (st.ev x))).cells.length=z:=by rw [hcells];simp;omega
    have hq':q<(blankE (st.ev x)).cells.length:=by omega
    have hqV:q<(a.eval x).cells.size:=by omega
    have hcq:((nodeAt st.mem s p).setE i j (blankE (st.ev x))).cellAt i (j+q)=blankC ((st.ev x).cells[q]):=by
     rw [cellAt_es hes',set_getD_same hi,hcells,List.getD,splice_get _ _ _ _ _ rfl (by omega),if_neg (by omega),if_pos (by omega)]
     have e1:j+q - j=q:=by omega
     rw [e1,List.getElem?_eq_getElem hq']
     simp only [hbl,List.getElem_map,Option.getD_some]
    refine ⟨?_,?_,(a.eval x).cells[q],?_,?_,(b2 q hq' hqV).2⟩
    ·rw [hS0]
     rcases nodeEs_cases hes' with e | ⟨e0,e,hl2⟩
     ·rw [e]
      exact ⟨by simpa using hi,by simp [hlen];omega⟩
     ·rw [e]
      have hi0:i=0:=by
       have:=congrArg List.length hl2
       simp at this
       omega
      subst hi0
      refine ⟨rfl,?_⟩
      have hl3:setEl z (es[0]) j (blankE (st.ev x))=e0:=by
       have h9:(es.set 0 (setEl z (es[0]) j (blankE (st.ev x))))[0]? = [e0][0]?:=by rw [hl2]
       simpa [hi] using h9
      rw [← hl3,hlen];omega
    ·rw [at_snoc,hS0];exact hcq
    ·have:=hcell q hqV
     rw [hkz,← Nat.add_assoc];exact this
    ·exact ((rep_cells (c.ev x) hkn).2 q hq hqV).1)
   have g1:optP (st'.mem s) (fun T=>valP (T.modP p fun A=>A.setE i j x') (fun T'=>K ((st'.setMem s T').put d .un)) .mk) .mk:=g1
   rw [g7,hR] at g1
   rw [fill_tree hRM hes hi hzi hval hsy g6 (by omega) g8 (by rw [hbll];exact hfit)] at g2
   exact ⟨_,g1,I,ρ',g2.put d hd (.stat (.v _))⟩
 ·exact h.elim

theorem pull_sep (m:Sep I ρ w mem) {s D:Nat} {Q:Path} {T:AV} {z o n:Nat} {es:List AV} (hT:mem s=some T) (hQ:T.at Q=.tr z es) (hon:o+n≤es.length) (hD0:mem D=none)
  (h0:ρ D []=(ρ s Q).map fun k=>⟨k.b,k.off+o*z,k.z,k.cap - o⟩) (h1:∀ ij u,ρ D (ij :: u)=ρ s (Q++(ij.1+o,ij.2) :: u)) :
  Sep I ρ w (fun i=>if i=D then some (.tr z ((es.drop o).take n)) else rmvM mem s Q T i)∧∀ b,Owns ρ (fun i=>if i=D then some (.tr z ((es.drop o).take n)) else rmvM mem s Q T i) b→Owns ρ mem b:=by
 have hn:(T.at Q).isNode=true:=by rw [hQ];rfl
 obtain ⟨m1,m2⟩:=m.rmv hT hn
 have hlen:((es.drop o).take n).length=n:=by simp;omega
 have hget:∀ i,i<n→((es.drop o).take n).getD i .any=es.getD (i+o) .any:=fun i hi=>by
  simp [List.getD,List.getElem?_take,hi,List.getElem?_drop,Nat.add_comm]
 have hat:∀ (ij:Nat×Nat) (u:Path),(AV.tr z ((es.drop o).take n)).at (ij :: u)=T.at (Q++(ij.1+o,ij.2) :: u)∨(AV.tr z ((es.drop o).take n)).at (ij :: u)=.any:=fun ij u=>by
  rw [at_append,hQ]
  show AV.at ((((es.drop o).take n).getD ij.1 .any).cells.getD ij.2 .any) u=AV.at ((es.getD (ij.1+o) .any).cells.getD ij.2 .any) u∨_
  by_cases hi:ij.1<n
  ·rw [hget _ hi];exact .inl rfl
  ·right
   show AV.at ((((es.drop o).take n).getD ij.1 .any).cells.getD ij.2 .any) u=.any
   have e0:((es.drop o).take n).getD ij.1 .any=.any:=getD_ge (by omega)
   rw [e0]
   have:(AV.any).cells.getD ij.2 .any=.any:=by cases ij.2 <;> rfl
   rw [this,any_at]
 let sh:Path→Path:=fun p=>match p with | []=>Q | ij :: u=>Q++(ij.1+o,ij.2) :: u
 have hsh:∀ p p',sh p=sh p'→p=p':=by
  intro p p' h
  cases p with
  | nil =>
   cases p' with
   | nil=>rfl
   | cons ij u=>have:=congrArg List.length h;simp [sh] at this
  | cons ij u =>
   cases p' with
   | nil=>have:=congrArg List.length h;simp [sh] at this
   | cons ij' u' =>
    have:=List.append_cancel_left (show Q++(ij.1+o,ij.2) :: u=Q++(ij'.1+o,ij'.2) :: u' from h)
    injection this with e1 e2
    injection e1 with e3 e4
    rw [e2]
    obtain ⟨a,b⟩:=ij
    obtain ⟨a',b'⟩:=ij'
    simp only at e3 e4
    rw [e4,show a=a' by omega]
 have hpre:∀ p,Q <+: sh p:=fun p=>by
  cases p with
  | nil=>exact List.prefix_refl _
  | cons ij u=>exact List.prefix_append _ _
 have hnode:∀ p,((AV.tr z ((es.drop o).take n)).at p).isNode=true→(T.at (sh p)).isNode=true:=fun p h=>by
  cases p with
  | nil=>exact hn
  | cons ij u =>
   rcases hat ij u with e | e
   ·rw [e] at h;exact h
   ·rw [e] at h;cases h
 have hpl:∀ p k,ρ D p=some k→∃ k0,ρ s (sh p)=some k0∧k0.b=k.b:=fun p k h=>by
  cases p with
  | nil =>
   rw [h0] at h
   obtain ⟨k0,e1,e2⟩:=Option.map_eq_some_iff.1 h
   exact ⟨k0,e1,by rw [← e2]⟩
  | cons ij u=>rw [h1] at h;exact ⟨k,h,rfl⟩
 have hmem:∀ {s' T'},(if s'=D then some (AV.tr z ((es.drop o).take n)) else rmvM mem s Q T s')=some T'→(s'=D∧T'=.tr z ((es.drop o).take n))∨(s'≠D∧rmvM mem s Q T s'=some T'):=by
  intro s' T' h
  by_cases e:s'=D
  ·rw [if_pos e] at h;cases h;exact .inl ⟨e,rfl⟩
  ·rw [if_neg e] at h;exact .inr ⟨e,h⟩
 have hold:∀ {s' T' p k},(if s'=D then some (AV.tr z ((es.drop o).take n)) else rmvM mem s Q T s')=some T'→(T'.at p).isNode=true→ρ s' p=some k→∃ s0 T0 p0 k0,mem s0=some T0∧(T0.at p0).isNode=true∧ρ s0 p0=some k0∧k0.b=k.b∧((s'=D∧s0=s∧p0=sh p)∨(s'≠D∧s0=s'∧p0=p∧(s'≠s∨¬ Q <+: p))):=by
  intro s' T' p k h hn' hk
  rcases hmem h with ⟨rfl,rfl⟩ | ⟨hne,h⟩
  ·obtain ⟨k0,e1,e2⟩:=hpl p k hk
   exact ⟨s,T,sh p,k0,hT,hnode p hn',e1,e2,.inl ⟨rfl,rfl,rfl⟩⟩
  ·obtain ⟨T0,e1,e2,e3⟩:=m2 s' T' p h hn'
   exact ⟨s',T0,p,k,e1,e2,hk,rfl,.inr ⟨hne,rfl,rfl,e3⟩⟩
 refine ⟨⟨fun s' T' p h=>?_,fun s' T' p k h hn' hk x=>?_,fun s1 T1 p1 k1 s2 T2 p2 k2 g1 g2 g3 g1' g2' g3' hb=>?_⟩,fun b hb=>?_⟩
 ·rcases hmem h with ⟨rfl,rfl⟩ | ⟨hne,h⟩
  ·cases p with
   | nil =>
    show RowOk I (ρ s') w [] z ((es.drop o).take n)
    have hr:=m.row s T Q hT
    rw [hQ] at hr
    rcases hr with ⟨e1,e2⟩ | ⟨k,Et,arr,q1,q2,q3,q3',q4,q5,q6⟩
    ·exact .inl ⟨by rw [h0,e1];rfl,by rw [e2];simp⟩
    ·have hoc:o≤k.cap:=by omega
     refine .inr ⟨⟨k.b,k.off+o*z,k.z,k.cap - o⟩,Et,arr,by rw [h0,q1];rfl,q2,by rw [hlen];simp only;omega,by simp only;omega,q4,?_,fun i hi=>?_⟩
     ·show k.off+o*z+(k.cap - o)*z≤arr.size
      have:k.cap*z=o*z+(k.cap - o)*z:=by rw [← Nat.add_mul];congr 1;omega
      omega
     ·have hi':i<n:=by omega
      have hio:i+o<es.length:=by omega
      have e:((es.drop o).take n)[i]=es[i+o]:=by
       rw [List.getElem_take,List.getElem_drop];congr 1;omega
      rw [e]
      obtain ⟨g1,g2⟩:=q6 (i+o) hio
      refine ⟨g1,fun j hj=>?_⟩
      have e2:k.off+o*z+i*z+j=k.off+(i+o)*z+j:=by rw [Nat.add_mul];omega
      simp only [List.nil_append]
      rw [h1,e2]
      exact g2 j hj
   | cons ij u =>
    rcases hat ij u with e | e
    ·rw [e]
     exact node_shift (m.row s T (Q++(ij.1+o,ij.2) :: u) hT) fun r=>by
      rw [List.cons_append,h1,List.append_assoc,List.cons_append]
    ·rw [e];trivial
  ·exact m1.row s' T' p h
 ·obtain ⟨s0,T0,p0,k0,e1,e2,e3,e4,_⟩:=hold h hn' hk
  rw [← e4];exact m.free s0 T0 p0 k0 e1 e2 e3 x
 ·obtain ⟨s3,T3,p3,k3,e1,e2,e3,e4,e5⟩:=hold g1 g2 g3
  obtain ⟨s4,T4,p4,k4,f1,f2,f3,f4,f5⟩:=hold g1' g2' g3'
  obtain ⟨q1,q2⟩:=m.inj s3 T3 p3 k3 s4 T4 p4 k4 e1 e2 e3 f1 f2 f3 (by rw [e4,f4,hb])
  rcases e5 with ⟨rfl,rfl,rfl⟩ | ⟨a1,rfl,rfl,a2⟩
  ·rcases f5 with ⟨rfl,_,rfl⟩ | ⟨b1,rfl,rfl,b2⟩
   ·exact ⟨rfl,hsh _ _ q2⟩
   ·exfalso
    rcases b2 with b2 | b2
    ·exact b2 q1.symm
    ·exact b2 (by rw [← q2];exact hpre _)
  ·rcases f5 with ⟨rfl,rfl,rfl⟩ | ⟨b1,rfl,rfl,b2⟩
   ·exfalso
    rcases a2 with a2 | a2
    ·exact a2 q1
    ·exact a2 (by rw [q2];exact hpre _)
   ·exact ⟨q1,q2⟩
 ·obtain ⟨s',T',p,k,g1,g2,g3,rfl⟩:=hb
  obtain ⟨s0,T0,p0,k0,e1,e2,e3,e4,_⟩:=hold g1 g2 g3
  exact ⟨s0,T0,p0,k0,e1,e2,e3,e4⟩

theorem Conc.pull (c:Conc N E st a w I ρ) {s:Nat} {Q:Path} {T:AV} {z o m u:Nat} {es:List AV} (hT:st.mem s=some T) (hQ:T.at Q=.tr z es) (hon:o+m≤es.length) (hs:s≠pullR) (hQ0:Q≠[]) (h6:E.args.length≤6) (hu:st.fr u=.ref s Q z o m) :
  ∃ ρ',Conc N E (st.pull s Q T z ((es.drop o).take m) m u) a w I ρ':=by
 let ρ':Pl:=fun s' p'=>if s'=pullR then (match p' with | []=>(ρ s Q).map fun k=>⟨k.b,k.off+o*z,k.z,k.cap - o⟩ | ij :: v=>ρ s (Q++(ij.1+o,ij.2) :: v)) else ρ s' p'
 have hne:∀ s',s'≠pullR→ρ' s'=ρ s':=fun s' h=>by funext p';simp only [ρ',if_neg h]
 have c1:=c.kill pullR hne
 have hT1:(st.kill pullR).mem s=some T:=by simp [St.kill,St.del,St.mapF,hs,hT]
 obtain ⟨m1,m2⟩:=pull_sep (D:=pullR) c1.mem hT1 hQ hon (kill_mem_self st _) (by rw [hne s hs];simp only [ρ',if_true]) (fun ij v=>by rw [hne s hs];simp only [ρ',if_true])
 have hmem:(st.pull s Q T z ((es.drop o).take m) m u).mem=fun i=>if i=pullR then some (.tr z ((es.drop o).take m)) else rmvM (st.kill pullR).mem s Q T i:=by
  funext i
  simp only [St.pull,St.put,St.setMem,St.mapF,rmvM]
 refine ⟨ρ',c1.held,c1.below,c1.keeps,c1.size,c1.defers,fun i=>?_,by rw [hmem];exact m1,fun b hb=>c1.lo b (m2 b (by rw [hmem] at hb;exact hb)),fun i c' T' q g1 g2 g3=>?_⟩
 ·show Rep I ρ' (if i=u then .ref pullR [] z 0 m else ((st.kill pullR).fr i).mapH (fromF s Q)) _
  by_cases e:i=u
  ·rw [if_pos e,e]
   have hr:=c.fr u
   rw [hu] at hr
   rcases rep_ref hr with ⟨k,g1,g2,g3,g4⟩ | ⟨g1,a',g2⟩
   ·rw [g4]
    have:=Rep.ref (I:=I) (ρ:=ρ') pullR [] z 0 m ⟨k.b,k.off+o*z,k.z,k.cap - o⟩ (by simp only [ρ',if_true,g1,Option.map_some]) g2 (by simp only;omega)
    simpa using this
   ·rw [g2,g1];exact .ref0 _ _ _ _ _
  ·rw [if_neg e]
   refine rep_mapH (fun s0 p0 s1 p1 hf=>?_) (c1.fr i)
   unfold fromF at hf
   split at hf
   ·split at hf
    ·cases hf
    ·cases hf;rfl
   ·cases hf;rfl
 ·rw [hmem] at g2
  simp only at g2
  by_cases e:i=pullR
  ·have hl:=(List.getElem?_eq_some_iff.1 g1).1
   exact absurd hl (by have:pullR=4294967290:=rfl;omega)
  ·rw [if_neg e] at g2
   unfold rmvM at g2
   by_cases e2:i=s
   ·rw [if_pos e2] at g2
    cases Q with
    | nil=>exact (hQ0 rfl).elim
    | cons ij Q =>
     cases g2
     subst e2
     exact c1.fix i c' T q g1 hT1 (topPos_setP (by simp) g3)
   ·rw [if_neg e2] at g2
    exact c1.fix i c' T' q g1 g2 g3
theorem storeB_sound (c:Conc N E st a w I ρ) (hd:∀ t,d=some t→t<N) (h6:E.args.length≤6) {ty:TypeId} {ad x:Operand}
  (h:storeB (selfA (st.ev ad) (st.ev x)) st (szT P ty) ad x (fun s o=>s.ev o) (fun st'=>K (st'.put d .un)) .mk):(⟨d,.store ty ad x,t,pos,after,g⟩:Oper).wp P a w (AOut N E K) Q:=by
 cases hb:selfA (st.ev ad) (st.ev x) with
 | false=>rw [hb] at h;exact store_sound c hd h
 | true =>
  rw [hb] at h
  have h:pullP st (st.ev ad) (st.ev x) x (fun st1=>storeP st1 (szT P ty) (st1.ev ad) (st1.ev x) (fun st'=>K (st'.put d .un)) .mk) .mk:=h
  unfold pullP at h
  split at h
  ·rename_i s p i j t' q z o m u hloc _ hx
   unfold selfA at hb
   rw [hloc,hx] at hb
   simp only [decide_eq_true_eq] at hb
   obtain ⟨rfl,rfl,_⟩:=hb
   cases hT:st.mem t' with
   | none=>rw [hT] at h;exact h.elim
   | some T =>
    rw [hT] at h
    simp only [optP] at h
    unfold pullT at h
    split at h
    ·rename_i z' es hM
     obtain ⟨⟨rfl,h2,h3,h4⟩,h⟩:=h
     obtain ⟨ρ',c'⟩:=c.pull hT hM h2 h3 h4 h6 hx
     exact store_sound c' hd h
    ·exact h.elim
  ·exact h.elim
end
end Go.AM
namespace Go.AM
open Go.RowKit (Below)

section
variable {P:Program} {N:Nat} {E:Entry} {st:St} {a:Act} {w w':World} {I I':Gh} {ρ ρ':Pl} {mem mem':Nat→Option AV}
variable {d:Option Nat} {t:TypeId} {pos:String} {after:Array Edge} {g:Option (Nat×Bool)} {K:St→Prop} {Q:Exit→Act→World→Prop}

theorem box_sound (c:Conc N E st a w I ρ) (hd:∀ t,d=some t→t<N) (hnp:E.args[d.getD 0]? = none) {ty:TypeId} {x:Operand} (h:boxP st d (st.ev x) K .mk) :
  (⟨d,.box ty x,t,pos,after,g⟩:Oper).wp P a w (AOut N E K) Q:=by
 obtain ⟨hkn,h⟩:=h
 let D:=d.getD 0
 have h:grabE D [] 0 0 (st.ev x) (st.kill D) (fun x' st'=>K ((st'.setMem D (.pt (st.ev x).cells.length x')).put d (.loc D [] 0 0))):=h
 have hbl:=blankE_cells (st.ev x)
 have hbll:(blankE (st.ev x)).cells.length=(st.ev x).cells.length:=by rw [hbl,List.length_map]
 obtain ⟨b1,b2⟩:=blank_rep (c.ev x) hkn
 have hrun:(execOp a.eval ⟨d,.box ty x,t,pos,after,g⟩).run P w=.ok (.value (.pointer (some ⟨w.heap.size,0,none⟩))) (w.alloc (.cells (a.eval x).cells ty)):=by
  simp [execOp,Instr.box,newVar,newRow]
 obtain ⟨π,n1,n2⟩:=newPt (I:=I) (w:=w) (E:=ty) (arr:=(a.eval x).cells) (x:=blankE (st.ev x)) (z:=(st.ev x).cells.length) c.held hbll (by omega) (fun j hj=>by
  have hk:j<(a.eval x).cells.size:=by omega
  have e5:(a.eval x).cells.getD j undef=(a.eval x).cells[j]:=by simp [Array.getD,hk]
  rw [e5];exact b2 j hj hk)
 let ρ1:Pl:=fun s=>if s=D then π else ρ s
 have h1:∀ s,s≠D→ρ1 s=ρ s:=fun s h=>by simp [ρ1,h]
 have h2:ρ1 D=π:=by simp [ρ1]
 have hg:=grow_alloc (w:=w) c.held (.cells (a.eval x).cells ty)
 have c1:=(c.grow hg).kill D h1
 have c2:=c1.setNew (d:=D) (n:=w.heap.size) h2 (kill_mem_self st D) hnp c.below.size n2 (fun b hb=>by
  obtain ⟨s,T',p,k,q1,q2,q3,rfl⟩:=hb
  obtain ⟨hne,q1⟩:=kill_mem_of q1
  rw [h1 s hne] at q3
  exact c.mem.lt q1 q2 q3)
 obtain ⟨k,hk,hkz,hkc,hkv⟩:∃ k,ρ1 D []=some k∧k.z=(st.ev x).cells.length∧1≤k.cap∧k.b=w.heap.size∧k.off=0:=by
  rcases n1 with ⟨_,n1⟩ | ⟨n1,_⟩
  ·obtain ⟨k,g1,g2,g3,g4⟩:=n1
   injection g4 with g4
   injection g4 with g4
   injection g4 with g5 g6
   exact ⟨k,by rw [h2];exact g1,g2,g3,g5.symm,g6.symm⟩
  ·cases n1
 refine wp_value hrun ?_
 obtain ⟨x',st',ρ',g1,g2,g3,g4,g5,g6,g7,g8⟩:=grabE_sound (ρ0:=ρ) (k:=k) (x:=st.ev x) c2 h (fun t ht=>h1 t ht) (by rfl) hk (fun q hq=>by
  have hq':q<(blankE (st.ev x)).cells.length:=by omega
  have hqV:q<(a.eval x).cells.size:=by omega
  refine ⟨⟨rfl,by omega⟩,?_,(a.eval x).cells[q],?_,((rep_cells (c.ev x) hkn).2 q hq hqV).1,(b2 q hq' hqV).2⟩
  ·show (blankE (st.ev x)).cells.getD (0+q) .any=_
   rw [Nat.zero_add,getD_lt hq']
   simp only [hbl,List.getElem_map]
  ·rw [hkv.1,hkv.2,Nat.zero_mul,Nat.zero_add,Nat.zero_add]
   rw [cell_arr (heap_new w _) hqV]
   simp [Array.getD,hqV])
 have hfin:setCells (.pt (st.ev x).cells.length (blankE (st.ev x))) [] 0 0 x'.cells=.pt (st.ev x).cells.length x':=by
  have hsy:∀ y∈(blankE (st.ev x)).cells,Sing y:=by
   intro y hy
   obtain ⟨q,hq,rfl⟩:=List.mem_iff_getElem.1 hy
   have:=b2 q hq (by omega)
   exact rs_sing this.1 this.2
  have e1:∀ (xs:List AV) (j:Nat) (M:AV),setCells M [] 0 j xs=setAts M 0 j xs:=by
   intro xs
   induction xs with
   | nil=>intro j M;rfl
   | cons y r ih=>intro j M;exact ih (j+1) _
  have:=fill_el (z:=(st.ev x).cells.length) (j:=0) (e:=blankE (st.ev x)) hbll hsy g6 (by omega) g8 (by omega)
  have e2:setEl (st.ev x).cells.length (blankE (st.ev x)) 0 (blankE (st.ev x))=blankE (st.ev x):=by unfold setEl;rw [decide_eq_true (show 0=0∧_ from ⟨rfl,hbll⟩)]
  have e3:setEl (st.ev x).cells.length (blankE (st.ev x)) 0 x'=x':=by unfold setEl;rw [decide_eq_true (show 0=0∧_ from ⟨rfl,g5⟩)]
  rw [e2,e3] at this
  rw [e1,setAts_pt,this]
 rw [hfin] at g2
 have hrep:Rep I ρ' (.loc D [] 0 0) (.pointer (some ⟨w.heap.size,0,none⟩)):=by
  have:=Rep.loc (I:=I) (ρ:=ρ') D [] 0 0 k g4
  rw [hkv.1,hkv.2] at this
  simpa using this
 exact ⟨_,g1,I,ρ',g2.put d hd hrep⟩

theorem boxF_sound (c:Conc N E st a w I ρ) (hd:∀ t,d=some t→t<N) {ty:TypeId} {x:Operand} (h:boxF st d (st.ev x) K .mk) :
    (⟨d,.box ty x,t,pos,after,g⟩:Oper).wp P a w (AOut N E K) Q:=by
  obtain ⟨hkn,h⟩:=h
  have h:K (st.put d (.bx (st.ev x).cells)):=h
  obtain ⟨r1,r2⟩:=rep_cells (c.ev x) hkn
  have hrun:(execOp a.eval ⟨d,.box ty x,t,pos,after,g⟩).run P w=.ok (.value (.pointer (some ⟨w.heap.size,0,none⟩))) (w.alloc (.cells (a.eval x).cells ty)):=by
    simp [execOp,Instr.box,newVar,newRow]
  have hg:Grow I w (frzNew I w (w.alloc (.cells (a.eval x).cells ty))) (w.alloc (.cells (a.eval x).cells ty)):=by
    refine ⟨⟨fun b o x hx=>?_,fun b cs h=>by obtain ⟨t,f,x,h1,h2⟩:=c.held.base b cs h;have q:=c.held.lt h2;exact ⟨t,f,x,((below_alloc w _).block b q (fun q=>q)).trans h1,by unfold frzNew;rw [if_neg (by omega)];exact h2⟩⟩,below_alloc w _,fun b o hb=>by unfold frzNew;rw [if_neg (by omega)]⟩
    unfold frzNew at hx
    split at hx
    · split at hx
      · rename_i y hy
        split at hx
        · cases hx;exact ⟨hy,by assumption⟩
        · cases hx
      · cases hx
    · exact (grow_alloc c.held (.cells _ ty)).held.cell b o x hx
  refine wp_value hrun ⟨_,h,_,ρ,(c.grow hg).put d hd ?_⟩
  have hle:=hg.le c.held
  have := Rep.bx (I:=frzNew I w (w.alloc (.cells (a.eval x).cells ty))) (ρ:=ρ) (st.ev x).cells w.heap.size 0 (fun j=>(a.eval x).cells.getD j undef) (fun j hj=>by
      have hk:j<(a.eval x).cells.size:=by omega
      unfold frzNew
      rw [if_pos rfl,Nat.zero_add,cell_arr (heap_new w _) hk]
      simp only
      have e5:(a.eval x).cells.getD j undef=(a.eval x).cells[j]:=by simp [Array.getD,hk]
      rw [e5,if_pos (r2 j hj hk).2])
    (fun j hj=>by
      have hk:j<(a.eval x).cells.size:=by omega
      have e5:(a.eval x).cells.getD j undef=(a.eval x).cells[j]:=by simp [Array.getD,hk]
      rw [e5];exact ((r2 j hj hk).1).mono hle)
  exact this

theorem updM_same (m:Value→Option Value) (k x:Value):updM m k x k=some x:=by unfold updM;rw [if_pos rfl]
theorem updM_ne {m:Value→Option Value} {k x k':Value} (h:k'≠k):updM m k x k'=m k':=by unfold updM;rw [if_neg h]
theorem mapIs_push {kd:Bool} {m:Value→Option Value} {es:Array MapEntry} {k x:Value} {n:Nat} (h:MapIs kd m es) (hk:isKey kd k) (h1:x.oneCell'=true) (hno:∀ e∈es.toList,e.key≠k):MapIs kd (updM m k x) (es.push ⟨k,x,n⟩):=by
 obtain ⟨a1,a2,a3⟩:=h
 refine ⟨fun e he=>?_,fun k' x' hk'=>?_,?_⟩
 ·rw [Array.toList_push] at he
  rcases List.mem_append.1 he with he | he
  ·rw [updM_ne (hno e he)];exact a1 e he
  ·simp at he;subst he
   exact ⟨updM_same _ _ _,hk,h1⟩
 ·rw [Array.toList_push]
  by_cases e:k'=k
  ·exact ⟨⟨k,x,n⟩,by simp,e.symm⟩
  ·rw [updM_ne e] at hk'
   obtain ⟨e',he,hek⟩:=a2 k' x' hk'
   exact ⟨e',by simp;exact .inl (by simpa using he),hek⟩
 ·rw [Array.toList_push,List.pairwise_append]
  exact ⟨a3,by simp,fun e he e' he'=>by simp at he';subst he';exact hno e he⟩
theorem mapIs_modify {kd:Bool} {m:Value→Option Value} {es:Array MapEntry} {k x:Value} {j:Nat} {e0:MapEntry} (h:MapIs kd m es) (hk:isKey kd k) (h1:x.oneCell'=true) (hj:es.toList[j]? = some e0) (he0:e0.key=k) :
  MapIs kd (updM m k x) (es.modify j fun e=>{ e with key:=k,val:=x }):=by
 obtain ⟨a1,a2,a3⟩:=h
 have hl:(es.modify j fun e=>{ e with key:=k,val:=x }).toList=es.toList.set j { e0 with key:=k,val:=x }:=by
  apply List.ext_getElem?
  intro q
  rw [Array.toList_modify,List.getElem?_modify,List.getElem?_set]
  by_cases e:j=q
  ·subst e
   rw [if_pos rfl,if_pos (List.getElem?_eq_some_iff.1 hj).1,hj];simp
  ·rw [if_neg e];cases es.toList[q]? <;> simp [e]
 have hkeys:(es.modify j fun e=>{ e with key:=k,val:=x }).toList.map (·.key)=es.toList.map (·.key):=by
  rw [hl,List.map_set]
  apply List.ext_getElem?
  intro q
  rw [List.getElem?_set]
  by_cases e:j=q
  ·subst e
   have hlt:=(List.getElem?_eq_some_iff.1 hj).1
   rw [if_pos rfl,if_pos (by simpa using hlt),List.getElem?_map,hj];simp [he0]
  ·rw [if_neg e]
 have hmem:∀ e,e∈(es.modify j fun e=>{ e with key:=k,val:=x }).toList→e={ e0 with key:=k,val:=x }∨(e∈es.toList∧e.key≠k):=by
  intro e he
  rw [hl] at he
  obtain ⟨q,hq⟩:=List.mem_iff_getElem?.1 he
  rw [List.getElem?_set] at hq
  by_cases c:j=q
  ·rw [if_pos c] at hq
   split at hq
   ·simp at hq;exact .inl hq.symm
   ·cases hq
  ·rw [if_neg c] at hq
   refine .inr ⟨List.mem_of_getElem? hq,fun hkk=>?_⟩
   obtain ⟨l1,e1⟩:=List.getElem?_eq_some_iff.1 hq
   obtain ⟨l2,e2⟩:=List.getElem?_eq_some_iff.1 hj
   have hp:=List.pairwise_iff_getElem.1 a3
   rcases Nat.lt_or_ge j q with hlt | hge
   ·exact hp j q l2 l1 hlt (by rw [e1,e2,hkk,he0])
   ·exact hp q j l1 l2 (by omega) (by rw [e1,e2,hkk,he0])
 refine ⟨fun e he=>?_,fun k' x' hk'=>?_,?_⟩
 ·rcases hmem e he with rfl | ⟨he,hne⟩
  ·exact ⟨updM_same _ _ _,hk,h1⟩
  ·rw [updM_ne hne];exact a1 e he
 ·have:k'∈es.toList.map (·.key):=by
   by_cases c:k'=k
   ·rw [List.mem_map];exact ⟨e0,List.mem_of_getElem? hj,by rw [he0,c]⟩
   ·rw [updM_ne c] at hk'
    obtain ⟨e',he,hek⟩:=a2 k' x' hk'
    rw [List.mem_map];exact ⟨e',he,hek⟩
  rw [← hkeys,List.mem_map] at this
  exact this
 ·have h3:(es.toList.map (·.key)).Pairwise (·≠·):=List.pairwise_map.2 a3
  rw [← hkeys] at h3
  exact List.pairwise_map.1 h3

theorem map_core (c:Conc N E st a w I ρ) {s:Nat} {p:Path} {R:AV} {kd:Bool} {m m':Value→Option Value} (hR:st.mem s=some R) (hM:R.at p=.mt kd m) {k:Plc} (hk:ρ s p=some k) {es':Array MapEntry} {cl:Nat}
    (hsz:w'.heap.size=w.heap.size) (hos:w'.os=w.os) (htp:w'.tape=w.tape) (hout:w'.output=w.output) (hother:∀ b,b≠k.b→w'.heap[b]? = w.heap[b]?) (hh:w'.heap[k.b]? = some (.map es' cl)) (hm:MapIs kd m' es') :
    Conc N E (st.setMem s (R.modP p fun _=>.mt kd m')) a w' I ρ:=by
  have hMn:(R.at p).isNode=true:=by rw [hM];rfl
  have hv:ValidP (.mt kd m') R p:=valid_of c.mem hR p [] (inP_node hMn) (fun _=>rfl)
  have hx:∀ ij r,(AV.at (.mt kd m') (ij :: r)).isNode=false:=fun ij r=>by show (AV.at .any r).isNode=false;rw [any_at];rfl
  have hold:∀ r,((AV.mt kd m').at r).isNode=true→r=[]:=by
    intro r h
    cases r with
    | nil=>rfl
    | cons ij r=>rw [hx] at h;cases h
  have hsep:=Sep.setP (w':=w') (I':=I) (ρ':=ρ) (x:=.mt kd m') (Q:=p) c.mem hR hv (fun _=>rfl) (fun _ _ _ h=>h)
    (fun v _ _ hc=>by
      rw [hM] at hc
      rcases hc with ⟨_,hc⟩ | ⟨hc,_⟩
      · exact .inl ⟨rfl,hc⟩
      · cases hc)
    (fun _ _ _=>rfl)
    (fun s' T' p' k' e1 e2 e3 e4=>by
      have hne:k'.b≠k.b:=fun he=>by
        obtain ⟨q1,q2⟩:=c.mem.inj s' T' p' k' s R p k e1 e2 e3 hR hMn hk he
        rcases e4 with e4 | e4
        · exact e4 q1
        · subst q2;exact e4 (List.prefix_refl _)
      exact ⟨hother _ hne,fun o=>c.mem.free s' T' p' k' e1 e2 e3 o⟩)
    (fun r=>by
      cases r with
      | nil=>rw [List.append_nil];exact ⟨k,es',cl,hk,hh,hm⟩
      | cons ij r=>exact node_false (hx ij r))
    (fun r k1 h1 h2 o=>by
      obtain rfl:=hold r h1
      rw [List.append_nil,hk] at h2;cases h2
      exact c.mem.free s R p k hR hMn hk o)
    (fun r k1 r' k2 h1 _ h1' _ _=>by rw [hold r h1,hold r' h1'])
    (fun r k1 s' T' p' k2 h1 h2 e1 e2 e3 e4 he=>by
      obtain rfl:=hold r h1
      rw [List.append_nil,hk] at h2;cases h2
      obtain ⟨q1,q2⟩:=c.mem.inj s R p k s' T' p' k2 hR hMn hk e1 e2 e3 he
      rcases e4 with e4 | e4
      · exact e4 q1.symm
      · subst q2;exact e4 (List.prefix_refl _))
  have hlo:=c.lo k.b ⟨s,R,p,k,hR,hMn,hk,rfl⟩
  have hmod:R.modP p (fun _=>.mt kd m')=R.setP p (.mt kd m'):=modP_eq _ p R
  rw [hmod]
  refine ⟨⟨fun b o x h=>?_,fun b cs h=>by
      obtain ⟨t,f,x,h1,h2⟩:=c.held.base b cs h
      have hb:b≠k.b:=fun e=>by rw [e,c.mem.free s R p k hR hMn hk 0] at h2;cases h2
      exact ⟨t,f,x,(hother b hb).trans h1,h2⟩⟩,⟨hos.trans c.below.os,htp.trans c.below.tape,hout.trans c.below.output,by rw [hsz];exact c.below.size,fun b hb hl=>?_⟩,c.keeps,c.size,c.defers,c.fr,hsep,?_,?_⟩
  · have:=c.held.cell b o x h
    refine ⟨?_,this.2⟩
    have hb:b≠k.b:=fun e=>by rw [e,c.mem.free s R p k hR hMn hk o] at h;cases h
    exact (World.cell?_of_block (w:=w) (a:=⟨b,o,none⟩) (hother b hb)).trans this.1
  · rw [hother b fun e=>?_]
    · exact c.below.block b hb hl
    · subst e
      rcases hlo with hlo | hlo
      · omega
      · exact hl hlo
  · rintro b ⟨s',T',p',k',q1,q2,q3,rfl⟩
    simp only [St.setMem] at q1
    by_cases e:s'=s
    · rw [if_pos e] at q1
      cases q1
      subst e
      by_cases hp:p <+: p'
      · obtain ⟨r,rfl⟩:=hp
        rw [at_setP p R r hv] at q2
        obtain rfl:=hold r q2
        rw [List.append_nil] at q3
        exact c.lo _ ⟨s',R,p,k',hR,hMn,q3,rfl⟩
      · exact c.lo _ ⟨s',R,p',k',hR,node_setP hv hp q2,q3,rfl⟩
    · rw [if_neg e] at q1
      exact c.lo _ ⟨s',T',p',k',q1,q2,q3,rfl⟩
  · intro i' c' T' q g1 g2 g3
    simp only [St.setMem] at g2
    by_cases e:i'=s
    · rw [if_pos e] at g2
      cases g2
      subst e
      refine c.fix i' c' R q g1 hR ?_
      cases p with
      | nil=>have hMR:R=.mt kd m:=hM;rw [hMR];exact g3
      | cons ij p=>exact topPos_setP (by simp) g3
    · rw [if_neg e] at g2
      exact c.fix i' c' T' q g1 g2 g3

theorem map_sound (c:Conc N E st a w I ρ) (hd:∀ t,d=some t→t<N) {ty:TypeId} {mo ko xo:Operand} {o:Op} (ho:execOp a.eval ⟨d,o,t,pos,after,g⟩=(do Instr.mapUpdate ty (a.eval mo) (a.eval ko) (a.eval xo);pure .skip))
    (h:mapP P st ty (st.ev mo) (st.ev ko) (st.ev xo) (fun st'=>K (st'.put d .un)) .mk):(⟨d,o,t,pos,after,g⟩:Oper).wp P a w (AOut N E K) Q:=by
  unfold mapP at h
  split at h
  · rename_i s p hm
    have hmr:=c.ev mo
    rw [hm] at hmr
    obtain ⟨k,hk,hmv⟩:=rep_mref hmr
    unfold mapN at h
    split at h
    · rename_i kd f key x hT hkey hx
      have hkr:=c.ev ko
      rw [hkey] at hkr
      have hkv:=rep_v hkr
      have hxr:=c.ev xo
      rw [hx] at hxr
      have hxv:=rep_v hxr
      cases hmt:mapT P ty with
      | none=>rw [hmt] at h;exact h.elim
      | some ke =>
        obtain ⟨kd',el⟩:=ke
        rw [hmt] at h
        obtain ⟨⟨rfl,hkb,h1⟩,h⟩:=h
        obtain ⟨R,hR,hRT⟩:=nodeAt_some hT rfl
        rw [hR] at h
        obtain ⟨kt,hu,huk⟩:=mapT_spec hmt
        have hrow:=c.mem.row s R p hR
        rw [hRT] at hrow
        obtain ⟨k',es,cl,g1,g2,g3⟩:=hrow
        rw [hk] at g1;cases g1
        have hkk:=keyB_spec hkb
        have hlt:k.b<w.heap.size:=(Array.getElem?_eq_some_iff.1 g2).1
        have fin:∀ es' cl',(Instr.mapUpdate ty (.map (some k.b)) key x).run P w=.ok () { w with heap:=w.heap.setIfInBounds k.b (.map es' cl') }→MapIs kd' (updM f key x) es'→(⟨d,o,t,pos,after,g⟩:Oper).wp P a w (AOut N E K) Q:=by
          intro es' cl' hrun hmi
          have c1:=map_core (es':=es') (cl:=cl') (w':={ w with heap:=w.heap.setIfInBounds k.b (.map es' cl') }) c hR hRT hk (by simp) rfl rfl rfl (fun b hb=>by simp [Array.getElem?_setIfInBounds_ne (Ne.symm hb)]) (by simp [hlt]) hmi
          refine wp_skip' (w':={ w with heap:=w.heap.setIfInBounds k.b (.map es' cl') }) ?_ ⟨_,h,I,ρ,c1.put d hd (.stat (.v _))⟩
          rw [ho,hmv,hkv,hxv,Sem.run_bind,hrun];rfl
        have hrun0:∀ r:Option (Nat×Value),Instr.findNow (keyD kd') key es.toList 0=some r→(Instr.mapUpdate ty (.map (some k.b)) key x).run P w=(match r with
            | some (i,_)=>(do let key ← Instr.keyThatStays (((es[i]?).map MapEntry.key).getD key) key;setObj k.b (.map (es.modify i fun e=>{ e with key:=key,val:=x }) cl):Sem Unit)
            | none=>setObj k.b (.map (es.push ⟨key,x,cl⟩) (cl+1))).run P w:=by
          intro r hr
          unfold Instr.mapUpdate
          simp only [Sem.run_bind,run_underlying hu,Result.andThen_ok,MapKept.run_getObj_map g2,run_checkKey huk hkk,run_findKey huk hr]
          cases r with
          | none=>rfl
          | some q=>rfl
        rcases map_find g3 hkk with ⟨q1,q2,q3⟩ | ⟨j,e',q3,q4,q2,q1⟩
        · refine fin (es.push ⟨key,x,cl⟩) (cl+1) ?_ (mapIs_push g3 hkk h1 q3)
          rw [hrun0 _ q1]
          exact MapKept.run_setObj_map _ g2
        · refine fin (es.modify j fun e=>{ e with key:=key,val:=x }) cl ?_ (mapIs_modify g3 hkk h1 q3 q4)
          rw [hrun0 _ q1]
          have hkey0:((es[j]?).map MapEntry.key).getD key=key:=by
            have:es[j]? = some e':=by simpa using q3
            rw [this];simp [q4]
          have hstay:(Instr.keyThatStays key key).run P w=.ok key w:=by
            have hsb:Instr.sameBits 10000 key key=true:=by
              cases kd' with
              | true=>obtain ⟨s',rfl⟩:=hkk;show (s' == s')=true;exact (MapKept.bytes_beq _ _).2 rfl
              | false=>obtain ⟨s',rfl⟩:=hkk;show (IntKind.i64 == IntKind.i64 && s' == s')=true;simp
            unfold Instr.keyThatStays
            rw [hsb];rfl
          show (do let key ← Instr.keyThatStays ((Option.map MapEntry.key es[j]?).getD key) key;setObj k.b (.map (es.modify j fun e=>{ e with key,val:=x }) cl):Sem Unit).run P w=_
          rw [hkey0]
          show (do let key ← Instr.keyThatStays key key;setObj k.b (.map (es.modify j fun e=>{ e with key,val:=x }) cl):Sem Unit).run P w=_
          rw [Sem.run_bind,hstay,Result.andThen_ok]
          exact MapKept.run_setObj_map _ g2
    · exact h.elim
  · exact h.elim
end
end Go.AM
namespace Go.AM
open Go.RowKit (Below)

section
variable {P:Program} {N:Nat} {E:Entry} {st:St} {a:Act} {w w':World} {I I':Gh} {ρ ρ':Pl} {mem mem':Nat→Option AV}

theorem bears_node {x:AV} (h:x.bears=false):x.isNode=false:=by cases x <;> first | rfl | cases h
theorem bears_cells {x:AV} (h:x.bears=false) {j:Nat} (hj:j<x.cells.length):(x.cells[j]).bears=false:=by
  cases x <;> first
    | (have:j=0:=by simpa [AV.cells] using hj
       subst this;exact h)
    | exact bearsL_get h j hj

structure Brings (I:Gh) (ρ:Pl) (w:World) (z:Nat) (ys:List AV) (y:Value) (news:List Value):Prop where
 len:news.length=ys.length*z
 one:∀ u∈news,u.oneCell'=true
 rep:∀ i (hi:i<ys.length),(ys[i]).cells.length=z∧∀ j (hj:j<(ys[i]).cells.length),∃ u,news[i*z+j]? = some u∧Rep I ρ ((ys[i]).cells[j]) u
 form:(y=.slice none 0 0∧ys=[])∨∃ ad c,y=.slice (some ad) ys.length c∧∀ j u,news[j]? = some u→w.cell? (ad.add j)=some u

theorem ix_split {n z k:Nat} (h:k<n*z):∃ i j,i<n∧j<z∧k=i*z+j:=by
  have hz : 0 < z := by rcases Nat.eq_zero_or_pos z with h0 | h0;· subst h0;simp at h
                        · exact h0
  refine ⟨k / z,k % z,?_,Nat.mod_lt _ hz,?_⟩
  · exact (Nat.div_lt_iff_lt_mul hz).2 h
  · rw [Nat.mul_comm];exact (Nat.div_add_mod k z).symm
theorem ix_lt {n z i j:Nat} (hi:i<n) (hj:j<z):i*z+j<n*z:=by
 calc i*z+j<i*z+z:=by omega
  _=(i+1)*z:=by rw [Nat.add_mul,Nat.one_mul]
  _≤n*z:=Nat.mul_le_mul_right _ hi
theorem ix_div {z i j:Nat} (hj:j<z):(i*z+j) / z=i∧(i*z+j) % z=j:=by
 constructor
 ·rw [Nat.mul_comm,Nat.mul_add_div (by omega)];simp [Nat.div_eq_of_lt hj]
 ·rw [Nat.mul_comm,Nat.mul_add_mod];exact Nat.mod_eq_of_lt hj
theorem addr_at (b o j:Nat):(⟨b,o,none⟩:Addr).add j=⟨b,o+j,none⟩:=Addr.add_lit ..

theorem brings_mk {z:Nat} {ys:List AV} {b off c:Nat} {vals:Nat→Nat→Value} (hsz:∀ i (hi:i<ys.length),(ys[i]).cells.length=z)
  (hcell:∀ i,i<ys.length→∀ j,j<z→w.cell? ⟨b,off+i*z+j,none⟩=some (vals i j)∧(vals i j).oneCell'=true) (hr:∀ i (hi:i<ys.length) j (hj:j<(ys[i]).cells.length),Rep I ρ ((ys[i]).cells[j]) (vals i j)) :
  ∃ news,Brings I ρ w z ys (.slice (some ⟨b,off,none⟩) ys.length c) news:=by
 refine ⟨(List.range (ys.length*z)).map fun k=>vals (k / z) (k % z),⟨by simp,?_,?_,.inr ⟨_,_,rfl,?_⟩⟩⟩
 ·intro u hu
  simp at hu
  obtain ⟨k,hk,rfl⟩:=hu
  obtain ⟨i,j,hi,hj,rfl⟩:=ix_split hk
  rw [(ix_div hj).1,(ix_div hj).2]
  exact (hcell i hi j hj).2
 ·intro i hi
  refine ⟨hsz i hi,fun j hj=>⟨vals i j,?_,hr i hi j hj⟩⟩
  have hj':j<z:=by rw [← hsz i hi];exact hj
  rw [List.getElem?_map,List.getElem?_range (ix_lt hi hj')]
  simp [(ix_div (i:=i) hj').1,(ix_div (i:=i) hj').2]
 ·intro k u hu
  rw [List.getElem?_map] at hu
  obtain ⟨k',hk',rfl⟩:=Option.map_eq_some_iff.1 hu
  obtain ⟨hlt,rfl⟩:=List.getElem?_eq_some_iff.1 hk'
  simp at hlt ⊢
  obtain ⟨i,j,hi,hj,rfl⟩:=ix_split hlt
  rw [(ix_div hj).1,(ix_div hj).2,addr_at,← Nat.add_assoc]
  exact (hcell i hi j hj).1

theorem brings_nil {z:Nat} (x:Option Addr) (c:Nat) (h:x=none→c=0):Brings I ρ w z [] (.slice x 0 c) []:=by
 refine ⟨by simp,by simp,(fun i hi=>by cases hi),?_⟩
 cases x with
 | none=>rw [h rfl];exact .inl ⟨rfl,rfl⟩
 | some ad=>exact .inr ⟨ad,c,rfl,fun j u h=>by simp at h⟩
theorem brings_sl (hh:Held I w) {z:Nat} {ys:List AV} {y:Value} (r:RepS I (.sl z ys) y):∃ news,Brings I ρ w z ys y news:=by
 cases r with
 | nil _ x=>exact ⟨[],brings_nil x 0 fun _=>rfl⟩
 | nila _ x cap=>exact ⟨[],brings_nil (some x) cap fun h=>by cases h⟩
 | sl _ _ b off cap vals hsz hc hI hr=>exact brings_mk hsz (fun i hi j hj=>hh.cell _ _ _ (hI i hi j hj)) (fun i hi j hj=>.stat (hr i hi j hj))
theorem brings_lst (hh:Held I w) {z:Nat} {ys:List AV} {y:Value} (r:Rep I ρ (.lst z ys) y):∃ news,Brings I ρ w z ys y news:=by
 cases r with
 | stat h=>cases h
 | lst _ _ b off cap vals hsz hc hI hr=>exact brings_mk hsz (fun i hi j hj=>hh.cell _ _ _ (hI i hi j hj)) hr

theorem srcP_sound (hh:Held I w) (m:Sep I ρ w mem) {z:Nat} {y:AV} {K:List AV→Prop} {u:Value} (h:srcP mem z y K .mk) (r:Rep I ρ y u):∃ ys news,K ys∧Brings I ρ w z ys u news:=by
 unfold srcP at h
 split at h
 ·rename_i s p z' o n
  unfold srcN at h
  split at h
  ·rename_i w1 es hT
   obtain ⟨⟨rfl,rfl,hn,hb⟩,k⟩:=h
   obtain ⟨R,hR,hRT⟩:=nodeAt_some hT rfl
   have hrow:=m.row s R p hR
   rw [hRT] at hrow
   refine ⟨(es.drop o).take n,?_⟩
   have hlen:((es.drop o).take n).length=n:=by simp;omega
   rcases rep_ref r with ⟨k1,hk,hz,hc,rfl⟩ | ⟨rfl,x,rfl⟩
   ·rcases hrow with ⟨_,hrow⟩ | ⟨k2,E2,arr,h1,h2,h3,h3',h4,h5,h6⟩
    ·subst hrow
     have hn0:n=0:=by simp at hn;omega
     subst hn0
     exact ⟨[],k,by simpa using brings_nil (some _) _ fun h=>by cases h⟩
    ·rw [hk] at h1;cases h1
     have hget:∀ i (hi:i<((es.drop o).take n).length),((es.drop o).take n)[i]=es[o+i]'(by omega):=fun i hi=>by simp
     have:=brings_mk (I:=I) (ρ:=ρ) (w:=w) (z:=w1) (ys:=(es.drop o).take n) (b:=k1.b) (off:=k1.off+o*w1) (c:=k1.cap - o) (vals:=fun i j=>arr.getD (k1.off+(o+i)*w1+j) undef) (fun i hi=>by rw [hget i hi];exact (h6 (o+i) (by omega)).1)
      (fun i hi j hj=>by
       have h7:=h6 (o+i) (by omega)
       have hlt:=ix_lt (n:=k1.cap) (show o+i<k1.cap by omega) hj
       rw [hlen] at hi
       have e1:k1.off+o*w1+i*w1+j=k1.off+(o+i)*w1+j:=by rw [Nat.add_mul];omega
       rw [e1]
       exact ⟨cell_arr h4 (by omega),(h7.2 j (by rw [h7.1];exact hj)).2⟩)
      (fun i hi j hj=>by
       have hi':o+i<es.length:=by omega
       have e1:=hget i hi
       have h7:=h6 (o+i) hi'
       have hj':j<(es[o+i]).cells.length:=by rw [← e1];exact hj
       have h8:=(h7.2 j hj').1
       have e2:(((es.drop o).take n)[i]).cells[j]=(es[o+i]).cells[j]:=by simp only [e1]
       rw [e2]
       have hb1:=bears_node (bears_cells (bearsL_get hb (o+i) hi') hj')
       rcases h8 with ⟨h8,_⟩ | ⟨_,h8⟩
       ·rw [hb1] at h8;cases h8
       ·exact .stat h8)
     obtain ⟨news,hb⟩:=this
     rw [hlen] at hb
     exact ⟨news,k,hb⟩
   ·exact ⟨[],k,by simpa using brings_nil x 0 fun _=>rfl⟩
  ·exact h.elim
 ·rename_i z' es
  obtain ⟨rfl,k⟩:=h
  obtain ⟨news,hsrc⟩:=brings_sl (ρ:=ρ) hh (rep_sl r)
  exact ⟨es,news,k,hsrc⟩
 ·rename_i z' es
  obtain ⟨rfl,k⟩:=h
  obtain ⟨news,hsrc⟩:=brings_lst hh r
  exact ⟨es,news,k,hsrc⟩
 ·obtain rfl:=rep_v r
  exact ⟨[],[],h,brings_nil none 0 fun _=>rfl⟩
 ·exact h.elim

def NewRow (w w':World) (kb:Nat→Prop) (z len:Nat) (C:Nat→Nat→Value→Prop) (k':Option Plc) (v:Value):Prop :=
 (k'=none∧len=0∧w'=w∧∃ x,v=.slice x 0 0)∨∃ k E arr,k'=some k∧v=.slice (some ⟨k.b,k.off,none⟩) len k.cap∧k.z=z∧len≤k.cap∧k.cap≤maxLen∧w'.heap[k.b]? = some (.cells arr E (0,0))∧k.off+k.cap*z≤arr.size ∧
  (∀ i,i<len→∀ j,j<z→C i j (arr.getD (k.off+i*z+j) undef))∧w'.os=w.os∧w'.tape=w.tape∧w'.output=w.output∧w.heap.size≤w'.heap.size∧(∀ b,b≠k.b→b<w.heap.size→w'.heap[b]? = w.heap[b]?)∧(kb k.b∨w.heap.size≤k.b)

theorem append_phys {t e ty:TypeId} {inf:TypeInfo} {zv:Value} (hu:P.underlying t=some (.slice e)) (hi:P.info? e=some inf) (hzv:inf.zero=some zv) (hzs:zv.cells.size=inf.size) (hsz:0<inf.size)
    {ys:List AV} {y:Value} {news:List Value} (src:Brings I ρ w inf.size ys y news) {n:Nat} (hlen:n+ys.length≤1099511627776) (hb:inf.bytes≤64) {v:Value} {kb:Nat→Prop} {old:Nat→Nat→Value}
    (hv:(n=0∧∃ x,v=.slice x 0 0)∨∃ b off cap E cur,v=.slice (some ⟨b,off,none⟩) n cap∧kb b∧n≤cap∧cap≤maxLen∧w.heap[b]? = some (.cells cur E (0,0))∧off+cap*inf.size≤cur.size∧∀ i,i<n→∀ j,j<inf.size→cur.getD (off+i*inf.size+j) undef=old i j) :
    ∃ v' w' k',(Builtin.append_ #[t,t] ty #[v,y]).run P w=.ok v' w' ∧
      NewRow w w' kb inf.size (n+ys.length) (fun i j u=>if i<n then u=old i j else news[(i - n)*inf.size+j]? = some u) k' v':=by
  have hbytes:(n+ys.length)*inf.bytes≤140737488355328:=by
    calc (n+ys.length)*inf.bytes≤1099511627776*64:=Nat.mul_le_mul hlen hb
      _≤140737488355328:=by omega
  have hmax:n+ys.length≤maxLen:=by simp only [maxLen];omega
  have fresh:∀ (W:World) (cap:Nat) (olds:List Value),olds.length=n*inf.size→(∀ i,i<n→∀ j,j<inf.size→olds[i*inf.size+j]? = some (old i j))→W.heap.size=w.heap.size→W.os=w.os→W.tape=w.tape→W.output=w.output→(∀ b,b<w.heap.size→W.heap[b]? = w.heap[b]?)→n+ys.length≤cap→cap≤maxLen →
      NewRow w (W.alloc (.cells (olds.toArray++news.toArray++Builtin.zeroCells zv.cells (cap - (n+ys.length))) e)) kb inf.size (n+ys.length) (fun i j u=>if i<n then u=old i j else news[(i - n)*inf.size+j]? = some u) (some ⟨w.heap.size,0,inf.size,cap⟩) (.slice (some ⟨w.heap.size,0,none⟩) (n+ys.length) cap):=by
    intro W cap olds ho1 ho2 hs hos htp hout hold hc1 hc2
    refine .inr ⟨⟨w.heap.size,0,inf.size,cap⟩,e,olds.toArray++news.toArray++Builtin.zeroCells zv.cells (cap - (n+ys.length)),rfl,rfl,rfl,hc1,hc2,?_,?_,?_,hos,htp,hout,by rw [← hs];simp,?_,.inr (Nat.le_refl _)⟩
    · rw [← hs];exact heap_new W _
    · simp only [Nat.zero_add,Array.size_append,List.size_toArray,size_zeroCells,hzs,ho1,src.len,← Nat.add_mul]
      exact Nat.mul_le_mul_right _ (by omega)
    · intro i hi j hj
      have hall:=ix_lt hi hj
      have hlt2:i*inf.size+j<(olds++news).length:=by rw [List.length_append,ho1,src.len,← Nat.add_mul];exact hall
      have eq:(olds.toArray++news.toArray++Builtin.zeroCells zv.cells (cap - (n+ys.length))).getD (0+i*inf.size+j) undef=((olds++news)[i*inf.size+j]?).getD undef:=by
        rw [Nat.zero_add,Array.getD_eq_getD_getElem?]
        congr 1
        rw [Array.getElem?_append_left (by simpa using hlt2)];simp
      show if i<n then _=_ else _=some _
      rw [eq]
      by_cases c:i<n
      · rw [if_pos c,List.getElem?_append_left (by rw [ho1];exact ix_lt c hj),ho2 i c j hj];rfl
      · rw [if_neg c]
        have e2:(olds++news)[i*inf.size+j]? = news[(i - n)*inf.size+j]?:=by
          rw [List.getElem?_append_right (by rw [ho1];have:n*inf.size≤i*inf.size:=Nat.mul_le_mul_right _ (by omega);omega),ho1]
          congr 1
          obtain ⟨m,rfl⟩:∃ m,i=n+m:=⟨i - n,by omega⟩
          rw [Nat.add_sub_cancel_left,Nat.add_mul];omega
        rw [e2]
        have hlt3:(i - n)*inf.size+j<news.length:=by rw [src.len];exact ix_lt (by omega) hj
        rw [List.getElem?_eq_getElem hlt3];rfl
    · intro b hb hb2
      have hb3:b<W.heap.size:=by omega
      rw [heap_alloc_old W _ hb3];exact hold b hb2
  rcases hv with ⟨rfl,x,rfl⟩ | ⟨b,off,cap,Eb,cur,rfl,hkb,hnc,hcm,hh,hfit,hold⟩
  · -- nothing was there
    rcases src.form with ⟨rfl,rfl⟩ | ⟨ad,c,rfl,hcells⟩
    · refine ⟨.slice x 0 0,w,none,?_,.inl ⟨rfl,rfl,rfl,x,rfl⟩⟩
      cases x <;> simp [Builtin.append_,run_underlying hu,sizeOf,typeInfo,hi,Builtin.lenOf,Builtin.firstCells,storeCells]
    · by_cases hm:ys.length=0
      · refine ⟨.slice x 0 0,w,none,?_,.inl ⟨rfl,by omega,rfl,x,rfl⟩⟩
        cases x <;> simp [Builtin.append_,run_underlying hu,sizeOf,typeInfo,hi,Builtin.lenOf,Builtin.firstCells,loadCells,loadCellsFrom,storeCells,hm]
      · cases x with
        | none =>
          have h2:=run_append_nil (P:=P) w t ty e inf zv hu hi hzv ad ys.length c news src.len hcells (by omega) (by simp only [maxLen] at hmax;omega) (by simp only [Nat.zero_add] at hbytes;omega)
          have:=fresh w.drew (grownCap w ys.length 0 e) [] (by simp) (fun i hi=>by omega) rfl rfl rfl rfl (fun _ _=>rfl) (by rw [Nat.zero_add];exact grownCap_ge ..) (grownCap_le_maxLen _ _ _ _ (by omega))
          simp only [Nat.zero_add] at this ⊢
          exact ⟨_,_,some ⟨w.heap.size,0,inf.size,grownCap w ys.length 0 e⟩,h2,by simpa using this⟩
        | some bx =>
          have h2:=run_append_grow (P:=P) (ty:=ty) w t e inf zv hu hi hzv bx 0 0 [] (by simp) (fun j u h=>by simp at h) ad ys.length c news src.len hcells (by omega) (by simp only [maxLen] at hmax;omega) (growslice_fits (by omega) hbytes)
          exact ⟨_,_,_,h2,fresh w.drew (grownCap w (0+ys.length) 0 e) [] (by simp) (fun i hi=>by omega) rfl rfl rfl rfl (fun _ _=>rfl) (grownCap_ge ..) (grownCap_le_maxLen _ _ _ _ (by omega))⟩
  · by_cases hroom:n+ys.length≤cap
    · -- there is room
      have hoff:off+n*inf.size+news.length≤cur.size:=by
        rw [src.len,Nat.add_assoc,← Nat.add_mul]
        have:(n+ys.length)*inf.size≤cap*inf.size:=Nat.mul_le_mul_right _ hroom
        omega
      have hst:=run_storeCells_at P b (off+n*inf.size) Eb news 0 cur w hh (by simpa using hoff) src.one
      simp only [Nat.add_zero] at hst
      let arr':=(cur.toList.take (off+n*inf.size)++news++cur.toList.drop (off+n*inf.size+news.length)).toArray
      have hrow:∀ w',w'.heap[b]? = some (.cells arr' Eb (0,0))→w'.os=w.os→w'.tape=w.tape→w'.output=w.output→w.heap.size≤w'.heap.size→(∀ k,k≠b→k<w.heap.size→w'.heap[k]? = w.heap[k]?) →
          NewRow w w' kb inf.size (n+ys.length) (fun i j u=>if i<n then u=old i j else news[(i - n)*inf.size+j]? = some u) (some ⟨b,off,inf.size,cap⟩) (.slice (some ⟨b,off,none⟩) (n+ys.length) cap):=by
        intro w' h1 h2 h3 h4 h5 h6
        refine .inr ⟨⟨b,off,inf.size,cap⟩,Eb,arr',rfl,rfl,rfl,hroom,hcm,h1,?_,?_,h2,h3,h4,h5,h6,.inl hkb⟩
        · have:arr'.size=cur.size:=by simp [arr'];omega
          rw [this];exact hfit
        · intro i hi j hj
          have hg:arr'.getD (off+i*inf.size+j) undef=((cur.toList.take (off+n*inf.size)++news++cur.toList.drop (off+n*inf.size+news.length))[off+i*inf.size+j]?).getD undef:=by
            rw [Array.getD_eq_getD_getElem?];simp [arr']
          show if i<n then _=_ else _=some _
          rw [hg,splice_get _ _ _ _ _ (by simp) (by simp;omega)]
          by_cases c:i<n
          · have hlt:=ix_lt c hj
            rw [if_pos c,if_pos (by omega),← hold i c j hj,Array.getD_eq_getD_getElem?];simp
          · have hge:n*inf.size≤i*inf.size:=Nat.mul_le_mul_right _ (by omega)
            have hlt:=ix_lt (n:=ys.length) (show i - n<ys.length by omega) hj
            have e3:off+i*inf.size+j - (off+n*inf.size)=(i - n)*inf.size+j:=by
              obtain ⟨m,rfl⟩:∃ m,i=n+m:=⟨i - n,by omega⟩
              rw [Nat.add_sub_cancel_left,Nat.add_mul];omega
            have hlt':(i - n)*inf.size+j<news.length:=by rw [src.len];exact hlt
            rw [if_neg c,if_neg (by omega),if_pos (by omega),e3,List.getElem?_eq_getElem hlt'];rfl
      rcases src.form with ⟨rfl,rfl⟩ | ⟨ad,c,rfl,hcells⟩
      · have hn:news=[]:=List.eq_nil_of_length_eq_zero (by have:=src.len;simpa using this)
        subst hn
        refine ⟨.slice (some ⟨b,off,none⟩) n cap,w,some ⟨b,off,inf.size,cap⟩,?_,?_⟩
        · simp [Builtin.append_,run_underlying hu,sizeOf,typeInfo,hi,Builtin.lenOf,Builtin.firstCells,hnc,storeCells]
        · have:arr'=cur:=by simp [arr']
          rw [this] at hrow
          exact hrow w hh rfl rfl rfl (Nat.le_refl _) (fun _ _ _=>rfl)
      · have hf:=run_firstCells_some (P:=P) w inf.size ys.length ad ys.length c news src.len hcells
        refine ⟨_,w.setRow b arr',_,?_,hrow _ (setRow_heap w _ _ _ _ _ hh) rfl rfl rfl (by simp [World.setRow]) (fun k hk _=>setRow_other w _ k _ hk)⟩
        simp [Builtin.append_,run_underlying hu,sizeOf,typeInfo,hi,Builtin.lenOf,hroom,hf,Addr.add_lit,hst,arr']
    · -- there is none
      have hm:0<ys.length:=by omega
      rcases src.form with ⟨rfl,rfl⟩ | ⟨ad,c,rfl,hcells⟩
      · simp at hm
      let olds:=(cur.toList.drop off).take (n*inf.size)
      have hnsz:off+n*inf.size≤cur.size:=by
        have:n*inf.size≤cap*inf.size:=Nat.mul_le_mul_right _ hnc
        omega
      have ho1:olds.length=n*inf.size:=by simp [olds];omega
      have hog:∀ q u,olds[q]? = some u→q<n*inf.size∧cur[off+q]? = some u:=by
        intro q u h
        simp only [olds] at h
        rw [List.getElem?_take] at h
        split at h
        · rename_i hq
          rw [List.getElem?_drop] at h
          exact ⟨hq,by simpa using h⟩
        · cases h
      have h2:=run_append_grow (P:=P) (ty:=ty) w t e inf zv hu hi hzv ⟨b,off,none⟩ n cap olds ho1 (fun j u hj=>by
        obtain ⟨h1,h2⟩:=hog j u hj
        rw [addr_at]
        have hlt:off+j<cur.size:=by omega
        rw [cell_arr hh hlt]
        obtain ⟨_,rfl⟩:=Array.getElem?_eq_some_iff.1 h2
        simp [Array.getD,hlt]) ad ys.length c news src.len hcells (by omega) (by simp only [maxLen] at hmax;omega) (growslice_fits (by omega) hbytes)
      refine ⟨_,_,_,h2,fresh w.drew (grownCap w (n+ys.length) cap e) olds ho1 (fun i hi j hj=>?_) rfl rfl rfl rfl (fun _ _=>rfl) (grownCap_ge ..) (grownCap_le_maxLen _ _ _ _ hmax)⟩
      have hlt:=ix_lt hi hj
      simp only [olds]
      rw [List.getElem?_take,if_pos hlt,List.getElem?_drop]
      have h9:=hold i hi j hj
      rw [Array.getD_eq_getD_getElem?,Nat.add_assoc] at h9
      have hlt2:off+(i*inf.size+j)<cur.size:=by omega
      rw [Array.getElem?_eq_getElem hlt2] at h9
      simp only [Option.getD_some] at h9
      rw [← h9];simp [hlt2]
end
end Go.AM
namespace Go.AM
open Go.RowKit (Below)

section
variable {P:Program} {N:Nat} {E:Entry} {st:St} {a:Act} {w w':World} {I I':Gh} {ρ ρ':Pl} {mem mem':Nat→Option AV}

def growP (ρ:Pl) (s:Nat) (p:Path) (d:Nat) (k':Option Plc):Pl:=fun t r=>if t=d then (match r with | []=>k' | _=>ρ s (p++r)) else ρ t r
theorem growP_ne {s t d:Nat} {p:Path} {k':Option Plc} (h:t≠d):growP ρ s p d k' t=ρ t:=by funext r;simp [growP,h]
theorem growP_nil {s d:Nat} {p:Path} {k':Option Plc}:growP ρ s p d k' d []=k':=by simp [growP]
theorem growP_cons {s d:Nat} {p:Path} {k':Option Plc} (ij:Nat×Nat) (r:Path):growP ρ s p d k' d (ij :: r)=ρ s (p++ij :: r):=by simp [growP]
theorem growF_ok {s d:Nat} {p:Path} {k':Option Plc} (s':Nat) (p':Path) (s1:Nat) (p1:Path) (h:growF s p d s' p'=some (s1,p1)):growP ρ s p d k' s1 p1=ρ s' p':=by
 unfold growF at h
 split at h
 ·rename_i e
  subst e
  cases hp:isPref p p' with
  | true =>
   rw [hp] at h
   simp only at h
   obtain ⟨r,rfl⟩:=(prefix_iff p p').1 hp
   cases r with
   | nil=>simp at h
   | cons ij r =>
    simp only [List.length_append,List.length_cons,List.drop_left] at h
    have:(p.length+(r.length+1) == p.length)=false:=by simp
    rw [this] at h
    simp only [Option.some.injEq,Prod.mk.injEq] at h
    obtain ⟨rfl,rfl⟩:=h
    exact growP_cons ij r
  | false =>
   rw [hp] at h
   simp only at h
   split at h
   ·cases h
   ·rename_i e2
    cases h
    rw [growP_ne e2]
 ·split at h
  ·cases h
  ·rename_i e2
   cases h
   rw [growP_ne e2]

theorem Conc.detach (c:Conc N E st a w I ρ) {s d:Nat} {p:Path} {R:AV} {z:Nat} {es:List AV} {o n:Nat} (hR:st.mem s=some R) (hM:R.at p=.tr z es) (hon:o+n≤es.length) (hb:o=0∨AV.bearsL es=false) (hnp:E.args[d]? = none)
    {ys:List AV} {k':Option Plc} {v':Value} {C:Nat→Nat→Value→Prop} (hrow:NewRow w w' (fun b=>∃ k,ρ s p=some k∧k.b=b) z (n+ys.length) C k' v')
    (hC1:∀ i (hi:i<n) (hz:(es[o+i]'(by omega)).cells.length=z) j (hj:j<z) u,C i j u→CellOk I (ρ s (p++[(o+i,j)])) ((es[o+i]'(by omega)).cells[j]'(by omega)) u∧u.oneCell'=true)
    (hz2:∀ i (hi:i<ys.length),(ys[i]).cells.length=z) (hC2:∀ i (hi:i<ys.length) j (hj:j<(ys[i]).cells.length) u,C (n+i) j u→RepS I ((ys[i]).cells[j]) u∧u.oneCell'=true) :
    Conc N E ((st.grow s p R d).setMem d (.tr z ((es.drop o).take n++ys))) a w' I (growP ρ s p d k'):=by
  let l:=(es.drop o).take n
  have hMn:(R.at p).isNode=true:=by rw [hM];rfl
  have hlen:l.length=n:=by simp [l];omega
  have hget:∀ i (hi:i<n),(l++ys).getD i .any=es[o+i]'(by omega):=fun i hi=>by
    have h1:i<(l++ys).length:=by simp [hlen];omega
    rw [getD_lt h1,List.getElem_append_left (by omega)];simp [l]
  have hget2:∀ i (hi:i<ys.length),(l++ys).getD (n+i) .any=ys[i]:=fun i hi=>by
    have h1:n+i<(l++ys).length:=by simp [hlen];omega
    rw [getD_lt h1,List.getElem_append_right (by omega)];simp [hlen]
  obtain ⟨m1,hold⟩:=c.mem.rmv hR hMn
  have hrow0:=c.mem.row s R p hR
  rw [hM] at hrow0
  have hez:∀ i (hi:i<es.length),(es[i]).cells.length=z:=by
    intro i hi
    rcases hrow0 with ⟨_,h⟩ | ⟨k,Et,arr,_,_,_,_,_,_,h6⟩
    · subst h;cases hi
    · exact (h6 i hi).1
  have hcell:∀ (ij:Nat×Nat) (r:Path),((AV.tr z (l++ys)).at (ij :: r)).isNode=true→o=0∧ij.1<n∧(AV.tr z (l++ys)).at (ij :: r)=R.at (p++ij :: r):=by
    intro ij r h
    have h:(AV.at (((l++ys).getD ij.1 .any).cells.getD ij.2 .any) r).isNode=true:=h
    by_cases h1:ij.1<n
    · rw [hget _ h1] at h
      by_cases hj:ij.2<(es[o+ij.1]'(by omega)).cells.length
      · rcases hb with hb | hb
        · subst hb
          refine ⟨rfl,h1,?_⟩
          rw [at_append,hM]
          show AV.at (((l++ys).getD ij.1 .any).cells.getD ij.2 .any) r=AV.at ((es.getD ij.1 .any).cells.getD ij.2 .any) r
          rw [hget _ h1,getD_lt (show ij.1<es.length by omega)]
          simp only [Nat.zero_add]
        · exfalso
          have hbb:=bears_cells (bearsL_get hb (o+ij.1) (by omega)) hj
          rw [getD_lt hj] at h
          have hnn:=bears_node hbb
          rcases hrow0 with ⟨_,h0⟩ | ⟨k,Et,arr,_,_,_,_,_,_,h6⟩
          · subst h0;simp at hon;omega
          · rcases ((h6 (o+ij.1) (by omega)).2 ij.2 hj).1 with ⟨q,_⟩ | ⟨_,q⟩
            · rw [hnn] at q;cases q
            · rw [rs_at q r] at h;cases h
      · rw [getD_ge (by omega),any_at] at h;cases h
    · exfalso
      by_cases h2:ij.1<n+ys.length
      · obtain ⟨m,hm⟩:∃ m,ij.1=n+m:=⟨ij.1 - n,by omega⟩
        rw [hm,hget2 m (by omega)] at h
        by_cases hj:ij.2<(ys[m]'(by omega)).cells.length
        · rw [getD_lt hj] at h
          rcases hrow with ⟨_,h0,_⟩ | ⟨k,Et,arr,_,_,_,_,_,_,_,h6,_⟩
          · omega
          · have hz3:=hz2 m (by omega)
            have:=(hC2 m (by omega) ij.2 hj _ (h6 (n+m) (by omega) ij.2 (by omega))).1
            rw [rs_at this r] at h;cases h
        · rw [getD_ge (by omega),any_at] at h;cases h
      · have e0:(l++ys).getD ij.1 .any=.any:=getD_ge (by simp [hlen];omega)
        rw [e0] at h
        have h:(AV.at ((AV.any).cells.getD ij.2 .any) r).isNode=true:=h
        have e:(AV.any).cells.getD ij.2 .any=.any:=by cases ij.2 <;> rfl
        rw [e,any_at] at h;cases h
  have hkb:∀ k,k'=some k→(∃ k0,ρ s p=some k0∧k0.b=k.b)∨w.heap.size≤k.b:=by
    intro k hk
    rcases hrow with ⟨h,_⟩ | ⟨k1,Et,arr,h,_,_,_,_,_,_,_,_,_,_,_,_,h9⟩
    · rw [h] at hk;cases hk
    · rw [h] at hk;cases hk;exact h9
  have hworld:w'.os=w.os∧w'.tape=w.tape∧w'.output=w.output∧w.heap.size≤w'.heap.size∧∀ b,(∀ k,k'=some k→b≠k.b)→b<w.heap.size→w'.heap[b]? = w.heap[b]?:=by
    rcases hrow with ⟨_,_,rfl,_⟩ | ⟨k1,Et,arr,h,_,_,_,_,_,_,_,h1,h2,h3,h4,h5,_⟩
    · exact ⟨rfl,rfl,rfl,Nat.le_refl _,fun _ _ _=>rfl⟩
    · exact ⟨h1,h2,h3,h4,fun b hb hl=>h5 b (hb k1 h) hl⟩
  obtain ⟨wos,wtp,wout,wsz,wbl⟩:=hworld
  have hother:∀ s0 T0 p0 k0 k,st.mem s0=some T0→(T0.at p0).isNode=true→ρ s0 p0=some k0→k'=some k→k0.b=k.b→s0=s∧p0=p:=by
    intro s0 T0 p0 k0 k h1 h2 h3 hk he
    rcases hkb k hk with ⟨k2,g1,g2⟩ | g
    · exact c.mem.inj s0 T0 p0 k0 s R p k2 h1 h2 h3 hR hMn g1 (he.trans g2.symm)
    · have:=c.mem.lt h1 h2 h3;omega
  have hfree:∀ k,k'=some k→∀ o,I k.b o=none:=by
    intro k hk o
    rcases hkb k hk with ⟨k0,h1,h2⟩ | h
    · rw [← h2];exact c.mem.free s R p k0 hR hMn h1 o
    · exact free_new c.held h o
  have hheld:Held I w':=⟨fun b o x h=>by
    have h1:=c.held.cell b o x h
    refine ⟨?_,h1.2⟩
    refine (World.cell?_of_block (w:=w) (a:=⟨b,o,none⟩) (wbl b (fun k hk e=>?_) (c.held.lt h))).trans h1.1
    rw [e,hfree k hk] at h;(cases h),fun b cs h=>by
      obtain ⟨t,f,x,h1,h2⟩:=c.held.base b cs h
      exact ⟨t,f,x,(wbl b (fun k hk e=>by rw [e,hfree k hk] at h2;cases h2) (c.held.lt h2)).trans h1,h2⟩⟩
  let mem':Nat→Option AV:=fun i=>if i=d then some (.tr z (l++ys)) else rmvM st.mem s p R i
  have hst:(st.grow s p R d).setMem d (.tr z (l++ys))={ fr:=fun i=>(st.fr i).mapH (growF s p d),mem:=mem' }:=by
    have hfr:((st.grow s p R d).setMem d (.tr z (l++ys))).fr=fun i=>(st.fr i).mapH (growF s p d):=by
      show (((st.mapF (growF s p d)).rmv s p R)).fr=_
      rw [rmv_fr];rfl
    have hmm:((st.grow s p R d).setMem d (.tr z (l++ys))).mem=mem':=by
      funext i
      simp only [St.setMem,St.grow,St.del,mem']
      by_cases e:i=d
      · rw [if_pos e,if_pos e]
      · rw [if_neg e,if_neg e,if_neg e,rmv_mem];rfl
    generalize (st.grow s p R d).setMem d (.tr z (l++ys))=Z at hfr hmm
    cases Z
    simp only at hfr hmm
    rw [hfr,hmm]
  have horig:∀ t T r k,mem' t=some T→(T.at r).isNode=true→growP ρ s p d k' t r=some k →
      (t=d∧r=[]∧k'=some k)∨∃ s0 T0 p0,st.mem s0=some T0∧(T0.at p0).isNode=true∧ρ s0 p0=some k∧((s0=s∧t=d∧r≠[]∧p0=p++r)∨(t≠d∧t=s0∧r=p0∧(t≠s∨¬ p <+: r))):=by
    intro t T r k h1 h2 h3
    simp only [mem'] at h1
    by_cases e:t=d
    · rw [if_pos e] at h1
      cases h1
      subst e
      cases r with
      | nil=>rw [growP_nil] at h3;exact .inl ⟨rfl,rfl,h3⟩
      | cons ij r =>
        rw [growP_cons] at h3
        obtain ⟨_,_,q⟩:=hcell ij r h2
        exact .inr ⟨s,R,p++ij :: r,hR,by rw [← q];exact h2,h3,.inl ⟨rfl,rfl,by simp,rfl⟩⟩
    · rw [if_neg e] at h1
      rw [growP_ne e] at h3
      obtain ⟨T0,g1,g2,g3⟩:=hold t T r h1 h2
      exact .inr ⟨t,T0,r,g1,g2,h3,.inr ⟨e,rfl,rfl,g3⟩⟩
  have hsep:Sep I (growP ρ s p d k') w' mem':=by
    refine ⟨fun t T r h1=>?_,fun t T r k h1 h2 h3 o=>?_,fun t T r k t2 T2 r2 k2 h1 h2 h3 h1' h2' h3' he=>?_⟩
    · simp only [mem'] at h1
      by_cases e:t=d
      · rw [if_pos e] at h1
        cases h1
        subst e
        cases r with
        | nil =>
          show RowOk I (growP ρ s p t k' t) w' [] z (l++ys)
          have hll:(l++ys).length=n+ys.length:=by simp [hlen]
          rcases hrow with ⟨h,h0,_⟩ | ⟨k1,Et,arr,h,_,h2,h3,h4,h5,h6,h7,_⟩
          · exact .inl ⟨by rw [growP_nil];exact h,List.eq_nil_of_length_eq_zero (by omega)⟩
          · refine .inr ⟨k1,Et,arr,by rw [growP_nil];exact h,h2,by omega,h4,h5,h6,fun i hi=>?_⟩
            by_cases h1:i<n
            · have e1:(l++ys)[i]=es[o+i]'(by omega):=by rw [← hget i h1,getD_lt hi]
              have hz:=hez (o+i) (by omega)
              have e2:((l++ys)[i]).cells.length=z:=by rw [e1];exact hz
              refine ⟨e2,fun j hj=>?_⟩
              have hj':j<z:=by omega
              have h8:=hC1 i h1 hz j hj' _ (h7 i (by omega) j hj')
              have e3:((l++ys)[i]).cells[j]=(es[o+i]'(by omega)).cells[j]'(by omega):=by simp only [e1]
              rw [e3]
              show CellOk I (growP ρ s p t k' t [(i,j)]) _ _∧_
              rw [growP_cons]
              refine ⟨?_,h8.2⟩
              rcases hb with rfl | hb
              · simpa using h8.1
              · have hbb:=bears_node (bears_cells (bearsL_get hb (o+i) (by omega)) (show j<_ by omega))
                rcases h8.1 with ⟨q,_⟩ | ⟨q1,q2⟩
                · rw [hbb] at q;cases q
                · exact .inr ⟨q1,q2⟩
            · obtain ⟨m,rfl⟩:∃ m,i=n+m:=⟨i - n,by omega⟩
              have hm:m<ys.length:=by omega
              have e1:(l++ys)[n+m]=ys[m]:=by rw [← hget2 m hm,getD_lt hi]
              have hz:=hz2 m hm
              refine ⟨by rw [e1];exact hz,fun j hj=>?_⟩
              have hj':j<(ys[m]).cells.length:=by rw [← e1];exact hj
              have h8:=hC2 m hm j hj' _ (h7 (n+m) (by omega) j (by omega))
              have e3:((l++ys)[n+m]).cells[j]=(ys[m]).cells[j]:=by simp only [e1]
              rw [e3]
              exact ⟨rs_cell h8.1 _,h8.2⟩
        | cons ij r =>
          cases hn:((AV.tr z (l++ys)).at (ij :: r)).isNode with
          | false=>exact node_false hn
          | true =>
            obtain ⟨_,_,q⟩:=hcell ij r hn
            rw [q]
            refine node_shift (π:=ρ s) (p:=p++ij :: r) ?_ (fun r'=>by show growP ρ s p t k' t (ij :: (r++r'))=_;rw [growP_cons];simp)
            refine NodeOk.mono (w:=w) (fun _ _ _ h=>h) (fun k hk1 hk2=>?_) (c.mem.row s R _ hR)
            refine wbl _ (fun k2 hk3 he=>?_) (c.mem.lt hR hk1 hk2)
            obtain ⟨_,q2⟩:=hother s R _ k k2 hR hk1 hk2 hk3 he
            have:=congrArg List.length q2
            simp at this
      · rw [if_neg e] at h1
        cases hn:(T.at r).isNode with
        | false=>exact node_false hn
        | true =>
          obtain ⟨T0,g1,g2,g3⟩:=hold t T r h1 hn
          rw [growP_ne e]
          refine NodeOk.mono (w:=w) (fun _ _ _ h=>h) (fun k hk1 hk2=>?_) (m1.row t T r h1)
          refine wbl _ (fun k2 hk3 he=>?_) (c.mem.lt g1 g2 hk2)
          obtain ⟨q1,q2⟩:=hother t T0 r k k2 g1 g2 hk2 hk3 he
          rcases g3 with g3 | g3
          · exact g3 q1
          · exact g3 (by rw [q2];exact List.prefix_refl _)
    · rcases horig t T r k h1 h2 h3 with ⟨_,_,h4⟩ | ⟨s0,T0,p0,g1,g2,g3,_⟩
      · exact hfree k h4 o
      · exact c.mem.free s0 T0 p0 k g1 g2 g3 o
    · rcases horig t T r k h1 h2 h3 with ⟨q1,q2,h4⟩ | ⟨s0,T0,p0,g1,g2,g3,g4⟩
      · rcases horig t2 T2 r2 k2 h1' h2' h3' with ⟨q1',q2',_⟩ | ⟨s0,T0,p0,g1,g2,g3,g4⟩
        · exact ⟨q1.trans q1'.symm,q2.trans q2'.symm⟩
        · exfalso
          obtain ⟨x1,x2⟩:=hother s0 T0 p0 k2 k g1 g2 g3 h4 he.symm
          rcases g4 with ⟨_,_,g5,g6⟩ | ⟨_,g5,g6,g7⟩
          · rw [x2] at g6
            exact g5 (List.append_cancel_left (by rw [List.append_nil];exact g6.symm:p++r2=p++[]))
          · rcases g7 with g7 | g7
            · exact g7 (g5.trans x1)
            · exact g7 (by rw [g6,x2];exact List.prefix_refl _)
      · rcases horig t2 T2 r2 k2 h1' h2' h3' with ⟨q1',q2',h4⟩ | ⟨s0',T0',p0',g1',g2',g3',g4'⟩
        · exfalso
          obtain ⟨x1,x2⟩:=hother s0 T0 p0 k k2 g1 g2 g3 h4 he
          rcases g4 with ⟨_,_,g5,g6⟩ | ⟨_,g5,g6,g7⟩
          · rw [x2] at g6
            exact g5 (List.append_cancel_left (by rw [List.append_nil];exact g6.symm:p++r=p++[]))
          · rcases g7 with g7 | g7
            · exact g7 (g5.trans x1)
            · exact g7 (by rw [g6,x2];exact List.prefix_refl _)
        · obtain ⟨x1,x2⟩:=c.mem.inj s0 T0 p0 k s0' T0' p0' k2 g1 g2 g3 g1' g2' g3' he
          subst x1
          subst x2
          rcases g4 with ⟨a1,a2,a3,a4⟩ | ⟨a1,a2,a3,a4⟩
          · rcases g4' with ⟨b1,b2,b3,b4⟩ | ⟨b1,b2,b3,b4⟩
            · exact ⟨a2.trans b2.symm,List.append_cancel_left (a4.symm.trans b4)⟩
            · exfalso
              rcases b4 with b4 | b4
              · exact b4 (b2.trans a1)
              · exact b4 (by rw [b3,a4];exact List.prefix_append _ _)
          · rcases g4' with ⟨b1,b2,b3,b4⟩ | ⟨b1,b2,b3,b4⟩
            · exfalso
              rcases a4 with a4 | a4
              · exact a4 (a2.trans b1)
              · exact a4 (by rw [a3,b4];exact List.prefix_append _ _)
            · exact ⟨a2.trans b2.symm,a3.trans b3.symm⟩
  have hlo:∀ b,Owns (growP ρ s p d k') mem' b→E.w0.heap.size≤b∨E.lent b:=by
    rintro b ⟨t,T,r,k,h1,h2,h3,rfl⟩
    rcases horig t T r k h1 h2 h3 with ⟨_,_,h4⟩ | ⟨s0,T0,p0,g1,g2,g3,_⟩
    · rcases hkb k h4 with ⟨k0,q1,q2⟩ | q
      · rw [← q2];exact c.lo _ ⟨s,R,p,k0,hR,hMn,q1,rfl⟩
      · exact .inl (Nat.le_trans c.below.size q)
    · exact c.lo _ ⟨s0,T0,p0,k,g1,g2,g3,rfl⟩
  show Conc N E ((st.grow s p R d).setMem d (.tr z (l++ys))) a w' I (growP ρ s p d k')
  rw [hst]
  refine c.remap (growF s p d) (fun s' p' s1 p1 h=>growF_ok s' p' s1 p1 h) hheld (fun _ _ _ h=>h) ⟨wos.trans c.below.os,wtp.trans c.below.tape,wout.trans c.below.output,Nat.le_trans c.below.size wsz,fun b hb hl=>?_⟩ c.keeps hsep hlo ?_
  · rw [wbl b (fun k hk e=>?_) (Nat.lt_of_lt_of_le hb c.below.size)]
    · exact c.below.block b hb hl
    · rcases hkb k hk with ⟨k0,q1,q2⟩ | q
      · rcases c.lo _ ⟨s,R,p,k0,hR,hMn,q1,rfl⟩ with q3 | q3
        · omega
        · rw [e,← q2] at hl;exact hl q3
      · have:=c.below.size;omega
  · intro i c' T q h1 h2 h3
    simp only [mem'] at h2
    by_cases e:i=d
    · subst e;rw [hnp] at h1;cases h1
    · rw [if_neg e] at h2
      rw [growP_ne e]
      unfold rmvM at h2
      by_cases e2:i=s
      · rw [if_pos e2] at h2
        subst e2
        cases p with
        | nil=>cases h2
        | cons ij p =>
          cases h2
          exact c.fix i c' R q h1 hR (topPos_setP (by simp) h3)
      · rw [if_neg e2] at h2
        exact c.fix i c' T q h1 h2 h3
end
end Go.AM
namespace Go.AM
open Go.RowKit (Below)

section
variable {P:Program} {N:Nat} {E:Entry} {st:St} {a:Act} {w w':World} {I I':Gh} {ρ ρ':Pl} {mem mem':Nat→Option AV}
variable {d:Option Nat} {t:TypeId} {pos:String} {after:Array Edge} {g:Option (Nat×Bool)} {K:St→Prop} {Q:Exit→Act→World→Prop}

theorem Conc.sprout (c:Conc N E st a w I ρ) {d:Nat} (hnp:E.args[d]? = none) {ys:List AV} {z:Nat} {k':Option Plc} {v':Value} {C:Nat→Nat→Value→Prop} (hrow:NewRow w w' (fun _=>False) z ys.length C k' v')
  (hz2:∀ i (hi:i<ys.length),(ys[i]).cells.length=z) (hC2:∀ i (hi:i<ys.length) j (hj:j<(ys[i]).cells.length) u,C i j u→RepS I ((ys[i]).cells[j]) u∧u.oneCell'=true) :
  Conc N E ((st.kill d).setMem d (.tr z ys)) a w' I (fun s=>if s=d then (fun p=>if p=[] then k' else none) else ρ s):=by
 let π:Path→Option Plc:=fun p=>if p=[] then k' else none
 let ρ1:Pl:=fun s=>if s=d then π else ρ s
 have h1:∀ s,s≠d→ρ1 s=ρ s:=fun s h=>by simp [ρ1,h]
 have h2:ρ1 d=π:=by simp [ρ1]
 have hold:∀ b,Owns ρ1 (st.kill d).mem b→b<w.heap.size:=by
  intro b hb
  obtain ⟨s,T',p,k,q1,q2,q3,rfl⟩:=hb
  obtain ⟨hne,q1⟩:=kill_mem_of q1
  rw [h1 s hne] at q3
  exact c.mem.lt q1 q2 q3
 rcases hrow with ⟨rfl,h0,rfl,_⟩ | ⟨k,Et,arr,rfl,_,h3,h4,h5,h6,h7,h8,ho,ht,hout,hsz,hbl,hk⟩
 ·have hys:ys=[]:=List.eq_nil_of_length_eq_zero h0
  subst hys
  refine (c.kill d h1).setNew (n:=w'.heap.size) h2 (kill_mem_self st d) hnp c.below.size ⟨⟨fun s T p hs=>?_,fun s T p k hs q1 q2=>?_,fun s T p k s' T' p' k' hs q1 q2=>?_⟩,fun p k q1 q2=>?_⟩ hold
  ·(try simp only at hs);split at hs <;> cases hs
   cases p with
   | nil=>exact .inl ⟨by simp [π],rfl⟩
   | cons ij p=>exact node_false (tr_leaf (I:=I) (fun i hi=>by cases hi) ij p)
  ·simp [π] at q2
  ·simp [π] at q2
  ·simp [π] at q2
 ·have hk:w.heap.size≤k.b:=hk.elim False.elim id
  have hgrow:Grow I w I w':=⟨⟨fun b o x hx=>by
   have:=c.held.cell b o x hx
   have hlt:=c.held.lt hx
   exact ⟨(World.cell?_of_block (w:=w) (a:=⟨b,o,none⟩) (hbl b (by omega) hlt)).trans this.1,this.2⟩,fun b cs h=>by
   obtain ⟨t,f,x,h1,h2⟩:=c.held.base b cs h
   exact ⟨t,f,x,(hbl b (by have:=c.held.lt h2;omega) (c.held.lt h2)).trans h1,h2⟩⟩,⟨ho,ht,hout,hsz,fun b hb _=>hbl b (by omega) hb⟩,fun _ _ _=>rfl⟩
  have hrep:∀ i (hi:i<ys.length),(ys[i]).cells.length=z∧∀ j (hj:j<(ys[i]).cells.length),RepS I ((ys[i]).cells[j]) (arr.getD (k.off+i*z+j) undef)∧(arr.getD (k.off+i*z+j) undef).oneCell'=true:=fun i hi=>⟨hz2 i hi,fun j hj=>hC2 i hi j hj _ (h8 i hi j (by have:=hz2 i hi;omega))⟩
  have hπ:π=fun p=>if p=[] then some k else none:=rfl
  have hT:NewTree I π w' w.heap.size (.tr z ys):=by
   rw [hπ]
   refine leafTree c.held hk (tr_leaf (I:=I) fun i hi j hj=>⟨_,((hrep i hi).2 j hj).1⟩) ?_
   refine .inr ⟨k,Et,arr,rfl,h3,h4,h5,h6,h7,fun i hi=>⟨(hrep i hi).1,fun j hj=>?_⟩⟩
   exact ⟨rs_cell ((hrep i hi).2 j hj).1 _,((hrep i hi).2 j hj).2⟩
  exact ((c.grow hgrow).kill d h1).setNew (n:=w.heap.size) h2 (kill_mem_self st d) hnp c.below.size hT hold

theorem setEl_self {z:Nat} {e x:AV} (h:x.cells.length=z):setEl z e 0 x=x:=by unfold setEl;rw [decide_eq_true (show 0=0∧_ from ⟨rfl,h⟩)]
theorem setCells_nil (xs:List AV) (i:Nat):∀ (j:Nat) (M:AV),setCells M [] i j xs=setAts M i j xs:=by
 induction xs with
 | nil=>intro j M;rfl
 | cons y r ih=>intro j M;exact ih (j+1) _

theorem grabL_sound {ρ0:Pl} {s z:Nat} {k:Plc} (hkz:k.z=z):∀ (xs pre:List AV) (st:St) (ρ:Pl) (K:List AV→St→Prop),Conc N E (st.setMem s (.tr z (pre++xs.map blankE))) a w I ρ→grabL s [] pre.length xs st K→(∀ t,t≠s→ρ t=ρ0 t)→ρ s []=some k →
  (∀ m (hm:m<xs.length),(xs[m]).cells.length=z∧∀ q (hq:q<(xs[m]).cells.length),∃ v,w.cell? ⟨k.b,k.off+(pre.length+m)*z+q,none⟩=some v∧Rep I ρ0 ((xs[m]).cells[q]) v∧v.oneCell'=true) →
  ∃ xs' st' ρ',K xs' st'∧Conc N E (st'.setMem s (.tr z (pre++xs'))) a w I ρ'∧(∀ t,t≠s→ρ' t=ρ0 t)∧ρ' s []=some k∧xs'.length=xs.length
 | [],pre,st,ρ,K,c,h,hoff,hk,_=>⟨[],st,ρ,h,c,hoff,hk,rfl⟩
 | x :: r,pre,st,ρ,K,c,h,hoff,hk,hall=>by
  obtain ⟨hxz,hx⟩:=hall 0 (by simp)
  simp only [Nat.add_zero,List.getElem_cons_zero] at hxz hx
  have hbz:(blankE x).cells.length=z:=by rw [blankE_cells,List.length_map];exact hxz
  have hi:pre.length<(pre++(x :: r).map blankE).length:=by simp
  have hgd:(pre++(x :: r).map blankE).getD pre.length .any=blankE x:=by
   rw [getD_lt hi,List.getElem_append_right (Nat.le_refl _)];simp
  obtain ⟨x',st1,ρ1,hK,c1,hoff1,hk1,hl1,hs1,hm1,hkind⟩:=grabE_sound (ρ0:=ρ0) (k:=k) (P0:=[]) (i:=pre.length) (j:=0) (x:=x) c h hoff rfl hk (fun q hq=>by
   obtain ⟨v,g1,g2,g3⟩:=hx q hq
   refine ⟨⟨hi,?_⟩,?_,v,by rw [hkz,Nat.zero_add];exact g1,g2,g3⟩
   ·have e1:(pre++(x :: r).map blankE)[pre.length]=blankE x:=by rw [← getD_lt hi];exact hgd
    show 0+q<((pre++(x :: r).map blankE)[pre.length]).cells.length
    rw [e1,hbz];omega
   ·show (((pre++(x :: r).map blankE).getD pre.length .any).cells.getD (0+q) .any)=_
    have hq2:q<(blankE x).cells.length:=by omega
    rw [hgd,Nat.zero_add,getD_lt hq2]
    simp only [blankE_cells,List.getElem_map])
  have hfin:setCells (.tr z (pre++(x :: r).map blankE)) [] pre.length 0 x'.cells=.tr z ((pre++[x'])++r.map blankE):=by
   rw [setCells_nil]
   have e0:pre++(x :: r).map blankE=(pre++(x :: r).map blankE).set pre.length (blankE x):=by
    apply List.ext_getElem (by simp)
    intro m h1 h2
    rw [List.getElem_set]
    split
    ·rename_i e;subst e
     rw [← getD_lt h1];exact hgd
    ·rfl
   have hsy:∀ y∈(blankE x).cells,Sing y:=by
    intro y hy
    rw [blankE_cells] at hy
    obtain ⟨y0,hy0,rfl⟩:=List.mem_map.1 hy
    obtain ⟨q,hq,rfl⟩:=List.mem_iff_getElem.1 hy0
    obtain ⟨v,g1,g2,g3⟩:=hx q hq
    refine blank_sing (sing_of fun fs e=>?_)
    rw [e] at g2
    obtain ⟨arr,rfl,_⟩:=rep_agg g2
    simp [Value.oneCell'] at g3
   have:=fill_el (z:=z) (j:=0) (e:=blankE x) hbz hsy hs1 (by omega) hkind (by omega)
   rw [setEl_self hbz,setEl_self (by omega:x'.cells.length=z)] at this
   rw [e0,setAts_tr hi,this]
   congr 1
   rw [List.append_assoc]
   apply List.ext_getElem
   ·simp
   intro m h1 h2
   rw [List.getElem_set]
   split
   ·rename_i e;subst e
    rw [List.getElem_append_right (Nat.le_refl _)];simp
   ·rename_i e
    by_cases hm:m<pre.length
    ·rw [List.getElem_append_left hm,List.getElem_append_left hm]
    ·rw [List.getElem_append_right (by omega),List.getElem_append_right (by omega)]
     obtain ⟨q,hq⟩:∃ q,m - pre.length=q+1:=⟨m - pre.length - 1,by omega⟩
     simp only [hq,List.map_cons,List.getElem_cons_succ,List.singleton_append]
  rw [hfin] at c1
  have hlen1:(pre++[x']).length=pre.length+1:=by simp
  obtain ⟨xs',st2,ρ2,hK2,c2,hoff2,hk2,hl2⟩:=grabL_sound hkz r (pre++[x']) st1 ρ1 _ c1 (by rw [hlen1];exact hK) hoff1 (hk1) (fun m hm=>by
   obtain ⟨g1,g2⟩:=hall (m+1) (by simpa using hm)
   simp only [List.getElem_cons_succ] at g1 g2
   refine ⟨g1,fun q hq=>?_⟩
   have e:(pre++[x']).length+m=pre.length+(m+1):=by rw [hlen1];omega
   rw [e];exact g2 q hq)
  exact ⟨x' :: xs',st2,ρ2,hK2,by simpa using c2,hoff2,hk2,by simp [hl2]⟩

theorem appE_sound {ρ0:Pl} {D z:Nat} {l ys:List AV} {st1:St} {KA:AV→St→Prop} {k':Option Plc} {v':Value} {kb:Nat→Prop} {C:Nat→Nat→Value→Prop} {w0:World} (h:appE st1 D z l ys KA)
  (c:Conc N E (st1.setMem D (.tr z (l++ys.map blankE))) a w I ρ) (hoff:∀ t,t≠D→ρ t=ρ0 t) (hk:ρ D []=k') (hrow:NewRow w0 w kb z (l.length+ys.length) C k' v')
  (hC:∀ m (hm:m<ys.length),(ys[m]).cells.length=z∧∀ q (hq:q<(ys[m]).cells.length) u,C (l.length+m) q u→Rep I ρ0 ((ys[m]).cells[q]) u∧u.oneCell'=true) :
  ∃ st2 ρ2,KA (.ref D [] z 0 (l.length+ys.length)) st2∧Conc N E st2 a w I ρ2∧Rep I ρ2 (.ref D [] z 0 (l.length+ys.length)) v':=by
 rcases hrow with ⟨rfl,h0,_,x,rfl⟩ | ⟨k,Et,arr,rfl,rfl,h3,h4,h5,h6,h7,h8,_⟩
 ·have hy:ys=[]:=List.eq_nil_of_length_eq_zero (by omega)
  have hl:l=[]:=List.eq_nil_of_length_eq_zero (by omega)
  subst hy;subst hl
  exact ⟨_,ρ,h,c,.ref0 D [] z 0 x⟩
 ·obtain ⟨xs',st2,ρ2,hK,c2,_,hk2,hl2⟩:=grabL_sound (ρ0:=ρ0) (k:=k) h3 ys l st1 ρ _ c h hoff hk (fun m hm=>by
   obtain ⟨g1,g2⟩:=hC m hm
   refine ⟨g1,fun q hq=>?_⟩
   have hq':q<z:=by omega
   have hlt:=ix_lt (n:=k.cap) (show l.length+m<k.cap by omega) hq'
   have hlt2:k.off+(l.length+m)*z+q<arr.size:=by omega
   exact ⟨_,cell_arr h6 hlt2,g2 q hq _ (h8 (l.length+m) (by omega) q hq')⟩)
  refine ⟨_,ρ2,hK,c2,?_⟩
  have:=Rep.ref (I:=I) (ρ:=ρ2) D [] z 0 (l.length+ys.length) k hk2 h3 (by omega)
  simpa using this

theorem append_sound (c:Conc N E st a w I ρ) (hd:∀ t,d=some t→t<N) (hnp:E.args[d.getD 0]? = none) {x y:Operand} {ty:TypeId}
    (h:optP (elemT P ty) (fun e=>vc ((zeroT P e).map List.length=some (sizeT P e)) (srcP st.mem (sizeT P e) (st.ev y) (fun ys=>appP st (d.getD 0) (sizeT P e) (bytesT P e) (st.ev x) ys (fun v st'=>valP v (fun v=>K (st'.put d v)) .mk) .mk) .mk) .mk) .mk) :
    (⟨d,.call ⟨.builtin .append,#[x,y],#[ty,ty]⟩,t,pos,after,g⟩:Oper).wp P a w (AOut N E K) Q:=by
  cases he:elemT P ty with
  | none=>rw [he] at h;exact h.elim
  | some e =>
    rw [he] at h
    obtain ⟨h1,h2⟩:=h
    obtain ⟨hu,inf,hi⟩:=elemT_spec he
    obtain ⟨zv,hzv,hzs⟩:∃ z,inf.zero=some z∧z.cells.size=inf.size:=by
      unfold zeroT at h1
      rw [hi] at h1
      simp only [Option.map_map,Option.map_eq_some_iff,Function.comp] at h1
      obtain ⟨z,hz,hl⟩:=h1
      exact ⟨z,hz,by simpa [sizeT,hi] using hl⟩
    have hbt:bytesT P e=inf.bytes:=by simp [bytesT,hi]
    have hsz:sizeT P e=inf.size:=by simp [sizeT,hi]
    rw [hsz] at h2
    rw [hbt] at h2
    obtain ⟨ys,news,h3,src⟩:=srcP_sound (w:=w) c.held c.mem h2 (c.ev y)
    have fin:∀ {st2:St} {ρ2:Pl} {v:AV} {v':Value} {w':World},(Builtin.append_ #[ty,ty] t #[a.eval x,a.eval y]).run P w=.ok v' w'→K (st2.put d v)→Conc N E st2 a w' I ρ2→Rep I ρ2 v v' →
        (⟨d,.call ⟨.builtin .append,#[x,y],#[ty,ty]⟩,t,pos,after,g⟩:Oper).wp P a w (AOut N E K) Q:=by
      intro st2 ρ2 v v' w' hr k hc hrep
      refine wp_value (x:=v') (w':=w') ?_ ⟨_,k,I,ρ2,hc.put d hd hrep⟩
      simp [execOp,resolve,invoke,builtin,hr]
    have hblank:∀ m (hm:m<(ys.map blankE).length),((ys.map blankE)[m]).cells.length=inf.size∧∀ j (hj:j<((ys.map blankE)[m]).cells.length) u,news[m*inf.size+j]? = some u→RepS I (((ys.map blankE)[m]).cells[j]) u∧u.oneCell'=true:=by
      intro m hm
      have hm':m<ys.length:=by simpa using hm
      obtain ⟨g1,g2⟩:=src.rep m hm'
      have e1:(ys.map blankE)[m]=blankE (ys[m]):=by simp
      have hl:((ys.map blankE)[m]).cells.length=(ys[m]).cells.length:=by rw [e1,blankE_cells,List.length_map]
      refine ⟨hl.trans g1,fun j hj u hu=>?_⟩
      have hj':j<(ys[m]).cells.length:=by omega
      obtain ⟨u',q1,q2⟩:=g2 j hj'
      rw [hu] at q1;cases q1
      have e2:((ys.map blankE)[m]).cells[j]=blankC ((ys[m]).cells[j]):=by simp only [e1,blankE_cells,List.getElem_map]
      rw [e2]
      refine ⟨?_,src.one u (List.mem_of_getElem? hu)⟩
      unfold blankC
      cases hb:((ys[m]).cells[j]).bears with
      | true=>exact .any _
      | false=>exact nb_stat q2 hb
    have hx:=c.ev x
    unfold appP at h3
    split at h3
    · rename_i hxe
      rw [hxe] at hx
      have hx:=rep_v hx
      obtain ⟨⟨q1,q2,q3⟩,k⟩:=h3
      obtain ⟨v',w',k',hr,hrow⟩:=append_phys (P:=P) (t:=ty) (ty:=t) (n:=0) (v:=a.eval x) (kb:=fun _=>False) (old:=fun _ _=>undef) hu hi hzv hzs q3 src (by omega) q2 (.inl ⟨rfl,none,hx⟩)
      rw [Nat.zero_add] at hrow
      have c1:=c.sprout (d:=d.getD 0) (ys:=ys.map blankE) (z:=inf.size) hnp (by simpa using hrow) (fun i hi=>(hblank i hi).1) (fun i hi j hj u hC=>(hblank i hi).2 j hj u (by simpa using hC))
      obtain ⟨st2,ρ2,hK,c2,hrep⟩:=appE_sound (ρ0:=ρ) (l:=[]) (ys:=ys) (k':=k') (w0:=w) (v':=v') (kb:=fun _=>False) (C:=fun i j u=>if i<0 then u=undef else news[(i - 0)*inf.size+j]? = some u) k (by simpa using c1) (fun t ht=>by simp [ht]) (by simp) (by simpa using hrow) (fun m hm=>by
        obtain ⟨g1,g2⟩:=src.rep m hm
        refine ⟨g1,fun q hq u hC=>?_⟩
        have hC:news[m*inf.size+q]? = some u:=by simpa using hC
        obtain ⟨u',q4,q5⟩:=g2 q hq
        rw [hC] at q4;cases q4
        exact ⟨q5,src.one u (List.mem_of_getElem? hC)⟩)
      exact fin hr hK c2 hrep
    · rename_i s p z' o n hxe
      rw [hxe] at hx
      obtain ⟨⟨rfl,q1,q2,q3⟩,k⟩:=h3
      cases hR:st.mem s with
      | none=>rw [hR] at k;exact k.elim
      | some R =>
        rw [hR] at k
        have k:appN st (d.getD 0) inf.size s p o n R ys (fun v st'=>valP v (fun v=>K (st'.put d v)) .mk) .mk:=k
        unfold appN at k
        split at k
        · rename_i w1 es hT
          obtain ⟨⟨rfl,q4,q5⟩,k⟩:=k
          have k:appE (st.grow s p R (d.getD 0)) (d.getD 0) inf.size ((es.drop o).take n) ys (fun v st'=>valP v (fun v=>K (st'.put d v)) .mk):=k
          have hlen:((es.drop o).take n).length=n:=by simp;omega
          have hrow0:=c.mem.row s R p hR
          rw [hT] at hrow0
          obtain ⟨old,hold,hv⟩:∃ old:Nat→Nat→Value,(∀ i (hi:i<n) (hz:(es[o+i]'(by omega)).cells.length=inf.size) j (hj:j<inf.size),CellOk I (ρ s (p++[(o+i,j)])) ((es[o+i]'(by omega)).cells[j]'(by omega)) (old i j)∧(old i j).oneCell'=true) ∧
              ((n=0∧∃ x',a.eval x=.slice x' 0 0)∨∃ b off cap E cur,a.eval x=.slice (some ⟨b,off,none⟩) n cap∧(∃ k,ρ s p=some k∧k.b=b)∧n≤cap∧cap≤maxLen∧w.heap[b]? = some (.cells cur E (0,0))∧off+cap*inf.size≤cur.size∧∀ i,i<n→∀ j,j<inf.size→cur.getD (off+i*inf.size+j) undef=old i j):=by
            rcases rep_ref hx with ⟨k1,g1,g2,g3,g4⟩ | ⟨rfl,x',g4⟩
            · rcases hrow0 with ⟨g5,_⟩ | ⟨k2,Et,arr,g5,g6,g7,g8,g9,g10,g11⟩
              · rw [g1] at g5;cases g5
              · rw [g1] at g5;cases g5
                have hmul:∀ i,k1.off+o*inf.size+i*inf.size=k1.off+(o+i)*inf.size:=fun i=>by rw [Nat.add_mul];omega
                refine ⟨fun i j=>arr.getD (k1.off+(o+i)*inf.size+j) undef,fun i hi hz j hj=>(g11 (o+i) (by omega)).2 j (by omega),.inr ⟨k1.b,k1.off+o*inf.size,k1.cap - o,Et,arr,g4,⟨k1,g1,rfl⟩,by omega,by omega,g9,?_,fun i hi j hj=>by rw [hmul]⟩⟩
                have:o*inf.size+(k1.cap - o)*inf.size=k1.cap*inf.size:=by rw [← Nat.add_mul];congr 1;omega
                omega
            · exact ⟨fun _ _=>undef,fun i hi=>by omega,.inl ⟨rfl,x',g4⟩⟩
          obtain ⟨v',w',k',hr,hrow⟩:=append_phys (P:=P) (t:=ty) (ty:=t) (n:=n) (v:=a.eval x) (kb:=fun b=>∃ k,ρ s p=some k∧k.b=b) (old:=old) hu hi hzv hzs q3 src q1 q2 hv
          have c1:=c.detach (d:=d.getD 0) (ys:=ys.map blankE) (k':=k') (v':=v') (C:=fun i j u=>if i<n then u=old i j else news[(i - n)*inf.size+j]? = some u) hR hT q4 q5 hnp (by simpa using hrow)
            (fun i hi hz j hj u hC=>by
              rw [if_pos hi] at hC
              subst hC
              exact hold i hi hz j hj)
            (fun i hi=>(hblank i hi).1) (fun i hi j hj u hC=>by
              rw [if_neg (by omega),Nat.add_sub_cancel_left] at hC
              exact (hblank i hi).2 j hj u hC)
          obtain ⟨st2,ρ2,hK,c2,hrep⟩:=appE_sound (ρ0:=ρ) (l:=(es.drop o).take n) (ys:=ys) (k':=k') (w0:=w) (v':=v') (kb:=fun b=>∃ k,ρ s p=some k∧k.b=b) (C:=fun i j u=>if i<n then u=old i j else news[(i - n)*inf.size+j]? = some u) k c1 (fun t ht=>growP_ne ht) growP_nil (by rw [hlen];exact hrow) (fun m hm=>by
            obtain ⟨g1,g2⟩:=src.rep m hm
            refine ⟨g1,fun q hq u hC=>?_⟩
            rw [hlen,if_neg (by omega),Nat.add_sub_cancel_left] at hC
            obtain ⟨u',q6,q7⟩:=g2 q hq
            rw [hC] at q6;cases q6
            exact ⟨q7,src.one u (List.mem_of_getElem? hC)⟩)
          exact fin hr hK c2 hrep
        · exact k.elim
    · exact h3.elim
end
end Go.AM
namespace Go.AM
open Go.RowKit (Below)

section
variable {P:Program} {N:Nat} {E:Entry} {st:St} {a:Act} {w w':World} {I I':Gh} {ρ ρ':Pl} {mem mem':Nat→Option AV}
variable {d:Option Nat} {t:TypeId} {pos:String} {after:Array Edge} {g:Option (Nat×Bool)} {K:St→Prop} {Q:Exit→Act→World→Prop}

theorem build_phys (c:Conc N E st a w I ρ) {t' n:Nat} {ps:Array (Nat×Operand)} {el:TypeId} (he:elemT P t'=some el) (h1:ps.toList.map (·.1)=List.range n) (h2:n*sizeT P el≤65536) (h2':n≤65536)
  (h3:(ps.toList.all fun p=>decide ((st.ev p.2).cells.length=sizeT P el) && knownCells (st.ev p.2))=true) (h4:(zeroT P el).map List.length=some (sizeT P el)) :
  ∃ arr:Array Value,(execOp a.eval ⟨d,.buildSlice t' n ps,t,pos,after,g⟩).run P w=.ok (.value (.slice (some ⟨w.heap.size,0,none⟩) n n)) (w.alloc (.cells arr el))∧arr.size=n*sizeT P el∧(ps.toList.map fun p=>st.ev p.2).length=n ∧
   ∀ i (hi:i<(ps.toList.map fun p=>st.ev p.2).length),((ps.toList.map fun p=>st.ev p.2)[i]).cells.length=sizeT P el∧∀ j (hj:j<((ps.toList.map fun p=>st.ev p.2)[i]).cells.length),Rep I ρ (((ps.toList.map fun p=>st.ev p.2)[i]).cells[j]) (arr.getD (i*sizeT P el+j) undef)∧(arr.getD (i*sizeT P el+j) undef).oneCell'=true:=by
 obtain ⟨hu,inf,hinf⟩:=elemT_spec he
 obtain ⟨z,hz,hzl⟩:∃ z,inf.zero=some z∧z.cells.size=sizeT P el:=by
  unfold zeroT at h4
  rw [hinf] at h4
  simp only [Option.map_map,Option.map_eq_some_iff,Function.comp] at h4
  obtain ⟨z,hz,hl⟩:=h4
  exact ⟨z,hz,by simpa using hl⟩
 obtain ⟨c1,c2,c3,c4⟩:=flat_cells ps.toList st.ev a _ c.ev h3
 have hlen:ps.toList.length=n:=by have:=congrArg List.length h1;simpa using this
 have hrun:=run_buildSlice (w:=w) hu hinf hz hzl (ps.toList.map fun p=>a.eval p.2) (by intro v hv;obtain ⟨p,hp,rfl⟩:=List.mem_map.1 hv;exact c3 p hp) (by simp [hlen];omega)
 have hparts:(((ps.toList.map fun p=>a.eval p.2).zipIdx.map fun p=>(p.2,p.1)).toArray)=ps.map fun p=>(p.1,a.eval p.2):=by
  apply Array.toList_inj.1
  simp only [List.toList_toArray,Array.toList_map]
  apply List.ext_getElem
  ·simp
  ·intro j q1 q2
   simp at q1 q2 ⊢
   have:(ps.toList.map (·.1))[j]? = (List.range n)[j]?:=by rw [h1]
   have hjn:j<n:=by rw [← hlen,Array.length_toList];exact q1
   rw [List.getElem?_range hjn] at this
   simp [q1] at this
   exact this.symm
 rw [hparts] at hrun
 simp only [List.length_map,hlen] at hrun
 have hrun2:(execOp a.eval ⟨d,.buildSlice t' n ps,t,pos,after,g⟩).run P w=.ok (.value (.slice (some ⟨w.heap.size,0,none⟩) n n)) (w.alloc (.cells (ps.toList.flatMap fun p=>(a.eval p.2).cells.toList).toArray el)):=by
  have he':execOp a.eval ⟨d,.buildSlice t' n ps,t,pos,after,g⟩=(do pure (.value (← Instr.buildSlice t' n (ps.map fun p=>(p.1,a.eval p.2))))):=rfl
  rw [he']
  simp only [Sem.run_bind,hrun,Result.andThen_ok,Sem.run_pure]
  congr 2
  simp [List.flatMap_map]
 obtain ⟨arr,harr⟩:∃ arr,arr=(ps.toList.flatMap fun p=>(a.eval p.2).cells.toList).toArray:=⟨_,rfl⟩
 rw [← harr] at hrun2
 have hsz:arr.size=n*sizeT P el:=by rw [harr,List.size_toArray,c2,hlen]
 have hes:(ps.toList.map fun p=>st.ev p.2).length=n:=by simpa using hlen
 have hcell:∀ i (hi:i<(ps.toList.map fun p=>st.ev p.2).length),((ps.toList.map fun p=>st.ev p.2)[i]).cells.length=sizeT P el∧∀ j (hj:j<((ps.toList.map fun p=>st.ev p.2)[i]).cells.length),Rep I ρ (((ps.toList.map fun p=>st.ev p.2)[i]).cells[j]) (arr.getD (i*sizeT P el+j) undef)∧(arr.getD (i*sizeT P el+j) undef).oneCell'=true:=by
  intro i hi
  have hal:=List.all_eq_true.1 h3
  have hip:i<ps.toList.length:=by simpa using hi
  have hi1:=hal _ (List.getElem_mem hip)
  simp only [Bool.and_eq_true,decide_eq_true_eq] at hi1
  have hg:(ps.toList.map fun p=>st.ev p.2)[i]=st.ev (ps.toList[i]).2:=by simp
  rw [hg]
  refine ⟨hi1.1,fun j hj=>?_⟩
  have hj':j<sizeT P el:=by rw [← hi1.1];exact hj
  obtain ⟨r1,r2⟩:=rep_cells (c.ev (ps.toList[i]).2) hi1.2
  have hlt:i*sizeT P el+j<n*sizeT P el:=by
   have:(i+1)*sizeT P el≤n*sizeT P el:=Nat.mul_le_mul_right _ (by omega)
   rw [Nat.add_mul,Nat.one_mul] at this;omega
  have key:∀ (l:List (Nat×Operand)) (i:Nat) (hi:i<l.length),(∀ p∈l,(a.eval p.2).cells.size=sizeT P el)→j<sizeT P el→(l.flatMap fun p=>(a.eval p.2).cells.toList)[i*sizeT P el+j]? = (a.eval (l[i]).2).cells[j]?:=by
   intro l
   induction l with
   | nil=>intro i hi;cases hi
   | cons q r ih =>
    intro i hi hall hj
    simp only [List.flatMap_cons]
    have hq:(a.eval q.2).cells.toList.length=sizeT P el:=by simpa using hall q (by simp)
    cases i with
    | zero=>rw [List.getElem?_append_left (by omega)];simp
    | succ i =>
     rw [List.getElem?_append_right (by rw [hq,Nat.add_mul];omega),hq]
     have e1:(i+1)*sizeT P el+j - sizeT P el=i*sizeT P el+j:=by rw [Nat.add_mul];omega
     rw [e1]
     simpa using ih i (by simpa using hi) (fun p hp=>hall p (by simp [hp])) hj
  have hk:=key ps.toList i hip c3 hj'
  have hjx:j<(a.eval (ps.toList[i]).2).cells.size:=by omega
  have e2:arr.getD (i*sizeT P el+j) undef=(a.eval (ps.toList[i]).2).cells[j]:=by
   rw [harr,Array.getD_eq_getD_getElem?]
   show ((List.toArray _)[_]?).getD undef=_
   rw [List.getElem?_toArray,hk,Array.getElem?_eq_getElem hjx];rfl
  rw [e2]
  exact r2 j hj hjx
 exact ⟨arr,hrun2,hsz,hes,hcell⟩

theorem build_sound (c:Conc N E st a w I ρ) (hd:∀ t,d=some t→t<N) (hnp:E.args[d.getD 0]? = none) {t' n:Nat} {ps:Array (Nat×Operand)} (hb:AV.bearsL (ps.toList.map fun p=>st.ev p.2)=true)
  (h:buildL P st d t' n (ps.toList.map (·.1)) (ps.toList.map fun p=>st.ev p.2) K .mk):(⟨d,.buildSlice t' n ps,t,pos,after,g⟩:Oper).wp P a w (AOut N E K) Q:=by
 unfold buildL at h
 cases he:elemT P t' with
 | none=>rw [he] at h;exact h.elim
 | some el =>
  rw [he] at h
  obtain ⟨⟨h1,h2,h2',h3,h4⟩,k⟩:=h
  obtain ⟨arr,hrun,hsz,hes,hcell⟩:=build_phys (P:=P) (d:=d) (t:=t) (pos:=pos) (after:=after) (g:=g) c he h1 h2 h2' (by rw [List.all_map] at h3;exact h3) h4
  generalize hys:(ps.toList.map fun p=>st.ev p.2)=ys at hb k hes hcell
  have hmx:n≤maxLen:=by simp only [maxLen];omega
  have hblank:∀ i (hi:i<(ys.map blankE).length),((ys.map blankE)[i]).cells.length=sizeT P el∧∀ j (hj:j<((ys.map blankE)[i]).cells.length) u,u=arr.getD (i*sizeT P el+j) undef→RepS I (((ys.map blankE)[i]).cells[j]) u∧u.oneCell'=true:=by
   intro i hi
   have hi':i<ys.length:=by simpa using hi
   obtain ⟨g1,g2⟩:=hcell i hi'
   have e1:(ys.map blankE)[i]=blankE (ys[i]):=by simp
   have hl:((ys.map blankE)[i]).cells.length=(ys[i]).cells.length:=by rw [e1,blankE_cells,List.length_map]
   refine ⟨hl.trans g1,fun j hj u hu=>?_⟩
   subst hu
   have hj':j<(ys[i]).cells.length:=by omega
   obtain ⟨q1,q2⟩:=g2 j hj'
   have e2:((ys.map blankE)[i]).cells[j]=blankC ((ys[i]).cells[j]):=by simp only [e1,blankE_cells,List.getElem_map]
   rw [e2]
   refine ⟨?_,q2⟩
   unfold blankC
   cases hb':((ys[i]).cells[j]).bears with
   | true=>exact .any _
   | false=>exact nb_stat q1 hb'
  have hg:=grow_alloc (w:=w) c.held (.cells arr el)
  have hnr:NewRow w (w.alloc (.cells arr el)) (fun _=>False) (sizeT P el) ys.length (fun i j u=>u=arr.getD (i*sizeT P el+j) undef) (some ⟨w.heap.size,0,sizeT P el,n⟩) (.slice (some ⟨w.heap.size,0,none⟩) n n):=by
   refine .inr ⟨⟨w.heap.size,0,sizeT P el,n⟩,el,arr,rfl,by rw [hes],rfl,by simp only;omega,hmx,heap_new w _,by simp only;omega,fun i _ j _=>by simp only [Nat.zero_add],hg.below.os,hg.below.tape,hg.below.output,hg.below.size,fun b _ hb=>hg.below.block b hb (fun q=>q),.inr (Nat.le_refl _)⟩
  have c1:=c.sprout (d:=d.getD 0) (ys:=ys.map blankE) (z:=sizeT P el) hnp (by simpa using hnr) (fun i hi=>(hblank i hi).1) (fun i hi j hj u hu=>(hblank i hi).2 j hj u hu)
  obtain ⟨st2,ρ2,hK,c2,hrep⟩:=appE_sound (ρ0:=ρ) (l:=[]) (ys:=ys) (w0:=w) (v':=.slice (some ⟨w.heap.size,0,none⟩) n n) (kb:=fun _=>False) (C:=fun i j u=>u=arr.getD (i*sizeT P el+j) undef) (k':=some ⟨w.heap.size,0,sizeT P el,n⟩) k (by simpa using c1) (fun t ht=>by simp [ht]) (by simp) (by simpa using hnr) (fun m hm=>by
   obtain ⟨g1,g2⟩:=hcell m hm
   refine ⟨g1,fun q hq u hC=>?_⟩
   have hC:u=arr.getD (m*sizeT P el+q) undef:=by simpa using hC
   rw [hC]
   exact g2 q hq)
  exact wp_value hrun ⟨_,hK,I,ρ2,c2.put d hd hrep⟩
end
end Go.AM
