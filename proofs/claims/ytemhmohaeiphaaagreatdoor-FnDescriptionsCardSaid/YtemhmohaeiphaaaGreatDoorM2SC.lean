/-
 THE ABSTRACT MACHINE IS SOUND,third part: calls that are lent memory,regions.
-/
import Derived.Test.YtemhmohaeiphaaaGreatDoorM2SB
import Derived.Laws.CopyRow
import Derived.Laws.IdiomCopy
import Derived.StillTail
set_option linter.unusedVariables false
set_option linter.unusedSimpArgs false
namespace Go.AM
open Go.RowKit (Below)

section
variable {P:Program} {N:Nat} {E:Entry} {st:St} {a:Act} {w w':World} {I I':Gh} {ρ ρ':Pl} {mem mem':Nat→Option AV} {H H':Nat→Path→Prop}

structure SepH (I:Gh) (ρ:Pl) (w:World) (mem:Nat→Option AV) (H:Nat→Path→Prop):Prop where
 row:∀ s T p,mem s=some T→¬ H s p→NodeOk I (ρ s) w p (T.at p)
 free:∀ s T p k,mem s=some T→¬ H s p→(T.at p).isNode=true→ρ s p=some k→∀ o,I k.b o=none
 inj:∀ s T p k s' T' p' k',mem s=some T→¬ H s p→(T.at p).isNode=true→ρ s p=some k→mem s'=some T'→¬ H s' p'→(T'.at p').isNode=true→ρ s' p'=some k'→k.b=k'.b→s=s'∧p=p'
def OwnsH (ρ:Pl) (mem:Nat→Option AV) (H:Nat→Path→Prop) (b:Nat):Prop:=∃ s T p k,mem s=some T∧¬ H s p∧(T.at p).isNode=true∧ρ s p=some k∧k.b=b

theorem valid_row {s:Nat} {R x:AV}:∀ (Q p1:Path),(∀ Q' ij Q'',Q=Q'++ij :: Q''→NodeOk I (ρ s) w (p1++Q') (R.at (p1++Q')))→InP (R.at p1) Q→(Q≠[]→Sing x)→ValidP x (R.at p1) Q
 | [],_,_,_,_=>trivial
 | ij :: Q,p1,hm,h,hx=>by
  obtain ⟨hin,h⟩:=h
  have e1:R.at (p1++[ij])=(R.at p1).cellAt ij.1 ij.2:=by rw [at_append];rfl
  refine ⟨hin,?_,?_⟩
  ·have hrow:=hm [] ij Q rfl
   rw [List.append_nil] at hrow
   generalize R.at p1=N at hin hrow
   have row:∀ z es,RowOk I (ρ s) w p1 z es→∀ (h:ij.1<es.length) (hj:ij.2<(es[ij.1]).cells.length),Sing ((es[ij.1]).cells[ij.2]):=by
    intro z es hr h hj
    obtain ⟨k,E,arr,_,_,_,_,_,_,_,h1,h2⟩:=NodeOk.cells hr h hj
    exact cell_sing h1 h2
   cases N <;> try exact hin.elim
   case tr z es =>
    obtain ⟨hi,hj⟩:=hin
    refine .inr (.inr ⟨?_,fun q=>hx (by simp)⟩)
    have:(AV.tr z es).cellAt ij.1 ij.2=(es[ij.1]).cells[ij.2]:=by
     show (es.getD ij.1 .any).cells.getD ij.2 .any=_
     rw [getD_lt hi,getD_lt hj]
    rw [this];exact row z es hrow hi hj
   case pt z y =>
    obtain ⟨hi,hj⟩:=hin
    refine .inr (.inr ⟨?_,fun q=>hx (by simp)⟩)
    have:(AV.pt z y).cellAt ij.1 ij.2=y.cells[ij.2]:=by
     rw [hi]
     show y.cells.getD ij.2 .any=_
     rw [getD_lt hj]
    rw [this]
    obtain ⟨k,E,arr,_,_,_,_,_,_,_,h1,h2⟩:=NodeOk.cells (i:=0) (j:=ij.2) hrow (by simp) hj
    exact cell_sing h1 h2
   case agg fs=>exact .inl ⟨fs,rfl⟩
   case tup fs=>exact .inr (.inl ⟨fs,rfl⟩)
  ·rw [← e1]
   rw [← e1] at h
   refine valid_row (s:=s) Q (p1++[ij]) (fun Q' kl Q'' e=>?_) h (fun _=>hx (by simp))
   have:=hm (ij :: Q') kl Q'' (by rw [e];rfl)
   simpa using this

theorem SepH.setP (m:SepH I ρ w mem H) {s:Nat} {R x:AV} {Q:Path} (hR:mem s=some R) (hv:ValidP x R Q) (hx:Q≠[]→Sing x)
  (hH:∀ s' p',¬ H' s' p'→¬ H s' p'∨(s'=s∧Q <+: p'))
  (hcell:∀ v,v.oneCell'=true→CellOk I (ρ s Q) (R.at Q) v→CellOk I (ρ' s Q) x v) (hρ:∀ s' p',(s'≠s∨¬ Q <+: p')→ρ' s' p'=ρ s' p')
  (hrow:∀ r,¬ H' s (Q++r)→NodeOk I (ρ' s) w (Q++r) (x.at r)) (hfree:∀ r k,¬ H' s (Q++r)→(x.at r).isNode=true→ρ' s (Q++r)=some k→∀ o,I k.b o=none)
  (hinj:∀ r k r' k',(x.at r).isNode=true→ρ' s (Q++r)=some k→(x.at r').isNode=true→ρ' s (Q++r')=some k'→k.b=k'.b→r=r')
  (hsep:∀ r k s' T' p' k',(x.at r).isNode=true→ρ' s (Q++r)=some k→mem s'=some T'→¬ H s' p'→(T'.at p').isNode=true→ρ s' p'=some k'→(s'≠s∨¬ Q <+: p')→k.b≠k'.b) :
  SepH I ρ' w (fun i=>if i=s then some (R.setP Q x) else mem i) H':=by
 have hat:∀ r,(R.setP Q x).at (Q++r)=x.at r:=fun r=>at_setP Q R r hv
 have hnode:∀ p,¬ Q <+: p→((R.setP Q x).at p).isNode=(R.at p).isNode:=by
  intro p hp
  rcases at_setP_ne Q R p hv hp with ⟨h,_⟩ | ⟨ij,Q',_,h,hin,_⟩
  ·rw [h]
  ·rw [h]
   generalize R.at p=A at hin ⊢
   cases A <;> first | rfl | exact hin.elim
 have hold:∀ s' T' p,(if s'=s then some (R.setP Q x) else mem s')=some T'→(T'.at p).isNode=true→(s'≠s∨¬ Q <+: p)→∃ T0,mem s'=some T0∧(T0.at p).isNode=true:=by
  intro s' T' p h h1 h2
  split at h
  ·rename_i e
   cases h
   subst e
   have hp:=h2.resolve_left (fun q=>q rfl)
   exact ⟨R,hR,by rw [← hnode p hp];exact h1⟩
  ·exact ⟨T',h,h1⟩
 have hsplit:∀ s' T' p,(if s'=s then some (R.setP Q x) else mem s')=some T'→(s'=s∧∃ r,p=Q++r∧T'.at p=x.at r)∨(s'≠s∨¬ Q <+: p):=by
  intro s' T' p h
  by_cases e:s'=s
  ·by_cases hp:Q <+: p
   ·obtain ⟨r,rfl⟩:=hp
    rw [if_pos e] at h
    cases h
    exact .inl ⟨e,r,rfl,hat r⟩
   ·exact .inr (.inr hp)
  ·exact .inr (.inl e)
 have hH1:∀ s' p',¬ H' s' p'→(s'≠s∨¬ Q <+: p')→¬ H s' p':=by
  intro s' p' h1 h2
  rcases hH s' p' h1 with h | ⟨h,h'⟩
  ·exact h
  ·rcases h2 with h2 | h2
   ·exact (h2 h).elim
   ·exact (h2 h').elim
 refine ⟨fun s' T' p h hh=>?_,fun s' T' p k h hh h1 h2=>?_,fun s1 T1 p1 k1 s2 T2 p2 k2 h1 hh1 g1 q1 h2 hh2 g2 q2 he=>?_⟩
 ·rcases hsplit s' T' p h with ⟨rfl,r,rfl,e⟩ | hp
  ·rw [e];exact hrow r hh
  ·have hh0:=hH1 s' p hh hp
   by_cases e:s'=s
   ·subst e
    have hp:=hp.resolve_left (fun q=>q rfl)
    rw [if_pos rfl] at h
    cases h
    have hρ':∀ p',¬ Q <+: p'→ρ' s' p'=ρ s' p':=fun p' q=>hρ s' p' (.inr q)
    rcases at_setP_ne Q R p hv hp with ⟨h,hpq⟩ | ⟨ij,Q',hQ,h,hin,hvv,hsg⟩
    ·rw [h]
     have hr:=m.row s' R p hR hh0
     have hex:¬ ∃ i' j',Q <+: p++[(i',j')]:=by
      rintro ⟨i',j',hq⟩
      have h1:p <+: p++[(i',j')]:=List.prefix_append _ _
      rcases Nat.le_total Q.length p.length with hl | hl
      ·exact hp (List.prefix_of_prefix_length_le hq h1 hl)
      ·exact hpq (List.prefix_of_prefix_length_le h1 hq hl)
     show NodeOk I (ρ' s') w p (R.at p)
     have hπ:∀ i' j',ρ' s' (p++[(i',j')])=ρ s' (p++[(i',j')]):=fun i' j'=>hρ' _ fun q=>hex ⟨i',j',q⟩
     have row:∀ z es,RowOk I (ρ s') w p z es→RowOk I (ρ' s') w p z es:=by
      intro z es hrr
      rcases hrr with ⟨q1,q2⟩ | ⟨k,E,arr,q1,q2,q3,q3',q4,q5,q6⟩
      ·exact .inl ⟨by rw [hρ' p hp];exact q1,q2⟩
      ·exact .inr ⟨k,E,arr,by rw [hρ' p hp];exact q1,q2,q3,q3',q4,q5,fun i hi=>⟨(q6 i hi).1,fun j hj=>by rw [hπ i j];exact (q6 i hi).2 j hj⟩⟩
     generalize R.at p=A at hr ⊢
     cases A <;> try trivial
     case tr z es=>exact row z es hr
     case pt z y=>exact row z [y] hr
     case mt kd f =>
      obtain ⟨k,es,c,q1,q2,q3⟩:=hr
      exact ⟨k,es,c,by rw [hρ' p hp];exact q1,q2,q3⟩
    ·rw [h]
     have hr:=m.row s' R p hR hh0
     rcases hsg with ⟨fs,e⟩ | ⟨fs,e⟩ | ⟨hsg,_⟩
     ·rw [e];trivial
     ·rw [e];trivial
     refine node_setAt hin hr (fun _ _ _ h=>h) (fun k hn hk=>rfl) (hρ' p hp) (fun a b hab=>hρ' _ (by rw [hQ];exact not_pref_snoc (by obtain ⟨_,_⟩:=ij;exact hab))) ?_ ?_
     ·cases Q' with
      | nil=>exact hx (by rw [hQ];simp)
      | cons kl Q'' =>
       exact setAt_sing hsg
     ·intro v h1 hk h2
      cases Q' with
      | nil =>
       have:=hcell v h1
       rw [hQ,at_snoc] at this
       exact this h2
      | cons kl Q'' =>
       have hnp:¬ Q <+: p++[(ij.1,ij.2)]:=by
        rintro ⟨r,hr'⟩
        have:=congrArg List.length hr'
        rw [hQ] at this
        simp at this
       have h3:CellOk I (ρ' s' (p++[(ij.1,ij.2)])) ((R.at p).cellAt ij.1 ij.2) v:=by rw [hρ' _ hnp];exact h2
       exact setP_atom _ _ v h1 h3 hvv.1
   ·rw [if_neg e] at h
    have hr:=m.row s' T' p h hh0
    have e2:ρ' s'=ρ s':=funext fun p'=>hρ s' p' (.inl e)
    rw [e2];exact hr
 ·rcases hsplit s' T' p h with ⟨rfl,r,rfl,e⟩ | hp
  ·rw [e] at h1;exact hfree r k hh h1 h2
  ·obtain ⟨T0,q1,q2⟩:=hold s' T' p h h1 hp
   rw [hρ s' p hp] at h2
   exact m.free s' T0 p k q1 (hH1 s' p hh hp) q2 h2
 ·rcases hsplit s1 T1 p1 h1 with ⟨rfl,r1,rfl,e1⟩ | hp1
  ·rw [e1] at g1
   rcases hsplit s2 T2 p2 h2 with ⟨rfl,r2,rfl,e2⟩ | hp2
   ·rw [e2] at g2
    exact ⟨rfl,by rw [hinj r1 k1 r2 k2 g1 q1 g2 q2 he]⟩
   ·obtain ⟨T0,o1,o2⟩:=hold s2 T2 p2 h2 g2 hp2
    rw [hρ s2 p2 hp2] at q2
    exact (hsep r1 k1 s2 T0 p2 k2 g1 q1 o1 (hH1 s2 p2 hh2 hp2) o2 q2 hp2 he).elim
  ·obtain ⟨T0,o1,o2⟩:=hold s1 T1 p1 h1 g1 hp1
   rw [hρ s1 p1 hp1] at q1
   rcases hsplit s2 T2 p2 h2 with ⟨rfl,r2,rfl,e2⟩ | hp2
   ·rw [e2] at g2
    exact (hsep r2 k2 s1 T0 p1 k1 g2 q2 o1 (hH1 s1 p1 hh1 hp1) o2 q1 hp1 he.symm).elim
   ·obtain ⟨T0',o1',o2'⟩:=hold s2 T2 p2 h2 g2 hp2
    rw [hρ s2 p2 hp2] at q2
    exact m.inj s1 T0 p1 k1 s2 T0' p2 k2 o1 (hH1 s1 p1 hh1 hp1) o2 q1 o1' (hH1 s2 p2 hh2 hp2) o2' q2 he
end
end Go.AM
namespace Go.AM
open Go.RowKit (Below)

section
variable {P:Program} {N:Nat} {E:Entry} {st:St} {a:Act} {w w':World} {I I':Gh} {ρ ρ' πx:Pl} {mem mem' ext:Nat→Option AV} {H H':Nat→Path→Prop}

theorem sig1_node {x y:AV} (h:x.sig1=y.sig1) (hn:y.isNode=true):x.isNode=true∧((∃ z es es',x=.tr z es∧y=.tr z es'∧es.length=es'.length)∨(∃ z u u',x=.pt z u∧y=.pt z u')∨∃ kd m kd' m',x=.mt kd m∧y=.mt kd' m'):=by
 cases y <;> try (cases hn)
 case tr z es' =>
  cases x <;> simp only [AV.sig1] at h <;> try (cases h;done)
  case tr z' es =>
   simp only [AV.ref.injEq,true_and] at h
   obtain ⟨rfl,h2⟩:=h
   exact ⟨rfl,.inl ⟨_,_,_,rfl,rfl,h2⟩⟩
 case pt z u' =>
  cases x <;> simp only [AV.sig1] at h <;> try (cases h;done)
  case pt z' u =>
   simp only [AV.loc.injEq,true_and,and_true] at h
   subst h
   exact ⟨rfl,.inr (.inl ⟨_,_,_,rfl,rfl⟩)⟩
 case mt kd' m' =>
  cases x <;> simp only [AV.sig1] at h <;> try (cases h;done)
  case mt kd m=>exact ⟨rfl,.inr (.inr ⟨_,_,_,_,rfl,rfl⟩)⟩
theorem sig_hdr {x y:AV} {k:Option Plc} {v:Value} (h:x.sig1=y.sig1) (hn:y.isNode=true) (hd:Hdr k y v):Hdr k x v:=by
 rcases (sig1_node h hn).2 with ⟨z,es,es',rfl,rfl,hl⟩ | ⟨z,u,u',rfl,rfl⟩ | ⟨kd,m,kd',m',rfl,rfl⟩
 ·rcases hd with ⟨k',h1,h2,h3,h4⟩ | ⟨h1,h2⟩
  ·exact .inl ⟨k',h1,h2,by omega,by rw [hl];exact h4⟩
  ·subst h1;exact .inr ⟨List.eq_nil_of_length_eq_zero hl,h2⟩
 ·exact hd
 ·exact hd
theorem sig_top {T c:AV} (h:T.sig=c.sig) {r:Path} (hr:TopPos c r) (hn:(c.at r).isNode=true):TopPos T r∧(T.at r).sig1=(c.at r).sig1:=by
  by_cases hc:∃ fs,c=.agg fs
  · obtain ⟨fs,rfl⟩:=hc
    obtain ⟨j,rfl⟩:=hr
    have hT:∃ gs,T=.agg gs∧gs.map AV.sig1=fs.map AV.sig1:=by
      cases T <;> simp only [AV.sig,AV.sig1] at h <;> try (cases h)
      case agg gs=>injection h with h;exact ⟨gs,rfl,h⟩
    obtain ⟨gs,rfl,hm⟩:=hT
    refine ⟨⟨j,rfl⟩,?_⟩
    show (gs.getD j .any).sig1=(fs.getD j .any).sig1
    have hn:(fs.getD j .any).isNode=true:=hn
    by_cases hj:j<fs.length
    · have hl:gs.length=fs.length:=by have:=congrArg List.length hm;simpa using this
      rw [getD_lt hj,getD_lt (by omega)]
      have:=congrArg (fun l:List AV=>l[j]?) hm
      simpa [hj,hl ▸ hj] using this
    · rw [getD_ge (by omega)] at hn;cases hn
  · have hcs:c.sig=c.sig1:=by cases c <;> first | rfl | exact absurd ⟨_,rfl⟩ hc
    have hr0:r=[]:=by cases c <;> first | exact hr | exact hr.elim | exact absurd ⟨_,rfl⟩ hc
    subst hr0
    have hn:c.isNode=true:=hn
    rw [hcs] at h
    have hTs:T.sig=T.sig1:=by
      cases T <;> first
        | rfl
        | (exfalso
           cases c <;> first | (cases hn;done) | (simp only [AV.sig,AV.sig1] at h;cases h))
    rw [hTs] at h
    refine ⟨?_,h⟩
    have:=(sig1_node h hn).1
    cases T <;> first | rfl | cases this

structure Mid (N:Nat) (E:Entry) (st:St) (a:Act) (w:World) (I:Gh) (ρ:Pl) (H:Nat→Path→Prop):Prop where
 held:Held I w
 below:BelowX E.lent E.w0.heap.size E.w0 w
 keeps:∀ b o,b<E.w0.heap.size→I b o=E.I0 b o
 size:a.tmps.size=N
 defers:a.defers=[]
 fr:∀ i,Rep I ρ (st.fr i) (a.tmps.getD i undef)
 mem:SepH I ρ w st.mem H
 lo:∀ b,OwnsH ρ st.mem H b→E.w0.heap.size≤b∨E.lent b
 fix:∀ i c T q,E.args[i]? = some c→st.mem i=some T→TopPos T q→ρ i q=E.π0 i q
theorem Mid.conc (m:Mid N E st a w I ρ H) (h:∀ s p,¬ H s p):Conc N E st a w I ρ :=
 ⟨m.held,m.below,m.keeps,m.size,m.defers,m.fr,⟨fun s T p q=>m.mem.row s T p q (h s p),fun s T p k q=>m.mem.free s T p k q (h s p),fun s T p k s' T' p' k' q1 q2 q3 q4=>m.mem.inj s T p k s' T' p' k' q1 (h s p) q2 q3 q4 (h s' p')⟩,
  fun b ⟨s,T,p,k,h1,h2,h3,h4⟩=>m.lo b ⟨s,T,p,k,h1,h s p,h2,h3,h4⟩,m.fix⟩

def HU (L:List Src) (s:Nat) (p:Path):Prop:=∃ i r q,(i,r,s,q)∈L∧q <+: p
def Rem (n:Nat) (L:List Src) (s:Nat) (p:Path):Prop:=s=n∨∃ r t q,(s,r,t,q)∈L∧r <+: p
def Apart (ρ:Pl) (mem:Nat→Option AV) (H:Nat→Path→Prop) (πx:Pl) (ext:Nat→Option AV) (n:Nat) (L:List Src):Prop :=
 ∀ b,OwnsH ρ mem H b→∀ s T p k,ext s=some T→Rem n L s p→(T.at p).isNode=true→πx s p=some k→k.b≠b
def Div (p q:Path):Prop:=¬ p <+: q∧¬ q <+: p

theorem HU_cons {i t:Nat} {r q:Path} {L:List Src} {s:Nat} {p:Path} (h:¬ HU L s p):¬ HU ((i,r,t,q) :: L) s p∨(s=t∧q <+: p):=by
 by_cases e:s=t∧q <+: p
 ·exact .inr e
 ·refine .inl ?_
  rintro ⟨i',r',q',h1,h2⟩
  rcases List.mem_cons.1 h1 with h1 | h1
  ·cases h1;exact e ⟨rfl,h2⟩
  ·exact h ⟨i',r',q',h1,h2⟩
open Classical in
noncomputable def hangP (ρ:Pl) (t:Nat) (q:Path) (πx:Pl) (i:Nat) (r:Path):Pl:=fun s' p'=>if s'=t∧q <+: p' then πx i (r++p'.drop q.length) else ρ s' p'
theorem hangP_at (ρ:Pl) (t:Nat) (q:Path) (πx:Pl) (i:Nat) (r r':Path):hangP ρ t q πx i r t (q++r')=πx i (r++r'):=by
 unfold hangP;rw [if_pos ⟨rfl,r',rfl⟩];simp
theorem hangP_ne {t:Nat} {q:Path} {i:Nat} {r:Path} {s':Nat} {p':Path} (h:s'≠t∨¬ q <+: p'):hangP ρ t q πx i r s' p'=ρ s' p':=by
 unfold hangP
 rw [if_neg]
 rintro ⟨h1,h2⟩
 rcases h with h | h
 ·exact h h1
 ·exact h h2

theorem ownsH_setP {s:Nat} {R x:AV} {Q:Path} (hR:mem s=some R) (hv:ValidP x R Q) (hH:∀ s' p',¬ H' s' p'→¬ H s' p'∨(s'=s∧Q <+: p')) (hρ:∀ s' p',(s'≠s∨¬ Q <+: p')→ρ' s' p'=ρ s' p') {b:Nat}
  (h:OwnsH ρ' (fun i=>if i=s then some (R.setP Q x) else mem i) H' b):(∃ r k,(x.at r).isNode=true∧ρ' s (Q++r)=some k∧k.b=b)∨OwnsH ρ mem H b:=by
 obtain ⟨s',T',p,k,h1,h2,h3,h4,h5⟩:=h
 (try simp only at h1)
 by_cases e:s'=s
 ·rw [if_pos e] at h1
  cases h1
  subst e
  by_cases hp:Q <+: p
  ·obtain ⟨r,rfl⟩:=hp
   rw [at_setP Q R r hv] at h3
   exact .inl ⟨r,k,h3,h4,h5⟩
  ·refine .inr ⟨s',R,p,k,hR,(hH s' p h2).resolve_right (fun q=>hp q.2),node_setP hv hp h3,?_,h5⟩
   rw [← hρ s' p (.inr hp)];exact h4
 ·rw [if_neg e] at h1
  refine .inr ⟨s',T',p,k,h1,(hH s' p h2).resolve_right (fun q=>e q.1),h3,?_,h5⟩
  rw [← hρ s' p (.inl e)];exact h4

theorem belowF_ok {t:Nat} {q:Path} {i:Nat} {r:Path} (hpl:πx i r=ρ t q) (s':Nat) (p':Path) (s1:Nat) (p1:Path) (h:belowF t q s' p'=some (s1,p1)):hangP ρ t q πx i r s1 p1=ρ s' p':=by
 unfold belowF at h
 split at h
 ·rename_i e
  subst e
  cases hp:isPref q p' with
  | true =>
   rw [hp] at h
   simp only at h
   obtain ⟨r',rfl⟩:=(prefix_iff q p').1 hp
   cases r' with
   | nil =>
    simp only [List.append_nil,beq_self_eq_true,Option.some.injEq,Prod.mk.injEq] at h
    obtain ⟨rfl,rfl⟩:=h
    have:=hangP_at ρ s' q πx i r []
    simp only [List.append_nil] at this ⊢
    rw [this];exact hpl
   | cons ij r' =>
    have e2:((q++ij :: r').length == q.length)=false:=by simp
    rw [e2] at h;cases h
  | false =>
   rw [hp] at h
   cases h
   exact hangP_ne (.inr (isPref_false.1 hp))
 ·rename_i e
  cases h
  exact hangP_ne (.inl e)
theorem pinF_ok {po:Option (Nat→Path→Bool)} {t:Nat} {q:Path} {i:Nat} {r:Path} (hpl:πx i r=ρ t q) (hp:∀ u,pinsOf po i (r++u)=true→πx i (r++u)=ρ t (q++u)) (s':Nat) (p':Path) (s1:Nat) (p1:Path) (h:pinF po i r t q s' p'=some (s1,p1)):hangP ρ t q πx i r s1 p1=ρ s' p':=by
 cases po with
 | none=>exact belowF_ok hpl s' p' s1 p1 h
 | some g =>
  replace h:belowK (fun u=>g i (r++u)) t q s' p'=some (s1,p1):=h
  unfold belowK at h
  split at h
  ·rename_i e
   subst e
   cases hpf:isPref q p' with
   | true =>
    rw [hpf] at h
    simp only at h
    obtain ⟨r',rfl⟩:=(prefix_iff q p').1 hpf
    split at h
    ·rename_i hk
     cases h
     rw [hangP_at]
     simp only [List.drop_left,Bool.or_eq_true] at hk
     rcases hk with hk | hk
     ·have:r'=[]:=by simpa using hk
      subst this
      simpa using hpl
     ·exact hp r' hk
    ·cases h
   | false =>
    rw [hpf] at h
    cases h
    exact hangP_ne (.inr (isPref_false.1 hpf))
  ·rename_i e
   cases h
   exact hangP_ne (.inl e)
theorem div_of_div {p q x:Path} (h:Div p q) (hx:p <+: x):¬ q <+: x:=by
 intro hq
 rcases Nat.le_total p.length q.length with hl | hl
 ·exact h.1 (List.prefix_of_prefix_length_le hx hq hl)
 ·exact h.2 (List.prefix_of_prefix_length_le hq hx hl)

theorem rows_up {i t:Nat} {r q:Path} {L:List Src} (m:SepH I ρ w mem (HU ((i,r,t,q) :: L))) (hdiv:∀ i' r' q',(i',r',t,q')∈L→Div q q') {R x:AV} (hR:mem t=some R) (hn:(R.at q).isNode=true) (hx:q≠[]→Sing x):ValidP x R q:=by
 have:=valid_row (I:=I) (ρ:=ρ) (w:=w) (s:=t) (R:=R) (x:=x) q [] (fun Q' ij Q'' e=>by
  refine m.row t R Q' hR ?_
  rintro ⟨i',r',q',h1,h2⟩
  rcases List.mem_cons.1 h1 with h1 | h1
  ·cases h1
   have:=h2.length_le
   rw [e] at this
   simp at this
   omega
  ·have hd:=hdiv i' r' q' h1
   exact hd.2 (h2.trans ⟨ij :: Q'',e.symm⟩)) (inP_node hn) hx
 exact this

theorem give_some {i t n:Nat} {r q:Path} {L:List Src} {T R:AV} {K:St→Prop} (c:Mid N E st a w I ρ (HU ((i,r,t,q) :: L))) (hx:Sep I πx w ext) (hap:Apart ρ st.mem (HU ((i,r,t,q) :: L)) πx ext n ((i,r,t,q) :: L))
  (hT:ext i=some T) (hin:i≠n) (hdiv:∀ i' r' q',(i',r',t,q')∈L→Div q q') (hdr:∀ r' t' q',(i,r',t',q')∈L→Div r r') (hR:st.mem t=some R) (hn:(R.at q).isNode=true) (hsig:(T.at r).sig1=(R.at q).sig1) (hpl:πx i r=ρ t q)
  (hlo:∀ p k,((T.at r).at p).isNode=true→πx i (r++p)=some k→E.w0.heap.size≤k.b∨E.lent k.b) {g:Nat→Path→Option (Nat×Path)} (hg:∀ s' p' s1 p1,g s' p'=some (s1,p1)→hangP ρ t q πx i r s1 p1=ρ s' p') (h:giveC g t q (T.at r) st K .mk) :
  ∃ st' ρ',K st'∧Mid N E st' a w I ρ' (HU L)∧Apart ρ' st'.mem (HU L) πx ext n L∧(∀ s p,(s≠t∨¬ q <+: p)→ρ' s p=ρ s p)∧(∀ t' q',(t'≠t∨Div q q')→(nodeAt st.mem t' q').isNode=true→(nodeAt st'.mem t' q').isNode=true∧(nodeAt st'.mem t' q').sig1=(nodeAt st.mem t' q').sig1):=by
 obtain ⟨hXn,hkind⟩:=sig1_node hsig hn
 have hsx:q≠[]→Sing (T.at r):=fun _=>sing_node hXn
 have hv:ValidP (T.at r) R q:=rows_up c.mem hdiv hR hn hsx
 let st':St:={ fr:=fun j=>(st.fr j).mapH g,mem:=fun j=>if j=t then some (R.setP q (T.at r)) else st.mem j }
 have hK:K st':=by
  unfold giveC at h
  cases q with
  | nil=>exact h
  | cons ij q=>rw [hR] at h;exact h
 have hρ:∀ s' p',(s'≠t∨¬ q <+: p')→hangP ρ t q πx i r s' p'=ρ s' p':=fun s' p' h=>hangP_ne h
 have hH:∀ s' p',¬ HU L s' p'→¬ HU ((i,r,t,q) :: L) s' p'∨(s'=t∧q <+: p'):=fun s' p' h=>HU_cons h
 have hat0:hangP ρ t q πx i r t q=ρ t q:=by
  have:=hangP_at ρ t q πx i r []
  simp only [List.append_nil] at this
  rw [this];exact hpl
 have hXat:∀ r',((T.at r).at r').isNode=true→(T.at (r++r')).isNode=true:=fun r' h=>by rw [at_append];exact h
 have hrem:∀ p,Rem n ((i,r,t,q) :: L) i (r++p):=fun p=>.inr ⟨r,t,q,by simp,List.prefix_append _ _⟩
 have hsep:=SepH.setP (ρ':=hangP ρ t q πx i r) (H':=HU L) c.mem hR hv hsx hH
  (fun v h1 hc=>by
   rcases hc with ⟨_,hc⟩ | ⟨hc,_⟩
   ·rw [hat0];exact .inl ⟨hXn,sig_hdr hsig hn hc⟩
   ·rw [hn] at hc;cases hc)
  hρ
  (fun r' _=>by
   refine node_shift (π:=πx i) (p:=r++r') ?_ (fun r''=>by rw [List.append_assoc,hangP_at,List.append_assoc])
   rw [← at_append];exact hx.row i T _ hT)
  (fun r' k _ h1 h2 o=>by rw [hangP_at] at h2;exact hx.free i T _ k hT (hXat r' h1) h2 o)
  (fun r1 k1 r2 k2 h1 h2 h1' h2' he=>by
   rw [hangP_at] at h2 h2'
   exact List.append_cancel_left (hx.inj i T _ k1 i T _ k2 hT (hXat r1 h1) h2 hT (hXat r2 h1') h2' he).2)
  (fun r1 k1 s' T' p' k2 h1 h2 e1 e2 e3 e4 e5=>by
   rw [hangP_at] at h2
   exact hap k2.b ⟨s',T',p',k2,e1,e2,e3,e4,rfl⟩ i T _ k1 hT (hrem r1) (hXat r1 h1) h2)
 refine ⟨st',hangP ρ t q πx i r,hK,⟨c.held,c.below,c.keeps,c.size,c.defers,fun j=>rep_mapH (fun s p s' p' hf=>hg s p s' p' hf) (c.fr j),hsep,fun b hb=>?_,fun j c' T' q' g1 g2 g3=>?_⟩,fun b hb s T' p k g1 g2 g3 g4=>?_,hρ,fun t' q' hd hnn=>?_⟩
 ·rcases ownsH_setP hR hv hH hρ hb with ⟨r',k,h1,h2,rfl⟩ | hb
  ·rw [hangP_at] at h2;exact hlo r' k h1 h2
  ·exact c.lo b hb
 ·simp only [st'] at g2
  by_cases e:j=t
  ·rw [if_pos e] at g2
   cases g2
   subst e
   cases q with
   | nil =>
    have g3:TopPos (T.at r) q':=g3
    have hq':q'=[]:=by
     revert g3
     generalize T.at r=X at hXn
     intro g3
     cases X <;> first | exact g3 | cases hXn
    subst hq'
    rw [hat0]
    exact c.fix j c' R [] g1 hR (by
     have hn:R.isNode=true:=hn
     cases R <;> first | rfl | cases hn)
   | cons ij q =>
    have g4:=topPos_setP (by simp) g3
    have:hangP ρ j (ij :: q) πx i r j q'=ρ j q':=by
     by_cases hp:(ij :: q) <+: q'
     ·obtain ⟨r',rfl⟩:=hp
      have:q=[]∧r'=[]:=by
       cases R with
       | agg fs =>
        obtain ⟨jj,e⟩:=g4
        simp at e
        exact ⟨e.2.1,e.2.2⟩
       | tup fs=>exact g4.elim
       | _=>exact absurd g4 (by simp [TopPos])
      obtain ⟨rfl,rfl⟩:=this
      rw [List.append_nil];exact hat0
     ·exact hρ _ _ (.inr hp)
    rw [this]
    exact c.fix j c' R q' g1 hR g4
  ·rw [if_neg e] at g2
   rw [hρ j q' (.inl e)]
   exact c.fix j c' T' q' g1 g2 g3
 ·rcases ownsH_setP hR hv hH hρ hb with ⟨r',k',h1,h2,rfl⟩ | hb
  ·rw [hangP_at] at h2
   intro he
   obtain ⟨x1,x2⟩:=hx.inj s T' p k i T (r++r') k' g1 g3 g4 hT (hXat r' h1) h2 he
   rcases g2 with g2 | ⟨r2,t2,q2,g5,g6⟩
   ·exact hin (x1.symm.trans g2)
   ·subst x1
    exact div_of_div (hdr r2 t2 q2 g5) (List.prefix_append _ r') (x2 ▸ g6)
  ·refine hap b hb s T' p k g1 ?_ g3 g4
   rcases g2 with g2 | ⟨r2,t2,q2,g5,g6⟩
   ·exact .inl g2
   ·exact .inr ⟨r2,t2,q2,List.mem_cons_of_mem _ g5,g6⟩
 ·by_cases e:t'=t
  ·subst e
   have hd:=hd.resolve_left (fun h=>h rfl)
   have e1:nodeAt st'.mem t' q'=(R.setP q (T.at r)).at q':=by simp [nodeAt,st']
   have e2:nodeAt st.mem t' q'=R.at q':=by simp [nodeAt,hR]
   rw [e2] at hnn
   rw [e1,e2]
   rcases at_setP_ne q R q' hv hd.1 with ⟨h,_⟩ | ⟨ij,Q',hq,_⟩
   ·rw [h];exact ⟨hnn,rfl⟩
   ·exact (hd.2 ⟨ij :: Q',hq.symm⟩).elim
  ·have e1:nodeAt st'.mem t' q'=nodeAt st.mem t' q':=by simp [nodeAt,st',e]
   rw [e1];exact ⟨hnn,rfl⟩
end
end Go.AM
namespace Go.AM
open Go.RowKit (Below)

section
variable {P:Program} {N:Nat} {E:Entry} {st:St} {a:Act} {w w':World} {I I' J:Gh} {ρ ρ' πx:Pl} {mem mem' ext:Nat→Option AV} {H H':Nat→Path→Prop}

theorem give_none {i t n:Nat} {r q:Path} {L:List Src} {R:AV} {K:St→Prop} (c:Mid N E st a w I ρ (HU ((i,r,t,q) :: L))) (hap:Apart ρ st.mem (HU ((i,r,t,q) :: L)) πx ext n ((i,r,t,q) :: L))
  (hdiv:∀ i' r' q',(i',r',t,q')∈L→Div q q') (hR:st.mem t=some R) (hn:(R.at q).isNode=true) (h:giveN t q st K .mk) :
  ∃ st',K st'∧Mid N E st' a w I ρ (HU L)∧Apart ρ st'.mem (HU L) πx ext n L∧(∀ t' q',(t'≠t∨Div q q')→(nodeAt st.mem t' q').isNode=true→(nodeAt st'.mem t' q').isNode=true∧(nodeAt st'.mem t' q').sig1=(nodeAt st.mem t' q').sig1):=by
 have hRem:∀ s p,Rem n L s p→Rem n ((i,r,t,q) :: L) s p:=fun s p g=>by
  rcases g with g | ⟨r2,t2,q2,g5,g6⟩
  ·exact .inl g
  ·exact .inr ⟨r2,t2,q2,List.mem_cons_of_mem _ g5,g6⟩
 cases q with
 | nil =>
  have hm:∀ s T,(st.del t).mem s=some T→s≠t∧st.mem s=some T:=by
   intro s T h
   simp only [St.del] at h
   split at h
   ·cases h
   ·rename_i e;exact ⟨e,h⟩
  have hH:∀ s p,s≠t→¬ HU L s p→¬ HU ((i,r,t,[]) :: L) s p:=fun s p e h=>(HU_cons h).resolve_right fun q=>e q.1
  have hsub:∀ b,OwnsH ρ (st.del t).mem (HU L) b→OwnsH ρ st.mem (HU ((i,r,t,[]) :: L)) b:=by
   rintro b ⟨s,T,p,k,h1,h2,h3,h4,h5⟩
   obtain ⟨e,h1⟩:=hm s T h1
   exact ⟨s,T,p,k,h1,hH s p e h2,h3,h4,h5⟩
  refine ⟨st.del t,h,⟨c.held,c.below,c.keeps,c.size,c.defers,c.fr,⟨fun s T p h1 h2=>?_,fun s T p k h1 h2 h3 h4=>?_,fun s T p k s' T' p' k' h1 h2 h3 h4 h1' h2' h3' h4' he=>?_⟩,fun b hb=>c.lo b (hsub b hb),fun j c' T' q' g1 g2 g3=>c.fix j c' T' q' g1 (hm j T' g2).2 g3⟩,fun b hb s T p k g1 g2 g3 g4=>hap b (hsub b hb) s T p k g1 (hRem s p g2) g3 g4,fun t' q' hd hnn=>?_⟩
  ·obtain ⟨e,h1⟩:=hm s T h1;exact c.mem.row s T p h1 (hH s p e h2)
  ·obtain ⟨e,h1⟩:=hm s T h1;exact c.mem.free s T p k h1 (hH s p e h2) h3 h4
  ·obtain ⟨e,h1⟩:=hm s T h1;obtain ⟨e',h1'⟩:=hm s' T' h1'
   exact c.mem.inj s T p k s' T' p' k' h1 (hH s p e h2) h3 h4 h1' (hH s' p' e' h2') h3' h4' he
  ·by_cases e:t'=t
   ·have hd:=hd.resolve_left (fun q=>q e)
    exact (hd.1 (List.nil_prefix)).elim
   ·have e1:nodeAt (st.del t).mem t' q'=nodeAt st.mem t' q':=by simp [nodeAt,St.del,e]
    rw [e1];exact ⟨hnn,rfl⟩
 | cons ij q =>
  have h:optP (st.mem t) (fun R=>valP (R.setP (ij :: q) .any) (fun R'=>K (st.setMem t R')) .mk) .mk:=h
  rw [hR] at h
  have hv:ValidP .any R (ij :: q):=rows_up c.mem hdiv hR hn (fun _=>sing_any)
  have hH:∀ s' p',¬ HU L s' p'→¬ HU ((i,r,t,ij :: q) :: L) s' p'∨(s'=t∧(ij :: q) <+: p'):=fun s' p' h=>HU_cons h
  have hno:∀ r,(AV.at .any r).isNode=true→False:=fun r h=>by rw [any_at] at h;cases h
  have hsep:=SepH.setP (ρ':=ρ) (x:=.any) (H':=HU L) c.mem hR hv (fun _=>sing_any) hH (fun v _ _=>.inr ⟨rfl,.any v⟩) (fun _ _ _=>rfl)
   (fun r _=>by rw [any_at];trivial) (fun r k _ h=>(hno r h).elim) (fun r k r' k' h=>(hno r h).elim) (fun r k s' T' p' k' h=>(hno r h).elim)
  have hsub:∀ b,OwnsH ρ (st.setMem t (R.setP (ij :: q) .any)).mem (HU L) b→OwnsH ρ st.mem (HU ((i,r,t,ij :: q) :: L)) b:=by
   intro b hb
   rcases ownsH_setP (ρ':=ρ) hR hv hH (fun _ _ _=>rfl) hb with ⟨r',k,h1,_⟩ | hb
   ·exact (hno r' h1).elim
   ·exact hb
  refine ⟨_,h,⟨c.held,c.below,c.keeps,c.size,c.defers,c.fr,hsep,fun b hb=>c.lo b (hsub b hb),fun j c' T' q' g1 g2 g3=>?_⟩,fun b hb s T p k g1 g2 g3 g4=>hap b (hsub b hb) s T p k g1 (hRem s p g2) g3 g4,fun t' q' hd hnn=>?_⟩
  ·simp only [St.setMem] at g2
   by_cases e:j=t
   ·rw [if_pos e] at g2
    cases g2
    subst e
    exact c.fix j c' R q' g1 hR (topPos_setP (by simp) g3)
   ·rw [if_neg e] at g2
    exact c.fix j c' T' q' g1 g2 g3
  ·by_cases e:t'=t
   ·subst e
    have hd:=hd.resolve_left (fun h=>h rfl)
    have e1:nodeAt (st.setMem t' (R.setP (ij :: q) .any)).mem t' q'=(R.setP (ij :: q) .any).at q':=by simp [nodeAt,St.setMem]
    have e2:nodeAt st.mem t' q'=R.at q':=by simp [nodeAt,hR]
    rw [e2] at hnn
    rw [e1,e2]
    rcases at_setP_ne (ij :: q) R q' hv hd.1 with ⟨h,_⟩ | ⟨kl,Q',hq,_⟩
    ·rw [h];exact ⟨hnn,rfl⟩
    ·exact (hd.2 ⟨kl :: Q',hq.symm⟩).elim
   ·have e1:nodeAt (st.setMem t (R.setP (ij :: q) .any)).mem t' q'=nodeAt st.mem t' q':=by simp [nodeAt,St.setMem,e]
    rw [e1];exact ⟨hnn,rfl⟩

def R1 (x y:Src):Prop:=y.2.2.1≠x.2.2.1∨Div x.2.2.2 y.2.2.2
def R2 (x y:Src):Prop:=y.1≠x.1∨Div x.2.1 y.2.1
theorem Div.symm {p q:Path} (h:Div p q):Div q p:=⟨h.2,h.1⟩
theorem R1.symm {x y:Src} (h:R1 x y):R1 y x:=h.imp Ne.symm Div.symm
theorem R2.symm {x y:Src} (h:R2 x y):R2 y x:=h.imp Ne.symm Div.symm
theorem pair_mem {α:Type} {R:α→α→Prop} (hs:∀ x y,R x y→R y x):∀ {l:List α},l.Pairwise R→∀ x∈l,∀ y∈l,x=y∨R x y
 | a :: r,h,x,hx,y,hy=>by
  obtain ⟨h1,h2⟩:=List.pairwise_cons.1 h
  rcases List.mem_cons.1 hx with ex | hx2
  ·rcases List.mem_cons.1 hy with ey | hy2
   ·exact .inl (ex.trans ey.symm)
   ·exact .inr (ex ▸ h1 y hy2)
  ·rcases List.mem_cons.1 hy with ey | hy2
   ·exact .inr (hs _ _ (ey ▸ h1 x hx2))
   ·exact pair_mem hs h2 x hx2 y hy2

structure GiveOk (po:Option (Nat→Path→Bool)) (E:Entry) (πx:Pl) (ext:Nat→Option AV) (n:Nat) (outs:List (Option AV)) (mem:Nat→Option AV) (ρ:Pl) (x:Src):Prop where
 ne:x.1≠n
 node:(nodeAt mem x.2.2.1 x.2.2.2).isNode=true
 out:∀ T,outs.getD x.1 none=some T→ext x.1=some T∧(T.at x.2.1).sig1=(nodeAt mem x.2.2.1 x.2.2.2).sig1∧πx x.1 x.2.1=ρ x.2.2.1 x.2.2.2 ∧
  (∀ p k,((T.at x.2.1).at p).isNode=true→πx x.1 (x.2.1++p)=some k→E.w0.heap.size≤k.b∨E.lent k.b)∧∀ u,pinsOf po x.1 (x.2.1++u)=true→πx x.1 (x.2.1++u)=ρ x.2.2.1 (x.2.2.2++u)

theorem giveS_sound (hx:Sep I πx w ext) {po:Option (Nat→Path→Bool)} {outs:List (Option AV)} {n:Nat} {K:St→Prop}:∀ (L:List Src) (st:St) (ρ:Pl),Mid N E st a w I ρ (HU L)→Apart ρ st.mem (HU L) πx ext n L→L.Pairwise R1→L.Pairwise R2→(∀ x∈L,GiveOk po E πx ext n outs st.mem ρ x)→giveS po outs L st K →
  ∃ st' ρ',K st'∧Mid N E st' a w I ρ' (HU [])∧Apart ρ' st'.mem (HU []) πx ext n []
 | [],st,ρ,c,hap,_,_,_,h=>⟨st,ρ,h,c,hap⟩
 | (i,r,t,q) :: L,st,ρ,c,hap,p1,p2,hok,h=>by
  obtain ⟨p1h,p1⟩:=List.pairwise_cons.1 p1
  obtain ⟨p2h,p2⟩:=List.pairwise_cons.1 p2
  have hdiv:∀ i' r' q',(i',r',t,q')∈L→Div q q':=fun i' r' q' hm=>(p1h _ hm).resolve_left fun h=>h rfl
  have hdr:∀ r' t' q',(i,r',t',q')∈L→Div r r':=fun r' t' q' hm=>(p2h _ hm).resolve_left fun h=>h rfl
  obtain ⟨hne,hnode,hout⟩:=hok _ (List.mem_cons_self ..)
  simp only at hne hnode hout
  obtain ⟨R,hR,hRq⟩:∃ R,st.mem t=some R∧nodeAt st.mem t q=R.at q:=by
   obtain ⟨R,h1,h2⟩:=nodeAt_some (T:=nodeAt st.mem t q) rfl hnode
   exact ⟨R,h1,h2.symm⟩
  rw [hRq] at hnode
  unfold giveS at h
  cases ho:outs.getD i none with
  | none =>
   rw [ho] at h
   obtain ⟨st',hK,c',hap',hkeep⟩:=give_none (K:=fun st'=>giveS po outs L st' K) c hap hdiv hR hnode h
   refine giveS_sound hx L st' ρ c' hap' p1 p2 (fun x hxm=>?_) hK
   obtain ⟨q1,q2,q3⟩:=hok x (List.mem_cons_of_mem _ hxm)
   obtain ⟨k1,k2⟩:=hkeep x.2.2.1 x.2.2.2 (p1h x hxm) q2
   exact ⟨q1,k1,fun T hT=>by rw [k2];exact q3 T hT⟩
  | some T =>
   rw [ho] at h
   obtain ⟨h1,h2,h3,h4,h5⟩:=hout T ho
   rw [hRq] at h2
   obtain ⟨st',ρ',hK,c',hap',hρ,hkeep⟩:=give_some (K:=fun st'=>giveS po outs L st' K) c hx hap h1 hne hdiv hdr hR hnode h2 h3 h4 (pinF_ok h3 h5) h
   refine giveS_sound hx L st' ρ' c' hap' p1 p2 (fun x hxm=>?_) hK
   obtain ⟨q1,q2,q3⟩:=hok x (List.mem_cons_of_mem _ hxm)
   obtain ⟨k1,k2⟩:=hkeep x.2.2.1 x.2.2.2 (p1h x hxm) q2
   refine ⟨q1,k1,fun T hT=>?_⟩
   obtain ⟨g1,g2,g3,g4,g5⟩:=q3 T hT
   have hd:=p1h x hxm
   rw [k2,hρ x.2.2.1 x.2.2.2 (hd.imp id (fun h=>h.1))]
   refine ⟨g1,g2,g3,g4,fun u hu=>?_⟩
   rw [hρ x.2.2.1 (x.2.2.2++u) (hd.imp id (fun h=>div_of_div h.symm (List.prefix_append _ u)))]
   exact g5 u hu

def TakeC (mem:Nat→Option AV) (i:Nat) (a:AV) (r:Path) (c:AV) (s:List Src):Prop :=
 (a.bears=false∧c=a∧s=[])∨∃ t q,s=[(i,r,t,q)]∧c=nodeAt mem t q∧c.isNode=true∧a=c.atom t q
inductive TakeCs (mem:Nat→Option AV) (i:Nat):Nat→List AV→List AV→List Src→Prop
 | nil (j:Nat):TakeCs mem i j [] [] []
 | cons {j:Nat} {x x':AV} {r l:List AV} {s s':List Src} (h:TakeC mem i x [(0,j)] x' s) (h':TakeCs mem i (j+1) r l s'):TakeCs mem i j (x :: r) (x' :: l) (s++s')
def TakeA (mem:Nat→Option AV) (i:Nat) (a c:AV) (s:List Src):Prop :=
 (∃ fs l,a=.agg fs∧c=.agg l∧TakeCs mem i 0 fs l s)∨(TakeC mem i a [] c s∧∀ fs,a≠.agg fs)
inductive TakeAll (mem:Nat→Option AV):Nat→List AV→List (Option AV)→List Src→Prop
 | nil (i:Nat):TakeAll mem i [] [] []
 | take {i:Nat} {a c:AV} {r:List AV} {l:List (Option AV)} {s s':List Src} (h:TakeA mem i a c s) (h':TakeAll mem (i+1) r l s'):TakeAll mem i (a :: r) (some c :: l) (s++s')
 | skip {i:Nat} {a:AV} {r:List AV} {l:List (Option AV)} {s:List Src} (h':TakeAll mem (i+1) r l s):TakeAll mem i (a :: r) (none :: l) s

theorem takeC_spec {i:Nat} {a:AV} {r:Path} {K:AV→List Src→Prop} (h:takeC mem i a r K .mk):∃ c s,K c s∧TakeC mem i a r c s:=by
 unfold takeC at h
 split at h
 ·rename_i t q z o n
  obtain ⟨rfl,h⟩:=h
  unfold takeTr at h
  split at h
  ·rename_i z' es hT
   obtain ⟨⟨rfl,rfl⟩,k⟩:=h
   exact ⟨_,_,k,.inr ⟨t,q,rfl,hT.symm,rfl,rfl⟩⟩
  ·exact h.elim
 ·rename_i t q i' j
  obtain ⟨⟨rfl,rfl⟩,h⟩:=h
  unfold takePt at h
  split at h
  ·rename_i z x hT
   exact ⟨_,_,h,.inr ⟨t,q,rfl,hT.symm,rfl,rfl⟩⟩
  ·exact h.elim
 ·rename_i t q
  unfold takeMt at h
  split at h
  ·rename_i kd f hT
   exact ⟨_,_,h,.inr ⟨t,q,rfl,hT.symm,rfl,rfl⟩⟩
  ·exact h.elim
 ·exact ⟨_,_,h.2,.inl ⟨h.1,rfl,rfl⟩⟩
theorem takeCs_spec {i:Nat}:∀ (fs:List AV) (j:Nat) {K:List AV→List Src→Prop},takeCs mem i j fs K→∃ l s,K l s∧TakeCs mem i j fs l s
 | [],j,K,h=>⟨[],[],h,.nil j⟩
 | x :: r,j,K,h=>by
  obtain ⟨x',s,h,h1⟩:=takeC_spec h
  obtain ⟨l,s',h,h2⟩:=takeCs_spec r (j+1) h
  exact ⟨_,_,h,.cons h1 h2⟩
theorem takeA_spec {i:Nat} {a:AV} {K:AV→List Src→Prop} (h:takeA mem i a K):∃ c s,K c s∧TakeA mem i a c s:=by
 by_cases ha:∃ fs,a=.agg fs
 ·obtain ⟨fs,rfl⟩:=ha
  obtain ⟨l,s,h,h1⟩:=takeCs_spec fs 0 h
  exact ⟨_,_,h,.inl ⟨fs,l,rfl,rfl,h1⟩⟩
 ·have e:takeA mem i a K=takeC mem i a [] K .mk:=by cases a <;> first | rfl | exact absurd ⟨_,rfl⟩ ha
  rw [e] at h
  obtain ⟨c,s,h,h1⟩:=takeC_spec h
  exact ⟨c,s,h,.inr ⟨h1,fun fs e=>ha ⟨fs,e⟩⟩⟩
theorem takeAll_spec:∀ (args:List AV) (i:Nat) (ms:List Bool) {K:List (Option AV)→List Src→Prop},takeAll mem i ms args K→∃ l s,K l s∧TakeAll mem i args l s
 | [],i,ms,K,h=>⟨[],[],by cases ms <;> exact h,.nil i⟩
 | a :: r,i,[],K,h=>by
  obtain ⟨l,s,h,h1⟩:=takeAll_spec r (i+1) [] h
  exact ⟨_,_,h,.skip h1⟩
 | a :: r,i,true :: ms,K,h=>by
  have h:takeA mem i a (fun c s=>takeAll mem (i+1) ms r fun l s'=>K (some c :: l) (s++s')):=h
  obtain ⟨c,s,h,h1⟩:=takeA_spec h
  obtain ⟨l,s',h,h2⟩:=takeAll_spec r (i+1) ms h
  exact ⟨_,_,h,.take h1 h2⟩
 | a :: r,i,false :: ms,K,h=>by
  obtain ⟨l,s,h,h1⟩:=takeAll_spec r (i+1) ms h
  exact ⟨_,_,h,.skip h1⟩

theorem TakeCs.src {i:Nat} {j:Nat} {fs l:List AV} {s:List Src} (h:TakeCs mem i j fs l s):∀ x∈s,∃ m t q,x=(i,[(0,j+m)],t,q)∧l.getD m .any=nodeAt mem t q∧(nodeAt mem t q).isNode=true:=by
 induction h with
 | nil j=>intro x hx;cases hx
 | @cons j x0 x' r l s s' h h' ih =>
  intro x hx
  rcases List.mem_append.1 hx with hx | hx
  ·rcases h with ⟨_,_,rfl⟩ | ⟨t,q,rfl,h1,h2,_⟩
   ·cases hx
   ·simp at hx
    subst hx
    exact ⟨0,t,q,rfl,h1,h1 ▸ h2⟩
  ·obtain ⟨m,t,q,rfl,h1,h2⟩:=ih x hx
   refine ⟨m+1,t,q,by congr 4;omega,?_,h2⟩
   simpa using h1
theorem TakeCs.pair {i:Nat} {j:Nat} {fs l:List AV} {s:List Src} (h:TakeCs mem i j fs l s):s.Pairwise R2:=by
 induction h with
 | nil j=>exact .nil
 | @cons j x0 x' r l s s' h h' ih =>
  refine List.pairwise_append.2 ⟨?_,ih,fun x hx y hy=>?_⟩
  ·rcases h with ⟨_,_,rfl⟩ | ⟨t,q,rfl,_⟩
   ·exact .nil
   ·exact List.pairwise_singleton _ _
  ·rcases h with ⟨_,_,rfl⟩ | ⟨t,q,rfl,_⟩
   ·cases hx
   ·simp at hx
    subst hx
    obtain ⟨m,t',q',rfl,_⟩:=h'.src y hy
    right
    constructor
    ·rintro ⟨r,hr⟩;simp at hr;omega
    ·rintro ⟨r,hr⟩;simp at hr;omega
theorem TakeA.src {i:Nat} {a c:AV} {s:List Src} (h:TakeA mem i a c s):∀ x∈s,∃ r t q,x=(i,r,t,q)∧TopPos c r∧c.at r=nodeAt mem t q∧(nodeAt mem t q).isNode=true:=by
 intro x hx
 rcases h with ⟨fs,l,rfl,rfl,h⟩ | ⟨h,ha⟩
 ·obtain ⟨m,t,q,rfl,h1,h2⟩:=h.src x hx
  exact ⟨_,t,q,rfl,⟨0+m,rfl⟩,by rw [Nat.zero_add];exact h1,h2⟩
 ·rcases h with ⟨_,_,rfl⟩ | ⟨t,q,rfl,h1,h2,_⟩
  ·cases hx
  ·simp at hx
   subst hx
   refine ⟨[],t,q,rfl,?_,h1,h1 ▸ h2⟩
   cases c <;> first | rfl | cases h2
theorem TakeA.pair {i:Nat} {a c:AV} {s:List Src} (h:TakeA mem i a c s):s.Pairwise R2:=by
 rcases h with ⟨fs,l,rfl,rfl,h⟩ | ⟨h,ha⟩
 ·exact h.pair
 ·rcases h with ⟨_,_,rfl⟩ | ⟨t,q,rfl,_⟩
  ·exact .nil
  ·exact List.pairwise_singleton _ _
theorem TakeAll.len {i:Nat} {args:List AV} {l:List (Option AV)} {s:List Src} (h:TakeAll mem i args l s):l.length=args.length:=by
 induction h with
 | nil=>rfl
 | take _ _ ih=>simp [ih]
 | skip _ ih=>simp [ih]
theorem TakeAll.get {i:Nat} {args:List AV} {l:List (Option AV)} {s:List Src} (h:TakeAll mem i args l s):∀ m (hm:m<args.length) c,l[m]? = some (some c)→∃ s',TakeA mem (i+m) (args[m]) c s'∧(∀ x∈s',x∈s):=by
 induction h with
 | nil=>intro m hm;cases hm
 | @take i a c0 r l s s' h h' ih =>
  intro m hm c hc
  cases m with
  | zero=>simp at hc;subst hc;exact ⟨s,h,fun x hx=>List.mem_append_left _ hx⟩
  | succ m =>
   obtain ⟨s2,g1,g2⟩:=ih m (by simpa using hm) c (by simpa using hc)
   refine ⟨s2,?_,fun x hx=>List.mem_append_right _ (g2 x hx)⟩
   have e:i+(m+1)=i+1+m:=by omega
   rw [e];simpa using g1
 | @skip i a r l s h' ih =>
  intro m hm c hc
  cases m with
  | zero=>simp at hc
  | succ m =>
   obtain ⟨s2,g1,g2⟩:=ih m (by simpa using hm) c (by simpa using hc)
   refine ⟨s2,?_,g2⟩
   have e:i+(m+1)=i+1+m:=by omega
   rw [e];simpa using g1
theorem TakeAll.src {i:Nat} {args:List AV} {l:List (Option AV)} {s:List Src} (h:TakeAll mem i args l s):∀ x∈s,∃ m c r t q,m<args.length∧l[m]? = some (some c)∧x=(i+m,r,t,q)∧TopPos c r∧c.at r=nodeAt mem t q∧(nodeAt mem t q).isNode=true:=by
 induction h with
 | nil=>intro x hx;cases hx
 | @take i a c0 r l s s' h h' ih =>
  intro x hx
  rcases List.mem_append.1 hx with hx | hx
  ·obtain ⟨r,t,q,rfl,h1⟩:=h.src x hx
   exact ⟨0,c0,r,t,q,by simp,rfl,rfl,h1⟩
  ·obtain ⟨m,c,r,t,q,g1,g2,rfl,g3⟩:=ih x hx
   exact ⟨m+1,c,r,t,q,by simpa using g1,by simpa using g2,by congr 1;omega,g3⟩
 | @skip i a r l s h' ih =>
  intro x hx
  obtain ⟨m,c,r,t,q,g1,g2,rfl,g3⟩:=ih x hx
  exact ⟨m+1,c,r,t,q,by simpa using g1,by simpa using g2,by congr 1;omega,g3⟩
theorem TakeAll.pair {i:Nat} {args:List AV} {l:List (Option AV)} {s:List Src} (h:TakeAll mem i args l s):s.Pairwise R2:=by
 induction h with
 | nil=>exact .nil
 | @take i a c0 r l s s' h h' ih =>
  refine List.pairwise_append.2 ⟨h.pair,ih,fun x hx y hy=>?_⟩
  obtain ⟨r,t,q,rfl,_⟩:=h.src x hx
  obtain ⟨m,c,r,t,q,_,_,rfl,_⟩:=h'.src y hy
  left
  show i+1+m≠i
  omega
 | skip h' ih=>exact ih
end
end Go.AM
namespace Go.AM
open Go.RowKit (Below)

section
variable {P:Program} {N:Nat} {E:Entry} {st:St} {a:Act} {w w':World} {I I' J:Gh} {ρ ρ' πx:Pl} {mem mem' ext:Nat→Option AV} {H H':Nat→Path→Prop}

theorem TakeCs.len {i j:Nat} {fs l:List AV} {s:List Src} (h:TakeCs mem i j fs l s):l.length=fs.length:=by
 induction h with
 | nil=>rfl
 | cons _ _ ih=>simp [ih]
theorem TakeCs.get {i j:Nat} {fs l:List AV} {s:List Src} (h:TakeCs mem i j fs l s):∀ m (hm:m<fs.length) (hl:m<l.length),∃ s',TakeC mem i (fs[m]) [(0,j+m)] (l[m]) s'∧∀ x∈s',x∈s:=by
 induction h with
 | nil=>intro m hm;cases hm
 | @cons j x0 x' r l s s' h h' ih =>
  intro m hm hl
  cases m with
  | zero=>exact ⟨s,h,fun x hx=>List.mem_append_left _ hx⟩
  | succ m =>
   obtain ⟨s2,g1,g2⟩:=ih m (by simpa using hm) (by simpa using hl)
   refine ⟨s2,?_,fun x hx=>List.mem_append_right _ (g2 x hx)⟩
   have e:j+(m+1)=j+1+m:=by omega
   rw [e];simpa using g1

theorem node_hdr (m:Sep I ρ w mem) {t:Nat} {q:Path} {c:AV} {v:Value} (hc:c=nodeAt mem t q) (hn:c.isNode=true) (r:Rep J ρ (c.atom t q) v):Hdr (ρ t q) c v:=by
 obtain ⟨R,hR,hRq⟩:=nodeAt_some hc.symm hn
 have hrow:=m.row t R q hR
 rw [hRq] at hrow
 cases c <;> try (cases hn)
 case tr z es =>
  rcases rep_ref r with ⟨k,h1,h2,h3,h4⟩ | ⟨h1,x,h2⟩
  ·exact .inl ⟨k,h1,h2,by omega,by simpa using h4⟩
  ·exact .inr ⟨List.eq_nil_of_length_eq_zero h1,x,h2⟩
 case pt z x =>
  obtain ⟨k,h1,h2⟩:=rep_loc r
  rcases hrow with ⟨_,h⟩ | ⟨k',Et,arr,g1,g2,g3,_⟩
  ·cases h
  ·rw [h1] at g1;cases g1
   exact ⟨k,h1,g2,by simpa using g3,by simpa using h2⟩
 case mt kd f =>
  obtain ⟨k,h1,h2⟩:=rep_mref r
  exact ⟨k,h1,h2⟩
theorem TakeC.cell {i:Nat} {x c:AV} {r:Path} {s:List Src} {v:Value} (m:Sep I ρ w mem) (h:TakeC mem i x r c s) (hr:Rep J ρ x v) {π:Path→Option Plc} (hπ:∀ t q,(i,r,t,q)∈s→π r=ρ t q):CellOk J (π r) c v:=by
 rcases h with ⟨h1,rfl,rfl⟩ | ⟨t,q,rfl,h1,h2,rfl⟩
 ·exact rs_cell (nb_stat hr h1) _
 ·rw [hπ t q (by simp)]
  exact .inl ⟨h2,node_hdr m h1 h2 hr⟩
theorem TakeA.top {i:Nat} {x c:AV} {s:List Src} {v:Value} (m:Sep I ρ w mem) (h:TakeA mem i x c s) (hr:Rep J ρ x v) {π:Path→Option Plc} (hπ:∀ r t q,(i,r,t,q)∈s→π r=ρ t q):TopOk J π [] c v:=by
 rcases h with ⟨fs,l,rfl,rfl,h⟩ | ⟨h,ha⟩
 ·obtain ⟨arr,rfl,h1,h2⟩:=rep_agg hr
  refine ⟨arr,rfl,h1.trans h.len.symm,fun j hj hk=>?_⟩
  have hj':j<fs.length:=by rw [← h.len];exact hj
  obtain ⟨s',g1,g2⟩:=h.get j hj' hj
  rw [Nat.zero_add] at g1
  exact g1.cell m (h2 j hj' hk) (fun t q hm=>hπ _ t q (g2 _ hm))
 ·rcases h with ⟨h1,rfl,rfl⟩ | ⟨t,q,rfl,h1,h2,rfl⟩
  ·exact rs_top (nb_stat hr h1) _ _
  ·have hc:CellOk J (π []) c v:=by
    rw [hπ [] t q (by simp)]
    exact .inl ⟨h2,node_hdr m h1 h2 hr⟩
   cases c <;> first | exact hc | cases h2
theorem TakeA.cov {i:Nat} {x c:AV} {s:List Src} {v:Value} (h:TakeA mem i x c s) (hr:Rep J ρ x v) {p:Path} (hp:(c.at p).isNode=true):∃ r t q p',(i,r,t,q)∈s∧p=r++p'∧c.at p=(nodeAt mem t q).at p':=by
  rcases h with ⟨fs,l,rfl,rfl,h⟩ | ⟨h,ha⟩
  · cases p with
    | nil=>cases hp
    | cons ij p =>
      obtain ⟨i0,m⟩:=ij
      have hp:(AV.at ((AV.agg l).cellAt i0 m) p).isNode=true:=hp
      cases i0 with
      | succ i0 => have e:(AV.agg l).cellAt (i0+1) m=.any:=rfl
                   rw [e,any_at] at hp;cases hp
      | zero =>
        have e:(AV.agg l).cellAt 0 m=l.getD m .any:=rfl
        rw [e] at hp
        by_cases hm:m<l.length
        · rw [getD_lt hm] at hp
          have hm':m<fs.length:=by rw [← h.len];exact hm
          obtain ⟨arr,rfl,h1,h2⟩:=rep_agg hr
          obtain ⟨s',g1,g2⟩:=h.get m hm' hm
          rw [Nat.zero_add] at g1
          rcases g1 with ⟨g3,g4,_⟩ | ⟨t,q,rfl,g3,_⟩
          · rw [g4] at hp
            rw [rs_at (nb_stat (h2 m hm' (by omega)) g3) p] at hp;cases hp
          · refine ⟨[(0,m)],t,q,p,g2 _ (by simp),rfl,?_⟩
            show AV.at ((AV.agg l).cellAt 0 m) p=_
            rw [e,getD_lt hm,g3]
        · rw [getD_ge (by omega),any_at] at hp;cases hp
  · rcases h with ⟨h1,rfl,rfl⟩ | ⟨t,q,rfl,h1,h2,rfl⟩
    · rw [rs_at (nb_stat hr h1) p] at hp;cases hp
    · exact ⟨[],t,q,p,by simp,rfl,by rw [h1]⟩

def lendP (ρ:Pl):List Src→Pl
 | [],_,_=>none
 | (i,r,t,q) :: s,i',p=>if i'=i∧isPref r p=true then ρ t (q++p.drop r.length) else lendP ρ s i' p
theorem lendP_at:∀ {s:List Src} (_:s.Pairwise R2) {i t:Nat} {r q:Path} (_:(i,r,t,q)∈s) (p:Path),lendP ρ s i (r++p)=ρ t (q++p)
 | (i0,r0,t0,q0) :: s,h,i,t,r,q,hm,p=>by
  obtain ⟨h1,h2⟩:=List.pairwise_cons.1 h
  unfold lendP
  rcases List.mem_cons.1 hm with e | hm2
  ·cases e
   rw [if_pos ⟨rfl,(prefix_iff _ _).2 ⟨p,rfl⟩⟩];simp
  ·rw [if_neg]
   ·exact lendP_at h2 hm2 p
   ·rintro ⟨ei,hp⟩
    rcases h1 _ hm2 with h3 | h3
    ·exact h3 ei
    ·obtain ⟨p2,hp2⟩:=(prefix_iff _ _).1 hp
     exact div_of_div h3.symm (List.prefix_append r p) ⟨p2,hp2.symm⟩
theorem args_len (mem:Nat→Option AV):∀ (l:List (Option AV)) (args:List AV),l.length=args.length→(argsOf mem l args).length=args.length
 | [],[],_=>rfl
 | some c :: l,a :: r,h=>by simp [argsOf,args_len mem l r (by simpa using h)]
 | none :: l,a :: r,h=>by simp [argsOf,args_len mem l r (by simpa using h)]
 | [],a :: r,h=>by simp at h
 | some c :: l,[],h=>by simp at h
 | none :: l,[],h=>by simp at h
theorem args_get (mem:Nat→Option AV):∀ (l:List (Option AV)) (args:List AV) (m:Nat) (h:m<(argsOf mem l args).length) (h':m<args.length),(∃ c,l[m]? = some (some c)∧(argsOf mem l args)[m]=c)∨(l[m]? = some none∧(argsOf mem l args)[m]=(args[m]).view mem)
 | some c :: l,a :: r,0,_,_=>.inl ⟨c,rfl,rfl⟩
 | none :: l,a :: r,0,_,_=>.inr ⟨rfl,rfl⟩
 | some c :: l,a :: r,m+1,h,h'=>by
  have:=args_get mem l r m (by simpa [argsOf] using h) (by simpa using h')
  simpa [argsOf] using this
 | none :: l,a :: r,m+1,h,h'=>by
  have:=args_get mem l r m (by simpa [argsOf] using h) (by simpa using h')
  simpa [argsOf] using this
 | [],a :: r,m,h,_=>by cases m <;> simp [argsOf] at h
 | _,[],m,_,h'=>by cases h'
theorem lentOf_get:∀ (l:List (Option AV)) (args:List AV),lentOf l args=false→∀ m (hm:m<args.length),l[m]? = some none→(args[m]).bears=false
 | some c :: l,a :: r,h,m,hm,hl=>by
  cases m with
  | zero=>cases hl
  | succ m=>exact lentOf_get l r h m (by simpa using hm) (by simpa using hl)
 | none :: l,a :: r,h,m,hm,hl=>by
  simp only [lentOf,Bool.or_eq_false_iff] at h
  cases m with
  | zero=>exact h.1
  | succ m=>exact lentOf_get l r h.2 m (by simpa using hm) (by simpa using hl)
 | [],a :: r,h,m,hm,hl=>by simp at hl
 | l,[],h,m,hm,hl=>by cases hm
theorem pureO_get:∀ (outs:List (Option AV)),pureO outs=true→∀ (i:Nat) (T:AV),outs[i]? = some (some T)→T.pure=true
 | some T0 :: r,h,i,T,hT=>by
  simp only [pureO,Bool.and_eq_true] at h
  cases i with
  | zero=>simp at hT;subst hT;exact h.1
  | succ i=>exact pureO_get r h.2 i T (by simpa using hT)
 | none :: r,h,i,T,hT=>by
  simp only [pureO] at h
  cases i with
  | zero=>simp at hT
  | succ i=>exact pureO_get r h i T (by simpa using hT)
 | [],h,i,T,hT=>by simp at hT
theorem divB_spec:∀ (p q:Path),divB p q=true→Div p q
 | a :: p,b :: q,h=>by
  simp only [divB,Bool.or_eq_true,Bool.not_eq_true',decide_eq_false_iff_not] at h
  rcases h with h | h
  ·have hab:a≠b:=fun e=>h (by rw [e];exact ⟨rfl,rfl⟩)
   constructor
   ·intro hp;exact hab (List.cons_prefix_cons.1 hp).1
   ·intro hp;exact hab (List.cons_prefix_cons.1 hp).1.symm
  ·have:=divB_spec p q h
   constructor
   ·intro hp;exact this.1 (List.cons_prefix_cons.1 hp).2
   ·intro hp;exact this.2 (List.cons_prefix_cons.1 hp).2
 | [],_,h=>by simp [divB] at h
 | _ :: _,[],h=>by simp [divB] at h
theorem apart1_spec (t:Nat) (q:Path):∀ (s:List Src),apart1 t q (placesOf s)=true→∀ x∈s,x.2.2.1≠t∨Div q x.2.2.2
 | (i,r,t',q') :: s,h,x,hx=>by
  simp only [placesOf,apart1,Bool.and_eq_true,Bool.or_eq_true,Bool.not_eq_true',decide_eq_false_iff_not] at h
  rcases List.mem_cons.1 hx with rfl | hx
  ·rcases h.1 with h | h
   ·exact .inl (Ne.symm h)
   ·exact .inr (divB_spec _ _ h)
  ·exact apart1_spec t q s h.2 x hx
theorem apart_spec:∀ (s:List Src),apartL (placesOf s)=true→s.Pairwise R1
 | [],_=>.nil
 | (i,r,t,q) :: s,h=>by
  simp only [placesOf,apartL,Bool.and_eq_true] at h
  exact List.pairwise_cons.2 ⟨fun x hx=>apart1_spec t q s h.1 x hx,apart_spec s h.2⟩
theorem roots_mem:∀ (s:List Src) {i t:Nat} {r q:Path},(i,r,t,q)∈s→(rootsOf s).contains t=true
 | (i0,r0,t0,q0) :: s,i,t,r,q,h=>by
  rcases List.mem_cons.1 h with e | h
  ·cases e;simp [rootsOf]
  ·have:=roots_mem s h
   simp only [rootsOf,List.contains_cons,Bool.or_eq_true]
   exact .inr this

theorem Conc.setAny (c:Conc N E st a w I ρ) {d:Nat} {T:AV} {π:Path→Option Plc} (hd:ρ d=π) (hno:st.mem d=none) (hnp:E.args[d]? = none) (hT:Sep I (fun _=>π) w (fun i=>if i=0 then some T else none))
  (hdis:∀ p k,(T.at p).isNode=true→π p=some k→¬ Owns ρ st.mem k.b) (hlo:∀ p k,(T.at p).isNode=true→π p=some k→E.w0.heap.size≤k.b∨E.lent k.b):Conc N E (st.setMem d T) a w I ρ:=by
 subst hd
 have hm:∀ {s T'},(st.setMem d T).mem s=some T'→(s=d∧T'=T)∨(s≠d∧st.mem s=some T'):=by
  intro s T' h
  simp only [St.setMem] at h
  split at h
  ·rename_i e;cases h;exact .inl ⟨e,rfl⟩
  ·rename_i e;exact .inr ⟨e,h⟩
 have h00:(fun i=>if i=0 then some T else none:Nat→Option AV) 0=some T:=rfl
 refine ⟨c.held,c.below,c.keeps,c.size,c.defers,c.fr,⟨fun s T' p h=>?_,fun s T' p k h h1 h2=>?_,fun s T1 p k s' T2 p' k' h h1 h2 h' h1' h2' he=>?_⟩,fun b hb=>?_,fun i c' T' q h1 hT' h3=>?_⟩
 ·rcases hm h with ⟨rfl,rfl⟩ | ⟨_,h⟩
  ·exact hT.row 0 _ p h00
  ·exact c.mem.row s T' p h
 ·rcases hm h with ⟨rfl,rfl⟩ | ⟨_,h⟩
  ·exact hT.free 0 _ p k h00 h1 h2
  ·exact c.mem.free s T' p k h h1 h2
 ·rcases hm h with ⟨rfl,rfl⟩ | ⟨hne,h⟩
  ·rcases hm h' with ⟨rfl,rfl⟩ | ⟨hne',h'⟩
   ·exact ⟨rfl,(hT.inj 0 _ p k 0 _ p' k' h00 h1 h2 h00 h1' h2' he).2⟩
   ·exact (hdis p k h1 h2 ⟨s',T2,p',k',h',h1',h2',he.symm⟩).elim
  ·have h5:=h
   rcases hm h' with ⟨rfl,rfl⟩ | ⟨hne',h'⟩
   ·exact (hdis p' k' h1' h2' ⟨s,T1,p,k,h5,h1,h2,he⟩).elim
   ·exact c.mem.inj s T1 p k s' T2 p' k' h5 h1 h2 h' h1' h2' he
 ·obtain ⟨s,T',p,k,h1,h2,h3,rfl⟩:=hb
  rcases hm h1 with ⟨rfl,rfl⟩ | ⟨_,h1⟩
  ·exact hlo p k h2 h3
  ·exact c.lo k.b ⟨s,T',p,k,h1,h2,h3,rfl⟩
 ·rcases hm hT' with ⟨rfl,rfl⟩ | ⟨_,h⟩
  ·rw [hnp] at h1;cases h1
  ·exact c.fix i c' T' q h1 h h3

theorem callX_sound (c:Conc N E st a w I ρ) {d:Option Nat} (hd:∀ t,d=some t→t<N) (hnp:∀ t,d=some t→E.args[t]? = none) {f:FuncId} {args:List AV} {l:List (Option AV)} {s:List Src} {vals:Array Value} {K:St→Prop}
    (ht:TakeAll st.mem 0 args l s) (hap:apartL (placesOf s)=true) (hn:vals.size=args.length) (hr:∀ j (hj:j<args.length) (hk:j<vals.size),Rep I ρ (args[j]) (vals[j]))
    (h:callX P st d f s (argsOf (hideM (rootsOf s) st.mem) l args) (lentOf l args) K .mk .mk) :
    HasBody P f∧Calls P f vals w fun e w'=>∃ x,e=.returned x∧∃ st',K st'∧CC N E st' (a.put d x) w':=by
  obtain ⟨outs,r,po,hq,hl,hgive⟩:=h
  have hq:SpecP P f (argsOf (hideM (rootsOf s) st.mem) l args) outs r (pinsOf po):=by
    cases po with
    | some g=>exact hq
    | none =>
      obtain ⟨q1,q2,q3,q4⟩:=(hq:SpecX P f _ outs r)
      refine ⟨q1,q2,q3,fun I π w vals g1 g2 g3 g4=>(q4 I π w vals g1 g2 g3 g4).mono ?_⟩
      rintro e w' ⟨I',π',x,k1,k2,k3,k4,k5,k6⟩
      exact ⟨I',π',x,k1,k2,k3,k4,fun j T hT q hp=>k5 j T hT q (hp.resolve_right (fun h=>by cases h)),k6⟩
  obtain ⟨hbody,holen,hosig,hspec⟩:=hq
  refine ⟨hbody,?_⟩
  have hp1:=apart_spec s hap
  have hp2:=ht.pair
  have hlen:=args_len (hideM (rootsOf s) st.mem) l args ht.len
  have hget:=args_get (hideM (rootsOf s) st.mem) l args
  generalize hA:argsOf (hideM (rootsOf s) st.mem) l args=A at hlen hget hosig hspec holen
  have hhide:∀ s0 T,hideM (rootsOf s) st.mem s0=some T→st.mem s0=some T∧(rootsOf s).contains s0=false:=by
    intro s0 T h
    unfold hideM at h
    split at h
    · cases h
    · rename_i e;exact ⟨h,e⟩
  have hmh:Sep I ρ w (hideM (rootsOf s) st.mem):=c.mem.sub fun s0 T h=>⟨(hhide s0 T h).1,rfl⟩
  obtain ⟨J,hJ,hle,hJfree,hreps,hcase⟩:∃ J,Held J w∧(∀ b o x,I b o=some x→J b o=some x)∧(∀ i r t q p k R,(i,r,t,q)∈s→st.mem t=some R→(R.at p).isNode=true→ρ t p=some k→∀ o,J k.b o=none) ∧
      (∀ j (hj:j<args.length) (hk:j<vals.size),l[j]? = some none→RepS J ((args[j]).view (hideM (rootsOf s) st.mem)) (vals[j]))∧(J=I∨(r.pure=true∧pureO outs=true)):=by
    cases hb:lentOf l args with
    | false =>
      exact ⟨I,c.held,fun _ _ _ h=>h,fun i r t q p k R _ h2 h3 h4 o=>c.mem.free t R p k h2 h3 h4 o,fun j hj hk hlj=>rs_view _ (nb_stat (hr j hj hk) (lentOf_get l args hb j hj hlj)),.inl rfl⟩
    | true =>
      refine ⟨lend I ρ (hideM (rootsOf s) st.mem) w,lend_held hmh c.held,lend_le hmh,fun i r t q p k R h1 h2 h3 h4 o=>?_,fun j hj hk _=>view_sound hmh (hr j hj hk),.inr (by rcases hl with q | q;rw [hb] at q;cases q;exact q)⟩
      rw [lend_not,c.mem.free t R p k h2 h3 h4 o]
      rintro ⟨s0,T0,p0,k0,g1,g2,g3,g4⟩
      obtain ⟨g1,g5⟩:=hhide s0 T0 g1
      obtain ⟨rfl,_⟩:=c.mem.inj s0 T0 p0 k0 t R p k g1 g2 g3 h2 h3 h4 g4
      rw [roots_mem s h1] at g5;cases g5
  have hnodes:∀ i T p,A[i]? = some T→(T.at p).isNode=true→∃ r t q p' R,(i,r,t,q)∈s∧p=r++p'∧st.mem t=some R∧T.at p=R.at (q++p')∧lendP ρ s i p=ρ t (q++p'):=by
    intro i T p hi hnp
    obtain ⟨hlt,rfl⟩:=List.getElem?_eq_some_iff.1 hi
    have hj:i<args.length:=by omega
    rcases hget i (by omega) hj with ⟨c',g1,g2⟩ | ⟨g1,g2⟩
    · obtain ⟨s',g3,g4⟩:=ht.get i hj c' g1
      rw [Nat.zero_add] at g3
      rw [g2] at hnp ⊢
      obtain ⟨r',t,q,p',g5,g6,g7⟩:=g3.cov (hr i hj (by omega)) hnp
      rw [g7] at hnp
      have hm:=g4 _ g5
      obtain ⟨m,c2,r2,t2,q2,_,_,he,_,_,hnn⟩:=ht.src _ hm
      cases he
      obtain ⟨R,hR,hRq⟩:=nodeAt_some (T:=nodeAt st.mem t q) rfl hnn
      refine ⟨r',t,q,p',R,hm,g6,hR,by rw [g7,at_append,hRq],?_⟩
      rw [g6];exact lendP_at hp2 hm p'
    · rw [g2] at hnp
      rw [rs_at (hreps i hj (by omega) g1) p] at hnp;cases hnp
  have hsame:∀ i r t q p' R i2 r2 t2 q2 p2' R2' k k2,(i,r,t,q)∈s→st.mem t=some R→(R.at (q++p')).isNode=true→ρ t (q++p')=some k→(i2,r2,t2,q2)∈s→st.mem t2=some R2'→(R2'.at (q2++p2')).isNode=true→ρ t2 (q2++p2')=some k2→k.b=k2.b→i=i2∧r++p'=r2++p2':=by
    intro i r t q p' R i2 r2 t2 q2 p2' R2' k k2 h1 h2 h3 h4 h1' h2' h3' h4' he
    obtain ⟨x1,x2⟩:=c.mem.inj t R _ k t2 R2' _ k2 h2 h3 h4 h2' h3' h4' he
    rcases pair_mem (fun _ _=>R1.symm) hp1 _ h1 _ h1' with e | e
    · cases e
      exact ⟨rfl,by rw [List.append_cancel_left x2]⟩
    · rcases e with e | e
      · exact (e x1.symm).elim
      · exact (div_of_div e (List.prefix_append q p') (x2 ▸ List.prefix_append q2 p2')).elim
  have hsepA:Sep J (lendP ρ s) w (fun i=>A[i]?):=by
    refine ⟨fun i T p hi=>?_,fun i T p k hi h1 h2 o=>?_,fun i T p k i2 T2 p2 k2 hi h1 h2 hi2 h1' h2' he=>?_⟩
    · cases hnn:(T.at p).isNode with
      | false=>exact node_false hnn
      | true =>
        obtain ⟨r',t,q,p',R,g1,rfl,g3,g4,g5⟩:=hnodes i T p hi hnn
        have hrow:=c.mem.row t R (q++p') g3
        rw [← g4] at hrow
        refine node_shift (NodeOk.mono (w':=w) hle (fun _ _ _=>rfl) hrow) (fun r2=>?_)
        rw [List.append_assoc,lendP_at hp2 g1,List.append_assoc]
    · obtain ⟨r',t,q,p',R,g1,rfl,g3,g4,g5⟩:=hnodes i T p hi h1
      rw [g4] at h1
      exact hJfree i r' t q _ k R g1 g3 h1 (g5 ▸ h2) o
    · obtain ⟨r',t,q,p',R,g1,rfl,g3,g4,g5⟩:=hnodes i T p hi h1
      obtain ⟨r2',t2,q2,p2',R2',g1',rfl,g3',g4',g5'⟩:=hnodes i2 T2 p2 hi2 h1'
      rw [g4] at h1;rw [g4'] at h1'
      exact hsame i r' t q p' R i2 r2' t2 q2 p2' R2' k k2 g1 g3 h1 (g5 ▸ h2) g1' g3' h1' (g5' ▸ h2') he
  have hownA:∀ b,Owns (lendP ρ s) (fun i=>A[i]?) b→∃ i r t q p' R k,(i,r,t,q)∈s∧st.mem t=some R∧(R.at (q++p')).isNode=true∧ρ t (q++p')=some k∧k.b=b:=by
    rintro b ⟨i,T,p,k,h1,h2,h3,rfl⟩
    obtain ⟨r',t,q,p',R,g1,rfl,g3,g4,g5⟩:=hnodes i T p h1 h2
    exact ⟨i,r',t,q,p',R,k,g1,g3,g4 ▸ h2,g5 ▸ h3,rfl⟩
  have hownlo:∀ b,Owns (lendP ρ s) (fun i=>A[i]?) b→E.w0.heap.size≤b∨E.lent b:=by
    intro b hb
    obtain ⟨i,r',t,q,p',R,k,_,g1,g2,g3,rfl⟩:=hownA b hb
    exact c.lo _ ⟨t,R,_,k,g1,g2,g3,rfl⟩
  refine (hspec J (lendP ρ s) w vals hJ (by omega) hsepA fun j hj hk=>?_).mono ?_
  · have hj':j<args.length:=by omega
    rcases hget j hj hj' with ⟨c',g1,g2⟩ | ⟨g1,g2⟩
    · obtain ⟨s',g3,g4⟩:=ht.get j hj' c' g1
      rw [Nat.zero_add] at g3
      rw [g2]
      exact g3.top c.mem ((hr j hj' hk).mono hle) fun r' t q hm=>by
        have:=lendP_at (ρ:=ρ) hp2 (g4 _ hm) []
        simpa using this
    · rw [g2];exact rs_top (hreps j hj' hk g1) _ _
  · rintro e w' ⟨I1,π1,x,rfl,hI1,hs1,ht1,hfix,hb1,hk1,hnew⟩
    refine ⟨x,rfl,?_⟩
    have hheld:∀ b o y,I b o=some y→w'.heap[b]? = w.heap[b]?:=by
      intro b o y hy
      refine hb1.block b (c.held.lt hy) fun hb=>?_
      obtain ⟨i,r',t,q,p',R,k,_,g1,g2,g3,rfl⟩:=hownA b hb
      rw [c.mem.free t R _ k g1 g2 g3 o] at hy;cases hy
    obtain ⟨I2,hI2,hk2,s2,t2⟩:∃ I2,Held I2 w'∧(∀ b o,b<w.heap.size→I2 b o=I b o)∧Sep I2 π1 w' (outMem A.length outs r)∧TopOk I2 (π1 A.length) [] r x:=by
      rcases hcase with rfl | ⟨hp,hpo⟩
      · exact ⟨I1,hI1,hk1,hs1,ht1⟩
      · refine ⟨I,⟨fun b o y hy=>?_,fun b cs h=>by obtain ⟨t,f,x,h1,h2⟩:=c.held.base b cs h;exact ⟨t,f,x,(hheld b 0 x h2).trans h1,h2⟩⟩,fun _ _ _=>rfl,pure_sep hs1 ?_ ?_,pure_top ht1 hp⟩
        · have:=c.held.cell b o y hy
          exact ⟨(World.cell?_of_block (w:=w) (a:=⟨b,o,none⟩) (hheld b o y hy)).trans this.1,this.2⟩
        · intro i T hs
          simp only [outMem] at hs
          split at hs
          · cases hs;exact hp
          · exact pureO_get outs hpo i T (by
              cases ho:outs[i]? with
              | none=>rw [ho] at hs;cases hs
              | some o=>rw [ho] at hs;simp at hs;rw [hs])
        · intro b hb o
          rcases hnew b hb with q | q
          · obtain ⟨i,r',t,q,p',R,k,_,g1,g2,g3,rfl⟩:=hownA b q
            exact c.mem.free t R _ k g1 g2 g3 o
          · cases hx:I b o with
            | none=>rfl
            | some y=>have:=c.held.lt hx;omega
    have hle2:∀ b o y,I b o=some y→I2 b o=some y:=fun b o y hy=>(hk2 b o (c.held.lt hy)).trans hy
    have hfresh:∀ s0 T0 p0 k0,st.mem s0=some T0→¬ HU s s0 p0→(T0.at p0).isNode=true→ρ s0 p0=some k0→¬ Owns (lendP ρ s) (fun i=>A[i]?) k0.b:=by
      intro s0 T0 p0 k0 h1 h2 h3 h4 h5
      obtain ⟨i,r',t,q,p',R,k,g0,g1,g2,g3,g4⟩:=hownA _ h5
      obtain ⟨x1,x2⟩:=c.mem.inj s0 T0 p0 k0 t R _ k h1 h3 h4 g1 g2 g3 g4.symm
      subst x1
      exact h2 ⟨i,r',q,g0,x2 ▸ List.prefix_append _ _⟩
    have hmid:Mid N E st a w' I2 ρ (HU s):=by
      refine ⟨hI2,c.below.trans (hb1.mono c.below.size fun k hk hq=>?_),fun b o hb=>(hk2 b o (Nat.lt_of_lt_of_le hb c.below.size)).trans (c.keeps b o hb),c.size,c.defers,fun i=>(c.fr i).mono hle2,
        ⟨fun s0 T0 p0 h1 h2=>?_,fun s0 T0 p0 k0 h1 h2 h3 h4 o=>?_,fun s0 T0 p0 k0 s1 T1 p1 k1 h1 _ h3 h4 h1' _ h3' h4' he=>c.mem.inj s0 T0 p0 k0 s1 T1 p1 k1 h1 h3 h4 h1' h3' h4' he⟩,?_,c.fix⟩
      · rcases hownlo k hq with h | h
        · omega
        · exact h
      · exact NodeOk.mono hle2 (fun k hk1 hk2=>hb1.block k.b (c.mem.lt h1 hk1 hk2) (hfresh s0 T0 p0 k h1 h2 hk1 hk2)) (c.mem.row s0 T0 p0 h1)
      · rw [hk2 k0.b o (c.mem.lt h1 h3 h4)];exact c.mem.free s0 T0 p0 k0 h1 h3 h4 o
      · rintro b ⟨s0,T0,p0,k0,h1,_,h3,h4,h5⟩
        exact c.lo b ⟨s0,T0,p0,k0,h1,h3,h4,h5⟩
    have hapart:Apart ρ st.mem (HU s) π1 (outMem A.length outs r) A.length s:=by
      rintro b ⟨s0,T0,p0,k0,h1,h2,h3,h4,rfl⟩ s' T' p' k' g1 _ g3 g4 he
      rcases hnew k'.b ⟨s',T',p',k',g1,g3,g4,rfl⟩ with q | q
      · rw [he] at q;exact hfresh s0 T0 p0 k0 h1 h2 h3 h4 q
      · have:=c.mem.lt h1 h3 h4;omega
    have hnlo:∀ s' T' p' k',outMem A.length outs r s'=some T'→(T'.at p').isNode=true→π1 s' p'=some k'→E.w0.heap.size≤k'.b∨E.lent k'.b:=by
      intro s' T' p' k' g1 g2 g3
      rcases hnew k'.b ⟨s',T',p',k',g1,g2,g3,rfl⟩ with q | q
      · exact hownlo _ q
      · exact .inl (Nat.le_trans c.below.size q)
    obtain ⟨st',ρ',hK,hmid',hap'⟩:=giveS_sound s2 s st ρ hmid hapart hp1 hp2 (fun y hy=>by
      obtain ⟨m,c',r',t,q,g1,g2,rfl,g3,g4,g5⟩:=ht.src y hy
      simp only [Nat.zero_add] at *
      refine ⟨by show m≠A.length;omega,g5,fun T hT=>?_⟩
      simp only at hT ⊢
      have ho:outs[m]? = some (some T):=by
        cases ho:outs[m]? with
        | none=>simp [List.getD,ho] at hT
        | some o=>simp [List.getD,ho] at hT;rw [hT]
      have hA1:A.getD m .any=c':=by
        rcases hget m (by omega) g1 with ⟨c2,q1,q2⟩ | ⟨q1,q2⟩
        · rw [g2] at q1;cases q1
          rw [getD_lt (by omega)];exact q2
        · rw [g2] at q1;cases q1
      have hsig:=hosig m T ho
      rw [hA1] at hsig
      obtain ⟨hpos,hsig1⟩:=sig_top hsig g3 (g4 ▸ g5)
      have hext:outMem A.length outs r m=some T:=by
        unfold outMem
        rw [if_neg (by omega),ho];rfl
      refine ⟨hext,by rw [hsig1,g4],?_,fun p k q1 q2=>hnlo m T _ k hext (by rw [at_append];exact q1) q2,fun u hu=>by rw [hfix m T ho (r'++u) (.inr hu)];exact lendP_at (ρ:=ρ) hp2 hy u⟩
      rw [hfix m T ho r' (.inl hpos)]
      have:=lendP_at (ρ:=ρ) hp2 hy []
      simpa using this) hgive
    have c2:Conc N E st' a w' I2 ρ':=hmid'.conc fun s0 p0 ⟨i,r',q,h,_⟩=>by cases h
    have hext:outMem A.length outs r A.length=some r:=by simp [outMem]
    cases hnb:r.nodeB with
    | false =>
      rw [hnb] at hK
      exact ⟨_,hK,I2,ρ',c2.put d hd (.stat (top_stat t2 hnb))⟩
    | true =>
      rw [hnb] at hK
      refine ⟨_,hK,?_⟩
      cases d with
      | none=>exact ⟨I2,ρ',c2.put none hd (v:=.any) (.any x)⟩
      | some D =>
      let ρ3:Pl:=fun s0=>if s0=D then π1 A.length else ρ' s0
      have h1:∀ s0,s0≠D→ρ3 s0=ρ' s0:=fun s0 h=>by simp [ρ3,h]
      have h2:ρ3 D=π1 A.length:=by simp [ρ3]
      have hsepR:Sep I2 (fun _=>π1 A.length) w' (fun i=>if i=0 then some r else none):=by
        refine ⟨fun s0 T p hm=>?_,fun s0 T p k hm q1 q2=>?_,fun s0 T p k s1 T' p' k' hm q1 q2 hm' q1' q2' he=>?_⟩
        · split at hm <;> cases hm;exact s2.row A.length _ p hext
        · split at hm <;> cases hm;exact s2.free A.length _ p k hext q1 q2
        · split at hm <;> cases hm
          split at hm' <;> cases hm'
          rename_i e1 e2
          exact ⟨e1.trans e2.symm,(s2.inj A.length _ p k A.length _ p' k' hext q1 q2 hext q1' q2' he).2⟩
      have c3:=c2.kill D h1
      have c4:=c3.setAny (d:=D) h2 (kill_mem_self st' D) (hnp D rfl) hsepR (fun p k q1 q2 ⟨s0,T0,p0,k0,g1,g2,g3,g4⟩=>by
        obtain ⟨hne,g1⟩:=kill_mem_of g1
        rw [h1 s0 hne] at g3
        exact hap' k0.b ⟨s0,T0,p0,k0,g1,(fun ⟨i,r',q,h,_⟩=>by cases h),g2,g3,rfl⟩ A.length r p k hext (.inl rfl) q1 q2 g4.symm) (fun p k q1 q2=>hnlo A.length r p k hext q1 q2)
      exact ⟨I2,ρ3,c4.put (some D) hd (top_rep (by rw [h2];exact t2))⟩

theorem callM_sound (c:Conc N E st a w I ρ) {d:Option Nat} (hd:∀ t,d=some t→t<N) (hnp:∀ t,d=some t→E.args[t]? = none) {f:FuncId} {ms:List Bool} {args:List AV} {vals:Array Value} {K:St→Prop}
  (hn:vals.size=args.length) (hr:∀ j (hj:j<args.length) (hk:j<vals.size),Rep I ρ (args[j]) (vals[j])) (h:callM P ms st d f args K .mk) :
  HasBody P f∧Calls P f vals w fun e w'=>∃ x,e=.returned x∧∃ st',K st'∧CC N E st' (a.put d x) w':=by
 cases ms with
 | nil =>
  obtain ⟨hb,hc⟩:=callP_sound c.held c.mem h hn hr
  refine ⟨hb,hc.mono ?_⟩
  rintro e w' ⟨x,rfl,hret⟩
  refine ⟨x,rfl,?_⟩
  have hret:=hret.ret (ρ:=ρ)
  rcases hret with ⟨v,I',hK,hv,hg⟩ | ⟨T,I',π,hK,ht,hg,hT⟩
  ·exact ⟨_,hK,I',ρ,(c.grow hg).put d hd hv⟩
  ·exact ⟨_,hK,c.addB d hd hnp hg ht hT⟩
 | cons b ms =>
  have h:takeAll st.mem 0 (b :: ms) args (fun l s=>vc (apartL (placesOf s)=true) (callX P st d f s (argsOf (hideM (rootsOf s) st.mem) l args) (lentOf l args) K .mk .mk) .mk):=h
  obtain ⟨l,s,⟨hap,hX⟩,ht⟩:=takeAll_spec args 0 (b :: ms) h
  exact callX_sound c hd hnp ht hap hn hr hX
end
end Go.AM
namespace Go.AM
open Go.RowKit (Below)
section
variable {P:Program} {M:FuncId→List Bool} {N:Nat} {E:Entry} {st:St} {a:Act} {w w':World} {I I':Gh} {ρ ρ':Pl} {d:Option Nat} {K:St→Prop} {Q:Exit→Act→World→Prop} {t:TypeId} {pos:String} {after:Array Edge} {g:Option (Nat×Bool)}
theorem take_app_get {α:Type} (l ys:List α) (o i:Nat) (h:o+ys.length≤l.length):(l.take o++ys++l.drop (o+ys.length))[i]? = if i<o then l[i]? else if i<o+ys.length then ys[i - o]? else l[i]?:=by
 by_cases c:i<o
 ·rw [if_pos c,List.append_assoc,List.getElem?_append_left (by simp;omega),List.getElem?_take,if_pos c]
 ·rw [if_neg c]
  by_cases c2:i<o+ys.length
  ·rw [if_pos c2,List.getElem?_append_left (by simp;omega),List.getElem?_append_right (by simp;omega)]
   congr 1;simp;omega
  ·rw [if_neg c2,List.getElem?_append_right (by simp;omega),List.getElem?_drop]
   congr 1;simp;omega
theorem copy_core (c:Conc N E st a w I ρ) {s o:Nat} {p:Path} {R:AV} {es ys:List AV} {cs:List Value} (hR:st.mem s=some R) (hM:R.at p=.tr 1 es) (hbe:AV.bearsL es=false) (hfit:o+ys.length≤es.length) (hlen:cs.length=ys.length)
    (hrep:∀ q (h:q<ys.length),(ys[q]).cells.length=1∧∀ j (hj:j<(ys[q]).cells.length),∃ u,cs[q]? = some u∧RepS I ((ys[q]).cells[j]) u∧u.oneCell'=true)
    {k0:Plc} (hk0:ρ s p=some k0) {Et:TypeId} {arr:Array Value} (h4:w.heap[k0.b]? = some (.cells arr Et (0,0))) (hz:k0.z=1) :
    Conc N E (st.setMem s (R.modP p fun _=>.tr 1 (es.take o++ys++es.drop (o+ys.length)))) a (w.setRow k0.b (arr.toList.take (k0.off+o)++cs++arr.toList.drop (k0.off+o+cs.length)).toArray) I ρ:=by
  have hnode:(AV.tr 1 es).isNode=true:=rfl
  have hrow:=c.mem.row s R p hR
  rw [hM] at hrow
  rcases hrow with ⟨hno,_⟩ | ⟨k,Et',arr',h1,h2,h3,h3',h4',h5,h6⟩
  · rw [hno] at hk0;cases hk0
  rw [hk0] at h1;cases h1
  rw [h4] at h4';cases h4'
  obtain ⟨es',hes'⟩:∃ l,l=es.take o++ys++es.drop (o+ys.length):=⟨_,rfl⟩
  rw [← hes']
  have hel:es'.length=es.length:=by rw [hes'];simp;omega
  have hget:=fun i=>take_app_get es ys o i hfit
  rw [← hes'] at hget
  let off:=k0.off+o
  obtain ⟨arr2,harr2⟩:∃ x,x=(arr.toList.take (k0.off+o)++cs++arr.toList.drop (k0.off+o+cs.length)).toArray:=⟨_,rfl⟩
  rw [← harr2]
  have hin:es.length*1≤k0.cap*1:=Nat.mul_le_mul_right _ h3
  have hgetA:∀ i,arr2.getD i undef=if i<k0.off+o then arr.getD i undef else if i<k0.off+o+cs.length then cs.getD (i - (k0.off+o)) undef else arr.getD i undef:=by
    intro i
    have:=take_app_get arr.toList cs (k0.off+o) i (by simp;omega)
    rw [Array.getD_eq_getD_getElem?,harr2,List.getElem?_toArray,this]
    split
    · rw [Array.getD_eq_getD_getElem?];simp
    · split
      · simp [List.getD]
      · rw [Array.getD_eq_getD_getElem?];simp
  have hszA:arr2.size=arr.size:=by rw [harr2];simp;omega
  have hh':(w.setRow k0.b arr2).heap[k0.b]? = some (.cells arr2 Et (0,0)):=setRow_heap w _ _ _ _ _ h4
  have hother:∀ b,b≠k0.b→(w.setRow k0.b arr2).heap[b]? = w.heap[b]?:=fun b hb=>setRow_other w _ b _ hb
  have hlo:=c.lo k0.b ⟨s,R,p,k0,hR,by rw [hM];exact hnode,hk0,rfl⟩
  have hMn:(R.at p).isNode=true:=by rw [hM];exact hnode
  have hnew:∀ i (hi:i<es'.length),(es'[i]).cells.length=1∧∀ j (hj:j<(es'[i]).cells.length),RepS I ((es'[i]).cells[j]) (arr2.getD (k0.off+i*1+j) undef)∧(arr2.getD (k0.off+i*1+j) undef).oneCell'=true:=by
    intro i hi
    have hg:=List.getElem?_eq_getElem hi
    rw [hget i] at hg
    have old:es[i]? = some es'[i]→(es'[i]).cells.length=1∧∀ j (hj:j<(es'[i]).cells.length),RepS I ((es'[i]).cells[j]) (arr.getD (k0.off+i*1+j) undef)∧(arr.getD (k0.off+i*1+j) undef).oneCell'=true:=by
      intro e
      obtain ⟨hi2,e2⟩:=List.getElem?_eq_some_iff.1 e
      rw [← e2]
      obtain ⟨g1,g2⟩:=h6 i hi2
      refine ⟨g1,fun j hj=>?_⟩
      obtain ⟨g3,g4⟩:=g2 j hj
      have hb:=bears_node (bears_cells (bearsL_get hbe i hi2) hj)
      rcases g3 with ⟨g3,_⟩ | ⟨_,g3⟩
      · rw [hb] at g3;cases g3
      · exact ⟨g3,g4⟩
    by_cases c1:i<o
    · rw [if_pos c1] at hg
      obtain ⟨g1,g2⟩:=old hg
      refine ⟨g1,fun j hj=>?_⟩
      have hj0:j=0:=by omega
      subst hj0
      rw [hgetA,if_pos (by omega)];exact g2 0 hj
    · rw [if_neg c1] at hg
      by_cases c2:i<o+ys.length
      · rw [if_pos c2] at hg
        obtain ⟨hi2,e2⟩:=List.getElem?_eq_some_iff.1 hg
        rw [← e2]
        obtain ⟨g1,g2⟩:=hrep (i - o) hi2
        refine ⟨g1,fun j hj=>?_⟩
        have hj0:j=0:=by omega
        subst hj0
        obtain ⟨u,q1,q2,q3⟩:=g2 0 hj
        rw [hgetA,if_neg (by omega),if_pos (by omega)]
        have e3:k0.off+i*1+0 - (k0.off+o)=i - o:=by omega
        rw [e3,List.getD,q1]
        exact ⟨q2,q3⟩
      · rw [if_neg c2] at hg
        obtain ⟨g1,g2⟩:=old hg
        refine ⟨g1,fun j hj=>?_⟩
        have hj0:j=0:=by omega
        subst hj0
        rw [hgetA,if_neg (by omega),if_neg (by omega)];exact g2 0 hj
  have hcase:∀ ij:Nat×Nat,∃ v,RepS I ((AV.tr 1 es').cellAt ij.1 ij.2) v:=by
    intro ij
    show ∃ v,RepS I ((es'.getD ij.1 .any).cells.getD ij.2 .any) v
    by_cases hi:ij.1<es'.length
    · rw [getD_lt hi]
      by_cases hj:ij.2<(es'[ij.1]).cells.length
      · rw [getD_lt hj];exact ⟨_,((hnew _ hi).2 _ hj).1⟩
      · have:(es'[ij.1]).cells.getD ij.2 .any=.any:=by simp [List.getD,List.getElem?_eq_none (Nat.le_of_not_lt hj)]
        rw [this];exact ⟨undef,.any _⟩
    · have:es'.getD ij.1 .any=.any:=by simp [List.getD,List.getElem?_eq_none (Nat.le_of_not_lt hi)]
      rw [this]
      have:(AV.any).cells.getD ij.2 .any=.any:=by cases ij.2 <;> simp [AV.cells,List.getD]
      rw [this];exact ⟨undef,.any _⟩
  have hbelow:∀ ij r,(AV.at (AV.tr 1 es') (ij :: r)).isNode=false:=fun ij r=>by
    obtain ⟨v,hv⟩:=hcase ij
    exact rs_at hv r
  have hold:∀ r,((AV.tr 1 es').at r).isNode=true→r=[]:=fun r hn=>by
    cases r with
    | nil=>rfl
    | cons ij r=>rw [hbelow] at hn;cases hn
  have hvalid:ValidP (AV.tr 1 es') R p:=valid_of c.mem hR p [] (inP_node (R:=R) hMn) (fun _=>sing_node rfl)
  rw [modP_eq]
  have hsep:=Sep.setP (w':=w.setRow k0.b arr2) (I':=I) (ρ':=ρ) (x:=.tr 1 es') (Q:=p) c.mem hR hvalid (fun _=>sing_node rfl) (fun _ _ _ h=>h)
      (fun v h1v _ hc=>by
        rw [hM] at hc
        rcases hc with ⟨_,hc⟩ | ⟨hc,_⟩
        · refine .inl ⟨rfl,?_⟩
          rcases hc with ⟨k',q1,q2,q3,q4⟩ | ⟨q1,q2⟩
          · exact .inl ⟨k',q1,q2,by omega,by rw [hel];exact q4⟩
          · exact .inr ⟨List.eq_nil_of_length_eq_zero (by rw [hel,q1];rfl),q2⟩
        · cases hc)
      (fun _ _ _=>rfl)
      (fun s' T' p' k' e1 e2 e3 e4=>by
        have hne:k'.b≠k0.b:=fun he=>by
          obtain ⟨q1,q2⟩:=c.mem.inj s' T' p' k' s R p k0 e1 e2 e3 hR hMn hk0 he
          rcases e4 with e4 | e4
          · exact e4 q1
          · subst q2;exact e4 (List.prefix_refl _)
        exact ⟨hother _ hne,fun o=>c.mem.free s' T' p' k' e1 e2 e3 o⟩)
      (fun r=>by
        cases r with
        | nil =>
          rw [List.append_nil]
          refine .inr ⟨k0,Et,arr2,hk0,h2,by omega,h3',hh',by rw [hszA];exact h5,fun i hi=>?_⟩
          obtain ⟨g1,g2⟩:=hnew i hi
          exact ⟨g1,fun j hj=>⟨rs_cell (g2 j hj).1 _,(g2 j hj).2⟩⟩
        | cons ij r=>exact node_false (hbelow ij r))
      (fun r k' hn hk' o=>by
        have:=hold r hn
        subst this
        exact c.mem.free s R (p++[]) k' hR (by rw [List.append_nil];exact hMn) hk' o)
      (fun r k1 r' k2 hn hk1 hn' hk2 he=>by rw [hold r hn,hold r' hn'])
      (fun r k1 s' T' p' k2 hn hk1 e1 e2 e3 e4 he=>by
        have:=hold r hn
        subst this
        obtain ⟨q1,q2⟩:=c.mem.inj s R (p++[]) k1 s' T' p' k2 hR (by rw [List.append_nil];exact hMn) hk1 e1 e2 e3 he
        rcases e4 with e4 | e4
        · exact e4 q1.symm
        · exact e4 ⟨[],q2⟩)
  refine ⟨⟨fun b o x h=>?_,fun b cs h=>by
      obtain ⟨t,f,x,h1,h2⟩:=c.held.base b cs h
      have hb:b≠k0.b:=fun e=>by rw [e,c.mem.free s R p k0 hR hMn hk0 0] at h2;cases h2
      exact ⟨t,f,x,(hother b hb).trans h1,h2⟩⟩,?_,c.keeps,c.size,c.defers,c.fr,hsep,?_,?_⟩
  · have:=c.held.cell b o x h
    refine ⟨?_,this.2⟩
    have hb:b≠k0.b:=fun e=>by rw [e,c.mem.free s R p k0 hR hMn hk0 o] at h;cases h
    exact (World.cell?_of_block (w:=w) (a:=⟨b,o,none⟩) (hother b hb)).trans this.1
  · refine ⟨c.below.os,c.below.tape,c.below.output,by have:=c.below.size;simpa [World.setRow] using this,fun k hk hb=>?_⟩
    rw [hother k fun e=>?_]
    · exact c.below.block k hk hb
    · subst e
      rcases hlo with hlo | hlo
      · omega
      · exact hb hlo
  · rintro b ⟨s',T',p',k',q1,q2,q3,rfl⟩
    simp only [St.setMem] at q1
    by_cases e:s'=s
    · rw [if_pos e] at q1
      cases q1
      subst e
      by_cases hp:p <+: p'
      · obtain ⟨r,rfl⟩:=hp
        rw [at_setP p R r hvalid] at q2
        have:=hold r q2
        subst this
        exact c.lo _ ⟨s',R,p++[],k',hR,by rw [List.append_nil];exact hMn,q3,rfl⟩
      · refine c.lo _ ⟨s',R,p',k',hR,?_,q3,rfl⟩
        rcases at_setP_ne p R p' hvalid hp with ⟨h,_⟩ | ⟨ij,Q',_,h,hin,_⟩
        · rw [h] at q2;exact q2
        · rw [h] at q2
          generalize R.at p'=A at hin q2 ⊢
          cases A <;> first | rfl | exact hin.elim | exact q2
    · rw [if_neg e] at q1
      exact c.lo _ ⟨s',T',p',k',q1,q2,q3,rfl⟩
  · intro i' c' T' q g1 g2 g3
    simp only [St.setMem] at g2
    by_cases e:i'=s
    · rw [if_pos e] at g2
      cases g2
      subst e
      refine c.fix i' c' R q g1 hR ?_
      cases p with
      | nil =>
        have hMR:R=.tr 1 es:=hM
        rw [hMR];exact g3
      | cons ij p =>
        have g3:TopPos (R.setAt ij.1 ij.2 _) q:=g3
        generalize R=A at g3
        cases A <;> exact g3
    · rw [if_neg e] at g2
      exact c.fix i' c' T' q g1 g2 g3
theorem copy_sound (c:Conc N E st a w I ρ) (hd:∀ t,d=some t→t<N) {x y:Operand} {t1 t2:TypeId}
    (h:optP (elemT P t1) (fun e=>vc (sizeT P e=1) (srcP st.mem 1 (st.ev y) (fun ys=>copyP st (st.ev x) ys (fun k st'=>K (st'.put d (.i64 k))) .mk) .mk) .mk) .mk) :
    (⟨d,.call ⟨.builtin .copy,#[x,y],#[t1,t2]⟩,t,pos,after,g⟩:Oper).wp P a w (AOut N E K) Q:=by
  cases he:elemT P t1 with
  | none=>rw [he] at h;exact h.elim
  | some e =>
    rw [he] at h
    obtain ⟨h1,h2⟩:=h
    obtain ⟨hu,inf,hi⟩:=elemT_spec he
    have hs1:(P.info? e).map (·.size)=some 1:=by rw [hi];have:=h1;simp [sizeT,hi] at this;simp [this]
    obtain ⟨ys,news,h3,src⟩:=srcP_sound (w:=w) c.held c.mem h2 (c.ev y)
    have hx:=c.ev x
    have fin:∀ {st2:St} {k:Nat} {w':World},(Builtin.copy_ #[t1,t2] t #[a.eval x,a.eval y]).run P w=.ok (goInt k) w'→K (st2.put d (.i64 k))→Conc N E st2 a w' I ρ →
        (⟨d,.call ⟨.builtin .copy,#[x,y],#[t1,t2]⟩,t,pos,after,g⟩:Oper).wp P a w (AOut N E K) Q:=by
      intro st2 k w' hr hk hc
      refine wp_value (x:=goInt k) (w':=w') ?_ ⟨_,hk,I,ρ,hc.put d hd (.stat (.v _))⟩
      simp [execOp,resolve,invoke,builtin,hr]
    unfold copyP at h3
    split at h3
    · rename_i s p z o n hxe
      rw [hxe] at hx
      obtain ⟨rfl,h3⟩:=h3
      cases hR:st.mem s with
      | none=>rw [hR] at h3;exact h3.elim
      | some R =>
        rw [hR] at h3
        have h3:copyN st s p o n R ys (fun k st'=>K (st'.put d (.i64 k))) .mk:=h3
        unfold copyN at h3
        split at h3
        · rename_i w1 es hT
          obtain ⟨⟨rfl,q1,q2,q3⟩,h3⟩:=h3
          have h3:K ((st.setMem s (R.modP p fun _=>.tr 1 (es.take o++ys.take n++es.drop (o+min n ys.length)))).put d (.i64 (min n ys.length:Nat))):=h3
          have hRn:(R.at p).isNode=true:=by rw [hT];rfl
          have zero:min n ys.length=0→Nat.min ys.length n=0→(∃ dp dc,a.eval x=.slice dp n dc)→(∃ sp sc,a.eval y=.slice sp ys.length sc)→(⟨d,.call ⟨.builtin .copy,#[x,y],#[t1,t2]⟩,t,pos,after,g⟩:Oper).wp P a w (AOut N E K) Q:=by
            rintro hm hm2 ⟨dp,dc,e1⟩ ⟨sp,sc,e2⟩
            have hr:=run_copy_none (P:=P) w t1 t2 t e dp sp n dc ys.length sc hu hs1 hm2
            have hl:es.take o++ys.take n++es.drop (o+min n ys.length)=es:=by
              have:ys.take n=[]:=List.eq_nil_of_length_eq_zero (by rw [List.length_take];exact hm)
              rw [this,hm,List.append_nil,Nat.add_zero,List.take_append_drop]
            rw [hl,modP_eq,← hT,setP_self p R (valid_of c.mem hR p [] (inP_node (R:=R) hRn) (fun _=>sing_node hRn)),hm] at h3
            have hst:st.setMem s R=st:=by
              unfold St.setMem
              have:(fun i=>if i=s then some R else st.mem i)=st.mem:=by
                funext i
                by_cases c:i=s
                · subst c;simp [hR]
                · simp [c]
              rw [this]
            rw [hst] at h3
            refine fin (k:=0) (st2:=st) (w':=w) ?_ h3 c
            rw [e1,e2];exact hr
          have hyform:∃ sp sc,a.eval y=.slice sp ys.length sc:=by
            rcases src.form with ⟨e1,e2⟩ | ⟨ad,cc,e1,_⟩
            · subst e2;exact ⟨none,0,e1⟩
            · exact ⟨some ad,cc,e1⟩
          have hxform:∃ dp dc,a.eval x=.slice dp n dc:=by
            rcases rep_ref hx with ⟨k,g1,g2,g3,g4⟩ | ⟨rfl,x',g4⟩
            · exact ⟨_,_,g4⟩
            · exact ⟨x',0,g4⟩
          by_cases hm:min n ys.length=0
          · exact zero hm (by show min ys.length n=0;rw [Nat.min_comm];exact hm) hxform hyform
          · rcases rep_ref hx with ⟨k,g1,g2,g3,g4⟩ | ⟨rfl,x',g4⟩
            · rcases src.form with ⟨e1,e2⟩ | ⟨ad,cc,e1,e2⟩
              · subst e2;simp at hm
              · have hrow:=c.mem.row s R p hR
                rw [hT] at hrow
                rcases hrow with ⟨hno,_⟩ | ⟨k',Et,arr,r1,r2,r3,r3',r4,r5,r6⟩
                · rw [hno] at g1;cases g1
                rw [g1] at r1;cases r1
                have hnl:news.length=ys.length:=by have:=src.len;omega
                have hlc:(news.take (min n ys.length)).length=Nat.min ys.length n:=by
                  rw [List.length_take,hnl]
                  show min _ _=min _ _
                  omega
                have hr:=run_copy_row (P:=P) w t1 t2 t e k.b (k.off+o*1) n (k.cap - o) ad ys.length cc arr Et (news.take (min n ys.length)) hu hs1 r4 hlc (fun j v hj=>by
                    rw [List.getElem?_take] at hj
                    split at hj
                    · exact e2 j v hj
                    · cases hj) (by rw [hlc];have:Nat.min ys.length n≤n:=Nat.min_le_right _ _;omega) (fun v hv=>src.one v (List.mem_of_mem_take hv))
                have hlt:(ys.take n).length=min n ys.length:=List.length_take
                have hcc:=copy_core c (o:=o) (ys:=ys.take n) (cs:=news.take (min n ys.length)) hR hT q2 (by rw [hlt];omega) (by rw [hlt,List.length_take,hnl];omega) (fun q hq=>by
                  have hq2:q<ys.length:=by rw [hlt] at hq;omega
                  obtain ⟨s1,s2⟩:=src.rep q hq2
                  have e3:(ys.take n)[q]=ys[q]:=List.getElem_take
                  rw [e3]
                  refine ⟨s1,fun j hj=>?_⟩
                  obtain ⟨u,u1,u2⟩:=s2 j hj
                  have hj0:j=0:=by omega
                  subst hj0
                  have u1:news[q]? = some u:=by simpa using u1
                  refine ⟨u,?_,nb_stat u2 (bears_cells (bearsL_get q3 q hq2) hj),src.one u (List.mem_of_getElem? u1)⟩
                  rw [List.getElem?_take,if_pos (by rw [hlt] at hq;exact hq)];exact u1) g1 r4 g2
                rw [hlt] at hcc
                rw [Nat.mul_one] at hr g4
                refine fin (k:=min n ys.length) ?_ h3 hcc
                rw [g4,e1,hr]
                have:(news.take (min n ys.length)).length=min n ys.length:=by rw [List.length_take,hnl];omega
                rw [this]
            · simp at hm
        · exact h3.elim
    · exact h3.elim
end
end Go.AM
namespace Go.AM
open Go.RowKit (Below)

section
variable {P:Program} {M:FuncId→List Bool} {N:Nat} {E:Entry} {st:St} {a:Act} {w w':World} {I I':Gh} {ρ ρ':Pl} {mem mem':Nat→Option AV}
variable {d:Option Nat} {t:TypeId} {pos:String} {after:Array Edge} {g:Option (Nat×Bool)} {K:St→Prop} {Q:Exit→Act→World→Prop}

theorem Conc.env (c:Conc N E st a w I ρ):Env P I ρ st.ev st.mem a w:=⟨c.held,c.ev,c.mem⟩

theorem fret_step (c:Conc N E st a w I ρ) (hd:∀ t,d=some t→t<N) (hnp:∀ t,d=some t→E.args[t]? = none) {x:Value} (h:FRet I ρ w (fun v=>valP v (fun v=>K (st.put d v)) .mk) (fun T=>valP T (fun T=>K (st.addB d T)) .mk) x w'):AOut N E K (a.put d x) w':=by
 rcases h with ⟨v,I',hK,hv,hg⟩ | ⟨T,I',π,hK,ht,hg,hT⟩
 ·exact ⟨_,hK,I',ρ,(c.grow hg).put d hd hv⟩
 ·exact ⟨_,hK,c.addB d hd hnp hg ht hT⟩

def makesR (o:Op):Bool:=match o with
 | .alloc _ | .box _ _ | .buildSlice _ _ _ | .makeSlice _ _ _ | .makeMap _ _=>true
 | .call c=>(match c.callee with | .value _=>true | .builtin .append=>true | _=>false)
 | _=>false
theorem fop_noB {ev:Operand→AV} {o:Op} {K B:AV→Prop} (hm:makesR o=false) (h:fop P ev mem o K B .mk .mk):fop P ev mem o K (fun _=>False) .mk .mk:=by
  cases o <;> first
    | exact h
    | (cases hm;done)
    | (rename_i c
       obtain ⟨callee,args,ats⟩:=c
       cases callee <;> first
         | (cases hm;done)
         | exact h
         | (rename_i b
            cases b <;> first
              | (cases hm;done)
              | exact h))

theorem fop_step (c:Conc N E st a w I ρ) (hd:∀ t,d=some t→t<N) {o:Op} (hnp:makesR o=true→∀ t,d=some t→E.args[t]? = none) (hcall:isCallV o=false)
  (h:fop P st.ev st.mem o (fun v=>valP v (fun v=>K (st.put d v)) .mk) (fun T=>valP T (fun T=>K (st.addB d T)) .mk) .mk .mk) :
  (⟨d,o,t,pos,after,g⟩:Oper).wp P a w (AOut N E K) Q:=by
 cases hm:makesR o with
 | true =>
  obtain ⟨x,w',hrun,hres⟩:=fop_run (d:=d) (t:=t) (pos:=pos) (after:=after) (g:=g) c.env hcall h
  exact wp_value hrun (fret_step c hd (hnp hm) (hres.ret c.held))
 | false =>
  obtain ⟨x,w',hrun,hres⟩:=fop_run (d:=d) (t:=t) (pos:=pos) (after:=after) (g:=g) c.env hcall (fop_noB hm h)
  refine wp_value hrun ?_
  rcases hres.ret c.held with ⟨v,I',hK,hv,hg⟩ | ⟨T,I',π,hK,_⟩
  ·exact ⟨_,hK,I',ρ,(c.grow hg).put d hd hv⟩
  ·exact hK.elim

theorem call_step (c:Conc N E st a w I ρ) (hd:∀ t,d=some t→t<N) (hnp:∀ t,d=some t→E.args[t]? = none) {x:Operand} {args:Array Operand} {ats:Array TypeId} (h:callA P M st d (st.ev x) (args.toList.map st.ev) K .mk) :
  (⟨d,.call ⟨.value x,args,ats⟩,t,pos,after,g⟩:Oper).wp P a w (AOut N E K) Q:=by
 have hx:=c.ev x
 unfold callA at h
 split at h
 ·rename_i f caps hf
  rw [hf] at hx
  obtain ⟨arr,hxe,hcn,hcr⟩:=rep_fn hx
  have key:=callM_sound (P:=P) c hd hnp (f:=f) (ms:=M f) (args:=args.toList.map st.ev++caps) (vals:=args.map a.eval++arr) (K:=K) (by simp [hcn]) (fun j hj hk=>?_) h
  ·obtain ⟨⟨fn,cd,hf1,hb,hname⟩,hcall⟩:=key
   have hrun:(execOp a.eval ⟨d,.call ⟨.value x,args,ats⟩,t,pos,after,g⟩).run P w=.ok (.enter f (args.map a.eval++arr)) w:=by
    have he:execOp a.eval ⟨d,.call ⟨.value x,args,ats⟩,t,pos,after,g⟩=(do let d ← Deferred.ofValue (a.eval x) (args.map a.eval);invoke d.target d.args:Sem Next):=by
     simp [execOp,resolve]
    rw [he,hxe]
    simp [Deferred.ofValue,invoke,callFunc,hf1,hb,hname]
   unfold Oper.wp
   rw [hrun]
   refine hcall.mono ?_
   rintro e w' ⟨y,rfl,hst⟩
   exact hst
  ·by_cases hjl:j<(args.toList.map st.ev).length
   ·have hjl':j<args.size:=by simpa using hjl
    have e1:(args.toList.map st.ev++caps)[j]=(args.toList.map st.ev)[j]:=List.getElem_append_left hjl
    have e2:(args.map a.eval++arr)[j]=(args.map a.eval)[j]'(by simpa using hjl'):=Array.getElem_append_left (by simpa using hjl')
    rw [e1,e2];simp;exact c.ev _
   ·have hsz:(args.toList.map st.ev).length=args.size:=by simp
    have hj2:j - args.size<caps.length:=by simp at hj;omega
    have e1:(args.toList.map st.ev++caps)[j]=caps[j - (args.toList.map st.ev).length]'(by omega):=List.getElem_append_right (by omega)
    have e2:(args.map a.eval++arr)[j]=arr[j - (args.map a.eval).size]'(by simp;omega):=Array.getElem_append_right (by simp;omega)
    rw [e1,e2]
    have e3:j - (args.map a.eval).size=j - args.size:=by simp
    have e4:j - (args.toList.map st.ev).length=j - args.size:=by rw [hsz]
    simp only [e3,e4]
    exact hcr _ hj2 (by omega)
 ·exact h.elim

def RootOk (E:Entry) (d:Option Nat) (o:Op):Prop:=makesR o=true→(∀ t,d=some t→E.args[t]? = none)∧(d=none→isCallV o=true)
theorem RootOk.some {o:Op} (h:RootOk E d o) (hm:makesR o=true) (hc:isCallV o=false):E.args[d.getD 0]? = none:=by
 obtain ⟨h1,h2⟩:=h hm
 cases d with
 | none=>rw [h2 rfl] at hc;cases hc
 | some t=>exact h1 t rfl

theorem aop_sound (c:Conc N E st a w I ρ) (hd:∀ t,d=some t→t<N) {o:Op} (hnp:RootOk E d o) (h6:E.args.length≤6) (h:aop P M st d o K):(⟨d,o,t,pos,after,g⟩:Oper).wp P a w (AOut N E K) Q:=by
 unfold aop at h
 split at h
 ·exact storeB_sound c hd h6 h
 ·rename_i ty x
  have hA:boxA (st.ev x).bears st d (st.ev x) K .mk→(⟨d,.box ty x,t,pos,after,g⟩:Oper).wp P a w (AOut N E K) Q:=fun h=>by
   unfold boxA at h
   split at h
   ·rename_i hb
    exact fop_step c hd (fun hm=>(hnp hm).1) rfl ⟨⟨h.1,hb⟩,h.2⟩
   ·exact box_sound c hd (hnp.some rfl rfl) h
  unfold boxM at h
  split at h
  ·exact hA h
  ·split at h
   ·exact boxF_sound c hd h
   ·rename_i hb
    exact hA (by rw [hb];exact h)
 ·rename_i t' n ps
  unfold buildM at h
  split at h
  ·exact fop_step c hd (fun hm=>(hnp hm).1) rfl h
  ·split at h
   ·rename_i hb
    exact build_sound c hd (hnp.some rfl rfl) hb h
   ·exact fop_step c hd (fun hm=>(hnp hm).1) rfl h
 ·exact map_sound c hd rfl h
 ·exact map_sound c hd rfl h
 ·rename_i c'
  obtain ⟨callee,args,argTypes⟩:=c'
  simp only at h
  split at h
  ·split at h
   ·rename_i q1 q2 x y t1 t2 hx ht
    have hargs:args = #[x,y]:=by apply Array.toList_inj.1;simpa using hx
    have hat:argTypes = #[t1,t2]:=by apply Array.toList_inj.1;simpa using ht
    subst hargs;subst hat
    obtain ⟨rfl,h⟩:=h
    exact append_sound c hd (hnp.some rfl rfl) h
   ·exact h.elim
  ·split at h
   ·rename_i q1 q2 x y t1 t2 hx ht
    have hargs:args = #[x,y]:=by apply Array.toList_inj.1;simpa using hx
    have hat:argTypes = #[t1,t2]:=by apply Array.toList_inj.1;simpa using ht
    subst hargs;subst hat
    exact copy_sound c hd h
   ·exact h.elim
  ·exact call_step c hd (hnp rfl).1 h
  ·rename_i hne1 hne2 hne3
   refine fop_step c hd (fun hm=>(hnp hm).1) ?_ h
   cases callee <;> first | rfl | exact (hne3 _ rfl).elim
 ·rename_i q1 q2 q0 q3 q4 q5
  refine fop_step c hd (fun hm=>(hnp hm).1) ?_ h
  cases o <;> first | rfl | exact (q5 _ rfl).elim

theorem dstOf_eq:∀ (l:List Oper) (j:Nat),dstOf l j=(l[j]?).bind (·.dst)
 | [],j=>by simp [dstOf]
 | o :: r,0=>by simp [dstOf]
 | o :: r,j+1=>by simp [dstOf,dstOf_eq r j]

theorem guard_sound (c:Conc N E st a w I ρ) (ops:List Oper) (o:Oper) {A B:Prop} (h:guardP ops st o.guard A B):(Region.wanted o (yielded ops.toArray a.tmps)=true∧A)∨(Region.wanted o (yielded ops.toArray a.tmps)=false∧B):=by
 unfold Region.wanted
 cases hg:o.guard with
 | none=>rw [hg] at h;exact .inl ⟨rfl,h⟩
 | some p =>
  obtain ⟨j,b⟩:=p
  rw [hg] at h
  simp only [guardP,dstOf_eq] at h
  simp only [yielded,List.getElem?_toArray]
  cases hd:(ops[j]?).bind (·.dst) with
  | none =>
   rw [hd] at h
   exact .inr ⟨by cases b <;> rfl,h⟩
  | some s =>
   rw [hd] at h
   simp only [St.frO] at h
   have hr:=c.fr s
   have hget:a.tmps[s]? = some (a.tmps.getD s undef)∨(a.tmps[s]? = none∧a.tmps.getD s undef=undef):=by
    by_cases hlt:s<a.tmps.size
    ·left;simp [Array.getD,hlt]
    ·right;simp [Array.getD,hlt,Array.getElem?_eq_none (Nat.le_of_not_lt hlt)]
   unfold guardQ at h
   split at h
   ·rename_i c0 hfr
    rw [hfr] at hr
    have hv:=rep_v hr
    have hsome:a.tmps[s]? = some (.bool c0):=by
     rcases hget with hq | ⟨_,hq⟩
     ·rw [hq,hv]
     ·rw [hv] at hq;cases hq
    simp only [Option.bind_some,hsome]
    cases b <;> cases c0 <;> simp [ifP] at h ⊢ <;> exact h
   ·rename_i q hfr
    rw [hfr] at hr
    have hv:=rep_v hr
    refine .inr ⟨?_,h⟩
    simp only [Option.bind_some]
    rcases hget with hq | ⟨hq,_⟩
    ·rw [hq,hv];rfl
    ·rw [hq];rfl
   ·exact h.elim

def OpOk (N:Nat) (E:Entry) (o:Oper):Prop:=(∀ t,o.dst=some t→t<N)∧RootOk E o.dst o.op∧E.args.length≤6

theorem seqOps_sound {Q:Exit→Act→World→Prop} (hQ:∀ a' w',AOut N E K a' w'→Q .normal a' w') (ops:List Oper):∀ (l:List Oper) (st:St) (a:Act) (w:World),(∀ o∈l,OpOk N E o)→seqOps P M ops l st K→CC N E st a w→wpList P ops.toArray Q l a w
 | [],st,a,w,_,h,hc=>hQ _ _ ⟨st,h,hc⟩
 | o :: r,st,a,w,hd,h,⟨I,ρ,c⟩=>by
  unfold wpList
  obtain ⟨hd0,hnp,h6⟩:=hd o (by simp)
  rcases guard_sound c ops o h with ⟨hw,h1⟩ | ⟨hw,h1⟩
  ·rw [if_pos hw]
   refine .inl ?_
   obtain ⟨dst,op,ty,pos,after,g⟩:=o
   refine Oper.wp_mono (fun a' w' hk=>?_) (aop_sound (Q:=Q) c hd0 hnp h6 h1)
   obtain ⟨st',hk,hc⟩:=hk
   exact seqOps_sound hQ ops r st' a' w' (fun o ho=>hd o (by simp [ho])) hk hc
  ·rw [if_neg (by simp [hw])]
   exact seqOps_sound hQ ops r _ _ _ (fun o ho=>hd o (by simp [ho])) h1 ⟨I,ρ,c.put _ hd0 (.stat (.v _))⟩
end
end Go.AM
namespace Go.AM
open Go.RowKit (Below)

section
variable {P:Program} {M:FuncId→List Bool} {N:Nat} {E:Entry} {st:St} {a:Act} {w w':World} {I I':Gh} {ρ ρ':Pl} {mem mem':Nat→Option AV}
variable {K K1:St→Prop} {Q:Exit→Act→World→Prop}
theorem seqOps_pre (ops r:List Oper) (hr:∀ a' w',AOut N E K1 a' w'→wpList P ops.toArray Q r a' w'):∀ (l:List Oper) (st:St) (a:Act) (w:World),(∀ o∈l,OpOk N E o)→seqOps P M ops l st K1→CC N E st a w→wpList P ops.toArray Q (l++r) a w
 | [],st,a,w,_,h,hc=>hr _ _ ⟨st,h,hc⟩
 | o :: l,st,a,w,hd,h,⟨I,ρ,c⟩=>by
  rw [List.cons_append]
  unfold wpList
  obtain ⟨hd0,hnp,h6⟩:=hd o (by simp)
  rcases guard_sound c ops o h with ⟨hw,h1⟩ | ⟨hw,h1⟩
  ·rw [if_pos hw]
   refine .inl ?_
   obtain ⟨dst,op,ty,pos,after,g⟩:=o
   refine Oper.wp_mono (fun a' w' hk=>?_) (aop_sound (Q:=Q) c hd0 hnp h6 h1)
   obtain ⟨st',hk,hc⟩:=hk
   exact seqOps_pre ops r hr l st' a' w' (fun o ho=>hd o (by simp [ho])) hk hc
  ·rw [if_neg (by simp [hw])]
   exact seqOps_pre ops r hr l _ _ _ (fun o ho=>hd o (by simp [ho])) h1 ⟨I,ρ,c.put _ hd0 (.stat (.v _))⟩
theorem eval_put {x:Operand} {d:Nat} (h:notTmp d x=true) (a:Act) (v:Value):(a.put (some d) v).eval x=a.eval x:=by
 cases x with
 | tmp t =>
  have hne:t≠d:=by simpa [notTmp] using h
  show (a.tmps.setIfInBounds d v).getD t undef=a.tmps.getD t undef
  simp [Array.getD_eq_getD_getElem?,Array.getElem?_setIfInBounds_ne (Ne.symm hne)]
 | const v=>rfl
 | global g=>rfl
 | func f=>rfl
theorem bxEnd_sound (hQ:∀ a' w',AOut N E K a' w'→Q .normal a' w') (ops l:List Oper) (hd:∀ o∈l,OpOk N E o) (h:bxEnd P st l K) (c:Conc N E st a w I ρ):wpList P ops.toArray Q l a w:=by
  unfold bxEnd at h
  split at h
  · rename_i d T q1 q2 q3 T2 d' x q4 q5 q6
    obtain ⟨⟨rfl,rfl,h1,h2,h3,h4⟩,h⟩:=h
    have hdN:d'<N:=(hd _ (List.mem_cons_self ..)).1 d' rfl
    obtain ⟨z,hz⟩:∃ z,zeroT P T2=some z:=by
      cases hz:zeroT P T2 with
      | none=>rw [hz] at h4;cases h4
      | some z=>exact ⟨z,rfl⟩
    obtain ⟨inf,v,hi,hv,hvz⟩:=zeroT_spec hz
    have hs:sizeT P T2=(st.ev x).cells.length:=by
      unfold szT at h3
      rw [hi] at h3
      unfold sizeT
      rw [hi]
      exact Option.some.inj h3
    have hvl:v.cells.size=sizeT P T2:=by
      rw [hz] at h4
      have:=Option.some.inj h4
      rw [← hvz] at this
      simpa using this
    obtain ⟨r1,r2⟩:=rep_cells (c.ev x) h2
    have hxl:(a.eval x).cells.size=sizeT P T2:=by omega
    unfold wpList
    rw [if_pos (by rfl)]
    refine .inl ?_
    have hrun1:(execOp a.eval ⟨some d',.alloc T2,q1,q2,q3,none⟩).run P w=.ok (.value (.pointer (some ⟨w.heap.size,0,none⟩))) (w.alloc (.cells v.cells T2)):=by
      simp [execOp,Instr.alloc,zeroValue,typeInfo,hi,hv,newVar,newRow]
    refine wp_value hrun1 ?_
    unfold wpList
    rw [if_pos (by rfl)]
    refine .inl ?_
    have hev1:(a.put (some d') (.pointer (some ⟨w.heap.size,0,none⟩))).eval (.tmp d')=.pointer (some ⟨w.heap.size,0,none⟩):=by
      have hlt:d'<a.tmps.size:=by rw [c.size];exact hdN
      show (a.tmps.setIfInBounds d' _).getD d' undef=_
      simp [Array.getD,hlt]
    have hev2:=eval_put h1 a (.pointer (some ⟨w.heap.size,0,none⟩))
    have hst:=run_storeCells_at P w.heap.size 0 T2 (a.eval x).cells.toList 0 v.cells (w.alloc (.cells v.cells T2)) (heap_new w _) (by simp;omega) (fun u hu=>by
      obtain ⟨q,hq,rfl⟩:=List.mem_iff_getElem.1 hu
      have hq':q<(a.eval x).cells.size:=by simpa using hq
      have:=(r2 q (by omega) hq').2
      simpa using this)
    let arr':=(v.cells.toList.take 0++(a.eval x).cells.toList++v.cells.toList.drop (0+(a.eval x).cells.size)).toArray
    have harr:arr'=(a.eval x).cells:=by
      have:v.cells.toList.drop (0+(a.eval x).cells.size)=[]:=List.drop_eq_nil_of_le (by simp;omega)
      show (v.cells.toList.take 0++(a.eval x).cells.toList++v.cells.toList.drop (0+(a.eval x).cells.size)).toArray=_
      rw [this,List.take_zero,List.nil_append,List.append_nil,Array.toArray_toList]
    have hrun2:(Instr.storeAt T2 (.pointer (some ⟨w.heap.size,0,none⟩)) (a.eval x)).run P (w.alloc (.cells v.cells T2))=.ok () ((w.alloc (.cells v.cells T2)).setRow w.heap.size arr'):=by
      have hsr:(sizeOf T2).run P (w.alloc (.cells v.cells T2))=.ok (sizeT P T2) (w.alloc (.cells v.cells T2)):=sizeT_run hi _
      have hsz':sizeT P T2=(a.eval x).cells.size:=by omega
      simp only [Nat.add_zero,Array.length_toList] at hst
      simp [Instr.storeAt,Instr.sureAddr,storeVar,hsr,hsz',hst,arr']
    have hrun3:(execOp (a.put (some d') (.pointer (some ⟨w.heap.size,0,none⟩))).eval ⟨none,.store T2 (.tmp d') x,q4,q5,q6,none⟩).run P (w.alloc (.cells v.cells T2))=.ok .skip ((w.alloc (.cells v.cells T2)).setRow w.heap.size arr'):=by
      have he:execOp (a.put (some d') (.pointer (some ⟨w.heap.size,0,none⟩))).eval ⟨none,.store T2 (.tmp d') x,q4,q5,q6,none⟩=(do Instr.storeAt T2 ((a.put (some d') (.pointer (some ⟨w.heap.size,0,none⟩))).eval (.tmp d')) ((a.put (some d') (.pointer (some ⟨w.heap.size,0,none⟩))).eval x);pure .skip):=rfl
      rw [he,hev1,hev2,Sem.run_bind,hrun2];rfl
    refine wp_skip' hrun3 ?_
    have hnew:((w.alloc (.cells v.cells T2)).setRow w.heap.size arr').heap[w.heap.size]? = some (.cells (a.eval x).cells T2 (0,0)):=by
      rw [setRow_heap (w.alloc (.cells v.cells T2)) _ _ _ _ _ (heap_new w _),harr]
    have hold:∀ k,k<w.heap.size→((w.alloc (.cells v.cells T2)).setRow w.heap.size arr').heap[k]? = w.heap[k]?:=fun k hk=>by
      rw [setRow_other _ _ _ _ (by omega),heap_old w _ hk]
    have hbel:BelowX (fun _=>False) w.heap.size w ((w.alloc (.cells v.cells T2)).setRow w.heap.size arr'):=by
      have b0:=below_alloc w (.cells v.cells T2)
      exact ⟨b0.os,b0.tape,b0.output,by have:=b0.size;simp [World.setRow],fun k hk _=>hold k hk⟩
    generalize hw2:(w.alloc (.cells v.cells T2)).setRow w.heap.size arr'=w2 at hnew hold hbel ⊢
    have hg:Grow I w (frzNew I w w2) w2:=by
      refine ⟨⟨fun b o y hy=>?_,fun b cs hb=>by obtain ⟨t,f,y,g1,g2⟩:=c.held.base b cs hb;have q:=c.held.lt g2;exact ⟨t,f,y,(hbel.block b q (fun q=>q)).trans g1,by unfold frzNew;rw [if_neg (by omega)];exact g2⟩⟩,hbel,fun b o hb=>by unfold frzNew;rw [if_neg (by omega)]⟩
      unfold frzNew at hy
      split at hy
      · split at hy
        · rename_i u hu
          split at hy
          · cases hy;exact ⟨hu,by assumption⟩
          · cases hy
        · cases hy
      · exact (held_keep c.held hbel).cell b o y hy
    have hle:=hg.le c.held
    unfold wpList
    refine hQ _ _ ⟨_,h,_,ρ,(c.grow hg).put (some d') (fun t ht=>by cases ht;exact hdN) ?_⟩
    exact Rep.bx (I:=frzNew I w w2) (ρ:=ρ) (st.ev x).cells w.heap.size 0 (fun j=>(a.eval x).cells.getD j undef) (fun j hj=>by
        have hk:j<(a.eval x).cells.size:=by omega
        unfold frzNew
        rw [if_pos rfl,Nat.zero_add,cell_arr hnew hk]
        simp only
        have e5:(a.eval x).cells.getD j undef=(a.eval x).cells[j]:=by simp [Array.getD,hk]
        rw [e5,if_pos (r2 j hj hk).2])
      (fun j hj=>by
        have hk:j<(a.eval x).cells.size:=by omega
        have e5:(a.eval x).cells.getD j undef=(a.eval x).cells[j]:=by simp [Array.getD,hk]
        rw [e5];exact ((r2 j hj hk).1).mono hle)
  · exact h.elim
theorem seqX_sound (hQ:∀ a' w',AOut N E K a' w'→Q .normal a' w') {ops:List Oper} (hd:∀ o∈ops,OpOk N E o) (h:SeqX P M ops st K .mk .mk) (hc:CC N E st a w):wpList P ops.toArray Q ops a w:=by
 obtain ⟨n,h⟩:=h
 have e:=List.take_append_drop n ops
 have key:=seqOps_pre (P:=P) (M:=M) (N:=N) (E:=E) (K1:=fun st1=>bxEnd P st1 (ops.drop n) K) (Q:=Q) ops (ops.drop n) (fun a' w' ⟨st',hk,I,ρ,c⟩=>bxEnd_sound hQ ops (ops.drop n) (fun o ho=>hd o (List.mem_of_mem_drop ho)) hk c) (ops.take n) st a w (fun o ho=>hd o (List.mem_of_mem_take ho)) h hc
 rwa [e] at key
end
end Go.AM
namespace Go.AM

def Pick (F:(AV→Prop)→Prop):Prop:=∀ K:AV→Prop,F K→∃ v,F (fun v'=>v=v')∧K v
theorem pick_at (v:AV):Pick fun K=>K v:=fun _ h=>⟨v,rfl,h⟩
theorem pick_vc (p:Prop) {F:(AV→Prop)→Prop} (h:Pick F):Pick fun K=>vc p (F K) .mk:=fun K ⟨hp,hk⟩=>let ⟨v,a,b⟩:=h K hk;⟨v,⟨hp,a⟩,b⟩
theorem pick_false:Pick fun _=>False:=fun _ h=>h.elim
theorem pick_opt {α:Type} (o:Option α) {F:α→(AV→Prop)→Prop} (h:∀ a,Pick (F a)):Pick fun K=>optP o (fun a=>F a K) .mk:=fun K hk=>by
 cases o with
 | none=>exact hk.elim
 | some a=>exact h a K hk
theorem pick_if (b:Bool) (x y:AV):Pick fun K=>ifP b (K x) (K y) .mk .mk:=fun K h=>by
 cases b with
 | true=>exact ⟨x,⟨fun _=>rfl,(fun q=>by cases q)⟩,h.1 rfl⟩
 | false=>exact ⟨y,⟨(fun q=>by cases q),fun _=>rfl⟩,h.2 rfl⟩
theorem pick_intBin (op:BinOp) (k:IntKind) (m n:Int):Pick fun K=>intBin op k m n K .mk:=by
 cases op <;> first | exact pick_at _ | exact pick_vc _ (pick_at _) | exact pick_false
theorem pick_aggBin (op:BinOp) (L:Option (List (Nat×Nat))) (fs gs:List AV):Pick fun K=>aggBin op L fs gs K .mk:=by
 cases op <;> first | exact pick_opt _ (fun L=>pick_opt _ fun b=>pick_at _) | exact pick_false
theorem pick_nilBin (P:Program) (op:BinOp) (t:TypeId) (cst:Bool) (x y:AV):Pick fun K=>nilBin P op t cst x y K .mk:=by
 cases op <;> first | exact pick_opt _ (fun a=>pick_opt _ fun b=>pick_vc _ (pick_at _)) | exact pick_false
theorem pick_binP (P:Program) (op:BinOp) (t:TypeId) (cst:Bool) (x y:AV):Pick fun K=>binP P op t cst x y K .mk:=by
 intro K h
 unfold binP at h ⊢
 split at h
 ·rename_i k a k' b
  have:Pick fun K=>intBin2 op k k' a b K .mk:=by
   cases op <;> first | exact pick_vc _ (pick_at _) | exact pick_vc _ (pick_intBin _ _ _ _)
  exact this K h
 ·rename_i a b
  have:Pick fun K=>strBin op a b K .mk:=by
   cases op <;> first | exact pick_at _ | exact pick_vc _ (pick_at _) | exact pick_false
  exact this K h
 ·rename_i a b
  have:Pick fun K=>boolBin P op t a b K .mk:=by
   cases op <;> first | exact pick_at _ | exact pick_vc _ (pick_at _) | exact pick_false
  exact this K h
 ·exact pick_aggBin _ _ _ _ K h
 ·exact pick_nilBin _ _ _ _ _ _ K h
theorem pick_unP (op:UnOp) (x:AV):Pick fun K=>unP op x K .mk:=by
 intro K h
 unfold unP at h
 split at h
 ·exact pick_at _ K h
 ·exact pick_at _ K h
 ·exact h.elim
theorem pick_pickP (c x y:AV):Pick fun K=>pickP c x y K .mk:=by
 intro K h
 unfold pickP at h
 split at h
 ·exact pick_if _ _ _ K h
 ·exact h.elim
theorem pick_loadCs (g:Option Bool) (n:Nat) (cs:List AV) (off:Nat):Pick fun K=>loadCs g n cs off K .mk:=by
 intro K h
 unfold loadCs at h
 split at h
 ·exact pick_vc _ (pick_at _) K h
 ·exact pick_vc _ (pick_at _) K h
 ·exact h.elim
theorem pick_loadE (g:Option Bool) (n s:Nat) (p:Path) (i j:Nat) (x:AV):Pick fun K=>loadE g n s p i j x K .mk:=by
 intro K h
 unfold loadE at h
 split at h
 ·exact pick_vc _ (pick_at _) K h
 ·exact pick_vc _ (pick_at _) K h
 ·exact h.elim
theorem pick_loadN (g:Option Bool) (n s:Nat) (p:Path) (i j:Nat) (T:AV):Pick fun K=>loadN g n s p i j T K .mk:=by
 intro K h
 unfold loadN at h
 split at h
 ·exact pick_vc _ (pick_loadE _ _ _ _ _ _ _) K h
 ·exact pick_vc _ (pick_loadE _ _ _ _ _ _ _) K h
 ·exact h.elim
theorem pick_loadP (P:Program) (mem:Nat→Option AV) (t:TypeId) (a:AV):Pick fun K=>loadP P mem t a K .mk:=by
 intro K h
 unfold loadP at h
 split at h
 ·exact pick_loadN _ _ _ _ _ _ _ K h
 ·exact pick_loadCs _ _ _ _ K h
 ·exact pick_loadCs _ _ _ _ K h
 ·exact h.elim
theorem pick_fieldAP (f:Option (Nat×TypeId)) (a:AV):Pick fun K=>fieldAP f a K .mk:=by
 intro K h
 unfold fieldAP at h
 split at h
 ·exact pick_at _ K h
 ·exact pick_vc _ (pick_at _) K h
 ·exact pick_vc _ (pick_at _) K h
 ·exact h.elim
theorem pick_indexAP (z:Option Nat) (a i:AV):Pick fun K=>indexAP z a i K .mk:=by
 intro K h
 unfold indexAP at h
 split at h
 ·exact pick_vc _ (pick_at _) K h
 ·exact pick_vc _ (pick_at _) K h
 ·exact h.elim
theorem pick_lenP (P:Program) (t:TypeId) (a:AV):Pick fun K=>lenP P t a K .mk:=by
 intro K h
 unfold lenP at h
 split at h <;> first | exact pick_vc _ (pick_at _) K h | exact h.elim
theorem pick_minmaxP (b:Bool) (x y:AV):Pick fun K=>minmaxP b x y K .mk:=by
 intro K h
 unfold minmaxP at h
 split at h <;> first | exact pick_vc _ (pick_at _) K h | exact h.elim
theorem pick_sliceP (P:Program) (t:TypeId) (x lo hi:AV):Pick fun K=>sliceP P t x lo hi K .mk:=by
 intro K h
 unfold sliceP at h
 split at h <;> first | exact pick_vc _ (pick_at _) K h | exact h.elim
theorem pick_fieldP (P:Program) (f:Option (Nat×TypeId)) (a:AV):Pick fun K=>fieldP P f a K .mk:=by
 intro K h
 unfold fieldP at h
 split at h
 ·exact pick_loadCs _ _ _ _ K h
 ·exact h.elim
theorem pick_strIndexP (P:Program) (t:TypeId) (a i:AV):Pick fun K=>strIndexP P t a i K .mk:=by
 intro K h
 unfold strIndexP at h
 split at h <;> first | exact pick_vc _ (pick_at _) K h | exact h.elim
theorem pick_nilP (x:AV):Pick fun K=>nilP x K .mk:=by
 intro K h
 unfold nilP at h
 split at h <;> first | exact pick_at _ K h | exact h.elim
theorem pick_tupP (x:AV) (i:Nat):Pick fun K=>tupP x i K .mk:=by
 intro K h
 unfold tupP at h
 split at h <;> first | exact pick_vc _ (pick_at _) K h | exact h.elim
theorem pick_convP (P:Program) (mem:Nat→Option AV) (src dst:TypeId) (x:AV):Pick fun K=>convP P mem src dst x K .mk:=by
 intro K h
 unfold convP at h
 split at h
 ·exact pick_vc _ (pick_opt _ fun k=>pick_at _) K h
 ·rename_i s p z o n
  have:∀ T:AV,Pick fun K=>convN P src dst o n T K .mk:=by
   intro T K h
   unfold convN at h
   split at h
   ·exact pick_vc _ (pick_opt _ fun e=>pick_vc _ (pick_at _)) K h
   ·exact h.elim
  exact this _ K h
 ·exact h.elim
theorem pick_lookQ (o:Option Value) (z:Value) (ok:Bool):Pick fun K=>lookQ o z ok K .mk:=by
 intro K h
 cases o <;> exact ⟨_,rfl,h⟩
theorem pick_lookP (P:Program) (mem:Nat→Option AV) (t:TypeId) (m i:AV) (ok:Bool):Pick fun K=>lookP P mem t m i ok K .mk:=by
 intro K h
 unfold lookP at h
 split at h
 ·rename_i s p
  have:∀ T:AV,Pick fun K=>lookN P t T i ok K .mk:=by
   intro T K h
   unfold lookN at h
   split at h
   ·rename_i kd f k _
    have:Pick fun K=>optP (mapT P t) (fun ke=>vc (ke.1=kd∧keyB kd k=true) (optP (zeroV P ke.2) (fun z=>lookQ (f k) z ok K .mk) .mk) .mk) .mk:=pick_opt _ fun ke=>pick_vc _ (pick_opt _ fun z=>pick_lookQ _ z ok)
    exact this K h
   ·exact h.elim
  exact this _ K h
 ·exact h.elim

abbrev Res:=Bool×AV
def Yld (P:Program) (ev:Operand→AV) (mem:Nat→Option AV) (o:Op) (r:Res):Prop:=fop P ev mem o (fun v'=>r=(false,v')) (fun T=>r=(true,T)) .mk .mk

theorem fop_pick {P:Program} {ev:Operand→AV} {mem:Nat→Option AV} {o:Op} {K B:AV→Prop} (h:fop P ev mem o K B .mk .mk) :
  ∃ r,Yld P ev mem o r∧(match r.1 with | false=>K r.2 | true=>B r.2)∧(r.1=true→makesB o=true):=by
 have one:∀ (F:(AV→Prop)→Prop),Pick F→F K→(∀ r:Res,F (fun v'=>r=(false,v'))→Yld P ev mem o r)→∃ r,Yld P ev mem o r∧(match r.1 with | false=>K r.2 | true=>B r.2)∧(r.1=true→makesB o=true):=by
  intro F hp hk hy
  obtain ⟨v,h1,h2⟩:=hp K hk
  refine ⟨(false,v),hy _ ?_,h2,fun q=>by cases q⟩
  have:(fun v'=>((false,v):Res)=(false,v'))=fun v'=>v=v':=by funext v';simp
  rw [this];exact h1
 cases o <;> unfold fop at h <;> try exact h.elim
 case move x=>exact one _ (pick_at _) h (fun r hr=>hr)
 case assign x=>exact one _ (pick_at _) h (fun r hr=>hr)
 case pick c x y=>exact one _ (pick_pickP _ _ _) h (fun r hr=>hr)
 case load t a=>exact one _ (pick_loadP _ _ _ _) h (fun r hr=>hr)
 case nilCheck x=>exact one _ (pick_nilP _) h (fun r hr=>hr)
 case binOp op t x y yt=>exact one _ (pick_binP _ _ _ _ _ _) h (fun r hr=>hr)
 case unOp op t x=>exact one _ (pick_unP _ _) h (fun r hr=>hr)
 case convert src dst x=>exact one _ (pick_convP _ _ _ _ _) h (fun r hr=>hr)
 case fieldAddr t x i=>exact one _ (pick_fieldAP _ _) h (fun r hr=>hr)
 case field t x i=>exact one _ (pick_fieldP _ _ _) h (fun r hr=>hr)
 case indexAddr t x i=>exact one _ (pick_indexAP _ _ _) h (fun r hr=>hr)
 case index t x i=>exact one _ (pick_strIndexP _ _ _ _) h (fun r hr=>hr)
 case lookup t m i ok=>exact one _ (pick_lookP _ _ _ _ _ _) h (fun r hr=>hr)
 case extract x i=>exact one _ (pick_tupP _ _) h (fun r hr=>hr)
 case slice t x lo hi mx =>
  cases mx with
  | some _=>exact h.elim
  | none=>exact one _ (pick_sliceP _ _ _ _ _) h (fun r hr=>hr)
 case makeFunc f first caps =>
  cases f <;> try exact h.elim
  exact one _ (pick_vc _ (pick_at _)) h (fun r hr=>hr)
 case build t ps=>exact one _ (pick_opt _ fun z=>pick_opt _ fun cs=>pick_vc _ (pick_at _)) h (fun r hr=>hr)
 case alloc t =>
  simp only at h
  cases hz:zeroT P t with
  | none=>rw [hz] at h;exact h.elim
  | some z =>
   rw [hz] at h
   cases hg:aggT P t with
   | none=>rw [hg] at h;exact h.elim
   | some g=>rw [hg] at h;exact ⟨(true,_),by unfold Yld fop;simp only [hz,hg,optP];exact ⟨h.1,rfl⟩,h.2,fun _=>rfl⟩
 case box t x=>exact ⟨(true,_),by unfold Yld fop;exact ⟨h.1,rfl⟩,h.2,fun _=>rfl⟩
 case makeMap t r =>
  cases r with
  | some _=>exact h.elim
  | none =>
   simp only at h
   cases hz:mapT P t with
   | none=>rw [hz] at h;exact h.elim
   | some ke=>rw [hz] at h;exact ⟨(true,_),by unfold Yld fop;simp only [hz];rfl,h,fun _=>rfl⟩
 case buildSlice t n ps =>
  simp only at h
  cases hz:elemT P t with
  | none=>rw [hz] at h;exact h.elim
  | some z =>
   rw [hz] at h
   obtain ⟨h1,h2⟩:=h
   cases hb:AV.bearsL (ps.toList.map fun p=>ev p.2) with
   | true=>rw [hb,resP_t] at h2;exact ⟨(false,_),by unfold Yld fop;simp only [hz,optP];exact ⟨h1,by rw [hb];exact (rfl:((false,_):Res)=(false,_))⟩,h2,fun q=>by cases q⟩
   | false=>rw [hb,resP_f] at h2;exact ⟨(true,_),by unfold Yld fop;simp only [hz,optP];exact ⟨h1,by rw [hb];exact (rfl:((true,_):Res)=(true,_))⟩,h2,fun _=>rfl⟩
 case makeSlice t l c =>
  simp only at h
  cases hz:elemT P t with
  | none=>rw [hz] at h;exact h.elim
  | some e =>
   rw [hz] at h
   simp only [optP] at h
   split at h
   ·rename_i z hz2
    split at h
    ·rename_i g hg
     simp only [intP] at h
     split at h
     ·rename_i kl n hn
      split at h
      ·rename_i kc n' hn'
       refine ⟨(true,_),?_,h.2,fun _=>rfl⟩
       unfold Yld fop
       simp only [hz,optP,hz2,hg,hn,intP,hn']
       exact ⟨h.1,rfl⟩
      ·exact h.elim
     ·exact h.elim
    ·exact h.elim
   ·exact h.elim
 case call c =>
  have h:callOp P ev mem c K B .mk .mk:=h
  unfold callOp at h
  have hY:∀ r,callOp P ev mem c (fun v'=>r=(false,v')) (fun T=>r=(true,T)) .mk .mk→Yld P ev mem (.call c) r:=fun r hr=>hr
  unfold callOp at hY
  split at h
  ·rename_i x hx
   have hmk:makesB (.call c)=true:=by simp [makesB,hx]
   rw [hx] at hY
   simp only at hY
   unfold calleeP at h hY
   split at h
   ·rename_i f caps hf
    rw [hf] at hY
    simp only at hY
    obtain ⟨r,h1,h2,h3⟩:=h
    rcases h3 with h3 | h3
    ·cases hn:r.nodeB with
     | true=>rw [hn] at h3;exact ⟨(true,r),hY _ ⟨r,h1,h2,.inl (by rw [hn];rfl)⟩,h3,fun _=>hmk⟩
     | false=>rw [hn] at h3;exact ⟨(false,r),hY _ ⟨r,h1,h2,.inl (by rw [hn];rfl)⟩,h3,fun q=>by cases q⟩
    ·exact ⟨(false,r.fz),hY _ ⟨r,h1,h2,.inr rfl⟩,h3,fun q=>by cases q⟩
   ·exact h.elim
  ·rename_i hx
   rw [hx] at hY
   simp only at hY
   split at h
   ·rename_i x t ts e1 e2
    rw [e1,e2] at hY
    exact one _ (pick_lenP _ _ _) h hY
   ·exact h.elim
  ·rename_i hx
   rw [hx] at hY
   simp only at hY
   split at h
   ·rename_i x y e1
    rw [e1] at hY
    exact one _ (pick_minmaxP _ _ _) h hY
   ·exact h.elim
  ·rename_i hx
   rw [hx] at hY
   simp only at hY
   split at h
   ·rename_i x y e1
    rw [e1] at hY
    exact one _ (pick_minmaxP _ _ _) h hY
   ·exact h.elim
  ·exact h.elim

theorem fop_congr {P:Program} {ev ev':Operand→AV} {mem:Nat→Option AV} {o:Op} {K B:AV→Prop} (he:∀ x∈o.operands,ev x=ev' x) (h:fop P ev mem o K B .mk .mk):fop P ev' mem o K B .mk .mk:=by
  cases o <;> simp only [Op.operands] at he <;> simp only [fop] at h ⊢
  case move x=>rw [← he x (by simp)];exact h
  case assign x=>rw [← he x (by simp)];exact h
  case pick c x y=>rw [← he c (by simp),← he x (by simp),← he y (by simp)];exact h
  case alloc t=>exact h
  case box t x=>rw [← he x (by simp)];exact h
  case load t x=>rw [← he x (by simp)];exact h
  case nilCheck x=>rw [← he x (by simp)];exact h
  case binOp op t x y yt=>rw [← he x (by simp),← he y (by simp)];exact h
  case unOp op t x=>rw [← he x (by simp)];exact h
  case convert src dst x=>rw [← he x (by simp)];exact h
  case fieldAddr t x i=>rw [← he x (by simp)];exact h
  case field t x i=>rw [← he x (by simp)];exact h
  case indexAddr t x i=>rw [← he x (by simp),← he i (by simp)];exact h
  case index t x i=>rw [← he x (by simp),← he i (by simp)];exact h
  case lookup t x i ok=>rw [← he x (by simp),← he i (by simp)];exact h
  case extract x i=>rw [← he x (by simp)];exact h
  case makeSlice t l c=>rw [← he l (by simp),← he c (by simp)];exact h
  case makeMap t r=>exact h
  case build t ps =>
    have:(ps.toList.map fun p=>(p.1,ev p.2))=ps.toList.map fun p=>(p.1,ev' p.2):=List.map_congr_left fun p hp=>by rw [he p.2 (by simp;exact ⟨p.1,by simpa using hp⟩)]
    rw [← this];exact h
  case buildSlice t n ps =>
    have e0:(ps.toList.map fun p=>ev p.2)=ps.toList.map fun p=>ev' p.2:=List.map_congr_left fun p hp=>by rw [he p.2 (by simp;exact ⟨p.1,by simpa using hp⟩)]
    have e1:∀ z,(ps.toList.all fun p=>decide ((ev p.2).cells.length=z) && knownCells (ev p.2))=(ps.toList.all fun p=>decide ((ev' p.2).cells.length=z) && knownCells (ev' p.2)):=by
      intro z
      rw [Bool.eq_iff_iff,List.all_eq_true,List.all_eq_true]
      constructor <;> intro q p hp <;> have:=q p hp <;> have e:=he p.2 (by simp;exact ⟨p.1,by simpa using hp⟩) <;> first | rw [e] at this;exact this | rw [← e] at this;exact this
    cases hz:elemT P t with
    | none=>rw [hz] at h;exact h.elim
    | some e =>
      rw [hz] at h
      simp only [optP] at h ⊢
      rw [← e0,← e1];exact h
  case makeFunc f first caps =>
    cases f <;> simp only at h ⊢
    have:caps.toList.map ev=caps.toList.map ev':=List.map_congr_left fun p hp=>he p (by simp;exact .inr (by simpa using hp))
    rw [← this];exact h
  case slice t x lo hi mx =>
    cases mx with
    | some _=>simp only at h
    | none =>
      have h1:lo.map ev=lo.map ev':=by cases lo with | none=>rfl | some l=>simp [he l (by simp)]
      have h2:hi.map ev=hi.map ev':=by cases hi with | none=>rfl | some l=>simp [he l (by simp)]
      simp only at h ⊢
      rw [← h1,← h2,← he x (by simp)];exact h
  case call c =>
    obtain ⟨callee,args,argTypes⟩:=c
    have ha:args.toList.map ev=args.toList.map ev':=List.map_congr_left fun p hp=>he p (by simp [Call.operands];exact .inr (by simpa using hp))
    cases callee with
    | value x =>
      have hx:=he x (by simp [Call.operands])
      unfold callOp at h ⊢
      simp only at h ⊢
      rw [← ha,← hx];exact h
    | invoke r m=>exact h.elim
    | builtin b =>
      unfold callOp at h ⊢
      cases b <;> try exact h.elim
      all_goals
        simp only at h ⊢
        split at h
        · first
            | (rename_i hx _
               have:=he _ (by simp [Call.operands];rw [← Array.mem_toList_iff,hx];exact List.mem_cons_self ..)
               rw [← this];exact h)
            | (rename_i hx
               have:=he _ (by simp [Call.operands];rw [← Array.mem_toList_iff,hx];exact List.mem_cons_self ..)
               have h2:=he _ (by simp [Call.operands];rw [← Array.mem_toList_iff,hx];exact List.mem_cons_of_mem _ (List.mem_cons_self ..))
               rw [← this,← h2];exact h)
        · exact h.elim
end Go.AM
namespace Go.AM
open Go.RowKit (Below)

def app1 (o:Oper) (r:Res) (st:St):St:=match r.1 with | false=>st.put o.dst r.2 | true=>st.addN o.dst r.2
def part:List Oper→List Res→(Nat→Bool)→Nat→St→St
 | o :: os,r :: rs,L,k,st=>part os rs L (k+1) (if L k then app1 o r st else st)
 | _,_,_,_,st=>st

def gsel (ops:List Oper) (st:St) (g:Option (Nat×Bool)):Option Bool :=
 match g with
 | none=>some true
 | some (j,b)=>match st.frO (dstOf ops j) with | .v (.bool c)=>some (c == b) | .v (.tuple _)=>some false | _=>none

theorem guardP_sel {ops:List Oper} {st:St} {g:Option (Nat×Bool)} {A B:Prop} (h:guardP ops st g A B):(gsel ops st g=some true∧A)∨(gsel ops st g=some false∧B):=by
 unfold gsel
 cases g with
 | none=>exact .inl ⟨rfl,h⟩
 | some p =>
  obtain ⟨j,b⟩:=p
  simp only [guardP] at h
  simp only
  generalize st.frO (dstOf ops j)=c at h ⊢
  unfold guardQ at h
  split at h
  ·cases b <;> rename_i c <;> cases c <;> simp [ifP] at h ⊢ <;> exact h
  ·exact .inr ⟨rfl,h⟩
  ·exact h.elim

def StepR (P:Program) (ops:List Oper) (mem0:Nat→Option AV) (o:Oper) (st:St) (r:Res):Prop :=
 (gsel ops st o.guard=some true∧Yld P st.ev mem0 o.op r∧(r.1=true→makesB o.op=true))∨(gsel ops st o.guard=some false∧r=(false,.un))
def FlowR (P:Program) (ops:List Oper) (mem0:Nat→Option AV):List Oper→List Res→St→Prop
 | [],[],_=>True
 | o :: os,r :: rs,st=>StepR P ops mem0 o st r∧FlowR P ops mem0 os rs (app1 o r st)
 | _,_,_=>False

theorem flow_extract {P:Program} {ops:List Oper} {mem0:Nat→Option AV} {K:St→Prop}:∀ (hd:List Oper) (k:Nat) (st:St),flowOps P ops mem0 hd st K→∃ rs,FlowR P ops mem0 hd rs st∧K (part hd rs (fun _=>true) k st)
 | [],_,st,h=>⟨[],trivial,h⟩
 | o :: os,k,st,h=>by
  rcases guardP_sel h with ⟨hg,h1⟩ | ⟨hg,h1⟩
  ·obtain ⟨⟨b,v⟩,h2,h3,h4⟩:=fop_pick h1
   cases b with
   | false =>
    obtain ⟨rs,h5,h6⟩:=flow_extract os (k+1) _ h3
    exact ⟨(false,v) :: rs,⟨.inl ⟨hg,h2,h4⟩,h5⟩,h6⟩
   | true =>
    obtain ⟨rs,h5,h6⟩:=flow_extract os (k+1) _ h3
    exact ⟨(true,v) :: rs,⟨.inl ⟨hg,h2,h4⟩,h5⟩,h6⟩
  ·obtain ⟨rs,h5,h6⟩:=flow_extract os (k+1) _ h1
   exact ⟨(false,.un) :: rs,⟨.inr ⟨hg,rfl⟩,h5⟩,h6⟩

theorem flow_len {P:Program} {ops:List Oper} {mem0:Nat→Option AV}:∀ {hd:List Oper} {rs:List Res} {st:St},FlowR P ops mem0 hd rs st→rs.length=hd.length
 | [],[],_,_=>rfl
 | _ :: _,_ :: _,_,h=>by simp [flow_len h.2]
 | [],_ :: _,_,h=>h.elim
 | _ :: _,[],_,h=>h.elim

theorem part_congr:∀ (hd:List Oper) (rs:List Res) {L M:Nat→Bool} (k:Nat) (st:St),(∀ j,k≤j→L j=M j)→part hd rs L k st=part hd rs M k st
 | [],_,_,_,_,_,_=>rfl
 | _ :: _,[],_,_,_,_,_=>rfl
 | o :: os,r :: rs,L,M,k,st,h=>by
  simp only [part,h k (Nat.le_refl _)]
  exact part_congr os rs (k+1) _ fun j hj=>h j (by omega)

theorem part_none:∀ (hd:List Oper) (rs:List Res) {L:Nat→Bool} (k:Nat) (st:St),(∀ j,k≤j→L j=false)→part hd rs L k st=st
 | [],_,_,_,_,_=>rfl
 | _ :: _,[],_,_,_,_=>rfl
 | o :: os,r :: rs,L,k,st,h=>by
  simp only [part,h k (Nat.le_refl _)]
  exact part_none os rs (k+1) _ fun j hj=>h j (by omega)

theorem flow_step {P:Program} {ops:List Oper} {mem0:Nat→Option AV}:∀ {hd:List Oper} {rs:List Res} {st:St} (k:Nat),FlowR P ops mem0 hd rs st→∀ i o r,hd[i]? = some o→rs[i]? = some r→StepR P ops mem0 o (part hd rs (fun j=>decide (j<k+i)) k st) r
 | [],_,_,_,_,i,_,_,h,_=>by simp at h
 | _ :: _,[],_,_,h,_,_,_,_,_=>h.elim
 | o :: os,r :: rs,st,k,h,0,o',r',h1,h2=>by
  simp at h1 h2
  subst h1;subst h2
  rw [part_none _ _ _ _ (fun j hj=>by simp;omega)]
  exact h.1
 | o :: os,r :: rs,st,k,h,i+1,o',r',h1,h2=>by
  have:=flow_step (k+1) h.2 i o' r' (by simpa using h1) (by simpa using h2)
  simp only [part]
  have e2:(fun j=>decide (j<k+1+i))=fun j=>decide (j<k+(i+1)):=by funext j;congr 1;rw [Nat.add_assoc,Nat.add_comm 1 i]
  rw [e2] at this
  rw [if_pos (by simp)]
  exact this

theorem part_fr {u:Nat}:∀ (hd:List Oper) (rs:List Res) {L M:Nat→Bool} (k:Nat) (st st':St),st.fr u=st'.fr u→(∀ j o,hd[j]? = some o→o.dst=some u→L (k+j)=M (k+j))→(part hd rs L k st).fr u=(part hd rs M k st').fr u
 | [],_,_,_,_,_,_,h,_=>h
 | _ :: _,[],_,_,_,_,_,h,_=>h
 | o :: os,r :: rs,L,M,k,st,st',h,hL=>by
  simp only [part]
  refine part_fr os rs (k+1) _ _ ?_ fun j o' h1 h2=>by have:=hL (j+1) o' (by simpa using h1) h2;simpa [Nat.add_assoc,Nat.add_comm 1 j] using this
  have key:∀ s:St,(app1 o r s).fr u=if o.dst=some u then (match r.1 with | true=>r.2.atoms u [] | false=>r.2) else s.fr u:=by
   intro s
   unfold app1
   obtain ⟨b,v⟩:=r
   cases b <;> cases hd:o.dst <;> simp [St.put,St.addN,St.setMem]
   all_goals (split <;> split <;> first | rfl | (rename_i a b;exact absurd a.symm b) | (rename_i a b;exact absurd b.symm a) | (rename_i a b;subst a;rfl))
  by_cases hdst:o.dst=some u
  ·have:=hL 0 o (by simp) hdst
   simp only [Nat.add_zero] at this
   rw [this]
   cases M k <;> simp [key,hdst,h]
  ·cases L k <;> cases M k <;> simp [key,hdst,h]

theorem put_mem (st:St) (d:Option Nat) (v:AV):(st.put d v).mem=st.mem:=by cases d <;> rfl
theorem app1_mem (o:Oper) (r:Res) (st:St) (s:Nat) (h:r.1=true→o.dst≠some s):(app1 o r st).mem s=st.mem s:=by
 unfold app1
 obtain ⟨b,v⟩:=r
 cases b with
 | false=>simp only [put_mem]
 | true =>
  cases hd:o.dst with
  | none=>rfl
  | some d =>
   have:s≠d:=fun e=>h rfl (by rw [hd,e])
   simp only [St.addN,put_mem,St.setMem,if_neg this]

theorem part_mem {s:Nat}:∀ (hd:List Oper) (rs:List Res) {L:Nat→Bool} (k:Nat) (st:St),(∀ j o r,hd[j]? = some o→rs[j]? = some r→L (k+j)=true→r.1=true→o.dst≠some s)→(part hd rs L k st).mem s=st.mem s
 | [],_,_,_,_,_=>rfl
 | _ :: _,[],_,_,_,_=>rfl
 | o :: os,r :: rs,L,k,st,h=>by
  simp only [part]
  rw [part_mem os rs (k+1) _ fun j o' r' h1 h2 h3 h4=>h (j+1) o' r' (by simpa using h1) (by simpa using h2) (by simpa [Nat.add_assoc,Nat.add_comm 1 j] using h3) h4]
  split
  ·rename_i hl
   exact app1_mem o r st s fun hr=>h 0 o r (by simp) (by simp) (by simpa using hl) hr
  ·rfl

theorem app1_comm {o o':Oper} {r r':Res} {d d':Nat} (h:o.dst=some d) (h':o'.dst=some d') (hne:d≠d') (st:St):app1 o r (app1 o' r' st)=app1 o' r' (app1 o r st):=by
 unfold app1
 rw [h,h']
 obtain ⟨b,v⟩:=r
 obtain ⟨b',v'⟩:=r'
 cases b <;> cases b' <;> simp only [St.put,St.addN,St.setMem] <;> congr 1 <;> funext i <;> by_cases c1:i=d <;> by_cases c2:i=d' <;> simp [c1,c2] <;> omega

theorem part_comm {o:Oper} {r:Res} {d:Nat} (h:o.dst=some d):∀ (hd:List Oper) (rs:List Res) {L:Nat→Bool} (k:Nat) (st:St),(∀ o'∈hd,∃ d',o'.dst=some d'∧d'≠d)→part hd rs L k (app1 o r st)=app1 o r (part hd rs L k st)
 | [],_,_,_,_,_=>rfl
 | _ :: _,[],_,_,_,_=>rfl
 | o' :: os,r' :: rs,L,k,st,hx=>by
  obtain ⟨d',h',hne⟩:=hx o' (by simp)
  simp only [part]
  cases L k with
  | true=>rw [if_pos rfl,if_pos rfl,app1_comm h' h hne,part_comm h os rs (k+1) _ fun o'' ho=>hx o'' (by simp [ho])]
  | false=>exact part_comm h os rs (k+1) _ fun o'' ho=>hx o'' (by simp [ho])

def DistinctD:List Oper→Prop
 | []=>True
 | o :: r=>(∃ d,o.dst=some d∧∀ o'∈r,∃ d',o'.dst=some d'∧d'≠d)∧DistinctD r

theorem part_set:∀ (hd:List Oper) (rs:List Res) {L M:Nat→Bool} (k:Nat) (st:St) (i:Nat) (o:Oper) (r:Res),DistinctD hd→hd[i]? = some o→rs[i]? = some r→L (k+i)=false→M (k+i)=true→(∀ j,j≠k+i→M j=L j) →
  part hd rs M k st=app1 o r (part hd rs L k st)
 | [],_,_,_,_,_,_,_,_,_,h,_,_,_,_=>by simp at h
 | _ :: _,[],_,_,_,_,_,_,_,_,_,h,_,_,_=>by simp at h
 | o' :: os,r' :: rs,L,M,k,st,0,o,r,hdis,h1,h2,h3,h4,h5=>by
  simp at h1 h2
  subst h1;subst h2
  obtain ⟨d,hd,hx⟩:=hdis.1
  simp only [Nat.add_zero] at h3 h4 h5
  simp only [part,h3,h4,if_true]
  rw [part_congr os rs (k+1) _ (M:=L) fun j hj=>h5 j (by omega)]
  exact part_comm hd os rs (k+1) st hx
 | o' :: os,r' :: rs,L,M,k,st,i+1,o,r,hdis,h1,h2,h3,h4,h5=>by
  have hk:M k=L k:=h5 k (by omega)
  simp only [part,hk]
  exact part_set os rs (k+1) _ i o r hdis.2 (by simpa using h1) (by simpa using h2) (by simpa [Nat.add_assoc,Nat.add_comm 1 i] using h3) (by simpa [Nat.add_assoc,Nat.add_comm 1 i] using h4) fun j hj=>h5 j (by omega)

theorem distinctB_spec:∀ {hd:List Oper},distinctB hd=true→DistinctD hd
 | [],_=>trivial
 | o :: r,h=>by
  simp only [distinctB,Bool.and_eq_true] at h
  refine ⟨?_,distinctB_spec h.2⟩
  cases hd:o.dst with
  | none=>rw [hd] at h;exact absurd h.1 (by simp)
  | some d =>
   rw [hd] at h
   refine ⟨d,rfl,fun o' ho=>?_⟩
   have:=List.all_eq_true.1 h.1 o' ho
   cases hd':o'.dst with
   | none=>rw [hd'] at this;simp at this
   | some d'=>rw [hd'] at this;exact ⟨d',rfl,by simpa using this⟩

theorem head_tail:∀ ops:List Oper,headOps ops++tailOps ops=ops
 | []=>rfl
 | o :: r=>by
  simp only [headOps,tailOps]
  split
  ·rfl
  ·rw [List.cons_append,head_tail r]

theorem mem_bindOn {o:Oper} {j:Nat}:j∈bindOn o↔∃ e∈o.after,Region.binds .any e=true∧e.on=j:=by
 unfold bindOn
 simp only [List.mem_map,List.mem_filter]
 constructor
 ·rintro ⟨e,⟨h1,h2⟩,h3⟩;exact ⟨e,by simpa using h1,h2,h3⟩
 ·rintro ⟨e,h1,h2,h3⟩;exact ⟨e,⟨by simpa using h1,h2⟩,h3⟩

theorem ancT_spec (L:Nat→Bool) (all:List Oper) (hclosed:∀ j o,all[j]? = some o→L j=true→∀ q∈bindOn o,L q=true):∀ (l:List Oper) (acc:List (List Nat)) (k:Nat),acc.length=k→(∀ j,l[j]? = all[k+j]?)→(∀ i o,i<k→all[i]? = some o→(∀ q∈bindOn o,L q=true)→∀ x∈acc.getD i [],L x=true) →
  ∀ i o,i<k+l.length→all[i]? = some o→(∀ q∈bindOn o,L q=true)→∀ x∈(ancT l acc).getD i [],L x=true
 | [],acc,k,_,_,h,i,o,hi,ho,hq=>by simp at hi;exact h i o hi ho hq
 | o' :: r,acc,k,hk,hl,h,i,o,hi,ho,hq=>by
  have h0:all[k]? = some o':=by have:=hl 0;simpa using this.symm
  refine ancT_spec L all hclosed r _ (k+1) (by simp [hk]) (fun j=>by have:=hl (j+1);simpa [Nat.add_assoc,Nat.add_comm 1 j] using this) ?_ i o (by simp at hi ⊢;omega) ho hq
  intro i' o'' hi' ho'' hq' x hx
  by_cases hik:i'<k
  ·rw [List.getD_eq_getElem?_getD,List.getElem?_append_left (by omega),← List.getD_eq_getElem?_getD] at hx
   exact h i' o'' hik ho'' hq' x hx
  ·have:i'=k:=by omega
   subst this
   rw [h0] at ho''
   cases ho''
   rw [List.getD_eq_getElem?_getD,List.getElem?_append_right (by omega),← List.getD_eq_getElem?_getD] at hx
   have e:i' - acc.length=0:=by omega
   rw [e] at hx
   simp only [List.getD_cons_zero,List.mem_eraseDups,List.mem_append,List.mem_flatMap] at hx
   rcases hx with hx | ⟨j,hj,hx⟩
   ·exact hq' x hx
   ·rcases Nat.lt_or_ge j i' with hjk | hjk
    ·cases hoj:all[j]? with
     | none =>
      have h1:=List.getElem?_eq_none_iff.1 hoj
      have h2:=(List.getElem?_eq_some_iff.1 h0).1
      omega
     | some oj=>exact h j oj hjk hoj (fun q hq2=>hclosed j oj hoj (hq' j hj) q hq2) x hx
    ·rw [List.getD_eq_getElem?_getD,List.getElem?_eq_none (by omega)] at hx;cases hx
end Go.AM
namespace Go.AM
open Go.RowKit (Below)

section
variable {P:Program} {M:FuncId→List Bool} {N:Nat} {E:Entry}

theorem part_congr':∀ (hd:List Oper) (rs:List Res) {L M:Nat→Bool} (k:Nat) (st:St),(∀ j,k≤j→j<k+hd.length→L j=M j)→part hd rs L k st=part hd rs M k st
 | [],_,_,_,_,_,_=>rfl
 | _ :: _,[],_,_,_,_,_=>rfl
 | o :: os,r :: rs,L,M,k,st,h=>by
  simp only [part,h k (Nat.le_refl _) (by simp)]
  exact part_congr' os rs (k+1) _ fun j hj hj'=>h j (by omega) (by simp;omega)

theorem killNew_cons (o:Oper) (r:List Oper) (st:St):(∃ d,makesB o.op=true∧o.dst=some d∧killNew (o :: r) st=killNew r (st.kill d))∨((makesB o.op=false∨o.dst=none)∧killNew (o :: r) st=killNew r st):=by
 cases hm:makesB o.op with
 | false=>exact .inr ⟨.inl rfl,by simp [killNew,hm]⟩
 | true =>
  cases hd:o.dst with
  | none=>exact .inr ⟨.inr rfl,by simp [killNew,hd]⟩
  | some d=>exact .inl ⟨d,rfl,rfl,by simp [killNew,hm,hd]⟩
theorem killNew_mem {s:Nat}:∀ (hd:List Oper) (st:St),(∀ o∈hd,makesB o.op=true→o.dst≠some s)∨(killNew hd st).mem s=none
 | [],_=>.inl (fun _ h=>by cases h)
 | o :: r,st=>by
  have keep:∀ (r:List Oper) (st:St),st.mem s=none→(killNew r st).mem s=none:=by
   intro r
   induction r with
   | nil=>intro st h;exact h
   | cons o r ih =>
    intro st h
    rcases killNew_cons o r st with ⟨d,_,_,e⟩ | ⟨_,e⟩
    ·rw [e]
     refine ih _ ?_
     simp only [St.kill,St.del,St.mapF]
     split
     ·rfl
     ·exact h
    ·rw [e];exact ih _ h
  rcases killNew_cons o r st with ⟨d,hm,hdd,e⟩ | ⟨hm,e⟩
  ·rw [e]
   by_cases hs:d=s
   ·subst hs;exact .inr (keep r _ (kill_mem_self st d))
   ·rcases killNew_mem r (st.kill d) with h | h
    ·exact .inl fun o' ho hm'=>by
      rcases List.mem_cons.1 ho with rfl | ho
      ·rw [hdd];intro e;cases e;exact hs rfl
      ·exact h o' ho hm'
    ·exact .inr h
  ·rw [e]
   rcases killNew_mem r st with h | h
   ·exact .inl fun o' ho hm'=>by
     rcases List.mem_cons.1 ho with rfl | ho
     ·rcases hm with hm | hm
      ·rw [hm] at hm';cases hm'
      ·rw [hm];intro e;cases e
     ·exact h o' ho hm'
   ·exact .inr h

theorem conc_killNew {a:Act} {w:World} {I:Gh}:∀ (hd:List Oper) (st:St) (ρ:Pl),Conc N E st a w I ρ →
  ∀ ρ':Pl,(∀ s,ρ' s=ρ s∨∃ o∈hd,makesB o.op=true∧o.dst=some s)→Conc N E (killNew hd st) a w I ρ'
 | [],st,ρ,c,ρ',h=>by
  have:ρ'=ρ:=by funext s;rcases h s with h | ⟨o,ho,_⟩;exact h;cases ho
  rw [this];exact c
 | o :: r,st,ρ,c,ρ',h=>by
  rcases killNew_cons o r st with ⟨D,hm,hdd,e⟩ | ⟨hm,e⟩
  ·rw [e]
   refine conc_killNew r _ (fun s=>if s=D then ρ' D else ρ s) (c.kill D (fun s hs=>by simp [hs])) ρ' fun s=>?_
   by_cases hs:s=D
   ·left;simp [hs]
   ·simp only [hs,if_false]
    rcases h s with h | ⟨o',ho,hm',he⟩
    ·exact .inl h
    ·rcases List.mem_cons.1 ho with rfl | ho
     ·rw [hdd] at he;cases he;exact absurd rfl hs
     ·exact .inr ⟨o',ho,hm',he⟩
  ·rw [e]
   refine conc_killNew r _ ρ c ρ' fun s=>?_
   rcases h s with h | ⟨o',ho,hm',he⟩
   ·exact .inl h
   ·rcases List.mem_cons.1 ho with rfl | ho
    ·rcases hm with hm | hm
     ·rw [hm] at hm';cases hm'
     ·rw [hm] at he;cases he
    ·exact .inr ⟨o',ho,hm',he⟩

theorem guardP_of_gsel {ops:List Oper} {st:St} {g:Option (Nat×Bool)} {b:Bool} (h:gsel ops st g=some b):guardP ops st g (b=true) (b=false):=by
 unfold gsel at h
 cases g with
 | none=>cases h;rfl
 | some p =>
  obtain ⟨j,b'⟩:=p
  simp only at h
  simp only [guardP]
  generalize st.frO (dstOf ops j)=c at h ⊢
  unfold guardQ
  split at h
  ·cases h
   rename_i c
   cases b' <;> cases c <;> simp [ifP]
  ·cases h;rfl
  ·cases h

theorem gsel_congr {ops:List Oper} {st st':St} {o:Oper} (h:∀ u∈looks ops o,st.fr u=st'.fr u):gsel ops st o.guard=gsel ops st' o.guard:=by
 unfold gsel
 cases hg:o.guard with
 | none=>rfl
 | some p =>
  obtain ⟨j,b⟩:=p
  simp only
  have:st.frO (dstOf ops j)=st'.frO (dstOf ops j):=by
   cases hd:dstOf ops j with
   | none=>rfl
   | some t=>exact h t (by unfold looks;rw [hg];simp [hd])
  rw [this]

theorem ev_congr {ops:List Oper} {st st':St} {o:Oper} (h:∀ u∈looks ops o,st.fr u=st'.fr u):∀ x∈o.op.operands,st.ev x=st'.ev x:=by
 intro x hx
 cases x with
 | tmp t=>exact h t (by unfold looks;rw [List.mem_append];left;rw [List.mem_filterMap];exact ⟨.tmp t,by simpa using hx,rfl⟩)
 | const v=>rfl
 | func f=>rfl
 | global g=>rfl

theorem distinct_ne:∀ {hd:List Oper},DistinctD hd→∀ {i j:Nat} {o o':Oper},hd[i]? = some o→hd[j]? = some o'→i≠j→∃ d d',o.dst=some d∧o'.dst=some d'∧d≠d'
 | [],_,i,_,_,_,h,_,_=>by simp at h
 | x :: r,hd,0,0,o,o',_,_,hne=>absurd rfl hne
 | x :: r,hd,0,j+1,o,o',h1,h2,_=>by
  simp at h1 h2;subst h1
  obtain ⟨d,e,hx⟩:=hd.1
  obtain ⟨d',e',hne⟩:=hx o' (List.mem_of_getElem? h2)
  exact ⟨d,d',e,e',Ne.symm hne⟩
 | x :: r,hd,i+1,0,o,o',h1,h2,_=>by
  simp at h1 h2;subst h2
  obtain ⟨d,e,hx⟩:=hd.1
  obtain ⟨d',e',hne⟩:=hx o (List.mem_of_getElem? h1)
  exact ⟨d',d,e',e,hne⟩
 | x :: r,hd,i+1,j+1,o,o',h1,h2,hne=>distinct_ne hd.2 (by simpa using h1) (by simpa using h2) (by omega)
theorem distinct_some:∀ {hd:List Oper},DistinctD hd→∀ {i:Nat} {o:Oper},hd[i]? = some o→∃ d,o.dst=some d
 | [],_,i,_,h=>by simp at h
 | x :: r,hd,0,o,h=>by simp at h;subst h;exact ⟨_,hd.1.choose_spec.1⟩
 | x :: r,hd,i+1,o,h=>distinct_some hd.2 (by simpa using h)

def lstd (listed:Array Bool):Nat→Bool:=fun j=>listed.getD j false
def Fresh (hd:List Oper) (listed:Array Bool) (s:Nat):Prop:=∃ j o,hd[j]? = some o∧makesB o.op=true∧lstd listed j=false∧o.dst=some s

def InvD (N:Nat) (E:Entry) (hd:List Oper) (rs:List Res) (st1:St) (listed:Array Bool) (a:Act) (w:World):Prop :=
 ∃ (I:Gh) (ρ:Pl),∀ ρ':Pl,(∀ s,ρ' s=ρ s∨Fresh hd listed s)→Conc N E (part hd rs (lstd listed) 0 st1) a w I ρ'

theorem frz_same {I:Gh} {w:World} (hh:Held I w):frzNew I w w=I:=by
 funext b o
 unfold frzNew
 split
 ·rename_i e
  subst e
  have h1:I w.heap.size o=none:=free_new hh (Nat.le_refl _) o
  rw [h1]
  have h2:w.cell? ⟨w.heap.size,o,none⟩=none:=by simp [World.cell?]
  rw [h2]
 ·rfl
theorem fres_val {P:Program} {I:Gh} {ρ:Pl} {w w':World} {K B:AV→Prop} {x:Value} (hh:Held I w) (h:FRes I ρ w K B x w'):(∃ v,K v∧Rep (frzNew I w w') ρ v x∧Grow I w (frzNew I w w') w')∨(∃ T π,B T∧TopOk I π [] T x∧Grow I w I w'∧NewTree I π w' w.heap.size T):=by
 rcases h with ⟨v,h1,h2,rfl⟩ | h | h
 ·rw [frz_same hh];exact .inl ⟨v,h1,h2,.refl hh⟩
 ·exact .inl h
 ·exact .inr h

theorem mem_keeps {hd:List Oper} {rs:List Res} {st1:St} {mem0:Nat→Option AV} (hkn:∀ s,(∀ o∈hd,makesB o.op=true→o.dst≠some s)∨st1.mem s=none) (hm0:∀ s T,mem0 s=some T→st1.mem s=some T)
  (hmk:∀ (j:Nat) (o:Oper) (r:Res),hd[j]? = some o→rs[j]? = some r→r.1=true→makesB o.op=true) (L:Nat→Bool):∀ s T,mem0 s=some T→(part hd rs L 0 st1).mem s=some T:=by
 intro s T h
 have h:=hm0 s T h
 rcases hkn s with hk | hk
 ·rw [part_mem hd rs 0 _ fun j o' r' h1 h2 _ h4=>hk o' (List.mem_of_getElem? h1) (hmk j o' r' h1 h2 h4)];exact h
 ·rw [hk] at h;cases h
theorem draw_step {ops:List Oper} {hd:List Oper} {rs:List Res} {st1:St} {mem0:Nat→Option AV} {listed:Array Bool} {a:Act} {w:World} {Q:Exit→Act→World→Prop} {o:Oper} {r:Res} {i:Nat}
  (hkn:∀ s,(∀ o∈hd,makesB o.op=true→o.dst≠some s)∨st1.mem s=none) (hmem0:∀ s T,mem0 s=some T→(part hd rs (lstd listed) 0 st1).mem s=some T) (hdis:DistinctD hd) (hOk:OpOk N E o) (ho:hd[i]? = some o) (hr:rs[i]? = some r) (hun:lstd listed i=false) (hlen:rs.length=hd.length) (hmk:∀ (j:Nat) (o:Oper) (r:Res),hd[j]? = some o→rs[j]? = some r→r.1=true→makesB o.op=true)
  (hst:StepR P ops mem0 o (part hd rs (lstd listed) 0 st1) r) (hsz:i<listed.size)
  (inv:InvD N E hd rs st1 listed a w) :
  if Region.wanted o (yielded ops.toArray a.tmps)=true then o.wp P a w (InvD N E hd rs st1 (listed.setIfInBounds i true)) Q else InvD N E hd rs st1 (listed.setIfInBounds i true) (a.put o.dst undef) w:=by
 obtain ⟨I,ρ,H⟩:=inv
 obtain ⟨hN,hroot,_⟩:=hOk
 obtain ⟨D,hD⟩:=distinct_some hdis ho
 have hself:∀ s,ρ s=ρ s∨Fresh hd listed s:=fun s=>.inl rfl
 have c:=H ρ hself
 have hne:∀ j,j≠i→lstd (listed.setIfInBounds i true) j=lstd listed j:=fun j hj=>getD_set_ne false (Ne.symm hj)
 have hi:lstd (listed.setIfInBounds i true) i=true:=by simp [lstd,hsz]
 have hset:part hd rs (lstd (listed.setIfInBounds i true)) 0 st1=app1 o r (part hd rs (lstd listed) 0 st1) :=
  part_set hd rs 0 _ i o r hdis ho hr (by simpa using hun) (by simpa using hi) (fun j hj=>hne j (by simpa using hj))
 have hfr:∀ s,Fresh hd (listed.setIfInBounds i true) s→Fresh hd listed s∧s≠D:=by
  rintro s ⟨j,o',h1,h2,h3,h4⟩
  have hji:j≠i:=fun e=>by subst e;rw [hi] at h3;cases h3
  refine ⟨⟨j,o',h1,h2,by rw [← hne j hji];exact h3,h4⟩,?_⟩
  obtain ⟨d,d',e1,e2,e3⟩:=distinct_ne hdis h1 ho hji
  rw [h4] at e1;rw [hD] at e2;cases e1;cases e2;exact e3
 have envs:∀ {ρ':Pl},Conc N E (part hd rs (lstd listed) 0 st1) a w I ρ'→Env P I ρ' (part hd rs (lstd listed) 0 st1).ev mem0 a w:=fun c'=>⟨c'.held,c'.ev,c'.mem.sub fun s T h=>⟨hmem0 s T h,rfl⟩⟩
 have hρ0:∀ ρ':Pl,(∀ s,ρ' s=ρ s∨Fresh hd (listed.setIfInBounds i true) s)→∀ s,ρ' s=ρ s∨Fresh hd listed s:=fun ρ' h s=>(h s).imp id fun h=>(hfr s h).1
 rcases hst with ⟨hg,hy,hmb⟩ | ⟨hg,hr0⟩
 ·have hw:Region.wanted o (yielded ops.toArray a.tmps)=true:=by
   rcases guard_sound c ops o (guardP_of_gsel hg) with ⟨h,_⟩ | ⟨_,h⟩
   ·exact h
   ·cases h
  rw [if_pos hw]
  obtain ⟨dst,op,ty,pos,after,g⟩:=o
  simp only at hD hy hmb hg hroot hN
  subst hD
  unfold Yld at hy
  have one:∀ {x:Value} {I':Gh} {w':World},r.1=false→Grow I w I' w'→(∀ ρ',(∀ s,ρ' s=ρ s∨Fresh hd listed s)→Rep I' ρ' r.2 x)→InvD N E hd rs st1 (listed.setIfInBounds i true) (a.put (some D) x) w':=by
   intro x I' w' h1 hg hrep
   refine ⟨I',ρ,fun ρ' hρ'=>?_⟩
   rw [hset]
   have e1:app1 ⟨some D,op,ty,pos,after,g⟩ r (part hd rs (lstd listed) 0 st1)=(part hd rs (lstd listed) 0 st1).put (some D) r.2:=by
    unfold app1;rw [h1]
   rw [e1]
   exact ((H ρ' (hρ0 ρ' hρ')).grow hg).put _ hN (hrep ρ' (hρ0 ρ' hρ'))
  have two:∀ {x:Value} {I':Gh} {w':World} {π:Path→Option Plc},r.1=true→TopOk I' π [] r.2 x→Grow I w I' w'→NewTree I' π w' w.heap.size r.2→InvD N E hd rs st1 (listed.setIfInBounds i true) (a.put (some D) x) w':=by
   intro x I' w' π h1 ht hg hT
   have hmake:makesB op=true:=hmb h1
   have hmakeR:makesR op=true:=by
    revert hmake
    cases op <;> simp [makesB,makesR]
    split <;> simp_all
   have hDf:Fresh hd listed D:=⟨i,_,ho,hmake,hun,rfl⟩
   have hDn:¬ Fresh hd (listed.setIfInBounds i true) D:=fun h=>(hfr D h).2 rfl
   refine ⟨I',fun s=>if s=D then π else ρ s,fun ρ' hρ'=>?_⟩
   rw [hset]
   have hρD:ρ' D=π:=by
    rcases hρ' D with h | h
    ·simpa using h
    ·exact absurd h hDn
   have hρ1:∀ s,ρ' s=ρ s∨Fresh hd listed s:=fun s=>by
    by_cases hs:s=D
    ·right;rw [hs];exact hDf
    ·rcases hρ' s with h | h
     ·left;simpa [hs] using h
     ·right;exact (hfr s h).1
   have c':=H ρ' hρ1
   have e1:app1 ⟨some D,op,ty,pos,after,g⟩ r (part hd rs (lstd listed) 0 st1)=((part hd rs (lstd listed) 0 st1).setMem D r.2).put (some D) (r.2.atoms D []):=by
    unfold app1;rw [h1];rfl
   rw [e1]
   have hno:(part hd rs (lstd listed) 0 st1).mem D=none:=by
    rw [part_mem hd rs 0 _ fun j o' r' h1 h2 h3 h4=>?_]
    ·rcases hkn D with hk | hk
     ·exact absurd rfl (hk _ (List.mem_of_getElem? ho) hmake)
     ·exact hk
    ·have hji:j≠i:=fun e=>by subst e;rw [Nat.zero_add,hun] at h3;cases h3
     obtain ⟨d,d',q1,q2,q3⟩:=distinct_ne hdis h1 ho hji
     simp only [Option.some.injEq] at q2
     rw [q1,q2]
     intro e;cases e;exact q3 rfl
   exact ((c'.grow hg).setNew hρD hno ((hroot hmakeR).1 D rfl) c'.below.size hT fun b hb=>c'.mem.owns_lt hb).put _ hN (top_rep (by rw [hρD];exact ht))
  cases hcall:isCallV op with
  | true =>
   obtain ⟨x,args,ats,rfl⟩:∃ x args ats,op=.call ⟨.value x,args,ats⟩:=by
    unfold isCallV at hcall
    split at hcall
    ·rename_i c0
     obtain ⟨callee,args,ats⟩:=c0
     cases callee with
     | value x=>exact ⟨x,args,ats,rfl⟩
     | invoke r m=>simp at hcall
     | builtin b=>simp at hcall
    ·cases hcall
   have e:=envs c
   obtain ⟨f,vs,hrun,hc⟩:=calleeP_sound e.held e.mem (x:=(part hd rs (lstd listed) 0 st1).ev x) (args:=args.toList.map (part hd rs (lstd listed) 0 st1).ev) (vals:=args.map a.eval) (K:=fun v'=>r=(false,v')) (B:=fun T=>r=(true,T)) hy (e.ev x) (by simp) (fun j hj hk=>by simp at hj hk ⊢;exact e.ev _)
   unfold Oper.wp
   have he:execOp a.eval ⟨some D,.call ⟨.value x,args,ats⟩,ty,pos,after,g⟩=(do let d ← Deferred.ofValue (a.eval x) (args.map a.eval);invoke d.target d.args):=rfl
   rw [he,hrun,Oper.upon_enter]
   refine hc.mono ?_
   rintro e' w' ⟨y,rfl,hret⟩
   rcases hret with ⟨v,I',hv,hrep,hgr⟩ | ⟨T,I',π,hT,ht,hgr,hnt⟩
   ·exact one (by rw [hv]) hgr fun ρ' _=>by rw [hv];exact .stat hrep
   ·exact two (by rw [hT]) (by rw [hT];exact ht) hgr (by rw [hT];exact hnt)
  | false =>
   obtain ⟨x,w',hrun,hres⟩:=fop_run (d:=some D) (t:=ty) (pos:=pos) (after:=after) (g:=g) (envs c) hcall hy
   refine wp_value hrun ?_
   rcases fres_val (P:=P) c.held hres with ⟨v,hv,_,hgr⟩ | ⟨T,π,hT,ht,hgr,hnt⟩
   ·refine one (by rw [hv]) hgr fun ρ' h=>?_
    obtain ⟨x1,w1,hrun1,hres1⟩:=fop_run (d:=some D) (t:=ty) (pos:=pos) (after:=after) (g:=g) (envs (H ρ' h)) hcall hy
    rw [hrun] at hrun1
    cases hrun1
    rcases fres_val (P:=P) c.held hres1 with ⟨v1,hv1,hrep1,_⟩ | ⟨T,π,hT,_⟩
    ·rw [hv1];exact hrep1
    ·rw [hv] at hT;cases hT
   ·exact two (by rw [hT]) (by rw [hT];exact ht) hgr (by rw [hT];exact hnt)
 ·have hw:Region.wanted o (yielded ops.toArray a.tmps)=false:=by
   rcases guard_sound c ops o (guardP_of_gsel hg) with ⟨_,h⟩ | ⟨h,_⟩
   ·cases h
   ·exact h
  rw [if_neg (by simp [hw])]
  refine ⟨I,ρ,fun ρ' hρ'=>?_⟩
  rw [hset,hr0]
  exact (H ρ' (hρ0 ρ' hρ')).put _ hN (.stat (.v _))

theorem depsB_spec {ops hd:List Oper} {tbl:List (List Nat)} (h:depsB ops hd tbl=true) {i:Nat} {o:Oper} (ho:hd[i]? = some o) :
  (∀ j∈bindOn o,j<i)∧∀ u∈looks ops o,∀ (j:Nat) (oj:Oper),hd[j]? = some oj→oj.dst=some u→j<i∧j∈tbl.getD i []:=by
 have hm:∀ {j:Nat} {oj:Oper},hd[j]? = some oj→(oj,j)∈hd.zipIdx:=fun h=>List.mem_zipIdx_iff_getElem?.2 h
 have h1:=List.all_eq_true.1 h (o,i) (hm ho)
 simp only [Bool.and_eq_true] at h1
 refine ⟨fun j hj=>by simpa using List.all_eq_true.1 h1.1 j hj,fun u hu j oj hoj hd'=>?_⟩
 have h2:=List.all_eq_true.1 (List.all_eq_true.1 h1.2 u hu) (oj,j) (hm hoj)
 simpa [hd'] using h2

theorem draw_go {ops HD TL:List Oper} {rs:List Res} {st0:St} {K:St→Prop} {Q:Exit→Act→World→Prop} (hQ:∀ a' w',AOut N E K a' w'→Q .normal a' w')
  (hOps:∀ o∈ops,OpOk N E o) (hht:HD++TL=ops) (hok:drawOkG ops HD TL=true) (hlen:rs.length=HD.length)
  (hflow:FlowR P ops (killNew HD st0).mem HD rs (killNew HD st0))
  (hK:seqOps P M ops TL (part HD rs (fun _=>true) 0 (killNew HD st0)) K) :
  ∀ (m:Nat) (U:List Nat) (listed:Array Bool) (a:Act) (w:World),U.length=m→U.Nodup→(∀ j,j∈U↔j<HD.length∧lstd listed j=false) →
   HeadInv .any ops.toArray HD.length listed→InvD N E HD rs (killNew HD st0) listed a w→wpAny P .any ops.toArray Q (m+TL.length) listed a w:=by
 unfold drawOkG at hok
 simp only [Bool.and_eq_true] at hok
 obtain ⟨⟨⟨hdis,hdeps⟩,htail⟩,hseq⟩:=hok
 have hdis:=distinctB_spec hdis
 have hhd:∀ {j:Nat} {o:Oper},HD[j]? = some o→ops[j]? = some o:=fun {j o} h=>by
  rw [← hht,List.getElem?_append_left (List.getElem?_eq_some_iff.1 h).1];exact h
 have hdh:∀ {j:Nat},j<HD.length→ops[j]? = HD[j]?:=fun {j} h=>by
  conv=>lhs;rw [← hht]
  rw [List.getElem?_append_left h]
 have htl:∀ j,TL[j]? = ops.toArray[HD.length+j]?:=fun j=>by
  rw [List.getElem?_toArray]
  have:=List.getElem?_append_right (l₁:=HD) (l₂:=TL) (i:=HD.length+j) (by omega)
  rw [hht] at this
  rw [this];congr 1;omega
 have hol:ops.length=HD.length+TL.length:=by
  conv=>lhs;rw [← hht]
  rw [List.length_append]
 have hmk:∀ (hd:List Oper) (rs:List Res) (st:St),FlowR P ops (killNew HD st0).mem hd rs st→∀ (j:Nat) (o:Oper) (r:Res),hd[j]? = some o→rs[j]? = some r→r.1=true→makesB o.op=true:=by
  intro hd rs st h j o r h1 h2 h3
  rcases flow_step 0 h j o r h1 h2 with ⟨_,_,hm⟩ | ⟨_,hr⟩
  ·exact hm h3
  ·rw [hr] at h3;cases h3
 intro m
 induction m with
 | zero =>
  intro U listed a w hU _ hUm inv ⟨I,ρ,H⟩
  have hU0:U=[]:=List.eq_nil_of_length_eq_zero hU
  have hall:∀ j,j<HD.length→lstd listed j=true:=fun j hj=>by
   cases h:lstd listed j with
   | true=>rfl
   | false=>have:=(hUm j).2 ⟨hj,h⟩;rw [hU0] at this;cases this
  have hlist:listed=firstN ops.length HD.length:=by
   apply Array.ext
   ·simp [firstN,inv.size]
   ·intro j h1 h2
    have hj:j<ops.length:=by simpa [inv.size] using h1
    simp only [firstN,Array.getElem_map,Array.getElem_range]
    by_cases hjn:j<HD.length
    ·have:=hall j hjn
     simp only [lstd,Array.getD_eq_getD_getElem?,Array.getElem?_eq_getElem h1,Option.getD_some] at this
     rw [this];simp [hjn]
    ·have:=inv.tail j (by omega) (by simpa using hj)
     simp only [Array.getD_eq_getD_getElem?,Array.getElem?_eq_getElem h1,Option.getD_some] at this
     rw [this];simp [hjn]
  have hc:=H ρ fun s=>.inl rfl
  rw [part_congr' HD rs (M:=fun _=>true) 0 _ fun j _ hj=>hall j (by simpa using hj)] at hc
  rw [Nat.zero_add]
  refine wpAny_of_seq TL HD.length listed a w htl (by rw [hlist];exact hseq) ?_
  exact seqOps_sound hQ ops TL _ a w (fun o ho=>hOps o (by rw [← hht];exact List.mem_append_right _ ho)) hK ⟨I,ρ,hc⟩
 | succ m ih =>
  intro U listed a w hU hnd hUm inv hinv
  rw [show m+1+TL.length=(m+TL.length)+1 by omega]
  have hun:∃ i0,i0<HD.length∧lstd listed i0=false:=by
   cases U with
   | nil=>cases hU
   | cons x _=>exact ⟨x,(hUm x).1 (by simp)⟩
  have hmin:∃ i0,i0<HD.length∧lstd listed i0=false∧∀ j,j<i0→lstd listed j=true:=by
   obtain ⟨i0,h1,h2⟩:=hun
   induction i0 using Nat.strongRecOn with
   | _ i0 ih0 =>
    by_cases hx:∃ j,j<i0∧lstd listed j=false
    ·obtain ⟨j,hj,hj2⟩:=hx
     exact ih0 j hj (by omega) hj2
    ·refine ⟨i0,h1,h2,fun j hj=>?_⟩
     cases h:lstd listed j with
     | true=>rfl
     | false=>exact absurd ⟨j,hj,h⟩ hx
  have hin:∀ {j:Nat},j<HD.length→j<listed.size:=fun h=>by rw [inv.size];simp;omega
  refine ⟨fun h0=>?_,fun i hi=>?_⟩
  ·obtain ⟨i0,h1,h2,h3⟩:=hmin
   have ho:HD[i0]? = some (HD[i0]):=List.getElem?_eq_getElem h1
   have:i0∈Region.ready .any ops.toArray listed:=by
    rw [mem_ready]
    refine ⟨getD_in (hin h1) h2,HD[i0],by rw [List.getElem?_toArray];exact hhd ho,fun e he hb=>?_⟩
    exact h3 _ ((depsB_spec hdeps ho).1 e.on (mem_bindOn.2 ⟨e,he,hb,rfl⟩))
   rw [h0] at this;cases this
  ·have hin':i<HD.length:=by
    rcases Nat.lt_or_ge i HD.length with h | h
    ·exact h
    ·obtain ⟨_,oi,hoi,_⟩:=mem_ready.1 hi
     have hlt:=(Array.getElem?_eq_some_iff.1 hoi).1
     simp only [List.size_toArray] at hlt
     cases htl':TL with
     | nil=>rw [htl'] at hol;simp at hol;omega
     | cons o r =>
      rw [htl'] at htail hol
      simp only [Bool.and_eq_true] at htail
      obtain ⟨i0,h1,h2⟩:=hun
      exact absurd hi (tail_waits htail.1 htail.2 (by simp;simp at hol;omega) inv _ i0 rfl h1 (getD_in (hin h1) h2) i h)
   obtain ⟨hiun,oi,hoi,hall⟩:=mem_ready.1 hi
   have ho:HD[i]? = some oi:=by rw [← hdh hin',← List.getElem?_toArray];exact hoi
   have hr:rs[i]? = some (rs[i]'(by omega)):=List.getElem?_eq_getElem _
   generalize rs[i]'(by omega)=r at hr
   have hst:=flow_step 0 hflow i oi r ho hr
   have hun':lstd listed i=false:=getD_both hiun
   obtain ⟨hb,hl⟩:=depsB_spec hdeps ho
   have hclosed:∀ j o,HD[j]? = some o→lstd listed j=true→∀ q∈bindOn o,lstd listed q=true:=fun j o h1 h2 q hq=>by
    obtain ⟨e,he,hbd,rfl⟩:=mem_bindOn.1 hq
    exact inv.closed j o (by rw [List.getElem?_toArray];exact hhd h1) h2 e he hbd
   have hlook:∀ u∈looks ops oi,(part HD rs (fun j=>decide (j<0+i)) 0 (killNew HD st0)).fr u=(part HD rs (lstd listed) 0 (killNew HD st0)).fr u:=fun u hu=>by
    refine part_fr HD rs 0 _ _ rfl fun j oj h1 h2=>?_
    obtain ⟨h3,h4⟩:=hl u hu j oj h1 h2
    have:=ancT_spec (lstd listed) HD hclosed HD [] 0 rfl (fun j=>by simp) (fun i o hi=>by omega) i oi (by simpa using hin') ho (fun q hq=>by
     obtain ⟨e,he,hbd,rfl⟩:=mem_bindOn.1 hq
     exact hall e he hbd) j h4
    rw [Nat.zero_add,this];simp [h3]
   have hst':StepR P ops (killNew HD st0).mem oi (part HD rs (lstd listed) 0 (killNew HD st0)) r:=by
    unfold StepR at hst ⊢
    rw [← gsel_congr hlook]
    rcases hst with ⟨h1,h2,h3⟩ | h
    ·exact .inl ⟨h1,fop_congr (ev_congr hlook) h2,h3⟩
    ·exact .inr h
   have step:=draw_step (Q:=Q) (fun s=>killNew_mem HD st0) (mem_keeps (fun s=>killNew_mem HD st0) (fun _ _ h=>h) (hmk _ _ _ hflow) _) hdis (hOps oi (by rw [← hht];exact List.mem_append_left _ (List.mem_of_getElem? ho))) ho hr hun' hlen (hmk _ _ _ hflow) hst' (hin hin') hinv
   have next:∀ a' w',InvD N E HD rs (killNew HD st0) (listed.setIfInBounds i true) a' w'→wpAny P .any ops.toArray Q (m+TL.length) (listed.setIfInBounds i true) a' w':=fun a' w' h=>by
    refine ih (U.erase i) _ a' w' (by rw [List.length_erase_of_mem ((hUm i).2 ⟨hin',hun'⟩),hU];rfl) (hnd.erase i) (fun j=>?_) (inv.set hi hin') h
    rw [hnd.mem_erase_iff,hUm]
    by_cases hj:j=i
    ·subst hj
     simp [lstd,hin hin']
    ·have:lstd (listed.setIfInBounds i true) j=lstd listed j:=getD_set_ne false (Ne.symm hj)
     rw [this];simp [hj]
   unfold wpOp
   simp only [hoi]
   split
   ·rename_i hw
    rw [if_pos hw] at step
    exact .inl (Oper.wp_mono next step)
   ·rename_i hw
    rw [if_neg hw] at step
    exact next _ _ step

theorem draw_soundG {id:Nat} {ops:Array Oper} {HD TL:List Oper} {st:St} {a:Act} {w:World} {K:St→Prop} {Q:Exit→Act→World→Prop} (hQ:∀ a' w',AOut N E K a' w'→Q .normal a' w') (hm:P.follows .mixedOrders=true)
  (hOps:∀ o∈ops.toList,OpOk N E o) (hht:HD++TL=ops.toList) (hok:drawOkG ops.toList HD TL=true) (h:drawOps P M ops.toList HD TL st K) (hc:CC N E st a w):(Code.region id ops true).wp P Q a w:=by
 obtain ⟨ops⟩:=ops
 simp only at hOps hok h hht
 refine wp_region_any hm ?_
 obtain ⟨rs,hflow,hK⟩:=flow_extract HD 0 _ h
 obtain ⟨I,ρ,c⟩:=hc
 have c':Conc N E st a { w with drawn:=w.drawn+1 } I ρ:=c.grow ⟨⟨fun b o x h=>c.held.cell b o x h,c.held.base⟩,⟨rfl,rfl,rfl,Nat.le_refl _,fun _ _ _=>rfl⟩,fun _ _ _=>rfl⟩
 have hol:ops.length=HD.length+TL.length:=by
  conv=>lhs;rw [← hht]
  rw [List.length_append]
 have hz:∀ j,lstd (Array.replicate ops.toArray.size false) j=false:=fun j=>getD_replicate_false _ _
 have:=draw_go (P:=P) (M:=M) (N:=N) (E:=E) hQ hOps hht hok (flow_len hflow) hflow hK HD.length (List.range HD.length) (Array.replicate ops.toArray.size false) a { w with drawn:=w.drawn+1 }
  List.length_range List.nodup_range (fun j=>by rw [hz];simp) ⟨by simp,fun j oj _ h=>Bool.noConfusion ((hz j).symm.trans h),fun t _ ht=>getD_in (by simpa using ht) (hz t)⟩
  ⟨I,ρ,fun ρ' hρ=>by
   rw [part_none _ _ _ _ fun j _=>hz j]
   exact conc_killNew HD st ρ c' ρ' fun s=>(hρ s).imp (fun h=>h) fun ⟨j,o,h1,h2,_,h4⟩=>⟨o,List.mem_of_getElem? h1,h2,h4⟩⟩
 have e:ops.toArray.size=HD.length+TL.length:=by simpa using hol
 rw [← e] at this
 exact this
theorem draw_sound {id:Nat} {ops:Array Oper} {st:St} {a:Act} {w:World} {K:St→Prop} {Q:Exit→Act→World→Prop} (hQ:∀ a' w',AOut N E K a' w'→Q .normal a' w') (hm:P.follows .mixedOrders=true)
  (hd:∀ o∈ops.toList,OpOk N E o) (hok:drawOk ops.toList=true) (h:drawOps P M ops.toList (headOps ops.toList) (tailOps ops.toList) st K) (hc:CC N E st a w):(Code.region id ops true).wp P Q a w :=
 draw_soundG hQ hm hd (head_tail ops.toList) hok h hc
end
end Go.AM
