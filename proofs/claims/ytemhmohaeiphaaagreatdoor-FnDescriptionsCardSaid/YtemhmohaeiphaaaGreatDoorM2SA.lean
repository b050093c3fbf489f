/-
 THE ABSTRACT MACHINE IS SOUND,first part: values,operations that turn nothing.
-/
import Derived.Test.YtemhmohaeiphaaaGreatDoorM2Def
import Derived.Laws.AppendOwn
import Derived.Laws.StructEq
import Derived.Laws.BytesString
import Derived.MapKept
set_option linter.unusedVariables false
set_option linter.unusedSimpArgs false
namespace Go.AM
open Go.RowKit (Below)

theorem RepS.mono {I I':Gh} (h:∀ b o x,I b o=some x→I' b o=some x) {a:AV} {x:Value} (r:RepS I a x):RepS I' a x:=by
 induction r with
 | any x=>exact .any x
 | v x=>exact .v x
 | nil sz a=>exact .nil sz a
 | nila sz a cap=>exact .nila sz a cap
 | sl sz es b off cap vals hsz hc hI hr ih=>exact .sl sz es b off cap vals hsz hc (fun i hi j hj=>h _ _ _ (hI i hi j hj)) ih
 | agg fs arr hn hr ih=>exact .agg fs arr hn ih
 | tup fs arr hn hr ih=>exact .tup fs arr hn ih
 | ep cs b off vals hI hr ih=>exact .ep cs b off vals (fun j hj=>h _ _ _ (hI j hj)) ih
 | fn f caps arr hn hr ih=>exact .fn f caps arr hn ih
 | ifc t x=>exact .ifc t x

theorem Held.lt {I:Gh} {w:World} (h:Held I w) {b o:Nat} {x:Value} (e:I b o=some x):b<w.heap.size :=
 World.block_lt_of_cell? w ⟨b,o,none⟩ (h.cell b o x e).1

theorem BelowX.refl (B:Nat→Prop) (n:Nat) (w:World):BelowX B n w w:=⟨rfl,rfl,rfl,Nat.le_refl _,fun _ _ _=>rfl⟩
theorem BelowX.trans {B:Nat→Prop} {n:Nat} {a b c:World} (h:BelowX B n a b) (k:BelowX B n b c):BelowX B n a c :=
 ⟨k.os.trans h.os,k.tape.trans h.tape,k.output.trans h.output,Nat.le_trans h.size k.size,fun i hi hb=>(k.block i hi hb).trans (h.block i hi hb)⟩
theorem BelowX.mono {B B':Nat→Prop} {n n':Nat} {w w':World} (h:BelowX B n w w') (hn:n'≤n) (hB:∀ k,k<n'→B k→B' k):BelowX B' n' w w' :=
 ⟨h.os,h.tape,h.output,h.size,fun k hk hb=>h.block k (Nat.lt_of_lt_of_le hk hn) fun q=>hb (hB k hk q)⟩

theorem Rep.mono {I I':Gh} (h:∀ b o x,I b o=some x→I' b o=some x) {ρ:Pl} {a:AV} {x:Value} (r:Rep I ρ a x):Rep I' ρ a x:=by
 induction r with
 | stat r=>exact .stat (r.mono h)
 | ref s p z o n k h hz hc=>exact .ref s p z o n k h hz hc
 | ref0 s p z o a=>exact .ref0 s p z o a
 | loc s p i j k h=>exact .loc s p i j k h
 | mref s p k h=>exact .mref s p k h
 | lst sz es b off cap vals hsz hc hI hr ih=>exact .lst sz es b off cap vals hsz hc (fun i hi j hj=>h _ _ _ (hI i hi j hj)) ih
 | bx cs b off vals hI hr ih=>exact .bx cs b off vals (fun j hj=>h _ _ _ (hI j hj)) ih
 | agg fs arr hn hr ih=>exact .agg fs arr hn ih
 | tup fs arr hn hr ih=>exact .tup fs arr hn ih
 | fn f caps arr hn hr ih=>exact .fn f caps arr hn ih
theorem Rep.any {I:Gh} {ρ:Pl} (x:Value):Rep I ρ .any x:=.stat (.any x)

section
variable {I:Gh} {ρ:Pl} {y:Value}
theorem rep_v {x:Value} (r:Rep I ρ (.v x) y):y=x:=by cases r with | stat h=>cases h;rfl
theorem rep_sl {z:Nat} {es:List AV} (r:Rep I ρ (.sl z es) y):RepS I (.sl z es) y:=by cases r with | stat h=>exact h
theorem rep_ep {cs:List AV} (r:Rep I ρ (.ep cs) y):RepS I (.ep cs) y:=by cases r with | stat h=>exact h
theorem rep_ifc (r:Rep I ρ .ifc y):∃ t x,y=.iface t x:=by cases r with | stat h=>cases h with | ifc t x=>exact ⟨t,x,rfl⟩
theorem rep_loc {s:Nat} {p:Path} {i j:Nat} (r:Rep I ρ (.loc s p i j) y):∃ k,ρ s p=some k∧y=.pointer (some ⟨k.b,k.off+i*k.z+j,none⟩):=by
 cases r with | stat h=>cases h | loc _ _ _ _ k h=>exact ⟨k,h,rfl⟩
theorem rep_mref {s:Nat} {p:Path} (r:Rep I ρ (.mref s p) y):∃ k,ρ s p=some k∧y=.map (some k.b):=by
 cases r with | stat h=>cases h | mref _ _ k h=>exact ⟨k,h,rfl⟩
theorem rep_ref {s:Nat} {p:Path} {z o n:Nat} (r:Rep I ρ (.ref s p z o n) y):(∃ k,ρ s p=some k∧k.z=z∧o+n≤k.cap∧y=.slice (some ⟨k.b,k.off+o*z,none⟩) n (k.cap - o))∨(n=0∧∃ a,y=.slice a 0 0):=by
 cases r with
 | stat h=>cases h
 | ref _ _ _ _ _ k h hz hc=>exact .inl ⟨k,h,hz,hc,rfl⟩
 | ref0 _ _ _ _ a=>exact .inr ⟨rfl,a,rfl⟩
theorem rep_agg {fs:List AV} (r:Rep I ρ (.agg fs) y):∃ arr:Array Value,y=.agg arr∧arr.size=fs.length∧∀ j (hj:j<fs.length) (hk:j<arr.size),Rep I ρ (fs[j]) (arr[j]):=by
 cases r with
 | stat h=>cases h with | agg _ arr hn hr=>exact ⟨arr,rfl,hn,fun j hj hk=>.stat (hr j hj hk)⟩
 | agg _ arr hn hr=>exact ⟨arr,rfl,hn,hr⟩
theorem rep_tup {fs:List AV} (r:Rep I ρ (.tup fs) y):∃ arr:Array Value,y=.tuple arr∧arr.size=fs.length∧∀ j (hj:j<fs.length) (hk:j<arr.size),Rep I ρ (fs[j]) (arr[j]):=by
 cases r with
 | stat h=>cases h with | tup _ arr hn hr=>exact ⟨arr,rfl,hn,fun j hj hk=>.stat (hr j hj hk)⟩
 | tup _ arr hn hr=>exact ⟨arr,rfl,hn,hr⟩
theorem rep_fn {f:FuncId} {caps:List AV} (r:Rep I ρ (.fn f caps) y):∃ arr:Array Value,y=.func (.func f) #[] arr∧arr.size=caps.length∧∀ j (hj:j<caps.length) (hk:j<arr.size),Rep I ρ (caps[j]) (arr[j]):=by
 cases r with
 | stat h=>cases h with | fn _ _ arr hn hr=>exact ⟨arr,rfl,hn,fun j hj hk=>.stat (hr j hj hk)⟩
 | fn _ _ arr hn hr=>exact ⟨arr,rfl,hn,hr⟩
theorem rep_lst {z:Nat} {es:List AV} (r:Rep I ρ (.lst z es) y):∃ (b off cap:Nat) (vals:Nat→Nat→Value),(∀ i (hi:i<es.length),(es[i]).cells.length=z)∧es.length≤cap∧(∀ i,i<es.length→∀ j,j<z→I b (off+i*z+j)=some (vals i j)) ∧
  (∀ i (hi:i<es.length) j (hj:j<(es[i]).cells.length),Rep I ρ ((es[i]).cells[j]) (vals i j))∧y=.slice (some ⟨b,off,none⟩) es.length cap:=by
 cases r with
 | stat h=>cases h
 | lst _ _ b off cap vals hsz hc hI hr=>exact ⟨b,off,cap,vals,hsz,hc,hI,hr,rfl⟩
theorem rep_bx {cs:List AV} (r:Rep I ρ (.bx cs) y):∃ (b off:Nat) (vals:Nat→Value),(∀ j,j<cs.length→I b (off+j)=some (vals j))∧(∀ j (hj:j<cs.length),Rep I ρ (cs[j]) (vals j))∧y=.pointer (some ⟨b,off,none⟩):=by
 cases r with
 | stat h=>cases h
 | bx _ b off vals hI hr=>exact ⟨b,off,vals,hI,hr,rfl⟩
end

theorem at_append:∀ (p q:Path) (T:AV),T.at (p++q)=(T.at p).at q
 | [],_,_=>rfl
 | ij :: p,q,T=>by show (T.cellAt ij.1 ij.2).at (p++q)=_;rw [at_append p q];rfl
theorem at_snoc (T:AV) (p:Path) (i j:Nat):T.at (p++[(i,j)])=(T.at p).cellAt i j:=by rw [at_append];rfl
theorem any_at:∀ p:Path,AV.at .any p=.any
 | []=>rfl
 | _ :: p=>any_at p
theorem cellAt_node {a:AV} (h:a.isNode=false) (hg:∀ fs,a≠.agg fs) (ht:∀ fs,a≠.tup fs) (i j:Nat):a.cellAt i j=.any:=by
 cases a <;> simp [AV.isNode] at h <;> first | rfl | (exact absurd rfl (hg _)) | (exact absurd rfl (ht _))

theorem hdr_rep {I:Gh} {ρ:Pl} {s:Nat} {q:Path} {a:AV} {x:Value} (h:Hdr (ρ s q) a x):Rep I ρ (a.atom s q) x:=by
 cases a <;> try exact h.elim
 case tr z es =>
  rcases h with ⟨k,hk,hz,hc,rfl⟩ | ⟨rfl,a,rfl⟩
  ·have:=Rep.ref (I:=I) (ρ:=ρ) s q z 0 es.length k hk hz (by omega)
   show Rep I ρ (.ref s q z 0 es.length) _
   simpa using this
  ·exact .ref0 s q z 0 a
 case pt z y =>
  obtain ⟨k,hk,hz,hc,rfl⟩:=h
  have:=Rep.loc (I:=I) (ρ:=ρ) s q 0 0 k hk
  show Rep I ρ (.loc s q 0 0) _
  simpa using this
 case mt kd m =>
  obtain ⟨k,hk,rfl⟩:=h
  exact .mref s q k hk
theorem atom_stat {a:AV} (h:a.isNode=false) (s:Nat) (q:Path):a.atom s q=a:=by cases a <;> simp [AV.isNode] at h <;> rfl
theorem cell_rep {I:Gh} {ρ:Pl} {s:Nat} {q:Path} {a:AV} {x:Value} (h:CellOk I (ρ s q) a x):Rep I ρ (a.atom s q) x:=by
 rcases h with ⟨_,h⟩ | ⟨hn,h⟩
 ·exact hdr_rep h
 ·rw [atom_stat hn];exact .stat h
theorem atomL_len (s:Nat) (q:Path) (i:Nat):∀ (j:Nat) (l:List AV),(atomL s q i j l).length=l.length
 | _,[]=>rfl
 | j,a :: r=>by simp [atomL,atomL_len s q i (j+1) r]
theorem atomL_get (s:Nat) (q:Path) (i:Nat):∀ (j:Nat) (l:List AV) (k:Nat) (h:k<(atomL s q i j l).length) (h':k<l.length),(atomL s q i j l)[k]=(l[k]).atom s (q++[(i,j+k)])
 | j,a :: r,0,_,_=>rfl
 | j,a :: r,k+1,h,h'=>by
  have:=atomL_get s q i (j+1) r k (by simpa [atomL] using h) (by simpa using h')
  simp only [atomL,List.getElem_cons_succ]
  rw [this,Nat.add_assoc,Nat.add_comm 1 k]
 | j,[],_,_,h'=>by cases h'
theorem atomT_len (s:Nat) (q:Path):∀ (j:Nat) (l:List AV),(atomT s q j l).length=l.length
 | _,[]=>rfl
 | j,a :: r=>by simp [atomT,atomT_len s q (j+1) r]
theorem atomT_get (s:Nat) (q:Path):∀ (j:Nat) (l:List AV) (k:Nat) (h:k<(atomT s q j l).length) (h':k<l.length),(atomT s q j l)[k]=(l[k]).atom1 s (q++[(0,j+k)])
 | j,a :: r,0,_,_=>rfl
 | j,a :: r,k+1,h,h'=>by
  have:=atomT_get s q (j+1) r k (by simpa [atomT] using h) (by simpa using h')
  simp only [atomT,List.getElem_cons_succ]
  rw [this,Nat.add_assoc,Nat.add_comm 1 k]
 | j,[],_,_,h'=>by cases h'
theorem top1_rep {I:Gh} {ρ:Pl} {s:Nat} {q:Path} {T:AV} {x:Value} (h:TopOk1 I (ρ s) q T x):Rep I ρ (T.atom1 s q) x:=by
 cases T <;> try exact cell_rep h
 case agg fs =>
  obtain ⟨arr,rfl,hn,hr⟩:=h
  refine .agg _ arr (by rw [atomL_len];exact hn) fun j hj hk=>?_
  rw [atomL_len] at hj
  rw [atomL_get _ _ _ _ _ _ _ hj,Nat.zero_add]
  exact cell_rep (hr j hj hk)
theorem top_rep {I:Gh} {ρ:Pl} {s:Nat} {q:Path} {T:AV} {x:Value} (h:TopOk I (ρ s) q T x):Rep I ρ (T.atoms s q) x:=by
 cases T <;> try (unfold TopOk at h;unfold AV.atoms;exact top1_rep h)
 case tup fs =>
  obtain ⟨arr,rfl,hn,hr⟩:=h
  refine .tup _ arr (by rw [atomT_len];exact hn) fun j hj hk=>?_
  rw [atomT_len] at hj
  rw [atomT_get _ _ _ _ _ _ hj,Nat.zero_add]
  exact top1_rep (hr j hj hk)

section
variable {N:Nat} {E:Entry} {st:St} {a:Act} {w w':World} {I I':Gh} {ρ:Pl}
theorem Conc.ev (c:Conc N E st a w I ρ) (x:Operand):Rep I ρ (st.ev x) (a.eval x):=by
 cases x with
 | tmp t=>exact c.fr t
 | const v=>exact .stat (.v v)
 | global g=>exact .any _
 | func f=>exact .stat (.fn f [] #[] rfl (fun j hj=>by cases hj))

theorem Conc.put (c:Conc N E st a w I ρ) (d:Option Nat) (hd:∀ t,d=some t→t<N) {v:AV} {x:Value} (r:Rep I ρ v x):Conc N E (st.put d v) (a.put d x) w I ρ:=by
 cases d with
 | none=>exact c
 | some d =>
  refine ⟨c.held,c.below,c.keeps,by simpa [Act.put] using c.size,c.defers,fun i=>?_,c.mem,c.lo,c.fix⟩
  show Rep I ρ (if i=d then v else st.fr i) ((a.tmps.setIfInBounds d x).getD i undef)
  by_cases hi:i=d
  ·subst hi
   have hlt:i<a.tmps.size:=by rw [c.size];exact hd i rfl
   rw [if_pos rfl]
   have:(a.tmps.setIfInBounds i x).getD i undef=x:=by simp [Array.getD,hlt]
   rw [this];exact r
  ·rw [if_neg hi]
   have:(a.tmps.setIfInBounds d x).getD i undef=a.tmps.getD i undef:=by
    simp [Array.getD_eq_getD_getElem?,Array.getElem?_setIfInBounds_ne (Ne.symm hi)]
   rw [this];exact c.fr i

theorem NodeOk.cells {I:Gh} {π:Path→Option Plc} {w:World} {p:Path} {z:Nat} {es:List AV} (h:RowOk I π w p z es) {i j:Nat} (hi:i<es.length) (hj:j<(es[i]).cells.length) :
  ∃ k E arr,π p=some k∧k.z=z∧es.length≤k.cap∧w.heap[k.b]? = some (.cells arr E (0,0))∧k.off+k.cap*z≤arr.size∧(es[i]).cells.length=z∧k.off+i*z+j<arr.size ∧
   CellOk I (π (p++[(i,j)])) ((es[i]).cells[j]) (arr.getD (k.off+i*z+j) undef)∧(arr.getD (k.off+i*z+j) undef).oneCell'=true:=by
 rcases h with ⟨_,rfl⟩ | ⟨k,E,arr,h1,h2,h3,_,h4,h5,h6⟩
 ·cases hi
 ·obtain ⟨h7,h8⟩:=h6 i hi
  refine ⟨k,E,arr,h1,h2,h3,h4,h5,h7,?_,h8 j hj⟩
  have:i*z+z≤k.cap*z:=by rw [← Nat.succ_mul];exact Nat.mul_le_mul_right _ (by omega)
  omega

theorem Sep.lt {mem:Nat→Option AV} (m:Sep I ρ w mem) {s:Nat} {T:AV} {p:Path} {k:Plc} (h:mem s=some T) (hn:(T.at p).isNode=true) (hk:ρ s p=some k):k.b<w.heap.size:=by
 have hr:=m.row s T p h
 have row:∀ z es,RowOk I (ρ s) w p z es→k.b<w.heap.size:=by
  intro z es hr
  rcases hr with ⟨h0,_⟩ | ⟨k',E,arr,h1,_,_,_,h4,_⟩
  ·rw [hk] at h0;cases h0
  ·rw [hk] at h1;cases h1
   exact (Array.getElem?_eq_some_iff.1 h4).1
 cases hT:T.at p with
 | tr z es=>rw [hT] at hr;exact row _ _ hr
 | pt z x=>rw [hT] at hr;exact row _ _ hr
 | mt kd m =>
  rw [hT] at hr
  obtain ⟨k',es,c,h1,h2,_⟩:=hr
  rw [hk] at h1;cases h1
  exact (Array.getElem?_eq_some_iff.1 h2).1
 | _=>rw [hT] at hn;simp [AV.isNode] at hn

theorem CellOk.mono (h:∀ b o x,I b o=some x→I' b o=some x) {k:Option Plc} {a:AV} {x:Value} (c:CellOk I k a x):CellOk I' k a x:=by
 rcases c with c | ⟨h1,h2⟩
 ·exact .inl c
 ·exact .inr ⟨h1,h2.mono h⟩
theorem RowOk.mono (h:∀ b o x,I b o=some x→I' b o=some x) {π:Path→Option Plc} {p:Path} {z:Nat} {es:List AV} (hb:∀ k,π p=some k→w'.heap[k.b]? = w.heap[k.b]?) (r:RowOk I π w p z es):RowOk I' π w' p z es:=by
 rcases r with r | ⟨k,E,arr,h1,h2,h3,h3',h4,h5,h6⟩
 ·exact .inl r
 ·exact .inr ⟨k,E,arr,h1,h2,h3,h3',(hb k h1).trans h4,h5,fun i hi=>⟨(h6 i hi).1,fun j hj=>⟨((h6 i hi).2 j hj).1.mono h,((h6 i hi).2 j hj).2⟩⟩⟩
theorem NodeOk.mono (h:∀ b o x,I b o=some x→I' b o=some x) {π:Path→Option Plc} {p:Path} {a:AV} (hb:∀ k,a.isNode=true→π p=some k→w'.heap[k.b]? = w.heap[k.b]?) (r:NodeOk I π w p a):NodeOk I' π w' p a:=by
 cases a <;> try trivial
 case tr z es=>exact RowOk.mono h (fun k hk=>hb k rfl hk) r
 case pt z x=>exact RowOk.mono h (fun k hk=>hb k rfl hk) r
 case mt kd m =>
  obtain ⟨k,es,c,h1,h2,h3⟩:=r
  exact ⟨k,es,c,h1,(hb k rfl h1).trans h2,h3⟩

theorem Sep.mono {mem:Nat→Option AV} (m:Sep I ρ w mem) (h:∀ b o x,I b o=some x→I' b o=some x) (hb:∀ b,Owns ρ mem b→w'.heap[b]? = w.heap[b]?) (hf:∀ b,Owns ρ mem b→∀ o,I' b o=none):Sep I' ρ w' mem :=
 ⟨fun s T p hm=>NodeOk.mono h (fun k hn hk=>hb k.b ⟨s,T,p,k,hm,hn,hk,rfl⟩) (m.row s T p hm),fun s T p k hm hn hk=>hf k.b ⟨s,T,p,k,hm,hn,hk,rfl⟩,m.inj⟩
theorem Sep.owns_lt {mem:Nat→Option AV} (m:Sep I ρ w mem) {b:Nat} (h:Owns ρ mem b):b<w.heap.size:=by
 obtain ⟨s,T,p,k,h1,h2,h3,rfl⟩:=h
 exact m.lt h1 h2 h3
end
end Go.AM
namespace Go.AM
open Go.RowKit (Below)

structure Env (P:Program) (I:Gh) (ρ:Pl) (ev:Operand→AV) (mem:Nat→Option AV) (a:Act) (w:World):Prop where
 held:Held I w
 ev:∀ x,Rep I ρ (ev x) (a.eval x)
 mem:Sep I ρ w mem

structure Grow (I:Gh) (w:World) (I':Gh) (w':World):Prop where
 held:Held I' w'
 below:BelowX (fun _=>False) w.heap.size w w'
 keeps:∀ b o,b<w.heap.size→I' b o=I b o
theorem Grow.le {I I':Gh} {w w':World} (h:Held I w) (g:Grow I w I' w'):∀ b o x,I b o=some x→I' b o=some x :=
 fun b o x e=>(g.keeps b o (h.lt e)).trans e
theorem Grow.refl {I:Gh} {w:World} (h:Held I w):Grow I w I w:=⟨h,BelowX.refl _ _ _,fun _ _ _=>rfl⟩
theorem Grow.block {I I':Gh} {w w':World} (g:Grow I w I' w') {b:Nat} (h:b<w.heap.size):w'.heap[b]? = w.heap[b]?:=g.below.block b h (fun q=>q)

structure NewTree (I:Gh) (π:Path→Option Plc) (w':World) (n:Nat) (T:AV):Prop where
 sep:Sep I (fun _=>π) w' (fun i=>if i=0 then some T else none)
 new:∀ p k,(T.at p).isNode=true→π p=some k→n≤k.b

def FOut (I:Gh) (ρ:Pl) (d:Option Nat) (a:Act) (w:World) (K B:AV→Prop) (a':Act) (w':World):Prop :=
 (∃ v x I',a'=a.put d x∧K v∧Rep I' ρ v x∧Grow I w I' w') ∨
 (∃ T x I' π,a'=a.put d x∧B T∧TopOk I' π [] T x∧Grow I w I' w'∧NewTree I' π w' w.heap.size T)

theorem wp_value {P:Program} {o:Oper} {a:Act} {w w':World} {K:Act→World→Prop} {Q:Exit→Act→World→Prop} {x:Value} (h:(execOp a.eval o).run P w=.ok (.value x) w') (k:K (a.put o.dst x) w'):o.wp P a w K Q:=by
 unfold Oper.wp;rw [h];exact k

theorem wp_skip' {P:Program} {o:Oper} {a:Act} {w w':World} {K:Act→World→Prop} {Q:Exit→Act→World→Prop} (h:(execOp a.eval o).run P w=.ok .skip w') (k:K (a.put o.dst undef) w'):o.wp P a w K Q:=by
 unfold Oper.wp;rw [h];exact k

section types
variable {P:Program} {t e:TypeId}
theorem aggT_isAgg {b:Bool} (h:aggT P t=some b) (w:World):(isAgg t).run P w=.ok b w:=by
 unfold aggT at h
 cases hu:P.underlying t with
 | none=>simp [hu] at h
 | some d=>rw [hu] at h;cases d <;> simp [isAgg,run_underlying hu] at h ⊢ <;> exact h
theorem underlying_info {d:TypeDesc} (h:P.underlying t=some d):∃ i,P.info? t=some i:=by
 unfold Program.underlying at h
 cases hi:P.info? t with
 | none=>simp [hi] at h
 | some i=>exact ⟨i,rfl⟩
theorem aggT_info {b:Bool} (h:aggT P t=some b):∃ i,P.info? t=some i:=by
 unfold aggT at h
 cases hu:P.underlying t with
 | none=>simp [hu] at h
 | some d=>exact underlying_info hu
theorem sizeT_run {i:TypeInfo} (h:P.info? t=some i) (w:World):(sizeOf t).run P w=.ok (sizeT P t) w:=by
 simp [sizeOf,typeInfo,h,sizeT]
theorem elemT_spec (h:elemT P t=some e):P.underlying t=some (.slice e)∧∃ i,P.info? e=some i:=by
 unfold elemT at h
 cases hu:P.underlying t with
 | none=>simp [hu] at h
 | some d =>
  rw [hu] at h
  cases d <;> simp at h
  rename_i e'
  cases hi:P.info? e' with
  | none=>simp [hi] at h
  | some i=>simp [hi] at h;subst h;exact ⟨rfl,i,hi⟩
theorem zeroT_spec {z:List Value} (h:zeroT P t=some z):∃ i v,P.info? t=some i∧i.zero=some v∧v.cells.toList=z:=by
 unfold zeroT at h
 cases hi:P.info? t with
 | none=>simp [hi] at h
 | some i =>
  rw [hi] at h
  simp only [Option.map_eq_some_iff] at h
  obtain ⟨v,hv,hz⟩:=h
  exact ⟨i,v,rfl,hv,hz⟩
theorem fieldT_spec {i off:Nat} {ft:TypeId} (h:fieldT P t i=some (off,ft)):∃ fs f inf,P.underlying t=some (.struct fs)∧fs[i]? = some f∧f.offset=off∧f.type=ft∧P.info? ft=some inf∧inf.size≠0:=by
 unfold fieldT at h
 cases hu:P.underlying t with
 | none=>simp [hu] at h
 | some d =>
  rw [hu] at h
  cases d <;> simp at h
  rename_i fs
  obtain ⟨f,hf,h⟩:=Option.bind_eq_some_iff.1 h
  cases hi:P.info? f.type with
  | none=>simp [hi] at h
  | some inf =>
   simp only [hi] at h
   split at h
   ·cases h
   ·rename_i hne
    simp only [Option.some.injEq,Prod.mk.injEq] at h
    exact ⟨fs,f,inf,rfl,hf,h.1,h.2,h.2 ▸ hi,hne⟩
end types

section cells
variable {P:Program} {I:Gh} {ρ:Pl}
theorem addr_add (b o j:Nat):(⟨b,o,none⟩:Addr).add j=⟨b,o+j,none⟩:=by
 unfold Addr.add;split <;> simp_all

theorem loadCs_sound {t:TypeId} {cs:List AV} {off:Nat} {K:AV→Prop} {b o:Nat} {w:World} (vals:Nat→Value) (hc:∀ j,j<cs.length→w.cell? ⟨b,o+j,none⟩=some (vals j)) (hr:∀ j (hj:j<cs.length),Rep I ρ (cs[j]) (vals j))
  (h:loadCs (aggT P t) (sizeT P t) cs off K .mk):∃ v x,(loadVar t ⟨b,o+off,none⟩).run P w=.ok x w∧K v∧Rep I ρ v x:=by
 cases ha:aggT P t with
 | none=>rw [ha] at h;exact h.elim
 | some g =>
  rw [ha] at h
  obtain ⟨i,hi⟩:=aggT_info ha
  cases g with
  | true =>
   obtain ⟨hl,k⟩:=h
   have hlen:((List.range (sizeT P t)).map fun j=>vals (off+j)).length=sizeT P t:=by simp
   have hl':=run_loadCells (P:=P) w ⟨b,o+off,none⟩ (sizeT P t) (fun j=>vals (off+j)) (fun j hj=>by rw [addr_add,Nat.add_assoc];exact hc _ (by omega))
   refine ⟨_,.agg ((List.range (sizeT P t)).map fun j=>vals (off+j)).toArray,?_,k,?_⟩
   ·simp [loadVar,aggT_isAgg ha,sizeT_run hi,hl']
   ·refine .agg _ _ (by simp;omega) fun j hj hk=>?_
    simp at hj hk ⊢
    exact hr _ (by omega)
  | false =>
   obtain ⟨hl,k⟩:=h
   refine ⟨_,vals off,?_,k,?_⟩
   ·simp [loadVar,aggT_isAgg ha,hc off hl]
   ·have:cs.getD off .any=cs[off]:=by simp [List.getD,hl]
    rw [this];exact hr off hl
end cells

end Go.AM
namespace Go.AM
open Go.RowKit (Below)

section
variable {P:Program} {I:Gh} {ρ:Pl} {w:World}

def Yields (P:Program) (I:Gh) (ρ:Pl) (w:World) (s:Sem Value) (K:AV→Prop):Prop:=∃ v x,s.run P w=.ok x w∧K v∧Rep I ρ v x

theorem Yields.mk {s:Sem Value} {K:AV→Prop} {v:AV} {x:Value} (h:s.run P w=.ok x w) (k:K v) (r:Rep I ρ v x):Yields P I ρ w s K:=⟨v,x,h,k,r⟩
theorem Yields.v {s:Sem Value} {K:AV→Prop} {x:Value} (h:s.run P w=.ok x w) (k:K (.v x)):Yields P I ρ w s K:=⟨_,x,h,k,.stat (.v x)⟩

theorem run_eqGuard_int (op:BinOp) (t:TypeId) (x y:Operand) (k k':IntKind) (a b:Int):(eqGuard op t x y (.int k a) (.int k' b)).run P w=.ok () w:=by
 cases op <;> simp [eqGuard]
theorem run_eqGuard_str (op:BinOp) (t:TypeId) (x y:Operand) (a b:ByteArray):(eqGuard op t x y (.string a) (.string b)).run P w=.ok () w:=by
 cases op <;> simp [eqGuard]
theorem run_eqGuard_bool (op:BinOp) (t:TypeId) (x y:Operand) (a b:Bool):(eqGuard op t x y (.bool a) (.bool b)).run P w=.ok () w:=by
 cases op <;> simp [eqGuard]

theorem intBin_sound {op:BinOp} {k:IntKind} {m n:Int} {K:AV→Prop} (h:intBin op k m n K .mk) (hsh:op≠.shl) (hsh':op≠.shr) (t:TypeId):Yields P I ρ w (binOp op t (.int k m) (.int k n)) K:=by
 cases op <;> simp only [intBin] at h
 case quo=>exact .v (by simp [binOp,Op.intDiv,h.1]) h.2
 case rem=>exact .v (by simp [binOp,Op.intDiv,h.1]) h.2
 case and=>exact .v (by simp [binOp,Op.intBits,bitsI]) h
 case or=>exact .v (by simp [binOp,Op.intBits,bitsI]) h
 case xor=>exact .v (by simp [binOp,Op.intBits,bitsI]) h
 case andNot=>exact .v (by simp [binOp,Op.intBits,bitsI]) h
 case add=>exact .v (by simp [binOp,Op.intArith]) h
 case sub=>exact .v (by simp [binOp,Op.intArith]) h
 case mul=>exact .v (by simp [binOp,Op.intArith]) h
 all_goals exact .v (by simp [binOp,Op.intCmp]) h

theorem intBin2_sound {op:BinOp} {k k':IntKind} {m n:Int} {K:AV→Prop} (h:intBin2 op k k' m n K .mk) (t:TypeId):Yields P I ρ w (binOp op t (.int k m) (.int k' n)) K:=by
  by_cases h1:op=.shl
  · subst h1
    simp only [intBin2] at h
    exact .v (by have:¬ n<0:=by have:=h.1;omega
                 simp [binOp,Op.shift,this]) h.2
  · by_cases h2:op=.shr
    · subst h2
      simp only [intBin2] at h
      exact .v (by have:¬ n<0:=by have:=h.1;omega
                   simp [binOp,Op.shift,this]) h.2
    · have h':vc (k=k') (intBin op k m n K .mk) .mk:=by cases op <;> first | exact (h1 rfl).elim | exact (h2 rfl).elim | exact h
      obtain ⟨rfl,h'⟩:=h'
      exact intBin_sound h' h1 h2 t

theorem strBin_sound {op:BinOp} {a b:ByteArray} {K:AV→Prop} (h:strBin op a b K .mk) (t:TypeId):Yields P I ρ w (binOp op t (.string a) (.string b)) K:=by
 cases op <;> simp only [strBin] at h <;> try exact h.elim
 case add =>
  have hn:¬ (9223372036854775807:Int)<a.size+b.size:=by have:=h.1;omega
  exact .v (by simp [binOp,Op.stringOp,IntKind.max,IntKind.bits,IntKind.signed,hn]) h.2
 all_goals exact .v (by simp [binOp,Op.stringOp]) h

theorem run_equal_bool {t:TypeId} (hu:P.underlying t=some .bool) (a b:Bool):(Op.equal t (.bool a) (.bool b)).run P w=.ok (a == b) w:=by
 unfold Op.equal Op.maxDepth
 show (Op.equalIn (9999+1) t _ _).run P w=_
 rw [Op.equalIn,Sem.run_bind,run_underlying hu]
 rfl

theorem boolBin_sound {op:BinOp} {t:TypeId} {a b:Bool} {K:AV→Prop} (h:boolBin P op t a b K .mk):Yields P I ρ w (binOp op t (.bool a) (.bool b)) K:=by
 have hb:boolT P t=true→P.underlying t=some .bool:=fun h=>by
  unfold boolT at h
  cases hu:P.underlying t with
  | none=>simp [hu] at h
  | some d=>rw [hu] at h;cases d <;> simp_all
 cases op <;> simp only [boolBin] at h <;> try exact h.elim
 all_goals exact .v (by simp [binOp,run_equal_bool (hb h.1)]) h.2

theorem eqFs_sound {fs gs:List AV} {xs ys:Array Value} (hx:∀ j (hj:j<fs.length),∃ hk:j<xs.size,Rep I ρ (fs[j]) (xs[j])) (hy:∀ j (hj:j<gs.length),∃ hk:j<ys.size,Rep I ρ (gs[j]) (ys[j])) :
  ∀ (l:List Field) (L:List (Nat×Nat)) (b:Bool),eqFs P l=some L→eqCs fs gs L=some b→(Op.eqFields 9999 xs ys l).run P w=.ok b w
 | [],L,b,h,k=>by simp [eqFs] at h;subst h;simp [eqCs] at k;subst k;simp [Op.eqFields]
 | f :: r,L,b,h,k=>by
  simp only [eqFs] at h
  cases h1:eqK P f with
  | none=>simp [h1] at h
  | some p =>
   cases h2:eqFs P r with
   | none=>simp [h1,h2] at h
   | some L' =>
    simp only [h1,h2,Option.some.injEq] at h
    subst h
    obtain ⟨o,c⟩:=p
    simp only [eqCs] at k
    cases k1:eqV c (fs.getD o .any) (gs.getD o .any) with
    | none=>rw [k1] at k;exact absurd k (by cases eqCs fs gs L' <;> exact fun q=>by cases q)
    | some b1 =>
     cases k2:eqCs fs gs L' with
     | none=>rw [k1,k2] at k;cases k
     | some b2 =>
      simp only [k1,k2,and2,Option.some.injEq] at k
      subst k
      have ih:=eqFs_sound hx hy r L' b2 h2 k2
      unfold eqK at h1
      split at h1
      ·cases h1
      rename_i hname
      have get:∀ {fs:List AV} {xs:Array Value},(∀ j (hj:j<fs.length),∃ hk:j<xs.size,Rep I ρ (fs[j]) (xs[j]))→∀ {v:Value},fs.getD o .any=.v v→xs[o]? = some v:=by
       intro fs xs hx v hv
       by_cases ho:o<fs.length
       ·obtain ⟨hk,hr⟩:=hx o ho
        have e:fs.getD o .any=fs[o]:=by simp [List.getD,ho]
        rw [← e,hv] at hr
        rw [Array.getElem?_eq_getElem hk,rep_v hr]
       ·have e:fs.getD o .any=.any:=by rw [List.getD_eq_getElem?_getD,List.getElem?_eq_none (by omega)];rfl
        rw [e] at hv;cases hv
      have hpart:∀ {xs:Array Value} {v:Value},aggT P f.type=some false→f.offset=o→xs[o]? = some v→(part f.type xs f.offset).run P w=.ok v w:=by
       intro xs v ha ho hv
       rw [ho]
       simp [part,aggT_isAgg ha,hv]
      have fin:∀ {u v:Value},aggT P f.type=some false→f.offset=o→xs[o]? = some u→ys[o]? = some v→(Op.equalIn 9999 f.type u v).run P w=.ok b1 w→(Op.eqFields 9999 xs ys (f :: r)).run P w=.ok (b1 && b2) w:=by
       intro u v ha ho hu hv he
       have p1:=hpart (xs:=xs) ha ho hu
       have p2:=hpart (xs:=ys) ha ho hv
       simp only [Op.eqFields,if_pos hname,ne_eq,hname,not_false_eq_true,if_true,Sem.run_bind,p1,p2,he,Result.andThen_ok,Sem.run_ite]
       cases b1
       ·simp
       ·simp [ih]
      split at h1
      ·rename_i k0 hu
       cases h1
       have ha:aggT P f.type=some false:=by unfold aggT;rw [hu]
       cases e1:fs.getD f.offset .any <;> rw [e1] at k1 <;> try (simp [eqV] at k1;done)
       rename_i u
       cases u <;> try (simp [eqV] at k1;done)
       rename_i ka a
       cases e2:gs.getD f.offset .any <;> rw [e2] at k1 <;> try (simp [eqV] at k1;done)
       rename_i v
       cases v <;> try (simp [eqV] at k1;done)
       rename_i kb b
       simp only [eqV] at k1
       split at k1
       ·rename_i hkk
        cases k1
        subst hkk
        exact fin ha rfl (get hx e1) (get hy e2) (run_equalIn_int w 9998 f.type ka k0 a b hu)
       ·cases k1
      ·rename_i hu
       cases h1
       have ha:aggT P f.type=some false:=by unfold aggT;rw [hu]
       cases e1:fs.getD f.offset .any <;> rw [e1] at k1 <;> try (simp [eqV] at k1;done)
       rename_i u
       cases u <;> try (simp [eqV] at k1;done)
       rename_i a
       cases e2:gs.getD f.offset .any <;> rw [e2] at k1 <;> try (simp [eqV] at k1;done)
       rename_i v
       cases v <;> try (simp [eqV] at k1;done)
       rename_i b
       simp only [eqV,Option.some.injEq] at k1
       subst k1
       exact fin ha rfl (get hx e1) (get hy e2) (run_equalIn_bool' w 9998 f.type a b hu)
      ·rename_i hu
       cases h1
       have ha:aggT P f.type=some false:=by unfold aggT;rw [hu]
       cases e1:fs.getD f.offset .any <;> rw [e1] at k1 <;> try (simp [eqV] at k1;done)
       rename_i u
       cases u <;> try (simp [eqV] at k1;done)
       rename_i a
       cases e2:gs.getD f.offset .any <;> rw [e2] at k1 <;> try (simp [eqV] at k1;done)
       rename_i v
       cases v <;> try (simp [eqV] at k1;done)
       rename_i b
       simp only [eqV,Option.some.injEq] at k1
       subst k1
       exact fin ha rfl (get hx e1) (get hy e2) (run_equalIn_string w 9998 f.type a b hu)
      ·cases h1

theorem eqT_sound {t:TypeId} {L:List (Nat×Nat)} (h:eqT P t=some L) {fs gs:List AV} {u v:Value} (hx:Rep I ρ (.agg fs) u) (hy:Rep I ρ (.agg gs) v) {b:Bool} (hb:eqCs fs gs L=some b) (xo yo:Operand) :
  (do eqGuard .eql t xo yo u v;binOp .eql t u v:Sem Value).run P w=.ok (.bool b) w∧(do eqGuard .neq t xo yo u v;binOp .neq t u v:Sem Value).run P w=.ok (.bool (!b)) w:=by
 obtain ⟨xs,rfl,n1,r1⟩:=rep_agg hx
 obtain ⟨ys,rfl,n2,r2⟩:=rep_agg hy
 unfold eqT at h
 split at h
 ·rename_i hc
  cases hu:P.underlying t with
  | none=>rw [hu] at h;cases h
  | some d =>
   rw [hu] at h
   cases d <;> try (cases h;done)
   rename_i fl
   have hf:P.fieldsOf t=fl:=by unfold Program.fieldsOf;rw [hu]
   have he:=eqFs_sound (w:=w) (xs:=xs) (ys:=ys) (fun j hj=>⟨by omega,r1 j hj (by omega)⟩) (fun j hj=>⟨by omega,r2 j hj (by omega)⟩) fl.toList L b h hb
   have hrun:=run_equalIn_struct w 9999 t xs ys (by rw [hf];exact hu) hc.1
   rw [hf,he] at hrun
   constructor
   ·rw [Sem.run_bind,run_eqGuard_agg w .eql t xo yo xs ys hc.2,Result.andThen_ok,run_eql_struct,hrun];rfl
   ·rw [Sem.run_bind,run_eqGuard_agg w .neq t xo yo xs ys hc.2,Result.andThen_ok,run_neq_struct,hrun];rfl
 ·cases h

theorem run_equal_nil {t:TypeId} {x y:AV} {a b:Nat×Bool} {u v:Value} {cst:Bool} (hx:Rep I ρ x u) (hy:Rep I ρ y v) (h1:nilQ x=some a) (h2:nilQ y=some b) (hc:nilC cst (kindT P t) a b) (xo yo:Operand) (hcst:cst=(isConstO xo || isConstO yo)) (op:BinOp) :
    (eqGuard op t xo yo u v).run P w=.ok () w∧(Op.equal t u v).run P w=.ok a.2 w∧(∀ w:World,(binOp .eql t u v).run P w=.ok (.bool a.2) w∧(binOp .neq t u v).run P w=.ok (.bool (!a.2)) w):=by
  obtain ⟨hb,hk,hab,hi⟩:=hc
  have hu:(a.1=0→∃ e,P.underlying t=some (.slice e))∧(a.1=1→∃ e,P.underlying t=some (.pointer e))∧(a.1=2→∃ e,P.underlying t=some (.interface e))∧(a.1=3→∃ e f g,P.underlying t=some (.func e f g)):=by
    unfold kindT at hk
    split at hk <;> simp at hk <;> rename_i he <;> (refine ⟨fun q=>?_,fun q=>?_,fun q=>?_,fun q=>?_⟩) <;> first | (omega) | exact ⟨_,he⟩ | exact ⟨_,_,_,he⟩
  have hyv:(b.1=0∧∃ n c,v=.slice none n c)∨(b.1=1∧v=.pointer none)∨(b.1=2∧v=.nilIface)∨(b.1=3∧v=.nilFunc):=by
    unfold nilQ at h2
    split at h2
    · obtain rfl:=rep_v hy;cases h2;exact .inl ⟨rfl,_,_,rfl⟩
    · obtain rfl:=rep_v hy;cases h2;exact .inr (.inl ⟨rfl,rfl⟩)
    · obtain rfl:=rep_v hy;cases h2;exact .inr (.inr (.inl ⟨rfl,rfl⟩))
    · obtain rfl:=rep_v hy;cases h2;exact .inr (.inr (.inr ⟨rfl,rfl⟩))
    · split at h2 <;> cases h2;cases hb
    · split at h2 <;> cases h2;cases hb
    · cases h2;cases hb
    · cases h2;cases hb
    · cases h2;cases hb
    · cases h2;cases hb
    · cases h2
  have hxv:(a=(0,true)∧∃ n c,u=.slice none n c)∨(a=(1,true)∧u=.pointer none)∨(a=(2,true)∧u=.nilIface)∨(a=(3,true)∧u=.nilFunc)∨(a=(0,false)∧∃ p n c,u=.slice (some p) n c) ∨
      (a=(1,false)∧∃ p,u=.pointer (some p))∨(a=(2,false)∧∃ t x,u=.iface t x)∨(a=(3,false)∧∃ f p q,u=.func f p q):=by
    unfold nilQ at h1
    split at h1
    · obtain rfl:=rep_v hx;cases h1;exact .inl ⟨rfl,_,_,rfl⟩
    · obtain rfl:=rep_v hx;cases h1;exact .inr (.inl ⟨rfl,rfl⟩)
    · obtain rfl:=rep_v hx;cases h1;exact .inr (.inr (.inl ⟨rfl,rfl⟩))
    · obtain rfl:=rep_v hx;cases h1;exact .inr (.inr (.inr (.inl ⟨rfl,rfl⟩)))
    · rename_i n
      split at h1 <;> cases h1
      rename_i hn
      rcases rep_ref hx with ⟨k,_,_,_,rfl⟩ | ⟨rfl,_⟩
      · exact .inr (.inr (.inr (.inr (.inl ⟨rfl,_,_,_,rfl⟩))))
      · exact (hn rfl).elim
    · rename_i es
      have hx:=rep_sl hx
      split at h1 <;> cases h1
      cases hx with
      | nil=>rename_i hn;exact (hn rfl).elim
      | nila=>rename_i hn;exact (hn rfl).elim
      | sl=>exact .inr (.inr (.inr (.inr (.inl ⟨rfl,_,_,_,rfl⟩))))
    · cases h1
      obtain ⟨k,_,rfl⟩:=rep_loc hx
      exact .inr (.inr (.inr (.inr (.inr (.inl ⟨rfl,_,rfl⟩)))))
    · cases h1
      have hx:=rep_ep hx
      cases hx with | ep=>exact .inr (.inr (.inr (.inr (.inr (.inl ⟨rfl,_,rfl⟩)))))
    · cases h1
      obtain ⟨arr,rfl,_⟩:=rep_fn hx
      exact .inr (.inr (.inr (.inr (.inr (.inr (.inr ⟨rfl,_,_,_,rfl⟩))))))
    · cases h1
      obtain ⟨t,x,rfl⟩:=rep_ifc hx
      exact .inr (.inr (.inr (.inr (.inr (.inr (.inl ⟨rfl,_,_,rfl⟩))))))
    · cases h1
  have heq:∀ w:World,(Op.equal t u v).run P w=.ok a.2 w:=by
    intro w
    unfold Op.equal Op.maxDepth
    show (Op.equalIn (9999+1) t _ _).run P w=_
    rw [Op.equalIn,Sem.run_bind]
    rcases hxv with ⟨rfl,n,c,rfl⟩ | ⟨rfl,rfl⟩ | ⟨rfl,rfl⟩ | ⟨rfl,rfl⟩ | ⟨rfl,p,n,c,rfl⟩ | ⟨rfl,p,rfl⟩ | ⟨rfl,t',x',rfl⟩ | ⟨rfl,f,p,q,rfl⟩ <;>
    rcases hyv with ⟨h,n',c',rfl⟩ | ⟨h,rfl⟩ | ⟨h,rfl⟩ | ⟨h,rfl⟩ <;> simp only at hab <;> (first | (exfalso;omega) | skip) <;>
    first
      | (obtain ⟨e,he⟩:=hu.1 rfl;rw [run_underlying he];rfl)
      | (obtain ⟨e,he⟩:=hu.2.1 rfl;rw [run_underlying he];rfl)
      | (obtain ⟨e,he⟩:=hu.2.2.1 rfl;rw [run_underlying he];rfl)
      | (obtain ⟨e,f',g,he⟩:=hu.2.2.2 rfl;rw [run_underlying he];rfl)
  refine ⟨?_,heq w,fun w=>?_⟩
  · have hcst':a=(2,true)→(isConstO xo || isConstO yo)=true:=fun e=>by
      rcases hi with hi | hi
      · rw [← hcst];exact hi
      · rw [e] at hi;exact (hi rfl).elim
    cases op <;> simp only [eqGuard] <;> try (simp;done)
    all_goals
      rcases hxv with ⟨rfl,n,c,rfl⟩ | ⟨rfl,rfl⟩ | ⟨rfl,rfl⟩ | ⟨rfl,rfl⟩ | ⟨rfl,p,n,c,rfl⟩ | ⟨rfl,p,rfl⟩ | ⟨rfl,t',x',rfl⟩ | ⟨rfl,f,p,q,rfl⟩ <;>
      rcases hyv with ⟨h,n',c',rfl⟩ | ⟨h,rfl⟩ | ⟨h,rfl⟩ | ⟨h,rfl⟩ <;> simp only at hab <;> (first | (exfalso;omega) | skip) <;> try (simp;done)
    all_goals
      have hc:=hcst' rfl
      cases xo <;> cases yo <;> simp [isConstO] at hc ⊢
  · have e1:∀ op,op≠.shl→op≠.shr→(binOp op t u v)=(match op with | .eql=>(do pure (.bool (← Op.equal t u v))) | .neq=>(do pure (.bool (!(← Op.equal t u v)))) | _=>binOp op t u v):=by
      intro op h1 h2
      cases op <;> try rfl
      all_goals
        rcases hxv with ⟨rfl,n,c,rfl⟩ | ⟨rfl,rfl⟩ | ⟨rfl,rfl⟩ | ⟨rfl,rfl⟩ | ⟨rfl,p,n,c,rfl⟩ | ⟨rfl,p,rfl⟩ | ⟨rfl,t',x',rfl⟩ | ⟨rfl,f,p,q,rfl⟩ <;>
        rcases hyv with ⟨h,n',c',rfl⟩ | ⟨h,rfl⟩ | ⟨h,rfl⟩ | ⟨h,rfl⟩ <;> rfl
    constructor
    · rw [e1 .eql (by decide) (by decide)];simp [heq]
    · rw [e1 .neq (by decide) (by decide)];simp [heq]

theorem binP_sound {op:BinOp} {t:TypeId} {x y:AV} {K:AV→Prop} {xo yo:Operand} {u v:Value} (h:binP P op t (isConstO xo || isConstO yo) x y K .mk) (hx:Rep I ρ x u) (hy:Rep I ρ y v) :
  Yields P I ρ w (do eqGuard op t xo yo u v;binOp op t u v) K:=by
 unfold binP at h
 split at h
 ·obtain rfl:=rep_v hx
  obtain rfl:=rep_v hy
  obtain ⟨r,z,h1,h2,h3⟩:=intBin2_sound (P:=P) (I:=I) (ρ:=ρ) (w:=w) h t
  exact ⟨r,z,by simp [run_eqGuard_int,h1],h2,h3⟩
 ·obtain rfl:=rep_v hx
  obtain rfl:=rep_v hy
  obtain ⟨r,z,h1,h2,h3⟩:=strBin_sound (P:=P) (I:=I) (ρ:=ρ) (w:=w) h t
  exact ⟨r,z,by simp [run_eqGuard_str,h1],h2,h3⟩
 ·obtain rfl:=rep_v hx
  obtain rfl:=rep_v hy
  obtain ⟨r,z,h1,h2,h3⟩:=boolBin_sound (P:=P) (I:=I) (ρ:=ρ) (w:=w) h
  exact ⟨r,z,by simp [run_eqGuard_bool,h1],h2,h3⟩
 ·rename_i fs gs
  cases hT:eqT P t with
  | none=>rw [hT] at h;cases op <;> exact h.elim
  | some L =>
   rw [hT] at h
   cases hb:eqCs fs gs L with
   | none=>cases op <;> simp only [aggBin,optP,hb] at h
   | some b =>
    obtain ⟨e1,e2⟩:=eqT_sound (w:=w) hT hx hy hb xo yo
    cases op <;> simp only [aggBin,optP,hb] at h <;> try exact h.elim
    ·exact .v e1 h
    ·exact .v e2 h
 ·unfold nilBin at h
  split at h
  ·cases h1:nilQ x with
   | none=>rw [h1] at h;exact h.elim
   | some a =>
    rw [h1] at h
    simp only [optP] at h
    cases h2:nilQ y with
    | none=>rw [h2] at h;exact h.elim
    | some b =>
     rw [h2] at h
     obtain ⟨g1,_,g3⟩:=run_equal_nil (w:=w) hx hy h1 h2 h.1 xo yo rfl .eql
     exact .v (by simp [g1,(g3 w).1]) h.2
  ·cases h1:nilQ x with
   | none=>rw [h1] at h;exact h.elim
   | some a =>
    rw [h1] at h
    simp only [optP] at h
    cases h2:nilQ y with
    | none=>rw [h2] at h;exact h.elim
    | some b =>
     rw [h2] at h
     obtain ⟨g1,_,g3⟩:=run_equal_nil (w:=w) hx hy h1 h2 h.1 xo yo rfl .neq
     exact .v (by simp [g1,(g3 w).2]) h.2
  ·exact h.elim

theorem unP_sound {op:UnOp} {x:AV} {K:AV→Prop} {u:Value} (h:unP op x K .mk) (hx:Rep I ρ x u):Yields P I ρ w (Op.unary op u) K:=by
 unfold unP at h
 split at h
 ·obtain rfl:=rep_v hx
  exact .v (by simp [Op.unary,Op.intArith]) h
 ·obtain rfl:=rep_v hx
  exact .v (by simp [Op.unary]) h
 ·exact h.elim

theorem pickP_sound {c x y:AV} {K:AV→Prop} {u v z:Value} (h:pickP c x y K .mk) (hc:Rep I ρ c u) (hx:Rep I ρ x v) (hy:Rep I ρ y z) :
  Yields P I ρ w (do pure (if ← asBool u then v else z)) K:=by
 unfold pickP at h
 split at h
 ·rename_i b
  obtain rfl:=rep_v hc
  cases b with
  | true=>exact ⟨x,v,by simp [asBool],h.1 rfl,hx⟩
  | false=>exact ⟨y,z,by simp [asBool],h.2 rfl,hy⟩
 ·exact h.elim


end
end Go.AM
namespace Go.AM
open Go.RowKit (Below)

section
variable {P:Program} {I:Gh} {ρ:Pl} {w:World}


theorem loadE_sound {t:TypeId} {s:Nat} {p:Path} {i j:Nat} {x:AV} {K:AV→Prop} {b base:Nat} {arr:Array Value} {E:TypeId} (hg:w.heap[b]? = some (.cells arr E (0,0))) (hfit:base+x.cells.length≤arr.size)
  (hr:∀ j (hj:j<x.cells.length),CellOk I (ρ s (p++[(i,j)])) (x.cells[j]) (arr.getD (base+j) undef)) (h:loadE (aggT P t) (sizeT P t) s p i j x K .mk) :
  ∃ v y,(loadVar t ⟨b,base+j,none⟩).run P w=.ok y w∧K v∧Rep I ρ v y:=by
 have hc:∀ j,j<x.cells.length→w.cell? ⟨b,base+j,none⟩=some (arr.getD (base+j) undef):=fun j hj=>by
  have:base+j<arr.size:=by omega
  simp [World.cell?,hg,this]
 cases ha:aggT P t with
 | none=>rw [ha] at h;exact h.elim
 | some g =>
  rw [ha] at h
  obtain ⟨inf,hi⟩:=aggT_info ha
  cases g with
  | true =>
   obtain ⟨hl,k⟩:=h
   have hl':=run_loadCells (P:=P) w ⟨b,base+j,none⟩ (sizeT P t) (fun q=>arr.getD (base+(j+q)) undef) (fun q hq=>by rw [addr_add,Nat.add_assoc];exact hc _ (by omega))
   refine ⟨_,.agg ((List.range (sizeT P t)).map fun q=>arr.getD (base+(j+q)) undef).toArray,?_,k,?_⟩
   ·simp [loadVar,aggT_isAgg ha,sizeT_run hi,hl']
   ·refine .agg _ _ (by simp [atomL_len];omega) fun q hq hk=>?_
    rw [atomL_len] at hq
    rw [atomL_get _ _ _ _ _ _ _ hq]
    have hq':q<sizeT P t:=by simp at hk;exact hk
    have:=cell_rep (hr (j+q) (by omega))
    simpa [Array.getD_eq_getD_getElem?] using this
  | false =>
   obtain ⟨hl,k⟩:=h
   refine ⟨_,arr.getD (base+j) undef,?_,k,?_⟩
   ·simp [loadVar,aggT_isAgg ha,hc j hl]
   ·have:x.cells.getD j .any=x.cells[j]:=by simp [List.getD,hl]
    rw [this];exact cell_rep (hr j hl)

theorem nodeAt_some {mem:Nat→Option AV} {s:Nat} {p:Path} {T:AV} (h:nodeAt mem s p=T) (hn:T.isNode=true):∃ R,mem s=some R∧R.at p=T:=by
 unfold nodeAt at h
 split at h
 ·rename_i R hR;exact ⟨R,hR,h⟩
 ·subst h;simp [AV.isNode] at hn

theorem Sep.elem {mem:Nat→Option AV} (m:Sep I ρ w mem) {s:Nat} {p:Path} {z i:Nat} {es:List AV} (h:nodeAt mem s p=.tr z es) (hi:i<es.length) :
  ∃ k E arr,ρ s p=some k∧k.z=z∧w.heap[k.b]? = some (.cells arr E (0,0))∧(es[i]).cells.length=z∧k.off+i*z+z≤arr.size∧i<k.cap∧∀ j (hj:j<(es[i]).cells.length),CellOk I (ρ s (p++[(i,j)])) ((es[i]).cells[j]) (arr.getD (k.off+i*z+j) undef)∧(arr.getD (k.off+i*z+j) undef).oneCell'=true:=by
 obtain ⟨R,hR,hT⟩:=nodeAt_some h rfl
 have hr:=m.row s R p hR
 rw [hT] at hr
 rcases hr with ⟨_,rfl⟩ | ⟨k,E,arr,h1,h2,h3,h3',h4,h5,h6⟩
 ·cases hi
 ·obtain ⟨h7,h8⟩:=h6 i hi
  have:i*z+z≤k.cap*z:=by rw [← Nat.succ_mul];exact Nat.mul_le_mul_right _ (by omega)
  exact ⟨k,E,arr,h1,h2,h4,h7,by omega,by omega,h8⟩
theorem Sep.elemPt {mem:Nat→Option AV} (m:Sep I ρ w mem) {s:Nat} {p:Path} {z:Nat} {x:AV} (h:nodeAt mem s p=.pt z x) :
    ∃ k E arr,ρ s p=some k∧k.z=z∧w.heap[k.b]? = some (.cells arr E (0,0))∧x.cells.length=z∧k.off+z≤arr.size∧∀ j (hj:j<x.cells.length),CellOk I (ρ s (p++[(0,j)])) (x.cells[j]) (arr.getD (k.off+j) undef)∧(arr.getD (k.off+j) undef).oneCell'=true:=by
  obtain ⟨R,hR,hT⟩:=nodeAt_some h rfl
  have hr:=m.row s R p hR
  rw [hT] at hr
  rcases hr with ⟨_,h0⟩ | ⟨k,E,arr,h1,h2,h3,h3',h4,h5,h6⟩
  · cases h0
  · obtain ⟨h7,h8⟩:=h6 0 (by simp)
    have h3:1≤k.cap:=by simpa using h3
    have : z ≤ k.cap * z := by calc z=1*z:=by omega
                                _≤k.cap*z:=Nat.mul_le_mul_right _ h3
    exact ⟨k,E,arr,h1,h2,h4,h7,by omega,fun j hj=>by have:=h8 j hj;simpa using this⟩

theorem loadN_sound {mem:Nat→Option AV} (m:Sep I ρ w mem) {t:TypeId} {s:Nat} {p:Path} {i j:Nat} {K:AV→Prop} (h:loadN (aggT P t) (sizeT P t) s p i j (nodeAt mem s p) K .mk) {u:Value} (hu:Rep I ρ (.loc s p i j) u):Yields P I ρ w (Instr.loadAt t u) K:=by
 obtain ⟨k0,hk0,rfl⟩:=rep_loc hu
 unfold loadN at h
 split at h
 ·rename_i z es hT
  obtain ⟨hi,h⟩:=h
  have hget:es.getD i .any=es[i]:=by simp [List.getD,hi]
  rw [hget] at h
  obtain ⟨k,E,arr,h1,h2,h3,h4,h5,_,h6⟩:=m.elem hT hi
  rw [hk0] at h1;cases h1
  subst h2
  obtain ⟨v,y,g1,g2,g3⟩:=loadE_sound (P:=P) (I:=I) (ρ:=ρ) (s:=s) (p:=p) (i:=i) h3 (by omega) (fun j hj=>(h6 j hj).1) h
  exact ⟨v,y,by simpa [Instr.loadAt,Instr.sureAddr] using g1,g2,g3⟩
 ·rename_i z x hT
  obtain ⟨rfl,h⟩:=h
  obtain ⟨k,E,arr,h1,h2,h3,h4,h5,h6⟩:=m.elemPt hT
  rw [hk0] at h1;cases h1
  obtain ⟨v,y,g1,g2,g3⟩:=loadE_sound (P:=P) (I:=I) (ρ:=ρ) (s:=s) (p:=p) (i:=0) (base:=k0.off) h3 (by omega) (fun j hj=>(h6 j hj).1) h
  exact ⟨v,y,by simpa [Instr.loadAt,Instr.sureAddr] using g1,g2,g3⟩
 ·exact h.elim

theorem loadP_sound {mem:Nat→Option AV} {t:TypeId} {x:AV} {K:AV→Prop} {u:Value} (hh:Held I w) (hm:Sep I ρ w mem) (h:loadP P mem t x K .mk) (hx:Rep I ρ x u):Yields P I ρ w (Instr.loadAt t u) K:=by
 unfold loadP at h
 split at h
 ·exact loadN_sound hm h hx
 ·rename_i cs
  cases rep_ep hx with
  | ep _ b off vals hI hr =>
   obtain ⟨v,z,h1,h2,h3⟩:=loadCs_sound (P:=P) (I:=I) (ρ:=ρ) (w:=w) (b:=b) (o:=off) vals (fun j hj=>(hh.cell _ _ _ (hI j hj)).1) (fun j hj=>.stat (hr j hj)) h
   exact ⟨v,z,by simpa [Instr.loadAt,Instr.sureAddr] using h1,h2,h3⟩
 ·rename_i cs
  obtain ⟨b,off,vals,hI,hr,rfl⟩:=rep_bx hx
  obtain ⟨v,z,h1,h2,h3⟩:=loadCs_sound (P:=P) (I:=I) (ρ:=ρ) (w:=w) (b:=b) (o:=off) vals (fun j hj=>(hh.cell _ _ _ (hI j hj)).1) (fun j hj=>hr j hj) h
  exact ⟨v,z,by simpa [Instr.loadAt,Instr.sureAddr] using h1,h2,h3⟩
 ·exact h.elim

theorem fieldAP_sound {t:TypeId} {i:Nat} {x:AV} {K:AV→Prop} {u:Value} (h:fieldAP (fieldT P t i) x K .mk) (hx:Rep I ρ x u):Yields P I ρ w (Instr.fieldAt t u i) K:=by
 have step:∀ off ft b o,fieldT P t i=some (off,ft)→(Instr.fieldAt t (.pointer (some ⟨b,o,none⟩)) i).run P w=.ok (.pointer (some ⟨b,o+off,none⟩)) w:=by
  intro off ft b o hf
  obtain ⟨fs,f,inf,hu,hfi,ho,hft,hi,hne⟩:=fieldT_spec hf
  subst ho;subst hft
  have hne':sizeT P f.type≠0:=by unfold sizeT;rw [hi];exact hne
  simp [Instr.fieldAt,run_underlying hu,hfi,Instr.sureAddr,fieldPlace,sizeT_run hi,hne',addr_add]
 unfold fieldAP at h
 split at h
 ·rename_i off ft s p i' j' hf
  obtain ⟨k,hk,rfl⟩:=rep_loc hx
  refine ⟨_,_,step off ft _ _ hf,h,?_⟩
  have:=Rep.loc (I:=I) (ρ:=ρ) s p i' (j'+off) k hk
  rw [← Nat.add_assoc] at this;exact this
 ·rename_i off ft cs hf
  cases rep_ep hx with
  | ep _ b o vals hI hr =>
   refine ⟨_,_,step off ft _ _ hf,h.2,.stat (.ep _ b (o+off) (fun j=>vals (off+j)) (fun j hj=>?_) (fun j hj=>?_))⟩
   ·simp at hj
    rw [Nat.add_assoc];exact hI _ (by omega)
   ·simp at hj ⊢
    exact hr _ (by omega)
 ·rename_i off ft cs hf
  obtain ⟨b,o,vals,hI,hr,rfl⟩:=rep_bx hx
  refine ⟨_,_,step off ft _ _ hf,h.2,.bx _ b (o+off) (fun j=>vals (off+j)) (fun j hj=>?_) (fun j hj=>?_)⟩
  ·simp at hj
   rw [Nat.add_assoc];exact hI _ (by omega)
  ·simp at hj ⊢
   exact hr _ (by omega)
 ·exact h.elim

theorem indexAP_sound {t:TypeId} {x i:AV} {K:AV→Prop} {u ui:Value} (h:indexAP ((elemT P t).map (sizeT P)) x i K .mk) (hx:Rep I ρ x u) (hi:Rep I ρ i ui):Yields P I ρ w (Instr.indexAt t u ui) K:=by
 have step:∀ e (b off len cap:Nat) (k:IntKind) (j:Int),elemT P t=some e→0≤j→j<len→(Instr.indexAt t (.slice (some ⟨b,off,none⟩) len cap) (.int k j)).run P w=.ok (.pointer (some ⟨b,off+j.toNat*sizeT P e,none⟩)) w:=by
  intro e b off len cap k j he h0 hl
  obtain ⟨hu,inf,hinf⟩:=elemT_spec he
  simp [Instr.indexAt,asIntOf,run_underlying hu,h0,hl,sizeT_run hinf,addr_add]
 unfold indexAP at h
 split at h
 ·rename_i z0 k j z es hz0
  obtain rfl:=rep_v hi
  obtain ⟨e,he,hze⟩:=Option.map_eq_some_iff.1 hz0
  obtain ⟨⟨h0,hl,rfl⟩,k1⟩:=h
  have hlt:j.toNat<es.length:=by omega
  have r:=rep_sl hx
  cases r with
  | nil=>simp at hl;omega
  | nila=>simp at hl;omega
  | sl _ _ b off cap vals hsz hc hI hr =>
   have hg:es.getD j.toNat .any=es[j.toNat]:=by simp [List.getD,hlt]
   rw [hg] at k1
   refine ⟨_,_,step e b off _ cap k j he h0 hl,k1,.stat ?_⟩
   rw [hze]
   have hlen:=hsz j.toNat hlt
   exact .ep _ b _ (vals j.toNat) (fun q hq=>hI _ hlt q (by omega)) (fun q hq=>hr _ hlt q hq)
 ·rename_i z0 k j s p z o n hz0
  obtain rfl:=rep_v hi
  obtain ⟨e,he,hze⟩:=Option.map_eq_some_iff.1 hz0
  obtain ⟨⟨h0,hl,rfl⟩,k1⟩:=h
  rcases rep_ref hx with ⟨kk,hk,hz,hc,rfl⟩ | ⟨rfl,_⟩
  ·refine ⟨_,_,step e _ _ n _ k j he h0 hl,k1,?_⟩
   have:=Rep.loc (I:=I) (ρ:=ρ) s p (o+j.toNat) 0 kk hk
   rw [hz,Nat.add_mul,Nat.add_zero,← Nat.add_assoc] at this
   rw [hze];exact this
  ·omega
 ·exact h.elim

theorem stringT_spec {t:TypeId} (h1:stringT P t=true):P.underlying t=some .string:=by
 unfold stringT at h1
 cases hu:P.underlying t with
 | none=>simp [hu] at h1
 | some d=>rw [hu] at h1;cases d <;> simp_all
theorem lenP_sound {t:TypeId} {x:AV} {K:AV→Prop} {u:Value} (h:lenP P t x K .mk) (hx:Rep I ρ x u) {ts:List TypeId} (hts:ts.headD 0=t) (hne:ts≠[]) (ty:TypeId):Yields P I ρ w (Builtin.len_ ts.toArray ty #[u]) K:=by
 obtain ⟨t',r,rfl⟩:∃ t' r,ts=t' :: r:=by cases ts with | nil=>exact (hne rfl).elim | cons a b=>exact ⟨a,b,rfl⟩
 obtain rfl:t'=t:=hts
 have step:∀ e (b:Option Addr) (n cap:Nat),elemT P t'=some e→(Builtin.len_ (t' :: r).toArray ty #[.slice b n cap]).run P w=.ok (.int .i64 n) w:=by
  intro e b n cap he
  obtain ⟨hu,_⟩:=elemT_spec he
  simp [Builtin.len_,run_underlying hu,goInt]
 unfold lenP at h
 split at h
 ·obtain ⟨e,he⟩:=Option.isSome_iff_exists.1 h.1
  have r':=rep_sl hx
  cases r' with
  | nil _ a=>exact .v (step e a 0 0 he) h.2
  | nila _ a cap=>exact .v (step e (some a) 0 cap he) h.2
  | sl _ _ b off cap vals hsz hc hI hr=>exact .v (step e _ _ _ he) h.2
 ·obtain ⟨e,he⟩:=Option.isSome_iff_exists.1 h.1
  obtain ⟨b,off,cap,vals,_,_,_,_,rfl⟩:=rep_lst hx
  exact .v (step e _ _ _ he) h.2
 ·obtain ⟨e,he⟩:=Option.isSome_iff_exists.1 h.1
  rcases rep_ref hx with ⟨k,_,_,_,rfl⟩ | ⟨rfl,a,rfl⟩
  ·exact .v (step e _ _ _ he) h.2
  ·exact .v (step e _ _ _ he) h.2
 ·obtain rfl:=rep_v hx
  obtain ⟨e,he⟩:=Option.isSome_iff_exists.1 h.1
  exact .v (step e _ _ _ he) h.2
 ·obtain rfl:=rep_v hx
  exact .v (by simp [Builtin.len_,run_underlying (stringT_spec h.1),goInt]) h.2
 ·exact h.elim

theorem fieldP_sound {t:TypeId} {i:Nat} {x:AV} {K:AV→Prop} {u:Value} (h:fieldP P (fieldT P t i) x K .mk) (hx:Rep I ρ x u):Yields P I ρ w (Instr.field t u i) K:=by
 unfold fieldP at h
 split at h
 ·rename_i off ft fs hf
  obtain ⟨fs',f,inf,hu,hfi,ho,hft,hi,hne⟩:=fieldT_spec hf
  subst ho;subst hft
  obtain ⟨arr,rfl,hn,hr⟩:=rep_agg hx
  cases ha:aggT P f.type with
  | none=>rw [ha] at h;exact h.elim
  | some g =>
   rw [ha] at h
   cases g with
   | true =>
    obtain ⟨hl,k⟩:=h
    refine ⟨_,.agg (arr.extract f.offset (f.offset+sizeT P f.type)),by simp [Instr.field,run_underlying hu,hfi,part,asAgg,aggT_isAgg ha,sizeT_run hi],k,.agg _ _ (by simp;omega) fun j hj hk=>?_⟩
    simp at hj hk ⊢
    exact hr _ (by omega) (by omega)
   | false =>
    obtain ⟨hl,k⟩:=h
    have hl':f.offset<arr.size:=by omega
    refine ⟨_,arr[f.offset],by simp [Instr.field,run_underlying hu,hfi,part,asAgg,aggT_isAgg ha,hl'],k,?_⟩
    have:fs.getD f.offset .any=fs[f.offset]:=by simp [List.getD,hl]
    rw [this];exact hr _ hl hl'
 ·exact h.elim

theorem strIndexP_sound {t:TypeId} {x i:AV} {K:AV→Prop} {u ui:Value} (h:strIndexP P t x i K .mk) (hx:Rep I ρ x u) (hi:Rep I ρ i ui):Yields P I ρ w (Instr.index t u ui) K:=by
 unfold strIndexP at h
 split at h
 ·rename_i s k j
  obtain rfl:=rep_v hx
  obtain rfl:=rep_v hi
  obtain ⟨⟨hst,h0,hl⟩,k1⟩:=h
  have hlt:j.toNat<s.size:=by omega
  have hb:s[j.toNat]? = some (s.data.toList.getD j.toNat 0):=by
   have hlt2:j.toNat<s.data.size:=hlt
   rw [getElem?_pos s j.toNat hlt]
   have e:s.data.toList.getD j.toNat 0=s.data[j.toNat]:=by rw [List.getD,List.getElem?_eq_getElem (by simpa using hlt2)];simp
   rw [e];rfl
  exact .v (by simp [Instr.index,asIntOf,run_underlying (stringT_spec hst),h0,hb]) k1
 ·exact h.elim

theorem tupP_sound {x:AV} {i:Nat} {K:AV→Prop} {u:Value} (h:tupP x i K .mk) (hx:Rep I ρ x u):Yields P I ρ w (Instr.extract u i) K:=by
 unfold tupP at h
 split at h
 ·rename_i fs
  obtain ⟨arr,rfl,hn,hr⟩:=rep_tup hx
  have hl':i<arr.size:=by have:=h.1;omega
  refine ⟨_,arr[i],by simp [Instr.extract,hl'],h.2,?_⟩
  have:fs.getD i .any=fs[i]'h.1:=by simp [List.getD,h.1]
  rw [this];exact hr _ h.1 hl'
 ·exact h.elim

theorem run_sliceBound (k:IntKind) (i:Int) (y:Nat) (c:BoundsCode) (h0:0≤i) (h1:i≤y):(Instr.sliceBound (.int k i) y c).run P w=.ok i.toNat w:=by
 unfold Instr.sliceBound
 simp only [asIntOf,Sem.run_bind,Sem.run_pure,Result.andThen_ok]
 rw [if_pos ⟨h0,h1⟩];rfl


theorem sliceP_sound {t:TypeId} {x lo hi:AV} {K:AV→Prop} {u:Value} {lo' hi':Option Value} (h:sliceP P t x lo hi K .mk) (hx:Rep I ρ x u)
  (hlo:(∃ v,lo'=some v∧Rep I ρ lo v)∨(lo'=none∧lo=.i64 0)) (hhi:(∃ v,hi'=some v∧Rep I ρ hi v)∨(hi'=none∧hi=x.lenV)):Yields P I ρ w (Instr.slice t u lo' hi' none) K:=by
 have sb:∀ (isS:Bool) (len cap:Nat) (k k':IntKind) (l r:Int),lo=.v (.int k l)→hi=.v (.int k' r)→(hi'=none→r=len)→0≤l→l≤r→r≤len→len≤cap→(Instr.sliceBounds isS len cap lo' hi' none).run P w=.ok (l.toNat,r.toNat,cap) w:=by
  intro isS len cap k k' l r e1 e2 e3 h0 h1 h2 h3
  have hr:(match hi' with | some v=>Instr.sliceBound v cap (if isS then .sliceAcap else .sliceAlen) | none=>pure len).run P w=.ok r.toNat w:=by
   rcases hhi with ⟨v,rfl,hv⟩ | ⟨rfl,_⟩
   ·rw [e2] at hv
    obtain rfl:=rep_v hv
    have q0:0≤r:=by omega
    have q1:r≤cap:=by omega
    exact run_sliceBound _ _ _ _ q0 q1
   ·have:=e3 rfl
    simp;omega
  have hl:(match lo' with | some v=>Instr.sliceBound v r.toNat .sliceB | none=>pure 0).run P w=.ok l.toNat w:=by
   rcases hlo with ⟨v,rfl,hv⟩ | ⟨rfl,e⟩
   ·rw [e1] at hv
    obtain rfl:=rep_v hv
    have q1:l≤(r.toNat:Int):=by omega
    exact run_sliceBound _ _ _ _ h0 q1
   ·rw [e1] at e
    injection e with e
    injection e with _ e
    simp [e]
  unfold Instr.sliceBounds
  cases hi' with
  | none =>
   cases lo' with
   | none=>simp at hr hl ⊢;exact ⟨hl,hr⟩
   | some v=>simp at hr hl ⊢;simp [hr,hl]
  | some v' =>
   cases lo' with
   | none=>simp at hr hl ⊢;simp [hr,hl]
   | some v=>simp at hr hl ⊢;simp [hr,hl]
 have fin:∀ z es k k' l r y,lo=.v (.int k l)→hi=.v (.int k' r)→(hi'=none→r=es.length)→RepS I (.sl z es) y→(elemT P t).map (sizeT P)=some z→0≤l→l≤r→r≤es.length→K (.sl z ((es.take r.toNat).drop l.toNat))→Yields P I ρ w (Instr.slice t y lo' hi' none) K:=by
  intro z es k k' l r y e1 e2 e3 hy hz h0 h1 h2 k1
  obtain ⟨e,he,hze⟩:=Option.map_eq_some_iff.1 hz
  obtain ⟨hu,inf,hinf⟩:=elemT_spec he
  cases hy with
  | nil _ a =>
   have hl0:l=0:=by simp at h2;omega
   have hr0:r=0:=by simp at h2;omega
   subst hl0;subst hr0
   have:=sb true 0 0 k k' 0 0 e1 e2 (by intro q;exact e3 q) (by omega) (by omega) (by omega) (by omega)
   refine ⟨_,.slice a 0 0,by simp [Instr.slice,run_underlying hu,this,sizeT_run hinf],k1,.stat ?_⟩
   simp
   exact .nil z a
  | nila _ a cap =>
   have hl0:l=0:=by simp at h2;omega
   have hr0:r=0:=by simp at h2;omega
   subst hl0;subst hr0
   have:=sb true 0 cap k k' 0 0 e1 e2 (by intro q;exact e3 q) (by omega) (by omega) (by omega) (by omega)
   refine ⟨_,.slice (some a) 0 cap,?_,k1,.stat ?_⟩
   ·simp [Instr.slice,run_underlying hu,this,sizeT_run hinf]
    by_cases hc:cap=0 <;> simp [hc,Addr.add]
   ·simp
    exact .nila z a cap
  | sl _ _ b off cap vals hsz hc hI hr =>
   have:=sb true es.length cap k k' l r e1 e2 e3 h0 h1 h2 hc
   by_cases hcl:cap=l.toNat
   ·have hlr:l.toNat=r.toNat:=by omega
    refine ⟨_,.slice (some ⟨b,off,none⟩) (r.toNat - l.toNat) (cap - l.toNat),by simp [Instr.slice,run_underlying hu,this,sizeT_run hinf];simp [hcl],k1,.stat ?_⟩
    have hnil:(es.take r.toNat).drop l.toNat=[]:=by simp;omega
    rw [hnil]
    have e4:r.toNat - l.toNat=0:=by omega
    rw [e4]
    exact .sl z [] b off (cap - l.toNat) vals (fun i hi=>by cases hi) (Nat.zero_le _) (fun i hi=>by cases hi) (fun i hi=>by cases hi)
   ·refine ⟨_,.slice (some ⟨b,off+l.toNat*z,none⟩) (r.toNat - l.toNat) (cap - l.toNat),by simp [Instr.slice,run_underlying hu,this,sizeT_run hinf,hcl,addr_add,hze],k1,.stat ?_⟩
    have hlen:r.toNat - l.toNat=((es.take r.toNat).drop l.toNat).length:=by simp;omega
    rw [hlen]
    refine .sl z _ b (off+l.toNat*z) (cap - l.toNat) (fun i j=>vals (l.toNat+i) j) (fun i hi=>?_) ?_ (fun i hi j hj=>?_) (fun i hi j hj=>?_)
    ·simp at hi ⊢
     exact hsz _ (by omega)
    ·simp;omega
    ·simp at hi
     have hq:=hI (l.toNat+i) (by omega) j hj
     have e5:off+l.toNat*z+i*z+j=off+(l.toNat+i)*z+j:=by rw [Nat.add_mul];omega
     rw [e5];exact hq
    ·simp at hi hj ⊢
     exact hr _ (by omega) _ _
 unfold sliceP at h
 split at h
 ·rename_i s k l k' r
  obtain rfl:=rep_v hx
  obtain ⟨⟨hst,h0,h1,h2⟩,k1⟩:=h
  have hr3:hi'=none→r=s.size:=by
   intro q
   rcases hhi with ⟨v,e,_⟩ | ⟨_,e⟩
   ·rw [q] at e;cases e
   ·simp only [AV.lenV] at e
    injection e with e
    injection e with _ e
  have:=sb false s.size s.size k k' l r rfl rfl hr3 h0 h1 h2 (Nat.le_refl _)
  exact .v (by simp [Instr.slice,run_underlying (stringT_spec hst),this]) k1
 ·rename_i z es k l k' r
  obtain ⟨⟨hz,h0,h1,h2⟩,k1⟩:=h
  refine fin z es k k' l r u rfl rfl ?_ (rep_sl hx) hz h0 h1 h2 k1
  intro q
  rcases hhi with ⟨v,e,_⟩ | ⟨_,e⟩
  ·rw [q] at e;cases e
  ·simp only [AV.lenV] at e
   injection e with e
   injection e with _ e
 ·rename_i s p z o n k l k' r
  obtain ⟨⟨hz,h0,h1,h2⟩,k1⟩:=h
  have hr3:hi'=none→r=n:=by
   intro q
   rcases hhi with ⟨v,e,_⟩ | ⟨_,e⟩
   ·rw [q] at e;cases e
   ·simp only [AV.lenV] at e
    injection e with e
    injection e with _ e
  obtain ⟨e,he,hze⟩:=Option.map_eq_some_iff.1 hz
  obtain ⟨hu,inf,hinf⟩:=elemT_spec he
  rcases rep_ref hx with ⟨kk,hk,hkz,hc,rfl⟩ | ⟨rfl,a,rfl⟩
  ·have hsb:=sb true n (kk.cap - o) k k' l r rfl rfl hr3 h0 h1 h2 (by omega)
   by_cases hcl:kk.cap - o=l.toNat
   ·have hr0:r.toNat - l.toNat=0:=by omega
    refine ⟨_,.slice (some ⟨kk.b,kk.off+o*z,none⟩) (r.toNat - l.toNat) (kk.cap - o - l.toNat),by simp [Instr.slice,run_underlying hu,hsb,sizeT_run hinf];simp [hcl],k1,?_⟩
    rw [hr0,hcl,Nat.sub_self]
    exact .ref0 _ _ _ _ _
   ·refine ⟨_,.slice (some ⟨kk.b,kk.off+o*z+l.toNat*z,none⟩) (r.toNat - l.toNat) (kk.cap - o - l.toNat),by simp [Instr.slice,run_underlying hu,hsb,sizeT_run hinf,hcl,addr_add,hze],k1,?_⟩
    have:=Rep.ref (I:=I) (ρ:=ρ) s p z (o+l.toNat) (r.toNat - l.toNat) kk hk hkz (by omega)
    rw [Nat.add_mul,← Nat.add_assoc,Nat.sub_add_eq] at this
    exact this
  ·have hl0:l=0:=by omega
   have hr0:r=0:=by omega
   subst hl0;subst hr0
   have hsb:=sb true 0 0 k k' 0 0 rfl rfl (by intro q;exact hr3 q) (by omega) (by omega) (by omega) (by omega)
   refine ⟨_,.slice a 0 0,by simp [Instr.slice,run_underlying hu,hsb,sizeT_run hinf],k1,?_⟩
   exact .ref0 _ _ _ _ _
 ·rename_i k l k' r
  obtain rfl:=rep_v hx
  obtain ⟨⟨hz,rfl,rfl⟩,k1⟩:=h
  obtain ⟨e,he⟩:=Option.isSome_iff_exists.1 hz
  obtain ⟨hu,inf,hinf⟩:=elemT_spec he
  have hsb:=sb true 0 0 k k' 0 0 rfl rfl (by simp) (by omega) (by omega) (by omega) (by omega)
  exact .v (by simp [Instr.slice,run_underlying hu,hsb,sizeT_run hinf]) k1
 ·exact h.elim
theorem isU8_spec {x:AV} (h:isU8 x=true):x=.v (.int .u8 (byteV x)):=by
 unfold isU8 at h
 split at h
 ·rfl
 ·cases h
theorem intT_spec {t:TypeId} {k:IntKind} (h:intT P t=some k):P.underlying t=some (.int k):=by
 unfold intT at h
 split at h
 ·rename_i k' e;cases h;exact e
 ·cases h
theorem convB_sound {src dst:TypeId} {es:List AV} {K:AV→Prop} {b off cap:Nat} (h:convB P src dst es K .mk) (hc:∀ i (hi:i<es.length),w.cell? ⟨b,off+i,none⟩=some (.int .u8 (byteV (es[i])))) :
  Yields P I ρ w (convert src dst (.slice (some ⟨b,off,none⟩) es.length cap)) K:=by
 unfold convB at h
 cases he:elemT P src with
 | none=>rw [he] at h;exact h.elim
 | some e =>
  rw [he] at h
  obtain ⟨⟨h1,h2,h3⟩,k⟩:=h
  obtain ⟨hu,_⟩:=elemT_spec he
  have hl:=run_loadCells (P:=P) w ⟨b,off,none⟩ es.length (fun q=>.int .u8 (byteV (es.getD q .any))) (fun q hq=>by
   have:=hc q hq
   have e:es.getD q .any=es[q]:=by simp [List.getD,hq]
   rw [e];simpa [addr_add] using this)
  have hm:((List.range es.length).map fun q=>Value.int .u8 (byteV (es.getD q .any)))=(es.map byteV).map (Value.int .u8):=by
   apply List.ext_getElem
   ·simp
   ·intro i h1 h2
    have:i<es.length:=by simpa using h1
    simp [List.getD,this]
  rw [hm] at hl
  refine .v ?_ k
  rw [run_convert_bytes_string w src dst e _ _ _ hu (intT_spec h1) (stringT_spec h2),run_bytesToString w _ _ _ _ hl]
  rfl
theorem convP_sound {mem:Nat→Option AV} (m:Sep I ρ w mem) {src dst:TypeId} {x:AV} {K:AV→Prop} {u:Value} (h:convP P mem src dst x K .mk) (hx:Rep I ρ x u):Yields P I ρ w (convert src dst u) K:=by
 unfold convP at h
 split at h
 ·obtain rfl:=rep_v hx
  obtain ⟨hs,h⟩:=h
  cases hd:intT P dst with
  | none=>rw [hd] at h;exact h.elim
  | some k =>
   rw [hd] at h
   obtain ⟨k',hs'⟩:=Option.isSome_iff_exists.1 hs
   exact .v (by simp [convert,run_underlying (intT_spec hs'),run_underlying (intT_spec hd),Conv.intToInt]) h
 ·rename_i s p z o n
  unfold convN at h
  split at h
  ·rename_i z' es hT
   obtain ⟨hn,h⟩:=h
   have hlen:((es.drop o).take n).length=n:=by simp;omega
   have hall:∀ i (hi:i<n),∃ hi':o+i<es.length,es[o+i]=.v (.int .u8 (byteV (es[o+i]))):=by
    intro i hi
    unfold convB at h
    cases he:elemT P src with
    | none=>rw [he] at h;exact h.elim
    | some e =>
     rw [he] at h
     have h3:=h.1.2.2
     refine ⟨by omega,isU8_spec (List.all_eq_true.1 h3 _ ?_)⟩
     rw [List.mem_iff_getElem]
     exact ⟨i,by rw [hlen];exact hi,by simp⟩
   rcases rep_ref hx with ⟨k,hk,hkz,hc,rfl⟩ | ⟨rfl,a,rfl⟩
   ·have:=convB_sound (I:=I) (ρ:=ρ) (w:=w) (b:=k.b) (off:=k.off+o*z) (cap:=k.cap - o) h (fun i hi=>by
     rw [hlen] at hi
     obtain ⟨hi',e⟩:=hall i hi
     obtain ⟨k',E,arr,g1,g2,g3,g4,g5,_,g6⟩:=m.elem hT hi'
     rw [hk] at g1;cases g1
     have hz1:z'=1:=by rw [e] at g4;simpa [AV.cells] using g4.symm
     subst hz1
     rw [hkz] at g2;subst g2
     have hj:0<(es[o+i]).cells.length:=by rw [g4];omega
     have hq:=(g6 0 hj).1
     have e0:(es[o+i]).cells[0]=.v (.int .u8 (byteV (es[o+i]))):=by
      have:(es[o+i]).cells=[.v (.int .u8 (byteV (es[o+i])))]:=by rw [e];rfl
      simp [this]
     rw [e0] at hq
     have hv:arr.getD (k.off+(o+i)*1+0) undef=.int .u8 (byteV (es[o+i])):=rep_v (ρ:=ρ) (cell_rep (s:=s) (q:=p++[(o+i,0)]) hq)
     have hsz:k.off+(o+i)*1+0<arr.size:=by omega
     have e1:((es.drop o).take n)[i]=es[o+i]:=by simp
     rw [e1]
     have e2:k.off+o*1+i=k.off+(o+i)*1+0:=by omega
     rw [e2]
     have e3:arr.getD (k.off+(o+i)*1+0) undef=arr[k.off+(o+i)*1+0]:=by rw [Array.getD_eq_getD_getElem?,Array.getElem?_eq_getElem hsz];rfl
     rw [e3] at hv
     simp only [World.cell?,g3]
     rw [Array.getElem?_eq_getElem hsz,hv];rfl)
    rw [hlen] at this
    exact this
   ·have he:(es.drop o).take 0=([]:List AV):=by simp
    rw [he] at h
    cases a with
    | some a =>
     obtain ⟨b,off,nn⟩:=a
     unfold convB at h
     cases he:elemT P src with
     | none=>rw [he] at h;exact h.elim
     | some e =>
      rw [he] at h
      obtain ⟨⟨h1,h2,h3⟩,k⟩:=h
      obtain ⟨hu,_⟩:=elemT_spec he
      have hl:=run_loadCells (P:=P) w ⟨b,off,nn⟩ 0 (fun q=>undef) (fun q hq=>absurd hq (Nat.not_lt_zero q))
      refine .v ?_ k
      rw [run_convert_bytes_string w src dst e _ _ _ hu (intT_spec h1) (stringT_spec h2),run_bytesToString w _ _ _ [] (by simpa using hl)]
      rfl
    | none =>
     unfold convB at h
     cases he:elemT P src with
     | none=>rw [he] at h;exact h.elim
     | some e =>
      rw [he] at h
      obtain ⟨⟨h1,h2,h3⟩,k⟩:=h
      obtain ⟨hu,_⟩:=elemT_spec he
      refine .v ?_ k
      rw [run_convert_bytes_string w src dst e _ _ _ hu (intT_spec h1) (stringT_spec h2)]
      simp [Conv.bytesToString]
      rfl
  ·exact h.elim
 ·exact h.elim
theorem minmaxP_sound {mx:Bool} {x y:AV} {K:AV→Prop} {u v:Value} (h:minmaxP mx x y K .mk) (hx:Rep I ρ x u) (hy:Rep I ρ y v) (ts:Array TypeId) (ty:TypeId) :
  Yields P I ρ w (match mx with | true=>Builtin.max_ ts ty #[u,v] | false=>Builtin.min_ ts ty #[u,v]) K:=by
 unfold minmaxP at h
 split at h
 ·obtain rfl:=rep_v hx
  obtain rfl:=rep_v hy
  obtain ⟨rfl,h⟩:=h
  cases mx with
  | true=>exact .v (by simp [Builtin.max_,Builtin.max2]) h
  | false=>exact .v (by simp [Builtin.min_,Builtin.min2]) h
 ·exact h.elim
end
end Go.AM
namespace Go.AM
open Go.RowKit (Below)

theorem views_len (mem:Nat→Option AV):∀ l:List AV,(AV.views mem l).length=l.length
 | []=>by simp [AV.views]
 | a :: r=>by simp [AV.views,views_len mem r]
theorem views_get (mem:Nat→Option AV):∀ (l:List AV) (j:Nat) (h:j<(AV.views mem l).length) (h':j<l.length),(AV.views mem l)[j]=(l[j]).view mem
 | a :: r,0,_,_=>by simp [AV.views]
 | a :: r,j+1,h,h'=>by
  have:=views_get mem r j (by simpa [AV.views] using h) (by simpa using h')
  simpa [AV.views] using this
 | [],j,_,h'=>by cases h'
theorem cells_fz (a:AV):a.fz.cells=a.cells.map AV.fz:=by
 cases a <;> simp [AV.fz,AV.cells,fzL_map]

theorem cell_size:∀ (a:AV) (j:Nat) (hj:j<a.cells.length),SizeOf.sizeOf (a.cells[j])≤SizeOf.sizeOf a
 | .agg fs,j,hj=>by
  have hj':j<fs.length:=hj
  have:=List.sizeOf_lt_of_mem (List.getElem_mem hj')
  simp [AV.cells];omega
 | .any,_,_ | .v _,_,_ | .sl _ _,_,_ | .tup _,_,_ | .ep _,_,_ | .fn _ _,_,_ | .tr _ _,_,_ | .pt _ _,_,_ | .mt _ _,_,_ | .ref _ _ _ _ _,_,_ | .loc _ _ _ _,_,_ | .mref _ _,_,_ | .lst _ _,_,_ | .bx _,_,_ | .ifc,_,_=>by simp [AV.cells]

section
variable {I J:Gh} {ρ:Pl} {w:World}

theorem rs_fz {a:AV} {x:Value} (r:RepS I a x):RepS I a.fz x:=by
 induction r with
 | any x=>simp only [AV.fz];exact .any x
 | v x=>simp only [AV.fz];exact .v x
 | nil sz a=>simp only [AV.fz];exact .nil sz a
 | nila sz a cap=>simp only [AV.fz];exact .nila sz a cap
 | sl sz es b off cap vals hsz hc hI hr ih=>simp only [AV.fz];exact .sl sz es b off cap vals hsz hc hI hr
 | agg fs arr hn hr ih=>simp only [AV.fz,fzL_map];exact .agg _ arr (by simpa using hn) (fun j hj hk=>by simp at hj ⊢;exact ih j hj hk)
 | tup fs arr hn hr ih=>simp only [AV.fz,fzL_map];exact .tup _ arr (by simpa using hn) (fun j hj hk=>by simp at hj ⊢;exact ih j hj hk)
 | ep cs b off vals hI hr ih=>simp only [AV.fz];exact .ep cs b off vals hI hr
 | fn f caps arr hn hr ih=>simp only [AV.fz];exact .fn f caps arr hn hr
 | ifc t x=>simp only [AV.fz];exact .ifc t x
theorem rs_view (mem:Nat→Option AV) {a:AV} {x:Value} (r:RepS I a x):RepS I (a.view mem) x:=by
 induction r with
 | any x=>simp only [AV.view];exact .any x
 | v x=>simp only [AV.view];exact .v x
 | nil sz a=>simp only [AV.view];exact .nil sz a
 | nila sz a cap=>simp only [AV.view];exact .nila sz a cap
 | sl sz es b off cap vals hsz hc hI hr ih=>simp only [AV.view];exact .sl sz es b off cap vals hsz hc hI hr
 | agg fs arr hn hr ih=>simp only [AV.view];exact .agg _ arr (by rw [views_len];exact hn) (fun j hj hk=>by rw [views_len] at hj;rw [views_get _ _ _ _ hj];exact ih j hj hk)
 | tup fs arr hn hr ih=>simp only [AV.view];exact .tup _ arr (by rw [views_len];exact hn) (fun j hj hk=>by rw [views_len] at hj;rw [views_get _ _ _ _ hj];exact ih j hj hk)
 | ep cs b off vals hI hr ih=>simp only [AV.view];exact .ep cs b off vals hI hr
 | fn f caps arr hn hr ih=>simp only [AV.view];exact .fn f _ arr (by rw [views_len];exact hn) (fun j hj hk=>by rw [views_len] at hj;rw [views_get _ _ _ _ hj];exact ih j hj hk)
 | ifc t x=>simp only [AV.view];exact .ifc t x

noncomputable def lend (I:Gh) (ρ:Pl) (mem:Nat→Option AV) (w:World):Gh:=fun b o =>
 open Classical in if Owns ρ mem b then (match w.cell? ⟨b,o,none⟩ with | some x=>if x.oneCell'=true then some x else none | none=>none) else I b o
theorem lend_le {mem:Nat→Option AV} (m:Sep I ρ w mem):∀ b o x,I b o=some x→lend I ρ mem w b o=some x:=by
 intro b o x h
 unfold lend
 split
 ·rename_i hb
  obtain ⟨s,T,p,k,h1,h2,h3,rfl⟩:=hb
  rw [m.free s T p k h1 h2 h3 o] at h;cases h
 ·exact h
theorem lend_held {mem:Nat→Option AV} (m:Sep I ρ w mem) (hh:Held I w):Held (lend I ρ mem w) w:=by
 refine ⟨fun b o x h=>?_,fun b cs h=>by obtain ⟨t,f,x,h1,h2⟩:=hh.base b cs h;exact ⟨t,f,x,h1,lend_le m b 0 x h2⟩⟩
 unfold lend at h
 split at h
 ·split at h
  ·rename_i y hy
   split at h
   ·cases h;exact ⟨hy,by assumption⟩
   ·cases h
  ·cases h
 ·exact hh.cell b o x h
theorem lend_cell {mem:Nat→Option AV} {b:Nat} (h:Owns ρ mem b) {o:Nat} {x:Value} (hc:w.cell? ⟨b,o,none⟩=some x) (h1:x.oneCell'=true):lend I ρ mem w b o=some x:=by
 unfold lend;rw [if_pos h,hc];simp [h1]
theorem lend_not {mem:Nat→Option AV} {b:Nat} (h:¬ Owns ρ mem b) (o:Nat):lend I ρ mem w b o=I b o:=by
 unfold lend;rw [if_neg h]

theorem cell_arr {b:Nat} {arr:Array Value} {E:TypeId} (hg:w.heap[b]? = some (.cells arr E (0,0))) {o:Nat} (ho:o<arr.size):w.cell? ⟨b,o,none⟩=some (arr.getD o undef):=by
 simp [World.cell?,hg,ho]

theorem fz_cell {mem:Nat→Option AV} (m:Sep I ρ w mem) {s:Nat} {R:AV} (hR:mem s=some R):∀ (a:AV) (p:Path) (x:Value),R.at p=a→CellOk I (ρ s p) a x→RepS (lend I ρ mem w) a.fz x
  | .tr z es,p,x,hp,h=>by
    have hrow:=m.row s R p hR
    rw [hp] at hrow
    rcases h with ⟨_,h⟩ | ⟨h,_⟩
    · simp only [AV.fz,fzL_map]
      rcases h with ⟨k,hk,hz,hc,rfl⟩ | ⟨rfl,a,rfl⟩
      · rcases Nat.eq_zero_or_pos es.length with h0 | h0
        · obtain rfl:=List.eq_nil_of_length_eq_zero h0
          exact .nila z ⟨k.b,k.off,none⟩ k.cap
        have hown:Owns ρ mem k.b:=⟨s,R,p,k,hR,by rw [hp];rfl,hk,rfl⟩
        have hcells:∀ i (hi:i<es.length),(es[i]).cells.length=z∧∀ j (hj:j<(es[i]).cells.length),∃ u,lend I ρ mem w k.b (k.off+i*z+j)=some u∧RepS (lend I ρ mem w) ((es[i]).cells[j]).fz u:=by
          intro i hi
          rcases hrow with ⟨_,rfl⟩ | ⟨k',E,arr,g1,g2,g3,g3',g4,g5,g6⟩
          · cases hi
          · rw [hk] at g1;cases g1
            obtain ⟨g7,g8⟩:=g6 i hi
            refine ⟨g7,fun j hj=>⟨arr.getD (k.off+i*z+j) undef,?_,?_⟩⟩
            · have hle:i*z+z≤k.cap*z:=by rw [← Nat.succ_mul];exact Nat.mul_le_mul_right _ (by omega)
              exact lend_cell hown (cell_arr g4 (by omega)) (g8 j hj).2
            · refine fz_cell m hR ((es[i]).cells[j]) (p++[(i,j)]) _ ?_ (g8 j hj).1
              rw [at_snoc,hp]
              simp [AV.cellAt,List.getD,hi,hj]
        have hlen:(es.map AV.fz).length=es.length:=by simp
        have:=RepS.sl (I:=lend I ρ mem w) z (es.map AV.fz) k.b k.off k.cap (fun i j=>(lend I ρ mem w k.b (k.off+i*z+j)).getD undef)
          (fun i hi=>by simp at hi ⊢;rw [cells_fz,List.length_map];exact (hcells i hi).1) (by simpa using hc)
          (fun i hi j hj=>by
            rw [hlen] at hi
            obtain ⟨q1,q2⟩:=hcells i hi
            obtain ⟨u,q3,_⟩:=q2 j (by omega)
            rw [q3];rfl)
          (fun i hi j hj=>by
            simp only [List.getElem_map,cells_fz,List.length_map] at hi hj ⊢
            obtain ⟨q1,q2⟩:=hcells i hi
            obtain ⟨u,q3,q4⟩:=q2 j hj
            rw [q3];exact q4)
        rw [hlen] at this
        exact this
      · exact .nil z a
    · cases h
  | .pt z y,p,x,hp,h=>by
    have hrow:=m.row s R p hR
    rw [hp] at hrow
    rcases h with ⟨_,h⟩ | ⟨h,_⟩
    · obtain ⟨k,hk,hz,hc,rfl⟩:=h
      have hown:Owns ρ mem k.b:=⟨s,R,p,k,hR,by rw [hp];rfl,hk,rfl⟩
      simp only [AV.fz]
      have hcells:∀ j (hj:j<y.cells.length),∃ u,lend I ρ mem w k.b (k.off+j)=some u∧RepS (lend I ρ mem w) (y.cells[j]).fz u:=by
        intro j hj
        rcases hrow with ⟨_,h0⟩ | ⟨k',E,arr,g1,g2,g3,g3',g4,g5,g6⟩
        · cases h0
        · rw [hk] at g1;cases g1
          obtain ⟨g7,g8⟩:=g6 0 (by simp)
          have g8:=g8 j hj
          simp only [List.getElem_cons_zero,Nat.zero_mul,Nat.add_zero] at g7 g8
          refine ⟨arr.getD (k.off+j) undef,?_,?_⟩
          · have : z ≤ k.cap * z := by calc z=1*z:=by omega
                                        _≤k.cap*z:=Nat.mul_le_mul_right _ hc
            exact lend_cell hown (cell_arr g4 (by omega)) g8.2
          · refine fz_cell m hR (y.cells[j]) (p++[(0,j)]) _ ?_ g8.1
            rw [at_snoc,hp]
            simp [AV.cellAt,List.getD,hj]
      exact .ep _ k.b k.off (fun j=>(lend I ρ mem w k.b (k.off+j)).getD undef) (fun j hj=>by
          rw [cells_fz,List.length_map] at hj
          obtain ⟨u,q3,_⟩:=hcells j hj
          rw [q3];rfl) (fun j hj=>by
          simp only [cells_fz,List.length_map,List.getElem_map] at hj ⊢
          obtain ⟨u,q3,q4⟩:=hcells j hj
          rw [q3];exact q4)
    · cases h
  | .mt _ _,p,x,_,_=>by simp only [AV.fz];exact .any x
  | .any,p,x,_,_=>by simp only [AV.fz];exact .any x
  | .v y,p,x,_,h=>(rs_fz (h.resolve_left (fun q=>by simp [AV.isNode] at q)).2).mono (lend_le m)
  | .sl z es,p,x,_,h=>(rs_fz (h.resolve_left (fun q=>by simp [AV.isNode] at q)).2).mono (lend_le m)
  | .agg fs,p,x,_,h=>(rs_fz (h.resolve_left (fun q=>by simp [AV.isNode] at q)).2).mono (lend_le m)
  | .tup fs,p,x,_,h=>(rs_fz (h.resolve_left (fun q=>by simp [AV.isNode] at q)).2).mono (lend_le m)
  | .ep cs,p,x,_,h=>(rs_fz (h.resolve_left (fun q=>by simp [AV.isNode] at q)).2).mono (lend_le m)
  | .fn f c,p,x,_,h=>(rs_fz (h.resolve_left (fun q=>by simp [AV.isNode] at q)).2).mono (lend_le m)
  | .ref _ _ _ _ _,p,x,_,h=>(rs_fz (h.resolve_left (fun q=>by simp [AV.isNode] at q)).2).mono (lend_le m)
  | .loc _ _ _ _,p,x,_,h=>(rs_fz (h.resolve_left (fun q=>by simp [AV.isNode] at q)).2).mono (lend_le m)
  | .mref _ _,p,x,_,h=>(rs_fz (h.resolve_left (fun q=>by simp [AV.isNode] at q)).2).mono (lend_le m)
  | .lst _ _,p,x,_,h=>(rs_fz (h.resolve_left (fun q=>by simp [AV.isNode] at q)).2).mono (lend_le m)
  | .ifc,p,x,_,h=>(rs_fz (h.resolve_left (fun q=>by simp [AV.isNode] at q)).2).mono (lend_le m)
termination_by a=>SizeOf.sizeOf a
decreasing_by
 ·rename_i hi _ hj
  have h1:SizeOf.sizeOf (es[i])<SizeOf.sizeOf es:=List.sizeOf_lt_of_mem (List.getElem_mem _)
  have h2:=cell_size (es[i]) j hj
  simp;omega
 ·have h2:=cell_size y j (by assumption)
  simp;omega

end
section
variable {P:Program} {I J:Gh} {ρ:Pl} {w:World} {mem:Nat→Option AV}

theorem viewN_sound (m:Sep I ρ w mem) {s:Nat} {p:Path} {z o n:Nat} {x:Value} (r:Rep I ρ (.ref s p z o n) x):RepS (lend I ρ mem w) (viewN z o n (nodeAt mem s p)) x:=by
 unfold viewN
 split
 ·rename_i z' es hT
  split
  ·rename_i hc
   obtain ⟨rfl,hle⟩:=hc
   rcases rep_ref r with ⟨k,hk,hkz,hcap,rfl⟩ | ⟨rfl,a,rfl⟩
   ·rcases Nat.eq_zero_or_pos n with h0 | h0
    ·subst h0
     have:((es.map AV.fz).drop o).take 0=[]:=rfl
     rw [this];exact .nila z ⟨k.b,k.off+o*z,none⟩ _
    obtain ⟨R,hR,hRT⟩:=nodeAt_some hT rfl
    have hown:Owns ρ mem k.b:=⟨s,R,p,k,hR,by rw [hRT];rfl,hk,rfl⟩
    have hcells:∀ i,o+i<es.length→∃ hi:o+i<es.length,(es[o+i]).cells.length=z∧∀ j (hj:j<(es[o+i]).cells.length),∃ u,lend I ρ mem w k.b (k.off+o*z+i*z+j)=some u∧RepS (lend I ρ mem w) ((es[o+i]).cells[j]).fz u:=by
     intro i hi
     refine ⟨hi,?_⟩
     obtain ⟨k',E,arr,h1,h2,h3,h4,h5,h6,h7⟩:=m.elem hT hi
     rw [hk] at h1;cases h1
     refine ⟨h4,fun j hj=>⟨arr.getD (k.off+(o+i)*z+j) undef,?_,?_⟩⟩
     ·rw [Nat.add_assoc k.off,← Nat.add_mul]
      exact lend_cell hown (cell_arr h3 (by omega)) (h7 j hj).2
     ·refine fz_cell m hR _ (p++[(o+i,j)]) _ ?_ (h7 j hj).1
      rw [at_snoc,hRT]
      simp [AV.cellAt,List.getD,hi,hj]
    have hlen:(((es.map AV.fz).drop o).take n).length=n:=by simp;omega
    have hget:∀ i (hi:i<(((es.map AV.fz).drop o).take n).length) (hi':o+i<es.length),(((es.map AV.fz).drop o).take n)[i]=(es[o+i]).fz:=fun i hi hi'=>by simp
    have:=RepS.sl (I:=lend I ρ mem w) z (((es.map AV.fz).drop o).take n) k.b (k.off+o*z) (k.cap - o) (fun i j=>(lend I ρ mem w k.b (k.off+o*z+i*z+j)).getD undef)
     (fun i hi=>by
      have hi':o+i<es.length:=by rw [hlen] at hi;omega
      rw [hget i hi hi',cells_fz,List.length_map];exact (hcells i hi').2.1)
     (by rw [hlen];omega)
     (fun i hi j hj=>by
      have hi':o+i<es.length:=by rw [hlen] at hi;omega
      obtain ⟨_,q1,q2⟩:=hcells i hi'
      obtain ⟨u,q3,_⟩:=q2 j (by omega)
      rw [q3];rfl)
     (fun i hi j hj=>by
      have hi':o+i<es.length:=by rw [hlen] at hi;omega
      obtain ⟨_,q1,q2⟩:=hcells i hi'
      have hj':j<(es[o+i]).cells.length:=by rw [hget i hi hi',cells_fz,List.length_map] at hj;exact hj
      obtain ⟨u,q3,q4⟩:=q2 j hj'
      have e:((((es.map AV.fz).drop o).take n)[i]).cells[j]=((es[o+i]).cells[j]).fz:=by simp only [hget i hi hi',cells_fz,List.getElem_map]
      rw [e,q3];exact q4)
    rw [hlen] at this
    exact this
   ·have:((es.map AV.fz).drop o).take 0=[]:=rfl
    rw [this];exact .nil z a
  ·exact .any x
 ·exact .any x

theorem viewL_sound (m:Sep I ρ w mem) {s:Nat} {p:Path} {i j:Nat} {x:Value} (r:Rep I ρ (.loc s p i j) x):RepS (lend I ρ mem w) (viewL i j (nodeAt mem s p)) x:=by
  obtain ⟨k,hk,rfl⟩:=rep_loc r
  have fin:∀ (y:AV) (base:Nat) (arr:Array Value) (E:TypeId),Owns ρ mem k.b→w.heap[k.b]? = some (.cells arr E (0,0))→base+y.cells.length≤arr.size →
      (∀ q (hq:q<y.cells.length),(arr.getD (base+q) undef).oneCell'=true∧RepS (lend I ρ mem w) ((y.cells[q]).fz) (arr.getD (base+q) undef))→RepS (lend I ρ mem w) (.ep (y.fz.cells.drop j)) (.pointer (some ⟨k.b,base+j,none⟩)):=by
    intro y base arr E hown hg hfit hr
    refine .ep _ k.b (base+j) (fun q=>arr.getD (base+j+q) undef) (fun q hq=>?_) (fun q hq=>?_)
    · rw [cells_fz,List.length_drop,List.length_map] at hq
      have h1:=hr (j+q) (by omega)
      rw [← Nat.add_assoc] at h1
      exact lend_cell hown (cell_arr hg (by omega)) h1.1
    · simp only [cells_fz,List.getElem_drop,List.getElem_map,List.length_drop,List.length_map] at hq ⊢
      have h1:=hr (j+q) (by omega)
      rw [← Nat.add_assoc] at h1
      exact h1.2
  unfold viewL
  split
  · rename_i z es hT
    split
    · rename_i hi
      obtain ⟨R,hR,hRT⟩:=nodeAt_some hT rfl
      obtain ⟨k',E,arr,h1,h2,h3,h4,h5,h6,h7⟩:=m.elem hT hi
      rw [hk] at h1;cases h1
      have hget:es.getD i .any=es[i]:=by simp [List.getD,hi]
      rw [hget,h2]
      refine fin _ _ arr E ⟨s,R,p,k,hR,by rw [hRT];rfl,hk,rfl⟩ h3 (by omega) fun q hq=>⟨(h7 q hq).2,fz_cell m hR _ (p++[(i,q)]) _ ?_ (h7 q hq).1⟩
      rw [at_snoc,hRT]
      simp [AV.cellAt,List.getD,hi,hq]
    · exact .any _
  · rename_i z y hT
    split
    · rename_i hi
      subst hi
      obtain ⟨R,hR,hRT⟩:=nodeAt_some hT rfl
      obtain ⟨k',E,arr,h1,h2,h3,h4,h5,h7⟩:=m.elemPt hT
      rw [hk] at h1;cases h1
      rw [Nat.zero_mul,Nat.add_zero]
      refine fin _ _ arr E ⟨s,R,p,k,hR,by rw [hRT];rfl,hk,rfl⟩ h3 (by omega) fun q hq=>⟨(h7 q hq).2,fz_cell m hR _ (p++[(0,q)]) _ ?_ (h7 q hq).1⟩
      rw [at_snoc,hRT]
      simp [AV.cellAt,List.getD,hq]
    · exact .any _
  · exact .any _

theorem viewN_cells (z o n:Nat) (T:AV):(viewN z o n T).cells=[viewN z o n T]:=by
 unfold viewN
 split
 ·split <;> rfl
 ·rfl
theorem viewL_cells (i j:Nat) (T:AV):(viewL i j T).cells=[viewL i j T]:=by
 unfold viewL
 split
 ·split <;> rfl
 ·split <;> rfl
 ·rfl
theorem views_map (mem:Nat→Option AV):∀ l:List AV,AV.views mem l=l.map (AV.view mem)
 | []=>by simp [AV.views]
 | a :: r=>by simp [AV.views,views_map mem r]
theorem cells_view (mem:Nat→Option AV) (e:AV):(e.view mem).cells=e.cells.map (AV.view mem):=by
 cases e with
 | ref s p z o n=>simp only [AV.view];rw [viewN_cells];simp [AV.cells,AV.view]
 | loc s p i j=>simp only [AV.view];rw [viewL_cells];simp [AV.cells,AV.view]
 | agg fs=>simp only [AV.view,AV.cells,views_map]
 | _=>simp [AV.view,AV.cells]

theorem view_sound (m:Sep I ρ w mem) {a:AV} {x:Value} (r:Rep I ρ a x):RepS (lend I ρ mem w) (a.view mem) x:=by
 induction r with
 | stat r=>exact (rs_view mem r).mono (lend_le m)
 | ref s p z o n k h hz hc=>simp only [AV.view];exact viewN_sound m (.ref s p z o n k h hz hc)
 | ref0 s p z o a=>simp only [AV.view];exact viewN_sound m (.ref0 s p z o a)
 | loc s p i j k h=>simp only [AV.view];exact viewL_sound m (.loc s p i j k h)
 | mref s p k h=>simp only [AV.view];exact .any _
 | lst z es b off cap vals hsz hc hI hr ih =>
  simp only [AV.view]
  have hlen:=views_len mem es
  have hcell:=cells_view mem
  have:=RepS.sl (I:=lend I ρ mem w) z (AV.views mem es) b off cap vals (fun i hi=>by rw [hlen] at hi;rw [views_get _ _ _ _ hi,hcell,List.length_map];exact hsz i hi) (by rw [hlen];exact hc)
   (fun i hi j hj=>by rw [hlen] at hi;exact lend_le m _ _ _ (hI i hi j hj))
   (fun i hi j hj=>by
    rw [hlen] at hi
    have e1:=views_get mem es i (by rw [hlen];exact hi) hi
    have hj':j<(es[i]).cells.length:=by rw [e1,hcell,List.length_map] at hj;exact hj
    have e2:((AV.views mem es)[i]).cells[j]=((es[i]).cells[j]).view mem:=by simp only [e1,hcell,List.getElem_map]
    rw [e2];exact ih i hi j hj')
  rw [hlen] at this
  exact this
 | bx cs b off vals hI hr ih=>simp only [AV.view];exact .ep _ b off vals (fun j hj=>by rw [views_len] at hj;exact lend_le m _ _ _ (hI j hj)) (fun j hj=>by rw [views_len] at hj;rw [views_get _ _ _ _ hj];exact ih j hj)
 | agg fs arr hn hr ih=>simp only [AV.view];exact .agg _ arr (by rw [views_len];exact hn) (fun j hj hk=>by rw [views_len] at hj;rw [views_get _ _ _ _ hj];exact ih j hj hk)
 | tup fs arr hn hr ih=>simp only [AV.view];exact .tup _ arr (by rw [views_len];exact hn) (fun j hj hk=>by rw [views_len] at hj;rw [views_get _ _ _ _ hj];exact ih j hj hk)
 | fn f caps arr hn hr ih=>simp only [AV.view];exact .fn f _ arr (by rw [views_len];exact hn) (fun j hj hk=>by rw [views_len] at hj;rw [views_get _ _ _ _ hj];exact ih j hj hk)

theorem bearsL_get:∀ {l:List AV},AV.bearsL l=false→∀ j (hj:j<l.length),(l[j]).bears=false
 | a :: r,h,0,_=>by simp [AV.bearsL] at h;exact h.1
 | a :: r,h,j+1,hj=>by simp [AV.bearsL] at h;simpa using bearsL_get h.2 j (by simpa using hj)
theorem nb_stat {a:AV} {x:Value} (r:Rep I ρ a x) (h:a.bears=false):RepS I a x:=by
 induction r with
 | stat r=>exact r
 | ref=>simp [AV.bears] at h
 | ref0=>simp [AV.bears] at h
 | loc=>simp [AV.bears] at h
 | mref=>simp [AV.bears] at h
 | lst=>simp [AV.bears] at h
 | bx=>simp [AV.bears] at h
 | agg fs arr hn hr ih=>simp only [AV.bears] at h;exact .agg _ arr hn fun j hj hk=>ih j hj hk (bearsL_get h j hj)
 | tup fs arr hn hr ih=>simp only [AV.bears] at h;exact .tup _ arr hn fun j hj hk=>ih j hj hk (bearsL_get h j hj)
 | fn f caps arr hn hr ih=>simp only [AV.bears] at h;exact .fn f _ arr hn fun j hj hk=>ih j hj hk (bearsL_get h j hj)

theorem rs_at {a:AV} {x:Value} (r:RepS I a x):∀ p,(a.at p).isNode=false:=by
 have leaf:∀ a:AV,a.isNode=false→(∀ fs,a≠.agg fs)→(∀ fs,a≠.tup fs)→∀ p,(a.at p).isNode=false:=by
  intro a h1 h2 h3 p
  cases p with
  | nil=>exact h1
  | cons ij p=>show (AV.at (a.cellAt ij.1 ij.2) p).isNode=false;rw [cellAt_node h1 h2 h3,any_at];rfl
 induction r with
 | agg fs arr hn hr ih =>
  intro p
  cases p with
  | nil=>rfl
  | cons ij p =>
   obtain ⟨i,j⟩:=ij
   show (AV.at ((AV.agg fs).cellAt i j) p).isNode=false
   cases i with
   | succ i=>show (AV.at .any p).isNode=false;rw [any_at];rfl
   | zero =>
    show (AV.at (fs.getD j .any) p).isNode=false
    by_cases hj:j<fs.length
    ·have:fs.getD j .any=fs[j]:=by simp [List.getD,hj]
     rw [this];exact ih j hj (by omega) p
    ·have:fs.getD j .any=.any:=by simp [List.getD,List.getElem?_eq_none (Nat.le_of_not_lt hj)]
     rw [this,any_at];rfl
 | tup fs arr hn hr ih =>
  intro p
  cases p with
  | nil=>rfl
  | cons ij p =>
   obtain ⟨i,j⟩:=ij
   show (AV.at ((AV.tup fs).cellAt i j) p).isNode=false
   cases i with
   | succ i=>show (AV.at .any p).isNode=false;rw [any_at];rfl
   | zero =>
    show (AV.at (fs.getD j .any) p).isNode=false
    by_cases hj:j<fs.length
    ·have:fs.getD j .any=fs[j]:=by simp [List.getD,hj]
     rw [this];exact ih j hj (by omega) p
    ·have:fs.getD j .any=.any:=by simp [List.getD,List.getElem?_eq_none (Nat.le_of_not_lt hj)]
     rw [this,any_at];rfl
 | _=>exact leaf _ rfl (fun _ h=>by cases h) (fun _ h=>by cases h)
theorem rs_cell {a:AV} {x:Value} (r:RepS I a x) (k:Option Plc):CellOk I k a x:=.inr ⟨rs_at r [],r⟩
theorem rs_top1 {a:AV} {x:Value} (r:RepS I a x) (π:Path→Option Plc) (q:Path):TopOk1 I π q a x:=by
 cases a <;> try exact rs_cell r _
 cases r with | agg _ arr hn hr=>exact ⟨arr,rfl,hn,fun j hj hk=>rs_cell (hr j hj hk) _⟩
theorem rs_top {a:AV} {x:Value} (r:RepS I a x) (π:Path→Option Plc) (q:Path):TopOk I π q a x:=by
 cases a <;> try (unfold TopOk;exact rs_top1 r π q)
 cases r with | tup _ arr hn hr=>exact ⟨arr,rfl,hn,fun j hj hk=>rs_top1 (hr j hj hk) _ _⟩
theorem node_false {I:Gh} {π:Path→Option Plc} {w:World} {p:Path} {a:AV} (h:a.isNode=false):NodeOk I π w p a:=by
 cases a <;> simp [AV.isNode] at h <;> trivial

theorem top1_stat {π:Path→Option Plc} {q:Path} {a:AV} {x:Value} (h:TopOk1 I π q a x) (hn:a.node1=false):RepS I a x:=by
 have cell:∀ {k:Option Plc} {a:AV} {x:Value},a.isNode=false→CellOk I k a x→RepS I a x:=fun hn h=>(h.resolve_left fun ⟨q,_⟩=>by rw [hn] at q;cases q).2
 cases a <;> try exact cell hn h
 obtain ⟨arr,rfl,hs,hr⟩:=h
 simp only [AV.node1,List.any_eq_false] at hn
 exact .agg _ arr hs fun j hj hk=>cell (by simpa using hn _ (List.getElem_mem hj)) (hr j hj hk)
theorem top_stat {π:Path→Option Plc} {q:Path} {a:AV} {x:Value} (h:TopOk I π q a x) (hn:a.nodeB=false):RepS I a x:=by
 cases a <;> try (unfold TopOk at h;exact top1_stat h hn)
 obtain ⟨arr,rfl,hs,hr⟩:=h
 simp only [AV.nodeB,List.any_eq_false] at hn
 exact .tup _ arr hs fun j hj hk=>top1_stat (hr j hj hk) (by simpa using hn _ (List.getElem_mem hj))
end
end Go.AM
namespace Go.AM
open Go.RowKit (Below)

section
variable {P:Program} {I I':Gh} {ρ:Pl} {w w':World} {mem:Nat→Option AV}

theorem pureL_get:∀ {l:List AV},AV.pureL l=true→∀ j (hj:j<l.length),(l[j]).pure=true
 | a :: r,h,0,_=>by simp [AV.pureL] at h;exact h.1
 | a :: r,h,j+1,hj=>by simp [AV.pureL] at h;simpa using pureL_get h.2 j (by simpa using hj)
theorem pureL_getD {l:List AV} (h:AV.pureL l=true) (j:Nat):(l.getD j .any).pure=true:=by
 by_cases hj:j<l.length
 ·have:l.getD j .any=l[j]:=by simp [List.getD,hj]
  rw [this];exact pureL_get h j hj
 ·have:l.getD j .any=.any:=by simp [List.getD,List.getElem?_eq_none (Nat.le_of_not_lt hj)]
  rw [this];rfl
theorem pure_cells {a:AV} (h:a.pure=true) (j:Nat):(a.cells.getD j .any).pure=true:=by
 have one:∀ a:AV,a.pure=true→(([a]:List AV).getD j .any).pure=true:=by
  intro a h
  cases j with
  | zero=>exact h
  | succ j=>rfl
 cases a <;> try exact one _ h
 simp only [AV.pure] at h
 exact pureL_getD h j
theorem pure_cellAt {a:AV} (h:a.pure=true) (i j:Nat):(a.cellAt i j).pure=true:=by
 cases a <;> try rfl
 case tr z es=>simp only [AV.pure] at h;exact pure_cells (pureL_getD h i) j
 case pt z x =>
  simp only [AV.pure] at h
  cases i with
  | zero=>exact pure_cells h j
  | succ i=>rfl
 case agg fs =>
  simp only [AV.pure] at h
  cases i with
  | zero=>exact pureL_getD h j
  | succ i=>rfl
 case tup fs =>
  simp only [AV.pure] at h
  cases i with
  | zero=>exact pureL_getD h j
  | succ i=>rfl
theorem pure_at:∀ (p:Path) {a:AV},a.pure=true→(a.at p).pure=true
 | [],_,h=>h
 | ij :: p,a,h=>pure_at p (pure_cellAt h ij.1 ij.2)
theorem pure_rs {a:AV} {x:Value} (r:RepS I a x) (h:a.pure=true):RepS I' a x:=by
 induction r with
 | any x=>exact .any x
 | v x=>exact .v x
 | nil sz a=>exact .nil sz a
 | nila sz a cap=>exact .nila sz a cap
 | sl sz es b off cap vals hsz hc hI hr ih =>
  simp only [AV.pure,List.isEmpty_iff] at h
  subst h
  exact .nila sz ⟨b,off,none⟩ cap
 | agg fs arr hn hr ih=>simp only [AV.pure] at h;exact .agg fs arr hn fun j hj hk=>ih j hj hk (pureL_get h j hj)
 | tup fs arr hn hr ih=>simp only [AV.pure] at h;exact .tup fs arr hn fun j hj hk=>ih j hj hk (pureL_get h j hj)
 | ep cs b off vals hI hr ih=>simp [AV.pure] at h
 | fn f caps arr hn hr ih =>
  simp only [AV.pure,List.isEmpty_iff] at h
  subst h
  exact .fn f [] arr hn (fun j hj=>by cases hj)
 | ifc t x=>exact .ifc t x
theorem pure_cell {k:Option Plc} {a:AV} {x:Value} (c:CellOk I k a x) (h:a.pure=true):CellOk I' k a x:=by
 rcases c with c | ⟨h1,h2⟩
 ·exact .inl c
 ·exact .inr ⟨h1,pure_rs h2 h⟩
theorem pure_row {π:Path→Option Plc} {p:Path} {z:Nat} {es:List AV} (h:RowOk I π w p z es) (hp:AV.pureL es=true):RowOk I' π w p z es:=by
 rcases h with h | ⟨k,E,arr,h1,h2,h3,h3',h4,h5,h6⟩
 ·exact .inl h
 ·refine .inr ⟨k,E,arr,h1,h2,h3,h3',h4,h5,fun i hi=>⟨(h6 i hi).1,fun j hj=>⟨pure_cell ((h6 i hi).2 j hj).1 ?_,((h6 i hi).2 j hj).2⟩⟩⟩
  have:=pure_cells (pureL_get hp i hi) j
  have e:(es[i]).cells.getD j .any=(es[i]).cells[j]:=by simp [List.getD,hj]
  rw [e] at this;exact this
theorem pure_node {π:Path→Option Plc} {p:Path} {a:AV} (h:NodeOk I π w p a) (hp:a.pure=true):NodeOk I' π w p a:=by
 cases a <;> try trivial
 case tr z es=>simp only [AV.pure] at hp;exact pure_row h hp
 case pt z x=>simp only [AV.pure] at hp;exact pure_row h (by simp [AV.pureL,hp])
theorem pure_sep (m:Sep I ρ w mem) (hp:∀ s T,mem s=some T→T.pure=true) (hf:∀ b,Owns ρ mem b→∀ o,I' b o=none):Sep I' ρ w mem :=
 ⟨fun s T p h=>pure_node (m.row s T p h) (pure_at p (hp s T h)),fun s T p k h h1 h2=>hf k.b ⟨s,T,p,k,h,h1,h2,rfl⟩,m.inj⟩
theorem pure_top1 {π:Path→Option Plc} {q:Path} {a:AV} {x:Value} (h:TopOk1 I π q a x) (hp:a.pure=true):TopOk1 I' π q a x:=by
 cases a <;> try exact pure_cell h hp
 obtain ⟨arr,rfl,hs,hr⟩:=h
 simp only [AV.pure] at hp
 exact ⟨arr,rfl,hs,fun j hj hk=>pure_cell (hr j hj hk) (pureL_get hp j hj)⟩
theorem pure_top {π:Path→Option Plc} {q:Path} {a:AV} {x:Value} (h:TopOk I π q a x) (hp:a.pure=true):TopOk I' π q a x:=by
 cases a <;> try (unfold TopOk at h ⊢;exact pure_top1 h hp)
 obtain ⟨arr,rfl,hs,hr⟩:=h
 simp only [AV.pure] at hp
 exact ⟨arr,rfl,hs,fun j hj hk=>pure_top1 (hr j hj hk) (pureL_get hp j hj)⟩

theorem fz_top1 (m:Sep I ρ w mem) {s:Nat} {R:AV} (hR:mem s=some R) {q:Path} {T:AV} {x:Value} (hq:R.at q=T) (h:TopOk1 I (ρ s) q T x):RepS (lend I ρ mem w) T.fz x:=by
 cases T <;> try exact fz_cell m hR _ q _ hq h
 rename_i fs
 obtain ⟨arr,rfl,hs,hr⟩:=h
 simp only [AV.fz,fzL_map]
 refine .agg _ arr (by simpa using hs) fun j hj hk=>?_
 simp at hj ⊢
 refine fz_cell m hR _ (q++[(0,j)]) _ ?_ (hr j hj hk)
 rw [at_snoc,hq]
 simp [AV.cellAt,List.getD,hj]
theorem fz_top (m:Sep I ρ w mem) {s:Nat} {R:AV} (hR:mem s=some R) {q:Path} {T:AV} {x:Value} (hq:R.at q=T) (h:TopOk I (ρ s) q T x):RepS (lend I ρ mem w) T.fz x:=by
 cases T <;> try (unfold TopOk at h;exact fz_top1 m hR hq h)
 rename_i fs
 obtain ⟨arr,rfl,hs,hr⟩:=h
 simp only [AV.fz,fzL_map]
 refine .tup _ arr (by simpa using hs) fun j hj hk=>?_
 simp at hj ⊢
 refine fz_top1 m hR (q:=q++[(0,j)]) ?_ (hr j hj hk)
 rw [at_snoc,hq]
 simp [AV.cellAt,List.getD,hj]

def FRet (I:Gh) (ρ:Pl) (w:World) (K B:AV→Prop) (x:Value) (w':World):Prop :=
 (∃ v I',K v∧Rep I' ρ v x∧Grow I w I' w')∨(∃ T I' π,B T∧TopOk I' π [] T x∧Grow I w I' w'∧NewTree I' π w' w.heap.size T)

def FRetC (I:Gh) (w:World) (K B:AV→Prop) (x:Value) (w':World):Prop :=
 (∃ v I',K v∧RepS I' v x∧Grow I w I' w')∨(∃ T I' π,B T∧TopOk I' π [] T x∧Grow I w I' w'∧NewTree I' π w' w.heap.size T)
theorem FRetC.ret {K B:AV→Prop} {x:Value} (h:FRetC I w K B x w'):FRet I ρ w K B x w':=by
 rcases h with ⟨v,I',h1,h2,h3⟩ | h
 ·exact .inl ⟨v,I',h1,.stat h2,h3⟩
 ·exact .inr h

theorem held_keep (hh:Held I w) (hb:BelowX (fun _=>False) w.heap.size w w'):Held I w':=⟨fun b o y hy=>by
 have hlt:=hh.lt hy
 have:=hh.cell b o y hy
 exact ⟨(World.cell?_of_block (w:=w) (a:=⟨b,o,none⟩) (hb.block b hlt (fun q=>q))).trans this.1,this.2⟩,fun b cs h=>by obtain ⟨t,f,x,h1,h2⟩:=hh.base b cs h;exact ⟨t,f,x,(hb.block b (hh.lt h2) (fun q=>q)).trans h1,h2⟩⟩

theorem one_sep {π:Pl} {n:Nat} {r:AV} (h:Sep I π w (outMem n [] r)):Sep I (fun _=>π n) w (fun i=>if i=0 then some r else none):=by
 have hn:outMem n [] r n=some r:=by simp [outMem]
 refine ⟨fun s T p hm=>?_,fun s T p k hm h1 h2=>?_,fun s T p k s' T' p' k' hm h1 h2 hm' h1' h2' he=>?_⟩
 ·split at hm <;> cases hm;exact h.row n r p hn
 ·split at hm <;> cases hm;exact h.free n r p k hn h1 h2
 ·split at hm <;> cases hm
  split at hm' <;> cases hm'
  rename_i e1 e2
  exact ⟨e1.trans e2.symm,(h.inj n r p k n r p' k' hn h1 h2 hn h1' h2' he).2⟩
theorem owns_one {π:Path→Option Plc} {r:AV} {b:Nat} (h:Owns (fun _=>π) (fun i=>if i=0 then some r else none) b):∃ p k,(r.at p).isNode=true∧π p=some k∧k.b=b:=by
 obtain ⟨s,T,p,k,h1,h2,h3,h4⟩:=h
 simp only at h1
 split at h1 <;> cases h1
 exact ⟨p,k,h2,h3,h4⟩

theorem callP_sound (hh:Held I w) (m:Sep I ρ w mem) {f:FuncId} {args:List AV} {vals:Array Value} {K B:AV→Prop}
  (h:callP P f (AV.views mem args) (AV.bearsL args) K B .mk .mk) (hn:vals.size=args.length) (hr:∀ j (hj:j<args.length) (hk:j<vals.size),Rep I ρ (args[j]) (vals[j])) :
  HasBody P f∧Calls P f vals w fun e w'=>∃ x,e=.returned x∧FRetC I w K B x w':=by
 obtain ⟨r,⟨hbody,_,_,hspec⟩,hl,hk⟩:=h
 refine ⟨hbody,?_⟩
 obtain ⟨J,hJ,hreps,hcase⟩:∃ J,Held J w∧(∀ j (hj:j<args.length) (hk:j<vals.size),RepS J ((args[j]).view mem) (vals[j]))∧(J=I∨r.pure=true):=by
  cases hb:AV.bearsL args with
  | false=>exact ⟨I,hh,fun j hj hk=>rs_view mem (nb_stat (hr j hj hk) (bearsL_get hb j hj)),.inl rfl⟩
  | true=>exact ⟨lend I ρ mem w,lend_held m hh,fun j hj hk=>view_sound m (hr j hj hk),.inr (by rcases hl with q | q;rw [hb] at q;cases q;exact q)⟩
 have hlen:=views_len mem args
 have hno:∀ (s:Nat) (T:AV) (p:Path),(AV.views mem args)[s]? = some T→(T.at p).isNode=false:=by
  intro s T p hs
  obtain ⟨hlt,rfl⟩:=List.getElem?_eq_some_iff.1 hs
  have h1:s<args.length:=by rw [hlen] at hlt;exact hlt
  rw [views_get _ _ _ hlt h1]
  exact rs_at (hreps s h1 (by omega)) p
 have hown:∀ b,¬ Owns (fun _ _=>none) (fun i=>(AV.views mem args)[i]?) b:=fun b ⟨s,T,p,k,h1,h2,_⟩=>by rw [hno s T p h1] at h2;cases h2
 have hsep:Sep J (fun _ _=>none) w (fun i=>(AV.views mem args)[i]?):=⟨fun s T p hs=>node_false (hno s T p hs),(fun s T p k hs h1=>by rw [hno s T p hs] at h1;cases h1),(fun s T p k s' T' p' k' hs h1=>by rw [hno s T p hs] at h1;cases h1)⟩
 refine (hspec J (fun _ _=>none) w vals hJ (by rw [hlen];exact hn) hsep fun j hj hk=>?_).mono ?_
 ·have h1:j<args.length:=by rw [hlen] at hj;exact hj
  rw [views_get _ _ _ hj h1]
  exact rs_top (hreps j h1 hk) _ _
 ·rintro e w' ⟨I1,π1,x,rfl,hI1,hs1,ht1,_,hb1,hk1,hnew⟩
  refine ⟨x,rfl,?_⟩
  have hb1':BelowX (fun _=>False) w.heap.size w w':=hb1.mono (Nat.le_refl _) fun k _ q=>(hown k q).elim
  obtain ⟨I2,g2,s2,t2⟩:∃ I2,Grow I w I2 w'∧Sep I2 π1 w' (outMem (AV.views mem args).length [] r)∧TopOk I2 (π1 (AV.views mem args).length) [] r x:=by
   rcases hcase with rfl | hp
   ·exact ⟨I1,⟨hI1,hb1',hk1⟩,hs1,ht1⟩
   ·refine ⟨I,⟨held_keep hh hb1',hb1',fun _ _ _=>rfl⟩,pure_sep hs1 ?_ ?_,pure_top ht1 hp⟩
    ·intro s T hs
     simp only [outMem] at hs
     split at hs
     ·cases hs;exact hp
     ·simp at hs
    ·intro b hb o
     rcases hnew b hb with q | q
     ·exact (hown b q).elim
     ·cases hx:I b o with
      | none=>rfl
      | some y=>have:=hh.lt hx;omega
  have hs0:=one_sep s2
  have hnewT:NewTree I2 (π1 (AV.views mem args).length) w' w.heap.size r:=⟨hs0,fun p k h1 h2=>by
   rcases hnew k.b ⟨(AV.views mem args).length,r,p,k,by simp [outMem],h1,h2,rfl⟩ with q | q
   ·exact (hown _ q).elim
   ·exact q⟩
  rcases hk with hk | hk
  ·cases hnb:r.nodeB with
   | true=>rw [hnb] at hk;exact .inr ⟨r,I2,_,hk,t2,g2,hnewT⟩
   | false=>rw [hnb] at hk;exact .inl ⟨r,I2,hk,top_stat t2 hnb,g2⟩
  ·refine .inl ⟨r.fz,lend I2 (fun _=>π1 (AV.views mem args).length) (fun i=>if i=0 then some r else none) w',hk,fz_top hs0 (s:=0) (R:=r) rfl (q:=[]) rfl t2,⟨lend_held hs0 g2.held,g2.below,fun b o hb=>?_⟩⟩
   rw [lend_not]
   ·exact g2.keeps b o hb
   ·intro q
    obtain ⟨p,k,h1,h2,rfl⟩:=owns_one q
    have:=hnewT.new p k h1 h2;omega

theorem calleeP_sound (hh:Held I w) (m:Sep I ρ w mem) {x:AV} {args:List AV} {vals:Array Value} {K B:AV→Prop} {u:Value}
  (h:calleeP P mem x args K B .mk .mk) (hx:Rep I ρ x u) (hn:vals.size=args.length) (hr:∀ j (hj:j<args.length) (hk:j<vals.size),Rep I ρ (args[j]) (vals[j])) :
  ∃ f vs,(do let d ← Deferred.ofValue u vals;invoke d.target d.args:Sem Next).run P w=.ok (.enter f vs) w∧Calls P f vs w fun e w'=>∃ x,e=.returned x∧FRetC I w K B x w':=by
 unfold calleeP at h
 split at h
 ·rename_i f caps
  obtain ⟨arr,rfl,hcn,hcr⟩:=rep_fn hx
  have key:=callP_sound hh m (vals:=vals++arr) h (by simp [hn,hcn]) (fun j hj hk=>?_)
  ·obtain ⟨⟨fn,c,hf,hb,hname⟩,hcall⟩:=key
   refine ⟨f,vals++arr,?_,hcall⟩
   simp [Deferred.ofValue,invoke,callFunc,hf,hb,hname]
  ·by_cases hjl:j<args.length
   ·have e1:(args++caps)[j]=args[j]:=List.getElem_append_left hjl
    have e2:(vals++arr)[j]=vals[j]'(by omega):=Array.getElem_append_left (by omega)
    rw [e1,e2];exact hr j hjl (by omega)
   ·have hj2:j - args.length<caps.length:=by simp at hj;omega
    have e1:(args++caps)[j]=caps[j - args.length]:=List.getElem_append_right (by omega)
    have e2:(vals++arr)[j]=arr[j - vals.size]'(by omega):=Array.getElem_append_right (by omega)
    rw [e1,e2]
    have e3:j - vals.size=j - args.length:=by omega
    simp only [e3]
    exact hcr _ hj2 (by omega)
 ·exact h.elim
end
end Go.AM
namespace Go.AM
open Go.RowKit (Below)

section
variable {P:Program} {I:Gh} {ρ:Pl} {w:World}

theorem rep_cells {a:AV} {x:Value} (r:Rep I ρ a x) (k:knownCells a=true):x.cells.size=a.cells.length∧∀ j (hj:j<a.cells.length) (hk:j<x.cells.size),Rep I ρ (a.cells[j]) (x.cells[j])∧(x.cells[j]).oneCell'=true:=by
 have atom:∀ {a:AV} {x:Value},Rep I ρ a x→oneC a=true→x.oneCell'=true:=by
  intro a x r k
  cases r with
  | stat h =>
   cases h with
   | any x=>simp [oneC] at k
   | v x=>cases x <;> simp [oneC,Value.oneCell'] at k ⊢
   | nil=>rfl
   | nila=>rfl
   | sl=>rfl
   | agg=>simp [oneC] at k
   | tup=>simp [oneC] at k
   | ep=>rfl
   | fn=>rfl
   | ifc=>rfl
  | ref=>rfl
  | ref0=>rfl
  | loc=>rfl
  | mref=>rfl
  | lst=>rfl
  | bx=>rfl
  | agg=>simp [oneC] at k
  | tup=>simp [oneC] at k
  | fn=>rfl
 have single:∀ {a:AV} {x:Value},Rep I ρ a x→oneC a=true→a.cells=[a]→x.cells.size=a.cells.length∧∀ j (hj:j<a.cells.length) (hk:j<x.cells.size),Rep I ρ (a.cells[j]) (x.cells[j])∧(x.cells[j]).oneCell'=true:=by
  intro a x r k hc
  have h1:=atom r k
  have hx:x.cells = #[x]:=by cases x <;> simp [Value.cells,Value.oneCell'] at h1 ⊢
  refine ⟨by rw [hx,hc];rfl,fun j hj hk=>?_⟩
  have hj0:j=0:=by rw [hc] at hj;simpa using hj
  subst hj0
  simp only [hx,hc]
  exact ⟨r,h1⟩
 cases a with
 | agg fs =>
  obtain ⟨arr,rfl,hn,hr⟩:=rep_agg r
  simp only [knownCells,List.all_eq_true] at k
  exact ⟨hn,fun j hj hk=>⟨hr j hj hk,atom (hr j hj hk) (k _ (List.getElem_mem hj))⟩⟩
 | any=>simp [knownCells,oneC] at k
 | tup=>simp [knownCells,oneC] at k
 | tr=>simp [knownCells,oneC] at k
 | pt=>simp [knownCells,oneC] at k
 | mt=>simp [knownCells,oneC] at k
 | v x=>exact single r k rfl
 | sl=>exact single r k rfl
 | ep=>exact single r k rfl
 | loc=>exact single r k rfl
 | ref=>exact single r k rfl
 | mref=>exact single r k rfl
 | lst=>exact single r k rfl
 | bx=>exact single r k rfl
 | ifc=>exact single r k rfl
 | fn=>exact single r k rfl

theorem foldl_set (off:Nat):∀ (vs:List Value) (i:Nat) (cells:Array Value),off+i+vs.length≤cells.size →
  ((vs.zipIdx i).foldl (fun cs (c,j)=>cs.setIfInBounds (off+j) c) cells).toList=cells.toList.take (off+i)++vs++cells.toList.drop (off+i+vs.length)
 | [],i,cells,_=>by simp
 | v :: r,i,cells,h=>by
  simp at h
  simp only [List.zipIdx_cons,List.foldl_cons]
  rw [foldl_set off r (i+1) _ (by simp;omega)]
  have e:=list_seg_step cells.toList (off+i) v r (by simp;omega)
  simpa [Array.toList_setIfInBounds,Nat.add_assoc] using e

theorem splice_get {α:Type} (a b:List α) (off n j:Nat) (hb:b.length=n) (ho:off+n≤a.length):(a.take off++b++a.drop (off+n))[j]? = if j<off then a[j]? else if j<off+n then b[j - off]? else a[j]?:=by
 have hl:(a.take off).length=off:=by simp;omega
 by_cases h1:j<off
 ·rw [if_pos h1,List.getElem?_append_left (by simp;omega),List.getElem?_append_left (by omega),List.getElem?_take_of_lt h1]
 ·by_cases h2:j<off+n
  ·rw [if_neg h1,if_pos h2,List.getElem?_append_left (by simp;omega),List.getElem?_append_right (by omega),hl]
  ·rw [if_neg h1,if_neg h2,List.getElem?_append_right (by simp;omega),List.getElem?_drop]
   congr 1
   simp;omega

theorem fill_sound {t:TypeId} {fs:Array Field} (hu:P.underlying t=some (.struct fs)):∀ (ps:List (Nat×AV)) (qs:List (Nat×Value)) (cs out:List AV) (cells:Array Value),buildCs P t cs ps=some out→ps.length=qs.length →
  (∀ j (hj:j<ps.length) (hk:j<qs.length),(ps[j]).1=(qs[j]).1∧Rep I ρ (ps[j]).2 (qs[j]).2)→cells.size=cs.length→(∀ j (hj:j<cs.length) (hk:j<cells.size),Rep I ρ (cs[j]) (cells[j])) →
  ∃ arr,Instr.fill ((fs.map fun f=>(f.offset,sizeT P f.type))[·]?) cells qs=some arr∧arr.size=out.length∧∀ j (hj:j<out.length) (hk:j<arr.size),Rep I ρ (out[j]) (arr[j])
 | [],qs,cs,out,cells,h,hl,_,hn,hr=>by
  cases qs with
  | nil=>simp [buildCs] at h;subst h;exact ⟨cells,by simp [Instr.fill],hn,hr⟩
  | cons a b=>simp at hl
 | (i,x) :: ps,qs,cs,out,cells,h,hl,hp,hn,hr=>by
  cases qs with
  | nil=>simp at hl
  | cons q qs =>
   obtain ⟨i',v⟩:=q
   have h0:=hp 0 (by simp) (by simp)
   simp at h0
   obtain ⟨rfl,hv⟩:=h0
   simp only [buildCs] at h
   cases hf:fieldT P t i with
   | none=>simp [hf] at h
   | some y =>
    obtain ⟨off,ft⟩:=y
    simp only [hf] at h
    split at h
    ·rename_i hc
     obtain ⟨hc1,hc2,hc3⟩:=hc
     obtain ⟨fs',f,inf,hu',hfi,ho,hft,hi,hne⟩:=fieldT_spec hf
     rw [hu] at hu'
     cases hu'
     subst ho;subst hft
     obtain ⟨r1,r2⟩:=rep_cells hv hc3
     have hplace:(fs.map fun f=>(f.offset,sizeT P f.type))[i]? = some (f.offset,sizeT P f.type):=by simp [hfi]
     have hsz:v.cells.size=sizeT P f.type:=by omega
     have hset:=foldl_set f.offset v.cells.toList 0 cells (by simp;omega)
     simp only [Nat.add_zero,Array.length_toList] at hset
     have hz:(v.cells.zipIdx.foldl (fun cs (c,j)=>cs.setIfInBounds (f.offset+j) c) cells)=(cells.toList.take f.offset++v.cells.toList++cells.toList.drop (f.offset+v.cells.size)).toArray:=by
      apply Array.toList_inj.1
      rw [← Array.foldl_toList,Array.toList_zipIdx]
      simpa using hset
     obtain ⟨arr,a1,a2,a3⟩:=fill_sound hu ps qs _ out (cells.toList.take f.offset++v.cells.toList++cells.toList.drop (f.offset+v.cells.size)).toArray h (by simpa using hl)
      (fun j hj hk=>by have:=hp (j+1) (by simp;omega) (by simp;omega);simpa using this)
      (by simp;omega)
      (fun j hj hk=>by
       simp only [List.getElem_toArray]
       have g1:=List.getElem?_eq_getElem hj
       have hk':j<(cells.toList.take f.offset++v.cells.toList++cells.toList.drop (f.offset+v.cells.size)).length:=by simpa using hk
       have g2:=List.getElem?_eq_getElem hk'
       generalize (List.take f.offset cs++x.cells++List.drop (f.offset+sizeT P f.type) cs)[j]=U at g1
       generalize (cells.toList.take f.offset++v.cells.toList++cells.toList.drop (f.offset+v.cells.size))[j]=V at g2
       rw [splice_get _ _ _ _ _ hc1 hc2] at g1
       rw [splice_get _ _ _ _ _ (by simp) (by simp;omega)] at g2
       by_cases c1:j<f.offset
       ·rw [if_pos c1] at g1 g2
        obtain ⟨l1,rfl⟩:=List.getElem?_eq_some_iff.1 g1
        obtain ⟨l2,rfl⟩:=List.getElem?_eq_some_iff.1 g2
        simp only [Array.getElem_toList]
        exact hr j l1 (by simpa using l2)
       ·by_cases c2:j<f.offset+sizeT P f.type
        ·rw [if_neg c1,if_pos c2] at g1
         rw [if_neg c1,if_pos (by omega)] at g2
         obtain ⟨l1,rfl⟩:=List.getElem?_eq_some_iff.1 g1
         obtain ⟨l2,rfl⟩:=List.getElem?_eq_some_iff.1 g2
         simp only [Array.getElem_toList]
         exact (r2 _ l1 (by simpa using l2)).1
        ·rw [if_neg c1,if_neg c2] at g1
         rw [if_neg c1,if_neg (by omega)] at g2
         obtain ⟨l1,rfl⟩:=List.getElem?_eq_some_iff.1 g1
         obtain ⟨l2,rfl⟩:=List.getElem?_eq_some_iff.1 g2
         simp only [Array.getElem_toList]
         exact hr j l1 (by simpa using l2))
     refine ⟨arr,?_,a2,a3⟩
     unfold Instr.fill
     simp only [hplace]
     rw [if_neg (by simp;omega),hz]
     exact a1
    ·cases h

theorem structT_spec {t:TypeId} (h:structT P t=true):∃ fs,P.underlying t=some (.struct fs)∧∀ f∈fs.toList,∃ i,P.info? f.type=some i:=by
 unfold structT at h
 cases hu:P.underlying t with
 | none=>simp [hu] at h
 | some d =>
  rw [hu] at h
  cases d <;> simp at h
  rename_i fs
  refine ⟨fs,rfl,fun f hf=>?_⟩
  obtain ⟨k,hk,rfl⟩:=List.mem_iff_getElem.1 hf
  have:=h k (by simpa using hk)
  exact Option.isSome_iff_exists.1 (by simpa using this)

theorem run_places {fs:Array Field} (h:∀ f∈fs.toList,∃ i,P.info? f.type=some i):(fs.mapM fun f=>do pure (f.offset,← sizeOf f.type):Sem _).run P w=.ok (fs.map fun f=>(f.offset,sizeT P f.type)) w:=by
 have key:∀ l:List Field,(∀ f∈l,∃ i,P.info? f.type=some i)→(l.mapM fun f=>do pure (f.offset,← sizeOf f.type):Sem _).run P w=.ok (l.map fun f=>(f.offset,sizeT P f.type)) w:=by
  intro l
  induction l with
  | nil=>intro _;simp
  | cons f r ih =>
   intro h
   obtain ⟨i,hi⟩:=h f (by simp)
   have:=ih (fun g hg=>h g (by simp [hg]))
   simp only [List.mapM_cons,Sem.run_bind,sizeT_run hi,Result.andThen_ok,Sem.run_pure,this,List.map_cons]
 rw [Array.mapM_eq_mapM_toList]
 simp only [Sem.run_map,key _ h,Result.andThen_ok]
 congr 1
 apply Array.toList_inj.1
 simp

def isCallV:Op→Bool
 | .call c=>match c.callee with | .value _=>true | _=>false
 | _=>false

theorem flat_cells:∀ (ps:List (Nat×Operand)) (ev:Operand→AV) (a:Act) (n:Nat),(∀ x,Rep I ρ (ev x) (a.eval x))→(ps.all fun p=>decide ((ev p.2).cells.length=n) && knownCells (ev p.2))=true →
  (ps.flatMap fun p=>(ev p.2).cells).length=ps.length*n∧(ps.flatMap fun p=>(a.eval p.2).cells.toList).length=ps.length*n∧(∀ p∈ps,(a.eval p.2).cells.size=n) ∧
  ∀ j (hj:j<(ps.flatMap fun p=>(ev p.2).cells).length) (hk:j<(ps.flatMap fun p=>(a.eval p.2).cells.toList).length),Rep I ρ ((ps.flatMap fun p=>(ev p.2).cells)[j]) ((ps.flatMap fun p=>(a.eval p.2).cells.toList)[j])∧((ps.flatMap fun p=>(a.eval p.2).cells.toList)[j]).oneCell'=true
 | [],_,_,_,_,_=>by simp
 | p :: r,ev,a,n,he,h=>by
  simp only [List.all_cons,Bool.and_eq_true,decide_eq_true_eq] at h
  obtain ⟨⟨h1,h2⟩,h3⟩:=h
  obtain ⟨i1,i2,i3,i4⟩:=flat_cells r ev a n he h3
  obtain ⟨r1,r2⟩:=rep_cells (he p.2) h2
  refine ⟨by simp only [List.flatMap_cons,List.length_append,i1,h1,List.length_cons,Nat.add_mul];omega,by simp only [List.flatMap_cons,List.length_append,i2,List.length_cons,Nat.add_mul,Array.length_toList,r1,h1];omega,?_,?_⟩
  ·intro q hq
   cases List.mem_cons.1 hq with
   | inl e=>subst e;omega
   | inr e=>exact i3 q e
  ·intro j hj hk
   simp only [List.flatMap_cons] at hj hk ⊢
   by_cases c:j<n
   ·rw [List.getElem_append_left (by omega),List.getElem_append_left (by simp;omega)]
    simp only [Array.getElem_toList]
    exact r2 j (by omega) (by omega)
   ·rw [List.getElem_append_right (by omega),List.getElem_append_right (by simp;omega)]
    have e2:j - (a.eval p.2).cells.toList.length=j - (ev p.2).cells.length:=by simp;omega
    simp only [e2]
    exact i4 _ (by rw [List.length_append] at hj;omega) (by rw [List.length_append,Array.length_toList] at hk;omega)

theorem fill_seq (size:Nat):∀ (vs:List Value) (k:Nat) (cells:Array Value),(∀ v∈vs,v.cells.size=size)→(k+vs.length)*size≤cells.size →
  Instr.fill (fun i=>some (i*size,size)) cells (vs.zipIdx k |>.map fun p=>(p.2,p.1))=some (cells.toList.take (k*size)++vs.flatMap (fun v=>v.cells.toList)++cells.toList.drop ((k+vs.length)*size)).toArray
 | [],k,cells,_,_=>by simp [Instr.fill]
 | v :: r,k,cells,h,hl=>by
  have hv:=h v (by simp)
  have e0:(k+(v :: r).length)*size=k*size+size+r.length*size:=by simp only [List.length_cons];rw [Nat.add_mul,Nat.add_mul,Nat.one_mul];omega
  have hset:=foldl_set (k*size) v.cells.toList 0 cells (by simp;omega)
  simp only [Nat.add_zero,Array.length_toList,hv] at hset
  have hz:(v.cells.zipIdx.foldl (fun cs (c,j)=>cs.setIfInBounds (k*size+j) c) cells)=(cells.toList.take (k*size)++v.cells.toList++cells.toList.drop (k*size+size)).toArray:=by
   apply Array.toList_inj.1
   rw [← Array.foldl_toList,Array.toList_zipIdx]
   simpa using hset
  simp only [List.zipIdx_cons,List.map_cons]
  unfold Instr.fill
  simp only []
  rw [if_neg (by simp [hv];omega)]
  rw [hz,fill_seq size r (k+1) _ (fun x hx=>h x (by simp [hx])) (by simp only [List.size_toArray,List.length_append,List.length_take,List.length_drop,Array.length_toList,hv];rw [Nat.add_mul,Nat.add_mul];omega)]
  congr 1
  apply Array.toList_inj.1
  simp only [List.flatMap_cons]
  have e1:(k+1)*size=k*size+size:=by rw [Nat.add_mul,Nat.one_mul]
  have e2:(k+1+r.length)*size=k*size+size+r.length*size:=by rw [Nat.add_mul,Nat.add_mul,Nat.one_mul]
  have l1:(cells.toList.take (k*size)).length=k*size:=by simp;omega
  have l2:(cells.toList.take (k*size)++v.cells.toList).length=k*size+size:=by simp [hv];omega
  rw [e0,e1,e2]
  have t1:(cells.toList.take (k*size)++v.cells.toList++cells.toList.drop (k*size+size)).take (k*size+size)=cells.toList.take (k*size)++v.cells.toList:=by
   rw [List.take_append_of_le_length (by omega),List.take_of_length_le (by omega)]
  have t2:(cells.toList.take (k*size)++v.cells.toList++cells.toList.drop (k*size+size)).drop (k*size+size+r.length*size)=cells.toList.drop (k*size+size+r.length*size):=by
   rw [List.drop_append,List.drop_of_length_le (by omega),l2,List.drop_drop,List.nil_append]
   congr 1
   omega
  simp only [List.append_assoc] at t1 t2
  simp only [List.append_assoc,t1,t2]

theorem run_buildSlice {t e:TypeId} {inf:TypeInfo} (hu:P.underlying t=some (.slice e)) (hi:P.info? e=some inf) {z:Value} (hz:inf.zero=some z) (hzl:z.cells.size=sizeT P e) (vs:List Value) (hv:∀ v∈vs,v.cells.size=sizeT P e) (hb:vs.length*sizeT P e≤65536) :
  (Instr.buildSlice t vs.length (vs.zipIdx.map fun p=>(p.2,p.1)).toArray).run P w=.ok (.slice (some ⟨w.heap.size,0,none⟩) vs.length vs.length) (w.alloc (.cells (vs.flatMap fun v=>v.cells.toList).toArray e)):=by
 have hn:¬ (vs.length*sizeT P e > 2 ^ 24):=by omega
 have hzero:(zeroValue e).run P w=.ok z w:=by simp [zeroValue,typeInfo,hi,hz]
 have hfill:∀ zero:Array Value,Instr.fill (fun i=>some (i*sizeT P e,sizeT P e)) ((Array.range (vs.length*sizeT P e)).map (zero[· % zero.size]!)) (vs.zipIdx.map fun p=>(p.2,p.1))=some (vs.flatMap fun v=>v.cells.toList).toArray:=by
  intro zero
  rw [fill_seq (sizeT P e) vs 0 _ hv (by simp)]
  congr 1
  apply Array.toList_inj.1
  simp
 have hz0:((if vs.length*sizeT P e=0 then pure #[] else do pure (← zeroValue e).cells:Sem (Array Value))).run P w=.ok (if vs.length*sizeT P e=0 then #[] else z.cells) w:=by
  split <;> simp [hzero]
 unfold Instr.buildSlice
 simp only [Sem.run_bind,run_underlying hu,Result.andThen_ok,sizeT_run hi]
 rw [if_neg hn]
 simp only [Sem.run_bind,hz0,Result.andThen_ok,hfill,newRow,run_newObj_alloc,Sem.run_pure]
 split <;> simp [hzero]


def keyD (kd:Bool):TypeDesc:=match kd with | true=>.string | false=>.int .i64
theorem mapT_spec {t:TypeId} {kd:Bool} {e:TypeId} (h:mapT P t=some (kd,e)):∃ k,P.underlying t=some (.map k e)∧P.underlying k=some (keyD kd):=by
 unfold mapT at h
 split at h
 ·rename_i k e' hu
  split at h
  ·rename_i hk;cases h;exact ⟨k,hu,hk⟩
  ·rename_i hk;cases h;exact ⟨k,hu,hk⟩
  ·cases h
 ·cases h
theorem keyB_spec {kd:Bool} {k:Value} (h:keyB kd k=true):isKey kd k:=by
 unfold keyB at h
 split at h
 ·exact ⟨_,rfl⟩
 ·exact ⟨_,rfl⟩
 ·cases h
theorem sameNow_key {kd:Bool} {k k':Value} (h:isKey kd k) (h':isKey kd k'):Instr.sameNow (keyD kd) k k'=some (open Classical in decide (k=k')):=by
 cases kd with
 | true =>
  obtain ⟨s,rfl⟩:=h;obtain ⟨s',rfl⟩:=h'
  show some (s == s')=_
  congr 1
  rw [Bool.eq_iff_iff,MapKept.bytes_beq];simp
 | false =>
  obtain ⟨s,rfl⟩:=h;obtain ⟨s',rfl⟩:=h'
  show (if IntKind.i64=IntKind.i64 then some (s == s') else none)=_
  rw [if_pos rfl]
  congr 1
  rw [Bool.eq_iff_iff];simp
theorem findNow_key {kd:Bool} {k:Value} (hk:isKey kd k):∀ (es:List MapEntry) (i:Nat),(∀ e∈es,isKey kd e.key) →
  (Instr.findNow (keyD kd) k es i=some none∧∀ e∈es,e.key≠k)∨∃ j e,es[j]? = some e∧e.key=k∧Instr.findNow (keyD kd) k es i=some (some (i+j,e.val))
 | [],i,_=>.inl ⟨rfl,fun e he=>by cases he⟩
 | e :: r,i,h=>by
  have h0:=sameNow_key hk (h e (by simp))
  unfold Instr.findNow
  rw [h0]
  by_cases hc:k=e.key
  ·right
   refine ⟨0,e,rfl,hc.symm,?_⟩
   simp [hc]
  ·simp only [hc,decide_false]
   rcases findNow_key hk r (i+1) (fun x hx=>h x (by simp [hx])) with ⟨h1,h2⟩ | ⟨j,e',h1,h2,h3⟩
   ·exact .inl ⟨h1,fun x hx=>by rcases List.mem_cons.1 hx with rfl | hx;exact fun q=>hc q.symm;exact h2 x hx⟩
   ·exact .inr ⟨j+1,e',by simpa using h1,h2,by rw [h3];congr 3;omega⟩
theorem run_checkKey {kd:Bool} {k:TypeId} (hk:P.underlying k=some (keyD kd)) {v:Value} (hv:isKey kd v) (b:Bool):(Instr.checkKey b 10000 k v).run P w=.ok () w:=by
 show (Instr.checkKey b (9999+1) k v).run P w=_
 rw [Instr.checkKey,Sem.run_bind,run_underlying hk]
 cases kd with
 | true=>obtain ⟨s,rfl⟩:=hv;rfl
 | false=>obtain ⟨s,rfl⟩:=hv;rfl
theorem run_findKey {kd:Bool} {k:TypeId} (hk:P.underlying k=some (keyD kd)) {v:Value} {es:List MapEntry} {r:Option (Nat×Value)} (hf:Instr.findNow (keyD kd) v es 0=some r):(Instr.findKey k v es).run P w=.ok r w:=by
 unfold Instr.findKey
 rw [Sem.run_bind,run_underlying hk,Result.andThen_ok,hf];rfl
theorem map_find {kd:Bool} {m:Value→Option Value} {es:Array MapEntry} (h:MapIs kd m es) {k:Value} (hk:isKey kd k) :
  (Instr.findNow (keyD kd) k es.toList 0=some none∧m k=none∧∀ e∈es.toList,e.key≠k)∨∃ (j:Nat) (e:MapEntry),es.toList[j]? = some e∧e.key=k∧m k=some e.val∧Instr.findNow (keyD kd) k es.toList 0=some (some (j,e.val)):=by
 rcases findNow_key hk es.toList 0 (fun e he=>(h.1 e he).2.1) with ⟨h1,h2⟩ | ⟨j,e,h1,h2,h3⟩
 ·refine .inl ⟨h1,?_,h2⟩
  cases hm:m k with
  | none=>rfl
  | some x=>obtain ⟨e,he,hek⟩:=h.2.1 k x hm;exact (h2 e he hek).elim
 ·have:=(h.1 e (List.mem_of_getElem? h1)).1
  rw [h2] at this
  exact .inr ⟨j,e,h1,h2,this,by rw [h3];congr 3;omega⟩

theorem lookP_sound {mem:Nat→Option AV} (m:Sep I ρ w mem) {t:TypeId} {x i:AV} {ok:Bool} {K:AV→Prop} {u ui:Value} (h:lookP P mem t x i ok K .mk) (hx:Rep I ρ x u) (hi:Rep I ρ i ui):Yields P I ρ w (Instr.lookup t u ui ok) K:=by
  unfold lookP at h
  split at h
  · rename_i s p
    obtain ⟨k,hk,rfl⟩:=rep_mref hx
    unfold lookN at h
    split at h
    · rename_i kd f key hT
      have hui:=rep_v hi
      subst hui
      cases hm:mapT P t with
      | none=>rw [hm] at h;exact h.elim
      | some ke =>
        obtain ⟨kd',e⟩:=ke
        rw [hm] at h
        obtain ⟨⟨rfl,hkey⟩,h⟩:=h
        cases hz:zeroV P e with
        | none=>rw [hz] at h;exact h.elim
        | some z =>
          rw [hz] at h
          obtain ⟨kt,hu,huk⟩:=mapT_spec hm
          have huk':=huk
          obtain ⟨R,hR,hRT⟩:=nodeAt_some hT rfl
          have hrow:=m.row s R p hR
          rw [hRT] at hrow
          obtain ⟨k',es,c,g1,g2,g3⟩:=hrow
          rw [hk] at g1;cases g1
          have hkk:=keyB_spec hkey
          have hzero:(zeroValue e).run P w=.ok z w:=by
            unfold zeroV at hz
            cases hinf:P.info? e with
            | none=>rw [hinf] at hz;cases hz
            | some inf=>rw [hinf] at hz;simp only at hz;simp [zeroValue,typeInfo,hinf,hz]
          have hrun:∀ (r:Option (Nat×Value)),Instr.findNow (keyD kd') ui es.toList 0=some r →
              (Instr.lookup t (.map (some k.b)) ui ok).run P w=.ok (let vo:=(match r with | some (_,v)=>(v,true) | none=>(z,false));if ok then .tuple #[vo.1,.bool vo.2] else vo.1) w:=by
            intro r hr
            unfold Instr.lookup
            simp only [Sem.run_bind,run_underlying hu,Result.andThen_ok,MapKept.run_getObj_map g2,Sem.run_pure,run_checkKey huk' hkk,run_findKey huk' hr]
            cases r with
            | none=>cases ok <;> simp [hzero]
            | some q=>cases ok <;> simp
          have ht:∀ (v:Value) (b:Bool),Rep I ρ (.tup [.v v,.bl b]) (.tuple #[v,.bool b]):=fun v b=>.stat (.tup _ _ rfl (fun j hj hk=>by
            match j,hj with
            | 0,_=>exact .v _
            | 1,_=>exact .v _))
          simp only [optP] at h
          rcases map_find g3 hkk with ⟨q1,q2,_⟩ | ⟨j,e',_,_,q2,q1⟩
          · rw [q2] at h
            have:=hrun none q1
            cases ok with
            | true=>exact ⟨_,_,this,h,ht _ _⟩
            | false=>exact ⟨_,_,this,h,.stat (.v _)⟩
          · rw [q2] at h
            have:=hrun _ q1
            cases ok with
            | true=>exact ⟨_,_,this,h,ht _ _⟩
            | false=>exact ⟨_,_,this,h,.stat (.v _)⟩
    · exact h.elim
  · exact h.elim
end
end Go.AM
namespace Go.AM
open Go.RowKit (Below)

section
variable {P:Program} {I:Gh} {ρ:Pl} {w w':World}

def frzNew (I:Gh) (w w':World):Gh:=fun b o=>if b=w.heap.size then (match w'.cell? ⟨b,o,none⟩ with | some x=>if x.oneCell'=true then some x else none | none=>none) else I b o

def FRes (I:Gh) (ρ:Pl) (w:World) (K B:AV→Prop) (x:Value) (w':World):Prop :=
 (∃ v,K v∧Rep I ρ v x∧w'=w) ∨
 (∃ v,K v∧Rep (frzNew I w w') ρ v x∧Grow I w (frzNew I w w') w') ∨
 (∃ T π,B T∧TopOk I π [] T x∧Grow I w I w'∧NewTree I π w' w.heap.size T)
theorem FRes.ret {K B:AV→Prop} {x:Value} (hh:Held I w) (h:FRes I ρ w K B x w'):FRet I ρ w K B x w':=by
 rcases h with ⟨v,h1,h2,rfl⟩ | ⟨v,h1,h2,h3⟩ | ⟨T,π,h1,h2,h3,h4⟩
 ·exact .inl ⟨v,I,h1,h2,.refl hh⟩
 ·exact .inl ⟨v,_,h1,h2,h3⟩
 ·exact .inr ⟨T,I,π,h1,h2,h3,h4⟩

theorem heap_new (w:World) (o:Obj):(w.alloc o).heap[w.heap.size]? = some o:=by
 show (w.heap.push o)[w.heap.size]? = _
 simp
theorem heap_old (w:World) (o:Obj) {k:Nat} (h:k<w.heap.size):(w.alloc o).heap[k]? = w.heap[k]?:=by
 show (w.heap.push o)[k]? = _
 rw [Array.getElem?_push,if_neg (by omega)]
theorem below_alloc (w:World) (o:Obj):BelowX (fun _=>False) w.heap.size w (w.alloc o):=⟨rfl,rfl,rfl,by simp,fun k hk _=>heap_old w o hk⟩
theorem grow_alloc (hh:Held I w) (o:Obj):Grow I w I (w.alloc o):=⟨held_keep hh (below_alloc w o),below_alloc w o,fun _ _ _=>rfl⟩
theorem free_new (hh:Held I w) {b:Nat} (h:w.heap.size≤b) (o:Nat):I b o=none:=by
 cases hx:I b o with
 | none=>rfl
 | some y=>have:=hh.lt hx;omega

theorem leafTree {T:AV} {k:Plc} (hh:Held I w) (hk:w.heap.size≤k.b) (hn:∀ ij p,(T.at (ij :: p)).isNode=false) (hT:NodeOk I (fun p=>if p=[] then some k else none) w' [] T) :
  NewTree I (fun p=>if p=[] then some k else none) w' w.heap.size T:=by
 refine ⟨⟨fun s R p hs=>?_,fun s R p q hs h1 h2 o=>?_,fun s R p q s' R' p' q' hs h1 h2 hs' h1' h2' _=>?_⟩,fun p q h1 h2=>?_⟩
 ·(try simp only at hs);split at hs <;> cases hs
  cases p with
  | nil=>exact hT
  | cons ij p=>exact node_false (hn ij p)
 ·(try simp only at h2);split at h2 <;> cases h2
  exact free_new hh hk o
 ·(try simp only at hs hs' h2 h2')
  split at hs <;> cases hs
  split at hs' <;> cases hs'
  split at h2 <;> cases h2
  split at h2' <;> cases h2'
  simp_all
 ·(try simp only at h2);split at h2 <;> cases h2
  exact hk

theorem tr_leaf {z:Nat} {es:List AV} (h:∀ i (hi:i<es.length),∀ j (hj:j<(es[i]).cells.length),∃ x,RepS I ((es[i]).cells[j]) x):∀ ij p,((AV.tr z es).at (ij :: p)).isNode=false:=by
 intro ij p
 show (AV.at ((es.getD ij.1 .any).cells.getD ij.2 .any) p).isNode=false
 by_cases hi:ij.1<es.length
 ·have e:es.getD ij.1 .any=es[ij.1]:=by simp [List.getD,hi]
  rw [e]
  by_cases hj:ij.2<(es[ij.1]).cells.length
  ·have e:(es[ij.1]).cells.getD ij.2 .any=(es[ij.1]).cells[ij.2]:=by simp [List.getD,hj]
   rw [e]
   obtain ⟨x,hx⟩:=h _ hi _ hj
   exact rs_at hx p
  ·have e:(es[ij.1]).cells.getD ij.2 .any=.any:=by simp [List.getD,List.getElem?_eq_none (Nat.le_of_not_lt hj)]
   rw [e,any_at];rfl
 ·have e:es.getD ij.1 .any=.any:=by simp [List.getD,List.getElem?_eq_none (Nat.le_of_not_lt hi)]
  rw [e]
  cases hj:ij.2 with
  | zero=>show (AV.at .any p).isNode=false;rw [any_at];rfl
  | succ j=>show (AV.at .any p).isNode=false;rw [any_at];rfl
theorem pt_leaf {z:Nat} {x:AV} (h:∀ j (hj:j<x.cells.length),∃ y,RepS I (x.cells[j]) y):∀ ij p,((AV.pt z x).at (ij :: p)).isNode=false:=by
 intro ij p
 obtain ⟨i,j⟩:=ij
 show (AV.at ((AV.pt z x).cellAt i j) p).isNode=false
 cases i with
 | succ i=>show (AV.at .any p).isNode=false;rw [any_at];rfl
 | zero =>
  show (AV.at (x.cells.getD j .any) p).isNode=false
  by_cases hj:j<x.cells.length
  ·have e:x.cells.getD j .any=x.cells[j]:=by simp [List.getD,hj]
   rw [e]
   obtain ⟨y,hy⟩:=h _ hj
   exact rs_at hy p
  ·have e:x.cells.getD j .any=.any:=by simp [List.getD,List.getElem?_eq_none (Nat.le_of_not_lt hj)]
   rw [e,any_at];rfl

theorem newTr {z n:Nat} {es:List AV} {arr:Array Value} {E:TypeId} (hh:Held I w) (hn:es.length=n) (hm:n≤maxLen) (hs:n*z≤arr.size)
  (hr:∀ i (hi:i<es.length),(es[i]).cells.length=z∧∀ j (hj:j<(es[i]).cells.length),RepS I ((es[i]).cells[j]) (arr.getD (i*z+j) undef)∧(arr.getD (i*z+j) undef).oneCell'=true) :
  ∃ π,TopOk I π [] (.tr z es) (.slice (some ⟨w.heap.size,0,none⟩) n n)∧NewTree I π (w.alloc (.cells arr E)) w.heap.size (.tr z es):=by
 refine ⟨fun p=>if p=[] then some ⟨w.heap.size,0,z,n⟩ else none,.inl ⟨rfl,.inl ⟨⟨w.heap.size,0,z,n⟩,rfl,rfl,Nat.le_of_eq hn,by rw [hn]⟩⟩,leafTree hh (Nat.le_refl _) (tr_leaf (I:=I) fun i hi j hj=>⟨_,((hr i hi).2 j hj).1⟩) ?_⟩
 refine .inr ⟨⟨w.heap.size,0,z,n⟩,E,arr,rfl,rfl,Nat.le_of_eq hn,hm,heap_new w _,by simpa using hs,fun i hi=>⟨(hr i hi).1,fun j hj=>?_⟩⟩
 rw [Nat.zero_add]
 exact ⟨rs_cell ((hr i hi).2 j hj).1 _,((hr i hi).2 j hj).2⟩
theorem newPt {z:Nat} {x:AV} {arr:Array Value} {E:TypeId} (hh:Held I w) (hz:x.cells.length=z) (hs:z≤arr.size)
  (hr:∀ j (hj:j<x.cells.length),RepS I (x.cells[j]) (arr.getD j undef)∧(arr.getD j undef).oneCell'=true) :
  ∃ π,TopOk I π [] (.pt z x) (.pointer (some ⟨w.heap.size,0,none⟩))∧NewTree I π (w.alloc (.cells arr E)) w.heap.size (.pt z x):=by
 refine ⟨fun p=>if p=[] then some ⟨w.heap.size,0,z,1⟩ else none,.inl ⟨rfl,⟨w.heap.size,0,z,1⟩,rfl,rfl,Nat.le_refl _,rfl⟩,leafTree hh (Nat.le_refl _) (pt_leaf (I:=I) fun j hj=>⟨_,(hr j hj).1⟩) ?_⟩
 refine .inr ⟨⟨w.heap.size,0,z,1⟩,E,arr,rfl,rfl,Nat.le_refl _,by simp [maxLen],heap_new w _,by simpa using hs,fun i hi=>?_⟩
 have hi0:i=0:=by simpa using hi
 subst hi0
 refine ⟨hz,fun j hj=>?_⟩
 have hj':j<x.cells.length:=hj
 have:=hr j hj'
 simp only [Nat.zero_mul,Nat.zero_add,List.getElem_cons_zero]
 exact ⟨rs_cell this.1 _,this.2⟩

theorem Yields.run {o:Oper} {a:Act} {K B:AV→Prop} {s:Sem Value} (h:Yields P I ρ w s K) (he:execOp a.eval o=(do pure (.value (← s)))) :
  ∃ x w',(execOp a.eval o).run P w=.ok (.value x) w'∧FRes I ρ w K B x w':=by
 obtain ⟨v,x,h1,h2,h3⟩:=h
 exact ⟨x,w,by rw [he];simp [h1],.inl ⟨v,h2,h3,rfl⟩⟩

theorem zero_elem {z:List Value} {g:Bool} (hg:g=true∨z.length=1) (h1:z.all Value.oneCell'=true):(zeroE g z).cells.length=z.length ∧
  ∀ j (hj:j<z.length),(zeroE g z).cells[j]? = some (.v (z[j]))∧(z[j]).oneCell'=true:=by
 have h2:∀ j (hj:j<z.length),(z[j]).oneCell'=true:=fun j hj=>List.all_eq_true.1 h1 _ (List.getElem_mem hj)
 cases g with
 | true=>exact ⟨by simp [AV.cells,zeroE],fun j hj=>⟨by simp [AV.cells,zeroE,hj],h2 j hj⟩⟩
 | false =>
  have hz:z.length=1:=hg.resolve_left (by simp)
  refine ⟨by simp [AV.cells,zeroE,hz],fun j hj=>⟨?_,h2 j hj⟩⟩
  have hj0:j=0:=by omega
  subst hj0
  cases z with
  | nil=>simp at hz
  | cons a r=>rfl

theorem fop_run {ev:Operand→AV} {mem:Nat→Option AV} {a:Act} (e:Env P I ρ ev mem a w) {d:Option Nat} {o:Op} {t:TypeId} {pos:String} {after:Array Edge} {g:Option (Nat×Bool)} {K B:AV→Prop}
    (hcall:isCallV o=false) (h:fop P ev mem o K B .mk .mk):∃ x w',(execOp a.eval ⟨d,o,t,pos,after,g⟩).run P w=.ok (.value x) w'∧FRes I ρ w K B x w':=by
  cases o <;> unfold fop at h <;> try exact h.elim
  case move x=>exact Yields.run (s:=pure (a.eval x)) ⟨_,_,by simp,h,e.ev x⟩ (by simp [execOp])
  case assign x=>exact Yields.run (s:=pure (a.eval x)) ⟨_,_,by simp,h,e.ev x⟩ (by simp [execOp])
  case pick c x y=>exact Yields.run (pickP_sound h (e.ev c) (e.ev x) (e.ev y)) (by simp [execOp])
  case load t' x=>exact Yields.run (loadP_sound e.held e.mem h (e.ev x)) rfl
  case binOp op xt x y yt=>exact Yields.run (binP_sound (xo:=x) (yo:=y) h (e.ev x) (e.ev y)) rfl
  case unOp op xt x=>exact Yields.run (unP_sound h (e.ev x)) rfl
  case convert src dst x=>exact Yields.run (convP_sound e.mem h (e.ev x)) rfl
  case fieldAddr t' x i=>exact Yields.run (fieldAP_sound h (e.ev x)) rfl
  case field t' x i=>exact Yields.run (fieldP_sound h (e.ev x)) rfl
  case indexAddr t' x i=>exact Yields.run (indexAP_sound h (e.ev x) (e.ev i)) rfl
  case index t' x i=>exact Yields.run (strIndexP_sound h (e.ev x) (e.ev i)) rfl
  case lookup t' x i ok=>exact Yields.run (lookP_sound e.mem h (e.ev x) (e.ev i)) rfl
  case extract x i=>exact Yields.run (tupP_sound h (e.ev x)) rfl
  case call c =>
    obtain ⟨callee,args,argTypes⟩:=c
    cases callee with
    | value x=>cases hcall
    | invoke r m=>exact h.elim
    | builtin b =>
      unfold callOp at h
      cases b <;> try exact h.elim
      case len =>
        simp only at h
        split at h
        · rename_i x t' ts hx ht
          have hargs:args = #[x]:=by apply Array.toList_inj.1;simpa using hx
          have hat:argTypes=(t' :: ts).toArray:=by apply Array.toList_inj.1;simpa using ht
          subst hargs
          subst hat
          obtain ⟨v,y,h1,h2,h3⟩:=lenP_sound (P:=P) (I:=I) (ρ:=ρ) (w:=w) h (e.ev x) (ts:=t' :: ts) rfl (by simp) t
          refine ⟨y,w,?_,.inl ⟨v,h2,h3,rfl⟩⟩
          simp [execOp,resolve,invoke,builtin] at h1 ⊢
          simp [h1]
        · exact h.elim
      case min =>
        simp only at h
        split at h
        · rename_i x y hx
          have hargs:args = #[x,y]:=by apply Array.toList_inj.1;simpa using hx
          subst hargs
          obtain ⟨v,z,h1,h2,h3⟩:=minmaxP_sound (P:=P) (I:=I) (ρ:=ρ) (w:=w) h (e.ev x) (e.ev y) argTypes t
          refine ⟨z,w,?_,.inl ⟨v,h2,h3,rfl⟩⟩
          simp [execOp,resolve,invoke,builtin] at h1 ⊢
          simp [h1]
        · exact h.elim
      case max =>
        simp only at h
        split at h
        · rename_i x y hx
          have hargs:args = #[x,y]:=by apply Array.toList_inj.1;simpa using hx
          subst hargs
          obtain ⟨v,z,h1,h2,h3⟩:=minmaxP_sound (P:=P) (I:=I) (ρ:=ρ) (w:=w) h (e.ev x) (e.ev y) argTypes t
          refine ⟨z,w,?_,.inl ⟨v,h2,h3,rfl⟩⟩
          simp [execOp,resolve,invoke,builtin] at h1 ⊢
          simp [h1]
        · exact h.elim
  case slice t' x lo hi mx =>
    cases mx with
    | some _=>exact h.elim
    | none =>
      have hx:(P.underlying t').isSome=true∧∀ n el,P.underlying t'≠some (.array n el):=by
        have h':=h
        simp only at h'
        unfold sliceP at h'
        split at h'
        · have:=stringT_spec h'.1.1;simp [this]
        · obtain ⟨q,hq,_⟩:=Option.map_eq_some_iff.1 h'.1.1;have:=(elemT_spec hq).1;simp [this]
        · obtain ⟨q,hq,_⟩:=Option.map_eq_some_iff.1 h'.1.1;have:=(elemT_spec hq).1;simp [this]
        · obtain ⟨q,hq⟩:=Option.isSome_iff_exists.1 h'.1.1;have:=(elemT_spec hq).1;simp [this]
        · exact h'.elim
      have hy:=sliceP_sound (P:=P) (w:=w) (lo':=lo.map a.eval) (hi':=hi.map a.eval) h (e.ev x) (by cases lo with | none=>exact .inr ⟨rfl,rfl⟩ | some l=>exact .inl ⟨_,rfl,e.ev l⟩) (by cases hi with | none=>exact .inr ⟨rfl,rfl⟩ | some l=>exact .inl ⟨_,rfl,e.ev l⟩)
      obtain ⟨v,y,h1,h2,h3⟩:=hy
      refine Yields.run (s:=Instr.sliceAt t' (a.eval x) (lo.map a.eval) (hi.map a.eval) none) ⟨v,y,?_,h2,h3⟩ rfl
      obtain ⟨q,hq⟩:=Option.isSome_iff_exists.1 hx.1
      unfold Instr.sliceAt
      simp only [Sem.run_bind,run_underlying hq,Result.andThen_ok]
      cases q <;> first | exact (hx.2 _ _ hq).elim | exact h1
  case nilCheck x =>
    simp only at h
    unfold nilP at h
    split at h
    · rename_i s p i j hx
      have r:=e.ev x
      rw [hx] at r
      obtain ⟨k,_,hr⟩:=rep_loc r
      refine Yields.run (s:=pure (a.eval x)) ⟨_,_,by simp,h,r⟩ ?_
      simp [execOp,hr]
    · rename_i cs hx
      have r:=e.ev x
      rw [hx] at r
      refine Yields.run (s:=pure (a.eval x)) ⟨_,_,by simp,h,r⟩ ?_
      obtain ⟨b,off,hr⟩:∃ b off,a.eval x=.pointer (some ⟨b,off,none⟩):=by
        have r':=rep_ep r
        generalize a.eval x=u at r'
        cases r' with | ep _ b off vals _ _=>exact ⟨b,off,rfl⟩
      simp [execOp,hr]
    · rename_i cs hx
      have r:=e.ev x
      rw [hx] at r
      refine Yields.run (s:=pure (a.eval x)) ⟨_,_,by simp,h,r⟩ ?_
      obtain ⟨b,off,_,_,_,hr⟩:=rep_bx r
      simp [execOp,hr]
    · exact h.elim
  case makeMap t' r =>
    cases r with
    | some _=>exact h.elim
    | none =>
      simp only at h
      cases hm:mapT P t' with
      | none=>rw [hm] at h;exact h.elim
      | some ke =>
        rw [hm] at h
        refine ⟨.map (some w.heap.size),w.alloc (.map #[] 0),by simp [execOp,Instr.makeMap],.inr (.inr ⟨_,fun p=>if p=[] then some ⟨w.heap.size,0,0,0⟩ else none,h,.inl ⟨rfl,⟨w.heap.size,0,0,0⟩,rfl,rfl⟩,grow_alloc e.held _,leafTree e.held (Nat.le_refl _) (fun ij p=>?_) ?_⟩)⟩
        · show (AV.at .any p).isNode=false;rw [any_at];rfl
        · exact ⟨_,#[],0,rfl,heap_new w _,⟨(fun e he=>by simp at he),(fun k x hk=>by cases hk),List.Pairwise.nil⟩⟩
  case makeFunc f first caps =>
    cases f <;> try exact h.elim
    rename_i f
    obtain ⟨h0,k⟩:=h
    have hf:first = #[]:=Array.eq_empty_of_size_eq_zero h0
    subst hf
    refine Yields.run (s:=pure (.func (.func f) #[] (caps.map a.eval))) ⟨_,.func (.func f) #[] (caps.map a.eval),by simp,k,.fn f _ (caps.map a.eval) (by simp) fun j hj hk=>?_⟩ (by simp [execOp,Instr.makeFunc])
    simp at hj hk ⊢
    exact e.ev _
  case alloc t' =>
    simp only at h
    cases hz:zeroT P t' with
    | none=>rw [hz] at h;exact h.elim
    | some z =>
      rw [hz] at h
      cases hg:aggT P t' with
      | none=>rw [hg] at h;exact h.elim
      | some gg =>
      rw [hg] at h
      obtain ⟨⟨h1,h2⟩,k⟩:=h
      obtain ⟨i,v,hi,hv,rfl⟩:=zeroT_spec hz
      obtain ⟨q1,q2⟩:=zero_elem (z:=v.cells.toList) (g:=gg) h2 h1
      obtain ⟨π,n1,n2⟩:=newPt (I:=I) (w:=w) (E:=t') (arr:=v.cells) e.held q1 (by simp) (fun j hj=>by
        have hj':j<v.cells.toList.length:=by rw [← q1];exact hj
        obtain ⟨q3,q4⟩:=q2 j hj'
        have hj2:j<v.cells.size:=by simpa using hj'
        have e3:=List.getElem?_eq_getElem hj
        rw [q3] at e3
        have e4:=Option.some.inj e3
        rw [← e4]
        have e5:v.cells.getD j undef=v.cells.toList[j]:=by simp [Array.getD,hj2]
        rw [e5];exact ⟨.v _,q4⟩)
      refine ⟨.pointer (some ⟨w.heap.size,0,none⟩),w.alloc (.cells v.cells t'),?_,.inr (.inr ⟨_,π,k,n1,grow_alloc e.held _,n2⟩)⟩
      simp [execOp,Instr.alloc,zeroValue,typeInfo,hi,hv,newVar,newRow]
  case box t' x =>
    obtain ⟨⟨h1,h2⟩,k⟩:=h
    obtain ⟨r1,r2⟩:=rep_cells (.stat (nb_stat (e.ev x) h2):Rep I ρ _ _) h1
    have rs:=nb_stat (e.ev x) h2
    have cellS:∀ j (hj:j<(ev x).cells.length) (hk:j<(a.eval x).cells.size),RepS I ((ev x).cells[j]) ((a.eval x).cells[j]):=by
      intro j hj hk
      generalize ev x=A at rs hj h1 ⊢
      generalize a.eval x=X at rs hk ⊢
      cases rs with
      | agg fs arr hn hr=>exact hr j hj hk
      | any=>simp [knownCells,oneC] at h1
      | tup=>simp [knownCells,oneC] at h1
      | v _ =>
        have:X.cells = #[X]:=by cases X <;> simp [knownCells,oneC] at h1 <;> rfl
        have hj0:j=0:=by simpa [AV.cells] using hj
        subst hj0
        simp only [AV.cells,List.getElem_cons_zero,this]
        exact .v _
      | nil sz a => have hj0:j=0:=by simpa [AV.cells] using hj
                    subst hj0;exact .nil sz a
      | nila sz a cap => have hj0:j=0:=by simpa [AV.cells] using hj
                         subst hj0;exact .nila sz a cap
      | sl sz es b off cap vals hsz hc hI hr => have hj0:j=0:=by simpa [AV.cells] using hj
                                                subst hj0;exact .sl sz es b off cap vals hsz hc hI hr
      | ep cs b off vals hI hr => have hj0:j=0:=by simpa [AV.cells] using hj
                                  subst hj0;exact .ep cs b off vals hI hr
      | fn f caps arr hn hr => have hj0:j=0:=by simpa [AV.cells] using hj
                               subst hj0;exact .fn f caps arr hn hr
      | ifc t x => have hj0:j=0:=by simpa [AV.cells] using hj
                   subst hj0;exact .ifc t x
    obtain ⟨π,n1,n2⟩:=newPt (I:=I) (w:=w) (E:=t') (arr:=(a.eval x).cells) (x:=ev x) e.held rfl (by omega) (fun j hj=>by
      have hk:j<(a.eval x).cells.size:=by omega
      have e5:(a.eval x).cells.getD j undef=(a.eval x).cells[j]:=by simp [Array.getD,hk]
      rw [e5];exact ⟨cellS j hj hk,(r2 j hj hk).2⟩)
    refine ⟨.pointer (some ⟨w.heap.size,0,none⟩),w.alloc (.cells (a.eval x).cells t'),?_,.inr (.inr ⟨_,π,k,n1,grow_alloc e.held _,n2⟩)⟩
    simp [execOp,Instr.box,newVar,newRow]
  case build t' ps =>
    simp only at h
    cases hz:zeroT P t' with
    | none=>rw [hz] at h;exact h.elim
    | some z =>
      rw [hz] at h
      simp only [optP] at h
      split at h
      · rename_i cs hb
        obtain ⟨h1,k⟩:=h
        obtain ⟨i,v,hi,hv,rfl⟩:=zeroT_spec hz
        obtain ⟨fs,hu,hfs⟩:=structT_spec h1
        obtain ⟨arr,a1,a2,a3⟩:=fill_sound (I:=I) (ρ:=ρ) hu (ps.toList.map fun p=>(p.1,ev p.2)) (ps.toList.map fun p=>(p.1,a.eval p.2)) _ cs v.cells hb (by simp)
          (fun j hj hk=>by simp at hj hk ⊢;exact e.ev _) (by simp) (fun j hj hk=>by simp;exact .stat (.v _))
        refine Yields.run (s:=Instr.build t' (ps.map fun p=>(p.1,a.eval p.2))) ⟨_,.agg arr,?_,k,.agg _ _ a2 a3⟩ rfl
        have hzero:(zeroValue t').run P w=.ok v w:=by simp [zeroValue,typeInfo,hi,hv]
        unfold Instr.build
        simp only [Sem.run_bind,hzero,run_underlying hu,Result.andThen_ok,run_places hfs,Array.toList_map,a1,Sem.run_pure]
      · exact h.elim
  case buildSlice t' n ps =>
    simp only at h
    cases he:elemT P t' with
    | none=>rw [he] at h;exact h.elim
    | some el =>
      rw [he] at h
      obtain ⟨⟨h1,h2,h2',h3,h4⟩,k⟩:=h
      obtain ⟨hu,inf,hinf⟩:=elemT_spec he
      obtain ⟨z,hz,hzl⟩:∃ z,inf.zero=some z∧z.cells.size=sizeT P el:=by
        unfold zeroT at h4
        rw [hinf] at h4
        simp only [Option.map_map,Option.map_eq_some_iff,Function.comp] at h4
        obtain ⟨z,hz,hl⟩:=h4
        exact ⟨z,hz,by simpa using hl⟩
      obtain ⟨c1,c2,c3,c4⟩:=flat_cells ps.toList ev a _ e.ev h3
      have hlen:ps.toList.length=n:=by have:=congrArg List.length h1;simpa using this
      have hrun:=run_buildSlice (w:=w) hu hinf hz hzl (ps.toList.map fun p=>a.eval p.2) (by intro v hv;obtain ⟨p,hp,rfl⟩:=List.mem_map.1 hv;exact c3 p hp) (by simp [hlen];omega)
      have hparts:(((ps.toList.map fun p=>a.eval p.2).zipIdx.map fun p=>(p.2,p.1)).toArray)=ps.map fun p=>(p.1,a.eval p.2):=by
        apply Array.toList_inj.1
        simp only [List.toList_toArray,Array.toList_map]
        apply List.ext_getElem
        · simp
        · intro j q1 q2
          simp at q1 q2 ⊢
          have:(ps.toList.map (·.1))[j]? = (List.range n)[j]?:=by rw [h1]
          have hjn:j<n:=by rw [← hlen,Array.length_toList];exact q1
          rw [List.getElem?_range hjn] at this
          simp [q1] at this
          exact this.symm
      rw [hparts] at hrun
      simp only [List.length_map,hlen] at hrun
      have hrun2:(execOp a.eval ⟨d,.buildSlice t' n ps,t,pos,after,g⟩).run P w=.ok (.value (.slice (some ⟨w.heap.size,0,none⟩) n n)) (w.alloc (.cells (ps.toList.flatMap fun p=>(a.eval p.2).cells.toList).toArray el)):=by
        have he':execOp a.eval ⟨d,.buildSlice t' n ps,t,pos,after,g⟩=(do pure (.value (← Instr.buildSlice t' n (ps.map fun p=>(p.1,a.eval p.2))))):=rfl
        rw [he']
        simp only [Sem.run_bind,hrun,Result.andThen_ok,Sem.run_pure]
        congr 2
        simp [List.flatMap_map]
      let arr:=(ps.toList.flatMap fun p=>(a.eval p.2).cells.toList).toArray
      have hsz:arr.size=n*sizeT P el:=by show (List.toArray _).size=_;rw [List.size_toArray,c2,hlen]
      have hes:(ps.toList.map fun p=>ev p.2).length=n:=by simpa using hlen
      have hcell:∀ i (hi:i<(ps.toList.map fun p=>ev p.2).length),((ps.toList.map fun p=>ev p.2)[i]).cells.length=sizeT P el∧∀ j (hj:j<((ps.toList.map fun p=>ev p.2)[i]).cells.length),Rep I ρ (((ps.toList.map fun p=>ev p.2)[i]).cells[j]) (arr.getD (i*sizeT P el+j) undef)∧(arr.getD (i*sizeT P el+j) undef).oneCell'=true:=by
        intro i hi
        have hal:=List.all_eq_true.1 h3
        have hip:i<ps.toList.length:=by simpa using hi
        have hi1:=hal _ (List.getElem_mem hip)
        simp only [Bool.and_eq_true,decide_eq_true_eq] at hi1
        have hg:(ps.toList.map fun p=>ev p.2)[i]=ev (ps.toList[i]).2:=by simp
        rw [hg]
        refine ⟨hi1.1,fun j hj=>?_⟩
        have hj':j<sizeT P el:=by rw [← hi1.1];exact hj
        obtain ⟨r1,r2⟩:=rep_cells (e.ev (ps.toList[i]).2) hi1.2
        have hlt:i*sizeT P el+j<n*sizeT P el:=by
          have:(i+1)*sizeT P el≤n*sizeT P el:=Nat.mul_le_mul_right _ (by omega)
          rw [Nat.add_mul,Nat.one_mul] at this;omega
        have key:∀ (l:List (Nat×Operand)) (i:Nat) (hi:i<l.length),(∀ p∈l,(a.eval p.2).cells.size=sizeT P el)→j<sizeT P el→(l.flatMap fun p=>(a.eval p.2).cells.toList)[i*sizeT P el+j]? = (a.eval (l[i]).2).cells[j]?:=by
          intro l
          induction l with
          | nil=>intro i hi;cases hi
          | cons q r ih =>
            intro i hi hall hj
            simp only [List.flatMap_cons]
            have hq:(a.eval q.2).cells.toList.length=sizeT P el:=by simpa using hall q (by simp)
            cases i with
            | zero=>rw [List.getElem?_append_left (by omega)];simp
            | succ i =>
              rw [List.getElem?_append_right (by rw [hq,Nat.add_mul];omega),hq]
              have e1:(i+1)*sizeT P el+j - sizeT P el=i*sizeT P el+j:=by rw [Nat.add_mul];omega
              rw [e1]
              simpa using ih i (by simpa using hi) (fun p hp=>hall p (by simp [hp])) hj
        have hk:=key ps.toList i hip c3 hj'
        have hjx:j<(a.eval (ps.toList[i]).2).cells.size:=by omega
        have e2:arr.getD (i*sizeT P el+j) undef=(a.eval (ps.toList[i]).2).cells[j]:=by
          rw [Array.getD_eq_getD_getElem?]
          show ((List.toArray _)[_]?).getD undef=_
          rw [List.getElem?_toArray,hk,Array.getElem?_eq_getElem hjx];rfl
        rw [e2]
        exact r2 j hj hjx
      have hm':n≤maxLen:=by simp only [maxLen];omega
      refine ⟨_,_,hrun2,?_⟩
      cases hb:AV.bearsL (ps.toList.map fun p=>ev p.2) with
      | false =>
        rw [hb] at k
        have hcs:∀ i (hi:i<(ps.toList.map fun p=>ev p.2).length) j (hj:j<((ps.toList.map fun p=>ev p.2)[i]).cells.length),RepS I (((ps.toList.map fun p=>ev p.2)[i]).cells[j]) (arr.getD (i*sizeT P el+j) undef):=by
          intro i hi j hj
          have hb1:=bearsL_get hb i hi
          refine nb_stat ((hcell i hi).2 j hj).1 ?_
          generalize (ps.toList.map fun p=>ev p.2)[i]=A at hb1 hj ⊢
          cases A <;> try (have hj0:j=0:=by simpa [AV.cells] using hj
                           subst hj0;exact hb1)
          simp only [AV.bears] at hb1
          exact bearsL_get hb1 j hj
        obtain ⟨π,n1,n2⟩:=newTr (I:=I) (w:=w) (E:=el) (arr:=arr) (z:=sizeT P el) (n:=n) e.held hes hm' (by omega) (fun i hi=>⟨(hcell i hi).1,fun j hj=>⟨hcs i hi j hj,((hcell i hi).2 j hj).2⟩⟩)
        exact .inr (.inr ⟨_,π,k,n1,grow_alloc e.held _,n2⟩)
      | true =>
        rw [hb] at k
        have hg:Grow I w (frzNew I w (w.alloc (.cells arr el))) (w.alloc (.cells arr el)):=by
          refine ⟨⟨fun b o x hx=>?_,fun b cs h=>by obtain ⟨t,f,x,h1,h2⟩:=e.held.base b cs h;have q:=e.held.lt h2;exact ⟨t,f,x,((below_alloc w _).block b q (fun q=>q)).trans h1,by unfold frzNew;rw [if_neg (by omega)];exact h2⟩⟩,below_alloc w _,fun b o hb=>by unfold frzNew;rw [if_neg (by omega)]⟩
          unfold frzNew at hx
          split at hx
          · split at hx
            · rename_i y hy
              split at hx
              · cases hx;exact ⟨hy,by assumption⟩
              · cases hx
            · cases hx
          · exact (grow_alloc e.held (.cells arr el)).held.cell b o x hx
        refine .inr (.inl ⟨_,k,?_,hg⟩)
        have:=Rep.lst (I:=frzNew I w (w.alloc (.cells arr el))) (ρ:=ρ) (sizeT P el) (ps.toList.map fun p=>ev p.2) w.heap.size 0 n (fun i j=>arr.getD (i*sizeT P el+j) undef) (fun i hi=>(hcell i hi).1) (by rw [hes];exact Nat.le_refl _)
          (fun i hi j hj=>by
            have hji:j<((ps.toList.map fun p=>ev p.2)[i]).cells.length:=by rw [(hcell i hi).1];exact hj
            have hlt:i*sizeT P el+j<arr.size:=by
              rw [hsz]
              have:(i+1)*sizeT P el≤n*sizeT P el:=Nat.mul_le_mul_right _ (by omega)
              rw [Nat.add_mul,Nat.one_mul] at this;omega
            unfold frzNew
            rw [if_pos rfl,Nat.zero_add,cell_arr (heap_new w _) hlt]
            simp only
            rw [if_pos ((hcell i hi).2 j hji).2])
          (fun i hi j hj=>(((hcell i hi).2 j hj).1).mono (hg.le e.held))
        rw [hes] at this
        exact this
  case makeSlice t' l c =>
    simp only at h
    cases he:elemT P t' with
    | none=>rw [he] at h;exact h.elim
    | some el =>
      rw [he] at h
      simp only [optP] at h
      split at h
      · rename_i z hz
        split at h
        · rename_i gg hgg
          simp only [intP] at h
          split at h
          · rename_i kl n hn
            split at h
            · rename_i kc n' hn'
              obtain ⟨⟨rfl,h0,h1,h2,h3,h3',h5,h4⟩,k⟩:=h
              obtain ⟨hu,inf,hinf⟩:=elemT_spec he
              obtain ⟨i,v,hi,hv,hvc⟩:=zeroT_spec hz
              rw [hinf] at hi;cases hi
              have r1:=e.ev l;rw [hn] at r1;have r1:=rep_v r1
              have r2:=e.ev c;rw [hn'] at r2;have r2:=rep_v r2
              have hb:bytesT P el=inf.bytes:=by simp [bytesT,hinf]
              have hsz:inf.size=z.length:=by have:=h3;simpa [sizeT,hinf] using this
              have hbytes:(inf.bytes:Int)*n'≤281474976710656:=by
                have hq:(inf.bytes:Int)≤64:=by omega
                calc (inf.bytes:Int)*n'≤64*1099511627776:=Int.mul_le_mul hq h1 h0 (by omega)
                  _≤281474976710656:=by omega
              have hrun:=run_make (P:=P) w t' el inf v hu hinf hv kl kc n' n' h0 (Int.le_refl _) hbytes (by omega)
              rw [hsz] at hrun
              have hcs:v.cells.size=z.length:=by rw [← hvc];simp
              obtain ⟨q1,q2⟩:=zero_elem (z:=z) (g:=gg) h5 h4
              obtain ⟨π,n1,n2⟩:=newTr (I:=I) (w:=w) (E:=el) (arr:=madeCells v.cells (n'.toNat*z.length)) (z:=sizeT P el) (n:=n'.toNat)
                (es:=List.replicate n'.toNat (zeroE gg z)) e.held (by simp) (by simp only [maxLen];omega) (by rw [size_madeCells,h3];exact Nat.le_refl _) (fun i hi=>by
                  have hi':i<n'.toNat:=by simpa using hi
                  rw [List.getElem_replicate]
                  refine ⟨by rw [q1,h3],fun j hj=>?_⟩
                  have hj':j<z.length:=by rw [← q1];exact hj
                  obtain ⟨q3,q4⟩:=q2 j hj'
                  have e3:=List.getElem?_eq_getElem hj
                  rw [q3] at e3
                  have e4:=Option.some.inj e3
                  have hlt:i*z.length+j<n'.toNat*z.length:=by
                    have:(i+1)*z.length≤n'.toNat*z.length:=Nat.mul_le_mul_right _ hi'
                    rw [Nat.add_mul,Nat.one_mul] at this;omega
                  have e5:(madeCells v.cells (n'.toNat*z.length)).getD (i*sizeT P el+j) undef=z[j]:=by
                    rw [h3,Array.getD_eq_getD_getElem?,Array.getElem?_eq_getElem (by rw [size_madeCells];exact hlt)]
                    unfold madeCells
                    simp only [Array.getElem_map,Array.getElem_range,hcs,Option.getD_some]
                    have e6:(i*z.length+j) % z.length=j:=by rw [Nat.mul_comm,Nat.mul_add_mod];exact Nat.mod_eq_of_lt hj'
                    rw [e6]
                    have hjv:j<v.cells.size:=by omega
                    simp only [hjv,getElem!_pos]
                    simp only [← hvc,Array.getElem_toList]
                  rw [e5,← e4]
                  exact ⟨.v _,q4⟩)
              refine ⟨.slice (some ⟨w.heap.size,0,none⟩) n'.toNat n'.toNat,w.alloc (.cells (madeCells v.cells (n'.toNat*z.length)) el),?_,.inr (.inr ⟨_,π,k,n1,grow_alloc e.held _,n2⟩)⟩
              have he':execOp a.eval ⟨d,.makeSlice t' l c,t,pos,after,g⟩=(do pure (.value (← Instr.makeSlice t' (a.eval l) (a.eval c)))):=rfl
              rw [he',r1,r2]
              simp only [Sem.run_bind,hrun,Result.andThen_ok,Sem.run_pure]
            · exact h.elim
          · exact h.elim
        · exact h.elim
      · exact h.elim
end
end Go.AM
